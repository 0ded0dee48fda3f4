/-
  THE LAW FnFormulas: its walk.
-/
import Derived.Test.YthmnlbgbacbocaaDrG
import Derived.Test.YthmnlbgbacbocaaBig
import Derived.Test.YthmnlbgbacbocaaLike
import Derived.Test.YthmnlbgbacbocaaZFormL
import Derived.Test.YthmnlbgbacbocaaMulF2
import Derived.Test.YthmnlbgbacbocaaMulF3
import Derived.Test.YthmnlbgbacbocaaPow2
import Derived.Test.YthmnlbgbacbocaaEq1
import Derived.Test.YthmnlbgbacbocaaFm6
import Derived.Test.YthmnlbgbacbocaaFm5
set_option linter.unusedVariables false
namespace Go.Proofs.Ythmnlbgbacbocaa
open Go.RowKit
set_option maxRecDepth 100000 in
set_option maxHeartbeats 12800000 in
theorem law_FnFormulas {n : Nat} {v : Value} (w : World) (h : K.byts w w.heap.size v n) :
    Calls Try.prog 4 #[v] w fun e w' => e = .returned (.bool true) ∧ K.Ext w w' := by
  have F0 : K.Ext w w := K.Ext.refl _
  rcases Nat.lt_or_ge 4096 n with hn | hn
  · go_enter Try.func4, Try.ntmps4
    go_wp2_with fail
    refine K.call (by with_reducible rfl) (by with_reducible rfl) (big_yes _ hn h) ?_
    rintro e w1 ⟨rfl, rfl⟩
    go_wp2_with fail
    go_ret
    exact ⟨rfl, F0⟩
  go_enter Try.func4, Try.ntmps4
  go_wp2_with fail
  refine K.call (by with_reducible rfl) (by with_reducible rfl) (big_no _ hn h) ?_
  rintro e w1 ⟨rfl, rfl⟩
  go_wp2_with fail
  refine K.call (by with_reducible rfl) (by with_reducible rfl) (DrawMultiplyFormulas_any _ hn (K.Ext.size (by repeat' (first | with_reducible exact F0 | with_reducible refine K.Ext.setCell ?_ ?_ _ | with_reducible refine K.Ext.alloc ?_ _ | with_reducible refine K.Ext.drew ?_ | (dsimp only; omega) | omega | (simp; omega)))) (h.ext (by repeat' (first | with_reducible exact F0 | with_reducible refine K.Ext.setCell ?_ ?_ _ | with_reducible refine K.Ext.alloc ?_ _ | with_reducible refine K.Ext.drew ?_ | (dsimp only; omega) | omega | (simp; omega))))) ?_
  rintro e w1 ⟨⟨F, pF, G, pG, rfl, ⟨a1, a2⟩, hF1, ⟨a3, a4⟩, hG1⟩, f1⟩
  obtain ⟨oF, kF, rfl, _⟩ := id (hF1)
  have IF_1 : K.ints w1 0 w1.heap.size (.slice oF F.pw.length kF) F.pw := (hF1).mono (Nat.zero_le _) (by omega)
  obtain ⟨oG, kG, rfl, _⟩ := id (hG1)
  have IG_1 : K.ints w1 0 w1.heap.size (.slice oG G.pw.length kG) G.pw := (hG1).mono (Nat.zero_le _) (by omega)
  have F1 : K.Ext w w1 := K.Ext.trans (by repeat' (first | with_reducible exact F0 | with_reducible refine K.Ext.setCell ?_ ?_ _ | with_reducible refine K.Ext.alloc ?_ _ | with_reducible refine K.Ext.drew ?_ | (dsimp only; omega) | omega | (simp; omega))) f1
  clear f1
  go_wp2_with fail
  refine K.call (by with_reducible rfl) (by with_reducible rfl) (impl_MultiplyFormulas F G _ (by omega) (by omega) (show K.ints _ 0 w1.heap.size (.slice oF F.pw.length kF) F.pw from by with_reducible repeat' (first | exact IF_1 | refine K.ints.alloc ?_ _ | refine K.ints.drew ?_ | refine K.ints.set ?_ _ ?_ _ | (dsimp only; omega) | omega | (simp; done) | (simp; omega))) (by omega) (by omega) (show K.ints _ 0 w1.heap.size (.slice oG G.pw.length kG) G.pw from by with_reducible repeat' (first | exact IG_1 | refine K.ints.alloc ?_ _ | refine K.ints.drew ?_ | refine K.ints.set ?_ _ ?_ _ | (dsimp only; omega) | omega | (simp; done) | (simp; omega)))) ?_
  rintro e w2 ⟨⟨pP, rfl, hP⟩, f2⟩
  have JP := K.own.ints hP
  obtain ⟨oP, kP, rfl, _⟩ := id (JP)
  have IP_2 : K.ints w2 0 w2.heap.size (.slice oP ((Z.MultiplyFormulas F G).1).pw.length kP) ((Z.MultiplyFormulas F G).1).pw := (JP).mono (Nat.zero_le _) (by omega)
  have F2 : K.Ext w w2 := K.Ext.trans (by repeat' (first | with_reducible exact F1 | with_reducible refine K.Ext.setCell ?_ ?_ _ | with_reducible refine K.Ext.alloc ?_ _ | with_reducible refine K.Ext.drew ?_ | (dsimp only; omega) | omega | (simp; omega))) f2
  have c2_0_0 : w2.cell? ⟨w1.heap.size, 0, none⟩ = some (.int .i64 F.dg) := f2.cell_of (by go_simp)
  have c2_0_1 : w2.cell? ⟨w1.heap.size, 1, none⟩ = some (.int .i64 F.tn) := f2.cell_of (by go_simp)
  have c2_0_2 : w2.cell? ⟨w1.heap.size, 2, none⟩ = some (.string F.nm) := f2.cell_of (by go_simp)
  have c2_0_3 : w2.cell? ⟨w1.heap.size, 3, none⟩ = some (.slice oF F.pw.length kF) := f2.cell_of (by go_simp)
  have y2_0 : w1.heap.size < w2.heap.size := World.block_lt_of_cell? w2 _ c2_0_0
  have c2_1_0 : w2.cell? ⟨w1.heap.size + 1, 0, none⟩ = some (.int .i64 G.dg) := f2.cell_of (by go_simp)
  have c2_1_1 : w2.cell? ⟨w1.heap.size + 1, 1, none⟩ = some (.int .i64 G.tn) := f2.cell_of (by go_simp)
  have c2_1_2 : w2.cell? ⟨w1.heap.size + 1, 2, none⟩ = some (.string G.nm) := f2.cell_of (by go_simp)
  have c2_1_3 : w2.cell? ⟨w1.heap.size + 1, 3, none⟩ = some (.slice oG G.pw.length kG) := f2.cell_of (by go_simp)
  have y2_1 : w1.heap.size + 1 < w2.heap.size := World.block_lt_of_cell? w2 _ c2_1_0
  have IF_2 := K.ints.ext (show K.ints _ 0 w1.heap.size (.slice oF F.pw.length kF) F.pw from by with_reducible repeat' (first | exact IF_1 | refine K.ints.alloc ?_ _ | refine K.ints.drew ?_ | refine K.ints.set ?_ _ ?_ _ | (dsimp only; omega) | omega | (simp; done) | (simp; omega))) f2
  have IG_2 := K.ints.ext (show K.ints _ 0 w1.heap.size (.slice oG G.pw.length kG) G.pw from by with_reducible repeat' (first | exact IG_1 | refine K.ints.alloc ?_ _ | refine K.ints.drew ?_ | refine K.ints.set ?_ _ ?_ _ | (dsimp only; omega) | omega | (simp; done) | (simp; omega))) f2
  clear IF_1 IG_1 F1 f2
  go_wp2_with fail
  refine K.call (by with_reducible rfl) (by with_reducible rfl) (spec_MultiplyFormulas F G _ (by omega) (by omega) (show K.ints _ 0 w1.heap.size (.slice oF F.pw.length kF) F.pw from by with_reducible repeat' (first | exact IF_2 | refine K.ints.alloc ?_ _ | refine K.ints.drew ?_ | refine K.ints.set ?_ _ ?_ _ | (dsimp only; omega) | omega | (simp; done) | (simp; omega))) (by omega) (by omega) (show K.ints _ 0 w1.heap.size (.slice oG G.pw.length kG) G.pw from by with_reducible repeat' (first | exact IG_2 | refine K.ints.alloc ?_ _ | refine K.ints.drew ?_ | refine K.ints.set ?_ _ ?_ _ | (dsimp only; omega) | omega | (simp; done) | (simp; omega)))) ?_
  rintro e w3 ⟨⟨pM, rfl, hM⟩, f3⟩
  obtain ⟨oM, kM, rfl, _⟩ := id (hM)
  have IM_3 : K.ints w3 0 w3.heap.size (.slice oM ((Z.MultiplyFormulas F G).1).pw.length kM) ((Z.MultiplyFormulas F G).1).pw := (hM).mono (Nat.zero_le _) (by omega)
  have u3_0_1 : w1.heap.size < w2.heap.size + 1 := (by omega)
  have u3_1_1 : w1.heap.size + 1 < w2.heap.size + 1 := (by omega)
  have F3 : K.Ext w w3 := K.Ext.trans (by repeat' (first | with_reducible exact F2 | with_reducible refine K.Ext.setCell ?_ ?_ _ | with_reducible refine K.Ext.alloc ?_ _ | with_reducible refine K.Ext.drew ?_ | (dsimp only; omega) | omega | (simp; omega))) f3
  have c3_0_0 : w3.cell? ⟨w1.heap.size, 0, none⟩ = some (.int .i64 F.dg) := f3.cell_of (by go_simp)
  have c3_0_1 : w3.cell? ⟨w1.heap.size, 1, none⟩ = some (.int .i64 F.tn) := f3.cell_of (by go_simp)
  have c3_0_2 : w3.cell? ⟨w1.heap.size, 2, none⟩ = some (.string F.nm) := f3.cell_of (by go_simp)
  have c3_0_3 : w3.cell? ⟨w1.heap.size, 3, none⟩ = some (.slice oF F.pw.length kF) := f3.cell_of (by go_simp)
  have y3_0 : w1.heap.size < w3.heap.size := World.block_lt_of_cell? w3 _ c3_0_0
  have c3_1_0 : w3.cell? ⟨w1.heap.size + 1, 0, none⟩ = some (.int .i64 G.dg) := f3.cell_of (by go_simp)
  have c3_1_1 : w3.cell? ⟨w1.heap.size + 1, 1, none⟩ = some (.int .i64 G.tn) := f3.cell_of (by go_simp)
  have c3_1_2 : w3.cell? ⟨w1.heap.size + 1, 2, none⟩ = some (.string G.nm) := f3.cell_of (by go_simp)
  have c3_1_3 : w3.cell? ⟨w1.heap.size + 1, 3, none⟩ = some (.slice oG G.pw.length kG) := f3.cell_of (by go_simp)
  have y3_1 : w1.heap.size + 1 < w3.heap.size := World.block_lt_of_cell? w3 _ c3_1_0
  have c3_2_0 : w3.cell? ⟨w2.heap.size, 0, none⟩ = some (.int .i64 ((Z.MultiplyFormulas F G).1).dg) := f3.cell_of (by go_simp)
  have c3_2_1 : w3.cell? ⟨w2.heap.size, 1, none⟩ = some (.int .i64 ((Z.MultiplyFormulas F G).1).tn) := f3.cell_of (by go_simp)
  have c3_2_2 : w3.cell? ⟨w2.heap.size, 2, none⟩ = some (.string ((Z.MultiplyFormulas F G).1).nm) := f3.cell_of (by go_simp)
  have c3_2_3 : w3.cell? ⟨w2.heap.size, 3, none⟩ = some (.slice oP ((Z.MultiplyFormulas F G).1).pw.length kP) := f3.cell_of (by go_simp)
  have y3_2 : w2.heap.size < w3.heap.size := World.block_lt_of_cell? w3 _ c3_2_0
  have IF_3 := K.ints.ext (show K.ints _ 0 w1.heap.size (.slice oF F.pw.length kF) F.pw from by with_reducible repeat' (first | exact IF_2 | refine K.ints.alloc ?_ _ | refine K.ints.drew ?_ | refine K.ints.set ?_ _ ?_ _ | (dsimp only; omega) | omega | (simp; done) | (simp; omega))) f3
  have IG_3 := K.ints.ext (show K.ints _ 0 w1.heap.size (.slice oG G.pw.length kG) G.pw from by with_reducible repeat' (first | exact IG_2 | refine K.ints.alloc ?_ _ | refine K.ints.drew ?_ | refine K.ints.set ?_ _ ?_ _ | (dsimp only; omega) | omega | (simp; done) | (simp; omega))) f3
  have IP_3 := K.ints.ext (show K.ints _ 0 w2.heap.size (.slice oP ((Z.MultiplyFormulas F G).1).pw.length kP) ((Z.MultiplyFormulas F G).1).pw from by with_reducible repeat' (first | exact IP_2 | refine K.ints.alloc ?_ _ | refine K.ints.drew ?_ | refine K.ints.set ?_ _ ?_ _ | (dsimp only; omega) | omega | (simp; done) | (simp; omega))) f3
  clear c2_0_0 c2_0_1 c2_0_2 c2_0_3 y2_0 c2_1_0 c2_1_1 c2_1_2 c2_1_3 y2_1 IF_2 IG_2 IP_2 F2 f3 u3_0_1 u3_1_1
  go_wp2_with fail
  refine K.call (by with_reducible rfl) (by with_reducible rfl) (DrawExponentOf_any _ hn (K.Ext.size (by repeat' (first | with_reducible exact F3 | with_reducible refine K.Ext.setCell ?_ ?_ _ | with_reducible refine K.Ext.alloc ?_ _ | with_reducible refine K.Ext.drew ?_ | (dsimp only; omega) | omega | (simp; omega)))) (h.ext (by repeat' (first | with_reducible exact F3 | with_reducible refine K.Ext.setCell ?_ ?_ _ | with_reducible refine K.Ext.alloc ?_ _ | with_reducible refine K.Ext.drew ?_ | (dsimp only; omega) | omega | (simp; omega))))) ?_
  rintro e w4 ⟨⟨X, pX, c, rfl, ⟨b1, b2⟩, hX1, c0, c1⟩, f4⟩
  obtain ⟨oX, kX, rfl, _⟩ := id (hX1)
  have IX_4 : K.ints w4 0 w4.heap.size (.slice oX X.pw.length kX) X.pw := (hX1).mono (Nat.zero_le _) (by omega)
  have u4_0_1 : w1.heap.size < w3.heap.size + 1 := (by omega)
  have u4_1_1 : w1.heap.size + 1 < w3.heap.size + 1 := (by omega)
  have u4_2_1 : w2.heap.size < w3.heap.size + 1 := (by omega)
  have F4 : K.Ext w w4 := K.Ext.trans (by repeat' (first | with_reducible exact F3 | with_reducible refine K.Ext.setCell ?_ ?_ _ | with_reducible refine K.Ext.alloc ?_ _ | with_reducible refine K.Ext.drew ?_ | (dsimp only; omega) | omega | (simp; omega))) f4
  have c4_0_0 : w4.cell? ⟨w1.heap.size, 0, none⟩ = some (.int .i64 F.dg) := f4.cell_of (by go_simp)
  have c4_0_1 : w4.cell? ⟨w1.heap.size, 1, none⟩ = some (.int .i64 F.tn) := f4.cell_of (by go_simp)
  have c4_0_2 : w4.cell? ⟨w1.heap.size, 2, none⟩ = some (.string F.nm) := f4.cell_of (by go_simp)
  have c4_0_3 : w4.cell? ⟨w1.heap.size, 3, none⟩ = some (.slice oF F.pw.length kF) := f4.cell_of (by go_simp)
  have y4_0 : w1.heap.size < w4.heap.size := World.block_lt_of_cell? w4 _ c4_0_0
  have c4_1_0 : w4.cell? ⟨w1.heap.size + 1, 0, none⟩ = some (.int .i64 G.dg) := f4.cell_of (by go_simp)
  have c4_1_1 : w4.cell? ⟨w1.heap.size + 1, 1, none⟩ = some (.int .i64 G.tn) := f4.cell_of (by go_simp)
  have c4_1_2 : w4.cell? ⟨w1.heap.size + 1, 2, none⟩ = some (.string G.nm) := f4.cell_of (by go_simp)
  have c4_1_3 : w4.cell? ⟨w1.heap.size + 1, 3, none⟩ = some (.slice oG G.pw.length kG) := f4.cell_of (by go_simp)
  have y4_1 : w1.heap.size + 1 < w4.heap.size := World.block_lt_of_cell? w4 _ c4_1_0
  have c4_2_0 : w4.cell? ⟨w2.heap.size, 0, none⟩ = some (.int .i64 ((Z.MultiplyFormulas F G).1).dg) := f4.cell_of (by go_simp)
  have c4_2_1 : w4.cell? ⟨w2.heap.size, 1, none⟩ = some (.int .i64 ((Z.MultiplyFormulas F G).1).tn) := f4.cell_of (by go_simp)
  have c4_2_2 : w4.cell? ⟨w2.heap.size, 2, none⟩ = some (.string ((Z.MultiplyFormulas F G).1).nm) := f4.cell_of (by go_simp)
  have c4_2_3 : w4.cell? ⟨w2.heap.size, 3, none⟩ = some (.slice oP ((Z.MultiplyFormulas F G).1).pw.length kP) := f4.cell_of (by go_simp)
  have y4_2 : w2.heap.size < w4.heap.size := World.block_lt_of_cell? w4 _ c4_2_0
  have c4_3_0 : w4.cell? ⟨w3.heap.size, 0, none⟩ = some (.int .i64 ((Z.MultiplyFormulas F G).1).dg) := f4.cell_of (by go_simp)
  have c4_3_1 : w4.cell? ⟨w3.heap.size, 1, none⟩ = some (.int .i64 ((Z.MultiplyFormulas F G).1).tn) := f4.cell_of (by go_simp)
  have c4_3_2 : w4.cell? ⟨w3.heap.size, 2, none⟩ = some (.string ((Z.MultiplyFormulas F G).1).nm) := f4.cell_of (by go_simp)
  have c4_3_3 : w4.cell? ⟨w3.heap.size, 3, none⟩ = some (.slice oM ((Z.MultiplyFormulas F G).1).pw.length kM) := f4.cell_of (by go_simp)
  have y4_3 : w3.heap.size < w4.heap.size := World.block_lt_of_cell? w4 _ c4_3_0
  have IF_4 := K.ints.ext (show K.ints _ 0 w1.heap.size (.slice oF F.pw.length kF) F.pw from by with_reducible repeat' (first | exact IF_3 | refine K.ints.alloc ?_ _ | refine K.ints.drew ?_ | refine K.ints.set ?_ _ ?_ _ | (dsimp only; omega) | omega | (simp; done) | (simp; omega))) f4
  have IG_4 := K.ints.ext (show K.ints _ 0 w1.heap.size (.slice oG G.pw.length kG) G.pw from by with_reducible repeat' (first | exact IG_3 | refine K.ints.alloc ?_ _ | refine K.ints.drew ?_ | refine K.ints.set ?_ _ ?_ _ | (dsimp only; omega) | omega | (simp; done) | (simp; omega))) f4
  have IP_4 := K.ints.ext (show K.ints _ 0 w2.heap.size (.slice oP ((Z.MultiplyFormulas F G).1).pw.length kP) ((Z.MultiplyFormulas F G).1).pw from by with_reducible repeat' (first | exact IP_3 | refine K.ints.alloc ?_ _ | refine K.ints.drew ?_ | refine K.ints.set ?_ _ ?_ _ | (dsimp only; omega) | omega | (simp; done) | (simp; omega))) f4
  have IM_4 := K.ints.ext (show K.ints _ 0 w3.heap.size (.slice oM ((Z.MultiplyFormulas F G).1).pw.length kM) ((Z.MultiplyFormulas F G).1).pw from by with_reducible repeat' (first | exact IM_3 | refine K.ints.alloc ?_ _ | refine K.ints.drew ?_ | refine K.ints.set ?_ _ ?_ _ | (dsimp only; omega) | omega | (simp; done) | (simp; omega))) f4
  clear c3_0_0 c3_0_1 c3_0_2 c3_0_3 y3_0 c3_1_0 c3_1_1 c3_1_2 c3_1_3 y3_1 c3_2_0 c3_2_1 c3_2_2 c3_2_3 y3_2 IF_3 IG_3 IP_3 IM_3 F3 f4 u4_0_1 u4_1_1 u4_2_1
  go_wp2_with fail
  refine K.call (by with_reducible rfl) (by with_reducible rfl) (impl_ExponentOf X c _ (by omega) (by omega) (show K.ints _ 0 w4.heap.size (.slice oX X.pw.length kX) X.pw from by with_reducible repeat' (first | exact IX_4 | refine K.ints.alloc ?_ _ | refine K.ints.drew ?_ | refine K.ints.set ?_ _ ?_ _ | (dsimp only; omega) | omega | (simp; done) | (simp; omega))) ⟨c0, c1⟩) ?_
  rintro e w5 ⟨rfl, f5⟩
  have u5_0_1 : w1.heap.size < w4.heap.size + 1 := (by omega)
  have u5_1_1 : w1.heap.size + 1 < w4.heap.size + 1 := (by omega)
  have u5_2_1 : w2.heap.size < w4.heap.size + 1 := (by omega)
  have u5_3_1 : w3.heap.size < w4.heap.size + 1 := (by omega)
  have F5 : K.Ext w w5 := K.Ext.trans (by repeat' (first | with_reducible exact F4 | with_reducible refine K.Ext.setCell ?_ ?_ _ | with_reducible refine K.Ext.alloc ?_ _ | with_reducible refine K.Ext.drew ?_ | (dsimp only; omega) | omega | (simp; omega))) f5
  have c5_0_0 : w5.cell? ⟨w1.heap.size, 0, none⟩ = some (.int .i64 F.dg) := f5.cell_of (by go_simp)
  have c5_0_1 : w5.cell? ⟨w1.heap.size, 1, none⟩ = some (.int .i64 F.tn) := f5.cell_of (by go_simp)
  have c5_0_2 : w5.cell? ⟨w1.heap.size, 2, none⟩ = some (.string F.nm) := f5.cell_of (by go_simp)
  have c5_0_3 : w5.cell? ⟨w1.heap.size, 3, none⟩ = some (.slice oF F.pw.length kF) := f5.cell_of (by go_simp)
  have y5_0 : w1.heap.size < w5.heap.size := World.block_lt_of_cell? w5 _ c5_0_0
  have c5_1_0 : w5.cell? ⟨w1.heap.size + 1, 0, none⟩ = some (.int .i64 G.dg) := f5.cell_of (by go_simp)
  have c5_1_1 : w5.cell? ⟨w1.heap.size + 1, 1, none⟩ = some (.int .i64 G.tn) := f5.cell_of (by go_simp)
  have c5_1_2 : w5.cell? ⟨w1.heap.size + 1, 2, none⟩ = some (.string G.nm) := f5.cell_of (by go_simp)
  have c5_1_3 : w5.cell? ⟨w1.heap.size + 1, 3, none⟩ = some (.slice oG G.pw.length kG) := f5.cell_of (by go_simp)
  have y5_1 : w1.heap.size + 1 < w5.heap.size := World.block_lt_of_cell? w5 _ c5_1_0
  have c5_2_0 : w5.cell? ⟨w2.heap.size, 0, none⟩ = some (.int .i64 ((Z.MultiplyFormulas F G).1).dg) := f5.cell_of (by go_simp)
  have c5_2_1 : w5.cell? ⟨w2.heap.size, 1, none⟩ = some (.int .i64 ((Z.MultiplyFormulas F G).1).tn) := f5.cell_of (by go_simp)
  have c5_2_2 : w5.cell? ⟨w2.heap.size, 2, none⟩ = some (.string ((Z.MultiplyFormulas F G).1).nm) := f5.cell_of (by go_simp)
  have c5_2_3 : w5.cell? ⟨w2.heap.size, 3, none⟩ = some (.slice oP ((Z.MultiplyFormulas F G).1).pw.length kP) := f5.cell_of (by go_simp)
  have y5_2 : w2.heap.size < w5.heap.size := World.block_lt_of_cell? w5 _ c5_2_0
  have c5_3_0 : w5.cell? ⟨w3.heap.size, 0, none⟩ = some (.int .i64 ((Z.MultiplyFormulas F G).1).dg) := f5.cell_of (by go_simp)
  have c5_3_1 : w5.cell? ⟨w3.heap.size, 1, none⟩ = some (.int .i64 ((Z.MultiplyFormulas F G).1).tn) := f5.cell_of (by go_simp)
  have c5_3_2 : w5.cell? ⟨w3.heap.size, 2, none⟩ = some (.string ((Z.MultiplyFormulas F G).1).nm) := f5.cell_of (by go_simp)
  have c5_3_3 : w5.cell? ⟨w3.heap.size, 3, none⟩ = some (.slice oM ((Z.MultiplyFormulas F G).1).pw.length kM) := f5.cell_of (by go_simp)
  have y5_3 : w3.heap.size < w5.heap.size := World.block_lt_of_cell? w5 _ c5_3_0
  have c5_4_0 : w5.cell? ⟨w4.heap.size, 0, none⟩ = some (.int .i64 X.dg) := f5.cell_of (by go_simp)
  have c5_4_1 : w5.cell? ⟨w4.heap.size, 1, none⟩ = some (.int .i64 X.tn) := f5.cell_of (by go_simp)
  have c5_4_2 : w5.cell? ⟨w4.heap.size, 2, none⟩ = some (.string X.nm) := f5.cell_of (by go_simp)
  have c5_4_3 : w5.cell? ⟨w4.heap.size, 3, none⟩ = some (.slice oX X.pw.length kX) := f5.cell_of (by go_simp)
  have y5_4 : w4.heap.size < w5.heap.size := World.block_lt_of_cell? w5 _ c5_4_0
  have IF_5 := K.ints.ext (show K.ints _ 0 w1.heap.size (.slice oF F.pw.length kF) F.pw from by with_reducible repeat' (first | exact IF_4 | refine K.ints.alloc ?_ _ | refine K.ints.drew ?_ | refine K.ints.set ?_ _ ?_ _ | (dsimp only; omega) | omega | (simp; done) | (simp; omega))) f5
  have IG_5 := K.ints.ext (show K.ints _ 0 w1.heap.size (.slice oG G.pw.length kG) G.pw from by with_reducible repeat' (first | exact IG_4 | refine K.ints.alloc ?_ _ | refine K.ints.drew ?_ | refine K.ints.set ?_ _ ?_ _ | (dsimp only; omega) | omega | (simp; done) | (simp; omega))) f5
  have IP_5 := K.ints.ext (show K.ints _ 0 w2.heap.size (.slice oP ((Z.MultiplyFormulas F G).1).pw.length kP) ((Z.MultiplyFormulas F G).1).pw from by with_reducible repeat' (first | exact IP_4 | refine K.ints.alloc ?_ _ | refine K.ints.drew ?_ | refine K.ints.set ?_ _ ?_ _ | (dsimp only; omega) | omega | (simp; done) | (simp; omega))) f5
  have IM_5 := K.ints.ext (show K.ints _ 0 w3.heap.size (.slice oM ((Z.MultiplyFormulas F G).1).pw.length kM) ((Z.MultiplyFormulas F G).1).pw from by with_reducible repeat' (first | exact IM_4 | refine K.ints.alloc ?_ _ | refine K.ints.drew ?_ | refine K.ints.set ?_ _ ?_ _ | (dsimp only; omega) | omega | (simp; done) | (simp; omega))) f5
  have IX_5 := K.ints.ext (show K.ints _ 0 w4.heap.size (.slice oX X.pw.length kX) X.pw from by with_reducible repeat' (first | exact IX_4 | refine K.ints.alloc ?_ _ | refine K.ints.drew ?_ | refine K.ints.set ?_ _ ?_ _ | (dsimp only; omega) | omega | (simp; done) | (simp; omega))) f5
  clear c4_0_0 c4_0_1 c4_0_2 c4_0_3 y4_0 c4_1_0 c4_1_1 c4_1_2 c4_1_3 y4_1 c4_2_0 c4_2_1 c4_2_2 c4_2_3 y4_2 c4_3_0 c4_3_1 c4_3_2 c4_3_3 y4_3 IF_4 IG_4 IP_4 IM_4 IX_4 F4 f5 u5_0_1 u5_1_1 u5_2_1 u5_3_1
  go_wp2_with fail
  refine K.call (by with_reducible rfl) (by with_reducible rfl) (spec_ExponentOf X c _ (by omega) (by omega) (show K.ints _ 0 w4.heap.size (.slice oX X.pw.length kX) X.pw from by with_reducible repeat' (first | exact IX_5 | refine K.ints.alloc ?_ _ | refine K.ints.drew ?_ | refine K.ints.set ?_ _ ?_ _ | (dsimp only; omega) | omega | (simp; done) | (simp; omega))) ⟨c0, c1⟩) ?_
  rintro e w6 ⟨rfl, f6⟩
  have F6 : K.Ext w w6 := K.Ext.trans (by repeat' (first | with_reducible exact F5 | with_reducible refine K.Ext.setCell ?_ ?_ _ | with_reducible refine K.Ext.alloc ?_ _ | with_reducible refine K.Ext.drew ?_ | (dsimp only; omega) | omega | (simp; omega))) f6
  have c6_0_0 : w6.cell? ⟨w1.heap.size, 0, none⟩ = some (.int .i64 F.dg) := f6.cell_of (by go_simp)
  have c6_0_1 : w6.cell? ⟨w1.heap.size, 1, none⟩ = some (.int .i64 F.tn) := f6.cell_of (by go_simp)
  have c6_0_2 : w6.cell? ⟨w1.heap.size, 2, none⟩ = some (.string F.nm) := f6.cell_of (by go_simp)
  have c6_0_3 : w6.cell? ⟨w1.heap.size, 3, none⟩ = some (.slice oF F.pw.length kF) := f6.cell_of (by go_simp)
  have y6_0 : w1.heap.size < w6.heap.size := World.block_lt_of_cell? w6 _ c6_0_0
  have c6_1_0 : w6.cell? ⟨w1.heap.size + 1, 0, none⟩ = some (.int .i64 G.dg) := f6.cell_of (by go_simp)
  have c6_1_1 : w6.cell? ⟨w1.heap.size + 1, 1, none⟩ = some (.int .i64 G.tn) := f6.cell_of (by go_simp)
  have c6_1_2 : w6.cell? ⟨w1.heap.size + 1, 2, none⟩ = some (.string G.nm) := f6.cell_of (by go_simp)
  have c6_1_3 : w6.cell? ⟨w1.heap.size + 1, 3, none⟩ = some (.slice oG G.pw.length kG) := f6.cell_of (by go_simp)
  have y6_1 : w1.heap.size + 1 < w6.heap.size := World.block_lt_of_cell? w6 _ c6_1_0
  have c6_2_0 : w6.cell? ⟨w2.heap.size, 0, none⟩ = some (.int .i64 ((Z.MultiplyFormulas F G).1).dg) := f6.cell_of (by go_simp)
  have c6_2_1 : w6.cell? ⟨w2.heap.size, 1, none⟩ = some (.int .i64 ((Z.MultiplyFormulas F G).1).tn) := f6.cell_of (by go_simp)
  have c6_2_2 : w6.cell? ⟨w2.heap.size, 2, none⟩ = some (.string ((Z.MultiplyFormulas F G).1).nm) := f6.cell_of (by go_simp)
  have c6_2_3 : w6.cell? ⟨w2.heap.size, 3, none⟩ = some (.slice oP ((Z.MultiplyFormulas F G).1).pw.length kP) := f6.cell_of (by go_simp)
  have y6_2 : w2.heap.size < w6.heap.size := World.block_lt_of_cell? w6 _ c6_2_0
  have c6_3_0 : w6.cell? ⟨w3.heap.size, 0, none⟩ = some (.int .i64 ((Z.MultiplyFormulas F G).1).dg) := f6.cell_of (by go_simp)
  have c6_3_1 : w6.cell? ⟨w3.heap.size, 1, none⟩ = some (.int .i64 ((Z.MultiplyFormulas F G).1).tn) := f6.cell_of (by go_simp)
  have c6_3_2 : w6.cell? ⟨w3.heap.size, 2, none⟩ = some (.string ((Z.MultiplyFormulas F G).1).nm) := f6.cell_of (by go_simp)
  have c6_3_3 : w6.cell? ⟨w3.heap.size, 3, none⟩ = some (.slice oM ((Z.MultiplyFormulas F G).1).pw.length kM) := f6.cell_of (by go_simp)
  have y6_3 : w3.heap.size < w6.heap.size := World.block_lt_of_cell? w6 _ c6_3_0
  have c6_4_0 : w6.cell? ⟨w4.heap.size, 0, none⟩ = some (.int .i64 X.dg) := f6.cell_of (by go_simp)
  have c6_4_1 : w6.cell? ⟨w4.heap.size, 1, none⟩ = some (.int .i64 X.tn) := f6.cell_of (by go_simp)
  have c6_4_2 : w6.cell? ⟨w4.heap.size, 2, none⟩ = some (.string X.nm) := f6.cell_of (by go_simp)
  have c6_4_3 : w6.cell? ⟨w4.heap.size, 3, none⟩ = some (.slice oX X.pw.length kX) := f6.cell_of (by go_simp)
  have y6_4 : w4.heap.size < w6.heap.size := World.block_lt_of_cell? w6 _ c6_4_0
  have IF_6 := K.ints.ext (show K.ints _ 0 w1.heap.size (.slice oF F.pw.length kF) F.pw from by with_reducible repeat' (first | exact IF_5 | refine K.ints.alloc ?_ _ | refine K.ints.drew ?_ | refine K.ints.set ?_ _ ?_ _ | (dsimp only; omega) | omega | (simp; done) | (simp; omega))) f6
  have IG_6 := K.ints.ext (show K.ints _ 0 w1.heap.size (.slice oG G.pw.length kG) G.pw from by with_reducible repeat' (first | exact IG_5 | refine K.ints.alloc ?_ _ | refine K.ints.drew ?_ | refine K.ints.set ?_ _ ?_ _ | (dsimp only; omega) | omega | (simp; done) | (simp; omega))) f6
  have IP_6 := K.ints.ext (show K.ints _ 0 w2.heap.size (.slice oP ((Z.MultiplyFormulas F G).1).pw.length kP) ((Z.MultiplyFormulas F G).1).pw from by with_reducible repeat' (first | exact IP_5 | refine K.ints.alloc ?_ _ | refine K.ints.drew ?_ | refine K.ints.set ?_ _ ?_ _ | (dsimp only; omega) | omega | (simp; done) | (simp; omega))) f6
  have IM_6 := K.ints.ext (show K.ints _ 0 w3.heap.size (.slice oM ((Z.MultiplyFormulas F G).1).pw.length kM) ((Z.MultiplyFormulas F G).1).pw from by with_reducible repeat' (first | exact IM_5 | refine K.ints.alloc ?_ _ | refine K.ints.drew ?_ | refine K.ints.set ?_ _ ?_ _ | (dsimp only; omega) | omega | (simp; done) | (simp; omega))) f6
  have IX_6 := K.ints.ext (show K.ints _ 0 w4.heap.size (.slice oX X.pw.length kX) X.pw from by with_reducible repeat' (first | exact IX_5 | refine K.ints.alloc ?_ _ | refine K.ints.drew ?_ | refine K.ints.set ?_ _ ?_ _ | (dsimp only; omega) | omega | (simp; done) | (simp; omega))) f6
  clear c5_0_0 c5_0_1 c5_0_2 c5_0_3 y5_0 c5_1_0 c5_1_1 c5_1_2 c5_1_3 y5_1 c5_2_0 c5_2_1 c5_2_2 c5_2_3 y5_2 c5_3_0 c5_3_1 c5_3_2 c5_3_3 y5_3 c5_4_0 c5_4_1 c5_4_2 c5_4_3 y5_4 IF_5 IG_5 IP_5 IM_5 IX_5 F5 f6
  go_wp2_with fail
  refine K.call (by with_reducible rfl) (by with_reducible rfl) (DrawPowerFormula_any _ hn (K.Ext.size (by repeat' (first | with_reducible exact F6 | with_reducible refine K.Ext.setCell ?_ ?_ _ | with_reducible refine K.Ext.alloc ?_ _ | with_reducible refine K.Ext.drew ?_ | (dsimp only; omega) | omega | (simp; omega)))) (h.ext (by repeat' (first | with_reducible exact F6 | with_reducible refine K.Ext.setCell ?_ ?_ _ | with_reducible refine K.Ext.alloc ?_ _ | with_reducible refine K.Ext.drew ?_ | (dsimp only; omega) | omega | (simp; omega))))) ?_
  rintro e w7 ⟨⟨Y, pY, k, rfl, ⟨e1, e2⟩, hY1, k0, k1⟩, f7⟩
  obtain ⟨oY, kY, rfl, _⟩ := id (hY1)
  have IY_7 : K.ints w7 0 w7.heap.size (.slice oY Y.pw.length kY) Y.pw := (hY1).mono (Nat.zero_le _) (by omega)
  have F7 : K.Ext w w7 := K.Ext.trans (by repeat' (first | with_reducible exact F6 | with_reducible refine K.Ext.setCell ?_ ?_ _ | with_reducible refine K.Ext.alloc ?_ _ | with_reducible refine K.Ext.drew ?_ | (dsimp only; omega) | omega | (simp; omega))) f7
  have c7_0_0 : w7.cell? ⟨w1.heap.size, 0, none⟩ = some (.int .i64 F.dg) := f7.cell_of (by go_simp)
  have c7_0_1 : w7.cell? ⟨w1.heap.size, 1, none⟩ = some (.int .i64 F.tn) := f7.cell_of (by go_simp)
  have c7_0_2 : w7.cell? ⟨w1.heap.size, 2, none⟩ = some (.string F.nm) := f7.cell_of (by go_simp)
  have c7_0_3 : w7.cell? ⟨w1.heap.size, 3, none⟩ = some (.slice oF F.pw.length kF) := f7.cell_of (by go_simp)
  have y7_0 : w1.heap.size < w7.heap.size := World.block_lt_of_cell? w7 _ c7_0_0
  have c7_1_0 : w7.cell? ⟨w1.heap.size + 1, 0, none⟩ = some (.int .i64 G.dg) := f7.cell_of (by go_simp)
  have c7_1_1 : w7.cell? ⟨w1.heap.size + 1, 1, none⟩ = some (.int .i64 G.tn) := f7.cell_of (by go_simp)
  have c7_1_2 : w7.cell? ⟨w1.heap.size + 1, 2, none⟩ = some (.string G.nm) := f7.cell_of (by go_simp)
  have c7_1_3 : w7.cell? ⟨w1.heap.size + 1, 3, none⟩ = some (.slice oG G.pw.length kG) := f7.cell_of (by go_simp)
  have y7_1 : w1.heap.size + 1 < w7.heap.size := World.block_lt_of_cell? w7 _ c7_1_0
  have c7_2_0 : w7.cell? ⟨w2.heap.size, 0, none⟩ = some (.int .i64 ((Z.MultiplyFormulas F G).1).dg) := f7.cell_of (by go_simp)
  have c7_2_1 : w7.cell? ⟨w2.heap.size, 1, none⟩ = some (.int .i64 ((Z.MultiplyFormulas F G).1).tn) := f7.cell_of (by go_simp)
  have c7_2_2 : w7.cell? ⟨w2.heap.size, 2, none⟩ = some (.string ((Z.MultiplyFormulas F G).1).nm) := f7.cell_of (by go_simp)
  have c7_2_3 : w7.cell? ⟨w2.heap.size, 3, none⟩ = some (.slice oP ((Z.MultiplyFormulas F G).1).pw.length kP) := f7.cell_of (by go_simp)
  have y7_2 : w2.heap.size < w7.heap.size := World.block_lt_of_cell? w7 _ c7_2_0
  have c7_3_0 : w7.cell? ⟨w3.heap.size, 0, none⟩ = some (.int .i64 ((Z.MultiplyFormulas F G).1).dg) := f7.cell_of (by go_simp)
  have c7_3_1 : w7.cell? ⟨w3.heap.size, 1, none⟩ = some (.int .i64 ((Z.MultiplyFormulas F G).1).tn) := f7.cell_of (by go_simp)
  have c7_3_2 : w7.cell? ⟨w3.heap.size, 2, none⟩ = some (.string ((Z.MultiplyFormulas F G).1).nm) := f7.cell_of (by go_simp)
  have c7_3_3 : w7.cell? ⟨w3.heap.size, 3, none⟩ = some (.slice oM ((Z.MultiplyFormulas F G).1).pw.length kM) := f7.cell_of (by go_simp)
  have y7_3 : w3.heap.size < w7.heap.size := World.block_lt_of_cell? w7 _ c7_3_0
  have c7_4_0 : w7.cell? ⟨w4.heap.size, 0, none⟩ = some (.int .i64 X.dg) := f7.cell_of (by go_simp)
  have c7_4_1 : w7.cell? ⟨w4.heap.size, 1, none⟩ = some (.int .i64 X.tn) := f7.cell_of (by go_simp)
  have c7_4_2 : w7.cell? ⟨w4.heap.size, 2, none⟩ = some (.string X.nm) := f7.cell_of (by go_simp)
  have c7_4_3 : w7.cell? ⟨w4.heap.size, 3, none⟩ = some (.slice oX X.pw.length kX) := f7.cell_of (by go_simp)
  have y7_4 : w4.heap.size < w7.heap.size := World.block_lt_of_cell? w7 _ c7_4_0
  have IF_7 := K.ints.ext (show K.ints _ 0 w1.heap.size (.slice oF F.pw.length kF) F.pw from by with_reducible repeat' (first | exact IF_6 | refine K.ints.alloc ?_ _ | refine K.ints.drew ?_ | refine K.ints.set ?_ _ ?_ _ | (dsimp only; omega) | omega | (simp; done) | (simp; omega))) f7
  have IG_7 := K.ints.ext (show K.ints _ 0 w1.heap.size (.slice oG G.pw.length kG) G.pw from by with_reducible repeat' (first | exact IG_6 | refine K.ints.alloc ?_ _ | refine K.ints.drew ?_ | refine K.ints.set ?_ _ ?_ _ | (dsimp only; omega) | omega | (simp; done) | (simp; omega))) f7
  have IP_7 := K.ints.ext (show K.ints _ 0 w2.heap.size (.slice oP ((Z.MultiplyFormulas F G).1).pw.length kP) ((Z.MultiplyFormulas F G).1).pw from by with_reducible repeat' (first | exact IP_6 | refine K.ints.alloc ?_ _ | refine K.ints.drew ?_ | refine K.ints.set ?_ _ ?_ _ | (dsimp only; omega) | omega | (simp; done) | (simp; omega))) f7
  have IM_7 := K.ints.ext (show K.ints _ 0 w3.heap.size (.slice oM ((Z.MultiplyFormulas F G).1).pw.length kM) ((Z.MultiplyFormulas F G).1).pw from by with_reducible repeat' (first | exact IM_6 | refine K.ints.alloc ?_ _ | refine K.ints.drew ?_ | refine K.ints.set ?_ _ ?_ _ | (dsimp only; omega) | omega | (simp; done) | (simp; omega))) f7
  have IX_7 := K.ints.ext (show K.ints _ 0 w4.heap.size (.slice oX X.pw.length kX) X.pw from by with_reducible repeat' (first | exact IX_6 | refine K.ints.alloc ?_ _ | refine K.ints.drew ?_ | refine K.ints.set ?_ _ ?_ _ | (dsimp only; omega) | omega | (simp; done) | (simp; omega))) f7
  clear c6_0_0 c6_0_1 c6_0_2 c6_0_3 y6_0 c6_1_0 c6_1_1 c6_1_2 c6_1_3 y6_1 c6_2_0 c6_2_1 c6_2_2 c6_2_3 y6_2 c6_3_0 c6_3_1 c6_3_2 c6_3_3 y6_3 c6_4_0 c6_4_1 c6_4_2 c6_4_3 y6_4 IF_6 IG_6 IP_6 IM_6 IX_6 F6 f7
  go_wp2_with fail
  refine K.call (by with_reducible rfl) (by with_reducible rfl) (impl_PowerFormula Y k _ (by omega) (by omega) (show K.ints _ 0 w7.heap.size (.slice oY Y.pw.length kY) Y.pw from by with_reducible repeat' (first | exact IY_7 | refine K.ints.alloc ?_ _ | refine K.ints.drew ?_ | refine K.ints.set ?_ _ ?_ _ | (dsimp only; omega) | omega | (simp; done) | (simp; omega)))) ?_
  rintro e w8 ⟨⟨pQ, rfl, hQ⟩, f8⟩
  have JQ := K.own.ints hQ
  obtain ⟨oQ, kQ, rfl, _⟩ := id (JQ)
  have IQ_8 : K.ints w8 0 w8.heap.size (.slice oQ ((Z.PowerFormula Y k).1).pw.length kQ) ((Z.PowerFormula Y k).1).pw := (JQ).mono (Nat.zero_le _) (by omega)
  have u8_0_1 : w1.heap.size < w7.heap.size + 1 := (by omega)
  have u8_1_1 : w1.heap.size + 1 < w7.heap.size + 1 := (by omega)
  have u8_2_1 : w2.heap.size < w7.heap.size + 1 := (by omega)
  have u8_3_1 : w3.heap.size < w7.heap.size + 1 := (by omega)
  have u8_4_1 : w4.heap.size < w7.heap.size + 1 := (by omega)
  have F8 : K.Ext w w8 := K.Ext.trans (by repeat' (first | with_reducible exact F7 | with_reducible refine K.Ext.setCell ?_ ?_ _ | with_reducible refine K.Ext.alloc ?_ _ | with_reducible refine K.Ext.drew ?_ | (dsimp only; omega) | omega | (simp; omega))) f8
  have c8_0_0 : w8.cell? ⟨w1.heap.size, 0, none⟩ = some (.int .i64 F.dg) := f8.cell_of (by go_simp)
  have c8_0_1 : w8.cell? ⟨w1.heap.size, 1, none⟩ = some (.int .i64 F.tn) := f8.cell_of (by go_simp)
  have c8_0_2 : w8.cell? ⟨w1.heap.size, 2, none⟩ = some (.string F.nm) := f8.cell_of (by go_simp)
  have c8_0_3 : w8.cell? ⟨w1.heap.size, 3, none⟩ = some (.slice oF F.pw.length kF) := f8.cell_of (by go_simp)
  have y8_0 : w1.heap.size < w8.heap.size := World.block_lt_of_cell? w8 _ c8_0_0
  have c8_1_0 : w8.cell? ⟨w1.heap.size + 1, 0, none⟩ = some (.int .i64 G.dg) := f8.cell_of (by go_simp)
  have c8_1_1 : w8.cell? ⟨w1.heap.size + 1, 1, none⟩ = some (.int .i64 G.tn) := f8.cell_of (by go_simp)
  have c8_1_2 : w8.cell? ⟨w1.heap.size + 1, 2, none⟩ = some (.string G.nm) := f8.cell_of (by go_simp)
  have c8_1_3 : w8.cell? ⟨w1.heap.size + 1, 3, none⟩ = some (.slice oG G.pw.length kG) := f8.cell_of (by go_simp)
  have y8_1 : w1.heap.size + 1 < w8.heap.size := World.block_lt_of_cell? w8 _ c8_1_0
  have c8_2_0 : w8.cell? ⟨w2.heap.size, 0, none⟩ = some (.int .i64 ((Z.MultiplyFormulas F G).1).dg) := f8.cell_of (by go_simp)
  have c8_2_1 : w8.cell? ⟨w2.heap.size, 1, none⟩ = some (.int .i64 ((Z.MultiplyFormulas F G).1).tn) := f8.cell_of (by go_simp)
  have c8_2_2 : w8.cell? ⟨w2.heap.size, 2, none⟩ = some (.string ((Z.MultiplyFormulas F G).1).nm) := f8.cell_of (by go_simp)
  have c8_2_3 : w8.cell? ⟨w2.heap.size, 3, none⟩ = some (.slice oP ((Z.MultiplyFormulas F G).1).pw.length kP) := f8.cell_of (by go_simp)
  have y8_2 : w2.heap.size < w8.heap.size := World.block_lt_of_cell? w8 _ c8_2_0
  have c8_3_0 : w8.cell? ⟨w3.heap.size, 0, none⟩ = some (.int .i64 ((Z.MultiplyFormulas F G).1).dg) := f8.cell_of (by go_simp)
  have c8_3_1 : w8.cell? ⟨w3.heap.size, 1, none⟩ = some (.int .i64 ((Z.MultiplyFormulas F G).1).tn) := f8.cell_of (by go_simp)
  have c8_3_2 : w8.cell? ⟨w3.heap.size, 2, none⟩ = some (.string ((Z.MultiplyFormulas F G).1).nm) := f8.cell_of (by go_simp)
  have c8_3_3 : w8.cell? ⟨w3.heap.size, 3, none⟩ = some (.slice oM ((Z.MultiplyFormulas F G).1).pw.length kM) := f8.cell_of (by go_simp)
  have y8_3 : w3.heap.size < w8.heap.size := World.block_lt_of_cell? w8 _ c8_3_0
  have c8_4_0 : w8.cell? ⟨w4.heap.size, 0, none⟩ = some (.int .i64 X.dg) := f8.cell_of (by go_simp)
  have c8_4_1 : w8.cell? ⟨w4.heap.size, 1, none⟩ = some (.int .i64 X.tn) := f8.cell_of (by go_simp)
  have c8_4_2 : w8.cell? ⟨w4.heap.size, 2, none⟩ = some (.string X.nm) := f8.cell_of (by go_simp)
  have c8_4_3 : w8.cell? ⟨w4.heap.size, 3, none⟩ = some (.slice oX X.pw.length kX) := f8.cell_of (by go_simp)
  have y8_4 : w4.heap.size < w8.heap.size := World.block_lt_of_cell? w8 _ c8_4_0
  have c8_5_0 : w8.cell? ⟨w7.heap.size, 0, none⟩ = some (.int .i64 Y.dg) := f8.cell_of (by go_simp)
  have c8_5_1 : w8.cell? ⟨w7.heap.size, 1, none⟩ = some (.int .i64 Y.tn) := f8.cell_of (by go_simp)
  have c8_5_2 : w8.cell? ⟨w7.heap.size, 2, none⟩ = some (.string Y.nm) := f8.cell_of (by go_simp)
  have c8_5_3 : w8.cell? ⟨w7.heap.size, 3, none⟩ = some (.slice oY Y.pw.length kY) := f8.cell_of (by go_simp)
  have y8_5 : w7.heap.size < w8.heap.size := World.block_lt_of_cell? w8 _ c8_5_0
  have IF_8 := K.ints.ext (show K.ints _ 0 w1.heap.size (.slice oF F.pw.length kF) F.pw from by with_reducible repeat' (first | exact IF_7 | refine K.ints.alloc ?_ _ | refine K.ints.drew ?_ | refine K.ints.set ?_ _ ?_ _ | (dsimp only; omega) | omega | (simp; done) | (simp; omega))) f8
  have IG_8 := K.ints.ext (show K.ints _ 0 w1.heap.size (.slice oG G.pw.length kG) G.pw from by with_reducible repeat' (first | exact IG_7 | refine K.ints.alloc ?_ _ | refine K.ints.drew ?_ | refine K.ints.set ?_ _ ?_ _ | (dsimp only; omega) | omega | (simp; done) | (simp; omega))) f8
  have IP_8 := K.ints.ext (show K.ints _ 0 w2.heap.size (.slice oP ((Z.MultiplyFormulas F G).1).pw.length kP) ((Z.MultiplyFormulas F G).1).pw from by with_reducible repeat' (first | exact IP_7 | refine K.ints.alloc ?_ _ | refine K.ints.drew ?_ | refine K.ints.set ?_ _ ?_ _ | (dsimp only; omega) | omega | (simp; done) | (simp; omega))) f8
  have IM_8 := K.ints.ext (show K.ints _ 0 w3.heap.size (.slice oM ((Z.MultiplyFormulas F G).1).pw.length kM) ((Z.MultiplyFormulas F G).1).pw from by with_reducible repeat' (first | exact IM_7 | refine K.ints.alloc ?_ _ | refine K.ints.drew ?_ | refine K.ints.set ?_ _ ?_ _ | (dsimp only; omega) | omega | (simp; done) | (simp; omega))) f8
  have IX_8 := K.ints.ext (show K.ints _ 0 w4.heap.size (.slice oX X.pw.length kX) X.pw from by with_reducible repeat' (first | exact IX_7 | refine K.ints.alloc ?_ _ | refine K.ints.drew ?_ | refine K.ints.set ?_ _ ?_ _ | (dsimp only; omega) | omega | (simp; done) | (simp; omega))) f8
  have IY_8 := K.ints.ext (show K.ints _ 0 w7.heap.size (.slice oY Y.pw.length kY) Y.pw from by with_reducible repeat' (first | exact IY_7 | refine K.ints.alloc ?_ _ | refine K.ints.drew ?_ | refine K.ints.set ?_ _ ?_ _ | (dsimp only; omega) | omega | (simp; done) | (simp; omega))) f8
  clear c7_0_0 c7_0_1 c7_0_2 c7_0_3 y7_0 c7_1_0 c7_1_1 c7_1_2 c7_1_3 y7_1 c7_2_0 c7_2_1 c7_2_2 c7_2_3 y7_2 c7_3_0 c7_3_1 c7_3_2 c7_3_3 y7_3 c7_4_0 c7_4_1 c7_4_2 c7_4_3 y7_4 IF_7 IG_7 IP_7 IM_7 IX_7 IY_7 F7 f8 u8_0_1 u8_1_1 u8_2_1 u8_3_1 u8_4_1
  go_wp2_with fail
  refine K.call (by with_reducible rfl) (by with_reducible rfl) (spec_PowerFormula Y k _ (by omega) (by omega) (show K.ints _ 0 w7.heap.size (.slice oY Y.pw.length kY) Y.pw from by with_reducible repeat' (first | exact IY_8 | refine K.ints.alloc ?_ _ | refine K.ints.drew ?_ | refine K.ints.set ?_ _ ?_ _ | (dsimp only; omega) | omega | (simp; done) | (simp; omega)))) ?_
  rintro e w9 ⟨⟨pW, rfl, hW⟩, f9⟩
  obtain ⟨oW, kW, rfl, _⟩ := id (hW)
  have IW_9 : K.ints w9 0 w9.heap.size (.slice oW ((Z.PowerFormula Y k).1).pw.length kW) ((Z.PowerFormula Y k).1).pw := (hW).mono (Nat.zero_le _) (by omega)
  have u9_0_1 : w1.heap.size < w8.heap.size + 1 := (by omega)
  have u9_1_1 : w1.heap.size + 1 < w8.heap.size + 1 := (by omega)
  have u9_2_1 : w2.heap.size < w8.heap.size + 1 := (by omega)
  have u9_3_1 : w3.heap.size < w8.heap.size + 1 := (by omega)
  have u9_4_1 : w4.heap.size < w8.heap.size + 1 := (by omega)
  have u9_5_1 : w7.heap.size < w8.heap.size + 1 := (by omega)
  have F9 : K.Ext w w9 := K.Ext.trans (by repeat' (first | with_reducible exact F8 | with_reducible refine K.Ext.setCell ?_ ?_ _ | with_reducible refine K.Ext.alloc ?_ _ | with_reducible refine K.Ext.drew ?_ | (dsimp only; omega) | omega | (simp; omega))) f9
  have c9_0_0 : w9.cell? ⟨w1.heap.size, 0, none⟩ = some (.int .i64 F.dg) := f9.cell_of (by go_simp)
  have c9_0_1 : w9.cell? ⟨w1.heap.size, 1, none⟩ = some (.int .i64 F.tn) := f9.cell_of (by go_simp)
  have c9_0_2 : w9.cell? ⟨w1.heap.size, 2, none⟩ = some (.string F.nm) := f9.cell_of (by go_simp)
  have c9_0_3 : w9.cell? ⟨w1.heap.size, 3, none⟩ = some (.slice oF F.pw.length kF) := f9.cell_of (by go_simp)
  have y9_0 : w1.heap.size < w9.heap.size := World.block_lt_of_cell? w9 _ c9_0_0
  have c9_1_0 : w9.cell? ⟨w1.heap.size + 1, 0, none⟩ = some (.int .i64 G.dg) := f9.cell_of (by go_simp)
  have c9_1_1 : w9.cell? ⟨w1.heap.size + 1, 1, none⟩ = some (.int .i64 G.tn) := f9.cell_of (by go_simp)
  have c9_1_2 : w9.cell? ⟨w1.heap.size + 1, 2, none⟩ = some (.string G.nm) := f9.cell_of (by go_simp)
  have c9_1_3 : w9.cell? ⟨w1.heap.size + 1, 3, none⟩ = some (.slice oG G.pw.length kG) := f9.cell_of (by go_simp)
  have y9_1 : w1.heap.size + 1 < w9.heap.size := World.block_lt_of_cell? w9 _ c9_1_0
  have c9_2_0 : w9.cell? ⟨w2.heap.size, 0, none⟩ = some (.int .i64 ((Z.MultiplyFormulas F G).1).dg) := f9.cell_of (by go_simp)
  have c9_2_1 : w9.cell? ⟨w2.heap.size, 1, none⟩ = some (.int .i64 ((Z.MultiplyFormulas F G).1).tn) := f9.cell_of (by go_simp)
  have c9_2_2 : w9.cell? ⟨w2.heap.size, 2, none⟩ = some (.string ((Z.MultiplyFormulas F G).1).nm) := f9.cell_of (by go_simp)
  have c9_2_3 : w9.cell? ⟨w2.heap.size, 3, none⟩ = some (.slice oP ((Z.MultiplyFormulas F G).1).pw.length kP) := f9.cell_of (by go_simp)
  have y9_2 : w2.heap.size < w9.heap.size := World.block_lt_of_cell? w9 _ c9_2_0
  have c9_3_0 : w9.cell? ⟨w3.heap.size, 0, none⟩ = some (.int .i64 ((Z.MultiplyFormulas F G).1).dg) := f9.cell_of (by go_simp)
  have c9_3_1 : w9.cell? ⟨w3.heap.size, 1, none⟩ = some (.int .i64 ((Z.MultiplyFormulas F G).1).tn) := f9.cell_of (by go_simp)
  have c9_3_2 : w9.cell? ⟨w3.heap.size, 2, none⟩ = some (.string ((Z.MultiplyFormulas F G).1).nm) := f9.cell_of (by go_simp)
  have c9_3_3 : w9.cell? ⟨w3.heap.size, 3, none⟩ = some (.slice oM ((Z.MultiplyFormulas F G).1).pw.length kM) := f9.cell_of (by go_simp)
  have y9_3 : w3.heap.size < w9.heap.size := World.block_lt_of_cell? w9 _ c9_3_0
  have c9_4_0 : w9.cell? ⟨w4.heap.size, 0, none⟩ = some (.int .i64 X.dg) := f9.cell_of (by go_simp)
  have c9_4_1 : w9.cell? ⟨w4.heap.size, 1, none⟩ = some (.int .i64 X.tn) := f9.cell_of (by go_simp)
  have c9_4_2 : w9.cell? ⟨w4.heap.size, 2, none⟩ = some (.string X.nm) := f9.cell_of (by go_simp)
  have c9_4_3 : w9.cell? ⟨w4.heap.size, 3, none⟩ = some (.slice oX X.pw.length kX) := f9.cell_of (by go_simp)
  have y9_4 : w4.heap.size < w9.heap.size := World.block_lt_of_cell? w9 _ c9_4_0
  have c9_5_0 : w9.cell? ⟨w7.heap.size, 0, none⟩ = some (.int .i64 Y.dg) := f9.cell_of (by go_simp)
  have c9_5_1 : w9.cell? ⟨w7.heap.size, 1, none⟩ = some (.int .i64 Y.tn) := f9.cell_of (by go_simp)
  have c9_5_2 : w9.cell? ⟨w7.heap.size, 2, none⟩ = some (.string Y.nm) := f9.cell_of (by go_simp)
  have c9_5_3 : w9.cell? ⟨w7.heap.size, 3, none⟩ = some (.slice oY Y.pw.length kY) := f9.cell_of (by go_simp)
  have y9_5 : w7.heap.size < w9.heap.size := World.block_lt_of_cell? w9 _ c9_5_0
  have c9_6_0 : w9.cell? ⟨w8.heap.size, 0, none⟩ = some (.int .i64 ((Z.PowerFormula Y k).1).dg) := f9.cell_of (by go_simp)
  have c9_6_1 : w9.cell? ⟨w8.heap.size, 1, none⟩ = some (.int .i64 ((Z.PowerFormula Y k).1).tn) := f9.cell_of (by go_simp)
  have c9_6_2 : w9.cell? ⟨w8.heap.size, 2, none⟩ = some (.string ((Z.PowerFormula Y k).1).nm) := f9.cell_of (by go_simp)
  have c9_6_3 : w9.cell? ⟨w8.heap.size, 3, none⟩ = some (.slice oQ ((Z.PowerFormula Y k).1).pw.length kQ) := f9.cell_of (by go_simp)
  have y9_6 : w8.heap.size < w9.heap.size := World.block_lt_of_cell? w9 _ c9_6_0
  have IF_9 := K.ints.ext (show K.ints _ 0 w1.heap.size (.slice oF F.pw.length kF) F.pw from by with_reducible repeat' (first | exact IF_8 | refine K.ints.alloc ?_ _ | refine K.ints.drew ?_ | refine K.ints.set ?_ _ ?_ _ | (dsimp only; omega) | omega | (simp; done) | (simp; omega))) f9
  have IG_9 := K.ints.ext (show K.ints _ 0 w1.heap.size (.slice oG G.pw.length kG) G.pw from by with_reducible repeat' (first | exact IG_8 | refine K.ints.alloc ?_ _ | refine K.ints.drew ?_ | refine K.ints.set ?_ _ ?_ _ | (dsimp only; omega) | omega | (simp; done) | (simp; omega))) f9
  have IP_9 := K.ints.ext (show K.ints _ 0 w2.heap.size (.slice oP ((Z.MultiplyFormulas F G).1).pw.length kP) ((Z.MultiplyFormulas F G).1).pw from by with_reducible repeat' (first | exact IP_8 | refine K.ints.alloc ?_ _ | refine K.ints.drew ?_ | refine K.ints.set ?_ _ ?_ _ | (dsimp only; omega) | omega | (simp; done) | (simp; omega))) f9
  have IM_9 := K.ints.ext (show K.ints _ 0 w3.heap.size (.slice oM ((Z.MultiplyFormulas F G).1).pw.length kM) ((Z.MultiplyFormulas F G).1).pw from by with_reducible repeat' (first | exact IM_8 | refine K.ints.alloc ?_ _ | refine K.ints.drew ?_ | refine K.ints.set ?_ _ ?_ _ | (dsimp only; omega) | omega | (simp; done) | (simp; omega))) f9
  have IX_9 := K.ints.ext (show K.ints _ 0 w4.heap.size (.slice oX X.pw.length kX) X.pw from by with_reducible repeat' (first | exact IX_8 | refine K.ints.alloc ?_ _ | refine K.ints.drew ?_ | refine K.ints.set ?_ _ ?_ _ | (dsimp only; omega) | omega | (simp; done) | (simp; omega))) f9
  have IY_9 := K.ints.ext (show K.ints _ 0 w7.heap.size (.slice oY Y.pw.length kY) Y.pw from by with_reducible repeat' (first | exact IY_8 | refine K.ints.alloc ?_ _ | refine K.ints.drew ?_ | refine K.ints.set ?_ _ ?_ _ | (dsimp only; omega) | omega | (simp; done) | (simp; omega))) f9
  have IQ_9 := K.ints.ext (show K.ints _ 0 w8.heap.size (.slice oQ ((Z.PowerFormula Y k).1).pw.length kQ) ((Z.PowerFormula Y k).1).pw from by with_reducible repeat' (first | exact IQ_8 | refine K.ints.alloc ?_ _ | refine K.ints.drew ?_ | refine K.ints.set ?_ _ ?_ _ | (dsimp only; omega) | omega | (simp; done) | (simp; omega))) f9
  clear c8_0_0 c8_0_1 c8_0_2 c8_0_3 y8_0 c8_1_0 c8_1_1 c8_1_2 c8_1_3 y8_1 c8_2_0 c8_2_1 c8_2_2 c8_2_3 y8_2 c8_3_0 c8_3_1 c8_3_2 c8_3_3 y8_3 c8_4_0 c8_4_1 c8_4_2 c8_4_3 y8_4 c8_5_0 c8_5_1 c8_5_2 c8_5_3 y8_5 IF_8 IG_8 IP_8 IM_8 IX_8 IY_8 IQ_8 F8 f9 u9_0_1 u9_1_1 u9_2_1 u9_3_1 u9_4_1 u9_5_1
  obtain ⟨t1, t2⟩ := Z.product_le F G
  obtain ⟨q1, q2⟩ := Z.PowerFormula_le Y k
  have hec := Z.exponent_code X c
  go_wp2_with fail
  refine K.call (by with_reducible rfl) (by with_reducible rfl) (likeFormulas_same (Z.MultiplyFormulas F G).1 _ _ _ _ _ _ _ t1 (show K.ints _ 0 w2.heap.size (.slice oP ((Z.MultiplyFormulas F G).1).pw.length kP) ((Z.MultiplyFormulas F G).1).pw from by with_reducible repeat' (first | exact IP_9 | refine K.ints.alloc ?_ _ | refine K.ints.drew ?_ | refine K.ints.set ?_ _ ?_ _ | (dsimp only; omega) | omega | (simp; done) | (simp; omega))) (show K.ints _ 0 w3.heap.size (.slice oM ((Z.MultiplyFormulas F G).1).pw.length kM) ((Z.MultiplyFormulas F G).1).pw from by with_reducible repeat' (first | exact IM_9 | refine K.ints.alloc ?_ _ | refine K.ints.drew ?_ | refine K.ints.set ?_ _ ?_ _ | (dsimp only; omega) | omega | (simp; done) | (simp; omega)))) ?_
  rintro e w10 ⟨rfl, f10⟩
  have u10_0_1 : w1.heap.size < w9.heap.size + 1 := (by omega)
  have u10_1_1 : w1.heap.size + 1 < w9.heap.size + 1 := (by omega)
  have u10_2_1 : w2.heap.size < w9.heap.size + 1 := (by omega)
  have u10_3_1 : w3.heap.size < w9.heap.size + 1 := (by omega)
  have u10_4_1 : w4.heap.size < w9.heap.size + 1 := (by omega)
  have u10_5_1 : w7.heap.size < w9.heap.size + 1 := (by omega)
  have u10_6_1 : w8.heap.size < w9.heap.size + 1 := (by omega)
  have F10 : K.Ext w w10 := K.Ext.trans (by repeat' (first | with_reducible exact F9 | with_reducible refine K.Ext.setCell ?_ ?_ _ | with_reducible refine K.Ext.alloc ?_ _ | with_reducible refine K.Ext.drew ?_ | (dsimp only; omega) | omega | (simp; omega))) f10
  have c10_0_0 : w10.cell? ⟨w1.heap.size, 0, none⟩ = some (.int .i64 F.dg) := f10.cell_of (by go_simp)
  have c10_0_1 : w10.cell? ⟨w1.heap.size, 1, none⟩ = some (.int .i64 F.tn) := f10.cell_of (by go_simp)
  have c10_0_2 : w10.cell? ⟨w1.heap.size, 2, none⟩ = some (.string F.nm) := f10.cell_of (by go_simp)
  have c10_0_3 : w10.cell? ⟨w1.heap.size, 3, none⟩ = some (.slice oF F.pw.length kF) := f10.cell_of (by go_simp)
  have y10_0 : w1.heap.size < w10.heap.size := World.block_lt_of_cell? w10 _ c10_0_0
  have c10_1_0 : w10.cell? ⟨w1.heap.size + 1, 0, none⟩ = some (.int .i64 G.dg) := f10.cell_of (by go_simp)
  have c10_1_1 : w10.cell? ⟨w1.heap.size + 1, 1, none⟩ = some (.int .i64 G.tn) := f10.cell_of (by go_simp)
  have c10_1_2 : w10.cell? ⟨w1.heap.size + 1, 2, none⟩ = some (.string G.nm) := f10.cell_of (by go_simp)
  have c10_1_3 : w10.cell? ⟨w1.heap.size + 1, 3, none⟩ = some (.slice oG G.pw.length kG) := f10.cell_of (by go_simp)
  have y10_1 : w1.heap.size + 1 < w10.heap.size := World.block_lt_of_cell? w10 _ c10_1_0
  have c10_2_0 : w10.cell? ⟨w2.heap.size, 0, none⟩ = some (.int .i64 ((Z.MultiplyFormulas F G).1).dg) := f10.cell_of (by go_simp)
  have c10_2_1 : w10.cell? ⟨w2.heap.size, 1, none⟩ = some (.int .i64 ((Z.MultiplyFormulas F G).1).tn) := f10.cell_of (by go_simp)
  have c10_2_2 : w10.cell? ⟨w2.heap.size, 2, none⟩ = some (.string ((Z.MultiplyFormulas F G).1).nm) := f10.cell_of (by go_simp)
  have c10_2_3 : w10.cell? ⟨w2.heap.size, 3, none⟩ = some (.slice oP ((Z.MultiplyFormulas F G).1).pw.length kP) := f10.cell_of (by go_simp)
  have y10_2 : w2.heap.size < w10.heap.size := World.block_lt_of_cell? w10 _ c10_2_0
  have c10_3_0 : w10.cell? ⟨w3.heap.size, 0, none⟩ = some (.int .i64 ((Z.MultiplyFormulas F G).1).dg) := f10.cell_of (by go_simp)
  have c10_3_1 : w10.cell? ⟨w3.heap.size, 1, none⟩ = some (.int .i64 ((Z.MultiplyFormulas F G).1).tn) := f10.cell_of (by go_simp)
  have c10_3_2 : w10.cell? ⟨w3.heap.size, 2, none⟩ = some (.string ((Z.MultiplyFormulas F G).1).nm) := f10.cell_of (by go_simp)
  have c10_3_3 : w10.cell? ⟨w3.heap.size, 3, none⟩ = some (.slice oM ((Z.MultiplyFormulas F G).1).pw.length kM) := f10.cell_of (by go_simp)
  have y10_3 : w3.heap.size < w10.heap.size := World.block_lt_of_cell? w10 _ c10_3_0
  have c10_4_0 : w10.cell? ⟨w4.heap.size, 0, none⟩ = some (.int .i64 X.dg) := f10.cell_of (by go_simp)
  have c10_4_1 : w10.cell? ⟨w4.heap.size, 1, none⟩ = some (.int .i64 X.tn) := f10.cell_of (by go_simp)
  have c10_4_2 : w10.cell? ⟨w4.heap.size, 2, none⟩ = some (.string X.nm) := f10.cell_of (by go_simp)
  have c10_4_3 : w10.cell? ⟨w4.heap.size, 3, none⟩ = some (.slice oX X.pw.length kX) := f10.cell_of (by go_simp)
  have y10_4 : w4.heap.size < w10.heap.size := World.block_lt_of_cell? w10 _ c10_4_0
  have c10_5_0 : w10.cell? ⟨w7.heap.size, 0, none⟩ = some (.int .i64 Y.dg) := f10.cell_of (by go_simp)
  have c10_5_1 : w10.cell? ⟨w7.heap.size, 1, none⟩ = some (.int .i64 Y.tn) := f10.cell_of (by go_simp)
  have c10_5_2 : w10.cell? ⟨w7.heap.size, 2, none⟩ = some (.string Y.nm) := f10.cell_of (by go_simp)
  have c10_5_3 : w10.cell? ⟨w7.heap.size, 3, none⟩ = some (.slice oY Y.pw.length kY) := f10.cell_of (by go_simp)
  have y10_5 : w7.heap.size < w10.heap.size := World.block_lt_of_cell? w10 _ c10_5_0
  have c10_6_0 : w10.cell? ⟨w8.heap.size, 0, none⟩ = some (.int .i64 ((Z.PowerFormula Y k).1).dg) := f10.cell_of (by go_simp)
  have c10_6_1 : w10.cell? ⟨w8.heap.size, 1, none⟩ = some (.int .i64 ((Z.PowerFormula Y k).1).tn) := f10.cell_of (by go_simp)
  have c10_6_2 : w10.cell? ⟨w8.heap.size, 2, none⟩ = some (.string ((Z.PowerFormula Y k).1).nm) := f10.cell_of (by go_simp)
  have c10_6_3 : w10.cell? ⟨w8.heap.size, 3, none⟩ = some (.slice oQ ((Z.PowerFormula Y k).1).pw.length kQ) := f10.cell_of (by go_simp)
  have y10_6 : w8.heap.size < w10.heap.size := World.block_lt_of_cell? w10 _ c10_6_0
  have c10_7_0 : w10.cell? ⟨w9.heap.size, 0, none⟩ = some (.int .i64 ((Z.PowerFormula Y k).1).dg) := f10.cell_of (by go_simp)
  have c10_7_1 : w10.cell? ⟨w9.heap.size, 1, none⟩ = some (.int .i64 ((Z.PowerFormula Y k).1).tn) := f10.cell_of (by go_simp)
  have c10_7_2 : w10.cell? ⟨w9.heap.size, 2, none⟩ = some (.string ((Z.PowerFormula Y k).1).nm) := f10.cell_of (by go_simp)
  have c10_7_3 : w10.cell? ⟨w9.heap.size, 3, none⟩ = some (.slice oW ((Z.PowerFormula Y k).1).pw.length kW) := f10.cell_of (by go_simp)
  have y10_7 : w9.heap.size < w10.heap.size := World.block_lt_of_cell? w10 _ c10_7_0
  have IF_10 := K.ints.ext (show K.ints _ 0 w1.heap.size (.slice oF F.pw.length kF) F.pw from by with_reducible repeat' (first | exact IF_9 | refine K.ints.alloc ?_ _ | refine K.ints.drew ?_ | refine K.ints.set ?_ _ ?_ _ | (dsimp only; omega) | omega | (simp; done) | (simp; omega))) f10
  have IG_10 := K.ints.ext (show K.ints _ 0 w1.heap.size (.slice oG G.pw.length kG) G.pw from by with_reducible repeat' (first | exact IG_9 | refine K.ints.alloc ?_ _ | refine K.ints.drew ?_ | refine K.ints.set ?_ _ ?_ _ | (dsimp only; omega) | omega | (simp; done) | (simp; omega))) f10
  have IP_10 := K.ints.ext (show K.ints _ 0 w2.heap.size (.slice oP ((Z.MultiplyFormulas F G).1).pw.length kP) ((Z.MultiplyFormulas F G).1).pw from by with_reducible repeat' (first | exact IP_9 | refine K.ints.alloc ?_ _ | refine K.ints.drew ?_ | refine K.ints.set ?_ _ ?_ _ | (dsimp only; omega) | omega | (simp; done) | (simp; omega))) f10
  have IM_10 := K.ints.ext (show K.ints _ 0 w3.heap.size (.slice oM ((Z.MultiplyFormulas F G).1).pw.length kM) ((Z.MultiplyFormulas F G).1).pw from by with_reducible repeat' (first | exact IM_9 | refine K.ints.alloc ?_ _ | refine K.ints.drew ?_ | refine K.ints.set ?_ _ ?_ _ | (dsimp only; omega) | omega | (simp; done) | (simp; omega))) f10
  have IX_10 := K.ints.ext (show K.ints _ 0 w4.heap.size (.slice oX X.pw.length kX) X.pw from by with_reducible repeat' (first | exact IX_9 | refine K.ints.alloc ?_ _ | refine K.ints.drew ?_ | refine K.ints.set ?_ _ ?_ _ | (dsimp only; omega) | omega | (simp; done) | (simp; omega))) f10
  have IY_10 := K.ints.ext (show K.ints _ 0 w7.heap.size (.slice oY Y.pw.length kY) Y.pw from by with_reducible repeat' (first | exact IY_9 | refine K.ints.alloc ?_ _ | refine K.ints.drew ?_ | refine K.ints.set ?_ _ ?_ _ | (dsimp only; omega) | omega | (simp; done) | (simp; omega))) f10
  have IQ_10 := K.ints.ext (show K.ints _ 0 w8.heap.size (.slice oQ ((Z.PowerFormula Y k).1).pw.length kQ) ((Z.PowerFormula Y k).1).pw from by with_reducible repeat' (first | exact IQ_9 | refine K.ints.alloc ?_ _ | refine K.ints.drew ?_ | refine K.ints.set ?_ _ ?_ _ | (dsimp only; omega) | omega | (simp; done) | (simp; omega))) f10
  have IW_10 := K.ints.ext (show K.ints _ 0 w9.heap.size (.slice oW ((Z.PowerFormula Y k).1).pw.length kW) ((Z.PowerFormula Y k).1).pw from by with_reducible repeat' (first | exact IW_9 | refine K.ints.alloc ?_ _ | refine K.ints.drew ?_ | refine K.ints.set ?_ _ ?_ _ | (dsimp only; omega) | omega | (simp; done) | (simp; omega))) f10
  clear c9_0_0 c9_0_1 c9_0_2 c9_0_3 y9_0 c9_1_0 c9_1_1 c9_1_2 c9_1_3 y9_1 c9_2_0 c9_2_1 c9_2_2 c9_2_3 y9_2 c9_3_0 c9_3_1 c9_3_2 c9_3_3 y9_3 c9_4_0 c9_4_1 c9_4_2 c9_4_3 y9_4 c9_5_0 c9_5_1 c9_5_2 c9_5_3 y9_5 c9_6_0 c9_6_1 c9_6_2 c9_6_3 y9_6 IF_9 IG_9 IP_9 IM_9 IX_9 IY_9 IQ_9 IW_9 F9 f10 u10_0_1 u10_1_1 u10_2_1 u10_3_1 u10_4_1 u10_5_1 u10_6_1
  go_wp2_with fail
  refine K.call (by with_reducible rfl) (by with_reducible rfl) (likeFormulas_same (Z.PowerFormula Y k).1 _ _ _ _ _ _ _ q1 (show K.ints _ 0 w8.heap.size (.slice oQ ((Z.PowerFormula Y k).1).pw.length kQ) ((Z.PowerFormula Y k).1).pw from by with_reducible repeat' (first | exact IQ_10 | refine K.ints.alloc ?_ _ | refine K.ints.drew ?_ | refine K.ints.set ?_ _ ?_ _ | (dsimp only; omega) | omega | (simp; done) | (simp; omega))) (show K.ints _ 0 w9.heap.size (.slice oW ((Z.PowerFormula Y k).1).pw.length kW) ((Z.PowerFormula Y k).1).pw from by with_reducible repeat' (first | exact IW_10 | refine K.ints.alloc ?_ _ | refine K.ints.drew ?_ | refine K.ints.set ?_ _ ?_ _ | (dsimp only; omega) | omega | (simp; done) | (simp; omega)))) ?_
  rintro e w11 ⟨rfl, f11⟩
  have F11 : K.Ext w w11 := K.Ext.trans (by repeat' (first | with_reducible exact F10 | with_reducible refine K.Ext.setCell ?_ ?_ _ | with_reducible refine K.Ext.alloc ?_ _ | with_reducible refine K.Ext.drew ?_ | (dsimp only; omega) | omega | (simp; omega))) f11
  have c11_0_0 : w11.cell? ⟨w1.heap.size, 0, none⟩ = some (.int .i64 F.dg) := f11.cell_of (by go_simp)
  have c11_0_1 : w11.cell? ⟨w1.heap.size, 1, none⟩ = some (.int .i64 F.tn) := f11.cell_of (by go_simp)
  have c11_0_2 : w11.cell? ⟨w1.heap.size, 2, none⟩ = some (.string F.nm) := f11.cell_of (by go_simp)
  have c11_0_3 : w11.cell? ⟨w1.heap.size, 3, none⟩ = some (.slice oF F.pw.length kF) := f11.cell_of (by go_simp)
  have y11_0 : w1.heap.size < w11.heap.size := World.block_lt_of_cell? w11 _ c11_0_0
  have c11_1_0 : w11.cell? ⟨w1.heap.size + 1, 0, none⟩ = some (.int .i64 G.dg) := f11.cell_of (by go_simp)
  have c11_1_1 : w11.cell? ⟨w1.heap.size + 1, 1, none⟩ = some (.int .i64 G.tn) := f11.cell_of (by go_simp)
  have c11_1_2 : w11.cell? ⟨w1.heap.size + 1, 2, none⟩ = some (.string G.nm) := f11.cell_of (by go_simp)
  have c11_1_3 : w11.cell? ⟨w1.heap.size + 1, 3, none⟩ = some (.slice oG G.pw.length kG) := f11.cell_of (by go_simp)
  have y11_1 : w1.heap.size + 1 < w11.heap.size := World.block_lt_of_cell? w11 _ c11_1_0
  have c11_2_0 : w11.cell? ⟨w2.heap.size, 0, none⟩ = some (.int .i64 ((Z.MultiplyFormulas F G).1).dg) := f11.cell_of (by go_simp)
  have c11_2_1 : w11.cell? ⟨w2.heap.size, 1, none⟩ = some (.int .i64 ((Z.MultiplyFormulas F G).1).tn) := f11.cell_of (by go_simp)
  have c11_2_2 : w11.cell? ⟨w2.heap.size, 2, none⟩ = some (.string ((Z.MultiplyFormulas F G).1).nm) := f11.cell_of (by go_simp)
  have c11_2_3 : w11.cell? ⟨w2.heap.size, 3, none⟩ = some (.slice oP ((Z.MultiplyFormulas F G).1).pw.length kP) := f11.cell_of (by go_simp)
  have y11_2 : w2.heap.size < w11.heap.size := World.block_lt_of_cell? w11 _ c11_2_0
  have c11_4_0 : w11.cell? ⟨w4.heap.size, 0, none⟩ = some (.int .i64 X.dg) := f11.cell_of (by go_simp)
  have c11_4_1 : w11.cell? ⟨w4.heap.size, 1, none⟩ = some (.int .i64 X.tn) := f11.cell_of (by go_simp)
  have c11_4_2 : w11.cell? ⟨w4.heap.size, 2, none⟩ = some (.string X.nm) := f11.cell_of (by go_simp)
  have c11_4_3 : w11.cell? ⟨w4.heap.size, 3, none⟩ = some (.slice oX X.pw.length kX) := f11.cell_of (by go_simp)
  have y11_4 : w4.heap.size < w11.heap.size := World.block_lt_of_cell? w11 _ c11_4_0
  have c11_5_0 : w11.cell? ⟨w7.heap.size, 0, none⟩ = some (.int .i64 Y.dg) := f11.cell_of (by go_simp)
  have c11_5_1 : w11.cell? ⟨w7.heap.size, 1, none⟩ = some (.int .i64 Y.tn) := f11.cell_of (by go_simp)
  have c11_5_2 : w11.cell? ⟨w7.heap.size, 2, none⟩ = some (.string Y.nm) := f11.cell_of (by go_simp)
  have c11_5_3 : w11.cell? ⟨w7.heap.size, 3, none⟩ = some (.slice oY Y.pw.length kY) := f11.cell_of (by go_simp)
  have y11_5 : w7.heap.size < w11.heap.size := World.block_lt_of_cell? w11 _ c11_5_0
  have c11_6_0 : w11.cell? ⟨w8.heap.size, 0, none⟩ = some (.int .i64 ((Z.PowerFormula Y k).1).dg) := f11.cell_of (by go_simp)
  have c11_6_1 : w11.cell? ⟨w8.heap.size, 1, none⟩ = some (.int .i64 ((Z.PowerFormula Y k).1).tn) := f11.cell_of (by go_simp)
  have c11_6_2 : w11.cell? ⟨w8.heap.size, 2, none⟩ = some (.string ((Z.PowerFormula Y k).1).nm) := f11.cell_of (by go_simp)
  have c11_6_3 : w11.cell? ⟨w8.heap.size, 3, none⟩ = some (.slice oQ ((Z.PowerFormula Y k).1).pw.length kQ) := f11.cell_of (by go_simp)
  have y11_6 : w8.heap.size < w11.heap.size := World.block_lt_of_cell? w11 _ c11_6_0
  have c11_7_0 : w11.cell? ⟨w9.heap.size, 0, none⟩ = some (.int .i64 ((Z.PowerFormula Y k).1).dg) := f11.cell_of (by go_simp)
  have c11_7_1 : w11.cell? ⟨w9.heap.size, 1, none⟩ = some (.int .i64 ((Z.PowerFormula Y k).1).tn) := f11.cell_of (by go_simp)
  have c11_7_2 : w11.cell? ⟨w9.heap.size, 2, none⟩ = some (.string ((Z.PowerFormula Y k).1).nm) := f11.cell_of (by go_simp)
  have c11_7_3 : w11.cell? ⟨w9.heap.size, 3, none⟩ = some (.slice oW ((Z.PowerFormula Y k).1).pw.length kW) := f11.cell_of (by go_simp)
  have y11_7 : w9.heap.size < w11.heap.size := World.block_lt_of_cell? w11 _ c11_7_0
  have IF_11 := K.ints.ext (show K.ints _ 0 w1.heap.size (.slice oF F.pw.length kF) F.pw from by with_reducible repeat' (first | exact IF_10 | refine K.ints.alloc ?_ _ | refine K.ints.drew ?_ | refine K.ints.set ?_ _ ?_ _ | (dsimp only; omega) | omega | (simp; done) | (simp; omega))) f11
  have IG_11 := K.ints.ext (show K.ints _ 0 w1.heap.size (.slice oG G.pw.length kG) G.pw from by with_reducible repeat' (first | exact IG_10 | refine K.ints.alloc ?_ _ | refine K.ints.drew ?_ | refine K.ints.set ?_ _ ?_ _ | (dsimp only; omega) | omega | (simp; done) | (simp; omega))) f11
  have IP_11 := K.ints.ext (show K.ints _ 0 w2.heap.size (.slice oP ((Z.MultiplyFormulas F G).1).pw.length kP) ((Z.MultiplyFormulas F G).1).pw from by with_reducible repeat' (first | exact IP_10 | refine K.ints.alloc ?_ _ | refine K.ints.drew ?_ | refine K.ints.set ?_ _ ?_ _ | (dsimp only; omega) | omega | (simp; done) | (simp; omega))) f11
  have IX_11 := K.ints.ext (show K.ints _ 0 w4.heap.size (.slice oX X.pw.length kX) X.pw from by with_reducible repeat' (first | exact IX_10 | refine K.ints.alloc ?_ _ | refine K.ints.drew ?_ | refine K.ints.set ?_ _ ?_ _ | (dsimp only; omega) | omega | (simp; done) | (simp; omega))) f11
  have IY_11 := K.ints.ext (show K.ints _ 0 w7.heap.size (.slice oY Y.pw.length kY) Y.pw from by with_reducible repeat' (first | exact IY_10 | refine K.ints.alloc ?_ _ | refine K.ints.drew ?_ | refine K.ints.set ?_ _ ?_ _ | (dsimp only; omega) | omega | (simp; done) | (simp; omega))) f11
  have IQ_11 := K.ints.ext (show K.ints _ 0 w8.heap.size (.slice oQ ((Z.PowerFormula Y k).1).pw.length kQ) ((Z.PowerFormula Y k).1).pw from by with_reducible repeat' (first | exact IQ_10 | refine K.ints.alloc ?_ _ | refine K.ints.drew ?_ | refine K.ints.set ?_ _ ?_ _ | (dsimp only; omega) | omega | (simp; done) | (simp; omega))) f11
  have IW_11 := K.ints.ext (show K.ints _ 0 w9.heap.size (.slice oW ((Z.PowerFormula Y k).1).pw.length kW) ((Z.PowerFormula Y k).1).pw from by with_reducible repeat' (first | exact IW_10 | refine K.ints.alloc ?_ _ | refine K.ints.drew ?_ | refine K.ints.set ?_ _ ?_ _ | (dsimp only; omega) | omega | (simp; done) | (simp; omega))) f11
  clear c10_0_0 c10_0_1 c10_0_2 c10_0_3 y10_0 c10_1_0 c10_1_1 c10_1_2 c10_1_3 y10_1 c10_2_0 c10_2_1 c10_2_2 c10_2_3 y10_2 c10_3_0 c10_3_1 c10_3_2 c10_3_3 y10_3 c10_4_0 c10_4_1 c10_4_2 c10_4_3 y10_4 c10_5_0 c10_5_1 c10_5_2 c10_5_3 y10_5 c10_6_0 c10_6_1 c10_6_2 c10_6_3 y10_6 c10_7_0 c10_7_1 c10_7_2 c10_7_3 y10_7 IF_10 IG_10 IP_10 IX_10 IY_10 IQ_10 IW_10 F10 f11
  go_wp2_with fail
  refine K.call (by with_reducible rfl) (by with_reducible rfl) (impl_IsFormula X _ (by omega) (by omega) (show K.ints _ 0 w4.heap.size (.slice oX X.pw.length kX) X.pw from by with_reducible repeat' (first | exact IX_11 | refine K.ints.alloc ?_ _ | refine K.ints.drew ?_ | refine K.ints.set ?_ _ ?_ _ | (dsimp only; omega) | omega | (simp; done) | (simp; omega)))) ?_
  rintro e w12 ⟨rfl, f12⟩
  have F12 : K.Ext w w12 := K.Ext.trans (by repeat' (first | with_reducible exact F11 | with_reducible refine K.Ext.setCell ?_ ?_ _ | with_reducible refine K.Ext.alloc ?_ _ | with_reducible refine K.Ext.drew ?_ | (dsimp only; omega) | omega | (simp; omega))) f12
  have c12_0_0 : w12.cell? ⟨w1.heap.size, 0, none⟩ = some (.int .i64 F.dg) := f12.cell_of (by go_simp)
  have c12_0_1 : w12.cell? ⟨w1.heap.size, 1, none⟩ = some (.int .i64 F.tn) := f12.cell_of (by go_simp)
  have c12_0_2 : w12.cell? ⟨w1.heap.size, 2, none⟩ = some (.string F.nm) := f12.cell_of (by go_simp)
  have c12_0_3 : w12.cell? ⟨w1.heap.size, 3, none⟩ = some (.slice oF F.pw.length kF) := f12.cell_of (by go_simp)
  have y12_0 : w1.heap.size < w12.heap.size := World.block_lt_of_cell? w12 _ c12_0_0
  have c12_1_0 : w12.cell? ⟨w1.heap.size + 1, 0, none⟩ = some (.int .i64 G.dg) := f12.cell_of (by go_simp)
  have c12_1_1 : w12.cell? ⟨w1.heap.size + 1, 1, none⟩ = some (.int .i64 G.tn) := f12.cell_of (by go_simp)
  have c12_1_2 : w12.cell? ⟨w1.heap.size + 1, 2, none⟩ = some (.string G.nm) := f12.cell_of (by go_simp)
  have c12_1_3 : w12.cell? ⟨w1.heap.size + 1, 3, none⟩ = some (.slice oG G.pw.length kG) := f12.cell_of (by go_simp)
  have y12_1 : w1.heap.size + 1 < w12.heap.size := World.block_lt_of_cell? w12 _ c12_1_0
  have c12_2_0 : w12.cell? ⟨w2.heap.size, 0, none⟩ = some (.int .i64 ((Z.MultiplyFormulas F G).1).dg) := f12.cell_of (by go_simp)
  have c12_2_1 : w12.cell? ⟨w2.heap.size, 1, none⟩ = some (.int .i64 ((Z.MultiplyFormulas F G).1).tn) := f12.cell_of (by go_simp)
  have c12_2_2 : w12.cell? ⟨w2.heap.size, 2, none⟩ = some (.string ((Z.MultiplyFormulas F G).1).nm) := f12.cell_of (by go_simp)
  have c12_2_3 : w12.cell? ⟨w2.heap.size, 3, none⟩ = some (.slice oP ((Z.MultiplyFormulas F G).1).pw.length kP) := f12.cell_of (by go_simp)
  have y12_2 : w2.heap.size < w12.heap.size := World.block_lt_of_cell? w12 _ c12_2_0
  have c12_4_0 : w12.cell? ⟨w4.heap.size, 0, none⟩ = some (.int .i64 X.dg) := f12.cell_of (by go_simp)
  have c12_4_1 : w12.cell? ⟨w4.heap.size, 1, none⟩ = some (.int .i64 X.tn) := f12.cell_of (by go_simp)
  have c12_4_2 : w12.cell? ⟨w4.heap.size, 2, none⟩ = some (.string X.nm) := f12.cell_of (by go_simp)
  have c12_4_3 : w12.cell? ⟨w4.heap.size, 3, none⟩ = some (.slice oX X.pw.length kX) := f12.cell_of (by go_simp)
  have y12_4 : w4.heap.size < w12.heap.size := World.block_lt_of_cell? w12 _ c12_4_0
  have c12_5_0 : w12.cell? ⟨w7.heap.size, 0, none⟩ = some (.int .i64 Y.dg) := f12.cell_of (by go_simp)
  have c12_5_1 : w12.cell? ⟨w7.heap.size, 1, none⟩ = some (.int .i64 Y.tn) := f12.cell_of (by go_simp)
  have c12_5_2 : w12.cell? ⟨w7.heap.size, 2, none⟩ = some (.string Y.nm) := f12.cell_of (by go_simp)
  have c12_5_3 : w12.cell? ⟨w7.heap.size, 3, none⟩ = some (.slice oY Y.pw.length kY) := f12.cell_of (by go_simp)
  have y12_5 : w7.heap.size < w12.heap.size := World.block_lt_of_cell? w12 _ c12_5_0
  have c12_6_0 : w12.cell? ⟨w8.heap.size, 0, none⟩ = some (.int .i64 ((Z.PowerFormula Y k).1).dg) := f12.cell_of (by go_simp)
  have c12_6_1 : w12.cell? ⟨w8.heap.size, 1, none⟩ = some (.int .i64 ((Z.PowerFormula Y k).1).tn) := f12.cell_of (by go_simp)
  have c12_6_2 : w12.cell? ⟨w8.heap.size, 2, none⟩ = some (.string ((Z.PowerFormula Y k).1).nm) := f12.cell_of (by go_simp)
  have c12_6_3 : w12.cell? ⟨w8.heap.size, 3, none⟩ = some (.slice oQ ((Z.PowerFormula Y k).1).pw.length kQ) := f12.cell_of (by go_simp)
  have y12_6 : w8.heap.size < w12.heap.size := World.block_lt_of_cell? w12 _ c12_6_0
  have IF_12 := K.ints.ext (show K.ints _ 0 w1.heap.size (.slice oF F.pw.length kF) F.pw from by with_reducible repeat' (first | exact IF_11 | refine K.ints.alloc ?_ _ | refine K.ints.drew ?_ | refine K.ints.set ?_ _ ?_ _ | (dsimp only; omega) | omega | (simp; done) | (simp; omega))) f12
  have IG_12 := K.ints.ext (show K.ints _ 0 w1.heap.size (.slice oG G.pw.length kG) G.pw from by with_reducible repeat' (first | exact IG_11 | refine K.ints.alloc ?_ _ | refine K.ints.drew ?_ | refine K.ints.set ?_ _ ?_ _ | (dsimp only; omega) | omega | (simp; done) | (simp; omega))) f12
  have IP_12 := K.ints.ext (show K.ints _ 0 w2.heap.size (.slice oP ((Z.MultiplyFormulas F G).1).pw.length kP) ((Z.MultiplyFormulas F G).1).pw from by with_reducible repeat' (first | exact IP_11 | refine K.ints.alloc ?_ _ | refine K.ints.drew ?_ | refine K.ints.set ?_ _ ?_ _ | (dsimp only; omega) | omega | (simp; done) | (simp; omega))) f12
  have IX_12 := K.ints.ext (show K.ints _ 0 w4.heap.size (.slice oX X.pw.length kX) X.pw from by with_reducible repeat' (first | exact IX_11 | refine K.ints.alloc ?_ _ | refine K.ints.drew ?_ | refine K.ints.set ?_ _ ?_ _ | (dsimp only; omega) | omega | (simp; done) | (simp; omega))) f12
  have IY_12 := K.ints.ext (show K.ints _ 0 w7.heap.size (.slice oY Y.pw.length kY) Y.pw from by with_reducible repeat' (first | exact IY_11 | refine K.ints.alloc ?_ _ | refine K.ints.drew ?_ | refine K.ints.set ?_ _ ?_ _ | (dsimp only; omega) | omega | (simp; done) | (simp; omega))) f12
  have IQ_12 := K.ints.ext (show K.ints _ 0 w8.heap.size (.slice oQ ((Z.PowerFormula Y k).1).pw.length kQ) ((Z.PowerFormula Y k).1).pw from by with_reducible repeat' (first | exact IQ_11 | refine K.ints.alloc ?_ _ | refine K.ints.drew ?_ | refine K.ints.set ?_ _ ?_ _ | (dsimp only; omega) | omega | (simp; done) | (simp; omega))) f12
  clear c11_0_0 c11_0_1 c11_0_2 c11_0_3 y11_0 c11_1_0 c11_1_1 c11_1_2 c11_1_3 y11_1 c11_2_0 c11_2_1 c11_2_2 c11_2_3 y11_2 c11_4_0 c11_4_1 c11_4_2 c11_4_3 y11_4 c11_5_0 c11_5_1 c11_5_2 c11_5_3 y11_5 c11_6_0 c11_6_1 c11_6_2 c11_6_3 y11_6 c11_7_0 c11_7_1 c11_7_2 c11_7_3 y11_7 IF_11 IG_11 IP_11 IX_11 IY_11 IQ_11 F11 f12
  by_cases h3 : (Z.PowerFormula Y k).2 = 0
  · skip
    (try rw [h3])
    go_wp2_with fail
    go_loopw [21] (fun i wr => ∃ c : Int, (97 ≤ c ∧ c ≤ 105) ∧ i = .int .u8 c ∧ Hid (K.Ext w12 wr)) (fun i _ => (105 - intOf i).toNat)
    case atStart => exact ⟨97, by omega, rfl, Z.hide (by repeat' (first | exact K.Ext.refl _ | refine K.Ext.alloc ?_ _))⟩
    case round =>
      rename World => wra
      obtain ⟨ca, hca, rfl, HXa⟩ := hrel
      have XRa : K.Ext w wra := K.Ext.trans F12 HXa.out
      have cwra_0_0 := HXa.out.cell_of c12_0_0
      have cwra_0_1 := HXa.out.cell_of c12_0_1
      have cwra_0_2 := HXa.out.cell_of c12_0_2
      have cwra_0_3 := HXa.out.cell_of c12_0_3
      have ywra_0 : w1.heap.size < wra.heap.size := World.block_lt_of_cell? wra _ cwra_0_0
      have cwra_1_0 := HXa.out.cell_of c12_1_0
      have cwra_1_1 := HXa.out.cell_of c12_1_1
      have cwra_1_2 := HXa.out.cell_of c12_1_2
      have cwra_1_3 := HXa.out.cell_of c12_1_3
      have ywra_1 : w1.heap.size + 1 < wra.heap.size := World.block_lt_of_cell? wra _ cwra_1_0
      have cwra_2_0 := HXa.out.cell_of c12_2_0
      have cwra_2_1 := HXa.out.cell_of c12_2_1
      have cwra_2_2 := HXa.out.cell_of c12_2_2
      have cwra_2_3 := HXa.out.cell_of c12_2_3
      have ywra_2 : w2.heap.size < wra.heap.size := World.block_lt_of_cell? wra _ cwra_2_0
      have cwra_5_0 := HXa.out.cell_of c12_5_0
      have cwra_5_1 := HXa.out.cell_of c12_5_1
      have cwra_5_2 := HXa.out.cell_of c12_5_2
      have cwra_5_3 := HXa.out.cell_of c12_5_3
      have ywra_5 : w7.heap.size < wra.heap.size := World.block_lt_of_cell? wra _ cwra_5_0
      have cwra_6_0 := HXa.out.cell_of c12_6_0
      have cwra_6_1 := HXa.out.cell_of c12_6_1
      have cwra_6_2 := HXa.out.cell_of c12_6_2
      have cwra_6_3 := HXa.out.cell_of c12_6_3
      have ywra_6 : w8.heap.size < wra.heap.size := World.block_lt_of_cell? wra _ cwra_6_0
      have Ra_F := K.ints.ext (show K.ints _ 0 w1.heap.size (.slice oF F.pw.length kF) F.pw from by with_reducible repeat' (first | exact IF_12 | refine K.ints.alloc ?_ _ | refine K.ints.drew ?_ | refine K.ints.set ?_ _ ?_ _ | (dsimp only; omega) | omega | (simp; done) | (simp; omega))) HXa.out
      have Ra_G := K.ints.ext (show K.ints _ 0 w1.heap.size (.slice oG G.pw.length kG) G.pw from by with_reducible repeat' (first | exact IG_12 | refine K.ints.alloc ?_ _ | refine K.ints.drew ?_ | refine K.ints.set ?_ _ ?_ _ | (dsimp only; omega) | omega | (simp; done) | (simp; omega))) HXa.out
      have Ra_P := K.ints.ext (show K.ints _ 0 w2.heap.size (.slice oP ((Z.MultiplyFormulas F G).1).pw.length kP) ((Z.MultiplyFormulas F G).1).pw from by with_reducible repeat' (first | exact IP_12 | refine K.ints.alloc ?_ _ | refine K.ints.drew ?_ | refine K.ints.set ?_ _ ?_ _ | (dsimp only; omega) | omega | (simp; done) | (simp; omega))) HXa.out
      have Ra_Y := K.ints.ext (show K.ints _ 0 w7.heap.size (.slice oY Y.pw.length kY) Y.pw from by with_reducible repeat' (first | exact IY_12 | refine K.ints.alloc ?_ _ | refine K.ints.drew ?_ | refine K.ints.set ?_ _ ?_ _ | (dsimp only; omega) | omega | (simp; done) | (simp; omega))) HXa.out
      have Ra_Q := K.ints.ext (show K.ints _ 0 w8.heap.size (.slice oQ ((Z.PowerFormula Y k).1).pw.length kQ) ((Z.PowerFormula Y k).1).pw from by with_reducible repeat' (first | exact IQ_12 | refine K.ints.alloc ?_ _ | refine K.ints.drew ?_ | refine K.ints.set ?_ _ ?_ _ | (dsimp only; omega) | omega | (simp; done) | (simp; omega))) HXa.out
      clear c12_0_0 c12_0_1 c12_0_2 c12_0_3 y12_0 c12_1_0 c12_1_1 c12_1_2 c12_1_3 y12_1 c12_2_0 c12_2_1 c12_2_2 c12_2_3 y12_2 c12_4_0 c12_4_1 c12_4_2 c12_4_3 y12_4 c12_5_0 c12_5_1 c12_5_2 c12_5_3 y12_5 c12_6_0 c12_6_1 c12_6_2 c12_6_3 y12_6 IF_12 IG_12 IP_12 IY_12 IQ_12 F12
      by_cases hlta : ca ≤ 104
      · skip
        have GXa : K.Ext w12 wra := HXa.out
        obtain ⟨x1, x2, x3⟩ := Z.power_at h3 ca (by omega)
        have hcb : 0 ≤ ca ∧ ca ≤ 255 := by omega
        go_wp2_with fail
        refine K.call (by with_reducible rfl) (by with_reducible rfl) (impl_ExponentOf Y ca _ (by omega) (by omega) (show K.ints _ 0 w7.heap.size (.slice oY Y.pw.length kY) Y.pw from by with_reducible repeat' (first | exact Ra_Y | refine K.ints.alloc ?_ _ | refine K.ints.drew ?_ | refine K.ints.set ?_ _ ?_ _ | (dsimp only; omega) | omega | (simp; done) | (simp; omega))) hcb) ?_
        rintro e w13 ⟨rfl, f13⟩
        have F13 : K.Ext w w13 := K.Ext.trans (by repeat' (first | with_reducible exact XRa | with_reducible refine K.Ext.setCell ?_ ?_ _ | with_reducible refine K.Ext.alloc ?_ _ | with_reducible refine K.Ext.drew ?_ | (dsimp only; omega) | omega | (simp; omega))) f13
        have G13 : K.Ext _ w13 := K.Ext.trans (by repeat' (first | with_reducible exact GXa | with_reducible refine K.Ext.setCell ?_ ?_ _ | with_reducible refine K.Ext.alloc ?_ _ | with_reducible refine K.Ext.drew ?_ | (dsimp only; omega) | omega | (simp; omega))) f13
        have c13_0_0 : w13.cell? ⟨w1.heap.size, 0, none⟩ = some (.int .i64 F.dg) := f13.cell_of (by go_simp)
        have c13_0_1 : w13.cell? ⟨w1.heap.size, 1, none⟩ = some (.int .i64 F.tn) := f13.cell_of (by go_simp)
        have c13_0_2 : w13.cell? ⟨w1.heap.size, 2, none⟩ = some (.string F.nm) := f13.cell_of (by go_simp)
        have c13_0_3 : w13.cell? ⟨w1.heap.size, 3, none⟩ = some (.slice oF F.pw.length kF) := f13.cell_of (by go_simp)
        have y13_0 : w1.heap.size < w13.heap.size := World.block_lt_of_cell? w13 _ c13_0_0
        have c13_1_0 : w13.cell? ⟨w1.heap.size + 1, 0, none⟩ = some (.int .i64 G.dg) := f13.cell_of (by go_simp)
        have c13_1_1 : w13.cell? ⟨w1.heap.size + 1, 1, none⟩ = some (.int .i64 G.tn) := f13.cell_of (by go_simp)
        have c13_1_2 : w13.cell? ⟨w1.heap.size + 1, 2, none⟩ = some (.string G.nm) := f13.cell_of (by go_simp)
        have c13_1_3 : w13.cell? ⟨w1.heap.size + 1, 3, none⟩ = some (.slice oG G.pw.length kG) := f13.cell_of (by go_simp)
        have y13_1 : w1.heap.size + 1 < w13.heap.size := World.block_lt_of_cell? w13 _ c13_1_0
        have c13_2_0 : w13.cell? ⟨w2.heap.size, 0, none⟩ = some (.int .i64 ((Z.MultiplyFormulas F G).1).dg) := f13.cell_of (by go_simp)
        have c13_2_1 : w13.cell? ⟨w2.heap.size, 1, none⟩ = some (.int .i64 ((Z.MultiplyFormulas F G).1).tn) := f13.cell_of (by go_simp)
        have c13_2_2 : w13.cell? ⟨w2.heap.size, 2, none⟩ = some (.string ((Z.MultiplyFormulas F G).1).nm) := f13.cell_of (by go_simp)
        have c13_2_3 : w13.cell? ⟨w2.heap.size, 3, none⟩ = some (.slice oP ((Z.MultiplyFormulas F G).1).pw.length kP) := f13.cell_of (by go_simp)
        have y13_2 : w2.heap.size < w13.heap.size := World.block_lt_of_cell? w13 _ c13_2_0
        have c13_5_0 : w13.cell? ⟨w7.heap.size, 0, none⟩ = some (.int .i64 Y.dg) := f13.cell_of (by go_simp)
        have c13_5_1 : w13.cell? ⟨w7.heap.size, 1, none⟩ = some (.int .i64 Y.tn) := f13.cell_of (by go_simp)
        have c13_5_2 : w13.cell? ⟨w7.heap.size, 2, none⟩ = some (.string Y.nm) := f13.cell_of (by go_simp)
        have c13_5_3 : w13.cell? ⟨w7.heap.size, 3, none⟩ = some (.slice oY Y.pw.length kY) := f13.cell_of (by go_simp)
        have y13_5 : w7.heap.size < w13.heap.size := World.block_lt_of_cell? w13 _ c13_5_0
        have c13_6_0 : w13.cell? ⟨w8.heap.size, 0, none⟩ = some (.int .i64 ((Z.PowerFormula Y k).1).dg) := f13.cell_of (by go_simp)
        have c13_6_1 : w13.cell? ⟨w8.heap.size, 1, none⟩ = some (.int .i64 ((Z.PowerFormula Y k).1).tn) := f13.cell_of (by go_simp)
        have c13_6_2 : w13.cell? ⟨w8.heap.size, 2, none⟩ = some (.string ((Z.PowerFormula Y k).1).nm) := f13.cell_of (by go_simp)
        have c13_6_3 : w13.cell? ⟨w8.heap.size, 3, none⟩ = some (.slice oQ ((Z.PowerFormula Y k).1).pw.length kQ) := f13.cell_of (by go_simp)
        have y13_6 : w8.heap.size < w13.heap.size := World.block_lt_of_cell? w13 _ c13_6_0
        have IF_13 := K.ints.ext (show K.ints _ 0 w1.heap.size (.slice oF F.pw.length kF) F.pw from by with_reducible repeat' (first | exact Ra_F | refine K.ints.alloc ?_ _ | refine K.ints.drew ?_ | refine K.ints.set ?_ _ ?_ _ | (dsimp only; omega) | omega | (simp; done) | (simp; omega))) f13
        have IG_13 := K.ints.ext (show K.ints _ 0 w1.heap.size (.slice oG G.pw.length kG) G.pw from by with_reducible repeat' (first | exact Ra_G | refine K.ints.alloc ?_ _ | refine K.ints.drew ?_ | refine K.ints.set ?_ _ ?_ _ | (dsimp only; omega) | omega | (simp; done) | (simp; omega))) f13
        have IP_13 := K.ints.ext (show K.ints _ 0 w2.heap.size (.slice oP ((Z.MultiplyFormulas F G).1).pw.length kP) ((Z.MultiplyFormulas F G).1).pw from by with_reducible repeat' (first | exact Ra_P | refine K.ints.alloc ?_ _ | refine K.ints.drew ?_ | refine K.ints.set ?_ _ ?_ _ | (dsimp only; omega) | omega | (simp; done) | (simp; omega))) f13
        have IY_13 := K.ints.ext (show K.ints _ 0 w7.heap.size (.slice oY Y.pw.length kY) Y.pw from by with_reducible repeat' (first | exact Ra_Y | refine K.ints.alloc ?_ _ | refine K.ints.drew ?_ | refine K.ints.set ?_ _ ?_ _ | (dsimp only; omega) | omega | (simp; done) | (simp; omega))) f13
        have IQ_13 := K.ints.ext (show K.ints _ 0 w8.heap.size (.slice oQ ((Z.PowerFormula Y k).1).pw.length kQ) ((Z.PowerFormula Y k).1).pw from by with_reducible repeat' (first | exact Ra_Q | refine K.ints.alloc ?_ _ | refine K.ints.drew ?_ | refine K.ints.set ?_ _ ?_ _ | (dsimp only; omega) | omega | (simp; done) | (simp; omega))) f13
        clear cwra_0_0 cwra_0_1 cwra_0_2 cwra_0_3 ywra_0 cwra_1_0 cwra_1_1 cwra_1_2 cwra_1_3 ywra_1 cwra_2_0 cwra_2_1 cwra_2_2 cwra_2_3 ywra_2 cwra_5_0 cwra_5_1 cwra_5_2 cwra_5_3 ywra_5 cwra_6_0 cwra_6_1 cwra_6_2 cwra_6_3 ywra_6 Ra_F Ra_G Ra_P Ra_Y Ra_Q XRa f13 GXa
        go_wp2_with fail
        refine K.call (by with_reducible rfl) (by with_reducible rfl) (impl_ExponentOf (Z.PowerFormula Y k).1 ca _ q1 q2 (show K.ints _ 0 w8.heap.size (.slice oQ ((Z.PowerFormula Y k).1).pw.length kQ) ((Z.PowerFormula Y k).1).pw from by with_reducible repeat' (first | exact IQ_13 | refine K.ints.alloc ?_ _ | refine K.ints.drew ?_ | refine K.ints.set ?_ _ ?_ _ | (dsimp only; omega) | omega | (simp; done) | (simp; omega))) hcb) ?_
        rintro e w14 ⟨rfl, f14⟩
        have F14 : K.Ext w w14 := K.Ext.trans (by repeat' (first | with_reducible exact F13 | with_reducible refine K.Ext.setCell ?_ ?_ _ | with_reducible refine K.Ext.alloc ?_ _ | with_reducible refine K.Ext.drew ?_ | (dsimp only; omega) | omega | (simp; omega))) f14
        have G14 : K.Ext _ w14 := K.Ext.trans (by repeat' (first | with_reducible exact G13 | with_reducible refine K.Ext.setCell ?_ ?_ _ | with_reducible refine K.Ext.alloc ?_ _ | with_reducible refine K.Ext.drew ?_ | (dsimp only; omega) | omega | (simp; omega))) f14
        have c14_0_0 : w14.cell? ⟨w1.heap.size, 0, none⟩ = some (.int .i64 F.dg) := f14.cell_of (by go_simp)
        have c14_0_1 : w14.cell? ⟨w1.heap.size, 1, none⟩ = some (.int .i64 F.tn) := f14.cell_of (by go_simp)
        have c14_0_2 : w14.cell? ⟨w1.heap.size, 2, none⟩ = some (.string F.nm) := f14.cell_of (by go_simp)
        have c14_0_3 : w14.cell? ⟨w1.heap.size, 3, none⟩ = some (.slice oF F.pw.length kF) := f14.cell_of (by go_simp)
        have y14_0 : w1.heap.size < w14.heap.size := World.block_lt_of_cell? w14 _ c14_0_0
        have c14_1_0 : w14.cell? ⟨w1.heap.size + 1, 0, none⟩ = some (.int .i64 G.dg) := f14.cell_of (by go_simp)
        have c14_1_1 : w14.cell? ⟨w1.heap.size + 1, 1, none⟩ = some (.int .i64 G.tn) := f14.cell_of (by go_simp)
        have c14_1_2 : w14.cell? ⟨w1.heap.size + 1, 2, none⟩ = some (.string G.nm) := f14.cell_of (by go_simp)
        have c14_1_3 : w14.cell? ⟨w1.heap.size + 1, 3, none⟩ = some (.slice oG G.pw.length kG) := f14.cell_of (by go_simp)
        have y14_1 : w1.heap.size + 1 < w14.heap.size := World.block_lt_of_cell? w14 _ c14_1_0
        have c14_2_0 : w14.cell? ⟨w2.heap.size, 0, none⟩ = some (.int .i64 ((Z.MultiplyFormulas F G).1).dg) := f14.cell_of (by go_simp)
        have c14_2_1 : w14.cell? ⟨w2.heap.size, 1, none⟩ = some (.int .i64 ((Z.MultiplyFormulas F G).1).tn) := f14.cell_of (by go_simp)
        have c14_2_2 : w14.cell? ⟨w2.heap.size, 2, none⟩ = some (.string ((Z.MultiplyFormulas F G).1).nm) := f14.cell_of (by go_simp)
        have c14_2_3 : w14.cell? ⟨w2.heap.size, 3, none⟩ = some (.slice oP ((Z.MultiplyFormulas F G).1).pw.length kP) := f14.cell_of (by go_simp)
        have y14_2 : w2.heap.size < w14.heap.size := World.block_lt_of_cell? w14 _ c14_2_0
        have c14_5_0 : w14.cell? ⟨w7.heap.size, 0, none⟩ = some (.int .i64 Y.dg) := f14.cell_of (by go_simp)
        have c14_5_1 : w14.cell? ⟨w7.heap.size, 1, none⟩ = some (.int .i64 Y.tn) := f14.cell_of (by go_simp)
        have c14_5_2 : w14.cell? ⟨w7.heap.size, 2, none⟩ = some (.string Y.nm) := f14.cell_of (by go_simp)
        have c14_5_3 : w14.cell? ⟨w7.heap.size, 3, none⟩ = some (.slice oY Y.pw.length kY) := f14.cell_of (by go_simp)
        have y14_5 : w7.heap.size < w14.heap.size := World.block_lt_of_cell? w14 _ c14_5_0
        have c14_6_0 : w14.cell? ⟨w8.heap.size, 0, none⟩ = some (.int .i64 ((Z.PowerFormula Y k).1).dg) := f14.cell_of (by go_simp)
        have c14_6_1 : w14.cell? ⟨w8.heap.size, 1, none⟩ = some (.int .i64 ((Z.PowerFormula Y k).1).tn) := f14.cell_of (by go_simp)
        have c14_6_2 : w14.cell? ⟨w8.heap.size, 2, none⟩ = some (.string ((Z.PowerFormula Y k).1).nm) := f14.cell_of (by go_simp)
        have c14_6_3 : w14.cell? ⟨w8.heap.size, 3, none⟩ = some (.slice oQ ((Z.PowerFormula Y k).1).pw.length kQ) := f14.cell_of (by go_simp)
        have y14_6 : w8.heap.size < w14.heap.size := World.block_lt_of_cell? w14 _ c14_6_0
        have IF_14 := K.ints.ext (show K.ints _ 0 w1.heap.size (.slice oF F.pw.length kF) F.pw from by with_reducible repeat' (first | exact IF_13 | refine K.ints.alloc ?_ _ | refine K.ints.drew ?_ | refine K.ints.set ?_ _ ?_ _ | (dsimp only; omega) | omega | (simp; done) | (simp; omega))) f14
        have IG_14 := K.ints.ext (show K.ints _ 0 w1.heap.size (.slice oG G.pw.length kG) G.pw from by with_reducible repeat' (first | exact IG_13 | refine K.ints.alloc ?_ _ | refine K.ints.drew ?_ | refine K.ints.set ?_ _ ?_ _ | (dsimp only; omega) | omega | (simp; done) | (simp; omega))) f14
        have IP_14 := K.ints.ext (show K.ints _ 0 w2.heap.size (.slice oP ((Z.MultiplyFormulas F G).1).pw.length kP) ((Z.MultiplyFormulas F G).1).pw from by with_reducible repeat' (first | exact IP_13 | refine K.ints.alloc ?_ _ | refine K.ints.drew ?_ | refine K.ints.set ?_ _ ?_ _ | (dsimp only; omega) | omega | (simp; done) | (simp; omega))) f14
        have IY_14 := K.ints.ext (show K.ints _ 0 w7.heap.size (.slice oY Y.pw.length kY) Y.pw from by with_reducible repeat' (first | exact IY_13 | refine K.ints.alloc ?_ _ | refine K.ints.drew ?_ | refine K.ints.set ?_ _ ?_ _ | (dsimp only; omega) | omega | (simp; done) | (simp; omega))) f14
        have IQ_14 := K.ints.ext (show K.ints _ 0 w8.heap.size (.slice oQ ((Z.PowerFormula Y k).1).pw.length kQ) ((Z.PowerFormula Y k).1).pw from by with_reducible repeat' (first | exact IQ_13 | refine K.ints.alloc ?_ _ | refine K.ints.drew ?_ | refine K.ints.set ?_ _ ?_ _ | (dsimp only; omega) | omega | (simp; done) | (simp; omega))) f14
        clear c13_0_0 c13_0_1 c13_0_2 c13_0_3 y13_0 c13_1_0 c13_1_1 c13_1_2 c13_1_3 y13_1 c13_2_0 c13_2_1 c13_2_2 c13_2_3 y13_2 c13_5_0 c13_5_1 c13_5_2 c13_5_3 y13_5 c13_6_0 c13_6_1 c13_6_2 c13_6_3 y13_6 IF_13 IG_13 IP_13 IY_13 IQ_13 F13 f14 G13
        go_wp2_with fail
        go_roundw
        case rel => exact ⟨ca + 1, by omega, by go_num, Z.hide (by repeat' (first | with_reducible exact G14 | with_reducible refine K.Ext.setCell ?_ ?_ _ | with_reducible refine K.Ext.alloc ?_ _ | with_reducible refine K.Ext.drew ?_ | (dsimp only; omega) | omega | (simp; omega)))⟩
        case measure => simp only [intOf]; omega
      · obtain rfl : ca = 105 := by omega
        by_cases hb : (Z.MultiplyFormulas F G).2 = 0
        · skip
          (try rw [hb])
          go_wp2_with fail
          go_loopw [26] (fun i wr => ∃ c : Int, (97 ≤ c ∧ c ≤ 105) ∧ i = .int .u8 c ∧ Hid (K.Ext wra wr)) (fun i _ => (105 - intOf i).toNat)
          case atStart => exact ⟨97, by omega, rfl, Z.hide (by repeat' (first | exact K.Ext.refl _ | refine K.Ext.alloc ?_ _))⟩
          case round =>
            rename World => wrb
            obtain ⟨cb, hcb, rfl, HXb⟩ := hrel
            have XRb : K.Ext w wrb := K.Ext.trans XRa HXb.out
            have cwrb_0_0 := HXb.out.cell_of cwra_0_0
            have cwrb_0_1 := HXb.out.cell_of cwra_0_1
            have cwrb_0_2 := HXb.out.cell_of cwra_0_2
            have cwrb_0_3 := HXb.out.cell_of cwra_0_3
            have ywrb_0 : w1.heap.size < wrb.heap.size := World.block_lt_of_cell? wrb _ cwrb_0_0
            have cwrb_1_0 := HXb.out.cell_of cwra_1_0
            have cwrb_1_1 := HXb.out.cell_of cwra_1_1
            have cwrb_1_2 := HXb.out.cell_of cwra_1_2
            have cwrb_1_3 := HXb.out.cell_of cwra_1_3
            have ywrb_1 : w1.heap.size + 1 < wrb.heap.size := World.block_lt_of_cell? wrb _ cwrb_1_0
            have cwrb_2_0 := HXb.out.cell_of cwra_2_0
            have cwrb_2_1 := HXb.out.cell_of cwra_2_1
            have cwrb_2_2 := HXb.out.cell_of cwra_2_2
            have cwrb_2_3 := HXb.out.cell_of cwra_2_3
            have ywrb_2 : w2.heap.size < wrb.heap.size := World.block_lt_of_cell? wrb _ cwrb_2_0
            have Rb_F := K.ints.ext (show K.ints _ 0 w1.heap.size (.slice oF F.pw.length kF) F.pw from by with_reducible repeat' (first | exact Ra_F | refine K.ints.alloc ?_ _ | refine K.ints.drew ?_ | refine K.ints.set ?_ _ ?_ _ | (dsimp only; omega) | omega | (simp; done) | (simp; omega))) HXb.out
            have Rb_G := K.ints.ext (show K.ints _ 0 w1.heap.size (.slice oG G.pw.length kG) G.pw from by with_reducible repeat' (first | exact Ra_G | refine K.ints.alloc ?_ _ | refine K.ints.drew ?_ | refine K.ints.set ?_ _ ?_ _ | (dsimp only; omega) | omega | (simp; done) | (simp; omega))) HXb.out
            have Rb_P := K.ints.ext (show K.ints _ 0 w2.heap.size (.slice oP ((Z.MultiplyFormulas F G).1).pw.length kP) ((Z.MultiplyFormulas F G).1).pw from by with_reducible repeat' (first | exact Ra_P | refine K.ints.alloc ?_ _ | refine K.ints.drew ?_ | refine K.ints.set ?_ _ ?_ _ | (dsimp only; omega) | omega | (simp; done) | (simp; omega))) HXb.out
            clear cwra_0_0 cwra_0_1 cwra_0_2 cwra_0_3 ywra_0 cwra_1_0 cwra_1_1 cwra_1_2 cwra_1_3 ywra_1 cwra_2_0 cwra_2_1 cwra_2_2 cwra_2_3 ywra_2 cwra_5_0 cwra_5_1 cwra_5_2 cwra_5_3 ywra_5 cwra_6_0 cwra_6_1 cwra_6_2 cwra_6_3 ywra_6 Ra_F Ra_G Ra_P XRa
            by_cases hltb : cb ≤ 104
            · skip
              have GXb : K.Ext wra wrb := HXb.out
              obtain ⟨x1, x2, x3, x4⟩ := Z.product_at hb cb
              have hcb : 0 ≤ cb ∧ cb ≤ 255 := by omega
              go_wp2_with fail
              refine K.call (by with_reducible rfl) (by with_reducible rfl) (impl_ExponentOf F cb _ (by omega) (by omega) (show K.ints _ 0 w1.heap.size (.slice oF F.pw.length kF) F.pw from by with_reducible repeat' (first | exact Rb_F | refine K.ints.alloc ?_ _ | refine K.ints.drew ?_ | refine K.ints.set ?_ _ ?_ _ | (dsimp only; omega) | omega | (simp; done) | (simp; omega))) hcb) ?_
              rintro e w13 ⟨rfl, f13⟩
              have F13 : K.Ext w w13 := K.Ext.trans (by repeat' (first | with_reducible exact XRb | with_reducible refine K.Ext.setCell ?_ ?_ _ | with_reducible refine K.Ext.alloc ?_ _ | with_reducible refine K.Ext.drew ?_ | (dsimp only; omega) | omega | (simp; omega))) f13
              have G13 : K.Ext _ w13 := K.Ext.trans (by repeat' (first | with_reducible exact GXb | with_reducible refine K.Ext.setCell ?_ ?_ _ | with_reducible refine K.Ext.alloc ?_ _ | with_reducible refine K.Ext.drew ?_ | (dsimp only; omega) | omega | (simp; omega))) f13
              have c13_0_0 : w13.cell? ⟨w1.heap.size, 0, none⟩ = some (.int .i64 F.dg) := f13.cell_of (by go_simp)
              have c13_0_1 : w13.cell? ⟨w1.heap.size, 1, none⟩ = some (.int .i64 F.tn) := f13.cell_of (by go_simp)
              have c13_0_2 : w13.cell? ⟨w1.heap.size, 2, none⟩ = some (.string F.nm) := f13.cell_of (by go_simp)
              have c13_0_3 : w13.cell? ⟨w1.heap.size, 3, none⟩ = some (.slice oF F.pw.length kF) := f13.cell_of (by go_simp)
              have y13_0 : w1.heap.size < w13.heap.size := World.block_lt_of_cell? w13 _ c13_0_0
              have c13_1_0 : w13.cell? ⟨w1.heap.size + 1, 0, none⟩ = some (.int .i64 G.dg) := f13.cell_of (by go_simp)
              have c13_1_1 : w13.cell? ⟨w1.heap.size + 1, 1, none⟩ = some (.int .i64 G.tn) := f13.cell_of (by go_simp)
              have c13_1_2 : w13.cell? ⟨w1.heap.size + 1, 2, none⟩ = some (.string G.nm) := f13.cell_of (by go_simp)
              have c13_1_3 : w13.cell? ⟨w1.heap.size + 1, 3, none⟩ = some (.slice oG G.pw.length kG) := f13.cell_of (by go_simp)
              have y13_1 : w1.heap.size + 1 < w13.heap.size := World.block_lt_of_cell? w13 _ c13_1_0
              have c13_2_0 : w13.cell? ⟨w2.heap.size, 0, none⟩ = some (.int .i64 ((Z.MultiplyFormulas F G).1).dg) := f13.cell_of (by go_simp)
              have c13_2_1 : w13.cell? ⟨w2.heap.size, 1, none⟩ = some (.int .i64 ((Z.MultiplyFormulas F G).1).tn) := f13.cell_of (by go_simp)
              have c13_2_2 : w13.cell? ⟨w2.heap.size, 2, none⟩ = some (.string ((Z.MultiplyFormulas F G).1).nm) := f13.cell_of (by go_simp)
              have c13_2_3 : w13.cell? ⟨w2.heap.size, 3, none⟩ = some (.slice oP ((Z.MultiplyFormulas F G).1).pw.length kP) := f13.cell_of (by go_simp)
              have y13_2 : w2.heap.size < w13.heap.size := World.block_lt_of_cell? w13 _ c13_2_0
              have IF_13 := K.ints.ext (show K.ints _ 0 w1.heap.size (.slice oF F.pw.length kF) F.pw from by with_reducible repeat' (first | exact Rb_F | refine K.ints.alloc ?_ _ | refine K.ints.drew ?_ | refine K.ints.set ?_ _ ?_ _ | (dsimp only; omega) | omega | (simp; done) | (simp; omega))) f13
              have IG_13 := K.ints.ext (show K.ints _ 0 w1.heap.size (.slice oG G.pw.length kG) G.pw from by with_reducible repeat' (first | exact Rb_G | refine K.ints.alloc ?_ _ | refine K.ints.drew ?_ | refine K.ints.set ?_ _ ?_ _ | (dsimp only; omega) | omega | (simp; done) | (simp; omega))) f13
              have IP_13 := K.ints.ext (show K.ints _ 0 w2.heap.size (.slice oP ((Z.MultiplyFormulas F G).1).pw.length kP) ((Z.MultiplyFormulas F G).1).pw from by with_reducible repeat' (first | exact Rb_P | refine K.ints.alloc ?_ _ | refine K.ints.drew ?_ | refine K.ints.set ?_ _ ?_ _ | (dsimp only; omega) | omega | (simp; done) | (simp; omega))) f13
              clear cwrb_0_0 cwrb_0_1 cwrb_0_2 cwrb_0_3 ywrb_0 cwrb_1_0 cwrb_1_1 cwrb_1_2 cwrb_1_3 ywrb_1 cwrb_2_0 cwrb_2_1 cwrb_2_2 cwrb_2_3 ywrb_2 Rb_F Rb_G Rb_P XRb f13 GXb
              go_wp2_with fail
              refine K.call (by with_reducible rfl) (by with_reducible rfl) (impl_ExponentOf G cb _ (by omega) (by omega) (show K.ints _ 0 w1.heap.size (.slice oG G.pw.length kG) G.pw from by with_reducible repeat' (first | exact IG_13 | refine K.ints.alloc ?_ _ | refine K.ints.drew ?_ | refine K.ints.set ?_ _ ?_ _ | (dsimp only; omega) | omega | (simp; done) | (simp; omega))) hcb) ?_
              rintro e w14 ⟨rfl, f14⟩
              have F14 : K.Ext w w14 := K.Ext.trans (by repeat' (first | with_reducible exact F13 | with_reducible refine K.Ext.setCell ?_ ?_ _ | with_reducible refine K.Ext.alloc ?_ _ | with_reducible refine K.Ext.drew ?_ | (dsimp only; omega) | omega | (simp; omega))) f14
              have G14 : K.Ext _ w14 := K.Ext.trans (by repeat' (first | with_reducible exact G13 | with_reducible refine K.Ext.setCell ?_ ?_ _ | with_reducible refine K.Ext.alloc ?_ _ | with_reducible refine K.Ext.drew ?_ | (dsimp only; omega) | omega | (simp; omega))) f14
              have c14_0_0 : w14.cell? ⟨w1.heap.size, 0, none⟩ = some (.int .i64 F.dg) := f14.cell_of (by go_simp)
              have c14_0_1 : w14.cell? ⟨w1.heap.size, 1, none⟩ = some (.int .i64 F.tn) := f14.cell_of (by go_simp)
              have c14_0_2 : w14.cell? ⟨w1.heap.size, 2, none⟩ = some (.string F.nm) := f14.cell_of (by go_simp)
              have c14_0_3 : w14.cell? ⟨w1.heap.size, 3, none⟩ = some (.slice oF F.pw.length kF) := f14.cell_of (by go_simp)
              have y14_0 : w1.heap.size < w14.heap.size := World.block_lt_of_cell? w14 _ c14_0_0
              have c14_1_0 : w14.cell? ⟨w1.heap.size + 1, 0, none⟩ = some (.int .i64 G.dg) := f14.cell_of (by go_simp)
              have c14_1_1 : w14.cell? ⟨w1.heap.size + 1, 1, none⟩ = some (.int .i64 G.tn) := f14.cell_of (by go_simp)
              have c14_1_2 : w14.cell? ⟨w1.heap.size + 1, 2, none⟩ = some (.string G.nm) := f14.cell_of (by go_simp)
              have c14_1_3 : w14.cell? ⟨w1.heap.size + 1, 3, none⟩ = some (.slice oG G.pw.length kG) := f14.cell_of (by go_simp)
              have y14_1 : w1.heap.size + 1 < w14.heap.size := World.block_lt_of_cell? w14 _ c14_1_0
              have c14_2_0 : w14.cell? ⟨w2.heap.size, 0, none⟩ = some (.int .i64 ((Z.MultiplyFormulas F G).1).dg) := f14.cell_of (by go_simp)
              have c14_2_1 : w14.cell? ⟨w2.heap.size, 1, none⟩ = some (.int .i64 ((Z.MultiplyFormulas F G).1).tn) := f14.cell_of (by go_simp)
              have c14_2_2 : w14.cell? ⟨w2.heap.size, 2, none⟩ = some (.string ((Z.MultiplyFormulas F G).1).nm) := f14.cell_of (by go_simp)
              have c14_2_3 : w14.cell? ⟨w2.heap.size, 3, none⟩ = some (.slice oP ((Z.MultiplyFormulas F G).1).pw.length kP) := f14.cell_of (by go_simp)
              have y14_2 : w2.heap.size < w14.heap.size := World.block_lt_of_cell? w14 _ c14_2_0
              have IF_14 := K.ints.ext (show K.ints _ 0 w1.heap.size (.slice oF F.pw.length kF) F.pw from by with_reducible repeat' (first | exact IF_13 | refine K.ints.alloc ?_ _ | refine K.ints.drew ?_ | refine K.ints.set ?_ _ ?_ _ | (dsimp only; omega) | omega | (simp; done) | (simp; omega))) f14
              have IG_14 := K.ints.ext (show K.ints _ 0 w1.heap.size (.slice oG G.pw.length kG) G.pw from by with_reducible repeat' (first | exact IG_13 | refine K.ints.alloc ?_ _ | refine K.ints.drew ?_ | refine K.ints.set ?_ _ ?_ _ | (dsimp only; omega) | omega | (simp; done) | (simp; omega))) f14
              have IP_14 := K.ints.ext (show K.ints _ 0 w2.heap.size (.slice oP ((Z.MultiplyFormulas F G).1).pw.length kP) ((Z.MultiplyFormulas F G).1).pw from by with_reducible repeat' (first | exact IP_13 | refine K.ints.alloc ?_ _ | refine K.ints.drew ?_ | refine K.ints.set ?_ _ ?_ _ | (dsimp only; omega) | omega | (simp; done) | (simp; omega))) f14
              clear c13_0_0 c13_0_1 c13_0_2 c13_0_3 y13_0 c13_1_0 c13_1_1 c13_1_2 c13_1_3 y13_1 c13_2_0 c13_2_1 c13_2_2 c13_2_3 y13_2 IF_13 IG_13 IP_13 F13 f14 G13
              go_wp2_with fail
              refine K.call (by with_reducible rfl) (by with_reducible rfl) (impl_ExponentOf (Z.MultiplyFormulas F G).1 cb _ t1 t2 (show K.ints _ 0 w2.heap.size (.slice oP ((Z.MultiplyFormulas F G).1).pw.length kP) ((Z.MultiplyFormulas F G).1).pw from by with_reducible repeat' (first | exact IP_14 | refine K.ints.alloc ?_ _ | refine K.ints.drew ?_ | refine K.ints.set ?_ _ ?_ _ | (dsimp only; omega) | omega | (simp; done) | (simp; omega))) hcb) ?_
              rintro e w15 ⟨rfl, f15⟩
              have F15 : K.Ext w w15 := K.Ext.trans (by repeat' (first | with_reducible exact F14 | with_reducible refine K.Ext.setCell ?_ ?_ _ | with_reducible refine K.Ext.alloc ?_ _ | with_reducible refine K.Ext.drew ?_ | (dsimp only; omega) | omega | (simp; omega))) f15
              have G15 : K.Ext _ w15 := K.Ext.trans (by repeat' (first | with_reducible exact G14 | with_reducible refine K.Ext.setCell ?_ ?_ _ | with_reducible refine K.Ext.alloc ?_ _ | with_reducible refine K.Ext.drew ?_ | (dsimp only; omega) | omega | (simp; omega))) f15
              have c15_0_0 : w15.cell? ⟨w1.heap.size, 0, none⟩ = some (.int .i64 F.dg) := f15.cell_of (by go_simp)
              have c15_0_1 : w15.cell? ⟨w1.heap.size, 1, none⟩ = some (.int .i64 F.tn) := f15.cell_of (by go_simp)
              have c15_0_2 : w15.cell? ⟨w1.heap.size, 2, none⟩ = some (.string F.nm) := f15.cell_of (by go_simp)
              have c15_0_3 : w15.cell? ⟨w1.heap.size, 3, none⟩ = some (.slice oF F.pw.length kF) := f15.cell_of (by go_simp)
              have y15_0 : w1.heap.size < w15.heap.size := World.block_lt_of_cell? w15 _ c15_0_0
              have c15_1_0 : w15.cell? ⟨w1.heap.size + 1, 0, none⟩ = some (.int .i64 G.dg) := f15.cell_of (by go_simp)
              have c15_1_1 : w15.cell? ⟨w1.heap.size + 1, 1, none⟩ = some (.int .i64 G.tn) := f15.cell_of (by go_simp)
              have c15_1_2 : w15.cell? ⟨w1.heap.size + 1, 2, none⟩ = some (.string G.nm) := f15.cell_of (by go_simp)
              have c15_1_3 : w15.cell? ⟨w1.heap.size + 1, 3, none⟩ = some (.slice oG G.pw.length kG) := f15.cell_of (by go_simp)
              have y15_1 : w1.heap.size + 1 < w15.heap.size := World.block_lt_of_cell? w15 _ c15_1_0
              have c15_2_0 : w15.cell? ⟨w2.heap.size, 0, none⟩ = some (.int .i64 ((Z.MultiplyFormulas F G).1).dg) := f15.cell_of (by go_simp)
              have c15_2_1 : w15.cell? ⟨w2.heap.size, 1, none⟩ = some (.int .i64 ((Z.MultiplyFormulas F G).1).tn) := f15.cell_of (by go_simp)
              have c15_2_2 : w15.cell? ⟨w2.heap.size, 2, none⟩ = some (.string ((Z.MultiplyFormulas F G).1).nm) := f15.cell_of (by go_simp)
              have c15_2_3 : w15.cell? ⟨w2.heap.size, 3, none⟩ = some (.slice oP ((Z.MultiplyFormulas F G).1).pw.length kP) := f15.cell_of (by go_simp)
              have y15_2 : w2.heap.size < w15.heap.size := World.block_lt_of_cell? w15 _ c15_2_0
              have IF_15 := K.ints.ext (show K.ints _ 0 w1.heap.size (.slice oF F.pw.length kF) F.pw from by with_reducible repeat' (first | exact IF_14 | refine K.ints.alloc ?_ _ | refine K.ints.drew ?_ | refine K.ints.set ?_ _ ?_ _ | (dsimp only; omega) | omega | (simp; done) | (simp; omega))) f15
              have IG_15 := K.ints.ext (show K.ints _ 0 w1.heap.size (.slice oG G.pw.length kG) G.pw from by with_reducible repeat' (first | exact IG_14 | refine K.ints.alloc ?_ _ | refine K.ints.drew ?_ | refine K.ints.set ?_ _ ?_ _ | (dsimp only; omega) | omega | (simp; done) | (simp; omega))) f15
              have IP_15 := K.ints.ext (show K.ints _ 0 w2.heap.size (.slice oP ((Z.MultiplyFormulas F G).1).pw.length kP) ((Z.MultiplyFormulas F G).1).pw from by with_reducible repeat' (first | exact IP_14 | refine K.ints.alloc ?_ _ | refine K.ints.drew ?_ | refine K.ints.set ?_ _ ?_ _ | (dsimp only; omega) | omega | (simp; done) | (simp; omega))) f15
              clear c14_0_0 c14_0_1 c14_0_2 c14_0_3 y14_0 c14_1_0 c14_1_1 c14_1_2 c14_1_3 y14_1 c14_2_0 c14_2_1 c14_2_2 c14_2_3 y14_2 IF_14 IG_14 IP_14 F14 f15 G14
              go_wp2_with fail
              go_roundw
              case rel => exact ⟨cb + 1, by omega, by go_num, Z.hide (by repeat' (first | with_reducible exact G15 | with_reducible refine K.Ext.setCell ?_ ?_ _ | with_reducible refine K.Ext.alloc ?_ _ | with_reducible refine K.Ext.drew ?_ | (dsimp only; omega) | omega | (simp; omega)))⟩
              case measure => simp only [intOf]; omega
            · obtain rfl : cb = 105 := by omega
              have hok := (Z.product_law hb).2.2.1
              go_wp2_with fail
              refine K.call (by with_reducible rfl) (by with_reducible rfl) (impl_IsFormula (Z.MultiplyFormulas F G).1 _ t1 t2 (show K.ints _ 0 w2.heap.size (.slice oP ((Z.MultiplyFormulas F G).1).pw.length kP) ((Z.MultiplyFormulas F G).1).pw from by with_reducible repeat' (first | exact Rb_P | refine K.ints.alloc ?_ _ | refine K.ints.drew ?_ | refine K.ints.set ?_ _ ?_ _ | (dsimp only; omega) | omega | (simp; done) | (simp; omega)))) ?_
              rintro e w13 ⟨rfl, f13⟩
              have F13 : K.Ext w w13 := K.Ext.trans (by repeat' (first | with_reducible exact XRb | with_reducible refine K.Ext.setCell ?_ ?_ _ | with_reducible refine K.Ext.alloc ?_ _ | with_reducible refine K.Ext.drew ?_ | (dsimp only; omega) | omega | (simp; omega))) f13
              have c13_0_0 : w13.cell? ⟨w1.heap.size, 0, none⟩ = some (.int .i64 F.dg) := f13.cell_of (by go_simp)
              have c13_0_1 : w13.cell? ⟨w1.heap.size, 1, none⟩ = some (.int .i64 F.tn) := f13.cell_of (by go_simp)
              have c13_0_2 : w13.cell? ⟨w1.heap.size, 2, none⟩ = some (.string F.nm) := f13.cell_of (by go_simp)
              have c13_0_3 : w13.cell? ⟨w1.heap.size, 3, none⟩ = some (.slice oF F.pw.length kF) := f13.cell_of (by go_simp)
              have y13_0 : w1.heap.size < w13.heap.size := World.block_lt_of_cell? w13 _ c13_0_0
              have c13_1_0 : w13.cell? ⟨w1.heap.size + 1, 0, none⟩ = some (.int .i64 G.dg) := f13.cell_of (by go_simp)
              have c13_1_1 : w13.cell? ⟨w1.heap.size + 1, 1, none⟩ = some (.int .i64 G.tn) := f13.cell_of (by go_simp)
              have c13_1_2 : w13.cell? ⟨w1.heap.size + 1, 2, none⟩ = some (.string G.nm) := f13.cell_of (by go_simp)
              have c13_1_3 : w13.cell? ⟨w1.heap.size + 1, 3, none⟩ = some (.slice oG G.pw.length kG) := f13.cell_of (by go_simp)
              have y13_1 : w1.heap.size + 1 < w13.heap.size := World.block_lt_of_cell? w13 _ c13_1_0
              have c13_2_0 : w13.cell? ⟨w2.heap.size, 0, none⟩ = some (.int .i64 ((Z.MultiplyFormulas F G).1).dg) := f13.cell_of (by go_simp)
              have c13_2_1 : w13.cell? ⟨w2.heap.size, 1, none⟩ = some (.int .i64 ((Z.MultiplyFormulas F G).1).tn) := f13.cell_of (by go_simp)
              have c13_2_2 : w13.cell? ⟨w2.heap.size, 2, none⟩ = some (.string ((Z.MultiplyFormulas F G).1).nm) := f13.cell_of (by go_simp)
              have c13_2_3 : w13.cell? ⟨w2.heap.size, 3, none⟩ = some (.slice oP ((Z.MultiplyFormulas F G).1).pw.length kP) := f13.cell_of (by go_simp)
              have y13_2 : w2.heap.size < w13.heap.size := World.block_lt_of_cell? w13 _ c13_2_0
              have IF_13 := K.ints.ext (show K.ints _ 0 w1.heap.size (.slice oF F.pw.length kF) F.pw from by with_reducible repeat' (first | exact Rb_F | refine K.ints.alloc ?_ _ | refine K.ints.drew ?_ | refine K.ints.set ?_ _ ?_ _ | (dsimp only; omega) | omega | (simp; done) | (simp; omega))) f13
              have IG_13 := K.ints.ext (show K.ints _ 0 w1.heap.size (.slice oG G.pw.length kG) G.pw from by with_reducible repeat' (first | exact Rb_G | refine K.ints.alloc ?_ _ | refine K.ints.drew ?_ | refine K.ints.set ?_ _ ?_ _ | (dsimp only; omega) | omega | (simp; done) | (simp; omega))) f13
              have IP_13 := K.ints.ext (show K.ints _ 0 w2.heap.size (.slice oP ((Z.MultiplyFormulas F G).1).pw.length kP) ((Z.MultiplyFormulas F G).1).pw from by with_reducible repeat' (first | exact Rb_P | refine K.ints.alloc ?_ _ | refine K.ints.drew ?_ | refine K.ints.set ?_ _ ?_ _ | (dsimp only; omega) | omega | (simp; done) | (simp; omega))) f13
              clear cwrb_0_0 cwrb_0_1 cwrb_0_2 cwrb_0_3 ywrb_0 cwrb_1_0 cwrb_1_1 cwrb_1_2 cwrb_1_3 ywrb_1 cwrb_2_0 cwrb_2_1 cwrb_2_2 cwrb_2_3 ywrb_2 Rb_F Rb_G Rb_P XRb f13
              go_wp2_with fail
              go_ret
              exact ⟨rfl, (by repeat' (first | with_reducible exact F13 | with_reducible refine K.Ext.setCell ?_ ?_ _ | with_reducible refine K.Ext.alloc ?_ _ | with_reducible refine K.Ext.drew ?_ | (dsimp only; omega) | omega | (simp; omega)))⟩
        have hb' : ((Z.MultiplyFormulas F G).2 == 0) = false := by simpa using hb
        go_wp2_with fail
        go_loopw [26] (fun i wr => ∃ c : Int, (97 ≤ c ∧ c ≤ 105) ∧ i = .int .u8 c ∧ Hid (K.Ext wra wr)) (fun i _ => (105 - intOf i).toNat)
        case atStart => exact ⟨97, by omega, rfl, Z.hide (by repeat' (first | exact K.Ext.refl _ | refine K.Ext.alloc ?_ _))⟩
        case round =>
          rename World => wrb
          obtain ⟨cb, hcb, rfl, HXb⟩ := hrel
          have XRb : K.Ext w wrb := K.Ext.trans XRa HXb.out
          have cwrb_0_0 := HXb.out.cell_of cwra_0_0
          have cwrb_0_1 := HXb.out.cell_of cwra_0_1
          have cwrb_0_2 := HXb.out.cell_of cwra_0_2
          have cwrb_0_3 := HXb.out.cell_of cwra_0_3
          have ywrb_0 : w1.heap.size < wrb.heap.size := World.block_lt_of_cell? wrb _ cwrb_0_0
          have cwrb_1_0 := HXb.out.cell_of cwra_1_0
          have cwrb_1_1 := HXb.out.cell_of cwra_1_1
          have cwrb_1_2 := HXb.out.cell_of cwra_1_2
          have cwrb_1_3 := HXb.out.cell_of cwra_1_3
          have ywrb_1 : w1.heap.size + 1 < wrb.heap.size := World.block_lt_of_cell? wrb _ cwrb_1_0
          have cwrb_2_0 := HXb.out.cell_of cwra_2_0
          have cwrb_2_1 := HXb.out.cell_of cwra_2_1
          have cwrb_2_2 := HXb.out.cell_of cwra_2_2
          have cwrb_2_3 := HXb.out.cell_of cwra_2_3
          have ywrb_2 : w2.heap.size < wrb.heap.size := World.block_lt_of_cell? wrb _ cwrb_2_0
          have Rb_F := K.ints.ext (show K.ints _ 0 w1.heap.size (.slice oF F.pw.length kF) F.pw from by with_reducible repeat' (first | exact Ra_F | refine K.ints.alloc ?_ _ | refine K.ints.drew ?_ | refine K.ints.set ?_ _ ?_ _ | (dsimp only; omega) | omega | (simp; done) | (simp; omega))) HXb.out
          have Rb_G := K.ints.ext (show K.ints _ 0 w1.heap.size (.slice oG G.pw.length kG) G.pw from by with_reducible repeat' (first | exact Ra_G | refine K.ints.alloc ?_ _ | refine K.ints.drew ?_ | refine K.ints.set ?_ _ ?_ _ | (dsimp only; omega) | omega | (simp; done) | (simp; omega))) HXb.out
          have Rb_P := K.ints.ext (show K.ints _ 0 w2.heap.size (.slice oP ((Z.MultiplyFormulas F G).1).pw.length kP) ((Z.MultiplyFormulas F G).1).pw from by with_reducible repeat' (first | exact Ra_P | refine K.ints.alloc ?_ _ | refine K.ints.drew ?_ | refine K.ints.set ?_ _ ?_ _ | (dsimp only; omega) | omega | (simp; done) | (simp; omega))) HXb.out
          clear cwra_0_0 cwra_0_1 cwra_0_2 cwra_0_3 ywra_0 cwra_1_0 cwra_1_1 cwra_1_2 cwra_1_3 ywra_1 cwra_2_0 cwra_2_1 cwra_2_2 cwra_2_3 ywra_2 cwra_5_0 cwra_5_1 cwra_5_2 cwra_5_3 ywra_5 cwra_6_0 cwra_6_1 cwra_6_2 cwra_6_3 ywra_6 Ra_F Ra_G Ra_P XRa
          go_wp2_with fail
          go_ret
          exact ⟨rfl, (by repeat' (first | with_reducible exact XRb | with_reducible refine K.Ext.setCell ?_ ?_ _ | with_reducible refine K.Ext.alloc ?_ _ | with_reducible refine K.Ext.drew ?_ | (dsimp only; omega) | omega | (simp; omega)))⟩
  generalize (Z.PowerFormula Y k).2 = N3 at *
  have h3' : (N3 == 0) = false := by simpa using h3
  go_wp2_with fail
  go_loopw [21] (fun i wr => ∃ c : Int, (97 ≤ c ∧ c ≤ 105) ∧ i = .int .u8 c ∧ Hid (K.Ext w12 wr)) (fun i _ => (105 - intOf i).toNat)
  case atStart => exact ⟨97, by omega, rfl, Z.hide (by repeat' (first | exact K.Ext.refl _ | refine K.Ext.alloc ?_ _))⟩
  case round =>
    rename World => wra
    obtain ⟨ca, hca, rfl, HXa⟩ := hrel
    have XRa : K.Ext w wra := K.Ext.trans F12 HXa.out
    have cwra_0_0 := HXa.out.cell_of c12_0_0
    have cwra_0_1 := HXa.out.cell_of c12_0_1
    have cwra_0_2 := HXa.out.cell_of c12_0_2
    have cwra_0_3 := HXa.out.cell_of c12_0_3
    have ywra_0 : w1.heap.size < wra.heap.size := World.block_lt_of_cell? wra _ cwra_0_0
    have cwra_1_0 := HXa.out.cell_of c12_1_0
    have cwra_1_1 := HXa.out.cell_of c12_1_1
    have cwra_1_2 := HXa.out.cell_of c12_1_2
    have cwra_1_3 := HXa.out.cell_of c12_1_3
    have ywra_1 : w1.heap.size + 1 < wra.heap.size := World.block_lt_of_cell? wra _ cwra_1_0
    have cwra_2_0 := HXa.out.cell_of c12_2_0
    have cwra_2_1 := HXa.out.cell_of c12_2_1
    have cwra_2_2 := HXa.out.cell_of c12_2_2
    have cwra_2_3 := HXa.out.cell_of c12_2_3
    have ywra_2 : w2.heap.size < wra.heap.size := World.block_lt_of_cell? wra _ cwra_2_0
    have cwra_5_0 := HXa.out.cell_of c12_5_0
    have cwra_5_1 := HXa.out.cell_of c12_5_1
    have cwra_5_2 := HXa.out.cell_of c12_5_2
    have cwra_5_3 := HXa.out.cell_of c12_5_3
    have ywra_5 : w7.heap.size < wra.heap.size := World.block_lt_of_cell? wra _ cwra_5_0
    have cwra_6_0 := HXa.out.cell_of c12_6_0
    have cwra_6_1 := HXa.out.cell_of c12_6_1
    have cwra_6_2 := HXa.out.cell_of c12_6_2
    have cwra_6_3 := HXa.out.cell_of c12_6_3
    have ywra_6 : w8.heap.size < wra.heap.size := World.block_lt_of_cell? wra _ cwra_6_0
    have Ra_F := K.ints.ext (show K.ints _ 0 w1.heap.size (.slice oF F.pw.length kF) F.pw from by with_reducible repeat' (first | exact IF_12 | refine K.ints.alloc ?_ _ | refine K.ints.drew ?_ | refine K.ints.set ?_ _ ?_ _ | (dsimp only; omega) | omega | (simp; done) | (simp; omega))) HXa.out
    have Ra_G := K.ints.ext (show K.ints _ 0 w1.heap.size (.slice oG G.pw.length kG) G.pw from by with_reducible repeat' (first | exact IG_12 | refine K.ints.alloc ?_ _ | refine K.ints.drew ?_ | refine K.ints.set ?_ _ ?_ _ | (dsimp only; omega) | omega | (simp; done) | (simp; omega))) HXa.out
    have Ra_P := K.ints.ext (show K.ints _ 0 w2.heap.size (.slice oP ((Z.MultiplyFormulas F G).1).pw.length kP) ((Z.MultiplyFormulas F G).1).pw from by with_reducible repeat' (first | exact IP_12 | refine K.ints.alloc ?_ _ | refine K.ints.drew ?_ | refine K.ints.set ?_ _ ?_ _ | (dsimp only; omega) | omega | (simp; done) | (simp; omega))) HXa.out
    have Ra_Y := K.ints.ext (show K.ints _ 0 w7.heap.size (.slice oY Y.pw.length kY) Y.pw from by with_reducible repeat' (first | exact IY_12 | refine K.ints.alloc ?_ _ | refine K.ints.drew ?_ | refine K.ints.set ?_ _ ?_ _ | (dsimp only; omega) | omega | (simp; done) | (simp; omega))) HXa.out
    have Ra_Q := K.ints.ext (show K.ints _ 0 w8.heap.size (.slice oQ ((Z.PowerFormula Y k).1).pw.length kQ) ((Z.PowerFormula Y k).1).pw from by with_reducible repeat' (first | exact IQ_12 | refine K.ints.alloc ?_ _ | refine K.ints.drew ?_ | refine K.ints.set ?_ _ ?_ _ | (dsimp only; omega) | omega | (simp; done) | (simp; omega))) HXa.out
    clear c12_0_0 c12_0_1 c12_0_2 c12_0_3 y12_0 c12_1_0 c12_1_1 c12_1_2 c12_1_3 y12_1 c12_2_0 c12_2_1 c12_2_2 c12_2_3 y12_2 c12_4_0 c12_4_1 c12_4_2 c12_4_3 y12_4 c12_5_0 c12_5_1 c12_5_2 c12_5_3 y12_5 c12_6_0 c12_6_1 c12_6_2 c12_6_3 y12_6 IF_12 IG_12 IP_12 IY_12 IQ_12 F12
    by_cases hb : (Z.MultiplyFormulas F G).2 = 0
    · skip
      (try rw [hb])
      go_wp2_with fail
      go_loopw [26] (fun i wr => ∃ c : Int, (97 ≤ c ∧ c ≤ 105) ∧ i = .int .u8 c ∧ Hid (K.Ext wra wr)) (fun i _ => (105 - intOf i).toNat)
      case atStart => exact ⟨97, by omega, rfl, Z.hide (by repeat' (first | exact K.Ext.refl _ | refine K.Ext.alloc ?_ _))⟩
      case round =>
        rename World => wrb
        obtain ⟨cb, hcb, rfl, HXb⟩ := hrel
        have XRb : K.Ext w wrb := K.Ext.trans XRa HXb.out
        have cwrb_0_0 := HXb.out.cell_of cwra_0_0
        have cwrb_0_1 := HXb.out.cell_of cwra_0_1
        have cwrb_0_2 := HXb.out.cell_of cwra_0_2
        have cwrb_0_3 := HXb.out.cell_of cwra_0_3
        have ywrb_0 : w1.heap.size < wrb.heap.size := World.block_lt_of_cell? wrb _ cwrb_0_0
        have cwrb_1_0 := HXb.out.cell_of cwra_1_0
        have cwrb_1_1 := HXb.out.cell_of cwra_1_1
        have cwrb_1_2 := HXb.out.cell_of cwra_1_2
        have cwrb_1_3 := HXb.out.cell_of cwra_1_3
        have ywrb_1 : w1.heap.size + 1 < wrb.heap.size := World.block_lt_of_cell? wrb _ cwrb_1_0
        have cwrb_2_0 := HXb.out.cell_of cwra_2_0
        have cwrb_2_1 := HXb.out.cell_of cwra_2_1
        have cwrb_2_2 := HXb.out.cell_of cwra_2_2
        have cwrb_2_3 := HXb.out.cell_of cwra_2_3
        have ywrb_2 : w2.heap.size < wrb.heap.size := World.block_lt_of_cell? wrb _ cwrb_2_0
        have Rb_F := K.ints.ext (show K.ints _ 0 w1.heap.size (.slice oF F.pw.length kF) F.pw from by with_reducible repeat' (first | exact Ra_F | refine K.ints.alloc ?_ _ | refine K.ints.drew ?_ | refine K.ints.set ?_ _ ?_ _ | (dsimp only; omega) | omega | (simp; done) | (simp; omega))) HXb.out
        have Rb_G := K.ints.ext (show K.ints _ 0 w1.heap.size (.slice oG G.pw.length kG) G.pw from by with_reducible repeat' (first | exact Ra_G | refine K.ints.alloc ?_ _ | refine K.ints.drew ?_ | refine K.ints.set ?_ _ ?_ _ | (dsimp only; omega) | omega | (simp; done) | (simp; omega))) HXb.out
        have Rb_P := K.ints.ext (show K.ints _ 0 w2.heap.size (.slice oP ((Z.MultiplyFormulas F G).1).pw.length kP) ((Z.MultiplyFormulas F G).1).pw from by with_reducible repeat' (first | exact Ra_P | refine K.ints.alloc ?_ _ | refine K.ints.drew ?_ | refine K.ints.set ?_ _ ?_ _ | (dsimp only; omega) | omega | (simp; done) | (simp; omega))) HXb.out
        clear cwra_0_0 cwra_0_1 cwra_0_2 cwra_0_3 ywra_0 cwra_1_0 cwra_1_1 cwra_1_2 cwra_1_3 ywra_1 cwra_2_0 cwra_2_1 cwra_2_2 cwra_2_3 ywra_2 cwra_5_0 cwra_5_1 cwra_5_2 cwra_5_3 ywra_5 cwra_6_0 cwra_6_1 cwra_6_2 cwra_6_3 ywra_6 Ra_F Ra_G Ra_P XRa
        by_cases hltb : cb ≤ 104
        · skip
          have GXb : K.Ext wra wrb := HXb.out
          obtain ⟨x1, x2, x3, x4⟩ := Z.product_at hb cb
          have hcb : 0 ≤ cb ∧ cb ≤ 255 := by omega
          go_wp2_with fail
          refine K.call (by with_reducible rfl) (by with_reducible rfl) (impl_ExponentOf F cb _ (by omega) (by omega) (show K.ints _ 0 w1.heap.size (.slice oF F.pw.length kF) F.pw from by with_reducible repeat' (first | exact Rb_F | refine K.ints.alloc ?_ _ | refine K.ints.drew ?_ | refine K.ints.set ?_ _ ?_ _ | (dsimp only; omega) | omega | (simp; done) | (simp; omega))) hcb) ?_
          rintro e w13 ⟨rfl, f13⟩
          have F13 : K.Ext w w13 := K.Ext.trans (by repeat' (first | with_reducible exact XRb | with_reducible refine K.Ext.setCell ?_ ?_ _ | with_reducible refine K.Ext.alloc ?_ _ | with_reducible refine K.Ext.drew ?_ | (dsimp only; omega) | omega | (simp; omega))) f13
          have G13 : K.Ext _ w13 := K.Ext.trans (by repeat' (first | with_reducible exact GXb | with_reducible refine K.Ext.setCell ?_ ?_ _ | with_reducible refine K.Ext.alloc ?_ _ | with_reducible refine K.Ext.drew ?_ | (dsimp only; omega) | omega | (simp; omega))) f13
          have c13_0_0 : w13.cell? ⟨w1.heap.size, 0, none⟩ = some (.int .i64 F.dg) := f13.cell_of (by go_simp)
          have c13_0_1 : w13.cell? ⟨w1.heap.size, 1, none⟩ = some (.int .i64 F.tn) := f13.cell_of (by go_simp)
          have c13_0_2 : w13.cell? ⟨w1.heap.size, 2, none⟩ = some (.string F.nm) := f13.cell_of (by go_simp)
          have c13_0_3 : w13.cell? ⟨w1.heap.size, 3, none⟩ = some (.slice oF F.pw.length kF) := f13.cell_of (by go_simp)
          have y13_0 : w1.heap.size < w13.heap.size := World.block_lt_of_cell? w13 _ c13_0_0
          have c13_1_0 : w13.cell? ⟨w1.heap.size + 1, 0, none⟩ = some (.int .i64 G.dg) := f13.cell_of (by go_simp)
          have c13_1_1 : w13.cell? ⟨w1.heap.size + 1, 1, none⟩ = some (.int .i64 G.tn) := f13.cell_of (by go_simp)
          have c13_1_2 : w13.cell? ⟨w1.heap.size + 1, 2, none⟩ = some (.string G.nm) := f13.cell_of (by go_simp)
          have c13_1_3 : w13.cell? ⟨w1.heap.size + 1, 3, none⟩ = some (.slice oG G.pw.length kG) := f13.cell_of (by go_simp)
          have y13_1 : w1.heap.size + 1 < w13.heap.size := World.block_lt_of_cell? w13 _ c13_1_0
          have c13_2_0 : w13.cell? ⟨w2.heap.size, 0, none⟩ = some (.int .i64 ((Z.MultiplyFormulas F G).1).dg) := f13.cell_of (by go_simp)
          have c13_2_1 : w13.cell? ⟨w2.heap.size, 1, none⟩ = some (.int .i64 ((Z.MultiplyFormulas F G).1).tn) := f13.cell_of (by go_simp)
          have c13_2_2 : w13.cell? ⟨w2.heap.size, 2, none⟩ = some (.string ((Z.MultiplyFormulas F G).1).nm) := f13.cell_of (by go_simp)
          have c13_2_3 : w13.cell? ⟨w2.heap.size, 3, none⟩ = some (.slice oP ((Z.MultiplyFormulas F G).1).pw.length kP) := f13.cell_of (by go_simp)
          have y13_2 : w2.heap.size < w13.heap.size := World.block_lt_of_cell? w13 _ c13_2_0
          have IF_13 := K.ints.ext (show K.ints _ 0 w1.heap.size (.slice oF F.pw.length kF) F.pw from by with_reducible repeat' (first | exact Rb_F | refine K.ints.alloc ?_ _ | refine K.ints.drew ?_ | refine K.ints.set ?_ _ ?_ _ | (dsimp only; omega) | omega | (simp; done) | (simp; omega))) f13
          have IG_13 := K.ints.ext (show K.ints _ 0 w1.heap.size (.slice oG G.pw.length kG) G.pw from by with_reducible repeat' (first | exact Rb_G | refine K.ints.alloc ?_ _ | refine K.ints.drew ?_ | refine K.ints.set ?_ _ ?_ _ | (dsimp only; omega) | omega | (simp; done) | (simp; omega))) f13
          have IP_13 := K.ints.ext (show K.ints _ 0 w2.heap.size (.slice oP ((Z.MultiplyFormulas F G).1).pw.length kP) ((Z.MultiplyFormulas F G).1).pw from by with_reducible repeat' (first | exact Rb_P | refine K.ints.alloc ?_ _ | refine K.ints.drew ?_ | refine K.ints.set ?_ _ ?_ _ | (dsimp only; omega) | omega | (simp; done) | (simp; omega))) f13
          clear cwrb_0_0 cwrb_0_1 cwrb_0_2 cwrb_0_3 ywrb_0 cwrb_1_0 cwrb_1_1 cwrb_1_2 cwrb_1_3 ywrb_1 cwrb_2_0 cwrb_2_1 cwrb_2_2 cwrb_2_3 ywrb_2 Rb_F Rb_G Rb_P XRb f13 GXb
          go_wp2_with fail
          refine K.call (by with_reducible rfl) (by with_reducible rfl) (impl_ExponentOf G cb _ (by omega) (by omega) (show K.ints _ 0 w1.heap.size (.slice oG G.pw.length kG) G.pw from by with_reducible repeat' (first | exact IG_13 | refine K.ints.alloc ?_ _ | refine K.ints.drew ?_ | refine K.ints.set ?_ _ ?_ _ | (dsimp only; omega) | omega | (simp; done) | (simp; omega))) hcb) ?_
          rintro e w14 ⟨rfl, f14⟩
          have F14 : K.Ext w w14 := K.Ext.trans (by repeat' (first | with_reducible exact F13 | with_reducible refine K.Ext.setCell ?_ ?_ _ | with_reducible refine K.Ext.alloc ?_ _ | with_reducible refine K.Ext.drew ?_ | (dsimp only; omega) | omega | (simp; omega))) f14
          have G14 : K.Ext _ w14 := K.Ext.trans (by repeat' (first | with_reducible exact G13 | with_reducible refine K.Ext.setCell ?_ ?_ _ | with_reducible refine K.Ext.alloc ?_ _ | with_reducible refine K.Ext.drew ?_ | (dsimp only; omega) | omega | (simp; omega))) f14
          have c14_0_0 : w14.cell? ⟨w1.heap.size, 0, none⟩ = some (.int .i64 F.dg) := f14.cell_of (by go_simp)
          have c14_0_1 : w14.cell? ⟨w1.heap.size, 1, none⟩ = some (.int .i64 F.tn) := f14.cell_of (by go_simp)
          have c14_0_2 : w14.cell? ⟨w1.heap.size, 2, none⟩ = some (.string F.nm) := f14.cell_of (by go_simp)
          have c14_0_3 : w14.cell? ⟨w1.heap.size, 3, none⟩ = some (.slice oF F.pw.length kF) := f14.cell_of (by go_simp)
          have y14_0 : w1.heap.size < w14.heap.size := World.block_lt_of_cell? w14 _ c14_0_0
          have c14_1_0 : w14.cell? ⟨w1.heap.size + 1, 0, none⟩ = some (.int .i64 G.dg) := f14.cell_of (by go_simp)
          have c14_1_1 : w14.cell? ⟨w1.heap.size + 1, 1, none⟩ = some (.int .i64 G.tn) := f14.cell_of (by go_simp)
          have c14_1_2 : w14.cell? ⟨w1.heap.size + 1, 2, none⟩ = some (.string G.nm) := f14.cell_of (by go_simp)
          have c14_1_3 : w14.cell? ⟨w1.heap.size + 1, 3, none⟩ = some (.slice oG G.pw.length kG) := f14.cell_of (by go_simp)
          have y14_1 : w1.heap.size + 1 < w14.heap.size := World.block_lt_of_cell? w14 _ c14_1_0
          have c14_2_0 : w14.cell? ⟨w2.heap.size, 0, none⟩ = some (.int .i64 ((Z.MultiplyFormulas F G).1).dg) := f14.cell_of (by go_simp)
          have c14_2_1 : w14.cell? ⟨w2.heap.size, 1, none⟩ = some (.int .i64 ((Z.MultiplyFormulas F G).1).tn) := f14.cell_of (by go_simp)
          have c14_2_2 : w14.cell? ⟨w2.heap.size, 2, none⟩ = some (.string ((Z.MultiplyFormulas F G).1).nm) := f14.cell_of (by go_simp)
          have c14_2_3 : w14.cell? ⟨w2.heap.size, 3, none⟩ = some (.slice oP ((Z.MultiplyFormulas F G).1).pw.length kP) := f14.cell_of (by go_simp)
          have y14_2 : w2.heap.size < w14.heap.size := World.block_lt_of_cell? w14 _ c14_2_0
          have IF_14 := K.ints.ext (show K.ints _ 0 w1.heap.size (.slice oF F.pw.length kF) F.pw from by with_reducible repeat' (first | exact IF_13 | refine K.ints.alloc ?_ _ | refine K.ints.drew ?_ | refine K.ints.set ?_ _ ?_ _ | (dsimp only; omega) | omega | (simp; done) | (simp; omega))) f14
          have IG_14 := K.ints.ext (show K.ints _ 0 w1.heap.size (.slice oG G.pw.length kG) G.pw from by with_reducible repeat' (first | exact IG_13 | refine K.ints.alloc ?_ _ | refine K.ints.drew ?_ | refine K.ints.set ?_ _ ?_ _ | (dsimp only; omega) | omega | (simp; done) | (simp; omega))) f14
          have IP_14 := K.ints.ext (show K.ints _ 0 w2.heap.size (.slice oP ((Z.MultiplyFormulas F G).1).pw.length kP) ((Z.MultiplyFormulas F G).1).pw from by with_reducible repeat' (first | exact IP_13 | refine K.ints.alloc ?_ _ | refine K.ints.drew ?_ | refine K.ints.set ?_ _ ?_ _ | (dsimp only; omega) | omega | (simp; done) | (simp; omega))) f14
          clear c13_0_0 c13_0_1 c13_0_2 c13_0_3 y13_0 c13_1_0 c13_1_1 c13_1_2 c13_1_3 y13_1 c13_2_0 c13_2_1 c13_2_2 c13_2_3 y13_2 IF_13 IG_13 IP_13 F13 f14 G13
          go_wp2_with fail
          refine K.call (by with_reducible rfl) (by with_reducible rfl) (impl_ExponentOf (Z.MultiplyFormulas F G).1 cb _ t1 t2 (show K.ints _ 0 w2.heap.size (.slice oP ((Z.MultiplyFormulas F G).1).pw.length kP) ((Z.MultiplyFormulas F G).1).pw from by with_reducible repeat' (first | exact IP_14 | refine K.ints.alloc ?_ _ | refine K.ints.drew ?_ | refine K.ints.set ?_ _ ?_ _ | (dsimp only; omega) | omega | (simp; done) | (simp; omega))) hcb) ?_
          rintro e w15 ⟨rfl, f15⟩
          have F15 : K.Ext w w15 := K.Ext.trans (by repeat' (first | with_reducible exact F14 | with_reducible refine K.Ext.setCell ?_ ?_ _ | with_reducible refine K.Ext.alloc ?_ _ | with_reducible refine K.Ext.drew ?_ | (dsimp only; omega) | omega | (simp; omega))) f15
          have G15 : K.Ext _ w15 := K.Ext.trans (by repeat' (first | with_reducible exact G14 | with_reducible refine K.Ext.setCell ?_ ?_ _ | with_reducible refine K.Ext.alloc ?_ _ | with_reducible refine K.Ext.drew ?_ | (dsimp only; omega) | omega | (simp; omega))) f15
          have c15_0_0 : w15.cell? ⟨w1.heap.size, 0, none⟩ = some (.int .i64 F.dg) := f15.cell_of (by go_simp)
          have c15_0_1 : w15.cell? ⟨w1.heap.size, 1, none⟩ = some (.int .i64 F.tn) := f15.cell_of (by go_simp)
          have c15_0_2 : w15.cell? ⟨w1.heap.size, 2, none⟩ = some (.string F.nm) := f15.cell_of (by go_simp)
          have c15_0_3 : w15.cell? ⟨w1.heap.size, 3, none⟩ = some (.slice oF F.pw.length kF) := f15.cell_of (by go_simp)
          have y15_0 : w1.heap.size < w15.heap.size := World.block_lt_of_cell? w15 _ c15_0_0
          have c15_1_0 : w15.cell? ⟨w1.heap.size + 1, 0, none⟩ = some (.int .i64 G.dg) := f15.cell_of (by go_simp)
          have c15_1_1 : w15.cell? ⟨w1.heap.size + 1, 1, none⟩ = some (.int .i64 G.tn) := f15.cell_of (by go_simp)
          have c15_1_2 : w15.cell? ⟨w1.heap.size + 1, 2, none⟩ = some (.string G.nm) := f15.cell_of (by go_simp)
          have c15_1_3 : w15.cell? ⟨w1.heap.size + 1, 3, none⟩ = some (.slice oG G.pw.length kG) := f15.cell_of (by go_simp)
          have y15_1 : w1.heap.size + 1 < w15.heap.size := World.block_lt_of_cell? w15 _ c15_1_0
          have c15_2_0 : w15.cell? ⟨w2.heap.size, 0, none⟩ = some (.int .i64 ((Z.MultiplyFormulas F G).1).dg) := f15.cell_of (by go_simp)
          have c15_2_1 : w15.cell? ⟨w2.heap.size, 1, none⟩ = some (.int .i64 ((Z.MultiplyFormulas F G).1).tn) := f15.cell_of (by go_simp)
          have c15_2_2 : w15.cell? ⟨w2.heap.size, 2, none⟩ = some (.string ((Z.MultiplyFormulas F G).1).nm) := f15.cell_of (by go_simp)
          have c15_2_3 : w15.cell? ⟨w2.heap.size, 3, none⟩ = some (.slice oP ((Z.MultiplyFormulas F G).1).pw.length kP) := f15.cell_of (by go_simp)
          have y15_2 : w2.heap.size < w15.heap.size := World.block_lt_of_cell? w15 _ c15_2_0
          have IF_15 := K.ints.ext (show K.ints _ 0 w1.heap.size (.slice oF F.pw.length kF) F.pw from by with_reducible repeat' (first | exact IF_14 | refine K.ints.alloc ?_ _ | refine K.ints.drew ?_ | refine K.ints.set ?_ _ ?_ _ | (dsimp only; omega) | omega | (simp; done) | (simp; omega))) f15
          have IG_15 := K.ints.ext (show K.ints _ 0 w1.heap.size (.slice oG G.pw.length kG) G.pw from by with_reducible repeat' (first | exact IG_14 | refine K.ints.alloc ?_ _ | refine K.ints.drew ?_ | refine K.ints.set ?_ _ ?_ _ | (dsimp only; omega) | omega | (simp; done) | (simp; omega))) f15
          have IP_15 := K.ints.ext (show K.ints _ 0 w2.heap.size (.slice oP ((Z.MultiplyFormulas F G).1).pw.length kP) ((Z.MultiplyFormulas F G).1).pw from by with_reducible repeat' (first | exact IP_14 | refine K.ints.alloc ?_ _ | refine K.ints.drew ?_ | refine K.ints.set ?_ _ ?_ _ | (dsimp only; omega) | omega | (simp; done) | (simp; omega))) f15
          clear c14_0_0 c14_0_1 c14_0_2 c14_0_3 y14_0 c14_1_0 c14_1_1 c14_1_2 c14_1_3 y14_1 c14_2_0 c14_2_1 c14_2_2 c14_2_3 y14_2 IF_14 IG_14 IP_14 F14 f15 G14
          go_wp2_with fail
          go_roundw
          case rel => exact ⟨cb + 1, by omega, by go_num, Z.hide (by repeat' (first | with_reducible exact G15 | with_reducible refine K.Ext.setCell ?_ ?_ _ | with_reducible refine K.Ext.alloc ?_ _ | with_reducible refine K.Ext.drew ?_ | (dsimp only; omega) | omega | (simp; omega)))⟩
          case measure => simp only [intOf]; omega
        · obtain rfl : cb = 105 := by omega
          have hok := (Z.product_law hb).2.2.1
          go_wp2_with fail
          refine K.call (by with_reducible rfl) (by with_reducible rfl) (impl_IsFormula (Z.MultiplyFormulas F G).1 _ t1 t2 (show K.ints _ 0 w2.heap.size (.slice oP ((Z.MultiplyFormulas F G).1).pw.length kP) ((Z.MultiplyFormulas F G).1).pw from by with_reducible repeat' (first | exact Rb_P | refine K.ints.alloc ?_ _ | refine K.ints.drew ?_ | refine K.ints.set ?_ _ ?_ _ | (dsimp only; omega) | omega | (simp; done) | (simp; omega)))) ?_
          rintro e w13 ⟨rfl, f13⟩
          have F13 : K.Ext w w13 := K.Ext.trans (by repeat' (first | with_reducible exact XRb | with_reducible refine K.Ext.setCell ?_ ?_ _ | with_reducible refine K.Ext.alloc ?_ _ | with_reducible refine K.Ext.drew ?_ | (dsimp only; omega) | omega | (simp; omega))) f13
          have c13_0_0 : w13.cell? ⟨w1.heap.size, 0, none⟩ = some (.int .i64 F.dg) := f13.cell_of (by go_simp)
          have c13_0_1 : w13.cell? ⟨w1.heap.size, 1, none⟩ = some (.int .i64 F.tn) := f13.cell_of (by go_simp)
          have c13_0_2 : w13.cell? ⟨w1.heap.size, 2, none⟩ = some (.string F.nm) := f13.cell_of (by go_simp)
          have c13_0_3 : w13.cell? ⟨w1.heap.size, 3, none⟩ = some (.slice oF F.pw.length kF) := f13.cell_of (by go_simp)
          have y13_0 : w1.heap.size < w13.heap.size := World.block_lt_of_cell? w13 _ c13_0_0
          have c13_1_0 : w13.cell? ⟨w1.heap.size + 1, 0, none⟩ = some (.int .i64 G.dg) := f13.cell_of (by go_simp)
          have c13_1_1 : w13.cell? ⟨w1.heap.size + 1, 1, none⟩ = some (.int .i64 G.tn) := f13.cell_of (by go_simp)
          have c13_1_2 : w13.cell? ⟨w1.heap.size + 1, 2, none⟩ = some (.string G.nm) := f13.cell_of (by go_simp)
          have c13_1_3 : w13.cell? ⟨w1.heap.size + 1, 3, none⟩ = some (.slice oG G.pw.length kG) := f13.cell_of (by go_simp)
          have y13_1 : w1.heap.size + 1 < w13.heap.size := World.block_lt_of_cell? w13 _ c13_1_0
          have c13_2_0 : w13.cell? ⟨w2.heap.size, 0, none⟩ = some (.int .i64 ((Z.MultiplyFormulas F G).1).dg) := f13.cell_of (by go_simp)
          have c13_2_1 : w13.cell? ⟨w2.heap.size, 1, none⟩ = some (.int .i64 ((Z.MultiplyFormulas F G).1).tn) := f13.cell_of (by go_simp)
          have c13_2_2 : w13.cell? ⟨w2.heap.size, 2, none⟩ = some (.string ((Z.MultiplyFormulas F G).1).nm) := f13.cell_of (by go_simp)
          have c13_2_3 : w13.cell? ⟨w2.heap.size, 3, none⟩ = some (.slice oP ((Z.MultiplyFormulas F G).1).pw.length kP) := f13.cell_of (by go_simp)
          have y13_2 : w2.heap.size < w13.heap.size := World.block_lt_of_cell? w13 _ c13_2_0
          have IF_13 := K.ints.ext (show K.ints _ 0 w1.heap.size (.slice oF F.pw.length kF) F.pw from by with_reducible repeat' (first | exact Rb_F | refine K.ints.alloc ?_ _ | refine K.ints.drew ?_ | refine K.ints.set ?_ _ ?_ _ | (dsimp only; omega) | omega | (simp; done) | (simp; omega))) f13
          have IG_13 := K.ints.ext (show K.ints _ 0 w1.heap.size (.slice oG G.pw.length kG) G.pw from by with_reducible repeat' (first | exact Rb_G | refine K.ints.alloc ?_ _ | refine K.ints.drew ?_ | refine K.ints.set ?_ _ ?_ _ | (dsimp only; omega) | omega | (simp; done) | (simp; omega))) f13
          have IP_13 := K.ints.ext (show K.ints _ 0 w2.heap.size (.slice oP ((Z.MultiplyFormulas F G).1).pw.length kP) ((Z.MultiplyFormulas F G).1).pw from by with_reducible repeat' (first | exact Rb_P | refine K.ints.alloc ?_ _ | refine K.ints.drew ?_ | refine K.ints.set ?_ _ ?_ _ | (dsimp only; omega) | omega | (simp; done) | (simp; omega))) f13
          clear cwrb_0_0 cwrb_0_1 cwrb_0_2 cwrb_0_3 ywrb_0 cwrb_1_0 cwrb_1_1 cwrb_1_2 cwrb_1_3 ywrb_1 cwrb_2_0 cwrb_2_1 cwrb_2_2 cwrb_2_3 ywrb_2 Rb_F Rb_G Rb_P XRb f13
          go_wp2_with fail
          go_ret
          exact ⟨rfl, (by repeat' (first | with_reducible exact F13 | with_reducible refine K.Ext.setCell ?_ ?_ _ | with_reducible refine K.Ext.alloc ?_ _ | with_reducible refine K.Ext.drew ?_ | (dsimp only; omega) | omega | (simp; omega)))⟩
    have hb' : ((Z.MultiplyFormulas F G).2 == 0) = false := by simpa using hb
    go_wp2_with fail
    go_loopw [26] (fun i wr => ∃ c : Int, (97 ≤ c ∧ c ≤ 105) ∧ i = .int .u8 c ∧ Hid (K.Ext wra wr)) (fun i _ => (105 - intOf i).toNat)
    case atStart => exact ⟨97, by omega, rfl, Z.hide (by repeat' (first | exact K.Ext.refl _ | refine K.Ext.alloc ?_ _))⟩
    case round =>
      rename World => wrb
      obtain ⟨cb, hcb, rfl, HXb⟩ := hrel
      have XRb : K.Ext w wrb := K.Ext.trans XRa HXb.out
      have cwrb_0_0 := HXb.out.cell_of cwra_0_0
      have cwrb_0_1 := HXb.out.cell_of cwra_0_1
      have cwrb_0_2 := HXb.out.cell_of cwra_0_2
      have cwrb_0_3 := HXb.out.cell_of cwra_0_3
      have ywrb_0 : w1.heap.size < wrb.heap.size := World.block_lt_of_cell? wrb _ cwrb_0_0
      have cwrb_1_0 := HXb.out.cell_of cwra_1_0
      have cwrb_1_1 := HXb.out.cell_of cwra_1_1
      have cwrb_1_2 := HXb.out.cell_of cwra_1_2
      have cwrb_1_3 := HXb.out.cell_of cwra_1_3
      have ywrb_1 : w1.heap.size + 1 < wrb.heap.size := World.block_lt_of_cell? wrb _ cwrb_1_0
      have cwrb_2_0 := HXb.out.cell_of cwra_2_0
      have cwrb_2_1 := HXb.out.cell_of cwra_2_1
      have cwrb_2_2 := HXb.out.cell_of cwra_2_2
      have cwrb_2_3 := HXb.out.cell_of cwra_2_3
      have ywrb_2 : w2.heap.size < wrb.heap.size := World.block_lt_of_cell? wrb _ cwrb_2_0
      have Rb_F := K.ints.ext (show K.ints _ 0 w1.heap.size (.slice oF F.pw.length kF) F.pw from by with_reducible repeat' (first | exact Ra_F | refine K.ints.alloc ?_ _ | refine K.ints.drew ?_ | refine K.ints.set ?_ _ ?_ _ | (dsimp only; omega) | omega | (simp; done) | (simp; omega))) HXb.out
      have Rb_G := K.ints.ext (show K.ints _ 0 w1.heap.size (.slice oG G.pw.length kG) G.pw from by with_reducible repeat' (first | exact Ra_G | refine K.ints.alloc ?_ _ | refine K.ints.drew ?_ | refine K.ints.set ?_ _ ?_ _ | (dsimp only; omega) | omega | (simp; done) | (simp; omega))) HXb.out
      have Rb_P := K.ints.ext (show K.ints _ 0 w2.heap.size (.slice oP ((Z.MultiplyFormulas F G).1).pw.length kP) ((Z.MultiplyFormulas F G).1).pw from by with_reducible repeat' (first | exact Ra_P | refine K.ints.alloc ?_ _ | refine K.ints.drew ?_ | refine K.ints.set ?_ _ ?_ _ | (dsimp only; omega) | omega | (simp; done) | (simp; omega))) HXb.out
      clear cwra_0_0 cwra_0_1 cwra_0_2 cwra_0_3 ywra_0 cwra_1_0 cwra_1_1 cwra_1_2 cwra_1_3 ywra_1 cwra_2_0 cwra_2_1 cwra_2_2 cwra_2_3 ywra_2 cwra_5_0 cwra_5_1 cwra_5_2 cwra_5_3 ywra_5 cwra_6_0 cwra_6_1 cwra_6_2 cwra_6_3 ywra_6 Ra_F Ra_G Ra_P XRa
      go_wp2_with fail
      go_ret
      exact ⟨rfl, (by repeat' (first | with_reducible exact XRb | with_reducible refine K.Ext.setCell ?_ ?_ _ | with_reducible refine K.Ext.alloc ?_ _ | with_reducible refine K.Ext.drew ?_ | (dsimp only; omega) | omega | (simp; omega)))⟩
end Go.Proofs.Ythmnlbgbacbocaa
