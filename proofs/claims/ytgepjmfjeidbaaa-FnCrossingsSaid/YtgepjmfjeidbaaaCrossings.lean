/-
  THE LAW FnCrossings: its walk.
-/
import Derived.Test.YtgepjmfjeidbaaaDrN
import Derived.Test.YtgepjmfjeidbaaaBig
import Derived.Test.YtgepjmfjeidbaaaZArea
import Derived.Test.YtgepjmfjeidbaaaMid
import Derived.Test.YtgepjmfjeidbaaaCross2
import Derived.Lib.MinMax
set_option linter.unusedVariables false
namespace Go.Proofs.Ytgepjmfjeidbaaa
open Go.RowKit
theorem impl_Near (a b : Z.Pt) (ps : List Z.Pt) {r : Int × Int} (hr : Z.NearestInLine a b ps = r) {lo hi : Nat} {v : Value} (w : World) (hm : ps.length ≤ 1048576) (h : K.recs false K.PtR w lo hi v ps) :
    Calls Try.prog 10 #[.agg #[.int .i64 a.1, .int .i64 a.2], .agg #[.int .i64 b.1, .int .i64 b.2], v] w fun e w' => e = .returned (.tuple #[.int .i64 r.1, .int .i64 r.2]) ∧ K.Ext w w' := by subst hr; exact impl_NearestInLine a b ps w hm h
theorem spec_Near (a b : Z.Pt) (ps : List Z.Pt) {r : Int × Int} (hr : Z.NearestInLine a b ps = r) {lo hi : Nat} {v : Value} (w : World) (hm : ps.length ≤ 1048576) (h : K.recs false K.PtR w lo hi v ps) :
    Calls Try.prog 7 #[.agg #[.int .i64 a.1, .int .i64 a.2], .agg #[.int .i64 b.1, .int .i64 b.2], v] w fun e w' => e = .returned (.tuple #[.int .i64 r.1, .int .i64 r.2]) ∧ K.Ext w w' := by subst hr; exact spec_NearestInLine a b ps w hm h
set_option maxRecDepth 100000 in
set_option maxHeartbeats 12800000 in
theorem law_FnCrossings {n : Nat} {v : Value} (w : World) (h : K.byts w w.heap.size v n) :
    Calls Try.prog 5 #[v] w fun e w' => e = .returned (.bool true) ∧ K.Ext w w' := by
  have F0 : K.Ext w w := K.Ext.refl _
  rcases Nat.lt_or_ge 4096 n with hn | hn
  · go_enter Try.func5, Try.ntmps5
    go_wp2_with fail
    refine K.call (by with_reducible rfl) (by with_reducible rfl) (big_yes _ hn h) ?_
    rintro e w1 ⟨rfl, rfl⟩
    go_wp2_with fail
    go_ret
    exact ⟨rfl, F0⟩
  go_enter Try.func5, Try.ntmps5
  go_wp2_with fail
  refine K.call (by with_reducible rfl) (by with_reducible rfl) (big_no _ hn h) ?_
  rintro e w1 ⟨rfl, rfl⟩
  go_wp2_with fail
  refine K.call (by with_reducible rfl) (by with_reducible rfl) (DrawCrossingOf_any _ hn (K.Ext.size (by repeat' (first | with_reducible exact F0 | with_reducible refine K.Ext.setCell ?_ ?_ _ | with_reducible refine K.Ext.alloc ?_ _ | with_reducible refine K.Ext.drew ?_ | (dsimp only; omega) | omega | (simp; omega)))) (h.ext (by repeat' (first | with_reducible exact F0 | with_reducible refine K.Ext.setCell ?_ ?_ _ | with_reducible refine K.Ext.alloc ?_ _ | with_reducible refine K.Ext.drew ?_ | (dsimp only; omega) | omega | (simp; omega))))) ?_
  rintro e w1 ⟨⟨a, b, c, d, rfl⟩, f1⟩
  have F1 : K.Ext w w1 := K.Ext.trans (by repeat' (first | with_reducible exact F0 | with_reducible refine K.Ext.setCell ?_ ?_ _ | with_reducible refine K.Ext.alloc ?_ _ | with_reducible refine K.Ext.drew ?_ | (dsimp only; omega) | omega | (simp; omega))) f1
  clear f1
  go_wp2_with fail
  refine K.call (by with_reducible rfl) (by with_reducible rfl) (impl_CrossingOf a b c d _) ?_
  rintro e w2 ⟨rfl, f2⟩
  have F2 : K.Ext w w2 := K.Ext.trans (by repeat' (first | with_reducible exact F1 | with_reducible refine K.Ext.setCell ?_ ?_ _ | with_reducible refine K.Ext.alloc ?_ _ | with_reducible refine K.Ext.drew ?_ | (dsimp only; omega) | omega | (simp; omega))) f2
  have c2_0_0 : w2.cell? ⟨w1.heap.size, 0, none⟩ = some (.int .i64 a.1) := f2.cell_of (by go_simp)
  have c2_0_1 : w2.cell? ⟨w1.heap.size, 1, none⟩ = some (.int .i64 a.2) := f2.cell_of (by go_simp)
  have y2_0 : w1.heap.size < w2.heap.size := World.block_lt_of_cell? w2 _ c2_0_0
  have c2_1_0 : w2.cell? ⟨w1.heap.size + 1, 0, none⟩ = some (.int .i64 b.1) := f2.cell_of (by go_simp)
  have c2_1_1 : w2.cell? ⟨w1.heap.size + 1, 1, none⟩ = some (.int .i64 b.2) := f2.cell_of (by go_simp)
  have y2_1 : w1.heap.size + 1 < w2.heap.size := World.block_lt_of_cell? w2 _ c2_1_0
  have c2_2_0 : w2.cell? ⟨w1.heap.size + 1 + 1, 0, none⟩ = some (.int .i64 c.1) := f2.cell_of (by go_simp)
  have c2_2_1 : w2.cell? ⟨w1.heap.size + 1 + 1, 1, none⟩ = some (.int .i64 c.2) := f2.cell_of (by go_simp)
  have y2_2 : w1.heap.size + 1 + 1 < w2.heap.size := World.block_lt_of_cell? w2 _ c2_2_0
  have c2_3_0 : w2.cell? ⟨w1.heap.size + 1 + 1 + 1, 0, none⟩ = some (.int .i64 d.1) := f2.cell_of (by go_simp)
  have c2_3_1 : w2.cell? ⟨w1.heap.size + 1 + 1 + 1, 1, none⟩ = some (.int .i64 d.2) := f2.cell_of (by go_simp)
  have y2_3 : w1.heap.size + 1 + 1 + 1 < w2.heap.size := World.block_lt_of_cell? w2 _ c2_3_0
  clear F1 f2
  go_wp2_with fail
  refine K.call (by with_reducible rfl) (by with_reducible rfl) (spec_CrossingOf a b c d _) ?_
  rintro e w3 ⟨rfl, f3⟩
  have u3_0_1 : w1.heap.size < w2.heap.size + 1 := (by omega)
  have u3_1_1 : w1.heap.size + 1 < w2.heap.size + 1 := (by omega)
  have u3_2_1 : w1.heap.size + 1 + 1 < w2.heap.size + 1 := (by omega)
  have u3_3_1 : w1.heap.size + 1 + 1 + 1 < w2.heap.size + 1 := (by omega)
  have F3 : K.Ext w w3 := K.Ext.trans (by repeat' (first | with_reducible exact F2 | with_reducible refine K.Ext.setCell ?_ ?_ _ | with_reducible refine K.Ext.alloc ?_ _ | with_reducible refine K.Ext.drew ?_ | (dsimp only; omega) | omega | (simp; omega))) f3
  have c3_0_0 : w3.cell? ⟨w1.heap.size, 0, none⟩ = some (.int .i64 a.1) := f3.cell_of (by go_simp)
  have c3_0_1 : w3.cell? ⟨w1.heap.size, 1, none⟩ = some (.int .i64 a.2) := f3.cell_of (by go_simp)
  have y3_0 : w1.heap.size < w3.heap.size := World.block_lt_of_cell? w3 _ c3_0_0
  have c3_1_0 : w3.cell? ⟨w1.heap.size + 1, 0, none⟩ = some (.int .i64 b.1) := f3.cell_of (by go_simp)
  have c3_1_1 : w3.cell? ⟨w1.heap.size + 1, 1, none⟩ = some (.int .i64 b.2) := f3.cell_of (by go_simp)
  have y3_1 : w1.heap.size + 1 < w3.heap.size := World.block_lt_of_cell? w3 _ c3_1_0
  have c3_2_0 : w3.cell? ⟨w1.heap.size + 1 + 1, 0, none⟩ = some (.int .i64 c.1) := f3.cell_of (by go_simp)
  have c3_2_1 : w3.cell? ⟨w1.heap.size + 1 + 1, 1, none⟩ = some (.int .i64 c.2) := f3.cell_of (by go_simp)
  have y3_2 : w1.heap.size + 1 + 1 < w3.heap.size := World.block_lt_of_cell? w3 _ c3_2_0
  have c3_3_0 : w3.cell? ⟨w1.heap.size + 1 + 1 + 1, 0, none⟩ = some (.int .i64 d.1) := f3.cell_of (by go_simp)
  have c3_3_1 : w3.cell? ⟨w1.heap.size + 1 + 1 + 1, 1, none⟩ = some (.int .i64 d.2) := f3.cell_of (by go_simp)
  have y3_3 : w1.heap.size + 1 + 1 + 1 < w3.heap.size := World.block_lt_of_cell? w3 _ c3_3_0
  have c3_4_0 : w3.cell? ⟨w2.heap.size, 0, none⟩ = some (.int .i64 (Z.CrossingOf a b c d).1.1) := f3.cell_of (by go_simp)
  have c3_4_1 : w3.cell? ⟨w2.heap.size, 1, none⟩ = some (.int .i64 (Z.CrossingOf a b c d).1.2) := f3.cell_of (by go_simp)
  have y3_4 : w2.heap.size < w3.heap.size := World.block_lt_of_cell? w3 _ c3_4_0
  clear c2_0_0 c2_0_1 y2_0 c2_1_0 c2_1_1 y2_1 c2_2_0 c2_2_1 y2_2 c2_3_0 c2_3_1 y2_3 F2 f3 u3_0_1 u3_1_1 u3_2_1 u3_3_1
  go_wp2_with fail
  refine K.call (by with_reducible rfl) (by with_reducible rfl) (DrawNearestInLine_any _ hn (K.Ext.size (by repeat' (first | with_reducible exact F3 | with_reducible refine K.Ext.setCell ?_ ?_ _ | with_reducible refine K.Ext.alloc ?_ _ | with_reducible refine K.Ext.drew ?_ | (dsimp only; omega) | omega | (simp; omega)))) (h.ext (by repeat' (first | with_reducible exact F3 | with_reducible refine K.Ext.setCell ?_ ?_ _ | with_reducible refine K.Ext.alloc ?_ _ | with_reducible refine K.Ext.drew ?_ | (dsimp only; omega) | omega | (simp; omega))))) ?_
  rintro e w4 ⟨⟨x, y, uu, ps, rfl, hlen, hrec⟩, f4⟩
  have u4_0_1 : w1.heap.size < w3.heap.size + 1 := (by omega)
  have u4_1_1 : w1.heap.size + 1 < w3.heap.size + 1 := (by omega)
  have u4_2_1 : w1.heap.size + 1 + 1 < w3.heap.size + 1 := (by omega)
  have u4_3_1 : w1.heap.size + 1 + 1 + 1 < w3.heap.size + 1 := (by omega)
  have u4_4_1 : w2.heap.size < w3.heap.size + 1 := (by omega)
  have F4 : K.Ext w w4 := K.Ext.trans (by repeat' (first | with_reducible exact F3 | with_reducible refine K.Ext.setCell ?_ ?_ _ | with_reducible refine K.Ext.alloc ?_ _ | with_reducible refine K.Ext.drew ?_ | (dsimp only; omega) | omega | (simp; omega))) f4
  have c4_0_0 : w4.cell? ⟨w1.heap.size, 0, none⟩ = some (.int .i64 a.1) := f4.cell_of (by go_simp)
  have c4_0_1 : w4.cell? ⟨w1.heap.size, 1, none⟩ = some (.int .i64 a.2) := f4.cell_of (by go_simp)
  have y4_0 : w1.heap.size < w4.heap.size := World.block_lt_of_cell? w4 _ c4_0_0
  have c4_1_0 : w4.cell? ⟨w1.heap.size + 1, 0, none⟩ = some (.int .i64 b.1) := f4.cell_of (by go_simp)
  have c4_1_1 : w4.cell? ⟨w1.heap.size + 1, 1, none⟩ = some (.int .i64 b.2) := f4.cell_of (by go_simp)
  have y4_1 : w1.heap.size + 1 < w4.heap.size := World.block_lt_of_cell? w4 _ c4_1_0
  have c4_2_0 : w4.cell? ⟨w1.heap.size + 1 + 1, 0, none⟩ = some (.int .i64 c.1) := f4.cell_of (by go_simp)
  have c4_2_1 : w4.cell? ⟨w1.heap.size + 1 + 1, 1, none⟩ = some (.int .i64 c.2) := f4.cell_of (by go_simp)
  have y4_2 : w1.heap.size + 1 + 1 < w4.heap.size := World.block_lt_of_cell? w4 _ c4_2_0
  have c4_3_0 : w4.cell? ⟨w1.heap.size + 1 + 1 + 1, 0, none⟩ = some (.int .i64 d.1) := f4.cell_of (by go_simp)
  have c4_3_1 : w4.cell? ⟨w1.heap.size + 1 + 1 + 1, 1, none⟩ = some (.int .i64 d.2) := f4.cell_of (by go_simp)
  have y4_3 : w1.heap.size + 1 + 1 + 1 < w4.heap.size := World.block_lt_of_cell? w4 _ c4_3_0
  have c4_4_0 : w4.cell? ⟨w2.heap.size, 0, none⟩ = some (.int .i64 (Z.CrossingOf a b c d).1.1) := f4.cell_of (by go_simp)
  have c4_4_1 : w4.cell? ⟨w2.heap.size, 1, none⟩ = some (.int .i64 (Z.CrossingOf a b c d).1.2) := f4.cell_of (by go_simp)
  have y4_4 : w2.heap.size < w4.heap.size := World.block_lt_of_cell? w4 _ c4_4_0
  have c4_5_0 : w4.cell? ⟨w3.heap.size, 0, none⟩ = some (.int .i64 (Z.CrossingOf a b c d).1.1) := f4.cell_of (by go_simp)
  have c4_5_1 : w4.cell? ⟨w3.heap.size, 1, none⟩ = some (.int .i64 (Z.CrossingOf a b c d).1.2) := f4.cell_of (by go_simp)
  have y4_5 : w3.heap.size < w4.heap.size := World.block_lt_of_cell? w4 _ c4_5_0
  clear c3_0_0 c3_0_1 y3_0 c3_1_0 c3_1_1 y3_1 c3_2_0 c3_2_1 y3_2 c3_3_0 c3_3_1 y3_3 c3_4_0 c3_4_1 y3_4 F3 f4 u4_0_1 u4_1_1 u4_2_1 u4_3_1 u4_4_1
  obtain ⟨lo_, cap_, rfl, _⟩ := id hrec
  have R_4 := hrec.mono (Nat.zero_le _) (Nat.le_refl _)
  clear hrec
  by_cases h1 : (Z.NearestInLine x y ps).2 = 0
  · as_aux_lemma =>
      obtain ⟨j, hj, hN, hle, hx, hD⟩ := Z.near_law x y ps h1
      clear h1
      go_wp2_with fail
      refine K.call (by with_reducible rfl) (by with_reducible rfl) (impl_Near x y ps hN _ (by omega) (show K.recs false K.PtR _ 0 w4.heap.size (.slice lo_ ps.length cap_) ps from by with_reducible repeat' (first | exact R_4 | refine K.recs.alloc ?_ _ | refine K.recs.drew ?_ | refine K.recs.set (by decide) ?_ _ ?_ _ | (dsimp only; omega) | omega | (simp; done) | (simp; omega)))) ?_
      rintro e w5 ⟨rfl, f5⟩
      have u5_0_1 : w1.heap.size < w4.heap.size + 1 := (by omega)
      have u5_0_2 : w1.heap.size < w4.heap.size + 1 + 1 := (by omega)
      have u5_1_1 : w1.heap.size + 1 < w4.heap.size + 1 := (by omega)
      have u5_1_2 : w1.heap.size + 1 < w4.heap.size + 1 + 1 := (by omega)
      have u5_2_1 : w1.heap.size + 1 + 1 < w4.heap.size + 1 := (by omega)
      have u5_2_2 : w1.heap.size + 1 + 1 < w4.heap.size + 1 + 1 := (by omega)
      have u5_3_1 : w1.heap.size + 1 + 1 + 1 < w4.heap.size + 1 := (by omega)
      have u5_3_2 : w1.heap.size + 1 + 1 + 1 < w4.heap.size + 1 + 1 := (by omega)
      have u5_4_1 : w2.heap.size < w4.heap.size + 1 := (by omega)
      have u5_4_2 : w2.heap.size < w4.heap.size + 1 + 1 := (by omega)
      have u5_5_1 : w3.heap.size < w4.heap.size + 1 := (by omega)
      have u5_5_2 : w3.heap.size < w4.heap.size + 1 + 1 := (by omega)
      have F5 : K.Ext w w5 := K.Ext.trans (by repeat' (first | with_reducible exact F4 | with_reducible refine K.Ext.setCell ?_ ?_ _ | with_reducible refine K.Ext.alloc ?_ _ | with_reducible refine K.Ext.drew ?_ | (dsimp only; omega) | omega | (simp; omega))) f5
      have c5_0_0 : w5.cell? ⟨w1.heap.size, 0, none⟩ = some (.int .i64 a.1) := f5.cell_of (by go_simp)
      have c5_0_1 : w5.cell? ⟨w1.heap.size, 1, none⟩ = some (.int .i64 a.2) := f5.cell_of (by go_simp)
      have y5_0 : w1.heap.size < w5.heap.size := World.block_lt_of_cell? w5 _ c5_0_0
      have c5_1_0 : w5.cell? ⟨w1.heap.size + 1, 0, none⟩ = some (.int .i64 b.1) := f5.cell_of (by go_simp)
      have c5_1_1 : w5.cell? ⟨w1.heap.size + 1, 1, none⟩ = some (.int .i64 b.2) := f5.cell_of (by go_simp)
      have y5_1 : w1.heap.size + 1 < w5.heap.size := World.block_lt_of_cell? w5 _ c5_1_0
      have c5_2_0 : w5.cell? ⟨w1.heap.size + 1 + 1, 0, none⟩ = some (.int .i64 c.1) := f5.cell_of (by go_simp)
      have c5_2_1 : w5.cell? ⟨w1.heap.size + 1 + 1, 1, none⟩ = some (.int .i64 c.2) := f5.cell_of (by go_simp)
      have y5_2 : w1.heap.size + 1 + 1 < w5.heap.size := World.block_lt_of_cell? w5 _ c5_2_0
      have c5_3_0 : w5.cell? ⟨w1.heap.size + 1 + 1 + 1, 0, none⟩ = some (.int .i64 d.1) := f5.cell_of (by go_simp)
      have c5_3_1 : w5.cell? ⟨w1.heap.size + 1 + 1 + 1, 1, none⟩ = some (.int .i64 d.2) := f5.cell_of (by go_simp)
      have y5_3 : w1.heap.size + 1 + 1 + 1 < w5.heap.size := World.block_lt_of_cell? w5 _ c5_3_0
      have c5_4_0 : w5.cell? ⟨w2.heap.size, 0, none⟩ = some (.int .i64 (Z.CrossingOf a b c d).1.1) := f5.cell_of (by go_simp)
      have c5_4_1 : w5.cell? ⟨w2.heap.size, 1, none⟩ = some (.int .i64 (Z.CrossingOf a b c d).1.2) := f5.cell_of (by go_simp)
      have y5_4 : w2.heap.size < w5.heap.size := World.block_lt_of_cell? w5 _ c5_4_0
      have c5_5_0 : w5.cell? ⟨w3.heap.size, 0, none⟩ = some (.int .i64 (Z.CrossingOf a b c d).1.1) := f5.cell_of (by go_simp)
      have c5_5_1 : w5.cell? ⟨w3.heap.size, 1, none⟩ = some (.int .i64 (Z.CrossingOf a b c d).1.2) := f5.cell_of (by go_simp)
      have y5_5 : w3.heap.size < w5.heap.size := World.block_lt_of_cell? w5 _ c5_5_0
      have c5_6_0 : w5.cell? ⟨w4.heap.size, 0, none⟩ = some (.int .i64 x.1) := f5.cell_of (by go_simp)
      have c5_6_1 : w5.cell? ⟨w4.heap.size, 1, none⟩ = some (.int .i64 x.2) := f5.cell_of (by go_simp)
      have y5_6 : w4.heap.size < w5.heap.size := World.block_lt_of_cell? w5 _ c5_6_0
      have c5_7_0 : w5.cell? ⟨w4.heap.size + 1, 0, none⟩ = some (.int .i64 y.1) := f5.cell_of (by go_simp)
      have c5_7_1 : w5.cell? ⟨w4.heap.size + 1, 1, none⟩ = some (.int .i64 y.2) := f5.cell_of (by go_simp)
      have y5_7 : w4.heap.size + 1 < w5.heap.size := World.block_lt_of_cell? w5 _ c5_7_0
      have R_5 := K.recs.ext (show K.recs false K.PtR _ 0 w4.heap.size (.slice lo_ ps.length cap_) ps from by with_reducible repeat' (first | exact R_4 | refine K.recs.alloc ?_ _ | refine K.recs.drew ?_ | refine K.recs.set (by decide) ?_ _ ?_ _ | (dsimp only; omega) | omega | (simp; done) | (simp; omega))) f5
      clear c4_0_0 c4_0_1 y4_0 c4_1_0 c4_1_1 y4_1 c4_2_0 c4_2_1 y4_2 c4_3_0 c4_3_1 y4_3 c4_4_0 c4_4_1 y4_4 c4_5_0 c4_5_1 y4_5 R_4 F4 f5 u5_0_1 u5_0_2 u5_1_1 u5_1_2 u5_2_1 u5_2_2 u5_3_1 u5_3_2 u5_4_1 u5_4_2 u5_5_1 u5_5_2
      go_wp2_with fail
      refine K.call (by with_reducible rfl) (by with_reducible rfl) (spec_Near x y ps hN _ (by omega) (show K.recs false K.PtR _ 0 w4.heap.size (.slice lo_ ps.length cap_) ps from by with_reducible repeat' (first | exact R_5 | refine K.recs.alloc ?_ _ | refine K.recs.drew ?_ | refine K.recs.set (by decide) ?_ _ ?_ _ | (dsimp only; omega) | omega | (simp; done) | (simp; omega)))) ?_
      rintro e w6 ⟨rfl, f6⟩
      have F6 : K.Ext w w6 := K.Ext.trans (by repeat' (first | with_reducible exact F5 | with_reducible refine K.Ext.setCell ?_ ?_ _ | with_reducible refine K.Ext.alloc ?_ _ | with_reducible refine K.Ext.drew ?_ | (dsimp only; omega) | omega | (simp; omega))) f6
      have c6_0_0 : w6.cell? ⟨w1.heap.size, 0, none⟩ = some (.int .i64 a.1) := f6.cell_of (by go_simp)
      have c6_0_1 : w6.cell? ⟨w1.heap.size, 1, none⟩ = some (.int .i64 a.2) := f6.cell_of (by go_simp)
      have y6_0 : w1.heap.size < w6.heap.size := World.block_lt_of_cell? w6 _ c6_0_0
      have c6_1_0 : w6.cell? ⟨w1.heap.size + 1, 0, none⟩ = some (.int .i64 b.1) := f6.cell_of (by go_simp)
      have c6_1_1 : w6.cell? ⟨w1.heap.size + 1, 1, none⟩ = some (.int .i64 b.2) := f6.cell_of (by go_simp)
      have y6_1 : w1.heap.size + 1 < w6.heap.size := World.block_lt_of_cell? w6 _ c6_1_0
      have c6_2_0 : w6.cell? ⟨w1.heap.size + 1 + 1, 0, none⟩ = some (.int .i64 c.1) := f6.cell_of (by go_simp)
      have c6_2_1 : w6.cell? ⟨w1.heap.size + 1 + 1, 1, none⟩ = some (.int .i64 c.2) := f6.cell_of (by go_simp)
      have y6_2 : w1.heap.size + 1 + 1 < w6.heap.size := World.block_lt_of_cell? w6 _ c6_2_0
      have c6_3_0 : w6.cell? ⟨w1.heap.size + 1 + 1 + 1, 0, none⟩ = some (.int .i64 d.1) := f6.cell_of (by go_simp)
      have c6_3_1 : w6.cell? ⟨w1.heap.size + 1 + 1 + 1, 1, none⟩ = some (.int .i64 d.2) := f6.cell_of (by go_simp)
      have y6_3 : w1.heap.size + 1 + 1 + 1 < w6.heap.size := World.block_lt_of_cell? w6 _ c6_3_0
      have c6_4_0 : w6.cell? ⟨w2.heap.size, 0, none⟩ = some (.int .i64 (Z.CrossingOf a b c d).1.1) := f6.cell_of (by go_simp)
      have c6_4_1 : w6.cell? ⟨w2.heap.size, 1, none⟩ = some (.int .i64 (Z.CrossingOf a b c d).1.2) := f6.cell_of (by go_simp)
      have y6_4 : w2.heap.size < w6.heap.size := World.block_lt_of_cell? w6 _ c6_4_0
      have c6_5_0 : w6.cell? ⟨w3.heap.size, 0, none⟩ = some (.int .i64 (Z.CrossingOf a b c d).1.1) := f6.cell_of (by go_simp)
      have c6_5_1 : w6.cell? ⟨w3.heap.size, 1, none⟩ = some (.int .i64 (Z.CrossingOf a b c d).1.2) := f6.cell_of (by go_simp)
      have y6_5 : w3.heap.size < w6.heap.size := World.block_lt_of_cell? w6 _ c6_5_0
      have c6_6_0 : w6.cell? ⟨w4.heap.size, 0, none⟩ = some (.int .i64 x.1) := f6.cell_of (by go_simp)
      have c6_6_1 : w6.cell? ⟨w4.heap.size, 1, none⟩ = some (.int .i64 x.2) := f6.cell_of (by go_simp)
      have y6_6 : w4.heap.size < w6.heap.size := World.block_lt_of_cell? w6 _ c6_6_0
      have c6_7_0 : w6.cell? ⟨w4.heap.size + 1, 0, none⟩ = some (.int .i64 y.1) := f6.cell_of (by go_simp)
      have c6_7_1 : w6.cell? ⟨w4.heap.size + 1, 1, none⟩ = some (.int .i64 y.2) := f6.cell_of (by go_simp)
      have y6_7 : w4.heap.size + 1 < w6.heap.size := World.block_lt_of_cell? w6 _ c6_7_0
      have R_6 := K.recs.ext (show K.recs false K.PtR _ 0 w4.heap.size (.slice lo_ ps.length cap_) ps from by with_reducible repeat' (first | exact R_5 | refine K.recs.alloc ?_ _ | refine K.recs.drew ?_ | refine K.recs.set (by decide) ?_ _ ?_ _ | (dsimp only; omega) | omega | (simp; done) | (simp; omega))) f6
      clear c5_0_0 c5_0_1 y5_0 c5_1_0 c5_1_1 y5_1 c5_2_0 c5_2_1 y5_2 c5_3_0 c5_3_1 y5_3 c5_4_0 c5_4_1 y5_4 c5_5_0 c5_5_1 y5_5 c5_6_0 c5_6_1 y5_6 c5_7_0 c5_7_1 y5_7 R_5 F5 f6
      go_wp2_with fail
      refine K.call (by with_reducible rfl) (by with_reducible rfl) (DrawSquareBetween_any _ hn (K.Ext.size (by repeat' (first | with_reducible exact F6 | with_reducible refine K.Ext.setCell ?_ ?_ _ | with_reducible refine K.Ext.alloc ?_ _ | with_reducible refine K.Ext.drew ?_ | (dsimp only; omega) | omega | (simp; omega)))) (h.ext (by repeat' (first | with_reducible exact F6 | with_reducible refine K.Ext.setCell ?_ ?_ _ | with_reducible refine K.Ext.alloc ?_ _ | with_reducible refine K.Ext.drew ?_ | (dsimp only; omega) | omega | (simp; omega))))) ?_
      rintro e w7 ⟨⟨u, t, rfl⟩, f7⟩
      have F7 : K.Ext w w7 := K.Ext.trans (by repeat' (first | with_reducible exact F6 | with_reducible refine K.Ext.setCell ?_ ?_ _ | with_reducible refine K.Ext.alloc ?_ _ | with_reducible refine K.Ext.drew ?_ | (dsimp only; omega) | omega | (simp; omega))) f7
      have c7_0_0 : w7.cell? ⟨w1.heap.size, 0, none⟩ = some (.int .i64 a.1) := f7.cell_of (by go_simp)
      have c7_0_1 : w7.cell? ⟨w1.heap.size, 1, none⟩ = some (.int .i64 a.2) := f7.cell_of (by go_simp)
      have y7_0 : w1.heap.size < w7.heap.size := World.block_lt_of_cell? w7 _ c7_0_0
      have c7_1_0 : w7.cell? ⟨w1.heap.size + 1, 0, none⟩ = some (.int .i64 b.1) := f7.cell_of (by go_simp)
      have c7_1_1 : w7.cell? ⟨w1.heap.size + 1, 1, none⟩ = some (.int .i64 b.2) := f7.cell_of (by go_simp)
      have y7_1 : w1.heap.size + 1 < w7.heap.size := World.block_lt_of_cell? w7 _ c7_1_0
      have c7_2_0 : w7.cell? ⟨w1.heap.size + 1 + 1, 0, none⟩ = some (.int .i64 c.1) := f7.cell_of (by go_simp)
      have c7_2_1 : w7.cell? ⟨w1.heap.size + 1 + 1, 1, none⟩ = some (.int .i64 c.2) := f7.cell_of (by go_simp)
      have y7_2 : w1.heap.size + 1 + 1 < w7.heap.size := World.block_lt_of_cell? w7 _ c7_2_0
      have c7_3_0 : w7.cell? ⟨w1.heap.size + 1 + 1 + 1, 0, none⟩ = some (.int .i64 d.1) := f7.cell_of (by go_simp)
      have c7_3_1 : w7.cell? ⟨w1.heap.size + 1 + 1 + 1, 1, none⟩ = some (.int .i64 d.2) := f7.cell_of (by go_simp)
      have y7_3 : w1.heap.size + 1 + 1 + 1 < w7.heap.size := World.block_lt_of_cell? w7 _ c7_3_0
      have c7_4_0 : w7.cell? ⟨w2.heap.size, 0, none⟩ = some (.int .i64 (Z.CrossingOf a b c d).1.1) := f7.cell_of (by go_simp)
      have c7_4_1 : w7.cell? ⟨w2.heap.size, 1, none⟩ = some (.int .i64 (Z.CrossingOf a b c d).1.2) := f7.cell_of (by go_simp)
      have y7_4 : w2.heap.size < w7.heap.size := World.block_lt_of_cell? w7 _ c7_4_0
      have c7_5_0 : w7.cell? ⟨w3.heap.size, 0, none⟩ = some (.int .i64 (Z.CrossingOf a b c d).1.1) := f7.cell_of (by go_simp)
      have c7_5_1 : w7.cell? ⟨w3.heap.size, 1, none⟩ = some (.int .i64 (Z.CrossingOf a b c d).1.2) := f7.cell_of (by go_simp)
      have y7_5 : w3.heap.size < w7.heap.size := World.block_lt_of_cell? w7 _ c7_5_0
      have c7_6_0 : w7.cell? ⟨w4.heap.size, 0, none⟩ = some (.int .i64 x.1) := f7.cell_of (by go_simp)
      have c7_6_1 : w7.cell? ⟨w4.heap.size, 1, none⟩ = some (.int .i64 x.2) := f7.cell_of (by go_simp)
      have y7_6 : w4.heap.size < w7.heap.size := World.block_lt_of_cell? w7 _ c7_6_0
      have c7_7_0 : w7.cell? ⟨w4.heap.size + 1, 0, none⟩ = some (.int .i64 y.1) := f7.cell_of (by go_simp)
      have c7_7_1 : w7.cell? ⟨w4.heap.size + 1, 1, none⟩ = some (.int .i64 y.2) := f7.cell_of (by go_simp)
      have y7_7 : w4.heap.size + 1 < w7.heap.size := World.block_lt_of_cell? w7 _ c7_7_0
      have R_7 := K.recs.ext (show K.recs false K.PtR _ 0 w4.heap.size (.slice lo_ ps.length cap_) ps from by with_reducible repeat' (first | exact R_6 | refine K.recs.alloc ?_ _ | refine K.recs.drew ?_ | refine K.recs.set (by decide) ?_ _ ?_ _ | (dsimp only; omega) | omega | (simp; done) | (simp; omega))) f7
      clear c6_0_0 c6_0_1 y6_0 c6_1_0 c6_1_1 y6_1 c6_2_0 c6_2_1 y6_2 c6_3_0 c6_3_1 y6_3 c6_4_0 c6_4_1 y6_4 c6_5_0 c6_5_1 y6_5 c6_6_0 c6_6_1 y6_6 c6_7_0 c6_7_1 y6_7 R_6 F6 f7
      go_wp2_with fail
      refine K.call (by with_reducible rfl) (by with_reducible rfl) (impl_SquareBetween u t _) ?_
      rintro e w8 ⟨rfl, f8⟩
      have u8_0_1 : w1.heap.size < w7.heap.size + 1 := (by omega)
      have u8_0_2 : w1.heap.size < w7.heap.size + 1 + 1 := (by omega)
      have u8_1_1 : w1.heap.size + 1 < w7.heap.size + 1 := (by omega)
      have u8_1_2 : w1.heap.size + 1 < w7.heap.size + 1 + 1 := (by omega)
      have u8_2_1 : w1.heap.size + 1 + 1 < w7.heap.size + 1 := (by omega)
      have u8_2_2 : w1.heap.size + 1 + 1 < w7.heap.size + 1 + 1 := (by omega)
      have u8_3_1 : w1.heap.size + 1 + 1 + 1 < w7.heap.size + 1 := (by omega)
      have u8_3_2 : w1.heap.size + 1 + 1 + 1 < w7.heap.size + 1 + 1 := (by omega)
      have u8_4_1 : w2.heap.size < w7.heap.size + 1 := (by omega)
      have u8_4_2 : w2.heap.size < w7.heap.size + 1 + 1 := (by omega)
      have u8_5_1 : w3.heap.size < w7.heap.size + 1 := (by omega)
      have u8_5_2 : w3.heap.size < w7.heap.size + 1 + 1 := (by omega)
      have u8_6_1 : w4.heap.size < w7.heap.size + 1 := (by omega)
      have u8_6_2 : w4.heap.size < w7.heap.size + 1 + 1 := (by omega)
      have u8_7_1 : w4.heap.size + 1 < w7.heap.size + 1 := (by omega)
      have u8_7_2 : w4.heap.size + 1 < w7.heap.size + 1 + 1 := (by omega)
      have F8 : K.Ext w w8 := K.Ext.trans (by repeat' (first | with_reducible exact F7 | with_reducible refine K.Ext.setCell ?_ ?_ _ | with_reducible refine K.Ext.alloc ?_ _ | with_reducible refine K.Ext.drew ?_ | (dsimp only; omega) | omega | (simp; omega))) f8
      have c8_0_0 : w8.cell? ⟨w1.heap.size, 0, none⟩ = some (.int .i64 a.1) := f8.cell_of (by go_simp)
      have c8_0_1 : w8.cell? ⟨w1.heap.size, 1, none⟩ = some (.int .i64 a.2) := f8.cell_of (by go_simp)
      have y8_0 : w1.heap.size < w8.heap.size := World.block_lt_of_cell? w8 _ c8_0_0
      have c8_1_0 : w8.cell? ⟨w1.heap.size + 1, 0, none⟩ = some (.int .i64 b.1) := f8.cell_of (by go_simp)
      have c8_1_1 : w8.cell? ⟨w1.heap.size + 1, 1, none⟩ = some (.int .i64 b.2) := f8.cell_of (by go_simp)
      have y8_1 : w1.heap.size + 1 < w8.heap.size := World.block_lt_of_cell? w8 _ c8_1_0
      have c8_2_0 : w8.cell? ⟨w1.heap.size + 1 + 1, 0, none⟩ = some (.int .i64 c.1) := f8.cell_of (by go_simp)
      have c8_2_1 : w8.cell? ⟨w1.heap.size + 1 + 1, 1, none⟩ = some (.int .i64 c.2) := f8.cell_of (by go_simp)
      have y8_2 : w1.heap.size + 1 + 1 < w8.heap.size := World.block_lt_of_cell? w8 _ c8_2_0
      have c8_3_0 : w8.cell? ⟨w1.heap.size + 1 + 1 + 1, 0, none⟩ = some (.int .i64 d.1) := f8.cell_of (by go_simp)
      have c8_3_1 : w8.cell? ⟨w1.heap.size + 1 + 1 + 1, 1, none⟩ = some (.int .i64 d.2) := f8.cell_of (by go_simp)
      have y8_3 : w1.heap.size + 1 + 1 + 1 < w8.heap.size := World.block_lt_of_cell? w8 _ c8_3_0
      have c8_4_0 : w8.cell? ⟨w2.heap.size, 0, none⟩ = some (.int .i64 (Z.CrossingOf a b c d).1.1) := f8.cell_of (by go_simp)
      have c8_4_1 : w8.cell? ⟨w2.heap.size, 1, none⟩ = some (.int .i64 (Z.CrossingOf a b c d).1.2) := f8.cell_of (by go_simp)
      have y8_4 : w2.heap.size < w8.heap.size := World.block_lt_of_cell? w8 _ c8_4_0
      have c8_5_0 : w8.cell? ⟨w3.heap.size, 0, none⟩ = some (.int .i64 (Z.CrossingOf a b c d).1.1) := f8.cell_of (by go_simp)
      have c8_5_1 : w8.cell? ⟨w3.heap.size, 1, none⟩ = some (.int .i64 (Z.CrossingOf a b c d).1.2) := f8.cell_of (by go_simp)
      have y8_5 : w3.heap.size < w8.heap.size := World.block_lt_of_cell? w8 _ c8_5_0
      have c8_6_0 : w8.cell? ⟨w4.heap.size, 0, none⟩ = some (.int .i64 x.1) := f8.cell_of (by go_simp)
      have c8_6_1 : w8.cell? ⟨w4.heap.size, 1, none⟩ = some (.int .i64 x.2) := f8.cell_of (by go_simp)
      have y8_6 : w4.heap.size < w8.heap.size := World.block_lt_of_cell? w8 _ c8_6_0
      have c8_7_0 : w8.cell? ⟨w4.heap.size + 1, 0, none⟩ = some (.int .i64 y.1) := f8.cell_of (by go_simp)
      have c8_7_1 : w8.cell? ⟨w4.heap.size + 1, 1, none⟩ = some (.int .i64 y.2) := f8.cell_of (by go_simp)
      have y8_7 : w4.heap.size + 1 < w8.heap.size := World.block_lt_of_cell? w8 _ c8_7_0
      have c8_8_0 : w8.cell? ⟨w7.heap.size, 0, none⟩ = some (.int .i64 u.1) := f8.cell_of (by go_simp)
      have c8_8_1 : w8.cell? ⟨w7.heap.size, 1, none⟩ = some (.int .i64 u.2) := f8.cell_of (by go_simp)
      have y8_8 : w7.heap.size < w8.heap.size := World.block_lt_of_cell? w8 _ c8_8_0
      have c8_9_0 : w8.cell? ⟨w7.heap.size + 1, 0, none⟩ = some (.int .i64 t.1) := f8.cell_of (by go_simp)
      have c8_9_1 : w8.cell? ⟨w7.heap.size + 1, 1, none⟩ = some (.int .i64 t.2) := f8.cell_of (by go_simp)
      have y8_9 : w7.heap.size + 1 < w8.heap.size := World.block_lt_of_cell? w8 _ c8_9_0
      have R_8 := K.recs.ext (show K.recs false K.PtR _ 0 w4.heap.size (.slice lo_ ps.length cap_) ps from by with_reducible repeat' (first | exact R_7 | refine K.recs.alloc ?_ _ | refine K.recs.drew ?_ | refine K.recs.set (by decide) ?_ _ ?_ _ | (dsimp only; omega) | omega | (simp; done) | (simp; omega))) f8
      clear c7_0_0 c7_0_1 y7_0 c7_1_0 c7_1_1 y7_1 c7_2_0 c7_2_1 y7_2 c7_3_0 c7_3_1 y7_3 c7_4_0 c7_4_1 y7_4 c7_5_0 c7_5_1 y7_5 c7_6_0 c7_6_1 y7_6 c7_7_0 c7_7_1 y7_7 R_7 F7 f8 u8_0_1 u8_0_2 u8_1_1 u8_1_2 u8_2_1 u8_2_2 u8_3_1 u8_3_2 u8_4_1 u8_4_2 u8_5_1 u8_5_2 u8_6_1 u8_6_2 u8_7_1 u8_7_2
      go_wp2_with fail
      refine K.call (by with_reducible rfl) (by with_reducible rfl) (spec_SquareBetween u t _) ?_
      rintro e w9 ⟨rfl, f9⟩
      have F9 : K.Ext w w9 := K.Ext.trans (by repeat' (first | with_reducible exact F8 | with_reducible refine K.Ext.setCell ?_ ?_ _ | with_reducible refine K.Ext.alloc ?_ _ | with_reducible refine K.Ext.drew ?_ | (dsimp only; omega) | omega | (simp; omega))) f9
      have c9_0_0 : w9.cell? ⟨w1.heap.size, 0, none⟩ = some (.int .i64 a.1) := f9.cell_of (by go_simp)
      have c9_0_1 : w9.cell? ⟨w1.heap.size, 1, none⟩ = some (.int .i64 a.2) := f9.cell_of (by go_simp)
      have y9_0 : w1.heap.size < w9.heap.size := World.block_lt_of_cell? w9 _ c9_0_0
      have c9_1_0 : w9.cell? ⟨w1.heap.size + 1, 0, none⟩ = some (.int .i64 b.1) := f9.cell_of (by go_simp)
      have c9_1_1 : w9.cell? ⟨w1.heap.size + 1, 1, none⟩ = some (.int .i64 b.2) := f9.cell_of (by go_simp)
      have y9_1 : w1.heap.size + 1 < w9.heap.size := World.block_lt_of_cell? w9 _ c9_1_0
      have c9_2_0 : w9.cell? ⟨w1.heap.size + 1 + 1, 0, none⟩ = some (.int .i64 c.1) := f9.cell_of (by go_simp)
      have c9_2_1 : w9.cell? ⟨w1.heap.size + 1 + 1, 1, none⟩ = some (.int .i64 c.2) := f9.cell_of (by go_simp)
      have y9_2 : w1.heap.size + 1 + 1 < w9.heap.size := World.block_lt_of_cell? w9 _ c9_2_0
      have c9_3_0 : w9.cell? ⟨w1.heap.size + 1 + 1 + 1, 0, none⟩ = some (.int .i64 d.1) := f9.cell_of (by go_simp)
      have c9_3_1 : w9.cell? ⟨w1.heap.size + 1 + 1 + 1, 1, none⟩ = some (.int .i64 d.2) := f9.cell_of (by go_simp)
      have y9_3 : w1.heap.size + 1 + 1 + 1 < w9.heap.size := World.block_lt_of_cell? w9 _ c9_3_0
      have c9_4_0 : w9.cell? ⟨w2.heap.size, 0, none⟩ = some (.int .i64 (Z.CrossingOf a b c d).1.1) := f9.cell_of (by go_simp)
      have c9_4_1 : w9.cell? ⟨w2.heap.size, 1, none⟩ = some (.int .i64 (Z.CrossingOf a b c d).1.2) := f9.cell_of (by go_simp)
      have y9_4 : w2.heap.size < w9.heap.size := World.block_lt_of_cell? w9 _ c9_4_0
      have c9_5_0 : w9.cell? ⟨w3.heap.size, 0, none⟩ = some (.int .i64 (Z.CrossingOf a b c d).1.1) := f9.cell_of (by go_simp)
      have c9_5_1 : w9.cell? ⟨w3.heap.size, 1, none⟩ = some (.int .i64 (Z.CrossingOf a b c d).1.2) := f9.cell_of (by go_simp)
      have y9_5 : w3.heap.size < w9.heap.size := World.block_lt_of_cell? w9 _ c9_5_0
      have c9_6_0 : w9.cell? ⟨w4.heap.size, 0, none⟩ = some (.int .i64 x.1) := f9.cell_of (by go_simp)
      have c9_6_1 : w9.cell? ⟨w4.heap.size, 1, none⟩ = some (.int .i64 x.2) := f9.cell_of (by go_simp)
      have y9_6 : w4.heap.size < w9.heap.size := World.block_lt_of_cell? w9 _ c9_6_0
      have c9_7_0 : w9.cell? ⟨w4.heap.size + 1, 0, none⟩ = some (.int .i64 y.1) := f9.cell_of (by go_simp)
      have c9_7_1 : w9.cell? ⟨w4.heap.size + 1, 1, none⟩ = some (.int .i64 y.2) := f9.cell_of (by go_simp)
      have y9_7 : w4.heap.size + 1 < w9.heap.size := World.block_lt_of_cell? w9 _ c9_7_0
      have c9_8_0 : w9.cell? ⟨w7.heap.size, 0, none⟩ = some (.int .i64 u.1) := f9.cell_of (by go_simp)
      have c9_8_1 : w9.cell? ⟨w7.heap.size, 1, none⟩ = some (.int .i64 u.2) := f9.cell_of (by go_simp)
      have y9_8 : w7.heap.size < w9.heap.size := World.block_lt_of_cell? w9 _ c9_8_0
      have c9_9_0 : w9.cell? ⟨w7.heap.size + 1, 0, none⟩ = some (.int .i64 t.1) := f9.cell_of (by go_simp)
      have c9_9_1 : w9.cell? ⟨w7.heap.size + 1, 1, none⟩ = some (.int .i64 t.2) := f9.cell_of (by go_simp)
      have y9_9 : w7.heap.size + 1 < w9.heap.size := World.block_lt_of_cell? w9 _ c9_9_0
      have R_9 := K.recs.ext (show K.recs false K.PtR _ 0 w4.heap.size (.slice lo_ ps.length cap_) ps from by with_reducible repeat' (first | exact R_8 | refine K.recs.alloc ?_ _ | refine K.recs.drew ?_ | refine K.recs.set (by decide) ?_ _ ?_ _ | (dsimp only; omega) | omega | (simp; done) | (simp; omega))) f9
      clear c8_0_0 c8_0_1 y8_0 c8_1_0 c8_1_1 y8_1 c8_2_0 c8_2_1 y8_2 c8_3_0 c8_3_1 y8_3 c8_4_0 c8_4_1 y8_4 c8_5_0 c8_5_1 y8_5 c8_6_0 c8_6_1 y8_6 c8_7_0 c8_7_1 y8_7 c8_8_0 c8_8_1 y8_8 c8_9_0 c8_9_1 y8_9 R_8 F8 f9
      go_wp2_with fail
      refine K.call (by with_reducible rfl) (by with_reducible rfl) (impl_MiddlePoint u t _) ?_
      rintro e w10 ⟨rfl, f10⟩
      have F10 : K.Ext w w10 := K.Ext.trans (by repeat' (first | with_reducible exact F9 | with_reducible refine K.Ext.setCell ?_ ?_ _ | with_reducible refine K.Ext.alloc ?_ _ | with_reducible refine K.Ext.drew ?_ | (dsimp only; omega) | omega | (simp; omega))) f10
      have c10_0_0 : w10.cell? ⟨w1.heap.size, 0, none⟩ = some (.int .i64 a.1) := f10.cell_of (by go_simp)
      have c10_0_1 : w10.cell? ⟨w1.heap.size, 1, none⟩ = some (.int .i64 a.2) := f10.cell_of (by go_simp)
      have y10_0 : w1.heap.size < w10.heap.size := World.block_lt_of_cell? w10 _ c10_0_0
      have c10_1_0 : w10.cell? ⟨w1.heap.size + 1, 0, none⟩ = some (.int .i64 b.1) := f10.cell_of (by go_simp)
      have c10_1_1 : w10.cell? ⟨w1.heap.size + 1, 1, none⟩ = some (.int .i64 b.2) := f10.cell_of (by go_simp)
      have y10_1 : w1.heap.size + 1 < w10.heap.size := World.block_lt_of_cell? w10 _ c10_1_0
      have c10_2_0 : w10.cell? ⟨w1.heap.size + 1 + 1, 0, none⟩ = some (.int .i64 c.1) := f10.cell_of (by go_simp)
      have c10_2_1 : w10.cell? ⟨w1.heap.size + 1 + 1, 1, none⟩ = some (.int .i64 c.2) := f10.cell_of (by go_simp)
      have y10_2 : w1.heap.size + 1 + 1 < w10.heap.size := World.block_lt_of_cell? w10 _ c10_2_0
      have c10_3_0 : w10.cell? ⟨w1.heap.size + 1 + 1 + 1, 0, none⟩ = some (.int .i64 d.1) := f10.cell_of (by go_simp)
      have c10_3_1 : w10.cell? ⟨w1.heap.size + 1 + 1 + 1, 1, none⟩ = some (.int .i64 d.2) := f10.cell_of (by go_simp)
      have y10_3 : w1.heap.size + 1 + 1 + 1 < w10.heap.size := World.block_lt_of_cell? w10 _ c10_3_0
      have c10_4_0 : w10.cell? ⟨w2.heap.size, 0, none⟩ = some (.int .i64 (Z.CrossingOf a b c d).1.1) := f10.cell_of (by go_simp)
      have c10_4_1 : w10.cell? ⟨w2.heap.size, 1, none⟩ = some (.int .i64 (Z.CrossingOf a b c d).1.2) := f10.cell_of (by go_simp)
      have y10_4 : w2.heap.size < w10.heap.size := World.block_lt_of_cell? w10 _ c10_4_0
      have c10_5_0 : w10.cell? ⟨w3.heap.size, 0, none⟩ = some (.int .i64 (Z.CrossingOf a b c d).1.1) := f10.cell_of (by go_simp)
      have c10_5_1 : w10.cell? ⟨w3.heap.size, 1, none⟩ = some (.int .i64 (Z.CrossingOf a b c d).1.2) := f10.cell_of (by go_simp)
      have y10_5 : w3.heap.size < w10.heap.size := World.block_lt_of_cell? w10 _ c10_5_0
      have c10_6_0 : w10.cell? ⟨w4.heap.size, 0, none⟩ = some (.int .i64 x.1) := f10.cell_of (by go_simp)
      have c10_6_1 : w10.cell? ⟨w4.heap.size, 1, none⟩ = some (.int .i64 x.2) := f10.cell_of (by go_simp)
      have y10_6 : w4.heap.size < w10.heap.size := World.block_lt_of_cell? w10 _ c10_6_0
      have c10_7_0 : w10.cell? ⟨w4.heap.size + 1, 0, none⟩ = some (.int .i64 y.1) := f10.cell_of (by go_simp)
      have c10_7_1 : w10.cell? ⟨w4.heap.size + 1, 1, none⟩ = some (.int .i64 y.2) := f10.cell_of (by go_simp)
      have y10_7 : w4.heap.size + 1 < w10.heap.size := World.block_lt_of_cell? w10 _ c10_7_0
      have c10_8_0 : w10.cell? ⟨w7.heap.size, 0, none⟩ = some (.int .i64 u.1) := f10.cell_of (by go_simp)
      have c10_8_1 : w10.cell? ⟨w7.heap.size, 1, none⟩ = some (.int .i64 u.2) := f10.cell_of (by go_simp)
      have y10_8 : w7.heap.size < w10.heap.size := World.block_lt_of_cell? w10 _ c10_8_0
      have c10_9_0 : w10.cell? ⟨w7.heap.size + 1, 0, none⟩ = some (.int .i64 t.1) := f10.cell_of (by go_simp)
      have c10_9_1 : w10.cell? ⟨w7.heap.size + 1, 1, none⟩ = some (.int .i64 t.2) := f10.cell_of (by go_simp)
      have y10_9 : w7.heap.size + 1 < w10.heap.size := World.block_lt_of_cell? w10 _ c10_9_0
      have R_10 := K.recs.ext (show K.recs false K.PtR _ 0 w4.heap.size (.slice lo_ ps.length cap_) ps from by with_reducible repeat' (first | exact R_9 | refine K.recs.alloc ?_ _ | refine K.recs.drew ?_ | refine K.recs.set (by decide) ?_ _ ?_ _ | (dsimp only; omega) | omega | (simp; done) | (simp; omega))) f10
      clear c9_0_0 c9_0_1 y9_0 c9_1_0 c9_1_1 y9_1 c9_2_0 c9_2_1 y9_2 c9_3_0 c9_3_1 y9_3 c9_4_0 c9_4_1 y9_4 c9_5_0 c9_5_1 y9_5 c9_6_0 c9_6_1 y9_6 c9_7_0 c9_7_1 y9_7 c9_8_0 c9_8_1 y9_8 c9_9_0 c9_9_1 y9_9 R_9 F9 f10
      go_wp2_with fail
      refine K.call (by with_reducible rfl) (by with_reducible rfl) (spec_MiddlePoint u t _) ?_
      rintro e w11 ⟨rfl, f11⟩
      have u11_0_1 : w1.heap.size < w10.heap.size + 1 := (by omega)
      have u11_1_1 : w1.heap.size + 1 < w10.heap.size + 1 := (by omega)
      have u11_2_1 : w1.heap.size + 1 + 1 < w10.heap.size + 1 := (by omega)
      have u11_3_1 : w1.heap.size + 1 + 1 + 1 < w10.heap.size + 1 := (by omega)
      have u11_4_1 : w2.heap.size < w10.heap.size + 1 := (by omega)
      have u11_5_1 : w3.heap.size < w10.heap.size + 1 := (by omega)
      have u11_6_1 : w4.heap.size < w10.heap.size + 1 := (by omega)
      have u11_7_1 : w4.heap.size + 1 < w10.heap.size + 1 := (by omega)
      have u11_8_1 : w7.heap.size < w10.heap.size + 1 := (by omega)
      have u11_9_1 : w7.heap.size + 1 < w10.heap.size + 1 := (by omega)
      have F11 : K.Ext w w11 := K.Ext.trans (by repeat' (first | with_reducible exact F10 | with_reducible refine K.Ext.setCell ?_ ?_ _ | with_reducible refine K.Ext.alloc ?_ _ | with_reducible refine K.Ext.drew ?_ | (dsimp only; omega) | omega | (simp; omega))) f11
      have c11_0_0 : w11.cell? ⟨w1.heap.size, 0, none⟩ = some (.int .i64 a.1) := f11.cell_of (by go_simp)
      have c11_0_1 : w11.cell? ⟨w1.heap.size, 1, none⟩ = some (.int .i64 a.2) := f11.cell_of (by go_simp)
      have y11_0 : w1.heap.size < w11.heap.size := World.block_lt_of_cell? w11 _ c11_0_0
      have c11_1_0 : w11.cell? ⟨w1.heap.size + 1, 0, none⟩ = some (.int .i64 b.1) := f11.cell_of (by go_simp)
      have c11_1_1 : w11.cell? ⟨w1.heap.size + 1, 1, none⟩ = some (.int .i64 b.2) := f11.cell_of (by go_simp)
      have y11_1 : w1.heap.size + 1 < w11.heap.size := World.block_lt_of_cell? w11 _ c11_1_0
      have c11_2_0 : w11.cell? ⟨w1.heap.size + 1 + 1, 0, none⟩ = some (.int .i64 c.1) := f11.cell_of (by go_simp)
      have c11_2_1 : w11.cell? ⟨w1.heap.size + 1 + 1, 1, none⟩ = some (.int .i64 c.2) := f11.cell_of (by go_simp)
      have y11_2 : w1.heap.size + 1 + 1 < w11.heap.size := World.block_lt_of_cell? w11 _ c11_2_0
      have c11_3_0 : w11.cell? ⟨w1.heap.size + 1 + 1 + 1, 0, none⟩ = some (.int .i64 d.1) := f11.cell_of (by go_simp)
      have c11_3_1 : w11.cell? ⟨w1.heap.size + 1 + 1 + 1, 1, none⟩ = some (.int .i64 d.2) := f11.cell_of (by go_simp)
      have y11_3 : w1.heap.size + 1 + 1 + 1 < w11.heap.size := World.block_lt_of_cell? w11 _ c11_3_0
      have c11_4_0 : w11.cell? ⟨w2.heap.size, 0, none⟩ = some (.int .i64 (Z.CrossingOf a b c d).1.1) := f11.cell_of (by go_simp)
      have c11_4_1 : w11.cell? ⟨w2.heap.size, 1, none⟩ = some (.int .i64 (Z.CrossingOf a b c d).1.2) := f11.cell_of (by go_simp)
      have y11_4 : w2.heap.size < w11.heap.size := World.block_lt_of_cell? w11 _ c11_4_0
      have c11_5_0 : w11.cell? ⟨w3.heap.size, 0, none⟩ = some (.int .i64 (Z.CrossingOf a b c d).1.1) := f11.cell_of (by go_simp)
      have c11_5_1 : w11.cell? ⟨w3.heap.size, 1, none⟩ = some (.int .i64 (Z.CrossingOf a b c d).1.2) := f11.cell_of (by go_simp)
      have y11_5 : w3.heap.size < w11.heap.size := World.block_lt_of_cell? w11 _ c11_5_0
      have c11_6_0 : w11.cell? ⟨w4.heap.size, 0, none⟩ = some (.int .i64 x.1) := f11.cell_of (by go_simp)
      have c11_6_1 : w11.cell? ⟨w4.heap.size, 1, none⟩ = some (.int .i64 x.2) := f11.cell_of (by go_simp)
      have y11_6 : w4.heap.size < w11.heap.size := World.block_lt_of_cell? w11 _ c11_6_0
      have c11_7_0 : w11.cell? ⟨w4.heap.size + 1, 0, none⟩ = some (.int .i64 y.1) := f11.cell_of (by go_simp)
      have c11_7_1 : w11.cell? ⟨w4.heap.size + 1, 1, none⟩ = some (.int .i64 y.2) := f11.cell_of (by go_simp)
      have y11_7 : w4.heap.size + 1 < w11.heap.size := World.block_lt_of_cell? w11 _ c11_7_0
      have c11_8_0 : w11.cell? ⟨w7.heap.size, 0, none⟩ = some (.int .i64 u.1) := f11.cell_of (by go_simp)
      have c11_8_1 : w11.cell? ⟨w7.heap.size, 1, none⟩ = some (.int .i64 u.2) := f11.cell_of (by go_simp)
      have y11_8 : w7.heap.size < w11.heap.size := World.block_lt_of_cell? w11 _ c11_8_0
      have c11_9_0 : w11.cell? ⟨w7.heap.size + 1, 0, none⟩ = some (.int .i64 t.1) := f11.cell_of (by go_simp)
      have c11_9_1 : w11.cell? ⟨w7.heap.size + 1, 1, none⟩ = some (.int .i64 t.2) := f11.cell_of (by go_simp)
      have y11_9 : w7.heap.size + 1 < w11.heap.size := World.block_lt_of_cell? w11 _ c11_9_0
      have c11_10_0 : w11.cell? ⟨w10.heap.size, 0, none⟩ = some (.int .i64 (Z.MiddlePoint u t).1.1) := f11.cell_of (by go_simp)
      have c11_10_1 : w11.cell? ⟨w10.heap.size, 1, none⟩ = some (.int .i64 (Z.MiddlePoint u t).1.2) := f11.cell_of (by go_simp)
      have y11_10 : w10.heap.size < w11.heap.size := World.block_lt_of_cell? w11 _ c11_10_0
      have R_11 := K.recs.ext (show K.recs false K.PtR _ 0 w4.heap.size (.slice lo_ ps.length cap_) ps from by with_reducible repeat' (first | exact R_10 | refine K.recs.alloc ?_ _ | refine K.recs.drew ?_ | refine K.recs.set (by decide) ?_ _ ?_ _ | (dsimp only; omega) | omega | (simp; done) | (simp; omega))) f11
      clear c10_0_0 c10_0_1 y10_0 c10_1_0 c10_1_1 y10_1 c10_2_0 c10_2_1 y10_2 c10_3_0 c10_3_1 y10_3 c10_4_0 c10_4_1 y10_4 c10_5_0 c10_5_1 y10_5 c10_6_0 c10_6_1 y10_6 c10_7_0 c10_7_1 y10_7 c10_8_0 c10_8_1 y10_8 c10_9_0 c10_9_1 y10_9 R_10 F10 f11 u11_0_1 u11_1_1 u11_2_1 u11_3_1 u11_4_1 u11_5_1 u11_6_1 u11_7_1 u11_8_1 u11_9_1
      go_wp2_with fail
      go_loopw [28] (fun i wr => ∃ k : Nat, k ≤ ps.length ∧ i = .int .i64 k ∧ Hid (K.Ext w11 wr)) (fun i _ => ps.length - (intOf i).toNat)
      case atStart => exact ⟨0, Nat.zero_le _, rfl, Z.hide ((K.Ext.refl _).alloc _)⟩
      case round =>
        obtain ⟨k, hk, rfl, HX⟩ := hrel
        have XR : K.Ext w wr := K.Ext.trans F11 HX.out
        have cr_0_0 := HX.out.cell_of c11_0_0
        have cr_0_1 := HX.out.cell_of c11_0_1
        have yr_0 : w1.heap.size < wr.heap.size := World.block_lt_of_cell? wr _ cr_0_0
        have cr_1_0 := HX.out.cell_of c11_1_0
        have cr_1_1 := HX.out.cell_of c11_1_1
        have yr_1 : w1.heap.size + 1 < wr.heap.size := World.block_lt_of_cell? wr _ cr_1_0
        have cr_2_0 := HX.out.cell_of c11_2_0
        have cr_2_1 := HX.out.cell_of c11_2_1
        have yr_2 : w1.heap.size + 1 + 1 < wr.heap.size := World.block_lt_of_cell? wr _ cr_2_0
        have cr_3_0 := HX.out.cell_of c11_3_0
        have cr_3_1 := HX.out.cell_of c11_3_1
        have yr_3 : w1.heap.size + 1 + 1 + 1 < wr.heap.size := World.block_lt_of_cell? wr _ cr_3_0
        have cr_4_0 := HX.out.cell_of c11_4_0
        have cr_4_1 := HX.out.cell_of c11_4_1
        have yr_4 : w2.heap.size < wr.heap.size := World.block_lt_of_cell? wr _ cr_4_0
        have cr_6_0 := HX.out.cell_of c11_6_0
        have cr_6_1 := HX.out.cell_of c11_6_1
        have yr_6 : w4.heap.size < wr.heap.size := World.block_lt_of_cell? wr _ cr_6_0
        have cr_7_0 := HX.out.cell_of c11_7_0
        have cr_7_1 := HX.out.cell_of c11_7_1
        have yr_7 : w4.heap.size + 1 < wr.heap.size := World.block_lt_of_cell? wr _ cr_7_0
        have cr_8_0 := HX.out.cell_of c11_8_0
        have cr_8_1 := HX.out.cell_of c11_8_1
        have yr_8 : w7.heap.size < wr.heap.size := World.block_lt_of_cell? wr _ cr_8_0
        have cr_9_0 := HX.out.cell_of c11_9_0
        have cr_9_1 := HX.out.cell_of c11_9_1
        have yr_9 : w7.heap.size + 1 < wr.heap.size := World.block_lt_of_cell? wr _ cr_9_0
        have RR := K.recs.ext R_11 HX.out
        clear c11_0_0 c11_0_1 y11_0 c11_1_0 c11_1_1 y11_1 c11_2_0 c11_2_1 y11_2 c11_3_0 c11_3_1 y11_3 c11_4_0 c11_4_1 y11_4 c11_5_0 c11_5_1 y11_5 c11_6_0 c11_6_1 y11_6 c11_7_0 c11_7_1 y11_7 c11_8_0 c11_8_1 y11_8 c11_9_0 c11_9_1 y11_9 c11_10_0 c11_10_1 y11_10 R_11 F11
        have k0 : (0 : Int) ≤ (k : Int) := Int.natCast_nonneg k
        by_cases hlt : k < ps.length
        · as_aux_lemma =>
            obtain ⟨bb, off, rfl, _, _, hc, _⟩ := K.recs_at RR (by omega)
            have v0 : wr.cell? ⟨bb, off + k * 2, none⟩ = some (.int .i64 (ps[k]'hlt).1) := hc k hlt 0 (by decide)
            have v1 : wr.cell? ⟨bb, off + k * 2 + 1, none⟩ = some (.int .i64 (ps[k]'hlt).2) := hc k hlt 1 (by decide)
            have u0 : wr.cell? ⟨bb, off + j * 2, none⟩ = some (.int .i64 (ps[j]'hj).1) := hc j hj 0 (by decide)
            have u1 : wr.cell? ⟨bb, off + j * 2 + 1, none⟩ = some (.int .i64 (ps[j]'hj).2) := hc j hj 1 (by decide)
            have hDk := hD k hlt
            have hDj := hD j hj
            have hl := hle k hlt
            have i1 : (k : Int) < (ps.length : Int) := by omega
            have j0 : (0 : Int) ≤ (j : Int) := Int.natCast_nonneg j
            have j1 : (j : Int) < (ps.length : Int) := by omega
            clear hc hD hle RR
            generalize (ps[k]'hlt) = p at *
            generalize (ps[j]'hj) = q at *
            have hl' : ¬ (Z.dev p x y < Z.dev q x y) := by omega
            go_wp2_with fail
            refine K.wp_region_x 10 [0, 0, 0, 1, 1, 1, 2, 0, 0, 0] [K.SP.any, K.SP.any, K.SP.any, K.SP.any, K.SP.any, K.SP.any, K.SP.is (.tuple #[.int .i64 (Z.DeviationOf q x y).1, .int .i64 (Z.DeviationOf q x y).2])] (by kernel_rfl) (by kernel_rfl) ?_
            simp only [List.take_succ_cons, List.take_zero, List.drop_succ_cons, List.drop_zero]
            iterate 3
              apply K.x_pure
              · rfl
              · rfl
              · intro w'; go_simp; first | done | exact K.vint (IntWalk.i64_in _ (by omega)) | rfl | exact ⟨rfl, rfl⟩
              simp only [Act.put, List.setIfInBounds_toArray, List.set]
            iterate 3
              apply K.x_held
              · rfl
              · rfl
              · intro w' hx; have hc := hx.all.1.1; have hf := hx.all.1.2; have hc' := hx.all.2.1; have hf' := hx.all.2.2; go_simp; first | done | rfl | exact ⟨rfl, rfl⟩
              simp only [Act.put, List.setIfInBounds_toArray, List.set]
            apply K.x_call_is
            · rfl
            · rfl
            · rfl
            · intro w'; go_simp; first | done | rfl | exact ⟨rfl, rfl⟩
            · intro w' hx hp; have hc := hx.all.1.1; have hf := hx.all.1.2; have hc' := hx.all.2.1; have hf' := hx.all.2.2; exact impl_DeviationOf q x y _
            intro w_6_ hx_6_
            simp only [Act.put, List.setIfInBounds_toArray, List.set]
            iterate 3
              apply K.x_pure
              · rfl
              · rfl
              · intro w'; go_simp; first | done | exact K.vint (IntWalk.i64_in _ (by omega)) | rfl | exact ⟨rfl, rfl⟩
              simp only [Act.put, List.setIfInBounds_toArray, List.set]
            apply K.x_done
            intro wa h_x
            have hxa := hx_6_.trans h_x
            clear h_x hx_6_
            obtain ⟨⟨hcwa, hfwa⟩, hc'wa, hf'wa⟩ := hxa.all
            go_wp2_with fail
            refine NoPanic.normal ?_
            have HA : Hid (K.Ext wr wa) := Z.hide (by first | exact (by repeat' (first | with_reducible exact K.Ext.refl _ | with_reducible assumption | with_reducible refine K.Ext.drew ?_ | with_reducible refine K.Ext.alloc ?_ _ | with_reducible refine K.Ext.setCell ?_ ?_ _ | with_reducible refine K.Ext.trans ?_ (by with_reducible assumption) | (dsimp only; omega) | omega | exact K.Ext.refl _ | assumption | apply K.Ext.drew | refine K.Ext.alloc ?_ _ | refine K.Ext.setCell ?_ ?_ _ | (simp; done) | (simp; omega) | refine K.Ext.trans ?_ (by assumption))) | exact K.Ext.trans (K.Ext.refl _).drew hxa)
            have ca_6_0 := HA.out.cell_of cr_6_0
            have ca_6_1 := HA.out.cell_of cr_6_1
            have ca_7_0 := HA.out.cell_of cr_7_0
            have ca_7_1 := HA.out.cell_of cr_7_1
            have va0 := HA.out.cell_of v0
            have va1 := HA.out.cell_of v1
            go_wp2_with fail
            refine K.wp_region_x 10 [0, 0, 0, 1, 1, 1, 2, 0, 0, 0] [K.SP.any, K.SP.any, K.SP.any, K.SP.any, K.SP.any, K.SP.any, K.SP.is (.tuple #[.int .i64 (Z.DeviationOf p x y).1, .int .i64 (Z.DeviationOf p x y).2])] (by kernel_rfl) (by kernel_rfl) ?_
            simp only [List.take_succ_cons, List.take_zero, List.drop_succ_cons, List.drop_zero]
            iterate 3
              apply K.x_pure
              · rfl
              · rfl
              · intro w'; go_simp; first | done | exact K.vint (IntWalk.i64_in _ (by omega)) | rfl | exact ⟨rfl, rfl⟩
              simp only [Act.put, List.setIfInBounds_toArray, List.set]
            iterate 3
              apply K.x_held
              · rfl
              · rfl
              · intro w' hx; have hc := hx.all.1.1; have hf := hx.all.1.2; have hc' := hx.all.2.1; have hf' := hx.all.2.2; go_simp; first | done | rfl | exact ⟨rfl, rfl⟩
              simp only [Act.put, List.setIfInBounds_toArray, List.set]
            apply K.x_call_is
            · rfl
            · rfl
            · rfl
            · intro w'; go_simp; first | done | rfl | exact ⟨rfl, rfl⟩
            · intro w' hx hp; have hc := hx.all.1.1; have hf := hx.all.1.2; have hc' := hx.all.2.1; have hf' := hx.all.2.2; exact impl_DeviationOf p x y _
            intro w_6_ hx_6_
            simp only [Act.put, List.setIfInBounds_toArray, List.set]
            iterate 3
              apply K.x_pure
              · rfl
              · rfl
              · intro w'; go_simp; first | done | exact K.vint (IntWalk.i64_in _ (by omega)) | rfl | exact ⟨rfl, rfl⟩
              simp only [Act.put, List.setIfInBounds_toArray, List.set]
            apply K.x_done
            intro wb h_x
            have hxb := hx_6_.trans h_x
            clear h_x hx_6_
            obtain ⟨⟨hcwb, hfwb⟩, hc'wb, hf'wb⟩ := hxb.all
            go_wp2_with fail
            refine NoPanic.normal ?_
            have HB : Hid (K.Ext wa wb) := Z.hide (by first | exact (by repeat' (first | with_reducible exact K.Ext.refl _ | with_reducible assumption | with_reducible refine K.Ext.drew ?_ | with_reducible refine K.Ext.alloc ?_ _ | with_reducible refine K.Ext.setCell ?_ ?_ _ | with_reducible refine K.Ext.trans ?_ (by with_reducible assumption) | (dsimp only; omega) | omega | exact K.Ext.refl _ | assumption | apply K.Ext.drew | refine K.Ext.alloc ?_ _ | refine K.Ext.setCell ?_ ?_ _ | (simp; done) | (simp; omega) | refine K.Ext.trans ?_ (by assumption))) | exact K.Ext.trans (K.Ext.refl _).drew hxb)
            go_wp2
            go_roundw
            case rel => exact ⟨k + 1, Nat.succ_le_of_lt hlt, by go_num, Z.hide (K.Ext.trans HX.out (K.Ext.trans HA.out HB.out))⟩
            case measure => simp only [intOf]; omega
        · as_aux_lemma =>
            obtain rfl : k = ps.length := by omega
            by_cases hs : (Z.SquareBetween u t).2 = 0
            · obtain ⟨hS1, hS2, hS3⟩ := Z.squares_law u t hs
              rcases hS3 with ⟨hz, hu1, hu2⟩ | ⟨hz, hu1⟩ | ⟨hz, hu2⟩
              · as_aux_lemma =>
                  obtain rfl : u = t := Prod.ext hu1 hu2
                  clear hu1 hu2
                  go_wp2_with fail
                  refine K.call (by with_reducible rfl) (by with_reducible rfl) (impl_SquareBetween _ _ _) ?_
                  rintro e w12 ⟨rfl, f12⟩
                  have F12 : K.Ext w w12 := K.Ext.trans (by repeat' (first | with_reducible exact XR | with_reducible refine K.Ext.setCell ?_ ?_ _ | with_reducible refine K.Ext.alloc ?_ _ | with_reducible refine K.Ext.drew ?_ | (dsimp only; omega) | omega | (simp; omega))) f12
                  have c12_0_0 : w12.cell? ⟨w1.heap.size, 0, none⟩ = some (.int .i64 a.1) := f12.cell_of (by go_simp)
                  have c12_0_1 : w12.cell? ⟨w1.heap.size, 1, none⟩ = some (.int .i64 a.2) := f12.cell_of (by go_simp)
                  have y12_0 : w1.heap.size < w12.heap.size := World.block_lt_of_cell? w12 _ c12_0_0
                  have c12_1_0 : w12.cell? ⟨w1.heap.size + 1, 0, none⟩ = some (.int .i64 b.1) := f12.cell_of (by go_simp)
                  have c12_1_1 : w12.cell? ⟨w1.heap.size + 1, 1, none⟩ = some (.int .i64 b.2) := f12.cell_of (by go_simp)
                  have y12_1 : w1.heap.size + 1 < w12.heap.size := World.block_lt_of_cell? w12 _ c12_1_0
                  have c12_2_0 : w12.cell? ⟨w1.heap.size + 1 + 1, 0, none⟩ = some (.int .i64 c.1) := f12.cell_of (by go_simp)
                  have c12_2_1 : w12.cell? ⟨w1.heap.size + 1 + 1, 1, none⟩ = some (.int .i64 c.2) := f12.cell_of (by go_simp)
                  have y12_2 : w1.heap.size + 1 + 1 < w12.heap.size := World.block_lt_of_cell? w12 _ c12_2_0
                  have c12_3_0 : w12.cell? ⟨w1.heap.size + 1 + 1 + 1, 0, none⟩ = some (.int .i64 d.1) := f12.cell_of (by go_simp)
                  have c12_3_1 : w12.cell? ⟨w1.heap.size + 1 + 1 + 1, 1, none⟩ = some (.int .i64 d.2) := f12.cell_of (by go_simp)
                  have y12_3 : w1.heap.size + 1 + 1 + 1 < w12.heap.size := World.block_lt_of_cell? w12 _ c12_3_0
                  have c12_4_0 : w12.cell? ⟨w2.heap.size, 0, none⟩ = some (.int .i64 (Z.CrossingOf a b c d).1.1) := f12.cell_of (by go_simp)
                  have c12_4_1 : w12.cell? ⟨w2.heap.size, 1, none⟩ = some (.int .i64 (Z.CrossingOf a b c d).1.2) := f12.cell_of (by go_simp)
                  have y12_4 : w2.heap.size < w12.heap.size := World.block_lt_of_cell? w12 _ c12_4_0
                  have c12_6_0 : w12.cell? ⟨w4.heap.size, 0, none⟩ = some (.int .i64 x.1) := f12.cell_of (by go_simp)
                  have c12_6_1 : w12.cell? ⟨w4.heap.size, 1, none⟩ = some (.int .i64 x.2) := f12.cell_of (by go_simp)
                  have y12_6 : w4.heap.size < w12.heap.size := World.block_lt_of_cell? w12 _ c12_6_0
                  have c12_7_0 : w12.cell? ⟨w4.heap.size + 1, 0, none⟩ = some (.int .i64 y.1) := f12.cell_of (by go_simp)
                  have c12_7_1 : w12.cell? ⟨w4.heap.size + 1, 1, none⟩ = some (.int .i64 y.2) := f12.cell_of (by go_simp)
                  have y12_7 : w4.heap.size + 1 < w12.heap.size := World.block_lt_of_cell? w12 _ c12_7_0
                  have c12_8_0 : w12.cell? ⟨w7.heap.size, 0, none⟩ = some (.int .i64 u.1) := f12.cell_of (by go_simp)
                  have c12_8_1 : w12.cell? ⟨w7.heap.size, 1, none⟩ = some (.int .i64 u.2) := f12.cell_of (by go_simp)
                  have y12_8 : w7.heap.size < w12.heap.size := World.block_lt_of_cell? w12 _ c12_8_0
                  have c12_9_0 : w12.cell? ⟨w7.heap.size + 1, 0, none⟩ = some (.int .i64 u.1) := f12.cell_of (by go_simp)
                  have c12_9_1 : w12.cell? ⟨w7.heap.size + 1, 1, none⟩ = some (.int .i64 u.2) := f12.cell_of (by go_simp)
                  have y12_9 : w7.heap.size + 1 < w12.heap.size := World.block_lt_of_cell? w12 _ c12_9_0
                  have RR_12 := K.recs.ext (show K.recs false K.PtR _ 0 w4.heap.size (.slice lo_ ps.length cap_) ps from by with_reducible repeat' (first | exact RR | refine K.recs.alloc ?_ _ | refine K.recs.drew ?_ | refine K.recs.set (by decide) ?_ _ ?_ _ | (dsimp only; omega) | omega | (simp; done) | (simp; omega))) f12
                  clear cr_0_0 cr_0_1 yr_0 cr_1_0 cr_1_1 yr_1 cr_2_0 cr_2_1 yr_2 cr_3_0 cr_3_1 yr_3 cr_4_0 cr_4_1 yr_4 cr_6_0 cr_6_1 yr_6 cr_7_0 cr_7_1 yr_7 cr_8_0 cr_8_1 yr_8 cr_9_0 cr_9_1 yr_9 RR XR f12
                  by_cases hb : (Z.CrossingOf a b c d).2 = 0
                  · as_aux_lemma =>
                      obtain ⟨hC1, hC2, hC3, hC4, hC5, hC6, hC7⟩ := Z.crossings_law a b c d hb
                      go_wp2_with fail
                      refine K.call (by with_reducible rfl) (by with_reducible rfl) (impl_DoubleArea a b (Z.CrossingOf a b c d).1 _) ?_
                      rintro e w13 ⟨rfl, f13⟩
                      have F13 : K.Ext w w13 := K.Ext.trans (by repeat' (first | with_reducible exact F12 | with_reducible refine K.Ext.setCell ?_ ?_ _ | with_reducible refine K.Ext.alloc ?_ _ | with_reducible refine K.Ext.drew ?_ | (dsimp only; omega) | omega | (simp; omega))) f13
                      have c13_0_0 : w13.cell? ⟨w1.heap.size, 0, none⟩ = some (.int .i64 a.1) := f13.cell_of (by go_simp)
                      have c13_0_1 : w13.cell? ⟨w1.heap.size, 1, none⟩ = some (.int .i64 a.2) := f13.cell_of (by go_simp)
                      have y13_0 : w1.heap.size < w13.heap.size := World.block_lt_of_cell? w13 _ c13_0_0
                      have c13_1_0 : w13.cell? ⟨w1.heap.size + 1, 0, none⟩ = some (.int .i64 b.1) := f13.cell_of (by go_simp)
                      have c13_1_1 : w13.cell? ⟨w1.heap.size + 1, 1, none⟩ = some (.int .i64 b.2) := f13.cell_of (by go_simp)
                      have y13_1 : w1.heap.size + 1 < w13.heap.size := World.block_lt_of_cell? w13 _ c13_1_0
                      have c13_2_0 : w13.cell? ⟨w1.heap.size + 1 + 1, 0, none⟩ = some (.int .i64 c.1) := f13.cell_of (by go_simp)
                      have c13_2_1 : w13.cell? ⟨w1.heap.size + 1 + 1, 1, none⟩ = some (.int .i64 c.2) := f13.cell_of (by go_simp)
                      have y13_2 : w1.heap.size + 1 + 1 < w13.heap.size := World.block_lt_of_cell? w13 _ c13_2_0
                      have c13_3_0 : w13.cell? ⟨w1.heap.size + 1 + 1 + 1, 0, none⟩ = some (.int .i64 d.1) := f13.cell_of (by go_simp)
                      have c13_3_1 : w13.cell? ⟨w1.heap.size + 1 + 1 + 1, 1, none⟩ = some (.int .i64 d.2) := f13.cell_of (by go_simp)
                      have y13_3 : w1.heap.size + 1 + 1 + 1 < w13.heap.size := World.block_lt_of_cell? w13 _ c13_3_0
                      have c13_4_0 : w13.cell? ⟨w2.heap.size, 0, none⟩ = some (.int .i64 (Z.CrossingOf a b c d).1.1) := f13.cell_of (by go_simp)
                      have c13_4_1 : w13.cell? ⟨w2.heap.size, 1, none⟩ = some (.int .i64 (Z.CrossingOf a b c d).1.2) := f13.cell_of (by go_simp)
                      have y13_4 : w2.heap.size < w13.heap.size := World.block_lt_of_cell? w13 _ c13_4_0
                      have c13_6_0 : w13.cell? ⟨w4.heap.size, 0, none⟩ = some (.int .i64 x.1) := f13.cell_of (by go_simp)
                      have c13_6_1 : w13.cell? ⟨w4.heap.size, 1, none⟩ = some (.int .i64 x.2) := f13.cell_of (by go_simp)
                      have y13_6 : w4.heap.size < w13.heap.size := World.block_lt_of_cell? w13 _ c13_6_0
                      have c13_7_0 : w13.cell? ⟨w4.heap.size + 1, 0, none⟩ = some (.int .i64 y.1) := f13.cell_of (by go_simp)
                      have c13_7_1 : w13.cell? ⟨w4.heap.size + 1, 1, none⟩ = some (.int .i64 y.2) := f13.cell_of (by go_simp)
                      have y13_7 : w4.heap.size + 1 < w13.heap.size := World.block_lt_of_cell? w13 _ c13_7_0
                      clear c12_0_0 c12_0_1 y12_0 c12_1_0 c12_1_1 y12_1 c12_2_0 c12_2_1 y12_2 c12_3_0 c12_3_1 y12_3 c12_4_0 c12_4_1 y12_4 c12_6_0 c12_6_1 y12_6 c12_7_0 c12_7_1 y12_7 c12_8_0 c12_8_1 y12_8 c12_9_0 c12_9_1 y12_9 F12 f13
                      go_wp2_with fail
                      refine K.call (by with_reducible rfl) (by with_reducible rfl) (impl_DoubleArea c d (Z.CrossingOf a b c d).1 _) ?_
                      rintro e w14 ⟨rfl, f14⟩
                      have F14 : K.Ext w w14 := K.Ext.trans (by repeat' (first | with_reducible exact F13 | with_reducible refine K.Ext.setCell ?_ ?_ _ | with_reducible refine K.Ext.alloc ?_ _ | with_reducible refine K.Ext.drew ?_ | (dsimp only; omega) | omega | (simp; omega))) f14
                      have c14_0_0 : w14.cell? ⟨w1.heap.size, 0, none⟩ = some (.int .i64 a.1) := f14.cell_of (by go_simp)
                      have c14_0_1 : w14.cell? ⟨w1.heap.size, 1, none⟩ = some (.int .i64 a.2) := f14.cell_of (by go_simp)
                      have y14_0 : w1.heap.size < w14.heap.size := World.block_lt_of_cell? w14 _ c14_0_0
                      have c14_1_0 : w14.cell? ⟨w1.heap.size + 1, 0, none⟩ = some (.int .i64 b.1) := f14.cell_of (by go_simp)
                      have c14_1_1 : w14.cell? ⟨w1.heap.size + 1, 1, none⟩ = some (.int .i64 b.2) := f14.cell_of (by go_simp)
                      have y14_1 : w1.heap.size + 1 < w14.heap.size := World.block_lt_of_cell? w14 _ c14_1_0
                      have c14_2_0 : w14.cell? ⟨w1.heap.size + 1 + 1, 0, none⟩ = some (.int .i64 c.1) := f14.cell_of (by go_simp)
                      have c14_2_1 : w14.cell? ⟨w1.heap.size + 1 + 1, 1, none⟩ = some (.int .i64 c.2) := f14.cell_of (by go_simp)
                      have y14_2 : w1.heap.size + 1 + 1 < w14.heap.size := World.block_lt_of_cell? w14 _ c14_2_0
                      have c14_3_0 : w14.cell? ⟨w1.heap.size + 1 + 1 + 1, 0, none⟩ = some (.int .i64 d.1) := f14.cell_of (by go_simp)
                      have c14_3_1 : w14.cell? ⟨w1.heap.size + 1 + 1 + 1, 1, none⟩ = some (.int .i64 d.2) := f14.cell_of (by go_simp)
                      have y14_3 : w1.heap.size + 1 + 1 + 1 < w14.heap.size := World.block_lt_of_cell? w14 _ c14_3_0
                      have c14_4_0 : w14.cell? ⟨w2.heap.size, 0, none⟩ = some (.int .i64 (Z.CrossingOf a b c d).1.1) := f14.cell_of (by go_simp)
                      have c14_4_1 : w14.cell? ⟨w2.heap.size, 1, none⟩ = some (.int .i64 (Z.CrossingOf a b c d).1.2) := f14.cell_of (by go_simp)
                      have y14_4 : w2.heap.size < w14.heap.size := World.block_lt_of_cell? w14 _ c14_4_0
                      have c14_6_0 : w14.cell? ⟨w4.heap.size, 0, none⟩ = some (.int .i64 x.1) := f14.cell_of (by go_simp)
                      have c14_6_1 : w14.cell? ⟨w4.heap.size, 1, none⟩ = some (.int .i64 x.2) := f14.cell_of (by go_simp)
                      have y14_6 : w4.heap.size < w14.heap.size := World.block_lt_of_cell? w14 _ c14_6_0
                      have c14_7_0 : w14.cell? ⟨w4.heap.size + 1, 0, none⟩ = some (.int .i64 y.1) := f14.cell_of (by go_simp)
                      have c14_7_1 : w14.cell? ⟨w4.heap.size + 1, 1, none⟩ = some (.int .i64 y.2) := f14.cell_of (by go_simp)
                      have y14_7 : w4.heap.size + 1 < w14.heap.size := World.block_lt_of_cell? w14 _ c14_7_0
                      clear c13_0_0 c13_0_1 y13_0 c13_1_0 c13_1_1 y13_1 c13_2_0 c13_2_1 y13_2 c13_3_0 c13_3_1 y13_3 c13_4_0 c13_4_1 y13_4 c13_6_0 c13_6_1 y13_6 c13_7_0 c13_7_1 y13_7 F13 f14
                      generalize (Z.CrossingOf a b c d).1 = P at *
                      clear hN hlen
                      have mma : 2 * max (Z.area a b P) (-(Z.area a b P)) ≤ max (b.1 - a.1) (a.1 - b.1) + max (b.2 - a.2) (a.2 - b.2) + 1 := by omega
                      have wr1 : IntKind.i64.wrap (b.1 - a.1) = b.1 - a.1 := IntWalk.i64_in _ (by omega)
                      have wr2 : IntKind.i64.wrap (a.1 - b.1) = a.1 - b.1 := IntWalk.i64_in _ (by omega)
                      have wr3 : IntKind.i64.wrap (b.2 - a.2) = b.2 - a.2 := IntWalk.i64_in _ (by omega)
                      have wr4 : IntKind.i64.wrap (a.2 - b.2) = a.2 - b.2 := IntWalk.i64_in _ (by omega)
                      have wr5 : IntKind.i64.wrap (max (b.1 - a.1) (a.1 - b.1) + max (b.2 - a.2) (a.2 - b.2)) = max (b.1 - a.1) (a.1 - b.1) + max (b.2 - a.2) (a.2 - b.2) := IntWalk.i64_in _ (by omega)
                      have wr6 : IntKind.i64.wrap (max (b.1 - a.1) (a.1 - b.1) + max (b.2 - a.2) (a.2 - b.2) + 1) = max (b.1 - a.1) (a.1 - b.1) + max (b.2 - a.2) (a.2 - b.2) + 1 := IntWalk.i64_in _ (by omega)
                      have nba : -1000000 ≤ Z.area a b P ∧ Z.area a b P ≤ 1000000 := by omega
                      have wr7 : IntKind.i64.wrap (-(Z.area a b P)) = -(Z.area a b P) := IntWalk.i64_in _ (by omega)
                      have wr8 : IntKind.i64.wrap (2 * max (Z.area a b P) (-(Z.area a b P))) = 2 * max (Z.area a b P) (-(Z.area a b P)) := IntWalk.i64_in _ (by omega)
                      have mmc : 2 * max (Z.area c d P) (-(Z.area c d P)) ≤ max (d.1 - c.1) (c.1 - d.1) + max (d.2 - c.2) (c.2 - d.2) + 1 := by omega
                      have wr9 : IntKind.i64.wrap (d.1 - c.1) = d.1 - c.1 := IntWalk.i64_in _ (by omega)
                      have wr10 : IntKind.i64.wrap (c.1 - d.1) = c.1 - d.1 := IntWalk.i64_in _ (by omega)
                      have wr11 : IntKind.i64.wrap (d.2 - c.2) = d.2 - c.2 := IntWalk.i64_in _ (by omega)
                      have wr12 : IntKind.i64.wrap (c.2 - d.2) = c.2 - d.2 := IntWalk.i64_in _ (by omega)
                      have wr13 : IntKind.i64.wrap (max (d.1 - c.1) (c.1 - d.1) + max (d.2 - c.2) (c.2 - d.2)) = max (d.1 - c.1) (c.1 - d.1) + max (d.2 - c.2) (c.2 - d.2) := IntWalk.i64_in _ (by omega)
                      have wr14 : IntKind.i64.wrap (max (d.1 - c.1) (c.1 - d.1) + max (d.2 - c.2) (c.2 - d.2) + 1) = max (d.1 - c.1) (c.1 - d.1) + max (d.2 - c.2) (c.2 - d.2) + 1 := IntWalk.i64_in _ (by omega)
                      have nbc : -1000000 ≤ Z.area c d P ∧ Z.area c d P ≤ 1000000 := by omega
                      have wr15 : IntKind.i64.wrap (-(Z.area c d P)) = -(Z.area c d P) := IntWalk.i64_in _ (by omega)
                      have wr16 : IntKind.i64.wrap (2 * max (Z.area c d P) (-(Z.area c d P))) = 2 * max (Z.area c d P) (-(Z.area c d P)) := IntWalk.i64_in _ (by omega)
                      clear hC3 hC4 hC5 hC6 hC7
                      generalize Z.area a b P = A1 at *
                      generalize Z.area c d P = A2 at *
                      go_wp2_with fail
                      go_ret
                      exact ⟨rfl, (by repeat' (first | with_reducible exact F14 | with_reducible refine K.Ext.setCell ?_ ?_ _ | with_reducible refine K.Ext.alloc ?_ _ | with_reducible refine K.Ext.drew ?_ | (dsimp only; omega) | omega | (simp; omega)))⟩
                  go_wp2_with fail
                  go_ret
                  exact ⟨rfl, (by repeat' (first | with_reducible exact F12 | with_reducible refine K.Ext.setCell ?_ ?_ _ | with_reducible refine K.Ext.alloc ?_ _ | with_reducible refine K.Ext.drew ?_ | (dsimp only; omega) | omega | (simp; omega)))⟩
              · as_aux_lemma =>
                  go_wp2_with fail
                  refine K.call (by with_reducible rfl) (by with_reducible rfl) (impl_SquareBetween _ _ _) ?_
                  rintro e w12 ⟨rfl, f12⟩
                  have F12 : K.Ext w w12 := K.Ext.trans (by repeat' (first | with_reducible exact XR | with_reducible refine K.Ext.setCell ?_ ?_ _ | with_reducible refine K.Ext.alloc ?_ _ | with_reducible refine K.Ext.drew ?_ | (dsimp only; omega) | omega | (simp; omega))) f12
                  have c12_0_0 : w12.cell? ⟨w1.heap.size, 0, none⟩ = some (.int .i64 a.1) := f12.cell_of (by go_simp)
                  have c12_0_1 : w12.cell? ⟨w1.heap.size, 1, none⟩ = some (.int .i64 a.2) := f12.cell_of (by go_simp)
                  have y12_0 : w1.heap.size < w12.heap.size := World.block_lt_of_cell? w12 _ c12_0_0
                  have c12_1_0 : w12.cell? ⟨w1.heap.size + 1, 0, none⟩ = some (.int .i64 b.1) := f12.cell_of (by go_simp)
                  have c12_1_1 : w12.cell? ⟨w1.heap.size + 1, 1, none⟩ = some (.int .i64 b.2) := f12.cell_of (by go_simp)
                  have y12_1 : w1.heap.size + 1 < w12.heap.size := World.block_lt_of_cell? w12 _ c12_1_0
                  have c12_2_0 : w12.cell? ⟨w1.heap.size + 1 + 1, 0, none⟩ = some (.int .i64 c.1) := f12.cell_of (by go_simp)
                  have c12_2_1 : w12.cell? ⟨w1.heap.size + 1 + 1, 1, none⟩ = some (.int .i64 c.2) := f12.cell_of (by go_simp)
                  have y12_2 : w1.heap.size + 1 + 1 < w12.heap.size := World.block_lt_of_cell? w12 _ c12_2_0
                  have c12_3_0 : w12.cell? ⟨w1.heap.size + 1 + 1 + 1, 0, none⟩ = some (.int .i64 d.1) := f12.cell_of (by go_simp)
                  have c12_3_1 : w12.cell? ⟨w1.heap.size + 1 + 1 + 1, 1, none⟩ = some (.int .i64 d.2) := f12.cell_of (by go_simp)
                  have y12_3 : w1.heap.size + 1 + 1 + 1 < w12.heap.size := World.block_lt_of_cell? w12 _ c12_3_0
                  have c12_4_0 : w12.cell? ⟨w2.heap.size, 0, none⟩ = some (.int .i64 (Z.CrossingOf a b c d).1.1) := f12.cell_of (by go_simp)
                  have c12_4_1 : w12.cell? ⟨w2.heap.size, 1, none⟩ = some (.int .i64 (Z.CrossingOf a b c d).1.2) := f12.cell_of (by go_simp)
                  have y12_4 : w2.heap.size < w12.heap.size := World.block_lt_of_cell? w12 _ c12_4_0
                  have c12_6_0 : w12.cell? ⟨w4.heap.size, 0, none⟩ = some (.int .i64 x.1) := f12.cell_of (by go_simp)
                  have c12_6_1 : w12.cell? ⟨w4.heap.size, 1, none⟩ = some (.int .i64 x.2) := f12.cell_of (by go_simp)
                  have y12_6 : w4.heap.size < w12.heap.size := World.block_lt_of_cell? w12 _ c12_6_0
                  have c12_7_0 : w12.cell? ⟨w4.heap.size + 1, 0, none⟩ = some (.int .i64 y.1) := f12.cell_of (by go_simp)
                  have c12_7_1 : w12.cell? ⟨w4.heap.size + 1, 1, none⟩ = some (.int .i64 y.2) := f12.cell_of (by go_simp)
                  have y12_7 : w4.heap.size + 1 < w12.heap.size := World.block_lt_of_cell? w12 _ c12_7_0
                  have c12_8_0 : w12.cell? ⟨w7.heap.size, 0, none⟩ = some (.int .i64 u.1) := f12.cell_of (by go_simp)
                  have c12_8_1 : w12.cell? ⟨w7.heap.size, 1, none⟩ = some (.int .i64 u.2) := f12.cell_of (by go_simp)
                  have y12_8 : w7.heap.size < w12.heap.size := World.block_lt_of_cell? w12 _ c12_8_0
                  have c12_9_0 : w12.cell? ⟨w7.heap.size + 1, 0, none⟩ = some (.int .i64 t.1) := f12.cell_of (by go_simp)
                  have c12_9_1 : w12.cell? ⟨w7.heap.size + 1, 1, none⟩ = some (.int .i64 t.2) := f12.cell_of (by go_simp)
                  have y12_9 : w7.heap.size + 1 < w12.heap.size := World.block_lt_of_cell? w12 _ c12_9_0
                  have RR_12 := K.recs.ext (show K.recs false K.PtR _ 0 w4.heap.size (.slice lo_ ps.length cap_) ps from by with_reducible repeat' (first | exact RR | refine K.recs.alloc ?_ _ | refine K.recs.drew ?_ | refine K.recs.set (by decide) ?_ _ ?_ _ | (dsimp only; omega) | omega | (simp; done) | (simp; omega))) f12
                  clear cr_0_0 cr_0_1 yr_0 cr_1_0 cr_1_1 yr_1 cr_2_0 cr_2_1 yr_2 cr_3_0 cr_3_1 yr_3 cr_4_0 cr_4_1 yr_4 cr_6_0 cr_6_1 yr_6 cr_7_0 cr_7_1 yr_7 cr_8_0 cr_8_1 yr_8 cr_9_0 cr_9_1 yr_9 RR XR f12
                  by_cases hb : (Z.CrossingOf a b c d).2 = 0
                  · as_aux_lemma =>
                      obtain ⟨hC1, hC2, hC3, hC4, hC5, hC6, hC7⟩ := Z.crossings_law a b c d hb
                      go_wp2_with fail
                      refine K.call (by with_reducible rfl) (by with_reducible rfl) (impl_DoubleArea a b (Z.CrossingOf a b c d).1 _) ?_
                      rintro e w13 ⟨rfl, f13⟩
                      have F13 : K.Ext w w13 := K.Ext.trans (by repeat' (first | with_reducible exact F12 | with_reducible refine K.Ext.setCell ?_ ?_ _ | with_reducible refine K.Ext.alloc ?_ _ | with_reducible refine K.Ext.drew ?_ | (dsimp only; omega) | omega | (simp; omega))) f13
                      have c13_0_0 : w13.cell? ⟨w1.heap.size, 0, none⟩ = some (.int .i64 a.1) := f13.cell_of (by go_simp)
                      have c13_0_1 : w13.cell? ⟨w1.heap.size, 1, none⟩ = some (.int .i64 a.2) := f13.cell_of (by go_simp)
                      have y13_0 : w1.heap.size < w13.heap.size := World.block_lt_of_cell? w13 _ c13_0_0
                      have c13_1_0 : w13.cell? ⟨w1.heap.size + 1, 0, none⟩ = some (.int .i64 b.1) := f13.cell_of (by go_simp)
                      have c13_1_1 : w13.cell? ⟨w1.heap.size + 1, 1, none⟩ = some (.int .i64 b.2) := f13.cell_of (by go_simp)
                      have y13_1 : w1.heap.size + 1 < w13.heap.size := World.block_lt_of_cell? w13 _ c13_1_0
                      have c13_2_0 : w13.cell? ⟨w1.heap.size + 1 + 1, 0, none⟩ = some (.int .i64 c.1) := f13.cell_of (by go_simp)
                      have c13_2_1 : w13.cell? ⟨w1.heap.size + 1 + 1, 1, none⟩ = some (.int .i64 c.2) := f13.cell_of (by go_simp)
                      have y13_2 : w1.heap.size + 1 + 1 < w13.heap.size := World.block_lt_of_cell? w13 _ c13_2_0
                      have c13_3_0 : w13.cell? ⟨w1.heap.size + 1 + 1 + 1, 0, none⟩ = some (.int .i64 d.1) := f13.cell_of (by go_simp)
                      have c13_3_1 : w13.cell? ⟨w1.heap.size + 1 + 1 + 1, 1, none⟩ = some (.int .i64 d.2) := f13.cell_of (by go_simp)
                      have y13_3 : w1.heap.size + 1 + 1 + 1 < w13.heap.size := World.block_lt_of_cell? w13 _ c13_3_0
                      have c13_4_0 : w13.cell? ⟨w2.heap.size, 0, none⟩ = some (.int .i64 (Z.CrossingOf a b c d).1.1) := f13.cell_of (by go_simp)
                      have c13_4_1 : w13.cell? ⟨w2.heap.size, 1, none⟩ = some (.int .i64 (Z.CrossingOf a b c d).1.2) := f13.cell_of (by go_simp)
                      have y13_4 : w2.heap.size < w13.heap.size := World.block_lt_of_cell? w13 _ c13_4_0
                      have c13_6_0 : w13.cell? ⟨w4.heap.size, 0, none⟩ = some (.int .i64 x.1) := f13.cell_of (by go_simp)
                      have c13_6_1 : w13.cell? ⟨w4.heap.size, 1, none⟩ = some (.int .i64 x.2) := f13.cell_of (by go_simp)
                      have y13_6 : w4.heap.size < w13.heap.size := World.block_lt_of_cell? w13 _ c13_6_0
                      have c13_7_0 : w13.cell? ⟨w4.heap.size + 1, 0, none⟩ = some (.int .i64 y.1) := f13.cell_of (by go_simp)
                      have c13_7_1 : w13.cell? ⟨w4.heap.size + 1, 1, none⟩ = some (.int .i64 y.2) := f13.cell_of (by go_simp)
                      have y13_7 : w4.heap.size + 1 < w13.heap.size := World.block_lt_of_cell? w13 _ c13_7_0
                      clear c12_0_0 c12_0_1 y12_0 c12_1_0 c12_1_1 y12_1 c12_2_0 c12_2_1 y12_2 c12_3_0 c12_3_1 y12_3 c12_4_0 c12_4_1 y12_4 c12_6_0 c12_6_1 y12_6 c12_7_0 c12_7_1 y12_7 c12_8_0 c12_8_1 y12_8 c12_9_0 c12_9_1 y12_9 F12 f13
                      go_wp2_with fail
                      refine K.call (by with_reducible rfl) (by with_reducible rfl) (impl_DoubleArea c d (Z.CrossingOf a b c d).1 _) ?_
                      rintro e w14 ⟨rfl, f14⟩
                      have F14 : K.Ext w w14 := K.Ext.trans (by repeat' (first | with_reducible exact F13 | with_reducible refine K.Ext.setCell ?_ ?_ _ | with_reducible refine K.Ext.alloc ?_ _ | with_reducible refine K.Ext.drew ?_ | (dsimp only; omega) | omega | (simp; omega))) f14
                      have c14_0_0 : w14.cell? ⟨w1.heap.size, 0, none⟩ = some (.int .i64 a.1) := f14.cell_of (by go_simp)
                      have c14_0_1 : w14.cell? ⟨w1.heap.size, 1, none⟩ = some (.int .i64 a.2) := f14.cell_of (by go_simp)
                      have y14_0 : w1.heap.size < w14.heap.size := World.block_lt_of_cell? w14 _ c14_0_0
                      have c14_1_0 : w14.cell? ⟨w1.heap.size + 1, 0, none⟩ = some (.int .i64 b.1) := f14.cell_of (by go_simp)
                      have c14_1_1 : w14.cell? ⟨w1.heap.size + 1, 1, none⟩ = some (.int .i64 b.2) := f14.cell_of (by go_simp)
                      have y14_1 : w1.heap.size + 1 < w14.heap.size := World.block_lt_of_cell? w14 _ c14_1_0
                      have c14_2_0 : w14.cell? ⟨w1.heap.size + 1 + 1, 0, none⟩ = some (.int .i64 c.1) := f14.cell_of (by go_simp)
                      have c14_2_1 : w14.cell? ⟨w1.heap.size + 1 + 1, 1, none⟩ = some (.int .i64 c.2) := f14.cell_of (by go_simp)
                      have y14_2 : w1.heap.size + 1 + 1 < w14.heap.size := World.block_lt_of_cell? w14 _ c14_2_0
                      have c14_3_0 : w14.cell? ⟨w1.heap.size + 1 + 1 + 1, 0, none⟩ = some (.int .i64 d.1) := f14.cell_of (by go_simp)
                      have c14_3_1 : w14.cell? ⟨w1.heap.size + 1 + 1 + 1, 1, none⟩ = some (.int .i64 d.2) := f14.cell_of (by go_simp)
                      have y14_3 : w1.heap.size + 1 + 1 + 1 < w14.heap.size := World.block_lt_of_cell? w14 _ c14_3_0
                      have c14_4_0 : w14.cell? ⟨w2.heap.size, 0, none⟩ = some (.int .i64 (Z.CrossingOf a b c d).1.1) := f14.cell_of (by go_simp)
                      have c14_4_1 : w14.cell? ⟨w2.heap.size, 1, none⟩ = some (.int .i64 (Z.CrossingOf a b c d).1.2) := f14.cell_of (by go_simp)
                      have y14_4 : w2.heap.size < w14.heap.size := World.block_lt_of_cell? w14 _ c14_4_0
                      have c14_6_0 : w14.cell? ⟨w4.heap.size, 0, none⟩ = some (.int .i64 x.1) := f14.cell_of (by go_simp)
                      have c14_6_1 : w14.cell? ⟨w4.heap.size, 1, none⟩ = some (.int .i64 x.2) := f14.cell_of (by go_simp)
                      have y14_6 : w4.heap.size < w14.heap.size := World.block_lt_of_cell? w14 _ c14_6_0
                      have c14_7_0 : w14.cell? ⟨w4.heap.size + 1, 0, none⟩ = some (.int .i64 y.1) := f14.cell_of (by go_simp)
                      have c14_7_1 : w14.cell? ⟨w4.heap.size + 1, 1, none⟩ = some (.int .i64 y.2) := f14.cell_of (by go_simp)
                      have y14_7 : w4.heap.size + 1 < w14.heap.size := World.block_lt_of_cell? w14 _ c14_7_0
                      clear c13_0_0 c13_0_1 y13_0 c13_1_0 c13_1_1 y13_1 c13_2_0 c13_2_1 y13_2 c13_3_0 c13_3_1 y13_3 c13_4_0 c13_4_1 y13_4 c13_6_0 c13_6_1 y13_6 c13_7_0 c13_7_1 y13_7 F13 f14
                      generalize (Z.CrossingOf a b c d).1 = P at *
                      clear hN hlen
                      have mma : 2 * max (Z.area a b P) (-(Z.area a b P)) ≤ max (b.1 - a.1) (a.1 - b.1) + max (b.2 - a.2) (a.2 - b.2) + 1 := by omega
                      have wr1 : IntKind.i64.wrap (b.1 - a.1) = b.1 - a.1 := IntWalk.i64_in _ (by omega)
                      have wr2 : IntKind.i64.wrap (a.1 - b.1) = a.1 - b.1 := IntWalk.i64_in _ (by omega)
                      have wr3 : IntKind.i64.wrap (b.2 - a.2) = b.2 - a.2 := IntWalk.i64_in _ (by omega)
                      have wr4 : IntKind.i64.wrap (a.2 - b.2) = a.2 - b.2 := IntWalk.i64_in _ (by omega)
                      have wr5 : IntKind.i64.wrap (max (b.1 - a.1) (a.1 - b.1) + max (b.2 - a.2) (a.2 - b.2)) = max (b.1 - a.1) (a.1 - b.1) + max (b.2 - a.2) (a.2 - b.2) := IntWalk.i64_in _ (by omega)
                      have wr6 : IntKind.i64.wrap (max (b.1 - a.1) (a.1 - b.1) + max (b.2 - a.2) (a.2 - b.2) + 1) = max (b.1 - a.1) (a.1 - b.1) + max (b.2 - a.2) (a.2 - b.2) + 1 := IntWalk.i64_in _ (by omega)
                      have nba : -1000000 ≤ Z.area a b P ∧ Z.area a b P ≤ 1000000 := by omega
                      have wr7 : IntKind.i64.wrap (-(Z.area a b P)) = -(Z.area a b P) := IntWalk.i64_in _ (by omega)
                      have wr8 : IntKind.i64.wrap (2 * max (Z.area a b P) (-(Z.area a b P))) = 2 * max (Z.area a b P) (-(Z.area a b P)) := IntWalk.i64_in _ (by omega)
                      have mmc : 2 * max (Z.area c d P) (-(Z.area c d P)) ≤ max (d.1 - c.1) (c.1 - d.1) + max (d.2 - c.2) (c.2 - d.2) + 1 := by omega
                      have wr9 : IntKind.i64.wrap (d.1 - c.1) = d.1 - c.1 := IntWalk.i64_in _ (by omega)
                      have wr10 : IntKind.i64.wrap (c.1 - d.1) = c.1 - d.1 := IntWalk.i64_in _ (by omega)
                      have wr11 : IntKind.i64.wrap (d.2 - c.2) = d.2 - c.2 := IntWalk.i64_in _ (by omega)
                      have wr12 : IntKind.i64.wrap (c.2 - d.2) = c.2 - d.2 := IntWalk.i64_in _ (by omega)
                      have wr13 : IntKind.i64.wrap (max (d.1 - c.1) (c.1 - d.1) + max (d.2 - c.2) (c.2 - d.2)) = max (d.1 - c.1) (c.1 - d.1) + max (d.2 - c.2) (c.2 - d.2) := IntWalk.i64_in _ (by omega)
                      have wr14 : IntKind.i64.wrap (max (d.1 - c.1) (c.1 - d.1) + max (d.2 - c.2) (c.2 - d.2) + 1) = max (d.1 - c.1) (c.1 - d.1) + max (d.2 - c.2) (c.2 - d.2) + 1 := IntWalk.i64_in _ (by omega)
                      have nbc : -1000000 ≤ Z.area c d P ∧ Z.area c d P ≤ 1000000 := by omega
                      have wr15 : IntKind.i64.wrap (-(Z.area c d P)) = -(Z.area c d P) := IntWalk.i64_in _ (by omega)
                      have wr16 : IntKind.i64.wrap (2 * max (Z.area c d P) (-(Z.area c d P))) = 2 * max (Z.area c d P) (-(Z.area c d P)) := IntWalk.i64_in _ (by omega)
                      clear hC3 hC4 hC5 hC6 hC7
                      generalize Z.area a b P = A1 at *
                      generalize Z.area c d P = A2 at *
                      go_wp2_with fail
                      go_ret
                      exact ⟨rfl, (by repeat' (first | with_reducible exact F14 | with_reducible refine K.Ext.setCell ?_ ?_ _ | with_reducible refine K.Ext.alloc ?_ _ | with_reducible refine K.Ext.drew ?_ | (dsimp only; omega) | omega | (simp; omega)))⟩
                  go_wp2_with fail
                  go_ret
                  exact ⟨rfl, (by repeat' (first | with_reducible exact F12 | with_reducible refine K.Ext.setCell ?_ ?_ _ | with_reducible refine K.Ext.alloc ?_ _ | with_reducible refine K.Ext.drew ?_ | (dsimp only; omega) | omega | (simp; omega)))⟩
              · as_aux_lemma =>
                  go_wp2_with fail
                  refine K.call (by with_reducible rfl) (by with_reducible rfl) (impl_SquareBetween _ _ _) ?_
                  rintro e w12 ⟨rfl, f12⟩
                  have F12 : K.Ext w w12 := K.Ext.trans (by repeat' (first | with_reducible exact XR | with_reducible refine K.Ext.setCell ?_ ?_ _ | with_reducible refine K.Ext.alloc ?_ _ | with_reducible refine K.Ext.drew ?_ | (dsimp only; omega) | omega | (simp; omega))) f12
                  have c12_0_0 : w12.cell? ⟨w1.heap.size, 0, none⟩ = some (.int .i64 a.1) := f12.cell_of (by go_simp)
                  have c12_0_1 : w12.cell? ⟨w1.heap.size, 1, none⟩ = some (.int .i64 a.2) := f12.cell_of (by go_simp)
                  have y12_0 : w1.heap.size < w12.heap.size := World.block_lt_of_cell? w12 _ c12_0_0
                  have c12_1_0 : w12.cell? ⟨w1.heap.size + 1, 0, none⟩ = some (.int .i64 b.1) := f12.cell_of (by go_simp)
                  have c12_1_1 : w12.cell? ⟨w1.heap.size + 1, 1, none⟩ = some (.int .i64 b.2) := f12.cell_of (by go_simp)
                  have y12_1 : w1.heap.size + 1 < w12.heap.size := World.block_lt_of_cell? w12 _ c12_1_0
                  have c12_2_0 : w12.cell? ⟨w1.heap.size + 1 + 1, 0, none⟩ = some (.int .i64 c.1) := f12.cell_of (by go_simp)
                  have c12_2_1 : w12.cell? ⟨w1.heap.size + 1 + 1, 1, none⟩ = some (.int .i64 c.2) := f12.cell_of (by go_simp)
                  have y12_2 : w1.heap.size + 1 + 1 < w12.heap.size := World.block_lt_of_cell? w12 _ c12_2_0
                  have c12_3_0 : w12.cell? ⟨w1.heap.size + 1 + 1 + 1, 0, none⟩ = some (.int .i64 d.1) := f12.cell_of (by go_simp)
                  have c12_3_1 : w12.cell? ⟨w1.heap.size + 1 + 1 + 1, 1, none⟩ = some (.int .i64 d.2) := f12.cell_of (by go_simp)
                  have y12_3 : w1.heap.size + 1 + 1 + 1 < w12.heap.size := World.block_lt_of_cell? w12 _ c12_3_0
                  have c12_4_0 : w12.cell? ⟨w2.heap.size, 0, none⟩ = some (.int .i64 (Z.CrossingOf a b c d).1.1) := f12.cell_of (by go_simp)
                  have c12_4_1 : w12.cell? ⟨w2.heap.size, 1, none⟩ = some (.int .i64 (Z.CrossingOf a b c d).1.2) := f12.cell_of (by go_simp)
                  have y12_4 : w2.heap.size < w12.heap.size := World.block_lt_of_cell? w12 _ c12_4_0
                  have c12_6_0 : w12.cell? ⟨w4.heap.size, 0, none⟩ = some (.int .i64 x.1) := f12.cell_of (by go_simp)
                  have c12_6_1 : w12.cell? ⟨w4.heap.size, 1, none⟩ = some (.int .i64 x.2) := f12.cell_of (by go_simp)
                  have y12_6 : w4.heap.size < w12.heap.size := World.block_lt_of_cell? w12 _ c12_6_0
                  have c12_7_0 : w12.cell? ⟨w4.heap.size + 1, 0, none⟩ = some (.int .i64 y.1) := f12.cell_of (by go_simp)
                  have c12_7_1 : w12.cell? ⟨w4.heap.size + 1, 1, none⟩ = some (.int .i64 y.2) := f12.cell_of (by go_simp)
                  have y12_7 : w4.heap.size + 1 < w12.heap.size := World.block_lt_of_cell? w12 _ c12_7_0
                  have c12_8_0 : w12.cell? ⟨w7.heap.size, 0, none⟩ = some (.int .i64 u.1) := f12.cell_of (by go_simp)
                  have c12_8_1 : w12.cell? ⟨w7.heap.size, 1, none⟩ = some (.int .i64 u.2) := f12.cell_of (by go_simp)
                  have y12_8 : w7.heap.size < w12.heap.size := World.block_lt_of_cell? w12 _ c12_8_0
                  have c12_9_0 : w12.cell? ⟨w7.heap.size + 1, 0, none⟩ = some (.int .i64 t.1) := f12.cell_of (by go_simp)
                  have c12_9_1 : w12.cell? ⟨w7.heap.size + 1, 1, none⟩ = some (.int .i64 t.2) := f12.cell_of (by go_simp)
                  have y12_9 : w7.heap.size + 1 < w12.heap.size := World.block_lt_of_cell? w12 _ c12_9_0
                  have RR_12 := K.recs.ext (show K.recs false K.PtR _ 0 w4.heap.size (.slice lo_ ps.length cap_) ps from by with_reducible repeat' (first | exact RR | refine K.recs.alloc ?_ _ | refine K.recs.drew ?_ | refine K.recs.set (by decide) ?_ _ ?_ _ | (dsimp only; omega) | omega | (simp; done) | (simp; omega))) f12
                  clear cr_0_0 cr_0_1 yr_0 cr_1_0 cr_1_1 yr_1 cr_2_0 cr_2_1 yr_2 cr_3_0 cr_3_1 yr_3 cr_4_0 cr_4_1 yr_4 cr_6_0 cr_6_1 yr_6 cr_7_0 cr_7_1 yr_7 cr_8_0 cr_8_1 yr_8 cr_9_0 cr_9_1 yr_9 RR XR f12
                  by_cases hb : (Z.CrossingOf a b c d).2 = 0
                  · as_aux_lemma =>
                      obtain ⟨hC1, hC2, hC3, hC4, hC5, hC6, hC7⟩ := Z.crossings_law a b c d hb
                      go_wp2_with fail
                      refine K.call (by with_reducible rfl) (by with_reducible rfl) (impl_DoubleArea a b (Z.CrossingOf a b c d).1 _) ?_
                      rintro e w13 ⟨rfl, f13⟩
                      have F13 : K.Ext w w13 := K.Ext.trans (by repeat' (first | with_reducible exact F12 | with_reducible refine K.Ext.setCell ?_ ?_ _ | with_reducible refine K.Ext.alloc ?_ _ | with_reducible refine K.Ext.drew ?_ | (dsimp only; omega) | omega | (simp; omega))) f13
                      have c13_0_0 : w13.cell? ⟨w1.heap.size, 0, none⟩ = some (.int .i64 a.1) := f13.cell_of (by go_simp)
                      have c13_0_1 : w13.cell? ⟨w1.heap.size, 1, none⟩ = some (.int .i64 a.2) := f13.cell_of (by go_simp)
                      have y13_0 : w1.heap.size < w13.heap.size := World.block_lt_of_cell? w13 _ c13_0_0
                      have c13_1_0 : w13.cell? ⟨w1.heap.size + 1, 0, none⟩ = some (.int .i64 b.1) := f13.cell_of (by go_simp)
                      have c13_1_1 : w13.cell? ⟨w1.heap.size + 1, 1, none⟩ = some (.int .i64 b.2) := f13.cell_of (by go_simp)
                      have y13_1 : w1.heap.size + 1 < w13.heap.size := World.block_lt_of_cell? w13 _ c13_1_0
                      have c13_2_0 : w13.cell? ⟨w1.heap.size + 1 + 1, 0, none⟩ = some (.int .i64 c.1) := f13.cell_of (by go_simp)
                      have c13_2_1 : w13.cell? ⟨w1.heap.size + 1 + 1, 1, none⟩ = some (.int .i64 c.2) := f13.cell_of (by go_simp)
                      have y13_2 : w1.heap.size + 1 + 1 < w13.heap.size := World.block_lt_of_cell? w13 _ c13_2_0
                      have c13_3_0 : w13.cell? ⟨w1.heap.size + 1 + 1 + 1, 0, none⟩ = some (.int .i64 d.1) := f13.cell_of (by go_simp)
                      have c13_3_1 : w13.cell? ⟨w1.heap.size + 1 + 1 + 1, 1, none⟩ = some (.int .i64 d.2) := f13.cell_of (by go_simp)
                      have y13_3 : w1.heap.size + 1 + 1 + 1 < w13.heap.size := World.block_lt_of_cell? w13 _ c13_3_0
                      have c13_4_0 : w13.cell? ⟨w2.heap.size, 0, none⟩ = some (.int .i64 (Z.CrossingOf a b c d).1.1) := f13.cell_of (by go_simp)
                      have c13_4_1 : w13.cell? ⟨w2.heap.size, 1, none⟩ = some (.int .i64 (Z.CrossingOf a b c d).1.2) := f13.cell_of (by go_simp)
                      have y13_4 : w2.heap.size < w13.heap.size := World.block_lt_of_cell? w13 _ c13_4_0
                      have c13_6_0 : w13.cell? ⟨w4.heap.size, 0, none⟩ = some (.int .i64 x.1) := f13.cell_of (by go_simp)
                      have c13_6_1 : w13.cell? ⟨w4.heap.size, 1, none⟩ = some (.int .i64 x.2) := f13.cell_of (by go_simp)
                      have y13_6 : w4.heap.size < w13.heap.size := World.block_lt_of_cell? w13 _ c13_6_0
                      have c13_7_0 : w13.cell? ⟨w4.heap.size + 1, 0, none⟩ = some (.int .i64 y.1) := f13.cell_of (by go_simp)
                      have c13_7_1 : w13.cell? ⟨w4.heap.size + 1, 1, none⟩ = some (.int .i64 y.2) := f13.cell_of (by go_simp)
                      have y13_7 : w4.heap.size + 1 < w13.heap.size := World.block_lt_of_cell? w13 _ c13_7_0
                      clear c12_0_0 c12_0_1 y12_0 c12_1_0 c12_1_1 y12_1 c12_2_0 c12_2_1 y12_2 c12_3_0 c12_3_1 y12_3 c12_4_0 c12_4_1 y12_4 c12_6_0 c12_6_1 y12_6 c12_7_0 c12_7_1 y12_7 c12_8_0 c12_8_1 y12_8 c12_9_0 c12_9_1 y12_9 F12 f13
                      go_wp2_with fail
                      refine K.call (by with_reducible rfl) (by with_reducible rfl) (impl_DoubleArea c d (Z.CrossingOf a b c d).1 _) ?_
                      rintro e w14 ⟨rfl, f14⟩
                      have F14 : K.Ext w w14 := K.Ext.trans (by repeat' (first | with_reducible exact F13 | with_reducible refine K.Ext.setCell ?_ ?_ _ | with_reducible refine K.Ext.alloc ?_ _ | with_reducible refine K.Ext.drew ?_ | (dsimp only; omega) | omega | (simp; omega))) f14
                      have c14_0_0 : w14.cell? ⟨w1.heap.size, 0, none⟩ = some (.int .i64 a.1) := f14.cell_of (by go_simp)
                      have c14_0_1 : w14.cell? ⟨w1.heap.size, 1, none⟩ = some (.int .i64 a.2) := f14.cell_of (by go_simp)
                      have y14_0 : w1.heap.size < w14.heap.size := World.block_lt_of_cell? w14 _ c14_0_0
                      have c14_1_0 : w14.cell? ⟨w1.heap.size + 1, 0, none⟩ = some (.int .i64 b.1) := f14.cell_of (by go_simp)
                      have c14_1_1 : w14.cell? ⟨w1.heap.size + 1, 1, none⟩ = some (.int .i64 b.2) := f14.cell_of (by go_simp)
                      have y14_1 : w1.heap.size + 1 < w14.heap.size := World.block_lt_of_cell? w14 _ c14_1_0
                      have c14_2_0 : w14.cell? ⟨w1.heap.size + 1 + 1, 0, none⟩ = some (.int .i64 c.1) := f14.cell_of (by go_simp)
                      have c14_2_1 : w14.cell? ⟨w1.heap.size + 1 + 1, 1, none⟩ = some (.int .i64 c.2) := f14.cell_of (by go_simp)
                      have y14_2 : w1.heap.size + 1 + 1 < w14.heap.size := World.block_lt_of_cell? w14 _ c14_2_0
                      have c14_3_0 : w14.cell? ⟨w1.heap.size + 1 + 1 + 1, 0, none⟩ = some (.int .i64 d.1) := f14.cell_of (by go_simp)
                      have c14_3_1 : w14.cell? ⟨w1.heap.size + 1 + 1 + 1, 1, none⟩ = some (.int .i64 d.2) := f14.cell_of (by go_simp)
                      have y14_3 : w1.heap.size + 1 + 1 + 1 < w14.heap.size := World.block_lt_of_cell? w14 _ c14_3_0
                      have c14_4_0 : w14.cell? ⟨w2.heap.size, 0, none⟩ = some (.int .i64 (Z.CrossingOf a b c d).1.1) := f14.cell_of (by go_simp)
                      have c14_4_1 : w14.cell? ⟨w2.heap.size, 1, none⟩ = some (.int .i64 (Z.CrossingOf a b c d).1.2) := f14.cell_of (by go_simp)
                      have y14_4 : w2.heap.size < w14.heap.size := World.block_lt_of_cell? w14 _ c14_4_0
                      have c14_6_0 : w14.cell? ⟨w4.heap.size, 0, none⟩ = some (.int .i64 x.1) := f14.cell_of (by go_simp)
                      have c14_6_1 : w14.cell? ⟨w4.heap.size, 1, none⟩ = some (.int .i64 x.2) := f14.cell_of (by go_simp)
                      have y14_6 : w4.heap.size < w14.heap.size := World.block_lt_of_cell? w14 _ c14_6_0
                      have c14_7_0 : w14.cell? ⟨w4.heap.size + 1, 0, none⟩ = some (.int .i64 y.1) := f14.cell_of (by go_simp)
                      have c14_7_1 : w14.cell? ⟨w4.heap.size + 1, 1, none⟩ = some (.int .i64 y.2) := f14.cell_of (by go_simp)
                      have y14_7 : w4.heap.size + 1 < w14.heap.size := World.block_lt_of_cell? w14 _ c14_7_0
                      clear c13_0_0 c13_0_1 y13_0 c13_1_0 c13_1_1 y13_1 c13_2_0 c13_2_1 y13_2 c13_3_0 c13_3_1 y13_3 c13_4_0 c13_4_1 y13_4 c13_6_0 c13_6_1 y13_6 c13_7_0 c13_7_1 y13_7 F13 f14
                      generalize (Z.CrossingOf a b c d).1 = P at *
                      clear hN hlen
                      have mma : 2 * max (Z.area a b P) (-(Z.area a b P)) ≤ max (b.1 - a.1) (a.1 - b.1) + max (b.2 - a.2) (a.2 - b.2) + 1 := by omega
                      have wr1 : IntKind.i64.wrap (b.1 - a.1) = b.1 - a.1 := IntWalk.i64_in _ (by omega)
                      have wr2 : IntKind.i64.wrap (a.1 - b.1) = a.1 - b.1 := IntWalk.i64_in _ (by omega)
                      have wr3 : IntKind.i64.wrap (b.2 - a.2) = b.2 - a.2 := IntWalk.i64_in _ (by omega)
                      have wr4 : IntKind.i64.wrap (a.2 - b.2) = a.2 - b.2 := IntWalk.i64_in _ (by omega)
                      have wr5 : IntKind.i64.wrap (max (b.1 - a.1) (a.1 - b.1) + max (b.2 - a.2) (a.2 - b.2)) = max (b.1 - a.1) (a.1 - b.1) + max (b.2 - a.2) (a.2 - b.2) := IntWalk.i64_in _ (by omega)
                      have wr6 : IntKind.i64.wrap (max (b.1 - a.1) (a.1 - b.1) + max (b.2 - a.2) (a.2 - b.2) + 1) = max (b.1 - a.1) (a.1 - b.1) + max (b.2 - a.2) (a.2 - b.2) + 1 := IntWalk.i64_in _ (by omega)
                      have nba : -1000000 ≤ Z.area a b P ∧ Z.area a b P ≤ 1000000 := by omega
                      have wr7 : IntKind.i64.wrap (-(Z.area a b P)) = -(Z.area a b P) := IntWalk.i64_in _ (by omega)
                      have wr8 : IntKind.i64.wrap (2 * max (Z.area a b P) (-(Z.area a b P))) = 2 * max (Z.area a b P) (-(Z.area a b P)) := IntWalk.i64_in _ (by omega)
                      have mmc : 2 * max (Z.area c d P) (-(Z.area c d P)) ≤ max (d.1 - c.1) (c.1 - d.1) + max (d.2 - c.2) (c.2 - d.2) + 1 := by omega
                      have wr9 : IntKind.i64.wrap (d.1 - c.1) = d.1 - c.1 := IntWalk.i64_in _ (by omega)
                      have wr10 : IntKind.i64.wrap (c.1 - d.1) = c.1 - d.1 := IntWalk.i64_in _ (by omega)
                      have wr11 : IntKind.i64.wrap (d.2 - c.2) = d.2 - c.2 := IntWalk.i64_in _ (by omega)
                      have wr12 : IntKind.i64.wrap (c.2 - d.2) = c.2 - d.2 := IntWalk.i64_in _ (by omega)
                      have wr13 : IntKind.i64.wrap (max (d.1 - c.1) (c.1 - d.1) + max (d.2 - c.2) (c.2 - d.2)) = max (d.1 - c.1) (c.1 - d.1) + max (d.2 - c.2) (c.2 - d.2) := IntWalk.i64_in _ (by omega)
                      have wr14 : IntKind.i64.wrap (max (d.1 - c.1) (c.1 - d.1) + max (d.2 - c.2) (c.2 - d.2) + 1) = max (d.1 - c.1) (c.1 - d.1) + max (d.2 - c.2) (c.2 - d.2) + 1 := IntWalk.i64_in _ (by omega)
                      have nbc : -1000000 ≤ Z.area c d P ∧ Z.area c d P ≤ 1000000 := by omega
                      have wr15 : IntKind.i64.wrap (-(Z.area c d P)) = -(Z.area c d P) := IntWalk.i64_in _ (by omega)
                      have wr16 : IntKind.i64.wrap (2 * max (Z.area c d P) (-(Z.area c d P))) = 2 * max (Z.area c d P) (-(Z.area c d P)) := IntWalk.i64_in _ (by omega)
                      clear hC3 hC4 hC5 hC6 hC7
                      generalize Z.area a b P = A1 at *
                      generalize Z.area c d P = A2 at *
                      go_wp2_with fail
                      go_ret
                      exact ⟨rfl, (by repeat' (first | with_reducible exact F14 | with_reducible refine K.Ext.setCell ?_ ?_ _ | with_reducible refine K.Ext.alloc ?_ _ | with_reducible refine K.Ext.drew ?_ | (dsimp only; omega) | omega | (simp; omega)))⟩
                  go_wp2_with fail
                  go_ret
                  exact ⟨rfl, (by repeat' (first | with_reducible exact F12 | with_reducible refine K.Ext.setCell ?_ ?_ _ | with_reducible refine K.Ext.alloc ?_ _ | with_reducible refine K.Ext.drew ?_ | (dsimp only; omega) | omega | (simp; omega)))⟩
            as_aux_lemma =>
              by_cases hb : (Z.CrossingOf a b c d).2 = 0
              · as_aux_lemma =>
                  obtain ⟨hC1, hC2, hC3, hC4, hC5, hC6, hC7⟩ := Z.crossings_law a b c d hb
                  go_wp2_with fail
                  refine K.call (by with_reducible rfl) (by with_reducible rfl) (impl_DoubleArea a b (Z.CrossingOf a b c d).1 _) ?_
                  rintro e w12 ⟨rfl, f12⟩
                  have F12 : K.Ext w w12 := K.Ext.trans (by repeat' (first | with_reducible exact XR | with_reducible refine K.Ext.setCell ?_ ?_ _ | with_reducible refine K.Ext.alloc ?_ _ | with_reducible refine K.Ext.drew ?_ | (dsimp only; omega) | omega | (simp; omega))) f12
                  have c12_0_0 : w12.cell? ⟨w1.heap.size, 0, none⟩ = some (.int .i64 a.1) := f12.cell_of (by go_simp)
                  have c12_0_1 : w12.cell? ⟨w1.heap.size, 1, none⟩ = some (.int .i64 a.2) := f12.cell_of (by go_simp)
                  have y12_0 : w1.heap.size < w12.heap.size := World.block_lt_of_cell? w12 _ c12_0_0
                  have c12_1_0 : w12.cell? ⟨w1.heap.size + 1, 0, none⟩ = some (.int .i64 b.1) := f12.cell_of (by go_simp)
                  have c12_1_1 : w12.cell? ⟨w1.heap.size + 1, 1, none⟩ = some (.int .i64 b.2) := f12.cell_of (by go_simp)
                  have y12_1 : w1.heap.size + 1 < w12.heap.size := World.block_lt_of_cell? w12 _ c12_1_0
                  have c12_2_0 : w12.cell? ⟨w1.heap.size + 1 + 1, 0, none⟩ = some (.int .i64 c.1) := f12.cell_of (by go_simp)
                  have c12_2_1 : w12.cell? ⟨w1.heap.size + 1 + 1, 1, none⟩ = some (.int .i64 c.2) := f12.cell_of (by go_simp)
                  have y12_2 : w1.heap.size + 1 + 1 < w12.heap.size := World.block_lt_of_cell? w12 _ c12_2_0
                  have c12_3_0 : w12.cell? ⟨w1.heap.size + 1 + 1 + 1, 0, none⟩ = some (.int .i64 d.1) := f12.cell_of (by go_simp)
                  have c12_3_1 : w12.cell? ⟨w1.heap.size + 1 + 1 + 1, 1, none⟩ = some (.int .i64 d.2) := f12.cell_of (by go_simp)
                  have y12_3 : w1.heap.size + 1 + 1 + 1 < w12.heap.size := World.block_lt_of_cell? w12 _ c12_3_0
                  have c12_4_0 : w12.cell? ⟨w2.heap.size, 0, none⟩ = some (.int .i64 (Z.CrossingOf a b c d).1.1) := f12.cell_of (by go_simp)
                  have c12_4_1 : w12.cell? ⟨w2.heap.size, 1, none⟩ = some (.int .i64 (Z.CrossingOf a b c d).1.2) := f12.cell_of (by go_simp)
                  have y12_4 : w2.heap.size < w12.heap.size := World.block_lt_of_cell? w12 _ c12_4_0
                  have c12_6_0 : w12.cell? ⟨w4.heap.size, 0, none⟩ = some (.int .i64 x.1) := f12.cell_of (by go_simp)
                  have c12_6_1 : w12.cell? ⟨w4.heap.size, 1, none⟩ = some (.int .i64 x.2) := f12.cell_of (by go_simp)
                  have y12_6 : w4.heap.size < w12.heap.size := World.block_lt_of_cell? w12 _ c12_6_0
                  have c12_7_0 : w12.cell? ⟨w4.heap.size + 1, 0, none⟩ = some (.int .i64 y.1) := f12.cell_of (by go_simp)
                  have c12_7_1 : w12.cell? ⟨w4.heap.size + 1, 1, none⟩ = some (.int .i64 y.2) := f12.cell_of (by go_simp)
                  have y12_7 : w4.heap.size + 1 < w12.heap.size := World.block_lt_of_cell? w12 _ c12_7_0
                  clear cr_0_0 cr_0_1 yr_0 cr_1_0 cr_1_1 yr_1 cr_2_0 cr_2_1 yr_2 cr_3_0 cr_3_1 yr_3 cr_4_0 cr_4_1 yr_4 cr_6_0 cr_6_1 yr_6 cr_7_0 cr_7_1 yr_7 cr_8_0 cr_8_1 yr_8 cr_9_0 cr_9_1 yr_9 XR f12
                  go_wp2_with fail
                  refine K.call (by with_reducible rfl) (by with_reducible rfl) (impl_DoubleArea c d (Z.CrossingOf a b c d).1 _) ?_
                  rintro e w13 ⟨rfl, f13⟩
                  have F13 : K.Ext w w13 := K.Ext.trans (by repeat' (first | with_reducible exact F12 | with_reducible refine K.Ext.setCell ?_ ?_ _ | with_reducible refine K.Ext.alloc ?_ _ | with_reducible refine K.Ext.drew ?_ | (dsimp only; omega) | omega | (simp; omega))) f13
                  have c13_0_0 : w13.cell? ⟨w1.heap.size, 0, none⟩ = some (.int .i64 a.1) := f13.cell_of (by go_simp)
                  have c13_0_1 : w13.cell? ⟨w1.heap.size, 1, none⟩ = some (.int .i64 a.2) := f13.cell_of (by go_simp)
                  have y13_0 : w1.heap.size < w13.heap.size := World.block_lt_of_cell? w13 _ c13_0_0
                  have c13_1_0 : w13.cell? ⟨w1.heap.size + 1, 0, none⟩ = some (.int .i64 b.1) := f13.cell_of (by go_simp)
                  have c13_1_1 : w13.cell? ⟨w1.heap.size + 1, 1, none⟩ = some (.int .i64 b.2) := f13.cell_of (by go_simp)
                  have y13_1 : w1.heap.size + 1 < w13.heap.size := World.block_lt_of_cell? w13 _ c13_1_0
                  have c13_2_0 : w13.cell? ⟨w1.heap.size + 1 + 1, 0, none⟩ = some (.int .i64 c.1) := f13.cell_of (by go_simp)
                  have c13_2_1 : w13.cell? ⟨w1.heap.size + 1 + 1, 1, none⟩ = some (.int .i64 c.2) := f13.cell_of (by go_simp)
                  have y13_2 : w1.heap.size + 1 + 1 < w13.heap.size := World.block_lt_of_cell? w13 _ c13_2_0
                  have c13_3_0 : w13.cell? ⟨w1.heap.size + 1 + 1 + 1, 0, none⟩ = some (.int .i64 d.1) := f13.cell_of (by go_simp)
                  have c13_3_1 : w13.cell? ⟨w1.heap.size + 1 + 1 + 1, 1, none⟩ = some (.int .i64 d.2) := f13.cell_of (by go_simp)
                  have y13_3 : w1.heap.size + 1 + 1 + 1 < w13.heap.size := World.block_lt_of_cell? w13 _ c13_3_0
                  have c13_4_0 : w13.cell? ⟨w2.heap.size, 0, none⟩ = some (.int .i64 (Z.CrossingOf a b c d).1.1) := f13.cell_of (by go_simp)
                  have c13_4_1 : w13.cell? ⟨w2.heap.size, 1, none⟩ = some (.int .i64 (Z.CrossingOf a b c d).1.2) := f13.cell_of (by go_simp)
                  have y13_4 : w2.heap.size < w13.heap.size := World.block_lt_of_cell? w13 _ c13_4_0
                  have c13_6_0 : w13.cell? ⟨w4.heap.size, 0, none⟩ = some (.int .i64 x.1) := f13.cell_of (by go_simp)
                  have c13_6_1 : w13.cell? ⟨w4.heap.size, 1, none⟩ = some (.int .i64 x.2) := f13.cell_of (by go_simp)
                  have y13_6 : w4.heap.size < w13.heap.size := World.block_lt_of_cell? w13 _ c13_6_0
                  have c13_7_0 : w13.cell? ⟨w4.heap.size + 1, 0, none⟩ = some (.int .i64 y.1) := f13.cell_of (by go_simp)
                  have c13_7_1 : w13.cell? ⟨w4.heap.size + 1, 1, none⟩ = some (.int .i64 y.2) := f13.cell_of (by go_simp)
                  have y13_7 : w4.heap.size + 1 < w13.heap.size := World.block_lt_of_cell? w13 _ c13_7_0
                  clear c12_0_0 c12_0_1 y12_0 c12_1_0 c12_1_1 y12_1 c12_2_0 c12_2_1 y12_2 c12_3_0 c12_3_1 y12_3 c12_4_0 c12_4_1 y12_4 c12_6_0 c12_6_1 y12_6 c12_7_0 c12_7_1 y12_7 F12 f13
                  generalize (Z.CrossingOf a b c d).1 = P at *
                  clear hN hlen
                  have mma : 2 * max (Z.area a b P) (-(Z.area a b P)) ≤ max (b.1 - a.1) (a.1 - b.1) + max (b.2 - a.2) (a.2 - b.2) + 1 := by omega
                  have wr1 : IntKind.i64.wrap (b.1 - a.1) = b.1 - a.1 := IntWalk.i64_in _ (by omega)
                  have wr2 : IntKind.i64.wrap (a.1 - b.1) = a.1 - b.1 := IntWalk.i64_in _ (by omega)
                  have wr3 : IntKind.i64.wrap (b.2 - a.2) = b.2 - a.2 := IntWalk.i64_in _ (by omega)
                  have wr4 : IntKind.i64.wrap (a.2 - b.2) = a.2 - b.2 := IntWalk.i64_in _ (by omega)
                  have wr5 : IntKind.i64.wrap (max (b.1 - a.1) (a.1 - b.1) + max (b.2 - a.2) (a.2 - b.2)) = max (b.1 - a.1) (a.1 - b.1) + max (b.2 - a.2) (a.2 - b.2) := IntWalk.i64_in _ (by omega)
                  have wr6 : IntKind.i64.wrap (max (b.1 - a.1) (a.1 - b.1) + max (b.2 - a.2) (a.2 - b.2) + 1) = max (b.1 - a.1) (a.1 - b.1) + max (b.2 - a.2) (a.2 - b.2) + 1 := IntWalk.i64_in _ (by omega)
                  have nba : -1000000 ≤ Z.area a b P ∧ Z.area a b P ≤ 1000000 := by omega
                  have wr7 : IntKind.i64.wrap (-(Z.area a b P)) = -(Z.area a b P) := IntWalk.i64_in _ (by omega)
                  have wr8 : IntKind.i64.wrap (2 * max (Z.area a b P) (-(Z.area a b P))) = 2 * max (Z.area a b P) (-(Z.area a b P)) := IntWalk.i64_in _ (by omega)
                  have mmc : 2 * max (Z.area c d P) (-(Z.area c d P)) ≤ max (d.1 - c.1) (c.1 - d.1) + max (d.2 - c.2) (c.2 - d.2) + 1 := by omega
                  have wr9 : IntKind.i64.wrap (d.1 - c.1) = d.1 - c.1 := IntWalk.i64_in _ (by omega)
                  have wr10 : IntKind.i64.wrap (c.1 - d.1) = c.1 - d.1 := IntWalk.i64_in _ (by omega)
                  have wr11 : IntKind.i64.wrap (d.2 - c.2) = d.2 - c.2 := IntWalk.i64_in _ (by omega)
                  have wr12 : IntKind.i64.wrap (c.2 - d.2) = c.2 - d.2 := IntWalk.i64_in _ (by omega)
                  have wr13 : IntKind.i64.wrap (max (d.1 - c.1) (c.1 - d.1) + max (d.2 - c.2) (c.2 - d.2)) = max (d.1 - c.1) (c.1 - d.1) + max (d.2 - c.2) (c.2 - d.2) := IntWalk.i64_in _ (by omega)
                  have wr14 : IntKind.i64.wrap (max (d.1 - c.1) (c.1 - d.1) + max (d.2 - c.2) (c.2 - d.2) + 1) = max (d.1 - c.1) (c.1 - d.1) + max (d.2 - c.2) (c.2 - d.2) + 1 := IntWalk.i64_in _ (by omega)
                  have nbc : -1000000 ≤ Z.area c d P ∧ Z.area c d P ≤ 1000000 := by omega
                  have wr15 : IntKind.i64.wrap (-(Z.area c d P)) = -(Z.area c d P) := IntWalk.i64_in _ (by omega)
                  have wr16 : IntKind.i64.wrap (2 * max (Z.area c d P) (-(Z.area c d P))) = 2 * max (Z.area c d P) (-(Z.area c d P)) := IntWalk.i64_in _ (by omega)
                  clear hC3 hC4 hC5 hC6 hC7
                  generalize Z.area a b P = A1 at *
                  generalize Z.area c d P = A2 at *
                  go_wp2_with fail
                  go_ret
                  exact ⟨rfl, (by repeat' (first | with_reducible exact F13 | with_reducible refine K.Ext.setCell ?_ ?_ _ | with_reducible refine K.Ext.alloc ?_ _ | with_reducible refine K.Ext.drew ?_ | (dsimp only; omega) | omega | (simp; omega)))⟩
              go_wp2_with fail
              go_ret
              exact ⟨rfl, (by repeat' (first | with_reducible exact XR | with_reducible refine K.Ext.setCell ?_ ?_ _ | with_reducible refine K.Ext.alloc ?_ _ | with_reducible refine K.Ext.drew ?_ | (dsimp only; omega) | omega | (simp; omega)))⟩
  as_aux_lemma =>
    obtain ⟨N1, N2, hN⟩ : ∃ a b, Z.NearestInLine x y ps = (a, b) := ⟨_, _, rfl⟩
    rw [hN] at h1
    dsimp only at h1
    have h1' : (N2 == 0) = false := by simpa using h1
    go_wp2_with fail
    refine K.call (by with_reducible rfl) (by with_reducible rfl) (impl_Near x y ps hN _ (by omega) (show K.recs false K.PtR _ 0 w4.heap.size (.slice lo_ ps.length cap_) ps from by with_reducible repeat' (first | exact R_4 | refine K.recs.alloc ?_ _ | refine K.recs.drew ?_ | refine K.recs.set (by decide) ?_ _ ?_ _ | (dsimp only; omega) | omega | (simp; done) | (simp; omega)))) ?_
    rintro e w5 ⟨rfl, f5⟩
    have u5_0_1 : w1.heap.size < w4.heap.size + 1 := (by omega)
    have u5_0_2 : w1.heap.size < w4.heap.size + 1 + 1 := (by omega)
    have u5_1_1 : w1.heap.size + 1 < w4.heap.size + 1 := (by omega)
    have u5_1_2 : w1.heap.size + 1 < w4.heap.size + 1 + 1 := (by omega)
    have u5_2_1 : w1.heap.size + 1 + 1 < w4.heap.size + 1 := (by omega)
    have u5_2_2 : w1.heap.size + 1 + 1 < w4.heap.size + 1 + 1 := (by omega)
    have u5_3_1 : w1.heap.size + 1 + 1 + 1 < w4.heap.size + 1 := (by omega)
    have u5_3_2 : w1.heap.size + 1 + 1 + 1 < w4.heap.size + 1 + 1 := (by omega)
    have u5_4_1 : w2.heap.size < w4.heap.size + 1 := (by omega)
    have u5_4_2 : w2.heap.size < w4.heap.size + 1 + 1 := (by omega)
    have u5_5_1 : w3.heap.size < w4.heap.size + 1 := (by omega)
    have u5_5_2 : w3.heap.size < w4.heap.size + 1 + 1 := (by omega)
    have F5 : K.Ext w w5 := K.Ext.trans (by repeat' (first | with_reducible exact F4 | with_reducible refine K.Ext.setCell ?_ ?_ _ | with_reducible refine K.Ext.alloc ?_ _ | with_reducible refine K.Ext.drew ?_ | (dsimp only; omega) | omega | (simp; omega))) f5
    have c5_0_0 : w5.cell? ⟨w1.heap.size, 0, none⟩ = some (.int .i64 a.1) := f5.cell_of (by go_simp)
    have c5_0_1 : w5.cell? ⟨w1.heap.size, 1, none⟩ = some (.int .i64 a.2) := f5.cell_of (by go_simp)
    have y5_0 : w1.heap.size < w5.heap.size := World.block_lt_of_cell? w5 _ c5_0_0
    have c5_1_0 : w5.cell? ⟨w1.heap.size + 1, 0, none⟩ = some (.int .i64 b.1) := f5.cell_of (by go_simp)
    have c5_1_1 : w5.cell? ⟨w1.heap.size + 1, 1, none⟩ = some (.int .i64 b.2) := f5.cell_of (by go_simp)
    have y5_1 : w1.heap.size + 1 < w5.heap.size := World.block_lt_of_cell? w5 _ c5_1_0
    have c5_2_0 : w5.cell? ⟨w1.heap.size + 1 + 1, 0, none⟩ = some (.int .i64 c.1) := f5.cell_of (by go_simp)
    have c5_2_1 : w5.cell? ⟨w1.heap.size + 1 + 1, 1, none⟩ = some (.int .i64 c.2) := f5.cell_of (by go_simp)
    have y5_2 : w1.heap.size + 1 + 1 < w5.heap.size := World.block_lt_of_cell? w5 _ c5_2_0
    have c5_3_0 : w5.cell? ⟨w1.heap.size + 1 + 1 + 1, 0, none⟩ = some (.int .i64 d.1) := f5.cell_of (by go_simp)
    have c5_3_1 : w5.cell? ⟨w1.heap.size + 1 + 1 + 1, 1, none⟩ = some (.int .i64 d.2) := f5.cell_of (by go_simp)
    have y5_3 : w1.heap.size + 1 + 1 + 1 < w5.heap.size := World.block_lt_of_cell? w5 _ c5_3_0
    have c5_4_0 : w5.cell? ⟨w2.heap.size, 0, none⟩ = some (.int .i64 (Z.CrossingOf a b c d).1.1) := f5.cell_of (by go_simp)
    have c5_4_1 : w5.cell? ⟨w2.heap.size, 1, none⟩ = some (.int .i64 (Z.CrossingOf a b c d).1.2) := f5.cell_of (by go_simp)
    have y5_4 : w2.heap.size < w5.heap.size := World.block_lt_of_cell? w5 _ c5_4_0
    have c5_5_0 : w5.cell? ⟨w3.heap.size, 0, none⟩ = some (.int .i64 (Z.CrossingOf a b c d).1.1) := f5.cell_of (by go_simp)
    have c5_5_1 : w5.cell? ⟨w3.heap.size, 1, none⟩ = some (.int .i64 (Z.CrossingOf a b c d).1.2) := f5.cell_of (by go_simp)
    have y5_5 : w3.heap.size < w5.heap.size := World.block_lt_of_cell? w5 _ c5_5_0
    have c5_6_0 : w5.cell? ⟨w4.heap.size, 0, none⟩ = some (.int .i64 x.1) := f5.cell_of (by go_simp)
    have c5_6_1 : w5.cell? ⟨w4.heap.size, 1, none⟩ = some (.int .i64 x.2) := f5.cell_of (by go_simp)
    have y5_6 : w4.heap.size < w5.heap.size := World.block_lt_of_cell? w5 _ c5_6_0
    have c5_7_0 : w5.cell? ⟨w4.heap.size + 1, 0, none⟩ = some (.int .i64 y.1) := f5.cell_of (by go_simp)
    have c5_7_1 : w5.cell? ⟨w4.heap.size + 1, 1, none⟩ = some (.int .i64 y.2) := f5.cell_of (by go_simp)
    have y5_7 : w4.heap.size + 1 < w5.heap.size := World.block_lt_of_cell? w5 _ c5_7_0
    have R_5 := K.recs.ext (show K.recs false K.PtR _ 0 w4.heap.size (.slice lo_ ps.length cap_) ps from by with_reducible repeat' (first | exact R_4 | refine K.recs.alloc ?_ _ | refine K.recs.drew ?_ | refine K.recs.set (by decide) ?_ _ ?_ _ | (dsimp only; omega) | omega | (simp; done) | (simp; omega))) f5
    clear c4_0_0 c4_0_1 y4_0 c4_1_0 c4_1_1 y4_1 c4_2_0 c4_2_1 y4_2 c4_3_0 c4_3_1 y4_3 c4_4_0 c4_4_1 y4_4 c4_5_0 c4_5_1 y4_5 R_4 F4 f5 u5_0_1 u5_0_2 u5_1_1 u5_1_2 u5_2_1 u5_2_2 u5_3_1 u5_3_2 u5_4_1 u5_4_2 u5_5_1 u5_5_2
    go_wp2_with fail
    refine K.call (by with_reducible rfl) (by with_reducible rfl) (spec_Near x y ps hN _ (by omega) (show K.recs false K.PtR _ 0 w4.heap.size (.slice lo_ ps.length cap_) ps from by with_reducible repeat' (first | exact R_5 | refine K.recs.alloc ?_ _ | refine K.recs.drew ?_ | refine K.recs.set (by decide) ?_ _ ?_ _ | (dsimp only; omega) | omega | (simp; done) | (simp; omega)))) ?_
    rintro e w6 ⟨rfl, f6⟩
    have F6 : K.Ext w w6 := K.Ext.trans (by repeat' (first | with_reducible exact F5 | with_reducible refine K.Ext.setCell ?_ ?_ _ | with_reducible refine K.Ext.alloc ?_ _ | with_reducible refine K.Ext.drew ?_ | (dsimp only; omega) | omega | (simp; omega))) f6
    have c6_0_0 : w6.cell? ⟨w1.heap.size, 0, none⟩ = some (.int .i64 a.1) := f6.cell_of (by go_simp)
    have c6_0_1 : w6.cell? ⟨w1.heap.size, 1, none⟩ = some (.int .i64 a.2) := f6.cell_of (by go_simp)
    have y6_0 : w1.heap.size < w6.heap.size := World.block_lt_of_cell? w6 _ c6_0_0
    have c6_1_0 : w6.cell? ⟨w1.heap.size + 1, 0, none⟩ = some (.int .i64 b.1) := f6.cell_of (by go_simp)
    have c6_1_1 : w6.cell? ⟨w1.heap.size + 1, 1, none⟩ = some (.int .i64 b.2) := f6.cell_of (by go_simp)
    have y6_1 : w1.heap.size + 1 < w6.heap.size := World.block_lt_of_cell? w6 _ c6_1_0
    have c6_2_0 : w6.cell? ⟨w1.heap.size + 1 + 1, 0, none⟩ = some (.int .i64 c.1) := f6.cell_of (by go_simp)
    have c6_2_1 : w6.cell? ⟨w1.heap.size + 1 + 1, 1, none⟩ = some (.int .i64 c.2) := f6.cell_of (by go_simp)
    have y6_2 : w1.heap.size + 1 + 1 < w6.heap.size := World.block_lt_of_cell? w6 _ c6_2_0
    have c6_3_0 : w6.cell? ⟨w1.heap.size + 1 + 1 + 1, 0, none⟩ = some (.int .i64 d.1) := f6.cell_of (by go_simp)
    have c6_3_1 : w6.cell? ⟨w1.heap.size + 1 + 1 + 1, 1, none⟩ = some (.int .i64 d.2) := f6.cell_of (by go_simp)
    have y6_3 : w1.heap.size + 1 + 1 + 1 < w6.heap.size := World.block_lt_of_cell? w6 _ c6_3_0
    have c6_4_0 : w6.cell? ⟨w2.heap.size, 0, none⟩ = some (.int .i64 (Z.CrossingOf a b c d).1.1) := f6.cell_of (by go_simp)
    have c6_4_1 : w6.cell? ⟨w2.heap.size, 1, none⟩ = some (.int .i64 (Z.CrossingOf a b c d).1.2) := f6.cell_of (by go_simp)
    have y6_4 : w2.heap.size < w6.heap.size := World.block_lt_of_cell? w6 _ c6_4_0
    have c6_5_0 : w6.cell? ⟨w3.heap.size, 0, none⟩ = some (.int .i64 (Z.CrossingOf a b c d).1.1) := f6.cell_of (by go_simp)
    have c6_5_1 : w6.cell? ⟨w3.heap.size, 1, none⟩ = some (.int .i64 (Z.CrossingOf a b c d).1.2) := f6.cell_of (by go_simp)
    have y6_5 : w3.heap.size < w6.heap.size := World.block_lt_of_cell? w6 _ c6_5_0
    have c6_6_0 : w6.cell? ⟨w4.heap.size, 0, none⟩ = some (.int .i64 x.1) := f6.cell_of (by go_simp)
    have c6_6_1 : w6.cell? ⟨w4.heap.size, 1, none⟩ = some (.int .i64 x.2) := f6.cell_of (by go_simp)
    have y6_6 : w4.heap.size < w6.heap.size := World.block_lt_of_cell? w6 _ c6_6_0
    have c6_7_0 : w6.cell? ⟨w4.heap.size + 1, 0, none⟩ = some (.int .i64 y.1) := f6.cell_of (by go_simp)
    have c6_7_1 : w6.cell? ⟨w4.heap.size + 1, 1, none⟩ = some (.int .i64 y.2) := f6.cell_of (by go_simp)
    have y6_7 : w4.heap.size + 1 < w6.heap.size := World.block_lt_of_cell? w6 _ c6_7_0
    have R_6 := K.recs.ext (show K.recs false K.PtR _ 0 w4.heap.size (.slice lo_ ps.length cap_) ps from by with_reducible repeat' (first | exact R_5 | refine K.recs.alloc ?_ _ | refine K.recs.drew ?_ | refine K.recs.set (by decide) ?_ _ ?_ _ | (dsimp only; omega) | omega | (simp; done) | (simp; omega))) f6
    clear c5_0_0 c5_0_1 y5_0 c5_1_0 c5_1_1 y5_1 c5_2_0 c5_2_1 y5_2 c5_3_0 c5_3_1 y5_3 c5_4_0 c5_4_1 y5_4 c5_5_0 c5_5_1 y5_5 c5_6_0 c5_6_1 y5_6 c5_7_0 c5_7_1 y5_7 R_5 F5 f6
    go_wp2_with fail
    refine K.call (by with_reducible rfl) (by with_reducible rfl) (DrawSquareBetween_any _ hn (K.Ext.size (by repeat' (first | with_reducible exact F6 | with_reducible refine K.Ext.setCell ?_ ?_ _ | with_reducible refine K.Ext.alloc ?_ _ | with_reducible refine K.Ext.drew ?_ | (dsimp only; omega) | omega | (simp; omega)))) (h.ext (by repeat' (first | with_reducible exact F6 | with_reducible refine K.Ext.setCell ?_ ?_ _ | with_reducible refine K.Ext.alloc ?_ _ | with_reducible refine K.Ext.drew ?_ | (dsimp only; omega) | omega | (simp; omega))))) ?_
    rintro e w7 ⟨⟨u, t, rfl⟩, f7⟩
    have F7 : K.Ext w w7 := K.Ext.trans (by repeat' (first | with_reducible exact F6 | with_reducible refine K.Ext.setCell ?_ ?_ _ | with_reducible refine K.Ext.alloc ?_ _ | with_reducible refine K.Ext.drew ?_ | (dsimp only; omega) | omega | (simp; omega))) f7
    have c7_0_0 : w7.cell? ⟨w1.heap.size, 0, none⟩ = some (.int .i64 a.1) := f7.cell_of (by go_simp)
    have c7_0_1 : w7.cell? ⟨w1.heap.size, 1, none⟩ = some (.int .i64 a.2) := f7.cell_of (by go_simp)
    have y7_0 : w1.heap.size < w7.heap.size := World.block_lt_of_cell? w7 _ c7_0_0
    have c7_1_0 : w7.cell? ⟨w1.heap.size + 1, 0, none⟩ = some (.int .i64 b.1) := f7.cell_of (by go_simp)
    have c7_1_1 : w7.cell? ⟨w1.heap.size + 1, 1, none⟩ = some (.int .i64 b.2) := f7.cell_of (by go_simp)
    have y7_1 : w1.heap.size + 1 < w7.heap.size := World.block_lt_of_cell? w7 _ c7_1_0
    have c7_2_0 : w7.cell? ⟨w1.heap.size + 1 + 1, 0, none⟩ = some (.int .i64 c.1) := f7.cell_of (by go_simp)
    have c7_2_1 : w7.cell? ⟨w1.heap.size + 1 + 1, 1, none⟩ = some (.int .i64 c.2) := f7.cell_of (by go_simp)
    have y7_2 : w1.heap.size + 1 + 1 < w7.heap.size := World.block_lt_of_cell? w7 _ c7_2_0
    have c7_3_0 : w7.cell? ⟨w1.heap.size + 1 + 1 + 1, 0, none⟩ = some (.int .i64 d.1) := f7.cell_of (by go_simp)
    have c7_3_1 : w7.cell? ⟨w1.heap.size + 1 + 1 + 1, 1, none⟩ = some (.int .i64 d.2) := f7.cell_of (by go_simp)
    have y7_3 : w1.heap.size + 1 + 1 + 1 < w7.heap.size := World.block_lt_of_cell? w7 _ c7_3_0
    have c7_4_0 : w7.cell? ⟨w2.heap.size, 0, none⟩ = some (.int .i64 (Z.CrossingOf a b c d).1.1) := f7.cell_of (by go_simp)
    have c7_4_1 : w7.cell? ⟨w2.heap.size, 1, none⟩ = some (.int .i64 (Z.CrossingOf a b c d).1.2) := f7.cell_of (by go_simp)
    have y7_4 : w2.heap.size < w7.heap.size := World.block_lt_of_cell? w7 _ c7_4_0
    have c7_5_0 : w7.cell? ⟨w3.heap.size, 0, none⟩ = some (.int .i64 (Z.CrossingOf a b c d).1.1) := f7.cell_of (by go_simp)
    have c7_5_1 : w7.cell? ⟨w3.heap.size, 1, none⟩ = some (.int .i64 (Z.CrossingOf a b c d).1.2) := f7.cell_of (by go_simp)
    have y7_5 : w3.heap.size < w7.heap.size := World.block_lt_of_cell? w7 _ c7_5_0
    have c7_6_0 : w7.cell? ⟨w4.heap.size, 0, none⟩ = some (.int .i64 x.1) := f7.cell_of (by go_simp)
    have c7_6_1 : w7.cell? ⟨w4.heap.size, 1, none⟩ = some (.int .i64 x.2) := f7.cell_of (by go_simp)
    have y7_6 : w4.heap.size < w7.heap.size := World.block_lt_of_cell? w7 _ c7_6_0
    have c7_7_0 : w7.cell? ⟨w4.heap.size + 1, 0, none⟩ = some (.int .i64 y.1) := f7.cell_of (by go_simp)
    have c7_7_1 : w7.cell? ⟨w4.heap.size + 1, 1, none⟩ = some (.int .i64 y.2) := f7.cell_of (by go_simp)
    have y7_7 : w4.heap.size + 1 < w7.heap.size := World.block_lt_of_cell? w7 _ c7_7_0
    have R_7 := K.recs.ext (show K.recs false K.PtR _ 0 w4.heap.size (.slice lo_ ps.length cap_) ps from by with_reducible repeat' (first | exact R_6 | refine K.recs.alloc ?_ _ | refine K.recs.drew ?_ | refine K.recs.set (by decide) ?_ _ ?_ _ | (dsimp only; omega) | omega | (simp; done) | (simp; omega))) f7
    clear c6_0_0 c6_0_1 y6_0 c6_1_0 c6_1_1 y6_1 c6_2_0 c6_2_1 y6_2 c6_3_0 c6_3_1 y6_3 c6_4_0 c6_4_1 y6_4 c6_5_0 c6_5_1 y6_5 c6_6_0 c6_6_1 y6_6 c6_7_0 c6_7_1 y6_7 R_6 F6 f7
    go_wp2_with fail
    refine K.call (by with_reducible rfl) (by with_reducible rfl) (impl_SquareBetween u t _) ?_
    rintro e w8 ⟨rfl, f8⟩
    have u8_0_1 : w1.heap.size < w7.heap.size + 1 := (by omega)
    have u8_0_2 : w1.heap.size < w7.heap.size + 1 + 1 := (by omega)
    have u8_1_1 : w1.heap.size + 1 < w7.heap.size + 1 := (by omega)
    have u8_1_2 : w1.heap.size + 1 < w7.heap.size + 1 + 1 := (by omega)
    have u8_2_1 : w1.heap.size + 1 + 1 < w7.heap.size + 1 := (by omega)
    have u8_2_2 : w1.heap.size + 1 + 1 < w7.heap.size + 1 + 1 := (by omega)
    have u8_3_1 : w1.heap.size + 1 + 1 + 1 < w7.heap.size + 1 := (by omega)
    have u8_3_2 : w1.heap.size + 1 + 1 + 1 < w7.heap.size + 1 + 1 := (by omega)
    have u8_4_1 : w2.heap.size < w7.heap.size + 1 := (by omega)
    have u8_4_2 : w2.heap.size < w7.heap.size + 1 + 1 := (by omega)
    have u8_5_1 : w3.heap.size < w7.heap.size + 1 := (by omega)
    have u8_5_2 : w3.heap.size < w7.heap.size + 1 + 1 := (by omega)
    have u8_6_1 : w4.heap.size < w7.heap.size + 1 := (by omega)
    have u8_6_2 : w4.heap.size < w7.heap.size + 1 + 1 := (by omega)
    have u8_7_1 : w4.heap.size + 1 < w7.heap.size + 1 := (by omega)
    have u8_7_2 : w4.heap.size + 1 < w7.heap.size + 1 + 1 := (by omega)
    have F8 : K.Ext w w8 := K.Ext.trans (by repeat' (first | with_reducible exact F7 | with_reducible refine K.Ext.setCell ?_ ?_ _ | with_reducible refine K.Ext.alloc ?_ _ | with_reducible refine K.Ext.drew ?_ | (dsimp only; omega) | omega | (simp; omega))) f8
    have c8_0_0 : w8.cell? ⟨w1.heap.size, 0, none⟩ = some (.int .i64 a.1) := f8.cell_of (by go_simp)
    have c8_0_1 : w8.cell? ⟨w1.heap.size, 1, none⟩ = some (.int .i64 a.2) := f8.cell_of (by go_simp)
    have y8_0 : w1.heap.size < w8.heap.size := World.block_lt_of_cell? w8 _ c8_0_0
    have c8_1_0 : w8.cell? ⟨w1.heap.size + 1, 0, none⟩ = some (.int .i64 b.1) := f8.cell_of (by go_simp)
    have c8_1_1 : w8.cell? ⟨w1.heap.size + 1, 1, none⟩ = some (.int .i64 b.2) := f8.cell_of (by go_simp)
    have y8_1 : w1.heap.size + 1 < w8.heap.size := World.block_lt_of_cell? w8 _ c8_1_0
    have c8_2_0 : w8.cell? ⟨w1.heap.size + 1 + 1, 0, none⟩ = some (.int .i64 c.1) := f8.cell_of (by go_simp)
    have c8_2_1 : w8.cell? ⟨w1.heap.size + 1 + 1, 1, none⟩ = some (.int .i64 c.2) := f8.cell_of (by go_simp)
    have y8_2 : w1.heap.size + 1 + 1 < w8.heap.size := World.block_lt_of_cell? w8 _ c8_2_0
    have c8_3_0 : w8.cell? ⟨w1.heap.size + 1 + 1 + 1, 0, none⟩ = some (.int .i64 d.1) := f8.cell_of (by go_simp)
    have c8_3_1 : w8.cell? ⟨w1.heap.size + 1 + 1 + 1, 1, none⟩ = some (.int .i64 d.2) := f8.cell_of (by go_simp)
    have y8_3 : w1.heap.size + 1 + 1 + 1 < w8.heap.size := World.block_lt_of_cell? w8 _ c8_3_0
    have c8_4_0 : w8.cell? ⟨w2.heap.size, 0, none⟩ = some (.int .i64 (Z.CrossingOf a b c d).1.1) := f8.cell_of (by go_simp)
    have c8_4_1 : w8.cell? ⟨w2.heap.size, 1, none⟩ = some (.int .i64 (Z.CrossingOf a b c d).1.2) := f8.cell_of (by go_simp)
    have y8_4 : w2.heap.size < w8.heap.size := World.block_lt_of_cell? w8 _ c8_4_0
    have c8_5_0 : w8.cell? ⟨w3.heap.size, 0, none⟩ = some (.int .i64 (Z.CrossingOf a b c d).1.1) := f8.cell_of (by go_simp)
    have c8_5_1 : w8.cell? ⟨w3.heap.size, 1, none⟩ = some (.int .i64 (Z.CrossingOf a b c d).1.2) := f8.cell_of (by go_simp)
    have y8_5 : w3.heap.size < w8.heap.size := World.block_lt_of_cell? w8 _ c8_5_0
    have c8_6_0 : w8.cell? ⟨w4.heap.size, 0, none⟩ = some (.int .i64 x.1) := f8.cell_of (by go_simp)
    have c8_6_1 : w8.cell? ⟨w4.heap.size, 1, none⟩ = some (.int .i64 x.2) := f8.cell_of (by go_simp)
    have y8_6 : w4.heap.size < w8.heap.size := World.block_lt_of_cell? w8 _ c8_6_0
    have c8_7_0 : w8.cell? ⟨w4.heap.size + 1, 0, none⟩ = some (.int .i64 y.1) := f8.cell_of (by go_simp)
    have c8_7_1 : w8.cell? ⟨w4.heap.size + 1, 1, none⟩ = some (.int .i64 y.2) := f8.cell_of (by go_simp)
    have y8_7 : w4.heap.size + 1 < w8.heap.size := World.block_lt_of_cell? w8 _ c8_7_0
    have c8_8_0 : w8.cell? ⟨w7.heap.size, 0, none⟩ = some (.int .i64 u.1) := f8.cell_of (by go_simp)
    have c8_8_1 : w8.cell? ⟨w7.heap.size, 1, none⟩ = some (.int .i64 u.2) := f8.cell_of (by go_simp)
    have y8_8 : w7.heap.size < w8.heap.size := World.block_lt_of_cell? w8 _ c8_8_0
    have c8_9_0 : w8.cell? ⟨w7.heap.size + 1, 0, none⟩ = some (.int .i64 t.1) := f8.cell_of (by go_simp)
    have c8_9_1 : w8.cell? ⟨w7.heap.size + 1, 1, none⟩ = some (.int .i64 t.2) := f8.cell_of (by go_simp)
    have y8_9 : w7.heap.size + 1 < w8.heap.size := World.block_lt_of_cell? w8 _ c8_9_0
    have R_8 := K.recs.ext (show K.recs false K.PtR _ 0 w4.heap.size (.slice lo_ ps.length cap_) ps from by with_reducible repeat' (first | exact R_7 | refine K.recs.alloc ?_ _ | refine K.recs.drew ?_ | refine K.recs.set (by decide) ?_ _ ?_ _ | (dsimp only; omega) | omega | (simp; done) | (simp; omega))) f8
    clear c7_0_0 c7_0_1 y7_0 c7_1_0 c7_1_1 y7_1 c7_2_0 c7_2_1 y7_2 c7_3_0 c7_3_1 y7_3 c7_4_0 c7_4_1 y7_4 c7_5_0 c7_5_1 y7_5 c7_6_0 c7_6_1 y7_6 c7_7_0 c7_7_1 y7_7 R_7 F7 f8 u8_0_1 u8_0_2 u8_1_1 u8_1_2 u8_2_1 u8_2_2 u8_3_1 u8_3_2 u8_4_1 u8_4_2 u8_5_1 u8_5_2 u8_6_1 u8_6_2 u8_7_1 u8_7_2
    go_wp2_with fail
    refine K.call (by with_reducible rfl) (by with_reducible rfl) (spec_SquareBetween u t _) ?_
    rintro e w9 ⟨rfl, f9⟩
    have F9 : K.Ext w w9 := K.Ext.trans (by repeat' (first | with_reducible exact F8 | with_reducible refine K.Ext.setCell ?_ ?_ _ | with_reducible refine K.Ext.alloc ?_ _ | with_reducible refine K.Ext.drew ?_ | (dsimp only; omega) | omega | (simp; omega))) f9
    have c9_0_0 : w9.cell? ⟨w1.heap.size, 0, none⟩ = some (.int .i64 a.1) := f9.cell_of (by go_simp)
    have c9_0_1 : w9.cell? ⟨w1.heap.size, 1, none⟩ = some (.int .i64 a.2) := f9.cell_of (by go_simp)
    have y9_0 : w1.heap.size < w9.heap.size := World.block_lt_of_cell? w9 _ c9_0_0
    have c9_1_0 : w9.cell? ⟨w1.heap.size + 1, 0, none⟩ = some (.int .i64 b.1) := f9.cell_of (by go_simp)
    have c9_1_1 : w9.cell? ⟨w1.heap.size + 1, 1, none⟩ = some (.int .i64 b.2) := f9.cell_of (by go_simp)
    have y9_1 : w1.heap.size + 1 < w9.heap.size := World.block_lt_of_cell? w9 _ c9_1_0
    have c9_2_0 : w9.cell? ⟨w1.heap.size + 1 + 1, 0, none⟩ = some (.int .i64 c.1) := f9.cell_of (by go_simp)
    have c9_2_1 : w9.cell? ⟨w1.heap.size + 1 + 1, 1, none⟩ = some (.int .i64 c.2) := f9.cell_of (by go_simp)
    have y9_2 : w1.heap.size + 1 + 1 < w9.heap.size := World.block_lt_of_cell? w9 _ c9_2_0
    have c9_3_0 : w9.cell? ⟨w1.heap.size + 1 + 1 + 1, 0, none⟩ = some (.int .i64 d.1) := f9.cell_of (by go_simp)
    have c9_3_1 : w9.cell? ⟨w1.heap.size + 1 + 1 + 1, 1, none⟩ = some (.int .i64 d.2) := f9.cell_of (by go_simp)
    have y9_3 : w1.heap.size + 1 + 1 + 1 < w9.heap.size := World.block_lt_of_cell? w9 _ c9_3_0
    have c9_4_0 : w9.cell? ⟨w2.heap.size, 0, none⟩ = some (.int .i64 (Z.CrossingOf a b c d).1.1) := f9.cell_of (by go_simp)
    have c9_4_1 : w9.cell? ⟨w2.heap.size, 1, none⟩ = some (.int .i64 (Z.CrossingOf a b c d).1.2) := f9.cell_of (by go_simp)
    have y9_4 : w2.heap.size < w9.heap.size := World.block_lt_of_cell? w9 _ c9_4_0
    have c9_5_0 : w9.cell? ⟨w3.heap.size, 0, none⟩ = some (.int .i64 (Z.CrossingOf a b c d).1.1) := f9.cell_of (by go_simp)
    have c9_5_1 : w9.cell? ⟨w3.heap.size, 1, none⟩ = some (.int .i64 (Z.CrossingOf a b c d).1.2) := f9.cell_of (by go_simp)
    have y9_5 : w3.heap.size < w9.heap.size := World.block_lt_of_cell? w9 _ c9_5_0
    have c9_6_0 : w9.cell? ⟨w4.heap.size, 0, none⟩ = some (.int .i64 x.1) := f9.cell_of (by go_simp)
    have c9_6_1 : w9.cell? ⟨w4.heap.size, 1, none⟩ = some (.int .i64 x.2) := f9.cell_of (by go_simp)
    have y9_6 : w4.heap.size < w9.heap.size := World.block_lt_of_cell? w9 _ c9_6_0
    have c9_7_0 : w9.cell? ⟨w4.heap.size + 1, 0, none⟩ = some (.int .i64 y.1) := f9.cell_of (by go_simp)
    have c9_7_1 : w9.cell? ⟨w4.heap.size + 1, 1, none⟩ = some (.int .i64 y.2) := f9.cell_of (by go_simp)
    have y9_7 : w4.heap.size + 1 < w9.heap.size := World.block_lt_of_cell? w9 _ c9_7_0
    have c9_8_0 : w9.cell? ⟨w7.heap.size, 0, none⟩ = some (.int .i64 u.1) := f9.cell_of (by go_simp)
    have c9_8_1 : w9.cell? ⟨w7.heap.size, 1, none⟩ = some (.int .i64 u.2) := f9.cell_of (by go_simp)
    have y9_8 : w7.heap.size < w9.heap.size := World.block_lt_of_cell? w9 _ c9_8_0
    have c9_9_0 : w9.cell? ⟨w7.heap.size + 1, 0, none⟩ = some (.int .i64 t.1) := f9.cell_of (by go_simp)
    have c9_9_1 : w9.cell? ⟨w7.heap.size + 1, 1, none⟩ = some (.int .i64 t.2) := f9.cell_of (by go_simp)
    have y9_9 : w7.heap.size + 1 < w9.heap.size := World.block_lt_of_cell? w9 _ c9_9_0
    have R_9 := K.recs.ext (show K.recs false K.PtR _ 0 w4.heap.size (.slice lo_ ps.length cap_) ps from by with_reducible repeat' (first | exact R_8 | refine K.recs.alloc ?_ _ | refine K.recs.drew ?_ | refine K.recs.set (by decide) ?_ _ ?_ _ | (dsimp only; omega) | omega | (simp; done) | (simp; omega))) f9
    clear c8_0_0 c8_0_1 y8_0 c8_1_0 c8_1_1 y8_1 c8_2_0 c8_2_1 y8_2 c8_3_0 c8_3_1 y8_3 c8_4_0 c8_4_1 y8_4 c8_5_0 c8_5_1 y8_5 c8_6_0 c8_6_1 y8_6 c8_7_0 c8_7_1 y8_7 c8_8_0 c8_8_1 y8_8 c8_9_0 c8_9_1 y8_9 R_8 F8 f9
    go_wp2_with fail
    refine K.call (by with_reducible rfl) (by with_reducible rfl) (impl_MiddlePoint u t _) ?_
    rintro e w10 ⟨rfl, f10⟩
    have F10 : K.Ext w w10 := K.Ext.trans (by repeat' (first | with_reducible exact F9 | with_reducible refine K.Ext.setCell ?_ ?_ _ | with_reducible refine K.Ext.alloc ?_ _ | with_reducible refine K.Ext.drew ?_ | (dsimp only; omega) | omega | (simp; omega))) f10
    have c10_0_0 : w10.cell? ⟨w1.heap.size, 0, none⟩ = some (.int .i64 a.1) := f10.cell_of (by go_simp)
    have c10_0_1 : w10.cell? ⟨w1.heap.size, 1, none⟩ = some (.int .i64 a.2) := f10.cell_of (by go_simp)
    have y10_0 : w1.heap.size < w10.heap.size := World.block_lt_of_cell? w10 _ c10_0_0
    have c10_1_0 : w10.cell? ⟨w1.heap.size + 1, 0, none⟩ = some (.int .i64 b.1) := f10.cell_of (by go_simp)
    have c10_1_1 : w10.cell? ⟨w1.heap.size + 1, 1, none⟩ = some (.int .i64 b.2) := f10.cell_of (by go_simp)
    have y10_1 : w1.heap.size + 1 < w10.heap.size := World.block_lt_of_cell? w10 _ c10_1_0
    have c10_2_0 : w10.cell? ⟨w1.heap.size + 1 + 1, 0, none⟩ = some (.int .i64 c.1) := f10.cell_of (by go_simp)
    have c10_2_1 : w10.cell? ⟨w1.heap.size + 1 + 1, 1, none⟩ = some (.int .i64 c.2) := f10.cell_of (by go_simp)
    have y10_2 : w1.heap.size + 1 + 1 < w10.heap.size := World.block_lt_of_cell? w10 _ c10_2_0
    have c10_3_0 : w10.cell? ⟨w1.heap.size + 1 + 1 + 1, 0, none⟩ = some (.int .i64 d.1) := f10.cell_of (by go_simp)
    have c10_3_1 : w10.cell? ⟨w1.heap.size + 1 + 1 + 1, 1, none⟩ = some (.int .i64 d.2) := f10.cell_of (by go_simp)
    have y10_3 : w1.heap.size + 1 + 1 + 1 < w10.heap.size := World.block_lt_of_cell? w10 _ c10_3_0
    have c10_4_0 : w10.cell? ⟨w2.heap.size, 0, none⟩ = some (.int .i64 (Z.CrossingOf a b c d).1.1) := f10.cell_of (by go_simp)
    have c10_4_1 : w10.cell? ⟨w2.heap.size, 1, none⟩ = some (.int .i64 (Z.CrossingOf a b c d).1.2) := f10.cell_of (by go_simp)
    have y10_4 : w2.heap.size < w10.heap.size := World.block_lt_of_cell? w10 _ c10_4_0
    have c10_5_0 : w10.cell? ⟨w3.heap.size, 0, none⟩ = some (.int .i64 (Z.CrossingOf a b c d).1.1) := f10.cell_of (by go_simp)
    have c10_5_1 : w10.cell? ⟨w3.heap.size, 1, none⟩ = some (.int .i64 (Z.CrossingOf a b c d).1.2) := f10.cell_of (by go_simp)
    have y10_5 : w3.heap.size < w10.heap.size := World.block_lt_of_cell? w10 _ c10_5_0
    have c10_6_0 : w10.cell? ⟨w4.heap.size, 0, none⟩ = some (.int .i64 x.1) := f10.cell_of (by go_simp)
    have c10_6_1 : w10.cell? ⟨w4.heap.size, 1, none⟩ = some (.int .i64 x.2) := f10.cell_of (by go_simp)
    have y10_6 : w4.heap.size < w10.heap.size := World.block_lt_of_cell? w10 _ c10_6_0
    have c10_7_0 : w10.cell? ⟨w4.heap.size + 1, 0, none⟩ = some (.int .i64 y.1) := f10.cell_of (by go_simp)
    have c10_7_1 : w10.cell? ⟨w4.heap.size + 1, 1, none⟩ = some (.int .i64 y.2) := f10.cell_of (by go_simp)
    have y10_7 : w4.heap.size + 1 < w10.heap.size := World.block_lt_of_cell? w10 _ c10_7_0
    have c10_8_0 : w10.cell? ⟨w7.heap.size, 0, none⟩ = some (.int .i64 u.1) := f10.cell_of (by go_simp)
    have c10_8_1 : w10.cell? ⟨w7.heap.size, 1, none⟩ = some (.int .i64 u.2) := f10.cell_of (by go_simp)
    have y10_8 : w7.heap.size < w10.heap.size := World.block_lt_of_cell? w10 _ c10_8_0
    have c10_9_0 : w10.cell? ⟨w7.heap.size + 1, 0, none⟩ = some (.int .i64 t.1) := f10.cell_of (by go_simp)
    have c10_9_1 : w10.cell? ⟨w7.heap.size + 1, 1, none⟩ = some (.int .i64 t.2) := f10.cell_of (by go_simp)
    have y10_9 : w7.heap.size + 1 < w10.heap.size := World.block_lt_of_cell? w10 _ c10_9_0
    have R_10 := K.recs.ext (show K.recs false K.PtR _ 0 w4.heap.size (.slice lo_ ps.length cap_) ps from by with_reducible repeat' (first | exact R_9 | refine K.recs.alloc ?_ _ | refine K.recs.drew ?_ | refine K.recs.set (by decide) ?_ _ ?_ _ | (dsimp only; omega) | omega | (simp; done) | (simp; omega))) f10
    clear c9_0_0 c9_0_1 y9_0 c9_1_0 c9_1_1 y9_1 c9_2_0 c9_2_1 y9_2 c9_3_0 c9_3_1 y9_3 c9_4_0 c9_4_1 y9_4 c9_5_0 c9_5_1 y9_5 c9_6_0 c9_6_1 y9_6 c9_7_0 c9_7_1 y9_7 c9_8_0 c9_8_1 y9_8 c9_9_0 c9_9_1 y9_9 R_9 F9 f10
    go_wp2_with fail
    refine K.call (by with_reducible rfl) (by with_reducible rfl) (spec_MiddlePoint u t _) ?_
    rintro e w11 ⟨rfl, f11⟩
    have u11_0_1 : w1.heap.size < w10.heap.size + 1 := (by omega)
    have u11_1_1 : w1.heap.size + 1 < w10.heap.size + 1 := (by omega)
    have u11_2_1 : w1.heap.size + 1 + 1 < w10.heap.size + 1 := (by omega)
    have u11_3_1 : w1.heap.size + 1 + 1 + 1 < w10.heap.size + 1 := (by omega)
    have u11_4_1 : w2.heap.size < w10.heap.size + 1 := (by omega)
    have u11_5_1 : w3.heap.size < w10.heap.size + 1 := (by omega)
    have u11_6_1 : w4.heap.size < w10.heap.size + 1 := (by omega)
    have u11_7_1 : w4.heap.size + 1 < w10.heap.size + 1 := (by omega)
    have u11_8_1 : w7.heap.size < w10.heap.size + 1 := (by omega)
    have u11_9_1 : w7.heap.size + 1 < w10.heap.size + 1 := (by omega)
    have F11 : K.Ext w w11 := K.Ext.trans (by repeat' (first | with_reducible exact F10 | with_reducible refine K.Ext.setCell ?_ ?_ _ | with_reducible refine K.Ext.alloc ?_ _ | with_reducible refine K.Ext.drew ?_ | (dsimp only; omega) | omega | (simp; omega))) f11
    have c11_0_0 : w11.cell? ⟨w1.heap.size, 0, none⟩ = some (.int .i64 a.1) := f11.cell_of (by go_simp)
    have c11_0_1 : w11.cell? ⟨w1.heap.size, 1, none⟩ = some (.int .i64 a.2) := f11.cell_of (by go_simp)
    have y11_0 : w1.heap.size < w11.heap.size := World.block_lt_of_cell? w11 _ c11_0_0
    have c11_1_0 : w11.cell? ⟨w1.heap.size + 1, 0, none⟩ = some (.int .i64 b.1) := f11.cell_of (by go_simp)
    have c11_1_1 : w11.cell? ⟨w1.heap.size + 1, 1, none⟩ = some (.int .i64 b.2) := f11.cell_of (by go_simp)
    have y11_1 : w1.heap.size + 1 < w11.heap.size := World.block_lt_of_cell? w11 _ c11_1_0
    have c11_2_0 : w11.cell? ⟨w1.heap.size + 1 + 1, 0, none⟩ = some (.int .i64 c.1) := f11.cell_of (by go_simp)
    have c11_2_1 : w11.cell? ⟨w1.heap.size + 1 + 1, 1, none⟩ = some (.int .i64 c.2) := f11.cell_of (by go_simp)
    have y11_2 : w1.heap.size + 1 + 1 < w11.heap.size := World.block_lt_of_cell? w11 _ c11_2_0
    have c11_3_0 : w11.cell? ⟨w1.heap.size + 1 + 1 + 1, 0, none⟩ = some (.int .i64 d.1) := f11.cell_of (by go_simp)
    have c11_3_1 : w11.cell? ⟨w1.heap.size + 1 + 1 + 1, 1, none⟩ = some (.int .i64 d.2) := f11.cell_of (by go_simp)
    have y11_3 : w1.heap.size + 1 + 1 + 1 < w11.heap.size := World.block_lt_of_cell? w11 _ c11_3_0
    have c11_4_0 : w11.cell? ⟨w2.heap.size, 0, none⟩ = some (.int .i64 (Z.CrossingOf a b c d).1.1) := f11.cell_of (by go_simp)
    have c11_4_1 : w11.cell? ⟨w2.heap.size, 1, none⟩ = some (.int .i64 (Z.CrossingOf a b c d).1.2) := f11.cell_of (by go_simp)
    have y11_4 : w2.heap.size < w11.heap.size := World.block_lt_of_cell? w11 _ c11_4_0
    have c11_5_0 : w11.cell? ⟨w3.heap.size, 0, none⟩ = some (.int .i64 (Z.CrossingOf a b c d).1.1) := f11.cell_of (by go_simp)
    have c11_5_1 : w11.cell? ⟨w3.heap.size, 1, none⟩ = some (.int .i64 (Z.CrossingOf a b c d).1.2) := f11.cell_of (by go_simp)
    have y11_5 : w3.heap.size < w11.heap.size := World.block_lt_of_cell? w11 _ c11_5_0
    have c11_6_0 : w11.cell? ⟨w4.heap.size, 0, none⟩ = some (.int .i64 x.1) := f11.cell_of (by go_simp)
    have c11_6_1 : w11.cell? ⟨w4.heap.size, 1, none⟩ = some (.int .i64 x.2) := f11.cell_of (by go_simp)
    have y11_6 : w4.heap.size < w11.heap.size := World.block_lt_of_cell? w11 _ c11_6_0
    have c11_7_0 : w11.cell? ⟨w4.heap.size + 1, 0, none⟩ = some (.int .i64 y.1) := f11.cell_of (by go_simp)
    have c11_7_1 : w11.cell? ⟨w4.heap.size + 1, 1, none⟩ = some (.int .i64 y.2) := f11.cell_of (by go_simp)
    have y11_7 : w4.heap.size + 1 < w11.heap.size := World.block_lt_of_cell? w11 _ c11_7_0
    have c11_8_0 : w11.cell? ⟨w7.heap.size, 0, none⟩ = some (.int .i64 u.1) := f11.cell_of (by go_simp)
    have c11_8_1 : w11.cell? ⟨w7.heap.size, 1, none⟩ = some (.int .i64 u.2) := f11.cell_of (by go_simp)
    have y11_8 : w7.heap.size < w11.heap.size := World.block_lt_of_cell? w11 _ c11_8_0
    have c11_9_0 : w11.cell? ⟨w7.heap.size + 1, 0, none⟩ = some (.int .i64 t.1) := f11.cell_of (by go_simp)
    have c11_9_1 : w11.cell? ⟨w7.heap.size + 1, 1, none⟩ = some (.int .i64 t.2) := f11.cell_of (by go_simp)
    have y11_9 : w7.heap.size + 1 < w11.heap.size := World.block_lt_of_cell? w11 _ c11_9_0
    have c11_10_0 : w11.cell? ⟨w10.heap.size, 0, none⟩ = some (.int .i64 (Z.MiddlePoint u t).1.1) := f11.cell_of (by go_simp)
    have c11_10_1 : w11.cell? ⟨w10.heap.size, 1, none⟩ = some (.int .i64 (Z.MiddlePoint u t).1.2) := f11.cell_of (by go_simp)
    have y11_10 : w10.heap.size < w11.heap.size := World.block_lt_of_cell? w11 _ c11_10_0
    have R_11 := K.recs.ext (show K.recs false K.PtR _ 0 w4.heap.size (.slice lo_ ps.length cap_) ps from by with_reducible repeat' (first | exact R_10 | refine K.recs.alloc ?_ _ | refine K.recs.drew ?_ | refine K.recs.set (by decide) ?_ _ ?_ _ | (dsimp only; omega) | omega | (simp; done) | (simp; omega))) f11
    clear c10_0_0 c10_0_1 y10_0 c10_1_0 c10_1_1 y10_1 c10_2_0 c10_2_1 y10_2 c10_3_0 c10_3_1 y10_3 c10_4_0 c10_4_1 y10_4 c10_5_0 c10_5_1 y10_5 c10_6_0 c10_6_1 y10_6 c10_7_0 c10_7_1 y10_7 c10_8_0 c10_8_1 y10_8 c10_9_0 c10_9_1 y10_9 R_10 F10 f11 u11_0_1 u11_1_1 u11_2_1 u11_3_1 u11_4_1 u11_5_1 u11_6_1 u11_7_1 u11_8_1 u11_9_1
    go_wp2_with fail
    go_loopw [28] (fun i wr => ∃ k : Nat, k ≤ ps.length ∧ i = .int .i64 k ∧ Hid (K.Ext w11 wr)) (fun i _ => ps.length - (intOf i).toNat)
    case atStart => exact ⟨0, Nat.zero_le _, rfl, Z.hide ((K.Ext.refl _).alloc _)⟩
    case round =>
      obtain ⟨k, hk, rfl, HX⟩ := hrel
      have XR : K.Ext w wr := K.Ext.trans F11 HX.out
      have cr_0_0 := HX.out.cell_of c11_0_0
      have cr_0_1 := HX.out.cell_of c11_0_1
      have yr_0 : w1.heap.size < wr.heap.size := World.block_lt_of_cell? wr _ cr_0_0
      have cr_1_0 := HX.out.cell_of c11_1_0
      have cr_1_1 := HX.out.cell_of c11_1_1
      have yr_1 : w1.heap.size + 1 < wr.heap.size := World.block_lt_of_cell? wr _ cr_1_0
      have cr_2_0 := HX.out.cell_of c11_2_0
      have cr_2_1 := HX.out.cell_of c11_2_1
      have yr_2 : w1.heap.size + 1 + 1 < wr.heap.size := World.block_lt_of_cell? wr _ cr_2_0
      have cr_3_0 := HX.out.cell_of c11_3_0
      have cr_3_1 := HX.out.cell_of c11_3_1
      have yr_3 : w1.heap.size + 1 + 1 + 1 < wr.heap.size := World.block_lt_of_cell? wr _ cr_3_0
      have cr_4_0 := HX.out.cell_of c11_4_0
      have cr_4_1 := HX.out.cell_of c11_4_1
      have yr_4 : w2.heap.size < wr.heap.size := World.block_lt_of_cell? wr _ cr_4_0
      have cr_6_0 := HX.out.cell_of c11_6_0
      have cr_6_1 := HX.out.cell_of c11_6_1
      have yr_6 : w4.heap.size < wr.heap.size := World.block_lt_of_cell? wr _ cr_6_0
      have cr_7_0 := HX.out.cell_of c11_7_0
      have cr_7_1 := HX.out.cell_of c11_7_1
      have yr_7 : w4.heap.size + 1 < wr.heap.size := World.block_lt_of_cell? wr _ cr_7_0
      have cr_8_0 := HX.out.cell_of c11_8_0
      have cr_8_1 := HX.out.cell_of c11_8_1
      have yr_8 : w7.heap.size < wr.heap.size := World.block_lt_of_cell? wr _ cr_8_0
      have cr_9_0 := HX.out.cell_of c11_9_0
      have cr_9_1 := HX.out.cell_of c11_9_1
      have yr_9 : w7.heap.size + 1 < wr.heap.size := World.block_lt_of_cell? wr _ cr_9_0
      have RR := K.recs.ext R_11 HX.out
      clear c11_0_0 c11_0_1 y11_0 c11_1_0 c11_1_1 y11_1 c11_2_0 c11_2_1 y11_2 c11_3_0 c11_3_1 y11_3 c11_4_0 c11_4_1 y11_4 c11_5_0 c11_5_1 y11_5 c11_6_0 c11_6_1 y11_6 c11_7_0 c11_7_1 y11_7 c11_8_0 c11_8_1 y11_8 c11_9_0 c11_9_1 y11_9 c11_10_0 c11_10_1 y11_10 R_11 F11
      have k0 : (0 : Int) ≤ (k : Int) := Int.natCast_nonneg k
      by_cases hs : (Z.SquareBetween u t).2 = 0
      · obtain ⟨hS1, hS2, hS3⟩ := Z.squares_law u t hs
        rcases hS3 with ⟨hz, hu1, hu2⟩ | ⟨hz, hu1⟩ | ⟨hz, hu2⟩
        · as_aux_lemma =>
            obtain rfl : u = t := Prod.ext hu1 hu2
            clear hu1 hu2
            go_wp2_with fail
            refine K.call (by with_reducible rfl) (by with_reducible rfl) (impl_SquareBetween _ _ _) ?_
            rintro e w12 ⟨rfl, f12⟩
            have F12 : K.Ext w w12 := K.Ext.trans (by repeat' (first | with_reducible exact XR | with_reducible refine K.Ext.setCell ?_ ?_ _ | with_reducible refine K.Ext.alloc ?_ _ | with_reducible refine K.Ext.drew ?_ | (dsimp only; omega) | omega | (simp; omega))) f12
            have c12_0_0 : w12.cell? ⟨w1.heap.size, 0, none⟩ = some (.int .i64 a.1) := f12.cell_of (by go_simp)
            have c12_0_1 : w12.cell? ⟨w1.heap.size, 1, none⟩ = some (.int .i64 a.2) := f12.cell_of (by go_simp)
            have y12_0 : w1.heap.size < w12.heap.size := World.block_lt_of_cell? w12 _ c12_0_0
            have c12_1_0 : w12.cell? ⟨w1.heap.size + 1, 0, none⟩ = some (.int .i64 b.1) := f12.cell_of (by go_simp)
            have c12_1_1 : w12.cell? ⟨w1.heap.size + 1, 1, none⟩ = some (.int .i64 b.2) := f12.cell_of (by go_simp)
            have y12_1 : w1.heap.size + 1 < w12.heap.size := World.block_lt_of_cell? w12 _ c12_1_0
            have c12_2_0 : w12.cell? ⟨w1.heap.size + 1 + 1, 0, none⟩ = some (.int .i64 c.1) := f12.cell_of (by go_simp)
            have c12_2_1 : w12.cell? ⟨w1.heap.size + 1 + 1, 1, none⟩ = some (.int .i64 c.2) := f12.cell_of (by go_simp)
            have y12_2 : w1.heap.size + 1 + 1 < w12.heap.size := World.block_lt_of_cell? w12 _ c12_2_0
            have c12_3_0 : w12.cell? ⟨w1.heap.size + 1 + 1 + 1, 0, none⟩ = some (.int .i64 d.1) := f12.cell_of (by go_simp)
            have c12_3_1 : w12.cell? ⟨w1.heap.size + 1 + 1 + 1, 1, none⟩ = some (.int .i64 d.2) := f12.cell_of (by go_simp)
            have y12_3 : w1.heap.size + 1 + 1 + 1 < w12.heap.size := World.block_lt_of_cell? w12 _ c12_3_0
            have c12_4_0 : w12.cell? ⟨w2.heap.size, 0, none⟩ = some (.int .i64 (Z.CrossingOf a b c d).1.1) := f12.cell_of (by go_simp)
            have c12_4_1 : w12.cell? ⟨w2.heap.size, 1, none⟩ = some (.int .i64 (Z.CrossingOf a b c d).1.2) := f12.cell_of (by go_simp)
            have y12_4 : w2.heap.size < w12.heap.size := World.block_lt_of_cell? w12 _ c12_4_0
            have c12_6_0 : w12.cell? ⟨w4.heap.size, 0, none⟩ = some (.int .i64 x.1) := f12.cell_of (by go_simp)
            have c12_6_1 : w12.cell? ⟨w4.heap.size, 1, none⟩ = some (.int .i64 x.2) := f12.cell_of (by go_simp)
            have y12_6 : w4.heap.size < w12.heap.size := World.block_lt_of_cell? w12 _ c12_6_0
            have c12_7_0 : w12.cell? ⟨w4.heap.size + 1, 0, none⟩ = some (.int .i64 y.1) := f12.cell_of (by go_simp)
            have c12_7_1 : w12.cell? ⟨w4.heap.size + 1, 1, none⟩ = some (.int .i64 y.2) := f12.cell_of (by go_simp)
            have y12_7 : w4.heap.size + 1 < w12.heap.size := World.block_lt_of_cell? w12 _ c12_7_0
            have c12_8_0 : w12.cell? ⟨w7.heap.size, 0, none⟩ = some (.int .i64 u.1) := f12.cell_of (by go_simp)
            have c12_8_1 : w12.cell? ⟨w7.heap.size, 1, none⟩ = some (.int .i64 u.2) := f12.cell_of (by go_simp)
            have y12_8 : w7.heap.size < w12.heap.size := World.block_lt_of_cell? w12 _ c12_8_0
            have c12_9_0 : w12.cell? ⟨w7.heap.size + 1, 0, none⟩ = some (.int .i64 u.1) := f12.cell_of (by go_simp)
            have c12_9_1 : w12.cell? ⟨w7.heap.size + 1, 1, none⟩ = some (.int .i64 u.2) := f12.cell_of (by go_simp)
            have y12_9 : w7.heap.size + 1 < w12.heap.size := World.block_lt_of_cell? w12 _ c12_9_0
            have RR_12 := K.recs.ext (show K.recs false K.PtR _ 0 w4.heap.size (.slice lo_ ps.length cap_) ps from by with_reducible repeat' (first | exact RR | refine K.recs.alloc ?_ _ | refine K.recs.drew ?_ | refine K.recs.set (by decide) ?_ _ ?_ _ | (dsimp only; omega) | omega | (simp; done) | (simp; omega))) f12
            clear cr_0_0 cr_0_1 yr_0 cr_1_0 cr_1_1 yr_1 cr_2_0 cr_2_1 yr_2 cr_3_0 cr_3_1 yr_3 cr_4_0 cr_4_1 yr_4 cr_6_0 cr_6_1 yr_6 cr_7_0 cr_7_1 yr_7 cr_8_0 cr_8_1 yr_8 cr_9_0 cr_9_1 yr_9 RR XR f12
            by_cases hb : (Z.CrossingOf a b c d).2 = 0
            · as_aux_lemma =>
                obtain ⟨hC1, hC2, hC3, hC4, hC5, hC6, hC7⟩ := Z.crossings_law a b c d hb
                go_wp2_with fail
                refine K.call (by with_reducible rfl) (by with_reducible rfl) (impl_DoubleArea a b (Z.CrossingOf a b c d).1 _) ?_
                rintro e w13 ⟨rfl, f13⟩
                have F13 : K.Ext w w13 := K.Ext.trans (by repeat' (first | with_reducible exact F12 | with_reducible refine K.Ext.setCell ?_ ?_ _ | with_reducible refine K.Ext.alloc ?_ _ | with_reducible refine K.Ext.drew ?_ | (dsimp only; omega) | omega | (simp; omega))) f13
                have c13_0_0 : w13.cell? ⟨w1.heap.size, 0, none⟩ = some (.int .i64 a.1) := f13.cell_of (by go_simp)
                have c13_0_1 : w13.cell? ⟨w1.heap.size, 1, none⟩ = some (.int .i64 a.2) := f13.cell_of (by go_simp)
                have y13_0 : w1.heap.size < w13.heap.size := World.block_lt_of_cell? w13 _ c13_0_0
                have c13_1_0 : w13.cell? ⟨w1.heap.size + 1, 0, none⟩ = some (.int .i64 b.1) := f13.cell_of (by go_simp)
                have c13_1_1 : w13.cell? ⟨w1.heap.size + 1, 1, none⟩ = some (.int .i64 b.2) := f13.cell_of (by go_simp)
                have y13_1 : w1.heap.size + 1 < w13.heap.size := World.block_lt_of_cell? w13 _ c13_1_0
                have c13_2_0 : w13.cell? ⟨w1.heap.size + 1 + 1, 0, none⟩ = some (.int .i64 c.1) := f13.cell_of (by go_simp)
                have c13_2_1 : w13.cell? ⟨w1.heap.size + 1 + 1, 1, none⟩ = some (.int .i64 c.2) := f13.cell_of (by go_simp)
                have y13_2 : w1.heap.size + 1 + 1 < w13.heap.size := World.block_lt_of_cell? w13 _ c13_2_0
                have c13_3_0 : w13.cell? ⟨w1.heap.size + 1 + 1 + 1, 0, none⟩ = some (.int .i64 d.1) := f13.cell_of (by go_simp)
                have c13_3_1 : w13.cell? ⟨w1.heap.size + 1 + 1 + 1, 1, none⟩ = some (.int .i64 d.2) := f13.cell_of (by go_simp)
                have y13_3 : w1.heap.size + 1 + 1 + 1 < w13.heap.size := World.block_lt_of_cell? w13 _ c13_3_0
                have c13_4_0 : w13.cell? ⟨w2.heap.size, 0, none⟩ = some (.int .i64 (Z.CrossingOf a b c d).1.1) := f13.cell_of (by go_simp)
                have c13_4_1 : w13.cell? ⟨w2.heap.size, 1, none⟩ = some (.int .i64 (Z.CrossingOf a b c d).1.2) := f13.cell_of (by go_simp)
                have y13_4 : w2.heap.size < w13.heap.size := World.block_lt_of_cell? w13 _ c13_4_0
                have c13_6_0 : w13.cell? ⟨w4.heap.size, 0, none⟩ = some (.int .i64 x.1) := f13.cell_of (by go_simp)
                have c13_6_1 : w13.cell? ⟨w4.heap.size, 1, none⟩ = some (.int .i64 x.2) := f13.cell_of (by go_simp)
                have y13_6 : w4.heap.size < w13.heap.size := World.block_lt_of_cell? w13 _ c13_6_0
                have c13_7_0 : w13.cell? ⟨w4.heap.size + 1, 0, none⟩ = some (.int .i64 y.1) := f13.cell_of (by go_simp)
                have c13_7_1 : w13.cell? ⟨w4.heap.size + 1, 1, none⟩ = some (.int .i64 y.2) := f13.cell_of (by go_simp)
                have y13_7 : w4.heap.size + 1 < w13.heap.size := World.block_lt_of_cell? w13 _ c13_7_0
                clear c12_0_0 c12_0_1 y12_0 c12_1_0 c12_1_1 y12_1 c12_2_0 c12_2_1 y12_2 c12_3_0 c12_3_1 y12_3 c12_4_0 c12_4_1 y12_4 c12_6_0 c12_6_1 y12_6 c12_7_0 c12_7_1 y12_7 c12_8_0 c12_8_1 y12_8 c12_9_0 c12_9_1 y12_9 F12 f13
                go_wp2_with fail
                refine K.call (by with_reducible rfl) (by with_reducible rfl) (impl_DoubleArea c d (Z.CrossingOf a b c d).1 _) ?_
                rintro e w14 ⟨rfl, f14⟩
                have F14 : K.Ext w w14 := K.Ext.trans (by repeat' (first | with_reducible exact F13 | with_reducible refine K.Ext.setCell ?_ ?_ _ | with_reducible refine K.Ext.alloc ?_ _ | with_reducible refine K.Ext.drew ?_ | (dsimp only; omega) | omega | (simp; omega))) f14
                have c14_0_0 : w14.cell? ⟨w1.heap.size, 0, none⟩ = some (.int .i64 a.1) := f14.cell_of (by go_simp)
                have c14_0_1 : w14.cell? ⟨w1.heap.size, 1, none⟩ = some (.int .i64 a.2) := f14.cell_of (by go_simp)
                have y14_0 : w1.heap.size < w14.heap.size := World.block_lt_of_cell? w14 _ c14_0_0
                have c14_1_0 : w14.cell? ⟨w1.heap.size + 1, 0, none⟩ = some (.int .i64 b.1) := f14.cell_of (by go_simp)
                have c14_1_1 : w14.cell? ⟨w1.heap.size + 1, 1, none⟩ = some (.int .i64 b.2) := f14.cell_of (by go_simp)
                have y14_1 : w1.heap.size + 1 < w14.heap.size := World.block_lt_of_cell? w14 _ c14_1_0
                have c14_2_0 : w14.cell? ⟨w1.heap.size + 1 + 1, 0, none⟩ = some (.int .i64 c.1) := f14.cell_of (by go_simp)
                have c14_2_1 : w14.cell? ⟨w1.heap.size + 1 + 1, 1, none⟩ = some (.int .i64 c.2) := f14.cell_of (by go_simp)
                have y14_2 : w1.heap.size + 1 + 1 < w14.heap.size := World.block_lt_of_cell? w14 _ c14_2_0
                have c14_3_0 : w14.cell? ⟨w1.heap.size + 1 + 1 + 1, 0, none⟩ = some (.int .i64 d.1) := f14.cell_of (by go_simp)
                have c14_3_1 : w14.cell? ⟨w1.heap.size + 1 + 1 + 1, 1, none⟩ = some (.int .i64 d.2) := f14.cell_of (by go_simp)
                have y14_3 : w1.heap.size + 1 + 1 + 1 < w14.heap.size := World.block_lt_of_cell? w14 _ c14_3_0
                have c14_4_0 : w14.cell? ⟨w2.heap.size, 0, none⟩ = some (.int .i64 (Z.CrossingOf a b c d).1.1) := f14.cell_of (by go_simp)
                have c14_4_1 : w14.cell? ⟨w2.heap.size, 1, none⟩ = some (.int .i64 (Z.CrossingOf a b c d).1.2) := f14.cell_of (by go_simp)
                have y14_4 : w2.heap.size < w14.heap.size := World.block_lt_of_cell? w14 _ c14_4_0
                have c14_6_0 : w14.cell? ⟨w4.heap.size, 0, none⟩ = some (.int .i64 x.1) := f14.cell_of (by go_simp)
                have c14_6_1 : w14.cell? ⟨w4.heap.size, 1, none⟩ = some (.int .i64 x.2) := f14.cell_of (by go_simp)
                have y14_6 : w4.heap.size < w14.heap.size := World.block_lt_of_cell? w14 _ c14_6_0
                have c14_7_0 : w14.cell? ⟨w4.heap.size + 1, 0, none⟩ = some (.int .i64 y.1) := f14.cell_of (by go_simp)
                have c14_7_1 : w14.cell? ⟨w4.heap.size + 1, 1, none⟩ = some (.int .i64 y.2) := f14.cell_of (by go_simp)
                have y14_7 : w4.heap.size + 1 < w14.heap.size := World.block_lt_of_cell? w14 _ c14_7_0
                clear c13_0_0 c13_0_1 y13_0 c13_1_0 c13_1_1 y13_1 c13_2_0 c13_2_1 y13_2 c13_3_0 c13_3_1 y13_3 c13_4_0 c13_4_1 y13_4 c13_6_0 c13_6_1 y13_6 c13_7_0 c13_7_1 y13_7 F13 f14
                generalize (Z.CrossingOf a b c d).1 = P at *
                clear hN hlen
                have mma : 2 * max (Z.area a b P) (-(Z.area a b P)) ≤ max (b.1 - a.1) (a.1 - b.1) + max (b.2 - a.2) (a.2 - b.2) + 1 := by omega
                have wr1 : IntKind.i64.wrap (b.1 - a.1) = b.1 - a.1 := IntWalk.i64_in _ (by omega)
                have wr2 : IntKind.i64.wrap (a.1 - b.1) = a.1 - b.1 := IntWalk.i64_in _ (by omega)
                have wr3 : IntKind.i64.wrap (b.2 - a.2) = b.2 - a.2 := IntWalk.i64_in _ (by omega)
                have wr4 : IntKind.i64.wrap (a.2 - b.2) = a.2 - b.2 := IntWalk.i64_in _ (by omega)
                have wr5 : IntKind.i64.wrap (max (b.1 - a.1) (a.1 - b.1) + max (b.2 - a.2) (a.2 - b.2)) = max (b.1 - a.1) (a.1 - b.1) + max (b.2 - a.2) (a.2 - b.2) := IntWalk.i64_in _ (by omega)
                have wr6 : IntKind.i64.wrap (max (b.1 - a.1) (a.1 - b.1) + max (b.2 - a.2) (a.2 - b.2) + 1) = max (b.1 - a.1) (a.1 - b.1) + max (b.2 - a.2) (a.2 - b.2) + 1 := IntWalk.i64_in _ (by omega)
                have nba : -1000000 ≤ Z.area a b P ∧ Z.area a b P ≤ 1000000 := by omega
                have wr7 : IntKind.i64.wrap (-(Z.area a b P)) = -(Z.area a b P) := IntWalk.i64_in _ (by omega)
                have wr8 : IntKind.i64.wrap (2 * max (Z.area a b P) (-(Z.area a b P))) = 2 * max (Z.area a b P) (-(Z.area a b P)) := IntWalk.i64_in _ (by omega)
                have mmc : 2 * max (Z.area c d P) (-(Z.area c d P)) ≤ max (d.1 - c.1) (c.1 - d.1) + max (d.2 - c.2) (c.2 - d.2) + 1 := by omega
                have wr9 : IntKind.i64.wrap (d.1 - c.1) = d.1 - c.1 := IntWalk.i64_in _ (by omega)
                have wr10 : IntKind.i64.wrap (c.1 - d.1) = c.1 - d.1 := IntWalk.i64_in _ (by omega)
                have wr11 : IntKind.i64.wrap (d.2 - c.2) = d.2 - c.2 := IntWalk.i64_in _ (by omega)
                have wr12 : IntKind.i64.wrap (c.2 - d.2) = c.2 - d.2 := IntWalk.i64_in _ (by omega)
                have wr13 : IntKind.i64.wrap (max (d.1 - c.1) (c.1 - d.1) + max (d.2 - c.2) (c.2 - d.2)) = max (d.1 - c.1) (c.1 - d.1) + max (d.2 - c.2) (c.2 - d.2) := IntWalk.i64_in _ (by omega)
                have wr14 : IntKind.i64.wrap (max (d.1 - c.1) (c.1 - d.1) + max (d.2 - c.2) (c.2 - d.2) + 1) = max (d.1 - c.1) (c.1 - d.1) + max (d.2 - c.2) (c.2 - d.2) + 1 := IntWalk.i64_in _ (by omega)
                have nbc : -1000000 ≤ Z.area c d P ∧ Z.area c d P ≤ 1000000 := by omega
                have wr15 : IntKind.i64.wrap (-(Z.area c d P)) = -(Z.area c d P) := IntWalk.i64_in _ (by omega)
                have wr16 : IntKind.i64.wrap (2 * max (Z.area c d P) (-(Z.area c d P))) = 2 * max (Z.area c d P) (-(Z.area c d P)) := IntWalk.i64_in _ (by omega)
                clear hC3 hC4 hC5 hC6 hC7
                generalize Z.area a b P = A1 at *
                generalize Z.area c d P = A2 at *
                go_wp2_with fail
                go_ret
                exact ⟨rfl, (by repeat' (first | with_reducible exact F14 | with_reducible refine K.Ext.setCell ?_ ?_ _ | with_reducible refine K.Ext.alloc ?_ _ | with_reducible refine K.Ext.drew ?_ | (dsimp only; omega) | omega | (simp; omega)))⟩
            go_wp2_with fail
            go_ret
            exact ⟨rfl, (by repeat' (first | with_reducible exact F12 | with_reducible refine K.Ext.setCell ?_ ?_ _ | with_reducible refine K.Ext.alloc ?_ _ | with_reducible refine K.Ext.drew ?_ | (dsimp only; omega) | omega | (simp; omega)))⟩
        · as_aux_lemma =>
            go_wp2_with fail
            refine K.call (by with_reducible rfl) (by with_reducible rfl) (impl_SquareBetween _ _ _) ?_
            rintro e w12 ⟨rfl, f12⟩
            have F12 : K.Ext w w12 := K.Ext.trans (by repeat' (first | with_reducible exact XR | with_reducible refine K.Ext.setCell ?_ ?_ _ | with_reducible refine K.Ext.alloc ?_ _ | with_reducible refine K.Ext.drew ?_ | (dsimp only; omega) | omega | (simp; omega))) f12
            have c12_0_0 : w12.cell? ⟨w1.heap.size, 0, none⟩ = some (.int .i64 a.1) := f12.cell_of (by go_simp)
            have c12_0_1 : w12.cell? ⟨w1.heap.size, 1, none⟩ = some (.int .i64 a.2) := f12.cell_of (by go_simp)
            have y12_0 : w1.heap.size < w12.heap.size := World.block_lt_of_cell? w12 _ c12_0_0
            have c12_1_0 : w12.cell? ⟨w1.heap.size + 1, 0, none⟩ = some (.int .i64 b.1) := f12.cell_of (by go_simp)
            have c12_1_1 : w12.cell? ⟨w1.heap.size + 1, 1, none⟩ = some (.int .i64 b.2) := f12.cell_of (by go_simp)
            have y12_1 : w1.heap.size + 1 < w12.heap.size := World.block_lt_of_cell? w12 _ c12_1_0
            have c12_2_0 : w12.cell? ⟨w1.heap.size + 1 + 1, 0, none⟩ = some (.int .i64 c.1) := f12.cell_of (by go_simp)
            have c12_2_1 : w12.cell? ⟨w1.heap.size + 1 + 1, 1, none⟩ = some (.int .i64 c.2) := f12.cell_of (by go_simp)
            have y12_2 : w1.heap.size + 1 + 1 < w12.heap.size := World.block_lt_of_cell? w12 _ c12_2_0
            have c12_3_0 : w12.cell? ⟨w1.heap.size + 1 + 1 + 1, 0, none⟩ = some (.int .i64 d.1) := f12.cell_of (by go_simp)
            have c12_3_1 : w12.cell? ⟨w1.heap.size + 1 + 1 + 1, 1, none⟩ = some (.int .i64 d.2) := f12.cell_of (by go_simp)
            have y12_3 : w1.heap.size + 1 + 1 + 1 < w12.heap.size := World.block_lt_of_cell? w12 _ c12_3_0
            have c12_4_0 : w12.cell? ⟨w2.heap.size, 0, none⟩ = some (.int .i64 (Z.CrossingOf a b c d).1.1) := f12.cell_of (by go_simp)
            have c12_4_1 : w12.cell? ⟨w2.heap.size, 1, none⟩ = some (.int .i64 (Z.CrossingOf a b c d).1.2) := f12.cell_of (by go_simp)
            have y12_4 : w2.heap.size < w12.heap.size := World.block_lt_of_cell? w12 _ c12_4_0
            have c12_6_0 : w12.cell? ⟨w4.heap.size, 0, none⟩ = some (.int .i64 x.1) := f12.cell_of (by go_simp)
            have c12_6_1 : w12.cell? ⟨w4.heap.size, 1, none⟩ = some (.int .i64 x.2) := f12.cell_of (by go_simp)
            have y12_6 : w4.heap.size < w12.heap.size := World.block_lt_of_cell? w12 _ c12_6_0
            have c12_7_0 : w12.cell? ⟨w4.heap.size + 1, 0, none⟩ = some (.int .i64 y.1) := f12.cell_of (by go_simp)
            have c12_7_1 : w12.cell? ⟨w4.heap.size + 1, 1, none⟩ = some (.int .i64 y.2) := f12.cell_of (by go_simp)
            have y12_7 : w4.heap.size + 1 < w12.heap.size := World.block_lt_of_cell? w12 _ c12_7_0
            have c12_8_0 : w12.cell? ⟨w7.heap.size, 0, none⟩ = some (.int .i64 u.1) := f12.cell_of (by go_simp)
            have c12_8_1 : w12.cell? ⟨w7.heap.size, 1, none⟩ = some (.int .i64 u.2) := f12.cell_of (by go_simp)
            have y12_8 : w7.heap.size < w12.heap.size := World.block_lt_of_cell? w12 _ c12_8_0
            have c12_9_0 : w12.cell? ⟨w7.heap.size + 1, 0, none⟩ = some (.int .i64 t.1) := f12.cell_of (by go_simp)
            have c12_9_1 : w12.cell? ⟨w7.heap.size + 1, 1, none⟩ = some (.int .i64 t.2) := f12.cell_of (by go_simp)
            have y12_9 : w7.heap.size + 1 < w12.heap.size := World.block_lt_of_cell? w12 _ c12_9_0
            have RR_12 := K.recs.ext (show K.recs false K.PtR _ 0 w4.heap.size (.slice lo_ ps.length cap_) ps from by with_reducible repeat' (first | exact RR | refine K.recs.alloc ?_ _ | refine K.recs.drew ?_ | refine K.recs.set (by decide) ?_ _ ?_ _ | (dsimp only; omega) | omega | (simp; done) | (simp; omega))) f12
            clear cr_0_0 cr_0_1 yr_0 cr_1_0 cr_1_1 yr_1 cr_2_0 cr_2_1 yr_2 cr_3_0 cr_3_1 yr_3 cr_4_0 cr_4_1 yr_4 cr_6_0 cr_6_1 yr_6 cr_7_0 cr_7_1 yr_7 cr_8_0 cr_8_1 yr_8 cr_9_0 cr_9_1 yr_9 RR XR f12
            by_cases hb : (Z.CrossingOf a b c d).2 = 0
            · as_aux_lemma =>
                obtain ⟨hC1, hC2, hC3, hC4, hC5, hC6, hC7⟩ := Z.crossings_law a b c d hb
                go_wp2_with fail
                refine K.call (by with_reducible rfl) (by with_reducible rfl) (impl_DoubleArea a b (Z.CrossingOf a b c d).1 _) ?_
                rintro e w13 ⟨rfl, f13⟩
                have F13 : K.Ext w w13 := K.Ext.trans (by repeat' (first | with_reducible exact F12 | with_reducible refine K.Ext.setCell ?_ ?_ _ | with_reducible refine K.Ext.alloc ?_ _ | with_reducible refine K.Ext.drew ?_ | (dsimp only; omega) | omega | (simp; omega))) f13
                have c13_0_0 : w13.cell? ⟨w1.heap.size, 0, none⟩ = some (.int .i64 a.1) := f13.cell_of (by go_simp)
                have c13_0_1 : w13.cell? ⟨w1.heap.size, 1, none⟩ = some (.int .i64 a.2) := f13.cell_of (by go_simp)
                have y13_0 : w1.heap.size < w13.heap.size := World.block_lt_of_cell? w13 _ c13_0_0
                have c13_1_0 : w13.cell? ⟨w1.heap.size + 1, 0, none⟩ = some (.int .i64 b.1) := f13.cell_of (by go_simp)
                have c13_1_1 : w13.cell? ⟨w1.heap.size + 1, 1, none⟩ = some (.int .i64 b.2) := f13.cell_of (by go_simp)
                have y13_1 : w1.heap.size + 1 < w13.heap.size := World.block_lt_of_cell? w13 _ c13_1_0
                have c13_2_0 : w13.cell? ⟨w1.heap.size + 1 + 1, 0, none⟩ = some (.int .i64 c.1) := f13.cell_of (by go_simp)
                have c13_2_1 : w13.cell? ⟨w1.heap.size + 1 + 1, 1, none⟩ = some (.int .i64 c.2) := f13.cell_of (by go_simp)
                have y13_2 : w1.heap.size + 1 + 1 < w13.heap.size := World.block_lt_of_cell? w13 _ c13_2_0
                have c13_3_0 : w13.cell? ⟨w1.heap.size + 1 + 1 + 1, 0, none⟩ = some (.int .i64 d.1) := f13.cell_of (by go_simp)
                have c13_3_1 : w13.cell? ⟨w1.heap.size + 1 + 1 + 1, 1, none⟩ = some (.int .i64 d.2) := f13.cell_of (by go_simp)
                have y13_3 : w1.heap.size + 1 + 1 + 1 < w13.heap.size := World.block_lt_of_cell? w13 _ c13_3_0
                have c13_4_0 : w13.cell? ⟨w2.heap.size, 0, none⟩ = some (.int .i64 (Z.CrossingOf a b c d).1.1) := f13.cell_of (by go_simp)
                have c13_4_1 : w13.cell? ⟨w2.heap.size, 1, none⟩ = some (.int .i64 (Z.CrossingOf a b c d).1.2) := f13.cell_of (by go_simp)
                have y13_4 : w2.heap.size < w13.heap.size := World.block_lt_of_cell? w13 _ c13_4_0
                have c13_6_0 : w13.cell? ⟨w4.heap.size, 0, none⟩ = some (.int .i64 x.1) := f13.cell_of (by go_simp)
                have c13_6_1 : w13.cell? ⟨w4.heap.size, 1, none⟩ = some (.int .i64 x.2) := f13.cell_of (by go_simp)
                have y13_6 : w4.heap.size < w13.heap.size := World.block_lt_of_cell? w13 _ c13_6_0
                have c13_7_0 : w13.cell? ⟨w4.heap.size + 1, 0, none⟩ = some (.int .i64 y.1) := f13.cell_of (by go_simp)
                have c13_7_1 : w13.cell? ⟨w4.heap.size + 1, 1, none⟩ = some (.int .i64 y.2) := f13.cell_of (by go_simp)
                have y13_7 : w4.heap.size + 1 < w13.heap.size := World.block_lt_of_cell? w13 _ c13_7_0
                clear c12_0_0 c12_0_1 y12_0 c12_1_0 c12_1_1 y12_1 c12_2_0 c12_2_1 y12_2 c12_3_0 c12_3_1 y12_3 c12_4_0 c12_4_1 y12_4 c12_6_0 c12_6_1 y12_6 c12_7_0 c12_7_1 y12_7 c12_8_0 c12_8_1 y12_8 c12_9_0 c12_9_1 y12_9 F12 f13
                go_wp2_with fail
                refine K.call (by with_reducible rfl) (by with_reducible rfl) (impl_DoubleArea c d (Z.CrossingOf a b c d).1 _) ?_
                rintro e w14 ⟨rfl, f14⟩
                have F14 : K.Ext w w14 := K.Ext.trans (by repeat' (first | with_reducible exact F13 | with_reducible refine K.Ext.setCell ?_ ?_ _ | with_reducible refine K.Ext.alloc ?_ _ | with_reducible refine K.Ext.drew ?_ | (dsimp only; omega) | omega | (simp; omega))) f14
                have c14_0_0 : w14.cell? ⟨w1.heap.size, 0, none⟩ = some (.int .i64 a.1) := f14.cell_of (by go_simp)
                have c14_0_1 : w14.cell? ⟨w1.heap.size, 1, none⟩ = some (.int .i64 a.2) := f14.cell_of (by go_simp)
                have y14_0 : w1.heap.size < w14.heap.size := World.block_lt_of_cell? w14 _ c14_0_0
                have c14_1_0 : w14.cell? ⟨w1.heap.size + 1, 0, none⟩ = some (.int .i64 b.1) := f14.cell_of (by go_simp)
                have c14_1_1 : w14.cell? ⟨w1.heap.size + 1, 1, none⟩ = some (.int .i64 b.2) := f14.cell_of (by go_simp)
                have y14_1 : w1.heap.size + 1 < w14.heap.size := World.block_lt_of_cell? w14 _ c14_1_0
                have c14_2_0 : w14.cell? ⟨w1.heap.size + 1 + 1, 0, none⟩ = some (.int .i64 c.1) := f14.cell_of (by go_simp)
                have c14_2_1 : w14.cell? ⟨w1.heap.size + 1 + 1, 1, none⟩ = some (.int .i64 c.2) := f14.cell_of (by go_simp)
                have y14_2 : w1.heap.size + 1 + 1 < w14.heap.size := World.block_lt_of_cell? w14 _ c14_2_0
                have c14_3_0 : w14.cell? ⟨w1.heap.size + 1 + 1 + 1, 0, none⟩ = some (.int .i64 d.1) := f14.cell_of (by go_simp)
                have c14_3_1 : w14.cell? ⟨w1.heap.size + 1 + 1 + 1, 1, none⟩ = some (.int .i64 d.2) := f14.cell_of (by go_simp)
                have y14_3 : w1.heap.size + 1 + 1 + 1 < w14.heap.size := World.block_lt_of_cell? w14 _ c14_3_0
                have c14_4_0 : w14.cell? ⟨w2.heap.size, 0, none⟩ = some (.int .i64 (Z.CrossingOf a b c d).1.1) := f14.cell_of (by go_simp)
                have c14_4_1 : w14.cell? ⟨w2.heap.size, 1, none⟩ = some (.int .i64 (Z.CrossingOf a b c d).1.2) := f14.cell_of (by go_simp)
                have y14_4 : w2.heap.size < w14.heap.size := World.block_lt_of_cell? w14 _ c14_4_0
                have c14_6_0 : w14.cell? ⟨w4.heap.size, 0, none⟩ = some (.int .i64 x.1) := f14.cell_of (by go_simp)
                have c14_6_1 : w14.cell? ⟨w4.heap.size, 1, none⟩ = some (.int .i64 x.2) := f14.cell_of (by go_simp)
                have y14_6 : w4.heap.size < w14.heap.size := World.block_lt_of_cell? w14 _ c14_6_0
                have c14_7_0 : w14.cell? ⟨w4.heap.size + 1, 0, none⟩ = some (.int .i64 y.1) := f14.cell_of (by go_simp)
                have c14_7_1 : w14.cell? ⟨w4.heap.size + 1, 1, none⟩ = some (.int .i64 y.2) := f14.cell_of (by go_simp)
                have y14_7 : w4.heap.size + 1 < w14.heap.size := World.block_lt_of_cell? w14 _ c14_7_0
                clear c13_0_0 c13_0_1 y13_0 c13_1_0 c13_1_1 y13_1 c13_2_0 c13_2_1 y13_2 c13_3_0 c13_3_1 y13_3 c13_4_0 c13_4_1 y13_4 c13_6_0 c13_6_1 y13_6 c13_7_0 c13_7_1 y13_7 F13 f14
                generalize (Z.CrossingOf a b c d).1 = P at *
                clear hN hlen
                have mma : 2 * max (Z.area a b P) (-(Z.area a b P)) ≤ max (b.1 - a.1) (a.1 - b.1) + max (b.2 - a.2) (a.2 - b.2) + 1 := by omega
                have wr1 : IntKind.i64.wrap (b.1 - a.1) = b.1 - a.1 := IntWalk.i64_in _ (by omega)
                have wr2 : IntKind.i64.wrap (a.1 - b.1) = a.1 - b.1 := IntWalk.i64_in _ (by omega)
                have wr3 : IntKind.i64.wrap (b.2 - a.2) = b.2 - a.2 := IntWalk.i64_in _ (by omega)
                have wr4 : IntKind.i64.wrap (a.2 - b.2) = a.2 - b.2 := IntWalk.i64_in _ (by omega)
                have wr5 : IntKind.i64.wrap (max (b.1 - a.1) (a.1 - b.1) + max (b.2 - a.2) (a.2 - b.2)) = max (b.1 - a.1) (a.1 - b.1) + max (b.2 - a.2) (a.2 - b.2) := IntWalk.i64_in _ (by omega)
                have wr6 : IntKind.i64.wrap (max (b.1 - a.1) (a.1 - b.1) + max (b.2 - a.2) (a.2 - b.2) + 1) = max (b.1 - a.1) (a.1 - b.1) + max (b.2 - a.2) (a.2 - b.2) + 1 := IntWalk.i64_in _ (by omega)
                have nba : -1000000 ≤ Z.area a b P ∧ Z.area a b P ≤ 1000000 := by omega
                have wr7 : IntKind.i64.wrap (-(Z.area a b P)) = -(Z.area a b P) := IntWalk.i64_in _ (by omega)
                have wr8 : IntKind.i64.wrap (2 * max (Z.area a b P) (-(Z.area a b P))) = 2 * max (Z.area a b P) (-(Z.area a b P)) := IntWalk.i64_in _ (by omega)
                have mmc : 2 * max (Z.area c d P) (-(Z.area c d P)) ≤ max (d.1 - c.1) (c.1 - d.1) + max (d.2 - c.2) (c.2 - d.2) + 1 := by omega
                have wr9 : IntKind.i64.wrap (d.1 - c.1) = d.1 - c.1 := IntWalk.i64_in _ (by omega)
                have wr10 : IntKind.i64.wrap (c.1 - d.1) = c.1 - d.1 := IntWalk.i64_in _ (by omega)
                have wr11 : IntKind.i64.wrap (d.2 - c.2) = d.2 - c.2 := IntWalk.i64_in _ (by omega)
                have wr12 : IntKind.i64.wrap (c.2 - d.2) = c.2 - d.2 := IntWalk.i64_in _ (by omega)
                have wr13 : IntKind.i64.wrap (max (d.1 - c.1) (c.1 - d.1) + max (d.2 - c.2) (c.2 - d.2)) = max (d.1 - c.1) (c.1 - d.1) + max (d.2 - c.2) (c.2 - d.2) := IntWalk.i64_in _ (by omega)
                have wr14 : IntKind.i64.wrap (max (d.1 - c.1) (c.1 - d.1) + max (d.2 - c.2) (c.2 - d.2) + 1) = max (d.1 - c.1) (c.1 - d.1) + max (d.2 - c.2) (c.2 - d.2) + 1 := IntWalk.i64_in _ (by omega)
                have nbc : -1000000 ≤ Z.area c d P ∧ Z.area c d P ≤ 1000000 := by omega
                have wr15 : IntKind.i64.wrap (-(Z.area c d P)) = -(Z.area c d P) := IntWalk.i64_in _ (by omega)
                have wr16 : IntKind.i64.wrap (2 * max (Z.area c d P) (-(Z.area c d P))) = 2 * max (Z.area c d P) (-(Z.area c d P)) := IntWalk.i64_in _ (by omega)
                clear hC3 hC4 hC5 hC6 hC7
                generalize Z.area a b P = A1 at *
                generalize Z.area c d P = A2 at *
                go_wp2_with fail
                go_ret
                exact ⟨rfl, (by repeat' (first | with_reducible exact F14 | with_reducible refine K.Ext.setCell ?_ ?_ _ | with_reducible refine K.Ext.alloc ?_ _ | with_reducible refine K.Ext.drew ?_ | (dsimp only; omega) | omega | (simp; omega)))⟩
            go_wp2_with fail
            go_ret
            exact ⟨rfl, (by repeat' (first | with_reducible exact F12 | with_reducible refine K.Ext.setCell ?_ ?_ _ | with_reducible refine K.Ext.alloc ?_ _ | with_reducible refine K.Ext.drew ?_ | (dsimp only; omega) | omega | (simp; omega)))⟩
        · as_aux_lemma =>
            go_wp2_with fail
            refine K.call (by with_reducible rfl) (by with_reducible rfl) (impl_SquareBetween _ _ _) ?_
            rintro e w12 ⟨rfl, f12⟩
            have F12 : K.Ext w w12 := K.Ext.trans (by repeat' (first | with_reducible exact XR | with_reducible refine K.Ext.setCell ?_ ?_ _ | with_reducible refine K.Ext.alloc ?_ _ | with_reducible refine K.Ext.drew ?_ | (dsimp only; omega) | omega | (simp; omega))) f12
            have c12_0_0 : w12.cell? ⟨w1.heap.size, 0, none⟩ = some (.int .i64 a.1) := f12.cell_of (by go_simp)
            have c12_0_1 : w12.cell? ⟨w1.heap.size, 1, none⟩ = some (.int .i64 a.2) := f12.cell_of (by go_simp)
            have y12_0 : w1.heap.size < w12.heap.size := World.block_lt_of_cell? w12 _ c12_0_0
            have c12_1_0 : w12.cell? ⟨w1.heap.size + 1, 0, none⟩ = some (.int .i64 b.1) := f12.cell_of (by go_simp)
            have c12_1_1 : w12.cell? ⟨w1.heap.size + 1, 1, none⟩ = some (.int .i64 b.2) := f12.cell_of (by go_simp)
            have y12_1 : w1.heap.size + 1 < w12.heap.size := World.block_lt_of_cell? w12 _ c12_1_0
            have c12_2_0 : w12.cell? ⟨w1.heap.size + 1 + 1, 0, none⟩ = some (.int .i64 c.1) := f12.cell_of (by go_simp)
            have c12_2_1 : w12.cell? ⟨w1.heap.size + 1 + 1, 1, none⟩ = some (.int .i64 c.2) := f12.cell_of (by go_simp)
            have y12_2 : w1.heap.size + 1 + 1 < w12.heap.size := World.block_lt_of_cell? w12 _ c12_2_0
            have c12_3_0 : w12.cell? ⟨w1.heap.size + 1 + 1 + 1, 0, none⟩ = some (.int .i64 d.1) := f12.cell_of (by go_simp)
            have c12_3_1 : w12.cell? ⟨w1.heap.size + 1 + 1 + 1, 1, none⟩ = some (.int .i64 d.2) := f12.cell_of (by go_simp)
            have y12_3 : w1.heap.size + 1 + 1 + 1 < w12.heap.size := World.block_lt_of_cell? w12 _ c12_3_0
            have c12_4_0 : w12.cell? ⟨w2.heap.size, 0, none⟩ = some (.int .i64 (Z.CrossingOf a b c d).1.1) := f12.cell_of (by go_simp)
            have c12_4_1 : w12.cell? ⟨w2.heap.size, 1, none⟩ = some (.int .i64 (Z.CrossingOf a b c d).1.2) := f12.cell_of (by go_simp)
            have y12_4 : w2.heap.size < w12.heap.size := World.block_lt_of_cell? w12 _ c12_4_0
            have c12_6_0 : w12.cell? ⟨w4.heap.size, 0, none⟩ = some (.int .i64 x.1) := f12.cell_of (by go_simp)
            have c12_6_1 : w12.cell? ⟨w4.heap.size, 1, none⟩ = some (.int .i64 x.2) := f12.cell_of (by go_simp)
            have y12_6 : w4.heap.size < w12.heap.size := World.block_lt_of_cell? w12 _ c12_6_0
            have c12_7_0 : w12.cell? ⟨w4.heap.size + 1, 0, none⟩ = some (.int .i64 y.1) := f12.cell_of (by go_simp)
            have c12_7_1 : w12.cell? ⟨w4.heap.size + 1, 1, none⟩ = some (.int .i64 y.2) := f12.cell_of (by go_simp)
            have y12_7 : w4.heap.size + 1 < w12.heap.size := World.block_lt_of_cell? w12 _ c12_7_0
            have c12_8_0 : w12.cell? ⟨w7.heap.size, 0, none⟩ = some (.int .i64 u.1) := f12.cell_of (by go_simp)
            have c12_8_1 : w12.cell? ⟨w7.heap.size, 1, none⟩ = some (.int .i64 u.2) := f12.cell_of (by go_simp)
            have y12_8 : w7.heap.size < w12.heap.size := World.block_lt_of_cell? w12 _ c12_8_0
            have c12_9_0 : w12.cell? ⟨w7.heap.size + 1, 0, none⟩ = some (.int .i64 t.1) := f12.cell_of (by go_simp)
            have c12_9_1 : w12.cell? ⟨w7.heap.size + 1, 1, none⟩ = some (.int .i64 t.2) := f12.cell_of (by go_simp)
            have y12_9 : w7.heap.size + 1 < w12.heap.size := World.block_lt_of_cell? w12 _ c12_9_0
            have RR_12 := K.recs.ext (show K.recs false K.PtR _ 0 w4.heap.size (.slice lo_ ps.length cap_) ps from by with_reducible repeat' (first | exact RR | refine K.recs.alloc ?_ _ | refine K.recs.drew ?_ | refine K.recs.set (by decide) ?_ _ ?_ _ | (dsimp only; omega) | omega | (simp; done) | (simp; omega))) f12
            clear cr_0_0 cr_0_1 yr_0 cr_1_0 cr_1_1 yr_1 cr_2_0 cr_2_1 yr_2 cr_3_0 cr_3_1 yr_3 cr_4_0 cr_4_1 yr_4 cr_6_0 cr_6_1 yr_6 cr_7_0 cr_7_1 yr_7 cr_8_0 cr_8_1 yr_8 cr_9_0 cr_9_1 yr_9 RR XR f12
            by_cases hb : (Z.CrossingOf a b c d).2 = 0
            · as_aux_lemma =>
                obtain ⟨hC1, hC2, hC3, hC4, hC5, hC6, hC7⟩ := Z.crossings_law a b c d hb
                go_wp2_with fail
                refine K.call (by with_reducible rfl) (by with_reducible rfl) (impl_DoubleArea a b (Z.CrossingOf a b c d).1 _) ?_
                rintro e w13 ⟨rfl, f13⟩
                have F13 : K.Ext w w13 := K.Ext.trans (by repeat' (first | with_reducible exact F12 | with_reducible refine K.Ext.setCell ?_ ?_ _ | with_reducible refine K.Ext.alloc ?_ _ | with_reducible refine K.Ext.drew ?_ | (dsimp only; omega) | omega | (simp; omega))) f13
                have c13_0_0 : w13.cell? ⟨w1.heap.size, 0, none⟩ = some (.int .i64 a.1) := f13.cell_of (by go_simp)
                have c13_0_1 : w13.cell? ⟨w1.heap.size, 1, none⟩ = some (.int .i64 a.2) := f13.cell_of (by go_simp)
                have y13_0 : w1.heap.size < w13.heap.size := World.block_lt_of_cell? w13 _ c13_0_0
                have c13_1_0 : w13.cell? ⟨w1.heap.size + 1, 0, none⟩ = some (.int .i64 b.1) := f13.cell_of (by go_simp)
                have c13_1_1 : w13.cell? ⟨w1.heap.size + 1, 1, none⟩ = some (.int .i64 b.2) := f13.cell_of (by go_simp)
                have y13_1 : w1.heap.size + 1 < w13.heap.size := World.block_lt_of_cell? w13 _ c13_1_0
                have c13_2_0 : w13.cell? ⟨w1.heap.size + 1 + 1, 0, none⟩ = some (.int .i64 c.1) := f13.cell_of (by go_simp)
                have c13_2_1 : w13.cell? ⟨w1.heap.size + 1 + 1, 1, none⟩ = some (.int .i64 c.2) := f13.cell_of (by go_simp)
                have y13_2 : w1.heap.size + 1 + 1 < w13.heap.size := World.block_lt_of_cell? w13 _ c13_2_0
                have c13_3_0 : w13.cell? ⟨w1.heap.size + 1 + 1 + 1, 0, none⟩ = some (.int .i64 d.1) := f13.cell_of (by go_simp)
                have c13_3_1 : w13.cell? ⟨w1.heap.size + 1 + 1 + 1, 1, none⟩ = some (.int .i64 d.2) := f13.cell_of (by go_simp)
                have y13_3 : w1.heap.size + 1 + 1 + 1 < w13.heap.size := World.block_lt_of_cell? w13 _ c13_3_0
                have c13_4_0 : w13.cell? ⟨w2.heap.size, 0, none⟩ = some (.int .i64 (Z.CrossingOf a b c d).1.1) := f13.cell_of (by go_simp)
                have c13_4_1 : w13.cell? ⟨w2.heap.size, 1, none⟩ = some (.int .i64 (Z.CrossingOf a b c d).1.2) := f13.cell_of (by go_simp)
                have y13_4 : w2.heap.size < w13.heap.size := World.block_lt_of_cell? w13 _ c13_4_0
                have c13_6_0 : w13.cell? ⟨w4.heap.size, 0, none⟩ = some (.int .i64 x.1) := f13.cell_of (by go_simp)
                have c13_6_1 : w13.cell? ⟨w4.heap.size, 1, none⟩ = some (.int .i64 x.2) := f13.cell_of (by go_simp)
                have y13_6 : w4.heap.size < w13.heap.size := World.block_lt_of_cell? w13 _ c13_6_0
                have c13_7_0 : w13.cell? ⟨w4.heap.size + 1, 0, none⟩ = some (.int .i64 y.1) := f13.cell_of (by go_simp)
                have c13_7_1 : w13.cell? ⟨w4.heap.size + 1, 1, none⟩ = some (.int .i64 y.2) := f13.cell_of (by go_simp)
                have y13_7 : w4.heap.size + 1 < w13.heap.size := World.block_lt_of_cell? w13 _ c13_7_0
                clear c12_0_0 c12_0_1 y12_0 c12_1_0 c12_1_1 y12_1 c12_2_0 c12_2_1 y12_2 c12_3_0 c12_3_1 y12_3 c12_4_0 c12_4_1 y12_4 c12_6_0 c12_6_1 y12_6 c12_7_0 c12_7_1 y12_7 c12_8_0 c12_8_1 y12_8 c12_9_0 c12_9_1 y12_9 F12 f13
                go_wp2_with fail
                refine K.call (by with_reducible rfl) (by with_reducible rfl) (impl_DoubleArea c d (Z.CrossingOf a b c d).1 _) ?_
                rintro e w14 ⟨rfl, f14⟩
                have F14 : K.Ext w w14 := K.Ext.trans (by repeat' (first | with_reducible exact F13 | with_reducible refine K.Ext.setCell ?_ ?_ _ | with_reducible refine K.Ext.alloc ?_ _ | with_reducible refine K.Ext.drew ?_ | (dsimp only; omega) | omega | (simp; omega))) f14
                have c14_0_0 : w14.cell? ⟨w1.heap.size, 0, none⟩ = some (.int .i64 a.1) := f14.cell_of (by go_simp)
                have c14_0_1 : w14.cell? ⟨w1.heap.size, 1, none⟩ = some (.int .i64 a.2) := f14.cell_of (by go_simp)
                have y14_0 : w1.heap.size < w14.heap.size := World.block_lt_of_cell? w14 _ c14_0_0
                have c14_1_0 : w14.cell? ⟨w1.heap.size + 1, 0, none⟩ = some (.int .i64 b.1) := f14.cell_of (by go_simp)
                have c14_1_1 : w14.cell? ⟨w1.heap.size + 1, 1, none⟩ = some (.int .i64 b.2) := f14.cell_of (by go_simp)
                have y14_1 : w1.heap.size + 1 < w14.heap.size := World.block_lt_of_cell? w14 _ c14_1_0
                have c14_2_0 : w14.cell? ⟨w1.heap.size + 1 + 1, 0, none⟩ = some (.int .i64 c.1) := f14.cell_of (by go_simp)
                have c14_2_1 : w14.cell? ⟨w1.heap.size + 1 + 1, 1, none⟩ = some (.int .i64 c.2) := f14.cell_of (by go_simp)
                have y14_2 : w1.heap.size + 1 + 1 < w14.heap.size := World.block_lt_of_cell? w14 _ c14_2_0
                have c14_3_0 : w14.cell? ⟨w1.heap.size + 1 + 1 + 1, 0, none⟩ = some (.int .i64 d.1) := f14.cell_of (by go_simp)
                have c14_3_1 : w14.cell? ⟨w1.heap.size + 1 + 1 + 1, 1, none⟩ = some (.int .i64 d.2) := f14.cell_of (by go_simp)
                have y14_3 : w1.heap.size + 1 + 1 + 1 < w14.heap.size := World.block_lt_of_cell? w14 _ c14_3_0
                have c14_4_0 : w14.cell? ⟨w2.heap.size, 0, none⟩ = some (.int .i64 (Z.CrossingOf a b c d).1.1) := f14.cell_of (by go_simp)
                have c14_4_1 : w14.cell? ⟨w2.heap.size, 1, none⟩ = some (.int .i64 (Z.CrossingOf a b c d).1.2) := f14.cell_of (by go_simp)
                have y14_4 : w2.heap.size < w14.heap.size := World.block_lt_of_cell? w14 _ c14_4_0
                have c14_6_0 : w14.cell? ⟨w4.heap.size, 0, none⟩ = some (.int .i64 x.1) := f14.cell_of (by go_simp)
                have c14_6_1 : w14.cell? ⟨w4.heap.size, 1, none⟩ = some (.int .i64 x.2) := f14.cell_of (by go_simp)
                have y14_6 : w4.heap.size < w14.heap.size := World.block_lt_of_cell? w14 _ c14_6_0
                have c14_7_0 : w14.cell? ⟨w4.heap.size + 1, 0, none⟩ = some (.int .i64 y.1) := f14.cell_of (by go_simp)
                have c14_7_1 : w14.cell? ⟨w4.heap.size + 1, 1, none⟩ = some (.int .i64 y.2) := f14.cell_of (by go_simp)
                have y14_7 : w4.heap.size + 1 < w14.heap.size := World.block_lt_of_cell? w14 _ c14_7_0
                clear c13_0_0 c13_0_1 y13_0 c13_1_0 c13_1_1 y13_1 c13_2_0 c13_2_1 y13_2 c13_3_0 c13_3_1 y13_3 c13_4_0 c13_4_1 y13_4 c13_6_0 c13_6_1 y13_6 c13_7_0 c13_7_1 y13_7 F13 f14
                generalize (Z.CrossingOf a b c d).1 = P at *
                clear hN hlen
                have mma : 2 * max (Z.area a b P) (-(Z.area a b P)) ≤ max (b.1 - a.1) (a.1 - b.1) + max (b.2 - a.2) (a.2 - b.2) + 1 := by omega
                have wr1 : IntKind.i64.wrap (b.1 - a.1) = b.1 - a.1 := IntWalk.i64_in _ (by omega)
                have wr2 : IntKind.i64.wrap (a.1 - b.1) = a.1 - b.1 := IntWalk.i64_in _ (by omega)
                have wr3 : IntKind.i64.wrap (b.2 - a.2) = b.2 - a.2 := IntWalk.i64_in _ (by omega)
                have wr4 : IntKind.i64.wrap (a.2 - b.2) = a.2 - b.2 := IntWalk.i64_in _ (by omega)
                have wr5 : IntKind.i64.wrap (max (b.1 - a.1) (a.1 - b.1) + max (b.2 - a.2) (a.2 - b.2)) = max (b.1 - a.1) (a.1 - b.1) + max (b.2 - a.2) (a.2 - b.2) := IntWalk.i64_in _ (by omega)
                have wr6 : IntKind.i64.wrap (max (b.1 - a.1) (a.1 - b.1) + max (b.2 - a.2) (a.2 - b.2) + 1) = max (b.1 - a.1) (a.1 - b.1) + max (b.2 - a.2) (a.2 - b.2) + 1 := IntWalk.i64_in _ (by omega)
                have nba : -1000000 ≤ Z.area a b P ∧ Z.area a b P ≤ 1000000 := by omega
                have wr7 : IntKind.i64.wrap (-(Z.area a b P)) = -(Z.area a b P) := IntWalk.i64_in _ (by omega)
                have wr8 : IntKind.i64.wrap (2 * max (Z.area a b P) (-(Z.area a b P))) = 2 * max (Z.area a b P) (-(Z.area a b P)) := IntWalk.i64_in _ (by omega)
                have mmc : 2 * max (Z.area c d P) (-(Z.area c d P)) ≤ max (d.1 - c.1) (c.1 - d.1) + max (d.2 - c.2) (c.2 - d.2) + 1 := by omega
                have wr9 : IntKind.i64.wrap (d.1 - c.1) = d.1 - c.1 := IntWalk.i64_in _ (by omega)
                have wr10 : IntKind.i64.wrap (c.1 - d.1) = c.1 - d.1 := IntWalk.i64_in _ (by omega)
                have wr11 : IntKind.i64.wrap (d.2 - c.2) = d.2 - c.2 := IntWalk.i64_in _ (by omega)
                have wr12 : IntKind.i64.wrap (c.2 - d.2) = c.2 - d.2 := IntWalk.i64_in _ (by omega)
                have wr13 : IntKind.i64.wrap (max (d.1 - c.1) (c.1 - d.1) + max (d.2 - c.2) (c.2 - d.2)) = max (d.1 - c.1) (c.1 - d.1) + max (d.2 - c.2) (c.2 - d.2) := IntWalk.i64_in _ (by omega)
                have wr14 : IntKind.i64.wrap (max (d.1 - c.1) (c.1 - d.1) + max (d.2 - c.2) (c.2 - d.2) + 1) = max (d.1 - c.1) (c.1 - d.1) + max (d.2 - c.2) (c.2 - d.2) + 1 := IntWalk.i64_in _ (by omega)
                have nbc : -1000000 ≤ Z.area c d P ∧ Z.area c d P ≤ 1000000 := by omega
                have wr15 : IntKind.i64.wrap (-(Z.area c d P)) = -(Z.area c d P) := IntWalk.i64_in _ (by omega)
                have wr16 : IntKind.i64.wrap (2 * max (Z.area c d P) (-(Z.area c d P))) = 2 * max (Z.area c d P) (-(Z.area c d P)) := IntWalk.i64_in _ (by omega)
                clear hC3 hC4 hC5 hC6 hC7
                generalize Z.area a b P = A1 at *
                generalize Z.area c d P = A2 at *
                go_wp2_with fail
                go_ret
                exact ⟨rfl, (by repeat' (first | with_reducible exact F14 | with_reducible refine K.Ext.setCell ?_ ?_ _ | with_reducible refine K.Ext.alloc ?_ _ | with_reducible refine K.Ext.drew ?_ | (dsimp only; omega) | omega | (simp; omega)))⟩
            go_wp2_with fail
            go_ret
            exact ⟨rfl, (by repeat' (first | with_reducible exact F12 | with_reducible refine K.Ext.setCell ?_ ?_ _ | with_reducible refine K.Ext.alloc ?_ _ | with_reducible refine K.Ext.drew ?_ | (dsimp only; omega) | omega | (simp; omega)))⟩
      as_aux_lemma =>
        by_cases hb : (Z.CrossingOf a b c d).2 = 0
        · as_aux_lemma =>
            obtain ⟨hC1, hC2, hC3, hC4, hC5, hC6, hC7⟩ := Z.crossings_law a b c d hb
            go_wp2_with fail
            refine K.call (by with_reducible rfl) (by with_reducible rfl) (impl_DoubleArea a b (Z.CrossingOf a b c d).1 _) ?_
            rintro e w12 ⟨rfl, f12⟩
            have F12 : K.Ext w w12 := K.Ext.trans (by repeat' (first | with_reducible exact XR | with_reducible refine K.Ext.setCell ?_ ?_ _ | with_reducible refine K.Ext.alloc ?_ _ | with_reducible refine K.Ext.drew ?_ | (dsimp only; omega) | omega | (simp; omega))) f12
            have c12_0_0 : w12.cell? ⟨w1.heap.size, 0, none⟩ = some (.int .i64 a.1) := f12.cell_of (by go_simp)
            have c12_0_1 : w12.cell? ⟨w1.heap.size, 1, none⟩ = some (.int .i64 a.2) := f12.cell_of (by go_simp)
            have y12_0 : w1.heap.size < w12.heap.size := World.block_lt_of_cell? w12 _ c12_0_0
            have c12_1_0 : w12.cell? ⟨w1.heap.size + 1, 0, none⟩ = some (.int .i64 b.1) := f12.cell_of (by go_simp)
            have c12_1_1 : w12.cell? ⟨w1.heap.size + 1, 1, none⟩ = some (.int .i64 b.2) := f12.cell_of (by go_simp)
            have y12_1 : w1.heap.size + 1 < w12.heap.size := World.block_lt_of_cell? w12 _ c12_1_0
            have c12_2_0 : w12.cell? ⟨w1.heap.size + 1 + 1, 0, none⟩ = some (.int .i64 c.1) := f12.cell_of (by go_simp)
            have c12_2_1 : w12.cell? ⟨w1.heap.size + 1 + 1, 1, none⟩ = some (.int .i64 c.2) := f12.cell_of (by go_simp)
            have y12_2 : w1.heap.size + 1 + 1 < w12.heap.size := World.block_lt_of_cell? w12 _ c12_2_0
            have c12_3_0 : w12.cell? ⟨w1.heap.size + 1 + 1 + 1, 0, none⟩ = some (.int .i64 d.1) := f12.cell_of (by go_simp)
            have c12_3_1 : w12.cell? ⟨w1.heap.size + 1 + 1 + 1, 1, none⟩ = some (.int .i64 d.2) := f12.cell_of (by go_simp)
            have y12_3 : w1.heap.size + 1 + 1 + 1 < w12.heap.size := World.block_lt_of_cell? w12 _ c12_3_0
            have c12_4_0 : w12.cell? ⟨w2.heap.size, 0, none⟩ = some (.int .i64 (Z.CrossingOf a b c d).1.1) := f12.cell_of (by go_simp)
            have c12_4_1 : w12.cell? ⟨w2.heap.size, 1, none⟩ = some (.int .i64 (Z.CrossingOf a b c d).1.2) := f12.cell_of (by go_simp)
            have y12_4 : w2.heap.size < w12.heap.size := World.block_lt_of_cell? w12 _ c12_4_0
            have c12_6_0 : w12.cell? ⟨w4.heap.size, 0, none⟩ = some (.int .i64 x.1) := f12.cell_of (by go_simp)
            have c12_6_1 : w12.cell? ⟨w4.heap.size, 1, none⟩ = some (.int .i64 x.2) := f12.cell_of (by go_simp)
            have y12_6 : w4.heap.size < w12.heap.size := World.block_lt_of_cell? w12 _ c12_6_0
            have c12_7_0 : w12.cell? ⟨w4.heap.size + 1, 0, none⟩ = some (.int .i64 y.1) := f12.cell_of (by go_simp)
            have c12_7_1 : w12.cell? ⟨w4.heap.size + 1, 1, none⟩ = some (.int .i64 y.2) := f12.cell_of (by go_simp)
            have y12_7 : w4.heap.size + 1 < w12.heap.size := World.block_lt_of_cell? w12 _ c12_7_0
            clear cr_0_0 cr_0_1 yr_0 cr_1_0 cr_1_1 yr_1 cr_2_0 cr_2_1 yr_2 cr_3_0 cr_3_1 yr_3 cr_4_0 cr_4_1 yr_4 cr_6_0 cr_6_1 yr_6 cr_7_0 cr_7_1 yr_7 cr_8_0 cr_8_1 yr_8 cr_9_0 cr_9_1 yr_9 XR f12
            go_wp2_with fail
            refine K.call (by with_reducible rfl) (by with_reducible rfl) (impl_DoubleArea c d (Z.CrossingOf a b c d).1 _) ?_
            rintro e w13 ⟨rfl, f13⟩
            have F13 : K.Ext w w13 := K.Ext.trans (by repeat' (first | with_reducible exact F12 | with_reducible refine K.Ext.setCell ?_ ?_ _ | with_reducible refine K.Ext.alloc ?_ _ | with_reducible refine K.Ext.drew ?_ | (dsimp only; omega) | omega | (simp; omega))) f13
            have c13_0_0 : w13.cell? ⟨w1.heap.size, 0, none⟩ = some (.int .i64 a.1) := f13.cell_of (by go_simp)
            have c13_0_1 : w13.cell? ⟨w1.heap.size, 1, none⟩ = some (.int .i64 a.2) := f13.cell_of (by go_simp)
            have y13_0 : w1.heap.size < w13.heap.size := World.block_lt_of_cell? w13 _ c13_0_0
            have c13_1_0 : w13.cell? ⟨w1.heap.size + 1, 0, none⟩ = some (.int .i64 b.1) := f13.cell_of (by go_simp)
            have c13_1_1 : w13.cell? ⟨w1.heap.size + 1, 1, none⟩ = some (.int .i64 b.2) := f13.cell_of (by go_simp)
            have y13_1 : w1.heap.size + 1 < w13.heap.size := World.block_lt_of_cell? w13 _ c13_1_0
            have c13_2_0 : w13.cell? ⟨w1.heap.size + 1 + 1, 0, none⟩ = some (.int .i64 c.1) := f13.cell_of (by go_simp)
            have c13_2_1 : w13.cell? ⟨w1.heap.size + 1 + 1, 1, none⟩ = some (.int .i64 c.2) := f13.cell_of (by go_simp)
            have y13_2 : w1.heap.size + 1 + 1 < w13.heap.size := World.block_lt_of_cell? w13 _ c13_2_0
            have c13_3_0 : w13.cell? ⟨w1.heap.size + 1 + 1 + 1, 0, none⟩ = some (.int .i64 d.1) := f13.cell_of (by go_simp)
            have c13_3_1 : w13.cell? ⟨w1.heap.size + 1 + 1 + 1, 1, none⟩ = some (.int .i64 d.2) := f13.cell_of (by go_simp)
            have y13_3 : w1.heap.size + 1 + 1 + 1 < w13.heap.size := World.block_lt_of_cell? w13 _ c13_3_0
            have c13_4_0 : w13.cell? ⟨w2.heap.size, 0, none⟩ = some (.int .i64 (Z.CrossingOf a b c d).1.1) := f13.cell_of (by go_simp)
            have c13_4_1 : w13.cell? ⟨w2.heap.size, 1, none⟩ = some (.int .i64 (Z.CrossingOf a b c d).1.2) := f13.cell_of (by go_simp)
            have y13_4 : w2.heap.size < w13.heap.size := World.block_lt_of_cell? w13 _ c13_4_0
            have c13_6_0 : w13.cell? ⟨w4.heap.size, 0, none⟩ = some (.int .i64 x.1) := f13.cell_of (by go_simp)
            have c13_6_1 : w13.cell? ⟨w4.heap.size, 1, none⟩ = some (.int .i64 x.2) := f13.cell_of (by go_simp)
            have y13_6 : w4.heap.size < w13.heap.size := World.block_lt_of_cell? w13 _ c13_6_0
            have c13_7_0 : w13.cell? ⟨w4.heap.size + 1, 0, none⟩ = some (.int .i64 y.1) := f13.cell_of (by go_simp)
            have c13_7_1 : w13.cell? ⟨w4.heap.size + 1, 1, none⟩ = some (.int .i64 y.2) := f13.cell_of (by go_simp)
            have y13_7 : w4.heap.size + 1 < w13.heap.size := World.block_lt_of_cell? w13 _ c13_7_0
            clear c12_0_0 c12_0_1 y12_0 c12_1_0 c12_1_1 y12_1 c12_2_0 c12_2_1 y12_2 c12_3_0 c12_3_1 y12_3 c12_4_0 c12_4_1 y12_4 c12_6_0 c12_6_1 y12_6 c12_7_0 c12_7_1 y12_7 F12 f13
            generalize (Z.CrossingOf a b c d).1 = P at *
            clear hN hlen
            have mma : 2 * max (Z.area a b P) (-(Z.area a b P)) ≤ max (b.1 - a.1) (a.1 - b.1) + max (b.2 - a.2) (a.2 - b.2) + 1 := by omega
            have wr1 : IntKind.i64.wrap (b.1 - a.1) = b.1 - a.1 := IntWalk.i64_in _ (by omega)
            have wr2 : IntKind.i64.wrap (a.1 - b.1) = a.1 - b.1 := IntWalk.i64_in _ (by omega)
            have wr3 : IntKind.i64.wrap (b.2 - a.2) = b.2 - a.2 := IntWalk.i64_in _ (by omega)
            have wr4 : IntKind.i64.wrap (a.2 - b.2) = a.2 - b.2 := IntWalk.i64_in _ (by omega)
            have wr5 : IntKind.i64.wrap (max (b.1 - a.1) (a.1 - b.1) + max (b.2 - a.2) (a.2 - b.2)) = max (b.1 - a.1) (a.1 - b.1) + max (b.2 - a.2) (a.2 - b.2) := IntWalk.i64_in _ (by omega)
            have wr6 : IntKind.i64.wrap (max (b.1 - a.1) (a.1 - b.1) + max (b.2 - a.2) (a.2 - b.2) + 1) = max (b.1 - a.1) (a.1 - b.1) + max (b.2 - a.2) (a.2 - b.2) + 1 := IntWalk.i64_in _ (by omega)
            have nba : -1000000 ≤ Z.area a b P ∧ Z.area a b P ≤ 1000000 := by omega
            have wr7 : IntKind.i64.wrap (-(Z.area a b P)) = -(Z.area a b P) := IntWalk.i64_in _ (by omega)
            have wr8 : IntKind.i64.wrap (2 * max (Z.area a b P) (-(Z.area a b P))) = 2 * max (Z.area a b P) (-(Z.area a b P)) := IntWalk.i64_in _ (by omega)
            have mmc : 2 * max (Z.area c d P) (-(Z.area c d P)) ≤ max (d.1 - c.1) (c.1 - d.1) + max (d.2 - c.2) (c.2 - d.2) + 1 := by omega
            have wr9 : IntKind.i64.wrap (d.1 - c.1) = d.1 - c.1 := IntWalk.i64_in _ (by omega)
            have wr10 : IntKind.i64.wrap (c.1 - d.1) = c.1 - d.1 := IntWalk.i64_in _ (by omega)
            have wr11 : IntKind.i64.wrap (d.2 - c.2) = d.2 - c.2 := IntWalk.i64_in _ (by omega)
            have wr12 : IntKind.i64.wrap (c.2 - d.2) = c.2 - d.2 := IntWalk.i64_in _ (by omega)
            have wr13 : IntKind.i64.wrap (max (d.1 - c.1) (c.1 - d.1) + max (d.2 - c.2) (c.2 - d.2)) = max (d.1 - c.1) (c.1 - d.1) + max (d.2 - c.2) (c.2 - d.2) := IntWalk.i64_in _ (by omega)
            have wr14 : IntKind.i64.wrap (max (d.1 - c.1) (c.1 - d.1) + max (d.2 - c.2) (c.2 - d.2) + 1) = max (d.1 - c.1) (c.1 - d.1) + max (d.2 - c.2) (c.2 - d.2) + 1 := IntWalk.i64_in _ (by omega)
            have nbc : -1000000 ≤ Z.area c d P ∧ Z.area c d P ≤ 1000000 := by omega
            have wr15 : IntKind.i64.wrap (-(Z.area c d P)) = -(Z.area c d P) := IntWalk.i64_in _ (by omega)
            have wr16 : IntKind.i64.wrap (2 * max (Z.area c d P) (-(Z.area c d P))) = 2 * max (Z.area c d P) (-(Z.area c d P)) := IntWalk.i64_in _ (by omega)
            clear hC3 hC4 hC5 hC6 hC7
            generalize Z.area a b P = A1 at *
            generalize Z.area c d P = A2 at *
            go_wp2_with fail
            go_ret
            exact ⟨rfl, (by repeat' (first | with_reducible exact F13 | with_reducible refine K.Ext.setCell ?_ ?_ _ | with_reducible refine K.Ext.alloc ?_ _ | with_reducible refine K.Ext.drew ?_ | (dsimp only; omega) | omega | (simp; omega)))⟩
        go_wp2_with fail
        go_ret
        exact ⟨rfl, (by repeat' (first | with_reducible exact XR | with_reducible refine K.Ext.setCell ?_ ?_ _ | with_reducible refine K.Ext.alloc ?_ _ | with_reducible refine K.Ext.drew ?_ | (dsimp only; omega) | omega | (simp; omega)))⟩
end Go.Proofs.Ytgepjmfjeidbaaa
