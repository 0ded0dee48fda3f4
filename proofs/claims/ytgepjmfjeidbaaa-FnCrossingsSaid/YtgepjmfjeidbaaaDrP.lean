/-
  DRAWS: points.
-/
import Derived.Test.YtgepjmfjeidbaaaDrK
set_option linter.unusedVariables false
namespace Go.Proofs.Ytgepjmfjeidbaaa
open Go.RowKit
set_option maxHeartbeats 3200000 in
theorem l22DrawPoint_any (g : Nat) (w : World) (h : K.Src 71 w g) :
    Calls Try.prog 39 #[.pointer (some ⟨g, 0, none⟩)] w fun e w' => (∃ p : Int × Int, e = .returned (.agg #[.int .i64 p.1, .int .i64 p.2]) ∧ (-100001 ≤ p.1 ∧ p.1 ≤ 100001 ∧ -100001 ≤ p.2 ∧ p.2 ≤ 100001)) ∧ K.Src 71 w' g ∧ K.Far g (g + 1) w w' := by
  have lg := h.lt
  have F0 : K.Far g (g + 1) w w := K.Far.refl _ _ _
  go_enter Try.func39, Try.ntmps39
  go_wp2_with fail
  refine K.call (by with_reducible rfl) (by with_reducible rfl) (l01Next_any g (30) _ (show K.Src 71 _ _ from by with_reducible repeat' (first | exact h | refine K.Src.alloc ?_ _ | refine K.Src.drew ?_ | refine K.Src.setOther ?_ ?_ _ | (dsimp only; omega)))) ?_
  rintro e w1 ⟨⟨n, rfl, n0, n1, n2⟩, s1, f1⟩
  have z1 := f1.size
  (try simp at z1)
  have F1 : K.Far g (g + 1) w w1 := K.Far.trans (by with_reducible repeat' (first | exact F0 | refine K.Far.alloc ?_ _ | refine K.Far.setNew ?_ ?_ _ | refine K.Far.drew ?_ | (dsimp only; omega))) f1
  have c1_0_0 : w1.cell? ⟨w.heap.size, 0, none⟩ = some (.int .i64 0) := f1.cell_of (by go_simp) (by (try dsimp only); omega)
  have d1_0_0 : w1.frozen? ⟨w.heap.size, 0, none⟩ = false := f1.thaw_of (by go_simp) (by go_simp) (by (try dsimp only); omega)
  have c1_0_1 : w1.cell? ⟨w.heap.size, 1, none⟩ = some (.int .i64 0) := f1.cell_of (by go_simp) (by (try dsimp only); omega)
  have d1_0_1 : w1.frozen? ⟨w.heap.size, 1, none⟩ = false := f1.thaw_of (by go_simp) (by go_simp) (by (try dsimp only); omega)
  have y1_0 : w.heap.size < w1.heap.size := World.block_lt_of_cell? w1 _ c1_0_0
  by_cases hn : n = 0
  · subst hn
    go_wp2_with fail
    refine K.call (by with_reducible rfl) (by with_reducible rfl) (l01Pick_any g [100000, -100000, 100001] _ (show K.Src 71 _ _ from by with_reducible repeat' (first | exact s1 | refine K.Src.alloc ?_ _ | refine K.Src.drew ?_ | refine K.Src.setOther ?_ ?_ _ | (dsimp only; omega))) (by simp) (by simp) (.inr (by omega)) (K.ints_lit (W := w1) (T := 2) (n := 3) (cs := #[.int .i64 (100000), .int .i64 (-100000), .int .i64 (100001)]) [100000, -100000, 100001] rfl rfl rfl)) ?_
    rintro e w2 ⟨⟨x, hx, rfl⟩, s2, f2⟩
    have z2 := f2.size
    (try simp at z2)
    have F2 : K.Far g (g + 1) w w2 := K.Far.trans (by with_reducible repeat' (first | exact F1 | refine K.Far.alloc ?_ _ | refine K.Far.setNew ?_ ?_ _ | refine K.Far.drew ?_ | (dsimp only; omega))) f2
    have u2_0_1 : w.heap.size < w1.heap.size + 1 := (by omega)
    have c2_0_0 : w2.cell? ⟨w.heap.size, 0, none⟩ = some (.int .i64 0) := f2.cell_of (by go_simp) (by (try dsimp only); omega)
    have d2_0_0 : w2.frozen? ⟨w.heap.size, 0, none⟩ = false := f2.thaw_of (by go_simp) (by go_simp) (by (try dsimp only); omega)
    have c2_0_1 : w2.cell? ⟨w.heap.size, 1, none⟩ = some (.int .i64 0) := f2.cell_of (by go_simp) (by (try dsimp only); omega)
    have d2_0_1 : w2.frozen? ⟨w.heap.size, 1, none⟩ = false := f2.thaw_of (by go_simp) (by go_simp) (by (try dsimp only); omega)
    have y2_0 : w.heap.size < w2.heap.size := World.block_lt_of_cell? w2 _ c2_0_0
    simp only [List.mem_cons, List.not_mem_nil, or_false] at hx
    go_wp2_with fail
    refine K.call (by with_reducible rfl) (by with_reducible rfl) (l01Pick_any g [0, -100000, -100001] _ (show K.Src 71 _ _ from by with_reducible repeat' (first | exact s2 | refine K.Src.alloc ?_ _ | refine K.Src.drew ?_ | refine K.Src.setOther ?_ ?_ _ | (dsimp only; omega))) (by simp) (by simp) (.inr (by omega)) (K.ints_lit (W := w2) (T := 2) (n := 3) (cs := #[.int .i64 (0), .int .i64 (-100000), .int .i64 (-100001)]) [0, -100000, -100001] rfl rfl rfl)) ?_
    rintro e w3 ⟨⟨y, hy, rfl⟩, s3, f3⟩
    have z3 := f3.size
    (try simp at z3)
    have F3 : K.Far g (g + 1) w w3 := K.Far.trans (by with_reducible repeat' (first | exact F2 | refine K.Far.alloc ?_ _ | refine K.Far.setNew ?_ ?_ _ | refine K.Far.drew ?_ | (dsimp only; omega))) f3
    have u3_0_1 : w.heap.size < w2.heap.size + 1 := (by omega)
    have c3_0_0 : w3.cell? ⟨w.heap.size, 0, none⟩ = some (.int .i64 0) := f3.cell_of (by go_simp) (by (try dsimp only); omega)
    have d3_0_0 : w3.frozen? ⟨w.heap.size, 0, none⟩ = false := f3.thaw_of (by go_simp) (by go_simp) (by (try dsimp only); omega)
    have c3_0_1 : w3.cell? ⟨w.heap.size, 1, none⟩ = some (.int .i64 0) := f3.cell_of (by go_simp) (by (try dsimp only); omega)
    have d3_0_1 : w3.frozen? ⟨w.heap.size, 1, none⟩ = false := f3.thaw_of (by go_simp) (by go_simp) (by (try dsimp only); omega)
    have y3_0 : w.heap.size < w3.heap.size := World.block_lt_of_cell? w3 _ c3_0_0
    simp only [List.mem_cons, List.not_mem_nil, or_false] at hy
    go_wp2_with fail
    refine bodyPost_ret (v := .agg #[.int .i64 x, .int .i64 y]) (by unfold results; rw [Try.results39]; go_simp) rfl ⟨⟨((x, y) : Int × Int), rfl, by dsimp only; omega, by dsimp only; omega, by dsimp only; omega, by dsimp only; omega⟩, ?_, ?_⟩
    · exact (show K.Src 71 _ _ from by with_reducible repeat' (first | exact s3 | refine K.Src.alloc ?_ _ | refine K.Src.drew ?_ | refine K.Src.setOther ?_ ?_ _ | (dsimp only; omega)))
    · exact (by with_reducible repeat' (first | exact F3 | refine K.Far.alloc ?_ _ | refine K.Far.setNew ?_ ?_ _ | refine K.Far.drew ?_ | (dsimp only; omega)))
  go_wp2_with fail
  refine K.call (by with_reducible rfl) (by with_reducible rfl) (l01Next_any g (41) _ (show K.Src 71 _ _ from by with_reducible repeat' (first | exact s1 | refine K.Src.alloc ?_ _ | refine K.Src.drew ?_ | refine K.Src.setOther ?_ ?_ _ | (dsimp only; omega)))) ?_
  rintro e w2 ⟨⟨a, rfl, a0, a1, a2⟩, s2, f2⟩
  have z2 := f2.size
  (try simp at z2)
  have F2 : K.Far g (g + 1) w w2 := K.Far.trans (by with_reducible repeat' (first | exact F1 | refine K.Far.alloc ?_ _ | refine K.Far.setNew ?_ ?_ _ | refine K.Far.drew ?_ | (dsimp only; omega))) f2
  have c2_0_0 : w2.cell? ⟨w.heap.size, 0, none⟩ = some (.int .i64 0) := f2.cell_of (by go_simp) (by (try dsimp only); omega)
  have d2_0_0 : w2.frozen? ⟨w.heap.size, 0, none⟩ = false := f2.thaw_of (by go_simp) (by go_simp) (by (try dsimp only); omega)
  have c2_0_1 : w2.cell? ⟨w.heap.size, 1, none⟩ = some (.int .i64 0) := f2.cell_of (by go_simp) (by (try dsimp only); omega)
  have d2_0_1 : w2.frozen? ⟨w.heap.size, 1, none⟩ = false := f2.thaw_of (by go_simp) (by go_simp) (by (try dsimp only); omega)
  have y2_0 : w.heap.size < w2.heap.size := World.block_lt_of_cell? w2 _ c2_0_0
  go_wp2_with fail
  refine K.call (by with_reducible rfl) (by with_reducible rfl) (l01Pick_any g [1, 50, -50, 500] _ (show K.Src 71 _ _ from by with_reducible repeat' (first | exact s2 | refine K.Src.alloc ?_ _ | refine K.Src.drew ?_ | refine K.Src.setOther ?_ ?_ _ | (dsimp only; omega))) (by simp) (by simp) (.inr (by omega)) (K.ints_lit (W := w2) (T := 2) (n := 4) (cs := #[.int .i64 (1), .int .i64 (50), .int .i64 (-50), .int .i64 (500)]) [1, 50, -50, 500] rfl rfl rfl)) ?_
  rintro e w3 ⟨⟨b, hb, rfl⟩, s3, f3⟩
  have z3 := f3.size
  (try simp at z3)
  have F3 : K.Far g (g + 1) w w3 := K.Far.trans (by with_reducible repeat' (first | exact F2 | refine K.Far.alloc ?_ _ | refine K.Far.setNew ?_ ?_ _ | refine K.Far.drew ?_ | (dsimp only; omega))) f3
  have u3_0_1 : w.heap.size < w2.heap.size + 1 := (by omega)
  have c3_0_0 : w3.cell? ⟨w.heap.size, 0, none⟩ = some (.int .i64 0) := f3.cell_of (by go_simp) (by (try dsimp only); omega)
  have d3_0_0 : w3.frozen? ⟨w.heap.size, 0, none⟩ = false := f3.thaw_of (by go_simp) (by go_simp) (by (try dsimp only); omega)
  have c3_0_1 : w3.cell? ⟨w.heap.size, 1, none⟩ = some (.int .i64 0) := f3.cell_of (by go_simp) (by (try dsimp only); omega)
  have d3_0_1 : w3.frozen? ⟨w.heap.size, 1, none⟩ = false := f3.thaw_of (by go_simp) (by go_simp) (by (try dsimp only); omega)
  have y3_0 : w.heap.size < w3.heap.size := World.block_lt_of_cell? w3 _ c3_0_0
  simp only [List.mem_cons, List.not_mem_nil, or_false] at hb
  have hab : -20000 ≤ a * b ∧ a * b ≤ 20000 := by rcases hb with rfl | rfl | rfl | rfl <;> omega
  go_wp2_with fail
  refine K.call (by with_reducible rfl) (by with_reducible rfl) (l01Next_any g (2001) _ (show K.Src 71 _ _ from by with_reducible repeat' (first | exact s3 | refine K.Src.alloc ?_ _ | refine K.Src.drew ?_ | refine K.Src.setOther ?_ ?_ _ | (dsimp only; omega)))) ?_
  rintro e w4 ⟨⟨c, rfl, c0, c1, c2⟩, s4, f4⟩
  have z4 := f4.size
  (try simp at z4)
  have F4 : K.Far g (g + 1) w w4 := K.Far.trans (by with_reducible repeat' (first | exact F3 | refine K.Far.alloc ?_ _ | refine K.Far.setNew ?_ ?_ _ | refine K.Far.drew ?_ | (dsimp only; omega))) f4
  have c4_0_0 : w4.cell? ⟨w.heap.size, 0, none⟩ = some (.int .i64 0) := f4.cell_of (by go_simp) (by (try dsimp only); omega)
  have d4_0_0 : w4.frozen? ⟨w.heap.size, 0, none⟩ = false := f4.thaw_of (by go_simp) (by go_simp) (by (try dsimp only); omega)
  have c4_0_1 : w4.cell? ⟨w.heap.size, 1, none⟩ = some (.int .i64 0) := f4.cell_of (by go_simp) (by (try dsimp only); omega)
  have d4_0_1 : w4.frozen? ⟨w.heap.size, 1, none⟩ = false := f4.thaw_of (by go_simp) (by go_simp) (by (try dsimp only); omega)
  have y4_0 : w.heap.size < w4.heap.size := World.block_lt_of_cell? w4 _ c4_0_0
  go_wp2_with fail
  refine bodyPost_ret (v := .agg #[.int .i64 (a * b), .int .i64 (c - 1000)]) (by unfold results; rw [Try.results39]; go_simp) rfl ⟨⟨((a * b, c - 1000) : Int × Int), rfl, by dsimp only; omega, by dsimp only; omega, by dsimp only; omega, by dsimp only; omega⟩, ?_, ?_⟩
  · exact (show K.Src 71 _ _ from by with_reducible repeat' (first | exact s4 | refine K.Src.alloc ?_ _ | refine K.Src.drew ?_ | refine K.Src.setOther ?_ ?_ _ | (dsimp only; omega)))
  · exact (by with_reducible repeat' (first | exact F4 | refine K.Far.alloc ?_ _ | refine K.Far.setNew ?_ ?_ _ | refine K.Far.drew ?_ | (dsimp only; omega)))
set_option maxHeartbeats 6400000 in
theorem DrawDoubleArea_any {hi n : Nat} {v : Value} (w : World) (hn : n ≤ 4096) (hh : hi ≤ w.heap.size) (h : K.byts w hi v n) :
    Calls Try.prog 13 #[v] w fun e w' => (∃ a b c : Int × Int, e = .returned (.tuple #[.agg #[.int .i64 a.1, .int .i64 a.2], .agg #[.int .i64 b.1, .int .i64 b.2], .agg #[.int .i64 c.1, .int .i64 c.2]])) ∧ K.Ext w w' := by
  have F0 : K.Ext w w := K.Ext.refl _
  go_enter Try.func13, Try.ntmps13
  go_wp2_with fail
  refine K.call (by with_reducible rfl) (by with_reducible rfl) (l01From_at (w.heap.size + 1 + 1 + 1) _ (by simp) hn (by omega) (h.ext (by repeat' (first | with_reducible exact F0 | with_reducible refine K.Ext.setCell ?_ ?_ _ | with_reducible refine K.Ext.alloc ?_ _ | with_reducible refine K.Ext.drew ?_ | (dsimp only; omega) | omega | (simp; omega))))) ?_
  rintro e w1 ⟨⟨rfl, s1⟩, f1⟩
  have z1 := f1.size
  (try simp at z1)
  have F1 : K.Ext w w1 := K.Ext.trans (by repeat' (first | with_reducible exact F0 | with_reducible refine K.Ext.setCell ?_ ?_ _ | with_reducible refine K.Ext.alloc ?_ _ | with_reducible refine K.Ext.drew ?_ | (dsimp only; omega) | omega | (simp; omega))) f1
  have c1_0_0 : w1.cell? ⟨w.heap.size, 0, none⟩ = some (.int .i64 0) := f1.cell_of (by go_simp)
  have d1_0_0 : w1.frozen? ⟨w.heap.size, 0, none⟩ = false := f1.thaw_of (by go_simp) (by go_simp)
  have c1_0_1 : w1.cell? ⟨w.heap.size, 1, none⟩ = some (.int .i64 0) := f1.cell_of (by go_simp)
  have d1_0_1 : w1.frozen? ⟨w.heap.size, 1, none⟩ = false := f1.thaw_of (by go_simp) (by go_simp)
  have y1_0 : w.heap.size < w1.heap.size := World.block_lt_of_cell? w1 _ c1_0_0
  have c1_1_0 : w1.cell? ⟨w.heap.size + 1, 0, none⟩ = some (.int .i64 0) := f1.cell_of (by go_simp)
  have d1_1_0 : w1.frozen? ⟨w.heap.size + 1, 0, none⟩ = false := f1.thaw_of (by go_simp) (by go_simp)
  have c1_1_1 : w1.cell? ⟨w.heap.size + 1, 1, none⟩ = some (.int .i64 0) := f1.cell_of (by go_simp)
  have d1_1_1 : w1.frozen? ⟨w.heap.size + 1, 1, none⟩ = false := f1.thaw_of (by go_simp) (by go_simp)
  have y1_1 : w.heap.size + 1 < w1.heap.size := World.block_lt_of_cell? w1 _ c1_1_0
  have c1_2_0 : w1.cell? ⟨w.heap.size + 1 + 1, 0, none⟩ = some (.int .i64 0) := f1.cell_of (by go_simp)
  have d1_2_0 : w1.frozen? ⟨w.heap.size + 1 + 1, 0, none⟩ = false := f1.thaw_of (by go_simp) (by go_simp)
  have c1_2_1 : w1.cell? ⟨w.heap.size + 1 + 1, 1, none⟩ = some (.int .i64 0) := f1.cell_of (by go_simp)
  have d1_2_1 : w1.frozen? ⟨w.heap.size + 1 + 1, 1, none⟩ = false := f1.thaw_of (by go_simp) (by go_simp)
  have y1_2 : w.heap.size + 1 + 1 < w1.heap.size := World.block_lt_of_cell? w1 _ c1_2_0
  have lg := s1.lt
  go_wp2_with fail
  refine K.call (by with_reducible rfl) (by with_reducible rfl) (l22DrawPoint_any (w.heap.size + 1 + 1 + 1) _ (show K.Src 71 _ _ from by with_reducible repeat' (first | exact s1 | refine K.Src.alloc ?_ _ | refine K.Src.drew ?_ | refine K.Src.setOther ?_ ?_ _ | (dsimp only; omega)))) ?_
  rintro e w2 ⟨⟨a, rfl, ha0, ha1, ha2, ha3⟩, s2, f2⟩
  have z2 := f2.size
  (try simp at z2)
  have F2 : K.Ext w w2 := K.Far.ext (by repeat' (first | with_reducible exact F1 | with_reducible refine K.Ext.setCell ?_ ?_ _ | with_reducible refine K.Ext.alloc ?_ _ | with_reducible refine K.Ext.drew ?_ | (dsimp only; omega) | omega | (simp; omega))) f2 (by omega)
  have c2_0_0 : w2.cell? ⟨w.heap.size, 0, none⟩ = some (.int .i64 0) := f2.cell_of (by go_simp) (by (try dsimp only); omega)
  have d2_0_0 : w2.frozen? ⟨w.heap.size, 0, none⟩ = false := f2.thaw_of (by go_simp) (by go_simp) (by (try dsimp only); omega)
  have c2_0_1 : w2.cell? ⟨w.heap.size, 1, none⟩ = some (.int .i64 0) := f2.cell_of (by go_simp) (by (try dsimp only); omega)
  have d2_0_1 : w2.frozen? ⟨w.heap.size, 1, none⟩ = false := f2.thaw_of (by go_simp) (by go_simp) (by (try dsimp only); omega)
  have y2_0 : w.heap.size < w2.heap.size := World.block_lt_of_cell? w2 _ c2_0_0
  have c2_1_0 : w2.cell? ⟨w.heap.size + 1, 0, none⟩ = some (.int .i64 0) := f2.cell_of (by go_simp) (by (try dsimp only); omega)
  have d2_1_0 : w2.frozen? ⟨w.heap.size + 1, 0, none⟩ = false := f2.thaw_of (by go_simp) (by go_simp) (by (try dsimp only); omega)
  have c2_1_1 : w2.cell? ⟨w.heap.size + 1, 1, none⟩ = some (.int .i64 0) := f2.cell_of (by go_simp) (by (try dsimp only); omega)
  have d2_1_1 : w2.frozen? ⟨w.heap.size + 1, 1, none⟩ = false := f2.thaw_of (by go_simp) (by go_simp) (by (try dsimp only); omega)
  have y2_1 : w.heap.size + 1 < w2.heap.size := World.block_lt_of_cell? w2 _ c2_1_0
  have c2_2_0 : w2.cell? ⟨w.heap.size + 1 + 1, 0, none⟩ = some (.int .i64 0) := f2.cell_of (by go_simp) (by (try dsimp only); omega)
  have d2_2_0 : w2.frozen? ⟨w.heap.size + 1 + 1, 0, none⟩ = false := f2.thaw_of (by go_simp) (by go_simp) (by (try dsimp only); omega)
  have c2_2_1 : w2.cell? ⟨w.heap.size + 1 + 1, 1, none⟩ = some (.int .i64 0) := f2.cell_of (by go_simp) (by (try dsimp only); omega)
  have d2_2_1 : w2.frozen? ⟨w.heap.size + 1 + 1, 1, none⟩ = false := f2.thaw_of (by go_simp) (by go_simp) (by (try dsimp only); omega)
  have y2_2 : w.heap.size + 1 + 1 < w2.heap.size := World.block_lt_of_cell? w2 _ c2_2_0
  go_wp2_with fail
  refine K.call (by with_reducible rfl) (by with_reducible rfl) (l22DrawPoint_any (w.heap.size + 1 + 1 + 1) _ (show K.Src 71 _ _ from by with_reducible repeat' (first | exact s2 | refine K.Src.alloc ?_ _ | refine K.Src.drew ?_ | refine K.Src.setOther ?_ ?_ _ | (dsimp only; omega)))) ?_
  rintro e w3 ⟨⟨b, rfl, hb0, hb1, hb2, hb3⟩, s3, f3⟩
  have z3 := f3.size
  (try simp at z3)
  have F3 : K.Ext w w3 := K.Far.ext (by repeat' (first | with_reducible exact F2 | with_reducible refine K.Ext.setCell ?_ ?_ _ | with_reducible refine K.Ext.alloc ?_ _ | with_reducible refine K.Ext.drew ?_ | (dsimp only; omega) | omega | (simp; omega))) f3 (by omega)
  have c3_0_0 : w3.cell? ⟨w.heap.size, 0, none⟩ = some (.int .i64 0) := f3.cell_of (by go_simp) (by (try dsimp only); omega)
  have d3_0_0 : w3.frozen? ⟨w.heap.size, 0, none⟩ = false := f3.thaw_of (by go_simp) (by go_simp) (by (try dsimp only); omega)
  have c3_0_1 : w3.cell? ⟨w.heap.size, 1, none⟩ = some (.int .i64 0) := f3.cell_of (by go_simp) (by (try dsimp only); omega)
  have d3_0_1 : w3.frozen? ⟨w.heap.size, 1, none⟩ = false := f3.thaw_of (by go_simp) (by go_simp) (by (try dsimp only); omega)
  have y3_0 : w.heap.size < w3.heap.size := World.block_lt_of_cell? w3 _ c3_0_0
  have c3_1_0 : w3.cell? ⟨w.heap.size + 1, 0, none⟩ = some (.int .i64 0) := f3.cell_of (by go_simp) (by (try dsimp only); omega)
  have d3_1_0 : w3.frozen? ⟨w.heap.size + 1, 0, none⟩ = false := f3.thaw_of (by go_simp) (by go_simp) (by (try dsimp only); omega)
  have c3_1_1 : w3.cell? ⟨w.heap.size + 1, 1, none⟩ = some (.int .i64 0) := f3.cell_of (by go_simp) (by (try dsimp only); omega)
  have d3_1_1 : w3.frozen? ⟨w.heap.size + 1, 1, none⟩ = false := f3.thaw_of (by go_simp) (by go_simp) (by (try dsimp only); omega)
  have y3_1 : w.heap.size + 1 < w3.heap.size := World.block_lt_of_cell? w3 _ c3_1_0
  have c3_2_0 : w3.cell? ⟨w.heap.size + 1 + 1, 0, none⟩ = some (.int .i64 0) := f3.cell_of (by go_simp) (by (try dsimp only); omega)
  have d3_2_0 : w3.frozen? ⟨w.heap.size + 1 + 1, 0, none⟩ = false := f3.thaw_of (by go_simp) (by go_simp) (by (try dsimp only); omega)
  have c3_2_1 : w3.cell? ⟨w.heap.size + 1 + 1, 1, none⟩ = some (.int .i64 0) := f3.cell_of (by go_simp) (by (try dsimp only); omega)
  have d3_2_1 : w3.frozen? ⟨w.heap.size + 1 + 1, 1, none⟩ = false := f3.thaw_of (by go_simp) (by go_simp) (by (try dsimp only); omega)
  have y3_2 : w.heap.size + 1 + 1 < w3.heap.size := World.block_lt_of_cell? w3 _ c3_2_0
  go_wp2_with fail
  refine K.call (by with_reducible rfl) (by with_reducible rfl) (l22DrawPoint_any (w.heap.size + 1 + 1 + 1) _ (show K.Src 71 _ _ from by with_reducible repeat' (first | exact s3 | refine K.Src.alloc ?_ _ | refine K.Src.drew ?_ | refine K.Src.setOther ?_ ?_ _ | (dsimp only; omega)))) ?_
  rintro e w4 ⟨⟨c, rfl, hc0, hc1, hc2, hc3⟩, s4, f4⟩
  have z4 := f4.size
  (try simp at z4)
  have F4 : K.Ext w w4 := K.Far.ext (by repeat' (first | with_reducible exact F3 | with_reducible refine K.Ext.setCell ?_ ?_ _ | with_reducible refine K.Ext.alloc ?_ _ | with_reducible refine K.Ext.drew ?_ | (dsimp only; omega) | omega | (simp; omega))) f4 (by omega)
  have c4_0_0 : w4.cell? ⟨w.heap.size, 0, none⟩ = some (.int .i64 0) := f4.cell_of (by go_simp) (by (try dsimp only); omega)
  have d4_0_0 : w4.frozen? ⟨w.heap.size, 0, none⟩ = false := f4.thaw_of (by go_simp) (by go_simp) (by (try dsimp only); omega)
  have c4_0_1 : w4.cell? ⟨w.heap.size, 1, none⟩ = some (.int .i64 0) := f4.cell_of (by go_simp) (by (try dsimp only); omega)
  have d4_0_1 : w4.frozen? ⟨w.heap.size, 1, none⟩ = false := f4.thaw_of (by go_simp) (by go_simp) (by (try dsimp only); omega)
  have y4_0 : w.heap.size < w4.heap.size := World.block_lt_of_cell? w4 _ c4_0_0
  have c4_1_0 : w4.cell? ⟨w.heap.size + 1, 0, none⟩ = some (.int .i64 0) := f4.cell_of (by go_simp) (by (try dsimp only); omega)
  have d4_1_0 : w4.frozen? ⟨w.heap.size + 1, 0, none⟩ = false := f4.thaw_of (by go_simp) (by go_simp) (by (try dsimp only); omega)
  have c4_1_1 : w4.cell? ⟨w.heap.size + 1, 1, none⟩ = some (.int .i64 0) := f4.cell_of (by go_simp) (by (try dsimp only); omega)
  have d4_1_1 : w4.frozen? ⟨w.heap.size + 1, 1, none⟩ = false := f4.thaw_of (by go_simp) (by go_simp) (by (try dsimp only); omega)
  have y4_1 : w.heap.size + 1 < w4.heap.size := World.block_lt_of_cell? w4 _ c4_1_0
  have c4_2_0 : w4.cell? ⟨w.heap.size + 1 + 1, 0, none⟩ = some (.int .i64 0) := f4.cell_of (by go_simp) (by (try dsimp only); omega)
  have d4_2_0 : w4.frozen? ⟨w.heap.size + 1 + 1, 0, none⟩ = false := f4.thaw_of (by go_simp) (by go_simp) (by (try dsimp only); omega)
  have c4_2_1 : w4.cell? ⟨w.heap.size + 1 + 1, 1, none⟩ = some (.int .i64 0) := f4.cell_of (by go_simp) (by (try dsimp only); omega)
  have d4_2_1 : w4.frozen? ⟨w.heap.size + 1 + 1, 1, none⟩ = false := f4.thaw_of (by go_simp) (by go_simp) (by (try dsimp only); omega)
  have y4_2 : w.heap.size + 1 + 1 < w4.heap.size := World.block_lt_of_cell? w4 _ c4_2_0
  go_wp2_with fail
  refine K.call (by with_reducible rfl) (by with_reducible rfl) (l01Next_any (w.heap.size + 1 + 1 + 1) (3) _ (show K.Src 71 _ _ from by with_reducible repeat' (first | exact s4 | refine K.Src.alloc ?_ _ | refine K.Src.drew ?_ | refine K.Src.setOther ?_ ?_ _ | (dsimp only; omega)))) ?_
  rintro e w5 ⟨⟨n, rfl, n0, n1, n2⟩, s5, f5⟩
  have z5 := f5.size
  (try simp at z5)
  have F5 : K.Ext w w5 := K.Far.ext (by repeat' (first | with_reducible exact F4 | with_reducible refine K.Ext.setCell ?_ ?_ _ | with_reducible refine K.Ext.alloc ?_ _ | with_reducible refine K.Ext.drew ?_ | (dsimp only; omega) | omega | (simp; omega))) f5 (by omega)
  have u5_0_1 : w.heap.size < w4.heap.size + 1 := (by omega)
  have u5_0_2 : w.heap.size < w4.heap.size + 1 + 1 := (by omega)
  have u5_0_3 : w.heap.size < w4.heap.size + 1 + 1 + 1 := (by omega)
  have u5_1_1 : w.heap.size + 1 < w4.heap.size + 1 := (by omega)
  have u5_1_2 : w.heap.size + 1 < w4.heap.size + 1 + 1 := (by omega)
  have u5_1_3 : w.heap.size + 1 < w4.heap.size + 1 + 1 + 1 := (by omega)
  have u5_2_1 : w.heap.size + 1 + 1 < w4.heap.size + 1 := (by omega)
  have u5_2_2 : w.heap.size + 1 + 1 < w4.heap.size + 1 + 1 := (by omega)
  have u5_2_3 : w.heap.size + 1 + 1 < w4.heap.size + 1 + 1 + 1 := (by omega)
  have c5_0_0 : w5.cell? ⟨w.heap.size, 0, none⟩ = some (.int .i64 0) := f5.cell_of (by go_simp) (by (try dsimp only); omega)
  have d5_0_0 : w5.frozen? ⟨w.heap.size, 0, none⟩ = false := f5.thaw_of (by go_simp) (by go_simp) (by (try dsimp only); omega)
  have c5_0_1 : w5.cell? ⟨w.heap.size, 1, none⟩ = some (.int .i64 0) := f5.cell_of (by go_simp) (by (try dsimp only); omega)
  have d5_0_1 : w5.frozen? ⟨w.heap.size, 1, none⟩ = false := f5.thaw_of (by go_simp) (by go_simp) (by (try dsimp only); omega)
  have y5_0 : w.heap.size < w5.heap.size := World.block_lt_of_cell? w5 _ c5_0_0
  have c5_1_0 : w5.cell? ⟨w.heap.size + 1, 0, none⟩ = some (.int .i64 0) := f5.cell_of (by go_simp) (by (try dsimp only); omega)
  have d5_1_0 : w5.frozen? ⟨w.heap.size + 1, 0, none⟩ = false := f5.thaw_of (by go_simp) (by go_simp) (by (try dsimp only); omega)
  have c5_1_1 : w5.cell? ⟨w.heap.size + 1, 1, none⟩ = some (.int .i64 0) := f5.cell_of (by go_simp) (by (try dsimp only); omega)
  have d5_1_1 : w5.frozen? ⟨w.heap.size + 1, 1, none⟩ = false := f5.thaw_of (by go_simp) (by go_simp) (by (try dsimp only); omega)
  have y5_1 : w.heap.size + 1 < w5.heap.size := World.block_lt_of_cell? w5 _ c5_1_0
  have c5_2_0 : w5.cell? ⟨w.heap.size + 1 + 1, 0, none⟩ = some (.int .i64 0) := f5.cell_of (by go_simp) (by (try dsimp only); omega)
  have d5_2_0 : w5.frozen? ⟨w.heap.size + 1 + 1, 0, none⟩ = false := f5.thaw_of (by go_simp) (by go_simp) (by (try dsimp only); omega)
  have c5_2_1 : w5.cell? ⟨w.heap.size + 1 + 1, 1, none⟩ = some (.int .i64 0) := f5.cell_of (by go_simp) (by (try dsimp only); omega)
  have d5_2_1 : w5.frozen? ⟨w.heap.size + 1 + 1, 1, none⟩ = false := f5.thaw_of (by go_simp) (by go_simp) (by (try dsimp only); omega)
  have y5_2 : w.heap.size + 1 + 1 < w5.heap.size := World.block_lt_of_cell? w5 _ c5_2_0
  have c5_3_0 : w5.cell? ⟨w4.heap.size, 0, none⟩ = some (.int .i64 a.1) := f5.cell_of (by go_simp) (by (try dsimp only); omega)
  have d5_3_0 : w5.frozen? ⟨w4.heap.size, 0, none⟩ = false := f5.thaw_of (by go_simp) (by go_simp) (by (try dsimp only); omega)
  have c5_3_1 : w5.cell? ⟨w4.heap.size, 1, none⟩ = some (.int .i64 a.2) := f5.cell_of (by go_simp) (by (try dsimp only); omega)
  have d5_3_1 : w5.frozen? ⟨w4.heap.size, 1, none⟩ = false := f5.thaw_of (by go_simp) (by go_simp) (by (try dsimp only); omega)
  have y5_3 : w4.heap.size < w5.heap.size := World.block_lt_of_cell? w5 _ c5_3_0
  have c5_4_0 : w5.cell? ⟨w4.heap.size + 1, 0, none⟩ = some (.int .i64 b.1) := f5.cell_of (by go_simp) (by (try dsimp only); omega)
  have d5_4_0 : w5.frozen? ⟨w4.heap.size + 1, 0, none⟩ = false := f5.thaw_of (by go_simp) (by go_simp) (by (try dsimp only); omega)
  have c5_4_1 : w5.cell? ⟨w4.heap.size + 1, 1, none⟩ = some (.int .i64 b.2) := f5.cell_of (by go_simp) (by (try dsimp only); omega)
  have d5_4_1 : w5.frozen? ⟨w4.heap.size + 1, 1, none⟩ = false := f5.thaw_of (by go_simp) (by go_simp) (by (try dsimp only); omega)
  have y5_4 : w4.heap.size + 1 < w5.heap.size := World.block_lt_of_cell? w5 _ c5_4_0
  have c5_5_0 : w5.cell? ⟨w4.heap.size + 1 + 1, 0, none⟩ = some (.int .i64 c.1) := f5.cell_of (by go_simp) (by (try dsimp only); omega)
  have d5_5_0 : w5.frozen? ⟨w4.heap.size + 1 + 1, 0, none⟩ = false := f5.thaw_of (by go_simp) (by go_simp) (by (try dsimp only); omega)
  have c5_5_1 : w5.cell? ⟨w4.heap.size + 1 + 1, 1, none⟩ = some (.int .i64 c.2) := f5.cell_of (by go_simp) (by (try dsimp only); omega)
  have d5_5_1 : w5.frozen? ⟨w4.heap.size + 1 + 1, 1, none⟩ = false := f5.thaw_of (by go_simp) (by go_simp) (by (try dsimp only); omega)
  have y5_5 : w4.heap.size + 1 + 1 < w5.heap.size := World.block_lt_of_cell? w5 _ c5_5_0
  by_cases hn0 : n = 0
  · subst hn0
    go_wp2_with fail
    go_region
    all_goals go_wp2_with fail
    all_goals refine bodyPost_ret (v := .tuple #[.agg #[.int .i64 a.1, .int .i64 a.2], .agg #[.int .i64 b.1, .int .i64 b.2], .agg #[.int .i64 (2 * b.1 - a.1), .int .i64 (2 * b.2 - a.2)]]) (by unfold results; rw [Try.results13]; go_simp) rfl ⟨⟨a, b, (2 * b.1 - a.1, 2 * b.2 - a.2), rfl⟩, (by repeat' (first | with_reducible exact F5 | with_reducible refine K.Ext.setCell ?_ ?_ _ | with_reducible refine K.Ext.alloc ?_ _ | with_reducible refine K.Ext.drew ?_ | (dsimp only; omega) | omega | (simp; omega)))⟩
  go_wp2_with fail
  go_region
  all_goals go_wp2_with fail
  all_goals refine bodyPost_ret (v := .tuple #[.agg #[.int .i64 a.1, .int .i64 a.2], .agg #[.int .i64 b.1, .int .i64 b.2], .agg #[.int .i64 c.1, .int .i64 c.2]]) (by unfold results; rw [Try.results13]; go_simp) rfl ⟨⟨a, b, c, rfl⟩, (by repeat' (first | with_reducible exact F5 | with_reducible refine K.Ext.setCell ?_ ?_ _ | with_reducible refine K.Ext.alloc ?_ _ | with_reducible refine K.Ext.drew ?_ | (dsimp only; omega) | omega | (simp; omega)))⟩
set_option maxHeartbeats 6400000 in
theorem DrawDeviationOf_any {hi n : Nat} {v : Value} (w : World) (hn : n ≤ 4096) (hh : hi ≤ w.heap.size) (h : K.byts w hi v n) :
    Calls Try.prog 18 #[v] w fun e w' => (∃ a b c : Int × Int, e = .returned (.tuple #[.agg #[.int .i64 a.1, .int .i64 a.2], .agg #[.int .i64 b.1, .int .i64 b.2], .agg #[.int .i64 c.1, .int .i64 c.2]])) ∧ K.Ext w w' := by
  have F0 : K.Ext w w := K.Ext.refl _
  go_enter Try.func18, Try.ntmps18
  go_wp2_with fail
  refine K.call (by with_reducible rfl) (by with_reducible rfl) (DrawDoubleArea_any _ hn (by simp; omega) (h.ext (by repeat' (first | with_reducible exact F0 | with_reducible refine K.Ext.setCell ?_ ?_ _ | with_reducible refine K.Ext.alloc ?_ _ | with_reducible refine K.Ext.drew ?_ | (dsimp only; omega) | omega | (simp; omega))))) ?_
  rintro e w1 ⟨⟨a, b, c, rfl⟩, f1⟩
  have z1 := f1.size
  (try simp at z1)
  have F1 : K.Ext w w1 := K.Ext.trans (by repeat' (first | with_reducible exact F0 | with_reducible refine K.Ext.setCell ?_ ?_ _ | with_reducible refine K.Ext.alloc ?_ _ | with_reducible refine K.Ext.drew ?_ | (dsimp only; omega) | omega | (simp; omega))) f1
  have c1_0_0 : w1.cell? ⟨w.heap.size, 0, none⟩ = some (.int .i64 0) := f1.cell_of (by go_simp)
  have d1_0_0 : w1.frozen? ⟨w.heap.size, 0, none⟩ = false := f1.thaw_of (by go_simp) (by go_simp)
  have c1_0_1 : w1.cell? ⟨w.heap.size, 1, none⟩ = some (.int .i64 0) := f1.cell_of (by go_simp)
  have d1_0_1 : w1.frozen? ⟨w.heap.size, 1, none⟩ = false := f1.thaw_of (by go_simp) (by go_simp)
  have y1_0 : w.heap.size < w1.heap.size := World.block_lt_of_cell? w1 _ c1_0_0
  have c1_1_0 : w1.cell? ⟨w.heap.size + 1, 0, none⟩ = some (.int .i64 0) := f1.cell_of (by go_simp)
  have d1_1_0 : w1.frozen? ⟨w.heap.size + 1, 0, none⟩ = false := f1.thaw_of (by go_simp) (by go_simp)
  have c1_1_1 : w1.cell? ⟨w.heap.size + 1, 1, none⟩ = some (.int .i64 0) := f1.cell_of (by go_simp)
  have d1_1_1 : w1.frozen? ⟨w.heap.size + 1, 1, none⟩ = false := f1.thaw_of (by go_simp) (by go_simp)
  have y1_1 : w.heap.size + 1 < w1.heap.size := World.block_lt_of_cell? w1 _ c1_1_0
  have c1_2_0 : w1.cell? ⟨w.heap.size + 1 + 1, 0, none⟩ = some (.int .i64 0) := f1.cell_of (by go_simp)
  have d1_2_0 : w1.frozen? ⟨w.heap.size + 1 + 1, 0, none⟩ = false := f1.thaw_of (by go_simp) (by go_simp)
  have c1_2_1 : w1.cell? ⟨w.heap.size + 1 + 1, 1, none⟩ = some (.int .i64 0) := f1.cell_of (by go_simp)
  have d1_2_1 : w1.frozen? ⟨w.heap.size + 1 + 1, 1, none⟩ = false := f1.thaw_of (by go_simp) (by go_simp)
  have y1_2 : w.heap.size + 1 + 1 < w1.heap.size := World.block_lt_of_cell? w1 _ c1_2_0
  have ue_0_1 : w.heap.size < w1.heap.size + 1 := (by omega)
  have ue_0_2 : w.heap.size < w1.heap.size + 1 + 1 := (by omega)
  have ue_0_3 : w.heap.size < w1.heap.size + 1 + 1 + 1 := (by omega)
  have ue_1_1 : w.heap.size + 1 < w1.heap.size + 1 := (by omega)
  have ue_1_2 : w.heap.size + 1 < w1.heap.size + 1 + 1 := (by omega)
  have ue_1_3 : w.heap.size + 1 < w1.heap.size + 1 + 1 + 1 := (by omega)
  have ue_2_1 : w.heap.size + 1 + 1 < w1.heap.size + 1 := (by omega)
  have ue_2_2 : w.heap.size + 1 + 1 < w1.heap.size + 1 + 1 := (by omega)
  have ue_2_3 : w.heap.size + 1 + 1 < w1.heap.size + 1 + 1 + 1 := (by omega)
  go_wp2_with fail
  go_region
  all_goals go_wp2_with fail
  all_goals refine bodyPost_ret (v := .tuple #[.agg #[.int .i64 c.1, .int .i64 c.2], .agg #[.int .i64 a.1, .int .i64 a.2], .agg #[.int .i64 b.1, .int .i64 b.2]]) (by unfold results; rw [Try.results18]; go_simp) rfl ⟨⟨c, a, b, rfl⟩, (by repeat' (first | with_reducible exact F1 | with_reducible refine K.Ext.setCell ?_ ?_ _ | with_reducible refine K.Ext.alloc ?_ _ | with_reducible refine K.Ext.drew ?_ | (dsimp only; omega) | omega | (simp; omega)))⟩
set_option maxHeartbeats 6400000 in
theorem DrawCrossingOf_any {hi n : Nat} {v : Value} (w : World) (hn : n ≤ 4096) (hh : hi ≤ w.heap.size) (h : K.byts w hi v n) :
    Calls Try.prog 24 #[v] w fun e w' => (∃ a b c d : Int × Int, e = .returned (.tuple #[.agg #[.int .i64 a.1, .int .i64 a.2], .agg #[.int .i64 b.1, .int .i64 b.2], .agg #[.int .i64 c.1, .int .i64 c.2], .agg #[.int .i64 d.1, .int .i64 d.2]])) ∧ K.Ext w w' := by
  have F0 : K.Ext w w := K.Ext.refl _
  go_enter Try.func24, Try.ntmps24
  go_wp2_with fail
  refine K.call (by with_reducible rfl) (by with_reducible rfl) (l01From_at (w.heap.size + 1 + 1 + 1 + 1) _ (by simp) hn (by omega) (h.ext (by repeat' (first | with_reducible exact F0 | with_reducible refine K.Ext.setCell ?_ ?_ _ | with_reducible refine K.Ext.alloc ?_ _ | with_reducible refine K.Ext.drew ?_ | (dsimp only; omega) | omega | (simp; omega))))) ?_
  rintro e w1 ⟨⟨rfl, s1⟩, f1⟩
  have z1 := f1.size
  (try simp at z1)
  have F1 : K.Ext w w1 := K.Ext.trans (by repeat' (first | with_reducible exact F0 | with_reducible refine K.Ext.setCell ?_ ?_ _ | with_reducible refine K.Ext.alloc ?_ _ | with_reducible refine K.Ext.drew ?_ | (dsimp only; omega) | omega | (simp; omega))) f1
  have c1_0_0 : w1.cell? ⟨w.heap.size, 0, none⟩ = some (.int .i64 0) := f1.cell_of (by go_simp)
  have d1_0_0 : w1.frozen? ⟨w.heap.size, 0, none⟩ = false := f1.thaw_of (by go_simp) (by go_simp)
  have c1_0_1 : w1.cell? ⟨w.heap.size, 1, none⟩ = some (.int .i64 0) := f1.cell_of (by go_simp)
  have d1_0_1 : w1.frozen? ⟨w.heap.size, 1, none⟩ = false := f1.thaw_of (by go_simp) (by go_simp)
  have y1_0 : w.heap.size < w1.heap.size := World.block_lt_of_cell? w1 _ c1_0_0
  have c1_1_0 : w1.cell? ⟨w.heap.size + 1, 0, none⟩ = some (.int .i64 0) := f1.cell_of (by go_simp)
  have d1_1_0 : w1.frozen? ⟨w.heap.size + 1, 0, none⟩ = false := f1.thaw_of (by go_simp) (by go_simp)
  have c1_1_1 : w1.cell? ⟨w.heap.size + 1, 1, none⟩ = some (.int .i64 0) := f1.cell_of (by go_simp)
  have d1_1_1 : w1.frozen? ⟨w.heap.size + 1, 1, none⟩ = false := f1.thaw_of (by go_simp) (by go_simp)
  have y1_1 : w.heap.size + 1 < w1.heap.size := World.block_lt_of_cell? w1 _ c1_1_0
  have c1_2_0 : w1.cell? ⟨w.heap.size + 1 + 1, 0, none⟩ = some (.int .i64 0) := f1.cell_of (by go_simp)
  have d1_2_0 : w1.frozen? ⟨w.heap.size + 1 + 1, 0, none⟩ = false := f1.thaw_of (by go_simp) (by go_simp)
  have c1_2_1 : w1.cell? ⟨w.heap.size + 1 + 1, 1, none⟩ = some (.int .i64 0) := f1.cell_of (by go_simp)
  have d1_2_1 : w1.frozen? ⟨w.heap.size + 1 + 1, 1, none⟩ = false := f1.thaw_of (by go_simp) (by go_simp)
  have y1_2 : w.heap.size + 1 + 1 < w1.heap.size := World.block_lt_of_cell? w1 _ c1_2_0
  have c1_3_0 : w1.cell? ⟨w.heap.size + 1 + 1 + 1, 0, none⟩ = some (.int .i64 0) := f1.cell_of (by go_simp)
  have d1_3_0 : w1.frozen? ⟨w.heap.size + 1 + 1 + 1, 0, none⟩ = false := f1.thaw_of (by go_simp) (by go_simp)
  have c1_3_1 : w1.cell? ⟨w.heap.size + 1 + 1 + 1, 1, none⟩ = some (.int .i64 0) := f1.cell_of (by go_simp)
  have d1_3_1 : w1.frozen? ⟨w.heap.size + 1 + 1 + 1, 1, none⟩ = false := f1.thaw_of (by go_simp) (by go_simp)
  have y1_3 : w.heap.size + 1 + 1 + 1 < w1.heap.size := World.block_lt_of_cell? w1 _ c1_3_0
  have lg := s1.lt
  go_wp2_with fail
  refine K.call (by with_reducible rfl) (by with_reducible rfl) (l22DrawPoint_any (w.heap.size + 1 + 1 + 1 + 1) _ (show K.Src 71 _ _ from by with_reducible repeat' (first | exact s1 | refine K.Src.alloc ?_ _ | refine K.Src.drew ?_ | refine K.Src.setOther ?_ ?_ _ | (dsimp only; omega)))) ?_
  rintro e w2 ⟨⟨a, rfl, ha0, ha1, ha2, ha3⟩, s2, f2⟩
  have z2 := f2.size
  (try simp at z2)
  have F2 : K.Ext w w2 := K.Far.ext (by repeat' (first | with_reducible exact F1 | with_reducible refine K.Ext.setCell ?_ ?_ _ | with_reducible refine K.Ext.alloc ?_ _ | with_reducible refine K.Ext.drew ?_ | (dsimp only; omega) | omega | (simp; omega))) f2 (by omega)
  have c2_0_0 : w2.cell? ⟨w.heap.size, 0, none⟩ = some (.int .i64 0) := f2.cell_of (by go_simp) (by (try dsimp only); omega)
  have d2_0_0 : w2.frozen? ⟨w.heap.size, 0, none⟩ = false := f2.thaw_of (by go_simp) (by go_simp) (by (try dsimp only); omega)
  have c2_0_1 : w2.cell? ⟨w.heap.size, 1, none⟩ = some (.int .i64 0) := f2.cell_of (by go_simp) (by (try dsimp only); omega)
  have d2_0_1 : w2.frozen? ⟨w.heap.size, 1, none⟩ = false := f2.thaw_of (by go_simp) (by go_simp) (by (try dsimp only); omega)
  have y2_0 : w.heap.size < w2.heap.size := World.block_lt_of_cell? w2 _ c2_0_0
  have c2_1_0 : w2.cell? ⟨w.heap.size + 1, 0, none⟩ = some (.int .i64 0) := f2.cell_of (by go_simp) (by (try dsimp only); omega)
  have d2_1_0 : w2.frozen? ⟨w.heap.size + 1, 0, none⟩ = false := f2.thaw_of (by go_simp) (by go_simp) (by (try dsimp only); omega)
  have c2_1_1 : w2.cell? ⟨w.heap.size + 1, 1, none⟩ = some (.int .i64 0) := f2.cell_of (by go_simp) (by (try dsimp only); omega)
  have d2_1_1 : w2.frozen? ⟨w.heap.size + 1, 1, none⟩ = false := f2.thaw_of (by go_simp) (by go_simp) (by (try dsimp only); omega)
  have y2_1 : w.heap.size + 1 < w2.heap.size := World.block_lt_of_cell? w2 _ c2_1_0
  have c2_2_0 : w2.cell? ⟨w.heap.size + 1 + 1, 0, none⟩ = some (.int .i64 0) := f2.cell_of (by go_simp) (by (try dsimp only); omega)
  have d2_2_0 : w2.frozen? ⟨w.heap.size + 1 + 1, 0, none⟩ = false := f2.thaw_of (by go_simp) (by go_simp) (by (try dsimp only); omega)
  have c2_2_1 : w2.cell? ⟨w.heap.size + 1 + 1, 1, none⟩ = some (.int .i64 0) := f2.cell_of (by go_simp) (by (try dsimp only); omega)
  have d2_2_1 : w2.frozen? ⟨w.heap.size + 1 + 1, 1, none⟩ = false := f2.thaw_of (by go_simp) (by go_simp) (by (try dsimp only); omega)
  have y2_2 : w.heap.size + 1 + 1 < w2.heap.size := World.block_lt_of_cell? w2 _ c2_2_0
  have c2_3_0 : w2.cell? ⟨w.heap.size + 1 + 1 + 1, 0, none⟩ = some (.int .i64 0) := f2.cell_of (by go_simp) (by (try dsimp only); omega)
  have d2_3_0 : w2.frozen? ⟨w.heap.size + 1 + 1 + 1, 0, none⟩ = false := f2.thaw_of (by go_simp) (by go_simp) (by (try dsimp only); omega)
  have c2_3_1 : w2.cell? ⟨w.heap.size + 1 + 1 + 1, 1, none⟩ = some (.int .i64 0) := f2.cell_of (by go_simp) (by (try dsimp only); omega)
  have d2_3_1 : w2.frozen? ⟨w.heap.size + 1 + 1 + 1, 1, none⟩ = false := f2.thaw_of (by go_simp) (by go_simp) (by (try dsimp only); omega)
  have y2_3 : w.heap.size + 1 + 1 + 1 < w2.heap.size := World.block_lt_of_cell? w2 _ c2_3_0
  go_wp2_with fail
  refine K.call (by with_reducible rfl) (by with_reducible rfl) (l22DrawPoint_any (w.heap.size + 1 + 1 + 1 + 1) _ (show K.Src 71 _ _ from by with_reducible repeat' (first | exact s2 | refine K.Src.alloc ?_ _ | refine K.Src.drew ?_ | refine K.Src.setOther ?_ ?_ _ | (dsimp only; omega)))) ?_
  rintro e w3 ⟨⟨b, rfl, hb0, hb1, hb2, hb3⟩, s3, f3⟩
  have z3 := f3.size
  (try simp at z3)
  have F3 : K.Ext w w3 := K.Far.ext (by repeat' (first | with_reducible exact F2 | with_reducible refine K.Ext.setCell ?_ ?_ _ | with_reducible refine K.Ext.alloc ?_ _ | with_reducible refine K.Ext.drew ?_ | (dsimp only; omega) | omega | (simp; omega))) f3 (by omega)
  have c3_0_0 : w3.cell? ⟨w.heap.size, 0, none⟩ = some (.int .i64 0) := f3.cell_of (by go_simp) (by (try dsimp only); omega)
  have d3_0_0 : w3.frozen? ⟨w.heap.size, 0, none⟩ = false := f3.thaw_of (by go_simp) (by go_simp) (by (try dsimp only); omega)
  have c3_0_1 : w3.cell? ⟨w.heap.size, 1, none⟩ = some (.int .i64 0) := f3.cell_of (by go_simp) (by (try dsimp only); omega)
  have d3_0_1 : w3.frozen? ⟨w.heap.size, 1, none⟩ = false := f3.thaw_of (by go_simp) (by go_simp) (by (try dsimp only); omega)
  have y3_0 : w.heap.size < w3.heap.size := World.block_lt_of_cell? w3 _ c3_0_0
  have c3_1_0 : w3.cell? ⟨w.heap.size + 1, 0, none⟩ = some (.int .i64 0) := f3.cell_of (by go_simp) (by (try dsimp only); omega)
  have d3_1_0 : w3.frozen? ⟨w.heap.size + 1, 0, none⟩ = false := f3.thaw_of (by go_simp) (by go_simp) (by (try dsimp only); omega)
  have c3_1_1 : w3.cell? ⟨w.heap.size + 1, 1, none⟩ = some (.int .i64 0) := f3.cell_of (by go_simp) (by (try dsimp only); omega)
  have d3_1_1 : w3.frozen? ⟨w.heap.size + 1, 1, none⟩ = false := f3.thaw_of (by go_simp) (by go_simp) (by (try dsimp only); omega)
  have y3_1 : w.heap.size + 1 < w3.heap.size := World.block_lt_of_cell? w3 _ c3_1_0
  have c3_2_0 : w3.cell? ⟨w.heap.size + 1 + 1, 0, none⟩ = some (.int .i64 0) := f3.cell_of (by go_simp) (by (try dsimp only); omega)
  have d3_2_0 : w3.frozen? ⟨w.heap.size + 1 + 1, 0, none⟩ = false := f3.thaw_of (by go_simp) (by go_simp) (by (try dsimp only); omega)
  have c3_2_1 : w3.cell? ⟨w.heap.size + 1 + 1, 1, none⟩ = some (.int .i64 0) := f3.cell_of (by go_simp) (by (try dsimp only); omega)
  have d3_2_1 : w3.frozen? ⟨w.heap.size + 1 + 1, 1, none⟩ = false := f3.thaw_of (by go_simp) (by go_simp) (by (try dsimp only); omega)
  have y3_2 : w.heap.size + 1 + 1 < w3.heap.size := World.block_lt_of_cell? w3 _ c3_2_0
  have c3_3_0 : w3.cell? ⟨w.heap.size + 1 + 1 + 1, 0, none⟩ = some (.int .i64 0) := f3.cell_of (by go_simp) (by (try dsimp only); omega)
  have d3_3_0 : w3.frozen? ⟨w.heap.size + 1 + 1 + 1, 0, none⟩ = false := f3.thaw_of (by go_simp) (by go_simp) (by (try dsimp only); omega)
  have c3_3_1 : w3.cell? ⟨w.heap.size + 1 + 1 + 1, 1, none⟩ = some (.int .i64 0) := f3.cell_of (by go_simp) (by (try dsimp only); omega)
  have d3_3_1 : w3.frozen? ⟨w.heap.size + 1 + 1 + 1, 1, none⟩ = false := f3.thaw_of (by go_simp) (by go_simp) (by (try dsimp only); omega)
  have y3_3 : w.heap.size + 1 + 1 + 1 < w3.heap.size := World.block_lt_of_cell? w3 _ c3_3_0
  go_wp2_with fail
  refine K.call (by with_reducible rfl) (by with_reducible rfl) (l22DrawPoint_any (w.heap.size + 1 + 1 + 1 + 1) _ (show K.Src 71 _ _ from by with_reducible repeat' (first | exact s3 | refine K.Src.alloc ?_ _ | refine K.Src.drew ?_ | refine K.Src.setOther ?_ ?_ _ | (dsimp only; omega)))) ?_
  rintro e w4 ⟨⟨c, rfl, hc0, hc1, hc2, hc3⟩, s4, f4⟩
  have z4 := f4.size
  (try simp at z4)
  have F4 : K.Ext w w4 := K.Far.ext (by repeat' (first | with_reducible exact F3 | with_reducible refine K.Ext.setCell ?_ ?_ _ | with_reducible refine K.Ext.alloc ?_ _ | with_reducible refine K.Ext.drew ?_ | (dsimp only; omega) | omega | (simp; omega))) f4 (by omega)
  have c4_0_0 : w4.cell? ⟨w.heap.size, 0, none⟩ = some (.int .i64 0) := f4.cell_of (by go_simp) (by (try dsimp only); omega)
  have d4_0_0 : w4.frozen? ⟨w.heap.size, 0, none⟩ = false := f4.thaw_of (by go_simp) (by go_simp) (by (try dsimp only); omega)
  have c4_0_1 : w4.cell? ⟨w.heap.size, 1, none⟩ = some (.int .i64 0) := f4.cell_of (by go_simp) (by (try dsimp only); omega)
  have d4_0_1 : w4.frozen? ⟨w.heap.size, 1, none⟩ = false := f4.thaw_of (by go_simp) (by go_simp) (by (try dsimp only); omega)
  have y4_0 : w.heap.size < w4.heap.size := World.block_lt_of_cell? w4 _ c4_0_0
  have c4_1_0 : w4.cell? ⟨w.heap.size + 1, 0, none⟩ = some (.int .i64 0) := f4.cell_of (by go_simp) (by (try dsimp only); omega)
  have d4_1_0 : w4.frozen? ⟨w.heap.size + 1, 0, none⟩ = false := f4.thaw_of (by go_simp) (by go_simp) (by (try dsimp only); omega)
  have c4_1_1 : w4.cell? ⟨w.heap.size + 1, 1, none⟩ = some (.int .i64 0) := f4.cell_of (by go_simp) (by (try dsimp only); omega)
  have d4_1_1 : w4.frozen? ⟨w.heap.size + 1, 1, none⟩ = false := f4.thaw_of (by go_simp) (by go_simp) (by (try dsimp only); omega)
  have y4_1 : w.heap.size + 1 < w4.heap.size := World.block_lt_of_cell? w4 _ c4_1_0
  have c4_2_0 : w4.cell? ⟨w.heap.size + 1 + 1, 0, none⟩ = some (.int .i64 0) := f4.cell_of (by go_simp) (by (try dsimp only); omega)
  have d4_2_0 : w4.frozen? ⟨w.heap.size + 1 + 1, 0, none⟩ = false := f4.thaw_of (by go_simp) (by go_simp) (by (try dsimp only); omega)
  have c4_2_1 : w4.cell? ⟨w.heap.size + 1 + 1, 1, none⟩ = some (.int .i64 0) := f4.cell_of (by go_simp) (by (try dsimp only); omega)
  have d4_2_1 : w4.frozen? ⟨w.heap.size + 1 + 1, 1, none⟩ = false := f4.thaw_of (by go_simp) (by go_simp) (by (try dsimp only); omega)
  have y4_2 : w.heap.size + 1 + 1 < w4.heap.size := World.block_lt_of_cell? w4 _ c4_2_0
  have c4_3_0 : w4.cell? ⟨w.heap.size + 1 + 1 + 1, 0, none⟩ = some (.int .i64 0) := f4.cell_of (by go_simp) (by (try dsimp only); omega)
  have d4_3_0 : w4.frozen? ⟨w.heap.size + 1 + 1 + 1, 0, none⟩ = false := f4.thaw_of (by go_simp) (by go_simp) (by (try dsimp only); omega)
  have c4_3_1 : w4.cell? ⟨w.heap.size + 1 + 1 + 1, 1, none⟩ = some (.int .i64 0) := f4.cell_of (by go_simp) (by (try dsimp only); omega)
  have d4_3_1 : w4.frozen? ⟨w.heap.size + 1 + 1 + 1, 1, none⟩ = false := f4.thaw_of (by go_simp) (by go_simp) (by (try dsimp only); omega)
  have y4_3 : w.heap.size + 1 + 1 + 1 < w4.heap.size := World.block_lt_of_cell? w4 _ c4_3_0
  go_wp2_with fail
  refine K.call (by with_reducible rfl) (by with_reducible rfl) (l22DrawPoint_any (w.heap.size + 1 + 1 + 1 + 1) _ (show K.Src 71 _ _ from by with_reducible repeat' (first | exact s4 | refine K.Src.alloc ?_ _ | refine K.Src.drew ?_ | refine K.Src.setOther ?_ ?_ _ | (dsimp only; omega)))) ?_
  rintro e w5 ⟨⟨d, rfl, hd0, hd1, hd2, hd3⟩, s5, f5⟩
  have z5 := f5.size
  (try simp at z5)
  have F5 : K.Ext w w5 := K.Far.ext (by repeat' (first | with_reducible exact F4 | with_reducible refine K.Ext.setCell ?_ ?_ _ | with_reducible refine K.Ext.alloc ?_ _ | with_reducible refine K.Ext.drew ?_ | (dsimp only; omega) | omega | (simp; omega))) f5 (by omega)
  have c5_0_0 : w5.cell? ⟨w.heap.size, 0, none⟩ = some (.int .i64 0) := f5.cell_of (by go_simp) (by (try dsimp only); omega)
  have d5_0_0 : w5.frozen? ⟨w.heap.size, 0, none⟩ = false := f5.thaw_of (by go_simp) (by go_simp) (by (try dsimp only); omega)
  have c5_0_1 : w5.cell? ⟨w.heap.size, 1, none⟩ = some (.int .i64 0) := f5.cell_of (by go_simp) (by (try dsimp only); omega)
  have d5_0_1 : w5.frozen? ⟨w.heap.size, 1, none⟩ = false := f5.thaw_of (by go_simp) (by go_simp) (by (try dsimp only); omega)
  have y5_0 : w.heap.size < w5.heap.size := World.block_lt_of_cell? w5 _ c5_0_0
  have c5_1_0 : w5.cell? ⟨w.heap.size + 1, 0, none⟩ = some (.int .i64 0) := f5.cell_of (by go_simp) (by (try dsimp only); omega)
  have d5_1_0 : w5.frozen? ⟨w.heap.size + 1, 0, none⟩ = false := f5.thaw_of (by go_simp) (by go_simp) (by (try dsimp only); omega)
  have c5_1_1 : w5.cell? ⟨w.heap.size + 1, 1, none⟩ = some (.int .i64 0) := f5.cell_of (by go_simp) (by (try dsimp only); omega)
  have d5_1_1 : w5.frozen? ⟨w.heap.size + 1, 1, none⟩ = false := f5.thaw_of (by go_simp) (by go_simp) (by (try dsimp only); omega)
  have y5_1 : w.heap.size + 1 < w5.heap.size := World.block_lt_of_cell? w5 _ c5_1_0
  have c5_2_0 : w5.cell? ⟨w.heap.size + 1 + 1, 0, none⟩ = some (.int .i64 0) := f5.cell_of (by go_simp) (by (try dsimp only); omega)
  have d5_2_0 : w5.frozen? ⟨w.heap.size + 1 + 1, 0, none⟩ = false := f5.thaw_of (by go_simp) (by go_simp) (by (try dsimp only); omega)
  have c5_2_1 : w5.cell? ⟨w.heap.size + 1 + 1, 1, none⟩ = some (.int .i64 0) := f5.cell_of (by go_simp) (by (try dsimp only); omega)
  have d5_2_1 : w5.frozen? ⟨w.heap.size + 1 + 1, 1, none⟩ = false := f5.thaw_of (by go_simp) (by go_simp) (by (try dsimp only); omega)
  have y5_2 : w.heap.size + 1 + 1 < w5.heap.size := World.block_lt_of_cell? w5 _ c5_2_0
  have c5_3_0 : w5.cell? ⟨w.heap.size + 1 + 1 + 1, 0, none⟩ = some (.int .i64 0) := f5.cell_of (by go_simp) (by (try dsimp only); omega)
  have d5_3_0 : w5.frozen? ⟨w.heap.size + 1 + 1 + 1, 0, none⟩ = false := f5.thaw_of (by go_simp) (by go_simp) (by (try dsimp only); omega)
  have c5_3_1 : w5.cell? ⟨w.heap.size + 1 + 1 + 1, 1, none⟩ = some (.int .i64 0) := f5.cell_of (by go_simp) (by (try dsimp only); omega)
  have d5_3_1 : w5.frozen? ⟨w.heap.size + 1 + 1 + 1, 1, none⟩ = false := f5.thaw_of (by go_simp) (by go_simp) (by (try dsimp only); omega)
  have y5_3 : w.heap.size + 1 + 1 + 1 < w5.heap.size := World.block_lt_of_cell? w5 _ c5_3_0
  go_wp2_with fail
  refine K.call (by with_reducible rfl) (by with_reducible rfl) (l01Next_any (w.heap.size + 1 + 1 + 1 + 1) (8) _ (show K.Src 71 _ _ from by with_reducible repeat' (first | exact s5 | refine K.Src.alloc ?_ _ | refine K.Src.drew ?_ | refine K.Src.setOther ?_ ?_ _ | (dsimp only; omega)))) ?_
  rintro e w6 ⟨⟨n, rfl, n0, n1, n2⟩, s6, f6⟩
  have z6 := f6.size
  (try simp at z6)
  have F6 : K.Ext w w6 := K.Far.ext (by repeat' (first | with_reducible exact F5 | with_reducible refine K.Ext.setCell ?_ ?_ _ | with_reducible refine K.Ext.alloc ?_ _ | with_reducible refine K.Ext.drew ?_ | (dsimp only; omega) | omega | (simp; omega))) f6 (by omega)
  have u6_0_1 : w.heap.size < w5.heap.size + 1 := (by omega)
  have u6_0_2 : w.heap.size < w5.heap.size + 1 + 1 := (by omega)
  have u6_0_3 : w.heap.size < w5.heap.size + 1 + 1 + 1 := (by omega)
  have u6_0_4 : w.heap.size < w5.heap.size + 1 + 1 + 1 + 1 := (by omega)
  have u6_1_1 : w.heap.size + 1 < w5.heap.size + 1 := (by omega)
  have u6_1_2 : w.heap.size + 1 < w5.heap.size + 1 + 1 := (by omega)
  have u6_1_3 : w.heap.size + 1 < w5.heap.size + 1 + 1 + 1 := (by omega)
  have u6_1_4 : w.heap.size + 1 < w5.heap.size + 1 + 1 + 1 + 1 := (by omega)
  have u6_2_1 : w.heap.size + 1 + 1 < w5.heap.size + 1 := (by omega)
  have u6_2_2 : w.heap.size + 1 + 1 < w5.heap.size + 1 + 1 := (by omega)
  have u6_2_3 : w.heap.size + 1 + 1 < w5.heap.size + 1 + 1 + 1 := (by omega)
  have u6_2_4 : w.heap.size + 1 + 1 < w5.heap.size + 1 + 1 + 1 + 1 := (by omega)
  have u6_3_1 : w.heap.size + 1 + 1 + 1 < w5.heap.size + 1 := (by omega)
  have u6_3_2 : w.heap.size + 1 + 1 + 1 < w5.heap.size + 1 + 1 := (by omega)
  have u6_3_3 : w.heap.size + 1 + 1 + 1 < w5.heap.size + 1 + 1 + 1 := (by omega)
  have u6_3_4 : w.heap.size + 1 + 1 + 1 < w5.heap.size + 1 + 1 + 1 + 1 := (by omega)
  have c6_0_0 : w6.cell? ⟨w.heap.size, 0, none⟩ = some (.int .i64 0) := f6.cell_of (by go_simp) (by (try dsimp only); omega)
  have d6_0_0 : w6.frozen? ⟨w.heap.size, 0, none⟩ = false := f6.thaw_of (by go_simp) (by go_simp) (by (try dsimp only); omega)
  have c6_0_1 : w6.cell? ⟨w.heap.size, 1, none⟩ = some (.int .i64 0) := f6.cell_of (by go_simp) (by (try dsimp only); omega)
  have d6_0_1 : w6.frozen? ⟨w.heap.size, 1, none⟩ = false := f6.thaw_of (by go_simp) (by go_simp) (by (try dsimp only); omega)
  have y6_0 : w.heap.size < w6.heap.size := World.block_lt_of_cell? w6 _ c6_0_0
  have c6_1_0 : w6.cell? ⟨w.heap.size + 1, 0, none⟩ = some (.int .i64 0) := f6.cell_of (by go_simp) (by (try dsimp only); omega)
  have d6_1_0 : w6.frozen? ⟨w.heap.size + 1, 0, none⟩ = false := f6.thaw_of (by go_simp) (by go_simp) (by (try dsimp only); omega)
  have c6_1_1 : w6.cell? ⟨w.heap.size + 1, 1, none⟩ = some (.int .i64 0) := f6.cell_of (by go_simp) (by (try dsimp only); omega)
  have d6_1_1 : w6.frozen? ⟨w.heap.size + 1, 1, none⟩ = false := f6.thaw_of (by go_simp) (by go_simp) (by (try dsimp only); omega)
  have y6_1 : w.heap.size + 1 < w6.heap.size := World.block_lt_of_cell? w6 _ c6_1_0
  have c6_2_0 : w6.cell? ⟨w.heap.size + 1 + 1, 0, none⟩ = some (.int .i64 0) := f6.cell_of (by go_simp) (by (try dsimp only); omega)
  have d6_2_0 : w6.frozen? ⟨w.heap.size + 1 + 1, 0, none⟩ = false := f6.thaw_of (by go_simp) (by go_simp) (by (try dsimp only); omega)
  have c6_2_1 : w6.cell? ⟨w.heap.size + 1 + 1, 1, none⟩ = some (.int .i64 0) := f6.cell_of (by go_simp) (by (try dsimp only); omega)
  have d6_2_1 : w6.frozen? ⟨w.heap.size + 1 + 1, 1, none⟩ = false := f6.thaw_of (by go_simp) (by go_simp) (by (try dsimp only); omega)
  have y6_2 : w.heap.size + 1 + 1 < w6.heap.size := World.block_lt_of_cell? w6 _ c6_2_0
  have c6_3_0 : w6.cell? ⟨w.heap.size + 1 + 1 + 1, 0, none⟩ = some (.int .i64 0) := f6.cell_of (by go_simp) (by (try dsimp only); omega)
  have d6_3_0 : w6.frozen? ⟨w.heap.size + 1 + 1 + 1, 0, none⟩ = false := f6.thaw_of (by go_simp) (by go_simp) (by (try dsimp only); omega)
  have c6_3_1 : w6.cell? ⟨w.heap.size + 1 + 1 + 1, 1, none⟩ = some (.int .i64 0) := f6.cell_of (by go_simp) (by (try dsimp only); omega)
  have d6_3_1 : w6.frozen? ⟨w.heap.size + 1 + 1 + 1, 1, none⟩ = false := f6.thaw_of (by go_simp) (by go_simp) (by (try dsimp only); omega)
  have y6_3 : w.heap.size + 1 + 1 + 1 < w6.heap.size := World.block_lt_of_cell? w6 _ c6_3_0
  have c6_4_0 : w6.cell? ⟨w5.heap.size, 0, none⟩ = some (.int .i64 a.1) := f6.cell_of (by go_simp) (by (try dsimp only); omega)
  have d6_4_0 : w6.frozen? ⟨w5.heap.size, 0, none⟩ = false := f6.thaw_of (by go_simp) (by go_simp) (by (try dsimp only); omega)
  have c6_4_1 : w6.cell? ⟨w5.heap.size, 1, none⟩ = some (.int .i64 a.2) := f6.cell_of (by go_simp) (by (try dsimp only); omega)
  have d6_4_1 : w6.frozen? ⟨w5.heap.size, 1, none⟩ = false := f6.thaw_of (by go_simp) (by go_simp) (by (try dsimp only); omega)
  have y6_4 : w5.heap.size < w6.heap.size := World.block_lt_of_cell? w6 _ c6_4_0
  have c6_5_0 : w6.cell? ⟨w5.heap.size + 1, 0, none⟩ = some (.int .i64 b.1) := f6.cell_of (by go_simp) (by (try dsimp only); omega)
  have d6_5_0 : w6.frozen? ⟨w5.heap.size + 1, 0, none⟩ = false := f6.thaw_of (by go_simp) (by go_simp) (by (try dsimp only); omega)
  have c6_5_1 : w6.cell? ⟨w5.heap.size + 1, 1, none⟩ = some (.int .i64 b.2) := f6.cell_of (by go_simp) (by (try dsimp only); omega)
  have d6_5_1 : w6.frozen? ⟨w5.heap.size + 1, 1, none⟩ = false := f6.thaw_of (by go_simp) (by go_simp) (by (try dsimp only); omega)
  have y6_5 : w5.heap.size + 1 < w6.heap.size := World.block_lt_of_cell? w6 _ c6_5_0
  have c6_6_0 : w6.cell? ⟨w5.heap.size + 1 + 1, 0, none⟩ = some (.int .i64 c.1) := f6.cell_of (by go_simp) (by (try dsimp only); omega)
  have d6_6_0 : w6.frozen? ⟨w5.heap.size + 1 + 1, 0, none⟩ = false := f6.thaw_of (by go_simp) (by go_simp) (by (try dsimp only); omega)
  have c6_6_1 : w6.cell? ⟨w5.heap.size + 1 + 1, 1, none⟩ = some (.int .i64 c.2) := f6.cell_of (by go_simp) (by (try dsimp only); omega)
  have d6_6_1 : w6.frozen? ⟨w5.heap.size + 1 + 1, 1, none⟩ = false := f6.thaw_of (by go_simp) (by go_simp) (by (try dsimp only); omega)
  have y6_6 : w5.heap.size + 1 + 1 < w6.heap.size := World.block_lt_of_cell? w6 _ c6_6_0
  have c6_7_0 : w6.cell? ⟨w5.heap.size + 1 + 1 + 1, 0, none⟩ = some (.int .i64 d.1) := f6.cell_of (by go_simp) (by (try dsimp only); omega)
  have d6_7_0 : w6.frozen? ⟨w5.heap.size + 1 + 1 + 1, 0, none⟩ = false := f6.thaw_of (by go_simp) (by go_simp) (by (try dsimp only); omega)
  have c6_7_1 : w6.cell? ⟨w5.heap.size + 1 + 1 + 1, 1, none⟩ = some (.int .i64 d.2) := f6.cell_of (by go_simp) (by (try dsimp only); omega)
  have d6_7_1 : w6.frozen? ⟨w5.heap.size + 1 + 1 + 1, 1, none⟩ = false := f6.thaw_of (by go_simp) (by go_simp) (by (try dsimp only); omega)
  have y6_7 : w5.heap.size + 1 + 1 + 1 < w6.heap.size := World.block_lt_of_cell? w6 _ c6_7_0
  by_cases hn0 : n = 0
  · subst hn0
    go_wp2_with fail
    go_region
    all_goals go_wp2_with fail
    all_goals refine bodyPost_ret (v := .tuple #[.agg #[.int .i64 a.1, .int .i64 a.2], .agg #[.int .i64 b.1, .int .i64 b.2], .agg #[.int .i64 c.1, .int .i64 c.2], .agg #[.int .i64 (c.1 + b.1 - a.1), .int .i64 (c.2 + b.2 - a.2)]]) (by unfold results; rw [Try.results24]; go_simp) rfl ⟨⟨a, b, c, (c.1 + b.1 - a.1, c.2 + b.2 - a.2), rfl⟩, (by repeat' (first | with_reducible exact F6 | with_reducible refine K.Ext.setCell ?_ ?_ _ | with_reducible refine K.Ext.alloc ?_ _ | with_reducible refine K.Ext.drew ?_ | (dsimp only; omega) | omega | (simp; omega)))⟩
  go_wp2_with fail
  go_region
  all_goals go_wp2_with fail
  all_goals refine bodyPost_ret (v := .tuple #[.agg #[.int .i64 a.1, .int .i64 a.2], .agg #[.int .i64 b.1, .int .i64 b.2], .agg #[.int .i64 c.1, .int .i64 c.2], .agg #[.int .i64 d.1, .int .i64 d.2]]) (by unfold results; rw [Try.results24]; go_simp) rfl ⟨⟨a, b, c, d, rfl⟩, (by repeat' (first | with_reducible exact F6 | with_reducible refine K.Ext.setCell ?_ ?_ _ | with_reducible refine K.Ext.alloc ?_ _ | with_reducible refine K.Ext.drew ?_ | (dsimp only; omega) | omega | (simp; omega)))⟩
set_option maxHeartbeats 6400000 in
theorem DrawSquareBetween_any {hi n : Nat} {v : Value} (w : World) (hn : n ≤ 4096) (hh : hi ≤ w.heap.size) (h : K.byts w hi v n) :
    Calls Try.prog 28 #[v] w fun e w' => (∃ a b : Int × Int, e = .returned (.tuple #[.agg #[.int .i64 a.1, .int .i64 a.2], .agg #[.int .i64 b.1, .int .i64 b.2]])) ∧ K.Ext w w' := by
  have F0 : K.Ext w w := K.Ext.refl _
  go_enter Try.func28, Try.ntmps28
  go_wp2_with fail
  refine K.call (by with_reducible rfl) (by with_reducible rfl) (l01From_at (w.heap.size + 1 + 1) _ (by simp) hn (by omega) (h.ext (by repeat' (first | with_reducible exact F0 | with_reducible refine K.Ext.setCell ?_ ?_ _ | with_reducible refine K.Ext.alloc ?_ _ | with_reducible refine K.Ext.drew ?_ | (dsimp only; omega) | omega | (simp; omega))))) ?_
  rintro e w1 ⟨⟨rfl, s1⟩, f1⟩
  have z1 := f1.size
  (try simp at z1)
  have F1 : K.Ext w w1 := K.Ext.trans (by repeat' (first | with_reducible exact F0 | with_reducible refine K.Ext.setCell ?_ ?_ _ | with_reducible refine K.Ext.alloc ?_ _ | with_reducible refine K.Ext.drew ?_ | (dsimp only; omega) | omega | (simp; omega))) f1
  have c1_0_0 : w1.cell? ⟨w.heap.size, 0, none⟩ = some (.int .i64 0) := f1.cell_of (by go_simp)
  have d1_0_0 : w1.frozen? ⟨w.heap.size, 0, none⟩ = false := f1.thaw_of (by go_simp) (by go_simp)
  have c1_0_1 : w1.cell? ⟨w.heap.size, 1, none⟩ = some (.int .i64 0) := f1.cell_of (by go_simp)
  have d1_0_1 : w1.frozen? ⟨w.heap.size, 1, none⟩ = false := f1.thaw_of (by go_simp) (by go_simp)
  have y1_0 : w.heap.size < w1.heap.size := World.block_lt_of_cell? w1 _ c1_0_0
  have c1_1_0 : w1.cell? ⟨w.heap.size + 1, 0, none⟩ = some (.int .i64 0) := f1.cell_of (by go_simp)
  have d1_1_0 : w1.frozen? ⟨w.heap.size + 1, 0, none⟩ = false := f1.thaw_of (by go_simp) (by go_simp)
  have c1_1_1 : w1.cell? ⟨w.heap.size + 1, 1, none⟩ = some (.int .i64 0) := f1.cell_of (by go_simp)
  have d1_1_1 : w1.frozen? ⟨w.heap.size + 1, 1, none⟩ = false := f1.thaw_of (by go_simp) (by go_simp)
  have y1_1 : w.heap.size + 1 < w1.heap.size := World.block_lt_of_cell? w1 _ c1_1_0
  have lg := s1.lt
  go_wp2_with fail
  refine K.call (by with_reducible rfl) (by with_reducible rfl) (l22DrawPoint_any (w.heap.size + 1 + 1) _ (show K.Src 71 _ _ from by with_reducible repeat' (first | exact s1 | refine K.Src.alloc ?_ _ | refine K.Src.drew ?_ | refine K.Src.setOther ?_ ?_ _ | (dsimp only; omega)))) ?_
  rintro e w2 ⟨⟨a, rfl, ha0, ha1, ha2, ha3⟩, s2, f2⟩
  have z2 := f2.size
  (try simp at z2)
  have F2 : K.Ext w w2 := K.Far.ext (by repeat' (first | with_reducible exact F1 | with_reducible refine K.Ext.setCell ?_ ?_ _ | with_reducible refine K.Ext.alloc ?_ _ | with_reducible refine K.Ext.drew ?_ | (dsimp only; omega) | omega | (simp; omega))) f2 (by omega)
  have c2_0_0 : w2.cell? ⟨w.heap.size, 0, none⟩ = some (.int .i64 0) := f2.cell_of (by go_simp) (by (try dsimp only); omega)
  have d2_0_0 : w2.frozen? ⟨w.heap.size, 0, none⟩ = false := f2.thaw_of (by go_simp) (by go_simp) (by (try dsimp only); omega)
  have c2_0_1 : w2.cell? ⟨w.heap.size, 1, none⟩ = some (.int .i64 0) := f2.cell_of (by go_simp) (by (try dsimp only); omega)
  have d2_0_1 : w2.frozen? ⟨w.heap.size, 1, none⟩ = false := f2.thaw_of (by go_simp) (by go_simp) (by (try dsimp only); omega)
  have y2_0 : w.heap.size < w2.heap.size := World.block_lt_of_cell? w2 _ c2_0_0
  have c2_1_0 : w2.cell? ⟨w.heap.size + 1, 0, none⟩ = some (.int .i64 0) := f2.cell_of (by go_simp) (by (try dsimp only); omega)
  have d2_1_0 : w2.frozen? ⟨w.heap.size + 1, 0, none⟩ = false := f2.thaw_of (by go_simp) (by go_simp) (by (try dsimp only); omega)
  have c2_1_1 : w2.cell? ⟨w.heap.size + 1, 1, none⟩ = some (.int .i64 0) := f2.cell_of (by go_simp) (by (try dsimp only); omega)
  have d2_1_1 : w2.frozen? ⟨w.heap.size + 1, 1, none⟩ = false := f2.thaw_of (by go_simp) (by go_simp) (by (try dsimp only); omega)
  have y2_1 : w.heap.size + 1 < w2.heap.size := World.block_lt_of_cell? w2 _ c2_1_0
  have uh_0_1 : w.heap.size < w2.heap.size + 1 := (by omega)
  have uh_1_1 : w.heap.size + 1 < w2.heap.size + 1 := (by omega)
  go_wp2_with fail
  have ne0_2 : ¬ (w.heap.size = w2.heap.size) := (by omega)
  have nf0_2 : ¬ (w2.heap.size = w.heap.size) := (by omega)
  have ne1_2 : ¬ (w.heap.size + 1 = w2.heap.size) := (by omega)
  have nf1_2 : ¬ (w2.heap.size = w.heap.size + 1) := (by omega)
  go_region_held3 (fun w' => w'.cell? ⟨w2.heap.size, 0, none⟩ = some (.int .i64 a.1) ∧ w'.cell? ⟨w2.heap.size, 1, none⟩ = some (.int .i64 a.2)) (first | go_keep | (go_split_ands; simp [*])) ((go_at_call 39; refine K.call (by with_reducible rfl) (by with_reducible rfl) (l22DrawPoint_any (w.heap.size + 1 + 1) _ (show K.Src 71 _ _ from by with_reducible repeat' (first | exact s2 | refine K.Src.alloc ?_ _ | refine K.Src.drew ?_ | refine K.Src.setOther ?_ ?_ _ | (dsimp only; omega)))) ?_; rintro e w3 ⟨⟨b, rfl, hb0, hb1, hb2, hb3⟩, s3, f3⟩; have z3 := f3.size; (try simp at z3); have F3 : K.Ext w w3 := K.Far.ext (by repeat' (first | with_reducible exact F2 | with_reducible refine K.Ext.setCell ?_ ?_ _ | with_reducible refine K.Ext.alloc ?_ _ | with_reducible refine K.Ext.drew ?_ | (dsimp only; omega) | omega | (simp; omega))) f3 (by omega); have u3_0_1 : w.heap.size < w2.heap.size + 1 := (by omega); have u3_1_1 : w.heap.size + 1 < w2.heap.size + 1 := (by omega); have c3_0_0 : w3.cell? ⟨w.heap.size, 0, none⟩ = some (.int .i64 0) := f3.cell_of (by go_simp) (by (try dsimp only); omega); have d3_0_0 : w3.frozen? ⟨w.heap.size, 0, none⟩ = false := f3.thaw_of (by go_simp) (by go_simp) (by (try dsimp only); omega); have c3_0_1 : w3.cell? ⟨w.heap.size, 1, none⟩ = some (.int .i64 0) := f3.cell_of (by go_simp) (by (try dsimp only); omega); have d3_0_1 : w3.frozen? ⟨w.heap.size, 1, none⟩ = false := f3.thaw_of (by go_simp) (by go_simp) (by (try dsimp only); omega); have y3_0 : w.heap.size < w3.heap.size := World.block_lt_of_cell? w3 _ c3_0_0; have c3_1_0 : w3.cell? ⟨w.heap.size + 1, 0, none⟩ = some (.int .i64 0) := f3.cell_of (by go_simp) (by (try dsimp only); omega); have d3_1_0 : w3.frozen? ⟨w.heap.size + 1, 0, none⟩ = false := f3.thaw_of (by go_simp) (by go_simp) (by (try dsimp only); omega); have c3_1_1 : w3.cell? ⟨w.heap.size + 1, 1, none⟩ = some (.int .i64 0) := f3.cell_of (by go_simp) (by (try dsimp only); omega); have d3_1_1 : w3.frozen? ⟨w.heap.size + 1, 1, none⟩ = false := f3.thaw_of (by go_simp) (by go_simp) (by (try dsimp only); omega); have y3_1 : w.heap.size + 1 < w3.heap.size := World.block_lt_of_cell? w3 _ c3_1_0; have c3_2_0 : w3.cell? ⟨w2.heap.size, 0, none⟩ = some (.int .i64 a.1) := f3.cell_of (by go_simp) (by (try dsimp only); omega); have d3_2_0 : w3.frozen? ⟨w2.heap.size, 0, none⟩ = false := f3.thaw_of (by go_simp) (by go_simp) (by (try dsimp only); omega); have c3_2_1 : w3.cell? ⟨w2.heap.size, 1, none⟩ = some (.int .i64 a.2) := f3.cell_of (by go_simp) (by (try dsimp only); omega); have d3_2_1 : w3.frozen? ⟨w2.heap.size, 1, none⟩ = false := f3.thaw_of (by go_simp) (by go_simp) (by (try dsimp only); omega); have y3_2 : w2.heap.size < w3.heap.size := World.block_lt_of_cell? w3 _ c3_2_0))
  go_wp2_with fail
  all_goals refine bodyPost_ret (v := .tuple #[.agg #[.int .i64 a.1, .int .i64 a.2], .agg #[.int .i64 b.1, .int .i64 b.2]]) (by unfold results; rw [Try.results28]; go_simp) rfl ⟨⟨a, b, rfl⟩, (by repeat' (first | with_reducible exact F3 | with_reducible refine K.Ext.setCell ?_ ?_ _ | with_reducible refine K.Ext.alloc ?_ _ | with_reducible refine K.Ext.drew ?_ | (dsimp only; omega) | omega | (simp; omega)))⟩
set_option maxHeartbeats 6400000 in
theorem DrawHeightAt_any {hi n : Nat} {v : Value} (w : World) (hn : n ≤ 4096) (hh : hi ≤ w.heap.size) (h : K.byts w hi v n) :
    Calls Try.prog 21 #[v] w fun e w' => (∃ (a b : Int × Int) (x : Int), e = .returned (.tuple #[.agg #[.int .i64 a.1, .int .i64 a.2], .agg #[.int .i64 b.1, .int .i64 b.2], .int .i64 x])) ∧ K.Ext w w' := by
  have F0 : K.Ext w w := K.Ext.refl _
  go_enter Try.func21, Try.ntmps21
  go_wp2_with fail
  refine K.call (by with_reducible rfl) (by with_reducible rfl) (l01From_at (w.heap.size + 1 + 1) _ (by simp) hn (by omega) (h.ext (by repeat' (first | with_reducible exact F0 | with_reducible refine K.Ext.setCell ?_ ?_ _ | with_reducible refine K.Ext.alloc ?_ _ | with_reducible refine K.Ext.drew ?_ | (dsimp only; omega) | omega | (simp; omega))))) ?_
  rintro e w1 ⟨⟨rfl, s1⟩, f1⟩
  have z1 := f1.size
  (try simp at z1)
  have F1 : K.Ext w w1 := K.Ext.trans (by repeat' (first | with_reducible exact F0 | with_reducible refine K.Ext.setCell ?_ ?_ _ | with_reducible refine K.Ext.alloc ?_ _ | with_reducible refine K.Ext.drew ?_ | (dsimp only; omega) | omega | (simp; omega))) f1
  have c1_0_0 : w1.cell? ⟨w.heap.size, 0, none⟩ = some (.int .i64 0) := f1.cell_of (by go_simp)
  have d1_0_0 : w1.frozen? ⟨w.heap.size, 0, none⟩ = false := f1.thaw_of (by go_simp) (by go_simp)
  have c1_0_1 : w1.cell? ⟨w.heap.size, 1, none⟩ = some (.int .i64 0) := f1.cell_of (by go_simp)
  have d1_0_1 : w1.frozen? ⟨w.heap.size, 1, none⟩ = false := f1.thaw_of (by go_simp) (by go_simp)
  have y1_0 : w.heap.size < w1.heap.size := World.block_lt_of_cell? w1 _ c1_0_0
  have c1_1_0 : w1.cell? ⟨w.heap.size + 1, 0, none⟩ = some (.int .i64 0) := f1.cell_of (by go_simp)
  have d1_1_0 : w1.frozen? ⟨w.heap.size + 1, 0, none⟩ = false := f1.thaw_of (by go_simp) (by go_simp)
  have c1_1_1 : w1.cell? ⟨w.heap.size + 1, 1, none⟩ = some (.int .i64 0) := f1.cell_of (by go_simp)
  have d1_1_1 : w1.frozen? ⟨w.heap.size + 1, 1, none⟩ = false := f1.thaw_of (by go_simp) (by go_simp)
  have y1_1 : w.heap.size + 1 < w1.heap.size := World.block_lt_of_cell? w1 _ c1_1_0
  have lg := s1.lt
  go_wp2_with fail
  refine K.call (by with_reducible rfl) (by with_reducible rfl) (l22DrawPoint_any (w.heap.size + 1 + 1) _ (show K.Src 71 _ _ from by with_reducible repeat' (first | exact s1 | refine K.Src.alloc ?_ _ | refine K.Src.drew ?_ | refine K.Src.setOther ?_ ?_ _ | (dsimp only; omega)))) ?_
  rintro e w2 ⟨⟨a, rfl, ha0, ha1, ha2, ha3⟩, s2, f2⟩
  have z2 := f2.size
  (try simp at z2)
  have F2 : K.Ext w w2 := K.Far.ext (by repeat' (first | with_reducible exact F1 | with_reducible refine K.Ext.setCell ?_ ?_ _ | with_reducible refine K.Ext.alloc ?_ _ | with_reducible refine K.Ext.drew ?_ | (dsimp only; omega) | omega | (simp; omega))) f2 (by omega)
  have c2_0_0 : w2.cell? ⟨w.heap.size, 0, none⟩ = some (.int .i64 0) := f2.cell_of (by go_simp) (by (try dsimp only); omega)
  have d2_0_0 : w2.frozen? ⟨w.heap.size, 0, none⟩ = false := f2.thaw_of (by go_simp) (by go_simp) (by (try dsimp only); omega)
  have c2_0_1 : w2.cell? ⟨w.heap.size, 1, none⟩ = some (.int .i64 0) := f2.cell_of (by go_simp) (by (try dsimp only); omega)
  have d2_0_1 : w2.frozen? ⟨w.heap.size, 1, none⟩ = false := f2.thaw_of (by go_simp) (by go_simp) (by (try dsimp only); omega)
  have y2_0 : w.heap.size < w2.heap.size := World.block_lt_of_cell? w2 _ c2_0_0
  have c2_1_0 : w2.cell? ⟨w.heap.size + 1, 0, none⟩ = some (.int .i64 0) := f2.cell_of (by go_simp) (by (try dsimp only); omega)
  have d2_1_0 : w2.frozen? ⟨w.heap.size + 1, 0, none⟩ = false := f2.thaw_of (by go_simp) (by go_simp) (by (try dsimp only); omega)
  have c2_1_1 : w2.cell? ⟨w.heap.size + 1, 1, none⟩ = some (.int .i64 0) := f2.cell_of (by go_simp) (by (try dsimp only); omega)
  have d2_1_1 : w2.frozen? ⟨w.heap.size + 1, 1, none⟩ = false := f2.thaw_of (by go_simp) (by go_simp) (by (try dsimp only); omega)
  have y2_1 : w.heap.size + 1 < w2.heap.size := World.block_lt_of_cell? w2 _ c2_1_0
  go_wp2_with fail
  refine K.call (by with_reducible rfl) (by with_reducible rfl) (l22DrawPoint_any (w.heap.size + 1 + 1) _ (show K.Src 71 _ _ from by with_reducible repeat' (first | exact s2 | refine K.Src.alloc ?_ _ | refine K.Src.drew ?_ | refine K.Src.setOther ?_ ?_ _ | (dsimp only; omega)))) ?_
  rintro e w3 ⟨⟨b, rfl, hb0, hb1, hb2, hb3⟩, s3, f3⟩
  have z3 := f3.size
  (try simp at z3)
  have F3 : K.Ext w w3 := K.Far.ext (by repeat' (first | with_reducible exact F2 | with_reducible refine K.Ext.setCell ?_ ?_ _ | with_reducible refine K.Ext.alloc ?_ _ | with_reducible refine K.Ext.drew ?_ | (dsimp only; omega) | omega | (simp; omega))) f3 (by omega)
  have c3_0_0 : w3.cell? ⟨w.heap.size, 0, none⟩ = some (.int .i64 0) := f3.cell_of (by go_simp) (by (try dsimp only); omega)
  have d3_0_0 : w3.frozen? ⟨w.heap.size, 0, none⟩ = false := f3.thaw_of (by go_simp) (by go_simp) (by (try dsimp only); omega)
  have c3_0_1 : w3.cell? ⟨w.heap.size, 1, none⟩ = some (.int .i64 0) := f3.cell_of (by go_simp) (by (try dsimp only); omega)
  have d3_0_1 : w3.frozen? ⟨w.heap.size, 1, none⟩ = false := f3.thaw_of (by go_simp) (by go_simp) (by (try dsimp only); omega)
  have y3_0 : w.heap.size < w3.heap.size := World.block_lt_of_cell? w3 _ c3_0_0
  have c3_1_0 : w3.cell? ⟨w.heap.size + 1, 0, none⟩ = some (.int .i64 0) := f3.cell_of (by go_simp) (by (try dsimp only); omega)
  have d3_1_0 : w3.frozen? ⟨w.heap.size + 1, 0, none⟩ = false := f3.thaw_of (by go_simp) (by go_simp) (by (try dsimp only); omega)
  have c3_1_1 : w3.cell? ⟨w.heap.size + 1, 1, none⟩ = some (.int .i64 0) := f3.cell_of (by go_simp) (by (try dsimp only); omega)
  have d3_1_1 : w3.frozen? ⟨w.heap.size + 1, 1, none⟩ = false := f3.thaw_of (by go_simp) (by go_simp) (by (try dsimp only); omega)
  have y3_1 : w.heap.size + 1 < w3.heap.size := World.block_lt_of_cell? w3 _ c3_1_0
  have uh_0_1 : w.heap.size < w3.heap.size + 1 := (by omega)
  have uh_0_2 : w.heap.size < w3.heap.size + 1 + 1 := (by omega)
  have uh_1_1 : w.heap.size + 1 < w3.heap.size + 1 := (by omega)
  have uh_1_2 : w.heap.size + 1 < w3.heap.size + 1 + 1 := (by omega)
  go_wp2_with fail
  have ne0_2 : ¬ (w.heap.size = w3.heap.size) := (by omega)
  have nf0_2 : ¬ (w3.heap.size = w.heap.size) := (by omega)
  have ne0_3 : ¬ (w.heap.size = w3.heap.size + 1) := (by omega)
  have nf0_3 : ¬ (w3.heap.size + 1 = w.heap.size) := (by omega)
  have ne1_2 : ¬ (w.heap.size + 1 = w3.heap.size) := (by omega)
  have nf1_2 : ¬ (w3.heap.size = w.heap.size + 1) := (by omega)
  have ne1_3 : ¬ (w.heap.size + 1 = w3.heap.size + 1) := (by omega)
  have nf1_3 : ¬ (w3.heap.size + 1 = w.heap.size + 1) := (by omega)
  go_region_held3 (fun w' => w'.cell? ⟨w3.heap.size, 0, none⟩ = some (.int .i64 a.1) ∧ w'.cell? ⟨w3.heap.size, 1, none⟩ = some (.int .i64 a.2) ∧ w'.cell? ⟨w3.heap.size + 1, 0, none⟩ = some (.int .i64 b.1) ∧ w'.cell? ⟨w3.heap.size + 1, 1, none⟩ = some (.int .i64 b.2)) (first | go_keep | (go_split_ands; simp [*])) (first | (go_at_call 40; refine K.call (by with_reducible rfl) (by with_reducible rfl) (l01Next_any (w.heap.size + 1 + 1) (4001) _ (show K.Src 71 _ _ from by with_reducible repeat' (first | exact s3 | refine K.Src.alloc ?_ _ | refine K.Src.drew ?_ | refine K.Src.setOther ?_ ?_ _ | (dsimp only; omega)))) ?_; rintro e w4 ⟨⟨r, rfl, r0, r1, r2⟩, s4, f4⟩; have z4 := f4.size; (try simp at z4); have F4 : K.Ext w w4 := K.Far.ext (by repeat' (first | with_reducible exact F3 | with_reducible refine K.Ext.setCell ?_ ?_ _ | with_reducible refine K.Ext.alloc ?_ _ | with_reducible refine K.Ext.drew ?_ | (dsimp only; omega) | omega | (simp; omega))) f4 (by omega); have u4_0_1 : w.heap.size < w3.heap.size + 1 := (by omega); have u4_0_2 : w.heap.size < w3.heap.size + 1 + 1 := (by omega); have u4_1_1 : w.heap.size + 1 < w3.heap.size + 1 := (by omega); have u4_1_2 : w.heap.size + 1 < w3.heap.size + 1 + 1 := (by omega); have c4_0_0 : w4.cell? ⟨w.heap.size, 0, none⟩ = some (.int .i64 0) := f4.cell_of (by go_simp) (by (try dsimp only); omega); have d4_0_0 : w4.frozen? ⟨w.heap.size, 0, none⟩ = false := f4.thaw_of (by go_simp) (by go_simp) (by (try dsimp only); omega); have c4_0_1 : w4.cell? ⟨w.heap.size, 1, none⟩ = some (.int .i64 0) := f4.cell_of (by go_simp) (by (try dsimp only); omega); have d4_0_1 : w4.frozen? ⟨w.heap.size, 1, none⟩ = false := f4.thaw_of (by go_simp) (by go_simp) (by (try dsimp only); omega); have y4_0 : w.heap.size < w4.heap.size := World.block_lt_of_cell? w4 _ c4_0_0; have c4_1_0 : w4.cell? ⟨w.heap.size + 1, 0, none⟩ = some (.int .i64 0) := f4.cell_of (by go_simp) (by (try dsimp only); omega); have d4_1_0 : w4.frozen? ⟨w.heap.size + 1, 0, none⟩ = false := f4.thaw_of (by go_simp) (by go_simp) (by (try dsimp only); omega); have c4_1_1 : w4.cell? ⟨w.heap.size + 1, 1, none⟩ = some (.int .i64 0) := f4.cell_of (by go_simp) (by (try dsimp only); omega); have d4_1_1 : w4.frozen? ⟨w.heap.size + 1, 1, none⟩ = false := f4.thaw_of (by go_simp) (by go_simp) (by (try dsimp only); omega); have y4_1 : w.heap.size + 1 < w4.heap.size := World.block_lt_of_cell? w4 _ c4_1_0; have c4_2_0 : w4.cell? ⟨w3.heap.size, 0, none⟩ = some (.int .i64 a.1) := f4.cell_of (by go_simp) (by (try dsimp only); omega); have d4_2_0 : w4.frozen? ⟨w3.heap.size, 0, none⟩ = false := f4.thaw_of (by go_simp) (by go_simp) (by (try dsimp only); omega); have c4_2_1 : w4.cell? ⟨w3.heap.size, 1, none⟩ = some (.int .i64 a.2) := f4.cell_of (by go_simp) (by (try dsimp only); omega); have d4_2_1 : w4.frozen? ⟨w3.heap.size, 1, none⟩ = false := f4.thaw_of (by go_simp) (by go_simp) (by (try dsimp only); omega); have y4_2 : w3.heap.size < w4.heap.size := World.block_lt_of_cell? w4 _ c4_2_0; have c4_3_0 : w4.cell? ⟨w3.heap.size + 1, 0, none⟩ = some (.int .i64 b.1) := f4.cell_of (by go_simp) (by (try dsimp only); omega); have d4_3_0 : w4.frozen? ⟨w3.heap.size + 1, 0, none⟩ = false := f4.thaw_of (by go_simp) (by go_simp) (by (try dsimp only); omega); have c4_3_1 : w4.cell? ⟨w3.heap.size + 1, 1, none⟩ = some (.int .i64 b.2) := f4.cell_of (by go_simp) (by (try dsimp only); omega); have d4_3_1 : w4.frozen? ⟨w3.heap.size + 1, 1, none⟩ = false := f4.thaw_of (by go_simp) (by go_simp) (by (try dsimp only); omega); have y4_3 : w3.heap.size + 1 < w4.heap.size := World.block_lt_of_cell? w4 _ c4_3_0; have qr : IntKind.i64.wrap (r - 2000) = r - 2000 := IntWalk.i64_in _ (by omega)) | (go_at_call 40; refine K.call (by with_reducible rfl) (by with_reducible rfl) (l01Next_any (w.heap.size + 1 + 1) (40) _ (show K.Src 71 _ _ from by with_reducible repeat' (first | exact s4 | refine K.Src.alloc ?_ _ | refine K.Src.drew ?_ | refine K.Src.setOther ?_ ?_ _ | (dsimp only; omega)))) ?_; rintro e w5 ⟨⟨q, rfl, q0, q1, q2⟩, s5, f5⟩; have z5 := f5.size; (try simp at z5); have F5 : K.Ext w w5 := K.Far.ext (by repeat' (first | with_reducible exact F4 | with_reducible refine K.Ext.setCell ?_ ?_ _ | with_reducible refine K.Ext.alloc ?_ _ | with_reducible refine K.Ext.drew ?_ | (dsimp only; omega) | omega | (simp; omega))) f5 (by omega); have c5_0_0 : w5.cell? ⟨w.heap.size, 0, none⟩ = some (.int .i64 0) := f5.cell_of (by go_simp) (by (try dsimp only); omega); have d5_0_0 : w5.frozen? ⟨w.heap.size, 0, none⟩ = false := f5.thaw_of (by go_simp) (by go_simp) (by (try dsimp only); omega); have c5_0_1 : w5.cell? ⟨w.heap.size, 1, none⟩ = some (.int .i64 0) := f5.cell_of (by go_simp) (by (try dsimp only); omega); have d5_0_1 : w5.frozen? ⟨w.heap.size, 1, none⟩ = false := f5.thaw_of (by go_simp) (by go_simp) (by (try dsimp only); omega); have y5_0 : w.heap.size < w5.heap.size := World.block_lt_of_cell? w5 _ c5_0_0; have c5_1_0 : w5.cell? ⟨w.heap.size + 1, 0, none⟩ = some (.int .i64 0) := f5.cell_of (by go_simp) (by (try dsimp only); omega); have d5_1_0 : w5.frozen? ⟨w.heap.size + 1, 0, none⟩ = false := f5.thaw_of (by go_simp) (by go_simp) (by (try dsimp only); omega); have c5_1_1 : w5.cell? ⟨w.heap.size + 1, 1, none⟩ = some (.int .i64 0) := f5.cell_of (by go_simp) (by (try dsimp only); omega); have d5_1_1 : w5.frozen? ⟨w.heap.size + 1, 1, none⟩ = false := f5.thaw_of (by go_simp) (by go_simp) (by (try dsimp only); omega); have y5_1 : w.heap.size + 1 < w5.heap.size := World.block_lt_of_cell? w5 _ c5_1_0; have c5_2_0 : w5.cell? ⟨w3.heap.size, 0, none⟩ = some (.int .i64 a.1) := f5.cell_of (by go_simp) (by (try dsimp only); omega); have d5_2_0 : w5.frozen? ⟨w3.heap.size, 0, none⟩ = false := f5.thaw_of (by go_simp) (by go_simp) (by (try dsimp only); omega); have c5_2_1 : w5.cell? ⟨w3.heap.size, 1, none⟩ = some (.int .i64 a.2) := f5.cell_of (by go_simp) (by (try dsimp only); omega); have d5_2_1 : w5.frozen? ⟨w3.heap.size, 1, none⟩ = false := f5.thaw_of (by go_simp) (by go_simp) (by (try dsimp only); omega); have y5_2 : w3.heap.size < w5.heap.size := World.block_lt_of_cell? w5 _ c5_2_0; have c5_3_0 : w5.cell? ⟨w3.heap.size + 1, 0, none⟩ = some (.int .i64 b.1) := f5.cell_of (by go_simp) (by (try dsimp only); omega); have d5_3_0 : w5.frozen? ⟨w3.heap.size + 1, 0, none⟩ = false := f5.thaw_of (by go_simp) (by go_simp) (by (try dsimp only); omega); have c5_3_1 : w5.cell? ⟨w3.heap.size + 1, 1, none⟩ = some (.int .i64 b.2) := f5.cell_of (by go_simp) (by (try dsimp only); omega); have d5_3_1 : w5.frozen? ⟨w3.heap.size + 1, 1, none⟩ = false := f5.thaw_of (by go_simp) (by go_simp) (by (try dsimp only); omega); have y5_3 : w3.heap.size + 1 < w5.heap.size := World.block_lt_of_cell? w5 _ c5_3_0) | (go_at_call 43; refine K.call (by with_reducible rfl) (by with_reducible rfl) (l01Pick_any (w.heap.size + 1 + 1) [a.1, b.1, r - 2000, 100001, q] _ (show K.Src 71 _ _ from by with_reducible repeat' (first | exact s5 | refine K.Src.alloc ?_ _ | refine K.Src.drew ?_ | refine K.Src.setOther ?_ ?_ _ | (dsimp only; omega))) (by simp) (by simp) (.inr (by omega)) (K.ints_lit (W := w5) (T := 2) (n := 5) (cs := #[.int .i64 (a.1), .int .i64 (b.1), .int .i64 (r - 2000), .int .i64 (100001), .int .i64 (q)]) [a.1, b.1, r - 2000, 100001, q] rfl rfl rfl)) ?_; rintro e w6 ⟨⟨x, hx, rfl⟩, s6, f6⟩; have z6 := f6.size; (try simp at z6); have F6 : K.Ext w w6 := K.Far.ext (by repeat' (first | with_reducible exact F5 | with_reducible refine K.Ext.setCell ?_ ?_ _ | with_reducible refine K.Ext.alloc ?_ _ | with_reducible refine K.Ext.drew ?_ | (dsimp only; omega) | omega | (simp; omega))) f6 (by omega); have u6_0_1 : w.heap.size < w5.heap.size + 1 := (by omega); have u6_1_1 : w.heap.size + 1 < w5.heap.size + 1 := (by omega); have u6_2_1 : w3.heap.size < w5.heap.size + 1 := (by omega); have u6_3_1 : w3.heap.size + 1 < w5.heap.size + 1 := (by omega); have c6_0_0 : w6.cell? ⟨w.heap.size, 0, none⟩ = some (.int .i64 0) := f6.cell_of (by go_simp) (by (try dsimp only); omega); have d6_0_0 : w6.frozen? ⟨w.heap.size, 0, none⟩ = false := f6.thaw_of (by go_simp) (by go_simp) (by (try dsimp only); omega); have c6_0_1 : w6.cell? ⟨w.heap.size, 1, none⟩ = some (.int .i64 0) := f6.cell_of (by go_simp) (by (try dsimp only); omega); have d6_0_1 : w6.frozen? ⟨w.heap.size, 1, none⟩ = false := f6.thaw_of (by go_simp) (by go_simp) (by (try dsimp only); omega); have y6_0 : w.heap.size < w6.heap.size := World.block_lt_of_cell? w6 _ c6_0_0; have c6_1_0 : w6.cell? ⟨w.heap.size + 1, 0, none⟩ = some (.int .i64 0) := f6.cell_of (by go_simp) (by (try dsimp only); omega); have d6_1_0 : w6.frozen? ⟨w.heap.size + 1, 0, none⟩ = false := f6.thaw_of (by go_simp) (by go_simp) (by (try dsimp only); omega); have c6_1_1 : w6.cell? ⟨w.heap.size + 1, 1, none⟩ = some (.int .i64 0) := f6.cell_of (by go_simp) (by (try dsimp only); omega); have d6_1_1 : w6.frozen? ⟨w.heap.size + 1, 1, none⟩ = false := f6.thaw_of (by go_simp) (by go_simp) (by (try dsimp only); omega); have y6_1 : w.heap.size + 1 < w6.heap.size := World.block_lt_of_cell? w6 _ c6_1_0; have c6_2_0 : w6.cell? ⟨w3.heap.size, 0, none⟩ = some (.int .i64 a.1) := f6.cell_of (by go_simp) (by (try dsimp only); omega); have d6_2_0 : w6.frozen? ⟨w3.heap.size, 0, none⟩ = false := f6.thaw_of (by go_simp) (by go_simp) (by (try dsimp only); omega); have c6_2_1 : w6.cell? ⟨w3.heap.size, 1, none⟩ = some (.int .i64 a.2) := f6.cell_of (by go_simp) (by (try dsimp only); omega); have d6_2_1 : w6.frozen? ⟨w3.heap.size, 1, none⟩ = false := f6.thaw_of (by go_simp) (by go_simp) (by (try dsimp only); omega); have y6_2 : w3.heap.size < w6.heap.size := World.block_lt_of_cell? w6 _ c6_2_0; have c6_3_0 : w6.cell? ⟨w3.heap.size + 1, 0, none⟩ = some (.int .i64 b.1) := f6.cell_of (by go_simp) (by (try dsimp only); omega); have d6_3_0 : w6.frozen? ⟨w3.heap.size + 1, 0, none⟩ = false := f6.thaw_of (by go_simp) (by go_simp) (by (try dsimp only); omega); have c6_3_1 : w6.cell? ⟨w3.heap.size + 1, 1, none⟩ = some (.int .i64 b.2) := f6.cell_of (by go_simp) (by (try dsimp only); omega); have d6_3_1 : w6.frozen? ⟨w3.heap.size + 1, 1, none⟩ = false := f6.thaw_of (by go_simp) (by go_simp) (by (try dsimp only); omega); have y6_3 : w3.heap.size + 1 < w6.heap.size := World.block_lt_of_cell? w6 _ c6_3_0))
  go_wp2_with fail
  all_goals refine bodyPost_ret (v := .tuple #[.agg #[.int .i64 a.1, .int .i64 a.2], .agg #[.int .i64 b.1, .int .i64 b.2], .int .i64 x]) (by unfold results; rw [Try.results21]; go_simp) rfl ⟨⟨a, b, x, rfl⟩, (by repeat' (first | with_reducible exact F6 | with_reducible refine K.Ext.setCell ?_ ?_ _ | with_reducible refine K.Ext.alloc ?_ _ | with_reducible refine K.Ext.drew ?_ | (dsimp only; omega) | omega | (simp; omega)))⟩
end Go.Proofs.Ytgepjmfjeidbaaa
