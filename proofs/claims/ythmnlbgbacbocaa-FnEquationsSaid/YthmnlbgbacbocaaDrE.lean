/-
  DRAWS: equations.
-/
import Derived.Test.YthmnlbgbacbocaaDrG
set_option linter.unusedVariables false
namespace Go.Proofs.Ythmnlbgbacbocaa
open Go.RowKit
set_option maxRecDepth 100000 in
set_option maxHeartbeats 12800000 in
theorem l20Draw_any (g : Nat) (w : World) (h : K.Src 164 w g) :
    Calls Try.prog 113 #[.pointer (some ⟨g, 0, none⟩)] w fun e w' => (∃ (E : Z.Eqn) (p q : Value), e = .returned (.agg #[.int .i64 E.L.dg, .int .i64 E.L.tn, .string E.L.nm, p, .int .i64 E.R.dg, .int .i64 E.R.tn, .string E.R.nm, q]) ∧ (E.L.nm.size ≤ 7 ∧ E.L.pw.length ≤ 6) ∧ (E.R.nm.size ≤ 7 ∧ E.R.pw.length ≤ 6) ∧ K.ints w' w.heap.size w'.heap.size p E.L.pw ∧ K.ints w' w.heap.size w'.heap.size q E.R.pw) ∧ K.Src 164 w' g ∧ K.Far g (g + 1) w w' := by
  have lg := h.lt
  have F0 : K.Far g (g + 1) w w := K.Far.refl _ _ _
  go_enter Try.func113, Try.ntmps113
  go_wp2_with fail
  refine K.call (by with_reducible rfl) (by with_reducible rfl) (l18Valid_any g _ (show K.Src 164 _ _ from by with_reducible repeat' (first | exact h | refine K.Src.alloc ?_ _ | refine K.Src.drew ?_ | refine K.Src.setOther ?_ ?_ _ | (dsimp only; omega)))) ?_
  rintro e w1 ⟨⟨F, pF, rfl, hnF, hmF, hiF⟩, s1, f1⟩
  have z1 := f1.size
  (try simp at z1)
  have F1 : K.Far g (g + 1) w w1 := K.Far.trans (by with_reducible repeat' (first | exact F0 | refine K.Far.alloc ?_ _ | refine K.Far.setNew ?_ ?_ _ | refine K.Far.drew ?_ | (dsimp only; omega))) f1
  have c1_0_0 : w1.cell? ⟨w.heap.size, 0, none⟩ = some (.int .i64 0) := f1.cell_of (by go_simp) (by (try dsimp only); omega)
  have d1_0_0 : w1.frozen? ⟨w.heap.size, 0, none⟩ = false := f1.thaw_of (by go_simp) (by go_simp) (by (try dsimp only); omega)
  have c1_0_1 : w1.cell? ⟨w.heap.size, 1, none⟩ = some (.int .i64 0) := f1.cell_of (by go_simp) (by (try dsimp only); omega)
  have d1_0_1 : w1.frozen? ⟨w.heap.size, 1, none⟩ = false := f1.thaw_of (by go_simp) (by go_simp) (by (try dsimp only); omega)
  have c1_0_2 : w1.cell? ⟨w.heap.size, 2, none⟩ = some (.string ⟨#[]⟩) := f1.cell_of (by go_simp) (by (try dsimp only); omega)
  have d1_0_2 : w1.frozen? ⟨w.heap.size, 2, none⟩ = false := f1.thaw_of (by go_simp) (by go_simp) (by (try dsimp only); omega)
  have c1_0_3 : w1.cell? ⟨w.heap.size, 3, none⟩ = some (.slice none 0 0) := f1.cell_of (by go_simp) (by (try dsimp only); omega)
  have d1_0_3 : w1.frozen? ⟨w.heap.size, 3, none⟩ = false := f1.thaw_of (by go_simp) (by go_simp) (by (try dsimp only); omega)
  have c1_0_4 : w1.cell? ⟨w.heap.size, 4, none⟩ = some (.int .i64 0) := f1.cell_of (by go_simp) (by (try dsimp only); omega)
  have d1_0_4 : w1.frozen? ⟨w.heap.size, 4, none⟩ = false := f1.thaw_of (by go_simp) (by go_simp) (by (try dsimp only); omega)
  have c1_0_5 : w1.cell? ⟨w.heap.size, 5, none⟩ = some (.int .i64 0) := f1.cell_of (by go_simp) (by (try dsimp only); omega)
  have d1_0_5 : w1.frozen? ⟨w.heap.size, 5, none⟩ = false := f1.thaw_of (by go_simp) (by go_simp) (by (try dsimp only); omega)
  have c1_0_6 : w1.cell? ⟨w.heap.size, 6, none⟩ = some (.string ⟨#[]⟩) := f1.cell_of (by go_simp) (by (try dsimp only); omega)
  have d1_0_6 : w1.frozen? ⟨w.heap.size, 6, none⟩ = false := f1.thaw_of (by go_simp) (by go_simp) (by (try dsimp only); omega)
  have c1_0_7 : w1.cell? ⟨w.heap.size, 7, none⟩ = some (.slice none 0 0) := f1.cell_of (by go_simp) (by (try dsimp only); omega)
  have d1_0_7 : w1.frozen? ⟨w.heap.size, 7, none⟩ = false := f1.thaw_of (by go_simp) (by go_simp) (by (try dsimp only); omega)
  have y1_0 : w.heap.size < w1.heap.size := World.block_lt_of_cell? w1 _ c1_0_0
  obtain ⟨oF, kF, rfl, _⟩ := id hiF
  have IF_1 : K.ints w1 (w.heap.size + 1) w1.heap.size (.slice oF F.pw.length kF) F.pw := hiF.mono (by simp) (Nat.le_refl _)
  clear hiF
  have hx1 : F.nm.size ≤ 7 := by omega
  go_wp2_with fail
  refine K.call (by with_reducible rfl) (by with_reducible rfl) (l18Valid_any g _ (show K.Src 164 _ _ from by with_reducible repeat' (first | exact s1 | refine K.Src.alloc ?_ _ | refine K.Src.drew ?_ | refine K.Src.setOther ?_ ?_ _ | (dsimp only; omega)))) ?_
  rintro e w2 ⟨⟨G, pG, rfl, hnG, hmG, hiG⟩, s2, f2⟩
  have z2 := f2.size
  (try simp at z2)
  have F2 : K.Far g (g + 1) w w2 := K.Far.trans (by with_reducible repeat' (first | exact F1 | refine K.Far.alloc ?_ _ | refine K.Far.setNew ?_ ?_ _ | refine K.Far.drew ?_ | (dsimp only; omega))) f2
  have c2_0_0 : w2.cell? ⟨w.heap.size, 0, none⟩ = some (.int .i64 0) := f2.cell_of (by go_simp) (by (try dsimp only); omega)
  have d2_0_0 : w2.frozen? ⟨w.heap.size, 0, none⟩ = false := f2.thaw_of (by go_simp) (by go_simp) (by (try dsimp only); omega)
  have c2_0_1 : w2.cell? ⟨w.heap.size, 1, none⟩ = some (.int .i64 0) := f2.cell_of (by go_simp) (by (try dsimp only); omega)
  have d2_0_1 : w2.frozen? ⟨w.heap.size, 1, none⟩ = false := f2.thaw_of (by go_simp) (by go_simp) (by (try dsimp only); omega)
  have c2_0_2 : w2.cell? ⟨w.heap.size, 2, none⟩ = some (.string ⟨#[]⟩) := f2.cell_of (by go_simp) (by (try dsimp only); omega)
  have d2_0_2 : w2.frozen? ⟨w.heap.size, 2, none⟩ = false := f2.thaw_of (by go_simp) (by go_simp) (by (try dsimp only); omega)
  have c2_0_3 : w2.cell? ⟨w.heap.size, 3, none⟩ = some (.slice none 0 0) := f2.cell_of (by go_simp) (by (try dsimp only); omega)
  have d2_0_3 : w2.frozen? ⟨w.heap.size, 3, none⟩ = false := f2.thaw_of (by go_simp) (by go_simp) (by (try dsimp only); omega)
  have c2_0_4 : w2.cell? ⟨w.heap.size, 4, none⟩ = some (.int .i64 0) := f2.cell_of (by go_simp) (by (try dsimp only); omega)
  have d2_0_4 : w2.frozen? ⟨w.heap.size, 4, none⟩ = false := f2.thaw_of (by go_simp) (by go_simp) (by (try dsimp only); omega)
  have c2_0_5 : w2.cell? ⟨w.heap.size, 5, none⟩ = some (.int .i64 0) := f2.cell_of (by go_simp) (by (try dsimp only); omega)
  have d2_0_5 : w2.frozen? ⟨w.heap.size, 5, none⟩ = false := f2.thaw_of (by go_simp) (by go_simp) (by (try dsimp only); omega)
  have c2_0_6 : w2.cell? ⟨w.heap.size, 6, none⟩ = some (.string ⟨#[]⟩) := f2.cell_of (by go_simp) (by (try dsimp only); omega)
  have d2_0_6 : w2.frozen? ⟨w.heap.size, 6, none⟩ = false := f2.thaw_of (by go_simp) (by go_simp) (by (try dsimp only); omega)
  have c2_0_7 : w2.cell? ⟨w.heap.size, 7, none⟩ = some (.slice none 0 0) := f2.cell_of (by go_simp) (by (try dsimp only); omega)
  have d2_0_7 : w2.frozen? ⟨w.heap.size, 7, none⟩ = false := f2.thaw_of (by go_simp) (by go_simp) (by (try dsimp only); omega)
  have y2_0 : w.heap.size < w2.heap.size := World.block_lt_of_cell? w2 _ c2_0_0
  have IF_2 := K.ints.far (show K.ints _ (w.heap.size + 1) w1.heap.size (.slice oF F.pw.length kF) F.pw from by with_reducible repeat' (first | exact IF_1 | refine K.ints.alloc ?_ _ | refine K.ints.drew ?_ | refine K.ints.set ?_ _ ?_ _ | (dsimp only; omega) | omega | (simp; done) | (simp; omega))) f2 (by first | exact .inl (by omega) | exact .inr (by omega))
  obtain ⟨oG, kG, rfl, _⟩ := id hiG
  have IG_2 : K.ints w2 (w1.heap.size) w2.heap.size (.slice oG G.pw.length kG) G.pw := hiG.mono (by simp) (Nat.le_refl _)
  clear hiG
  have hx2 : G.nm.size ≤ 7 := by omega
  go_wp2_with fail
  refine K.call (by with_reducible rfl) (by with_reducible rfl) (l01Next_any g (2) _ (show K.Src 164 _ _ from by with_reducible repeat' (first | exact s2 | refine K.Src.alloc ?_ _ | refine K.Src.drew ?_ | refine K.Src.setOther ?_ ?_ _ | (dsimp only; omega)))) ?_
  rintro e w3 ⟨⟨m, rfl, m0, m1, m2⟩, s3, f3⟩
  have z3 := f3.size
  (try simp at z3)
  have F3 : K.Far g (g + 1) w w3 := K.Far.trans (by with_reducible repeat' (first | exact F2 | refine K.Far.alloc ?_ _ | refine K.Far.setNew ?_ ?_ _ | refine K.Far.drew ?_ | (dsimp only; omega))) f3
  have u3_0_1 : w.heap.size < w2.heap.size + 1 := (by omega)
  have c3_0_0 : w3.cell? ⟨w.heap.size, 0, none⟩ = some (.int .i64 0) := f3.cell_of (by go_simp) (by (try dsimp only); omega)
  have d3_0_0 : w3.frozen? ⟨w.heap.size, 0, none⟩ = false := f3.thaw_of (by go_simp) (by go_simp) (by (try dsimp only); omega)
  have c3_0_1 : w3.cell? ⟨w.heap.size, 1, none⟩ = some (.int .i64 0) := f3.cell_of (by go_simp) (by (try dsimp only); omega)
  have d3_0_1 : w3.frozen? ⟨w.heap.size, 1, none⟩ = false := f3.thaw_of (by go_simp) (by go_simp) (by (try dsimp only); omega)
  have c3_0_2 : w3.cell? ⟨w.heap.size, 2, none⟩ = some (.string ⟨#[]⟩) := f3.cell_of (by go_simp) (by (try dsimp only); omega)
  have d3_0_2 : w3.frozen? ⟨w.heap.size, 2, none⟩ = false := f3.thaw_of (by go_simp) (by go_simp) (by (try dsimp only); omega)
  have c3_0_3 : w3.cell? ⟨w.heap.size, 3, none⟩ = some (.slice none 0 0) := f3.cell_of (by go_simp) (by (try dsimp only); omega)
  have d3_0_3 : w3.frozen? ⟨w.heap.size, 3, none⟩ = false := f3.thaw_of (by go_simp) (by go_simp) (by (try dsimp only); omega)
  have c3_0_4 : w3.cell? ⟨w.heap.size, 4, none⟩ = some (.int .i64 0) := f3.cell_of (by go_simp) (by (try dsimp only); omega)
  have d3_0_4 : w3.frozen? ⟨w.heap.size, 4, none⟩ = false := f3.thaw_of (by go_simp) (by go_simp) (by (try dsimp only); omega)
  have c3_0_5 : w3.cell? ⟨w.heap.size, 5, none⟩ = some (.int .i64 0) := f3.cell_of (by go_simp) (by (try dsimp only); omega)
  have d3_0_5 : w3.frozen? ⟨w.heap.size, 5, none⟩ = false := f3.thaw_of (by go_simp) (by go_simp) (by (try dsimp only); omega)
  have c3_0_6 : w3.cell? ⟨w.heap.size, 6, none⟩ = some (.string ⟨#[]⟩) := f3.cell_of (by go_simp) (by (try dsimp only); omega)
  have d3_0_6 : w3.frozen? ⟨w.heap.size, 6, none⟩ = false := f3.thaw_of (by go_simp) (by go_simp) (by (try dsimp only); omega)
  have c3_0_7 : w3.cell? ⟨w.heap.size, 7, none⟩ = some (.slice none 0 0) := f3.cell_of (by go_simp) (by (try dsimp only); omega)
  have d3_0_7 : w3.frozen? ⟨w.heap.size, 7, none⟩ = false := f3.thaw_of (by go_simp) (by go_simp) (by (try dsimp only); omega)
  have y3_0 : w.heap.size < w3.heap.size := World.block_lt_of_cell? w3 _ c3_0_0
  have c3_1_0 : w3.cell? ⟨w2.heap.size, 0, none⟩ = some (.int .i64 F.dg) := f3.cell_of (by go_simp) (by (try dsimp only); omega)
  have d3_1_0 : w3.frozen? ⟨w2.heap.size, 0, none⟩ = false := f3.thaw_of (by go_simp) (by go_simp) (by (try dsimp only); omega)
  have c3_1_1 : w3.cell? ⟨w2.heap.size, 1, none⟩ = some (.int .i64 F.tn) := f3.cell_of (by go_simp) (by (try dsimp only); omega)
  have d3_1_1 : w3.frozen? ⟨w2.heap.size, 1, none⟩ = false := f3.thaw_of (by go_simp) (by go_simp) (by (try dsimp only); omega)
  have c3_1_2 : w3.cell? ⟨w2.heap.size, 2, none⟩ = some (.string F.nm) := f3.cell_of (by go_simp) (by (try dsimp only); omega)
  have d3_1_2 : w3.frozen? ⟨w2.heap.size, 2, none⟩ = false := f3.thaw_of (by go_simp) (by go_simp) (by (try dsimp only); omega)
  have c3_1_3 : w3.cell? ⟨w2.heap.size, 3, none⟩ = some (.slice oF F.pw.length kF) := f3.cell_of (by go_simp) (by (try dsimp only); omega)
  have d3_1_3 : w3.frozen? ⟨w2.heap.size, 3, none⟩ = false := f3.thaw_of (by go_simp) (by go_simp) (by (try dsimp only); omega)
  have c3_1_4 : w3.cell? ⟨w2.heap.size, 4, none⟩ = some (.int .i64 G.dg) := f3.cell_of (by go_simp) (by (try dsimp only); omega)
  have d3_1_4 : w3.frozen? ⟨w2.heap.size, 4, none⟩ = false := f3.thaw_of (by go_simp) (by go_simp) (by (try dsimp only); omega)
  have c3_1_5 : w3.cell? ⟨w2.heap.size, 5, none⟩ = some (.int .i64 G.tn) := f3.cell_of (by go_simp) (by (try dsimp only); omega)
  have d3_1_5 : w3.frozen? ⟨w2.heap.size, 5, none⟩ = false := f3.thaw_of (by go_simp) (by go_simp) (by (try dsimp only); omega)
  have c3_1_6 : w3.cell? ⟨w2.heap.size, 6, none⟩ = some (.string G.nm) := f3.cell_of (by go_simp) (by (try dsimp only); omega)
  have d3_1_6 : w3.frozen? ⟨w2.heap.size, 6, none⟩ = false := f3.thaw_of (by go_simp) (by go_simp) (by (try dsimp only); omega)
  have c3_1_7 : w3.cell? ⟨w2.heap.size, 7, none⟩ = some (.slice oG G.pw.length kG) := f3.cell_of (by go_simp) (by (try dsimp only); omega)
  have d3_1_7 : w3.frozen? ⟨w2.heap.size, 7, none⟩ = false := f3.thaw_of (by go_simp) (by go_simp) (by (try dsimp only); omega)
  have y3_1 : w2.heap.size < w3.heap.size := World.block_lt_of_cell? w3 _ c3_1_0
  have IF_3 := K.ints.far (show K.ints _ (w.heap.size + 1) w1.heap.size (.slice oF F.pw.length kF) F.pw from by with_reducible repeat' (first | exact IF_2 | refine K.ints.alloc ?_ _ | refine K.ints.drew ?_ | refine K.ints.set ?_ _ ?_ _ | (dsimp only; omega) | omega | (simp; done) | (simp; omega))) f3 (by first | exact .inl (by omega) | exact .inr (by omega))
  have IG_3 := K.ints.far (show K.ints _ (w1.heap.size) w2.heap.size (.slice oG G.pw.length kG) G.pw from by with_reducible repeat' (first | exact IG_2 | refine K.ints.alloc ?_ _ | refine K.ints.drew ?_ | refine K.ints.set ?_ _ ?_ _ | (dsimp only; omega) | omega | (simp; done) | (simp; omega))) f3 (by first | exact .inl (by omega) | exact .inr (by omega))
  have ne1 : ¬ (w.heap.size = w2.heap.size) := (by omega)
  have ne2 : ¬ (w2.heap.size = w.heap.size) := (by omega)
  by_cases m0_ : m = 0
  · subst m0_
    have ne3 : ¬ (w.heap.size = w3.heap.size) := (by omega)
    have ne4 : ¬ (w2.heap.size = w3.heap.size) := (by omega)
    go_wp2_with fail
    refine K.call (by with_reducible rfl) (by with_reducible rfl) (l01Next_any g (20) _ (show K.Src 164 _ _ from by with_reducible repeat' (first | exact s3 | refine K.Src.alloc ?_ _ | refine K.Src.drew ?_ | refine K.Src.setOther ?_ ?_ _ | (dsimp only; omega)))) ?_
    rintro e w4 ⟨⟨n, rfl, n0, n1, n2⟩, s4, f4⟩
    have z4 := f4.size
    (try simp at z4)
    have F4 : K.Far g (g + 1) w w4 := K.Far.trans (by with_reducible repeat' (first | exact F3 | refine K.Far.alloc ?_ _ | refine K.Far.setNew ?_ ?_ _ | refine K.Far.drew ?_ | (dsimp only; omega))) f4
    have u4_0_1 : w.heap.size < w3.heap.size + 1 := (by omega)
    have u4_1_1 : w2.heap.size < w3.heap.size + 1 := (by omega)
    have c4_0_0 : w4.cell? ⟨w.heap.size, 0, none⟩ = some (.int .i64 0) := f4.cell_of (by go_simp) (by (try dsimp only); omega)
    have d4_0_0 : w4.frozen? ⟨w.heap.size, 0, none⟩ = false := f4.thaw_of (by go_simp) (by go_simp) (by (try dsimp only); omega)
    have c4_0_1 : w4.cell? ⟨w.heap.size, 1, none⟩ = some (.int .i64 0) := f4.cell_of (by go_simp) (by (try dsimp only); omega)
    have d4_0_1 : w4.frozen? ⟨w.heap.size, 1, none⟩ = false := f4.thaw_of (by go_simp) (by go_simp) (by (try dsimp only); omega)
    have c4_0_2 : w4.cell? ⟨w.heap.size, 2, none⟩ = some (.string ⟨#[]⟩) := f4.cell_of (by go_simp) (by (try dsimp only); omega)
    have d4_0_2 : w4.frozen? ⟨w.heap.size, 2, none⟩ = false := f4.thaw_of (by go_simp) (by go_simp) (by (try dsimp only); omega)
    have c4_0_3 : w4.cell? ⟨w.heap.size, 3, none⟩ = some (.slice none 0 0) := f4.cell_of (by go_simp) (by (try dsimp only); omega)
    have d4_0_3 : w4.frozen? ⟨w.heap.size, 3, none⟩ = false := f4.thaw_of (by go_simp) (by go_simp) (by (try dsimp only); omega)
    have c4_0_4 : w4.cell? ⟨w.heap.size, 4, none⟩ = some (.int .i64 0) := f4.cell_of (by go_simp) (by (try dsimp only); omega)
    have d4_0_4 : w4.frozen? ⟨w.heap.size, 4, none⟩ = false := f4.thaw_of (by go_simp) (by go_simp) (by (try dsimp only); omega)
    have c4_0_5 : w4.cell? ⟨w.heap.size, 5, none⟩ = some (.int .i64 0) := f4.cell_of (by go_simp) (by (try dsimp only); omega)
    have d4_0_5 : w4.frozen? ⟨w.heap.size, 5, none⟩ = false := f4.thaw_of (by go_simp) (by go_simp) (by (try dsimp only); omega)
    have c4_0_6 : w4.cell? ⟨w.heap.size, 6, none⟩ = some (.string ⟨#[]⟩) := f4.cell_of (by go_simp) (by (try dsimp only); omega)
    have d4_0_6 : w4.frozen? ⟨w.heap.size, 6, none⟩ = false := f4.thaw_of (by go_simp) (by go_simp) (by (try dsimp only); omega)
    have c4_0_7 : w4.cell? ⟨w.heap.size, 7, none⟩ = some (.slice none 0 0) := f4.cell_of (by go_simp) (by (try dsimp only); omega)
    have d4_0_7 : w4.frozen? ⟨w.heap.size, 7, none⟩ = false := f4.thaw_of (by go_simp) (by go_simp) (by (try dsimp only); omega)
    have y4_0 : w.heap.size < w4.heap.size := World.block_lt_of_cell? w4 _ c4_0_0
    have c4_1_0 : w4.cell? ⟨w2.heap.size, 0, none⟩ = some (.int .i64 1000) := f4.cell_of (by go_simp) (by (try dsimp only); omega)
    have d4_1_0 : w4.frozen? ⟨w2.heap.size, 0, none⟩ = false := f4.thaw_of (by go_simp) (by go_simp) (by (try dsimp only); omega)
    have c4_1_1 : w4.cell? ⟨w2.heap.size, 1, none⟩ = some (.int .i64 0) := f4.cell_of (by go_simp) (by (try dsimp only); omega)
    have d4_1_1 : w4.frozen? ⟨w2.heap.size, 1, none⟩ = false := f4.thaw_of (by go_simp) (by go_simp) (by (try dsimp only); omega)
    have c4_1_2 : w4.cell? ⟨w2.heap.size, 2, none⟩ = some (.string ⟨#[121]⟩) := f4.cell_of (by go_simp) (by (try dsimp only); omega)
    have d4_1_2 : w4.frozen? ⟨w2.heap.size, 2, none⟩ = false := f4.thaw_of (by go_simp) (by go_simp) (by (try dsimp only); omega)
    have c4_1_3 : w4.cell? ⟨w2.heap.size, 3, none⟩ = some (.slice (some ⟨w3.heap.size, 0, none⟩) 1 1) := f4.cell_of (by go_simp) (by (try dsimp only); omega)
    have d4_1_3 : w4.frozen? ⟨w2.heap.size, 3, none⟩ = false := f4.thaw_of (by go_simp) (by go_simp) (by (try dsimp only); omega)
    have c4_1_4 : w4.cell? ⟨w2.heap.size, 4, none⟩ = some (.int .i64 G.dg) := f4.cell_of (by go_simp) (by (try dsimp only); omega)
    have d4_1_4 : w4.frozen? ⟨w2.heap.size, 4, none⟩ = false := f4.thaw_of (by go_simp) (by go_simp) (by (try dsimp only); omega)
    have c4_1_5 : w4.cell? ⟨w2.heap.size, 5, none⟩ = some (.int .i64 G.tn) := f4.cell_of (by go_simp) (by (try dsimp only); omega)
    have d4_1_5 : w4.frozen? ⟨w2.heap.size, 5, none⟩ = false := f4.thaw_of (by go_simp) (by go_simp) (by (try dsimp only); omega)
    have c4_1_6 : w4.cell? ⟨w2.heap.size, 6, none⟩ = some (.string G.nm) := f4.cell_of (by go_simp) (by (try dsimp only); omega)
    have d4_1_6 : w4.frozen? ⟨w2.heap.size, 6, none⟩ = false := f4.thaw_of (by go_simp) (by go_simp) (by (try dsimp only); omega)
    have c4_1_7 : w4.cell? ⟨w2.heap.size, 7, none⟩ = some (.slice oG G.pw.length kG) := f4.cell_of (by go_simp) (by (try dsimp only); omega)
    have d4_1_7 : w4.frozen? ⟨w2.heap.size, 7, none⟩ = false := f4.thaw_of (by go_simp) (by go_simp) (by (try dsimp only); omega)
    have y4_1 : w2.heap.size < w4.heap.size := World.block_lt_of_cell? w4 _ c4_1_0
    have IF_4 := K.ints.far (show K.ints _ (w.heap.size + 1) w1.heap.size (.slice oF F.pw.length kF) F.pw from by with_reducible repeat' (first | exact IF_3 | refine K.ints.alloc ?_ _ | refine K.ints.drew ?_ | refine K.ints.set ?_ _ ?_ _ | (dsimp only; omega) | omega | (simp; done) | (simp; omega))) f4 (by first | exact .inl (by omega) | exact .inr (by omega))
    have IG_4 := K.ints.far (show K.ints _ (w1.heap.size) w2.heap.size (.slice oG G.pw.length kG) G.pw from by with_reducible repeat' (first | exact IG_3 | refine K.ints.alloc ?_ _ | refine K.ints.drew ?_ | refine K.ints.set ?_ _ ?_ _ | (dsimp only; omega) | omega | (simp; done) | (simp; omega))) f4 (by first | exact .inl (by omega) | exact .inr (by omega))
    have IY_4 := K.ints.far (show K.ints _ w3.heap.size (w3.heap.size + 1) (.slice (some ⟨w3.heap.size, 0, none⟩) 1 1) [1] from by with_reducible repeat' (first | exact K.ints_fresh (T := 2) (cs := #[.int .i64 1]) [1] (by simp) rfl rfl | refine K.ints.alloc ?_ _ | refine K.ints.drew ?_ | refine K.ints.set ?_ _ ?_ _ | (dsimp only; omega) | omega | (simp; done) | (simp; omega))) f4 (by first | exact .inl (by omega) | exact .inr (by omega))
    by_cases n0_ : n = 0
    · subst n0_
      go_wp2_with fail
      refine K.call (by with_reducible rfl) (by with_reducible rfl) (l18Draw_any g _ (show K.Src 164 _ _ from by with_reducible repeat' (first | exact s4 | refine K.Src.alloc ?_ _ | refine K.Src.drew ?_ | refine K.Src.setOther ?_ ?_ _ | (dsimp only; omega)))) ?_
      rintro e w5 ⟨⟨H, pH, rfl, hnH, hmH, hiH⟩, s5, f5⟩
      have z5 := f5.size
      (try simp at z5)
      have F5 : K.Far g (g + 1) w w5 := K.Far.trans (by with_reducible repeat' (first | exact F4 | refine K.Far.alloc ?_ _ | refine K.Far.setNew ?_ ?_ _ | refine K.Far.drew ?_ | (dsimp only; omega))) f5
      have c5_0_0 : w5.cell? ⟨w.heap.size, 0, none⟩ = some (.int .i64 0) := f5.cell_of (by go_simp) (by (try dsimp only); omega)
      have d5_0_0 : w5.frozen? ⟨w.heap.size, 0, none⟩ = false := f5.thaw_of (by go_simp) (by go_simp) (by (try dsimp only); omega)
      have c5_0_1 : w5.cell? ⟨w.heap.size, 1, none⟩ = some (.int .i64 0) := f5.cell_of (by go_simp) (by (try dsimp only); omega)
      have d5_0_1 : w5.frozen? ⟨w.heap.size, 1, none⟩ = false := f5.thaw_of (by go_simp) (by go_simp) (by (try dsimp only); omega)
      have c5_0_2 : w5.cell? ⟨w.heap.size, 2, none⟩ = some (.string ⟨#[]⟩) := f5.cell_of (by go_simp) (by (try dsimp only); omega)
      have d5_0_2 : w5.frozen? ⟨w.heap.size, 2, none⟩ = false := f5.thaw_of (by go_simp) (by go_simp) (by (try dsimp only); omega)
      have c5_0_3 : w5.cell? ⟨w.heap.size, 3, none⟩ = some (.slice none 0 0) := f5.cell_of (by go_simp) (by (try dsimp only); omega)
      have d5_0_3 : w5.frozen? ⟨w.heap.size, 3, none⟩ = false := f5.thaw_of (by go_simp) (by go_simp) (by (try dsimp only); omega)
      have c5_0_4 : w5.cell? ⟨w.heap.size, 4, none⟩ = some (.int .i64 0) := f5.cell_of (by go_simp) (by (try dsimp only); omega)
      have d5_0_4 : w5.frozen? ⟨w.heap.size, 4, none⟩ = false := f5.thaw_of (by go_simp) (by go_simp) (by (try dsimp only); omega)
      have c5_0_5 : w5.cell? ⟨w.heap.size, 5, none⟩ = some (.int .i64 0) := f5.cell_of (by go_simp) (by (try dsimp only); omega)
      have d5_0_5 : w5.frozen? ⟨w.heap.size, 5, none⟩ = false := f5.thaw_of (by go_simp) (by go_simp) (by (try dsimp only); omega)
      have c5_0_6 : w5.cell? ⟨w.heap.size, 6, none⟩ = some (.string ⟨#[]⟩) := f5.cell_of (by go_simp) (by (try dsimp only); omega)
      have d5_0_6 : w5.frozen? ⟨w.heap.size, 6, none⟩ = false := f5.thaw_of (by go_simp) (by go_simp) (by (try dsimp only); omega)
      have c5_0_7 : w5.cell? ⟨w.heap.size, 7, none⟩ = some (.slice none 0 0) := f5.cell_of (by go_simp) (by (try dsimp only); omega)
      have d5_0_7 : w5.frozen? ⟨w.heap.size, 7, none⟩ = false := f5.thaw_of (by go_simp) (by go_simp) (by (try dsimp only); omega)
      have y5_0 : w.heap.size < w5.heap.size := World.block_lt_of_cell? w5 _ c5_0_0
      have c5_1_0 : w5.cell? ⟨w2.heap.size, 0, none⟩ = some (.int .i64 1000) := f5.cell_of (by go_simp) (by (try dsimp only); omega)
      have d5_1_0 : w5.frozen? ⟨w2.heap.size, 0, none⟩ = false := f5.thaw_of (by go_simp) (by go_simp) (by (try dsimp only); omega)
      have c5_1_1 : w5.cell? ⟨w2.heap.size, 1, none⟩ = some (.int .i64 0) := f5.cell_of (by go_simp) (by (try dsimp only); omega)
      have d5_1_1 : w5.frozen? ⟨w2.heap.size, 1, none⟩ = false := f5.thaw_of (by go_simp) (by go_simp) (by (try dsimp only); omega)
      have c5_1_2 : w5.cell? ⟨w2.heap.size, 2, none⟩ = some (.string ⟨#[121]⟩) := f5.cell_of (by go_simp) (by (try dsimp only); omega)
      have d5_1_2 : w5.frozen? ⟨w2.heap.size, 2, none⟩ = false := f5.thaw_of (by go_simp) (by go_simp) (by (try dsimp only); omega)
      have c5_1_3 : w5.cell? ⟨w2.heap.size, 3, none⟩ = some (.slice (some ⟨w3.heap.size, 0, none⟩) 1 1) := f5.cell_of (by go_simp) (by (try dsimp only); omega)
      have d5_1_3 : w5.frozen? ⟨w2.heap.size, 3, none⟩ = false := f5.thaw_of (by go_simp) (by go_simp) (by (try dsimp only); omega)
      have c5_1_4 : w5.cell? ⟨w2.heap.size, 4, none⟩ = some (.int .i64 G.dg) := f5.cell_of (by go_simp) (by (try dsimp only); omega)
      have d5_1_4 : w5.frozen? ⟨w2.heap.size, 4, none⟩ = false := f5.thaw_of (by go_simp) (by go_simp) (by (try dsimp only); omega)
      have c5_1_5 : w5.cell? ⟨w2.heap.size, 5, none⟩ = some (.int .i64 G.tn) := f5.cell_of (by go_simp) (by (try dsimp only); omega)
      have d5_1_5 : w5.frozen? ⟨w2.heap.size, 5, none⟩ = false := f5.thaw_of (by go_simp) (by go_simp) (by (try dsimp only); omega)
      have c5_1_6 : w5.cell? ⟨w2.heap.size, 6, none⟩ = some (.string G.nm) := f5.cell_of (by go_simp) (by (try dsimp only); omega)
      have d5_1_6 : w5.frozen? ⟨w2.heap.size, 6, none⟩ = false := f5.thaw_of (by go_simp) (by go_simp) (by (try dsimp only); omega)
      have c5_1_7 : w5.cell? ⟨w2.heap.size, 7, none⟩ = some (.slice oG G.pw.length kG) := f5.cell_of (by go_simp) (by (try dsimp only); omega)
      have d5_1_7 : w5.frozen? ⟨w2.heap.size, 7, none⟩ = false := f5.thaw_of (by go_simp) (by go_simp) (by (try dsimp only); omega)
      have y5_1 : w2.heap.size < w5.heap.size := World.block_lt_of_cell? w5 _ c5_1_0
      have IF_5 := K.ints.far (show K.ints _ (w.heap.size + 1) w1.heap.size (.slice oF F.pw.length kF) F.pw from by with_reducible repeat' (first | exact IF_4 | refine K.ints.alloc ?_ _ | refine K.ints.drew ?_ | refine K.ints.set ?_ _ ?_ _ | (dsimp only; omega) | omega | (simp; done) | (simp; omega))) f5 (by first | exact .inl (by omega) | exact .inr (by omega))
      have IG_5 := K.ints.far (show K.ints _ (w1.heap.size) w2.heap.size (.slice oG G.pw.length kG) G.pw from by with_reducible repeat' (first | exact IG_4 | refine K.ints.alloc ?_ _ | refine K.ints.drew ?_ | refine K.ints.set ?_ _ ?_ _ | (dsimp only; omega) | omega | (simp; done) | (simp; omega))) f5 (by first | exact .inl (by omega) | exact .inr (by omega))
      have IY_5 := K.ints.far (show K.ints _ w3.heap.size (w3.heap.size + 1) (.slice (some ⟨w3.heap.size, 0, none⟩) 1 1) [1] from by with_reducible repeat' (first | exact IY_4 | refine K.ints.alloc ?_ _ | refine K.ints.drew ?_ | refine K.ints.set ?_ _ ?_ _ | (dsimp only; omega) | omega | (simp; done) | (simp; omega))) f5 (by first | exact .inl (by omega) | exact .inr (by omega))
      obtain ⟨oH, kH, rfl, _⟩ := id hiH
      have IH_5 : K.ints w5 (w4.heap.size) w5.heap.size (.slice oH H.pw.length kH) H.pw := hiH.mono (by simp) (Nat.le_refl _)
      clear hiH
      have ne5 : ¬ (w.heap.size = w5.heap.size) := (by omega)
      go_wp2_with fail
      refine bodyPost_ret (v := .agg #[.int .i64 H.dg, .int .i64 H.tn, .string H.nm, .slice oH H.pw.length kH, .int .i64 G.dg, .int .i64 G.tn, .string G.nm, .slice oG G.pw.length kG]) (by unfold results; rw [Try.results113]; go_simp) rfl ⟨⟨⟨H, G⟩, _, _, rfl, ⟨hnH, hmH⟩, ⟨hx2, hmG⟩, ?_, ?_⟩, ?_, ?_⟩
      · exact K.ints.mono (show K.ints _ (w4.heap.size) w5.heap.size (.slice oH H.pw.length kH) H.pw from by with_reducible repeat' (first | exact IH_5 | refine K.ints.alloc ?_ _ | refine K.ints.drew ?_ | refine K.ints.set ?_ _ ?_ _ | (dsimp only; omega) | omega | (simp; done) | (simp; omega))) (by omega) (by first | omega | (simp; done) | (simp; omega))
      · exact K.ints.mono (show K.ints _ (w1.heap.size) w2.heap.size (.slice oG G.pw.length kG) G.pw from by with_reducible repeat' (first | exact IG_5 | refine K.ints.alloc ?_ _ | refine K.ints.drew ?_ | refine K.ints.set ?_ _ ?_ _ | (dsimp only; omega) | omega | (simp; done) | (simp; omega))) (by omega) (by first | omega | (simp; done) | (simp; omega))
      · exact (show K.Src 164 _ _ from by with_reducible repeat' (first | exact s5 | refine K.Src.alloc ?_ _ | refine K.Src.drew ?_ | refine K.Src.setOther ?_ ?_ _ | (dsimp only; omega)))
      · exact (by with_reducible repeat' (first | exact F5 | refine K.Far.alloc ?_ _ | refine K.Far.setNew ?_ ?_ _ | refine K.Far.drew ?_ | (dsimp only; omega)))
    by_cases n1_ : n = 1
    · subst n1_
      go_wp2_with fail
      refine K.call (by with_reducible rfl) (by with_reducible rfl) (l18Draw_any g _ (show K.Src 164 _ _ from by with_reducible repeat' (first | exact s4 | refine K.Src.alloc ?_ _ | refine K.Src.drew ?_ | refine K.Src.setOther ?_ ?_ _ | (dsimp only; omega)))) ?_
      rintro e w5 ⟨⟨H, pH, rfl, hnH, hmH, hiH⟩, s5, f5⟩
      have z5 := f5.size
      (try simp at z5)
      have F5 : K.Far g (g + 1) w w5 := K.Far.trans (by with_reducible repeat' (first | exact F4 | refine K.Far.alloc ?_ _ | refine K.Far.setNew ?_ ?_ _ | refine K.Far.drew ?_ | (dsimp only; omega))) f5
      have c5_0_0 : w5.cell? ⟨w.heap.size, 0, none⟩ = some (.int .i64 0) := f5.cell_of (by go_simp) (by (try dsimp only); omega)
      have d5_0_0 : w5.frozen? ⟨w.heap.size, 0, none⟩ = false := f5.thaw_of (by go_simp) (by go_simp) (by (try dsimp only); omega)
      have c5_0_1 : w5.cell? ⟨w.heap.size, 1, none⟩ = some (.int .i64 0) := f5.cell_of (by go_simp) (by (try dsimp only); omega)
      have d5_0_1 : w5.frozen? ⟨w.heap.size, 1, none⟩ = false := f5.thaw_of (by go_simp) (by go_simp) (by (try dsimp only); omega)
      have c5_0_2 : w5.cell? ⟨w.heap.size, 2, none⟩ = some (.string ⟨#[]⟩) := f5.cell_of (by go_simp) (by (try dsimp only); omega)
      have d5_0_2 : w5.frozen? ⟨w.heap.size, 2, none⟩ = false := f5.thaw_of (by go_simp) (by go_simp) (by (try dsimp only); omega)
      have c5_0_3 : w5.cell? ⟨w.heap.size, 3, none⟩ = some (.slice none 0 0) := f5.cell_of (by go_simp) (by (try dsimp only); omega)
      have d5_0_3 : w5.frozen? ⟨w.heap.size, 3, none⟩ = false := f5.thaw_of (by go_simp) (by go_simp) (by (try dsimp only); omega)
      have c5_0_4 : w5.cell? ⟨w.heap.size, 4, none⟩ = some (.int .i64 0) := f5.cell_of (by go_simp) (by (try dsimp only); omega)
      have d5_0_4 : w5.frozen? ⟨w.heap.size, 4, none⟩ = false := f5.thaw_of (by go_simp) (by go_simp) (by (try dsimp only); omega)
      have c5_0_5 : w5.cell? ⟨w.heap.size, 5, none⟩ = some (.int .i64 0) := f5.cell_of (by go_simp) (by (try dsimp only); omega)
      have d5_0_5 : w5.frozen? ⟨w.heap.size, 5, none⟩ = false := f5.thaw_of (by go_simp) (by go_simp) (by (try dsimp only); omega)
      have c5_0_6 : w5.cell? ⟨w.heap.size, 6, none⟩ = some (.string ⟨#[]⟩) := f5.cell_of (by go_simp) (by (try dsimp only); omega)
      have d5_0_6 : w5.frozen? ⟨w.heap.size, 6, none⟩ = false := f5.thaw_of (by go_simp) (by go_simp) (by (try dsimp only); omega)
      have c5_0_7 : w5.cell? ⟨w.heap.size, 7, none⟩ = some (.slice none 0 0) := f5.cell_of (by go_simp) (by (try dsimp only); omega)
      have d5_0_7 : w5.frozen? ⟨w.heap.size, 7, none⟩ = false := f5.thaw_of (by go_simp) (by go_simp) (by (try dsimp only); omega)
      have y5_0 : w.heap.size < w5.heap.size := World.block_lt_of_cell? w5 _ c5_0_0
      have c5_1_0 : w5.cell? ⟨w2.heap.size, 0, none⟩ = some (.int .i64 1000) := f5.cell_of (by go_simp) (by (try dsimp only); omega)
      have d5_1_0 : w5.frozen? ⟨w2.heap.size, 0, none⟩ = false := f5.thaw_of (by go_simp) (by go_simp) (by (try dsimp only); omega)
      have c5_1_1 : w5.cell? ⟨w2.heap.size, 1, none⟩ = some (.int .i64 0) := f5.cell_of (by go_simp) (by (try dsimp only); omega)
      have d5_1_1 : w5.frozen? ⟨w2.heap.size, 1, none⟩ = false := f5.thaw_of (by go_simp) (by go_simp) (by (try dsimp only); omega)
      have c5_1_2 : w5.cell? ⟨w2.heap.size, 2, none⟩ = some (.string ⟨#[121]⟩) := f5.cell_of (by go_simp) (by (try dsimp only); omega)
      have d5_1_2 : w5.frozen? ⟨w2.heap.size, 2, none⟩ = false := f5.thaw_of (by go_simp) (by go_simp) (by (try dsimp only); omega)
      have c5_1_3 : w5.cell? ⟨w2.heap.size, 3, none⟩ = some (.slice (some ⟨w3.heap.size, 0, none⟩) 1 1) := f5.cell_of (by go_simp) (by (try dsimp only); omega)
      have d5_1_3 : w5.frozen? ⟨w2.heap.size, 3, none⟩ = false := f5.thaw_of (by go_simp) (by go_simp) (by (try dsimp only); omega)
      have c5_1_4 : w5.cell? ⟨w2.heap.size, 4, none⟩ = some (.int .i64 G.dg) := f5.cell_of (by go_simp) (by (try dsimp only); omega)
      have d5_1_4 : w5.frozen? ⟨w2.heap.size, 4, none⟩ = false := f5.thaw_of (by go_simp) (by go_simp) (by (try dsimp only); omega)
      have c5_1_5 : w5.cell? ⟨w2.heap.size, 5, none⟩ = some (.int .i64 G.tn) := f5.cell_of (by go_simp) (by (try dsimp only); omega)
      have d5_1_5 : w5.frozen? ⟨w2.heap.size, 5, none⟩ = false := f5.thaw_of (by go_simp) (by go_simp) (by (try dsimp only); omega)
      have c5_1_6 : w5.cell? ⟨w2.heap.size, 6, none⟩ = some (.string G.nm) := f5.cell_of (by go_simp) (by (try dsimp only); omega)
      have d5_1_6 : w5.frozen? ⟨w2.heap.size, 6, none⟩ = false := f5.thaw_of (by go_simp) (by go_simp) (by (try dsimp only); omega)
      have c5_1_7 : w5.cell? ⟨w2.heap.size, 7, none⟩ = some (.slice oG G.pw.length kG) := f5.cell_of (by go_simp) (by (try dsimp only); omega)
      have d5_1_7 : w5.frozen? ⟨w2.heap.size, 7, none⟩ = false := f5.thaw_of (by go_simp) (by go_simp) (by (try dsimp only); omega)
      have y5_1 : w2.heap.size < w5.heap.size := World.block_lt_of_cell? w5 _ c5_1_0
      have IF_5 := K.ints.far (show K.ints _ (w.heap.size + 1) w1.heap.size (.slice oF F.pw.length kF) F.pw from by with_reducible repeat' (first | exact IF_4 | refine K.ints.alloc ?_ _ | refine K.ints.drew ?_ | refine K.ints.set ?_ _ ?_ _ | (dsimp only; omega) | omega | (simp; done) | (simp; omega))) f5 (by first | exact .inl (by omega) | exact .inr (by omega))
      have IG_5 := K.ints.far (show K.ints _ (w1.heap.size) w2.heap.size (.slice oG G.pw.length kG) G.pw from by with_reducible repeat' (first | exact IG_4 | refine K.ints.alloc ?_ _ | refine K.ints.drew ?_ | refine K.ints.set ?_ _ ?_ _ | (dsimp only; omega) | omega | (simp; done) | (simp; omega))) f5 (by first | exact .inl (by omega) | exact .inr (by omega))
      have IY_5 := K.ints.far (show K.ints _ w3.heap.size (w3.heap.size + 1) (.slice (some ⟨w3.heap.size, 0, none⟩) 1 1) [1] from by with_reducible repeat' (first | exact IY_4 | refine K.ints.alloc ?_ _ | refine K.ints.drew ?_ | refine K.ints.set ?_ _ ?_ _ | (dsimp only; omega) | omega | (simp; done) | (simp; omega))) f5 (by first | exact .inl (by omega) | exact .inr (by omega))
      obtain ⟨oH, kH, rfl, _⟩ := id hiH
      have IH_5 : K.ints w5 (w4.heap.size) w5.heap.size (.slice oH H.pw.length kH) H.pw := hiH.mono (by simp) (Nat.le_refl _)
      clear hiH
      go_wp2_with fail
      refine bodyPost_ret (v := .agg #[.int .i64 1000, .int .i64 0, .string ⟨#[121]⟩, .slice (some ⟨w3.heap.size, 0, none⟩) 1 1, .int .i64 H.dg, .int .i64 H.tn, .string H.nm, .slice oH H.pw.length kH]) (by unfold results; rw [Try.results113]; go_simp) rfl ⟨⟨⟨⟨1000, 0, ⟨#[121]⟩, [1]⟩, H⟩, _, _, rfl, ⟨by show (⟨#[121]⟩ : ByteArray).size ≤ 7; decide, by show ([1] : List Int).length ≤ 6; decide⟩, ⟨hnH, hmH⟩, ?_, ?_⟩, ?_, ?_⟩
      · exact K.ints.mono (show K.ints _ w3.heap.size (w3.heap.size + 1) (.slice (some ⟨w3.heap.size, 0, none⟩) 1 1) [1] from by with_reducible repeat' (first | exact IY_5 | refine K.ints.alloc ?_ _ | refine K.ints.drew ?_ | refine K.ints.set ?_ _ ?_ _ | (dsimp only; omega) | omega | (simp; done) | (simp; omega))) (by omega) (by first | omega | (simp; done) | (simp; omega))
      · exact K.ints.mono (show K.ints _ (w4.heap.size) w5.heap.size (.slice oH H.pw.length kH) H.pw from by with_reducible repeat' (first | exact IH_5 | refine K.ints.alloc ?_ _ | refine K.ints.drew ?_ | refine K.ints.set ?_ _ ?_ _ | (dsimp only; omega) | omega | (simp; done) | (simp; omega))) (by omega) (by first | omega | (simp; done) | (simp; omega))
      · exact (show K.Src 164 _ _ from by with_reducible repeat' (first | exact s5 | refine K.Src.alloc ?_ _ | refine K.Src.drew ?_ | refine K.Src.setOther ?_ ?_ _ | (dsimp only; omega)))
      · exact (by with_reducible repeat' (first | exact F5 | refine K.Far.alloc ?_ _ | refine K.Far.setNew ?_ ?_ _ | refine K.Far.drew ?_ | (dsimp only; omega)))
    go_wp2_with fail
    refine bodyPost_ret (v := .agg #[.int .i64 1000, .int .i64 0, .string ⟨#[121]⟩, .slice (some ⟨w3.heap.size, 0, none⟩) 1 1, .int .i64 G.dg, .int .i64 G.tn, .string G.nm, .slice oG G.pw.length kG]) (by unfold results; rw [Try.results113]; go_simp) rfl ⟨⟨⟨⟨1000, 0, ⟨#[121]⟩, [1]⟩, G⟩, _, _, rfl, ⟨by show (⟨#[121]⟩ : ByteArray).size ≤ 7; decide, by show ([1] : List Int).length ≤ 6; decide⟩, ⟨hx2, hmG⟩, ?_, ?_⟩, ?_, ?_⟩
    · exact K.ints.mono (show K.ints _ w3.heap.size (w3.heap.size + 1) (.slice (some ⟨w3.heap.size, 0, none⟩) 1 1) [1] from by with_reducible repeat' (first | exact IY_4 | refine K.ints.alloc ?_ _ | refine K.ints.drew ?_ | refine K.ints.set ?_ _ ?_ _ | (dsimp only; omega) | omega | (simp; done) | (simp; omega))) (by omega) (by first | omega | (simp; done) | (simp; omega))
    · exact K.ints.mono (show K.ints _ (w1.heap.size) w2.heap.size (.slice oG G.pw.length kG) G.pw from by with_reducible repeat' (first | exact IG_4 | refine K.ints.alloc ?_ _ | refine K.ints.drew ?_ | refine K.ints.set ?_ _ ?_ _ | (dsimp only; omega) | omega | (simp; done) | (simp; omega))) (by omega) (by first | omega | (simp; done) | (simp; omega))
    · exact (show K.Src 164 _ _ from by with_reducible repeat' (first | exact s4 | refine K.Src.alloc ?_ _ | refine K.Src.drew ?_ | refine K.Src.setOther ?_ ?_ _ | (dsimp only; omega)))
    · exact (by with_reducible repeat' (first | exact F4 | refine K.Far.alloc ?_ _ | refine K.Far.setNew ?_ ?_ _ | refine K.Far.drew ?_ | (dsimp only; omega)))
  go_wp2_with fail
  refine K.call (by with_reducible rfl) (by with_reducible rfl) (l01Next_any g (20) _ (show K.Src 164 _ _ from by with_reducible repeat' (first | exact s3 | refine K.Src.alloc ?_ _ | refine K.Src.drew ?_ | refine K.Src.setOther ?_ ?_ _ | (dsimp only; omega)))) ?_
  rintro e w4 ⟨⟨n, rfl, n0, n1, n2⟩, s4, f4⟩
  have z4 := f4.size
  (try simp at z4)
  have F4 : K.Far g (g + 1) w w4 := K.Far.trans (by with_reducible repeat' (first | exact F3 | refine K.Far.alloc ?_ _ | refine K.Far.setNew ?_ ?_ _ | refine K.Far.drew ?_ | (dsimp only; omega))) f4
  have c4_0_0 : w4.cell? ⟨w.heap.size, 0, none⟩ = some (.int .i64 0) := f4.cell_of (by go_simp) (by (try dsimp only); omega)
  have d4_0_0 : w4.frozen? ⟨w.heap.size, 0, none⟩ = false := f4.thaw_of (by go_simp) (by go_simp) (by (try dsimp only); omega)
  have c4_0_1 : w4.cell? ⟨w.heap.size, 1, none⟩ = some (.int .i64 0) := f4.cell_of (by go_simp) (by (try dsimp only); omega)
  have d4_0_1 : w4.frozen? ⟨w.heap.size, 1, none⟩ = false := f4.thaw_of (by go_simp) (by go_simp) (by (try dsimp only); omega)
  have c4_0_2 : w4.cell? ⟨w.heap.size, 2, none⟩ = some (.string ⟨#[]⟩) := f4.cell_of (by go_simp) (by (try dsimp only); omega)
  have d4_0_2 : w4.frozen? ⟨w.heap.size, 2, none⟩ = false := f4.thaw_of (by go_simp) (by go_simp) (by (try dsimp only); omega)
  have c4_0_3 : w4.cell? ⟨w.heap.size, 3, none⟩ = some (.slice none 0 0) := f4.cell_of (by go_simp) (by (try dsimp only); omega)
  have d4_0_3 : w4.frozen? ⟨w.heap.size, 3, none⟩ = false := f4.thaw_of (by go_simp) (by go_simp) (by (try dsimp only); omega)
  have c4_0_4 : w4.cell? ⟨w.heap.size, 4, none⟩ = some (.int .i64 0) := f4.cell_of (by go_simp) (by (try dsimp only); omega)
  have d4_0_4 : w4.frozen? ⟨w.heap.size, 4, none⟩ = false := f4.thaw_of (by go_simp) (by go_simp) (by (try dsimp only); omega)
  have c4_0_5 : w4.cell? ⟨w.heap.size, 5, none⟩ = some (.int .i64 0) := f4.cell_of (by go_simp) (by (try dsimp only); omega)
  have d4_0_5 : w4.frozen? ⟨w.heap.size, 5, none⟩ = false := f4.thaw_of (by go_simp) (by go_simp) (by (try dsimp only); omega)
  have c4_0_6 : w4.cell? ⟨w.heap.size, 6, none⟩ = some (.string ⟨#[]⟩) := f4.cell_of (by go_simp) (by (try dsimp only); omega)
  have d4_0_6 : w4.frozen? ⟨w.heap.size, 6, none⟩ = false := f4.thaw_of (by go_simp) (by go_simp) (by (try dsimp only); omega)
  have c4_0_7 : w4.cell? ⟨w.heap.size, 7, none⟩ = some (.slice none 0 0) := f4.cell_of (by go_simp) (by (try dsimp only); omega)
  have d4_0_7 : w4.frozen? ⟨w.heap.size, 7, none⟩ = false := f4.thaw_of (by go_simp) (by go_simp) (by (try dsimp only); omega)
  have y4_0 : w.heap.size < w4.heap.size := World.block_lt_of_cell? w4 _ c4_0_0
  have c4_1_0 : w4.cell? ⟨w2.heap.size, 0, none⟩ = some (.int .i64 F.dg) := f4.cell_of (by go_simp) (by (try dsimp only); omega)
  have d4_1_0 : w4.frozen? ⟨w2.heap.size, 0, none⟩ = false := f4.thaw_of (by go_simp) (by go_simp) (by (try dsimp only); omega)
  have c4_1_1 : w4.cell? ⟨w2.heap.size, 1, none⟩ = some (.int .i64 F.tn) := f4.cell_of (by go_simp) (by (try dsimp only); omega)
  have d4_1_1 : w4.frozen? ⟨w2.heap.size, 1, none⟩ = false := f4.thaw_of (by go_simp) (by go_simp) (by (try dsimp only); omega)
  have c4_1_2 : w4.cell? ⟨w2.heap.size, 2, none⟩ = some (.string F.nm) := f4.cell_of (by go_simp) (by (try dsimp only); omega)
  have d4_1_2 : w4.frozen? ⟨w2.heap.size, 2, none⟩ = false := f4.thaw_of (by go_simp) (by go_simp) (by (try dsimp only); omega)
  have c4_1_3 : w4.cell? ⟨w2.heap.size, 3, none⟩ = some (.slice oF F.pw.length kF) := f4.cell_of (by go_simp) (by (try dsimp only); omega)
  have d4_1_3 : w4.frozen? ⟨w2.heap.size, 3, none⟩ = false := f4.thaw_of (by go_simp) (by go_simp) (by (try dsimp only); omega)
  have c4_1_4 : w4.cell? ⟨w2.heap.size, 4, none⟩ = some (.int .i64 G.dg) := f4.cell_of (by go_simp) (by (try dsimp only); omega)
  have d4_1_4 : w4.frozen? ⟨w2.heap.size, 4, none⟩ = false := f4.thaw_of (by go_simp) (by go_simp) (by (try dsimp only); omega)
  have c4_1_5 : w4.cell? ⟨w2.heap.size, 5, none⟩ = some (.int .i64 G.tn) := f4.cell_of (by go_simp) (by (try dsimp only); omega)
  have d4_1_5 : w4.frozen? ⟨w2.heap.size, 5, none⟩ = false := f4.thaw_of (by go_simp) (by go_simp) (by (try dsimp only); omega)
  have c4_1_6 : w4.cell? ⟨w2.heap.size, 6, none⟩ = some (.string G.nm) := f4.cell_of (by go_simp) (by (try dsimp only); omega)
  have d4_1_6 : w4.frozen? ⟨w2.heap.size, 6, none⟩ = false := f4.thaw_of (by go_simp) (by go_simp) (by (try dsimp only); omega)
  have c4_1_7 : w4.cell? ⟨w2.heap.size, 7, none⟩ = some (.slice oG G.pw.length kG) := f4.cell_of (by go_simp) (by (try dsimp only); omega)
  have d4_1_7 : w4.frozen? ⟨w2.heap.size, 7, none⟩ = false := f4.thaw_of (by go_simp) (by go_simp) (by (try dsimp only); omega)
  have y4_1 : w2.heap.size < w4.heap.size := World.block_lt_of_cell? w4 _ c4_1_0
  have IF_4 := K.ints.far (show K.ints _ (w.heap.size + 1) w1.heap.size (.slice oF F.pw.length kF) F.pw from by with_reducible repeat' (first | exact IF_3 | refine K.ints.alloc ?_ _ | refine K.ints.drew ?_ | refine K.ints.set ?_ _ ?_ _ | (dsimp only; omega) | omega | (simp; done) | (simp; omega))) f4 (by first | exact .inl (by omega) | exact .inr (by omega))
  have IG_4 := K.ints.far (show K.ints _ (w1.heap.size) w2.heap.size (.slice oG G.pw.length kG) G.pw from by with_reducible repeat' (first | exact IG_3 | refine K.ints.alloc ?_ _ | refine K.ints.drew ?_ | refine K.ints.set ?_ _ ?_ _ | (dsimp only; omega) | omega | (simp; done) | (simp; omega))) f4 (by first | exact .inl (by omega) | exact .inr (by omega))
  by_cases n0_ : n = 0
  · subst n0_
    go_wp2_with fail
    refine K.call (by with_reducible rfl) (by with_reducible rfl) (l18Draw_any g _ (show K.Src 164 _ _ from by with_reducible repeat' (first | exact s4 | refine K.Src.alloc ?_ _ | refine K.Src.drew ?_ | refine K.Src.setOther ?_ ?_ _ | (dsimp only; omega)))) ?_
    rintro e w5 ⟨⟨H, pH, rfl, hnH, hmH, hiH⟩, s5, f5⟩
    have z5 := f5.size
    (try simp at z5)
    have F5 : K.Far g (g + 1) w w5 := K.Far.trans (by with_reducible repeat' (first | exact F4 | refine K.Far.alloc ?_ _ | refine K.Far.setNew ?_ ?_ _ | refine K.Far.drew ?_ | (dsimp only; omega))) f5
    have c5_0_0 : w5.cell? ⟨w.heap.size, 0, none⟩ = some (.int .i64 0) := f5.cell_of (by go_simp) (by (try dsimp only); omega)
    have d5_0_0 : w5.frozen? ⟨w.heap.size, 0, none⟩ = false := f5.thaw_of (by go_simp) (by go_simp) (by (try dsimp only); omega)
    have c5_0_1 : w5.cell? ⟨w.heap.size, 1, none⟩ = some (.int .i64 0) := f5.cell_of (by go_simp) (by (try dsimp only); omega)
    have d5_0_1 : w5.frozen? ⟨w.heap.size, 1, none⟩ = false := f5.thaw_of (by go_simp) (by go_simp) (by (try dsimp only); omega)
    have c5_0_2 : w5.cell? ⟨w.heap.size, 2, none⟩ = some (.string ⟨#[]⟩) := f5.cell_of (by go_simp) (by (try dsimp only); omega)
    have d5_0_2 : w5.frozen? ⟨w.heap.size, 2, none⟩ = false := f5.thaw_of (by go_simp) (by go_simp) (by (try dsimp only); omega)
    have c5_0_3 : w5.cell? ⟨w.heap.size, 3, none⟩ = some (.slice none 0 0) := f5.cell_of (by go_simp) (by (try dsimp only); omega)
    have d5_0_3 : w5.frozen? ⟨w.heap.size, 3, none⟩ = false := f5.thaw_of (by go_simp) (by go_simp) (by (try dsimp only); omega)
    have c5_0_4 : w5.cell? ⟨w.heap.size, 4, none⟩ = some (.int .i64 0) := f5.cell_of (by go_simp) (by (try dsimp only); omega)
    have d5_0_4 : w5.frozen? ⟨w.heap.size, 4, none⟩ = false := f5.thaw_of (by go_simp) (by go_simp) (by (try dsimp only); omega)
    have c5_0_5 : w5.cell? ⟨w.heap.size, 5, none⟩ = some (.int .i64 0) := f5.cell_of (by go_simp) (by (try dsimp only); omega)
    have d5_0_5 : w5.frozen? ⟨w.heap.size, 5, none⟩ = false := f5.thaw_of (by go_simp) (by go_simp) (by (try dsimp only); omega)
    have c5_0_6 : w5.cell? ⟨w.heap.size, 6, none⟩ = some (.string ⟨#[]⟩) := f5.cell_of (by go_simp) (by (try dsimp only); omega)
    have d5_0_6 : w5.frozen? ⟨w.heap.size, 6, none⟩ = false := f5.thaw_of (by go_simp) (by go_simp) (by (try dsimp only); omega)
    have c5_0_7 : w5.cell? ⟨w.heap.size, 7, none⟩ = some (.slice none 0 0) := f5.cell_of (by go_simp) (by (try dsimp only); omega)
    have d5_0_7 : w5.frozen? ⟨w.heap.size, 7, none⟩ = false := f5.thaw_of (by go_simp) (by go_simp) (by (try dsimp only); omega)
    have y5_0 : w.heap.size < w5.heap.size := World.block_lt_of_cell? w5 _ c5_0_0
    have c5_1_0 : w5.cell? ⟨w2.heap.size, 0, none⟩ = some (.int .i64 F.dg) := f5.cell_of (by go_simp) (by (try dsimp only); omega)
    have d5_1_0 : w5.frozen? ⟨w2.heap.size, 0, none⟩ = false := f5.thaw_of (by go_simp) (by go_simp) (by (try dsimp only); omega)
    have c5_1_1 : w5.cell? ⟨w2.heap.size, 1, none⟩ = some (.int .i64 F.tn) := f5.cell_of (by go_simp) (by (try dsimp only); omega)
    have d5_1_1 : w5.frozen? ⟨w2.heap.size, 1, none⟩ = false := f5.thaw_of (by go_simp) (by go_simp) (by (try dsimp only); omega)
    have c5_1_2 : w5.cell? ⟨w2.heap.size, 2, none⟩ = some (.string F.nm) := f5.cell_of (by go_simp) (by (try dsimp only); omega)
    have d5_1_2 : w5.frozen? ⟨w2.heap.size, 2, none⟩ = false := f5.thaw_of (by go_simp) (by go_simp) (by (try dsimp only); omega)
    have c5_1_3 : w5.cell? ⟨w2.heap.size, 3, none⟩ = some (.slice oF F.pw.length kF) := f5.cell_of (by go_simp) (by (try dsimp only); omega)
    have d5_1_3 : w5.frozen? ⟨w2.heap.size, 3, none⟩ = false := f5.thaw_of (by go_simp) (by go_simp) (by (try dsimp only); omega)
    have c5_1_4 : w5.cell? ⟨w2.heap.size, 4, none⟩ = some (.int .i64 G.dg) := f5.cell_of (by go_simp) (by (try dsimp only); omega)
    have d5_1_4 : w5.frozen? ⟨w2.heap.size, 4, none⟩ = false := f5.thaw_of (by go_simp) (by go_simp) (by (try dsimp only); omega)
    have c5_1_5 : w5.cell? ⟨w2.heap.size, 5, none⟩ = some (.int .i64 G.tn) := f5.cell_of (by go_simp) (by (try dsimp only); omega)
    have d5_1_5 : w5.frozen? ⟨w2.heap.size, 5, none⟩ = false := f5.thaw_of (by go_simp) (by go_simp) (by (try dsimp only); omega)
    have c5_1_6 : w5.cell? ⟨w2.heap.size, 6, none⟩ = some (.string G.nm) := f5.cell_of (by go_simp) (by (try dsimp only); omega)
    have d5_1_6 : w5.frozen? ⟨w2.heap.size, 6, none⟩ = false := f5.thaw_of (by go_simp) (by go_simp) (by (try dsimp only); omega)
    have c5_1_7 : w5.cell? ⟨w2.heap.size, 7, none⟩ = some (.slice oG G.pw.length kG) := f5.cell_of (by go_simp) (by (try dsimp only); omega)
    have d5_1_7 : w5.frozen? ⟨w2.heap.size, 7, none⟩ = false := f5.thaw_of (by go_simp) (by go_simp) (by (try dsimp only); omega)
    have y5_1 : w2.heap.size < w5.heap.size := World.block_lt_of_cell? w5 _ c5_1_0
    have IF_5 := K.ints.far (show K.ints _ (w.heap.size + 1) w1.heap.size (.slice oF F.pw.length kF) F.pw from by with_reducible repeat' (first | exact IF_4 | refine K.ints.alloc ?_ _ | refine K.ints.drew ?_ | refine K.ints.set ?_ _ ?_ _ | (dsimp only; omega) | omega | (simp; done) | (simp; omega))) f5 (by first | exact .inl (by omega) | exact .inr (by omega))
    have IG_5 := K.ints.far (show K.ints _ (w1.heap.size) w2.heap.size (.slice oG G.pw.length kG) G.pw from by with_reducible repeat' (first | exact IG_4 | refine K.ints.alloc ?_ _ | refine K.ints.drew ?_ | refine K.ints.set ?_ _ ?_ _ | (dsimp only; omega) | omega | (simp; done) | (simp; omega))) f5 (by first | exact .inl (by omega) | exact .inr (by omega))
    obtain ⟨oH, kH, rfl, _⟩ := id hiH
    have IH_5 : K.ints w5 (w4.heap.size) w5.heap.size (.slice oH H.pw.length kH) H.pw := hiH.mono (by simp) (Nat.le_refl _)
    clear hiH
    have ne5 : ¬ (w.heap.size = w5.heap.size) := (by omega)
    go_wp2_with fail
    refine bodyPost_ret (v := .agg #[.int .i64 H.dg, .int .i64 H.tn, .string H.nm, .slice oH H.pw.length kH, .int .i64 G.dg, .int .i64 G.tn, .string G.nm, .slice oG G.pw.length kG]) (by unfold results; rw [Try.results113]; go_simp) rfl ⟨⟨⟨H, G⟩, _, _, rfl, ⟨hnH, hmH⟩, ⟨hx2, hmG⟩, ?_, ?_⟩, ?_, ?_⟩
    · exact K.ints.mono (show K.ints _ (w4.heap.size) w5.heap.size (.slice oH H.pw.length kH) H.pw from by with_reducible repeat' (first | exact IH_5 | refine K.ints.alloc ?_ _ | refine K.ints.drew ?_ | refine K.ints.set ?_ _ ?_ _ | (dsimp only; omega) | omega | (simp; done) | (simp; omega))) (by omega) (by first | omega | (simp; done) | (simp; omega))
    · exact K.ints.mono (show K.ints _ (w1.heap.size) w2.heap.size (.slice oG G.pw.length kG) G.pw from by with_reducible repeat' (first | exact IG_5 | refine K.ints.alloc ?_ _ | refine K.ints.drew ?_ | refine K.ints.set ?_ _ ?_ _ | (dsimp only; omega) | omega | (simp; done) | (simp; omega))) (by omega) (by first | omega | (simp; done) | (simp; omega))
    · exact (show K.Src 164 _ _ from by with_reducible repeat' (first | exact s5 | refine K.Src.alloc ?_ _ | refine K.Src.drew ?_ | refine K.Src.setOther ?_ ?_ _ | (dsimp only; omega)))
    · exact (by with_reducible repeat' (first | exact F5 | refine K.Far.alloc ?_ _ | refine K.Far.setNew ?_ ?_ _ | refine K.Far.drew ?_ | (dsimp only; omega)))
  by_cases n1_ : n = 1
  · subst n1_
    go_wp2_with fail
    refine K.call (by with_reducible rfl) (by with_reducible rfl) (l18Draw_any g _ (show K.Src 164 _ _ from by with_reducible repeat' (first | exact s4 | refine K.Src.alloc ?_ _ | refine K.Src.drew ?_ | refine K.Src.setOther ?_ ?_ _ | (dsimp only; omega)))) ?_
    rintro e w5 ⟨⟨H, pH, rfl, hnH, hmH, hiH⟩, s5, f5⟩
    have z5 := f5.size
    (try simp at z5)
    have F5 : K.Far g (g + 1) w w5 := K.Far.trans (by with_reducible repeat' (first | exact F4 | refine K.Far.alloc ?_ _ | refine K.Far.setNew ?_ ?_ _ | refine K.Far.drew ?_ | (dsimp only; omega))) f5
    have c5_0_0 : w5.cell? ⟨w.heap.size, 0, none⟩ = some (.int .i64 0) := f5.cell_of (by go_simp) (by (try dsimp only); omega)
    have d5_0_0 : w5.frozen? ⟨w.heap.size, 0, none⟩ = false := f5.thaw_of (by go_simp) (by go_simp) (by (try dsimp only); omega)
    have c5_0_1 : w5.cell? ⟨w.heap.size, 1, none⟩ = some (.int .i64 0) := f5.cell_of (by go_simp) (by (try dsimp only); omega)
    have d5_0_1 : w5.frozen? ⟨w.heap.size, 1, none⟩ = false := f5.thaw_of (by go_simp) (by go_simp) (by (try dsimp only); omega)
    have c5_0_2 : w5.cell? ⟨w.heap.size, 2, none⟩ = some (.string ⟨#[]⟩) := f5.cell_of (by go_simp) (by (try dsimp only); omega)
    have d5_0_2 : w5.frozen? ⟨w.heap.size, 2, none⟩ = false := f5.thaw_of (by go_simp) (by go_simp) (by (try dsimp only); omega)
    have c5_0_3 : w5.cell? ⟨w.heap.size, 3, none⟩ = some (.slice none 0 0) := f5.cell_of (by go_simp) (by (try dsimp only); omega)
    have d5_0_3 : w5.frozen? ⟨w.heap.size, 3, none⟩ = false := f5.thaw_of (by go_simp) (by go_simp) (by (try dsimp only); omega)
    have c5_0_4 : w5.cell? ⟨w.heap.size, 4, none⟩ = some (.int .i64 0) := f5.cell_of (by go_simp) (by (try dsimp only); omega)
    have d5_0_4 : w5.frozen? ⟨w.heap.size, 4, none⟩ = false := f5.thaw_of (by go_simp) (by go_simp) (by (try dsimp only); omega)
    have c5_0_5 : w5.cell? ⟨w.heap.size, 5, none⟩ = some (.int .i64 0) := f5.cell_of (by go_simp) (by (try dsimp only); omega)
    have d5_0_5 : w5.frozen? ⟨w.heap.size, 5, none⟩ = false := f5.thaw_of (by go_simp) (by go_simp) (by (try dsimp only); omega)
    have c5_0_6 : w5.cell? ⟨w.heap.size, 6, none⟩ = some (.string ⟨#[]⟩) := f5.cell_of (by go_simp) (by (try dsimp only); omega)
    have d5_0_6 : w5.frozen? ⟨w.heap.size, 6, none⟩ = false := f5.thaw_of (by go_simp) (by go_simp) (by (try dsimp only); omega)
    have c5_0_7 : w5.cell? ⟨w.heap.size, 7, none⟩ = some (.slice none 0 0) := f5.cell_of (by go_simp) (by (try dsimp only); omega)
    have d5_0_7 : w5.frozen? ⟨w.heap.size, 7, none⟩ = false := f5.thaw_of (by go_simp) (by go_simp) (by (try dsimp only); omega)
    have y5_0 : w.heap.size < w5.heap.size := World.block_lt_of_cell? w5 _ c5_0_0
    have c5_1_0 : w5.cell? ⟨w2.heap.size, 0, none⟩ = some (.int .i64 F.dg) := f5.cell_of (by go_simp) (by (try dsimp only); omega)
    have d5_1_0 : w5.frozen? ⟨w2.heap.size, 0, none⟩ = false := f5.thaw_of (by go_simp) (by go_simp) (by (try dsimp only); omega)
    have c5_1_1 : w5.cell? ⟨w2.heap.size, 1, none⟩ = some (.int .i64 F.tn) := f5.cell_of (by go_simp) (by (try dsimp only); omega)
    have d5_1_1 : w5.frozen? ⟨w2.heap.size, 1, none⟩ = false := f5.thaw_of (by go_simp) (by go_simp) (by (try dsimp only); omega)
    have c5_1_2 : w5.cell? ⟨w2.heap.size, 2, none⟩ = some (.string F.nm) := f5.cell_of (by go_simp) (by (try dsimp only); omega)
    have d5_1_2 : w5.frozen? ⟨w2.heap.size, 2, none⟩ = false := f5.thaw_of (by go_simp) (by go_simp) (by (try dsimp only); omega)
    have c5_1_3 : w5.cell? ⟨w2.heap.size, 3, none⟩ = some (.slice oF F.pw.length kF) := f5.cell_of (by go_simp) (by (try dsimp only); omega)
    have d5_1_3 : w5.frozen? ⟨w2.heap.size, 3, none⟩ = false := f5.thaw_of (by go_simp) (by go_simp) (by (try dsimp only); omega)
    have c5_1_4 : w5.cell? ⟨w2.heap.size, 4, none⟩ = some (.int .i64 G.dg) := f5.cell_of (by go_simp) (by (try dsimp only); omega)
    have d5_1_4 : w5.frozen? ⟨w2.heap.size, 4, none⟩ = false := f5.thaw_of (by go_simp) (by go_simp) (by (try dsimp only); omega)
    have c5_1_5 : w5.cell? ⟨w2.heap.size, 5, none⟩ = some (.int .i64 G.tn) := f5.cell_of (by go_simp) (by (try dsimp only); omega)
    have d5_1_5 : w5.frozen? ⟨w2.heap.size, 5, none⟩ = false := f5.thaw_of (by go_simp) (by go_simp) (by (try dsimp only); omega)
    have c5_1_6 : w5.cell? ⟨w2.heap.size, 6, none⟩ = some (.string G.nm) := f5.cell_of (by go_simp) (by (try dsimp only); omega)
    have d5_1_6 : w5.frozen? ⟨w2.heap.size, 6, none⟩ = false := f5.thaw_of (by go_simp) (by go_simp) (by (try dsimp only); omega)
    have c5_1_7 : w5.cell? ⟨w2.heap.size, 7, none⟩ = some (.slice oG G.pw.length kG) := f5.cell_of (by go_simp) (by (try dsimp only); omega)
    have d5_1_7 : w5.frozen? ⟨w2.heap.size, 7, none⟩ = false := f5.thaw_of (by go_simp) (by go_simp) (by (try dsimp only); omega)
    have y5_1 : w2.heap.size < w5.heap.size := World.block_lt_of_cell? w5 _ c5_1_0
    have IF_5 := K.ints.far (show K.ints _ (w.heap.size + 1) w1.heap.size (.slice oF F.pw.length kF) F.pw from by with_reducible repeat' (first | exact IF_4 | refine K.ints.alloc ?_ _ | refine K.ints.drew ?_ | refine K.ints.set ?_ _ ?_ _ | (dsimp only; omega) | omega | (simp; done) | (simp; omega))) f5 (by first | exact .inl (by omega) | exact .inr (by omega))
    have IG_5 := K.ints.far (show K.ints _ (w1.heap.size) w2.heap.size (.slice oG G.pw.length kG) G.pw from by with_reducible repeat' (first | exact IG_4 | refine K.ints.alloc ?_ _ | refine K.ints.drew ?_ | refine K.ints.set ?_ _ ?_ _ | (dsimp only; omega) | omega | (simp; done) | (simp; omega))) f5 (by first | exact .inl (by omega) | exact .inr (by omega))
    obtain ⟨oH, kH, rfl, _⟩ := id hiH
    have IH_5 : K.ints w5 (w4.heap.size) w5.heap.size (.slice oH H.pw.length kH) H.pw := hiH.mono (by simp) (Nat.le_refl _)
    clear hiH
    go_wp2_with fail
    refine bodyPost_ret (v := .agg #[.int .i64 F.dg, .int .i64 F.tn, .string F.nm, .slice oF F.pw.length kF, .int .i64 H.dg, .int .i64 H.tn, .string H.nm, .slice oH H.pw.length kH]) (by unfold results; rw [Try.results113]; go_simp) rfl ⟨⟨⟨F, H⟩, _, _, rfl, ⟨hx1, hmF⟩, ⟨hnH, hmH⟩, ?_, ?_⟩, ?_, ?_⟩
    · exact K.ints.mono (show K.ints _ (w.heap.size + 1) w1.heap.size (.slice oF F.pw.length kF) F.pw from by with_reducible repeat' (first | exact IF_5 | refine K.ints.alloc ?_ _ | refine K.ints.drew ?_ | refine K.ints.set ?_ _ ?_ _ | (dsimp only; omega) | omega | (simp; done) | (simp; omega))) (by omega) (by first | omega | (simp; done) | (simp; omega))
    · exact K.ints.mono (show K.ints _ (w4.heap.size) w5.heap.size (.slice oH H.pw.length kH) H.pw from by with_reducible repeat' (first | exact IH_5 | refine K.ints.alloc ?_ _ | refine K.ints.drew ?_ | refine K.ints.set ?_ _ ?_ _ | (dsimp only; omega) | omega | (simp; done) | (simp; omega))) (by omega) (by first | omega | (simp; done) | (simp; omega))
    · exact (show K.Src 164 _ _ from by with_reducible repeat' (first | exact s5 | refine K.Src.alloc ?_ _ | refine K.Src.drew ?_ | refine K.Src.setOther ?_ ?_ _ | (dsimp only; omega)))
    · exact (by with_reducible repeat' (first | exact F5 | refine K.Far.alloc ?_ _ | refine K.Far.setNew ?_ ?_ _ | refine K.Far.drew ?_ | (dsimp only; omega)))
  go_wp2_with fail
  refine bodyPost_ret (v := .agg #[.int .i64 F.dg, .int .i64 F.tn, .string F.nm, .slice oF F.pw.length kF, .int .i64 G.dg, .int .i64 G.tn, .string G.nm, .slice oG G.pw.length kG]) (by unfold results; rw [Try.results113]; go_simp) rfl ⟨⟨⟨F, G⟩, _, _, rfl, ⟨hx1, hmF⟩, ⟨hx2, hmG⟩, ?_, ?_⟩, ?_, ?_⟩
  · exact K.ints.mono (show K.ints _ (w.heap.size + 1) w1.heap.size (.slice oF F.pw.length kF) F.pw from by with_reducible repeat' (first | exact IF_4 | refine K.ints.alloc ?_ _ | refine K.ints.drew ?_ | refine K.ints.set ?_ _ ?_ _ | (dsimp only; omega) | omega | (simp; done) | (simp; omega))) (by omega) (by first | omega | (simp; done) | (simp; omega))
  · exact K.ints.mono (show K.ints _ (w1.heap.size) w2.heap.size (.slice oG G.pw.length kG) G.pw from by with_reducible repeat' (first | exact IG_4 | refine K.ints.alloc ?_ _ | refine K.ints.drew ?_ | refine K.ints.set ?_ _ ?_ _ | (dsimp only; omega) | omega | (simp; done) | (simp; omega))) (by omega) (by first | omega | (simp; done) | (simp; omega))
  · exact (show K.Src 164 _ _ from by with_reducible repeat' (first | exact s4 | refine K.Src.alloc ?_ _ | refine K.Src.drew ?_ | refine K.Src.setOther ?_ ?_ _ | (dsimp only; omega)))
  · exact (by with_reducible repeat' (first | exact F4 | refine K.Far.alloc ?_ _ | refine K.Far.setNew ?_ ?_ _ | refine K.Far.drew ?_ | (dsimp only; omega)))
set_option maxRecDepth 100000 in
set_option maxHeartbeats 12800000 in
theorem DrawSwapSides_any {hi n : Nat} {v : Value} (w : World) (hn : n ≤ 4096) (hh : hi ≤ w.heap.size) (h : K.byts w hi v n) :
    Calls Try.prog 37 #[v] w fun e w' => (∃ (E : Z.Eqn) (p q : Value), e = .returned (.agg #[.int .i64 E.L.dg, .int .i64 E.L.tn, .string E.L.nm, p, .int .i64 E.R.dg, .int .i64 E.R.tn, .string E.R.nm, q]) ∧ (E.L.nm.size ≤ 7 ∧ E.L.pw.length ≤ 6) ∧ (E.R.nm.size ≤ 7 ∧ E.R.pw.length ≤ 6) ∧ K.ints w' w.heap.size w'.heap.size p E.L.pw ∧ K.ints w' w.heap.size w'.heap.size q E.R.pw) ∧ K.Ext w w' := by
  have F0 : K.Ext w w := K.Ext.refl _
  go_enter Try.func37, Try.ntmps37
  go_wp2_with fail
  refine K.call (by with_reducible rfl) (by with_reducible rfl) (l01From_at (w.heap.size + 1) _ (by simp) hn (by omega) (h.ext (by repeat' (first | with_reducible exact F0 | with_reducible refine K.Ext.setCell ?_ ?_ _ | with_reducible refine K.Ext.alloc ?_ _ | with_reducible refine K.Ext.drew ?_ | (dsimp only; omega) | omega | (simp; omega))))) ?_
  rintro e w1 ⟨⟨rfl, s1⟩, f1⟩
  have z1 := f1.size
  (try simp at z1)
  have F1 : K.Ext w w1 := K.Ext.trans (by repeat' (first | with_reducible exact F0 | with_reducible refine K.Ext.setCell ?_ ?_ _ | with_reducible refine K.Ext.alloc ?_ _ | with_reducible refine K.Ext.drew ?_ | (dsimp only; omega) | omega | (simp; omega))) f1
  have c1_0_0 : w1.cell? ⟨w.heap.size, 0, none⟩ = some (.int .i64 0) := f1.cell_of (by go_simp)
  have d1_0_0 : w1.frozen? ⟨w.heap.size, 0, none⟩ = false := f1.thaw_of (by go_simp) (by go_simp)
  have c1_0_1 : w1.cell? ⟨w.heap.size, 1, none⟩ = some (.int .i64 0) := f1.cell_of (by go_simp)
  have d1_0_1 : w1.frozen? ⟨w.heap.size, 1, none⟩ = false := f1.thaw_of (by go_simp) (by go_simp)
  have c1_0_2 : w1.cell? ⟨w.heap.size, 2, none⟩ = some (.string ⟨#[]⟩) := f1.cell_of (by go_simp)
  have d1_0_2 : w1.frozen? ⟨w.heap.size, 2, none⟩ = false := f1.thaw_of (by go_simp) (by go_simp)
  have c1_0_3 : w1.cell? ⟨w.heap.size, 3, none⟩ = some (.slice none 0 0) := f1.cell_of (by go_simp)
  have d1_0_3 : w1.frozen? ⟨w.heap.size, 3, none⟩ = false := f1.thaw_of (by go_simp) (by go_simp)
  have c1_0_4 : w1.cell? ⟨w.heap.size, 4, none⟩ = some (.int .i64 0) := f1.cell_of (by go_simp)
  have d1_0_4 : w1.frozen? ⟨w.heap.size, 4, none⟩ = false := f1.thaw_of (by go_simp) (by go_simp)
  have c1_0_5 : w1.cell? ⟨w.heap.size, 5, none⟩ = some (.int .i64 0) := f1.cell_of (by go_simp)
  have d1_0_5 : w1.frozen? ⟨w.heap.size, 5, none⟩ = false := f1.thaw_of (by go_simp) (by go_simp)
  have c1_0_6 : w1.cell? ⟨w.heap.size, 6, none⟩ = some (.string ⟨#[]⟩) := f1.cell_of (by go_simp)
  have d1_0_6 : w1.frozen? ⟨w.heap.size, 6, none⟩ = false := f1.thaw_of (by go_simp) (by go_simp)
  have c1_0_7 : w1.cell? ⟨w.heap.size, 7, none⟩ = some (.slice none 0 0) := f1.cell_of (by go_simp)
  have d1_0_7 : w1.frozen? ⟨w.heap.size, 7, none⟩ = false := f1.thaw_of (by go_simp) (by go_simp)
  have y1_0 : w.heap.size < w1.heap.size := World.block_lt_of_cell? w1 _ c1_0_0
  have lg := s1.lt
  go_wp2_with fail
  refine K.call (by with_reducible rfl) (by with_reducible rfl) (l20Draw_any (w.heap.size + 1) _ (show K.Src 164 _ _ from by with_reducible repeat' (first | exact s1 | refine K.Src.alloc ?_ _ | refine K.Src.drew ?_ | refine K.Src.setOther ?_ ?_ _ | (dsimp only; omega)))) ?_
  rintro e w2 ⟨⟨E, pE, qE, rfl, ⟨hnE, hmE⟩, ⟨jnE, jmE⟩, hiE, jiE⟩, s2, f2⟩
  have z2 := f2.size
  (try simp at z2)
  have F2 : K.Ext w w2 := K.Far.ext (by repeat' (first | with_reducible exact F1 | with_reducible refine K.Ext.setCell ?_ ?_ _ | with_reducible refine K.Ext.alloc ?_ _ | with_reducible refine K.Ext.drew ?_ | (dsimp only; omega) | omega | (simp; omega))) f2 (by omega)
  have c2_0_0 : w2.cell? ⟨w.heap.size, 0, none⟩ = some (.int .i64 0) := f2.cell_of (by go_simp) (by (try dsimp only); omega)
  have d2_0_0 : w2.frozen? ⟨w.heap.size, 0, none⟩ = false := f2.thaw_of (by go_simp) (by go_simp) (by (try dsimp only); omega)
  have c2_0_1 : w2.cell? ⟨w.heap.size, 1, none⟩ = some (.int .i64 0) := f2.cell_of (by go_simp) (by (try dsimp only); omega)
  have d2_0_1 : w2.frozen? ⟨w.heap.size, 1, none⟩ = false := f2.thaw_of (by go_simp) (by go_simp) (by (try dsimp only); omega)
  have c2_0_2 : w2.cell? ⟨w.heap.size, 2, none⟩ = some (.string ⟨#[]⟩) := f2.cell_of (by go_simp) (by (try dsimp only); omega)
  have d2_0_2 : w2.frozen? ⟨w.heap.size, 2, none⟩ = false := f2.thaw_of (by go_simp) (by go_simp) (by (try dsimp only); omega)
  have c2_0_3 : w2.cell? ⟨w.heap.size, 3, none⟩ = some (.slice none 0 0) := f2.cell_of (by go_simp) (by (try dsimp only); omega)
  have d2_0_3 : w2.frozen? ⟨w.heap.size, 3, none⟩ = false := f2.thaw_of (by go_simp) (by go_simp) (by (try dsimp only); omega)
  have c2_0_4 : w2.cell? ⟨w.heap.size, 4, none⟩ = some (.int .i64 0) := f2.cell_of (by go_simp) (by (try dsimp only); omega)
  have d2_0_4 : w2.frozen? ⟨w.heap.size, 4, none⟩ = false := f2.thaw_of (by go_simp) (by go_simp) (by (try dsimp only); omega)
  have c2_0_5 : w2.cell? ⟨w.heap.size, 5, none⟩ = some (.int .i64 0) := f2.cell_of (by go_simp) (by (try dsimp only); omega)
  have d2_0_5 : w2.frozen? ⟨w.heap.size, 5, none⟩ = false := f2.thaw_of (by go_simp) (by go_simp) (by (try dsimp only); omega)
  have c2_0_6 : w2.cell? ⟨w.heap.size, 6, none⟩ = some (.string ⟨#[]⟩) := f2.cell_of (by go_simp) (by (try dsimp only); omega)
  have d2_0_6 : w2.frozen? ⟨w.heap.size, 6, none⟩ = false := f2.thaw_of (by go_simp) (by go_simp) (by (try dsimp only); omega)
  have c2_0_7 : w2.cell? ⟨w.heap.size, 7, none⟩ = some (.slice none 0 0) := f2.cell_of (by go_simp) (by (try dsimp only); omega)
  have d2_0_7 : w2.frozen? ⟨w.heap.size, 7, none⟩ = false := f2.thaw_of (by go_simp) (by go_simp) (by (try dsimp only); omega)
  have y2_0 : w.heap.size < w2.heap.size := World.block_lt_of_cell? w2 _ c2_0_0
  obtain ⟨oEL, kEL, rfl, _⟩ := id hiE
  obtain ⟨oER, kER, rfl, _⟩ := id jiE
  have IEL_2 : K.ints w2 (w1.heap.size) w2.heap.size (.slice oEL E.L.pw.length kEL) E.L.pw := hiE.mono (by simp) (Nat.le_refl _)
  have IER_2 : K.ints w2 (w1.heap.size) w2.heap.size (.slice oER E.R.pw.length kER) E.R.pw := jiE.mono (by simp) (Nat.le_refl _)
  clear hiE jiE
  go_wp2_with fail
  all_goals refine bodyPost_ret (v := .agg #[.int .i64 E.L.dg, .int .i64 E.L.tn, .string E.L.nm, .slice oEL E.L.pw.length kEL, .int .i64 E.R.dg, .int .i64 E.R.tn, .string E.R.nm, .slice oER E.R.pw.length kER]) (by unfold results; rw [Try.results37]; go_simp) rfl ⟨⟨E, _, _, rfl, ⟨hnE, hmE⟩, ⟨jnE, jmE⟩, K.ints.mono (show K.ints _ (w1.heap.size) w2.heap.size (.slice oEL E.L.pw.length kEL) E.L.pw from by with_reducible repeat' (first | exact IEL_2 | refine K.ints.alloc ?_ _ | refine K.ints.drew ?_ | refine K.ints.set ?_ _ ?_ _ | (dsimp only; omega) | omega | (simp; done) | (simp; omega))) (by omega) (by first | omega | (simp; done) | (simp; omega)), K.ints.mono (show K.ints _ (w1.heap.size) w2.heap.size (.slice oER E.R.pw.length kER) E.R.pw from by with_reducible repeat' (first | exact IER_2 | refine K.ints.alloc ?_ _ | refine K.ints.drew ?_ | refine K.ints.set ?_ _ ?_ _ | (dsimp only; omega) | omega | (simp; done) | (simp; omega))) (by omega) (by first | omega | (simp; done) | (simp; omega))⟩, (by repeat' (first | with_reducible exact F2 | with_reducible refine K.Ext.setCell ?_ ?_ _ | with_reducible refine K.Ext.alloc ?_ _ | with_reducible refine K.Ext.drew ?_ | (dsimp only; omega) | omega | (simp; omega)))⟩
set_option maxRecDepth 100000 in
set_option maxHeartbeats 12800000 in
theorem DrawQuotientFormula_any {hi n : Nat} {v : Value} (w : World) (hn : n ≤ 4096) (hh : hi ≤ w.heap.size) (h : K.byts w hi v n) :
    Calls Try.prog 43 #[v] w fun e w' => (∃ (E : Z.Eqn) (p q : Value), e = .returned (.agg #[.int .i64 E.L.dg, .int .i64 E.L.tn, .string E.L.nm, p, .int .i64 E.R.dg, .int .i64 E.R.tn, .string E.R.nm, q]) ∧ (E.L.nm.size ≤ 7 ∧ E.L.pw.length ≤ 6) ∧ (E.R.nm.size ≤ 7 ∧ E.R.pw.length ≤ 6) ∧ K.ints w' w.heap.size w'.heap.size p E.L.pw ∧ K.ints w' w.heap.size w'.heap.size q E.R.pw) ∧ K.Ext w w' := by
  have F0 : K.Ext w w := K.Ext.refl _
  go_enter Try.func43, Try.ntmps43
  go_wp2_with fail
  refine K.call (by with_reducible rfl) (by with_reducible rfl) (l01From_at (w.heap.size + 1) _ (by simp) hn (by omega) (h.ext (by repeat' (first | with_reducible exact F0 | with_reducible refine K.Ext.setCell ?_ ?_ _ | with_reducible refine K.Ext.alloc ?_ _ | with_reducible refine K.Ext.drew ?_ | (dsimp only; omega) | omega | (simp; omega))))) ?_
  rintro e w1 ⟨⟨rfl, s1⟩, f1⟩
  have z1 := f1.size
  (try simp at z1)
  have F1 : K.Ext w w1 := K.Ext.trans (by repeat' (first | with_reducible exact F0 | with_reducible refine K.Ext.setCell ?_ ?_ _ | with_reducible refine K.Ext.alloc ?_ _ | with_reducible refine K.Ext.drew ?_ | (dsimp only; omega) | omega | (simp; omega))) f1
  have c1_0_0 : w1.cell? ⟨w.heap.size, 0, none⟩ = some (.int .i64 0) := f1.cell_of (by go_simp)
  have d1_0_0 : w1.frozen? ⟨w.heap.size, 0, none⟩ = false := f1.thaw_of (by go_simp) (by go_simp)
  have c1_0_1 : w1.cell? ⟨w.heap.size, 1, none⟩ = some (.int .i64 0) := f1.cell_of (by go_simp)
  have d1_0_1 : w1.frozen? ⟨w.heap.size, 1, none⟩ = false := f1.thaw_of (by go_simp) (by go_simp)
  have c1_0_2 : w1.cell? ⟨w.heap.size, 2, none⟩ = some (.string ⟨#[]⟩) := f1.cell_of (by go_simp)
  have d1_0_2 : w1.frozen? ⟨w.heap.size, 2, none⟩ = false := f1.thaw_of (by go_simp) (by go_simp)
  have c1_0_3 : w1.cell? ⟨w.heap.size, 3, none⟩ = some (.slice none 0 0) := f1.cell_of (by go_simp)
  have d1_0_3 : w1.frozen? ⟨w.heap.size, 3, none⟩ = false := f1.thaw_of (by go_simp) (by go_simp)
  have c1_0_4 : w1.cell? ⟨w.heap.size, 4, none⟩ = some (.int .i64 0) := f1.cell_of (by go_simp)
  have d1_0_4 : w1.frozen? ⟨w.heap.size, 4, none⟩ = false := f1.thaw_of (by go_simp) (by go_simp)
  have c1_0_5 : w1.cell? ⟨w.heap.size, 5, none⟩ = some (.int .i64 0) := f1.cell_of (by go_simp)
  have d1_0_5 : w1.frozen? ⟨w.heap.size, 5, none⟩ = false := f1.thaw_of (by go_simp) (by go_simp)
  have c1_0_6 : w1.cell? ⟨w.heap.size, 6, none⟩ = some (.string ⟨#[]⟩) := f1.cell_of (by go_simp)
  have d1_0_6 : w1.frozen? ⟨w.heap.size, 6, none⟩ = false := f1.thaw_of (by go_simp) (by go_simp)
  have c1_0_7 : w1.cell? ⟨w.heap.size, 7, none⟩ = some (.slice none 0 0) := f1.cell_of (by go_simp)
  have d1_0_7 : w1.frozen? ⟨w.heap.size, 7, none⟩ = false := f1.thaw_of (by go_simp) (by go_simp)
  have y1_0 : w.heap.size < w1.heap.size := World.block_lt_of_cell? w1 _ c1_0_0
  have lg := s1.lt
  go_wp2_with fail
  refine K.call (by with_reducible rfl) (by with_reducible rfl) (l20Draw_any (w.heap.size + 1) _ (show K.Src 164 _ _ from by with_reducible repeat' (first | exact s1 | refine K.Src.alloc ?_ _ | refine K.Src.drew ?_ | refine K.Src.setOther ?_ ?_ _ | (dsimp only; omega)))) ?_
  rintro e w2 ⟨⟨E, pE, qE, rfl, ⟨hnE, hmE⟩, ⟨jnE, jmE⟩, hiE, jiE⟩, s2, f2⟩
  have z2 := f2.size
  (try simp at z2)
  have F2 : K.Ext w w2 := K.Far.ext (by repeat' (first | with_reducible exact F1 | with_reducible refine K.Ext.setCell ?_ ?_ _ | with_reducible refine K.Ext.alloc ?_ _ | with_reducible refine K.Ext.drew ?_ | (dsimp only; omega) | omega | (simp; omega))) f2 (by omega)
  have c2_0_0 : w2.cell? ⟨w.heap.size, 0, none⟩ = some (.int .i64 0) := f2.cell_of (by go_simp) (by (try dsimp only); omega)
  have d2_0_0 : w2.frozen? ⟨w.heap.size, 0, none⟩ = false := f2.thaw_of (by go_simp) (by go_simp) (by (try dsimp only); omega)
  have c2_0_1 : w2.cell? ⟨w.heap.size, 1, none⟩ = some (.int .i64 0) := f2.cell_of (by go_simp) (by (try dsimp only); omega)
  have d2_0_1 : w2.frozen? ⟨w.heap.size, 1, none⟩ = false := f2.thaw_of (by go_simp) (by go_simp) (by (try dsimp only); omega)
  have c2_0_2 : w2.cell? ⟨w.heap.size, 2, none⟩ = some (.string ⟨#[]⟩) := f2.cell_of (by go_simp) (by (try dsimp only); omega)
  have d2_0_2 : w2.frozen? ⟨w.heap.size, 2, none⟩ = false := f2.thaw_of (by go_simp) (by go_simp) (by (try dsimp only); omega)
  have c2_0_3 : w2.cell? ⟨w.heap.size, 3, none⟩ = some (.slice none 0 0) := f2.cell_of (by go_simp) (by (try dsimp only); omega)
  have d2_0_3 : w2.frozen? ⟨w.heap.size, 3, none⟩ = false := f2.thaw_of (by go_simp) (by go_simp) (by (try dsimp only); omega)
  have c2_0_4 : w2.cell? ⟨w.heap.size, 4, none⟩ = some (.int .i64 0) := f2.cell_of (by go_simp) (by (try dsimp only); omega)
  have d2_0_4 : w2.frozen? ⟨w.heap.size, 4, none⟩ = false := f2.thaw_of (by go_simp) (by go_simp) (by (try dsimp only); omega)
  have c2_0_5 : w2.cell? ⟨w.heap.size, 5, none⟩ = some (.int .i64 0) := f2.cell_of (by go_simp) (by (try dsimp only); omega)
  have d2_0_5 : w2.frozen? ⟨w.heap.size, 5, none⟩ = false := f2.thaw_of (by go_simp) (by go_simp) (by (try dsimp only); omega)
  have c2_0_6 : w2.cell? ⟨w.heap.size, 6, none⟩ = some (.string ⟨#[]⟩) := f2.cell_of (by go_simp) (by (try dsimp only); omega)
  have d2_0_6 : w2.frozen? ⟨w.heap.size, 6, none⟩ = false := f2.thaw_of (by go_simp) (by go_simp) (by (try dsimp only); omega)
  have c2_0_7 : w2.cell? ⟨w.heap.size, 7, none⟩ = some (.slice none 0 0) := f2.cell_of (by go_simp) (by (try dsimp only); omega)
  have d2_0_7 : w2.frozen? ⟨w.heap.size, 7, none⟩ = false := f2.thaw_of (by go_simp) (by go_simp) (by (try dsimp only); omega)
  have y2_0 : w.heap.size < w2.heap.size := World.block_lt_of_cell? w2 _ c2_0_0
  obtain ⟨oEL, kEL, rfl, _⟩ := id hiE
  obtain ⟨oER, kER, rfl, _⟩ := id jiE
  have IEL_2 : K.ints w2 (w1.heap.size) w2.heap.size (.slice oEL E.L.pw.length kEL) E.L.pw := hiE.mono (by simp) (Nat.le_refl _)
  have IER_2 : K.ints w2 (w1.heap.size) w2.heap.size (.slice oER E.R.pw.length kER) E.R.pw := jiE.mono (by simp) (Nat.le_refl _)
  clear hiE jiE
  go_wp2_with fail
  all_goals refine bodyPost_ret (v := .agg #[.int .i64 E.L.dg, .int .i64 E.L.tn, .string E.L.nm, .slice oEL E.L.pw.length kEL, .int .i64 E.R.dg, .int .i64 E.R.tn, .string E.R.nm, .slice oER E.R.pw.length kER]) (by unfold results; rw [Try.results43]; go_simp) rfl ⟨⟨E, _, _, rfl, ⟨hnE, hmE⟩, ⟨jnE, jmE⟩, K.ints.mono (show K.ints _ (w1.heap.size) w2.heap.size (.slice oEL E.L.pw.length kEL) E.L.pw from by with_reducible repeat' (first | exact IEL_2 | refine K.ints.alloc ?_ _ | refine K.ints.drew ?_ | refine K.ints.set ?_ _ ?_ _ | (dsimp only; omega) | omega | (simp; done) | (simp; omega))) (by omega) (by first | omega | (simp; done) | (simp; omega)), K.ints.mono (show K.ints _ (w1.heap.size) w2.heap.size (.slice oER E.R.pw.length kER) E.R.pw from by with_reducible repeat' (first | exact IER_2 | refine K.ints.alloc ?_ _ | refine K.ints.drew ?_ | refine K.ints.set ?_ _ ?_ _ | (dsimp only; omega) | omega | (simp; done) | (simp; omega))) (by omega) (by first | omega | (simp; done) | (simp; omega))⟩, (by repeat' (first | with_reducible exact F2 | with_reducible refine K.Ext.setCell ?_ ?_ _ | with_reducible refine K.Ext.alloc ?_ _ | with_reducible refine K.Ext.drew ?_ | (dsimp only; omega) | omega | (simp; omega)))⟩
set_option maxRecDepth 100000 in
set_option maxHeartbeats 12800000 in
theorem DrawTimesFormula_any {hi n : Nat} {v : Value} (w : World) (hn : n ≤ 4096) (hh : hi ≤ w.heap.size) (h : K.byts w hi v n) :
    Calls Try.prog 34 #[v] w fun e w' => (∃ (E : Z.Eqn) (p q : Value) (G : Z.Fm) (r : Value), e = .returned (.tuple #[.agg #[.int .i64 E.L.dg, .int .i64 E.L.tn, .string E.L.nm, p, .int .i64 E.R.dg, .int .i64 E.R.tn, .string E.R.nm, q], .agg #[.int .i64 G.dg, .int .i64 G.tn, .string G.nm, r]]) ∧ (E.L.nm.size ≤ 7 ∧ E.L.pw.length ≤ 6) ∧ (E.R.nm.size ≤ 7 ∧ E.R.pw.length ≤ 6) ∧ K.ints w' w.heap.size w'.heap.size p E.L.pw ∧ K.ints w' w.heap.size w'.heap.size q E.R.pw ∧ (G.nm.size ≤ 7 ∧ G.pw.length ≤ 6) ∧ K.ints w' w.heap.size w'.heap.size r G.pw) ∧ K.Ext w w' := by
  have F0 : K.Ext w w := K.Ext.refl _
  go_enter Try.func34, Try.ntmps34
  go_wp2_with fail
  refine K.call (by with_reducible rfl) (by with_reducible rfl) (l01From_at (w.heap.size + 1 + 1) _ (by simp) hn (by omega) (h.ext (by repeat' (first | with_reducible exact F0 | with_reducible refine K.Ext.setCell ?_ ?_ _ | with_reducible refine K.Ext.alloc ?_ _ | with_reducible refine K.Ext.drew ?_ | (dsimp only; omega) | omega | (simp; omega))))) ?_
  rintro e w1 ⟨⟨rfl, s1⟩, f1⟩
  have z1 := f1.size
  (try simp at z1)
  have F1 : K.Ext w w1 := K.Ext.trans (by repeat' (first | with_reducible exact F0 | with_reducible refine K.Ext.setCell ?_ ?_ _ | with_reducible refine K.Ext.alloc ?_ _ | with_reducible refine K.Ext.drew ?_ | (dsimp only; omega) | omega | (simp; omega))) f1
  have c1_0_0 : w1.cell? ⟨w.heap.size, 0, none⟩ = some (.int .i64 0) := f1.cell_of (by go_simp)
  have d1_0_0 : w1.frozen? ⟨w.heap.size, 0, none⟩ = false := f1.thaw_of (by go_simp) (by go_simp)
  have c1_0_1 : w1.cell? ⟨w.heap.size, 1, none⟩ = some (.int .i64 0) := f1.cell_of (by go_simp)
  have d1_0_1 : w1.frozen? ⟨w.heap.size, 1, none⟩ = false := f1.thaw_of (by go_simp) (by go_simp)
  have c1_0_2 : w1.cell? ⟨w.heap.size, 2, none⟩ = some (.string ⟨#[]⟩) := f1.cell_of (by go_simp)
  have d1_0_2 : w1.frozen? ⟨w.heap.size, 2, none⟩ = false := f1.thaw_of (by go_simp) (by go_simp)
  have c1_0_3 : w1.cell? ⟨w.heap.size, 3, none⟩ = some (.slice none 0 0) := f1.cell_of (by go_simp)
  have d1_0_3 : w1.frozen? ⟨w.heap.size, 3, none⟩ = false := f1.thaw_of (by go_simp) (by go_simp)
  have c1_0_4 : w1.cell? ⟨w.heap.size, 4, none⟩ = some (.int .i64 0) := f1.cell_of (by go_simp)
  have d1_0_4 : w1.frozen? ⟨w.heap.size, 4, none⟩ = false := f1.thaw_of (by go_simp) (by go_simp)
  have c1_0_5 : w1.cell? ⟨w.heap.size, 5, none⟩ = some (.int .i64 0) := f1.cell_of (by go_simp)
  have d1_0_5 : w1.frozen? ⟨w.heap.size, 5, none⟩ = false := f1.thaw_of (by go_simp) (by go_simp)
  have c1_0_6 : w1.cell? ⟨w.heap.size, 6, none⟩ = some (.string ⟨#[]⟩) := f1.cell_of (by go_simp)
  have d1_0_6 : w1.frozen? ⟨w.heap.size, 6, none⟩ = false := f1.thaw_of (by go_simp) (by go_simp)
  have c1_0_7 : w1.cell? ⟨w.heap.size, 7, none⟩ = some (.slice none 0 0) := f1.cell_of (by go_simp)
  have d1_0_7 : w1.frozen? ⟨w.heap.size, 7, none⟩ = false := f1.thaw_of (by go_simp) (by go_simp)
  have y1_0 : w.heap.size < w1.heap.size := World.block_lt_of_cell? w1 _ c1_0_0
  have c1_1_0 : w1.cell? ⟨w.heap.size + 1, 0, none⟩ = some (.int .i64 0) := f1.cell_of (by go_simp)
  have d1_1_0 : w1.frozen? ⟨w.heap.size + 1, 0, none⟩ = false := f1.thaw_of (by go_simp) (by go_simp)
  have c1_1_1 : w1.cell? ⟨w.heap.size + 1, 1, none⟩ = some (.int .i64 0) := f1.cell_of (by go_simp)
  have d1_1_1 : w1.frozen? ⟨w.heap.size + 1, 1, none⟩ = false := f1.thaw_of (by go_simp) (by go_simp)
  have c1_1_2 : w1.cell? ⟨w.heap.size + 1, 2, none⟩ = some (.string ⟨#[]⟩) := f1.cell_of (by go_simp)
  have d1_1_2 : w1.frozen? ⟨w.heap.size + 1, 2, none⟩ = false := f1.thaw_of (by go_simp) (by go_simp)
  have c1_1_3 : w1.cell? ⟨w.heap.size + 1, 3, none⟩ = some (.slice none 0 0) := f1.cell_of (by go_simp)
  have d1_1_3 : w1.frozen? ⟨w.heap.size + 1, 3, none⟩ = false := f1.thaw_of (by go_simp) (by go_simp)
  have y1_1 : w.heap.size + 1 < w1.heap.size := World.block_lt_of_cell? w1 _ c1_1_0
  have lg := s1.lt
  go_wp2_with fail
  refine K.call (by with_reducible rfl) (by with_reducible rfl) (l20Draw_any (w.heap.size + 1 + 1) _ (show K.Src 164 _ _ from by with_reducible repeat' (first | exact s1 | refine K.Src.alloc ?_ _ | refine K.Src.drew ?_ | refine K.Src.setOther ?_ ?_ _ | (dsimp only; omega)))) ?_
  rintro e w2 ⟨⟨E, pE, qE, rfl, ⟨hnE, hmE⟩, ⟨jnE, jmE⟩, hiE, jiE⟩, s2, f2⟩
  have z2 := f2.size
  (try simp at z2)
  have F2 : K.Ext w w2 := K.Far.ext (by repeat' (first | with_reducible exact F1 | with_reducible refine K.Ext.setCell ?_ ?_ _ | with_reducible refine K.Ext.alloc ?_ _ | with_reducible refine K.Ext.drew ?_ | (dsimp only; omega) | omega | (simp; omega))) f2 (by omega)
  have c2_0_0 : w2.cell? ⟨w.heap.size, 0, none⟩ = some (.int .i64 0) := f2.cell_of (by go_simp) (by (try dsimp only); omega)
  have d2_0_0 : w2.frozen? ⟨w.heap.size, 0, none⟩ = false := f2.thaw_of (by go_simp) (by go_simp) (by (try dsimp only); omega)
  have c2_0_1 : w2.cell? ⟨w.heap.size, 1, none⟩ = some (.int .i64 0) := f2.cell_of (by go_simp) (by (try dsimp only); omega)
  have d2_0_1 : w2.frozen? ⟨w.heap.size, 1, none⟩ = false := f2.thaw_of (by go_simp) (by go_simp) (by (try dsimp only); omega)
  have c2_0_2 : w2.cell? ⟨w.heap.size, 2, none⟩ = some (.string ⟨#[]⟩) := f2.cell_of (by go_simp) (by (try dsimp only); omega)
  have d2_0_2 : w2.frozen? ⟨w.heap.size, 2, none⟩ = false := f2.thaw_of (by go_simp) (by go_simp) (by (try dsimp only); omega)
  have c2_0_3 : w2.cell? ⟨w.heap.size, 3, none⟩ = some (.slice none 0 0) := f2.cell_of (by go_simp) (by (try dsimp only); omega)
  have d2_0_3 : w2.frozen? ⟨w.heap.size, 3, none⟩ = false := f2.thaw_of (by go_simp) (by go_simp) (by (try dsimp only); omega)
  have c2_0_4 : w2.cell? ⟨w.heap.size, 4, none⟩ = some (.int .i64 0) := f2.cell_of (by go_simp) (by (try dsimp only); omega)
  have d2_0_4 : w2.frozen? ⟨w.heap.size, 4, none⟩ = false := f2.thaw_of (by go_simp) (by go_simp) (by (try dsimp only); omega)
  have c2_0_5 : w2.cell? ⟨w.heap.size, 5, none⟩ = some (.int .i64 0) := f2.cell_of (by go_simp) (by (try dsimp only); omega)
  have d2_0_5 : w2.frozen? ⟨w.heap.size, 5, none⟩ = false := f2.thaw_of (by go_simp) (by go_simp) (by (try dsimp only); omega)
  have c2_0_6 : w2.cell? ⟨w.heap.size, 6, none⟩ = some (.string ⟨#[]⟩) := f2.cell_of (by go_simp) (by (try dsimp only); omega)
  have d2_0_6 : w2.frozen? ⟨w.heap.size, 6, none⟩ = false := f2.thaw_of (by go_simp) (by go_simp) (by (try dsimp only); omega)
  have c2_0_7 : w2.cell? ⟨w.heap.size, 7, none⟩ = some (.slice none 0 0) := f2.cell_of (by go_simp) (by (try dsimp only); omega)
  have d2_0_7 : w2.frozen? ⟨w.heap.size, 7, none⟩ = false := f2.thaw_of (by go_simp) (by go_simp) (by (try dsimp only); omega)
  have y2_0 : w.heap.size < w2.heap.size := World.block_lt_of_cell? w2 _ c2_0_0
  have c2_1_0 : w2.cell? ⟨w.heap.size + 1, 0, none⟩ = some (.int .i64 0) := f2.cell_of (by go_simp) (by (try dsimp only); omega)
  have d2_1_0 : w2.frozen? ⟨w.heap.size + 1, 0, none⟩ = false := f2.thaw_of (by go_simp) (by go_simp) (by (try dsimp only); omega)
  have c2_1_1 : w2.cell? ⟨w.heap.size + 1, 1, none⟩ = some (.int .i64 0) := f2.cell_of (by go_simp) (by (try dsimp only); omega)
  have d2_1_1 : w2.frozen? ⟨w.heap.size + 1, 1, none⟩ = false := f2.thaw_of (by go_simp) (by go_simp) (by (try dsimp only); omega)
  have c2_1_2 : w2.cell? ⟨w.heap.size + 1, 2, none⟩ = some (.string ⟨#[]⟩) := f2.cell_of (by go_simp) (by (try dsimp only); omega)
  have d2_1_2 : w2.frozen? ⟨w.heap.size + 1, 2, none⟩ = false := f2.thaw_of (by go_simp) (by go_simp) (by (try dsimp only); omega)
  have c2_1_3 : w2.cell? ⟨w.heap.size + 1, 3, none⟩ = some (.slice none 0 0) := f2.cell_of (by go_simp) (by (try dsimp only); omega)
  have d2_1_3 : w2.frozen? ⟨w.heap.size + 1, 3, none⟩ = false := f2.thaw_of (by go_simp) (by go_simp) (by (try dsimp only); omega)
  have y2_1 : w.heap.size + 1 < w2.heap.size := World.block_lt_of_cell? w2 _ c2_1_0
  obtain ⟨oEL, kEL, rfl, _⟩ := id hiE
  obtain ⟨oER, kER, rfl, _⟩ := id jiE
  have IEL_2 : K.ints w2 (w1.heap.size) w2.heap.size (.slice oEL E.L.pw.length kEL) E.L.pw := hiE.mono (by simp) (Nat.le_refl _)
  have IER_2 : K.ints w2 (w1.heap.size) w2.heap.size (.slice oER E.R.pw.length kER) E.R.pw := jiE.mono (by simp) (Nat.le_refl _)
  clear hiE jiE
  have uh_0_1 : w.heap.size < w2.heap.size + 1 := (by omega)
  have uh_1_1 : w.heap.size + 1 < w2.heap.size + 1 := (by omega)
  go_wp2_with fail
  have ne0_2 : ¬ (w.heap.size = w2.heap.size) := (by omega)
  have nf0_2 : ¬ (w2.heap.size = w.heap.size) := (by omega)
  have ne1_2 : ¬ (w.heap.size + 1 = w2.heap.size) := (by omega)
  have nf1_2 : ¬ (w2.heap.size = w.heap.size + 1) := (by omega)
  go_region_held3 (fun w' => w'.cell? ⟨w2.heap.size, 0, none⟩ = some (.int .i64 E.L.dg) ∧ w'.cell? ⟨w2.heap.size, 1, none⟩ = some (.int .i64 E.L.tn) ∧ w'.cell? ⟨w2.heap.size, 2, none⟩ = some (.string E.L.nm) ∧ w'.cell? ⟨w2.heap.size, 3, none⟩ = some (.slice oEL E.L.pw.length kEL) ∧ w'.cell? ⟨w2.heap.size, 4, none⟩ = some (.int .i64 E.R.dg) ∧ w'.cell? ⟨w2.heap.size, 5, none⟩ = some (.int .i64 E.R.tn) ∧ w'.cell? ⟨w2.heap.size, 6, none⟩ = some (.string E.R.nm) ∧ w'.cell? ⟨w2.heap.size, 7, none⟩ = some (.slice oER E.R.pw.length kER)) ((repeat' apply And.intro) <;> go_simp) ((go_at_call 87; refine K.call (by with_reducible rfl) (by with_reducible rfl) (l18Draw_any (w.heap.size + 1 + 1) _ (show K.Src 164 _ _ from by with_reducible repeat' (first | exact s2 | refine K.Src.alloc ?_ _ | refine K.Src.drew ?_ | refine K.Src.setOther ?_ ?_ _ | (dsimp only; omega)))) ?_; rintro e w3 ⟨⟨G, pG, rfl, hnG, hmG, hiG⟩, s3, f3⟩; have z3 := f3.size; (try simp at z3); have F3 : K.Ext w w3 := K.Far.ext (by repeat' (first | with_reducible exact F2 | with_reducible refine K.Ext.setCell ?_ ?_ _ | with_reducible refine K.Ext.alloc ?_ _ | with_reducible refine K.Ext.drew ?_ | (dsimp only; omega) | omega | (simp; omega))) f3 (by omega); have u3_0_1 : w.heap.size < w2.heap.size + 1 := (by omega); have u3_1_1 : w.heap.size + 1 < w2.heap.size + 1 := (by omega); have c3_0_0 : w3.cell? ⟨w.heap.size, 0, none⟩ = some (.int .i64 0) := f3.cell_of (by go_simp) (by (try dsimp only); omega); have d3_0_0 : w3.frozen? ⟨w.heap.size, 0, none⟩ = false := f3.thaw_of (by go_simp) (by go_simp) (by (try dsimp only); omega); have c3_0_1 : w3.cell? ⟨w.heap.size, 1, none⟩ = some (.int .i64 0) := f3.cell_of (by go_simp) (by (try dsimp only); omega); have d3_0_1 : w3.frozen? ⟨w.heap.size, 1, none⟩ = false := f3.thaw_of (by go_simp) (by go_simp) (by (try dsimp only); omega); have c3_0_2 : w3.cell? ⟨w.heap.size, 2, none⟩ = some (.string ⟨#[]⟩) := f3.cell_of (by go_simp) (by (try dsimp only); omega); have d3_0_2 : w3.frozen? ⟨w.heap.size, 2, none⟩ = false := f3.thaw_of (by go_simp) (by go_simp) (by (try dsimp only); omega); have c3_0_3 : w3.cell? ⟨w.heap.size, 3, none⟩ = some (.slice none 0 0) := f3.cell_of (by go_simp) (by (try dsimp only); omega); have d3_0_3 : w3.frozen? ⟨w.heap.size, 3, none⟩ = false := f3.thaw_of (by go_simp) (by go_simp) (by (try dsimp only); omega); have c3_0_4 : w3.cell? ⟨w.heap.size, 4, none⟩ = some (.int .i64 0) := f3.cell_of (by go_simp) (by (try dsimp only); omega); have d3_0_4 : w3.frozen? ⟨w.heap.size, 4, none⟩ = false := f3.thaw_of (by go_simp) (by go_simp) (by (try dsimp only); omega); have c3_0_5 : w3.cell? ⟨w.heap.size, 5, none⟩ = some (.int .i64 0) := f3.cell_of (by go_simp) (by (try dsimp only); omega); have d3_0_5 : w3.frozen? ⟨w.heap.size, 5, none⟩ = false := f3.thaw_of (by go_simp) (by go_simp) (by (try dsimp only); omega); have c3_0_6 : w3.cell? ⟨w.heap.size, 6, none⟩ = some (.string ⟨#[]⟩) := f3.cell_of (by go_simp) (by (try dsimp only); omega); have d3_0_6 : w3.frozen? ⟨w.heap.size, 6, none⟩ = false := f3.thaw_of (by go_simp) (by go_simp) (by (try dsimp only); omega); have c3_0_7 : w3.cell? ⟨w.heap.size, 7, none⟩ = some (.slice none 0 0) := f3.cell_of (by go_simp) (by (try dsimp only); omega); have d3_0_7 : w3.frozen? ⟨w.heap.size, 7, none⟩ = false := f3.thaw_of (by go_simp) (by go_simp) (by (try dsimp only); omega); have y3_0 : w.heap.size < w3.heap.size := World.block_lt_of_cell? w3 _ c3_0_0; have c3_1_0 : w3.cell? ⟨w.heap.size + 1, 0, none⟩ = some (.int .i64 0) := f3.cell_of (by go_simp) (by (try dsimp only); omega); have d3_1_0 : w3.frozen? ⟨w.heap.size + 1, 0, none⟩ = false := f3.thaw_of (by go_simp) (by go_simp) (by (try dsimp only); omega); have c3_1_1 : w3.cell? ⟨w.heap.size + 1, 1, none⟩ = some (.int .i64 0) := f3.cell_of (by go_simp) (by (try dsimp only); omega); have d3_1_1 : w3.frozen? ⟨w.heap.size + 1, 1, none⟩ = false := f3.thaw_of (by go_simp) (by go_simp) (by (try dsimp only); omega); have c3_1_2 : w3.cell? ⟨w.heap.size + 1, 2, none⟩ = some (.string ⟨#[]⟩) := f3.cell_of (by go_simp) (by (try dsimp only); omega); have d3_1_2 : w3.frozen? ⟨w.heap.size + 1, 2, none⟩ = false := f3.thaw_of (by go_simp) (by go_simp) (by (try dsimp only); omega); have c3_1_3 : w3.cell? ⟨w.heap.size + 1, 3, none⟩ = some (.slice none 0 0) := f3.cell_of (by go_simp) (by (try dsimp only); omega); have d3_1_3 : w3.frozen? ⟨w.heap.size + 1, 3, none⟩ = false := f3.thaw_of (by go_simp) (by go_simp) (by (try dsimp only); omega); have y3_1 : w.heap.size + 1 < w3.heap.size := World.block_lt_of_cell? w3 _ c3_1_0; have c3_2_0 : w3.cell? ⟨w2.heap.size, 0, none⟩ = some (.int .i64 E.L.dg) := f3.cell_of (by go_simp) (by (try dsimp only); omega); have d3_2_0 : w3.frozen? ⟨w2.heap.size, 0, none⟩ = false := f3.thaw_of (by go_simp) (by go_simp) (by (try dsimp only); omega); have c3_2_1 : w3.cell? ⟨w2.heap.size, 1, none⟩ = some (.int .i64 E.L.tn) := f3.cell_of (by go_simp) (by (try dsimp only); omega); have d3_2_1 : w3.frozen? ⟨w2.heap.size, 1, none⟩ = false := f3.thaw_of (by go_simp) (by go_simp) (by (try dsimp only); omega); have c3_2_2 : w3.cell? ⟨w2.heap.size, 2, none⟩ = some (.string E.L.nm) := f3.cell_of (by go_simp) (by (try dsimp only); omega); have d3_2_2 : w3.frozen? ⟨w2.heap.size, 2, none⟩ = false := f3.thaw_of (by go_simp) (by go_simp) (by (try dsimp only); omega); have c3_2_3 : w3.cell? ⟨w2.heap.size, 3, none⟩ = some (.slice oEL E.L.pw.length kEL) := f3.cell_of (by go_simp) (by (try dsimp only); omega); have d3_2_3 : w3.frozen? ⟨w2.heap.size, 3, none⟩ = false := f3.thaw_of (by go_simp) (by go_simp) (by (try dsimp only); omega); have c3_2_4 : w3.cell? ⟨w2.heap.size, 4, none⟩ = some (.int .i64 E.R.dg) := f3.cell_of (by go_simp) (by (try dsimp only); omega); have d3_2_4 : w3.frozen? ⟨w2.heap.size, 4, none⟩ = false := f3.thaw_of (by go_simp) (by go_simp) (by (try dsimp only); omega); have c3_2_5 : w3.cell? ⟨w2.heap.size, 5, none⟩ = some (.int .i64 E.R.tn) := f3.cell_of (by go_simp) (by (try dsimp only); omega); have d3_2_5 : w3.frozen? ⟨w2.heap.size, 5, none⟩ = false := f3.thaw_of (by go_simp) (by go_simp) (by (try dsimp only); omega); have c3_2_6 : w3.cell? ⟨w2.heap.size, 6, none⟩ = some (.string E.R.nm) := f3.cell_of (by go_simp) (by (try dsimp only); omega); have d3_2_6 : w3.frozen? ⟨w2.heap.size, 6, none⟩ = false := f3.thaw_of (by go_simp) (by go_simp) (by (try dsimp only); omega); have c3_2_7 : w3.cell? ⟨w2.heap.size, 7, none⟩ = some (.slice oER E.R.pw.length kER) := f3.cell_of (by go_simp) (by (try dsimp only); omega); have d3_2_7 : w3.frozen? ⟨w2.heap.size, 7, none⟩ = false := f3.thaw_of (by go_simp) (by go_simp) (by (try dsimp only); omega); have y3_2 : w2.heap.size < w3.heap.size := World.block_lt_of_cell? w3 _ c3_2_0; have IEL_3 := K.ints.far (show K.ints _ (w1.heap.size) w2.heap.size (.slice oEL E.L.pw.length kEL) E.L.pw from by with_reducible repeat' (first | exact IEL_2 | refine K.ints.alloc ?_ _ | refine K.ints.drew ?_ | refine K.ints.set ?_ _ ?_ _ | (dsimp only; omega) | omega | (simp; done) | (simp; omega))) f3 (by first | exact .inl (by omega) | exact .inr (by omega)); have IER_3 := K.ints.far (show K.ints _ (w1.heap.size) w2.heap.size (.slice oER E.R.pw.length kER) E.R.pw from by with_reducible repeat' (first | exact IER_2 | refine K.ints.alloc ?_ _ | refine K.ints.drew ?_ | refine K.ints.set ?_ _ ?_ _ | (dsimp only; omega) | omega | (simp; done) | (simp; omega))) f3 (by first | exact .inl (by omega) | exact .inr (by omega)); obtain ⟨oG, kG, rfl, _⟩ := id hiG; have IG_3 : K.ints w3 (w2.heap.size + 1) w3.heap.size (.slice oG G.pw.length kG) G.pw := hiG.mono (by simp) (Nat.le_refl _); clear hiG))
  go_wp2_with fail
  all_goals refine bodyPost_ret (v := .tuple #[.agg #[.int .i64 E.L.dg, .int .i64 E.L.tn, .string E.L.nm, .slice oEL E.L.pw.length kEL, .int .i64 E.R.dg, .int .i64 E.R.tn, .string E.R.nm, .slice oER E.R.pw.length kER], .agg #[.int .i64 G.dg, .int .i64 G.tn, .string G.nm, .slice oG G.pw.length kG]]) (by unfold results; rw [Try.results34]; go_simp) rfl ⟨⟨E, _, _, G, _, rfl, ⟨hnE, hmE⟩, ⟨jnE, jmE⟩, K.ints.mono (show K.ints _ (w1.heap.size) w2.heap.size (.slice oEL E.L.pw.length kEL) E.L.pw from by with_reducible repeat' (first | exact IEL_3 | refine K.ints.alloc ?_ _ | refine K.ints.drew ?_ | refine K.ints.set ?_ _ ?_ _ | (dsimp only; omega) | omega | (simp; done) | (simp; omega))) (by omega) (by first | omega | (simp; done) | (simp; omega)), K.ints.mono (show K.ints _ (w1.heap.size) w2.heap.size (.slice oER E.R.pw.length kER) E.R.pw from by with_reducible repeat' (first | exact IER_3 | refine K.ints.alloc ?_ _ | refine K.ints.drew ?_ | refine K.ints.set ?_ _ ?_ _ | (dsimp only; omega) | omega | (simp; done) | (simp; omega))) (by omega) (by first | omega | (simp; done) | (simp; omega)), ⟨hnG, hmG⟩, K.ints.mono (show K.ints _ (w2.heap.size + 1) w3.heap.size (.slice oG G.pw.length kG) G.pw from by with_reducible repeat' (first | exact IG_3 | refine K.ints.alloc ?_ _ | refine K.ints.drew ?_ | refine K.ints.set ?_ _ ?_ _ | (dsimp only; omega) | omega | (simp; done) | (simp; omega))) (by omega) (by first | omega | (simp; done) | (simp; omega))⟩, (by repeat' (first | with_reducible exact F3 | with_reducible refine K.Ext.setCell ?_ ?_ _ | with_reducible refine K.Ext.alloc ?_ _ | with_reducible refine K.Ext.drew ?_ | (dsimp only; omega) | omega | (simp; omega)))⟩
set_option maxRecDepth 100000 in
set_option maxHeartbeats 12800000 in
theorem DrawRaiseSides_any {hi n : Nat} {v : Value} (w : World) (hn : n ≤ 4096) (hh : hi ≤ w.heap.size) (h : K.byts w hi v n) :
    Calls Try.prog 40 #[v] w fun e w' => (∃ (E : Z.Eqn) (p q : Value) (c : Int), e = .returned (.tuple #[.agg #[.int .i64 E.L.dg, .int .i64 E.L.tn, .string E.L.nm, p, .int .i64 E.R.dg, .int .i64 E.R.tn, .string E.R.nm, q], .int .i64 c]) ∧ (E.L.nm.size ≤ 7 ∧ E.L.pw.length ≤ 6) ∧ (E.R.nm.size ≤ 7 ∧ E.R.pw.length ≤ 6) ∧ K.ints w' w.heap.size w'.heap.size p E.L.pw ∧ K.ints w' w.heap.size w'.heap.size q E.R.pw ∧ -4 ≤ c ∧ c ≤ 4) ∧ K.Ext w w' := by
  have F0 : K.Ext w w := K.Ext.refl _
  go_enter Try.func40, Try.ntmps40
  go_wp2_with fail
  refine K.call (by with_reducible rfl) (by with_reducible rfl) (l01From_at (w.heap.size + 1) _ (by simp) hn (by omega) (h.ext (by repeat' (first | with_reducible exact F0 | with_reducible refine K.Ext.setCell ?_ ?_ _ | with_reducible refine K.Ext.alloc ?_ _ | with_reducible refine K.Ext.drew ?_ | (dsimp only; omega) | omega | (simp; omega))))) ?_
  rintro e w1 ⟨⟨rfl, s1⟩, f1⟩
  have z1 := f1.size
  (try simp at z1)
  have F1 : K.Ext w w1 := K.Ext.trans (by repeat' (first | with_reducible exact F0 | with_reducible refine K.Ext.setCell ?_ ?_ _ | with_reducible refine K.Ext.alloc ?_ _ | with_reducible refine K.Ext.drew ?_ | (dsimp only; omega) | omega | (simp; omega))) f1
  have c1_0_0 : w1.cell? ⟨w.heap.size, 0, none⟩ = some (.int .i64 0) := f1.cell_of (by go_simp)
  have d1_0_0 : w1.frozen? ⟨w.heap.size, 0, none⟩ = false := f1.thaw_of (by go_simp) (by go_simp)
  have c1_0_1 : w1.cell? ⟨w.heap.size, 1, none⟩ = some (.int .i64 0) := f1.cell_of (by go_simp)
  have d1_0_1 : w1.frozen? ⟨w.heap.size, 1, none⟩ = false := f1.thaw_of (by go_simp) (by go_simp)
  have c1_0_2 : w1.cell? ⟨w.heap.size, 2, none⟩ = some (.string ⟨#[]⟩) := f1.cell_of (by go_simp)
  have d1_0_2 : w1.frozen? ⟨w.heap.size, 2, none⟩ = false := f1.thaw_of (by go_simp) (by go_simp)
  have c1_0_3 : w1.cell? ⟨w.heap.size, 3, none⟩ = some (.slice none 0 0) := f1.cell_of (by go_simp)
  have d1_0_3 : w1.frozen? ⟨w.heap.size, 3, none⟩ = false := f1.thaw_of (by go_simp) (by go_simp)
  have c1_0_4 : w1.cell? ⟨w.heap.size, 4, none⟩ = some (.int .i64 0) := f1.cell_of (by go_simp)
  have d1_0_4 : w1.frozen? ⟨w.heap.size, 4, none⟩ = false := f1.thaw_of (by go_simp) (by go_simp)
  have c1_0_5 : w1.cell? ⟨w.heap.size, 5, none⟩ = some (.int .i64 0) := f1.cell_of (by go_simp)
  have d1_0_5 : w1.frozen? ⟨w.heap.size, 5, none⟩ = false := f1.thaw_of (by go_simp) (by go_simp)
  have c1_0_6 : w1.cell? ⟨w.heap.size, 6, none⟩ = some (.string ⟨#[]⟩) := f1.cell_of (by go_simp)
  have d1_0_6 : w1.frozen? ⟨w.heap.size, 6, none⟩ = false := f1.thaw_of (by go_simp) (by go_simp)
  have c1_0_7 : w1.cell? ⟨w.heap.size, 7, none⟩ = some (.slice none 0 0) := f1.cell_of (by go_simp)
  have d1_0_7 : w1.frozen? ⟨w.heap.size, 7, none⟩ = false := f1.thaw_of (by go_simp) (by go_simp)
  have y1_0 : w.heap.size < w1.heap.size := World.block_lt_of_cell? w1 _ c1_0_0
  have lg := s1.lt
  go_wp2_with fail
  refine K.call (by with_reducible rfl) (by with_reducible rfl) (l20Draw_any (w.heap.size + 1) _ (show K.Src 164 _ _ from by with_reducible repeat' (first | exact s1 | refine K.Src.alloc ?_ _ | refine K.Src.drew ?_ | refine K.Src.setOther ?_ ?_ _ | (dsimp only; omega)))) ?_
  rintro e w2 ⟨⟨E, pE, qE, rfl, ⟨hnE, hmE⟩, ⟨jnE, jmE⟩, hiE, jiE⟩, s2, f2⟩
  have z2 := f2.size
  (try simp at z2)
  have F2 : K.Ext w w2 := K.Far.ext (by repeat' (first | with_reducible exact F1 | with_reducible refine K.Ext.setCell ?_ ?_ _ | with_reducible refine K.Ext.alloc ?_ _ | with_reducible refine K.Ext.drew ?_ | (dsimp only; omega) | omega | (simp; omega))) f2 (by omega)
  have c2_0_0 : w2.cell? ⟨w.heap.size, 0, none⟩ = some (.int .i64 0) := f2.cell_of (by go_simp) (by (try dsimp only); omega)
  have d2_0_0 : w2.frozen? ⟨w.heap.size, 0, none⟩ = false := f2.thaw_of (by go_simp) (by go_simp) (by (try dsimp only); omega)
  have c2_0_1 : w2.cell? ⟨w.heap.size, 1, none⟩ = some (.int .i64 0) := f2.cell_of (by go_simp) (by (try dsimp only); omega)
  have d2_0_1 : w2.frozen? ⟨w.heap.size, 1, none⟩ = false := f2.thaw_of (by go_simp) (by go_simp) (by (try dsimp only); omega)
  have c2_0_2 : w2.cell? ⟨w.heap.size, 2, none⟩ = some (.string ⟨#[]⟩) := f2.cell_of (by go_simp) (by (try dsimp only); omega)
  have d2_0_2 : w2.frozen? ⟨w.heap.size, 2, none⟩ = false := f2.thaw_of (by go_simp) (by go_simp) (by (try dsimp only); omega)
  have c2_0_3 : w2.cell? ⟨w.heap.size, 3, none⟩ = some (.slice none 0 0) := f2.cell_of (by go_simp) (by (try dsimp only); omega)
  have d2_0_3 : w2.frozen? ⟨w.heap.size, 3, none⟩ = false := f2.thaw_of (by go_simp) (by go_simp) (by (try dsimp only); omega)
  have c2_0_4 : w2.cell? ⟨w.heap.size, 4, none⟩ = some (.int .i64 0) := f2.cell_of (by go_simp) (by (try dsimp only); omega)
  have d2_0_4 : w2.frozen? ⟨w.heap.size, 4, none⟩ = false := f2.thaw_of (by go_simp) (by go_simp) (by (try dsimp only); omega)
  have c2_0_5 : w2.cell? ⟨w.heap.size, 5, none⟩ = some (.int .i64 0) := f2.cell_of (by go_simp) (by (try dsimp only); omega)
  have d2_0_5 : w2.frozen? ⟨w.heap.size, 5, none⟩ = false := f2.thaw_of (by go_simp) (by go_simp) (by (try dsimp only); omega)
  have c2_0_6 : w2.cell? ⟨w.heap.size, 6, none⟩ = some (.string ⟨#[]⟩) := f2.cell_of (by go_simp) (by (try dsimp only); omega)
  have d2_0_6 : w2.frozen? ⟨w.heap.size, 6, none⟩ = false := f2.thaw_of (by go_simp) (by go_simp) (by (try dsimp only); omega)
  have c2_0_7 : w2.cell? ⟨w.heap.size, 7, none⟩ = some (.slice none 0 0) := f2.cell_of (by go_simp) (by (try dsimp only); omega)
  have d2_0_7 : w2.frozen? ⟨w.heap.size, 7, none⟩ = false := f2.thaw_of (by go_simp) (by go_simp) (by (try dsimp only); omega)
  have y2_0 : w.heap.size < w2.heap.size := World.block_lt_of_cell? w2 _ c2_0_0
  obtain ⟨oEL, kEL, rfl, _⟩ := id hiE
  obtain ⟨oER, kER, rfl, _⟩ := id jiE
  have IEL_2 : K.ints w2 (w1.heap.size) w2.heap.size (.slice oEL E.L.pw.length kEL) E.L.pw := hiE.mono (by simp) (Nat.le_refl _)
  have IER_2 : K.ints w2 (w1.heap.size) w2.heap.size (.slice oER E.R.pw.length kER) E.R.pw := jiE.mono (by simp) (Nat.le_refl _)
  clear hiE jiE
  have uh_0_1 : w.heap.size < w2.heap.size + 1 := (by omega)
  go_wp2_with fail
  have ne0_1 : ¬ (w.heap.size = w2.heap.size) := (by omega)
  have nf0_1 : ¬ (w2.heap.size = w.heap.size) := (by omega)
  go_region_held3 (fun w' => w'.cell? ⟨w2.heap.size, 0, none⟩ = some (.int .i64 E.L.dg) ∧ w'.cell? ⟨w2.heap.size, 1, none⟩ = some (.int .i64 E.L.tn) ∧ w'.cell? ⟨w2.heap.size, 2, none⟩ = some (.string E.L.nm) ∧ w'.cell? ⟨w2.heap.size, 3, none⟩ = some (.slice oEL E.L.pw.length kEL) ∧ w'.cell? ⟨w2.heap.size, 4, none⟩ = some (.int .i64 E.R.dg) ∧ w'.cell? ⟨w2.heap.size, 5, none⟩ = some (.int .i64 E.R.tn) ∧ w'.cell? ⟨w2.heap.size, 6, none⟩ = some (.string E.R.nm) ∧ w'.cell? ⟨w2.heap.size, 7, none⟩ = some (.slice oER E.R.pw.length kER)) ((repeat' apply And.intro) <;> go_simp) ((go_at_call 83; refine K.call (by with_reducible rfl) (by with_reducible rfl) (l01Next_any (w.heap.size + 1) (9) _ (show K.Src 164 _ _ from by with_reducible repeat' (first | exact s2 | refine K.Src.alloc ?_ _ | refine K.Src.drew ?_ | refine K.Src.setOther ?_ ?_ _ | (dsimp only; omega)))) ?_; rintro e w3 ⟨⟨r, rfl, r0, r1, r2⟩, s3, f3⟩; have z3 := f3.size; (try simp at z3); have F3 : K.Ext w w3 := K.Far.ext (by repeat' (first | with_reducible exact F2 | with_reducible refine K.Ext.setCell ?_ ?_ _ | with_reducible refine K.Ext.alloc ?_ _ | with_reducible refine K.Ext.drew ?_ | (dsimp only; omega) | omega | (simp; omega))) f3 (by omega); have u3_0_1 : w.heap.size < w2.heap.size + 1 := (by omega); have c3_0_0 : w3.cell? ⟨w.heap.size, 0, none⟩ = some (.int .i64 0) := f3.cell_of (by go_simp) (by (try dsimp only); omega); have d3_0_0 : w3.frozen? ⟨w.heap.size, 0, none⟩ = false := f3.thaw_of (by go_simp) (by go_simp) (by (try dsimp only); omega); have c3_0_1 : w3.cell? ⟨w.heap.size, 1, none⟩ = some (.int .i64 0) := f3.cell_of (by go_simp) (by (try dsimp only); omega); have d3_0_1 : w3.frozen? ⟨w.heap.size, 1, none⟩ = false := f3.thaw_of (by go_simp) (by go_simp) (by (try dsimp only); omega); have c3_0_2 : w3.cell? ⟨w.heap.size, 2, none⟩ = some (.string ⟨#[]⟩) := f3.cell_of (by go_simp) (by (try dsimp only); omega); have d3_0_2 : w3.frozen? ⟨w.heap.size, 2, none⟩ = false := f3.thaw_of (by go_simp) (by go_simp) (by (try dsimp only); omega); have c3_0_3 : w3.cell? ⟨w.heap.size, 3, none⟩ = some (.slice none 0 0) := f3.cell_of (by go_simp) (by (try dsimp only); omega); have d3_0_3 : w3.frozen? ⟨w.heap.size, 3, none⟩ = false := f3.thaw_of (by go_simp) (by go_simp) (by (try dsimp only); omega); have c3_0_4 : w3.cell? ⟨w.heap.size, 4, none⟩ = some (.int .i64 0) := f3.cell_of (by go_simp) (by (try dsimp only); omega); have d3_0_4 : w3.frozen? ⟨w.heap.size, 4, none⟩ = false := f3.thaw_of (by go_simp) (by go_simp) (by (try dsimp only); omega); have c3_0_5 : w3.cell? ⟨w.heap.size, 5, none⟩ = some (.int .i64 0) := f3.cell_of (by go_simp) (by (try dsimp only); omega); have d3_0_5 : w3.frozen? ⟨w.heap.size, 5, none⟩ = false := f3.thaw_of (by go_simp) (by go_simp) (by (try dsimp only); omega); have c3_0_6 : w3.cell? ⟨w.heap.size, 6, none⟩ = some (.string ⟨#[]⟩) := f3.cell_of (by go_simp) (by (try dsimp only); omega); have d3_0_6 : w3.frozen? ⟨w.heap.size, 6, none⟩ = false := f3.thaw_of (by go_simp) (by go_simp) (by (try dsimp only); omega); have c3_0_7 : w3.cell? ⟨w.heap.size, 7, none⟩ = some (.slice none 0 0) := f3.cell_of (by go_simp) (by (try dsimp only); omega); have d3_0_7 : w3.frozen? ⟨w.heap.size, 7, none⟩ = false := f3.thaw_of (by go_simp) (by go_simp) (by (try dsimp only); omega); have y3_0 : w.heap.size < w3.heap.size := World.block_lt_of_cell? w3 _ c3_0_0; have c3_1_0 : w3.cell? ⟨w2.heap.size, 0, none⟩ = some (.int .i64 E.L.dg) := f3.cell_of (by go_simp) (by (try dsimp only); omega); have d3_1_0 : w3.frozen? ⟨w2.heap.size, 0, none⟩ = false := f3.thaw_of (by go_simp) (by go_simp) (by (try dsimp only); omega); have c3_1_1 : w3.cell? ⟨w2.heap.size, 1, none⟩ = some (.int .i64 E.L.tn) := f3.cell_of (by go_simp) (by (try dsimp only); omega); have d3_1_1 : w3.frozen? ⟨w2.heap.size, 1, none⟩ = false := f3.thaw_of (by go_simp) (by go_simp) (by (try dsimp only); omega); have c3_1_2 : w3.cell? ⟨w2.heap.size, 2, none⟩ = some (.string E.L.nm) := f3.cell_of (by go_simp) (by (try dsimp only); omega); have d3_1_2 : w3.frozen? ⟨w2.heap.size, 2, none⟩ = false := f3.thaw_of (by go_simp) (by go_simp) (by (try dsimp only); omega); have c3_1_3 : w3.cell? ⟨w2.heap.size, 3, none⟩ = some (.slice oEL E.L.pw.length kEL) := f3.cell_of (by go_simp) (by (try dsimp only); omega); have d3_1_3 : w3.frozen? ⟨w2.heap.size, 3, none⟩ = false := f3.thaw_of (by go_simp) (by go_simp) (by (try dsimp only); omega); have c3_1_4 : w3.cell? ⟨w2.heap.size, 4, none⟩ = some (.int .i64 E.R.dg) := f3.cell_of (by go_simp) (by (try dsimp only); omega); have d3_1_4 : w3.frozen? ⟨w2.heap.size, 4, none⟩ = false := f3.thaw_of (by go_simp) (by go_simp) (by (try dsimp only); omega); have c3_1_5 : w3.cell? ⟨w2.heap.size, 5, none⟩ = some (.int .i64 E.R.tn) := f3.cell_of (by go_simp) (by (try dsimp only); omega); have d3_1_5 : w3.frozen? ⟨w2.heap.size, 5, none⟩ = false := f3.thaw_of (by go_simp) (by go_simp) (by (try dsimp only); omega); have c3_1_6 : w3.cell? ⟨w2.heap.size, 6, none⟩ = some (.string E.R.nm) := f3.cell_of (by go_simp) (by (try dsimp only); omega); have d3_1_6 : w3.frozen? ⟨w2.heap.size, 6, none⟩ = false := f3.thaw_of (by go_simp) (by go_simp) (by (try dsimp only); omega); have c3_1_7 : w3.cell? ⟨w2.heap.size, 7, none⟩ = some (.slice oER E.R.pw.length kER) := f3.cell_of (by go_simp) (by (try dsimp only); omega); have d3_1_7 : w3.frozen? ⟨w2.heap.size, 7, none⟩ = false := f3.thaw_of (by go_simp) (by go_simp) (by (try dsimp only); omega); have y3_1 : w2.heap.size < w3.heap.size := World.block_lt_of_cell? w3 _ c3_1_0; have IEL_3 := K.ints.far (show K.ints _ (w1.heap.size) w2.heap.size (.slice oEL E.L.pw.length kEL) E.L.pw from by with_reducible repeat' (first | exact IEL_2 | refine K.ints.alloc ?_ _ | refine K.ints.drew ?_ | refine K.ints.set ?_ _ ?_ _ | (dsimp only; omega) | omega | (simp; done) | (simp; omega))) f3 (by first | exact .inl (by omega) | exact .inr (by omega)); have IER_3 := K.ints.far (show K.ints _ (w1.heap.size) w2.heap.size (.slice oER E.R.pw.length kER) E.R.pw from by with_reducible repeat' (first | exact IER_2 | refine K.ints.alloc ?_ _ | refine K.ints.drew ?_ | refine K.ints.set ?_ _ ?_ _ | (dsimp only; omega) | omega | (simp; done) | (simp; omega))) f3 (by first | exact .inl (by omega) | exact .inr (by omega)); have qr : IntKind.i64.wrap (r - 4) = r - 4 := IntWalk.i64_in _ (by omega)))
  go_wp2_with fail
  all_goals refine bodyPost_ret (v := .tuple #[.agg #[.int .i64 E.L.dg, .int .i64 E.L.tn, .string E.L.nm, .slice oEL E.L.pw.length kEL, .int .i64 E.R.dg, .int .i64 E.R.tn, .string E.R.nm, .slice oER E.R.pw.length kER], .int .i64 (r - 4)]) (by unfold results; rw [Try.results40]; go_simp) rfl ⟨⟨E, _, _, r - 4, rfl, ⟨hnE, hmE⟩, ⟨jnE, jmE⟩, K.ints.mono (show K.ints _ (w1.heap.size) w2.heap.size (.slice oEL E.L.pw.length kEL) E.L.pw from by with_reducible repeat' (first | exact IEL_3 | refine K.ints.alloc ?_ _ | refine K.ints.drew ?_ | refine K.ints.set ?_ _ ?_ _ | (dsimp only; omega) | omega | (simp; done) | (simp; omega))) (by omega) (by first | omega | (simp; done) | (simp; omega)), K.ints.mono (show K.ints _ (w1.heap.size) w2.heap.size (.slice oER E.R.pw.length kER) E.R.pw from by with_reducible repeat' (first | exact IER_3 | refine K.ints.alloc ?_ _ | refine K.ints.drew ?_ | refine K.ints.set ?_ _ ?_ _ | (dsimp only; omega) | omega | (simp; done) | (simp; omega))) (by omega) (by first | omega | (simp; done) | (simp; omega)), by omega, by omega⟩, (by repeat' (first | with_reducible exact F3 | with_reducible refine K.Ext.setCell ?_ ?_ _ | with_reducible refine K.Ext.alloc ?_ _ | with_reducible refine K.Ext.drew ?_ | (dsimp only; omega) | omega | (simp; omega)))⟩
end Go.Proofs.Ythmnlbgbacbocaa
