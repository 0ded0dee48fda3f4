/-
  Part 2 of the texts of this claim: contracts of functions and plain mathematics.
-/
import Derived.Test.YtmgocfdhngeeiaaGreatDoorPIS1
import Derived.Lib.Strings
import Derived.Lib.Walk
import Derived.Laws.Pointers
import Derived.OneCell
set_option linter.unusedVariables false
section
namespace Go.Proofs.YtmgocfdhngeeiaaGreatDoor
open Go.RowKit
set_option maxRecDepth 100000 in
set_option maxHeartbeats 12800000 in
theorem l20Draw_any (g : Nat) (w : World) (h : K.Src 104 w g) :
    Calls Tryz.prog 64 #[.pointer (some ⟨g, 0, none⟩)] w fun e w' => (∃ (E : Z.Eqn) (p q : Value), e = .returned (.agg #[.int .i64 E.L.dg, .int .i64 E.L.tn, .string E.L.nm, p, .int .i64 E.R.dg, .int .i64 E.R.tn, .string E.R.nm, q]) ∧ (E.L.nm.size ≤ 7 ∧ E.L.pw.length ≤ 6) ∧ (E.R.nm.size ≤ 7 ∧ E.R.pw.length ≤ 6) ∧ K.ints w' w.heap.size w'.heap.size p E.L.pw ∧ K.ints w' w.heap.size w'.heap.size q E.R.pw) ∧ K.Src 104 w' g ∧ K.Far g (g + 1) w w' := by
  have lg := h.lt
  have F0 : K.Far g (g + 1) w w := K.Far.refl _ _ _
  go_enter Tryz.func64, Tryz.ntmps64
  go_wp2_with fail
  refine K.call (by with_reducible rfl) (by with_reducible rfl) (l18Valid_any g _ (K.bsr h)) ?_
  rintro e w1 ⟨⟨F, pF, rfl, hnF, hmF, hiF⟩, s1, f1⟩
  have z1 := f1.size
  (try simp at z1)
  have F1 : K.Far g (g + 1) w w1 := K.Far.trans (K.bfa F0) f1
  have c1_0_0 : w1.cell? ⟨w.heap.size, 0, none⟩ = some (.int .i64 0) := f1.cell_of (by go_simp) (by (try dsimp only); omega)
  have d1_0_0 : w1.frozen? ⟨w.heap.size, 0, none⟩ = false := f1.thaw_of (by go_simp) (by go_simp) (by (try dsimp only); omega)
  have c1_0_1 : w1.cell? ⟨w.heap.size, 1, none⟩ = some (.int .i64 0) := f1.cell_of (by go_simp) (by (try dsimp only); omega)
  have d1_0_1 : w1.frozen? ⟨w.heap.size, 1, none⟩ = false := f1.thaw_of (by go_simp) (by go_simp) (by (try dsimp only); omega)
  have c1_0_2 : w1.cell? ⟨w.heap.size, 2, none⟩ = some (.string ⟨#[]⟩) := f1.cell_of (by go_simp) (by (try dsimp only); omega)
  have d1_0_2 : w1.frozen? ⟨w.heap.size, 2, none⟩ = false := f1.thaw_of (by go_simp) (by go_simp) (by (try dsimp only); omega)
  have c1_0_3 : w1.cell? ⟨w.heap.size, 3, none⟩ = some (.slice none 0 0) := f1.cell_of (by go_simp) (by (try dsimp only); omega)
  have d1_0_3 : w1.frozen? ⟨w.heap.size, 3, none⟩ = false := f1.thaw_of (by go_simp) (by go_simp) (by (try dsimp only); omega)
  have c1_0_4 : w1.cell? ⟨w.heap.size, 4, none⟩ = some (.int .i64 0) := f1.cell_of (by go_simp) (by (try dsimp only); omega)
  have d1_0_4 : w1.frozen? ⟨w.heap.size, 4, none⟩ = false := f1.thaw_of (by go_simp) (by go_simp) (by (try dsimp only); omega)
  have c1_0_5 : w1.cell? ⟨w.heap.size, 5, none⟩ = some (.int .i64 0) := f1.cell_of (by go_simp) (by (try dsimp only); omega)
  have d1_0_5 : w1.frozen? ⟨w.heap.size, 5, none⟩ = false := f1.thaw_of (by go_simp) (by go_simp) (by (try dsimp only); omega)
  have c1_0_6 : w1.cell? ⟨w.heap.size, 6, none⟩ = some (.string ⟨#[]⟩) := f1.cell_of (by go_simp) (by (try dsimp only); omega)
  have d1_0_6 : w1.frozen? ⟨w.heap.size, 6, none⟩ = false := f1.thaw_of (by go_simp) (by go_simp) (by (try dsimp only); omega)
  have c1_0_7 : w1.cell? ⟨w.heap.size, 7, none⟩ = some (.slice none 0 0) := f1.cell_of (by go_simp) (by (try dsimp only); omega)
  have d1_0_7 : w1.frozen? ⟨w.heap.size, 7, none⟩ = false := f1.thaw_of (by go_simp) (by go_simp) (by (try dsimp only); omega)
  have y1_0 : w.heap.size < w1.heap.size := World.block_lt_of_cell? w1 _ c1_0_0
  obtain ⟨oF, kF, rfl, _⟩ := id hiF
  have IF_1 : K.ints w1 (w.heap.size + 1) w1.heap.size (.slice oF F.pw.length kF) F.pw := hiF.mono (by simp) (Nat.le_refl _)
  clear hiF
  have hx1 : F.nm.size ≤ 7 := by omega
  go_wp2_with fail
  refine K.call (by with_reducible rfl) (by with_reducible rfl) (l18Valid_any g _ (K.bsr s1)) ?_
  rintro e w2 ⟨⟨G, pG, rfl, hnG, hmG, hiG⟩, s2, f2⟩
  have z2 := f2.size
  (try simp at z2)
  have F2 : K.Far g (g + 1) w w2 := K.Far.trans (K.bfa F1) f2
  obtain ⟨c2_0_0, c2_0_1, c2_0_2, c2_0_3, c2_0_4, c2_0_5, c2_0_6, c2_0_7, d2_0_0, d2_0_1, d2_0_2, d2_0_3, d2_0_4, d2_0_5, d2_0_6, d2_0_7, y2_0⟩ := f2.p8 c1_0_0 c1_0_1 c1_0_2 c1_0_3 c1_0_4 c1_0_5 c1_0_6 c1_0_7 d1_0_0 d1_0_1 d1_0_2 d1_0_3 d1_0_4 d1_0_5 d1_0_6 d1_0_7
  have IF_2 := K.ints.far (K.bin IF_1) f2 (by first | exact .inl (by omega) | exact .inr (by omega))
  obtain ⟨oG, kG, rfl, _⟩ := id hiG
  have IG_2 : K.ints w2 (w1.heap.size) w2.heap.size (.slice oG G.pw.length kG) G.pw := hiG.mono (by simp) (Nat.le_refl _)
  clear hiG
  have hx2 : G.nm.size ≤ 7 := by omega
  go_wp2_with fail
  refine K.call (by with_reducible rfl) (by with_reducible rfl) (l01Next_any g (2) _ (K.bsr s2)) ?_
  rintro e w3 ⟨⟨m, rfl, m0, m1, m2⟩, s3, f3⟩
  have z3 := f3.size
  (try simp at z3)
  have F3 : K.Far g (g + 1) w w3 := K.Far.trans (K.bfa F2) f3
  have u3_0_1 : w.heap.size < w2.heap.size + 1 := (by omega)
  obtain ⟨c3_0_0, c3_0_1, c3_0_2, c3_0_3, c3_0_4, c3_0_5, c3_0_6, c3_0_7, d3_0_0, d3_0_1, d3_0_2, d3_0_3, d3_0_4, d3_0_5, d3_0_6, d3_0_7, y3_0⟩ := f3.p8 c2_0_0 c2_0_1 c2_0_2 c2_0_3 c2_0_4 c2_0_5 c2_0_6 c2_0_7 d2_0_0 d2_0_1 d2_0_2 d2_0_3 d2_0_4 d2_0_5 d2_0_6 d2_0_7
  have c3_1_0 : w3.cell? ⟨w2.heap.size, 0, none⟩ = some (.int .i64 F.dg) := f3.cell_of (by go_simp) (by (try dsimp only); omega)
  have d3_1_0 : w3.frozen? ⟨w2.heap.size, 0, none⟩ = false := f3.thaw_of (by go_simp) (by go_simp) (by (try dsimp only); omega)
  have c3_1_1 : w3.cell? ⟨w2.heap.size, 1, none⟩ = some (.int .i64 F.tn) := f3.cell_of (by go_simp) (by (try dsimp only); omega)
  have d3_1_1 : w3.frozen? ⟨w2.heap.size, 1, none⟩ = false := f3.thaw_of (by go_simp) (by go_simp) (by (try dsimp only); omega)
  have c3_1_2 : w3.cell? ⟨w2.heap.size, 2, none⟩ = some (.string F.nm) := f3.cell_of (by go_simp) (by (try dsimp only); omega)
  have d3_1_2 : w3.frozen? ⟨w2.heap.size, 2, none⟩ = false := f3.thaw_of (by go_simp) (by go_simp) (by (try dsimp only); omega)
  have c3_1_3 : w3.cell? ⟨w2.heap.size, 3, none⟩ = some (.slice oF F.pw.length kF) := f3.cell_of (by go_simp) (by (try dsimp only); omega)
  have d3_1_3 : w3.frozen? ⟨w2.heap.size, 3, none⟩ = false := f3.thaw_of (by go_simp) (by go_simp) (by (try dsimp only); omega)
  have c3_1_4 : w3.cell? ⟨w2.heap.size, 4, none⟩ = some (.int .i64 G.dg) := f3.cell_of (by go_simp) (by (try dsimp only); omega)
  have d3_1_4 : w3.frozen? ⟨w2.heap.size, 4, none⟩ = false := f3.thaw_of (by go_simp) (by go_simp) (by (try dsimp only); omega)
  have c3_1_5 : w3.cell? ⟨w2.heap.size, 5, none⟩ = some (.int .i64 G.tn) := f3.cell_of (by go_simp) (by (try dsimp only); omega)
  have d3_1_5 : w3.frozen? ⟨w2.heap.size, 5, none⟩ = false := f3.thaw_of (by go_simp) (by go_simp) (by (try dsimp only); omega)
  have c3_1_6 : w3.cell? ⟨w2.heap.size, 6, none⟩ = some (.string G.nm) := f3.cell_of (by go_simp) (by (try dsimp only); omega)
  have d3_1_6 : w3.frozen? ⟨w2.heap.size, 6, none⟩ = false := f3.thaw_of (by go_simp) (by go_simp) (by (try dsimp only); omega)
  have c3_1_7 : w3.cell? ⟨w2.heap.size, 7, none⟩ = some (.slice oG G.pw.length kG) := f3.cell_of (by go_simp) (by (try dsimp only); omega)
  have d3_1_7 : w3.frozen? ⟨w2.heap.size, 7, none⟩ = false := f3.thaw_of (by go_simp) (by go_simp) (by (try dsimp only); omega)
  have y3_1 : w2.heap.size < w3.heap.size := World.block_lt_of_cell? w3 _ c3_1_0
  have IF_3 := K.ints.far (K.bin IF_2) f3 (by first | exact .inl (by omega) | exact .inr (by omega))
  have IG_3 := K.ints.far (K.bin IG_2) f3 (by first | exact .inl (by omega) | exact .inr (by omega))
  have ne1 : ¬ (w.heap.size = w2.heap.size) := (by omega)
  have ne2 : ¬ (w2.heap.size = w.heap.size) := (by omega)
  by_cases m0_ : m = 0
  · subst m0_
    have ne3 : ¬ (w.heap.size = w3.heap.size) := (by omega)
    have ne4 : ¬ (w2.heap.size = w3.heap.size) := (by omega)
    go_wp2_with fail
    refine K.call (by with_reducible rfl) (by with_reducible rfl) (l01Next_any g (20) _ (K.bsr s3)) ?_
    rintro e w4 ⟨⟨n, rfl, n0, n1, n2⟩, s4, f4⟩
    have z4 := f4.size
    (try simp at z4)
    have F4 : K.Far g (g + 1) w w4 := K.Far.trans (K.bfa F3) f4
    have u4_0_1 : w.heap.size < w3.heap.size + 1 := (by omega)
    have u4_1_1 : w2.heap.size < w3.heap.size + 1 := (by omega)
    have c4_0_0 : w4.cell? ⟨w.heap.size, 0, none⟩ = some (.int .i64 0) := f4.cell_of (by go_simp) (by (try dsimp only); omega)
    have d4_0_0 : w4.frozen? ⟨w.heap.size, 0, none⟩ = false := f4.thaw_of (by go_simp) (by go_simp) (by (try dsimp only); omega)
    have c4_0_1 : w4.cell? ⟨w.heap.size, 1, none⟩ = some (.int .i64 0) := f4.cell_of (by go_simp) (by (try dsimp only); omega)
    have d4_0_1 : w4.frozen? ⟨w.heap.size, 1, none⟩ = false := f4.thaw_of (by go_simp) (by go_simp) (by (try dsimp only); omega)
    have c4_0_2 : w4.cell? ⟨w.heap.size, 2, none⟩ = some (.string ⟨#[]⟩) := f4.cell_of (by go_simp) (by (try dsimp only); omega)
    have d4_0_2 : w4.frozen? ⟨w.heap.size, 2, none⟩ = false := f4.thaw_of (by go_simp) (by go_simp) (by (try dsimp only); omega)
    have c4_0_3 : w4.cell? ⟨w.heap.size, 3, none⟩ = some (.slice none 0 0) := f4.cell_of (by go_simp) (by (try dsimp only); omega)
    have d4_0_3 : w4.frozen? ⟨w.heap.size, 3, none⟩ = false := f4.thaw_of (by go_simp) (by go_simp) (by (try dsimp only); omega)
    have c4_0_4 : w4.cell? ⟨w.heap.size, 4, none⟩ = some (.int .i64 0) := f4.cell_of (by go_simp) (by (try dsimp only); omega)
    have d4_0_4 : w4.frozen? ⟨w.heap.size, 4, none⟩ = false := f4.thaw_of (by go_simp) (by go_simp) (by (try dsimp only); omega)
    have c4_0_5 : w4.cell? ⟨w.heap.size, 5, none⟩ = some (.int .i64 0) := f4.cell_of (by go_simp) (by (try dsimp only); omega)
    have d4_0_5 : w4.frozen? ⟨w.heap.size, 5, none⟩ = false := f4.thaw_of (by go_simp) (by go_simp) (by (try dsimp only); omega)
    have c4_0_6 : w4.cell? ⟨w.heap.size, 6, none⟩ = some (.string ⟨#[]⟩) := f4.cell_of (by go_simp) (by (try dsimp only); omega)
    have d4_0_6 : w4.frozen? ⟨w.heap.size, 6, none⟩ = false := f4.thaw_of (by go_simp) (by go_simp) (by (try dsimp only); omega)
    have c4_0_7 : w4.cell? ⟨w.heap.size, 7, none⟩ = some (.slice none 0 0) := f4.cell_of (by go_simp) (by (try dsimp only); omega)
    have d4_0_7 : w4.frozen? ⟨w.heap.size, 7, none⟩ = false := f4.thaw_of (by go_simp) (by go_simp) (by (try dsimp only); omega)
    have y4_0 : w.heap.size < w4.heap.size := World.block_lt_of_cell? w4 _ c4_0_0
    have c4_1_0 : w4.cell? ⟨w2.heap.size, 0, none⟩ = some (.int .i64 1000) := f4.cell_of (by go_simp) (by (try dsimp only); omega)
    have d4_1_0 : w4.frozen? ⟨w2.heap.size, 0, none⟩ = false := f4.thaw_of (by go_simp) (by go_simp) (by (try dsimp only); omega)
    have c4_1_1 : w4.cell? ⟨w2.heap.size, 1, none⟩ = some (.int .i64 0) := f4.cell_of (by go_simp) (by (try dsimp only); omega)
    have d4_1_1 : w4.frozen? ⟨w2.heap.size, 1, none⟩ = false := f4.thaw_of (by go_simp) (by go_simp) (by (try dsimp only); omega)
    have c4_1_2 : w4.cell? ⟨w2.heap.size, 2, none⟩ = some (.string ⟨#[121]⟩) := f4.cell_of (by go_simp) (by (try dsimp only); omega)
    have d4_1_2 : w4.frozen? ⟨w2.heap.size, 2, none⟩ = false := f4.thaw_of (by go_simp) (by go_simp) (by (try dsimp only); omega)
    have c4_1_3 : w4.cell? ⟨w2.heap.size, 3, none⟩ = some (.slice (some ⟨w3.heap.size, 0, none⟩) 1 1) := f4.cell_of (by go_simp) (by (try dsimp only); omega)
    have d4_1_3 : w4.frozen? ⟨w2.heap.size, 3, none⟩ = false := f4.thaw_of (by go_simp) (by go_simp) (by (try dsimp only); omega)
    have c4_1_4 : w4.cell? ⟨w2.heap.size, 4, none⟩ = some (.int .i64 G.dg) := f4.cell_of (by go_simp) (by (try dsimp only); omega)
    have d4_1_4 : w4.frozen? ⟨w2.heap.size, 4, none⟩ = false := f4.thaw_of (by go_simp) (by go_simp) (by (try dsimp only); omega)
    have c4_1_5 : w4.cell? ⟨w2.heap.size, 5, none⟩ = some (.int .i64 G.tn) := f4.cell_of (by go_simp) (by (try dsimp only); omega)
    have d4_1_5 : w4.frozen? ⟨w2.heap.size, 5, none⟩ = false := f4.thaw_of (by go_simp) (by go_simp) (by (try dsimp only); omega)
    have c4_1_6 : w4.cell? ⟨w2.heap.size, 6, none⟩ = some (.string G.nm) := f4.cell_of (by go_simp) (by (try dsimp only); omega)
    have d4_1_6 : w4.frozen? ⟨w2.heap.size, 6, none⟩ = false := f4.thaw_of (by go_simp) (by go_simp) (by (try dsimp only); omega)
    have c4_1_7 : w4.cell? ⟨w2.heap.size, 7, none⟩ = some (.slice oG G.pw.length kG) := f4.cell_of (by go_simp) (by (try dsimp only); omega)
    have d4_1_7 : w4.frozen? ⟨w2.heap.size, 7, none⟩ = false := f4.thaw_of (by go_simp) (by go_simp) (by (try dsimp only); omega)
    have y4_1 : w2.heap.size < w4.heap.size := World.block_lt_of_cell? w4 _ c4_1_0
    have IF_4 := K.ints.far (K.bin IF_3) f4 (by first | exact .inl (by omega) | exact .inr (by omega))
    have IG_4 := K.ints.far (K.bin IG_3) f4 (by first | exact .inl (by omega) | exact .inr (by omega))
    have IY_4 := K.ints.far (show K.ints _ w3.heap.size (w3.heap.size + 1) (.slice (some ⟨w3.heap.size, 0, none⟩) 1 1) [1] from by with_reducible repeat' (first | exact K.ints_fresh (T := 2) (cs := #[.int .i64 1]) [1] (by simp) rfl rfl | refine K.ints.alloc ?_ _ | refine K.ints.drew ?_ | refine K.ints.set ?_ _ ?_ _ | (dsimp only; omega) | omega | (simp; done) | (simp; omega))) f4 (by first | exact .inl (by omega) | exact .inr (by omega))
    by_cases n0_ : n = 0
    · subst n0_
      go_wp2_with fail
      refine K.call (by with_reducible rfl) (by with_reducible rfl) (l18Draw_any g _ (K.bsr s4)) ?_
      rintro e w5 ⟨⟨H, pH, rfl, hnH, hmH, hiH⟩, s5, f5⟩
      have z5 := f5.size
      (try simp at z5)
      have F5 : K.Far g (g + 1) w w5 := K.Far.trans (K.bfa F4) f5
      obtain ⟨c5_0_0, c5_0_1, c5_0_2, c5_0_3, c5_0_4, c5_0_5, c5_0_6, c5_0_7, d5_0_0, d5_0_1, d5_0_2, d5_0_3, d5_0_4, d5_0_5, d5_0_6, d5_0_7, y5_0⟩ := f5.p8 c4_0_0 c4_0_1 c4_0_2 c4_0_3 c4_0_4 c4_0_5 c4_0_6 c4_0_7 d4_0_0 d4_0_1 d4_0_2 d4_0_3 d4_0_4 d4_0_5 d4_0_6 d4_0_7
      obtain ⟨c5_1_0, c5_1_1, c5_1_2, c5_1_3, c5_1_4, c5_1_5, c5_1_6, c5_1_7, d5_1_0, d5_1_1, d5_1_2, d5_1_3, d5_1_4, d5_1_5, d5_1_6, d5_1_7, y5_1⟩ := f5.p8 c4_1_0 c4_1_1 c4_1_2 c4_1_3 c4_1_4 c4_1_5 c4_1_6 c4_1_7 d4_1_0 d4_1_1 d4_1_2 d4_1_3 d4_1_4 d4_1_5 d4_1_6 d4_1_7
      have IF_5 := K.ints.far (K.bin IF_4) f5 (by first | exact .inl (by omega) | exact .inr (by omega))
      have IG_5 := K.ints.far (K.bin IG_4) f5 (by first | exact .inl (by omega) | exact .inr (by omega))
      have IY_5 := K.ints.far (K.bin IY_4) f5 (by first | exact .inl (by omega) | exact .inr (by omega))
      obtain ⟨oH, kH, rfl, _⟩ := id hiH
      have IH_5 : K.ints w5 (w4.heap.size) w5.heap.size (.slice oH H.pw.length kH) H.pw := hiH.mono (by simp) (Nat.le_refl _)
      clear hiH
      have ne5 : ¬ (w.heap.size = w5.heap.size) := (by omega)
      go_wp2_with fail
      refine bodyPost_ret (v := .agg #[.int .i64 H.dg, .int .i64 H.tn, .string H.nm, .slice oH H.pw.length kH, .int .i64 G.dg, .int .i64 G.tn, .string G.nm, .slice oG G.pw.length kG]) (by unfold results; rw [Tryz.results64]; go_simp) rfl ⟨⟨⟨H, G⟩, _, _, rfl, ⟨hnH, hmH⟩, ⟨hx2, hmG⟩, ?_, ?_⟩, ?_, ?_⟩
      · exact K.ints.mono (K.bin IH_5) (by omega) (by first | omega | (simp; done) | (simp; omega))
      · exact K.ints.mono (K.bin IG_5) (by omega) (by first | omega | (simp; done) | (simp; omega))
      · exact (K.bsr s5)
      · exact (K.bfa F5)
    by_cases n1_ : n = 1
    · subst n1_
      go_wp2_with fail
      refine K.call (by with_reducible rfl) (by with_reducible rfl) (l18Draw_any g _ (K.bsr s4)) ?_
      rintro e w5 ⟨⟨H, pH, rfl, hnH, hmH, hiH⟩, s5, f5⟩
      have z5 := f5.size
      (try simp at z5)
      have F5 : K.Far g (g + 1) w w5 := K.Far.trans (K.bfa F4) f5
      obtain ⟨c5_0_0, c5_0_1, c5_0_2, c5_0_3, c5_0_4, c5_0_5, c5_0_6, c5_0_7, d5_0_0, d5_0_1, d5_0_2, d5_0_3, d5_0_4, d5_0_5, d5_0_6, d5_0_7, y5_0⟩ := f5.p8 c4_0_0 c4_0_1 c4_0_2 c4_0_3 c4_0_4 c4_0_5 c4_0_6 c4_0_7 d4_0_0 d4_0_1 d4_0_2 d4_0_3 d4_0_4 d4_0_5 d4_0_6 d4_0_7
      obtain ⟨c5_1_0, c5_1_1, c5_1_2, c5_1_3, c5_1_4, c5_1_5, c5_1_6, c5_1_7, d5_1_0, d5_1_1, d5_1_2, d5_1_3, d5_1_4, d5_1_5, d5_1_6, d5_1_7, y5_1⟩ := f5.p8 c4_1_0 c4_1_1 c4_1_2 c4_1_3 c4_1_4 c4_1_5 c4_1_6 c4_1_7 d4_1_0 d4_1_1 d4_1_2 d4_1_3 d4_1_4 d4_1_5 d4_1_6 d4_1_7
      have IF_5 := K.ints.far (K.bin IF_4) f5 (by first | exact .inl (by omega) | exact .inr (by omega))
      have IG_5 := K.ints.far (K.bin IG_4) f5 (by first | exact .inl (by omega) | exact .inr (by omega))
      have IY_5 := K.ints.far (K.bin IY_4) f5 (by first | exact .inl (by omega) | exact .inr (by omega))
      obtain ⟨oH, kH, rfl, _⟩ := id hiH
      have IH_5 : K.ints w5 (w4.heap.size) w5.heap.size (.slice oH H.pw.length kH) H.pw := hiH.mono (by simp) (Nat.le_refl _)
      clear hiH
      go_wp2_with fail
      refine bodyPost_ret (v := .agg #[.int .i64 1000, .int .i64 0, .string ⟨#[121]⟩, .slice (some ⟨w3.heap.size, 0, none⟩) 1 1, .int .i64 H.dg, .int .i64 H.tn, .string H.nm, .slice oH H.pw.length kH]) (by unfold results; rw [Tryz.results64]; go_simp) rfl ⟨⟨⟨⟨1000, 0, ⟨#[121]⟩, [1]⟩, H⟩, _, _, rfl, ⟨by show (⟨#[121]⟩ : ByteArray).size ≤ 7; decide, by show ([1] : List Int).length ≤ 6; decide⟩, ⟨hnH, hmH⟩, ?_, ?_⟩, ?_, ?_⟩
      · exact K.ints.mono (K.bin IY_5) (by omega) (by first | omega | (simp; done) | (simp; omega))
      · exact K.ints.mono (K.bin IH_5) (by omega) (by first | omega | (simp; done) | (simp; omega))
      · exact (K.bsr s5)
      · exact (K.bfa F5)
    go_wp2_with fail
    refine bodyPost_ret (v := .agg #[.int .i64 1000, .int .i64 0, .string ⟨#[121]⟩, .slice (some ⟨w3.heap.size, 0, none⟩) 1 1, .int .i64 G.dg, .int .i64 G.tn, .string G.nm, .slice oG G.pw.length kG]) (by unfold results; rw [Tryz.results64]; go_simp) rfl ⟨⟨⟨⟨1000, 0, ⟨#[121]⟩, [1]⟩, G⟩, _, _, rfl, ⟨by show (⟨#[121]⟩ : ByteArray).size ≤ 7; decide, by show ([1] : List Int).length ≤ 6; decide⟩, ⟨hx2, hmG⟩, ?_, ?_⟩, ?_, ?_⟩
    · exact K.ints.mono (K.bin IY_4) (by omega) (by first | omega | (simp; done) | (simp; omega))
    · exact K.ints.mono (K.bin IG_4) (by omega) (by first | omega | (simp; done) | (simp; omega))
    · exact (K.bsr s4)
    · exact (K.bfa F4)
  go_wp2_with fail
  refine K.call (by with_reducible rfl) (by with_reducible rfl) (l01Next_any g (20) _ (K.bsr s3)) ?_
  rintro e w4 ⟨⟨n, rfl, n0, n1, n2⟩, s4, f4⟩
  have z4 := f4.size
  (try simp at z4)
  have F4 : K.Far g (g + 1) w w4 := K.Far.trans (K.bfa F3) f4
  obtain ⟨c4_0_0, c4_0_1, c4_0_2, c4_0_3, c4_0_4, c4_0_5, c4_0_6, c4_0_7, d4_0_0, d4_0_1, d4_0_2, d4_0_3, d4_0_4, d4_0_5, d4_0_6, d4_0_7, y4_0⟩ := f4.p8 c3_0_0 c3_0_1 c3_0_2 c3_0_3 c3_0_4 c3_0_5 c3_0_6 c3_0_7 d3_0_0 d3_0_1 d3_0_2 d3_0_3 d3_0_4 d3_0_5 d3_0_6 d3_0_7
  obtain ⟨c4_1_0, c4_1_1, c4_1_2, c4_1_3, c4_1_4, c4_1_5, c4_1_6, c4_1_7, d4_1_0, d4_1_1, d4_1_2, d4_1_3, d4_1_4, d4_1_5, d4_1_6, d4_1_7, y4_1⟩ := f4.p8 c3_1_0 c3_1_1 c3_1_2 c3_1_3 c3_1_4 c3_1_5 c3_1_6 c3_1_7 d3_1_0 d3_1_1 d3_1_2 d3_1_3 d3_1_4 d3_1_5 d3_1_6 d3_1_7
  have IF_4 := K.ints.far (K.bin IF_3) f4 (by first | exact .inl (by omega) | exact .inr (by omega))
  have IG_4 := K.ints.far (K.bin IG_3) f4 (by first | exact .inl (by omega) | exact .inr (by omega))
  by_cases n0_ : n = 0
  · subst n0_
    go_wp2_with fail
    refine K.call (by with_reducible rfl) (by with_reducible rfl) (l18Draw_any g _ (K.bsr s4)) ?_
    rintro e w5 ⟨⟨H, pH, rfl, hnH, hmH, hiH⟩, s5, f5⟩
    have z5 := f5.size
    (try simp at z5)
    have F5 : K.Far g (g + 1) w w5 := K.Far.trans (K.bfa F4) f5
    obtain ⟨c5_0_0, c5_0_1, c5_0_2, c5_0_3, c5_0_4, c5_0_5, c5_0_6, c5_0_7, d5_0_0, d5_0_1, d5_0_2, d5_0_3, d5_0_4, d5_0_5, d5_0_6, d5_0_7, y5_0⟩ := f5.p8 c4_0_0 c4_0_1 c4_0_2 c4_0_3 c4_0_4 c4_0_5 c4_0_6 c4_0_7 d4_0_0 d4_0_1 d4_0_2 d4_0_3 d4_0_4 d4_0_5 d4_0_6 d4_0_7
    obtain ⟨c5_1_0, c5_1_1, c5_1_2, c5_1_3, c5_1_4, c5_1_5, c5_1_6, c5_1_7, d5_1_0, d5_1_1, d5_1_2, d5_1_3, d5_1_4, d5_1_5, d5_1_6, d5_1_7, y5_1⟩ := f5.p8 c4_1_0 c4_1_1 c4_1_2 c4_1_3 c4_1_4 c4_1_5 c4_1_6 c4_1_7 d4_1_0 d4_1_1 d4_1_2 d4_1_3 d4_1_4 d4_1_5 d4_1_6 d4_1_7
    have IF_5 := K.ints.far (K.bin IF_4) f5 (by first | exact .inl (by omega) | exact .inr (by omega))
    have IG_5 := K.ints.far (K.bin IG_4) f5 (by first | exact .inl (by omega) | exact .inr (by omega))
    obtain ⟨oH, kH, rfl, _⟩ := id hiH
    have IH_5 : K.ints w5 (w4.heap.size) w5.heap.size (.slice oH H.pw.length kH) H.pw := hiH.mono (by simp) (Nat.le_refl _)
    clear hiH
    have ne5 : ¬ (w.heap.size = w5.heap.size) := (by omega)
    go_wp2_with fail
    refine bodyPost_ret (v := .agg #[.int .i64 H.dg, .int .i64 H.tn, .string H.nm, .slice oH H.pw.length kH, .int .i64 G.dg, .int .i64 G.tn, .string G.nm, .slice oG G.pw.length kG]) (by unfold results; rw [Tryz.results64]; go_simp) rfl ⟨⟨⟨H, G⟩, _, _, rfl, ⟨hnH, hmH⟩, ⟨hx2, hmG⟩, ?_, ?_⟩, ?_, ?_⟩
    · exact K.ints.mono (K.bin IH_5) (by omega) (by first | omega | (simp; done) | (simp; omega))
    · exact K.ints.mono (K.bin IG_5) (by omega) (by first | omega | (simp; done) | (simp; omega))
    · exact (K.bsr s5)
    · exact (K.bfa F5)
  by_cases n1_ : n = 1
  · subst n1_
    go_wp2_with fail
    refine K.call (by with_reducible rfl) (by with_reducible rfl) (l18Draw_any g _ (K.bsr s4)) ?_
    rintro e w5 ⟨⟨H, pH, rfl, hnH, hmH, hiH⟩, s5, f5⟩
    have z5 := f5.size
    (try simp at z5)
    have F5 : K.Far g (g + 1) w w5 := K.Far.trans (K.bfa F4) f5
    obtain ⟨c5_0_0, c5_0_1, c5_0_2, c5_0_3, c5_0_4, c5_0_5, c5_0_6, c5_0_7, d5_0_0, d5_0_1, d5_0_2, d5_0_3, d5_0_4, d5_0_5, d5_0_6, d5_0_7, y5_0⟩ := f5.p8 c4_0_0 c4_0_1 c4_0_2 c4_0_3 c4_0_4 c4_0_5 c4_0_6 c4_0_7 d4_0_0 d4_0_1 d4_0_2 d4_0_3 d4_0_4 d4_0_5 d4_0_6 d4_0_7
    obtain ⟨c5_1_0, c5_1_1, c5_1_2, c5_1_3, c5_1_4, c5_1_5, c5_1_6, c5_1_7, d5_1_0, d5_1_1, d5_1_2, d5_1_3, d5_1_4, d5_1_5, d5_1_6, d5_1_7, y5_1⟩ := f5.p8 c4_1_0 c4_1_1 c4_1_2 c4_1_3 c4_1_4 c4_1_5 c4_1_6 c4_1_7 d4_1_0 d4_1_1 d4_1_2 d4_1_3 d4_1_4 d4_1_5 d4_1_6 d4_1_7
    have IF_5 := K.ints.far (K.bin IF_4) f5 (by first | exact .inl (by omega) | exact .inr (by omega))
    have IG_5 := K.ints.far (K.bin IG_4) f5 (by first | exact .inl (by omega) | exact .inr (by omega))
    obtain ⟨oH, kH, rfl, _⟩ := id hiH
    have IH_5 : K.ints w5 (w4.heap.size) w5.heap.size (.slice oH H.pw.length kH) H.pw := hiH.mono (by simp) (Nat.le_refl _)
    clear hiH
    go_wp2_with fail
    refine bodyPost_ret (v := .agg #[.int .i64 F.dg, .int .i64 F.tn, .string F.nm, .slice oF F.pw.length kF, .int .i64 H.dg, .int .i64 H.tn, .string H.nm, .slice oH H.pw.length kH]) (by unfold results; rw [Tryz.results64]; go_simp) rfl ⟨⟨⟨F, H⟩, _, _, rfl, ⟨hx1, hmF⟩, ⟨hnH, hmH⟩, ?_, ?_⟩, ?_, ?_⟩
    · exact K.ints.mono (K.bin IF_5) (by omega) (by first | omega | (simp; done) | (simp; omega))
    · exact K.ints.mono (K.bin IH_5) (by omega) (by first | omega | (simp; done) | (simp; omega))
    · exact (K.bsr s5)
    · exact (K.bfa F5)
  go_wp2_with fail
  refine bodyPost_ret (v := .agg #[.int .i64 F.dg, .int .i64 F.tn, .string F.nm, .slice oF F.pw.length kF, .int .i64 G.dg, .int .i64 G.tn, .string G.nm, .slice oG G.pw.length kG]) (by unfold results; rw [Tryz.results64]; go_simp) rfl ⟨⟨⟨F, G⟩, _, _, rfl, ⟨hx1, hmF⟩, ⟨hx2, hmG⟩, ?_, ?_⟩, ?_, ?_⟩
  · exact K.ints.mono (K.bin IF_4) (by omega) (by first | omega | (simp; done) | (simp; omega))
  · exact K.ints.mono (K.bin IG_4) (by omega) (by first | omega | (simp; done) | (simp; omega))
  · exact (K.bsr s4)
  · exact (K.bfa F4)
end Go.Proofs.YtmgocfdhngeeiaaGreatDoor
end
section
namespace Go.Proofs.YtmgocfdhngeeiaaGreatDoor
open Go.RowKit
set_option maxRecDepth 100000 in
set_option maxHeartbeats 6400000 in
theorem l20DrawName_any (g : Nat) (E : Z.Eqn) {o o' : Option Addr} {m k m' k' : Nat} (w : World) (hL : E.L.nm.size ≤ 7) (hR : E.R.nm.size ≤ 7) (h : K.Src 104 w g) :
    Calls Tryz.prog 65 #[.pointer (some ⟨g, 0, none⟩), .agg #[.int .i64 E.L.dg, .int .i64 E.L.tn, .string E.L.nm, .slice o m k, .int .i64 E.R.dg, .int .i64 E.R.tn, .string E.R.nm, .slice o' m' k']] w fun e w' => (∃ c : Int, e = .returned (.int .u8 c) ∧ 0 ≤ c ∧ c ≤ 255) ∧ K.Src 104 w' g ∧ K.Far g (g + 1) w w' := by
  have lg := h.lt
  have F0 : K.Far g (g + 1) w w := K.Far.refl _ _ _
  have hcat : ¬ (9223372036854775807 < E.L.nm.size + E.R.nm.size) := by omega
  obtain ⟨N, hN⟩ : ∃ N, E.L.nm ++ E.R.nm = N := ⟨_, rfl⟩
  have hn : N.size ≤ 14 := by rw [← hN, ByteArray.size_append]; omega
  go_enter Tryz.func65, Tryz.ntmps65
  by_cases h0 : N.size = 0
  · have h0' : (N.size : Int) = 0 := by omega
    go_wp2_with fail
    refine K.call (by with_reducible rfl) (by with_reducible rfl) (l18DrawName_any g _ (K.bsr h)) ?_
    rintro e w1 ⟨⟨c, rfl, c0, c1⟩, s1, f1⟩
    have z1 := f1.size
    (try simp at z1)
    have F1 : K.Far g (g + 1) w w1 := K.Far.trans (K.bfa F0) f1
    go_wp2_with fail
    go_ret
    exact ⟨⟨_, rfl, c0, c1⟩, (K.bsr s1), (K.bfa F1)⟩
  have h0' : ¬ ((N.size : Int) = 0) := by omega
  go_wp2_with fail
  refine K.call (by with_reducible rfl) (by with_reducible rfl) (l01Next_any g (6) _ (K.bsr h)) ?_
  rintro e w1 ⟨⟨x, rfl, x0, x1, x2⟩, s1, f1⟩
  have z1 := f1.size
  (try simp at z1)
  have F1 : K.Far g (g + 1) w w1 := K.Far.trans (K.bfa F0) f1
  by_cases x0_ : x = 0
  · subst x0_
    go_wp2_with fail
    refine K.call (by with_reducible rfl) (by with_reducible rfl) (l18DrawName_any g _ (K.bsr s1)) ?_
    rintro e w2 ⟨⟨c, rfl, c0, c1⟩, s2, f2⟩
    have z2 := f2.size
    (try simp at z2)
    have F2 : K.Far g (g + 1) w w2 := K.Far.trans (K.bfa F1) f2
    go_wp2_with fail
    go_ret
    exact ⟨⟨_, rfl, c0, c1⟩, (K.bsr s2), (K.bfa F2)⟩
  have x0' : (x == 0) = false := by simpa using x0_
  go_wp2_with fail
  refine K.call (by with_reducible rfl) (by with_reducible rfl) (l01Next_any g (N.size : Int) _ (K.bsr s1)) ?_
  rintro e w2 ⟨⟨y, rfl, y0, y1, y2⟩, s2, f2⟩
  have z2 := f2.size
  (try simp at z2)
  have F2 : K.Far g (g + 1) w w2 := K.Far.trans (K.bfa F1) f2
  obtain ⟨j, rfl⟩ : ∃ j : Nat, y = (j : Int) := ⟨y.toNat, by omega⟩
  have hj : j < N.size := by omega
  have i1 : (j : Int) < (N.size : Int) := by omega
  have i0 : (0 : Int) ≤ (j : Int) := by omega
  go_wp2_with fail
  go_ret
  exact ⟨⟨_, rfl, by omega, by have := (N[j]'hj).toNat_lt; omega⟩, (K.bsr s2), (K.bfa F2)⟩
end Go.Proofs.YtmgocfdhngeeiaaGreatDoor
end
section
namespace Go.Proofs.YtmgocfdhngeeiaaGreatDoor
open Go.RowKit
theorem eqStep_run (d m t d' m' t' : Int) (w : World) : (binOp .eql 89 (.agg #[.int .i64 d, .int .u8 m, .int .i64 t]) (.agg #[.int .i64 d', .int .u8 m', .int .i64 t'])).run Tryz.prog w = .ok (.bool (d == d' && (m == m' && t == t'))) w := by
  have u3 := Tryz.underlying2
  have u4 := Tryz.underlying5
  have hS : Tryz.prog.underlying 89 = some (.struct (Tryz.prog.fieldsOf 89)) := by kernel_rfl
  have hp : Tryz.prog.stoodInHeld 89 = false := by kernel_rfl
  rw [run_eql_struct, show (10000 : Nat) = 9999 + 1 from rfl, run_equalIn_agg w 9999 89 _ _ hS hp]
  simp only [Program.fieldsOf, Tryz.underlying89]
  go_simp
  by_cases h1 : d = d' <;> by_cases h2 : m = m' <;> by_cases h3 : t = t' <;> simp [h1, h2, h3]
set_option maxHeartbeats 3200000 in
theorem isStep_any (s : Z.St) (w : World) :
    Calls Tryz.prog 113 #[.agg #[.int .i64 s.kd, .int .u8 s.nm, .int .i64 s.pw]] w fun e w' => e = .returned (.bool (Z.isStep s)) ∧ K.Ext w w' := by
  obtain ⟨d, m, t⟩ := s
  dsimp only
  by_cases h0 : d = 0
  · subst h0
    have HE : Hid (Z.isStep ⟨0, m, t⟩ = (m == 0 && t == 0)) := Z.hide (by simp [Z.isStep])
    have hq := fun (w : World) => eqStep_run 0 m t 0 0 0 w
    go_enter Tryz.func113, Tryz.ntmps113
    go_wp2
    go_ret
    exact ⟨K.rb (by rw [HE.out]; (try simp)), K.bel⟩
  · by_cases h1 : d = 1
    · subst h1
      have HE : Hid (Z.isStep ⟨1, m, t⟩ = (decide (97 ≤ m) && decide (m ≤ 122) && !(t == 0) && (decide (-6 ≤ t) && decide (t ≤ 6)))) := Z.hide (by simp [Z.isStep])
      clear h0
      by_cases a1 : 97 ≤ m
      · by_cases a2 : m ≤ 122
        · by_cases a3 : t = 0
          · subst a3
            go_enter Tryz.func113, Tryz.ntmps113
            go_wp2
            go_ret
            exact ⟨K.rb (by rw [HE.out]; (try simp)), K.bel⟩
          · have a4 : (t == 0) = false := by simpa using a3
            go_enter Tryz.func113, Tryz.ntmps113
            go_wp2_with (go_at_call 50; refine K.call (by with_reducible rfl) (by with_reducible rfl) (within_any _ _ _ _) ?_; rintro e w' ⟨rfl, rfl⟩)
            go_ret
            exact ⟨K.rb (by rw [HE.out, a4]; simp [a1, a2, a3]), K.bel⟩
        · go_enter Tryz.func113, Tryz.ntmps113
          go_wp2
          go_ret
          exact ⟨K.rb (by rw [HE.out, decide_eq_false (show ¬ m ≤ 122 by omega)]; simp), K.bel⟩
      · go_enter Tryz.func113, Tryz.ntmps113
        go_wp2
        go_ret
        exact ⟨K.rb (by rw [HE.out, decide_eq_false (show ¬ 97 ≤ m by omega)]; simp), K.bel⟩
    · by_cases h2 : d = 2
      · subst h2
        have HE : Hid (Z.isStep ⟨2, m, t⟩ = (m == 0 && !(t == 0) && (decide (-3 ≤ t) && decide (t ≤ 3)))) := Z.hide (by simp [Z.isStep])
        clear h0 h1
        by_cases a1 : m = 0
        · subst a1
          by_cases a3 : t = 0
          · subst a3
            go_enter Tryz.func113, Tryz.ntmps113
            go_wp2
            go_ret
            exact ⟨K.rb (by rw [HE.out]; (try simp)), K.bel⟩
          · have a4 : (t == 0) = false := by simpa using a3
            go_enter Tryz.func113, Tryz.ntmps113
            go_wp2_with (go_at_call 50; refine K.call (by with_reducible rfl) (by with_reducible rfl) (within_any _ _ _ _) ?_; rintro e w' ⟨rfl, rfl⟩)
            go_ret
            exact ⟨K.rb (by rw [HE.out, a4]; simp [a3]), K.bel⟩
        · go_enter Tryz.func113, Tryz.ntmps113
          go_wp2
          go_ret
          exact ⟨K.rb (by rw [HE.out]; simp [a1]), K.bel⟩
      · have HE : Hid (Z.isStep ⟨d, m, t⟩ = false) := Z.hide (by simp [Z.isStep, h0, h1, h2])
        go_enter Tryz.func113, Tryz.ntmps113
        go_wp2
        go_ret
        exact ⟨K.rb (by rw [HE.out]), K.bel⟩
set_option maxHeartbeats 3200000 in
theorem l21Is_any (s : Z.St) (w : World) :
    Calls Tryz.prog 111 #[.agg #[.int .i64 s.kd, .int .u8 s.nm, .int .i64 s.pw]] w fun e w' => e = .returned (.bool (Z.isStep s)) ∧ K.Ext w w' := by
  obtain ⟨d, m, t⟩ := s
  dsimp only
  by_cases h0 : d = 0
  · subst h0
    have HE : Hid (Z.isStep ⟨0, m, t⟩ = (m == 0 && t == 0)) := Z.hide (by simp [Z.isStep])
    by_cases a1 : m = 0
    · subst a1
      go_enter Tryz.func111, Tryz.ntmps111
      go_wp2
      go_ret
      exact ⟨K.rb (by rw [HE.out]; (try simp)), K.bel⟩
    · go_enter Tryz.func111, Tryz.ntmps111
      go_wp2
      go_ret
      exact ⟨K.rb (by rw [HE.out]; simp [a1]), K.bel⟩
  · by_cases h1 : d = 1
    · subst h1
      have HE : Hid (Z.isStep ⟨1, m, t⟩ = (decide (97 ≤ m) && decide (m ≤ 122) && !(t == 0) && (decide (-6 ≤ t) && decide (t ≤ 6)))) := Z.hide (by simp [Z.isStep])
      clear h0
      by_cases a1 : 97 ≤ m
      · by_cases a2 : m ≤ 122
        · by_cases a3 : t = 0
          · subst a3
            go_enter Tryz.func111, Tryz.ntmps111
            go_wp2
            go_ret
            exact ⟨K.rb (by rw [HE.out]; (try simp)), K.bel⟩
          · have a4 : (t == 0) = false := by simpa using a3
            go_enter Tryz.func111, Tryz.ntmps111
            go_wp2_with (go_at_call 52; refine K.call (by with_reducible rfl) (by with_reducible rfl) (l01In_any _ _ _ _) ?_; rintro e w' ⟨rfl, rfl⟩)
            go_ret
            exact ⟨K.rb (by rw [HE.out, a4]; simp [a1, a2, a3]), K.bel⟩
        · go_enter Tryz.func111, Tryz.ntmps111
          go_wp2
          go_ret
          exact ⟨K.rb (by rw [HE.out, decide_eq_false (show ¬ m ≤ 122 by omega)]; simp), K.bel⟩
      · go_enter Tryz.func111, Tryz.ntmps111
        go_wp2
        go_ret
        exact ⟨K.rb (by rw [HE.out, decide_eq_false (show ¬ 97 ≤ m by omega)]; simp), K.bel⟩
    · by_cases h2 : d = 2
      · subst h2
        have HE : Hid (Z.isStep ⟨2, m, t⟩ = (m == 0 && !(t == 0) && (decide (-3 ≤ t) && decide (t ≤ 3)))) := Z.hide (by simp [Z.isStep])
        clear h0 h1
        by_cases a1 : m = 0
        · subst a1
          by_cases a3 : t = 0
          · subst a3
            go_enter Tryz.func111, Tryz.ntmps111
            go_wp2
            go_ret
            exact ⟨K.rb (by rw [HE.out]; (try simp)), K.bel⟩
          · have a4 : (t == 0) = false := by simpa using a3
            go_enter Tryz.func111, Tryz.ntmps111
            go_wp2_with (go_at_call 52; refine K.call (by with_reducible rfl) (by with_reducible rfl) (l01In_any _ _ _ _) ?_; rintro e w' ⟨rfl, rfl⟩)
            go_ret
            exact ⟨K.rb (by rw [HE.out, a4]; simp [a3]), K.bel⟩
        · go_enter Tryz.func111, Tryz.ntmps111
          go_wp2
          go_ret
          exact ⟨K.rb (by rw [HE.out]; simp [a1]), K.bel⟩
      · have HE : Hid (Z.isStep ⟨d, m, t⟩ = false) := Z.hide (by simp [Z.isStep, h0, h1, h2])
        go_enter Tryz.func111, Tryz.ntmps111
        go_wp2
        go_ret
        exact ⟨K.rb (by rw [HE.out]), K.bel⟩
theorem allSteps1_any (s : Z.St) (w : World) :
    Calls Tryz.prog 115 #[.agg #[.int .i64 s.kd, .int .u8 s.nm, .int .i64 s.pw]] w fun e w' => e = .returned (.bool (!Z.isStep s)) ∧ K.Ext w w' := by
  go_enter Tryz.func115, Tryz.ntmps115
  go_wp2_with ((go_at_call 113; refine K.call (by with_reducible rfl) (by with_reducible rfl) (isStep_any s _) ?_; rintro e w1 ⟨rfl, hw1⟩; obtain ⟨hcw1, hfw1⟩ := hw1.facts))
  go_ret
  exact ⟨rfl, K.bel⟩
set_option maxHeartbeats 1600000 in
theorem IndexFunc_steps (xs : List Z.St) {lo hi : Nat} {v : Value} (w : World) (hm : xs.length ≤ 1048576) (h : K.recs false K.StR w lo hi v xs) :
    Calls Tryz.prog 145 #[v, .func (.func 115) #[] #[]] w fun e w' => (∃ r : Int, e = .returned (.int .i64 r) ∧ ((Z.allSt xs = true ∧ r = -1) ∨ (Z.allSt xs = false ∧ 0 ≤ r))) ∧ K.Ext w w' := by
  have h1 := h
  obtain ⟨o, cap, rfl, _⟩ := h1
  have HH := Z.hide h
  clear h
  have hg : ∀ (args : Array Value) (w' : World), (callFunc 115 args).run Tryz.prog w' = .ok (.enter 115 args) w' := by
    intro args w'; go_simp
  go_enter Tryz.func145, Tryz.ntmps145
  go_wp2
  go_loopw [8] (fun i wr => ∃ k : Nat, k ≤ xs.length ∧ i = .int .i64 k ∧ Hid (Z.allSt (xs.take k) = true) ∧ Hid (K.Ext w wr)) (fun i _ => xs.length - (intOf i).toNat)
  case atStart => exact ⟨0, Nat.zero_le _, rfl, Z.hide rfl, Z.hide (K.Ext.refl _)⟩
  case round =>
    obtain ⟨k, hk, rfl, HP, HX⟩ := hrel
    by_cases hlt : k < xs.length
    · obtain ⟨b, off, rfl, _, _, hc, _⟩ := K.recs_at HH.out (by omega)
      have hc0 : wr.cell? ⟨b, off + k * 3, none⟩ = some (.int .i64 (xs[k]'hlt).kd) := HX.out.cell_of (hc k hlt 0 (by decide))
      have hc1 : wr.cell? ⟨b, off + k * 3 + 1, none⟩ = some (.int .u8 (xs[k]'hlt).nm) := HX.out.cell_of (hc k hlt 1 (by decide))
      have hc2 : wr.cell? ⟨b, off + k * 3 + 2, none⟩ = some (.int .i64 (xs[k]'hlt).pw) := HX.out.cell_of (hc k hlt 2 (by decide))
      have HS := Z.hide (Z.allSt_succ xs k hlt)
      have HB := Z.hide (Z.allSt_bad xs k hlt)
      have i0 : (0 : Int) ≤ (k : Int) := Int.natCast_nonneg k
      have i1 : (k : Int) < (xs.length : Int) := by omega
      clear hc
      generalize (xs[k]'hlt) = s at *
      cases h1 : Z.isStep s
      · go_wp2_with (refine K.call (by with_reducible rfl) (by with_reducible rfl) (allSteps1_any s _) ?_; rintro e w1 ⟨rfl, hw1⟩)
        go_ret
        exact ⟨⟨_, rfl, (.inr ⟨HB.out h1, by omega⟩)⟩, HX.out.trans hw1⟩
      · go_wp2_with (refine K.call (by with_reducible rfl) (by with_reducible rfl) (allSteps1_any s _) ?_; rintro e w1 ⟨rfl, hw1⟩)
        go_roundw
        case rel => exact ⟨k + 1, by omega, by go_num, Z.hide (by rw [HS.out, HP.out, h1]; rfl), Z.hide (HX.out.trans hw1)⟩
        case measure => simp [intOf]; omega
    · obtain rfl : k = xs.length := by omega
      have HF : Hid (Z.allSt xs = true) := Z.hide (by have := HP.out; rwa [List.take_length] at this)
      go_wp2
      go_ret
      exact ⟨⟨_, rfl, .inl ⟨HF.out, rfl⟩⟩, HX.out⟩
theorem ContainsFunc_steps (xs : List Z.St) {lo hi : Nat} {v : Value} (w : World) (hm : xs.length ≤ 1048576) (h : K.recs false K.StR w lo hi v xs) :
    Calls Tryz.prog 114 #[v, .func (.func 115) #[] #[]] w fun e w' => e = .returned (.bool (!Z.allSt xs)) ∧ K.Ext w w' := by
  go_enter Tryz.func114, Tryz.ntmps114
  go_wp2_with ((go_at_call 145; refine K.call (by with_reducible rfl) (by with_reducible rfl) (IndexFunc_steps xs _ hm h) ?_; rintro e w1 ⟨⟨r, rfl, hr⟩, hw1⟩))
  go_ret
  refine ⟨K.rb ?_, hw1⟩
  rcases hr with ⟨h1, rfl⟩ | ⟨h1, h2⟩
  · rw [h1]; rfl
  · rw [h1]; simpa using h2
theorem allSteps_any (xs : List Z.St) {lo hi : Nat} {v : Value} (w : World) (hm : xs.length ≤ 1048576) (h : K.recs false K.StR w lo hi v xs) :
    Calls Tryz.prog 82 #[v] w fun e w' => e = .returned (.bool (Z.allSt xs)) ∧ K.Ext w w' := by
  go_enter Tryz.func82, Tryz.ntmps82
  go_wp2_with ((go_at_call 114; refine K.call (by with_reducible rfl) (by with_reducible rfl) (ContainsFunc_steps xs _ hm h) ?_; rintro e w1 ⟨rfl, hw1⟩; obtain ⟨hcw1, hfw1⟩ := hw1.facts))
  go_ret
  exact ⟨K.rb (by simp), hw1⟩
theorem impl_AreSteps (xs : List Z.St) {lo hi : Nat} {v : Value} (w : World) (hm : xs.length ≤ 1048576) (h : K.recs false K.StR w lo hi v xs) :
    Calls Tryz.prog 32 #[v] w fun e w' => e = .returned (.bool (Z.AreSteps xs)) ∧ K.Ext w w' := by
  have h1 := h
  obtain ⟨o, cap, rfl, _⟩ := h1
  by_cases hl : (xs.length : Int) ≤ 12
  · have HE : Hid (Z.AreSteps xs = Z.allSt xs) := Z.hide (by simp [Z.AreSteps, hl])
    go_enter Tryz.func32, Tryz.ntmps32
    go_wp2_with ((go_at_call 82; refine K.call (by with_reducible rfl) (by with_reducible rfl) (allSteps_any xs _ hm h) ?_; rintro e w1 ⟨rfl, hw1⟩; obtain ⟨hcw1, hfw1⟩ := hw1.facts))
    go_ret
    exact ⟨K.rb (by rw [HE.out]), hw1⟩
  · have HE : Hid (Z.AreSteps xs = false) := Z.hide (by simp [Z.AreSteps, hl])
    go_enter Tryz.func32, Tryz.ntmps32
    go_wp2
    go_ret
    exact ⟨K.rb (by rw [HE.out]), K.Ext.refl _⟩
set_option maxHeartbeats 1600000 in
theorem l21Code_big (xs : List Z.St) {lo hi : Nat} {v : Value} (w : World) (hm : xs.length ≤ 2097152) (h : K.recs false K.StR w lo hi v xs) :
    Calls Tryz.prog 78 #[v] w fun e w' => e = .returned (.int .i64 (Z.stCode xs)) ∧ K.Ext w w' := by
  have h1 := h
  obtain ⟨o, cap, rfl, _⟩ := h1
  have HH := Z.hide h
  clear h
  go_enter Tryz.func78, Tryz.ntmps78
  go_wp2
  go_loopw [3] (fun i wr => ∃ k : Nat, k ≤ xs.length ∧ i = .int .i64 k ∧ Hid (Z.allSt (xs.take k) = true) ∧ Hid (K.Ext w wr)) (fun i _ => xs.length - (intOf i).toNat)
  case atStart => exact ⟨0, Nat.zero_le _, rfl, Z.hide rfl, Z.hide (K.Ext.refl _)⟩
  case round =>
    obtain ⟨k, hk, rfl, HP, HX⟩ := hrel
    by_cases hlt : k < xs.length
    · obtain ⟨b, off, rfl, _, _, hc, _⟩ := K.recs_at HH.out (by omega)
      have hc0 : wr.cell? ⟨b, off + k * 3, none⟩ = some (.int .i64 (xs[k]'hlt).kd) := HX.out.cell_of (hc k hlt 0 (by decide))
      have hc1 : wr.cell? ⟨b, off + k * 3 + 1, none⟩ = some (.int .u8 (xs[k]'hlt).nm) := HX.out.cell_of (hc k hlt 1 (by decide))
      have hc2 : wr.cell? ⟨b, off + k * 3 + 2, none⟩ = some (.int .i64 (xs[k]'hlt).pw) := HX.out.cell_of (hc k hlt 2 (by decide))
      have HS := Z.hide (Z.allSt_succ xs k hlt)
      have HB := Z.hide (Z.allSt_bad xs k hlt)
      have i0 : (0 : Int) ≤ (k : Int) := Int.natCast_nonneg k
      have i1 : (k : Int) < (xs.length : Int) := by omega
      clear hc
      generalize (xs[k]'hlt) = s at *
      cases h1 : Z.isStep s
      · have HF := Z.hide (HB.out h1)
        go_wp2_with ((go_at_call 111; refine K.call (by with_reducible rfl) (by with_reducible rfl) (l21Is_any s _) ?_; rintro e w1 ⟨rfl, hw1⟩; obtain ⟨hcw1, hfw1⟩ := hw1.facts))
        go_ret
        exact ⟨K.ri (by simp [Z.stCode, HF.out]), HX.out.trans hw1⟩
      · go_wp2_with ((go_at_call 111; refine K.call (by with_reducible rfl) (by with_reducible rfl) (l21Is_any s _) ?_; rintro e w1 ⟨rfl, hw1⟩; obtain ⟨hcw1, hfw1⟩ := hw1.facts))
        go_roundw
        case rel => exact ⟨k + 1, by omega, by go_num, Z.hide (by rw [HS.out, HP.out, h1]; rfl), Z.hide (HX.out.trans hw1)⟩
        case measure => simp [intOf]; omega
    · obtain rfl : k = xs.length := by omega
      have HF : Hid (Z.allSt xs = true) := Z.hide (by have := HP.out; rwa [List.take_length] at this)
      by_cases hl : (xs.length : Int) ≤ 12
      · have hl' : ¬ (12 < (xs.length : Int)) := by omega
        go_wp2
        go_ret
        exact ⟨K.ri (by simp [Z.stCode, HF.out, hl]), HX.out⟩
      · have hl' : 12 < (xs.length : Int) := by omega
        go_wp2
        go_ret
        exact ⟨K.ri (by simp [Z.stCode, HF.out, hl]), HX.out⟩
theorem l21Code_any (xs : List Z.St) {lo hi : Nat} {v : Value} (w : World) (hm : xs.length ≤ 1048576) (h : K.recs false K.StR w lo hi v xs) :
    Calls Tryz.prog 78 #[v] w fun e w' => e = .returned (.int .i64 (Z.stCode xs)) ∧ K.Ext w w' := l21Code_big xs w (by omega) h
end Go.Proofs.YtmgocfdhngeeiaaGreatDoor
end
section
namespace Go.Z
end Go.Z
namespace Go.K
open Go.RowKit
end Go.K
namespace Go.Proofs.YtmgocfdhngeeiaaGreatDoor
open Go.RowKit
theorem info_step : (Tryz.prog.info? 89).map (fun i => (i.zero, i.size, i.bytes)) = some (some (.agg #[.int .i64 0, .int .u8 0, .int .i64 0]), 3, 24) := by kernel_rfl
end Go.Proofs.YtmgocfdhngeeiaaGreatDoor
end
section
namespace Go.Proofs.YtmgocfdhngeeiaaGreatDoor
open Go.RowKit
set_option maxHeartbeats 1600000 in
theorem l02Round_any (n d t : Int) (w : World) (hn : 1 ≤ n) (hn' : n ≤ 1000000000) (hd : 1 ≤ d) (hd' : d ≤ 1000000000) (ht : -1000000 ≤ t) (ht' : t ≤ 1000000) :
    Calls Tryz.prog 194 #[.int .i64 n, .int .i64 d, .int .i64 t] w fun e w' => e = .returned (.agg #[.int .i64 (Z.round n d t).1, .int .i64 (Z.round n d t).2]) ∧ K.Ext w w' := by
  go_enter Tryz.func194, Tryz.ntmps194
  go_wp2
  go_loop [1, 2] (fun d' t' => ∃ (k : Nat) (x y : Int), d' = .int .i64 x ∧ t' = .int .i64 y ∧ k ≤ 12 ∧ Hid (Z.dn k n x y = Z.dn 12 n d (t + 3)) ∧ n < 10000 * x * Z.ten k ∧ 1 ≤ x ∧ x ≤ 1000000000 ∧ -2000000 + 12 - (k : Int) ≤ y ∧ y ≤ 2000000 - (k : Int)) (fun d' _ => (n - intOf d').toNat)
  case atStart => exact ⟨12, d, t + 3, rfl, rfl, Nat.le_refl _, Z.hide rfl, by rw [Z.ten_12]; omega, hd, hd', by omega, by omega⟩
  case round =>
    obtain ⟨k, x, y, rfl, rfl, hk, HE, h1, h2, h3, h4, h5⟩ := hrel
    by_cases hc : 10000 * x ≤ n
    · obtain ⟨k', rfl⟩ : ∃ k', k = k' + 1 := by
        cases k with
        | zero => simp only [Z.ten] at h1; omega
        | succ k' => exact ⟨k', rfl⟩
      have HS := Z.hide (show Z.dn (k' + 1) n x y = Z.dn k' n (10 * x) (y + 1) by simp only [Z.dn]; rw [if_pos hc])
      have h6 : n < 10000 * (10 * x) * Z.ten k' := by rw [← Z.ten_dn]; exact h1
      have H6 := Z.hide h6
      clear h1 h6
      go_wp2
      go_round
      case rel => exact ⟨k', 10 * x, y + 1, by go_num, by go_num, by omega, Z.hide (by rw [← HS.out, HE.out]), H6.out, by omega, by omega, by omega, by omega⟩
      case measure => simp [intOf]; omega
    · have HD := Z.hide (show Z.dn k n x y = (x, y) from Z.dn_end (by omega))
      rw [HE.out] at HD
      clear h1 HE
      go_wp2
      go_loop [0, 2] (fun n' t' => ∃ (k : Nat) (z u : Int), n' = .int .i64 z ∧ t' = .int .i64 u ∧ k ≤ 12 ∧ Hid (Z.up k z x u = Z.up 12 n x y) ∧ 1000 * x ≤ z * Z.ten k ∧ 1 ≤ z ∧ z ≤ 10000000000000 ∧ -3000000 + (k : Int) ≤ u ∧ u ≤ 3000000) (fun n' _ => (1000 * x - intOf n').toNat)
      case atStart => exact ⟨12, n, y, rfl, rfl, Nat.le_refl _, Z.hide rfl, by rw [Z.ten_12]; omega, hn, by omega, by omega, by omega⟩
      case round =>
        obtain ⟨k2, z, u, rfl, rfl, hk2, HE2, p1, p2, p3, p4, p5⟩ := hrel
        by_cases hc2 : z < 1000 * x
        · obtain ⟨k', rfl⟩ : ∃ k', k2 = k' + 1 := by
            cases k2 with
            | zero => simp only [Z.ten] at p1; omega
            | succ k' => exact ⟨k', rfl⟩
          have HS := Z.hide (show Z.up (k' + 1) z x u = Z.up k' (10 * z) x (u - 1) by simp only [Z.up]; rw [if_pos hc2])
          have h6 : 1000 * x ≤ 10 * z * Z.ten k' := by rw [← Z.ten_up]; exact p1
          have H6 := Z.hide h6
          clear p1 h6
          go_wp2
          go_round
          case rel => exact ⟨k', 10 * z, u - 1, by go_num, by go_num, by omega, Z.hide (by rw [← HS.out, HE2.out]), H6.out, by omega, by omega, by omega, by omega⟩
          case measure => simp [intOf]; omega
        · have HU := Z.hide (show Z.up k2 z x u = (z, u) from Z.up_end (by omega))
          rw [HE2.out] at HU
          clear p1 HE2
          have HF : Hid (Z.round n d t = Z.fin z x u) := Z.hide (by unfold Z.round; rw [HD.out, HU.out])
          obtain ⟨q, hq⟩ : ∃ q, q = Z.nr z x := ⟨_, rfl⟩
          have HN : ∀ w' : World, Calls Tryz.prog 198 #[.int .i64 z, .int .i64 x] w' fun e w'' => e = .returned (.int .i64 q) ∧ w' = w'' := fun w' => by rw [hq]; exact l01Nearest_any _ _ _ (by omega) (by omega) (by omega) (by omega)
          by_cases h10 : q = 10000
          · have H3 : Hid (Z.fin z x u = (1000, u + 1)) := Z.hide (by unfold Z.fin; rw [← hq, if_pos h10])
            clear hq
            go_wp2_with (go_at_call 198; refine K.call (by with_reducible rfl) (by with_reducible rfl) (HN _) ?_; rintro e w9 ⟨rfl, rfl⟩)
            rw [HF.out, H3.out]
            refine bodyPost_ret (v := .agg #[.int .i64 1000, .int .i64 (u + 1)]) (by unfold results; rw [Tryz.results194]; go_simp) rfl ⟨rfl, K.bel⟩
          · have H3 : Hid (Z.fin z x u = (q, u)) := Z.hide (by unfold Z.fin; rw [← hq, if_neg h10])
            clear hq
            go_wp2_with (go_at_call 198; refine K.call (by with_reducible rfl) (by with_reducible rfl) (HN _) ?_; rintro e w9 ⟨rfl, rfl⟩)
            rw [HF.out, H3.out]
            refine bodyPost_ret (v := .agg #[.int .i64 q, .int .i64 u]) (by unfold results; rw [Tryz.results194]; go_simp) rfl ⟨rfl, K.bel⟩
set_option maxHeartbeats 1600000 in
theorem rounded_any (n d t : Int) (w : World) (hn : 1 ≤ n) (hn' : n ≤ 1000000000) (hd : 1 ≤ d) (hd' : d ≤ 1000000000) (ht : -1000000 ≤ t) (ht' : t ≤ 1000000) :
    Calls Tryz.prog 180 #[.int .i64 n, .int .i64 d, .int .i64 t] w fun e w' => e = .returned (.agg #[.int .i64 (Z.round n d t).1, .int .i64 (Z.round n d t).2]) ∧ K.Ext w w' := by
  have hd0 := Z.hide hd
  go_enter Tryz.func180, Tryz.ntmps180
  go_wp2
  go_loop [0, 2] (fun n' t' => ∃ (k : Nat) (z u : Int), n' = .int .i64 z ∧ t' = .int .i64 u ∧ k ≤ 12 ∧ Hid (Z.up k z d u = Z.up 12 n d (t + 3)) ∧ 1000 * d ≤ z * Z.ten k ∧ 1 ≤ z ∧ z ≤ 10000000000000 ∧ -3000000 + (k : Int) ≤ u ∧ u ≤ 3000000) (fun n' _ => (1000 * d - intOf n').toNat)
  case atStart => exact ⟨12, n, t + 3, rfl, rfl, Nat.le_refl _, Z.hide rfl, by rw [Z.ten_12]; omega, hn, by omega, by omega, by omega⟩
  case round =>
    obtain ⟨k2, z, u, rfl, rfl, hk2, HE2, p1, p2, p3, p4, p5⟩ := hrel
    by_cases hc2 : z < 1000 * d
    · obtain ⟨k', rfl⟩ : ∃ k', k2 = k' + 1 := by
        cases k2 with
        | zero => simp only [Z.ten] at p1; omega
        | succ k' => exact ⟨k', rfl⟩
      have HS := Z.hide (show Z.up (k' + 1) z d u = Z.up k' (10 * z) d (u - 1) by simp only [Z.up]; rw [if_pos hc2])
      have h6 : 1000 * d ≤ 10 * z * Z.ten k' := by rw [← Z.ten_up]; exact p1
      have H6 := Z.hide h6
      have e10 : z * 10 = 10 * z := Int.mul_comm _ _
      clear p1 h6
      go_wp2
      go_round
      case rel => exact ⟨k', 10 * z, u - 1, by go_num, by go_num, by omega, Z.hide (by rw [← HS.out, HE2.out]), H6.out, by omega, by omega, by omega, by omega⟩
      case measure => simp [intOf]; omega
    · have HU := Z.hide (show Z.up k2 z d u = (z, u) from Z.up_end (by omega))
      rw [HE2.out] at HU
      clear p1 HE2
      go_wp2
      go_loop [1, 2] (fun d' t' => ∃ (k : Nat) (x y : Int), d' = .int .i64 x ∧ t' = .int .i64 y ∧ k ≤ 12 ∧ Hid (Z.dn k z x y = Z.dn 12 z d u) ∧ z < 10000 * x * Z.ten k ∧ 1 ≤ x ∧ x ≤ 10000000000000 ∧ -4000000 ≤ y ∧ y ≤ 4000000 - (k : Int)) (fun d' _ => (z - intOf d').toNat)
      case atStart => exact ⟨12, d, u, rfl, rfl, Nat.le_refl _, Z.hide rfl, by rw [Z.ten_12]; omega, hd, by omega, by omega, by omega⟩
      case round =>
        obtain ⟨k, x, y, rfl, rfl, hk, HE, h1, h2, h3, h4, h5⟩ := hrel
        by_cases hc : 10000 * x ≤ z
        · obtain ⟨k', rfl⟩ : ∃ k', k = k' + 1 := by
            cases k with
            | zero => simp only [Z.ten] at h1; omega
            | succ k' => exact ⟨k', rfl⟩
          have HS := Z.hide (show Z.dn (k' + 1) z x y = Z.dn k' z (10 * x) (y + 1) by simp only [Z.dn]; rw [if_pos hc])
          have h6 : z < 10000 * (10 * x) * Z.ten k' := by rw [← Z.ten_dn]; exact h1
          have H6 := Z.hide h6
          have e10 : x * 10 = 10 * x := Int.mul_comm _ _
          clear h1 h6
          go_wp2
          go_round
          case rel => exact ⟨k', 10 * x, y + 1, by go_num, by go_num, by omega, Z.hide (by rw [← HS.out, HE.out]), H6.out, by omega, by omega, by omega, by omega⟩
          case measure => simp [intOf]; omega
        · have HD := Z.hide (show Z.dn k z x y = (x, y) from Z.dn_end (by omega))
          rw [HE.out] at HD
          clear h1 HE
          have HF : Hid (Z.round n d t = Z.fin z x y) := Z.hide (by rw [Z.round_eq n d t hd0.out, HU.out, HD.out])
          obtain ⟨q, hq⟩ : ∃ q, q = Z.nr z x := ⟨_, rfl⟩
          have HN : ∀ w' : World, Calls Tryz.prog 191 #[.int .i64 z, .int .i64 x] w' fun e w'' => e = .returned (.int .i64 q) ∧ w' = w'' := fun w' => by rw [hq]; have := near_any z x w' (by omega) (by omega) (by omega) (by omega) (by omega); rwa [Z.nearAny, if_neg (by omega)] at this
          by_cases h10 : q = 10000
          · have H3 : Hid (Z.fin z x y = (1000, y + 1)) := Z.hide (by unfold Z.fin; rw [← hq, if_pos h10])
            clear hq
            go_wp2_with (go_at_call 191; refine K.call (by with_reducible rfl) (by with_reducible rfl) (HN _) ?_; rintro e w9 ⟨rfl, rfl⟩)
            rw [HF.out, H3.out]
            refine bodyPost_ret (v := .agg #[.int .i64 1000, .int .i64 (y + 1)]) (by unfold results; rw [Tryz.results180]; go_simp) rfl ⟨rfl, K.bel⟩
          · have H3 : Hid (Z.fin z x y = (q, y)) := Z.hide (by unfold Z.fin; rw [← hq, if_neg h10])
            clear hq
            go_wp2_with (go_at_call 191; refine K.call (by with_reducible rfl) (by with_reducible rfl) (HN _) ?_; rintro e w9 ⟨rfl, rfl⟩)
            rw [HF.out, H3.out]
            refine bodyPost_ret (v := .agg #[.int .i64 q, .int .i64 y]) (by unfold results; rw [Tryz.results180]; go_simp) rfl ⟨rfl, K.bel⟩
end Go.Proofs.YtmgocfdhngeeiaaGreatDoor
end
section
namespace Go.Z
theorem isFig_bd {d t : Int} (h : isFig d t = true) : 1000 ≤ d ∧ d ≤ 9999 ∧ -30 ≤ t ∧ t ≤ 30 := by
  simp only [isFig, Bool.and_eq_true, decide_eq_true_eq] at h; omega
theorem two_bd {a b : Int × Int} (h : (isFig a.1 a.2 && isFig b.1 b.2) = true) : 1000 ≤ a.1 ∧ a.1 ≤ 9999 ∧ -30 ≤ a.2 ∧ a.2 ≤ 30 ∧ 1000 ≤ b.1 ∧ b.1 ≤ 9999 ∧ -30 ≤ b.2 ∧ b.2 ≤ 30 := by
  rw [Bool.and_eq_true] at h
  have h1 := isFig_bd h.1
  have h2 := isFig_bd h.2
  omega
theorem mul_1000 {x y : Int} (h1 : 1000 ≤ x) (h2 : x ≤ 9999) (h3 : 1000 ≤ y) (h4 : y ≤ 9999) : 1 ≤ x * y ∧ x * y ≤ 99980001 := by
  have e1 : 1000 * 1000 ≤ x * y := Int.mul_le_mul h1 h3 (by omega) (by omega)
  have e2 : x * y ≤ 9999 * 9999 := Int.mul_le_mul h2 h4 (by omega) (by omega)
  omega
end Go.Z
namespace Go.Proofs.YtmgocfdhngeeiaaGreatDoor
open Go.RowKit
set_option maxHeartbeats 1600000 in
theorem l02Result_any (d t : Int) (w : World) :
    Calls Tryz.prog 193 #[.agg #[.int .i64 d, .int .i64 t]] w fun e w' => e = .returned (.tuple #[.agg #[.int .i64 (Z.figOr (d, t)).1.1, .int .i64 (Z.figOr (d, t)).1.2], .int .i64 (Z.figOr (d, t)).2]) ∧ K.Ext w w' := by
  cases hf : Z.isFig d t
  · have HE : Hid (Z.figOr (d, t) = ((0, 0), 3)) := Z.hide (by unfold Z.figOr; rw [hf]; rfl)
    go_enter Tryz.func193, Tryz.ntmps193
    go_wp2_with ((go_at_call 97; refine K.call (by with_reducible rfl) (by with_reducible rfl) (spec_IsFigure d t _) ?_; rintro e w1 ⟨rfl, hw1⟩; obtain ⟨hcw1, hfw1⟩ := hw1.facts); obtain ⟨c_w1_0_0, c_w1_0_1, f_w1_0_0, f_w1_0_1⟩ := K.kp2 hw1 (w.heap.size) (.int .i64 (d)) (.int .i64 (t)); obtain ⟨c_w1_1_0, c_w1_1_1, f_w1_1_0, f_w1_1_1⟩ := K.kp2 hw1 (w.heap.size + 1) (.int .i64 (0)) (.int .i64 (0)))
    rw [HE.out]
    refine bodyPost_ret (v := .tuple #[.agg #[.int .i64 0, .int .i64 0], .int .i64 3]) (by unfold results; rw [Tryz.results193]; go_simp) rfl ⟨rfl, ?_⟩
    repeat with_reducible refine K.Ext.setCell ?_ (by dsimp only; omega) _
    exact K.bel
  · have HE : Hid (Z.figOr (d, t) = ((d, t), 0)) := Z.hide (by unfold Z.figOr; rw [hf]; rfl)
    go_enter Tryz.func193, Tryz.ntmps193
    go_wp2_with ((go_at_call 97; refine K.call (by with_reducible rfl) (by with_reducible rfl) (spec_IsFigure d t _) ?_; rintro e w1 ⟨rfl, hw1⟩; obtain ⟨hcw1, hfw1⟩ := hw1.facts); obtain ⟨c_w1_0_0, c_w1_0_1, f_w1_0_0, f_w1_0_1⟩ := K.kp2 hw1 (w.heap.size) (.int .i64 (d)) (.int .i64 (t)); obtain ⟨c_w1_1_0, c_w1_1_1, f_w1_1_0, f_w1_1_1⟩ := K.kp2 hw1 (w.heap.size + 1) (.int .i64 (0)) (.int .i64 (0)))
    rw [HE.out]
    refine bodyPost_ret (v := .tuple #[.agg #[.int .i64 d, .int .i64 t], .int .i64 0]) (by unfold results; rw [Tryz.results193]; go_simp) rfl ⟨rfl, ?_⟩
    repeat with_reducible refine K.Ext.setCell ?_ (by dsimp only; omega) _
    exact K.bel
set_option maxHeartbeats 1600000 in
theorem limited_any (d t : Int) (w : World) :
    Calls Tryz.prog 179 #[.agg #[.int .i64 d, .int .i64 t]] w fun e w' => e = .returned (.tuple #[.agg #[.int .i64 (Z.figOr (d, t)).1.1, .int .i64 (Z.figOr (d, t)).1.2], .int .i64 (Z.figOr (d, t)).2]) ∧ K.Ext w w' := by
  cases hf : Z.isFig d t
  · have HE : Hid (Z.figOr (d, t) = ((0, 0), 3)) := Z.hide (by unfold Z.figOr; rw [hf]; rfl)
    go_enter Tryz.func179, Tryz.ntmps179
    go_wp2_with ((go_at_call 117; refine K.call (by with_reducible rfl) (by with_reducible rfl) (impl_IsFigure d t _) ?_; rintro e w1 ⟨rfl, hw1⟩; obtain ⟨hcw1, hfw1⟩ := hw1.facts); obtain ⟨c_w1_0_0, c_w1_0_1, f_w1_0_0, f_w1_0_1⟩ := K.kp2 hw1 (w.heap.size) (.int .i64 (d)) (.int .i64 (t)); obtain ⟨c_w1_1_0, c_w1_1_1, f_w1_1_0, f_w1_1_1⟩ := K.kp2 hw1 (w.heap.size + 1) (.int .i64 (0)) (.int .i64 (0)))
    rw [HE.out]
    refine bodyPost_ret (v := .tuple #[.agg #[.int .i64 0, .int .i64 0], .int .i64 3]) (by unfold results; rw [Tryz.results179]; go_simp) rfl ⟨rfl, ?_⟩
    repeat with_reducible refine K.Ext.setCell ?_ (by dsimp only; omega) _
    exact K.bel
  · have HE : Hid (Z.figOr (d, t) = ((d, t), 0)) := Z.hide (by unfold Z.figOr; rw [hf]; rfl)
    go_enter Tryz.func179, Tryz.ntmps179
    go_wp2_with ((go_at_call 117; refine K.call (by with_reducible rfl) (by with_reducible rfl) (impl_IsFigure d t _) ?_; rintro e w1 ⟨rfl, hw1⟩; obtain ⟨hcw1, hfw1⟩ := hw1.facts); obtain ⟨c_w1_0_0, c_w1_0_1, f_w1_0_0, f_w1_0_1⟩ := K.kp2 hw1 (w.heap.size) (.int .i64 (d)) (.int .i64 (t)); obtain ⟨c_w1_1_0, c_w1_1_1, f_w1_1_0, f_w1_1_1⟩ := K.kp2 hw1 (w.heap.size + 1) (.int .i64 (0)) (.int .i64 (0)))
    rw [HE.out]
    refine bodyPost_ret (v := .tuple #[.agg #[.int .i64 d, .int .i64 t], .int .i64 0]) (by unfold results; rw [Tryz.results179]; go_simp) rfl ⟨rfl, ?_⟩
    repeat with_reducible refine K.Ext.setCell ?_ (by dsimp only; omega) _
    exact K.bel
set_option maxHeartbeats 1600000 in
theorem l02Two_any (a b : Int × Int) (w : World) :
    Calls Tryz.prog 192 #[.agg #[.int .i64 a.1, .int .i64 a.2], .agg #[.int .i64 b.1, .int .i64 b.2]] w fun e w' => e = .returned (.bool (Z.isFig a.1 a.2 && Z.isFig b.1 b.2)) ∧ K.Ext w w' := by
  cases hf : Z.isFig a.1 a.2
  · go_enter Tryz.func192, Tryz.ntmps192
    go_wp2_with ((go_at_call 97; refine K.call (by with_reducible rfl) (by with_reducible rfl) (spec_IsFigure a.1 a.2 _) ?_; rintro e w1 ⟨rfl, hw1⟩; obtain ⟨hcw1, hfw1⟩ := hw1.facts); obtain ⟨c_w1_0_0, c_w1_0_1, f_w1_0_0, f_w1_0_1⟩ := K.kp2 hw1 (w.heap.size) (.int .i64 (a.1)) (.int .i64 (a.2)); obtain ⟨c_w1_1_0, c_w1_1_1, f_w1_1_0, f_w1_1_1⟩ := K.kp2 hw1 (w.heap.size + 1) (.int .i64 (b.1)) (.int .i64 (b.2)))
    go_ret
    exact ⟨rfl, K.bel⟩
  · go_enter Tryz.func192, Tryz.ntmps192
    go_wp2_with (first | ((go_at_call 97; refine K.call (by with_reducible rfl) (by with_reducible rfl) (spec_IsFigure a.1 a.2 _) ?_; rintro e w1 ⟨rfl, hw1⟩; obtain ⟨hcw1, hfw1⟩ := hw1.facts); obtain ⟨c_w1_0_0, c_w1_0_1, f_w1_0_0, f_w1_0_1⟩ := K.kp2 hw1 (w.heap.size) (.int .i64 (a.1)) (.int .i64 (a.2)); obtain ⟨c_w1_1_0, c_w1_1_1, f_w1_1_0, f_w1_1_1⟩ := K.kp2 hw1 (w.heap.size + 1) (.int .i64 (b.1)) (.int .i64 (b.2))) | (go_at_call 97; refine K.call (by with_reducible rfl) (by with_reducible rfl) (spec_IsFigure b.1 b.2 _) ?_; rintro e w2 ⟨rfl, hw2⟩; obtain ⟨hcw2, hfw2⟩ := hw2.facts))
    go_ret
    exact ⟨K.rb (by simp), K.bel⟩
set_option maxHeartbeats 3200000 in
theorem spec_MultiplyFigures (a b : Int × Int) (w : World) :
    Calls Tryz.prog 181 #[.agg #[.int .i64 a.1, .int .i64 a.2], .agg #[.int .i64 b.1, .int .i64 b.2]] w fun e w' => e = .returned (.tuple #[.agg #[.int .i64 (Z.MultiplyFigures a b).1.1, .int .i64 (Z.MultiplyFigures a b).1.2], .int .i64 (Z.MultiplyFigures a b).2]) ∧ K.Ext w w' := by
  cases hf : (Z.isFig a.1 a.2 && Z.isFig b.1 b.2)
  · have HE : Hid (Z.MultiplyFigures a b = ((0, 0), 1)) := Z.hide (by unfold Z.MultiplyFigures; rw [hf]; rfl)
    go_enter Tryz.func181, Tryz.ntmps181
    go_wp2_with ((go_at_call 192; refine K.call (by with_reducible rfl) (by with_reducible rfl) (l02Two_any a b _) ?_; rintro e w1 ⟨rfl, hw1⟩; obtain ⟨hcw1, hfw1⟩ := hw1.facts); obtain ⟨c_w1_0_0, c_w1_0_1, f_w1_0_0, f_w1_0_1⟩ := K.kp2 hw1 (w.heap.size) (.int .i64 (a.1)) (.int .i64 (a.2)); obtain ⟨c_w1_1_0, c_w1_1_1, f_w1_1_0, f_w1_1_1⟩ := K.kp2 hw1 (w.heap.size + 1) (.int .i64 (b.1)) (.int .i64 (b.2)); obtain ⟨c_w1_2_0, c_w1_2_1, f_w1_2_0, f_w1_2_1⟩ := K.kp2 hw1 (w.heap.size + 1 + 1) (.int .i64 (0)) (.int .i64 (0)))
    rw [HE.out]
    refine bodyPost_ret (v := .tuple #[.agg #[.int .i64 0, .int .i64 0], .int .i64 1]) (by unfold results; rw [Tryz.results181]; go_simp) rfl ⟨rfl, ?_⟩
    repeat with_reducible refine K.Ext.setCell ?_ (by dsimp only; omega) _
    exact K.bel
  · obtain ⟨a1, a2, a3, a4, b1, b2, b3, b4⟩ := Z.two_bd hf
    obtain ⟨q, hq⟩ : ∃ q, q = Z.round (a.1 * b.1) 1 (a.2 + b.2 - 6) := ⟨_, rfl⟩
    have HE : Hid (Z.MultiplyFigures a b = Z.figOr q) := Z.hide (by unfold Z.MultiplyFigures; rw [hf, hq]; rfl)
    obtain ⟨m1, m2⟩ := Z.mul_1000 a1 a2 b1 b2
    have HR : ∀ w' : World, Calls Tryz.prog 194 #[.int .i64 (a.1 * b.1), .int .i64 1, .int .i64 (a.2 + b.2 - 6)] w' fun e w'' => e = .returned (.agg #[.int .i64 q.1, .int .i64 q.2]) ∧ K.Ext w' w'' := fun w' => by rw [hq]; exact l02Round_any _ _ _ _ (by omega) (by omega) (by omega) (by omega) (by omega) (by omega)
    clear hq
    go_enter Tryz.func181, Tryz.ntmps181
    go_wp2_with (first | ((go_at_call 192; refine K.call (by with_reducible rfl) (by with_reducible rfl) (l02Two_any a b _) ?_; rintro e w1 ⟨rfl, hw1⟩; obtain ⟨hcw1, hfw1⟩ := hw1.facts); obtain ⟨c_w1_0_0, c_w1_0_1, f_w1_0_0, f_w1_0_1⟩ := K.kp2 hw1 (w.heap.size) (.int .i64 (a.1)) (.int .i64 (a.2)); obtain ⟨c_w1_1_0, c_w1_1_1, f_w1_1_0, f_w1_1_1⟩ := K.kp2 hw1 (w.heap.size + 1) (.int .i64 (b.1)) (.int .i64 (b.2)); obtain ⟨c_w1_2_0, c_w1_2_1, f_w1_2_0, f_w1_2_1⟩ := K.kp2 hw1 (w.heap.size + 1 + 1) (.int .i64 (0)) (.int .i64 (0))) | ((go_at_call 194; refine K.call (by with_reducible rfl) (by with_reducible rfl) (HR _) ?_; rintro e w2 ⟨rfl, hw2⟩; obtain ⟨hcw2, hfw2⟩ := hw2.facts); obtain ⟨c_w2_0_0, c_w2_0_1, f_w2_0_0, f_w2_0_1⟩ := K.kp2 hw2 (w.heap.size) (.int .i64 (a.1)) (.int .i64 (a.2)); obtain ⟨c_w2_1_0, c_w2_1_1, f_w2_1_0, f_w2_1_1⟩ := K.kp2 hw2 (w.heap.size + 1) (.int .i64 (b.1)) (.int .i64 (b.2)); obtain ⟨c_w2_2_0, c_w2_2_1, f_w2_2_0, f_w2_2_1⟩ := K.kp2 hw2 (w.heap.size + 1 + 1) (.int .i64 (0)) (.int .i64 (0))) | ((go_at_call 193; refine K.call (by with_reducible rfl) (by with_reducible rfl) (l02Result_any q.1 q.2 _) ?_; rintro e w3 ⟨rfl, hw3⟩; obtain ⟨hcw3, hfw3⟩ := hw3.facts); obtain ⟨c_w3_0_0, c_w3_0_1, f_w3_0_0, f_w3_0_1⟩ := K.kp2 hw3 (w.heap.size) (.int .i64 (a.1)) (.int .i64 (a.2)); obtain ⟨c_w3_1_0, c_w3_1_1, f_w3_1_0, f_w3_1_1⟩ := K.kp2 hw3 (w.heap.size + 1) (.int .i64 (b.1)) (.int .i64 (b.2)); obtain ⟨c_w3_2_0, c_w3_2_1, f_w3_2_0, f_w3_2_1⟩ := K.kp2 hw3 (w.heap.size + 1 + 1) (.int .i64 (0)) (.int .i64 (0))))
    rw [HE.out]
    refine bodyPost_ret (v := .tuple #[.agg #[.int .i64 (Z.figOr q).1.1, .int .i64 (Z.figOr q).1.2], .int .i64 (Z.figOr q).2]) (by unfold results; rw [Tryz.results181]; go_simp) rfl ⟨rfl, ?_⟩
    repeat with_reducible refine K.Ext.setCell ?_ (by dsimp only; omega) _
    exact K.bel
set_option maxHeartbeats 3200000 in
theorem spec_DivideFigures (a b : Int × Int) (w : World) :
    Calls Tryz.prog 184 #[.agg #[.int .i64 a.1, .int .i64 a.2], .agg #[.int .i64 b.1, .int .i64 b.2]] w fun e w' => e = .returned (.tuple #[.agg #[.int .i64 (Z.DivideFigures a b).1.1, .int .i64 (Z.DivideFigures a b).1.2], .int .i64 (Z.DivideFigures a b).2]) ∧ K.Ext w w' := by
  cases hf : (Z.isFig a.1 a.2 && Z.isFig b.1 b.2)
  · have HE : Hid (Z.DivideFigures a b = ((0, 0), 1)) := Z.hide (by unfold Z.DivideFigures; rw [hf]; rfl)
    go_enter Tryz.func184, Tryz.ntmps184
    go_wp2_with ((go_at_call 192; refine K.call (by with_reducible rfl) (by with_reducible rfl) (l02Two_any a b _) ?_; rintro e w1 ⟨rfl, hw1⟩; obtain ⟨hcw1, hfw1⟩ := hw1.facts); obtain ⟨c_w1_0_0, c_w1_0_1, f_w1_0_0, f_w1_0_1⟩ := K.kp2 hw1 (w.heap.size) (.int .i64 (a.1)) (.int .i64 (a.2)); obtain ⟨c_w1_1_0, c_w1_1_1, f_w1_1_0, f_w1_1_1⟩ := K.kp2 hw1 (w.heap.size + 1) (.int .i64 (b.1)) (.int .i64 (b.2)); obtain ⟨c_w1_2_0, c_w1_2_1, f_w1_2_0, f_w1_2_1⟩ := K.kp2 hw1 (w.heap.size + 1 + 1) (.int .i64 (0)) (.int .i64 (0)))
    rw [HE.out]
    refine bodyPost_ret (v := .tuple #[.agg #[.int .i64 0, .int .i64 0], .int .i64 1]) (by unfold results; rw [Tryz.results184]; go_simp) rfl ⟨rfl, ?_⟩
    repeat with_reducible refine K.Ext.setCell ?_ (by dsimp only; omega) _
    exact K.bel
  · obtain ⟨a1, a2, a3, a4, b1, b2, b3, b4⟩ := Z.two_bd hf
    obtain ⟨q, hq⟩ : ∃ q, q = Z.round (a.1) b.1 (a.2 - b.2) := ⟨_, rfl⟩
    have HE : Hid (Z.DivideFigures a b = Z.figOr q) := Z.hide (by unfold Z.DivideFigures; rw [hf, hq]; rfl)
    skip
    have HR : ∀ w' : World, Calls Tryz.prog 194 #[.int .i64 (a.1), .int .i64 b.1, .int .i64 (a.2 - b.2)] w' fun e w'' => e = .returned (.agg #[.int .i64 q.1, .int .i64 q.2]) ∧ K.Ext w' w'' := fun w' => by rw [hq]; exact l02Round_any _ _ _ _ (by omega) (by omega) (by omega) (by omega) (by omega) (by omega)
    clear hq
    go_enter Tryz.func184, Tryz.ntmps184
    go_wp2_with (first | ((go_at_call 192; refine K.call (by with_reducible rfl) (by with_reducible rfl) (l02Two_any a b _) ?_; rintro e w1 ⟨rfl, hw1⟩; obtain ⟨hcw1, hfw1⟩ := hw1.facts); obtain ⟨c_w1_0_0, c_w1_0_1, f_w1_0_0, f_w1_0_1⟩ := K.kp2 hw1 (w.heap.size) (.int .i64 (a.1)) (.int .i64 (a.2)); obtain ⟨c_w1_1_0, c_w1_1_1, f_w1_1_0, f_w1_1_1⟩ := K.kp2 hw1 (w.heap.size + 1) (.int .i64 (b.1)) (.int .i64 (b.2)); obtain ⟨c_w1_2_0, c_w1_2_1, f_w1_2_0, f_w1_2_1⟩ := K.kp2 hw1 (w.heap.size + 1 + 1) (.int .i64 (0)) (.int .i64 (0))) | ((go_at_call 194; refine K.call (by with_reducible rfl) (by with_reducible rfl) (HR _) ?_; rintro e w2 ⟨rfl, hw2⟩; obtain ⟨hcw2, hfw2⟩ := hw2.facts); obtain ⟨c_w2_0_0, c_w2_0_1, f_w2_0_0, f_w2_0_1⟩ := K.kp2 hw2 (w.heap.size) (.int .i64 (a.1)) (.int .i64 (a.2)); obtain ⟨c_w2_1_0, c_w2_1_1, f_w2_1_0, f_w2_1_1⟩ := K.kp2 hw2 (w.heap.size + 1) (.int .i64 (b.1)) (.int .i64 (b.2)); obtain ⟨c_w2_2_0, c_w2_2_1, f_w2_2_0, f_w2_2_1⟩ := K.kp2 hw2 (w.heap.size + 1 + 1) (.int .i64 (0)) (.int .i64 (0))) | ((go_at_call 193; refine K.call (by with_reducible rfl) (by with_reducible rfl) (l02Result_any q.1 q.2 _) ?_; rintro e w3 ⟨rfl, hw3⟩; obtain ⟨hcw3, hfw3⟩ := hw3.facts); obtain ⟨c_w3_0_0, c_w3_0_1, f_w3_0_0, f_w3_0_1⟩ := K.kp2 hw3 (w.heap.size) (.int .i64 (a.1)) (.int .i64 (a.2)); obtain ⟨c_w3_1_0, c_w3_1_1, f_w3_1_0, f_w3_1_1⟩ := K.kp2 hw3 (w.heap.size + 1) (.int .i64 (b.1)) (.int .i64 (b.2)); obtain ⟨c_w3_2_0, c_w3_2_1, f_w3_2_0, f_w3_2_1⟩ := K.kp2 hw3 (w.heap.size + 1 + 1) (.int .i64 (0)) (.int .i64 (0))))
    rw [HE.out]
    refine bodyPost_ret (v := .tuple #[.agg #[.int .i64 (Z.figOr q).1.1, .int .i64 (Z.figOr q).1.2], .int .i64 (Z.figOr q).2]) (by unfold results; rw [Tryz.results184]; go_simp) rfl ⟨rfl, ?_⟩
    repeat with_reducible refine K.Ext.setCell ?_ (by dsimp only; omega) _
    exact K.bel
end Go.Proofs.YtmgocfdhngeeiaaGreatDoor
end
section
namespace Go.K
open Go.RowKit
/-- The value reads as this list of figures. -/
def figs (w : World) (lo hi : Nat) (v : Value) (fs : List (Int × Int)) : Prop :=
  ∃ o cap, v = .slice o fs.length cap ∧ (fs ≠ [] → ∃ b off, o = some ⟨b, off, none⟩ ∧ lo ≤ b ∧ b < hi ∧ ∀ i, i < fs.length → w.cell? ⟨b, off + i * 2, none⟩ = some (.int .i64 (fs.getD i (0, 0)).1) ∧ w.cell? ⟨b, off + i * 2 + 1, none⟩ = some (.int .i64 (fs.getD i (0, 0)).2))
theorem figs.ext {w w' : World} {lo hi : Nat} {v : Value} {fs : List (Int × Int)} (h : figs w lo hi v fs) (hx : Ext w w') : figs w' lo hi v fs := by
  obtain ⟨o, cap, rfl, h⟩ := h
  exact ⟨o, cap, rfl, fun hn => by obtain ⟨b, off, rfl, h1, h2, h3⟩ := h hn; exact ⟨b, off, rfl, h1, h2, fun i hi => ⟨hx.cell_of (h3 i hi).1, hx.cell_of (h3 i hi).2⟩⟩⟩
theorem two_figs {w : World} {g : Nat} {a b : Int × Int} {t : TypeId} (h : w.heap[g]? = some (.cells #[.int .i64 a.1, .int .i64 a.2, .int .i64 b.1, .int .i64 b.2] t)) : figs w g (g + 1) (.slice (some ⟨g, 0, none⟩) 2 2) [a, b] := by
  refine ⟨_, 2, rfl, fun _ => ⟨g, 0, rfl, Nat.le_refl _, by omega, fun i hi => ?_⟩⟩
  match i, hi with
  | 0, _ => exact ⟨cell_at h rfl, cell_at h rfl⟩
  | 1, _ => exact ⟨cell_at h rfl, cell_at h rfl⟩
end Go.K
namespace Go.Z
def areFigs (fs : List (Int × Int)) : Bool := fs.all (fun f => isFig f.1 f.2)
theorem figs_succ (fs : List (Int × Int)) (k : Nat) (h : k < fs.length) : areFigs (fs.take (k + 1)) = (areFigs (fs.take k) && isFig (fs.getD k (0, 0)).1 (fs.getD k (0, 0)).2) := by
  unfold areFigs
  rw [List.take_succ_eq_append_getElem h, List.all_append]; simp [List.getD_eq_getElem?_getD, h]
theorem figs_bad (fs : List (Int × Int)) (k : Nat) (h : k < fs.length) (hb : isFig (fs.getD k (0, 0)).1 (fs.getD k (0, 0)).2 = false) : areFigs fs = false := by
  unfold areFigs
  rw [List.all_eq_false]
  exact ⟨fs[k], List.getElem_mem h, by simpa [List.getD_eq_getElem?_getD, h] using hb⟩
end Go.Z
namespace Go.Proofs.YtmgocfdhngeeiaaGreatDoor
open Go.RowKit
set_option maxHeartbeats 1600000 in
theorem areFigures_any (fs : List (Int × Int)) {lo hi : Nat} {v : Value} (w : World) (hm : fs.length ≤ 1048576) (h : K.figs w lo hi v fs) :
    Calls Tryz.prog 178 #[v] w fun e w' => e = .returned (.bool (Z.areFigs fs)) ∧ K.Ext w w' := by
  obtain ⟨o, cap, rfl, hh⟩ := h
  go_enter Tryz.func178, Tryz.ntmps178
  go_wp2
  go_loopw [7] (fun i wr => ∃ k : Nat, k ≤ fs.length ∧ i = .int .i64 k ∧ Hid (Z.areFigs (fs.take k) = true) ∧ Hid (K.Ext w wr)) (fun i _ => fs.length - (intOf i).toNat)
  case atStart => exact ⟨0, Nat.zero_le _, rfl, Z.hide rfl, Z.hide (K.Ext.refl _)⟩
  case round =>
    obtain ⟨k, hk, rfl, HA, HX⟩ := hrel
    by_cases hlt : k < fs.length
    · obtain ⟨b, off, rfl, _, _, hc⟩ := hh (by intro h0; simp [h0] at hlt)
      have hc1 := HX.out.cell_of (hc k hlt).1
      have hc2 := HX.out.cell_of (hc k hlt).2
      have i0 : (0 : Int) ≤ (k : Int) := Int.natCast_nonneg k
      have i1 : (k : Int) < (fs.length : Int) := by omega
      have lbr : b < wr.heap.size := World.block_lt_of_cell? wr _ hc1
      have n1 : ¬ (b = wr.heap.size) := by omega
      have n2 : ¬ (wr.heap.size = b) := by omega
      have HS := Z.hide (Z.figs_succ fs k hlt)
      have HB := Z.hide (Z.figs_bad fs k hlt)
      clear hc hh
      generalize fs.getD k (0, 0) = f at *
      cases hf : Z.isFig f.1 f.2
      · have HF := Z.hide (HB.out hf)
        go_wp2_with ((go_at_call 117; refine K.call (by with_reducible rfl) (by with_reducible rfl) (impl_IsFigure f.1 f.2 _) ?_; rintro e w1 ⟨rfl, hw1⟩; obtain ⟨hcw1, hfw1⟩ := hw1.facts))
        go_ret
        exact ⟨K.rb (by rw [HF.out]), K.Ext.trans HX.out K.bel⟩
      · have HF : Hid (Z.areFigs (fs.take (k + 1)) = true) := Z.hide (by rw [HS.out, HA.out, hf]; rfl)
        go_wp2_with ((go_at_call 117; refine K.call (by with_reducible rfl) (by with_reducible rfl) (impl_IsFigure f.1 f.2 _) ?_; rintro e w1 ⟨rfl, hw1⟩; obtain ⟨hcw1, hfw1⟩ := hw1.facts))
        go_roundw
        case rel => exact ⟨k + 1, by omega, by go_num, HF, Z.hide (K.Ext.trans HX.out K.bel)⟩
        case measure => simp [intOf]; omega
    · obtain rfl : k = fs.length := by omega
      have HF : Hid (Z.areFigs fs = true) := Z.hide (by have := HA.out; rwa [List.take_length] at this)
      clear hh
      go_wp2
      go_ret
      exact ⟨K.rb (by rw [HF.out]), HX.out⟩
theorem areTwo_any (a b : Int × Int) {g : Nat} {t : TypeId} (w : World) (h : w.heap[g]? = some (.cells #[.int .i64 a.1, .int .i64 a.2, .int .i64 b.1, .int .i64 b.2] t)) :
    Calls Tryz.prog 178 #[.slice (some ⟨g, 0, none⟩) 2 2] w fun e w' => e = .returned (.bool (Z.isFig a.1 a.2 && Z.isFig b.1 b.2)) ∧ K.Ext w w' :=
  (areFigures_any [a, b] w (by simp) (K.two_figs h)).mono fun e w' ⟨he, hx⟩ => ⟨by rw [he]; simp [Z.areFigs], hx⟩
theorem areTwo_new (a b : Int × Int) (g : Nat) (W : World) (hg : g = W.heap.size) :
    Calls Tryz.prog 178 #[.slice (some ⟨g, 0, none⟩) 2 2] (W.alloc (.cells #[.int .i64 a.1, .int .i64 a.2, .int .i64 b.1, .int .i64 b.2] 34)) fun e w' => e = .returned (.bool (Z.isFig a.1 a.2 && Z.isFig b.1 b.2)) ∧ K.Ext (W.alloc (.cells #[.int .i64 a.1, .int .i64 a.2, .int .i64 b.1, .int .i64 b.2] 34)) w' :=
  areTwo_any a b _ (K.block_new hg)
end Go.Proofs.YtmgocfdhngeeiaaGreatDoor
end
section
namespace Go.Proofs.YtmgocfdhngeeiaaGreatDoor
open Go.RowKit
set_option maxHeartbeats 3200000 in
theorem impl_MultiplyFigures (a b : Int × Int) (w : World) :
    Calls Tryz.prog 158 #[.agg #[.int .i64 a.1, .int .i64 a.2], .agg #[.int .i64 b.1, .int .i64 b.2]] w fun e w' => e = .returned (.tuple #[.agg #[.int .i64 (Z.MultiplyFigures a b).1.1, .int .i64 (Z.MultiplyFigures a b).1.2], .int .i64 (Z.MultiplyFigures a b).2]) ∧ K.Ext w w' := by
  cases hf : (Z.isFig a.1 a.2 && Z.isFig b.1 b.2)
  · have HE : Hid (Z.MultiplyFigures a b = ((0, 0), 1)) := Z.hide (by unfold Z.MultiplyFigures; rw [hf]; rfl)
    go_enter Tryz.func158, Tryz.ntmps158
    go_wp2_with ((go_at_call 178; refine K.call (by with_reducible rfl) (by with_reducible rfl) (areTwo_new a b _ _ (by simp)) ?_; rintro e w1 ⟨rfl, hw1⟩; obtain ⟨hcw1, hfw1⟩ := hw1.facts); obtain ⟨c_w1_0_0, c_w1_0_1, f_w1_0_0, f_w1_0_1⟩ := K.kp2 hw1 (w.heap.size) (.int .i64 (a.1)) (.int .i64 (a.2)); obtain ⟨c_w1_1_0, c_w1_1_1, f_w1_1_0, f_w1_1_1⟩ := K.kp2 hw1 (w.heap.size + 1) (.int .i64 (b.1)) (.int .i64 (b.2)); obtain ⟨c_w1_2_0, c_w1_2_1, f_w1_2_0, f_w1_2_1⟩ := K.kp2 hw1 (w.heap.size + 1 + 1) (.int .i64 (0)) (.int .i64 (0)))
    rw [HE.out]
    refine bodyPost_ret (v := .tuple #[.agg #[.int .i64 0, .int .i64 0], .int .i64 1]) (by unfold results; rw [Tryz.results158]; go_simp) rfl ⟨rfl, ?_⟩
    repeat with_reducible refine K.Ext.setCell ?_ (by dsimp only; omega) _
    exact K.bel
  · obtain ⟨a1, a2, a3, a4, b1, b2, b3, b4⟩ := Z.two_bd hf
    obtain ⟨q, hq⟩ : ∃ q, q = Z.round (a.1 * b.1) 1 (a.2 + b.2 - 6) := ⟨_, rfl⟩
    have HE : Hid (Z.MultiplyFigures a b = Z.figOr q) := Z.hide (by unfold Z.MultiplyFigures; rw [hf, hq]; rfl)
    obtain ⟨m1, m2⟩ := Z.mul_1000 a1 a2 b1 b2
    have HR : ∀ w' : World, Calls Tryz.prog 180 #[.int .i64 (a.1 * b.1), .int .i64 1, .int .i64 (a.2 + b.2 - 6)] w' fun e w'' => e = .returned (.agg #[.int .i64 q.1, .int .i64 q.2]) ∧ K.Ext w' w'' := fun w' => by rw [hq]; exact rounded_any _ _ _ _ (by omega) (by omega) (by omega) (by omega) (by omega) (by omega)
    clear hq
    go_enter Tryz.func158, Tryz.ntmps158
    go_wp2_with (first | ((go_at_call 178; refine K.call (by with_reducible rfl) (by with_reducible rfl) (areTwo_new a b _ _ (by simp)) ?_; rintro e w1 ⟨rfl, hw1⟩; obtain ⟨hcw1, hfw1⟩ := hw1.facts); obtain ⟨c_w1_0_0, c_w1_0_1, f_w1_0_0, f_w1_0_1⟩ := K.kp2 hw1 (w.heap.size) (.int .i64 (a.1)) (.int .i64 (a.2)); obtain ⟨c_w1_1_0, c_w1_1_1, f_w1_1_0, f_w1_1_1⟩ := K.kp2 hw1 (w.heap.size + 1) (.int .i64 (b.1)) (.int .i64 (b.2)); obtain ⟨c_w1_2_0, c_w1_2_1, f_w1_2_0, f_w1_2_1⟩ := K.kp2 hw1 (w.heap.size + 1 + 1) (.int .i64 (0)) (.int .i64 (0))) | ((go_at_call 180; refine K.call (by with_reducible rfl) (by with_reducible rfl) (HR _) ?_; rintro e w2 ⟨rfl, hw2⟩; obtain ⟨hcw2, hfw2⟩ := hw2.facts); obtain ⟨c_w2_0_0, c_w2_0_1, f_w2_0_0, f_w2_0_1⟩ := K.kp2 hw2 (w.heap.size) (.int .i64 (a.1)) (.int .i64 (a.2)); obtain ⟨c_w2_1_0, c_w2_1_1, f_w2_1_0, f_w2_1_1⟩ := K.kp2 hw2 (w.heap.size + 1) (.int .i64 (b.1)) (.int .i64 (b.2)); obtain ⟨c_w2_2_0, c_w2_2_1, f_w2_2_0, f_w2_2_1⟩ := K.kp2 hw2 (w.heap.size + 1 + 1) (.int .i64 (0)) (.int .i64 (0))) | ((go_at_call 179; refine K.call (by with_reducible rfl) (by with_reducible rfl) (limited_any q.1 q.2 _) ?_; rintro e w3 ⟨rfl, hw3⟩; obtain ⟨hcw3, hfw3⟩ := hw3.facts); obtain ⟨c_w3_0_0, c_w3_0_1, f_w3_0_0, f_w3_0_1⟩ := K.kp2 hw3 (w.heap.size) (.int .i64 (a.1)) (.int .i64 (a.2)); obtain ⟨c_w3_1_0, c_w3_1_1, f_w3_1_0, f_w3_1_1⟩ := K.kp2 hw3 (w.heap.size + 1) (.int .i64 (b.1)) (.int .i64 (b.2)); obtain ⟨c_w3_2_0, c_w3_2_1, f_w3_2_0, f_w3_2_1⟩ := K.kp2 hw3 (w.heap.size + 1 + 1) (.int .i64 (0)) (.int .i64 (0))))
    rw [HE.out]
    refine bodyPost_ret (v := .tuple #[.agg #[.int .i64 (Z.figOr q).1.1, .int .i64 (Z.figOr q).1.2], .int .i64 (Z.figOr q).2]) (by unfold results; rw [Tryz.results158]; go_simp) rfl ⟨rfl, ?_⟩
    repeat with_reducible refine K.Ext.setCell ?_ (by dsimp only; omega) _
    exact K.bel
set_option maxHeartbeats 3200000 in
theorem impl_DivideFigures (a b : Int × Int) (w : World) :
    Calls Tryz.prog 161 #[.agg #[.int .i64 a.1, .int .i64 a.2], .agg #[.int .i64 b.1, .int .i64 b.2]] w fun e w' => e = .returned (.tuple #[.agg #[.int .i64 (Z.DivideFigures a b).1.1, .int .i64 (Z.DivideFigures a b).1.2], .int .i64 (Z.DivideFigures a b).2]) ∧ K.Ext w w' := by
  cases hf : (Z.isFig a.1 a.2 && Z.isFig b.1 b.2)
  · have HE : Hid (Z.DivideFigures a b = ((0, 0), 1)) := Z.hide (by unfold Z.DivideFigures; rw [hf]; rfl)
    go_enter Tryz.func161, Tryz.ntmps161
    go_wp2_with ((go_at_call 178; refine K.call (by with_reducible rfl) (by with_reducible rfl) (areTwo_new a b _ _ (by simp)) ?_; rintro e w1 ⟨rfl, hw1⟩; obtain ⟨hcw1, hfw1⟩ := hw1.facts); obtain ⟨c_w1_0_0, c_w1_0_1, f_w1_0_0, f_w1_0_1⟩ := K.kp2 hw1 (w.heap.size) (.int .i64 (a.1)) (.int .i64 (a.2)); obtain ⟨c_w1_1_0, c_w1_1_1, f_w1_1_0, f_w1_1_1⟩ := K.kp2 hw1 (w.heap.size + 1) (.int .i64 (b.1)) (.int .i64 (b.2)); obtain ⟨c_w1_2_0, c_w1_2_1, f_w1_2_0, f_w1_2_1⟩ := K.kp2 hw1 (w.heap.size + 1 + 1) (.int .i64 (0)) (.int .i64 (0)))
    rw [HE.out]
    refine bodyPost_ret (v := .tuple #[.agg #[.int .i64 0, .int .i64 0], .int .i64 1]) (by unfold results; rw [Tryz.results161]; go_simp) rfl ⟨rfl, ?_⟩
    repeat with_reducible refine K.Ext.setCell ?_ (by dsimp only; omega) _
    exact K.bel
  · obtain ⟨a1, a2, a3, a4, b1, b2, b3, b4⟩ := Z.two_bd hf
    obtain ⟨q, hq⟩ : ∃ q, q = Z.round (a.1) b.1 (a.2 - b.2) := ⟨_, rfl⟩
    have HE : Hid (Z.DivideFigures a b = Z.figOr q) := Z.hide (by unfold Z.DivideFigures; rw [hf, hq]; rfl)
    skip
    have HR : ∀ w' : World, Calls Tryz.prog 180 #[.int .i64 (a.1), .int .i64 b.1, .int .i64 (a.2 - b.2)] w' fun e w'' => e = .returned (.agg #[.int .i64 q.1, .int .i64 q.2]) ∧ K.Ext w' w'' := fun w' => by rw [hq]; exact rounded_any _ _ _ _ (by omega) (by omega) (by omega) (by omega) (by omega) (by omega)
    clear hq
    go_enter Tryz.func161, Tryz.ntmps161
    go_wp2_with (first | ((go_at_call 178; refine K.call (by with_reducible rfl) (by with_reducible rfl) (areTwo_new a b _ _ (by simp)) ?_; rintro e w1 ⟨rfl, hw1⟩; obtain ⟨hcw1, hfw1⟩ := hw1.facts); obtain ⟨c_w1_0_0, c_w1_0_1, f_w1_0_0, f_w1_0_1⟩ := K.kp2 hw1 (w.heap.size) (.int .i64 (a.1)) (.int .i64 (a.2)); obtain ⟨c_w1_1_0, c_w1_1_1, f_w1_1_0, f_w1_1_1⟩ := K.kp2 hw1 (w.heap.size + 1) (.int .i64 (b.1)) (.int .i64 (b.2)); obtain ⟨c_w1_2_0, c_w1_2_1, f_w1_2_0, f_w1_2_1⟩ := K.kp2 hw1 (w.heap.size + 1 + 1) (.int .i64 (0)) (.int .i64 (0))) | ((go_at_call 180; refine K.call (by with_reducible rfl) (by with_reducible rfl) (HR _) ?_; rintro e w2 ⟨rfl, hw2⟩; obtain ⟨hcw2, hfw2⟩ := hw2.facts); obtain ⟨c_w2_0_0, c_w2_0_1, f_w2_0_0, f_w2_0_1⟩ := K.kp2 hw2 (w.heap.size) (.int .i64 (a.1)) (.int .i64 (a.2)); obtain ⟨c_w2_1_0, c_w2_1_1, f_w2_1_0, f_w2_1_1⟩ := K.kp2 hw2 (w.heap.size + 1) (.int .i64 (b.1)) (.int .i64 (b.2)); obtain ⟨c_w2_2_0, c_w2_2_1, f_w2_2_0, f_w2_2_1⟩ := K.kp2 hw2 (w.heap.size + 1 + 1) (.int .i64 (0)) (.int .i64 (0))) | ((go_at_call 179; refine K.call (by with_reducible rfl) (by with_reducible rfl) (limited_any q.1 q.2 _) ?_; rintro e w3 ⟨rfl, hw3⟩; obtain ⟨hcw3, hfw3⟩ := hw3.facts); obtain ⟨c_w3_0_0, c_w3_0_1, f_w3_0_0, f_w3_0_1⟩ := K.kp2 hw3 (w.heap.size) (.int .i64 (a.1)) (.int .i64 (a.2)); obtain ⟨c_w3_1_0, c_w3_1_1, f_w3_1_0, f_w3_1_1⟩ := K.kp2 hw3 (w.heap.size + 1) (.int .i64 (b.1)) (.int .i64 (b.2)); obtain ⟨c_w3_2_0, c_w3_2_1, f_w3_2_0, f_w3_2_1⟩ := K.kp2 hw3 (w.heap.size + 1 + 1) (.int .i64 (0)) (.int .i64 (0))))
    rw [HE.out]
    refine bodyPost_ret (v := .tuple #[.agg #[.int .i64 (Z.figOr q).1.1, .int .i64 (Z.figOr q).1.2], .int .i64 (Z.figOr q).2]) (by unfold results; rw [Tryz.results161]; go_simp) rfl ⟨rfl, ?_⟩
    repeat with_reducible refine K.Ext.setCell ?_ (by dsimp only; omega) _
    exact K.bel
end Go.Proofs.YtmgocfdhngeeiaaGreatDoor
end
section
namespace Go.Proofs.YtmgocfdhngeeiaaGreatDoor
open Go.RowKit
set_option maxHeartbeats 1600000 in
theorem l18Exponent_any (F : Z.Fm) (c : Int) (lo hi : Nat) (p : Value) (w : World) (hl : F.pw.length = F.nm.size) (hm : F.nm.size ≤ 1000000) (h : K.ints w lo hi p F.pw) :
    Calls Tryz.prog 71 #[.agg #[.int .i64 F.dg, .int .i64 F.tn, .string F.nm, p], .int .u8 c] w fun e w' => e = .returned (.int .i64 (Z.expo (Z.bs F.nm) F.pw c)) ∧ K.Ext w w' := by
  have h1 := h
  obtain ⟨o, cap, rfl, hh⟩ := h1
  have HL := Z.hide hl
  clear hl h
  go_enter Tryz.func71, Tryz.ntmps71
  go_wp2
  go_loop [5] (fun i => ∃ k : Nat, k ≤ F.nm.size ∧ i = .int .i64 k ∧ Hid (Z.expo (Z.bs F.nm) F.pw c = Z.expo ((Z.bs F.nm).drop k) (F.pw.drop k) c)) (fun i => F.nm.size - (intOf i).toNat)
  case atStart => exact ⟨0, Nat.zero_le _, rfl, Z.hide rfl⟩
  case round =>
    obtain ⟨k, hk, rfl, HE⟩ := hrel
    by_cases hlt : k < F.nm.size
    · have hlp : k < F.pw.length := by rw [HL.out]; exact hlt
      obtain ⟨b, off, rfl, _, _, hc⟩ := hh (by intro h0; simp [h0] at hlp)
      have HX := Z.hide (Z.expo_drop (Z.bs F.nm) F.pw c k (by rw [Z.bs_length]; exact hlt) hlp)
      have lb : b < w.heap.size := World.block_lt_of_cell? w _ (hc k hlp)
      have hck := hc k hlp
      have HB := Z.hide (Z.bs_get F.nm k hlt)
      clear hh hc
      by_cases he : ((F.nm[k]'hlt).toNat : Int) = c
      · rw [HB.out] at he
        have he' := Z.hide he
        have he2 : ((F.nm[k]'hlt).toNat : Int) = c := by rw [HB.out]; exact he
        clear he
        generalize hx : F.pw.getD k 0 = x at *
        have HQ := Z.hide hx
        clear hx
        go_wp2
        go_ret
        exact ⟨K.ri (by rw [HE.out, HX.out, if_pos he'.out]), K.bel⟩
      · have he' : Hid (¬ (Z.bs F.nm).getD k 0 = c) := Z.hide (by rw [← HB.out]; exact he)
        go_wp2
        go_round
        case rel => exact ⟨k + 1, by omega, by go_num, Z.hide (by rw [HE.out, HX.out, if_neg he'.out])⟩
        case measure => simp [intOf]; omega
    · obtain rfl : k = F.nm.size := by omega
      have HX := Z.hide (Z.expo_end (Z.bs F.nm) F.pw c F.nm.size (by rw [Z.bs_length]; exact Nat.le_refl _))
      clear hh
      go_wp2
      go_ret
      exact ⟨K.ri (by rw [HE.out, HX.out]), K.bel⟩
set_option maxHeartbeats 1000000 in
set_option maxRecDepth 100000 in
theorem sl_IndexByte (s : ByteArray) (c : Int) (w : World) :
    Calls Tryz.prog 125 #[.string s, .int .u8 c] w fun e w' => e = .returned (.int .i64 (Lib.indexByte s.data.toList c.toNat.toUInt8)) ∧ w = w' := by
  go_enter Tryz.func125, Tryz.ntmps125
  go_wp2
  rw [run_callFunc_extern Tryz.func156 (by kernel_rfl) (by kernel_rfl) (by kernel_rfl) (e := Extern.BytealgIndexByte.indexByte) (by kernel_rfl), Lib.run_indexByteString]
  simp only [Result.andThen]
  rw [Oper.upon_value]
  go_wp2
  go_ret
  exact ⟨rfl, rfl⟩
theorem IndexByte_any (s : ByteArray) (c : Int) (w : World) :
    Calls Tryz.prog 100 #[.string s, .int .u8 c] w fun e w' => e = .returned (.int .i64 (Lib.indexByte s.data.toList c.toNat.toUInt8)) ∧ w = w' := by
  go_enter Tryz.func100, Tryz.ntmps100
  go_wp2_with (go_at_call 125; refine K.call (by with_reducible rfl) (by with_reducible rfl) (sl_IndexByte _ _ _) ?_; rintro e w' ⟨rfl, rfl⟩)
  go_ret
  exact ⟨rfl, rfl⟩
set_option maxHeartbeats 1600000 in
theorem exponentOf_any (F : Z.Fm) (c : Int) (lo hi : Nat) (p : Value) (w : World) (hl : F.pw.length = F.nm.size) (hm : F.nm.size ≤ 1000000) (hc0 : 0 ≤ c) (hc1 : c ≤ 255) (h : K.ints w lo hi p F.pw) :
    Calls Tryz.prog 67 #[.agg #[.int .i64 F.dg, .int .i64 F.tn, .string F.nm, p], .int .u8 c] w fun e w' => e = .returned (.int .i64 (Z.expo (Z.bs F.nm) F.pw c)) ∧ K.Ext w w' := by
  have h1 := h
  obtain ⟨o, cap, rfl, hh⟩ := h1
  have hcc : ((c.toNat.toUInt8).toNat : Int) = c := by simp [Nat.toUInt8]; omega
  have hsz : F.nm.data.toList.length = F.nm.size := by rw [Array.length_toList]; rfl
  rcases Z.expo_index F.nm.data.toList F.pw c.toNat.toUInt8 (by rw [hsz, hl]) with ⟨h1, h2⟩ | ⟨k, hk, h1, h2⟩
  · have HE : Hid (Z.expo (Z.bs F.nm) F.pw c = 0) := Z.hide (by rw [← hcc]; exact h2)
    clear h2 hh h hcc hsz
    go_enter Tryz.func67, Tryz.ntmps67
    go_wp2_with (go_at_call 100; refine K.call (by with_reducible rfl) (by with_reducible rfl) (IndexByte_any _ _ _) ?_; rintro e w' ⟨rfl, rfl⟩)
    go_ret
    exact ⟨K.ri HE.out.symm, K.bel⟩
  · have HE : Hid (Z.expo (Z.bs F.nm) F.pw c = F.pw.getD k 0) := Z.hide (by rw [← hcc]; exact h2)
    have hlp : k < F.pw.length := by rw [hl, ← hsz]; exact hk
    obtain ⟨b, off, rfl, _, _, hc⟩ := hh (by intro h0; simp [h0] at hlp)
    have hck := hc k hlp
    have lb : b < w.heap.size := World.block_lt_of_cell? w _ hck
    clear h2 hh h hcc hsz hl hk hc
    generalize F.pw.getD k 0 = x at *
    go_enter Tryz.func67, Tryz.ntmps67
    go_wp2_with (go_at_call 100; refine K.call (by with_reducible rfl) (by with_reducible rfl) (IndexByte_any _ _ _) ?_; rintro e w' ⟨rfl, rfl⟩)
    go_ret
    exact ⟨K.ri HE.out.symm, K.bel⟩
end Go.Proofs.YtmgocfdhngeeiaaGreatDoor
end
section
namespace Go.Proofs.YtmgocfdhngeeiaaGreatDoor
open Go.RowKit
set_option maxHeartbeats 8000000 in
theorem impl_IsFormula (F : Z.Fm) {lo hi : Nat} {p : Value} (w : World) (hm : F.pw.length ≤ 1048576) (hn : F.nm.size ≤ 1048576) (h : K.ints w lo hi p F.pw) :
    Calls Tryz.prog 84 #[.agg #[.int .i64 F.dg, .int .i64 F.tn, .string F.nm, p]] w fun e w' => e = .returned (.bool (Z.isFormula F)) ∧ K.Ext w w' := by
  have h1 := h
  obtain ⟨o, cap, rfl, hh⟩ := h1
  clear h
  cases hf : Z.isFig F.dg F.tn
  · have HE : Hid (Z.isFormula F = false) := Z.hide (by unfold Z.isFormula; rw [hf]; rfl)
    go_enter Tryz.func84, Tryz.ntmps84
    go_wp2_with (go_at_call 117; refine K.call (by with_reducible rfl) (by with_reducible rfl) (impl_IsFigure F.dg F.tn _) ?_; rintro e w1 ⟨rfl, hw1⟩; obtain ⟨hcw1, hfw1⟩ := hw1.facts)
    go_ret
    exact ⟨K.rb HE.out.symm, K.bel⟩
  · by_cases h6 : F.nm.size ≤ 6
    · by_cases hl : F.pw.length = F.nm.size
      · have HE : Hid (Z.isFormula F = (List.range F.nm.size).all (Z.okAt (Z.bs F.nm) F.pw)) := Z.hide (by unfold Z.isFormula; rw [hf]; simp [h6, hl])
        have hl1 : ((F.pw.length : Int) != F.nm.size) = false := by simp; omega
        have HL := Z.hide hl
        clear hl
        go_enter Tryz.func84, Tryz.ntmps84
        go_wp2_with ((go_at_call 117; refine K.call (by with_reducible rfl) (by with_reducible rfl) (impl_IsFigure F.dg F.tn _) ?_; rintro e w1 ⟨rfl, hw1⟩; obtain ⟨hcw1, hfw1⟩ := hw1.facts); obtain ⟨c_w1_0_0, c_w1_0_1, c_w1_0_2, c_w1_0_3, f_w1_0_0, f_w1_0_1, f_w1_0_2, f_w1_0_3⟩ := K.kp4 hw1 (w.heap.size) (.int .i64 (F.dg)) (.int .i64 (F.tn)) (.string F.nm) (.slice o F.pw.length cap))
        go_loopw [27] (fun i wr => ∃ k : Nat, k ≤ F.nm.size ∧ i = .int .i64 k ∧ Hid ((List.range k).all (Z.okAt (Z.bs F.nm) F.pw) = true) ∧ Hid (K.Ext w1 wr)) (fun i _ => F.nm.size - (intOf i).toNat)
        case atStart => exact ⟨0, Nat.zero_le _, rfl, Z.hide rfl, Z.hide (K.Ext.refl _)⟩
        case round =>
          obtain ⟨k, hk, rfl, HP, HX⟩ := hrel
          by_cases hlt : k < F.nm.size
          · obtain ⟨c_wr_0_0, c_wr_0_1, c_wr_0_2, c_wr_0_3, f_wr_0_0, f_wr_0_1, f_wr_0_2, f_wr_0_3⟩ := K.kp4 HX.out (w.heap.size) (.int .i64 (F.dg)) (.int .i64 (F.tn)) (.string F.nm) (.slice o F.pw.length cap)
            have hlp : k < F.pw.length := by rw [HL.out]; exact hlt
            obtain ⟨b, off, rfl, _, _, hc⟩ := hh (by intro h0; simp [h0] at hlp)
            have lb : b < w.heap.size := World.block_lt_of_cell? w _ (hc k hlp)
            have hck : wr.cell? ⟨b, off + k, none⟩ = some (.int .i64 (F.pw.getD k 0)) := (K.Ext.trans K.bel HX.out).cell_of (hc k hlp)
            have HB := Z.hide (Z.bs_get F.nm k hlt)
            have i0 : (0 : Int) ≤ (k : Int) := Int.natCast_nonneg k
            have i1 : (k : Int) < (F.pw.length : Int) := by omega
            have i2 : (k : Int) < (F.nm.size : Int) := by omega
            have HW := Z.hide (show K.Ext w w1 from K.bel)
            clear hh hc hcw1 hfw1 c_w1_0_0 c_w1_0_1 c_w1_0_2 c_w1_0_3 f_w1_0_0 f_w1_0_1 f_w1_0_2 f_w1_0_3 hw1 hf h6 hl1 hm hn f_wr_0_0 f_wr_0_1 f_wr_0_2 f_wr_0_3 c_wr_0_0 c_wr_0_1
            generalize hx : F.pw.getD k 0 = x at *
            have HQ := Z.hide hx
            clear hx
            cases a1 : decide (((F.nm[k]'hlt).toNat : Int) < 97)
            · cases a2 : decide ((122 : Int) < ((F.nm[k]'hlt).toNat : Int))
              · by_cases hk0 : 0 < k
                · have j0 : (1 : Int) ≤ (k : Int) := by omega
                  have j1 : (k : Int) - 1 < (F.nm.size : Int) := by omega
                  have hk1 : k - 1 < F.nm.size := by omega
                  have j3 : decide ((0 : Int) < (k : Int)) = true := by simp; omega
                  have k0 := decide_eq_true hk0
                  have HB2 := Z.hide (Z.bs_get F.nm (k - 1) hk1)
                  cases a3 : decide (((F.nm[k]'hlt).toNat : Int) ≤ ((F.nm[k - 1]'hk1).toNat : Int))
                  · have a3n : ¬ ((F.nm[k]'hlt).toNat ≤ (F.nm[k - 1]'hk1).toNat) := by have := of_decide_eq_false a3; omega
                    have a3m : (F.nm[k - 1]'hk1).toNat < (F.nm[k]'hlt).toNat := by omega
                    cases a4 : x == 0
                    · cases a5 : (decide (-6 ≤ x) && decide (x ≤ 6))
                      ·
                        go_wp2_with fail
                        refine K.wp_region_x 37 [0, 1, 0, 0, 0, 0, 0, 1, 0, 0, 0, 0, 0, 0, 0, 0, 0, 1, 0, 0, 0, 1, 0, 0, 0, 0, 0, 0, 0, 0, 0, 0, 0, 0, 2, 0, 0] [K.SP.any, K.SP.any, K.SP.any, K.SP.any, K.SP.any, K.SP.any, K.SP.any, K.SP.any, K.SP.any, K.SP.any, K.SP.any, K.SP.any, K.SP.any, K.SP.any, K.SP.any, K.SP.any, K.SP.any, K.SP.any, K.SP.any, K.SP.any, K.SP.any, K.SP.any, K.SP.any, K.SP.any, K.SP.any, K.SP.any, K.SP.any, K.SP.any, K.SP.any, K.SP.any, K.SP.any, K.SP.any, K.SP.any, K.SP.any, K.SP.is (.bool (decide (-6 ≤ x) && decide (x ≤ 6)))] (by kernel_rfl) (by kernel_rfl) ?_
                        simp only [List.take_succ_cons, List.take_zero, List.drop_succ_cons, List.drop_zero]
                        refine K.xp ?_
                        simp only [Act.put, List.setIfInBounds_toArray, List.set]
                        refine K.xh ?_
                        simp only [Act.put, List.setIfInBounds_toArray, List.set]
                        iterate 5
                          refine K.xp ?_
                          simp only [Act.put, List.setIfInBounds_toArray, List.set]
                        refine K.xh ?_
                        simp only [Act.put, List.setIfInBounds_toArray, List.set]
                        iterate 9
                          refine K.xp ?_
                          simp only [Act.put, List.setIfInBounds_toArray, List.set]
                        refine K.xh ?_
                        simp only [Act.put, List.setIfInBounds_toArray, List.set]
                        iterate 3
                          refine K.xp ?_
                          simp only [Act.put, List.setIfInBounds_toArray, List.set]
                        refine K.xh ?_
                        simp only [Act.put, List.setIfInBounds_toArray, List.set]
                        iterate 12
                          refine K.xp ?_
                          simp only [Act.put, List.setIfInBounds_toArray, List.set]
                        apply K.x_call_is
                        · rfl
                        · rfl
                        · rfl
                        · intro w'; go_simp; first | done | rfl | exact ⟨rfl, rfl⟩
                        · intro w' hx hp; have hc := hx.all.1.1; have hf := hx.all.1.2; have hc' := hx.all.2.1; have hf' := hx.all.2.2; exact K.same_ext (within_any _ _ _ _)
                        intro w_34_ hx_34_
                        simp only [Act.put, List.setIfInBounds_toArray, List.set]
                        iterate 2
                          refine K.xp ?_
                          simp only [Act.put, List.setIfInBounds_toArray, List.set]
                        apply K.x_done
                        intro w2 h_x
                        have hx2 := hx_34_.trans h_x
                        clear h_x hx_34_
                        obtain ⟨⟨hcw2, hfw2⟩, hc'w2, hf'w2⟩ := hx2.all
                        refine wpList_nil ?_
                        refine NoPanic.normal ?_
                        go_wp2
                        go_ret
                        exact ⟨K.rb (by rw [HE.out, Z.range_all_bad _ _ k hlt (by rw [Z.okAt_of HB.out (fun _ => HB2.out) HQ.out, a1, a2, k0, a3, a4, a5]; rfl)]), K.Ext.trans HW.out (HX.out.trans K.bel)⟩
                      ·
                        go_wp2_with fail
                        refine K.wp_region_x 37 [0, 1, 0, 0, 0, 0, 0, 1, 0, 0, 0, 0, 0, 0, 0, 0, 0, 1, 0, 0, 0, 1, 0, 0, 0, 0, 0, 0, 0, 0, 0, 0, 0, 0, 2, 0, 0] [K.SP.any, K.SP.any, K.SP.any, K.SP.any, K.SP.any, K.SP.any, K.SP.any, K.SP.any, K.SP.any, K.SP.any, K.SP.any, K.SP.any, K.SP.any, K.SP.any, K.SP.any, K.SP.any, K.SP.any, K.SP.any, K.SP.any, K.SP.any, K.SP.any, K.SP.any, K.SP.any, K.SP.any, K.SP.any, K.SP.any, K.SP.any, K.SP.any, K.SP.any, K.SP.any, K.SP.any, K.SP.any, K.SP.any, K.SP.any, K.SP.is (.bool (decide (-6 ≤ x) && decide (x ≤ 6)))] (by kernel_rfl) (by kernel_rfl) ?_
                        simp only [List.take_succ_cons, List.take_zero, List.drop_succ_cons, List.drop_zero]
                        refine K.xp ?_
                        simp only [Act.put, List.setIfInBounds_toArray, List.set]
                        refine K.xh ?_
                        simp only [Act.put, List.setIfInBounds_toArray, List.set]
                        iterate 5
                          refine K.xp ?_
                          simp only [Act.put, List.setIfInBounds_toArray, List.set]
                        refine K.xh ?_
                        simp only [Act.put, List.setIfInBounds_toArray, List.set]
                        iterate 9
                          refine K.xp ?_
                          simp only [Act.put, List.setIfInBounds_toArray, List.set]
                        refine K.xh ?_
                        simp only [Act.put, List.setIfInBounds_toArray, List.set]
                        iterate 3
                          refine K.xp ?_
                          simp only [Act.put, List.setIfInBounds_toArray, List.set]
                        refine K.xh ?_
                        simp only [Act.put, List.setIfInBounds_toArray, List.set]
                        iterate 12
                          refine K.xp ?_
                          simp only [Act.put, List.setIfInBounds_toArray, List.set]
                        apply K.x_call_is
                        · rfl
                        · rfl
                        · rfl
                        · intro w'; go_simp; first | done | rfl | exact ⟨rfl, rfl⟩
                        · intro w' hx hp; have hc := hx.all.1.1; have hf := hx.all.1.2; have hc' := hx.all.2.1; have hf' := hx.all.2.2; exact K.same_ext (within_any _ _ _ _)
                        intro w_34_ hx_34_
                        simp only [Act.put, List.setIfInBounds_toArray, List.set]
                        iterate 2
                          refine K.xp ?_
                          simp only [Act.put, List.setIfInBounds_toArray, List.set]
                        apply K.x_done
                        intro w2 h_x
                        have hx2 := hx_34_.trans h_x
                        clear h_x hx_34_
                        obtain ⟨⟨hcw2, hfw2⟩, hc'w2, hf'w2⟩ := hx2.all
                        refine wpList_nil ?_
                        refine NoPanic.normal ?_
                        go_wp2
                        go_roundw
                        case rel => exact ⟨k + 1, by omega, by go_num, Z.hide (by rw [Z.range_all_succ, HP.out, show Z.okAt (Z.bs F.nm) F.pw k = true by rw [Z.okAt_of HB.out (fun _ => HB2.out) HQ.out, a1, a2, k0, a3, a4, a5]; rfl]; rfl), Z.hide (HX.out.trans K.bel)⟩
                        case measure => simp [intOf]; omega
                    ·
                      go_wp2_with fail
                      refine K.wp_region_x 37 [0, 1, 0, 0, 0, 0, 0, 1, 0, 0, 0, 0, 0, 0, 0, 0, 0, 1, 0, 0, 0, 1, 0, 0, 0, 0, 0, 0, 0, 0, 0, 0, 0, 0, 2, 0, 0] [K.SP.any, K.SP.any, K.SP.any, K.SP.any, K.SP.any, K.SP.any, K.SP.any, K.SP.any, K.SP.any, K.SP.any, K.SP.any, K.SP.any, K.SP.any, K.SP.any, K.SP.any, K.SP.any, K.SP.any, K.SP.any, K.SP.any, K.SP.any, K.SP.any, K.SP.any, K.SP.any, K.SP.any, K.SP.any, K.SP.any, K.SP.any, K.SP.any, K.SP.any, K.SP.any, K.SP.any, K.SP.any, K.SP.any, K.SP.any, K.SP.any] (by kernel_rfl) (by kernel_rfl) ?_
                      simp only [List.take_succ_cons, List.take_zero, List.drop_succ_cons, List.drop_zero]
                      refine K.xp ?_
                      simp only [Act.put, List.setIfInBounds_toArray, List.set]
                      refine K.xh ?_
                      simp only [Act.put, List.setIfInBounds_toArray, List.set]
                      iterate 5
                        refine K.xp ?_
                        simp only [Act.put, List.setIfInBounds_toArray, List.set]
                      refine K.xh ?_
                      simp only [Act.put, List.setIfInBounds_toArray, List.set]
                      iterate 9
                        refine K.xp ?_
                        simp only [Act.put, List.setIfInBounds_toArray, List.set]
                      refine K.xh ?_
                      simp only [Act.put, List.setIfInBounds_toArray, List.set]
                      iterate 3
                        refine K.xp ?_
                        simp only [Act.put, List.setIfInBounds_toArray, List.set]
                      refine K.xh ?_
                      simp only [Act.put, List.setIfInBounds_toArray, List.set]
                      iterate 11
                        refine K.xp ?_
                        simp only [Act.put, List.setIfInBounds_toArray, List.set]
                      iterate 3
                        refine K.x_skip (by rfl) ?_
                        simp only [Act.put, List.setIfInBounds_toArray, List.set]
                      refine K.xp ?_
                      simp only [Act.put, List.setIfInBounds_toArray, List.set]
                      apply K.x_done
                      intro w2 h_x
                      have hx2 := K.Ext.id h_x
                      clear h_x
                      obtain ⟨⟨hcw2, hfw2⟩, hc'w2, hf'w2⟩ := hx2.all
                      refine wpList_nil ?_
                      refine NoPanic.normal ?_
                      go_wp2
                      go_ret
                      exact ⟨K.rb (by rw [HE.out, Z.range_all_bad _ _ k hlt (by rw [Z.okAt_of HB.out (fun _ => HB2.out) HQ.out, a1, a2, k0, a3, a4]; rfl)]), K.Ext.trans HW.out (HX.out.trans K.bel)⟩
                  · have a3n : (F.nm[k]'hlt).toNat ≤ (F.nm[k - 1]'hk1).toNat := by have := of_decide_eq_true a3; omega
                    go_wp2_with fail
                    refine K.wp_region_x 37 [0, 1, 0, 0, 0, 0, 0, 1, 0, 0, 0, 0, 0, 0, 0, 0, 0, 1, 0, 0, 0, 1, 0, 0, 0, 0, 0, 0, 0, 0, 0, 0, 0, 0, 2, 0, 0] [K.SP.any, K.SP.any, K.SP.any, K.SP.any, K.SP.any, K.SP.any, K.SP.any, K.SP.any, K.SP.any, K.SP.any, K.SP.any, K.SP.any, K.SP.any, K.SP.any, K.SP.any, K.SP.any, K.SP.any, K.SP.any, K.SP.any, K.SP.any, K.SP.any, K.SP.any, K.SP.any, K.SP.any, K.SP.any, K.SP.any, K.SP.any, K.SP.any, K.SP.any, K.SP.any, K.SP.any, K.SP.any, K.SP.any, K.SP.any, K.SP.any] (by kernel_rfl) (by kernel_rfl) ?_
                    simp only [List.take_succ_cons, List.take_zero, List.drop_succ_cons, List.drop_zero]
                    refine K.xp ?_
                    simp only [Act.put, List.setIfInBounds_toArray, List.set]
                    refine K.xh ?_
                    simp only [Act.put, List.setIfInBounds_toArray, List.set]
                    iterate 5
                      refine K.xp ?_
                      simp only [Act.put, List.setIfInBounds_toArray, List.set]
                    refine K.xh ?_
                    simp only [Act.put, List.setIfInBounds_toArray, List.set]
                    iterate 9
                      refine K.xp ?_
                      simp only [Act.put, List.setIfInBounds_toArray, List.set]
                    refine K.xh ?_
                    simp only [Act.put, List.setIfInBounds_toArray, List.set]
                    iterate 3
                      refine K.xp ?_
                      simp only [Act.put, List.setIfInBounds_toArray, List.set]
                    refine K.xh ?_
                    simp only [Act.put, List.setIfInBounds_toArray, List.set]
                    iterate 7
                      refine K.xp ?_
                      simp only [Act.put, List.setIfInBounds_toArray, List.set]
                    iterate 2
                      refine K.x_skip (by rfl) ?_
                      simp only [Act.put, List.setIfInBounds_toArray, List.set]
                    iterate 2
                      refine K.xp ?_
                      simp only [Act.put, List.setIfInBounds_toArray, List.set]
                    iterate 3
                      refine K.x_skip (by rfl) ?_
                      simp only [Act.put, List.setIfInBounds_toArray, List.set]
                    refine K.xp ?_
                    simp only [Act.put, List.setIfInBounds_toArray, List.set]
                    apply K.x_done
                    intro w2 h_x
                    have hx2 := K.Ext.id h_x
                    clear h_x
                    obtain ⟨⟨hcw2, hfw2⟩, hc'w2, hf'w2⟩ := hx2.all
                    refine wpList_nil ?_
                    refine NoPanic.normal ?_
                    go_wp2
                    go_ret
                    exact ⟨K.rb (by rw [HE.out, Z.range_all_bad _ _ k hlt (by rw [Z.okAt_of HB.out (fun _ => HB2.out) HQ.out, a1, a2, k0, a3]; rfl)]), K.Ext.trans HW.out (HX.out.trans K.bel)⟩
                · have j3 : decide ((0 : Int) < (k : Int)) = false := by simp; omega
                  have k0 := decide_eq_false hk0
                  cases a4 : x == 0
                  · cases a5 : (decide (-6 ≤ x) && decide (x ≤ 6))
                    ·
                      go_wp2_with fail
                      refine K.wp_region_x 37 [0, 1, 0, 0, 0, 0, 0, 1, 0, 0, 0, 0, 0, 0, 0, 0, 0, 1, 0, 0, 0, 1, 0, 0, 0, 0, 0, 0, 0, 0, 0, 0, 0, 0, 2, 0, 0] [K.SP.any, K.SP.any, K.SP.any, K.SP.any, K.SP.any, K.SP.any, K.SP.any, K.SP.any, K.SP.any, K.SP.any, K.SP.any, K.SP.any, K.SP.any, K.SP.any, K.SP.any, K.SP.any, K.SP.any, K.SP.any, K.SP.any, K.SP.any, K.SP.any, K.SP.any, K.SP.any, K.SP.any, K.SP.any, K.SP.any, K.SP.any, K.SP.any, K.SP.any, K.SP.any, K.SP.any, K.SP.any, K.SP.any, K.SP.any, K.SP.is (.bool (decide (-6 ≤ x) && decide (x ≤ 6)))] (by kernel_rfl) (by kernel_rfl) ?_
                      simp only [List.take_succ_cons, List.take_zero, List.drop_succ_cons, List.drop_zero]
                      refine K.xp ?_
                      simp only [Act.put, List.setIfInBounds_toArray, List.set]
                      refine K.xh ?_
                      simp only [Act.put, List.setIfInBounds_toArray, List.set]
                      iterate 5
                        refine K.xp ?_
                        simp only [Act.put, List.setIfInBounds_toArray, List.set]
                      refine K.xh ?_
                      simp only [Act.put, List.setIfInBounds_toArray, List.set]
                      iterate 8
                        refine K.xp ?_
                        simp only [Act.put, List.setIfInBounds_toArray, List.set]
                      iterate 10
                        refine K.x_skip (by rfl) ?_
                        simp only [Act.put, List.setIfInBounds_toArray, List.set]
                      iterate 8
                        refine K.xp ?_
                        simp only [Act.put, List.setIfInBounds_toArray, List.set]
                      apply K.x_call_is
                      · rfl
                      · rfl
                      · rfl
                      · intro w'; go_simp; first | done | rfl | exact ⟨rfl, rfl⟩
                      · intro w' hx hp; have hc := hx.all.1.1; have hf := hx.all.1.2; have hc' := hx.all.2.1; have hf' := hx.all.2.2; exact K.same_ext (within_any _ _ _ _)
                      intro w_34_ hx_34_
                      simp only [Act.put, List.setIfInBounds_toArray, List.set]
                      iterate 2
                        refine K.xp ?_
                        simp only [Act.put, List.setIfInBounds_toArray, List.set]
                      apply K.x_done
                      intro w2 h_x
                      have hx2 := hx_34_.trans h_x
                      clear h_x hx_34_
                      obtain ⟨⟨hcw2, hfw2⟩, hc'w2, hf'w2⟩ := hx2.all
                      refine wpList_nil ?_
                      refine NoPanic.normal ?_
                      go_wp2
                      go_ret
                      exact ⟨K.rb (by rw [HE.out, Z.range_all_bad _ _ k hlt (by rw [Z.okAt_of HB.out (m := 0) (fun h => absurd h hk0) HQ.out, a1, a2, k0, a4, a5]; rfl)]), K.Ext.trans HW.out (HX.out.trans K.bel)⟩
                    ·
                      go_wp2_with fail
                      refine K.wp_region_x 37 [0, 1, 0, 0, 0, 0, 0, 1, 0, 0, 0, 0, 0, 0, 0, 0, 0, 1, 0, 0, 0, 1, 0, 0, 0, 0, 0, 0, 0, 0, 0, 0, 0, 0, 2, 0, 0] [K.SP.any, K.SP.any, K.SP.any, K.SP.any, K.SP.any, K.SP.any, K.SP.any, K.SP.any, K.SP.any, K.SP.any, K.SP.any, K.SP.any, K.SP.any, K.SP.any, K.SP.any, K.SP.any, K.SP.any, K.SP.any, K.SP.any, K.SP.any, K.SP.any, K.SP.any, K.SP.any, K.SP.any, K.SP.any, K.SP.any, K.SP.any, K.SP.any, K.SP.any, K.SP.any, K.SP.any, K.SP.any, K.SP.any, K.SP.any, K.SP.is (.bool (decide (-6 ≤ x) && decide (x ≤ 6)))] (by kernel_rfl) (by kernel_rfl) ?_
                      simp only [List.take_succ_cons, List.take_zero, List.drop_succ_cons, List.drop_zero]
                      refine K.xp ?_
                      simp only [Act.put, List.setIfInBounds_toArray, List.set]
                      refine K.xh ?_
                      simp only [Act.put, List.setIfInBounds_toArray, List.set]
                      iterate 5
                        refine K.xp ?_
                        simp only [Act.put, List.setIfInBounds_toArray, List.set]
                      refine K.xh ?_
                      simp only [Act.put, List.setIfInBounds_toArray, List.set]
                      iterate 8
                        refine K.xp ?_
                        simp only [Act.put, List.setIfInBounds_toArray, List.set]
                      iterate 10
                        refine K.x_skip (by rfl) ?_
                        simp only [Act.put, List.setIfInBounds_toArray, List.set]
                      iterate 8
                        refine K.xp ?_
                        simp only [Act.put, List.setIfInBounds_toArray, List.set]
                      apply K.x_call_is
                      · rfl
                      · rfl
                      · rfl
                      · intro w'; go_simp; first | done | rfl | exact ⟨rfl, rfl⟩
                      · intro w' hx hp; have hc := hx.all.1.1; have hf := hx.all.1.2; have hc' := hx.all.2.1; have hf' := hx.all.2.2; exact K.same_ext (within_any _ _ _ _)
                      intro w_34_ hx_34_
                      simp only [Act.put, List.setIfInBounds_toArray, List.set]
                      iterate 2
                        refine K.xp ?_
                        simp only [Act.put, List.setIfInBounds_toArray, List.set]
                      apply K.x_done
                      intro w2 h_x
                      have hx2 := hx_34_.trans h_x
                      clear h_x hx_34_
                      obtain ⟨⟨hcw2, hfw2⟩, hc'w2, hf'w2⟩ := hx2.all
                      refine wpList_nil ?_
                      refine NoPanic.normal ?_
                      go_wp2
                      go_roundw
                      case rel => exact ⟨k + 1, by omega, by go_num, Z.hide (by rw [Z.range_all_succ, HP.out, show Z.okAt (Z.bs F.nm) F.pw k = true by rw [Z.okAt_of HB.out (m := 0) (fun h => absurd h hk0) HQ.out, a1, a2, k0, a4, a5]; rfl]; rfl), Z.hide (HX.out.trans K.bel)⟩
                      case measure => simp [intOf]; omega
                  ·
                    go_wp2_with fail
                    refine K.wp_region_x 37 [0, 1, 0, 0, 0, 0, 0, 1, 0, 0, 0, 0, 0, 0, 0, 0, 0, 1, 0, 0, 0, 1, 0, 0, 0, 0, 0, 0, 0, 0, 0, 0, 0, 0, 2, 0, 0] [K.SP.any, K.SP.any, K.SP.any, K.SP.any, K.SP.any, K.SP.any, K.SP.any, K.SP.any, K.SP.any, K.SP.any, K.SP.any, K.SP.any, K.SP.any, K.SP.any, K.SP.any, K.SP.any, K.SP.any, K.SP.any, K.SP.any, K.SP.any, K.SP.any, K.SP.any, K.SP.any, K.SP.any, K.SP.any, K.SP.any, K.SP.any, K.SP.any, K.SP.any, K.SP.any, K.SP.any, K.SP.any, K.SP.any, K.SP.any, K.SP.any] (by kernel_rfl) (by kernel_rfl) ?_
                    simp only [List.take_succ_cons, List.take_zero, List.drop_succ_cons, List.drop_zero]
                    refine K.xp ?_
                    simp only [Act.put, List.setIfInBounds_toArray, List.set]
                    refine K.xh ?_
                    simp only [Act.put, List.setIfInBounds_toArray, List.set]
                    iterate 5
                      refine K.xp ?_
                      simp only [Act.put, List.setIfInBounds_toArray, List.set]
                    refine K.xh ?_
                    simp only [Act.put, List.setIfInBounds_toArray, List.set]
                    iterate 8
                      refine K.xp ?_
                      simp only [Act.put, List.setIfInBounds_toArray, List.set]
                    iterate 10
                      refine K.x_skip (by rfl) ?_
                      simp only [Act.put, List.setIfInBounds_toArray, List.set]
                    iterate 7
                      refine K.xp ?_
                      simp only [Act.put, List.setIfInBounds_toArray, List.set]
                    iterate 3
                      refine K.x_skip (by rfl) ?_
                      simp only [Act.put, List.setIfInBounds_toArray, List.set]
                    refine K.xp ?_
                    simp only [Act.put, List.setIfInBounds_toArray, List.set]
                    apply K.x_done
                    intro w2 h_x
                    have hx2 := K.Ext.id h_x
                    clear h_x
                    obtain ⟨⟨hcw2, hfw2⟩, hc'w2, hf'w2⟩ := hx2.all
                    refine wpList_nil ?_
                    refine NoPanic.normal ?_
                    go_wp2
                    go_ret
                    exact ⟨K.rb (by rw [HE.out, Z.range_all_bad _ _ k hlt (by rw [Z.okAt_of HB.out (m := 0) (fun h => absurd h hk0) HQ.out, a1, a2, k0, a4]; rfl)]), K.Ext.trans HW.out (HX.out.trans K.bel)⟩
              ·
                go_wp2_with fail
                refine K.wp_region_x 37 [0, 1, 0, 0, 0, 0, 0, 1, 0, 0, 0, 0, 0, 0, 0, 0, 0, 1, 0, 0, 0, 1, 0, 0, 0, 0, 0, 0, 0, 0, 0, 0, 0, 0, 2, 0, 0] [K.SP.any, K.SP.any, K.SP.any, K.SP.any, K.SP.any, K.SP.any, K.SP.any, K.SP.any, K.SP.any, K.SP.any, K.SP.any, K.SP.any, K.SP.any, K.SP.any, K.SP.any, K.SP.any, K.SP.any, K.SP.any, K.SP.any, K.SP.any, K.SP.any, K.SP.any, K.SP.any, K.SP.any, K.SP.any, K.SP.any, K.SP.any, K.SP.any, K.SP.any, K.SP.any, K.SP.any, K.SP.any, K.SP.any, K.SP.any, K.SP.any] (by kernel_rfl) (by kernel_rfl) ?_
                simp only [List.take_succ_cons, List.take_zero, List.drop_succ_cons, List.drop_zero]
                refine K.xp ?_
                simp only [Act.put, List.setIfInBounds_toArray, List.set]
                refine K.xh ?_
                simp only [Act.put, List.setIfInBounds_toArray, List.set]
                iterate 5
                  refine K.xp ?_
                  simp only [Act.put, List.setIfInBounds_toArray, List.set]
                refine K.xh ?_
                simp only [Act.put, List.setIfInBounds_toArray, List.set]
                iterate 5
                  refine K.xp ?_
                  simp only [Act.put, List.setIfInBounds_toArray, List.set]
                iterate 14
                  refine K.x_skip (by rfl) ?_
                  simp only [Act.put, List.setIfInBounds_toArray, List.set]
                iterate 2
                  refine K.xp ?_
                  simp only [Act.put, List.setIfInBounds_toArray, List.set]
                iterate 2
                  refine K.x_skip (by rfl) ?_
                  simp only [Act.put, List.setIfInBounds_toArray, List.set]
                iterate 2
                  refine K.xp ?_
                  simp only [Act.put, List.setIfInBounds_toArray, List.set]
                iterate 3
                  refine K.x_skip (by rfl) ?_
                  simp only [Act.put, List.setIfInBounds_toArray, List.set]
                refine K.xp ?_
                simp only [Act.put, List.setIfInBounds_toArray, List.set]
                apply K.x_done
                intro w2 h_x
                have hx2 := K.Ext.id h_x
                clear h_x
                obtain ⟨⟨hcw2, hfw2⟩, hc'w2, hf'w2⟩ := hx2.all
                refine wpList_nil ?_
                refine NoPanic.normal ?_
                go_wp2
                go_ret
                exact ⟨K.rb (by rw [HE.out, Z.range_all_bad _ _ k hlt (by rw [Z.okAt_of HB.out (fun _ => rfl) HQ.out, a1, a2]; rfl)]), K.Ext.trans HW.out (HX.out.trans K.bel)⟩
            ·
              go_wp2_with fail
              refine K.wp_region_x 37 [0, 1, 0, 0, 0, 0, 0, 1, 0, 0, 0, 0, 0, 0, 0, 0, 0, 1, 0, 0, 0, 1, 0, 0, 0, 0, 0, 0, 0, 0, 0, 0, 0, 0, 2, 0, 0] [K.SP.any, K.SP.any, K.SP.any, K.SP.any, K.SP.any, K.SP.any, K.SP.any, K.SP.any, K.SP.any, K.SP.any, K.SP.any, K.SP.any, K.SP.any, K.SP.any, K.SP.any, K.SP.any, K.SP.any, K.SP.any, K.SP.any, K.SP.any, K.SP.any, K.SP.any, K.SP.any, K.SP.any, K.SP.any, K.SP.any, K.SP.any, K.SP.any, K.SP.any, K.SP.any, K.SP.any, K.SP.any, K.SP.any, K.SP.any, K.SP.any] (by kernel_rfl) (by kernel_rfl) ?_
              simp only [List.take_succ_cons, List.take_zero, List.drop_succ_cons, List.drop_zero]
              refine K.xp ?_
              simp only [Act.put, List.setIfInBounds_toArray, List.set]
              refine K.xh ?_
              simp only [Act.put, List.setIfInBounds_toArray, List.set]
              iterate 4
                refine K.xp ?_
                simp only [Act.put, List.setIfInBounds_toArray, List.set]
              iterate 5
                refine K.x_skip (by rfl) ?_
                simp only [Act.put, List.setIfInBounds_toArray, List.set]
              iterate 2
                refine K.xp ?_
                simp only [Act.put, List.setIfInBounds_toArray, List.set]
              iterate 14
                refine K.x_skip (by rfl) ?_
                simp only [Act.put, List.setIfInBounds_toArray, List.set]
              iterate 2
                refine K.xp ?_
                simp only [Act.put, List.setIfInBounds_toArray, List.set]
              iterate 2
                refine K.x_skip (by rfl) ?_
                simp only [Act.put, List.setIfInBounds_toArray, List.set]
              iterate 2
                refine K.xp ?_
                simp only [Act.put, List.setIfInBounds_toArray, List.set]
              iterate 3
                refine K.x_skip (by rfl) ?_
                simp only [Act.put, List.setIfInBounds_toArray, List.set]
              refine K.xp ?_
              simp only [Act.put, List.setIfInBounds_toArray, List.set]
              apply K.x_done
              intro w2 h_x
              have hx2 := K.Ext.id h_x
              clear h_x
              obtain ⟨⟨hcw2, hfw2⟩, hc'w2, hf'w2⟩ := hx2.all
              refine wpList_nil ?_
              refine NoPanic.normal ?_
              go_wp2
              go_ret
              exact ⟨K.rb (by rw [HE.out, Z.range_all_bad _ _ k hlt (by rw [Z.okAt_of HB.out (fun _ => rfl) HQ.out, a1]; rfl)]), K.Ext.trans HW.out (HX.out.trans K.bel)⟩
          · obtain rfl : k = F.nm.size := by omega
            obtain ⟨c_wr_0_0, c_wr_0_1, c_wr_0_2, c_wr_0_3, f_wr_0_0, f_wr_0_1, f_wr_0_2, f_wr_0_3⟩ := K.kp4 HX.out (w.heap.size) (.int .i64 (F.dg)) (.int .i64 (F.tn)) (.string F.nm) (.slice o F.pw.length cap)
            have HW := Z.hide (show K.Ext w w1 from K.bel)
            have hlq : ¬ (F.nm.size < F.pw.length) := by rw [HL.out]; omega
            clear hh
            go_wp2
            go_ret
            exact ⟨K.rb (by rw [HE.out, HP.out]), HW.out.trans HX.out⟩
      · have HE : Hid (Z.isFormula F = false) := Z.hide (by unfold Z.isFormula; simp [hl])
        have hl1 : ((F.pw.length : Int) != F.nm.size) = true := by simp; omega
        clear hl
        go_enter Tryz.func84, Tryz.ntmps84
        go_wp2_with ((go_at_call 117; refine K.call (by with_reducible rfl) (by with_reducible rfl) (impl_IsFigure F.dg F.tn _) ?_; rintro e w1 ⟨rfl, hw1⟩; obtain ⟨hcw1, hfw1⟩ := hw1.facts); obtain ⟨c_w1_0_0, c_w1_0_1, c_w1_0_2, c_w1_0_3, f_w1_0_0, f_w1_0_1, f_w1_0_2, f_w1_0_3⟩ := K.kp4 hw1 (w.heap.size) (.int .i64 (F.dg)) (.int .i64 (F.tn)) (.string F.nm) (.slice o F.pw.length cap))
        go_ret
        exact ⟨K.rb HE.out.symm, K.bel⟩
    · have HE : Hid (Z.isFormula F = false) := Z.hide (by unfold Z.isFormula; simp [h6])
      go_enter Tryz.func84, Tryz.ntmps84
      go_wp2_with ((go_at_call 117; refine K.call (by with_reducible rfl) (by with_reducible rfl) (impl_IsFigure F.dg F.tn _) ?_; rintro e w1 ⟨rfl, hw1⟩; obtain ⟨hcw1, hfw1⟩ := hw1.facts); obtain ⟨c_w1_0_0, c_w1_0_1, c_w1_0_2, c_w1_0_3, f_w1_0_0, f_w1_0_1, f_w1_0_2, f_w1_0_3⟩ := K.kp4 hw1 (w.heap.size) (.int .i64 (F.dg)) (.int .i64 (F.tn)) (.string F.nm) (.slice o F.pw.length cap))
      go_ret
      exact ⟨K.rb HE.out.symm, K.bel⟩
end Go.Proofs.YtmgocfdhngeeiaaGreatDoor
end
section
namespace Go.K
open Go.RowKit
theorem set_block {w : World} {k : Nat} {a : Addr} {v : Value} (hne : k ≠ a.block) : (w.setCell a v).heap[k]? = w.heap[k]? := Below.heap_setCell _ _ _ _ hne
theorem push_str {S T : ByteArray} {l : List UInt8} {c : UInt8} (hS : S = ⟨l.toArray⟩) (hT : T = ⟨#[c]⟩) : S ++ T = ⟨(l ++ [c]).toArray⟩ := by
  subst hS hT
  apply ByteArray.ext
  rw [ByteArray.data_append]
  simp
end Go.K
namespace Go.Proofs.YtmgocfdhngeeiaaGreatDoor
open Go.RowKit
set_option maxRecDepth 100000 in
set_option maxHeartbeats 3200000 in
theorem madeOf_any (d t : Int) (f : Nat → Int) (g : Nat) (a1 a2 : Value) (w : World) (hg : ∀ (args : Array Value) (w' : World), (callFunc g args).run Tryz.prog w' = .ok (.enter g args) w')
    (hf : ∀ (i : Nat) (w' : World), i < 26 → K.Ext w w' → Calls Tryz.prog g #[.int .u8 (97 + (i : Int)), a1, a2] w' fun e w'' => e = .returned (.int .i64 (f i)) ∧ K.Ext w' w'') :
    Calls Tryz.prog 159 #[.agg #[.int .i64 d, .int .i64 t], .func (.func g) #[] #[a1, a2]] w fun e w' => (∃ p', e = .returned (.tuple #[.agg #[.int .i64 ((Z.madeOr d t f).1).dg, .int .i64 ((Z.madeOr d t f).1).tn, .string ((Z.madeOr d t f).1).nm, p'], .int .i64 (Z.madeOr d t f).2]) ∧ K.own w' w.heap.size w'.heap.size p' (Z.madeOr d t f).1.pw) ∧ K.Ext w w' := by
  have HF := Z.hide hf
  clear hf
  have I64 := Z.hide info_int
  go_enter Tryz.func159, Tryz.ntmps159
  go_wp2
  go_loopw [7] (fun nm wr => ∃ k : Nat, k ≤ 26 ∧ nm = .int .u8 (97 + (k : Int)) ∧ Hid (∃ pv, wr.heap[w.heap.size + 1 + 1]? = some (.cells #[.int .i64 d, .int .i64 t, .string ⟨(Z.mkB f k).toArray⟩, pv] 36) ∧ wr.ownsRow (w.heap.size + 3) 2 1 pv (Z.mkP f k).length ((Z.mkP f k).map (Value.int .i64))) ∧ Hid (K.Ext w wr) ∧ Hid (wr.heap[w.heap.size + 1]? = some (.cells #[.int .i64 0, .int .i64 0, .string ⟨#[]⟩, .slice none 0 0] 36))) (fun nm _ => 123 - (intOf nm).toNat)
  case atStart =>
    exact ⟨0, Nat.zero_le _, rfl, Z.hide ⟨_, K.block_new (by simp), World.ownsRow_nil _ _ _ _⟩, Z.hide K.bel, Z.hide (((K.Ext.refl _).alloc _).block (K.block_new (by simp)))⟩
  case round =>
    obtain ⟨k, hk, rfl, HO, HX, B1⟩ := hrel
    obtain ⟨pv, hb2, hrow⟩ := HO.out
    have B2 := Z.hide hb2
    have HP := Z.hide hrow
    clear hb2 hrow HO
    have k0 : (0 : Int) ≤ (k : Int) := Int.natCast_nonneg k
    by_cases hlt : k < 26
    · have k1 : (k : Int) < 26 := by omega
      have k2 : 97 + (k : Int) ≤ 122 := by omega
      have q1 : IntKind.u8.wrap (97 + (k : Int) + 1) = 97 + (k : Int) + 1 := IntWalk.u8_in _ (by omega)
      obtain ⟨S, HS⟩ : ∃ S : ByteArray, S = ⟨(Z.mkB f k).toArray⟩ := ⟨_, rfl⟩
      obtain ⟨T, HT⟩ : ∃ T : ByteArray, Hid (T = ⟨#[UInt8.ofNat (97 + (k : Int)).toNat]⟩) := ⟨_, Z.hide rfl⟩
      rw [← HS] at B2
      have HS' := Z.hide HS
      clear HS
      have ln := Z.hide (Z.mkP_le f k)
      by_cases hz : f k = 0
      · have e1 : Hid (Z.mkB f (k + 1) = Z.mkB f k) := Z.hide (by simp [Z.mkB, hz])
        have e2' : Hid (Z.mkP f (k + 1) = Z.mkP f k) := Z.hide (by simp [Z.mkP, hz])
        go_wp2_with (refine K.call (by with_reducible rfl) (by with_reducible rfl) (HF.out k wr hlt HX.out) ?_; rintro e w1 ⟨rfl, hx1⟩; have C2 := Z.hide (K.Ext.block_of B2.out hx1); have C1 := Z.hide (K.Ext.block_of B1.out hx1); have HX1 : Hid (K.Ext w w1) := Z.hide (HX.out.trans hx1); have HP1 := Z.hide (K.row_ext HP.out hx1); have lw : w.heap.size + 1 + 1 < w1.heap.size := (Array.getElem?_eq_some_iff.1 C2.out).1; have d2 : w1.cell? ⟨w.heap.size + 1 + 1, 2, none⟩ = some (.string S) := K.cell_at C2.out rfl; have d3 : w1.cell? ⟨w.heap.size + 1 + 1, 3, none⟩ = some pv := K.cell_at C2.out rfl; have e2 : w1.frozen? ⟨w.heap.size + 1 + 1, 2, none⟩ = false := K.thaw_at C2.out; have e3 : w1.frozen? ⟨w.heap.size + 1 + 1, 3, none⟩ = false := K.thaw_at C2.out; have hcv : (convert 22 9 (.slice (some ⟨w1.heap.size, 0, none⟩) 1 1)).run Tryz.prog (w1.alloc (.cells #[.int .u8 (97 + (k : Int))] 5)) = .ok (.string T) (w1.alloc (.cells #[.int .u8 (97 + (k : Int))] 5)) := (by rw [HT.out]; exact K.byte_str Tryz.underlying22 Tryz.underlying5 Tryz.underlying9 (by omega) (by omega) (K.block_new rfl)))
        go_roundw
        case rel => exact ⟨k + 1, by omega, by go_num, Z.hide ⟨pv, by rw [e1.out, ← HS'.out]; exact C2.out, by rw [e2'.out]; exact HP1.out⟩, HX1, C1⟩
        case measure => simp [intOf]; omega
      · have E1 := Z.hide (show Z.mkB f (k + 1) = Z.mkB f k ++ [UInt8.ofNat (97 + (k : Int)).toNat] by have h_ : (97 + (k : Int)).toNat = 97 + k := (by omega); rw [h_]; simp [Z.mkB, hz])
        have E2 := Z.hide (show Z.mkP f (k + 1) = Z.mkP f k ++ [f k] by simp [Z.mkP, hz])
        obtain ⟨np, hnp⟩ : ∃ np, np = (Z.mkP f k).length := ⟨_, rfl⟩
        have ln' : np ≤ k := by rw [hnp]; exact ln.out
        have hsz : ¬ (9223372036854775807 < S.size + T.size) := by
          have h1 : S.size = (Z.mkB f k).length := by rw [HS'.out]; rfl
          have h2 : T.size = 1 := by rw [HT.out]; rfl
          have h3 := Z.mk_len f k
          have h4 := ln.out
          omega
        obtain ⟨it0, hi0, hz0, hz1, hz2⟩ := info_parts I64.out
        have HPn := Z.hide hnp
        rw [← hnp] at HP
        clear hnp
        obtain ⟨x, hx⟩ : ∃ x, x = f k := ⟨_, rfl⟩
        have HK : ∀ w' : World, K.Ext w w' → Calls Tryz.prog g #[.int .u8 (97 + (k : Int)), a1, a2] w' fun e w'' => e = .returned (.int .i64 x) ∧ K.Ext w' w'' := fun w' h' => by rw [hx]; exact HF.out k w' hlt h'
        rw [← hx] at hz E2
        have HKh := Z.hide HK
        clear HK hx
        go_wp2_with (first | (refine K.call (by with_reducible rfl) (by with_reducible rfl) (HKh.out wr HX.out) ?_; rintro e w1 ⟨rfl, hx1⟩; have C2 := Z.hide (K.Ext.block_of B2.out hx1); have C1 := Z.hide (K.Ext.block_of B1.out hx1); have HX1 : Hid (K.Ext w w1) := Z.hide (HX.out.trans hx1); have HP1 := Z.hide (K.row_ext HP.out hx1); have lw : w.heap.size + 1 + 1 < w1.heap.size := (Array.getElem?_eq_some_iff.1 C2.out).1; have d2 : w1.cell? ⟨w.heap.size + 1 + 1, 2, none⟩ = some (.string S) := K.cell_at C2.out rfl; have d3 : w1.cell? ⟨w.heap.size + 1 + 1, 3, none⟩ = some pv := K.cell_at C2.out rfl; have e2 : w1.frozen? ⟨w.heap.size + 1 + 1, 2, none⟩ = false := K.thaw_at C2.out; have e3 : w1.frozen? ⟨w.heap.size + 1 + 1, 3, none⟩ = false := K.thaw_at C2.out; have hcv : (convert 22 9 (.slice (some ⟨w1.heap.size, 0, none⟩) 1 1)).run Tryz.prog (w1.alloc (.cells #[.int .u8 (97 + (k : Int))] 5)) = .ok (.string T) (w1.alloc (.cells #[.int .u8 (97 + (k : Int))] 5)) := (by rw [HT.out]; exact K.byte_str Tryz.underlying22 Tryz.underlying5 Tryz.underlying9 (by omega) (by omega) (K.block_new rfl))) | (at_builtin; refine wpList_append_lies _ rfl _ _ _ rfl (w.heap.size + 3) 2 it0 _ 1 8 Tryz.underlying24 hi0 hz0 hz1 hz2 rfl (by omega) pv np _ rfl (((ownsRow_setCell_other HP1.out (fun e => by have := (HP1.out.lt _ e).1; dsimp only at this; omega) _).alloc _).alloc _) ⟨w1.heap.size + 1, 0, none⟩ 1 1 [.int .i64 x] rfl rfl (World.news_of_block (cs := #[.int .i64 x]) (t := 2) (fr := (0, 0)) (K.block_new (by simp))) (by simp [Value.oneCell']) (by omega) (by unfold maxLen; omega) (by omega) (by simp; omega) (w1.heap.size + 1 + 1) (by simp) ?_; intro g2 gcap2 w2 hown2 hgrow2 hat2 hlt3; have HR2 : Hid (∀ g, pv.ownBlock = some g → w.heap.size + 3 ≤ g) := Z.hide (fun g hg => (HP1.out.lt g hg).1); have HP2 := Z.hide hown2; have HX2 : Hid (K.Ext w w2) := Z.hide ((((HX1.out.setCell (by dsimp only; omega) _).alloc _).alloc _).below.grown hgrow2 (by simp; omega) (fun g hg => by have := HR2.out g hg; omega)); have D2 : Hid (w2.heap[w.heap.size + 1 + 1]? = some (.cells #[.int .i64 d, .int .i64 t, .string (S ++ T), pv] 36)) := Z.hide (K.grown_block hgrow2 (K.Ext.block_of (Joins.block_setCell C2.out _) (((K.Ext.refl _).alloc _).alloc _)) (fun e => by have := HR2.out _ e.symm; omega)); have D1 : Hid (w2.heap[w.heap.size + 1]? = some (.cells #[.int .i64 0, .int .i64 0, .string ⟨#[]⟩, .slice none 0 0] 36)) := Z.hide (K.grown_block hgrow2 (K.Ext.block_of ((K.set_block (by dsimp only; omega)).trans C1.out) (((K.Ext.refl _).alloc _).alloc _)) (fun e => by have := HR2.out _ e.symm; omega)); have d3' : w2.cell? ⟨w.heap.size + 1 + 1, 3, none⟩ = some pv := K.cell_at D2.out rfl; have e3' : w2.frozen? ⟨w.heap.size + 1 + 1, 3, none⟩ = false := K.thaw_at D2.out; have lg2 := (HP2.out.lt g2 rfl).1; clear hown2 hgrow2 hat2))
        go_roundw
        case rel =>
          refine ⟨k + 1, by omega, by go_num, Z.hide ⟨.slice (some ⟨g2, 0, none⟩) (np + 1) gcap2, ?_, ?_⟩, Z.hide (HX2.out.setCell (by dsimp only; omega) _), Z.hide ((K.set_block (by dsimp only; omega)).trans D1.out)⟩
          · rw [E1.out, ← K.push_str HS'.out HT.out]; exact Joins.block_setCell D2.out _
          · rw [E2.out, List.map_append, List.map_singleton, List.length_append, List.length_singleton, ← HPn.out]; exact ownsRow_setCell_other HP2.out (by simp [Value.ownBlock]; omega) _
        case measure => simp [intOf]; omega
    · obtain rfl : k = 26 := by omega
      have c20 : wr.cell? ⟨w.heap.size + 1 + 1, 0, none⟩ = some (.int .i64 d) := K.cell_at B2.out rfl
      have c21 : wr.cell? ⟨w.heap.size + 1 + 1, 1, none⟩ = some (.int .i64 t) := K.cell_at B2.out rfl
      have c22 : wr.cell? ⟨w.heap.size + 1 + 1, 2, none⟩ = some (.string ⟨(Z.mkB f 26).toArray⟩) := K.cell_at B2.out rfl
      have HO := Z.hide (K.own_of_row HP.out)
      have hs := HO.out
      obtain ⟨os, cs, rfl, _⟩ := hs
      have c23 : wr.cell? ⟨w.heap.size + 1 + 1, 3, none⟩ = some (.slice os (Z.mkP f 26).length cs) := K.cell_at B2.out rfl
      have lb2 : w.heap.size + 1 + 1 < wr.heap.size := (Array.getElem?_eq_some_iff.1 B2.out).1
      have hle := Z.made_le d t f
      have HI : Calls Tryz.prog 84 #[.agg #[.int .i64 d, .int .i64 t, .string ⟨(Z.mkB f 26).toArray⟩, .slice os (Z.mkP f 26).length cs]] wr fun e w' => e = .returned (.bool (Z.isFormula (Z.made d t f 26))) ∧ K.Ext wr w' := impl_IsFormula (Z.made d t f 26) wr hle.1 hle.2 (K.own.ints HO.out)
      cases hv : Z.isFormula (Z.made d t f 26)
      · have HE : Hid (Z.madeOr d t f = (Z.zeroFm, 3)) := Z.hide (by unfold Z.madeOr; rw [hv]; rfl)
        rw [hv] at HI
        clear hle
        go_wp2_with (go_at_call 84; refine K.call (by with_reducible rfl) (by with_reducible rfl) HI ?_; rintro e w3 ⟨rfl, hx3⟩; have D1 := Z.hide (K.Ext.block_of B1.out hx3); have D2 := Z.hide (K.Ext.block_of B2.out hx3); have HO3 := Z.hide (K.own.ext HO.out hx3); have ls := hx3.size; have r0 : w3.cell? ⟨w.heap.size + 1, 0, none⟩ = some (.int .i64 0) := K.cell_at D1.out rfl; have t0 : w3.frozen? ⟨w.heap.size + 1, 0, none⟩ = false := K.thaw_at D1.out; have r1 : w3.cell? ⟨w.heap.size + 1, 1, none⟩ = some (.int .i64 0) := K.cell_at D1.out rfl; have t1 : w3.frozen? ⟨w.heap.size + 1, 1, none⟩ = false := K.thaw_at D1.out; have r2 : w3.cell? ⟨w.heap.size + 1, 2, none⟩ = some (.string ⟨#[]⟩) := K.cell_at D1.out rfl; have t2 : w3.frozen? ⟨w.heap.size + 1, 2, none⟩ = false := K.thaw_at D1.out; have r3 : w3.cell? ⟨w.heap.size + 1, 3, none⟩ = some (.slice none 0 0) := K.cell_at D1.out rfl; have t3 : w3.frozen? ⟨w.heap.size + 1, 3, none⟩ = false := K.thaw_at D1.out; have v0 : w3.cell? ⟨w.heap.size + 1 + 1, 0, none⟩ = some (.int .i64 d) := K.cell_at D2.out rfl; have v1 : w3.cell? ⟨w.heap.size + 1 + 1, 1, none⟩ = some (.int .i64 t) := K.cell_at D2.out rfl; have v2 : w3.cell? ⟨w.heap.size + 1 + 1, 2, none⟩ = some (.string ⟨(Z.mkB f 26).toArray⟩) := K.cell_at D2.out rfl; have v3 : w3.cell? ⟨w.heap.size + 1 + 1, 3, none⟩ = some (.slice os (Z.mkP f 26).length cs) := K.cell_at D2.out rfl)
        rw [HE.out]
        refine bodyPost_ret (v := .tuple #[.agg #[.int .i64 0, .int .i64 0, .string ⟨#[]⟩, .slice none 0 0], .int .i64 3]) (by unfold results; rw [Tryz.results159]; go_simp) rfl ⟨⟨_, rfl, K.own_nil _ _ _⟩, ?_⟩
        repeat with_reducible refine K.Ext.setCell ?_ (by dsimp only; omega) _
        exact HX.out.trans hx3
      · have HE : Hid (Z.madeOr d t f = (Z.made d t f 26, 0)) := Z.hide (by unfold Z.madeOr; rw [hv]; rfl)
        rw [hv] at HI
        clear hle
        go_wp2_with (go_at_call 84; refine K.call (by with_reducible rfl) (by with_reducible rfl) HI ?_; rintro e w3 ⟨rfl, hx3⟩; have D1 := Z.hide (K.Ext.block_of B1.out hx3); have D2 := Z.hide (K.Ext.block_of B2.out hx3); have HO3 := Z.hide (K.own.ext HO.out hx3); have ls := hx3.size; have r0 : w3.cell? ⟨w.heap.size + 1, 0, none⟩ = some (.int .i64 0) := K.cell_at D1.out rfl; have t0 : w3.frozen? ⟨w.heap.size + 1, 0, none⟩ = false := K.thaw_at D1.out; have r1 : w3.cell? ⟨w.heap.size + 1, 1, none⟩ = some (.int .i64 0) := K.cell_at D1.out rfl; have t1 : w3.frozen? ⟨w.heap.size + 1, 1, none⟩ = false := K.thaw_at D1.out; have r2 : w3.cell? ⟨w.heap.size + 1, 2, none⟩ = some (.string ⟨#[]⟩) := K.cell_at D1.out rfl; have t2 : w3.frozen? ⟨w.heap.size + 1, 2, none⟩ = false := K.thaw_at D1.out; have r3 : w3.cell? ⟨w.heap.size + 1, 3, none⟩ = some (.slice none 0 0) := K.cell_at D1.out rfl; have t3 : w3.frozen? ⟨w.heap.size + 1, 3, none⟩ = false := K.thaw_at D1.out; have v0 : w3.cell? ⟨w.heap.size + 1 + 1, 0, none⟩ = some (.int .i64 d) := K.cell_at D2.out rfl; have v1 : w3.cell? ⟨w.heap.size + 1 + 1, 1, none⟩ = some (.int .i64 t) := K.cell_at D2.out rfl; have v2 : w3.cell? ⟨w.heap.size + 1 + 1, 2, none⟩ = some (.string ⟨(Z.mkB f 26).toArray⟩) := K.cell_at D2.out rfl; have v3 : w3.cell? ⟨w.heap.size + 1 + 1, 3, none⟩ = some (.slice os (Z.mkP f 26).length cs) := K.cell_at D2.out rfl)
        rw [HE.out]
        refine bodyPost_ret (v := .tuple #[.agg #[.int .i64 d, .int .i64 t, .string ⟨(Z.mkB f 26).toArray⟩, .slice os (Z.mkP f 26).length cs], .int .i64 0]) (by unfold results; rw [Tryz.results159]; go_simp) rfl ⟨⟨_, rfl, ?_⟩, ?_⟩
        · refine K.own.mono (lo := w.heap.size + 3) (hi := wr.heap.size) ?_ (by omega) (by simp; omega)
          repeat with_reducible refine K.own.set ?_ _ (.inl (by dsimp only; omega)) _
          exact HO3.out
        · repeat with_reducible refine K.Ext.setCell ?_ (by dsimp only; omega) _
          exact HX.out.trans hx3
end Go.Proofs.YtmgocfdhngeeiaaGreatDoor
end
section
namespace Go.Proofs.YtmgocfdhngeeiaaGreatDoor
open Go.RowKit
set_option maxHeartbeats 8000000 in
theorem spec_IsFormula (F : Z.Fm) {lo hi : Nat} {p : Value} (w : World) (hm : F.pw.length ≤ 1048576) (hn : F.nm.size ≤ 1048576) (h : K.ints w lo hi p F.pw) :
    Calls Tryz.prog 60 #[.agg #[.int .i64 F.dg, .int .i64 F.tn, .string F.nm, p]] w fun e w' => e = .returned (.bool (Z.isFormula F)) ∧ K.Ext w w' := by
  have h1 := h
  obtain ⟨o, cap, rfl, hh⟩ := h1
  clear h
  cases hf : Z.isFig F.dg F.tn
  · have HE : Hid (Z.isFormula F = false) := Z.hide (by unfold Z.isFormula; rw [hf]; rfl)
    go_enter Tryz.func60, Tryz.ntmps60
    go_wp2_with (go_at_call 97; refine K.call (by with_reducible rfl) (by with_reducible rfl) (spec_IsFigure F.dg F.tn _) ?_; rintro e w1 ⟨rfl, hw1⟩; obtain ⟨hcw1, hfw1⟩ := hw1.facts)
    go_ret
    exact ⟨K.rb HE.out.symm, K.bel⟩
  · by_cases h6 : F.nm.size ≤ 6
    · by_cases hl : F.pw.length = F.nm.size
      · have HE : Hid (Z.isFormula F = (List.range F.nm.size).all (Z.okAt (Z.bs F.nm) F.pw)) := Z.hide (by unfold Z.isFormula; rw [hf]; simp [h6, hl])
        have hl1 : ((F.nm.size : Int) != F.pw.length) = false := by simp; omega
        have HL := Z.hide hl
        clear hl
        go_enter Tryz.func60, Tryz.ntmps60
        go_wp2_with ((go_at_call 97; refine K.call (by with_reducible rfl) (by with_reducible rfl) (spec_IsFigure F.dg F.tn _) ?_; rintro e w1 ⟨rfl, hw1⟩; obtain ⟨hcw1, hfw1⟩ := hw1.facts); obtain ⟨c_w1_0_0, c_w1_0_1, c_w1_0_2, c_w1_0_3, f_w1_0_0, f_w1_0_1, f_w1_0_2, f_w1_0_3⟩ := K.kp4 hw1 (w.heap.size) (.int .i64 (F.dg)) (.int .i64 (F.tn)) (.string F.nm) (.slice o F.pw.length cap))
        go_loopw [3] (fun i wr => ∃ k : Nat, k ≤ F.nm.size ∧ i = .int .i64 k ∧ Hid ((List.range k).all (Z.okAt (Z.bs F.nm) F.pw) = true) ∧ Hid (K.Ext w1 wr)) (fun i _ => F.nm.size - (intOf i).toNat)
        case atStart => exact ⟨0, Nat.zero_le _, rfl, Z.hide rfl, Z.hide (K.Ext.refl _)⟩
        case round =>
          obtain ⟨k, hk, rfl, HP, HX⟩ := hrel
          by_cases hlt : k < F.nm.size
          · obtain ⟨c_wr_0_0, c_wr_0_1, c_wr_0_2, c_wr_0_3, f_wr_0_0, f_wr_0_1, f_wr_0_2, f_wr_0_3⟩ := K.kp4 HX.out (w.heap.size) (.int .i64 (F.dg)) (.int .i64 (F.tn)) (.string F.nm) (.slice o F.pw.length cap)
            have hlp : k < F.pw.length := by rw [HL.out]; exact hlt
            obtain ⟨b, off, rfl, _, _, hc⟩ := hh (by intro h0; simp [h0] at hlp)
            have lb : b < w.heap.size := World.block_lt_of_cell? w _ (hc k hlp)
            have hck : wr.cell? ⟨b, off + k, none⟩ = some (.int .i64 (F.pw.getD k 0)) := (K.Ext.trans K.bel HX.out).cell_of (hc k hlp)
            have HB := Z.hide (Z.bs_get F.nm k hlt)
            have i0 : (0 : Int) ≤ (k : Int) := Int.natCast_nonneg k
            have i1 : (k : Int) < (F.pw.length : Int) := by omega
            have i2 : (k : Int) < (F.nm.size : Int) := by omega
            have HW := Z.hide (show K.Ext w w1 from K.bel)
            clear hh hc hcw1 hfw1 c_w1_0_0 c_w1_0_1 c_w1_0_2 c_w1_0_3 f_w1_0_0 f_w1_0_1 f_w1_0_2 f_w1_0_3 hw1 hf h6 hl1 hm hn f_wr_0_0 f_wr_0_1 f_wr_0_2 f_wr_0_3 c_wr_0_0 c_wr_0_1
            generalize hx : F.pw.getD k 0 = x at *
            have HQ := Z.hide hx
            clear hx
            cases a1 : decide (((F.nm[k]'hlt).toNat : Int) < 97)
            · cases a2 : decide ((122 : Int) < ((F.nm[k]'hlt).toNat : Int))
              · by_cases hk0 : 0 < k
                · have j0 : (1 : Int) ≤ (k : Int) := by omega
                  have j1 : (k : Int) - 1 < (F.nm.size : Int) := by omega
                  have hk1 : k - 1 < F.nm.size := by omega
                  have j3 : decide ((0 : Int) < (k : Int)) = true := by simp; omega
                  have k0 := decide_eq_true hk0
                  have HB2 := Z.hide (Z.bs_get F.nm (k - 1) hk1)
                  cases a3 : decide (((F.nm[k]'hlt).toNat : Int) ≤ ((F.nm[k - 1]'hk1).toNat : Int))
                  · have a3n : ¬ ((F.nm[k]'hlt).toNat ≤ (F.nm[k - 1]'hk1).toNat) := by have := of_decide_eq_false a3; omega
                    have a3m : (F.nm[k - 1]'hk1).toNat < (F.nm[k]'hlt).toNat := by omega
                    cases a4 : x == 0
                    · cases a5 : (decide (-6 ≤ x) && decide (x ≤ 6))
                      ·
                        go_wp2_with fail
                        refine K.wp_region_x 45 [0, 1, 0, 0, 0, 0, 0, 1, 0, 0, 0, 0, 0, 0, 0, 0, 0, 1, 0, 0, 0, 1, 0, 0, 0, 0, 0, 0, 0, 0, 1, 0, 0, 1, 0, 0, 0, 0, 1, 0, 0, 1, 2, 0, 0] [K.SP.any, K.SP.any, K.SP.any, K.SP.any, K.SP.any, K.SP.any, K.SP.any, K.SP.any, K.SP.any, K.SP.any, K.SP.any, K.SP.any, K.SP.any, K.SP.any, K.SP.any, K.SP.any, K.SP.any, K.SP.any, K.SP.any, K.SP.any, K.SP.any, K.SP.any, K.SP.any, K.SP.any, K.SP.any, K.SP.any, K.SP.any, K.SP.any, K.SP.any, K.SP.any, K.SP.any, K.SP.any, K.SP.any, K.SP.any, K.SP.any, K.SP.any, K.SP.any, K.SP.any, K.SP.any, K.SP.any, K.SP.any, K.SP.any, K.SP.is (.bool (decide (-6 ≤ x) && decide (x ≤ 6)))] (by kernel_rfl) (by kernel_rfl) ?_
                        simp only [List.take_succ_cons, List.take_zero, List.drop_succ_cons, List.drop_zero]
                        refine K.xp ?_
                        simp only [Act.put, List.setIfInBounds_toArray, List.set]
                        refine K.xh ?_
                        simp only [Act.put, List.setIfInBounds_toArray, List.set]
                        iterate 5
                          refine K.xp ?_
                          simp only [Act.put, List.setIfInBounds_toArray, List.set]
                        refine K.xh ?_
                        simp only [Act.put, List.setIfInBounds_toArray, List.set]
                        iterate 9
                          refine K.xp ?_
                          simp only [Act.put, List.setIfInBounds_toArray, List.set]
                        refine K.xh ?_
                        simp only [Act.put, List.setIfInBounds_toArray, List.set]
                        iterate 3
                          refine K.xp ?_
                          simp only [Act.put, List.setIfInBounds_toArray, List.set]
                        refine K.xh ?_
                        simp only [Act.put, List.setIfInBounds_toArray, List.set]
                        iterate 8
                          refine K.xp ?_
                          simp only [Act.put, List.setIfInBounds_toArray, List.set]
                        refine K.xh ?_
                        simp only [Act.put, List.setIfInBounds_toArray, List.set]
                        iterate 2
                          refine K.xp ?_
                          simp only [Act.put, List.setIfInBounds_toArray, List.set]
                        refine K.xh ?_
                        simp only [Act.put, List.setIfInBounds_toArray, List.set]
                        iterate 4
                          refine K.xp ?_
                          simp only [Act.put, List.setIfInBounds_toArray, List.set]
                        refine K.xh ?_
                        simp only [Act.put, List.setIfInBounds_toArray, List.set]
                        iterate 2
                          refine K.xp ?_
                          simp only [Act.put, List.setIfInBounds_toArray, List.set]
                        refine K.xh ?_
                        simp only [Act.put, List.setIfInBounds_toArray, List.set]
                        apply K.x_call_is
                        · rfl
                        · rfl
                        · rfl
                        · intro w'; go_simp; first | done | rfl | exact ⟨rfl, rfl⟩
                        · intro w' hx hp; have hc := hx.all.1.1; have hf := hx.all.1.2; have hc' := hx.all.2.1; have hf' := hx.all.2.2; exact K.same_ext (l01In_any _ _ _ _)
                        intro w_42_ hx_42_
                        simp only [Act.put, List.setIfInBounds_toArray, List.set]
                        iterate 2
                          refine K.xp ?_
                          simp only [Act.put, List.setIfInBounds_toArray, List.set]
                        apply K.x_done
                        intro w2 h_x
                        have hx2 := hx_42_.trans h_x
                        clear h_x hx_42_
                        obtain ⟨⟨hcw2, hfw2⟩, hc'w2, hf'w2⟩ := hx2.all
                        refine wpList_nil ?_
                        refine NoPanic.normal ?_
                        go_wp2
                        go_ret
                        exact ⟨K.rb (by rw [HE.out, Z.range_all_bad _ _ k hlt (by rw [Z.okAt_of HB.out (fun _ => HB2.out) HQ.out, a1, a2, k0, a3, a4, a5]; rfl)]), K.Ext.trans HW.out (HX.out.trans K.bel)⟩
                      ·
                        go_wp2_with fail
                        refine K.wp_region_x 45 [0, 1, 0, 0, 0, 0, 0, 1, 0, 0, 0, 0, 0, 0, 0, 0, 0, 1, 0, 0, 0, 1, 0, 0, 0, 0, 0, 0, 0, 0, 1, 0, 0, 1, 0, 0, 0, 0, 1, 0, 0, 1, 2, 0, 0] [K.SP.any, K.SP.any, K.SP.any, K.SP.any, K.SP.any, K.SP.any, K.SP.any, K.SP.any, K.SP.any, K.SP.any, K.SP.any, K.SP.any, K.SP.any, K.SP.any, K.SP.any, K.SP.any, K.SP.any, K.SP.any, K.SP.any, K.SP.any, K.SP.any, K.SP.any, K.SP.any, K.SP.any, K.SP.any, K.SP.any, K.SP.any, K.SP.any, K.SP.any, K.SP.any, K.SP.any, K.SP.any, K.SP.any, K.SP.any, K.SP.any, K.SP.any, K.SP.any, K.SP.any, K.SP.any, K.SP.any, K.SP.any, K.SP.any, K.SP.is (.bool (decide (-6 ≤ x) && decide (x ≤ 6)))] (by kernel_rfl) (by kernel_rfl) ?_
                        simp only [List.take_succ_cons, List.take_zero, List.drop_succ_cons, List.drop_zero]
                        refine K.xp ?_
                        simp only [Act.put, List.setIfInBounds_toArray, List.set]
                        refine K.xh ?_
                        simp only [Act.put, List.setIfInBounds_toArray, List.set]
                        iterate 5
                          refine K.xp ?_
                          simp only [Act.put, List.setIfInBounds_toArray, List.set]
                        refine K.xh ?_
                        simp only [Act.put, List.setIfInBounds_toArray, List.set]
                        iterate 9
                          refine K.xp ?_
                          simp only [Act.put, List.setIfInBounds_toArray, List.set]
                        refine K.xh ?_
                        simp only [Act.put, List.setIfInBounds_toArray, List.set]
                        iterate 3
                          refine K.xp ?_
                          simp only [Act.put, List.setIfInBounds_toArray, List.set]
                        refine K.xh ?_
                        simp only [Act.put, List.setIfInBounds_toArray, List.set]
                        iterate 8
                          refine K.xp ?_
                          simp only [Act.put, List.setIfInBounds_toArray, List.set]
                        refine K.xh ?_
                        simp only [Act.put, List.setIfInBounds_toArray, List.set]
                        iterate 2
                          refine K.xp ?_
                          simp only [Act.put, List.setIfInBounds_toArray, List.set]
                        refine K.xh ?_
                        simp only [Act.put, List.setIfInBounds_toArray, List.set]
                        iterate 4
                          refine K.xp ?_
                          simp only [Act.put, List.setIfInBounds_toArray, List.set]
                        refine K.xh ?_
                        simp only [Act.put, List.setIfInBounds_toArray, List.set]
                        iterate 2
                          refine K.xp ?_
                          simp only [Act.put, List.setIfInBounds_toArray, List.set]
                        refine K.xh ?_
                        simp only [Act.put, List.setIfInBounds_toArray, List.set]
                        apply K.x_call_is
                        · rfl
                        · rfl
                        · rfl
                        · intro w'; go_simp; first | done | rfl | exact ⟨rfl, rfl⟩
                        · intro w' hx hp; have hc := hx.all.1.1; have hf := hx.all.1.2; have hc' := hx.all.2.1; have hf' := hx.all.2.2; exact K.same_ext (l01In_any _ _ _ _)
                        intro w_42_ hx_42_
                        simp only [Act.put, List.setIfInBounds_toArray, List.set]
                        iterate 2
                          refine K.xp ?_
                          simp only [Act.put, List.setIfInBounds_toArray, List.set]
                        apply K.x_done
                        intro w2 h_x
                        have hx2 := hx_42_.trans h_x
                        clear h_x hx_42_
                        obtain ⟨⟨hcw2, hfw2⟩, hc'w2, hf'w2⟩ := hx2.all
                        refine wpList_nil ?_
                        refine NoPanic.normal ?_
                        go_wp2
                        go_roundw
                        case rel => exact ⟨k + 1, by omega, by go_num, Z.hide (by rw [Z.range_all_succ, HP.out, show Z.okAt (Z.bs F.nm) F.pw k = true by rw [Z.okAt_of HB.out (fun _ => HB2.out) HQ.out, a1, a2, k0, a3, a4, a5]; rfl]; rfl), Z.hide (HX.out.trans K.bel)⟩
                        case measure => simp [intOf]; omega
                    ·
                      go_wp2_with fail
                      refine K.wp_region_x 45 [0, 1, 0, 0, 0, 0, 0, 1, 0, 0, 0, 0, 0, 0, 0, 0, 0, 1, 0, 0, 0, 1, 0, 0, 0, 0, 0, 0, 0, 0, 1, 0, 0, 1, 0, 0, 0, 0, 1, 0, 0, 1, 2, 0, 0] [K.SP.any, K.SP.any, K.SP.any, K.SP.any, K.SP.any, K.SP.any, K.SP.any, K.SP.any, K.SP.any, K.SP.any, K.SP.any, K.SP.any, K.SP.any, K.SP.any, K.SP.any, K.SP.any, K.SP.any, K.SP.any, K.SP.any, K.SP.any, K.SP.any, K.SP.any, K.SP.any, K.SP.any, K.SP.any, K.SP.any, K.SP.any, K.SP.any, K.SP.any, K.SP.any, K.SP.any, K.SP.any, K.SP.any, K.SP.any, K.SP.any, K.SP.any, K.SP.any, K.SP.any, K.SP.any, K.SP.any, K.SP.any, K.SP.any, K.SP.any] (by kernel_rfl) (by kernel_rfl) ?_
                      simp only [List.take_succ_cons, List.take_zero, List.drop_succ_cons, List.drop_zero]
                      refine K.xp ?_
                      simp only [Act.put, List.setIfInBounds_toArray, List.set]
                      refine K.xh ?_
                      simp only [Act.put, List.setIfInBounds_toArray, List.set]
                      iterate 5
                        refine K.xp ?_
                        simp only [Act.put, List.setIfInBounds_toArray, List.set]
                      refine K.xh ?_
                      simp only [Act.put, List.setIfInBounds_toArray, List.set]
                      iterate 9
                        refine K.xp ?_
                        simp only [Act.put, List.setIfInBounds_toArray, List.set]
                      refine K.xh ?_
                      simp only [Act.put, List.setIfInBounds_toArray, List.set]
                      iterate 3
                        refine K.xp ?_
                        simp only [Act.put, List.setIfInBounds_toArray, List.set]
                      refine K.xh ?_
                      simp only [Act.put, List.setIfInBounds_toArray, List.set]
                      iterate 8
                        refine K.xp ?_
                        simp only [Act.put, List.setIfInBounds_toArray, List.set]
                      refine K.xh ?_
                      simp only [Act.put, List.setIfInBounds_toArray, List.set]
                      iterate 2
                        refine K.xp ?_
                        simp only [Act.put, List.setIfInBounds_toArray, List.set]
                      refine K.xh ?_
                      simp only [Act.put, List.setIfInBounds_toArray, List.set]
                      iterate 3
                        refine K.xp ?_
                        simp only [Act.put, List.setIfInBounds_toArray, List.set]
                      iterate 7
                        refine K.x_skip (by rfl) ?_
                        simp only [Act.put, List.setIfInBounds_toArray, List.set]
                      refine K.xp ?_
                      simp only [Act.put, List.setIfInBounds_toArray, List.set]
                      apply K.x_done
                      intro w2 h_x
                      have hx2 := K.Ext.id h_x
                      clear h_x
                      obtain ⟨⟨hcw2, hfw2⟩, hc'w2, hf'w2⟩ := hx2.all
                      refine wpList_nil ?_
                      refine NoPanic.normal ?_
                      go_wp2
                      go_ret
                      exact ⟨K.rb (by rw [HE.out, Z.range_all_bad _ _ k hlt (by rw [Z.okAt_of HB.out (fun _ => HB2.out) HQ.out, a1, a2, k0, a3, a4]; rfl)]), K.Ext.trans HW.out (HX.out.trans K.bel)⟩
                  · have a3n : (F.nm[k]'hlt).toNat ≤ (F.nm[k - 1]'hk1).toNat := by have := of_decide_eq_true a3; omega
                    go_wp2_with fail
                    refine K.wp_region_x 45 [0, 1, 0, 0, 0, 0, 0, 1, 0, 0, 0, 0, 0, 0, 0, 0, 0, 1, 0, 0, 0, 1, 0, 0, 0, 0, 0, 0, 0, 0, 1, 0, 0, 1, 0, 0, 0, 0, 1, 0, 0, 1, 2, 0, 0] [K.SP.any, K.SP.any, K.SP.any, K.SP.any, K.SP.any, K.SP.any, K.SP.any, K.SP.any, K.SP.any, K.SP.any, K.SP.any, K.SP.any, K.SP.any, K.SP.any, K.SP.any, K.SP.any, K.SP.any, K.SP.any, K.SP.any, K.SP.any, K.SP.any, K.SP.any, K.SP.any, K.SP.any, K.SP.any, K.SP.any, K.SP.any, K.SP.any, K.SP.any, K.SP.any, K.SP.any, K.SP.any, K.SP.any, K.SP.any, K.SP.any, K.SP.any, K.SP.any, K.SP.any, K.SP.any, K.SP.any, K.SP.any, K.SP.any, K.SP.any] (by kernel_rfl) (by kernel_rfl) ?_
                    simp only [List.take_succ_cons, List.take_zero, List.drop_succ_cons, List.drop_zero]
                    refine K.xp ?_
                    simp only [Act.put, List.setIfInBounds_toArray, List.set]
                    refine K.xh ?_
                    simp only [Act.put, List.setIfInBounds_toArray, List.set]
                    iterate 5
                      refine K.xp ?_
                      simp only [Act.put, List.setIfInBounds_toArray, List.set]
                    refine K.xh ?_
                    simp only [Act.put, List.setIfInBounds_toArray, List.set]
                    iterate 9
                      refine K.xp ?_
                      simp only [Act.put, List.setIfInBounds_toArray, List.set]
                    refine K.xh ?_
                    simp only [Act.put, List.setIfInBounds_toArray, List.set]
                    iterate 3
                      refine K.xp ?_
                      simp only [Act.put, List.setIfInBounds_toArray, List.set]
                    refine K.xh ?_
                    simp only [Act.put, List.setIfInBounds_toArray, List.set]
                    iterate 7
                      refine K.xp ?_
                      simp only [Act.put, List.setIfInBounds_toArray, List.set]
                    iterate 6
                      refine K.x_skip (by rfl) ?_
                      simp only [Act.put, List.setIfInBounds_toArray, List.set]
                    iterate 2
                      refine K.xp ?_
                      simp only [Act.put, List.setIfInBounds_toArray, List.set]
                    iterate 7
                      refine K.x_skip (by rfl) ?_
                      simp only [Act.put, List.setIfInBounds_toArray, List.set]
                    refine K.xp ?_
                    simp only [Act.put, List.setIfInBounds_toArray, List.set]
                    apply K.x_done
                    intro w2 h_x
                    have hx2 := K.Ext.id h_x
                    clear h_x
                    obtain ⟨⟨hcw2, hfw2⟩, hc'w2, hf'w2⟩ := hx2.all
                    refine wpList_nil ?_
                    refine NoPanic.normal ?_
                    go_wp2
                    go_ret
                    exact ⟨K.rb (by rw [HE.out, Z.range_all_bad _ _ k hlt (by rw [Z.okAt_of HB.out (fun _ => HB2.out) HQ.out, a1, a2, k0, a3]; rfl)]), K.Ext.trans HW.out (HX.out.trans K.bel)⟩
                · have j3 : decide ((0 : Int) < (k : Int)) = false := by simp; omega
                  have k0 := decide_eq_false hk0
                  cases a4 : x == 0
                  · cases a5 : (decide (-6 ≤ x) && decide (x ≤ 6))
                    ·
                      go_wp2_with fail
                      refine K.wp_region_x 45 [0, 1, 0, 0, 0, 0, 0, 1, 0, 0, 0, 0, 0, 0, 0, 0, 0, 1, 0, 0, 0, 1, 0, 0, 0, 0, 0, 0, 0, 0, 1, 0, 0, 1, 0, 0, 0, 0, 1, 0, 0, 1, 2, 0, 0] [K.SP.any, K.SP.any, K.SP.any, K.SP.any, K.SP.any, K.SP.any, K.SP.any, K.SP.any, K.SP.any, K.SP.any, K.SP.any, K.SP.any, K.SP.any, K.SP.any, K.SP.any, K.SP.any, K.SP.any, K.SP.any, K.SP.any, K.SP.any, K.SP.any, K.SP.any, K.SP.any, K.SP.any, K.SP.any, K.SP.any, K.SP.any, K.SP.any, K.SP.any, K.SP.any, K.SP.any, K.SP.any, K.SP.any, K.SP.any, K.SP.any, K.SP.any, K.SP.any, K.SP.any, K.SP.any, K.SP.any, K.SP.any, K.SP.any, K.SP.is (.bool (decide (-6 ≤ x) && decide (x ≤ 6)))] (by kernel_rfl) (by kernel_rfl) ?_
                      simp only [List.take_succ_cons, List.take_zero, List.drop_succ_cons, List.drop_zero]
                      refine K.xp ?_
                      simp only [Act.put, List.setIfInBounds_toArray, List.set]
                      refine K.xh ?_
                      simp only [Act.put, List.setIfInBounds_toArray, List.set]
                      iterate 5
                        refine K.xp ?_
                        simp only [Act.put, List.setIfInBounds_toArray, List.set]
                      refine K.xh ?_
                      simp only [Act.put, List.setIfInBounds_toArray, List.set]
                      iterate 8
                        refine K.xp ?_
                        simp only [Act.put, List.setIfInBounds_toArray, List.set]
                      iterate 10
                        refine K.x_skip (by rfl) ?_
                        simp only [Act.put, List.setIfInBounds_toArray, List.set]
                      iterate 4
                        refine K.xp ?_
                        simp only [Act.put, List.setIfInBounds_toArray, List.set]
                      refine K.xh ?_
                      simp only [Act.put, List.setIfInBounds_toArray, List.set]
                      iterate 2
                        refine K.xp ?_
                        simp only [Act.put, List.setIfInBounds_toArray, List.set]
                      refine K.xh ?_
                      simp only [Act.put, List.setIfInBounds_toArray, List.set]
                      iterate 4
                        refine K.xp ?_
                        simp only [Act.put, List.setIfInBounds_toArray, List.set]
                      refine K.xh ?_
                      simp only [Act.put, List.setIfInBounds_toArray, List.set]
                      iterate 2
                        refine K.xp ?_
                        simp only [Act.put, List.setIfInBounds_toArray, List.set]
                      refine K.xh ?_
                      simp only [Act.put, List.setIfInBounds_toArray, List.set]
                      apply K.x_call_is
                      · rfl
                      · rfl
                      · rfl
                      · intro w'; go_simp; first | done | rfl | exact ⟨rfl, rfl⟩
                      · intro w' hx hp; have hc := hx.all.1.1; have hf := hx.all.1.2; have hc' := hx.all.2.1; have hf' := hx.all.2.2; exact K.same_ext (l01In_any _ _ _ _)
                      intro w_42_ hx_42_
                      simp only [Act.put, List.setIfInBounds_toArray, List.set]
                      iterate 2
                        refine K.xp ?_
                        simp only [Act.put, List.setIfInBounds_toArray, List.set]
                      apply K.x_done
                      intro w2 h_x
                      have hx2 := hx_42_.trans h_x
                      clear h_x hx_42_
                      obtain ⟨⟨hcw2, hfw2⟩, hc'w2, hf'w2⟩ := hx2.all
                      refine wpList_nil ?_
                      refine NoPanic.normal ?_
                      go_wp2
                      go_ret
                      exact ⟨K.rb (by rw [HE.out, Z.range_all_bad _ _ k hlt (by rw [Z.okAt_of HB.out (m := 0) (fun h => absurd h hk0) HQ.out, a1, a2, k0, a4, a5]; rfl)]), K.Ext.trans HW.out (HX.out.trans K.bel)⟩
                    ·
                      go_wp2_with fail
                      refine K.wp_region_x 45 [0, 1, 0, 0, 0, 0, 0, 1, 0, 0, 0, 0, 0, 0, 0, 0, 0, 1, 0, 0, 0, 1, 0, 0, 0, 0, 0, 0, 0, 0, 1, 0, 0, 1, 0, 0, 0, 0, 1, 0, 0, 1, 2, 0, 0] [K.SP.any, K.SP.any, K.SP.any, K.SP.any, K.SP.any, K.SP.any, K.SP.any, K.SP.any, K.SP.any, K.SP.any, K.SP.any, K.SP.any, K.SP.any, K.SP.any, K.SP.any, K.SP.any, K.SP.any, K.SP.any, K.SP.any, K.SP.any, K.SP.any, K.SP.any, K.SP.any, K.SP.any, K.SP.any, K.SP.any, K.SP.any, K.SP.any, K.SP.any, K.SP.any, K.SP.any, K.SP.any, K.SP.any, K.SP.any, K.SP.any, K.SP.any, K.SP.any, K.SP.any, K.SP.any, K.SP.any, K.SP.any, K.SP.any, K.SP.is (.bool (decide (-6 ≤ x) && decide (x ≤ 6)))] (by kernel_rfl) (by kernel_rfl) ?_
                      simp only [List.take_succ_cons, List.take_zero, List.drop_succ_cons, List.drop_zero]
                      refine K.xp ?_
                      simp only [Act.put, List.setIfInBounds_toArray, List.set]
                      refine K.xh ?_
                      simp only [Act.put, List.setIfInBounds_toArray, List.set]
                      iterate 5
                        refine K.xp ?_
                        simp only [Act.put, List.setIfInBounds_toArray, List.set]
                      refine K.xh ?_
                      simp only [Act.put, List.setIfInBounds_toArray, List.set]
                      iterate 8
                        refine K.xp ?_
                        simp only [Act.put, List.setIfInBounds_toArray, List.set]
                      iterate 10
                        refine K.x_skip (by rfl) ?_
                        simp only [Act.put, List.setIfInBounds_toArray, List.set]
                      iterate 4
                        refine K.xp ?_
                        simp only [Act.put, List.setIfInBounds_toArray, List.set]
                      refine K.xh ?_
                      simp only [Act.put, List.setIfInBounds_toArray, List.set]
                      iterate 2
                        refine K.xp ?_
                        simp only [Act.put, List.setIfInBounds_toArray, List.set]
                      refine K.xh ?_
                      simp only [Act.put, List.setIfInBounds_toArray, List.set]
                      iterate 4
                        refine K.xp ?_
                        simp only [Act.put, List.setIfInBounds_toArray, List.set]
                      refine K.xh ?_
                      simp only [Act.put, List.setIfInBounds_toArray, List.set]
                      iterate 2
                        refine K.xp ?_
                        simp only [Act.put, List.setIfInBounds_toArray, List.set]
                      refine K.xh ?_
                      simp only [Act.put, List.setIfInBounds_toArray, List.set]
                      apply K.x_call_is
                      · rfl
                      · rfl
                      · rfl
                      · intro w'; go_simp; first | done | rfl | exact ⟨rfl, rfl⟩
                      · intro w' hx hp; have hc := hx.all.1.1; have hf := hx.all.1.2; have hc' := hx.all.2.1; have hf' := hx.all.2.2; exact K.same_ext (l01In_any _ _ _ _)
                      intro w_42_ hx_42_
                      simp only [Act.put, List.setIfInBounds_toArray, List.set]
                      iterate 2
                        refine K.xp ?_
                        simp only [Act.put, List.setIfInBounds_toArray, List.set]
                      apply K.x_done
                      intro w2 h_x
                      have hx2 := hx_42_.trans h_x
                      clear h_x hx_42_
                      obtain ⟨⟨hcw2, hfw2⟩, hc'w2, hf'w2⟩ := hx2.all
                      refine wpList_nil ?_
                      refine NoPanic.normal ?_
                      go_wp2
                      go_roundw
                      case rel => exact ⟨k + 1, by omega, by go_num, Z.hide (by rw [Z.range_all_succ, HP.out, show Z.okAt (Z.bs F.nm) F.pw k = true by rw [Z.okAt_of HB.out (m := 0) (fun h => absurd h hk0) HQ.out, a1, a2, k0, a4, a5]; rfl]; rfl), Z.hide (HX.out.trans K.bel)⟩
                      case measure => simp [intOf]; omega
                  ·
                    go_wp2_with fail
                    refine K.wp_region_x 45 [0, 1, 0, 0, 0, 0, 0, 1, 0, 0, 0, 0, 0, 0, 0, 0, 0, 1, 0, 0, 0, 1, 0, 0, 0, 0, 0, 0, 0, 0, 1, 0, 0, 1, 0, 0, 0, 0, 1, 0, 0, 1, 2, 0, 0] [K.SP.any, K.SP.any, K.SP.any, K.SP.any, K.SP.any, K.SP.any, K.SP.any, K.SP.any, K.SP.any, K.SP.any, K.SP.any, K.SP.any, K.SP.any, K.SP.any, K.SP.any, K.SP.any, K.SP.any, K.SP.any, K.SP.any, K.SP.any, K.SP.any, K.SP.any, K.SP.any, K.SP.any, K.SP.any, K.SP.any, K.SP.any, K.SP.any, K.SP.any, K.SP.any, K.SP.any, K.SP.any, K.SP.any, K.SP.any, K.SP.any, K.SP.any, K.SP.any, K.SP.any, K.SP.any, K.SP.any, K.SP.any, K.SP.any, K.SP.any] (by kernel_rfl) (by kernel_rfl) ?_
                    simp only [List.take_succ_cons, List.take_zero, List.drop_succ_cons, List.drop_zero]
                    refine K.xp ?_
                    simp only [Act.put, List.setIfInBounds_toArray, List.set]
                    refine K.xh ?_
                    simp only [Act.put, List.setIfInBounds_toArray, List.set]
                    iterate 5
                      refine K.xp ?_
                      simp only [Act.put, List.setIfInBounds_toArray, List.set]
                    refine K.xh ?_
                    simp only [Act.put, List.setIfInBounds_toArray, List.set]
                    iterate 8
                      refine K.xp ?_
                      simp only [Act.put, List.setIfInBounds_toArray, List.set]
                    iterate 10
                      refine K.x_skip (by rfl) ?_
                      simp only [Act.put, List.setIfInBounds_toArray, List.set]
                    iterate 4
                      refine K.xp ?_
                      simp only [Act.put, List.setIfInBounds_toArray, List.set]
                    refine K.xh ?_
                    simp only [Act.put, List.setIfInBounds_toArray, List.set]
                    iterate 2
                      refine K.xp ?_
                      simp only [Act.put, List.setIfInBounds_toArray, List.set]
                    refine K.xh ?_
                    simp only [Act.put, List.setIfInBounds_toArray, List.set]
                    iterate 3
                      refine K.xp ?_
                      simp only [Act.put, List.setIfInBounds_toArray, List.set]
                    iterate 7
                      refine K.x_skip (by rfl) ?_
                      simp only [Act.put, List.setIfInBounds_toArray, List.set]
                    refine K.xp ?_
                    simp only [Act.put, List.setIfInBounds_toArray, List.set]
                    apply K.x_done
                    intro w2 h_x
                    have hx2 := K.Ext.id h_x
                    clear h_x
                    obtain ⟨⟨hcw2, hfw2⟩, hc'w2, hf'w2⟩ := hx2.all
                    refine wpList_nil ?_
                    refine NoPanic.normal ?_
                    go_wp2
                    go_ret
                    exact ⟨K.rb (by rw [HE.out, Z.range_all_bad _ _ k hlt (by rw [Z.okAt_of HB.out (m := 0) (fun h => absurd h hk0) HQ.out, a1, a2, k0, a4]; rfl)]), K.Ext.trans HW.out (HX.out.trans K.bel)⟩
              ·
                go_wp2_with fail
                refine K.wp_region_x 45 [0, 1, 0, 0, 0, 0, 0, 1, 0, 0, 0, 0, 0, 0, 0, 0, 0, 1, 0, 0, 0, 1, 0, 0, 0, 0, 0, 0, 0, 0, 1, 0, 0, 1, 0, 0, 0, 0, 1, 0, 0, 1, 2, 0, 0] [K.SP.any, K.SP.any, K.SP.any, K.SP.any, K.SP.any, K.SP.any, K.SP.any, K.SP.any, K.SP.any, K.SP.any, K.SP.any, K.SP.any, K.SP.any, K.SP.any, K.SP.any, K.SP.any, K.SP.any, K.SP.any, K.SP.any, K.SP.any, K.SP.any, K.SP.any, K.SP.any, K.SP.any, K.SP.any, K.SP.any, K.SP.any, K.SP.any, K.SP.any, K.SP.any, K.SP.any, K.SP.any, K.SP.any, K.SP.any, K.SP.any, K.SP.any, K.SP.any, K.SP.any, K.SP.any, K.SP.any, K.SP.any, K.SP.any, K.SP.any] (by kernel_rfl) (by kernel_rfl) ?_
                simp only [List.take_succ_cons, List.take_zero, List.drop_succ_cons, List.drop_zero]
                refine K.xp ?_
                simp only [Act.put, List.setIfInBounds_toArray, List.set]
                refine K.xh ?_
                simp only [Act.put, List.setIfInBounds_toArray, List.set]
                iterate 5
                  refine K.xp ?_
                  simp only [Act.put, List.setIfInBounds_toArray, List.set]
                refine K.xh ?_
                simp only [Act.put, List.setIfInBounds_toArray, List.set]
                iterate 5
                  refine K.xp ?_
                  simp only [Act.put, List.setIfInBounds_toArray, List.set]
                iterate 14
                  refine K.x_skip (by rfl) ?_
                  simp only [Act.put, List.setIfInBounds_toArray, List.set]
                iterate 2
                  refine K.xp ?_
                  simp only [Act.put, List.setIfInBounds_toArray, List.set]
                iterate 6
                  refine K.x_skip (by rfl) ?_
                  simp only [Act.put, List.setIfInBounds_toArray, List.set]
                iterate 2
                  refine K.xp ?_
                  simp only [Act.put, List.setIfInBounds_toArray, List.set]
                iterate 7
                  refine K.x_skip (by rfl) ?_
                  simp only [Act.put, List.setIfInBounds_toArray, List.set]
                refine K.xp ?_
                simp only [Act.put, List.setIfInBounds_toArray, List.set]
                apply K.x_done
                intro w2 h_x
                have hx2 := K.Ext.id h_x
                clear h_x
                obtain ⟨⟨hcw2, hfw2⟩, hc'w2, hf'w2⟩ := hx2.all
                refine wpList_nil ?_
                refine NoPanic.normal ?_
                go_wp2
                go_ret
                exact ⟨K.rb (by rw [HE.out, Z.range_all_bad _ _ k hlt (by rw [Z.okAt_of HB.out (fun _ => rfl) HQ.out, a1, a2]; rfl)]), K.Ext.trans HW.out (HX.out.trans K.bel)⟩
            ·
              go_wp2_with fail
              refine K.wp_region_x 45 [0, 1, 0, 0, 0, 0, 0, 1, 0, 0, 0, 0, 0, 0, 0, 0, 0, 1, 0, 0, 0, 1, 0, 0, 0, 0, 0, 0, 0, 0, 1, 0, 0, 1, 0, 0, 0, 0, 1, 0, 0, 1, 2, 0, 0] [K.SP.any, K.SP.any, K.SP.any, K.SP.any, K.SP.any, K.SP.any, K.SP.any, K.SP.any, K.SP.any, K.SP.any, K.SP.any, K.SP.any, K.SP.any, K.SP.any, K.SP.any, K.SP.any, K.SP.any, K.SP.any, K.SP.any, K.SP.any, K.SP.any, K.SP.any, K.SP.any, K.SP.any, K.SP.any, K.SP.any, K.SP.any, K.SP.any, K.SP.any, K.SP.any, K.SP.any, K.SP.any, K.SP.any, K.SP.any, K.SP.any, K.SP.any, K.SP.any, K.SP.any, K.SP.any, K.SP.any, K.SP.any, K.SP.any, K.SP.any] (by kernel_rfl) (by kernel_rfl) ?_
              simp only [List.take_succ_cons, List.take_zero, List.drop_succ_cons, List.drop_zero]
              refine K.xp ?_
              simp only [Act.put, List.setIfInBounds_toArray, List.set]
              refine K.xh ?_
              simp only [Act.put, List.setIfInBounds_toArray, List.set]
              iterate 4
                refine K.xp ?_
                simp only [Act.put, List.setIfInBounds_toArray, List.set]
              iterate 5
                refine K.x_skip (by rfl) ?_
                simp only [Act.put, List.setIfInBounds_toArray, List.set]
              iterate 2
                refine K.xp ?_
                simp only [Act.put, List.setIfInBounds_toArray, List.set]
              iterate 14
                refine K.x_skip (by rfl) ?_
                simp only [Act.put, List.setIfInBounds_toArray, List.set]
              iterate 2
                refine K.xp ?_
                simp only [Act.put, List.setIfInBounds_toArray, List.set]
              iterate 6
                refine K.x_skip (by rfl) ?_
                simp only [Act.put, List.setIfInBounds_toArray, List.set]
              iterate 2
                refine K.xp ?_
                simp only [Act.put, List.setIfInBounds_toArray, List.set]
              iterate 7
                refine K.x_skip (by rfl) ?_
                simp only [Act.put, List.setIfInBounds_toArray, List.set]
              refine K.xp ?_
              simp only [Act.put, List.setIfInBounds_toArray, List.set]
              apply K.x_done
              intro w2 h_x
              have hx2 := K.Ext.id h_x
              clear h_x
              obtain ⟨⟨hcw2, hfw2⟩, hc'w2, hf'w2⟩ := hx2.all
              refine wpList_nil ?_
              refine NoPanic.normal ?_
              go_wp2
              go_ret
              exact ⟨K.rb (by rw [HE.out, Z.range_all_bad _ _ k hlt (by rw [Z.okAt_of HB.out (fun _ => rfl) HQ.out, a1]; rfl)]), K.Ext.trans HW.out (HX.out.trans K.bel)⟩
          · obtain rfl : k = F.nm.size := by omega
            obtain ⟨c_wr_0_0, c_wr_0_1, c_wr_0_2, c_wr_0_3, f_wr_0_0, f_wr_0_1, f_wr_0_2, f_wr_0_3⟩ := K.kp4 HX.out (w.heap.size) (.int .i64 (F.dg)) (.int .i64 (F.tn)) (.string F.nm) (.slice o F.pw.length cap)
            have HW := Z.hide (show K.Ext w w1 from K.bel)
            have hlq : ¬ (F.nm.size < F.pw.length) := by rw [HL.out]; omega
            clear hh
            go_wp2
            go_ret
            exact ⟨K.rb (by rw [HE.out, HP.out]), HW.out.trans HX.out⟩
      · have HE : Hid (Z.isFormula F = false) := Z.hide (by unfold Z.isFormula; simp [hl])
        have hl1 : ((F.nm.size : Int) != F.pw.length) = true := by simp; omega
        clear hl
        go_enter Tryz.func60, Tryz.ntmps60
        go_wp2_with ((go_at_call 97; refine K.call (by with_reducible rfl) (by with_reducible rfl) (spec_IsFigure F.dg F.tn _) ?_; rintro e w1 ⟨rfl, hw1⟩; obtain ⟨hcw1, hfw1⟩ := hw1.facts); obtain ⟨c_w1_0_0, c_w1_0_1, c_w1_0_2, c_w1_0_3, f_w1_0_0, f_w1_0_1, f_w1_0_2, f_w1_0_3⟩ := K.kp4 hw1 (w.heap.size) (.int .i64 (F.dg)) (.int .i64 (F.tn)) (.string F.nm) (.slice o F.pw.length cap))
        go_ret
        exact ⟨K.rb HE.out.symm, K.bel⟩
    · have HE : Hid (Z.isFormula F = false) := Z.hide (by unfold Z.isFormula; simp [h6])
      go_enter Tryz.func60, Tryz.ntmps60
      go_wp2_with ((go_at_call 97; refine K.call (by with_reducible rfl) (by with_reducible rfl) (spec_IsFigure F.dg F.tn _) ?_; rintro e w1 ⟨rfl, hw1⟩; obtain ⟨hcw1, hfw1⟩ := hw1.facts); obtain ⟨c_w1_0_0, c_w1_0_1, c_w1_0_2, c_w1_0_3, f_w1_0_0, f_w1_0_1, f_w1_0_2, f_w1_0_3⟩ := K.kp4 hw1 (w.heap.size) (.int .i64 (F.dg)) (.int .i64 (F.tn)) (.string F.nm) (.slice o F.pw.length cap))
      go_ret
      exact ⟨K.rb HE.out.symm, K.bel⟩
end Go.Proofs.YtmgocfdhngeeiaaGreatDoor
end
section
namespace Go.Z
def sumF (F G : Fm) (i : Nat) : Int := expo (bs F.nm) F.pw (97 + (i : Int)) + expo (bs G.nm) G.pw (97 + (i : Int))
def multiplied (F G : Fm) : Fm × Int := if (MultiplyFigures (F.dg, F.tn) (G.dg, G.tn)).2 = 0 then madeOr (MultiplyFigures (F.dg, F.tn) (G.dg, G.tn)).1.1 (MultiplyFigures (F.dg, F.tn) (G.dg, G.tn)).1.2 (sumF F G) else (zeroFm, (MultiplyFigures (F.dg, F.tn) (G.dg, G.tn)).2)
def MultiplyFormulas (F G : Fm) : Fm × Int := if isFormula F && isFormula G then multiplied F G else (zeroFm, 1)
theorem expo_6 {F : Fm} (h : isFormula F = true) (c : Int) : -6 ≤ expo (bs F.nm) F.pw c ∧ expo (bs F.nm) F.pw c ≤ 6 :=
  expo_bd (fun j hj => by
    have := okAt_parts (valid_at h j (by rw [bs_length] at hj; exact hj))
    exact ⟨this.2.2.2.2.1, this.2.2.2.2.2⟩) _
end Go.Z
namespace Go.Proofs.YtmgocfdhngeeiaaGreatDoor
open Go.RowKit
set_option maxHeartbeats 3200000 in
theorem multiplied1_any (F G : Z.Fm) (i : Nat) (gf gg : Nat) {lo hi lo' hi' : Nat} {p q : Value} (w : World) (hi26 : i < 26) (hF : Z.isFormula F = true) (hG : Z.isFormula G = true)
    (h0 : w.cell? ⟨gf, 0, none⟩ = some (.int .i64 F.dg)) (h1 : w.cell? ⟨gf, 1, none⟩ = some (.int .i64 F.tn)) (h2 : w.cell? ⟨gf, 2, none⟩ = some (.string F.nm)) (h3 : w.cell? ⟨gf, 3, none⟩ = some p)
    (k0 : w.cell? ⟨gg, 0, none⟩ = some (.int .i64 G.dg)) (k1 : w.cell? ⟨gg, 1, none⟩ = some (.int .i64 G.tn)) (k2 : w.cell? ⟨gg, 2, none⟩ = some (.string G.nm)) (k3 : w.cell? ⟨gg, 3, none⟩ = some q) (h : K.ints w lo hi p F.pw) (h' : K.ints w lo' hi' q G.pw) :
    Calls Tryz.prog 160 #[.int .u8 (97 + (i : Int)), .pointer (some ⟨gf, 0, none⟩), .pointer (some ⟨gg, 0, none⟩)] w fun e w' => e = .returned (.int .i64 (Z.sumF F G i)) ∧ K.Ext w w' := by
  have g1 := h
  obtain ⟨o, cap, rfl, _⟩ := g1
  have g2 := h'
  obtain ⟨o', cap', rfl, _⟩ := g2
  obtain ⟨l1, l2⟩ : Hid (F.pw.length = F.nm.size) ∧ Hid (F.nm.size ≤ 6) := Z.isFormula_len hF
  obtain ⟨l3, l4⟩ : Hid (G.pw.length = G.nm.size) ∧ Hid (G.nm.size ≤ 6) := Z.isFormula_len hG
  obtain ⟨x, hx⟩ : ∃ x, x = Z.expo (Z.bs F.nm) F.pw (97 + (i : Int)) := ⟨_, rfl⟩
  obtain ⟨y, hy⟩ : ∃ y, y = Z.expo (Z.bs G.nm) G.pw (97 + (i : Int)) := ⟨_, rfl⟩
  obtain ⟨x1, x2⟩ := Z.expo_6 hF (97 + (i : Int))
  obtain ⟨y1, y2⟩ := Z.expo_6 hG (97 + (i : Int))
  rw [← hx] at x1 x2
  rw [← hy] at y1 y2
  have HE : Hid (Z.sumF F G i = x + y) := Z.hide (by unfold Z.sumF; rw [hx, hy])
  have q1 : IntKind.i64.wrap (x + y) = x + y := IntWalk.i64_in _ (by omega)
  have C1 : ∀ {lo hi : Nat} {p : Value} (w' : World), K.ints w' lo hi p F.pw → Calls Tryz.prog 67 #[.agg #[.int .i64 F.dg, .int .i64 F.tn, .string F.nm, p], .int .u8 (97 + (i : Int))] w' fun e w'' => e = .returned (.int .i64 x) ∧ K.Ext w' w'' := fun w' hh => by rw [hx]; exact exponentOf_any F (97 + (i : Int)) _ _ _ w' l1.out (Nat.le_trans l2.out (by decide)) (by omega) (by omega) hh
  have C2 : ∀ {lo hi : Nat} {p : Value} (w' : World), K.ints w' lo hi p G.pw → Calls Tryz.prog 67 #[.agg #[.int .i64 G.dg, .int .i64 G.tn, .string G.nm, p], .int .u8 (97 + (i : Int))] w' fun e w'' => e = .returned (.int .i64 y) ∧ K.Ext w' w'' := fun w' hh => by rw [hy]; exact exponentOf_any G (97 + (i : Int)) _ _ _ w' l3.out (Nat.le_trans l4.out (by decide)) (by omega) (by omega) hh
  clear hx hy hF hG
  go_enter Tryz.func160, Tryz.ntmps160
  go_wp2_with fail
  refine K.wp_region_x 7 [1, 0, 2, 1, 0, 2, 0] [K.SP.any, K.SP.any, K.SP.is (.int .i64 x), K.SP.any, K.SP.any, K.SP.is (.int .i64 y)] (by kernel_rfl) (by kernel_rfl) ?_
  simp only [List.take_succ_cons, List.take_zero, List.drop_succ_cons, List.drop_zero]
  refine K.xh ?_
  simp only [Act.put, List.setIfInBounds_toArray, List.set]
  refine K.xp ?_
  simp only [Act.put, List.setIfInBounds_toArray, List.set]
  apply K.x_call_is
  · rfl
  · rfl
  · rfl
  · intro w'; go_simp; first | done | rfl | exact ⟨rfl, rfl⟩
  · intro w' hx hp; have hc := hx.all.1.1; have hf := hx.all.1.2; have hc' := hx.all.2.1; have hf' := hx.all.2.2; exact C1 _ (K.ints.ext (K.ints.drew h) hx)
  intro w_2_ hx_2_
  simp only [Act.put, List.setIfInBounds_toArray, List.set]
  refine K.xh ?_
  simp only [Act.put, List.setIfInBounds_toArray, List.set]
  refine K.xp ?_
  simp only [Act.put, List.setIfInBounds_toArray, List.set]
  apply K.x_call_is
  · rfl
  · rfl
  · rfl
  · intro w'; go_simp; first | done | rfl | exact ⟨rfl, rfl⟩
  · intro w' hx hp; have hc := hx.all.1.1; have hf := hx.all.1.2; have hc' := hx.all.2.1; have hf' := hx.all.2.2; exact C2 _ (K.ints.ext (K.ints.drew h') hx)
  intro w_5_ hx_5_
  simp only [Act.put, List.setIfInBounds_toArray, List.set]
  refine K.xp ?_
  simp only [Act.put, List.setIfInBounds_toArray, List.set]
  apply K.x_done
  intro w2 h_x
  have hx2 := hx_2_.trans (hx_5_.trans h_x)
  clear h_x hx_2_ hx_5_
  obtain ⟨⟨hcw2, hfw2⟩, hc'w2, hf'w2⟩ := hx2.all
  go_wp2_with fail
  refine NoPanic.normal ?_
  go_wp2
  go_ret
  exact ⟨K.ri (by rw [HE.out]), K.bel⟩
set_option maxHeartbeats 3200000 in
theorem multiplied_any (F G : Z.Fm) {lo hi lo' hi' : Nat} {p q : Value} (w : World) (hF : Z.isFormula F = true) (hG : Z.isFormula G = true) (h : K.ints w lo hi p F.pw) (h' : K.ints w lo' hi' q G.pw) :
    Calls Tryz.prog 136 #[.agg #[.int .i64 F.dg, .int .i64 F.tn, .string F.nm, p], .agg #[.int .i64 G.dg, .int .i64 G.tn, .string G.nm, q]] w fun e w' => (∃ p', e = .returned (.tuple #[.agg #[.int .i64 ((Z.multiplied F G).1).dg, .int .i64 ((Z.multiplied F G).1).tn, .string ((Z.multiplied F G).1).nm, p'], .int .i64 (Z.multiplied F G).2]) ∧ K.own w' w.heap.size w'.heap.size p' (Z.multiplied F G).1.pw) ∧ K.Ext w w' := by
  have g1 := h
  obtain ⟨o, cap, rfl, _⟩ := g1
  have g2 := h'
  obtain ⟨o', cap', rfl, _⟩ := g2
  have hmf : ∀ (fn : Fn) (first cap : Array Value) (w : World), (Instr.makeFunc fn first cap).run Tryz.prog w = .ok (.func fn first cap) w := fun _ _ _ _ => rfl
  have hg : ∀ (args : Array Value) (w' : World), (callFunc 160 args).run Tryz.prog w' = .ok (.enter 160 args) w' := by
    intro args w'; go_simp
  obtain ⟨r, hr⟩ : ∃ r, r = Z.MultiplyFigures (F.dg, F.tn) (G.dg, G.tn) := ⟨_, rfl⟩
  have HM : ∀ w' : World, Calls Tryz.prog 158 #[.agg #[.int .i64 F.dg, .int .i64 F.tn], .agg #[.int .i64 G.dg, .int .i64 G.tn]] w' fun e w'' => e = .returned (.tuple #[.agg #[.int .i64 r.1.1, .int .i64 r.1.2], .int .i64 r.2]) ∧ K.Ext w' w'' := fun w' => by rw [hr]; exact impl_MultiplyFigures (F.dg, F.tn) (G.dg, G.tn) w'
  have HC : ∀ W : World, (∀ w', K.Ext W w' → (w'.cell? ⟨w.heap.size, 0, none⟩ = some (.int .i64 F.dg) ∧ w'.cell? ⟨w.heap.size, 1, none⟩ = some (.int .i64 F.tn) ∧ w'.cell? ⟨w.heap.size, 2, none⟩ = some (.string F.nm) ∧ w'.cell? ⟨w.heap.size, 3, none⟩ = some (.slice o F.pw.length cap)) ∧ (w'.cell? ⟨w.heap.size + 1, 0, none⟩ = some (.int .i64 G.dg) ∧ w'.cell? ⟨w.heap.size + 1, 1, none⟩ = some (.int .i64 G.tn) ∧ w'.cell? ⟨w.heap.size + 1, 2, none⟩ = some (.string G.nm) ∧ w'.cell? ⟨w.heap.size + 1, 3, none⟩ = some (.slice o' G.pw.length cap'))) → K.ints W lo hi (.slice o F.pw.length cap) F.pw → K.ints W lo' hi' (.slice o' G.pw.length cap') G.pw →
      Calls Tryz.prog 159 #[.agg #[.int .i64 r.1.1, .int .i64 r.1.2], .func (.func 160) #[] #[.pointer (some ⟨w.heap.size, 0, none⟩), .pointer (some ⟨w.heap.size + 1, 0, none⟩)]] W fun e w' => (∃ p', e = .returned (.tuple #[.agg #[.int .i64 ((Z.madeOr r.1.1 r.1.2 (Z.sumF F G)).1).dg, .int .i64 ((Z.madeOr r.1.1 r.1.2 (Z.sumF F G)).1).tn, .string ((Z.madeOr r.1.1 r.1.2 (Z.sumF F G)).1).nm, p'], .int .i64 (Z.madeOr r.1.1 r.1.2 (Z.sumF F G)).2]) ∧ K.own w' W.heap.size w'.heap.size p' (Z.madeOr r.1.1 r.1.2 (Z.sumF F G)).1.pw) ∧ K.Ext W w' := by
    intro W hW hI hJ
    exact madeOf_any r.1.1 r.1.2 (Z.sumF F G) 160 (.pointer (some ⟨w.heap.size, 0, none⟩)) (.pointer (some ⟨w.heap.size + 1, 0, none⟩)) W hg (fun i w' hi hx => by
      obtain ⟨⟨x0, x1, x2, x3⟩, y0, y1, y2, y3⟩ := hW w' hx
      exact multiplied1_any F G i _ _ w' hi hF hG x0 x1 x2 x3 y0 y1 y2 y3 (hI.ext hx) (hJ.ext hx))
  have HCh := Z.hide HC
  clear HC hF hG
  obtain ⟨M, hM⟩ : ∃ M, M = Z.madeOr r.1.1 r.1.2 (Z.sumF F G) := ⟨_, rfl⟩
  rw [← hM] at HCh
  by_cases hz : r.2 = 0
  · have HE : Hid (Z.multiplied F G = M) := Z.hide (by unfold Z.multiplied; rw [← hr, if_pos hz, hM])
    clear hr hM
    go_enter Tryz.func136, Tryz.ntmps136
    go_wp2_with (first | ((go_at_call 158; refine K.call (by with_reducible rfl) (by with_reducible rfl) (HM _) ?_; rintro e w1 ⟨rfl, hw1⟩; obtain ⟨hcw1, hfw1⟩ := hw1.facts); obtain ⟨c_w1_0_0, c_w1_0_1, c_w1_0_2, c_w1_0_3, f_w1_0_0, f_w1_0_1, f_w1_0_2, f_w1_0_3⟩ := K.kp4 hw1 (w.heap.size) (.int .i64 (F.dg)) (.int .i64 (F.tn)) (.string F.nm) (.slice o F.pw.length cap); obtain ⟨c_w1_1_0, c_w1_1_1, c_w1_1_2, c_w1_1_3, f_w1_1_0, f_w1_1_1, f_w1_1_2, f_w1_1_3⟩ := K.kp4 hw1 (w.heap.size + 1) (.int .i64 (G.dg)) (.int .i64 (G.tn)) (.string G.nm) (.slice o' G.pw.length cap'); obtain ⟨c_w1_2_0, c_w1_2_1, c_w1_2_2, c_w1_2_3, f_w1_2_0, f_w1_2_1, f_w1_2_2, f_w1_2_3⟩ := K.kp4 hw1 (w.heap.size + 1 + 1) (.int .i64 (0)) (.int .i64 (0)) (.string ⟨#[]⟩) (.slice none 0 0); have z1 : w.heap.size + 3 ≤ w1.heap.size := (by have h_ := hw1.size; simp at h_; omega); have z2 : ¬ (w.heap.size = w1.heap.size) := (by omega); have z3 : ¬ (w.heap.size + 1 = w1.heap.size) := (by omega); have z4 : ¬ (w.heap.size + 1 + 1 = w1.heap.size) := (by omega); have z5 : w.heap.size < w1.heap.size := (by omega); have z6 : w.heap.size + 1 < w1.heap.size := (by omega); have z7 : w.heap.size + 1 + 1 < w1.heap.size := (by omega)) | ((go_at_call 159; refine K.call (by with_reducible rfl) (by with_reducible rfl) (HCh.out _ (fun w' hx => ⟨⟨hx.cell_of (by go_simp), hx.cell_of (by go_simp), hx.cell_of (by go_simp), hx.cell_of (by go_simp)⟩, hx.cell_of (by go_simp), hx.cell_of (by go_simp), hx.cell_of (by go_simp), hx.cell_of (by go_simp)⟩) (h.ext K.bel) (h'.ext K.bel)) ?_; rintro e w2 ⟨⟨p2, rfl, hp2⟩, hw2⟩; obtain ⟨hcw2, hfw2⟩ := hw2.facts; have hp3 := hp2; obtain ⟨o2, c2, rfl, _⟩ := hp3); obtain ⟨c_w2_2_0, c_w2_2_1, c_w2_2_2, c_w2_2_3, f_w2_2_0, f_w2_2_1, f_w2_2_2, f_w2_2_3⟩ := K.kp4 hw2 (w.heap.size + 1 + 1) (.int .i64 (0)) (.int .i64 (0)) (.string ⟨#[]⟩) (.slice none 0 0)))
    rw [HE.out]
    have zz := hw2.size
    simp at zz
    refine bodyPost_ret (v := .tuple #[.agg #[.int .i64 M.1.dg, .int .i64 M.1.tn, .string M.1.nm, .slice o2 M.1.pw.length c2], .int .i64 M.2]) (by unfold results; rw [Tryz.results136]; go_simp) rfl ⟨⟨_, rfl, ?_⟩, ?_⟩
    · refine K.own.mono (lo := w1.heap.size + 1) (hi := w2.heap.size) ?_ (by omega) (by simp)
      repeat with_reducible refine K.own.set ?_ _ (.inl (by dsimp only; omega)) _
      exact hp2.mono (by simp) (Nat.le_refl _)
    · repeat with_reducible refine K.Ext.setCell ?_ (by dsimp only; omega) _
      exact K.bel
  · have HE : Hid (Z.multiplied F G = (Z.zeroFm, r.2)) := Z.hide (by unfold Z.multiplied; rw [← hr, if_neg hz])
    clear hr hM
    go_enter Tryz.func136, Tryz.ntmps136
    go_wp2_with ((go_at_call 158; refine K.call (by with_reducible rfl) (by with_reducible rfl) (HM _) ?_; rintro e w1 ⟨rfl, hw1⟩; obtain ⟨hcw1, hfw1⟩ := hw1.facts); obtain ⟨c_w1_0_0, c_w1_0_1, c_w1_0_2, c_w1_0_3, f_w1_0_0, f_w1_0_1, f_w1_0_2, f_w1_0_3⟩ := K.kp4 hw1 (w.heap.size) (.int .i64 (F.dg)) (.int .i64 (F.tn)) (.string F.nm) (.slice o F.pw.length cap); obtain ⟨c_w1_1_0, c_w1_1_1, c_w1_1_2, c_w1_1_3, f_w1_1_0, f_w1_1_1, f_w1_1_2, f_w1_1_3⟩ := K.kp4 hw1 (w.heap.size + 1) (.int .i64 (G.dg)) (.int .i64 (G.tn)) (.string G.nm) (.slice o' G.pw.length cap'); obtain ⟨c_w1_2_0, c_w1_2_1, c_w1_2_2, c_w1_2_3, f_w1_2_0, f_w1_2_1, f_w1_2_2, f_w1_2_3⟩ := K.kp4 hw1 (w.heap.size + 1 + 1) (.int .i64 (0)) (.int .i64 (0)) (.string ⟨#[]⟩) (.slice none 0 0); have z1 : w.heap.size + 3 ≤ w1.heap.size := (by have h_ := hw1.size; simp at h_; omega); have z4 : ¬ (w.heap.size + 1 + 1 = w1.heap.size) := (by omega); have z8 : ¬ (w1.heap.size = w.heap.size + 1 + 1) := (by omega); have z7 : w.heap.size + 1 + 1 < w1.heap.size := (by omega))
    rw [HE.out]
    refine bodyPost_ret (v := .tuple #[.agg #[.int .i64 0, .int .i64 0, .string ⟨#[]⟩, .slice none 0 0], .int .i64 r.2]) (by unfold results; rw [Tryz.results136]; go_simp) rfl ⟨⟨_, rfl, K.own_nil _ _ _⟩, ?_⟩
    repeat' (first | with_reducible refine K.Ext.setCell ?_ ?_ _ | with_reducible refine K.Ext.alloc ?_ _ | (dsimp only; omega))
    exact K.bel
end Go.Proofs.YtmgocfdhngeeiaaGreatDoor
end
section
namespace Go.Z
def fmOr (F : Fm) : Fm × Int := if isFormula F then (F, 0) else (zeroFm, 3)
end Go.Z
namespace Go.Proofs.YtmgocfdhngeeiaaGreatDoor
open Go.RowKit
set_option maxHeartbeats 3200000 in
theorem l18Result_any (F : Z.Fm) {lo hi : Nat} {p : Value} (w : World) (hm : F.pw.length ≤ 1048576) (hn : F.nm.size ≤ 1048576) (h : K.ints w lo hi p F.pw) :
    Calls Tryz.prog 183 #[.agg #[.int .i64 F.dg, .int .i64 F.tn, .string F.nm, p]] w fun e w' => (∃ p', e = .returned (.tuple #[.agg #[.int .i64 ((Z.fmOr F).1).dg, .int .i64 ((Z.fmOr F).1).tn, .string ((Z.fmOr F).1).nm, p'], .int .i64 (Z.fmOr F).2]) ∧ K.ints w' lo hi p' (Z.fmOr F).1.pw) ∧ K.Ext w w' := by
  have g1 := h
  obtain ⟨o, cap, rfl, _⟩ := g1
  cases hF : Z.isFormula F
  · have HE : Hid (Z.fmOr F = (Z.zeroFm, 3)) := Z.hide (by unfold Z.fmOr; rw [hF]; rfl)
    go_enter Tryz.func183, Tryz.ntmps183
    go_wp2_with ((go_at_call 60; refine K.call (by with_reducible rfl) (by with_reducible rfl) (spec_IsFormula F _ hm hn (h.ext K.bel)) ?_; rintro e w1 ⟨rfl, hw1⟩; obtain ⟨hcw1, hfw1⟩ := hw1.facts); obtain ⟨c_w1_0_0, c_w1_0_1, c_w1_0_2, c_w1_0_3, f_w1_0_0, f_w1_0_1, f_w1_0_2, f_w1_0_3⟩ := K.kp4 hw1 (w.heap.size) (.int .i64 (F.dg)) (.int .i64 (F.tn)) (.string F.nm) (.slice o F.pw.length cap); obtain ⟨c_w1_1_0, c_w1_1_1, c_w1_1_2, c_w1_1_3, f_w1_1_0, f_w1_1_1, f_w1_1_2, f_w1_1_3⟩ := K.kp4 hw1 (w.heap.size + 1) (.int .i64 (0)) (.int .i64 (0)) (.string ⟨#[]⟩) (.slice none 0 0))
    rw [HE.out]
    refine bodyPost_ret (v := .tuple #[.agg #[.int .i64 0, .int .i64 0, .string ⟨#[]⟩, .slice none 0 0], .int .i64 3]) (by unfold results; rw [Tryz.results183]; go_simp) rfl ⟨⟨_, rfl, K.ints_nil _ _ _⟩, ?_⟩
    repeat with_reducible refine K.Ext.setCell ?_ (by dsimp only; omega) _
    exact K.bel
  · have HE : Hid (Z.fmOr F = (F, 0)) := Z.hide (by unfold Z.fmOr; rw [hF]; rfl)
    go_enter Tryz.func183, Tryz.ntmps183
    go_wp2_with ((go_at_call 60; refine K.call (by with_reducible rfl) (by with_reducible rfl) (spec_IsFormula F _ hm hn (h.ext K.bel)) ?_; rintro e w1 ⟨rfl, hw1⟩; obtain ⟨hcw1, hfw1⟩ := hw1.facts); obtain ⟨c_w1_0_0, c_w1_0_1, c_w1_0_2, c_w1_0_3, f_w1_0_0, f_w1_0_1, f_w1_0_2, f_w1_0_3⟩ := K.kp4 hw1 (w.heap.size) (.int .i64 (F.dg)) (.int .i64 (F.tn)) (.string F.nm) (.slice o F.pw.length cap); obtain ⟨c_w1_1_0, c_w1_1_1, c_w1_1_2, c_w1_1_3, f_w1_1_0, f_w1_1_1, f_w1_1_2, f_w1_1_3⟩ := K.kp4 hw1 (w.heap.size + 1) (.int .i64 (0)) (.int .i64 (0)) (.string ⟨#[]⟩) (.slice none 0 0))
    rw [HE.out]
    have hq : K.Ext w w1 := K.bel
    refine bodyPost_ret (v := .tuple #[.agg #[.int .i64 F.dg, .int .i64 F.tn, .string F.nm, .slice o F.pw.length cap], .int .i64 0]) (by unfold results; rw [Tryz.results183]; go_simp) rfl ⟨⟨_, rfl, ?_⟩, ?_⟩
    · refine h.ext ?_
      repeat with_reducible refine K.Ext.setCell ?_ (by dsimp only; omega) _
      exact hq
    · repeat with_reducible refine K.Ext.setCell ?_ (by dsimp only; omega) _
      exact hq
end Go.Proofs.YtmgocfdhngeeiaaGreatDoor
end
section
namespace Go.Z
/-- the factor, k times (or divided by), and the code -/
def pw1 (g : Bool) (x a : Int × Int) : (Int × Int) × Int := if g then MultiplyFigures x a else DivideFigures x a
def powK (g : Bool) (a : Int × Int) : Nat → (Int × Int) × Int
  | 0 => ((1000, 0), 0)
  | k + 1 => if (powK g a k).2 = 0 then pw1 g (powK g a k).1 a else powK g a k
theorem powK_succ (g : Bool) (a : Int × Int) (k : Nat) (h : (powK g a k).2 = 0) : powK g a (k + 1) = pw1 g (powK g a k).1 a := by
  simp only [powK, if_pos h]
theorem powK_stop (g : Bool) (a : Int × Int) (k : Nat) (h : ¬ (powK g a k).2 = 0) (n : Nat) (hk : k ≤ n) : powK g a n = powK g a k := by
  induction n with
  | zero => obtain rfl : k = 0 := by omega
            rfl
  | succ n ih =>
    by_cases hn : k = n + 1
    · rw [hn]
    · have hp : powK g a (n + 1) = powK g a n := by
        rw [powK, if_neg (by rw [ih (by omega)]; exact h)]
      rw [hp, ih (by omega)]
def powF (F : Fm) (n : Int) (i : Nat) : Int := n * expo (bs F.nm) F.pw (97 + (i : Int))
def raised (F : Fm) (n : Int) : Fm × Int :=
  if (powK (decide (0 < n)) (F.dg, F.tn) n.natAbs).2 = 0 then madeOr (powK (decide (0 < n)) (F.dg, F.tn) n.natAbs).1.1 (powK (decide (0 < n)) (F.dg, F.tn) n.natAbs).1.2 (powF F n)
  else (zeroFm, (powK (decide (0 < n)) (F.dg, F.tn) n.natAbs).2)
def pow3 (n : Int) : Bool := decide (-3 ≤ n) && decide (n ≤ 3)
def PowerFormula (F : Fm) (n : Int) : Fm × Int := if isFormula F then (if pow3 n then raised F n else (zeroFm, 2)) else (zeroFm, 1)
/-- a result with code 0 is valid -/
theorem madeOr_ok {d t : Int} {f : Nat → Int} (h : (madeOr d t f).2 = 0) : isFormula (madeOr d t f).1 = true := by
  unfold madeOr at h ⊢; split at h
  · rename_i hv; rw [if_pos hv]; exact hv
  · simp at h
theorem raised_ok {F : Fm} {n : Int} (h : (raised F n).2 = 0) : isFormula (raised F n).1 = true := by
  unfold raised at h ⊢; split at h
  · rename_i hz; rw [if_pos hz]; exact madeOr_ok h
  · rename_i hz; exact absurd h hz
theorem multiplied_ok {F G : Fm} (h : (multiplied F G).2 = 0) : isFormula (multiplied F G).1 = true := by
  unfold multiplied at h ⊢; split at h
  · rename_i hz; rw [if_pos hz]; exact madeOr_ok h
  · rename_i hz; exact absurd h hz
theorem PowerFormula_eq {F : Fm} {n : Int} (hF : isFormula F = true) (hn : -3 ≤ n ∧ n ≤ 3) : PowerFormula F n = raised F n := by
  have : pow3 n = true := by simp [pow3]; omega
  unfold PowerFormula; rw [hF, this]; rfl
theorem MultiplyFormulas_eq {F G : Fm} (hF : isFormula F = true) (hG : isFormula G = true) : MultiplyFormulas F G = multiplied F G := by unfold MultiplyFormulas; rw [hF, hG]; rfl
/-- the exponents times n, of the first k letters -/
def powL (F : Fm) (n : Int) (k : Nat) : List Int := (List.range 26).map (fun i => if i < k then powF F n i else expo (bs F.nm) F.pw (97 + (i : Int)))
theorem powL_length (F : Fm) (n : Int) (k : Nat) : (powL F n k).length = 26 := by simp [powL]
theorem powL_zero (F : Fm) (n : Int) : powL F n 0 = allOf F := by simp [powL, allOf]
theorem powL_get (F : Fm) (n : Int) (k i : Nat) (h : i < 26) : (powL F n k).getD i 0 = if i < k then powF F n i else expo (bs F.nm) F.pw (97 + (i : Int)) := by simp [powL, List.getD_eq_getElem?_getD, h]
theorem powL_succ (F : Fm) (n : Int) (k : Nat) (hk : k < 26) : powL F n (k + 1) = (powL F n k).set k (powF F n k) := by
  apply List.ext_getElem
  · simp [powL]
  · intro i hi hi'
    rw [List.getElem_set]
    simp only [powL, List.getElem_map, List.getElem_range]
    by_cases h : k = i
    · subst h; simp
    · rw [if_neg h]
      by_cases h2 : i < k
      · rw [if_pos h2, if_pos (by omega)]
      · rw [if_neg h2, if_neg (by omega)]
theorem powL_made (F : Fm) (n : Int) (d t : Int) : made d t (fun i => (powL F n 26).getD i 0) 26 = made d t (powF F n) 26 := by
  apply made_congr
  intro i hi
  show (powL F n 26).getD i 0 = _
  rw [powL_get F n 26 i hi, if_pos hi]
/-- equations -/
def zeroEqn : Eqn := ⟨zeroFm, zeroFm⟩
def bothOf (a b : Fm × Int) : Eqn × Int := if a.2 = 0 then (if b.2 = 0 then (⟨a.1, b.1⟩, 0) else (zeroEqn, b.2)) else (zeroEqn, a.2)
def TimesFormula (E : Eqn) (F : Fm) : Eqn × Int := if isEquation E && isFormula F then bothOf (multiplied E.L F) (multiplied E.R F) else (zeroEqn, 1)
def RaiseSides (E : Eqn) (n : Int) : Eqn × Int := if isEquation E then (if n = 0 then (zeroEqn, 2) else if pow3 n then bothOf (raised E.L n) (raised E.R n) else (zeroEqn, 2)) else (zeroEqn, 1)
def quotient (E : Eqn) : Fm × Int := if (raised E.R (-1)).2 = 0 then multiplied E.L (raised E.R (-1)).1 else (zeroFm, (raised E.R (-1)).2)
theorem isEquation_parts {E : Eqn} (h : isEquation E = true) : isFormula E.L = true ∧ isFormula E.R = true := by
  unfold isEquation at h; rw [Bool.and_eq_true] at h; exact h
/-- results' exponents are not 0 -/
theorem mkP_nz (f : Nat → Int) (n : Nat) : ∀ x ∈ mkP f n, x ≠ 0 := by
  induction n with
  | zero => intro x hx; simp [mkP] at hx
  | succ n ih =>
    intro x hx
    unfold mkP at hx
    split at hx
    · exact ih x (by simpa using hx)
    · rename_i hz
      rcases List.mem_append.1 hx with h | h
      · exact ih x h
      · rw [List.mem_singleton.1 h]; exact hz
theorem zeroFm_nz : ∀ x ∈ zeroFm.pw, x ≠ 0 := by intro x hx; simp [zeroFm] at hx
theorem madeOr_nz (d t : Int) (f : Nat → Int) : ∀ x ∈ (madeOr d t f).1.pw, x ≠ 0 := by
  unfold madeOr; split
  · exact mkP_nz _ _
  · exact zeroFm_nz
theorem multiplied_nz (F G : Fm) : ∀ x ∈ (multiplied F G).1.pw, x ≠ 0 := by
  unfold multiplied; split
  · exact madeOr_nz _ _ _
  · exact zeroFm_nz
theorem raised_nz (F : Fm) (n : Int) : ∀ x ∈ (raised F n).1.pw, x ≠ 0 := by
  unfold raised; split
  · exact madeOr_nz _ _ _
  · exact zeroFm_nz
theorem bothOf_nz {a b : Fm × Int} (ha : ∀ x ∈ a.1.pw, x ≠ 0) (hb : ∀ x ∈ b.1.pw, x ≠ 0) : (∀ x ∈ (bothOf a b).1.L.pw, x ≠ 0) ∧ ∀ x ∈ (bothOf a b).1.R.pw, x ≠ 0 := by
  unfold bothOf; split
  · split
    · exact ⟨ha, hb⟩
    · exact ⟨zeroFm_nz, zeroFm_nz⟩
  · exact ⟨zeroFm_nz, zeroFm_nz⟩
theorem TimesFormula_nz (E : Eqn) (F : Fm) : (∀ x ∈ (TimesFormula E F).1.L.pw, x ≠ 0) ∧ ∀ x ∈ (TimesFormula E F).1.R.pw, x ≠ 0 := by
  unfold TimesFormula; split
  · exact bothOf_nz (multiplied_nz _ _) (multiplied_nz _ _)
  · exact ⟨zeroFm_nz, zeroFm_nz⟩
end Go.Z
end
section
namespace Go.Z
def stepFm (m t : Int) : Fm := ⟨1000, 0, ⟨#[UInt8.ofNat m.toNat]⟩, [t]⟩
/-- the equation after a step, with the code of what was done -/
def stepEq (E : Eqn) (s : St) : Eqn × Int := if s.kd = 0 then SwapSides E else if s.kd = 1 then TimesFormula E (stepFm s.nm s.pw) else RaiseSides E s.pw
def stepped (E : Eqn) (s : St) : Eqn × Bool := ((stepEq E s).1, (stepEq E s).2 == 0)
theorem step_kinds {d m t : Int} (h : isStep ⟨d, m, t⟩ = true) : d = 0 ∨ d = 1 ∨ d = 2 := by
  unfold isStep at h
  dsimp only at h
  split at h
  · left; assumption
  · split at h
    · right; left; assumption
    · split at h
      · right; right; assumption
      · simp at h
theorem isStep_byte {s : St} (h : isStep s = true) : byteSt s := by
  obtain ⟨d, m, t⟩ := s
  unfold byteSt
  unfold isStep at h
  dsimp only at h ⊢
  split at h
  · simp at h; omega
  · split at h
    · simp at h; omega
    · split at h
      · simp at h; omega
      · simp at h
theorem stepEq_0 (E : Eqn) (m t : Int) : stepEq E ⟨0, m, t⟩ = SwapSides E := rfl
theorem stepEq_1 (E : Eqn) (m t : Int) : stepEq E ⟨1, m, t⟩ = TimesFormula E (stepFm m t) := rfl
theorem stepEq_2 (E : Eqn) (m t : Int) : stepEq E ⟨2, m, t⟩ = RaiseSides E t := rfl
theorem bothOf_ok {a b : Fm × Int} (h : (bothOf a b).2 = 0) (ha : a.2 = 0 → isFormula a.1 = true) (hb : b.2 = 0 → isFormula b.1 = true) : isEquation (bothOf a b).1 = true := by
  unfold bothOf at h ⊢
  split at h
  · rename_i h1
    split at h
    · rename_i h2
      rw [if_pos h1, if_pos h2]
      unfold isEquation; rw [Bool.and_eq_true]; exact ⟨ha h1, hb h2⟩
    · rename_i h2; exact absurd h h2
  · rename_i h1; exact absurd h h1
theorem SwapSides_ok {E : Eqn} (h : (SwapSides E).2 = 0) : isEquation (SwapSides E).1 = true := by
  unfold SwapSides at h ⊢
  split at h
  · rename_i h1
    rw [if_pos h1]
    unfold isEquation at h1 ⊢; rw [Bool.and_comm]; exact h1
  · simp at h
theorem TimesFormula_ok {E : Eqn} {F : Fm} (h : (TimesFormula E F).2 = 0) : isEquation (TimesFormula E F).1 = true := by
  unfold TimesFormula at h ⊢
  split at h
  · rename_i h1
    rw [if_pos h1]
    exact bothOf_ok h multiplied_ok multiplied_ok
  · simp at h
theorem RaiseSides_ok {E : Eqn} {n : Int} (h : (RaiseSides E n).2 = 0) : isEquation (RaiseSides E n).1 = true := by
  unfold RaiseSides at h ⊢
  split at h
  · rename_i h1
    rw [if_pos h1]
    split at h
    · simp at h
    · rename_i h2
      rw [if_neg h2]
      split at h
      · rename_i h3
        rw [if_pos h3]
        exact bothOf_ok h raised_ok raised_ok
      · simp at h
  · simp at h
theorem stepEq_ok {E : Eqn} {s : St} (h : (stepEq E s).2 = 0) : isEquation (stepEq E s).1 = true := by
  unfold stepEq at h ⊢
  split at h
  · rename_i h1; rw [if_pos h1]; exact SwapSides_ok h
  · rename_i h1
    rw [if_neg h1]
    split at h
    · rename_i h2; rw [if_pos h2]; exact TimesFormula_ok h
    · rename_i h2; rw [if_neg h2]; exact RaiseSides_ok h
theorem isEquation_le {E : Eqn} (h : isEquation E = true) : E.L.pw.length ≤ 1048576 ∧ E.L.nm.size ≤ 1048576 ∧ E.R.pw.length ≤ 1048576 ∧ E.R.nm.size ≤ 1048576 := by
  obtain ⟨⟨a, b⟩, c, d⟩ := isEquation_len h
  exact ⟨by omega, by omega, by omega, by omega⟩
/-- the equation after the first k steps -/
def runK (E : Eqn) (l : List St) : Nat → Option Eqn
  | 0 => some E
  | k + 1 => match runK E l k with
    | none => none
    | some A => if (stepEq A (l.getD k zeroSt)).2 = 0 then some (stepEq A (l.getD k zeroSt)).1 else none
theorem runK_ok {E : Eqn} {l : List St} (hE : isEquation E = true) (k : Nat) {A : Eqn} (h : runK E l k = some A) : isEquation A = true := by
  cases k with
  | zero => simp only [runK, Option.some.injEq] at h; rw [← h]; exact hE
  | succ k =>
    simp only [runK] at h
    split at h
    · cases h
    · split at h
      · rename_i h1; simp only [Option.some.injEq] at h; rw [← h]; exact stepEq_ok h1
      · cases h
theorem runK_none {E : Eqn} {l : List St} {k : Nat} (h : runK E l k = none) (n : Nat) : runK E l (k + n) = none := by
  induction n with
  | zero => exact h
  | succ n ih => rw [← Nat.add_assoc]; simp only [runK]; rw [ih]
theorem runK_fail {E : Eqn} {l : List St} {k n : Nat} {A : Eqn} (hk : k < n) (h : runK E l k = some A) (hs : ¬ (stepEq A (l.getD k zeroSt)).2 = 0) : runK E l n = none := by
  have h1 : runK E l (k + 1) = none := by simp only [runK]; rw [h]; simp only [if_neg hs]
  have h2 := runK_none h1 (n - (k + 1))
  rwa [show k + 1 + (n - (k + 1)) = n from by omega] at h2
theorem runK_step {E : Eqn} {l : List St} {k : Nat} {A : Eqn} (h : runK E l k = some A) (hs : (stepEq A (l.getD k zeroSt)).2 = 0) : runK E l (k + 1) = some (stepEq A (l.getD k zeroSt)).1 := by
  simp only [runK]; rw [h]; simp only [if_pos hs]
/-- the end of a run: its equation, or that there is none -/
def ranOr (r : Option Eqn) : Eqn × Int := match r with
  | some A => (A, 0)
  | none => (zeroEqn, 5)
def RunSteps (E : Eqn) (l : List St) : Eqn × Int := if isEquation E then (if stCode l = 0 then ranOr (runK E l l.length) else (zeroEqn, stCode l)) else (zeroEqn, 1)
end Go.Z
end
section
namespace Go.K
open Go.RowKit
theorem own_at {w : World} {lo hi n c : Nat} {o : Option Addr} {xs : List Int} (h : K.own w lo hi (.slice o n c) xs) (h0 : 0 < xs.length) : ∃ b off, o = some ⟨b, off, none⟩ ∧ lo ≤ b ∧ b < hi ∧ (∀ i, i < xs.length → w.cell? ⟨b, off + i, none⟩ = some (.int .i64 (xs.getD i 0))) ∧ (∀ i, i < xs.length → w.frozen? ⟨b, off + i, none⟩ = false) := by
  obtain ⟨o', c', hv, hh⟩ := h
  simp only [Value.slice.injEq] at hv
  obtain ⟨rfl, _, _⟩ := hv
  exact hh (by intro h; rw [h] at h0; simp at h0)
theorem ints_at {w : World} {lo hi n c : Nat} {o : Option Addr} {xs : List Int} (h : K.ints w lo hi (.slice o n c) xs) (h0 : 0 < xs.length) : ∃ b off, o = some ⟨b, off, none⟩ ∧ lo ≤ b ∧ b < hi ∧ (∀ i, i < xs.length → w.cell? ⟨b, off + i, none⟩ = some (.int .i64 (xs.getD i 0))) := by
  obtain ⟨o', c', hv, hh⟩ := h
  simp only [Value.slice.injEq] at hv
  obtain ⟨rfl, _, _⟩ := hv
  exact hh (by intro h; rw [h] at h0; simp at h0)
theorem own_setAt {w : World} {lo hi b off n cap k : Nat} {x : Int} {xs : List Int} (hk : k < xs.length) (h : K.own w lo hi (.slice (some ⟨b, off, none⟩) n cap) xs) :
    K.own (w.setCell ⟨b, off + k, none⟩ (.int .i64 x)) lo hi (.slice (some ⟨b, off, none⟩) n cap) (xs.set k x) := by
  obtain ⟨o, cap', hv, hc⟩ := h
  simp only [Value.slice.injEq] at hv
  obtain ⟨rfl, rfl, rfl⟩ := hv
  obtain ⟨b', off', he, h1, h2, h3, h4⟩ := hc (by intro h0; simp [h0] at hk)
  simp only [Option.some.injEq, Addr.mk.injEq, and_true] at he
  obtain ⟨rfl, rfl⟩ := he
  exact ⟨some ⟨b, off, none⟩, cap, by simp, fun _ => ⟨b, off, rfl, h1, h2, fun i hi => row_set rfl hk h3 i (by simpa using hi), fun i hi => by rw [World.frozen?_setCell]; exact h4 i (by simpa using hi)⟩⟩
end Go.K
namespace Go.Z
theorem MultiplyFormulas_ok {F G : Fm} (hF : isFormula F = true) (hG : isFormula G = true) : MultiplyFormulas F G = multiplied F G := by unfold MultiplyFormulas; rw [hF, hG]; rfl
/-- the sums, of the first k letters -/
def sumK (F G : Fm) (k : Nat) : List Int := (List.range 26).map (fun i => if i < k then sumF F G i else expo (bs F.nm) F.pw (97 + (i : Int)))
theorem sumK_length (F G : Fm) (k : Nat) : (sumK F G k).length = 26 := by simp [sumK]
theorem sumK_zero (F G : Fm) : sumK F G 0 = allOf F := by simp [sumK, allOf]
theorem sumK_get (F G : Fm) (k i : Nat) (h : i < 26) : (sumK F G k).getD i 0 = if i < k then sumF F G i else expo (bs F.nm) F.pw (97 + (i : Int)) := by simp [sumK, List.getD_eq_getElem?_getD, h]
theorem sumK_succ (F G : Fm) (k : Nat) (hk : k < 26) : sumK F G (k + 1) = (sumK F G k).set k (sumF F G k) := by
  apply List.ext_getElem
  · simp [sumK]
  · intro i hi hi'
    rw [List.getElem_set]
    simp only [sumK, List.getElem_map, List.getElem_range]
    by_cases h : k = i
    · subst h; simp
    · rw [if_neg h]
      by_cases h2 : i < k
      · rw [if_pos h2, if_pos (by omega)]
      · rw [if_neg h2, if_neg (by omega)]
theorem sumK_made (F G : Fm) (d t : Int) : made d t (fun i => (sumK F G 26).getD i 0) 26 = made d t (sumF F G) 26 := by
  apply made_congr
  intro i hi
  show (sumK F G 26).getD i 0 = _
  rw [sumK_get F G 26 i hi, if_pos hi]
end Go.Z
namespace Go.Proofs.YtmgocfdhngeeiaaGreatDoor
open Go.RowKit
set_option maxHeartbeats 6400000 in
theorem spec_MultiplyFormulas (F G : Z.Fm) {lo hi lo' hi' : Nat} {p q : Value} (w : World) (hm : F.pw.length ≤ 1048576) (hn : F.nm.size ≤ 1048576) (h : K.ints w lo hi p F.pw) (hm' : G.pw.length ≤ 1048576) (hn' : G.nm.size ≤ 1048576) (h' : K.ints w lo' hi' q G.pw) :
    Calls Tryz.prog 163 #[.agg #[.int .i64 F.dg, .int .i64 F.tn, .string F.nm, p], .agg #[.int .i64 G.dg, .int .i64 G.tn, .string G.nm, q]] w fun e w' => (∃ p', e = .returned (.tuple #[.agg #[.int .i64 ((Z.MultiplyFormulas F G).1).dg, .int .i64 ((Z.MultiplyFormulas F G).1).tn, .string ((Z.MultiplyFormulas F G).1).nm, p'], .int .i64 (Z.MultiplyFormulas F G).2]) ∧ K.ints w' w.heap.size w'.heap.size p' (Z.MultiplyFormulas F G).1.pw) ∧ K.Ext w w' := by
  have g1 := h
  obtain ⟨o, cap, rfl, _⟩ := g1
  have g2 := h'
  obtain ⟨o', cap', rfl, _⟩ := g2
  cases hF : Z.isFormula F
  · have HE : Hid (Z.MultiplyFormulas F G = (Z.zeroFm, 1)) := Z.hide (by unfold Z.MultiplyFormulas; rw [hF]; rfl)
    go_enter Tryz.func163, Tryz.ntmps163
    go_wp2_with ((go_at_call 60; refine K.call (by with_reducible rfl) (by with_reducible rfl) (spec_IsFormula F _ hm hn (h.ext K.bel)) ?_; rintro e w1 ⟨rfl, hw1⟩; obtain ⟨hcw1, hfw1⟩ := hw1.facts); obtain ⟨c_w1_0_0, c_w1_0_1, c_w1_0_2, c_w1_0_3, f_w1_0_0, f_w1_0_1, f_w1_0_2, f_w1_0_3⟩ := K.kp4 hw1 (w.heap.size) (.int .i64 (F.dg)) (.int .i64 (F.tn)) (.string F.nm) (.slice o F.pw.length cap); obtain ⟨c_w1_1_0, c_w1_1_1, c_w1_1_2, c_w1_1_3, f_w1_1_0, f_w1_1_1, f_w1_1_2, f_w1_1_3⟩ := K.kp4 hw1 (w.heap.size + 1) (.int .i64 (G.dg)) (.int .i64 (G.tn)) (.string G.nm) (.slice o' G.pw.length cap'); obtain ⟨c_w1_2_0, c_w1_2_1, c_w1_2_2, c_w1_2_3, f_w1_2_0, f_w1_2_1, f_w1_2_2, f_w1_2_3⟩ := K.kp4 hw1 (w.heap.size + 1 + 1) (.int .i64 (0)) (.int .i64 (0)) (.string ⟨#[]⟩) (.slice none 0 0))
    rw [HE.out]
    refine bodyPost_ret (v := .tuple #[.agg #[.int .i64 0, .int .i64 0, .string ⟨#[]⟩, .slice none 0 0], .int .i64 1]) (by unfold results; rw [Tryz.results163]; go_simp) rfl ⟨⟨_, rfl, K.ints_nil _ _ _⟩, ?_⟩
    repeat with_reducible refine K.Ext.setCell ?_ (by dsimp only; omega) _
    exact K.bel
  · cases hG : Z.isFormula G
    · have HE : Hid (Z.MultiplyFormulas F G = (Z.zeroFm, 1)) := Z.hide (by unfold Z.MultiplyFormulas; rw [hF, hG]; rfl)
      go_enter Tryz.func163, Tryz.ntmps163
      go_wp2_with (first | ((go_at_call 60; refine K.call (by with_reducible rfl) (by with_reducible rfl) (spec_IsFormula F _ hm hn (h.ext K.bel)) ?_; rintro e w1 ⟨rfl, hw1⟩; obtain ⟨hcw1, hfw1⟩ := hw1.facts); obtain ⟨c_w1_0_0, c_w1_0_1, c_w1_0_2, c_w1_0_3, f_w1_0_0, f_w1_0_1, f_w1_0_2, f_w1_0_3⟩ := K.kp4 hw1 (w.heap.size) (.int .i64 (F.dg)) (.int .i64 (F.tn)) (.string F.nm) (.slice o F.pw.length cap); obtain ⟨c_w1_1_0, c_w1_1_1, c_w1_1_2, c_w1_1_3, f_w1_1_0, f_w1_1_1, f_w1_1_2, f_w1_1_3⟩ := K.kp4 hw1 (w.heap.size + 1) (.int .i64 (G.dg)) (.int .i64 (G.tn)) (.string G.nm) (.slice o' G.pw.length cap'); obtain ⟨c_w1_2_0, c_w1_2_1, c_w1_2_2, c_w1_2_3, f_w1_2_0, f_w1_2_1, f_w1_2_2, f_w1_2_3⟩ := K.kp4 hw1 (w.heap.size + 1 + 1) (.int .i64 (0)) (.int .i64 (0)) (.string ⟨#[]⟩) (.slice none 0 0)) | ((go_at_call 60; refine K.call (by with_reducible rfl) (by with_reducible rfl) (spec_IsFormula G _ hm' hn' (h'.ext K.bel)) ?_; rintro e w2 ⟨rfl, hw2⟩; obtain ⟨hcw2, hfw2⟩ := hw2.facts); obtain ⟨c_w2_0_0, c_w2_0_1, c_w2_0_2, c_w2_0_3, f_w2_0_0, f_w2_0_1, f_w2_0_2, f_w2_0_3⟩ := K.kp4 hw2 (w.heap.size) (.int .i64 (F.dg)) (.int .i64 (F.tn)) (.string F.nm) (.slice o F.pw.length cap); obtain ⟨c_w2_1_0, c_w2_1_1, c_w2_1_2, c_w2_1_3, f_w2_1_0, f_w2_1_1, f_w2_1_2, f_w2_1_3⟩ := K.kp4 hw2 (w.heap.size + 1) (.int .i64 (G.dg)) (.int .i64 (G.tn)) (.string G.nm) (.slice o' G.pw.length cap'); obtain ⟨c_w2_2_0, c_w2_2_1, c_w2_2_2, c_w2_2_3, f_w2_2_0, f_w2_2_1, f_w2_2_2, f_w2_2_3⟩ := K.kp4 hw2 (w.heap.size + 1 + 1) (.int .i64 (0)) (.int .i64 (0)) (.string ⟨#[]⟩) (.slice none 0 0)))
      rw [HE.out]
      refine bodyPost_ret (v := .tuple #[.agg #[.int .i64 0, .int .i64 0, .string ⟨#[]⟩, .slice none 0 0], .int .i64 1]) (by unfold results; rw [Tryz.results163]; go_simp) rfl ⟨⟨_, rfl, K.ints_nil _ _ _⟩, ?_⟩
      repeat with_reducible refine K.Ext.setCell ?_ (by dsimp only; omega) _
      exact K.bel
    · obtain ⟨r, hr⟩ : ∃ r, r = Z.MultiplyFigures (F.dg, F.tn) (G.dg, G.tn) := ⟨_, rfl⟩
      have HM : ∀ w' : World, Calls Tryz.prog 181 #[.agg #[.int .i64 F.dg, .int .i64 F.tn], .agg #[.int .i64 G.dg, .int .i64 G.tn]] w' fun e w'' => e = .returned (.tuple #[.agg #[.int .i64 r.1.1, .int .i64 r.1.2], .int .i64 r.2]) ∧ K.Ext w' w'' := fun w' => by rw [hr]; exact spec_MultiplyFigures (F.dg, F.tn) (G.dg, G.tn) w'
      have HF := Z.hide hF
      have HG := Z.hide hG
      by_cases hz : r.2 = 0
      · have HE : Hid (Z.MultiplyFormulas F G = Z.fmOr (Z.made r.1.1 r.1.2 (Z.sumF F G) 26)) := Z.hide (by rw [Z.MultiplyFormulas_ok hF hG]; unfold Z.multiplied; rw [← hr, if_pos hz]; rfl)
        clear hr
        go_enter Tryz.func163, Tryz.ntmps163
        go_wp2_with (first | ((go_at_call 60; refine K.call (by with_reducible rfl) (by with_reducible rfl) (spec_IsFormula F _ hm hn (h.ext K.bel)) ?_; rintro e w1 ⟨rfl, hw1⟩; obtain ⟨hcw1, hfw1⟩ := hw1.facts); obtain ⟨c_w1_0_0, c_w1_0_1, c_w1_0_2, c_w1_0_3, f_w1_0_0, f_w1_0_1, f_w1_0_2, f_w1_0_3⟩ := K.kp4 hw1 (w.heap.size) (.int .i64 (F.dg)) (.int .i64 (F.tn)) (.string F.nm) (.slice o F.pw.length cap); obtain ⟨c_w1_1_0, c_w1_1_1, c_w1_1_2, c_w1_1_3, f_w1_1_0, f_w1_1_1, f_w1_1_2, f_w1_1_3⟩ := K.kp4 hw1 (w.heap.size + 1) (.int .i64 (G.dg)) (.int .i64 (G.tn)) (.string G.nm) (.slice o' G.pw.length cap'); obtain ⟨c_w1_2_0, c_w1_2_1, c_w1_2_2, c_w1_2_3, f_w1_2_0, f_w1_2_1, f_w1_2_2, f_w1_2_3⟩ := K.kp4 hw1 (w.heap.size + 1 + 1) (.int .i64 (0)) (.int .i64 (0)) (.string ⟨#[]⟩) (.slice none 0 0)) | ((go_at_call 60; refine K.call (by with_reducible rfl) (by with_reducible rfl) (spec_IsFormula G _ hm' hn' (h'.ext K.bel)) ?_; rintro e w2 ⟨rfl, hw2⟩; obtain ⟨hcw2, hfw2⟩ := hw2.facts); obtain ⟨c_w2_0_0, c_w2_0_1, c_w2_0_2, c_w2_0_3, f_w2_0_0, f_w2_0_1, f_w2_0_2, f_w2_0_3⟩ := K.kp4 hw2 (w.heap.size) (.int .i64 (F.dg)) (.int .i64 (F.tn)) (.string F.nm) (.slice o F.pw.length cap); obtain ⟨c_w2_1_0, c_w2_1_1, c_w2_1_2, c_w2_1_3, f_w2_1_0, f_w2_1_1, f_w2_1_2, f_w2_1_3⟩ := K.kp4 hw2 (w.heap.size + 1) (.int .i64 (G.dg)) (.int .i64 (G.tn)) (.string G.nm) (.slice o' G.pw.length cap'); obtain ⟨c_w2_2_0, c_w2_2_1, c_w2_2_2, c_w2_2_3, f_w2_2_0, f_w2_2_1, f_w2_2_2, f_w2_2_3⟩ := K.kp4 hw2 (w.heap.size + 1 + 1) (.int .i64 (0)) (.int .i64 (0)) (.string ⟨#[]⟩) (.slice none 0 0)) | ((go_at_call 181; refine K.call (by with_reducible rfl) (by with_reducible rfl) (HM _) ?_; rintro e w3 ⟨rfl, hw3⟩; obtain ⟨hcw3, hfw3⟩ := hw3.facts); obtain ⟨c_w3_0_0, c_w3_0_1, c_w3_0_2, c_w3_0_3, f_w3_0_0, f_w3_0_1, f_w3_0_2, f_w3_0_3⟩ := K.kp4 hw3 (w.heap.size) (.int .i64 (F.dg)) (.int .i64 (F.tn)) (.string F.nm) (.slice o F.pw.length cap); obtain ⟨c_w3_1_0, c_w3_1_1, c_w3_1_2, c_w3_1_3, f_w3_1_0, f_w3_1_1, f_w3_1_2, f_w3_1_3⟩ := K.kp4 hw3 (w.heap.size + 1) (.int .i64 (G.dg)) (.int .i64 (G.tn)) (.string G.nm) (.slice o' G.pw.length cap'); obtain ⟨c_w3_2_0, c_w3_2_1, c_w3_2_2, c_w3_2_3, f_w3_2_0, f_w3_2_1, f_w3_2_2, f_w3_2_3⟩ := K.kp4 hw3 (w.heap.size + 1 + 1) (.int .i64 (0)) (.int .i64 (0)) (.string ⟨#[]⟩) (.slice none 0 0); have z3 : w.heap.size + 3 ≤ w3.heap.size := (by have h1 := hw1.size; have h2 := hw2.size; have h3 := hw3.size; simp at h1 h2 h3; omega)))
        have z5 : w.heap.size + 1 + 1 < w3.heap.size := (by omega)
        have z6 : w.heap.size + 1 < w3.heap.size := (by omega)
        have z7 : w.heap.size < w3.heap.size := (by omega)
        have y5 : ¬ (w.heap.size + 1 + 1 = w3.heap.size) := (by omega)
        have y6 : ¬ (w.heap.size + 1 = w3.heap.size) := (by omega)
        have y7 : ¬ (w.heap.size = w3.heap.size) := (by omega)
        go_region_with (first | ((go_at_call 182; refine K.call (by with_reducible rfl) (by with_reducible rfl) (l18All_any F _ HF.out (h.ext K.bel)) ?_; rintro e w4 ⟨⟨v4, rfl, hv4⟩, hw4⟩; obtain ⟨hcw4, hfw4⟩ := hw4.facts; have s4 := hv4; obtain ⟨o4, c4, rfl, _⟩ := s4); obtain ⟨c_w4_1_0, c_w4_1_1, c_w4_1_2, c_w4_1_3, f_w4_1_0, f_w4_1_1, f_w4_1_2, f_w4_1_3⟩ := K.kp4 hw4 (w.heap.size + 1) (.int .i64 (G.dg)) (.int .i64 (G.tn)) (.string G.nm) (.slice o' G.pw.length cap'); obtain ⟨c_w4_2_0, c_w4_2_1, c_w4_2_2, c_w4_2_3, f_w4_2_0, f_w4_2_1, f_w4_2_2, f_w4_2_3⟩ := K.kp4 hw4 (w.heap.size + 1 + 1) (.int .i64 (0)) (.int .i64 (0)) (.string ⟨#[]⟩) (.slice none 0 0)) | ((go_at_call 182; refine K.call (by with_reducible rfl) (by with_reducible rfl) (l18All_any G _ HG.out (h'.ext K.bel)) ?_; rintro e w5 ⟨⟨v5, rfl, hv5⟩, hw5⟩; obtain ⟨hcw5, hfw5⟩ := hw5.facts; have s5 := hv5; obtain ⟨o5, c5, rfl, _⟩ := s5)))
        all_goals
          have hA : K.own w5 (w3.heap.size + 1) w4.heap.size (.slice o4 (Z.allOf F).length c4) (Z.allOf F) := K.own.ext (hv4.mono (by simp) (Nat.le_refl _)) hw5
          have hB : K.ints w5 w4.heap.size w5.heap.size (.slice o5 (Z.allOf G).length c5) (Z.allOf G) := K.own.ints (hv5.mono (by simp) (Nat.le_refl _))
          have r2 : w5.heap[w.heap.size + 1 + 1]? = some (.cells #[.int .i64 0, .int .i64 0, .string ⟨#[]⟩, .slice none 0 0] 36) := by
            refine K.Ext.block_of (K.Ext.block_of ?_ hw4) hw5
            refine K.Ext.block_of ?_ (((K.Ext.refl _).alloc _).drew)
            exact K.Ext.block_of (K.Ext.block_of (K.Ext.block_of (K.block_new (by simp)) hw1) hw2) hw3
          have r3 : w5.heap[w3.heap.size]? = some (.cells #[.int .i64 r.1.1, .int .i64 r.1.2] 34) := by
            refine K.Ext.block_of (K.Ext.block_of ?_ hw4) hw5
            exact K.Ext.block_of (K.block_new rfl) ((K.Ext.refl _).drew)
          simp only [Z.allOf_length] at hA hB ⊢
          have HA := Z.hide hA
          have HB := Z.hide hB
          have R2 := Z.hide r2
          have R3 := Z.hide r3
          have HW : Hid (K.Ext w w5) := Z.hide K.bel
          clear hA hB r2 r3 hv4 hv5 hw4 hw5 hcw4 hfw4 hcw5 hfw5 HM
          go_wp2_with fail
          go_loopw [10] (fun i wr => ∃ k : Nat, k ≤ 26 ∧ i = .int .i64 k ∧ Hid (K.own wr (w3.heap.size + 1) w4.heap.size (.slice o4 26 c4) (Z.sumK F G k)) ∧ Hid (K.ints wr w4.heap.size w5.heap.size (.slice o5 26 c5) (Z.allOf G)) ∧ Hid (K.Ext w wr) ∧ Hid (wr.heap[w.heap.size + 1 + 1]? = some (.cells #[.int .i64 0, .int .i64 0, .string ⟨#[]⟩, .slice none 0 0] 36)) ∧ Hid (wr.heap[w3.heap.size]? = some (.cells #[.int .i64 r.1.1, .int .i64 r.1.2] 34))) (fun i _ => 26 - (intOf i).toNat)
          case atStart => exact ⟨0, Nat.zero_le _, rfl, Z.hide (by rw [Z.sumK_zero]; exact HA.out), HB, HW, R2, R3⟩
          case round =>
            obtain ⟨k, hk, rfl, HA1, HB1, HX1, C2, C3⟩ := hrel
            clear HA HB R2 R3 HW
            have k0 : (0 : Int) ≤ (k : Int) := Int.natCast_nonneg k
            by_cases hlt : k < 26
            · have k1 : (k : Int) < 26 := by omega
              obtain ⟨b, off, rfl, b1, b2, bc, bf⟩ := K.own_at HA1.out (by rw [Z.sumK_length]; decide)
              obtain ⟨b', off', rfl, b1', b2', bc'⟩ := K.ints_at HB1.out (by rw [Z.allOf_length]; decide)
              have hca := bc k (by rw [Z.sumK_length]; exact hlt)
              have hfa := bf k (by rw [Z.sumK_length]; exact hlt)
              have hcb := bc' k (by rw [Z.allOf_length]; exact hlt)
              rw [Z.sumK_get _ _ _ _ hlt, if_neg (Nat.lt_irrefl k)] at hca
              rw [Z.allOf_get _ _ hlt] at hcb
              obtain ⟨x1, x2⟩ := Z.expo_6 HF.out (97 + (k : Int))
              obtain ⟨y1, y2⟩ := Z.expo_6 HG.out (97 + (k : Int))
              have HS : Hid (Z.sumK F G (k + 1) = (Z.sumK F G k).set k (Z.expo (Z.bs F.nm) F.pw (97 + (k : Int)) + Z.expo (Z.bs G.nm) G.pw (97 + (k : Int)))) := Z.hide (Z.sumK_succ F G k hlt)
              have HL := Z.hide (Z.sumK_length F G k)
              clear bc bf bc'
              generalize Z.expo (Z.bs F.nm) F.pw (97 + (k : Int)) = x at *
              generalize Z.expo (Z.bs G.nm) G.pw (97 + (k : Int)) = y at *
              have q1 : IntKind.i64.wrap (x + y) = x + y := IntWalk.i64_in _ (by omega)
              go_wp2_with fail
              refine K.wp_region_x 12 [0, 0, 0, 0, 0, 1, 0, 0, 0, 1, 0, 0] [] (by kernel_rfl) (by kernel_rfl) ?_
              simp only [List.take_succ_cons, List.take_zero, List.drop_succ_cons, List.drop_zero]
              iterate 5
                refine K.xp ?_
                simp only [Act.put, List.setIfInBounds_toArray, List.set]
              refine K.xh ?_
              simp only [Act.put, List.setIfInBounds_toArray, List.set]
              iterate 3
                refine K.xp ?_
                simp only [Act.put, List.setIfInBounds_toArray, List.set]
              refine K.xh ?_
              simp only [Act.put, List.setIfInBounds_toArray, List.set]
              iterate 2
                refine K.xp ?_
                simp only [Act.put, List.setIfInBounds_toArray, List.set]
              apply K.x_done
              intro w6 h_x
              have hx6 := K.Ext.id h_x
              clear h_x
              obtain ⟨⟨hcw6, hfw6⟩, hc'w6, hf'w6⟩ := hx6.all
              go_wp2_with fail
              refine NoPanic.normal ?_
              have lb : b < w6.heap.size := by have h1 := hx6.size; have h2 := World.block_lt_of_cell? wr _ hca; simp at h1 h2; omega
              have HT := Z.hide (K.own_setAt (x := x + y) (k := k) (by rw [HL.out]; exact hlt) (K.own.ext (K.own.drew HA1.out) hx6))
              have HBT : Hid (K.ints (w6.setCell ⟨b, off + k, none⟩ (.int .i64 (x + y))) w4.heap.size w5.heap.size (.slice (some ⟨b', off', none⟩) 26 c5) (Z.allOf G)) := Z.hide (K.ints.set (K.ints.ext (K.ints.drew HB1.out) hx6) _ (.inl b2) _)
              have HXT : Hid (K.Ext w (w6.setCell ⟨b, off + k, none⟩ (.int .i64 (x + y)))) := Z.hide (K.Ext.setCell (K.Ext.trans HX1.out.drew hx6) (by dsimp only; omega) _)
              have D2 : Hid ((w6.setCell ⟨b, off + k, none⟩ (.int .i64 (x + y))).heap[w.heap.size + 1 + 1]? = some (.cells #[.int .i64 0, .int .i64 0, .string ⟨#[]⟩, .slice none 0 0] 36)) := Z.hide ((K.set_block (by dsimp only; omega)).trans (K.Ext.block_of (K.Ext.block_of C2.out (K.Ext.refl _).drew) hx6))
              have D3 : Hid ((w6.setCell ⟨b, off + k, none⟩ (.int .i64 (x + y))).heap[w3.heap.size]? = some (.cells #[.int .i64 r.1.1, .int .i64 r.1.2] 34)) := Z.hide ((K.set_block (by dsimp only; omega)).trans (K.Ext.block_of (K.Ext.block_of C3.out (K.Ext.refl _).drew) hx6))
              go_wp2
              go_roundw
              case rel => exact ⟨k + 1, by omega, by go_num, Z.hide (by rw [HS.out]; exact HT.out), HBT, HXT, D2, D3⟩
              case measure => simp [intOf]; omega
            · obtain rfl : k = 26 := by omega
              have f0 : wr.cell? ⟨w3.heap.size, 0, none⟩ = some (.int .i64 r.1.1) := K.cell_at C3.out rfl
              have f1 : wr.cell? ⟨w3.heap.size, 1, none⟩ = some (.int .i64 r.1.2) := K.cell_at C3.out rfl
              obtain ⟨M, HMM⟩ : ∃ M, M = Z.made r.1.1 r.1.2 (Z.sumF F G) 26 := ⟨_, rfl⟩
              have HK : Calls Tryz.prog 132 #[.agg #[.int .i64 r.1.1, .int .i64 r.1.2], .slice o4 26 c4] wr fun e w' => (∃ p', e = .returned (.agg #[.int .i64 M.dg, .int .i64 M.tn, .string M.nm, p']) ∧ K.own w' wr.heap.size w'.heap.size p' M.pw) ∧ K.Ext wr w' := by
                have hk := l18Make_any r.1.1 r.1.2 (Z.sumK F G 26) wr (Z.sumK_length F G 26) (K.own.ints HA1.out)
                rw [Z.sumK_made] at hk
                rw [HMM]
                exact hk
              have hle : M.pw.length ≤ 1048576 ∧ M.nm.size ≤ 1048576 := by rw [HMM]; exact Z.made_le _ _ _
              have HL := Z.hide hle
              rw [← HMM] at HE
              clear HMM hle HA1 HB1
              obtain ⟨N, HN⟩ : ∃ N, N = Z.fmOr M := ⟨_, rfl⟩
              have HR : ∀ {lo hi : Nat} {p : Value} (w : World), K.ints w lo hi p M.pw → Calls Tryz.prog 183 #[.agg #[.int .i64 M.dg, .int .i64 M.tn, .string M.nm, p]] w fun e w' => (∃ p', e = .returned (.tuple #[.agg #[.int .i64 N.1.dg, .int .i64 N.1.tn, .string N.1.nm, p'], .int .i64 N.2]) ∧ K.ints w' lo hi p' N.1.pw) ∧ K.Ext w w' := fun w hh => by rw [HN]; exact l18Result_any M w HL.out.1 HL.out.2 hh
              rw [← HN] at HE
              clear HN
              go_wp2_with (first | ((go_at_call 132; refine K.call (by with_reducible rfl) (by with_reducible rfl) (HK) ?_; rintro e w6 ⟨⟨p6, rfl, hp6⟩, hw6⟩; have E2 := Z.hide (K.Ext.block_of C2.out hw6); have hp7 := hp6; obtain ⟨o6, c6, rfl, _⟩ := hp7)) | ((go_at_call 183; refine K.call (by with_reducible rfl) (by with_reducible rfl) (HR _ (K.own.ints hp6)) ?_; rintro e w7 ⟨⟨p7, rfl, hp7⟩, hw7⟩; have hp8 := hp7; obtain ⟨o7, c7, rfl, _⟩ := hp8; have G2 := K.Ext.block_of E2.out hw7; have lw2 : w.heap.size + 1 + 1 < w7.heap.size := (Array.getElem?_eq_some_iff.1 G2).1; have r0 : w7.cell? ⟨w.heap.size + 1 + 1, 0, none⟩ = some (.int .i64 0) := K.cell_at G2 rfl; have r1 : w7.cell? ⟨w.heap.size + 1 + 1, 1, none⟩ = some (.int .i64 0) := K.cell_at G2 rfl; have r2 : w7.cell? ⟨w.heap.size + 1 + 1, 2, none⟩ = some (.string ⟨#[]⟩) := K.cell_at G2 rfl; have r3 : w7.cell? ⟨w.heap.size + 1 + 1, 3, none⟩ = some (.slice none 0 0) := K.cell_at G2 rfl; have t0 : w7.frozen? ⟨w.heap.size + 1 + 1, 0, none⟩ = false := K.thaw_at G2; have t1 : w7.frozen? ⟨w.heap.size + 1 + 1, 1, none⟩ = false := K.thaw_at G2; have t2 : w7.frozen? ⟨w.heap.size + 1 + 1, 2, none⟩ = false := K.thaw_at G2; have t3 : w7.frozen? ⟨w.heap.size + 1 + 1, 3, none⟩ = false := K.thaw_at G2; clear G2)))
              rw [HE.out]
              have z8 := HX1.out.size
              have z9 := hw6.size
              have z10 := hw7.size
              have z11 : w.heap.size + 1 + 1 < wr.heap.size := (Array.getElem?_eq_some_iff.1 C2.out).1
              refine bodyPost_ret (v := .tuple #[.agg #[.int .i64 N.1.dg, .int .i64 N.1.tn, .string N.1.nm, .slice o7 N.1.pw.length c7], .int .i64 N.2]) (by unfold results; rw [Tryz.results163]; go_simp) rfl ⟨⟨_, rfl, ?_⟩, ?_⟩
              · refine K.ints.mono (lo := wr.heap.size) (hi := w6.heap.size) ?_ (by omega) (by simp; omega)
                repeat with_reducible refine K.ints.set ?_ _ (.inl (by dsimp only; omega)) _
                exact hp7
              · repeat with_reducible refine K.Ext.setCell ?_ (by dsimp only; omega) _
                exact K.Ext.trans HX1.out (K.Ext.trans hw6 hw7)
      · have HE : Hid (Z.MultiplyFormulas F G = (Z.zeroFm, r.2)) := Z.hide (by rw [Z.MultiplyFormulas_ok hF hG]; unfold Z.multiplied; rw [← hr, if_neg hz])
        clear hr
        go_enter Tryz.func163, Tryz.ntmps163
        go_wp2_with (first | ((go_at_call 60; refine K.call (by with_reducible rfl) (by with_reducible rfl) (spec_IsFormula F _ hm hn (h.ext K.bel)) ?_; rintro e w1 ⟨rfl, hw1⟩; obtain ⟨hcw1, hfw1⟩ := hw1.facts); obtain ⟨c_w1_0_0, c_w1_0_1, c_w1_0_2, c_w1_0_3, f_w1_0_0, f_w1_0_1, f_w1_0_2, f_w1_0_3⟩ := K.kp4 hw1 (w.heap.size) (.int .i64 (F.dg)) (.int .i64 (F.tn)) (.string F.nm) (.slice o F.pw.length cap); obtain ⟨c_w1_1_0, c_w1_1_1, c_w1_1_2, c_w1_1_3, f_w1_1_0, f_w1_1_1, f_w1_1_2, f_w1_1_3⟩ := K.kp4 hw1 (w.heap.size + 1) (.int .i64 (G.dg)) (.int .i64 (G.tn)) (.string G.nm) (.slice o' G.pw.length cap'); obtain ⟨c_w1_2_0, c_w1_2_1, c_w1_2_2, c_w1_2_3, f_w1_2_0, f_w1_2_1, f_w1_2_2, f_w1_2_3⟩ := K.kp4 hw1 (w.heap.size + 1 + 1) (.int .i64 (0)) (.int .i64 (0)) (.string ⟨#[]⟩) (.slice none 0 0)) | ((go_at_call 60; refine K.call (by with_reducible rfl) (by with_reducible rfl) (spec_IsFormula G _ hm' hn' (h'.ext K.bel)) ?_; rintro e w2 ⟨rfl, hw2⟩; obtain ⟨hcw2, hfw2⟩ := hw2.facts); obtain ⟨c_w2_0_0, c_w2_0_1, c_w2_0_2, c_w2_0_3, f_w2_0_0, f_w2_0_1, f_w2_0_2, f_w2_0_3⟩ := K.kp4 hw2 (w.heap.size) (.int .i64 (F.dg)) (.int .i64 (F.tn)) (.string F.nm) (.slice o F.pw.length cap); obtain ⟨c_w2_1_0, c_w2_1_1, c_w2_1_2, c_w2_1_3, f_w2_1_0, f_w2_1_1, f_w2_1_2, f_w2_1_3⟩ := K.kp4 hw2 (w.heap.size + 1) (.int .i64 (G.dg)) (.int .i64 (G.tn)) (.string G.nm) (.slice o' G.pw.length cap'); obtain ⟨c_w2_2_0, c_w2_2_1, c_w2_2_2, c_w2_2_3, f_w2_2_0, f_w2_2_1, f_w2_2_2, f_w2_2_3⟩ := K.kp4 hw2 (w.heap.size + 1 + 1) (.int .i64 (0)) (.int .i64 (0)) (.string ⟨#[]⟩) (.slice none 0 0)) | (go_at_call 181; refine K.call (by with_reducible rfl) (by with_reducible rfl) (HM _) ?_; rintro e w3 ⟨rfl, hw3⟩; obtain ⟨hcw3, hfw3⟩ := hw3.facts); obtain ⟨c_w3_0_0, c_w3_0_1, c_w3_0_2, c_w3_0_3, f_w3_0_0, f_w3_0_1, f_w3_0_2, f_w3_0_3⟩ := K.kp4 hw3 (w.heap.size) (.int .i64 (F.dg)) (.int .i64 (F.tn)) (.string F.nm) (.slice o F.pw.length cap); obtain ⟨c_w3_1_0, c_w3_1_1, c_w3_1_2, c_w3_1_3, f_w3_1_0, f_w3_1_1, f_w3_1_2, f_w3_1_3⟩ := K.kp4 hw3 (w.heap.size + 1) (.int .i64 (G.dg)) (.int .i64 (G.tn)) (.string G.nm) (.slice o' G.pw.length cap'); obtain ⟨c_w3_2_0, c_w3_2_1, c_w3_2_2, c_w3_2_3, f_w3_2_0, f_w3_2_1, f_w3_2_2, f_w3_2_3⟩ := K.kp4 hw3 (w.heap.size + 1 + 1) (.int .i64 (0)) (.int .i64 (0)) (.string ⟨#[]⟩) (.slice none 0 0); have z3 : w.heap.size + 3 ≤ w3.heap.size := (by have h1 := hw1.size; have h2 := hw2.size; have h3 := hw3.size; simp at h1 h2 h3; omega); have z4 : ¬ (w.heap.size + 1 + 1 = w3.heap.size) := (by omega); have z8 : ¬ (w3.heap.size = w.heap.size + 1 + 1) := (by omega); have z7 : w.heap.size + 1 + 1 < w3.heap.size := (by omega))
        rw [HE.out]
        refine bodyPost_ret (v := .tuple #[.agg #[.int .i64 0, .int .i64 0, .string ⟨#[]⟩, .slice none 0 0], .int .i64 r.2]) (by unfold results; rw [Tryz.results163]; go_simp) rfl ⟨⟨_, rfl, K.ints_nil _ _ _⟩, ?_⟩
        repeat' (first | with_reducible refine K.Ext.setCell ?_ ?_ _ | with_reducible refine K.Ext.alloc ?_ _ | (dsimp only; omega))
        exact K.bel
end Go.Proofs.YtmgocfdhngeeiaaGreatDoor
end
section
namespace Go.Proofs.YtmgocfdhngeeiaaGreatDoor
open Go.RowKit
theorem unity_new (w : World) : Calls Tryz.prog 103 #[] w fun e w' => e = .returned (.agg #[.int .i64 1000, .int .i64 0]) ∧ K.Ext w w' := by
  go_enter Tryz.func103, Tryz.ntmps103
  go_wp2
  exact bodyPost_ret (v := .agg #[.int .i64 1000, .int .i64 0]) (by unfold results; rw [Tryz.results103]; go_simp) rfl ⟨rfl, K.bel⟩
set_option maxHeartbeats 3200000 in
theorem raised1_any (F : Z.Fm) (n : Int) (i : Nat) (gn gf : Nat) {lo hi : Nat} {p : Value} (w : World) (hi26 : i < 26) (hF : Z.isFormula F = true) (hn : -3 ≤ n ∧ n ≤ 3)
    (k0 : w.cell? ⟨gn, 0, none⟩ = some (.int .i64 n)) (h0 : w.cell? ⟨gf, 0, none⟩ = some (.int .i64 F.dg)) (h1 : w.cell? ⟨gf, 1, none⟩ = some (.int .i64 F.tn)) (h2 : w.cell? ⟨gf, 2, none⟩ = some (.string F.nm)) (h3 : w.cell? ⟨gf, 3, none⟩ = some p) (h : K.ints w lo hi p F.pw) :
    Calls Tryz.prog 162 #[.int .u8 (97 + (i : Int)), .pointer (some ⟨gn, 0, none⟩), .pointer (some ⟨gf, 0, none⟩)] w fun e w' => e = .returned (.int .i64 (Z.powF F n i)) ∧ K.Ext w w' := by
  have g1 := h
  obtain ⟨o, cap, rfl, _⟩ := g1
  obtain ⟨l1, l2⟩ : Hid (F.pw.length = F.nm.size) ∧ Hid (F.nm.size ≤ 6) := Z.isFormula_len hF
  obtain ⟨x, hx⟩ : ∃ x, x = Z.expo (Z.bs F.nm) F.pw (97 + (i : Int)) := ⟨_, rfl⟩
  obtain ⟨x1, x2⟩ := Z.expo_6 hF (97 + (i : Int))
  rw [← hx] at x1 x2
  have HE : Hid (Z.powF F n i = n * x) := Z.hide (by unfold Z.powF; rw [hx])
  obtain ⟨m1, m2⟩ := Z.mul_bd n x 3 6 hn.1 hn.2 x1 x2
  have q1 : IntKind.i64.wrap (n * x) = n * x := IntWalk.i64_in _ (by omega)
  have C1 : ∀ {lo hi : Nat} {p : Value} (w' : World), K.ints w' lo hi p F.pw → Calls Tryz.prog 67 #[.agg #[.int .i64 F.dg, .int .i64 F.tn, .string F.nm, p], .int .u8 (97 + (i : Int))] w' fun e w'' => e = .returned (.int .i64 x) ∧ K.Ext w' w'' := fun w' hh => by rw [hx]; exact exponentOf_any F (97 + (i : Int)) _ _ _ w' l1.out (Nat.le_trans l2.out (by decide)) (by omega) (by omega) hh
  clear hx hF m1 m2
  go_enter Tryz.func162, Tryz.ntmps162
  go_wp2_with fail
  refine K.wp_region_x 5 [1, 1, 0, 2, 0] [K.SP.any, K.SP.any, K.SP.any, K.SP.is (.int .i64 x)] (by kernel_rfl) (by kernel_rfl) ?_
  simp only [List.take_succ_cons, List.take_zero, List.drop_succ_cons, List.drop_zero]
  iterate 2
    refine K.xh ?_
    simp only [Act.put, List.setIfInBounds_toArray, List.set]
  refine K.xp ?_
  simp only [Act.put, List.setIfInBounds_toArray, List.set]
  apply K.x_call_is
  · rfl
  · rfl
  · rfl
  · intro w'; go_simp; first | done | rfl | exact ⟨rfl, rfl⟩
  · intro w' hx hp; have hc := hx.all.1.1; have hf := hx.all.1.2; have hc' := hx.all.2.1; have hf' := hx.all.2.2; exact C1 _ (K.ints.ext (K.ints.drew h) hx)
  intro w_3_ hx_3_
  simp only [Act.put, List.setIfInBounds_toArray, List.set]
  refine K.xp ?_
  simp only [Act.put, List.setIfInBounds_toArray, List.set]
  apply K.x_done
  intro w2 h_x
  have hx2 := hx_3_.trans h_x
  clear h_x hx_3_
  obtain ⟨⟨hcw2, hfw2⟩, hc'w2, hf'w2⟩ := hx2.all
  go_wp2_with fail
  refine NoPanic.normal ?_
  go_wp2
  go_ret
  exact ⟨K.ri (by rw [HE.out]), K.bel⟩
set_option maxRecDepth 100000 in
set_option maxHeartbeats 6400000 in
theorem raised_any (F : Z.Fm) (n : Int) {lo hi : Nat} {p : Value} (w : World) (hF : Z.isFormula F = true) (hn : -3 ≤ n ∧ n ≤ 3) (h : K.ints w lo hi p F.pw) :
    Calls Tryz.prog 138 #[.agg #[.int .i64 F.dg, .int .i64 F.tn, .string F.nm, p], .int .i64 n] w fun e w' => (∃ p', e = .returned (.tuple #[.agg #[.int .i64 ((Z.raised F n).1).dg, .int .i64 ((Z.raised F n).1).tn, .string ((Z.raised F n).1).nm, p'], .int .i64 (Z.raised F n).2]) ∧ K.own w' w.heap.size w'.heap.size p' (Z.raised F n).1.pw) ∧ K.Ext w w' := by
  have g1 := h
  obtain ⟨o, cap, rfl, _⟩ := g1
  have hmf : ∀ (fn : Fn) (first cap : Array Value) (w : World), (Instr.makeFunc fn first cap).run Tryz.prog w = .ok (.func fn first cap) w := fun _ _ _ _ => rfl
  have hg : ∀ (args : Array Value) (w' : World), (callFunc 162 args).run Tryz.prog w' = .ok (.enter 162 args) w' := by
    intro args w'; go_simp
  obtain ⟨n1, n2⟩ := hn
  obtain ⟨m, hm⟩ : ∃ m : Nat, m = n.natAbs := ⟨_, rfl⟩
  have hm3 : m ≤ 3 := by omega
  obtain ⟨g, hgd⟩ : ∃ g, g = decide (0 < n) := ⟨_, rfl⟩
  have HG := Z.hide hg
  have HFF := Z.hide hF
  have HH := Z.hide h
  have HM := Z.hide hm
  have HD := Z.hide hgd
  clear hg hF h hm hgd
  go_enter Tryz.func138, Tryz.ntmps138
  go_wp2_with ((go_at_call 103; refine K.call (by with_reducible rfl) (by with_reducible rfl) (unity_new _) ?_; rintro e w1 ⟨rfl, hw1⟩; obtain ⟨hcw1, hfw1⟩ := hw1.facts))
  have s1 : w.heap.size + 3 ≤ w1.heap.size := by have h_ := hw1.size; simp at h_; omega
  have B0 : w1.heap[w.heap.size]? = some (.cells #[.int .i64 F.dg, .int .i64 F.tn, .string F.nm, .slice o F.pw.length cap] 36) := K.Ext.block_of (((K.Ext.refl _).alloc _).alloc _ |>.block (K.block_new rfl)) hw1
  have B1 : w1.heap[w.heap.size + 1]? = some (.cells #[.int .i64 n] 2) := K.Ext.block_of (((K.Ext.refl _).alloc _).block (K.block_new (by simp))) hw1
  have B2 : w1.heap[w.heap.size + 1 + 1]? = some (.cells #[.int .i64 0, .int .i64 0, .string ⟨#[]⟩, .slice none 0 0] 36) := K.Ext.block_of (K.block_new (by simp)) hw1
  have R0 := Z.hide B0
  have R1 := Z.hide B1
  have R2 := Z.hide B2
  have HX1 : Hid (K.Ext w w1) := Z.hide K.bel
  clear B0 B1 B2 hcw1 hfw1 hw1
  go_loopw [7] (fun i wr => ∃ k : Nat, k ≤ m ∧ i = .int .i64 k ∧ Hid ((Z.powK g (F.dg, F.tn) k).2 = 0) ∧ Hid (wr.heap[w.heap.size]? = some (.cells #[.int .i64 F.dg, .int .i64 F.tn, .string F.nm, .slice o F.pw.length cap] 36)) ∧ Hid (wr.heap[w.heap.size + 1]? = some (.cells #[.int .i64 n] 2)) ∧ Hid (wr.heap[w.heap.size + 1 + 1]? = some (.cells #[.int .i64 0, .int .i64 0, .string ⟨#[]⟩, .slice none 0 0] 36)) ∧ Hid (wr.heap[w1.heap.size]? = some (.cells #[.int .i64 (Z.powK g (F.dg, F.tn) k).1.1, .int .i64 (Z.powK g (F.dg, F.tn) k).1.2] 34)) ∧ Hid (K.Ext w wr)) (fun i _ => m - (intOf i).toNat)
  case atStart =>
    refine ⟨0, Nat.zero_le _, rfl, Z.hide rfl, Z.hide ?_, Z.hide ?_, Z.hide ?_, Z.hide ?_, Z.hide K.bel⟩
    · exact K.Ext.block_of R0.out K.bel
    · exact K.Ext.block_of R1.out K.bel
    · exact K.Ext.block_of R2.out K.bel
    · exact K.block_new rfl
  case round =>
    obtain ⟨k, hk, rfl, HZ, C0, C1, C2, C3, HX⟩ := hrel
    clear R0 R1 R2 HX1
    have k0 : (0 : Int) ≤ (k : Int) := Int.natCast_nonneg k
    have d0 : wr.cell? ⟨w.heap.size, 0, none⟩ = some (.int .i64 F.dg) := K.cell_at C0.out rfl
    have d1 : wr.cell? ⟨w.heap.size, 1, none⟩ = some (.int .i64 F.tn) := K.cell_at C0.out rfl
    have d2 : wr.cell? ⟨w.heap.size + 1, 0, none⟩ = some (.int .i64 n) := K.cell_at C1.out rfl
    have e0 : wr.cell? ⟨w1.heap.size, 0, none⟩ = some (.int .i64 (Z.powK g (F.dg, F.tn) k).1.1) := K.cell_at C3.out rfl
    have e1 : wr.cell? ⟨w1.heap.size, 1, none⟩ = some (.int .i64 (Z.powK g (F.dg, F.tn) k).1.2) := K.cell_at C3.out rfl
    have lw : w1.heap.size < wr.heap.size := (Array.getElem?_eq_some_iff.1 C3.out).1
    have m0 : (m : Int) = n ∨ (m : Int) = -n := by have := HM.out; omega
    have m0' : -(m : Int) ≤ n ∧ n ≤ (m : Int) := by have := HM.out; omega
    by_cases hlt : k < m
    · have k1 : (k : Int) < (m : Int) := by omega
      obtain ⟨x, hx⟩ : ∃ x, x = (Z.powK g (F.dg, F.tn) k).1 := ⟨_, rfl⟩
      rw [← hx] at e0 e1
      obtain ⟨r, hr⟩ : ∃ r, r = Z.pw1 g x (F.dg, F.tn) := ⟨_, rfl⟩
      have HS : Hid (Z.powK g (F.dg, F.tn) (k + 1) = r) := Z.hide (by rw [Z.powK_succ _ _ _ HZ.out, hr, hx])
      have HR : Hid (∀ w' : World, Calls Tryz.prog (if g then 158 else 161) #[.agg #[.int .i64 x.1, .int .i64 x.2], .agg #[.int .i64 F.dg, .int .i64 F.tn]] w' fun e w'' => e = .returned (.tuple #[.agg #[.int .i64 r.1.1, .int .i64 r.1.2], .int .i64 r.2]) ∧ K.Ext w' w'') := Z.hide (fun w' => by
        rw [hr]
        cases g
        · exact impl_DivideFigures x (F.dg, F.tn) w'
        · exact impl_MultiplyFigures x (F.dg, F.tn) w')
      clear hx hr
      have hgn : g = decide (0 < n) := HD.out
      have tm : (k : Int) < max n (-n) := by omega
      by_cases hp : 0 < n
      · obtain rfl : g = true := by rw [hgn]; simpa using hp
        clear hgn
        simp only [if_true] at HR
        by_cases hz : r.2 = 0
        · have HZ2 : Hid ((Z.powK true (F.dg, F.tn) (k + 1)).2 = 0) := Z.hide (by rw [HS.out]; exact hz)
          go_wp2_with ((go_at_call 158; refine K.call (by with_reducible rfl) (by with_reducible rfl) (HR.out _) ?_; rintro e w2 ⟨rfl, hw2⟩; have D0 := Z.hide (K.Ext.block_of C0.out hw2); have D1 := Z.hide (K.Ext.block_of C1.out hw2); have D2 := Z.hide (K.Ext.block_of C2.out hw2); have D3 := Z.hide (K.Ext.block_of C3.out hw2); have HX2 : Hid (K.Ext w w2) := Z.hide (HX.out.trans hw2); have lw2 := hw2.size; have f0 : w2.cell? ⟨w1.heap.size, 0, none⟩ = some (.int .i64 x.1) := hw2.cell_of e0; have f1 : w2.cell? ⟨w1.heap.size, 1, none⟩ = some (.int .i64 x.2) := hw2.cell_of e1; have t0 : w2.frozen? ⟨w1.heap.size, 0, none⟩ = false := K.thaw_at D3.out; have t1 : w2.frozen? ⟨w1.heap.size, 1, none⟩ = false := K.thaw_at D3.out; have z0 : w2.cell? ⟨w.heap.size + 1 + 1, 0, none⟩ = some (.int .i64 0) := K.cell_at D2.out rfl; have z1 : w2.cell? ⟨w.heap.size + 1 + 1, 1, none⟩ = some (.int .i64 0) := K.cell_at D2.out rfl; have z2 : w2.cell? ⟨w.heap.size + 1 + 1, 2, none⟩ = some (.string ⟨#[]⟩) := K.cell_at D2.out rfl; have z3 : w2.cell? ⟨w.heap.size + 1 + 1, 3, none⟩ = some (.slice none 0 0) := K.cell_at D2.out rfl; have y0 : w2.frozen? ⟨w.heap.size + 1 + 1, 0, none⟩ = false := K.thaw_at D2.out; have y1 : w2.frozen? ⟨w.heap.size + 1 + 1, 1, none⟩ = false := K.thaw_at D2.out; have y2 : w2.frozen? ⟨w.heap.size + 1 + 1, 2, none⟩ = false := K.thaw_at D2.out; have y3 : w2.frozen? ⟨w.heap.size + 1 + 1, 3, none⟩ = false := K.thaw_at D2.out; have n1 : ¬ (w.heap.size + 1 + 1 = w1.heap.size) := (by omega); have n2 : ¬ (w1.heap.size = w.heap.size + 1 + 1) := (by omega)))
          go_roundw
          case rel =>
            refine ⟨k + 1, by omega, by go_num, HZ2, Z.hide ?_, Z.hide ?_, Z.hide ?_, Z.hide ?_, Z.hide ?_⟩
            · exact (K.set_block (by dsimp only; omega)).trans ((K.set_block (by dsimp only; omega)).trans D0.out)
            · exact (K.set_block (by dsimp only; omega)).trans ((K.set_block (by dsimp only; omega)).trans D1.out)
            · exact (K.set_block (by dsimp only; omega)).trans ((K.set_block (by dsimp only; omega)).trans D2.out)
            · rw [HS.out]; exact Joins.block_setCell (Joins.block_setCell D3.out _) _
            · exact K.Ext.setCell (K.Ext.setCell HX2.out (by dsimp only; omega) _) (by dsimp only; omega) _
          case measure => simp [intOf]; omega
        · have HE : Hid (Z.raised F n = (Z.zeroFm, r.2)) := Z.hide (by
            have h1 := Z.powK_stop true (F.dg, F.tn) (k + 1) (by rw [HS.out]; exact hz) m (by omega)
            unfold Z.raised
            rw [← HM.out, ← HD.out, h1, HS.out, if_neg hz])
          go_wp2_with ((go_at_call 158; refine K.call (by with_reducible rfl) (by with_reducible rfl) (HR.out _) ?_; rintro e w2 ⟨rfl, hw2⟩; have D0 := Z.hide (K.Ext.block_of C0.out hw2); have D1 := Z.hide (K.Ext.block_of C1.out hw2); have D2 := Z.hide (K.Ext.block_of C2.out hw2); have D3 := Z.hide (K.Ext.block_of C3.out hw2); have HX2 : Hid (K.Ext w w2) := Z.hide (HX.out.trans hw2); have lw2 := hw2.size; have f0 : w2.cell? ⟨w1.heap.size, 0, none⟩ = some (.int .i64 x.1) := hw2.cell_of e0; have f1 : w2.cell? ⟨w1.heap.size, 1, none⟩ = some (.int .i64 x.2) := hw2.cell_of e1; have t0 : w2.frozen? ⟨w1.heap.size, 0, none⟩ = false := K.thaw_at D3.out; have t1 : w2.frozen? ⟨w1.heap.size, 1, none⟩ = false := K.thaw_at D3.out; have z0 : w2.cell? ⟨w.heap.size + 1 + 1, 0, none⟩ = some (.int .i64 0) := K.cell_at D2.out rfl; have z1 : w2.cell? ⟨w.heap.size + 1 + 1, 1, none⟩ = some (.int .i64 0) := K.cell_at D2.out rfl; have z2 : w2.cell? ⟨w.heap.size + 1 + 1, 2, none⟩ = some (.string ⟨#[]⟩) := K.cell_at D2.out rfl; have z3 : w2.cell? ⟨w.heap.size + 1 + 1, 3, none⟩ = some (.slice none 0 0) := K.cell_at D2.out rfl; have y0 : w2.frozen? ⟨w.heap.size + 1 + 1, 0, none⟩ = false := K.thaw_at D2.out; have y1 : w2.frozen? ⟨w.heap.size + 1 + 1, 1, none⟩ = false := K.thaw_at D2.out; have y2 : w2.frozen? ⟨w.heap.size + 1 + 1, 2, none⟩ = false := K.thaw_at D2.out; have y3 : w2.frozen? ⟨w.heap.size + 1 + 1, 3, none⟩ = false := K.thaw_at D2.out; have n1 : ¬ (w.heap.size + 1 + 1 = w1.heap.size) := (by omega); have n2 : ¬ (w1.heap.size = w.heap.size + 1 + 1) := (by omega)))
          rw [HE.out]
          refine bodyPost_ret (v := .tuple #[.agg #[.int .i64 0, .int .i64 0, .string ⟨#[]⟩, .slice none 0 0], .int .i64 r.2]) (by unfold results; rw [Tryz.results138]; go_simp) rfl ⟨⟨_, rfl, K.own_nil _ _ _⟩, ?_⟩
          repeat with_reducible refine K.Ext.setCell ?_ (by dsimp only; omega) _
          exact HX2.out
      · obtain rfl : g = false := by rw [hgn]; simpa using hp
        clear hgn
        simp only [Bool.false_eq_true, if_false] at HR
        by_cases hz : r.2 = 0
        · have HZ2 : Hid ((Z.powK false (F.dg, F.tn) (k + 1)).2 = 0) := Z.hide (by rw [HS.out]; exact hz)
          go_wp2_with ((go_at_call 161; refine K.call (by with_reducible rfl) (by with_reducible rfl) (HR.out _) ?_; rintro e w2 ⟨rfl, hw2⟩; have D0 := Z.hide (K.Ext.block_of C0.out hw2); have D1 := Z.hide (K.Ext.block_of C1.out hw2); have D2 := Z.hide (K.Ext.block_of C2.out hw2); have D3 := Z.hide (K.Ext.block_of C3.out hw2); have HX2 : Hid (K.Ext w w2) := Z.hide (HX.out.trans hw2); have lw2 := hw2.size; have f0 : w2.cell? ⟨w1.heap.size, 0, none⟩ = some (.int .i64 x.1) := hw2.cell_of e0; have f1 : w2.cell? ⟨w1.heap.size, 1, none⟩ = some (.int .i64 x.2) := hw2.cell_of e1; have t0 : w2.frozen? ⟨w1.heap.size, 0, none⟩ = false := K.thaw_at D3.out; have t1 : w2.frozen? ⟨w1.heap.size, 1, none⟩ = false := K.thaw_at D3.out; have z0 : w2.cell? ⟨w.heap.size + 1 + 1, 0, none⟩ = some (.int .i64 0) := K.cell_at D2.out rfl; have z1 : w2.cell? ⟨w.heap.size + 1 + 1, 1, none⟩ = some (.int .i64 0) := K.cell_at D2.out rfl; have z2 : w2.cell? ⟨w.heap.size + 1 + 1, 2, none⟩ = some (.string ⟨#[]⟩) := K.cell_at D2.out rfl; have z3 : w2.cell? ⟨w.heap.size + 1 + 1, 3, none⟩ = some (.slice none 0 0) := K.cell_at D2.out rfl; have y0 : w2.frozen? ⟨w.heap.size + 1 + 1, 0, none⟩ = false := K.thaw_at D2.out; have y1 : w2.frozen? ⟨w.heap.size + 1 + 1, 1, none⟩ = false := K.thaw_at D2.out; have y2 : w2.frozen? ⟨w.heap.size + 1 + 1, 2, none⟩ = false := K.thaw_at D2.out; have y3 : w2.frozen? ⟨w.heap.size + 1 + 1, 3, none⟩ = false := K.thaw_at D2.out; have n1 : ¬ (w.heap.size + 1 + 1 = w1.heap.size) := (by omega); have n2 : ¬ (w1.heap.size = w.heap.size + 1 + 1) := (by omega)))
          go_roundw
          case rel =>
            refine ⟨k + 1, by omega, by go_num, HZ2, Z.hide ?_, Z.hide ?_, Z.hide ?_, Z.hide ?_, Z.hide ?_⟩
            · exact (K.set_block (by dsimp only; omega)).trans ((K.set_block (by dsimp only; omega)).trans D0.out)
            · exact (K.set_block (by dsimp only; omega)).trans ((K.set_block (by dsimp only; omega)).trans D1.out)
            · exact (K.set_block (by dsimp only; omega)).trans ((K.set_block (by dsimp only; omega)).trans D2.out)
            · rw [HS.out]; exact Joins.block_setCell (Joins.block_setCell D3.out _) _
            · exact K.Ext.setCell (K.Ext.setCell HX2.out (by dsimp only; omega) _) (by dsimp only; omega) _
          case measure => simp [intOf]; omega
        · have HE : Hid (Z.raised F n = (Z.zeroFm, r.2)) := Z.hide (by
            have h1 := Z.powK_stop false (F.dg, F.tn) (k + 1) (by rw [HS.out]; exact hz) m (by omega)
            unfold Z.raised
            rw [← HM.out, ← HD.out, h1, HS.out, if_neg hz])
          go_wp2_with ((go_at_call 161; refine K.call (by with_reducible rfl) (by with_reducible rfl) (HR.out _) ?_; rintro e w2 ⟨rfl, hw2⟩; have D0 := Z.hide (K.Ext.block_of C0.out hw2); have D1 := Z.hide (K.Ext.block_of C1.out hw2); have D2 := Z.hide (K.Ext.block_of C2.out hw2); have D3 := Z.hide (K.Ext.block_of C3.out hw2); have HX2 : Hid (K.Ext w w2) := Z.hide (HX.out.trans hw2); have lw2 := hw2.size; have f0 : w2.cell? ⟨w1.heap.size, 0, none⟩ = some (.int .i64 x.1) := hw2.cell_of e0; have f1 : w2.cell? ⟨w1.heap.size, 1, none⟩ = some (.int .i64 x.2) := hw2.cell_of e1; have t0 : w2.frozen? ⟨w1.heap.size, 0, none⟩ = false := K.thaw_at D3.out; have t1 : w2.frozen? ⟨w1.heap.size, 1, none⟩ = false := K.thaw_at D3.out; have z0 : w2.cell? ⟨w.heap.size + 1 + 1, 0, none⟩ = some (.int .i64 0) := K.cell_at D2.out rfl; have z1 : w2.cell? ⟨w.heap.size + 1 + 1, 1, none⟩ = some (.int .i64 0) := K.cell_at D2.out rfl; have z2 : w2.cell? ⟨w.heap.size + 1 + 1, 2, none⟩ = some (.string ⟨#[]⟩) := K.cell_at D2.out rfl; have z3 : w2.cell? ⟨w.heap.size + 1 + 1, 3, none⟩ = some (.slice none 0 0) := K.cell_at D2.out rfl; have y0 : w2.frozen? ⟨w.heap.size + 1 + 1, 0, none⟩ = false := K.thaw_at D2.out; have y1 : w2.frozen? ⟨w.heap.size + 1 + 1, 1, none⟩ = false := K.thaw_at D2.out; have y2 : w2.frozen? ⟨w.heap.size + 1 + 1, 2, none⟩ = false := K.thaw_at D2.out; have y3 : w2.frozen? ⟨w.heap.size + 1 + 1, 3, none⟩ = false := K.thaw_at D2.out; have n1 : ¬ (w.heap.size + 1 + 1 = w1.heap.size) := (by omega); have n2 : ¬ (w1.heap.size = w.heap.size + 1 + 1) := (by omega)))
          rw [HE.out]
          refine bodyPost_ret (v := .tuple #[.agg #[.int .i64 0, .int .i64 0, .string ⟨#[]⟩, .slice none 0 0], .int .i64 r.2]) (by unfold results; rw [Tryz.results138]; go_simp) rfl ⟨⟨_, rfl, K.own_nil _ _ _⟩, ?_⟩
          repeat with_reducible refine K.Ext.setCell ?_ (by dsimp only; omega) _
          exact HX2.out
    · obtain rfl : k = m := by omega
      have tm : ¬ ((k : Int) < max n (-n)) := by omega
      obtain ⟨r, hr⟩ : ∃ r, r = (Z.powK g (F.dg, F.tn) k).1 := ⟨_, rfl⟩
      rw [← hr] at e0 e1
      have HZm := HZ.out
      obtain ⟨M, hM⟩ : ∃ M, M = Z.madeOr r.1 r.2 (Z.powF F n) := ⟨_, rfl⟩
      have HE : Hid (Z.raised F n = M) := Z.hide (by
        unfold Z.raised
        rw [← HM.out, ← HD.out, if_pos HZm, ← hr, hM])
      have HK : Hid (Calls Tryz.prog 159 #[.agg #[.int .i64 r.1, .int .i64 r.2], .func (.func 162) #[] #[.pointer (some ⟨w.heap.size + 1, 0, none⟩), .pointer (some ⟨w.heap.size, 0, none⟩)]] wr fun e w' => (∃ p', e = .returned (.tuple #[.agg #[.int .i64 M.1.dg, .int .i64 M.1.tn, .string M.1.nm, p'], .int .i64 M.2]) ∧ K.own w' wr.heap.size w'.heap.size p' M.1.pw) ∧ K.Ext wr w') := Z.hide (by
        rw [hM]
        exact madeOf_any r.1 r.2 (Z.powF F n) 162 _ _ wr HG.out (fun i w' hi hx => raised1_any F n i _ _ w' hi HFF.out ⟨n1, n2⟩ (hx.cell_of d2) (hx.cell_of d0) (hx.cell_of d1) (hx.cell_of (K.cell_at C0.out rfl)) (hx.cell_of (K.cell_at C0.out rfl)) (K.ints.ext HH.out (HX.out.trans hx))))
      clear hr hM HZm
      have hg := HG.out
      go_wp2_with ((go_at_call 159; refine K.call (by with_reducible rfl) (by with_reducible rfl) (HK.out) ?_; rintro e w2 ⟨⟨p2, rfl, hp2⟩, hw2⟩; have hp3 := hp2; obtain ⟨o2, c2, rfl, _⟩ := hp3; have D2 := Z.hide (K.Ext.block_of C2.out hw2); have HX2 : Hid (K.Ext w w2) := Z.hide (HX.out.trans hw2); have lw2 := hw2.size; have z0 : w2.cell? ⟨w.heap.size + 1 + 1, 0, none⟩ = some (.int .i64 0) := K.cell_at D2.out rfl; have z1 : w2.cell? ⟨w.heap.size + 1 + 1, 1, none⟩ = some (.int .i64 0) := K.cell_at D2.out rfl; have z2 : w2.cell? ⟨w.heap.size + 1 + 1, 2, none⟩ = some (.string ⟨#[]⟩) := K.cell_at D2.out rfl; have z3 : w2.cell? ⟨w.heap.size + 1 + 1, 3, none⟩ = some (.slice none 0 0) := K.cell_at D2.out rfl; have y0 : w2.frozen? ⟨w.heap.size + 1 + 1, 0, none⟩ = false := K.thaw_at D2.out; have y1 : w2.frozen? ⟨w.heap.size + 1 + 1, 1, none⟩ = false := K.thaw_at D2.out; have y2 : w2.frozen? ⟨w.heap.size + 1 + 1, 2, none⟩ = false := K.thaw_at D2.out; have y3 : w2.frozen? ⟨w.heap.size + 1 + 1, 3, none⟩ = false := K.thaw_at D2.out))
      rw [HE.out]
      refine bodyPost_ret (v := .tuple #[.agg #[.int .i64 M.1.dg, .int .i64 M.1.tn, .string M.1.nm, .slice o2 M.1.pw.length c2], .int .i64 M.2]) (by unfold results; rw [Tryz.results138]; go_simp) rfl ⟨⟨_, rfl, ?_⟩, ?_⟩
      · refine K.own.mono (lo := wr.heap.size) (hi := w2.heap.size) ?_ (by omega) (by simp)
        repeat with_reducible refine K.own.set ?_ _ (.inl (by dsimp only; omega)) _
        exact hp2
      · repeat with_reducible refine K.Ext.setCell ?_ (by dsimp only; omega) _
        exact HX2.out
end Go.Proofs.YtmgocfdhngeeiaaGreatDoor
end
