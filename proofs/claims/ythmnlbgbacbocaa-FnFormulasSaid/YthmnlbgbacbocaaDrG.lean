/-
  DRAWS: formulas, out of a code.
-/
import Derived.Test.YthmnlbgbacbocaaDrF
set_option linter.unusedVariables false
namespace Go.Proofs.Ythmnlbgbacbocaa
open Go.RowKit
set_option maxRecDepth 100000 in
set_option maxHeartbeats 12800000 in
theorem DrawExponentOf_any {hi n : Nat} {v : Value} (w : World) (hn : n ≤ 4096) (hh : hi ≤ w.heap.size) (h : K.byts w hi v n) :
    Calls Try.prog 26 #[v] w fun e w' => (∃ (F : Z.Fm) (p : Value) (c : Int), e = .returned (.tuple #[.agg #[.int .i64 F.dg, .int .i64 F.tn, .string F.nm, p], .int .u8 c]) ∧ (F.nm.size ≤ 7 ∧ F.pw.length ≤ 6) ∧ K.ints w' w.heap.size w'.heap.size p F.pw ∧ 0 ≤ c ∧ c ≤ 255) ∧ K.Ext w w' := by
  have F0 : K.Ext w w := K.Ext.refl _
  go_enter Try.func26, Try.ntmps26
  go_wp2_with fail
  refine K.call (by with_reducible rfl) (by with_reducible rfl) (l01From_at (w.heap.size + 1) _ (by simp) hn (by omega) (h.ext (by repeat' (first | with_reducible exact F0 | with_reducible refine K.Ext.setCell ?_ ?_ _ | with_reducible refine K.Ext.alloc ?_ _ | with_reducible refine K.Ext.drew ?_ | (dsimp only; omega) | omega | (simp; omega))))) ?_
  rintro e w1 ⟨⟨rfl, s1⟩, f1⟩
  have z1 := f1.size
  (try simp at z1)
  have F1 : K.Ext w w1 := K.Ext.trans (by repeat' (first | with_reducible exact F0 | with_reducible refine K.Ext.setCell ?_ ?_ _ | with_reducible refine K.Ext.alloc ?_ _ | with_reducible refine K.Ext.drew ?_ | (dsimp only; omega) | omega | (simp; omega))) f1
  have c1_0_0 : w1.cell? ⟨w.heap.size, 0, none⟩ = some (.int .i64 0) := f1.cell_of (by go_simp)
  have d1_0_0 : w1.frozen? ⟨w.heap.size, 0, none⟩ = false := f1.thaw_of (by go_simp) (by go_simp)
  have c1_0_1 : w1.cell? ⟨w.heap.size, 1, none⟩ = some (.int .i64 0) := f1.cell_of (by go_simp)
  have d1_0_1 : w1.frozen? ⟨w.heap.size, 1, none⟩ = false := f1.thaw_of (by go_simp) (by go_simp)
  have c1_0_2 : w1.cell? ⟨w.heap.size, 2, none⟩ = some (.string ⟨#[]⟩) := f1.cell_of (by go_simp)
  have d1_0_2 : w1.frozen? ⟨w.heap.size, 2, none⟩ = false := f1.thaw_of (by go_simp) (by go_simp)
  have c1_0_3 : w1.cell? ⟨w.heap.size, 3, none⟩ = some (.slice none 0 0) := f1.cell_of (by go_simp)
  have d1_0_3 : w1.frozen? ⟨w.heap.size, 3, none⟩ = false := f1.thaw_of (by go_simp) (by go_simp)
  have y1_0 : w.heap.size < w1.heap.size := World.block_lt_of_cell? w1 _ c1_0_0
  have lg := s1.lt
  go_wp2_with fail
  refine K.call (by with_reducible rfl) (by with_reducible rfl) (l18Draw_any (w.heap.size + 1) _ (show K.Src 164 _ _ from by with_reducible repeat' (first | exact s1 | refine K.Src.alloc ?_ _ | refine K.Src.drew ?_ | refine K.Src.setOther ?_ ?_ _ | (dsimp only; omega)))) ?_
  rintro e w2 ⟨⟨F, pF, rfl, hnF, hmF, hiF⟩, s2, f2⟩
  have z2 := f2.size
  (try simp at z2)
  have F2 : K.Ext w w2 := K.Far.ext (by repeat' (first | with_reducible exact F1 | with_reducible refine K.Ext.setCell ?_ ?_ _ | with_reducible refine K.Ext.alloc ?_ _ | with_reducible refine K.Ext.drew ?_ | (dsimp only; omega) | omega | (simp; omega))) f2 (by omega)
  have c2_0_0 : w2.cell? ⟨w.heap.size, 0, none⟩ = some (.int .i64 0) := f2.cell_of (by go_simp) (by (try dsimp only); omega)
  have d2_0_0 : w2.frozen? ⟨w.heap.size, 0, none⟩ = false := f2.thaw_of (by go_simp) (by go_simp) (by (try dsimp only); omega)
  have c2_0_1 : w2.cell? ⟨w.heap.size, 1, none⟩ = some (.int .i64 0) := f2.cell_of (by go_simp) (by (try dsimp only); omega)
  have d2_0_1 : w2.frozen? ⟨w.heap.size, 1, none⟩ = false := f2.thaw_of (by go_simp) (by go_simp) (by (try dsimp only); omega)
  have c2_0_2 : w2.cell? ⟨w.heap.size, 2, none⟩ = some (.string ⟨#[]⟩) := f2.cell_of (by go_simp) (by (try dsimp only); omega)
  have d2_0_2 : w2.frozen? ⟨w.heap.size, 2, none⟩ = false := f2.thaw_of (by go_simp) (by go_simp) (by (try dsimp only); omega)
  have c2_0_3 : w2.cell? ⟨w.heap.size, 3, none⟩ = some (.slice none 0 0) := f2.cell_of (by go_simp) (by (try dsimp only); omega)
  have d2_0_3 : w2.frozen? ⟨w.heap.size, 3, none⟩ = false := f2.thaw_of (by go_simp) (by go_simp) (by (try dsimp only); omega)
  have y2_0 : w.heap.size < w2.heap.size := World.block_lt_of_cell? w2 _ c2_0_0
  obtain ⟨oF, kF, rfl, _⟩ := id hiF
  have IF_2 : K.ints w2 (w1.heap.size) w2.heap.size (.slice oF F.pw.length kF) F.pw := hiF.mono (by simp) (Nat.le_refl _)
  clear hiF
  have uh_0_1 : w.heap.size < w2.heap.size + 1 := (by omega)
  go_wp2_with fail
  have ne0_1 : ¬ (w.heap.size = w2.heap.size) := (by omega)
  have nf0_1 : ¬ (w2.heap.size = w.heap.size) := (by omega)
  go_region_held3 (fun w' => w'.cell? ⟨w2.heap.size, 0, none⟩ = some (.int .i64 F.dg) ∧ w'.cell? ⟨w2.heap.size, 1, none⟩ = some (.int .i64 F.tn) ∧ w'.cell? ⟨w2.heap.size, 2, none⟩ = some (.string F.nm) ∧ w'.cell? ⟨w2.heap.size, 3, none⟩ = some (.slice oF F.pw.length kF)) ((repeat' apply And.intro) <;> go_simp) ((go_at_call 105; refine K.call (by with_reducible rfl) (by with_reducible rfl) (l18DrawName_any (w.heap.size + 1) _ (show K.Src 164 _ _ from by with_reducible repeat' (first | exact s2 | refine K.Src.alloc ?_ _ | refine K.Src.drew ?_ | refine K.Src.setOther ?_ ?_ _ | (dsimp only; omega)))) ?_; rintro e w3 ⟨⟨c, rfl, c0, c1⟩, s3, f3⟩; have z3 := f3.size; (try simp at z3); have F3 : K.Ext w w3 := K.Far.ext (by repeat' (first | with_reducible exact F2 | with_reducible refine K.Ext.setCell ?_ ?_ _ | with_reducible refine K.Ext.alloc ?_ _ | with_reducible refine K.Ext.drew ?_ | (dsimp only; omega) | omega | (simp; omega))) f3 (by omega); have u3_0_1 : w.heap.size < w2.heap.size + 1 := (by omega); have c3_0_0 : w3.cell? ⟨w.heap.size, 0, none⟩ = some (.int .i64 0) := f3.cell_of (by go_simp) (by (try dsimp only); omega); have d3_0_0 : w3.frozen? ⟨w.heap.size, 0, none⟩ = false := f3.thaw_of (by go_simp) (by go_simp) (by (try dsimp only); omega); have c3_0_1 : w3.cell? ⟨w.heap.size, 1, none⟩ = some (.int .i64 0) := f3.cell_of (by go_simp) (by (try dsimp only); omega); have d3_0_1 : w3.frozen? ⟨w.heap.size, 1, none⟩ = false := f3.thaw_of (by go_simp) (by go_simp) (by (try dsimp only); omega); have c3_0_2 : w3.cell? ⟨w.heap.size, 2, none⟩ = some (.string ⟨#[]⟩) := f3.cell_of (by go_simp) (by (try dsimp only); omega); have d3_0_2 : w3.frozen? ⟨w.heap.size, 2, none⟩ = false := f3.thaw_of (by go_simp) (by go_simp) (by (try dsimp only); omega); have c3_0_3 : w3.cell? ⟨w.heap.size, 3, none⟩ = some (.slice none 0 0) := f3.cell_of (by go_simp) (by (try dsimp only); omega); have d3_0_3 : w3.frozen? ⟨w.heap.size, 3, none⟩ = false := f3.thaw_of (by go_simp) (by go_simp) (by (try dsimp only); omega); have y3_0 : w.heap.size < w3.heap.size := World.block_lt_of_cell? w3 _ c3_0_0; have c3_1_0 : w3.cell? ⟨w2.heap.size, 0, none⟩ = some (.int .i64 F.dg) := f3.cell_of (by go_simp) (by (try dsimp only); omega); have d3_1_0 : w3.frozen? ⟨w2.heap.size, 0, none⟩ = false := f3.thaw_of (by go_simp) (by go_simp) (by (try dsimp only); omega); have c3_1_1 : w3.cell? ⟨w2.heap.size, 1, none⟩ = some (.int .i64 F.tn) := f3.cell_of (by go_simp) (by (try dsimp only); omega); have d3_1_1 : w3.frozen? ⟨w2.heap.size, 1, none⟩ = false := f3.thaw_of (by go_simp) (by go_simp) (by (try dsimp only); omega); have c3_1_2 : w3.cell? ⟨w2.heap.size, 2, none⟩ = some (.string F.nm) := f3.cell_of (by go_simp) (by (try dsimp only); omega); have d3_1_2 : w3.frozen? ⟨w2.heap.size, 2, none⟩ = false := f3.thaw_of (by go_simp) (by go_simp) (by (try dsimp only); omega); have c3_1_3 : w3.cell? ⟨w2.heap.size, 3, none⟩ = some (.slice oF F.pw.length kF) := f3.cell_of (by go_simp) (by (try dsimp only); omega); have d3_1_3 : w3.frozen? ⟨w2.heap.size, 3, none⟩ = false := f3.thaw_of (by go_simp) (by go_simp) (by (try dsimp only); omega); have y3_1 : w2.heap.size < w3.heap.size := World.block_lt_of_cell? w3 _ c3_1_0; have IF_3 := K.ints.far (show K.ints _ (w1.heap.size) w2.heap.size (.slice oF F.pw.length kF) F.pw from by with_reducible repeat' (first | exact IF_2 | refine K.ints.alloc ?_ _ | refine K.ints.drew ?_ | refine K.ints.set ?_ _ ?_ _ | (dsimp only; omega) | omega | (simp; done) | (simp; omega))) f3 (by first | exact .inl (by omega) | exact .inr (by omega))))
  go_wp2_with fail
  all_goals refine bodyPost_ret (v := .tuple #[.agg #[.int .i64 F.dg, .int .i64 F.tn, .string F.nm, .slice oF F.pw.length kF], .int .u8 c]) (by unfold results; rw [Try.results26]; go_simp) rfl ⟨⟨F, _, c, rfl, ⟨hnF, hmF⟩, K.ints.mono (show K.ints _ (w1.heap.size) w2.heap.size (.slice oF F.pw.length kF) F.pw from by with_reducible repeat' (first | exact IF_3 | refine K.ints.alloc ?_ _ | refine K.ints.drew ?_ | refine K.ints.set ?_ _ ?_ _ | (dsimp only; omega) | omega | (simp; done) | (simp; omega))) (by omega) (by first | omega | (simp; done) | (simp; omega)), c0, c1⟩, (by repeat' (first | with_reducible exact F3 | with_reducible refine K.Ext.setCell ?_ ?_ _ | with_reducible refine K.Ext.alloc ?_ _ | with_reducible refine K.Ext.drew ?_ | (dsimp only; omega) | omega | (simp; omega)))⟩
set_option maxRecDepth 100000 in
set_option maxHeartbeats 12800000 in
theorem DrawPowerFormula_any {hi n : Nat} {v : Value} (w : World) (hn : n ≤ 4096) (hh : hi ≤ w.heap.size) (h : K.byts w hi v n) :
    Calls Try.prog 29 #[v] w fun e w' => (∃ (F : Z.Fm) (p : Value) (c : Int), e = .returned (.tuple #[.agg #[.int .i64 F.dg, .int .i64 F.tn, .string F.nm, p], .int .i64 c]) ∧ (F.nm.size ≤ 7 ∧ F.pw.length ≤ 6) ∧ K.ints w' w.heap.size w'.heap.size p F.pw ∧ -4 ≤ c ∧ c ≤ 4) ∧ K.Ext w w' := by
  have F0 : K.Ext w w := K.Ext.refl _
  go_enter Try.func29, Try.ntmps29
  go_wp2_with fail
  refine K.call (by with_reducible rfl) (by with_reducible rfl) (l01From_at (w.heap.size + 1) _ (by simp) hn (by omega) (h.ext (by repeat' (first | with_reducible exact F0 | with_reducible refine K.Ext.setCell ?_ ?_ _ | with_reducible refine K.Ext.alloc ?_ _ | with_reducible refine K.Ext.drew ?_ | (dsimp only; omega) | omega | (simp; omega))))) ?_
  rintro e w1 ⟨⟨rfl, s1⟩, f1⟩
  have z1 := f1.size
  (try simp at z1)
  have F1 : K.Ext w w1 := K.Ext.trans (by repeat' (first | with_reducible exact F0 | with_reducible refine K.Ext.setCell ?_ ?_ _ | with_reducible refine K.Ext.alloc ?_ _ | with_reducible refine K.Ext.drew ?_ | (dsimp only; omega) | omega | (simp; omega))) f1
  have c1_0_0 : w1.cell? ⟨w.heap.size, 0, none⟩ = some (.int .i64 0) := f1.cell_of (by go_simp)
  have d1_0_0 : w1.frozen? ⟨w.heap.size, 0, none⟩ = false := f1.thaw_of (by go_simp) (by go_simp)
  have c1_0_1 : w1.cell? ⟨w.heap.size, 1, none⟩ = some (.int .i64 0) := f1.cell_of (by go_simp)
  have d1_0_1 : w1.frozen? ⟨w.heap.size, 1, none⟩ = false := f1.thaw_of (by go_simp) (by go_simp)
  have c1_0_2 : w1.cell? ⟨w.heap.size, 2, none⟩ = some (.string ⟨#[]⟩) := f1.cell_of (by go_simp)
  have d1_0_2 : w1.frozen? ⟨w.heap.size, 2, none⟩ = false := f1.thaw_of (by go_simp) (by go_simp)
  have c1_0_3 : w1.cell? ⟨w.heap.size, 3, none⟩ = some (.slice none 0 0) := f1.cell_of (by go_simp)
  have d1_0_3 : w1.frozen? ⟨w.heap.size, 3, none⟩ = false := f1.thaw_of (by go_simp) (by go_simp)
  have y1_0 : w.heap.size < w1.heap.size := World.block_lt_of_cell? w1 _ c1_0_0
  have lg := s1.lt
  go_wp2_with fail
  refine K.call (by with_reducible rfl) (by with_reducible rfl) (l18Draw_any (w.heap.size + 1) _ (show K.Src 164 _ _ from by with_reducible repeat' (first | exact s1 | refine K.Src.alloc ?_ _ | refine K.Src.drew ?_ | refine K.Src.setOther ?_ ?_ _ | (dsimp only; omega)))) ?_
  rintro e w2 ⟨⟨F, pF, rfl, hnF, hmF, hiF⟩, s2, f2⟩
  have z2 := f2.size
  (try simp at z2)
  have F2 : K.Ext w w2 := K.Far.ext (by repeat' (first | with_reducible exact F1 | with_reducible refine K.Ext.setCell ?_ ?_ _ | with_reducible refine K.Ext.alloc ?_ _ | with_reducible refine K.Ext.drew ?_ | (dsimp only; omega) | omega | (simp; omega))) f2 (by omega)
  have c2_0_0 : w2.cell? ⟨w.heap.size, 0, none⟩ = some (.int .i64 0) := f2.cell_of (by go_simp) (by (try dsimp only); omega)
  have d2_0_0 : w2.frozen? ⟨w.heap.size, 0, none⟩ = false := f2.thaw_of (by go_simp) (by go_simp) (by (try dsimp only); omega)
  have c2_0_1 : w2.cell? ⟨w.heap.size, 1, none⟩ = some (.int .i64 0) := f2.cell_of (by go_simp) (by (try dsimp only); omega)
  have d2_0_1 : w2.frozen? ⟨w.heap.size, 1, none⟩ = false := f2.thaw_of (by go_simp) (by go_simp) (by (try dsimp only); omega)
  have c2_0_2 : w2.cell? ⟨w.heap.size, 2, none⟩ = some (.string ⟨#[]⟩) := f2.cell_of (by go_simp) (by (try dsimp only); omega)
  have d2_0_2 : w2.frozen? ⟨w.heap.size, 2, none⟩ = false := f2.thaw_of (by go_simp) (by go_simp) (by (try dsimp only); omega)
  have c2_0_3 : w2.cell? ⟨w.heap.size, 3, none⟩ = some (.slice none 0 0) := f2.cell_of (by go_simp) (by (try dsimp only); omega)
  have d2_0_3 : w2.frozen? ⟨w.heap.size, 3, none⟩ = false := f2.thaw_of (by go_simp) (by go_simp) (by (try dsimp only); omega)
  have y2_0 : w.heap.size < w2.heap.size := World.block_lt_of_cell? w2 _ c2_0_0
  obtain ⟨oF, kF, rfl, _⟩ := id hiF
  have IF_2 : K.ints w2 (w1.heap.size) w2.heap.size (.slice oF F.pw.length kF) F.pw := hiF.mono (by simp) (Nat.le_refl _)
  clear hiF
  go_wp2_with fail
  refine K.call (by with_reducible rfl) (by with_reducible rfl) (l01Next_any (w.heap.size + 1) (10) _ (show K.Src 164 _ _ from by with_reducible repeat' (first | exact s2 | refine K.Src.alloc ?_ _ | refine K.Src.drew ?_ | refine K.Src.setOther ?_ ?_ _ | (dsimp only; omega)))) ?_
  rintro e w3 ⟨⟨m, rfl, m0, m1, m2⟩, s3, f3⟩
  have z3 := f3.size
  (try simp at z3)
  have F3 : K.Ext w w3 := K.Far.ext (by repeat' (first | with_reducible exact F2 | with_reducible refine K.Ext.setCell ?_ ?_ _ | with_reducible refine K.Ext.alloc ?_ _ | with_reducible refine K.Ext.drew ?_ | (dsimp only; omega) | omega | (simp; omega))) f3 (by omega)
  have u3_0_1 : w.heap.size < w2.heap.size + 1 := (by omega)
  have c3_0_0 : w3.cell? ⟨w.heap.size, 0, none⟩ = some (.int .i64 0) := f3.cell_of (by go_simp) (by (try dsimp only); omega)
  have d3_0_0 : w3.frozen? ⟨w.heap.size, 0, none⟩ = false := f3.thaw_of (by go_simp) (by go_simp) (by (try dsimp only); omega)
  have c3_0_1 : w3.cell? ⟨w.heap.size, 1, none⟩ = some (.int .i64 0) := f3.cell_of (by go_simp) (by (try dsimp only); omega)
  have d3_0_1 : w3.frozen? ⟨w.heap.size, 1, none⟩ = false := f3.thaw_of (by go_simp) (by go_simp) (by (try dsimp only); omega)
  have c3_0_2 : w3.cell? ⟨w.heap.size, 2, none⟩ = some (.string ⟨#[]⟩) := f3.cell_of (by go_simp) (by (try dsimp only); omega)
  have d3_0_2 : w3.frozen? ⟨w.heap.size, 2, none⟩ = false := f3.thaw_of (by go_simp) (by go_simp) (by (try dsimp only); omega)
  have c3_0_3 : w3.cell? ⟨w.heap.size, 3, none⟩ = some (.slice none 0 0) := f3.cell_of (by go_simp) (by (try dsimp only); omega)
  have d3_0_3 : w3.frozen? ⟨w.heap.size, 3, none⟩ = false := f3.thaw_of (by go_simp) (by go_simp) (by (try dsimp only); omega)
  have y3_0 : w.heap.size < w3.heap.size := World.block_lt_of_cell? w3 _ c3_0_0
  have c3_1_0 : w3.cell? ⟨w2.heap.size, 0, none⟩ = some (.int .i64 F.dg) := f3.cell_of (by go_simp) (by (try dsimp only); omega)
  have d3_1_0 : w3.frozen? ⟨w2.heap.size, 0, none⟩ = false := f3.thaw_of (by go_simp) (by go_simp) (by (try dsimp only); omega)
  have c3_1_1 : w3.cell? ⟨w2.heap.size, 1, none⟩ = some (.int .i64 F.tn) := f3.cell_of (by go_simp) (by (try dsimp only); omega)
  have d3_1_1 : w3.frozen? ⟨w2.heap.size, 1, none⟩ = false := f3.thaw_of (by go_simp) (by go_simp) (by (try dsimp only); omega)
  have c3_1_2 : w3.cell? ⟨w2.heap.size, 2, none⟩ = some (.string F.nm) := f3.cell_of (by go_simp) (by (try dsimp only); omega)
  have d3_1_2 : w3.frozen? ⟨w2.heap.size, 2, none⟩ = false := f3.thaw_of (by go_simp) (by go_simp) (by (try dsimp only); omega)
  have c3_1_3 : w3.cell? ⟨w2.heap.size, 3, none⟩ = some (.slice oF F.pw.length kF) := f3.cell_of (by go_simp) (by (try dsimp only); omega)
  have d3_1_3 : w3.frozen? ⟨w2.heap.size, 3, none⟩ = false := f3.thaw_of (by go_simp) (by go_simp) (by (try dsimp only); omega)
  have y3_1 : w2.heap.size < w3.heap.size := World.block_lt_of_cell? w3 _ c3_1_0
  have IF_3 := K.ints.far (show K.ints _ (w1.heap.size) w2.heap.size (.slice oF F.pw.length kF) F.pw from by with_reducible repeat' (first | exact IF_2 | refine K.ints.alloc ?_ _ | refine K.ints.drew ?_ | refine K.ints.set ?_ _ ?_ _ | (dsimp only; omega) | omega | (simp; done) | (simp; omega))) f3 (by first | exact .inl (by omega) | exact .inr (by omega))
  by_cases hm0 : m = 0
  · subst hm0
    go_wp2_with fail
    refine K.call (by with_reducible rfl) (by with_reducible rfl) (l01Pick_any (w.heap.size + 1) [11, -12, 29] _ (show K.Src 164 _ _ from by with_reducible repeat' (first | exact s3 | refine K.Src.alloc ?_ _ | refine K.Src.drew ?_ | refine K.Src.setOther ?_ ?_ _ | (dsimp only; omega))) (by simp) (by simp) (.inr (by omega)) (K.ints_lit (W := w3) (T := 2) (n := 3) (cs := #[.int .i64 (11), .int .i64 (-12), .int .i64 (29)]) [11, -12, 29] rfl rfl rfl)) ?_
    rintro e w4 ⟨⟨x, hx, rfl⟩, s4, f4⟩
    have z4 := f4.size
    (try simp at z4)
    have F4 : K.Ext w w4 := K.Far.ext (by repeat' (first | with_reducible exact F3 | with_reducible refine K.Ext.setCell ?_ ?_ _ | with_reducible refine K.Ext.alloc ?_ _ | with_reducible refine K.Ext.drew ?_ | (dsimp only; omega) | omega | (simp; omega))) f4 (by omega)
    have u4_0_1 : w.heap.size < w3.heap.size + 1 := (by omega)
    have u4_1_1 : w2.heap.size < w3.heap.size + 1 := (by omega)
    have c4_0_0 : w4.cell? ⟨w.heap.size, 0, none⟩ = some (.int .i64 0) := f4.cell_of (by go_simp) (by (try dsimp only); omega)
    have d4_0_0 : w4.frozen? ⟨w.heap.size, 0, none⟩ = false := f4.thaw_of (by go_simp) (by go_simp) (by (try dsimp only); omega)
    have c4_0_1 : w4.cell? ⟨w.heap.size, 1, none⟩ = some (.int .i64 0) := f4.cell_of (by go_simp) (by (try dsimp only); omega)
    have d4_0_1 : w4.frozen? ⟨w.heap.size, 1, none⟩ = false := f4.thaw_of (by go_simp) (by go_simp) (by (try dsimp only); omega)
    have c4_0_2 : w4.cell? ⟨w.heap.size, 2, none⟩ = some (.string ⟨#[]⟩) := f4.cell_of (by go_simp) (by (try dsimp only); omega)
    have d4_0_2 : w4.frozen? ⟨w.heap.size, 2, none⟩ = false := f4.thaw_of (by go_simp) (by go_simp) (by (try dsimp only); omega)
    have c4_0_3 : w4.cell? ⟨w.heap.size, 3, none⟩ = some (.slice none 0 0) := f4.cell_of (by go_simp) (by (try dsimp only); omega)
    have d4_0_3 : w4.frozen? ⟨w.heap.size, 3, none⟩ = false := f4.thaw_of (by go_simp) (by go_simp) (by (try dsimp only); omega)
    have y4_0 : w.heap.size < w4.heap.size := World.block_lt_of_cell? w4 _ c4_0_0
    have c4_1_0 : w4.cell? ⟨w2.heap.size, 0, none⟩ = some (.int .i64 F.dg) := f4.cell_of (by go_simp) (by (try dsimp only); omega)
    have d4_1_0 : w4.frozen? ⟨w2.heap.size, 0, none⟩ = false := f4.thaw_of (by go_simp) (by go_simp) (by (try dsimp only); omega)
    have c4_1_1 : w4.cell? ⟨w2.heap.size, 1, none⟩ = some (.int .i64 F.tn) := f4.cell_of (by go_simp) (by (try dsimp only); omega)
    have d4_1_1 : w4.frozen? ⟨w2.heap.size, 1, none⟩ = false := f4.thaw_of (by go_simp) (by go_simp) (by (try dsimp only); omega)
    have c4_1_2 : w4.cell? ⟨w2.heap.size, 2, none⟩ = some (.string F.nm) := f4.cell_of (by go_simp) (by (try dsimp only); omega)
    have d4_1_2 : w4.frozen? ⟨w2.heap.size, 2, none⟩ = false := f4.thaw_of (by go_simp) (by go_simp) (by (try dsimp only); omega)
    have c4_1_3 : w4.cell? ⟨w2.heap.size, 3, none⟩ = some (.slice oF F.pw.length kF) := f4.cell_of (by go_simp) (by (try dsimp only); omega)
    have d4_1_3 : w4.frozen? ⟨w2.heap.size, 3, none⟩ = false := f4.thaw_of (by go_simp) (by go_simp) (by (try dsimp only); omega)
    have y4_1 : w2.heap.size < w4.heap.size := World.block_lt_of_cell? w4 _ c4_1_0
    have IF_4 := K.ints.far (show K.ints _ (w1.heap.size) w2.heap.size (.slice oF F.pw.length kF) F.pw from by with_reducible repeat' (first | exact IF_3 | refine K.ints.alloc ?_ _ | refine K.ints.drew ?_ | refine K.ints.set ?_ _ ?_ _ | (dsimp only; omega) | omega | (simp; done) | (simp; omega))) f4 (by first | exact .inl (by omega) | exact .inr (by omega))
    simp only [List.mem_cons, List.not_mem_nil, or_false] at hx
    have ne1 : ¬ (w.heap.size = w2.heap.size) := (by omega)
    go_wp2_with fail
    have ne0_1 : ¬ (w.heap.size = w2.heap.size) := (by omega)
    have nf0_1 : ¬ (w2.heap.size = w.heap.size) := (by omega)
    go_region_held3 (fun w' => w'.cell? ⟨w2.heap.size, 0, none⟩ = some (.int .i64 F.dg) ∧ w'.cell? ⟨w2.heap.size, 1, none⟩ = some (.int .i64 x) ∧ w'.cell? ⟨w2.heap.size, 2, none⟩ = some (.string F.nm) ∧ w'.cell? ⟨w2.heap.size, 3, none⟩ = some (.slice oF F.pw.length kF)) ((repeat' apply And.intro) <;> go_simp) ((go_at_call 83; refine K.call (by with_reducible rfl) (by with_reducible rfl) (l01Next_any (w.heap.size + 1) (9) _ (show K.Src 164 _ _ from by with_reducible repeat' (first | exact s4 | refine K.Src.alloc ?_ _ | refine K.Src.drew ?_ | refine K.Src.setOther ?_ ?_ _ | (dsimp only; omega)))) ?_; rintro e w5 ⟨⟨r, rfl, r0, r1, r2⟩, s5, f5⟩; have z5 := f5.size; (try simp at z5); have F5 : K.Ext w w5 := K.Far.ext (by repeat' (first | with_reducible exact F4 | with_reducible refine K.Ext.setCell ?_ ?_ _ | with_reducible refine K.Ext.alloc ?_ _ | with_reducible refine K.Ext.drew ?_ | (dsimp only; omega) | omega | (simp; omega))) f5 (by omega); have c5_0_0 : w5.cell? ⟨w.heap.size, 0, none⟩ = some (.int .i64 0) := f5.cell_of (by go_simp) (by (try dsimp only); omega); have d5_0_0 : w5.frozen? ⟨w.heap.size, 0, none⟩ = false := f5.thaw_of (by go_simp) (by go_simp) (by (try dsimp only); omega); have c5_0_1 : w5.cell? ⟨w.heap.size, 1, none⟩ = some (.int .i64 0) := f5.cell_of (by go_simp) (by (try dsimp only); omega); have d5_0_1 : w5.frozen? ⟨w.heap.size, 1, none⟩ = false := f5.thaw_of (by go_simp) (by go_simp) (by (try dsimp only); omega); have c5_0_2 : w5.cell? ⟨w.heap.size, 2, none⟩ = some (.string ⟨#[]⟩) := f5.cell_of (by go_simp) (by (try dsimp only); omega); have d5_0_2 : w5.frozen? ⟨w.heap.size, 2, none⟩ = false := f5.thaw_of (by go_simp) (by go_simp) (by (try dsimp only); omega); have c5_0_3 : w5.cell? ⟨w.heap.size, 3, none⟩ = some (.slice none 0 0) := f5.cell_of (by go_simp) (by (try dsimp only); omega); have d5_0_3 : w5.frozen? ⟨w.heap.size, 3, none⟩ = false := f5.thaw_of (by go_simp) (by go_simp) (by (try dsimp only); omega); have y5_0 : w.heap.size < w5.heap.size := World.block_lt_of_cell? w5 _ c5_0_0; have c5_1_0 : w5.cell? ⟨w2.heap.size, 0, none⟩ = some (.int .i64 F.dg) := f5.cell_of (by go_simp) (by (try dsimp only); omega); have d5_1_0 : w5.frozen? ⟨w2.heap.size, 0, none⟩ = false := f5.thaw_of (by go_simp) (by go_simp) (by (try dsimp only); omega); have c5_1_1 : w5.cell? ⟨w2.heap.size, 1, none⟩ = some (.int .i64 x) := f5.cell_of (by go_simp) (by (try dsimp only); omega); have d5_1_1 : w5.frozen? ⟨w2.heap.size, 1, none⟩ = false := f5.thaw_of (by go_simp) (by go_simp) (by (try dsimp only); omega); have c5_1_2 : w5.cell? ⟨w2.heap.size, 2, none⟩ = some (.string F.nm) := f5.cell_of (by go_simp) (by (try dsimp only); omega); have d5_1_2 : w5.frozen? ⟨w2.heap.size, 2, none⟩ = false := f5.thaw_of (by go_simp) (by go_simp) (by (try dsimp only); omega); have c5_1_3 : w5.cell? ⟨w2.heap.size, 3, none⟩ = some (.slice oF F.pw.length kF) := f5.cell_of (by go_simp) (by (try dsimp only); omega); have d5_1_3 : w5.frozen? ⟨w2.heap.size, 3, none⟩ = false := f5.thaw_of (by go_simp) (by go_simp) (by (try dsimp only); omega); have y5_1 : w2.heap.size < w5.heap.size := World.block_lt_of_cell? w5 _ c5_1_0; have IF_5 := K.ints.far (show K.ints _ (w1.heap.size) w2.heap.size (.slice oF F.pw.length kF) F.pw from by with_reducible repeat' (first | exact IF_4 | refine K.ints.alloc ?_ _ | refine K.ints.drew ?_ | refine K.ints.set ?_ _ ?_ _ | (dsimp only; omega) | omega | (simp; done) | (simp; omega))) f5 (by first | exact .inl (by omega) | exact .inr (by omega)); have qr : IntKind.i64.wrap (r - 4) = r - 4 := IntWalk.i64_in _ (by omega)))
    go_wp2_with fail
    all_goals refine bodyPost_ret (v := .tuple #[.agg #[.int .i64 F.dg, .int .i64 x, .string F.nm, .slice oF F.pw.length kF], .int .i64 (r - 4)]) (by unfold results; rw [Try.results29]; go_simp) rfl ⟨⟨⟨F.dg, x, F.nm, F.pw⟩, _, r - 4, rfl, ⟨hnF, hmF⟩, K.ints.mono (show K.ints _ (w1.heap.size) w2.heap.size (.slice oF F.pw.length kF) F.pw from by with_reducible repeat' (first | exact IF_5 | refine K.ints.alloc ?_ _ | refine K.ints.drew ?_ | refine K.ints.set ?_ _ ?_ _ | (dsimp only; omega) | omega | (simp; done) | (simp; omega))) (by omega) (by first | omega | (simp; done) | (simp; omega)), by omega, by omega⟩, (by repeat' (first | with_reducible exact F5 | with_reducible refine K.Ext.setCell ?_ ?_ _ | with_reducible refine K.Ext.alloc ?_ _ | with_reducible refine K.Ext.drew ?_ | (dsimp only; omega) | omega | (simp; omega)))⟩
  go_wp2_with fail
  have ne0_1 : ¬ (w.heap.size = w2.heap.size) := (by omega)
  have nf0_1 : ¬ (w2.heap.size = w.heap.size) := (by omega)
  go_region_held3 (fun w' => w'.cell? ⟨w2.heap.size, 0, none⟩ = some (.int .i64 F.dg) ∧ w'.cell? ⟨w2.heap.size, 1, none⟩ = some (.int .i64 F.tn) ∧ w'.cell? ⟨w2.heap.size, 2, none⟩ = some (.string F.nm) ∧ w'.cell? ⟨w2.heap.size, 3, none⟩ = some (.slice oF F.pw.length kF)) ((repeat' apply And.intro) <;> go_simp) ((go_at_call 83; refine K.call (by with_reducible rfl) (by with_reducible rfl) (l01Next_any (w.heap.size + 1) (9) _ (show K.Src 164 _ _ from by with_reducible repeat' (first | exact s3 | refine K.Src.alloc ?_ _ | refine K.Src.drew ?_ | refine K.Src.setOther ?_ ?_ _ | (dsimp only; omega)))) ?_; rintro e w4 ⟨⟨r, rfl, r0, r1, r2⟩, s4, f4⟩; have z4 := f4.size; (try simp at z4); have F4 : K.Ext w w4 := K.Far.ext (by repeat' (first | with_reducible exact F3 | with_reducible refine K.Ext.setCell ?_ ?_ _ | with_reducible refine K.Ext.alloc ?_ _ | with_reducible refine K.Ext.drew ?_ | (dsimp only; omega) | omega | (simp; omega))) f4 (by omega); have c4_0_0 : w4.cell? ⟨w.heap.size, 0, none⟩ = some (.int .i64 0) := f4.cell_of (by go_simp) (by (try dsimp only); omega); have d4_0_0 : w4.frozen? ⟨w.heap.size, 0, none⟩ = false := f4.thaw_of (by go_simp) (by go_simp) (by (try dsimp only); omega); have c4_0_1 : w4.cell? ⟨w.heap.size, 1, none⟩ = some (.int .i64 0) := f4.cell_of (by go_simp) (by (try dsimp only); omega); have d4_0_1 : w4.frozen? ⟨w.heap.size, 1, none⟩ = false := f4.thaw_of (by go_simp) (by go_simp) (by (try dsimp only); omega); have c4_0_2 : w4.cell? ⟨w.heap.size, 2, none⟩ = some (.string ⟨#[]⟩) := f4.cell_of (by go_simp) (by (try dsimp only); omega); have d4_0_2 : w4.frozen? ⟨w.heap.size, 2, none⟩ = false := f4.thaw_of (by go_simp) (by go_simp) (by (try dsimp only); omega); have c4_0_3 : w4.cell? ⟨w.heap.size, 3, none⟩ = some (.slice none 0 0) := f4.cell_of (by go_simp) (by (try dsimp only); omega); have d4_0_3 : w4.frozen? ⟨w.heap.size, 3, none⟩ = false := f4.thaw_of (by go_simp) (by go_simp) (by (try dsimp only); omega); have y4_0 : w.heap.size < w4.heap.size := World.block_lt_of_cell? w4 _ c4_0_0; have c4_1_0 : w4.cell? ⟨w2.heap.size, 0, none⟩ = some (.int .i64 F.dg) := f4.cell_of (by go_simp) (by (try dsimp only); omega); have d4_1_0 : w4.frozen? ⟨w2.heap.size, 0, none⟩ = false := f4.thaw_of (by go_simp) (by go_simp) (by (try dsimp only); omega); have c4_1_1 : w4.cell? ⟨w2.heap.size, 1, none⟩ = some (.int .i64 F.tn) := f4.cell_of (by go_simp) (by (try dsimp only); omega); have d4_1_1 : w4.frozen? ⟨w2.heap.size, 1, none⟩ = false := f4.thaw_of (by go_simp) (by go_simp) (by (try dsimp only); omega); have c4_1_2 : w4.cell? ⟨w2.heap.size, 2, none⟩ = some (.string F.nm) := f4.cell_of (by go_simp) (by (try dsimp only); omega); have d4_1_2 : w4.frozen? ⟨w2.heap.size, 2, none⟩ = false := f4.thaw_of (by go_simp) (by go_simp) (by (try dsimp only); omega); have c4_1_3 : w4.cell? ⟨w2.heap.size, 3, none⟩ = some (.slice oF F.pw.length kF) := f4.cell_of (by go_simp) (by (try dsimp only); omega); have d4_1_3 : w4.frozen? ⟨w2.heap.size, 3, none⟩ = false := f4.thaw_of (by go_simp) (by go_simp) (by (try dsimp only); omega); have y4_1 : w2.heap.size < w4.heap.size := World.block_lt_of_cell? w4 _ c4_1_0; have IF_4 := K.ints.far (show K.ints _ (w1.heap.size) w2.heap.size (.slice oF F.pw.length kF) F.pw from by with_reducible repeat' (first | exact IF_3 | refine K.ints.alloc ?_ _ | refine K.ints.drew ?_ | refine K.ints.set ?_ _ ?_ _ | (dsimp only; omega) | omega | (simp; done) | (simp; omega))) f4 (by first | exact .inl (by omega) | exact .inr (by omega)); have qr : IntKind.i64.wrap (r - 4) = r - 4 := IntWalk.i64_in _ (by omega)))
  go_wp2_with fail
  all_goals refine bodyPost_ret (v := .tuple #[.agg #[.int .i64 F.dg, .int .i64 F.tn, .string F.nm, .slice oF F.pw.length kF], .int .i64 (r - 4)]) (by unfold results; rw [Try.results29]; go_simp) rfl ⟨⟨F, _, r - 4, rfl, ⟨hnF, hmF⟩, K.ints.mono (show K.ints _ (w1.heap.size) w2.heap.size (.slice oF F.pw.length kF) F.pw from by with_reducible repeat' (first | exact IF_4 | refine K.ints.alloc ?_ _ | refine K.ints.drew ?_ | refine K.ints.set ?_ _ ?_ _ | (dsimp only; omega) | omega | (simp; done) | (simp; omega))) (by omega) (by first | omega | (simp; done) | (simp; omega)), by omega, by omega⟩, (by repeat' (first | with_reducible exact F4 | with_reducible refine K.Ext.setCell ?_ ?_ _ | with_reducible refine K.Ext.alloc ?_ _ | with_reducible refine K.Ext.drew ?_ | (dsimp only; omega) | omega | (simp; omega)))⟩
set_option maxRecDepth 100000 in
set_option maxHeartbeats 12800000 in
theorem DrawMultiplyFormulas_any {hi n : Nat} {v : Value} (w : World) (hn : n ≤ 4096) (hh : hi ≤ w.heap.size) (h : K.byts w hi v n) :
    Calls Try.prog 23 #[v] w fun e w' => (∃ (F : Z.Fm) (p : Value) (G : Z.Fm) (q : Value), e = .returned (.tuple #[.agg #[.int .i64 F.dg, .int .i64 F.tn, .string F.nm, p], .agg #[.int .i64 G.dg, .int .i64 G.tn, .string G.nm, q]]) ∧ (F.nm.size ≤ 7 ∧ F.pw.length ≤ 6) ∧ K.ints w' w.heap.size w'.heap.size p F.pw ∧ (G.nm.size ≤ 7 ∧ G.pw.length ≤ 6) ∧ K.ints w' w.heap.size w'.heap.size q G.pw) ∧ K.Ext w w' := by
  have F0 : K.Ext w w := K.Ext.refl _
  go_enter Try.func23, Try.ntmps23
  go_wp2_with fail
  refine K.call (by with_reducible rfl) (by with_reducible rfl) (l01From_at (w.heap.size + 1 + 1) _ (by simp) hn (by omega) (h.ext (by repeat' (first | with_reducible exact F0 | with_reducible refine K.Ext.setCell ?_ ?_ _ | with_reducible refine K.Ext.alloc ?_ _ | with_reducible refine K.Ext.drew ?_ | (dsimp only; omega) | omega | (simp; omega))))) ?_
  rintro e w1 ⟨⟨rfl, s1⟩, f1⟩
  have z1 := f1.size
  (try simp at z1)
  have F1 : K.Ext w w1 := K.Ext.trans (by repeat' (first | with_reducible exact F0 | with_reducible refine K.Ext.setCell ?_ ?_ _ | with_reducible refine K.Ext.alloc ?_ _ | with_reducible refine K.Ext.drew ?_ | (dsimp only; omega) | omega | (simp; omega))) f1
  have c1_0_0 : w1.cell? ⟨w.heap.size, 0, none⟩ = some (.int .i64 0) := f1.cell_of (by go_simp)
  have d1_0_0 : w1.frozen? ⟨w.heap.size, 0, none⟩ = false := f1.thaw_of (by go_simp) (by go_simp)
  have c1_0_1 : w1.cell? ⟨w.heap.size, 1, none⟩ = some (.int .i64 0) := f1.cell_of (by go_simp)
  have d1_0_1 : w1.frozen? ⟨w.heap.size, 1, none⟩ = false := f1.thaw_of (by go_simp) (by go_simp)
  have c1_0_2 : w1.cell? ⟨w.heap.size, 2, none⟩ = some (.string ⟨#[]⟩) := f1.cell_of (by go_simp)
  have d1_0_2 : w1.frozen? ⟨w.heap.size, 2, none⟩ = false := f1.thaw_of (by go_simp) (by go_simp)
  have c1_0_3 : w1.cell? ⟨w.heap.size, 3, none⟩ = some (.slice none 0 0) := f1.cell_of (by go_simp)
  have d1_0_3 : w1.frozen? ⟨w.heap.size, 3, none⟩ = false := f1.thaw_of (by go_simp) (by go_simp)
  have y1_0 : w.heap.size < w1.heap.size := World.block_lt_of_cell? w1 _ c1_0_0
  have c1_1_0 : w1.cell? ⟨w.heap.size + 1, 0, none⟩ = some (.int .i64 0) := f1.cell_of (by go_simp)
  have d1_1_0 : w1.frozen? ⟨w.heap.size + 1, 0, none⟩ = false := f1.thaw_of (by go_simp) (by go_simp)
  have c1_1_1 : w1.cell? ⟨w.heap.size + 1, 1, none⟩ = some (.int .i64 0) := f1.cell_of (by go_simp)
  have d1_1_1 : w1.frozen? ⟨w.heap.size + 1, 1, none⟩ = false := f1.thaw_of (by go_simp) (by go_simp)
  have c1_1_2 : w1.cell? ⟨w.heap.size + 1, 2, none⟩ = some (.string ⟨#[]⟩) := f1.cell_of (by go_simp)
  have d1_1_2 : w1.frozen? ⟨w.heap.size + 1, 2, none⟩ = false := f1.thaw_of (by go_simp) (by go_simp)
  have c1_1_3 : w1.cell? ⟨w.heap.size + 1, 3, none⟩ = some (.slice none 0 0) := f1.cell_of (by go_simp)
  have d1_1_3 : w1.frozen? ⟨w.heap.size + 1, 3, none⟩ = false := f1.thaw_of (by go_simp) (by go_simp)
  have y1_1 : w.heap.size + 1 < w1.heap.size := World.block_lt_of_cell? w1 _ c1_1_0
  have lg := s1.lt
  go_wp2_with fail
  refine K.call (by with_reducible rfl) (by with_reducible rfl) (l18Draw_any (w.heap.size + 1 + 1) _ (show K.Src 164 _ _ from by with_reducible repeat' (first | exact s1 | refine K.Src.alloc ?_ _ | refine K.Src.drew ?_ | refine K.Src.setOther ?_ ?_ _ | (dsimp only; omega)))) ?_
  rintro e w2 ⟨⟨F, pF, rfl, hnF, hmF, hiF⟩, s2, f2⟩
  have z2 := f2.size
  (try simp at z2)
  have F2 : K.Ext w w2 := K.Far.ext (by repeat' (first | with_reducible exact F1 | with_reducible refine K.Ext.setCell ?_ ?_ _ | with_reducible refine K.Ext.alloc ?_ _ | with_reducible refine K.Ext.drew ?_ | (dsimp only; omega) | omega | (simp; omega))) f2 (by omega)
  have c2_0_0 : w2.cell? ⟨w.heap.size, 0, none⟩ = some (.int .i64 0) := f2.cell_of (by go_simp) (by (try dsimp only); omega)
  have d2_0_0 : w2.frozen? ⟨w.heap.size, 0, none⟩ = false := f2.thaw_of (by go_simp) (by go_simp) (by (try dsimp only); omega)
  have c2_0_1 : w2.cell? ⟨w.heap.size, 1, none⟩ = some (.int .i64 0) := f2.cell_of (by go_simp) (by (try dsimp only); omega)
  have d2_0_1 : w2.frozen? ⟨w.heap.size, 1, none⟩ = false := f2.thaw_of (by go_simp) (by go_simp) (by (try dsimp only); omega)
  have c2_0_2 : w2.cell? ⟨w.heap.size, 2, none⟩ = some (.string ⟨#[]⟩) := f2.cell_of (by go_simp) (by (try dsimp only); omega)
  have d2_0_2 : w2.frozen? ⟨w.heap.size, 2, none⟩ = false := f2.thaw_of (by go_simp) (by go_simp) (by (try dsimp only); omega)
  have c2_0_3 : w2.cell? ⟨w.heap.size, 3, none⟩ = some (.slice none 0 0) := f2.cell_of (by go_simp) (by (try dsimp only); omega)
  have d2_0_3 : w2.frozen? ⟨w.heap.size, 3, none⟩ = false := f2.thaw_of (by go_simp) (by go_simp) (by (try dsimp only); omega)
  have y2_0 : w.heap.size < w2.heap.size := World.block_lt_of_cell? w2 _ c2_0_0
  have c2_1_0 : w2.cell? ⟨w.heap.size + 1, 0, none⟩ = some (.int .i64 0) := f2.cell_of (by go_simp) (by (try dsimp only); omega)
  have d2_1_0 : w2.frozen? ⟨w.heap.size + 1, 0, none⟩ = false := f2.thaw_of (by go_simp) (by go_simp) (by (try dsimp only); omega)
  have c2_1_1 : w2.cell? ⟨w.heap.size + 1, 1, none⟩ = some (.int .i64 0) := f2.cell_of (by go_simp) (by (try dsimp only); omega)
  have d2_1_1 : w2.frozen? ⟨w.heap.size + 1, 1, none⟩ = false := f2.thaw_of (by go_simp) (by go_simp) (by (try dsimp only); omega)
  have c2_1_2 : w2.cell? ⟨w.heap.size + 1, 2, none⟩ = some (.string ⟨#[]⟩) := f2.cell_of (by go_simp) (by (try dsimp only); omega)
  have d2_1_2 : w2.frozen? ⟨w.heap.size + 1, 2, none⟩ = false := f2.thaw_of (by go_simp) (by go_simp) (by (try dsimp only); omega)
  have c2_1_3 : w2.cell? ⟨w.heap.size + 1, 3, none⟩ = some (.slice none 0 0) := f2.cell_of (by go_simp) (by (try dsimp only); omega)
  have d2_1_3 : w2.frozen? ⟨w.heap.size + 1, 3, none⟩ = false := f2.thaw_of (by go_simp) (by go_simp) (by (try dsimp only); omega)
  have y2_1 : w.heap.size + 1 < w2.heap.size := World.block_lt_of_cell? w2 _ c2_1_0
  obtain ⟨oF, kF, rfl, _⟩ := id hiF
  have IF_2 : K.ints w2 (w1.heap.size) w2.heap.size (.slice oF F.pw.length kF) F.pw := hiF.mono (by simp) (Nat.le_refl _)
  clear hiF
  go_wp2_with fail
  refine K.call (by with_reducible rfl) (by with_reducible rfl) (l18Draw_any (w.heap.size + 1 + 1) _ (show K.Src 164 _ _ from by with_reducible repeat' (first | exact s2 | refine K.Src.alloc ?_ _ | refine K.Src.drew ?_ | refine K.Src.setOther ?_ ?_ _ | (dsimp only; omega)))) ?_
  rintro e w3 ⟨⟨G, pG, rfl, hnG, hmG, hiG⟩, s3, f3⟩
  have z3 := f3.size
  (try simp at z3)
  have F3 : K.Ext w w3 := K.Far.ext (by repeat' (first | with_reducible exact F2 | with_reducible refine K.Ext.setCell ?_ ?_ _ | with_reducible refine K.Ext.alloc ?_ _ | with_reducible refine K.Ext.drew ?_ | (dsimp only; omega) | omega | (simp; omega))) f3 (by omega)
  have u3_0_1 : w.heap.size < w2.heap.size + 1 := (by omega)
  have u3_1_1 : w.heap.size + 1 < w2.heap.size + 1 := (by omega)
  have c3_0_0 : w3.cell? ⟨w.heap.size, 0, none⟩ = some (.int .i64 0) := f3.cell_of (by go_simp) (by (try dsimp only); omega)
  have d3_0_0 : w3.frozen? ⟨w.heap.size, 0, none⟩ = false := f3.thaw_of (by go_simp) (by go_simp) (by (try dsimp only); omega)
  have c3_0_1 : w3.cell? ⟨w.heap.size, 1, none⟩ = some (.int .i64 0) := f3.cell_of (by go_simp) (by (try dsimp only); omega)
  have d3_0_1 : w3.frozen? ⟨w.heap.size, 1, none⟩ = false := f3.thaw_of (by go_simp) (by go_simp) (by (try dsimp only); omega)
  have c3_0_2 : w3.cell? ⟨w.heap.size, 2, none⟩ = some (.string ⟨#[]⟩) := f3.cell_of (by go_simp) (by (try dsimp only); omega)
  have d3_0_2 : w3.frozen? ⟨w.heap.size, 2, none⟩ = false := f3.thaw_of (by go_simp) (by go_simp) (by (try dsimp only); omega)
  have c3_0_3 : w3.cell? ⟨w.heap.size, 3, none⟩ = some (.slice none 0 0) := f3.cell_of (by go_simp) (by (try dsimp only); omega)
  have d3_0_3 : w3.frozen? ⟨w.heap.size, 3, none⟩ = false := f3.thaw_of (by go_simp) (by go_simp) (by (try dsimp only); omega)
  have y3_0 : w.heap.size < w3.heap.size := World.block_lt_of_cell? w3 _ c3_0_0
  have c3_1_0 : w3.cell? ⟨w.heap.size + 1, 0, none⟩ = some (.int .i64 0) := f3.cell_of (by go_simp) (by (try dsimp only); omega)
  have d3_1_0 : w3.frozen? ⟨w.heap.size + 1, 0, none⟩ = false := f3.thaw_of (by go_simp) (by go_simp) (by (try dsimp only); omega)
  have c3_1_1 : w3.cell? ⟨w.heap.size + 1, 1, none⟩ = some (.int .i64 0) := f3.cell_of (by go_simp) (by (try dsimp only); omega)
  have d3_1_1 : w3.frozen? ⟨w.heap.size + 1, 1, none⟩ = false := f3.thaw_of (by go_simp) (by go_simp) (by (try dsimp only); omega)
  have c3_1_2 : w3.cell? ⟨w.heap.size + 1, 2, none⟩ = some (.string ⟨#[]⟩) := f3.cell_of (by go_simp) (by (try dsimp only); omega)
  have d3_1_2 : w3.frozen? ⟨w.heap.size + 1, 2, none⟩ = false := f3.thaw_of (by go_simp) (by go_simp) (by (try dsimp only); omega)
  have c3_1_3 : w3.cell? ⟨w.heap.size + 1, 3, none⟩ = some (.slice none 0 0) := f3.cell_of (by go_simp) (by (try dsimp only); omega)
  have d3_1_3 : w3.frozen? ⟨w.heap.size + 1, 3, none⟩ = false := f3.thaw_of (by go_simp) (by go_simp) (by (try dsimp only); omega)
  have y3_1 : w.heap.size + 1 < w3.heap.size := World.block_lt_of_cell? w3 _ c3_1_0
  have c3_2_0 : w3.cell? ⟨w2.heap.size, 0, none⟩ = some (.int .i64 F.dg) := f3.cell_of (by go_simp) (by (try dsimp only); omega)
  have d3_2_0 : w3.frozen? ⟨w2.heap.size, 0, none⟩ = false := f3.thaw_of (by go_simp) (by go_simp) (by (try dsimp only); omega)
  have c3_2_1 : w3.cell? ⟨w2.heap.size, 1, none⟩ = some (.int .i64 F.tn) := f3.cell_of (by go_simp) (by (try dsimp only); omega)
  have d3_2_1 : w3.frozen? ⟨w2.heap.size, 1, none⟩ = false := f3.thaw_of (by go_simp) (by go_simp) (by (try dsimp only); omega)
  have c3_2_2 : w3.cell? ⟨w2.heap.size, 2, none⟩ = some (.string F.nm) := f3.cell_of (by go_simp) (by (try dsimp only); omega)
  have d3_2_2 : w3.frozen? ⟨w2.heap.size, 2, none⟩ = false := f3.thaw_of (by go_simp) (by go_simp) (by (try dsimp only); omega)
  have c3_2_3 : w3.cell? ⟨w2.heap.size, 3, none⟩ = some (.slice oF F.pw.length kF) := f3.cell_of (by go_simp) (by (try dsimp only); omega)
  have d3_2_3 : w3.frozen? ⟨w2.heap.size, 3, none⟩ = false := f3.thaw_of (by go_simp) (by go_simp) (by (try dsimp only); omega)
  have y3_2 : w2.heap.size < w3.heap.size := World.block_lt_of_cell? w3 _ c3_2_0
  have IF_3 := K.ints.far (show K.ints _ (w1.heap.size) w2.heap.size (.slice oF F.pw.length kF) F.pw from by with_reducible repeat' (first | exact IF_2 | refine K.ints.alloc ?_ _ | refine K.ints.drew ?_ | refine K.ints.set ?_ _ ?_ _ | (dsimp only; omega) | omega | (simp; done) | (simp; omega))) f3 (by first | exact .inl (by omega) | exact .inr (by omega))
  obtain ⟨oG, kG, rfl, _⟩ := id hiG
  have IG_3 : K.ints w3 (w2.heap.size + 1) w3.heap.size (.slice oG G.pw.length kG) G.pw := hiG.mono (by simp) (Nat.le_refl _)
  clear hiG
  go_wp2_with fail
  refine K.call (by with_reducible rfl) (by with_reducible rfl) (l01Next_any (w.heap.size + 1 + 1) (10) _ (show K.Src 164 _ _ from by with_reducible repeat' (first | exact s3 | refine K.Src.alloc ?_ _ | refine K.Src.drew ?_ | refine K.Src.setOther ?_ ?_ _ | (dsimp only; omega)))) ?_
  rintro e w4 ⟨⟨m, rfl, m0, m1, m2⟩, s4, f4⟩
  have z4 := f4.size
  (try simp at z4)
  have F4 : K.Ext w w4 := K.Far.ext (by repeat' (first | with_reducible exact F3 | with_reducible refine K.Ext.setCell ?_ ?_ _ | with_reducible refine K.Ext.alloc ?_ _ | with_reducible refine K.Ext.drew ?_ | (dsimp only; omega) | omega | (simp; omega))) f4 (by omega)
  have u4_0_1 : w.heap.size < w3.heap.size + 1 := (by omega)
  have u4_1_1 : w.heap.size + 1 < w3.heap.size + 1 := (by omega)
  have u4_2_1 : w2.heap.size < w3.heap.size + 1 := (by omega)
  have c4_0_0 : w4.cell? ⟨w.heap.size, 0, none⟩ = some (.int .i64 0) := f4.cell_of (by go_simp) (by (try dsimp only); omega)
  have d4_0_0 : w4.frozen? ⟨w.heap.size, 0, none⟩ = false := f4.thaw_of (by go_simp) (by go_simp) (by (try dsimp only); omega)
  have c4_0_1 : w4.cell? ⟨w.heap.size, 1, none⟩ = some (.int .i64 0) := f4.cell_of (by go_simp) (by (try dsimp only); omega)
  have d4_0_1 : w4.frozen? ⟨w.heap.size, 1, none⟩ = false := f4.thaw_of (by go_simp) (by go_simp) (by (try dsimp only); omega)
  have c4_0_2 : w4.cell? ⟨w.heap.size, 2, none⟩ = some (.string ⟨#[]⟩) := f4.cell_of (by go_simp) (by (try dsimp only); omega)
  have d4_0_2 : w4.frozen? ⟨w.heap.size, 2, none⟩ = false := f4.thaw_of (by go_simp) (by go_simp) (by (try dsimp only); omega)
  have c4_0_3 : w4.cell? ⟨w.heap.size, 3, none⟩ = some (.slice none 0 0) := f4.cell_of (by go_simp) (by (try dsimp only); omega)
  have d4_0_3 : w4.frozen? ⟨w.heap.size, 3, none⟩ = false := f4.thaw_of (by go_simp) (by go_simp) (by (try dsimp only); omega)
  have y4_0 : w.heap.size < w4.heap.size := World.block_lt_of_cell? w4 _ c4_0_0
  have c4_1_0 : w4.cell? ⟨w.heap.size + 1, 0, none⟩ = some (.int .i64 0) := f4.cell_of (by go_simp) (by (try dsimp only); omega)
  have d4_1_0 : w4.frozen? ⟨w.heap.size + 1, 0, none⟩ = false := f4.thaw_of (by go_simp) (by go_simp) (by (try dsimp only); omega)
  have c4_1_1 : w4.cell? ⟨w.heap.size + 1, 1, none⟩ = some (.int .i64 0) := f4.cell_of (by go_simp) (by (try dsimp only); omega)
  have d4_1_1 : w4.frozen? ⟨w.heap.size + 1, 1, none⟩ = false := f4.thaw_of (by go_simp) (by go_simp) (by (try dsimp only); omega)
  have c4_1_2 : w4.cell? ⟨w.heap.size + 1, 2, none⟩ = some (.string ⟨#[]⟩) := f4.cell_of (by go_simp) (by (try dsimp only); omega)
  have d4_1_2 : w4.frozen? ⟨w.heap.size + 1, 2, none⟩ = false := f4.thaw_of (by go_simp) (by go_simp) (by (try dsimp only); omega)
  have c4_1_3 : w4.cell? ⟨w.heap.size + 1, 3, none⟩ = some (.slice none 0 0) := f4.cell_of (by go_simp) (by (try dsimp only); omega)
  have d4_1_3 : w4.frozen? ⟨w.heap.size + 1, 3, none⟩ = false := f4.thaw_of (by go_simp) (by go_simp) (by (try dsimp only); omega)
  have y4_1 : w.heap.size + 1 < w4.heap.size := World.block_lt_of_cell? w4 _ c4_1_0
  have c4_2_0 : w4.cell? ⟨w2.heap.size, 0, none⟩ = some (.int .i64 F.dg) := f4.cell_of (by go_simp) (by (try dsimp only); omega)
  have d4_2_0 : w4.frozen? ⟨w2.heap.size, 0, none⟩ = false := f4.thaw_of (by go_simp) (by go_simp) (by (try dsimp only); omega)
  have c4_2_1 : w4.cell? ⟨w2.heap.size, 1, none⟩ = some (.int .i64 F.tn) := f4.cell_of (by go_simp) (by (try dsimp only); omega)
  have d4_2_1 : w4.frozen? ⟨w2.heap.size, 1, none⟩ = false := f4.thaw_of (by go_simp) (by go_simp) (by (try dsimp only); omega)
  have c4_2_2 : w4.cell? ⟨w2.heap.size, 2, none⟩ = some (.string F.nm) := f4.cell_of (by go_simp) (by (try dsimp only); omega)
  have d4_2_2 : w4.frozen? ⟨w2.heap.size, 2, none⟩ = false := f4.thaw_of (by go_simp) (by go_simp) (by (try dsimp only); omega)
  have c4_2_3 : w4.cell? ⟨w2.heap.size, 3, none⟩ = some (.slice oF F.pw.length kF) := f4.cell_of (by go_simp) (by (try dsimp only); omega)
  have d4_2_3 : w4.frozen? ⟨w2.heap.size, 3, none⟩ = false := f4.thaw_of (by go_simp) (by go_simp) (by (try dsimp only); omega)
  have y4_2 : w2.heap.size < w4.heap.size := World.block_lt_of_cell? w4 _ c4_2_0
  have c4_3_0 : w4.cell? ⟨w3.heap.size, 0, none⟩ = some (.int .i64 G.dg) := f4.cell_of (by go_simp) (by (try dsimp only); omega)
  have d4_3_0 : w4.frozen? ⟨w3.heap.size, 0, none⟩ = false := f4.thaw_of (by go_simp) (by go_simp) (by (try dsimp only); omega)
  have c4_3_1 : w4.cell? ⟨w3.heap.size, 1, none⟩ = some (.int .i64 G.tn) := f4.cell_of (by go_simp) (by (try dsimp only); omega)
  have d4_3_1 : w4.frozen? ⟨w3.heap.size, 1, none⟩ = false := f4.thaw_of (by go_simp) (by go_simp) (by (try dsimp only); omega)
  have c4_3_2 : w4.cell? ⟨w3.heap.size, 2, none⟩ = some (.string G.nm) := f4.cell_of (by go_simp) (by (try dsimp only); omega)
  have d4_3_2 : w4.frozen? ⟨w3.heap.size, 2, none⟩ = false := f4.thaw_of (by go_simp) (by go_simp) (by (try dsimp only); omega)
  have c4_3_3 : w4.cell? ⟨w3.heap.size, 3, none⟩ = some (.slice oG G.pw.length kG) := f4.cell_of (by go_simp) (by (try dsimp only); omega)
  have d4_3_3 : w4.frozen? ⟨w3.heap.size, 3, none⟩ = false := f4.thaw_of (by go_simp) (by go_simp) (by (try dsimp only); omega)
  have y4_3 : w3.heap.size < w4.heap.size := World.block_lt_of_cell? w4 _ c4_3_0
  have IF_4 := K.ints.far (show K.ints _ (w1.heap.size) w2.heap.size (.slice oF F.pw.length kF) F.pw from by with_reducible repeat' (first | exact IF_3 | refine K.ints.alloc ?_ _ | refine K.ints.drew ?_ | refine K.ints.set ?_ _ ?_ _ | (dsimp only; omega) | omega | (simp; done) | (simp; omega))) f4 (by first | exact .inl (by omega) | exact .inr (by omega))
  have IG_4 := K.ints.far (show K.ints _ (w2.heap.size + 1) w3.heap.size (.slice oG G.pw.length kG) G.pw from by with_reducible repeat' (first | exact IG_3 | refine K.ints.alloc ?_ _ | refine K.ints.drew ?_ | refine K.ints.set ?_ _ ?_ _ | (dsimp only; omega) | omega | (simp; done) | (simp; omega))) f4 (by first | exact .inl (by omega) | exact .inr (by omega))
  by_cases hm0 : m = 0
  · subst hm0
    have ne1 : ¬ (w3.heap.size = w4.heap.size) := (by omega)
    have ue_0_1 : w.heap.size < w4.heap.size + 1 := (by omega)
    have ue_1_1 : w.heap.size + 1 < w4.heap.size + 1 := (by omega)
    have ue_2_1 : w2.heap.size < w4.heap.size + 1 := (by omega)
    have ue_3_1 : w3.heap.size < w4.heap.size + 1 := (by omega)
    have ne0_2 : ¬ (w.heap.size = w2.heap.size) := (by omega)
    have nf0_2 : ¬ (w2.heap.size = w.heap.size) := (by omega)
    have ne0_3 : ¬ (w.heap.size = w3.heap.size) := (by omega)
    have nf0_3 : ¬ (w3.heap.size = w.heap.size) := (by omega)
    have ne1_2 : ¬ (w.heap.size + 1 = w2.heap.size) := (by omega)
    have nf1_2 : ¬ (w2.heap.size = w.heap.size + 1) := (by omega)
    have ne1_3 : ¬ (w.heap.size + 1 = w3.heap.size) := (by omega)
    have nf1_3 : ¬ (w3.heap.size = w.heap.size + 1) := (by omega)
    go_wp2_with fail
    go_region
    all_goals go_wp2_with fail
    all_goals refine bodyPost_ret (v := .tuple #[.agg #[.int .i64 F.dg, .int .i64 F.tn, .string F.nm, .slice oF F.pw.length kF], .agg #[.int .i64 G.dg, .int .i64 G.tn, .string ⟨#[103, 104]⟩, .slice (some ⟨w4.heap.size, 0, none⟩) 2 2]]) (by unfold results; rw [Try.results23]; go_simp) rfl ⟨⟨F, _, ⟨G.dg, G.tn, ⟨#[103, 104]⟩, [1, 2]⟩, _, rfl, ⟨hnF, hmF⟩, K.ints.mono (show K.ints _ (w1.heap.size) w2.heap.size (.slice oF F.pw.length kF) F.pw from by with_reducible repeat' (first | exact IF_4 | refine K.ints.alloc ?_ _ | refine K.ints.drew ?_ | refine K.ints.set ?_ _ ?_ _ | (dsimp only; omega) | omega | (simp; done) | (simp; omega))) (by omega) (by first | omega | (simp; done) | (simp; omega)), ⟨by show (⟨#[103, 104]⟩ : ByteArray).size ≤ 7; decide, by show ([1, 2] : List Int).length ≤ 6; decide⟩, K.ints.mono (show K.ints _ w4.heap.size (w4.heap.size + 1) (.slice (some ⟨w4.heap.size, 0, none⟩) 2 2) [1, 2] from by with_reducible repeat' (first | exact K.ints_fresh (T := 2) (cs := #[.int .i64 1, .int .i64 2]) [1, 2] (by simp) rfl rfl | refine K.ints.alloc ?_ _ | refine K.ints.drew ?_ | refine K.ints.set ?_ _ ?_ _ | (dsimp only; omega) | omega | (simp; done) | (simp; omega))) (by omega) (by first | omega | (simp; done) | (simp; omega))⟩, (by repeat' (first | with_reducible exact F4 | with_reducible refine K.Ext.setCell ?_ ?_ _ | with_reducible refine K.Ext.alloc ?_ _ | with_reducible refine K.Ext.drew ?_ | (dsimp only; omega) | omega | (simp; omega)))⟩
  have ne0_2 : ¬ (w.heap.size = w2.heap.size) := (by omega)
  have nf0_2 : ¬ (w2.heap.size = w.heap.size) := (by omega)
  have ne0_3 : ¬ (w.heap.size = w3.heap.size) := (by omega)
  have nf0_3 : ¬ (w3.heap.size = w.heap.size) := (by omega)
  have ne1_2 : ¬ (w.heap.size + 1 = w2.heap.size) := (by omega)
  have nf1_2 : ¬ (w2.heap.size = w.heap.size + 1) := (by omega)
  have ne1_3 : ¬ (w.heap.size + 1 = w3.heap.size) := (by omega)
  have nf1_3 : ¬ (w3.heap.size = w.heap.size + 1) := (by omega)
  go_wp2_with fail
  go_region
  all_goals go_wp2_with fail
  all_goals refine bodyPost_ret (v := .tuple #[.agg #[.int .i64 F.dg, .int .i64 F.tn, .string F.nm, .slice oF F.pw.length kF], .agg #[.int .i64 G.dg, .int .i64 G.tn, .string G.nm, .slice oG G.pw.length kG]]) (by unfold results; rw [Try.results23]; go_simp) rfl ⟨⟨F, _, G, _, rfl, ⟨hnF, hmF⟩, K.ints.mono (show K.ints _ (w1.heap.size) w2.heap.size (.slice oF F.pw.length kF) F.pw from by with_reducible repeat' (first | exact IF_4 | refine K.ints.alloc ?_ _ | refine K.ints.drew ?_ | refine K.ints.set ?_ _ ?_ _ | (dsimp only; omega) | omega | (simp; done) | (simp; omega))) (by omega) (by first | omega | (simp; done) | (simp; omega)), ⟨hnG, hmG⟩, K.ints.mono (show K.ints _ (w2.heap.size + 1) w3.heap.size (.slice oG G.pw.length kG) G.pw from by with_reducible repeat' (first | exact IG_4 | refine K.ints.alloc ?_ _ | refine K.ints.drew ?_ | refine K.ints.set ?_ _ ?_ _ | (dsimp only; omega) | omega | (simp; done) | (simp; omega))) (by omega) (by first | omega | (simp; done) | (simp; omega))⟩, (by repeat' (first | with_reducible exact F4 | with_reducible refine K.Ext.setCell ?_ ?_ _ | with_reducible refine K.Ext.alloc ?_ _ | with_reducible refine K.Ext.drew ?_ | (dsimp only; omega) | omega | (simp; omega)))⟩
end Go.Proofs.Ythmnlbgbacbocaa
