/-
  For every input the law FnUnits returns true, and its arguments read as before. No condition.
-/
import Derived.Test.YthmnlbgbacbocaaPU2
import Derived.Test.YthmnlbgbacbocaaRows
set_option linter.unusedVariables false
section
namespace Go.Z
theorem UnitOf_four {F : Fm} {uss : List (List Int)} (h : (UnitOf F uss).2 = 0) : 3 ≤ (UnitOf F uss).1.length ∧ (UnitOf F uss).1.length ≤ 4 := by
  unfold UnitOf at h ⊢
  by_cases h1 : (isFormula F && okUnits F uss) = true
  · rw [if_pos h1] at h ⊢
    unfold unitOr at h ⊢
    by_cases h2 : isUnit (unitK F.pw uss uss.length) = true
    · rw [if_pos h2]; dsimp only; rw [isUnit_len h2]; omega
    · rw [if_neg h2] at h; simp at h
  · rw [if_neg h1] at h; simp at h
end Go.Z
namespace Go.Proofs.Ythmnlbgbacbocaa
open Go.RowKit
set_option maxRecDepth 100000 in
set_option maxHeartbeats 12800000 in
theorem DrawUnitOf_any {hi n : Nat} {v : Value} (w : World) (hn : n ≤ 4096) (hh : hi ≤ w.heap.size) (h : K.byts w hi v n) :
    Calls Try.prog 13 #[v] w fun e w' => (∃ (F : Z.Fm) (p u : Value) (xss : List (List Int)), e = .returned (.tuple #[.agg #[.int .i64 F.dg, .int .i64 F.tn, .string F.nm, p], u]) ∧ (F.nm.size ≤ 7 ∧ F.pw.length ≤ 6) ∧ K.ints w' w.heap.size w'.heap.size p F.pw ∧ (xss.length ≤ 8 ∧ ∀ xs ∈ xss, (xs : List Int).length ≤ 4) ∧ K.rows w' w.heap.size w'.heap.size u xss ∧ K.capOk u xss.length) ∧ K.Ext w w' := by
  have F0 : K.Ext w w := K.Ext.refl _
  go_enter Try.func13, Try.ntmps13
  go_wp2_with fail
  refine K.call (by with_reducible rfl) (by with_reducible rfl) (l01From_at (w.heap.size + 1) _ (by simp) hn (by omega) (h.ext (K.bex F0))) ?_
  rintro e w1 ⟨⟨rfl, s1⟩, f1⟩
  have z1 := f1.size
  (try simp at z1)
  have F1 : K.Ext w w1 := K.Ext.trans (K.bex F0) f1
  have c1_0_0 : w1.cell? ⟨w.heap.size, 0, none⟩ = some (.int .i64 0) := f1.cell_of (by go_simp)
  have d1_0_0 : w1.frozen? ⟨w.heap.size, 0, none⟩ = false := f1.thaw_of (by go_simp) (by go_simp)
  have c1_0_1 : w1.cell? ⟨w.heap.size, 1, none⟩ = some (.int .i64 0) := f1.cell_of (by go_simp)
  have d1_0_1 : w1.frozen? ⟨w.heap.size, 1, none⟩ = false := f1.thaw_of (by go_simp) (by go_simp)
  have c1_0_2 : w1.cell? ⟨w.heap.size, 2, none⟩ = some (.string ⟨#[]⟩) := f1.cell_of (by go_simp)
  have d1_0_2 : w1.frozen? ⟨w.heap.size, 2, none⟩ = false := f1.thaw_of (by go_simp) (by go_simp)
  have c1_0_3 : w1.cell? ⟨w.heap.size, 3, none⟩ = some (.slice none 0 0) := f1.cell_of (by go_simp)
  have d1_0_3 : w1.frozen? ⟨w.heap.size, 3, none⟩ = false := f1.thaw_of (by go_simp) (by go_simp)
  have y1_0 : w.heap.size < w1.heap.size := World.block_lt_of_cell? w1 _ c1_0_0
  have lg := s1.lt
  go_wp2_with fail
  refine K.call (by with_reducible rfl) (by with_reducible rfl) (l18Draw_any (w.heap.size + 1) _ (K.bsr s1)) ?_
  rintro e w2 ⟨⟨F, pF, rfl, hnF, hmF, hiF⟩, s2, f2⟩
  have z2 := f2.size
  (try simp at z2)
  have F2 : K.Ext w w2 := K.Far.ext (K.bex F1) f2 (by omega)
  obtain ⟨c2_0_0, c2_0_1, c2_0_2, c2_0_3, d2_0_0, d2_0_1, d2_0_2, d2_0_3, y2_0⟩ := f2.p4 c1_0_0 c1_0_1 c1_0_2 c1_0_3 d1_0_0 d1_0_1 d1_0_2 d1_0_3
  obtain ⟨oF, kF, rfl, _⟩ := id hiF
  have IF_2 : K.ints w2 (w1.heap.size) w2.heap.size (.slice oF F.pw.length kF) F.pw := hiF.mono (by simp) (Nat.le_refl _)
  clear hiF
  have uh_0_1 : w.heap.size < w2.heap.size + 1 := (by omega)
  go_wp2_with fail
  have ne0_1 : ¬ (w.heap.size = w2.heap.size) := (by omega)
  have nf0_1 : ¬ (w2.heap.size = w.heap.size) := (by omega)
  go_region_held3 (fun w' => w'.cell? ⟨w2.heap.size, 0, none⟩ = some (.int .i64 F.dg) ∧ w'.cell? ⟨w2.heap.size, 1, none⟩ = some (.int .i64 F.tn) ∧ w'.cell? ⟨w2.heap.size, 2, none⟩ = some (.string F.nm) ∧ w'.cell? ⟨w2.heap.size, 3, none⟩ = some (.slice oF F.pw.length kF)) ((repeat' apply And.intro) <;> go_simp) ((go_at_call 88; refine K.call (by with_reducible rfl) (by with_reducible rfl) (l19DrawUnits_any (w.heap.size + 1) F _ hnF (K.bsr s2)) ?_; rintro e w3 ⟨⟨u, xss, rfl, hxss, hU, hC⟩, s3, f3⟩; have z3 := f3.size; (try simp at z3); have F3 : K.Ext w w3 := K.Far.ext (K.bex F2) f3 (by omega); have u3_0_1 : w.heap.size < w2.heap.size + 1 := (by omega); obtain ⟨c3_0_0, c3_0_1, c3_0_2, c3_0_3, d3_0_0, d3_0_1, d3_0_2, d3_0_3, y3_0⟩ := f3.p4 c2_0_0 c2_0_1 c2_0_2 c2_0_3 d2_0_0 d2_0_1 d2_0_2 d2_0_3; have c3_1_0 : w3.cell? ⟨w2.heap.size, 0, none⟩ = some (.int .i64 F.dg) := f3.cell_of (by go_simp) (by (try dsimp only); omega); have d3_1_0 : w3.frozen? ⟨w2.heap.size, 0, none⟩ = false := f3.thaw_of (by go_simp) (by go_simp) (by (try dsimp only); omega); have c3_1_1 : w3.cell? ⟨w2.heap.size, 1, none⟩ = some (.int .i64 F.tn) := f3.cell_of (by go_simp) (by (try dsimp only); omega); have d3_1_1 : w3.frozen? ⟨w2.heap.size, 1, none⟩ = false := f3.thaw_of (by go_simp) (by go_simp) (by (try dsimp only); omega); have c3_1_2 : w3.cell? ⟨w2.heap.size, 2, none⟩ = some (.string F.nm) := f3.cell_of (by go_simp) (by (try dsimp only); omega); have d3_1_2 : w3.frozen? ⟨w2.heap.size, 2, none⟩ = false := f3.thaw_of (by go_simp) (by go_simp) (by (try dsimp only); omega); have c3_1_3 : w3.cell? ⟨w2.heap.size, 3, none⟩ = some (.slice oF F.pw.length kF) := f3.cell_of (by go_simp) (by (try dsimp only); omega); have d3_1_3 : w3.frozen? ⟨w2.heap.size, 3, none⟩ = false := f3.thaw_of (by go_simp) (by go_simp) (by (try dsimp only); omega); have y3_1 : w2.heap.size < w3.heap.size := World.block_lt_of_cell? w3 _ c3_1_0; have IF_3 := K.ints.far (K.bin IF_2) f3 (by first | exact .inl (by omega) | exact .inr (by omega)); obtain ⟨oU, kU, usU, rfl, _⟩ := id hU; have IU_3 : K.rows w3 (w2.heap.size + 1) w3.heap.size (.slice oU xss.length kU) xss := K.rows.mono hU (by simp) (Nat.le_refl _); clear hU))
  go_wp2_with fail
  all_goals refine bodyPost_ret (v := .tuple #[.agg #[.int .i64 F.dg, .int .i64 F.tn, .string F.nm, .slice oF F.pw.length kF], .slice oU xss.length kU]) (by unfold results; rw [Try.results13]; go_simp) rfl ⟨⟨F, _, _, xss, rfl, ⟨hnF, hmF⟩, K.ints.mono (K.bin IF_3) (by omega) (by first | omega | (simp; done) | (simp; omega)), hxss, K.rows.mono (show K.rows _ (w2.heap.size + 1) w3.heap.size (.slice oU xss.length kU) xss from by with_reducible repeat' (first | exact IU_3 | refine K.rows.alloc ?_ _ | refine K.rows.drew ?_ | refine K.rows.set ?_ _ ?_ _ | (dsimp only; omega) | omega | (simp; done) | (simp; omega))) (by omega) (by first | omega | (simp; done) | (simp; omega)), hC⟩, (K.bex F3)⟩
set_option maxRecDepth 100000 in
set_option maxHeartbeats 12800000 in
theorem DrawIsFitting_any {hi n : Nat} {v : Value} (w : World) (hn : n ≤ 4096) (hh : hi ≤ w.heap.size) (h : K.byts w hi v n) :
    Calls Try.prog 94 #[v] w fun e w' => (∃ (F : Z.Fm) (p u : Value) (xss : List (List Int)) (v : Value) (r : List Int), e = .returned (.tuple #[.agg #[.int .i64 F.dg, .int .i64 F.tn, .string F.nm, p], u, v]) ∧ (F.nm.size ≤ 7 ∧ F.pw.length ≤ 6) ∧ K.ints w' w.heap.size w'.heap.size p F.pw ∧ (xss.length ≤ 8 ∧ ∀ xs ∈ xss, (xs : List Int).length ≤ 4) ∧ K.rows w' w.heap.size w'.heap.size u xss ∧ K.capOk u xss.length ∧ (3 ≤ r.length ∧ r.length ≤ 4) ∧ K.ints w' w.heap.size w'.heap.size v r) ∧ K.Ext w w' := by
  have F0 : K.Ext w w := K.Ext.refl _
  go_enter Try.func94, Try.ntmps94
  go_wp2_with fail
  refine K.call (by with_reducible rfl) (by with_reducible rfl) (l01From_at (w.heap.size + 1) _ (by simp) hn (by omega) (h.ext (K.bex F0))) ?_
  rintro e w1 ⟨⟨rfl, s1⟩, f1⟩
  have z1 := f1.size
  (try simp at z1)
  have F1 : K.Ext w w1 := K.Ext.trans (K.bex F0) f1
  have c1_0_0 : w1.cell? ⟨w.heap.size, 0, none⟩ = some (.int .i64 0) := f1.cell_of (by go_simp)
  have d1_0_0 : w1.frozen? ⟨w.heap.size, 0, none⟩ = false := f1.thaw_of (by go_simp) (by go_simp)
  have c1_0_1 : w1.cell? ⟨w.heap.size, 1, none⟩ = some (.int .i64 0) := f1.cell_of (by go_simp)
  have d1_0_1 : w1.frozen? ⟨w.heap.size, 1, none⟩ = false := f1.thaw_of (by go_simp) (by go_simp)
  have c1_0_2 : w1.cell? ⟨w.heap.size, 2, none⟩ = some (.string ⟨#[]⟩) := f1.cell_of (by go_simp)
  have d1_0_2 : w1.frozen? ⟨w.heap.size, 2, none⟩ = false := f1.thaw_of (by go_simp) (by go_simp)
  have c1_0_3 : w1.cell? ⟨w.heap.size, 3, none⟩ = some (.slice none 0 0) := f1.cell_of (by go_simp)
  have d1_0_3 : w1.frozen? ⟨w.heap.size, 3, none⟩ = false := f1.thaw_of (by go_simp) (by go_simp)
  have y1_0 : w.heap.size < w1.heap.size := World.block_lt_of_cell? w1 _ c1_0_0
  have lg := s1.lt
  go_wp2_with fail
  refine K.call (by with_reducible rfl) (by with_reducible rfl) (DrawUnitOf_any _ hn (Nat.le_trans hh (K.Ext.size (K.bex F1))) (h.ext (K.bex F1))) ?_
  rintro e w2 ⟨⟨F, pF, u, xss, rfl, ⟨hnF, hmF⟩, hiF, hxss, hU, hC⟩, f2⟩
  have s2 := K.Src.ext (K.bsr s1) f2
  have z2 := f2.size
  (try simp at z2)
  have F2 : K.Ext w w2 := K.Ext.trans (K.bex F1) f2
  obtain ⟨c2_0_0, c2_0_1, c2_0_2, c2_0_3, d2_0_0, d2_0_1, d2_0_2, d2_0_3, y2_0⟩ := f2.p4 c1_0_0 c1_0_1 c1_0_2 c1_0_3 d1_0_0 d1_0_1 d1_0_2 d1_0_3
  obtain ⟨oF, kF, rfl, _⟩ := id hiF
  have IF_2 : K.ints w2 (w1.heap.size) w2.heap.size (.slice oF F.pw.length kF) F.pw := hiF.mono (by simp) (Nat.le_refl _)
  obtain ⟨oU, kU, usU, rfl, _⟩ := id hU
  have IU_2 : K.rows w2 (w1.heap.size) w2.heap.size (.slice oU xss.length kU) xss := K.rows.mono hU (by simp) (Nat.le_refl _)
  clear hU
  have HQ := Z.hide (show ∀ xs ∈ xss, (xs : List Int).length ≤ 1048576 from fun xs hx => Nat.le_trans (hxss.2 xs hx) (by decide))
  have HXS := Z.hide hxss
  obtain ⟨hx8, _⟩ := hxss
  go_wp2_with fail
  refine K.call (by with_reducible rfl) (by with_reducible rfl) (spec_UnitOf F xss _ (by omega) (by omega) (K.bin IF_2) (by omega) HQ.out (show K.rows _ (w1.heap.size) w2.heap.size (.slice oU xss.length kU) xss from by with_reducible repeat' (first | exact IU_2 | refine K.rows.alloc ?_ _ | refine K.rows.drew ?_ | refine K.rows.set ?_ _ ?_ _ | (dsimp only; omega) | omega | (simp; done) | (simp; omega)))) ?_
  rintro e w3 ⟨⟨pR, rfl, hR⟩, f3⟩
  have s3 := K.Src.ext (K.bsr s2) f3
  have z3 := f3.size
  (try simp at z3)
  have F3 : K.Ext w w3 := K.Ext.trans (K.bex F2) f3
  have u3_0_1 : w.heap.size < w2.heap.size + 1 := (by omega)
  obtain ⟨c3_0_0, c3_0_1, c3_0_2, c3_0_3, d3_0_0, d3_0_1, d3_0_2, d3_0_3, y3_0⟩ := f3.p4 c2_0_0 c2_0_1 c2_0_2 c2_0_3 d2_0_0 d2_0_1 d2_0_2 d2_0_3
  have c3_1_0 : w3.cell? ⟨w2.heap.size, 0, none⟩ = some (.int .i64 F.dg) := f3.cell_of (by go_simp)
  have d3_1_0 : w3.frozen? ⟨w2.heap.size, 0, none⟩ = false := f3.thaw_of (by go_simp) (by go_simp)
  have c3_1_1 : w3.cell? ⟨w2.heap.size, 1, none⟩ = some (.int .i64 F.tn) := f3.cell_of (by go_simp)
  have d3_1_1 : w3.frozen? ⟨w2.heap.size, 1, none⟩ = false := f3.thaw_of (by go_simp) (by go_simp)
  have c3_1_2 : w3.cell? ⟨w2.heap.size, 2, none⟩ = some (.string F.nm) := f3.cell_of (by go_simp)
  have d3_1_2 : w3.frozen? ⟨w2.heap.size, 2, none⟩ = false := f3.thaw_of (by go_simp) (by go_simp)
  have c3_1_3 : w3.cell? ⟨w2.heap.size, 3, none⟩ = some (.slice oF F.pw.length kF) := f3.cell_of (by go_simp)
  have d3_1_3 : w3.frozen? ⟨w2.heap.size, 3, none⟩ = false := f3.thaw_of (by go_simp) (by go_simp)
  have y3_1 : w2.heap.size < w3.heap.size := World.block_lt_of_cell? w3 _ c3_1_0
  have IF_3 := K.ints.ext (K.bin IF_2) f3
  have IU_3 := K.rows.ext (show K.rows _ (w1.heap.size) w2.heap.size (.slice oU xss.length kU) xss from by with_reducible repeat' (first | exact IU_2 | refine K.rows.alloc ?_ _ | refine K.rows.drew ?_ | refine K.rows.set ?_ _ ?_ _ | (dsimp only; omega) | omega | (simp; done) | (simp; omega))) f3
  obtain ⟨oR, kR, rfl, _⟩ := id (hR)
  have IR_3 : K.ints w3 (w2.heap.size + 1) w3.heap.size (.slice oR (Z.UnitOf F xss).1.length kR) (Z.UnitOf F xss).1 := K.ints.mono (hR) (by simp) (Nat.le_refl _)
  by_cases hb : (Z.UnitOf F xss).2 = 0
  · have h4 := Z.UnitOf_four hb
    go_wp2_with fail
    refine K.call (by with_reducible rfl) (by with_reducible rfl) (l01Next_any (w.heap.size + 1) (3) _ (K.bsr s3)) ?_
    rintro e w4 ⟨⟨m, rfl, m0, m1, m2⟩, s4, f4⟩
    have z4 := f4.size
    (try simp at z4)
    have F4 : K.Ext w w4 := K.Far.ext (K.bex F3) f4 (by omega)
    obtain ⟨c4_0_0, c4_0_1, c4_0_2, c4_0_3, d4_0_0, d4_0_1, d4_0_2, d4_0_3, y4_0⟩ := f4.p4 c3_0_0 c3_0_1 c3_0_2 c3_0_3 d3_0_0 d3_0_1 d3_0_2 d3_0_3
    obtain ⟨c4_1_0, c4_1_1, c4_1_2, c4_1_3, d4_1_0, d4_1_1, d4_1_2, d4_1_3, y4_1⟩ := f4.p4 c3_1_0 c3_1_1 c3_1_2 c3_1_3 d3_1_0 d3_1_1 d3_1_2 d3_1_3
    have IF_4 := K.ints.far (K.bin IF_3) f4 (by first | exact .inl (by omega) | exact .inr (by omega))
    have IU_4 := K.rows.far (show K.rows _ (w1.heap.size) w2.heap.size (.slice oU xss.length kU) xss from by with_reducible repeat' (first | exact IU_3 | refine K.rows.alloc ?_ _ | refine K.rows.drew ?_ | refine K.rows.set ?_ _ ?_ _ | (dsimp only; omega) | omega | (simp; done) | (simp; omega))) f4 (by first | exact .inl (by omega) | exact .inr (by omega))
    have IR_4 := K.ints.far (K.bin IR_3) f4 (by first | exact .inl (by omega) | exact .inr (by omega))
    by_cases m0_ : m = 0
    · subst m0_
      go_wp2_with fail
      have ne0_1 : ¬ (w.heap.size = w2.heap.size) := (by omega)
      have nf0_1 : ¬ (w2.heap.size = w.heap.size) := (by omega)
      go_region_held3 (fun w' => w'.cell? ⟨w2.heap.size, 0, none⟩ = some (.int .i64 F.dg) ∧ w'.cell? ⟨w2.heap.size, 1, none⟩ = some (.int .i64 F.tn) ∧ w'.cell? ⟨w2.heap.size, 2, none⟩ = some (.string F.nm) ∧ w'.cell? ⟨w2.heap.size, 3, none⟩ = some (.slice oF F.pw.length kF)) ((repeat' apply And.intro) <;> go_simp) ((go_at_call 82; refine K.call (by with_reducible rfl) (by with_reducible rfl) (l19Draw_any (w.heap.size + 1) _ (K.bsr s4)) ?_; rintro e w5 ⟨⟨v, xs, rfl, hxs, hv⟩, s5, f5⟩; have z5 := f5.size; (try simp at z5); have F5 : K.Ext w w5 := K.Far.ext (K.bex F4) f5 (by omega); obtain ⟨c5_0_0, c5_0_1, c5_0_2, c5_0_3, d5_0_0, d5_0_1, d5_0_2, d5_0_3, y5_0⟩ := f5.p4 c4_0_0 c4_0_1 c4_0_2 c4_0_3 d4_0_0 d4_0_1 d4_0_2 d4_0_3; obtain ⟨c5_1_0, c5_1_1, c5_1_2, c5_1_3, d5_1_0, d5_1_1, d5_1_2, d5_1_3, y5_1⟩ := f5.p4 c4_1_0 c4_1_1 c4_1_2 c4_1_3 d4_1_0 d4_1_1 d4_1_2 d4_1_3; have IF_5 := K.ints.far (K.bin IF_4) f5 (by first | exact .inl (by omega) | exact .inr (by omega)); have IU_5 := K.rows.far (show K.rows _ (w1.heap.size) w2.heap.size (.slice oU xss.length kU) xss from by with_reducible repeat' (first | exact IU_4 | refine K.rows.alloc ?_ _ | refine K.rows.drew ?_ | refine K.rows.set ?_ _ ?_ _ | (dsimp only; omega) | omega | (simp; done) | (simp; omega))) f5 (by first | exact .inl (by omega) | exact .inr (by omega)); have IR_5 := K.ints.far (K.bin IR_4) f5 (by first | exact .inl (by omega) | exact .inr (by omega)); obtain ⟨oX, kX, rfl, _⟩ := id (K.own.ints hv); have IX_5 : K.ints w5 (w4.heap.size) w5.heap.size (.slice oX xs.length kX) xs := K.ints.mono (K.own.ints hv) (by simp) (Nat.le_refl _)))
      go_wp2_with fail
      all_goals refine bodyPost_ret (v := .tuple #[.agg #[.int .i64 F.dg, .int .i64 F.tn, .string F.nm, .slice oF F.pw.length kF], .slice oU xss.length kU, .slice oX xs.length kX]) (by unfold results; rw [Try.results94]; go_simp) rfl ⟨⟨F, _, _, xss, _, xs, rfl, ⟨hnF, hmF⟩, K.ints.mono (K.bin IF_5) (by omega) (by first | omega | (simp; done) | (simp; omega)), HXS.out, K.rows.mono (show K.rows _ (w1.heap.size) w2.heap.size (.slice oU xss.length kU) xss from by with_reducible repeat' (first | exact IU_5 | refine K.rows.alloc ?_ _ | refine K.rows.drew ?_ | refine K.rows.set ?_ _ ?_ _ | (dsimp only; omega) | omega | (simp; done) | (simp; omega))) (by omega) (by first | omega | (simp; done) | (simp; omega)), hC, hxs, K.ints.mono (K.bin IX_5) (by omega) (by first | omega | (simp; done) | (simp; omega))⟩, (K.bex F5)⟩
    have m0' : (m == 0) = false := by simpa using m0_
    go_wp2_with fail
    all_goals refine bodyPost_ret (v := .tuple #[.agg #[.int .i64 F.dg, .int .i64 F.tn, .string F.nm, .slice oF F.pw.length kF], .slice oU xss.length kU, .slice oR (Z.UnitOf F xss).1.length kR]) (by unfold results; rw [Try.results94]; go_simp) rfl ⟨⟨F, _, _, xss, _, (Z.UnitOf F xss).1, rfl, ⟨hnF, hmF⟩, K.ints.mono (K.bin IF_4) (by omega) (by first | omega | (simp; done) | (simp; omega)), HXS.out, K.rows.mono (show K.rows _ (w1.heap.size) w2.heap.size (.slice oU xss.length kU) xss from by with_reducible repeat' (first | exact IU_4 | refine K.rows.alloc ?_ _ | refine K.rows.drew ?_ | refine K.rows.set ?_ _ ?_ _ | (dsimp only; omega) | omega | (simp; done) | (simp; omega))) (by omega) (by first | omega | (simp; done) | (simp; omega)), hC, h4, K.ints.mono (K.bin IR_4) (by omega) (by first | omega | (simp; done) | (simp; omega))⟩, (K.bex F4)⟩
  have hb' : ((Z.UnitOf F xss).2 == 0) = false := by simpa using hb
  go_wp2_with fail
  have ne0_1 : ¬ (w.heap.size = w2.heap.size) := (by omega)
  have nf0_1 : ¬ (w2.heap.size = w.heap.size) := (by omega)
  go_region_held3 (fun w' => w'.cell? ⟨w2.heap.size, 0, none⟩ = some (.int .i64 F.dg) ∧ w'.cell? ⟨w2.heap.size, 1, none⟩ = some (.int .i64 F.tn) ∧ w'.cell? ⟨w2.heap.size, 2, none⟩ = some (.string F.nm) ∧ w'.cell? ⟨w2.heap.size, 3, none⟩ = some (.slice oF F.pw.length kF)) ((repeat' apply And.intro) <;> go_simp) ((go_at_call 82; refine K.call (by with_reducible rfl) (by with_reducible rfl) (l19Draw_any (w.heap.size + 1) _ (K.bsr s3)) ?_; rintro e w4 ⟨⟨v, xs, rfl, hxs, hv⟩, s4, f4⟩; have z4 := f4.size; (try simp at z4); have F4 : K.Ext w w4 := K.Far.ext (K.bex F3) f4 (by omega); obtain ⟨c4_0_0, c4_0_1, c4_0_2, c4_0_3, d4_0_0, d4_0_1, d4_0_2, d4_0_3, y4_0⟩ := f4.p4 c3_0_0 c3_0_1 c3_0_2 c3_0_3 d3_0_0 d3_0_1 d3_0_2 d3_0_3; obtain ⟨c4_1_0, c4_1_1, c4_1_2, c4_1_3, d4_1_0, d4_1_1, d4_1_2, d4_1_3, y4_1⟩ := f4.p4 c3_1_0 c3_1_1 c3_1_2 c3_1_3 d3_1_0 d3_1_1 d3_1_2 d3_1_3; have IF_4 := K.ints.far (K.bin IF_3) f4 (by first | exact .inl (by omega) | exact .inr (by omega)); have IU_4 := K.rows.far (show K.rows _ (w1.heap.size) w2.heap.size (.slice oU xss.length kU) xss from by with_reducible repeat' (first | exact IU_3 | refine K.rows.alloc ?_ _ | refine K.rows.drew ?_ | refine K.rows.set ?_ _ ?_ _ | (dsimp only; omega) | omega | (simp; done) | (simp; omega))) f4 (by first | exact .inl (by omega) | exact .inr (by omega)); have IR_4 := K.ints.far (K.bin IR_3) f4 (by first | exact .inl (by omega) | exact .inr (by omega)); obtain ⟨oX, kX, rfl, _⟩ := id (K.own.ints hv); have IX_4 : K.ints w4 (w3.heap.size) w4.heap.size (.slice oX xs.length kX) xs := K.ints.mono (K.own.ints hv) (by simp) (Nat.le_refl _)))
  go_wp2_with fail
  all_goals refine bodyPost_ret (v := .tuple #[.agg #[.int .i64 F.dg, .int .i64 F.tn, .string F.nm, .slice oF F.pw.length kF], .slice oU xss.length kU, .slice oX xs.length kX]) (by unfold results; rw [Try.results94]; go_simp) rfl ⟨⟨F, _, _, xss, _, xs, rfl, ⟨hnF, hmF⟩, K.ints.mono (K.bin IF_4) (by omega) (by first | omega | (simp; done) | (simp; omega)), HXS.out, K.rows.mono (show K.rows _ (w1.heap.size) w2.heap.size (.slice oU xss.length kU) xss from by with_reducible repeat' (first | exact IU_4 | refine K.rows.alloc ?_ _ | refine K.rows.drew ?_ | refine K.rows.set ?_ _ ?_ _ | (dsimp only; omega) | omega | (simp; done) | (simp; omega))) (by omega) (by first | omega | (simp; done) | (simp; omega)), hC, hxs, K.ints.mono (K.bin IX_4) (by omega) (by first | omega | (simp; done) | (simp; omega))⟩, (K.bex F4)⟩
set_option maxRecDepth 100000 in
set_option maxHeartbeats 12800000 in
theorem DrawMissingUnit_any {hi n : Nat} {v : Value} (w : World) (hn : n ≤ 4096) (hh : hi ≤ w.heap.size) (h : K.byts w hi v n) :
    Calls Try.prog 16 #[v] w fun e w' => (∃ (F : Z.Fm) (p u : Value) (xss : List (List Int)) (ix : Int) (v : Value) (r : List Int), e = .returned (.tuple #[.agg #[.int .i64 F.dg, .int .i64 F.tn, .string F.nm, p], u, .int .i64 ix, v]) ∧ (F.nm.size ≤ 7 ∧ F.pw.length ≤ 6) ∧ K.ints w' w.heap.size w'.heap.size p F.pw ∧ (xss.length ≤ 8 ∧ ∀ xs ∈ xss, (xs : List Int).length ≤ 4) ∧ K.rows w' w.heap.size w'.heap.size u xss ∧ K.capOk u xss.length ∧ (3 ≤ r.length ∧ r.length ≤ 4) ∧ K.ints w' w.heap.size w'.heap.size v r) ∧ K.Ext w w' := by
  have F0 : K.Ext w w := K.Ext.refl _
  go_enter Try.func16, Try.ntmps16
  go_wp2_with fail
  refine K.call (by with_reducible rfl) (by with_reducible rfl) (l01From_at (w.heap.size + 1) _ (by simp) hn (by omega) (h.ext (K.bex F0))) ?_
  rintro e w1 ⟨⟨rfl, s1⟩, f1⟩
  have z1 := f1.size
  (try simp at z1)
  have F1 : K.Ext w w1 := K.Ext.trans (K.bex F0) f1
  have c1_0_0 : w1.cell? ⟨w.heap.size, 0, none⟩ = some (.int .i64 0) := f1.cell_of (by go_simp)
  have d1_0_0 : w1.frozen? ⟨w.heap.size, 0, none⟩ = false := f1.thaw_of (by go_simp) (by go_simp)
  have c1_0_1 : w1.cell? ⟨w.heap.size, 1, none⟩ = some (.int .i64 0) := f1.cell_of (by go_simp)
  have d1_0_1 : w1.frozen? ⟨w.heap.size, 1, none⟩ = false := f1.thaw_of (by go_simp) (by go_simp)
  have c1_0_2 : w1.cell? ⟨w.heap.size, 2, none⟩ = some (.string ⟨#[]⟩) := f1.cell_of (by go_simp)
  have d1_0_2 : w1.frozen? ⟨w.heap.size, 2, none⟩ = false := f1.thaw_of (by go_simp) (by go_simp)
  have c1_0_3 : w1.cell? ⟨w.heap.size, 3, none⟩ = some (.slice none 0 0) := f1.cell_of (by go_simp)
  have d1_0_3 : w1.frozen? ⟨w.heap.size, 3, none⟩ = false := f1.thaw_of (by go_simp) (by go_simp)
  have y1_0 : w.heap.size < w1.heap.size := World.block_lt_of_cell? w1 _ c1_0_0
  have lg := s1.lt
  go_wp2_with fail
  refine K.call (by with_reducible rfl) (by with_reducible rfl) (DrawIsFitting_any _ hn (Nat.le_trans hh (K.Ext.size (K.bex F1))) (h.ext (K.bex F1))) ?_
  rintro e w2 ⟨⟨F, pF, u, xss, vR, r, rfl, ⟨hnF, hmF⟩, hiF, hxss, hU, hC, hr4, hR⟩, f2⟩
  have s2 := K.Src.ext (K.bsr s1) f2
  have z2 := f2.size
  (try simp at z2)
  have F2 : K.Ext w w2 := K.Ext.trans (K.bex F1) f2
  obtain ⟨c2_0_0, c2_0_1, c2_0_2, c2_0_3, d2_0_0, d2_0_1, d2_0_2, d2_0_3, y2_0⟩ := f2.p4 c1_0_0 c1_0_1 c1_0_2 c1_0_3 d1_0_0 d1_0_1 d1_0_2 d1_0_3
  obtain ⟨oF, kF, rfl, _⟩ := id hiF
  have IF_2 : K.ints w2 (w1.heap.size) w2.heap.size (.slice oF F.pw.length kF) F.pw := hiF.mono (by simp) (Nat.le_refl _)
  obtain ⟨oU, kU, usU, rfl, _⟩ := id hU
  have IU_2 : K.rows w2 (w1.heap.size) w2.heap.size (.slice oU xss.length kU) xss := K.rows.mono hU (by simp) (Nat.le_refl _)
  clear hU
  obtain ⟨oR, kR, rfl, _⟩ := id (hR)
  have IR_2 : K.ints w2 (w1.heap.size) w2.heap.size (.slice oR r.length kR) r := K.ints.mono (hR) (by simp) (Nat.le_refl _)
  have HXS := Z.hide hxss
  obtain ⟨hx8, _⟩ := hxss
  have x8 : (xss.length : Int) ≤ 8 := by omega
  have x80 : (0 : Int) ≤ (xss.length : Int) := Int.natCast_nonneg _
  have uh_0_1 : w.heap.size < w2.heap.size + 1 := (by omega)
  go_wp2_with fail
  have ne0_1 : ¬ (w.heap.size = w2.heap.size) := (by omega)
  have nf0_1 : ¬ (w2.heap.size = w.heap.size) := (by omega)
  go_region_held3 (fun w' => w'.cell? ⟨w2.heap.size, 0, none⟩ = some (.int .i64 F.dg) ∧ w'.cell? ⟨w2.heap.size, 1, none⟩ = some (.int .i64 F.tn) ∧ w'.cell? ⟨w2.heap.size, 2, none⟩ = some (.string F.nm) ∧ w'.cell? ⟨w2.heap.size, 3, none⟩ = some (.slice oF F.pw.length kF)) ((repeat' apply And.intro) <;> go_simp) (first | (go_at_call 83; refine K.call (by with_reducible rfl) (by with_reducible rfl) (l01Next_any (w.heap.size + 1) (12) _ (K.bsr s2)) ?_; rintro e w3 ⟨⟨y, rfl, y0, y1, y2⟩, s3, f3⟩; have z3 := f3.size; (try simp at z3); have F3 : K.Ext w w3 := K.Far.ext (K.bex F2) f3 (by omega); have u3_0_1 : w.heap.size < w2.heap.size + 1 := (by omega); obtain ⟨c3_0_0, c3_0_1, c3_0_2, c3_0_3, d3_0_0, d3_0_1, d3_0_2, d3_0_3, y3_0⟩ := f3.p4 c2_0_0 c2_0_1 c2_0_2 c2_0_3 d2_0_0 d2_0_1 d2_0_2 d2_0_3; have c3_1_0 : w3.cell? ⟨w2.heap.size, 0, none⟩ = some (.int .i64 F.dg) := f3.cell_of (by go_simp) (by (try dsimp only); omega); have d3_1_0 : w3.frozen? ⟨w2.heap.size, 0, none⟩ = false := f3.thaw_of (by go_simp) (by go_simp) (by (try dsimp only); omega); have c3_1_1 : w3.cell? ⟨w2.heap.size, 1, none⟩ = some (.int .i64 F.tn) := f3.cell_of (by go_simp) (by (try dsimp only); omega); have d3_1_1 : w3.frozen? ⟨w2.heap.size, 1, none⟩ = false := f3.thaw_of (by go_simp) (by go_simp) (by (try dsimp only); omega); have c3_1_2 : w3.cell? ⟨w2.heap.size, 2, none⟩ = some (.string F.nm) := f3.cell_of (by go_simp) (by (try dsimp only); omega); have d3_1_2 : w3.frozen? ⟨w2.heap.size, 2, none⟩ = false := f3.thaw_of (by go_simp) (by go_simp) (by (try dsimp only); omega); have c3_1_3 : w3.cell? ⟨w2.heap.size, 3, none⟩ = some (.slice oF F.pw.length kF) := f3.cell_of (by go_simp) (by (try dsimp only); omega); have d3_1_3 : w3.frozen? ⟨w2.heap.size, 3, none⟩ = false := f3.thaw_of (by go_simp) (by go_simp) (by (try dsimp only); omega); have y3_1 : w2.heap.size < w3.heap.size := World.block_lt_of_cell? w3 _ c3_1_0; have IF_3 := K.ints.far (K.bin IF_2) f3 (by first | exact .inl (by omega) | exact .inr (by omega)); have IU_3 := K.rows.far (show K.rows _ (w1.heap.size) w2.heap.size (.slice oU xss.length kU) xss from by with_reducible repeat' (first | exact IU_2 | refine K.rows.alloc ?_ _ | refine K.rows.drew ?_ | refine K.rows.set ?_ _ ?_ _ | (dsimp only; omega) | omega | (simp; done) | (simp; omega))) f3 (by first | exact .inl (by omega) | exact .inr (by omega)); have IR_3 := K.ints.far (K.bin IR_2) f3 (by first | exact .inl (by omega) | exact .inr (by omega)); have ty : y.tdiv 11 = y / 11 := Int.tdiv_eq_ediv_of_nonneg y0; have qy : IntKind.i64.wrap (y.tdiv 11) = y.tdiv 11 := IntWalk.i64_in _ (by omega); have qs : IntKind.i64.wrap ((xss.length : Int) + y.tdiv 11) = (xss.length : Int) + y.tdiv 11 := IntWalk.i64_in _ (by omega); have HY := Z.hide ty; clear ty) | (go_at_call 83; refine K.call (by with_reducible rfl) (by with_reducible rfl) (l01Next_any (w.heap.size + 1) ((xss.length : Int) + y.tdiv 11) _ (K.bsr s3)) ?_; rintro e w4 ⟨⟨z, rfl, z0, z1, z2⟩, s4, f4⟩; have z4 := f4.size; (try simp at z4); have F4 : K.Ext w w4 := K.Far.ext (K.bex F3) f4 (by omega); obtain ⟨c4_0_0, c4_0_1, c4_0_2, c4_0_3, d4_0_0, d4_0_1, d4_0_2, d4_0_3, y4_0⟩ := f4.p4 c3_0_0 c3_0_1 c3_0_2 c3_0_3 d3_0_0 d3_0_1 d3_0_2 d3_0_3; obtain ⟨c4_1_0, c4_1_1, c4_1_2, c4_1_3, d4_1_0, d4_1_1, d4_1_2, d4_1_3, y4_1⟩ := f4.p4 c3_1_0 c3_1_1 c3_1_2 c3_1_3 d3_1_0 d3_1_1 d3_1_2 d3_1_3; have IF_4 := K.ints.far (K.bin IF_3) f4 (by first | exact .inl (by omega) | exact .inr (by omega)); have IU_4 := K.rows.far (show K.rows _ (w1.heap.size) w2.heap.size (.slice oU xss.length kU) xss from by with_reducible repeat' (first | exact IU_3 | refine K.rows.alloc ?_ _ | refine K.rows.drew ?_ | refine K.rows.set ?_ _ ?_ _ | (dsimp only; omega) | omega | (simp; done) | (simp; omega))) f4 (by first | exact .inl (by omega) | exact .inr (by omega)); have IR_4 := K.ints.far (K.bin IR_3) f4 (by first | exact .inl (by omega) | exact .inr (by omega))) | (go_at_call 83; refine K.call (by with_reducible rfl) (by with_reducible rfl) (l01Next_any (w.heap.size + 1) (24) _ (K.bsr s4)) ?_; rintro e w5 ⟨⟨x, rfl, x0, x1, x2⟩, s5, f5⟩; have z5 := f5.size; (try simp at z5); have F5 : K.Ext w w5 := K.Far.ext (K.bex F4) f5 (by omega); obtain ⟨c5_0_0, c5_0_1, c5_0_2, c5_0_3, d5_0_0, d5_0_1, d5_0_2, d5_0_3, y5_0⟩ := f5.p4 c4_0_0 c4_0_1 c4_0_2 c4_0_3 d4_0_0 d4_0_1 d4_0_2 d4_0_3; obtain ⟨c5_1_0, c5_1_1, c5_1_2, c5_1_3, d5_1_0, d5_1_1, d5_1_2, d5_1_3, y5_1⟩ := f5.p4 c4_1_0 c4_1_1 c4_1_2 c4_1_3 d4_1_0 d4_1_1 d4_1_2 d4_1_3; have IF_5 := K.ints.far (K.bin IF_4) f5 (by first | exact .inl (by omega) | exact .inr (by omega)); have IU_5 := K.rows.far (show K.rows _ (w1.heap.size) w2.heap.size (.slice oU xss.length kU) xss from by with_reducible repeat' (first | exact IU_4 | refine K.rows.alloc ?_ _ | refine K.rows.drew ?_ | refine K.rows.set ?_ _ ?_ _ | (dsimp only; omega) | omega | (simp; done) | (simp; omega))) f5 (by first | exact .inl (by omega) | exact .inr (by omega)); have IR_5 := K.ints.far (K.bin IR_4) f5 (by first | exact .inl (by omega) | exact .inr (by omega)); have tx : x.tdiv 23 = x / 23 := Int.tdiv_eq_ediv_of_nonneg x0; have qx : IntKind.i64.wrap (x.tdiv 23) = x.tdiv 23 := IntWalk.i64_in _ (by omega); have qd : IntKind.i64.wrap (z - x.tdiv 23) = z - x.tdiv 23 := IntWalk.i64_in _ (by omega); clear tx))
  go_wp2_with fail
  all_goals refine bodyPost_ret (v := .tuple #[.agg #[.int .i64 F.dg, .int .i64 F.tn, .string F.nm, .slice oF F.pw.length kF], .slice oU xss.length kU, .int .i64 (z - x.tdiv 23), .slice oR r.length kR]) (by unfold results; rw [Try.results16]; go_simp) rfl ⟨⟨F, _, _, xss, _, _, r, rfl, ⟨hnF, hmF⟩, K.ints.mono (K.bin IF_5) (by omega) (by first | omega | (simp; done) | (simp; omega)), HXS.out, K.rows.mono (show K.rows _ (w1.heap.size) w2.heap.size (.slice oU xss.length kU) xss from by with_reducible repeat' (first | exact IU_5 | refine K.rows.alloc ?_ _ | refine K.rows.drew ?_ | refine K.rows.set ?_ _ ?_ _ | (dsimp only; omega) | omega | (simp; done) | (simp; omega))) (by omega) (by first | omega | (simp; done) | (simp; omega)), hC, hr4, K.ints.mono (K.bin IR_5) (by omega) (by first | omega | (simp; done) | (simp; omega))⟩, (K.bex F5)⟩
end Go.Proofs.Ythmnlbgbacbocaa
end
section
namespace Go.K
open Go Go.ChangeShapes Go.WideShapes Go.ChangeAt Go.RowKit Go.Deep
variable {H : Type} {enc : TypeId × Value → H} {P : Program} {w : World} {base : Nat} {spare : Nat → Bool} {held : Bool}
/-- a byte: one cell -/
def ByR : Rec Int := ⟨1, fun x _ => .int .u8 x⟩
theorem byte_cells {e : TypeId} {fuel : Nat} {cs : List Value} {x : DataW H × List MemPlace} (hi : P.underlying e = some (.int .u8))
    (h : DataW.trod enc P w base spare held fuel e cs = some x) : ∃ s : Int, (0 ≤ s ∧ s ≤ 255) ∧ cs = (List.range ByR.n).map (ByR.cell s) := by
  obtain ⟨i, ei, _, wi⟩ := DataW.trod_int hi h
  exact ⟨i, byte_wf wi, ei⟩
theorem byts_of_recs {v : Value} {xs : List Int} (h : recs false ByR w 0 w.heap.size v xs) (hq : ∀ s ∈ xs, 0 ≤ s ∧ s ≤ 255) : byts w w.heap.size v xs.length := by
  have g := h
  obtain ⟨o, cap, rfl, _⟩ := g
  refine ⟨o, cap, rfl, fun hn => ?_⟩
  obtain ⟨b, off, ho, _, hb, hc, _⟩ := recs_at h hn
  refine ⟨b, off, ho, hb, fun i hi => ?_⟩
  obtain ⟨q0, q1⟩ := hq _ (List.getElem_mem hi)
  refine ⟨xs[i], q0, q1, ?_⟩
  have e := hc i hi 0 (by decide)
  have hn1 : ByR.n = 1 := rfl
  rw [hn1, Nat.mul_one, Nat.add_zero] at e
  exact e
end Go.K
namespace Go.Proofs.Ythmnlbgbacbocaa
open Go.RowKit
theorem big_no {n hi : Nat} {v : Value} (w : World) (hn : n ≤ 4096) (h : K.byts w hi v n) :
    Calls Try.prog 9 #[v] w fun e w' => e = .returned (.bool false) ∧ w = w' := by
  obtain ⟨o, cap, rfl, _⟩ := h
  have i1 : ¬ ((4096 : Int) < (n : Int)) := by omega
  go_enter Try.func9, Try.ntmps9
  go_wp2_with fail
  go_ret
  exact ⟨rfl, rfl⟩
theorem big_yes {n hi : Nat} {v : Value} (w : World) (hn : 4096 < n) (h : K.byts w hi v n) :
    Calls Try.prog 9 #[v] w fun e w' => e = .returned (.bool true) ∧ w = w' := by
  obtain ⟨o, cap, rfl, _⟩ := h
  have i1 : (4096 : Int) < (n : Int) := by omega
  go_enter Try.func9, Try.ntmps9
  go_wp2_with fail
  go_ret
  exact ⟨rfl, rfl⟩
end Go.Proofs.Ythmnlbgbacbocaa
end
section
namespace Go.Proofs.Ythmnlbgbacbocaa
open Go.RowKit
set_option maxHeartbeats 400000 in
theorem likeInts_same (xs : List Int) (lo hi lo' hi' : Nat) (v v' : Value) (w : World) (hm : xs.length ≤ 1048576) (h : K.ints w lo hi v xs) (h' : K.ints w lo' hi' v' xs) :
    Calls Try.prog 19 #[v, v'] w fun e w' => e = .returned (.bool true) ∧ K.Ext w w' := by
  obtain ⟨o, cap, rfl, h⟩ := h
  obtain ⟨o', cap', rfl, h'⟩ := h'
  go_enter Try.func19, Try.ntmps19
  go_wp2
  go_loopw [5] (fun i wr => ∃ k : Nat, k ≤ xs.length ∧ i = .int .i64 k ∧ Hid (K.Ext w wr)) (fun i _ => xs.length - (intOf i).toNat)
  case atStart => exact ⟨0, Nat.zero_le _, rfl, Z.hide (K.Ext.refl _)⟩
  case round =>
    obtain ⟨k, hk, rfl, HX⟩ := hrel
    by_cases hlt : k < xs.length
    · obtain ⟨b, off, rfl, _, _, hc⟩ := h (by intro h0; simp [h0] at hlt)
      obtain ⟨b', off', rfl, _, _, hc'⟩ := h' (by intro h0; simp [h0] at hlt)
      have hck := HX.out.cell_of (hc k hlt)
      have hck' := HX.out.cell_of (hc' k hlt)
      clear hc hc' h h'
      generalize xs.getD k 0 = x at *
      have i0 : (0 : Int) ≤ (k : Int) := Int.natCast_nonneg k
      have i1 : (k : Int) < (xs.length : Int) := by omega
      go_wp2_with fail
      refine K.wp_region_ext (by kernel_rfl) (by kernel_rfl) ?_
      apply K.qcons
      · rfl
      · intro w' hw'; have hc := hw'.all.1.1; have hf := hw'.all.1.2; have hc' := hw'.all.2.1; have hf' := hw'.all.2.2; unfold Oper.quietAt; go_simp; first | done | rfl | exact ⟨rfl, rfl⟩
      simp only [Act.put, List.setIfInBounds_toArray, List.set]
      apply K.qcons
      · rfl
      · intro w' hw'; have hc := hw'.all.1.1; have hf := hw'.all.1.2; have hc' := hw'.all.2.1; have hf' := hw'.all.2.2; unfold Oper.quietAt; go_simp; first | done | rfl | exact ⟨rfl, rfl⟩
      simp only [Act.put, List.setIfInBounds_toArray, List.set]
      apply K.qcons
      · rfl
      · intro w' hw'; have hc := hw'.all.1.1; have hf := hw'.all.1.2; have hc' := hw'.all.2.1; have hf' := hw'.all.2.2; unfold Oper.quietAt; go_simp; first | done | rfl | exact ⟨rfl, rfl⟩
      simp only [Act.put, List.setIfInBounds_toArray, List.set]
      apply K.qcons
      · rfl
      · intro w' hw'; have hc := hw'.all.1.1; have hf := hw'.all.1.2; have hc' := hw'.all.2.1; have hf' := hw'.all.2.2; unfold Oper.quietAt; go_simp; first | done | rfl | exact ⟨rfl, rfl⟩
      simp only [Act.put, List.setIfInBounds_toArray, List.set]
      apply K.qcons
      · rfl
      · intro w' hw'; have hc := hw'.all.1.1; have hf := hw'.all.1.2; have hc' := hw'.all.2.1; have hf' := hw'.all.2.2; unfold Oper.quietAt; go_simp; first | done | rfl | exact ⟨rfl, rfl⟩
      simp only [Act.put, List.setIfInBounds_toArray, List.set]
      apply K.qcons
      · rfl
      · intro w' hw'; have hc := hw'.all.1.1; have hf := hw'.all.1.2; have hc' := hw'.all.2.1; have hf' := hw'.all.2.2; unfold Oper.quietAt; go_simp; first | done | rfl | exact ⟨rfl, rfl⟩
      simp only [Act.put, List.setIfInBounds_toArray, List.set]
      apply K.qcons
      · rfl
      · intro w' hw'; have hc := hw'.all.1.1; have hf := hw'.all.1.2; have hc' := hw'.all.2.1; have hf' := hw'.all.2.2; unfold Oper.quietAt; go_simp; first | done | rfl | exact ⟨rfl, rfl⟩
      simp only [Act.put, List.setIfInBounds_toArray, List.set]
      apply K.qcons
      · rfl
      · intro w' hw'; have hc := hw'.all.1.1; have hf := hw'.all.1.2; have hc' := hw'.all.2.1; have hf' := hw'.all.2.2; unfold Oper.quietAt; go_simp; first | done | rfl | exact ⟨rfl, rfl⟩
      simp only [Act.put, List.setIfInBounds_toArray, List.set]
      apply K.qcons
      · rfl
      · intro w' hw'; have hc := hw'.all.1.1; have hf := hw'.all.1.2; have hc' := hw'.all.2.1; have hf' := hw'.all.2.2; unfold Oper.quietAt; go_simp; first | done | exact K.vint (IntWalk.i64_in _ (by omega)) | rfl | exact ⟨rfl, rfl⟩
      simp only [Act.put, List.setIfInBounds_toArray, List.set]
      refine wpQuiet_nil ?_
      intro w1 hx1
      obtain ⟨⟨hcw1, hfw1⟩, hc'w1, hf'w1⟩ := hx1.all
      go_wp2
      go_roundw
      case rel => exact ⟨k + 1, by omega, by go_num, Z.hide (HX.out.trans (by first | exact hx1 | exact hx1.drew))⟩
      case measure => simp [intOf]; omega
    · obtain rfl : k = xs.length := by omega
      go_wp2
      go_ret
      exact ⟨rfl, HX.out⟩
end Go.Proofs.Ythmnlbgbacbocaa
end
section
namespace Go.Proofs.Ythmnlbgbacbocaa
open Go.RowKit
set_option maxHeartbeats 1600000 in
theorem Equal_any (xs ys : List Int) {lo hi lo' hi' : Nat} {v v' : Value} (w : World) (hm : xs.length ≤ 1048576) (hm' : ys.length ≤ 1048576) (h : K.ints w lo hi v xs) (h' : K.ints w lo' hi' v' ys) :
    Calls Try.prog 99 #[v, v'] w fun e w' => e = .returned (.bool (xs == ys)) ∧ K.Ext w w' := by
  have g1 := h
  obtain ⟨o, cap, rfl, _⟩ := g1
  have g2 := h'
  obtain ⟨o', cap', rfl, _⟩ := g2
  by_cases hl : xs.length = ys.length
  · have HH := Z.hide h
    have HH' := Z.hide h'
    obtain ⟨n, hn⟩ : ∃ n, n = xs.length := ⟨_, rfl⟩
    have hn' : n = ys.length := by omega
    have HN := Z.hide hn
    have HN' := Z.hide hn'
    rw [← hn, ← hn']
    rw [← hn] at hm
    clear h h' hl hn hn' hm'
    go_enter Try.func99, Try.ntmps99
    go_wp2
    go_loopw [13] (fun i wr => ∃ k : Nat, k ≤ n ∧ i = .int .i64 k ∧ Hid (xs.take k = ys.take k) ∧ Hid (K.Ext w wr)) (fun i _ => n - (intOf i).toNat)
    case atStart => exact ⟨0, Nat.zero_le _, rfl, Z.hide rfl, Z.hide (K.Ext.refl _)⟩
    case round =>
      obtain ⟨k, hk, rfl, HT, HX⟩ := hrel
      by_cases hlt : k < n
      · obtain ⟨b, off, ho, _, _, hc⟩ := K.ints_at (n := xs.length) (c := cap) (o := o) (by have h_ := HH.out; exact h_) (by rw [← HN.out]; omega)
        obtain ⟨b', off', ho', _, _, hc'⟩ := K.ints_at (n := ys.length) (c := cap') (o := o') (by have h_ := HH'.out; exact h_) (by rw [← HN'.out]; omega)
        subst ho
        subst ho'
        have hck := HX.out.cell_of (hc k (by rw [← HN.out]; exact hlt))
        have hck' := HX.out.cell_of (hc' k (by rw [← HN'.out]; exact hlt))
        have i0 : (0 : Int) ≤ (k : Int) := Int.natCast_nonneg k
        have i1 : (k : Int) < (n : Int) := by omega
        have HS : Hid (xs.getD k 0 = ys.getD k 0 → xs.take (k + 1) = ys.take (k + 1)) := Z.hide (fun he => by rw [Z.take_succ_get xs k (by rw [← HN.out]; exact hlt), Z.take_succ_get ys k (by rw [← HN'.out]; exact hlt), HT.out, he])
        have HBd : Hid (¬ xs.getD k 0 = ys.getD k 0 → (xs == ys) = false) := Z.hide (fun he => by rw [beq_eq_false_iff_ne]; intro h0; exact he (by rw [h0]))
        clear hc hc'
        generalize xs.getD k 0 = x at *
        generalize ys.getD k 0 = y at *
        by_cases hxy : x = y
        · have HS2 := Z.hide (HS.out hxy)
          subst hxy
          go_wp2_with fail
          refine K.wp_region_ext (by kernel_rfl) (by kernel_rfl) ?_
          apply K.qcons
          · rfl
          · intro w' hw'; have hc := hw'.all.1.1; have hf := hw'.all.1.2; have hc' := hw'.all.2.1; have hf' := hw'.all.2.2; unfold Oper.quietAt; go_simp; first | done | rfl | exact ⟨rfl, rfl⟩
          simp only [Act.put, List.setIfInBounds_toArray, List.set]
          apply K.qcons
          · rfl
          · intro w' hw'; have hc := hw'.all.1.1; have hf := hw'.all.1.2; have hc' := hw'.all.2.1; have hf' := hw'.all.2.2; unfold Oper.quietAt; go_simp; first | done | rfl | exact ⟨rfl, rfl⟩
          simp only [Act.put, List.setIfInBounds_toArray, List.set]
          apply K.qcons
          · rfl
          · intro w' hw'; have hc := hw'.all.1.1; have hf := hw'.all.1.2; have hc' := hw'.all.2.1; have hf' := hw'.all.2.2; unfold Oper.quietAt; go_simp; first | done | rfl | exact ⟨rfl, rfl⟩
          simp only [Act.put, List.setIfInBounds_toArray, List.set]
          apply K.qcons
          · rfl
          · intro w' hw'; have hc := hw'.all.1.1; have hf := hw'.all.1.2; have hc' := hw'.all.2.1; have hf' := hw'.all.2.2; unfold Oper.quietAt; go_simp; first | done | rfl | exact ⟨rfl, rfl⟩
          simp only [Act.put, List.setIfInBounds_toArray, List.set]
          apply K.qcons
          · rfl
          · intro w' hw'; have hc := hw'.all.1.1; have hf := hw'.all.1.2; have hc' := hw'.all.2.1; have hf' := hw'.all.2.2; unfold Oper.quietAt; go_simp; first | done | rfl | exact ⟨rfl, rfl⟩
          simp only [Act.put, List.setIfInBounds_toArray, List.set]
          apply K.qcons
          · rfl
          · intro w' hw'; have hc := hw'.all.1.1; have hf := hw'.all.1.2; have hc' := hw'.all.2.1; have hf' := hw'.all.2.2; unfold Oper.quietAt; go_simp; first | done | rfl | exact ⟨rfl, rfl⟩
          simp only [Act.put, List.setIfInBounds_toArray, List.set]
          apply K.qcons
          · rfl
          · intro w' hw'; have hc := hw'.all.1.1; have hf := hw'.all.1.2; have hc' := hw'.all.2.1; have hf' := hw'.all.2.2; unfold Oper.quietAt; go_simp; first | done | rfl | exact ⟨rfl, rfl⟩
          simp only [Act.put, List.setIfInBounds_toArray, List.set]
          apply K.qcons
          · rfl
          · intro w' hw'; have hc := hw'.all.1.1; have hf := hw'.all.1.2; have hc' := hw'.all.2.1; have hf' := hw'.all.2.2; unfold Oper.quietAt; go_simp; first | done | rfl | exact ⟨rfl, rfl⟩
          simp only [Act.put, List.setIfInBounds_toArray, List.set]
          apply K.qcons
          · rfl
          · intro w' hw'; have hc := hw'.all.1.1; have hf := hw'.all.1.2; have hc' := hw'.all.2.1; have hf' := hw'.all.2.2; unfold Oper.quietAt; go_simp; first | done | exact K.vint (IntWalk.i64_in _ (by omega)) | rfl | exact ⟨rfl, rfl⟩
          simp only [Act.put, List.setIfInBounds_toArray, List.set]
          refine wpQuiet_nil ?_
          intro w1 hx1
          obtain ⟨⟨hcw1, hfw1⟩, hc'w1, hf'w1⟩ := hx1.all
          go_wp2
          go_roundw
          case rel => exact ⟨k + 1, by omega, by go_num, HS2, Z.hide (HX.out.trans (by first | exact hx1 | exact hx1.drew))⟩
          case measure => simp [intOf]; omega
        · have HF := Z.hide (HBd.out hxy)
          have hq : (x == y) = false := by simpa using hxy
          have hq2 : (x != y) = true := by simpa using hxy
          go_wp2_with fail
          refine K.wp_region_ext (by kernel_rfl) (by kernel_rfl) ?_
          apply K.qcons
          · rfl
          · intro w' hw'; have hc := hw'.all.1.1; have hf := hw'.all.1.2; have hc' := hw'.all.2.1; have hf' := hw'.all.2.2; unfold Oper.quietAt; go_simp; first | done | rfl | exact ⟨rfl, rfl⟩
          simp only [Act.put, List.setIfInBounds_toArray, List.set]
          apply K.qcons
          · rfl
          · intro w' hw'; have hc := hw'.all.1.1; have hf := hw'.all.1.2; have hc' := hw'.all.2.1; have hf' := hw'.all.2.2; unfold Oper.quietAt; go_simp; first | done | rfl | exact ⟨rfl, rfl⟩
          simp only [Act.put, List.setIfInBounds_toArray, List.set]
          apply K.qcons
          · rfl
          · intro w' hw'; have hc := hw'.all.1.1; have hf := hw'.all.1.2; have hc' := hw'.all.2.1; have hf' := hw'.all.2.2; unfold Oper.quietAt; go_simp; first | done | rfl | exact ⟨rfl, rfl⟩
          simp only [Act.put, List.setIfInBounds_toArray, List.set]
          apply K.qcons
          · rfl
          · intro w' hw'; have hc := hw'.all.1.1; have hf := hw'.all.1.2; have hc' := hw'.all.2.1; have hf' := hw'.all.2.2; unfold Oper.quietAt; go_simp; first | done | rfl | exact ⟨rfl, rfl⟩
          simp only [Act.put, List.setIfInBounds_toArray, List.set]
          apply K.qcons
          · rfl
          · intro w' hw'; have hc := hw'.all.1.1; have hf := hw'.all.1.2; have hc' := hw'.all.2.1; have hf' := hw'.all.2.2; unfold Oper.quietAt; go_simp; first | done | rfl | exact ⟨rfl, rfl⟩
          simp only [Act.put, List.setIfInBounds_toArray, List.set]
          apply K.qcons
          · rfl
          · intro w' hw'; have hc := hw'.all.1.1; have hf := hw'.all.1.2; have hc' := hw'.all.2.1; have hf' := hw'.all.2.2; unfold Oper.quietAt; go_simp; first | done | rfl | exact ⟨rfl, rfl⟩
          simp only [Act.put, List.setIfInBounds_toArray, List.set]
          apply K.qcons
          · rfl
          · intro w' hw'; have hc := hw'.all.1.1; have hf := hw'.all.1.2; have hc' := hw'.all.2.1; have hf' := hw'.all.2.2; unfold Oper.quietAt; go_simp; first | done | rfl | exact ⟨rfl, rfl⟩
          simp only [Act.put, List.setIfInBounds_toArray, List.set]
          apply K.qcons
          · rfl
          · intro w' hw'; have hc := hw'.all.1.1; have hf := hw'.all.1.2; have hc' := hw'.all.2.1; have hf' := hw'.all.2.2; unfold Oper.quietAt; go_simp; first | done | rfl | exact ⟨rfl, rfl⟩
          simp only [Act.put, List.setIfInBounds_toArray, List.set]
          apply K.qcons
          · rfl
          · intro w' hw'; have hc := hw'.all.1.1; have hf := hw'.all.1.2; have hc' := hw'.all.2.1; have hf' := hw'.all.2.2; unfold Oper.quietAt; go_simp; first | done | exact K.vint (IntWalk.i64_in _ (by omega)) | rfl | exact ⟨rfl, rfl⟩
          simp only [Act.put, List.setIfInBounds_toArray, List.set]
          refine wpQuiet_nil ?_
          intro w1 hx1
          obtain ⟨⟨hcw1, hfw1⟩, hc'w1, hf'w1⟩ := hx1.all
          go_wp2
          go_ret
          exact ⟨K.rb (by rw [HF.out]), HX.out.trans (by first | exact hx1 | exact hx1.drew)⟩
      · obtain rfl : k = n := by omega
        have HF : Hid ((xs == ys) = true) := Z.hide (by
          have h_ := HT.out
          rw [HN.out, List.take_length, ← HN.out, HN'.out, List.take_length] at h_
          rw [h_]; simp)
        go_wp2
        go_ret
        exact ⟨K.rb (by rw [HF.out]), HX.out⟩
  · have HF : Hid ((xs == ys) = false) := Z.hide (by rw [beq_eq_false_iff_ne]; intro h0; exact hl (by rw [h0]))
    have hq : ((xs.length : Int) == (ys.length : Int)) = false := by simp; omega
    have hq2 : ((xs.length : Int) != (ys.length : Int)) = true := by simp; omega
    have hq3 : (xs.length == ys.length) = false := by simpa using hl
    go_enter Try.func99, Try.ntmps99
    go_wp2
    go_ret
    exact ⟨K.rb (by rw [HF.out]), K.Ext.refl _⟩
end Go.Proofs.Ythmnlbgbacbocaa
end
section
namespace Go.Z
def IsFitting (F : Fm) (uss : List (List Int)) (r : List Int) : Bool × Int := if isFormula F && okUnits F uss && isUnit r then (unitK F.pw uss uss.length == r, 0) else (false, 1)
theorem okUnits_parts {F : Fm} {uss : List (List Int)} (h : okUnits F uss = true) : uss.length = F.nm.size ∧ allUnits uss = true := by
  simpa [okUnits] using h
end Go.Z
namespace Go.Proofs.Ythmnlbgbacbocaa
open Go.RowKit
set_option maxHeartbeats 3200000 in
theorem impl_IsFitting (F : Z.Fm) (U : List (List Int)) (r : List Int) {loF hiF : Nat} {pF : Value} {loU hiU : Nat} {pU : Value} {lor hir : Nat} {pr : Value} (w : World)  (hmF : F.pw.length ≤ 1048576) (hnF : F.nm.size ≤ 1048576) (hF : K.ints w loF hiF pF F.pw) (hmU : U.length ≤ 1048576) (hqU : ∀ xs ∈ U, (xs : List Int).length ≤ 1048576) (hU : K.rows w loU hiU pU U) (hmr : r.length ≤ 1048576) (hr : K.ints w lor hir pr r) :
    Calls Try.prog 22 #[.agg #[.int .i64 F.dg, .int .i64 F.tn, .string F.nm, pF], pU, pr] w fun e w' => e = .returned (.tuple #[.bool ((Z.IsFitting F U r).1), .int .i64 ((Z.IsFitting F U r).2)]) ∧ K.Ext w w' := by
  have hF_ := hF
  have shF := hF
  obtain ⟨oF, cF, rfl, _⟩ := shF
  have hU_ := hU
  have shU := hU
  obtain ⟨oU, cU, _, rfl, _⟩ := shU
  have hr_ := hr
  have shr := hr
  obtain ⟨or, cr, rfl, _⟩ := shr
  obtain ⟨t, ht⟩ : ∃ t, t = (Z.isFormula F && Z.okUnits F U) := ⟨_, rfl⟩
  have HA : ∀ {a b c d : Nat} {p v : Value} (w : World), K.ints w a b p F.pw → K.rows w c d v U → Calls Try.prog 89 #[.agg #[.int .i64 F.dg, .int .i64 F.tn, .string F.nm, p], v] w fun e w' => e = .returned (.bool t) ∧ K.Ext w w' := fun w h h' => by rw [ht]; exact areUnits_any F U w hmF hnF h hmU hqU h'
  cases t
  · have HE : Hid (Z.IsFitting F U r = (false, 1)) := Z.hide (by unfold Z.IsFitting; rw [← ht]; rfl)
    clear ht
    have X0 : K.Ext w w := K.Ext.refl w
    go_enter Try.func22, Try.ntmps22
    go_wp2_with (go_at_call 89; refine K.call (by with_reducible rfl) (by with_reducible rfl) (HA _ (K.ints.alloc hF_ _) (K.rows.alloc hU_ _)) ?_; rintro e w1 ⟨rfl, x1⟩; have s1 : w.heap.size + 1 ≤ w1.heap.size := (by have h_ := x1.size; (try simp at h_); omega); have X1 := K.Ext.trans (K.Ext.alloc X0 _) x1; obtain ⟨c1_0_0, c1_0_1, c1_0_2, c1_0_3⟩ := K.c4 x1 (w.heap.size) (.int .i64 F.dg) (.int .i64 F.tn) (.string F.nm) (.slice oF F.pw.length cF) (by go_simp); have z1_0 : w.heap.size < w1.heap.size := World.block_lt_of_cell? w1 _ c1_0_0; have d1_0 : ¬ (w.heap.size = w1.heap.size) := (by omega); have e1_0 : ¬ (w1.heap.size = w.heap.size) := (by omega); have F1_1 := K.ints.ext (K.ints.alloc hF_ _) x1; have F2_1 := K.rows.ext (K.rows.alloc hU_ _) x1; have F3_1 := K.ints.ext (K.ints.alloc hr_ _) x1; clear hF_ hU_ hr_)
    rw [HE.out]
    refine bodyPost_ret (v := .tuple #[.bool false, .int .i64 1]) (by unfold results; rw [Try.results22]; go_simp) rfl ⟨rfl, ?_⟩
    repeat with_reducible refine K.Ext.setCell ?_ (by dsimp only; omega) _
    exact (by repeat' (first | with_reducible exact X1 | with_reducible refine K.Ext.setCell ?_ ?_ _ | with_reducible refine K.Ext.alloc ?_ _ | with_reducible refine K.Ext.drew ?_ | (dsimp only; omega) | omega | (simp; omega)))
  · cases hr : Z.isUnit r
    · have HE : Hid (Z.IsFitting F U r = (false, 1)) := Z.hide (by unfold Z.IsFitting; rw [← ht, hr]; rfl)
      clear ht
      have X0 : K.Ext w w := K.Ext.refl w
      go_enter Try.func22, Try.ntmps22
      go_wp2_with (go_at_call 89; refine K.call (by with_reducible rfl) (by with_reducible rfl) (HA _ (K.ints.alloc hF_ _) (K.rows.alloc hU_ _)) ?_; rintro e w1 ⟨rfl, x1⟩; have s1 : w.heap.size + 1 ≤ w1.heap.size := (by have h_ := x1.size; (try simp at h_); omega); have X1 := K.Ext.trans (K.Ext.alloc X0 _) x1; obtain ⟨c1_0_0, c1_0_1, c1_0_2, c1_0_3⟩ := K.c4 x1 (w.heap.size) (.int .i64 F.dg) (.int .i64 F.tn) (.string F.nm) (.slice oF F.pw.length cF) (by go_simp); have z1_0 : w.heap.size < w1.heap.size := World.block_lt_of_cell? w1 _ c1_0_0; have d1_0 : ¬ (w.heap.size = w1.heap.size) := (by omega); have e1_0 : ¬ (w1.heap.size = w.heap.size) := (by omega); have F1_1 := K.ints.ext (K.ints.alloc hF_ _) x1; have F2_1 := K.rows.ext (K.rows.alloc hU_ _) x1; have F3_1 := K.ints.ext (K.ints.alloc hr_ _) x1; clear hF_ hU_ hr_)
      go_wp2_with (go_at_call 20; refine K.call (by with_reducible rfl) (by with_reducible rfl) (impl_IsUnit r _ _ _ _ hmr (F3_1)) ?_; rintro e w_ ⟨rfl, rfl⟩)
      rw [HE.out]
      refine bodyPost_ret (v := .tuple #[.bool false, .int .i64 1]) (by unfold results; rw [Try.results22]; go_simp) rfl ⟨rfl, ?_⟩
      repeat with_reducible refine K.Ext.setCell ?_ (by dsimp only; omega) _
      exact (by repeat' (first | with_reducible exact X1 | with_reducible refine K.Ext.setCell ?_ ?_ _ | with_reducible refine K.Ext.alloc ?_ _ | with_reducible refine K.Ext.drew ?_ | (dsimp only; omega) | omega | (simp; omega)))
    · obtain ⟨k, hk⟩ : ∃ k, k = Z.unitK F.pw U U.length := ⟨_, rfl⟩
      have HE : Hid (Z.IsFitting F U r = (k == r, 0)) := Z.hide (by unfold Z.IsFitting; rw [← ht, hr, hk]; rfl)
      have h3 : Z.isFormula F = true ∧ Z.okUnits F U = true := by simpa using ht.symm
      have HK : ∀ {a b c d : Nat} {p v : Value} (w : World), K.ints w a b p F.pw → K.rows w c d v U → Calls Try.prog 90 #[.agg #[.int .i64 F.dg, .int .i64 F.tn, .string F.nm, p], v] w fun e w' => (∃ r, e = .returned r ∧ K.own w' w.heap.size w'.heap.size r k) ∧ K.Ext w w' := fun w h h' => by
        rw [hk]; exact unitOf_any F U w h3.1 (Z.okUnits_parts h3.2).1 (Z.okUnits_parts h3.2).2 h h'
      have hkl : k.length ≤ 1048576 := by rw [hk, Z.unitK_length]; decide
      clear ht hk h3
      have X0 : K.Ext w w := K.Ext.refl w
      go_enter Try.func22, Try.ntmps22
      go_wp2_with (go_at_call 89; refine K.call (by with_reducible rfl) (by with_reducible rfl) (HA _ (K.ints.alloc hF_ _) (K.rows.alloc hU_ _)) ?_; rintro e w1 ⟨rfl, x1⟩; have s1 : w.heap.size + 1 ≤ w1.heap.size := (by have h_ := x1.size; (try simp at h_); omega); have X1 := K.Ext.trans (K.Ext.alloc X0 _) x1; obtain ⟨c1_0_0, c1_0_1, c1_0_2, c1_0_3⟩ := K.c4 x1 (w.heap.size) (.int .i64 F.dg) (.int .i64 F.tn) (.string F.nm) (.slice oF F.pw.length cF) (by go_simp); have z1_0 : w.heap.size < w1.heap.size := World.block_lt_of_cell? w1 _ c1_0_0; have d1_0 : ¬ (w.heap.size = w1.heap.size) := (by omega); have e1_0 : ¬ (w1.heap.size = w.heap.size) := (by omega); have F1_1 := K.ints.ext (K.ints.alloc hF_ _) x1; have F2_1 := K.rows.ext (K.rows.alloc hU_ _) x1; have F3_1 := K.ints.ext (K.ints.alloc hr_ _) x1; clear hF_ hU_ hr_)
      go_wp2_with (go_at_call 20; refine K.call (by with_reducible rfl) (by with_reducible rfl) (impl_IsUnit r _ _ _ _ hmr (F3_1)) ?_; rintro e w_ ⟨rfl, rfl⟩)
      go_wp2_with (go_at_call 90; refine K.call (by with_reducible rfl) (by with_reducible rfl) (HK _ (F1_1) (F2_1)) ?_; rintro e w3 ⟨⟨p3, rfl, g3⟩, x3⟩; obtain ⟨o3, k3, rfl, _⟩ := K.own.ints g3; have F4_3 : K.own w3 (w1.heap.size) (w3.heap.size) (.slice o3 k.length k3) (k) := g3.mono (by simp) (Nat.le_refl _); clear g3; have s3 : w1.heap.size ≤ w3.heap.size := (by have h_ := x3.size; (try simp at h_); omega); have X3 := K.Ext.trans (X1) x3; obtain ⟨c3_0_0, c3_0_1, c3_0_2, c3_0_3⟩ := K.c4 x3 (w.heap.size) (.int .i64 F.dg) (.int .i64 F.tn) (.string F.nm) (.slice oF F.pw.length cF) (by go_simp); have z3_0 : w.heap.size < w3.heap.size := World.block_lt_of_cell? w3 _ c3_0_0; have d3_0 : ¬ (w.heap.size = w3.heap.size) := (by omega); have e3_0 : ¬ (w3.heap.size = w.heap.size) := (by omega); have F1_3 := K.ints.ext (F1_1) x3; have F2_3 := K.rows.ext (F2_1) x3; have F3_3 := K.ints.ext (F3_1) x3; clear c1_0_0 c1_0_1 c1_0_2 c1_0_3 z1_0 d1_0 e1_0 F1_1 F2_1 F3_1)
      go_wp2_with (go_at_call 99; refine K.call (by with_reducible rfl) (by with_reducible rfl) (Equal_any k r _ hkl hmr (K.own.ints (F4_3)) (F3_3)) ?_; rintro e w4 ⟨rfl, x4⟩; have s4 : w3.heap.size ≤ w4.heap.size := (by have h_ := x4.size; (try simp at h_); omega); have X4 := K.Ext.trans (X3) x4; obtain ⟨c4_0_0, c4_0_1, c4_0_2, c4_0_3⟩ := K.c4 x4 (w.heap.size) (.int .i64 F.dg) (.int .i64 F.tn) (.string F.nm) (.slice oF F.pw.length cF) (by go_simp); have z4_0 : w.heap.size < w4.heap.size := World.block_lt_of_cell? w4 _ c4_0_0; have d4_0 : ¬ (w.heap.size = w4.heap.size) := (by omega); have e4_0 : ¬ (w4.heap.size = w.heap.size) := (by omega); have F1_4 := K.ints.ext (F1_3) x4; have F2_4 := K.rows.ext (F2_3) x4; have F3_4 := K.ints.ext (F3_3) x4; have F4_4 := K.own.ext (F4_3) x4; clear c3_0_0 c3_0_1 c3_0_2 c3_0_3 z3_0 d3_0 e3_0 F1_3 F2_3 F3_3 F4_3)
      rw [HE.out]
      refine bodyPost_ret (v := .tuple #[.bool (k == r), .int .i64 0]) (by unfold results; rw [Try.results22]; go_simp) rfl ⟨rfl, ?_⟩
      repeat with_reducible refine K.Ext.setCell ?_ (by dsimp only; omega) _
      exact (by repeat' (first | with_reducible exact X4 | with_reducible refine K.Ext.setCell ?_ ?_ _ | with_reducible refine K.Ext.alloc ?_ _ | with_reducible refine K.Ext.drew ?_ | (dsimp only; omega) | omega | (simp; omega)))
end Go.Proofs.Ythmnlbgbacbocaa
end
section
namespace Go.Z
/-- what is left for the missing unit -/
def restOf (F : Fm) (uss : List (List Int)) (ix : Nat) (r : List Int) : List Int := addN (addN r (unitK F.pw uss uss.length) (-1)) (uss.getD ix []) (F.pw.getD ix 0)
def missK (rest : List Int) (n : Int) : Nat → Option (List Int)
  | 0 => some []
  | k + 1 => match missK rest n k with
    | none => none
    | some l => if (rest.getD k 0).tmod n = 0 then some (l ++ [(rest.getD k 0).tdiv n]) else none
def missOr (r : Option (List Int)) : List Int × Int := match r with
  | some l => unitOr l
  | none => ([], 4)
def MissingUnit (F : Fm) (uss : List (List Int)) (ix : Int) (r : List Int) : List Int × Int :=
  if isFormula F && okUnits F uss && isUnit r then (if 0 ≤ ix ∧ ix ≤ (uss.length : Int) - 1 then missOr (missK (restOf F uss ix.toNat r) (F.pw.getD ix.toNat 0) 4) else ([], 2)) else ([], 1)
theorem missK_length {rest : List Int} {n : Int} (k : Nat) {l : List Int} (h : missK rest n k = some l) : l.length = k := by
  induction k generalizing l with
  | zero => simp only [missK, Option.some.injEq] at h; subst h; rfl
  | succ k ih =>
    simp only [missK] at h
    split at h
    · cases h
    · rename_i l' hl'
      split at h
      · simp only [Option.some.injEq] at h; subst h; simp [ih hl']
      · cases h
theorem missK_none {rest : List Int} {n : Int} {k : Nat} (h : missK rest n k = none) (m : Nat) : missK rest n (k + m) = none := by
  induction m with
  | zero => exact h
  | succ m ih => rw [← Nat.add_assoc]; simp only [missK]; rw [ih]
theorem missK_bad {rest : List Int} {n : Int} {k m : Nat} {l : List Int} (hk : k < m) (h : missK rest n k = some l) (hb : ¬ (rest.getD k 0).tmod n = 0) : missK rest n m = none := by
  have h1 : missK rest n (k + 1) = none := by simp only [missK]; rw [h]; simp only [if_neg hb]
  have h2 := missK_none h1 (m - (k + 1))
  rwa [show k + 1 + (m - (k + 1)) = m from by omega] at h2
theorem missK_step {rest : List Int} {n : Int} {k : Nat} {l : List Int} (h : missK rest n k = some l) (hb : (rest.getD k 0).tmod n = 0) : missK rest n (k + 1) = some (l ++ [(rest.getD k 0).tdiv n]) := by
  simp only [missK]; rw [h]; simp only [if_pos hb]
theorem MissingUnit_le (F : Fm) (uss : List (List Int)) (ix : Int) (r : List Int) : (MissingUnit F uss ix r).1.length ≤ 1048576 := by
  unfold MissingUnit; split
  · split
    · cases missK (restOf F uss ix.toNat r) (F.pw.getD ix.toNat 0) 4 with
      | none => simp [missOr]
      | some l => exact Nat.le_trans (unitOr_len _) (by decide)
    · simp
  · simp
/-- the parts of what is left -/
theorem rest_get {F : Fm} {uss : List (List Int)} {ix : Nat} {r : List Int} (hr : isUnit r = true) (k : Nat) (hk : k < 4) : (restOf F uss ix r).getD k 0 = (r.getD k 0 + -1 * (unitK F.pw uss uss.length).getD k 0) + F.pw.getD ix 0 * (uss.getD ix []).getD k 0 := by
  have h4 := isUnit_len hr
  unfold restOf
  rw [addN_get _ _ _ _ (by rw [addN_length, h4]; exact hk), addN_get _ _ _ _ (by rw [h4]; exact hk)]
theorem formula_pw {F : Fm} (h : isFormula F = true) (i : Nat) (hi : i < F.nm.size) : F.pw.getD i 0 ≠ 0 ∧ -6 ≤ F.pw.getD i 0 ∧ F.pw.getD i 0 ≤ 6 := by
  have h1 := okAt_parts (valid_at h i hi)
  exact ⟨h1.2.2.2.1, h1.2.2.2.2.1, h1.2.2.2.2.2⟩
theorem units_bd {F : Fm} {uss : List (List Int)} (hF : isFormula F = true) (hU : okUnits F uss = true) (k : Nat) (hk : k < 4) : -324 ≤ (unitK F.pw uss uss.length).getD k 0 ∧ (unitK F.pw uss uss.length).getD k 0 ≤ 324 := by
  obtain ⟨h1, h2⟩ := okUnits_len hU
  have h6 := (isFormula_len hF).2
  have hu : ∀ j (hj : j < uss.length), isUnit (uss[j]'hj) = true := fun j hj => by
    unfold allUnits at h2; rw [List.all_eq_true] at h2; exact h2 _ (List.getElem_mem hj)
  have h := unitK_bd hu (fun j hj => (formula_pw hF j (by omega)).2) uss.length (Nat.le_refl _) k hk
  omega
theorem units_at {F : Fm} {uss : List (List Int)} (hU : okUnits F uss = true) (i : Nat) (hi : i < uss.length) : isUnit (uss.getD i []) = true := by
  obtain ⟨h1, h2⟩ := okUnits_len hU
  have e : uss.getD i [] = uss[i] := by simp [List.getD_eq_getElem?_getD, hi]
  rw [e]; unfold allUnits at h2; rw [List.all_eq_true] at h2; exact h2 _ (List.getElem_mem hi)
end Go.Z
namespace Go.K
open Go.RowKit
def SP.intsA (xs : List Int) : SP := ⟨fun v w => ∃ lo hi, K.ints w lo hi v xs, fun _ _ _ hx ⟨lo, hi, h⟩ => ⟨lo, hi, h.ext hx⟩⟩
theorem SP.intsA_at {xs : List Int} {v : Value} {w : World} (h : (SP.intsA xs).p v w) : ∃ lo hi, K.ints w lo hi v xs := h
theorem SP.own_at {B : Nat} {xs : List Int} {v : Value} {w : World} (h : (SP.own B xs).p v w) : ∃ hi, B ≤ hi ∧ hi ≤ w.heap.size ∧ K.own w B hi v xs := h
end Go.K
namespace Go.Proofs.Ythmnlbgbacbocaa
open Go.RowKit
attribute [local go_sem ↓] Go.wp_at_zero Go.wp_at_succ
set_option maxRecDepth 100000 in
set_option maxHeartbeats 6400000 in
theorem impl_MissingUnit (F : Z.Fm) (U : List (List Int)) (ix : Int) (r : List Int) {loF hiF : Nat} {pF : Value} {loU hiU : Nat} {pU : Value} {lor hir : Nat} {pr : Value} (w : World)  (hmF : F.pw.length ≤ 1048576) (hnF : F.nm.size ≤ 1048576) (hF : K.ints w loF hiF pF F.pw) (hmU : U.length ≤ 1048576) (hqU : ∀ xs ∈ U, (xs : List Int).length ≤ 1048576) (hU : K.rows w loU hiU pU U) (hmr : r.length ≤ 1048576) (hr : K.ints w lor hir pr r) :
    Calls Try.prog 17 #[.agg #[.int .i64 F.dg, .int .i64 F.tn, .string F.nm, pF], pU, .int .i64 ix, pr] w fun e w' => (∃ p', e = .returned (.tuple #[p', .int .i64 ((Z.MissingUnit F U ix r).2)]) ∧ K.own w' w.heap.size w'.heap.size p' ((Z.MissingUnit F U ix r).1)) ∧ K.Ext w w' := by
  have hF_ := hF
  have shF := hF
  obtain ⟨oF, cF, rfl, _⟩ := shF
  have hU_ := hU
  have shU := hU
  obtain ⟨oU, cU, _, rfl, _⟩ := shU
  have hr_ := hr
  have shr := hr
  obtain ⟨or, cr, rfl, _⟩ := shr
  obtain ⟨t, ht⟩ : ∃ t, t = (Z.isFormula F && Z.okUnits F U) := ⟨_, rfl⟩
  have HA : ∀ {a b c d : Nat} {p v : Value} (w : World), K.ints w a b p F.pw → K.rows w c d v U → Calls Try.prog 89 #[.agg #[.int .i64 F.dg, .int .i64 F.tn, .string F.nm, p], v] w fun e w' => e = .returned (.bool t) ∧ K.Ext w w' := fun w h h' => by rw [ht]; exact areUnits_any F U w hmF hnF h hmU hqU h'
  cases t
  · have HE : Hid (Z.MissingUnit F U ix r = ([], 1)) := Z.hide (by unfold Z.MissingUnit; rw [← ht]; rfl)
    clear ht
    have X0 : K.Ext w w := K.Ext.refl w
    go_enter Try.func17, Try.ntmps17
    go_wp2_with (go_at_call 89; refine K.call (by with_reducible rfl) (by with_reducible rfl) (HA _ (K.ints.alloc hF_ _) (K.rows.alloc hU_ _)) ?_; rintro e w1 ⟨rfl, x1⟩; have s1 : w.heap.size + 1 ≤ w1.heap.size := (by have h_ := x1.size; (try simp at h_); omega); have X1 := K.Ext.trans (K.Ext.alloc X0 _) x1; obtain ⟨c1_0_0, c1_0_1, c1_0_2, c1_0_3⟩ := K.c4 x1 (w.heap.size) (.int .i64 F.dg) (.int .i64 F.tn) (.string F.nm) (.slice oF F.pw.length cF) (by go_simp); have z1_0 : w.heap.size < w1.heap.size := World.block_lt_of_cell? w1 _ c1_0_0; have d1_0 : ¬ (w.heap.size = w1.heap.size) := (by omega); have e1_0 : ¬ (w1.heap.size = w.heap.size) := (by omega); have F1_1 := K.ints.ext (K.ints.alloc hF_ _) x1; have F2_1 := K.rows.ext (K.rows.alloc hU_ _) x1; have F3_1 := K.ints.ext (K.ints.alloc hr_ _) x1; clear hF_ hU_ hr_)
    rw [HE.out]
    refine bodyPost_ret (v := .tuple #[.slice none 0 0, .int .i64 1]) (by unfold results; rw [Try.results17]; go_simp) rfl ⟨⟨_, rfl, ?_⟩, ?_⟩
    · exact K.own_nil _ _ _
    · repeat with_reducible refine K.Ext.setCell ?_ (by dsimp only; omega) _
      exact (by repeat' (first | with_reducible exact X1 | with_reducible refine K.Ext.setCell ?_ ?_ _ | with_reducible refine K.Ext.alloc ?_ _ | with_reducible refine K.Ext.drew ?_ | (dsimp only; omega) | omega | (simp; omega)))
  cases vr : Z.isUnit r
  · have HE : Hid (Z.MissingUnit F U ix r = ([], 1)) := Z.hide (by unfold Z.MissingUnit; rw [← ht, vr]; rfl)
    clear ht
    have X0 : K.Ext w w := K.Ext.refl w
    go_enter Try.func17, Try.ntmps17
    go_wp2_with (go_at_call 89; refine K.call (by with_reducible rfl) (by with_reducible rfl) (HA _ (K.ints.alloc hF_ _) (K.rows.alloc hU_ _)) ?_; rintro e w1 ⟨rfl, x1⟩; have s1 : w.heap.size + 1 ≤ w1.heap.size := (by have h_ := x1.size; (try simp at h_); omega); have X1 := K.Ext.trans (K.Ext.alloc X0 _) x1; obtain ⟨c1_0_0, c1_0_1, c1_0_2, c1_0_3⟩ := K.c4 x1 (w.heap.size) (.int .i64 F.dg) (.int .i64 F.tn) (.string F.nm) (.slice oF F.pw.length cF) (by go_simp); have z1_0 : w.heap.size < w1.heap.size := World.block_lt_of_cell? w1 _ c1_0_0; have d1_0 : ¬ (w.heap.size = w1.heap.size) := (by omega); have e1_0 : ¬ (w1.heap.size = w.heap.size) := (by omega); have F1_1 := K.ints.ext (K.ints.alloc hF_ _) x1; have F2_1 := K.rows.ext (K.rows.alloc hU_ _) x1; have F3_1 := K.ints.ext (K.ints.alloc hr_ _) x1; clear hF_ hU_ hr_)
    go_wp2_with (go_at_call 20; refine K.call (by with_reducible rfl) (by with_reducible rfl) (impl_IsUnit r _ _ _ _ hmr (F3_1)) ?_; rintro e w_ ⟨rfl, rfl⟩)
    rw [HE.out]
    refine bodyPost_ret (v := .tuple #[.slice none 0 0, .int .i64 1]) (by unfold results; rw [Try.results17]; go_simp) rfl ⟨⟨_, rfl, ?_⟩, ?_⟩
    · exact K.own_nil _ _ _
    · repeat with_reducible refine K.Ext.setCell ?_ (by dsimp only; omega) _
      exact (by repeat' (first | with_reducible exact X1 | with_reducible refine K.Ext.setCell ?_ ?_ _ | with_reducible refine K.Ext.alloc ?_ _ | with_reducible refine K.Ext.drew ?_ | (dsimp only; omega) | omega | (simp; omega)))
  have h3 : Z.isFormula F = true ∧ Z.okUnits F U = true := by simpa using ht.symm
  obtain ⟨vF, vU⟩ := h3
  have hUl := (Z.okUnits_len vU).1
  by_cases hix : 0 ≤ ix ∧ ix ≤ (U.length : Int) - 1
  case neg =>
    have HE : Hid (Z.MissingUnit F U ix r = ([], 2)) := Z.hide (by unfold Z.MissingUnit; rw [← ht, vr, Bool.true_and, if_pos rfl, if_neg hix])
    have hwi : (decide (0 ≤ ix) && decide (ix ≤ (U.length : Int) - 1)) = false := by rw [Bool.and_eq_false_iff]; simp only [decide_eq_false_iff_not]; omega
    have HW : ∀ w : World, Calls Try.prog 95 #[.int .i64 ix, .int .i64 0, .int .i64 ((U.length : Int) - 1)] w fun e w' => e = .returned (.bool false) ∧ w = w' := fun w => by rw [← hwi]; exact within_any _ _ _ _
    clear ht hwi hix hUl vF vU
    have X0 : K.Ext w w := K.Ext.refl w
    go_enter Try.func17, Try.ntmps17
    go_wp2_with (go_at_call 89; refine K.call (by with_reducible rfl) (by with_reducible rfl) (HA _ (K.ints.alloc hF_ _) (K.rows.alloc hU_ _)) ?_; rintro e w1 ⟨rfl, x1⟩; have s1 : w.heap.size + 1 ≤ w1.heap.size := (by have h_ := x1.size; (try simp at h_); omega); have X1 := K.Ext.trans (K.Ext.alloc X0 _) x1; obtain ⟨c1_0_0, c1_0_1, c1_0_2, c1_0_3⟩ := K.c4 x1 (w.heap.size) (.int .i64 F.dg) (.int .i64 F.tn) (.string F.nm) (.slice oF F.pw.length cF) (by go_simp); have z1_0 : w.heap.size < w1.heap.size := World.block_lt_of_cell? w1 _ c1_0_0; have d1_0 : ¬ (w.heap.size = w1.heap.size) := (by omega); have e1_0 : ¬ (w1.heap.size = w.heap.size) := (by omega); have F1_1 := K.ints.ext (K.ints.alloc hF_ _) x1; have F2_1 := K.rows.ext (K.rows.alloc hU_ _) x1; have F3_1 := K.ints.ext (K.ints.alloc hr_ _) x1; clear hF_ hU_ hr_)
    go_wp2_with (go_at_call 20; refine K.call (by with_reducible rfl) (by with_reducible rfl) (impl_IsUnit r _ _ _ _ hmr (F3_1)) ?_; rintro e w_ ⟨rfl, rfl⟩)
    go_wp2_with (go_at_call 95; refine K.call (by with_reducible rfl) (by with_reducible rfl) (HW _) ?_; rintro e w_ ⟨rfl, rfl⟩)
    rw [HE.out]
    refine bodyPost_ret (v := .tuple #[.slice none 0 0, .int .i64 2]) (by unfold results; rw [Try.results17]; go_simp) rfl ⟨⟨_, rfl, ?_⟩, ?_⟩
    · exact K.own_nil _ _ _
    · repeat with_reducible refine K.Ext.setCell ?_ (by dsimp only; omega) _
      exact (by repeat' (first | with_reducible exact X1 | with_reducible refine K.Ext.setCell ?_ ?_ _ | with_reducible refine K.Ext.alloc ?_ _ | with_reducible refine K.Ext.drew ?_ | (dsimp only; omega) | omega | (simp; omega)))
  obtain ⟨i, rfl⟩ : ∃ i : Nat, ix = (i : Int) := ⟨ix.toNat, by omega⟩
  have hiU : i < U.length := by omega
  have hiF : i < F.nm.size := by omega
  have hwi : (decide (0 ≤ (i : Int)) && decide ((i : Int) ≤ (U.length : Int) - 1)) = true := by rw [Bool.and_eq_true]; simp only [decide_eq_true_eq]; omega
  have HW : Hid (∀ w : World, Calls Try.prog 95 #[.int .i64 (i : Int), .int .i64 0, .int .i64 ((U.length : Int) - 1)] w fun e w' => e = .returned (.bool true) ∧ w = w') := Z.hide (fun w => by rw [← hwi]; exact within_any _ _ _ _)
  obtain ⟨all, hall⟩ : ∃ k, k = Z.unitK F.pw U U.length := ⟨_, rfl⟩
  obtain ⟨n, hn⟩ : ∃ n, n = F.pw.getD i 0 := ⟨_, rfl⟩
  obtain ⟨u, hu⟩ : ∃ u, u = U.getD i [] := ⟨_, rfl⟩
  obtain ⟨rest, hrest⟩ : ∃ l, l = Z.restOf F U i r := ⟨_, rfl⟩
  have HE : Hid (Z.MissingUnit F U (i : Int) r = Z.missOr (Z.missK rest n 4)) := Z.hide (by unfold Z.MissingUnit; rw [← ht, vr, Bool.true_and, if_pos rfl, if_pos hix, Int.toNat_natCast, ← hrest, ← hn])
  have HG : Hid (∀ k, k < 4 → rest.getD k 0 = (r.getD k 0 + -1 * all.getD k 0) + n * u.getD k 0) := Z.hide (fun k hk => by rw [hrest, Z.rest_get vr k hk, ← hall, ← hn, ← hu])
  have HBr := Z.hide (Z.isUnit_bd9 vr)
  have hr4 := Z.isUnit_len vr
  have HBa : Hid (∀ k, k < 4 → -324 ≤ all.getD k 0 ∧ all.getD k 0 ≤ 324) := Z.hide (fun k hk => by rw [hall]; exact Z.units_bd vF vU k hk)
  have hall4 : all.length = 4 := by rw [hall]; exact Z.unitK_length _ _ _
  have hUu : Z.isUnit u = true := by rw [hu]; exact Z.units_at vU i hiU
  have HBu := Z.hide (Z.isUnit_bd9 hUu)
  have hu4 := Z.isUnit_len hUu
  obtain ⟨hn0, hn1, hn2⟩ : n ≠ 0 ∧ -6 ≤ n ∧ n ≤ 6 := by rw [hn]; exact Z.formula_pw vF i hiF
  have HK : Hid (∀ {a b c d : Nat} {p v : Value} (w : World), K.ints w a b p F.pw → K.rows w c d v U → Calls Try.prog 90 #[.agg #[.int .i64 F.dg, .int .i64 F.tn, .string F.nm, p], v] w fun e w' => (∃ r, e = .returned r ∧ K.own w' w.heap.size w'.heap.size r all) ∧ K.Ext w w') := Z.hide (fun w h h' => by rw [hall]; exact unitOf_any F U w vF (Z.okUnits_len vU).1 (Z.okUnits_len vU).2 h h')
  have hpl := (Z.isFormula_len vF).1
  have HAA : Hid (∀ w' : World, K.Ext w w' → Calls Try.prog 89 #[.agg #[.int .i64 F.dg, .int .i64 F.tn, .string F.nm, .slice oF F.pw.length cF], .slice oU U.length cU] w' fun e w'' => e = .returned (.bool true) ∧ K.Ext w' w'') := Z.hide (fun w' hx => HA w' (hF.ext hx) (hU.ext hx))
  have HIU : Hid (∀ w' : World, K.Ext w w' → Calls Try.prog 20 #[.slice or r.length cr] w' fun e w'' => e = .returned (.bool true) ∧ w' = w'') := Z.hide (fun w' hx => by have h_ := impl_IsUnit r _ _ _ w' hmr (hr.ext hx); rwa [vr] at h_)
  obtain ⟨b, off, hoF, _, _, hc⟩ := K.ints_at hF (by omega)
  have p0 : w.cell? ⟨b, off + i, none⟩ = some (.int .i64 n) := by rw [hn]; exact hc i (by omega)
  obtain ⟨bU, offU, uv, hoU, _, _, hcU, hiU2⟩ := K.rows_at hU i hiU
  have eu : U[i]'hiU = u := by rw [hu]; simp [List.getD_eq_getElem?_getD, hiU]
  rw [eu] at hiU2
  have hiU3 := hiU2
  obtain ⟨ou, cu, rfl, _⟩ := hiU3
  obtain ⟨bu, offu, hou, _, _, hcu⟩ := K.ints_at hiU2 (by omega)
  obtain ⟨br, offr, hor, _, _, hcr⟩ := K.ints_at hr (by omega)
  obtain ⟨it0, hi0, hz0, hz1, hz2⟩ := info_parts info_int
  have HFw := Z.hide hF
  have HUw := Z.hide hU
  have HCU := Z.hide hcu
  have HCR := Z.hide hcr
  have HRR := Z.hide hr4
  have i0 : (0 : Int) ≤ (i : Int) := Int.natCast_nonneg i
  have i1 : (i : Int) < (U.length : Int) := by omega
  have i2 : (i : Int) < (F.pw.length : Int) := by omega
  have H4 := Z.hide hall4
  have HU4 := Z.hide hu4
  subst hoF hoU hou hor
  have lb := World.block_lt_of_cell? w _ p0
  have lbU := World.block_lt_of_cell? w _ hcU
  clear hr4 hu4 hF hU hr ht hc hcu hcr hiU2 HA vF vU vr hUl hix hwi hu hn hrest hall hall4 hUu eu hpl
  go_enter Try.func17, Try.ntmps17
  go_wp2_with (first | ((go_at_call 89; refine K.call (by with_reducible rfl) (by with_reducible rfl) (HAA.out _ (by repeat' (first | with_reducible exact K.Ext.refl _ | with_reducible assumption | with_reducible refine K.Ext.drew ?_ | with_reducible refine K.Ext.alloc ?_ _ | with_reducible refine K.Ext.setCell ?_ ?_ _ | with_reducible refine K.Ext.trans ?_ (by with_reducible assumption) | (dsimp only; omega) | omega | exact K.Ext.refl _ | assumption | apply K.Ext.drew | refine K.Ext.alloc ?_ _ | refine K.Ext.setCell ?_ ?_ _ | (simp; done) | (simp; omega) | refine K.Ext.trans ?_ (by assumption)))) ?_; rintro e wa ⟨rfl, hwa⟩); have X1 := K.Ext.trans (show K.Ext w _ from (by repeat' (first | with_reducible exact K.Ext.refl _ | with_reducible assumption | with_reducible refine K.Ext.drew ?_ | with_reducible refine K.Ext.alloc ?_ _ | with_reducible refine K.Ext.setCell ?_ ?_ _ | with_reducible refine K.Ext.trans ?_ (by with_reducible assumption) | (dsimp only; omega) | omega | exact K.Ext.refl _ | assumption | apply K.Ext.drew | refine K.Ext.alloc ?_ _ | refine K.Ext.setCell ?_ ?_ _ | (simp; done) | (simp; omega) | refine K.Ext.trans ?_ (by assumption)))) hwa; have c_wa_0_0 : wa.cell? ⟨w.heap.size, 0, none⟩ = some (.int .i64 (F.dg)) := hwa.cell_of (by go_simp); have f_wa_0_0 : wa.frozen? ⟨w.heap.size, 0, none⟩ = false := hwa.thaw_of (by go_simp) (by go_simp); have c_wa_0_1 : wa.cell? ⟨w.heap.size, 1, none⟩ = some (.int .i64 (F.tn)) := hwa.cell_of (by go_simp); have f_wa_0_1 : wa.frozen? ⟨w.heap.size, 1, none⟩ = false := hwa.thaw_of (by go_simp) (by go_simp); have c_wa_0_2 : wa.cell? ⟨w.heap.size, 2, none⟩ = some (.string F.nm) := hwa.cell_of (by go_simp); have f_wa_0_2 : wa.frozen? ⟨w.heap.size, 2, none⟩ = false := hwa.thaw_of (by go_simp) (by go_simp); have c_wa_0_3 : wa.cell? ⟨w.heap.size, 3, none⟩ = some (.slice (some ⟨b, off, none⟩) F.pw.length cF) := hwa.cell_of (by go_simp); have f_wa_0_3 : wa.frozen? ⟨w.heap.size, 3, none⟩ = false := hwa.thaw_of (by go_simp) (by go_simp); have z1 := hwa.size; simp at z1) | (go_at_call 20; refine K.call (by with_reducible rfl) (by with_reducible rfl) (HIU.out _ X1) ?_; rintro e w' ⟨rfl, rfl⟩) | (go_at_call 95; refine K.call (by with_reducible rfl) (by with_reducible rfl) (HW.out _) ?_; rintro e w' ⟨rfl, rfl⟩) | ((go_at_call 90; refine K.call (by with_reducible rfl) (by with_reducible rfl) (HK.out _ (HFw.out.ext X1) (HUw.out.ext X1)) ?_; rintro e wb ⟨⟨p2, rfl, g2⟩, hwb⟩); have g2' := g2; obtain ⟨o2, c2, rfl, _⟩ := K.own.ints g2'; have X2 := X1.trans hwb; have c_wb_0_0 : wb.cell? ⟨w.heap.size, 0, none⟩ = some (.int .i64 (F.dg)) := hwb.cell_of (by go_simp); have f_wb_0_0 : wb.frozen? ⟨w.heap.size, 0, none⟩ = false := hwb.thaw_of (by go_simp) (by go_simp); have c_wb_0_1 : wb.cell? ⟨w.heap.size, 1, none⟩ = some (.int .i64 (F.tn)) := hwb.cell_of (by go_simp); have f_wb_0_1 : wb.frozen? ⟨w.heap.size, 1, none⟩ = false := hwb.thaw_of (by go_simp) (by go_simp); have c_wb_0_2 : wb.cell? ⟨w.heap.size, 2, none⟩ = some (.string F.nm) := hwb.cell_of (by go_simp); have f_wb_0_2 : wb.frozen? ⟨w.heap.size, 2, none⟩ = false := hwb.thaw_of (by go_simp) (by go_simp); have c_wb_0_3 : wb.cell? ⟨w.heap.size, 3, none⟩ = some (.slice (some ⟨b, off, none⟩) F.pw.length cF) := hwb.cell_of (by go_simp); have f_wb_0_3 : wb.frozen? ⟨w.heap.size, 3, none⟩ = false := hwb.thaw_of (by go_simp) (by go_simp); have z2 := hwb.size; have p1 := X2.cell_of p0))
  obtain ⟨ba, offa, hoa, _, _, hca⟩ := K.ints_at (K.own.ints g2) (by rw [H4.out]; decide)
  subst hoa
  have HCA := Z.hide hca
  have HX2 := Z.hide X2
  have HCUo := Z.hide hcU
  clear hwa hwb X1 X2 g2 g2' hca hcU HAA HIU HW HK HFw HUw
  go_loopw [12, 44] (fun out jj wr => ∃ k : Nat, k ≤ r.length ∧ jj = .int .i64 k ∧ Hid (∃ l, Z.missK rest n k = some l ∧ wr.ownsRow wb.heap.size 2 1 out k (l.map (Value.int .i64))) ∧ Hid (K.Ext wb wr)) (fun _ jj _ => r.length - (intOf jj).toNat)
  case atStart => exact ⟨0, Nat.zero_le _, rfl, Z.hide ⟨[], rfl, World.ownsRow_lit wb #[] 0 (Nat.le_refl _) (by decide) rfl⟩, Z.hide ((K.Ext.refl _).alloc _)⟩
  case round =>
    obtain ⟨k, hk, rfl, HS, HX⟩ := hrel
    obtain ⟨l, hl, ho⟩ := HS.out
    have HL := Z.hide hl
    have HO := Z.hide ho
    clear HS hl ho
    have k0 : (0 : Int) ≤ (k : Int) := Int.natCast_nonneg k
    have lw := HX.out.size
    by_cases hlt : k < r.length
    · have k1 : (k : Int) < (r.length : Int) := by omega
      have hk4 : k < 4 := by rw [← HRR.out]; exact hlt
      have k2 : (k : Int) < (all.length : Int) := by rw [H4.out]; omega
      have k3 : (k : Int) < (u.length : Int) := by rw [HU4.out]; omega
      have cr : wr.cell? ⟨br, offr + k, none⟩ = some (.int .i64 (r.getD k 0)) := HX.out.cell_of (HX2.out.cell_of (HCR.out k hlt))
      have ca : wr.cell? ⟨ba, offa + k, none⟩ = some (.int .i64 (all.getD k 0)) := HX.out.cell_of (HCA.out k (by rw [H4.out]; exact hk4))
      have cu_ : wr.cell? ⟨bu, offu + k, none⟩ = some (.int .i64 (u.getD k 0)) := HX.out.cell_of (HX2.out.cell_of (HCU.out k (by rw [HU4.out]; exact hk4)))
      have cU : wr.cell? ⟨bU, offU + i, none⟩ = some (.slice (some ⟨bu, offu, none⟩) u.length cu) := HX.out.cell_of (HX2.out.cell_of HCUo.out)
      obtain ⟨a1, a2⟩ := HBr.out k hlt
      obtain ⟨a3, a4⟩ := HBa.out k hk4
      obtain ⟨a5, a6⟩ := HBu.out k (by rw [HU4.out]; exact hk4)
      have hg := HG.out k hk4
      have HRm : Hid (¬ (rest.getD k 0).tmod n = 0 → Z.MissingUnit F U (i : Int) r = ([], 4)) := Z.hide (fun h => by rw [HE.out, Z.missK_bad hk4 HL.out h]; rfl)
      have HRs : Hid ((rest.getD k 0).tmod n = 0 → Z.missK rest n (k + 1) = some (l ++ [(rest.getD k 0).tdiv n])) := Z.hide (fun h => Z.missK_step HL.out h)
      generalize r.getD k 0 = x at *
      generalize all.getD k 0 = a at *
      generalize u.getD k 0 = y at *
      generalize rest.getD k 0 = z at *
      obtain ⟨m1, m2⟩ := Z.mul_bd n y 6 9 hn1 hn2 a5 a6
      have hz : z = x - a + n * y := by omega
      subst hz
      clear hg
      have q1 : IntKind.i64.wrap (n * y) = n * y := IntWalk.i64_in _ (by omega)
      have q2 : IntKind.i64.wrap (x - a) = x - a := IntWalk.i64_in _ (by omega)
      have q3 : IntKind.i64.wrap (x - a + n * y) = x - a + n * y := IntWalk.i64_in _ (by omega)
      go_wp2_with fail
      refine K.wp_region_x 16 [0, 0, 0, 0, 1, 0, 0, 0, 0, 0, 1, 0, 0, 1, 0, 0] [] (by kernel_rfl) (by kernel_rfl) ?_
      simp only [List.take_succ_cons, List.take_zero, List.drop_succ_cons, List.drop_zero]
      iterate 4
        apply K.x_pure
        · rfl
        · rfl
        · intro w'; go_simp; first | done | exact K.vint (IntWalk.i64_in _ (by omega)) | rfl | exact ⟨rfl, rfl⟩
        simp only [Act.put, List.setIfInBounds_toArray, List.set]
      apply K.x_held
      · rfl
      · rfl
      · intro w' hx; have hc := hx.all.1.1; have hf := hx.all.1.2; have hc' := hx.all.2.1; have hf' := hx.all.2.2; go_simp; first | done | rfl | exact ⟨rfl, rfl⟩
      simp only [Act.put, List.setIfInBounds_toArray, List.set]
      iterate 5
        apply K.x_pure
        · rfl
        · rfl
        · intro w'; go_simp; first | done | exact K.vint (IntWalk.i64_in _ (by omega)) | rfl | exact ⟨rfl, rfl⟩
        simp only [Act.put, List.setIfInBounds_toArray, List.set]
      apply K.x_held
      · rfl
      · rfl
      · intro w' hx; have hc := hx.all.1.1; have hf := hx.all.1.2; have hc' := hx.all.2.1; have hf' := hx.all.2.2; go_simp; first | done | rfl | exact ⟨rfl, rfl⟩
      simp only [Act.put, List.setIfInBounds_toArray, List.set]
      iterate 2
        apply K.x_pure
        · rfl
        · rfl
        · intro w'; go_simp; first | done | exact K.vint (IntWalk.i64_in _ (by omega)) | rfl | exact ⟨rfl, rfl⟩
        simp only [Act.put, List.setIfInBounds_toArray, List.set]
      apply K.x_held
      · rfl
      · rfl
      · intro w' hx; have hc := hx.all.1.1; have hf := hx.all.1.2; have hc' := hx.all.2.1; have hf' := hx.all.2.2; go_simp; first | done | rfl | exact ⟨rfl, rfl⟩
      simp only [Act.put, List.setIfInBounds_toArray, List.set]
      iterate 2
        apply K.x_pure
        · rfl
        · rfl
        · intro w'; go_simp; first | done | exact K.vint (IntWalk.i64_in _ (by omega)) | rfl | exact ⟨rfl, rfl⟩
        simp only [Act.put, List.setIfInBounds_toArray, List.set]
      apply K.x_done
      intro w6 h_x
      have hx6 := K.Ext.id h_x
      clear h_x
      obtain ⟨⟨hcw6, hfw6⟩, hc'w6, hf'w6⟩ := hx6.all
      go_wp2_with fail
      refine NoPanic.normal ?_
      obtain ⟨d1, d2⟩ := Z.tdiv_bd (x - a + n * y) n 1000 (by omega) (by omega)
      have HO6 := Z.hide (K.row_ext HO.out.drew hx6)
      have HX6 := Z.hide (K.Ext.trans HX.out.drew hx6)
      have lw6 := HX6.out.size
      by_cases hm0 : (x - a + n * y).tmod n = 0
      · have HT := Z.hide (HRs.out hm0)
        have q4 : IntKind.i64.wrap ((x - a + n * y).tdiv n) = (x - a + n * y).tdiv n := IntWalk.i64_in _ (by omega)
        clear HRs HRm HX hx6
        go_wp2_with ((at_builtin; refine wpList_append_lies _ rfl _ _ _ rfl (wb.heap.size) 2 it0 _ 1 8 Try.underlying24 hi0 hz0 hz1 hz2 rfl (by omega) u12 k _ rfl (HO6.out.alloc _) ⟨w6.heap.size, 0, none⟩ 1 1 [.int .i64 ((x - a + n * y).tdiv n)] rfl rfl (World.news_of_block (cs := #[.int .i64 ((x - a + n * y).tdiv n)]) (t := 2) (fr := (0, 0)) (K.block_new (by simp))) (by simp [Value.oneCell']) (by omega) (by unfold maxLen; omega) (by first | omega | (simp; omega)) (by first | omega | (simp; omega)) (w6.heap.size + 1) (by simp) ?_; intro g2 gcap2 w2 hown2 hgrow2 hat2 hlt3; have HR2 : Hid (∀ g, u12.ownBlock = some g → wb.heap.size ≤ g) := Z.hide (fun g hg => (HO6.out.lt g hg).1); have HP2 := Z.hide hown2))
        have HX7 : Hid (K.Ext wb w2) := Z.hide ((HX6.out.alloc _).below.grown hgrow2 (by simp; omega) (fun g hg => HR2.out g hg))
        clear hown2 hgrow2 hat2
        go_roundw
        case rel => exact ⟨k + 1, by omega, by go_num, Z.hide ⟨_, HT.out, by simpa using HP2.out⟩, HX7⟩
        case measure => first | (simp [intOf]; done) | (simp [intOf]; omega)
      · have HEb := Z.hide (HRm.out hm0)
        clear HRs HRm HX hx6
        go_wp2
        rw [HEb.out]
        go_ret2
        exact ⟨⟨_, rfl, K.own_nil _ _ _⟩, HX2.out.trans HX6.out⟩
    · obtain rfl : k = r.length := by omega
      obtain ⟨M, hM⟩ : ∃ M, M = Z.unitOr l := ⟨_, rfl⟩
      have hl4 : l.length ≤ 1048576 := by rw [Z.missK_length _ HL.out, HRR.out]; decide
      have HEe : Hid (Z.MissingUnit F U (i : Int) r = M) := Z.hide (by have h_ := HL.out; rw [HRR.out] at h_; rw [HE.out, h_, hM]; rfl)
      have HUo : Hid (Calls Try.prog 84 #[u12] wr fun e w' => (∃ r, e = .returned (.tuple #[r, .int .i64 M.2]) ∧ K.own wr wb.heap.size wr.heap.size r M.1) ∧ wr = w') := Z.hide (by rw [hM]; exact unitOr_any l _ _ _ wr hl4 (K.own_of_row HO.out))
      clear hM HO HL
      go_wp2_with ((go_at_call 84; refine K.call (by with_reducible rfl) (by with_reducible rfl) (HUo.out) ?_; rintro e w9 ⟨⟨p9, rfl, g9⟩, rfl⟩))
      rw [HEe.out]
      go_ret2
      exact ⟨⟨_, rfl, g9.mono (by omega) (Nat.le_refl _)⟩, HX2.out.trans HX.out⟩
set_option maxRecDepth 100000 in
set_option maxHeartbeats 6400000 in
theorem spec_MissingUnit (F : Z.Fm) (U : List (List Int)) (ix : Int) (r : List Int) {loF hiF : Nat} {pF : Value} {loU hiU : Nat} {pU : Value} {lor hir : Nat} {pr : Value} (w : World)  (hmF : F.pw.length ≤ 1048576) (hnF : F.nm.size ≤ 1048576) (hF : K.ints w loF hiF pF F.pw) (hmU : U.length ≤ 1048576) (hqU : ∀ xs ∈ U, (xs : List Int).length ≤ 1048576) (hU : K.rows w loU hiU pU U) (hmr : r.length ≤ 1048576) (hr : K.ints w lor hir pr r) :
    Calls Try.prog 18 #[.agg #[.int .i64 F.dg, .int .i64 F.tn, .string F.nm, pF], pU, .int .i64 ix, pr] w fun e w' => (∃ p', e = .returned (.tuple #[p', .int .i64 ((Z.MissingUnit F U ix r).2)]) ∧ K.ints w' w.heap.size w'.heap.size p' ((Z.MissingUnit F U ix r).1)) ∧ K.Ext w w' := by
  have hF_ := hF
  have shF := hF
  obtain ⟨oF, cF, rfl, _⟩ := shF
  have hU_ := hU
  have shU := hU
  obtain ⟨oU, cU, _, rfl, _⟩ := shU
  have hr_ := hr
  have shr := hr
  obtain ⟨or, cr, rfl, _⟩ := shr
  cases vF : Z.isFormula F
  · have HE : Hid (Z.MissingUnit F U ix r = ([], 1)) := Z.hide (by unfold Z.MissingUnit; rw [vF]; rfl)
    have X0 : K.Ext w w := K.Ext.refl w
    go_enter Try.func18, Try.ntmps18
    go_wp2_with (go_at_call 91; refine K.call (by with_reducible rfl) (by with_reducible rfl) (spec_IsFormula F _ hmF hnF (K.ints.alloc hF_ _)) ?_; rintro e w1 ⟨rfl, x1⟩; have s1 : w.heap.size + 1 ≤ w1.heap.size := (by have h_ := x1.size; (try simp at h_); omega); have X1 := K.Ext.trans (K.Ext.alloc X0 _) x1; obtain ⟨c1_0_0, c1_0_1, c1_0_2, c1_0_3⟩ := K.c4 x1 (w.heap.size) (.int .i64 F.dg) (.int .i64 F.tn) (.string F.nm) (.slice oF F.pw.length cF) (by go_simp); have z1_0 : w.heap.size < w1.heap.size := World.block_lt_of_cell? w1 _ c1_0_0; have d1_0 : ¬ (w.heap.size = w1.heap.size) := (by omega); have e1_0 : ¬ (w1.heap.size = w.heap.size) := (by omega); have F1_1 := K.ints.ext (K.ints.alloc hF_ _) x1; have F2_1 := K.rows.ext (K.rows.alloc hU_ _) x1; have F3_1 := K.ints.ext (K.ints.alloc hr_ _) x1; clear hF_ hU_ hr_)
    rw [HE.out]
    refine bodyPost_ret (v := .tuple #[.slice none 0 0, .int .i64 1]) (by unfold results; rw [Try.results18]; go_simp) rfl ⟨⟨_, rfl, ?_⟩, ?_⟩
    · exact K.ints_nil _ _ _
    · repeat with_reducible refine K.Ext.setCell ?_ (by dsimp only; omega) _
      exact (by repeat' (first | with_reducible exact X1 | with_reducible refine K.Ext.setCell ?_ ?_ _ | with_reducible refine K.Ext.alloc ?_ _ | with_reducible refine K.Ext.drew ?_ | (dsimp only; omega) | omega | (simp; omega)))
  cases vU : Z.okUnits F U
  · have HE : Hid (Z.MissingUnit F U ix r = ([], 1)) := Z.hide (by unfold Z.MissingUnit; rw [vF, vU]; rfl)
    have X0 : K.Ext w w := K.Ext.refl w
    go_enter Try.func18, Try.ntmps18
    go_wp2_with (go_at_call 91; refine K.call (by with_reducible rfl) (by with_reducible rfl) (spec_IsFormula F _ hmF hnF (K.ints.alloc hF_ _)) ?_; rintro e w1 ⟨rfl, x1⟩; have s1 : w.heap.size + 1 ≤ w1.heap.size := (by have h_ := x1.size; (try simp at h_); omega); have X1 := K.Ext.trans (K.Ext.alloc X0 _) x1; obtain ⟨c1_0_0, c1_0_1, c1_0_2, c1_0_3⟩ := K.c4 x1 (w.heap.size) (.int .i64 F.dg) (.int .i64 F.tn) (.string F.nm) (.slice oF F.pw.length cF) (by go_simp); have z1_0 : w.heap.size < w1.heap.size := World.block_lt_of_cell? w1 _ c1_0_0; have d1_0 : ¬ (w.heap.size = w1.heap.size) := (by omega); have e1_0 : ¬ (w1.heap.size = w.heap.size) := (by omega); have F1_1 := K.ints.ext (K.ints.alloc hF_ _) x1; have F2_1 := K.rows.ext (K.rows.alloc hU_ _) x1; have F3_1 := K.ints.ext (K.ints.alloc hr_ _) x1; clear hF_ hU_ hr_)
    go_wp2_with (go_at_call 92; refine K.call (by with_reducible rfl) (by with_reducible rfl) (l19Units_any F U _ hnF hmU hqU (F2_1)) ?_; rintro e w2 ⟨rfl, x2⟩; have s2 : w1.heap.size ≤ w2.heap.size := (by have h_ := x2.size; (try simp at h_); omega); have X2 := K.Ext.trans (X1) x2; obtain ⟨c2_0_0, c2_0_1, c2_0_2, c2_0_3⟩ := K.c4 x2 (w.heap.size) (.int .i64 F.dg) (.int .i64 F.tn) (.string F.nm) (.slice oF F.pw.length cF) (by go_simp); have z2_0 : w.heap.size < w2.heap.size := World.block_lt_of_cell? w2 _ c2_0_0; have d2_0 : ¬ (w.heap.size = w2.heap.size) := (by omega); have e2_0 : ¬ (w2.heap.size = w.heap.size) := (by omega); have F1_2 := K.ints.ext (F1_1) x2; have F2_2 := K.rows.ext (F2_1) x2; have F3_2 := K.ints.ext (F3_1) x2; clear c1_0_0 c1_0_1 c1_0_2 c1_0_3 z1_0 d1_0 e1_0 F1_1 F2_1 F3_1)
    rw [HE.out]
    refine bodyPost_ret (v := .tuple #[.slice none 0 0, .int .i64 1]) (by unfold results; rw [Try.results18]; go_simp) rfl ⟨⟨_, rfl, ?_⟩, ?_⟩
    · exact K.ints_nil _ _ _
    · repeat with_reducible refine K.Ext.setCell ?_ (by dsimp only; omega) _
      exact (by repeat' (first | with_reducible exact X2 | with_reducible refine K.Ext.setCell ?_ ?_ _ | with_reducible refine K.Ext.alloc ?_ _ | with_reducible refine K.Ext.drew ?_ | (dsimp only; omega) | omega | (simp; omega)))
  cases vr : Z.isUnit r
  · have HE : Hid (Z.MissingUnit F U ix r = ([], 1)) := Z.hide (by unfold Z.MissingUnit; rw [vF, vU, vr]; rfl)
    have X0 : K.Ext w w := K.Ext.refl w
    go_enter Try.func18, Try.ntmps18
    go_wp2_with (go_at_call 91; refine K.call (by with_reducible rfl) (by with_reducible rfl) (spec_IsFormula F _ hmF hnF (K.ints.alloc hF_ _)) ?_; rintro e w1 ⟨rfl, x1⟩; have s1 : w.heap.size + 1 ≤ w1.heap.size := (by have h_ := x1.size; (try simp at h_); omega); have X1 := K.Ext.trans (K.Ext.alloc X0 _) x1; obtain ⟨c1_0_0, c1_0_1, c1_0_2, c1_0_3⟩ := K.c4 x1 (w.heap.size) (.int .i64 F.dg) (.int .i64 F.tn) (.string F.nm) (.slice oF F.pw.length cF) (by go_simp); have z1_0 : w.heap.size < w1.heap.size := World.block_lt_of_cell? w1 _ c1_0_0; have d1_0 : ¬ (w.heap.size = w1.heap.size) := (by omega); have e1_0 : ¬ (w1.heap.size = w.heap.size) := (by omega); have F1_1 := K.ints.ext (K.ints.alloc hF_ _) x1; have F2_1 := K.rows.ext (K.rows.alloc hU_ _) x1; have F3_1 := K.ints.ext (K.ints.alloc hr_ _) x1; clear hF_ hU_ hr_)
    go_wp2_with (go_at_call 92; refine K.call (by with_reducible rfl) (by with_reducible rfl) (l19Units_any F U _ hnF hmU hqU (F2_1)) ?_; rintro e w2 ⟨rfl, x2⟩; have s2 : w1.heap.size ≤ w2.heap.size := (by have h_ := x2.size; (try simp at h_); omega); have X2 := K.Ext.trans (X1) x2; obtain ⟨c2_0_0, c2_0_1, c2_0_2, c2_0_3⟩ := K.c4 x2 (w.heap.size) (.int .i64 F.dg) (.int .i64 F.tn) (.string F.nm) (.slice oF F.pw.length cF) (by go_simp); have z2_0 : w.heap.size < w2.heap.size := World.block_lt_of_cell? w2 _ c2_0_0; have d2_0 : ¬ (w.heap.size = w2.heap.size) := (by omega); have e2_0 : ¬ (w2.heap.size = w.heap.size) := (by omega); have F1_2 := K.ints.ext (F1_1) x2; have F2_2 := K.rows.ext (F2_1) x2; have F3_2 := K.ints.ext (F3_1) x2; clear c1_0_0 c1_0_1 c1_0_2 c1_0_3 z1_0 d1_0 e1_0 F1_1 F2_1 F3_1)
    go_wp2_with (go_at_call 21; refine K.call (by with_reducible rfl) (by with_reducible rfl) (spec_IsUnit r _ _ _ _ hmr (F3_2)) ?_; rintro e w_ ⟨rfl, rfl⟩)
    rw [HE.out]
    refine bodyPost_ret (v := .tuple #[.slice none 0 0, .int .i64 1]) (by unfold results; rw [Try.results18]; go_simp) rfl ⟨⟨_, rfl, ?_⟩, ?_⟩
    · exact K.ints_nil _ _ _
    · repeat with_reducible refine K.Ext.setCell ?_ (by dsimp only; omega) _
      exact (by repeat' (first | with_reducible exact X2 | with_reducible refine K.Ext.setCell ?_ ?_ _ | with_reducible refine K.Ext.alloc ?_ _ | with_reducible refine K.Ext.drew ?_ | (dsimp only; omega) | omega | (simp; omega)))
  have hUl := (Z.okUnits_len vU).1
  by_cases hix : 0 ≤ ix ∧ ix ≤ (U.length : Int) - 1
  case neg =>
    have HE : Hid (Z.MissingUnit F U ix r = ([], 2)) := Z.hide (by unfold Z.MissingUnit; rw [vF, vU, vr, Bool.true_and, Bool.true_and, if_pos rfl, if_neg hix])
    have hwi : (decide (0 ≤ ix) && decide (ix ≤ (U.length : Int) - 1)) = false := by rw [Bool.and_eq_false_iff]; simp only [decide_eq_false_iff_not]; omega
    have HW : ∀ w : World, Calls Try.prog 96 #[.int .i64 ix, .int .i64 0, .int .i64 ((U.length : Int) - 1)] w fun e w' => e = .returned (.bool false) ∧ w = w' := fun w => by rw [← hwi]; exact l01In_any _ _ _ _
    have HF' : ∀ {a b : Nat} {p : Value} (w : World), K.ints w a b p F.pw → Calls Try.prog 91 #[.agg #[.int .i64 F.dg, .int .i64 F.tn, .string F.nm, p]] w fun e w' => e = .returned (.bool true) ∧ K.Ext w w' := fun w h => by rw [← vF]; exact spec_IsFormula F w hmF hnF h
    have HU' : ∀ {a b : Nat} {p v : Value} (w : World), K.rows w a b v U → Calls Try.prog 92 #[.agg #[.int .i64 F.dg, .int .i64 F.tn, .string F.nm, p], v] w fun e w' => e = .returned (.bool true) ∧ K.Ext w w' := fun w h => by rw [← vU]; exact l19Units_any F U w hnF hmU hqU h
    clear hwi hix hUl vF vU
    have X0 : K.Ext w w := K.Ext.refl w
    go_enter Try.func18, Try.ntmps18
    go_wp2_with (go_at_call 91; refine K.call (by with_reducible rfl) (by with_reducible rfl) (HF' _ (K.ints.alloc hF_ _)) ?_; rintro e w1 ⟨rfl, x1⟩; have s1 : w.heap.size + 1 ≤ w1.heap.size := (by have h_ := x1.size; (try simp at h_); omega); have X1 := K.Ext.trans (K.Ext.alloc X0 _) x1; obtain ⟨c1_0_0, c1_0_1, c1_0_2, c1_0_3⟩ := K.c4 x1 (w.heap.size) (.int .i64 F.dg) (.int .i64 F.tn) (.string F.nm) (.slice oF F.pw.length cF) (by go_simp); have z1_0 : w.heap.size < w1.heap.size := World.block_lt_of_cell? w1 _ c1_0_0; have d1_0 : ¬ (w.heap.size = w1.heap.size) := (by omega); have e1_0 : ¬ (w1.heap.size = w.heap.size) := (by omega); have F1_1 := K.ints.ext (K.ints.alloc hF_ _) x1; have F2_1 := K.rows.ext (K.rows.alloc hU_ _) x1; have F3_1 := K.ints.ext (K.ints.alloc hr_ _) x1; clear hF_ hU_ hr_)
    go_wp2_with (go_at_call 92; refine K.call (by with_reducible rfl) (by with_reducible rfl) (HU' _ (F2_1)) ?_; rintro e w2 ⟨rfl, x2⟩; have s2 : w1.heap.size ≤ w2.heap.size := (by have h_ := x2.size; (try simp at h_); omega); have X2 := K.Ext.trans (X1) x2; obtain ⟨c2_0_0, c2_0_1, c2_0_2, c2_0_3⟩ := K.c4 x2 (w.heap.size) (.int .i64 F.dg) (.int .i64 F.tn) (.string F.nm) (.slice oF F.pw.length cF) (by go_simp); have z2_0 : w.heap.size < w2.heap.size := World.block_lt_of_cell? w2 _ c2_0_0; have d2_0 : ¬ (w.heap.size = w2.heap.size) := (by omega); have e2_0 : ¬ (w2.heap.size = w.heap.size) := (by omega); have F1_2 := K.ints.ext (F1_1) x2; have F2_2 := K.rows.ext (F2_1) x2; have F3_2 := K.ints.ext (F3_1) x2; clear c1_0_0 c1_0_1 c1_0_2 c1_0_3 z1_0 d1_0 e1_0 F1_1 F2_1 F3_1)
    go_wp2_with (go_at_call 21; refine K.call (by with_reducible rfl) (by with_reducible rfl) (spec_IsUnit r _ _ _ _ hmr (F3_2)) ?_; rintro e w_ ⟨rfl, rfl⟩)
    go_wp2_with (go_at_call 96; refine K.call (by with_reducible rfl) (by with_reducible rfl) (HW _) ?_; rintro e w_ ⟨rfl, rfl⟩)
    rw [HE.out]
    refine bodyPost_ret (v := .tuple #[.slice none 0 0, .int .i64 2]) (by unfold results; rw [Try.results18]; go_simp) rfl ⟨⟨_, rfl, ?_⟩, ?_⟩
    · exact K.ints_nil _ _ _
    · repeat with_reducible refine K.Ext.setCell ?_ (by dsimp only; omega) _
      exact (by repeat' (first | with_reducible exact X2 | with_reducible refine K.Ext.setCell ?_ ?_ _ | with_reducible refine K.Ext.alloc ?_ _ | with_reducible refine K.Ext.drew ?_ | (dsimp only; omega) | omega | (simp; omega)))
  obtain ⟨i, rfl⟩ : ∃ i : Nat, ix = (i : Int) := ⟨ix.toNat, by omega⟩
  have hiU : i < U.length := by omega
  have hiF : i < F.nm.size := by omega
  have hwi : (decide (0 ≤ (i : Int)) && decide ((i : Int) ≤ (U.length : Int) - 1)) = true := by rw [Bool.and_eq_true]; simp only [decide_eq_true_eq]; omega
  have HW : Hid (∀ w : World, Calls Try.prog 96 #[.int .i64 (i : Int), .int .i64 0, .int .i64 ((U.length : Int) - 1)] w fun e w' => e = .returned (.bool true) ∧ w = w') := Z.hide (fun w => by rw [← hwi]; exact l01In_any _ _ _ _)
  obtain ⟨all, hall⟩ : ∃ k, k = Z.unitK F.pw U U.length := ⟨_, rfl⟩
  obtain ⟨n, hn⟩ : ∃ n, n = F.pw.getD i 0 := ⟨_, rfl⟩
  obtain ⟨u, hu⟩ : ∃ u, u = U.getD i [] := ⟨_, rfl⟩
  obtain ⟨d1, hd1⟩ : ∃ d, d = Z.addN r all (-1) := ⟨_, rfl⟩
  obtain ⟨rest, hrest⟩ : ∃ l, l = Z.addN d1 u n := ⟨_, rfl⟩
  have HE : Hid (Z.MissingUnit F U (i : Int) r = Z.missOr (Z.missK rest n 4)) := Z.hide (by unfold Z.MissingUnit; rw [vF, vU, vr, Bool.true_and, Bool.true_and, if_pos rfl, if_pos hix, Int.toNat_natCast]; unfold Z.restOf; rw [← hall, ← hd1, ← hu, ← hn, ← hrest])
  have hBr := Z.isUnit_bd9 vr
  have hr4 := Z.isUnit_len vr
  have hBa : ∀ k, k < 4 → -324 ≤ all.getD k 0 ∧ all.getD k 0 ≤ 324 := fun k hk => by rw [hall]; exact Z.units_bd vF vU k hk
  have hall4 : all.length = 4 := by rw [hall]; exact Z.unitK_length _ _ _
  have hUu : Z.isUnit u = true := by rw [hu]; exact Z.units_at vU i hiU
  have hBu := Z.isUnit_bd9 hUu
  have hu4 := Z.isUnit_len hUu
  obtain ⟨hn0, hn1, hn2⟩ : n ≠ 0 ∧ -6 ≤ n ∧ n ≤ 6 := by rw [hn]; exact Z.formula_pw vF i hiF
  have hd4 : d1.length = 4 := by rw [hd1, Z.addN_length, hr4]
  have hBd : ∀ k, k < 4 → -333 ≤ d1.getD k 0 ∧ d1.getD k 0 ≤ 333 := fun k hk => by
    have h1 := hBr k (by omega)
    have h2 := hBa k hk
    rw [hd1, Z.addN_get _ _ _ _ (by omega)]
    omega
  have hrl : rest.length = 4 := by rw [hrest, Z.addN_length, hd4]
  have hBs : ∀ k, k < 4 → -387 ≤ rest.getD k 0 ∧ rest.getD k 0 ≤ 387 := fun k hk => by
    have h1 := hBd k hk
    have h2 := hBu k (by omega)
    obtain ⟨m1, m2⟩ := Z.mul_bd n (u.getD k 0) 6 9 hn1 hn2 h2.1 h2.2
    rw [hrest, Z.addN_get _ _ _ _ (by omega)]
    omega
  have HBs := Z.hide hBs
  have HK : Hid (∀ (w0 : World), K.Ext w w0 → Calls Try.prog 93 #[.agg #[.int .i64 F.dg, .int .i64 F.tn, .string F.nm, .slice oF F.pw.length cF], .slice oU U.length cU] w0 fun e w' => ∃ v, e = .returned v ∧ K.Ext w0 w' ∧ (K.SP.intsA all).p v w') := Z.hide (fun w0 hx => by rw [hall]; exact (l19Of_any F U w0 vF (Z.okUnits_len vU).1 (Z.okUnits_len vU).2 (hF.ext hx) (hU.ext hx)).mono fun e w' ⟨⟨r, he, ho⟩, hw⟩ => ⟨r, he, hw, _, _, ho⟩)
  have HD1 : Hid (∀ {a b c d : Nat} {v v' : Value} (B : Nat) (w0 : World), B ≤ w0.heap.size → K.ints w0 a b v r → K.ints w0 c d v' all → Calls Try.prog 86 #[v, v', .int .i64 (-1)] w0 fun e w' => ∃ v, e = .returned v ∧ K.Ext w0 w' ∧ (K.SP.own B d1).p v w') := Z.hide (fun B w0 hB h h' => by rw [hd1]; exact l19Add_sp r all (-1) w0 hB (by omega) (by omega) (Z.isUnit_bd vr) (fun k hk => by have := hBa k (by omega); omega) (by decide) (by decide) h h')
  have HRe : Hid (∀ {a b c d : Nat} {v v' : Value} (B : Nat) (w0 : World), B ≤ w0.heap.size → K.ints w0 a b v d1 → K.ints w0 c d v' u → Calls Try.prog 86 #[v, v', .int .i64 n] w0 fun e w' => ∃ v, e = .returned v ∧ K.Ext w0 w' ∧ (K.SP.own B rest).p v w') := Z.hide (fun B w0 hB h h' => by rw [hrest]; exact l19Add_sp d1 u n w0 hB (by omega) (by omega) (fun k hk => by have := hBd k (by omega); omega) (Z.isUnit_bd hUu) (by omega) (by omega) h h')
  have HFF : Hid (∀ w' : World, K.Ext w w' → Calls Try.prog 91 #[.agg #[.int .i64 F.dg, .int .i64 F.tn, .string F.nm, .slice oF F.pw.length cF]] w' fun e w'' => e = .returned (.bool true) ∧ K.Ext w' w'') := Z.hide (fun w' hx => by rw [← vF]; exact spec_IsFormula F w' hmF hnF (hF.ext hx))
  have HUU : Hid (∀ w' : World, K.Ext w w' → Calls Try.prog 92 #[.agg #[.int .i64 F.dg, .int .i64 F.tn, .string F.nm, .slice oF F.pw.length cF], .slice oU U.length cU] w' fun e w'' => e = .returned (.bool true) ∧ K.Ext w' w'') := Z.hide (fun w' hx => by rw [← vU]; exact l19Units_any F U w' hnF hmU hqU (hU.ext hx))
  have HIU : Hid (∀ w' : World, K.Ext w w' → Calls Try.prog 21 #[.slice or r.length cr] w' fun e w'' => e = .returned (.bool true) ∧ w' = w'') := Z.hide (fun w' hx => by have h_ := spec_IsUnit r _ _ _ w' hmr (hr.ext hx); rwa [vr] at h_)
  have hpl := (Z.isFormula_len vF).1
  obtain ⟨b, off, hoF, _, _, hc⟩ := K.ints_at hF (by omega)
  have p0 : w.cell? ⟨b, off + i, none⟩ = some (.int .i64 n) := by rw [hn]; exact hc i (by omega)
  obtain ⟨bU, offU, uv, hoU, _, _, hcU, hiU2⟩ := K.rows_at hU i hiU
  have eu : U[i]'hiU = u := by rw [hu]; simp [List.getD_eq_getElem?_getD, hiU]
  rw [eu] at hiU2
  have hiU3 := hiU2
  obtain ⟨ou, cu, rfl, _⟩ := hiU3
  obtain ⟨it0, hi0, hz0, hz1, hz2⟩ := info_parts info_int
  have HRw := Z.hide hr
  have HUr := Z.hide hiU2
  have i0 : (0 : Int) ≤ (i : Int) := Int.natCast_nonneg i
  have i1 : (i : Int) < (U.length : Int) := by omega
  have i2 : (i : Int) < (F.pw.length : Int) := by omega
  have HRL := Z.hide hrl
  subst hoF hoU
  have lb := World.block_lt_of_cell? w _ p0
  have lbU := World.block_lt_of_cell? w _ hcU
  have HCU := Z.hide hcU
  have HP0 := Z.hide p0
  clear hr4 hu4 hF hU hr hc hcU p0 hiU2 vF vU vr hUl hix hwi hu hn hrest hall hall4 hUu eu hpl hBa hBr hBu hd1 hd4 hBd hrl hBs
  go_enter Try.func18, Try.ntmps18
  go_wp2_with (first | ((go_at_call 91; refine K.call (by with_reducible rfl) (by with_reducible rfl) (HFF.out _ (by repeat' (first | with_reducible exact K.Ext.refl _ | with_reducible assumption | with_reducible refine K.Ext.drew ?_ | with_reducible refine K.Ext.alloc ?_ _ | with_reducible refine K.Ext.setCell ?_ ?_ _ | with_reducible refine K.Ext.trans ?_ (by with_reducible assumption) | (dsimp only; omega) | omega | exact K.Ext.refl _ | assumption | apply K.Ext.drew | refine K.Ext.alloc ?_ _ | refine K.Ext.setCell ?_ ?_ _ | (simp; done) | (simp; omega) | refine K.Ext.trans ?_ (by assumption)))) ?_; rintro e wa ⟨rfl, hwa⟩); have X1 := K.Ext.trans (show K.Ext w _ from (by repeat' (first | with_reducible exact K.Ext.refl _ | with_reducible assumption | with_reducible refine K.Ext.drew ?_ | with_reducible refine K.Ext.alloc ?_ _ | with_reducible refine K.Ext.setCell ?_ ?_ _ | with_reducible refine K.Ext.trans ?_ (by with_reducible assumption) | (dsimp only; omega) | omega | exact K.Ext.refl _ | assumption | apply K.Ext.drew | refine K.Ext.alloc ?_ _ | refine K.Ext.setCell ?_ ?_ _ | (simp; done) | (simp; omega) | refine K.Ext.trans ?_ (by assumption)))) hwa; have c_wa_0_0 : wa.cell? ⟨w.heap.size, 0, none⟩ = some (.int .i64 (F.dg)) := hwa.cell_of (by go_simp); have f_wa_0_0 : wa.frozen? ⟨w.heap.size, 0, none⟩ = false := hwa.thaw_of (by go_simp) (by go_simp); have c_wa_0_1 : wa.cell? ⟨w.heap.size, 1, none⟩ = some (.int .i64 (F.tn)) := hwa.cell_of (by go_simp); have f_wa_0_1 : wa.frozen? ⟨w.heap.size, 1, none⟩ = false := hwa.thaw_of (by go_simp) (by go_simp); have c_wa_0_2 : wa.cell? ⟨w.heap.size, 2, none⟩ = some (.string F.nm) := hwa.cell_of (by go_simp); have f_wa_0_2 : wa.frozen? ⟨w.heap.size, 2, none⟩ = false := hwa.thaw_of (by go_simp) (by go_simp); have c_wa_0_3 : wa.cell? ⟨w.heap.size, 3, none⟩ = some (.slice (some ⟨b, off, none⟩) F.pw.length cF) := hwa.cell_of (by go_simp); have f_wa_0_3 : wa.frozen? ⟨w.heap.size, 3, none⟩ = false := hwa.thaw_of (by go_simp) (by go_simp); have z1 := hwa.size; simp at z1) | ((go_at_call 92; refine K.call (by with_reducible rfl) (by with_reducible rfl) (HUU.out _ X1) ?_; rintro e wb ⟨rfl, hwb⟩); have X2 := X1.trans hwb; have c_wb_0_0 : wb.cell? ⟨w.heap.size, 0, none⟩ = some (.int .i64 (F.dg)) := hwb.cell_of (by go_simp); have f_wb_0_0 : wb.frozen? ⟨w.heap.size, 0, none⟩ = false := hwb.thaw_of (by go_simp) (by go_simp); have c_wb_0_1 : wb.cell? ⟨w.heap.size, 1, none⟩ = some (.int .i64 (F.tn)) := hwb.cell_of (by go_simp); have f_wb_0_1 : wb.frozen? ⟨w.heap.size, 1, none⟩ = false := hwb.thaw_of (by go_simp) (by go_simp); have c_wb_0_2 : wb.cell? ⟨w.heap.size, 2, none⟩ = some (.string F.nm) := hwb.cell_of (by go_simp); have f_wb_0_2 : wb.frozen? ⟨w.heap.size, 2, none⟩ = false := hwb.thaw_of (by go_simp) (by go_simp); have c_wb_0_3 : wb.cell? ⟨w.heap.size, 3, none⟩ = some (.slice (some ⟨b, off, none⟩) F.pw.length cF) := hwb.cell_of (by go_simp); have f_wb_0_3 : wb.frozen? ⟨w.heap.size, 3, none⟩ = false := hwb.thaw_of (by go_simp) (by go_simp); have z2 := hwb.size; have p1 := X2.cell_of HP0.out; have pU := X2.cell_of HCU.out) | (go_at_call 21; refine K.call (by with_reducible rfl) (by with_reducible rfl) (HIU.out _ X2) ?_; rintro e w' ⟨rfl, rfl⟩) | (go_at_call 96; refine K.call (by with_reducible rfl) (by with_reducible rfl) (HW.out _) ?_; rintro e w' ⟨rfl, rfl⟩))
  have HX2 := Z.hide X2
  refine K.wp_region_x 11 [0, 1, 0, 2, 2, 0, 0, 0, 1, 0, 2] [K.SP.any, K.SP.any, K.SP.any, (K.SP.intsA all), (K.SP.own wb.heap.size d1), K.SP.any, K.SP.any, K.SP.any, K.SP.any, K.SP.any, (K.SP.own wb.heap.size rest)] (by kernel_rfl) (by kernel_rfl) ?_
  simp only [List.take_succ_cons, List.take_zero, List.drop_succ_cons, List.drop_zero]
  apply K.x_pure
  · rfl
  · rfl
  · intro w'; go_simp; first | done | exact K.vint (IntWalk.i64_in _ (by omega)) | rfl | exact ⟨rfl, rfl⟩
  simp only [Act.put, List.setIfInBounds_toArray, List.set]
  apply K.x_held
  · rfl
  · rfl
  · intro w' hx; have hc := hx.all.1.1; have hf := hx.all.1.2; have hc' := hx.all.2.1; have hf' := hx.all.2.2; go_simp; first | done | rfl | exact ⟨rfl, rfl⟩
  simp only [Act.put, List.setIfInBounds_toArray, List.set]
  apply K.x_pure
  · rfl
  · rfl
  · intro w'; go_simp; first | done | exact K.vint (IntWalk.i64_in _ (by omega)) | rfl | exact ⟨rfl, rfl⟩
  simp only [Act.put, List.setIfInBounds_toArray, List.set]
  apply K.x_call
  · rfl
  · rfl
  · intro w'; go_simp; first | done | rfl | exact ⟨rfl, rfl⟩
  · intro w' hx hp; have hc := hx.all.1.1; have hf := hx.all.1.2; have hc' := hx.all.2.1; have hf' := hx.all.2.2; exact HK.out _ (K.Ext.trans HX2.out.drew hx)
  intro v3 w_3_ hx_3_ hv3
  obtain ⟨lo3, hi3, hs3⟩ := hv3; obtain ⟨o3, c3, rfl, _⟩ := K.ints.mono hs3 (Nat.le_refl _) (Nat.le_refl _)
  simp only [Act.put, List.setIfInBounds_toArray, List.set]
  apply K.x_call
  · rfl
  · rfl
  · intro w'; go_simp; first | done | rfl | exact ⟨rfl, rfl⟩
  · intro w' hx hp; have hc := hx.all.1.1; have hf := hx.all.1.2; have hc' := hx.all.2.1; have hf' := hx.all.2.2; exact (by obtain ⟨l_, h_, q_⟩ := K.SP.intsA_at (hp 3 _ (by kernel_rfl) rfl rfl); exact HD1.out _ _ (by have h_ := hx.size; simp at h_; omega) (HRw.out.ext (K.Ext.trans HX2.out.drew hx)) q_)
  intro v4 w_4_ hx_4_ hv4
  obtain ⟨hi4, hb4, hh4, hs4⟩ := hv4; obtain ⟨o4, c4, rfl, _⟩ := K.own.ints hs4
  simp only [Act.put, List.setIfInBounds_toArray, List.set]
  iterate 3
    apply K.x_pure
    · rfl
    · rfl
    · intro w'; go_simp; first | done | exact K.vint (IntWalk.i64_in _ (by omega)) | rfl | exact ⟨rfl, rfl⟩
    simp only [Act.put, List.setIfInBounds_toArray, List.set]
  apply K.x_held
  · rfl
  · rfl
  · intro w' hx; have hc := hx.all.1.1; have hf := hx.all.1.2; have hc' := hx.all.2.1; have hf' := hx.all.2.2; go_simp; first | done | rfl | exact ⟨rfl, rfl⟩
  simp only [Act.put, List.setIfInBounds_toArray, List.set]
  apply K.x_pure
  · rfl
  · rfl
  · intro w'; go_simp; first | done | exact K.vint (IntWalk.i64_in _ (by omega)) | rfl | exact ⟨rfl, rfl⟩
  simp only [Act.put, List.setIfInBounds_toArray, List.set]
  apply K.x_call
  · rfl
  · rfl
  · intro w'; go_simp; first | done | rfl | exact ⟨rfl, rfl⟩
  · intro w' hx hp; have hc := hx.all.1.1; have hf := hx.all.1.2; have hc' := hx.all.2.1; have hf' := hx.all.2.2; exact (by obtain ⟨h_, _, _, q_⟩ := K.SP.own_at (hp 4 _ (by kernel_rfl) rfl rfl); exact HRe.out _ _ (by have h_ := hx.size; simp at h_; omega) (K.own.ints q_) (HUr.out.ext (K.Ext.trans HX2.out.drew hx)))
  intro v10 w_10_ hx_10_ hv10
  obtain ⟨hi10, hb10, hh10, hs10⟩ := hv10; obtain ⟨o10, c10, rfl, _⟩ := K.own.ints hs10
  simp only [Act.put, List.setIfInBounds_toArray, List.set]
  apply K.x_done
  intro w6 h_x
  have hx6 := hx_3_.trans (hx_4_.trans (hx_10_.trans h_x))
  have hxe3 := K.Ext.id (hx_4_.trans (hx_10_.trans h_x))
  have hxe4 := K.Ext.id (hx_10_.trans h_x)
  have hxe10 := K.Ext.id (h_x)
  clear h_x hx_3_ hx_4_ hx_10_
  obtain ⟨⟨hcw6, hfw6⟩, hc'w6, hf'w6⟩ := hx6.all
  go_wp2_with fail
  refine NoPanic.normal ?_
  have HX6 := Z.hide (K.Ext.trans HX2.out.drew hx6)
  have hr6 := K.ints.ext (K.own.ints hs10) hxe10
  obtain ⟨ba, offa, hoa, _, _, hca⟩ := K.ints_at hr6 (by rw [HRL.out]; decide)
  subst hoa
  have HCA := Z.hide hca
  have lw6 := hx6.size
  clear hwa hwb X1 X2 hca HFF HUU HIU HW HK HD1 HRe HRw HUr hr6 hs10 hs4 hs3
  go_wp2
  go_loopw [12, 13] (fun out jj wr => ∃ k : Nat, k ≤ rest.length ∧ jj = .int .i64 k ∧ Hid (∃ l, Z.missK rest n k = some l ∧ wr.ownsRow w6.heap.size 2 1 out k (l.map (Value.int .i64))) ∧ Hid (K.Ext w6 wr)) (fun _ jj _ => rest.length - (intOf jj).toNat)
  case atStart => exact ⟨0, Nat.zero_le _, rfl, Z.hide ⟨[], rfl, World.ownsRow_lit w6 #[] 0 (Nat.le_refl _) (by decide) rfl⟩, Z.hide ((K.Ext.refl _).alloc _)⟩
  case round =>
    obtain ⟨k, hk, rfl, HS, HX⟩ := hrel
    obtain ⟨l, hl, ho⟩ := HS.out
    have HL := Z.hide hl
    have HO := Z.hide ho
    clear HS hl ho
    have k0 : (0 : Int) ≤ (k : Int) := Int.natCast_nonneg k
    have lw := HX.out.size
    by_cases hlt : k < rest.length
    · have k1 : (k : Int) < (rest.length : Int) := by omega
      have hk4 : k < 4 := by rw [← HRL.out]; exact hlt
      have ca : wr.cell? ⟨ba, offa + k, none⟩ = some (.int .i64 (rest.getD k 0)) := HX.out.cell_of (HCA.out k hlt)
      have HRm : Hid (¬ (rest.getD k 0).tmod n = 0 → Z.MissingUnit F U (i : Int) r = ([], 4)) := Z.hide (fun h => by rw [HE.out, Z.missK_bad hk4 HL.out h]; rfl)
      have HRs : Hid ((rest.getD k 0).tmod n = 0 → Z.missK rest n (k + 1) = some (l ++ [(rest.getD k 0).tdiv n])) := Z.hide (fun h => Z.missK_step HL.out h)
      obtain ⟨b1, b2⟩ := HBs.out k hk4
      generalize rest.getD k 0 = z at *
      obtain ⟨d1_, d2_⟩ := Z.tdiv_bd z n 1000 (by omega) (by omega)
      have lba := World.block_lt_of_cell? wr _ ca
      by_cases hm0 : z.tmod n = 0
      · have HT := Z.hide (HRs.out hm0)
        have q4 : IntKind.i64.wrap (z.tdiv n) = z.tdiv n := IntWalk.i64_in _ (by omega)
        clear HRs HRm
        go_wp2_with ((at_builtin; refine wpList_append_lies _ rfl _ _ _ rfl (w6.heap.size) 2 it0 _ 1 8 Try.underlying24 hi0 hz0 hz1 hz2 rfl (by omega) u12 k _ rfl (HO.out.alloc _) ⟨wr.heap.size, 0, none⟩ 1 1 [.int .i64 (z.tdiv n)] rfl rfl (World.news_of_block (cs := #[.int .i64 (z.tdiv n)]) (t := 2) (fr := (0, 0)) (K.block_new (by simp))) (by simp [Value.oneCell']) (by omega) (by unfold maxLen; omega) (by first | omega | (simp; omega)) (by first | omega | (simp; omega)) (wr.heap.size + 1) (by simp) ?_; intro g2 gcap2 w2 hown2 hgrow2 hat2 hlt3; have HR2 : Hid (∀ g, u12.ownBlock = some g → w6.heap.size ≤ g) := Z.hide (fun g hg => (HO.out.lt g hg).1); have HP2 := Z.hide hown2))
        have HX7 : Hid (K.Ext w6 w2) := Z.hide ((HX.out.alloc _).below.grown hgrow2 (by simp; omega) (fun g hg => HR2.out g hg))
        clear hown2 hgrow2 hat2
        go_roundw
        case rel => exact ⟨k + 1, by omega, by go_num, Z.hide ⟨_, HT.out, by simpa using HP2.out⟩, HX7⟩
        case measure => first | (simp [intOf]; done) | (simp [intOf]; omega)
      · have HEb := Z.hide (HRm.out hm0)
        clear HRs HRm
        go_wp2
        rw [HEb.out]
        go_ret2
        exact ⟨⟨_, rfl, K.ints_nil _ _ _⟩, HX6.out.trans HX.out⟩
    · obtain rfl : k = rest.length := by omega
      obtain ⟨M, hM⟩ : ∃ M, M = Z.unitOr l := ⟨_, rfl⟩
      have hl4 : l.length ≤ 1048576 := by rw [Z.missK_length _ HL.out, HRL.out]; decide
      have HEe : Hid (Z.MissingUnit F U (i : Int) r = M) := Z.hide (by have h_ := HL.out; rw [HRL.out] at h_; rw [HE.out, h_, hM]; rfl)
      have HUo : Hid (Calls Try.prog 85 #[u12] wr fun e w' => (∃ r, e = .returned (.tuple #[r, .int .i64 M.2]) ∧ K.ints wr w6.heap.size wr.heap.size r M.1) ∧ wr = w') := Z.hide (by rw [hM]; exact l19Result_any l _ _ _ wr hl4 (K.own.ints (K.own_of_row HO.out)))
      have l66 := HX6.out.size
      clear hM HO HL
      go_wp2_with ((go_at_call 85; refine K.call (by with_reducible rfl) (by with_reducible rfl) (HUo.out) ?_; rintro e w9 ⟨⟨p9, rfl, g9⟩, rfl⟩))
      rw [HEe.out]
      go_ret2
      exact ⟨⟨_, rfl, g9.mono (by omega) (Nat.le_refl _)⟩, HX6.out.trans HX.out⟩
end Go.Proofs.Ythmnlbgbacbocaa
end
section
namespace Go.Z
theorem unitOr_ok {u : List Int} (h : (unitOr u).2 = 0) : isUnit u = true ∧ (unitOr u).1 = u := by
  unfold unitOr at *
  cases hu : isUnit u
  · rw [hu] at h; simp at h
  · exact ⟨rfl, by simp⟩
theorem list4_ext {a b : List Int} (ha : a.length = 4) (hb : b.length = 4) (h : ∀ k, k < 4 → a.getD k 0 = b.getD k 0) : a = b := by
  apply List.ext_getElem (by rw [ha, hb])
  intro i h1 h2
  have := h i (by omega)
  simpa [List.getD_eq_getElem?_getD, h1, h2] using this
theorem units_law {u v : List Int} (h : (MultiplyUnits u v).2 = 0) : MultiplyUnits v u = ((MultiplyUnits u v).1, 0) ∧ isUnit (MultiplyUnits u v).1 = true := by
  have hu : isUnit u = true := by
    cases hu : isUnit u
    · rw [MultiplyUnits_l v hu] at h; simp at h
    · rfl
  have hv : isUnit v = true := by
    cases hv : isUnit v
    · rw [MultiplyUnits_r hu hv] at h; simp at h
    · rfl
  rw [MultiplyUnits_ok hu hv] at h ⊢
  rw [MultiplyUnits_ok hv hu]
  have e : addN v u 1 = addN u v 1 := by
    have l1 := isUnit_len hu
    have l2 := isUnit_len hv
    apply list4_ext (by rw [addN_length, l2]) (by rw [addN_length, l1])
    intro k hk
    rw [addN_get v u 1 k (by omega), addN_get u v 1 k (by omega)]
    omega
  rw [e]
  obtain ⟨h1, h2⟩ := unitOr_ok h
  rw [h2]
  refine ⟨?_, h1⟩
  exact Prod.ext h2 h
theorem missK_get {rest : List Int} {n : Int} : ∀ (K : Nat) {l : List Int}, missK rest n K = some l → l.length = K ∧ ∀ k, k < K → l.getD k 0 * n = rest.getD k 0
  | 0, l, h => by simp only [missK, Option.some.injEq] at h; subst h; exact ⟨rfl, fun k hk => by omega⟩
  | K + 1, l, h => by
    simp only [missK] at h
    cases hl : missK rest n K with
    | none => rw [hl] at h; simp at h
    | some l' =>
      rw [hl] at h
      simp only at h
      split at h
      · rename_i hd
        simp only [Option.some.injEq] at h
        subst h
        obtain ⟨h1, h2⟩ := missK_get K hl
        refine ⟨by simp [h1], fun k hk => ?_⟩
        by_cases hk' : k < K
        · have := h2 k hk'
          have e : (l' ++ [(rest.getD K 0).tdiv n]).getD k 0 = l'.getD k 0 := by
            simp only [List.getD_eq_getElem?_getD]
            rw [List.getElem?_append_left (by omega)]
          rw [e]; exact this
        · obtain rfl : k = K := by omega
          have e : (l' ++ [(rest.getD k 0).tdiv n]).getD k 0 = (rest.getD k 0).tdiv n := by
            simp only [List.getD_eq_getElem?_getD]
            rw [List.getElem?_append_right (by omega), h1]; simp
          rw [e]
          have := Int.tmod_add_mul_tdiv (rest.getD k 0) n
          rw [Int.mul_comm]; omega
      · cases h
theorem unitK_set (ps : List Int) (uss : List (List Int)) (ix : Nat) (m : List Int) (hix : ix < uss.length) (k : Nat) (hk : k < 4) : ∀ n : Nat,
    (unitK ps (uss.set ix m) n).getD k 0 = (unitK ps uss n).getD k 0 + (if ix < n then ps.getD ix 0 * m.getD k 0 - ps.getD ix 0 * (uss.getD ix []).getD k 0 else 0)
  | 0 => by simp [unitK]
  | n + 1 => by
    have ih := unitK_set ps uss ix m hix k hk n
    simp only [unitK]
    rw [addN_get _ _ _ _ (by rw [unitK_length]; exact hk), addN_get _ _ _ _ (by rw [unitK_length]; exact hk), ih]
    by_cases h1 : n = ix
    · subst h1
      have e : (uss.set n m).getD n [] = m := by simp [List.getD_eq_getElem?_getD, hix]
      rw [e, if_neg (by omega), if_pos (by omega)]; omega
    · have e : (uss.set ix m).getD n [] = uss.getD n [] := by simp [List.getD_eq_getElem?_getD, List.getElem?_set, Ne.symm h1]
      rw [e]
      by_cases h2 : ix < n
      · rw [if_pos h2, if_pos (by omega)]; omega
      · rw [if_neg h2, if_neg (by omega)]; omega
theorem allUnits_set {uss : List (List Int)} (h : allUnits uss = true) {m : List Int} (hm : isUnit m = true) (ix : Nat) : allUnits (uss.set ix m) = true := by
  unfold allUnits at *
  rw [List.all_eq_true] at *
  intro x hx
  rcases List.mem_or_eq_of_mem_set hx with h1 | h1
  · exact h x h1
  · rw [h1]; exact hm
theorem missing_law {F : Fm} {uss : List (List Int)} {ix : Int} {r : List Int} (h : (MissingUnit F uss ix r).2 = 0) :
    ∃ i : Nat, ix = (i : Int) ∧ i < uss.length ∧ uss.length ≤ 6 ∧ isUnit (MissingUnit F uss ix r).1 = true ∧ allUnits uss = true ∧ IsFitting F (uss.set i (MissingUnit F uss ix r).1) r = (true, 0) := by
  unfold MissingUnit at h
  cases h1 : (isFormula F && okUnits F uss && isUnit r)
  · rw [h1] at h; simp at h
  · rw [h1] at h
    simp only [if_true] at h
    by_cases h2 : 0 ≤ ix ∧ ix ≤ (uss.length : Int) - 1
    · rw [if_pos h2] at h
      obtain ⟨i, rfl⟩ : ∃ i : Nat, ix = (i : Int) := ⟨ix.toNat, by omega⟩
      have hi : i < uss.length := by omega
      have hE : MissingUnit F uss (i : Int) r = missOr (missK (restOf F uss i r) (F.pw.getD i 0) 4) := by
        unfold MissingUnit; rw [h1]; simp only [if_true]; rw [if_pos h2]; simp
      simp only [Int.toNat_natCast] at h
      rw [hE]
      cases hk : missK (restOf F uss i r) (F.pw.getD i 0) 4 with
      | none => rw [hk] at h; simp [missOr] at h
      | some l =>
        rw [hk] at h
        simp only [missOr] at h ⊢
        obtain ⟨hu, he⟩ := unitOr_ok h
        rw [he]
        obtain ⟨hl, hg⟩ := missK_get 4 hk
        simp only [Bool.and_eq_true] at h1
        obtain ⟨⟨hF, hU⟩, hr⟩ := h1
        obtain ⟨hU1, hU2⟩ := okUnits_len hU
        have hn6 := (isFormula_len hF).2
        have hU' : okUnits F (uss.set i l) = true := by
          unfold okUnits
          rw [List.length_set, allUnits_set hU2 hu i, hU1]; simp
        refine ⟨i, rfl, hi, by omega, hu, hU2, ?_⟩
        unfold IsFitting
        rw [hF, hU', hr]
        have e : unitK F.pw (uss.set i l) uss.length = r := by
          apply list4_ext (unitK_length _ _ _) (isUnit_len hr)
          intro k hk4
          rw [unitK_set _ _ _ _ hi k hk4, if_pos hi]
          have g := hg k hk4
          rw [rest_get hr k hk4] at g
          rw [Int.mul_comm (F.pw.getD i 0) (l.getD k 0), g]
          omega
        rw [List.length_set, e]; simp
    · rw [if_neg h2] at h; simp at h
end Go.Z
end
section
namespace Go.Proofs.Ythmnlbgbacbocaa
open Go.RowKit
attribute [local go_sem ↓] Go.wp_at_zero Go.wp_at_succ
set_option maxHeartbeats 400000 in
theorem spec_MultiplyUnits (xs ys : List Int) (lo hi lo' hi' : Nat) (v v' : Value) (w : World) (hm : xs.length ≤ 1048576) (hm' : ys.length ≤ 1048576) (h : K.ints w lo hi v xs) (h' : K.ints w lo' hi' v' ys) :
    Calls Try.prog 12 #[v, v'] w fun e w' => (∃ r, e = .returned (.tuple #[r, .int .i64 (Z.MultiplyUnits xs ys).2]) ∧ K.ints w' 0 w'.heap.size r (Z.MultiplyUnits xs ys).1) ∧ K.Ext w w' := by
  cases hx : Z.isUnit xs
  · have HE : Hid (Z.MultiplyUnits xs ys = ([], 1)) := Z.hide (Z.MultiplyUnits_l _ hx)
    go_enter Try.func12, Try.ntmps12
    go_wp2_with (go_at_call 21; refine K.call (by with_reducible rfl) (by with_reducible rfl) (spec_IsUnit xs lo hi v _ hm h) ?_; rintro e w' ⟨rfl, rfl⟩)
    go_ret2
    exact ⟨⟨_, by rw [HE.out]; rfl, by rw [HE.out]; exact K.ints_nil _ _ _⟩, (by repeat' (first | with_reducible exact K.Ext.refl _ | with_reducible assumption | with_reducible refine K.Ext.drew ?_ | with_reducible refine K.Ext.alloc ?_ _ | with_reducible refine K.Ext.setCell ?_ ?_ _ | with_reducible refine K.Ext.trans ?_ (by with_reducible assumption) | (dsimp only; omega) | omega | exact K.Ext.refl _ | assumption | apply K.Ext.drew | refine K.Ext.alloc ?_ _ | refine K.Ext.setCell ?_ ?_ _ | (simp; done) | (simp; omega) | refine K.Ext.trans ?_ (by assumption)))⟩
  · cases hy : Z.isUnit ys
    · have HE : Hid (Z.MultiplyUnits xs ys = ([], 1)) := Z.hide (Z.MultiplyUnits_r hx hy)
      go_enter Try.func12, Try.ntmps12
      go_wp2_with (first | (go_at_call 21; refine K.call (by with_reducible rfl) (by with_reducible rfl) (spec_IsUnit xs lo hi v _ hm h) ?_; rintro e w' ⟨rfl, rfl⟩) | (go_at_call 21; refine K.call (by with_reducible rfl) (by with_reducible rfl) (spec_IsUnit ys lo' hi' v' _ hm' h') ?_; rintro e w' ⟨rfl, rfl⟩))
      go_ret2
      exact ⟨⟨_, by rw [HE.out]; rfl, by rw [HE.out]; exact K.ints_nil _ _ _⟩, (by repeat' (first | with_reducible exact K.Ext.refl _ | with_reducible assumption | with_reducible refine K.Ext.drew ?_ | with_reducible refine K.Ext.alloc ?_ _ | with_reducible refine K.Ext.setCell ?_ ?_ _ | with_reducible refine K.Ext.trans ?_ (by with_reducible assumption) | (dsimp only; omega) | omega | exact K.Ext.refl _ | assumption | apply K.Ext.drew | refine K.Ext.alloc ?_ _ | refine K.Ext.setCell ?_ ?_ _ | (simp; done) | (simp; omega) | refine K.Ext.trans ?_ (by assumption)))⟩
    · have HE : Hid (Z.MultiplyUnits xs ys = Z.unitOr (Z.addN xs ys 1)) := Z.hide (Z.MultiplyUnits_ok hx hy)
      have HL := Z.hide (Z.isUnit_len hx)
      have HL' := Z.hide (Z.isUnit_len hy)
      have HB := Z.hide (Z.isUnit_bd hx)
      have HB' := Z.hide (Z.isUnit_bd hy)
      go_enter Try.func12, Try.ntmps12
      go_wp2_with (first | (go_at_call 21; refine K.call (by with_reducible rfl) (by with_reducible rfl) (spec_IsUnit xs lo hi v _ hm h) ?_; rintro e w' ⟨rfl, rfl⟩) | (go_at_call 21; refine K.call (by with_reducible rfl) (by with_reducible rfl) (spec_IsUnit ys lo' hi' v' _ hm' h') ?_; rintro e w' ⟨rfl, rfl⟩) | (go_at_call 86; refine K.call (by with_reducible rfl) (by with_reducible rfl) (l19Add_any xs ys 1 lo hi lo' hi' v v' _ hm (by rw [HL.out, HL'.out]; exact Nat.le_refl _) HB.out HB'.out (by omega) (by omega) h h') ?_; rintro e w1 ⟨⟨r, rfl, hr⟩, hx1⟩) | (go_at_call 85; refine K.call (by with_reducible rfl) (by with_reducible rfl) (l19Result_any _ _ _ _ _ (by rw [Z.addN_length]; exact hm) hr.ints) ?_; rintro e w2 ⟨⟨r2, rfl, hr2⟩, rfl⟩))
      go_ret2
      exact ⟨⟨r2, by rw [HE.out]; rfl, by rw [HE.out]; exact hr2.mono (Nat.zero_le _) (Nat.le_refl _)⟩, hx1⟩
set_option maxHeartbeats 1600000 in
theorem impl_MultiplyUnits (xs ys : List Int) (lo hi lo' hi' : Nat) (v v' : Value) (w : World) (hm : xs.length ≤ 1048576) (hm' : ys.length ≤ 1048576) (h : K.ints w lo hi v xs) (h' : K.ints w lo' hi' v' ys) :
    Calls Try.prog 11 #[v, v'] w fun e w' => (∃ r, e = .returned (.tuple #[r, .int .i64 (Z.MultiplyUnits xs ys).2]) ∧ K.own w' w.heap.size w'.heap.size r (Z.MultiplyUnits xs ys).1) ∧ K.Ext w w' := by
  cases hx : Z.isUnit xs
  · have HE : Hid (Z.MultiplyUnits xs ys = ([], 1)) := Z.hide (Z.MultiplyUnits_l _ hx)
    go_enter Try.func11, Try.ntmps11
    go_wp2_with (go_at_call 20; refine K.call (by with_reducible rfl) (by with_reducible rfl) (impl_IsUnit xs lo hi v _ hm h) ?_; rintro e w' ⟨rfl, rfl⟩)
    go_ret2
    exact ⟨⟨_, by rw [HE.out]; rfl, by rw [HE.out]; exact K.own_nil _ _ _⟩, (by repeat' (first | with_reducible exact K.Ext.refl _ | with_reducible assumption | with_reducible refine K.Ext.drew ?_ | with_reducible refine K.Ext.alloc ?_ _ | with_reducible refine K.Ext.setCell ?_ ?_ _ | with_reducible refine K.Ext.trans ?_ (by with_reducible assumption) | (dsimp only; omega) | omega | exact K.Ext.refl _ | assumption | apply K.Ext.drew | refine K.Ext.alloc ?_ _ | refine K.Ext.setCell ?_ ?_ _ | (simp; done) | (simp; omega) | refine K.Ext.trans ?_ (by assumption)))⟩
  · cases hy : Z.isUnit ys
    · have HE : Hid (Z.MultiplyUnits xs ys = ([], 1)) := Z.hide (Z.MultiplyUnits_r hx hy)
      go_enter Try.func11, Try.ntmps11
      go_wp2_with (first | (go_at_call 20; refine K.call (by with_reducible rfl) (by with_reducible rfl) (impl_IsUnit xs lo hi v _ hm h) ?_; rintro e w' ⟨rfl, rfl⟩) | (go_at_call 20; refine K.call (by with_reducible rfl) (by with_reducible rfl) (impl_IsUnit ys lo' hi' v' _ hm' h') ?_; rintro e w' ⟨rfl, rfl⟩))
      go_ret2
      exact ⟨⟨_, by rw [HE.out]; rfl, by rw [HE.out]; exact K.own_nil _ _ _⟩, (by repeat' (first | with_reducible exact K.Ext.refl _ | with_reducible assumption | with_reducible refine K.Ext.drew ?_ | with_reducible refine K.Ext.alloc ?_ _ | with_reducible refine K.Ext.setCell ?_ ?_ _ | with_reducible refine K.Ext.trans ?_ (by with_reducible assumption) | (dsimp only; omega) | omega | exact K.Ext.refl _ | assumption | apply K.Ext.drew | refine K.Ext.alloc ?_ _ | refine K.Ext.setCell ?_ ?_ _ | (simp; done) | (simp; omega) | refine K.Ext.trans ?_ (by assumption)))⟩
    · have HE : Hid (Z.MultiplyUnits xs ys = Z.unitOr (Z.addN xs ys 1)) := Z.hide (Z.MultiplyUnits_ok hx hy)
      have HL := Z.hide (Z.isUnit_len hx)
      have HL' := Z.hide (Z.isUnit_len hy)
      have HB := Z.hide (Z.isUnit_bd hx)
      have HB' := Z.hide (Z.isUnit_bd hy)
      have HI := Z.hide info_int
      have hl : xs.length ≤ ys.length := by rw [HL.out, HL'.out]; exact Nat.le_refl _
      have h1 := h
      obtain ⟨o, cap, rfl, hh⟩ := h1
      have h1' := h'
      obtain ⟨o', cap', rfl, hh'⟩ := h1'
      go_enter Try.func11, Try.ntmps11
      go_wp2_with (first | (go_at_call 20; refine K.call (by with_reducible rfl) (by with_reducible rfl) (impl_IsUnit xs lo hi _ _ hm h) ?_; rintro e w' ⟨rfl, rfl⟩) | (go_at_call 20; refine K.call (by with_reducible rfl) (by with_reducible rfl) (impl_IsUnit ys lo' hi' _ _ hm' h') ?_; rintro e w' ⟨rfl, rfl⟩))
      clear h h'
      obtain ⟨it0, hi0, hz0, hz1, hz2⟩ := info_parts HI.out
      go_loopw [6, 19] (fun out i wr => ∃ k : Nat, k ≤ xs.length ∧ i = .int .i64 k ∧ Hid (wr.ownsRow w.heap.size 2 1 out k (((Z.addN xs ys 1).take k).map (Value.int .i64))) ∧ Hid (K.Ext w wr)) (fun _ i _ => xs.length - (intOf i).toNat)
      case atStart => exact ⟨0, Nat.zero_le _, rfl, Z.hide (World.ownsRow_lit w #[] 0 (Nat.le_refl _) (by decide) rfl), Z.hide ((K.Ext.refl _).alloc _)⟩
      case round =>
        obtain ⟨k, hk, rfl, HO, HX⟩ := hrel
        by_cases hlt : k < xs.length
        · obtain ⟨b, off, rfl, _, _, hc⟩ := hh (by intro h0; simp [h0] at hlt)
          obtain ⟨b', off', rfl, _, _, hc'⟩ := hh' (by intro h0; have h1 := congrArg List.length h0; rw [List.length_nil] at h1; omega)
          have lb : b < w.heap.size := World.block_lt_of_cell? w _ (hc k hlt)
          have lb' : b' < w.heap.size := World.block_lt_of_cell? w _ (hc' k (by omega))
          have hck := HX.out.cell_of (hc k hlt)
          have hck' := HX.out.cell_of (hc' k (by omega))
          have i0 : (0 : Int) ≤ (k : Int) := Int.natCast_nonneg k
          have i1 : (k : Int) < (xs.length : Int) := by omega
          have i2 : (k : Int) < (ys.length : Int) := by omega
          have HG := Z.hide (Z.addN_get xs ys 1 k hlt)
          have HT := Z.hide (Z.take_succ_get (Z.addN xs ys 1) k (by rw [Z.addN_length]; exact hlt))
          obtain ⟨e1, e2⟩ := HB.out k hlt
          obtain ⟨e3, e4⟩ := HB'.out k (by omega)
          have lk := HX.out.size
          have ag : u6.ownBlock ≠ some b := fun he => by have := (HO.out.lt b he).1; omega
          have ag' : u6.ownBlock ≠ some b' := fun he => by have := (HO.out.lt b' he).1; omega
          have lr : b < wr.heap.size := by omega
          have lr' : b' < wr.heap.size := by omega
          clear hc hc' hh hh' lb lb'
          generalize xs.getD k 0 = x at *
          generalize ys.getD k 0 = y at *
          have q2 : IntKind.i64.wrap (x + y) = x + y := IntWalk.i64_in _ (by omega)
          go_wp2_with fail
          go_region_held3 (fun w' => w'.cell? ⟨b, off + k, none⟩ = some (.int .i64 x) ∧ w'.cell? ⟨b', off' + k, none⟩ = some (.int .i64 y))
            (first | go_keep | (go_split_ands; exact ⟨(hgrow.cell_far _ (by simp; omega) (Ne.symm ag)).trans (by assumption), (hgrow.cell_far _ (by simp; omega) (Ne.symm ag')).trans (by assumption)⟩))
            ((refine step_append_lies _ (by rfl) _ _ _ (by rfl) w.heap.size 2 it0 _ 1 8 Try.underlying24 hi0 hz0 hz1 hz2 rfl (by omega) u6 k _ (by rfl) ((HO.out.alloc _).drew) ⟨wr.heap.size, 0, none⟩ 1 1 [.int .i64 (x + y)] (by rfl) (by rfl) (World.news_of_block (cs := #[.int .i64 (x + y)]) (t := 2) (fr := (0, 0)) (heap_alloc_new wr _)) (by simp [Value.oneCell']) (by omega) (by unfold maxLen; omega) (by omega) (by simp; omega) (wr.heap.size + 1) (by simp) ?_; intro gg gcap w1 hown1 hgrow hat hlt))
          have HO1 := Z.hide hown1
          have HX1 : Hid (K.Ext w w1) := Z.hide (((HX.out.alloc _).drew.below.grown hgrow (by simp; omega) (fun g hg => (HO.out.lt g hg).1)))
          clear hown1 hgrow hat
          go_wp2
          go_roundw
          case rel => exact ⟨k + 1, by omega, by go_num, Z.hide (by rw [HT.out, HG.out]; simpa using HO1.out), HX1⟩
          case measure => simp [intOf]; omega
        · obtain rfl : k = xs.length := by omega
          clear hh hh'
          have HR := K.own_of_row HO.out
          rw [List.take_of_length_le (by rw [Z.addN_length]; exact Nat.le_refl _)] at HR
          go_wp2_with (go_at_call 84; refine K.call (by with_reducible rfl) (by with_reducible rfl) (unitOr_any _ _ _ _ _ (by rw [Z.addN_length]; exact hm) HR) ?_; rintro e w2 ⟨⟨r2, rfl, hr2⟩, rfl⟩)
          go_ret2
          exact ⟨⟨r2, by rw [HE.out]; rfl, by rw [HE.out]; exact hr2⟩, HX.out⟩
end Go.Proofs.Ythmnlbgbacbocaa
end
section
namespace Go.K
theorem newsT {W c : World} {us xs : List Value} {lb off k : Nat} (hce : ∀ j (h : j < us.length), W.cell? ⟨lb, off + j, none⟩ = some us[j]) (hx : ∀ j u, xs[j]? = some u → us[k + j]? = some u) (m : Ext W c) :
    ∀ j u, xs[j]? = some u → c.cell? ((⟨lb, off + k, none⟩ : Addr).add j) = some u := fun j u hu => by
  have h1 := hx j u hu
  obtain ⟨h2, h3⟩ := List.getElem?_eq_some_iff.1 h1
  have h4 := hce (k + j) h2
  rw [WideShapes.add_plain, Nat.add_assoc]
  exact (m.cell_of h4).trans (by rw [h3])
theorem take_news {us : List Value} {i : Nat} : ∀ j u, (us.take i)[j]? = some u → us[0 + j]? = some u := fun j u h => by
  rw [List.getElem?_take] at h
  split at h
  · rw [Nat.zero_add]; exact h
  · cases h
theorem drop_news {us : List Value} {i : Nat} : ∀ j u, (us.drop i)[j]? = some u → us[i + j]? = some u := fun j u h => by
  rwa [List.getElem?_drop] at h
theorem news_if {W c : World} {us : List Value} {lb off kY i : Nat} (hce : ∀ j (h : j < us.length), W.cell? ⟨lb, off + j, none⟩ = some us[j]) (hle : us.length ≤ kY) (m : Ext W c) :
    ∃ ad, (if kY = i + 1 then some (⟨lb, off, none⟩ : Addr) else some ⟨lb, off + (i + 1), none⟩) = some ad ∧ ∀ j u, (us.drop (i + 1))[j]? = some u → c.cell? (ad.add j) = some u := by
  by_cases h : kY = i + 1
  · rw [if_pos h]
    refine ⟨_, rfl, fun j u hu => ?_⟩
    rw [List.drop_eq_nil_of_le (by omega)] at hu
    cases hu
  · rw [if_neg h]
    exact ⟨_, rfl, newsT hce drop_news m⟩
theorem news1 {c : World} {g : Nat} {x : Value} (h : c.cell? ⟨g, 0, none⟩ = some x) : ∀ j u, [x][j]? = some u → c.cell? ((⟨g, 0, none⟩ : Addr).add j) = some u := fun j u hu => by
  cases j with
  | zero => rw [WideShapes.add_plain, Nat.add_zero, h]; simpa using hu
  | succ j => simp at hu
theorem set_app {us : List Value} {i : Nat} {x : Value} (h : i < us.length) : us.take i ++ [x] ++ us.drop (i + 1) = us.set i x := by
  rw [List.set_eq_take_append_cons_drop, if_pos h]; simp
theorem ints_lt {w : World} {lo hi : Nat} {v : Value} {xs : List Int} (h : K.ints w lo hi v xs) : K.ints w lo w.heap.size v xs := by
  obtain ⟨o, cap, rfl, h⟩ := h
  exact ⟨o, cap, rfl, fun hn => by obtain ⟨b, off, rfl, h1, h2, h3⟩ := h hn; exact ⟨b, off, rfl, h1, World.block_lt_of_cell? w _ (h3 0 (List.length_pos_iff.2 hn)), h3⟩⟩
theorem rows_set {W w : World} {T : TypeId} {g cap i hi : Nat} {us : List Value} {yss : List (List Int)} {m : List Int} {M : Value}
    (hown : w.ownsRow W.heap.size T 1 (.slice (some ⟨g, 0, none⟩) yss.length cap) yss.length (us.set i M)) (hul : us.length = yss.length)
    (hus : ∀ j (h : j < us.length) (h' : j < yss.length), K.ints W 0 hi us[j] yss[j]) (hhi : hi ≤ W.heap.size) (hM : K.ints W 0 W.heap.size M m) (e : Ext W w) :
    K.rows w 0 w.heap.size (.slice (some ⟨g, 0, none⟩) yss.length cap) (yss.set i m) := by
  have hw := e.size
  refine ⟨some ⟨g, 0, none⟩, cap, us.set i M, by simp, by simp [hul], fun hn => ⟨g, 0, rfl, Nat.zero_le _, ?_, fun k hk => ?_⟩, fun k h h' => ?_⟩
  · rcases hown.2 with ⟨h, _⟩ | ⟨g', _, _, h, _, hg, _⟩
    · cases h
    · cases h; exact (Array.getElem?_eq_some_iff.1 hg).1
  · have hk' : k < yss.length := by simp at hk; omega
    have := hown.cellAt k (by omega)
    rw [Nat.zero_add, this]
    simp [hul, hk']
  · have h1 : k < us.length := by simpa using h
    have h2 : k < yss.length := by simpa using h'
    by_cases hki : i = k
    · subst hki
      simp only [List.getElem_set_self]
      exact (hM.ext e).mono (Nat.le_refl _) hw
    · simp only [List.getElem_set_ne hki]
      exact ((hus k h1 h2).ext e).mono (Nat.le_refl _) (by omega)
theorem len_set {yss : List (List Int)} {m : List Int} (h : ∀ xs ∈ yss, (xs : List Int).length ≤ 1048576) (hm : m.length ≤ 1048576) (i : Nat) : ∀ xs ∈ yss.set i m, (xs : List Int).length ≤ 1048576 := fun xs hx => by
  rcases List.mem_or_eq_of_mem_set hx with h1 | h1
  · exact h xs h1
  · rw [h1]; exact hm
theorem ext_app {W w w' : World} {b : Option Nat} (hx : Ext W w) (hg : w.grownBy w' b) (hr : ∀ g, b = some g → W.heap.size ≤ g) : Ext W w' := hx.below.grown hg hx.size hr
theorem step_app {P : Program} {w : World} {ops : Array Oper} {o : Oper} {a : Act} {K : Act → World → Prop} {Q : Exit → Act → World → Prop} {E : Prop} (s x : Operand) (t : TypeId) (hgd : o.guard = none)
    (ho : o.op = .call { callee := .builtin .append, args := #[s, x], argTypes := #[t, t] })
    (base : Nat) (e : TypeId) (i : TypeInfo) (z : Value) (bytes : Nat) (ht : P.underlying t = some (.slice e)) (hi : P.info? e = some i) (hz : i.zero = some z) (hsize : i.size = 1) (hby : i.bytes = bytes)
    (v : Value) (n : Nat) (xs : List Value) (hs : a.eval s = v) (hown : w.ownsRow base e 1 v n xs) (hzs : z.cells.size = 1)
    (A : Option Addr) (m c : Nat) (news : List Value) (hx : a.eval x = .slice A m c) (hA : ∃ ad, A = some ad ∧ ∀ j u, news[j]? = some u → w.cell? (ad.add j) = some u) (hl : news.length = m) (h1 : ∀ u ∈ news, u.oneCell' = true)
    (h63 : n + m ≤ maxLen) (hbytes : (n + m) * bytes ≤ 140737488355328) (hv : v.ownBlock.isSome = true) (N : Nat) (XS : List Value) (hN : n + m = N) (hX : xs ++ news = XS) (hbase : base ≤ w.heap.size)
    (h : ∀ g cap w', w'.ownsRow base e 1 (.slice (some ⟨g, 0, none⟩) N cap) N XS → w.grownBy w' v.ownBlock → g < w'.heap.size → base ≤ g → K (a.put o.dst (.slice (some ⟨g, 0, none⟩) N cap)) w') :
    if Region.wanted o (yielded ops a.tmps) = true then Oper.wp P o a w K Q else E := by
  subst hN hX
  obtain ⟨ad, rfl, hnews⟩ := hA
  obtain ⟨v', w', hr, h2, h3, _, h5⟩ := run_append_own_at (P := P) w base t o.type e i z 1 bytes ht hi hz hsize hby hzs (by decide) v n xs hown ad m c news (by omega) hnews h1 h63 hbytes hbase
  have hv' : ∃ g cap, v' = .slice (some ⟨g, 0, none⟩) (n + m) cap ∧ base ≤ g ∧ g < w'.heap.size := by
    rcases h2.2 with ⟨rfl, _⟩ | ⟨g, cap, cur, rfl, hb, hg, _⟩
    · exfalso
      rcases h5 with h5 | h5
      · rw [← h5] at hv; cases hv
      · cases h5
    · exact ⟨g, cap, rfl, hb, (Array.getElem?_eq_some_iff.1 hg).1⟩
  obtain ⟨g, cap, rfl, hb, hlt⟩ := hv'
  rw [if_pos (by simp [Region.wanted, hgd])]
  unfold Oper.wp execOp
  simp only [ho, resolve, invoke, builtin, Sem.run_bind, Sem.run_pure, Result.andThen_ok, List.map_toArray, List.map_cons, List.map_nil, hs, hx, hr]
  exact h g cap w' h2 h3 hlt hb
end Go.K
namespace Go.Proofs.Ythmnlbgbacbocaa
open Go.RowKit
theorem impl_MulBackU {u v a : List Int} (hr : Z.MultiplyUnits v u = (a, 0)) {lo hi lo' hi' : Nat} {p q : Value} (w : World) (hm : v.length ≤ 1048576) (hm' : u.length ≤ 1048576) (h : K.ints w lo hi p v) (h' : K.ints w lo' hi' q u) :
    Calls Try.prog 11 #[p, q] w fun e w' => (∃ r, e = .returned (.tuple #[r, .int .i64 0]) ∧ K.own w' w.heap.size w'.heap.size r a) ∧ K.Ext w w' := by
  have k := impl_MultiplyUnits v u _ _ _ _ _ _ w hm hm' h h'
  rw [hr] at k
  exact k
theorem impl_IsFittingU {F : Z.Fm} {U : List (List Int)} {r : List Int} (hr : Z.IsFitting F U r = (true, 0)) {pF : Value} {l1 h1 l2 h2 l3 h3 : Nat} {p q : Value} (w : World) (hmF : F.pw.length ≤ 1048576) (hnF : F.nm.size ≤ 1048576) (h : K.ints w l1 h1 pF F.pw) (hmU : U.length ≤ 1048576) (hqU : ∀ xs ∈ U, (xs : List Int).length ≤ 1048576) (h' : K.rows w l2 h2 p U) (hmr : r.length ≤ 1048576) (h'' : K.ints w l3 h3 q r) :
    Calls Try.prog 22 #[.agg #[.int .i64 F.dg, .int .i64 F.tn, .string F.nm, pF], p, q] w fun e w' => e = .returned (.tuple #[.bool true, .int .i64 0]) ∧ K.Ext w w' := by
  have k := impl_IsFitting F U r w hmF hnF h hmU hqU h' hmr h''
  rw [hr] at k
  exact k
set_option maxRecDepth 100000 in
set_option maxHeartbeats 12800000 in
theorem law_FnUnits {n : Nat} {v : Value} (w : World) (h : K.byts w w.heap.size v n) :
    Calls Try.prog 3 #[v] w fun e w' => e = .returned (.bool true) ∧ K.Ext w w' := by
  have F0 : K.Ext w w := K.Ext.refl _
  rcases Nat.lt_or_ge 4096 n with hn | hn
  · go_enter Try.func3, Try.ntmps3
    go_wp2_with fail
    refine K.call (by with_reducible rfl) (by with_reducible rfl) (big_yes _ hn h) ?_
    rintro e w1 ⟨rfl, rfl⟩
    go_wp2_with fail
    go_ret
    exact ⟨rfl, F0⟩
  go_enter Try.func3, Try.ntmps3
  go_wp2_with fail
  refine K.call (by with_reducible rfl) (by with_reducible rfl) (big_no _ hn h) ?_
  rintro e w1 ⟨rfl, rfl⟩
  go_wp2_with fail
  refine K.call (by with_reducible rfl) (by with_reducible rfl) (DrawMultiplyUnits_any _ hn (K.Ext.size (K.bex F0)) (h.ext (K.bex F0))) ?_
  rintro e w1 ⟨⟨vU, vV, u, v, rfl, u4, v4, hU, hV⟩, f1⟩
  obtain ⟨oU, kU, rfl, _⟩ := id (hU)
  have IU_1 : K.ints w1 0 w1.heap.size (.slice oU u.length kU) u := (hU).mono (Nat.zero_le _) (by omega)
  obtain ⟨oV, kV, rfl, _⟩ := id (hV)
  have IV_1 : K.ints w1 0 w1.heap.size (.slice oV v.length kV) v := (hV).mono (Nat.zero_le _) (by omega)
  have F1 : K.Ext w w1 := K.Ext.trans (K.bex F0) f1
  clear f1
  go_wp2_with fail
  refine K.call (by with_reducible rfl) (by with_reducible rfl) (impl_MultiplyUnits u v _ _ _ _ _ _ _ (by omega) (by omega) (K.bin IU_1) (K.bin IV_1)) ?_
  rintro e w2 ⟨⟨vP, rfl, hP⟩, f2⟩
  have JP := K.own.ints hP
  obtain ⟨oP, kP, rfl, _⟩ := id (JP)
  have IP_2 : K.ints w2 0 w2.heap.size (.slice oP (Z.MultiplyUnits u v).1.length kP) (Z.MultiplyUnits u v).1 := (JP).mono (Nat.zero_le _) (by omega)
  have F2 : K.Ext w w2 := K.Ext.trans (K.bex F1) f2
  have IU_2 := K.ints.ext (K.bin IU_1) f2
  have IV_2 := K.ints.ext (K.bin IV_1) f2
  clear IU_1 IV_1 F1 f2
  go_wp2_with fail
  refine K.call (by with_reducible rfl) (by with_reducible rfl) (spec_MultiplyUnits u v _ _ _ _ _ _ _ (by omega) (by omega) (K.bin IU_2) (K.bin IV_2)) ?_
  rintro e w3 ⟨⟨vQ, rfl, hQ⟩, f3⟩
  obtain ⟨oQ, kQ, rfl, _⟩ := id (hQ)
  have IQ_3 : K.ints w3 0 w3.heap.size (.slice oQ (Z.MultiplyUnits u v).1.length kQ) (Z.MultiplyUnits u v).1 := (hQ).mono (Nat.zero_le _) (by omega)
  have F3 : K.Ext w w3 := K.Ext.trans (K.bex F2) f3
  have IU_3 := K.ints.ext (K.bin IU_2) f3
  have IV_3 := K.ints.ext (K.bin IV_2) f3
  have IP_3 := K.ints.ext (K.bin IP_2) f3
  clear IU_2 IV_2 IP_2 F2 f3
  go_wp2_with fail
  refine K.call (by with_reducible rfl) (by with_reducible rfl) (DrawUnitOf_any _ hn (K.Ext.size (K.bex F3)) (h.ext (K.bex F3))) ?_
  rintro e w4 ⟨⟨F, pF, vX, xss, rfl, ⟨a1, a2⟩, hF1, ⟨x8, x4⟩, hX, _⟩, f4⟩
  obtain ⟨oF, kF, rfl, _⟩ := id (hF1)
  have IF_4 : K.ints w4 0 w4.heap.size (.slice oF F.pw.length kF) F.pw := (hF1).mono (Nat.zero_le _) (by omega)
  obtain ⟨oX, kX, usX, rfl, _⟩ := id (hX)
  have IX_4 : K.rows w4 0 w4.heap.size (.slice oX xss.length kX) xss := K.rows.mono (hX) (Nat.zero_le _) (by omega)
  have F4 : K.Ext w w4 := K.Ext.trans (K.bex F3) f4
  have IU_4 := K.ints.ext (K.bin IU_3) f4
  have IV_4 := K.ints.ext (K.bin IV_3) f4
  have IP_4 := K.ints.ext (K.bin IP_3) f4
  have IQ_4 := K.ints.ext (K.bin IQ_3) f4
  clear IU_3 IV_3 IP_3 IQ_3 F3 f4
  have HQ := Z.hide (show ∀ xs ∈ xss, (xs : List Int).length ≤ 1048576 from fun xs hx => Nat.le_trans (x4 xs hx) (by decide))
  clear x4
  go_wp2_with fail
  refine K.call (by with_reducible rfl) (by with_reducible rfl) (impl_UnitOf F xss _ (by omega) (by omega) (K.bin IF_4) (by omega) HQ.out (show K.rows _ 0 w4.heap.size (.slice oX xss.length kX) xss from by with_reducible repeat' (first | exact IX_4 | refine K.rows.alloc ?_ _ | refine K.rows.drew ?_ | refine K.rows.set ?_ _ ?_ _ | (dsimp only; omega) | omega | (simp; done) | (simp; omega)))) ?_
  rintro e w5 ⟨⟨vR, rfl, hR⟩, f5⟩
  have JR := K.own.ints hR
  obtain ⟨oR, kR, rfl, _⟩ := id (JR)
  have IR_5 : K.ints w5 0 w5.heap.size (.slice oR (Z.UnitOf F xss).1.length kR) (Z.UnitOf F xss).1 := (JR).mono (Nat.zero_le _) (by omega)
  have F5 : K.Ext w w5 := K.Ext.trans (K.bex F4) f5
  have c5_0_0 : w5.cell? ⟨w4.heap.size, 0, none⟩ = some (.int .i64 F.dg) := f5.cell_of (by go_simp)
  have c5_0_1 : w5.cell? ⟨w4.heap.size, 1, none⟩ = some (.int .i64 F.tn) := f5.cell_of (by go_simp)
  have c5_0_2 : w5.cell? ⟨w4.heap.size, 2, none⟩ = some (.string F.nm) := f5.cell_of (by go_simp)
  have c5_0_3 : w5.cell? ⟨w4.heap.size, 3, none⟩ = some (.slice oF F.pw.length kF) := f5.cell_of (by go_simp)
  have y5_0 : w4.heap.size < w5.heap.size := World.block_lt_of_cell? w5 _ c5_0_0
  have IU_5 := K.ints.ext (K.bin IU_4) f5
  have IV_5 := K.ints.ext (K.bin IV_4) f5
  have IP_5 := K.ints.ext (K.bin IP_4) f5
  have IQ_5 := K.ints.ext (K.bin IQ_4) f5
  have IF_5 := K.ints.ext (K.bin IF_4) f5
  have IX_5 := K.rows.ext (show K.rows _ 0 w4.heap.size (.slice oX xss.length kX) xss from by with_reducible repeat' (first | exact IX_4 | refine K.rows.alloc ?_ _ | refine K.rows.drew ?_ | refine K.rows.set ?_ _ ?_ _ | (dsimp only; omega) | omega | (simp; done) | (simp; omega))) f5
  clear IU_4 IV_4 IP_4 IQ_4 IF_4 IX_4 F4 f5
  go_wp2_with fail
  refine K.call (by with_reducible rfl) (by with_reducible rfl) (spec_UnitOf F xss _ (by omega) (by omega) (K.bin IF_5) (by omega) HQ.out (show K.rows _ 0 w4.heap.size (.slice oX xss.length kX) xss from by with_reducible repeat' (first | exact IX_5 | refine K.rows.alloc ?_ _ | refine K.rows.drew ?_ | refine K.rows.set ?_ _ ?_ _ | (dsimp only; omega) | omega | (simp; done) | (simp; omega)))) ?_
  rintro e w6 ⟨⟨vS, rfl, hS⟩, f6⟩
  obtain ⟨oS, kS, rfl, _⟩ := id (hS)
  have IS_6 : K.ints w6 0 w6.heap.size (.slice oS (Z.UnitOf F xss).1.length kS) (Z.UnitOf F xss).1 := (hS).mono (Nat.zero_le _) (by omega)
  have F6 : K.Ext w w6 := K.Ext.trans (K.bex F5) f6
  obtain ⟨c6_0_0, c6_0_1, c6_0_2, c6_0_3, y6_0⟩ := f6.q4 c5_0_0 c5_0_1 c5_0_2 c5_0_3
  have IU_6 := K.ints.ext (K.bin IU_5) f6
  have IV_6 := K.ints.ext (K.bin IV_5) f6
  have IP_6 := K.ints.ext (K.bin IP_5) f6
  have IQ_6 := K.ints.ext (K.bin IQ_5) f6
  have IF_6 := K.ints.ext (K.bin IF_5) f6
  have IX_6 := K.rows.ext (show K.rows _ 0 w4.heap.size (.slice oX xss.length kX) xss from by with_reducible repeat' (first | exact IX_5 | refine K.rows.alloc ?_ _ | refine K.rows.drew ?_ | refine K.rows.set ?_ _ ?_ _ | (dsimp only; omega) | omega | (simp; done) | (simp; omega))) f6
  have IR_6 := K.ints.ext (K.bin IR_5) f6
  clear c5_0_0 c5_0_1 c5_0_2 c5_0_3 y5_0 IU_5 IV_5 IP_5 IQ_5 IF_5 IX_5 IR_5 F5 f6
  clear HQ
  go_wp2_with fail
  refine K.call (by with_reducible rfl) (by with_reducible rfl) (DrawMissingUnit_any _ hn (K.Ext.size (K.bex F6)) (h.ext (K.bex F6))) ?_
  rintro e w7 ⟨⟨G, pG, vY, yss, ix, vr, r, rfl, ⟨b1, b2⟩, hG1, ⟨y8, y4⟩, hY, hCap, ⟨r3, r4⟩, hr⟩, f7⟩
  obtain ⟨oG, kG, rfl, _⟩ := id (hG1)
  have IG_7 : K.ints w7 0 w7.heap.size (.slice oG G.pw.length kG) G.pw := (hG1).mono (Nat.zero_le _) (by omega)
  obtain ⟨or, kr, rfl, _⟩ := id (hr)
  have Ir_7 : K.ints w7 0 w7.heap.size (.slice or r.length kr) r := (hr).mono (Nat.zero_le _) (by omega)
  obtain ⟨oY, kY, usY, rfl, _⟩ := id (hY)
  have IY_7 : K.rows w7 0 w7.heap.size (.slice oY yss.length kY) yss := K.rows.mono (hY) (Nat.zero_le _) (by omega)
  have F7 : K.Ext w w7 := K.Ext.trans (K.bex F6) f7
  have IU_7 := K.ints.ext (K.bin IU_6) f7
  have IV_7 := K.ints.ext (K.bin IV_6) f7
  have IP_7 := K.ints.ext (K.bin IP_6) f7
  have IQ_7 := K.ints.ext (K.bin IQ_6) f7
  have IR_7 := K.ints.ext (K.bin IR_6) f7
  have IS_7 := K.ints.ext (K.bin IS_6) f7
  clear c6_0_0 c6_0_1 c6_0_2 c6_0_3 y6_0 IU_6 IV_6 IP_6 IQ_6 IR_6 IS_6 F6 f7
  have HQ := Z.hide (show ∀ xs ∈ yss, (xs : List Int).length ≤ 1048576 from fun xs hx => Nat.le_trans (y4 xs hx) (by decide))
  clear y4
  go_wp2_with fail
  refine K.call (by with_reducible rfl) (by with_reducible rfl) (impl_MissingUnit G yss ix r _ (by omega) (by omega) (K.bin IG_7) (by omega) HQ.out (show K.rows _ 0 w7.heap.size (.slice oY yss.length kY) yss from by with_reducible repeat' (first | exact IY_7 | refine K.rows.alloc ?_ _ | refine K.rows.drew ?_ | refine K.rows.set ?_ _ ?_ _ | (dsimp only; omega) | omega | (simp; done) | (simp; omega))) (by omega) (K.bin Ir_7)) ?_
  rintro e w8 ⟨⟨vM, rfl, hM⟩, f8⟩
  have JM := K.own.ints hM
  obtain ⟨oM, kM, rfl, _⟩ := id (JM)
  have IM_8 : K.ints w8 0 w8.heap.size (.slice oM (Z.MissingUnit G yss ix r).1.length kM) (Z.MissingUnit G yss ix r).1 := (JM).mono (Nat.zero_le _) (by omega)
  have F8 : K.Ext w w8 := K.Ext.trans (K.bex F7) f8
  have c8_1_0 : w8.cell? ⟨w7.heap.size, 0, none⟩ = some (.int .i64 G.dg) := f8.cell_of (by go_simp)
  have c8_1_1 : w8.cell? ⟨w7.heap.size, 1, none⟩ = some (.int .i64 G.tn) := f8.cell_of (by go_simp)
  have c8_1_2 : w8.cell? ⟨w7.heap.size, 2, none⟩ = some (.string G.nm) := f8.cell_of (by go_simp)
  have c8_1_3 : w8.cell? ⟨w7.heap.size, 3, none⟩ = some (.slice oG G.pw.length kG) := f8.cell_of (by go_simp)
  have y8_1 : w7.heap.size < w8.heap.size := World.block_lt_of_cell? w8 _ c8_1_0
  have IU_8 := K.ints.ext (K.bin IU_7) f8
  have IV_8 := K.ints.ext (K.bin IV_7) f8
  have IP_8 := K.ints.ext (K.bin IP_7) f8
  have IQ_8 := K.ints.ext (K.bin IQ_7) f8
  have IR_8 := K.ints.ext (K.bin IR_7) f8
  have IS_8 := K.ints.ext (K.bin IS_7) f8
  have IG_8 := K.ints.ext (K.bin IG_7) f8
  have Ir_8 := K.ints.ext (K.bin Ir_7) f8
  have IY_8 := K.rows.ext (show K.rows _ 0 w7.heap.size (.slice oY yss.length kY) yss from by with_reducible repeat' (first | exact IY_7 | refine K.rows.alloc ?_ _ | refine K.rows.drew ?_ | refine K.rows.set ?_ _ ?_ _ | (dsimp only; omega) | omega | (simp; done) | (simp; omega))) f8
  clear IU_7 IV_7 IP_7 IQ_7 IR_7 IS_7 IG_7 Ir_7 IY_7 F7 f8
  go_wp2_with fail
  refine K.call (by with_reducible rfl) (by with_reducible rfl) (spec_MissingUnit G yss ix r _ (by omega) (by omega) (K.bin IG_8) (by omega) HQ.out (show K.rows _ 0 w7.heap.size (.slice oY yss.length kY) yss from by with_reducible repeat' (first | exact IY_8 | refine K.rows.alloc ?_ _ | refine K.rows.drew ?_ | refine K.rows.set ?_ _ ?_ _ | (dsimp only; omega) | omega | (simp; done) | (simp; omega))) (by omega) (K.bin Ir_8)) ?_
  rintro e w9 ⟨⟨vN, rfl, hN⟩, f9⟩
  obtain ⟨oN, kN, rfl, _⟩ := id (hN)
  have IN_9 : K.ints w9 0 w9.heap.size (.slice oN (Z.MissingUnit G yss ix r).1.length kN) (Z.MissingUnit G yss ix r).1 := (hN).mono (Nat.zero_le _) (by omega)
  have F9 : K.Ext w w9 := K.Ext.trans (K.bex F8) f9
  obtain ⟨c9_1_0, c9_1_1, c9_1_2, c9_1_3, y9_1⟩ := f9.q4 c8_1_0 c8_1_1 c8_1_2 c8_1_3
  have IU_9 := K.ints.ext (K.bin IU_8) f9
  have IV_9 := K.ints.ext (K.bin IV_8) f9
  have IP_9 := K.ints.ext (K.bin IP_8) f9
  have IQ_9 := K.ints.ext (K.bin IQ_8) f9
  have IR_9 := K.ints.ext (K.bin IR_8) f9
  have IS_9 := K.ints.ext (K.bin IS_8) f9
  have IG_9 := K.ints.ext (K.bin IG_8) f9
  have Ir_9 := K.ints.ext (K.bin Ir_8) f9
  have IY_9 := K.rows.ext (show K.rows _ 0 w7.heap.size (.slice oY yss.length kY) yss from by with_reducible repeat' (first | exact IY_8 | refine K.rows.alloc ?_ _ | refine K.rows.drew ?_ | refine K.rows.set ?_ _ ?_ _ | (dsimp only; omega) | omega | (simp; done) | (simp; omega))) f9
  have IM_9 := K.ints.ext (K.bin IM_8) f9
  clear c8_1_0 c8_1_1 c8_1_2 c8_1_3 y8_1 IU_8 IV_8 IP_8 IQ_8 IR_8 IS_8 IG_8 Ir_8 IY_8 IM_8 F8 f9
  have m1 := Z.MultiplyUnits_len u v
  have m2 := Z.UnitOf_le F xss
  have m3 := Z.MissingUnit_le G yss ix r
  go_wp2_with fail
  refine K.call (by with_reducible rfl) (by with_reducible rfl) (likeInts_same (Z.MultiplyUnits u v).1 _ _ _ _ _ _ _ m1 (K.bin IP_9) (K.bin IQ_9)) ?_
  rintro e w10 ⟨rfl, f10⟩
  have F10 : K.Ext w w10 := K.Ext.trans (K.bex F9) f10
  obtain ⟨c10_1_0, c10_1_1, c10_1_2, c10_1_3, y10_1⟩ := f10.q4 c9_1_0 c9_1_1 c9_1_2 c9_1_3
  have IU_10 := K.ints.ext (K.bin IU_9) f10
  have IV_10 := K.ints.ext (K.bin IV_9) f10
  have IP_10 := K.ints.ext (K.bin IP_9) f10
  have IQ_10 := K.ints.ext (K.bin IQ_9) f10
  have IR_10 := K.ints.ext (K.bin IR_9) f10
  have IS_10 := K.ints.ext (K.bin IS_9) f10
  have IG_10 := K.ints.ext (K.bin IG_9) f10
  have Ir_10 := K.ints.ext (K.bin Ir_9) f10
  have IY_10 := K.rows.ext (show K.rows _ 0 w7.heap.size (.slice oY yss.length kY) yss from by with_reducible repeat' (first | exact IY_9 | refine K.rows.alloc ?_ _ | refine K.rows.drew ?_ | refine K.rows.set ?_ _ ?_ _ | (dsimp only; omega) | omega | (simp; done) | (simp; omega))) f10
  have IM_10 := K.ints.ext (K.bin IM_9) f10
  have IN_10 := K.ints.ext (K.bin IN_9) f10
  clear c9_1_0 c9_1_1 c9_1_2 c9_1_3 y9_1 IU_9 IV_9 IP_9 IQ_9 IR_9 IS_9 IG_9 Ir_9 IY_9 IM_9 IN_9 F9 f10
  go_wp2_with fail
  refine K.call (by with_reducible rfl) (by with_reducible rfl) (likeInts_same (Z.UnitOf F xss).1 _ _ _ _ _ _ _ m2 (K.bin IR_10) (K.bin IS_10)) ?_
  rintro e w11 ⟨rfl, f11⟩
  have F11 : K.Ext w w11 := K.Ext.trans (K.bex F10) f11
  obtain ⟨c11_1_0, c11_1_1, c11_1_2, c11_1_3, y11_1⟩ := f11.q4 c10_1_0 c10_1_1 c10_1_2 c10_1_3
  have IU_11 := K.ints.ext (K.bin IU_10) f11
  have IV_11 := K.ints.ext (K.bin IV_10) f11
  have IP_11 := K.ints.ext (K.bin IP_10) f11
  have IR_11 := K.ints.ext (K.bin IR_10) f11
  have IS_11 := K.ints.ext (K.bin IS_10) f11
  have IG_11 := K.ints.ext (K.bin IG_10) f11
  have Ir_11 := K.ints.ext (K.bin Ir_10) f11
  have IY_11 := K.rows.ext (show K.rows _ 0 w7.heap.size (.slice oY yss.length kY) yss from by with_reducible repeat' (first | exact IY_10 | refine K.rows.alloc ?_ _ | refine K.rows.drew ?_ | refine K.rows.set ?_ _ ?_ _ | (dsimp only; omega) | omega | (simp; done) | (simp; omega))) f11
  have IM_11 := K.ints.ext (K.bin IM_10) f11
  have IN_11 := K.ints.ext (K.bin IN_10) f11
  clear c10_1_0 c10_1_1 c10_1_2 c10_1_3 y10_1 IU_10 IV_10 IP_10 IR_10 IS_10 IG_10 Ir_10 IY_10 IM_10 IN_10 F10 f11
  go_wp2_with fail
  refine K.call (by with_reducible rfl) (by with_reducible rfl) (likeInts_same (Z.MissingUnit G yss ix r).1 _ _ _ _ _ _ _ m3 (K.bin IM_11) (K.bin IN_11)) ?_
  rintro e w12 ⟨rfl, f12⟩
  have F12 : K.Ext w w12 := K.Ext.trans (K.bex F11) f12
  obtain ⟨c12_1_0, c12_1_1, c12_1_2, c12_1_3, y12_1⟩ := f12.q4 c11_1_0 c11_1_1 c11_1_2 c11_1_3
  have IU_12 := K.ints.ext (K.bin IU_11) f12
  have IV_12 := K.ints.ext (K.bin IV_11) f12
  have IP_12 := K.ints.ext (K.bin IP_11) f12
  have IG_12 := K.ints.ext (K.bin IG_11) f12
  have Ir_12 := K.ints.ext (K.bin Ir_11) f12
  have IY_12 := K.rows.ext (show K.rows _ 0 w7.heap.size (.slice oY yss.length kY) yss from by with_reducible repeat' (first | exact IY_11 | refine K.rows.alloc ?_ _ | refine K.rows.drew ?_ | refine K.rows.set ?_ _ ?_ _ | (dsimp only; omega) | omega | (simp; done) | (simp; omega))) f12
  have IM_12 := K.ints.ext (K.bin IM_11) f12
  have IN_12 := K.ints.ext (K.bin IN_11) f12
  clear c11_1_0 c11_1_1 c11_1_2 c11_1_3 y11_1 IU_11 IV_11 IP_11 IG_11 Ir_11 IY_11 IM_11 IN_11 F11 f12
  go_wp2_with fail
  refine K.call (by with_reducible rfl) (by with_reducible rfl) (impl_IsUnit u _ _ _ _ (by omega) (K.bin IU_12)) ?_
  rintro e _ ⟨rfl, rfl⟩
  go_wp2_with fail
  refine K.call (by with_reducible rfl) (by with_reducible rfl) (spec_IsUnit u _ _ _ _ (by omega) (K.bin IU_12)) ?_
  rintro e _ ⟨rfl, rfl⟩
  by_cases h3 : (Z.MissingUnit G yss ix r).2 = 0
  · as_aux_lemma =>
      obtain ⟨i, hi, hil, hl6, hmu, hall, hfit⟩ := Z.missing_law h3
      subst hi
      obtain ⟨oo, cc, he_, hle⟩ := hCap
      simp only [Value.slice.injEq] at he_
      obtain ⟨rfl, _, rfl⟩ := he_
      have HYR := Z.hide IY_12
      obtain ⟨o_, c_, us, hv_, hul, hbl, hus⟩ := id IY_12
      simp only [Value.slice.injEq] at hv_
      obtain ⟨rfl, _, rfl⟩ := hv_
      obtain ⟨lb, off, rfl, _, hlb, hcell⟩ := hbl (by intro h0; rw [h0] at hil; simp at hil)
      clear hbl
      have HONE := Z.hide (show ∀ u ∈ us, (u : Value).oneCell' = true from fun u hu => by obtain ⟨j, hj, rfl⟩ := List.getElem_of_mem hu; obtain ⟨_, _, h_, _⟩ := hus j hj (by omega); rw [h_]; rfl)
      have HUS := Z.hide hus
      have HUL := Z.hide hul
      have HCE := Z.hide hcell
      clear hus hul hcell IY_12
      have HFIT := Z.hide hfit
      have HALL := Z.hide hall
      have HMU := Z.hide hmu
      clear hfit hall hmu
      have i0 : (0 : Int) ≤ (i : Int) := Int.natCast_nonneg i
      have i1 : (i : Int) < (yss.length : Int) := by omega
      have i3 : (i : Int) ≤ (kY : Int) := by omega
      have i4 : (i : Int) + 1 ≤ (yss.length : Int) := by omega
      have i5 : (yss.length : Int) ≤ (kY : Int) := by omega
      have i6 : (0 : Int) ≤ (i : Int) + 1 := by omega
      have qi : IntKind.i64.wrap ((i : Int) + 1) = (i : Int) + 1 := IntWalk.i64_in _ (by omega)
      go_wp2_with fail
      obtain ⟨it0, hi0, hz0, hz1, hz2⟩ := info_parts info_ss2
      go_region_held3 (fun w' => True) (exact trivial) (first | (have t_ := e2; (refine K.step_app (.tmp 134) (.tmp 138) 33 (by rfl) (by rfl) w12.heap.size 24 it0 _ 24 Try.underlying33 hi0 hz0 hz1 hz2 (.slice (some ⟨g3, 0, none⟩) (i + 1) cap3) (i + 1) (us.take i ++ [.slice oM (Z.MissingUnit G yss (i : Int) r).1.length kM]) rfl (hown2) rfl (if kY = i + 1 then some ⟨lb, off, none⟩ else some ⟨lb, off + (i + 1), none⟩) (yss.length - (i + 1)) (kY - (i + 1)) (us.drop (i + 1)) rfl (K.news_if HCE.out (by rw [HUL.out]; omega) e2) (by rw [List.length_drop, HUL.out]) (fun u hu => HONE.out u (List.mem_of_mem_drop hu)) (by unfold maxLen; omega) (by omega) rfl (yss.length) (us.set i (.slice oM (Z.MissingUnit G yss (i : Int) r).1.length kM)) (by omega) (K.set_app (by rw [HUL.out]; omega)) (by first | (simp; done) | (simp; omega) | omega) ?_; intro g4 cap4 w13 hown3 hgrow3 hlt3 hge3; have f13 : K.Ext w12 w13 := K.ext_app e2 hgrow3 (by intro g h_; simp [Value.ownBlock] at h_; omega))) | (have t_ := e1; (refine K.step_app (.tmp 131) (.tmp 133) 33 (by rfl) (by rfl) w12.heap.size 24 it0 _ 24 Try.underlying33 hi0 hz0 hz1 hz2 (.slice (some ⟨g2, 0, none⟩) i cap2) (i) (us.take i) rfl (by first | with_reducible exact hown1 | with_reducible exact hown1.alloc _ | with_reducible exact (hown1.alloc _).drew) rfl (some ⟨_, 0, none⟩) (1) (1) ([.slice oM (Z.MissingUnit G yss (i : Int) r).1.length kM]) rfl (⟨⟨_, 0, none⟩, rfl, K.news1 (by first | (go_simp; done) | exact hgrow1.cell (by go_simp) (by simp [Value.ownBlock]))⟩) rfl (fun u hu => by simp at hu; subst hu; rfl) (by unfold maxLen; omega) (by omega) rfl (i + 1) (us.take i ++ [.slice oM (Z.MissingUnit G yss (i : Int) r).1.length kM]) (by omega) (rfl) (by first | (simp; done) | (simp; omega) | omega) ?_; intro g3 cap3 wb hown2 hgrow2 hlt2 hge2; have e2 : K.Ext w12 wb := K.ext_app (by repeat' (first | with_reducible exact K.Ext.refl _ | with_reducible assumption | with_reducible refine K.Ext.alloc ?_ _ | with_reducible refine K.Ext.drew ?_)) hgrow2 (by intro g h_; simp [Value.ownBlock] at h_; omega))) | (refine K.step_app (.tmp 127) (.tmp 130) 33 (by rfl) (by rfl) w12.heap.size 24 it0 _ 24 Try.underlying33 hi0 hz0 hz1 hz2 (.slice (some ⟨_, 0, none⟩) 0 0) (0) ([]) rfl ((by repeat' (first | (refine K.row_lit0 ?_ ?_) | refine World.ownsRow.alloc ?_ _ | refine World.ownsRow.drew ?_ | (simp; done) | (simp; omega) | omega))) rfl (some ⟨lb, off, none⟩) (i) (kY) (us.take i) rfl (⟨⟨lb, off + 0, none⟩, rfl, K.newsT HCE.out K.take_news (by repeat' (first | with_reducible exact K.Ext.refl _ | with_reducible assumption | with_reducible refine K.Ext.alloc ?_ _ | with_reducible refine K.Ext.drew ?_))⟩) (by rw [List.length_take, HUL.out]; omega) (fun u hu => HONE.out u (List.mem_of_mem_take hu)) (by unfold maxLen; omega) (by omega) rfl (i) (us.take i) (by omega) (rfl) (by first | (simp; done) | (simp; omega) | omega) ?_; intro g2 cap2 wa hown1 hgrow1 hlt1 hge1; have e1 : K.Ext w12 wa := K.ext_app (by repeat' (first | with_reducible exact K.Ext.refl _ | with_reducible assumption | with_reducible refine K.Ext.alloc ?_ _ | with_reducible refine K.Ext.drew ?_)) hgrow1 (by intro g h_; simp [Value.ownBlock] at h_; omega)))
      all_goals
        by_cases hk1 : kY = i + 1
        all_goals
          have IZ_13 : K.rows w13 0 w13.heap.size (.slice (some ⟨g4, 0, none⟩) yss.length cap4) (yss.set i (Z.MissingUnit G yss (i : Int) r).1) := K.rows_set hown3 HUL.out HUS.out (by omega) (K.ints_lt (K.bin IM_12)) f13
          have HQZ := Z.hide (K.len_set (m := (Z.MissingUnit G yss (i : Int) r).1) HQ.out (by omega) i)
          have F13 : K.Ext w w13 := K.Ext.trans (K.bex F12) f13
          obtain ⟨c13_1_0, c13_1_1, c13_1_2, c13_1_3, y13_1⟩ := f13.q4 c12_1_0 c12_1_1 c12_1_2 c12_1_3
          have IU_13 := K.ints.ext (K.bin IU_12) f13
          have IV_13 := K.ints.ext (K.bin IV_12) f13
          have IP_13 := K.ints.ext (K.bin IP_12) f13
          have IG_13 := K.ints.ext (K.bin IG_12) f13
          have Ir_13 := K.ints.ext (K.bin Ir_12) f13
          have IM_13 := K.ints.ext (K.bin IM_12) f13
          clear c12_1_0 c12_1_1 c12_1_2 c12_1_3 y12_1 IU_12 IV_12 IP_12 IG_12 Ir_12 IM_12 F12 f13
          clear hown3
          go_wp2_with fail
          refine K.call (by with_reducible rfl) (by with_reducible rfl) (impl_IsFittingU (F := G) (U := yss.set i (Z.MissingUnit G yss (i : Int) r).1) (r := r) HFIT.out _ (by omega) (by omega) (K.bin IG_13) (by simp; omega) HQZ.out (show K.rows _ 0 w13.heap.size (.slice (some ⟨g4, 0, none⟩) yss.length cap4) (yss.set i (Z.MissingUnit G yss (i : Int) r).1) from by with_reducible repeat' (first | exact IZ_13 | refine K.rows.alloc ?_ _ | refine K.rows.drew ?_ | refine K.rows.set ?_ _ ?_ _ | (dsimp only; omega) | omega | (simp; done) | (simp; omega))) (by omega) (K.bin Ir_13)) ?_
          rintro e w14 ⟨rfl, f14⟩
          have F14 : K.Ext w w14 := K.Ext.trans (K.bex F13) f14
          obtain ⟨c14_1_0, c14_1_1, c14_1_2, c14_1_3, y14_1⟩ := f14.q4 c13_1_0 c13_1_1 c13_1_2 c13_1_3
          have IU_14 := K.ints.ext (K.bin IU_13) f14
          have IV_14 := K.ints.ext (K.bin IV_13) f14
          have IP_14 := K.ints.ext (K.bin IP_13) f14
          have IG_14 := K.ints.ext (K.bin IG_13) f14
          have Ir_14 := K.ints.ext (K.bin Ir_13) f14
          have IZ_14 := K.rows.ext (show K.rows _ 0 w13.heap.size (.slice (some ⟨g4, 0, none⟩) yss.length cap4) (yss.set i (Z.MissingUnit G yss (i : Int) r).1) from by with_reducible repeat' (first | exact IZ_13 | refine K.rows.alloc ?_ _ | refine K.rows.drew ?_ | refine K.rows.set ?_ _ ?_ _ | (dsimp only; omega) | omega | (simp; done) | (simp; omega))) f14
          clear c13_1_0 c13_1_1 c13_1_2 c13_1_3 y13_1 IU_13 IV_13 IP_13 IG_13 Ir_13 IZ_13 F13 f14
          by_cases hb : (Z.MultiplyUnits u v).2 = 0
          · as_aux_lemma =>
              obtain ⟨k1, k2⟩ := Z.units_law hb
              have hm : Hid (Z.MultiplyUnits v u = ((Z.MultiplyUnits u v).1, 0)) := Z.hide k1
              clear k1
              go_wp2_with fail
              refine K.call (by with_reducible rfl) (by with_reducible rfl) (impl_MulBackU (u := u) (v := v) hm.out _ (by omega) (by omega) (K.bin IV_14) (K.bin IU_14)) ?_
              rintro e w15 ⟨⟨vB, rfl, hB⟩, f15⟩
              have JB := K.own.ints hB
              obtain ⟨oB, kB, rfl, _⟩ := id (JB)
              have IB_15 : K.ints w15 0 w15.heap.size (.slice oB (Z.MultiplyUnits u v).1.length kB) (Z.MultiplyUnits u v).1 := (JB).mono (Nat.zero_le _) (by omega)
              have F15 : K.Ext w w15 := K.Ext.trans (K.bex F14) f15
              have IU_15 := K.ints.ext (K.bin IU_14) f15
              have IV_15 := K.ints.ext (K.bin IV_14) f15
              have IP_15 := K.ints.ext (K.bin IP_14) f15
              clear c14_1_0 c14_1_1 c14_1_2 c14_1_3 y14_1 IU_14 IV_14 IP_14 F14 f15
              go_wp2_with fail
              refine K.call (by with_reducible rfl) (by with_reducible rfl) (likeInts_same (Z.MultiplyUnits u v).1 _ _ _ _ _ _ _ m1 (K.bin IB_15) (K.bin IP_15)) ?_
              rintro e w16 ⟨rfl, f16⟩
              have F16 : K.Ext w w16 := K.Ext.trans (K.bex F15) f16
              have IU_16 := K.ints.ext (K.bin IU_15) f16
              have IV_16 := K.ints.ext (K.bin IV_15) f16
              have IP_16 := K.ints.ext (K.bin IP_15) f16
              have IB_16 := K.ints.ext (K.bin IB_15) f16
              clear IU_15 IV_15 IP_15 IB_15 F15 f16
              go_wp2_with fail
              refine K.call (by with_reducible rfl) (by with_reducible rfl) (impl_IsUnit (Z.MultiplyUnits u v).1 _ _ _ _ m1 (K.bin IP_16)) ?_
              rintro e _ ⟨rfl, rfl⟩
              go_wp2_with fail
              go_ret
              exact ⟨rfl, (K.bex F16)⟩
          go_wp2_with fail
          go_ret
          exact ⟨rfl, (K.bex F14)⟩
  have h3' : ((Z.MissingUnit G yss ix r).2 == 0) = false := by simpa using h3
  by_cases hb : (Z.MultiplyUnits u v).2 = 0
  · as_aux_lemma =>
      obtain ⟨k1, k2⟩ := Z.units_law hb
      have hm : Hid (Z.MultiplyUnits v u = ((Z.MultiplyUnits u v).1, 0)) := Z.hide k1
      clear k1
      go_wp2_with fail
      refine K.call (by with_reducible rfl) (by with_reducible rfl) (impl_MulBackU (u := u) (v := v) hm.out _ (by omega) (by omega) (K.bin IV_12) (K.bin IU_12)) ?_
      rintro e w13 ⟨⟨vB, rfl, hB⟩, f13⟩
      have JB := K.own.ints hB
      obtain ⟨oB, kB, rfl, _⟩ := id (JB)
      have IB_13 : K.ints w13 0 w13.heap.size (.slice oB (Z.MultiplyUnits u v).1.length kB) (Z.MultiplyUnits u v).1 := (JB).mono (Nat.zero_le _) (by omega)
      have F13 : K.Ext w w13 := K.Ext.trans (K.bex F12) f13
      have IU_13 := K.ints.ext (K.bin IU_12) f13
      have IV_13 := K.ints.ext (K.bin IV_12) f13
      have IP_13 := K.ints.ext (K.bin IP_12) f13
      clear c12_1_0 c12_1_1 c12_1_2 c12_1_3 y12_1 IU_12 IV_12 IP_12 F12 f13
      go_wp2_with fail
      refine K.call (by with_reducible rfl) (by with_reducible rfl) (likeInts_same (Z.MultiplyUnits u v).1 _ _ _ _ _ _ _ m1 (K.bin IB_13) (K.bin IP_13)) ?_
      rintro e w14 ⟨rfl, f14⟩
      have F14 : K.Ext w w14 := K.Ext.trans (K.bex F13) f14
      have IU_14 := K.ints.ext (K.bin IU_13) f14
      have IV_14 := K.ints.ext (K.bin IV_13) f14
      have IP_14 := K.ints.ext (K.bin IP_13) f14
      have IB_14 := K.ints.ext (K.bin IB_13) f14
      clear IU_13 IV_13 IP_13 IB_13 F13 f14
      go_wp2_with fail
      refine K.call (by with_reducible rfl) (by with_reducible rfl) (impl_IsUnit (Z.MultiplyUnits u v).1 _ _ _ _ m1 (K.bin IP_14)) ?_
      rintro e _ ⟨rfl, rfl⟩
      go_wp2_with fail
      go_ret
      exact ⟨rfl, (K.bex F14)⟩
  go_wp2_with fail
  go_ret
  exact ⟨rfl, (K.bex F12)⟩
end Go.Proofs.Ythmnlbgbacbocaa
end
section
namespace Go.Proofs.Ythmnlbgbacbocaa
open Go.ChangeShapes Go.WideShapes Go.ChangeAt Go.RowKit
namespace frameFnUnits
theorem own : ownKnob Try.prog.godebug = none := by kernel_rfl
theorem laidOut : laidOutB Try.prog = true := by kernel_rfl
theorem reads : ∀ t ∈ Try.f3.params.toList, Try.prog.readableRec t = true ∧ t < Try.prog.types.size := by
  rw [Try.params3]
  intro t ht
  simp only [List.mem_cons, List.not_mem_nil, or_false] at ht
  subst ht; exact ⟨by kernel_rfl, of_decide_eq_true (by kernel_rfl)⟩
set_option maxRecDepth 100000 in
theorem lifted (os : Os) (started : os.Started) (H : Type) (enc : TypeId × Value → H) :
    ReturnsInHanded {} Try.checked os 3 .any (Rows.fnUnitsSpec.pre6 enc Try.prog Try.f3 Rows.fnUnitsRow.domain false) (Rows.fnUnitsSpec.post enc Try.prog Try.f3 false true false false) := by
  refine returnsInHanded_of_change (C := Try.checked) own started (by kernel_rfl) Try.func3
    (ChangeSpec.witness6 (enc := enc) (C := Try.checked) false ⟨#[], #[.slice none 0 0], []⟩ 8 (by kernel_rfl) (by kernel_rfl) (by kernel_rfl) (by kernel_rfl)) ?_
  intro W base args ds gs before hval0 hW hcnd _
  have hval : ∀ (j : Nat) t v, Try.f3.params[j]? = some t → args[j]? = some v → Value.okWide Try.prog W .any base t v := hval0
  have hW' := hW
  obtain ⟨p, q, hA0, hV, rfl, hfz, hnd⟩ := hW
  have hA : DataW.TrodAll enc Try.prog W 0 (fun _ => true) true Try.f3.params.toList args.toList ds p := hA0
  rw [Try.params3] at hA hval
  obtain ⟨rfl, rfl⟩ := trodVars_none hV
  obtain ⟨v0, vs0, d0, ds0, p0, q0, hargs, rfl, rfl, h0, r0⟩ := trodAll_cons hA
  obtain ⟨rfl, rfl, rfl⟩ := trodAll_nil r0
  obtain rfl : args = #[v0] := by cases args; simp_all
  clear hA0 hval0
  obtain ⟨a0, l0, c0, rfl⟩ := okWide_slice Try.underlying22 (hval 0 22 v0 rfl rfl)
  obtain ⟨fu0, hf0⟩ := h0
  obtain ⟨x0, zs0, ex0, hx0, hl0, hq0⟩ := K.recs_arg (R := K.ByR) (Q := fun s => 0 ≤ s ∧ s ≤ 255) 0 (by decide) Try.underlying22 (by kernel_rfl) (fun n cs y hy => K.byte_cells Try.underlying5 hy) hf0
  obtain rfl : Value.slice a0 l0 c0 = x0 := by simpa [Value.cells] using ex0
  refine Calls.mono (law_FnUnits  W (K.byts_of_recs hx0 hq0)) fun e W' ⟨he, hg⟩ => ?_
  subst he
  exact ⟨_, rfl, K.law_post laidOut reads rfl Try.underlying4 rfl hW' rfl hg⟩
theorem over : Rows.fnUnitsRow.holds Try.pinned (OpenSpec.ofChange Rows.fnUnitsSpec) :=
  OpenClaim.holds_of_wide 3 Try.f3 rfl rfl rfl rfl rfl rfl rfl ⟨rfl, rfl, rfl, rfl, rfl⟩ rfl rfl rfl rfl rfl (by kernel_rfl) Try.func3 (by kernel_rfl)
    (of_decide_eq_true (by kernel_rfl)) (by unfold Func.isWrapper; first | (rw [if_pos (by decide +kernel)]; kernel_rfl) | (rw [if_neg (by decide +kernel)]; exact ⟨rfl, rfl⟩))
    (fun os started H enc _ => lifted os started H enc)
/-- The given statement. -/
theorem proved : Rows.FnUnitsSaid := over
#print axioms proved
end frameFnUnits
end Go.Proofs.Ythmnlbgbacbocaa
end
