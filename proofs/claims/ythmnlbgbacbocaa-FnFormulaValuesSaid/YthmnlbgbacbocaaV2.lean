/-
  Part 2 of the texts of this claim: contracts of functions and plain mathematics.
-/
import Derived.Test.YthmnlbgbacbocaaV1
import Derived.Lib.Strings
import Derived.Lib.Walk
import Derived.Laws.Pointers
import Derived.OneCell
set_option linter.unusedVariables false
section
namespace Go.Proofs.Ythmnlbgbacbocaa
open Go.RowKit
set_option maxRecDepth 100000 in
set_option maxHeartbeats 12800000 in
theorem DrawReplaceName_any {hi n : Nat} {v : Value} (w : World) (hn : n ≤ 4096) (hh : hi ≤ w.heap.size) (h : K.byts w hi v n) :
    Calls Try.prog 53 #[v] w fun e w' => (∃ (F : Z.Fm) (p : Value) (c : Int) (G : Z.Fm) (q : Value), e = .returned (.tuple #[.agg #[.int .i64 F.dg, .int .i64 F.tn, .string F.nm, p], .int .u8 c, .agg #[.int .i64 G.dg, .int .i64 G.tn, .string G.nm, q]]) ∧ (F.nm.size ≤ 7 ∧ F.pw.length ≤ 6) ∧ K.ints w' w.heap.size w'.heap.size p F.pw ∧ 0 ≤ c ∧ c ≤ 255 ∧ (G.nm.size ≤ 7 ∧ G.pw.length ≤ 6) ∧ K.ints w' w.heap.size w'.heap.size q G.pw) ∧ K.Ext w w' := by
  have F0 : K.Ext w w := K.Ext.refl _
  go_enter Try.func53, Try.ntmps53
  go_wp2_with fail
  refine K.call (by with_reducible rfl) (by with_reducible rfl) (l01From_at (w.heap.size + 1 + 1) _ (by simp) hn (by omega) (h.ext (K.bex F0))) ?_
  rintro e w1 ⟨⟨rfl, s1⟩, f1⟩
  have z1 := f1.size
  (try simp at z1)
  have F1 : K.Ext w w1 := K.Ext.trans (K.bex F0) f1
  have c1_0_0 : w1.cell? ⟨w.heap.size, 0, none⟩ = some (.int .i64 0) := f1.cell_of (by go_simp)
  have d1_0_0 : w1.frozen? ⟨w.heap.size, 0, none⟩ = false := f1.thaw_of (by go_simp) (by go_simp)
  have c1_0_1 : w1.cell? ⟨w.heap.size, 1, none⟩ = some (.int .i64 0) := f1.cell_of (by go_simp)
  have d1_0_1 : w1.frozen? ⟨w.heap.size, 1, none⟩ = false := f1.thaw_of (by go_simp) (by go_simp)
  have c1_0_2 : w1.cell? ⟨w.heap.size, 2, none⟩ = some (.string ⟨#[]⟩) := f1.cell_of (by go_simp)
  have d1_0_2 : w1.frozen? ⟨w.heap.size, 2, none⟩ = false := f1.thaw_of (by go_simp) (by go_simp)
  have c1_0_3 : w1.cell? ⟨w.heap.size, 3, none⟩ = some (.slice none 0 0) := f1.cell_of (by go_simp)
  have d1_0_3 : w1.frozen? ⟨w.heap.size, 3, none⟩ = false := f1.thaw_of (by go_simp) (by go_simp)
  have y1_0 : w.heap.size < w1.heap.size := World.block_lt_of_cell? w1 _ c1_0_0
  have c1_1_0 : w1.cell? ⟨w.heap.size + 1, 0, none⟩ = some (.int .i64 0) := f1.cell_of (by go_simp)
  have d1_1_0 : w1.frozen? ⟨w.heap.size + 1, 0, none⟩ = false := f1.thaw_of (by go_simp) (by go_simp)
  have c1_1_1 : w1.cell? ⟨w.heap.size + 1, 1, none⟩ = some (.int .i64 0) := f1.cell_of (by go_simp)
  have d1_1_1 : w1.frozen? ⟨w.heap.size + 1, 1, none⟩ = false := f1.thaw_of (by go_simp) (by go_simp)
  have c1_1_2 : w1.cell? ⟨w.heap.size + 1, 2, none⟩ = some (.string ⟨#[]⟩) := f1.cell_of (by go_simp)
  have d1_1_2 : w1.frozen? ⟨w.heap.size + 1, 2, none⟩ = false := f1.thaw_of (by go_simp) (by go_simp)
  have c1_1_3 : w1.cell? ⟨w.heap.size + 1, 3, none⟩ = some (.slice none 0 0) := f1.cell_of (by go_simp)
  have d1_1_3 : w1.frozen? ⟨w.heap.size + 1, 3, none⟩ = false := f1.thaw_of (by go_simp) (by go_simp)
  have y1_1 : w.heap.size + 1 < w1.heap.size := World.block_lt_of_cell? w1 _ c1_1_0
  have lg := s1.lt
  go_wp2_with fail
  refine K.call (by with_reducible rfl) (by with_reducible rfl) (l18Draw_any (w.heap.size + 1 + 1) _ (K.bsr s1)) ?_
  rintro e w2 ⟨⟨F, pF, rfl, hnF, hmF, hiF⟩, s2, f2⟩
  have z2 := f2.size
  (try simp at z2)
  have F2 : K.Ext w w2 := K.Far.ext (K.bex F1) f2 (by omega)
  obtain ⟨c2_0_0, c2_0_1, c2_0_2, c2_0_3, d2_0_0, d2_0_1, d2_0_2, d2_0_3, y2_0⟩ := f2.p4 c1_0_0 c1_0_1 c1_0_2 c1_0_3 d1_0_0 d1_0_1 d1_0_2 d1_0_3
  obtain ⟨c2_1_0, c2_1_1, c2_1_2, c2_1_3, d2_1_0, d2_1_1, d2_1_2, d2_1_3, y2_1⟩ := f2.p4 c1_1_0 c1_1_1 c1_1_2 c1_1_3 d1_1_0 d1_1_1 d1_1_2 d1_1_3
  obtain ⟨oF, kF, rfl, _⟩ := id hiF
  have IF_2 : K.ints w2 (w1.heap.size) w2.heap.size (.slice oF F.pw.length kF) F.pw := hiF.mono (by simp) (Nat.le_refl _)
  clear hiF
  go_wp2_with fail
  refine K.call (by with_reducible rfl) (by with_reducible rfl) (l18DrawName_any (w.heap.size + 1 + 1) _ (K.bsr s2)) ?_
  rintro e w3 ⟨⟨c, rfl, c0, c1⟩, s3, f3⟩
  have z3 := f3.size
  (try simp at z3)
  have F3 : K.Ext w w3 := K.Far.ext (K.bex F2) f3 (by omega)
  have u3_0_1 : w.heap.size < w2.heap.size + 1 := (by omega)
  have u3_1_1 : w.heap.size + 1 < w2.heap.size + 1 := (by omega)
  obtain ⟨c3_0_0, c3_0_1, c3_0_2, c3_0_3, d3_0_0, d3_0_1, d3_0_2, d3_0_3, y3_0⟩ := f3.p4 c2_0_0 c2_0_1 c2_0_2 c2_0_3 d2_0_0 d2_0_1 d2_0_2 d2_0_3
  obtain ⟨c3_1_0, c3_1_1, c3_1_2, c3_1_3, d3_1_0, d3_1_1, d3_1_2, d3_1_3, y3_1⟩ := f3.p4 c2_1_0 c2_1_1 c2_1_2 c2_1_3 d2_1_0 d2_1_1 d2_1_2 d2_1_3
  have c3_2_0 : w3.cell? ⟨w2.heap.size, 0, none⟩ = some (.int .i64 F.dg) := f3.cell_of (by go_simp) (by (try dsimp only); omega)
  have d3_2_0 : w3.frozen? ⟨w2.heap.size, 0, none⟩ = false := f3.thaw_of (by go_simp) (by go_simp) (by (try dsimp only); omega)
  have c3_2_1 : w3.cell? ⟨w2.heap.size, 1, none⟩ = some (.int .i64 F.tn) := f3.cell_of (by go_simp) (by (try dsimp only); omega)
  have d3_2_1 : w3.frozen? ⟨w2.heap.size, 1, none⟩ = false := f3.thaw_of (by go_simp) (by go_simp) (by (try dsimp only); omega)
  have c3_2_2 : w3.cell? ⟨w2.heap.size, 2, none⟩ = some (.string F.nm) := f3.cell_of (by go_simp) (by (try dsimp only); omega)
  have d3_2_2 : w3.frozen? ⟨w2.heap.size, 2, none⟩ = false := f3.thaw_of (by go_simp) (by go_simp) (by (try dsimp only); omega)
  have c3_2_3 : w3.cell? ⟨w2.heap.size, 3, none⟩ = some (.slice oF F.pw.length kF) := f3.cell_of (by go_simp) (by (try dsimp only); omega)
  have d3_2_3 : w3.frozen? ⟨w2.heap.size, 3, none⟩ = false := f3.thaw_of (by go_simp) (by go_simp) (by (try dsimp only); omega)
  have y3_2 : w2.heap.size < w3.heap.size := World.block_lt_of_cell? w3 _ c3_2_0
  have IF_3 := K.ints.far (K.bin IF_2) f3 (by first | exact .inl (by omega) | exact .inr (by omega))
  by_cases h0 : F.nm.size = 0
  · have h0' : (F.nm.size : Int) = 0 := by omega
    go_wp2_with fail
    have ne0_2 : ¬ (w.heap.size = w2.heap.size) := (by omega)
    have nf0_2 : ¬ (w2.heap.size = w.heap.size) := (by omega)
    have ne1_2 : ¬ (w.heap.size + 1 = w2.heap.size) := (by omega)
    have nf1_2 : ¬ (w2.heap.size = w.heap.size + 1) := (by omega)
    go_region_held3 (fun w' => w'.cell? ⟨w2.heap.size, 0, none⟩ = some (.int .i64 F.dg) ∧ w'.cell? ⟨w2.heap.size, 1, none⟩ = some (.int .i64 F.tn) ∧ w'.cell? ⟨w2.heap.size, 2, none⟩ = some (.string F.nm) ∧ w'.cell? ⟨w2.heap.size, 3, none⟩ = some (.slice oF F.pw.length kF)) ((repeat' apply And.intro) <;> go_simp) ((go_at_call 87; refine K.call (by with_reducible rfl) (by with_reducible rfl) (l18Draw_any (w.heap.size + 1 + 1) _ (K.bsr s3)) ?_; rintro e w4 ⟨⟨G, pG, rfl, hnG, hmG, hiG⟩, s4, f4⟩; have z4 := f4.size; (try simp at z4); have F4 : K.Ext w w4 := K.Far.ext (K.bex F3) f4 (by omega); obtain ⟨c4_0_0, c4_0_1, c4_0_2, c4_0_3, d4_0_0, d4_0_1, d4_0_2, d4_0_3, y4_0⟩ := f4.p4 c3_0_0 c3_0_1 c3_0_2 c3_0_3 d3_0_0 d3_0_1 d3_0_2 d3_0_3; obtain ⟨c4_1_0, c4_1_1, c4_1_2, c4_1_3, d4_1_0, d4_1_1, d4_1_2, d4_1_3, y4_1⟩ := f4.p4 c3_1_0 c3_1_1 c3_1_2 c3_1_3 d3_1_0 d3_1_1 d3_1_2 d3_1_3; obtain ⟨c4_2_0, c4_2_1, c4_2_2, c4_2_3, d4_2_0, d4_2_1, d4_2_2, d4_2_3, y4_2⟩ := f4.p4 c3_2_0 c3_2_1 c3_2_2 c3_2_3 d3_2_0 d3_2_1 d3_2_2 d3_2_3; have IF_4 := K.ints.far (K.bin IF_3) f4 (by first | exact .inl (by omega) | exact .inr (by omega)); obtain ⟨oG, kG, rfl, _⟩ := id hiG; have IG_4 : K.ints w4 (w3.heap.size) w4.heap.size (.slice oG G.pw.length kG) G.pw := hiG.mono (by simp) (Nat.le_refl _); clear hiG))
    go_wp2_with fail
    all_goals refine bodyPost_ret (v := .tuple #[.agg #[.int .i64 F.dg, .int .i64 F.tn, .string F.nm, .slice oF F.pw.length kF], .int .u8 c, .agg #[.int .i64 G.dg, .int .i64 G.tn, .string G.nm, .slice oG G.pw.length kG]]) (by unfold results; rw [Try.results53]; go_simp) rfl ⟨⟨F, _, _, G, _, rfl, ⟨hnF, hmF⟩, K.ints.mono (K.bin IF_4) (by omega) (by first | omega | (simp; done) | (simp; omega)), c0, c1, ⟨hnG, hmG⟩, K.ints.mono (K.bin IG_4) (by omega) (by first | omega | (simp; done) | (simp; omega))⟩, (K.bex F4)⟩
  have h0' : (0 : Int) < (F.nm.size : Int) := by omega
  have h00 : 0 < F.nm.size := by omega
  go_wp2_with fail
  refine K.call (by with_reducible rfl) (by with_reducible rfl) (l01Next_any (w.heap.size + 1 + 1) (2) _ (K.bsr s3)) ?_
  rintro e w4 ⟨⟨x, rfl, x0, x1, x2⟩, s4, f4⟩
  have z4 := f4.size
  (try simp at z4)
  have F4 : K.Ext w w4 := K.Far.ext (K.bex F3) f4 (by omega)
  obtain ⟨c4_0_0, c4_0_1, c4_0_2, c4_0_3, d4_0_0, d4_0_1, d4_0_2, d4_0_3, y4_0⟩ := f4.p4 c3_0_0 c3_0_1 c3_0_2 c3_0_3 d3_0_0 d3_0_1 d3_0_2 d3_0_3
  obtain ⟨c4_1_0, c4_1_1, c4_1_2, c4_1_3, d4_1_0, d4_1_1, d4_1_2, d4_1_3, y4_1⟩ := f4.p4 c3_1_0 c3_1_1 c3_1_2 c3_1_3 d3_1_0 d3_1_1 d3_1_2 d3_1_3
  obtain ⟨c4_2_0, c4_2_1, c4_2_2, c4_2_3, d4_2_0, d4_2_1, d4_2_2, d4_2_3, y4_2⟩ := f4.p4 c3_2_0 c3_2_1 c3_2_2 c3_2_3 d3_2_0 d3_2_1 d3_2_2 d3_2_3
  have IF_4 := K.ints.far (K.bin IF_3) f4 (by first | exact .inl (by omega) | exact .inr (by omega))
  by_cases x0_ : x = 0
  · subst x0_
    go_wp2_with fail
    have ne0_2 : ¬ (w.heap.size = w2.heap.size) := (by omega)
    have nf0_2 : ¬ (w2.heap.size = w.heap.size) := (by omega)
    have ne1_2 : ¬ (w.heap.size + 1 = w2.heap.size) := (by omega)
    have nf1_2 : ¬ (w2.heap.size = w.heap.size + 1) := (by omega)
    go_region_held3 (fun w' => w'.cell? ⟨w2.heap.size, 0, none⟩ = some (.int .i64 F.dg) ∧ w'.cell? ⟨w2.heap.size, 1, none⟩ = some (.int .i64 F.tn) ∧ w'.cell? ⟨w2.heap.size, 2, none⟩ = some (.string F.nm) ∧ w'.cell? ⟨w2.heap.size, 3, none⟩ = some (.slice oF F.pw.length kF)) ((repeat' apply And.intro) <;> go_simp) ((go_at_call 87; refine K.call (by with_reducible rfl) (by with_reducible rfl) (l18Draw_any (w.heap.size + 1 + 1) _ (K.bsr s4)) ?_; rintro e w5 ⟨⟨G, pG, rfl, hnG, hmG, hiG⟩, s5, f5⟩; have z5 := f5.size; (try simp at z5); have F5 : K.Ext w w5 := K.Far.ext (K.bex F4) f5 (by omega); obtain ⟨c5_0_0, c5_0_1, c5_0_2, c5_0_3, d5_0_0, d5_0_1, d5_0_2, d5_0_3, y5_0⟩ := f5.p4 c4_0_0 c4_0_1 c4_0_2 c4_0_3 d4_0_0 d4_0_1 d4_0_2 d4_0_3; obtain ⟨c5_1_0, c5_1_1, c5_1_2, c5_1_3, d5_1_0, d5_1_1, d5_1_2, d5_1_3, y5_1⟩ := f5.p4 c4_1_0 c4_1_1 c4_1_2 c4_1_3 d4_1_0 d4_1_1 d4_1_2 d4_1_3; obtain ⟨c5_2_0, c5_2_1, c5_2_2, c5_2_3, d5_2_0, d5_2_1, d5_2_2, d5_2_3, y5_2⟩ := f5.p4 c4_2_0 c4_2_1 c4_2_2 c4_2_3 d4_2_0 d4_2_1 d4_2_2 d4_2_3; have IF_5 := K.ints.far (K.bin IF_4) f5 (by first | exact .inl (by omega) | exact .inr (by omega)); obtain ⟨oG, kG, rfl, _⟩ := id hiG; have IG_5 : K.ints w5 (w4.heap.size) w5.heap.size (.slice oG G.pw.length kG) G.pw := hiG.mono (by simp) (Nat.le_refl _); clear hiG))
    go_wp2_with fail
    all_goals refine bodyPost_ret (v := .tuple #[.agg #[.int .i64 F.dg, .int .i64 F.tn, .string F.nm, .slice oF F.pw.length kF], .int .u8 ((F.nm[0]'h00).toNat : Int), .agg #[.int .i64 G.dg, .int .i64 G.tn, .string G.nm, .slice oG G.pw.length kG]]) (by unfold results; rw [Try.results53]; go_simp) rfl ⟨⟨F, _, _, G, _, rfl, ⟨hnF, hmF⟩, K.ints.mono (K.bin IF_5) (by omega) (by first | omega | (simp; done) | (simp; omega)), (by omega), (by have := (F.nm[0]'h00).toNat_lt; omega), ⟨hnG, hmG⟩, K.ints.mono (K.bin IG_5) (by omega) (by first | omega | (simp; done) | (simp; omega))⟩, (K.bex F5)⟩
  go_wp2_with fail
  have ne0_2 : ¬ (w.heap.size = w2.heap.size) := (by omega)
  have nf0_2 : ¬ (w2.heap.size = w.heap.size) := (by omega)
  have ne1_2 : ¬ (w.heap.size + 1 = w2.heap.size) := (by omega)
  have nf1_2 : ¬ (w2.heap.size = w.heap.size + 1) := (by omega)
  go_region_held3 (fun w' => w'.cell? ⟨w2.heap.size, 0, none⟩ = some (.int .i64 F.dg) ∧ w'.cell? ⟨w2.heap.size, 1, none⟩ = some (.int .i64 F.tn) ∧ w'.cell? ⟨w2.heap.size, 2, none⟩ = some (.string F.nm) ∧ w'.cell? ⟨w2.heap.size, 3, none⟩ = some (.slice oF F.pw.length kF)) ((repeat' apply And.intro) <;> go_simp) ((go_at_call 87; refine K.call (by with_reducible rfl) (by with_reducible rfl) (l18Draw_any (w.heap.size + 1 + 1) _ (K.bsr s4)) ?_; rintro e w5 ⟨⟨G, pG, rfl, hnG, hmG, hiG⟩, s5, f5⟩; have z5 := f5.size; (try simp at z5); have F5 : K.Ext w w5 := K.Far.ext (K.bex F4) f5 (by omega); obtain ⟨c5_0_0, c5_0_1, c5_0_2, c5_0_3, d5_0_0, d5_0_1, d5_0_2, d5_0_3, y5_0⟩ := f5.p4 c4_0_0 c4_0_1 c4_0_2 c4_0_3 d4_0_0 d4_0_1 d4_0_2 d4_0_3; obtain ⟨c5_1_0, c5_1_1, c5_1_2, c5_1_3, d5_1_0, d5_1_1, d5_1_2, d5_1_3, y5_1⟩ := f5.p4 c4_1_0 c4_1_1 c4_1_2 c4_1_3 d4_1_0 d4_1_1 d4_1_2 d4_1_3; obtain ⟨c5_2_0, c5_2_1, c5_2_2, c5_2_3, d5_2_0, d5_2_1, d5_2_2, d5_2_3, y5_2⟩ := f5.p4 c4_2_0 c4_2_1 c4_2_2 c4_2_3 d4_2_0 d4_2_1 d4_2_2 d4_2_3; have IF_5 := K.ints.far (K.bin IF_4) f5 (by first | exact .inl (by omega) | exact .inr (by omega)); obtain ⟨oG, kG, rfl, _⟩ := id hiG; have IG_5 : K.ints w5 (w4.heap.size) w5.heap.size (.slice oG G.pw.length kG) G.pw := hiG.mono (by simp) (Nat.le_refl _); clear hiG))
  go_wp2_with fail
  all_goals refine bodyPost_ret (v := .tuple #[.agg #[.int .i64 F.dg, .int .i64 F.tn, .string F.nm, .slice oF F.pw.length kF], .int .u8 c, .agg #[.int .i64 G.dg, .int .i64 G.tn, .string G.nm, .slice oG G.pw.length kG]]) (by unfold results; rw [Try.results53]; go_simp) rfl ⟨⟨F, _, _, G, _, rfl, ⟨hnF, hmF⟩, K.ints.mono (K.bin IF_5) (by omega) (by first | omega | (simp; done) | (simp; omega)), c0, c1, ⟨hnG, hmG⟩, K.ints.mono (K.bin IG_5) (by omega) (by first | omega | (simp; done) | (simp; omega))⟩, (K.bex F5)⟩
end Go.Proofs.Ythmnlbgbacbocaa
end
section
namespace Go.Proofs.Ythmnlbgbacbocaa
open Go.RowKit
set_option maxHeartbeats 1600000 in
theorem l02Round_any (n d t : Int) (w : World) (hn : 1 ≤ n) (hn' : n ≤ 1000000000) (hd : 1 ≤ d) (hd' : d ≤ 1000000000) (ht : -1000000 ≤ t) (ht' : t ≤ 1000000) :
    Calls Try.prog 167 #[.int .i64 n, .int .i64 d, .int .i64 t] w fun e w' => e = .returned (.agg #[.int .i64 (Z.round n d t).1, .int .i64 (Z.round n d t).2]) ∧ K.Ext w w' := by
  go_enter Try.func167, Try.ntmps167
  go_wp2
  go_loop [1, 2] (fun d' t' => ∃ (k : Nat) (x y : Int), d' = .int .i64 x ∧ t' = .int .i64 y ∧ k ≤ 12 ∧ Hid (Z.dn k n x y = Z.dn 12 n d (t + 3)) ∧ n < 10000 * x * Z.ten k ∧ 1 ≤ x ∧ x ≤ 1000000000 ∧ -2000000 + 12 - (k : Int) ≤ y ∧ y ≤ 2000000 - (k : Int)) (fun d' _ => (n - intOf d').toNat)
  case atStart => exact ⟨12, d, t + 3, rfl, rfl, Nat.le_refl _, Z.hide rfl, by rw [Z.ten_12]; omega, hd, hd', by omega, by omega⟩
  case round =>
    obtain ⟨k, x, y, rfl, rfl, hk, HE, h1, h2, h3, h4, h5⟩ := hrel
    by_cases hc : 10000 * x ≤ n
    · obtain ⟨k', rfl⟩ : ∃ k', k = k' + 1 := by
        cases k with
        | zero => simp only [Z.ten] at h1; omega
        | succ k' => exact ⟨k', rfl⟩
      have HS := Z.hide (show Z.dn (k' + 1) n x y = Z.dn k' n (10 * x) (y + 1) by simp only [Z.dn]; rw [if_pos hc])
      have h6 : n < 10000 * (10 * x) * Z.ten k' := by rw [← Z.ten_dn]; exact h1
      have H6 := Z.hide h6
      clear h1 h6
      go_wp2
      go_round
      case rel => exact ⟨k', 10 * x, y + 1, by go_num, by go_num, by omega, Z.hide (by rw [← HS.out, HE.out]), H6.out, by omega, by omega, by omega, by omega⟩
      case measure => simp [intOf]; omega
    · have HD := Z.hide (show Z.dn k n x y = (x, y) from Z.dn_end (by omega))
      rw [HE.out] at HD
      clear h1 HE
      go_wp2
      go_loop [0, 2] (fun n' t' => ∃ (k : Nat) (z u : Int), n' = .int .i64 z ∧ t' = .int .i64 u ∧ k ≤ 12 ∧ Hid (Z.up k z x u = Z.up 12 n x y) ∧ 1000 * x ≤ z * Z.ten k ∧ 1 ≤ z ∧ z ≤ 10000000000000 ∧ -3000000 + (k : Int) ≤ u ∧ u ≤ 3000000) (fun n' _ => (1000 * x - intOf n').toNat)
      case atStart => exact ⟨12, n, y, rfl, rfl, Nat.le_refl _, Z.hide rfl, by rw [Z.ten_12]; omega, hn, by omega, by omega, by omega⟩
      case round =>
        obtain ⟨k2, z, u, rfl, rfl, hk2, HE2, p1, p2, p3, p4, p5⟩ := hrel
        by_cases hc2 : z < 1000 * x
        · obtain ⟨k', rfl⟩ : ∃ k', k2 = k' + 1 := by
            cases k2 with
            | zero => simp only [Z.ten] at p1; omega
            | succ k' => exact ⟨k', rfl⟩
          have HS := Z.hide (show Z.up (k' + 1) z x u = Z.up k' (10 * z) x (u - 1) by simp only [Z.up]; rw [if_pos hc2])
          have h6 : 1000 * x ≤ 10 * z * Z.ten k' := by rw [← Z.ten_up]; exact p1
          have H6 := Z.hide h6
          clear p1 h6
          go_wp2
          go_round
          case rel => exact ⟨k', 10 * z, u - 1, by go_num, by go_num, by omega, Z.hide (by rw [← HS.out, HE2.out]), H6.out, by omega, by omega, by omega, by omega⟩
          case measure => simp [intOf]; omega
        · have HU := Z.hide (show Z.up k2 z x u = (z, u) from Z.up_end (by omega))
          rw [HE2.out] at HU
          clear p1 HE2
          have HF : Hid (Z.round n d t = Z.fin z x u) := Z.hide (by unfold Z.round; rw [HD.out, HU.out])
          obtain ⟨q, hq⟩ : ∃ q, q = Z.nr z x := ⟨_, rfl⟩
          have HN : ∀ w' : World, Calls Try.prog 194 #[.int .i64 z, .int .i64 x] w' fun e w'' => e = .returned (.int .i64 q) ∧ w' = w'' := fun w' => by rw [hq]; exact l01Nearest_any _ _ _ (by omega) (by omega) (by omega) (by omega)
          by_cases h10 : q = 10000
          · have H3 : Hid (Z.fin z x u = (1000, u + 1)) := Z.hide (by unfold Z.fin; rw [← hq, if_pos h10])
            clear hq
            go_wp2_with (go_at_call 194; refine K.call (by with_reducible rfl) (by with_reducible rfl) (HN _) ?_; rintro e w9 ⟨rfl, rfl⟩)
            rw [HF.out, H3.out]
            refine bodyPost_ret (v := .agg #[.int .i64 1000, .int .i64 (u + 1)]) (by unfold results; rw [Try.results167]; go_simp) rfl ⟨rfl, (by repeat' (first | with_reducible exact K.Ext.refl _ | with_reducible assumption | with_reducible refine K.Ext.drew ?_ | with_reducible refine K.Ext.alloc ?_ _ | with_reducible refine K.Ext.setCell ?_ ?_ _ | with_reducible refine K.Ext.trans ?_ (by with_reducible assumption) | (dsimp only; omega) | omega | exact K.Ext.refl _ | assumption | apply K.Ext.drew | refine K.Ext.alloc ?_ _ | refine K.Ext.setCell ?_ ?_ _ | (simp; done) | (simp; omega) | refine K.Ext.trans ?_ (by assumption)))⟩
          · have H3 : Hid (Z.fin z x u = (q, u)) := Z.hide (by unfold Z.fin; rw [← hq, if_neg h10])
            clear hq
            go_wp2_with (go_at_call 194; refine K.call (by with_reducible rfl) (by with_reducible rfl) (HN _) ?_; rintro e w9 ⟨rfl, rfl⟩)
            rw [HF.out, H3.out]
            refine bodyPost_ret (v := .agg #[.int .i64 q, .int .i64 u]) (by unfold results; rw [Try.results167]; go_simp) rfl ⟨rfl, (by repeat' (first | with_reducible exact K.Ext.refl _ | with_reducible assumption | with_reducible refine K.Ext.drew ?_ | with_reducible refine K.Ext.alloc ?_ _ | with_reducible refine K.Ext.setCell ?_ ?_ _ | with_reducible refine K.Ext.trans ?_ (by with_reducible assumption) | (dsimp only; omega) | omega | exact K.Ext.refl _ | assumption | apply K.Ext.drew | refine K.Ext.alloc ?_ _ | refine K.Ext.setCell ?_ ?_ _ | (simp; done) | (simp; omega) | refine K.Ext.trans ?_ (by assumption)))⟩
set_option maxHeartbeats 1600000 in
theorem rounded_any (n d t : Int) (w : World) (hn : 1 ≤ n) (hn' : n ≤ 1000000000) (hd : 1 ≤ d) (hd' : d ≤ 1000000000) (ht : -1000000 ≤ t) (ht' : t ≤ 1000000) :
    Calls Try.prog 193 #[.int .i64 n, .int .i64 d, .int .i64 t] w fun e w' => e = .returned (.agg #[.int .i64 (Z.round n d t).1, .int .i64 (Z.round n d t).2]) ∧ K.Ext w w' := by
  have hd0 := Z.hide hd
  go_enter Try.func193, Try.ntmps193
  go_wp2
  go_loop [0, 2] (fun n' t' => ∃ (k : Nat) (z u : Int), n' = .int .i64 z ∧ t' = .int .i64 u ∧ k ≤ 12 ∧ Hid (Z.up k z d u = Z.up 12 n d (t + 3)) ∧ 1000 * d ≤ z * Z.ten k ∧ 1 ≤ z ∧ z ≤ 10000000000000 ∧ -3000000 + (k : Int) ≤ u ∧ u ≤ 3000000) (fun n' _ => (1000 * d - intOf n').toNat)
  case atStart => exact ⟨12, n, t + 3, rfl, rfl, Nat.le_refl _, Z.hide rfl, by rw [Z.ten_12]; omega, hn, by omega, by omega, by omega⟩
  case round =>
    obtain ⟨k2, z, u, rfl, rfl, hk2, HE2, p1, p2, p3, p4, p5⟩ := hrel
    by_cases hc2 : z < 1000 * d
    · obtain ⟨k', rfl⟩ : ∃ k', k2 = k' + 1 := by
        cases k2 with
        | zero => simp only [Z.ten] at p1; omega
        | succ k' => exact ⟨k', rfl⟩
      have HS := Z.hide (show Z.up (k' + 1) z d u = Z.up k' (10 * z) d (u - 1) by simp only [Z.up]; rw [if_pos hc2])
      have h6 : 1000 * d ≤ 10 * z * Z.ten k' := by rw [← Z.ten_up]; exact p1
      have H6 := Z.hide h6
      have e10 : z * 10 = 10 * z := Int.mul_comm _ _
      clear p1 h6
      go_wp2
      go_round
      case rel => exact ⟨k', 10 * z, u - 1, by go_num, by go_num, by omega, Z.hide (by rw [← HS.out, HE2.out]), H6.out, by omega, by omega, by omega, by omega⟩
      case measure => simp [intOf]; omega
    · have HU := Z.hide (show Z.up k2 z d u = (z, u) from Z.up_end (by omega))
      rw [HE2.out] at HU
      clear p1 HE2
      go_wp2
      go_loop [1, 2] (fun d' t' => ∃ (k : Nat) (x y : Int), d' = .int .i64 x ∧ t' = .int .i64 y ∧ k ≤ 12 ∧ Hid (Z.dn k z x y = Z.dn 12 z d u) ∧ z < 10000 * x * Z.ten k ∧ 1 ≤ x ∧ x ≤ 10000000000000 ∧ -4000000 ≤ y ∧ y ≤ 4000000 - (k : Int)) (fun d' _ => (z - intOf d').toNat)
      case atStart => exact ⟨12, d, u, rfl, rfl, Nat.le_refl _, Z.hide rfl, by rw [Z.ten_12]; omega, hd, by omega, by omega, by omega⟩
      case round =>
        obtain ⟨k, x, y, rfl, rfl, hk, HE, h1, h2, h3, h4, h5⟩ := hrel
        by_cases hc : 10000 * x ≤ z
        · obtain ⟨k', rfl⟩ : ∃ k', k = k' + 1 := by
            cases k with
            | zero => simp only [Z.ten] at h1; omega
            | succ k' => exact ⟨k', rfl⟩
          have HS := Z.hide (show Z.dn (k' + 1) z x y = Z.dn k' z (10 * x) (y + 1) by simp only [Z.dn]; rw [if_pos hc])
          have h6 : z < 10000 * (10 * x) * Z.ten k' := by rw [← Z.ten_dn]; exact h1
          have H6 := Z.hide h6
          have e10 : x * 10 = 10 * x := Int.mul_comm _ _
          clear h1 h6
          go_wp2
          go_round
          case rel => exact ⟨k', 10 * x, y + 1, by go_num, by go_num, by omega, Z.hide (by rw [← HS.out, HE.out]), H6.out, by omega, by omega, by omega, by omega⟩
          case measure => simp [intOf]; omega
        · have HD := Z.hide (show Z.dn k z x y = (x, y) from Z.dn_end (by omega))
          rw [HE.out] at HD
          clear h1 HE
          have HF : Hid (Z.round n d t = Z.fin z x y) := Z.hide (by rw [Z.round_eq n d t hd0.out, HU.out, HD.out])
          obtain ⟨q, hq⟩ : ∃ q, q = Z.nr z x := ⟨_, rfl⟩
          have HN : ∀ w' : World, Calls Try.prog 206 #[.int .i64 z, .int .i64 x] w' fun e w'' => e = .returned (.int .i64 q) ∧ w' = w'' := fun w' => by rw [hq]; have := near_any z x w' (by omega) (by omega) (by omega) (by omega) (by omega); rwa [Z.nearAny, if_neg (by omega)] at this
          by_cases h10 : q = 10000
          · have H3 : Hid (Z.fin z x y = (1000, y + 1)) := Z.hide (by unfold Z.fin; rw [← hq, if_pos h10])
            clear hq
            go_wp2_with (go_at_call 206; refine K.call (by with_reducible rfl) (by with_reducible rfl) (HN _) ?_; rintro e w9 ⟨rfl, rfl⟩)
            rw [HF.out, H3.out]
            refine bodyPost_ret (v := .agg #[.int .i64 1000, .int .i64 (y + 1)]) (by unfold results; rw [Try.results193]; go_simp) rfl ⟨rfl, (by repeat' (first | with_reducible exact K.Ext.refl _ | with_reducible assumption | with_reducible refine K.Ext.drew ?_ | with_reducible refine K.Ext.alloc ?_ _ | with_reducible refine K.Ext.setCell ?_ ?_ _ | with_reducible refine K.Ext.trans ?_ (by with_reducible assumption) | (dsimp only; omega) | omega | exact K.Ext.refl _ | assumption | apply K.Ext.drew | refine K.Ext.alloc ?_ _ | refine K.Ext.setCell ?_ ?_ _ | (simp; done) | (simp; omega) | refine K.Ext.trans ?_ (by assumption)))⟩
          · have H3 : Hid (Z.fin z x y = (q, y)) := Z.hide (by unfold Z.fin; rw [← hq, if_neg h10])
            clear hq
            go_wp2_with (go_at_call 206; refine K.call (by with_reducible rfl) (by with_reducible rfl) (HN _) ?_; rintro e w9 ⟨rfl, rfl⟩)
            rw [HF.out, H3.out]
            refine bodyPost_ret (v := .agg #[.int .i64 q, .int .i64 y]) (by unfold results; rw [Try.results193]; go_simp) rfl ⟨rfl, (by repeat' (first | with_reducible exact K.Ext.refl _ | with_reducible assumption | with_reducible refine K.Ext.drew ?_ | with_reducible refine K.Ext.alloc ?_ _ | with_reducible refine K.Ext.setCell ?_ ?_ _ | with_reducible refine K.Ext.trans ?_ (by with_reducible assumption) | (dsimp only; omega) | omega | exact K.Ext.refl _ | assumption | apply K.Ext.drew | refine K.Ext.alloc ?_ _ | refine K.Ext.setCell ?_ ?_ _ | (simp; done) | (simp; omega) | refine K.Ext.trans ?_ (by assumption)))⟩
end Go.Proofs.Ythmnlbgbacbocaa
end
section
namespace Go.Z
theorem isFig_bd {d t : Int} (h : isFig d t = true) : 1000 ≤ d ∧ d ≤ 9999 ∧ -30 ≤ t ∧ t ≤ 30 := by
  simp only [isFig, Bool.and_eq_true, decide_eq_true_eq] at h; omega
theorem two_bd {a b : Int × Int} (h : (isFig a.1 a.2 && isFig b.1 b.2) = true) : 1000 ≤ a.1 ∧ a.1 ≤ 9999 ∧ -30 ≤ a.2 ∧ a.2 ≤ 30 ∧ 1000 ≤ b.1 ∧ b.1 ≤ 9999 ∧ -30 ≤ b.2 ∧ b.2 ≤ 30 := by
  rw [Bool.and_eq_true] at h
  have h1 := isFig_bd h.1
  have h2 := isFig_bd h.2
  omega
theorem mul_1000 {x y : Int} (h1 : 1000 ≤ x) (h2 : x ≤ 9999) (h3 : 1000 ≤ y) (h4 : y ≤ 9999) : 1 ≤ x * y ∧ x * y ≤ 99980001 := by
  have e1 : 1000 * 1000 ≤ x * y := Int.mul_le_mul h1 h3 (by omega) (by omega)
  have e2 : x * y ≤ 9999 * 9999 := Int.mul_le_mul h2 h4 (by omega) (by omega)
  omega
end Go.Z
namespace Go.Proofs.Ythmnlbgbacbocaa
open Go.RowKit
set_option maxHeartbeats 1600000 in
theorem l02Result_any (d t : Int) (w : World) :
    Calls Try.prog 166 #[.agg #[.int .i64 d, .int .i64 t]] w fun e w' => e = .returned (.tuple #[.agg #[.int .i64 (Z.figOr (d, t)).1.1, .int .i64 (Z.figOr (d, t)).1.2], .int .i64 (Z.figOr (d, t)).2]) ∧ K.Ext w w' := by
  cases hf : Z.isFig d t
  · have HE : Hid (Z.figOr (d, t) = ((0, 0), 3)) := Z.hide (by unfold Z.figOr; rw [hf]; rfl)
    go_enter Try.func166, Try.ntmps166
    go_wp2_with ((go_at_call 145; refine K.call (by with_reducible rfl) (by with_reducible rfl) (spec_IsFigure d t _) ?_; rintro e w1 ⟨rfl, hw1⟩; obtain ⟨hcw1, hfw1⟩ := hw1.facts); have c_w1_0_0 : w1.cell? ⟨w.heap.size, 0, none⟩ = some (.int .i64 (d)) := hw1.cell_of (by go_simp); have f_w1_0_0 : w1.frozen? ⟨w.heap.size, 0, none⟩ = false := hw1.thaw_of (by go_simp) (by go_simp); have c_w1_0_1 : w1.cell? ⟨w.heap.size, 1, none⟩ = some (.int .i64 (t)) := hw1.cell_of (by go_simp); have f_w1_0_1 : w1.frozen? ⟨w.heap.size, 1, none⟩ = false := hw1.thaw_of (by go_simp) (by go_simp); have c_w1_1_0 : w1.cell? ⟨w.heap.size + 1, 0, none⟩ = some (.int .i64 (0)) := hw1.cell_of (by go_simp); have f_w1_1_0 : w1.frozen? ⟨w.heap.size + 1, 0, none⟩ = false := hw1.thaw_of (by go_simp) (by go_simp); have c_w1_1_1 : w1.cell? ⟨w.heap.size + 1, 1, none⟩ = some (.int .i64 (0)) := hw1.cell_of (by go_simp); have f_w1_1_1 : w1.frozen? ⟨w.heap.size + 1, 1, none⟩ = false := hw1.thaw_of (by go_simp) (by go_simp))
    rw [HE.out]
    refine bodyPost_ret (v := .tuple #[.agg #[.int .i64 0, .int .i64 0], .int .i64 3]) (by unfold results; rw [Try.results166]; go_simp) rfl ⟨rfl, ?_⟩
    repeat with_reducible refine K.Ext.setCell ?_ (by dsimp only; omega) _
    exact (by repeat' (first | with_reducible exact K.Ext.refl _ | with_reducible assumption | with_reducible refine K.Ext.drew ?_ | with_reducible refine K.Ext.alloc ?_ _ | with_reducible refine K.Ext.setCell ?_ ?_ _ | with_reducible refine K.Ext.trans ?_ (by with_reducible assumption) | (dsimp only; omega) | omega | exact K.Ext.refl _ | assumption | apply K.Ext.drew | refine K.Ext.alloc ?_ _ | refine K.Ext.setCell ?_ ?_ _ | (simp; done) | (simp; omega) | refine K.Ext.trans ?_ (by assumption)))
  · have HE : Hid (Z.figOr (d, t) = ((d, t), 0)) := Z.hide (by unfold Z.figOr; rw [hf]; rfl)
    go_enter Try.func166, Try.ntmps166
    go_wp2_with ((go_at_call 145; refine K.call (by with_reducible rfl) (by with_reducible rfl) (spec_IsFigure d t _) ?_; rintro e w1 ⟨rfl, hw1⟩; obtain ⟨hcw1, hfw1⟩ := hw1.facts); have c_w1_0_0 : w1.cell? ⟨w.heap.size, 0, none⟩ = some (.int .i64 (d)) := hw1.cell_of (by go_simp); have f_w1_0_0 : w1.frozen? ⟨w.heap.size, 0, none⟩ = false := hw1.thaw_of (by go_simp) (by go_simp); have c_w1_0_1 : w1.cell? ⟨w.heap.size, 1, none⟩ = some (.int .i64 (t)) := hw1.cell_of (by go_simp); have f_w1_0_1 : w1.frozen? ⟨w.heap.size, 1, none⟩ = false := hw1.thaw_of (by go_simp) (by go_simp); have c_w1_1_0 : w1.cell? ⟨w.heap.size + 1, 0, none⟩ = some (.int .i64 (0)) := hw1.cell_of (by go_simp); have f_w1_1_0 : w1.frozen? ⟨w.heap.size + 1, 0, none⟩ = false := hw1.thaw_of (by go_simp) (by go_simp); have c_w1_1_1 : w1.cell? ⟨w.heap.size + 1, 1, none⟩ = some (.int .i64 (0)) := hw1.cell_of (by go_simp); have f_w1_1_1 : w1.frozen? ⟨w.heap.size + 1, 1, none⟩ = false := hw1.thaw_of (by go_simp) (by go_simp))
    rw [HE.out]
    refine bodyPost_ret (v := .tuple #[.agg #[.int .i64 d, .int .i64 t], .int .i64 0]) (by unfold results; rw [Try.results166]; go_simp) rfl ⟨rfl, ?_⟩
    repeat with_reducible refine K.Ext.setCell ?_ (by dsimp only; omega) _
    exact (by repeat' (first | with_reducible exact K.Ext.refl _ | with_reducible assumption | with_reducible refine K.Ext.drew ?_ | with_reducible refine K.Ext.alloc ?_ _ | with_reducible refine K.Ext.setCell ?_ ?_ _ | with_reducible refine K.Ext.trans ?_ (by with_reducible assumption) | (dsimp only; omega) | omega | exact K.Ext.refl _ | assumption | apply K.Ext.drew | refine K.Ext.alloc ?_ _ | refine K.Ext.setCell ?_ ?_ _ | (simp; done) | (simp; omega) | refine K.Ext.trans ?_ (by assumption)))
set_option maxHeartbeats 1600000 in
theorem limited_any (d t : Int) (w : World) :
    Calls Try.prog 192 #[.agg #[.int .i64 d, .int .i64 t]] w fun e w' => e = .returned (.tuple #[.agg #[.int .i64 (Z.figOr (d, t)).1.1, .int .i64 (Z.figOr (d, t)).1.2], .int .i64 (Z.figOr (d, t)).2]) ∧ K.Ext w w' := by
  cases hf : Z.isFig d t
  · have HE : Hid (Z.figOr (d, t) = ((0, 0), 3)) := Z.hide (by unfold Z.figOr; rw [hf]; rfl)
    go_enter Try.func192, Try.ntmps192
    go_wp2_with ((go_at_call 112; refine K.call (by with_reducible rfl) (by with_reducible rfl) (impl_IsFigure d t _) ?_; rintro e w1 ⟨rfl, hw1⟩; obtain ⟨hcw1, hfw1⟩ := hw1.facts); have c_w1_0_0 : w1.cell? ⟨w.heap.size, 0, none⟩ = some (.int .i64 (d)) := hw1.cell_of (by go_simp); have f_w1_0_0 : w1.frozen? ⟨w.heap.size, 0, none⟩ = false := hw1.thaw_of (by go_simp) (by go_simp); have c_w1_0_1 : w1.cell? ⟨w.heap.size, 1, none⟩ = some (.int .i64 (t)) := hw1.cell_of (by go_simp); have f_w1_0_1 : w1.frozen? ⟨w.heap.size, 1, none⟩ = false := hw1.thaw_of (by go_simp) (by go_simp); have c_w1_1_0 : w1.cell? ⟨w.heap.size + 1, 0, none⟩ = some (.int .i64 (0)) := hw1.cell_of (by go_simp); have f_w1_1_0 : w1.frozen? ⟨w.heap.size + 1, 0, none⟩ = false := hw1.thaw_of (by go_simp) (by go_simp); have c_w1_1_1 : w1.cell? ⟨w.heap.size + 1, 1, none⟩ = some (.int .i64 (0)) := hw1.cell_of (by go_simp); have f_w1_1_1 : w1.frozen? ⟨w.heap.size + 1, 1, none⟩ = false := hw1.thaw_of (by go_simp) (by go_simp))
    rw [HE.out]
    refine bodyPost_ret (v := .tuple #[.agg #[.int .i64 0, .int .i64 0], .int .i64 3]) (by unfold results; rw [Try.results192]; go_simp) rfl ⟨rfl, ?_⟩
    repeat with_reducible refine K.Ext.setCell ?_ (by dsimp only; omega) _
    exact (by repeat' (first | with_reducible exact K.Ext.refl _ | with_reducible assumption | with_reducible refine K.Ext.drew ?_ | with_reducible refine K.Ext.alloc ?_ _ | with_reducible refine K.Ext.setCell ?_ ?_ _ | with_reducible refine K.Ext.trans ?_ (by with_reducible assumption) | (dsimp only; omega) | omega | exact K.Ext.refl _ | assumption | apply K.Ext.drew | refine K.Ext.alloc ?_ _ | refine K.Ext.setCell ?_ ?_ _ | (simp; done) | (simp; omega) | refine K.Ext.trans ?_ (by assumption)))
  · have HE : Hid (Z.figOr (d, t) = ((d, t), 0)) := Z.hide (by unfold Z.figOr; rw [hf]; rfl)
    go_enter Try.func192, Try.ntmps192
    go_wp2_with ((go_at_call 112; refine K.call (by with_reducible rfl) (by with_reducible rfl) (impl_IsFigure d t _) ?_; rintro e w1 ⟨rfl, hw1⟩; obtain ⟨hcw1, hfw1⟩ := hw1.facts); have c_w1_0_0 : w1.cell? ⟨w.heap.size, 0, none⟩ = some (.int .i64 (d)) := hw1.cell_of (by go_simp); have f_w1_0_0 : w1.frozen? ⟨w.heap.size, 0, none⟩ = false := hw1.thaw_of (by go_simp) (by go_simp); have c_w1_0_1 : w1.cell? ⟨w.heap.size, 1, none⟩ = some (.int .i64 (t)) := hw1.cell_of (by go_simp); have f_w1_0_1 : w1.frozen? ⟨w.heap.size, 1, none⟩ = false := hw1.thaw_of (by go_simp) (by go_simp); have c_w1_1_0 : w1.cell? ⟨w.heap.size + 1, 0, none⟩ = some (.int .i64 (0)) := hw1.cell_of (by go_simp); have f_w1_1_0 : w1.frozen? ⟨w.heap.size + 1, 0, none⟩ = false := hw1.thaw_of (by go_simp) (by go_simp); have c_w1_1_1 : w1.cell? ⟨w.heap.size + 1, 1, none⟩ = some (.int .i64 (0)) := hw1.cell_of (by go_simp); have f_w1_1_1 : w1.frozen? ⟨w.heap.size + 1, 1, none⟩ = false := hw1.thaw_of (by go_simp) (by go_simp))
    rw [HE.out]
    refine bodyPost_ret (v := .tuple #[.agg #[.int .i64 d, .int .i64 t], .int .i64 0]) (by unfold results; rw [Try.results192]; go_simp) rfl ⟨rfl, ?_⟩
    repeat with_reducible refine K.Ext.setCell ?_ (by dsimp only; omega) _
    exact (by repeat' (first | with_reducible exact K.Ext.refl _ | with_reducible assumption | with_reducible refine K.Ext.drew ?_ | with_reducible refine K.Ext.alloc ?_ _ | with_reducible refine K.Ext.setCell ?_ ?_ _ | with_reducible refine K.Ext.trans ?_ (by with_reducible assumption) | (dsimp only; omega) | omega | exact K.Ext.refl _ | assumption | apply K.Ext.drew | refine K.Ext.alloc ?_ _ | refine K.Ext.setCell ?_ ?_ _ | (simp; done) | (simp; omega) | refine K.Ext.trans ?_ (by assumption)))
set_option maxHeartbeats 1600000 in
theorem l02Two_any (a b : Int × Int) (w : World) :
    Calls Try.prog 165 #[.agg #[.int .i64 a.1, .int .i64 a.2], .agg #[.int .i64 b.1, .int .i64 b.2]] w fun e w' => e = .returned (.bool (Z.isFig a.1 a.2 && Z.isFig b.1 b.2)) ∧ K.Ext w w' := by
  cases hf : Z.isFig a.1 a.2
  · go_enter Try.func165, Try.ntmps165
    go_wp2_with ((go_at_call 145; refine K.call (by with_reducible rfl) (by with_reducible rfl) (spec_IsFigure a.1 a.2 _) ?_; rintro e w1 ⟨rfl, hw1⟩; obtain ⟨hcw1, hfw1⟩ := hw1.facts); have c_w1_0_0 : w1.cell? ⟨w.heap.size, 0, none⟩ = some (.int .i64 (a.1)) := hw1.cell_of (by go_simp); have f_w1_0_0 : w1.frozen? ⟨w.heap.size, 0, none⟩ = false := hw1.thaw_of (by go_simp) (by go_simp); have c_w1_0_1 : w1.cell? ⟨w.heap.size, 1, none⟩ = some (.int .i64 (a.2)) := hw1.cell_of (by go_simp); have f_w1_0_1 : w1.frozen? ⟨w.heap.size, 1, none⟩ = false := hw1.thaw_of (by go_simp) (by go_simp); have c_w1_1_0 : w1.cell? ⟨w.heap.size + 1, 0, none⟩ = some (.int .i64 (b.1)) := hw1.cell_of (by go_simp); have f_w1_1_0 : w1.frozen? ⟨w.heap.size + 1, 0, none⟩ = false := hw1.thaw_of (by go_simp) (by go_simp); have c_w1_1_1 : w1.cell? ⟨w.heap.size + 1, 1, none⟩ = some (.int .i64 (b.2)) := hw1.cell_of (by go_simp); have f_w1_1_1 : w1.frozen? ⟨w.heap.size + 1, 1, none⟩ = false := hw1.thaw_of (by go_simp) (by go_simp))
    go_ret
    exact ⟨rfl, (by repeat' (first | with_reducible exact K.Ext.refl _ | with_reducible assumption | with_reducible refine K.Ext.drew ?_ | with_reducible refine K.Ext.alloc ?_ _ | with_reducible refine K.Ext.setCell ?_ ?_ _ | with_reducible refine K.Ext.trans ?_ (by with_reducible assumption) | (dsimp only; omega) | omega | exact K.Ext.refl _ | assumption | apply K.Ext.drew | refine K.Ext.alloc ?_ _ | refine K.Ext.setCell ?_ ?_ _ | (simp; done) | (simp; omega) | refine K.Ext.trans ?_ (by assumption)))⟩
  · go_enter Try.func165, Try.ntmps165
    go_wp2_with (first | ((go_at_call 145; refine K.call (by with_reducible rfl) (by with_reducible rfl) (spec_IsFigure a.1 a.2 _) ?_; rintro e w1 ⟨rfl, hw1⟩; obtain ⟨hcw1, hfw1⟩ := hw1.facts); have c_w1_0_0 : w1.cell? ⟨w.heap.size, 0, none⟩ = some (.int .i64 (a.1)) := hw1.cell_of (by go_simp); have f_w1_0_0 : w1.frozen? ⟨w.heap.size, 0, none⟩ = false := hw1.thaw_of (by go_simp) (by go_simp); have c_w1_0_1 : w1.cell? ⟨w.heap.size, 1, none⟩ = some (.int .i64 (a.2)) := hw1.cell_of (by go_simp); have f_w1_0_1 : w1.frozen? ⟨w.heap.size, 1, none⟩ = false := hw1.thaw_of (by go_simp) (by go_simp); have c_w1_1_0 : w1.cell? ⟨w.heap.size + 1, 0, none⟩ = some (.int .i64 (b.1)) := hw1.cell_of (by go_simp); have f_w1_1_0 : w1.frozen? ⟨w.heap.size + 1, 0, none⟩ = false := hw1.thaw_of (by go_simp) (by go_simp); have c_w1_1_1 : w1.cell? ⟨w.heap.size + 1, 1, none⟩ = some (.int .i64 (b.2)) := hw1.cell_of (by go_simp); have f_w1_1_1 : w1.frozen? ⟨w.heap.size + 1, 1, none⟩ = false := hw1.thaw_of (by go_simp) (by go_simp)) | (go_at_call 145; refine K.call (by with_reducible rfl) (by with_reducible rfl) (spec_IsFigure b.1 b.2 _) ?_; rintro e w2 ⟨rfl, hw2⟩; obtain ⟨hcw2, hfw2⟩ := hw2.facts))
    go_ret
    exact ⟨K.rb (by simp), (by repeat' (first | with_reducible exact K.Ext.refl _ | with_reducible assumption | with_reducible refine K.Ext.drew ?_ | with_reducible refine K.Ext.alloc ?_ _ | with_reducible refine K.Ext.setCell ?_ ?_ _ | with_reducible refine K.Ext.trans ?_ (by with_reducible assumption) | (dsimp only; omega) | omega | exact K.Ext.refl _ | assumption | apply K.Ext.drew | refine K.Ext.alloc ?_ _ | refine K.Ext.setCell ?_ ?_ _ | (simp; done) | (simp; omega) | refine K.Ext.trans ?_ (by assumption)))⟩
set_option maxHeartbeats 3200000 in
theorem spec_MultiplyFigures (a b : Int × Int) (w : World) :
    Calls Try.prog 101 #[.agg #[.int .i64 a.1, .int .i64 a.2], .agg #[.int .i64 b.1, .int .i64 b.2]] w fun e w' => e = .returned (.tuple #[.agg #[.int .i64 (Z.MultiplyFigures a b).1.1, .int .i64 (Z.MultiplyFigures a b).1.2], .int .i64 (Z.MultiplyFigures a b).2]) ∧ K.Ext w w' := by
  cases hf : (Z.isFig a.1 a.2 && Z.isFig b.1 b.2)
  · have HE : Hid (Z.MultiplyFigures a b = ((0, 0), 1)) := Z.hide (by unfold Z.MultiplyFigures; rw [hf]; rfl)
    go_enter Try.func101, Try.ntmps101
    go_wp2_with ((go_at_call 165; refine K.call (by with_reducible rfl) (by with_reducible rfl) (l02Two_any a b _) ?_; rintro e w1 ⟨rfl, hw1⟩; obtain ⟨hcw1, hfw1⟩ := hw1.facts); have c_w1_0_0 : w1.cell? ⟨w.heap.size, 0, none⟩ = some (.int .i64 (a.1)) := hw1.cell_of (by go_simp); have f_w1_0_0 : w1.frozen? ⟨w.heap.size, 0, none⟩ = false := hw1.thaw_of (by go_simp) (by go_simp); have c_w1_0_1 : w1.cell? ⟨w.heap.size, 1, none⟩ = some (.int .i64 (a.2)) := hw1.cell_of (by go_simp); have f_w1_0_1 : w1.frozen? ⟨w.heap.size, 1, none⟩ = false := hw1.thaw_of (by go_simp) (by go_simp); have c_w1_1_0 : w1.cell? ⟨w.heap.size + 1, 0, none⟩ = some (.int .i64 (b.1)) := hw1.cell_of (by go_simp); have f_w1_1_0 : w1.frozen? ⟨w.heap.size + 1, 0, none⟩ = false := hw1.thaw_of (by go_simp) (by go_simp); have c_w1_1_1 : w1.cell? ⟨w.heap.size + 1, 1, none⟩ = some (.int .i64 (b.2)) := hw1.cell_of (by go_simp); have f_w1_1_1 : w1.frozen? ⟨w.heap.size + 1, 1, none⟩ = false := hw1.thaw_of (by go_simp) (by go_simp); have c_w1_2_0 : w1.cell? ⟨w.heap.size + 1 + 1, 0, none⟩ = some (.int .i64 (0)) := hw1.cell_of (by go_simp); have f_w1_2_0 : w1.frozen? ⟨w.heap.size + 1 + 1, 0, none⟩ = false := hw1.thaw_of (by go_simp) (by go_simp); have c_w1_2_1 : w1.cell? ⟨w.heap.size + 1 + 1, 1, none⟩ = some (.int .i64 (0)) := hw1.cell_of (by go_simp); have f_w1_2_1 : w1.frozen? ⟨w.heap.size + 1 + 1, 1, none⟩ = false := hw1.thaw_of (by go_simp) (by go_simp))
    rw [HE.out]
    refine bodyPost_ret (v := .tuple #[.agg #[.int .i64 0, .int .i64 0], .int .i64 1]) (by unfold results; rw [Try.results101]; go_simp) rfl ⟨rfl, ?_⟩
    repeat with_reducible refine K.Ext.setCell ?_ (by dsimp only; omega) _
    exact (by repeat' (first | with_reducible exact K.Ext.refl _ | with_reducible assumption | with_reducible refine K.Ext.drew ?_ | with_reducible refine K.Ext.alloc ?_ _ | with_reducible refine K.Ext.setCell ?_ ?_ _ | with_reducible refine K.Ext.trans ?_ (by with_reducible assumption) | (dsimp only; omega) | omega | exact K.Ext.refl _ | assumption | apply K.Ext.drew | refine K.Ext.alloc ?_ _ | refine K.Ext.setCell ?_ ?_ _ | (simp; done) | (simp; omega) | refine K.Ext.trans ?_ (by assumption)))
  · obtain ⟨a1, a2, a3, a4, b1, b2, b3, b4⟩ := Z.two_bd hf
    obtain ⟨q, hq⟩ : ∃ q, q = Z.round (a.1 * b.1) 1 (a.2 + b.2 - 6) := ⟨_, rfl⟩
    have HE : Hid (Z.MultiplyFigures a b = Z.figOr q) := Z.hide (by unfold Z.MultiplyFigures; rw [hf, hq]; rfl)
    obtain ⟨m1, m2⟩ := Z.mul_1000 a1 a2 b1 b2
    have HR : ∀ w' : World, Calls Try.prog 167 #[.int .i64 (a.1 * b.1), .int .i64 1, .int .i64 (a.2 + b.2 - 6)] w' fun e w'' => e = .returned (.agg #[.int .i64 q.1, .int .i64 q.2]) ∧ K.Ext w' w'' := fun w' => by rw [hq]; exact l02Round_any _ _ _ _ (by omega) (by omega) (by omega) (by omega) (by omega) (by omega)
    clear hq
    go_enter Try.func101, Try.ntmps101
    go_wp2_with (first | ((go_at_call 165; refine K.call (by with_reducible rfl) (by with_reducible rfl) (l02Two_any a b _) ?_; rintro e w1 ⟨rfl, hw1⟩; obtain ⟨hcw1, hfw1⟩ := hw1.facts); have c_w1_0_0 : w1.cell? ⟨w.heap.size, 0, none⟩ = some (.int .i64 (a.1)) := hw1.cell_of (by go_simp); have f_w1_0_0 : w1.frozen? ⟨w.heap.size, 0, none⟩ = false := hw1.thaw_of (by go_simp) (by go_simp); have c_w1_0_1 : w1.cell? ⟨w.heap.size, 1, none⟩ = some (.int .i64 (a.2)) := hw1.cell_of (by go_simp); have f_w1_0_1 : w1.frozen? ⟨w.heap.size, 1, none⟩ = false := hw1.thaw_of (by go_simp) (by go_simp); have c_w1_1_0 : w1.cell? ⟨w.heap.size + 1, 0, none⟩ = some (.int .i64 (b.1)) := hw1.cell_of (by go_simp); have f_w1_1_0 : w1.frozen? ⟨w.heap.size + 1, 0, none⟩ = false := hw1.thaw_of (by go_simp) (by go_simp); have c_w1_1_1 : w1.cell? ⟨w.heap.size + 1, 1, none⟩ = some (.int .i64 (b.2)) := hw1.cell_of (by go_simp); have f_w1_1_1 : w1.frozen? ⟨w.heap.size + 1, 1, none⟩ = false := hw1.thaw_of (by go_simp) (by go_simp); have c_w1_2_0 : w1.cell? ⟨w.heap.size + 1 + 1, 0, none⟩ = some (.int .i64 (0)) := hw1.cell_of (by go_simp); have f_w1_2_0 : w1.frozen? ⟨w.heap.size + 1 + 1, 0, none⟩ = false := hw1.thaw_of (by go_simp) (by go_simp); have c_w1_2_1 : w1.cell? ⟨w.heap.size + 1 + 1, 1, none⟩ = some (.int .i64 (0)) := hw1.cell_of (by go_simp); have f_w1_2_1 : w1.frozen? ⟨w.heap.size + 1 + 1, 1, none⟩ = false := hw1.thaw_of (by go_simp) (by go_simp)) | ((go_at_call 167; refine K.call (by with_reducible rfl) (by with_reducible rfl) (HR _) ?_; rintro e w2 ⟨rfl, hw2⟩; obtain ⟨hcw2, hfw2⟩ := hw2.facts); have c_w2_0_0 : w2.cell? ⟨w.heap.size, 0, none⟩ = some (.int .i64 (a.1)) := hw2.cell_of (by go_simp); have f_w2_0_0 : w2.frozen? ⟨w.heap.size, 0, none⟩ = false := hw2.thaw_of (by go_simp) (by go_simp); have c_w2_0_1 : w2.cell? ⟨w.heap.size, 1, none⟩ = some (.int .i64 (a.2)) := hw2.cell_of (by go_simp); have f_w2_0_1 : w2.frozen? ⟨w.heap.size, 1, none⟩ = false := hw2.thaw_of (by go_simp) (by go_simp); have c_w2_1_0 : w2.cell? ⟨w.heap.size + 1, 0, none⟩ = some (.int .i64 (b.1)) := hw2.cell_of (by go_simp); have f_w2_1_0 : w2.frozen? ⟨w.heap.size + 1, 0, none⟩ = false := hw2.thaw_of (by go_simp) (by go_simp); have c_w2_1_1 : w2.cell? ⟨w.heap.size + 1, 1, none⟩ = some (.int .i64 (b.2)) := hw2.cell_of (by go_simp); have f_w2_1_1 : w2.frozen? ⟨w.heap.size + 1, 1, none⟩ = false := hw2.thaw_of (by go_simp) (by go_simp); have c_w2_2_0 : w2.cell? ⟨w.heap.size + 1 + 1, 0, none⟩ = some (.int .i64 (0)) := hw2.cell_of (by go_simp); have f_w2_2_0 : w2.frozen? ⟨w.heap.size + 1 + 1, 0, none⟩ = false := hw2.thaw_of (by go_simp) (by go_simp); have c_w2_2_1 : w2.cell? ⟨w.heap.size + 1 + 1, 1, none⟩ = some (.int .i64 (0)) := hw2.cell_of (by go_simp); have f_w2_2_1 : w2.frozen? ⟨w.heap.size + 1 + 1, 1, none⟩ = false := hw2.thaw_of (by go_simp) (by go_simp)) | ((go_at_call 166; refine K.call (by with_reducible rfl) (by with_reducible rfl) (l02Result_any q.1 q.2 _) ?_; rintro e w3 ⟨rfl, hw3⟩; obtain ⟨hcw3, hfw3⟩ := hw3.facts); have c_w3_0_0 : w3.cell? ⟨w.heap.size, 0, none⟩ = some (.int .i64 (a.1)) := hw3.cell_of (by go_simp); have f_w3_0_0 : w3.frozen? ⟨w.heap.size, 0, none⟩ = false := hw3.thaw_of (by go_simp) (by go_simp); have c_w3_0_1 : w3.cell? ⟨w.heap.size, 1, none⟩ = some (.int .i64 (a.2)) := hw3.cell_of (by go_simp); have f_w3_0_1 : w3.frozen? ⟨w.heap.size, 1, none⟩ = false := hw3.thaw_of (by go_simp) (by go_simp); have c_w3_1_0 : w3.cell? ⟨w.heap.size + 1, 0, none⟩ = some (.int .i64 (b.1)) := hw3.cell_of (by go_simp); have f_w3_1_0 : w3.frozen? ⟨w.heap.size + 1, 0, none⟩ = false := hw3.thaw_of (by go_simp) (by go_simp); have c_w3_1_1 : w3.cell? ⟨w.heap.size + 1, 1, none⟩ = some (.int .i64 (b.2)) := hw3.cell_of (by go_simp); have f_w3_1_1 : w3.frozen? ⟨w.heap.size + 1, 1, none⟩ = false := hw3.thaw_of (by go_simp) (by go_simp); have c_w3_2_0 : w3.cell? ⟨w.heap.size + 1 + 1, 0, none⟩ = some (.int .i64 (0)) := hw3.cell_of (by go_simp); have f_w3_2_0 : w3.frozen? ⟨w.heap.size + 1 + 1, 0, none⟩ = false := hw3.thaw_of (by go_simp) (by go_simp); have c_w3_2_1 : w3.cell? ⟨w.heap.size + 1 + 1, 1, none⟩ = some (.int .i64 (0)) := hw3.cell_of (by go_simp); have f_w3_2_1 : w3.frozen? ⟨w.heap.size + 1 + 1, 1, none⟩ = false := hw3.thaw_of (by go_simp) (by go_simp)))
    rw [HE.out]
    refine bodyPost_ret (v := .tuple #[.agg #[.int .i64 (Z.figOr q).1.1, .int .i64 (Z.figOr q).1.2], .int .i64 (Z.figOr q).2]) (by unfold results; rw [Try.results101]; go_simp) rfl ⟨rfl, ?_⟩
    repeat with_reducible refine K.Ext.setCell ?_ (by dsimp only; omega) _
    exact (by repeat' (first | with_reducible exact K.Ext.refl _ | with_reducible assumption | with_reducible refine K.Ext.drew ?_ | with_reducible refine K.Ext.alloc ?_ _ | with_reducible refine K.Ext.setCell ?_ ?_ _ | with_reducible refine K.Ext.trans ?_ (by with_reducible assumption) | (dsimp only; omega) | omega | exact K.Ext.refl _ | assumption | apply K.Ext.drew | refine K.Ext.alloc ?_ _ | refine K.Ext.setCell ?_ ?_ _ | (simp; done) | (simp; omega) | refine K.Ext.trans ?_ (by assumption)))
set_option maxHeartbeats 3200000 in
theorem spec_DivideFigures (a b : Int × Int) (w : World) :
    Calls Try.prog 111 #[.agg #[.int .i64 a.1, .int .i64 a.2], .agg #[.int .i64 b.1, .int .i64 b.2]] w fun e w' => e = .returned (.tuple #[.agg #[.int .i64 (Z.DivideFigures a b).1.1, .int .i64 (Z.DivideFigures a b).1.2], .int .i64 (Z.DivideFigures a b).2]) ∧ K.Ext w w' := by
  cases hf : (Z.isFig a.1 a.2 && Z.isFig b.1 b.2)
  · have HE : Hid (Z.DivideFigures a b = ((0, 0), 1)) := Z.hide (by unfold Z.DivideFigures; rw [hf]; rfl)
    go_enter Try.func111, Try.ntmps111
    go_wp2_with ((go_at_call 165; refine K.call (by with_reducible rfl) (by with_reducible rfl) (l02Two_any a b _) ?_; rintro e w1 ⟨rfl, hw1⟩; obtain ⟨hcw1, hfw1⟩ := hw1.facts); have c_w1_0_0 : w1.cell? ⟨w.heap.size, 0, none⟩ = some (.int .i64 (a.1)) := hw1.cell_of (by go_simp); have f_w1_0_0 : w1.frozen? ⟨w.heap.size, 0, none⟩ = false := hw1.thaw_of (by go_simp) (by go_simp); have c_w1_0_1 : w1.cell? ⟨w.heap.size, 1, none⟩ = some (.int .i64 (a.2)) := hw1.cell_of (by go_simp); have f_w1_0_1 : w1.frozen? ⟨w.heap.size, 1, none⟩ = false := hw1.thaw_of (by go_simp) (by go_simp); have c_w1_1_0 : w1.cell? ⟨w.heap.size + 1, 0, none⟩ = some (.int .i64 (b.1)) := hw1.cell_of (by go_simp); have f_w1_1_0 : w1.frozen? ⟨w.heap.size + 1, 0, none⟩ = false := hw1.thaw_of (by go_simp) (by go_simp); have c_w1_1_1 : w1.cell? ⟨w.heap.size + 1, 1, none⟩ = some (.int .i64 (b.2)) := hw1.cell_of (by go_simp); have f_w1_1_1 : w1.frozen? ⟨w.heap.size + 1, 1, none⟩ = false := hw1.thaw_of (by go_simp) (by go_simp); have c_w1_2_0 : w1.cell? ⟨w.heap.size + 1 + 1, 0, none⟩ = some (.int .i64 (0)) := hw1.cell_of (by go_simp); have f_w1_2_0 : w1.frozen? ⟨w.heap.size + 1 + 1, 0, none⟩ = false := hw1.thaw_of (by go_simp) (by go_simp); have c_w1_2_1 : w1.cell? ⟨w.heap.size + 1 + 1, 1, none⟩ = some (.int .i64 (0)) := hw1.cell_of (by go_simp); have f_w1_2_1 : w1.frozen? ⟨w.heap.size + 1 + 1, 1, none⟩ = false := hw1.thaw_of (by go_simp) (by go_simp))
    rw [HE.out]
    refine bodyPost_ret (v := .tuple #[.agg #[.int .i64 0, .int .i64 0], .int .i64 1]) (by unfold results; rw [Try.results111]; go_simp) rfl ⟨rfl, ?_⟩
    repeat with_reducible refine K.Ext.setCell ?_ (by dsimp only; omega) _
    exact (by repeat' (first | with_reducible exact K.Ext.refl _ | with_reducible assumption | with_reducible refine K.Ext.drew ?_ | with_reducible refine K.Ext.alloc ?_ _ | with_reducible refine K.Ext.setCell ?_ ?_ _ | with_reducible refine K.Ext.trans ?_ (by with_reducible assumption) | (dsimp only; omega) | omega | exact K.Ext.refl _ | assumption | apply K.Ext.drew | refine K.Ext.alloc ?_ _ | refine K.Ext.setCell ?_ ?_ _ | (simp; done) | (simp; omega) | refine K.Ext.trans ?_ (by assumption)))
  · obtain ⟨a1, a2, a3, a4, b1, b2, b3, b4⟩ := Z.two_bd hf
    obtain ⟨q, hq⟩ : ∃ q, q = Z.round (a.1) b.1 (a.2 - b.2) := ⟨_, rfl⟩
    have HE : Hid (Z.DivideFigures a b = Z.figOr q) := Z.hide (by unfold Z.DivideFigures; rw [hf, hq]; rfl)
    skip
    have HR : ∀ w' : World, Calls Try.prog 167 #[.int .i64 (a.1), .int .i64 b.1, .int .i64 (a.2 - b.2)] w' fun e w'' => e = .returned (.agg #[.int .i64 q.1, .int .i64 q.2]) ∧ K.Ext w' w'' := fun w' => by rw [hq]; exact l02Round_any _ _ _ _ (by omega) (by omega) (by omega) (by omega) (by omega) (by omega)
    clear hq
    go_enter Try.func111, Try.ntmps111
    go_wp2_with (first | ((go_at_call 165; refine K.call (by with_reducible rfl) (by with_reducible rfl) (l02Two_any a b _) ?_; rintro e w1 ⟨rfl, hw1⟩; obtain ⟨hcw1, hfw1⟩ := hw1.facts); have c_w1_0_0 : w1.cell? ⟨w.heap.size, 0, none⟩ = some (.int .i64 (a.1)) := hw1.cell_of (by go_simp); have f_w1_0_0 : w1.frozen? ⟨w.heap.size, 0, none⟩ = false := hw1.thaw_of (by go_simp) (by go_simp); have c_w1_0_1 : w1.cell? ⟨w.heap.size, 1, none⟩ = some (.int .i64 (a.2)) := hw1.cell_of (by go_simp); have f_w1_0_1 : w1.frozen? ⟨w.heap.size, 1, none⟩ = false := hw1.thaw_of (by go_simp) (by go_simp); have c_w1_1_0 : w1.cell? ⟨w.heap.size + 1, 0, none⟩ = some (.int .i64 (b.1)) := hw1.cell_of (by go_simp); have f_w1_1_0 : w1.frozen? ⟨w.heap.size + 1, 0, none⟩ = false := hw1.thaw_of (by go_simp) (by go_simp); have c_w1_1_1 : w1.cell? ⟨w.heap.size + 1, 1, none⟩ = some (.int .i64 (b.2)) := hw1.cell_of (by go_simp); have f_w1_1_1 : w1.frozen? ⟨w.heap.size + 1, 1, none⟩ = false := hw1.thaw_of (by go_simp) (by go_simp); have c_w1_2_0 : w1.cell? ⟨w.heap.size + 1 + 1, 0, none⟩ = some (.int .i64 (0)) := hw1.cell_of (by go_simp); have f_w1_2_0 : w1.frozen? ⟨w.heap.size + 1 + 1, 0, none⟩ = false := hw1.thaw_of (by go_simp) (by go_simp); have c_w1_2_1 : w1.cell? ⟨w.heap.size + 1 + 1, 1, none⟩ = some (.int .i64 (0)) := hw1.cell_of (by go_simp); have f_w1_2_1 : w1.frozen? ⟨w.heap.size + 1 + 1, 1, none⟩ = false := hw1.thaw_of (by go_simp) (by go_simp)) | ((go_at_call 167; refine K.call (by with_reducible rfl) (by with_reducible rfl) (HR _) ?_; rintro e w2 ⟨rfl, hw2⟩; obtain ⟨hcw2, hfw2⟩ := hw2.facts); have c_w2_0_0 : w2.cell? ⟨w.heap.size, 0, none⟩ = some (.int .i64 (a.1)) := hw2.cell_of (by go_simp); have f_w2_0_0 : w2.frozen? ⟨w.heap.size, 0, none⟩ = false := hw2.thaw_of (by go_simp) (by go_simp); have c_w2_0_1 : w2.cell? ⟨w.heap.size, 1, none⟩ = some (.int .i64 (a.2)) := hw2.cell_of (by go_simp); have f_w2_0_1 : w2.frozen? ⟨w.heap.size, 1, none⟩ = false := hw2.thaw_of (by go_simp) (by go_simp); have c_w2_1_0 : w2.cell? ⟨w.heap.size + 1, 0, none⟩ = some (.int .i64 (b.1)) := hw2.cell_of (by go_simp); have f_w2_1_0 : w2.frozen? ⟨w.heap.size + 1, 0, none⟩ = false := hw2.thaw_of (by go_simp) (by go_simp); have c_w2_1_1 : w2.cell? ⟨w.heap.size + 1, 1, none⟩ = some (.int .i64 (b.2)) := hw2.cell_of (by go_simp); have f_w2_1_1 : w2.frozen? ⟨w.heap.size + 1, 1, none⟩ = false := hw2.thaw_of (by go_simp) (by go_simp); have c_w2_2_0 : w2.cell? ⟨w.heap.size + 1 + 1, 0, none⟩ = some (.int .i64 (0)) := hw2.cell_of (by go_simp); have f_w2_2_0 : w2.frozen? ⟨w.heap.size + 1 + 1, 0, none⟩ = false := hw2.thaw_of (by go_simp) (by go_simp); have c_w2_2_1 : w2.cell? ⟨w.heap.size + 1 + 1, 1, none⟩ = some (.int .i64 (0)) := hw2.cell_of (by go_simp); have f_w2_2_1 : w2.frozen? ⟨w.heap.size + 1 + 1, 1, none⟩ = false := hw2.thaw_of (by go_simp) (by go_simp)) | ((go_at_call 166; refine K.call (by with_reducible rfl) (by with_reducible rfl) (l02Result_any q.1 q.2 _) ?_; rintro e w3 ⟨rfl, hw3⟩; obtain ⟨hcw3, hfw3⟩ := hw3.facts); have c_w3_0_0 : w3.cell? ⟨w.heap.size, 0, none⟩ = some (.int .i64 (a.1)) := hw3.cell_of (by go_simp); have f_w3_0_0 : w3.frozen? ⟨w.heap.size, 0, none⟩ = false := hw3.thaw_of (by go_simp) (by go_simp); have c_w3_0_1 : w3.cell? ⟨w.heap.size, 1, none⟩ = some (.int .i64 (a.2)) := hw3.cell_of (by go_simp); have f_w3_0_1 : w3.frozen? ⟨w.heap.size, 1, none⟩ = false := hw3.thaw_of (by go_simp) (by go_simp); have c_w3_1_0 : w3.cell? ⟨w.heap.size + 1, 0, none⟩ = some (.int .i64 (b.1)) := hw3.cell_of (by go_simp); have f_w3_1_0 : w3.frozen? ⟨w.heap.size + 1, 0, none⟩ = false := hw3.thaw_of (by go_simp) (by go_simp); have c_w3_1_1 : w3.cell? ⟨w.heap.size + 1, 1, none⟩ = some (.int .i64 (b.2)) := hw3.cell_of (by go_simp); have f_w3_1_1 : w3.frozen? ⟨w.heap.size + 1, 1, none⟩ = false := hw3.thaw_of (by go_simp) (by go_simp); have c_w3_2_0 : w3.cell? ⟨w.heap.size + 1 + 1, 0, none⟩ = some (.int .i64 (0)) := hw3.cell_of (by go_simp); have f_w3_2_0 : w3.frozen? ⟨w.heap.size + 1 + 1, 0, none⟩ = false := hw3.thaw_of (by go_simp) (by go_simp); have c_w3_2_1 : w3.cell? ⟨w.heap.size + 1 + 1, 1, none⟩ = some (.int .i64 (0)) := hw3.cell_of (by go_simp); have f_w3_2_1 : w3.frozen? ⟨w.heap.size + 1 + 1, 1, none⟩ = false := hw3.thaw_of (by go_simp) (by go_simp)))
    rw [HE.out]
    refine bodyPost_ret (v := .tuple #[.agg #[.int .i64 (Z.figOr q).1.1, .int .i64 (Z.figOr q).1.2], .int .i64 (Z.figOr q).2]) (by unfold results; rw [Try.results111]; go_simp) rfl ⟨rfl, ?_⟩
    repeat with_reducible refine K.Ext.setCell ?_ (by dsimp only; omega) _
    exact (by repeat' (first | with_reducible exact K.Ext.refl _ | with_reducible assumption | with_reducible refine K.Ext.drew ?_ | with_reducible refine K.Ext.alloc ?_ _ | with_reducible refine K.Ext.setCell ?_ ?_ _ | with_reducible refine K.Ext.trans ?_ (by with_reducible assumption) | (dsimp only; omega) | omega | exact K.Ext.refl _ | assumption | apply K.Ext.drew | refine K.Ext.alloc ?_ _ | refine K.Ext.setCell ?_ ?_ _ | (simp; done) | (simp; omega) | refine K.Ext.trans ?_ (by assumption)))
end Go.Proofs.Ythmnlbgbacbocaa
end
section
namespace Go.K
open Go.RowKit
/-- The value reads as this list of figures. -/
def figs (w : World) (lo hi : Nat) (v : Value) (fs : List (Int × Int)) : Prop :=
  ∃ o cap, v = .slice o fs.length cap ∧ (fs ≠ [] → ∃ b off, o = some ⟨b, off, none⟩ ∧ lo ≤ b ∧ b < hi ∧ ∀ i, i < fs.length → w.cell? ⟨b, off + i * 2, none⟩ = some (.int .i64 (fs.getD i (0, 0)).1) ∧ w.cell? ⟨b, off + i * 2 + 1, none⟩ = some (.int .i64 (fs.getD i (0, 0)).2))
theorem figs.ext {w w' : World} {lo hi : Nat} {v : Value} {fs : List (Int × Int)} (h : figs w lo hi v fs) (hx : Ext w w') : figs w' lo hi v fs := by
  obtain ⟨o, cap, rfl, h⟩ := h
  exact ⟨o, cap, rfl, fun hn => by obtain ⟨b, off, rfl, h1, h2, h3⟩ := h hn; exact ⟨b, off, rfl, h1, h2, fun i hi => ⟨hx.cell_of (h3 i hi).1, hx.cell_of (h3 i hi).2⟩⟩⟩
theorem two_figs {w : World} {g : Nat} {a b : Int × Int} {t : TypeId} (h : w.heap[g]? = some (.cells #[.int .i64 a.1, .int .i64 a.2, .int .i64 b.1, .int .i64 b.2] t)) : figs w g (g + 1) (.slice (some ⟨g, 0, none⟩) 2 2) [a, b] := by
  refine ⟨_, 2, rfl, fun _ => ⟨g, 0, rfl, Nat.le_refl _, by omega, fun i hi => ?_⟩⟩
  match i, hi with
  | 0, _ => exact ⟨cell_at h rfl, cell_at h rfl⟩
  | 1, _ => exact ⟨cell_at h rfl, cell_at h rfl⟩
end Go.K
namespace Go.Z
def areFigs (fs : List (Int × Int)) : Bool := fs.all (fun f => isFig f.1 f.2)
theorem figs_succ (fs : List (Int × Int)) (k : Nat) (h : k < fs.length) : areFigs (fs.take (k + 1)) = (areFigs (fs.take k) && isFig (fs.getD k (0, 0)).1 (fs.getD k (0, 0)).2) := by
  unfold areFigs
  rw [List.take_succ_eq_append_getElem h, List.all_append]; simp [List.getD_eq_getElem?_getD, h]
theorem figs_bad (fs : List (Int × Int)) (k : Nat) (h : k < fs.length) (hb : isFig (fs.getD k (0, 0)).1 (fs.getD k (0, 0)).2 = false) : areFigs fs = false := by
  unfold areFigs
  rw [List.all_eq_false]
  exact ⟨fs[k], List.getElem_mem h, by simpa [List.getD_eq_getElem?_getD, h] using hb⟩
end Go.Z
namespace Go.Proofs.Ythmnlbgbacbocaa
open Go.RowKit
set_option maxHeartbeats 1600000 in
theorem areFigures_any (fs : List (Int × Int)) {lo hi : Nat} {v : Value} (w : World) (hm : fs.length ≤ 1048576) (h : K.figs w lo hi v fs) :
    Calls Try.prog 141 #[v] w fun e w' => e = .returned (.bool (Z.areFigs fs)) ∧ K.Ext w w' := by
  obtain ⟨o, cap, rfl, hh⟩ := h
  go_enter Try.func141, Try.ntmps141
  go_wp2
  go_loopw [7] (fun i wr => ∃ k : Nat, k ≤ fs.length ∧ i = .int .i64 k ∧ Hid (Z.areFigs (fs.take k) = true) ∧ Hid (K.Ext w wr)) (fun i _ => fs.length - (intOf i).toNat)
  case atStart => exact ⟨0, Nat.zero_le _, rfl, Z.hide rfl, Z.hide (K.Ext.refl _)⟩
  case round =>
    obtain ⟨k, hk, rfl, HA, HX⟩ := hrel
    by_cases hlt : k < fs.length
    · obtain ⟨b, off, rfl, _, _, hc⟩ := hh (by intro h0; simp [h0] at hlt)
      have hc1 := HX.out.cell_of (hc k hlt).1
      have hc2 := HX.out.cell_of (hc k hlt).2
      have i0 : (0 : Int) ≤ (k : Int) := Int.natCast_nonneg k
      have i1 : (k : Int) < (fs.length : Int) := by omega
      have lbr : b < wr.heap.size := World.block_lt_of_cell? wr _ hc1
      have n1 : ¬ (b = wr.heap.size) := by omega
      have n2 : ¬ (wr.heap.size = b) := by omega
      have HS := Z.hide (Z.figs_succ fs k hlt)
      have HB := Z.hide (Z.figs_bad fs k hlt)
      clear hc hh
      generalize fs.getD k (0, 0) = f at *
      cases hf : Z.isFig f.1 f.2
      · have HF := Z.hide (HB.out hf)
        go_wp2_with ((go_at_call 112; refine K.call (by with_reducible rfl) (by with_reducible rfl) (impl_IsFigure f.1 f.2 _) ?_; rintro e w1 ⟨rfl, hw1⟩; obtain ⟨hcw1, hfw1⟩ := hw1.facts))
        go_ret
        exact ⟨K.rb (by rw [HF.out]), K.Ext.trans HX.out (by repeat' (first | with_reducible exact K.Ext.refl _ | with_reducible assumption | with_reducible refine K.Ext.drew ?_ | with_reducible refine K.Ext.alloc ?_ _ | with_reducible refine K.Ext.setCell ?_ ?_ _ | with_reducible refine K.Ext.trans ?_ (by with_reducible assumption) | (dsimp only; omega) | omega | exact K.Ext.refl _ | assumption | apply K.Ext.drew | refine K.Ext.alloc ?_ _ | refine K.Ext.setCell ?_ ?_ _ | (simp; done) | (simp; omega) | refine K.Ext.trans ?_ (by assumption)))⟩
      · have HF : Hid (Z.areFigs (fs.take (k + 1)) = true) := Z.hide (by rw [HS.out, HA.out, hf]; rfl)
        go_wp2_with ((go_at_call 112; refine K.call (by with_reducible rfl) (by with_reducible rfl) (impl_IsFigure f.1 f.2 _) ?_; rintro e w1 ⟨rfl, hw1⟩; obtain ⟨hcw1, hfw1⟩ := hw1.facts))
        go_roundw
        case rel => exact ⟨k + 1, by omega, by go_num, HF, Z.hide (K.Ext.trans HX.out (by repeat' (first | with_reducible exact K.Ext.refl _ | with_reducible assumption | with_reducible refine K.Ext.drew ?_ | with_reducible refine K.Ext.alloc ?_ _ | with_reducible refine K.Ext.setCell ?_ ?_ _ | with_reducible refine K.Ext.trans ?_ (by with_reducible assumption) | (dsimp only; omega) | omega | exact K.Ext.refl _ | assumption | apply K.Ext.drew | refine K.Ext.alloc ?_ _ | refine K.Ext.setCell ?_ ?_ _ | (simp; done) | (simp; omega) | refine K.Ext.trans ?_ (by assumption))))⟩
        case measure => simp [intOf]; omega
    · obtain rfl : k = fs.length := by omega
      have HF : Hid (Z.areFigs fs = true) := Z.hide (by have := HA.out; rwa [List.take_length] at this)
      clear hh
      go_wp2
      go_ret
      exact ⟨K.rb (by rw [HF.out]), HX.out⟩
theorem areTwo_any (a b : Int × Int) {g : Nat} {t : TypeId} (w : World) (h : w.heap[g]? = some (.cells #[.int .i64 a.1, .int .i64 a.2, .int .i64 b.1, .int .i64 b.2] t)) :
    Calls Try.prog 141 #[.slice (some ⟨g, 0, none⟩) 2 2] w fun e w' => e = .returned (.bool (Z.isFig a.1 a.2 && Z.isFig b.1 b.2)) ∧ K.Ext w w' :=
  (areFigures_any [a, b] w (by simp) (K.two_figs h)).mono fun e w' ⟨he, hx⟩ => ⟨by rw [he]; simp [Z.areFigs], hx⟩
theorem areTwo_new (a b : Int × Int) (g : Nat) (W : World) (hg : g = W.heap.size) :
    Calls Try.prog 141 #[.slice (some ⟨g, 0, none⟩) 2 2] (W.alloc (.cells #[.int .i64 a.1, .int .i64 a.2, .int .i64 b.1, .int .i64 b.2] 30)) fun e w' => e = .returned (.bool (Z.isFig a.1 a.2 && Z.isFig b.1 b.2)) ∧ K.Ext (W.alloc (.cells #[.int .i64 a.1, .int .i64 a.2, .int .i64 b.1, .int .i64 b.2] 30)) w' :=
  areTwo_any a b _ (K.block_new hg)
end Go.Proofs.Ythmnlbgbacbocaa
end
section
namespace Go.Z
def stepL (p : Int × Int) : Int × Int := if 1000000000 ≤ fl (p.1 * p.1) 100000000 then (fl (fl (p.1 * p.1) 100000000) 10, p.2 * 2 + 1) else (fl (p.1 * p.1) 100000000, p.2 * 2)
def stepH (p : Int × Int) : Int × Int := if 1000000000 ≤ cl (p.1 * p.1) 100000000 then (cl (cl (p.1 * p.1) 100000000) 10, p.2 * 2 + 1) else (cl (p.1 * p.1) 100000000, p.2 * 2)
def itL (x : Int) : Nat → Int × Int
  | 0 => (x, 0)
  | k + 1 => stepL (itL x k)
def itH (x : Int) : Nat → Int × Int
  | 0 => (x, 0)
  | k + 1 => stepH (itH x k)
def b2 : Nat → Int
  | 0 => 1
  | k + 1 => 2 * b2 k
theorem b2_pos (k : Nat) : 1 ≤ b2 k := by
  induction k with
  | zero => exact Int.le_refl 1
  | succ k ih => simp only [b2]; omega
theorem b2_mono {k m : Nat} (h : k ≤ m) : b2 k ≤ b2 m := by
  induction m with
  | zero => obtain rfl : k = 0 := by omega
            exact Int.le_refl _
  | succ m ih =>
    by_cases hk : k = m + 1
    · rw [hk]; exact Int.le_refl _
    · have h1 := ih (by omega)
      have h2 := b2_pos m
      simp only [b2]; omega
theorem b2_20 : b2 20 = 1048576 := by decide
theorem sq_bd {x : Int} (h1 : 100000000 ≤ x) (h2 : x ≤ 1000000000) : 10000000000000000 ≤ x * x ∧ x * x ≤ 1000000000000000000 := by
  have h3 := (mul_bd x x 1000000000 1000000000 (by omega) h2 (by omega) h2).2
  have h4 : 0 ≤ (x - 100000000) * (x - 100000000) := Int.mul_nonneg (by omega) (by omega)
  have h5 : (x - 100000000) * (x - 100000000) = x * x - 200000000 * x + 10000000000000000 := by
    rw [Int.sub_mul, Int.mul_sub, Int.mul_sub]; omega
  omega
theorem stepL_bd {p : Int × Int} {B : Int} (h1 : 100000000 ≤ p.1) (h2 : p.1 < 1000000000) (h3 : 0 ≤ p.2) (h4 : p.2 + 1 ≤ B) : (100000000 ≤ (stepL p).1 ∧ (stepL p).1 < 1000000000) ∧ 0 ≤ (stepL p).2 ∧ (stepL p).2 + 1 ≤ 2 * B := by
  obtain ⟨q1, q2⟩ := sq_bd h1 (by omega)
  obtain ⟨r1, r2⟩ := fl_spec (p.1 * p.1) 100000000 (by decide)
  have q3 : p.1 * p.1 < 1000000000000000000 := by
    have := (mul_bd p.1 p.1 999999999 999999999 (by omega) (by omega) (by omega) (by omega)).2
    omega
  unfold stepL
  split
  · rename_i hc
    obtain ⟨s1, s2⟩ := fl_spec (fl (p.1 * p.1) 100000000) 10 (by decide)
    exact ⟨⟨by dsimp only; omega, by dsimp only; omega⟩, by dsimp only; omega, by dsimp only; omega⟩
  · exact ⟨⟨by dsimp only; omega, by dsimp only; omega⟩, by dsimp only; omega, by dsimp only; omega⟩
theorem stepH_bd {p : Int × Int} {B : Int} (h1 : 100000000 ≤ p.1) (h2 : p.1 ≤ 1000000000) (h3 : 0 ≤ p.2) (h4 : p.2 + 1 ≤ B) : (100000000 ≤ (stepH p).1 ∧ (stepH p).1 ≤ 1000000000) ∧ 0 ≤ (stepH p).2 ∧ (stepH p).2 + 1 ≤ 2 * B := by
  obtain ⟨q1, q2⟩ := sq_bd h1 h2
  obtain ⟨r1, r2⟩ := fl_spec (-(p.1 * p.1)) 100000000 (by decide)
  unfold stepH cl
  split
  · rename_i hc
    obtain ⟨s1, s2⟩ := fl_spec (- -fl (-(p.1 * p.1)) 100000000) 10 (by decide)
    exact ⟨⟨by dsimp only; omega, by dsimp only; omega⟩, by dsimp only; omega, by dsimp only; omega⟩
  · exact ⟨⟨by dsimp only; omega, by dsimp only; omega⟩, by dsimp only; omega, by dsimp only; omega⟩
theorem itL_bd {x : Int} (h1 : 100000000 ≤ x) (h2 : x < 1000000000) (k : Nat) : (100000000 ≤ (itL x k).1 ∧ (itL x k).1 < 1000000000) ∧ 0 ≤ (itL x k).2 ∧ (itL x k).2 + 1 ≤ b2 k := by
  induction k with
  | zero => exact ⟨⟨h1, h2⟩, Int.le_refl 0, by simp [itL, b2]⟩
  | succ k ih => exact stepL_bd ih.1.1 ih.1.2 ih.2.1 ih.2.2
theorem itH_bd {x : Int} (h1 : 100000000 ≤ x) (h2 : x < 1000000000) (k : Nat) : (100000000 ≤ (itH x k).1 ∧ (itH x k).1 ≤ 1000000000) ∧ 0 ≤ (itH x k).2 ∧ (itH x k).2 + 1 ≤ b2 k := by
  induction k with
  | zero => exact ⟨⟨h1, by simp only [itH]; omega⟩, Int.le_refl 0, by simp [itH, b2]⟩
  | succ k ih => exact stepH_bd ih.1.1 ih.1.2 ih.2.1 ih.2.2
def logN (n : Nat) (x : Int) : Int × Int := ((itL x n).2, (itH x n).2 + 1)
theorem logN_bd {n : Nat} {x : Int} (hn : b2 n ≤ 1048576) (h1 : 100000000 ≤ x) (h2 : x < 1000000000) : (0 ≤ (logN n x).1 ∧ (logN n x).1 ≤ 1048576) ∧ 0 ≤ (logN n x).2 ∧ (logN n x).2 ≤ 1048577 := by
  have a := (itL_bd h1 h2 n).2
  have b := (itH_bd h1 h2 n).2
  unfold logN
  exact ⟨⟨a.1, by dsimp only; omega⟩, by dsimp only; omega, by dsimp only; omega⟩
def logOf (x : Int) : Int × Int := logN 20 x
theorem logOf_bd {x : Int} (h1 : 100000000 ≤ x) (h2 : x < 1000000000) : (0 ≤ (logOf x).1 ∧ (logOf x).1 ≤ 1048576) ∧ 0 ≤ (logOf x).2 ∧ (logOf x).2 ≤ 1048577 := logN_bd (n := 20) (by rw [b2_20]; exact Int.le_refl _) h1 h2
def figLog (f : Int × Int) : Int × Int := ((logOf (f.1 * 100000)).1 + f.2 * 1048576, (logOf (f.1 * 100000)).2 + f.2 * 1048576)
theorem figLog_bd {f : Int × Int} (h : isFig f.1 f.2 = true) : (-40000000 ≤ (figLog f).1 ∧ (figLog f).1 ≤ 40000000) ∧ -40000000 ≤ (figLog f).2 ∧ (figLog f).2 ≤ 40000000 := by
  simp only [isFig, Bool.and_eq_true, decide_eq_true_eq] at h
  obtain ⟨⟨a, b⟩, c, d⟩ := logOf_bd (x := f.1 * 100000) (by omega) (by omega)
  unfold figLog
  exact ⟨⟨by dsimp only; omega, by dsimp only; omega⟩, by dsimp only; omega, by dsimp only; omega⟩
def scale1 (a : Int × Int) (n : Int) : Int × Int := (min (a.1 * n) (a.2 * n), max (a.1 * n) (a.2 * n))
def sumI (a b : Int × Int) : Int × Int := (a.1 + b.1, a.2 + b.2)
def logK (f : Int × Int) (vs : List (Int × Int)) (ps : List Int) : Nat → Int × Int
  | 0 => figLog f
  | k + 1 => sumI (logK f vs ps k) (scale1 (figLog (vs.getD k (0, 0))) (ps.getD k 0))
theorem scale1_bd {a : Int × Int} {n : Int} (h1 : -40000000 ≤ a.1 ∧ a.1 ≤ 40000000) (h2 : -40000000 ≤ a.2 ∧ a.2 ≤ 40000000) (hn : -6 ≤ n ∧ n ≤ 6) : (-240000000 ≤ (scale1 a n).1 ∧ (scale1 a n).1 ≤ 240000000) ∧ -240000000 ≤ (scale1 a n).2 ∧ (scale1 a n).2 ≤ 240000000 := by
  obtain ⟨x1, x2⟩ := mul_bd a.1 n 40000000 6 h1.1 h1.2 hn.1 hn.2
  obtain ⟨y1, y2⟩ := mul_bd a.2 n 40000000 6 h2.1 h2.2 hn.1 hn.2
  unfold scale1
  exact ⟨⟨by dsimp only; omega, by dsimp only; omega⟩, by dsimp only; omega, by dsimp only; omega⟩
theorem logK_bd {f : Int × Int} {vs : List (Int × Int)} {ps : List Int} (hf : isFig f.1 f.2 = true) (hv : ∀ i, i < vs.length → isFig (vs.getD i (0, 0)).1 (vs.getD i (0, 0)).2 = true) (hp : ∀ i, i < vs.length → -6 ≤ ps.getD i 0 ∧ ps.getD i 0 ≤ 6) (k : Nat) (hk : k ≤ vs.length) :
    (-(40000000 + 240000000 * (k : Int)) ≤ (logK f vs ps k).1 ∧ (logK f vs ps k).1 ≤ 40000000 + 240000000 * (k : Int)) ∧ -(40000000 + 240000000 * (k : Int)) ≤ (logK f vs ps k).2 ∧ (logK f vs ps k).2 ≤ 40000000 + 240000000 * (k : Int) := by
  induction k with
  | zero => obtain ⟨a, b⟩ := figLog_bd hf; exact ⟨⟨by simp only [logK]; omega, by simp only [logK]; omega⟩, by simp only [logK]; omega, by simp only [logK]; omega⟩
  | succ k ih =>
    obtain ⟨a, b⟩ := ih (by omega)
    obtain ⟨c, d⟩ := figLog_bd (hv k (by omega))
    obtain ⟨e, g⟩ := scale1_bd c d (hp k (by omega))
    simp only [logK, sumI]
    exact ⟨⟨by omega, by omega⟩, by omega, by omega⟩
theorem areFigs_at {vs : List (Int × Int)} (h : areFigs vs = true) : ∀ i, i < vs.length → isFig (vs.getD i (0, 0)).1 (vs.getD i (0, 0)).2 = true := by
  intro i hi
  unfold areFigs at h
  rw [List.all_eq_true] at h
  have := h vs[i] (List.getElem_mem hi)
  simpa [List.getD_eq_getElem?_getD, hi] using this
def isValued (F : Fm) (vs : List (Int × Int)) : Bool := isFormula F && decide (vs.length = F.nm.size) && areFigs vs
def FormulaLog (F : Fm) (vs : List (Int × Int)) : (Int × Int) × Int := if isValued F vs then (logK (F.dg, F.tn) vs F.pw vs.length, 0) else ((0, 0), 1)
end Go.Z
namespace Go.K
open Go.RowKit
def FgR : Rec (Int × Int) := ⟨2, fun f j => match j with | 0 => .int .i64 f.1 | _ => .int .i64 f.2⟩
theorem figs_of_recs {fr : Bool} {w : World} {lo hi : Nat} {v : Value} {fs : List (Int × Int)} (h : recs fr FgR w lo hi v fs) : figs w lo hi v fs := by
  obtain ⟨o, cap, rfl, hh⟩ := h
  refine ⟨o, cap, rfl, fun hn => ?_⟩
  obtain ⟨b, off, rfl, h1, h2, h3, _⟩ := hh hn
  refine ⟨b, off, rfl, h1, h2, fun i hi => ?_⟩
  have e : fs.getD i (0, 0) = fs[i] := by simp [List.getD_eq_getElem?_getD, hi]
  rw [e]
  exact ⟨h3 i hi 0 (by decide), h3 i hi 1 (by decide)⟩
end Go.K
end
section
namespace Go.Z
end Go.Z
namespace Go.K
open Go.RowKit
end Go.K
namespace Go.Proofs.Ythmnlbgbacbocaa
open Go.RowKit
theorem info_fig : (Try.prog.info? 30).map (fun i => (i.zero, i.size, i.bytes)) = some (some (.agg #[.int .i64 0, .int .i64 0]), 2, 16) := by kernel_rfl
end Go.Proofs.Ythmnlbgbacbocaa
end
section
namespace Go.K
open Go.RowKit
theorem Far.below3 {lo hi B : Nat} {W w w' : World} (h : Far lo hi W w) (hb : Below B w w') (hB : W.heap.size ≤ B) : Far lo hi W w' :=
  ⟨hb.os.trans h.os, hb.tape.trans h.tape, hb.output.trans h.output, Nat.le_trans h.size hb.size, fun k hk ho => (hb.block k (Nat.lt_of_lt_of_le hk hB)).trans (h.block k hk ho)⟩
theorem below_new3 {B : Nat} {w w' : World} {o : Obj} {b : Option Nat} (hg : (w.alloc o).grownBy w' b) (hB : B ≤ w.heap.size) (hr : ∀ g, b = some g → B ≤ g) : Below B w w' :=
  (((Ext.refl w).alloc o).below.mono hB).grown hg (by simp; omega) hr
theorem figs_set0 {w : World} {lo hi b off n c : Nat} {xs : List (Int × Int)} (f : Int × Int) (h : recs true FgR w lo hi (.slice (some ⟨b, off, none⟩) n c) xs) (h0 : 0 < xs.length) :
    recs false FgR ((w.setCell ⟨b, off, none⟩ (.int .i64 f.1)).setCell ⟨b, off + 1, none⟩ (.int .i64 f.2)) lo hi (.slice (some ⟨b, off, none⟩) n c) (xs.set 0 f) := by
  obtain ⟨o', c', hv, hh⟩ := h
  simp only [Value.slice.injEq] at hv
  obtain ⟨rfl, rfl, rfl⟩ := hv
  obtain ⟨b', off', he, h1, h2, h3, _⟩ := hh (by intro h; rw [h] at h0; simp at h0)
  simp only [Option.some.injEq, Addr.mk.injEq, and_true] at he
  obtain ⟨rfl, rfl⟩ := he
  have a0 : w.cell? ⟨b, off, none⟩ = some (.int .i64 (xs[0]'h0).1) := h3 0 h0 0 (by decide)
  have a1 : w.cell? ⟨b, off + 1, none⟩ = some (.int .i64 (xs[0]'h0).2) := h3 0 h0 1 (by decide)
  refine ⟨some ⟨b, off, none⟩, c, by simp, fun _ => ⟨b, off, rfl, h1, h2, fun i hi j hj => ?_, fun h => by cases h⟩⟩
  have hi' : i < xs.length := by simpa using hi
  have e := h3 i hi' j hj
  have hn : FgR.n = 2 := rfl
  rw [hn] at e hj ⊢
  by_cases hk : i = 0
  · subst hk
    rw [List.getElem_set_self]
    have hj2 : j = 0 ∨ j = 1 := by omega
    rcases hj2 with rfl | rfl
    · show ((w.setCell ⟨b, off, none⟩ (.int .i64 f.1)).setCell ⟨b, off + 1, none⟩ (.int .i64 f.2)).cell? ⟨b, off, none⟩ = some (.int .i64 f.1)
      rw [World.cell?_setCell_other _ _ _ _ (by intro h; simp at h)]
      exact World.cell?_setCell_same _ _ _ a0
    · show ((w.setCell ⟨b, off, none⟩ (.int .i64 f.1)).setCell ⟨b, off + 1, none⟩ (.int .i64 f.2)).cell? ⟨b, off + 1, none⟩ = some (.int .i64 f.2)
      refine World.cell?_setCell_same (u := .int .i64 (xs[0]'h0).2) _ _ _ ?_
      rw [World.cell?_setCell_other _ _ _ _ (by intro h; simp at h)]
      exact a1
  · rw [List.getElem_set_ne (by omega)]
    rw [World.cell?_setCell_other _ _ _ _ (by intro h; simp at h <;> omega), World.cell?_setCell_other _ _ _ _ (by intro h; simp at h <;> omega)]
    exact e
end Go.K
namespace Go.Proofs.Ythmnlbgbacbocaa
open Go.RowKit
set_option maxRecDepth 100000 in
set_option maxHeartbeats 12800000 in
theorem l18DrawValues_any (g : Nat) (F : Z.Fm) {oF : Option Addr} {mF kF : Nat} (w : World) (hF : F.nm.size ≤ 7) (h : K.Src 164 w g) :
    Calls Try.prog 123 #[.pointer (some ⟨g, 0, none⟩), .agg #[.int .i64 F.dg, .int .i64 F.tn, .string F.nm, .slice oF mF kF]] w fun e w' => (∃ (v : Value) (vs : List (Int × Int)), e = .returned v ∧ vs.length ≤ 8 ∧ K.recs false K.FgR w' w.heap.size w'.heap.size v vs) ∧ K.Src 164 w' g ∧ K.Far g (g + 1) w w' := by
  have lg := h.lt
  have F0 : K.Far g (g + 1) w w := K.Far.refl _ _ _
  obtain ⟨it0, hi0, hz0, hz1, hz2⟩ := info_parts info_fig
  go_enter Try.func123, Try.ntmps123
  have l7 : (F.nm.size : Int) ≤ 7 := by omega
  go_wp2_with fail
  go_loopw [5, 6] (fun u x wr => ∃ (ps : List (Int × Int)), x = .int .i64 ps.length ∧ ps.length ≤ F.nm.size ∧ Hid (wr.ownsRow (w.heap.size + 1) 30 2 u ps.length (K.FgR.cells ps)) ∧ Hid (K.Src 164 wr g) ∧ (wr.cell? ⟨w.heap.size, 0, none⟩ = some (.int .i64 F.dg) ∧ wr.frozen? ⟨w.heap.size, 0, none⟩ = false ∧ wr.cell? ⟨w.heap.size, 1, none⟩ = some (.int .i64 F.tn) ∧ wr.frozen? ⟨w.heap.size, 1, none⟩ = false ∧ wr.cell? ⟨w.heap.size, 2, none⟩ = some (.string F.nm) ∧ wr.frozen? ⟨w.heap.size, 2, none⟩ = false ∧ wr.cell? ⟨w.heap.size, 3, none⟩ = some (.slice oF mF kF) ∧ wr.frozen? ⟨w.heap.size, 3, none⟩ = false) ∧ w.heap.size + 1 < wr.heap.size ∧ Hid (K.Far g (g + 1) w wr)) (fun _ x _ => F.nm.size - (intOf x).toNat)
  case atStart => exact ⟨[], rfl, Nat.zero_le _, Z.hide (K.row_lit0 (by simp) (Nat.le_refl _)), Z.hide (K.bsr h), ⟨(by go_simp), (by go_simp), (by go_simp), (by go_simp), (by go_simp), (by go_simp), (by go_simp), (by go_simp)⟩, by simp, Z.hide (K.bfa F0)⟩
  case round =>
    obtain ⟨ps, rfl, hj, HO, HS, ⟨e0_0, t0_0, e0_1, t0_1, e0_2, t0_2, e0_3, t0_3⟩, lz, HX⟩ := hrel
    have sr := HS.out
    have FR := HX.out
    have yr_0 : w.heap.size < wr.heap.size := by omega
    have j0 : (0 : Int) ≤ (ps.length : Int) := Int.natCast_nonneg _
    have hsh : ∃ o c, u5 = .slice o ps.length c := by rcases HO.out.2 with ⟨h1, h2⟩ | ⟨_, _, _, h1, _⟩; exact ⟨none, 0, by rw [h1, h2]⟩; exact ⟨_, _, h1⟩
    obtain ⟨oU, cU, rfl⟩ := hsh
    by_cases hpos : ps.length < F.nm.size
    · have i1 : (ps.length : Int) < (F.nm.size : Int) := by omega
      go_wp2_with fail
      refine K.call (by with_reducible rfl) (by with_reducible rfl) (l02Valid_any g _ (K.bsr sr)) ?_
      rintro e w2 ⟨⟨f, rfl, fa, fb, fc, fd⟩, s2, f2⟩
      have z2 := f2.size
      (try simp at z2)
      have F2 : K.Far g (g + 1) w w2 := K.Far.trans (K.bfa FR) f2
      have c2_0_0 : w2.cell? ⟨w.heap.size, 0, none⟩ = some (.int .i64 F.dg) := f2.cell_of (by go_simp) (by (try dsimp only); omega)
      have d2_0_0 : w2.frozen? ⟨w.heap.size, 0, none⟩ = false := f2.thaw_of (by go_simp) (by go_simp) (by (try dsimp only); omega)
      have c2_0_1 : w2.cell? ⟨w.heap.size, 1, none⟩ = some (.int .i64 F.tn) := f2.cell_of (by go_simp) (by (try dsimp only); omega)
      have d2_0_1 : w2.frozen? ⟨w.heap.size, 1, none⟩ = false := f2.thaw_of (by go_simp) (by go_simp) (by (try dsimp only); omega)
      have c2_0_2 : w2.cell? ⟨w.heap.size, 2, none⟩ = some (.string F.nm) := f2.cell_of (by go_simp) (by (try dsimp only); omega)
      have d2_0_2 : w2.frozen? ⟨w.heap.size, 2, none⟩ = false := f2.thaw_of (by go_simp) (by go_simp) (by (try dsimp only); omega)
      have c2_0_3 : w2.cell? ⟨w.heap.size, 3, none⟩ = some (.slice oF mF kF) := f2.cell_of (by go_simp) (by (try dsimp only); omega)
      have d2_0_3 : w2.frozen? ⟨w.heap.size, 3, none⟩ = false := f2.thaw_of (by go_simp) (by go_simp) (by (try dsimp only); omega)
      have y2_0 : w.heap.size < w2.heap.size := World.block_lt_of_cell? w2 _ c2_0_0
      have HO2 := Z.hide (K.row_far HO.out f2 (by omega))
      go_wp2_with (at_builtin; refine wpList_append_lies _ rfl _ _ _ rfl (w.heap.size + 1) 30 it0 _ 2 16 Try.underlying69 hi0 hz0 hz1 hz2 rfl (by omega) (.slice oU ps.length cU) ps.length _ rfl (HO2.out.alloc _) ⟨w2.heap.size, 0, none⟩ 1 1 [.int .i64 f.1, .int .i64 f.2] rfl rfl (World.news_of_block (cs := #[.int .i64 f.1, .int .i64 f.2]) (t := 30) (fr := (0, 0)) (K.block_new (by simp))) (by simp [Value.oneCell']) (by omega) (by unfold maxLen; omega) (by first | omega | (simp; omega)) (by first | omega | (simp; omega)) (w2.heap.size + 1) (by simp) ?_; intro g2 gcap2 w7 hown7 hgrow7 hat7 hlt7; have HB7 : Hid (Below (w.heap.size + 1) w2 w7) := Z.hide (K.below_new3 hgrow7 (by omega) (fun g hg => (HO2.out.lt g hg).1)); have HP7 := Z.hide hown7)
      clear hown7 hgrow7 hat7
      go_roundw
      case rel => exact ⟨ps ++ [f], by (first | (simp; done) | go_num), by (first | (simp; done) | (simp; omega)), Z.hide (by rw [K.Rec.cells_snoc, List.length_append]; exact HP7.out), Z.hide (s2.below HB7.out (by omega)), ⟨K.below_cell HB7.out c2_0_0 (by (try dsimp only); omega), K.below_thaw HB7.out d2_0_0 (by (try dsimp only); omega), K.below_cell HB7.out c2_0_1 (by (try dsimp only); omega), K.below_thaw HB7.out d2_0_1 (by (try dsimp only); omega), K.below_cell HB7.out c2_0_2 (by (try dsimp only); omega), K.below_thaw HB7.out d2_0_2 (by (try dsimp only); omega), K.below_cell HB7.out c2_0_3 (by (try dsimp only); omega), K.below_thaw HB7.out d2_0_3 (by (try dsimp only); omega)⟩, Nat.lt_of_lt_of_le (by omega) HB7.out.size, Z.hide (K.Far.below3 F2 HB7.out (by omega))⟩
      case measure => first | (simp [intOf]; done) | (simp [intOf]; omega)
    · have hj2 : F.nm.size ≤ ps.length := by omega
      have i2 : ¬ ((ps.length : Int) < (F.nm.size : Int)) := by omega
      go_wp2_with fail
      refine K.call (by with_reducible rfl) (by with_reducible rfl) (l01Next_any g (24) _ (K.bsr sr)) ?_
      rintro e w4 ⟨⟨m, rfl, m0, m1, m2⟩, s4, f4⟩
      have z4 := f4.size
      (try simp at z4)
      have F4 : K.Far g (g + 1) w w4 := K.Far.trans (K.bfa FR) f4
      have c4_0_0 : w4.cell? ⟨w.heap.size, 0, none⟩ = some (.int .i64 F.dg) := f4.cell_of (by go_simp) (by (try dsimp only); omega)
      have d4_0_0 : w4.frozen? ⟨w.heap.size, 0, none⟩ = false := f4.thaw_of (by go_simp) (by go_simp) (by (try dsimp only); omega)
      have c4_0_1 : w4.cell? ⟨w.heap.size, 1, none⟩ = some (.int .i64 F.tn) := f4.cell_of (by go_simp) (by (try dsimp only); omega)
      have d4_0_1 : w4.frozen? ⟨w.heap.size, 1, none⟩ = false := f4.thaw_of (by go_simp) (by go_simp) (by (try dsimp only); omega)
      have c4_0_2 : w4.cell? ⟨w.heap.size, 2, none⟩ = some (.string F.nm) := f4.cell_of (by go_simp) (by (try dsimp only); omega)
      have d4_0_2 : w4.frozen? ⟨w.heap.size, 2, none⟩ = false := f4.thaw_of (by go_simp) (by go_simp) (by (try dsimp only); omega)
      have c4_0_3 : w4.cell? ⟨w.heap.size, 3, none⟩ = some (.slice oF mF kF) := f4.cell_of (by go_simp) (by (try dsimp only); omega)
      have d4_0_3 : w4.frozen? ⟨w.heap.size, 3, none⟩ = false := f4.thaw_of (by go_simp) (by go_simp) (by (try dsimp only); omega)
      have y4_0 : w.heap.size < w4.heap.size := World.block_lt_of_cell? w4 _ c4_0_0
      have HO4 := Z.hide (K.row_far HO.out f4 (by omega))
      by_cases m0_ : m = 0
      · subst m0_
        go_wp2_with fail
        refine K.call (by with_reducible rfl) (by with_reducible rfl) (l02Draw_any g _ (K.bsr s4)) ?_
        rintro e w5 ⟨⟨f, rfl, fa, fb, fc, fd⟩, s5, f5⟩
        have z5 := f5.size
        (try simp at z5)
        have F5 : K.Far g (g + 1) w w5 := K.Far.trans (K.bfa F4) f5
        obtain ⟨c5_0_0, c5_0_1, c5_0_2, c5_0_3, d5_0_0, d5_0_1, d5_0_2, d5_0_3, y5_0⟩ := f5.p4 c4_0_0 c4_0_1 c4_0_2 c4_0_3 d4_0_0 d4_0_1 d4_0_2 d4_0_3
        have HO5 := Z.hide (K.row_far HO4.out f5 (by omega))
        go_wp2_with (at_builtin; refine wpList_append_lies _ rfl _ _ _ rfl (w.heap.size + 1) 30 it0 _ 2 16 Try.underlying69 hi0 hz0 hz1 hz2 rfl (by omega) (.slice oU ps.length cU) ps.length _ rfl (HO5.out.alloc _) ⟨w5.heap.size, 0, none⟩ 1 1 [.int .i64 f.1, .int .i64 f.2] rfl rfl (World.news_of_block (cs := #[.int .i64 f.1, .int .i64 f.2]) (t := 30) (fr := (0, 0)) (K.block_new (by simp))) (by simp [Value.oneCell']) (by omega) (by unfold maxLen; omega) (by first | omega | (simp; omega)) (by first | omega | (simp; omega)) (w5.heap.size + 1) (by simp) ?_; intro g2 gcap2 w7 hown7 hgrow7 hat7 hlt7; have HB7 : Hid (Below (w.heap.size + 1) w5 w7) := Z.hide (K.below_new3 hgrow7 (by omega) (fun g hg => (HO5.out.lt g hg).1)); have HP7 := Z.hide hown7)
        clear hown7 hgrow7 hat7
        go_wp2_with fail
        refine bodyPost_ret (v := .slice (some ⟨g2, 0, none⟩) (ps.length + 1) gcap2) (by unfold results; rw [Try.results123]; go_simp) rfl ⟨⟨_, ps ++ [f], rfl, by simp; omega, K.recs.mono (K.recs.plain (K.recs_of_row (show w7.ownsRow (w.heap.size + 1) 30 K.FgR.n _ (ps.length + 1) (K.FgR.cells (ps ++ [f])) from by rw [K.Rec.cells_snoc]; exact HP7.out) (by decide))) (by omega) (Nat.le_refl _)⟩, s5.below HB7.out (by omega), K.Far.below3 F5 HB7.out (by omega)⟩
      have m0' : (m == 0) = false := by simpa using m0_
      by_cases m1_ : m = 1 ∧ 0 < ps.length
      · obtain ⟨rfl, hp0⟩ := m1_
        have hp1 : (0 : Int) < (ps.length : Int) := by omega
        go_wp2_with fail
        refine K.call (by with_reducible rfl) (by with_reducible rfl) (l02Draw_any g _ (K.bsr s4)) ?_
        rintro e w5 ⟨⟨f, rfl, fa, fb, fc, fd⟩, s5, f5⟩
        have z5 := f5.size
        (try simp at z5)
        have F5 : K.Far g (g + 1) w w5 := K.Far.trans (K.bfa F4) f5
        obtain ⟨c5_0_0, c5_0_1, c5_0_2, c5_0_3, d5_0_0, d5_0_1, d5_0_2, d5_0_3, y5_0⟩ := f5.p4 c4_0_0 c4_0_1 c4_0_2 c4_0_3 d4_0_0 d4_0_1 d4_0_2 d4_0_3
        have RT := K.recs_of_row (K.row_far HO4.out f5 (by omega)) (by decide)
        obtain ⟨b, off, rfl, b1, b2, bc, bf⟩ := K.recs_at RT hp0
        have c0 : w5.cell? ⟨b, off, none⟩ = some (.int .i64 (ps[0]'hp0).1) := bc 0 hp0 0 (by decide)
        have c1 : w5.cell? ⟨b, off + 1, none⟩ = some (.int .i64 (ps[0]'hp0).2) := bc 0 hp0 1 (by decide)
        have z0 : w5.frozen? ⟨b, off, none⟩ = false := bf rfl 0 0 hp0 (by decide)
        have z1_ : w5.frozen? ⟨b, off + 1, none⟩ = false := bf rfl 0 1 hp0 (by decide)
        clear bc bf
        generalize (ps[0]'hp0) = q0 at *
        have nb : ¬ (w.heap.size = b) := by omega
        go_wp2_with fail
        refine bodyPost_ret (v := .slice (some ⟨b, off, none⟩) ps.length cU) (by unfold results; rw [Try.results123]; go_simp) rfl ⟨⟨_, ps.set 0 f, rfl, by simp; omega, K.recs.mono (K.figs_set0 f RT hp0) (by omega) (by simp)⟩, (K.bsr s5), (K.bfa F5)⟩
      by_cases m2_ : m = 1
      · subst m2_
        have hp1 : ¬ ((0 : Int) < (ps.length : Int)) := by omega
        go_wp2_with fail
        refine bodyPost_ret (v := .slice oU ps.length cU) (by unfold results; rw [Try.results123]; go_simp) rfl ⟨⟨_, ps, rfl, by omega, K.recs.mono (K.recs.plain (K.recs_of_row HO4.out (by decide))) (by omega) (Nat.le_refl _)⟩, s4, F4⟩
      have m2' : (m == 1) = false := by simpa using m2_
      go_wp2_with fail
      refine bodyPost_ret (v := .slice oU ps.length cU) (by unfold results; rw [Try.results123]; go_simp) rfl ⟨⟨_, ps, rfl, by omega, K.recs.mono (K.recs.plain (K.recs_of_row HO4.out (by decide))) (by omega) (Nat.le_refl _)⟩, s4, F4⟩
set_option maxRecDepth 100000 in
set_option maxHeartbeats 12800000 in
theorem DrawFormulaLog_any {hi n : Nat} {v : Value} (w : World) (hn : n ≤ 4096) (hh : hi ≤ w.heap.size) (h : K.byts w hi v n) :
    Calls Try.prog 48 #[v] w fun e w' => (∃ (F : Z.Fm) (p v : Value) (vs : List (Int × Int)), e = .returned (.tuple #[.agg #[.int .i64 F.dg, .int .i64 F.tn, .string F.nm, p], v]) ∧ (F.nm.size ≤ 7 ∧ F.pw.length ≤ 6) ∧ K.ints w' w.heap.size w'.heap.size p F.pw ∧ vs.length ≤ 8 ∧ K.recs false K.FgR w' w.heap.size w'.heap.size v vs) ∧ K.Ext w w' := by
  have F0 : K.Ext w w := K.Ext.refl _
  go_enter Try.func48, Try.ntmps48
  go_wp2_with fail
  refine K.call (by with_reducible rfl) (by with_reducible rfl) (l01From_at (w.heap.size + 1) _ (by simp) hn (by omega) (h.ext (K.bex F0))) ?_
  rintro e w1 ⟨⟨rfl, s1⟩, f1⟩
  have z1 := f1.size
  (try simp at z1)
  have F1 : K.Ext w w1 := K.Ext.trans (K.bex F0) f1
  have c1_0_0 : w1.cell? ⟨w.heap.size, 0, none⟩ = some (.int .i64 0) := f1.cell_of (by go_simp)
  have d1_0_0 : w1.frozen? ⟨w.heap.size, 0, none⟩ = false := f1.thaw_of (by go_simp) (by go_simp)
  have c1_0_1 : w1.cell? ⟨w.heap.size, 1, none⟩ = some (.int .i64 0) := f1.cell_of (by go_simp)
  have d1_0_1 : w1.frozen? ⟨w.heap.size, 1, none⟩ = false := f1.thaw_of (by go_simp) (by go_simp)
  have c1_0_2 : w1.cell? ⟨w.heap.size, 2, none⟩ = some (.string ⟨#[]⟩) := f1.cell_of (by go_simp)
  have d1_0_2 : w1.frozen? ⟨w.heap.size, 2, none⟩ = false := f1.thaw_of (by go_simp) (by go_simp)
  have c1_0_3 : w1.cell? ⟨w.heap.size, 3, none⟩ = some (.slice none 0 0) := f1.cell_of (by go_simp)
  have d1_0_3 : w1.frozen? ⟨w.heap.size, 3, none⟩ = false := f1.thaw_of (by go_simp) (by go_simp)
  have y1_0 : w.heap.size < w1.heap.size := World.block_lt_of_cell? w1 _ c1_0_0
  have lg := s1.lt
  go_wp2_with fail
  refine K.call (by with_reducible rfl) (by with_reducible rfl) (l18Draw_any (w.heap.size + 1) _ (K.bsr s1)) ?_
  rintro e w2 ⟨⟨F, pF, rfl, hnF, hmF, hiF⟩, s2, f2⟩
  have z2 := f2.size
  (try simp at z2)
  have F2 : K.Ext w w2 := K.Far.ext (K.bex F1) f2 (by omega)
  obtain ⟨c2_0_0, c2_0_1, c2_0_2, c2_0_3, d2_0_0, d2_0_1, d2_0_2, d2_0_3, y2_0⟩ := f2.p4 c1_0_0 c1_0_1 c1_0_2 c1_0_3 d1_0_0 d1_0_1 d1_0_2 d1_0_3
  obtain ⟨oF, kF, rfl, _⟩ := id hiF
  have IF_2 : K.ints w2 (w1.heap.size) w2.heap.size (.slice oF F.pw.length kF) F.pw := hiF.mono (by simp) (Nat.le_refl _)
  clear hiF
  have uh_0_1 : w.heap.size < w2.heap.size + 1 := (by omega)
  go_wp2_with fail
  have ne0_1 : ¬ (w.heap.size = w2.heap.size) := (by omega)
  have nf0_1 : ¬ (w2.heap.size = w.heap.size) := (by omega)
  go_region_held3 (fun w' => w'.cell? ⟨w2.heap.size, 0, none⟩ = some (.int .i64 F.dg) ∧ w'.cell? ⟨w2.heap.size, 1, none⟩ = some (.int .i64 F.tn) ∧ w'.cell? ⟨w2.heap.size, 2, none⟩ = some (.string F.nm) ∧ w'.cell? ⟨w2.heap.size, 3, none⟩ = some (.slice oF F.pw.length kF)) ((repeat' apply And.intro) <;> go_simp) ((go_at_call 123; refine K.call (by with_reducible rfl) (by with_reducible rfl) (l18DrawValues_any (w.heap.size + 1) F _ hnF (K.bsr s2)) ?_; rintro e w3 ⟨⟨v, vs, rfl, hvs, hV⟩, s3, f3⟩; have z3 := f3.size; (try simp at z3); have F3 : K.Ext w w3 := K.Far.ext (K.bex F2) f3 (by omega); have u3_0_1 : w.heap.size < w2.heap.size + 1 := (by omega); obtain ⟨c3_0_0, c3_0_1, c3_0_2, c3_0_3, d3_0_0, d3_0_1, d3_0_2, d3_0_3, y3_0⟩ := f3.p4 c2_0_0 c2_0_1 c2_0_2 c2_0_3 d2_0_0 d2_0_1 d2_0_2 d2_0_3; have c3_1_0 : w3.cell? ⟨w2.heap.size, 0, none⟩ = some (.int .i64 F.dg) := f3.cell_of (by go_simp) (by (try dsimp only); omega); have d3_1_0 : w3.frozen? ⟨w2.heap.size, 0, none⟩ = false := f3.thaw_of (by go_simp) (by go_simp) (by (try dsimp only); omega); have c3_1_1 : w3.cell? ⟨w2.heap.size, 1, none⟩ = some (.int .i64 F.tn) := f3.cell_of (by go_simp) (by (try dsimp only); omega); have d3_1_1 : w3.frozen? ⟨w2.heap.size, 1, none⟩ = false := f3.thaw_of (by go_simp) (by go_simp) (by (try dsimp only); omega); have c3_1_2 : w3.cell? ⟨w2.heap.size, 2, none⟩ = some (.string F.nm) := f3.cell_of (by go_simp) (by (try dsimp only); omega); have d3_1_2 : w3.frozen? ⟨w2.heap.size, 2, none⟩ = false := f3.thaw_of (by go_simp) (by go_simp) (by (try dsimp only); omega); have c3_1_3 : w3.cell? ⟨w2.heap.size, 3, none⟩ = some (.slice oF F.pw.length kF) := f3.cell_of (by go_simp) (by (try dsimp only); omega); have d3_1_3 : w3.frozen? ⟨w2.heap.size, 3, none⟩ = false := f3.thaw_of (by go_simp) (by go_simp) (by (try dsimp only); omega); have y3_1 : w2.heap.size < w3.heap.size := World.block_lt_of_cell? w3 _ c3_1_0; have IF_3 := K.ints.far (K.bin IF_2) f3 (by first | exact .inl (by omega) | exact .inr (by omega)); obtain ⟨oV, kV, rfl, _⟩ := id hV; have IV_3 : K.recs false K.FgR w3 (w2.heap.size + 1) w3.heap.size (.slice oV vs.length kV) vs := K.recs.mono hV (by simp) (Nat.le_refl _); clear hV))
  go_wp2_with fail
  all_goals refine bodyPost_ret (v := .tuple #[.agg #[.int .i64 F.dg, .int .i64 F.tn, .string F.nm, .slice oF F.pw.length kF], .slice oV vs.length kV]) (by unfold results; rw [Try.results48]; go_simp) rfl ⟨⟨F, _, _, vs, rfl, ⟨hnF, hmF⟩, K.ints.mono (K.bin IF_3) (by omega) (by first | omega | (simp; done) | (simp; omega)), hvs, K.recs.mono (K.bre IV_3) (by omega) (by first | omega | (simp; done) | (simp; omega))⟩, (K.bex F3)⟩
end Go.Proofs.Ythmnlbgbacbocaa
end
section
namespace Go.K
open Go Go.ChangeShapes Go.WideShapes Go.ChangeAt Go.RowKit Go.Deep
variable {H : Type} {enc : TypeId × Value → H} {P : Program} {w : World} {base : Nat} {spare : Nat → Bool} {held : Bool}
/-- a byte: one cell -/
def ByR : Rec Int := ⟨1, fun x _ => .int .u8 x⟩
theorem byte_cells {e : TypeId} {fuel : Nat} {cs : List Value} {x : DataW H × List MemPlace} (hi : P.underlying e = some (.int .u8))
    (h : DataW.trod enc P w base spare held fuel e cs = some x) : ∃ s : Int, (0 ≤ s ∧ s ≤ 255) ∧ cs = (List.range ByR.n).map (ByR.cell s) := by
  obtain ⟨i, ei, _, wi⟩ := DataW.trod_int hi h
  exact ⟨i, byte_wf wi, ei⟩
theorem byts_of_recs {v : Value} {xs : List Int} (h : recs false ByR w 0 w.heap.size v xs) (hq : ∀ s ∈ xs, 0 ≤ s ∧ s ≤ 255) : byts w w.heap.size v xs.length := by
  have g := h
  obtain ⟨o, cap, rfl, _⟩ := g
  refine ⟨o, cap, rfl, fun hn => ?_⟩
  obtain ⟨b, off, ho, _, hb, hc, _⟩ := recs_at h hn
  refine ⟨b, off, ho, hb, fun i hi => ?_⟩
  obtain ⟨q0, q1⟩ := hq _ (List.getElem_mem hi)
  refine ⟨xs[i], q0, q1, ?_⟩
  have e := hc i hi 0 (by decide)
  have hn1 : ByR.n = 1 := rfl
  rw [hn1, Nat.mul_one, Nat.add_zero] at e
  exact e
end Go.K
namespace Go.Proofs.Ythmnlbgbacbocaa
open Go.RowKit
theorem big_no {n hi : Nat} {v : Value} (w : World) (hn : n ≤ 4096) (h : K.byts w hi v n) :
    Calls Try.prog 9 #[v] w fun e w' => e = .returned (.bool false) ∧ w = w' := by
  obtain ⟨o, cap, rfl, _⟩ := h
  have i1 : ¬ ((4096 : Int) < (n : Int)) := by omega
  go_enter Try.func9, Try.ntmps9
  go_wp2_with fail
  go_ret
  exact ⟨rfl, rfl⟩
theorem big_yes {n hi : Nat} {v : Value} (w : World) (hn : 4096 < n) (h : K.byts w hi v n) :
    Calls Try.prog 9 #[v] w fun e w' => e = .returned (.bool true) ∧ w = w' := by
  obtain ⟨o, cap, rfl, _⟩ := h
  have i1 : (4096 : Int) < (n : Int) := by omega
  go_enter Try.func9, Try.ntmps9
  go_wp2_with fail
  go_ret
  exact ⟨rfl, rfl⟩
end Go.Proofs.Ythmnlbgbacbocaa
end
section
namespace Go.Proofs.Ythmnlbgbacbocaa
open Go.RowKit
set_option maxHeartbeats 400000 in
theorem likeInts_same (xs : List Int) (lo hi lo' hi' : Nat) (v v' : Value) (w : World) (hm : xs.length ≤ 1048576) (h : K.ints w lo hi v xs) (h' : K.ints w lo' hi' v' xs) :
    Calls Try.prog 19 #[v, v'] w fun e w' => e = .returned (.bool true) ∧ K.Ext w w' := by
  obtain ⟨o, cap, rfl, h⟩ := h
  obtain ⟨o', cap', rfl, h'⟩ := h'
  go_enter Try.func19, Try.ntmps19
  go_wp2
  go_loopw [5] (fun i wr => ∃ k : Nat, k ≤ xs.length ∧ i = .int .i64 k ∧ Hid (K.Ext w wr)) (fun i _ => xs.length - (intOf i).toNat)
  case atStart => exact ⟨0, Nat.zero_le _, rfl, Z.hide (K.Ext.refl _)⟩
  case round =>
    obtain ⟨k, hk, rfl, HX⟩ := hrel
    by_cases hlt : k < xs.length
    · obtain ⟨b, off, rfl, _, _, hc⟩ := h (by intro h0; simp [h0] at hlt)
      obtain ⟨b', off', rfl, _, _, hc'⟩ := h' (by intro h0; simp [h0] at hlt)
      have hck := HX.out.cell_of (hc k hlt)
      have hck' := HX.out.cell_of (hc' k hlt)
      clear hc hc' h h'
      generalize xs.getD k 0 = x at *
      have i0 : (0 : Int) ≤ (k : Int) := Int.natCast_nonneg k
      have i1 : (k : Int) < (xs.length : Int) := by omega
      go_wp2_with fail
      refine K.wp_region_ext (by kernel_rfl) (by kernel_rfl) ?_
      apply K.qcons
      · rfl
      · intro w' hw'; have hc := hw'.all.1.1; have hf := hw'.all.1.2; have hc' := hw'.all.2.1; have hf' := hw'.all.2.2; unfold Oper.quietAt; go_simp; first | done | rfl | exact ⟨rfl, rfl⟩
      simp only [Act.put, List.setIfInBounds_toArray, List.set]
      apply K.qcons
      · rfl
      · intro w' hw'; have hc := hw'.all.1.1; have hf := hw'.all.1.2; have hc' := hw'.all.2.1; have hf' := hw'.all.2.2; unfold Oper.quietAt; go_simp; first | done | rfl | exact ⟨rfl, rfl⟩
      simp only [Act.put, List.setIfInBounds_toArray, List.set]
      apply K.qcons
      · rfl
      · intro w' hw'; have hc := hw'.all.1.1; have hf := hw'.all.1.2; have hc' := hw'.all.2.1; have hf' := hw'.all.2.2; unfold Oper.quietAt; go_simp; first | done | rfl | exact ⟨rfl, rfl⟩
      simp only [Act.put, List.setIfInBounds_toArray, List.set]
      apply K.qcons
      · rfl
      · intro w' hw'; have hc := hw'.all.1.1; have hf := hw'.all.1.2; have hc' := hw'.all.2.1; have hf' := hw'.all.2.2; unfold Oper.quietAt; go_simp; first | done | rfl | exact ⟨rfl, rfl⟩
      simp only [Act.put, List.setIfInBounds_toArray, List.set]
      apply K.qcons
      · rfl
      · intro w' hw'; have hc := hw'.all.1.1; have hf := hw'.all.1.2; have hc' := hw'.all.2.1; have hf' := hw'.all.2.2; unfold Oper.quietAt; go_simp; first | done | rfl | exact ⟨rfl, rfl⟩
      simp only [Act.put, List.setIfInBounds_toArray, List.set]
      apply K.qcons
      · rfl
      · intro w' hw'; have hc := hw'.all.1.1; have hf := hw'.all.1.2; have hc' := hw'.all.2.1; have hf' := hw'.all.2.2; unfold Oper.quietAt; go_simp; first | done | rfl | exact ⟨rfl, rfl⟩
      simp only [Act.put, List.setIfInBounds_toArray, List.set]
      apply K.qcons
      · rfl
      · intro w' hw'; have hc := hw'.all.1.1; have hf := hw'.all.1.2; have hc' := hw'.all.2.1; have hf' := hw'.all.2.2; unfold Oper.quietAt; go_simp; first | done | rfl | exact ⟨rfl, rfl⟩
      simp only [Act.put, List.setIfInBounds_toArray, List.set]
      apply K.qcons
      · rfl
      · intro w' hw'; have hc := hw'.all.1.1; have hf := hw'.all.1.2; have hc' := hw'.all.2.1; have hf' := hw'.all.2.2; unfold Oper.quietAt; go_simp; first | done | rfl | exact ⟨rfl, rfl⟩
      simp only [Act.put, List.setIfInBounds_toArray, List.set]
      apply K.qcons
      · rfl
      · intro w' hw'; have hc := hw'.all.1.1; have hf := hw'.all.1.2; have hc' := hw'.all.2.1; have hf' := hw'.all.2.2; unfold Oper.quietAt; go_simp; first | done | exact K.vint (IntWalk.i64_in _ (by omega)) | rfl | exact ⟨rfl, rfl⟩
      simp only [Act.put, List.setIfInBounds_toArray, List.set]
      refine wpQuiet_nil ?_
      intro w1 hx1
      obtain ⟨⟨hcw1, hfw1⟩, hc'w1, hf'w1⟩ := hx1.all
      go_wp2
      go_roundw
      case rel => exact ⟨k + 1, by omega, by go_num, Z.hide (HX.out.trans (by first | exact hx1 | exact hx1.drew))⟩
      case measure => simp [intOf]; omega
    · obtain rfl : k = xs.length := by omega
      go_wp2
      go_ret
      exact ⟨rfl, HX.out⟩
set_option maxHeartbeats 1600000 in
theorem likeFormulas_same (F : Z.Fm) (lo hi lo' hi' : Nat) (p p' : Value) (w : World) (hm : F.pw.length ≤ 1048576) (h : K.ints w lo hi p F.pw) (h' : K.ints w lo' hi' p' F.pw) :
    Calls Try.prog 32 #[.agg #[.int .i64 F.dg, .int .i64 F.tn, .string F.nm, p], .agg #[.int .i64 F.dg, .int .i64 F.tn, .string F.nm, p']] w fun e w' => e = .returned (.bool true) ∧ K.Ext w w' := by
  have h1 := h
  obtain ⟨o, cap, rfl, _⟩ := h1
  have h1' := h'
  obtain ⟨o', cap', rfl, _⟩ := h1'
  go_enter Try.func32, Try.ntmps32
  go_wp2_with (go_at_call 19; refine K.call (by with_reducible rfl) (by with_reducible rfl) (likeInts_same F.pw _ _ _ _ _ _ _ hm (h.ext (by repeat' (first | with_reducible exact K.Ext.refl _ | with_reducible assumption | with_reducible refine K.Ext.drew ?_ | with_reducible refine K.Ext.alloc ?_ _ | with_reducible refine K.Ext.setCell ?_ ?_ _ | with_reducible refine K.Ext.trans ?_ (by with_reducible assumption) | (dsimp only; omega) | omega | exact K.Ext.refl _ | assumption | apply K.Ext.drew | refine K.Ext.alloc ?_ _ | refine K.Ext.setCell ?_ ?_ _ | (simp; done) | (simp; omega) | refine K.Ext.trans ?_ (by assumption)))) (h'.ext (by repeat' (first | with_reducible exact K.Ext.refl _ | with_reducible assumption | with_reducible refine K.Ext.drew ?_ | with_reducible refine K.Ext.alloc ?_ _ | with_reducible refine K.Ext.setCell ?_ ?_ _ | with_reducible refine K.Ext.trans ?_ (by with_reducible assumption) | (dsimp only; omega) | omega | exact K.Ext.refl _ | assumption | apply K.Ext.drew | refine K.Ext.alloc ?_ _ | refine K.Ext.setCell ?_ ?_ _ | (simp; done) | (simp; omega) | refine K.Ext.trans ?_ (by assumption))))) ?_; rintro e w1 ⟨rfl, hw1⟩; obtain ⟨hcw1, hfw1⟩ := hw1.facts)
  go_ret
  exact ⟨rfl, (by repeat' (first | with_reducible exact K.Ext.refl _ | with_reducible assumption | with_reducible refine K.Ext.drew ?_ | with_reducible refine K.Ext.alloc ?_ _ | with_reducible refine K.Ext.setCell ?_ ?_ _ | with_reducible refine K.Ext.trans ?_ (by with_reducible assumption) | (dsimp only; omega) | omega | exact K.Ext.refl _ | assumption | apply K.Ext.drew | refine K.Ext.alloc ?_ _ | refine K.Ext.setCell ?_ ?_ _ | (simp; done) | (simp; omega) | refine K.Ext.trans ?_ (by assumption)))⟩
end Go.Proofs.Ythmnlbgbacbocaa
end
section
namespace Go.Z
/-- bits first, then the rest -/
def leP (p q : Int × Int) : Prop := p.2 < q.2 ∨ (p.2 = q.2 ∧ p.1 ≤ q.1)
theorem stepL_mono {p q : Int × Int} (h : leP p q) (h1 : 0 ≤ p.1) (h2 : 0 ≤ q.1) : leP (stepL p) (stepL q) := by
  obtain ⟨x, n⟩ := p
  obtain ⟨y, m⟩ := q
  unfold leP at h ⊢
  dsimp only at h h1 h2
  have eL : (stepL (x, n)).2 = n * 2 ∨ (stepL (x, n)).2 = n * 2 + 1 := by unfold stepL; split <;> simp
  have eH : (stepL (y, m)).2 = m * 2 ∨ (stepL (y, m)).2 = m * 2 + 1 := by unfold stepL; split <;> simp
  rcases h with h | ⟨h, hx⟩
  · left; omega
  · subst h
    have hm : x * x ≤ y * y := Int.mul_le_mul hx hx (by omega) (by omega)
    obtain ⟨s1, s2⟩ := fl_spec (x * x) 100000000 (by decide)
    obtain ⟨t1, t2⟩ := fl_spec (y * y) 100000000 (by decide)
    unfold stepL
    dsimp only
    generalize fl (x * x) 100000000 = X at *
    generalize fl (y * y) 100000000 = Y at *
    have hXY : X ≤ Y := by omega
    by_cases c1 : 1000000000 ≤ X
    · rw [if_pos c1, if_pos (by omega)]
      right
      refine ⟨rfl, ?_⟩
      dsimp only
      obtain ⟨u1, u2⟩ := fl_spec X 10 (by decide)
      obtain ⟨v1, v2⟩ := fl_spec Y 10 (by decide)
      omega
    · rw [if_neg c1]
      by_cases c2 : 1000000000 ≤ Y
      · rw [if_pos c2]; left; dsimp only; omega
      · rw [if_neg c2]; right; exact ⟨rfl, hXY⟩
theorem stepH_mono {p q : Int × Int} (h : leP p q) (h1 : 0 ≤ p.1) (h2 : 0 ≤ q.1) : leP (stepH p) (stepH q) := by
  obtain ⟨x, n⟩ := p
  obtain ⟨y, m⟩ := q
  unfold leP at h ⊢
  dsimp only at h h1 h2
  have eL : (stepH (x, n)).2 = n * 2 ∨ (stepH (x, n)).2 = n * 2 + 1 := by unfold stepH; split <;> simp
  have eH : (stepH (y, m)).2 = m * 2 ∨ (stepH (y, m)).2 = m * 2 + 1 := by unfold stepH; split <;> simp
  rcases h with h | ⟨h, hx⟩
  · left; omega
  · subst h
    have hm : x * x ≤ y * y := Int.mul_le_mul hx hx (by omega) (by omega)
    obtain ⟨s1, s2⟩ := fl_spec (-(x * x)) 100000000 (by decide)
    obtain ⟨t1, t2⟩ := fl_spec (-(y * y)) 100000000 (by decide)
    have hX : cl (x * x) 100000000 = -fl (-(x * x)) 100000000 := rfl
    have hY : cl (y * y) 100000000 = -fl (-(y * y)) 100000000 := rfl
    unfold stepH
    dsimp only
    rw [hX, hY]
    generalize fl (-(x * x)) 100000000 = X at *
    generalize fl (-(y * y)) 100000000 = Y at *
    have hXY : -X ≤ -Y := by omega
    by_cases c1 : 1000000000 ≤ -X
    · rw [if_pos c1, if_pos (by omega)]
      right
      refine ⟨rfl, ?_⟩
      dsimp only
      obtain ⟨u1, u2⟩ := fl_spec (-(-X)) 10 (by decide)
      obtain ⟨v1, v2⟩ := fl_spec (-(-Y)) 10 (by decide)
      have hd : cl (-X) 10 = -fl (-(-X)) 10 := rfl
      have he : cl (-Y) 10 = -fl (-(-Y)) 10 := rfl
      rw [hd, he]
      omega
    · rw [if_neg c1]
      by_cases c2 : 1000000000 ≤ -Y
      · rw [if_pos c2]; left; dsimp only; omega
      · rw [if_neg c2]; right; exact ⟨rfl, hXY⟩
theorem itL_mono {x y : Int} (h : x ≤ y) (h1 : 100000000 ≤ x) (h2 : y < 1000000000) (k : Nat) : leP (itL x k) (itL y k) := by
  induction k with
  | zero => right; exact ⟨rfl, h⟩
  | succ k ih =>
    have a := itL_bd (x := x) h1 (by omega) k
    have b := itL_bd (x := y) (by omega) h2 k
    exact stepL_mono ih (by omega) (by omega)
theorem itH_mono {x y : Int} (h : x ≤ y) (h1 : 100000000 ≤ x) (h2 : y < 1000000000) (k : Nat) : leP (itH x k) (itH y k) := by
  induction k with
  | zero => right; exact ⟨rfl, h⟩
  | succ k ih =>
    have a := itH_bd (x := x) h1 (by omega) k
    have b := itH_bd (x := y) (by omega) h2 k
    exact stepH_mono ih (by omega) (by omega)
theorem logOf_mono {x y : Int} (h : x ≤ y) (h1 : 100000000 ≤ x) (h2 : y < 1000000000) : (logOf x).1 ≤ (logOf y).1 ∧ (logOf x).2 ≤ (logOf y).2 := by
  have a := itL_mono h h1 h2 20
  have b := itH_mono h h1 h2 20
  unfold leP at a b
  unfold logOf logN
  dsimp only
  generalize itL x 20 = p at *
  generalize itL y 20 = q at *
  generalize itH x 20 = r at *
  generalize itH y 20 = s at *
  constructor <;> omega
/-- a logarithm lies within its decade -/
theorem logOf_in {x : Int} (h1 : 100000000 ≤ x) (h2 : x < 1000000000) : (0 ≤ (logOf x).1 ∧ (logOf x).1 < 1048576) ∧ 1 ≤ (logOf x).2 ∧ (logOf x).2 ≤ 1048576 := by
  have a := (itL_bd h1 h2 20).2
  have b := (itH_bd h1 h2 20).2
  rw [b2_20] at a b
  unfold logOf logN
  dsimp only
  generalize itL x 20 = p at *
  generalize itH x 20 = r at *
  exact ⟨⟨a.1, by omega⟩, by omega, by omega⟩
/-- the figure of a number: four digits for each power of ten -/
def atN (n : Int) : Int × Int := (1000 + n % 9000, n / 9000)
theorem atN_digits (n : Int) : 1000 ≤ (atN n).1 ∧ (atN n).1 ≤ 9999 := by unfold atN; dsimp only; omega
theorem figLog_mono {n m : Int} (h : n ≤ m) : (figLog (atN n)).1 ≤ (figLog (atN m)).1 ∧ (figLog (atN n)).2 ≤ (figLog (atN m)).2 := by
  have dn := atN_digits n
  have dm := atN_digits m
  have a := logOf_in (x := (atN n).1 * 100000) (by omega) (by omega)
  have b := logOf_in (x := (atN m).1 * 100000) (by omega) (by omega)
  by_cases ht : n / 9000 = m / 9000
  · have c := logOf_mono (x := (atN n).1 * 100000) (y := (atN m).1 * 100000) (by unfold atN; dsimp only; omega) (by omega) (by omega)
    unfold figLog
    have e : (atN n).2 = (atN m).2 := ht
    rw [e]
    dsimp only
    omega
  · have e : (atN n).2 + 1 ≤ (atN m).2 := by unfold atN; dsimp only; omega
    unfold figLog
    dsimp only
    omega
/-- the least number from lo on, of n numbers, for which that holds; else the last -/
def firstN (P : Int → Prop) [DecidablePred P] (lo : Int) : Nat → Int
  | 0 => lo
  | k + 1 => if P lo then lo else firstN P (lo + 1) k
theorem firstN_spec (P : Int → Prop) [DecidablePred P] (lo : Int) (k : Nat) : lo ≤ firstN P lo k ∧ firstN P lo k ≤ lo + (k : Int) ∧ (firstN P lo k = lo + (k : Int) ∨ P (firstN P lo k)) ∧ ∀ i, lo ≤ i → i < firstN P lo k → ¬ P i := by
  induction k generalizing lo with
  | zero => exact ⟨Int.le_refl _, by simp [firstN], .inl (by simp [firstN]), fun i h1 h2 => by simp only [firstN] at h2; omega⟩
  | succ k ih =>
    unfold firstN
    by_cases h : P lo
    · rw [if_pos h]
      exact ⟨Int.le_refl _, by omega, .inr h, fun i h1 h2 => by omega⟩
    · rw [if_neg h]
      obtain ⟨a, b, c, d⟩ := ih (lo + 1)
      refine ⟨by omega, by omega, ?_, fun i h1 h2 => ?_⟩
      · rcases c with c | c
        · left; omega
        · right; exact c
      · by_cases hi : i = lo
        · rw [hi]; exact h
        · exact d i (by omega) h2
/-- for a property that stays once it holds, the first number is known by its neighbours -/
theorem firstN_eq (P : Int → Prop) [DecidablePred P] (lo : Int) (k : Nat) (hP : ∀ i j, i ≤ j → P i → P j) {t : Int} (h1 : lo ≤ t) (h2 : t ≤ lo + (k : Int)) (h3 : t = lo + (k : Int) ∨ P t) (h4 : t = lo ∨ ¬ P (t - 1)) : t = firstN P lo k := by
  obtain ⟨a, b, c, d⟩ := firstN_spec P lo k
  generalize firstN P lo k = f at *
  rcases Int.lt_trichotomy t f with h | h | h
  · rcases h3 with h3 | h3
    · omega
    · exact absurd h3 (d t h1 h)
  · exact h
  · exfalso
    rcases c with c | c
    · omega
    · rcases h4 with h4 | h4
      · omega
      · exact h4 (hP f (t - 1) (by omega) c)
end Go.Z
end
section
namespace Go.Proofs.Ythmnlbgbacbocaa
open Go.RowKit
set_option maxHeartbeats 1600000 in
theorem l18Exponent_any (F : Z.Fm) (c : Int) (lo hi : Nat) (p : Value) (w : World) (hl : F.pw.length = F.nm.size) (hm : F.nm.size ≤ 1000000) (h : K.ints w lo hi p F.pw) :
    Calls Try.prog 107 #[.agg #[.int .i64 F.dg, .int .i64 F.tn, .string F.nm, p], .int .u8 c] w fun e w' => e = .returned (.int .i64 (Z.expo (Z.bs F.nm) F.pw c)) ∧ K.Ext w w' := by
  have h1 := h
  obtain ⟨o, cap, rfl, hh⟩ := h1
  have HL := Z.hide hl
  clear hl h
  go_enter Try.func107, Try.ntmps107
  go_wp2
  go_loop [5] (fun i => ∃ k : Nat, k ≤ F.nm.size ∧ i = .int .i64 k ∧ Hid (Z.expo (Z.bs F.nm) F.pw c = Z.expo ((Z.bs F.nm).drop k) (F.pw.drop k) c)) (fun i => F.nm.size - (intOf i).toNat)
  case atStart => exact ⟨0, Nat.zero_le _, rfl, Z.hide rfl⟩
  case round =>
    obtain ⟨k, hk, rfl, HE⟩ := hrel
    by_cases hlt : k < F.nm.size
    · have hlp : k < F.pw.length := by rw [HL.out]; exact hlt
      obtain ⟨b, off, rfl, _, _, hc⟩ := hh (by intro h0; simp [h0] at hlp)
      have HX := Z.hide (Z.expo_drop (Z.bs F.nm) F.pw c k (by rw [Z.bs_length]; exact hlt) hlp)
      have lb : b < w.heap.size := World.block_lt_of_cell? w _ (hc k hlp)
      have hck := hc k hlp
      have HB := Z.hide (Z.bs_get F.nm k hlt)
      clear hh hc
      by_cases he : ((F.nm[k]'hlt).toNat : Int) = c
      · rw [HB.out] at he
        have he' := Z.hide he
        have he2 : ((F.nm[k]'hlt).toNat : Int) = c := by rw [HB.out]; exact he
        clear he
        generalize hx : F.pw.getD k 0 = x at *
        have HQ := Z.hide hx
        clear hx
        go_wp2
        go_ret
        exact ⟨K.ri (by rw [HE.out, HX.out, if_pos he'.out]), (by repeat' (first | with_reducible exact K.Ext.refl _ | with_reducible assumption | with_reducible refine K.Ext.drew ?_ | with_reducible refine K.Ext.alloc ?_ _ | with_reducible refine K.Ext.setCell ?_ ?_ _ | with_reducible refine K.Ext.trans ?_ (by with_reducible assumption) | (dsimp only; omega) | omega | exact K.Ext.refl _ | assumption | apply K.Ext.drew | refine K.Ext.alloc ?_ _ | refine K.Ext.setCell ?_ ?_ _ | (simp; done) | (simp; omega) | refine K.Ext.trans ?_ (by assumption)))⟩
      · have he' : Hid (¬ (Z.bs F.nm).getD k 0 = c) := Z.hide (by rw [← HB.out]; exact he)
        go_wp2
        go_round
        case rel => exact ⟨k + 1, by omega, by go_num, Z.hide (by rw [HE.out, HX.out, if_neg he'.out])⟩
        case measure => simp [intOf]; omega
    · obtain rfl : k = F.nm.size := by omega
      have HX := Z.hide (Z.expo_end (Z.bs F.nm) F.pw c F.nm.size (by rw [Z.bs_length]; exact Nat.le_refl _))
      clear hh
      go_wp2
      go_ret
      exact ⟨K.ri (by rw [HE.out, HX.out]), (by repeat' (first | with_reducible exact K.Ext.refl _ | with_reducible assumption | with_reducible refine K.Ext.drew ?_ | with_reducible refine K.Ext.alloc ?_ _ | with_reducible refine K.Ext.setCell ?_ ?_ _ | with_reducible refine K.Ext.trans ?_ (by with_reducible assumption) | (dsimp only; omega) | omega | exact K.Ext.refl _ | assumption | apply K.Ext.drew | refine K.Ext.alloc ?_ _ | refine K.Ext.setCell ?_ ?_ _ | (simp; done) | (simp; omega) | refine K.Ext.trans ?_ (by assumption)))⟩
set_option maxHeartbeats 1000000 in
set_option maxRecDepth 100000 in
theorem sl_IndexByte (s : ByteArray) (c : Int) (w : World) :
    Calls Try.prog 195 #[.string s, .int .u8 c] w fun e w' => e = .returned (.int .i64 (Lib.indexByte s.data.toList c.toNat.toUInt8)) ∧ w = w' := by
  go_enter Try.func195, Try.ntmps195
  go_wp2
  rw [run_callFunc_extern Try.func207 (by kernel_rfl) (by kernel_rfl) (by kernel_rfl) (e := Extern.BytealgIndexByte.indexByte) (by kernel_rfl), Lib.run_indexByteString]
  simp only [Result.andThen]
  rw [Oper.upon_value]
  go_wp2
  go_ret
  exact ⟨rfl, rfl⟩
theorem IndexByte_any (s : ByteArray) (c : Int) (w : World) :
    Calls Try.prog 168 #[.string s, .int .u8 c] w fun e w' => e = .returned (.int .i64 (Lib.indexByte s.data.toList c.toNat.toUInt8)) ∧ w = w' := by
  go_enter Try.func168, Try.ntmps168
  go_wp2_with (go_at_call 195; refine K.call (by with_reducible rfl) (by with_reducible rfl) (sl_IndexByte _ _ _) ?_; rintro e w' ⟨rfl, rfl⟩)
  go_ret
  exact ⟨rfl, rfl⟩
set_option maxHeartbeats 1600000 in
theorem exponentOf_any (F : Z.Fm) (c : Int) (lo hi : Nat) (p : Value) (w : World) (hl : F.pw.length = F.nm.size) (hm : F.nm.size ≤ 1000000) (hc0 : 0 ≤ c) (hc1 : c ≤ 255) (h : K.ints w lo hi p F.pw) :
    Calls Try.prog 106 #[.agg #[.int .i64 F.dg, .int .i64 F.tn, .string F.nm, p], .int .u8 c] w fun e w' => e = .returned (.int .i64 (Z.expo (Z.bs F.nm) F.pw c)) ∧ K.Ext w w' := by
  have h1 := h
  obtain ⟨o, cap, rfl, hh⟩ := h1
  have hcc : ((c.toNat.toUInt8).toNat : Int) = c := by simp [Nat.toUInt8]; omega
  have hsz : F.nm.data.toList.length = F.nm.size := by rw [Array.length_toList]; rfl
  rcases Z.expo_index F.nm.data.toList F.pw c.toNat.toUInt8 (by rw [hsz, hl]) with ⟨h1, h2⟩ | ⟨k, hk, h1, h2⟩
  · have HE : Hid (Z.expo (Z.bs F.nm) F.pw c = 0) := Z.hide (by rw [← hcc]; exact h2)
    clear h2 hh h hcc hsz
    go_enter Try.func106, Try.ntmps106
    go_wp2_with (go_at_call 168; refine K.call (by with_reducible rfl) (by with_reducible rfl) (IndexByte_any _ _ _) ?_; rintro e w' ⟨rfl, rfl⟩)
    go_ret
    exact ⟨K.ri HE.out.symm, (by repeat' (first | with_reducible exact K.Ext.refl _ | with_reducible assumption | with_reducible refine K.Ext.drew ?_ | with_reducible refine K.Ext.alloc ?_ _ | with_reducible refine K.Ext.setCell ?_ ?_ _ | with_reducible refine K.Ext.trans ?_ (by with_reducible assumption) | (dsimp only; omega) | omega | exact K.Ext.refl _ | assumption | apply K.Ext.drew | refine K.Ext.alloc ?_ _ | refine K.Ext.setCell ?_ ?_ _ | (simp; done) | (simp; omega) | refine K.Ext.trans ?_ (by assumption)))⟩
  · have HE : Hid (Z.expo (Z.bs F.nm) F.pw c = F.pw.getD k 0) := Z.hide (by rw [← hcc]; exact h2)
    have hlp : k < F.pw.length := by rw [hl, ← hsz]; exact hk
    obtain ⟨b, off, rfl, _, _, hc⟩ := hh (by intro h0; simp [h0] at hlp)
    have hck := hc k hlp
    have lb : b < w.heap.size := World.block_lt_of_cell? w _ hck
    clear h2 hh h hcc hsz hl hk hc
    generalize F.pw.getD k 0 = x at *
    go_enter Try.func106, Try.ntmps106
    go_wp2_with (go_at_call 168; refine K.call (by with_reducible rfl) (by with_reducible rfl) (IndexByte_any _ _ _) ?_; rintro e w' ⟨rfl, rfl⟩)
    go_ret
    exact ⟨K.ri HE.out.symm, (by repeat' (first | with_reducible exact K.Ext.refl _ | with_reducible assumption | with_reducible refine K.Ext.drew ?_ | with_reducible refine K.Ext.alloc ?_ _ | with_reducible refine K.Ext.setCell ?_ ?_ _ | with_reducible refine K.Ext.trans ?_ (by with_reducible assumption) | (dsimp only; omega) | omega | exact K.Ext.refl _ | assumption | apply K.Ext.drew | refine K.Ext.alloc ?_ _ | refine K.Ext.setCell ?_ ?_ _ | (simp; done) | (simp; omega) | refine K.Ext.trans ?_ (by assumption)))⟩
end Go.Proofs.Ythmnlbgbacbocaa
end
section
namespace Go.Proofs.Ythmnlbgbacbocaa
open Go.RowKit
set_option maxHeartbeats 8000000 in
theorem impl_IsFormula (F : Z.Fm) {lo hi : Nat} {p : Value} (w : World) (hm : F.pw.length ≤ 1048576) (hn : F.nm.size ≤ 1048576) (h : K.ints w lo hi p F.pw) :
    Calls Try.prog 33 #[.agg #[.int .i64 F.dg, .int .i64 F.tn, .string F.nm, p]] w fun e w' => e = .returned (.bool (Z.isFormula F)) ∧ K.Ext w w' := by
  have h1 := h
  obtain ⟨o, cap, rfl, hh⟩ := h1
  clear h
  cases hf : Z.isFig F.dg F.tn
  · have HE : Hid (Z.isFormula F = false) := Z.hide (by unfold Z.isFormula; rw [hf]; rfl)
    go_enter Try.func33, Try.ntmps33
    go_wp2_with (go_at_call 112; refine K.call (by with_reducible rfl) (by with_reducible rfl) (impl_IsFigure F.dg F.tn _) ?_; rintro e w1 ⟨rfl, hw1⟩; obtain ⟨hcw1, hfw1⟩ := hw1.facts)
    go_ret
    exact ⟨K.rb HE.out.symm, (by repeat' (first | with_reducible exact K.Ext.refl _ | with_reducible assumption | with_reducible refine K.Ext.drew ?_ | with_reducible refine K.Ext.alloc ?_ _ | with_reducible refine K.Ext.setCell ?_ ?_ _ | with_reducible refine K.Ext.trans ?_ (by with_reducible assumption) | (dsimp only; omega) | omega | exact K.Ext.refl _ | assumption | apply K.Ext.drew | refine K.Ext.alloc ?_ _ | refine K.Ext.setCell ?_ ?_ _ | (simp; done) | (simp; omega) | refine K.Ext.trans ?_ (by assumption)))⟩
  · by_cases h6 : F.nm.size ≤ 6
    · by_cases hl : F.pw.length = F.nm.size
      · have HE : Hid (Z.isFormula F = (List.range F.nm.size).all (Z.okAt (Z.bs F.nm) F.pw)) := Z.hide (by unfold Z.isFormula; rw [hf]; simp [h6, hl])
        have hl1 : ((F.pw.length : Int) != F.nm.size) = false := by simp; omega
        have HL := Z.hide hl
        clear hl
        go_enter Try.func33, Try.ntmps33
        go_wp2_with ((go_at_call 112; refine K.call (by with_reducible rfl) (by with_reducible rfl) (impl_IsFigure F.dg F.tn _) ?_; rintro e w1 ⟨rfl, hw1⟩; obtain ⟨hcw1, hfw1⟩ := hw1.facts); have c_w1_0_0 : w1.cell? ⟨w.heap.size, 0, none⟩ = some (.int .i64 (F.dg)) := hw1.cell_of (by go_simp); have f_w1_0_0 : w1.frozen? ⟨w.heap.size, 0, none⟩ = false := hw1.thaw_of (by go_simp) (by go_simp); have c_w1_0_1 : w1.cell? ⟨w.heap.size, 1, none⟩ = some (.int .i64 (F.tn)) := hw1.cell_of (by go_simp); have f_w1_0_1 : w1.frozen? ⟨w.heap.size, 1, none⟩ = false := hw1.thaw_of (by go_simp) (by go_simp); have c_w1_0_2 : w1.cell? ⟨w.heap.size, 2, none⟩ = some (.string F.nm) := hw1.cell_of (by go_simp); have f_w1_0_2 : w1.frozen? ⟨w.heap.size, 2, none⟩ = false := hw1.thaw_of (by go_simp) (by go_simp); have c_w1_0_3 : w1.cell? ⟨w.heap.size, 3, none⟩ = some (.slice o F.pw.length cap) := hw1.cell_of (by go_simp); have f_w1_0_3 : w1.frozen? ⟨w.heap.size, 3, none⟩ = false := hw1.thaw_of (by go_simp) (by go_simp))
        go_loopw [27] (fun i wr => ∃ k : Nat, k ≤ F.nm.size ∧ i = .int .i64 k ∧ Hid ((List.range k).all (Z.okAt (Z.bs F.nm) F.pw) = true) ∧ Hid (K.Ext w1 wr)) (fun i _ => F.nm.size - (intOf i).toNat)
        case atStart => exact ⟨0, Nat.zero_le _, rfl, Z.hide rfl, Z.hide (K.Ext.refl _)⟩
        case round =>
          obtain ⟨k, hk, rfl, HP, HX⟩ := hrel
          by_cases hlt : k < F.nm.size
          · have c_wr_0_0 : wr.cell? ⟨w.heap.size, 0, none⟩ = some (.int .i64 (F.dg)) := HX.out.cell_of (by go_simp); have f_wr_0_0 : wr.frozen? ⟨w.heap.size, 0, none⟩ = false := HX.out.thaw_of (by go_simp) (by go_simp); have c_wr_0_1 : wr.cell? ⟨w.heap.size, 1, none⟩ = some (.int .i64 (F.tn)) := HX.out.cell_of (by go_simp); have f_wr_0_1 : wr.frozen? ⟨w.heap.size, 1, none⟩ = false := HX.out.thaw_of (by go_simp) (by go_simp); have c_wr_0_2 : wr.cell? ⟨w.heap.size, 2, none⟩ = some (.string F.nm) := HX.out.cell_of (by go_simp); have f_wr_0_2 : wr.frozen? ⟨w.heap.size, 2, none⟩ = false := HX.out.thaw_of (by go_simp) (by go_simp); have c_wr_0_3 : wr.cell? ⟨w.heap.size, 3, none⟩ = some (.slice o F.pw.length cap) := HX.out.cell_of (by go_simp); have f_wr_0_3 : wr.frozen? ⟨w.heap.size, 3, none⟩ = false := HX.out.thaw_of (by go_simp) (by go_simp)
            have hlp : k < F.pw.length := by rw [HL.out]; exact hlt
            obtain ⟨b, off, rfl, _, _, hc⟩ := hh (by intro h0; simp [h0] at hlp)
            have lb : b < w.heap.size := World.block_lt_of_cell? w _ (hc k hlp)
            have hck : wr.cell? ⟨b, off + k, none⟩ = some (.int .i64 (F.pw.getD k 0)) := (K.Ext.trans (by repeat' (first | with_reducible exact K.Ext.refl _ | with_reducible assumption | with_reducible refine K.Ext.drew ?_ | with_reducible refine K.Ext.alloc ?_ _ | with_reducible refine K.Ext.setCell ?_ ?_ _ | with_reducible refine K.Ext.trans ?_ (by with_reducible assumption) | (dsimp only; omega) | omega | exact K.Ext.refl _ | assumption | apply K.Ext.drew | refine K.Ext.alloc ?_ _ | refine K.Ext.setCell ?_ ?_ _ | (simp; done) | (simp; omega) | refine K.Ext.trans ?_ (by assumption))) HX.out).cell_of (hc k hlp)
            have HB := Z.hide (Z.bs_get F.nm k hlt)
            have i0 : (0 : Int) ≤ (k : Int) := Int.natCast_nonneg k
            have i1 : (k : Int) < (F.pw.length : Int) := by omega
            have i2 : (k : Int) < (F.nm.size : Int) := by omega
            have HW := Z.hide (show K.Ext w w1 from (by repeat' (first | with_reducible exact K.Ext.refl _ | with_reducible assumption | with_reducible refine K.Ext.drew ?_ | with_reducible refine K.Ext.alloc ?_ _ | with_reducible refine K.Ext.setCell ?_ ?_ _ | with_reducible refine K.Ext.trans ?_ (by with_reducible assumption) | (dsimp only; omega) | omega | exact K.Ext.refl _ | assumption | apply K.Ext.drew | refine K.Ext.alloc ?_ _ | refine K.Ext.setCell ?_ ?_ _ | (simp; done) | (simp; omega) | refine K.Ext.trans ?_ (by assumption))))
            clear hh hc hcw1 hfw1 c_w1_0_0 c_w1_0_1 c_w1_0_2 c_w1_0_3 f_w1_0_0 f_w1_0_1 f_w1_0_2 f_w1_0_3 hw1 hf h6 hl1 hm hn f_wr_0_0 f_wr_0_1 f_wr_0_2 f_wr_0_3 c_wr_0_0 c_wr_0_1
            generalize hx : F.pw.getD k 0 = x at *
            have HQ := Z.hide hx
            clear hx
            cases a1 : decide (((F.nm[k]'hlt).toNat : Int) < 97)
            · cases a2 : decide ((122 : Int) < ((F.nm[k]'hlt).toNat : Int))
              · by_cases hk0 : 0 < k
                · have j0 : (1 : Int) ≤ (k : Int) := by omega
                  have j1 : (k : Int) - 1 < (F.nm.size : Int) := by omega
                  have hk1 : k - 1 < F.nm.size := by omega
                  have j3 : decide ((0 : Int) < (k : Int)) = true := by simp; omega
                  have k0 := decide_eq_true hk0
                  have HB2 := Z.hide (Z.bs_get F.nm (k - 1) hk1)
                  cases a3 : decide (((F.nm[k]'hlt).toNat : Int) ≤ ((F.nm[k - 1]'hk1).toNat : Int))
                  · have a3n : ¬ ((F.nm[k]'hlt).toNat ≤ (F.nm[k - 1]'hk1).toNat) := by have := of_decide_eq_false a3; omega
                    have a3m : (F.nm[k - 1]'hk1).toNat < (F.nm[k]'hlt).toNat := by omega
                    cases a4 : x == 0
                    · cases a5 : (decide (-6 ≤ x) && decide (x ≤ 6))
                      ·
                        go_wp2_with fail
                        refine K.wp_region_x 37 [0, 1, 0, 0, 0, 0, 0, 1, 0, 0, 0, 0, 0, 0, 0, 0, 0, 1, 0, 0, 0, 1, 0, 0, 0, 0, 0, 0, 0, 0, 0, 0, 0, 0, 2, 0, 0] [K.SP.any, K.SP.any, K.SP.any, K.SP.any, K.SP.any, K.SP.any, K.SP.any, K.SP.any, K.SP.any, K.SP.any, K.SP.any, K.SP.any, K.SP.any, K.SP.any, K.SP.any, K.SP.any, K.SP.any, K.SP.any, K.SP.any, K.SP.any, K.SP.any, K.SP.any, K.SP.any, K.SP.any, K.SP.any, K.SP.any, K.SP.any, K.SP.any, K.SP.any, K.SP.any, K.SP.any, K.SP.any, K.SP.any, K.SP.any, K.SP.is (.bool (decide (-6 ≤ x) && decide (x ≤ 6)))] (by kernel_rfl) (by kernel_rfl) ?_
                        simp only [List.take_succ_cons, List.take_zero, List.drop_succ_cons, List.drop_zero]
                        apply K.x_pure
                        · rfl
                        · rfl
                        · intro w'; go_simp; first | done | exact K.vint (IntWalk.i64_in _ (by omega)) | rfl | exact ⟨rfl, rfl⟩
                        simp only [Act.put, List.setIfInBounds_toArray, List.set]
                        apply K.x_held
                        · rfl
                        · rfl
                        · intro w' hx; have hc := hx.all.1.1; have hf := hx.all.1.2; have hc' := hx.all.2.1; have hf' := hx.all.2.2; go_simp; first | done | rfl | exact ⟨rfl, rfl⟩
                        simp only [Act.put, List.setIfInBounds_toArray, List.set]
                        iterate 5
                          apply K.x_pure
                          · rfl
                          · rfl
                          · intro w'; go_simp; first | done | exact K.vint (IntWalk.i64_in _ (by omega)) | rfl | exact ⟨rfl, rfl⟩
                          simp only [Act.put, List.setIfInBounds_toArray, List.set]
                        apply K.x_held
                        · rfl
                        · rfl
                        · intro w' hx; have hc := hx.all.1.1; have hf := hx.all.1.2; have hc' := hx.all.2.1; have hf' := hx.all.2.2; go_simp; first | done | rfl | exact ⟨rfl, rfl⟩
                        simp only [Act.put, List.setIfInBounds_toArray, List.set]
                        iterate 9
                          apply K.x_pure
                          · rfl
                          · rfl
                          · intro w'; go_simp; first | done | exact K.vint (IntWalk.i64_in _ (by omega)) | rfl | exact ⟨rfl, rfl⟩
                          simp only [Act.put, List.setIfInBounds_toArray, List.set]
                        apply K.x_held
                        · rfl
                        · rfl
                        · intro w' hx; have hc := hx.all.1.1; have hf := hx.all.1.2; have hc' := hx.all.2.1; have hf' := hx.all.2.2; go_simp; first | done | rfl | exact ⟨rfl, rfl⟩
                        simp only [Act.put, List.setIfInBounds_toArray, List.set]
                        iterate 3
                          apply K.x_pure
                          · rfl
                          · rfl
                          · intro w'; go_simp; first | done | exact K.vint (IntWalk.i64_in _ (by omega)) | rfl | exact ⟨rfl, rfl⟩
                          simp only [Act.put, List.setIfInBounds_toArray, List.set]
                        apply K.x_held
                        · rfl
                        · rfl
                        · intro w' hx; have hc := hx.all.1.1; have hf := hx.all.1.2; have hc' := hx.all.2.1; have hf' := hx.all.2.2; go_simp; first | done | rfl | exact ⟨rfl, rfl⟩
                        simp only [Act.put, List.setIfInBounds_toArray, List.set]
                        iterate 12
                          apply K.x_pure
                          · rfl
                          · rfl
                          · intro w'; go_simp; first | done | exact K.vint (IntWalk.i64_in _ (by omega)) | rfl | exact ⟨rfl, rfl⟩
                          simp only [Act.put, List.setIfInBounds_toArray, List.set]
                        apply K.x_call_is
                        · rfl
                        · rfl
                        · rfl
                        · intro w'; go_simp; first | done | rfl | exact ⟨rfl, rfl⟩
                        · intro w' hx hp; have hc := hx.all.1.1; have hf := hx.all.1.2; have hc' := hx.all.2.1; have hf' := hx.all.2.2; exact K.same_ext (within_any _ _ _ _)
                        intro w_34_ hx_34_
                        simp only [Act.put, List.setIfInBounds_toArray, List.set]
                        iterate 2
                          apply K.x_pure
                          · rfl
                          · rfl
                          · intro w'; go_simp; first | done | exact K.vint (IntWalk.i64_in _ (by omega)) | rfl | exact ⟨rfl, rfl⟩
                          simp only [Act.put, List.setIfInBounds_toArray, List.set]
                        apply K.x_done
                        intro w2 h_x
                        have hx2 := hx_34_.trans h_x
                        clear h_x hx_34_
                        obtain ⟨⟨hcw2, hfw2⟩, hc'w2, hf'w2⟩ := hx2.all
                        refine wpList_nil ?_
                        refine NoPanic.normal ?_
                        go_wp2
                        go_ret
                        exact ⟨K.rb (by rw [HE.out, Z.range_all_bad _ _ k hlt (by rw [Z.okAt_of HB.out (fun _ => HB2.out) HQ.out, a1, a2, k0, a3, a4, a5]; rfl)]), K.Ext.trans HW.out (HX.out.trans (by repeat' (first | with_reducible exact K.Ext.refl _ | with_reducible assumption | with_reducible refine K.Ext.drew ?_ | with_reducible refine K.Ext.alloc ?_ _ | with_reducible refine K.Ext.setCell ?_ ?_ _ | with_reducible refine K.Ext.trans ?_ (by with_reducible assumption) | (dsimp only; omega) | omega | exact K.Ext.refl _ | assumption | apply K.Ext.drew | refine K.Ext.alloc ?_ _ | refine K.Ext.setCell ?_ ?_ _ | (simp; done) | (simp; omega) | refine K.Ext.trans ?_ (by assumption))))⟩
                      ·
                        go_wp2_with fail
                        refine K.wp_region_x 37 [0, 1, 0, 0, 0, 0, 0, 1, 0, 0, 0, 0, 0, 0, 0, 0, 0, 1, 0, 0, 0, 1, 0, 0, 0, 0, 0, 0, 0, 0, 0, 0, 0, 0, 2, 0, 0] [K.SP.any, K.SP.any, K.SP.any, K.SP.any, K.SP.any, K.SP.any, K.SP.any, K.SP.any, K.SP.any, K.SP.any, K.SP.any, K.SP.any, K.SP.any, K.SP.any, K.SP.any, K.SP.any, K.SP.any, K.SP.any, K.SP.any, K.SP.any, K.SP.any, K.SP.any, K.SP.any, K.SP.any, K.SP.any, K.SP.any, K.SP.any, K.SP.any, K.SP.any, K.SP.any, K.SP.any, K.SP.any, K.SP.any, K.SP.any, K.SP.is (.bool (decide (-6 ≤ x) && decide (x ≤ 6)))] (by kernel_rfl) (by kernel_rfl) ?_
                        simp only [List.take_succ_cons, List.take_zero, List.drop_succ_cons, List.drop_zero]
                        apply K.x_pure
                        · rfl
                        · rfl
                        · intro w'; go_simp; first | done | exact K.vint (IntWalk.i64_in _ (by omega)) | rfl | exact ⟨rfl, rfl⟩
                        simp only [Act.put, List.setIfInBounds_toArray, List.set]
                        apply K.x_held
                        · rfl
                        · rfl
                        · intro w' hx; have hc := hx.all.1.1; have hf := hx.all.1.2; have hc' := hx.all.2.1; have hf' := hx.all.2.2; go_simp; first | done | rfl | exact ⟨rfl, rfl⟩
                        simp only [Act.put, List.setIfInBounds_toArray, List.set]
                        iterate 5
                          apply K.x_pure
                          · rfl
                          · rfl
                          · intro w'; go_simp; first | done | exact K.vint (IntWalk.i64_in _ (by omega)) | rfl | exact ⟨rfl, rfl⟩
                          simp only [Act.put, List.setIfInBounds_toArray, List.set]
                        apply K.x_held
                        · rfl
                        · rfl
                        · intro w' hx; have hc := hx.all.1.1; have hf := hx.all.1.2; have hc' := hx.all.2.1; have hf' := hx.all.2.2; go_simp; first | done | rfl | exact ⟨rfl, rfl⟩
                        simp only [Act.put, List.setIfInBounds_toArray, List.set]
                        iterate 9
                          apply K.x_pure
                          · rfl
                          · rfl
                          · intro w'; go_simp; first | done | exact K.vint (IntWalk.i64_in _ (by omega)) | rfl | exact ⟨rfl, rfl⟩
                          simp only [Act.put, List.setIfInBounds_toArray, List.set]
                        apply K.x_held
                        · rfl
                        · rfl
                        · intro w' hx; have hc := hx.all.1.1; have hf := hx.all.1.2; have hc' := hx.all.2.1; have hf' := hx.all.2.2; go_simp; first | done | rfl | exact ⟨rfl, rfl⟩
                        simp only [Act.put, List.setIfInBounds_toArray, List.set]
                        iterate 3
                          apply K.x_pure
                          · rfl
                          · rfl
                          · intro w'; go_simp; first | done | exact K.vint (IntWalk.i64_in _ (by omega)) | rfl | exact ⟨rfl, rfl⟩
                          simp only [Act.put, List.setIfInBounds_toArray, List.set]
                        apply K.x_held
                        · rfl
                        · rfl
                        · intro w' hx; have hc := hx.all.1.1; have hf := hx.all.1.2; have hc' := hx.all.2.1; have hf' := hx.all.2.2; go_simp; first | done | rfl | exact ⟨rfl, rfl⟩
                        simp only [Act.put, List.setIfInBounds_toArray, List.set]
                        iterate 12
                          apply K.x_pure
                          · rfl
                          · rfl
                          · intro w'; go_simp; first | done | exact K.vint (IntWalk.i64_in _ (by omega)) | rfl | exact ⟨rfl, rfl⟩
                          simp only [Act.put, List.setIfInBounds_toArray, List.set]
                        apply K.x_call_is
                        · rfl
                        · rfl
                        · rfl
                        · intro w'; go_simp; first | done | rfl | exact ⟨rfl, rfl⟩
                        · intro w' hx hp; have hc := hx.all.1.1; have hf := hx.all.1.2; have hc' := hx.all.2.1; have hf' := hx.all.2.2; exact K.same_ext (within_any _ _ _ _)
                        intro w_34_ hx_34_
                        simp only [Act.put, List.setIfInBounds_toArray, List.set]
                        iterate 2
                          apply K.x_pure
                          · rfl
                          · rfl
                          · intro w'; go_simp; first | done | exact K.vint (IntWalk.i64_in _ (by omega)) | rfl | exact ⟨rfl, rfl⟩
                          simp only [Act.put, List.setIfInBounds_toArray, List.set]
                        apply K.x_done
                        intro w2 h_x
                        have hx2 := hx_34_.trans h_x
                        clear h_x hx_34_
                        obtain ⟨⟨hcw2, hfw2⟩, hc'w2, hf'w2⟩ := hx2.all
                        refine wpList_nil ?_
                        refine NoPanic.normal ?_
                        go_wp2
                        go_roundw
                        case rel => exact ⟨k + 1, by omega, by go_num, Z.hide (by rw [Z.range_all_succ, HP.out, show Z.okAt (Z.bs F.nm) F.pw k = true by rw [Z.okAt_of HB.out (fun _ => HB2.out) HQ.out, a1, a2, k0, a3, a4, a5]; rfl]; rfl), Z.hide (HX.out.trans (by repeat' (first | with_reducible exact K.Ext.refl _ | with_reducible assumption | with_reducible refine K.Ext.drew ?_ | with_reducible refine K.Ext.alloc ?_ _ | with_reducible refine K.Ext.setCell ?_ ?_ _ | with_reducible refine K.Ext.trans ?_ (by with_reducible assumption) | (dsimp only; omega) | omega | exact K.Ext.refl _ | assumption | apply K.Ext.drew | refine K.Ext.alloc ?_ _ | refine K.Ext.setCell ?_ ?_ _ | (simp; done) | (simp; omega) | refine K.Ext.trans ?_ (by assumption))))⟩
                        case measure => simp [intOf]; omega
                    ·
                      go_wp2_with fail
                      refine K.wp_region_x 37 [0, 1, 0, 0, 0, 0, 0, 1, 0, 0, 0, 0, 0, 0, 0, 0, 0, 1, 0, 0, 0, 1, 0, 0, 0, 0, 0, 0, 0, 0, 0, 0, 0, 0, 2, 0, 0] [K.SP.any, K.SP.any, K.SP.any, K.SP.any, K.SP.any, K.SP.any, K.SP.any, K.SP.any, K.SP.any, K.SP.any, K.SP.any, K.SP.any, K.SP.any, K.SP.any, K.SP.any, K.SP.any, K.SP.any, K.SP.any, K.SP.any, K.SP.any, K.SP.any, K.SP.any, K.SP.any, K.SP.any, K.SP.any, K.SP.any, K.SP.any, K.SP.any, K.SP.any, K.SP.any, K.SP.any, K.SP.any, K.SP.any, K.SP.any, K.SP.any] (by kernel_rfl) (by kernel_rfl) ?_
                      simp only [List.take_succ_cons, List.take_zero, List.drop_succ_cons, List.drop_zero]
                      apply K.x_pure
                      · rfl
                      · rfl
                      · intro w'; go_simp; first | done | exact K.vint (IntWalk.i64_in _ (by omega)) | rfl | exact ⟨rfl, rfl⟩
                      simp only [Act.put, List.setIfInBounds_toArray, List.set]
                      apply K.x_held
                      · rfl
                      · rfl
                      · intro w' hx; have hc := hx.all.1.1; have hf := hx.all.1.2; have hc' := hx.all.2.1; have hf' := hx.all.2.2; go_simp; first | done | rfl | exact ⟨rfl, rfl⟩
                      simp only [Act.put, List.setIfInBounds_toArray, List.set]
                      iterate 5
                        apply K.x_pure
                        · rfl
                        · rfl
                        · intro w'; go_simp; first | done | exact K.vint (IntWalk.i64_in _ (by omega)) | rfl | exact ⟨rfl, rfl⟩
                        simp only [Act.put, List.setIfInBounds_toArray, List.set]
                      apply K.x_held
                      · rfl
                      · rfl
                      · intro w' hx; have hc := hx.all.1.1; have hf := hx.all.1.2; have hc' := hx.all.2.1; have hf' := hx.all.2.2; go_simp; first | done | rfl | exact ⟨rfl, rfl⟩
                      simp only [Act.put, List.setIfInBounds_toArray, List.set]
                      iterate 9
                        apply K.x_pure
                        · rfl
                        · rfl
                        · intro w'; go_simp; first | done | exact K.vint (IntWalk.i64_in _ (by omega)) | rfl | exact ⟨rfl, rfl⟩
                        simp only [Act.put, List.setIfInBounds_toArray, List.set]
                      apply K.x_held
                      · rfl
                      · rfl
                      · intro w' hx; have hc := hx.all.1.1; have hf := hx.all.1.2; have hc' := hx.all.2.1; have hf' := hx.all.2.2; go_simp; first | done | rfl | exact ⟨rfl, rfl⟩
                      simp only [Act.put, List.setIfInBounds_toArray, List.set]
                      iterate 3
                        apply K.x_pure
                        · rfl
                        · rfl
                        · intro w'; go_simp; first | done | exact K.vint (IntWalk.i64_in _ (by omega)) | rfl | exact ⟨rfl, rfl⟩
                        simp only [Act.put, List.setIfInBounds_toArray, List.set]
                      apply K.x_held
                      · rfl
                      · rfl
                      · intro w' hx; have hc := hx.all.1.1; have hf := hx.all.1.2; have hc' := hx.all.2.1; have hf' := hx.all.2.2; go_simp; first | done | rfl | exact ⟨rfl, rfl⟩
                      simp only [Act.put, List.setIfInBounds_toArray, List.set]
                      iterate 11
                        apply K.x_pure
                        · rfl
                        · rfl
                        · intro w'; go_simp; first | done | exact K.vint (IntWalk.i64_in _ (by omega)) | rfl | exact ⟨rfl, rfl⟩
                        simp only [Act.put, List.setIfInBounds_toArray, List.set]
                      iterate 3
                        refine K.x_skip (by rfl) ?_
                        simp only [Act.put, List.setIfInBounds_toArray, List.set]
                      apply K.x_pure
                      · rfl
                      · rfl
                      · intro w'; go_simp; first | done | exact K.vint (IntWalk.i64_in _ (by omega)) | rfl | exact ⟨rfl, rfl⟩
                      simp only [Act.put, List.setIfInBounds_toArray, List.set]
                      apply K.x_done
                      intro w2 h_x
                      have hx2 := K.Ext.id h_x
                      clear h_x
                      obtain ⟨⟨hcw2, hfw2⟩, hc'w2, hf'w2⟩ := hx2.all
                      refine wpList_nil ?_
                      refine NoPanic.normal ?_
                      go_wp2
                      go_ret
                      exact ⟨K.rb (by rw [HE.out, Z.range_all_bad _ _ k hlt (by rw [Z.okAt_of HB.out (fun _ => HB2.out) HQ.out, a1, a2, k0, a3, a4]; rfl)]), K.Ext.trans HW.out (HX.out.trans (by repeat' (first | with_reducible exact K.Ext.refl _ | with_reducible assumption | with_reducible refine K.Ext.drew ?_ | with_reducible refine K.Ext.alloc ?_ _ | with_reducible refine K.Ext.setCell ?_ ?_ _ | with_reducible refine K.Ext.trans ?_ (by with_reducible assumption) | (dsimp only; omega) | omega | exact K.Ext.refl _ | assumption | apply K.Ext.drew | refine K.Ext.alloc ?_ _ | refine K.Ext.setCell ?_ ?_ _ | (simp; done) | (simp; omega) | refine K.Ext.trans ?_ (by assumption))))⟩
                  · have a3n : (F.nm[k]'hlt).toNat ≤ (F.nm[k - 1]'hk1).toNat := by have := of_decide_eq_true a3; omega
                    go_wp2_with fail
                    refine K.wp_region_x 37 [0, 1, 0, 0, 0, 0, 0, 1, 0, 0, 0, 0, 0, 0, 0, 0, 0, 1, 0, 0, 0, 1, 0, 0, 0, 0, 0, 0, 0, 0, 0, 0, 0, 0, 2, 0, 0] [K.SP.any, K.SP.any, K.SP.any, K.SP.any, K.SP.any, K.SP.any, K.SP.any, K.SP.any, K.SP.any, K.SP.any, K.SP.any, K.SP.any, K.SP.any, K.SP.any, K.SP.any, K.SP.any, K.SP.any, K.SP.any, K.SP.any, K.SP.any, K.SP.any, K.SP.any, K.SP.any, K.SP.any, K.SP.any, K.SP.any, K.SP.any, K.SP.any, K.SP.any, K.SP.any, K.SP.any, K.SP.any, K.SP.any, K.SP.any, K.SP.any] (by kernel_rfl) (by kernel_rfl) ?_
                    simp only [List.take_succ_cons, List.take_zero, List.drop_succ_cons, List.drop_zero]
                    apply K.x_pure
                    · rfl
                    · rfl
                    · intro w'; go_simp; first | done | exact K.vint (IntWalk.i64_in _ (by omega)) | rfl | exact ⟨rfl, rfl⟩
                    simp only [Act.put, List.setIfInBounds_toArray, List.set]
                    apply K.x_held
                    · rfl
                    · rfl
                    · intro w' hx; have hc := hx.all.1.1; have hf := hx.all.1.2; have hc' := hx.all.2.1; have hf' := hx.all.2.2; go_simp; first | done | rfl | exact ⟨rfl, rfl⟩
                    simp only [Act.put, List.setIfInBounds_toArray, List.set]
                    iterate 5
                      apply K.x_pure
                      · rfl
                      · rfl
                      · intro w'; go_simp; first | done | exact K.vint (IntWalk.i64_in _ (by omega)) | rfl | exact ⟨rfl, rfl⟩
                      simp only [Act.put, List.setIfInBounds_toArray, List.set]
                    apply K.x_held
                    · rfl
                    · rfl
                    · intro w' hx; have hc := hx.all.1.1; have hf := hx.all.1.2; have hc' := hx.all.2.1; have hf' := hx.all.2.2; go_simp; first | done | rfl | exact ⟨rfl, rfl⟩
                    simp only [Act.put, List.setIfInBounds_toArray, List.set]
                    iterate 9
                      apply K.x_pure
                      · rfl
                      · rfl
                      · intro w'; go_simp; first | done | exact K.vint (IntWalk.i64_in _ (by omega)) | rfl | exact ⟨rfl, rfl⟩
                      simp only [Act.put, List.setIfInBounds_toArray, List.set]
                    apply K.x_held
                    · rfl
                    · rfl
                    · intro w' hx; have hc := hx.all.1.1; have hf := hx.all.1.2; have hc' := hx.all.2.1; have hf' := hx.all.2.2; go_simp; first | done | rfl | exact ⟨rfl, rfl⟩
                    simp only [Act.put, List.setIfInBounds_toArray, List.set]
                    iterate 3
                      apply K.x_pure
                      · rfl
                      · rfl
                      · intro w'; go_simp; first | done | exact K.vint (IntWalk.i64_in _ (by omega)) | rfl | exact ⟨rfl, rfl⟩
                      simp only [Act.put, List.setIfInBounds_toArray, List.set]
                    apply K.x_held
                    · rfl
                    · rfl
                    · intro w' hx; have hc := hx.all.1.1; have hf := hx.all.1.2; have hc' := hx.all.2.1; have hf' := hx.all.2.2; go_simp; first | done | rfl | exact ⟨rfl, rfl⟩
                    simp only [Act.put, List.setIfInBounds_toArray, List.set]
                    iterate 7
                      apply K.x_pure
                      · rfl
                      · rfl
                      · intro w'; go_simp; first | done | exact K.vint (IntWalk.i64_in _ (by omega)) | rfl | exact ⟨rfl, rfl⟩
                      simp only [Act.put, List.setIfInBounds_toArray, List.set]
                    iterate 2
                      refine K.x_skip (by rfl) ?_
                      simp only [Act.put, List.setIfInBounds_toArray, List.set]
                    iterate 2
                      apply K.x_pure
                      · rfl
                      · rfl
                      · intro w'; go_simp; first | done | exact K.vint (IntWalk.i64_in _ (by omega)) | rfl | exact ⟨rfl, rfl⟩
                      simp only [Act.put, List.setIfInBounds_toArray, List.set]
                    iterate 3
                      refine K.x_skip (by rfl) ?_
                      simp only [Act.put, List.setIfInBounds_toArray, List.set]
                    apply K.x_pure
                    · rfl
                    · rfl
                    · intro w'; go_simp; first | done | exact K.vint (IntWalk.i64_in _ (by omega)) | rfl | exact ⟨rfl, rfl⟩
                    simp only [Act.put, List.setIfInBounds_toArray, List.set]
                    apply K.x_done
                    intro w2 h_x
                    have hx2 := K.Ext.id h_x
                    clear h_x
                    obtain ⟨⟨hcw2, hfw2⟩, hc'w2, hf'w2⟩ := hx2.all
                    refine wpList_nil ?_
                    refine NoPanic.normal ?_
                    go_wp2
                    go_ret
                    exact ⟨K.rb (by rw [HE.out, Z.range_all_bad _ _ k hlt (by rw [Z.okAt_of HB.out (fun _ => HB2.out) HQ.out, a1, a2, k0, a3]; rfl)]), K.Ext.trans HW.out (HX.out.trans (by repeat' (first | with_reducible exact K.Ext.refl _ | with_reducible assumption | with_reducible refine K.Ext.drew ?_ | with_reducible refine K.Ext.alloc ?_ _ | with_reducible refine K.Ext.setCell ?_ ?_ _ | with_reducible refine K.Ext.trans ?_ (by with_reducible assumption) | (dsimp only; omega) | omega | exact K.Ext.refl _ | assumption | apply K.Ext.drew | refine K.Ext.alloc ?_ _ | refine K.Ext.setCell ?_ ?_ _ | (simp; done) | (simp; omega) | refine K.Ext.trans ?_ (by assumption))))⟩
                · have j3 : decide ((0 : Int) < (k : Int)) = false := by simp; omega
                  have k0 := decide_eq_false hk0
                  cases a4 : x == 0
                  · cases a5 : (decide (-6 ≤ x) && decide (x ≤ 6))
                    ·
                      go_wp2_with fail
                      refine K.wp_region_x 37 [0, 1, 0, 0, 0, 0, 0, 1, 0, 0, 0, 0, 0, 0, 0, 0, 0, 1, 0, 0, 0, 1, 0, 0, 0, 0, 0, 0, 0, 0, 0, 0, 0, 0, 2, 0, 0] [K.SP.any, K.SP.any, K.SP.any, K.SP.any, K.SP.any, K.SP.any, K.SP.any, K.SP.any, K.SP.any, K.SP.any, K.SP.any, K.SP.any, K.SP.any, K.SP.any, K.SP.any, K.SP.any, K.SP.any, K.SP.any, K.SP.any, K.SP.any, K.SP.any, K.SP.any, K.SP.any, K.SP.any, K.SP.any, K.SP.any, K.SP.any, K.SP.any, K.SP.any, K.SP.any, K.SP.any, K.SP.any, K.SP.any, K.SP.any, K.SP.is (.bool (decide (-6 ≤ x) && decide (x ≤ 6)))] (by kernel_rfl) (by kernel_rfl) ?_
                      simp only [List.take_succ_cons, List.take_zero, List.drop_succ_cons, List.drop_zero]
                      apply K.x_pure
                      · rfl
                      · rfl
                      · intro w'; go_simp; first | done | exact K.vint (IntWalk.i64_in _ (by omega)) | rfl | exact ⟨rfl, rfl⟩
                      simp only [Act.put, List.setIfInBounds_toArray, List.set]
                      apply K.x_held
                      · rfl
                      · rfl
                      · intro w' hx; have hc := hx.all.1.1; have hf := hx.all.1.2; have hc' := hx.all.2.1; have hf' := hx.all.2.2; go_simp; first | done | rfl | exact ⟨rfl, rfl⟩
                      simp only [Act.put, List.setIfInBounds_toArray, List.set]
                      iterate 5
                        apply K.x_pure
                        · rfl
                        · rfl
                        · intro w'; go_simp; first | done | exact K.vint (IntWalk.i64_in _ (by omega)) | rfl | exact ⟨rfl, rfl⟩
                        simp only [Act.put, List.setIfInBounds_toArray, List.set]
                      apply K.x_held
                      · rfl
                      · rfl
                      · intro w' hx; have hc := hx.all.1.1; have hf := hx.all.1.2; have hc' := hx.all.2.1; have hf' := hx.all.2.2; go_simp; first | done | rfl | exact ⟨rfl, rfl⟩
                      simp only [Act.put, List.setIfInBounds_toArray, List.set]
                      iterate 8
                        apply K.x_pure
                        · rfl
                        · rfl
                        · intro w'; go_simp; first | done | exact K.vint (IntWalk.i64_in _ (by omega)) | rfl | exact ⟨rfl, rfl⟩
                        simp only [Act.put, List.setIfInBounds_toArray, List.set]
                      iterate 10
                        refine K.x_skip (by rfl) ?_
                        simp only [Act.put, List.setIfInBounds_toArray, List.set]
                      iterate 8
                        apply K.x_pure
                        · rfl
                        · rfl
                        · intro w'; go_simp; first | done | exact K.vint (IntWalk.i64_in _ (by omega)) | rfl | exact ⟨rfl, rfl⟩
                        simp only [Act.put, List.setIfInBounds_toArray, List.set]
                      apply K.x_call_is
                      · rfl
                      · rfl
                      · rfl
                      · intro w'; go_simp; first | done | rfl | exact ⟨rfl, rfl⟩
                      · intro w' hx hp; have hc := hx.all.1.1; have hf := hx.all.1.2; have hc' := hx.all.2.1; have hf' := hx.all.2.2; exact K.same_ext (within_any _ _ _ _)
                      intro w_34_ hx_34_
                      simp only [Act.put, List.setIfInBounds_toArray, List.set]
                      iterate 2
                        apply K.x_pure
                        · rfl
                        · rfl
                        · intro w'; go_simp; first | done | exact K.vint (IntWalk.i64_in _ (by omega)) | rfl | exact ⟨rfl, rfl⟩
                        simp only [Act.put, List.setIfInBounds_toArray, List.set]
                      apply K.x_done
                      intro w2 h_x
                      have hx2 := hx_34_.trans h_x
                      clear h_x hx_34_
                      obtain ⟨⟨hcw2, hfw2⟩, hc'w2, hf'w2⟩ := hx2.all
                      refine wpList_nil ?_
                      refine NoPanic.normal ?_
                      go_wp2
                      go_ret
                      exact ⟨K.rb (by rw [HE.out, Z.range_all_bad _ _ k hlt (by rw [Z.okAt_of HB.out (m := 0) (fun h => absurd h hk0) HQ.out, a1, a2, k0, a4, a5]; rfl)]), K.Ext.trans HW.out (HX.out.trans (by repeat' (first | with_reducible exact K.Ext.refl _ | with_reducible assumption | with_reducible refine K.Ext.drew ?_ | with_reducible refine K.Ext.alloc ?_ _ | with_reducible refine K.Ext.setCell ?_ ?_ _ | with_reducible refine K.Ext.trans ?_ (by with_reducible assumption) | (dsimp only; omega) | omega | exact K.Ext.refl _ | assumption | apply K.Ext.drew | refine K.Ext.alloc ?_ _ | refine K.Ext.setCell ?_ ?_ _ | (simp; done) | (simp; omega) | refine K.Ext.trans ?_ (by assumption))))⟩
                    ·
                      go_wp2_with fail
                      refine K.wp_region_x 37 [0, 1, 0, 0, 0, 0, 0, 1, 0, 0, 0, 0, 0, 0, 0, 0, 0, 1, 0, 0, 0, 1, 0, 0, 0, 0, 0, 0, 0, 0, 0, 0, 0, 0, 2, 0, 0] [K.SP.any, K.SP.any, K.SP.any, K.SP.any, K.SP.any, K.SP.any, K.SP.any, K.SP.any, K.SP.any, K.SP.any, K.SP.any, K.SP.any, K.SP.any, K.SP.any, K.SP.any, K.SP.any, K.SP.any, K.SP.any, K.SP.any, K.SP.any, K.SP.any, K.SP.any, K.SP.any, K.SP.any, K.SP.any, K.SP.any, K.SP.any, K.SP.any, K.SP.any, K.SP.any, K.SP.any, K.SP.any, K.SP.any, K.SP.any, K.SP.is (.bool (decide (-6 ≤ x) && decide (x ≤ 6)))] (by kernel_rfl) (by kernel_rfl) ?_
                      simp only [List.take_succ_cons, List.take_zero, List.drop_succ_cons, List.drop_zero]
                      apply K.x_pure
                      · rfl
                      · rfl
                      · intro w'; go_simp; first | done | exact K.vint (IntWalk.i64_in _ (by omega)) | rfl | exact ⟨rfl, rfl⟩
                      simp only [Act.put, List.setIfInBounds_toArray, List.set]
                      apply K.x_held
                      · rfl
                      · rfl
                      · intro w' hx; have hc := hx.all.1.1; have hf := hx.all.1.2; have hc' := hx.all.2.1; have hf' := hx.all.2.2; go_simp; first | done | rfl | exact ⟨rfl, rfl⟩
                      simp only [Act.put, List.setIfInBounds_toArray, List.set]
                      iterate 5
                        apply K.x_pure
                        · rfl
                        · rfl
                        · intro w'; go_simp; first | done | exact K.vint (IntWalk.i64_in _ (by omega)) | rfl | exact ⟨rfl, rfl⟩
                        simp only [Act.put, List.setIfInBounds_toArray, List.set]
                      apply K.x_held
                      · rfl
                      · rfl
                      · intro w' hx; have hc := hx.all.1.1; have hf := hx.all.1.2; have hc' := hx.all.2.1; have hf' := hx.all.2.2; go_simp; first | done | rfl | exact ⟨rfl, rfl⟩
                      simp only [Act.put, List.setIfInBounds_toArray, List.set]
                      iterate 8
                        apply K.x_pure
                        · rfl
                        · rfl
                        · intro w'; go_simp; first | done | exact K.vint (IntWalk.i64_in _ (by omega)) | rfl | exact ⟨rfl, rfl⟩
                        simp only [Act.put, List.setIfInBounds_toArray, List.set]
                      iterate 10
                        refine K.x_skip (by rfl) ?_
                        simp only [Act.put, List.setIfInBounds_toArray, List.set]
                      iterate 8
                        apply K.x_pure
                        · rfl
                        · rfl
                        · intro w'; go_simp; first | done | exact K.vint (IntWalk.i64_in _ (by omega)) | rfl | exact ⟨rfl, rfl⟩
                        simp only [Act.put, List.setIfInBounds_toArray, List.set]
                      apply K.x_call_is
                      · rfl
                      · rfl
                      · rfl
                      · intro w'; go_simp; first | done | rfl | exact ⟨rfl, rfl⟩
                      · intro w' hx hp; have hc := hx.all.1.1; have hf := hx.all.1.2; have hc' := hx.all.2.1; have hf' := hx.all.2.2; exact K.same_ext (within_any _ _ _ _)
                      intro w_34_ hx_34_
                      simp only [Act.put, List.setIfInBounds_toArray, List.set]
                      iterate 2
                        apply K.x_pure
                        · rfl
                        · rfl
                        · intro w'; go_simp; first | done | exact K.vint (IntWalk.i64_in _ (by omega)) | rfl | exact ⟨rfl, rfl⟩
                        simp only [Act.put, List.setIfInBounds_toArray, List.set]
                      apply K.x_done
                      intro w2 h_x
                      have hx2 := hx_34_.trans h_x
                      clear h_x hx_34_
                      obtain ⟨⟨hcw2, hfw2⟩, hc'w2, hf'w2⟩ := hx2.all
                      refine wpList_nil ?_
                      refine NoPanic.normal ?_
                      go_wp2
                      go_roundw
                      case rel => exact ⟨k + 1, by omega, by go_num, Z.hide (by rw [Z.range_all_succ, HP.out, show Z.okAt (Z.bs F.nm) F.pw k = true by rw [Z.okAt_of HB.out (m := 0) (fun h => absurd h hk0) HQ.out, a1, a2, k0, a4, a5]; rfl]; rfl), Z.hide (HX.out.trans (by repeat' (first | with_reducible exact K.Ext.refl _ | with_reducible assumption | with_reducible refine K.Ext.drew ?_ | with_reducible refine K.Ext.alloc ?_ _ | with_reducible refine K.Ext.setCell ?_ ?_ _ | with_reducible refine K.Ext.trans ?_ (by with_reducible assumption) | (dsimp only; omega) | omega | exact K.Ext.refl _ | assumption | apply K.Ext.drew | refine K.Ext.alloc ?_ _ | refine K.Ext.setCell ?_ ?_ _ | (simp; done) | (simp; omega) | refine K.Ext.trans ?_ (by assumption))))⟩
                      case measure => simp [intOf]; omega
                  ·
                    go_wp2_with fail
                    refine K.wp_region_x 37 [0, 1, 0, 0, 0, 0, 0, 1, 0, 0, 0, 0, 0, 0, 0, 0, 0, 1, 0, 0, 0, 1, 0, 0, 0, 0, 0, 0, 0, 0, 0, 0, 0, 0, 2, 0, 0] [K.SP.any, K.SP.any, K.SP.any, K.SP.any, K.SP.any, K.SP.any, K.SP.any, K.SP.any, K.SP.any, K.SP.any, K.SP.any, K.SP.any, K.SP.any, K.SP.any, K.SP.any, K.SP.any, K.SP.any, K.SP.any, K.SP.any, K.SP.any, K.SP.any, K.SP.any, K.SP.any, K.SP.any, K.SP.any, K.SP.any, K.SP.any, K.SP.any, K.SP.any, K.SP.any, K.SP.any, K.SP.any, K.SP.any, K.SP.any, K.SP.any] (by kernel_rfl) (by kernel_rfl) ?_
                    simp only [List.take_succ_cons, List.take_zero, List.drop_succ_cons, List.drop_zero]
                    apply K.x_pure
                    · rfl
                    · rfl
                    · intro w'; go_simp; first | done | exact K.vint (IntWalk.i64_in _ (by omega)) | rfl | exact ⟨rfl, rfl⟩
                    simp only [Act.put, List.setIfInBounds_toArray, List.set]
                    apply K.x_held
                    · rfl
                    · rfl
                    · intro w' hx; have hc := hx.all.1.1; have hf := hx.all.1.2; have hc' := hx.all.2.1; have hf' := hx.all.2.2; go_simp; first | done | rfl | exact ⟨rfl, rfl⟩
                    simp only [Act.put, List.setIfInBounds_toArray, List.set]
                    iterate 5
                      apply K.x_pure
                      · rfl
                      · rfl
                      · intro w'; go_simp; first | done | exact K.vint (IntWalk.i64_in _ (by omega)) | rfl | exact ⟨rfl, rfl⟩
                      simp only [Act.put, List.setIfInBounds_toArray, List.set]
                    apply K.x_held
                    · rfl
                    · rfl
                    · intro w' hx; have hc := hx.all.1.1; have hf := hx.all.1.2; have hc' := hx.all.2.1; have hf' := hx.all.2.2; go_simp; first | done | rfl | exact ⟨rfl, rfl⟩
                    simp only [Act.put, List.setIfInBounds_toArray, List.set]
                    iterate 8
                      apply K.x_pure
                      · rfl
                      · rfl
                      · intro w'; go_simp; first | done | exact K.vint (IntWalk.i64_in _ (by omega)) | rfl | exact ⟨rfl, rfl⟩
                      simp only [Act.put, List.setIfInBounds_toArray, List.set]
                    iterate 10
                      refine K.x_skip (by rfl) ?_
                      simp only [Act.put, List.setIfInBounds_toArray, List.set]
                    iterate 7
                      apply K.x_pure
                      · rfl
                      · rfl
                      · intro w'; go_simp; first | done | exact K.vint (IntWalk.i64_in _ (by omega)) | rfl | exact ⟨rfl, rfl⟩
                      simp only [Act.put, List.setIfInBounds_toArray, List.set]
                    iterate 3
                      refine K.x_skip (by rfl) ?_
                      simp only [Act.put, List.setIfInBounds_toArray, List.set]
                    apply K.x_pure
                    · rfl
                    · rfl
                    · intro w'; go_simp; first | done | exact K.vint (IntWalk.i64_in _ (by omega)) | rfl | exact ⟨rfl, rfl⟩
                    simp only [Act.put, List.setIfInBounds_toArray, List.set]
                    apply K.x_done
                    intro w2 h_x
                    have hx2 := K.Ext.id h_x
                    clear h_x
                    obtain ⟨⟨hcw2, hfw2⟩, hc'w2, hf'w2⟩ := hx2.all
                    refine wpList_nil ?_
                    refine NoPanic.normal ?_
                    go_wp2
                    go_ret
                    exact ⟨K.rb (by rw [HE.out, Z.range_all_bad _ _ k hlt (by rw [Z.okAt_of HB.out (m := 0) (fun h => absurd h hk0) HQ.out, a1, a2, k0, a4]; rfl)]), K.Ext.trans HW.out (HX.out.trans (by repeat' (first | with_reducible exact K.Ext.refl _ | with_reducible assumption | with_reducible refine K.Ext.drew ?_ | with_reducible refine K.Ext.alloc ?_ _ | with_reducible refine K.Ext.setCell ?_ ?_ _ | with_reducible refine K.Ext.trans ?_ (by with_reducible assumption) | (dsimp only; omega) | omega | exact K.Ext.refl _ | assumption | apply K.Ext.drew | refine K.Ext.alloc ?_ _ | refine K.Ext.setCell ?_ ?_ _ | (simp; done) | (simp; omega) | refine K.Ext.trans ?_ (by assumption))))⟩
              ·
                go_wp2_with fail
                refine K.wp_region_x 37 [0, 1, 0, 0, 0, 0, 0, 1, 0, 0, 0, 0, 0, 0, 0, 0, 0, 1, 0, 0, 0, 1, 0, 0, 0, 0, 0, 0, 0, 0, 0, 0, 0, 0, 2, 0, 0] [K.SP.any, K.SP.any, K.SP.any, K.SP.any, K.SP.any, K.SP.any, K.SP.any, K.SP.any, K.SP.any, K.SP.any, K.SP.any, K.SP.any, K.SP.any, K.SP.any, K.SP.any, K.SP.any, K.SP.any, K.SP.any, K.SP.any, K.SP.any, K.SP.any, K.SP.any, K.SP.any, K.SP.any, K.SP.any, K.SP.any, K.SP.any, K.SP.any, K.SP.any, K.SP.any, K.SP.any, K.SP.any, K.SP.any, K.SP.any, K.SP.any] (by kernel_rfl) (by kernel_rfl) ?_
                simp only [List.take_succ_cons, List.take_zero, List.drop_succ_cons, List.drop_zero]
                apply K.x_pure
                · rfl
                · rfl
                · intro w'; go_simp; first | done | exact K.vint (IntWalk.i64_in _ (by omega)) | rfl | exact ⟨rfl, rfl⟩
                simp only [Act.put, List.setIfInBounds_toArray, List.set]
                apply K.x_held
                · rfl
                · rfl
                · intro w' hx; have hc := hx.all.1.1; have hf := hx.all.1.2; have hc' := hx.all.2.1; have hf' := hx.all.2.2; go_simp; first | done | rfl | exact ⟨rfl, rfl⟩
                simp only [Act.put, List.setIfInBounds_toArray, List.set]
                iterate 5
                  apply K.x_pure
                  · rfl
                  · rfl
                  · intro w'; go_simp; first | done | exact K.vint (IntWalk.i64_in _ (by omega)) | rfl | exact ⟨rfl, rfl⟩
                  simp only [Act.put, List.setIfInBounds_toArray, List.set]
                apply K.x_held
                · rfl
                · rfl
                · intro w' hx; have hc := hx.all.1.1; have hf := hx.all.1.2; have hc' := hx.all.2.1; have hf' := hx.all.2.2; go_simp; first | done | rfl | exact ⟨rfl, rfl⟩
                simp only [Act.put, List.setIfInBounds_toArray, List.set]
                iterate 5
                  apply K.x_pure
                  · rfl
                  · rfl
                  · intro w'; go_simp; first | done | exact K.vint (IntWalk.i64_in _ (by omega)) | rfl | exact ⟨rfl, rfl⟩
                  simp only [Act.put, List.setIfInBounds_toArray, List.set]
                iterate 14
                  refine K.x_skip (by rfl) ?_
                  simp only [Act.put, List.setIfInBounds_toArray, List.set]
                iterate 2
                  apply K.x_pure
                  · rfl
                  · rfl
                  · intro w'; go_simp; first | done | exact K.vint (IntWalk.i64_in _ (by omega)) | rfl | exact ⟨rfl, rfl⟩
                  simp only [Act.put, List.setIfInBounds_toArray, List.set]
                iterate 2
                  refine K.x_skip (by rfl) ?_
                  simp only [Act.put, List.setIfInBounds_toArray, List.set]
                iterate 2
                  apply K.x_pure
                  · rfl
                  · rfl
                  · intro w'; go_simp; first | done | exact K.vint (IntWalk.i64_in _ (by omega)) | rfl | exact ⟨rfl, rfl⟩
                  simp only [Act.put, List.setIfInBounds_toArray, List.set]
                iterate 3
                  refine K.x_skip (by rfl) ?_
                  simp only [Act.put, List.setIfInBounds_toArray, List.set]
                apply K.x_pure
                · rfl
                · rfl
                · intro w'; go_simp; first | done | exact K.vint (IntWalk.i64_in _ (by omega)) | rfl | exact ⟨rfl, rfl⟩
                simp only [Act.put, List.setIfInBounds_toArray, List.set]
                apply K.x_done
                intro w2 h_x
                have hx2 := K.Ext.id h_x
                clear h_x
                obtain ⟨⟨hcw2, hfw2⟩, hc'w2, hf'w2⟩ := hx2.all
                refine wpList_nil ?_
                refine NoPanic.normal ?_
                go_wp2
                go_ret
                exact ⟨K.rb (by rw [HE.out, Z.range_all_bad _ _ k hlt (by rw [Z.okAt_of HB.out (fun _ => rfl) HQ.out, a1, a2]; rfl)]), K.Ext.trans HW.out (HX.out.trans (by repeat' (first | with_reducible exact K.Ext.refl _ | with_reducible assumption | with_reducible refine K.Ext.drew ?_ | with_reducible refine K.Ext.alloc ?_ _ | with_reducible refine K.Ext.setCell ?_ ?_ _ | with_reducible refine K.Ext.trans ?_ (by with_reducible assumption) | (dsimp only; omega) | omega | exact K.Ext.refl _ | assumption | apply K.Ext.drew | refine K.Ext.alloc ?_ _ | refine K.Ext.setCell ?_ ?_ _ | (simp; done) | (simp; omega) | refine K.Ext.trans ?_ (by assumption))))⟩
            ·
              go_wp2_with fail
              refine K.wp_region_x 37 [0, 1, 0, 0, 0, 0, 0, 1, 0, 0, 0, 0, 0, 0, 0, 0, 0, 1, 0, 0, 0, 1, 0, 0, 0, 0, 0, 0, 0, 0, 0, 0, 0, 0, 2, 0, 0] [K.SP.any, K.SP.any, K.SP.any, K.SP.any, K.SP.any, K.SP.any, K.SP.any, K.SP.any, K.SP.any, K.SP.any, K.SP.any, K.SP.any, K.SP.any, K.SP.any, K.SP.any, K.SP.any, K.SP.any, K.SP.any, K.SP.any, K.SP.any, K.SP.any, K.SP.any, K.SP.any, K.SP.any, K.SP.any, K.SP.any, K.SP.any, K.SP.any, K.SP.any, K.SP.any, K.SP.any, K.SP.any, K.SP.any, K.SP.any, K.SP.any] (by kernel_rfl) (by kernel_rfl) ?_
              simp only [List.take_succ_cons, List.take_zero, List.drop_succ_cons, List.drop_zero]
              apply K.x_pure
              · rfl
              · rfl
              · intro w'; go_simp; first | done | exact K.vint (IntWalk.i64_in _ (by omega)) | rfl | exact ⟨rfl, rfl⟩
              simp only [Act.put, List.setIfInBounds_toArray, List.set]
              apply K.x_held
              · rfl
              · rfl
              · intro w' hx; have hc := hx.all.1.1; have hf := hx.all.1.2; have hc' := hx.all.2.1; have hf' := hx.all.2.2; go_simp; first | done | rfl | exact ⟨rfl, rfl⟩
              simp only [Act.put, List.setIfInBounds_toArray, List.set]
              iterate 4
                apply K.x_pure
                · rfl
                · rfl
                · intro w'; go_simp; first | done | exact K.vint (IntWalk.i64_in _ (by omega)) | rfl | exact ⟨rfl, rfl⟩
                simp only [Act.put, List.setIfInBounds_toArray, List.set]
              iterate 5
                refine K.x_skip (by rfl) ?_
                simp only [Act.put, List.setIfInBounds_toArray, List.set]
              iterate 2
                apply K.x_pure
                · rfl
                · rfl
                · intro w'; go_simp; first | done | exact K.vint (IntWalk.i64_in _ (by omega)) | rfl | exact ⟨rfl, rfl⟩
                simp only [Act.put, List.setIfInBounds_toArray, List.set]
              iterate 14
                refine K.x_skip (by rfl) ?_
                simp only [Act.put, List.setIfInBounds_toArray, List.set]
              iterate 2
                apply K.x_pure
                · rfl
                · rfl
                · intro w'; go_simp; first | done | exact K.vint (IntWalk.i64_in _ (by omega)) | rfl | exact ⟨rfl, rfl⟩
                simp only [Act.put, List.setIfInBounds_toArray, List.set]
              iterate 2
                refine K.x_skip (by rfl) ?_
                simp only [Act.put, List.setIfInBounds_toArray, List.set]
              iterate 2
                apply K.x_pure
                · rfl
                · rfl
                · intro w'; go_simp; first | done | exact K.vint (IntWalk.i64_in _ (by omega)) | rfl | exact ⟨rfl, rfl⟩
                simp only [Act.put, List.setIfInBounds_toArray, List.set]
              iterate 3
                refine K.x_skip (by rfl) ?_
                simp only [Act.put, List.setIfInBounds_toArray, List.set]
              apply K.x_pure
              · rfl
              · rfl
              · intro w'; go_simp; first | done | exact K.vint (IntWalk.i64_in _ (by omega)) | rfl | exact ⟨rfl, rfl⟩
              simp only [Act.put, List.setIfInBounds_toArray, List.set]
              apply K.x_done
              intro w2 h_x
              have hx2 := K.Ext.id h_x
              clear h_x
              obtain ⟨⟨hcw2, hfw2⟩, hc'w2, hf'w2⟩ := hx2.all
              refine wpList_nil ?_
              refine NoPanic.normal ?_
              go_wp2
              go_ret
              exact ⟨K.rb (by rw [HE.out, Z.range_all_bad _ _ k hlt (by rw [Z.okAt_of HB.out (fun _ => rfl) HQ.out, a1]; rfl)]), K.Ext.trans HW.out (HX.out.trans (by repeat' (first | with_reducible exact K.Ext.refl _ | with_reducible assumption | with_reducible refine K.Ext.drew ?_ | with_reducible refine K.Ext.alloc ?_ _ | with_reducible refine K.Ext.setCell ?_ ?_ _ | with_reducible refine K.Ext.trans ?_ (by with_reducible assumption) | (dsimp only; omega) | omega | exact K.Ext.refl _ | assumption | apply K.Ext.drew | refine K.Ext.alloc ?_ _ | refine K.Ext.setCell ?_ ?_ _ | (simp; done) | (simp; omega) | refine K.Ext.trans ?_ (by assumption))))⟩
          · obtain rfl : k = F.nm.size := by omega
            have c_wr_0_0 : wr.cell? ⟨w.heap.size, 0, none⟩ = some (.int .i64 (F.dg)) := HX.out.cell_of (by go_simp); have f_wr_0_0 : wr.frozen? ⟨w.heap.size, 0, none⟩ = false := HX.out.thaw_of (by go_simp) (by go_simp); have c_wr_0_1 : wr.cell? ⟨w.heap.size, 1, none⟩ = some (.int .i64 (F.tn)) := HX.out.cell_of (by go_simp); have f_wr_0_1 : wr.frozen? ⟨w.heap.size, 1, none⟩ = false := HX.out.thaw_of (by go_simp) (by go_simp); have c_wr_0_2 : wr.cell? ⟨w.heap.size, 2, none⟩ = some (.string F.nm) := HX.out.cell_of (by go_simp); have f_wr_0_2 : wr.frozen? ⟨w.heap.size, 2, none⟩ = false := HX.out.thaw_of (by go_simp) (by go_simp); have c_wr_0_3 : wr.cell? ⟨w.heap.size, 3, none⟩ = some (.slice o F.pw.length cap) := HX.out.cell_of (by go_simp); have f_wr_0_3 : wr.frozen? ⟨w.heap.size, 3, none⟩ = false := HX.out.thaw_of (by go_simp) (by go_simp)
            have HW := Z.hide (show K.Ext w w1 from (by repeat' (first | with_reducible exact K.Ext.refl _ | with_reducible assumption | with_reducible refine K.Ext.drew ?_ | with_reducible refine K.Ext.alloc ?_ _ | with_reducible refine K.Ext.setCell ?_ ?_ _ | with_reducible refine K.Ext.trans ?_ (by with_reducible assumption) | (dsimp only; omega) | omega | exact K.Ext.refl _ | assumption | apply K.Ext.drew | refine K.Ext.alloc ?_ _ | refine K.Ext.setCell ?_ ?_ _ | (simp; done) | (simp; omega) | refine K.Ext.trans ?_ (by assumption))))
            have hlq : ¬ (F.nm.size < F.pw.length) := by rw [HL.out]; omega
            clear hh
            go_wp2
            go_ret
            exact ⟨K.rb (by rw [HE.out, HP.out]), HW.out.trans HX.out⟩
      · have HE : Hid (Z.isFormula F = false) := Z.hide (by unfold Z.isFormula; simp [hl])
        have hl1 : ((F.pw.length : Int) != F.nm.size) = true := by simp; omega
        clear hl
        go_enter Try.func33, Try.ntmps33
        go_wp2_with ((go_at_call 112; refine K.call (by with_reducible rfl) (by with_reducible rfl) (impl_IsFigure F.dg F.tn _) ?_; rintro e w1 ⟨rfl, hw1⟩; obtain ⟨hcw1, hfw1⟩ := hw1.facts); have c_w1_0_0 : w1.cell? ⟨w.heap.size, 0, none⟩ = some (.int .i64 (F.dg)) := hw1.cell_of (by go_simp); have f_w1_0_0 : w1.frozen? ⟨w.heap.size, 0, none⟩ = false := hw1.thaw_of (by go_simp) (by go_simp); have c_w1_0_1 : w1.cell? ⟨w.heap.size, 1, none⟩ = some (.int .i64 (F.tn)) := hw1.cell_of (by go_simp); have f_w1_0_1 : w1.frozen? ⟨w.heap.size, 1, none⟩ = false := hw1.thaw_of (by go_simp) (by go_simp); have c_w1_0_2 : w1.cell? ⟨w.heap.size, 2, none⟩ = some (.string F.nm) := hw1.cell_of (by go_simp); have f_w1_0_2 : w1.frozen? ⟨w.heap.size, 2, none⟩ = false := hw1.thaw_of (by go_simp) (by go_simp); have c_w1_0_3 : w1.cell? ⟨w.heap.size, 3, none⟩ = some (.slice o F.pw.length cap) := hw1.cell_of (by go_simp); have f_w1_0_3 : w1.frozen? ⟨w.heap.size, 3, none⟩ = false := hw1.thaw_of (by go_simp) (by go_simp))
        go_ret
        exact ⟨K.rb HE.out.symm, (by repeat' (first | with_reducible exact K.Ext.refl _ | with_reducible assumption | with_reducible refine K.Ext.drew ?_ | with_reducible refine K.Ext.alloc ?_ _ | with_reducible refine K.Ext.setCell ?_ ?_ _ | with_reducible refine K.Ext.trans ?_ (by with_reducible assumption) | (dsimp only; omega) | omega | exact K.Ext.refl _ | assumption | apply K.Ext.drew | refine K.Ext.alloc ?_ _ | refine K.Ext.setCell ?_ ?_ _ | (simp; done) | (simp; omega) | refine K.Ext.trans ?_ (by assumption)))⟩
    · have HE : Hid (Z.isFormula F = false) := Z.hide (by unfold Z.isFormula; simp [h6])
      go_enter Try.func33, Try.ntmps33
      go_wp2_with ((go_at_call 112; refine K.call (by with_reducible rfl) (by with_reducible rfl) (impl_IsFigure F.dg F.tn _) ?_; rintro e w1 ⟨rfl, hw1⟩; obtain ⟨hcw1, hfw1⟩ := hw1.facts); have c_w1_0_0 : w1.cell? ⟨w.heap.size, 0, none⟩ = some (.int .i64 (F.dg)) := hw1.cell_of (by go_simp); have f_w1_0_0 : w1.frozen? ⟨w.heap.size, 0, none⟩ = false := hw1.thaw_of (by go_simp) (by go_simp); have c_w1_0_1 : w1.cell? ⟨w.heap.size, 1, none⟩ = some (.int .i64 (F.tn)) := hw1.cell_of (by go_simp); have f_w1_0_1 : w1.frozen? ⟨w.heap.size, 1, none⟩ = false := hw1.thaw_of (by go_simp) (by go_simp); have c_w1_0_2 : w1.cell? ⟨w.heap.size, 2, none⟩ = some (.string F.nm) := hw1.cell_of (by go_simp); have f_w1_0_2 : w1.frozen? ⟨w.heap.size, 2, none⟩ = false := hw1.thaw_of (by go_simp) (by go_simp); have c_w1_0_3 : w1.cell? ⟨w.heap.size, 3, none⟩ = some (.slice o F.pw.length cap) := hw1.cell_of (by go_simp); have f_w1_0_3 : w1.frozen? ⟨w.heap.size, 3, none⟩ = false := hw1.thaw_of (by go_simp) (by go_simp))
      go_ret
      exact ⟨K.rb HE.out.symm, (by repeat' (first | with_reducible exact K.Ext.refl _ | with_reducible assumption | with_reducible refine K.Ext.drew ?_ | with_reducible refine K.Ext.alloc ?_ _ | with_reducible refine K.Ext.setCell ?_ ?_ _ | with_reducible refine K.Ext.trans ?_ (by with_reducible assumption) | (dsimp only; omega) | omega | exact K.Ext.refl _ | assumption | apply K.Ext.drew | refine K.Ext.alloc ?_ _ | refine K.Ext.setCell ?_ ?_ _ | (simp; done) | (simp; omega) | refine K.Ext.trans ?_ (by assumption)))⟩
end Go.Proofs.Ythmnlbgbacbocaa
end
section
namespace Go.K
open Go.RowKit
theorem set_block {w : World} {k : Nat} {a : Addr} {v : Value} (hne : k ≠ a.block) : (w.setCell a v).heap[k]? = w.heap[k]? := Below.heap_setCell _ _ _ _ hne
theorem push_str {S T : ByteArray} {l : List UInt8} {c : UInt8} (hS : S = ⟨l.toArray⟩) (hT : T = ⟨#[c]⟩) : S ++ T = ⟨(l ++ [c]).toArray⟩ := by
  subst hS hT
  apply ByteArray.ext
  rw [ByteArray.data_append]
  simp
end Go.K
namespace Go.Proofs.Ythmnlbgbacbocaa
open Go.RowKit
set_option maxRecDepth 100000 in
set_option maxHeartbeats 3200000 in
theorem madeOf_any (d t : Int) (f : Nat → Int) (g : Nat) (a1 a2 : Value) (w : World) (hg : ∀ (args : Array Value) (w' : World), (callFunc g args).run Try.prog w' = .ok (.enter g args) w')
    (hf : ∀ (i : Nat) (w' : World), i < 26 → K.Ext w w' → Calls Try.prog g #[.int .u8 (97 + (i : Int)), a1, a2] w' fun e w'' => e = .returned (.int .i64 (f i)) ∧ K.Ext w' w'') :
    Calls Try.prog 163 #[.agg #[.int .i64 d, .int .i64 t], .func (.func g) #[] #[a1, a2]] w fun e w' => (∃ p', e = .returned (.tuple #[.agg #[.int .i64 ((Z.madeOr d t f).1).dg, .int .i64 ((Z.madeOr d t f).1).tn, .string ((Z.madeOr d t f).1).nm, p'], .int .i64 (Z.madeOr d t f).2]) ∧ K.own w' w.heap.size w'.heap.size p' (Z.madeOr d t f).1.pw) ∧ K.Ext w w' := by
  have HF := Z.hide hf
  clear hf
  have I64 := Z.hide info_int
  go_enter Try.func163, Try.ntmps163
  go_wp2
  go_loopw [7] (fun nm wr => ∃ k : Nat, k ≤ 26 ∧ nm = .int .u8 (97 + (k : Int)) ∧ Hid (∃ pv, wr.heap[w.heap.size + 1 + 1]? = some (.cells #[.int .i64 d, .int .i64 t, .string ⟨(Z.mkB f k).toArray⟩, pv] 32) ∧ wr.ownsRow (w.heap.size + 3) 2 1 pv (Z.mkP f k).length ((Z.mkP f k).map (Value.int .i64))) ∧ Hid (K.Ext w wr) ∧ Hid (wr.heap[w.heap.size + 1]? = some (.cells #[.int .i64 0, .int .i64 0, .string ⟨#[]⟩, .slice none 0 0] 32))) (fun nm _ => 123 - (intOf nm).toNat)
  case atStart =>
    exact ⟨0, Nat.zero_le _, rfl, Z.hide ⟨_, K.block_new (by simp), World.ownsRow_nil _ _ _ _⟩, Z.hide (by repeat' (first | with_reducible exact K.Ext.refl _ | with_reducible assumption | with_reducible refine K.Ext.drew ?_ | with_reducible refine K.Ext.alloc ?_ _ | with_reducible refine K.Ext.setCell ?_ ?_ _ | with_reducible refine K.Ext.trans ?_ (by with_reducible assumption) | (dsimp only; omega) | omega | exact K.Ext.refl _ | assumption | apply K.Ext.drew | refine K.Ext.alloc ?_ _ | refine K.Ext.setCell ?_ ?_ _ | (simp; done) | (simp; omega) | refine K.Ext.trans ?_ (by assumption))), Z.hide (((K.Ext.refl _).alloc _).block (K.block_new (by simp)))⟩
  case round =>
    obtain ⟨k, hk, rfl, HO, HX, B1⟩ := hrel
    obtain ⟨pv, hb2, hrow⟩ := HO.out
    have B2 := Z.hide hb2
    have HP := Z.hide hrow
    clear hb2 hrow HO
    have k0 : (0 : Int) ≤ (k : Int) := Int.natCast_nonneg k
    by_cases hlt : k < 26
    · have k1 : (k : Int) < 26 := by omega
      have k2 : 97 + (k : Int) ≤ 122 := by omega
      have q1 : IntKind.u8.wrap (97 + (k : Int) + 1) = 97 + (k : Int) + 1 := IntWalk.u8_in _ (by omega)
      obtain ⟨S, HS⟩ : ∃ S : ByteArray, S = ⟨(Z.mkB f k).toArray⟩ := ⟨_, rfl⟩
      obtain ⟨T, HT⟩ : ∃ T : ByteArray, Hid (T = ⟨#[UInt8.ofNat (97 + (k : Int)).toNat]⟩) := ⟨_, Z.hide rfl⟩
      rw [← HS] at B2
      have HS' := Z.hide HS
      clear HS
      have ln := Z.hide (Z.mkP_le f k)
      by_cases hz : f k = 0
      · have e1 : Hid (Z.mkB f (k + 1) = Z.mkB f k) := Z.hide (by simp [Z.mkB, hz])
        have e2' : Hid (Z.mkP f (k + 1) = Z.mkP f k) := Z.hide (by simp [Z.mkP, hz])
        go_wp2_with (refine K.call (by with_reducible rfl) (by with_reducible rfl) (HF.out k wr hlt HX.out) ?_; rintro e w1 ⟨rfl, hx1⟩; have C2 := Z.hide (K.Ext.block_of B2.out hx1); have C1 := Z.hide (K.Ext.block_of B1.out hx1); have HX1 : Hid (K.Ext w w1) := Z.hide (HX.out.trans hx1); have HP1 := Z.hide (K.row_ext HP.out hx1); have lw : w.heap.size + 1 + 1 < w1.heap.size := (Array.getElem?_eq_some_iff.1 C2.out).1; have d2 : w1.cell? ⟨w.heap.size + 1 + 1, 2, none⟩ = some (.string S) := K.cell_at C2.out rfl; have d3 : w1.cell? ⟨w.heap.size + 1 + 1, 3, none⟩ = some pv := K.cell_at C2.out rfl; have e2 : w1.frozen? ⟨w.heap.size + 1 + 1, 2, none⟩ = false := K.thaw_at C2.out; have e3 : w1.frozen? ⟨w.heap.size + 1 + 1, 3, none⟩ = false := K.thaw_at C2.out; have hcv : (convert 22 9 (.slice (some ⟨w1.heap.size, 0, none⟩) 1 1)).run Try.prog (w1.alloc (.cells #[.int .u8 (97 + (k : Int))] 5)) = .ok (.string T) (w1.alloc (.cells #[.int .u8 (97 + (k : Int))] 5)) := (by rw [HT.out]; exact K.byte_str Try.underlying22 Try.underlying5 Try.underlying9 (by omega) (by omega) (K.block_new rfl)))
        go_roundw
        case rel => exact ⟨k + 1, by omega, by go_num, Z.hide ⟨pv, by rw [e1.out, ← HS'.out]; exact C2.out, by rw [e2'.out]; exact HP1.out⟩, HX1, C1⟩
        case measure => simp [intOf]; omega
      · have E1 := Z.hide (show Z.mkB f (k + 1) = Z.mkB f k ++ [UInt8.ofNat (97 + (k : Int)).toNat] by have h_ : (97 + (k : Int)).toNat = 97 + k := (by omega); rw [h_]; simp [Z.mkB, hz])
        have E2 := Z.hide (show Z.mkP f (k + 1) = Z.mkP f k ++ [f k] by simp [Z.mkP, hz])
        obtain ⟨np, hnp⟩ : ∃ np, np = (Z.mkP f k).length := ⟨_, rfl⟩
        have ln' : np ≤ k := by rw [hnp]; exact ln.out
        have hsz : ¬ (9223372036854775807 < S.size + T.size) := by
          have h1 : S.size = (Z.mkB f k).length := by rw [HS'.out]; rfl
          have h2 : T.size = 1 := by rw [HT.out]; rfl
          have h3 := Z.mk_len f k
          have h4 := ln.out
          omega
        obtain ⟨it0, hi0, hz0, hz1, hz2⟩ := info_parts I64.out
        have HPn := Z.hide hnp
        rw [← hnp] at HP
        clear hnp
        obtain ⟨x, hx⟩ : ∃ x, x = f k := ⟨_, rfl⟩
        have HK : ∀ w' : World, K.Ext w w' → Calls Try.prog g #[.int .u8 (97 + (k : Int)), a1, a2] w' fun e w'' => e = .returned (.int .i64 x) ∧ K.Ext w' w'' := fun w' h' => by rw [hx]; exact HF.out k w' hlt h'
        rw [← hx] at hz E2
        have HKh := Z.hide HK
        clear HK hx
        go_wp2_with (first | (refine K.call (by with_reducible rfl) (by with_reducible rfl) (HKh.out wr HX.out) ?_; rintro e w1 ⟨rfl, hx1⟩; have C2 := Z.hide (K.Ext.block_of B2.out hx1); have C1 := Z.hide (K.Ext.block_of B1.out hx1); have HX1 : Hid (K.Ext w w1) := Z.hide (HX.out.trans hx1); have HP1 := Z.hide (K.row_ext HP.out hx1); have lw : w.heap.size + 1 + 1 < w1.heap.size := (Array.getElem?_eq_some_iff.1 C2.out).1; have d2 : w1.cell? ⟨w.heap.size + 1 + 1, 2, none⟩ = some (.string S) := K.cell_at C2.out rfl; have d3 : w1.cell? ⟨w.heap.size + 1 + 1, 3, none⟩ = some pv := K.cell_at C2.out rfl; have e2 : w1.frozen? ⟨w.heap.size + 1 + 1, 2, none⟩ = false := K.thaw_at C2.out; have e3 : w1.frozen? ⟨w.heap.size + 1 + 1, 3, none⟩ = false := K.thaw_at C2.out; have hcv : (convert 22 9 (.slice (some ⟨w1.heap.size, 0, none⟩) 1 1)).run Try.prog (w1.alloc (.cells #[.int .u8 (97 + (k : Int))] 5)) = .ok (.string T) (w1.alloc (.cells #[.int .u8 (97 + (k : Int))] 5)) := (by rw [HT.out]; exact K.byte_str Try.underlying22 Try.underlying5 Try.underlying9 (by omega) (by omega) (K.block_new rfl))) | (at_builtin; refine wpList_append_lies _ rfl _ _ _ rfl (w.heap.size + 3) 2 it0 _ 1 8 Try.underlying24 hi0 hz0 hz1 hz2 rfl (by omega) pv np _ rfl (((ownsRow_setCell_other HP1.out (fun e => by have := (HP1.out.lt _ e).1; dsimp only at this; omega) _).alloc _).alloc _) ⟨w1.heap.size + 1, 0, none⟩ 1 1 [.int .i64 x] rfl rfl (World.news_of_block (cs := #[.int .i64 x]) (t := 2) (fr := (0, 0)) (K.block_new (by simp))) (by simp [Value.oneCell']) (by omega) (by unfold maxLen; omega) (by omega) (by simp; omega) (w1.heap.size + 1 + 1) (by simp) ?_; intro g2 gcap2 w2 hown2 hgrow2 hat2 hlt3; have HR2 : Hid (∀ g, pv.ownBlock = some g → w.heap.size + 3 ≤ g) := Z.hide (fun g hg => (HP1.out.lt g hg).1); have HP2 := Z.hide hown2; have HX2 : Hid (K.Ext w w2) := Z.hide ((((HX1.out.setCell (by dsimp only; omega) _).alloc _).alloc _).below.grown hgrow2 (by simp; omega) (fun g hg => by have := HR2.out g hg; omega)); have D2 : Hid (w2.heap[w.heap.size + 1 + 1]? = some (.cells #[.int .i64 d, .int .i64 t, .string (S ++ T), pv] 32)) := Z.hide (K.grown_block hgrow2 (K.Ext.block_of (Joins.block_setCell C2.out _) (((K.Ext.refl _).alloc _).alloc _)) (fun e => by have := HR2.out _ e.symm; omega)); have D1 : Hid (w2.heap[w.heap.size + 1]? = some (.cells #[.int .i64 0, .int .i64 0, .string ⟨#[]⟩, .slice none 0 0] 32)) := Z.hide (K.grown_block hgrow2 (K.Ext.block_of ((K.set_block (by dsimp only; omega)).trans C1.out) (((K.Ext.refl _).alloc _).alloc _)) (fun e => by have := HR2.out _ e.symm; omega)); have d3' : w2.cell? ⟨w.heap.size + 1 + 1, 3, none⟩ = some pv := K.cell_at D2.out rfl; have e3' : w2.frozen? ⟨w.heap.size + 1 + 1, 3, none⟩ = false := K.thaw_at D2.out; have lg2 := (HP2.out.lt g2 rfl).1; clear hown2 hgrow2 hat2))
        go_roundw
        case rel =>
          refine ⟨k + 1, by omega, by go_num, Z.hide ⟨.slice (some ⟨g2, 0, none⟩) (np + 1) gcap2, ?_, ?_⟩, Z.hide (HX2.out.setCell (by dsimp only; omega) _), Z.hide ((K.set_block (by dsimp only; omega)).trans D1.out)⟩
          · rw [E1.out, ← K.push_str HS'.out HT.out]; exact Joins.block_setCell D2.out _
          · rw [E2.out, List.map_append, List.map_singleton, List.length_append, List.length_singleton, ← HPn.out]; exact ownsRow_setCell_other HP2.out (by simp [Value.ownBlock]; omega) _
        case measure => simp [intOf]; omega
    · obtain rfl : k = 26 := by omega
      have c20 : wr.cell? ⟨w.heap.size + 1 + 1, 0, none⟩ = some (.int .i64 d) := K.cell_at B2.out rfl
      have c21 : wr.cell? ⟨w.heap.size + 1 + 1, 1, none⟩ = some (.int .i64 t) := K.cell_at B2.out rfl
      have c22 : wr.cell? ⟨w.heap.size + 1 + 1, 2, none⟩ = some (.string ⟨(Z.mkB f 26).toArray⟩) := K.cell_at B2.out rfl
      have HO := Z.hide (K.own_of_row HP.out)
      have hs := HO.out
      obtain ⟨os, cs, rfl, _⟩ := hs
      have c23 : wr.cell? ⟨w.heap.size + 1 + 1, 3, none⟩ = some (.slice os (Z.mkP f 26).length cs) := K.cell_at B2.out rfl
      have lb2 : w.heap.size + 1 + 1 < wr.heap.size := (Array.getElem?_eq_some_iff.1 B2.out).1
      have hle := Z.made_le d t f
      have HI : Calls Try.prog 33 #[.agg #[.int .i64 d, .int .i64 t, .string ⟨(Z.mkB f 26).toArray⟩, .slice os (Z.mkP f 26).length cs]] wr fun e w' => e = .returned (.bool (Z.isFormula (Z.made d t f 26))) ∧ K.Ext wr w' := impl_IsFormula (Z.made d t f 26) wr hle.1 hle.2 (K.own.ints HO.out)
      cases hv : Z.isFormula (Z.made d t f 26)
      · have HE : Hid (Z.madeOr d t f = (Z.zeroFm, 3)) := Z.hide (by unfold Z.madeOr; rw [hv]; rfl)
        rw [hv] at HI
        clear hle
        go_wp2_with (go_at_call 33; refine K.call (by with_reducible rfl) (by with_reducible rfl) HI ?_; rintro e w3 ⟨rfl, hx3⟩; have D1 := Z.hide (K.Ext.block_of B1.out hx3); have D2 := Z.hide (K.Ext.block_of B2.out hx3); have HO3 := Z.hide (K.own.ext HO.out hx3); have ls := hx3.size; have r0 : w3.cell? ⟨w.heap.size + 1, 0, none⟩ = some (.int .i64 0) := K.cell_at D1.out rfl; have t0 : w3.frozen? ⟨w.heap.size + 1, 0, none⟩ = false := K.thaw_at D1.out; have r1 : w3.cell? ⟨w.heap.size + 1, 1, none⟩ = some (.int .i64 0) := K.cell_at D1.out rfl; have t1 : w3.frozen? ⟨w.heap.size + 1, 1, none⟩ = false := K.thaw_at D1.out; have r2 : w3.cell? ⟨w.heap.size + 1, 2, none⟩ = some (.string ⟨#[]⟩) := K.cell_at D1.out rfl; have t2 : w3.frozen? ⟨w.heap.size + 1, 2, none⟩ = false := K.thaw_at D1.out; have r3 : w3.cell? ⟨w.heap.size + 1, 3, none⟩ = some (.slice none 0 0) := K.cell_at D1.out rfl; have t3 : w3.frozen? ⟨w.heap.size + 1, 3, none⟩ = false := K.thaw_at D1.out; have v0 : w3.cell? ⟨w.heap.size + 1 + 1, 0, none⟩ = some (.int .i64 d) := K.cell_at D2.out rfl; have v1 : w3.cell? ⟨w.heap.size + 1 + 1, 1, none⟩ = some (.int .i64 t) := K.cell_at D2.out rfl; have v2 : w3.cell? ⟨w.heap.size + 1 + 1, 2, none⟩ = some (.string ⟨(Z.mkB f 26).toArray⟩) := K.cell_at D2.out rfl; have v3 : w3.cell? ⟨w.heap.size + 1 + 1, 3, none⟩ = some (.slice os (Z.mkP f 26).length cs) := K.cell_at D2.out rfl)
        rw [HE.out]
        refine bodyPost_ret (v := .tuple #[.agg #[.int .i64 0, .int .i64 0, .string ⟨#[]⟩, .slice none 0 0], .int .i64 3]) (by unfold results; rw [Try.results163]; go_simp) rfl ⟨⟨_, rfl, K.own_nil _ _ _⟩, ?_⟩
        repeat with_reducible refine K.Ext.setCell ?_ (by dsimp only; omega) _
        exact HX.out.trans hx3
      · have HE : Hid (Z.madeOr d t f = (Z.made d t f 26, 0)) := Z.hide (by unfold Z.madeOr; rw [hv]; rfl)
        rw [hv] at HI
        clear hle
        go_wp2_with (go_at_call 33; refine K.call (by with_reducible rfl) (by with_reducible rfl) HI ?_; rintro e w3 ⟨rfl, hx3⟩; have D1 := Z.hide (K.Ext.block_of B1.out hx3); have D2 := Z.hide (K.Ext.block_of B2.out hx3); have HO3 := Z.hide (K.own.ext HO.out hx3); have ls := hx3.size; have r0 : w3.cell? ⟨w.heap.size + 1, 0, none⟩ = some (.int .i64 0) := K.cell_at D1.out rfl; have t0 : w3.frozen? ⟨w.heap.size + 1, 0, none⟩ = false := K.thaw_at D1.out; have r1 : w3.cell? ⟨w.heap.size + 1, 1, none⟩ = some (.int .i64 0) := K.cell_at D1.out rfl; have t1 : w3.frozen? ⟨w.heap.size + 1, 1, none⟩ = false := K.thaw_at D1.out; have r2 : w3.cell? ⟨w.heap.size + 1, 2, none⟩ = some (.string ⟨#[]⟩) := K.cell_at D1.out rfl; have t2 : w3.frozen? ⟨w.heap.size + 1, 2, none⟩ = false := K.thaw_at D1.out; have r3 : w3.cell? ⟨w.heap.size + 1, 3, none⟩ = some (.slice none 0 0) := K.cell_at D1.out rfl; have t3 : w3.frozen? ⟨w.heap.size + 1, 3, none⟩ = false := K.thaw_at D1.out; have v0 : w3.cell? ⟨w.heap.size + 1 + 1, 0, none⟩ = some (.int .i64 d) := K.cell_at D2.out rfl; have v1 : w3.cell? ⟨w.heap.size + 1 + 1, 1, none⟩ = some (.int .i64 t) := K.cell_at D2.out rfl; have v2 : w3.cell? ⟨w.heap.size + 1 + 1, 2, none⟩ = some (.string ⟨(Z.mkB f 26).toArray⟩) := K.cell_at D2.out rfl; have v3 : w3.cell? ⟨w.heap.size + 1 + 1, 3, none⟩ = some (.slice os (Z.mkP f 26).length cs) := K.cell_at D2.out rfl)
        rw [HE.out]
        refine bodyPost_ret (v := .tuple #[.agg #[.int .i64 d, .int .i64 t, .string ⟨(Z.mkB f 26).toArray⟩, .slice os (Z.mkP f 26).length cs], .int .i64 0]) (by unfold results; rw [Try.results163]; go_simp) rfl ⟨⟨_, rfl, ?_⟩, ?_⟩
        · refine K.own.mono (lo := w.heap.size + 3) (hi := wr.heap.size) ?_ (by omega) (by simp; omega)
          repeat with_reducible refine K.own.set ?_ _ (.inl (by dsimp only; omega)) _
          exact HO3.out
        · repeat with_reducible refine K.Ext.setCell ?_ (by dsimp only; omega) _
          exact HX.out.trans hx3
end Go.Proofs.Ythmnlbgbacbocaa
end
section
namespace Go.Proofs.Ythmnlbgbacbocaa
open Go.RowKit
set_option maxHeartbeats 6400000 in
theorem logarithm_any (x : Int) (w : World) (x1 : 100000000 ≤ x) (x2 : x < 1000000000) :
    Calls Try.prog 183 #[.int .i64 x] w fun e w' => e = .returned (.agg #[.int .i64 (Z.logOf x).1, .int .i64 (Z.logOf x).2]) ∧ K.Ext w w' := by
  have HE : Hid (Z.logOf x = ((Z.itL x 20).2, (Z.itH x 20).2 + 1)) := Z.hide rfl
  go_enter Try.func183, Try.ntmps183
  go_wp2
  go_loopw [3, 4, 9] (fun l h i wr => ∃ k : Nat, k ≤ 20 ∧ i = .int .i64 k ∧ l = .int .i64 (Z.itL x k).1 ∧ h = .int .i64 (Z.itH x k).1 ∧ Hid (wr.heap[w.heap.size]? = some (.cells #[.int .i64 0, .int .i64 0] 73)) ∧ Hid (wr.heap[w.heap.size + 1]? = some (.cells #[.int .i64 (Z.itL x k).2, .int .i64 (Z.itH x k).2] 73)) ∧ Hid (K.Ext w wr)) (fun _ _ i _ => 20 - (intOf i).toNat)
  case atStart => exact ⟨0, Nat.zero_le _, rfl, rfl, rfl, Z.hide (((K.Ext.refl _).alloc _).block (K.block_new rfl)), Z.hide (K.block_new (by simp)), Z.hide (by repeat' (first | with_reducible exact K.Ext.refl _ | with_reducible assumption | with_reducible refine K.Ext.drew ?_ | with_reducible refine K.Ext.alloc ?_ _ | with_reducible refine K.Ext.setCell ?_ ?_ _ | with_reducible refine K.Ext.trans ?_ (by with_reducible assumption) | (dsimp only; omega) | omega | exact K.Ext.refl _ | assumption | apply K.Ext.drew | refine K.Ext.alloc ?_ _ | refine K.Ext.setCell ?_ ?_ _ | (simp; done) | (simp; omega) | refine K.Ext.trans ?_ (by assumption)))⟩
  case round =>
    obtain ⟨k, hk, rfl, rfl, rfl, B0, B1, HX⟩ := hrel
    have k0 : (0 : Int) ≤ (k : Int) := Int.natCast_nonneg k
    have lw : w.heap.size + 1 < wr.heap.size := (Array.getElem?_eq_some_iff.1 B1.out).1
    have n1 : ¬ (w.heap.size = w.heap.size + 1) := by omega
    by_cases hlt : k < 20
    · have k1 : (k : Int) < 20 := by omega
      obtain ⟨⟨l1, l2⟩, l3, l4⟩ := Z.itL_bd x1 x2 k
      obtain ⟨⟨h1, h2⟩, h3, h4⟩ := Z.itH_bd x1 x2 k
      have hb := Z.b2_mono (show k ≤ 20 by omega)
      rw [Z.b2_20] at hb
      obtain ⟨p, hp⟩ : ∃ p, p = Z.itL x k := ⟨_, rfl⟩
      obtain ⟨q, hq⟩ : ∃ q, q = Z.itH x k := ⟨_, rfl⟩
      have SL : Hid (Z.itL x (k + 1) = Z.stepL p) := Z.hide (by rw [hp]; rfl)
      have SH : Hid (Z.itH x (k + 1) = Z.stepH q) := Z.hide (by rw [hq]; rfl)
      rw [← hp] at l1 l2 l3 l4 B1 ⊢
      rw [← hq] at h1 h2 h3 h4 B1 ⊢
      clear hp hq
      have c0 : wr.cell? ⟨w.heap.size + 1, 0, none⟩ = some (.int .i64 p.2) := K.cell_at B1.out rfl
      have c1 : wr.cell? ⟨w.heap.size + 1, 1, none⟩ = some (.int .i64 q.2) := K.cell_at B1.out rfl
      have f0 : wr.frozen? ⟨w.heap.size + 1, 0, none⟩ = false := K.thaw_at B1.out
      have f1 : wr.frozen? ⟨w.heap.size + 1, 1, none⟩ = false := K.thaw_at B1.out
      obtain ⟨a1, a2⟩ := Z.sq_bd l1 (by omega)
      obtain ⟨b1, b2⟩ := Z.sq_bd h1 h2
      have q1 : IntKind.i64.wrap (p.1 * p.1) = p.1 * p.1 := IntWalk.i64_in _ (by omega)
      have q2 : IntKind.i64.wrap (q.1 * q.1) = q.1 * q.1 := IntWalk.i64_in _ (by omega)
      obtain ⟨y, hy⟩ : ∃ y, y = Z.fl (p.1 * p.1) 100000000 := ⟨_, rfl⟩
      obtain ⟨z, hz⟩ : ∃ z, z = Z.cl (q.1 * q.1) 100000000 := ⟨_, rfl⟩
      have D1 : Hid (∀ w : World, Calls Try.prog 185 #[.int .i64 (p.1 * p.1), .int .i64 100000000] w fun e w' => e = .returned (.int .i64 y) ∧ w = w') := Z.hide (fun w => by rw [hy]; exact down_any _ _ w (by decide) (by omega) (by omega))
      have U1 : Hid (∀ w : World, Calls Try.prog 186 #[.int .i64 (q.1 * q.1), .int .i64 100000000] w fun e w' => e = .returned (.int .i64 z) ∧ w = w') := Z.hide (fun w => by rw [hz]; exact up_any _ _ w (by decide) (by omega) (by omega))
      have y1 : 0 ≤ y ∧ y ≤ 100000000000000000 := by rw [hy]; have := Z.fl_spec (p.1 * p.1) 100000000 (by decide); omega
      have z1 : 0 ≤ z ∧ z ≤ 100000000000000000 := by rw [hz]; have := Z.fl_spec (-(q.1 * q.1)) 100000000 (by decide); unfold Z.cl; omega
      have D2 : Hid (∀ w : World, Calls Try.prog 185 #[.int .i64 y, .int .i64 10] w fun e w' => e = .returned (.int .i64 (Z.fl y 10)) ∧ w = w') := Z.hide (fun w => down_any _ _ w (by decide) (by omega) (by omega))
      have U2 : Hid (∀ w : World, Calls Try.prog 186 #[.int .i64 z, .int .i64 10] w fun e w' => e = .returned (.int .i64 (Z.cl z 10)) ∧ w = w') := Z.hide (fun w => up_any _ _ w (by decide) (by omega) (by omega))
      obtain ⟨y2, hy2⟩ : ∃ u, u = Z.fl y 10 := ⟨_, rfl⟩
      obtain ⟨z2, hz2⟩ : ∃ u, u = Z.cl z 10 := ⟨_, rfl⟩
      rw [← hy2] at D2
      rw [← hz2] at U2
      have TL : Hid (Z.stepL p = if 1000000000 ≤ y then (y2, p.2 * 2 + 1) else (y, p.2 * 2)) := Z.hide (by unfold Z.stepL; rw [← hy, ← hy2])
      have TH : Hid (Z.stepH q = if 1000000000 ≤ z then (z2, q.2 * 2 + 1) else (z, q.2 * 2)) := Z.hide (by unfold Z.stepH; rw [← hz, ← hz2])
      obtain ⟨y1a, y1b⟩ := y1
      obtain ⟨z1a, z1b⟩ := z1
      have p2b : p.2 ≤ 1048576 := by omega
      have q2b : q.2 ≤ 1048576 := by omega
      clear hy hz hy2 hz2 hb l4 h4 a1 a2 b1 b2 l1 l2 h1 h2
      by_cases cy : 1000000000 ≤ y
      · rw [if_pos cy] at TL
        by_cases cz : 1000000000 ≤ z
        · rw [if_pos cz] at TH
          go_wp2_with (first | (go_at_call 185; refine K.call (by with_reducible rfl) (by with_reducible rfl) (D1.out _) ?_; rintro e w' ⟨rfl, rfl⟩) | (go_at_call 185; refine K.call (by with_reducible rfl) (by with_reducible rfl) (D2.out _) ?_; rintro e w' ⟨rfl, rfl⟩) | (go_at_call 186; refine K.call (by with_reducible rfl) (by with_reducible rfl) (U1.out _) ?_; rintro e w' ⟨rfl, rfl⟩) | (go_at_call 186; refine K.call (by with_reducible rfl) (by with_reducible rfl) (U2.out _) ?_; rintro e w' ⟨rfl, rfl⟩))
          go_roundw
          case rel =>
            refine ⟨k + 1, by omega, by go_num, by rw [SL.out, TL.out], by rw [SH.out, TH.out], Z.hide ?_, Z.hide ?_, Z.hide ?_⟩
            · iterate 4 with_reducible refine Eq.trans (K.set_block (by dsimp only; omega)) ?_
              exact B0.out
            · rw [SL.out, TL.out, SH.out, TH.out]
              exact Joins.block_setCell (Joins.block_setCell (Joins.block_setCell (Joins.block_setCell B1.out _) _) _) _
            · iterate 4 with_reducible refine K.Ext.setCell ?_ (by dsimp only; omega) _
              exact HX.out
          case measure => simp [intOf]; omega
        · rw [if_neg cz] at TH
          go_wp2_with (first | (go_at_call 185; refine K.call (by with_reducible rfl) (by with_reducible rfl) (D1.out _) ?_; rintro e w' ⟨rfl, rfl⟩) | (go_at_call 185; refine K.call (by with_reducible rfl) (by with_reducible rfl) (D2.out _) ?_; rintro e w' ⟨rfl, rfl⟩) | (go_at_call 186; refine K.call (by with_reducible rfl) (by with_reducible rfl) (U1.out _) ?_; rintro e w' ⟨rfl, rfl⟩) | (go_at_call 186; refine K.call (by with_reducible rfl) (by with_reducible rfl) (U2.out _) ?_; rintro e w' ⟨rfl, rfl⟩))
          go_roundw
          case rel =>
            refine ⟨k + 1, by omega, by go_num, by rw [SL.out, TL.out], by rw [SH.out, TH.out], Z.hide ?_, Z.hide ?_, Z.hide ?_⟩
            · iterate 3 with_reducible refine Eq.trans (K.set_block (by dsimp only; omega)) ?_
              exact B0.out
            · rw [SL.out, TL.out, SH.out, TH.out]
              exact Joins.block_setCell (Joins.block_setCell (Joins.block_setCell B1.out _) _) _
            · iterate 3 with_reducible refine K.Ext.setCell ?_ (by dsimp only; omega) _
              exact HX.out
          case measure => simp [intOf]; omega
      · rw [if_neg cy] at TL
        by_cases cz : 1000000000 ≤ z
        · rw [if_pos cz] at TH
          go_wp2_with (first | (go_at_call 185; refine K.call (by with_reducible rfl) (by with_reducible rfl) (D1.out _) ?_; rintro e w' ⟨rfl, rfl⟩) | (go_at_call 185; refine K.call (by with_reducible rfl) (by with_reducible rfl) (D2.out _) ?_; rintro e w' ⟨rfl, rfl⟩) | (go_at_call 186; refine K.call (by with_reducible rfl) (by with_reducible rfl) (U1.out _) ?_; rintro e w' ⟨rfl, rfl⟩) | (go_at_call 186; refine K.call (by with_reducible rfl) (by with_reducible rfl) (U2.out _) ?_; rintro e w' ⟨rfl, rfl⟩))
          go_roundw
          case rel =>
            refine ⟨k + 1, by omega, by go_num, by rw [SL.out, TL.out], by rw [SH.out, TH.out], Z.hide ?_, Z.hide ?_, Z.hide ?_⟩
            · iterate 3 with_reducible refine Eq.trans (K.set_block (by dsimp only; omega)) ?_
              exact B0.out
            · rw [SL.out, TL.out, SH.out, TH.out]
              exact Joins.block_setCell (Joins.block_setCell (Joins.block_setCell B1.out _) _) _
            · iterate 3 with_reducible refine K.Ext.setCell ?_ (by dsimp only; omega) _
              exact HX.out
          case measure => simp [intOf]; omega
        · rw [if_neg cz] at TH
          go_wp2_with (first | (go_at_call 185; refine K.call (by with_reducible rfl) (by with_reducible rfl) (D1.out _) ?_; rintro e w' ⟨rfl, rfl⟩) | (go_at_call 185; refine K.call (by with_reducible rfl) (by with_reducible rfl) (D2.out _) ?_; rintro e w' ⟨rfl, rfl⟩) | (go_at_call 186; refine K.call (by with_reducible rfl) (by with_reducible rfl) (U1.out _) ?_; rintro e w' ⟨rfl, rfl⟩) | (go_at_call 186; refine K.call (by with_reducible rfl) (by with_reducible rfl) (U2.out _) ?_; rintro e w' ⟨rfl, rfl⟩))
          go_roundw
          case rel =>
            refine ⟨k + 1, by omega, by go_num, by rw [SL.out, TL.out], by rw [SH.out, TH.out], Z.hide ?_, Z.hide ?_, Z.hide ?_⟩
            · iterate 2 with_reducible refine Eq.trans (K.set_block (by dsimp only; omega)) ?_
              exact B0.out
            · rw [SL.out, TL.out, SH.out, TH.out]
              exact Joins.block_setCell (Joins.block_setCell B1.out _) _
            · iterate 2 with_reducible refine K.Ext.setCell ?_ (by dsimp only; omega) _
              exact HX.out
          case measure => simp [intOf]; omega
    · obtain rfl : k = 20 := by omega
      have l3 := (Z.itL_bd x1 x2 20).2
      have h3 := (Z.itH_bd x1 x2 20).2
      rw [Z.b2_20] at l3 h3
      generalize Z.itL x 20 = p at *
      generalize Z.itH x 20 = q at *
      have c0 : wr.cell? ⟨w.heap.size + 1, 0, none⟩ = some (.int .i64 p.2) := K.cell_at B1.out rfl
      have c1 : wr.cell? ⟨w.heap.size + 1, 1, none⟩ = some (.int .i64 q.2) := K.cell_at B1.out rfl
      have f1 : wr.frozen? ⟨w.heap.size + 1, 1, none⟩ = false := K.thaw_at B1.out
      have d0 : wr.cell? ⟨w.heap.size, 0, none⟩ = some (.int .i64 0) := K.cell_at B0.out rfl
      have d1 : wr.cell? ⟨w.heap.size, 1, none⟩ = some (.int .i64 0) := K.cell_at B0.out rfl
      have g0 : wr.frozen? ⟨w.heap.size, 0, none⟩ = false := K.thaw_at B0.out
      have g1 : wr.frozen? ⟨w.heap.size, 1, none⟩ = false := K.thaw_at B0.out
      obtain ⟨h3a, h3b⟩ := h3
      go_wp2
      rw [HE.out]
      refine bodyPost_ret (v := .agg #[.int .i64 p.2, .int .i64 (q.2 + 1)]) (by unfold results; rw [Try.results183]; go_simp) rfl ⟨rfl, ?_⟩
      repeat with_reducible refine K.Ext.setCell ?_ (by dsimp only; omega) _
      exact HX.out
set_option maxHeartbeats 3200000 in
theorem l03Bits_low (x : Int) (w : World) (x1 : 100000000 ≤ x) (x2 : x < 1000000000) :
    Calls Try.prog 208 #[.int .i64 x, .bool false] w fun e w' => e = .returned (.int .i64 (Z.itL x 20).2) ∧ w = w' := by
  go_enter Try.func208, Try.ntmps208
  go_wp2
  go_loop [0, 5, 6] (fun l n i => ∃ k : Nat, k ≤ 20 ∧ i = .int .i64 k ∧ l = .int .i64 (Z.itL x k).1 ∧ n = .int .i64 (Z.itL x k).2) (fun _ _ i => 20 - (intOf i).toNat)
  case atStart => exact ⟨0, Nat.zero_le _, rfl, rfl, rfl⟩
  case round =>
    obtain ⟨k, hk, rfl, rfl, rfl⟩ := hrel
    have k0 : (0 : Int) ≤ (k : Int) := Int.natCast_nonneg k
    by_cases hlt : k < 20
    · have k1 : (k : Int) < 20 := by omega
      obtain ⟨⟨l1, l2⟩, l3, l4⟩ := Z.itL_bd x1 x2 k
      have hb := Z.b2_mono (show k ≤ 20 by omega)
      rw [Z.b2_20] at hb
      obtain ⟨p, hp⟩ : ∃ p, p = Z.itL x k := ⟨_, rfl⟩
      have SL : Hid (Z.itL x (k + 1) = Z.stepL p) := Z.hide (by rw [hp]; rfl)
      rw [← hp] at l1 l2 l3 l4 ⊢
      clear hp
      obtain ⟨a1, a2⟩ := Z.sq_bd l1 (by omega)
      have q1 : IntKind.i64.wrap (p.1 * p.1) = p.1 * p.1 := IntWalk.i64_in _ (by omega)
      have TL : Hid (Z.stepL p = if 1000000000 ≤ (p.1 * p.1) / 100000000 then ((p.1 * p.1) / 100000000 / 10, p.2 * 2 + 1) else ((p.1 * p.1) / 100000000, p.2 * 2)) := Z.hide (by unfold Z.stepL; rw [Z.fl_eq_ediv _ _ (by decide), Z.fl_eq_ediv _ _ (by decide)])
      have p2b : p.2 ≤ 1048576 := by omega
      obtain ⟨s, hs⟩ : ∃ s, s = p.1 * p.1 := ⟨_, rfl⟩
      rw [← hs] at q1 TL a1 a2
      have y0 : 0 ≤ s / 100000000 := by omega
      have y1 : s / 100000000 ≤ 10000000000 := by omega
      have s0 : 0 ≤ s := by omega
      clear hb l4 l1 l2
      have HSs := Z.hide hs
      by_cases cy : 1000000000 ≤ s / 100000000
      all_goals
        first | rw [if_pos cy] at TL | rw [if_neg cy] at TL
        rw [HSs.out] at q1
        go_wp2
        go_round
        case rel => exact ⟨k + 1, by omega, by go_num, by rw [SL.out, TL.out, HSs.out], by rw [SL.out, TL.out]; exact K.vint (by omega)⟩
        case measure => simp [intOf]; omega
    · obtain rfl : k = 20 := by omega
      obtain ⟨p, hp⟩ : ∃ p, p = Z.itL x 20 := ⟨_, rfl⟩
      rw [← hp]
      have HPp := Z.hide hp
      clear hp
      go_wp2
      go_ret
      exact ⟨K.ri (by rw [HPp.out]), rfl⟩
set_option maxHeartbeats 3200000 in
theorem l03Bits_high (x : Int) (w : World) (x1 : 100000000 ≤ x) (x2 : x < 1000000000) :
    Calls Try.prog 208 #[.int .i64 x, .bool true] w fun e w' => e = .returned (.int .i64 (Z.itH x 20).2) ∧ w = w' := by
  go_enter Try.func208, Try.ntmps208
  go_wp2
  go_loop [0, 5, 6] (fun l n i => ∃ k : Nat, k ≤ 20 ∧ i = .int .i64 k ∧ l = .int .i64 (Z.itH x k).1 ∧ n = .int .i64 (Z.itH x k).2) (fun _ _ i => 20 - (intOf i).toNat)
  case atStart => exact ⟨0, Nat.zero_le _, rfl, rfl, rfl⟩
  case round =>
    obtain ⟨k, hk, rfl, rfl, rfl⟩ := hrel
    have k0 : (0 : Int) ≤ (k : Int) := Int.natCast_nonneg k
    by_cases hlt : k < 20
    · have k1 : (k : Int) < 20 := by omega
      obtain ⟨⟨h1, h2⟩, h3, h4⟩ := Z.itH_bd x1 x2 k
      have hb := Z.b2_mono (show k ≤ 20 by omega)
      rw [Z.b2_20] at hb
      obtain ⟨q, hq⟩ : ∃ q, q = Z.itH x k := ⟨_, rfl⟩
      have SH : Hid (Z.itH x (k + 1) = Z.stepH q) := Z.hide (by rw [hq]; rfl)
      rw [← hq] at h1 h2 h3 h4 ⊢
      clear hq
      obtain ⟨b1, b2⟩ := Z.sq_bd h1 h2
      have q2 : IntKind.i64.wrap (q.1 * q.1) = q.1 * q.1 := IntWalk.i64_in _ (by omega)
      obtain ⟨z, hz⟩ : ∃ z, z = Z.cl (q.1 * q.1) 100000000 := ⟨_, rfl⟩
      have U1 : Hid (∀ w : World, Calls Try.prog 199 #[.int .i64 (q.1 * q.1), .int .i64 100000000] w fun e w' => e = .returned (.int .i64 z) ∧ w = w') := Z.hide (fun w => by rw [hz]; exact l01Ceil_any _ _ w (by decide) (by omega) (by omega) (by decide) (by decide))
      have z1 : 0 ≤ z ∧ z ≤ 100000000000000000 := by rw [hz]; have := Z.fl_spec (-(q.1 * q.1)) 100000000 (by decide); unfold Z.cl; omega
      have U2 : Hid (∀ w : World, Calls Try.prog 199 #[.int .i64 z, .int .i64 10] w fun e w' => e = .returned (.int .i64 (Z.cl z 10)) ∧ w = w') := Z.hide (fun w => l01Ceil_any _ _ w (by decide) (by omega) (by omega) (by decide) (by decide))
      obtain ⟨z2, hz2⟩ : ∃ u, u = Z.cl z 10 := ⟨_, rfl⟩
      rw [← hz2] at U2
      have TH : Hid (Z.stepH q = if 1000000000 ≤ z then (z2, q.2 * 2 + 1) else (z, q.2 * 2)) := Z.hide (by unfold Z.stepH; rw [← hz, ← hz2])
      obtain ⟨z1a, z1b⟩ := z1
      have q2b : q.2 ≤ 1048576 := by omega
      clear hz hz2 hb h4 b1 b2 h1 h2
      by_cases cz : 1000000000 ≤ z
      all_goals
        first | rw [if_pos cz] at TH | rw [if_neg cz] at TH
        go_wp2_with (first | (go_at_call 199; refine K.call (by with_reducible rfl) (by with_reducible rfl) (U1.out _) ?_; rintro e w' ⟨rfl, rfl⟩) | (go_at_call 199; refine K.call (by with_reducible rfl) (by with_reducible rfl) (U2.out _) ?_; rintro e w' ⟨rfl, rfl⟩))
        go_round
        case rel => exact ⟨k + 1, by omega, by go_num, by rw [SH.out, TH.out], by rw [SH.out, TH.out]; exact K.vint (by omega)⟩
        case measure => simp [intOf]; omega
    · obtain rfl : k = 20 := by omega
      obtain ⟨p, hp⟩ : ∃ p, p = Z.itH x 20 := ⟨_, rfl⟩
      rw [← hp]
      have HPp := Z.hide hp
      clear hp
      go_wp2
      go_ret
      exact ⟨K.ri (by rw [HPp.out]), rfl⟩
end Go.Proofs.Ythmnlbgbacbocaa
end
section
namespace Go.Proofs.Ythmnlbgbacbocaa
open Go.RowKit
set_option maxHeartbeats 3200000 in
theorem impl_MultiplyFigures (a b : Int × Int) (w : World) :
    Calls Try.prog 162 #[.agg #[.int .i64 a.1, .int .i64 a.2], .agg #[.int .i64 b.1, .int .i64 b.2]] w fun e w' => e = .returned (.tuple #[.agg #[.int .i64 (Z.MultiplyFigures a b).1.1, .int .i64 (Z.MultiplyFigures a b).1.2], .int .i64 (Z.MultiplyFigures a b).2]) ∧ K.Ext w w' := by
  cases hf : (Z.isFig a.1 a.2 && Z.isFig b.1 b.2)
  · have HE : Hid (Z.MultiplyFigures a b = ((0, 0), 1)) := Z.hide (by unfold Z.MultiplyFigures; rw [hf]; rfl)
    go_enter Try.func162, Try.ntmps162
    go_wp2_with ((go_at_call 141; refine K.call (by with_reducible rfl) (by with_reducible rfl) (areTwo_new a b _ _ (by simp)) ?_; rintro e w1 ⟨rfl, hw1⟩; obtain ⟨hcw1, hfw1⟩ := hw1.facts); have c_w1_0_0 : w1.cell? ⟨w.heap.size, 0, none⟩ = some (.int .i64 (a.1)) := hw1.cell_of (by go_simp); have f_w1_0_0 : w1.frozen? ⟨w.heap.size, 0, none⟩ = false := hw1.thaw_of (by go_simp) (by go_simp); have c_w1_0_1 : w1.cell? ⟨w.heap.size, 1, none⟩ = some (.int .i64 (a.2)) := hw1.cell_of (by go_simp); have f_w1_0_1 : w1.frozen? ⟨w.heap.size, 1, none⟩ = false := hw1.thaw_of (by go_simp) (by go_simp); have c_w1_1_0 : w1.cell? ⟨w.heap.size + 1, 0, none⟩ = some (.int .i64 (b.1)) := hw1.cell_of (by go_simp); have f_w1_1_0 : w1.frozen? ⟨w.heap.size + 1, 0, none⟩ = false := hw1.thaw_of (by go_simp) (by go_simp); have c_w1_1_1 : w1.cell? ⟨w.heap.size + 1, 1, none⟩ = some (.int .i64 (b.2)) := hw1.cell_of (by go_simp); have f_w1_1_1 : w1.frozen? ⟨w.heap.size + 1, 1, none⟩ = false := hw1.thaw_of (by go_simp) (by go_simp); have c_w1_2_0 : w1.cell? ⟨w.heap.size + 1 + 1, 0, none⟩ = some (.int .i64 (0)) := hw1.cell_of (by go_simp); have f_w1_2_0 : w1.frozen? ⟨w.heap.size + 1 + 1, 0, none⟩ = false := hw1.thaw_of (by go_simp) (by go_simp); have c_w1_2_1 : w1.cell? ⟨w.heap.size + 1 + 1, 1, none⟩ = some (.int .i64 (0)) := hw1.cell_of (by go_simp); have f_w1_2_1 : w1.frozen? ⟨w.heap.size + 1 + 1, 1, none⟩ = false := hw1.thaw_of (by go_simp) (by go_simp))
    rw [HE.out]
    refine bodyPost_ret (v := .tuple #[.agg #[.int .i64 0, .int .i64 0], .int .i64 1]) (by unfold results; rw [Try.results162]; go_simp) rfl ⟨rfl, ?_⟩
    repeat with_reducible refine K.Ext.setCell ?_ (by dsimp only; omega) _
    exact (by repeat' (first | with_reducible exact K.Ext.refl _ | with_reducible assumption | with_reducible refine K.Ext.drew ?_ | with_reducible refine K.Ext.alloc ?_ _ | with_reducible refine K.Ext.setCell ?_ ?_ _ | with_reducible refine K.Ext.trans ?_ (by with_reducible assumption) | (dsimp only; omega) | omega | exact K.Ext.refl _ | assumption | apply K.Ext.drew | refine K.Ext.alloc ?_ _ | refine K.Ext.setCell ?_ ?_ _ | (simp; done) | (simp; omega) | refine K.Ext.trans ?_ (by assumption)))
  · obtain ⟨a1, a2, a3, a4, b1, b2, b3, b4⟩ := Z.two_bd hf
    obtain ⟨q, hq⟩ : ∃ q, q = Z.round (a.1 * b.1) 1 (a.2 + b.2 - 6) := ⟨_, rfl⟩
    have HE : Hid (Z.MultiplyFigures a b = Z.figOr q) := Z.hide (by unfold Z.MultiplyFigures; rw [hf, hq]; rfl)
    obtain ⟨m1, m2⟩ := Z.mul_1000 a1 a2 b1 b2
    have HR : ∀ w' : World, Calls Try.prog 193 #[.int .i64 (a.1 * b.1), .int .i64 1, .int .i64 (a.2 + b.2 - 6)] w' fun e w'' => e = .returned (.agg #[.int .i64 q.1, .int .i64 q.2]) ∧ K.Ext w' w'' := fun w' => by rw [hq]; exact rounded_any _ _ _ _ (by omega) (by omega) (by omega) (by omega) (by omega) (by omega)
    clear hq
    go_enter Try.func162, Try.ntmps162
    go_wp2_with (first | ((go_at_call 141; refine K.call (by with_reducible rfl) (by with_reducible rfl) (areTwo_new a b _ _ (by simp)) ?_; rintro e w1 ⟨rfl, hw1⟩; obtain ⟨hcw1, hfw1⟩ := hw1.facts); have c_w1_0_0 : w1.cell? ⟨w.heap.size, 0, none⟩ = some (.int .i64 (a.1)) := hw1.cell_of (by go_simp); have f_w1_0_0 : w1.frozen? ⟨w.heap.size, 0, none⟩ = false := hw1.thaw_of (by go_simp) (by go_simp); have c_w1_0_1 : w1.cell? ⟨w.heap.size, 1, none⟩ = some (.int .i64 (a.2)) := hw1.cell_of (by go_simp); have f_w1_0_1 : w1.frozen? ⟨w.heap.size, 1, none⟩ = false := hw1.thaw_of (by go_simp) (by go_simp); have c_w1_1_0 : w1.cell? ⟨w.heap.size + 1, 0, none⟩ = some (.int .i64 (b.1)) := hw1.cell_of (by go_simp); have f_w1_1_0 : w1.frozen? ⟨w.heap.size + 1, 0, none⟩ = false := hw1.thaw_of (by go_simp) (by go_simp); have c_w1_1_1 : w1.cell? ⟨w.heap.size + 1, 1, none⟩ = some (.int .i64 (b.2)) := hw1.cell_of (by go_simp); have f_w1_1_1 : w1.frozen? ⟨w.heap.size + 1, 1, none⟩ = false := hw1.thaw_of (by go_simp) (by go_simp); have c_w1_2_0 : w1.cell? ⟨w.heap.size + 1 + 1, 0, none⟩ = some (.int .i64 (0)) := hw1.cell_of (by go_simp); have f_w1_2_0 : w1.frozen? ⟨w.heap.size + 1 + 1, 0, none⟩ = false := hw1.thaw_of (by go_simp) (by go_simp); have c_w1_2_1 : w1.cell? ⟨w.heap.size + 1 + 1, 1, none⟩ = some (.int .i64 (0)) := hw1.cell_of (by go_simp); have f_w1_2_1 : w1.frozen? ⟨w.heap.size + 1 + 1, 1, none⟩ = false := hw1.thaw_of (by go_simp) (by go_simp)) | ((go_at_call 193; refine K.call (by with_reducible rfl) (by with_reducible rfl) (HR _) ?_; rintro e w2 ⟨rfl, hw2⟩; obtain ⟨hcw2, hfw2⟩ := hw2.facts); have c_w2_0_0 : w2.cell? ⟨w.heap.size, 0, none⟩ = some (.int .i64 (a.1)) := hw2.cell_of (by go_simp); have f_w2_0_0 : w2.frozen? ⟨w.heap.size, 0, none⟩ = false := hw2.thaw_of (by go_simp) (by go_simp); have c_w2_0_1 : w2.cell? ⟨w.heap.size, 1, none⟩ = some (.int .i64 (a.2)) := hw2.cell_of (by go_simp); have f_w2_0_1 : w2.frozen? ⟨w.heap.size, 1, none⟩ = false := hw2.thaw_of (by go_simp) (by go_simp); have c_w2_1_0 : w2.cell? ⟨w.heap.size + 1, 0, none⟩ = some (.int .i64 (b.1)) := hw2.cell_of (by go_simp); have f_w2_1_0 : w2.frozen? ⟨w.heap.size + 1, 0, none⟩ = false := hw2.thaw_of (by go_simp) (by go_simp); have c_w2_1_1 : w2.cell? ⟨w.heap.size + 1, 1, none⟩ = some (.int .i64 (b.2)) := hw2.cell_of (by go_simp); have f_w2_1_1 : w2.frozen? ⟨w.heap.size + 1, 1, none⟩ = false := hw2.thaw_of (by go_simp) (by go_simp); have c_w2_2_0 : w2.cell? ⟨w.heap.size + 1 + 1, 0, none⟩ = some (.int .i64 (0)) := hw2.cell_of (by go_simp); have f_w2_2_0 : w2.frozen? ⟨w.heap.size + 1 + 1, 0, none⟩ = false := hw2.thaw_of (by go_simp) (by go_simp); have c_w2_2_1 : w2.cell? ⟨w.heap.size + 1 + 1, 1, none⟩ = some (.int .i64 (0)) := hw2.cell_of (by go_simp); have f_w2_2_1 : w2.frozen? ⟨w.heap.size + 1 + 1, 1, none⟩ = false := hw2.thaw_of (by go_simp) (by go_simp)) | ((go_at_call 192; refine K.call (by with_reducible rfl) (by with_reducible rfl) (limited_any q.1 q.2 _) ?_; rintro e w3 ⟨rfl, hw3⟩; obtain ⟨hcw3, hfw3⟩ := hw3.facts); have c_w3_0_0 : w3.cell? ⟨w.heap.size, 0, none⟩ = some (.int .i64 (a.1)) := hw3.cell_of (by go_simp); have f_w3_0_0 : w3.frozen? ⟨w.heap.size, 0, none⟩ = false := hw3.thaw_of (by go_simp) (by go_simp); have c_w3_0_1 : w3.cell? ⟨w.heap.size, 1, none⟩ = some (.int .i64 (a.2)) := hw3.cell_of (by go_simp); have f_w3_0_1 : w3.frozen? ⟨w.heap.size, 1, none⟩ = false := hw3.thaw_of (by go_simp) (by go_simp); have c_w3_1_0 : w3.cell? ⟨w.heap.size + 1, 0, none⟩ = some (.int .i64 (b.1)) := hw3.cell_of (by go_simp); have f_w3_1_0 : w3.frozen? ⟨w.heap.size + 1, 0, none⟩ = false := hw3.thaw_of (by go_simp) (by go_simp); have c_w3_1_1 : w3.cell? ⟨w.heap.size + 1, 1, none⟩ = some (.int .i64 (b.2)) := hw3.cell_of (by go_simp); have f_w3_1_1 : w3.frozen? ⟨w.heap.size + 1, 1, none⟩ = false := hw3.thaw_of (by go_simp) (by go_simp); have c_w3_2_0 : w3.cell? ⟨w.heap.size + 1 + 1, 0, none⟩ = some (.int .i64 (0)) := hw3.cell_of (by go_simp); have f_w3_2_0 : w3.frozen? ⟨w.heap.size + 1 + 1, 0, none⟩ = false := hw3.thaw_of (by go_simp) (by go_simp); have c_w3_2_1 : w3.cell? ⟨w.heap.size + 1 + 1, 1, none⟩ = some (.int .i64 (0)) := hw3.cell_of (by go_simp); have f_w3_2_1 : w3.frozen? ⟨w.heap.size + 1 + 1, 1, none⟩ = false := hw3.thaw_of (by go_simp) (by go_simp)))
    rw [HE.out]
    refine bodyPost_ret (v := .tuple #[.agg #[.int .i64 (Z.figOr q).1.1, .int .i64 (Z.figOr q).1.2], .int .i64 (Z.figOr q).2]) (by unfold results; rw [Try.results162]; go_simp) rfl ⟨rfl, ?_⟩
    repeat with_reducible refine K.Ext.setCell ?_ (by dsimp only; omega) _
    exact (by repeat' (first | with_reducible exact K.Ext.refl _ | with_reducible assumption | with_reducible refine K.Ext.drew ?_ | with_reducible refine K.Ext.alloc ?_ _ | with_reducible refine K.Ext.setCell ?_ ?_ _ | with_reducible refine K.Ext.trans ?_ (by with_reducible assumption) | (dsimp only; omega) | omega | exact K.Ext.refl _ | assumption | apply K.Ext.drew | refine K.Ext.alloc ?_ _ | refine K.Ext.setCell ?_ ?_ _ | (simp; done) | (simp; omega) | refine K.Ext.trans ?_ (by assumption)))
set_option maxHeartbeats 3200000 in
theorem impl_DivideFigures (a b : Int × Int) (w : World) :
    Calls Try.prog 169 #[.agg #[.int .i64 a.1, .int .i64 a.2], .agg #[.int .i64 b.1, .int .i64 b.2]] w fun e w' => e = .returned (.tuple #[.agg #[.int .i64 (Z.DivideFigures a b).1.1, .int .i64 (Z.DivideFigures a b).1.2], .int .i64 (Z.DivideFigures a b).2]) ∧ K.Ext w w' := by
  cases hf : (Z.isFig a.1 a.2 && Z.isFig b.1 b.2)
  · have HE : Hid (Z.DivideFigures a b = ((0, 0), 1)) := Z.hide (by unfold Z.DivideFigures; rw [hf]; rfl)
    go_enter Try.func169, Try.ntmps169
    go_wp2_with ((go_at_call 141; refine K.call (by with_reducible rfl) (by with_reducible rfl) (areTwo_new a b _ _ (by simp)) ?_; rintro e w1 ⟨rfl, hw1⟩; obtain ⟨hcw1, hfw1⟩ := hw1.facts); have c_w1_0_0 : w1.cell? ⟨w.heap.size, 0, none⟩ = some (.int .i64 (a.1)) := hw1.cell_of (by go_simp); have f_w1_0_0 : w1.frozen? ⟨w.heap.size, 0, none⟩ = false := hw1.thaw_of (by go_simp) (by go_simp); have c_w1_0_1 : w1.cell? ⟨w.heap.size, 1, none⟩ = some (.int .i64 (a.2)) := hw1.cell_of (by go_simp); have f_w1_0_1 : w1.frozen? ⟨w.heap.size, 1, none⟩ = false := hw1.thaw_of (by go_simp) (by go_simp); have c_w1_1_0 : w1.cell? ⟨w.heap.size + 1, 0, none⟩ = some (.int .i64 (b.1)) := hw1.cell_of (by go_simp); have f_w1_1_0 : w1.frozen? ⟨w.heap.size + 1, 0, none⟩ = false := hw1.thaw_of (by go_simp) (by go_simp); have c_w1_1_1 : w1.cell? ⟨w.heap.size + 1, 1, none⟩ = some (.int .i64 (b.2)) := hw1.cell_of (by go_simp); have f_w1_1_1 : w1.frozen? ⟨w.heap.size + 1, 1, none⟩ = false := hw1.thaw_of (by go_simp) (by go_simp); have c_w1_2_0 : w1.cell? ⟨w.heap.size + 1 + 1, 0, none⟩ = some (.int .i64 (0)) := hw1.cell_of (by go_simp); have f_w1_2_0 : w1.frozen? ⟨w.heap.size + 1 + 1, 0, none⟩ = false := hw1.thaw_of (by go_simp) (by go_simp); have c_w1_2_1 : w1.cell? ⟨w.heap.size + 1 + 1, 1, none⟩ = some (.int .i64 (0)) := hw1.cell_of (by go_simp); have f_w1_2_1 : w1.frozen? ⟨w.heap.size + 1 + 1, 1, none⟩ = false := hw1.thaw_of (by go_simp) (by go_simp))
    rw [HE.out]
    refine bodyPost_ret (v := .tuple #[.agg #[.int .i64 0, .int .i64 0], .int .i64 1]) (by unfold results; rw [Try.results169]; go_simp) rfl ⟨rfl, ?_⟩
    repeat with_reducible refine K.Ext.setCell ?_ (by dsimp only; omega) _
    exact (by repeat' (first | with_reducible exact K.Ext.refl _ | with_reducible assumption | with_reducible refine K.Ext.drew ?_ | with_reducible refine K.Ext.alloc ?_ _ | with_reducible refine K.Ext.setCell ?_ ?_ _ | with_reducible refine K.Ext.trans ?_ (by with_reducible assumption) | (dsimp only; omega) | omega | exact K.Ext.refl _ | assumption | apply K.Ext.drew | refine K.Ext.alloc ?_ _ | refine K.Ext.setCell ?_ ?_ _ | (simp; done) | (simp; omega) | refine K.Ext.trans ?_ (by assumption)))
  · obtain ⟨a1, a2, a3, a4, b1, b2, b3, b4⟩ := Z.two_bd hf
    obtain ⟨q, hq⟩ : ∃ q, q = Z.round (a.1) b.1 (a.2 - b.2) := ⟨_, rfl⟩
    have HE : Hid (Z.DivideFigures a b = Z.figOr q) := Z.hide (by unfold Z.DivideFigures; rw [hf, hq]; rfl)
    skip
    have HR : ∀ w' : World, Calls Try.prog 193 #[.int .i64 (a.1), .int .i64 b.1, .int .i64 (a.2 - b.2)] w' fun e w'' => e = .returned (.agg #[.int .i64 q.1, .int .i64 q.2]) ∧ K.Ext w' w'' := fun w' => by rw [hq]; exact rounded_any _ _ _ _ (by omega) (by omega) (by omega) (by omega) (by omega) (by omega)
    clear hq
    go_enter Try.func169, Try.ntmps169
    go_wp2_with (first | ((go_at_call 141; refine K.call (by with_reducible rfl) (by with_reducible rfl) (areTwo_new a b _ _ (by simp)) ?_; rintro e w1 ⟨rfl, hw1⟩; obtain ⟨hcw1, hfw1⟩ := hw1.facts); have c_w1_0_0 : w1.cell? ⟨w.heap.size, 0, none⟩ = some (.int .i64 (a.1)) := hw1.cell_of (by go_simp); have f_w1_0_0 : w1.frozen? ⟨w.heap.size, 0, none⟩ = false := hw1.thaw_of (by go_simp) (by go_simp); have c_w1_0_1 : w1.cell? ⟨w.heap.size, 1, none⟩ = some (.int .i64 (a.2)) := hw1.cell_of (by go_simp); have f_w1_0_1 : w1.frozen? ⟨w.heap.size, 1, none⟩ = false := hw1.thaw_of (by go_simp) (by go_simp); have c_w1_1_0 : w1.cell? ⟨w.heap.size + 1, 0, none⟩ = some (.int .i64 (b.1)) := hw1.cell_of (by go_simp); have f_w1_1_0 : w1.frozen? ⟨w.heap.size + 1, 0, none⟩ = false := hw1.thaw_of (by go_simp) (by go_simp); have c_w1_1_1 : w1.cell? ⟨w.heap.size + 1, 1, none⟩ = some (.int .i64 (b.2)) := hw1.cell_of (by go_simp); have f_w1_1_1 : w1.frozen? ⟨w.heap.size + 1, 1, none⟩ = false := hw1.thaw_of (by go_simp) (by go_simp); have c_w1_2_0 : w1.cell? ⟨w.heap.size + 1 + 1, 0, none⟩ = some (.int .i64 (0)) := hw1.cell_of (by go_simp); have f_w1_2_0 : w1.frozen? ⟨w.heap.size + 1 + 1, 0, none⟩ = false := hw1.thaw_of (by go_simp) (by go_simp); have c_w1_2_1 : w1.cell? ⟨w.heap.size + 1 + 1, 1, none⟩ = some (.int .i64 (0)) := hw1.cell_of (by go_simp); have f_w1_2_1 : w1.frozen? ⟨w.heap.size + 1 + 1, 1, none⟩ = false := hw1.thaw_of (by go_simp) (by go_simp)) | ((go_at_call 193; refine K.call (by with_reducible rfl) (by with_reducible rfl) (HR _) ?_; rintro e w2 ⟨rfl, hw2⟩; obtain ⟨hcw2, hfw2⟩ := hw2.facts); have c_w2_0_0 : w2.cell? ⟨w.heap.size, 0, none⟩ = some (.int .i64 (a.1)) := hw2.cell_of (by go_simp); have f_w2_0_0 : w2.frozen? ⟨w.heap.size, 0, none⟩ = false := hw2.thaw_of (by go_simp) (by go_simp); have c_w2_0_1 : w2.cell? ⟨w.heap.size, 1, none⟩ = some (.int .i64 (a.2)) := hw2.cell_of (by go_simp); have f_w2_0_1 : w2.frozen? ⟨w.heap.size, 1, none⟩ = false := hw2.thaw_of (by go_simp) (by go_simp); have c_w2_1_0 : w2.cell? ⟨w.heap.size + 1, 0, none⟩ = some (.int .i64 (b.1)) := hw2.cell_of (by go_simp); have f_w2_1_0 : w2.frozen? ⟨w.heap.size + 1, 0, none⟩ = false := hw2.thaw_of (by go_simp) (by go_simp); have c_w2_1_1 : w2.cell? ⟨w.heap.size + 1, 1, none⟩ = some (.int .i64 (b.2)) := hw2.cell_of (by go_simp); have f_w2_1_1 : w2.frozen? ⟨w.heap.size + 1, 1, none⟩ = false := hw2.thaw_of (by go_simp) (by go_simp); have c_w2_2_0 : w2.cell? ⟨w.heap.size + 1 + 1, 0, none⟩ = some (.int .i64 (0)) := hw2.cell_of (by go_simp); have f_w2_2_0 : w2.frozen? ⟨w.heap.size + 1 + 1, 0, none⟩ = false := hw2.thaw_of (by go_simp) (by go_simp); have c_w2_2_1 : w2.cell? ⟨w.heap.size + 1 + 1, 1, none⟩ = some (.int .i64 (0)) := hw2.cell_of (by go_simp); have f_w2_2_1 : w2.frozen? ⟨w.heap.size + 1 + 1, 1, none⟩ = false := hw2.thaw_of (by go_simp) (by go_simp)) | ((go_at_call 192; refine K.call (by with_reducible rfl) (by with_reducible rfl) (limited_any q.1 q.2 _) ?_; rintro e w3 ⟨rfl, hw3⟩; obtain ⟨hcw3, hfw3⟩ := hw3.facts); have c_w3_0_0 : w3.cell? ⟨w.heap.size, 0, none⟩ = some (.int .i64 (a.1)) := hw3.cell_of (by go_simp); have f_w3_0_0 : w3.frozen? ⟨w.heap.size, 0, none⟩ = false := hw3.thaw_of (by go_simp) (by go_simp); have c_w3_0_1 : w3.cell? ⟨w.heap.size, 1, none⟩ = some (.int .i64 (a.2)) := hw3.cell_of (by go_simp); have f_w3_0_1 : w3.frozen? ⟨w.heap.size, 1, none⟩ = false := hw3.thaw_of (by go_simp) (by go_simp); have c_w3_1_0 : w3.cell? ⟨w.heap.size + 1, 0, none⟩ = some (.int .i64 (b.1)) := hw3.cell_of (by go_simp); have f_w3_1_0 : w3.frozen? ⟨w.heap.size + 1, 0, none⟩ = false := hw3.thaw_of (by go_simp) (by go_simp); have c_w3_1_1 : w3.cell? ⟨w.heap.size + 1, 1, none⟩ = some (.int .i64 (b.2)) := hw3.cell_of (by go_simp); have f_w3_1_1 : w3.frozen? ⟨w.heap.size + 1, 1, none⟩ = false := hw3.thaw_of (by go_simp) (by go_simp); have c_w3_2_0 : w3.cell? ⟨w.heap.size + 1 + 1, 0, none⟩ = some (.int .i64 (0)) := hw3.cell_of (by go_simp); have f_w3_2_0 : w3.frozen? ⟨w.heap.size + 1 + 1, 0, none⟩ = false := hw3.thaw_of (by go_simp) (by go_simp); have c_w3_2_1 : w3.cell? ⟨w.heap.size + 1 + 1, 1, none⟩ = some (.int .i64 (0)) := hw3.cell_of (by go_simp); have f_w3_2_1 : w3.frozen? ⟨w.heap.size + 1 + 1, 1, none⟩ = false := hw3.thaw_of (by go_simp) (by go_simp)))
    rw [HE.out]
    refine bodyPost_ret (v := .tuple #[.agg #[.int .i64 (Z.figOr q).1.1, .int .i64 (Z.figOr q).1.2], .int .i64 (Z.figOr q).2]) (by unfold results; rw [Try.results169]; go_simp) rfl ⟨rfl, ?_⟩
    repeat with_reducible refine K.Ext.setCell ?_ (by dsimp only; omega) _
    exact (by repeat' (first | with_reducible exact K.Ext.refl _ | with_reducible assumption | with_reducible refine K.Ext.drew ?_ | with_reducible refine K.Ext.alloc ?_ _ | with_reducible refine K.Ext.setCell ?_ ?_ _ | with_reducible refine K.Ext.trans ?_ (by with_reducible assumption) | (dsimp only; omega) | omega | exact K.Ext.refl _ | assumption | apply K.Ext.drew | refine K.Ext.alloc ?_ _ | refine K.Ext.setCell ?_ ?_ _ | (simp; done) | (simp; omega) | refine K.Ext.trans ?_ (by assumption)))
end Go.Proofs.Ythmnlbgbacbocaa
end
section
namespace Go.Proofs.Ythmnlbgbacbocaa
open Go.RowKit
set_option maxHeartbeats 1600000 in
theorem without1_any (F : Z.Fm) (c : Int) (i : Nat) (gb gf : Nat) {lo hi : Nat} {p : Value} (w : World) (hi26 : i < 26) (hl : F.pw.length = F.nm.size) (h6 : F.nm.size ≤ 6)
    (hc : w.cell? ⟨gb, 0, none⟩ = some (.int .u8 c)) (h0 : w.cell? ⟨gf, 0, none⟩ = some (.int .i64 F.dg)) (h1 : w.cell? ⟨gf, 1, none⟩ = some (.int .i64 F.tn)) (h2 : w.cell? ⟨gf, 2, none⟩ = some (.string F.nm)) (h3 : w.cell? ⟨gf, 3, none⟩ = some p) (h : K.ints w lo hi p F.pw) :
    Calls Try.prog 182 #[.int .u8 (97 + (i : Int)), .pointer (some ⟨gb, 0, none⟩), .pointer (some ⟨gf, 0, none⟩)] w fun e w' => e = .returned (.int .i64 (Z.withF F c i)) ∧ K.Ext w w' := by
  have g1 := h
  obtain ⟨o, cap, rfl, _⟩ := g1
  have HL := Z.hide hl
  have H6 := Z.hide h6
  clear hl h6
  by_cases he : 97 + (i : Int) = c
  · have HE : Hid (Z.withF F c i = 0) := Z.hide (by unfold Z.withF; rw [if_pos he])
    go_enter Try.func182, Try.ntmps182
    go_wp2
    go_ret
    exact ⟨K.ri (by rw [HE.out]), (by repeat' (first | with_reducible exact K.Ext.refl _ | with_reducible assumption | with_reducible refine K.Ext.drew ?_ | with_reducible refine K.Ext.alloc ?_ _ | with_reducible refine K.Ext.setCell ?_ ?_ _ | with_reducible refine K.Ext.trans ?_ (by with_reducible assumption) | (dsimp only; omega) | omega | exact K.Ext.refl _ | assumption | apply K.Ext.drew | refine K.Ext.alloc ?_ _ | refine K.Ext.setCell ?_ ?_ _ | (simp; done) | (simp; omega) | refine K.Ext.trans ?_ (by assumption)))⟩
  · have HE : Hid (Z.withF F c i = Z.expo (Z.bs F.nm) F.pw (97 + (i : Int))) := Z.hide (by unfold Z.withF; rw [if_neg he])
    go_enter Try.func182, Try.ntmps182
    go_wp2_with (go_at_call 106; refine K.call (by with_reducible rfl) (by with_reducible rfl) (exponentOf_any F (97 + (i : Int)) _ _ _ _ HL.out (Nat.le_trans H6.out (by decide)) (by omega) (by omega) (h.ext (by repeat' (first | with_reducible exact K.Ext.refl _ | with_reducible assumption | with_reducible refine K.Ext.drew ?_ | with_reducible refine K.Ext.alloc ?_ _ | with_reducible refine K.Ext.setCell ?_ ?_ _ | with_reducible refine K.Ext.trans ?_ (by with_reducible assumption) | (dsimp only; omega) | omega | exact K.Ext.refl _ | assumption | apply K.Ext.drew | refine K.Ext.alloc ?_ _ | refine K.Ext.setCell ?_ ?_ _ | (simp; done) | (simp; omega) | refine K.Ext.trans ?_ (by assumption))))) ?_; rintro e w1 ⟨rfl, hw1⟩; obtain ⟨hcw1, hfw1⟩ := hw1.facts)
    go_ret
    exact ⟨K.ri (by rw [HE.out]), (by repeat' (first | with_reducible exact K.Ext.refl _ | with_reducible assumption | with_reducible refine K.Ext.drew ?_ | with_reducible refine K.Ext.alloc ?_ _ | with_reducible refine K.Ext.setCell ?_ ?_ _ | with_reducible refine K.Ext.trans ?_ (by with_reducible assumption) | (dsimp only; omega) | omega | exact K.Ext.refl _ | assumption | apply K.Ext.drew | refine K.Ext.alloc ?_ _ | refine K.Ext.setCell ?_ ?_ _ | (simp; done) | (simp; omega) | refine K.Ext.trans ?_ (by assumption)))⟩
set_option maxHeartbeats 3200000 in
theorem without_any (F : Z.Fm) (c : Int) {lo hi : Nat} {p : Value} (w : World) (hf : Z.isFormula F = true) (h : K.ints w lo hi p F.pw) :
    Calls Try.prog 130 #[.agg #[.int .i64 F.dg, .int .i64 F.tn, .string F.nm, p], .int .u8 c] w fun e w' => (∃ p', e = .returned (.agg #[.int .i64 ((Z.without F c)).dg, .int .i64 ((Z.without F c)).tn, .string ((Z.without F c)).nm, p']) ∧ K.own w' w.heap.size w'.heap.size p' (Z.without F c).pw) ∧ K.Ext w w' := by
  have g1 := h
  obtain ⟨o, cap, rfl, _⟩ := g1
  obtain ⟨hl, h6⟩ : Hid (F.pw.length = F.nm.size) ∧ Hid (F.nm.size ≤ 6) := Z.isFormula_len hf
  have hmf : ∀ (fn : Fn) (first cap : Array Value) (w : World), (Instr.makeFunc fn first cap).run Try.prog w = .ok (.func fn first cap) w := fun _ _ _ _ => rfl
  have hg : ∀ (args : Array Value) (w' : World), (callFunc 182 args).run Try.prog w' = .ok (.enter 182 args) w' := by
    intro args w'; go_simp
  have HC : ∀ W : World, (∀ w', K.Ext W w' → w'.cell? ⟨w.heap.size + 1, 0, none⟩ = some (.int .u8 c) ∧ w'.cell? ⟨w.heap.size, 0, none⟩ = some (.int .i64 F.dg) ∧ w'.cell? ⟨w.heap.size, 1, none⟩ = some (.int .i64 F.tn) ∧ w'.cell? ⟨w.heap.size, 2, none⟩ = some (.string F.nm) ∧ w'.cell? ⟨w.heap.size, 3, none⟩ = some (.slice o F.pw.length cap)) → K.ints W lo hi (.slice o F.pw.length cap) F.pw →
      Calls Try.prog 163 #[.agg #[.int .i64 F.dg, .int .i64 F.tn], .func (.func 182) #[] #[.pointer (some ⟨w.heap.size + 1, 0, none⟩), .pointer (some ⟨w.heap.size, 0, none⟩)]] W fun e w' => (∃ p', e = .returned (.tuple #[.agg #[.int .i64 ((Z.without F c)).dg, .int .i64 ((Z.without F c)).tn, .string ((Z.without F c)).nm, p'], .int .i64 0]) ∧ K.own w' W.heap.size w'.heap.size p' (Z.without F c).pw) ∧ K.Ext W w' := by
    intro W hW hI
    have := madeOf_any F.dg F.tn (Z.withF F c) 182 (.pointer (some ⟨w.heap.size + 1, 0, none⟩)) (.pointer (some ⟨w.heap.size, 0, none⟩)) W hg (fun i w' hi hx => by
      obtain ⟨x0, x1, x2, x3, x4⟩ := hW w' hx
      exact without1_any F c i _ _ w' hi hl.out h6.out x0 x1 x2 x3 x4 (hI.ext hx))
    rw [Z.madeOr_without hf] at this
    exact this
  have HCh := Z.hide HC
  clear HC hf
  go_enter Try.func130, Try.ntmps130
  go_wp2_with ((go_at_call 163; refine K.call (by with_reducible rfl) (by with_reducible rfl) (HCh.out _ (fun w' hx => ⟨hx.cell_of (by go_simp), hx.cell_of (by go_simp), hx.cell_of (by go_simp), hx.cell_of (by go_simp), hx.cell_of (by go_simp)⟩) (h.ext (by repeat' (first | with_reducible exact K.Ext.refl _ | with_reducible assumption | with_reducible refine K.Ext.drew ?_ | with_reducible refine K.Ext.alloc ?_ _ | with_reducible refine K.Ext.setCell ?_ ?_ _ | with_reducible refine K.Ext.trans ?_ (by with_reducible assumption) | (dsimp only; omega) | omega | exact K.Ext.refl _ | assumption | apply K.Ext.drew | refine K.Ext.alloc ?_ _ | refine K.Ext.setCell ?_ ?_ _ | (simp; done) | (simp; omega) | refine K.Ext.trans ?_ (by assumption))))) ?_; rintro e w1 ⟨⟨p1, rfl, hp1⟩, hw1⟩; obtain ⟨hcw1, hfw1⟩ := hw1.facts; have hp3 := hp1; obtain ⟨o1, c1, rfl, _⟩ := hp3); have c_w1_2_0 : w1.cell? ⟨w.heap.size + 1 + 1, 0, none⟩ = some (.int .i64 (0)) := hw1.cell_of (by go_simp); have f_w1_2_0 : w1.frozen? ⟨w.heap.size + 1 + 1, 0, none⟩ = false := hw1.thaw_of (by go_simp) (by go_simp); have c_w1_2_1 : w1.cell? ⟨w.heap.size + 1 + 1, 1, none⟩ = some (.int .i64 (0)) := hw1.cell_of (by go_simp); have f_w1_2_1 : w1.frozen? ⟨w.heap.size + 1 + 1, 1, none⟩ = false := hw1.thaw_of (by go_simp) (by go_simp); have c_w1_2_2 : w1.cell? ⟨w.heap.size + 1 + 1, 2, none⟩ = some (.string ⟨#[]⟩) := hw1.cell_of (by go_simp); have f_w1_2_2 : w1.frozen? ⟨w.heap.size + 1 + 1, 2, none⟩ = false := hw1.thaw_of (by go_simp) (by go_simp); have c_w1_2_3 : w1.cell? ⟨w.heap.size + 1 + 1, 3, none⟩ = some (.slice none 0 0) := hw1.cell_of (by go_simp); have f_w1_2_3 : w1.frozen? ⟨w.heap.size + 1 + 1, 3, none⟩ = false := hw1.thaw_of (by go_simp) (by go_simp); have z1 : w.heap.size + 3 ≤ w1.heap.size := (by have h_ := hw1.size; simp at h_; omega); have z2 : ¬ (w.heap.size + 1 + 1 = w1.heap.size) := (by omega); have z3 : ¬ (w1.heap.size = w.heap.size + 1 + 1) := (by omega); have z4 : w.heap.size + 1 + 1 < w1.heap.size := (by omega))
  refine bodyPost_ret (v := .agg #[.int .i64 ((Z.without F c)).dg, .int .i64 ((Z.without F c)).tn, .string ((Z.without F c)).nm, .slice o1 (Z.without F c).pw.length c1]) (by unfold results; rw [Try.results130]; go_simp) rfl ⟨⟨_, rfl, ?_⟩, ?_⟩
  · refine K.own.mono (lo := w.heap.size + 3) (hi := w1.heap.size) ?_ (by omega) (by simp)
    repeat' (first | with_reducible refine K.own.set ?_ _ ?_ _ | with_reducible refine K.own.alloc ?_ _ | (with_reducible exact hp1.mono (by simp) (Nat.le_refl _)) | (dsimp only; omega))
  · have hq : K.Ext w w1 := K.Ext.trans ((((K.Ext.refl w).alloc _).alloc _).alloc _) hw1
    repeat' (first | with_reducible exact hq | with_reducible refine K.Ext.setCell ?_ ?_ _ | with_reducible refine K.Ext.alloc ?_ _ | (dsimp only; omega))
end Go.Proofs.Ythmnlbgbacbocaa
end
section
namespace Go.K
theorem ints_setAt {w : World} {lo hi b off cap k : Nat} {x : Int} {xs : List Int} (hk : k < xs.length) (h : K.ints w lo hi (.slice (some ⟨b, off, none⟩) xs.length cap) xs) :
    K.ints (w.setCell ⟨b, off + k, none⟩ (.int .i64 x)) lo hi (.slice (some ⟨b, off, none⟩) xs.length cap) (xs.set k x) := by
  obtain ⟨o, cap', hv, hc⟩ := h
  simp only [Value.slice.injEq, true_and] at hv
  obtain ⟨rfl, rfl⟩ := hv
  obtain ⟨b', off', he, h1, h2, h3⟩ := hc (by intro h0; simp [h0] at hk)
  simp only [Option.some.injEq, Addr.mk.injEq, and_true] at he
  obtain ⟨rfl, rfl⟩ := he
  exact ⟨some ⟨b, off, none⟩, cap, by simp, fun _ => ⟨b, off, rfl, h1, h2, fun i hi => row_set rfl hk h3 i (by simpa using hi)⟩⟩
end Go.K
namespace Go.Proofs.Ythmnlbgbacbocaa
open Go.RowKit
set_option maxHeartbeats 3200000 in
theorem l18Without_any (F : Z.Fm) (m : Nat) {lo hi : Nat} {p : Value} (w : World) (hf : Z.isFormula F = true) (hm : m < 26) (h : K.ints w lo hi p F.pw) :
    Calls Try.prog 131 #[.agg #[.int .i64 F.dg, .int .i64 F.tn, .string F.nm, p], .int .u8 (97 + (m : Int))] w fun e w' => (∃ p', e = .returned (.agg #[.int .i64 ((Z.without F (97 + (m : Int)))).dg, .int .i64 ((Z.without F (97 + (m : Int)))).tn, .string ((Z.without F (97 + (m : Int)))).nm, p']) ∧ K.own w' w.heap.size w'.heap.size p' (Z.without F (97 + (m : Int))).pw) ∧ K.Ext w w' := by
  have h1 := h
  obtain ⟨o, cap, rfl, hh⟩ := h1
  clear hh
  have HF := Z.hide hf
  clear hf
  have q5 : IntKind.u8.wrap (97 + (m : Int) - 97) = (m : Int) := K.u8_in hm
  have m0 : (0 : Int) ≤ (m : Int) := Int.natCast_nonneg m
  have m1 : (m : Int) < 26 := by omega
  go_enter Try.func131, Try.ntmps131
  go_wp2_with ((go_at_call 102; refine K.call (by with_reducible rfl) (by with_reducible rfl) (l18All_any F _ HF.out (h.ext (by repeat' (first | with_reducible exact K.Ext.refl _ | with_reducible assumption | with_reducible refine K.Ext.drew ?_ | with_reducible refine K.Ext.alloc ?_ _ | with_reducible refine K.Ext.setCell ?_ ?_ _ | with_reducible refine K.Ext.trans ?_ (by with_reducible assumption) | (dsimp only; omega) | omega | exact K.Ext.refl _ | assumption | apply K.Ext.drew | refine K.Ext.alloc ?_ _ | refine K.Ext.setCell ?_ ?_ _ | (simp; done) | (simp; omega) | refine K.Ext.trans ?_ (by assumption))))) ?_; rintro e w1 ⟨⟨v1, rfl, hv1⟩, hw1⟩; obtain ⟨hcw1, hfw1⟩ := hw1.facts; have hv2 := hv1; obtain ⟨o1, c1, rfl, hh1⟩ := hv2; obtain ⟨b1, off1, rfl, hlo1, hhi1, hc1, hf1⟩ := hh1 (by intro h0; have h_ := Z.allOf_length F; rw [h0] at h_; simp at h_); rw [Z.allOf_length] at *; have hcm := hc1 m hm; have hfm := hf1 m hm; have lb1 : b1 < w1.heap.size := World.block_lt_of_cell? w1 _ hcm; clear hc1 hf1 hh1; have lo2 : w.heap.size + 2 ≤ b1 := (by simp at hlo1; omega); have n1 : ¬ (w.heap.size = b1) := (by omega); have n2 : ¬ (b1 = w.heap.size) := (by omega); have n3 : ¬ (w.heap.size + 1 = b1) := (by omega); have n4 : ¬ (b1 = w.heap.size + 1) := (by omega)); have c_w1_0_0 : w1.cell? ⟨w.heap.size, 0, none⟩ = some (.int .i64 (F.dg)) := hw1.cell_of (by go_simp); have f_w1_0_0 : w1.frozen? ⟨w.heap.size, 0, none⟩ = false := hw1.thaw_of (by go_simp) (by go_simp); have c_w1_0_1 : w1.cell? ⟨w.heap.size, 1, none⟩ = some (.int .i64 (F.tn)) := hw1.cell_of (by go_simp); have f_w1_0_1 : w1.frozen? ⟨w.heap.size, 1, none⟩ = false := hw1.thaw_of (by go_simp) (by go_simp); have c_w1_0_2 : w1.cell? ⟨w.heap.size, 2, none⟩ = some (.string F.nm) := hw1.cell_of (by go_simp); have f_w1_0_2 : w1.frozen? ⟨w.heap.size, 2, none⟩ = false := hw1.thaw_of (by go_simp) (by go_simp); have c_w1_0_3 : w1.cell? ⟨w.heap.size, 3, none⟩ = some (.slice o F.pw.length cap) := hw1.cell_of (by go_simp); have f_w1_0_3 : w1.frozen? ⟨w.heap.size, 3, none⟩ = false := hw1.thaw_of (by go_simp) (by go_simp); have c_w1_1_0 : w1.cell? ⟨w.heap.size + 1, 0, none⟩ = some (.int .i64 (0)) := hw1.cell_of (by go_simp); have f_w1_1_0 : w1.frozen? ⟨w.heap.size + 1, 0, none⟩ = false := hw1.thaw_of (by go_simp) (by go_simp); have c_w1_1_1 : w1.cell? ⟨w.heap.size + 1, 1, none⟩ = some (.int .i64 (0)) := hw1.cell_of (by go_simp); have f_w1_1_1 : w1.frozen? ⟨w.heap.size + 1, 1, none⟩ = false := hw1.thaw_of (by go_simp) (by go_simp); have c_w1_1_2 : w1.cell? ⟨w.heap.size + 1, 2, none⟩ = some (.string ⟨#[]⟩) := hw1.cell_of (by go_simp); have f_w1_1_2 : w1.frozen? ⟨w.heap.size + 1, 2, none⟩ = false := hw1.thaw_of (by go_simp) (by go_simp); have c_w1_1_3 : w1.cell? ⟨w.heap.size + 1, 3, none⟩ = some (.slice none 0 0) := hw1.cell_of (by go_simp); have f_w1_1_3 : w1.frozen? ⟨w.heap.size + 1, 3, none⟩ = false := hw1.thaw_of (by go_simp) (by go_simp))
  have zl := hw1.size
  simp only [World.size_alloc] at zl
  have HI : K.ints (w1.setCell ⟨b1, off1 + m, none⟩ (.int .i64 0)) (w.heap.size + 2) w1.heap.size (.slice (some ⟨b1, off1, none⟩) 26 c1) ((Z.allOf F).set m 0) := by
    have := K.ints_setAt (w := w1) (b := b1) (off := off1) (cap := c1) (k := m) (x := 0) (xs := Z.allOf F) (by rw [Z.allOf_length]; exact hm) (lo := w.heap.size + 2) (hi := w1.heap.size) (by rw [Z.allOf_length]; exact K.own.ints (hv1.mono (by simp) (Nat.le_refl _)))
    rw [Z.allOf_length] at this
    exact this
  have HC := l18Make_any F.dg F.tn ((Z.allOf F).set m 0) _ (by simp [Z.allOf_length]) HI
  rw [Z.with_set F m hm] at HC
  go_wp2_with ((go_at_call 104; refine K.call (by with_reducible rfl) (by with_reducible rfl) (HC) ?_; rintro e w2 ⟨⟨v2, rfl, hv2⟩, hw2⟩; have hv3 := hv2; obtain ⟨o2, c2, rfl, _⟩ := hv3); have c_w2_1_0 : w2.cell? ⟨w.heap.size + 1, 0, none⟩ = some (.int .i64 (0)) := hw2.cell_of (by go_simp); have f_w2_1_0 : w2.frozen? ⟨w.heap.size + 1, 0, none⟩ = false := hw2.thaw_of (by go_simp) (by go_simp); have c_w2_1_1 : w2.cell? ⟨w.heap.size + 1, 1, none⟩ = some (.int .i64 (0)) := hw2.cell_of (by go_simp); have f_w2_1_1 : w2.frozen? ⟨w.heap.size + 1, 1, none⟩ = false := hw2.thaw_of (by go_simp) (by go_simp); have c_w2_1_2 : w2.cell? ⟨w.heap.size + 1, 2, none⟩ = some (.string ⟨#[]⟩) := hw2.cell_of (by go_simp); have f_w2_1_2 : w2.frozen? ⟨w.heap.size + 1, 2, none⟩ = false := hw2.thaw_of (by go_simp) (by go_simp); have c_w2_1_3 : w2.cell? ⟨w.heap.size + 1, 3, none⟩ = some (.slice none 0 0) := hw2.cell_of (by go_simp); have f_w2_1_3 : w2.frozen? ⟨w.heap.size + 1, 3, none⟩ = false := hw2.thaw_of (by go_simp) (by go_simp))
  have zw := hw2.size
  simp only [World.size_setCell] at zw
  refine bodyPost_ret (v := .agg #[.int .i64 ((Z.without F (97 + (m : Int)))).dg, .int .i64 ((Z.without F (97 + (m : Int)))).tn, .string ((Z.without F (97 + (m : Int)))).nm, .slice o2 (Z.without F (97 + (m : Int))).pw.length c2]) (by unfold results; rw [Try.results131]; go_simp) rfl ⟨⟨_, rfl, ?_⟩, ?_⟩
  · refine K.own.mono (lo := w1.heap.size) (hi := w2.heap.size) ?_ (by omega) (by simp)
    repeat with_reducible refine K.own.set ?_ _ (.inl (by dsimp only; omega)) _
    exact hv2.mono (by simp) (Nat.le_refl _)
  · repeat with_reducible refine K.Ext.setCell ?_ (by dsimp only; omega) _
    exact K.Ext.trans (K.Ext.setCell (K.Ext.trans (((K.Ext.refl w).alloc _).alloc _) hw1) (by dsimp only; omega) _) hw2
end Go.Proofs.Ythmnlbgbacbocaa
end
