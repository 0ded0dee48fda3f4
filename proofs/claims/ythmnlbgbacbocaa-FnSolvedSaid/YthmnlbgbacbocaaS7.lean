/-
  For every input the law FnSolved returns true, and its arguments read as before. No condition.
-/
import Derived.Test.YthmnlbgbacbocaaS6
import Derived.Test.YthmnlbgbacbocaaRows
set_option linter.unusedVariables false
section
namespace Go.Proofs.Ythmnlbgbacbocaa
open Go.RowKit
theorem impl_MulBack (G F : Z.Fm) (c n : Int) (hr : Z.MultiplyFormulas G (Z.stepFm c n) = (F, 0)) {lo hi lo' hi' : Nat} {p q : Value} (w : World) (hm : G.pw.length ≤ 1048576) (hn : G.nm.size ≤ 1048576) (h : K.ints w lo hi p G.pw) (h' : K.ints w lo' hi' q [n]) :
    Calls Try.prog 24 #[.agg #[.int .i64 G.dg, .int .i64 G.tn, .string G.nm, p], .agg #[.int .i64 1000, .int .i64 0, .string ⟨#[UInt8.ofNat c.toNat]⟩, q]] w fun e w' => (∃ p', e = .returned (.tuple #[.agg #[.int .i64 F.dg, .int .i64 F.tn, .string F.nm, p'], .int .i64 0]) ∧ K.own w' w.heap.size w'.heap.size p' F.pw) ∧ K.Ext w w' := by
  have k := impl_MultiplyFormulas G (Z.stepFm c n) w hm hn h (by show ([n] : List Int).length ≤ 1048576; simp) (by show (1 : Nat) ≤ 1048576; decide) h'
  rw [hr] at k
  exact k
set_option maxRecDepth 100000 in
set_option maxHeartbeats 12800000 in
theorem law_FnSolved {n : Nat} {v : Value} (w : World) (h : K.byts w w.heap.size v n) :
    Calls Try.prog 7 #[v] w fun e w' => e = .returned (.bool true) ∧ K.Ext w w' := by
  have F0 : K.Ext w w := K.Ext.refl _
  rcases Nat.lt_or_ge 4096 n with hn | hn
  · go_enter Try.func7, Try.ntmps7
    go_wp2_with fail
    refine K.call (by with_reducible rfl) (by with_reducible rfl) (big_yes _ hn h) ?_
    rintro e w1 ⟨rfl, rfl⟩
    go_wp2_with fail
    go_ret
    exact ⟨rfl, F0⟩
  go_enter Try.func7, Try.ntmps7
  go_wp2_with fail
  refine K.call (by with_reducible rfl) (by with_reducible rfl) (big_no _ hn h) ?_
  rintro e w1 ⟨rfl, rfl⟩
  go_wp2_with fail
  refine K.call (by with_reducible rfl) (by with_reducible rfl) (DrawSolveFor_any _ hn (K.Ext.size (K.bex F0)) (h.ext (K.bex F0))) ?_
  rintro e w1 ⟨⟨E, pE, qE, c, rfl, ⟨a1, a2⟩, ⟨a3, a4⟩, hE1, hE2, c0, c1⟩, f1⟩
  obtain ⟨oEL, kEL, rfl, _⟩ := id (hE1)
  have IEL_1 : K.ints w1 0 w1.heap.size (.slice oEL E.L.pw.length kEL) E.L.pw := (hE1).mono (Nat.zero_le _) (by omega)
  obtain ⟨oER, kER, rfl, _⟩ := id (hE2)
  have IER_1 : K.ints w1 0 w1.heap.size (.slice oER E.R.pw.length kER) E.R.pw := (hE2).mono (Nat.zero_le _) (by omega)
  have F1 : K.Ext w w1 := K.Ext.trans (K.bex F0) f1
  clear f1
  go_wp2_with fail
  refine K.call (by with_reducible rfl) (by with_reducible rfl) (impl_SolveFor E c _ (by omega) (by omega) (by omega) (by omega) (K.bin IEL_1) (K.bin IER_1) ⟨c0, c1⟩) ?_
  rintro e w2 ⟨⟨pX, qX, mX, rfl, uX, vX, hX, jX⟩, f2⟩
  have JXL := K.own.ints hX
  obtain ⟨oXL, kXL, rfl, _⟩ := id (JXL)
  have IXL_2 : K.ints w2 0 w2.heap.size (.slice oXL ((Z.SolveFor E c).1.L).pw.length kXL) ((Z.SolveFor E c).1.L).pw := (JXL).mono (Nat.zero_le _) (by omega)
  have JXR := K.own.ints jX
  obtain ⟨oXR, kXR, rfl, _⟩ := id (JXR)
  have IXR_2 : K.ints w2 0 w2.heap.size (.slice oXR ((Z.SolveFor E c).1.R).pw.length kXR) ((Z.SolveFor E c).1.R).pw := (JXR).mono (Nat.zero_le _) (by omega)
  have F2 : K.Ext w w2 := K.Ext.trans (K.bex F1) f2
  have c2_0_0 : w2.cell? ⟨w1.heap.size, 0, none⟩ = some (.int .i64 E.L.dg) := f2.cell_of (by go_simp)
  have c2_0_1 : w2.cell? ⟨w1.heap.size, 1, none⟩ = some (.int .i64 E.L.tn) := f2.cell_of (by go_simp)
  have c2_0_2 : w2.cell? ⟨w1.heap.size, 2, none⟩ = some (.string E.L.nm) := f2.cell_of (by go_simp)
  have c2_0_3 : w2.cell? ⟨w1.heap.size, 3, none⟩ = some (.slice oEL E.L.pw.length kEL) := f2.cell_of (by go_simp)
  have c2_0_4 : w2.cell? ⟨w1.heap.size, 4, none⟩ = some (.int .i64 E.R.dg) := f2.cell_of (by go_simp)
  have c2_0_5 : w2.cell? ⟨w1.heap.size, 5, none⟩ = some (.int .i64 E.R.tn) := f2.cell_of (by go_simp)
  have c2_0_6 : w2.cell? ⟨w1.heap.size, 6, none⟩ = some (.string E.R.nm) := f2.cell_of (by go_simp)
  have c2_0_7 : w2.cell? ⟨w1.heap.size, 7, none⟩ = some (.slice oER E.R.pw.length kER) := f2.cell_of (by go_simp)
  have y2_0 : w1.heap.size < w2.heap.size := World.block_lt_of_cell? w2 _ c2_0_0
  have IEL_2 := K.ints.ext (K.bin IEL_1) f2
  have IER_2 := K.ints.ext (K.bin IER_1) f2
  clear IEL_1 IER_1 F1 f2
  go_wp2_with fail
  refine K.call (by with_reducible rfl) (by with_reducible rfl) (spec_SolveFor E c _ (by omega) (by omega) (by omega) (by omega) (K.bin IEL_2) (K.bin IER_2) ⟨c0, c1⟩) ?_
  rintro e w3 ⟨⟨pY, qY, rfl, hY, jY⟩, f3⟩
  obtain ⟨oYL, kYL, rfl, _⟩ := id (hY)
  have IYL_3 : K.ints w3 0 w3.heap.size (.slice oYL ((Z.SolveFor E c).1.L).pw.length kYL) ((Z.SolveFor E c).1.L).pw := (hY).mono (Nat.zero_le _) (by omega)
  obtain ⟨oYR, kYR, rfl, _⟩ := id (jY)
  have IYR_3 : K.ints w3 0 w3.heap.size (.slice oYR ((Z.SolveFor E c).1.R).pw.length kYR) ((Z.SolveFor E c).1.R).pw := (jY).mono (Nat.zero_le _) (by omega)
  have u3_0_1 : w1.heap.size < w2.heap.size + 1 := (by omega)
  have F3 : K.Ext w w3 := K.Ext.trans (K.bex F2) f3
  obtain ⟨c3_0_0, c3_0_1, c3_0_2, c3_0_3, c3_0_4, c3_0_5, c3_0_6, c3_0_7, y3_0⟩ := f3.q8 c2_0_0 c2_0_1 c2_0_2 c2_0_3 c2_0_4 c2_0_5 c2_0_6 c2_0_7
  have c3_1_0 : w3.cell? ⟨w2.heap.size, 0, none⟩ = some (.int .i64 ((Z.SolveFor E c).1.L).dg) := f3.cell_of (by go_simp)
  have c3_1_1 : w3.cell? ⟨w2.heap.size, 1, none⟩ = some (.int .i64 ((Z.SolveFor E c).1.L).tn) := f3.cell_of (by go_simp)
  have c3_1_2 : w3.cell? ⟨w2.heap.size, 2, none⟩ = some (.string ((Z.SolveFor E c).1.L).nm) := f3.cell_of (by go_simp)
  have c3_1_3 : w3.cell? ⟨w2.heap.size, 3, none⟩ = some (.slice oXL ((Z.SolveFor E c).1.L).pw.length kXL) := f3.cell_of (by go_simp)
  have c3_1_4 : w3.cell? ⟨w2.heap.size, 4, none⟩ = some (.int .i64 ((Z.SolveFor E c).1.R).dg) := f3.cell_of (by go_simp)
  have c3_1_5 : w3.cell? ⟨w2.heap.size, 5, none⟩ = some (.int .i64 ((Z.SolveFor E c).1.R).tn) := f3.cell_of (by go_simp)
  have c3_1_6 : w3.cell? ⟨w2.heap.size, 6, none⟩ = some (.string ((Z.SolveFor E c).1.R).nm) := f3.cell_of (by go_simp)
  have c3_1_7 : w3.cell? ⟨w2.heap.size, 7, none⟩ = some (.slice oXR ((Z.SolveFor E c).1.R).pw.length kXR) := f3.cell_of (by go_simp)
  have y3_1 : w2.heap.size < w3.heap.size := World.block_lt_of_cell? w3 _ c3_1_0
  have IEL_3 := K.ints.ext (K.bin IEL_2) f3
  have IER_3 := K.ints.ext (K.bin IER_2) f3
  have IXL_3 := K.ints.ext (K.bin IXL_2) f3
  have IXR_3 := K.ints.ext (K.bin IXR_2) f3
  clear c2_0_0 c2_0_1 c2_0_2 c2_0_3 c2_0_4 c2_0_5 c2_0_6 c2_0_7 y2_0 IEL_2 IER_2 IXL_2 IXR_2 F2 f3 u3_0_1
  go_wp2_with fail
  refine K.call (by with_reducible rfl) (by with_reducible rfl) (DrawIsSolvedFor_any _ hn (K.Ext.size (K.bex F3)) (h.ext (K.bex F3))) ?_
  rintro e w4 ⟨⟨A, pA, qA, b, rfl, ⟨b1, b2⟩, ⟨b3, b4⟩, hA1, hA2, bb0, bb1⟩, f4⟩
  obtain ⟨oAL, kAL, rfl, _⟩ := id (hA1)
  have IAL_4 : K.ints w4 0 w4.heap.size (.slice oAL A.L.pw.length kAL) A.L.pw := (hA1).mono (Nat.zero_le _) (by omega)
  obtain ⟨oAR, kAR, rfl, _⟩ := id (hA2)
  have IAR_4 : K.ints w4 0 w4.heap.size (.slice oAR A.R.pw.length kAR) A.R.pw := (hA2).mono (Nat.zero_le _) (by omega)
  have u4_1_1 : w2.heap.size < w3.heap.size + 1 := (by omega)
  have F4 : K.Ext w w4 := K.Ext.trans (K.bex F3) f4
  obtain ⟨c4_1_0, c4_1_1, c4_1_2, c4_1_3, c4_1_4, c4_1_5, c4_1_6, c4_1_7, y4_1⟩ := f4.q8 c3_1_0 c3_1_1 c3_1_2 c3_1_3 c3_1_4 c3_1_5 c3_1_6 c3_1_7
  have c4_2_0 : w4.cell? ⟨w3.heap.size, 0, none⟩ = some (.int .i64 ((Z.SolveFor E c).1.L).dg) := f4.cell_of (by go_simp)
  have c4_2_1 : w4.cell? ⟨w3.heap.size, 1, none⟩ = some (.int .i64 ((Z.SolveFor E c).1.L).tn) := f4.cell_of (by go_simp)
  have c4_2_2 : w4.cell? ⟨w3.heap.size, 2, none⟩ = some (.string ((Z.SolveFor E c).1.L).nm) := f4.cell_of (by go_simp)
  have c4_2_3 : w4.cell? ⟨w3.heap.size, 3, none⟩ = some (.slice oYL ((Z.SolveFor E c).1.L).pw.length kYL) := f4.cell_of (by go_simp)
  have c4_2_4 : w4.cell? ⟨w3.heap.size, 4, none⟩ = some (.int .i64 ((Z.SolveFor E c).1.R).dg) := f4.cell_of (by go_simp)
  have c4_2_5 : w4.cell? ⟨w3.heap.size, 5, none⟩ = some (.int .i64 ((Z.SolveFor E c).1.R).tn) := f4.cell_of (by go_simp)
  have c4_2_6 : w4.cell? ⟨w3.heap.size, 6, none⟩ = some (.string ((Z.SolveFor E c).1.R).nm) := f4.cell_of (by go_simp)
  have c4_2_7 : w4.cell? ⟨w3.heap.size, 7, none⟩ = some (.slice oYR ((Z.SolveFor E c).1.R).pw.length kYR) := f4.cell_of (by go_simp)
  have y4_2 : w3.heap.size < w4.heap.size := World.block_lt_of_cell? w4 _ c4_2_0
  have IXL_4 := K.ints.ext (K.bin IXL_3) f4
  have IXR_4 := K.ints.ext (K.bin IXR_3) f4
  have IYL_4 := K.ints.ext (K.bin IYL_3) f4
  have IYR_4 := K.ints.ext (K.bin IYR_3) f4
  clear c3_0_0 c3_0_1 c3_0_2 c3_0_3 c3_0_4 c3_0_5 c3_0_6 c3_0_7 y3_0 c3_1_0 c3_1_1 c3_1_2 c3_1_3 c3_1_4 c3_1_5 c3_1_6 c3_1_7 y3_1 IXL_3 IXR_3 IYL_3 IYR_3 F3 f4 u4_1_1
  go_wp2_with fail
  refine K.call (by with_reducible rfl) (by with_reducible rfl) (impl_IsSolvedFor A b _ (by omega) (by omega) (by omega) (by omega) (K.bin IAL_4) (K.bin IAR_4) ⟨bb0, bb1⟩) ?_
  rintro e w5 ⟨rfl, f5⟩
  have u5_1_1 : w2.heap.size < w4.heap.size + 1 := (by omega)
  have u5_2_1 : w3.heap.size < w4.heap.size + 1 := (by omega)
  have F5 : K.Ext w w5 := K.Ext.trans (K.bex F4) f5
  obtain ⟨c5_1_0, c5_1_1, c5_1_2, c5_1_3, c5_1_4, c5_1_5, c5_1_6, c5_1_7, y5_1⟩ := f5.q8 c4_1_0 c4_1_1 c4_1_2 c4_1_3 c4_1_4 c4_1_5 c4_1_6 c4_1_7
  obtain ⟨c5_2_0, c5_2_1, c5_2_2, c5_2_3, c5_2_4, c5_2_5, c5_2_6, c5_2_7, y5_2⟩ := f5.q8 c4_2_0 c4_2_1 c4_2_2 c4_2_3 c4_2_4 c4_2_5 c4_2_6 c4_2_7
  have c5_3_0 : w5.cell? ⟨w4.heap.size, 0, none⟩ = some (.int .i64 A.L.dg) := f5.cell_of (by go_simp)
  have c5_3_1 : w5.cell? ⟨w4.heap.size, 1, none⟩ = some (.int .i64 A.L.tn) := f5.cell_of (by go_simp)
  have c5_3_2 : w5.cell? ⟨w4.heap.size, 2, none⟩ = some (.string A.L.nm) := f5.cell_of (by go_simp)
  have c5_3_3 : w5.cell? ⟨w4.heap.size, 3, none⟩ = some (.slice oAL A.L.pw.length kAL) := f5.cell_of (by go_simp)
  have c5_3_4 : w5.cell? ⟨w4.heap.size, 4, none⟩ = some (.int .i64 A.R.dg) := f5.cell_of (by go_simp)
  have c5_3_5 : w5.cell? ⟨w4.heap.size, 5, none⟩ = some (.int .i64 A.R.tn) := f5.cell_of (by go_simp)
  have c5_3_6 : w5.cell? ⟨w4.heap.size, 6, none⟩ = some (.string A.R.nm) := f5.cell_of (by go_simp)
  have c5_3_7 : w5.cell? ⟨w4.heap.size, 7, none⟩ = some (.slice oAR A.R.pw.length kAR) := f5.cell_of (by go_simp)
  have y5_3 : w4.heap.size < w5.heap.size := World.block_lt_of_cell? w5 _ c5_3_0
  have IXL_5 := K.ints.ext (K.bin IXL_4) f5
  have IXR_5 := K.ints.ext (K.bin IXR_4) f5
  have IYL_5 := K.ints.ext (K.bin IYL_4) f5
  have IYR_5 := K.ints.ext (K.bin IYR_4) f5
  have IAL_5 := K.ints.ext (K.bin IAL_4) f5
  have IAR_5 := K.ints.ext (K.bin IAR_4) f5
  clear c4_1_0 c4_1_1 c4_1_2 c4_1_3 c4_1_4 c4_1_5 c4_1_6 c4_1_7 y4_1 c4_2_0 c4_2_1 c4_2_2 c4_2_3 c4_2_4 c4_2_5 c4_2_6 c4_2_7 y4_2 IXL_4 IXR_4 IYL_4 IYR_4 IAL_4 IAR_4 F4 f5 u5_1_1 u5_2_1
  go_wp2_with fail
  refine K.call (by with_reducible rfl) (by with_reducible rfl) (spec_IsSolvedFor A b _ (by omega) (by omega) (by omega) (by omega) (K.bin IAL_5) (K.bin IAR_5) ⟨bb0, bb1⟩) ?_
  rintro e w6 ⟨rfl, f6⟩
  have F6 : K.Ext w w6 := K.Ext.trans (K.bex F5) f6
  obtain ⟨c6_1_0, c6_1_1, c6_1_2, c6_1_3, c6_1_4, c6_1_5, c6_1_6, c6_1_7, y6_1⟩ := f6.q8 c5_1_0 c5_1_1 c5_1_2 c5_1_3 c5_1_4 c5_1_5 c5_1_6 c5_1_7
  obtain ⟨c6_2_0, c6_2_1, c6_2_2, c6_2_3, c6_2_4, c6_2_5, c6_2_6, c6_2_7, y6_2⟩ := f6.q8 c5_2_0 c5_2_1 c5_2_2 c5_2_3 c5_2_4 c5_2_5 c5_2_6 c5_2_7
  obtain ⟨c6_3_0, c6_3_1, c6_3_2, c6_3_3, c6_3_4, c6_3_5, c6_3_6, c6_3_7, y6_3⟩ := f6.q8 c5_3_0 c5_3_1 c5_3_2 c5_3_3 c5_3_4 c5_3_5 c5_3_6 c5_3_7
  have IXL_6 := K.ints.ext (K.bin IXL_5) f6
  have IXR_6 := K.ints.ext (K.bin IXR_5) f6
  have IYL_6 := K.ints.ext (K.bin IYL_5) f6
  have IYR_6 := K.ints.ext (K.bin IYR_5) f6
  have IAL_6 := K.ints.ext (K.bin IAL_5) f6
  have IAR_6 := K.ints.ext (K.bin IAR_5) f6
  clear c5_1_0 c5_1_1 c5_1_2 c5_1_3 c5_1_4 c5_1_5 c5_1_6 c5_1_7 y5_1 c5_2_0 c5_2_1 c5_2_2 c5_2_3 c5_2_4 c5_2_5 c5_2_6 c5_2_7 y5_2 c5_3_0 c5_3_1 c5_3_2 c5_3_3 c5_3_4 c5_3_5 c5_3_6 c5_3_7 y5_3 IXL_5 IXR_5 IYL_5 IYR_5 IAL_5 IAR_5 F5 f6
  go_wp2_with fail
  refine K.call (by with_reducible rfl) (by with_reducible rfl) (DrawSplitPower_any _ hn (K.Ext.size (K.bex F6)) (h.ext (K.bex F6))) ?_
  rintro e w7 ⟨⟨F, pF, x, rfl, ⟨d1, d2⟩, hF1, x0, x1⟩, f7⟩
  obtain ⟨oF, kF, rfl, _⟩ := id (hF1)
  have IF_7 : K.ints w7 0 w7.heap.size (.slice oF F.pw.length kF) F.pw := (hF1).mono (Nat.zero_le _) (by omega)
  have F7 : K.Ext w w7 := K.Ext.trans (K.bex F6) f7
  obtain ⟨c7_1_0, c7_1_1, c7_1_2, c7_1_3, c7_1_4, c7_1_5, c7_1_6, c7_1_7, y7_1⟩ := f7.q8 c6_1_0 c6_1_1 c6_1_2 c6_1_3 c6_1_4 c6_1_5 c6_1_6 c6_1_7
  obtain ⟨c7_2_0, c7_2_1, c7_2_2, c7_2_3, c7_2_4, c7_2_5, c7_2_6, c7_2_7, y7_2⟩ := f7.q8 c6_2_0 c6_2_1 c6_2_2 c6_2_3 c6_2_4 c6_2_5 c6_2_6 c6_2_7
  have IXL_7 := K.ints.ext (K.bin IXL_6) f7
  have IXR_7 := K.ints.ext (K.bin IXR_6) f7
  have IYL_7 := K.ints.ext (K.bin IYL_6) f7
  have IYR_7 := K.ints.ext (K.bin IYR_6) f7
  clear c6_1_0 c6_1_1 c6_1_2 c6_1_3 c6_1_4 c6_1_5 c6_1_6 c6_1_7 y6_1 c6_2_0 c6_2_1 c6_2_2 c6_2_3 c6_2_4 c6_2_5 c6_2_6 c6_2_7 y6_2 c6_3_0 c6_3_1 c6_3_2 c6_3_3 c6_3_4 c6_3_5 c6_3_6 c6_3_7 y6_3 IXL_6 IXR_6 IYL_6 IYR_6 F6 f7
  go_wp2_with fail
  refine K.call (by with_reducible rfl) (by with_reducible rfl) (impl_SplitPower F x _ (by omega) (by omega) (K.bin IF_7) ⟨x0, x1⟩) ?_
  rintro e w8 ⟨⟨pG, rfl, hG⟩, f8⟩
  have JG := K.own.ints hG
  obtain ⟨oG, kG, rfl, _⟩ := id (JG)
  have IG_8 : K.ints w8 0 w8.heap.size (.slice oG ((Z.SplitPower F x).1).pw.length kG) ((Z.SplitPower F x).1).pw := (JG).mono (Nat.zero_le _) (by omega)
  have u8_1_1 : w2.heap.size < w7.heap.size + 1 := (by omega)
  have u8_2_1 : w3.heap.size < w7.heap.size + 1 := (by omega)
  have F8 : K.Ext w w8 := K.Ext.trans (K.bex F7) f8
  obtain ⟨c8_1_0, c8_1_1, c8_1_2, c8_1_3, c8_1_4, c8_1_5, c8_1_6, c8_1_7, y8_1⟩ := f8.q8 c7_1_0 c7_1_1 c7_1_2 c7_1_3 c7_1_4 c7_1_5 c7_1_6 c7_1_7
  obtain ⟨c8_2_0, c8_2_1, c8_2_2, c8_2_3, c8_2_4, c8_2_5, c8_2_6, c8_2_7, y8_2⟩ := f8.q8 c7_2_0 c7_2_1 c7_2_2 c7_2_3 c7_2_4 c7_2_5 c7_2_6 c7_2_7
  have c8_4_0 : w8.cell? ⟨w7.heap.size, 0, none⟩ = some (.int .i64 F.dg) := f8.cell_of (by go_simp)
  have c8_4_1 : w8.cell? ⟨w7.heap.size, 1, none⟩ = some (.int .i64 F.tn) := f8.cell_of (by go_simp)
  have c8_4_2 : w8.cell? ⟨w7.heap.size, 2, none⟩ = some (.string F.nm) := f8.cell_of (by go_simp)
  have c8_4_3 : w8.cell? ⟨w7.heap.size, 3, none⟩ = some (.slice oF F.pw.length kF) := f8.cell_of (by go_simp)
  have y8_4 : w7.heap.size < w8.heap.size := World.block_lt_of_cell? w8 _ c8_4_0
  have IXL_8 := K.ints.ext (K.bin IXL_7) f8
  have IXR_8 := K.ints.ext (K.bin IXR_7) f8
  have IYL_8 := K.ints.ext (K.bin IYL_7) f8
  have IYR_8 := K.ints.ext (K.bin IYR_7) f8
  have IF_8 := K.ints.ext (K.bin IF_7) f8
  clear c7_1_0 c7_1_1 c7_1_2 c7_1_3 c7_1_4 c7_1_5 c7_1_6 c7_1_7 y7_1 c7_2_0 c7_2_1 c7_2_2 c7_2_3 c7_2_4 c7_2_5 c7_2_6 c7_2_7 y7_2 IXL_7 IXR_7 IYL_7 IYR_7 IF_7 F7 f8 u8_1_1 u8_2_1
  go_wp2_with fail
  refine K.call (by with_reducible rfl) (by with_reducible rfl) (spec_SplitPower F x _ (by omega) (by omega) (K.bin IF_8) ⟨x0, x1⟩) ?_
  rintro e w9 ⟨⟨pR, rfl, hR⟩, f9⟩
  obtain ⟨oR, kR, rfl, _⟩ := id (hR)
  have IR_9 : K.ints w9 0 w9.heap.size (.slice oR ((Z.SplitPower F x).1).pw.length kR) ((Z.SplitPower F x).1).pw := (hR).mono (Nat.zero_le _) (by omega)
  have u9_1_1 : w2.heap.size < w8.heap.size + 1 := (by omega)
  have u9_2_1 : w3.heap.size < w8.heap.size + 1 := (by omega)
  have u9_4_1 : w7.heap.size < w8.heap.size + 1 := (by omega)
  have F9 : K.Ext w w9 := K.Ext.trans (K.bex F8) f9
  obtain ⟨c9_1_0, c9_1_1, c9_1_2, c9_1_3, c9_1_4, c9_1_5, c9_1_6, c9_1_7, y9_1⟩ := f9.q8 c8_1_0 c8_1_1 c8_1_2 c8_1_3 c8_1_4 c8_1_5 c8_1_6 c8_1_7
  obtain ⟨c9_2_0, c9_2_1, c9_2_2, c9_2_3, c9_2_4, c9_2_5, c9_2_6, c9_2_7, y9_2⟩ := f9.q8 c8_2_0 c8_2_1 c8_2_2 c8_2_3 c8_2_4 c8_2_5 c8_2_6 c8_2_7
  obtain ⟨c9_4_0, c9_4_1, c9_4_2, c9_4_3, y9_4⟩ := f9.q4 c8_4_0 c8_4_1 c8_4_2 c8_4_3
  have c9_5_0 : w9.cell? ⟨w8.heap.size, 0, none⟩ = some (.int .i64 ((Z.SplitPower F x).1).dg) := f9.cell_of (by go_simp)
  have c9_5_1 : w9.cell? ⟨w8.heap.size, 1, none⟩ = some (.int .i64 ((Z.SplitPower F x).1).tn) := f9.cell_of (by go_simp)
  have c9_5_2 : w9.cell? ⟨w8.heap.size, 2, none⟩ = some (.string ((Z.SplitPower F x).1).nm) := f9.cell_of (by go_simp)
  have c9_5_3 : w9.cell? ⟨w8.heap.size, 3, none⟩ = some (.slice oG ((Z.SplitPower F x).1).pw.length kG) := f9.cell_of (by go_simp)
  have y9_5 : w8.heap.size < w9.heap.size := World.block_lt_of_cell? w9 _ c9_5_0
  have IXL_9 := K.ints.ext (K.bin IXL_8) f9
  have IXR_9 := K.ints.ext (K.bin IXR_8) f9
  have IYL_9 := K.ints.ext (K.bin IYL_8) f9
  have IYR_9 := K.ints.ext (K.bin IYR_8) f9
  have IF_9 := K.ints.ext (K.bin IF_8) f9
  have IG_9 := K.ints.ext (K.bin IG_8) f9
  clear c8_1_0 c8_1_1 c8_1_2 c8_1_3 c8_1_4 c8_1_5 c8_1_6 c8_1_7 y8_1 c8_2_0 c8_2_1 c8_2_2 c8_2_3 c8_2_4 c8_2_5 c8_2_6 c8_2_7 y8_2 c8_4_0 c8_4_1 c8_4_2 c8_4_3 y8_4 IXL_8 IXR_8 IYL_8 IYR_8 IF_8 IG_8 F8 f9 u9_1_1 u9_2_1 u9_4_1
  go_wp2_with fail
  refine K.call (by with_reducible rfl) (by with_reducible rfl) (DrawCheckValues_any _ hn (K.Ext.size (K.bex F9)) (h.ext (K.bex F9))) ?_
  rintro e w10 ⟨⟨H, pH, qH, N, vV, vs, u, rfl, ⟨h1, h2⟩, ⟨h3, h4⟩, hH1, hH2, hN, hvs, hV, u0, u1⟩, f10⟩
  obtain ⟨oHL, kHL, rfl, _⟩ := id (hH1)
  have IHL_10 : K.ints w10 0 w10.heap.size (.slice oHL H.L.pw.length kHL) H.L.pw := (hH1).mono (Nat.zero_le _) (by omega)
  obtain ⟨oHR, kHR, rfl, _⟩ := id (hH2)
  have IHR_10 : K.ints w10 0 w10.heap.size (.slice oHR H.R.pw.length kHR) H.R.pw := (hH2).mono (Nat.zero_le _) (by omega)
  obtain ⟨oV, kV, rfl, _⟩ := id (hV)
  have IV_10 : K.recs false K.FgR w10 0 w10.heap.size (.slice oV vs.length kV) vs := K.recs.mono (hV) (Nat.zero_le _) (by omega)
  have u10_1_1 : w2.heap.size < w9.heap.size + 1 := (by omega)
  have u10_2_1 : w3.heap.size < w9.heap.size + 1 := (by omega)
  have u10_4_1 : w7.heap.size < w9.heap.size + 1 := (by omega)
  have u10_5_1 : w8.heap.size < w9.heap.size + 1 := (by omega)
  have F10 : K.Ext w w10 := K.Ext.trans (K.bex F9) f10
  obtain ⟨c10_1_0, c10_1_1, c10_1_2, c10_1_3, c10_1_4, c10_1_5, c10_1_6, c10_1_7, y10_1⟩ := f10.q8 c9_1_0 c9_1_1 c9_1_2 c9_1_3 c9_1_4 c9_1_5 c9_1_6 c9_1_7
  obtain ⟨c10_2_0, c10_2_1, c10_2_2, c10_2_3, c10_2_4, c10_2_5, c10_2_6, c10_2_7, y10_2⟩ := f10.q8 c9_2_0 c9_2_1 c9_2_2 c9_2_3 c9_2_4 c9_2_5 c9_2_6 c9_2_7
  obtain ⟨c10_4_0, c10_4_1, c10_4_2, c10_4_3, y10_4⟩ := f10.q4 c9_4_0 c9_4_1 c9_4_2 c9_4_3
  obtain ⟨c10_5_0, c10_5_1, c10_5_2, c10_5_3, y10_5⟩ := f10.q4 c9_5_0 c9_5_1 c9_5_2 c9_5_3
  have c10_6_0 : w10.cell? ⟨w9.heap.size, 0, none⟩ = some (.int .i64 ((Z.SplitPower F x).1).dg) := f10.cell_of (by go_simp)
  have c10_6_1 : w10.cell? ⟨w9.heap.size, 1, none⟩ = some (.int .i64 ((Z.SplitPower F x).1).tn) := f10.cell_of (by go_simp)
  have c10_6_2 : w10.cell? ⟨w9.heap.size, 2, none⟩ = some (.string ((Z.SplitPower F x).1).nm) := f10.cell_of (by go_simp)
  have c10_6_3 : w10.cell? ⟨w9.heap.size, 3, none⟩ = some (.slice oR ((Z.SplitPower F x).1).pw.length kR) := f10.cell_of (by go_simp)
  have y10_6 : w9.heap.size < w10.heap.size := World.block_lt_of_cell? w10 _ c10_6_0
  have IXL_10 := K.ints.ext (K.bin IXL_9) f10
  have IXR_10 := K.ints.ext (K.bin IXR_9) f10
  have IYL_10 := K.ints.ext (K.bin IYL_9) f10
  have IYR_10 := K.ints.ext (K.bin IYR_9) f10
  have IF_10 := K.ints.ext (K.bin IF_9) f10
  have IG_10 := K.ints.ext (K.bin IG_9) f10
  have IR_10 := K.ints.ext (K.bin IR_9) f10
  clear c9_1_0 c9_1_1 c9_1_2 c9_1_3 c9_1_4 c9_1_5 c9_1_6 c9_1_7 y9_1 c9_2_0 c9_2_1 c9_2_2 c9_2_3 c9_2_4 c9_2_5 c9_2_6 c9_2_7 y9_2 c9_4_0 c9_4_1 c9_4_2 c9_4_3 y9_4 c9_5_0 c9_5_1 c9_5_2 c9_5_3 y9_5 IXL_9 IXR_9 IYL_9 IYR_9 IF_9 IG_9 IR_9 F9 f10 u10_1_1 u10_2_1 u10_4_1 u10_5_1
  go_wp2_with fail
  refine K.call (by with_reducible rfl) (by with_reducible rfl) (impl_CheckValues H N vs u _ (by omega) (by omega) (by omega) (by omega) (by omega) (K.bin IHL_10) (K.bin IHR_10) (by omega) (K.bre IV_10)) ?_
  rintro e w11 ⟨rfl, f11⟩
  have u11_1_1 : w2.heap.size < w10.heap.size + 1 := (by omega)
  have u11_2_1 : w3.heap.size < w10.heap.size + 1 := (by omega)
  have u11_4_1 : w7.heap.size < w10.heap.size + 1 := (by omega)
  have u11_5_1 : w8.heap.size < w10.heap.size + 1 := (by omega)
  have u11_6_1 : w9.heap.size < w10.heap.size + 1 := (by omega)
  have F11 : K.Ext w w11 := K.Ext.trans (K.bex F10) f11
  obtain ⟨c11_1_0, c11_1_1, c11_1_2, c11_1_3, c11_1_4, c11_1_5, c11_1_6, c11_1_7, y11_1⟩ := f11.q8 c10_1_0 c10_1_1 c10_1_2 c10_1_3 c10_1_4 c10_1_5 c10_1_6 c10_1_7
  obtain ⟨c11_2_0, c11_2_1, c11_2_2, c11_2_3, c11_2_4, c11_2_5, c11_2_6, c11_2_7, y11_2⟩ := f11.q8 c10_2_0 c10_2_1 c10_2_2 c10_2_3 c10_2_4 c10_2_5 c10_2_6 c10_2_7
  obtain ⟨c11_4_0, c11_4_1, c11_4_2, c11_4_3, y11_4⟩ := f11.q4 c10_4_0 c10_4_1 c10_4_2 c10_4_3
  obtain ⟨c11_5_0, c11_5_1, c11_5_2, c11_5_3, y11_5⟩ := f11.q4 c10_5_0 c10_5_1 c10_5_2 c10_5_3
  obtain ⟨c11_6_0, c11_6_1, c11_6_2, c11_6_3, y11_6⟩ := f11.q4 c10_6_0 c10_6_1 c10_6_2 c10_6_3
  have c11_7_0 : w11.cell? ⟨w10.heap.size, 0, none⟩ = some (.int .i64 H.L.dg) := f11.cell_of (by go_simp)
  have c11_7_1 : w11.cell? ⟨w10.heap.size, 1, none⟩ = some (.int .i64 H.L.tn) := f11.cell_of (by go_simp)
  have c11_7_2 : w11.cell? ⟨w10.heap.size, 2, none⟩ = some (.string H.L.nm) := f11.cell_of (by go_simp)
  have c11_7_3 : w11.cell? ⟨w10.heap.size, 3, none⟩ = some (.slice oHL H.L.pw.length kHL) := f11.cell_of (by go_simp)
  have c11_7_4 : w11.cell? ⟨w10.heap.size, 4, none⟩ = some (.int .i64 H.R.dg) := f11.cell_of (by go_simp)
  have c11_7_5 : w11.cell? ⟨w10.heap.size, 5, none⟩ = some (.int .i64 H.R.tn) := f11.cell_of (by go_simp)
  have c11_7_6 : w11.cell? ⟨w10.heap.size, 6, none⟩ = some (.string H.R.nm) := f11.cell_of (by go_simp)
  have c11_7_7 : w11.cell? ⟨w10.heap.size, 7, none⟩ = some (.slice oHR H.R.pw.length kHR) := f11.cell_of (by go_simp)
  have y11_7 : w10.heap.size < w11.heap.size := World.block_lt_of_cell? w11 _ c11_7_0
  have IXL_11 := K.ints.ext (K.bin IXL_10) f11
  have IXR_11 := K.ints.ext (K.bin IXR_10) f11
  have IYL_11 := K.ints.ext (K.bin IYL_10) f11
  have IYR_11 := K.ints.ext (K.bin IYR_10) f11
  have IF_11 := K.ints.ext (K.bin IF_10) f11
  have IG_11 := K.ints.ext (K.bin IG_10) f11
  have IR_11 := K.ints.ext (K.bin IR_10) f11
  have IHL_11 := K.ints.ext (K.bin IHL_10) f11
  have IHR_11 := K.ints.ext (K.bin IHR_10) f11
  have IV_11 := K.recs.ext (K.bre IV_10) f11
  clear c10_1_0 c10_1_1 c10_1_2 c10_1_3 c10_1_4 c10_1_5 c10_1_6 c10_1_7 y10_1 c10_2_0 c10_2_1 c10_2_2 c10_2_3 c10_2_4 c10_2_5 c10_2_6 c10_2_7 y10_2 c10_4_0 c10_4_1 c10_4_2 c10_4_3 y10_4 c10_5_0 c10_5_1 c10_5_2 c10_5_3 y10_5 c10_6_0 c10_6_1 c10_6_2 c10_6_3 y10_6 IXL_10 IXR_10 IYL_10 IYR_10 IF_10 IG_10 IR_10 IHL_10 IHR_10 IV_10 F10 f11 u11_1_1 u11_2_1 u11_4_1 u11_5_1 u11_6_1
  go_wp2_with fail
  refine K.call (by with_reducible rfl) (by with_reducible rfl) (spec_CheckValues H N vs u _ (by omega) (by omega) (by omega) (by omega) (by omega) (K.bin IHL_11) (K.bin IHR_11) (by omega) (K.bre IV_11)) ?_
  rintro e w12 ⟨rfl, f12⟩
  have F12 : K.Ext w w12 := K.Ext.trans (K.bex F11) f12
  obtain ⟨c12_1_0, c12_1_1, c12_1_2, c12_1_3, c12_1_4, c12_1_5, c12_1_6, c12_1_7, y12_1⟩ := f12.q8 c11_1_0 c11_1_1 c11_1_2 c11_1_3 c11_1_4 c11_1_5 c11_1_6 c11_1_7
  obtain ⟨c12_2_0, c12_2_1, c12_2_2, c12_2_3, c12_2_4, c12_2_5, c12_2_6, c12_2_7, y12_2⟩ := f12.q8 c11_2_0 c11_2_1 c11_2_2 c11_2_3 c11_2_4 c11_2_5 c11_2_6 c11_2_7
  obtain ⟨c12_4_0, c12_4_1, c12_4_2, c12_4_3, y12_4⟩ := f12.q4 c11_4_0 c11_4_1 c11_4_2 c11_4_3
  obtain ⟨c12_5_0, c12_5_1, c12_5_2, c12_5_3, y12_5⟩ := f12.q4 c11_5_0 c11_5_1 c11_5_2 c11_5_3
  obtain ⟨c12_6_0, c12_6_1, c12_6_2, c12_6_3, y12_6⟩ := f12.q4 c11_6_0 c11_6_1 c11_6_2 c11_6_3
  obtain ⟨c12_7_0, c12_7_1, c12_7_2, c12_7_3, c12_7_4, c12_7_5, c12_7_6, c12_7_7, y12_7⟩ := f12.q8 c11_7_0 c11_7_1 c11_7_2 c11_7_3 c11_7_4 c11_7_5 c11_7_6 c11_7_7
  have IXL_12 := K.ints.ext (K.bin IXL_11) f12
  have IXR_12 := K.ints.ext (K.bin IXR_11) f12
  have IYL_12 := K.ints.ext (K.bin IYL_11) f12
  have IYR_12 := K.ints.ext (K.bin IYR_11) f12
  have IF_12 := K.ints.ext (K.bin IF_11) f12
  have IG_12 := K.ints.ext (K.bin IG_11) f12
  have IR_12 := K.ints.ext (K.bin IR_11) f12
  have IHL_12 := K.ints.ext (K.bin IHL_11) f12
  have IHR_12 := K.ints.ext (K.bin IHR_11) f12
  have IV_12 := K.recs.ext (K.bre IV_11) f12
  clear c11_1_0 c11_1_1 c11_1_2 c11_1_3 c11_1_4 c11_1_5 c11_1_6 c11_1_7 y11_1 c11_2_0 c11_2_1 c11_2_2 c11_2_3 c11_2_4 c11_2_5 c11_2_6 c11_2_7 y11_2 c11_4_0 c11_4_1 c11_4_2 c11_4_3 y11_4 c11_5_0 c11_5_1 c11_5_2 c11_5_3 y11_5 c11_6_0 c11_6_1 c11_6_2 c11_6_3 y11_6 c11_7_0 c11_7_1 c11_7_2 c11_7_3 c11_7_4 c11_7_5 c11_7_6 c11_7_7 y11_7 IXL_11 IXR_11 IYL_11 IYR_11 IF_11 IG_11 IR_11 IHL_11 IHR_11 IV_11 F11 f12
  obtain ⟨m1, m2⟩ := Z.SolveFor_le E c
  obtain ⟨m3, m4⟩ := Z.SolveFor_nm E c
  obtain ⟨q1, q2⟩ := Z.SplitPower_le F x (by omega) (by omega)
  go_wp2_with fail
  refine K.call (by with_reducible rfl) (by with_reducible rfl) (likeEquations_same (Z.SolveFor E c).1 _ _ _ _ _ m1 m2 (K.bin IXL_12) (K.bin IXR_12) (K.bin IYL_12) (K.bin IYR_12)) ?_
  rintro e w13 ⟨rfl, f13⟩
  have F13 : K.Ext w w13 := K.Ext.trans (K.bex F12) f13
  obtain ⟨c13_1_0, c13_1_1, c13_1_2, c13_1_3, c13_1_4, c13_1_5, c13_1_6, c13_1_7, y13_1⟩ := f13.q8 c12_1_0 c12_1_1 c12_1_2 c12_1_3 c12_1_4 c12_1_5 c12_1_6 c12_1_7
  obtain ⟨c13_2_0, c13_2_1, c13_2_2, c13_2_3, c13_2_4, c13_2_5, c13_2_6, c13_2_7, y13_2⟩ := f13.q8 c12_2_0 c12_2_1 c12_2_2 c12_2_3 c12_2_4 c12_2_5 c12_2_6 c12_2_7
  obtain ⟨c13_4_0, c13_4_1, c13_4_2, c13_4_3, y13_4⟩ := f13.q4 c12_4_0 c12_4_1 c12_4_2 c12_4_3
  obtain ⟨c13_5_0, c13_5_1, c13_5_2, c13_5_3, y13_5⟩ := f13.q4 c12_5_0 c12_5_1 c12_5_2 c12_5_3
  obtain ⟨c13_6_0, c13_6_1, c13_6_2, c13_6_3, y13_6⟩ := f13.q4 c12_6_0 c12_6_1 c12_6_2 c12_6_3
  obtain ⟨c13_7_0, c13_7_1, c13_7_2, c13_7_3, c13_7_4, c13_7_5, c13_7_6, c13_7_7, y13_7⟩ := f13.q8 c12_7_0 c12_7_1 c12_7_2 c12_7_3 c12_7_4 c12_7_5 c12_7_6 c12_7_7
  have IXL_13 := K.ints.ext (K.bin IXL_12) f13
  have IXR_13 := K.ints.ext (K.bin IXR_12) f13
  have IYL_13 := K.ints.ext (K.bin IYL_12) f13
  have IYR_13 := K.ints.ext (K.bin IYR_12) f13
  have IF_13 := K.ints.ext (K.bin IF_12) f13
  have IG_13 := K.ints.ext (K.bin IG_12) f13
  have IR_13 := K.ints.ext (K.bin IR_12) f13
  have IHL_13 := K.ints.ext (K.bin IHL_12) f13
  have IHR_13 := K.ints.ext (K.bin IHR_12) f13
  have IV_13 := K.recs.ext (K.bre IV_12) f13
  clear c12_1_0 c12_1_1 c12_1_2 c12_1_3 c12_1_4 c12_1_5 c12_1_6 c12_1_7 y12_1 c12_2_0 c12_2_1 c12_2_2 c12_2_3 c12_2_4 c12_2_5 c12_2_6 c12_2_7 y12_2 c12_4_0 c12_4_1 c12_4_2 c12_4_3 y12_4 c12_5_0 c12_5_1 c12_5_2 c12_5_3 y12_5 c12_6_0 c12_6_1 c12_6_2 c12_6_3 y12_6 c12_7_0 c12_7_1 c12_7_2 c12_7_3 c12_7_4 c12_7_5 c12_7_6 c12_7_7 y12_7 IXL_12 IXR_12 IYL_12 IYR_12 IF_12 IG_12 IR_12 IHL_12 IHR_12 IV_12 F12 f13
  go_wp2_with fail
  refine K.call (by with_reducible rfl) (by with_reducible rfl) (likeFormulas_same (Z.SplitPower F x).1 _ _ _ _ _ _ _ q1 (K.bin IG_13) (K.bin IR_13)) ?_
  rintro e w14 ⟨rfl, f14⟩
  have F14 : K.Ext w w14 := K.Ext.trans (K.bex F13) f14
  obtain ⟨c14_1_0, c14_1_1, c14_1_2, c14_1_3, c14_1_4, c14_1_5, c14_1_6, c14_1_7, y14_1⟩ := f14.q8 c13_1_0 c13_1_1 c13_1_2 c13_1_3 c13_1_4 c13_1_5 c13_1_6 c13_1_7
  obtain ⟨c14_4_0, c14_4_1, c14_4_2, c14_4_3, y14_4⟩ := f14.q4 c13_4_0 c13_4_1 c13_4_2 c13_4_3
  obtain ⟨c14_5_0, c14_5_1, c14_5_2, c14_5_3, y14_5⟩ := f14.q4 c13_5_0 c13_5_1 c13_5_2 c13_5_3
  obtain ⟨c14_6_0, c14_6_1, c14_6_2, c14_6_3, y14_6⟩ := f14.q4 c13_6_0 c13_6_1 c13_6_2 c13_6_3
  obtain ⟨c14_7_0, c14_7_1, c14_7_2, c14_7_3, c14_7_4, c14_7_5, c14_7_6, c14_7_7, y14_7⟩ := f14.q8 c13_7_0 c13_7_1 c13_7_2 c13_7_3 c13_7_4 c13_7_5 c13_7_6 c13_7_7
  have IXL_14 := K.ints.ext (K.bin IXL_13) f14
  have IXR_14 := K.ints.ext (K.bin IXR_13) f14
  have IF_14 := K.ints.ext (K.bin IF_13) f14
  have IG_14 := K.ints.ext (K.bin IG_13) f14
  have IR_14 := K.ints.ext (K.bin IR_13) f14
  have IHL_14 := K.ints.ext (K.bin IHL_13) f14
  have IHR_14 := K.ints.ext (K.bin IHR_13) f14
  have IV_14 := K.recs.ext (K.bre IV_13) f14
  clear c13_1_0 c13_1_1 c13_1_2 c13_1_3 c13_1_4 c13_1_5 c13_1_6 c13_1_7 y13_1 c13_2_0 c13_2_1 c13_2_2 c13_2_3 c13_2_4 c13_2_5 c13_2_6 c13_2_7 y13_2 c13_4_0 c13_4_1 c13_4_2 c13_4_3 y13_4 c13_5_0 c13_5_1 c13_5_2 c13_5_3 y13_5 c13_6_0 c13_6_1 c13_6_2 c13_6_3 y13_6 c13_7_0 c13_7_1 c13_7_2 c13_7_3 c13_7_4 c13_7_5 c13_7_6 c13_7_7 y13_7 IXL_13 IXR_13 IF_13 IG_13 IR_13 IHL_13 IHR_13 IV_13 F13 f14
  by_cases h3_ : (Z.SplitPower F x).2.2 = 0
  · as_aux_lemma =>
      obtain ⟨hF, hmul, hex⟩ := Z.split_law ⟨x0, x1⟩ h3_
      have hcv : (convert 22 9 (.slice (some ⟨w14.heap.size, 0, none⟩) 1 1)).run Try.prog (w14.alloc (.cells #[.int .u8 x] 5)) = .ok (.string ⟨#[UInt8.ofNat x.toNat]⟩) (w14.alloc (.cells #[.int .u8 x] 5)) := K.byte_str Try.underlying22 Try.underlying5 Try.underlying9 x0 x1 (K.block_new rfl)
      go_wp2_with fail
      refine K.call (by with_reducible rfl) (by with_reducible rfl) (impl_MulBack (Z.SplitPower F x).1 F x (Z.SplitPower F x).2.1 hmul _ q1 q2 (K.bin IG_14) (K.own.ints (K.own_alloc (W := w14.alloc (.cells #[.int .u8 x] 5)) (T := 2) (g := w14.heap.size + 1) (x := (Z.SplitPower F x).2.1) (by simp)))) ?_
      rintro e w15 ⟨⟨pB, rfl, hB⟩, f15⟩
      have JB := K.own.ints hB
      obtain ⟨oB, kB, rfl, _⟩ := id (JB)
      have IB_15 : K.ints w15 0 w15.heap.size (.slice oB F.pw.length kB) F.pw := (JB).mono (Nat.zero_le _) (by omega)
      have u15_1_1 : w2.heap.size < w14.heap.size + 1 := (by omega)
      have u15_1_2 : w2.heap.size < w14.heap.size + 1 + 1 := (by omega)
      have u15_4_1 : w7.heap.size < w14.heap.size + 1 := (by omega)
      have u15_4_2 : w7.heap.size < w14.heap.size + 1 + 1 := (by omega)
      have u15_5_1 : w8.heap.size < w14.heap.size + 1 := (by omega)
      have u15_5_2 : w8.heap.size < w14.heap.size + 1 + 1 := (by omega)
      have u15_7_1 : w10.heap.size < w14.heap.size + 1 := (by omega)
      have u15_7_2 : w10.heap.size < w14.heap.size + 1 + 1 := (by omega)
      have F15 : K.Ext w w15 := K.Ext.trans (K.bex F14) f15
      obtain ⟨c15_1_0, c15_1_1, c15_1_2, c15_1_3, c15_1_4, c15_1_5, c15_1_6, c15_1_7, y15_1⟩ := f15.q8 c14_1_0 c14_1_1 c14_1_2 c14_1_3 c14_1_4 c14_1_5 c14_1_6 c14_1_7
      obtain ⟨c15_4_0, c15_4_1, c15_4_2, c15_4_3, y15_4⟩ := f15.q4 c14_4_0 c14_4_1 c14_4_2 c14_4_3
      obtain ⟨c15_5_0, c15_5_1, c15_5_2, c15_5_3, y15_5⟩ := f15.q4 c14_5_0 c14_5_1 c14_5_2 c14_5_3
      obtain ⟨c15_7_0, c15_7_1, c15_7_2, c15_7_3, c15_7_4, c15_7_5, c15_7_6, c15_7_7, y15_7⟩ := f15.q8 c14_7_0 c14_7_1 c14_7_2 c14_7_3 c14_7_4 c14_7_5 c14_7_6 c14_7_7
      have IXL_15 := K.ints.ext (K.bin IXL_14) f15
      have IXR_15 := K.ints.ext (K.bin IXR_14) f15
      have IF_15 := K.ints.ext (K.bin IF_14) f15
      have IG_15 := K.ints.ext (K.bin IG_14) f15
      have IHL_15 := K.ints.ext (K.bin IHL_14) f15
      have IHR_15 := K.ints.ext (K.bin IHR_14) f15
      have IV_15 := K.recs.ext (K.bre IV_14) f15
      clear c14_1_0 c14_1_1 c14_1_2 c14_1_3 c14_1_4 c14_1_5 c14_1_6 c14_1_7 y14_1 c14_4_0 c14_4_1 c14_4_2 c14_4_3 y14_4 c14_5_0 c14_5_1 c14_5_2 c14_5_3 y14_5 c14_6_0 c14_6_1 c14_6_2 c14_6_3 y14_6 c14_7_0 c14_7_1 c14_7_2 c14_7_3 c14_7_4 c14_7_5 c14_7_6 c14_7_7 y14_7 IXL_14 IXR_14 IF_14 IG_14 IHL_14 IHR_14 IV_14 F14 f15 u15_1_1 u15_1_2 u15_4_1 u15_4_2 u15_5_1 u15_5_2 u15_7_1 u15_7_2
      clear hcv
      go_wp2_with fail
      refine K.call (by with_reducible rfl) (by with_reducible rfl) (impl_ExponentOf (Z.SplitPower F x).1 x _ q1 q2 (K.bin IG_15) ⟨x0, x1⟩) ?_
      rintro e w16 ⟨rfl, f16⟩
      have u16_1_1 : w2.heap.size < w15.heap.size + 1 := (by omega)
      have u16_4_1 : w7.heap.size < w15.heap.size + 1 := (by omega)
      have u16_5_1 : w8.heap.size < w15.heap.size + 1 := (by omega)
      have u16_7_1 : w10.heap.size < w15.heap.size + 1 := (by omega)
      have F16 : K.Ext w w16 := K.Ext.trans (K.bex F15) f16
      obtain ⟨c16_1_0, c16_1_1, c16_1_2, c16_1_3, c16_1_4, c16_1_5, c16_1_6, c16_1_7, y16_1⟩ := f16.q8 c15_1_0 c15_1_1 c15_1_2 c15_1_3 c15_1_4 c15_1_5 c15_1_6 c15_1_7
      obtain ⟨c16_4_0, c16_4_1, c16_4_2, c16_4_3, y16_4⟩ := f16.q4 c15_4_0 c15_4_1 c15_4_2 c15_4_3
      obtain ⟨c16_5_0, c16_5_1, c16_5_2, c16_5_3, y16_5⟩ := f16.q4 c15_5_0 c15_5_1 c15_5_2 c15_5_3
      obtain ⟨c16_7_0, c16_7_1, c16_7_2, c16_7_3, c16_7_4, c16_7_5, c16_7_6, c16_7_7, y16_7⟩ := f16.q8 c15_7_0 c15_7_1 c15_7_2 c15_7_3 c15_7_4 c15_7_5 c15_7_6 c15_7_7
      have c16_8_0 : w16.cell? ⟨w15.heap.size, 0, none⟩ = some (.int .i64 F.dg) := f16.cell_of (by go_simp)
      have c16_8_1 : w16.cell? ⟨w15.heap.size, 1, none⟩ = some (.int .i64 F.tn) := f16.cell_of (by go_simp)
      have c16_8_2 : w16.cell? ⟨w15.heap.size, 2, none⟩ = some (.string F.nm) := f16.cell_of (by go_simp)
      have c16_8_3 : w16.cell? ⟨w15.heap.size, 3, none⟩ = some (.slice oB F.pw.length kB) := f16.cell_of (by go_simp)
      have y16_8 : w15.heap.size < w16.heap.size := World.block_lt_of_cell? w16 _ c16_8_0
      have IXL_16 := K.ints.ext (K.bin IXL_15) f16
      have IXR_16 := K.ints.ext (K.bin IXR_15) f16
      have IF_16 := K.ints.ext (K.bin IF_15) f16
      have IG_16 := K.ints.ext (K.bin IG_15) f16
      have IHL_16 := K.ints.ext (K.bin IHL_15) f16
      have IHR_16 := K.ints.ext (K.bin IHR_15) f16
      have IV_16 := K.recs.ext (K.bre IV_15) f16
      have IB_16 := K.ints.ext (K.bin IB_15) f16
      clear c15_1_0 c15_1_1 c15_1_2 c15_1_3 c15_1_4 c15_1_5 c15_1_6 c15_1_7 y15_1 c15_4_0 c15_4_1 c15_4_2 c15_4_3 y15_4 c15_5_0 c15_5_1 c15_5_2 c15_5_3 y15_5 c15_7_0 c15_7_1 c15_7_2 c15_7_3 c15_7_4 c15_7_5 c15_7_6 c15_7_7 y15_7 IXL_15 IXR_15 IF_15 IG_15 IHL_15 IHR_15 IV_15 IB_15 F15 f16 u16_1_1 u16_4_1 u16_5_1 u16_7_1
      go_wp2_with fail
      refine K.call (by with_reducible rfl) (by with_reducible rfl) (likeFormulas_same F _ _ _ _ _ _ _ (by omega) (K.bin IB_16) (K.bin IF_16)) ?_
      rintro e w17 ⟨rfl, f17⟩
      have F17 : K.Ext w w17 := K.Ext.trans (K.bex F16) f17
      obtain ⟨c17_1_0, c17_1_1, c17_1_2, c17_1_3, c17_1_4, c17_1_5, c17_1_6, c17_1_7, y17_1⟩ := f17.q8 c16_1_0 c16_1_1 c16_1_2 c16_1_3 c16_1_4 c16_1_5 c16_1_6 c16_1_7
      obtain ⟨c17_4_0, c17_4_1, c17_4_2, c17_4_3, y17_4⟩ := f17.q4 c16_4_0 c16_4_1 c16_4_2 c16_4_3
      obtain ⟨c17_7_0, c17_7_1, c17_7_2, c17_7_3, c17_7_4, c17_7_5, c17_7_6, c17_7_7, y17_7⟩ := f17.q8 c16_7_0 c16_7_1 c16_7_2 c16_7_3 c16_7_4 c16_7_5 c16_7_6 c16_7_7
      obtain ⟨c17_8_0, c17_8_1, c17_8_2, c17_8_3, y17_8⟩ := f17.q4 c16_8_0 c16_8_1 c16_8_2 c16_8_3
      have IXL_17 := K.ints.ext (K.bin IXL_16) f17
      have IXR_17 := K.ints.ext (K.bin IXR_16) f17
      have IF_17 := K.ints.ext (K.bin IF_16) f17
      have IHL_17 := K.ints.ext (K.bin IHL_16) f17
      have IHR_17 := K.ints.ext (K.bin IHR_16) f17
      have IV_17 := K.recs.ext (K.bre IV_16) f17
      have IB_17 := K.ints.ext (K.bin IB_16) f17
      clear c16_1_0 c16_1_1 c16_1_2 c16_1_3 c16_1_4 c16_1_5 c16_1_6 c16_1_7 y16_1 c16_4_0 c16_4_1 c16_4_2 c16_4_3 y16_4 c16_5_0 c16_5_1 c16_5_2 c16_5_3 y16_5 c16_7_0 c16_7_1 c16_7_2 c16_7_3 c16_7_4 c16_7_5 c16_7_6 c16_7_7 y16_7 c16_8_0 c16_8_1 c16_8_2 c16_8_3 y16_8 IXL_16 IXR_16 IF_16 IHL_16 IHR_16 IV_16 IB_16 F16 f17
      by_cases h5 : (Z.CheckValues H N vs u).2 = 0
      · as_aux_lemma =>
          by_cases hu : u < 1048576
          · as_aux_lemma =>
              obtain ⟨w1_, w2_⟩ := Z.more_law h5 hu
              have qu : IntKind.i64.wrap (u + 1) = u + 1 := IntWalk.i64_in _ (by omega)
              cases hf : (Z.CheckValues H N vs u).1
              · as_aux_lemma =>
                  clear w2_
                  go_wp2_with fail
                  refine K.call (by with_reducible rfl) (by with_reducible rfl) (impl_CheckValues H N vs (u + 1) _ (by omega) (by omega) (by omega) (by omega) (by omega) (K.bin IHL_17) (K.bin IHR_17) (by omega) (K.bre IV_17)) ?_
                  rintro e w18 ⟨rfl, f18⟩
                  have F18 : K.Ext w w18 := K.Ext.trans (K.bex F17) f18
                  obtain ⟨c18_1_0, c18_1_1, c18_1_2, c18_1_3, c18_1_4, c18_1_5, c18_1_6, c18_1_7, y18_1⟩ := f18.q8 c17_1_0 c17_1_1 c17_1_2 c17_1_3 c17_1_4 c17_1_5 c17_1_6 c17_1_7
                  obtain ⟨c18_7_0, c18_7_1, c18_7_2, c18_7_3, c18_7_4, c18_7_5, c18_7_6, c18_7_7, y18_7⟩ := f18.q8 c17_7_0 c17_7_1 c17_7_2 c17_7_3 c17_7_4 c17_7_5 c17_7_6 c17_7_7
                  have IXL_18 := K.ints.ext (K.bin IXL_17) f18
                  have IXR_18 := K.ints.ext (K.bin IXR_17) f18
                  have IHL_18 := K.ints.ext (K.bin IHL_17) f18
                  have IHR_18 := K.ints.ext (K.bin IHR_17) f18
                  have IV_18 := K.recs.ext (K.bre IV_17) f18
                  clear c17_1_0 c17_1_1 c17_1_2 c17_1_3 c17_1_4 c17_1_5 c17_1_6 c17_1_7 y17_1 c17_4_0 c17_4_1 c17_4_2 c17_4_3 y17_4 c17_7_0 c17_7_1 c17_7_2 c17_7_3 c17_7_4 c17_7_5 c17_7_6 c17_7_7 y17_7 c17_8_0 c17_8_1 c17_8_2 c17_8_3 y17_8 IXL_17 IXR_17 IHL_17 IHR_17 IV_17 F17 f18
                  by_cases hb : (Z.SolveFor E c).2 = 0
                  · as_aux_lemma =>
                      have hs := Z.solved_law ⟨c0, c1⟩ hb
                      go_wp2_with fail
                      refine K.call (by with_reducible rfl) (by with_reducible rfl) (impl_IsSolvedFor (Z.SolveFor E c).1 c _ m1 m3 m2 m4 (K.bin IXL_18) (K.bin IXR_18) ⟨c0, c1⟩) ?_
                      rintro e w19 ⟨rfl, f19⟩
                      have F19 : K.Ext w w19 := K.Ext.trans (K.bex F18) f19
                      obtain ⟨c19_1_0, c19_1_1, c19_1_2, c19_1_3, c19_1_4, c19_1_5, c19_1_6, c19_1_7, y19_1⟩ := f19.q8 c18_1_0 c18_1_1 c18_1_2 c18_1_3 c18_1_4 c18_1_5 c18_1_6 c18_1_7
                      have IXL_19 := K.ints.ext (K.bin IXL_18) f19
                      have IXR_19 := K.ints.ext (K.bin IXR_18) f19
                      clear c18_1_0 c18_1_1 c18_1_2 c18_1_3 c18_1_4 c18_1_5 c18_1_6 c18_1_7 y18_1 c18_7_0 c18_7_1 c18_7_2 c18_7_3 c18_7_4 c18_7_5 c18_7_6 c18_7_7 y18_7 IXL_18 IXR_18 F18 f19
                      go_wp2_with fail
                      go_ret
                      exact ⟨rfl, (K.bex F19)⟩
                  go_wp2_with fail
                  go_ret
                  exact ⟨rfl, (K.bex F18)⟩
              · as_aux_lemma =>
                  have w3_ := w2_ hf
                  clear w2_
                  go_wp2_with fail
                  refine K.call (by with_reducible rfl) (by with_reducible rfl) (impl_CheckValues H N vs (u + 1) _ (by omega) (by omega) (by omega) (by omega) (by omega) (K.bin IHL_17) (K.bin IHR_17) (by omega) (K.bre IV_17)) ?_
                  rintro e w18 ⟨rfl, f18⟩
                  have F18 : K.Ext w w18 := K.Ext.trans (K.bex F17) f18
                  obtain ⟨c18_1_0, c18_1_1, c18_1_2, c18_1_3, c18_1_4, c18_1_5, c18_1_6, c18_1_7, y18_1⟩ := f18.q8 c17_1_0 c17_1_1 c17_1_2 c17_1_3 c17_1_4 c17_1_5 c17_1_6 c17_1_7
                  obtain ⟨c18_7_0, c18_7_1, c18_7_2, c18_7_3, c18_7_4, c18_7_5, c18_7_6, c18_7_7, y18_7⟩ := f18.q8 c17_7_0 c17_7_1 c17_7_2 c17_7_3 c17_7_4 c17_7_5 c17_7_6 c17_7_7
                  have IXL_18 := K.ints.ext (K.bin IXL_17) f18
                  have IXR_18 := K.ints.ext (K.bin IXR_17) f18
                  have IHL_18 := K.ints.ext (K.bin IHL_17) f18
                  have IHR_18 := K.ints.ext (K.bin IHR_17) f18
                  have IV_18 := K.recs.ext (K.bre IV_17) f18
                  clear c17_1_0 c17_1_1 c17_1_2 c17_1_3 c17_1_4 c17_1_5 c17_1_6 c17_1_7 y17_1 c17_4_0 c17_4_1 c17_4_2 c17_4_3 y17_4 c17_7_0 c17_7_1 c17_7_2 c17_7_3 c17_7_4 c17_7_5 c17_7_6 c17_7_7 y17_7 c17_8_0 c17_8_1 c17_8_2 c17_8_3 y17_8 IXL_17 IXR_17 IHL_17 IHR_17 IV_17 F17 f18
                  by_cases hb : (Z.SolveFor E c).2 = 0
                  · as_aux_lemma =>
                      have hs := Z.solved_law ⟨c0, c1⟩ hb
                      go_wp2_with fail
                      refine K.call (by with_reducible rfl) (by with_reducible rfl) (impl_IsSolvedFor (Z.SolveFor E c).1 c _ m1 m3 m2 m4 (K.bin IXL_18) (K.bin IXR_18) ⟨c0, c1⟩) ?_
                      rintro e w19 ⟨rfl, f19⟩
                      have F19 : K.Ext w w19 := K.Ext.trans (K.bex F18) f19
                      obtain ⟨c19_1_0, c19_1_1, c19_1_2, c19_1_3, c19_1_4, c19_1_5, c19_1_6, c19_1_7, y19_1⟩ := f19.q8 c18_1_0 c18_1_1 c18_1_2 c18_1_3 c18_1_4 c18_1_5 c18_1_6 c18_1_7
                      have IXL_19 := K.ints.ext (K.bin IXL_18) f19
                      have IXR_19 := K.ints.ext (K.bin IXR_18) f19
                      clear c18_1_0 c18_1_1 c18_1_2 c18_1_3 c18_1_4 c18_1_5 c18_1_6 c18_1_7 y18_1 c18_7_0 c18_7_1 c18_7_2 c18_7_3 c18_7_4 c18_7_5 c18_7_6 c18_7_7 y18_7 IXL_18 IXR_18 F18 f19
                      go_wp2_with fail
                      go_ret
                      exact ⟨rfl, (K.bex F19)⟩
                  go_wp2_with fail
                  go_ret
                  exact ⟨rfl, (K.bex F18)⟩
          by_cases hb : (Z.SolveFor E c).2 = 0
          · as_aux_lemma =>
              have hs := Z.solved_law ⟨c0, c1⟩ hb
              go_wp2_with fail
              refine K.call (by with_reducible rfl) (by with_reducible rfl) (impl_IsSolvedFor (Z.SolveFor E c).1 c _ m1 m3 m2 m4 (K.bin IXL_17) (K.bin IXR_17) ⟨c0, c1⟩) ?_
              rintro e w18 ⟨rfl, f18⟩
              have F18 : K.Ext w w18 := K.Ext.trans (K.bex F17) f18
              obtain ⟨c18_1_0, c18_1_1, c18_1_2, c18_1_3, c18_1_4, c18_1_5, c18_1_6, c18_1_7, y18_1⟩ := f18.q8 c17_1_0 c17_1_1 c17_1_2 c17_1_3 c17_1_4 c17_1_5 c17_1_6 c17_1_7
              have IXL_18 := K.ints.ext (K.bin IXL_17) f18
              have IXR_18 := K.ints.ext (K.bin IXR_17) f18
              clear c17_1_0 c17_1_1 c17_1_2 c17_1_3 c17_1_4 c17_1_5 c17_1_6 c17_1_7 y17_1 c17_4_0 c17_4_1 c17_4_2 c17_4_3 y17_4 c17_7_0 c17_7_1 c17_7_2 c17_7_3 c17_7_4 c17_7_5 c17_7_6 c17_7_7 y17_7 c17_8_0 c17_8_1 c17_8_2 c17_8_3 y17_8 IXL_17 IXR_17 F17 f18
              go_wp2_with fail
              go_ret
              exact ⟨rfl, (K.bex F18)⟩
          go_wp2_with fail
          go_ret
          exact ⟨rfl, (K.bex F17)⟩
      have h5' : ((Z.CheckValues H N vs u).2 == 0) = false := by simpa using h5
      by_cases hb : (Z.SolveFor E c).2 = 0
      · as_aux_lemma =>
          have hs := Z.solved_law ⟨c0, c1⟩ hb
          go_wp2_with fail
          refine K.call (by with_reducible rfl) (by with_reducible rfl) (impl_IsSolvedFor (Z.SolveFor E c).1 c _ m1 m3 m2 m4 (K.bin IXL_17) (K.bin IXR_17) ⟨c0, c1⟩) ?_
          rintro e w18 ⟨rfl, f18⟩
          have F18 : K.Ext w w18 := K.Ext.trans (K.bex F17) f18
          obtain ⟨c18_1_0, c18_1_1, c18_1_2, c18_1_3, c18_1_4, c18_1_5, c18_1_6, c18_1_7, y18_1⟩ := f18.q8 c17_1_0 c17_1_1 c17_1_2 c17_1_3 c17_1_4 c17_1_5 c17_1_6 c17_1_7
          have IXL_18 := K.ints.ext (K.bin IXL_17) f18
          have IXR_18 := K.ints.ext (K.bin IXR_17) f18
          clear c17_1_0 c17_1_1 c17_1_2 c17_1_3 c17_1_4 c17_1_5 c17_1_6 c17_1_7 y17_1 c17_4_0 c17_4_1 c17_4_2 c17_4_3 y17_4 c17_7_0 c17_7_1 c17_7_2 c17_7_3 c17_7_4 c17_7_5 c17_7_6 c17_7_7 y17_7 c17_8_0 c17_8_1 c17_8_2 c17_8_3 y17_8 IXL_17 IXR_17 F17 f18
          go_wp2_with fail
          go_ret
          exact ⟨rfl, (K.bex F18)⟩
      go_wp2_with fail
      go_ret
      exact ⟨rfl, (K.bex F17)⟩
  have h3' : ((Z.SplitPower F x).2.2 == 0) = false := by simpa using h3_
  by_cases h5 : (Z.CheckValues H N vs u).2 = 0
  · as_aux_lemma =>
      by_cases hu : u < 1048576
      · as_aux_lemma =>
          obtain ⟨w1_, w2_⟩ := Z.more_law h5 hu
          have qu : IntKind.i64.wrap (u + 1) = u + 1 := IntWalk.i64_in _ (by omega)
          cases hf : (Z.CheckValues H N vs u).1
          · as_aux_lemma =>
              clear w2_
              go_wp2_with fail
              refine K.call (by with_reducible rfl) (by with_reducible rfl) (impl_CheckValues H N vs (u + 1) _ (by omega) (by omega) (by omega) (by omega) (by omega) (K.bin IHL_14) (K.bin IHR_14) (by omega) (K.bre IV_14)) ?_
              rintro e w15 ⟨rfl, f15⟩
              have F15 : K.Ext w w15 := K.Ext.trans (K.bex F14) f15
              obtain ⟨c15_1_0, c15_1_1, c15_1_2, c15_1_3, c15_1_4, c15_1_5, c15_1_6, c15_1_7, y15_1⟩ := f15.q8 c14_1_0 c14_1_1 c14_1_2 c14_1_3 c14_1_4 c14_1_5 c14_1_6 c14_1_7
              obtain ⟨c15_7_0, c15_7_1, c15_7_2, c15_7_3, c15_7_4, c15_7_5, c15_7_6, c15_7_7, y15_7⟩ := f15.q8 c14_7_0 c14_7_1 c14_7_2 c14_7_3 c14_7_4 c14_7_5 c14_7_6 c14_7_7
              have IXL_15 := K.ints.ext (K.bin IXL_14) f15
              have IXR_15 := K.ints.ext (K.bin IXR_14) f15
              have IHL_15 := K.ints.ext (K.bin IHL_14) f15
              have IHR_15 := K.ints.ext (K.bin IHR_14) f15
              have IV_15 := K.recs.ext (K.bre IV_14) f15
              clear c14_1_0 c14_1_1 c14_1_2 c14_1_3 c14_1_4 c14_1_5 c14_1_6 c14_1_7 y14_1 c14_4_0 c14_4_1 c14_4_2 c14_4_3 y14_4 c14_5_0 c14_5_1 c14_5_2 c14_5_3 y14_5 c14_6_0 c14_6_1 c14_6_2 c14_6_3 y14_6 c14_7_0 c14_7_1 c14_7_2 c14_7_3 c14_7_4 c14_7_5 c14_7_6 c14_7_7 y14_7 IXL_14 IXR_14 IHL_14 IHR_14 IV_14 F14 f15
              by_cases hb : (Z.SolveFor E c).2 = 0
              · as_aux_lemma =>
                  have hs := Z.solved_law ⟨c0, c1⟩ hb
                  go_wp2_with fail
                  refine K.call (by with_reducible rfl) (by with_reducible rfl) (impl_IsSolvedFor (Z.SolveFor E c).1 c _ m1 m3 m2 m4 (K.bin IXL_15) (K.bin IXR_15) ⟨c0, c1⟩) ?_
                  rintro e w16 ⟨rfl, f16⟩
                  have F16 : K.Ext w w16 := K.Ext.trans (K.bex F15) f16
                  obtain ⟨c16_1_0, c16_1_1, c16_1_2, c16_1_3, c16_1_4, c16_1_5, c16_1_6, c16_1_7, y16_1⟩ := f16.q8 c15_1_0 c15_1_1 c15_1_2 c15_1_3 c15_1_4 c15_1_5 c15_1_6 c15_1_7
                  have IXL_16 := K.ints.ext (K.bin IXL_15) f16
                  have IXR_16 := K.ints.ext (K.bin IXR_15) f16
                  clear c15_1_0 c15_1_1 c15_1_2 c15_1_3 c15_1_4 c15_1_5 c15_1_6 c15_1_7 y15_1 c15_7_0 c15_7_1 c15_7_2 c15_7_3 c15_7_4 c15_7_5 c15_7_6 c15_7_7 y15_7 IXL_15 IXR_15 F15 f16
                  go_wp2_with fail
                  go_ret
                  exact ⟨rfl, (K.bex F16)⟩
              go_wp2_with fail
              go_ret
              exact ⟨rfl, (K.bex F15)⟩
          · as_aux_lemma =>
              have w3_ := w2_ hf
              clear w2_
              go_wp2_with fail
              refine K.call (by with_reducible rfl) (by with_reducible rfl) (impl_CheckValues H N vs (u + 1) _ (by omega) (by omega) (by omega) (by omega) (by omega) (K.bin IHL_14) (K.bin IHR_14) (by omega) (K.bre IV_14)) ?_
              rintro e w15 ⟨rfl, f15⟩
              have F15 : K.Ext w w15 := K.Ext.trans (K.bex F14) f15
              obtain ⟨c15_1_0, c15_1_1, c15_1_2, c15_1_3, c15_1_4, c15_1_5, c15_1_6, c15_1_7, y15_1⟩ := f15.q8 c14_1_0 c14_1_1 c14_1_2 c14_1_3 c14_1_4 c14_1_5 c14_1_6 c14_1_7
              obtain ⟨c15_7_0, c15_7_1, c15_7_2, c15_7_3, c15_7_4, c15_7_5, c15_7_6, c15_7_7, y15_7⟩ := f15.q8 c14_7_0 c14_7_1 c14_7_2 c14_7_3 c14_7_4 c14_7_5 c14_7_6 c14_7_7
              have IXL_15 := K.ints.ext (K.bin IXL_14) f15
              have IXR_15 := K.ints.ext (K.bin IXR_14) f15
              have IHL_15 := K.ints.ext (K.bin IHL_14) f15
              have IHR_15 := K.ints.ext (K.bin IHR_14) f15
              have IV_15 := K.recs.ext (K.bre IV_14) f15
              clear c14_1_0 c14_1_1 c14_1_2 c14_1_3 c14_1_4 c14_1_5 c14_1_6 c14_1_7 y14_1 c14_4_0 c14_4_1 c14_4_2 c14_4_3 y14_4 c14_5_0 c14_5_1 c14_5_2 c14_5_3 y14_5 c14_6_0 c14_6_1 c14_6_2 c14_6_3 y14_6 c14_7_0 c14_7_1 c14_7_2 c14_7_3 c14_7_4 c14_7_5 c14_7_6 c14_7_7 y14_7 IXL_14 IXR_14 IHL_14 IHR_14 IV_14 F14 f15
              by_cases hb : (Z.SolveFor E c).2 = 0
              · as_aux_lemma =>
                  have hs := Z.solved_law ⟨c0, c1⟩ hb
                  go_wp2_with fail
                  refine K.call (by with_reducible rfl) (by with_reducible rfl) (impl_IsSolvedFor (Z.SolveFor E c).1 c _ m1 m3 m2 m4 (K.bin IXL_15) (K.bin IXR_15) ⟨c0, c1⟩) ?_
                  rintro e w16 ⟨rfl, f16⟩
                  have F16 : K.Ext w w16 := K.Ext.trans (K.bex F15) f16
                  obtain ⟨c16_1_0, c16_1_1, c16_1_2, c16_1_3, c16_1_4, c16_1_5, c16_1_6, c16_1_7, y16_1⟩ := f16.q8 c15_1_0 c15_1_1 c15_1_2 c15_1_3 c15_1_4 c15_1_5 c15_1_6 c15_1_7
                  have IXL_16 := K.ints.ext (K.bin IXL_15) f16
                  have IXR_16 := K.ints.ext (K.bin IXR_15) f16
                  clear c15_1_0 c15_1_1 c15_1_2 c15_1_3 c15_1_4 c15_1_5 c15_1_6 c15_1_7 y15_1 c15_7_0 c15_7_1 c15_7_2 c15_7_3 c15_7_4 c15_7_5 c15_7_6 c15_7_7 y15_7 IXL_15 IXR_15 F15 f16
                  go_wp2_with fail
                  go_ret
                  exact ⟨rfl, (K.bex F16)⟩
              go_wp2_with fail
              go_ret
              exact ⟨rfl, (K.bex F15)⟩
      by_cases hb : (Z.SolveFor E c).2 = 0
      · as_aux_lemma =>
          have hs := Z.solved_law ⟨c0, c1⟩ hb
          go_wp2_with fail
          refine K.call (by with_reducible rfl) (by with_reducible rfl) (impl_IsSolvedFor (Z.SolveFor E c).1 c _ m1 m3 m2 m4 (K.bin IXL_14) (K.bin IXR_14) ⟨c0, c1⟩) ?_
          rintro e w15 ⟨rfl, f15⟩
          have F15 : K.Ext w w15 := K.Ext.trans (K.bex F14) f15
          obtain ⟨c15_1_0, c15_1_1, c15_1_2, c15_1_3, c15_1_4, c15_1_5, c15_1_6, c15_1_7, y15_1⟩ := f15.q8 c14_1_0 c14_1_1 c14_1_2 c14_1_3 c14_1_4 c14_1_5 c14_1_6 c14_1_7
          have IXL_15 := K.ints.ext (K.bin IXL_14) f15
          have IXR_15 := K.ints.ext (K.bin IXR_14) f15
          clear c14_1_0 c14_1_1 c14_1_2 c14_1_3 c14_1_4 c14_1_5 c14_1_6 c14_1_7 y14_1 c14_4_0 c14_4_1 c14_4_2 c14_4_3 y14_4 c14_5_0 c14_5_1 c14_5_2 c14_5_3 y14_5 c14_6_0 c14_6_1 c14_6_2 c14_6_3 y14_6 c14_7_0 c14_7_1 c14_7_2 c14_7_3 c14_7_4 c14_7_5 c14_7_6 c14_7_7 y14_7 IXL_14 IXR_14 F14 f15
          go_wp2_with fail
          go_ret
          exact ⟨rfl, (K.bex F15)⟩
      go_wp2_with fail
      go_ret
      exact ⟨rfl, (K.bex F14)⟩
  have h5' : ((Z.CheckValues H N vs u).2 == 0) = false := by simpa using h5
  by_cases hb : (Z.SolveFor E c).2 = 0
  · as_aux_lemma =>
      have hs := Z.solved_law ⟨c0, c1⟩ hb
      go_wp2_with fail
      refine K.call (by with_reducible rfl) (by with_reducible rfl) (impl_IsSolvedFor (Z.SolveFor E c).1 c _ m1 m3 m2 m4 (K.bin IXL_14) (K.bin IXR_14) ⟨c0, c1⟩) ?_
      rintro e w15 ⟨rfl, f15⟩
      have F15 : K.Ext w w15 := K.Ext.trans (K.bex F14) f15
      obtain ⟨c15_1_0, c15_1_1, c15_1_2, c15_1_3, c15_1_4, c15_1_5, c15_1_6, c15_1_7, y15_1⟩ := f15.q8 c14_1_0 c14_1_1 c14_1_2 c14_1_3 c14_1_4 c14_1_5 c14_1_6 c14_1_7
      have IXL_15 := K.ints.ext (K.bin IXL_14) f15
      have IXR_15 := K.ints.ext (K.bin IXR_14) f15
      clear c14_1_0 c14_1_1 c14_1_2 c14_1_3 c14_1_4 c14_1_5 c14_1_6 c14_1_7 y14_1 c14_4_0 c14_4_1 c14_4_2 c14_4_3 y14_4 c14_5_0 c14_5_1 c14_5_2 c14_5_3 y14_5 c14_6_0 c14_6_1 c14_6_2 c14_6_3 y14_6 c14_7_0 c14_7_1 c14_7_2 c14_7_3 c14_7_4 c14_7_5 c14_7_6 c14_7_7 y14_7 IXL_14 IXR_14 F14 f15
      go_wp2_with fail
      go_ret
      exact ⟨rfl, (K.bex F15)⟩
  go_wp2_with fail
  go_ret
  exact ⟨rfl, (K.bex F14)⟩
end Go.Proofs.Ythmnlbgbacbocaa
end
section
namespace Go.Proofs.Ythmnlbgbacbocaa
open Go.ChangeShapes Go.WideShapes Go.ChangeAt Go.RowKit
namespace frameFnSolved
theorem own : ownKnob Try.prog.godebug = none := by kernel_rfl
theorem laidOut : laidOutB Try.prog = true := by kernel_rfl
theorem reads : ∀ t ∈ Try.f7.params.toList, Try.prog.readableRec t = true ∧ t < Try.prog.types.size := by
  rw [Try.params7]
  intro t ht
  simp only [List.mem_cons, List.not_mem_nil, or_false] at ht
  subst ht; exact ⟨by kernel_rfl, of_decide_eq_true (by kernel_rfl)⟩
set_option maxRecDepth 100000 in
theorem lifted (os : Os) (started : os.Started) (H : Type) (enc : TypeId × Value → H) :
    ReturnsInHanded {} Try.checked os 7 .any (Rows.fnSolvedSpec.pre6 enc Try.prog Try.f7 Rows.fnSolvedRow.domain false) (Rows.fnSolvedSpec.post enc Try.prog Try.f7 false true false false) := by
  refine returnsInHanded_of_change (C := Try.checked) own started (by kernel_rfl) Try.func7
    (ChangeSpec.witness6 (enc := enc) (C := Try.checked) false ⟨#[], #[.slice none 0 0], []⟩ 8 (by kernel_rfl) (by kernel_rfl) (by kernel_rfl) (by kernel_rfl)) ?_
  intro W base args ds gs before hval0 hW hcnd _
  have hval : ∀ (j : Nat) t v, Try.f7.params[j]? = some t → args[j]? = some v → Value.okWide Try.prog W .any base t v := hval0
  have hW' := hW
  obtain ⟨p, q, hA0, hV, rfl, hfz, hnd⟩ := hW
  have hA : DataW.TrodAll enc Try.prog W 0 (fun _ => true) true Try.f7.params.toList args.toList ds p := hA0
  rw [Try.params7] at hA hval
  obtain ⟨rfl, rfl⟩ := trodVars_none hV
  obtain ⟨v0, vs0, d0, ds0, p0, q0, hargs, rfl, rfl, h0, r0⟩ := trodAll_cons hA
  obtain ⟨rfl, rfl, rfl⟩ := trodAll_nil r0
  obtain rfl : args = #[v0] := by cases args; simp_all
  clear hA0 hval0
  obtain ⟨a0, l0, c0, rfl⟩ := okWide_slice Try.underlying22 (hval 0 22 v0 rfl rfl)
  obtain ⟨fu0, hf0⟩ := h0
  obtain ⟨x0, zs0, ex0, hx0, hl0, hq0⟩ := K.recs_arg (R := K.ByR) (Q := fun s => 0 ≤ s ∧ s ≤ 255) 0 (by decide) Try.underlying22 (by kernel_rfl) (fun n cs y hy => K.byte_cells Try.underlying5 hy) hf0
  obtain rfl : Value.slice a0 l0 c0 = x0 := by simpa [Value.cells] using ex0
  refine Calls.mono (law_FnSolved  W (K.byts_of_recs hx0 hq0)) fun e W' ⟨he, hg⟩ => ?_
  subst he
  exact ⟨_, rfl, K.law_post laidOut reads rfl Try.underlying4 rfl hW' rfl hg⟩
theorem over : Rows.fnSolvedRow.holds Try.pinned (OpenSpec.ofChange Rows.fnSolvedSpec) :=
  OpenClaim.holds_of_wide 7 Try.f7 rfl rfl rfl rfl rfl rfl rfl ⟨rfl, rfl, rfl, rfl, rfl⟩ rfl rfl rfl rfl rfl (by kernel_rfl) Try.func7 (by kernel_rfl)
    (of_decide_eq_true (by kernel_rfl)) (by unfold Func.isWrapper; first | (rw [if_pos (by decide +kernel)]; kernel_rfl) | (rw [if_neg (by decide +kernel)]; exact ⟨rfl, rfl⟩))
    (fun os started H enc _ => lifted os started H enc)
/-- The given statement. -/
theorem proved : Rows.FnSolvedSaid := over
#print axioms proved
end frameFnSolved
end Go.Proofs.Ythmnlbgbacbocaa
end
