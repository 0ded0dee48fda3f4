/-
  For every input the law FnIsolated returns true, and its arguments read as before; the library's tables start as the program's text lays them (the card ties them).
-/
import Derived.Test.YtmgocfdhngeeiaaGreatDoorPIS6
import Derived.Deep.DeepHandedRow
import Derived.Deep.DeepWitnessRowRef
import Derived.LaidMore
import Derived.Lib.LaidTab
import Derived.MakeChecks
import Derived.SevenTiedAt
import Derived.Stop.Joined
import Derived.Stop.LaidErr
import Derived.Test.YtmgocfdhngeeiaaGreatDoorCards
import Derived.Test.YtmgocfdhngeeiaaGreatDoorRows
import Derived.Test.YtmgocfdhngeeiaaGreatDoorTie
set_option linter.unusedVariables false
section
namespace Go.Z
theorem ReadSteps_back {s : ByteArray} (h : (ReadSteps s).2 = 0) : stCode (ReadSteps s).1 = 0 ∧ stepsText (ReadSteps s).1 = s := by
  by_cases hx : ∃ x : List St × Bool, SsR s x.1 x.2
  · obtain ⟨⟨F, ok⟩, hR⟩ := hx
    rw [ReadSteps_is hR] at h ⊢
    cases ok
    · cases h
    · exact hR.sound rfl
  · unfold ReadSteps at h
    rw [dif_neg hx] at h
    cases h
theorem StepsText_ok {l : List St} (h : stCode l = 0) : StepsText l = (stepsText l, 0) := by unfold StepsText; rw [if_pos h]
theorem StepsText_code (l : List St) : (StepsText l).2 = stCode l := by
  unfold StepsText
  split
  · rename_i h; exact h.symm
  · rfl
theorem AreSteps_text (l : List St) : AreSteps l = ((StepsText l).2 == 0) := by rw [StepsText_code]; exact AreSteps_code l
end Go.Z
namespace Go.Proofs.YtmgocfdhngeeiaaGreatDoor
open Go.RowKit
theorem impl_ReadBackS (l : List Z.St) (w : World) (hl : Z.stCode l = 0) (hm : (Z.stepsText l).size ≤ 1048576) (hL : LV w) :
    Calls Tryz.prog 26 #[.string (Z.stepsText l)] w fun e w' => (∃ p', e = .returned (.tuple #[p', .int .i64 0]) ∧ K.recs true K.StR w' w.heap.size w'.heap.size p' l) ∧ K.Ext w w' :=
  (impl_ReadStepsR (Z.stepsText l) w hm hL).mono fun e w' ⟨⟨G, ok, p, he, hR, ho⟩, hx⟩ => by
    obtain ⟨rfl, rfl⟩ := hR.whole l hl rfl
    exact ⟨⟨p, he, ho⟩, hx⟩
theorem impl_RunA (E : Z.Eqn) (xs : List Z.St) (A : Z.Eqn) (hr : Z.RunSteps E xs = (A, 0)) {l1 r1 l2 r2 l3 r3 : Nat} {p q v : Value} (w : World) (hm : E.L.pw.length ≤ 1048576) (hn : E.L.nm.size ≤ 1048576) (hm' : E.R.pw.length ≤ 1048576) (hn' : E.R.nm.size ≤ 1048576) (h : K.ints w l1 r1 p E.L.pw) (h' : K.ints w l2 r2 q E.R.pw) (hx : xs.length ≤ 1048576) (hxs : K.recs false K.StR w l3 r3 v xs) :
    Calls Tryz.prog 33 #[.agg #[.int .i64 E.L.dg, .int .i64 E.L.tn, .string E.L.nm, p, .int .i64 E.R.dg, .int .i64 E.R.tn, .string E.R.nm, q], v] w fun e w' => (∃ p' q' m, e = .returned (.tuple #[.agg #[.int .i64 A.L.dg, .int .i64 A.L.tn, .string A.L.nm, p', .int .i64 A.R.dg, .int .i64 A.R.tn, .string A.R.nm, q'], .int .i64 0]) ∧ w.heap.size ≤ m ∧ m ≤ w'.heap.size ∧ K.own w' w.heap.size m p' A.L.pw ∧ K.own w' m w'.heap.size q' A.R.pw) ∧ K.Ext w w' := by
  have h_ := impl_RunSteps E xs w hm hn hm' hn' h h' hx hxs
  rw [hr] at h_
  exact h_
theorem impl_ExpZero (F : Z.Fm) (c : Int) (hr : Z.ExponentOf F c = (0, 0)) {lo hi : Nat} {p : Value} (w : World) (hm : F.pw.length ≤ 1048576) (hn : F.nm.size ≤ 1048576) (h : K.ints w lo hi p F.pw) (hc : 0 ≤ c ∧ c ≤ 255) :
    Calls Tryz.prog 34 #[.agg #[.int .i64 F.dg, .int .i64 F.tn, .string F.nm, p], .int .u8 c] w fun e w' => e = .returned (.tuple #[.int .i64 0, .int .i64 0]) ∧ K.Ext w w' := by
  have h_ := impl_ExponentOf F c w hm hn h hc
  rw [hr] at h_
  exact h_
set_option maxRecDepth 100000 in
set_option maxHeartbeats 12800000 in
theorem law_FnIsolated {n : Nat} {v : Value} (w : World) (h : K.byts w w.heap.size v n) (hL : LV w) :
    Calls Tryz.prog 4 #[v] w fun e w' => e = .returned (.bool true) ∧ K.Ext w w' := by
  have F0 : K.Ext w w := K.Ext.refl _
  rcases Nat.lt_or_ge 4096 n with hn | hn
  · go_enter Tryz.func4, Tryz.ntmps4
    go_wp2_with fail
    refine K.call (by with_reducible rfl) (by with_reducible rfl) (big_yes _ hn h) ?_
    rintro e w1 ⟨rfl, rfl⟩
    go_wp2_with fail
    go_ret
    exact ⟨rfl, F0⟩
  go_enter Tryz.func4, Tryz.ntmps4
  go_wp2_with fail
  refine K.call (by with_reducible rfl) (by with_reducible rfl) (big_no _ hn h) ?_
  rintro e w1 ⟨rfl, rfl⟩
  go_wp2_with fail
  refine K.call (by with_reducible rfl) (by with_reducible rfl) (DrawIsolateName_any _ hn (K.Ext.size (K.bex F0)) (h.ext (K.bex F0))) ?_
  rintro e w1 ⟨⟨E, pE, qE, c, rfl, ⟨a1, a2⟩, ⟨a3, a4⟩, hE1, hE2, c0, c1⟩, f1⟩
  obtain ⟨oEL, kEL, rfl, _⟩ := id (hE1)
  have IEL_1 : K.ints w1 0 w1.heap.size (.slice oEL E.L.pw.length kEL) E.L.pw := (hE1).mono (Nat.zero_le _) (by omega)
  obtain ⟨oER, kER, rfl, _⟩ := id (hE2)
  have IER_1 : K.ints w1 0 w1.heap.size (.slice oER E.R.pw.length kER) E.R.pw := (hE2).mono (Nat.zero_le _) (by omega)
  have F1 : K.Ext w w1 := K.Ext.trans (K.bex F0) f1
  clear f1
  go_wp2_with fail
  refine K.call (by with_reducible rfl) (by with_reducible rfl) (impl_IsolateName E c _ (by omega) (by omega) (by omega) (by omega) (K.bin IEL_1) (K.bin IER_1) ⟨c0, c1⟩) ?_
  rintro e w2 ⟨⟨vI, rfl, hI⟩, f2⟩
  obtain ⟨oI, kI, rfl, _⟩ := id (K.recs.plain hI)
  have II_2 : K.recs false K.StR w2 0 w2.heap.size (.slice oI ((Z.IsolateName E c).1).length kI) ((Z.IsolateName E c).1) := K.recs.mono (K.recs.plain hI) (Nat.zero_le _) (by omega)
  have F2 : K.Ext w w2 := K.Ext.trans (K.bex F1) f2
  have c2_0_0 : w2.cell? ⟨w1.heap.size, 0, none⟩ = some (.int .i64 E.L.dg) := f2.cell_of (by go_simp)
  have c2_0_1 : w2.cell? ⟨w1.heap.size, 1, none⟩ = some (.int .i64 E.L.tn) := f2.cell_of (by go_simp)
  have c2_0_2 : w2.cell? ⟨w1.heap.size, 2, none⟩ = some (.string E.L.nm) := f2.cell_of (by go_simp)
  have c2_0_3 : w2.cell? ⟨w1.heap.size, 3, none⟩ = some (.slice oEL E.L.pw.length kEL) := f2.cell_of (by go_simp)
  have c2_0_4 : w2.cell? ⟨w1.heap.size, 4, none⟩ = some (.int .i64 E.R.dg) := f2.cell_of (by go_simp)
  have c2_0_5 : w2.cell? ⟨w1.heap.size, 5, none⟩ = some (.int .i64 E.R.tn) := f2.cell_of (by go_simp)
  have c2_0_6 : w2.cell? ⟨w1.heap.size, 6, none⟩ = some (.string E.R.nm) := f2.cell_of (by go_simp)
  have c2_0_7 : w2.cell? ⟨w1.heap.size, 7, none⟩ = some (.slice oER E.R.pw.length kER) := f2.cell_of (by go_simp)
  have y2_0 : w1.heap.size < w2.heap.size := World.block_lt_of_cell? w2 _ c2_0_0
  have IEL_2 := K.ints.ext (K.bin IEL_1) f2
  have IER_2 := K.ints.ext (K.bin IER_1) f2
  clear IEL_1 IER_1 F1 f2
  go_wp2_with fail
  refine K.call (by with_reducible rfl) (by with_reducible rfl) (spec_IsolateName E c _ (by omega) (by omega) (by omega) (by omega) (K.bin IEL_2) (K.bin IER_2) ⟨c0, c1⟩) ?_
  rintro e w3 ⟨⟨vJ, rfl, hJ⟩, f3⟩
  obtain ⟨oJ, kJ, rfl, _⟩ := id (K.recs.plain hJ)
  have IJ_3 : K.recs false K.StR w3 0 w3.heap.size (.slice oJ ((Z.IsolateName E c).1).length kJ) ((Z.IsolateName E c).1) := K.recs.mono (K.recs.plain hJ) (Nat.zero_le _) (by omega)
  have F3 : K.Ext w w3 := K.Ext.trans (K.bex F2) f3
  obtain ⟨c3_0_0, c3_0_1, c3_0_2, c3_0_3, c3_0_4, c3_0_5, c3_0_6, c3_0_7, y3_0⟩ := f3.q8 c2_0_0 c2_0_1 c2_0_2 c2_0_3 c2_0_4 c2_0_5 c2_0_6 c2_0_7
  have IEL_3 := K.ints.ext (K.bin IEL_2) f3
  have IER_3 := K.ints.ext (K.bin IER_2) f3
  have II_3 := K.recs.ext (K.bre II_2) f3
  clear c2_0_0 c2_0_1 c2_0_2 c2_0_3 c2_0_4 c2_0_5 c2_0_6 c2_0_7 y2_0 IEL_2 IER_2 II_2 F2 f3
  go_wp2_with fail
  refine K.call (by with_reducible rfl) (by with_reducible rfl) (DrawStepsText_any _ hn (K.Ext.size (K.bex F3)) (h.ext (K.bex F3))) ?_
  rintro e w4 ⟨⟨vX, xs, rfl, ⟨x1, x2⟩, hX⟩, f4⟩
  obtain ⟨oX, kX, rfl, _⟩ := id (hX)
  have IX_4 : K.recs false K.StR w4 0 w4.heap.size (.slice oX xs.length kX) xs := K.recs.mono (hX) (Nat.zero_le _) (by omega)
  have F4 : K.Ext w w4 := K.Ext.trans (K.bex F3) f4
  obtain ⟨c4_0_0, c4_0_1, c4_0_2, c4_0_3, c4_0_4, c4_0_5, c4_0_6, c4_0_7, y4_0⟩ := f4.q8 c3_0_0 c3_0_1 c3_0_2 c3_0_3 c3_0_4 c3_0_5 c3_0_6 c3_0_7
  have IEL_4 := K.ints.ext (K.bin IEL_3) f4
  have IER_4 := K.ints.ext (K.bin IER_3) f4
  have II_4 := K.recs.ext (K.bre II_3) f4
  have IJ_4 := K.recs.ext (K.bre IJ_3) f4
  clear c3_0_0 c3_0_1 c3_0_2 c3_0_3 c3_0_4 c3_0_5 c3_0_6 c3_0_7 y3_0 IEL_3 IER_3 II_3 IJ_3 F3 f4
  go_wp2_with fail
  refine K.call (by with_reducible rfl) (by with_reducible rfl) (impl_StepsText xs _ (by omega) (K.bre IX_4) (hL.ext (K.bex F4)).t) ?_
  rintro e w5 ⟨rfl, f5⟩
  have F5 : K.Ext w w5 := K.Ext.trans (K.bex F4) f5
  obtain ⟨c5_0_0, c5_0_1, c5_0_2, c5_0_3, c5_0_4, c5_0_5, c5_0_6, c5_0_7, y5_0⟩ := f5.q8 c4_0_0 c4_0_1 c4_0_2 c4_0_3 c4_0_4 c4_0_5 c4_0_6 c4_0_7
  have IEL_5 := K.ints.ext (K.bin IEL_4) f5
  have IER_5 := K.ints.ext (K.bin IER_4) f5
  have II_5 := K.recs.ext (K.bre II_4) f5
  have IJ_5 := K.recs.ext (K.bre IJ_4) f5
  have IX_5 := K.recs.ext (K.bre IX_4) f5
  clear c4_0_0 c4_0_1 c4_0_2 c4_0_3 c4_0_4 c4_0_5 c4_0_6 c4_0_7 y4_0 IEL_4 IER_4 II_4 IJ_4 IX_4 F4 f5
  go_wp2_with fail
  refine K.call (by with_reducible rfl) (by with_reducible rfl) (spec_StepsText xs _ (by omega) (K.bre IX_5)) ?_
  rintro e w6 ⟨rfl, f6⟩
  have F6 : K.Ext w w6 := K.Ext.trans (K.bex F5) f6
  obtain ⟨c6_0_0, c6_0_1, c6_0_2, c6_0_3, c6_0_4, c6_0_5, c6_0_6, c6_0_7, y6_0⟩ := f6.q8 c5_0_0 c5_0_1 c5_0_2 c5_0_3 c5_0_4 c5_0_5 c5_0_6 c5_0_7
  have IEL_6 := K.ints.ext (K.bin IEL_5) f6
  have IER_6 := K.ints.ext (K.bin IER_5) f6
  have II_6 := K.recs.ext (K.bre II_5) f6
  have IJ_6 := K.recs.ext (K.bre IJ_5) f6
  have IX_6 := K.recs.ext (K.bre IX_5) f6
  clear c5_0_0 c5_0_1 c5_0_2 c5_0_3 c5_0_4 c5_0_5 c5_0_6 c5_0_7 y5_0 IEL_5 IER_5 II_5 IJ_5 IX_5 F5 f6
  go_wp2_with fail
  refine K.call (by with_reducible rfl) (by with_reducible rfl) (DrawReadSteps_any _ hn (K.Ext.size (K.bex F6)) (h.ext (K.bex F6))) ?_
  rintro e w7 ⟨⟨s, rfl, hs⟩, f7⟩
  have F7 : K.Ext w w7 := K.Ext.trans (K.bex F6) f7
  obtain ⟨c7_0_0, c7_0_1, c7_0_2, c7_0_3, c7_0_4, c7_0_5, c7_0_6, c7_0_7, y7_0⟩ := f7.q8 c6_0_0 c6_0_1 c6_0_2 c6_0_3 c6_0_4 c6_0_5 c6_0_6 c6_0_7
  have IEL_7 := K.ints.ext (K.bin IEL_6) f7
  have IER_7 := K.ints.ext (K.bin IER_6) f7
  have II_7 := K.recs.ext (K.bre II_6) f7
  have IJ_7 := K.recs.ext (K.bre IJ_6) f7
  have IX_7 := K.recs.ext (K.bre IX_6) f7
  clear c6_0_0 c6_0_1 c6_0_2 c6_0_3 c6_0_4 c6_0_5 c6_0_6 c6_0_7 y6_0 IEL_6 IER_6 II_6 IJ_6 IX_6 F6 f7
  go_wp2_with fail
  refine K.call (by with_reducible rfl) (by with_reducible rfl) (impl_ReadSteps s _ (by omega) (hL.ext (K.bex F7))) ?_
  rintro e w8 ⟨⟨vR, rfl, hR⟩, f8⟩
  obtain ⟨oR, kR, rfl, _⟩ := id (K.recs.plain hR)
  have IR_8 : K.recs false K.StR w8 0 w8.heap.size (.slice oR ((Z.ReadSteps s).1).length kR) ((Z.ReadSteps s).1) := K.recs.mono (K.recs.plain hR) (Nat.zero_le _) (by omega)
  have F8 : K.Ext w w8 := K.Ext.trans (K.bex F7) f8
  obtain ⟨c8_0_0, c8_0_1, c8_0_2, c8_0_3, c8_0_4, c8_0_5, c8_0_6, c8_0_7, y8_0⟩ := f8.q8 c7_0_0 c7_0_1 c7_0_2 c7_0_3 c7_0_4 c7_0_5 c7_0_6 c7_0_7
  have IEL_8 := K.ints.ext (K.bin IEL_7) f8
  have IER_8 := K.ints.ext (K.bin IER_7) f8
  have II_8 := K.recs.ext (K.bre II_7) f8
  have IJ_8 := K.recs.ext (K.bre IJ_7) f8
  have IX_8 := K.recs.ext (K.bre IX_7) f8
  clear c7_0_0 c7_0_1 c7_0_2 c7_0_3 c7_0_4 c7_0_5 c7_0_6 c7_0_7 y7_0 IEL_7 IER_7 II_7 IJ_7 IX_7 F7 f8
  go_wp2_with fail
  refine K.call (by with_reducible rfl) (by with_reducible rfl) (spec_ReadSteps s _ (by omega)) ?_
  rintro e w9 ⟨⟨vS, rfl, hS⟩, f9⟩
  obtain ⟨oS, kS, rfl, _⟩ := id (hS)
  have IS_9 : K.recs false K.StR w9 0 w9.heap.size (.slice oS ((Z.ReadSteps s).1).length kS) ((Z.ReadSteps s).1) := K.recs.mono (hS) (Nat.zero_le _) (by omega)
  have F9 : K.Ext w w9 := K.Ext.trans (K.bex F8) f9
  obtain ⟨c9_0_0, c9_0_1, c9_0_2, c9_0_3, c9_0_4, c9_0_5, c9_0_6, c9_0_7, y9_0⟩ := f9.q8 c8_0_0 c8_0_1 c8_0_2 c8_0_3 c8_0_4 c8_0_5 c8_0_6 c8_0_7
  have IEL_9 := K.ints.ext (K.bin IEL_8) f9
  have IER_9 := K.ints.ext (K.bin IER_8) f9
  have II_9 := K.recs.ext (K.bre II_8) f9
  have IJ_9 := K.recs.ext (K.bre IJ_8) f9
  have IX_9 := K.recs.ext (K.bre IX_8) f9
  have IR_9 := K.recs.ext (K.bre IR_8) f9
  clear c8_0_0 c8_0_1 c8_0_2 c8_0_3 c8_0_4 c8_0_5 c8_0_6 c8_0_7 y8_0 IEL_8 IER_8 II_8 IJ_8 IX_8 IR_8 F8 f9
  go_wp2_with fail
  refine K.call (by with_reducible rfl) (by with_reducible rfl) (DrawUndoSteps_any _ hn (K.Ext.size (K.bex F9)) (h.ext (K.bex F9))) ?_
  rintro e w10 ⟨⟨vU, us, rfl, ⟨u1, u2⟩, hU⟩, f10⟩
  obtain ⟨oU, kU, rfl, _⟩ := id (hU)
  have IU_10 : K.recs false K.StR w10 0 w10.heap.size (.slice oU us.length kU) us := K.recs.mono (hU) (Nat.zero_le _) (by omega)
  have F10 : K.Ext w w10 := K.Ext.trans (K.bex F9) f10
  obtain ⟨c10_0_0, c10_0_1, c10_0_2, c10_0_3, c10_0_4, c10_0_5, c10_0_6, c10_0_7, y10_0⟩ := f10.q8 c9_0_0 c9_0_1 c9_0_2 c9_0_3 c9_0_4 c9_0_5 c9_0_6 c9_0_7
  have IEL_10 := K.ints.ext (K.bin IEL_9) f10
  have IER_10 := K.ints.ext (K.bin IER_9) f10
  have II_10 := K.recs.ext (K.bre II_9) f10
  have IJ_10 := K.recs.ext (K.bre IJ_9) f10
  have IX_10 := K.recs.ext (K.bre IX_9) f10
  have IR_10 := K.recs.ext (K.bre IR_9) f10
  have IS_10 := K.recs.ext (K.bre IS_9) f10
  clear c9_0_0 c9_0_1 c9_0_2 c9_0_3 c9_0_4 c9_0_5 c9_0_6 c9_0_7 y9_0 IEL_9 IER_9 II_9 IJ_9 IX_9 IR_9 IS_9 F9 f10
  go_wp2_with fail
  refine K.call (by with_reducible rfl) (by with_reducible rfl) (impl_UndoSteps us _ (by omega) (K.bre IU_10)) ?_
  rintro e w11 ⟨⟨vV, rfl, hV⟩, f11⟩
  obtain ⟨oV, kV, rfl, _⟩ := id (K.recs.plain hV)
  have IV_11 : K.recs false K.StR w11 0 w11.heap.size (.slice oV ((Z.UndoSteps us).1).length kV) ((Z.UndoSteps us).1) := K.recs.mono (K.recs.plain hV) (Nat.zero_le _) (by omega)
  have F11 : K.Ext w w11 := K.Ext.trans (K.bex F10) f11
  obtain ⟨c11_0_0, c11_0_1, c11_0_2, c11_0_3, c11_0_4, c11_0_5, c11_0_6, c11_0_7, y11_0⟩ := f11.q8 c10_0_0 c10_0_1 c10_0_2 c10_0_3 c10_0_4 c10_0_5 c10_0_6 c10_0_7
  have IEL_11 := K.ints.ext (K.bin IEL_10) f11
  have IER_11 := K.ints.ext (K.bin IER_10) f11
  have II_11 := K.recs.ext (K.bre II_10) f11
  have IJ_11 := K.recs.ext (K.bre IJ_10) f11
  have IX_11 := K.recs.ext (K.bre IX_10) f11
  have IR_11 := K.recs.ext (K.bre IR_10) f11
  have IS_11 := K.recs.ext (K.bre IS_10) f11
  have IU_11 := K.recs.ext (K.bre IU_10) f11
  clear c10_0_0 c10_0_1 c10_0_2 c10_0_3 c10_0_4 c10_0_5 c10_0_6 c10_0_7 y10_0 IEL_10 IER_10 II_10 IJ_10 IX_10 IR_10 IS_10 IU_10 F10 f11
  go_wp2_with fail
  refine K.call (by with_reducible rfl) (by with_reducible rfl) (spec_UndoSteps us _ (by omega) (K.bre IU_11)) ?_
  rintro e w12 ⟨⟨vW, rfl, hW⟩, f12⟩
  obtain ⟨oW, kW, rfl, _⟩ := id (hW)
  have IW_12 : K.recs false K.StR w12 0 w12.heap.size (.slice oW ((Z.UndoSteps us).1).length kW) ((Z.UndoSteps us).1) := K.recs.mono (hW) (Nat.zero_le _) (by omega)
  have F12 : K.Ext w w12 := K.Ext.trans (K.bex F11) f12
  obtain ⟨c12_0_0, c12_0_1, c12_0_2, c12_0_3, c12_0_4, c12_0_5, c12_0_6, c12_0_7, y12_0⟩ := f12.q8 c11_0_0 c11_0_1 c11_0_2 c11_0_3 c11_0_4 c11_0_5 c11_0_6 c11_0_7
  have IEL_12 := K.ints.ext (K.bin IEL_11) f12
  have IER_12 := K.ints.ext (K.bin IER_11) f12
  have II_12 := K.recs.ext (K.bre II_11) f12
  have IJ_12 := K.recs.ext (K.bre IJ_11) f12
  have IX_12 := K.recs.ext (K.bre IX_11) f12
  have IR_12 := K.recs.ext (K.bre IR_11) f12
  have IS_12 := K.recs.ext (K.bre IS_11) f12
  have IU_12 := K.recs.ext (K.bre IU_11) f12
  have IV_12 := K.recs.ext (K.bre IV_11) f12
  clear c11_0_0 c11_0_1 c11_0_2 c11_0_3 c11_0_4 c11_0_5 c11_0_6 c11_0_7 y11_0 IEL_11 IER_11 II_11 IJ_11 IX_11 IR_11 IS_11 IU_11 IV_11 F11 f12
  have m1 := Z.IsolateName_le E c
  have m2 := Z.ReadSteps_le s
  have m3 := Z.UndoSteps_le us (by omega)
  go_wp2_with fail
  refine K.call (by with_reducible rfl) (by with_reducible rfl) (likeSteps_same (Z.IsolateName E c).1 _ _ _ _ _ _ _ m1 (K.bre II_12) (K.bre IJ_12)) ?_
  rintro e w13 ⟨rfl, f13⟩
  have F13 : K.Ext w w13 := K.Ext.trans (K.bex F12) f13
  obtain ⟨c13_0_0, c13_0_1, c13_0_2, c13_0_3, c13_0_4, c13_0_5, c13_0_6, c13_0_7, y13_0⟩ := f13.q8 c12_0_0 c12_0_1 c12_0_2 c12_0_3 c12_0_4 c12_0_5 c12_0_6 c12_0_7
  have IEL_13 := K.ints.ext (K.bin IEL_12) f13
  have IER_13 := K.ints.ext (K.bin IER_12) f13
  have II_13 := K.recs.ext (K.bre II_12) f13
  have IJ_13 := K.recs.ext (K.bre IJ_12) f13
  have IX_13 := K.recs.ext (K.bre IX_12) f13
  have IR_13 := K.recs.ext (K.bre IR_12) f13
  have IS_13 := K.recs.ext (K.bre IS_12) f13
  have IV_13 := K.recs.ext (K.bre IV_12) f13
  have IW_13 := K.recs.ext (K.bre IW_12) f13
  clear c12_0_0 c12_0_1 c12_0_2 c12_0_3 c12_0_4 c12_0_5 c12_0_6 c12_0_7 y12_0 IEL_12 IER_12 II_12 IJ_12 IX_12 IR_12 IS_12 IV_12 IW_12 F12 f13
  go_wp2_with fail
  refine K.call (by with_reducible rfl) (by with_reducible rfl) (likeSteps_same (Z.ReadSteps s).1 _ _ _ _ _ _ _ m2 (K.bre IR_13) (K.bre IS_13)) ?_
  rintro e w14 ⟨rfl, f14⟩
  have F14 : K.Ext w w14 := K.Ext.trans (K.bex F13) f14
  obtain ⟨c14_0_0, c14_0_1, c14_0_2, c14_0_3, c14_0_4, c14_0_5, c14_0_6, c14_0_7, y14_0⟩ := f14.q8 c13_0_0 c13_0_1 c13_0_2 c13_0_3 c13_0_4 c13_0_5 c13_0_6 c13_0_7
  have IEL_14 := K.ints.ext (K.bin IEL_13) f14
  have IER_14 := K.ints.ext (K.bin IER_13) f14
  have II_14 := K.recs.ext (K.bre II_13) f14
  have IX_14 := K.recs.ext (K.bre IX_13) f14
  have IR_14 := K.recs.ext (K.bre IR_13) f14
  have IS_14 := K.recs.ext (K.bre IS_13) f14
  have IV_14 := K.recs.ext (K.bre IV_13) f14
  have IW_14 := K.recs.ext (K.bre IW_13) f14
  clear c13_0_0 c13_0_1 c13_0_2 c13_0_3 c13_0_4 c13_0_5 c13_0_6 c13_0_7 y13_0 IEL_13 IER_13 II_13 IX_13 IR_13 IS_13 IV_13 IW_13 F13 f14
  go_wp2_with fail
  refine K.call (by with_reducible rfl) (by with_reducible rfl) (likeSteps_same (Z.UndoSteps us).1 _ _ _ _ _ _ _ m3 (K.bre IV_14) (K.bre IW_14)) ?_
  rintro e w15 ⟨rfl, f15⟩
  have F15 : K.Ext w w15 := K.Ext.trans (K.bex F14) f15
  obtain ⟨c15_0_0, c15_0_1, c15_0_2, c15_0_3, c15_0_4, c15_0_5, c15_0_6, c15_0_7, y15_0⟩ := f15.q8 c14_0_0 c14_0_1 c14_0_2 c14_0_3 c14_0_4 c14_0_5 c14_0_6 c14_0_7
  have IEL_15 := K.ints.ext (K.bin IEL_14) f15
  have IER_15 := K.ints.ext (K.bin IER_14) f15
  have II_15 := K.recs.ext (K.bre II_14) f15
  have IX_15 := K.recs.ext (K.bre IX_14) f15
  have IR_15 := K.recs.ext (K.bre IR_14) f15
  have IV_15 := K.recs.ext (K.bre IV_14) f15
  have IW_15 := K.recs.ext (K.bre IW_14) f15
  clear c14_0_0 c14_0_1 c14_0_2 c14_0_3 c14_0_4 c14_0_5 c14_0_6 c14_0_7 y14_0 IEL_14 IER_14 II_14 IX_14 IR_14 IV_14 IW_14 F14 f15
  have hAS := Z.AreSteps_text xs
  go_wp2_with fail
  refine K.call (by with_reducible rfl) (by with_reducible rfl) (impl_AreSteps xs _ (by omega) (K.bre IX_15)) ?_
  rintro e w16 ⟨rfl, f16⟩
  have F16 : K.Ext w w16 := K.Ext.trans (K.bex F15) f16
  obtain ⟨c16_0_0, c16_0_1, c16_0_2, c16_0_3, c16_0_4, c16_0_5, c16_0_6, c16_0_7, y16_0⟩ := f16.q8 c15_0_0 c15_0_1 c15_0_2 c15_0_3 c15_0_4 c15_0_5 c15_0_6 c15_0_7
  have IEL_16 := K.ints.ext (K.bin IEL_15) f16
  have IER_16 := K.ints.ext (K.bin IER_15) f16
  have II_16 := K.recs.ext (K.bre II_15) f16
  have IX_16 := K.recs.ext (K.bre IX_15) f16
  have IR_16 := K.recs.ext (K.bre IR_15) f16
  clear c15_0_0 c15_0_1 c15_0_2 c15_0_3 c15_0_4 c15_0_5 c15_0_6 c15_0_7 y15_0 IEL_15 IER_15 II_15 IX_15 IR_15 F15 f16
  have ht := Z.StepsText_size xs
  by_cases h0 : (Z.ReadSteps s).2 = 0
  · obtain ⟨k1, k2⟩ := Z.ReadSteps_back h0
    have k3 := Z.StepsText_ok k1
    rw [k2] at k3
    have hft := fun w' {lo hi : Nat} {p : Value} (h : K.recs false K.StR w' lo hi p (Z.ReadSteps s).1) (hl : LTab w') => impl_StepsText (Z.ReadSteps s).1 w' m2 h hl
    rw [k3] at hft
    go_wp2_with fail
    refine K.call (by with_reducible rfl) (by with_reducible rfl) (hft _ (K.bre IR_16) (hL.ext (K.bex F16)).t) ?_
    rintro e w17 ⟨rfl, f17⟩
    have F17 : K.Ext w w17 := K.Ext.trans (K.bex F16) f17
    obtain ⟨c17_0_0, c17_0_1, c17_0_2, c17_0_3, c17_0_4, c17_0_5, c17_0_6, c17_0_7, y17_0⟩ := f17.q8 c16_0_0 c16_0_1 c16_0_2 c16_0_3 c16_0_4 c16_0_5 c16_0_6 c16_0_7
    have IEL_17 := K.ints.ext (K.bin IEL_16) f17
    have IER_17 := K.ints.ext (K.bin IER_16) f17
    have II_17 := K.recs.ext (K.bre II_16) f17
    have IX_17 := K.recs.ext (K.bre IX_16) f17
    have IR_17 := K.recs.ext (K.bre IR_16) f17
    clear c16_0_0 c16_0_1 c16_0_2 c16_0_3 c16_0_4 c16_0_5 c16_0_6 c16_0_7 y16_0 IEL_16 IER_16 II_16 IX_16 IR_16 F16 f17
    clear hft k3
    by_cases hc : (Z.StepsText xs).2 = 0
    · have hv : Z.stCode xs = 0 := by rw [← Z.StepsText_code]; exact hc
      have hv2 := Z.StepsText_ok hv
      rw [hv2] at ht
      have hrb := fun w' (h : LV w') => impl_ReadBackS xs w' hv (Nat.le_trans ht (by decide)) h
      go_wp2_with fail
      refine K.call (by with_reducible rfl) (by with_reducible rfl) (hrb _ (hL.ext (K.bex F17))) ?_
      rintro e w18 ⟨⟨vZ, rfl, hZ⟩, f18⟩
      obtain ⟨oZ, kZ, rfl, _⟩ := id (K.recs.plain hZ)
      have IZ_18 : K.recs false K.StR w18 0 w18.heap.size (.slice oZ xs.length kZ) xs := K.recs.mono (K.recs.plain hZ) (Nat.zero_le _) (by omega)
      have F18 : K.Ext w w18 := K.Ext.trans (K.bex F17) f18
      obtain ⟨c18_0_0, c18_0_1, c18_0_2, c18_0_3, c18_0_4, c18_0_5, c18_0_6, c18_0_7, y18_0⟩ := f18.q8 c17_0_0 c17_0_1 c17_0_2 c17_0_3 c17_0_4 c17_0_5 c17_0_6 c17_0_7
      have IEL_18 := K.ints.ext (K.bin IEL_17) f18
      have IER_18 := K.ints.ext (K.bin IER_17) f18
      have II_18 := K.recs.ext (K.bre II_17) f18
      have IX_18 := K.recs.ext (K.bre IX_17) f18
      clear c17_0_0 c17_0_1 c17_0_2 c17_0_3 c17_0_4 c17_0_5 c17_0_6 c17_0_7 y17_0 IEL_17 IER_17 II_17 IX_17 F17 f18
      go_wp2_with fail
      refine K.call (by with_reducible rfl) (by with_reducible rfl) (likeSteps_same xs _ _ _ _ _ _ _ (by omega) (K.bre IZ_18) (K.bre IX_18)) ?_
      rintro e w19 ⟨rfl, f19⟩
      have F19 : K.Ext w w19 := K.Ext.trans (K.bex F18) f19
      obtain ⟨c19_0_0, c19_0_1, c19_0_2, c19_0_3, c19_0_4, c19_0_5, c19_0_6, c19_0_7, y19_0⟩ := f19.q8 c18_0_0 c18_0_1 c18_0_2 c18_0_3 c18_0_4 c18_0_5 c18_0_6 c18_0_7
      have IEL_19 := K.ints.ext (K.bin IEL_18) f19
      have IER_19 := K.ints.ext (K.bin IER_18) f19
      have II_19 := K.recs.ext (K.bre II_18) f19
      have IX_19 := K.recs.ext (K.bre IX_18) f19
      have IZ_19 := K.recs.ext (K.bre IZ_18) f19
      clear c18_0_0 c18_0_1 c18_0_2 c18_0_3 c18_0_4 c18_0_5 c18_0_6 c18_0_7 y18_0 IEL_18 IER_18 II_18 IX_18 IZ_18 F18 f19
      clear hrb
      by_cases hb : (Z.IsolateName E c).2 = 0
      · obtain ⟨A, hA, hAe, hnm, hpw, hex⟩ := Z.isolated_law hb
        have HNM := Z.hide hnm
        have HPW := Z.hide hpw
        have n1 : A.L.pw.length ≤ 1048576 := by rw [hpw]; decide
        have n2 := (Z.isFormula_len (Z.isEquation_parts hAe).2)
        have n3 : A.R.pw.length ≤ 1048576 := by omega
        have n4 : A.R.nm.size ≤ 1048576 := by omega
        clear hnm hpw hAe n2
        go_wp2_with fail
        refine K.call (by with_reducible rfl) (by with_reducible rfl) (impl_RunA E (Z.IsolateName E c).1 A hA _ (by omega) (by omega) (by omega) (by omega) (K.bin IEL_19) (K.bin IER_19) m1 (K.bre II_19)) ?_
        rintro e w20 ⟨⟨pK, qK, mK, rfl, uK, vK, hK, jK⟩, f20⟩
        have JKL := K.own.ints hK
        obtain ⟨oKL, kKL, rfl, _⟩ := id (JKL)
        have IKL_20 : K.ints w20 0 w20.heap.size (.slice oKL A.L.pw.length kKL) A.L.pw := (JKL).mono (Nat.zero_le _) (by omega)
        have JKR := K.own.ints jK
        obtain ⟨oKR, kKR, rfl, _⟩ := id (JKR)
        have IKR_20 : K.ints w20 0 w20.heap.size (.slice oKR A.R.pw.length kKR) A.R.pw := (JKR).mono (Nat.zero_le _) (by omega)
        have F20 : K.Ext w w20 := K.Ext.trans (K.bex F19) f20
        obtain ⟨c20_0_0, c20_0_1, c20_0_2, c20_0_3, c20_0_4, c20_0_5, c20_0_6, c20_0_7, y20_0⟩ := f20.q8 c19_0_0 c19_0_1 c19_0_2 c19_0_3 c19_0_4 c19_0_5 c19_0_6 c19_0_7
        have IEL_20 := K.ints.ext (K.bin IEL_19) f20
        have IER_20 := K.ints.ext (K.bin IER_19) f20
        have II_20 := K.recs.ext (K.bre II_19) f20
        clear c19_0_0 c19_0_1 c19_0_2 c19_0_3 c19_0_4 c19_0_5 c19_0_6 c19_0_7 y19_0 IEL_19 IER_19 II_19 F19 f20
        go_wp2_with fail
        refine K.call (by with_reducible rfl) (by with_reducible rfl) (impl_ExpZero A.R c hex _ n3 n4 (K.bin IKR_20) ⟨c0, c1⟩) ?_
        rintro e w21 ⟨rfl, f21⟩
        have F21 : K.Ext w w21 := K.Ext.trans (K.bex F20) f21
        have c21_1_0 : w21.cell? ⟨w20.heap.size, 0, none⟩ = some (.int .i64 A.L.dg) := f21.cell_of (by go_simp)
        have c21_1_1 : w21.cell? ⟨w20.heap.size, 1, none⟩ = some (.int .i64 A.L.tn) := f21.cell_of (by go_simp)
        have c21_1_2 : w21.cell? ⟨w20.heap.size, 2, none⟩ = some (.string A.L.nm) := f21.cell_of (by go_simp)
        have c21_1_3 : w21.cell? ⟨w20.heap.size, 3, none⟩ = some (.slice oKL A.L.pw.length kKL) := f21.cell_of (by go_simp)
        have c21_1_4 : w21.cell? ⟨w20.heap.size, 4, none⟩ = some (.int .i64 A.R.dg) := f21.cell_of (by go_simp)
        have c21_1_5 : w21.cell? ⟨w20.heap.size, 5, none⟩ = some (.int .i64 A.R.tn) := f21.cell_of (by go_simp)
        have c21_1_6 : w21.cell? ⟨w20.heap.size, 6, none⟩ = some (.string A.R.nm) := f21.cell_of (by go_simp)
        have c21_1_7 : w21.cell? ⟨w20.heap.size, 7, none⟩ = some (.slice oKR A.R.pw.length kKR) := f21.cell_of (by go_simp)
        have y21_1 : w20.heap.size < w21.heap.size := World.block_lt_of_cell? w21 _ c21_1_0
        have IKL_21 := K.ints.ext (K.bin IKL_20) f21
        have IKR_21 := K.ints.ext (K.bin IKR_20) f21
        clear c20_0_0 c20_0_1 c20_0_2 c20_0_3 c20_0_4 c20_0_5 c20_0_6 c20_0_7 y20_0 IKL_20 IKR_20 F20 f21
        have hcv := K.byte_str (P := Tryz.prog) (src := 22) (dst := 9) (g := w21.heap.size) Tryz.underlying22 Tryz.underlying5 Tryz.underlying9 c0 c1 (K.block_new (w := w21) (o := .cells #[.int .u8 c] 5) rfl)
        rw [← HNM.out] at hcv
        have HL1 := K.ints_fresh (W := w21.alloc (.cells #[.int .u8 c] 5)) (T := 2) (g := w21.heap.size + 1) (n := 1) (cs := #[.int .i64 1]) A.L.pw (by simp) (by rw [HPW.out]; rfl) (by rw [HPW.out]; rfl)
        go_wp2_with fail
        refine K.call (by with_reducible rfl) (by with_reducible rfl) (likeInts_same A.L.pw _ _ _ _ _ _ _ n1 (K.bin IKL_21) HL1) ?_
        rintro e w22 ⟨rfl, f22⟩
        have u22_1_1 : w20.heap.size < w21.heap.size + 1 := (by omega)
        have u22_1_2 : w20.heap.size < w21.heap.size + 1 + 1 := (by omega)
        have F22 : K.Ext w w22 := K.Ext.trans (K.bex F21) f22
        obtain ⟨c22_1_0, c22_1_1, c22_1_2, c22_1_3, c22_1_4, c22_1_5, c22_1_6, c22_1_7, y22_1⟩ := f22.q8 c21_1_0 c21_1_1 c21_1_2 c21_1_3 c21_1_4 c21_1_5 c21_1_6 c21_1_7
        have IKL_22 := K.ints.ext (K.bin IKL_21) f22
        clear c21_1_0 c21_1_1 c21_1_2 c21_1_3 c21_1_4 c21_1_5 c21_1_6 c21_1_7 y21_1 IKL_21 F21 f22 u22_1_1 u22_1_2
        go_wp2_with fail
        go_ret
        exact ⟨rfl, (K.bex F22)⟩
      have hb' : ((Z.IsolateName E c).2 == 0) = false := by simpa using hb
      go_wp2_with fail
      go_ret
      exact ⟨rfl, (K.bex F19)⟩
    have hc' : ((Z.StepsText xs).2 == 0) = false := by simpa using hc
    by_cases hb : (Z.IsolateName E c).2 = 0
    · obtain ⟨A, hA, hAe, hnm, hpw, hex⟩ := Z.isolated_law hb
      have HNM := Z.hide hnm
      have HPW := Z.hide hpw
      have n1 : A.L.pw.length ≤ 1048576 := by rw [hpw]; decide
      have n2 := (Z.isFormula_len (Z.isEquation_parts hAe).2)
      have n3 : A.R.pw.length ≤ 1048576 := by omega
      have n4 : A.R.nm.size ≤ 1048576 := by omega
      clear hnm hpw hAe n2
      go_wp2_with fail
      refine K.call (by with_reducible rfl) (by with_reducible rfl) (impl_RunA E (Z.IsolateName E c).1 A hA _ (by omega) (by omega) (by omega) (by omega) (K.bin IEL_17) (K.bin IER_17) m1 (K.bre II_17)) ?_
      rintro e w18 ⟨⟨pK, qK, mK, rfl, uK, vK, hK, jK⟩, f18⟩
      have JKL := K.own.ints hK
      obtain ⟨oKL, kKL, rfl, _⟩ := id (JKL)
      have IKL_18 : K.ints w18 0 w18.heap.size (.slice oKL A.L.pw.length kKL) A.L.pw := (JKL).mono (Nat.zero_le _) (by omega)
      have JKR := K.own.ints jK
      obtain ⟨oKR, kKR, rfl, _⟩ := id (JKR)
      have IKR_18 : K.ints w18 0 w18.heap.size (.slice oKR A.R.pw.length kKR) A.R.pw := (JKR).mono (Nat.zero_le _) (by omega)
      have F18 : K.Ext w w18 := K.Ext.trans (K.bex F17) f18
      obtain ⟨c18_0_0, c18_0_1, c18_0_2, c18_0_3, c18_0_4, c18_0_5, c18_0_6, c18_0_7, y18_0⟩ := f18.q8 c17_0_0 c17_0_1 c17_0_2 c17_0_3 c17_0_4 c17_0_5 c17_0_6 c17_0_7
      have IEL_18 := K.ints.ext (K.bin IEL_17) f18
      have IER_18 := K.ints.ext (K.bin IER_17) f18
      have II_18 := K.recs.ext (K.bre II_17) f18
      clear c17_0_0 c17_0_1 c17_0_2 c17_0_3 c17_0_4 c17_0_5 c17_0_6 c17_0_7 y17_0 IEL_17 IER_17 II_17 F17 f18
      go_wp2_with fail
      refine K.call (by with_reducible rfl) (by with_reducible rfl) (impl_ExpZero A.R c hex _ n3 n4 (K.bin IKR_18) ⟨c0, c1⟩) ?_
      rintro e w19 ⟨rfl, f19⟩
      have F19 : K.Ext w w19 := K.Ext.trans (K.bex F18) f19
      have c19_1_0 : w19.cell? ⟨w18.heap.size, 0, none⟩ = some (.int .i64 A.L.dg) := f19.cell_of (by go_simp)
      have c19_1_1 : w19.cell? ⟨w18.heap.size, 1, none⟩ = some (.int .i64 A.L.tn) := f19.cell_of (by go_simp)
      have c19_1_2 : w19.cell? ⟨w18.heap.size, 2, none⟩ = some (.string A.L.nm) := f19.cell_of (by go_simp)
      have c19_1_3 : w19.cell? ⟨w18.heap.size, 3, none⟩ = some (.slice oKL A.L.pw.length kKL) := f19.cell_of (by go_simp)
      have c19_1_4 : w19.cell? ⟨w18.heap.size, 4, none⟩ = some (.int .i64 A.R.dg) := f19.cell_of (by go_simp)
      have c19_1_5 : w19.cell? ⟨w18.heap.size, 5, none⟩ = some (.int .i64 A.R.tn) := f19.cell_of (by go_simp)
      have c19_1_6 : w19.cell? ⟨w18.heap.size, 6, none⟩ = some (.string A.R.nm) := f19.cell_of (by go_simp)
      have c19_1_7 : w19.cell? ⟨w18.heap.size, 7, none⟩ = some (.slice oKR A.R.pw.length kKR) := f19.cell_of (by go_simp)
      have y19_1 : w18.heap.size < w19.heap.size := World.block_lt_of_cell? w19 _ c19_1_0
      have IKL_19 := K.ints.ext (K.bin IKL_18) f19
      have IKR_19 := K.ints.ext (K.bin IKR_18) f19
      clear c18_0_0 c18_0_1 c18_0_2 c18_0_3 c18_0_4 c18_0_5 c18_0_6 c18_0_7 y18_0 IKL_18 IKR_18 F18 f19
      have hcv := K.byte_str (P := Tryz.prog) (src := 22) (dst := 9) (g := w19.heap.size) Tryz.underlying22 Tryz.underlying5 Tryz.underlying9 c0 c1 (K.block_new (w := w19) (o := .cells #[.int .u8 c] 5) rfl)
      rw [← HNM.out] at hcv
      have HL1 := K.ints_fresh (W := w19.alloc (.cells #[.int .u8 c] 5)) (T := 2) (g := w19.heap.size + 1) (n := 1) (cs := #[.int .i64 1]) A.L.pw (by simp) (by rw [HPW.out]; rfl) (by rw [HPW.out]; rfl)
      go_wp2_with fail
      refine K.call (by with_reducible rfl) (by with_reducible rfl) (likeInts_same A.L.pw _ _ _ _ _ _ _ n1 (K.bin IKL_19) HL1) ?_
      rintro e w20 ⟨rfl, f20⟩
      have u20_1_1 : w18.heap.size < w19.heap.size + 1 := (by omega)
      have u20_1_2 : w18.heap.size < w19.heap.size + 1 + 1 := (by omega)
      have F20 : K.Ext w w20 := K.Ext.trans (K.bex F19) f20
      obtain ⟨c20_1_0, c20_1_1, c20_1_2, c20_1_3, c20_1_4, c20_1_5, c20_1_6, c20_1_7, y20_1⟩ := f20.q8 c19_1_0 c19_1_1 c19_1_2 c19_1_3 c19_1_4 c19_1_5 c19_1_6 c19_1_7
      have IKL_20 := K.ints.ext (K.bin IKL_19) f20
      clear c19_1_0 c19_1_1 c19_1_2 c19_1_3 c19_1_4 c19_1_5 c19_1_6 c19_1_7 y19_1 IKL_19 F19 f20 u20_1_1 u20_1_2
      go_wp2_with fail
      go_ret
      exact ⟨rfl, (K.bex F20)⟩
    have hb' : ((Z.IsolateName E c).2 == 0) = false := by simpa using hb
    go_wp2_with fail
    go_ret
    exact ⟨rfl, (K.bex F17)⟩
  have h0' : ((Z.ReadSteps s).2 == 0) = false := by simpa using h0
  by_cases hc : (Z.StepsText xs).2 = 0
  · have hv : Z.stCode xs = 0 := by rw [← Z.StepsText_code]; exact hc
    have hv2 := Z.StepsText_ok hv
    rw [hv2] at ht
    have hrb := fun w' (h : LV w') => impl_ReadBackS xs w' hv (Nat.le_trans ht (by decide)) h
    go_wp2_with fail
    refine K.call (by with_reducible rfl) (by with_reducible rfl) (hrb _ (hL.ext (K.bex F16))) ?_
    rintro e w17 ⟨⟨vZ, rfl, hZ⟩, f17⟩
    obtain ⟨oZ, kZ, rfl, _⟩ := id (K.recs.plain hZ)
    have IZ_17 : K.recs false K.StR w17 0 w17.heap.size (.slice oZ xs.length kZ) xs := K.recs.mono (K.recs.plain hZ) (Nat.zero_le _) (by omega)
    have F17 : K.Ext w w17 := K.Ext.trans (K.bex F16) f17
    obtain ⟨c17_0_0, c17_0_1, c17_0_2, c17_0_3, c17_0_4, c17_0_5, c17_0_6, c17_0_7, y17_0⟩ := f17.q8 c16_0_0 c16_0_1 c16_0_2 c16_0_3 c16_0_4 c16_0_5 c16_0_6 c16_0_7
    have IEL_17 := K.ints.ext (K.bin IEL_16) f17
    have IER_17 := K.ints.ext (K.bin IER_16) f17
    have II_17 := K.recs.ext (K.bre II_16) f17
    have IX_17 := K.recs.ext (K.bre IX_16) f17
    clear c16_0_0 c16_0_1 c16_0_2 c16_0_3 c16_0_4 c16_0_5 c16_0_6 c16_0_7 y16_0 IEL_16 IER_16 II_16 IX_16 F16 f17
    go_wp2_with fail
    refine K.call (by with_reducible rfl) (by with_reducible rfl) (likeSteps_same xs _ _ _ _ _ _ _ (by omega) (K.bre IZ_17) (K.bre IX_17)) ?_
    rintro e w18 ⟨rfl, f18⟩
    have F18 : K.Ext w w18 := K.Ext.trans (K.bex F17) f18
    obtain ⟨c18_0_0, c18_0_1, c18_0_2, c18_0_3, c18_0_4, c18_0_5, c18_0_6, c18_0_7, y18_0⟩ := f18.q8 c17_0_0 c17_0_1 c17_0_2 c17_0_3 c17_0_4 c17_0_5 c17_0_6 c17_0_7
    have IEL_18 := K.ints.ext (K.bin IEL_17) f18
    have IER_18 := K.ints.ext (K.bin IER_17) f18
    have II_18 := K.recs.ext (K.bre II_17) f18
    have IX_18 := K.recs.ext (K.bre IX_17) f18
    have IZ_18 := K.recs.ext (K.bre IZ_17) f18
    clear c17_0_0 c17_0_1 c17_0_2 c17_0_3 c17_0_4 c17_0_5 c17_0_6 c17_0_7 y17_0 IEL_17 IER_17 II_17 IX_17 IZ_17 F17 f18
    clear hrb
    by_cases hb : (Z.IsolateName E c).2 = 0
    · obtain ⟨A, hA, hAe, hnm, hpw, hex⟩ := Z.isolated_law hb
      have HNM := Z.hide hnm
      have HPW := Z.hide hpw
      have n1 : A.L.pw.length ≤ 1048576 := by rw [hpw]; decide
      have n2 := (Z.isFormula_len (Z.isEquation_parts hAe).2)
      have n3 : A.R.pw.length ≤ 1048576 := by omega
      have n4 : A.R.nm.size ≤ 1048576 := by omega
      clear hnm hpw hAe n2
      go_wp2_with fail
      refine K.call (by with_reducible rfl) (by with_reducible rfl) (impl_RunA E (Z.IsolateName E c).1 A hA _ (by omega) (by omega) (by omega) (by omega) (K.bin IEL_18) (K.bin IER_18) m1 (K.bre II_18)) ?_
      rintro e w19 ⟨⟨pK, qK, mK, rfl, uK, vK, hK, jK⟩, f19⟩
      have JKL := K.own.ints hK
      obtain ⟨oKL, kKL, rfl, _⟩ := id (JKL)
      have IKL_19 : K.ints w19 0 w19.heap.size (.slice oKL A.L.pw.length kKL) A.L.pw := (JKL).mono (Nat.zero_le _) (by omega)
      have JKR := K.own.ints jK
      obtain ⟨oKR, kKR, rfl, _⟩ := id (JKR)
      have IKR_19 : K.ints w19 0 w19.heap.size (.slice oKR A.R.pw.length kKR) A.R.pw := (JKR).mono (Nat.zero_le _) (by omega)
      have F19 : K.Ext w w19 := K.Ext.trans (K.bex F18) f19
      obtain ⟨c19_0_0, c19_0_1, c19_0_2, c19_0_3, c19_0_4, c19_0_5, c19_0_6, c19_0_7, y19_0⟩ := f19.q8 c18_0_0 c18_0_1 c18_0_2 c18_0_3 c18_0_4 c18_0_5 c18_0_6 c18_0_7
      have IEL_19 := K.ints.ext (K.bin IEL_18) f19
      have IER_19 := K.ints.ext (K.bin IER_18) f19
      have II_19 := K.recs.ext (K.bre II_18) f19
      clear c18_0_0 c18_0_1 c18_0_2 c18_0_3 c18_0_4 c18_0_5 c18_0_6 c18_0_7 y18_0 IEL_18 IER_18 II_18 F18 f19
      go_wp2_with fail
      refine K.call (by with_reducible rfl) (by with_reducible rfl) (impl_ExpZero A.R c hex _ n3 n4 (K.bin IKR_19) ⟨c0, c1⟩) ?_
      rintro e w20 ⟨rfl, f20⟩
      have F20 : K.Ext w w20 := K.Ext.trans (K.bex F19) f20
      have c20_1_0 : w20.cell? ⟨w19.heap.size, 0, none⟩ = some (.int .i64 A.L.dg) := f20.cell_of (by go_simp)
      have c20_1_1 : w20.cell? ⟨w19.heap.size, 1, none⟩ = some (.int .i64 A.L.tn) := f20.cell_of (by go_simp)
      have c20_1_2 : w20.cell? ⟨w19.heap.size, 2, none⟩ = some (.string A.L.nm) := f20.cell_of (by go_simp)
      have c20_1_3 : w20.cell? ⟨w19.heap.size, 3, none⟩ = some (.slice oKL A.L.pw.length kKL) := f20.cell_of (by go_simp)
      have c20_1_4 : w20.cell? ⟨w19.heap.size, 4, none⟩ = some (.int .i64 A.R.dg) := f20.cell_of (by go_simp)
      have c20_1_5 : w20.cell? ⟨w19.heap.size, 5, none⟩ = some (.int .i64 A.R.tn) := f20.cell_of (by go_simp)
      have c20_1_6 : w20.cell? ⟨w19.heap.size, 6, none⟩ = some (.string A.R.nm) := f20.cell_of (by go_simp)
      have c20_1_7 : w20.cell? ⟨w19.heap.size, 7, none⟩ = some (.slice oKR A.R.pw.length kKR) := f20.cell_of (by go_simp)
      have y20_1 : w19.heap.size < w20.heap.size := World.block_lt_of_cell? w20 _ c20_1_0
      have IKL_20 := K.ints.ext (K.bin IKL_19) f20
      have IKR_20 := K.ints.ext (K.bin IKR_19) f20
      clear c19_0_0 c19_0_1 c19_0_2 c19_0_3 c19_0_4 c19_0_5 c19_0_6 c19_0_7 y19_0 IKL_19 IKR_19 F19 f20
      have hcv := K.byte_str (P := Tryz.prog) (src := 22) (dst := 9) (g := w20.heap.size) Tryz.underlying22 Tryz.underlying5 Tryz.underlying9 c0 c1 (K.block_new (w := w20) (o := .cells #[.int .u8 c] 5) rfl)
      rw [← HNM.out] at hcv
      have HL1 := K.ints_fresh (W := w20.alloc (.cells #[.int .u8 c] 5)) (T := 2) (g := w20.heap.size + 1) (n := 1) (cs := #[.int .i64 1]) A.L.pw (by simp) (by rw [HPW.out]; rfl) (by rw [HPW.out]; rfl)
      go_wp2_with fail
      refine K.call (by with_reducible rfl) (by with_reducible rfl) (likeInts_same A.L.pw _ _ _ _ _ _ _ n1 (K.bin IKL_20) HL1) ?_
      rintro e w21 ⟨rfl, f21⟩
      have u21_1_1 : w19.heap.size < w20.heap.size + 1 := (by omega)
      have u21_1_2 : w19.heap.size < w20.heap.size + 1 + 1 := (by omega)
      have F21 : K.Ext w w21 := K.Ext.trans (K.bex F20) f21
      obtain ⟨c21_1_0, c21_1_1, c21_1_2, c21_1_3, c21_1_4, c21_1_5, c21_1_6, c21_1_7, y21_1⟩ := f21.q8 c20_1_0 c20_1_1 c20_1_2 c20_1_3 c20_1_4 c20_1_5 c20_1_6 c20_1_7
      have IKL_21 := K.ints.ext (K.bin IKL_20) f21
      clear c20_1_0 c20_1_1 c20_1_2 c20_1_3 c20_1_4 c20_1_5 c20_1_6 c20_1_7 y20_1 IKL_20 F20 f21 u21_1_1 u21_1_2
      go_wp2_with fail
      go_ret
      exact ⟨rfl, (K.bex F21)⟩
    have hb' : ((Z.IsolateName E c).2 == 0) = false := by simpa using hb
    go_wp2_with fail
    go_ret
    exact ⟨rfl, (K.bex F18)⟩
  have hc' : ((Z.StepsText xs).2 == 0) = false := by simpa using hc
  by_cases hb : (Z.IsolateName E c).2 = 0
  · obtain ⟨A, hA, hAe, hnm, hpw, hex⟩ := Z.isolated_law hb
    have HNM := Z.hide hnm
    have HPW := Z.hide hpw
    have n1 : A.L.pw.length ≤ 1048576 := by rw [hpw]; decide
    have n2 := (Z.isFormula_len (Z.isEquation_parts hAe).2)
    have n3 : A.R.pw.length ≤ 1048576 := by omega
    have n4 : A.R.nm.size ≤ 1048576 := by omega
    clear hnm hpw hAe n2
    go_wp2_with fail
    refine K.call (by with_reducible rfl) (by with_reducible rfl) (impl_RunA E (Z.IsolateName E c).1 A hA _ (by omega) (by omega) (by omega) (by omega) (K.bin IEL_16) (K.bin IER_16) m1 (K.bre II_16)) ?_
    rintro e w17 ⟨⟨pK, qK, mK, rfl, uK, vK, hK, jK⟩, f17⟩
    have JKL := K.own.ints hK
    obtain ⟨oKL, kKL, rfl, _⟩ := id (JKL)
    have IKL_17 : K.ints w17 0 w17.heap.size (.slice oKL A.L.pw.length kKL) A.L.pw := (JKL).mono (Nat.zero_le _) (by omega)
    have JKR := K.own.ints jK
    obtain ⟨oKR, kKR, rfl, _⟩ := id (JKR)
    have IKR_17 : K.ints w17 0 w17.heap.size (.slice oKR A.R.pw.length kKR) A.R.pw := (JKR).mono (Nat.zero_le _) (by omega)
    have F17 : K.Ext w w17 := K.Ext.trans (K.bex F16) f17
    obtain ⟨c17_0_0, c17_0_1, c17_0_2, c17_0_3, c17_0_4, c17_0_5, c17_0_6, c17_0_7, y17_0⟩ := f17.q8 c16_0_0 c16_0_1 c16_0_2 c16_0_3 c16_0_4 c16_0_5 c16_0_6 c16_0_7
    have IEL_17 := K.ints.ext (K.bin IEL_16) f17
    have IER_17 := K.ints.ext (K.bin IER_16) f17
    have II_17 := K.recs.ext (K.bre II_16) f17
    clear c16_0_0 c16_0_1 c16_0_2 c16_0_3 c16_0_4 c16_0_5 c16_0_6 c16_0_7 y16_0 IEL_16 IER_16 II_16 F16 f17
    go_wp2_with fail
    refine K.call (by with_reducible rfl) (by with_reducible rfl) (impl_ExpZero A.R c hex _ n3 n4 (K.bin IKR_17) ⟨c0, c1⟩) ?_
    rintro e w18 ⟨rfl, f18⟩
    have F18 : K.Ext w w18 := K.Ext.trans (K.bex F17) f18
    have c18_1_0 : w18.cell? ⟨w17.heap.size, 0, none⟩ = some (.int .i64 A.L.dg) := f18.cell_of (by go_simp)
    have c18_1_1 : w18.cell? ⟨w17.heap.size, 1, none⟩ = some (.int .i64 A.L.tn) := f18.cell_of (by go_simp)
    have c18_1_2 : w18.cell? ⟨w17.heap.size, 2, none⟩ = some (.string A.L.nm) := f18.cell_of (by go_simp)
    have c18_1_3 : w18.cell? ⟨w17.heap.size, 3, none⟩ = some (.slice oKL A.L.pw.length kKL) := f18.cell_of (by go_simp)
    have c18_1_4 : w18.cell? ⟨w17.heap.size, 4, none⟩ = some (.int .i64 A.R.dg) := f18.cell_of (by go_simp)
    have c18_1_5 : w18.cell? ⟨w17.heap.size, 5, none⟩ = some (.int .i64 A.R.tn) := f18.cell_of (by go_simp)
    have c18_1_6 : w18.cell? ⟨w17.heap.size, 6, none⟩ = some (.string A.R.nm) := f18.cell_of (by go_simp)
    have c18_1_7 : w18.cell? ⟨w17.heap.size, 7, none⟩ = some (.slice oKR A.R.pw.length kKR) := f18.cell_of (by go_simp)
    have y18_1 : w17.heap.size < w18.heap.size := World.block_lt_of_cell? w18 _ c18_1_0
    have IKL_18 := K.ints.ext (K.bin IKL_17) f18
    have IKR_18 := K.ints.ext (K.bin IKR_17) f18
    clear c17_0_0 c17_0_1 c17_0_2 c17_0_3 c17_0_4 c17_0_5 c17_0_6 c17_0_7 y17_0 IKL_17 IKR_17 F17 f18
    have hcv := K.byte_str (P := Tryz.prog) (src := 22) (dst := 9) (g := w18.heap.size) Tryz.underlying22 Tryz.underlying5 Tryz.underlying9 c0 c1 (K.block_new (w := w18) (o := .cells #[.int .u8 c] 5) rfl)
    rw [← HNM.out] at hcv
    have HL1 := K.ints_fresh (W := w18.alloc (.cells #[.int .u8 c] 5)) (T := 2) (g := w18.heap.size + 1) (n := 1) (cs := #[.int .i64 1]) A.L.pw (by simp) (by rw [HPW.out]; rfl) (by rw [HPW.out]; rfl)
    go_wp2_with fail
    refine K.call (by with_reducible rfl) (by with_reducible rfl) (likeInts_same A.L.pw _ _ _ _ _ _ _ n1 (K.bin IKL_18) HL1) ?_
    rintro e w19 ⟨rfl, f19⟩
    have u19_1_1 : w17.heap.size < w18.heap.size + 1 := (by omega)
    have u19_1_2 : w17.heap.size < w18.heap.size + 1 + 1 := (by omega)
    have F19 : K.Ext w w19 := K.Ext.trans (K.bex F18) f19
    obtain ⟨c19_1_0, c19_1_1, c19_1_2, c19_1_3, c19_1_4, c19_1_5, c19_1_6, c19_1_7, y19_1⟩ := f19.q8 c18_1_0 c18_1_1 c18_1_2 c18_1_3 c18_1_4 c18_1_5 c18_1_6 c18_1_7
    have IKL_19 := K.ints.ext (K.bin IKL_18) f19
    clear c18_1_0 c18_1_1 c18_1_2 c18_1_3 c18_1_4 c18_1_5 c18_1_6 c18_1_7 y18_1 IKL_18 F18 f19 u19_1_1 u19_1_2
    go_wp2_with fail
    go_ret
    exact ⟨rfl, (K.bex F19)⟩
  have hb' : ((Z.IsolateName E c).2 == 0) = false := by simpa using hb
  go_wp2_with fail
  go_ret
  exact ⟨rfl, (K.bex F16)⟩
end Go.Proofs.YtmgocfdhngeeiaaGreatDoor
end
section
namespace Go.Proofs.YtmgocfdhngeeiaaGreatDoor
open Go.ChangeShapes Go.WideShapes Go.ChangeAt Go.RowKit
namespace frameFnIsolated
theorem own : ownKnob Tryz.prog.godebug = none := by kernel_rfl
theorem laidOut : laidOutB Tryz.prog = true := by kernel_rfl
theorem reads : ∀ t ∈ Tryz.f4.params.toList, Tryz.prog.readableRec t = true ∧ t < Tryz.prog.types.size := by
  rw [Tryz.params4]
  intro t ht
  simp only [List.mem_cons, List.not_mem_nil, or_false] at ht
  subst ht; exact ⟨by kernel_rfl, of_decide_eq_true (by kernel_rfl)⟩
theorem gTab : Tryz.prog.globalNamed "internal/strconv.uint64pow10" = some 3 := by kernel_rfl
theorem gTabType : (Tryz.prog.globals[3]?).map (·.type) = some 188 := by kernel_rfl
theorem cellsT : Tryz.prog.cellsOf 188 = 20 := by kernel_rfl
theorem cellsE : Tryz.prog.cellsOf 154 = 1 := by kernel_rfl
theorem laidList {W : World} (h : laidMetH Tryz.prog Rows.fnIsolatedRow.laid W) : laidMet Tryz.prog Rows.fnIsolatedRow.laid W := by
  rwa [MakeChecks.laidMetH_plain _ _ _ (by kernel_rfl)] at h
theorem table {W : World} (h : laidMetH Tryz.prog Rows.fnIsolatedRow.laid W) : LTab W := by
  have h3 := (laidList h).tail.tail
  exact ⟨Lib.tabIs_of_head (k := .u64) (zs := Lib.pow10Tab) gTab gTabType Tryz.underlying188 Tryz.underlying154 cellsE cellsT h3⟩
theorem gES : Tryz.prog.globalNamed "strconv.ErrSyntax" = some 1 := by kernel_rfl
theorem gESType : (Tryz.prog.globals[1]?).map (·.type) = some 110 := by kernel_rfl
theorem gER : Tryz.prog.globalNamed "strconv.ErrRange" = some 2 := by kernel_rfl
theorem gERType : (Tryz.prog.globals[2]?).map (·.type) = some 110 := by kernel_rfl
theorem cellsErr : Tryz.prog.cellsOf 198 = 1 := by kernel_rfl
theorem cellsStr : Tryz.prog.cellsOf 9 = 1 := by kernel_rfl
theorem star : "*" ++ "errors.errorString" = "*errors.errorString" := by decide
theorem rowErr (u : TypeId) (h : Tryz.prog.typeName? 3 u = some "*errors.errorString") : u = 196 :=
  typeName_ptr_named (nm := "errors.errorString") (by rw [star]; kernel_rfl) (by kernel_rfl) (by decide) u (by rw [star]; exact h)
theorem libv {W : World} (h : laidMetH Tryz.prog Rows.fnIsolatedRow.laid W) (hsh : W.ShapedOpen Tryz.prog) : LV W := by
  have h5 := (laidList h).tail.tail.tail.tail
  obtain ⟨a0, s0, hv0, -, -, -⟩ := laid_sentinel h5 gER gERType Tryz.underlying110 rowErr Tryz.underlying196 Tryz.underlying198 rfl rfl Tryz.underlying9 cellsErr cellsStr
  obtain ⟨a1, s1, hv1, -, -, -⟩ := laid_sentinel h5.tail gES gESType Tryz.underlying110 rowErr Tryz.underlying196 Tryz.underlying198 rfl rfl Tryz.underlying9 cellsErr cellsStr
  exact ⟨(table h).tab, Tryz.laysM146.s1_3 W hsh, ⟨_, by have h0 := World.var?_cell gES hv1 0; simpa using h0, Or.inr ⟨_, _, rfl⟩⟩, ⟨_, by have h0 := World.var?_cell gER hv0 0; simpa using h0, Or.inr ⟨_, _, rfl⟩⟩⟩
/-- A world for the witness: what the door lays, and the pinned table. -/
noncomputable def laidWorld (os : Os) : World :=
  { World.doorLaid Tryz.prog 72 os with heap := (World.doorLaid Tryz.prog 72 os).heap.modify 4 fun
      | .cells _ t frozen => .cells (Go.Pinned.utf8FirstZ.map (fun (n : Nat) => Value.int .u8 (n : Int))).toArray t frozen
      | o => o }
theorem laid_met (os : Os) : laidMetH Tryz.prog Rows.fnIsolatedRow.laid ((laidWorld os).forCall (fun _ _ => 0) ⟨#[], #[.slice none 0 0], []⟩).memory :=
  laidMetH_of_parts3 (fuel := 8) (laidMet_of_run' 8 (by kernel_rfl) (by kernel_rfl)) (by kernel_rfl) (by kernel_rfl)
theorem readsW (os : Os) {H : Type} (enc : TypeId × Value → H) : ∃ places, DataW.whole enc Tryz.prog ((laidWorld os).forCall (fun _ _ => 0) ⟨#[], #[.slice none 0 0], []⟩).memory Tryz.f4.params.toList Rows.fnIsolatedSpec.vars false #[.slice none 0 0].toList 8 = some ([.nil], [], places) :=
  ⟨[], by kernel_rfl⟩
set_option maxRecDepth 100000 in
theorem lifted (os : Os) (started : os.Started) (H : Type) (enc : TypeId × Value → H) (F : Stop.Interp) :
    ReturnsInHanded {} Tryz.checked os 4 .any ((OpenSpec.ofChange Rows.fnIsolatedSpec).preRow enc Tryz.prog Tryz.f4 Rows.fnIsolatedRow.domain false Rows.fnIsolatedRow.laid) (((OpenSpec.ofChange Rows.fnIsolatedSpec).at F).post enc Tryz.prog Tryz.f4 false true false false) := by
  obtain ⟨places, hx⟩ := readsW os enc
  refine returnsInHanded_of_row (C := Tryz.checked) (s := OpenSpec.ofChange Rows.fnIsolatedSpec) own started (by kernel_rfl) Tryz.func4
    (witness_row_atRef (enc := enc) (C := Tryz.checked) false (laidWorld os) #[.slice none 0 0] rfl (by kernel_rfl) (by kernel_rfl) (by kernel_rfl)
      (OpenSpec.preRow_of_cond 8 hx (by kernel_rfl) (fun k hk => by cases hk) (by kernel_rfl) (laid_met os))) ?_
  intro W base args ds gs before hval0 hW hcnd _ _ hL hsh _
  have hval : ∀ (j : Nat) t v, Tryz.f4.params[j]? = some t → args[j]? = some v → Value.okWide Tryz.prog W .any base t v := hval0
  have hW' := hW
  obtain ⟨p, q, hA0, hV, rfl, hfz, hnd⟩ := hW
  have hA : DataW.TrodAll enc Tryz.prog W 0 (fun _ => true) true Tryz.f4.params.toList args.toList ds p := hA0
  rw [Tryz.params4] at hA hval
  obtain ⟨rfl, rfl⟩ := trodVars_none hV
  obtain ⟨v0, vs0, d0, ds0, p0, q0, hargs, rfl, rfl, h0, r0⟩ := trodAll_cons hA
  obtain ⟨rfl, rfl, rfl⟩ := trodAll_nil r0
  obtain rfl : args = #[v0] := by cases args; simp_all
  clear hA0 hval0
  obtain ⟨a0, l0, c0, rfl⟩ := okWide_slice Tryz.underlying22 (hval 0 22 v0 rfl rfl)
  obtain ⟨fu0, hf0⟩ := h0
  obtain ⟨x0, zs0, ex0, hx0, hl0, hq0⟩ := K.recs_arg (R := K.ByR) (Q := fun s => 0 ≤ s ∧ s ≤ 255) 0 (by decide) Tryz.underlying22 (by kernel_rfl) (fun n cs y hy => K.byte_cells Tryz.underlying5 hy) hf0
  obtain rfl : Value.slice a0 l0 c0 = x0 := by simpa [Value.cells] using ex0
  refine Calls.mono (law_FnIsolated  W (K.byts_of_recs hx0 hq0) (libv hL hsh)) fun e W' ⟨he, hg⟩ => ?_
  subst he
  exact ⟨_, rfl, K.law_post laidOut reads rfl Tryz.underlying4 rfl hW' rfl hg⟩
theorem over : Rows.FnIsolatedSaid :=
  OpenClaim.holds_of_cond 4 Tryz.f4 rfl rfl rfl rfl rfl rfl rfl ⟨rfl, rfl, rfl, rfl, rfl⟩ rfl rfl rfl rfl rfl (by kernel_rfl) Tryz.func4 (by kernel_rfl)
    (of_decide_eq_true (by kernel_rfl)) (by unfold Func.isWrapper; first | (rw [if_pos (by decide +kernel)]; kernel_rfl) | (rw [if_neg (by decide +kernel)]; exact ⟨rfl, rfl⟩))
    (fun os started H enc _ F => by rw [OpenClaim.pre_eq_preRow]; exact lifted os started H enc F)
theorem plain (f : FuncId) (fn : Func) (hf : Tryz.pinned.checked.prog.funcNamed "loop.example/g00951/laws.FnIsolated" = some f) (hfn : Tryz.pinned.checked.prog.funcs[f]? = some fn) :
    true = Tryz.pinned.checked.prog.looks [] ∧ ∀ (j : Nat) t, fn.params[j]? = some t → Tryz.pinned.checked.prog.wantsStandIn t = false := by
  obtain rfl : f = 4 := Option.some.inj ((show Tryz.prog.funcNamed "loop.example/g00951/laws.FnIsolated" = some 4 by kernel_rfl).symm.trans hf) |>.symm
  obtain rfl : fn = Tryz.f4 := (Option.some.inj (Tryz.func4.symm.trans hfn)).symm
  refine ⟨by kernel_rfl, fun j t ht => ?_⟩
  rw [Tryz.params4] at ht
  have hm := Array.mem_of_getElem? ht
  simp only [List.mem_toArray, List.mem_cons, List.not_mem_nil, or_false] at hm
  subst hm
  exact (show Tryz.prog.wantsStandIn 22 = false by kernel_rfl)
/-- The given statement: the card. -/
theorem proved : Rows.FnIsolatedCardSaid :=
  Claim7.holds_tied_plain_at .later [] _ _ _ _ over (fun _ h => by cases h) (by kernel_rfl) (fun _ h => by cases h) fnIsolated_row_tie rfl ⟨rfl, rfl⟩ (by kernel_rfl) rfl plain (by kernel_rfl)
#print axioms proved
end frameFnIsolated
end Go.Proofs.YtmgocfdhngeeiaaGreatDoor
end
