/-
  THE LAW FnEquations: its walk.
-/
import Derived.Test.YthmnlbgbacbocaaDrE
import Derived.Test.YthmnlbgbacbocaaBig
import Derived.Test.YthmnlbgbacbocaaLike
import Derived.Test.YthmnlbgbacbocaaZEquL
import Derived.Test.YthmnlbgbacbocaaSwap
import Derived.Test.YthmnlbgbacbocaaEq2
import Derived.Test.YthmnlbgbacbocaaEq4
import Derived.Test.YthmnlbgbacbocaaEq3
import Derived.Test.YthmnlbgbacbocaaEq1
import Derived.Test.YthmnlbgbacbocaaFm6
set_option linter.unusedVariables false
namespace Go.Proofs.Ythmnlbgbacbocaa
open Go.RowKit
theorem impl_Swap (E : Z.Eqn) {r : Z.Eqn × Int} (hr : Z.SwapSides E = r) {l1 r1 l2 r2 : Nat} {p q : Value} (w : World) (hm : E.L.pw.length ≤ 1048576) (hn : E.L.nm.size ≤ 1048576) (hm' : E.R.pw.length ≤ 1048576) (hn' : E.R.nm.size ≤ 1048576) (h : K.ints w l1 r1 p E.L.pw) (h' : K.ints w l2 r2 q E.R.pw) :
    Calls Try.prog 38 #[.agg #[.int .i64 E.L.dg, .int .i64 E.L.tn, .string E.L.nm, p, .int .i64 E.R.dg, .int .i64 E.R.tn, .string E.R.nm, q]] w fun e w' => (∃ p' q' m, e = .returned (.tuple #[.agg #[.int .i64 r.1.L.dg, .int .i64 r.1.L.tn, .string r.1.L.nm, p', .int .i64 r.1.R.dg, .int .i64 r.1.R.tn, .string r.1.R.nm, q'], .int .i64 r.2]) ∧ w.heap.size ≤ m ∧ m ≤ w'.heap.size ∧ K.own w' w.heap.size m p' r.1.L.pw ∧ K.own w' m w'.heap.size q' r.1.R.pw) ∧ K.Ext w w' := by subst hr; exact impl_SwapSides E w hm hn hm' hn' h h'
set_option maxRecDepth 100000 in
set_option maxHeartbeats 12800000 in
theorem law_FnEquations {n : Nat} {v : Value} (w : World) (h : K.byts w w.heap.size v n) :
    Calls Try.prog 5 #[v] w fun e w' => e = .returned (.bool true) ∧ K.Ext w w' := by
  have F0 : K.Ext w w := K.Ext.refl _
  rcases Nat.lt_or_ge 4096 n with hn | hn
  · go_enter Try.func5, Try.ntmps5
    go_wp2_with fail
    refine K.call (by with_reducible rfl) (by with_reducible rfl) (big_yes _ hn h) ?_
    rintro e w1 ⟨rfl, rfl⟩
    go_wp2_with fail
    go_ret
    exact ⟨rfl, F0⟩
  go_enter Try.func5, Try.ntmps5
  go_wp2_with fail
  refine K.call (by with_reducible rfl) (by with_reducible rfl) (big_no _ hn h) ?_
  rintro e w1 ⟨rfl, rfl⟩
  go_wp2_with fail
  refine K.call (by with_reducible rfl) (by with_reducible rfl) (DrawTimesFormula_any _ hn (K.Ext.size (by repeat' (first | with_reducible exact F0 | with_reducible refine K.Ext.setCell ?_ ?_ _ | with_reducible refine K.Ext.alloc ?_ _ | with_reducible refine K.Ext.drew ?_ | (dsimp only; omega) | omega | (simp; omega)))) (h.ext (by repeat' (first | with_reducible exact F0 | with_reducible refine K.Ext.setCell ?_ ?_ _ | with_reducible refine K.Ext.alloc ?_ _ | with_reducible refine K.Ext.drew ?_ | (dsimp only; omega) | omega | (simp; omega))))) ?_
  rintro e w1 ⟨⟨E, pE, qE, F, pF, rfl, ⟨a1, a2⟩, ⟨a3, a4⟩, hE1, hE2, ⟨a5, a6⟩, hF1⟩, f1⟩
  obtain ⟨oEL, kEL, rfl, _⟩ := id (hE1)
  have IEL_1 : K.ints w1 0 w1.heap.size (.slice oEL E.L.pw.length kEL) E.L.pw := (hE1).mono (Nat.zero_le _) (by omega)
  obtain ⟨oER, kER, rfl, _⟩ := id (hE2)
  have IER_1 : K.ints w1 0 w1.heap.size (.slice oER E.R.pw.length kER) E.R.pw := (hE2).mono (Nat.zero_le _) (by omega)
  obtain ⟨oF, kF, rfl, _⟩ := id (hF1)
  have IF_1 : K.ints w1 0 w1.heap.size (.slice oF F.pw.length kF) F.pw := (hF1).mono (Nat.zero_le _) (by omega)
  have F1 : K.Ext w w1 := K.Ext.trans (by repeat' (first | with_reducible exact F0 | with_reducible refine K.Ext.setCell ?_ ?_ _ | with_reducible refine K.Ext.alloc ?_ _ | with_reducible refine K.Ext.drew ?_ | (dsimp only; omega) | omega | (simp; omega))) f1
  clear f1
  go_wp2_with fail
  refine K.call (by with_reducible rfl) (by with_reducible rfl) (impl_TimesFormula E F _ (by omega) (by omega) (by omega) (by omega) (show K.ints _ 0 w1.heap.size (.slice oEL E.L.pw.length kEL) E.L.pw from by with_reducible repeat' (first | exact IEL_1 | refine K.ints.alloc ?_ _ | refine K.ints.drew ?_ | refine K.ints.set ?_ _ ?_ _ | (dsimp only; omega) | omega | (simp; done) | (simp; omega))) (show K.ints _ 0 w1.heap.size (.slice oER E.R.pw.length kER) E.R.pw from by with_reducible repeat' (first | exact IER_1 | refine K.ints.alloc ?_ _ | refine K.ints.drew ?_ | refine K.ints.set ?_ _ ?_ _ | (dsimp only; omega) | omega | (simp; done) | (simp; omega))) (by omega) (by omega) (show K.ints _ 0 w1.heap.size (.slice oF F.pw.length kF) F.pw from by with_reducible repeat' (first | exact IF_1 | refine K.ints.alloc ?_ _ | refine K.ints.drew ?_ | refine K.ints.set ?_ _ ?_ _ | (dsimp only; omega) | omega | (simp; done) | (simp; omega)))) ?_
  rintro e w2 ⟨⟨pX, qX, mX, rfl, uX, vX, hX, jX⟩, f2⟩
  obtain ⟨oXL, kXL, rfl, _⟩ := id (K.own.ints hX)
  have IXL_2 : K.ints w2 0 w2.heap.size (.slice oXL ((Z.TimesFormula E F).1.L).pw.length kXL) ((Z.TimesFormula E F).1.L).pw := (K.own.ints hX).mono (Nat.zero_le _) (by omega)
  obtain ⟨oXR, kXR, rfl, _⟩ := id (K.own.ints jX)
  have IXR_2 : K.ints w2 0 w2.heap.size (.slice oXR ((Z.TimesFormula E F).1.R).pw.length kXR) ((Z.TimesFormula E F).1.R).pw := (K.own.ints jX).mono (Nat.zero_le _) (by omega)
  have F2 : K.Ext w w2 := K.Ext.trans (by repeat' (first | with_reducible exact F1 | with_reducible refine K.Ext.setCell ?_ ?_ _ | with_reducible refine K.Ext.alloc ?_ _ | with_reducible refine K.Ext.drew ?_ | (dsimp only; omega) | omega | (simp; omega))) f2
  have c2_0_0 : w2.cell? ⟨w1.heap.size, 0, none⟩ = some (.int .i64 E.L.dg) := f2.cell_of (by go_simp)
  have c2_0_1 : w2.cell? ⟨w1.heap.size, 1, none⟩ = some (.int .i64 E.L.tn) := f2.cell_of (by go_simp)
  have c2_0_2 : w2.cell? ⟨w1.heap.size, 2, none⟩ = some (.string E.L.nm) := f2.cell_of (by go_simp)
  have c2_0_3 : w2.cell? ⟨w1.heap.size, 3, none⟩ = some (.slice oEL E.L.pw.length kEL) := f2.cell_of (by go_simp)
  have c2_0_4 : w2.cell? ⟨w1.heap.size, 4, none⟩ = some (.int .i64 E.R.dg) := f2.cell_of (by go_simp)
  have c2_0_5 : w2.cell? ⟨w1.heap.size, 5, none⟩ = some (.int .i64 E.R.tn) := f2.cell_of (by go_simp)
  have c2_0_6 : w2.cell? ⟨w1.heap.size, 6, none⟩ = some (.string E.R.nm) := f2.cell_of (by go_simp)
  have c2_0_7 : w2.cell? ⟨w1.heap.size, 7, none⟩ = some (.slice oER E.R.pw.length kER) := f2.cell_of (by go_simp)
  have y2_0 : w1.heap.size < w2.heap.size := World.block_lt_of_cell? w2 _ c2_0_0
  have c2_1_0 : w2.cell? ⟨w1.heap.size + 1, 0, none⟩ = some (.int .i64 F.dg) := f2.cell_of (by go_simp)
  have c2_1_1 : w2.cell? ⟨w1.heap.size + 1, 1, none⟩ = some (.int .i64 F.tn) := f2.cell_of (by go_simp)
  have c2_1_2 : w2.cell? ⟨w1.heap.size + 1, 2, none⟩ = some (.string F.nm) := f2.cell_of (by go_simp)
  have c2_1_3 : w2.cell? ⟨w1.heap.size + 1, 3, none⟩ = some (.slice oF F.pw.length kF) := f2.cell_of (by go_simp)
  have y2_1 : w1.heap.size + 1 < w2.heap.size := World.block_lt_of_cell? w2 _ c2_1_0
  have IEL_2 := K.ints.ext (show K.ints _ 0 w1.heap.size (.slice oEL E.L.pw.length kEL) E.L.pw from by with_reducible repeat' (first | exact IEL_1 | refine K.ints.alloc ?_ _ | refine K.ints.drew ?_ | refine K.ints.set ?_ _ ?_ _ | (dsimp only; omega) | omega | (simp; done) | (simp; omega))) f2
  have IER_2 := K.ints.ext (show K.ints _ 0 w1.heap.size (.slice oER E.R.pw.length kER) E.R.pw from by with_reducible repeat' (first | exact IER_1 | refine K.ints.alloc ?_ _ | refine K.ints.drew ?_ | refine K.ints.set ?_ _ ?_ _ | (dsimp only; omega) | omega | (simp; done) | (simp; omega))) f2
  have IF_2 := K.ints.ext (show K.ints _ 0 w1.heap.size (.slice oF F.pw.length kF) F.pw from by with_reducible repeat' (first | exact IF_1 | refine K.ints.alloc ?_ _ | refine K.ints.drew ?_ | refine K.ints.set ?_ _ ?_ _ | (dsimp only; omega) | omega | (simp; done) | (simp; omega))) f2
  clear IEL_1 IER_1 IF_1 F1 f2
  go_wp2_with fail
  refine K.call (by with_reducible rfl) (by with_reducible rfl) (spec_TimesFormula E F _ (by omega) (by omega) (by omega) (by omega) (show K.ints _ 0 w1.heap.size (.slice oEL E.L.pw.length kEL) E.L.pw from by with_reducible repeat' (first | exact IEL_2 | refine K.ints.alloc ?_ _ | refine K.ints.drew ?_ | refine K.ints.set ?_ _ ?_ _ | (dsimp only; omega) | omega | (simp; done) | (simp; omega))) (show K.ints _ 0 w1.heap.size (.slice oER E.R.pw.length kER) E.R.pw from by with_reducible repeat' (first | exact IER_2 | refine K.ints.alloc ?_ _ | refine K.ints.drew ?_ | refine K.ints.set ?_ _ ?_ _ | (dsimp only; omega) | omega | (simp; done) | (simp; omega))) (by omega) (by omega) (show K.ints _ 0 w1.heap.size (.slice oF F.pw.length kF) F.pw from by with_reducible repeat' (first | exact IF_2 | refine K.ints.alloc ?_ _ | refine K.ints.drew ?_ | refine K.ints.set ?_ _ ?_ _ | (dsimp only; omega) | omega | (simp; done) | (simp; omega)))) ?_
  rintro e w3 ⟨⟨pY, qY, rfl, hY, jY⟩, f3⟩
  obtain ⟨oYL, kYL, rfl, _⟩ := id (hY)
  have IYL_3 : K.ints w3 0 w3.heap.size (.slice oYL ((Z.TimesFormula E F).1.L).pw.length kYL) ((Z.TimesFormula E F).1.L).pw := (hY).mono (Nat.zero_le _) (by omega)
  obtain ⟨oYR, kYR, rfl, _⟩ := id (jY)
  have IYR_3 : K.ints w3 0 w3.heap.size (.slice oYR ((Z.TimesFormula E F).1.R).pw.length kYR) ((Z.TimesFormula E F).1.R).pw := (jY).mono (Nat.zero_le _) (by omega)
  have u3_0_1 : w1.heap.size < w2.heap.size + 1 := (by omega)
  have u3_1_1 : w1.heap.size + 1 < w2.heap.size + 1 := (by omega)
  have F3 : K.Ext w w3 := K.Ext.trans (by repeat' (first | with_reducible exact F2 | with_reducible refine K.Ext.setCell ?_ ?_ _ | with_reducible refine K.Ext.alloc ?_ _ | with_reducible refine K.Ext.drew ?_ | (dsimp only; omega) | omega | (simp; omega))) f3
  have c3_0_0 : w3.cell? ⟨w1.heap.size, 0, none⟩ = some (.int .i64 E.L.dg) := f3.cell_of (by go_simp)
  have c3_0_1 : w3.cell? ⟨w1.heap.size, 1, none⟩ = some (.int .i64 E.L.tn) := f3.cell_of (by go_simp)
  have c3_0_2 : w3.cell? ⟨w1.heap.size, 2, none⟩ = some (.string E.L.nm) := f3.cell_of (by go_simp)
  have c3_0_3 : w3.cell? ⟨w1.heap.size, 3, none⟩ = some (.slice oEL E.L.pw.length kEL) := f3.cell_of (by go_simp)
  have c3_0_4 : w3.cell? ⟨w1.heap.size, 4, none⟩ = some (.int .i64 E.R.dg) := f3.cell_of (by go_simp)
  have c3_0_5 : w3.cell? ⟨w1.heap.size, 5, none⟩ = some (.int .i64 E.R.tn) := f3.cell_of (by go_simp)
  have c3_0_6 : w3.cell? ⟨w1.heap.size, 6, none⟩ = some (.string E.R.nm) := f3.cell_of (by go_simp)
  have c3_0_7 : w3.cell? ⟨w1.heap.size, 7, none⟩ = some (.slice oER E.R.pw.length kER) := f3.cell_of (by go_simp)
  have y3_0 : w1.heap.size < w3.heap.size := World.block_lt_of_cell? w3 _ c3_0_0
  have c3_1_0 : w3.cell? ⟨w1.heap.size + 1, 0, none⟩ = some (.int .i64 F.dg) := f3.cell_of (by go_simp)
  have c3_1_1 : w3.cell? ⟨w1.heap.size + 1, 1, none⟩ = some (.int .i64 F.tn) := f3.cell_of (by go_simp)
  have c3_1_2 : w3.cell? ⟨w1.heap.size + 1, 2, none⟩ = some (.string F.nm) := f3.cell_of (by go_simp)
  have c3_1_3 : w3.cell? ⟨w1.heap.size + 1, 3, none⟩ = some (.slice oF F.pw.length kF) := f3.cell_of (by go_simp)
  have y3_1 : w1.heap.size + 1 < w3.heap.size := World.block_lt_of_cell? w3 _ c3_1_0
  have c3_2_0 : w3.cell? ⟨w2.heap.size, 0, none⟩ = some (.int .i64 ((Z.TimesFormula E F).1.L).dg) := f3.cell_of (by go_simp)
  have c3_2_1 : w3.cell? ⟨w2.heap.size, 1, none⟩ = some (.int .i64 ((Z.TimesFormula E F).1.L).tn) := f3.cell_of (by go_simp)
  have c3_2_2 : w3.cell? ⟨w2.heap.size, 2, none⟩ = some (.string ((Z.TimesFormula E F).1.L).nm) := f3.cell_of (by go_simp)
  have c3_2_3 : w3.cell? ⟨w2.heap.size, 3, none⟩ = some (.slice oXL ((Z.TimesFormula E F).1.L).pw.length kXL) := f3.cell_of (by go_simp)
  have c3_2_4 : w3.cell? ⟨w2.heap.size, 4, none⟩ = some (.int .i64 ((Z.TimesFormula E F).1.R).dg) := f3.cell_of (by go_simp)
  have c3_2_5 : w3.cell? ⟨w2.heap.size, 5, none⟩ = some (.int .i64 ((Z.TimesFormula E F).1.R).tn) := f3.cell_of (by go_simp)
  have c3_2_6 : w3.cell? ⟨w2.heap.size, 6, none⟩ = some (.string ((Z.TimesFormula E F).1.R).nm) := f3.cell_of (by go_simp)
  have c3_2_7 : w3.cell? ⟨w2.heap.size, 7, none⟩ = some (.slice oXR ((Z.TimesFormula E F).1.R).pw.length kXR) := f3.cell_of (by go_simp)
  have y3_2 : w2.heap.size < w3.heap.size := World.block_lt_of_cell? w3 _ c3_2_0
  have IEL_3 := K.ints.ext (show K.ints _ 0 w1.heap.size (.slice oEL E.L.pw.length kEL) E.L.pw from by with_reducible repeat' (first | exact IEL_2 | refine K.ints.alloc ?_ _ | refine K.ints.drew ?_ | refine K.ints.set ?_ _ ?_ _ | (dsimp only; omega) | omega | (simp; done) | (simp; omega))) f3
  have IER_3 := K.ints.ext (show K.ints _ 0 w1.heap.size (.slice oER E.R.pw.length kER) E.R.pw from by with_reducible repeat' (first | exact IER_2 | refine K.ints.alloc ?_ _ | refine K.ints.drew ?_ | refine K.ints.set ?_ _ ?_ _ | (dsimp only; omega) | omega | (simp; done) | (simp; omega))) f3
  have IF_3 := K.ints.ext (show K.ints _ 0 w1.heap.size (.slice oF F.pw.length kF) F.pw from by with_reducible repeat' (first | exact IF_2 | refine K.ints.alloc ?_ _ | refine K.ints.drew ?_ | refine K.ints.set ?_ _ ?_ _ | (dsimp only; omega) | omega | (simp; done) | (simp; omega))) f3
  have IXL_3 := K.ints.ext (show K.ints _ 0 w2.heap.size (.slice oXL ((Z.TimesFormula E F).1.L).pw.length kXL) ((Z.TimesFormula E F).1.L).pw from by with_reducible repeat' (first | exact IXL_2 | refine K.ints.alloc ?_ _ | refine K.ints.drew ?_ | refine K.ints.set ?_ _ ?_ _ | (dsimp only; omega) | omega | (simp; done) | (simp; omega))) f3
  have IXR_3 := K.ints.ext (show K.ints _ 0 w2.heap.size (.slice oXR ((Z.TimesFormula E F).1.R).pw.length kXR) ((Z.TimesFormula E F).1.R).pw from by with_reducible repeat' (first | exact IXR_2 | refine K.ints.alloc ?_ _ | refine K.ints.drew ?_ | refine K.ints.set ?_ _ ?_ _ | (dsimp only; omega) | omega | (simp; done) | (simp; omega))) f3
  clear c2_0_0 c2_0_1 c2_0_2 c2_0_3 c2_0_4 c2_0_5 c2_0_6 c2_0_7 y2_0 c2_1_0 c2_1_1 c2_1_2 c2_1_3 y2_1 IEL_2 IER_2 IF_2 IXL_2 IXR_2 F2 f3 u3_0_1 u3_1_1
  go_wp2_with fail
  refine K.call (by with_reducible rfl) (by with_reducible rfl) (DrawSwapSides_any _ hn (K.Ext.size (by repeat' (first | with_reducible exact F3 | with_reducible refine K.Ext.setCell ?_ ?_ _ | with_reducible refine K.Ext.alloc ?_ _ | with_reducible refine K.Ext.drew ?_ | (dsimp only; omega) | omega | (simp; omega)))) (h.ext (by repeat' (first | with_reducible exact F3 | with_reducible refine K.Ext.setCell ?_ ?_ _ | with_reducible refine K.Ext.alloc ?_ _ | with_reducible refine K.Ext.drew ?_ | (dsimp only; omega) | omega | (simp; omega))))) ?_
  rintro e w4 ⟨⟨A, pA, qA, rfl, ⟨b1, b2⟩, ⟨b3, b4⟩, hA1, hA2⟩, f4⟩
  obtain ⟨oAL, kAL, rfl, _⟩ := id (hA1)
  have IAL_4 : K.ints w4 0 w4.heap.size (.slice oAL A.L.pw.length kAL) A.L.pw := (hA1).mono (Nat.zero_le _) (by omega)
  obtain ⟨oAR, kAR, rfl, _⟩ := id (hA2)
  have IAR_4 : K.ints w4 0 w4.heap.size (.slice oAR A.R.pw.length kAR) A.R.pw := (hA2).mono (Nat.zero_le _) (by omega)
  have u4_0_1 : w1.heap.size < w3.heap.size + 1 := (by omega)
  have u4_2_1 : w2.heap.size < w3.heap.size + 1 := (by omega)
  have F4 : K.Ext w w4 := K.Ext.trans (by repeat' (first | with_reducible exact F3 | with_reducible refine K.Ext.setCell ?_ ?_ _ | with_reducible refine K.Ext.alloc ?_ _ | with_reducible refine K.Ext.drew ?_ | (dsimp only; omega) | omega | (simp; omega))) f4
  have c4_0_0 : w4.cell? ⟨w1.heap.size, 0, none⟩ = some (.int .i64 E.L.dg) := f4.cell_of (by go_simp)
  have c4_0_1 : w4.cell? ⟨w1.heap.size, 1, none⟩ = some (.int .i64 E.L.tn) := f4.cell_of (by go_simp)
  have c4_0_2 : w4.cell? ⟨w1.heap.size, 2, none⟩ = some (.string E.L.nm) := f4.cell_of (by go_simp)
  have c4_0_3 : w4.cell? ⟨w1.heap.size, 3, none⟩ = some (.slice oEL E.L.pw.length kEL) := f4.cell_of (by go_simp)
  have c4_0_4 : w4.cell? ⟨w1.heap.size, 4, none⟩ = some (.int .i64 E.R.dg) := f4.cell_of (by go_simp)
  have c4_0_5 : w4.cell? ⟨w1.heap.size, 5, none⟩ = some (.int .i64 E.R.tn) := f4.cell_of (by go_simp)
  have c4_0_6 : w4.cell? ⟨w1.heap.size, 6, none⟩ = some (.string E.R.nm) := f4.cell_of (by go_simp)
  have c4_0_7 : w4.cell? ⟨w1.heap.size, 7, none⟩ = some (.slice oER E.R.pw.length kER) := f4.cell_of (by go_simp)
  have y4_0 : w1.heap.size < w4.heap.size := World.block_lt_of_cell? w4 _ c4_0_0
  have c4_2_0 : w4.cell? ⟨w2.heap.size, 0, none⟩ = some (.int .i64 ((Z.TimesFormula E F).1.L).dg) := f4.cell_of (by go_simp)
  have c4_2_1 : w4.cell? ⟨w2.heap.size, 1, none⟩ = some (.int .i64 ((Z.TimesFormula E F).1.L).tn) := f4.cell_of (by go_simp)
  have c4_2_2 : w4.cell? ⟨w2.heap.size, 2, none⟩ = some (.string ((Z.TimesFormula E F).1.L).nm) := f4.cell_of (by go_simp)
  have c4_2_3 : w4.cell? ⟨w2.heap.size, 3, none⟩ = some (.slice oXL ((Z.TimesFormula E F).1.L).pw.length kXL) := f4.cell_of (by go_simp)
  have c4_2_4 : w4.cell? ⟨w2.heap.size, 4, none⟩ = some (.int .i64 ((Z.TimesFormula E F).1.R).dg) := f4.cell_of (by go_simp)
  have c4_2_5 : w4.cell? ⟨w2.heap.size, 5, none⟩ = some (.int .i64 ((Z.TimesFormula E F).1.R).tn) := f4.cell_of (by go_simp)
  have c4_2_6 : w4.cell? ⟨w2.heap.size, 6, none⟩ = some (.string ((Z.TimesFormula E F).1.R).nm) := f4.cell_of (by go_simp)
  have c4_2_7 : w4.cell? ⟨w2.heap.size, 7, none⟩ = some (.slice oXR ((Z.TimesFormula E F).1.R).pw.length kXR) := f4.cell_of (by go_simp)
  have y4_2 : w2.heap.size < w4.heap.size := World.block_lt_of_cell? w4 _ c4_2_0
  have c4_3_0 : w4.cell? ⟨w3.heap.size, 0, none⟩ = some (.int .i64 ((Z.TimesFormula E F).1.L).dg) := f4.cell_of (by go_simp)
  have c4_3_1 : w4.cell? ⟨w3.heap.size, 1, none⟩ = some (.int .i64 ((Z.TimesFormula E F).1.L).tn) := f4.cell_of (by go_simp)
  have c4_3_2 : w4.cell? ⟨w3.heap.size, 2, none⟩ = some (.string ((Z.TimesFormula E F).1.L).nm) := f4.cell_of (by go_simp)
  have c4_3_3 : w4.cell? ⟨w3.heap.size, 3, none⟩ = some (.slice oYL ((Z.TimesFormula E F).1.L).pw.length kYL) := f4.cell_of (by go_simp)
  have c4_3_4 : w4.cell? ⟨w3.heap.size, 4, none⟩ = some (.int .i64 ((Z.TimesFormula E F).1.R).dg) := f4.cell_of (by go_simp)
  have c4_3_5 : w4.cell? ⟨w3.heap.size, 5, none⟩ = some (.int .i64 ((Z.TimesFormula E F).1.R).tn) := f4.cell_of (by go_simp)
  have c4_3_6 : w4.cell? ⟨w3.heap.size, 6, none⟩ = some (.string ((Z.TimesFormula E F).1.R).nm) := f4.cell_of (by go_simp)
  have c4_3_7 : w4.cell? ⟨w3.heap.size, 7, none⟩ = some (.slice oYR ((Z.TimesFormula E F).1.R).pw.length kYR) := f4.cell_of (by go_simp)
  have y4_3 : w3.heap.size < w4.heap.size := World.block_lt_of_cell? w4 _ c4_3_0
  have IEL_4 := K.ints.ext (show K.ints _ 0 w1.heap.size (.slice oEL E.L.pw.length kEL) E.L.pw from by with_reducible repeat' (first | exact IEL_3 | refine K.ints.alloc ?_ _ | refine K.ints.drew ?_ | refine K.ints.set ?_ _ ?_ _ | (dsimp only; omega) | omega | (simp; done) | (simp; omega))) f4
  have IER_4 := K.ints.ext (show K.ints _ 0 w1.heap.size (.slice oER E.R.pw.length kER) E.R.pw from by with_reducible repeat' (first | exact IER_3 | refine K.ints.alloc ?_ _ | refine K.ints.drew ?_ | refine K.ints.set ?_ _ ?_ _ | (dsimp only; omega) | omega | (simp; done) | (simp; omega))) f4
  have IXL_4 := K.ints.ext (show K.ints _ 0 w2.heap.size (.slice oXL ((Z.TimesFormula E F).1.L).pw.length kXL) ((Z.TimesFormula E F).1.L).pw from by with_reducible repeat' (first | exact IXL_3 | refine K.ints.alloc ?_ _ | refine K.ints.drew ?_ | refine K.ints.set ?_ _ ?_ _ | (dsimp only; omega) | omega | (simp; done) | (simp; omega))) f4
  have IXR_4 := K.ints.ext (show K.ints _ 0 w2.heap.size (.slice oXR ((Z.TimesFormula E F).1.R).pw.length kXR) ((Z.TimesFormula E F).1.R).pw from by with_reducible repeat' (first | exact IXR_3 | refine K.ints.alloc ?_ _ | refine K.ints.drew ?_ | refine K.ints.set ?_ _ ?_ _ | (dsimp only; omega) | omega | (simp; done) | (simp; omega))) f4
  have IYL_4 := K.ints.ext (show K.ints _ 0 w3.heap.size (.slice oYL ((Z.TimesFormula E F).1.L).pw.length kYL) ((Z.TimesFormula E F).1.L).pw from by with_reducible repeat' (first | exact IYL_3 | refine K.ints.alloc ?_ _ | refine K.ints.drew ?_ | refine K.ints.set ?_ _ ?_ _ | (dsimp only; omega) | omega | (simp; done) | (simp; omega))) f4
  have IYR_4 := K.ints.ext (show K.ints _ 0 w3.heap.size (.slice oYR ((Z.TimesFormula E F).1.R).pw.length kYR) ((Z.TimesFormula E F).1.R).pw from by with_reducible repeat' (first | exact IYR_3 | refine K.ints.alloc ?_ _ | refine K.ints.drew ?_ | refine K.ints.set ?_ _ ?_ _ | (dsimp only; omega) | omega | (simp; done) | (simp; omega))) f4
  clear c3_0_0 c3_0_1 c3_0_2 c3_0_3 c3_0_4 c3_0_5 c3_0_6 c3_0_7 y3_0 c3_1_0 c3_1_1 c3_1_2 c3_1_3 y3_1 c3_2_0 c3_2_1 c3_2_2 c3_2_3 c3_2_4 c3_2_5 c3_2_6 c3_2_7 y3_2 IEL_3 IER_3 IXL_3 IXR_3 IYL_3 IYR_3 F3 f4 u4_0_1 u4_2_1
  go_wp2_with fail
  refine K.call (by with_reducible rfl) (by with_reducible rfl) (impl_SwapSides A _ (by omega) (by omega) (by omega) (by omega) (show K.ints _ 0 w4.heap.size (.slice oAL A.L.pw.length kAL) A.L.pw from by with_reducible repeat' (first | exact IAL_4 | refine K.ints.alloc ?_ _ | refine K.ints.drew ?_ | refine K.ints.set ?_ _ ?_ _ | (dsimp only; omega) | omega | (simp; done) | (simp; omega))) (show K.ints _ 0 w4.heap.size (.slice oAR A.R.pw.length kAR) A.R.pw from by with_reducible repeat' (first | exact IAR_4 | refine K.ints.alloc ?_ _ | refine K.ints.drew ?_ | refine K.ints.set ?_ _ ?_ _ | (dsimp only; omega) | omega | (simp; done) | (simp; omega)))) ?_
  rintro e w5 ⟨⟨pS, qS, mS, rfl, uS, vS, hS, jS⟩, f5⟩
  obtain ⟨oSL, kSL, rfl, _⟩ := id (K.own.ints hS)
  have ISL_5 : K.ints w5 0 w5.heap.size (.slice oSL ((Z.SwapSides A).1.L).pw.length kSL) ((Z.SwapSides A).1.L).pw := (K.own.ints hS).mono (Nat.zero_le _) (by omega)
  obtain ⟨oSR, kSR, rfl, _⟩ := id (K.own.ints jS)
  have ISR_5 : K.ints w5 0 w5.heap.size (.slice oSR ((Z.SwapSides A).1.R).pw.length kSR) ((Z.SwapSides A).1.R).pw := (K.own.ints jS).mono (Nat.zero_le _) (by omega)
  have u5_0_1 : w1.heap.size < w4.heap.size + 1 := (by omega)
  have u5_2_1 : w2.heap.size < w4.heap.size + 1 := (by omega)
  have u5_3_1 : w3.heap.size < w4.heap.size + 1 := (by omega)
  have F5 : K.Ext w w5 := K.Ext.trans (by repeat' (first | with_reducible exact F4 | with_reducible refine K.Ext.setCell ?_ ?_ _ | with_reducible refine K.Ext.alloc ?_ _ | with_reducible refine K.Ext.drew ?_ | (dsimp only; omega) | omega | (simp; omega))) f5
  have c5_0_0 : w5.cell? ⟨w1.heap.size, 0, none⟩ = some (.int .i64 E.L.dg) := f5.cell_of (by go_simp)
  have c5_0_1 : w5.cell? ⟨w1.heap.size, 1, none⟩ = some (.int .i64 E.L.tn) := f5.cell_of (by go_simp)
  have c5_0_2 : w5.cell? ⟨w1.heap.size, 2, none⟩ = some (.string E.L.nm) := f5.cell_of (by go_simp)
  have c5_0_3 : w5.cell? ⟨w1.heap.size, 3, none⟩ = some (.slice oEL E.L.pw.length kEL) := f5.cell_of (by go_simp)
  have c5_0_4 : w5.cell? ⟨w1.heap.size, 4, none⟩ = some (.int .i64 E.R.dg) := f5.cell_of (by go_simp)
  have c5_0_5 : w5.cell? ⟨w1.heap.size, 5, none⟩ = some (.int .i64 E.R.tn) := f5.cell_of (by go_simp)
  have c5_0_6 : w5.cell? ⟨w1.heap.size, 6, none⟩ = some (.string E.R.nm) := f5.cell_of (by go_simp)
  have c5_0_7 : w5.cell? ⟨w1.heap.size, 7, none⟩ = some (.slice oER E.R.pw.length kER) := f5.cell_of (by go_simp)
  have y5_0 : w1.heap.size < w5.heap.size := World.block_lt_of_cell? w5 _ c5_0_0
  have c5_2_0 : w5.cell? ⟨w2.heap.size, 0, none⟩ = some (.int .i64 ((Z.TimesFormula E F).1.L).dg) := f5.cell_of (by go_simp)
  have c5_2_1 : w5.cell? ⟨w2.heap.size, 1, none⟩ = some (.int .i64 ((Z.TimesFormula E F).1.L).tn) := f5.cell_of (by go_simp)
  have c5_2_2 : w5.cell? ⟨w2.heap.size, 2, none⟩ = some (.string ((Z.TimesFormula E F).1.L).nm) := f5.cell_of (by go_simp)
  have c5_2_3 : w5.cell? ⟨w2.heap.size, 3, none⟩ = some (.slice oXL ((Z.TimesFormula E F).1.L).pw.length kXL) := f5.cell_of (by go_simp)
  have c5_2_4 : w5.cell? ⟨w2.heap.size, 4, none⟩ = some (.int .i64 ((Z.TimesFormula E F).1.R).dg) := f5.cell_of (by go_simp)
  have c5_2_5 : w5.cell? ⟨w2.heap.size, 5, none⟩ = some (.int .i64 ((Z.TimesFormula E F).1.R).tn) := f5.cell_of (by go_simp)
  have c5_2_6 : w5.cell? ⟨w2.heap.size, 6, none⟩ = some (.string ((Z.TimesFormula E F).1.R).nm) := f5.cell_of (by go_simp)
  have c5_2_7 : w5.cell? ⟨w2.heap.size, 7, none⟩ = some (.slice oXR ((Z.TimesFormula E F).1.R).pw.length kXR) := f5.cell_of (by go_simp)
  have y5_2 : w2.heap.size < w5.heap.size := World.block_lt_of_cell? w5 _ c5_2_0
  have c5_3_0 : w5.cell? ⟨w3.heap.size, 0, none⟩ = some (.int .i64 ((Z.TimesFormula E F).1.L).dg) := f5.cell_of (by go_simp)
  have c5_3_1 : w5.cell? ⟨w3.heap.size, 1, none⟩ = some (.int .i64 ((Z.TimesFormula E F).1.L).tn) := f5.cell_of (by go_simp)
  have c5_3_2 : w5.cell? ⟨w3.heap.size, 2, none⟩ = some (.string ((Z.TimesFormula E F).1.L).nm) := f5.cell_of (by go_simp)
  have c5_3_3 : w5.cell? ⟨w3.heap.size, 3, none⟩ = some (.slice oYL ((Z.TimesFormula E F).1.L).pw.length kYL) := f5.cell_of (by go_simp)
  have c5_3_4 : w5.cell? ⟨w3.heap.size, 4, none⟩ = some (.int .i64 ((Z.TimesFormula E F).1.R).dg) := f5.cell_of (by go_simp)
  have c5_3_5 : w5.cell? ⟨w3.heap.size, 5, none⟩ = some (.int .i64 ((Z.TimesFormula E F).1.R).tn) := f5.cell_of (by go_simp)
  have c5_3_6 : w5.cell? ⟨w3.heap.size, 6, none⟩ = some (.string ((Z.TimesFormula E F).1.R).nm) := f5.cell_of (by go_simp)
  have c5_3_7 : w5.cell? ⟨w3.heap.size, 7, none⟩ = some (.slice oYR ((Z.TimesFormula E F).1.R).pw.length kYR) := f5.cell_of (by go_simp)
  have y5_3 : w3.heap.size < w5.heap.size := World.block_lt_of_cell? w5 _ c5_3_0
  have c5_4_0 : w5.cell? ⟨w4.heap.size, 0, none⟩ = some (.int .i64 A.L.dg) := f5.cell_of (by go_simp)
  have c5_4_1 : w5.cell? ⟨w4.heap.size, 1, none⟩ = some (.int .i64 A.L.tn) := f5.cell_of (by go_simp)
  have c5_4_2 : w5.cell? ⟨w4.heap.size, 2, none⟩ = some (.string A.L.nm) := f5.cell_of (by go_simp)
  have c5_4_3 : w5.cell? ⟨w4.heap.size, 3, none⟩ = some (.slice oAL A.L.pw.length kAL) := f5.cell_of (by go_simp)
  have c5_4_4 : w5.cell? ⟨w4.heap.size, 4, none⟩ = some (.int .i64 A.R.dg) := f5.cell_of (by go_simp)
  have c5_4_5 : w5.cell? ⟨w4.heap.size, 5, none⟩ = some (.int .i64 A.R.tn) := f5.cell_of (by go_simp)
  have c5_4_6 : w5.cell? ⟨w4.heap.size, 6, none⟩ = some (.string A.R.nm) := f5.cell_of (by go_simp)
  have c5_4_7 : w5.cell? ⟨w4.heap.size, 7, none⟩ = some (.slice oAR A.R.pw.length kAR) := f5.cell_of (by go_simp)
  have y5_4 : w4.heap.size < w5.heap.size := World.block_lt_of_cell? w5 _ c5_4_0
  have IEL_5 := K.ints.ext (show K.ints _ 0 w1.heap.size (.slice oEL E.L.pw.length kEL) E.L.pw from by with_reducible repeat' (first | exact IEL_4 | refine K.ints.alloc ?_ _ | refine K.ints.drew ?_ | refine K.ints.set ?_ _ ?_ _ | (dsimp only; omega) | omega | (simp; done) | (simp; omega))) f5
  have IER_5 := K.ints.ext (show K.ints _ 0 w1.heap.size (.slice oER E.R.pw.length kER) E.R.pw from by with_reducible repeat' (first | exact IER_4 | refine K.ints.alloc ?_ _ | refine K.ints.drew ?_ | refine K.ints.set ?_ _ ?_ _ | (dsimp only; omega) | omega | (simp; done) | (simp; omega))) f5
  have IXL_5 := K.ints.ext (show K.ints _ 0 w2.heap.size (.slice oXL ((Z.TimesFormula E F).1.L).pw.length kXL) ((Z.TimesFormula E F).1.L).pw from by with_reducible repeat' (first | exact IXL_4 | refine K.ints.alloc ?_ _ | refine K.ints.drew ?_ | refine K.ints.set ?_ _ ?_ _ | (dsimp only; omega) | omega | (simp; done) | (simp; omega))) f5
  have IXR_5 := K.ints.ext (show K.ints _ 0 w2.heap.size (.slice oXR ((Z.TimesFormula E F).1.R).pw.length kXR) ((Z.TimesFormula E F).1.R).pw from by with_reducible repeat' (first | exact IXR_4 | refine K.ints.alloc ?_ _ | refine K.ints.drew ?_ | refine K.ints.set ?_ _ ?_ _ | (dsimp only; omega) | omega | (simp; done) | (simp; omega))) f5
  have IYL_5 := K.ints.ext (show K.ints _ 0 w3.heap.size (.slice oYL ((Z.TimesFormula E F).1.L).pw.length kYL) ((Z.TimesFormula E F).1.L).pw from by with_reducible repeat' (first | exact IYL_4 | refine K.ints.alloc ?_ _ | refine K.ints.drew ?_ | refine K.ints.set ?_ _ ?_ _ | (dsimp only; omega) | omega | (simp; done) | (simp; omega))) f5
  have IYR_5 := K.ints.ext (show K.ints _ 0 w3.heap.size (.slice oYR ((Z.TimesFormula E F).1.R).pw.length kYR) ((Z.TimesFormula E F).1.R).pw from by with_reducible repeat' (first | exact IYR_4 | refine K.ints.alloc ?_ _ | refine K.ints.drew ?_ | refine K.ints.set ?_ _ ?_ _ | (dsimp only; omega) | omega | (simp; done) | (simp; omega))) f5
  have IAL_5 := K.ints.ext (show K.ints _ 0 w4.heap.size (.slice oAL A.L.pw.length kAL) A.L.pw from by with_reducible repeat' (first | exact IAL_4 | refine K.ints.alloc ?_ _ | refine K.ints.drew ?_ | refine K.ints.set ?_ _ ?_ _ | (dsimp only; omega) | omega | (simp; done) | (simp; omega))) f5
  have IAR_5 := K.ints.ext (show K.ints _ 0 w4.heap.size (.slice oAR A.R.pw.length kAR) A.R.pw from by with_reducible repeat' (first | exact IAR_4 | refine K.ints.alloc ?_ _ | refine K.ints.drew ?_ | refine K.ints.set ?_ _ ?_ _ | (dsimp only; omega) | omega | (simp; done) | (simp; omega))) f5
  clear c4_0_0 c4_0_1 c4_0_2 c4_0_3 c4_0_4 c4_0_5 c4_0_6 c4_0_7 y4_0 c4_2_0 c4_2_1 c4_2_2 c4_2_3 c4_2_4 c4_2_5 c4_2_6 c4_2_7 y4_2 c4_3_0 c4_3_1 c4_3_2 c4_3_3 c4_3_4 c4_3_5 c4_3_6 c4_3_7 y4_3 IEL_4 IER_4 IXL_4 IXR_4 IYL_4 IYR_4 IAL_4 IAR_4 F4 f5 u5_0_1 u5_2_1 u5_3_1
  go_wp2_with fail
  refine K.call (by with_reducible rfl) (by with_reducible rfl) (spec_SwapSides A _ (by omega) (by omega) (by omega) (by omega) (show K.ints _ 0 w4.heap.size (.slice oAL A.L.pw.length kAL) A.L.pw from by with_reducible repeat' (first | exact IAL_5 | refine K.ints.alloc ?_ _ | refine K.ints.drew ?_ | refine K.ints.set ?_ _ ?_ _ | (dsimp only; omega) | omega | (simp; done) | (simp; omega))) (show K.ints _ 0 w4.heap.size (.slice oAR A.R.pw.length kAR) A.R.pw from by with_reducible repeat' (first | exact IAR_5 | refine K.ints.alloc ?_ _ | refine K.ints.drew ?_ | refine K.ints.set ?_ _ ?_ _ | (dsimp only; omega) | omega | (simp; done) | (simp; omega)))) ?_
  rintro e w6 ⟨⟨pV, qV, rfl, hV, jV⟩, f6⟩
  obtain ⟨oVL, kVL, rfl, _⟩ := id (hV)
  have IVL_6 : K.ints w6 0 w6.heap.size (.slice oVL ((Z.SwapSides A).1.L).pw.length kVL) ((Z.SwapSides A).1.L).pw := (hV).mono (Nat.zero_le _) (by omega)
  obtain ⟨oVR, kVR, rfl, _⟩ := id (jV)
  have IVR_6 : K.ints w6 0 w6.heap.size (.slice oVR ((Z.SwapSides A).1.R).pw.length kVR) ((Z.SwapSides A).1.R).pw := (jV).mono (Nat.zero_le _) (by omega)
  have u6_0_1 : w1.heap.size < w5.heap.size + 1 := (by omega)
  have u6_2_1 : w2.heap.size < w5.heap.size + 1 := (by omega)
  have u6_3_1 : w3.heap.size < w5.heap.size + 1 := (by omega)
  have u6_4_1 : w4.heap.size < w5.heap.size + 1 := (by omega)
  have F6 : K.Ext w w6 := K.Ext.trans (by repeat' (first | with_reducible exact F5 | with_reducible refine K.Ext.setCell ?_ ?_ _ | with_reducible refine K.Ext.alloc ?_ _ | with_reducible refine K.Ext.drew ?_ | (dsimp only; omega) | omega | (simp; omega))) f6
  have c6_0_0 : w6.cell? ⟨w1.heap.size, 0, none⟩ = some (.int .i64 E.L.dg) := f6.cell_of (by go_simp)
  have c6_0_1 : w6.cell? ⟨w1.heap.size, 1, none⟩ = some (.int .i64 E.L.tn) := f6.cell_of (by go_simp)
  have c6_0_2 : w6.cell? ⟨w1.heap.size, 2, none⟩ = some (.string E.L.nm) := f6.cell_of (by go_simp)
  have c6_0_3 : w6.cell? ⟨w1.heap.size, 3, none⟩ = some (.slice oEL E.L.pw.length kEL) := f6.cell_of (by go_simp)
  have c6_0_4 : w6.cell? ⟨w1.heap.size, 4, none⟩ = some (.int .i64 E.R.dg) := f6.cell_of (by go_simp)
  have c6_0_5 : w6.cell? ⟨w1.heap.size, 5, none⟩ = some (.int .i64 E.R.tn) := f6.cell_of (by go_simp)
  have c6_0_6 : w6.cell? ⟨w1.heap.size, 6, none⟩ = some (.string E.R.nm) := f6.cell_of (by go_simp)
  have c6_0_7 : w6.cell? ⟨w1.heap.size, 7, none⟩ = some (.slice oER E.R.pw.length kER) := f6.cell_of (by go_simp)
  have y6_0 : w1.heap.size < w6.heap.size := World.block_lt_of_cell? w6 _ c6_0_0
  have c6_2_0 : w6.cell? ⟨w2.heap.size, 0, none⟩ = some (.int .i64 ((Z.TimesFormula E F).1.L).dg) := f6.cell_of (by go_simp)
  have c6_2_1 : w6.cell? ⟨w2.heap.size, 1, none⟩ = some (.int .i64 ((Z.TimesFormula E F).1.L).tn) := f6.cell_of (by go_simp)
  have c6_2_2 : w6.cell? ⟨w2.heap.size, 2, none⟩ = some (.string ((Z.TimesFormula E F).1.L).nm) := f6.cell_of (by go_simp)
  have c6_2_3 : w6.cell? ⟨w2.heap.size, 3, none⟩ = some (.slice oXL ((Z.TimesFormula E F).1.L).pw.length kXL) := f6.cell_of (by go_simp)
  have c6_2_4 : w6.cell? ⟨w2.heap.size, 4, none⟩ = some (.int .i64 ((Z.TimesFormula E F).1.R).dg) := f6.cell_of (by go_simp)
  have c6_2_5 : w6.cell? ⟨w2.heap.size, 5, none⟩ = some (.int .i64 ((Z.TimesFormula E F).1.R).tn) := f6.cell_of (by go_simp)
  have c6_2_6 : w6.cell? ⟨w2.heap.size, 6, none⟩ = some (.string ((Z.TimesFormula E F).1.R).nm) := f6.cell_of (by go_simp)
  have c6_2_7 : w6.cell? ⟨w2.heap.size, 7, none⟩ = some (.slice oXR ((Z.TimesFormula E F).1.R).pw.length kXR) := f6.cell_of (by go_simp)
  have y6_2 : w2.heap.size < w6.heap.size := World.block_lt_of_cell? w6 _ c6_2_0
  have c6_3_0 : w6.cell? ⟨w3.heap.size, 0, none⟩ = some (.int .i64 ((Z.TimesFormula E F).1.L).dg) := f6.cell_of (by go_simp)
  have c6_3_1 : w6.cell? ⟨w3.heap.size, 1, none⟩ = some (.int .i64 ((Z.TimesFormula E F).1.L).tn) := f6.cell_of (by go_simp)
  have c6_3_2 : w6.cell? ⟨w3.heap.size, 2, none⟩ = some (.string ((Z.TimesFormula E F).1.L).nm) := f6.cell_of (by go_simp)
  have c6_3_3 : w6.cell? ⟨w3.heap.size, 3, none⟩ = some (.slice oYL ((Z.TimesFormula E F).1.L).pw.length kYL) := f6.cell_of (by go_simp)
  have c6_3_4 : w6.cell? ⟨w3.heap.size, 4, none⟩ = some (.int .i64 ((Z.TimesFormula E F).1.R).dg) := f6.cell_of (by go_simp)
  have c6_3_5 : w6.cell? ⟨w3.heap.size, 5, none⟩ = some (.int .i64 ((Z.TimesFormula E F).1.R).tn) := f6.cell_of (by go_simp)
  have c6_3_6 : w6.cell? ⟨w3.heap.size, 6, none⟩ = some (.string ((Z.TimesFormula E F).1.R).nm) := f6.cell_of (by go_simp)
  have c6_3_7 : w6.cell? ⟨w3.heap.size, 7, none⟩ = some (.slice oYR ((Z.TimesFormula E F).1.R).pw.length kYR) := f6.cell_of (by go_simp)
  have y6_3 : w3.heap.size < w6.heap.size := World.block_lt_of_cell? w6 _ c6_3_0
  have c6_4_0 : w6.cell? ⟨w4.heap.size, 0, none⟩ = some (.int .i64 A.L.dg) := f6.cell_of (by go_simp)
  have c6_4_1 : w6.cell? ⟨w4.heap.size, 1, none⟩ = some (.int .i64 A.L.tn) := f6.cell_of (by go_simp)
  have c6_4_2 : w6.cell? ⟨w4.heap.size, 2, none⟩ = some (.string A.L.nm) := f6.cell_of (by go_simp)
  have c6_4_3 : w6.cell? ⟨w4.heap.size, 3, none⟩ = some (.slice oAL A.L.pw.length kAL) := f6.cell_of (by go_simp)
  have c6_4_4 : w6.cell? ⟨w4.heap.size, 4, none⟩ = some (.int .i64 A.R.dg) := f6.cell_of (by go_simp)
  have c6_4_5 : w6.cell? ⟨w4.heap.size, 5, none⟩ = some (.int .i64 A.R.tn) := f6.cell_of (by go_simp)
  have c6_4_6 : w6.cell? ⟨w4.heap.size, 6, none⟩ = some (.string A.R.nm) := f6.cell_of (by go_simp)
  have c6_4_7 : w6.cell? ⟨w4.heap.size, 7, none⟩ = some (.slice oAR A.R.pw.length kAR) := f6.cell_of (by go_simp)
  have y6_4 : w4.heap.size < w6.heap.size := World.block_lt_of_cell? w6 _ c6_4_0
  have c6_5_0 : w6.cell? ⟨w5.heap.size, 0, none⟩ = some (.int .i64 ((Z.SwapSides A).1.L).dg) := f6.cell_of (by go_simp)
  have c6_5_1 : w6.cell? ⟨w5.heap.size, 1, none⟩ = some (.int .i64 ((Z.SwapSides A).1.L).tn) := f6.cell_of (by go_simp)
  have c6_5_2 : w6.cell? ⟨w5.heap.size, 2, none⟩ = some (.string ((Z.SwapSides A).1.L).nm) := f6.cell_of (by go_simp)
  have c6_5_3 : w6.cell? ⟨w5.heap.size, 3, none⟩ = some (.slice oSL ((Z.SwapSides A).1.L).pw.length kSL) := f6.cell_of (by go_simp)
  have c6_5_4 : w6.cell? ⟨w5.heap.size, 4, none⟩ = some (.int .i64 ((Z.SwapSides A).1.R).dg) := f6.cell_of (by go_simp)
  have c6_5_5 : w6.cell? ⟨w5.heap.size, 5, none⟩ = some (.int .i64 ((Z.SwapSides A).1.R).tn) := f6.cell_of (by go_simp)
  have c6_5_6 : w6.cell? ⟨w5.heap.size, 6, none⟩ = some (.string ((Z.SwapSides A).1.R).nm) := f6.cell_of (by go_simp)
  have c6_5_7 : w6.cell? ⟨w5.heap.size, 7, none⟩ = some (.slice oSR ((Z.SwapSides A).1.R).pw.length kSR) := f6.cell_of (by go_simp)
  have y6_5 : w5.heap.size < w6.heap.size := World.block_lt_of_cell? w6 _ c6_5_0
  have IEL_6 := K.ints.ext (show K.ints _ 0 w1.heap.size (.slice oEL E.L.pw.length kEL) E.L.pw from by with_reducible repeat' (first | exact IEL_5 | refine K.ints.alloc ?_ _ | refine K.ints.drew ?_ | refine K.ints.set ?_ _ ?_ _ | (dsimp only; omega) | omega | (simp; done) | (simp; omega))) f6
  have IER_6 := K.ints.ext (show K.ints _ 0 w1.heap.size (.slice oER E.R.pw.length kER) E.R.pw from by with_reducible repeat' (first | exact IER_5 | refine K.ints.alloc ?_ _ | refine K.ints.drew ?_ | refine K.ints.set ?_ _ ?_ _ | (dsimp only; omega) | omega | (simp; done) | (simp; omega))) f6
  have IXL_6 := K.ints.ext (show K.ints _ 0 w2.heap.size (.slice oXL ((Z.TimesFormula E F).1.L).pw.length kXL) ((Z.TimesFormula E F).1.L).pw from by with_reducible repeat' (first | exact IXL_5 | refine K.ints.alloc ?_ _ | refine K.ints.drew ?_ | refine K.ints.set ?_ _ ?_ _ | (dsimp only; omega) | omega | (simp; done) | (simp; omega))) f6
  have IXR_6 := K.ints.ext (show K.ints _ 0 w2.heap.size (.slice oXR ((Z.TimesFormula E F).1.R).pw.length kXR) ((Z.TimesFormula E F).1.R).pw from by with_reducible repeat' (first | exact IXR_5 | refine K.ints.alloc ?_ _ | refine K.ints.drew ?_ | refine K.ints.set ?_ _ ?_ _ | (dsimp only; omega) | omega | (simp; done) | (simp; omega))) f6
  have IYL_6 := K.ints.ext (show K.ints _ 0 w3.heap.size (.slice oYL ((Z.TimesFormula E F).1.L).pw.length kYL) ((Z.TimesFormula E F).1.L).pw from by with_reducible repeat' (first | exact IYL_5 | refine K.ints.alloc ?_ _ | refine K.ints.drew ?_ | refine K.ints.set ?_ _ ?_ _ | (dsimp only; omega) | omega | (simp; done) | (simp; omega))) f6
  have IYR_6 := K.ints.ext (show K.ints _ 0 w3.heap.size (.slice oYR ((Z.TimesFormula E F).1.R).pw.length kYR) ((Z.TimesFormula E F).1.R).pw from by with_reducible repeat' (first | exact IYR_5 | refine K.ints.alloc ?_ _ | refine K.ints.drew ?_ | refine K.ints.set ?_ _ ?_ _ | (dsimp only; omega) | omega | (simp; done) | (simp; omega))) f6
  have IAL_6 := K.ints.ext (show K.ints _ 0 w4.heap.size (.slice oAL A.L.pw.length kAL) A.L.pw from by with_reducible repeat' (first | exact IAL_5 | refine K.ints.alloc ?_ _ | refine K.ints.drew ?_ | refine K.ints.set ?_ _ ?_ _ | (dsimp only; omega) | omega | (simp; done) | (simp; omega))) f6
  have IAR_6 := K.ints.ext (show K.ints _ 0 w4.heap.size (.slice oAR A.R.pw.length kAR) A.R.pw from by with_reducible repeat' (first | exact IAR_5 | refine K.ints.alloc ?_ _ | refine K.ints.drew ?_ | refine K.ints.set ?_ _ ?_ _ | (dsimp only; omega) | omega | (simp; done) | (simp; omega))) f6
  have ISL_6 := K.ints.ext (show K.ints _ 0 w5.heap.size (.slice oSL ((Z.SwapSides A).1.L).pw.length kSL) ((Z.SwapSides A).1.L).pw from by with_reducible repeat' (first | exact ISL_5 | refine K.ints.alloc ?_ _ | refine K.ints.drew ?_ | refine K.ints.set ?_ _ ?_ _ | (dsimp only; omega) | omega | (simp; done) | (simp; omega))) f6
  have ISR_6 := K.ints.ext (show K.ints _ 0 w5.heap.size (.slice oSR ((Z.SwapSides A).1.R).pw.length kSR) ((Z.SwapSides A).1.R).pw from by with_reducible repeat' (first | exact ISR_5 | refine K.ints.alloc ?_ _ | refine K.ints.drew ?_ | refine K.ints.set ?_ _ ?_ _ | (dsimp only; omega) | omega | (simp; done) | (simp; omega))) f6
  clear c5_0_0 c5_0_1 c5_0_2 c5_0_3 c5_0_4 c5_0_5 c5_0_6 c5_0_7 y5_0 c5_2_0 c5_2_1 c5_2_2 c5_2_3 c5_2_4 c5_2_5 c5_2_6 c5_2_7 y5_2 c5_3_0 c5_3_1 c5_3_2 c5_3_3 c5_3_4 c5_3_5 c5_3_6 c5_3_7 y5_3 c5_4_0 c5_4_1 c5_4_2 c5_4_3 c5_4_4 c5_4_5 c5_4_6 c5_4_7 y5_4 IEL_5 IER_5 IXL_5 IXR_5 IYL_5 IYR_5 IAL_5 IAR_5 ISL_5 ISR_5 F5 f6 u6_0_1 u6_2_1 u6_3_1 u6_4_1
  go_wp2_with fail
  refine K.call (by with_reducible rfl) (by with_reducible rfl) (DrawRaiseSides_any _ hn (K.Ext.size (by repeat' (first | with_reducible exact F6 | with_reducible refine K.Ext.setCell ?_ ?_ _ | with_reducible refine K.Ext.alloc ?_ _ | with_reducible refine K.Ext.drew ?_ | (dsimp only; omega) | omega | (simp; omega)))) (h.ext (by repeat' (first | with_reducible exact F6 | with_reducible refine K.Ext.setCell ?_ ?_ _ | with_reducible refine K.Ext.alloc ?_ _ | with_reducible refine K.Ext.drew ?_ | (dsimp only; omega) | omega | (simp; omega))))) ?_
  rintro e w7 ⟨⟨B, pB, qB, c, rfl, ⟨e1, e2⟩, ⟨e3, e4⟩, hB1, hB2, e5, e6⟩, f7⟩
  obtain ⟨oBL, kBL, rfl, _⟩ := id (hB1)
  have IBL_7 : K.ints w7 0 w7.heap.size (.slice oBL B.L.pw.length kBL) B.L.pw := (hB1).mono (Nat.zero_le _) (by omega)
  obtain ⟨oBR, kBR, rfl, _⟩ := id (hB2)
  have IBR_7 : K.ints w7 0 w7.heap.size (.slice oBR B.R.pw.length kBR) B.R.pw := (hB2).mono (Nat.zero_le _) (by omega)
  have u7_0_1 : w1.heap.size < w6.heap.size + 1 := (by omega)
  have u7_2_1 : w2.heap.size < w6.heap.size + 1 := (by omega)
  have u7_3_1 : w3.heap.size < w6.heap.size + 1 := (by omega)
  have u7_4_1 : w4.heap.size < w6.heap.size + 1 := (by omega)
  have u7_5_1 : w5.heap.size < w6.heap.size + 1 := (by omega)
  have F7 : K.Ext w w7 := K.Ext.trans (by repeat' (first | with_reducible exact F6 | with_reducible refine K.Ext.setCell ?_ ?_ _ | with_reducible refine K.Ext.alloc ?_ _ | with_reducible refine K.Ext.drew ?_ | (dsimp only; omega) | omega | (simp; omega))) f7
  have c7_0_0 : w7.cell? ⟨w1.heap.size, 0, none⟩ = some (.int .i64 E.L.dg) := f7.cell_of (by go_simp)
  have c7_0_1 : w7.cell? ⟨w1.heap.size, 1, none⟩ = some (.int .i64 E.L.tn) := f7.cell_of (by go_simp)
  have c7_0_2 : w7.cell? ⟨w1.heap.size, 2, none⟩ = some (.string E.L.nm) := f7.cell_of (by go_simp)
  have c7_0_3 : w7.cell? ⟨w1.heap.size, 3, none⟩ = some (.slice oEL E.L.pw.length kEL) := f7.cell_of (by go_simp)
  have c7_0_4 : w7.cell? ⟨w1.heap.size, 4, none⟩ = some (.int .i64 E.R.dg) := f7.cell_of (by go_simp)
  have c7_0_5 : w7.cell? ⟨w1.heap.size, 5, none⟩ = some (.int .i64 E.R.tn) := f7.cell_of (by go_simp)
  have c7_0_6 : w7.cell? ⟨w1.heap.size, 6, none⟩ = some (.string E.R.nm) := f7.cell_of (by go_simp)
  have c7_0_7 : w7.cell? ⟨w1.heap.size, 7, none⟩ = some (.slice oER E.R.pw.length kER) := f7.cell_of (by go_simp)
  have y7_0 : w1.heap.size < w7.heap.size := World.block_lt_of_cell? w7 _ c7_0_0
  have c7_2_0 : w7.cell? ⟨w2.heap.size, 0, none⟩ = some (.int .i64 ((Z.TimesFormula E F).1.L).dg) := f7.cell_of (by go_simp)
  have c7_2_1 : w7.cell? ⟨w2.heap.size, 1, none⟩ = some (.int .i64 ((Z.TimesFormula E F).1.L).tn) := f7.cell_of (by go_simp)
  have c7_2_2 : w7.cell? ⟨w2.heap.size, 2, none⟩ = some (.string ((Z.TimesFormula E F).1.L).nm) := f7.cell_of (by go_simp)
  have c7_2_3 : w7.cell? ⟨w2.heap.size, 3, none⟩ = some (.slice oXL ((Z.TimesFormula E F).1.L).pw.length kXL) := f7.cell_of (by go_simp)
  have c7_2_4 : w7.cell? ⟨w2.heap.size, 4, none⟩ = some (.int .i64 ((Z.TimesFormula E F).1.R).dg) := f7.cell_of (by go_simp)
  have c7_2_5 : w7.cell? ⟨w2.heap.size, 5, none⟩ = some (.int .i64 ((Z.TimesFormula E F).1.R).tn) := f7.cell_of (by go_simp)
  have c7_2_6 : w7.cell? ⟨w2.heap.size, 6, none⟩ = some (.string ((Z.TimesFormula E F).1.R).nm) := f7.cell_of (by go_simp)
  have c7_2_7 : w7.cell? ⟨w2.heap.size, 7, none⟩ = some (.slice oXR ((Z.TimesFormula E F).1.R).pw.length kXR) := f7.cell_of (by go_simp)
  have y7_2 : w2.heap.size < w7.heap.size := World.block_lt_of_cell? w7 _ c7_2_0
  have c7_3_0 : w7.cell? ⟨w3.heap.size, 0, none⟩ = some (.int .i64 ((Z.TimesFormula E F).1.L).dg) := f7.cell_of (by go_simp)
  have c7_3_1 : w7.cell? ⟨w3.heap.size, 1, none⟩ = some (.int .i64 ((Z.TimesFormula E F).1.L).tn) := f7.cell_of (by go_simp)
  have c7_3_2 : w7.cell? ⟨w3.heap.size, 2, none⟩ = some (.string ((Z.TimesFormula E F).1.L).nm) := f7.cell_of (by go_simp)
  have c7_3_3 : w7.cell? ⟨w3.heap.size, 3, none⟩ = some (.slice oYL ((Z.TimesFormula E F).1.L).pw.length kYL) := f7.cell_of (by go_simp)
  have c7_3_4 : w7.cell? ⟨w3.heap.size, 4, none⟩ = some (.int .i64 ((Z.TimesFormula E F).1.R).dg) := f7.cell_of (by go_simp)
  have c7_3_5 : w7.cell? ⟨w3.heap.size, 5, none⟩ = some (.int .i64 ((Z.TimesFormula E F).1.R).tn) := f7.cell_of (by go_simp)
  have c7_3_6 : w7.cell? ⟨w3.heap.size, 6, none⟩ = some (.string ((Z.TimesFormula E F).1.R).nm) := f7.cell_of (by go_simp)
  have c7_3_7 : w7.cell? ⟨w3.heap.size, 7, none⟩ = some (.slice oYR ((Z.TimesFormula E F).1.R).pw.length kYR) := f7.cell_of (by go_simp)
  have y7_3 : w3.heap.size < w7.heap.size := World.block_lt_of_cell? w7 _ c7_3_0
  have c7_4_0 : w7.cell? ⟨w4.heap.size, 0, none⟩ = some (.int .i64 A.L.dg) := f7.cell_of (by go_simp)
  have c7_4_1 : w7.cell? ⟨w4.heap.size, 1, none⟩ = some (.int .i64 A.L.tn) := f7.cell_of (by go_simp)
  have c7_4_2 : w7.cell? ⟨w4.heap.size, 2, none⟩ = some (.string A.L.nm) := f7.cell_of (by go_simp)
  have c7_4_3 : w7.cell? ⟨w4.heap.size, 3, none⟩ = some (.slice oAL A.L.pw.length kAL) := f7.cell_of (by go_simp)
  have c7_4_4 : w7.cell? ⟨w4.heap.size, 4, none⟩ = some (.int .i64 A.R.dg) := f7.cell_of (by go_simp)
  have c7_4_5 : w7.cell? ⟨w4.heap.size, 5, none⟩ = some (.int .i64 A.R.tn) := f7.cell_of (by go_simp)
  have c7_4_6 : w7.cell? ⟨w4.heap.size, 6, none⟩ = some (.string A.R.nm) := f7.cell_of (by go_simp)
  have c7_4_7 : w7.cell? ⟨w4.heap.size, 7, none⟩ = some (.slice oAR A.R.pw.length kAR) := f7.cell_of (by go_simp)
  have y7_4 : w4.heap.size < w7.heap.size := World.block_lt_of_cell? w7 _ c7_4_0
  have c7_5_0 : w7.cell? ⟨w5.heap.size, 0, none⟩ = some (.int .i64 ((Z.SwapSides A).1.L).dg) := f7.cell_of (by go_simp)
  have c7_5_1 : w7.cell? ⟨w5.heap.size, 1, none⟩ = some (.int .i64 ((Z.SwapSides A).1.L).tn) := f7.cell_of (by go_simp)
  have c7_5_2 : w7.cell? ⟨w5.heap.size, 2, none⟩ = some (.string ((Z.SwapSides A).1.L).nm) := f7.cell_of (by go_simp)
  have c7_5_3 : w7.cell? ⟨w5.heap.size, 3, none⟩ = some (.slice oSL ((Z.SwapSides A).1.L).pw.length kSL) := f7.cell_of (by go_simp)
  have c7_5_4 : w7.cell? ⟨w5.heap.size, 4, none⟩ = some (.int .i64 ((Z.SwapSides A).1.R).dg) := f7.cell_of (by go_simp)
  have c7_5_5 : w7.cell? ⟨w5.heap.size, 5, none⟩ = some (.int .i64 ((Z.SwapSides A).1.R).tn) := f7.cell_of (by go_simp)
  have c7_5_6 : w7.cell? ⟨w5.heap.size, 6, none⟩ = some (.string ((Z.SwapSides A).1.R).nm) := f7.cell_of (by go_simp)
  have c7_5_7 : w7.cell? ⟨w5.heap.size, 7, none⟩ = some (.slice oSR ((Z.SwapSides A).1.R).pw.length kSR) := f7.cell_of (by go_simp)
  have y7_5 : w5.heap.size < w7.heap.size := World.block_lt_of_cell? w7 _ c7_5_0
  have c7_6_0 : w7.cell? ⟨w6.heap.size, 0, none⟩ = some (.int .i64 ((Z.SwapSides A).1.L).dg) := f7.cell_of (by go_simp)
  have c7_6_1 : w7.cell? ⟨w6.heap.size, 1, none⟩ = some (.int .i64 ((Z.SwapSides A).1.L).tn) := f7.cell_of (by go_simp)
  have c7_6_2 : w7.cell? ⟨w6.heap.size, 2, none⟩ = some (.string ((Z.SwapSides A).1.L).nm) := f7.cell_of (by go_simp)
  have c7_6_3 : w7.cell? ⟨w6.heap.size, 3, none⟩ = some (.slice oVL ((Z.SwapSides A).1.L).pw.length kVL) := f7.cell_of (by go_simp)
  have c7_6_4 : w7.cell? ⟨w6.heap.size, 4, none⟩ = some (.int .i64 ((Z.SwapSides A).1.R).dg) := f7.cell_of (by go_simp)
  have c7_6_5 : w7.cell? ⟨w6.heap.size, 5, none⟩ = some (.int .i64 ((Z.SwapSides A).1.R).tn) := f7.cell_of (by go_simp)
  have c7_6_6 : w7.cell? ⟨w6.heap.size, 6, none⟩ = some (.string ((Z.SwapSides A).1.R).nm) := f7.cell_of (by go_simp)
  have c7_6_7 : w7.cell? ⟨w6.heap.size, 7, none⟩ = some (.slice oVR ((Z.SwapSides A).1.R).pw.length kVR) := f7.cell_of (by go_simp)
  have y7_6 : w6.heap.size < w7.heap.size := World.block_lt_of_cell? w7 _ c7_6_0
  have IEL_7 := K.ints.ext (show K.ints _ 0 w1.heap.size (.slice oEL E.L.pw.length kEL) E.L.pw from by with_reducible repeat' (first | exact IEL_6 | refine K.ints.alloc ?_ _ | refine K.ints.drew ?_ | refine K.ints.set ?_ _ ?_ _ | (dsimp only; omega) | omega | (simp; done) | (simp; omega))) f7
  have IER_7 := K.ints.ext (show K.ints _ 0 w1.heap.size (.slice oER E.R.pw.length kER) E.R.pw from by with_reducible repeat' (first | exact IER_6 | refine K.ints.alloc ?_ _ | refine K.ints.drew ?_ | refine K.ints.set ?_ _ ?_ _ | (dsimp only; omega) | omega | (simp; done) | (simp; omega))) f7
  have IXL_7 := K.ints.ext (show K.ints _ 0 w2.heap.size (.slice oXL ((Z.TimesFormula E F).1.L).pw.length kXL) ((Z.TimesFormula E F).1.L).pw from by with_reducible repeat' (first | exact IXL_6 | refine K.ints.alloc ?_ _ | refine K.ints.drew ?_ | refine K.ints.set ?_ _ ?_ _ | (dsimp only; omega) | omega | (simp; done) | (simp; omega))) f7
  have IXR_7 := K.ints.ext (show K.ints _ 0 w2.heap.size (.slice oXR ((Z.TimesFormula E F).1.R).pw.length kXR) ((Z.TimesFormula E F).1.R).pw from by with_reducible repeat' (first | exact IXR_6 | refine K.ints.alloc ?_ _ | refine K.ints.drew ?_ | refine K.ints.set ?_ _ ?_ _ | (dsimp only; omega) | omega | (simp; done) | (simp; omega))) f7
  have IYL_7 := K.ints.ext (show K.ints _ 0 w3.heap.size (.slice oYL ((Z.TimesFormula E F).1.L).pw.length kYL) ((Z.TimesFormula E F).1.L).pw from by with_reducible repeat' (first | exact IYL_6 | refine K.ints.alloc ?_ _ | refine K.ints.drew ?_ | refine K.ints.set ?_ _ ?_ _ | (dsimp only; omega) | omega | (simp; done) | (simp; omega))) f7
  have IYR_7 := K.ints.ext (show K.ints _ 0 w3.heap.size (.slice oYR ((Z.TimesFormula E F).1.R).pw.length kYR) ((Z.TimesFormula E F).1.R).pw from by with_reducible repeat' (first | exact IYR_6 | refine K.ints.alloc ?_ _ | refine K.ints.drew ?_ | refine K.ints.set ?_ _ ?_ _ | (dsimp only; omega) | omega | (simp; done) | (simp; omega))) f7
  have IAL_7 := K.ints.ext (show K.ints _ 0 w4.heap.size (.slice oAL A.L.pw.length kAL) A.L.pw from by with_reducible repeat' (first | exact IAL_6 | refine K.ints.alloc ?_ _ | refine K.ints.drew ?_ | refine K.ints.set ?_ _ ?_ _ | (dsimp only; omega) | omega | (simp; done) | (simp; omega))) f7
  have IAR_7 := K.ints.ext (show K.ints _ 0 w4.heap.size (.slice oAR A.R.pw.length kAR) A.R.pw from by with_reducible repeat' (first | exact IAR_6 | refine K.ints.alloc ?_ _ | refine K.ints.drew ?_ | refine K.ints.set ?_ _ ?_ _ | (dsimp only; omega) | omega | (simp; done) | (simp; omega))) f7
  have ISL_7 := K.ints.ext (show K.ints _ 0 w5.heap.size (.slice oSL ((Z.SwapSides A).1.L).pw.length kSL) ((Z.SwapSides A).1.L).pw from by with_reducible repeat' (first | exact ISL_6 | refine K.ints.alloc ?_ _ | refine K.ints.drew ?_ | refine K.ints.set ?_ _ ?_ _ | (dsimp only; omega) | omega | (simp; done) | (simp; omega))) f7
  have ISR_7 := K.ints.ext (show K.ints _ 0 w5.heap.size (.slice oSR ((Z.SwapSides A).1.R).pw.length kSR) ((Z.SwapSides A).1.R).pw from by with_reducible repeat' (first | exact ISR_6 | refine K.ints.alloc ?_ _ | refine K.ints.drew ?_ | refine K.ints.set ?_ _ ?_ _ | (dsimp only; omega) | omega | (simp; done) | (simp; omega))) f7
  have IVL_7 := K.ints.ext (show K.ints _ 0 w6.heap.size (.slice oVL ((Z.SwapSides A).1.L).pw.length kVL) ((Z.SwapSides A).1.L).pw from by with_reducible repeat' (first | exact IVL_6 | refine K.ints.alloc ?_ _ | refine K.ints.drew ?_ | refine K.ints.set ?_ _ ?_ _ | (dsimp only; omega) | omega | (simp; done) | (simp; omega))) f7
  have IVR_7 := K.ints.ext (show K.ints _ 0 w6.heap.size (.slice oVR ((Z.SwapSides A).1.R).pw.length kVR) ((Z.SwapSides A).1.R).pw from by with_reducible repeat' (first | exact IVR_6 | refine K.ints.alloc ?_ _ | refine K.ints.drew ?_ | refine K.ints.set ?_ _ ?_ _ | (dsimp only; omega) | omega | (simp; done) | (simp; omega))) f7
  clear c6_0_0 c6_0_1 c6_0_2 c6_0_3 c6_0_4 c6_0_5 c6_0_6 c6_0_7 y6_0 c6_2_0 c6_2_1 c6_2_2 c6_2_3 c6_2_4 c6_2_5 c6_2_6 c6_2_7 y6_2 c6_3_0 c6_3_1 c6_3_2 c6_3_3 c6_3_4 c6_3_5 c6_3_6 c6_3_7 y6_3 c6_4_0 c6_4_1 c6_4_2 c6_4_3 c6_4_4 c6_4_5 c6_4_6 c6_4_7 y6_4 c6_5_0 c6_5_1 c6_5_2 c6_5_3 c6_5_4 c6_5_5 c6_5_6 c6_5_7 y6_5 IEL_6 IER_6 IXL_6 IXR_6 IYL_6 IYR_6 IAL_6 IAR_6 ISL_6 ISR_6 IVL_6 IVR_6 F6 f7 u7_0_1 u7_2_1 u7_3_1 u7_4_1 u7_5_1
  go_wp2_with fail
  refine K.call (by with_reducible rfl) (by with_reducible rfl) (impl_RaiseSides B c _ (by omega) (by omega) (by omega) (by omega) (show K.ints _ 0 w7.heap.size (.slice oBL B.L.pw.length kBL) B.L.pw from by with_reducible repeat' (first | exact IBL_7 | refine K.ints.alloc ?_ _ | refine K.ints.drew ?_ | refine K.ints.set ?_ _ ?_ _ | (dsimp only; omega) | omega | (simp; done) | (simp; omega))) (show K.ints _ 0 w7.heap.size (.slice oBR B.R.pw.length kBR) B.R.pw from by with_reducible repeat' (first | exact IBR_7 | refine K.ints.alloc ?_ _ | refine K.ints.drew ?_ | refine K.ints.set ?_ _ ?_ _ | (dsimp only; omega) | omega | (simp; done) | (simp; omega)))) ?_
  rintro e w8 ⟨⟨pR, qR, mR, rfl, uR, vR, hR, jR⟩, f8⟩
  obtain ⟨oRL, kRL, rfl, _⟩ := id (K.own.ints hR)
  have IRL_8 : K.ints w8 0 w8.heap.size (.slice oRL ((Z.RaiseSides B c).1.L).pw.length kRL) ((Z.RaiseSides B c).1.L).pw := (K.own.ints hR).mono (Nat.zero_le _) (by omega)
  obtain ⟨oRR, kRR, rfl, _⟩ := id (K.own.ints jR)
  have IRR_8 : K.ints w8 0 w8.heap.size (.slice oRR ((Z.RaiseSides B c).1.R).pw.length kRR) ((Z.RaiseSides B c).1.R).pw := (K.own.ints jR).mono (Nat.zero_le _) (by omega)
  have u8_0_1 : w1.heap.size < w7.heap.size + 1 := (by omega)
  have u8_2_1 : w2.heap.size < w7.heap.size + 1 := (by omega)
  have u8_3_1 : w3.heap.size < w7.heap.size + 1 := (by omega)
  have u8_4_1 : w4.heap.size < w7.heap.size + 1 := (by omega)
  have u8_5_1 : w5.heap.size < w7.heap.size + 1 := (by omega)
  have u8_6_1 : w6.heap.size < w7.heap.size + 1 := (by omega)
  have F8 : K.Ext w w8 := K.Ext.trans (by repeat' (first | with_reducible exact F7 | with_reducible refine K.Ext.setCell ?_ ?_ _ | with_reducible refine K.Ext.alloc ?_ _ | with_reducible refine K.Ext.drew ?_ | (dsimp only; omega) | omega | (simp; omega))) f8
  have c8_0_0 : w8.cell? ⟨w1.heap.size, 0, none⟩ = some (.int .i64 E.L.dg) := f8.cell_of (by go_simp)
  have c8_0_1 : w8.cell? ⟨w1.heap.size, 1, none⟩ = some (.int .i64 E.L.tn) := f8.cell_of (by go_simp)
  have c8_0_2 : w8.cell? ⟨w1.heap.size, 2, none⟩ = some (.string E.L.nm) := f8.cell_of (by go_simp)
  have c8_0_3 : w8.cell? ⟨w1.heap.size, 3, none⟩ = some (.slice oEL E.L.pw.length kEL) := f8.cell_of (by go_simp)
  have c8_0_4 : w8.cell? ⟨w1.heap.size, 4, none⟩ = some (.int .i64 E.R.dg) := f8.cell_of (by go_simp)
  have c8_0_5 : w8.cell? ⟨w1.heap.size, 5, none⟩ = some (.int .i64 E.R.tn) := f8.cell_of (by go_simp)
  have c8_0_6 : w8.cell? ⟨w1.heap.size, 6, none⟩ = some (.string E.R.nm) := f8.cell_of (by go_simp)
  have c8_0_7 : w8.cell? ⟨w1.heap.size, 7, none⟩ = some (.slice oER E.R.pw.length kER) := f8.cell_of (by go_simp)
  have y8_0 : w1.heap.size < w8.heap.size := World.block_lt_of_cell? w8 _ c8_0_0
  have c8_2_0 : w8.cell? ⟨w2.heap.size, 0, none⟩ = some (.int .i64 ((Z.TimesFormula E F).1.L).dg) := f8.cell_of (by go_simp)
  have c8_2_1 : w8.cell? ⟨w2.heap.size, 1, none⟩ = some (.int .i64 ((Z.TimesFormula E F).1.L).tn) := f8.cell_of (by go_simp)
  have c8_2_2 : w8.cell? ⟨w2.heap.size, 2, none⟩ = some (.string ((Z.TimesFormula E F).1.L).nm) := f8.cell_of (by go_simp)
  have c8_2_3 : w8.cell? ⟨w2.heap.size, 3, none⟩ = some (.slice oXL ((Z.TimesFormula E F).1.L).pw.length kXL) := f8.cell_of (by go_simp)
  have c8_2_4 : w8.cell? ⟨w2.heap.size, 4, none⟩ = some (.int .i64 ((Z.TimesFormula E F).1.R).dg) := f8.cell_of (by go_simp)
  have c8_2_5 : w8.cell? ⟨w2.heap.size, 5, none⟩ = some (.int .i64 ((Z.TimesFormula E F).1.R).tn) := f8.cell_of (by go_simp)
  have c8_2_6 : w8.cell? ⟨w2.heap.size, 6, none⟩ = some (.string ((Z.TimesFormula E F).1.R).nm) := f8.cell_of (by go_simp)
  have c8_2_7 : w8.cell? ⟨w2.heap.size, 7, none⟩ = some (.slice oXR ((Z.TimesFormula E F).1.R).pw.length kXR) := f8.cell_of (by go_simp)
  have y8_2 : w2.heap.size < w8.heap.size := World.block_lt_of_cell? w8 _ c8_2_0
  have c8_3_0 : w8.cell? ⟨w3.heap.size, 0, none⟩ = some (.int .i64 ((Z.TimesFormula E F).1.L).dg) := f8.cell_of (by go_simp)
  have c8_3_1 : w8.cell? ⟨w3.heap.size, 1, none⟩ = some (.int .i64 ((Z.TimesFormula E F).1.L).tn) := f8.cell_of (by go_simp)
  have c8_3_2 : w8.cell? ⟨w3.heap.size, 2, none⟩ = some (.string ((Z.TimesFormula E F).1.L).nm) := f8.cell_of (by go_simp)
  have c8_3_3 : w8.cell? ⟨w3.heap.size, 3, none⟩ = some (.slice oYL ((Z.TimesFormula E F).1.L).pw.length kYL) := f8.cell_of (by go_simp)
  have c8_3_4 : w8.cell? ⟨w3.heap.size, 4, none⟩ = some (.int .i64 ((Z.TimesFormula E F).1.R).dg) := f8.cell_of (by go_simp)
  have c8_3_5 : w8.cell? ⟨w3.heap.size, 5, none⟩ = some (.int .i64 ((Z.TimesFormula E F).1.R).tn) := f8.cell_of (by go_simp)
  have c8_3_6 : w8.cell? ⟨w3.heap.size, 6, none⟩ = some (.string ((Z.TimesFormula E F).1.R).nm) := f8.cell_of (by go_simp)
  have c8_3_7 : w8.cell? ⟨w3.heap.size, 7, none⟩ = some (.slice oYR ((Z.TimesFormula E F).1.R).pw.length kYR) := f8.cell_of (by go_simp)
  have y8_3 : w3.heap.size < w8.heap.size := World.block_lt_of_cell? w8 _ c8_3_0
  have c8_4_0 : w8.cell? ⟨w4.heap.size, 0, none⟩ = some (.int .i64 A.L.dg) := f8.cell_of (by go_simp)
  have c8_4_1 : w8.cell? ⟨w4.heap.size, 1, none⟩ = some (.int .i64 A.L.tn) := f8.cell_of (by go_simp)
  have c8_4_2 : w8.cell? ⟨w4.heap.size, 2, none⟩ = some (.string A.L.nm) := f8.cell_of (by go_simp)
  have c8_4_3 : w8.cell? ⟨w4.heap.size, 3, none⟩ = some (.slice oAL A.L.pw.length kAL) := f8.cell_of (by go_simp)
  have c8_4_4 : w8.cell? ⟨w4.heap.size, 4, none⟩ = some (.int .i64 A.R.dg) := f8.cell_of (by go_simp)
  have c8_4_5 : w8.cell? ⟨w4.heap.size, 5, none⟩ = some (.int .i64 A.R.tn) := f8.cell_of (by go_simp)
  have c8_4_6 : w8.cell? ⟨w4.heap.size, 6, none⟩ = some (.string A.R.nm) := f8.cell_of (by go_simp)
  have c8_4_7 : w8.cell? ⟨w4.heap.size, 7, none⟩ = some (.slice oAR A.R.pw.length kAR) := f8.cell_of (by go_simp)
  have y8_4 : w4.heap.size < w8.heap.size := World.block_lt_of_cell? w8 _ c8_4_0
  have c8_5_0 : w8.cell? ⟨w5.heap.size, 0, none⟩ = some (.int .i64 ((Z.SwapSides A).1.L).dg) := f8.cell_of (by go_simp)
  have c8_5_1 : w8.cell? ⟨w5.heap.size, 1, none⟩ = some (.int .i64 ((Z.SwapSides A).1.L).tn) := f8.cell_of (by go_simp)
  have c8_5_2 : w8.cell? ⟨w5.heap.size, 2, none⟩ = some (.string ((Z.SwapSides A).1.L).nm) := f8.cell_of (by go_simp)
  have c8_5_3 : w8.cell? ⟨w5.heap.size, 3, none⟩ = some (.slice oSL ((Z.SwapSides A).1.L).pw.length kSL) := f8.cell_of (by go_simp)
  have c8_5_4 : w8.cell? ⟨w5.heap.size, 4, none⟩ = some (.int .i64 ((Z.SwapSides A).1.R).dg) := f8.cell_of (by go_simp)
  have c8_5_5 : w8.cell? ⟨w5.heap.size, 5, none⟩ = some (.int .i64 ((Z.SwapSides A).1.R).tn) := f8.cell_of (by go_simp)
  have c8_5_6 : w8.cell? ⟨w5.heap.size, 6, none⟩ = some (.string ((Z.SwapSides A).1.R).nm) := f8.cell_of (by go_simp)
  have c8_5_7 : w8.cell? ⟨w5.heap.size, 7, none⟩ = some (.slice oSR ((Z.SwapSides A).1.R).pw.length kSR) := f8.cell_of (by go_simp)
  have y8_5 : w5.heap.size < w8.heap.size := World.block_lt_of_cell? w8 _ c8_5_0
  have c8_6_0 : w8.cell? ⟨w6.heap.size, 0, none⟩ = some (.int .i64 ((Z.SwapSides A).1.L).dg) := f8.cell_of (by go_simp)
  have c8_6_1 : w8.cell? ⟨w6.heap.size, 1, none⟩ = some (.int .i64 ((Z.SwapSides A).1.L).tn) := f8.cell_of (by go_simp)
  have c8_6_2 : w8.cell? ⟨w6.heap.size, 2, none⟩ = some (.string ((Z.SwapSides A).1.L).nm) := f8.cell_of (by go_simp)
  have c8_6_3 : w8.cell? ⟨w6.heap.size, 3, none⟩ = some (.slice oVL ((Z.SwapSides A).1.L).pw.length kVL) := f8.cell_of (by go_simp)
  have c8_6_4 : w8.cell? ⟨w6.heap.size, 4, none⟩ = some (.int .i64 ((Z.SwapSides A).1.R).dg) := f8.cell_of (by go_simp)
  have c8_6_5 : w8.cell? ⟨w6.heap.size, 5, none⟩ = some (.int .i64 ((Z.SwapSides A).1.R).tn) := f8.cell_of (by go_simp)
  have c8_6_6 : w8.cell? ⟨w6.heap.size, 6, none⟩ = some (.string ((Z.SwapSides A).1.R).nm) := f8.cell_of (by go_simp)
  have c8_6_7 : w8.cell? ⟨w6.heap.size, 7, none⟩ = some (.slice oVR ((Z.SwapSides A).1.R).pw.length kVR) := f8.cell_of (by go_simp)
  have y8_6 : w6.heap.size < w8.heap.size := World.block_lt_of_cell? w8 _ c8_6_0
  have c8_7_0 : w8.cell? ⟨w7.heap.size, 0, none⟩ = some (.int .i64 B.L.dg) := f8.cell_of (by go_simp)
  have c8_7_1 : w8.cell? ⟨w7.heap.size, 1, none⟩ = some (.int .i64 B.L.tn) := f8.cell_of (by go_simp)
  have c8_7_2 : w8.cell? ⟨w7.heap.size, 2, none⟩ = some (.string B.L.nm) := f8.cell_of (by go_simp)
  have c8_7_3 : w8.cell? ⟨w7.heap.size, 3, none⟩ = some (.slice oBL B.L.pw.length kBL) := f8.cell_of (by go_simp)
  have c8_7_4 : w8.cell? ⟨w7.heap.size, 4, none⟩ = some (.int .i64 B.R.dg) := f8.cell_of (by go_simp)
  have c8_7_5 : w8.cell? ⟨w7.heap.size, 5, none⟩ = some (.int .i64 B.R.tn) := f8.cell_of (by go_simp)
  have c8_7_6 : w8.cell? ⟨w7.heap.size, 6, none⟩ = some (.string B.R.nm) := f8.cell_of (by go_simp)
  have c8_7_7 : w8.cell? ⟨w7.heap.size, 7, none⟩ = some (.slice oBR B.R.pw.length kBR) := f8.cell_of (by go_simp)
  have y8_7 : w7.heap.size < w8.heap.size := World.block_lt_of_cell? w8 _ c8_7_0
  have IEL_8 := K.ints.ext (show K.ints _ 0 w1.heap.size (.slice oEL E.L.pw.length kEL) E.L.pw from by with_reducible repeat' (first | exact IEL_7 | refine K.ints.alloc ?_ _ | refine K.ints.drew ?_ | refine K.ints.set ?_ _ ?_ _ | (dsimp only; omega) | omega | (simp; done) | (simp; omega))) f8
  have IER_8 := K.ints.ext (show K.ints _ 0 w1.heap.size (.slice oER E.R.pw.length kER) E.R.pw from by with_reducible repeat' (first | exact IER_7 | refine K.ints.alloc ?_ _ | refine K.ints.drew ?_ | refine K.ints.set ?_ _ ?_ _ | (dsimp only; omega) | omega | (simp; done) | (simp; omega))) f8
  have IXL_8 := K.ints.ext (show K.ints _ 0 w2.heap.size (.slice oXL ((Z.TimesFormula E F).1.L).pw.length kXL) ((Z.TimesFormula E F).1.L).pw from by with_reducible repeat' (first | exact IXL_7 | refine K.ints.alloc ?_ _ | refine K.ints.drew ?_ | refine K.ints.set ?_ _ ?_ _ | (dsimp only; omega) | omega | (simp; done) | (simp; omega))) f8
  have IXR_8 := K.ints.ext (show K.ints _ 0 w2.heap.size (.slice oXR ((Z.TimesFormula E F).1.R).pw.length kXR) ((Z.TimesFormula E F).1.R).pw from by with_reducible repeat' (first | exact IXR_7 | refine K.ints.alloc ?_ _ | refine K.ints.drew ?_ | refine K.ints.set ?_ _ ?_ _ | (dsimp only; omega) | omega | (simp; done) | (simp; omega))) f8
  have IYL_8 := K.ints.ext (show K.ints _ 0 w3.heap.size (.slice oYL ((Z.TimesFormula E F).1.L).pw.length kYL) ((Z.TimesFormula E F).1.L).pw from by with_reducible repeat' (first | exact IYL_7 | refine K.ints.alloc ?_ _ | refine K.ints.drew ?_ | refine K.ints.set ?_ _ ?_ _ | (dsimp only; omega) | omega | (simp; done) | (simp; omega))) f8
  have IYR_8 := K.ints.ext (show K.ints _ 0 w3.heap.size (.slice oYR ((Z.TimesFormula E F).1.R).pw.length kYR) ((Z.TimesFormula E F).1.R).pw from by with_reducible repeat' (first | exact IYR_7 | refine K.ints.alloc ?_ _ | refine K.ints.drew ?_ | refine K.ints.set ?_ _ ?_ _ | (dsimp only; omega) | omega | (simp; done) | (simp; omega))) f8
  have IAL_8 := K.ints.ext (show K.ints _ 0 w4.heap.size (.slice oAL A.L.pw.length kAL) A.L.pw from by with_reducible repeat' (first | exact IAL_7 | refine K.ints.alloc ?_ _ | refine K.ints.drew ?_ | refine K.ints.set ?_ _ ?_ _ | (dsimp only; omega) | omega | (simp; done) | (simp; omega))) f8
  have IAR_8 := K.ints.ext (show K.ints _ 0 w4.heap.size (.slice oAR A.R.pw.length kAR) A.R.pw from by with_reducible repeat' (first | exact IAR_7 | refine K.ints.alloc ?_ _ | refine K.ints.drew ?_ | refine K.ints.set ?_ _ ?_ _ | (dsimp only; omega) | omega | (simp; done) | (simp; omega))) f8
  have ISL_8 := K.ints.ext (show K.ints _ 0 w5.heap.size (.slice oSL ((Z.SwapSides A).1.L).pw.length kSL) ((Z.SwapSides A).1.L).pw from by with_reducible repeat' (first | exact ISL_7 | refine K.ints.alloc ?_ _ | refine K.ints.drew ?_ | refine K.ints.set ?_ _ ?_ _ | (dsimp only; omega) | omega | (simp; done) | (simp; omega))) f8
  have ISR_8 := K.ints.ext (show K.ints _ 0 w5.heap.size (.slice oSR ((Z.SwapSides A).1.R).pw.length kSR) ((Z.SwapSides A).1.R).pw from by with_reducible repeat' (first | exact ISR_7 | refine K.ints.alloc ?_ _ | refine K.ints.drew ?_ | refine K.ints.set ?_ _ ?_ _ | (dsimp only; omega) | omega | (simp; done) | (simp; omega))) f8
  have IVL_8 := K.ints.ext (show K.ints _ 0 w6.heap.size (.slice oVL ((Z.SwapSides A).1.L).pw.length kVL) ((Z.SwapSides A).1.L).pw from by with_reducible repeat' (first | exact IVL_7 | refine K.ints.alloc ?_ _ | refine K.ints.drew ?_ | refine K.ints.set ?_ _ ?_ _ | (dsimp only; omega) | omega | (simp; done) | (simp; omega))) f8
  have IVR_8 := K.ints.ext (show K.ints _ 0 w6.heap.size (.slice oVR ((Z.SwapSides A).1.R).pw.length kVR) ((Z.SwapSides A).1.R).pw from by with_reducible repeat' (first | exact IVR_7 | refine K.ints.alloc ?_ _ | refine K.ints.drew ?_ | refine K.ints.set ?_ _ ?_ _ | (dsimp only; omega) | omega | (simp; done) | (simp; omega))) f8
  have IBL_8 := K.ints.ext (show K.ints _ 0 w7.heap.size (.slice oBL B.L.pw.length kBL) B.L.pw from by with_reducible repeat' (first | exact IBL_7 | refine K.ints.alloc ?_ _ | refine K.ints.drew ?_ | refine K.ints.set ?_ _ ?_ _ | (dsimp only; omega) | omega | (simp; done) | (simp; omega))) f8
  have IBR_8 := K.ints.ext (show K.ints _ 0 w7.heap.size (.slice oBR B.R.pw.length kBR) B.R.pw from by with_reducible repeat' (first | exact IBR_7 | refine K.ints.alloc ?_ _ | refine K.ints.drew ?_ | refine K.ints.set ?_ _ ?_ _ | (dsimp only; omega) | omega | (simp; done) | (simp; omega))) f8
  clear c7_0_0 c7_0_1 c7_0_2 c7_0_3 c7_0_4 c7_0_5 c7_0_6 c7_0_7 y7_0 c7_2_0 c7_2_1 c7_2_2 c7_2_3 c7_2_4 c7_2_5 c7_2_6 c7_2_7 y7_2 c7_3_0 c7_3_1 c7_3_2 c7_3_3 c7_3_4 c7_3_5 c7_3_6 c7_3_7 y7_3 c7_4_0 c7_4_1 c7_4_2 c7_4_3 c7_4_4 c7_4_5 c7_4_6 c7_4_7 y7_4 c7_5_0 c7_5_1 c7_5_2 c7_5_3 c7_5_4 c7_5_5 c7_5_6 c7_5_7 y7_5 c7_6_0 c7_6_1 c7_6_2 c7_6_3 c7_6_4 c7_6_5 c7_6_6 c7_6_7 y7_6 IEL_7 IER_7 IXL_7 IXR_7 IYL_7 IYR_7 IAL_7 IAR_7 ISL_7 ISR_7 IVL_7 IVR_7 IBL_7 IBR_7 F7 f8 u8_0_1 u8_2_1 u8_3_1 u8_4_1 u8_5_1 u8_6_1
  go_wp2_with fail
  refine K.call (by with_reducible rfl) (by with_reducible rfl) (spec_RaiseSides B c _ (by omega) (by omega) (by omega) (by omega) (show K.ints _ 0 w7.heap.size (.slice oBL B.L.pw.length kBL) B.L.pw from by with_reducible repeat' (first | exact IBL_8 | refine K.ints.alloc ?_ _ | refine K.ints.drew ?_ | refine K.ints.set ?_ _ ?_ _ | (dsimp only; omega) | omega | (simp; done) | (simp; omega))) (show K.ints _ 0 w7.heap.size (.slice oBR B.R.pw.length kBR) B.R.pw from by with_reducible repeat' (first | exact IBR_8 | refine K.ints.alloc ?_ _ | refine K.ints.drew ?_ | refine K.ints.set ?_ _ ?_ _ | (dsimp only; omega) | omega | (simp; done) | (simp; omega)))) ?_
  rintro e w9 ⟨⟨pU, qU, rfl, hU, jU⟩, f9⟩
  obtain ⟨oUL, kUL, rfl, _⟩ := id (hU)
  have IUL_9 : K.ints w9 0 w9.heap.size (.slice oUL ((Z.RaiseSides B c).1.L).pw.length kUL) ((Z.RaiseSides B c).1.L).pw := (hU).mono (Nat.zero_le _) (by omega)
  obtain ⟨oUR, kUR, rfl, _⟩ := id (jU)
  have IUR_9 : K.ints w9 0 w9.heap.size (.slice oUR ((Z.RaiseSides B c).1.R).pw.length kUR) ((Z.RaiseSides B c).1.R).pw := (jU).mono (Nat.zero_le _) (by omega)
  have u9_0_1 : w1.heap.size < w8.heap.size + 1 := (by omega)
  have u9_2_1 : w2.heap.size < w8.heap.size + 1 := (by omega)
  have u9_3_1 : w3.heap.size < w8.heap.size + 1 := (by omega)
  have u9_4_1 : w4.heap.size < w8.heap.size + 1 := (by omega)
  have u9_5_1 : w5.heap.size < w8.heap.size + 1 := (by omega)
  have u9_6_1 : w6.heap.size < w8.heap.size + 1 := (by omega)
  have u9_7_1 : w7.heap.size < w8.heap.size + 1 := (by omega)
  have F9 : K.Ext w w9 := K.Ext.trans (by repeat' (first | with_reducible exact F8 | with_reducible refine K.Ext.setCell ?_ ?_ _ | with_reducible refine K.Ext.alloc ?_ _ | with_reducible refine K.Ext.drew ?_ | (dsimp only; omega) | omega | (simp; omega))) f9
  have c9_0_0 : w9.cell? ⟨w1.heap.size, 0, none⟩ = some (.int .i64 E.L.dg) := f9.cell_of (by go_simp)
  have c9_0_1 : w9.cell? ⟨w1.heap.size, 1, none⟩ = some (.int .i64 E.L.tn) := f9.cell_of (by go_simp)
  have c9_0_2 : w9.cell? ⟨w1.heap.size, 2, none⟩ = some (.string E.L.nm) := f9.cell_of (by go_simp)
  have c9_0_3 : w9.cell? ⟨w1.heap.size, 3, none⟩ = some (.slice oEL E.L.pw.length kEL) := f9.cell_of (by go_simp)
  have c9_0_4 : w9.cell? ⟨w1.heap.size, 4, none⟩ = some (.int .i64 E.R.dg) := f9.cell_of (by go_simp)
  have c9_0_5 : w9.cell? ⟨w1.heap.size, 5, none⟩ = some (.int .i64 E.R.tn) := f9.cell_of (by go_simp)
  have c9_0_6 : w9.cell? ⟨w1.heap.size, 6, none⟩ = some (.string E.R.nm) := f9.cell_of (by go_simp)
  have c9_0_7 : w9.cell? ⟨w1.heap.size, 7, none⟩ = some (.slice oER E.R.pw.length kER) := f9.cell_of (by go_simp)
  have y9_0 : w1.heap.size < w9.heap.size := World.block_lt_of_cell? w9 _ c9_0_0
  have c9_2_0 : w9.cell? ⟨w2.heap.size, 0, none⟩ = some (.int .i64 ((Z.TimesFormula E F).1.L).dg) := f9.cell_of (by go_simp)
  have c9_2_1 : w9.cell? ⟨w2.heap.size, 1, none⟩ = some (.int .i64 ((Z.TimesFormula E F).1.L).tn) := f9.cell_of (by go_simp)
  have c9_2_2 : w9.cell? ⟨w2.heap.size, 2, none⟩ = some (.string ((Z.TimesFormula E F).1.L).nm) := f9.cell_of (by go_simp)
  have c9_2_3 : w9.cell? ⟨w2.heap.size, 3, none⟩ = some (.slice oXL ((Z.TimesFormula E F).1.L).pw.length kXL) := f9.cell_of (by go_simp)
  have c9_2_4 : w9.cell? ⟨w2.heap.size, 4, none⟩ = some (.int .i64 ((Z.TimesFormula E F).1.R).dg) := f9.cell_of (by go_simp)
  have c9_2_5 : w9.cell? ⟨w2.heap.size, 5, none⟩ = some (.int .i64 ((Z.TimesFormula E F).1.R).tn) := f9.cell_of (by go_simp)
  have c9_2_6 : w9.cell? ⟨w2.heap.size, 6, none⟩ = some (.string ((Z.TimesFormula E F).1.R).nm) := f9.cell_of (by go_simp)
  have c9_2_7 : w9.cell? ⟨w2.heap.size, 7, none⟩ = some (.slice oXR ((Z.TimesFormula E F).1.R).pw.length kXR) := f9.cell_of (by go_simp)
  have y9_2 : w2.heap.size < w9.heap.size := World.block_lt_of_cell? w9 _ c9_2_0
  have c9_3_0 : w9.cell? ⟨w3.heap.size, 0, none⟩ = some (.int .i64 ((Z.TimesFormula E F).1.L).dg) := f9.cell_of (by go_simp)
  have c9_3_1 : w9.cell? ⟨w3.heap.size, 1, none⟩ = some (.int .i64 ((Z.TimesFormula E F).1.L).tn) := f9.cell_of (by go_simp)
  have c9_3_2 : w9.cell? ⟨w3.heap.size, 2, none⟩ = some (.string ((Z.TimesFormula E F).1.L).nm) := f9.cell_of (by go_simp)
  have c9_3_3 : w9.cell? ⟨w3.heap.size, 3, none⟩ = some (.slice oYL ((Z.TimesFormula E F).1.L).pw.length kYL) := f9.cell_of (by go_simp)
  have c9_3_4 : w9.cell? ⟨w3.heap.size, 4, none⟩ = some (.int .i64 ((Z.TimesFormula E F).1.R).dg) := f9.cell_of (by go_simp)
  have c9_3_5 : w9.cell? ⟨w3.heap.size, 5, none⟩ = some (.int .i64 ((Z.TimesFormula E F).1.R).tn) := f9.cell_of (by go_simp)
  have c9_3_6 : w9.cell? ⟨w3.heap.size, 6, none⟩ = some (.string ((Z.TimesFormula E F).1.R).nm) := f9.cell_of (by go_simp)
  have c9_3_7 : w9.cell? ⟨w3.heap.size, 7, none⟩ = some (.slice oYR ((Z.TimesFormula E F).1.R).pw.length kYR) := f9.cell_of (by go_simp)
  have y9_3 : w3.heap.size < w9.heap.size := World.block_lt_of_cell? w9 _ c9_3_0
  have c9_4_0 : w9.cell? ⟨w4.heap.size, 0, none⟩ = some (.int .i64 A.L.dg) := f9.cell_of (by go_simp)
  have c9_4_1 : w9.cell? ⟨w4.heap.size, 1, none⟩ = some (.int .i64 A.L.tn) := f9.cell_of (by go_simp)
  have c9_4_2 : w9.cell? ⟨w4.heap.size, 2, none⟩ = some (.string A.L.nm) := f9.cell_of (by go_simp)
  have c9_4_3 : w9.cell? ⟨w4.heap.size, 3, none⟩ = some (.slice oAL A.L.pw.length kAL) := f9.cell_of (by go_simp)
  have c9_4_4 : w9.cell? ⟨w4.heap.size, 4, none⟩ = some (.int .i64 A.R.dg) := f9.cell_of (by go_simp)
  have c9_4_5 : w9.cell? ⟨w4.heap.size, 5, none⟩ = some (.int .i64 A.R.tn) := f9.cell_of (by go_simp)
  have c9_4_6 : w9.cell? ⟨w4.heap.size, 6, none⟩ = some (.string A.R.nm) := f9.cell_of (by go_simp)
  have c9_4_7 : w9.cell? ⟨w4.heap.size, 7, none⟩ = some (.slice oAR A.R.pw.length kAR) := f9.cell_of (by go_simp)
  have y9_4 : w4.heap.size < w9.heap.size := World.block_lt_of_cell? w9 _ c9_4_0
  have c9_5_0 : w9.cell? ⟨w5.heap.size, 0, none⟩ = some (.int .i64 ((Z.SwapSides A).1.L).dg) := f9.cell_of (by go_simp)
  have c9_5_1 : w9.cell? ⟨w5.heap.size, 1, none⟩ = some (.int .i64 ((Z.SwapSides A).1.L).tn) := f9.cell_of (by go_simp)
  have c9_5_2 : w9.cell? ⟨w5.heap.size, 2, none⟩ = some (.string ((Z.SwapSides A).1.L).nm) := f9.cell_of (by go_simp)
  have c9_5_3 : w9.cell? ⟨w5.heap.size, 3, none⟩ = some (.slice oSL ((Z.SwapSides A).1.L).pw.length kSL) := f9.cell_of (by go_simp)
  have c9_5_4 : w9.cell? ⟨w5.heap.size, 4, none⟩ = some (.int .i64 ((Z.SwapSides A).1.R).dg) := f9.cell_of (by go_simp)
  have c9_5_5 : w9.cell? ⟨w5.heap.size, 5, none⟩ = some (.int .i64 ((Z.SwapSides A).1.R).tn) := f9.cell_of (by go_simp)
  have c9_5_6 : w9.cell? ⟨w5.heap.size, 6, none⟩ = some (.string ((Z.SwapSides A).1.R).nm) := f9.cell_of (by go_simp)
  have c9_5_7 : w9.cell? ⟨w5.heap.size, 7, none⟩ = some (.slice oSR ((Z.SwapSides A).1.R).pw.length kSR) := f9.cell_of (by go_simp)
  have y9_5 : w5.heap.size < w9.heap.size := World.block_lt_of_cell? w9 _ c9_5_0
  have c9_6_0 : w9.cell? ⟨w6.heap.size, 0, none⟩ = some (.int .i64 ((Z.SwapSides A).1.L).dg) := f9.cell_of (by go_simp)
  have c9_6_1 : w9.cell? ⟨w6.heap.size, 1, none⟩ = some (.int .i64 ((Z.SwapSides A).1.L).tn) := f9.cell_of (by go_simp)
  have c9_6_2 : w9.cell? ⟨w6.heap.size, 2, none⟩ = some (.string ((Z.SwapSides A).1.L).nm) := f9.cell_of (by go_simp)
  have c9_6_3 : w9.cell? ⟨w6.heap.size, 3, none⟩ = some (.slice oVL ((Z.SwapSides A).1.L).pw.length kVL) := f9.cell_of (by go_simp)
  have c9_6_4 : w9.cell? ⟨w6.heap.size, 4, none⟩ = some (.int .i64 ((Z.SwapSides A).1.R).dg) := f9.cell_of (by go_simp)
  have c9_6_5 : w9.cell? ⟨w6.heap.size, 5, none⟩ = some (.int .i64 ((Z.SwapSides A).1.R).tn) := f9.cell_of (by go_simp)
  have c9_6_6 : w9.cell? ⟨w6.heap.size, 6, none⟩ = some (.string ((Z.SwapSides A).1.R).nm) := f9.cell_of (by go_simp)
  have c9_6_7 : w9.cell? ⟨w6.heap.size, 7, none⟩ = some (.slice oVR ((Z.SwapSides A).1.R).pw.length kVR) := f9.cell_of (by go_simp)
  have y9_6 : w6.heap.size < w9.heap.size := World.block_lt_of_cell? w9 _ c9_6_0
  have c9_7_0 : w9.cell? ⟨w7.heap.size, 0, none⟩ = some (.int .i64 B.L.dg) := f9.cell_of (by go_simp)
  have c9_7_1 : w9.cell? ⟨w7.heap.size, 1, none⟩ = some (.int .i64 B.L.tn) := f9.cell_of (by go_simp)
  have c9_7_2 : w9.cell? ⟨w7.heap.size, 2, none⟩ = some (.string B.L.nm) := f9.cell_of (by go_simp)
  have c9_7_3 : w9.cell? ⟨w7.heap.size, 3, none⟩ = some (.slice oBL B.L.pw.length kBL) := f9.cell_of (by go_simp)
  have c9_7_4 : w9.cell? ⟨w7.heap.size, 4, none⟩ = some (.int .i64 B.R.dg) := f9.cell_of (by go_simp)
  have c9_7_5 : w9.cell? ⟨w7.heap.size, 5, none⟩ = some (.int .i64 B.R.tn) := f9.cell_of (by go_simp)
  have c9_7_6 : w9.cell? ⟨w7.heap.size, 6, none⟩ = some (.string B.R.nm) := f9.cell_of (by go_simp)
  have c9_7_7 : w9.cell? ⟨w7.heap.size, 7, none⟩ = some (.slice oBR B.R.pw.length kBR) := f9.cell_of (by go_simp)
  have y9_7 : w7.heap.size < w9.heap.size := World.block_lt_of_cell? w9 _ c9_7_0
  have c9_8_0 : w9.cell? ⟨w8.heap.size, 0, none⟩ = some (.int .i64 ((Z.RaiseSides B c).1.L).dg) := f9.cell_of (by go_simp)
  have c9_8_1 : w9.cell? ⟨w8.heap.size, 1, none⟩ = some (.int .i64 ((Z.RaiseSides B c).1.L).tn) := f9.cell_of (by go_simp)
  have c9_8_2 : w9.cell? ⟨w8.heap.size, 2, none⟩ = some (.string ((Z.RaiseSides B c).1.L).nm) := f9.cell_of (by go_simp)
  have c9_8_3 : w9.cell? ⟨w8.heap.size, 3, none⟩ = some (.slice oRL ((Z.RaiseSides B c).1.L).pw.length kRL) := f9.cell_of (by go_simp)
  have c9_8_4 : w9.cell? ⟨w8.heap.size, 4, none⟩ = some (.int .i64 ((Z.RaiseSides B c).1.R).dg) := f9.cell_of (by go_simp)
  have c9_8_5 : w9.cell? ⟨w8.heap.size, 5, none⟩ = some (.int .i64 ((Z.RaiseSides B c).1.R).tn) := f9.cell_of (by go_simp)
  have c9_8_6 : w9.cell? ⟨w8.heap.size, 6, none⟩ = some (.string ((Z.RaiseSides B c).1.R).nm) := f9.cell_of (by go_simp)
  have c9_8_7 : w9.cell? ⟨w8.heap.size, 7, none⟩ = some (.slice oRR ((Z.RaiseSides B c).1.R).pw.length kRR) := f9.cell_of (by go_simp)
  have y9_8 : w8.heap.size < w9.heap.size := World.block_lt_of_cell? w9 _ c9_8_0
  have IEL_9 := K.ints.ext (show K.ints _ 0 w1.heap.size (.slice oEL E.L.pw.length kEL) E.L.pw from by with_reducible repeat' (first | exact IEL_8 | refine K.ints.alloc ?_ _ | refine K.ints.drew ?_ | refine K.ints.set ?_ _ ?_ _ | (dsimp only; omega) | omega | (simp; done) | (simp; omega))) f9
  have IER_9 := K.ints.ext (show K.ints _ 0 w1.heap.size (.slice oER E.R.pw.length kER) E.R.pw from by with_reducible repeat' (first | exact IER_8 | refine K.ints.alloc ?_ _ | refine K.ints.drew ?_ | refine K.ints.set ?_ _ ?_ _ | (dsimp only; omega) | omega | (simp; done) | (simp; omega))) f9
  have IXL_9 := K.ints.ext (show K.ints _ 0 w2.heap.size (.slice oXL ((Z.TimesFormula E F).1.L).pw.length kXL) ((Z.TimesFormula E F).1.L).pw from by with_reducible repeat' (first | exact IXL_8 | refine K.ints.alloc ?_ _ | refine K.ints.drew ?_ | refine K.ints.set ?_ _ ?_ _ | (dsimp only; omega) | omega | (simp; done) | (simp; omega))) f9
  have IXR_9 := K.ints.ext (show K.ints _ 0 w2.heap.size (.slice oXR ((Z.TimesFormula E F).1.R).pw.length kXR) ((Z.TimesFormula E F).1.R).pw from by with_reducible repeat' (first | exact IXR_8 | refine K.ints.alloc ?_ _ | refine K.ints.drew ?_ | refine K.ints.set ?_ _ ?_ _ | (dsimp only; omega) | omega | (simp; done) | (simp; omega))) f9
  have IYL_9 := K.ints.ext (show K.ints _ 0 w3.heap.size (.slice oYL ((Z.TimesFormula E F).1.L).pw.length kYL) ((Z.TimesFormula E F).1.L).pw from by with_reducible repeat' (first | exact IYL_8 | refine K.ints.alloc ?_ _ | refine K.ints.drew ?_ | refine K.ints.set ?_ _ ?_ _ | (dsimp only; omega) | omega | (simp; done) | (simp; omega))) f9
  have IYR_9 := K.ints.ext (show K.ints _ 0 w3.heap.size (.slice oYR ((Z.TimesFormula E F).1.R).pw.length kYR) ((Z.TimesFormula E F).1.R).pw from by with_reducible repeat' (first | exact IYR_8 | refine K.ints.alloc ?_ _ | refine K.ints.drew ?_ | refine K.ints.set ?_ _ ?_ _ | (dsimp only; omega) | omega | (simp; done) | (simp; omega))) f9
  have IAL_9 := K.ints.ext (show K.ints _ 0 w4.heap.size (.slice oAL A.L.pw.length kAL) A.L.pw from by with_reducible repeat' (first | exact IAL_8 | refine K.ints.alloc ?_ _ | refine K.ints.drew ?_ | refine K.ints.set ?_ _ ?_ _ | (dsimp only; omega) | omega | (simp; done) | (simp; omega))) f9
  have IAR_9 := K.ints.ext (show K.ints _ 0 w4.heap.size (.slice oAR A.R.pw.length kAR) A.R.pw from by with_reducible repeat' (first | exact IAR_8 | refine K.ints.alloc ?_ _ | refine K.ints.drew ?_ | refine K.ints.set ?_ _ ?_ _ | (dsimp only; omega) | omega | (simp; done) | (simp; omega))) f9
  have ISL_9 := K.ints.ext (show K.ints _ 0 w5.heap.size (.slice oSL ((Z.SwapSides A).1.L).pw.length kSL) ((Z.SwapSides A).1.L).pw from by with_reducible repeat' (first | exact ISL_8 | refine K.ints.alloc ?_ _ | refine K.ints.drew ?_ | refine K.ints.set ?_ _ ?_ _ | (dsimp only; omega) | omega | (simp; done) | (simp; omega))) f9
  have ISR_9 := K.ints.ext (show K.ints _ 0 w5.heap.size (.slice oSR ((Z.SwapSides A).1.R).pw.length kSR) ((Z.SwapSides A).1.R).pw from by with_reducible repeat' (first | exact ISR_8 | refine K.ints.alloc ?_ _ | refine K.ints.drew ?_ | refine K.ints.set ?_ _ ?_ _ | (dsimp only; omega) | omega | (simp; done) | (simp; omega))) f9
  have IVL_9 := K.ints.ext (show K.ints _ 0 w6.heap.size (.slice oVL ((Z.SwapSides A).1.L).pw.length kVL) ((Z.SwapSides A).1.L).pw from by with_reducible repeat' (first | exact IVL_8 | refine K.ints.alloc ?_ _ | refine K.ints.drew ?_ | refine K.ints.set ?_ _ ?_ _ | (dsimp only; omega) | omega | (simp; done) | (simp; omega))) f9
  have IVR_9 := K.ints.ext (show K.ints _ 0 w6.heap.size (.slice oVR ((Z.SwapSides A).1.R).pw.length kVR) ((Z.SwapSides A).1.R).pw from by with_reducible repeat' (first | exact IVR_8 | refine K.ints.alloc ?_ _ | refine K.ints.drew ?_ | refine K.ints.set ?_ _ ?_ _ | (dsimp only; omega) | omega | (simp; done) | (simp; omega))) f9
  have IBL_9 := K.ints.ext (show K.ints _ 0 w7.heap.size (.slice oBL B.L.pw.length kBL) B.L.pw from by with_reducible repeat' (first | exact IBL_8 | refine K.ints.alloc ?_ _ | refine K.ints.drew ?_ | refine K.ints.set ?_ _ ?_ _ | (dsimp only; omega) | omega | (simp; done) | (simp; omega))) f9
  have IBR_9 := K.ints.ext (show K.ints _ 0 w7.heap.size (.slice oBR B.R.pw.length kBR) B.R.pw from by with_reducible repeat' (first | exact IBR_8 | refine K.ints.alloc ?_ _ | refine K.ints.drew ?_ | refine K.ints.set ?_ _ ?_ _ | (dsimp only; omega) | omega | (simp; done) | (simp; omega))) f9
  have IRL_9 := K.ints.ext (show K.ints _ 0 w8.heap.size (.slice oRL ((Z.RaiseSides B c).1.L).pw.length kRL) ((Z.RaiseSides B c).1.L).pw from by with_reducible repeat' (first | exact IRL_8 | refine K.ints.alloc ?_ _ | refine K.ints.drew ?_ | refine K.ints.set ?_ _ ?_ _ | (dsimp only; omega) | omega | (simp; done) | (simp; omega))) f9
  have IRR_9 := K.ints.ext (show K.ints _ 0 w8.heap.size (.slice oRR ((Z.RaiseSides B c).1.R).pw.length kRR) ((Z.RaiseSides B c).1.R).pw from by with_reducible repeat' (first | exact IRR_8 | refine K.ints.alloc ?_ _ | refine K.ints.drew ?_ | refine K.ints.set ?_ _ ?_ _ | (dsimp only; omega) | omega | (simp; done) | (simp; omega))) f9
  clear c8_0_0 c8_0_1 c8_0_2 c8_0_3 c8_0_4 c8_0_5 c8_0_6 c8_0_7 y8_0 c8_2_0 c8_2_1 c8_2_2 c8_2_3 c8_2_4 c8_2_5 c8_2_6 c8_2_7 y8_2 c8_3_0 c8_3_1 c8_3_2 c8_3_3 c8_3_4 c8_3_5 c8_3_6 c8_3_7 y8_3 c8_4_0 c8_4_1 c8_4_2 c8_4_3 c8_4_4 c8_4_5 c8_4_6 c8_4_7 y8_4 c8_5_0 c8_5_1 c8_5_2 c8_5_3 c8_5_4 c8_5_5 c8_5_6 c8_5_7 y8_5 c8_6_0 c8_6_1 c8_6_2 c8_6_3 c8_6_4 c8_6_5 c8_6_6 c8_6_7 y8_6 c8_7_0 c8_7_1 c8_7_2 c8_7_3 c8_7_4 c8_7_5 c8_7_6 c8_7_7 y8_7 IEL_8 IER_8 IXL_8 IXR_8 IYL_8 IYR_8 IAL_8 IAR_8 ISL_8 ISR_8 IVL_8 IVR_8 IBL_8 IBR_8 IRL_8 IRR_8 F8 f9 u9_0_1 u9_2_1 u9_3_1 u9_4_1 u9_5_1 u9_6_1 u9_7_1
  go_wp2_with fail
  refine K.call (by with_reducible rfl) (by with_reducible rfl) (DrawQuotientFormula_any _ hn (K.Ext.size (by repeat' (first | with_reducible exact F9 | with_reducible refine K.Ext.setCell ?_ ?_ _ | with_reducible refine K.Ext.alloc ?_ _ | with_reducible refine K.Ext.drew ?_ | (dsimp only; omega) | omega | (simp; omega)))) (h.ext (by repeat' (first | with_reducible exact F9 | with_reducible refine K.Ext.setCell ?_ ?_ _ | with_reducible refine K.Ext.alloc ?_ _ | with_reducible refine K.Ext.drew ?_ | (dsimp only; omega) | omega | (simp; omega))))) ?_
  rintro e w10 ⟨⟨C, pC, qC, rfl, ⟨g1, g2⟩, ⟨g3, g4⟩, hC1, hC2⟩, f10⟩
  obtain ⟨oCL, kCL, rfl, _⟩ := id (hC1)
  have ICL_10 : K.ints w10 0 w10.heap.size (.slice oCL C.L.pw.length kCL) C.L.pw := (hC1).mono (Nat.zero_le _) (by omega)
  obtain ⟨oCR, kCR, rfl, _⟩ := id (hC2)
  have ICR_10 : K.ints w10 0 w10.heap.size (.slice oCR C.R.pw.length kCR) C.R.pw := (hC2).mono (Nat.zero_le _) (by omega)
  have u10_0_1 : w1.heap.size < w9.heap.size + 1 := (by omega)
  have u10_2_1 : w2.heap.size < w9.heap.size + 1 := (by omega)
  have u10_3_1 : w3.heap.size < w9.heap.size + 1 := (by omega)
  have u10_4_1 : w4.heap.size < w9.heap.size + 1 := (by omega)
  have u10_5_1 : w5.heap.size < w9.heap.size + 1 := (by omega)
  have u10_6_1 : w6.heap.size < w9.heap.size + 1 := (by omega)
  have u10_8_1 : w8.heap.size < w9.heap.size + 1 := (by omega)
  have F10 : K.Ext w w10 := K.Ext.trans (by repeat' (first | with_reducible exact F9 | with_reducible refine K.Ext.setCell ?_ ?_ _ | with_reducible refine K.Ext.alloc ?_ _ | with_reducible refine K.Ext.drew ?_ | (dsimp only; omega) | omega | (simp; omega))) f10
  have c10_0_0 : w10.cell? ⟨w1.heap.size, 0, none⟩ = some (.int .i64 E.L.dg) := f10.cell_of (by go_simp)
  have c10_0_1 : w10.cell? ⟨w1.heap.size, 1, none⟩ = some (.int .i64 E.L.tn) := f10.cell_of (by go_simp)
  have c10_0_2 : w10.cell? ⟨w1.heap.size, 2, none⟩ = some (.string E.L.nm) := f10.cell_of (by go_simp)
  have c10_0_3 : w10.cell? ⟨w1.heap.size, 3, none⟩ = some (.slice oEL E.L.pw.length kEL) := f10.cell_of (by go_simp)
  have c10_0_4 : w10.cell? ⟨w1.heap.size, 4, none⟩ = some (.int .i64 E.R.dg) := f10.cell_of (by go_simp)
  have c10_0_5 : w10.cell? ⟨w1.heap.size, 5, none⟩ = some (.int .i64 E.R.tn) := f10.cell_of (by go_simp)
  have c10_0_6 : w10.cell? ⟨w1.heap.size, 6, none⟩ = some (.string E.R.nm) := f10.cell_of (by go_simp)
  have c10_0_7 : w10.cell? ⟨w1.heap.size, 7, none⟩ = some (.slice oER E.R.pw.length kER) := f10.cell_of (by go_simp)
  have y10_0 : w1.heap.size < w10.heap.size := World.block_lt_of_cell? w10 _ c10_0_0
  have c10_2_0 : w10.cell? ⟨w2.heap.size, 0, none⟩ = some (.int .i64 ((Z.TimesFormula E F).1.L).dg) := f10.cell_of (by go_simp)
  have c10_2_1 : w10.cell? ⟨w2.heap.size, 1, none⟩ = some (.int .i64 ((Z.TimesFormula E F).1.L).tn) := f10.cell_of (by go_simp)
  have c10_2_2 : w10.cell? ⟨w2.heap.size, 2, none⟩ = some (.string ((Z.TimesFormula E F).1.L).nm) := f10.cell_of (by go_simp)
  have c10_2_3 : w10.cell? ⟨w2.heap.size, 3, none⟩ = some (.slice oXL ((Z.TimesFormula E F).1.L).pw.length kXL) := f10.cell_of (by go_simp)
  have c10_2_4 : w10.cell? ⟨w2.heap.size, 4, none⟩ = some (.int .i64 ((Z.TimesFormula E F).1.R).dg) := f10.cell_of (by go_simp)
  have c10_2_5 : w10.cell? ⟨w2.heap.size, 5, none⟩ = some (.int .i64 ((Z.TimesFormula E F).1.R).tn) := f10.cell_of (by go_simp)
  have c10_2_6 : w10.cell? ⟨w2.heap.size, 6, none⟩ = some (.string ((Z.TimesFormula E F).1.R).nm) := f10.cell_of (by go_simp)
  have c10_2_7 : w10.cell? ⟨w2.heap.size, 7, none⟩ = some (.slice oXR ((Z.TimesFormula E F).1.R).pw.length kXR) := f10.cell_of (by go_simp)
  have y10_2 : w2.heap.size < w10.heap.size := World.block_lt_of_cell? w10 _ c10_2_0
  have c10_3_0 : w10.cell? ⟨w3.heap.size, 0, none⟩ = some (.int .i64 ((Z.TimesFormula E F).1.L).dg) := f10.cell_of (by go_simp)
  have c10_3_1 : w10.cell? ⟨w3.heap.size, 1, none⟩ = some (.int .i64 ((Z.TimesFormula E F).1.L).tn) := f10.cell_of (by go_simp)
  have c10_3_2 : w10.cell? ⟨w3.heap.size, 2, none⟩ = some (.string ((Z.TimesFormula E F).1.L).nm) := f10.cell_of (by go_simp)
  have c10_3_3 : w10.cell? ⟨w3.heap.size, 3, none⟩ = some (.slice oYL ((Z.TimesFormula E F).1.L).pw.length kYL) := f10.cell_of (by go_simp)
  have c10_3_4 : w10.cell? ⟨w3.heap.size, 4, none⟩ = some (.int .i64 ((Z.TimesFormula E F).1.R).dg) := f10.cell_of (by go_simp)
  have c10_3_5 : w10.cell? ⟨w3.heap.size, 5, none⟩ = some (.int .i64 ((Z.TimesFormula E F).1.R).tn) := f10.cell_of (by go_simp)
  have c10_3_6 : w10.cell? ⟨w3.heap.size, 6, none⟩ = some (.string ((Z.TimesFormula E F).1.R).nm) := f10.cell_of (by go_simp)
  have c10_3_7 : w10.cell? ⟨w3.heap.size, 7, none⟩ = some (.slice oYR ((Z.TimesFormula E F).1.R).pw.length kYR) := f10.cell_of (by go_simp)
  have y10_3 : w3.heap.size < w10.heap.size := World.block_lt_of_cell? w10 _ c10_3_0
  have c10_4_0 : w10.cell? ⟨w4.heap.size, 0, none⟩ = some (.int .i64 A.L.dg) := f10.cell_of (by go_simp)
  have c10_4_1 : w10.cell? ⟨w4.heap.size, 1, none⟩ = some (.int .i64 A.L.tn) := f10.cell_of (by go_simp)
  have c10_4_2 : w10.cell? ⟨w4.heap.size, 2, none⟩ = some (.string A.L.nm) := f10.cell_of (by go_simp)
  have c10_4_3 : w10.cell? ⟨w4.heap.size, 3, none⟩ = some (.slice oAL A.L.pw.length kAL) := f10.cell_of (by go_simp)
  have c10_4_4 : w10.cell? ⟨w4.heap.size, 4, none⟩ = some (.int .i64 A.R.dg) := f10.cell_of (by go_simp)
  have c10_4_5 : w10.cell? ⟨w4.heap.size, 5, none⟩ = some (.int .i64 A.R.tn) := f10.cell_of (by go_simp)
  have c10_4_6 : w10.cell? ⟨w4.heap.size, 6, none⟩ = some (.string A.R.nm) := f10.cell_of (by go_simp)
  have c10_4_7 : w10.cell? ⟨w4.heap.size, 7, none⟩ = some (.slice oAR A.R.pw.length kAR) := f10.cell_of (by go_simp)
  have y10_4 : w4.heap.size < w10.heap.size := World.block_lt_of_cell? w10 _ c10_4_0
  have c10_5_0 : w10.cell? ⟨w5.heap.size, 0, none⟩ = some (.int .i64 ((Z.SwapSides A).1.L).dg) := f10.cell_of (by go_simp)
  have c10_5_1 : w10.cell? ⟨w5.heap.size, 1, none⟩ = some (.int .i64 ((Z.SwapSides A).1.L).tn) := f10.cell_of (by go_simp)
  have c10_5_2 : w10.cell? ⟨w5.heap.size, 2, none⟩ = some (.string ((Z.SwapSides A).1.L).nm) := f10.cell_of (by go_simp)
  have c10_5_3 : w10.cell? ⟨w5.heap.size, 3, none⟩ = some (.slice oSL ((Z.SwapSides A).1.L).pw.length kSL) := f10.cell_of (by go_simp)
  have c10_5_4 : w10.cell? ⟨w5.heap.size, 4, none⟩ = some (.int .i64 ((Z.SwapSides A).1.R).dg) := f10.cell_of (by go_simp)
  have c10_5_5 : w10.cell? ⟨w5.heap.size, 5, none⟩ = some (.int .i64 ((Z.SwapSides A).1.R).tn) := f10.cell_of (by go_simp)
  have c10_5_6 : w10.cell? ⟨w5.heap.size, 6, none⟩ = some (.string ((Z.SwapSides A).1.R).nm) := f10.cell_of (by go_simp)
  have c10_5_7 : w10.cell? ⟨w5.heap.size, 7, none⟩ = some (.slice oSR ((Z.SwapSides A).1.R).pw.length kSR) := f10.cell_of (by go_simp)
  have y10_5 : w5.heap.size < w10.heap.size := World.block_lt_of_cell? w10 _ c10_5_0
  have c10_6_0 : w10.cell? ⟨w6.heap.size, 0, none⟩ = some (.int .i64 ((Z.SwapSides A).1.L).dg) := f10.cell_of (by go_simp)
  have c10_6_1 : w10.cell? ⟨w6.heap.size, 1, none⟩ = some (.int .i64 ((Z.SwapSides A).1.L).tn) := f10.cell_of (by go_simp)
  have c10_6_2 : w10.cell? ⟨w6.heap.size, 2, none⟩ = some (.string ((Z.SwapSides A).1.L).nm) := f10.cell_of (by go_simp)
  have c10_6_3 : w10.cell? ⟨w6.heap.size, 3, none⟩ = some (.slice oVL ((Z.SwapSides A).1.L).pw.length kVL) := f10.cell_of (by go_simp)
  have c10_6_4 : w10.cell? ⟨w6.heap.size, 4, none⟩ = some (.int .i64 ((Z.SwapSides A).1.R).dg) := f10.cell_of (by go_simp)
  have c10_6_5 : w10.cell? ⟨w6.heap.size, 5, none⟩ = some (.int .i64 ((Z.SwapSides A).1.R).tn) := f10.cell_of (by go_simp)
  have c10_6_6 : w10.cell? ⟨w6.heap.size, 6, none⟩ = some (.string ((Z.SwapSides A).1.R).nm) := f10.cell_of (by go_simp)
  have c10_6_7 : w10.cell? ⟨w6.heap.size, 7, none⟩ = some (.slice oVR ((Z.SwapSides A).1.R).pw.length kVR) := f10.cell_of (by go_simp)
  have y10_6 : w6.heap.size < w10.heap.size := World.block_lt_of_cell? w10 _ c10_6_0
  have c10_8_0 : w10.cell? ⟨w8.heap.size, 0, none⟩ = some (.int .i64 ((Z.RaiseSides B c).1.L).dg) := f10.cell_of (by go_simp)
  have c10_8_1 : w10.cell? ⟨w8.heap.size, 1, none⟩ = some (.int .i64 ((Z.RaiseSides B c).1.L).tn) := f10.cell_of (by go_simp)
  have c10_8_2 : w10.cell? ⟨w8.heap.size, 2, none⟩ = some (.string ((Z.RaiseSides B c).1.L).nm) := f10.cell_of (by go_simp)
  have c10_8_3 : w10.cell? ⟨w8.heap.size, 3, none⟩ = some (.slice oRL ((Z.RaiseSides B c).1.L).pw.length kRL) := f10.cell_of (by go_simp)
  have c10_8_4 : w10.cell? ⟨w8.heap.size, 4, none⟩ = some (.int .i64 ((Z.RaiseSides B c).1.R).dg) := f10.cell_of (by go_simp)
  have c10_8_5 : w10.cell? ⟨w8.heap.size, 5, none⟩ = some (.int .i64 ((Z.RaiseSides B c).1.R).tn) := f10.cell_of (by go_simp)
  have c10_8_6 : w10.cell? ⟨w8.heap.size, 6, none⟩ = some (.string ((Z.RaiseSides B c).1.R).nm) := f10.cell_of (by go_simp)
  have c10_8_7 : w10.cell? ⟨w8.heap.size, 7, none⟩ = some (.slice oRR ((Z.RaiseSides B c).1.R).pw.length kRR) := f10.cell_of (by go_simp)
  have y10_8 : w8.heap.size < w10.heap.size := World.block_lt_of_cell? w10 _ c10_8_0
  have c10_9_0 : w10.cell? ⟨w9.heap.size, 0, none⟩ = some (.int .i64 ((Z.RaiseSides B c).1.L).dg) := f10.cell_of (by go_simp)
  have c10_9_1 : w10.cell? ⟨w9.heap.size, 1, none⟩ = some (.int .i64 ((Z.RaiseSides B c).1.L).tn) := f10.cell_of (by go_simp)
  have c10_9_2 : w10.cell? ⟨w9.heap.size, 2, none⟩ = some (.string ((Z.RaiseSides B c).1.L).nm) := f10.cell_of (by go_simp)
  have c10_9_3 : w10.cell? ⟨w9.heap.size, 3, none⟩ = some (.slice oUL ((Z.RaiseSides B c).1.L).pw.length kUL) := f10.cell_of (by go_simp)
  have c10_9_4 : w10.cell? ⟨w9.heap.size, 4, none⟩ = some (.int .i64 ((Z.RaiseSides B c).1.R).dg) := f10.cell_of (by go_simp)
  have c10_9_5 : w10.cell? ⟨w9.heap.size, 5, none⟩ = some (.int .i64 ((Z.RaiseSides B c).1.R).tn) := f10.cell_of (by go_simp)
  have c10_9_6 : w10.cell? ⟨w9.heap.size, 6, none⟩ = some (.string ((Z.RaiseSides B c).1.R).nm) := f10.cell_of (by go_simp)
  have c10_9_7 : w10.cell? ⟨w9.heap.size, 7, none⟩ = some (.slice oUR ((Z.RaiseSides B c).1.R).pw.length kUR) := f10.cell_of (by go_simp)
  have y10_9 : w9.heap.size < w10.heap.size := World.block_lt_of_cell? w10 _ c10_9_0
  have IEL_10 := K.ints.ext (show K.ints _ 0 w1.heap.size (.slice oEL E.L.pw.length kEL) E.L.pw from by with_reducible repeat' (first | exact IEL_9 | refine K.ints.alloc ?_ _ | refine K.ints.drew ?_ | refine K.ints.set ?_ _ ?_ _ | (dsimp only; omega) | omega | (simp; done) | (simp; omega))) f10
  have IER_10 := K.ints.ext (show K.ints _ 0 w1.heap.size (.slice oER E.R.pw.length kER) E.R.pw from by with_reducible repeat' (first | exact IER_9 | refine K.ints.alloc ?_ _ | refine K.ints.drew ?_ | refine K.ints.set ?_ _ ?_ _ | (dsimp only; omega) | omega | (simp; done) | (simp; omega))) f10
  have IXL_10 := K.ints.ext (show K.ints _ 0 w2.heap.size (.slice oXL ((Z.TimesFormula E F).1.L).pw.length kXL) ((Z.TimesFormula E F).1.L).pw from by with_reducible repeat' (first | exact IXL_9 | refine K.ints.alloc ?_ _ | refine K.ints.drew ?_ | refine K.ints.set ?_ _ ?_ _ | (dsimp only; omega) | omega | (simp; done) | (simp; omega))) f10
  have IXR_10 := K.ints.ext (show K.ints _ 0 w2.heap.size (.slice oXR ((Z.TimesFormula E F).1.R).pw.length kXR) ((Z.TimesFormula E F).1.R).pw from by with_reducible repeat' (first | exact IXR_9 | refine K.ints.alloc ?_ _ | refine K.ints.drew ?_ | refine K.ints.set ?_ _ ?_ _ | (dsimp only; omega) | omega | (simp; done) | (simp; omega))) f10
  have IYL_10 := K.ints.ext (show K.ints _ 0 w3.heap.size (.slice oYL ((Z.TimesFormula E F).1.L).pw.length kYL) ((Z.TimesFormula E F).1.L).pw from by with_reducible repeat' (first | exact IYL_9 | refine K.ints.alloc ?_ _ | refine K.ints.drew ?_ | refine K.ints.set ?_ _ ?_ _ | (dsimp only; omega) | omega | (simp; done) | (simp; omega))) f10
  have IYR_10 := K.ints.ext (show K.ints _ 0 w3.heap.size (.slice oYR ((Z.TimesFormula E F).1.R).pw.length kYR) ((Z.TimesFormula E F).1.R).pw from by with_reducible repeat' (first | exact IYR_9 | refine K.ints.alloc ?_ _ | refine K.ints.drew ?_ | refine K.ints.set ?_ _ ?_ _ | (dsimp only; omega) | omega | (simp; done) | (simp; omega))) f10
  have IAL_10 := K.ints.ext (show K.ints _ 0 w4.heap.size (.slice oAL A.L.pw.length kAL) A.L.pw from by with_reducible repeat' (first | exact IAL_9 | refine K.ints.alloc ?_ _ | refine K.ints.drew ?_ | refine K.ints.set ?_ _ ?_ _ | (dsimp only; omega) | omega | (simp; done) | (simp; omega))) f10
  have IAR_10 := K.ints.ext (show K.ints _ 0 w4.heap.size (.slice oAR A.R.pw.length kAR) A.R.pw from by with_reducible repeat' (first | exact IAR_9 | refine K.ints.alloc ?_ _ | refine K.ints.drew ?_ | refine K.ints.set ?_ _ ?_ _ | (dsimp only; omega) | omega | (simp; done) | (simp; omega))) f10
  have ISL_10 := K.ints.ext (show K.ints _ 0 w5.heap.size (.slice oSL ((Z.SwapSides A).1.L).pw.length kSL) ((Z.SwapSides A).1.L).pw from by with_reducible repeat' (first | exact ISL_9 | refine K.ints.alloc ?_ _ | refine K.ints.drew ?_ | refine K.ints.set ?_ _ ?_ _ | (dsimp only; omega) | omega | (simp; done) | (simp; omega))) f10
  have ISR_10 := K.ints.ext (show K.ints _ 0 w5.heap.size (.slice oSR ((Z.SwapSides A).1.R).pw.length kSR) ((Z.SwapSides A).1.R).pw from by with_reducible repeat' (first | exact ISR_9 | refine K.ints.alloc ?_ _ | refine K.ints.drew ?_ | refine K.ints.set ?_ _ ?_ _ | (dsimp only; omega) | omega | (simp; done) | (simp; omega))) f10
  have IVL_10 := K.ints.ext (show K.ints _ 0 w6.heap.size (.slice oVL ((Z.SwapSides A).1.L).pw.length kVL) ((Z.SwapSides A).1.L).pw from by with_reducible repeat' (first | exact IVL_9 | refine K.ints.alloc ?_ _ | refine K.ints.drew ?_ | refine K.ints.set ?_ _ ?_ _ | (dsimp only; omega) | omega | (simp; done) | (simp; omega))) f10
  have IVR_10 := K.ints.ext (show K.ints _ 0 w6.heap.size (.slice oVR ((Z.SwapSides A).1.R).pw.length kVR) ((Z.SwapSides A).1.R).pw from by with_reducible repeat' (first | exact IVR_9 | refine K.ints.alloc ?_ _ | refine K.ints.drew ?_ | refine K.ints.set ?_ _ ?_ _ | (dsimp only; omega) | omega | (simp; done) | (simp; omega))) f10
  have IRL_10 := K.ints.ext (show K.ints _ 0 w8.heap.size (.slice oRL ((Z.RaiseSides B c).1.L).pw.length kRL) ((Z.RaiseSides B c).1.L).pw from by with_reducible repeat' (first | exact IRL_9 | refine K.ints.alloc ?_ _ | refine K.ints.drew ?_ | refine K.ints.set ?_ _ ?_ _ | (dsimp only; omega) | omega | (simp; done) | (simp; omega))) f10
  have IRR_10 := K.ints.ext (show K.ints _ 0 w8.heap.size (.slice oRR ((Z.RaiseSides B c).1.R).pw.length kRR) ((Z.RaiseSides B c).1.R).pw from by with_reducible repeat' (first | exact IRR_9 | refine K.ints.alloc ?_ _ | refine K.ints.drew ?_ | refine K.ints.set ?_ _ ?_ _ | (dsimp only; omega) | omega | (simp; done) | (simp; omega))) f10
  have IUL_10 := K.ints.ext (show K.ints _ 0 w9.heap.size (.slice oUL ((Z.RaiseSides B c).1.L).pw.length kUL) ((Z.RaiseSides B c).1.L).pw from by with_reducible repeat' (first | exact IUL_9 | refine K.ints.alloc ?_ _ | refine K.ints.drew ?_ | refine K.ints.set ?_ _ ?_ _ | (dsimp only; omega) | omega | (simp; done) | (simp; omega))) f10
  have IUR_10 := K.ints.ext (show K.ints _ 0 w9.heap.size (.slice oUR ((Z.RaiseSides B c).1.R).pw.length kUR) ((Z.RaiseSides B c).1.R).pw from by with_reducible repeat' (first | exact IUR_9 | refine K.ints.alloc ?_ _ | refine K.ints.drew ?_ | refine K.ints.set ?_ _ ?_ _ | (dsimp only; omega) | omega | (simp; done) | (simp; omega))) f10
  clear c9_0_0 c9_0_1 c9_0_2 c9_0_3 c9_0_4 c9_0_5 c9_0_6 c9_0_7 y9_0 c9_2_0 c9_2_1 c9_2_2 c9_2_3 c9_2_4 c9_2_5 c9_2_6 c9_2_7 y9_2 c9_3_0 c9_3_1 c9_3_2 c9_3_3 c9_3_4 c9_3_5 c9_3_6 c9_3_7 y9_3 c9_4_0 c9_4_1 c9_4_2 c9_4_3 c9_4_4 c9_4_5 c9_4_6 c9_4_7 y9_4 c9_5_0 c9_5_1 c9_5_2 c9_5_3 c9_5_4 c9_5_5 c9_5_6 c9_5_7 y9_5 c9_6_0 c9_6_1 c9_6_2 c9_6_3 c9_6_4 c9_6_5 c9_6_6 c9_6_7 y9_6 c9_7_0 c9_7_1 c9_7_2 c9_7_3 c9_7_4 c9_7_5 c9_7_6 c9_7_7 y9_7 c9_8_0 c9_8_1 c9_8_2 c9_8_3 c9_8_4 c9_8_5 c9_8_6 c9_8_7 y9_8 IEL_9 IER_9 IXL_9 IXR_9 IYL_9 IYR_9 IAL_9 IAR_9 ISL_9 ISR_9 IVL_9 IVR_9 IRL_9 IRR_9 IUL_9 IUR_9 F9 f10 u10_0_1 u10_2_1 u10_3_1 u10_4_1 u10_5_1 u10_6_1 u10_8_1
  go_wp2_with fail
  refine K.call (by with_reducible rfl) (by with_reducible rfl) (impl_QuotientFormula C _ (by omega) (by omega) (by omega) (by omega) (show K.ints _ 0 w10.heap.size (.slice oCL C.L.pw.length kCL) C.L.pw from by with_reducible repeat' (first | exact ICL_10 | refine K.ints.alloc ?_ _ | refine K.ints.drew ?_ | refine K.ints.set ?_ _ ?_ _ | (dsimp only; omega) | omega | (simp; done) | (simp; omega))) (show K.ints _ 0 w10.heap.size (.slice oCR C.R.pw.length kCR) C.R.pw from by with_reducible repeat' (first | exact ICR_10 | refine K.ints.alloc ?_ _ | refine K.ints.drew ?_ | refine K.ints.set ?_ _ ?_ _ | (dsimp only; omega) | omega | (simp; done) | (simp; omega)))) ?_
  rintro e w11 ⟨⟨pQ, rfl, hQ⟩, f11⟩
  obtain ⟨oQ, kQ, rfl, _⟩ := id (K.own.ints hQ)
  have IQ_11 : K.ints w11 0 w11.heap.size (.slice oQ ((Z.QuotientFormula C).1).pw.length kQ) ((Z.QuotientFormula C).1).pw := (K.own.ints hQ).mono (Nat.zero_le _) (by omega)
  have u11_0_1 : w1.heap.size < w10.heap.size + 1 := (by omega)
  have u11_2_1 : w2.heap.size < w10.heap.size + 1 := (by omega)
  have u11_3_1 : w3.heap.size < w10.heap.size + 1 := (by omega)
  have u11_4_1 : w4.heap.size < w10.heap.size + 1 := (by omega)
  have u11_5_1 : w5.heap.size < w10.heap.size + 1 := (by omega)
  have u11_6_1 : w6.heap.size < w10.heap.size + 1 := (by omega)
  have u11_8_1 : w8.heap.size < w10.heap.size + 1 := (by omega)
  have u11_9_1 : w9.heap.size < w10.heap.size + 1 := (by omega)
  have F11 : K.Ext w w11 := K.Ext.trans (by repeat' (first | with_reducible exact F10 | with_reducible refine K.Ext.setCell ?_ ?_ _ | with_reducible refine K.Ext.alloc ?_ _ | with_reducible refine K.Ext.drew ?_ | (dsimp only; omega) | omega | (simp; omega))) f11
  have c11_0_0 : w11.cell? ⟨w1.heap.size, 0, none⟩ = some (.int .i64 E.L.dg) := f11.cell_of (by go_simp)
  have c11_0_1 : w11.cell? ⟨w1.heap.size, 1, none⟩ = some (.int .i64 E.L.tn) := f11.cell_of (by go_simp)
  have c11_0_2 : w11.cell? ⟨w1.heap.size, 2, none⟩ = some (.string E.L.nm) := f11.cell_of (by go_simp)
  have c11_0_3 : w11.cell? ⟨w1.heap.size, 3, none⟩ = some (.slice oEL E.L.pw.length kEL) := f11.cell_of (by go_simp)
  have c11_0_4 : w11.cell? ⟨w1.heap.size, 4, none⟩ = some (.int .i64 E.R.dg) := f11.cell_of (by go_simp)
  have c11_0_5 : w11.cell? ⟨w1.heap.size, 5, none⟩ = some (.int .i64 E.R.tn) := f11.cell_of (by go_simp)
  have c11_0_6 : w11.cell? ⟨w1.heap.size, 6, none⟩ = some (.string E.R.nm) := f11.cell_of (by go_simp)
  have c11_0_7 : w11.cell? ⟨w1.heap.size, 7, none⟩ = some (.slice oER E.R.pw.length kER) := f11.cell_of (by go_simp)
  have y11_0 : w1.heap.size < w11.heap.size := World.block_lt_of_cell? w11 _ c11_0_0
  have c11_2_0 : w11.cell? ⟨w2.heap.size, 0, none⟩ = some (.int .i64 ((Z.TimesFormula E F).1.L).dg) := f11.cell_of (by go_simp)
  have c11_2_1 : w11.cell? ⟨w2.heap.size, 1, none⟩ = some (.int .i64 ((Z.TimesFormula E F).1.L).tn) := f11.cell_of (by go_simp)
  have c11_2_2 : w11.cell? ⟨w2.heap.size, 2, none⟩ = some (.string ((Z.TimesFormula E F).1.L).nm) := f11.cell_of (by go_simp)
  have c11_2_3 : w11.cell? ⟨w2.heap.size, 3, none⟩ = some (.slice oXL ((Z.TimesFormula E F).1.L).pw.length kXL) := f11.cell_of (by go_simp)
  have c11_2_4 : w11.cell? ⟨w2.heap.size, 4, none⟩ = some (.int .i64 ((Z.TimesFormula E F).1.R).dg) := f11.cell_of (by go_simp)
  have c11_2_5 : w11.cell? ⟨w2.heap.size, 5, none⟩ = some (.int .i64 ((Z.TimesFormula E F).1.R).tn) := f11.cell_of (by go_simp)
  have c11_2_6 : w11.cell? ⟨w2.heap.size, 6, none⟩ = some (.string ((Z.TimesFormula E F).1.R).nm) := f11.cell_of (by go_simp)
  have c11_2_7 : w11.cell? ⟨w2.heap.size, 7, none⟩ = some (.slice oXR ((Z.TimesFormula E F).1.R).pw.length kXR) := f11.cell_of (by go_simp)
  have y11_2 : w2.heap.size < w11.heap.size := World.block_lt_of_cell? w11 _ c11_2_0
  have c11_3_0 : w11.cell? ⟨w3.heap.size, 0, none⟩ = some (.int .i64 ((Z.TimesFormula E F).1.L).dg) := f11.cell_of (by go_simp)
  have c11_3_1 : w11.cell? ⟨w3.heap.size, 1, none⟩ = some (.int .i64 ((Z.TimesFormula E F).1.L).tn) := f11.cell_of (by go_simp)
  have c11_3_2 : w11.cell? ⟨w3.heap.size, 2, none⟩ = some (.string ((Z.TimesFormula E F).1.L).nm) := f11.cell_of (by go_simp)
  have c11_3_3 : w11.cell? ⟨w3.heap.size, 3, none⟩ = some (.slice oYL ((Z.TimesFormula E F).1.L).pw.length kYL) := f11.cell_of (by go_simp)
  have c11_3_4 : w11.cell? ⟨w3.heap.size, 4, none⟩ = some (.int .i64 ((Z.TimesFormula E F).1.R).dg) := f11.cell_of (by go_simp)
  have c11_3_5 : w11.cell? ⟨w3.heap.size, 5, none⟩ = some (.int .i64 ((Z.TimesFormula E F).1.R).tn) := f11.cell_of (by go_simp)
  have c11_3_6 : w11.cell? ⟨w3.heap.size, 6, none⟩ = some (.string ((Z.TimesFormula E F).1.R).nm) := f11.cell_of (by go_simp)
  have c11_3_7 : w11.cell? ⟨w3.heap.size, 7, none⟩ = some (.slice oYR ((Z.TimesFormula E F).1.R).pw.length kYR) := f11.cell_of (by go_simp)
  have y11_3 : w3.heap.size < w11.heap.size := World.block_lt_of_cell? w11 _ c11_3_0
  have c11_4_0 : w11.cell? ⟨w4.heap.size, 0, none⟩ = some (.int .i64 A.L.dg) := f11.cell_of (by go_simp)
  have c11_4_1 : w11.cell? ⟨w4.heap.size, 1, none⟩ = some (.int .i64 A.L.tn) := f11.cell_of (by go_simp)
  have c11_4_2 : w11.cell? ⟨w4.heap.size, 2, none⟩ = some (.string A.L.nm) := f11.cell_of (by go_simp)
  have c11_4_3 : w11.cell? ⟨w4.heap.size, 3, none⟩ = some (.slice oAL A.L.pw.length kAL) := f11.cell_of (by go_simp)
  have c11_4_4 : w11.cell? ⟨w4.heap.size, 4, none⟩ = some (.int .i64 A.R.dg) := f11.cell_of (by go_simp)
  have c11_4_5 : w11.cell? ⟨w4.heap.size, 5, none⟩ = some (.int .i64 A.R.tn) := f11.cell_of (by go_simp)
  have c11_4_6 : w11.cell? ⟨w4.heap.size, 6, none⟩ = some (.string A.R.nm) := f11.cell_of (by go_simp)
  have c11_4_7 : w11.cell? ⟨w4.heap.size, 7, none⟩ = some (.slice oAR A.R.pw.length kAR) := f11.cell_of (by go_simp)
  have y11_4 : w4.heap.size < w11.heap.size := World.block_lt_of_cell? w11 _ c11_4_0
  have c11_5_0 : w11.cell? ⟨w5.heap.size, 0, none⟩ = some (.int .i64 ((Z.SwapSides A).1.L).dg) := f11.cell_of (by go_simp)
  have c11_5_1 : w11.cell? ⟨w5.heap.size, 1, none⟩ = some (.int .i64 ((Z.SwapSides A).1.L).tn) := f11.cell_of (by go_simp)
  have c11_5_2 : w11.cell? ⟨w5.heap.size, 2, none⟩ = some (.string ((Z.SwapSides A).1.L).nm) := f11.cell_of (by go_simp)
  have c11_5_3 : w11.cell? ⟨w5.heap.size, 3, none⟩ = some (.slice oSL ((Z.SwapSides A).1.L).pw.length kSL) := f11.cell_of (by go_simp)
  have c11_5_4 : w11.cell? ⟨w5.heap.size, 4, none⟩ = some (.int .i64 ((Z.SwapSides A).1.R).dg) := f11.cell_of (by go_simp)
  have c11_5_5 : w11.cell? ⟨w5.heap.size, 5, none⟩ = some (.int .i64 ((Z.SwapSides A).1.R).tn) := f11.cell_of (by go_simp)
  have c11_5_6 : w11.cell? ⟨w5.heap.size, 6, none⟩ = some (.string ((Z.SwapSides A).1.R).nm) := f11.cell_of (by go_simp)
  have c11_5_7 : w11.cell? ⟨w5.heap.size, 7, none⟩ = some (.slice oSR ((Z.SwapSides A).1.R).pw.length kSR) := f11.cell_of (by go_simp)
  have y11_5 : w5.heap.size < w11.heap.size := World.block_lt_of_cell? w11 _ c11_5_0
  have c11_6_0 : w11.cell? ⟨w6.heap.size, 0, none⟩ = some (.int .i64 ((Z.SwapSides A).1.L).dg) := f11.cell_of (by go_simp)
  have c11_6_1 : w11.cell? ⟨w6.heap.size, 1, none⟩ = some (.int .i64 ((Z.SwapSides A).1.L).tn) := f11.cell_of (by go_simp)
  have c11_6_2 : w11.cell? ⟨w6.heap.size, 2, none⟩ = some (.string ((Z.SwapSides A).1.L).nm) := f11.cell_of (by go_simp)
  have c11_6_3 : w11.cell? ⟨w6.heap.size, 3, none⟩ = some (.slice oVL ((Z.SwapSides A).1.L).pw.length kVL) := f11.cell_of (by go_simp)
  have c11_6_4 : w11.cell? ⟨w6.heap.size, 4, none⟩ = some (.int .i64 ((Z.SwapSides A).1.R).dg) := f11.cell_of (by go_simp)
  have c11_6_5 : w11.cell? ⟨w6.heap.size, 5, none⟩ = some (.int .i64 ((Z.SwapSides A).1.R).tn) := f11.cell_of (by go_simp)
  have c11_6_6 : w11.cell? ⟨w6.heap.size, 6, none⟩ = some (.string ((Z.SwapSides A).1.R).nm) := f11.cell_of (by go_simp)
  have c11_6_7 : w11.cell? ⟨w6.heap.size, 7, none⟩ = some (.slice oVR ((Z.SwapSides A).1.R).pw.length kVR) := f11.cell_of (by go_simp)
  have y11_6 : w6.heap.size < w11.heap.size := World.block_lt_of_cell? w11 _ c11_6_0
  have c11_8_0 : w11.cell? ⟨w8.heap.size, 0, none⟩ = some (.int .i64 ((Z.RaiseSides B c).1.L).dg) := f11.cell_of (by go_simp)
  have c11_8_1 : w11.cell? ⟨w8.heap.size, 1, none⟩ = some (.int .i64 ((Z.RaiseSides B c).1.L).tn) := f11.cell_of (by go_simp)
  have c11_8_2 : w11.cell? ⟨w8.heap.size, 2, none⟩ = some (.string ((Z.RaiseSides B c).1.L).nm) := f11.cell_of (by go_simp)
  have c11_8_3 : w11.cell? ⟨w8.heap.size, 3, none⟩ = some (.slice oRL ((Z.RaiseSides B c).1.L).pw.length kRL) := f11.cell_of (by go_simp)
  have c11_8_4 : w11.cell? ⟨w8.heap.size, 4, none⟩ = some (.int .i64 ((Z.RaiseSides B c).1.R).dg) := f11.cell_of (by go_simp)
  have c11_8_5 : w11.cell? ⟨w8.heap.size, 5, none⟩ = some (.int .i64 ((Z.RaiseSides B c).1.R).tn) := f11.cell_of (by go_simp)
  have c11_8_6 : w11.cell? ⟨w8.heap.size, 6, none⟩ = some (.string ((Z.RaiseSides B c).1.R).nm) := f11.cell_of (by go_simp)
  have c11_8_7 : w11.cell? ⟨w8.heap.size, 7, none⟩ = some (.slice oRR ((Z.RaiseSides B c).1.R).pw.length kRR) := f11.cell_of (by go_simp)
  have y11_8 : w8.heap.size < w11.heap.size := World.block_lt_of_cell? w11 _ c11_8_0
  have c11_9_0 : w11.cell? ⟨w9.heap.size, 0, none⟩ = some (.int .i64 ((Z.RaiseSides B c).1.L).dg) := f11.cell_of (by go_simp)
  have c11_9_1 : w11.cell? ⟨w9.heap.size, 1, none⟩ = some (.int .i64 ((Z.RaiseSides B c).1.L).tn) := f11.cell_of (by go_simp)
  have c11_9_2 : w11.cell? ⟨w9.heap.size, 2, none⟩ = some (.string ((Z.RaiseSides B c).1.L).nm) := f11.cell_of (by go_simp)
  have c11_9_3 : w11.cell? ⟨w9.heap.size, 3, none⟩ = some (.slice oUL ((Z.RaiseSides B c).1.L).pw.length kUL) := f11.cell_of (by go_simp)
  have c11_9_4 : w11.cell? ⟨w9.heap.size, 4, none⟩ = some (.int .i64 ((Z.RaiseSides B c).1.R).dg) := f11.cell_of (by go_simp)
  have c11_9_5 : w11.cell? ⟨w9.heap.size, 5, none⟩ = some (.int .i64 ((Z.RaiseSides B c).1.R).tn) := f11.cell_of (by go_simp)
  have c11_9_6 : w11.cell? ⟨w9.heap.size, 6, none⟩ = some (.string ((Z.RaiseSides B c).1.R).nm) := f11.cell_of (by go_simp)
  have c11_9_7 : w11.cell? ⟨w9.heap.size, 7, none⟩ = some (.slice oUR ((Z.RaiseSides B c).1.R).pw.length kUR) := f11.cell_of (by go_simp)
  have y11_9 : w9.heap.size < w11.heap.size := World.block_lt_of_cell? w11 _ c11_9_0
  have c11_10_0 : w11.cell? ⟨w10.heap.size, 0, none⟩ = some (.int .i64 C.L.dg) := f11.cell_of (by go_simp)
  have c11_10_1 : w11.cell? ⟨w10.heap.size, 1, none⟩ = some (.int .i64 C.L.tn) := f11.cell_of (by go_simp)
  have c11_10_2 : w11.cell? ⟨w10.heap.size, 2, none⟩ = some (.string C.L.nm) := f11.cell_of (by go_simp)
  have c11_10_3 : w11.cell? ⟨w10.heap.size, 3, none⟩ = some (.slice oCL C.L.pw.length kCL) := f11.cell_of (by go_simp)
  have c11_10_4 : w11.cell? ⟨w10.heap.size, 4, none⟩ = some (.int .i64 C.R.dg) := f11.cell_of (by go_simp)
  have c11_10_5 : w11.cell? ⟨w10.heap.size, 5, none⟩ = some (.int .i64 C.R.tn) := f11.cell_of (by go_simp)
  have c11_10_6 : w11.cell? ⟨w10.heap.size, 6, none⟩ = some (.string C.R.nm) := f11.cell_of (by go_simp)
  have c11_10_7 : w11.cell? ⟨w10.heap.size, 7, none⟩ = some (.slice oCR C.R.pw.length kCR) := f11.cell_of (by go_simp)
  have y11_10 : w10.heap.size < w11.heap.size := World.block_lt_of_cell? w11 _ c11_10_0
  have IEL_11 := K.ints.ext (show K.ints _ 0 w1.heap.size (.slice oEL E.L.pw.length kEL) E.L.pw from by with_reducible repeat' (first | exact IEL_10 | refine K.ints.alloc ?_ _ | refine K.ints.drew ?_ | refine K.ints.set ?_ _ ?_ _ | (dsimp only; omega) | omega | (simp; done) | (simp; omega))) f11
  have IER_11 := K.ints.ext (show K.ints _ 0 w1.heap.size (.slice oER E.R.pw.length kER) E.R.pw from by with_reducible repeat' (first | exact IER_10 | refine K.ints.alloc ?_ _ | refine K.ints.drew ?_ | refine K.ints.set ?_ _ ?_ _ | (dsimp only; omega) | omega | (simp; done) | (simp; omega))) f11
  have IXL_11 := K.ints.ext (show K.ints _ 0 w2.heap.size (.slice oXL ((Z.TimesFormula E F).1.L).pw.length kXL) ((Z.TimesFormula E F).1.L).pw from by with_reducible repeat' (first | exact IXL_10 | refine K.ints.alloc ?_ _ | refine K.ints.drew ?_ | refine K.ints.set ?_ _ ?_ _ | (dsimp only; omega) | omega | (simp; done) | (simp; omega))) f11
  have IXR_11 := K.ints.ext (show K.ints _ 0 w2.heap.size (.slice oXR ((Z.TimesFormula E F).1.R).pw.length kXR) ((Z.TimesFormula E F).1.R).pw from by with_reducible repeat' (first | exact IXR_10 | refine K.ints.alloc ?_ _ | refine K.ints.drew ?_ | refine K.ints.set ?_ _ ?_ _ | (dsimp only; omega) | omega | (simp; done) | (simp; omega))) f11
  have IYL_11 := K.ints.ext (show K.ints _ 0 w3.heap.size (.slice oYL ((Z.TimesFormula E F).1.L).pw.length kYL) ((Z.TimesFormula E F).1.L).pw from by with_reducible repeat' (first | exact IYL_10 | refine K.ints.alloc ?_ _ | refine K.ints.drew ?_ | refine K.ints.set ?_ _ ?_ _ | (dsimp only; omega) | omega | (simp; done) | (simp; omega))) f11
  have IYR_11 := K.ints.ext (show K.ints _ 0 w3.heap.size (.slice oYR ((Z.TimesFormula E F).1.R).pw.length kYR) ((Z.TimesFormula E F).1.R).pw from by with_reducible repeat' (first | exact IYR_10 | refine K.ints.alloc ?_ _ | refine K.ints.drew ?_ | refine K.ints.set ?_ _ ?_ _ | (dsimp only; omega) | omega | (simp; done) | (simp; omega))) f11
  have IAL_11 := K.ints.ext (show K.ints _ 0 w4.heap.size (.slice oAL A.L.pw.length kAL) A.L.pw from by with_reducible repeat' (first | exact IAL_10 | refine K.ints.alloc ?_ _ | refine K.ints.drew ?_ | refine K.ints.set ?_ _ ?_ _ | (dsimp only; omega) | omega | (simp; done) | (simp; omega))) f11
  have IAR_11 := K.ints.ext (show K.ints _ 0 w4.heap.size (.slice oAR A.R.pw.length kAR) A.R.pw from by with_reducible repeat' (first | exact IAR_10 | refine K.ints.alloc ?_ _ | refine K.ints.drew ?_ | refine K.ints.set ?_ _ ?_ _ | (dsimp only; omega) | omega | (simp; done) | (simp; omega))) f11
  have ISL_11 := K.ints.ext (show K.ints _ 0 w5.heap.size (.slice oSL ((Z.SwapSides A).1.L).pw.length kSL) ((Z.SwapSides A).1.L).pw from by with_reducible repeat' (first | exact ISL_10 | refine K.ints.alloc ?_ _ | refine K.ints.drew ?_ | refine K.ints.set ?_ _ ?_ _ | (dsimp only; omega) | omega | (simp; done) | (simp; omega))) f11
  have ISR_11 := K.ints.ext (show K.ints _ 0 w5.heap.size (.slice oSR ((Z.SwapSides A).1.R).pw.length kSR) ((Z.SwapSides A).1.R).pw from by with_reducible repeat' (first | exact ISR_10 | refine K.ints.alloc ?_ _ | refine K.ints.drew ?_ | refine K.ints.set ?_ _ ?_ _ | (dsimp only; omega) | omega | (simp; done) | (simp; omega))) f11
  have IVL_11 := K.ints.ext (show K.ints _ 0 w6.heap.size (.slice oVL ((Z.SwapSides A).1.L).pw.length kVL) ((Z.SwapSides A).1.L).pw from by with_reducible repeat' (first | exact IVL_10 | refine K.ints.alloc ?_ _ | refine K.ints.drew ?_ | refine K.ints.set ?_ _ ?_ _ | (dsimp only; omega) | omega | (simp; done) | (simp; omega))) f11
  have IVR_11 := K.ints.ext (show K.ints _ 0 w6.heap.size (.slice oVR ((Z.SwapSides A).1.R).pw.length kVR) ((Z.SwapSides A).1.R).pw from by with_reducible repeat' (first | exact IVR_10 | refine K.ints.alloc ?_ _ | refine K.ints.drew ?_ | refine K.ints.set ?_ _ ?_ _ | (dsimp only; omega) | omega | (simp; done) | (simp; omega))) f11
  have IRL_11 := K.ints.ext (show K.ints _ 0 w8.heap.size (.slice oRL ((Z.RaiseSides B c).1.L).pw.length kRL) ((Z.RaiseSides B c).1.L).pw from by with_reducible repeat' (first | exact IRL_10 | refine K.ints.alloc ?_ _ | refine K.ints.drew ?_ | refine K.ints.set ?_ _ ?_ _ | (dsimp only; omega) | omega | (simp; done) | (simp; omega))) f11
  have IRR_11 := K.ints.ext (show K.ints _ 0 w8.heap.size (.slice oRR ((Z.RaiseSides B c).1.R).pw.length kRR) ((Z.RaiseSides B c).1.R).pw from by with_reducible repeat' (first | exact IRR_10 | refine K.ints.alloc ?_ _ | refine K.ints.drew ?_ | refine K.ints.set ?_ _ ?_ _ | (dsimp only; omega) | omega | (simp; done) | (simp; omega))) f11
  have IUL_11 := K.ints.ext (show K.ints _ 0 w9.heap.size (.slice oUL ((Z.RaiseSides B c).1.L).pw.length kUL) ((Z.RaiseSides B c).1.L).pw from by with_reducible repeat' (first | exact IUL_10 | refine K.ints.alloc ?_ _ | refine K.ints.drew ?_ | refine K.ints.set ?_ _ ?_ _ | (dsimp only; omega) | omega | (simp; done) | (simp; omega))) f11
  have IUR_11 := K.ints.ext (show K.ints _ 0 w9.heap.size (.slice oUR ((Z.RaiseSides B c).1.R).pw.length kUR) ((Z.RaiseSides B c).1.R).pw from by with_reducible repeat' (first | exact IUR_10 | refine K.ints.alloc ?_ _ | refine K.ints.drew ?_ | refine K.ints.set ?_ _ ?_ _ | (dsimp only; omega) | omega | (simp; done) | (simp; omega))) f11
  have ICL_11 := K.ints.ext (show K.ints _ 0 w10.heap.size (.slice oCL C.L.pw.length kCL) C.L.pw from by with_reducible repeat' (first | exact ICL_10 | refine K.ints.alloc ?_ _ | refine K.ints.drew ?_ | refine K.ints.set ?_ _ ?_ _ | (dsimp only; omega) | omega | (simp; done) | (simp; omega))) f11
  have ICR_11 := K.ints.ext (show K.ints _ 0 w10.heap.size (.slice oCR C.R.pw.length kCR) C.R.pw from by with_reducible repeat' (first | exact ICR_10 | refine K.ints.alloc ?_ _ | refine K.ints.drew ?_ | refine K.ints.set ?_ _ ?_ _ | (dsimp only; omega) | omega | (simp; done) | (simp; omega))) f11
  clear c10_0_0 c10_0_1 c10_0_2 c10_0_3 c10_0_4 c10_0_5 c10_0_6 c10_0_7 y10_0 c10_2_0 c10_2_1 c10_2_2 c10_2_3 c10_2_4 c10_2_5 c10_2_6 c10_2_7 y10_2 c10_3_0 c10_3_1 c10_3_2 c10_3_3 c10_3_4 c10_3_5 c10_3_6 c10_3_7 y10_3 c10_4_0 c10_4_1 c10_4_2 c10_4_3 c10_4_4 c10_4_5 c10_4_6 c10_4_7 y10_4 c10_5_0 c10_5_1 c10_5_2 c10_5_3 c10_5_4 c10_5_5 c10_5_6 c10_5_7 y10_5 c10_6_0 c10_6_1 c10_6_2 c10_6_3 c10_6_4 c10_6_5 c10_6_6 c10_6_7 y10_6 c10_8_0 c10_8_1 c10_8_2 c10_8_3 c10_8_4 c10_8_5 c10_8_6 c10_8_7 y10_8 c10_9_0 c10_9_1 c10_9_2 c10_9_3 c10_9_4 c10_9_5 c10_9_6 c10_9_7 y10_9 IEL_10 IER_10 IXL_10 IXR_10 IYL_10 IYR_10 IAL_10 IAR_10 ISL_10 ISR_10 IVL_10 IVR_10 IRL_10 IRR_10 IUL_10 IUR_10 ICL_10 ICR_10 F10 f11 u11_0_1 u11_2_1 u11_3_1 u11_4_1 u11_5_1 u11_6_1 u11_8_1 u11_9_1
  go_wp2_with fail
  refine K.call (by with_reducible rfl) (by with_reducible rfl) (spec_QuotientFormula C _ (by omega) (by omega) (by omega) (by omega) (show K.ints _ 0 w10.heap.size (.slice oCL C.L.pw.length kCL) C.L.pw from by with_reducible repeat' (first | exact ICL_11 | refine K.ints.alloc ?_ _ | refine K.ints.drew ?_ | refine K.ints.set ?_ _ ?_ _ | (dsimp only; omega) | omega | (simp; done) | (simp; omega))) (show K.ints _ 0 w10.heap.size (.slice oCR C.R.pw.length kCR) C.R.pw from by with_reducible repeat' (first | exact ICR_11 | refine K.ints.alloc ?_ _ | refine K.ints.drew ?_ | refine K.ints.set ?_ _ ?_ _ | (dsimp only; omega) | omega | (simp; done) | (simp; omega)))) ?_
  rintro e w12 ⟨⟨pO, rfl, hO⟩, f12⟩
  obtain ⟨oO, kO, rfl, _⟩ := id (hO)
  have IO_12 : K.ints w12 0 w12.heap.size (.slice oO ((Z.QuotientFormula C).1).pw.length kO) ((Z.QuotientFormula C).1).pw := (hO).mono (Nat.zero_le _) (by omega)
  have u12_0_1 : w1.heap.size < w11.heap.size + 1 := (by omega)
  have u12_2_1 : w2.heap.size < w11.heap.size + 1 := (by omega)
  have u12_3_1 : w3.heap.size < w11.heap.size + 1 := (by omega)
  have u12_4_1 : w4.heap.size < w11.heap.size + 1 := (by omega)
  have u12_5_1 : w5.heap.size < w11.heap.size + 1 := (by omega)
  have u12_6_1 : w6.heap.size < w11.heap.size + 1 := (by omega)
  have u12_8_1 : w8.heap.size < w11.heap.size + 1 := (by omega)
  have u12_9_1 : w9.heap.size < w11.heap.size + 1 := (by omega)
  have u12_10_1 : w10.heap.size < w11.heap.size + 1 := (by omega)
  have F12 : K.Ext w w12 := K.Ext.trans (by repeat' (first | with_reducible exact F11 | with_reducible refine K.Ext.setCell ?_ ?_ _ | with_reducible refine K.Ext.alloc ?_ _ | with_reducible refine K.Ext.drew ?_ | (dsimp only; omega) | omega | (simp; omega))) f12
  have c12_0_0 : w12.cell? ⟨w1.heap.size, 0, none⟩ = some (.int .i64 E.L.dg) := f12.cell_of (by go_simp)
  have c12_0_1 : w12.cell? ⟨w1.heap.size, 1, none⟩ = some (.int .i64 E.L.tn) := f12.cell_of (by go_simp)
  have c12_0_2 : w12.cell? ⟨w1.heap.size, 2, none⟩ = some (.string E.L.nm) := f12.cell_of (by go_simp)
  have c12_0_3 : w12.cell? ⟨w1.heap.size, 3, none⟩ = some (.slice oEL E.L.pw.length kEL) := f12.cell_of (by go_simp)
  have c12_0_4 : w12.cell? ⟨w1.heap.size, 4, none⟩ = some (.int .i64 E.R.dg) := f12.cell_of (by go_simp)
  have c12_0_5 : w12.cell? ⟨w1.heap.size, 5, none⟩ = some (.int .i64 E.R.tn) := f12.cell_of (by go_simp)
  have c12_0_6 : w12.cell? ⟨w1.heap.size, 6, none⟩ = some (.string E.R.nm) := f12.cell_of (by go_simp)
  have c12_0_7 : w12.cell? ⟨w1.heap.size, 7, none⟩ = some (.slice oER E.R.pw.length kER) := f12.cell_of (by go_simp)
  have y12_0 : w1.heap.size < w12.heap.size := World.block_lt_of_cell? w12 _ c12_0_0
  have c12_2_0 : w12.cell? ⟨w2.heap.size, 0, none⟩ = some (.int .i64 ((Z.TimesFormula E F).1.L).dg) := f12.cell_of (by go_simp)
  have c12_2_1 : w12.cell? ⟨w2.heap.size, 1, none⟩ = some (.int .i64 ((Z.TimesFormula E F).1.L).tn) := f12.cell_of (by go_simp)
  have c12_2_2 : w12.cell? ⟨w2.heap.size, 2, none⟩ = some (.string ((Z.TimesFormula E F).1.L).nm) := f12.cell_of (by go_simp)
  have c12_2_3 : w12.cell? ⟨w2.heap.size, 3, none⟩ = some (.slice oXL ((Z.TimesFormula E F).1.L).pw.length kXL) := f12.cell_of (by go_simp)
  have c12_2_4 : w12.cell? ⟨w2.heap.size, 4, none⟩ = some (.int .i64 ((Z.TimesFormula E F).1.R).dg) := f12.cell_of (by go_simp)
  have c12_2_5 : w12.cell? ⟨w2.heap.size, 5, none⟩ = some (.int .i64 ((Z.TimesFormula E F).1.R).tn) := f12.cell_of (by go_simp)
  have c12_2_6 : w12.cell? ⟨w2.heap.size, 6, none⟩ = some (.string ((Z.TimesFormula E F).1.R).nm) := f12.cell_of (by go_simp)
  have c12_2_7 : w12.cell? ⟨w2.heap.size, 7, none⟩ = some (.slice oXR ((Z.TimesFormula E F).1.R).pw.length kXR) := f12.cell_of (by go_simp)
  have y12_2 : w2.heap.size < w12.heap.size := World.block_lt_of_cell? w12 _ c12_2_0
  have c12_3_0 : w12.cell? ⟨w3.heap.size, 0, none⟩ = some (.int .i64 ((Z.TimesFormula E F).1.L).dg) := f12.cell_of (by go_simp)
  have c12_3_1 : w12.cell? ⟨w3.heap.size, 1, none⟩ = some (.int .i64 ((Z.TimesFormula E F).1.L).tn) := f12.cell_of (by go_simp)
  have c12_3_2 : w12.cell? ⟨w3.heap.size, 2, none⟩ = some (.string ((Z.TimesFormula E F).1.L).nm) := f12.cell_of (by go_simp)
  have c12_3_3 : w12.cell? ⟨w3.heap.size, 3, none⟩ = some (.slice oYL ((Z.TimesFormula E F).1.L).pw.length kYL) := f12.cell_of (by go_simp)
  have c12_3_4 : w12.cell? ⟨w3.heap.size, 4, none⟩ = some (.int .i64 ((Z.TimesFormula E F).1.R).dg) := f12.cell_of (by go_simp)
  have c12_3_5 : w12.cell? ⟨w3.heap.size, 5, none⟩ = some (.int .i64 ((Z.TimesFormula E F).1.R).tn) := f12.cell_of (by go_simp)
  have c12_3_6 : w12.cell? ⟨w3.heap.size, 6, none⟩ = some (.string ((Z.TimesFormula E F).1.R).nm) := f12.cell_of (by go_simp)
  have c12_3_7 : w12.cell? ⟨w3.heap.size, 7, none⟩ = some (.slice oYR ((Z.TimesFormula E F).1.R).pw.length kYR) := f12.cell_of (by go_simp)
  have y12_3 : w3.heap.size < w12.heap.size := World.block_lt_of_cell? w12 _ c12_3_0
  have c12_4_0 : w12.cell? ⟨w4.heap.size, 0, none⟩ = some (.int .i64 A.L.dg) := f12.cell_of (by go_simp)
  have c12_4_1 : w12.cell? ⟨w4.heap.size, 1, none⟩ = some (.int .i64 A.L.tn) := f12.cell_of (by go_simp)
  have c12_4_2 : w12.cell? ⟨w4.heap.size, 2, none⟩ = some (.string A.L.nm) := f12.cell_of (by go_simp)
  have c12_4_3 : w12.cell? ⟨w4.heap.size, 3, none⟩ = some (.slice oAL A.L.pw.length kAL) := f12.cell_of (by go_simp)
  have c12_4_4 : w12.cell? ⟨w4.heap.size, 4, none⟩ = some (.int .i64 A.R.dg) := f12.cell_of (by go_simp)
  have c12_4_5 : w12.cell? ⟨w4.heap.size, 5, none⟩ = some (.int .i64 A.R.tn) := f12.cell_of (by go_simp)
  have c12_4_6 : w12.cell? ⟨w4.heap.size, 6, none⟩ = some (.string A.R.nm) := f12.cell_of (by go_simp)
  have c12_4_7 : w12.cell? ⟨w4.heap.size, 7, none⟩ = some (.slice oAR A.R.pw.length kAR) := f12.cell_of (by go_simp)
  have y12_4 : w4.heap.size < w12.heap.size := World.block_lt_of_cell? w12 _ c12_4_0
  have c12_5_0 : w12.cell? ⟨w5.heap.size, 0, none⟩ = some (.int .i64 ((Z.SwapSides A).1.L).dg) := f12.cell_of (by go_simp)
  have c12_5_1 : w12.cell? ⟨w5.heap.size, 1, none⟩ = some (.int .i64 ((Z.SwapSides A).1.L).tn) := f12.cell_of (by go_simp)
  have c12_5_2 : w12.cell? ⟨w5.heap.size, 2, none⟩ = some (.string ((Z.SwapSides A).1.L).nm) := f12.cell_of (by go_simp)
  have c12_5_3 : w12.cell? ⟨w5.heap.size, 3, none⟩ = some (.slice oSL ((Z.SwapSides A).1.L).pw.length kSL) := f12.cell_of (by go_simp)
  have c12_5_4 : w12.cell? ⟨w5.heap.size, 4, none⟩ = some (.int .i64 ((Z.SwapSides A).1.R).dg) := f12.cell_of (by go_simp)
  have c12_5_5 : w12.cell? ⟨w5.heap.size, 5, none⟩ = some (.int .i64 ((Z.SwapSides A).1.R).tn) := f12.cell_of (by go_simp)
  have c12_5_6 : w12.cell? ⟨w5.heap.size, 6, none⟩ = some (.string ((Z.SwapSides A).1.R).nm) := f12.cell_of (by go_simp)
  have c12_5_7 : w12.cell? ⟨w5.heap.size, 7, none⟩ = some (.slice oSR ((Z.SwapSides A).1.R).pw.length kSR) := f12.cell_of (by go_simp)
  have y12_5 : w5.heap.size < w12.heap.size := World.block_lt_of_cell? w12 _ c12_5_0
  have c12_6_0 : w12.cell? ⟨w6.heap.size, 0, none⟩ = some (.int .i64 ((Z.SwapSides A).1.L).dg) := f12.cell_of (by go_simp)
  have c12_6_1 : w12.cell? ⟨w6.heap.size, 1, none⟩ = some (.int .i64 ((Z.SwapSides A).1.L).tn) := f12.cell_of (by go_simp)
  have c12_6_2 : w12.cell? ⟨w6.heap.size, 2, none⟩ = some (.string ((Z.SwapSides A).1.L).nm) := f12.cell_of (by go_simp)
  have c12_6_3 : w12.cell? ⟨w6.heap.size, 3, none⟩ = some (.slice oVL ((Z.SwapSides A).1.L).pw.length kVL) := f12.cell_of (by go_simp)
  have c12_6_4 : w12.cell? ⟨w6.heap.size, 4, none⟩ = some (.int .i64 ((Z.SwapSides A).1.R).dg) := f12.cell_of (by go_simp)
  have c12_6_5 : w12.cell? ⟨w6.heap.size, 5, none⟩ = some (.int .i64 ((Z.SwapSides A).1.R).tn) := f12.cell_of (by go_simp)
  have c12_6_6 : w12.cell? ⟨w6.heap.size, 6, none⟩ = some (.string ((Z.SwapSides A).1.R).nm) := f12.cell_of (by go_simp)
  have c12_6_7 : w12.cell? ⟨w6.heap.size, 7, none⟩ = some (.slice oVR ((Z.SwapSides A).1.R).pw.length kVR) := f12.cell_of (by go_simp)
  have y12_6 : w6.heap.size < w12.heap.size := World.block_lt_of_cell? w12 _ c12_6_0
  have c12_8_0 : w12.cell? ⟨w8.heap.size, 0, none⟩ = some (.int .i64 ((Z.RaiseSides B c).1.L).dg) := f12.cell_of (by go_simp)
  have c12_8_1 : w12.cell? ⟨w8.heap.size, 1, none⟩ = some (.int .i64 ((Z.RaiseSides B c).1.L).tn) := f12.cell_of (by go_simp)
  have c12_8_2 : w12.cell? ⟨w8.heap.size, 2, none⟩ = some (.string ((Z.RaiseSides B c).1.L).nm) := f12.cell_of (by go_simp)
  have c12_8_3 : w12.cell? ⟨w8.heap.size, 3, none⟩ = some (.slice oRL ((Z.RaiseSides B c).1.L).pw.length kRL) := f12.cell_of (by go_simp)
  have c12_8_4 : w12.cell? ⟨w8.heap.size, 4, none⟩ = some (.int .i64 ((Z.RaiseSides B c).1.R).dg) := f12.cell_of (by go_simp)
  have c12_8_5 : w12.cell? ⟨w8.heap.size, 5, none⟩ = some (.int .i64 ((Z.RaiseSides B c).1.R).tn) := f12.cell_of (by go_simp)
  have c12_8_6 : w12.cell? ⟨w8.heap.size, 6, none⟩ = some (.string ((Z.RaiseSides B c).1.R).nm) := f12.cell_of (by go_simp)
  have c12_8_7 : w12.cell? ⟨w8.heap.size, 7, none⟩ = some (.slice oRR ((Z.RaiseSides B c).1.R).pw.length kRR) := f12.cell_of (by go_simp)
  have y12_8 : w8.heap.size < w12.heap.size := World.block_lt_of_cell? w12 _ c12_8_0
  have c12_9_0 : w12.cell? ⟨w9.heap.size, 0, none⟩ = some (.int .i64 ((Z.RaiseSides B c).1.L).dg) := f12.cell_of (by go_simp)
  have c12_9_1 : w12.cell? ⟨w9.heap.size, 1, none⟩ = some (.int .i64 ((Z.RaiseSides B c).1.L).tn) := f12.cell_of (by go_simp)
  have c12_9_2 : w12.cell? ⟨w9.heap.size, 2, none⟩ = some (.string ((Z.RaiseSides B c).1.L).nm) := f12.cell_of (by go_simp)
  have c12_9_3 : w12.cell? ⟨w9.heap.size, 3, none⟩ = some (.slice oUL ((Z.RaiseSides B c).1.L).pw.length kUL) := f12.cell_of (by go_simp)
  have c12_9_4 : w12.cell? ⟨w9.heap.size, 4, none⟩ = some (.int .i64 ((Z.RaiseSides B c).1.R).dg) := f12.cell_of (by go_simp)
  have c12_9_5 : w12.cell? ⟨w9.heap.size, 5, none⟩ = some (.int .i64 ((Z.RaiseSides B c).1.R).tn) := f12.cell_of (by go_simp)
  have c12_9_6 : w12.cell? ⟨w9.heap.size, 6, none⟩ = some (.string ((Z.RaiseSides B c).1.R).nm) := f12.cell_of (by go_simp)
  have c12_9_7 : w12.cell? ⟨w9.heap.size, 7, none⟩ = some (.slice oUR ((Z.RaiseSides B c).1.R).pw.length kUR) := f12.cell_of (by go_simp)
  have y12_9 : w9.heap.size < w12.heap.size := World.block_lt_of_cell? w12 _ c12_9_0
  have c12_10_0 : w12.cell? ⟨w10.heap.size, 0, none⟩ = some (.int .i64 C.L.dg) := f12.cell_of (by go_simp)
  have c12_10_1 : w12.cell? ⟨w10.heap.size, 1, none⟩ = some (.int .i64 C.L.tn) := f12.cell_of (by go_simp)
  have c12_10_2 : w12.cell? ⟨w10.heap.size, 2, none⟩ = some (.string C.L.nm) := f12.cell_of (by go_simp)
  have c12_10_3 : w12.cell? ⟨w10.heap.size, 3, none⟩ = some (.slice oCL C.L.pw.length kCL) := f12.cell_of (by go_simp)
  have c12_10_4 : w12.cell? ⟨w10.heap.size, 4, none⟩ = some (.int .i64 C.R.dg) := f12.cell_of (by go_simp)
  have c12_10_5 : w12.cell? ⟨w10.heap.size, 5, none⟩ = some (.int .i64 C.R.tn) := f12.cell_of (by go_simp)
  have c12_10_6 : w12.cell? ⟨w10.heap.size, 6, none⟩ = some (.string C.R.nm) := f12.cell_of (by go_simp)
  have c12_10_7 : w12.cell? ⟨w10.heap.size, 7, none⟩ = some (.slice oCR C.R.pw.length kCR) := f12.cell_of (by go_simp)
  have y12_10 : w10.heap.size < w12.heap.size := World.block_lt_of_cell? w12 _ c12_10_0
  have c12_11_0 : w12.cell? ⟨w11.heap.size, 0, none⟩ = some (.int .i64 ((Z.QuotientFormula C).1).dg) := f12.cell_of (by go_simp)
  have c12_11_1 : w12.cell? ⟨w11.heap.size, 1, none⟩ = some (.int .i64 ((Z.QuotientFormula C).1).tn) := f12.cell_of (by go_simp)
  have c12_11_2 : w12.cell? ⟨w11.heap.size, 2, none⟩ = some (.string ((Z.QuotientFormula C).1).nm) := f12.cell_of (by go_simp)
  have c12_11_3 : w12.cell? ⟨w11.heap.size, 3, none⟩ = some (.slice oQ ((Z.QuotientFormula C).1).pw.length kQ) := f12.cell_of (by go_simp)
  have y12_11 : w11.heap.size < w12.heap.size := World.block_lt_of_cell? w12 _ c12_11_0
  have IEL_12 := K.ints.ext (show K.ints _ 0 w1.heap.size (.slice oEL E.L.pw.length kEL) E.L.pw from by with_reducible repeat' (first | exact IEL_11 | refine K.ints.alloc ?_ _ | refine K.ints.drew ?_ | refine K.ints.set ?_ _ ?_ _ | (dsimp only; omega) | omega | (simp; done) | (simp; omega))) f12
  have IER_12 := K.ints.ext (show K.ints _ 0 w1.heap.size (.slice oER E.R.pw.length kER) E.R.pw from by with_reducible repeat' (first | exact IER_11 | refine K.ints.alloc ?_ _ | refine K.ints.drew ?_ | refine K.ints.set ?_ _ ?_ _ | (dsimp only; omega) | omega | (simp; done) | (simp; omega))) f12
  have IXL_12 := K.ints.ext (show K.ints _ 0 w2.heap.size (.slice oXL ((Z.TimesFormula E F).1.L).pw.length kXL) ((Z.TimesFormula E F).1.L).pw from by with_reducible repeat' (first | exact IXL_11 | refine K.ints.alloc ?_ _ | refine K.ints.drew ?_ | refine K.ints.set ?_ _ ?_ _ | (dsimp only; omega) | omega | (simp; done) | (simp; omega))) f12
  have IXR_12 := K.ints.ext (show K.ints _ 0 w2.heap.size (.slice oXR ((Z.TimesFormula E F).1.R).pw.length kXR) ((Z.TimesFormula E F).1.R).pw from by with_reducible repeat' (first | exact IXR_11 | refine K.ints.alloc ?_ _ | refine K.ints.drew ?_ | refine K.ints.set ?_ _ ?_ _ | (dsimp only; omega) | omega | (simp; done) | (simp; omega))) f12
  have IYL_12 := K.ints.ext (show K.ints _ 0 w3.heap.size (.slice oYL ((Z.TimesFormula E F).1.L).pw.length kYL) ((Z.TimesFormula E F).1.L).pw from by with_reducible repeat' (first | exact IYL_11 | refine K.ints.alloc ?_ _ | refine K.ints.drew ?_ | refine K.ints.set ?_ _ ?_ _ | (dsimp only; omega) | omega | (simp; done) | (simp; omega))) f12
  have IYR_12 := K.ints.ext (show K.ints _ 0 w3.heap.size (.slice oYR ((Z.TimesFormula E F).1.R).pw.length kYR) ((Z.TimesFormula E F).1.R).pw from by with_reducible repeat' (first | exact IYR_11 | refine K.ints.alloc ?_ _ | refine K.ints.drew ?_ | refine K.ints.set ?_ _ ?_ _ | (dsimp only; omega) | omega | (simp; done) | (simp; omega))) f12
  have IAL_12 := K.ints.ext (show K.ints _ 0 w4.heap.size (.slice oAL A.L.pw.length kAL) A.L.pw from by with_reducible repeat' (first | exact IAL_11 | refine K.ints.alloc ?_ _ | refine K.ints.drew ?_ | refine K.ints.set ?_ _ ?_ _ | (dsimp only; omega) | omega | (simp; done) | (simp; omega))) f12
  have IAR_12 := K.ints.ext (show K.ints _ 0 w4.heap.size (.slice oAR A.R.pw.length kAR) A.R.pw from by with_reducible repeat' (first | exact IAR_11 | refine K.ints.alloc ?_ _ | refine K.ints.drew ?_ | refine K.ints.set ?_ _ ?_ _ | (dsimp only; omega) | omega | (simp; done) | (simp; omega))) f12
  have ISL_12 := K.ints.ext (show K.ints _ 0 w5.heap.size (.slice oSL ((Z.SwapSides A).1.L).pw.length kSL) ((Z.SwapSides A).1.L).pw from by with_reducible repeat' (first | exact ISL_11 | refine K.ints.alloc ?_ _ | refine K.ints.drew ?_ | refine K.ints.set ?_ _ ?_ _ | (dsimp only; omega) | omega | (simp; done) | (simp; omega))) f12
  have ISR_12 := K.ints.ext (show K.ints _ 0 w5.heap.size (.slice oSR ((Z.SwapSides A).1.R).pw.length kSR) ((Z.SwapSides A).1.R).pw from by with_reducible repeat' (first | exact ISR_11 | refine K.ints.alloc ?_ _ | refine K.ints.drew ?_ | refine K.ints.set ?_ _ ?_ _ | (dsimp only; omega) | omega | (simp; done) | (simp; omega))) f12
  have IVL_12 := K.ints.ext (show K.ints _ 0 w6.heap.size (.slice oVL ((Z.SwapSides A).1.L).pw.length kVL) ((Z.SwapSides A).1.L).pw from by with_reducible repeat' (first | exact IVL_11 | refine K.ints.alloc ?_ _ | refine K.ints.drew ?_ | refine K.ints.set ?_ _ ?_ _ | (dsimp only; omega) | omega | (simp; done) | (simp; omega))) f12
  have IVR_12 := K.ints.ext (show K.ints _ 0 w6.heap.size (.slice oVR ((Z.SwapSides A).1.R).pw.length kVR) ((Z.SwapSides A).1.R).pw from by with_reducible repeat' (first | exact IVR_11 | refine K.ints.alloc ?_ _ | refine K.ints.drew ?_ | refine K.ints.set ?_ _ ?_ _ | (dsimp only; omega) | omega | (simp; done) | (simp; omega))) f12
  have IRL_12 := K.ints.ext (show K.ints _ 0 w8.heap.size (.slice oRL ((Z.RaiseSides B c).1.L).pw.length kRL) ((Z.RaiseSides B c).1.L).pw from by with_reducible repeat' (first | exact IRL_11 | refine K.ints.alloc ?_ _ | refine K.ints.drew ?_ | refine K.ints.set ?_ _ ?_ _ | (dsimp only; omega) | omega | (simp; done) | (simp; omega))) f12
  have IRR_12 := K.ints.ext (show K.ints _ 0 w8.heap.size (.slice oRR ((Z.RaiseSides B c).1.R).pw.length kRR) ((Z.RaiseSides B c).1.R).pw from by with_reducible repeat' (first | exact IRR_11 | refine K.ints.alloc ?_ _ | refine K.ints.drew ?_ | refine K.ints.set ?_ _ ?_ _ | (dsimp only; omega) | omega | (simp; done) | (simp; omega))) f12
  have IUL_12 := K.ints.ext (show K.ints _ 0 w9.heap.size (.slice oUL ((Z.RaiseSides B c).1.L).pw.length kUL) ((Z.RaiseSides B c).1.L).pw from by with_reducible repeat' (first | exact IUL_11 | refine K.ints.alloc ?_ _ | refine K.ints.drew ?_ | refine K.ints.set ?_ _ ?_ _ | (dsimp only; omega) | omega | (simp; done) | (simp; omega))) f12
  have IUR_12 := K.ints.ext (show K.ints _ 0 w9.heap.size (.slice oUR ((Z.RaiseSides B c).1.R).pw.length kUR) ((Z.RaiseSides B c).1.R).pw from by with_reducible repeat' (first | exact IUR_11 | refine K.ints.alloc ?_ _ | refine K.ints.drew ?_ | refine K.ints.set ?_ _ ?_ _ | (dsimp only; omega) | omega | (simp; done) | (simp; omega))) f12
  have ICL_12 := K.ints.ext (show K.ints _ 0 w10.heap.size (.slice oCL C.L.pw.length kCL) C.L.pw from by with_reducible repeat' (first | exact ICL_11 | refine K.ints.alloc ?_ _ | refine K.ints.drew ?_ | refine K.ints.set ?_ _ ?_ _ | (dsimp only; omega) | omega | (simp; done) | (simp; omega))) f12
  have ICR_12 := K.ints.ext (show K.ints _ 0 w10.heap.size (.slice oCR C.R.pw.length kCR) C.R.pw from by with_reducible repeat' (first | exact ICR_11 | refine K.ints.alloc ?_ _ | refine K.ints.drew ?_ | refine K.ints.set ?_ _ ?_ _ | (dsimp only; omega) | omega | (simp; done) | (simp; omega))) f12
  have IQ_12 := K.ints.ext (show K.ints _ 0 w11.heap.size (.slice oQ ((Z.QuotientFormula C).1).pw.length kQ) ((Z.QuotientFormula C).1).pw from by with_reducible repeat' (first | exact IQ_11 | refine K.ints.alloc ?_ _ | refine K.ints.drew ?_ | refine K.ints.set ?_ _ ?_ _ | (dsimp only; omega) | omega | (simp; done) | (simp; omega))) f12
  clear c11_0_0 c11_0_1 c11_0_2 c11_0_3 c11_0_4 c11_0_5 c11_0_6 c11_0_7 y11_0 c11_2_0 c11_2_1 c11_2_2 c11_2_3 c11_2_4 c11_2_5 c11_2_6 c11_2_7 y11_2 c11_3_0 c11_3_1 c11_3_2 c11_3_3 c11_3_4 c11_3_5 c11_3_6 c11_3_7 y11_3 c11_4_0 c11_4_1 c11_4_2 c11_4_3 c11_4_4 c11_4_5 c11_4_6 c11_4_7 y11_4 c11_5_0 c11_5_1 c11_5_2 c11_5_3 c11_5_4 c11_5_5 c11_5_6 c11_5_7 y11_5 c11_6_0 c11_6_1 c11_6_2 c11_6_3 c11_6_4 c11_6_5 c11_6_6 c11_6_7 y11_6 c11_8_0 c11_8_1 c11_8_2 c11_8_3 c11_8_4 c11_8_5 c11_8_6 c11_8_7 y11_8 c11_9_0 c11_9_1 c11_9_2 c11_9_3 c11_9_4 c11_9_5 c11_9_6 c11_9_7 y11_9 c11_10_0 c11_10_1 c11_10_2 c11_10_3 c11_10_4 c11_10_5 c11_10_6 c11_10_7 y11_10 IEL_11 IER_11 IXL_11 IXR_11 IYL_11 IYR_11 IAL_11 IAR_11 ISL_11 ISR_11 IVL_11 IVR_11 IRL_11 IRR_11 IUL_11 IUR_11 ICL_11 ICR_11 IQ_11 F11 f12 u12_0_1 u12_2_1 u12_3_1 u12_4_1 u12_5_1 u12_6_1 u12_8_1 u12_9_1 u12_10_1
  have hsw := Z.swap_code A
  obtain ⟨t1, t2⟩ := Z.TimesFormula_le E F
  obtain ⟨r1, r2⟩ := Z.RaiseSides_le B c
  have q1 := (Z.QuotientFormula_le C).1
  obtain ⟨s1, s2⟩ : (Z.SwapSides A).1.L.pw.length ≤ 1048576 ∧ (Z.SwapSides A).1.R.pw.length ≤ 1048576 := Z.SwapSides_le A (by omega) (by omega) (by omega) (by omega)
  go_wp2_with fail
  refine K.call (by with_reducible rfl) (by with_reducible rfl) (likeEquations_same (Z.TimesFormula E F).1 _ _ _ _ _ t1 t2 (show K.ints _ 0 w2.heap.size (.slice oXL ((Z.TimesFormula E F).1.L).pw.length kXL) ((Z.TimesFormula E F).1.L).pw from by with_reducible repeat' (first | exact IXL_12 | refine K.ints.alloc ?_ _ | refine K.ints.drew ?_ | refine K.ints.set ?_ _ ?_ _ | (dsimp only; omega) | omega | (simp; done) | (simp; omega))) (show K.ints _ 0 w2.heap.size (.slice oXR ((Z.TimesFormula E F).1.R).pw.length kXR) ((Z.TimesFormula E F).1.R).pw from by with_reducible repeat' (first | exact IXR_12 | refine K.ints.alloc ?_ _ | refine K.ints.drew ?_ | refine K.ints.set ?_ _ ?_ _ | (dsimp only; omega) | omega | (simp; done) | (simp; omega))) (show K.ints _ 0 w3.heap.size (.slice oYL ((Z.TimesFormula E F).1.L).pw.length kYL) ((Z.TimesFormula E F).1.L).pw from by with_reducible repeat' (first | exact IYL_12 | refine K.ints.alloc ?_ _ | refine K.ints.drew ?_ | refine K.ints.set ?_ _ ?_ _ | (dsimp only; omega) | omega | (simp; done) | (simp; omega))) (show K.ints _ 0 w3.heap.size (.slice oYR ((Z.TimesFormula E F).1.R).pw.length kYR) ((Z.TimesFormula E F).1.R).pw from by with_reducible repeat' (first | exact IYR_12 | refine K.ints.alloc ?_ _ | refine K.ints.drew ?_ | refine K.ints.set ?_ _ ?_ _ | (dsimp only; omega) | omega | (simp; done) | (simp; omega)))) ?_
  rintro e w13 ⟨rfl, f13⟩
  have u13_0_1 : w1.heap.size < w12.heap.size + 1 := (by omega)
  have u13_2_1 : w2.heap.size < w12.heap.size + 1 := (by omega)
  have u13_3_1 : w3.heap.size < w12.heap.size + 1 := (by omega)
  have u13_4_1 : w4.heap.size < w12.heap.size + 1 := (by omega)
  have u13_5_1 : w5.heap.size < w12.heap.size + 1 := (by omega)
  have u13_6_1 : w6.heap.size < w12.heap.size + 1 := (by omega)
  have u13_8_1 : w8.heap.size < w12.heap.size + 1 := (by omega)
  have u13_9_1 : w9.heap.size < w12.heap.size + 1 := (by omega)
  have u13_11_1 : w11.heap.size < w12.heap.size + 1 := (by omega)
  have F13 : K.Ext w w13 := K.Ext.trans (by repeat' (first | with_reducible exact F12 | with_reducible refine K.Ext.setCell ?_ ?_ _ | with_reducible refine K.Ext.alloc ?_ _ | with_reducible refine K.Ext.drew ?_ | (dsimp only; omega) | omega | (simp; omega))) f13
  have c13_0_0 : w13.cell? ⟨w1.heap.size, 0, none⟩ = some (.int .i64 E.L.dg) := f13.cell_of (by go_simp)
  have c13_0_1 : w13.cell? ⟨w1.heap.size, 1, none⟩ = some (.int .i64 E.L.tn) := f13.cell_of (by go_simp)
  have c13_0_2 : w13.cell? ⟨w1.heap.size, 2, none⟩ = some (.string E.L.nm) := f13.cell_of (by go_simp)
  have c13_0_3 : w13.cell? ⟨w1.heap.size, 3, none⟩ = some (.slice oEL E.L.pw.length kEL) := f13.cell_of (by go_simp)
  have c13_0_4 : w13.cell? ⟨w1.heap.size, 4, none⟩ = some (.int .i64 E.R.dg) := f13.cell_of (by go_simp)
  have c13_0_5 : w13.cell? ⟨w1.heap.size, 5, none⟩ = some (.int .i64 E.R.tn) := f13.cell_of (by go_simp)
  have c13_0_6 : w13.cell? ⟨w1.heap.size, 6, none⟩ = some (.string E.R.nm) := f13.cell_of (by go_simp)
  have c13_0_7 : w13.cell? ⟨w1.heap.size, 7, none⟩ = some (.slice oER E.R.pw.length kER) := f13.cell_of (by go_simp)
  have y13_0 : w1.heap.size < w13.heap.size := World.block_lt_of_cell? w13 _ c13_0_0
  have c13_2_0 : w13.cell? ⟨w2.heap.size, 0, none⟩ = some (.int .i64 ((Z.TimesFormula E F).1.L).dg) := f13.cell_of (by go_simp)
  have c13_2_1 : w13.cell? ⟨w2.heap.size, 1, none⟩ = some (.int .i64 ((Z.TimesFormula E F).1.L).tn) := f13.cell_of (by go_simp)
  have c13_2_2 : w13.cell? ⟨w2.heap.size, 2, none⟩ = some (.string ((Z.TimesFormula E F).1.L).nm) := f13.cell_of (by go_simp)
  have c13_2_3 : w13.cell? ⟨w2.heap.size, 3, none⟩ = some (.slice oXL ((Z.TimesFormula E F).1.L).pw.length kXL) := f13.cell_of (by go_simp)
  have c13_2_4 : w13.cell? ⟨w2.heap.size, 4, none⟩ = some (.int .i64 ((Z.TimesFormula E F).1.R).dg) := f13.cell_of (by go_simp)
  have c13_2_5 : w13.cell? ⟨w2.heap.size, 5, none⟩ = some (.int .i64 ((Z.TimesFormula E F).1.R).tn) := f13.cell_of (by go_simp)
  have c13_2_6 : w13.cell? ⟨w2.heap.size, 6, none⟩ = some (.string ((Z.TimesFormula E F).1.R).nm) := f13.cell_of (by go_simp)
  have c13_2_7 : w13.cell? ⟨w2.heap.size, 7, none⟩ = some (.slice oXR ((Z.TimesFormula E F).1.R).pw.length kXR) := f13.cell_of (by go_simp)
  have y13_2 : w2.heap.size < w13.heap.size := World.block_lt_of_cell? w13 _ c13_2_0
  have c13_3_0 : w13.cell? ⟨w3.heap.size, 0, none⟩ = some (.int .i64 ((Z.TimesFormula E F).1.L).dg) := f13.cell_of (by go_simp)
  have c13_3_1 : w13.cell? ⟨w3.heap.size, 1, none⟩ = some (.int .i64 ((Z.TimesFormula E F).1.L).tn) := f13.cell_of (by go_simp)
  have c13_3_2 : w13.cell? ⟨w3.heap.size, 2, none⟩ = some (.string ((Z.TimesFormula E F).1.L).nm) := f13.cell_of (by go_simp)
  have c13_3_3 : w13.cell? ⟨w3.heap.size, 3, none⟩ = some (.slice oYL ((Z.TimesFormula E F).1.L).pw.length kYL) := f13.cell_of (by go_simp)
  have c13_3_4 : w13.cell? ⟨w3.heap.size, 4, none⟩ = some (.int .i64 ((Z.TimesFormula E F).1.R).dg) := f13.cell_of (by go_simp)
  have c13_3_5 : w13.cell? ⟨w3.heap.size, 5, none⟩ = some (.int .i64 ((Z.TimesFormula E F).1.R).tn) := f13.cell_of (by go_simp)
  have c13_3_6 : w13.cell? ⟨w3.heap.size, 6, none⟩ = some (.string ((Z.TimesFormula E F).1.R).nm) := f13.cell_of (by go_simp)
  have c13_3_7 : w13.cell? ⟨w3.heap.size, 7, none⟩ = some (.slice oYR ((Z.TimesFormula E F).1.R).pw.length kYR) := f13.cell_of (by go_simp)
  have y13_3 : w3.heap.size < w13.heap.size := World.block_lt_of_cell? w13 _ c13_3_0
  have c13_4_0 : w13.cell? ⟨w4.heap.size, 0, none⟩ = some (.int .i64 A.L.dg) := f13.cell_of (by go_simp)
  have c13_4_1 : w13.cell? ⟨w4.heap.size, 1, none⟩ = some (.int .i64 A.L.tn) := f13.cell_of (by go_simp)
  have c13_4_2 : w13.cell? ⟨w4.heap.size, 2, none⟩ = some (.string A.L.nm) := f13.cell_of (by go_simp)
  have c13_4_3 : w13.cell? ⟨w4.heap.size, 3, none⟩ = some (.slice oAL A.L.pw.length kAL) := f13.cell_of (by go_simp)
  have c13_4_4 : w13.cell? ⟨w4.heap.size, 4, none⟩ = some (.int .i64 A.R.dg) := f13.cell_of (by go_simp)
  have c13_4_5 : w13.cell? ⟨w4.heap.size, 5, none⟩ = some (.int .i64 A.R.tn) := f13.cell_of (by go_simp)
  have c13_4_6 : w13.cell? ⟨w4.heap.size, 6, none⟩ = some (.string A.R.nm) := f13.cell_of (by go_simp)
  have c13_4_7 : w13.cell? ⟨w4.heap.size, 7, none⟩ = some (.slice oAR A.R.pw.length kAR) := f13.cell_of (by go_simp)
  have y13_4 : w4.heap.size < w13.heap.size := World.block_lt_of_cell? w13 _ c13_4_0
  have c13_5_0 : w13.cell? ⟨w5.heap.size, 0, none⟩ = some (.int .i64 ((Z.SwapSides A).1.L).dg) := f13.cell_of (by go_simp)
  have c13_5_1 : w13.cell? ⟨w5.heap.size, 1, none⟩ = some (.int .i64 ((Z.SwapSides A).1.L).tn) := f13.cell_of (by go_simp)
  have c13_5_2 : w13.cell? ⟨w5.heap.size, 2, none⟩ = some (.string ((Z.SwapSides A).1.L).nm) := f13.cell_of (by go_simp)
  have c13_5_3 : w13.cell? ⟨w5.heap.size, 3, none⟩ = some (.slice oSL ((Z.SwapSides A).1.L).pw.length kSL) := f13.cell_of (by go_simp)
  have c13_5_4 : w13.cell? ⟨w5.heap.size, 4, none⟩ = some (.int .i64 ((Z.SwapSides A).1.R).dg) := f13.cell_of (by go_simp)
  have c13_5_5 : w13.cell? ⟨w5.heap.size, 5, none⟩ = some (.int .i64 ((Z.SwapSides A).1.R).tn) := f13.cell_of (by go_simp)
  have c13_5_6 : w13.cell? ⟨w5.heap.size, 6, none⟩ = some (.string ((Z.SwapSides A).1.R).nm) := f13.cell_of (by go_simp)
  have c13_5_7 : w13.cell? ⟨w5.heap.size, 7, none⟩ = some (.slice oSR ((Z.SwapSides A).1.R).pw.length kSR) := f13.cell_of (by go_simp)
  have y13_5 : w5.heap.size < w13.heap.size := World.block_lt_of_cell? w13 _ c13_5_0
  have c13_6_0 : w13.cell? ⟨w6.heap.size, 0, none⟩ = some (.int .i64 ((Z.SwapSides A).1.L).dg) := f13.cell_of (by go_simp)
  have c13_6_1 : w13.cell? ⟨w6.heap.size, 1, none⟩ = some (.int .i64 ((Z.SwapSides A).1.L).tn) := f13.cell_of (by go_simp)
  have c13_6_2 : w13.cell? ⟨w6.heap.size, 2, none⟩ = some (.string ((Z.SwapSides A).1.L).nm) := f13.cell_of (by go_simp)
  have c13_6_3 : w13.cell? ⟨w6.heap.size, 3, none⟩ = some (.slice oVL ((Z.SwapSides A).1.L).pw.length kVL) := f13.cell_of (by go_simp)
  have c13_6_4 : w13.cell? ⟨w6.heap.size, 4, none⟩ = some (.int .i64 ((Z.SwapSides A).1.R).dg) := f13.cell_of (by go_simp)
  have c13_6_5 : w13.cell? ⟨w6.heap.size, 5, none⟩ = some (.int .i64 ((Z.SwapSides A).1.R).tn) := f13.cell_of (by go_simp)
  have c13_6_6 : w13.cell? ⟨w6.heap.size, 6, none⟩ = some (.string ((Z.SwapSides A).1.R).nm) := f13.cell_of (by go_simp)
  have c13_6_7 : w13.cell? ⟨w6.heap.size, 7, none⟩ = some (.slice oVR ((Z.SwapSides A).1.R).pw.length kVR) := f13.cell_of (by go_simp)
  have y13_6 : w6.heap.size < w13.heap.size := World.block_lt_of_cell? w13 _ c13_6_0
  have c13_8_0 : w13.cell? ⟨w8.heap.size, 0, none⟩ = some (.int .i64 ((Z.RaiseSides B c).1.L).dg) := f13.cell_of (by go_simp)
  have c13_8_1 : w13.cell? ⟨w8.heap.size, 1, none⟩ = some (.int .i64 ((Z.RaiseSides B c).1.L).tn) := f13.cell_of (by go_simp)
  have c13_8_2 : w13.cell? ⟨w8.heap.size, 2, none⟩ = some (.string ((Z.RaiseSides B c).1.L).nm) := f13.cell_of (by go_simp)
  have c13_8_3 : w13.cell? ⟨w8.heap.size, 3, none⟩ = some (.slice oRL ((Z.RaiseSides B c).1.L).pw.length kRL) := f13.cell_of (by go_simp)
  have c13_8_4 : w13.cell? ⟨w8.heap.size, 4, none⟩ = some (.int .i64 ((Z.RaiseSides B c).1.R).dg) := f13.cell_of (by go_simp)
  have c13_8_5 : w13.cell? ⟨w8.heap.size, 5, none⟩ = some (.int .i64 ((Z.RaiseSides B c).1.R).tn) := f13.cell_of (by go_simp)
  have c13_8_6 : w13.cell? ⟨w8.heap.size, 6, none⟩ = some (.string ((Z.RaiseSides B c).1.R).nm) := f13.cell_of (by go_simp)
  have c13_8_7 : w13.cell? ⟨w8.heap.size, 7, none⟩ = some (.slice oRR ((Z.RaiseSides B c).1.R).pw.length kRR) := f13.cell_of (by go_simp)
  have y13_8 : w8.heap.size < w13.heap.size := World.block_lt_of_cell? w13 _ c13_8_0
  have c13_9_0 : w13.cell? ⟨w9.heap.size, 0, none⟩ = some (.int .i64 ((Z.RaiseSides B c).1.L).dg) := f13.cell_of (by go_simp)
  have c13_9_1 : w13.cell? ⟨w9.heap.size, 1, none⟩ = some (.int .i64 ((Z.RaiseSides B c).1.L).tn) := f13.cell_of (by go_simp)
  have c13_9_2 : w13.cell? ⟨w9.heap.size, 2, none⟩ = some (.string ((Z.RaiseSides B c).1.L).nm) := f13.cell_of (by go_simp)
  have c13_9_3 : w13.cell? ⟨w9.heap.size, 3, none⟩ = some (.slice oUL ((Z.RaiseSides B c).1.L).pw.length kUL) := f13.cell_of (by go_simp)
  have c13_9_4 : w13.cell? ⟨w9.heap.size, 4, none⟩ = some (.int .i64 ((Z.RaiseSides B c).1.R).dg) := f13.cell_of (by go_simp)
  have c13_9_5 : w13.cell? ⟨w9.heap.size, 5, none⟩ = some (.int .i64 ((Z.RaiseSides B c).1.R).tn) := f13.cell_of (by go_simp)
  have c13_9_6 : w13.cell? ⟨w9.heap.size, 6, none⟩ = some (.string ((Z.RaiseSides B c).1.R).nm) := f13.cell_of (by go_simp)
  have c13_9_7 : w13.cell? ⟨w9.heap.size, 7, none⟩ = some (.slice oUR ((Z.RaiseSides B c).1.R).pw.length kUR) := f13.cell_of (by go_simp)
  have y13_9 : w9.heap.size < w13.heap.size := World.block_lt_of_cell? w13 _ c13_9_0
  have c13_11_0 : w13.cell? ⟨w11.heap.size, 0, none⟩ = some (.int .i64 ((Z.QuotientFormula C).1).dg) := f13.cell_of (by go_simp)
  have c13_11_1 : w13.cell? ⟨w11.heap.size, 1, none⟩ = some (.int .i64 ((Z.QuotientFormula C).1).tn) := f13.cell_of (by go_simp)
  have c13_11_2 : w13.cell? ⟨w11.heap.size, 2, none⟩ = some (.string ((Z.QuotientFormula C).1).nm) := f13.cell_of (by go_simp)
  have c13_11_3 : w13.cell? ⟨w11.heap.size, 3, none⟩ = some (.slice oQ ((Z.QuotientFormula C).1).pw.length kQ) := f13.cell_of (by go_simp)
  have y13_11 : w11.heap.size < w13.heap.size := World.block_lt_of_cell? w13 _ c13_11_0
  have c13_12_0 : w13.cell? ⟨w12.heap.size, 0, none⟩ = some (.int .i64 ((Z.QuotientFormula C).1).dg) := f13.cell_of (by go_simp)
  have c13_12_1 : w13.cell? ⟨w12.heap.size, 1, none⟩ = some (.int .i64 ((Z.QuotientFormula C).1).tn) := f13.cell_of (by go_simp)
  have c13_12_2 : w13.cell? ⟨w12.heap.size, 2, none⟩ = some (.string ((Z.QuotientFormula C).1).nm) := f13.cell_of (by go_simp)
  have c13_12_3 : w13.cell? ⟨w12.heap.size, 3, none⟩ = some (.slice oO ((Z.QuotientFormula C).1).pw.length kO) := f13.cell_of (by go_simp)
  have y13_12 : w12.heap.size < w13.heap.size := World.block_lt_of_cell? w13 _ c13_12_0
  have IEL_13 := K.ints.ext (show K.ints _ 0 w1.heap.size (.slice oEL E.L.pw.length kEL) E.L.pw from by with_reducible repeat' (first | exact IEL_12 | refine K.ints.alloc ?_ _ | refine K.ints.drew ?_ | refine K.ints.set ?_ _ ?_ _ | (dsimp only; omega) | omega | (simp; done) | (simp; omega))) f13
  have IER_13 := K.ints.ext (show K.ints _ 0 w1.heap.size (.slice oER E.R.pw.length kER) E.R.pw from by with_reducible repeat' (first | exact IER_12 | refine K.ints.alloc ?_ _ | refine K.ints.drew ?_ | refine K.ints.set ?_ _ ?_ _ | (dsimp only; omega) | omega | (simp; done) | (simp; omega))) f13
  have IXL_13 := K.ints.ext (show K.ints _ 0 w2.heap.size (.slice oXL ((Z.TimesFormula E F).1.L).pw.length kXL) ((Z.TimesFormula E F).1.L).pw from by with_reducible repeat' (first | exact IXL_12 | refine K.ints.alloc ?_ _ | refine K.ints.drew ?_ | refine K.ints.set ?_ _ ?_ _ | (dsimp only; omega) | omega | (simp; done) | (simp; omega))) f13
  have IXR_13 := K.ints.ext (show K.ints _ 0 w2.heap.size (.slice oXR ((Z.TimesFormula E F).1.R).pw.length kXR) ((Z.TimesFormula E F).1.R).pw from by with_reducible repeat' (first | exact IXR_12 | refine K.ints.alloc ?_ _ | refine K.ints.drew ?_ | refine K.ints.set ?_ _ ?_ _ | (dsimp only; omega) | omega | (simp; done) | (simp; omega))) f13
  have IYL_13 := K.ints.ext (show K.ints _ 0 w3.heap.size (.slice oYL ((Z.TimesFormula E F).1.L).pw.length kYL) ((Z.TimesFormula E F).1.L).pw from by with_reducible repeat' (first | exact IYL_12 | refine K.ints.alloc ?_ _ | refine K.ints.drew ?_ | refine K.ints.set ?_ _ ?_ _ | (dsimp only; omega) | omega | (simp; done) | (simp; omega))) f13
  have IYR_13 := K.ints.ext (show K.ints _ 0 w3.heap.size (.slice oYR ((Z.TimesFormula E F).1.R).pw.length kYR) ((Z.TimesFormula E F).1.R).pw from by with_reducible repeat' (first | exact IYR_12 | refine K.ints.alloc ?_ _ | refine K.ints.drew ?_ | refine K.ints.set ?_ _ ?_ _ | (dsimp only; omega) | omega | (simp; done) | (simp; omega))) f13
  have IAL_13 := K.ints.ext (show K.ints _ 0 w4.heap.size (.slice oAL A.L.pw.length kAL) A.L.pw from by with_reducible repeat' (first | exact IAL_12 | refine K.ints.alloc ?_ _ | refine K.ints.drew ?_ | refine K.ints.set ?_ _ ?_ _ | (dsimp only; omega) | omega | (simp; done) | (simp; omega))) f13
  have IAR_13 := K.ints.ext (show K.ints _ 0 w4.heap.size (.slice oAR A.R.pw.length kAR) A.R.pw from by with_reducible repeat' (first | exact IAR_12 | refine K.ints.alloc ?_ _ | refine K.ints.drew ?_ | refine K.ints.set ?_ _ ?_ _ | (dsimp only; omega) | omega | (simp; done) | (simp; omega))) f13
  have ISL_13 := K.ints.ext (show K.ints _ 0 w5.heap.size (.slice oSL ((Z.SwapSides A).1.L).pw.length kSL) ((Z.SwapSides A).1.L).pw from by with_reducible repeat' (first | exact ISL_12 | refine K.ints.alloc ?_ _ | refine K.ints.drew ?_ | refine K.ints.set ?_ _ ?_ _ | (dsimp only; omega) | omega | (simp; done) | (simp; omega))) f13
  have ISR_13 := K.ints.ext (show K.ints _ 0 w5.heap.size (.slice oSR ((Z.SwapSides A).1.R).pw.length kSR) ((Z.SwapSides A).1.R).pw from by with_reducible repeat' (first | exact ISR_12 | refine K.ints.alloc ?_ _ | refine K.ints.drew ?_ | refine K.ints.set ?_ _ ?_ _ | (dsimp only; omega) | omega | (simp; done) | (simp; omega))) f13
  have IVL_13 := K.ints.ext (show K.ints _ 0 w6.heap.size (.slice oVL ((Z.SwapSides A).1.L).pw.length kVL) ((Z.SwapSides A).1.L).pw from by with_reducible repeat' (first | exact IVL_12 | refine K.ints.alloc ?_ _ | refine K.ints.drew ?_ | refine K.ints.set ?_ _ ?_ _ | (dsimp only; omega) | omega | (simp; done) | (simp; omega))) f13
  have IVR_13 := K.ints.ext (show K.ints _ 0 w6.heap.size (.slice oVR ((Z.SwapSides A).1.R).pw.length kVR) ((Z.SwapSides A).1.R).pw from by with_reducible repeat' (first | exact IVR_12 | refine K.ints.alloc ?_ _ | refine K.ints.drew ?_ | refine K.ints.set ?_ _ ?_ _ | (dsimp only; omega) | omega | (simp; done) | (simp; omega))) f13
  have IRL_13 := K.ints.ext (show K.ints _ 0 w8.heap.size (.slice oRL ((Z.RaiseSides B c).1.L).pw.length kRL) ((Z.RaiseSides B c).1.L).pw from by with_reducible repeat' (first | exact IRL_12 | refine K.ints.alloc ?_ _ | refine K.ints.drew ?_ | refine K.ints.set ?_ _ ?_ _ | (dsimp only; omega) | omega | (simp; done) | (simp; omega))) f13
  have IRR_13 := K.ints.ext (show K.ints _ 0 w8.heap.size (.slice oRR ((Z.RaiseSides B c).1.R).pw.length kRR) ((Z.RaiseSides B c).1.R).pw from by with_reducible repeat' (first | exact IRR_12 | refine K.ints.alloc ?_ _ | refine K.ints.drew ?_ | refine K.ints.set ?_ _ ?_ _ | (dsimp only; omega) | omega | (simp; done) | (simp; omega))) f13
  have IUL_13 := K.ints.ext (show K.ints _ 0 w9.heap.size (.slice oUL ((Z.RaiseSides B c).1.L).pw.length kUL) ((Z.RaiseSides B c).1.L).pw from by with_reducible repeat' (first | exact IUL_12 | refine K.ints.alloc ?_ _ | refine K.ints.drew ?_ | refine K.ints.set ?_ _ ?_ _ | (dsimp only; omega) | omega | (simp; done) | (simp; omega))) f13
  have IUR_13 := K.ints.ext (show K.ints _ 0 w9.heap.size (.slice oUR ((Z.RaiseSides B c).1.R).pw.length kUR) ((Z.RaiseSides B c).1.R).pw from by with_reducible repeat' (first | exact IUR_12 | refine K.ints.alloc ?_ _ | refine K.ints.drew ?_ | refine K.ints.set ?_ _ ?_ _ | (dsimp only; omega) | omega | (simp; done) | (simp; omega))) f13
  have IQ_13 := K.ints.ext (show K.ints _ 0 w11.heap.size (.slice oQ ((Z.QuotientFormula C).1).pw.length kQ) ((Z.QuotientFormula C).1).pw from by with_reducible repeat' (first | exact IQ_12 | refine K.ints.alloc ?_ _ | refine K.ints.drew ?_ | refine K.ints.set ?_ _ ?_ _ | (dsimp only; omega) | omega | (simp; done) | (simp; omega))) f13
  have IO_13 := K.ints.ext (show K.ints _ 0 w12.heap.size (.slice oO ((Z.QuotientFormula C).1).pw.length kO) ((Z.QuotientFormula C).1).pw from by with_reducible repeat' (first | exact IO_12 | refine K.ints.alloc ?_ _ | refine K.ints.drew ?_ | refine K.ints.set ?_ _ ?_ _ | (dsimp only; omega) | omega | (simp; done) | (simp; omega))) f13
  clear c12_0_0 c12_0_1 c12_0_2 c12_0_3 c12_0_4 c12_0_5 c12_0_6 c12_0_7 y12_0 c12_2_0 c12_2_1 c12_2_2 c12_2_3 c12_2_4 c12_2_5 c12_2_6 c12_2_7 y12_2 c12_3_0 c12_3_1 c12_3_2 c12_3_3 c12_3_4 c12_3_5 c12_3_6 c12_3_7 y12_3 c12_4_0 c12_4_1 c12_4_2 c12_4_3 c12_4_4 c12_4_5 c12_4_6 c12_4_7 y12_4 c12_5_0 c12_5_1 c12_5_2 c12_5_3 c12_5_4 c12_5_5 c12_5_6 c12_5_7 y12_5 c12_6_0 c12_6_1 c12_6_2 c12_6_3 c12_6_4 c12_6_5 c12_6_6 c12_6_7 y12_6 c12_8_0 c12_8_1 c12_8_2 c12_8_3 c12_8_4 c12_8_5 c12_8_6 c12_8_7 y12_8 c12_9_0 c12_9_1 c12_9_2 c12_9_3 c12_9_4 c12_9_5 c12_9_6 c12_9_7 y12_9 c12_10_0 c12_10_1 c12_10_2 c12_10_3 c12_10_4 c12_10_5 c12_10_6 c12_10_7 y12_10 c12_11_0 c12_11_1 c12_11_2 c12_11_3 y12_11 IEL_12 IER_12 IXL_12 IXR_12 IYL_12 IYR_12 IAL_12 IAR_12 ISL_12 ISR_12 IVL_12 IVR_12 IRL_12 IRR_12 IUL_12 IUR_12 IQ_12 IO_12 F12 f13 u13_0_1 u13_2_1 u13_3_1 u13_4_1 u13_5_1 u13_6_1 u13_8_1 u13_9_1 u13_11_1
  go_wp2_with fail
  refine K.call (by with_reducible rfl) (by with_reducible rfl) (likeEquations_same (Z.SwapSides A).1 _ _ _ _ _ s1 s2 (show K.ints _ 0 w5.heap.size (.slice oSL ((Z.SwapSides A).1.L).pw.length kSL) ((Z.SwapSides A).1.L).pw from by with_reducible repeat' (first | exact ISL_13 | refine K.ints.alloc ?_ _ | refine K.ints.drew ?_ | refine K.ints.set ?_ _ ?_ _ | (dsimp only; omega) | omega | (simp; done) | (simp; omega))) (show K.ints _ 0 w5.heap.size (.slice oSR ((Z.SwapSides A).1.R).pw.length kSR) ((Z.SwapSides A).1.R).pw from by with_reducible repeat' (first | exact ISR_13 | refine K.ints.alloc ?_ _ | refine K.ints.drew ?_ | refine K.ints.set ?_ _ ?_ _ | (dsimp only; omega) | omega | (simp; done) | (simp; omega))) (show K.ints _ 0 w6.heap.size (.slice oVL ((Z.SwapSides A).1.L).pw.length kVL) ((Z.SwapSides A).1.L).pw from by with_reducible repeat' (first | exact IVL_13 | refine K.ints.alloc ?_ _ | refine K.ints.drew ?_ | refine K.ints.set ?_ _ ?_ _ | (dsimp only; omega) | omega | (simp; done) | (simp; omega))) (show K.ints _ 0 w6.heap.size (.slice oVR ((Z.SwapSides A).1.R).pw.length kVR) ((Z.SwapSides A).1.R).pw from by with_reducible repeat' (first | exact IVR_13 | refine K.ints.alloc ?_ _ | refine K.ints.drew ?_ | refine K.ints.set ?_ _ ?_ _ | (dsimp only; omega) | omega | (simp; done) | (simp; omega)))) ?_
  rintro e w14 ⟨rfl, f14⟩
  have F14 : K.Ext w w14 := K.Ext.trans (by repeat' (first | with_reducible exact F13 | with_reducible refine K.Ext.setCell ?_ ?_ _ | with_reducible refine K.Ext.alloc ?_ _ | with_reducible refine K.Ext.drew ?_ | (dsimp only; omega) | omega | (simp; omega))) f14
  have c14_0_0 : w14.cell? ⟨w1.heap.size, 0, none⟩ = some (.int .i64 E.L.dg) := f14.cell_of (by go_simp)
  have c14_0_1 : w14.cell? ⟨w1.heap.size, 1, none⟩ = some (.int .i64 E.L.tn) := f14.cell_of (by go_simp)
  have c14_0_2 : w14.cell? ⟨w1.heap.size, 2, none⟩ = some (.string E.L.nm) := f14.cell_of (by go_simp)
  have c14_0_3 : w14.cell? ⟨w1.heap.size, 3, none⟩ = some (.slice oEL E.L.pw.length kEL) := f14.cell_of (by go_simp)
  have c14_0_4 : w14.cell? ⟨w1.heap.size, 4, none⟩ = some (.int .i64 E.R.dg) := f14.cell_of (by go_simp)
  have c14_0_5 : w14.cell? ⟨w1.heap.size, 5, none⟩ = some (.int .i64 E.R.tn) := f14.cell_of (by go_simp)
  have c14_0_6 : w14.cell? ⟨w1.heap.size, 6, none⟩ = some (.string E.R.nm) := f14.cell_of (by go_simp)
  have c14_0_7 : w14.cell? ⟨w1.heap.size, 7, none⟩ = some (.slice oER E.R.pw.length kER) := f14.cell_of (by go_simp)
  have y14_0 : w1.heap.size < w14.heap.size := World.block_lt_of_cell? w14 _ c14_0_0
  have c14_2_0 : w14.cell? ⟨w2.heap.size, 0, none⟩ = some (.int .i64 ((Z.TimesFormula E F).1.L).dg) := f14.cell_of (by go_simp)
  have c14_2_1 : w14.cell? ⟨w2.heap.size, 1, none⟩ = some (.int .i64 ((Z.TimesFormula E F).1.L).tn) := f14.cell_of (by go_simp)
  have c14_2_2 : w14.cell? ⟨w2.heap.size, 2, none⟩ = some (.string ((Z.TimesFormula E F).1.L).nm) := f14.cell_of (by go_simp)
  have c14_2_3 : w14.cell? ⟨w2.heap.size, 3, none⟩ = some (.slice oXL ((Z.TimesFormula E F).1.L).pw.length kXL) := f14.cell_of (by go_simp)
  have c14_2_4 : w14.cell? ⟨w2.heap.size, 4, none⟩ = some (.int .i64 ((Z.TimesFormula E F).1.R).dg) := f14.cell_of (by go_simp)
  have c14_2_5 : w14.cell? ⟨w2.heap.size, 5, none⟩ = some (.int .i64 ((Z.TimesFormula E F).1.R).tn) := f14.cell_of (by go_simp)
  have c14_2_6 : w14.cell? ⟨w2.heap.size, 6, none⟩ = some (.string ((Z.TimesFormula E F).1.R).nm) := f14.cell_of (by go_simp)
  have c14_2_7 : w14.cell? ⟨w2.heap.size, 7, none⟩ = some (.slice oXR ((Z.TimesFormula E F).1.R).pw.length kXR) := f14.cell_of (by go_simp)
  have y14_2 : w2.heap.size < w14.heap.size := World.block_lt_of_cell? w14 _ c14_2_0
  have c14_4_0 : w14.cell? ⟨w4.heap.size, 0, none⟩ = some (.int .i64 A.L.dg) := f14.cell_of (by go_simp)
  have c14_4_1 : w14.cell? ⟨w4.heap.size, 1, none⟩ = some (.int .i64 A.L.tn) := f14.cell_of (by go_simp)
  have c14_4_2 : w14.cell? ⟨w4.heap.size, 2, none⟩ = some (.string A.L.nm) := f14.cell_of (by go_simp)
  have c14_4_3 : w14.cell? ⟨w4.heap.size, 3, none⟩ = some (.slice oAL A.L.pw.length kAL) := f14.cell_of (by go_simp)
  have c14_4_4 : w14.cell? ⟨w4.heap.size, 4, none⟩ = some (.int .i64 A.R.dg) := f14.cell_of (by go_simp)
  have c14_4_5 : w14.cell? ⟨w4.heap.size, 5, none⟩ = some (.int .i64 A.R.tn) := f14.cell_of (by go_simp)
  have c14_4_6 : w14.cell? ⟨w4.heap.size, 6, none⟩ = some (.string A.R.nm) := f14.cell_of (by go_simp)
  have c14_4_7 : w14.cell? ⟨w4.heap.size, 7, none⟩ = some (.slice oAR A.R.pw.length kAR) := f14.cell_of (by go_simp)
  have y14_4 : w4.heap.size < w14.heap.size := World.block_lt_of_cell? w14 _ c14_4_0
  have c14_5_0 : w14.cell? ⟨w5.heap.size, 0, none⟩ = some (.int .i64 ((Z.SwapSides A).1.L).dg) := f14.cell_of (by go_simp)
  have c14_5_1 : w14.cell? ⟨w5.heap.size, 1, none⟩ = some (.int .i64 ((Z.SwapSides A).1.L).tn) := f14.cell_of (by go_simp)
  have c14_5_2 : w14.cell? ⟨w5.heap.size, 2, none⟩ = some (.string ((Z.SwapSides A).1.L).nm) := f14.cell_of (by go_simp)
  have c14_5_3 : w14.cell? ⟨w5.heap.size, 3, none⟩ = some (.slice oSL ((Z.SwapSides A).1.L).pw.length kSL) := f14.cell_of (by go_simp)
  have c14_5_4 : w14.cell? ⟨w5.heap.size, 4, none⟩ = some (.int .i64 ((Z.SwapSides A).1.R).dg) := f14.cell_of (by go_simp)
  have c14_5_5 : w14.cell? ⟨w5.heap.size, 5, none⟩ = some (.int .i64 ((Z.SwapSides A).1.R).tn) := f14.cell_of (by go_simp)
  have c14_5_6 : w14.cell? ⟨w5.heap.size, 6, none⟩ = some (.string ((Z.SwapSides A).1.R).nm) := f14.cell_of (by go_simp)
  have c14_5_7 : w14.cell? ⟨w5.heap.size, 7, none⟩ = some (.slice oSR ((Z.SwapSides A).1.R).pw.length kSR) := f14.cell_of (by go_simp)
  have y14_5 : w5.heap.size < w14.heap.size := World.block_lt_of_cell? w14 _ c14_5_0
  have c14_6_0 : w14.cell? ⟨w6.heap.size, 0, none⟩ = some (.int .i64 ((Z.SwapSides A).1.L).dg) := f14.cell_of (by go_simp)
  have c14_6_1 : w14.cell? ⟨w6.heap.size, 1, none⟩ = some (.int .i64 ((Z.SwapSides A).1.L).tn) := f14.cell_of (by go_simp)
  have c14_6_2 : w14.cell? ⟨w6.heap.size, 2, none⟩ = some (.string ((Z.SwapSides A).1.L).nm) := f14.cell_of (by go_simp)
  have c14_6_3 : w14.cell? ⟨w6.heap.size, 3, none⟩ = some (.slice oVL ((Z.SwapSides A).1.L).pw.length kVL) := f14.cell_of (by go_simp)
  have c14_6_4 : w14.cell? ⟨w6.heap.size, 4, none⟩ = some (.int .i64 ((Z.SwapSides A).1.R).dg) := f14.cell_of (by go_simp)
  have c14_6_5 : w14.cell? ⟨w6.heap.size, 5, none⟩ = some (.int .i64 ((Z.SwapSides A).1.R).tn) := f14.cell_of (by go_simp)
  have c14_6_6 : w14.cell? ⟨w6.heap.size, 6, none⟩ = some (.string ((Z.SwapSides A).1.R).nm) := f14.cell_of (by go_simp)
  have c14_6_7 : w14.cell? ⟨w6.heap.size, 7, none⟩ = some (.slice oVR ((Z.SwapSides A).1.R).pw.length kVR) := f14.cell_of (by go_simp)
  have y14_6 : w6.heap.size < w14.heap.size := World.block_lt_of_cell? w14 _ c14_6_0
  have c14_8_0 : w14.cell? ⟨w8.heap.size, 0, none⟩ = some (.int .i64 ((Z.RaiseSides B c).1.L).dg) := f14.cell_of (by go_simp)
  have c14_8_1 : w14.cell? ⟨w8.heap.size, 1, none⟩ = some (.int .i64 ((Z.RaiseSides B c).1.L).tn) := f14.cell_of (by go_simp)
  have c14_8_2 : w14.cell? ⟨w8.heap.size, 2, none⟩ = some (.string ((Z.RaiseSides B c).1.L).nm) := f14.cell_of (by go_simp)
  have c14_8_3 : w14.cell? ⟨w8.heap.size, 3, none⟩ = some (.slice oRL ((Z.RaiseSides B c).1.L).pw.length kRL) := f14.cell_of (by go_simp)
  have c14_8_4 : w14.cell? ⟨w8.heap.size, 4, none⟩ = some (.int .i64 ((Z.RaiseSides B c).1.R).dg) := f14.cell_of (by go_simp)
  have c14_8_5 : w14.cell? ⟨w8.heap.size, 5, none⟩ = some (.int .i64 ((Z.RaiseSides B c).1.R).tn) := f14.cell_of (by go_simp)
  have c14_8_6 : w14.cell? ⟨w8.heap.size, 6, none⟩ = some (.string ((Z.RaiseSides B c).1.R).nm) := f14.cell_of (by go_simp)
  have c14_8_7 : w14.cell? ⟨w8.heap.size, 7, none⟩ = some (.slice oRR ((Z.RaiseSides B c).1.R).pw.length kRR) := f14.cell_of (by go_simp)
  have y14_8 : w8.heap.size < w14.heap.size := World.block_lt_of_cell? w14 _ c14_8_0
  have c14_9_0 : w14.cell? ⟨w9.heap.size, 0, none⟩ = some (.int .i64 ((Z.RaiseSides B c).1.L).dg) := f14.cell_of (by go_simp)
  have c14_9_1 : w14.cell? ⟨w9.heap.size, 1, none⟩ = some (.int .i64 ((Z.RaiseSides B c).1.L).tn) := f14.cell_of (by go_simp)
  have c14_9_2 : w14.cell? ⟨w9.heap.size, 2, none⟩ = some (.string ((Z.RaiseSides B c).1.L).nm) := f14.cell_of (by go_simp)
  have c14_9_3 : w14.cell? ⟨w9.heap.size, 3, none⟩ = some (.slice oUL ((Z.RaiseSides B c).1.L).pw.length kUL) := f14.cell_of (by go_simp)
  have c14_9_4 : w14.cell? ⟨w9.heap.size, 4, none⟩ = some (.int .i64 ((Z.RaiseSides B c).1.R).dg) := f14.cell_of (by go_simp)
  have c14_9_5 : w14.cell? ⟨w9.heap.size, 5, none⟩ = some (.int .i64 ((Z.RaiseSides B c).1.R).tn) := f14.cell_of (by go_simp)
  have c14_9_6 : w14.cell? ⟨w9.heap.size, 6, none⟩ = some (.string ((Z.RaiseSides B c).1.R).nm) := f14.cell_of (by go_simp)
  have c14_9_7 : w14.cell? ⟨w9.heap.size, 7, none⟩ = some (.slice oUR ((Z.RaiseSides B c).1.R).pw.length kUR) := f14.cell_of (by go_simp)
  have y14_9 : w9.heap.size < w14.heap.size := World.block_lt_of_cell? w14 _ c14_9_0
  have c14_11_0 : w14.cell? ⟨w11.heap.size, 0, none⟩ = some (.int .i64 ((Z.QuotientFormula C).1).dg) := f14.cell_of (by go_simp)
  have c14_11_1 : w14.cell? ⟨w11.heap.size, 1, none⟩ = some (.int .i64 ((Z.QuotientFormula C).1).tn) := f14.cell_of (by go_simp)
  have c14_11_2 : w14.cell? ⟨w11.heap.size, 2, none⟩ = some (.string ((Z.QuotientFormula C).1).nm) := f14.cell_of (by go_simp)
  have c14_11_3 : w14.cell? ⟨w11.heap.size, 3, none⟩ = some (.slice oQ ((Z.QuotientFormula C).1).pw.length kQ) := f14.cell_of (by go_simp)
  have y14_11 : w11.heap.size < w14.heap.size := World.block_lt_of_cell? w14 _ c14_11_0
  have c14_12_0 : w14.cell? ⟨w12.heap.size, 0, none⟩ = some (.int .i64 ((Z.QuotientFormula C).1).dg) := f14.cell_of (by go_simp)
  have c14_12_1 : w14.cell? ⟨w12.heap.size, 1, none⟩ = some (.int .i64 ((Z.QuotientFormula C).1).tn) := f14.cell_of (by go_simp)
  have c14_12_2 : w14.cell? ⟨w12.heap.size, 2, none⟩ = some (.string ((Z.QuotientFormula C).1).nm) := f14.cell_of (by go_simp)
  have c14_12_3 : w14.cell? ⟨w12.heap.size, 3, none⟩ = some (.slice oO ((Z.QuotientFormula C).1).pw.length kO) := f14.cell_of (by go_simp)
  have y14_12 : w12.heap.size < w14.heap.size := World.block_lt_of_cell? w14 _ c14_12_0
  have IEL_14 := K.ints.ext (show K.ints _ 0 w1.heap.size (.slice oEL E.L.pw.length kEL) E.L.pw from by with_reducible repeat' (first | exact IEL_13 | refine K.ints.alloc ?_ _ | refine K.ints.drew ?_ | refine K.ints.set ?_ _ ?_ _ | (dsimp only; omega) | omega | (simp; done) | (simp; omega))) f14
  have IER_14 := K.ints.ext (show K.ints _ 0 w1.heap.size (.slice oER E.R.pw.length kER) E.R.pw from by with_reducible repeat' (first | exact IER_13 | refine K.ints.alloc ?_ _ | refine K.ints.drew ?_ | refine K.ints.set ?_ _ ?_ _ | (dsimp only; omega) | omega | (simp; done) | (simp; omega))) f14
  have IXL_14 := K.ints.ext (show K.ints _ 0 w2.heap.size (.slice oXL ((Z.TimesFormula E F).1.L).pw.length kXL) ((Z.TimesFormula E F).1.L).pw from by with_reducible repeat' (first | exact IXL_13 | refine K.ints.alloc ?_ _ | refine K.ints.drew ?_ | refine K.ints.set ?_ _ ?_ _ | (dsimp only; omega) | omega | (simp; done) | (simp; omega))) f14
  have IXR_14 := K.ints.ext (show K.ints _ 0 w2.heap.size (.slice oXR ((Z.TimesFormula E F).1.R).pw.length kXR) ((Z.TimesFormula E F).1.R).pw from by with_reducible repeat' (first | exact IXR_13 | refine K.ints.alloc ?_ _ | refine K.ints.drew ?_ | refine K.ints.set ?_ _ ?_ _ | (dsimp only; omega) | omega | (simp; done) | (simp; omega))) f14
  have IAL_14 := K.ints.ext (show K.ints _ 0 w4.heap.size (.slice oAL A.L.pw.length kAL) A.L.pw from by with_reducible repeat' (first | exact IAL_13 | refine K.ints.alloc ?_ _ | refine K.ints.drew ?_ | refine K.ints.set ?_ _ ?_ _ | (dsimp only; omega) | omega | (simp; done) | (simp; omega))) f14
  have IAR_14 := K.ints.ext (show K.ints _ 0 w4.heap.size (.slice oAR A.R.pw.length kAR) A.R.pw from by with_reducible repeat' (first | exact IAR_13 | refine K.ints.alloc ?_ _ | refine K.ints.drew ?_ | refine K.ints.set ?_ _ ?_ _ | (dsimp only; omega) | omega | (simp; done) | (simp; omega))) f14
  have ISL_14 := K.ints.ext (show K.ints _ 0 w5.heap.size (.slice oSL ((Z.SwapSides A).1.L).pw.length kSL) ((Z.SwapSides A).1.L).pw from by with_reducible repeat' (first | exact ISL_13 | refine K.ints.alloc ?_ _ | refine K.ints.drew ?_ | refine K.ints.set ?_ _ ?_ _ | (dsimp only; omega) | omega | (simp; done) | (simp; omega))) f14
  have ISR_14 := K.ints.ext (show K.ints _ 0 w5.heap.size (.slice oSR ((Z.SwapSides A).1.R).pw.length kSR) ((Z.SwapSides A).1.R).pw from by with_reducible repeat' (first | exact ISR_13 | refine K.ints.alloc ?_ _ | refine K.ints.drew ?_ | refine K.ints.set ?_ _ ?_ _ | (dsimp only; omega) | omega | (simp; done) | (simp; omega))) f14
  have IVL_14 := K.ints.ext (show K.ints _ 0 w6.heap.size (.slice oVL ((Z.SwapSides A).1.L).pw.length kVL) ((Z.SwapSides A).1.L).pw from by with_reducible repeat' (first | exact IVL_13 | refine K.ints.alloc ?_ _ | refine K.ints.drew ?_ | refine K.ints.set ?_ _ ?_ _ | (dsimp only; omega) | omega | (simp; done) | (simp; omega))) f14
  have IVR_14 := K.ints.ext (show K.ints _ 0 w6.heap.size (.slice oVR ((Z.SwapSides A).1.R).pw.length kVR) ((Z.SwapSides A).1.R).pw from by with_reducible repeat' (first | exact IVR_13 | refine K.ints.alloc ?_ _ | refine K.ints.drew ?_ | refine K.ints.set ?_ _ ?_ _ | (dsimp only; omega) | omega | (simp; done) | (simp; omega))) f14
  have IRL_14 := K.ints.ext (show K.ints _ 0 w8.heap.size (.slice oRL ((Z.RaiseSides B c).1.L).pw.length kRL) ((Z.RaiseSides B c).1.L).pw from by with_reducible repeat' (first | exact IRL_13 | refine K.ints.alloc ?_ _ | refine K.ints.drew ?_ | refine K.ints.set ?_ _ ?_ _ | (dsimp only; omega) | omega | (simp; done) | (simp; omega))) f14
  have IRR_14 := K.ints.ext (show K.ints _ 0 w8.heap.size (.slice oRR ((Z.RaiseSides B c).1.R).pw.length kRR) ((Z.RaiseSides B c).1.R).pw from by with_reducible repeat' (first | exact IRR_13 | refine K.ints.alloc ?_ _ | refine K.ints.drew ?_ | refine K.ints.set ?_ _ ?_ _ | (dsimp only; omega) | omega | (simp; done) | (simp; omega))) f14
  have IUL_14 := K.ints.ext (show K.ints _ 0 w9.heap.size (.slice oUL ((Z.RaiseSides B c).1.L).pw.length kUL) ((Z.RaiseSides B c).1.L).pw from by with_reducible repeat' (first | exact IUL_13 | refine K.ints.alloc ?_ _ | refine K.ints.drew ?_ | refine K.ints.set ?_ _ ?_ _ | (dsimp only; omega) | omega | (simp; done) | (simp; omega))) f14
  have IUR_14 := K.ints.ext (show K.ints _ 0 w9.heap.size (.slice oUR ((Z.RaiseSides B c).1.R).pw.length kUR) ((Z.RaiseSides B c).1.R).pw from by with_reducible repeat' (first | exact IUR_13 | refine K.ints.alloc ?_ _ | refine K.ints.drew ?_ | refine K.ints.set ?_ _ ?_ _ | (dsimp only; omega) | omega | (simp; done) | (simp; omega))) f14
  have IQ_14 := K.ints.ext (show K.ints _ 0 w11.heap.size (.slice oQ ((Z.QuotientFormula C).1).pw.length kQ) ((Z.QuotientFormula C).1).pw from by with_reducible repeat' (first | exact IQ_13 | refine K.ints.alloc ?_ _ | refine K.ints.drew ?_ | refine K.ints.set ?_ _ ?_ _ | (dsimp only; omega) | omega | (simp; done) | (simp; omega))) f14
  have IO_14 := K.ints.ext (show K.ints _ 0 w12.heap.size (.slice oO ((Z.QuotientFormula C).1).pw.length kO) ((Z.QuotientFormula C).1).pw from by with_reducible repeat' (first | exact IO_13 | refine K.ints.alloc ?_ _ | refine K.ints.drew ?_ | refine K.ints.set ?_ _ ?_ _ | (dsimp only; omega) | omega | (simp; done) | (simp; omega))) f14
  clear c13_0_0 c13_0_1 c13_0_2 c13_0_3 c13_0_4 c13_0_5 c13_0_6 c13_0_7 y13_0 c13_2_0 c13_2_1 c13_2_2 c13_2_3 c13_2_4 c13_2_5 c13_2_6 c13_2_7 y13_2 c13_3_0 c13_3_1 c13_3_2 c13_3_3 c13_3_4 c13_3_5 c13_3_6 c13_3_7 y13_3 c13_4_0 c13_4_1 c13_4_2 c13_4_3 c13_4_4 c13_4_5 c13_4_6 c13_4_7 y13_4 c13_5_0 c13_5_1 c13_5_2 c13_5_3 c13_5_4 c13_5_5 c13_5_6 c13_5_7 y13_5 c13_6_0 c13_6_1 c13_6_2 c13_6_3 c13_6_4 c13_6_5 c13_6_6 c13_6_7 y13_6 c13_8_0 c13_8_1 c13_8_2 c13_8_3 c13_8_4 c13_8_5 c13_8_6 c13_8_7 y13_8 c13_9_0 c13_9_1 c13_9_2 c13_9_3 c13_9_4 c13_9_5 c13_9_6 c13_9_7 y13_9 c13_11_0 c13_11_1 c13_11_2 c13_11_3 y13_11 c13_12_0 c13_12_1 c13_12_2 c13_12_3 y13_12 IEL_13 IER_13 IXL_13 IXR_13 IAL_13 IAR_13 ISL_13 ISR_13 IVL_13 IVR_13 IRL_13 IRR_13 IUL_13 IUR_13 IQ_13 IO_13 F13 f14
  go_wp2_with fail
  refine K.call (by with_reducible rfl) (by with_reducible rfl) (likeEquations_same (Z.RaiseSides B c).1 _ _ _ _ _ r1 r2 (show K.ints _ 0 w8.heap.size (.slice oRL ((Z.RaiseSides B c).1.L).pw.length kRL) ((Z.RaiseSides B c).1.L).pw from by with_reducible repeat' (first | exact IRL_14 | refine K.ints.alloc ?_ _ | refine K.ints.drew ?_ | refine K.ints.set ?_ _ ?_ _ | (dsimp only; omega) | omega | (simp; done) | (simp; omega))) (show K.ints _ 0 w8.heap.size (.slice oRR ((Z.RaiseSides B c).1.R).pw.length kRR) ((Z.RaiseSides B c).1.R).pw from by with_reducible repeat' (first | exact IRR_14 | refine K.ints.alloc ?_ _ | refine K.ints.drew ?_ | refine K.ints.set ?_ _ ?_ _ | (dsimp only; omega) | omega | (simp; done) | (simp; omega))) (show K.ints _ 0 w9.heap.size (.slice oUL ((Z.RaiseSides B c).1.L).pw.length kUL) ((Z.RaiseSides B c).1.L).pw from by with_reducible repeat' (first | exact IUL_14 | refine K.ints.alloc ?_ _ | refine K.ints.drew ?_ | refine K.ints.set ?_ _ ?_ _ | (dsimp only; omega) | omega | (simp; done) | (simp; omega))) (show K.ints _ 0 w9.heap.size (.slice oUR ((Z.RaiseSides B c).1.R).pw.length kUR) ((Z.RaiseSides B c).1.R).pw from by with_reducible repeat' (first | exact IUR_14 | refine K.ints.alloc ?_ _ | refine K.ints.drew ?_ | refine K.ints.set ?_ _ ?_ _ | (dsimp only; omega) | omega | (simp; done) | (simp; omega)))) ?_
  rintro e w15 ⟨rfl, f15⟩
  have F15 : K.Ext w w15 := K.Ext.trans (by repeat' (first | with_reducible exact F14 | with_reducible refine K.Ext.setCell ?_ ?_ _ | with_reducible refine K.Ext.alloc ?_ _ | with_reducible refine K.Ext.drew ?_ | (dsimp only; omega) | omega | (simp; omega))) f15
  have c15_0_0 : w15.cell? ⟨w1.heap.size, 0, none⟩ = some (.int .i64 E.L.dg) := f15.cell_of (by go_simp)
  have c15_0_1 : w15.cell? ⟨w1.heap.size, 1, none⟩ = some (.int .i64 E.L.tn) := f15.cell_of (by go_simp)
  have c15_0_2 : w15.cell? ⟨w1.heap.size, 2, none⟩ = some (.string E.L.nm) := f15.cell_of (by go_simp)
  have c15_0_3 : w15.cell? ⟨w1.heap.size, 3, none⟩ = some (.slice oEL E.L.pw.length kEL) := f15.cell_of (by go_simp)
  have c15_0_4 : w15.cell? ⟨w1.heap.size, 4, none⟩ = some (.int .i64 E.R.dg) := f15.cell_of (by go_simp)
  have c15_0_5 : w15.cell? ⟨w1.heap.size, 5, none⟩ = some (.int .i64 E.R.tn) := f15.cell_of (by go_simp)
  have c15_0_6 : w15.cell? ⟨w1.heap.size, 6, none⟩ = some (.string E.R.nm) := f15.cell_of (by go_simp)
  have c15_0_7 : w15.cell? ⟨w1.heap.size, 7, none⟩ = some (.slice oER E.R.pw.length kER) := f15.cell_of (by go_simp)
  have y15_0 : w1.heap.size < w15.heap.size := World.block_lt_of_cell? w15 _ c15_0_0
  have c15_2_0 : w15.cell? ⟨w2.heap.size, 0, none⟩ = some (.int .i64 ((Z.TimesFormula E F).1.L).dg) := f15.cell_of (by go_simp)
  have c15_2_1 : w15.cell? ⟨w2.heap.size, 1, none⟩ = some (.int .i64 ((Z.TimesFormula E F).1.L).tn) := f15.cell_of (by go_simp)
  have c15_2_2 : w15.cell? ⟨w2.heap.size, 2, none⟩ = some (.string ((Z.TimesFormula E F).1.L).nm) := f15.cell_of (by go_simp)
  have c15_2_3 : w15.cell? ⟨w2.heap.size, 3, none⟩ = some (.slice oXL ((Z.TimesFormula E F).1.L).pw.length kXL) := f15.cell_of (by go_simp)
  have c15_2_4 : w15.cell? ⟨w2.heap.size, 4, none⟩ = some (.int .i64 ((Z.TimesFormula E F).1.R).dg) := f15.cell_of (by go_simp)
  have c15_2_5 : w15.cell? ⟨w2.heap.size, 5, none⟩ = some (.int .i64 ((Z.TimesFormula E F).1.R).tn) := f15.cell_of (by go_simp)
  have c15_2_6 : w15.cell? ⟨w2.heap.size, 6, none⟩ = some (.string ((Z.TimesFormula E F).1.R).nm) := f15.cell_of (by go_simp)
  have c15_2_7 : w15.cell? ⟨w2.heap.size, 7, none⟩ = some (.slice oXR ((Z.TimesFormula E F).1.R).pw.length kXR) := f15.cell_of (by go_simp)
  have y15_2 : w2.heap.size < w15.heap.size := World.block_lt_of_cell? w15 _ c15_2_0
  have c15_4_0 : w15.cell? ⟨w4.heap.size, 0, none⟩ = some (.int .i64 A.L.dg) := f15.cell_of (by go_simp)
  have c15_4_1 : w15.cell? ⟨w4.heap.size, 1, none⟩ = some (.int .i64 A.L.tn) := f15.cell_of (by go_simp)
  have c15_4_2 : w15.cell? ⟨w4.heap.size, 2, none⟩ = some (.string A.L.nm) := f15.cell_of (by go_simp)
  have c15_4_3 : w15.cell? ⟨w4.heap.size, 3, none⟩ = some (.slice oAL A.L.pw.length kAL) := f15.cell_of (by go_simp)
  have c15_4_4 : w15.cell? ⟨w4.heap.size, 4, none⟩ = some (.int .i64 A.R.dg) := f15.cell_of (by go_simp)
  have c15_4_5 : w15.cell? ⟨w4.heap.size, 5, none⟩ = some (.int .i64 A.R.tn) := f15.cell_of (by go_simp)
  have c15_4_6 : w15.cell? ⟨w4.heap.size, 6, none⟩ = some (.string A.R.nm) := f15.cell_of (by go_simp)
  have c15_4_7 : w15.cell? ⟨w4.heap.size, 7, none⟩ = some (.slice oAR A.R.pw.length kAR) := f15.cell_of (by go_simp)
  have y15_4 : w4.heap.size < w15.heap.size := World.block_lt_of_cell? w15 _ c15_4_0
  have c15_5_0 : w15.cell? ⟨w5.heap.size, 0, none⟩ = some (.int .i64 ((Z.SwapSides A).1.L).dg) := f15.cell_of (by go_simp)
  have c15_5_1 : w15.cell? ⟨w5.heap.size, 1, none⟩ = some (.int .i64 ((Z.SwapSides A).1.L).tn) := f15.cell_of (by go_simp)
  have c15_5_2 : w15.cell? ⟨w5.heap.size, 2, none⟩ = some (.string ((Z.SwapSides A).1.L).nm) := f15.cell_of (by go_simp)
  have c15_5_3 : w15.cell? ⟨w5.heap.size, 3, none⟩ = some (.slice oSL ((Z.SwapSides A).1.L).pw.length kSL) := f15.cell_of (by go_simp)
  have c15_5_4 : w15.cell? ⟨w5.heap.size, 4, none⟩ = some (.int .i64 ((Z.SwapSides A).1.R).dg) := f15.cell_of (by go_simp)
  have c15_5_5 : w15.cell? ⟨w5.heap.size, 5, none⟩ = some (.int .i64 ((Z.SwapSides A).1.R).tn) := f15.cell_of (by go_simp)
  have c15_5_6 : w15.cell? ⟨w5.heap.size, 6, none⟩ = some (.string ((Z.SwapSides A).1.R).nm) := f15.cell_of (by go_simp)
  have c15_5_7 : w15.cell? ⟨w5.heap.size, 7, none⟩ = some (.slice oSR ((Z.SwapSides A).1.R).pw.length kSR) := f15.cell_of (by go_simp)
  have y15_5 : w5.heap.size < w15.heap.size := World.block_lt_of_cell? w15 _ c15_5_0
  have c15_8_0 : w15.cell? ⟨w8.heap.size, 0, none⟩ = some (.int .i64 ((Z.RaiseSides B c).1.L).dg) := f15.cell_of (by go_simp)
  have c15_8_1 : w15.cell? ⟨w8.heap.size, 1, none⟩ = some (.int .i64 ((Z.RaiseSides B c).1.L).tn) := f15.cell_of (by go_simp)
  have c15_8_2 : w15.cell? ⟨w8.heap.size, 2, none⟩ = some (.string ((Z.RaiseSides B c).1.L).nm) := f15.cell_of (by go_simp)
  have c15_8_3 : w15.cell? ⟨w8.heap.size, 3, none⟩ = some (.slice oRL ((Z.RaiseSides B c).1.L).pw.length kRL) := f15.cell_of (by go_simp)
  have c15_8_4 : w15.cell? ⟨w8.heap.size, 4, none⟩ = some (.int .i64 ((Z.RaiseSides B c).1.R).dg) := f15.cell_of (by go_simp)
  have c15_8_5 : w15.cell? ⟨w8.heap.size, 5, none⟩ = some (.int .i64 ((Z.RaiseSides B c).1.R).tn) := f15.cell_of (by go_simp)
  have c15_8_6 : w15.cell? ⟨w8.heap.size, 6, none⟩ = some (.string ((Z.RaiseSides B c).1.R).nm) := f15.cell_of (by go_simp)
  have c15_8_7 : w15.cell? ⟨w8.heap.size, 7, none⟩ = some (.slice oRR ((Z.RaiseSides B c).1.R).pw.length kRR) := f15.cell_of (by go_simp)
  have y15_8 : w8.heap.size < w15.heap.size := World.block_lt_of_cell? w15 _ c15_8_0
  have c15_9_0 : w15.cell? ⟨w9.heap.size, 0, none⟩ = some (.int .i64 ((Z.RaiseSides B c).1.L).dg) := f15.cell_of (by go_simp)
  have c15_9_1 : w15.cell? ⟨w9.heap.size, 1, none⟩ = some (.int .i64 ((Z.RaiseSides B c).1.L).tn) := f15.cell_of (by go_simp)
  have c15_9_2 : w15.cell? ⟨w9.heap.size, 2, none⟩ = some (.string ((Z.RaiseSides B c).1.L).nm) := f15.cell_of (by go_simp)
  have c15_9_3 : w15.cell? ⟨w9.heap.size, 3, none⟩ = some (.slice oUL ((Z.RaiseSides B c).1.L).pw.length kUL) := f15.cell_of (by go_simp)
  have c15_9_4 : w15.cell? ⟨w9.heap.size, 4, none⟩ = some (.int .i64 ((Z.RaiseSides B c).1.R).dg) := f15.cell_of (by go_simp)
  have c15_9_5 : w15.cell? ⟨w9.heap.size, 5, none⟩ = some (.int .i64 ((Z.RaiseSides B c).1.R).tn) := f15.cell_of (by go_simp)
  have c15_9_6 : w15.cell? ⟨w9.heap.size, 6, none⟩ = some (.string ((Z.RaiseSides B c).1.R).nm) := f15.cell_of (by go_simp)
  have c15_9_7 : w15.cell? ⟨w9.heap.size, 7, none⟩ = some (.slice oUR ((Z.RaiseSides B c).1.R).pw.length kUR) := f15.cell_of (by go_simp)
  have y15_9 : w9.heap.size < w15.heap.size := World.block_lt_of_cell? w15 _ c15_9_0
  have c15_11_0 : w15.cell? ⟨w11.heap.size, 0, none⟩ = some (.int .i64 ((Z.QuotientFormula C).1).dg) := f15.cell_of (by go_simp)
  have c15_11_1 : w15.cell? ⟨w11.heap.size, 1, none⟩ = some (.int .i64 ((Z.QuotientFormula C).1).tn) := f15.cell_of (by go_simp)
  have c15_11_2 : w15.cell? ⟨w11.heap.size, 2, none⟩ = some (.string ((Z.QuotientFormula C).1).nm) := f15.cell_of (by go_simp)
  have c15_11_3 : w15.cell? ⟨w11.heap.size, 3, none⟩ = some (.slice oQ ((Z.QuotientFormula C).1).pw.length kQ) := f15.cell_of (by go_simp)
  have y15_11 : w11.heap.size < w15.heap.size := World.block_lt_of_cell? w15 _ c15_11_0
  have c15_12_0 : w15.cell? ⟨w12.heap.size, 0, none⟩ = some (.int .i64 ((Z.QuotientFormula C).1).dg) := f15.cell_of (by go_simp)
  have c15_12_1 : w15.cell? ⟨w12.heap.size, 1, none⟩ = some (.int .i64 ((Z.QuotientFormula C).1).tn) := f15.cell_of (by go_simp)
  have c15_12_2 : w15.cell? ⟨w12.heap.size, 2, none⟩ = some (.string ((Z.QuotientFormula C).1).nm) := f15.cell_of (by go_simp)
  have c15_12_3 : w15.cell? ⟨w12.heap.size, 3, none⟩ = some (.slice oO ((Z.QuotientFormula C).1).pw.length kO) := f15.cell_of (by go_simp)
  have y15_12 : w12.heap.size < w15.heap.size := World.block_lt_of_cell? w15 _ c15_12_0
  have IEL_15 := K.ints.ext (show K.ints _ 0 w1.heap.size (.slice oEL E.L.pw.length kEL) E.L.pw from by with_reducible repeat' (first | exact IEL_14 | refine K.ints.alloc ?_ _ | refine K.ints.drew ?_ | refine K.ints.set ?_ _ ?_ _ | (dsimp only; omega) | omega | (simp; done) | (simp; omega))) f15
  have IER_15 := K.ints.ext (show K.ints _ 0 w1.heap.size (.slice oER E.R.pw.length kER) E.R.pw from by with_reducible repeat' (first | exact IER_14 | refine K.ints.alloc ?_ _ | refine K.ints.drew ?_ | refine K.ints.set ?_ _ ?_ _ | (dsimp only; omega) | omega | (simp; done) | (simp; omega))) f15
  have IXL_15 := K.ints.ext (show K.ints _ 0 w2.heap.size (.slice oXL ((Z.TimesFormula E F).1.L).pw.length kXL) ((Z.TimesFormula E F).1.L).pw from by with_reducible repeat' (first | exact IXL_14 | refine K.ints.alloc ?_ _ | refine K.ints.drew ?_ | refine K.ints.set ?_ _ ?_ _ | (dsimp only; omega) | omega | (simp; done) | (simp; omega))) f15
  have IXR_15 := K.ints.ext (show K.ints _ 0 w2.heap.size (.slice oXR ((Z.TimesFormula E F).1.R).pw.length kXR) ((Z.TimesFormula E F).1.R).pw from by with_reducible repeat' (first | exact IXR_14 | refine K.ints.alloc ?_ _ | refine K.ints.drew ?_ | refine K.ints.set ?_ _ ?_ _ | (dsimp only; omega) | omega | (simp; done) | (simp; omega))) f15
  have IAL_15 := K.ints.ext (show K.ints _ 0 w4.heap.size (.slice oAL A.L.pw.length kAL) A.L.pw from by with_reducible repeat' (first | exact IAL_14 | refine K.ints.alloc ?_ _ | refine K.ints.drew ?_ | refine K.ints.set ?_ _ ?_ _ | (dsimp only; omega) | omega | (simp; done) | (simp; omega))) f15
  have IAR_15 := K.ints.ext (show K.ints _ 0 w4.heap.size (.slice oAR A.R.pw.length kAR) A.R.pw from by with_reducible repeat' (first | exact IAR_14 | refine K.ints.alloc ?_ _ | refine K.ints.drew ?_ | refine K.ints.set ?_ _ ?_ _ | (dsimp only; omega) | omega | (simp; done) | (simp; omega))) f15
  have ISL_15 := K.ints.ext (show K.ints _ 0 w5.heap.size (.slice oSL ((Z.SwapSides A).1.L).pw.length kSL) ((Z.SwapSides A).1.L).pw from by with_reducible repeat' (first | exact ISL_14 | refine K.ints.alloc ?_ _ | refine K.ints.drew ?_ | refine K.ints.set ?_ _ ?_ _ | (dsimp only; omega) | omega | (simp; done) | (simp; omega))) f15
  have ISR_15 := K.ints.ext (show K.ints _ 0 w5.heap.size (.slice oSR ((Z.SwapSides A).1.R).pw.length kSR) ((Z.SwapSides A).1.R).pw from by with_reducible repeat' (first | exact ISR_14 | refine K.ints.alloc ?_ _ | refine K.ints.drew ?_ | refine K.ints.set ?_ _ ?_ _ | (dsimp only; omega) | omega | (simp; done) | (simp; omega))) f15
  have IRL_15 := K.ints.ext (show K.ints _ 0 w8.heap.size (.slice oRL ((Z.RaiseSides B c).1.L).pw.length kRL) ((Z.RaiseSides B c).1.L).pw from by with_reducible repeat' (first | exact IRL_14 | refine K.ints.alloc ?_ _ | refine K.ints.drew ?_ | refine K.ints.set ?_ _ ?_ _ | (dsimp only; omega) | omega | (simp; done) | (simp; omega))) f15
  have IRR_15 := K.ints.ext (show K.ints _ 0 w8.heap.size (.slice oRR ((Z.RaiseSides B c).1.R).pw.length kRR) ((Z.RaiseSides B c).1.R).pw from by with_reducible repeat' (first | exact IRR_14 | refine K.ints.alloc ?_ _ | refine K.ints.drew ?_ | refine K.ints.set ?_ _ ?_ _ | (dsimp only; omega) | omega | (simp; done) | (simp; omega))) f15
  have IUL_15 := K.ints.ext (show K.ints _ 0 w9.heap.size (.slice oUL ((Z.RaiseSides B c).1.L).pw.length kUL) ((Z.RaiseSides B c).1.L).pw from by with_reducible repeat' (first | exact IUL_14 | refine K.ints.alloc ?_ _ | refine K.ints.drew ?_ | refine K.ints.set ?_ _ ?_ _ | (dsimp only; omega) | omega | (simp; done) | (simp; omega))) f15
  have IUR_15 := K.ints.ext (show K.ints _ 0 w9.heap.size (.slice oUR ((Z.RaiseSides B c).1.R).pw.length kUR) ((Z.RaiseSides B c).1.R).pw from by with_reducible repeat' (first | exact IUR_14 | refine K.ints.alloc ?_ _ | refine K.ints.drew ?_ | refine K.ints.set ?_ _ ?_ _ | (dsimp only; omega) | omega | (simp; done) | (simp; omega))) f15
  have IQ_15 := K.ints.ext (show K.ints _ 0 w11.heap.size (.slice oQ ((Z.QuotientFormula C).1).pw.length kQ) ((Z.QuotientFormula C).1).pw from by with_reducible repeat' (first | exact IQ_14 | refine K.ints.alloc ?_ _ | refine K.ints.drew ?_ | refine K.ints.set ?_ _ ?_ _ | (dsimp only; omega) | omega | (simp; done) | (simp; omega))) f15
  have IO_15 := K.ints.ext (show K.ints _ 0 w12.heap.size (.slice oO ((Z.QuotientFormula C).1).pw.length kO) ((Z.QuotientFormula C).1).pw from by with_reducible repeat' (first | exact IO_14 | refine K.ints.alloc ?_ _ | refine K.ints.drew ?_ | refine K.ints.set ?_ _ ?_ _ | (dsimp only; omega) | omega | (simp; done) | (simp; omega))) f15
  clear c14_0_0 c14_0_1 c14_0_2 c14_0_3 c14_0_4 c14_0_5 c14_0_6 c14_0_7 y14_0 c14_2_0 c14_2_1 c14_2_2 c14_2_3 c14_2_4 c14_2_5 c14_2_6 c14_2_7 y14_2 c14_4_0 c14_4_1 c14_4_2 c14_4_3 c14_4_4 c14_4_5 c14_4_6 c14_4_7 y14_4 c14_5_0 c14_5_1 c14_5_2 c14_5_3 c14_5_4 c14_5_5 c14_5_6 c14_5_7 y14_5 c14_6_0 c14_6_1 c14_6_2 c14_6_3 c14_6_4 c14_6_5 c14_6_6 c14_6_7 y14_6 c14_8_0 c14_8_1 c14_8_2 c14_8_3 c14_8_4 c14_8_5 c14_8_6 c14_8_7 y14_8 c14_9_0 c14_9_1 c14_9_2 c14_9_3 c14_9_4 c14_9_5 c14_9_6 c14_9_7 y14_9 c14_11_0 c14_11_1 c14_11_2 c14_11_3 y14_11 c14_12_0 c14_12_1 c14_12_2 c14_12_3 y14_12 IEL_14 IER_14 IXL_14 IXR_14 IAL_14 IAR_14 ISL_14 ISR_14 IRL_14 IRR_14 IUL_14 IUR_14 IQ_14 IO_14 F14 f15
  go_wp2_with fail
  refine K.call (by with_reducible rfl) (by with_reducible rfl) (likeFormulas_same (Z.QuotientFormula C).1 _ _ _ _ _ _ _ q1 (show K.ints _ 0 w11.heap.size (.slice oQ ((Z.QuotientFormula C).1).pw.length kQ) ((Z.QuotientFormula C).1).pw from by with_reducible repeat' (first | exact IQ_15 | refine K.ints.alloc ?_ _ | refine K.ints.drew ?_ | refine K.ints.set ?_ _ ?_ _ | (dsimp only; omega) | omega | (simp; done) | (simp; omega))) (show K.ints _ 0 w12.heap.size (.slice oO ((Z.QuotientFormula C).1).pw.length kO) ((Z.QuotientFormula C).1).pw from by with_reducible repeat' (first | exact IO_15 | refine K.ints.alloc ?_ _ | refine K.ints.drew ?_ | refine K.ints.set ?_ _ ?_ _ | (dsimp only; omega) | omega | (simp; done) | (simp; omega)))) ?_
  rintro e w16 ⟨rfl, f16⟩
  have F16 : K.Ext w w16 := K.Ext.trans (by repeat' (first | with_reducible exact F15 | with_reducible refine K.Ext.setCell ?_ ?_ _ | with_reducible refine K.Ext.alloc ?_ _ | with_reducible refine K.Ext.drew ?_ | (dsimp only; omega) | omega | (simp; omega))) f16
  have c16_0_0 : w16.cell? ⟨w1.heap.size, 0, none⟩ = some (.int .i64 E.L.dg) := f16.cell_of (by go_simp)
  have c16_0_1 : w16.cell? ⟨w1.heap.size, 1, none⟩ = some (.int .i64 E.L.tn) := f16.cell_of (by go_simp)
  have c16_0_2 : w16.cell? ⟨w1.heap.size, 2, none⟩ = some (.string E.L.nm) := f16.cell_of (by go_simp)
  have c16_0_3 : w16.cell? ⟨w1.heap.size, 3, none⟩ = some (.slice oEL E.L.pw.length kEL) := f16.cell_of (by go_simp)
  have c16_0_4 : w16.cell? ⟨w1.heap.size, 4, none⟩ = some (.int .i64 E.R.dg) := f16.cell_of (by go_simp)
  have c16_0_5 : w16.cell? ⟨w1.heap.size, 5, none⟩ = some (.int .i64 E.R.tn) := f16.cell_of (by go_simp)
  have c16_0_6 : w16.cell? ⟨w1.heap.size, 6, none⟩ = some (.string E.R.nm) := f16.cell_of (by go_simp)
  have c16_0_7 : w16.cell? ⟨w1.heap.size, 7, none⟩ = some (.slice oER E.R.pw.length kER) := f16.cell_of (by go_simp)
  have y16_0 : w1.heap.size < w16.heap.size := World.block_lt_of_cell? w16 _ c16_0_0
  have c16_2_0 : w16.cell? ⟨w2.heap.size, 0, none⟩ = some (.int .i64 ((Z.TimesFormula E F).1.L).dg) := f16.cell_of (by go_simp)
  have c16_2_1 : w16.cell? ⟨w2.heap.size, 1, none⟩ = some (.int .i64 ((Z.TimesFormula E F).1.L).tn) := f16.cell_of (by go_simp)
  have c16_2_2 : w16.cell? ⟨w2.heap.size, 2, none⟩ = some (.string ((Z.TimesFormula E F).1.L).nm) := f16.cell_of (by go_simp)
  have c16_2_3 : w16.cell? ⟨w2.heap.size, 3, none⟩ = some (.slice oXL ((Z.TimesFormula E F).1.L).pw.length kXL) := f16.cell_of (by go_simp)
  have c16_2_4 : w16.cell? ⟨w2.heap.size, 4, none⟩ = some (.int .i64 ((Z.TimesFormula E F).1.R).dg) := f16.cell_of (by go_simp)
  have c16_2_5 : w16.cell? ⟨w2.heap.size, 5, none⟩ = some (.int .i64 ((Z.TimesFormula E F).1.R).tn) := f16.cell_of (by go_simp)
  have c16_2_6 : w16.cell? ⟨w2.heap.size, 6, none⟩ = some (.string ((Z.TimesFormula E F).1.R).nm) := f16.cell_of (by go_simp)
  have c16_2_7 : w16.cell? ⟨w2.heap.size, 7, none⟩ = some (.slice oXR ((Z.TimesFormula E F).1.R).pw.length kXR) := f16.cell_of (by go_simp)
  have y16_2 : w2.heap.size < w16.heap.size := World.block_lt_of_cell? w16 _ c16_2_0
  have c16_4_0 : w16.cell? ⟨w4.heap.size, 0, none⟩ = some (.int .i64 A.L.dg) := f16.cell_of (by go_simp)
  have c16_4_1 : w16.cell? ⟨w4.heap.size, 1, none⟩ = some (.int .i64 A.L.tn) := f16.cell_of (by go_simp)
  have c16_4_2 : w16.cell? ⟨w4.heap.size, 2, none⟩ = some (.string A.L.nm) := f16.cell_of (by go_simp)
  have c16_4_3 : w16.cell? ⟨w4.heap.size, 3, none⟩ = some (.slice oAL A.L.pw.length kAL) := f16.cell_of (by go_simp)
  have c16_4_4 : w16.cell? ⟨w4.heap.size, 4, none⟩ = some (.int .i64 A.R.dg) := f16.cell_of (by go_simp)
  have c16_4_5 : w16.cell? ⟨w4.heap.size, 5, none⟩ = some (.int .i64 A.R.tn) := f16.cell_of (by go_simp)
  have c16_4_6 : w16.cell? ⟨w4.heap.size, 6, none⟩ = some (.string A.R.nm) := f16.cell_of (by go_simp)
  have c16_4_7 : w16.cell? ⟨w4.heap.size, 7, none⟩ = some (.slice oAR A.R.pw.length kAR) := f16.cell_of (by go_simp)
  have y16_4 : w4.heap.size < w16.heap.size := World.block_lt_of_cell? w16 _ c16_4_0
  have c16_5_0 : w16.cell? ⟨w5.heap.size, 0, none⟩ = some (.int .i64 ((Z.SwapSides A).1.L).dg) := f16.cell_of (by go_simp)
  have c16_5_1 : w16.cell? ⟨w5.heap.size, 1, none⟩ = some (.int .i64 ((Z.SwapSides A).1.L).tn) := f16.cell_of (by go_simp)
  have c16_5_2 : w16.cell? ⟨w5.heap.size, 2, none⟩ = some (.string ((Z.SwapSides A).1.L).nm) := f16.cell_of (by go_simp)
  have c16_5_3 : w16.cell? ⟨w5.heap.size, 3, none⟩ = some (.slice oSL ((Z.SwapSides A).1.L).pw.length kSL) := f16.cell_of (by go_simp)
  have c16_5_4 : w16.cell? ⟨w5.heap.size, 4, none⟩ = some (.int .i64 ((Z.SwapSides A).1.R).dg) := f16.cell_of (by go_simp)
  have c16_5_5 : w16.cell? ⟨w5.heap.size, 5, none⟩ = some (.int .i64 ((Z.SwapSides A).1.R).tn) := f16.cell_of (by go_simp)
  have c16_5_6 : w16.cell? ⟨w5.heap.size, 6, none⟩ = some (.string ((Z.SwapSides A).1.R).nm) := f16.cell_of (by go_simp)
  have c16_5_7 : w16.cell? ⟨w5.heap.size, 7, none⟩ = some (.slice oSR ((Z.SwapSides A).1.R).pw.length kSR) := f16.cell_of (by go_simp)
  have y16_5 : w5.heap.size < w16.heap.size := World.block_lt_of_cell? w16 _ c16_5_0
  have c16_11_0 : w16.cell? ⟨w11.heap.size, 0, none⟩ = some (.int .i64 ((Z.QuotientFormula C).1).dg) := f16.cell_of (by go_simp)
  have c16_11_1 : w16.cell? ⟨w11.heap.size, 1, none⟩ = some (.int .i64 ((Z.QuotientFormula C).1).tn) := f16.cell_of (by go_simp)
  have c16_11_2 : w16.cell? ⟨w11.heap.size, 2, none⟩ = some (.string ((Z.QuotientFormula C).1).nm) := f16.cell_of (by go_simp)
  have c16_11_3 : w16.cell? ⟨w11.heap.size, 3, none⟩ = some (.slice oQ ((Z.QuotientFormula C).1).pw.length kQ) := f16.cell_of (by go_simp)
  have y16_11 : w11.heap.size < w16.heap.size := World.block_lt_of_cell? w16 _ c16_11_0
  have c16_12_0 : w16.cell? ⟨w12.heap.size, 0, none⟩ = some (.int .i64 ((Z.QuotientFormula C).1).dg) := f16.cell_of (by go_simp)
  have c16_12_1 : w16.cell? ⟨w12.heap.size, 1, none⟩ = some (.int .i64 ((Z.QuotientFormula C).1).tn) := f16.cell_of (by go_simp)
  have c16_12_2 : w16.cell? ⟨w12.heap.size, 2, none⟩ = some (.string ((Z.QuotientFormula C).1).nm) := f16.cell_of (by go_simp)
  have c16_12_3 : w16.cell? ⟨w12.heap.size, 3, none⟩ = some (.slice oO ((Z.QuotientFormula C).1).pw.length kO) := f16.cell_of (by go_simp)
  have y16_12 : w12.heap.size < w16.heap.size := World.block_lt_of_cell? w16 _ c16_12_0
  have IEL_16 := K.ints.ext (show K.ints _ 0 w1.heap.size (.slice oEL E.L.pw.length kEL) E.L.pw from by with_reducible repeat' (first | exact IEL_15 | refine K.ints.alloc ?_ _ | refine K.ints.drew ?_ | refine K.ints.set ?_ _ ?_ _ | (dsimp only; omega) | omega | (simp; done) | (simp; omega))) f16
  have IER_16 := K.ints.ext (show K.ints _ 0 w1.heap.size (.slice oER E.R.pw.length kER) E.R.pw from by with_reducible repeat' (first | exact IER_15 | refine K.ints.alloc ?_ _ | refine K.ints.drew ?_ | refine K.ints.set ?_ _ ?_ _ | (dsimp only; omega) | omega | (simp; done) | (simp; omega))) f16
  have IXL_16 := K.ints.ext (show K.ints _ 0 w2.heap.size (.slice oXL ((Z.TimesFormula E F).1.L).pw.length kXL) ((Z.TimesFormula E F).1.L).pw from by with_reducible repeat' (first | exact IXL_15 | refine K.ints.alloc ?_ _ | refine K.ints.drew ?_ | refine K.ints.set ?_ _ ?_ _ | (dsimp only; omega) | omega | (simp; done) | (simp; omega))) f16
  have IXR_16 := K.ints.ext (show K.ints _ 0 w2.heap.size (.slice oXR ((Z.TimesFormula E F).1.R).pw.length kXR) ((Z.TimesFormula E F).1.R).pw from by with_reducible repeat' (first | exact IXR_15 | refine K.ints.alloc ?_ _ | refine K.ints.drew ?_ | refine K.ints.set ?_ _ ?_ _ | (dsimp only; omega) | omega | (simp; done) | (simp; omega))) f16
  have IAL_16 := K.ints.ext (show K.ints _ 0 w4.heap.size (.slice oAL A.L.pw.length kAL) A.L.pw from by with_reducible repeat' (first | exact IAL_15 | refine K.ints.alloc ?_ _ | refine K.ints.drew ?_ | refine K.ints.set ?_ _ ?_ _ | (dsimp only; omega) | omega | (simp; done) | (simp; omega))) f16
  have IAR_16 := K.ints.ext (show K.ints _ 0 w4.heap.size (.slice oAR A.R.pw.length kAR) A.R.pw from by with_reducible repeat' (first | exact IAR_15 | refine K.ints.alloc ?_ _ | refine K.ints.drew ?_ | refine K.ints.set ?_ _ ?_ _ | (dsimp only; omega) | omega | (simp; done) | (simp; omega))) f16
  have ISL_16 := K.ints.ext (show K.ints _ 0 w5.heap.size (.slice oSL ((Z.SwapSides A).1.L).pw.length kSL) ((Z.SwapSides A).1.L).pw from by with_reducible repeat' (first | exact ISL_15 | refine K.ints.alloc ?_ _ | refine K.ints.drew ?_ | refine K.ints.set ?_ _ ?_ _ | (dsimp only; omega) | omega | (simp; done) | (simp; omega))) f16
  have ISR_16 := K.ints.ext (show K.ints _ 0 w5.heap.size (.slice oSR ((Z.SwapSides A).1.R).pw.length kSR) ((Z.SwapSides A).1.R).pw from by with_reducible repeat' (first | exact ISR_15 | refine K.ints.alloc ?_ _ | refine K.ints.drew ?_ | refine K.ints.set ?_ _ ?_ _ | (dsimp only; omega) | omega | (simp; done) | (simp; omega))) f16
  have IQ_16 := K.ints.ext (show K.ints _ 0 w11.heap.size (.slice oQ ((Z.QuotientFormula C).1).pw.length kQ) ((Z.QuotientFormula C).1).pw from by with_reducible repeat' (first | exact IQ_15 | refine K.ints.alloc ?_ _ | refine K.ints.drew ?_ | refine K.ints.set ?_ _ ?_ _ | (dsimp only; omega) | omega | (simp; done) | (simp; omega))) f16
  have IO_16 := K.ints.ext (show K.ints _ 0 w12.heap.size (.slice oO ((Z.QuotientFormula C).1).pw.length kO) ((Z.QuotientFormula C).1).pw from by with_reducible repeat' (first | exact IO_15 | refine K.ints.alloc ?_ _ | refine K.ints.drew ?_ | refine K.ints.set ?_ _ ?_ _ | (dsimp only; omega) | omega | (simp; done) | (simp; omega))) f16
  clear c15_0_0 c15_0_1 c15_0_2 c15_0_3 c15_0_4 c15_0_5 c15_0_6 c15_0_7 y15_0 c15_2_0 c15_2_1 c15_2_2 c15_2_3 c15_2_4 c15_2_5 c15_2_6 c15_2_7 y15_2 c15_4_0 c15_4_1 c15_4_2 c15_4_3 c15_4_4 c15_4_5 c15_4_6 c15_4_7 y15_4 c15_5_0 c15_5_1 c15_5_2 c15_5_3 c15_5_4 c15_5_5 c15_5_6 c15_5_7 y15_5 c15_8_0 c15_8_1 c15_8_2 c15_8_3 c15_8_4 c15_8_5 c15_8_6 c15_8_7 y15_8 c15_9_0 c15_9_1 c15_9_2 c15_9_3 c15_9_4 c15_9_5 c15_9_6 c15_9_7 y15_9 c15_11_0 c15_11_1 c15_11_2 c15_11_3 y15_11 c15_12_0 c15_12_1 c15_12_2 c15_12_3 y15_12 IEL_15 IER_15 IXL_15 IXR_15 IAL_15 IAR_15 ISL_15 ISR_15 IQ_15 IO_15 F15 f16
  go_wp2_with fail
  refine K.call (by with_reducible rfl) (by with_reducible rfl) (impl_IsEquation A _ (by omega) (by omega) (by omega) (by omega) (show K.ints _ 0 w4.heap.size (.slice oAL A.L.pw.length kAL) A.L.pw from by with_reducible repeat' (first | exact IAL_16 | refine K.ints.alloc ?_ _ | refine K.ints.drew ?_ | refine K.ints.set ?_ _ ?_ _ | (dsimp only; omega) | omega | (simp; done) | (simp; omega))) (show K.ints _ 0 w4.heap.size (.slice oAR A.R.pw.length kAR) A.R.pw from by with_reducible repeat' (first | exact IAR_16 | refine K.ints.alloc ?_ _ | refine K.ints.drew ?_ | refine K.ints.set ?_ _ ?_ _ | (dsimp only; omega) | omega | (simp; done) | (simp; omega)))) ?_
  rintro e w17 ⟨rfl, f17⟩
  have F17 : K.Ext w w17 := K.Ext.trans (by repeat' (first | with_reducible exact F16 | with_reducible refine K.Ext.setCell ?_ ?_ _ | with_reducible refine K.Ext.alloc ?_ _ | with_reducible refine K.Ext.drew ?_ | (dsimp only; omega) | omega | (simp; omega))) f17
  have c17_0_0 : w17.cell? ⟨w1.heap.size, 0, none⟩ = some (.int .i64 E.L.dg) := f17.cell_of (by go_simp)
  have c17_0_1 : w17.cell? ⟨w1.heap.size, 1, none⟩ = some (.int .i64 E.L.tn) := f17.cell_of (by go_simp)
  have c17_0_2 : w17.cell? ⟨w1.heap.size, 2, none⟩ = some (.string E.L.nm) := f17.cell_of (by go_simp)
  have c17_0_3 : w17.cell? ⟨w1.heap.size, 3, none⟩ = some (.slice oEL E.L.pw.length kEL) := f17.cell_of (by go_simp)
  have c17_0_4 : w17.cell? ⟨w1.heap.size, 4, none⟩ = some (.int .i64 E.R.dg) := f17.cell_of (by go_simp)
  have c17_0_5 : w17.cell? ⟨w1.heap.size, 5, none⟩ = some (.int .i64 E.R.tn) := f17.cell_of (by go_simp)
  have c17_0_6 : w17.cell? ⟨w1.heap.size, 6, none⟩ = some (.string E.R.nm) := f17.cell_of (by go_simp)
  have c17_0_7 : w17.cell? ⟨w1.heap.size, 7, none⟩ = some (.slice oER E.R.pw.length kER) := f17.cell_of (by go_simp)
  have y17_0 : w1.heap.size < w17.heap.size := World.block_lt_of_cell? w17 _ c17_0_0
  have c17_2_0 : w17.cell? ⟨w2.heap.size, 0, none⟩ = some (.int .i64 ((Z.TimesFormula E F).1.L).dg) := f17.cell_of (by go_simp)
  have c17_2_1 : w17.cell? ⟨w2.heap.size, 1, none⟩ = some (.int .i64 ((Z.TimesFormula E F).1.L).tn) := f17.cell_of (by go_simp)
  have c17_2_2 : w17.cell? ⟨w2.heap.size, 2, none⟩ = some (.string ((Z.TimesFormula E F).1.L).nm) := f17.cell_of (by go_simp)
  have c17_2_3 : w17.cell? ⟨w2.heap.size, 3, none⟩ = some (.slice oXL ((Z.TimesFormula E F).1.L).pw.length kXL) := f17.cell_of (by go_simp)
  have c17_2_4 : w17.cell? ⟨w2.heap.size, 4, none⟩ = some (.int .i64 ((Z.TimesFormula E F).1.R).dg) := f17.cell_of (by go_simp)
  have c17_2_5 : w17.cell? ⟨w2.heap.size, 5, none⟩ = some (.int .i64 ((Z.TimesFormula E F).1.R).tn) := f17.cell_of (by go_simp)
  have c17_2_6 : w17.cell? ⟨w2.heap.size, 6, none⟩ = some (.string ((Z.TimesFormula E F).1.R).nm) := f17.cell_of (by go_simp)
  have c17_2_7 : w17.cell? ⟨w2.heap.size, 7, none⟩ = some (.slice oXR ((Z.TimesFormula E F).1.R).pw.length kXR) := f17.cell_of (by go_simp)
  have y17_2 : w2.heap.size < w17.heap.size := World.block_lt_of_cell? w17 _ c17_2_0
  have c17_4_0 : w17.cell? ⟨w4.heap.size, 0, none⟩ = some (.int .i64 A.L.dg) := f17.cell_of (by go_simp)
  have c17_4_1 : w17.cell? ⟨w4.heap.size, 1, none⟩ = some (.int .i64 A.L.tn) := f17.cell_of (by go_simp)
  have c17_4_2 : w17.cell? ⟨w4.heap.size, 2, none⟩ = some (.string A.L.nm) := f17.cell_of (by go_simp)
  have c17_4_3 : w17.cell? ⟨w4.heap.size, 3, none⟩ = some (.slice oAL A.L.pw.length kAL) := f17.cell_of (by go_simp)
  have c17_4_4 : w17.cell? ⟨w4.heap.size, 4, none⟩ = some (.int .i64 A.R.dg) := f17.cell_of (by go_simp)
  have c17_4_5 : w17.cell? ⟨w4.heap.size, 5, none⟩ = some (.int .i64 A.R.tn) := f17.cell_of (by go_simp)
  have c17_4_6 : w17.cell? ⟨w4.heap.size, 6, none⟩ = some (.string A.R.nm) := f17.cell_of (by go_simp)
  have c17_4_7 : w17.cell? ⟨w4.heap.size, 7, none⟩ = some (.slice oAR A.R.pw.length kAR) := f17.cell_of (by go_simp)
  have y17_4 : w4.heap.size < w17.heap.size := World.block_lt_of_cell? w17 _ c17_4_0
  have c17_5_0 : w17.cell? ⟨w5.heap.size, 0, none⟩ = some (.int .i64 ((Z.SwapSides A).1.L).dg) := f17.cell_of (by go_simp)
  have c17_5_1 : w17.cell? ⟨w5.heap.size, 1, none⟩ = some (.int .i64 ((Z.SwapSides A).1.L).tn) := f17.cell_of (by go_simp)
  have c17_5_2 : w17.cell? ⟨w5.heap.size, 2, none⟩ = some (.string ((Z.SwapSides A).1.L).nm) := f17.cell_of (by go_simp)
  have c17_5_3 : w17.cell? ⟨w5.heap.size, 3, none⟩ = some (.slice oSL ((Z.SwapSides A).1.L).pw.length kSL) := f17.cell_of (by go_simp)
  have c17_5_4 : w17.cell? ⟨w5.heap.size, 4, none⟩ = some (.int .i64 ((Z.SwapSides A).1.R).dg) := f17.cell_of (by go_simp)
  have c17_5_5 : w17.cell? ⟨w5.heap.size, 5, none⟩ = some (.int .i64 ((Z.SwapSides A).1.R).tn) := f17.cell_of (by go_simp)
  have c17_5_6 : w17.cell? ⟨w5.heap.size, 6, none⟩ = some (.string ((Z.SwapSides A).1.R).nm) := f17.cell_of (by go_simp)
  have c17_5_7 : w17.cell? ⟨w5.heap.size, 7, none⟩ = some (.slice oSR ((Z.SwapSides A).1.R).pw.length kSR) := f17.cell_of (by go_simp)
  have y17_5 : w5.heap.size < w17.heap.size := World.block_lt_of_cell? w17 _ c17_5_0
  have IEL_17 := K.ints.ext (show K.ints _ 0 w1.heap.size (.slice oEL E.L.pw.length kEL) E.L.pw from by with_reducible repeat' (first | exact IEL_16 | refine K.ints.alloc ?_ _ | refine K.ints.drew ?_ | refine K.ints.set ?_ _ ?_ _ | (dsimp only; omega) | omega | (simp; done) | (simp; omega))) f17
  have IER_17 := K.ints.ext (show K.ints _ 0 w1.heap.size (.slice oER E.R.pw.length kER) E.R.pw from by with_reducible repeat' (first | exact IER_16 | refine K.ints.alloc ?_ _ | refine K.ints.drew ?_ | refine K.ints.set ?_ _ ?_ _ | (dsimp only; omega) | omega | (simp; done) | (simp; omega))) f17
  have IXL_17 := K.ints.ext (show K.ints _ 0 w2.heap.size (.slice oXL ((Z.TimesFormula E F).1.L).pw.length kXL) ((Z.TimesFormula E F).1.L).pw from by with_reducible repeat' (first | exact IXL_16 | refine K.ints.alloc ?_ _ | refine K.ints.drew ?_ | refine K.ints.set ?_ _ ?_ _ | (dsimp only; omega) | omega | (simp; done) | (simp; omega))) f17
  have IXR_17 := K.ints.ext (show K.ints _ 0 w2.heap.size (.slice oXR ((Z.TimesFormula E F).1.R).pw.length kXR) ((Z.TimesFormula E F).1.R).pw from by with_reducible repeat' (first | exact IXR_16 | refine K.ints.alloc ?_ _ | refine K.ints.drew ?_ | refine K.ints.set ?_ _ ?_ _ | (dsimp only; omega) | omega | (simp; done) | (simp; omega))) f17
  have IAL_17 := K.ints.ext (show K.ints _ 0 w4.heap.size (.slice oAL A.L.pw.length kAL) A.L.pw from by with_reducible repeat' (first | exact IAL_16 | refine K.ints.alloc ?_ _ | refine K.ints.drew ?_ | refine K.ints.set ?_ _ ?_ _ | (dsimp only; omega) | omega | (simp; done) | (simp; omega))) f17
  have IAR_17 := K.ints.ext (show K.ints _ 0 w4.heap.size (.slice oAR A.R.pw.length kAR) A.R.pw from by with_reducible repeat' (first | exact IAR_16 | refine K.ints.alloc ?_ _ | refine K.ints.drew ?_ | refine K.ints.set ?_ _ ?_ _ | (dsimp only; omega) | omega | (simp; done) | (simp; omega))) f17
  have ISL_17 := K.ints.ext (show K.ints _ 0 w5.heap.size (.slice oSL ((Z.SwapSides A).1.L).pw.length kSL) ((Z.SwapSides A).1.L).pw from by with_reducible repeat' (first | exact ISL_16 | refine K.ints.alloc ?_ _ | refine K.ints.drew ?_ | refine K.ints.set ?_ _ ?_ _ | (dsimp only; omega) | omega | (simp; done) | (simp; omega))) f17
  have ISR_17 := K.ints.ext (show K.ints _ 0 w5.heap.size (.slice oSR ((Z.SwapSides A).1.R).pw.length kSR) ((Z.SwapSides A).1.R).pw from by with_reducible repeat' (first | exact ISR_16 | refine K.ints.alloc ?_ _ | refine K.ints.drew ?_ | refine K.ints.set ?_ _ ?_ _ | (dsimp only; omega) | omega | (simp; done) | (simp; omega))) f17
  clear c16_0_0 c16_0_1 c16_0_2 c16_0_3 c16_0_4 c16_0_5 c16_0_6 c16_0_7 y16_0 c16_2_0 c16_2_1 c16_2_2 c16_2_3 c16_2_4 c16_2_5 c16_2_6 c16_2_7 y16_2 c16_4_0 c16_4_1 c16_4_2 c16_4_3 c16_4_4 c16_4_5 c16_4_6 c16_4_7 y16_4 c16_5_0 c16_5_1 c16_5_2 c16_5_3 c16_5_4 c16_5_5 c16_5_6 c16_5_7 y16_5 c16_11_0 c16_11_1 c16_11_2 c16_11_3 y16_11 c16_12_0 c16_12_1 c16_12_2 c16_12_3 y16_12 IEL_16 IER_16 IXL_16 IXR_16 IAL_16 IAR_16 ISL_16 ISR_16 F16 f17
  by_cases h1 : (Z.SwapSides A).2 = 0
  · have hs := Z.swap_law h1
    have hie : Z.isEquation A = true := by rw [← hsw, h1]; rfl
    clear hsw
    obtain ⟨w1_, w2_⟩ : (Z.SwapSides A).1.L.nm.size ≤ 1048576 ∧ (Z.SwapSides A).1.R.nm.size ≤ 1048576 := Z.swap_nm A (by omega) (by omega)
    go_wp2_with fail
    refine K.call (by with_reducible rfl) (by with_reducible rfl) (impl_Swap (Z.SwapSides A).1 hs _ s1 w1_ s2 w2_ (show K.ints _ 0 w5.heap.size (.slice oSL ((Z.SwapSides A).1.L).pw.length kSL) ((Z.SwapSides A).1.L).pw from by with_reducible repeat' (first | exact ISL_17 | refine K.ints.alloc ?_ _ | refine K.ints.drew ?_ | refine K.ints.set ?_ _ ?_ _ | (dsimp only; omega) | omega | (simp; done) | (simp; omega))) (show K.ints _ 0 w5.heap.size (.slice oSR ((Z.SwapSides A).1.R).pw.length kSR) ((Z.SwapSides A).1.R).pw from by with_reducible repeat' (first | exact ISR_17 | refine K.ints.alloc ?_ _ | refine K.ints.drew ?_ | refine K.ints.set ?_ _ ?_ _ | (dsimp only; omega) | omega | (simp; done) | (simp; omega)))) ?_
    rintro e w18 ⟨⟨pK, qK, mK, rfl, uK, vK, hK, jK⟩, f18⟩
    obtain ⟨oKL, kKL, rfl, _⟩ := id (K.own.ints hK)
    have IKL_18 : K.ints w18 0 w18.heap.size (.slice oKL A.L.pw.length kKL) A.L.pw := (K.own.ints hK).mono (Nat.zero_le _) (by omega)
    obtain ⟨oKR, kKR, rfl, _⟩ := id (K.own.ints jK)
    have IKR_18 : K.ints w18 0 w18.heap.size (.slice oKR A.R.pw.length kKR) A.R.pw := (K.own.ints jK).mono (Nat.zero_le _) (by omega)
    have F18 : K.Ext w w18 := K.Ext.trans (by repeat' (first | with_reducible exact F17 | with_reducible refine K.Ext.setCell ?_ ?_ _ | with_reducible refine K.Ext.alloc ?_ _ | with_reducible refine K.Ext.drew ?_ | (dsimp only; omega) | omega | (simp; omega))) f18
    have c18_0_0 : w18.cell? ⟨w1.heap.size, 0, none⟩ = some (.int .i64 E.L.dg) := f18.cell_of (by go_simp)
    have c18_0_1 : w18.cell? ⟨w1.heap.size, 1, none⟩ = some (.int .i64 E.L.tn) := f18.cell_of (by go_simp)
    have c18_0_2 : w18.cell? ⟨w1.heap.size, 2, none⟩ = some (.string E.L.nm) := f18.cell_of (by go_simp)
    have c18_0_3 : w18.cell? ⟨w1.heap.size, 3, none⟩ = some (.slice oEL E.L.pw.length kEL) := f18.cell_of (by go_simp)
    have c18_0_4 : w18.cell? ⟨w1.heap.size, 4, none⟩ = some (.int .i64 E.R.dg) := f18.cell_of (by go_simp)
    have c18_0_5 : w18.cell? ⟨w1.heap.size, 5, none⟩ = some (.int .i64 E.R.tn) := f18.cell_of (by go_simp)
    have c18_0_6 : w18.cell? ⟨w1.heap.size, 6, none⟩ = some (.string E.R.nm) := f18.cell_of (by go_simp)
    have c18_0_7 : w18.cell? ⟨w1.heap.size, 7, none⟩ = some (.slice oER E.R.pw.length kER) := f18.cell_of (by go_simp)
    have y18_0 : w1.heap.size < w18.heap.size := World.block_lt_of_cell? w18 _ c18_0_0
    have c18_2_0 : w18.cell? ⟨w2.heap.size, 0, none⟩ = some (.int .i64 ((Z.TimesFormula E F).1.L).dg) := f18.cell_of (by go_simp)
    have c18_2_1 : w18.cell? ⟨w2.heap.size, 1, none⟩ = some (.int .i64 ((Z.TimesFormula E F).1.L).tn) := f18.cell_of (by go_simp)
    have c18_2_2 : w18.cell? ⟨w2.heap.size, 2, none⟩ = some (.string ((Z.TimesFormula E F).1.L).nm) := f18.cell_of (by go_simp)
    have c18_2_3 : w18.cell? ⟨w2.heap.size, 3, none⟩ = some (.slice oXL ((Z.TimesFormula E F).1.L).pw.length kXL) := f18.cell_of (by go_simp)
    have c18_2_4 : w18.cell? ⟨w2.heap.size, 4, none⟩ = some (.int .i64 ((Z.TimesFormula E F).1.R).dg) := f18.cell_of (by go_simp)
    have c18_2_5 : w18.cell? ⟨w2.heap.size, 5, none⟩ = some (.int .i64 ((Z.TimesFormula E F).1.R).tn) := f18.cell_of (by go_simp)
    have c18_2_6 : w18.cell? ⟨w2.heap.size, 6, none⟩ = some (.string ((Z.TimesFormula E F).1.R).nm) := f18.cell_of (by go_simp)
    have c18_2_7 : w18.cell? ⟨w2.heap.size, 7, none⟩ = some (.slice oXR ((Z.TimesFormula E F).1.R).pw.length kXR) := f18.cell_of (by go_simp)
    have y18_2 : w2.heap.size < w18.heap.size := World.block_lt_of_cell? w18 _ c18_2_0
    have c18_4_0 : w18.cell? ⟨w4.heap.size, 0, none⟩ = some (.int .i64 A.L.dg) := f18.cell_of (by go_simp)
    have c18_4_1 : w18.cell? ⟨w4.heap.size, 1, none⟩ = some (.int .i64 A.L.tn) := f18.cell_of (by go_simp)
    have c18_4_2 : w18.cell? ⟨w4.heap.size, 2, none⟩ = some (.string A.L.nm) := f18.cell_of (by go_simp)
    have c18_4_3 : w18.cell? ⟨w4.heap.size, 3, none⟩ = some (.slice oAL A.L.pw.length kAL) := f18.cell_of (by go_simp)
    have c18_4_4 : w18.cell? ⟨w4.heap.size, 4, none⟩ = some (.int .i64 A.R.dg) := f18.cell_of (by go_simp)
    have c18_4_5 : w18.cell? ⟨w4.heap.size, 5, none⟩ = some (.int .i64 A.R.tn) := f18.cell_of (by go_simp)
    have c18_4_6 : w18.cell? ⟨w4.heap.size, 6, none⟩ = some (.string A.R.nm) := f18.cell_of (by go_simp)
    have c18_4_7 : w18.cell? ⟨w4.heap.size, 7, none⟩ = some (.slice oAR A.R.pw.length kAR) := f18.cell_of (by go_simp)
    have y18_4 : w4.heap.size < w18.heap.size := World.block_lt_of_cell? w18 _ c18_4_0
    have c18_5_0 : w18.cell? ⟨w5.heap.size, 0, none⟩ = some (.int .i64 ((Z.SwapSides A).1.L).dg) := f18.cell_of (by go_simp)
    have c18_5_1 : w18.cell? ⟨w5.heap.size, 1, none⟩ = some (.int .i64 ((Z.SwapSides A).1.L).tn) := f18.cell_of (by go_simp)
    have c18_5_2 : w18.cell? ⟨w5.heap.size, 2, none⟩ = some (.string ((Z.SwapSides A).1.L).nm) := f18.cell_of (by go_simp)
    have c18_5_3 : w18.cell? ⟨w5.heap.size, 3, none⟩ = some (.slice oSL ((Z.SwapSides A).1.L).pw.length kSL) := f18.cell_of (by go_simp)
    have c18_5_4 : w18.cell? ⟨w5.heap.size, 4, none⟩ = some (.int .i64 ((Z.SwapSides A).1.R).dg) := f18.cell_of (by go_simp)
    have c18_5_5 : w18.cell? ⟨w5.heap.size, 5, none⟩ = some (.int .i64 ((Z.SwapSides A).1.R).tn) := f18.cell_of (by go_simp)
    have c18_5_6 : w18.cell? ⟨w5.heap.size, 6, none⟩ = some (.string ((Z.SwapSides A).1.R).nm) := f18.cell_of (by go_simp)
    have c18_5_7 : w18.cell? ⟨w5.heap.size, 7, none⟩ = some (.slice oSR ((Z.SwapSides A).1.R).pw.length kSR) := f18.cell_of (by go_simp)
    have y18_5 : w5.heap.size < w18.heap.size := World.block_lt_of_cell? w18 _ c18_5_0
    have IEL_18 := K.ints.ext (show K.ints _ 0 w1.heap.size (.slice oEL E.L.pw.length kEL) E.L.pw from by with_reducible repeat' (first | exact IEL_17 | refine K.ints.alloc ?_ _ | refine K.ints.drew ?_ | refine K.ints.set ?_ _ ?_ _ | (dsimp only; omega) | omega | (simp; done) | (simp; omega))) f18
    have IER_18 := K.ints.ext (show K.ints _ 0 w1.heap.size (.slice oER E.R.pw.length kER) E.R.pw from by with_reducible repeat' (first | exact IER_17 | refine K.ints.alloc ?_ _ | refine K.ints.drew ?_ | refine K.ints.set ?_ _ ?_ _ | (dsimp only; omega) | omega | (simp; done) | (simp; omega))) f18
    have IXL_18 := K.ints.ext (show K.ints _ 0 w2.heap.size (.slice oXL ((Z.TimesFormula E F).1.L).pw.length kXL) ((Z.TimesFormula E F).1.L).pw from by with_reducible repeat' (first | exact IXL_17 | refine K.ints.alloc ?_ _ | refine K.ints.drew ?_ | refine K.ints.set ?_ _ ?_ _ | (dsimp only; omega) | omega | (simp; done) | (simp; omega))) f18
    have IXR_18 := K.ints.ext (show K.ints _ 0 w2.heap.size (.slice oXR ((Z.TimesFormula E F).1.R).pw.length kXR) ((Z.TimesFormula E F).1.R).pw from by with_reducible repeat' (first | exact IXR_17 | refine K.ints.alloc ?_ _ | refine K.ints.drew ?_ | refine K.ints.set ?_ _ ?_ _ | (dsimp only; omega) | omega | (simp; done) | (simp; omega))) f18
    have IAL_18 := K.ints.ext (show K.ints _ 0 w4.heap.size (.slice oAL A.L.pw.length kAL) A.L.pw from by with_reducible repeat' (first | exact IAL_17 | refine K.ints.alloc ?_ _ | refine K.ints.drew ?_ | refine K.ints.set ?_ _ ?_ _ | (dsimp only; omega) | omega | (simp; done) | (simp; omega))) f18
    have IAR_18 := K.ints.ext (show K.ints _ 0 w4.heap.size (.slice oAR A.R.pw.length kAR) A.R.pw from by with_reducible repeat' (first | exact IAR_17 | refine K.ints.alloc ?_ _ | refine K.ints.drew ?_ | refine K.ints.set ?_ _ ?_ _ | (dsimp only; omega) | omega | (simp; done) | (simp; omega))) f18
    have ISL_18 := K.ints.ext (show K.ints _ 0 w5.heap.size (.slice oSL ((Z.SwapSides A).1.L).pw.length kSL) ((Z.SwapSides A).1.L).pw from by with_reducible repeat' (first | exact ISL_17 | refine K.ints.alloc ?_ _ | refine K.ints.drew ?_ | refine K.ints.set ?_ _ ?_ _ | (dsimp only; omega) | omega | (simp; done) | (simp; omega))) f18
    have ISR_18 := K.ints.ext (show K.ints _ 0 w5.heap.size (.slice oSR ((Z.SwapSides A).1.R).pw.length kSR) ((Z.SwapSides A).1.R).pw from by with_reducible repeat' (first | exact ISR_17 | refine K.ints.alloc ?_ _ | refine K.ints.drew ?_ | refine K.ints.set ?_ _ ?_ _ | (dsimp only; omega) | omega | (simp; done) | (simp; omega))) f18
    clear c17_0_0 c17_0_1 c17_0_2 c17_0_3 c17_0_4 c17_0_5 c17_0_6 c17_0_7 y17_0 c17_2_0 c17_2_1 c17_2_2 c17_2_3 c17_2_4 c17_2_5 c17_2_6 c17_2_7 y17_2 c17_4_0 c17_4_1 c17_4_2 c17_4_3 c17_4_4 c17_4_5 c17_4_6 c17_4_7 y17_4 c17_5_0 c17_5_1 c17_5_2 c17_5_3 c17_5_4 c17_5_5 c17_5_6 c17_5_7 y17_5 IEL_17 IER_17 IXL_17 IXR_17 IAL_17 IAR_17 ISL_17 ISR_17 F17 f18
    go_wp2_with fail
    refine K.call (by with_reducible rfl) (by with_reducible rfl) (likeEquations_same A _ _ _ _ _ (by omega) (by omega) (show K.ints _ 0 w18.heap.size (.slice oKL A.L.pw.length kKL) A.L.pw from by with_reducible repeat' (first | exact IKL_18 | refine K.ints.alloc ?_ _ | refine K.ints.drew ?_ | refine K.ints.set ?_ _ ?_ _ | (dsimp only; omega) | omega | (simp; done) | (simp; omega))) (show K.ints _ 0 w18.heap.size (.slice oKR A.R.pw.length kKR) A.R.pw from by with_reducible repeat' (first | exact IKR_18 | refine K.ints.alloc ?_ _ | refine K.ints.drew ?_ | refine K.ints.set ?_ _ ?_ _ | (dsimp only; omega) | omega | (simp; done) | (simp; omega))) (show K.ints _ 0 w4.heap.size (.slice oAL A.L.pw.length kAL) A.L.pw from by with_reducible repeat' (first | exact IAL_18 | refine K.ints.alloc ?_ _ | refine K.ints.drew ?_ | refine K.ints.set ?_ _ ?_ _ | (dsimp only; omega) | omega | (simp; done) | (simp; omega))) (show K.ints _ 0 w4.heap.size (.slice oAR A.R.pw.length kAR) A.R.pw from by with_reducible repeat' (first | exact IAR_18 | refine K.ints.alloc ?_ _ | refine K.ints.drew ?_ | refine K.ints.set ?_ _ ?_ _ | (dsimp only; omega) | omega | (simp; done) | (simp; omega)))) ?_
    rintro e w19 ⟨rfl, f19⟩
    have u19_0_1 : w1.heap.size < w18.heap.size + 1 := (by omega)
    have u19_2_1 : w2.heap.size < w18.heap.size + 1 := (by omega)
    have u19_4_1 : w4.heap.size < w18.heap.size + 1 := (by omega)
    have u19_5_1 : w5.heap.size < w18.heap.size + 1 := (by omega)
    have F19 : K.Ext w w19 := K.Ext.trans (by repeat' (first | with_reducible exact F18 | with_reducible refine K.Ext.setCell ?_ ?_ _ | with_reducible refine K.Ext.alloc ?_ _ | with_reducible refine K.Ext.drew ?_ | (dsimp only; omega) | omega | (simp; omega))) f19
    have c19_0_0 : w19.cell? ⟨w1.heap.size, 0, none⟩ = some (.int .i64 E.L.dg) := f19.cell_of (by go_simp)
    have c19_0_1 : w19.cell? ⟨w1.heap.size, 1, none⟩ = some (.int .i64 E.L.tn) := f19.cell_of (by go_simp)
    have c19_0_2 : w19.cell? ⟨w1.heap.size, 2, none⟩ = some (.string E.L.nm) := f19.cell_of (by go_simp)
    have c19_0_3 : w19.cell? ⟨w1.heap.size, 3, none⟩ = some (.slice oEL E.L.pw.length kEL) := f19.cell_of (by go_simp)
    have c19_0_4 : w19.cell? ⟨w1.heap.size, 4, none⟩ = some (.int .i64 E.R.dg) := f19.cell_of (by go_simp)
    have c19_0_5 : w19.cell? ⟨w1.heap.size, 5, none⟩ = some (.int .i64 E.R.tn) := f19.cell_of (by go_simp)
    have c19_0_6 : w19.cell? ⟨w1.heap.size, 6, none⟩ = some (.string E.R.nm) := f19.cell_of (by go_simp)
    have c19_0_7 : w19.cell? ⟨w1.heap.size, 7, none⟩ = some (.slice oER E.R.pw.length kER) := f19.cell_of (by go_simp)
    have y19_0 : w1.heap.size < w19.heap.size := World.block_lt_of_cell? w19 _ c19_0_0
    have c19_2_0 : w19.cell? ⟨w2.heap.size, 0, none⟩ = some (.int .i64 ((Z.TimesFormula E F).1.L).dg) := f19.cell_of (by go_simp)
    have c19_2_1 : w19.cell? ⟨w2.heap.size, 1, none⟩ = some (.int .i64 ((Z.TimesFormula E F).1.L).tn) := f19.cell_of (by go_simp)
    have c19_2_2 : w19.cell? ⟨w2.heap.size, 2, none⟩ = some (.string ((Z.TimesFormula E F).1.L).nm) := f19.cell_of (by go_simp)
    have c19_2_3 : w19.cell? ⟨w2.heap.size, 3, none⟩ = some (.slice oXL ((Z.TimesFormula E F).1.L).pw.length kXL) := f19.cell_of (by go_simp)
    have c19_2_4 : w19.cell? ⟨w2.heap.size, 4, none⟩ = some (.int .i64 ((Z.TimesFormula E F).1.R).dg) := f19.cell_of (by go_simp)
    have c19_2_5 : w19.cell? ⟨w2.heap.size, 5, none⟩ = some (.int .i64 ((Z.TimesFormula E F).1.R).tn) := f19.cell_of (by go_simp)
    have c19_2_6 : w19.cell? ⟨w2.heap.size, 6, none⟩ = some (.string ((Z.TimesFormula E F).1.R).nm) := f19.cell_of (by go_simp)
    have c19_2_7 : w19.cell? ⟨w2.heap.size, 7, none⟩ = some (.slice oXR ((Z.TimesFormula E F).1.R).pw.length kXR) := f19.cell_of (by go_simp)
    have y19_2 : w2.heap.size < w19.heap.size := World.block_lt_of_cell? w19 _ c19_2_0
    have c19_4_0 : w19.cell? ⟨w4.heap.size, 0, none⟩ = some (.int .i64 A.L.dg) := f19.cell_of (by go_simp)
    have c19_4_1 : w19.cell? ⟨w4.heap.size, 1, none⟩ = some (.int .i64 A.L.tn) := f19.cell_of (by go_simp)
    have c19_4_2 : w19.cell? ⟨w4.heap.size, 2, none⟩ = some (.string A.L.nm) := f19.cell_of (by go_simp)
    have c19_4_3 : w19.cell? ⟨w4.heap.size, 3, none⟩ = some (.slice oAL A.L.pw.length kAL) := f19.cell_of (by go_simp)
    have c19_4_4 : w19.cell? ⟨w4.heap.size, 4, none⟩ = some (.int .i64 A.R.dg) := f19.cell_of (by go_simp)
    have c19_4_5 : w19.cell? ⟨w4.heap.size, 5, none⟩ = some (.int .i64 A.R.tn) := f19.cell_of (by go_simp)
    have c19_4_6 : w19.cell? ⟨w4.heap.size, 6, none⟩ = some (.string A.R.nm) := f19.cell_of (by go_simp)
    have c19_4_7 : w19.cell? ⟨w4.heap.size, 7, none⟩ = some (.slice oAR A.R.pw.length kAR) := f19.cell_of (by go_simp)
    have y19_4 : w4.heap.size < w19.heap.size := World.block_lt_of_cell? w19 _ c19_4_0
    have c19_5_0 : w19.cell? ⟨w5.heap.size, 0, none⟩ = some (.int .i64 ((Z.SwapSides A).1.L).dg) := f19.cell_of (by go_simp)
    have c19_5_1 : w19.cell? ⟨w5.heap.size, 1, none⟩ = some (.int .i64 ((Z.SwapSides A).1.L).tn) := f19.cell_of (by go_simp)
    have c19_5_2 : w19.cell? ⟨w5.heap.size, 2, none⟩ = some (.string ((Z.SwapSides A).1.L).nm) := f19.cell_of (by go_simp)
    have c19_5_3 : w19.cell? ⟨w5.heap.size, 3, none⟩ = some (.slice oSL ((Z.SwapSides A).1.L).pw.length kSL) := f19.cell_of (by go_simp)
    have c19_5_4 : w19.cell? ⟨w5.heap.size, 4, none⟩ = some (.int .i64 ((Z.SwapSides A).1.R).dg) := f19.cell_of (by go_simp)
    have c19_5_5 : w19.cell? ⟨w5.heap.size, 5, none⟩ = some (.int .i64 ((Z.SwapSides A).1.R).tn) := f19.cell_of (by go_simp)
    have c19_5_6 : w19.cell? ⟨w5.heap.size, 6, none⟩ = some (.string ((Z.SwapSides A).1.R).nm) := f19.cell_of (by go_simp)
    have c19_5_7 : w19.cell? ⟨w5.heap.size, 7, none⟩ = some (.slice oSR ((Z.SwapSides A).1.R).pw.length kSR) := f19.cell_of (by go_simp)
    have y19_5 : w5.heap.size < w19.heap.size := World.block_lt_of_cell? w19 _ c19_5_0
    have c19_13_0 : w19.cell? ⟨w18.heap.size, 0, none⟩ = some (.int .i64 A.L.dg) := f19.cell_of (by go_simp)
    have c19_13_1 : w19.cell? ⟨w18.heap.size, 1, none⟩ = some (.int .i64 A.L.tn) := f19.cell_of (by go_simp)
    have c19_13_2 : w19.cell? ⟨w18.heap.size, 2, none⟩ = some (.string A.L.nm) := f19.cell_of (by go_simp)
    have c19_13_3 : w19.cell? ⟨w18.heap.size, 3, none⟩ = some (.slice oKL A.L.pw.length kKL) := f19.cell_of (by go_simp)
    have c19_13_4 : w19.cell? ⟨w18.heap.size, 4, none⟩ = some (.int .i64 A.R.dg) := f19.cell_of (by go_simp)
    have c19_13_5 : w19.cell? ⟨w18.heap.size, 5, none⟩ = some (.int .i64 A.R.tn) := f19.cell_of (by go_simp)
    have c19_13_6 : w19.cell? ⟨w18.heap.size, 6, none⟩ = some (.string A.R.nm) := f19.cell_of (by go_simp)
    have c19_13_7 : w19.cell? ⟨w18.heap.size, 7, none⟩ = some (.slice oKR A.R.pw.length kKR) := f19.cell_of (by go_simp)
    have y19_13 : w18.heap.size < w19.heap.size := World.block_lt_of_cell? w19 _ c19_13_0
    have IEL_19 := K.ints.ext (show K.ints _ 0 w1.heap.size (.slice oEL E.L.pw.length kEL) E.L.pw from by with_reducible repeat' (first | exact IEL_18 | refine K.ints.alloc ?_ _ | refine K.ints.drew ?_ | refine K.ints.set ?_ _ ?_ _ | (dsimp only; omega) | omega | (simp; done) | (simp; omega))) f19
    have IER_19 := K.ints.ext (show K.ints _ 0 w1.heap.size (.slice oER E.R.pw.length kER) E.R.pw from by with_reducible repeat' (first | exact IER_18 | refine K.ints.alloc ?_ _ | refine K.ints.drew ?_ | refine K.ints.set ?_ _ ?_ _ | (dsimp only; omega) | omega | (simp; done) | (simp; omega))) f19
    have IXL_19 := K.ints.ext (show K.ints _ 0 w2.heap.size (.slice oXL ((Z.TimesFormula E F).1.L).pw.length kXL) ((Z.TimesFormula E F).1.L).pw from by with_reducible repeat' (first | exact IXL_18 | refine K.ints.alloc ?_ _ | refine K.ints.drew ?_ | refine K.ints.set ?_ _ ?_ _ | (dsimp only; omega) | omega | (simp; done) | (simp; omega))) f19
    have IXR_19 := K.ints.ext (show K.ints _ 0 w2.heap.size (.slice oXR ((Z.TimesFormula E F).1.R).pw.length kXR) ((Z.TimesFormula E F).1.R).pw from by with_reducible repeat' (first | exact IXR_18 | refine K.ints.alloc ?_ _ | refine K.ints.drew ?_ | refine K.ints.set ?_ _ ?_ _ | (dsimp only; omega) | omega | (simp; done) | (simp; omega))) f19
    have IAL_19 := K.ints.ext (show K.ints _ 0 w4.heap.size (.slice oAL A.L.pw.length kAL) A.L.pw from by with_reducible repeat' (first | exact IAL_18 | refine K.ints.alloc ?_ _ | refine K.ints.drew ?_ | refine K.ints.set ?_ _ ?_ _ | (dsimp only; omega) | omega | (simp; done) | (simp; omega))) f19
    have IAR_19 := K.ints.ext (show K.ints _ 0 w4.heap.size (.slice oAR A.R.pw.length kAR) A.R.pw from by with_reducible repeat' (first | exact IAR_18 | refine K.ints.alloc ?_ _ | refine K.ints.drew ?_ | refine K.ints.set ?_ _ ?_ _ | (dsimp only; omega) | omega | (simp; done) | (simp; omega))) f19
    have ISL_19 := K.ints.ext (show K.ints _ 0 w5.heap.size (.slice oSL ((Z.SwapSides A).1.L).pw.length kSL) ((Z.SwapSides A).1.L).pw from by with_reducible repeat' (first | exact ISL_18 | refine K.ints.alloc ?_ _ | refine K.ints.drew ?_ | refine K.ints.set ?_ _ ?_ _ | (dsimp only; omega) | omega | (simp; done) | (simp; omega))) f19
    have ISR_19 := K.ints.ext (show K.ints _ 0 w5.heap.size (.slice oSR ((Z.SwapSides A).1.R).pw.length kSR) ((Z.SwapSides A).1.R).pw from by with_reducible repeat' (first | exact ISR_18 | refine K.ints.alloc ?_ _ | refine K.ints.drew ?_ | refine K.ints.set ?_ _ ?_ _ | (dsimp only; omega) | omega | (simp; done) | (simp; omega))) f19
    have IKL_19 := K.ints.ext (show K.ints _ 0 w18.heap.size (.slice oKL A.L.pw.length kKL) A.L.pw from by with_reducible repeat' (first | exact IKL_18 | refine K.ints.alloc ?_ _ | refine K.ints.drew ?_ | refine K.ints.set ?_ _ ?_ _ | (dsimp only; omega) | omega | (simp; done) | (simp; omega))) f19
    have IKR_19 := K.ints.ext (show K.ints _ 0 w18.heap.size (.slice oKR A.R.pw.length kKR) A.R.pw from by with_reducible repeat' (first | exact IKR_18 | refine K.ints.alloc ?_ _ | refine K.ints.drew ?_ | refine K.ints.set ?_ _ ?_ _ | (dsimp only; omega) | omega | (simp; done) | (simp; omega))) f19
    clear c18_0_0 c18_0_1 c18_0_2 c18_0_3 c18_0_4 c18_0_5 c18_0_6 c18_0_7 y18_0 c18_2_0 c18_2_1 c18_2_2 c18_2_3 c18_2_4 c18_2_5 c18_2_6 c18_2_7 y18_2 c18_4_0 c18_4_1 c18_4_2 c18_4_3 c18_4_4 c18_4_5 c18_4_6 c18_4_7 y18_4 c18_5_0 c18_5_1 c18_5_2 c18_5_3 c18_5_4 c18_5_5 c18_5_6 c18_5_7 y18_5 IEL_18 IER_18 IXL_18 IXR_18 IAL_18 IAR_18 ISL_18 ISR_18 IKL_18 IKR_18 F18 f19 u19_0_1 u19_2_1 u19_4_1 u19_5_1
    by_cases hb : (Z.TimesFormula E F).2 = 0
    · skip
      go_wp2_with fail
      refine K.call (by with_reducible rfl) (by with_reducible rfl) (impl_QuotientFormula E _ (by omega) (by omega) (by omega) (by omega) (show K.ints _ 0 w1.heap.size (.slice oEL E.L.pw.length kEL) E.L.pw from by with_reducible repeat' (first | exact IEL_19 | refine K.ints.alloc ?_ _ | refine K.ints.drew ?_ | refine K.ints.set ?_ _ ?_ _ | (dsimp only; omega) | omega | (simp; done) | (simp; omega))) (show K.ints _ 0 w1.heap.size (.slice oER E.R.pw.length kER) E.R.pw from by with_reducible repeat' (first | exact IER_19 | refine K.ints.alloc ?_ _ | refine K.ints.drew ?_ | refine K.ints.set ?_ _ ?_ _ | (dsimp only; omega) | omega | (simp; done) | (simp; omega)))) ?_
      rintro e w20 ⟨⟨pG, rfl, hG⟩, f20⟩
      obtain ⟨oG, kG, rfl, _⟩ := id (K.own.ints hG)
      have IG_20 : K.ints w20 0 w20.heap.size (.slice oG ((Z.QuotientFormula E).1).pw.length kG) ((Z.QuotientFormula E).1).pw := (K.own.ints hG).mono (Nat.zero_le _) (by omega)
      have F20 : K.Ext w w20 := K.Ext.trans (by repeat' (first | with_reducible exact F19 | with_reducible refine K.Ext.setCell ?_ ?_ _ | with_reducible refine K.Ext.alloc ?_ _ | with_reducible refine K.Ext.drew ?_ | (dsimp only; omega) | omega | (simp; omega))) f20
      have c20_0_0 : w20.cell? ⟨w1.heap.size, 0, none⟩ = some (.int .i64 E.L.dg) := f20.cell_of (by go_simp)
      have c20_0_1 : w20.cell? ⟨w1.heap.size, 1, none⟩ = some (.int .i64 E.L.tn) := f20.cell_of (by go_simp)
      have c20_0_2 : w20.cell? ⟨w1.heap.size, 2, none⟩ = some (.string E.L.nm) := f20.cell_of (by go_simp)
      have c20_0_3 : w20.cell? ⟨w1.heap.size, 3, none⟩ = some (.slice oEL E.L.pw.length kEL) := f20.cell_of (by go_simp)
      have c20_0_4 : w20.cell? ⟨w1.heap.size, 4, none⟩ = some (.int .i64 E.R.dg) := f20.cell_of (by go_simp)
      have c20_0_5 : w20.cell? ⟨w1.heap.size, 5, none⟩ = some (.int .i64 E.R.tn) := f20.cell_of (by go_simp)
      have c20_0_6 : w20.cell? ⟨w1.heap.size, 6, none⟩ = some (.string E.R.nm) := f20.cell_of (by go_simp)
      have c20_0_7 : w20.cell? ⟨w1.heap.size, 7, none⟩ = some (.slice oER E.R.pw.length kER) := f20.cell_of (by go_simp)
      have y20_0 : w1.heap.size < w20.heap.size := World.block_lt_of_cell? w20 _ c20_0_0
      have c20_2_0 : w20.cell? ⟨w2.heap.size, 0, none⟩ = some (.int .i64 ((Z.TimesFormula E F).1.L).dg) := f20.cell_of (by go_simp)
      have c20_2_1 : w20.cell? ⟨w2.heap.size, 1, none⟩ = some (.int .i64 ((Z.TimesFormula E F).1.L).tn) := f20.cell_of (by go_simp)
      have c20_2_2 : w20.cell? ⟨w2.heap.size, 2, none⟩ = some (.string ((Z.TimesFormula E F).1.L).nm) := f20.cell_of (by go_simp)
      have c20_2_3 : w20.cell? ⟨w2.heap.size, 3, none⟩ = some (.slice oXL ((Z.TimesFormula E F).1.L).pw.length kXL) := f20.cell_of (by go_simp)
      have c20_2_4 : w20.cell? ⟨w2.heap.size, 4, none⟩ = some (.int .i64 ((Z.TimesFormula E F).1.R).dg) := f20.cell_of (by go_simp)
      have c20_2_5 : w20.cell? ⟨w2.heap.size, 5, none⟩ = some (.int .i64 ((Z.TimesFormula E F).1.R).tn) := f20.cell_of (by go_simp)
      have c20_2_6 : w20.cell? ⟨w2.heap.size, 6, none⟩ = some (.string ((Z.TimesFormula E F).1.R).nm) := f20.cell_of (by go_simp)
      have c20_2_7 : w20.cell? ⟨w2.heap.size, 7, none⟩ = some (.slice oXR ((Z.TimesFormula E F).1.R).pw.length kXR) := f20.cell_of (by go_simp)
      have y20_2 : w2.heap.size < w20.heap.size := World.block_lt_of_cell? w20 _ c20_2_0
      have IEL_20 := K.ints.ext (show K.ints _ 0 w1.heap.size (.slice oEL E.L.pw.length kEL) E.L.pw from by with_reducible repeat' (first | exact IEL_19 | refine K.ints.alloc ?_ _ | refine K.ints.drew ?_ | refine K.ints.set ?_ _ ?_ _ | (dsimp only; omega) | omega | (simp; done) | (simp; omega))) f20
      have IER_20 := K.ints.ext (show K.ints _ 0 w1.heap.size (.slice oER E.R.pw.length kER) E.R.pw from by with_reducible repeat' (first | exact IER_19 | refine K.ints.alloc ?_ _ | refine K.ints.drew ?_ | refine K.ints.set ?_ _ ?_ _ | (dsimp only; omega) | omega | (simp; done) | (simp; omega))) f20
      have IXL_20 := K.ints.ext (show K.ints _ 0 w2.heap.size (.slice oXL ((Z.TimesFormula E F).1.L).pw.length kXL) ((Z.TimesFormula E F).1.L).pw from by with_reducible repeat' (first | exact IXL_19 | refine K.ints.alloc ?_ _ | refine K.ints.drew ?_ | refine K.ints.set ?_ _ ?_ _ | (dsimp only; omega) | omega | (simp; done) | (simp; omega))) f20
      have IXR_20 := K.ints.ext (show K.ints _ 0 w2.heap.size (.slice oXR ((Z.TimesFormula E F).1.R).pw.length kXR) ((Z.TimesFormula E F).1.R).pw from by with_reducible repeat' (first | exact IXR_19 | refine K.ints.alloc ?_ _ | refine K.ints.drew ?_ | refine K.ints.set ?_ _ ?_ _ | (dsimp only; omega) | omega | (simp; done) | (simp; omega))) f20
      clear c19_0_0 c19_0_1 c19_0_2 c19_0_3 c19_0_4 c19_0_5 c19_0_6 c19_0_7 y19_0 c19_2_0 c19_2_1 c19_2_2 c19_2_3 c19_2_4 c19_2_5 c19_2_6 c19_2_7 y19_2 c19_4_0 c19_4_1 c19_4_2 c19_4_3 c19_4_4 c19_4_5 c19_4_6 c19_4_7 y19_4 c19_5_0 c19_5_1 c19_5_2 c19_5_3 c19_5_4 c19_5_5 c19_5_6 c19_5_7 y19_5 c19_13_0 c19_13_1 c19_13_2 c19_13_3 c19_13_4 c19_13_5 c19_13_6 c19_13_7 y19_13 IEL_19 IER_19 IXL_19 IXR_19 F19 f20
      go_wp2_with fail
      refine K.call (by with_reducible rfl) (by with_reducible rfl) (impl_QuotientFormula (Z.TimesFormula E F).1 _ t1 (Z.times_nm E F).1 t2 (Z.times_nm E F).2 (show K.ints _ 0 w2.heap.size (.slice oXL ((Z.TimesFormula E F).1.L).pw.length kXL) ((Z.TimesFormula E F).1.L).pw from by with_reducible repeat' (first | exact IXL_20 | refine K.ints.alloc ?_ _ | refine K.ints.drew ?_ | refine K.ints.set ?_ _ ?_ _ | (dsimp only; omega) | omega | (simp; done) | (simp; omega))) (show K.ints _ 0 w2.heap.size (.slice oXR ((Z.TimesFormula E F).1.R).pw.length kXR) ((Z.TimesFormula E F).1.R).pw from by with_reducible repeat' (first | exact IXR_20 | refine K.ints.alloc ?_ _ | refine K.ints.drew ?_ | refine K.ints.set ?_ _ ?_ _ | (dsimp only; omega) | omega | (simp; done) | (simp; omega)))) ?_
      rintro e w21 ⟨⟨pH, rfl, hH⟩, f21⟩
      obtain ⟨oH, kH, rfl, _⟩ := id (K.own.ints hH)
      have IH_21 : K.ints w21 0 w21.heap.size (.slice oH ((Z.QuotientFormula (Z.TimesFormula E F).1).1).pw.length kH) ((Z.QuotientFormula (Z.TimesFormula E F).1).1).pw := (K.own.ints hH).mono (Nat.zero_le _) (by omega)
      have u21_0_1 : w1.heap.size < w20.heap.size + 1 := (by omega)
      have u21_2_1 : w2.heap.size < w20.heap.size + 1 := (by omega)
      have F21 : K.Ext w w21 := K.Ext.trans (by repeat' (first | with_reducible exact F20 | with_reducible refine K.Ext.setCell ?_ ?_ _ | with_reducible refine K.Ext.alloc ?_ _ | with_reducible refine K.Ext.drew ?_ | (dsimp only; omega) | omega | (simp; omega))) f21
      have c21_0_0 : w21.cell? ⟨w1.heap.size, 0, none⟩ = some (.int .i64 E.L.dg) := f21.cell_of (by go_simp)
      have c21_0_1 : w21.cell? ⟨w1.heap.size, 1, none⟩ = some (.int .i64 E.L.tn) := f21.cell_of (by go_simp)
      have c21_0_2 : w21.cell? ⟨w1.heap.size, 2, none⟩ = some (.string E.L.nm) := f21.cell_of (by go_simp)
      have c21_0_3 : w21.cell? ⟨w1.heap.size, 3, none⟩ = some (.slice oEL E.L.pw.length kEL) := f21.cell_of (by go_simp)
      have c21_0_4 : w21.cell? ⟨w1.heap.size, 4, none⟩ = some (.int .i64 E.R.dg) := f21.cell_of (by go_simp)
      have c21_0_5 : w21.cell? ⟨w1.heap.size, 5, none⟩ = some (.int .i64 E.R.tn) := f21.cell_of (by go_simp)
      have c21_0_6 : w21.cell? ⟨w1.heap.size, 6, none⟩ = some (.string E.R.nm) := f21.cell_of (by go_simp)
      have c21_0_7 : w21.cell? ⟨w1.heap.size, 7, none⟩ = some (.slice oER E.R.pw.length kER) := f21.cell_of (by go_simp)
      have y21_0 : w1.heap.size < w21.heap.size := World.block_lt_of_cell? w21 _ c21_0_0
      have c21_2_0 : w21.cell? ⟨w2.heap.size, 0, none⟩ = some (.int .i64 ((Z.TimesFormula E F).1.L).dg) := f21.cell_of (by go_simp)
      have c21_2_1 : w21.cell? ⟨w2.heap.size, 1, none⟩ = some (.int .i64 ((Z.TimesFormula E F).1.L).tn) := f21.cell_of (by go_simp)
      have c21_2_2 : w21.cell? ⟨w2.heap.size, 2, none⟩ = some (.string ((Z.TimesFormula E F).1.L).nm) := f21.cell_of (by go_simp)
      have c21_2_3 : w21.cell? ⟨w2.heap.size, 3, none⟩ = some (.slice oXL ((Z.TimesFormula E F).1.L).pw.length kXL) := f21.cell_of (by go_simp)
      have c21_2_4 : w21.cell? ⟨w2.heap.size, 4, none⟩ = some (.int .i64 ((Z.TimesFormula E F).1.R).dg) := f21.cell_of (by go_simp)
      have c21_2_5 : w21.cell? ⟨w2.heap.size, 5, none⟩ = some (.int .i64 ((Z.TimesFormula E F).1.R).tn) := f21.cell_of (by go_simp)
      have c21_2_6 : w21.cell? ⟨w2.heap.size, 6, none⟩ = some (.string ((Z.TimesFormula E F).1.R).nm) := f21.cell_of (by go_simp)
      have c21_2_7 : w21.cell? ⟨w2.heap.size, 7, none⟩ = some (.slice oXR ((Z.TimesFormula E F).1.R).pw.length kXR) := f21.cell_of (by go_simp)
      have y21_2 : w2.heap.size < w21.heap.size := World.block_lt_of_cell? w21 _ c21_2_0
      have c21_14_0 : w21.cell? ⟨w20.heap.size, 0, none⟩ = some (.int .i64 ((Z.QuotientFormula E).1).dg) := f21.cell_of (by go_simp)
      have c21_14_1 : w21.cell? ⟨w20.heap.size, 1, none⟩ = some (.int .i64 ((Z.QuotientFormula E).1).tn) := f21.cell_of (by go_simp)
      have c21_14_2 : w21.cell? ⟨w20.heap.size, 2, none⟩ = some (.string ((Z.QuotientFormula E).1).nm) := f21.cell_of (by go_simp)
      have c21_14_3 : w21.cell? ⟨w20.heap.size, 3, none⟩ = some (.slice oG ((Z.QuotientFormula E).1).pw.length kG) := f21.cell_of (by go_simp)
      have y21_14 : w20.heap.size < w21.heap.size := World.block_lt_of_cell? w21 _ c21_14_0
      have IEL_21 := K.ints.ext (show K.ints _ 0 w1.heap.size (.slice oEL E.L.pw.length kEL) E.L.pw from by with_reducible repeat' (first | exact IEL_20 | refine K.ints.alloc ?_ _ | refine K.ints.drew ?_ | refine K.ints.set ?_ _ ?_ _ | (dsimp only; omega) | omega | (simp; done) | (simp; omega))) f21
      have IER_21 := K.ints.ext (show K.ints _ 0 w1.heap.size (.slice oER E.R.pw.length kER) E.R.pw from by with_reducible repeat' (first | exact IER_20 | refine K.ints.alloc ?_ _ | refine K.ints.drew ?_ | refine K.ints.set ?_ _ ?_ _ | (dsimp only; omega) | omega | (simp; done) | (simp; omega))) f21
      have IXL_21 := K.ints.ext (show K.ints _ 0 w2.heap.size (.slice oXL ((Z.TimesFormula E F).1.L).pw.length kXL) ((Z.TimesFormula E F).1.L).pw from by with_reducible repeat' (first | exact IXL_20 | refine K.ints.alloc ?_ _ | refine K.ints.drew ?_ | refine K.ints.set ?_ _ ?_ _ | (dsimp only; omega) | omega | (simp; done) | (simp; omega))) f21
      have IXR_21 := K.ints.ext (show K.ints _ 0 w2.heap.size (.slice oXR ((Z.TimesFormula E F).1.R).pw.length kXR) ((Z.TimesFormula E F).1.R).pw from by with_reducible repeat' (first | exact IXR_20 | refine K.ints.alloc ?_ _ | refine K.ints.drew ?_ | refine K.ints.set ?_ _ ?_ _ | (dsimp only; omega) | omega | (simp; done) | (simp; omega))) f21
      have IG_21 := K.ints.ext (show K.ints _ 0 w20.heap.size (.slice oG ((Z.QuotientFormula E).1).pw.length kG) ((Z.QuotientFormula E).1).pw from by with_reducible repeat' (first | exact IG_20 | refine K.ints.alloc ?_ _ | refine K.ints.drew ?_ | refine K.ints.set ?_ _ ?_ _ | (dsimp only; omega) | omega | (simp; done) | (simp; omega))) f21
      clear c20_0_0 c20_0_1 c20_0_2 c20_0_3 c20_0_4 c20_0_5 c20_0_6 c20_0_7 y20_0 c20_2_0 c20_2_1 c20_2_2 c20_2_3 c20_2_4 c20_2_5 c20_2_6 c20_2_7 y20_2 IEL_20 IER_20 IXL_20 IXR_20 IG_20 F20 f21 u21_0_1 u21_2_1
      by_cases h8 : (Z.QuotientFormula E).2 = 0
      · by_cases h9 : (Z.QuotientFormula (Z.TimesFormula E F).1).2 = 0
        · obtain ⟨l1, l2⟩ := Z.times_law hb h8 h9
          rw [l2] at IH_21
          have q2 := (Z.QuotientFormula_le E).1
          go_wp2_with fail
          refine K.call (by with_reducible rfl) (by with_reducible rfl) (likeInts_same (Z.QuotientFormula E).1.pw _ _ _ _ _ _ _ q2 (show K.ints _ 0 w20.heap.size (.slice oG ((Z.QuotientFormula E).1).pw.length kG) ((Z.QuotientFormula E).1).pw from by with_reducible repeat' (first | exact IG_21 | refine K.ints.alloc ?_ _ | refine K.ints.drew ?_ | refine K.ints.set ?_ _ ?_ _ | (dsimp only; omega) | omega | (simp; done) | (simp; omega))) (show K.ints _ 0 w21.heap.size (.slice oH ((Z.QuotientFormula E).1).pw.length kH) ((Z.QuotientFormula E).1).pw from by with_reducible repeat' (first | exact IH_21 | refine K.ints.alloc ?_ _ | refine K.ints.drew ?_ | refine K.ints.set ?_ _ ?_ _ | (dsimp only; omega) | omega | (simp; done) | (simp; omega)))) ?_
          rintro e w22 ⟨rfl, f22⟩
          have u22_0_1 : w1.heap.size < w21.heap.size + 1 := (by omega)
          have u22_2_1 : w2.heap.size < w21.heap.size + 1 := (by omega)
          have u22_14_1 : w20.heap.size < w21.heap.size + 1 := (by omega)
          have F22 : K.Ext w w22 := K.Ext.trans (by repeat' (first | with_reducible exact F21 | with_reducible refine K.Ext.setCell ?_ ?_ _ | with_reducible refine K.Ext.alloc ?_ _ | with_reducible refine K.Ext.drew ?_ | (dsimp only; omega) | omega | (simp; omega))) f22
          have c22_0_0 : w22.cell? ⟨w1.heap.size, 0, none⟩ = some (.int .i64 E.L.dg) := f22.cell_of (by go_simp)
          have c22_0_1 : w22.cell? ⟨w1.heap.size, 1, none⟩ = some (.int .i64 E.L.tn) := f22.cell_of (by go_simp)
          have c22_0_2 : w22.cell? ⟨w1.heap.size, 2, none⟩ = some (.string E.L.nm) := f22.cell_of (by go_simp)
          have c22_0_3 : w22.cell? ⟨w1.heap.size, 3, none⟩ = some (.slice oEL E.L.pw.length kEL) := f22.cell_of (by go_simp)
          have c22_0_4 : w22.cell? ⟨w1.heap.size, 4, none⟩ = some (.int .i64 E.R.dg) := f22.cell_of (by go_simp)
          have c22_0_5 : w22.cell? ⟨w1.heap.size, 5, none⟩ = some (.int .i64 E.R.tn) := f22.cell_of (by go_simp)
          have c22_0_6 : w22.cell? ⟨w1.heap.size, 6, none⟩ = some (.string E.R.nm) := f22.cell_of (by go_simp)
          have c22_0_7 : w22.cell? ⟨w1.heap.size, 7, none⟩ = some (.slice oER E.R.pw.length kER) := f22.cell_of (by go_simp)
          have y22_0 : w1.heap.size < w22.heap.size := World.block_lt_of_cell? w22 _ c22_0_0
          have c22_2_0 : w22.cell? ⟨w2.heap.size, 0, none⟩ = some (.int .i64 ((Z.TimesFormula E F).1.L).dg) := f22.cell_of (by go_simp)
          have c22_2_1 : w22.cell? ⟨w2.heap.size, 1, none⟩ = some (.int .i64 ((Z.TimesFormula E F).1.L).tn) := f22.cell_of (by go_simp)
          have c22_2_2 : w22.cell? ⟨w2.heap.size, 2, none⟩ = some (.string ((Z.TimesFormula E F).1.L).nm) := f22.cell_of (by go_simp)
          have c22_2_3 : w22.cell? ⟨w2.heap.size, 3, none⟩ = some (.slice oXL ((Z.TimesFormula E F).1.L).pw.length kXL) := f22.cell_of (by go_simp)
          have c22_2_4 : w22.cell? ⟨w2.heap.size, 4, none⟩ = some (.int .i64 ((Z.TimesFormula E F).1.R).dg) := f22.cell_of (by go_simp)
          have c22_2_5 : w22.cell? ⟨w2.heap.size, 5, none⟩ = some (.int .i64 ((Z.TimesFormula E F).1.R).tn) := f22.cell_of (by go_simp)
          have c22_2_6 : w22.cell? ⟨w2.heap.size, 6, none⟩ = some (.string ((Z.TimesFormula E F).1.R).nm) := f22.cell_of (by go_simp)
          have c22_2_7 : w22.cell? ⟨w2.heap.size, 7, none⟩ = some (.slice oXR ((Z.TimesFormula E F).1.R).pw.length kXR) := f22.cell_of (by go_simp)
          have y22_2 : w2.heap.size < w22.heap.size := World.block_lt_of_cell? w22 _ c22_2_0
          have c22_14_0 : w22.cell? ⟨w20.heap.size, 0, none⟩ = some (.int .i64 ((Z.QuotientFormula E).1).dg) := f22.cell_of (by go_simp)
          have c22_14_1 : w22.cell? ⟨w20.heap.size, 1, none⟩ = some (.int .i64 ((Z.QuotientFormula E).1).tn) := f22.cell_of (by go_simp)
          have c22_14_2 : w22.cell? ⟨w20.heap.size, 2, none⟩ = some (.string ((Z.QuotientFormula E).1).nm) := f22.cell_of (by go_simp)
          have c22_14_3 : w22.cell? ⟨w20.heap.size, 3, none⟩ = some (.slice oG ((Z.QuotientFormula E).1).pw.length kG) := f22.cell_of (by go_simp)
          have y22_14 : w20.heap.size < w22.heap.size := World.block_lt_of_cell? w22 _ c22_14_0
          have c22_15_0 : w22.cell? ⟨w21.heap.size, 0, none⟩ = some (.int .i64 ((Z.QuotientFormula (Z.TimesFormula E F).1).1).dg) := f22.cell_of (by go_simp)
          have c22_15_1 : w22.cell? ⟨w21.heap.size, 1, none⟩ = some (.int .i64 ((Z.QuotientFormula (Z.TimesFormula E F).1).1).tn) := f22.cell_of (by go_simp)
          have c22_15_2 : w22.cell? ⟨w21.heap.size, 2, none⟩ = some (.string ((Z.QuotientFormula (Z.TimesFormula E F).1).1).nm) := f22.cell_of (by go_simp)
          have c22_15_3 : w22.cell? ⟨w21.heap.size, 3, none⟩ = some (.slice oH ((Z.QuotientFormula (Z.TimesFormula E F).1).1).pw.length kH) := f22.cell_of (by go_simp)
          have y22_15 : w21.heap.size < w22.heap.size := World.block_lt_of_cell? w22 _ c22_15_0
          have IEL_22 := K.ints.ext (show K.ints _ 0 w1.heap.size (.slice oEL E.L.pw.length kEL) E.L.pw from by with_reducible repeat' (first | exact IEL_21 | refine K.ints.alloc ?_ _ | refine K.ints.drew ?_ | refine K.ints.set ?_ _ ?_ _ | (dsimp only; omega) | omega | (simp; done) | (simp; omega))) f22
          have IER_22 := K.ints.ext (show K.ints _ 0 w1.heap.size (.slice oER E.R.pw.length kER) E.R.pw from by with_reducible repeat' (first | exact IER_21 | refine K.ints.alloc ?_ _ | refine K.ints.drew ?_ | refine K.ints.set ?_ _ ?_ _ | (dsimp only; omega) | omega | (simp; done) | (simp; omega))) f22
          have IXL_22 := K.ints.ext (show K.ints _ 0 w2.heap.size (.slice oXL ((Z.TimesFormula E F).1.L).pw.length kXL) ((Z.TimesFormula E F).1.L).pw from by with_reducible repeat' (first | exact IXL_21 | refine K.ints.alloc ?_ _ | refine K.ints.drew ?_ | refine K.ints.set ?_ _ ?_ _ | (dsimp only; omega) | omega | (simp; done) | (simp; omega))) f22
          have IXR_22 := K.ints.ext (show K.ints _ 0 w2.heap.size (.slice oXR ((Z.TimesFormula E F).1.R).pw.length kXR) ((Z.TimesFormula E F).1.R).pw from by with_reducible repeat' (first | exact IXR_21 | refine K.ints.alloc ?_ _ | refine K.ints.drew ?_ | refine K.ints.set ?_ _ ?_ _ | (dsimp only; omega) | omega | (simp; done) | (simp; omega))) f22
          have IG_22 := K.ints.ext (show K.ints _ 0 w20.heap.size (.slice oG ((Z.QuotientFormula E).1).pw.length kG) ((Z.QuotientFormula E).1).pw from by with_reducible repeat' (first | exact IG_21 | refine K.ints.alloc ?_ _ | refine K.ints.drew ?_ | refine K.ints.set ?_ _ ?_ _ | (dsimp only; omega) | omega | (simp; done) | (simp; omega))) f22
          have IH_22 := K.ints.ext (show K.ints _ 0 w21.heap.size (.slice oH ((Z.QuotientFormula E).1).pw.length kH) ((Z.QuotientFormula E).1).pw from by with_reducible repeat' (first | exact IH_21 | refine K.ints.alloc ?_ _ | refine K.ints.drew ?_ | refine K.ints.set ?_ _ ?_ _ | (dsimp only; omega) | omega | (simp; done) | (simp; omega))) f22
          clear c21_0_0 c21_0_1 c21_0_2 c21_0_3 c21_0_4 c21_0_5 c21_0_6 c21_0_7 y21_0 c21_2_0 c21_2_1 c21_2_2 c21_2_3 c21_2_4 c21_2_5 c21_2_6 c21_2_7 y21_2 c21_14_0 c21_14_1 c21_14_2 c21_14_3 y21_14 IEL_21 IER_21 IXL_21 IXR_21 IG_21 IH_21 F21 f22 u22_0_1 u22_2_1 u22_14_1
          go_wp2_with fail
          go_ret
          exact ⟨rfl, (by repeat' (first | with_reducible exact F22 | with_reducible refine K.Ext.setCell ?_ ?_ _ | with_reducible refine K.Ext.alloc ?_ _ | with_reducible refine K.Ext.drew ?_ | (dsimp only; omega) | omega | (simp; omega)))⟩
        go_wp2_with fail
        go_ret
        exact ⟨rfl, (by repeat' (first | with_reducible exact F21 | with_reducible refine K.Ext.setCell ?_ ?_ _ | with_reducible refine K.Ext.alloc ?_ _ | with_reducible refine K.Ext.drew ?_ | (dsimp only; omega) | omega | (simp; omega)))⟩
      go_wp2_with fail
      go_ret
      exact ⟨rfl, (by repeat' (first | with_reducible exact F21 | with_reducible refine K.Ext.setCell ?_ ?_ _ | with_reducible refine K.Ext.alloc ?_ _ | with_reducible refine K.Ext.drew ?_ | (dsimp only; omega) | omega | (simp; omega)))⟩
    go_wp2_with fail
    go_ret
    exact ⟨rfl, (by repeat' (first | with_reducible exact F19 | with_reducible refine K.Ext.setCell ?_ ?_ _ | with_reducible refine K.Ext.alloc ?_ _ | with_reducible refine K.Ext.drew ?_ | (dsimp only; omega) | omega | (simp; omega)))⟩
  have h1' : ((Z.SwapSides A).2 == 0) = false := by simpa using h1
  have hie : Z.isEquation A = false := by rw [← hsw]; exact h1'
  clear hsw
  by_cases hb : (Z.TimesFormula E F).2 = 0
  · skip
    go_wp2_with fail
    refine K.call (by with_reducible rfl) (by with_reducible rfl) (impl_QuotientFormula E _ (by omega) (by omega) (by omega) (by omega) (show K.ints _ 0 w1.heap.size (.slice oEL E.L.pw.length kEL) E.L.pw from by with_reducible repeat' (first | exact IEL_17 | refine K.ints.alloc ?_ _ | refine K.ints.drew ?_ | refine K.ints.set ?_ _ ?_ _ | (dsimp only; omega) | omega | (simp; done) | (simp; omega))) (show K.ints _ 0 w1.heap.size (.slice oER E.R.pw.length kER) E.R.pw from by with_reducible repeat' (first | exact IER_17 | refine K.ints.alloc ?_ _ | refine K.ints.drew ?_ | refine K.ints.set ?_ _ ?_ _ | (dsimp only; omega) | omega | (simp; done) | (simp; omega)))) ?_
    rintro e w18 ⟨⟨pG, rfl, hG⟩, f18⟩
    obtain ⟨oG, kG, rfl, _⟩ := id (K.own.ints hG)
    have IG_18 : K.ints w18 0 w18.heap.size (.slice oG ((Z.QuotientFormula E).1).pw.length kG) ((Z.QuotientFormula E).1).pw := (K.own.ints hG).mono (Nat.zero_le _) (by omega)
    have F18 : K.Ext w w18 := K.Ext.trans (by repeat' (first | with_reducible exact F17 | with_reducible refine K.Ext.setCell ?_ ?_ _ | with_reducible refine K.Ext.alloc ?_ _ | with_reducible refine K.Ext.drew ?_ | (dsimp only; omega) | omega | (simp; omega))) f18
    have c18_0_0 : w18.cell? ⟨w1.heap.size, 0, none⟩ = some (.int .i64 E.L.dg) := f18.cell_of (by go_simp)
    have c18_0_1 : w18.cell? ⟨w1.heap.size, 1, none⟩ = some (.int .i64 E.L.tn) := f18.cell_of (by go_simp)
    have c18_0_2 : w18.cell? ⟨w1.heap.size, 2, none⟩ = some (.string E.L.nm) := f18.cell_of (by go_simp)
    have c18_0_3 : w18.cell? ⟨w1.heap.size, 3, none⟩ = some (.slice oEL E.L.pw.length kEL) := f18.cell_of (by go_simp)
    have c18_0_4 : w18.cell? ⟨w1.heap.size, 4, none⟩ = some (.int .i64 E.R.dg) := f18.cell_of (by go_simp)
    have c18_0_5 : w18.cell? ⟨w1.heap.size, 5, none⟩ = some (.int .i64 E.R.tn) := f18.cell_of (by go_simp)
    have c18_0_6 : w18.cell? ⟨w1.heap.size, 6, none⟩ = some (.string E.R.nm) := f18.cell_of (by go_simp)
    have c18_0_7 : w18.cell? ⟨w1.heap.size, 7, none⟩ = some (.slice oER E.R.pw.length kER) := f18.cell_of (by go_simp)
    have y18_0 : w1.heap.size < w18.heap.size := World.block_lt_of_cell? w18 _ c18_0_0
    have c18_2_0 : w18.cell? ⟨w2.heap.size, 0, none⟩ = some (.int .i64 ((Z.TimesFormula E F).1.L).dg) := f18.cell_of (by go_simp)
    have c18_2_1 : w18.cell? ⟨w2.heap.size, 1, none⟩ = some (.int .i64 ((Z.TimesFormula E F).1.L).tn) := f18.cell_of (by go_simp)
    have c18_2_2 : w18.cell? ⟨w2.heap.size, 2, none⟩ = some (.string ((Z.TimesFormula E F).1.L).nm) := f18.cell_of (by go_simp)
    have c18_2_3 : w18.cell? ⟨w2.heap.size, 3, none⟩ = some (.slice oXL ((Z.TimesFormula E F).1.L).pw.length kXL) := f18.cell_of (by go_simp)
    have c18_2_4 : w18.cell? ⟨w2.heap.size, 4, none⟩ = some (.int .i64 ((Z.TimesFormula E F).1.R).dg) := f18.cell_of (by go_simp)
    have c18_2_5 : w18.cell? ⟨w2.heap.size, 5, none⟩ = some (.int .i64 ((Z.TimesFormula E F).1.R).tn) := f18.cell_of (by go_simp)
    have c18_2_6 : w18.cell? ⟨w2.heap.size, 6, none⟩ = some (.string ((Z.TimesFormula E F).1.R).nm) := f18.cell_of (by go_simp)
    have c18_2_7 : w18.cell? ⟨w2.heap.size, 7, none⟩ = some (.slice oXR ((Z.TimesFormula E F).1.R).pw.length kXR) := f18.cell_of (by go_simp)
    have y18_2 : w2.heap.size < w18.heap.size := World.block_lt_of_cell? w18 _ c18_2_0
    have IEL_18 := K.ints.ext (show K.ints _ 0 w1.heap.size (.slice oEL E.L.pw.length kEL) E.L.pw from by with_reducible repeat' (first | exact IEL_17 | refine K.ints.alloc ?_ _ | refine K.ints.drew ?_ | refine K.ints.set ?_ _ ?_ _ | (dsimp only; omega) | omega | (simp; done) | (simp; omega))) f18
    have IER_18 := K.ints.ext (show K.ints _ 0 w1.heap.size (.slice oER E.R.pw.length kER) E.R.pw from by with_reducible repeat' (first | exact IER_17 | refine K.ints.alloc ?_ _ | refine K.ints.drew ?_ | refine K.ints.set ?_ _ ?_ _ | (dsimp only; omega) | omega | (simp; done) | (simp; omega))) f18
    have IXL_18 := K.ints.ext (show K.ints _ 0 w2.heap.size (.slice oXL ((Z.TimesFormula E F).1.L).pw.length kXL) ((Z.TimesFormula E F).1.L).pw from by with_reducible repeat' (first | exact IXL_17 | refine K.ints.alloc ?_ _ | refine K.ints.drew ?_ | refine K.ints.set ?_ _ ?_ _ | (dsimp only; omega) | omega | (simp; done) | (simp; omega))) f18
    have IXR_18 := K.ints.ext (show K.ints _ 0 w2.heap.size (.slice oXR ((Z.TimesFormula E F).1.R).pw.length kXR) ((Z.TimesFormula E F).1.R).pw from by with_reducible repeat' (first | exact IXR_17 | refine K.ints.alloc ?_ _ | refine K.ints.drew ?_ | refine K.ints.set ?_ _ ?_ _ | (dsimp only; omega) | omega | (simp; done) | (simp; omega))) f18
    clear c17_0_0 c17_0_1 c17_0_2 c17_0_3 c17_0_4 c17_0_5 c17_0_6 c17_0_7 y17_0 c17_2_0 c17_2_1 c17_2_2 c17_2_3 c17_2_4 c17_2_5 c17_2_6 c17_2_7 y17_2 c17_4_0 c17_4_1 c17_4_2 c17_4_3 c17_4_4 c17_4_5 c17_4_6 c17_4_7 y17_4 c17_5_0 c17_5_1 c17_5_2 c17_5_3 c17_5_4 c17_5_5 c17_5_6 c17_5_7 y17_5 IEL_17 IER_17 IXL_17 IXR_17 F17 f18
    go_wp2_with fail
    refine K.call (by with_reducible rfl) (by with_reducible rfl) (impl_QuotientFormula (Z.TimesFormula E F).1 _ t1 (Z.times_nm E F).1 t2 (Z.times_nm E F).2 (show K.ints _ 0 w2.heap.size (.slice oXL ((Z.TimesFormula E F).1.L).pw.length kXL) ((Z.TimesFormula E F).1.L).pw from by with_reducible repeat' (first | exact IXL_18 | refine K.ints.alloc ?_ _ | refine K.ints.drew ?_ | refine K.ints.set ?_ _ ?_ _ | (dsimp only; omega) | omega | (simp; done) | (simp; omega))) (show K.ints _ 0 w2.heap.size (.slice oXR ((Z.TimesFormula E F).1.R).pw.length kXR) ((Z.TimesFormula E F).1.R).pw from by with_reducible repeat' (first | exact IXR_18 | refine K.ints.alloc ?_ _ | refine K.ints.drew ?_ | refine K.ints.set ?_ _ ?_ _ | (dsimp only; omega) | omega | (simp; done) | (simp; omega)))) ?_
    rintro e w19 ⟨⟨pH, rfl, hH⟩, f19⟩
    obtain ⟨oH, kH, rfl, _⟩ := id (K.own.ints hH)
    have IH_19 : K.ints w19 0 w19.heap.size (.slice oH ((Z.QuotientFormula (Z.TimesFormula E F).1).1).pw.length kH) ((Z.QuotientFormula (Z.TimesFormula E F).1).1).pw := (K.own.ints hH).mono (Nat.zero_le _) (by omega)
    have u19_0_1 : w1.heap.size < w18.heap.size + 1 := (by omega)
    have u19_2_1 : w2.heap.size < w18.heap.size + 1 := (by omega)
    have F19 : K.Ext w w19 := K.Ext.trans (by repeat' (first | with_reducible exact F18 | with_reducible refine K.Ext.setCell ?_ ?_ _ | with_reducible refine K.Ext.alloc ?_ _ | with_reducible refine K.Ext.drew ?_ | (dsimp only; omega) | omega | (simp; omega))) f19
    have c19_0_0 : w19.cell? ⟨w1.heap.size, 0, none⟩ = some (.int .i64 E.L.dg) := f19.cell_of (by go_simp)
    have c19_0_1 : w19.cell? ⟨w1.heap.size, 1, none⟩ = some (.int .i64 E.L.tn) := f19.cell_of (by go_simp)
    have c19_0_2 : w19.cell? ⟨w1.heap.size, 2, none⟩ = some (.string E.L.nm) := f19.cell_of (by go_simp)
    have c19_0_3 : w19.cell? ⟨w1.heap.size, 3, none⟩ = some (.slice oEL E.L.pw.length kEL) := f19.cell_of (by go_simp)
    have c19_0_4 : w19.cell? ⟨w1.heap.size, 4, none⟩ = some (.int .i64 E.R.dg) := f19.cell_of (by go_simp)
    have c19_0_5 : w19.cell? ⟨w1.heap.size, 5, none⟩ = some (.int .i64 E.R.tn) := f19.cell_of (by go_simp)
    have c19_0_6 : w19.cell? ⟨w1.heap.size, 6, none⟩ = some (.string E.R.nm) := f19.cell_of (by go_simp)
    have c19_0_7 : w19.cell? ⟨w1.heap.size, 7, none⟩ = some (.slice oER E.R.pw.length kER) := f19.cell_of (by go_simp)
    have y19_0 : w1.heap.size < w19.heap.size := World.block_lt_of_cell? w19 _ c19_0_0
    have c19_2_0 : w19.cell? ⟨w2.heap.size, 0, none⟩ = some (.int .i64 ((Z.TimesFormula E F).1.L).dg) := f19.cell_of (by go_simp)
    have c19_2_1 : w19.cell? ⟨w2.heap.size, 1, none⟩ = some (.int .i64 ((Z.TimesFormula E F).1.L).tn) := f19.cell_of (by go_simp)
    have c19_2_2 : w19.cell? ⟨w2.heap.size, 2, none⟩ = some (.string ((Z.TimesFormula E F).1.L).nm) := f19.cell_of (by go_simp)
    have c19_2_3 : w19.cell? ⟨w2.heap.size, 3, none⟩ = some (.slice oXL ((Z.TimesFormula E F).1.L).pw.length kXL) := f19.cell_of (by go_simp)
    have c19_2_4 : w19.cell? ⟨w2.heap.size, 4, none⟩ = some (.int .i64 ((Z.TimesFormula E F).1.R).dg) := f19.cell_of (by go_simp)
    have c19_2_5 : w19.cell? ⟨w2.heap.size, 5, none⟩ = some (.int .i64 ((Z.TimesFormula E F).1.R).tn) := f19.cell_of (by go_simp)
    have c19_2_6 : w19.cell? ⟨w2.heap.size, 6, none⟩ = some (.string ((Z.TimesFormula E F).1.R).nm) := f19.cell_of (by go_simp)
    have c19_2_7 : w19.cell? ⟨w2.heap.size, 7, none⟩ = some (.slice oXR ((Z.TimesFormula E F).1.R).pw.length kXR) := f19.cell_of (by go_simp)
    have y19_2 : w2.heap.size < w19.heap.size := World.block_lt_of_cell? w19 _ c19_2_0
    have c19_13_0 : w19.cell? ⟨w18.heap.size, 0, none⟩ = some (.int .i64 ((Z.QuotientFormula E).1).dg) := f19.cell_of (by go_simp)
    have c19_13_1 : w19.cell? ⟨w18.heap.size, 1, none⟩ = some (.int .i64 ((Z.QuotientFormula E).1).tn) := f19.cell_of (by go_simp)
    have c19_13_2 : w19.cell? ⟨w18.heap.size, 2, none⟩ = some (.string ((Z.QuotientFormula E).1).nm) := f19.cell_of (by go_simp)
    have c19_13_3 : w19.cell? ⟨w18.heap.size, 3, none⟩ = some (.slice oG ((Z.QuotientFormula E).1).pw.length kG) := f19.cell_of (by go_simp)
    have y19_13 : w18.heap.size < w19.heap.size := World.block_lt_of_cell? w19 _ c19_13_0
    have IEL_19 := K.ints.ext (show K.ints _ 0 w1.heap.size (.slice oEL E.L.pw.length kEL) E.L.pw from by with_reducible repeat' (first | exact IEL_18 | refine K.ints.alloc ?_ _ | refine K.ints.drew ?_ | refine K.ints.set ?_ _ ?_ _ | (dsimp only; omega) | omega | (simp; done) | (simp; omega))) f19
    have IER_19 := K.ints.ext (show K.ints _ 0 w1.heap.size (.slice oER E.R.pw.length kER) E.R.pw from by with_reducible repeat' (first | exact IER_18 | refine K.ints.alloc ?_ _ | refine K.ints.drew ?_ | refine K.ints.set ?_ _ ?_ _ | (dsimp only; omega) | omega | (simp; done) | (simp; omega))) f19
    have IXL_19 := K.ints.ext (show K.ints _ 0 w2.heap.size (.slice oXL ((Z.TimesFormula E F).1.L).pw.length kXL) ((Z.TimesFormula E F).1.L).pw from by with_reducible repeat' (first | exact IXL_18 | refine K.ints.alloc ?_ _ | refine K.ints.drew ?_ | refine K.ints.set ?_ _ ?_ _ | (dsimp only; omega) | omega | (simp; done) | (simp; omega))) f19
    have IXR_19 := K.ints.ext (show K.ints _ 0 w2.heap.size (.slice oXR ((Z.TimesFormula E F).1.R).pw.length kXR) ((Z.TimesFormula E F).1.R).pw from by with_reducible repeat' (first | exact IXR_18 | refine K.ints.alloc ?_ _ | refine K.ints.drew ?_ | refine K.ints.set ?_ _ ?_ _ | (dsimp only; omega) | omega | (simp; done) | (simp; omega))) f19
    have IG_19 := K.ints.ext (show K.ints _ 0 w18.heap.size (.slice oG ((Z.QuotientFormula E).1).pw.length kG) ((Z.QuotientFormula E).1).pw from by with_reducible repeat' (first | exact IG_18 | refine K.ints.alloc ?_ _ | refine K.ints.drew ?_ | refine K.ints.set ?_ _ ?_ _ | (dsimp only; omega) | omega | (simp; done) | (simp; omega))) f19
    clear c18_0_0 c18_0_1 c18_0_2 c18_0_3 c18_0_4 c18_0_5 c18_0_6 c18_0_7 y18_0 c18_2_0 c18_2_1 c18_2_2 c18_2_3 c18_2_4 c18_2_5 c18_2_6 c18_2_7 y18_2 IEL_18 IER_18 IXL_18 IXR_18 IG_18 F18 f19 u19_0_1 u19_2_1
    by_cases h8 : (Z.QuotientFormula E).2 = 0
    · by_cases h9 : (Z.QuotientFormula (Z.TimesFormula E F).1).2 = 0
      · obtain ⟨l1, l2⟩ := Z.times_law hb h8 h9
        rw [l2] at IH_19
        have q2 := (Z.QuotientFormula_le E).1
        go_wp2_with fail
        refine K.call (by with_reducible rfl) (by with_reducible rfl) (likeInts_same (Z.QuotientFormula E).1.pw _ _ _ _ _ _ _ q2 (show K.ints _ 0 w18.heap.size (.slice oG ((Z.QuotientFormula E).1).pw.length kG) ((Z.QuotientFormula E).1).pw from by with_reducible repeat' (first | exact IG_19 | refine K.ints.alloc ?_ _ | refine K.ints.drew ?_ | refine K.ints.set ?_ _ ?_ _ | (dsimp only; omega) | omega | (simp; done) | (simp; omega))) (show K.ints _ 0 w19.heap.size (.slice oH ((Z.QuotientFormula E).1).pw.length kH) ((Z.QuotientFormula E).1).pw from by with_reducible repeat' (first | exact IH_19 | refine K.ints.alloc ?_ _ | refine K.ints.drew ?_ | refine K.ints.set ?_ _ ?_ _ | (dsimp only; omega) | omega | (simp; done) | (simp; omega)))) ?_
        rintro e w20 ⟨rfl, f20⟩
        have u20_0_1 : w1.heap.size < w19.heap.size + 1 := (by omega)
        have u20_2_1 : w2.heap.size < w19.heap.size + 1 := (by omega)
        have u20_13_1 : w18.heap.size < w19.heap.size + 1 := (by omega)
        have F20 : K.Ext w w20 := K.Ext.trans (by repeat' (first | with_reducible exact F19 | with_reducible refine K.Ext.setCell ?_ ?_ _ | with_reducible refine K.Ext.alloc ?_ _ | with_reducible refine K.Ext.drew ?_ | (dsimp only; omega) | omega | (simp; omega))) f20
        have c20_0_0 : w20.cell? ⟨w1.heap.size, 0, none⟩ = some (.int .i64 E.L.dg) := f20.cell_of (by go_simp)
        have c20_0_1 : w20.cell? ⟨w1.heap.size, 1, none⟩ = some (.int .i64 E.L.tn) := f20.cell_of (by go_simp)
        have c20_0_2 : w20.cell? ⟨w1.heap.size, 2, none⟩ = some (.string E.L.nm) := f20.cell_of (by go_simp)
        have c20_0_3 : w20.cell? ⟨w1.heap.size, 3, none⟩ = some (.slice oEL E.L.pw.length kEL) := f20.cell_of (by go_simp)
        have c20_0_4 : w20.cell? ⟨w1.heap.size, 4, none⟩ = some (.int .i64 E.R.dg) := f20.cell_of (by go_simp)
        have c20_0_5 : w20.cell? ⟨w1.heap.size, 5, none⟩ = some (.int .i64 E.R.tn) := f20.cell_of (by go_simp)
        have c20_0_6 : w20.cell? ⟨w1.heap.size, 6, none⟩ = some (.string E.R.nm) := f20.cell_of (by go_simp)
        have c20_0_7 : w20.cell? ⟨w1.heap.size, 7, none⟩ = some (.slice oER E.R.pw.length kER) := f20.cell_of (by go_simp)
        have y20_0 : w1.heap.size < w20.heap.size := World.block_lt_of_cell? w20 _ c20_0_0
        have c20_2_0 : w20.cell? ⟨w2.heap.size, 0, none⟩ = some (.int .i64 ((Z.TimesFormula E F).1.L).dg) := f20.cell_of (by go_simp)
        have c20_2_1 : w20.cell? ⟨w2.heap.size, 1, none⟩ = some (.int .i64 ((Z.TimesFormula E F).1.L).tn) := f20.cell_of (by go_simp)
        have c20_2_2 : w20.cell? ⟨w2.heap.size, 2, none⟩ = some (.string ((Z.TimesFormula E F).1.L).nm) := f20.cell_of (by go_simp)
        have c20_2_3 : w20.cell? ⟨w2.heap.size, 3, none⟩ = some (.slice oXL ((Z.TimesFormula E F).1.L).pw.length kXL) := f20.cell_of (by go_simp)
        have c20_2_4 : w20.cell? ⟨w2.heap.size, 4, none⟩ = some (.int .i64 ((Z.TimesFormula E F).1.R).dg) := f20.cell_of (by go_simp)
        have c20_2_5 : w20.cell? ⟨w2.heap.size, 5, none⟩ = some (.int .i64 ((Z.TimesFormula E F).1.R).tn) := f20.cell_of (by go_simp)
        have c20_2_6 : w20.cell? ⟨w2.heap.size, 6, none⟩ = some (.string ((Z.TimesFormula E F).1.R).nm) := f20.cell_of (by go_simp)
        have c20_2_7 : w20.cell? ⟨w2.heap.size, 7, none⟩ = some (.slice oXR ((Z.TimesFormula E F).1.R).pw.length kXR) := f20.cell_of (by go_simp)
        have y20_2 : w2.heap.size < w20.heap.size := World.block_lt_of_cell? w20 _ c20_2_0
        have c20_13_0 : w20.cell? ⟨w18.heap.size, 0, none⟩ = some (.int .i64 ((Z.QuotientFormula E).1).dg) := f20.cell_of (by go_simp)
        have c20_13_1 : w20.cell? ⟨w18.heap.size, 1, none⟩ = some (.int .i64 ((Z.QuotientFormula E).1).tn) := f20.cell_of (by go_simp)
        have c20_13_2 : w20.cell? ⟨w18.heap.size, 2, none⟩ = some (.string ((Z.QuotientFormula E).1).nm) := f20.cell_of (by go_simp)
        have c20_13_3 : w20.cell? ⟨w18.heap.size, 3, none⟩ = some (.slice oG ((Z.QuotientFormula E).1).pw.length kG) := f20.cell_of (by go_simp)
        have y20_13 : w18.heap.size < w20.heap.size := World.block_lt_of_cell? w20 _ c20_13_0
        have c20_14_0 : w20.cell? ⟨w19.heap.size, 0, none⟩ = some (.int .i64 ((Z.QuotientFormula (Z.TimesFormula E F).1).1).dg) := f20.cell_of (by go_simp)
        have c20_14_1 : w20.cell? ⟨w19.heap.size, 1, none⟩ = some (.int .i64 ((Z.QuotientFormula (Z.TimesFormula E F).1).1).tn) := f20.cell_of (by go_simp)
        have c20_14_2 : w20.cell? ⟨w19.heap.size, 2, none⟩ = some (.string ((Z.QuotientFormula (Z.TimesFormula E F).1).1).nm) := f20.cell_of (by go_simp)
        have c20_14_3 : w20.cell? ⟨w19.heap.size, 3, none⟩ = some (.slice oH ((Z.QuotientFormula (Z.TimesFormula E F).1).1).pw.length kH) := f20.cell_of (by go_simp)
        have y20_14 : w19.heap.size < w20.heap.size := World.block_lt_of_cell? w20 _ c20_14_0
        have IEL_20 := K.ints.ext (show K.ints _ 0 w1.heap.size (.slice oEL E.L.pw.length kEL) E.L.pw from by with_reducible repeat' (first | exact IEL_19 | refine K.ints.alloc ?_ _ | refine K.ints.drew ?_ | refine K.ints.set ?_ _ ?_ _ | (dsimp only; omega) | omega | (simp; done) | (simp; omega))) f20
        have IER_20 := K.ints.ext (show K.ints _ 0 w1.heap.size (.slice oER E.R.pw.length kER) E.R.pw from by with_reducible repeat' (first | exact IER_19 | refine K.ints.alloc ?_ _ | refine K.ints.drew ?_ | refine K.ints.set ?_ _ ?_ _ | (dsimp only; omega) | omega | (simp; done) | (simp; omega))) f20
        have IXL_20 := K.ints.ext (show K.ints _ 0 w2.heap.size (.slice oXL ((Z.TimesFormula E F).1.L).pw.length kXL) ((Z.TimesFormula E F).1.L).pw from by with_reducible repeat' (first | exact IXL_19 | refine K.ints.alloc ?_ _ | refine K.ints.drew ?_ | refine K.ints.set ?_ _ ?_ _ | (dsimp only; omega) | omega | (simp; done) | (simp; omega))) f20
        have IXR_20 := K.ints.ext (show K.ints _ 0 w2.heap.size (.slice oXR ((Z.TimesFormula E F).1.R).pw.length kXR) ((Z.TimesFormula E F).1.R).pw from by with_reducible repeat' (first | exact IXR_19 | refine K.ints.alloc ?_ _ | refine K.ints.drew ?_ | refine K.ints.set ?_ _ ?_ _ | (dsimp only; omega) | omega | (simp; done) | (simp; omega))) f20
        have IG_20 := K.ints.ext (show K.ints _ 0 w18.heap.size (.slice oG ((Z.QuotientFormula E).1).pw.length kG) ((Z.QuotientFormula E).1).pw from by with_reducible repeat' (first | exact IG_19 | refine K.ints.alloc ?_ _ | refine K.ints.drew ?_ | refine K.ints.set ?_ _ ?_ _ | (dsimp only; omega) | omega | (simp; done) | (simp; omega))) f20
        have IH_20 := K.ints.ext (show K.ints _ 0 w19.heap.size (.slice oH ((Z.QuotientFormula E).1).pw.length kH) ((Z.QuotientFormula E).1).pw from by with_reducible repeat' (first | exact IH_19 | refine K.ints.alloc ?_ _ | refine K.ints.drew ?_ | refine K.ints.set ?_ _ ?_ _ | (dsimp only; omega) | omega | (simp; done) | (simp; omega))) f20
        clear c19_0_0 c19_0_1 c19_0_2 c19_0_3 c19_0_4 c19_0_5 c19_0_6 c19_0_7 y19_0 c19_2_0 c19_2_1 c19_2_2 c19_2_3 c19_2_4 c19_2_5 c19_2_6 c19_2_7 y19_2 c19_13_0 c19_13_1 c19_13_2 c19_13_3 y19_13 IEL_19 IER_19 IXL_19 IXR_19 IG_19 IH_19 F19 f20 u20_0_1 u20_2_1 u20_13_1
        go_wp2_with fail
        go_ret
        exact ⟨rfl, (by repeat' (first | with_reducible exact F20 | with_reducible refine K.Ext.setCell ?_ ?_ _ | with_reducible refine K.Ext.alloc ?_ _ | with_reducible refine K.Ext.drew ?_ | (dsimp only; omega) | omega | (simp; omega)))⟩
      go_wp2_with fail
      go_ret
      exact ⟨rfl, (by repeat' (first | with_reducible exact F19 | with_reducible refine K.Ext.setCell ?_ ?_ _ | with_reducible refine K.Ext.alloc ?_ _ | with_reducible refine K.Ext.drew ?_ | (dsimp only; omega) | omega | (simp; omega)))⟩
    go_wp2_with fail
    go_ret
    exact ⟨rfl, (by repeat' (first | with_reducible exact F19 | with_reducible refine K.Ext.setCell ?_ ?_ _ | with_reducible refine K.Ext.alloc ?_ _ | with_reducible refine K.Ext.drew ?_ | (dsimp only; omega) | omega | (simp; omega)))⟩
  go_wp2_with fail
  go_ret
  exact ⟨rfl, (by repeat' (first | with_reducible exact F17 | with_reducible refine K.Ext.setCell ?_ ?_ _ | with_reducible refine K.Ext.alloc ?_ _ | with_reducible refine K.Ext.drew ?_ | (dsimp only; omega) | omega | (simp; omega)))⟩
end Go.Proofs.Ythmnlbgbacbocaa
