/-
  FORMULAS: powers, the reference.
-/
import Derived.Test.YthmnlbgbacbocaaPow
set_option linter.unusedVariables false
namespace Go.Proofs.Ythmnlbgbacbocaa
open Go.RowKit
set_option maxRecDepth 100000 in
set_option maxHeartbeats 12800000 in
theorem spec_PowerFormula (F : Z.Fm) (n : Int) {lo hi : Nat} {p : Value} (w : World) (hm : F.pw.length ≤ 1048576) (hn : F.nm.size ≤ 1048576) (h : K.ints w lo hi p F.pw) :
    Calls Try.prog 31 #[.agg #[.int .i64 F.dg, .int .i64 F.tn, .string F.nm, p], .int .i64 n] w fun e w' => (∃ p', e = .returned (.tuple #[.agg #[.int .i64 ((Z.PowerFormula F n).1).dg, .int .i64 ((Z.PowerFormula F n).1).tn, .string ((Z.PowerFormula F n).1).nm, p'], .int .i64 (Z.PowerFormula F n).2]) ∧ K.ints w' w.heap.size w'.heap.size p' (Z.PowerFormula F n).1.pw) ∧ K.Ext w w' := by
  have g1 := h
  obtain ⟨o, cap, rfl, _⟩ := g1
  cases hF : Z.isFormula F
  · have HE : Hid (Z.PowerFormula F n = (Z.zeroFm, 1)) := Z.hide (by unfold Z.PowerFormula; rw [hF]; rfl)
    go_enter Try.func31, Try.ntmps31
    go_wp2_with (((go_at_call 91; refine K.call (by with_reducible rfl) (by with_reducible rfl) (spec_IsFormula F _ hm hn (h.ext (by repeat' (first | with_reducible exact K.Ext.refl _ | with_reducible assumption | with_reducible refine K.Ext.drew ?_ | with_reducible refine K.Ext.alloc ?_ _ | with_reducible refine K.Ext.setCell ?_ ?_ _ | with_reducible refine K.Ext.trans ?_ (by with_reducible assumption) | (dsimp only; omega) | omega | exact K.Ext.refl _ | assumption | apply K.Ext.drew | refine K.Ext.alloc ?_ _ | refine K.Ext.setCell ?_ ?_ _ | (simp; done) | (simp; omega) | refine K.Ext.trans ?_ (by assumption))))) ?_; rintro e w1 ⟨rfl, hw1⟩; obtain ⟨hcw1, hfw1⟩ := hw1.facts); have c_w1_0_0 : w1.cell? ⟨w.heap.size, 0, none⟩ = some (.int .i64 (F.dg)) := hw1.cell_of (by go_simp); have f_w1_0_0 : w1.frozen? ⟨w.heap.size, 0, none⟩ = false := hw1.thaw_of (by go_simp) (by go_simp); have c_w1_0_1 : w1.cell? ⟨w.heap.size, 1, none⟩ = some (.int .i64 (F.tn)) := hw1.cell_of (by go_simp); have f_w1_0_1 : w1.frozen? ⟨w.heap.size, 1, none⟩ = false := hw1.thaw_of (by go_simp) (by go_simp); have c_w1_0_2 : w1.cell? ⟨w.heap.size, 2, none⟩ = some (.string F.nm) := hw1.cell_of (by go_simp); have f_w1_0_2 : w1.frozen? ⟨w.heap.size, 2, none⟩ = false := hw1.thaw_of (by go_simp) (by go_simp); have c_w1_0_3 : w1.cell? ⟨w.heap.size, 3, none⟩ = some (.slice o F.pw.length cap) := hw1.cell_of (by go_simp); have f_w1_0_3 : w1.frozen? ⟨w.heap.size, 3, none⟩ = false := hw1.thaw_of (by go_simp) (by go_simp); have c_w1_1_0 : w1.cell? ⟨w.heap.size + 1, 0, none⟩ = some (.int .i64 (0)) := hw1.cell_of (by go_simp); have f_w1_1_0 : w1.frozen? ⟨w.heap.size + 1, 0, none⟩ = false := hw1.thaw_of (by go_simp) (by go_simp); have c_w1_1_1 : w1.cell? ⟨w.heap.size + 1, 1, none⟩ = some (.int .i64 (0)) := hw1.cell_of (by go_simp); have f_w1_1_1 : w1.frozen? ⟨w.heap.size + 1, 1, none⟩ = false := hw1.thaw_of (by go_simp) (by go_simp); have c_w1_1_2 : w1.cell? ⟨w.heap.size + 1, 2, none⟩ = some (.string ⟨#[]⟩) := hw1.cell_of (by go_simp); have f_w1_1_2 : w1.frozen? ⟨w.heap.size + 1, 2, none⟩ = false := hw1.thaw_of (by go_simp) (by go_simp); have c_w1_1_3 : w1.cell? ⟨w.heap.size + 1, 3, none⟩ = some (.slice none 0 0) := hw1.cell_of (by go_simp); have f_w1_1_3 : w1.frozen? ⟨w.heap.size + 1, 3, none⟩ = false := hw1.thaw_of (by go_simp) (by go_simp)))
    rw [HE.out]
    refine bodyPost_ret (v := .tuple #[.agg #[.int .i64 0, .int .i64 0, .string ⟨#[]⟩, .slice none 0 0], .int .i64 1]) (by unfold results; rw [Try.results31]; go_simp) rfl ⟨⟨_, rfl, K.ints_nil _ _ _⟩, ?_⟩
    repeat with_reducible refine K.Ext.setCell ?_ (by dsimp only; omega) _
    exact (by repeat' (first | with_reducible exact K.Ext.refl _ | with_reducible assumption | with_reducible refine K.Ext.drew ?_ | with_reducible refine K.Ext.alloc ?_ _ | with_reducible refine K.Ext.setCell ?_ ?_ _ | with_reducible refine K.Ext.trans ?_ (by with_reducible assumption) | (dsimp only; omega) | omega | exact K.Ext.refl _ | assumption | apply K.Ext.drew | refine K.Ext.alloc ?_ _ | refine K.Ext.setCell ?_ ?_ _ | (simp; done) | (simp; omega) | refine K.Ext.trans ?_ (by assumption)))
  · cases h3 : Z.pow3 n
    · have HE : Hid (Z.PowerFormula F n = (Z.zeroFm, 2)) := Z.hide (by unfold Z.PowerFormula; rw [hF, h3]; rfl)
      have H3 : ∀ w : World, Calls Try.prog 96 #[.int .i64 n, .int .i64 (-3), .int .i64 3] w fun e w' => e = .returned (.bool false) ∧ w = w' := fun w => by
        have h_ := l01In_any n (-3) 3 w
        rwa [show (decide (-3 ≤ n) && decide (n ≤ 3)) = false from h3] at h_
      have H3' := Z.hide H3
      clear h3 H3
      go_enter Try.func31, Try.ntmps31
      go_wp2_with (first | ((go_at_call 91; refine K.call (by with_reducible rfl) (by with_reducible rfl) (spec_IsFormula F _ hm hn (h.ext (by repeat' (first | with_reducible exact K.Ext.refl _ | with_reducible assumption | with_reducible refine K.Ext.drew ?_ | with_reducible refine K.Ext.alloc ?_ _ | with_reducible refine K.Ext.setCell ?_ ?_ _ | with_reducible refine K.Ext.trans ?_ (by with_reducible assumption) | (dsimp only; omega) | omega | exact K.Ext.refl _ | assumption | apply K.Ext.drew | refine K.Ext.alloc ?_ _ | refine K.Ext.setCell ?_ ?_ _ | (simp; done) | (simp; omega) | refine K.Ext.trans ?_ (by assumption))))) ?_; rintro e w1 ⟨rfl, hw1⟩; obtain ⟨hcw1, hfw1⟩ := hw1.facts); have c_w1_0_0 : w1.cell? ⟨w.heap.size, 0, none⟩ = some (.int .i64 (F.dg)) := hw1.cell_of (by go_simp); have f_w1_0_0 : w1.frozen? ⟨w.heap.size, 0, none⟩ = false := hw1.thaw_of (by go_simp) (by go_simp); have c_w1_0_1 : w1.cell? ⟨w.heap.size, 1, none⟩ = some (.int .i64 (F.tn)) := hw1.cell_of (by go_simp); have f_w1_0_1 : w1.frozen? ⟨w.heap.size, 1, none⟩ = false := hw1.thaw_of (by go_simp) (by go_simp); have c_w1_0_2 : w1.cell? ⟨w.heap.size, 2, none⟩ = some (.string F.nm) := hw1.cell_of (by go_simp); have f_w1_0_2 : w1.frozen? ⟨w.heap.size, 2, none⟩ = false := hw1.thaw_of (by go_simp) (by go_simp); have c_w1_0_3 : w1.cell? ⟨w.heap.size, 3, none⟩ = some (.slice o F.pw.length cap) := hw1.cell_of (by go_simp); have f_w1_0_3 : w1.frozen? ⟨w.heap.size, 3, none⟩ = false := hw1.thaw_of (by go_simp) (by go_simp); have c_w1_1_0 : w1.cell? ⟨w.heap.size + 1, 0, none⟩ = some (.int .i64 (0)) := hw1.cell_of (by go_simp); have f_w1_1_0 : w1.frozen? ⟨w.heap.size + 1, 0, none⟩ = false := hw1.thaw_of (by go_simp) (by go_simp); have c_w1_1_1 : w1.cell? ⟨w.heap.size + 1, 1, none⟩ = some (.int .i64 (0)) := hw1.cell_of (by go_simp); have f_w1_1_1 : w1.frozen? ⟨w.heap.size + 1, 1, none⟩ = false := hw1.thaw_of (by go_simp) (by go_simp); have c_w1_1_2 : w1.cell? ⟨w.heap.size + 1, 2, none⟩ = some (.string ⟨#[]⟩) := hw1.cell_of (by go_simp); have f_w1_1_2 : w1.frozen? ⟨w.heap.size + 1, 2, none⟩ = false := hw1.thaw_of (by go_simp) (by go_simp); have c_w1_1_3 : w1.cell? ⟨w.heap.size + 1, 3, none⟩ = some (.slice none 0 0) := hw1.cell_of (by go_simp); have f_w1_1_3 : w1.frozen? ⟨w.heap.size + 1, 3, none⟩ = false := hw1.thaw_of (by go_simp) (by go_simp)) | (go_at_call 96; refine K.call (by with_reducible rfl) (by with_reducible rfl) (H3'.out _) ?_; rintro e w' ⟨rfl, rfl⟩))
      rw [HE.out]
      refine bodyPost_ret (v := .tuple #[.agg #[.int .i64 0, .int .i64 0, .string ⟨#[]⟩, .slice none 0 0], .int .i64 2]) (by unfold results; rw [Try.results31]; go_simp) rfl ⟨⟨_, rfl, K.ints_nil _ _ _⟩, ?_⟩
      repeat with_reducible refine K.Ext.setCell ?_ (by dsimp only; omega) _
      exact (by repeat' (first | with_reducible exact K.Ext.refl _ | with_reducible assumption | with_reducible refine K.Ext.drew ?_ | with_reducible refine K.Ext.alloc ?_ _ | with_reducible refine K.Ext.setCell ?_ ?_ _ | with_reducible refine K.Ext.trans ?_ (by with_reducible assumption) | (dsimp only; omega) | omega | exact K.Ext.refl _ | assumption | apply K.Ext.drew | refine K.Ext.alloc ?_ _ | refine K.Ext.setCell ?_ ?_ _ | (simp; done) | (simp; omega) | refine K.Ext.trans ?_ (by assumption)))
    · obtain ⟨n1, n2⟩ : -3 ≤ n ∧ n ≤ 3 := by simp only [Z.pow3, Bool.and_eq_true, decide_eq_true_eq] at h3; exact h3
      have HP : Hid (Z.PowerFormula F n = Z.raised F n) := Z.hide (Z.PowerFormula_eq hF ⟨n1, n2⟩)
      have H3 : ∀ w : World, Calls Try.prog 96 #[.int .i64 n, .int .i64 (-3), .int .i64 3] w fun e w' => e = .returned (.bool true) ∧ w = w' := fun w => by
        have h_ := l01In_any n (-3) 3 w
        rwa [show (decide (-3 ≤ n) && decide (n ≤ 3)) = true from h3] at h_
      have H3' := Z.hide H3
      obtain ⟨m, hmn⟩ : ∃ m : Nat, m = n.natAbs := ⟨_, rfl⟩
      have hm3 : m ≤ 3 := by omega
      have HAB : Hid (∀ w : World, Calls Try.prog 110 #[.int .i64 n] w fun e w' => e = .returned (.int .i64 (m : Int)) ∧ w = w') := Z.hide (fun w => by rw [hmn]; exact l01Abs_any n w (by omega) (by omega))
      obtain ⟨g, hgd⟩ : ∃ g, g = decide (0 < n) := ⟨_, rfl⟩
      have HM := Z.hide hmn
      have HD := Z.hide hgd
      have HF := Z.hide hF
      have HH := Z.hide h
      clear h3 H3 hmn hgd
      go_enter Try.func31, Try.ntmps31
      go_wp2_with (first | ((go_at_call 91; refine K.call (by with_reducible rfl) (by with_reducible rfl) (spec_IsFormula F _ hm hn (h.ext (by repeat' (first | with_reducible exact K.Ext.refl _ | with_reducible assumption | with_reducible refine K.Ext.drew ?_ | with_reducible refine K.Ext.alloc ?_ _ | with_reducible refine K.Ext.setCell ?_ ?_ _ | with_reducible refine K.Ext.trans ?_ (by with_reducible assumption) | (dsimp only; omega) | omega | exact K.Ext.refl _ | assumption | apply K.Ext.drew | refine K.Ext.alloc ?_ _ | refine K.Ext.setCell ?_ ?_ _ | (simp; done) | (simp; omega) | refine K.Ext.trans ?_ (by assumption))))) ?_; rintro e w1 ⟨rfl, hw1⟩; obtain ⟨hcw1, hfw1⟩ := hw1.facts); have c_w1_0_0 : w1.cell? ⟨w.heap.size, 0, none⟩ = some (.int .i64 (F.dg)) := hw1.cell_of (by go_simp); have f_w1_0_0 : w1.frozen? ⟨w.heap.size, 0, none⟩ = false := hw1.thaw_of (by go_simp) (by go_simp); have c_w1_0_1 : w1.cell? ⟨w.heap.size, 1, none⟩ = some (.int .i64 (F.tn)) := hw1.cell_of (by go_simp); have f_w1_0_1 : w1.frozen? ⟨w.heap.size, 1, none⟩ = false := hw1.thaw_of (by go_simp) (by go_simp); have c_w1_0_2 : w1.cell? ⟨w.heap.size, 2, none⟩ = some (.string F.nm) := hw1.cell_of (by go_simp); have f_w1_0_2 : w1.frozen? ⟨w.heap.size, 2, none⟩ = false := hw1.thaw_of (by go_simp) (by go_simp); have c_w1_0_3 : w1.cell? ⟨w.heap.size, 3, none⟩ = some (.slice o F.pw.length cap) := hw1.cell_of (by go_simp); have f_w1_0_3 : w1.frozen? ⟨w.heap.size, 3, none⟩ = false := hw1.thaw_of (by go_simp) (by go_simp); have c_w1_1_0 : w1.cell? ⟨w.heap.size + 1, 0, none⟩ = some (.int .i64 (0)) := hw1.cell_of (by go_simp); have f_w1_1_0 : w1.frozen? ⟨w.heap.size + 1, 0, none⟩ = false := hw1.thaw_of (by go_simp) (by go_simp); have c_w1_1_1 : w1.cell? ⟨w.heap.size + 1, 1, none⟩ = some (.int .i64 (0)) := hw1.cell_of (by go_simp); have f_w1_1_1 : w1.frozen? ⟨w.heap.size + 1, 1, none⟩ = false := hw1.thaw_of (by go_simp) (by go_simp); have c_w1_1_2 : w1.cell? ⟨w.heap.size + 1, 2, none⟩ = some (.string ⟨#[]⟩) := hw1.cell_of (by go_simp); have f_w1_1_2 : w1.frozen? ⟨w.heap.size + 1, 2, none⟩ = false := hw1.thaw_of (by go_simp) (by go_simp); have c_w1_1_3 : w1.cell? ⟨w.heap.size + 1, 3, none⟩ = some (.slice none 0 0) := hw1.cell_of (by go_simp); have f_w1_1_3 : w1.frozen? ⟨w.heap.size + 1, 3, none⟩ = false := hw1.thaw_of (by go_simp) (by go_simp)) | (go_at_call 96; refine K.call (by with_reducible rfl) (by with_reducible rfl) (H3'.out _) ?_; rintro e w' ⟨rfl, rfl⟩))
      have s1 : w.heap.size + 2 ≤ w1.heap.size := by have h_ := hw1.size; simp at h_; omega
      have B0 : w1.heap[w.heap.size]? = some (.cells #[.int .i64 F.dg, .int .i64 F.tn, .string F.nm, .slice o F.pw.length cap] 32) := K.Ext.block_of (((K.Ext.refl _).alloc _).block (K.block_new rfl)) hw1
      have B1 : w1.heap[w.heap.size + 1]? = some (.cells #[.int .i64 0, .int .i64 0, .string ⟨#[]⟩, .slice none 0 0] 32) := K.Ext.block_of (K.block_new (by simp)) hw1
      have R0 := Z.hide B0
      have R1 := Z.hide B1
      have HX1 : Hid (K.Ext w w1) := Z.hide (by repeat' (first | with_reducible exact K.Ext.refl _ | with_reducible assumption | with_reducible refine K.Ext.drew ?_ | with_reducible refine K.Ext.alloc ?_ _ | with_reducible refine K.Ext.setCell ?_ ?_ _ | with_reducible refine K.Ext.trans ?_ (by with_reducible assumption) | (dsimp only; omega) | omega | exact K.Ext.refl _ | assumption | apply K.Ext.drew | refine K.Ext.alloc ?_ _ | refine K.Ext.setCell ?_ ?_ _ | (simp; done) | (simp; omega) | refine K.Ext.trans ?_ (by assumption)))
      clear B0 B1 hF h
      go_loopw [7] (fun i wr => ∃ k : Nat, k ≤ m ∧ i = .int .i64 k ∧ Hid ((Z.powK g (F.dg, F.tn) k).2 = 0) ∧ Hid (wr.heap[w.heap.size]? = some (.cells #[.int .i64 F.dg, .int .i64 F.tn, .string F.nm, .slice o F.pw.length cap] 32)) ∧ Hid (wr.heap[w.heap.size + 1]? = some (.cells #[.int .i64 0, .int .i64 0, .string ⟨#[]⟩, .slice none 0 0] 32)) ∧ Hid (wr.heap[w1.heap.size]? = some (.cells #[.int .i64 (Z.powK g (F.dg, F.tn) k).1.1, .int .i64 (Z.powK g (F.dg, F.tn) k).1.2] 30)) ∧ Hid (K.Ext w wr)) (fun i _ => m - (intOf i).toNat)
      case atStart =>
        refine ⟨0, Nat.zero_le _, rfl, Z.hide rfl, Z.hide ?_, Z.hide ?_, Z.hide ?_, Z.hide (by repeat' (first | with_reducible exact K.Ext.refl _ | with_reducible assumption | with_reducible refine K.Ext.drew ?_ | with_reducible refine K.Ext.alloc ?_ _ | with_reducible refine K.Ext.setCell ?_ ?_ _ | with_reducible refine K.Ext.trans ?_ (by with_reducible assumption) | (dsimp only; omega) | omega | exact K.Ext.refl _ | assumption | apply K.Ext.drew | refine K.Ext.alloc ?_ _ | refine K.Ext.setCell ?_ ?_ _ | (simp; done) | (simp; omega) | refine K.Ext.trans ?_ (by assumption)))⟩
        · exact K.Ext.block_of R0.out (by repeat' (first | with_reducible exact K.Ext.refl _ | with_reducible assumption | with_reducible refine K.Ext.drew ?_ | with_reducible refine K.Ext.alloc ?_ _ | with_reducible refine K.Ext.setCell ?_ ?_ _ | with_reducible refine K.Ext.trans ?_ (by with_reducible assumption) | (dsimp only; omega) | omega | exact K.Ext.refl _ | assumption | apply K.Ext.drew | refine K.Ext.alloc ?_ _ | refine K.Ext.setCell ?_ ?_ _ | (simp; done) | (simp; omega) | refine K.Ext.trans ?_ (by assumption)))
        · exact K.Ext.block_of R1.out (by repeat' (first | with_reducible exact K.Ext.refl _ | with_reducible assumption | with_reducible refine K.Ext.drew ?_ | with_reducible refine K.Ext.alloc ?_ _ | with_reducible refine K.Ext.setCell ?_ ?_ _ | with_reducible refine K.Ext.trans ?_ (by with_reducible assumption) | (dsimp only; omega) | omega | exact K.Ext.refl _ | assumption | apply K.Ext.drew | refine K.Ext.alloc ?_ _ | refine K.Ext.setCell ?_ ?_ _ | (simp; done) | (simp; omega) | refine K.Ext.trans ?_ (by assumption)))
        · exact K.block_new rfl
      case round =>
        obtain ⟨k, hk, rfl, HZ, C0, C1, C3, HX⟩ := hrel
        clear R0 R1 HX1 hw1
        have k0 : (0 : Int) ≤ (k : Int) := Int.natCast_nonneg k
        have d0 : wr.cell? ⟨w.heap.size, 0, none⟩ = some (.int .i64 F.dg) := K.cell_at C0.out rfl
        have d1 : wr.cell? ⟨w.heap.size, 1, none⟩ = some (.int .i64 F.tn) := K.cell_at C0.out rfl
        have e0 : wr.cell? ⟨w1.heap.size, 0, none⟩ = some (.int .i64 (Z.powK g (F.dg, F.tn) k).1.1) := K.cell_at C3.out rfl
        have e1 : wr.cell? ⟨w1.heap.size, 1, none⟩ = some (.int .i64 (Z.powK g (F.dg, F.tn) k).1.2) := K.cell_at C3.out rfl
        have lw : w1.heap.size < wr.heap.size := (Array.getElem?_eq_some_iff.1 C3.out).1
        have m0 : (m : Int) = n ∨ (m : Int) = -n := by have := HM.out; omega
        by_cases hlt : k < m
        · have k1 : (k : Int) < (m : Int) := by omega
          obtain ⟨x, hx⟩ : ∃ x, x = (Z.powK g (F.dg, F.tn) k).1 := ⟨_, rfl⟩
          rw [← hx] at e0 e1
          obtain ⟨q, hq⟩ : ∃ q, q = Z.MultiplyFigures x (F.dg, F.tn) := ⟨_, rfl⟩
          have HQ : Hid (∀ w' : World, Calls Try.prog 101 #[.agg #[.int .i64 x.1, .int .i64 x.2], .agg #[.int .i64 F.dg, .int .i64 F.tn]] w' fun e w'' => e = .returned (.tuple #[.agg #[.int .i64 q.1.1, .int .i64 q.1.2], .int .i64 q.2]) ∧ K.Ext w' w'') := Z.hide (fun w' => by rw [hq]; exact spec_MultiplyFigures x (F.dg, F.tn) w')
          obtain ⟨r, hr⟩ : ∃ r, r = Z.pw1 g x (F.dg, F.tn) := ⟨_, rfl⟩
          have HS : Hid (Z.powK g (F.dg, F.tn) (k + 1) = r) := Z.hide (by rw [Z.powK_succ _ _ _ HZ.out, hr, hx])
          have HEb : Hid (¬ r.2 = 0 → Z.PowerFormula F n = (Z.zeroFm, r.2)) := Z.hide (fun hz => by
            have h1 := Z.powK_stop g (F.dg, F.tn) (k + 1) (by rw [HS.out]; exact hz) m (by omega)
            rw [HP.out]
            unfold Z.raised
            rw [← HM.out, ← HD.out, h1, HS.out, if_neg hz])
          have hgn : g = decide (0 < n) := HD.out
          by_cases hp : 0 < n
          · obtain rfl : g = true := by rw [hgn]; simpa using hp
            obtain rfl : q = r := by rw [hq, hr]; rfl
            clear hgn hx hq hr
            by_cases hz : q.2 = 0
            · have HZ2 : Hid ((Z.powK true (F.dg, F.tn) (k + 1)).2 = 0) := Z.hide (by rw [HS.out]; exact hz)
              go_wp2_with (first | (go_at_call 110; refine K.call (by with_reducible rfl) (by with_reducible rfl) (HAB.out _) ?_; rintro e w' ⟨rfl, rfl⟩) | ((go_at_call 101; refine K.call (by with_reducible rfl) (by with_reducible rfl) (HQ.out _) ?_; rintro e w2 ⟨rfl, hw2⟩; have D0 := Z.hide (K.Ext.block_of C0.out hw2); have D1 := Z.hide (K.Ext.block_of C1.out hw2); have D3 := Z.hide (K.Ext.block_of C3.out hw2); have HX2 : Hid (K.Ext w w2) := Z.hide (HX.out.trans hw2); have lw2 := hw2.size; have b1_c0 : w2.cell? ⟨w1.heap.size, 0, none⟩ = some (.int .i64 (_)) := K.cell_at D3.out rfl; have b1_f0 : w2.frozen? ⟨w1.heap.size, 0, none⟩ = false := K.thaw_at D3.out; have b1_c1 : w2.cell? ⟨w1.heap.size, 1, none⟩ = some (.int .i64 (_)) := K.cell_at D3.out rfl; have b1_f1 : w2.frozen? ⟨w1.heap.size, 1, none⟩ = false := K.thaw_at D3.out; have n1 : ¬ (w1.heap.size = w2.heap.size) := (by omega); have y1 : w1.heap.size < w2.heap.size := (by omega); have y2 : w.heap.size < w2.heap.size := (by omega); have n2 : ¬ (w2.heap.size = w1.heap.size) := (by omega))))
              go_roundw
              case rel =>
                refine ⟨k + 1, by omega, by go_num, HZ2, Z.hide ?_, Z.hide ?_, Z.hide ?_, Z.hide ?_⟩
                · refine K.Ext.block_of ?_ ((K.Ext.refl _).alloc _)
                  iterate 2 with_reducible refine Eq.trans (K.set_block (by dsimp only; omega)) ?_
                  exact D0.out
                · refine K.Ext.block_of ?_ ((K.Ext.refl _).alloc _)
                  iterate 2 with_reducible refine Eq.trans (K.set_block (by dsimp only; omega)) ?_
                  exact D1.out
                · rw [HS.out]
                  exact K.Ext.block_of (Joins.block_setCell (Joins.block_setCell D3.out _) _) ((K.Ext.refl _).alloc _)
                · with_reducible refine K.Ext.alloc ?_ _
                  iterate 2 with_reducible refine K.Ext.setCell ?_ (by dsimp only; omega) _
                  exact HX2.out
              case measure => simp [intOf]; omega
            · have HE : Hid (Z.PowerFormula F n = (Z.zeroFm, q.2)) := Z.hide (HEb.out hz)
              go_wp2_with (first | (go_at_call 110; refine K.call (by with_reducible rfl) (by with_reducible rfl) (HAB.out _) ?_; rintro e w' ⟨rfl, rfl⟩) | ((go_at_call 101; refine K.call (by with_reducible rfl) (by with_reducible rfl) (HQ.out _) ?_; rintro e w2 ⟨rfl, hw2⟩; have D1 := Z.hide (K.Ext.block_of C1.out hw2); have HX2 : Hid (K.Ext w w2) := Z.hide (HX.out.trans hw2); have lw2 := hw2.size; have b2_c0 : w2.cell? ⟨w.heap.size + 1, 0, none⟩ = some (.int .i64 (0)) := K.cell_at D1.out rfl; have b2_f0 : w2.frozen? ⟨w.heap.size + 1, 0, none⟩ = false := K.thaw_at D1.out; have b2_c1 : w2.cell? ⟨w.heap.size + 1, 1, none⟩ = some (.int .i64 (0)) := K.cell_at D1.out rfl; have b2_f1 : w2.frozen? ⟨w.heap.size + 1, 1, none⟩ = false := K.thaw_at D1.out; have b2_c2 : w2.cell? ⟨w.heap.size + 1, 2, none⟩ = some (.string ⟨#[]⟩) := K.cell_at D1.out rfl; have b2_f2 : w2.frozen? ⟨w.heap.size + 1, 2, none⟩ = false := K.thaw_at D1.out; have b2_c3 : w2.cell? ⟨w.heap.size + 1, 3, none⟩ = some (.slice none 0 0) := K.cell_at D1.out rfl; have b2_f3 : w2.frozen? ⟨w.heap.size + 1, 3, none⟩ = false := K.thaw_at D1.out; have n1 : ¬ (w.heap.size + 1 = w2.heap.size) := (by omega); have y1 : w.heap.size + 1 < w2.heap.size := (by omega); have n2 : ¬ (w2.heap.size = w.heap.size + 1) := (by omega))))
              rw [HE.out]
              refine bodyPost_ret (v := .tuple #[.agg #[.int .i64 0, .int .i64 0, .string ⟨#[]⟩, .slice none 0 0], .int .i64 q.2]) (by unfold results; rw [Try.results31]; go_simp) rfl ⟨⟨_, rfl, K.ints_nil _ _ _⟩, ?_⟩
              repeat' (first | with_reducible refine K.Ext.setCell ?_ ?_ _ | with_reducible refine K.Ext.alloc ?_ _ | (dsimp only; omega))
              exact HX2.out
          · obtain rfl : g = false := by rw [hgn]; simpa using hp
            have hneg : n < 0 := by omega
            have HR : Hid (∀ w' : World, Calls Try.prog 111 #[.agg #[.int .i64 x.1, .int .i64 x.2], .agg #[.int .i64 F.dg, .int .i64 F.tn]] w' fun e w'' => e = .returned (.tuple #[.agg #[.int .i64 r.1.1, .int .i64 r.1.2], .int .i64 r.2]) ∧ K.Ext w' w'') := Z.hide (fun w' => by rw [hr]; exact spec_DivideFigures x (F.dg, F.tn) w')
            clear hgn hx hq hr
            by_cases hz : r.2 = 0
            · have HZ2 : Hid ((Z.powK false (F.dg, F.tn) (k + 1)).2 = 0) := Z.hide (by rw [HS.out]; exact hz)
              go_wp2_with (first | (go_at_call 110; refine K.call (by with_reducible rfl) (by with_reducible rfl) (HAB.out _) ?_; rintro e w' ⟨rfl, rfl⟩) | ((go_at_call 101; refine K.call (by with_reducible rfl) (by with_reducible rfl) (HQ.out _) ?_; rintro e w2 ⟨rfl, hw2⟩; have D0 := Z.hide (K.Ext.block_of C0.out hw2); have D1 := Z.hide (K.Ext.block_of C1.out hw2); have D3 := Z.hide (K.Ext.block_of C3.out hw2); have HX2 : Hid (K.Ext w w2) := Z.hide (HX.out.trans hw2); have lw2 := hw2.size; have f0 := hw2.cell_of e0; have f1 := hw2.cell_of e1; have b3_c0 : w2.cell? ⟨w.heap.size, 0, none⟩ = some (.int .i64 (F.dg)) := K.cell_at D0.out rfl; have b3_f0 : w2.frozen? ⟨w.heap.size, 0, none⟩ = false := K.thaw_at D0.out; have b3_c1 : w2.cell? ⟨w.heap.size, 1, none⟩ = some (.int .i64 (F.tn)) := K.cell_at D0.out rfl; have b3_f1 : w2.frozen? ⟨w.heap.size, 1, none⟩ = false := K.thaw_at D0.out; have n1 : ¬ (w1.heap.size = w2.heap.size) := (by omega); have y1 : w1.heap.size < w2.heap.size := (by omega); have y2 : w.heap.size < w2.heap.size := (by omega); have n2 : ¬ (w2.heap.size = w1.heap.size) := (by omega); have n3 : ¬ (w.heap.size = w2.heap.size) := (by omega))) | ((go_at_call 111; refine K.call (by with_reducible rfl) (by with_reducible rfl) (HR.out _) ?_; rintro e w3 ⟨rfl, hw3⟩; have lw3 : w2.heap.size < w3.heap.size := (by have h_ := hw3.size; simp at h_; omega); have E0 := Z.hide (K.Ext.block_of (K.Ext.block_of D0.out ((K.Ext.refl _).alloc _)) hw3); have E1 := Z.hide (K.Ext.block_of (K.Ext.block_of D1.out ((K.Ext.refl _).alloc _)) hw3); have E3 := Z.hide (K.Ext.block_of (K.Ext.block_of D3.out ((K.Ext.refl _).alloc _)) hw3); have HX3 : Hid (K.Ext w w3) := Z.hide (K.Ext.trans (K.Ext.alloc HX2.out _) hw3); have E4 : Hid (w3.heap[w2.heap.size]? = some (.cells #[.int .i64 q.1.1, .int .i64 q.1.2] 30)) := Z.hide (K.Ext.block_of (K.block_new rfl) hw3); have b4_c0 : w3.cell? ⟨w1.heap.size, 0, none⟩ = some (.int .i64 (_)) := K.cell_at E3.out rfl; have b4_f0 : w3.frozen? ⟨w1.heap.size, 0, none⟩ = false := K.thaw_at E3.out; have b4_c1 : w3.cell? ⟨w1.heap.size, 1, none⟩ = some (.int .i64 (_)) := K.cell_at E3.out rfl; have b4_f1 : w3.frozen? ⟨w1.heap.size, 1, none⟩ = false := K.thaw_at E3.out; have b5_c0 : w3.cell? ⟨w2.heap.size, 0, none⟩ = some (.int .i64 (_)) := K.cell_at E4.out rfl; have b5_f0 : w3.frozen? ⟨w2.heap.size, 0, none⟩ = false := K.thaw_at E4.out; have b5_c1 : w3.cell? ⟨w2.heap.size, 1, none⟩ = some (.int .i64 (_)) := K.cell_at E4.out rfl; have b5_f1 : w3.frozen? ⟨w2.heap.size, 1, none⟩ = false := K.thaw_at E4.out)))
              go_roundw
              case rel =>
                refine ⟨k + 1, by omega, by go_num, HZ2, Z.hide ?_, Z.hide ?_, Z.hide ?_, Z.hide ?_⟩
                · iterate 4 with_reducible refine Eq.trans (K.set_block (by dsimp only; omega)) ?_
                  exact E0.out
                · iterate 4 with_reducible refine Eq.trans (K.set_block (by dsimp only; omega)) ?_
                  exact E1.out
                · rw [HS.out]
                  have E5 : ((w3.setCell ⟨w2.heap.size, 0, none⟩ (.int .i64 r.1.1)).setCell ⟨w2.heap.size, 1, none⟩ (.int .i64 r.1.2)).heap[w1.heap.size]? = some (.cells #[.int .i64 (Z.powK false (F.dg, F.tn) k).1.1, .int .i64 (Z.powK false (F.dg, F.tn) k).1.2] 30) := by
                    iterate 2 with_reducible refine Eq.trans (K.set_block (by dsimp only; omega)) ?_
                    exact E3.out
                  exact Joins.block_setCell (Joins.block_setCell E5 _) _
                · repeat with_reducible refine K.Ext.setCell ?_ (by dsimp only; omega) _
                  exact HX3.out
              case measure => simp [intOf]; omega
            · have HE : Hid (Z.PowerFormula F n = (Z.zeroFm, r.2)) := Z.hide (HEb.out hz)
              go_wp2_with (first | (go_at_call 110; refine K.call (by with_reducible rfl) (by with_reducible rfl) (HAB.out _) ?_; rintro e w' ⟨rfl, rfl⟩) | ((go_at_call 101; refine K.call (by with_reducible rfl) (by with_reducible rfl) (HQ.out _) ?_; rintro e w2 ⟨rfl, hw2⟩; have D0 := Z.hide (K.Ext.block_of C0.out hw2); have D1 := Z.hide (K.Ext.block_of C1.out hw2); have D3 := Z.hide (K.Ext.block_of C3.out hw2); have HX2 : Hid (K.Ext w w2) := Z.hide (HX.out.trans hw2); have lw2 := hw2.size; have f0 := hw2.cell_of e0; have f1 := hw2.cell_of e1; have b6_c0 : w2.cell? ⟨w.heap.size, 0, none⟩ = some (.int .i64 (F.dg)) := K.cell_at D0.out rfl; have b6_f0 : w2.frozen? ⟨w.heap.size, 0, none⟩ = false := K.thaw_at D0.out; have b6_c1 : w2.cell? ⟨w.heap.size, 1, none⟩ = some (.int .i64 (F.tn)) := K.cell_at D0.out rfl; have b6_f1 : w2.frozen? ⟨w.heap.size, 1, none⟩ = false := K.thaw_at D0.out; have n1 : ¬ (w1.heap.size = w2.heap.size) := (by omega); have y1 : w1.heap.size < w2.heap.size := (by omega); have y2 : w.heap.size < w2.heap.size := (by omega); have n2 : ¬ (w2.heap.size = w1.heap.size) := (by omega); have n3 : ¬ (w.heap.size = w2.heap.size) := (by omega))) | ((go_at_call 111; refine K.call (by with_reducible rfl) (by with_reducible rfl) (HR.out _) ?_; rintro e w3 ⟨rfl, hw3⟩; have lw3 : w2.heap.size < w3.heap.size := (by have h_ := hw3.size; simp at h_; omega); have E1 := Z.hide (K.Ext.block_of (K.Ext.block_of D1.out ((K.Ext.refl _).alloc _)) hw3); have HX3 : Hid (K.Ext w w3) := Z.hide (K.Ext.trans (K.Ext.alloc HX2.out _) hw3); have E4 : Hid (w3.heap[w2.heap.size]? = some (.cells #[.int .i64 q.1.1, .int .i64 q.1.2] 30)) := Z.hide (K.Ext.block_of (K.block_new rfl) hw3); have b7_c0 : w3.cell? ⟨w.heap.size + 1, 0, none⟩ = some (.int .i64 (0)) := K.cell_at E1.out rfl; have b7_f0 : w3.frozen? ⟨w.heap.size + 1, 0, none⟩ = false := K.thaw_at E1.out; have b7_c1 : w3.cell? ⟨w.heap.size + 1, 1, none⟩ = some (.int .i64 (0)) := K.cell_at E1.out rfl; have b7_f1 : w3.frozen? ⟨w.heap.size + 1, 1, none⟩ = false := K.thaw_at E1.out; have b7_c2 : w3.cell? ⟨w.heap.size + 1, 2, none⟩ = some (.string ⟨#[]⟩) := K.cell_at E1.out rfl; have b7_f2 : w3.frozen? ⟨w.heap.size + 1, 2, none⟩ = false := K.thaw_at E1.out; have b7_c3 : w3.cell? ⟨w.heap.size + 1, 3, none⟩ = some (.slice none 0 0) := K.cell_at E1.out rfl; have b7_f3 : w3.frozen? ⟨w.heap.size + 1, 3, none⟩ = false := K.thaw_at E1.out; have b8_c0 : w3.cell? ⟨w2.heap.size, 0, none⟩ = some (.int .i64 (_)) := K.cell_at E4.out rfl; have b8_f0 : w3.frozen? ⟨w2.heap.size, 0, none⟩ = false := K.thaw_at E4.out; have b8_c1 : w3.cell? ⟨w2.heap.size, 1, none⟩ = some (.int .i64 (_)) := K.cell_at E4.out rfl; have b8_f1 : w3.frozen? ⟨w2.heap.size, 1, none⟩ = false := K.thaw_at E4.out; have n4 : ¬ (w.heap.size + 1 = w2.heap.size) := (by omega); have n5 : ¬ (w2.heap.size = w.heap.size + 1) := (by omega))))
              rw [HE.out]
              refine bodyPost_ret (v := .tuple #[.agg #[.int .i64 0, .int .i64 0, .string ⟨#[]⟩, .slice none 0 0], .int .i64 r.2]) (by unfold results; rw [Try.results31]; go_simp) rfl ⟨⟨_, rfl, K.ints_nil _ _ _⟩, ?_⟩
              repeat' (first | with_reducible refine K.Ext.setCell ?_ ?_ _ | with_reducible refine K.Ext.alloc ?_ _ | (dsimp only; omega))
              exact HX3.out
        · obtain rfl : k = m := by omega
          obtain ⟨wo, rfl⟩ : ∃ wo : World, wo = wr := ⟨_, rfl⟩
          obtain ⟨r, hr⟩ : ∃ r, r = (Z.powK g (F.dg, F.tn) k).1 := ⟨_, rfl⟩
          rw [← hr] at e0 e1
          have C3' : Hid (wo.heap[w1.heap.size]? = some (.cells #[.int .i64 r.1, .int .i64 r.2] 30)) := Z.hide (by rw [hr]; exact C3.out)
          have HZm := HZ.out
          have HE : Hid (Z.PowerFormula F n = Z.fmOr (Z.made r.1 r.2 (Z.powF F n) 26)) := Z.hide (by
            rw [HP.out]
            unfold Z.raised
            rw [← HM.out, ← HD.out, if_pos HZm, ← hr]; rfl)
          clear hr HZm C3
          have HK : ∀ w' : World, K.Ext w w' → Calls Try.prog 102 #[.agg #[.int .i64 F.dg, .int .i64 F.tn, .string F.nm, .slice o F.pw.length cap]] w' fun e w'' => (∃ v', e = .returned v' ∧ K.own w'' w'.heap.size w''.heap.size v' (Z.allOf F)) ∧ K.Ext w' w'' := fun w' hx => l18All_any F w' HF.out (K.ints.ext HH.out hx)
          have HKh := Z.hide HK
          clear HK
          have b9_c0 : wo.cell? ⟨w.heap.size, 0, none⟩ = some (.int .i64 (F.dg)) := K.cell_at C0.out rfl; have b9_f0 : wo.frozen? ⟨w.heap.size, 0, none⟩ = false := K.thaw_at C0.out; have b9_c1 : wo.cell? ⟨w.heap.size, 1, none⟩ = some (.int .i64 (F.tn)) := K.cell_at C0.out rfl; have b9_f1 : wo.frozen? ⟨w.heap.size, 1, none⟩ = false := K.thaw_at C0.out; have b9_c2 : wo.cell? ⟨w.heap.size, 2, none⟩ = some (.string F.nm) := K.cell_at C0.out rfl; have b9_f2 : wo.frozen? ⟨w.heap.size, 2, none⟩ = false := K.thaw_at C0.out; have b9_c3 : wo.cell? ⟨w.heap.size, 3, none⟩ = some (.slice o F.pw.length cap) := K.cell_at C0.out rfl; have b9_f3 : wo.frozen? ⟨w.heap.size, 3, none⟩ = false := K.thaw_at C0.out
          go_wp2_with (first | (go_at_call 110; refine K.call (by with_reducible rfl) (by with_reducible rfl) (HAB.out _) ?_; rintro e w' ⟨rfl, rfl⟩) | ((go_at_call 102; refine K.call (by with_reducible rfl) (by with_reducible rfl) (HKh.out _ HX.out) ?_; rintro e w4 ⟨⟨v4, rfl, hv4⟩, hw4⟩; have s4 := hv4; obtain ⟨o4, c4, rfl, _⟩ := s4; rw [Z.allOf_length] at hv4; have HA := Z.hide hv4; have D1 := Z.hide (K.Ext.block_of C1.out hw4); have D3 := Z.hide (K.Ext.block_of C3'.out hw4); have HX4 : Hid (K.Ext w w4) := Z.hide (HX.out.trans hw4); have lw4 := hw4.size; clear hw4 hv4)))
          rw [Z.allOf_length]
          go_loopw [11] (fun i wr => ∃ j : Nat, j ≤ 26 ∧ i = .int .i64 j ∧ Hid (K.own wr wo.heap.size w4.heap.size (.slice o4 26 c4) (Z.powL F n j)) ∧ Hid (K.Ext w wr) ∧ Hid (wr.heap[w.heap.size + 1]? = some (.cells #[.int .i64 0, .int .i64 0, .string ⟨#[]⟩, .slice none 0 0] 32)) ∧ Hid (wr.heap[w1.heap.size]? = some (.cells #[.int .i64 r.1, .int .i64 r.2] 30)) ∧ w4.heap.size ≤ wr.heap.size) (fun i _ => 26 - (intOf i).toNat)
          case atStart => exact ⟨0, Nat.zero_le _, rfl, Z.hide (by rw [Z.powL_zero]; exact HA.out), HX4, D1, D3, Nat.le_refl _⟩
          case round =>
            obtain ⟨j, hj, rfl, HA1, HX5, E1, E3, lw5⟩ := hrel
            clear HA HX4 D1 D3
            have j0 : (0 : Int) ≤ (j : Int) := Int.natCast_nonneg j
            by_cases hlt2 : j < 26
            · have j1 : (j : Int) < 26 := by omega
              obtain ⟨b, off, rfl, b1, b2, bc, bf⟩ := K.own_at HA1.out (by rw [Z.powL_length]; decide)
              have hca := bc j (by rw [Z.powL_length]; exact hlt2)
              have hfa := bf j (by rw [Z.powL_length]; exact hlt2)
              rw [Z.powL_get _ _ _ _ hlt2, if_neg (Nat.lt_irrefl j)] at hca
              obtain ⟨x1, x2⟩ := Z.expo_6 HF.out (97 + (j : Int))
              have HS : Hid (Z.powL F n (j + 1) = (Z.powL F n j).set j (n * Z.expo (Z.bs F.nm) F.pw (97 + (j : Int)))) := Z.hide (Z.powL_succ F n j hlt2)
              have HL := Z.hide (Z.powL_length F n j)
              clear bc bf
              generalize Z.expo (Z.bs F.nm) F.pw (97 + (j : Int)) = x at *
              obtain ⟨m1, m2⟩ := Z.mul_bd n x 3 6 n1 n2 x1 x2
              have q1 : IntKind.i64.wrap (n * x) = n * x := IntWalk.i64_in _ (by omega)
              have HT := Z.hide (K.own_setAt (x := n * x) (k := j) (by rw [HL.out]; exact hlt2) HA1.out)
              have HXT : Hid (K.Ext w (wr.setCell ⟨b, off + j, none⟩ (.int .i64 (n * x)))) := Z.hide (K.Ext.setCell HX5.out (by dsimp only; omega) _)
              have G1 : Hid ((wr.setCell ⟨b, off + j, none⟩ (.int .i64 (n * x))).heap[w.heap.size + 1]? = some (.cells #[.int .i64 0, .int .i64 0, .string ⟨#[]⟩, .slice none 0 0] 32)) := Z.hide ((K.set_block (by dsimp only; omega)).trans E1.out)
              have G3 : Hid ((wr.setCell ⟨b, off + j, none⟩ (.int .i64 (n * x))).heap[w1.heap.size]? = some (.cells #[.int .i64 r.1, .int .i64 r.2] 30)) := Z.hide ((K.set_block (by dsimp only; omega)).trans E3.out)
              clear m1 m2
              go_wp2
              go_roundw
              case rel => exact ⟨j + 1, by omega, by go_num, Z.hide (by rw [HS.out]; exact HT.out), HXT, G1, G3, by simp; omega⟩
              case measure => simp [intOf]; omega
            · obtain rfl : j = 26 := by omega
              have f0 : wr.cell? ⟨w1.heap.size, 0, none⟩ = some (.int .i64 r.1) := K.cell_at E3.out rfl
              have f1 : wr.cell? ⟨w1.heap.size, 1, none⟩ = some (.int .i64 r.2) := K.cell_at E3.out rfl
              obtain ⟨M, HMM⟩ : ∃ M, M = Z.made r.1 r.2 (Z.powF F n) 26 := ⟨_, rfl⟩
              have HK : Calls Try.prog 104 #[.agg #[.int .i64 r.1, .int .i64 r.2], .slice o4 26 c4] wr fun e w' => (∃ p', e = .returned (.agg #[.int .i64 M.dg, .int .i64 M.tn, .string M.nm, p']) ∧ K.own w' wr.heap.size w'.heap.size p' M.pw) ∧ K.Ext wr w' := by
                have hk := l18Make_any r.1 r.2 (Z.powL F n 26) wr (Z.powL_length F n 26) (K.own.ints HA1.out)
                rw [Z.powL_made] at hk
                rw [HMM]
                exact hk
              have hle : M.pw.length ≤ 1048576 ∧ M.nm.size ≤ 1048576 := by rw [HMM]; exact Z.made_le _ _ _
              have HL := Z.hide hle
              rw [← HMM] at HE
              clear HMM hle HA1
              obtain ⟨N, HN⟩ : ∃ N, N = Z.fmOr M := ⟨_, rfl⟩
              have HR : ∀ {lo hi : Nat} {p : Value} (w : World), K.ints w lo hi p M.pw → Calls Try.prog 103 #[.agg #[.int .i64 M.dg, .int .i64 M.tn, .string M.nm, p]] w fun e w' => (∃ p', e = .returned (.tuple #[.agg #[.int .i64 N.1.dg, .int .i64 N.1.tn, .string N.1.nm, p'], .int .i64 N.2]) ∧ K.ints w' lo hi p' N.1.pw) ∧ K.Ext w w' := fun w hh => by rw [HN]; exact l18Result_any M w HL.out.1 HL.out.2 hh
              rw [← HN] at HE
              clear HN
              go_wp2_with (first | ((go_at_call 104; refine K.call (by with_reducible rfl) (by with_reducible rfl) (HK) ?_; rintro e w6 ⟨⟨p6, rfl, hp6⟩, hw6⟩; have E2 := Z.hide (K.Ext.block_of E1.out hw6); have hp7 := hp6; obtain ⟨o6, c6, rfl, _⟩ := hp7)) | ((go_at_call 103; refine K.call (by with_reducible rfl) (by with_reducible rfl) (HR _ (K.own.ints hp6)) ?_; rintro e w7 ⟨⟨p7, rfl, hp7⟩, hw7⟩; have hp8 := hp7; obtain ⟨o7, c7, rfl, _⟩ := hp8; have G2 := Z.hide (K.Ext.block_of E2.out hw7); have lw2 : w.heap.size + 1 < w7.heap.size := (Array.getElem?_eq_some_iff.1 G2.out).1; have b10_c0 : w7.cell? ⟨w.heap.size + 1, 0, none⟩ = some (.int .i64 (0)) := K.cell_at G2.out rfl; have b10_f0 : w7.frozen? ⟨w.heap.size + 1, 0, none⟩ = false := K.thaw_at G2.out; have b10_c1 : w7.cell? ⟨w.heap.size + 1, 1, none⟩ = some (.int .i64 (0)) := K.cell_at G2.out rfl; have b10_f1 : w7.frozen? ⟨w.heap.size + 1, 1, none⟩ = false := K.thaw_at G2.out; have b10_c2 : w7.cell? ⟨w.heap.size + 1, 2, none⟩ = some (.string ⟨#[]⟩) := K.cell_at G2.out rfl; have b10_f2 : w7.frozen? ⟨w.heap.size + 1, 2, none⟩ = false := K.thaw_at G2.out; have b10_c3 : w7.cell? ⟨w.heap.size + 1, 3, none⟩ = some (.slice none 0 0) := K.cell_at G2.out rfl; have b10_f3 : w7.frozen? ⟨w.heap.size + 1, 3, none⟩ = false := K.thaw_at G2.out)))
              rw [HE.out]
              have z8 := HX5.out.size
              have z9 := hw6.size
              have z10 := hw7.size
              have z11 : w.heap.size + 1 < wr.heap.size := (Array.getElem?_eq_some_iff.1 E1.out).1
              refine bodyPost_ret (v := .tuple #[.agg #[.int .i64 N.1.dg, .int .i64 N.1.tn, .string N.1.nm, .slice o7 N.1.pw.length c7], .int .i64 N.2]) (by unfold results; rw [Try.results31]; go_simp) rfl ⟨⟨_, rfl, ?_⟩, ?_⟩
              · refine K.ints.mono (lo := wr.heap.size) (hi := w6.heap.size) ?_ (by omega) (by simp; omega)
                repeat with_reducible refine K.ints.set ?_ _ (.inl (by dsimp only; omega)) _
                exact hp7
              · repeat with_reducible refine K.Ext.setCell ?_ (by dsimp only; omega) _
                exact K.Ext.trans HX5.out (K.Ext.trans hw6 hw7)
end Go.Proofs.Ythmnlbgbacbocaa
