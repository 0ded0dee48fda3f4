/-
  Part 4 of the texts of this claim: contracts of functions and plain mathematics.
-/
import Derived.Test.YthmnlbgbacbocaaS3
set_option linter.unusedVariables false
section
namespace Go.Z
theorem letter_of {F : Fm} (h : isFormula F = true) {c : Int} (hn : ¬ expo (bs F.nm) F.pw c = 0) : ∃ m : Nat, m < 26 ∧ c = 97 + (m : Int) := by
  have hc : c ∈ bs F.nm := Classical.byContradiction fun hc => hn (expo_none hc)
  obtain ⟨j, hj, he⟩ := List.getElem_of_mem hc
  rw [bs_length] at hj
  obtain ⟨h1, h2, _⟩ := okAt_parts (valid_at h j hj)
  have he' : (bs F.nm).getD j 0 = c := by rw [← he]; simp [List.getD_eq_getElem?_getD, bs_length, hj]
  exact ⟨(c - 97).toNat, by omega, by omega⟩
def SplitPower (F : Fm) (c : Int) : Fm × Int × Int := if isFormula F then (if expo (bs F.nm) F.pw c = 0 then (zeroFm, 0, 4) else (without F c, expo (bs F.nm) F.pw c, 0)) else (zeroFm, 0, 1)
theorem SplitPower_le (F : Fm) (c : Int) (hm : F.pw.length ≤ 1048576) (hn : F.nm.size ≤ 1048576) : (SplitPower F c).1.pw.length ≤ 1048576 ∧ (SplitPower F c).1.nm.size ≤ 1048576 := by
  have hz : zeroFm.pw.length ≤ 1048576 ∧ zeroFm.nm.size ≤ 1048576 := ⟨by simp [zeroFm], by simp [zeroFm, ByteArray.size]⟩
  unfold SplitPower
  split
  · split
    · exact hz
    · exact made_le _ _ _
  · exact hz
end Go.Z
namespace Go.Proofs.Ythmnlbgbacbocaa
open Go.RowKit
set_option maxHeartbeats 3200000 in
theorem spec_SplitPower (F : Z.Fm) (c : Int) {lo hi : Nat} {p : Value} (w : World) (hm : F.pw.length ≤ 1048576) (hn : F.nm.size ≤ 1048576) (h : K.ints w lo hi p F.pw) (hby : 0 ≤ c ∧ c ≤ 255) :
    Calls Try.prog 67 #[.agg #[.int .i64 F.dg, .int .i64 F.tn, .string F.nm, p], .int .u8 c] w fun e w' => (∃ p', e = .returned (.tuple #[.agg #[.int .i64 ((Z.SplitPower F c).1).dg, .int .i64 ((Z.SplitPower F c).1).tn, .string ((Z.SplitPower F c).1).nm, p'], .int .i64 (Z.SplitPower F c).2.1, .int .i64 (Z.SplitPower F c).2.2]) ∧ K.ints w' w.heap.size w'.heap.size p' (Z.SplitPower F c).1.pw) ∧ K.Ext w w' := by
  have g1 := h
  obtain ⟨o, cap, rfl, _⟩ := g1
  cases hf : Z.isFormula F
  · have HE : Hid (Z.SplitPower F c = (Z.zeroFm, 0, 1)) := Z.hide (by unfold Z.SplitPower; rw [hf]; rfl)
    go_enter Try.func67, Try.ntmps67
    go_wp2_with ((go_at_call 91; refine K.call (by with_reducible rfl) (by with_reducible rfl) (spec_IsFormula F _ hm hn (h.ext (by repeat' (first | with_reducible exact K.Ext.refl _ | with_reducible assumption | with_reducible refine K.Ext.drew ?_ | with_reducible refine K.Ext.alloc ?_ _ | with_reducible refine K.Ext.setCell ?_ ?_ _ | with_reducible refine K.Ext.trans ?_ (by with_reducible assumption) | (dsimp only; omega) | omega | exact K.Ext.refl _ | assumption | apply K.Ext.drew | refine K.Ext.alloc ?_ _ | refine K.Ext.setCell ?_ ?_ _ | (simp; done) | (simp; omega) | refine K.Ext.trans ?_ (by assumption))))) ?_; rintro e w1 ⟨rfl, hw1⟩; obtain ⟨hcw1, hfw1⟩ := hw1.facts); have c_w1_0_0 : w1.cell? ⟨w.heap.size, 0, none⟩ = some (.int .i64 (F.dg)) := hw1.cell_of (by go_simp); have f_w1_0_0 : w1.frozen? ⟨w.heap.size, 0, none⟩ = false := hw1.thaw_of (by go_simp) (by go_simp); have c_w1_0_1 : w1.cell? ⟨w.heap.size, 1, none⟩ = some (.int .i64 (F.tn)) := hw1.cell_of (by go_simp); have f_w1_0_1 : w1.frozen? ⟨w.heap.size, 1, none⟩ = false := hw1.thaw_of (by go_simp) (by go_simp); have c_w1_0_2 : w1.cell? ⟨w.heap.size, 2, none⟩ = some (.string F.nm) := hw1.cell_of (by go_simp); have f_w1_0_2 : w1.frozen? ⟨w.heap.size, 2, none⟩ = false := hw1.thaw_of (by go_simp) (by go_simp); have c_w1_0_3 : w1.cell? ⟨w.heap.size, 3, none⟩ = some (.slice o F.pw.length cap) := hw1.cell_of (by go_simp); have f_w1_0_3 : w1.frozen? ⟨w.heap.size, 3, none⟩ = false := hw1.thaw_of (by go_simp) (by go_simp); have c_w1_1_0 : w1.cell? ⟨w.heap.size + 1, 0, none⟩ = some (.int .i64 (0)) := hw1.cell_of (by go_simp); have f_w1_1_0 : w1.frozen? ⟨w.heap.size + 1, 0, none⟩ = false := hw1.thaw_of (by go_simp) (by go_simp); have c_w1_1_1 : w1.cell? ⟨w.heap.size + 1, 1, none⟩ = some (.int .i64 (0)) := hw1.cell_of (by go_simp); have f_w1_1_1 : w1.frozen? ⟨w.heap.size + 1, 1, none⟩ = false := hw1.thaw_of (by go_simp) (by go_simp); have c_w1_1_2 : w1.cell? ⟨w.heap.size + 1, 2, none⟩ = some (.string ⟨#[]⟩) := hw1.cell_of (by go_simp); have f_w1_1_2 : w1.frozen? ⟨w.heap.size + 1, 2, none⟩ = false := hw1.thaw_of (by go_simp) (by go_simp); have c_w1_1_3 : w1.cell? ⟨w.heap.size + 1, 3, none⟩ = some (.slice none 0 0) := hw1.cell_of (by go_simp); have f_w1_1_3 : w1.frozen? ⟨w.heap.size + 1, 3, none⟩ = false := hw1.thaw_of (by go_simp) (by go_simp))
    rw [HE.out]
    refine bodyPost_ret (v := .tuple #[.agg #[.int .i64 0, .int .i64 0, .string ⟨#[]⟩, .slice none 0 0], .int .i64 0, .int .i64 1]) (by unfold results; rw [Try.results67]; go_simp) rfl ⟨⟨_, rfl, K.ints_nil _ _ _⟩, ?_⟩
    repeat with_reducible refine K.Ext.setCell ?_ (by dsimp only; omega) _
    exact (by repeat' (first | with_reducible exact K.Ext.refl _ | with_reducible assumption | with_reducible refine K.Ext.drew ?_ | with_reducible refine K.Ext.alloc ?_ _ | with_reducible refine K.Ext.setCell ?_ ?_ _ | with_reducible refine K.Ext.trans ?_ (by with_reducible assumption) | (dsimp only; omega) | omega | exact K.Ext.refl _ | assumption | apply K.Ext.drew | refine K.Ext.alloc ?_ _ | refine K.Ext.setCell ?_ ?_ _ | (simp; done) | (simp; omega) | refine K.Ext.trans ?_ (by assumption)))
  · obtain ⟨hl, h6⟩ : Hid (F.pw.length = F.nm.size) ∧ Hid (F.nm.size ≤ 6) := Z.isFormula_len hf
    have HF := Z.hide hf
    obtain ⟨n, hx⟩ : ∃ n, n = Z.expo (Z.bs F.nm) F.pw c := ⟨_, rfl⟩
    have HX : ∀ {lo hi : Nat} {p : Value} (w' : World), K.ints w' lo hi p F.pw → Calls Try.prog 107 #[.agg #[.int .i64 F.dg, .int .i64 F.tn, .string F.nm, p], .int .u8 c] w' fun e w'' => e = .returned (.int .i64 n) ∧ K.Ext w' w'' := fun w' hh => by rw [hx]; exact l18Exponent_any F c _ _ _ w' hl.out (Nat.le_trans h6.out (by decide)) hh
    by_cases hz : n = 0
    · have HE : Hid (Z.SplitPower F c = (Z.zeroFm, 0, 4)) := Z.hide (by unfold Z.SplitPower; rw [hf, ← hx, hz]; rfl)
      clear hx
      go_enter Try.func67, Try.ntmps67
      go_wp2_with (first | ((go_at_call 91; refine K.call (by with_reducible rfl) (by with_reducible rfl) (spec_IsFormula F _ hm hn (h.ext (by repeat' (first | with_reducible exact K.Ext.refl _ | with_reducible assumption | with_reducible refine K.Ext.drew ?_ | with_reducible refine K.Ext.alloc ?_ _ | with_reducible refine K.Ext.setCell ?_ ?_ _ | with_reducible refine K.Ext.trans ?_ (by with_reducible assumption) | (dsimp only; omega) | omega | exact K.Ext.refl _ | assumption | apply K.Ext.drew | refine K.Ext.alloc ?_ _ | refine K.Ext.setCell ?_ ?_ _ | (simp; done) | (simp; omega) | refine K.Ext.trans ?_ (by assumption))))) ?_; rintro e w1 ⟨rfl, hw1⟩; obtain ⟨hcw1, hfw1⟩ := hw1.facts); have c_w1_0_0 : w1.cell? ⟨w.heap.size, 0, none⟩ = some (.int .i64 (F.dg)) := hw1.cell_of (by go_simp); have f_w1_0_0 : w1.frozen? ⟨w.heap.size, 0, none⟩ = false := hw1.thaw_of (by go_simp) (by go_simp); have c_w1_0_1 : w1.cell? ⟨w.heap.size, 1, none⟩ = some (.int .i64 (F.tn)) := hw1.cell_of (by go_simp); have f_w1_0_1 : w1.frozen? ⟨w.heap.size, 1, none⟩ = false := hw1.thaw_of (by go_simp) (by go_simp); have c_w1_0_2 : w1.cell? ⟨w.heap.size, 2, none⟩ = some (.string F.nm) := hw1.cell_of (by go_simp); have f_w1_0_2 : w1.frozen? ⟨w.heap.size, 2, none⟩ = false := hw1.thaw_of (by go_simp) (by go_simp); have c_w1_0_3 : w1.cell? ⟨w.heap.size, 3, none⟩ = some (.slice o F.pw.length cap) := hw1.cell_of (by go_simp); have f_w1_0_3 : w1.frozen? ⟨w.heap.size, 3, none⟩ = false := hw1.thaw_of (by go_simp) (by go_simp); have c_w1_1_0 : w1.cell? ⟨w.heap.size + 1, 0, none⟩ = some (.int .i64 (0)) := hw1.cell_of (by go_simp); have f_w1_1_0 : w1.frozen? ⟨w.heap.size + 1, 0, none⟩ = false := hw1.thaw_of (by go_simp) (by go_simp); have c_w1_1_1 : w1.cell? ⟨w.heap.size + 1, 1, none⟩ = some (.int .i64 (0)) := hw1.cell_of (by go_simp); have f_w1_1_1 : w1.frozen? ⟨w.heap.size + 1, 1, none⟩ = false := hw1.thaw_of (by go_simp) (by go_simp); have c_w1_1_2 : w1.cell? ⟨w.heap.size + 1, 2, none⟩ = some (.string ⟨#[]⟩) := hw1.cell_of (by go_simp); have f_w1_1_2 : w1.frozen? ⟨w.heap.size + 1, 2, none⟩ = false := hw1.thaw_of (by go_simp) (by go_simp); have c_w1_1_3 : w1.cell? ⟨w.heap.size + 1, 3, none⟩ = some (.slice none 0 0) := hw1.cell_of (by go_simp); have f_w1_1_3 : w1.frozen? ⟨w.heap.size + 1, 3, none⟩ = false := hw1.thaw_of (by go_simp) (by go_simp)) | ((go_at_call 107; refine K.call (by with_reducible rfl) (by with_reducible rfl) (HX _ (h.ext (by repeat' (first | with_reducible exact K.Ext.refl _ | with_reducible assumption | with_reducible refine K.Ext.drew ?_ | with_reducible refine K.Ext.alloc ?_ _ | with_reducible refine K.Ext.setCell ?_ ?_ _ | with_reducible refine K.Ext.trans ?_ (by with_reducible assumption) | (dsimp only; omega) | omega | exact K.Ext.refl _ | assumption | apply K.Ext.drew | refine K.Ext.alloc ?_ _ | refine K.Ext.setCell ?_ ?_ _ | (simp; done) | (simp; omega) | refine K.Ext.trans ?_ (by assumption))))) ?_; rintro e w2 ⟨rfl, hw2⟩; obtain ⟨hcw2, hfw2⟩ := hw2.facts); have c_w2_0_0 : w2.cell? ⟨w.heap.size, 0, none⟩ = some (.int .i64 (F.dg)) := hw2.cell_of (by go_simp); have f_w2_0_0 : w2.frozen? ⟨w.heap.size, 0, none⟩ = false := hw2.thaw_of (by go_simp) (by go_simp); have c_w2_0_1 : w2.cell? ⟨w.heap.size, 1, none⟩ = some (.int .i64 (F.tn)) := hw2.cell_of (by go_simp); have f_w2_0_1 : w2.frozen? ⟨w.heap.size, 1, none⟩ = false := hw2.thaw_of (by go_simp) (by go_simp); have c_w2_0_2 : w2.cell? ⟨w.heap.size, 2, none⟩ = some (.string F.nm) := hw2.cell_of (by go_simp); have f_w2_0_2 : w2.frozen? ⟨w.heap.size, 2, none⟩ = false := hw2.thaw_of (by go_simp) (by go_simp); have c_w2_0_3 : w2.cell? ⟨w.heap.size, 3, none⟩ = some (.slice o F.pw.length cap) := hw2.cell_of (by go_simp); have f_w2_0_3 : w2.frozen? ⟨w.heap.size, 3, none⟩ = false := hw2.thaw_of (by go_simp) (by go_simp); have c_w2_1_0 : w2.cell? ⟨w.heap.size + 1, 0, none⟩ = some (.int .i64 (0)) := hw2.cell_of (by go_simp); have f_w2_1_0 : w2.frozen? ⟨w.heap.size + 1, 0, none⟩ = false := hw2.thaw_of (by go_simp) (by go_simp); have c_w2_1_1 : w2.cell? ⟨w.heap.size + 1, 1, none⟩ = some (.int .i64 (0)) := hw2.cell_of (by go_simp); have f_w2_1_1 : w2.frozen? ⟨w.heap.size + 1, 1, none⟩ = false := hw2.thaw_of (by go_simp) (by go_simp); have c_w2_1_2 : w2.cell? ⟨w.heap.size + 1, 2, none⟩ = some (.string ⟨#[]⟩) := hw2.cell_of (by go_simp); have f_w2_1_2 : w2.frozen? ⟨w.heap.size + 1, 2, none⟩ = false := hw2.thaw_of (by go_simp) (by go_simp); have c_w2_1_3 : w2.cell? ⟨w.heap.size + 1, 3, none⟩ = some (.slice none 0 0) := hw2.cell_of (by go_simp); have f_w2_1_3 : w2.frozen? ⟨w.heap.size + 1, 3, none⟩ = false := hw2.thaw_of (by go_simp) (by go_simp)))
      rw [HE.out]
      refine bodyPost_ret (v := .tuple #[.agg #[.int .i64 0, .int .i64 0, .string ⟨#[]⟩, .slice none 0 0], .int .i64 0, .int .i64 4]) (by unfold results; rw [Try.results67]; go_simp) rfl ⟨⟨_, rfl, K.ints_nil _ _ _⟩, ?_⟩
      repeat with_reducible refine K.Ext.setCell ?_ (by dsimp only; omega) _
      exact (by repeat' (first | with_reducible exact K.Ext.refl _ | with_reducible assumption | with_reducible refine K.Ext.drew ?_ | with_reducible refine K.Ext.alloc ?_ _ | with_reducible refine K.Ext.setCell ?_ ?_ _ | with_reducible refine K.Ext.trans ?_ (by with_reducible assumption) | (dsimp only; omega) | omega | exact K.Ext.refl _ | assumption | apply K.Ext.drew | refine K.Ext.alloc ?_ _ | refine K.Ext.setCell ?_ ?_ _ | (simp; done) | (simp; omega) | refine K.Ext.trans ?_ (by assumption)))
    · have HE : Hid (Z.SplitPower F c = (Z.without F c, n, 0)) := Z.hide (by unfold Z.SplitPower; rw [hf, ← hx]; simp [hz])
      obtain ⟨m, hm26, hcm⟩ := Z.letter_of hf (c := c) (by rw [← hx]; exact hz)
      have HW : ∀ {lo hi : Nat} {p : Value} (w' : World), K.ints w' lo hi p F.pw → Calls Try.prog 131 #[.agg #[.int .i64 F.dg, .int .i64 F.tn, .string F.nm, p], .int .u8 c] w' fun e w'' => (∃ p', e = .returned (.agg #[.int .i64 ((Z.without F c)).dg, .int .i64 ((Z.without F c)).tn, .string ((Z.without F c)).nm, p']) ∧ K.own w'' w'.heap.size w''.heap.size p' (Z.without F c).pw) ∧ K.Ext w' w'' := fun w' hh => by rw [hcm]; exact l18Without_any F m w' HF.out hm26 hh
      clear hcm
      clear hx
      go_enter Try.func67, Try.ntmps67
      go_wp2_with (first | ((go_at_call 91; refine K.call (by with_reducible rfl) (by with_reducible rfl) (spec_IsFormula F _ hm hn (h.ext (by repeat' (first | with_reducible exact K.Ext.refl _ | with_reducible assumption | with_reducible refine K.Ext.drew ?_ | with_reducible refine K.Ext.alloc ?_ _ | with_reducible refine K.Ext.setCell ?_ ?_ _ | with_reducible refine K.Ext.trans ?_ (by with_reducible assumption) | (dsimp only; omega) | omega | exact K.Ext.refl _ | assumption | apply K.Ext.drew | refine K.Ext.alloc ?_ _ | refine K.Ext.setCell ?_ ?_ _ | (simp; done) | (simp; omega) | refine K.Ext.trans ?_ (by assumption))))) ?_; rintro e w1 ⟨rfl, hw1⟩; obtain ⟨hcw1, hfw1⟩ := hw1.facts); have c_w1_0_0 : w1.cell? ⟨w.heap.size, 0, none⟩ = some (.int .i64 (F.dg)) := hw1.cell_of (by go_simp); have f_w1_0_0 : w1.frozen? ⟨w.heap.size, 0, none⟩ = false := hw1.thaw_of (by go_simp) (by go_simp); have c_w1_0_1 : w1.cell? ⟨w.heap.size, 1, none⟩ = some (.int .i64 (F.tn)) := hw1.cell_of (by go_simp); have f_w1_0_1 : w1.frozen? ⟨w.heap.size, 1, none⟩ = false := hw1.thaw_of (by go_simp) (by go_simp); have c_w1_0_2 : w1.cell? ⟨w.heap.size, 2, none⟩ = some (.string F.nm) := hw1.cell_of (by go_simp); have f_w1_0_2 : w1.frozen? ⟨w.heap.size, 2, none⟩ = false := hw1.thaw_of (by go_simp) (by go_simp); have c_w1_0_3 : w1.cell? ⟨w.heap.size, 3, none⟩ = some (.slice o F.pw.length cap) := hw1.cell_of (by go_simp); have f_w1_0_3 : w1.frozen? ⟨w.heap.size, 3, none⟩ = false := hw1.thaw_of (by go_simp) (by go_simp); have c_w1_1_0 : w1.cell? ⟨w.heap.size + 1, 0, none⟩ = some (.int .i64 (0)) := hw1.cell_of (by go_simp); have f_w1_1_0 : w1.frozen? ⟨w.heap.size + 1, 0, none⟩ = false := hw1.thaw_of (by go_simp) (by go_simp); have c_w1_1_1 : w1.cell? ⟨w.heap.size + 1, 1, none⟩ = some (.int .i64 (0)) := hw1.cell_of (by go_simp); have f_w1_1_1 : w1.frozen? ⟨w.heap.size + 1, 1, none⟩ = false := hw1.thaw_of (by go_simp) (by go_simp); have c_w1_1_2 : w1.cell? ⟨w.heap.size + 1, 2, none⟩ = some (.string ⟨#[]⟩) := hw1.cell_of (by go_simp); have f_w1_1_2 : w1.frozen? ⟨w.heap.size + 1, 2, none⟩ = false := hw1.thaw_of (by go_simp) (by go_simp); have c_w1_1_3 : w1.cell? ⟨w.heap.size + 1, 3, none⟩ = some (.slice none 0 0) := hw1.cell_of (by go_simp); have f_w1_1_3 : w1.frozen? ⟨w.heap.size + 1, 3, none⟩ = false := hw1.thaw_of (by go_simp) (by go_simp)) | ((go_at_call 107; refine K.call (by with_reducible rfl) (by with_reducible rfl) (HX _ (h.ext (by repeat' (first | with_reducible exact K.Ext.refl _ | with_reducible assumption | with_reducible refine K.Ext.drew ?_ | with_reducible refine K.Ext.alloc ?_ _ | with_reducible refine K.Ext.setCell ?_ ?_ _ | with_reducible refine K.Ext.trans ?_ (by with_reducible assumption) | (dsimp only; omega) | omega | exact K.Ext.refl _ | assumption | apply K.Ext.drew | refine K.Ext.alloc ?_ _ | refine K.Ext.setCell ?_ ?_ _ | (simp; done) | (simp; omega) | refine K.Ext.trans ?_ (by assumption))))) ?_; rintro e w2 ⟨rfl, hw2⟩; obtain ⟨hcw2, hfw2⟩ := hw2.facts); have c_w2_0_0 : w2.cell? ⟨w.heap.size, 0, none⟩ = some (.int .i64 (F.dg)) := hw2.cell_of (by go_simp); have f_w2_0_0 : w2.frozen? ⟨w.heap.size, 0, none⟩ = false := hw2.thaw_of (by go_simp) (by go_simp); have c_w2_0_1 : w2.cell? ⟨w.heap.size, 1, none⟩ = some (.int .i64 (F.tn)) := hw2.cell_of (by go_simp); have f_w2_0_1 : w2.frozen? ⟨w.heap.size, 1, none⟩ = false := hw2.thaw_of (by go_simp) (by go_simp); have c_w2_0_2 : w2.cell? ⟨w.heap.size, 2, none⟩ = some (.string F.nm) := hw2.cell_of (by go_simp); have f_w2_0_2 : w2.frozen? ⟨w.heap.size, 2, none⟩ = false := hw2.thaw_of (by go_simp) (by go_simp); have c_w2_0_3 : w2.cell? ⟨w.heap.size, 3, none⟩ = some (.slice o F.pw.length cap) := hw2.cell_of (by go_simp); have f_w2_0_3 : w2.frozen? ⟨w.heap.size, 3, none⟩ = false := hw2.thaw_of (by go_simp) (by go_simp); have c_w2_1_0 : w2.cell? ⟨w.heap.size + 1, 0, none⟩ = some (.int .i64 (0)) := hw2.cell_of (by go_simp); have f_w2_1_0 : w2.frozen? ⟨w.heap.size + 1, 0, none⟩ = false := hw2.thaw_of (by go_simp) (by go_simp); have c_w2_1_1 : w2.cell? ⟨w.heap.size + 1, 1, none⟩ = some (.int .i64 (0)) := hw2.cell_of (by go_simp); have f_w2_1_1 : w2.frozen? ⟨w.heap.size + 1, 1, none⟩ = false := hw2.thaw_of (by go_simp) (by go_simp); have c_w2_1_2 : w2.cell? ⟨w.heap.size + 1, 2, none⟩ = some (.string ⟨#[]⟩) := hw2.cell_of (by go_simp); have f_w2_1_2 : w2.frozen? ⟨w.heap.size + 1, 2, none⟩ = false := hw2.thaw_of (by go_simp) (by go_simp); have c_w2_1_3 : w2.cell? ⟨w.heap.size + 1, 3, none⟩ = some (.slice none 0 0) := hw2.cell_of (by go_simp); have f_w2_1_3 : w2.frozen? ⟨w.heap.size + 1, 3, none⟩ = false := hw2.thaw_of (by go_simp) (by go_simp)) | ((go_at_call 131; refine K.call (by with_reducible rfl) (by with_reducible rfl) (HW _ (h.ext (by repeat' (first | with_reducible exact K.Ext.refl _ | with_reducible assumption | with_reducible refine K.Ext.drew ?_ | with_reducible refine K.Ext.alloc ?_ _ | with_reducible refine K.Ext.setCell ?_ ?_ _ | with_reducible refine K.Ext.trans ?_ (by with_reducible assumption) | (dsimp only; omega) | omega | exact K.Ext.refl _ | assumption | apply K.Ext.drew | refine K.Ext.alloc ?_ _ | refine K.Ext.setCell ?_ ?_ _ | (simp; done) | (simp; omega) | refine K.Ext.trans ?_ (by assumption))))) ?_; rintro e w3 ⟨⟨p3, rfl, hp3⟩, hw3⟩; obtain ⟨hcw3, hfw3⟩ := hw3.facts; have hp4 := hp3; obtain ⟨o3, c3, rfl, _⟩ := hp4); have c_w3_1_0 : w3.cell? ⟨w.heap.size + 1, 0, none⟩ = some (.int .i64 (0)) := hw3.cell_of (by go_simp); have f_w3_1_0 : w3.frozen? ⟨w.heap.size + 1, 0, none⟩ = false := hw3.thaw_of (by go_simp) (by go_simp); have c_w3_1_1 : w3.cell? ⟨w.heap.size + 1, 1, none⟩ = some (.int .i64 (0)) := hw3.cell_of (by go_simp); have f_w3_1_1 : w3.frozen? ⟨w.heap.size + 1, 1, none⟩ = false := hw3.thaw_of (by go_simp) (by go_simp); have c_w3_1_2 : w3.cell? ⟨w.heap.size + 1, 2, none⟩ = some (.string ⟨#[]⟩) := hw3.cell_of (by go_simp); have f_w3_1_2 : w3.frozen? ⟨w.heap.size + 1, 2, none⟩ = false := hw3.thaw_of (by go_simp) (by go_simp); have c_w3_1_3 : w3.cell? ⟨w.heap.size + 1, 3, none⟩ = some (.slice none 0 0) := hw3.cell_of (by go_simp); have f_w3_1_3 : w3.frozen? ⟨w.heap.size + 1, 3, none⟩ = false := hw3.thaw_of (by go_simp) (by go_simp)))
      rw [HE.out]
      have z1 := hw1.size
      have z2 := hw2.size
      simp at z1 z2
      refine bodyPost_ret (v := .tuple #[.agg #[.int .i64 ((Z.without F c)).dg, .int .i64 ((Z.without F c)).tn, .string ((Z.without F c)).nm, .slice o3 (Z.without F c).pw.length c3], .int .i64 n, .int .i64 0]) (by unfold results; rw [Try.results67]; go_simp) rfl ⟨⟨_, rfl, ?_⟩, ?_⟩
      · refine K.ints.mono (lo := w2.heap.size) (hi := w3.heap.size) ?_ (by omega) (by simp)
        repeat with_reducible refine K.ints.set ?_ _ (.inl (by dsimp only; omega)) _
        exact K.own.ints hp3
      · repeat with_reducible refine K.Ext.setCell ?_ (by dsimp only; omega) _
        exact (by repeat' (first | with_reducible exact K.Ext.refl _ | with_reducible assumption | with_reducible refine K.Ext.drew ?_ | with_reducible refine K.Ext.alloc ?_ _ | with_reducible refine K.Ext.setCell ?_ ?_ _ | with_reducible refine K.Ext.trans ?_ (by with_reducible assumption) | (dsimp only; omega) | omega | exact K.Ext.refl _ | assumption | apply K.Ext.drew | refine K.Ext.alloc ?_ _ | refine K.Ext.setCell ?_ ?_ _ | (simp; done) | (simp; omega) | refine K.Ext.trans ?_ (by assumption)))
set_option maxHeartbeats 3200000 in
theorem impl_SplitPower (F : Z.Fm) (c : Int) {lo hi : Nat} {p : Value} (w : World) (hm : F.pw.length ≤ 1048576) (hn : F.nm.size ≤ 1048576) (h : K.ints w lo hi p F.pw) (hby : 0 ≤ c ∧ c ≤ 255) :
    Calls Try.prog 66 #[.agg #[.int .i64 F.dg, .int .i64 F.tn, .string F.nm, p], .int .u8 c] w fun e w' => (∃ p', e = .returned (.tuple #[.agg #[.int .i64 ((Z.SplitPower F c).1).dg, .int .i64 ((Z.SplitPower F c).1).tn, .string ((Z.SplitPower F c).1).nm, p'], .int .i64 (Z.SplitPower F c).2.1, .int .i64 (Z.SplitPower F c).2.2]) ∧ K.own w' w.heap.size w'.heap.size p' (Z.SplitPower F c).1.pw) ∧ K.Ext w w' := by
  have g1 := h
  obtain ⟨o, cap, rfl, _⟩ := g1
  cases hf : Z.isFormula F
  · have HE : Hid (Z.SplitPower F c = (Z.zeroFm, 0, 1)) := Z.hide (by unfold Z.SplitPower; rw [hf]; rfl)
    go_enter Try.func66, Try.ntmps66
    go_wp2_with ((go_at_call 33; refine K.call (by with_reducible rfl) (by with_reducible rfl) (impl_IsFormula F _ hm hn (h.ext (by repeat' (first | with_reducible exact K.Ext.refl _ | with_reducible assumption | with_reducible refine K.Ext.drew ?_ | with_reducible refine K.Ext.alloc ?_ _ | with_reducible refine K.Ext.setCell ?_ ?_ _ | with_reducible refine K.Ext.trans ?_ (by with_reducible assumption) | (dsimp only; omega) | omega | exact K.Ext.refl _ | assumption | apply K.Ext.drew | refine K.Ext.alloc ?_ _ | refine K.Ext.setCell ?_ ?_ _ | (simp; done) | (simp; omega) | refine K.Ext.trans ?_ (by assumption))))) ?_; rintro e w1 ⟨rfl, hw1⟩; obtain ⟨hcw1, hfw1⟩ := hw1.facts); have c_w1_0_0 : w1.cell? ⟨w.heap.size, 0, none⟩ = some (.int .i64 (F.dg)) := hw1.cell_of (by go_simp); have f_w1_0_0 : w1.frozen? ⟨w.heap.size, 0, none⟩ = false := hw1.thaw_of (by go_simp) (by go_simp); have c_w1_0_1 : w1.cell? ⟨w.heap.size, 1, none⟩ = some (.int .i64 (F.tn)) := hw1.cell_of (by go_simp); have f_w1_0_1 : w1.frozen? ⟨w.heap.size, 1, none⟩ = false := hw1.thaw_of (by go_simp) (by go_simp); have c_w1_0_2 : w1.cell? ⟨w.heap.size, 2, none⟩ = some (.string F.nm) := hw1.cell_of (by go_simp); have f_w1_0_2 : w1.frozen? ⟨w.heap.size, 2, none⟩ = false := hw1.thaw_of (by go_simp) (by go_simp); have c_w1_0_3 : w1.cell? ⟨w.heap.size, 3, none⟩ = some (.slice o F.pw.length cap) := hw1.cell_of (by go_simp); have f_w1_0_3 : w1.frozen? ⟨w.heap.size, 3, none⟩ = false := hw1.thaw_of (by go_simp) (by go_simp); have c_w1_1_0 : w1.cell? ⟨w.heap.size + 1, 0, none⟩ = some (.int .i64 (0)) := hw1.cell_of (by go_simp); have f_w1_1_0 : w1.frozen? ⟨w.heap.size + 1, 0, none⟩ = false := hw1.thaw_of (by go_simp) (by go_simp); have c_w1_1_1 : w1.cell? ⟨w.heap.size + 1, 1, none⟩ = some (.int .i64 (0)) := hw1.cell_of (by go_simp); have f_w1_1_1 : w1.frozen? ⟨w.heap.size + 1, 1, none⟩ = false := hw1.thaw_of (by go_simp) (by go_simp); have c_w1_1_2 : w1.cell? ⟨w.heap.size + 1, 2, none⟩ = some (.string ⟨#[]⟩) := hw1.cell_of (by go_simp); have f_w1_1_2 : w1.frozen? ⟨w.heap.size + 1, 2, none⟩ = false := hw1.thaw_of (by go_simp) (by go_simp); have c_w1_1_3 : w1.cell? ⟨w.heap.size + 1, 3, none⟩ = some (.slice none 0 0) := hw1.cell_of (by go_simp); have f_w1_1_3 : w1.frozen? ⟨w.heap.size + 1, 3, none⟩ = false := hw1.thaw_of (by go_simp) (by go_simp))
    rw [HE.out]
    refine bodyPost_ret (v := .tuple #[.agg #[.int .i64 0, .int .i64 0, .string ⟨#[]⟩, .slice none 0 0], .int .i64 0, .int .i64 1]) (by unfold results; rw [Try.results66]; go_simp) rfl ⟨⟨_, rfl, K.own_nil _ _ _⟩, ?_⟩
    repeat with_reducible refine K.Ext.setCell ?_ (by dsimp only; omega) _
    exact (by repeat' (first | with_reducible exact K.Ext.refl _ | with_reducible assumption | with_reducible refine K.Ext.drew ?_ | with_reducible refine K.Ext.alloc ?_ _ | with_reducible refine K.Ext.setCell ?_ ?_ _ | with_reducible refine K.Ext.trans ?_ (by with_reducible assumption) | (dsimp only; omega) | omega | exact K.Ext.refl _ | assumption | apply K.Ext.drew | refine K.Ext.alloc ?_ _ | refine K.Ext.setCell ?_ ?_ _ | (simp; done) | (simp; omega) | refine K.Ext.trans ?_ (by assumption)))
  · obtain ⟨hl, h6⟩ : Hid (F.pw.length = F.nm.size) ∧ Hid (F.nm.size ≤ 6) := Z.isFormula_len hf
    have HF := Z.hide hf
    obtain ⟨n, hx⟩ : ∃ n, n = Z.expo (Z.bs F.nm) F.pw c := ⟨_, rfl⟩
    have HX : ∀ {lo hi : Nat} {p : Value} (w' : World), K.ints w' lo hi p F.pw → Calls Try.prog 106 #[.agg #[.int .i64 F.dg, .int .i64 F.tn, .string F.nm, p], .int .u8 c] w' fun e w'' => e = .returned (.int .i64 n) ∧ K.Ext w' w'' := fun w' hh => by rw [hx]; exact exponentOf_any F c _ _ _ w' hl.out (Nat.le_trans h6.out (by decide)) hby.1 hby.2 hh
    by_cases hz : n = 0
    · have HE : Hid (Z.SplitPower F c = (Z.zeroFm, 0, 4)) := Z.hide (by unfold Z.SplitPower; rw [hf, ← hx, hz]; rfl)
      clear hx
      go_enter Try.func66, Try.ntmps66
      go_wp2_with (first | ((go_at_call 33; refine K.call (by with_reducible rfl) (by with_reducible rfl) (impl_IsFormula F _ hm hn (h.ext (by repeat' (first | with_reducible exact K.Ext.refl _ | with_reducible assumption | with_reducible refine K.Ext.drew ?_ | with_reducible refine K.Ext.alloc ?_ _ | with_reducible refine K.Ext.setCell ?_ ?_ _ | with_reducible refine K.Ext.trans ?_ (by with_reducible assumption) | (dsimp only; omega) | omega | exact K.Ext.refl _ | assumption | apply K.Ext.drew | refine K.Ext.alloc ?_ _ | refine K.Ext.setCell ?_ ?_ _ | (simp; done) | (simp; omega) | refine K.Ext.trans ?_ (by assumption))))) ?_; rintro e w1 ⟨rfl, hw1⟩; obtain ⟨hcw1, hfw1⟩ := hw1.facts); have c_w1_0_0 : w1.cell? ⟨w.heap.size, 0, none⟩ = some (.int .i64 (F.dg)) := hw1.cell_of (by go_simp); have f_w1_0_0 : w1.frozen? ⟨w.heap.size, 0, none⟩ = false := hw1.thaw_of (by go_simp) (by go_simp); have c_w1_0_1 : w1.cell? ⟨w.heap.size, 1, none⟩ = some (.int .i64 (F.tn)) := hw1.cell_of (by go_simp); have f_w1_0_1 : w1.frozen? ⟨w.heap.size, 1, none⟩ = false := hw1.thaw_of (by go_simp) (by go_simp); have c_w1_0_2 : w1.cell? ⟨w.heap.size, 2, none⟩ = some (.string F.nm) := hw1.cell_of (by go_simp); have f_w1_0_2 : w1.frozen? ⟨w.heap.size, 2, none⟩ = false := hw1.thaw_of (by go_simp) (by go_simp); have c_w1_0_3 : w1.cell? ⟨w.heap.size, 3, none⟩ = some (.slice o F.pw.length cap) := hw1.cell_of (by go_simp); have f_w1_0_3 : w1.frozen? ⟨w.heap.size, 3, none⟩ = false := hw1.thaw_of (by go_simp) (by go_simp); have c_w1_1_0 : w1.cell? ⟨w.heap.size + 1, 0, none⟩ = some (.int .i64 (0)) := hw1.cell_of (by go_simp); have f_w1_1_0 : w1.frozen? ⟨w.heap.size + 1, 0, none⟩ = false := hw1.thaw_of (by go_simp) (by go_simp); have c_w1_1_1 : w1.cell? ⟨w.heap.size + 1, 1, none⟩ = some (.int .i64 (0)) := hw1.cell_of (by go_simp); have f_w1_1_1 : w1.frozen? ⟨w.heap.size + 1, 1, none⟩ = false := hw1.thaw_of (by go_simp) (by go_simp); have c_w1_1_2 : w1.cell? ⟨w.heap.size + 1, 2, none⟩ = some (.string ⟨#[]⟩) := hw1.cell_of (by go_simp); have f_w1_1_2 : w1.frozen? ⟨w.heap.size + 1, 2, none⟩ = false := hw1.thaw_of (by go_simp) (by go_simp); have c_w1_1_3 : w1.cell? ⟨w.heap.size + 1, 3, none⟩ = some (.slice none 0 0) := hw1.cell_of (by go_simp); have f_w1_1_3 : w1.frozen? ⟨w.heap.size + 1, 3, none⟩ = false := hw1.thaw_of (by go_simp) (by go_simp)) | ((go_at_call 106; refine K.call (by with_reducible rfl) (by with_reducible rfl) (HX _ (h.ext (by repeat' (first | with_reducible exact K.Ext.refl _ | with_reducible assumption | with_reducible refine K.Ext.drew ?_ | with_reducible refine K.Ext.alloc ?_ _ | with_reducible refine K.Ext.setCell ?_ ?_ _ | with_reducible refine K.Ext.trans ?_ (by with_reducible assumption) | (dsimp only; omega) | omega | exact K.Ext.refl _ | assumption | apply K.Ext.drew | refine K.Ext.alloc ?_ _ | refine K.Ext.setCell ?_ ?_ _ | (simp; done) | (simp; omega) | refine K.Ext.trans ?_ (by assumption))))) ?_; rintro e w2 ⟨rfl, hw2⟩; obtain ⟨hcw2, hfw2⟩ := hw2.facts); have c_w2_0_0 : w2.cell? ⟨w.heap.size, 0, none⟩ = some (.int .i64 (F.dg)) := hw2.cell_of (by go_simp); have f_w2_0_0 : w2.frozen? ⟨w.heap.size, 0, none⟩ = false := hw2.thaw_of (by go_simp) (by go_simp); have c_w2_0_1 : w2.cell? ⟨w.heap.size, 1, none⟩ = some (.int .i64 (F.tn)) := hw2.cell_of (by go_simp); have f_w2_0_1 : w2.frozen? ⟨w.heap.size, 1, none⟩ = false := hw2.thaw_of (by go_simp) (by go_simp); have c_w2_0_2 : w2.cell? ⟨w.heap.size, 2, none⟩ = some (.string F.nm) := hw2.cell_of (by go_simp); have f_w2_0_2 : w2.frozen? ⟨w.heap.size, 2, none⟩ = false := hw2.thaw_of (by go_simp) (by go_simp); have c_w2_0_3 : w2.cell? ⟨w.heap.size, 3, none⟩ = some (.slice o F.pw.length cap) := hw2.cell_of (by go_simp); have f_w2_0_3 : w2.frozen? ⟨w.heap.size, 3, none⟩ = false := hw2.thaw_of (by go_simp) (by go_simp); have c_w2_1_0 : w2.cell? ⟨w.heap.size + 1, 0, none⟩ = some (.int .i64 (0)) := hw2.cell_of (by go_simp); have f_w2_1_0 : w2.frozen? ⟨w.heap.size + 1, 0, none⟩ = false := hw2.thaw_of (by go_simp) (by go_simp); have c_w2_1_1 : w2.cell? ⟨w.heap.size + 1, 1, none⟩ = some (.int .i64 (0)) := hw2.cell_of (by go_simp); have f_w2_1_1 : w2.frozen? ⟨w.heap.size + 1, 1, none⟩ = false := hw2.thaw_of (by go_simp) (by go_simp); have c_w2_1_2 : w2.cell? ⟨w.heap.size + 1, 2, none⟩ = some (.string ⟨#[]⟩) := hw2.cell_of (by go_simp); have f_w2_1_2 : w2.frozen? ⟨w.heap.size + 1, 2, none⟩ = false := hw2.thaw_of (by go_simp) (by go_simp); have c_w2_1_3 : w2.cell? ⟨w.heap.size + 1, 3, none⟩ = some (.slice none 0 0) := hw2.cell_of (by go_simp); have f_w2_1_3 : w2.frozen? ⟨w.heap.size + 1, 3, none⟩ = false := hw2.thaw_of (by go_simp) (by go_simp)))
      rw [HE.out]
      refine bodyPost_ret (v := .tuple #[.agg #[.int .i64 0, .int .i64 0, .string ⟨#[]⟩, .slice none 0 0], .int .i64 0, .int .i64 4]) (by unfold results; rw [Try.results66]; go_simp) rfl ⟨⟨_, rfl, K.own_nil _ _ _⟩, ?_⟩
      repeat with_reducible refine K.Ext.setCell ?_ (by dsimp only; omega) _
      exact (by repeat' (first | with_reducible exact K.Ext.refl _ | with_reducible assumption | with_reducible refine K.Ext.drew ?_ | with_reducible refine K.Ext.alloc ?_ _ | with_reducible refine K.Ext.setCell ?_ ?_ _ | with_reducible refine K.Ext.trans ?_ (by with_reducible assumption) | (dsimp only; omega) | omega | exact K.Ext.refl _ | assumption | apply K.Ext.drew | refine K.Ext.alloc ?_ _ | refine K.Ext.setCell ?_ ?_ _ | (simp; done) | (simp; omega) | refine K.Ext.trans ?_ (by assumption)))
    · have HE : Hid (Z.SplitPower F c = (Z.without F c, n, 0)) := Z.hide (by unfold Z.SplitPower; rw [hf, ← hx]; simp [hz])
      clear hx
      go_enter Try.func66, Try.ntmps66
      go_wp2_with (first | ((go_at_call 33; refine K.call (by with_reducible rfl) (by with_reducible rfl) (impl_IsFormula F _ hm hn (h.ext (by repeat' (first | with_reducible exact K.Ext.refl _ | with_reducible assumption | with_reducible refine K.Ext.drew ?_ | with_reducible refine K.Ext.alloc ?_ _ | with_reducible refine K.Ext.setCell ?_ ?_ _ | with_reducible refine K.Ext.trans ?_ (by with_reducible assumption) | (dsimp only; omega) | omega | exact K.Ext.refl _ | assumption | apply K.Ext.drew | refine K.Ext.alloc ?_ _ | refine K.Ext.setCell ?_ ?_ _ | (simp; done) | (simp; omega) | refine K.Ext.trans ?_ (by assumption))))) ?_; rintro e w1 ⟨rfl, hw1⟩; obtain ⟨hcw1, hfw1⟩ := hw1.facts); have c_w1_0_0 : w1.cell? ⟨w.heap.size, 0, none⟩ = some (.int .i64 (F.dg)) := hw1.cell_of (by go_simp); have f_w1_0_0 : w1.frozen? ⟨w.heap.size, 0, none⟩ = false := hw1.thaw_of (by go_simp) (by go_simp); have c_w1_0_1 : w1.cell? ⟨w.heap.size, 1, none⟩ = some (.int .i64 (F.tn)) := hw1.cell_of (by go_simp); have f_w1_0_1 : w1.frozen? ⟨w.heap.size, 1, none⟩ = false := hw1.thaw_of (by go_simp) (by go_simp); have c_w1_0_2 : w1.cell? ⟨w.heap.size, 2, none⟩ = some (.string F.nm) := hw1.cell_of (by go_simp); have f_w1_0_2 : w1.frozen? ⟨w.heap.size, 2, none⟩ = false := hw1.thaw_of (by go_simp) (by go_simp); have c_w1_0_3 : w1.cell? ⟨w.heap.size, 3, none⟩ = some (.slice o F.pw.length cap) := hw1.cell_of (by go_simp); have f_w1_0_3 : w1.frozen? ⟨w.heap.size, 3, none⟩ = false := hw1.thaw_of (by go_simp) (by go_simp); have c_w1_1_0 : w1.cell? ⟨w.heap.size + 1, 0, none⟩ = some (.int .i64 (0)) := hw1.cell_of (by go_simp); have f_w1_1_0 : w1.frozen? ⟨w.heap.size + 1, 0, none⟩ = false := hw1.thaw_of (by go_simp) (by go_simp); have c_w1_1_1 : w1.cell? ⟨w.heap.size + 1, 1, none⟩ = some (.int .i64 (0)) := hw1.cell_of (by go_simp); have f_w1_1_1 : w1.frozen? ⟨w.heap.size + 1, 1, none⟩ = false := hw1.thaw_of (by go_simp) (by go_simp); have c_w1_1_2 : w1.cell? ⟨w.heap.size + 1, 2, none⟩ = some (.string ⟨#[]⟩) := hw1.cell_of (by go_simp); have f_w1_1_2 : w1.frozen? ⟨w.heap.size + 1, 2, none⟩ = false := hw1.thaw_of (by go_simp) (by go_simp); have c_w1_1_3 : w1.cell? ⟨w.heap.size + 1, 3, none⟩ = some (.slice none 0 0) := hw1.cell_of (by go_simp); have f_w1_1_3 : w1.frozen? ⟨w.heap.size + 1, 3, none⟩ = false := hw1.thaw_of (by go_simp) (by go_simp)) | ((go_at_call 106; refine K.call (by with_reducible rfl) (by with_reducible rfl) (HX _ (h.ext (by repeat' (first | with_reducible exact K.Ext.refl _ | with_reducible assumption | with_reducible refine K.Ext.drew ?_ | with_reducible refine K.Ext.alloc ?_ _ | with_reducible refine K.Ext.setCell ?_ ?_ _ | with_reducible refine K.Ext.trans ?_ (by with_reducible assumption) | (dsimp only; omega) | omega | exact K.Ext.refl _ | assumption | apply K.Ext.drew | refine K.Ext.alloc ?_ _ | refine K.Ext.setCell ?_ ?_ _ | (simp; done) | (simp; omega) | refine K.Ext.trans ?_ (by assumption))))) ?_; rintro e w2 ⟨rfl, hw2⟩; obtain ⟨hcw2, hfw2⟩ := hw2.facts); have c_w2_0_0 : w2.cell? ⟨w.heap.size, 0, none⟩ = some (.int .i64 (F.dg)) := hw2.cell_of (by go_simp); have f_w2_0_0 : w2.frozen? ⟨w.heap.size, 0, none⟩ = false := hw2.thaw_of (by go_simp) (by go_simp); have c_w2_0_1 : w2.cell? ⟨w.heap.size, 1, none⟩ = some (.int .i64 (F.tn)) := hw2.cell_of (by go_simp); have f_w2_0_1 : w2.frozen? ⟨w.heap.size, 1, none⟩ = false := hw2.thaw_of (by go_simp) (by go_simp); have c_w2_0_2 : w2.cell? ⟨w.heap.size, 2, none⟩ = some (.string F.nm) := hw2.cell_of (by go_simp); have f_w2_0_2 : w2.frozen? ⟨w.heap.size, 2, none⟩ = false := hw2.thaw_of (by go_simp) (by go_simp); have c_w2_0_3 : w2.cell? ⟨w.heap.size, 3, none⟩ = some (.slice o F.pw.length cap) := hw2.cell_of (by go_simp); have f_w2_0_3 : w2.frozen? ⟨w.heap.size, 3, none⟩ = false := hw2.thaw_of (by go_simp) (by go_simp); have c_w2_1_0 : w2.cell? ⟨w.heap.size + 1, 0, none⟩ = some (.int .i64 (0)) := hw2.cell_of (by go_simp); have f_w2_1_0 : w2.frozen? ⟨w.heap.size + 1, 0, none⟩ = false := hw2.thaw_of (by go_simp) (by go_simp); have c_w2_1_1 : w2.cell? ⟨w.heap.size + 1, 1, none⟩ = some (.int .i64 (0)) := hw2.cell_of (by go_simp); have f_w2_1_1 : w2.frozen? ⟨w.heap.size + 1, 1, none⟩ = false := hw2.thaw_of (by go_simp) (by go_simp); have c_w2_1_2 : w2.cell? ⟨w.heap.size + 1, 2, none⟩ = some (.string ⟨#[]⟩) := hw2.cell_of (by go_simp); have f_w2_1_2 : w2.frozen? ⟨w.heap.size + 1, 2, none⟩ = false := hw2.thaw_of (by go_simp) (by go_simp); have c_w2_1_3 : w2.cell? ⟨w.heap.size + 1, 3, none⟩ = some (.slice none 0 0) := hw2.cell_of (by go_simp); have f_w2_1_3 : w2.frozen? ⟨w.heap.size + 1, 3, none⟩ = false := hw2.thaw_of (by go_simp) (by go_simp)) | ((go_at_call 130; refine K.call (by with_reducible rfl) (by with_reducible rfl) (without_any F c _ HF.out (h.ext (by repeat' (first | with_reducible exact K.Ext.refl _ | with_reducible assumption | with_reducible refine K.Ext.drew ?_ | with_reducible refine K.Ext.alloc ?_ _ | with_reducible refine K.Ext.setCell ?_ ?_ _ | with_reducible refine K.Ext.trans ?_ (by with_reducible assumption) | (dsimp only; omega) | omega | exact K.Ext.refl _ | assumption | apply K.Ext.drew | refine K.Ext.alloc ?_ _ | refine K.Ext.setCell ?_ ?_ _ | (simp; done) | (simp; omega) | refine K.Ext.trans ?_ (by assumption))))) ?_; rintro e w3 ⟨⟨p3, rfl, hp3⟩, hw3⟩; obtain ⟨hcw3, hfw3⟩ := hw3.facts; have hp4 := hp3; obtain ⟨o3, c3, rfl, _⟩ := hp4); have c_w3_1_0 : w3.cell? ⟨w.heap.size + 1, 0, none⟩ = some (.int .i64 (0)) := hw3.cell_of (by go_simp); have f_w3_1_0 : w3.frozen? ⟨w.heap.size + 1, 0, none⟩ = false := hw3.thaw_of (by go_simp) (by go_simp); have c_w3_1_1 : w3.cell? ⟨w.heap.size + 1, 1, none⟩ = some (.int .i64 (0)) := hw3.cell_of (by go_simp); have f_w3_1_1 : w3.frozen? ⟨w.heap.size + 1, 1, none⟩ = false := hw3.thaw_of (by go_simp) (by go_simp); have c_w3_1_2 : w3.cell? ⟨w.heap.size + 1, 2, none⟩ = some (.string ⟨#[]⟩) := hw3.cell_of (by go_simp); have f_w3_1_2 : w3.frozen? ⟨w.heap.size + 1, 2, none⟩ = false := hw3.thaw_of (by go_simp) (by go_simp); have c_w3_1_3 : w3.cell? ⟨w.heap.size + 1, 3, none⟩ = some (.slice none 0 0) := hw3.cell_of (by go_simp); have f_w3_1_3 : w3.frozen? ⟨w.heap.size + 1, 3, none⟩ = false := hw3.thaw_of (by go_simp) (by go_simp)))
      rw [HE.out]
      have z1 := hw1.size
      have z2 := hw2.size
      simp at z1 z2
      refine bodyPost_ret (v := .tuple #[.agg #[.int .i64 ((Z.without F c)).dg, .int .i64 ((Z.without F c)).tn, .string ((Z.without F c)).nm, .slice o3 (Z.without F c).pw.length c3], .int .i64 n, .int .i64 0]) (by unfold results; rw [Try.results66]; go_simp) rfl ⟨⟨_, rfl, ?_⟩, ?_⟩
      · refine K.own.mono (lo := w2.heap.size) (hi := w3.heap.size) ?_ (by omega) (by simp)
        repeat with_reducible refine K.own.set ?_ _ (.inl (by dsimp only; omega)) _
        exact hp3
      · repeat with_reducible refine K.Ext.setCell ?_ (by dsimp only; omega) _
        exact (by repeat' (first | with_reducible exact K.Ext.refl _ | with_reducible assumption | with_reducible refine K.Ext.drew ?_ | with_reducible refine K.Ext.alloc ?_ _ | with_reducible refine K.Ext.setCell ?_ ?_ _ | with_reducible refine K.Ext.trans ?_ (by with_reducible assumption) | (dsimp only; omega) | omega | exact K.Ext.refl _ | assumption | apply K.Ext.drew | refine K.Ext.alloc ?_ _ | refine K.Ext.setCell ?_ ?_ _ | (simp; done) | (simp; omega) | refine K.Ext.trans ?_ (by assumption)))
end Go.Proofs.Ythmnlbgbacbocaa
end
section
namespace Go.Proofs.Ythmnlbgbacbocaa
open Go.RowKit
set_option maxHeartbeats 6400000 in
theorem logarithm_any (x : Int) (w : World) (x1 : 100000000 ≤ x) (x2 : x < 1000000000) :
    Calls Try.prog 183 #[.int .i64 x] w fun e w' => e = .returned (.agg #[.int .i64 (Z.logOf x).1, .int .i64 (Z.logOf x).2]) ∧ K.Ext w w' := by
  have HE : Hid (Z.logOf x = ((Z.itL x 20).2, (Z.itH x 20).2 + 1)) := Z.hide rfl
  go_enter Try.func183, Try.ntmps183
  go_wp2
  go_loopw [3, 4, 9] (fun l h i wr => ∃ k : Nat, k ≤ 20 ∧ i = .int .i64 k ∧ l = .int .i64 (Z.itL x k).1 ∧ h = .int .i64 (Z.itH x k).1 ∧ Hid (wr.heap[w.heap.size]? = some (.cells #[.int .i64 0, .int .i64 0] 73)) ∧ Hid (wr.heap[w.heap.size + 1]? = some (.cells #[.int .i64 (Z.itL x k).2, .int .i64 (Z.itH x k).2] 73)) ∧ Hid (K.Ext w wr)) (fun _ _ i _ => 20 - (intOf i).toNat)
  case atStart => exact ⟨0, Nat.zero_le _, rfl, rfl, rfl, Z.hide (((K.Ext.refl _).alloc _).block (K.block_new rfl)), Z.hide (K.block_new (by simp)), Z.hide (by repeat' (first | with_reducible exact K.Ext.refl _ | with_reducible assumption | with_reducible refine K.Ext.drew ?_ | with_reducible refine K.Ext.alloc ?_ _ | with_reducible refine K.Ext.setCell ?_ ?_ _ | with_reducible refine K.Ext.trans ?_ (by with_reducible assumption) | (dsimp only; omega) | omega | exact K.Ext.refl _ | assumption | apply K.Ext.drew | refine K.Ext.alloc ?_ _ | refine K.Ext.setCell ?_ ?_ _ | (simp; done) | (simp; omega) | refine K.Ext.trans ?_ (by assumption)))⟩
  case round =>
    obtain ⟨k, hk, rfl, rfl, rfl, B0, B1, HX⟩ := hrel
    have k0 : (0 : Int) ≤ (k : Int) := Int.natCast_nonneg k
    have lw : w.heap.size + 1 < wr.heap.size := (Array.getElem?_eq_some_iff.1 B1.out).1
    have n1 : ¬ (w.heap.size = w.heap.size + 1) := by omega
    by_cases hlt : k < 20
    · have k1 : (k : Int) < 20 := by omega
      obtain ⟨⟨l1, l2⟩, l3, l4⟩ := Z.itL_bd x1 x2 k
      obtain ⟨⟨h1, h2⟩, h3, h4⟩ := Z.itH_bd x1 x2 k
      have hb := Z.b2_mono (show k ≤ 20 by omega)
      rw [Z.b2_20] at hb
      obtain ⟨p, hp⟩ : ∃ p, p = Z.itL x k := ⟨_, rfl⟩
      obtain ⟨q, hq⟩ : ∃ q, q = Z.itH x k := ⟨_, rfl⟩
      have SL : Hid (Z.itL x (k + 1) = Z.stepL p) := Z.hide (by rw [hp]; rfl)
      have SH : Hid (Z.itH x (k + 1) = Z.stepH q) := Z.hide (by rw [hq]; rfl)
      rw [← hp] at l1 l2 l3 l4 B1 ⊢
      rw [← hq] at h1 h2 h3 h4 B1 ⊢
      clear hp hq
      have c0 : wr.cell? ⟨w.heap.size + 1, 0, none⟩ = some (.int .i64 p.2) := K.cell_at B1.out rfl
      have c1 : wr.cell? ⟨w.heap.size + 1, 1, none⟩ = some (.int .i64 q.2) := K.cell_at B1.out rfl
      have f0 : wr.frozen? ⟨w.heap.size + 1, 0, none⟩ = false := K.thaw_at B1.out
      have f1 : wr.frozen? ⟨w.heap.size + 1, 1, none⟩ = false := K.thaw_at B1.out
      obtain ⟨a1, a2⟩ := Z.sq_bd l1 (by omega)
      obtain ⟨b1, b2⟩ := Z.sq_bd h1 h2
      have q1 : IntKind.i64.wrap (p.1 * p.1) = p.1 * p.1 := IntWalk.i64_in _ (by omega)
      have q2 : IntKind.i64.wrap (q.1 * q.1) = q.1 * q.1 := IntWalk.i64_in _ (by omega)
      obtain ⟨y, hy⟩ : ∃ y, y = Z.fl (p.1 * p.1) 100000000 := ⟨_, rfl⟩
      obtain ⟨z, hz⟩ : ∃ z, z = Z.cl (q.1 * q.1) 100000000 := ⟨_, rfl⟩
      have D1 : Hid (∀ w : World, Calls Try.prog 185 #[.int .i64 (p.1 * p.1), .int .i64 100000000] w fun e w' => e = .returned (.int .i64 y) ∧ w = w') := Z.hide (fun w => by rw [hy]; exact down_any _ _ w (by decide) (by omega) (by omega))
      have U1 : Hid (∀ w : World, Calls Try.prog 186 #[.int .i64 (q.1 * q.1), .int .i64 100000000] w fun e w' => e = .returned (.int .i64 z) ∧ w = w') := Z.hide (fun w => by rw [hz]; exact up_any _ _ w (by decide) (by omega) (by omega))
      have y1 : 0 ≤ y ∧ y ≤ 100000000000000000 := by rw [hy]; have := Z.fl_spec (p.1 * p.1) 100000000 (by decide); omega
      have z1 : 0 ≤ z ∧ z ≤ 100000000000000000 := by rw [hz]; have := Z.fl_spec (-(q.1 * q.1)) 100000000 (by decide); unfold Z.cl; omega
      have D2 : Hid (∀ w : World, Calls Try.prog 185 #[.int .i64 y, .int .i64 10] w fun e w' => e = .returned (.int .i64 (Z.fl y 10)) ∧ w = w') := Z.hide (fun w => down_any _ _ w (by decide) (by omega) (by omega))
      have U2 : Hid (∀ w : World, Calls Try.prog 186 #[.int .i64 z, .int .i64 10] w fun e w' => e = .returned (.int .i64 (Z.cl z 10)) ∧ w = w') := Z.hide (fun w => up_any _ _ w (by decide) (by omega) (by omega))
      obtain ⟨y2, hy2⟩ : ∃ u, u = Z.fl y 10 := ⟨_, rfl⟩
      obtain ⟨z2, hz2⟩ : ∃ u, u = Z.cl z 10 := ⟨_, rfl⟩
      rw [← hy2] at D2
      rw [← hz2] at U2
      have TL : Hid (Z.stepL p = if 1000000000 ≤ y then (y2, p.2 * 2 + 1) else (y, p.2 * 2)) := Z.hide (by unfold Z.stepL; rw [← hy, ← hy2])
      have TH : Hid (Z.stepH q = if 1000000000 ≤ z then (z2, q.2 * 2 + 1) else (z, q.2 * 2)) := Z.hide (by unfold Z.stepH; rw [← hz, ← hz2])
      obtain ⟨y1a, y1b⟩ := y1
      obtain ⟨z1a, z1b⟩ := z1
      have p2b : p.2 ≤ 1048576 := by omega
      have q2b : q.2 ≤ 1048576 := by omega
      clear hy hz hy2 hz2 hb l4 h4 a1 a2 b1 b2 l1 l2 h1 h2
      by_cases cy : 1000000000 ≤ y
      · rw [if_pos cy] at TL
        by_cases cz : 1000000000 ≤ z
        · rw [if_pos cz] at TH
          go_wp2_with (first | (go_at_call 185; refine K.call (by with_reducible rfl) (by with_reducible rfl) (D1.out _) ?_; rintro e w' ⟨rfl, rfl⟩) | (go_at_call 185; refine K.call (by with_reducible rfl) (by with_reducible rfl) (D2.out _) ?_; rintro e w' ⟨rfl, rfl⟩) | (go_at_call 186; refine K.call (by with_reducible rfl) (by with_reducible rfl) (U1.out _) ?_; rintro e w' ⟨rfl, rfl⟩) | (go_at_call 186; refine K.call (by with_reducible rfl) (by with_reducible rfl) (U2.out _) ?_; rintro e w' ⟨rfl, rfl⟩))
          go_roundw
          case rel =>
            refine ⟨k + 1, by omega, by go_num, by rw [SL.out, TL.out], by rw [SH.out, TH.out], Z.hide ?_, Z.hide ?_, Z.hide ?_⟩
            · iterate 4 with_reducible refine Eq.trans (K.set_block (by dsimp only; omega)) ?_
              exact B0.out
            · rw [SL.out, TL.out, SH.out, TH.out]
              exact Joins.block_setCell (Joins.block_setCell (Joins.block_setCell (Joins.block_setCell B1.out _) _) _) _
            · iterate 4 with_reducible refine K.Ext.setCell ?_ (by dsimp only; omega) _
              exact HX.out
          case measure => simp [intOf]; omega
        · rw [if_neg cz] at TH
          go_wp2_with (first | (go_at_call 185; refine K.call (by with_reducible rfl) (by with_reducible rfl) (D1.out _) ?_; rintro e w' ⟨rfl, rfl⟩) | (go_at_call 185; refine K.call (by with_reducible rfl) (by with_reducible rfl) (D2.out _) ?_; rintro e w' ⟨rfl, rfl⟩) | (go_at_call 186; refine K.call (by with_reducible rfl) (by with_reducible rfl) (U1.out _) ?_; rintro e w' ⟨rfl, rfl⟩) | (go_at_call 186; refine K.call (by with_reducible rfl) (by with_reducible rfl) (U2.out _) ?_; rintro e w' ⟨rfl, rfl⟩))
          go_roundw
          case rel =>
            refine ⟨k + 1, by omega, by go_num, by rw [SL.out, TL.out], by rw [SH.out, TH.out], Z.hide ?_, Z.hide ?_, Z.hide ?_⟩
            · iterate 3 with_reducible refine Eq.trans (K.set_block (by dsimp only; omega)) ?_
              exact B0.out
            · rw [SL.out, TL.out, SH.out, TH.out]
              exact Joins.block_setCell (Joins.block_setCell (Joins.block_setCell B1.out _) _) _
            · iterate 3 with_reducible refine K.Ext.setCell ?_ (by dsimp only; omega) _
              exact HX.out
          case measure => simp [intOf]; omega
      · rw [if_neg cy] at TL
        by_cases cz : 1000000000 ≤ z
        · rw [if_pos cz] at TH
          go_wp2_with (first | (go_at_call 185; refine K.call (by with_reducible rfl) (by with_reducible rfl) (D1.out _) ?_; rintro e w' ⟨rfl, rfl⟩) | (go_at_call 185; refine K.call (by with_reducible rfl) (by with_reducible rfl) (D2.out _) ?_; rintro e w' ⟨rfl, rfl⟩) | (go_at_call 186; refine K.call (by with_reducible rfl) (by with_reducible rfl) (U1.out _) ?_; rintro e w' ⟨rfl, rfl⟩) | (go_at_call 186; refine K.call (by with_reducible rfl) (by with_reducible rfl) (U2.out _) ?_; rintro e w' ⟨rfl, rfl⟩))
          go_roundw
          case rel =>
            refine ⟨k + 1, by omega, by go_num, by rw [SL.out, TL.out], by rw [SH.out, TH.out], Z.hide ?_, Z.hide ?_, Z.hide ?_⟩
            · iterate 3 with_reducible refine Eq.trans (K.set_block (by dsimp only; omega)) ?_
              exact B0.out
            · rw [SL.out, TL.out, SH.out, TH.out]
              exact Joins.block_setCell (Joins.block_setCell (Joins.block_setCell B1.out _) _) _
            · iterate 3 with_reducible refine K.Ext.setCell ?_ (by dsimp only; omega) _
              exact HX.out
          case measure => simp [intOf]; omega
        · rw [if_neg cz] at TH
          go_wp2_with (first | (go_at_call 185; refine K.call (by with_reducible rfl) (by with_reducible rfl) (D1.out _) ?_; rintro e w' ⟨rfl, rfl⟩) | (go_at_call 185; refine K.call (by with_reducible rfl) (by with_reducible rfl) (D2.out _) ?_; rintro e w' ⟨rfl, rfl⟩) | (go_at_call 186; refine K.call (by with_reducible rfl) (by with_reducible rfl) (U1.out _) ?_; rintro e w' ⟨rfl, rfl⟩) | (go_at_call 186; refine K.call (by with_reducible rfl) (by with_reducible rfl) (U2.out _) ?_; rintro e w' ⟨rfl, rfl⟩))
          go_roundw
          case rel =>
            refine ⟨k + 1, by omega, by go_num, by rw [SL.out, TL.out], by rw [SH.out, TH.out], Z.hide ?_, Z.hide ?_, Z.hide ?_⟩
            · iterate 2 with_reducible refine Eq.trans (K.set_block (by dsimp only; omega)) ?_
              exact B0.out
            · rw [SL.out, TL.out, SH.out, TH.out]
              exact Joins.block_setCell (Joins.block_setCell B1.out _) _
            · iterate 2 with_reducible refine K.Ext.setCell ?_ (by dsimp only; omega) _
              exact HX.out
          case measure => simp [intOf]; omega
    · obtain rfl : k = 20 := by omega
      have l3 := (Z.itL_bd x1 x2 20).2
      have h3 := (Z.itH_bd x1 x2 20).2
      rw [Z.b2_20] at l3 h3
      generalize Z.itL x 20 = p at *
      generalize Z.itH x 20 = q at *
      have c0 : wr.cell? ⟨w.heap.size + 1, 0, none⟩ = some (.int .i64 p.2) := K.cell_at B1.out rfl
      have c1 : wr.cell? ⟨w.heap.size + 1, 1, none⟩ = some (.int .i64 q.2) := K.cell_at B1.out rfl
      have f1 : wr.frozen? ⟨w.heap.size + 1, 1, none⟩ = false := K.thaw_at B1.out
      have d0 : wr.cell? ⟨w.heap.size, 0, none⟩ = some (.int .i64 0) := K.cell_at B0.out rfl
      have d1 : wr.cell? ⟨w.heap.size, 1, none⟩ = some (.int .i64 0) := K.cell_at B0.out rfl
      have g0 : wr.frozen? ⟨w.heap.size, 0, none⟩ = false := K.thaw_at B0.out
      have g1 : wr.frozen? ⟨w.heap.size, 1, none⟩ = false := K.thaw_at B0.out
      obtain ⟨h3a, h3b⟩ := h3
      go_wp2
      rw [HE.out]
      refine bodyPost_ret (v := .agg #[.int .i64 p.2, .int .i64 (q.2 + 1)]) (by unfold results; rw [Try.results183]; go_simp) rfl ⟨rfl, ?_⟩
      repeat with_reducible refine K.Ext.setCell ?_ (by dsimp only; omega) _
      exact HX.out
set_option maxHeartbeats 3200000 in
theorem l03Bits_low (x : Int) (w : World) (x1 : 100000000 ≤ x) (x2 : x < 1000000000) :
    Calls Try.prog 208 #[.int .i64 x, .bool false] w fun e w' => e = .returned (.int .i64 (Z.itL x 20).2) ∧ w = w' := by
  go_enter Try.func208, Try.ntmps208
  go_wp2
  go_loop [0, 5, 6] (fun l n i => ∃ k : Nat, k ≤ 20 ∧ i = .int .i64 k ∧ l = .int .i64 (Z.itL x k).1 ∧ n = .int .i64 (Z.itL x k).2) (fun _ _ i => 20 - (intOf i).toNat)
  case atStart => exact ⟨0, Nat.zero_le _, rfl, rfl, rfl⟩
  case round =>
    obtain ⟨k, hk, rfl, rfl, rfl⟩ := hrel
    have k0 : (0 : Int) ≤ (k : Int) := Int.natCast_nonneg k
    by_cases hlt : k < 20
    · have k1 : (k : Int) < 20 := by omega
      obtain ⟨⟨l1, l2⟩, l3, l4⟩ := Z.itL_bd x1 x2 k
      have hb := Z.b2_mono (show k ≤ 20 by omega)
      rw [Z.b2_20] at hb
      obtain ⟨p, hp⟩ : ∃ p, p = Z.itL x k := ⟨_, rfl⟩
      have SL : Hid (Z.itL x (k + 1) = Z.stepL p) := Z.hide (by rw [hp]; rfl)
      rw [← hp] at l1 l2 l3 l4 ⊢
      clear hp
      obtain ⟨a1, a2⟩ := Z.sq_bd l1 (by omega)
      have q1 : IntKind.i64.wrap (p.1 * p.1) = p.1 * p.1 := IntWalk.i64_in _ (by omega)
      have TL : Hid (Z.stepL p = if 1000000000 ≤ (p.1 * p.1) / 100000000 then ((p.1 * p.1) / 100000000 / 10, p.2 * 2 + 1) else ((p.1 * p.1) / 100000000, p.2 * 2)) := Z.hide (by unfold Z.stepL; rw [Z.fl_eq_ediv _ _ (by decide), Z.fl_eq_ediv _ _ (by decide)])
      have p2b : p.2 ≤ 1048576 := by omega
      obtain ⟨s, hs⟩ : ∃ s, s = p.1 * p.1 := ⟨_, rfl⟩
      rw [← hs] at q1 TL a1 a2
      have y0 : 0 ≤ s / 100000000 := by omega
      have y1 : s / 100000000 ≤ 10000000000 := by omega
      have s0 : 0 ≤ s := by omega
      clear hb l4 l1 l2
      have HSs := Z.hide hs
      by_cases cy : 1000000000 ≤ s / 100000000
      all_goals
        first | rw [if_pos cy] at TL | rw [if_neg cy] at TL
        rw [HSs.out] at q1
        go_wp2
        go_round
        case rel => exact ⟨k + 1, by omega, by go_num, by rw [SL.out, TL.out, HSs.out], by rw [SL.out, TL.out]; exact K.vint (by omega)⟩
        case measure => simp [intOf]; omega
    · obtain rfl : k = 20 := by omega
      obtain ⟨p, hp⟩ : ∃ p, p = Z.itL x 20 := ⟨_, rfl⟩
      rw [← hp]
      have HPp := Z.hide hp
      clear hp
      go_wp2
      go_ret
      exact ⟨K.ri (by rw [HPp.out]), rfl⟩
set_option maxHeartbeats 3200000 in
theorem l03Bits_high (x : Int) (w : World) (x1 : 100000000 ≤ x) (x2 : x < 1000000000) :
    Calls Try.prog 208 #[.int .i64 x, .bool true] w fun e w' => e = .returned (.int .i64 (Z.itH x 20).2) ∧ w = w' := by
  go_enter Try.func208, Try.ntmps208
  go_wp2
  go_loop [0, 5, 6] (fun l n i => ∃ k : Nat, k ≤ 20 ∧ i = .int .i64 k ∧ l = .int .i64 (Z.itH x k).1 ∧ n = .int .i64 (Z.itH x k).2) (fun _ _ i => 20 - (intOf i).toNat)
  case atStart => exact ⟨0, Nat.zero_le _, rfl, rfl, rfl⟩
  case round =>
    obtain ⟨k, hk, rfl, rfl, rfl⟩ := hrel
    have k0 : (0 : Int) ≤ (k : Int) := Int.natCast_nonneg k
    by_cases hlt : k < 20
    · have k1 : (k : Int) < 20 := by omega
      obtain ⟨⟨h1, h2⟩, h3, h4⟩ := Z.itH_bd x1 x2 k
      have hb := Z.b2_mono (show k ≤ 20 by omega)
      rw [Z.b2_20] at hb
      obtain ⟨q, hq⟩ : ∃ q, q = Z.itH x k := ⟨_, rfl⟩
      have SH : Hid (Z.itH x (k + 1) = Z.stepH q) := Z.hide (by rw [hq]; rfl)
      rw [← hq] at h1 h2 h3 h4 ⊢
      clear hq
      obtain ⟨b1, b2⟩ := Z.sq_bd h1 h2
      have q2 : IntKind.i64.wrap (q.1 * q.1) = q.1 * q.1 := IntWalk.i64_in _ (by omega)
      obtain ⟨z, hz⟩ : ∃ z, z = Z.cl (q.1 * q.1) 100000000 := ⟨_, rfl⟩
      have U1 : Hid (∀ w : World, Calls Try.prog 199 #[.int .i64 (q.1 * q.1), .int .i64 100000000] w fun e w' => e = .returned (.int .i64 z) ∧ w = w') := Z.hide (fun w => by rw [hz]; exact l01Ceil_any _ _ w (by decide) (by omega) (by omega) (by decide) (by decide))
      have z1 : 0 ≤ z ∧ z ≤ 100000000000000000 := by rw [hz]; have := Z.fl_spec (-(q.1 * q.1)) 100000000 (by decide); unfold Z.cl; omega
      have U2 : Hid (∀ w : World, Calls Try.prog 199 #[.int .i64 z, .int .i64 10] w fun e w' => e = .returned (.int .i64 (Z.cl z 10)) ∧ w = w') := Z.hide (fun w => l01Ceil_any _ _ w (by decide) (by omega) (by omega) (by decide) (by decide))
      obtain ⟨z2, hz2⟩ : ∃ u, u = Z.cl z 10 := ⟨_, rfl⟩
      rw [← hz2] at U2
      have TH : Hid (Z.stepH q = if 1000000000 ≤ z then (z2, q.2 * 2 + 1) else (z, q.2 * 2)) := Z.hide (by unfold Z.stepH; rw [← hz, ← hz2])
      obtain ⟨z1a, z1b⟩ := z1
      have q2b : q.2 ≤ 1048576 := by omega
      clear hz hz2 hb h4 b1 b2 h1 h2
      by_cases cz : 1000000000 ≤ z
      all_goals
        first | rw [if_pos cz] at TH | rw [if_neg cz] at TH
        go_wp2_with (first | (go_at_call 199; refine K.call (by with_reducible rfl) (by with_reducible rfl) (U1.out _) ?_; rintro e w' ⟨rfl, rfl⟩) | (go_at_call 199; refine K.call (by with_reducible rfl) (by with_reducible rfl) (U2.out _) ?_; rintro e w' ⟨rfl, rfl⟩))
        go_round
        case rel => exact ⟨k + 1, by omega, by go_num, by rw [SH.out, TH.out], by rw [SH.out, TH.out]; exact K.vint (by omega)⟩
        case measure => simp [intOf]; omega
    · obtain rfl : k = 20 := by omega
      obtain ⟨p, hp⟩ : ∃ p, p = Z.itH x 20 := ⟨_, rfl⟩
      rw [← hp]
      have HPp := Z.hide hp
      clear hp
      go_wp2
      go_ret
      exact ⟨K.ri (by rw [HPp.out]), rfl⟩
end Go.Proofs.Ythmnlbgbacbocaa
end
section
namespace Go.K
open Go.RowKit
theorem own_at {w : World} {lo hi n c : Nat} {o : Option Addr} {xs : List Int} (h : K.own w lo hi (.slice o n c) xs) (h0 : 0 < xs.length) : ∃ b off, o = some ⟨b, off, none⟩ ∧ lo ≤ b ∧ b < hi ∧ (∀ i, i < xs.length → w.cell? ⟨b, off + i, none⟩ = some (.int .i64 (xs.getD i 0))) ∧ (∀ i, i < xs.length → w.frozen? ⟨b, off + i, none⟩ = false) := by
  obtain ⟨o', c', hv, hh⟩ := h
  simp only [Value.slice.injEq] at hv
  obtain ⟨rfl, _, _⟩ := hv
  exact hh (by intro h; rw [h] at h0; simp at h0)
theorem ints_at {w : World} {lo hi n c : Nat} {o : Option Addr} {xs : List Int} (h : K.ints w lo hi (.slice o n c) xs) (h0 : 0 < xs.length) : ∃ b off, o = some ⟨b, off, none⟩ ∧ lo ≤ b ∧ b < hi ∧ (∀ i, i < xs.length → w.cell? ⟨b, off + i, none⟩ = some (.int .i64 (xs.getD i 0))) := by
  obtain ⟨o', c', hv, hh⟩ := h
  simp only [Value.slice.injEq] at hv
  obtain ⟨rfl, _, _⟩ := hv
  exact hh (by intro h; rw [h] at h0; simp at h0)
theorem own_setAt {w : World} {lo hi b off n cap k : Nat} {x : Int} {xs : List Int} (hk : k < xs.length) (h : K.own w lo hi (.slice (some ⟨b, off, none⟩) n cap) xs) :
    K.own (w.setCell ⟨b, off + k, none⟩ (.int .i64 x)) lo hi (.slice (some ⟨b, off, none⟩) n cap) (xs.set k x) := by
  obtain ⟨o, cap', hv, hc⟩ := h
  simp only [Value.slice.injEq] at hv
  obtain ⟨rfl, rfl, rfl⟩ := hv
  obtain ⟨b', off', he, h1, h2, h3, h4⟩ := hc (by intro h0; simp [h0] at hk)
  simp only [Option.some.injEq, Addr.mk.injEq, and_true] at he
  obtain ⟨rfl, rfl⟩ := he
  exact ⟨some ⟨b, off, none⟩, cap, by simp, fun _ => ⟨b, off, rfl, h1, h2, fun i hi => row_set rfl hk h3 i (by simpa using hi), fun i hi => by rw [World.frozen?_setCell]; exact h4 i (by simpa using hi)⟩⟩
end Go.K
namespace Go.Z
theorem MultiplyFormulas_ok {F G : Fm} (hF : isFormula F = true) (hG : isFormula G = true) : MultiplyFormulas F G = multiplied F G := by unfold MultiplyFormulas; rw [hF, hG]; rfl
/-- the sums, of the first k letters -/
def sumK (F G : Fm) (k : Nat) : List Int := (List.range 26).map (fun i => if i < k then sumF F G i else expo (bs F.nm) F.pw (97 + (i : Int)))
theorem sumK_length (F G : Fm) (k : Nat) : (sumK F G k).length = 26 := by simp [sumK]
theorem sumK_zero (F G : Fm) : sumK F G 0 = allOf F := by simp [sumK, allOf]
theorem sumK_get (F G : Fm) (k i : Nat) (h : i < 26) : (sumK F G k).getD i 0 = if i < k then sumF F G i else expo (bs F.nm) F.pw (97 + (i : Int)) := by simp [sumK, List.getD_eq_getElem?_getD, h]
theorem sumK_succ (F G : Fm) (k : Nat) (hk : k < 26) : sumK F G (k + 1) = (sumK F G k).set k (sumF F G k) := by
  apply List.ext_getElem
  · simp [sumK]
  · intro i hi hi'
    rw [List.getElem_set]
    simp only [sumK, List.getElem_map, List.getElem_range]
    by_cases h : k = i
    · subst h; simp
    · rw [if_neg h]
      by_cases h2 : i < k
      · rw [if_pos h2, if_pos (by omega)]
      · rw [if_neg h2, if_neg (by omega)]
theorem sumK_made (F G : Fm) (d t : Int) : made d t (fun i => (sumK F G 26).getD i 0) 26 = made d t (sumF F G) 26 := by
  apply made_congr
  intro i hi
  show (sumK F G 26).getD i 0 = _
  rw [sumK_get F G 26 i hi, if_pos hi]
end Go.Z
namespace Go.Proofs.Ythmnlbgbacbocaa
open Go.RowKit
set_option maxHeartbeats 6400000 in
theorem spec_MultiplyFormulas (F G : Z.Fm) {lo hi lo' hi' : Nat} {p q : Value} (w : World) (hm : F.pw.length ≤ 1048576) (hn : F.nm.size ≤ 1048576) (h : K.ints w lo hi p F.pw) (hm' : G.pw.length ≤ 1048576) (hn' : G.nm.size ≤ 1048576) (h' : K.ints w lo' hi' q G.pw) :
    Calls Try.prog 25 #[.agg #[.int .i64 F.dg, .int .i64 F.tn, .string F.nm, p], .agg #[.int .i64 G.dg, .int .i64 G.tn, .string G.nm, q]] w fun e w' => (∃ p', e = .returned (.tuple #[.agg #[.int .i64 ((Z.MultiplyFormulas F G).1).dg, .int .i64 ((Z.MultiplyFormulas F G).1).tn, .string ((Z.MultiplyFormulas F G).1).nm, p'], .int .i64 (Z.MultiplyFormulas F G).2]) ∧ K.ints w' w.heap.size w'.heap.size p' (Z.MultiplyFormulas F G).1.pw) ∧ K.Ext w w' := by
  have g1 := h
  obtain ⟨o, cap, rfl, _⟩ := g1
  have g2 := h'
  obtain ⟨o', cap', rfl, _⟩ := g2
  cases hF : Z.isFormula F
  · have HE : Hid (Z.MultiplyFormulas F G = (Z.zeroFm, 1)) := Z.hide (by unfold Z.MultiplyFormulas; rw [hF]; rfl)
    go_enter Try.func25, Try.ntmps25
    go_wp2_with ((go_at_call 91; refine K.call (by with_reducible rfl) (by with_reducible rfl) (spec_IsFormula F _ hm hn (h.ext (by repeat' (first | with_reducible exact K.Ext.refl _ | with_reducible assumption | with_reducible refine K.Ext.drew ?_ | with_reducible refine K.Ext.alloc ?_ _ | with_reducible refine K.Ext.setCell ?_ ?_ _ | with_reducible refine K.Ext.trans ?_ (by with_reducible assumption) | (dsimp only; omega) | omega | exact K.Ext.refl _ | assumption | apply K.Ext.drew | refine K.Ext.alloc ?_ _ | refine K.Ext.setCell ?_ ?_ _ | (simp; done) | (simp; omega) | refine K.Ext.trans ?_ (by assumption))))) ?_; rintro e w1 ⟨rfl, hw1⟩; obtain ⟨hcw1, hfw1⟩ := hw1.facts); have c_w1_0_0 : w1.cell? ⟨w.heap.size, 0, none⟩ = some (.int .i64 (F.dg)) := hw1.cell_of (by go_simp); have f_w1_0_0 : w1.frozen? ⟨w.heap.size, 0, none⟩ = false := hw1.thaw_of (by go_simp) (by go_simp); have c_w1_0_1 : w1.cell? ⟨w.heap.size, 1, none⟩ = some (.int .i64 (F.tn)) := hw1.cell_of (by go_simp); have f_w1_0_1 : w1.frozen? ⟨w.heap.size, 1, none⟩ = false := hw1.thaw_of (by go_simp) (by go_simp); have c_w1_0_2 : w1.cell? ⟨w.heap.size, 2, none⟩ = some (.string F.nm) := hw1.cell_of (by go_simp); have f_w1_0_2 : w1.frozen? ⟨w.heap.size, 2, none⟩ = false := hw1.thaw_of (by go_simp) (by go_simp); have c_w1_0_3 : w1.cell? ⟨w.heap.size, 3, none⟩ = some (.slice o F.pw.length cap) := hw1.cell_of (by go_simp); have f_w1_0_3 : w1.frozen? ⟨w.heap.size, 3, none⟩ = false := hw1.thaw_of (by go_simp) (by go_simp); have c_w1_1_0 : w1.cell? ⟨w.heap.size + 1, 0, none⟩ = some (.int .i64 (G.dg)) := hw1.cell_of (by go_simp); have f_w1_1_0 : w1.frozen? ⟨w.heap.size + 1, 0, none⟩ = false := hw1.thaw_of (by go_simp) (by go_simp); have c_w1_1_1 : w1.cell? ⟨w.heap.size + 1, 1, none⟩ = some (.int .i64 (G.tn)) := hw1.cell_of (by go_simp); have f_w1_1_1 : w1.frozen? ⟨w.heap.size + 1, 1, none⟩ = false := hw1.thaw_of (by go_simp) (by go_simp); have c_w1_1_2 : w1.cell? ⟨w.heap.size + 1, 2, none⟩ = some (.string G.nm) := hw1.cell_of (by go_simp); have f_w1_1_2 : w1.frozen? ⟨w.heap.size + 1, 2, none⟩ = false := hw1.thaw_of (by go_simp) (by go_simp); have c_w1_1_3 : w1.cell? ⟨w.heap.size + 1, 3, none⟩ = some (.slice o' G.pw.length cap') := hw1.cell_of (by go_simp); have f_w1_1_3 : w1.frozen? ⟨w.heap.size + 1, 3, none⟩ = false := hw1.thaw_of (by go_simp) (by go_simp); have c_w1_2_0 : w1.cell? ⟨w.heap.size + 1 + 1, 0, none⟩ = some (.int .i64 (0)) := hw1.cell_of (by go_simp); have f_w1_2_0 : w1.frozen? ⟨w.heap.size + 1 + 1, 0, none⟩ = false := hw1.thaw_of (by go_simp) (by go_simp); have c_w1_2_1 : w1.cell? ⟨w.heap.size + 1 + 1, 1, none⟩ = some (.int .i64 (0)) := hw1.cell_of (by go_simp); have f_w1_2_1 : w1.frozen? ⟨w.heap.size + 1 + 1, 1, none⟩ = false := hw1.thaw_of (by go_simp) (by go_simp); have c_w1_2_2 : w1.cell? ⟨w.heap.size + 1 + 1, 2, none⟩ = some (.string ⟨#[]⟩) := hw1.cell_of (by go_simp); have f_w1_2_2 : w1.frozen? ⟨w.heap.size + 1 + 1, 2, none⟩ = false := hw1.thaw_of (by go_simp) (by go_simp); have c_w1_2_3 : w1.cell? ⟨w.heap.size + 1 + 1, 3, none⟩ = some (.slice none 0 0) := hw1.cell_of (by go_simp); have f_w1_2_3 : w1.frozen? ⟨w.heap.size + 1 + 1, 3, none⟩ = false := hw1.thaw_of (by go_simp) (by go_simp))
    rw [HE.out]
    refine bodyPost_ret (v := .tuple #[.agg #[.int .i64 0, .int .i64 0, .string ⟨#[]⟩, .slice none 0 0], .int .i64 1]) (by unfold results; rw [Try.results25]; go_simp) rfl ⟨⟨_, rfl, K.ints_nil _ _ _⟩, ?_⟩
    repeat with_reducible refine K.Ext.setCell ?_ (by dsimp only; omega) _
    exact (by repeat' (first | with_reducible exact K.Ext.refl _ | with_reducible assumption | with_reducible refine K.Ext.drew ?_ | with_reducible refine K.Ext.alloc ?_ _ | with_reducible refine K.Ext.setCell ?_ ?_ _ | with_reducible refine K.Ext.trans ?_ (by with_reducible assumption) | (dsimp only; omega) | omega | exact K.Ext.refl _ | assumption | apply K.Ext.drew | refine K.Ext.alloc ?_ _ | refine K.Ext.setCell ?_ ?_ _ | (simp; done) | (simp; omega) | refine K.Ext.trans ?_ (by assumption)))
  · cases hG : Z.isFormula G
    · have HE : Hid (Z.MultiplyFormulas F G = (Z.zeroFm, 1)) := Z.hide (by unfold Z.MultiplyFormulas; rw [hF, hG]; rfl)
      go_enter Try.func25, Try.ntmps25
      go_wp2_with (first | ((go_at_call 91; refine K.call (by with_reducible rfl) (by with_reducible rfl) (spec_IsFormula F _ hm hn (h.ext (by repeat' (first | with_reducible exact K.Ext.refl _ | with_reducible assumption | with_reducible refine K.Ext.drew ?_ | with_reducible refine K.Ext.alloc ?_ _ | with_reducible refine K.Ext.setCell ?_ ?_ _ | with_reducible refine K.Ext.trans ?_ (by with_reducible assumption) | (dsimp only; omega) | omega | exact K.Ext.refl _ | assumption | apply K.Ext.drew | refine K.Ext.alloc ?_ _ | refine K.Ext.setCell ?_ ?_ _ | (simp; done) | (simp; omega) | refine K.Ext.trans ?_ (by assumption))))) ?_; rintro e w1 ⟨rfl, hw1⟩; obtain ⟨hcw1, hfw1⟩ := hw1.facts); have c_w1_0_0 : w1.cell? ⟨w.heap.size, 0, none⟩ = some (.int .i64 (F.dg)) := hw1.cell_of (by go_simp); have f_w1_0_0 : w1.frozen? ⟨w.heap.size, 0, none⟩ = false := hw1.thaw_of (by go_simp) (by go_simp); have c_w1_0_1 : w1.cell? ⟨w.heap.size, 1, none⟩ = some (.int .i64 (F.tn)) := hw1.cell_of (by go_simp); have f_w1_0_1 : w1.frozen? ⟨w.heap.size, 1, none⟩ = false := hw1.thaw_of (by go_simp) (by go_simp); have c_w1_0_2 : w1.cell? ⟨w.heap.size, 2, none⟩ = some (.string F.nm) := hw1.cell_of (by go_simp); have f_w1_0_2 : w1.frozen? ⟨w.heap.size, 2, none⟩ = false := hw1.thaw_of (by go_simp) (by go_simp); have c_w1_0_3 : w1.cell? ⟨w.heap.size, 3, none⟩ = some (.slice o F.pw.length cap) := hw1.cell_of (by go_simp); have f_w1_0_3 : w1.frozen? ⟨w.heap.size, 3, none⟩ = false := hw1.thaw_of (by go_simp) (by go_simp); have c_w1_1_0 : w1.cell? ⟨w.heap.size + 1, 0, none⟩ = some (.int .i64 (G.dg)) := hw1.cell_of (by go_simp); have f_w1_1_0 : w1.frozen? ⟨w.heap.size + 1, 0, none⟩ = false := hw1.thaw_of (by go_simp) (by go_simp); have c_w1_1_1 : w1.cell? ⟨w.heap.size + 1, 1, none⟩ = some (.int .i64 (G.tn)) := hw1.cell_of (by go_simp); have f_w1_1_1 : w1.frozen? ⟨w.heap.size + 1, 1, none⟩ = false := hw1.thaw_of (by go_simp) (by go_simp); have c_w1_1_2 : w1.cell? ⟨w.heap.size + 1, 2, none⟩ = some (.string G.nm) := hw1.cell_of (by go_simp); have f_w1_1_2 : w1.frozen? ⟨w.heap.size + 1, 2, none⟩ = false := hw1.thaw_of (by go_simp) (by go_simp); have c_w1_1_3 : w1.cell? ⟨w.heap.size + 1, 3, none⟩ = some (.slice o' G.pw.length cap') := hw1.cell_of (by go_simp); have f_w1_1_3 : w1.frozen? ⟨w.heap.size + 1, 3, none⟩ = false := hw1.thaw_of (by go_simp) (by go_simp); have c_w1_2_0 : w1.cell? ⟨w.heap.size + 1 + 1, 0, none⟩ = some (.int .i64 (0)) := hw1.cell_of (by go_simp); have f_w1_2_0 : w1.frozen? ⟨w.heap.size + 1 + 1, 0, none⟩ = false := hw1.thaw_of (by go_simp) (by go_simp); have c_w1_2_1 : w1.cell? ⟨w.heap.size + 1 + 1, 1, none⟩ = some (.int .i64 (0)) := hw1.cell_of (by go_simp); have f_w1_2_1 : w1.frozen? ⟨w.heap.size + 1 + 1, 1, none⟩ = false := hw1.thaw_of (by go_simp) (by go_simp); have c_w1_2_2 : w1.cell? ⟨w.heap.size + 1 + 1, 2, none⟩ = some (.string ⟨#[]⟩) := hw1.cell_of (by go_simp); have f_w1_2_2 : w1.frozen? ⟨w.heap.size + 1 + 1, 2, none⟩ = false := hw1.thaw_of (by go_simp) (by go_simp); have c_w1_2_3 : w1.cell? ⟨w.heap.size + 1 + 1, 3, none⟩ = some (.slice none 0 0) := hw1.cell_of (by go_simp); have f_w1_2_3 : w1.frozen? ⟨w.heap.size + 1 + 1, 3, none⟩ = false := hw1.thaw_of (by go_simp) (by go_simp)) | ((go_at_call 91; refine K.call (by with_reducible rfl) (by with_reducible rfl) (spec_IsFormula G _ hm' hn' (h'.ext (by repeat' (first | with_reducible exact K.Ext.refl _ | with_reducible assumption | with_reducible refine K.Ext.drew ?_ | with_reducible refine K.Ext.alloc ?_ _ | with_reducible refine K.Ext.setCell ?_ ?_ _ | with_reducible refine K.Ext.trans ?_ (by with_reducible assumption) | (dsimp only; omega) | omega | exact K.Ext.refl _ | assumption | apply K.Ext.drew | refine K.Ext.alloc ?_ _ | refine K.Ext.setCell ?_ ?_ _ | (simp; done) | (simp; omega) | refine K.Ext.trans ?_ (by assumption))))) ?_; rintro e w2 ⟨rfl, hw2⟩; obtain ⟨hcw2, hfw2⟩ := hw2.facts); have c_w2_0_0 : w2.cell? ⟨w.heap.size, 0, none⟩ = some (.int .i64 (F.dg)) := hw2.cell_of (by go_simp); have f_w2_0_0 : w2.frozen? ⟨w.heap.size, 0, none⟩ = false := hw2.thaw_of (by go_simp) (by go_simp); have c_w2_0_1 : w2.cell? ⟨w.heap.size, 1, none⟩ = some (.int .i64 (F.tn)) := hw2.cell_of (by go_simp); have f_w2_0_1 : w2.frozen? ⟨w.heap.size, 1, none⟩ = false := hw2.thaw_of (by go_simp) (by go_simp); have c_w2_0_2 : w2.cell? ⟨w.heap.size, 2, none⟩ = some (.string F.nm) := hw2.cell_of (by go_simp); have f_w2_0_2 : w2.frozen? ⟨w.heap.size, 2, none⟩ = false := hw2.thaw_of (by go_simp) (by go_simp); have c_w2_0_3 : w2.cell? ⟨w.heap.size, 3, none⟩ = some (.slice o F.pw.length cap) := hw2.cell_of (by go_simp); have f_w2_0_3 : w2.frozen? ⟨w.heap.size, 3, none⟩ = false := hw2.thaw_of (by go_simp) (by go_simp); have c_w2_1_0 : w2.cell? ⟨w.heap.size + 1, 0, none⟩ = some (.int .i64 (G.dg)) := hw2.cell_of (by go_simp); have f_w2_1_0 : w2.frozen? ⟨w.heap.size + 1, 0, none⟩ = false := hw2.thaw_of (by go_simp) (by go_simp); have c_w2_1_1 : w2.cell? ⟨w.heap.size + 1, 1, none⟩ = some (.int .i64 (G.tn)) := hw2.cell_of (by go_simp); have f_w2_1_1 : w2.frozen? ⟨w.heap.size + 1, 1, none⟩ = false := hw2.thaw_of (by go_simp) (by go_simp); have c_w2_1_2 : w2.cell? ⟨w.heap.size + 1, 2, none⟩ = some (.string G.nm) := hw2.cell_of (by go_simp); have f_w2_1_2 : w2.frozen? ⟨w.heap.size + 1, 2, none⟩ = false := hw2.thaw_of (by go_simp) (by go_simp); have c_w2_1_3 : w2.cell? ⟨w.heap.size + 1, 3, none⟩ = some (.slice o' G.pw.length cap') := hw2.cell_of (by go_simp); have f_w2_1_3 : w2.frozen? ⟨w.heap.size + 1, 3, none⟩ = false := hw2.thaw_of (by go_simp) (by go_simp); have c_w2_2_0 : w2.cell? ⟨w.heap.size + 1 + 1, 0, none⟩ = some (.int .i64 (0)) := hw2.cell_of (by go_simp); have f_w2_2_0 : w2.frozen? ⟨w.heap.size + 1 + 1, 0, none⟩ = false := hw2.thaw_of (by go_simp) (by go_simp); have c_w2_2_1 : w2.cell? ⟨w.heap.size + 1 + 1, 1, none⟩ = some (.int .i64 (0)) := hw2.cell_of (by go_simp); have f_w2_2_1 : w2.frozen? ⟨w.heap.size + 1 + 1, 1, none⟩ = false := hw2.thaw_of (by go_simp) (by go_simp); have c_w2_2_2 : w2.cell? ⟨w.heap.size + 1 + 1, 2, none⟩ = some (.string ⟨#[]⟩) := hw2.cell_of (by go_simp); have f_w2_2_2 : w2.frozen? ⟨w.heap.size + 1 + 1, 2, none⟩ = false := hw2.thaw_of (by go_simp) (by go_simp); have c_w2_2_3 : w2.cell? ⟨w.heap.size + 1 + 1, 3, none⟩ = some (.slice none 0 0) := hw2.cell_of (by go_simp); have f_w2_2_3 : w2.frozen? ⟨w.heap.size + 1 + 1, 3, none⟩ = false := hw2.thaw_of (by go_simp) (by go_simp)))
      rw [HE.out]
      refine bodyPost_ret (v := .tuple #[.agg #[.int .i64 0, .int .i64 0, .string ⟨#[]⟩, .slice none 0 0], .int .i64 1]) (by unfold results; rw [Try.results25]; go_simp) rfl ⟨⟨_, rfl, K.ints_nil _ _ _⟩, ?_⟩
      repeat with_reducible refine K.Ext.setCell ?_ (by dsimp only; omega) _
      exact (by repeat' (first | with_reducible exact K.Ext.refl _ | with_reducible assumption | with_reducible refine K.Ext.drew ?_ | with_reducible refine K.Ext.alloc ?_ _ | with_reducible refine K.Ext.setCell ?_ ?_ _ | with_reducible refine K.Ext.trans ?_ (by with_reducible assumption) | (dsimp only; omega) | omega | exact K.Ext.refl _ | assumption | apply K.Ext.drew | refine K.Ext.alloc ?_ _ | refine K.Ext.setCell ?_ ?_ _ | (simp; done) | (simp; omega) | refine K.Ext.trans ?_ (by assumption)))
    · obtain ⟨r, hr⟩ : ∃ r, r = Z.MultiplyFigures (F.dg, F.tn) (G.dg, G.tn) := ⟨_, rfl⟩
      have HM : ∀ w' : World, Calls Try.prog 101 #[.agg #[.int .i64 F.dg, .int .i64 F.tn], .agg #[.int .i64 G.dg, .int .i64 G.tn]] w' fun e w'' => e = .returned (.tuple #[.agg #[.int .i64 r.1.1, .int .i64 r.1.2], .int .i64 r.2]) ∧ K.Ext w' w'' := fun w' => by rw [hr]; exact spec_MultiplyFigures (F.dg, F.tn) (G.dg, G.tn) w'
      have HF := Z.hide hF
      have HG := Z.hide hG
      by_cases hz : r.2 = 0
      · have HE : Hid (Z.MultiplyFormulas F G = Z.fmOr (Z.made r.1.1 r.1.2 (Z.sumF F G) 26)) := Z.hide (by rw [Z.MultiplyFormulas_ok hF hG]; unfold Z.multiplied; rw [← hr, if_pos hz]; rfl)
        clear hr
        go_enter Try.func25, Try.ntmps25
        go_wp2_with (first | ((go_at_call 91; refine K.call (by with_reducible rfl) (by with_reducible rfl) (spec_IsFormula F _ hm hn (h.ext (by repeat' (first | with_reducible exact K.Ext.refl _ | with_reducible assumption | with_reducible refine K.Ext.drew ?_ | with_reducible refine K.Ext.alloc ?_ _ | with_reducible refine K.Ext.setCell ?_ ?_ _ | with_reducible refine K.Ext.trans ?_ (by with_reducible assumption) | (dsimp only; omega) | omega | exact K.Ext.refl _ | assumption | apply K.Ext.drew | refine K.Ext.alloc ?_ _ | refine K.Ext.setCell ?_ ?_ _ | (simp; done) | (simp; omega) | refine K.Ext.trans ?_ (by assumption))))) ?_; rintro e w1 ⟨rfl, hw1⟩; obtain ⟨hcw1, hfw1⟩ := hw1.facts); have c_w1_0_0 : w1.cell? ⟨w.heap.size, 0, none⟩ = some (.int .i64 (F.dg)) := hw1.cell_of (by go_simp); have f_w1_0_0 : w1.frozen? ⟨w.heap.size, 0, none⟩ = false := hw1.thaw_of (by go_simp) (by go_simp); have c_w1_0_1 : w1.cell? ⟨w.heap.size, 1, none⟩ = some (.int .i64 (F.tn)) := hw1.cell_of (by go_simp); have f_w1_0_1 : w1.frozen? ⟨w.heap.size, 1, none⟩ = false := hw1.thaw_of (by go_simp) (by go_simp); have c_w1_0_2 : w1.cell? ⟨w.heap.size, 2, none⟩ = some (.string F.nm) := hw1.cell_of (by go_simp); have f_w1_0_2 : w1.frozen? ⟨w.heap.size, 2, none⟩ = false := hw1.thaw_of (by go_simp) (by go_simp); have c_w1_0_3 : w1.cell? ⟨w.heap.size, 3, none⟩ = some (.slice o F.pw.length cap) := hw1.cell_of (by go_simp); have f_w1_0_3 : w1.frozen? ⟨w.heap.size, 3, none⟩ = false := hw1.thaw_of (by go_simp) (by go_simp); have c_w1_1_0 : w1.cell? ⟨w.heap.size + 1, 0, none⟩ = some (.int .i64 (G.dg)) := hw1.cell_of (by go_simp); have f_w1_1_0 : w1.frozen? ⟨w.heap.size + 1, 0, none⟩ = false := hw1.thaw_of (by go_simp) (by go_simp); have c_w1_1_1 : w1.cell? ⟨w.heap.size + 1, 1, none⟩ = some (.int .i64 (G.tn)) := hw1.cell_of (by go_simp); have f_w1_1_1 : w1.frozen? ⟨w.heap.size + 1, 1, none⟩ = false := hw1.thaw_of (by go_simp) (by go_simp); have c_w1_1_2 : w1.cell? ⟨w.heap.size + 1, 2, none⟩ = some (.string G.nm) := hw1.cell_of (by go_simp); have f_w1_1_2 : w1.frozen? ⟨w.heap.size + 1, 2, none⟩ = false := hw1.thaw_of (by go_simp) (by go_simp); have c_w1_1_3 : w1.cell? ⟨w.heap.size + 1, 3, none⟩ = some (.slice o' G.pw.length cap') := hw1.cell_of (by go_simp); have f_w1_1_3 : w1.frozen? ⟨w.heap.size + 1, 3, none⟩ = false := hw1.thaw_of (by go_simp) (by go_simp); have c_w1_2_0 : w1.cell? ⟨w.heap.size + 1 + 1, 0, none⟩ = some (.int .i64 (0)) := hw1.cell_of (by go_simp); have f_w1_2_0 : w1.frozen? ⟨w.heap.size + 1 + 1, 0, none⟩ = false := hw1.thaw_of (by go_simp) (by go_simp); have c_w1_2_1 : w1.cell? ⟨w.heap.size + 1 + 1, 1, none⟩ = some (.int .i64 (0)) := hw1.cell_of (by go_simp); have f_w1_2_1 : w1.frozen? ⟨w.heap.size + 1 + 1, 1, none⟩ = false := hw1.thaw_of (by go_simp) (by go_simp); have c_w1_2_2 : w1.cell? ⟨w.heap.size + 1 + 1, 2, none⟩ = some (.string ⟨#[]⟩) := hw1.cell_of (by go_simp); have f_w1_2_2 : w1.frozen? ⟨w.heap.size + 1 + 1, 2, none⟩ = false := hw1.thaw_of (by go_simp) (by go_simp); have c_w1_2_3 : w1.cell? ⟨w.heap.size + 1 + 1, 3, none⟩ = some (.slice none 0 0) := hw1.cell_of (by go_simp); have f_w1_2_3 : w1.frozen? ⟨w.heap.size + 1 + 1, 3, none⟩ = false := hw1.thaw_of (by go_simp) (by go_simp)) | ((go_at_call 91; refine K.call (by with_reducible rfl) (by with_reducible rfl) (spec_IsFormula G _ hm' hn' (h'.ext (by repeat' (first | with_reducible exact K.Ext.refl _ | with_reducible assumption | with_reducible refine K.Ext.drew ?_ | with_reducible refine K.Ext.alloc ?_ _ | with_reducible refine K.Ext.setCell ?_ ?_ _ | with_reducible refine K.Ext.trans ?_ (by with_reducible assumption) | (dsimp only; omega) | omega | exact K.Ext.refl _ | assumption | apply K.Ext.drew | refine K.Ext.alloc ?_ _ | refine K.Ext.setCell ?_ ?_ _ | (simp; done) | (simp; omega) | refine K.Ext.trans ?_ (by assumption))))) ?_; rintro e w2 ⟨rfl, hw2⟩; obtain ⟨hcw2, hfw2⟩ := hw2.facts); have c_w2_0_0 : w2.cell? ⟨w.heap.size, 0, none⟩ = some (.int .i64 (F.dg)) := hw2.cell_of (by go_simp); have f_w2_0_0 : w2.frozen? ⟨w.heap.size, 0, none⟩ = false := hw2.thaw_of (by go_simp) (by go_simp); have c_w2_0_1 : w2.cell? ⟨w.heap.size, 1, none⟩ = some (.int .i64 (F.tn)) := hw2.cell_of (by go_simp); have f_w2_0_1 : w2.frozen? ⟨w.heap.size, 1, none⟩ = false := hw2.thaw_of (by go_simp) (by go_simp); have c_w2_0_2 : w2.cell? ⟨w.heap.size, 2, none⟩ = some (.string F.nm) := hw2.cell_of (by go_simp); have f_w2_0_2 : w2.frozen? ⟨w.heap.size, 2, none⟩ = false := hw2.thaw_of (by go_simp) (by go_simp); have c_w2_0_3 : w2.cell? ⟨w.heap.size, 3, none⟩ = some (.slice o F.pw.length cap) := hw2.cell_of (by go_simp); have f_w2_0_3 : w2.frozen? ⟨w.heap.size, 3, none⟩ = false := hw2.thaw_of (by go_simp) (by go_simp); have c_w2_1_0 : w2.cell? ⟨w.heap.size + 1, 0, none⟩ = some (.int .i64 (G.dg)) := hw2.cell_of (by go_simp); have f_w2_1_0 : w2.frozen? ⟨w.heap.size + 1, 0, none⟩ = false := hw2.thaw_of (by go_simp) (by go_simp); have c_w2_1_1 : w2.cell? ⟨w.heap.size + 1, 1, none⟩ = some (.int .i64 (G.tn)) := hw2.cell_of (by go_simp); have f_w2_1_1 : w2.frozen? ⟨w.heap.size + 1, 1, none⟩ = false := hw2.thaw_of (by go_simp) (by go_simp); have c_w2_1_2 : w2.cell? ⟨w.heap.size + 1, 2, none⟩ = some (.string G.nm) := hw2.cell_of (by go_simp); have f_w2_1_2 : w2.frozen? ⟨w.heap.size + 1, 2, none⟩ = false := hw2.thaw_of (by go_simp) (by go_simp); have c_w2_1_3 : w2.cell? ⟨w.heap.size + 1, 3, none⟩ = some (.slice o' G.pw.length cap') := hw2.cell_of (by go_simp); have f_w2_1_3 : w2.frozen? ⟨w.heap.size + 1, 3, none⟩ = false := hw2.thaw_of (by go_simp) (by go_simp); have c_w2_2_0 : w2.cell? ⟨w.heap.size + 1 + 1, 0, none⟩ = some (.int .i64 (0)) := hw2.cell_of (by go_simp); have f_w2_2_0 : w2.frozen? ⟨w.heap.size + 1 + 1, 0, none⟩ = false := hw2.thaw_of (by go_simp) (by go_simp); have c_w2_2_1 : w2.cell? ⟨w.heap.size + 1 + 1, 1, none⟩ = some (.int .i64 (0)) := hw2.cell_of (by go_simp); have f_w2_2_1 : w2.frozen? ⟨w.heap.size + 1 + 1, 1, none⟩ = false := hw2.thaw_of (by go_simp) (by go_simp); have c_w2_2_2 : w2.cell? ⟨w.heap.size + 1 + 1, 2, none⟩ = some (.string ⟨#[]⟩) := hw2.cell_of (by go_simp); have f_w2_2_2 : w2.frozen? ⟨w.heap.size + 1 + 1, 2, none⟩ = false := hw2.thaw_of (by go_simp) (by go_simp); have c_w2_2_3 : w2.cell? ⟨w.heap.size + 1 + 1, 3, none⟩ = some (.slice none 0 0) := hw2.cell_of (by go_simp); have f_w2_2_3 : w2.frozen? ⟨w.heap.size + 1 + 1, 3, none⟩ = false := hw2.thaw_of (by go_simp) (by go_simp)) | ((go_at_call 101; refine K.call (by with_reducible rfl) (by with_reducible rfl) (HM _) ?_; rintro e w3 ⟨rfl, hw3⟩; obtain ⟨hcw3, hfw3⟩ := hw3.facts); have c_w3_0_0 : w3.cell? ⟨w.heap.size, 0, none⟩ = some (.int .i64 (F.dg)) := hw3.cell_of (by go_simp); have f_w3_0_0 : w3.frozen? ⟨w.heap.size, 0, none⟩ = false := hw3.thaw_of (by go_simp) (by go_simp); have c_w3_0_1 : w3.cell? ⟨w.heap.size, 1, none⟩ = some (.int .i64 (F.tn)) := hw3.cell_of (by go_simp); have f_w3_0_1 : w3.frozen? ⟨w.heap.size, 1, none⟩ = false := hw3.thaw_of (by go_simp) (by go_simp); have c_w3_0_2 : w3.cell? ⟨w.heap.size, 2, none⟩ = some (.string F.nm) := hw3.cell_of (by go_simp); have f_w3_0_2 : w3.frozen? ⟨w.heap.size, 2, none⟩ = false := hw3.thaw_of (by go_simp) (by go_simp); have c_w3_0_3 : w3.cell? ⟨w.heap.size, 3, none⟩ = some (.slice o F.pw.length cap) := hw3.cell_of (by go_simp); have f_w3_0_3 : w3.frozen? ⟨w.heap.size, 3, none⟩ = false := hw3.thaw_of (by go_simp) (by go_simp); have c_w3_1_0 : w3.cell? ⟨w.heap.size + 1, 0, none⟩ = some (.int .i64 (G.dg)) := hw3.cell_of (by go_simp); have f_w3_1_0 : w3.frozen? ⟨w.heap.size + 1, 0, none⟩ = false := hw3.thaw_of (by go_simp) (by go_simp); have c_w3_1_1 : w3.cell? ⟨w.heap.size + 1, 1, none⟩ = some (.int .i64 (G.tn)) := hw3.cell_of (by go_simp); have f_w3_1_1 : w3.frozen? ⟨w.heap.size + 1, 1, none⟩ = false := hw3.thaw_of (by go_simp) (by go_simp); have c_w3_1_2 : w3.cell? ⟨w.heap.size + 1, 2, none⟩ = some (.string G.nm) := hw3.cell_of (by go_simp); have f_w3_1_2 : w3.frozen? ⟨w.heap.size + 1, 2, none⟩ = false := hw3.thaw_of (by go_simp) (by go_simp); have c_w3_1_3 : w3.cell? ⟨w.heap.size + 1, 3, none⟩ = some (.slice o' G.pw.length cap') := hw3.cell_of (by go_simp); have f_w3_1_3 : w3.frozen? ⟨w.heap.size + 1, 3, none⟩ = false := hw3.thaw_of (by go_simp) (by go_simp); have c_w3_2_0 : w3.cell? ⟨w.heap.size + 1 + 1, 0, none⟩ = some (.int .i64 (0)) := hw3.cell_of (by go_simp); have f_w3_2_0 : w3.frozen? ⟨w.heap.size + 1 + 1, 0, none⟩ = false := hw3.thaw_of (by go_simp) (by go_simp); have c_w3_2_1 : w3.cell? ⟨w.heap.size + 1 + 1, 1, none⟩ = some (.int .i64 (0)) := hw3.cell_of (by go_simp); have f_w3_2_1 : w3.frozen? ⟨w.heap.size + 1 + 1, 1, none⟩ = false := hw3.thaw_of (by go_simp) (by go_simp); have c_w3_2_2 : w3.cell? ⟨w.heap.size + 1 + 1, 2, none⟩ = some (.string ⟨#[]⟩) := hw3.cell_of (by go_simp); have f_w3_2_2 : w3.frozen? ⟨w.heap.size + 1 + 1, 2, none⟩ = false := hw3.thaw_of (by go_simp) (by go_simp); have c_w3_2_3 : w3.cell? ⟨w.heap.size + 1 + 1, 3, none⟩ = some (.slice none 0 0) := hw3.cell_of (by go_simp); have f_w3_2_3 : w3.frozen? ⟨w.heap.size + 1 + 1, 3, none⟩ = false := hw3.thaw_of (by go_simp) (by go_simp); have z3 : w.heap.size + 3 ≤ w3.heap.size := (by have h1 := hw1.size; have h2 := hw2.size; have h3 := hw3.size; simp at h1 h2 h3; omega)))
        have z5 : w.heap.size + 1 + 1 < w3.heap.size := (by omega)
        have z6 : w.heap.size + 1 < w3.heap.size := (by omega)
        have z7 : w.heap.size < w3.heap.size := (by omega)
        have y5 : ¬ (w.heap.size + 1 + 1 = w3.heap.size) := (by omega)
        have y6 : ¬ (w.heap.size + 1 = w3.heap.size) := (by omega)
        have y7 : ¬ (w.heap.size = w3.heap.size) := (by omega)
        go_region_with (first | ((go_at_call 102; refine K.call (by with_reducible rfl) (by with_reducible rfl) (l18All_any F _ HF.out (h.ext (by repeat' (first | with_reducible exact K.Ext.refl _ | with_reducible assumption | with_reducible refine K.Ext.drew ?_ | with_reducible refine K.Ext.alloc ?_ _ | with_reducible refine K.Ext.setCell ?_ ?_ _ | with_reducible refine K.Ext.trans ?_ (by with_reducible assumption) | (dsimp only; omega) | omega | exact K.Ext.refl _ | assumption | apply K.Ext.drew | refine K.Ext.alloc ?_ _ | refine K.Ext.setCell ?_ ?_ _ | (simp; done) | (simp; omega) | refine K.Ext.trans ?_ (by assumption))))) ?_; rintro e w4 ⟨⟨v4, rfl, hv4⟩, hw4⟩; obtain ⟨hcw4, hfw4⟩ := hw4.facts; have s4 := hv4; obtain ⟨o4, c4, rfl, _⟩ := s4); have c_w4_1_0 : w4.cell? ⟨w.heap.size + 1, 0, none⟩ = some (.int .i64 (G.dg)) := hw4.cell_of (by go_simp); have f_w4_1_0 : w4.frozen? ⟨w.heap.size + 1, 0, none⟩ = false := hw4.thaw_of (by go_simp) (by go_simp); have c_w4_1_1 : w4.cell? ⟨w.heap.size + 1, 1, none⟩ = some (.int .i64 (G.tn)) := hw4.cell_of (by go_simp); have f_w4_1_1 : w4.frozen? ⟨w.heap.size + 1, 1, none⟩ = false := hw4.thaw_of (by go_simp) (by go_simp); have c_w4_1_2 : w4.cell? ⟨w.heap.size + 1, 2, none⟩ = some (.string G.nm) := hw4.cell_of (by go_simp); have f_w4_1_2 : w4.frozen? ⟨w.heap.size + 1, 2, none⟩ = false := hw4.thaw_of (by go_simp) (by go_simp); have c_w4_1_3 : w4.cell? ⟨w.heap.size + 1, 3, none⟩ = some (.slice o' G.pw.length cap') := hw4.cell_of (by go_simp); have f_w4_1_3 : w4.frozen? ⟨w.heap.size + 1, 3, none⟩ = false := hw4.thaw_of (by go_simp) (by go_simp); have c_w4_2_0 : w4.cell? ⟨w.heap.size + 1 + 1, 0, none⟩ = some (.int .i64 (0)) := hw4.cell_of (by go_simp); have f_w4_2_0 : w4.frozen? ⟨w.heap.size + 1 + 1, 0, none⟩ = false := hw4.thaw_of (by go_simp) (by go_simp); have c_w4_2_1 : w4.cell? ⟨w.heap.size + 1 + 1, 1, none⟩ = some (.int .i64 (0)) := hw4.cell_of (by go_simp); have f_w4_2_1 : w4.frozen? ⟨w.heap.size + 1 + 1, 1, none⟩ = false := hw4.thaw_of (by go_simp) (by go_simp); have c_w4_2_2 : w4.cell? ⟨w.heap.size + 1 + 1, 2, none⟩ = some (.string ⟨#[]⟩) := hw4.cell_of (by go_simp); have f_w4_2_2 : w4.frozen? ⟨w.heap.size + 1 + 1, 2, none⟩ = false := hw4.thaw_of (by go_simp) (by go_simp); have c_w4_2_3 : w4.cell? ⟨w.heap.size + 1 + 1, 3, none⟩ = some (.slice none 0 0) := hw4.cell_of (by go_simp); have f_w4_2_3 : w4.frozen? ⟨w.heap.size + 1 + 1, 3, none⟩ = false := hw4.thaw_of (by go_simp) (by go_simp)) | ((go_at_call 102; refine K.call (by with_reducible rfl) (by with_reducible rfl) (l18All_any G _ HG.out (h'.ext (by repeat' (first | with_reducible exact K.Ext.refl _ | with_reducible assumption | with_reducible refine K.Ext.drew ?_ | with_reducible refine K.Ext.alloc ?_ _ | with_reducible refine K.Ext.setCell ?_ ?_ _ | with_reducible refine K.Ext.trans ?_ (by with_reducible assumption) | (dsimp only; omega) | omega | exact K.Ext.refl _ | assumption | apply K.Ext.drew | refine K.Ext.alloc ?_ _ | refine K.Ext.setCell ?_ ?_ _ | (simp; done) | (simp; omega) | refine K.Ext.trans ?_ (by assumption))))) ?_; rintro e w5 ⟨⟨v5, rfl, hv5⟩, hw5⟩; obtain ⟨hcw5, hfw5⟩ := hw5.facts; have s5 := hv5; obtain ⟨o5, c5, rfl, _⟩ := s5)))
        all_goals
          have hA : K.own w5 (w3.heap.size + 1) w4.heap.size (.slice o4 (Z.allOf F).length c4) (Z.allOf F) := K.own.ext (hv4.mono (by simp) (Nat.le_refl _)) hw5
          have hB : K.ints w5 w4.heap.size w5.heap.size (.slice o5 (Z.allOf G).length c5) (Z.allOf G) := K.own.ints (hv5.mono (by simp) (Nat.le_refl _))
          have r2 : w5.heap[w.heap.size + 1 + 1]? = some (.cells #[.int .i64 0, .int .i64 0, .string ⟨#[]⟩, .slice none 0 0] 32) := by
            refine K.Ext.block_of (K.Ext.block_of ?_ hw4) hw5
            refine K.Ext.block_of ?_ (((K.Ext.refl _).alloc _).drew)
            exact K.Ext.block_of (K.Ext.block_of (K.Ext.block_of (K.block_new (by simp)) hw1) hw2) hw3
          have r3 : w5.heap[w3.heap.size]? = some (.cells #[.int .i64 r.1.1, .int .i64 r.1.2] 30) := by
            refine K.Ext.block_of (K.Ext.block_of ?_ hw4) hw5
            exact K.Ext.block_of (K.block_new rfl) ((K.Ext.refl _).drew)
          simp only [Z.allOf_length] at hA hB ⊢
          have HA := Z.hide hA
          have HB := Z.hide hB
          have R2 := Z.hide r2
          have R3 := Z.hide r3
          have HW : Hid (K.Ext w w5) := Z.hide (by repeat' (first | with_reducible exact K.Ext.refl _ | with_reducible assumption | with_reducible refine K.Ext.drew ?_ | with_reducible refine K.Ext.alloc ?_ _ | with_reducible refine K.Ext.setCell ?_ ?_ _ | with_reducible refine K.Ext.trans ?_ (by with_reducible assumption) | (dsimp only; omega) | omega | exact K.Ext.refl _ | assumption | apply K.Ext.drew | refine K.Ext.alloc ?_ _ | refine K.Ext.setCell ?_ ?_ _ | (simp; done) | (simp; omega) | refine K.Ext.trans ?_ (by assumption)))
          clear hA hB r2 r3 hv4 hv5 hw4 hw5 hcw4 hfw4 hcw5 hfw5 HM
          go_wp2_with fail
          go_loopw [10] (fun i wr => ∃ k : Nat, k ≤ 26 ∧ i = .int .i64 k ∧ Hid (K.own wr (w3.heap.size + 1) w4.heap.size (.slice o4 26 c4) (Z.sumK F G k)) ∧ Hid (K.ints wr w4.heap.size w5.heap.size (.slice o5 26 c5) (Z.allOf G)) ∧ Hid (K.Ext w wr) ∧ Hid (wr.heap[w.heap.size + 1 + 1]? = some (.cells #[.int .i64 0, .int .i64 0, .string ⟨#[]⟩, .slice none 0 0] 32)) ∧ Hid (wr.heap[w3.heap.size]? = some (.cells #[.int .i64 r.1.1, .int .i64 r.1.2] 30))) (fun i _ => 26 - (intOf i).toNat)
          case atStart => exact ⟨0, Nat.zero_le _, rfl, Z.hide (by rw [Z.sumK_zero]; exact HA.out), HB, HW, R2, R3⟩
          case round =>
            obtain ⟨k, hk, rfl, HA1, HB1, HX1, C2, C3⟩ := hrel
            clear HA HB R2 R3 HW
            have k0 : (0 : Int) ≤ (k : Int) := Int.natCast_nonneg k
            by_cases hlt : k < 26
            · have k1 : (k : Int) < 26 := by omega
              obtain ⟨b, off, rfl, b1, b2, bc, bf⟩ := K.own_at HA1.out (by rw [Z.sumK_length]; decide)
              obtain ⟨b', off', rfl, b1', b2', bc'⟩ := K.ints_at HB1.out (by rw [Z.allOf_length]; decide)
              have hca := bc k (by rw [Z.sumK_length]; exact hlt)
              have hfa := bf k (by rw [Z.sumK_length]; exact hlt)
              have hcb := bc' k (by rw [Z.allOf_length]; exact hlt)
              rw [Z.sumK_get _ _ _ _ hlt, if_neg (Nat.lt_irrefl k)] at hca
              rw [Z.allOf_get _ _ hlt] at hcb
              obtain ⟨x1, x2⟩ := Z.expo_6 HF.out (97 + (k : Int))
              obtain ⟨y1, y2⟩ := Z.expo_6 HG.out (97 + (k : Int))
              have HS : Hid (Z.sumK F G (k + 1) = (Z.sumK F G k).set k (Z.expo (Z.bs F.nm) F.pw (97 + (k : Int)) + Z.expo (Z.bs G.nm) G.pw (97 + (k : Int)))) := Z.hide (Z.sumK_succ F G k hlt)
              have HL := Z.hide (Z.sumK_length F G k)
              clear bc bf bc'
              generalize Z.expo (Z.bs F.nm) F.pw (97 + (k : Int)) = x at *
              generalize Z.expo (Z.bs G.nm) G.pw (97 + (k : Int)) = y at *
              have q1 : IntKind.i64.wrap (x + y) = x + y := IntWalk.i64_in _ (by omega)
              go_wp2_with fail
              refine K.wp_region_x 12 [0, 0, 0, 0, 0, 1, 0, 0, 0, 1, 0, 0] [] (by kernel_rfl) (by kernel_rfl) ?_
              simp only [List.take_succ_cons, List.take_zero, List.drop_succ_cons, List.drop_zero]
              iterate 5
                apply K.x_pure
                · rfl
                · rfl
                · intro w'; go_simp; first | done | exact K.vint (IntWalk.i64_in _ (by omega)) | rfl | exact ⟨rfl, rfl⟩
                simp only [Act.put, List.setIfInBounds_toArray, List.set]
              apply K.x_held
              · rfl
              · rfl
              · intro w' hx; have hc := hx.all.1.1; have hf := hx.all.1.2; have hc' := hx.all.2.1; have hf' := hx.all.2.2; go_simp; first | done | rfl | exact ⟨rfl, rfl⟩
              simp only [Act.put, List.setIfInBounds_toArray, List.set]
              iterate 3
                apply K.x_pure
                · rfl
                · rfl
                · intro w'; go_simp; first | done | exact K.vint (IntWalk.i64_in _ (by omega)) | rfl | exact ⟨rfl, rfl⟩
                simp only [Act.put, List.setIfInBounds_toArray, List.set]
              apply K.x_held
              · rfl
              · rfl
              · intro w' hx; have hc := hx.all.1.1; have hf := hx.all.1.2; have hc' := hx.all.2.1; have hf' := hx.all.2.2; go_simp; first | done | rfl | exact ⟨rfl, rfl⟩
              simp only [Act.put, List.setIfInBounds_toArray, List.set]
              iterate 2
                apply K.x_pure
                · rfl
                · rfl
                · intro w'; go_simp; first | done | exact K.vint (IntWalk.i64_in _ (by omega)) | rfl | exact ⟨rfl, rfl⟩
                simp only [Act.put, List.setIfInBounds_toArray, List.set]
              apply K.x_done
              intro w6 h_x
              have hx6 := K.Ext.id h_x
              clear h_x
              obtain ⟨⟨hcw6, hfw6⟩, hc'w6, hf'w6⟩ := hx6.all
              go_wp2_with fail
              refine NoPanic.normal ?_
              have lb : b < w6.heap.size := by have h1 := hx6.size; have h2 := World.block_lt_of_cell? wr _ hca; simp at h1 h2; omega
              have HT := Z.hide (K.own_setAt (x := x + y) (k := k) (by rw [HL.out]; exact hlt) (K.own.ext (K.own.drew HA1.out) hx6))
              have HBT : Hid (K.ints (w6.setCell ⟨b, off + k, none⟩ (.int .i64 (x + y))) w4.heap.size w5.heap.size (.slice (some ⟨b', off', none⟩) 26 c5) (Z.allOf G)) := Z.hide (K.ints.set (K.ints.ext (K.ints.drew HB1.out) hx6) _ (.inl b2) _)
              have HXT : Hid (K.Ext w (w6.setCell ⟨b, off + k, none⟩ (.int .i64 (x + y)))) := Z.hide (K.Ext.setCell (K.Ext.trans HX1.out.drew hx6) (by dsimp only; omega) _)
              have D2 : Hid ((w6.setCell ⟨b, off + k, none⟩ (.int .i64 (x + y))).heap[w.heap.size + 1 + 1]? = some (.cells #[.int .i64 0, .int .i64 0, .string ⟨#[]⟩, .slice none 0 0] 32)) := Z.hide ((K.set_block (by dsimp only; omega)).trans (K.Ext.block_of (K.Ext.block_of C2.out (K.Ext.refl _).drew) hx6))
              have D3 : Hid ((w6.setCell ⟨b, off + k, none⟩ (.int .i64 (x + y))).heap[w3.heap.size]? = some (.cells #[.int .i64 r.1.1, .int .i64 r.1.2] 30)) := Z.hide ((K.set_block (by dsimp only; omega)).trans (K.Ext.block_of (K.Ext.block_of C3.out (K.Ext.refl _).drew) hx6))
              go_wp2
              go_roundw
              case rel => exact ⟨k + 1, by omega, by go_num, Z.hide (by rw [HS.out]; exact HT.out), HBT, HXT, D2, D3⟩
              case measure => simp [intOf]; omega
            · obtain rfl : k = 26 := by omega
              have f0 : wr.cell? ⟨w3.heap.size, 0, none⟩ = some (.int .i64 r.1.1) := K.cell_at C3.out rfl
              have f1 : wr.cell? ⟨w3.heap.size, 1, none⟩ = some (.int .i64 r.1.2) := K.cell_at C3.out rfl
              obtain ⟨M, HMM⟩ : ∃ M, M = Z.made r.1.1 r.1.2 (Z.sumF F G) 26 := ⟨_, rfl⟩
              have HK : Calls Try.prog 104 #[.agg #[.int .i64 r.1.1, .int .i64 r.1.2], .slice o4 26 c4] wr fun e w' => (∃ p', e = .returned (.agg #[.int .i64 M.dg, .int .i64 M.tn, .string M.nm, p']) ∧ K.own w' wr.heap.size w'.heap.size p' M.pw) ∧ K.Ext wr w' := by
                have hk := l18Make_any r.1.1 r.1.2 (Z.sumK F G 26) wr (Z.sumK_length F G 26) (K.own.ints HA1.out)
                rw [Z.sumK_made] at hk
                rw [HMM]
                exact hk
              have hle : M.pw.length ≤ 1048576 ∧ M.nm.size ≤ 1048576 := by rw [HMM]; exact Z.made_le _ _ _
              have HL := Z.hide hle
              rw [← HMM] at HE
              clear HMM hle HA1 HB1
              obtain ⟨N, HN⟩ : ∃ N, N = Z.fmOr M := ⟨_, rfl⟩
              have HR : ∀ {lo hi : Nat} {p : Value} (w : World), K.ints w lo hi p M.pw → Calls Try.prog 103 #[.agg #[.int .i64 M.dg, .int .i64 M.tn, .string M.nm, p]] w fun e w' => (∃ p', e = .returned (.tuple #[.agg #[.int .i64 N.1.dg, .int .i64 N.1.tn, .string N.1.nm, p'], .int .i64 N.2]) ∧ K.ints w' lo hi p' N.1.pw) ∧ K.Ext w w' := fun w hh => by rw [HN]; exact l18Result_any M w HL.out.1 HL.out.2 hh
              rw [← HN] at HE
              clear HN
              go_wp2_with (first | ((go_at_call 104; refine K.call (by with_reducible rfl) (by with_reducible rfl) (HK) ?_; rintro e w6 ⟨⟨p6, rfl, hp6⟩, hw6⟩; have E2 := Z.hide (K.Ext.block_of C2.out hw6); have hp7 := hp6; obtain ⟨o6, c6, rfl, _⟩ := hp7)) | ((go_at_call 103; refine K.call (by with_reducible rfl) (by with_reducible rfl) (HR _ (K.own.ints hp6)) ?_; rintro e w7 ⟨⟨p7, rfl, hp7⟩, hw7⟩; have hp8 := hp7; obtain ⟨o7, c7, rfl, _⟩ := hp8; have G2 := K.Ext.block_of E2.out hw7; have lw2 : w.heap.size + 1 + 1 < w7.heap.size := (Array.getElem?_eq_some_iff.1 G2).1; have r0 : w7.cell? ⟨w.heap.size + 1 + 1, 0, none⟩ = some (.int .i64 0) := K.cell_at G2 rfl; have r1 : w7.cell? ⟨w.heap.size + 1 + 1, 1, none⟩ = some (.int .i64 0) := K.cell_at G2 rfl; have r2 : w7.cell? ⟨w.heap.size + 1 + 1, 2, none⟩ = some (.string ⟨#[]⟩) := K.cell_at G2 rfl; have r3 : w7.cell? ⟨w.heap.size + 1 + 1, 3, none⟩ = some (.slice none 0 0) := K.cell_at G2 rfl; have t0 : w7.frozen? ⟨w.heap.size + 1 + 1, 0, none⟩ = false := K.thaw_at G2; have t1 : w7.frozen? ⟨w.heap.size + 1 + 1, 1, none⟩ = false := K.thaw_at G2; have t2 : w7.frozen? ⟨w.heap.size + 1 + 1, 2, none⟩ = false := K.thaw_at G2; have t3 : w7.frozen? ⟨w.heap.size + 1 + 1, 3, none⟩ = false := K.thaw_at G2; clear G2)))
              rw [HE.out]
              have z8 := HX1.out.size
              have z9 := hw6.size
              have z10 := hw7.size
              have z11 : w.heap.size + 1 + 1 < wr.heap.size := (Array.getElem?_eq_some_iff.1 C2.out).1
              refine bodyPost_ret (v := .tuple #[.agg #[.int .i64 N.1.dg, .int .i64 N.1.tn, .string N.1.nm, .slice o7 N.1.pw.length c7], .int .i64 N.2]) (by unfold results; rw [Try.results25]; go_simp) rfl ⟨⟨_, rfl, ?_⟩, ?_⟩
              · refine K.ints.mono (lo := wr.heap.size) (hi := w6.heap.size) ?_ (by omega) (by simp; omega)
                repeat with_reducible refine K.ints.set ?_ _ (.inl (by dsimp only; omega)) _
                exact hp7
              · repeat with_reducible refine K.Ext.setCell ?_ (by dsimp only; omega) _
                exact K.Ext.trans HX1.out (K.Ext.trans hw6 hw7)
      · have HE : Hid (Z.MultiplyFormulas F G = (Z.zeroFm, r.2)) := Z.hide (by rw [Z.MultiplyFormulas_ok hF hG]; unfold Z.multiplied; rw [← hr, if_neg hz])
        clear hr
        go_enter Try.func25, Try.ntmps25
        go_wp2_with (first | ((go_at_call 91; refine K.call (by with_reducible rfl) (by with_reducible rfl) (spec_IsFormula F _ hm hn (h.ext (by repeat' (first | with_reducible exact K.Ext.refl _ | with_reducible assumption | with_reducible refine K.Ext.drew ?_ | with_reducible refine K.Ext.alloc ?_ _ | with_reducible refine K.Ext.setCell ?_ ?_ _ | with_reducible refine K.Ext.trans ?_ (by with_reducible assumption) | (dsimp only; omega) | omega | exact K.Ext.refl _ | assumption | apply K.Ext.drew | refine K.Ext.alloc ?_ _ | refine K.Ext.setCell ?_ ?_ _ | (simp; done) | (simp; omega) | refine K.Ext.trans ?_ (by assumption))))) ?_; rintro e w1 ⟨rfl, hw1⟩; obtain ⟨hcw1, hfw1⟩ := hw1.facts); have c_w1_0_0 : w1.cell? ⟨w.heap.size, 0, none⟩ = some (.int .i64 (F.dg)) := hw1.cell_of (by go_simp); have f_w1_0_0 : w1.frozen? ⟨w.heap.size, 0, none⟩ = false := hw1.thaw_of (by go_simp) (by go_simp); have c_w1_0_1 : w1.cell? ⟨w.heap.size, 1, none⟩ = some (.int .i64 (F.tn)) := hw1.cell_of (by go_simp); have f_w1_0_1 : w1.frozen? ⟨w.heap.size, 1, none⟩ = false := hw1.thaw_of (by go_simp) (by go_simp); have c_w1_0_2 : w1.cell? ⟨w.heap.size, 2, none⟩ = some (.string F.nm) := hw1.cell_of (by go_simp); have f_w1_0_2 : w1.frozen? ⟨w.heap.size, 2, none⟩ = false := hw1.thaw_of (by go_simp) (by go_simp); have c_w1_0_3 : w1.cell? ⟨w.heap.size, 3, none⟩ = some (.slice o F.pw.length cap) := hw1.cell_of (by go_simp); have f_w1_0_3 : w1.frozen? ⟨w.heap.size, 3, none⟩ = false := hw1.thaw_of (by go_simp) (by go_simp); have c_w1_1_0 : w1.cell? ⟨w.heap.size + 1, 0, none⟩ = some (.int .i64 (G.dg)) := hw1.cell_of (by go_simp); have f_w1_1_0 : w1.frozen? ⟨w.heap.size + 1, 0, none⟩ = false := hw1.thaw_of (by go_simp) (by go_simp); have c_w1_1_1 : w1.cell? ⟨w.heap.size + 1, 1, none⟩ = some (.int .i64 (G.tn)) := hw1.cell_of (by go_simp); have f_w1_1_1 : w1.frozen? ⟨w.heap.size + 1, 1, none⟩ = false := hw1.thaw_of (by go_simp) (by go_simp); have c_w1_1_2 : w1.cell? ⟨w.heap.size + 1, 2, none⟩ = some (.string G.nm) := hw1.cell_of (by go_simp); have f_w1_1_2 : w1.frozen? ⟨w.heap.size + 1, 2, none⟩ = false := hw1.thaw_of (by go_simp) (by go_simp); have c_w1_1_3 : w1.cell? ⟨w.heap.size + 1, 3, none⟩ = some (.slice o' G.pw.length cap') := hw1.cell_of (by go_simp); have f_w1_1_3 : w1.frozen? ⟨w.heap.size + 1, 3, none⟩ = false := hw1.thaw_of (by go_simp) (by go_simp); have c_w1_2_0 : w1.cell? ⟨w.heap.size + 1 + 1, 0, none⟩ = some (.int .i64 (0)) := hw1.cell_of (by go_simp); have f_w1_2_0 : w1.frozen? ⟨w.heap.size + 1 + 1, 0, none⟩ = false := hw1.thaw_of (by go_simp) (by go_simp); have c_w1_2_1 : w1.cell? ⟨w.heap.size + 1 + 1, 1, none⟩ = some (.int .i64 (0)) := hw1.cell_of (by go_simp); have f_w1_2_1 : w1.frozen? ⟨w.heap.size + 1 + 1, 1, none⟩ = false := hw1.thaw_of (by go_simp) (by go_simp); have c_w1_2_2 : w1.cell? ⟨w.heap.size + 1 + 1, 2, none⟩ = some (.string ⟨#[]⟩) := hw1.cell_of (by go_simp); have f_w1_2_2 : w1.frozen? ⟨w.heap.size + 1 + 1, 2, none⟩ = false := hw1.thaw_of (by go_simp) (by go_simp); have c_w1_2_3 : w1.cell? ⟨w.heap.size + 1 + 1, 3, none⟩ = some (.slice none 0 0) := hw1.cell_of (by go_simp); have f_w1_2_3 : w1.frozen? ⟨w.heap.size + 1 + 1, 3, none⟩ = false := hw1.thaw_of (by go_simp) (by go_simp)) | ((go_at_call 91; refine K.call (by with_reducible rfl) (by with_reducible rfl) (spec_IsFormula G _ hm' hn' (h'.ext (by repeat' (first | with_reducible exact K.Ext.refl _ | with_reducible assumption | with_reducible refine K.Ext.drew ?_ | with_reducible refine K.Ext.alloc ?_ _ | with_reducible refine K.Ext.setCell ?_ ?_ _ | with_reducible refine K.Ext.trans ?_ (by with_reducible assumption) | (dsimp only; omega) | omega | exact K.Ext.refl _ | assumption | apply K.Ext.drew | refine K.Ext.alloc ?_ _ | refine K.Ext.setCell ?_ ?_ _ | (simp; done) | (simp; omega) | refine K.Ext.trans ?_ (by assumption))))) ?_; rintro e w2 ⟨rfl, hw2⟩; obtain ⟨hcw2, hfw2⟩ := hw2.facts); have c_w2_0_0 : w2.cell? ⟨w.heap.size, 0, none⟩ = some (.int .i64 (F.dg)) := hw2.cell_of (by go_simp); have f_w2_0_0 : w2.frozen? ⟨w.heap.size, 0, none⟩ = false := hw2.thaw_of (by go_simp) (by go_simp); have c_w2_0_1 : w2.cell? ⟨w.heap.size, 1, none⟩ = some (.int .i64 (F.tn)) := hw2.cell_of (by go_simp); have f_w2_0_1 : w2.frozen? ⟨w.heap.size, 1, none⟩ = false := hw2.thaw_of (by go_simp) (by go_simp); have c_w2_0_2 : w2.cell? ⟨w.heap.size, 2, none⟩ = some (.string F.nm) := hw2.cell_of (by go_simp); have f_w2_0_2 : w2.frozen? ⟨w.heap.size, 2, none⟩ = false := hw2.thaw_of (by go_simp) (by go_simp); have c_w2_0_3 : w2.cell? ⟨w.heap.size, 3, none⟩ = some (.slice o F.pw.length cap) := hw2.cell_of (by go_simp); have f_w2_0_3 : w2.frozen? ⟨w.heap.size, 3, none⟩ = false := hw2.thaw_of (by go_simp) (by go_simp); have c_w2_1_0 : w2.cell? ⟨w.heap.size + 1, 0, none⟩ = some (.int .i64 (G.dg)) := hw2.cell_of (by go_simp); have f_w2_1_0 : w2.frozen? ⟨w.heap.size + 1, 0, none⟩ = false := hw2.thaw_of (by go_simp) (by go_simp); have c_w2_1_1 : w2.cell? ⟨w.heap.size + 1, 1, none⟩ = some (.int .i64 (G.tn)) := hw2.cell_of (by go_simp); have f_w2_1_1 : w2.frozen? ⟨w.heap.size + 1, 1, none⟩ = false := hw2.thaw_of (by go_simp) (by go_simp); have c_w2_1_2 : w2.cell? ⟨w.heap.size + 1, 2, none⟩ = some (.string G.nm) := hw2.cell_of (by go_simp); have f_w2_1_2 : w2.frozen? ⟨w.heap.size + 1, 2, none⟩ = false := hw2.thaw_of (by go_simp) (by go_simp); have c_w2_1_3 : w2.cell? ⟨w.heap.size + 1, 3, none⟩ = some (.slice o' G.pw.length cap') := hw2.cell_of (by go_simp); have f_w2_1_3 : w2.frozen? ⟨w.heap.size + 1, 3, none⟩ = false := hw2.thaw_of (by go_simp) (by go_simp); have c_w2_2_0 : w2.cell? ⟨w.heap.size + 1 + 1, 0, none⟩ = some (.int .i64 (0)) := hw2.cell_of (by go_simp); have f_w2_2_0 : w2.frozen? ⟨w.heap.size + 1 + 1, 0, none⟩ = false := hw2.thaw_of (by go_simp) (by go_simp); have c_w2_2_1 : w2.cell? ⟨w.heap.size + 1 + 1, 1, none⟩ = some (.int .i64 (0)) := hw2.cell_of (by go_simp); have f_w2_2_1 : w2.frozen? ⟨w.heap.size + 1 + 1, 1, none⟩ = false := hw2.thaw_of (by go_simp) (by go_simp); have c_w2_2_2 : w2.cell? ⟨w.heap.size + 1 + 1, 2, none⟩ = some (.string ⟨#[]⟩) := hw2.cell_of (by go_simp); have f_w2_2_2 : w2.frozen? ⟨w.heap.size + 1 + 1, 2, none⟩ = false := hw2.thaw_of (by go_simp) (by go_simp); have c_w2_2_3 : w2.cell? ⟨w.heap.size + 1 + 1, 3, none⟩ = some (.slice none 0 0) := hw2.cell_of (by go_simp); have f_w2_2_3 : w2.frozen? ⟨w.heap.size + 1 + 1, 3, none⟩ = false := hw2.thaw_of (by go_simp) (by go_simp)) | (go_at_call 101; refine K.call (by with_reducible rfl) (by with_reducible rfl) (HM _) ?_; rintro e w3 ⟨rfl, hw3⟩; obtain ⟨hcw3, hfw3⟩ := hw3.facts); have c_w3_0_0 : w3.cell? ⟨w.heap.size, 0, none⟩ = some (.int .i64 (F.dg)) := hw3.cell_of (by go_simp); have f_w3_0_0 : w3.frozen? ⟨w.heap.size, 0, none⟩ = false := hw3.thaw_of (by go_simp) (by go_simp); have c_w3_0_1 : w3.cell? ⟨w.heap.size, 1, none⟩ = some (.int .i64 (F.tn)) := hw3.cell_of (by go_simp); have f_w3_0_1 : w3.frozen? ⟨w.heap.size, 1, none⟩ = false := hw3.thaw_of (by go_simp) (by go_simp); have c_w3_0_2 : w3.cell? ⟨w.heap.size, 2, none⟩ = some (.string F.nm) := hw3.cell_of (by go_simp); have f_w3_0_2 : w3.frozen? ⟨w.heap.size, 2, none⟩ = false := hw3.thaw_of (by go_simp) (by go_simp); have c_w3_0_3 : w3.cell? ⟨w.heap.size, 3, none⟩ = some (.slice o F.pw.length cap) := hw3.cell_of (by go_simp); have f_w3_0_3 : w3.frozen? ⟨w.heap.size, 3, none⟩ = false := hw3.thaw_of (by go_simp) (by go_simp); have c_w3_1_0 : w3.cell? ⟨w.heap.size + 1, 0, none⟩ = some (.int .i64 (G.dg)) := hw3.cell_of (by go_simp); have f_w3_1_0 : w3.frozen? ⟨w.heap.size + 1, 0, none⟩ = false := hw3.thaw_of (by go_simp) (by go_simp); have c_w3_1_1 : w3.cell? ⟨w.heap.size + 1, 1, none⟩ = some (.int .i64 (G.tn)) := hw3.cell_of (by go_simp); have f_w3_1_1 : w3.frozen? ⟨w.heap.size + 1, 1, none⟩ = false := hw3.thaw_of (by go_simp) (by go_simp); have c_w3_1_2 : w3.cell? ⟨w.heap.size + 1, 2, none⟩ = some (.string G.nm) := hw3.cell_of (by go_simp); have f_w3_1_2 : w3.frozen? ⟨w.heap.size + 1, 2, none⟩ = false := hw3.thaw_of (by go_simp) (by go_simp); have c_w3_1_3 : w3.cell? ⟨w.heap.size + 1, 3, none⟩ = some (.slice o' G.pw.length cap') := hw3.cell_of (by go_simp); have f_w3_1_3 : w3.frozen? ⟨w.heap.size + 1, 3, none⟩ = false := hw3.thaw_of (by go_simp) (by go_simp); have c_w3_2_0 : w3.cell? ⟨w.heap.size + 1 + 1, 0, none⟩ = some (.int .i64 (0)) := hw3.cell_of (by go_simp); have f_w3_2_0 : w3.frozen? ⟨w.heap.size + 1 + 1, 0, none⟩ = false := hw3.thaw_of (by go_simp) (by go_simp); have c_w3_2_1 : w3.cell? ⟨w.heap.size + 1 + 1, 1, none⟩ = some (.int .i64 (0)) := hw3.cell_of (by go_simp); have f_w3_2_1 : w3.frozen? ⟨w.heap.size + 1 + 1, 1, none⟩ = false := hw3.thaw_of (by go_simp) (by go_simp); have c_w3_2_2 : w3.cell? ⟨w.heap.size + 1 + 1, 2, none⟩ = some (.string ⟨#[]⟩) := hw3.cell_of (by go_simp); have f_w3_2_2 : w3.frozen? ⟨w.heap.size + 1 + 1, 2, none⟩ = false := hw3.thaw_of (by go_simp) (by go_simp); have c_w3_2_3 : w3.cell? ⟨w.heap.size + 1 + 1, 3, none⟩ = some (.slice none 0 0) := hw3.cell_of (by go_simp); have f_w3_2_3 : w3.frozen? ⟨w.heap.size + 1 + 1, 3, none⟩ = false := hw3.thaw_of (by go_simp) (by go_simp); have z3 : w.heap.size + 3 ≤ w3.heap.size := (by have h1 := hw1.size; have h2 := hw2.size; have h3 := hw3.size; simp at h1 h2 h3; omega); have z4 : ¬ (w.heap.size + 1 + 1 = w3.heap.size) := (by omega); have z8 : ¬ (w3.heap.size = w.heap.size + 1 + 1) := (by omega); have z7 : w.heap.size + 1 + 1 < w3.heap.size := (by omega))
        rw [HE.out]
        refine bodyPost_ret (v := .tuple #[.agg #[.int .i64 0, .int .i64 0, .string ⟨#[]⟩, .slice none 0 0], .int .i64 r.2]) (by unfold results; rw [Try.results25]; go_simp) rfl ⟨⟨_, rfl, K.ints_nil _ _ _⟩, ?_⟩
        repeat' (first | with_reducible refine K.Ext.setCell ?_ ?_ _ | with_reducible refine K.Ext.alloc ?_ _ | (dsimp only; omega))
        exact (by repeat' (first | with_reducible exact K.Ext.refl _ | with_reducible assumption | with_reducible refine K.Ext.drew ?_ | with_reducible refine K.Ext.alloc ?_ _ | with_reducible refine K.Ext.setCell ?_ ?_ _ | with_reducible refine K.Ext.trans ?_ (by with_reducible assumption) | (dsimp only; omega) | omega | exact K.Ext.refl _ | assumption | apply K.Ext.drew | refine K.Ext.alloc ?_ _ | refine K.Ext.setCell ?_ ?_ _ | (simp; done) | (simp; omega) | refine K.Ext.trans ?_ (by assumption)))
end Go.Proofs.Ythmnlbgbacbocaa
end
section
namespace Go.Proofs.Ythmnlbgbacbocaa
open Go.RowKit
theorem unity_new (w : World) : Calls Try.prog 137 #[] w fun e w' => e = .returned (.agg #[.int .i64 1000, .int .i64 0]) ∧ K.Ext w w' := by
  go_enter Try.func137, Try.ntmps137
  go_wp2
  exact bodyPost_ret (v := .agg #[.int .i64 1000, .int .i64 0]) (by unfold results; rw [Try.results137]; go_simp) rfl ⟨rfl, (by repeat' (first | with_reducible exact K.Ext.refl _ | with_reducible assumption | with_reducible refine K.Ext.drew ?_ | with_reducible refine K.Ext.alloc ?_ _ | with_reducible refine K.Ext.setCell ?_ ?_ _ | with_reducible refine K.Ext.trans ?_ (by with_reducible assumption) | (dsimp only; omega) | omega | exact K.Ext.refl _ | assumption | apply K.Ext.drew | refine K.Ext.alloc ?_ _ | refine K.Ext.setCell ?_ ?_ _ | (simp; done) | (simp; omega) | refine K.Ext.trans ?_ (by assumption)))⟩
set_option maxHeartbeats 3200000 in
theorem raised1_any (F : Z.Fm) (n : Int) (i : Nat) (gn gf : Nat) {lo hi : Nat} {p : Value} (w : World) (hi26 : i < 26) (hF : Z.isFormula F = true) (hn : -3 ≤ n ∧ n ≤ 3)
    (k0 : w.cell? ⟨gn, 0, none⟩ = some (.int .i64 n)) (h0 : w.cell? ⟨gf, 0, none⟩ = some (.int .i64 F.dg)) (h1 : w.cell? ⟨gf, 1, none⟩ = some (.int .i64 F.tn)) (h2 : w.cell? ⟨gf, 2, none⟩ = some (.string F.nm)) (h3 : w.cell? ⟨gf, 3, none⟩ = some p) (h : K.ints w lo hi p F.pw) :
    Calls Try.prog 170 #[.int .u8 (97 + (i : Int)), .pointer (some ⟨gn, 0, none⟩), .pointer (some ⟨gf, 0, none⟩)] w fun e w' => e = .returned (.int .i64 (Z.powF F n i)) ∧ K.Ext w w' := by
  have g1 := h
  obtain ⟨o, cap, rfl, _⟩ := g1
  obtain ⟨l1, l2⟩ : Hid (F.pw.length = F.nm.size) ∧ Hid (F.nm.size ≤ 6) := Z.isFormula_len hF
  obtain ⟨x, hx⟩ : ∃ x, x = Z.expo (Z.bs F.nm) F.pw (97 + (i : Int)) := ⟨_, rfl⟩
  obtain ⟨x1, x2⟩ := Z.expo_6 hF (97 + (i : Int))
  rw [← hx] at x1 x2
  have HE : Hid (Z.powF F n i = n * x) := Z.hide (by unfold Z.powF; rw [hx])
  obtain ⟨m1, m2⟩ := Z.mul_bd n x 3 6 hn.1 hn.2 x1 x2
  have q1 : IntKind.i64.wrap (n * x) = n * x := IntWalk.i64_in _ (by omega)
  have C1 : ∀ {lo hi : Nat} {p : Value} (w' : World), K.ints w' lo hi p F.pw → Calls Try.prog 106 #[.agg #[.int .i64 F.dg, .int .i64 F.tn, .string F.nm, p], .int .u8 (97 + (i : Int))] w' fun e w'' => e = .returned (.int .i64 x) ∧ K.Ext w' w'' := fun w' hh => by rw [hx]; exact exponentOf_any F (97 + (i : Int)) _ _ _ w' l1.out (Nat.le_trans l2.out (by decide)) (by omega) (by omega) hh
  clear hx hF m1 m2
  go_enter Try.func170, Try.ntmps170
  go_wp2_with fail
  refine K.wp_region_x 5 [1, 1, 0, 2, 0] [K.SP.any, K.SP.any, K.SP.any, K.SP.is (.int .i64 x)] (by kernel_rfl) (by kernel_rfl) ?_
  simp only [List.take_succ_cons, List.take_zero, List.drop_succ_cons, List.drop_zero]
  iterate 2
    apply K.x_held
    · rfl
    · rfl
    · intro w' hx; have hc := hx.all.1.1; have hf := hx.all.1.2; have hc' := hx.all.2.1; have hf' := hx.all.2.2; go_simp; first | done | rfl | exact ⟨rfl, rfl⟩
    simp only [Act.put, List.setIfInBounds_toArray, List.set]
  apply K.x_pure
  · rfl
  · rfl
  · intro w'; go_simp; first | done | exact K.vint (IntWalk.i64_in _ (by omega)) | rfl | exact ⟨rfl, rfl⟩
  simp only [Act.put, List.setIfInBounds_toArray, List.set]
  apply K.x_call_is
  · rfl
  · rfl
  · rfl
  · intro w'; go_simp; first | done | rfl | exact ⟨rfl, rfl⟩
  · intro w' hx hp; have hc := hx.all.1.1; have hf := hx.all.1.2; have hc' := hx.all.2.1; have hf' := hx.all.2.2; exact C1 _ (K.ints.ext (K.ints.drew h) hx)
  intro w_3_ hx_3_
  simp only [Act.put, List.setIfInBounds_toArray, List.set]
  apply K.x_pure
  · rfl
  · rfl
  · intro w'; go_simp; first | done | exact K.vint (IntWalk.i64_in _ (by omega)) | rfl | exact ⟨rfl, rfl⟩
  simp only [Act.put, List.setIfInBounds_toArray, List.set]
  apply K.x_done
  intro w2 h_x
  have hx2 := hx_3_.trans h_x
  clear h_x hx_3_
  obtain ⟨⟨hcw2, hfw2⟩, hc'w2, hf'w2⟩ := hx2.all
  go_wp2_with fail
  refine NoPanic.normal ?_
  go_wp2
  go_ret
  exact ⟨K.ri (by rw [HE.out]), (by repeat' (first | with_reducible exact K.Ext.refl _ | with_reducible assumption | with_reducible refine K.Ext.drew ?_ | with_reducible refine K.Ext.alloc ?_ _ | with_reducible refine K.Ext.setCell ?_ ?_ _ | with_reducible refine K.Ext.trans ?_ (by with_reducible assumption) | (dsimp only; omega) | omega | exact K.Ext.refl _ | assumption | apply K.Ext.drew | refine K.Ext.alloc ?_ _ | refine K.Ext.setCell ?_ ?_ _ | (simp; done) | (simp; omega) | refine K.Ext.trans ?_ (by assumption)))⟩
set_option maxRecDepth 100000 in
set_option maxHeartbeats 6400000 in
theorem raised_any (F : Z.Fm) (n : Int) {lo hi : Nat} {p : Value} (w : World) (hF : Z.isFormula F = true) (hn : -3 ≤ n ∧ n ≤ 3) (h : K.ints w lo hi p F.pw) :
    Calls Try.prog 109 #[.agg #[.int .i64 F.dg, .int .i64 F.tn, .string F.nm, p], .int .i64 n] w fun e w' => (∃ p', e = .returned (.tuple #[.agg #[.int .i64 ((Z.raised F n).1).dg, .int .i64 ((Z.raised F n).1).tn, .string ((Z.raised F n).1).nm, p'], .int .i64 (Z.raised F n).2]) ∧ K.own w' w.heap.size w'.heap.size p' (Z.raised F n).1.pw) ∧ K.Ext w w' := by
  have g1 := h
  obtain ⟨o, cap, rfl, _⟩ := g1
  have hmf : ∀ (fn : Fn) (first cap : Array Value) (w : World), (Instr.makeFunc fn first cap).run Try.prog w = .ok (.func fn first cap) w := fun _ _ _ _ => rfl
  have hg : ∀ (args : Array Value) (w' : World), (callFunc 170 args).run Try.prog w' = .ok (.enter 170 args) w' := by
    intro args w'; go_simp
  obtain ⟨n1, n2⟩ := hn
  obtain ⟨m, hm⟩ : ∃ m : Nat, m = n.natAbs := ⟨_, rfl⟩
  have hm3 : m ≤ 3 := by omega
  obtain ⟨g, hgd⟩ : ∃ g, g = decide (0 < n) := ⟨_, rfl⟩
  have HG := Z.hide hg
  have HFF := Z.hide hF
  have HH := Z.hide h
  have HM := Z.hide hm
  have HD := Z.hide hgd
  clear hg hF h hm hgd
  go_enter Try.func109, Try.ntmps109
  go_wp2_with ((go_at_call 137; refine K.call (by with_reducible rfl) (by with_reducible rfl) (unity_new _) ?_; rintro e w1 ⟨rfl, hw1⟩; obtain ⟨hcw1, hfw1⟩ := hw1.facts))
  have s1 : w.heap.size + 3 ≤ w1.heap.size := by have h_ := hw1.size; simp at h_; omega
  have B0 : w1.heap[w.heap.size]? = some (.cells #[.int .i64 F.dg, .int .i64 F.tn, .string F.nm, .slice o F.pw.length cap] 32) := K.Ext.block_of (((K.Ext.refl _).alloc _).alloc _ |>.block (K.block_new rfl)) hw1
  have B1 : w1.heap[w.heap.size + 1]? = some (.cells #[.int .i64 n] 2) := K.Ext.block_of (((K.Ext.refl _).alloc _).block (K.block_new (by simp))) hw1
  have B2 : w1.heap[w.heap.size + 1 + 1]? = some (.cells #[.int .i64 0, .int .i64 0, .string ⟨#[]⟩, .slice none 0 0] 32) := K.Ext.block_of (K.block_new (by simp)) hw1
  have R0 := Z.hide B0
  have R1 := Z.hide B1
  have R2 := Z.hide B2
  have HX1 : Hid (K.Ext w w1) := Z.hide (by repeat' (first | with_reducible exact K.Ext.refl _ | with_reducible assumption | with_reducible refine K.Ext.drew ?_ | with_reducible refine K.Ext.alloc ?_ _ | with_reducible refine K.Ext.setCell ?_ ?_ _ | with_reducible refine K.Ext.trans ?_ (by with_reducible assumption) | (dsimp only; omega) | omega | exact K.Ext.refl _ | assumption | apply K.Ext.drew | refine K.Ext.alloc ?_ _ | refine K.Ext.setCell ?_ ?_ _ | (simp; done) | (simp; omega) | refine K.Ext.trans ?_ (by assumption)))
  clear B0 B1 B2 hcw1 hfw1 hw1
  go_loopw [7] (fun i wr => ∃ k : Nat, k ≤ m ∧ i = .int .i64 k ∧ Hid ((Z.powK g (F.dg, F.tn) k).2 = 0) ∧ Hid (wr.heap[w.heap.size]? = some (.cells #[.int .i64 F.dg, .int .i64 F.tn, .string F.nm, .slice o F.pw.length cap] 32)) ∧ Hid (wr.heap[w.heap.size + 1]? = some (.cells #[.int .i64 n] 2)) ∧ Hid (wr.heap[w.heap.size + 1 + 1]? = some (.cells #[.int .i64 0, .int .i64 0, .string ⟨#[]⟩, .slice none 0 0] 32)) ∧ Hid (wr.heap[w1.heap.size]? = some (.cells #[.int .i64 (Z.powK g (F.dg, F.tn) k).1.1, .int .i64 (Z.powK g (F.dg, F.tn) k).1.2] 30)) ∧ Hid (K.Ext w wr)) (fun i _ => m - (intOf i).toNat)
  case atStart =>
    refine ⟨0, Nat.zero_le _, rfl, Z.hide rfl, Z.hide ?_, Z.hide ?_, Z.hide ?_, Z.hide ?_, Z.hide (by repeat' (first | with_reducible exact K.Ext.refl _ | with_reducible assumption | with_reducible refine K.Ext.drew ?_ | with_reducible refine K.Ext.alloc ?_ _ | with_reducible refine K.Ext.setCell ?_ ?_ _ | with_reducible refine K.Ext.trans ?_ (by with_reducible assumption) | (dsimp only; omega) | omega | exact K.Ext.refl _ | assumption | apply K.Ext.drew | refine K.Ext.alloc ?_ _ | refine K.Ext.setCell ?_ ?_ _ | (simp; done) | (simp; omega) | refine K.Ext.trans ?_ (by assumption)))⟩
    · exact K.Ext.block_of R0.out (by repeat' (first | with_reducible exact K.Ext.refl _ | with_reducible assumption | with_reducible refine K.Ext.drew ?_ | with_reducible refine K.Ext.alloc ?_ _ | with_reducible refine K.Ext.setCell ?_ ?_ _ | with_reducible refine K.Ext.trans ?_ (by with_reducible assumption) | (dsimp only; omega) | omega | exact K.Ext.refl _ | assumption | apply K.Ext.drew | refine K.Ext.alloc ?_ _ | refine K.Ext.setCell ?_ ?_ _ | (simp; done) | (simp; omega) | refine K.Ext.trans ?_ (by assumption)))
    · exact K.Ext.block_of R1.out (by repeat' (first | with_reducible exact K.Ext.refl _ | with_reducible assumption | with_reducible refine K.Ext.drew ?_ | with_reducible refine K.Ext.alloc ?_ _ | with_reducible refine K.Ext.setCell ?_ ?_ _ | with_reducible refine K.Ext.trans ?_ (by with_reducible assumption) | (dsimp only; omega) | omega | exact K.Ext.refl _ | assumption | apply K.Ext.drew | refine K.Ext.alloc ?_ _ | refine K.Ext.setCell ?_ ?_ _ | (simp; done) | (simp; omega) | refine K.Ext.trans ?_ (by assumption)))
    · exact K.Ext.block_of R2.out (by repeat' (first | with_reducible exact K.Ext.refl _ | with_reducible assumption | with_reducible refine K.Ext.drew ?_ | with_reducible refine K.Ext.alloc ?_ _ | with_reducible refine K.Ext.setCell ?_ ?_ _ | with_reducible refine K.Ext.trans ?_ (by with_reducible assumption) | (dsimp only; omega) | omega | exact K.Ext.refl _ | assumption | apply K.Ext.drew | refine K.Ext.alloc ?_ _ | refine K.Ext.setCell ?_ ?_ _ | (simp; done) | (simp; omega) | refine K.Ext.trans ?_ (by assumption)))
    · exact K.block_new rfl
  case round =>
    obtain ⟨k, hk, rfl, HZ, C0, C1, C2, C3, HX⟩ := hrel
    clear R0 R1 R2 HX1
    have k0 : (0 : Int) ≤ (k : Int) := Int.natCast_nonneg k
    have d0 : wr.cell? ⟨w.heap.size, 0, none⟩ = some (.int .i64 F.dg) := K.cell_at C0.out rfl
    have d1 : wr.cell? ⟨w.heap.size, 1, none⟩ = some (.int .i64 F.tn) := K.cell_at C0.out rfl
    have d2 : wr.cell? ⟨w.heap.size + 1, 0, none⟩ = some (.int .i64 n) := K.cell_at C1.out rfl
    have e0 : wr.cell? ⟨w1.heap.size, 0, none⟩ = some (.int .i64 (Z.powK g (F.dg, F.tn) k).1.1) := K.cell_at C3.out rfl
    have e1 : wr.cell? ⟨w1.heap.size, 1, none⟩ = some (.int .i64 (Z.powK g (F.dg, F.tn) k).1.2) := K.cell_at C3.out rfl
    have lw : w1.heap.size < wr.heap.size := (Array.getElem?_eq_some_iff.1 C3.out).1
    have m0 : (m : Int) = n ∨ (m : Int) = -n := by have := HM.out; omega
    have m0' : -(m : Int) ≤ n ∧ n ≤ (m : Int) := by have := HM.out; omega
    by_cases hlt : k < m
    · have k1 : (k : Int) < (m : Int) := by omega
      obtain ⟨x, hx⟩ : ∃ x, x = (Z.powK g (F.dg, F.tn) k).1 := ⟨_, rfl⟩
      rw [← hx] at e0 e1
      obtain ⟨r, hr⟩ : ∃ r, r = Z.pw1 g x (F.dg, F.tn) := ⟨_, rfl⟩
      have HS : Hid (Z.powK g (F.dg, F.tn) (k + 1) = r) := Z.hide (by rw [Z.powK_succ _ _ _ HZ.out, hr, hx])
      have HR : Hid (∀ w' : World, Calls Try.prog (if g then 162 else 169) #[.agg #[.int .i64 x.1, .int .i64 x.2], .agg #[.int .i64 F.dg, .int .i64 F.tn]] w' fun e w'' => e = .returned (.tuple #[.agg #[.int .i64 r.1.1, .int .i64 r.1.2], .int .i64 r.2]) ∧ K.Ext w' w'') := Z.hide (fun w' => by
        rw [hr]
        cases g
        · exact impl_DivideFigures x (F.dg, F.tn) w'
        · exact impl_MultiplyFigures x (F.dg, F.tn) w')
      clear hx hr
      have hgn : g = decide (0 < n) := HD.out
      have tm : (k : Int) < max n (-n) := by omega
      by_cases hp : 0 < n
      · obtain rfl : g = true := by rw [hgn]; simpa using hp
        clear hgn
        simp only [if_true] at HR
        by_cases hz : r.2 = 0
        · have HZ2 : Hid ((Z.powK true (F.dg, F.tn) (k + 1)).2 = 0) := Z.hide (by rw [HS.out]; exact hz)
          go_wp2_with ((go_at_call 162; refine K.call (by with_reducible rfl) (by with_reducible rfl) (HR.out _) ?_; rintro e w2 ⟨rfl, hw2⟩; have D0 := Z.hide (K.Ext.block_of C0.out hw2); have D1 := Z.hide (K.Ext.block_of C1.out hw2); have D2 := Z.hide (K.Ext.block_of C2.out hw2); have D3 := Z.hide (K.Ext.block_of C3.out hw2); have HX2 : Hid (K.Ext w w2) := Z.hide (HX.out.trans hw2); have lw2 := hw2.size; have f0 : w2.cell? ⟨w1.heap.size, 0, none⟩ = some (.int .i64 x.1) := hw2.cell_of e0; have f1 : w2.cell? ⟨w1.heap.size, 1, none⟩ = some (.int .i64 x.2) := hw2.cell_of e1; have t0 : w2.frozen? ⟨w1.heap.size, 0, none⟩ = false := K.thaw_at D3.out; have t1 : w2.frozen? ⟨w1.heap.size, 1, none⟩ = false := K.thaw_at D3.out; have z0 : w2.cell? ⟨w.heap.size + 1 + 1, 0, none⟩ = some (.int .i64 0) := K.cell_at D2.out rfl; have z1 : w2.cell? ⟨w.heap.size + 1 + 1, 1, none⟩ = some (.int .i64 0) := K.cell_at D2.out rfl; have z2 : w2.cell? ⟨w.heap.size + 1 + 1, 2, none⟩ = some (.string ⟨#[]⟩) := K.cell_at D2.out rfl; have z3 : w2.cell? ⟨w.heap.size + 1 + 1, 3, none⟩ = some (.slice none 0 0) := K.cell_at D2.out rfl; have y0 : w2.frozen? ⟨w.heap.size + 1 + 1, 0, none⟩ = false := K.thaw_at D2.out; have y1 : w2.frozen? ⟨w.heap.size + 1 + 1, 1, none⟩ = false := K.thaw_at D2.out; have y2 : w2.frozen? ⟨w.heap.size + 1 + 1, 2, none⟩ = false := K.thaw_at D2.out; have y3 : w2.frozen? ⟨w.heap.size + 1 + 1, 3, none⟩ = false := K.thaw_at D2.out; have n1 : ¬ (w.heap.size + 1 + 1 = w1.heap.size) := (by omega); have n2 : ¬ (w1.heap.size = w.heap.size + 1 + 1) := (by omega)))
          go_roundw
          case rel =>
            refine ⟨k + 1, by omega, by go_num, HZ2, Z.hide ?_, Z.hide ?_, Z.hide ?_, Z.hide ?_, Z.hide ?_⟩
            · exact (K.set_block (by dsimp only; omega)).trans ((K.set_block (by dsimp only; omega)).trans D0.out)
            · exact (K.set_block (by dsimp only; omega)).trans ((K.set_block (by dsimp only; omega)).trans D1.out)
            · exact (K.set_block (by dsimp only; omega)).trans ((K.set_block (by dsimp only; omega)).trans D2.out)
            · rw [HS.out]; exact Joins.block_setCell (Joins.block_setCell D3.out _) _
            · exact K.Ext.setCell (K.Ext.setCell HX2.out (by dsimp only; omega) _) (by dsimp only; omega) _
          case measure => simp [intOf]; omega
        · have HE : Hid (Z.raised F n = (Z.zeroFm, r.2)) := Z.hide (by
            have h1 := Z.powK_stop true (F.dg, F.tn) (k + 1) (by rw [HS.out]; exact hz) m (by omega)
            unfold Z.raised
            rw [← HM.out, ← HD.out, h1, HS.out, if_neg hz])
          go_wp2_with ((go_at_call 162; refine K.call (by with_reducible rfl) (by with_reducible rfl) (HR.out _) ?_; rintro e w2 ⟨rfl, hw2⟩; have D0 := Z.hide (K.Ext.block_of C0.out hw2); have D1 := Z.hide (K.Ext.block_of C1.out hw2); have D2 := Z.hide (K.Ext.block_of C2.out hw2); have D3 := Z.hide (K.Ext.block_of C3.out hw2); have HX2 : Hid (K.Ext w w2) := Z.hide (HX.out.trans hw2); have lw2 := hw2.size; have f0 : w2.cell? ⟨w1.heap.size, 0, none⟩ = some (.int .i64 x.1) := hw2.cell_of e0; have f1 : w2.cell? ⟨w1.heap.size, 1, none⟩ = some (.int .i64 x.2) := hw2.cell_of e1; have t0 : w2.frozen? ⟨w1.heap.size, 0, none⟩ = false := K.thaw_at D3.out; have t1 : w2.frozen? ⟨w1.heap.size, 1, none⟩ = false := K.thaw_at D3.out; have z0 : w2.cell? ⟨w.heap.size + 1 + 1, 0, none⟩ = some (.int .i64 0) := K.cell_at D2.out rfl; have z1 : w2.cell? ⟨w.heap.size + 1 + 1, 1, none⟩ = some (.int .i64 0) := K.cell_at D2.out rfl; have z2 : w2.cell? ⟨w.heap.size + 1 + 1, 2, none⟩ = some (.string ⟨#[]⟩) := K.cell_at D2.out rfl; have z3 : w2.cell? ⟨w.heap.size + 1 + 1, 3, none⟩ = some (.slice none 0 0) := K.cell_at D2.out rfl; have y0 : w2.frozen? ⟨w.heap.size + 1 + 1, 0, none⟩ = false := K.thaw_at D2.out; have y1 : w2.frozen? ⟨w.heap.size + 1 + 1, 1, none⟩ = false := K.thaw_at D2.out; have y2 : w2.frozen? ⟨w.heap.size + 1 + 1, 2, none⟩ = false := K.thaw_at D2.out; have y3 : w2.frozen? ⟨w.heap.size + 1 + 1, 3, none⟩ = false := K.thaw_at D2.out; have n1 : ¬ (w.heap.size + 1 + 1 = w1.heap.size) := (by omega); have n2 : ¬ (w1.heap.size = w.heap.size + 1 + 1) := (by omega)))
          rw [HE.out]
          refine bodyPost_ret (v := .tuple #[.agg #[.int .i64 0, .int .i64 0, .string ⟨#[]⟩, .slice none 0 0], .int .i64 r.2]) (by unfold results; rw [Try.results109]; go_simp) rfl ⟨⟨_, rfl, K.own_nil _ _ _⟩, ?_⟩
          repeat with_reducible refine K.Ext.setCell ?_ (by dsimp only; omega) _
          exact HX2.out
      · obtain rfl : g = false := by rw [hgn]; simpa using hp
        clear hgn
        simp only [Bool.false_eq_true, if_false] at HR
        by_cases hz : r.2 = 0
        · have HZ2 : Hid ((Z.powK false (F.dg, F.tn) (k + 1)).2 = 0) := Z.hide (by rw [HS.out]; exact hz)
          go_wp2_with ((go_at_call 169; refine K.call (by with_reducible rfl) (by with_reducible rfl) (HR.out _) ?_; rintro e w2 ⟨rfl, hw2⟩; have D0 := Z.hide (K.Ext.block_of C0.out hw2); have D1 := Z.hide (K.Ext.block_of C1.out hw2); have D2 := Z.hide (K.Ext.block_of C2.out hw2); have D3 := Z.hide (K.Ext.block_of C3.out hw2); have HX2 : Hid (K.Ext w w2) := Z.hide (HX.out.trans hw2); have lw2 := hw2.size; have f0 : w2.cell? ⟨w1.heap.size, 0, none⟩ = some (.int .i64 x.1) := hw2.cell_of e0; have f1 : w2.cell? ⟨w1.heap.size, 1, none⟩ = some (.int .i64 x.2) := hw2.cell_of e1; have t0 : w2.frozen? ⟨w1.heap.size, 0, none⟩ = false := K.thaw_at D3.out; have t1 : w2.frozen? ⟨w1.heap.size, 1, none⟩ = false := K.thaw_at D3.out; have z0 : w2.cell? ⟨w.heap.size + 1 + 1, 0, none⟩ = some (.int .i64 0) := K.cell_at D2.out rfl; have z1 : w2.cell? ⟨w.heap.size + 1 + 1, 1, none⟩ = some (.int .i64 0) := K.cell_at D2.out rfl; have z2 : w2.cell? ⟨w.heap.size + 1 + 1, 2, none⟩ = some (.string ⟨#[]⟩) := K.cell_at D2.out rfl; have z3 : w2.cell? ⟨w.heap.size + 1 + 1, 3, none⟩ = some (.slice none 0 0) := K.cell_at D2.out rfl; have y0 : w2.frozen? ⟨w.heap.size + 1 + 1, 0, none⟩ = false := K.thaw_at D2.out; have y1 : w2.frozen? ⟨w.heap.size + 1 + 1, 1, none⟩ = false := K.thaw_at D2.out; have y2 : w2.frozen? ⟨w.heap.size + 1 + 1, 2, none⟩ = false := K.thaw_at D2.out; have y3 : w2.frozen? ⟨w.heap.size + 1 + 1, 3, none⟩ = false := K.thaw_at D2.out; have n1 : ¬ (w.heap.size + 1 + 1 = w1.heap.size) := (by omega); have n2 : ¬ (w1.heap.size = w.heap.size + 1 + 1) := (by omega)))
          go_roundw
          case rel =>
            refine ⟨k + 1, by omega, by go_num, HZ2, Z.hide ?_, Z.hide ?_, Z.hide ?_, Z.hide ?_, Z.hide ?_⟩
            · exact (K.set_block (by dsimp only; omega)).trans ((K.set_block (by dsimp only; omega)).trans D0.out)
            · exact (K.set_block (by dsimp only; omega)).trans ((K.set_block (by dsimp only; omega)).trans D1.out)
            · exact (K.set_block (by dsimp only; omega)).trans ((K.set_block (by dsimp only; omega)).trans D2.out)
            · rw [HS.out]; exact Joins.block_setCell (Joins.block_setCell D3.out _) _
            · exact K.Ext.setCell (K.Ext.setCell HX2.out (by dsimp only; omega) _) (by dsimp only; omega) _
          case measure => simp [intOf]; omega
        · have HE : Hid (Z.raised F n = (Z.zeroFm, r.2)) := Z.hide (by
            have h1 := Z.powK_stop false (F.dg, F.tn) (k + 1) (by rw [HS.out]; exact hz) m (by omega)
            unfold Z.raised
            rw [← HM.out, ← HD.out, h1, HS.out, if_neg hz])
          go_wp2_with ((go_at_call 169; refine K.call (by with_reducible rfl) (by with_reducible rfl) (HR.out _) ?_; rintro e w2 ⟨rfl, hw2⟩; have D0 := Z.hide (K.Ext.block_of C0.out hw2); have D1 := Z.hide (K.Ext.block_of C1.out hw2); have D2 := Z.hide (K.Ext.block_of C2.out hw2); have D3 := Z.hide (K.Ext.block_of C3.out hw2); have HX2 : Hid (K.Ext w w2) := Z.hide (HX.out.trans hw2); have lw2 := hw2.size; have f0 : w2.cell? ⟨w1.heap.size, 0, none⟩ = some (.int .i64 x.1) := hw2.cell_of e0; have f1 : w2.cell? ⟨w1.heap.size, 1, none⟩ = some (.int .i64 x.2) := hw2.cell_of e1; have t0 : w2.frozen? ⟨w1.heap.size, 0, none⟩ = false := K.thaw_at D3.out; have t1 : w2.frozen? ⟨w1.heap.size, 1, none⟩ = false := K.thaw_at D3.out; have z0 : w2.cell? ⟨w.heap.size + 1 + 1, 0, none⟩ = some (.int .i64 0) := K.cell_at D2.out rfl; have z1 : w2.cell? ⟨w.heap.size + 1 + 1, 1, none⟩ = some (.int .i64 0) := K.cell_at D2.out rfl; have z2 : w2.cell? ⟨w.heap.size + 1 + 1, 2, none⟩ = some (.string ⟨#[]⟩) := K.cell_at D2.out rfl; have z3 : w2.cell? ⟨w.heap.size + 1 + 1, 3, none⟩ = some (.slice none 0 0) := K.cell_at D2.out rfl; have y0 : w2.frozen? ⟨w.heap.size + 1 + 1, 0, none⟩ = false := K.thaw_at D2.out; have y1 : w2.frozen? ⟨w.heap.size + 1 + 1, 1, none⟩ = false := K.thaw_at D2.out; have y2 : w2.frozen? ⟨w.heap.size + 1 + 1, 2, none⟩ = false := K.thaw_at D2.out; have y3 : w2.frozen? ⟨w.heap.size + 1 + 1, 3, none⟩ = false := K.thaw_at D2.out; have n1 : ¬ (w.heap.size + 1 + 1 = w1.heap.size) := (by omega); have n2 : ¬ (w1.heap.size = w.heap.size + 1 + 1) := (by omega)))
          rw [HE.out]
          refine bodyPost_ret (v := .tuple #[.agg #[.int .i64 0, .int .i64 0, .string ⟨#[]⟩, .slice none 0 0], .int .i64 r.2]) (by unfold results; rw [Try.results109]; go_simp) rfl ⟨⟨_, rfl, K.own_nil _ _ _⟩, ?_⟩
          repeat with_reducible refine K.Ext.setCell ?_ (by dsimp only; omega) _
          exact HX2.out
    · obtain rfl : k = m := by omega
      have tm : ¬ ((k : Int) < max n (-n)) := by omega
      obtain ⟨r, hr⟩ : ∃ r, r = (Z.powK g (F.dg, F.tn) k).1 := ⟨_, rfl⟩
      rw [← hr] at e0 e1
      have HZm := HZ.out
      obtain ⟨M, hM⟩ : ∃ M, M = Z.madeOr r.1 r.2 (Z.powF F n) := ⟨_, rfl⟩
      have HE : Hid (Z.raised F n = M) := Z.hide (by
        unfold Z.raised
        rw [← HM.out, ← HD.out, if_pos HZm, ← hr, hM])
      have HK : Hid (Calls Try.prog 163 #[.agg #[.int .i64 r.1, .int .i64 r.2], .func (.func 170) #[] #[.pointer (some ⟨w.heap.size + 1, 0, none⟩), .pointer (some ⟨w.heap.size, 0, none⟩)]] wr fun e w' => (∃ p', e = .returned (.tuple #[.agg #[.int .i64 M.1.dg, .int .i64 M.1.tn, .string M.1.nm, p'], .int .i64 M.2]) ∧ K.own w' wr.heap.size w'.heap.size p' M.1.pw) ∧ K.Ext wr w') := Z.hide (by
        rw [hM]
        exact madeOf_any r.1 r.2 (Z.powF F n) 170 _ _ wr HG.out (fun i w' hi hx => raised1_any F n i _ _ w' hi HFF.out ⟨n1, n2⟩ (hx.cell_of d2) (hx.cell_of d0) (hx.cell_of d1) (hx.cell_of (K.cell_at C0.out rfl)) (hx.cell_of (K.cell_at C0.out rfl)) (K.ints.ext HH.out (HX.out.trans hx))))
      clear hr hM HZm
      have hg := HG.out
      go_wp2_with ((go_at_call 163; refine K.call (by with_reducible rfl) (by with_reducible rfl) (HK.out) ?_; rintro e w2 ⟨⟨p2, rfl, hp2⟩, hw2⟩; have hp3 := hp2; obtain ⟨o2, c2, rfl, _⟩ := hp3; have D2 := Z.hide (K.Ext.block_of C2.out hw2); have HX2 : Hid (K.Ext w w2) := Z.hide (HX.out.trans hw2); have lw2 := hw2.size; have z0 : w2.cell? ⟨w.heap.size + 1 + 1, 0, none⟩ = some (.int .i64 0) := K.cell_at D2.out rfl; have z1 : w2.cell? ⟨w.heap.size + 1 + 1, 1, none⟩ = some (.int .i64 0) := K.cell_at D2.out rfl; have z2 : w2.cell? ⟨w.heap.size + 1 + 1, 2, none⟩ = some (.string ⟨#[]⟩) := K.cell_at D2.out rfl; have z3 : w2.cell? ⟨w.heap.size + 1 + 1, 3, none⟩ = some (.slice none 0 0) := K.cell_at D2.out rfl; have y0 : w2.frozen? ⟨w.heap.size + 1 + 1, 0, none⟩ = false := K.thaw_at D2.out; have y1 : w2.frozen? ⟨w.heap.size + 1 + 1, 1, none⟩ = false := K.thaw_at D2.out; have y2 : w2.frozen? ⟨w.heap.size + 1 + 1, 2, none⟩ = false := K.thaw_at D2.out; have y3 : w2.frozen? ⟨w.heap.size + 1 + 1, 3, none⟩ = false := K.thaw_at D2.out))
      rw [HE.out]
      refine bodyPost_ret (v := .tuple #[.agg #[.int .i64 M.1.dg, .int .i64 M.1.tn, .string M.1.nm, .slice o2 M.1.pw.length c2], .int .i64 M.2]) (by unfold results; rw [Try.results109]; go_simp) rfl ⟨⟨_, rfl, ?_⟩, ?_⟩
      · refine K.own.mono (lo := wr.heap.size) (hi := w2.heap.size) ?_ (by omega) (by simp)
        repeat with_reducible refine K.own.set ?_ _ (.inl (by dsimp only; omega)) _
        exact hp2
      · repeat with_reducible refine K.Ext.setCell ?_ (by dsimp only; omega) _
        exact HX2.out
end Go.Proofs.Ythmnlbgbacbocaa
end
section
namespace Go.Proofs.Ythmnlbgbacbocaa
open Go.RowKit
set_option maxHeartbeats 3200000 in
theorem figureLog_any (f : Int × Int)  (w : World) (hf : Z.isFig f.1 f.2 = true)  :
    Calls Try.prog 132 #[.agg #[.int .i64 f.1, .int .i64 f.2]] w fun e w' => e = .returned (.agg #[.int .i64 (Z.figLog f).1, .int .i64 (Z.figLog f).2]) ∧ K.Ext w w' := by
  obtain ⟨⟨f1, f2⟩, f3, f4⟩ : (1000 ≤ f.1 ∧ f.1 ≤ 9999) ∧ -30 ≤ f.2 ∧ f.2 ≤ 30 := by
    simp only [Z.isFig, Bool.and_eq_true, decide_eq_true_eq] at hf
    omega
  obtain ⟨⟨r1, r2⟩, r3, r4⟩ := Z.logOf_bd (x := f.1 * 100000) (by omega) (by omega)
  obtain ⟨r, hr⟩ : ∃ r, r = Z.logOf (f.1 * 100000) := ⟨_, rfl⟩
  rw [← hr] at r1 r2 r3 r4
  have HR : ∀ w : World, Calls Try.prog 183 #[.int .i64 (f.1 * 100000)] w fun e w' => e = .returned (.agg #[.int .i64 r.1, .int .i64 r.2]) ∧ K.Ext w w' := fun w => by rw [hr]; exact logarithm_any _ w (by omega) (by omega)
  have HE : Hid (Z.figLog f = (r.1 + f.2 * 1048576, r.2 + f.2 * 1048576)) := Z.hide (by unfold Z.figLog; rw [← hr])
  clear hr hf
  have X0 : K.Ext w w := K.Ext.refl w
  go_enter Try.func132, Try.ntmps132
  go_wp2_with (go_at_call 183; refine K.call (by with_reducible rfl) (by with_reducible rfl) (HR _) ?_; rintro e w1 ⟨rfl, x1⟩; have s1 : w.heap.size + 2 ≤ w1.heap.size := (by have h_ := x1.size; (try simp at h_); omega); have X1 := K.Ext.trans (K.Ext.alloc (K.Ext.alloc X0 _) _) x1; obtain ⟨c1_0_0, c1_0_1⟩ := K.c2 x1 (w.heap.size) (.int .i64 f.1) (.int .i64 f.2) (by go_simp); have z1_0 : w.heap.size < w1.heap.size := World.block_lt_of_cell? w1 _ c1_0_0; have d1_0 : ¬ (w.heap.size = w1.heap.size) := (by omega); have e1_0 : ¬ (w1.heap.size = w.heap.size) := (by omega); obtain ⟨c1_1_0, c1_1_1⟩ := K.c2 x1 (w.heap.size + 1) (.int .i64 0) (.int .i64 0) (by go_simp); obtain ⟨f1_1_0, f1_1_1⟩ := K.f2 x1 (w.heap.size + 1) (by go_simp); have z1_1 : w.heap.size + 1 < w1.heap.size := World.block_lt_of_cell? w1 _ c1_1_0; have d1_1 : ¬ (w.heap.size + 1 = w1.heap.size) := (by omega); have e1_1 : ¬ (w1.heap.size = w.heap.size + 1) := (by omega); have n1_0 : ¬ (w.heap.size + 1 = w.heap.size) := (by omega); have n0_1 : ¬ (w.heap.size = w.heap.size + 1) := (by omega))
  rw [HE.out]
  refine bodyPost_ret (v := .agg #[.int .i64 (r.1 + (f.2 * 1048576)), .int .i64 (r.2 + (f.2 * 1048576))]) (by unfold results; rw [Try.results132]; go_simp) rfl ⟨rfl, ?_⟩
  repeat with_reducible refine K.Ext.setCell ?_ (by dsimp only; omega) _
  exact (by repeat' (first | with_reducible exact X1 | with_reducible refine K.Ext.setCell ?_ ?_ _ | with_reducible refine K.Ext.alloc ?_ _ | with_reducible refine K.Ext.drew ?_ | (dsimp only; omega) | omega | (simp; omega)))
set_option maxHeartbeats 3200000 in
theorem l03Log_any (x : Int)  (w : World) (x1 : 100000000 ≤ x) (x2 : x < 1000000000)  :
    Calls Try.prog 197 #[.int .i64 x] w fun e w' => e = .returned (.agg #[.int .i64 (Z.logOf x).1, .int .i64 (Z.logOf x).2]) ∧ K.Ext w w' := by
  obtain ⟨⟨r1, r2⟩, r3, r4⟩ := Z.logOf_bd x1 x2
  obtain ⟨r, hr⟩ : ∃ r, r = Z.logOf x := ⟨_, rfl⟩
  obtain ⟨a, ha⟩ : ∃ a, a = (Z.itL x 20).2 := ⟨_, rfl⟩
  obtain ⟨b, hb⟩ : ∃ b, b = (Z.itH x 20).2 := ⟨_, rfl⟩
  have HL : ∀ w : World, Calls Try.prog 208 #[.int .i64 x, .bool false] w fun e w' => e = .returned (.int .i64 a) ∧ w = w' := fun w => by rw [ha]; exact l03Bits_low x w x1 x2
  have HH : ∀ w : World, Calls Try.prog 208 #[.int .i64 x, .bool true] w fun e w' => e = .returned (.int .i64 b) ∧ w = w' := fun w => by rw [hb]; exact l03Bits_high x w x1 x2
  have HE : Hid (Z.logOf x = (a, b + 1)) := Z.hide (by rw [ha, hb]; rfl)
  have b0 : 0 ≤ b := by rw [hb]; exact (Z.itH_bd x1 x2 20).2.1
  have b1 : b ≤ 1048577 := by rw [HE.out] at r4; dsimp only at r4; omega
  clear ha hb hr r1 r2 r3 r4
  have X0 : K.Ext w w := K.Ext.refl w
  go_enter Try.func197, Try.ntmps197
  go_wp2_with (go_at_call 208; refine K.call (by with_reducible rfl) (by with_reducible rfl) (HL _) ?_; rintro e w_ ⟨rfl, rfl⟩)
  go_wp2_with (go_at_call 208; refine K.call (by with_reducible rfl) (by with_reducible rfl) (HH _) ?_; rintro e w_ ⟨rfl, rfl⟩)
  rw [HE.out]
  refine bodyPost_ret (v := .agg #[.int .i64 a, .int .i64 (b + 1)]) (by unfold results; rw [Try.results197]; go_simp) rfl ⟨rfl, ?_⟩
  repeat with_reducible refine K.Ext.setCell ?_ (by dsimp only; omega) _
  exact (by repeat' (first | with_reducible exact X0 | with_reducible refine K.Ext.setCell ?_ ?_ _ | with_reducible refine K.Ext.alloc ?_ _ | with_reducible refine K.Ext.drew ?_ | (dsimp only; omega) | omega | (simp; omega)))
set_option maxHeartbeats 3200000 in
theorem l03Figure_any (f : Int × Int)  (w : World) (hf : Z.isFig f.1 f.2 = true)  :
    Calls Try.prog 173 #[.agg #[.int .i64 f.1, .int .i64 f.2]] w fun e w' => e = .returned (.agg #[.int .i64 (Z.figLog f).1, .int .i64 (Z.figLog f).2]) ∧ K.Ext w w' := by
  obtain ⟨⟨f1, f2⟩, f3, f4⟩ : (1000 ≤ f.1 ∧ f.1 ≤ 9999) ∧ -30 ≤ f.2 ∧ f.2 ≤ 30 := by
    simp only [Z.isFig, Bool.and_eq_true, decide_eq_true_eq] at hf
    omega
  obtain ⟨⟨r1, r2⟩, r3, r4⟩ := Z.logOf_bd (x := f.1 * 100000) (by omega) (by omega)
  obtain ⟨r, hr⟩ : ∃ r, r = Z.logOf (f.1 * 100000) := ⟨_, rfl⟩
  rw [← hr] at r1 r2 r3 r4
  have HR : ∀ w : World, Calls Try.prog 197 #[.int .i64 (f.1 * 100000)] w fun e w' => e = .returned (.agg #[.int .i64 r.1, .int .i64 r.2]) ∧ K.Ext w w' := fun w => by rw [hr]; exact l03Log_any _ w (by omega) (by omega)
  have HE : Hid (Z.figLog f = (r.1 + f.2 * 1048576, r.2 + f.2 * 1048576)) := Z.hide (by unfold Z.figLog; rw [← hr])
  clear hr hf
  have X0 : K.Ext w w := K.Ext.refl w
  go_enter Try.func173, Try.ntmps173
  go_wp2_with (go_at_call 197; refine K.call (by with_reducible rfl) (by with_reducible rfl) (HR _) ?_; rintro e w1 ⟨rfl, x1⟩; have s1 : w.heap.size + 2 ≤ w1.heap.size := (by have h_ := x1.size; (try simp at h_); omega); have X1 := K.Ext.trans (K.Ext.alloc (K.Ext.alloc X0 _) _) x1; obtain ⟨c1_0_0, c1_0_1⟩ := K.c2 x1 (w.heap.size) (.int .i64 f.1) (.int .i64 f.2) (by go_simp); have z1_0 : w.heap.size < w1.heap.size := World.block_lt_of_cell? w1 _ c1_0_0; have d1_0 : ¬ (w.heap.size = w1.heap.size) := (by omega); have e1_0 : ¬ (w1.heap.size = w.heap.size) := (by omega); obtain ⟨c1_1_0, c1_1_1⟩ := K.c2 x1 (w.heap.size + 1) (.int .i64 0) (.int .i64 0) (by go_simp); obtain ⟨f1_1_0, f1_1_1⟩ := K.f2 x1 (w.heap.size + 1) (by go_simp); have z1_1 : w.heap.size + 1 < w1.heap.size := World.block_lt_of_cell? w1 _ c1_1_0; have d1_1 : ¬ (w.heap.size + 1 = w1.heap.size) := (by omega); have e1_1 : ¬ (w1.heap.size = w.heap.size + 1) := (by omega); have n1_0 : ¬ (w.heap.size + 1 = w.heap.size) := (by omega); have n0_1 : ¬ (w.heap.size = w.heap.size + 1) := (by omega))
  rw [HE.out]
  refine bodyPost_ret (v := .agg #[.int .i64 (r.1 + (f.2 * 1048576)), .int .i64 (r.2 + (f.2 * 1048576))]) (by unfold results; rw [Try.results173]; go_simp) rfl ⟨rfl, ?_⟩
  repeat with_reducible refine K.Ext.setCell ?_ (by dsimp only; omega) _
  exact (by repeat' (first | with_reducible exact X1 | with_reducible refine K.Ext.setCell ?_ ?_ _ | with_reducible refine K.Ext.alloc ?_ _ | with_reducible refine K.Ext.drew ?_ | (dsimp only; omega) | omega | (simp; omega)))
set_option maxHeartbeats 1600000 in
theorem sum_any (a : Int × Int) (b : Int × Int)  (w : World) (h1 : -4000000000 ≤ a.1 ∧ a.1 ≤ 4000000000) (h2 : -4000000000 ≤ a.2 ∧ a.2 ≤ 4000000000) (h3 : -4000000000 ≤ b.1 ∧ b.1 ≤ 4000000000) (h4 : -4000000000 ≤ b.2 ∧ b.2 ≤ 4000000000)  :
    Calls Try.prog 136 #[.agg #[.int .i64 a.1, .int .i64 a.2], .agg #[.int .i64 b.1, .int .i64 b.2]] w fun e w' => e = .returned (.agg #[.int .i64 (Z.sumI a b).1, .int .i64 (Z.sumI a b).2]) ∧ K.Ext w w' := by
  have HE : Hid (Z.sumI a b = (a.1 + b.1, a.2 + b.2)) := Z.hide rfl
  obtain ⟨h1a, h1b⟩ := h1
  obtain ⟨h2a, h2b⟩ := h2
  obtain ⟨h3a, h3b⟩ := h3
  obtain ⟨h4a, h4b⟩ := h4
  have X0 : K.Ext w w := K.Ext.refl w
  go_enter Try.func136, Try.ntmps136
  go_wp2_with fail
  rw [HE.out]
  refine bodyPost_ret (v := .agg #[.int .i64 (a.1 + b.1), .int .i64 (a.2 + b.2)]) (by unfold results; rw [Try.results136]; go_simp) rfl ⟨rfl, ?_⟩
  repeat with_reducible refine K.Ext.setCell ?_ (by dsimp only; omega) _
  exact (by repeat' (first | with_reducible exact X0 | with_reducible refine K.Ext.setCell ?_ ?_ _ | with_reducible refine K.Ext.alloc ?_ _ | with_reducible refine K.Ext.drew ?_ | (dsimp only; omega) | omega | (simp; omega)))
set_option maxHeartbeats 1600000 in
theorem l03Add_any (a : Int × Int) (b : Int × Int)  (w : World) (h1 : -4000000000 ≤ a.1 ∧ a.1 ≤ 4000000000) (h2 : -4000000000 ≤ a.2 ∧ a.2 ≤ 4000000000) (h3 : -4000000000 ≤ b.1 ∧ b.1 ≤ 4000000000) (h4 : -4000000000 ≤ b.2 ∧ b.2 ≤ 4000000000)  :
    Calls Try.prog 174 #[.agg #[.int .i64 a.1, .int .i64 a.2], .agg #[.int .i64 b.1, .int .i64 b.2]] w fun e w' => e = .returned (.agg #[.int .i64 (Z.sumI a b).1, .int .i64 (Z.sumI a b).2]) ∧ K.Ext w w' := by
  have HE : Hid (Z.sumI a b = (a.1 + b.1, a.2 + b.2)) := Z.hide rfl
  obtain ⟨h1a, h1b⟩ := h1
  obtain ⟨h2a, h2b⟩ := h2
  obtain ⟨h3a, h3b⟩ := h3
  obtain ⟨h4a, h4b⟩ := h4
  have X0 : K.Ext w w := K.Ext.refl w
  go_enter Try.func174, Try.ntmps174
  go_wp2_with fail
  rw [HE.out]
  refine bodyPost_ret (v := .agg #[.int .i64 (a.1 + b.1), .int .i64 (a.2 + b.2)]) (by unfold results; rw [Try.results174]; go_simp) rfl ⟨rfl, ?_⟩
  repeat with_reducible refine K.Ext.setCell ?_ (by dsimp only; omega) _
  exact (by repeat' (first | with_reducible exact X0 | with_reducible refine K.Ext.setCell ?_ ?_ _ | with_reducible refine K.Ext.alloc ?_ _ | with_reducible refine K.Ext.drew ?_ | (dsimp only; omega) | omega | (simp; omega)))
end Go.Proofs.Ythmnlbgbacbocaa
end
section
namespace Go.Z
theorem fl_one (a : Int) : fl a 1 = a := fl_unique a 1 a (by decide) (by omega) (by omega)
theorem cl_one (a : Int) : cl a 1 = a := by unfold cl; rw [fl_one]; omega
end Go.Z
namespace Go.K
open Go.RowKit
theorem figs.at_ {w : World} {lo hi n c : Nat} {o : Option Addr} {fs : List (Int × Int)} (h : figs w lo hi (.slice o n c) fs) (h0 : 0 < fs.length) : ∃ b off, o = some ⟨b, off, none⟩ ∧ lo ≤ b ∧ b < hi ∧ ∀ i, i < fs.length → w.cell? ⟨b, off + i * 2, none⟩ = some (.int .i64 (fs.getD i (0, 0)).1) ∧ w.cell? ⟨b, off + i * 2 + 1, none⟩ = some (.int .i64 (fs.getD i (0, 0)).2) := by
  obtain ⟨o', c', hv, hh⟩ := h
  simp only [Value.slice.injEq] at hv
  obtain ⟨rfl, _, _⟩ := hv
  exact hh (by intro h; rw [h] at h0; simp at h0)
end Go.K
namespace Go.Proofs.Ythmnlbgbacbocaa
open Go.RowKit
set_option maxHeartbeats 1600000 in
theorem scaled_any (a : Int × Int) (n : Int)  (w : World) (h1 : -40000000 ≤ a.1 ∧ a.1 ≤ 40000000) (h2 : -40000000 ≤ a.2 ∧ a.2 ≤ 40000000) (hn : -6 ≤ n ∧ n ≤ 6)  :
    Calls Try.prog 135 #[.agg #[.int .i64 a.1, .int .i64 a.2], .int .i64 n, .int .i64 1] w fun e w' => e = .returned (.agg #[.int .i64 (Z.scale1 a n).1, .int .i64 (Z.scale1 a n).2]) ∧ K.Ext w w' := by
  obtain ⟨x1, x2⟩ := Z.mul_bd a.1 n 40000000 6 h1.1 h1.2 hn.1 hn.2
  obtain ⟨y1, y2⟩ := Z.mul_bd a.2 n 40000000 6 h2.1 h2.2 hn.1 hn.2
  have HE : Hid (Z.scale1 a n = (min (a.1 * n) (a.2 * n), max (a.1 * n) (a.2 * n))) := Z.hide rfl
  have q1 : IntKind.i64.wrap (a.1 * n) = a.1 * n := IntWalk.i64_in _ (by omega)
  have q2 : IntKind.i64.wrap (a.2 * n) = a.2 * n := IntWalk.i64_in _ (by omega)
  have HD : ∀ w : World, Calls Try.prog 185 #[.int .i64 (min (a.1 * n) (a.2 * n)), .int .i64 1] w fun e w' => e = .returned (.int .i64 (min (a.1 * n) (a.2 * n))) ∧ w = w' := fun w => by
    have h_ := down_any (min (a.1 * n) (a.2 * n)) 1 w (by decide) (by omega) (by omega)
    rwa [show Z.fl (min (a.1 * n) (a.2 * n)) 1 = min (a.1 * n) (a.2 * n) from Z.fl_one _] at h_
  have HU : ∀ w : World, Calls Try.prog 186 #[.int .i64 (max (a.1 * n) (a.2 * n)), .int .i64 1] w fun e w' => e = .returned (.int .i64 (max (a.1 * n) (a.2 * n))) ∧ w = w' := fun w => by
    have h_ := up_any (max (a.1 * n) (a.2 * n)) 1 w (by decide) (by omega) (by omega)
    rwa [show Z.cl (max (a.1 * n) (a.2 * n)) 1 = max (a.1 * n) (a.2 * n) from Z.cl_one _] at h_
  have X0 : K.Ext w w := K.Ext.refl w
  go_enter Try.func135, Try.ntmps135
  go_wp2_with fail
  refine K.wp_region_x 9 [0, 1, 0, 0, 0, 1, 0, 0, 0] [] (by kernel_rfl) (by kernel_rfl) ?_
  simp only [List.take_succ_cons, List.take_zero, List.drop_succ_cons, List.drop_zero]
  apply K.x_pure
  · rfl
  · rfl
  · intro w'; go_simp; first | done | exact K.vint (IntWalk.i64_in _ (by omega)) | rfl | exact ⟨rfl, rfl⟩
  simp only [Act.put, List.setIfInBounds_toArray, List.set]
  apply K.x_held
  · rfl
  · rfl
  · intro w' hx; have hc := hx.all.1.1; have hf := hx.all.1.2; have hc' := hx.all.2.1; have hf' := hx.all.2.2; go_simp; first | done | rfl | exact ⟨rfl, rfl⟩
  simp only [Act.put, List.setIfInBounds_toArray, List.set]
  iterate 3
    apply K.x_pure
    · rfl
    · rfl
    · intro w'; go_simp; first | done | exact K.vint (IntWalk.i64_in _ (by omega)) | rfl | exact ⟨rfl, rfl⟩
    simp only [Act.put, List.setIfInBounds_toArray, List.set]
  apply K.x_held
  · rfl
  · rfl
  · intro w' hx; have hc := hx.all.1.1; have hf := hx.all.1.2; have hc' := hx.all.2.1; have hf' := hx.all.2.2; go_simp; first | done | rfl | exact ⟨rfl, rfl⟩
  simp only [Act.put, List.setIfInBounds_toArray, List.set]
  iterate 3
    apply K.x_pure
    · rfl
    · rfl
    · intro w'; go_simp; first | done | exact K.vint (IntWalk.i64_in _ (by omega)) | rfl | exact ⟨rfl, rfl⟩
    simp only [Act.put, List.setIfInBounds_toArray, List.set]
  apply K.x_done
  intro w1 h_x
  have x1 := K.Ext.id h_x
  clear h_x
  obtain ⟨⟨hcw1, hfw1⟩, hc'w1, hf'w1⟩ := x1.all
  have s1 : w.heap.size + 2 ≤ w1.heap.size := (by have h_ := x1.size; (try simp at h_); omega)
  have X1 := K.Ext.trans (K.Ext.drew (K.Ext.alloc (K.Ext.alloc X0 _) _)) x1
  obtain ⟨c1_0_0, c1_0_1⟩ := K.c2 x1 (w.heap.size) (.int .i64 a.1) (.int .i64 a.2) (by go_simp)
  have z1_0 : w.heap.size < w1.heap.size := World.block_lt_of_cell? w1 _ c1_0_0
  have d1_0 : ¬ (w.heap.size = w1.heap.size) := (by omega)
  have e1_0 : ¬ (w1.heap.size = w.heap.size) := (by omega)
  obtain ⟨c1_1_0, c1_1_1⟩ := K.c2 x1 (w.heap.size + 1) (.int .i64 0) (.int .i64 0) (by go_simp)
  obtain ⟨f1_1_0, f1_1_1⟩ := K.f2 x1 (w.heap.size + 1) (by go_simp)
  have z1_1 : w.heap.size + 1 < w1.heap.size := World.block_lt_of_cell? w1 _ c1_1_0
  have d1_1 : ¬ (w.heap.size + 1 = w1.heap.size) := (by omega)
  have e1_1 : ¬ (w1.heap.size = w.heap.size + 1) := (by omega)
  have n1_0 : ¬ (w.heap.size + 1 = w.heap.size) := (by omega)
  have n0_1 : ¬ (w.heap.size = w.heap.size + 1) := (by omega)
  go_wp2_with fail
  refine NoPanic.normal ?_
  go_wp2_with (go_at_call 185; refine K.call (by with_reducible rfl) (by with_reducible rfl) (HD _) ?_; rintro e w_ ⟨rfl, rfl⟩)
  go_wp2_with (go_at_call 186; refine K.call (by with_reducible rfl) (by with_reducible rfl) (HU _) ?_; rintro e w_ ⟨rfl, rfl⟩)
  rw [HE.out]
  refine bodyPost_ret (v := .agg #[.int .i64 (min (a.1 * n) (a.2 * n)), .int .i64 (max (a.1 * n) (a.2 * n))]) (by unfold results; rw [Try.results135]; go_simp) rfl ⟨rfl, ?_⟩
  repeat with_reducible refine K.Ext.setCell ?_ (by dsimp only; omega) _
  exact (by repeat' (first | with_reducible exact X1 | with_reducible refine K.Ext.setCell ?_ ?_ _ | with_reducible refine K.Ext.alloc ?_ _ | with_reducible refine K.Ext.drew ?_ | (dsimp only; omega) | omega | (simp; omega)))
set_option maxHeartbeats 1600000 in
theorem l03Scale_any (a : Int × Int) (n : Int)  (w : World) (h1 : -40000000 ≤ a.1 ∧ a.1 ≤ 40000000) (h2 : -40000000 ≤ a.2 ∧ a.2 ≤ 40000000) (hn : -6 ≤ n ∧ n ≤ 6)  :
    Calls Try.prog 175 #[.agg #[.int .i64 a.1, .int .i64 a.2], .int .i64 n, .int .i64 1] w fun e w' => e = .returned (.agg #[.int .i64 (Z.scale1 a n).1, .int .i64 (Z.scale1 a n).2]) ∧ K.Ext w w' := by
  obtain ⟨x1, x2⟩ := Z.mul_bd a.1 n 40000000 6 h1.1 h1.2 hn.1 hn.2
  obtain ⟨y1, y2⟩ := Z.mul_bd a.2 n 40000000 6 h2.1 h2.2 hn.1 hn.2
  have HE : Hid (Z.scale1 a n = (min (a.1 * n) (a.2 * n), max (a.1 * n) (a.2 * n))) := Z.hide rfl
  have q1 : IntKind.i64.wrap (a.1 * n) = a.1 * n := IntWalk.i64_in _ (by omega)
  have q2 : IntKind.i64.wrap (a.2 * n) = a.2 * n := IntWalk.i64_in _ (by omega)
  have HD : ∀ w : World, Calls Try.prog 198 #[.int .i64 (min (a.1 * n) (a.2 * n)), .int .i64 1] w fun e w' => e = .returned (.int .i64 (min (a.1 * n) (a.2 * n))) ∧ w = w' := fun w => by
    have h_ := l01Floor_any (min (a.1 * n) (a.2 * n)) 1 w (by decide) (by omega) (by omega) (by decide) (by decide)
    rwa [show Z.fl (min (a.1 * n) (a.2 * n)) 1 = min (a.1 * n) (a.2 * n) from Z.fl_one _] at h_
  have HU : ∀ w : World, Calls Try.prog 199 #[.int .i64 (max (a.1 * n) (a.2 * n)), .int .i64 1] w fun e w' => e = .returned (.int .i64 (max (a.1 * n) (a.2 * n))) ∧ w = w' := fun w => by
    have h_ := l01Ceil_any (max (a.1 * n) (a.2 * n)) 1 w (by decide) (by omega) (by omega) (by decide) (by decide)
    rwa [show Z.cl (max (a.1 * n) (a.2 * n)) 1 = max (a.1 * n) (a.2 * n) from Z.cl_one _] at h_
  have X0 : K.Ext w w := K.Ext.refl w
  go_enter Try.func175, Try.ntmps175
  go_wp2_with fail
  refine K.wp_region_x 9 [0, 1, 0, 0, 0, 1, 0, 0, 0] [] (by kernel_rfl) (by kernel_rfl) ?_
  simp only [List.take_succ_cons, List.take_zero, List.drop_succ_cons, List.drop_zero]
  apply K.x_pure
  · rfl
  · rfl
  · intro w'; go_simp; first | done | exact K.vint (IntWalk.i64_in _ (by omega)) | rfl | exact ⟨rfl, rfl⟩
  simp only [Act.put, List.setIfInBounds_toArray, List.set]
  apply K.x_held
  · rfl
  · rfl
  · intro w' hx; have hc := hx.all.1.1; have hf := hx.all.1.2; have hc' := hx.all.2.1; have hf' := hx.all.2.2; go_simp; first | done | rfl | exact ⟨rfl, rfl⟩
  simp only [Act.put, List.setIfInBounds_toArray, List.set]
  iterate 3
    apply K.x_pure
    · rfl
    · rfl
    · intro w'; go_simp; first | done | exact K.vint (IntWalk.i64_in _ (by omega)) | rfl | exact ⟨rfl, rfl⟩
    simp only [Act.put, List.setIfInBounds_toArray, List.set]
  apply K.x_held
  · rfl
  · rfl
  · intro w' hx; have hc := hx.all.1.1; have hf := hx.all.1.2; have hc' := hx.all.2.1; have hf' := hx.all.2.2; go_simp; first | done | rfl | exact ⟨rfl, rfl⟩
  simp only [Act.put, List.setIfInBounds_toArray, List.set]
  iterate 3
    apply K.x_pure
    · rfl
    · rfl
    · intro w'; go_simp; first | done | exact K.vint (IntWalk.i64_in _ (by omega)) | rfl | exact ⟨rfl, rfl⟩
    simp only [Act.put, List.setIfInBounds_toArray, List.set]
  apply K.x_done
  intro w1 h_x
  have x1 := K.Ext.id h_x
  clear h_x
  obtain ⟨⟨hcw1, hfw1⟩, hc'w1, hf'w1⟩ := x1.all
  have s1 : w.heap.size + 2 ≤ w1.heap.size := (by have h_ := x1.size; (try simp at h_); omega)
  have X1 := K.Ext.trans (K.Ext.drew (K.Ext.alloc (K.Ext.alloc X0 _) _)) x1
  obtain ⟨c1_0_0, c1_0_1⟩ := K.c2 x1 (w.heap.size) (.int .i64 a.1) (.int .i64 a.2) (by go_simp)
  have z1_0 : w.heap.size < w1.heap.size := World.block_lt_of_cell? w1 _ c1_0_0
  have d1_0 : ¬ (w.heap.size = w1.heap.size) := (by omega)
  have e1_0 : ¬ (w1.heap.size = w.heap.size) := (by omega)
  obtain ⟨c1_1_0, c1_1_1⟩ := K.c2 x1 (w.heap.size + 1) (.int .i64 0) (.int .i64 0) (by go_simp)
  obtain ⟨f1_1_0, f1_1_1⟩ := K.f2 x1 (w.heap.size + 1) (by go_simp)
  have z1_1 : w.heap.size + 1 < w1.heap.size := World.block_lt_of_cell? w1 _ c1_1_0
  have d1_1 : ¬ (w.heap.size + 1 = w1.heap.size) := (by omega)
  have e1_1 : ¬ (w1.heap.size = w.heap.size + 1) := (by omega)
  have n1_0 : ¬ (w.heap.size + 1 = w.heap.size) := (by omega)
  have n0_1 : ¬ (w.heap.size = w.heap.size + 1) := (by omega)
  go_wp2_with fail
  refine NoPanic.normal ?_
  go_wp2_with (go_at_call 198; refine K.call (by with_reducible rfl) (by with_reducible rfl) (HD _) ?_; rintro e w_ ⟨rfl, rfl⟩)
  go_wp2_with (go_at_call 199; refine K.call (by with_reducible rfl) (by with_reducible rfl) (HU _) ?_; rintro e w_ ⟨rfl, rfl⟩)
  rw [HE.out]
  refine bodyPost_ret (v := .agg #[.int .i64 (min (a.1 * n) (a.2 * n)), .int .i64 (max (a.1 * n) (a.2 * n))]) (by unfold results; rw [Try.results175]; go_simp) rfl ⟨rfl, ?_⟩
  repeat with_reducible refine K.Ext.setCell ?_ (by dsimp only; omega) _
  exact (by repeat' (first | with_reducible exact X1 | with_reducible refine K.Ext.setCell ?_ ?_ _ | with_reducible refine K.Ext.alloc ?_ _ | with_reducible refine K.Ext.drew ?_ | (dsimp only; omega) | omega | (simp; omega)))
set_option maxHeartbeats 6400000 in
theorem formulaLog_any (F : Z.Fm) (vs : List (Int × Int)) {lo hi lo' hi' : Nat} {p v : Value} (w : World) (hF : Z.isFormula F = true) (hl : vs.length = F.nm.size) (hv : Z.areFigs vs = true) (h : K.ints w lo hi p F.pw) (h' : K.recs false K.FgR w lo' hi' v vs) :
    Calls Try.prog 125 #[.agg #[.int .i64 F.dg, .int .i64 F.tn, .string F.nm, p], v] w fun e w' => e = .returned (.agg #[.int .i64 (Z.logK (F.dg, F.tn) vs F.pw vs.length).1, .int .i64 (Z.logK (F.dg, F.tn) vs F.pw vs.length).2]) ∧ K.Ext w w' := by
  have g1 := h
  obtain ⟨o, cap, rfl, _⟩ := g1
  have g2 := h'
  obtain ⟨o', cap', rfl, _⟩ := g2
  have HI := Z.hide h
  have HV := Z.hide h'
  obtain ⟨hpl, h6⟩ := Z.isFormula_len hF
  obtain ⟨n, hn⟩ : ∃ n, n = vs.length := ⟨_, rfl⟩
  have hf : Z.isFig F.dg F.tn = true := by simp only [Z.isFormula, Bool.and_eq_true] at hF; exact hF.1.1.1
  have hvs := Z.areFigs_at hv
  have hps : ∀ i, i < vs.length → -6 ≤ F.pw.getD i 0 ∧ F.pw.getD i 0 ≤ 6 := fun i hi => by
    have := Z.okAt_parts (Z.valid_at hF i (by omega))
    exact ⟨this.2.2.2.2.1, this.2.2.2.2.2⟩
  have HB := Z.hide (Z.logK_bd (f := (F.dg, F.tn)) (ps := F.pw) hf hvs hps)
  have H0 : Hid (∀ w : World, Calls Try.prog 132 #[.agg #[.int .i64 F.dg, .int .i64 F.tn]] w fun e w' => e = .returned (.agg #[.int .i64 (Z.logK (F.dg, F.tn) vs F.pw 0).1, .int .i64 (Z.logK (F.dg, F.tn) vs F.pw 0).2]) ∧ K.Ext w w') := Z.hide (fun w => figureLog_any (F.dg, F.tn) w hf)
  have HVS := Z.hide hvs
  have HPS := Z.hide hps
  have hn6 : n ≤ 6 := by omega
  have hnp : n ≤ F.pw.length := by omega
  have HN := Z.hide hn
  rw [← hn]
  clear h h' hF hl hv hpl h6 hf hvs hps hn
  go_enter Try.func125, Try.ntmps125
  go_wp2_with ((go_at_call 132; refine K.call (by with_reducible rfl) (by with_reducible rfl) (H0.out _) ?_; rintro e w1 ⟨rfl, hw1⟩))
  have s1 : w.heap.size + 2 ≤ w1.heap.size := by have h_ := hw1.size; simp at h_; omega
  have B0 := Z.hide (show w1.heap[w.heap.size]? = some (.cells #[.int .i64 F.dg, .int .i64 F.tn, .string F.nm, .slice o F.pw.length cap] 32) from K.Ext.block_of (((K.Ext.refl _).alloc _).block (K.block_new rfl)) hw1)
  have B1 := Z.hide (show w1.heap[w.heap.size + 1]? = some (.cells #[.int .i64 0, .int .i64 0] 73) from K.Ext.block_of (K.block_new (by simp)) hw1)
  have HX1 : Hid (K.Ext w w1) := Z.hide (by repeat' (first | with_reducible exact K.Ext.refl _ | with_reducible assumption | with_reducible refine K.Ext.drew ?_ | with_reducible refine K.Ext.alloc ?_ _ | with_reducible refine K.Ext.setCell ?_ ?_ _ | with_reducible refine K.Ext.trans ?_ (by with_reducible assumption) | (dsimp only; omega) | omega | exact K.Ext.refl _ | assumption | apply K.Ext.drew | refine K.Ext.alloc ?_ _ | refine K.Ext.setCell ?_ ?_ _ | (simp; done) | (simp; omega) | refine K.Ext.trans ?_ (by assumption)))
  clear hw1
  try rw [← HN.out]
  go_loopw [13] (fun i wr => ∃ k : Nat, k ≤ n ∧ i = .int .i64 k ∧ Hid (wr.heap[w.heap.size]? = some (.cells #[.int .i64 F.dg, .int .i64 F.tn, .string F.nm, .slice o F.pw.length cap] 32)) ∧ Hid (wr.heap[w.heap.size + 1]? = some (.cells #[.int .i64 0, .int .i64 0] 73)) ∧ Hid (wr.heap[w1.heap.size]? = some (.cells #[.int .i64 (Z.logK (F.dg, F.tn) vs F.pw k).1, .int .i64 (Z.logK (F.dg, F.tn) vs F.pw k).2] 73)) ∧ Hid (K.Ext w wr)) (fun i _ => n - (intOf i).toNat)
  case atStart => exact ⟨0, Nat.zero_le _, rfl, Z.hide (K.Ext.block_of B0.out ((K.Ext.refl _).alloc _)), Z.hide (K.Ext.block_of B1.out ((K.Ext.refl _).alloc _)), Z.hide (K.block_new rfl), Z.hide (HX1.out.alloc _)⟩
  case round =>
    obtain ⟨k, hk, rfl, C0, C1, C2, HX⟩ := hrel
    clear B0 B1 HX1 H0
    have k0 : (0 : Int) ≤ (k : Int) := Int.natCast_nonneg k
    have lw : w1.heap.size < wr.heap.size := (Array.getElem?_eq_some_iff.1 C2.out).1
    by_cases hlt : k < n
    · have k1 : (k : Int) < (n : Int) := by omega
      have k2 : (k : Int) < (F.pw.length : Int) := by omega
      have hkv : k < vs.length := by rw [← HN.out]; exact hlt
      obtain ⟨b, off, rfl, _, _, hc, _⟩ := K.recs_at HV.out (by omega)
      obtain ⟨b', off', rfl, _, _, hc'⟩ := K.ints_at HI.out (by omega)
      have e : vs[k]'hkv = vs.getD k (0, 0) := by simp [List.getD_eq_getElem?_getD, hkv]
      have v0 : wr.cell? ⟨b, off + k * 2, none⟩ = some (.int .i64 (vs.getD k (0, 0)).1) := by rw [← e]; exact HX.out.cell_of (hc k hkv 0 (by decide))
      have v1 : wr.cell? ⟨b, off + k * 2 + 1, none⟩ = some (.int .i64 (vs.getD k (0, 0)).2) := by rw [← e]; exact HX.out.cell_of (hc k hkv 1 (by decide))
      have p0 : wr.cell? ⟨b', off' + k, none⟩ = some (.int .i64 (F.pw.getD k 0)) := HX.out.cell_of (hc' k (by omega))
      have hvk := HVS.out k hkv
      have hpk := HPS.out k hkv
      obtain ⟨⟨u1, u2⟩, u3, u4⟩ := HB.out k (by omega)
      have hgb := Z.figLog_bd hvk
      obtain ⟨u, hu⟩ : ∃ u, u = Z.logK (F.dg, F.tn) vs F.pw k := ⟨_, rfl⟩
      obtain ⟨f, hf⟩ : ∃ f, f = vs.getD k (0, 0) := ⟨_, rfl⟩
      obtain ⟨m, hm⟩ : ∃ m, m = F.pw.getD k 0 := ⟨_, rfl⟩
      obtain ⟨g, hg⟩ : ∃ g, g = Z.figLog f := ⟨_, rfl⟩
      obtain ⟨s, hs⟩ : ∃ s, s = Z.scale1 g m := ⟨_, rfl⟩
      have HL : Hid (Z.logK (F.dg, F.tn) vs F.pw (k + 1) = (u.1 + s.1, u.2 + s.2)) := Z.hide (by rw [hs, hg, hf, hm, hu]; rfl)
      rw [← hu] at u1 u2 u3 u4 C2
      rw [← hf] at v0 v1 hvk hgb
      rw [← hm] at p0 hpk
      rw [← hg] at hgb
      have hsb := Z.scale1_bd hgb.1 hgb.2 hpk
      rw [← hs] at hsb
      have HG : Hid (∀ w : World, Calls Try.prog 132 #[.agg #[.int .i64 f.1, .int .i64 f.2]] w fun e w' => e = .returned (.agg #[.int .i64 g.1, .int .i64 g.2]) ∧ K.Ext w w') := Z.hide (fun w => by rw [hg]; exact figureLog_any f w hvk)
      have HSc : Hid (∀ w : World, Calls Try.prog 135 #[.agg #[.int .i64 g.1, .int .i64 g.2], .int .i64 m, .int .i64 1] w fun e w' => e = .returned (.agg #[.int .i64 s.1, .int .i64 s.2]) ∧ K.Ext w w') := Z.hide (fun w => by rw [hs]; exact scaled_any g m w hgb.1 hgb.2 hpk)
      have HSm : Hid (∀ w : World, Calls Try.prog 136 #[.agg #[.int .i64 u.1, .int .i64 u.2], .agg #[.int .i64 s.1, .int .i64 s.2]] w fun e w' => e = .returned (.agg #[.int .i64 (u.1 + s.1), .int .i64 (u.2 + s.2)]) ∧ K.Ext w w') := Z.hide (fun w => sum_any u s w ⟨by omega, by omega⟩ ⟨by omega, by omega⟩ ⟨by omega, by omega⟩ ⟨by omega, by omega⟩)
      have lb : b < wr.heap.size := World.block_lt_of_cell? wr _ v0
      have lb' : b' < wr.heap.size := World.block_lt_of_cell? wr _ p0
      have n1 : ¬ (b = wr.heap.size) := by omega
      have n2 : ¬ (b' = wr.heap.size) := by omega
      have n3 : ¬ (w1.heap.size = wr.heap.size) := by omega
      have n4 : ¬ (w.heap.size = wr.heap.size) := by omega
      have l4 : w.heap.size < wr.heap.size := by omega
      have l5 : w.heap.size + 1 < wr.heap.size := by omega
      have b1_c0 : wr.cell? ⟨w.heap.size, 0, none⟩ = some (.int .i64 (F.dg)) := K.cell_at C0.out rfl; have b1_f0 : wr.frozen? ⟨w.heap.size, 0, none⟩ = false := K.thaw_at C0.out; have b1_c1 : wr.cell? ⟨w.heap.size, 1, none⟩ = some (.int .i64 (F.tn)) := K.cell_at C0.out rfl; have b1_f1 : wr.frozen? ⟨w.heap.size, 1, none⟩ = false := K.thaw_at C0.out; have b1_c2 : wr.cell? ⟨w.heap.size, 2, none⟩ = some (.string F.nm) := K.cell_at C0.out rfl; have b1_f2 : wr.frozen? ⟨w.heap.size, 2, none⟩ = false := K.thaw_at C0.out; have b1_c3 : wr.cell? ⟨w.heap.size, 3, none⟩ = some (.slice (some ⟨b', off', none⟩) F.pw.length cap) := K.cell_at C0.out rfl; have b1_f3 : wr.frozen? ⟨w.heap.size, 3, none⟩ = false := K.thaw_at C0.out
      have b2_c0 : wr.cell? ⟨w1.heap.size, 0, none⟩ = some (.int .i64 (u.1)) := K.cell_at C2.out rfl; have b2_f0 : wr.frozen? ⟨w1.heap.size, 0, none⟩ = false := K.thaw_at C2.out; have b2_c1 : wr.cell? ⟨w1.heap.size, 1, none⟩ = some (.int .i64 (u.2)) := K.cell_at C2.out rfl; have b2_f1 : wr.frozen? ⟨w1.heap.size, 1, none⟩ = false := K.thaw_at C2.out
      clear hu hf hm hg hs hc hc' hvk hgb hsb e hpk u1 u2 u3 u4 hkv
      go_wp2_with fail
      refine K.wp_region_x 10 [1, 1, 2, 0, 1, 0, 0, 1, 2, 2] [K.SP.any, K.SP.any, K.SP.is (.agg #[.int .i64 g.1, .int .i64 g.2]), K.SP.any, K.SP.any, K.SP.any, K.SP.any, K.SP.any, K.SP.is (.agg #[.int .i64 s.1, .int .i64 s.2]), K.SP.is (.agg #[.int .i64 (u.1 + s.1), .int .i64 (u.2 + s.2)])] (by kernel_rfl) (by kernel_rfl) ?_
      simp only [List.take_succ_cons, List.take_zero, List.drop_succ_cons, List.drop_zero]
      iterate 2
        apply K.x_held
        · rfl
        · rfl
        · intro w' hx; have hc := hx.all.1.1; have hf := hx.all.1.2; have hc' := hx.all.2.1; have hf' := hx.all.2.2; go_simp; first | done | rfl | exact ⟨rfl, rfl⟩
        simp only [Act.put, List.setIfInBounds_toArray, List.set]
      apply K.x_call_is
      · rfl
      · rfl
      · rfl
      · intro w'; go_simp; first | done | rfl | exact ⟨rfl, rfl⟩
      · intro w' hx hp; have hc := hx.all.1.1; have hf := hx.all.1.2; have hc' := hx.all.2.1; have hf' := hx.all.2.2; exact HG.out _
      intro w_2_ hx_2_
      simp only [Act.put, List.setIfInBounds_toArray, List.set]
      apply K.x_pure
      · rfl
      · rfl
      · intro w'; go_simp; first | done | exact K.vint (IntWalk.i64_in _ (by omega)) | rfl | exact ⟨rfl, rfl⟩
      simp only [Act.put, List.setIfInBounds_toArray, List.set]
      apply K.x_held
      · rfl
      · rfl
      · intro w' hx; have hc := hx.all.1.1; have hf := hx.all.1.2; have hc' := hx.all.2.1; have hf' := hx.all.2.2; go_simp; first | done | rfl | exact ⟨rfl, rfl⟩
      simp only [Act.put, List.setIfInBounds_toArray, List.set]
      iterate 2
        apply K.x_pure
        · rfl
        · rfl
        · intro w'; go_simp; first | done | exact K.vint (IntWalk.i64_in _ (by omega)) | rfl | exact ⟨rfl, rfl⟩
        simp only [Act.put, List.setIfInBounds_toArray, List.set]
      apply K.x_held
      · rfl
      · rfl
      · intro w' hx; have hc := hx.all.1.1; have hf := hx.all.1.2; have hc' := hx.all.2.1; have hf' := hx.all.2.2; go_simp; first | done | rfl | exact ⟨rfl, rfl⟩
      simp only [Act.put, List.setIfInBounds_toArray, List.set]
      apply K.x_call_is
      · rfl
      · rfl
      · rfl
      · intro w'; go_simp; first | done | rfl | exact ⟨rfl, rfl⟩
      · intro w' hx hp; have hc := hx.all.1.1; have hf := hx.all.1.2; have hc' := hx.all.2.1; have hf' := hx.all.2.2; exact HSc.out _
      intro w_8_ hx_8_
      simp only [Act.put, List.setIfInBounds_toArray, List.set]
      apply K.x_call_is
      · rfl
      · rfl
      · rfl
      · intro w'; go_simp; first | done | rfl | exact ⟨rfl, rfl⟩
      · intro w' hx hp; have hc := hx.all.1.1; have hf := hx.all.1.2; have hc' := hx.all.2.1; have hf' := hx.all.2.2; exact HSm.out _
      intro w_9_ hx_9_
      simp only [Act.put, List.setIfInBounds_toArray, List.set]
      apply K.x_done
      intro w6 h_x
      have hx6 := hx_2_.trans (hx_8_.trans (hx_9_.trans h_x))
      clear h_x hx_2_ hx_8_ hx_9_
      obtain ⟨⟨hcw6, hfw6⟩, hc'w6, hf'w6⟩ := hx6.all
      go_wp2_with fail
      refine NoPanic.normal ?_
      have D0 := Z.hide (K.Ext.block_of (K.Ext.block_of C0.out (((K.Ext.refl _).alloc _).drew)) hx6)
      have D1 := Z.hide (K.Ext.block_of (K.Ext.block_of C1.out (((K.Ext.refl _).alloc _).drew)) hx6)
      have D2 := Z.hide (K.Ext.block_of (K.Ext.block_of C2.out (((K.Ext.refl _).alloc _).drew)) hx6)
      have HX6 : Hid (K.Ext w w6) := Z.hide (K.Ext.trans ((HX.out.alloc _).drew) hx6)
      have b3_c0 : w6.cell? ⟨w1.heap.size, 0, none⟩ = some (.int .i64 (u.1)) := K.cell_at D2.out rfl; have b3_f0 : w6.frozen? ⟨w1.heap.size, 0, none⟩ = false := K.thaw_at D2.out; have b3_c1 : w6.cell? ⟨w1.heap.size, 1, none⟩ = some (.int .i64 (u.2)) := K.cell_at D2.out rfl; have b3_f1 : w6.frozen? ⟨w1.heap.size, 1, none⟩ = false := K.thaw_at D2.out
      go_wp2
      go_roundw
      case rel =>
        refine ⟨k + 1, by omega, by go_num, Z.hide ?_, Z.hide ?_, Z.hide ?_, Z.hide ?_⟩
        · iterate 2 with_reducible refine Eq.trans (K.set_block (by dsimp only; omega)) ?_
          exact D0.out
        · iterate 2 with_reducible refine Eq.trans (K.set_block (by dsimp only; omega)) ?_
          exact D1.out
        · rw [HL.out]; exact Joins.block_setCell (Joins.block_setCell D2.out _) _
        · iterate 2 with_reducible refine K.Ext.setCell ?_ (by dsimp only; omega) _
          exact HX6.out
      case measure => simp [intOf]; omega
    · obtain rfl : k = n := by omega
      obtain ⟨u, hu⟩ : ∃ u, u = Z.logK (F.dg, F.tn) vs F.pw k := ⟨_, rfl⟩
      rw [← hu] at C2
      have HU := Z.hide hu
      clear hu
      have b4_c0 : wr.cell? ⟨w1.heap.size, 0, none⟩ = some (.int .i64 (u.1)) := K.cell_at C2.out rfl; have b4_f0 : wr.frozen? ⟨w1.heap.size, 0, none⟩ = false := K.thaw_at C2.out; have b4_c1 : wr.cell? ⟨w1.heap.size, 1, none⟩ = some (.int .i64 (u.2)) := K.cell_at C2.out rfl; have b4_f1 : wr.frozen? ⟨w1.heap.size, 1, none⟩ = false := K.thaw_at C2.out
      have b5_c0 : wr.cell? ⟨w.heap.size + 1, 0, none⟩ = some (.int .i64 (0)) := K.cell_at C1.out rfl; have b5_f0 : wr.frozen? ⟨w.heap.size + 1, 0, none⟩ = false := K.thaw_at C1.out; have b5_c1 : wr.cell? ⟨w.heap.size + 1, 1, none⟩ = some (.int .i64 (0)) := K.cell_at C1.out rfl; have b5_f1 : wr.frozen? ⟨w.heap.size + 1, 1, none⟩ = false := K.thaw_at C1.out
      go_wp2
      refine bodyPost_ret (v := .agg #[.int .i64 u.1, .int .i64 u.2]) (by unfold results; rw [Try.results125]; go_simp) rfl ⟨by rw [HU.out], ?_⟩
      repeat with_reducible refine K.Ext.setCell ?_ (by dsimp only; omega) _
      exact HX.out
set_option maxHeartbeats 6400000 in
theorem l18Log_any (F : Z.Fm) (vs : List (Int × Int)) {lo hi lo' hi' : Nat} {p v : Value} (w : World) (hF : Z.isFormula F = true) (hl : vs.length = F.nm.size) (hv : Z.areFigs vs = true) (h : K.ints w lo hi p F.pw) (h' : K.recs false K.FgR w lo' hi' v vs) :
    Calls Try.prog 127 #[.agg #[.int .i64 F.dg, .int .i64 F.tn, .string F.nm, p], v] w fun e w' => e = .returned (.agg #[.int .i64 (Z.logK (F.dg, F.tn) vs F.pw vs.length).1, .int .i64 (Z.logK (F.dg, F.tn) vs F.pw vs.length).2]) ∧ K.Ext w w' := by
  have g1 := h
  obtain ⟨o, cap, rfl, _⟩ := g1
  have g2 := h'
  obtain ⟨o', cap', rfl, _⟩ := g2
  have HI := Z.hide h
  have HV := Z.hide h'
  obtain ⟨hpl, h6⟩ := Z.isFormula_len hF
  obtain ⟨n, hn⟩ : ∃ n, n = vs.length := ⟨_, rfl⟩
  have hf : Z.isFig F.dg F.tn = true := by simp only [Z.isFormula, Bool.and_eq_true] at hF; exact hF.1.1.1
  have hvs := Z.areFigs_at hv
  have hps : ∀ i, i < vs.length → -6 ≤ F.pw.getD i 0 ∧ F.pw.getD i 0 ≤ 6 := fun i hi => by
    have := Z.okAt_parts (Z.valid_at hF i (by omega))
    exact ⟨this.2.2.2.2.1, this.2.2.2.2.2⟩
  have HB := Z.hide (Z.logK_bd (f := (F.dg, F.tn)) (ps := F.pw) hf hvs hps)
  have H0 : Hid (∀ w : World, Calls Try.prog 173 #[.agg #[.int .i64 F.dg, .int .i64 F.tn]] w fun e w' => e = .returned (.agg #[.int .i64 (Z.logK (F.dg, F.tn) vs F.pw 0).1, .int .i64 (Z.logK (F.dg, F.tn) vs F.pw 0).2]) ∧ K.Ext w w') := Z.hide (fun w => l03Figure_any (F.dg, F.tn) w hf)
  have HVS := Z.hide hvs
  have HPS := Z.hide hps
  have hn6 : n ≤ 6 := by omega
  have hnp : n ≤ F.pw.length := by omega
  have HN := Z.hide hn
  rw [← hn]
  clear h h' hF hl hv hpl h6 hf hvs hps hn
  go_enter Try.func127, Try.ntmps127
  go_wp2_with ((go_at_call 173; refine K.call (by with_reducible rfl) (by with_reducible rfl) (H0.out _) ?_; rintro e w1 ⟨rfl, hw1⟩))
  have s1 : w.heap.size + 2 ≤ w1.heap.size := by have h_ := hw1.size; simp at h_; omega
  have B0 := Z.hide (show w1.heap[w.heap.size]? = some (.cells #[.int .i64 F.dg, .int .i64 F.tn, .string F.nm, .slice o F.pw.length cap] 32) from K.Ext.block_of (((K.Ext.refl _).alloc _).block (K.block_new rfl)) hw1)
  have B1 := Z.hide (show w1.heap[w.heap.size + 1]? = some (.cells #[.int .i64 0, .int .i64 0] 73) from K.Ext.block_of (K.block_new (by simp)) hw1)
  have HX1 : Hid (K.Ext w w1) := Z.hide (by repeat' (first | with_reducible exact K.Ext.refl _ | with_reducible assumption | with_reducible refine K.Ext.drew ?_ | with_reducible refine K.Ext.alloc ?_ _ | with_reducible refine K.Ext.setCell ?_ ?_ _ | with_reducible refine K.Ext.trans ?_ (by with_reducible assumption) | (dsimp only; omega) | omega | exact K.Ext.refl _ | assumption | apply K.Ext.drew | refine K.Ext.alloc ?_ _ | refine K.Ext.setCell ?_ ?_ _ | (simp; done) | (simp; omega) | refine K.Ext.trans ?_ (by assumption)))
  clear hw1
  try rw [← HN.out]
  go_loopw [6] (fun i wr => ∃ k : Nat, k ≤ n ∧ i = .int .i64 k ∧ Hid (wr.heap[w.heap.size]? = some (.cells #[.int .i64 F.dg, .int .i64 F.tn, .string F.nm, .slice o F.pw.length cap] 32)) ∧ Hid (wr.heap[w.heap.size + 1]? = some (.cells #[.int .i64 0, .int .i64 0] 73)) ∧ Hid (wr.heap[w1.heap.size]? = some (.cells #[.int .i64 (Z.logK (F.dg, F.tn) vs F.pw k).1, .int .i64 (Z.logK (F.dg, F.tn) vs F.pw k).2] 73)) ∧ Hid (K.Ext w wr)) (fun i _ => n - (intOf i).toNat)
  case atStart => exact ⟨0, Nat.zero_le _, rfl, Z.hide (K.Ext.block_of B0.out ((K.Ext.refl _).alloc _)), Z.hide (K.Ext.block_of B1.out ((K.Ext.refl _).alloc _)), Z.hide (K.block_new rfl), Z.hide (HX1.out.alloc _)⟩
  case round =>
    obtain ⟨k, hk, rfl, C0, C1, C2, HX⟩ := hrel
    clear B0 B1 HX1 H0
    have k0 : (0 : Int) ≤ (k : Int) := Int.natCast_nonneg k
    have lw : w1.heap.size < wr.heap.size := (Array.getElem?_eq_some_iff.1 C2.out).1
    by_cases hlt : k < n
    · have k1 : (k : Int) < (n : Int) := by omega
      have k2 : (k : Int) < (F.pw.length : Int) := by omega
      have hkv : k < vs.length := by rw [← HN.out]; exact hlt
      obtain ⟨b, off, rfl, _, _, hc, _⟩ := K.recs_at HV.out (by omega)
      obtain ⟨b', off', rfl, _, _, hc'⟩ := K.ints_at HI.out (by omega)
      have e : vs[k]'hkv = vs.getD k (0, 0) := by simp [List.getD_eq_getElem?_getD, hkv]
      have v0 : wr.cell? ⟨b, off + k * 2, none⟩ = some (.int .i64 (vs.getD k (0, 0)).1) := by rw [← e]; exact HX.out.cell_of (hc k hkv 0 (by decide))
      have v1 : wr.cell? ⟨b, off + k * 2 + 1, none⟩ = some (.int .i64 (vs.getD k (0, 0)).2) := by rw [← e]; exact HX.out.cell_of (hc k hkv 1 (by decide))
      have p0 : wr.cell? ⟨b', off' + k, none⟩ = some (.int .i64 (F.pw.getD k 0)) := HX.out.cell_of (hc' k (by omega))
      have hvk := HVS.out k hkv
      have hpk := HPS.out k hkv
      obtain ⟨⟨u1, u2⟩, u3, u4⟩ := HB.out k (by omega)
      have hgb := Z.figLog_bd hvk
      obtain ⟨u, hu⟩ : ∃ u, u = Z.logK (F.dg, F.tn) vs F.pw k := ⟨_, rfl⟩
      obtain ⟨f, hf⟩ : ∃ f, f = vs.getD k (0, 0) := ⟨_, rfl⟩
      obtain ⟨m, hm⟩ : ∃ m, m = F.pw.getD k 0 := ⟨_, rfl⟩
      obtain ⟨g, hg⟩ : ∃ g, g = Z.figLog f := ⟨_, rfl⟩
      obtain ⟨s, hs⟩ : ∃ s, s = Z.scale1 g m := ⟨_, rfl⟩
      have HL : Hid (Z.logK (F.dg, F.tn) vs F.pw (k + 1) = (u.1 + s.1, u.2 + s.2)) := Z.hide (by rw [hs, hg, hf, hm, hu]; rfl)
      rw [← hu] at u1 u2 u3 u4 C2
      rw [← hf] at v0 v1 hvk hgb
      rw [← hm] at p0 hpk
      rw [← hg] at hgb
      have hsb := Z.scale1_bd hgb.1 hgb.2 hpk
      rw [← hs] at hsb
      have HG : Hid (∀ w : World, Calls Try.prog 173 #[.agg #[.int .i64 f.1, .int .i64 f.2]] w fun e w' => e = .returned (.agg #[.int .i64 g.1, .int .i64 g.2]) ∧ K.Ext w w') := Z.hide (fun w => by rw [hg]; exact l03Figure_any f w hvk)
      have HSc : Hid (∀ w : World, Calls Try.prog 175 #[.agg #[.int .i64 g.1, .int .i64 g.2], .int .i64 m, .int .i64 1] w fun e w' => e = .returned (.agg #[.int .i64 s.1, .int .i64 s.2]) ∧ K.Ext w w') := Z.hide (fun w => by rw [hs]; exact l03Scale_any g m w hgb.1 hgb.2 hpk)
      have HSm : Hid (∀ w : World, Calls Try.prog 174 #[.agg #[.int .i64 u.1, .int .i64 u.2], .agg #[.int .i64 s.1, .int .i64 s.2]] w fun e w' => e = .returned (.agg #[.int .i64 (u.1 + s.1), .int .i64 (u.2 + s.2)]) ∧ K.Ext w w') := Z.hide (fun w => l03Add_any u s w ⟨by omega, by omega⟩ ⟨by omega, by omega⟩ ⟨by omega, by omega⟩ ⟨by omega, by omega⟩)
      have lb : b < wr.heap.size := World.block_lt_of_cell? wr _ v0
      have lb' : b' < wr.heap.size := World.block_lt_of_cell? wr _ p0
      have n1 : ¬ (b = wr.heap.size) := by omega
      have n2 : ¬ (b' = wr.heap.size) := by omega
      have n3 : ¬ (w1.heap.size = wr.heap.size) := by omega
      have n4 : ¬ (w.heap.size = wr.heap.size) := by omega
      have l4 : w.heap.size < wr.heap.size := by omega
      have l5 : w.heap.size + 1 < wr.heap.size := by omega
      have b6_c0 : wr.cell? ⟨w.heap.size, 0, none⟩ = some (.int .i64 (F.dg)) := K.cell_at C0.out rfl; have b6_f0 : wr.frozen? ⟨w.heap.size, 0, none⟩ = false := K.thaw_at C0.out; have b6_c1 : wr.cell? ⟨w.heap.size, 1, none⟩ = some (.int .i64 (F.tn)) := K.cell_at C0.out rfl; have b6_f1 : wr.frozen? ⟨w.heap.size, 1, none⟩ = false := K.thaw_at C0.out; have b6_c2 : wr.cell? ⟨w.heap.size, 2, none⟩ = some (.string F.nm) := K.cell_at C0.out rfl; have b6_f2 : wr.frozen? ⟨w.heap.size, 2, none⟩ = false := K.thaw_at C0.out; have b6_c3 : wr.cell? ⟨w.heap.size, 3, none⟩ = some (.slice (some ⟨b', off', none⟩) F.pw.length cap) := K.cell_at C0.out rfl; have b6_f3 : wr.frozen? ⟨w.heap.size, 3, none⟩ = false := K.thaw_at C0.out
      have b7_c0 : wr.cell? ⟨w1.heap.size, 0, none⟩ = some (.int .i64 (u.1)) := K.cell_at C2.out rfl; have b7_f0 : wr.frozen? ⟨w1.heap.size, 0, none⟩ = false := K.thaw_at C2.out; have b7_c1 : wr.cell? ⟨w1.heap.size, 1, none⟩ = some (.int .i64 (u.2)) := K.cell_at C2.out rfl; have b7_f1 : wr.frozen? ⟨w1.heap.size, 1, none⟩ = false := K.thaw_at C2.out
      clear hu hf hm hg hs hc hc' hvk hgb hsb e hpk u1 u2 u3 u4 hkv
      go_wp2_with fail
      refine K.wp_region_x 13 [1, 0, 0, 0, 1, 2, 0, 1, 0, 0, 1, 2, 2] [K.SP.any, K.SP.any, K.SP.any, K.SP.any, K.SP.any, K.SP.is (.agg #[.int .i64 g.1, .int .i64 g.2]), K.SP.any, K.SP.any, K.SP.any, K.SP.any, K.SP.any, K.SP.is (.agg #[.int .i64 s.1, .int .i64 s.2]), K.SP.is (.agg #[.int .i64 (u.1 + s.1), .int .i64 (u.2 + s.2)])] (by kernel_rfl) (by kernel_rfl) ?_
      simp only [List.take_succ_cons, List.take_zero, List.drop_succ_cons, List.drop_zero]
      apply K.x_held
      · rfl
      · rfl
      · intro w' hx; have hc := hx.all.1.1; have hf := hx.all.1.2; have hc' := hx.all.2.1; have hf' := hx.all.2.2; go_simp; first | done | rfl | exact ⟨rfl, rfl⟩
      simp only [Act.put, List.setIfInBounds_toArray, List.set]
      iterate 3
        apply K.x_pure
        · rfl
        · rfl
        · intro w'; go_simp; first | done | exact K.vint (IntWalk.i64_in _ (by omega)) | rfl | exact ⟨rfl, rfl⟩
        simp only [Act.put, List.setIfInBounds_toArray, List.set]
      apply K.x_held
      · rfl
      · rfl
      · intro w' hx; have hc := hx.all.1.1; have hf := hx.all.1.2; have hc' := hx.all.2.1; have hf' := hx.all.2.2; go_simp; first | done | rfl | exact ⟨rfl, rfl⟩
      simp only [Act.put, List.setIfInBounds_toArray, List.set]
      apply K.x_call_is
      · rfl
      · rfl
      · rfl
      · intro w'; go_simp; first | done | rfl | exact ⟨rfl, rfl⟩
      · intro w' hx hp; have hc := hx.all.1.1; have hf := hx.all.1.2; have hc' := hx.all.2.1; have hf' := hx.all.2.2; exact HG.out _
      intro w_5_ hx_5_
      simp only [Act.put, List.setIfInBounds_toArray, List.set]
      apply K.x_pure
      · rfl
      · rfl
      · intro w'; go_simp; first | done | exact K.vint (IntWalk.i64_in _ (by omega)) | rfl | exact ⟨rfl, rfl⟩
      simp only [Act.put, List.setIfInBounds_toArray, List.set]
      apply K.x_held
      · rfl
      · rfl
      · intro w' hx; have hc := hx.all.1.1; have hf := hx.all.1.2; have hc' := hx.all.2.1; have hf' := hx.all.2.2; go_simp; first | done | rfl | exact ⟨rfl, rfl⟩
      simp only [Act.put, List.setIfInBounds_toArray, List.set]
      iterate 2
        apply K.x_pure
        · rfl
        · rfl
        · intro w'; go_simp; first | done | exact K.vint (IntWalk.i64_in _ (by omega)) | rfl | exact ⟨rfl, rfl⟩
        simp only [Act.put, List.setIfInBounds_toArray, List.set]
      apply K.x_held
      · rfl
      · rfl
      · intro w' hx; have hc := hx.all.1.1; have hf := hx.all.1.2; have hc' := hx.all.2.1; have hf' := hx.all.2.2; go_simp; first | done | rfl | exact ⟨rfl, rfl⟩
      simp only [Act.put, List.setIfInBounds_toArray, List.set]
      apply K.x_call_is
      · rfl
      · rfl
      · rfl
      · intro w'; go_simp; first | done | rfl | exact ⟨rfl, rfl⟩
      · intro w' hx hp; have hc := hx.all.1.1; have hf := hx.all.1.2; have hc' := hx.all.2.1; have hf' := hx.all.2.2; exact HSc.out _
      intro w_11_ hx_11_
      simp only [Act.put, List.setIfInBounds_toArray, List.set]
      apply K.x_call_is
      · rfl
      · rfl
      · rfl
      · intro w'; go_simp; first | done | rfl | exact ⟨rfl, rfl⟩
      · intro w' hx hp; have hc := hx.all.1.1; have hf := hx.all.1.2; have hc' := hx.all.2.1; have hf' := hx.all.2.2; exact HSm.out _
      intro w_12_ hx_12_
      simp only [Act.put, List.setIfInBounds_toArray, List.set]
      apply K.x_done
      intro w6 h_x
      have hx6 := hx_5_.trans (hx_11_.trans (hx_12_.trans h_x))
      clear h_x hx_5_ hx_11_ hx_12_
      obtain ⟨⟨hcw6, hfw6⟩, hc'w6, hf'w6⟩ := hx6.all
      go_wp2_with fail
      refine NoPanic.normal ?_
      have D0 := Z.hide (K.Ext.block_of (K.Ext.block_of C0.out (((K.Ext.refl _)).drew)) hx6)
      have D1 := Z.hide (K.Ext.block_of (K.Ext.block_of C1.out (((K.Ext.refl _)).drew)) hx6)
      have D2 := Z.hide (K.Ext.block_of (K.Ext.block_of C2.out (((K.Ext.refl _)).drew)) hx6)
      have HX6 : Hid (K.Ext w w6) := Z.hide (K.Ext.trans ((HX.out).drew) hx6)
      have b8_c0 : w6.cell? ⟨w1.heap.size, 0, none⟩ = some (.int .i64 (u.1)) := K.cell_at D2.out rfl; have b8_f0 : w6.frozen? ⟨w1.heap.size, 0, none⟩ = false := K.thaw_at D2.out; have b8_c1 : w6.cell? ⟨w1.heap.size, 1, none⟩ = some (.int .i64 (u.2)) := K.cell_at D2.out rfl; have b8_f1 : w6.frozen? ⟨w1.heap.size, 1, none⟩ = false := K.thaw_at D2.out
      go_wp2
      go_roundw
      case rel =>
        refine ⟨k + 1, by omega, by go_num, Z.hide ?_, Z.hide ?_, Z.hide ?_, Z.hide ?_⟩
        · iterate 2 with_reducible refine Eq.trans (K.set_block (by dsimp only; omega)) ?_
          exact D0.out
        · iterate 2 with_reducible refine Eq.trans (K.set_block (by dsimp only; omega)) ?_
          exact D1.out
        · rw [HL.out]; exact Joins.block_setCell (Joins.block_setCell D2.out _) _
        · iterate 2 with_reducible refine K.Ext.setCell ?_ (by dsimp only; omega) _
          exact HX6.out
      case measure => simp [intOf]; omega
    · obtain rfl : k = n := by omega
      obtain ⟨u, hu⟩ : ∃ u, u = Z.logK (F.dg, F.tn) vs F.pw k := ⟨_, rfl⟩
      rw [← hu] at C2
      have HU := Z.hide hu
      clear hu
      have b9_c0 : wr.cell? ⟨w1.heap.size, 0, none⟩ = some (.int .i64 (u.1)) := K.cell_at C2.out rfl; have b9_f0 : wr.frozen? ⟨w1.heap.size, 0, none⟩ = false := K.thaw_at C2.out; have b9_c1 : wr.cell? ⟨w1.heap.size, 1, none⟩ = some (.int .i64 (u.2)) := K.cell_at C2.out rfl; have b9_f1 : wr.frozen? ⟨w1.heap.size, 1, none⟩ = false := K.thaw_at C2.out
      have b10_c0 : wr.cell? ⟨w.heap.size + 1, 0, none⟩ = some (.int .i64 (0)) := K.cell_at C1.out rfl; have b10_f0 : wr.frozen? ⟨w.heap.size + 1, 0, none⟩ = false := K.thaw_at C1.out; have b10_c1 : wr.cell? ⟨w.heap.size + 1, 1, none⟩ = some (.int .i64 (0)) := K.cell_at C1.out rfl; have b10_f1 : wr.frozen? ⟨w.heap.size + 1, 1, none⟩ = false := K.thaw_at C1.out
      go_wp2
      refine bodyPost_ret (v := .agg #[.int .i64 u.1, .int .i64 u.2]) (by unfold results; rw [Try.results127]; go_simp) rfl ⟨by rw [HU.out], ?_⟩
      repeat with_reducible refine K.Ext.setCell ?_ (by dsimp only; omega) _
      exact HX.out
end Go.Proofs.Ythmnlbgbacbocaa
end
section
namespace Go.Z
def ixOf (names : List Int) (c : Int) : Nat := names.findIdx (fun x => x == c)
theorem ixOf_le (names : List Int) (c : Int) : ixOf names c ≤ names.length := List.findIdx_le_length
theorem ixOf_cons (x : Int) (l : List Int) (c : Int) : ixOf (x :: l) c = if x = c then 0 else ixOf l c + 1 := by
  unfold ixOf; rw [List.findIdx_cons]
  by_cases h : x = c
  · simp [h]
  · have : (x == c) = false := by simpa using h
    simp [h, this]
theorem ixOf_step (l : List Int) (c : Int) (j : Nat) (h : j < l.length) (hj : j ≤ ixOf l c) (hn : ¬ l.getD j 0 = c) : j + 1 ≤ ixOf l c := by
  induction l generalizing j with
  | nil => simp at h
  | cons x l ih =>
    rw [ixOf_cons] at hj ⊢
    cases j with
    | zero => rw [if_neg (by simpa using hn)]; omega
    | succ j =>
      split at hj
      · omega
      · rename_i hx; rw [if_neg hx]; have := ih j (by simpa using h) (by omega) (by simpa using hn); omega
theorem ixOf_hit (l : List Int) (c : Int) (j : Nat) (h : j < l.length) (hj : j ≤ ixOf l c) (hn : l.getD j 0 = c) : ixOf l c = j := by
  induction l generalizing j with
  | nil => simp at h
  | cons x l ih =>
    rw [ixOf_cons] at hj ⊢
    cases j with
    | zero => rw [if_pos (by simpa using hn)]
    | succ j =>
      split at hj
      · omega
      · rename_i hx; rw [if_neg hx]; have := ih j (by simpa using h) (by omega) (by simpa using hn); omega
theorem index_find (l : List UInt8) (c : UInt8) : (Lib.indexByte l c = -1 ∧ ixOf (l.map (fun b => (b.toNat : Int))) c.toNat = l.length) ∨ ∃ k : Nat, k < l.length ∧ Lib.indexByte l c = k ∧ ixOf (l.map (fun b => (b.toNat : Int))) c.toNat = k := by
  induction l with
  | nil => left; exact ⟨rfl, rfl⟩
  | cons b l ih =>
    rw [List.map_cons, ixOf_cons]
    by_cases hb : b = c
    · right; subst hb; exact ⟨0, by simp, by simp [Lib.indexByte], by simp⟩
    · have hbc : (b == c) = false := by simpa using hb
      have hbn : ¬ ((b.toNat : Int) = (c.toNat : Int)) := fun h => hb (UInt8.toNat_inj.1 (by omega))
      rw [if_neg hbn]
      rcases ih with ⟨h1, h2⟩ | ⟨k, hk, h1, h2⟩
      · left; refine ⟨by simp [Lib.indexByte, hbc, h1], by rw [h2]; simp⟩
      · right
        refine ⟨k + 1, by simpa using hk, ?_, by rw [h2]⟩
        have : ¬ ((k : Int) = -1) := by omega
        simp [Lib.indexByte, hbc, h1, this]
/-- the values of the first k letters -/
def valuesK (nm names : List Int) (vs : List (Int × Int)) : Nat → Option (List (Int × Int))
  | 0 => some []
  | k + 1 => match valuesK nm names vs k with
    | none => none
    | some l => if ixOf names (nm.getD k 0) < names.length then some (l ++ [vs.getD (ixOf names (nm.getD k 0)) (0, 0)]) else none
def valsOr (r : Option (List (Int × Int))) : List (Int × Int) × Bool := match r with
  | some l => (l, true)
  | none => ([], false)
def valuesFor (F : Fm) (N : ByteArray) (vs : List (Int × Int)) : List (Int × Int) × Bool := valsOr (valuesK (bs F.nm) (bs N) vs F.nm.size)
theorem valuesK_none {nm names : List Int} {vs : List (Int × Int)} {k : Nat} (h : valuesK nm names vs k = none) (n : Nat) : valuesK nm names vs (k + n) = none := by
  induction n with
  | zero => exact h
  | succ n ih => rw [← Nat.add_assoc]; simp only [valuesK]; rw [ih]
theorem valuesK_miss {nm names : List Int} {vs : List (Int × Int)} {k n : Nat} {l : List (Int × Int)} (hk : k < n) (h : valuesK nm names vs k = some l) (hm : ¬ ixOf names (nm.getD k 0) < names.length) : valuesK nm names vs n = none := by
  have h1 : valuesK nm names vs (k + 1) = none := by simp only [valuesK]; rw [h]; simp only [if_neg hm]
  have h2 := valuesK_none h1 (n - (k + 1))
  rwa [show k + 1 + (n - (k + 1)) = n from by omega] at h2
theorem valuesK_step {nm names : List Int} {vs : List (Int × Int)} {k j : Nat} {l : List (Int × Int)} (h : valuesK nm names vs k = some l) (hj : j < names.length) (hi : ixOf names (nm.getD k 0) = j) : valuesK nm names vs (k + 1) = some (l ++ [vs.getD j (0, 0)]) := by
  simp only [valuesK]; rw [h]; simp only [hi, if_pos hj]
theorem valuesK_parts {nm names : List Int} {vs : List (Int × Int)} (hv : areFigs vs = true) (hl : names.length = vs.length) (k : Nat) {l : List (Int × Int)} (h : valuesK nm names vs k = some l) : l.length = k ∧ areFigs l = true := by
  induction k generalizing l with
  | zero => simp only [valuesK, Option.some.injEq] at h; subst h; exact ⟨rfl, rfl⟩
  | succ k ih =>
    simp only [valuesK] at h
    split at h
    · cases h
    · rename_i l' hl'
      split at h
      · rename_i hj
        simp only [Option.some.injEq] at h
        subst h
        obtain ⟨a, b⟩ := ih hl'
        refine ⟨by simp [a], ?_⟩
        have h2 := areFigs_at hv _ (by rw [← hl]; exact hj)
        unfold areFigs at b ⊢
        rw [List.all_append, b]
        simpa using h2
      · cases h
theorem valuesFor_some {F : Fm} {N : ByteArray} {vs l : List (Int × Int)} (h : valuesK (bs F.nm) (bs N) vs F.nm.size = some l) : valuesFor F N vs = (l, true) := by unfold valuesFor; rw [h]; rfl
theorem valuesFor_none {F : Fm} {N : ByteArray} {vs : List (Int × Int)} (h : valuesK (bs F.nm) (bs N) vs F.nm.size = none) : valuesFor F N vs = ([], false) := by unfold valuesFor; rw [h]; rfl
end Go.Z
namespace Go.K
open Go.RowKit
theorem row_lit2 {w : World} {B g : Nat} {e : TypeId} (hg : g = w.heap.size) (hB : B ≤ g) : (w.alloc (.cells #[] e)).ownsRow B e 2 (.slice (some ⟨g, 0, none⟩) 0 0) 0 [] := by
  subst hg; exact World.ownsRow_lit w #[] 0 hB (by decide) rfl
end Go.K
namespace Go.Proofs.Ythmnlbgbacbocaa
open Go.RowKit
set_option maxRecDepth 100000 in
set_option maxHeartbeats 3200000 in
theorem valuesFor_any (F : Z.Fm) (N : ByteArray) (vs : List (Int × Int)) {lo hi : Nat} {p v : Value} (w : World) (hn : F.nm.size ≤ 1000000) (hN : N.size = vs.length) (hm : vs.length ≤ 1000000) (h : K.recs false K.FgR w lo hi v vs) :
    Calls Try.prog 142 #[.agg #[.int .i64 F.dg, .int .i64 F.tn, .string F.nm, p], .string N, v] w fun e w' => (∃ v', e = .returned (.tuple #[v', .bool (Z.valuesFor F N vs).2]) ∧ K.recs false K.FgR w' w.heap.size w'.heap.size v' (Z.valuesFor F N vs).1) ∧ K.Ext w w' := by
  have h1 := h
  obtain ⟨o, cap, rfl, _⟩ := h1
  have HV := Z.hide h
  obtain ⟨it0, hi0, hz0, hz1, hz2⟩ := info_parts info_fig
  have HNL : Hid ((Z.bs N).length = vs.length) := Z.hide (by rw [Z.bs_length]; exact hN)
  clear h
  go_enter Try.func142, Try.ntmps142
  go_wp2
  go_loopw [8, 15] (fun out i wr => ∃ k : Nat, k ≤ F.nm.size ∧ i = .int .i64 k ∧ Hid (∃ l, Z.valuesK (Z.bs F.nm) (Z.bs N) vs k = some l ∧ wr.ownsRow (w.heap.size + 1) 30 2 out k (K.FgR.cells l)) ∧ Hid (K.Ext (w.alloc (.cells #[.int .i64 F.dg, .int .i64 F.tn, .string F.nm, p] 32)) wr)) (fun _ i _ => F.nm.size - (intOf i).toNat)
  case atStart => exact ⟨0, Nat.zero_le _, rfl, Z.hide ⟨[], rfl, K.row_lit2 (by simp) (by omega)⟩, Z.hide ((K.Ext.refl _).alloc _)⟩
  case round =>
    obtain ⟨k, hk, rfl, HS, HX⟩ := hrel
    obtain ⟨l, hl, ho⟩ := HS.out
    have HL := Z.hide hl
    have HO := Z.hide ho
    clear HS hl ho
    have k0 : (0 : Int) ≤ (k : Int) := Int.natCast_nonneg k
    have c2 : wr.cell? ⟨w.heap.size, 2, none⟩ = some (.string F.nm) := HX.out.cell_of (by go_simp)
    have HX0 : Hid (K.Ext w wr) := Z.hide (K.Ext.trans ((K.Ext.refl w).alloc _) HX.out)
    have lw := HX.out.size
    simp at lw
    by_cases hlt : k < F.nm.size
    · have k1 : (k : Int) < (F.nm.size : Int) := by omega
      have hb := Z.bs_get F.nm k hlt
      have e8 : ((((F.nm[k]'hlt).toNat : Nat) : Int)).toNat.toUInt8 = F.nm[k]'hlt := by simp
      have ebs : Z.bs N = N.data.toList.map (fun b => (b.toNat : Int)) := rfl
      rcases Z.index_find N.data.toList (F.nm[k]'hlt) with ⟨h1, h2⟩ | ⟨j, hj, h1, h2⟩
      · have HC : Hid (∀ w : World, Calls Try.prog 168 #[.string N, .int .u8 (((F.nm[k]'hlt).toNat : Nat) : Int)] w fun e w' => e = .returned (.int .i64 (-1)) ∧ w = w') := Z.hide (fun w => by have h_ := IndexByte_any N (((F.nm[k]'hlt).toNat : Nat) : Int) w; rwa [e8, h1] at h_)
        have HE : Hid (Z.valuesFor F N vs = ([], false)) := Z.hide (Z.valuesFor_none (Z.valuesK_miss hlt HL.out (by rw [← hb, ebs, h2]; simp)))
        clear h1 h2 hb e8 ebs hi0 hz0 hz1 hz2
        go_wp2_with ((go_at_call 168; refine K.call (by with_reducible rfl) (by with_reducible rfl) (HC.out _) ?_; rintro e w' ⟨rfl, rfl⟩))
        rw [HE.out]
        go_ret2
        exact ⟨⟨_, rfl, K.recs_nil _ _ _⟩, HX0.out⟩
      · have HC : Hid (∀ w : World, Calls Try.prog 168 #[.string N, .int .u8 (((F.nm[k]'hlt).toNat : Nat) : Int)] w fun e w' => e = .returned (.int .i64 j) ∧ w = w') := Z.hide (fun w => by have h_ := IndexByte_any N (((F.nm[k]'hlt).toNat : Nat) : Int) w; rwa [e8, h1] at h_)
        have hjN : j < N.size := by rw [Array.length_toList] at hj; exact hj
        have hjv : j < vs.length := by omega
        have HT : Hid (Z.valuesK (Z.bs F.nm) (Z.bs N) vs (k + 1) = some (l ++ [vs.getD j (0, 0)])) := Z.hide (Z.valuesK_step HL.out (by rw [Z.bs_length]; exact hjN) (by rw [← hb, ebs, h2]))
        obtain ⟨b, off, rfl, _, _, hc, _⟩ := K.recs_at HV.out (by omega)
        have eg : vs[j]'hjv = vs.getD j (0, 0) := by simp [List.getD_eq_getElem?_getD, hjv]
        have v0 : wr.cell? ⟨b, off + j * 2, none⟩ = some (.int .i64 (vs.getD j (0, 0)).1) := by rw [← eg]; exact HX0.out.cell_of (hc j hjv 0 (by decide))
        have v1 : wr.cell? ⟨b, off + j * 2 + 1, none⟩ = some (.int .i64 (vs.getD j (0, 0)).2) := by rw [← eg]; exact HX0.out.cell_of (hc j hjv 1 (by decide))
        have j0 : (0 : Int) ≤ (j : Int) := Int.natCast_nonneg j
        have j1 : (j : Int) < (vs.length : Int) := by omega
        have lb : b < wr.heap.size := World.block_lt_of_cell? wr _ v0
        have n1 : ¬ (b = wr.heap.size) := by omega
        clear h1 h2 hb e8 ebs hc eg hj
        generalize vs.getD j (0, 0) = f at *
        obtain ⟨f1, f2⟩ := f
        dsimp only at v0 v1
        go_wp2_with (first | (go_at_call 168; refine K.call (by with_reducible rfl) (by with_reducible rfl) (HC.out _) ?_; rintro e w' ⟨rfl, rfl⟩) | (at_builtin; refine wpList_append_lies _ rfl _ _ _ rfl (w.heap.size + 1) 30 it0 _ 2 16 Try.underlying69 hi0 hz0 hz1 hz2 rfl (by omega) u8 k _ rfl (HO.out.alloc _) ⟨wr.heap.size, 0, none⟩ 1 1 [.int .i64 f1, .int .i64 f2] rfl rfl (World.news_of_block (cs := #[.int .i64 f1, .int .i64 f2]) (t := 30) (fr := (0, 0)) (K.block_new (by simp))) (by simp [Value.oneCell']) (by omega) (by unfold maxLen; omega) (by first | omega | (simp; omega)) (by first | omega | (simp; omega)) (wr.heap.size + 1) (by simp) ?_; intro g2 gcap2 w2 hown2 hgrow2 hat2 hlt3; have HR2 : Hid (∀ g, u8.ownBlock = some g → w.heap.size + 1 ≤ g) := Z.hide (fun g hg => (HO.out.lt g hg).1); have HP2 := Z.hide hown2))
        have HX2 : Hid (K.Ext (w.alloc (.cells #[.int .i64 F.dg, .int .i64 F.tn, .string F.nm, p] 32)) w2) := Z.hide ((HX.out.alloc _).below.grown hgrow2 (by simp; omega) (fun g hg => by have := HR2.out g hg; simp; omega))
        clear hown2 hgrow2 hat2
        go_roundw
        case rel => exact ⟨k + 1, by omega, by go_num, Z.hide ⟨_, HT.out, by rw [K.Rec.cells_snoc]; exact HP2.out⟩, HX2⟩
        case measure => first | (simp [intOf]; done) | (simp [intOf]; omega)
    · obtain rfl : k = F.nm.size := by omega
      have HF : Hid (Z.valuesFor F N vs = (l, true)) := Z.hide (Z.valuesFor_some HL.out)
      have HR := Z.hide (K.recs.plain ((K.recs_of_row HO.out (by decide)).mono (show w.heap.size ≤ w.heap.size + 1 by omega) (Nat.le_refl _)))
      clear HO HL
      go_wp2
      rw [HF.out]
      go_ret2
      exact ⟨⟨_, rfl, HR.out⟩, HX0.out⟩
set_option maxRecDepth 100000 in
set_option maxHeartbeats 6400000 in
theorem l20Values_any (F : Z.Fm) (N : ByteArray) (vs : List (Int × Int)) {lo hi : Nat} {p v : Value} (w : World) (hn : F.nm.size ≤ 1000000) (hN : N.size = vs.length) (hm : vs.length ≤ 1000000) (h : K.recs false K.FgR w lo hi v vs) :
    Calls Try.prog 146 #[.agg #[.int .i64 F.dg, .int .i64 F.tn, .string F.nm, p], .string N, v] w fun e w' => (∃ v', e = .returned (.tuple #[v', .bool (Z.valuesFor F N vs).2]) ∧ K.recs false K.FgR w' w.heap.size w'.heap.size v' (Z.valuesFor F N vs).1) ∧ K.Ext w w' := by
  have h1 := h
  obtain ⟨o, cap, rfl, _⟩ := h1
  have HV := Z.hide h
  obtain ⟨it0, hi0, hz0, hz1, hz2⟩ := info_parts info_fig
  have HNL : Hid ((Z.bs N).length = N.size) := Z.hide (Z.bs_length N)
  clear h
  go_enter Try.func146, Try.ntmps146
  go_wp2
  go_loopw [8, 9] (fun out i wr => ∃ k : Nat, k ≤ F.nm.size ∧ i = .int .i64 k ∧ Hid (∃ l, Z.valuesK (Z.bs F.nm) (Z.bs N) vs k = some l ∧ wr.ownsRow (w.heap.size + 1) 30 2 out k (K.FgR.cells l)) ∧ Hid (K.Ext (w.alloc (.cells #[.int .i64 F.dg, .int .i64 F.tn, .string F.nm, p] 32)) wr)) (fun _ i _ => F.nm.size - (intOf i).toNat)
  case atStart => exact ⟨0, Nat.zero_le _, rfl, Z.hide ⟨[], rfl, K.row_lit2 (by simp) (by omega)⟩, Z.hide ((K.Ext.refl _).alloc _)⟩
  case round =>
    obtain ⟨k, hk, rfl, HS, HX⟩ := hrel
    obtain ⟨wo, rfl⟩ : ∃ wo : World, wo = wr := ⟨_, rfl⟩
    obtain ⟨l, hl, ho⟩ := HS.out
    have HL := Z.hide hl
    have HO := Z.hide ho
    clear HS hl ho
    have k0 : (0 : Int) ≤ (k : Int) := Int.natCast_nonneg k
    have c2 : wo.cell? ⟨w.heap.size, 2, none⟩ = some (.string F.nm) := HX.out.cell_of (by go_simp)
    by_cases hlt : k < F.nm.size
    · have k1 : (k : Int) < (F.nm.size : Int) := by omega
      have HB := Z.hide (Z.bs_get F.nm k hlt)
      go_wp2
      go_loopw [10] (fun jj wr => ∃ j : Nat, j ≤ N.size ∧ jj = .int .i64 j ∧ Hid (j ≤ Z.ixOf (Z.bs N) ((Z.bs F.nm).getD k 0)) ∧ Hid (K.Ext wo wr)) (fun jj _ => N.size - (intOf jj).toNat)
      case atStart => exact ⟨0, Nat.zero_le _, rfl, Z.hide (Nat.zero_le _), Z.hide (K.Ext.refl _)⟩
      case round =>
        obtain ⟨j, hj, rfl, HJ, HXj⟩ := hrel
        have j0 : (0 : Int) ≤ (j : Int) := Int.natCast_nonneg j
        have c3 : wr.cell? ⟨w.heap.size, 2, none⟩ = some (.string F.nm) := HXj.out.cell_of c2
        by_cases hjn : j < N.size
        · have j1 : (j : Int) < (N.size : Int) := by omega
          have HBN := Z.hide (Z.bs_get N j hjn)
          have hjv0 : j < vs.length := by omega
          have dj : decide (j < vs.length) = true := decide_eq_true hjv0
          by_cases he : ((N[j]'hjn).toNat : Int) = ((F.nm[k]'hlt).toNat : Int)
          · have t1 : ((((N[j]'hjn).toNat : Nat) : Int) != (((F.nm[k]'hlt).toNat : Nat) : Int)) = false := by simp [he]
            have HI : Hid (Z.ixOf (Z.bs N) ((Z.bs F.nm).getD k 0) = j) := Z.hide (Z.ixOf_hit _ _ j (by rw [HNL.out]; exact hjn) HJ.out (by rw [← HBN.out, ← HB.out]; exact he))
            have HT : Hid (Z.valuesK (Z.bs F.nm) (Z.bs N) vs (k + 1) = some (l ++ [vs.getD j (0, 0)])) := Z.hide (Z.valuesK_step HL.out (by rw [HNL.out]; exact hjn) HI.out)
            clear he HBN HI HJ
            go_wp2_with fail
            refine K.wp_region_x 14 [0, 0, 0, 0, 0, 0, 0, 0, 0, 1, 0, 0, 0, 0] [] (by kernel_rfl) (by kernel_rfl) ?_
            simp only [List.take_succ_cons, List.take_zero, List.drop_succ_cons, List.drop_zero]
            iterate 9
              apply K.x_pure
              · rfl
              · rfl
              · intro w'; go_simp; first | done | exact K.vint (IntWalk.i64_in _ (by omega)) | rfl | exact ⟨rfl, rfl⟩
              simp only [Act.put, List.setIfInBounds_toArray, List.set]
            apply K.x_held
            · rfl
            · rfl
            · intro w' hx; have hc := hx.all.1.1; have hf := hx.all.1.2; have hc' := hx.all.2.1; have hf' := hx.all.2.2; go_simp; first | done | rfl | exact ⟨rfl, rfl⟩
            simp only [Act.put, List.setIfInBounds_toArray, List.set]
            iterate 4
              apply K.x_pure
              · rfl
              · rfl
              · intro w'; go_simp; first | done | exact K.vint (IntWalk.i64_in _ (by omega)) | rfl | exact ⟨rfl, rfl⟩
              simp only [Act.put, List.setIfInBounds_toArray, List.set]
            apply K.x_done
            intro w6 h_x
            have hx6 := K.Ext.id h_x
            clear h_x
            obtain ⟨⟨hcw6, hfw6⟩, hc'w6, hf'w6⟩ := hx6.all
            refine wpList_nil ?_
            refine NoPanic.normal ?_
            have hjv : j < vs.length := by omega
            have HX1 : Hid (K.Ext (w.alloc (.cells #[.int .i64 F.dg, .int .i64 F.tn, .string F.nm, p] 32)) w6) := Z.hide (K.Ext.trans (HX.out.trans HXj.out.drew) hx6)
            have HX0 : Hid (K.Ext w w6) := Z.hide (K.Ext.trans ((K.Ext.refl w).alloc _) HX1.out)
            have HO6 := Z.hide (K.row_ext (K.row_ext HO.out HXj.out).drew hx6)
            obtain ⟨b, off, rfl, _, _, hc, _⟩ := K.recs_at HV.out (by omega)
            have eg : vs[j]'hjv = vs.getD j (0, 0) := by simp [List.getD_eq_getElem?_getD, hjv]
            have v0 : w6.cell? ⟨b, off + j * 2, none⟩ = some (.int .i64 (vs.getD j (0, 0)).1) := by rw [← eg]; exact HX0.out.cell_of (hc j hjv 0 (by decide))
            have v1 : w6.cell? ⟨b, off + j * 2 + 1, none⟩ = some (.int .i64 (vs.getD j (0, 0)).2) := by rw [← eg]; exact HX0.out.cell_of (hc j hjv 1 (by decide))
            have j2 : (j : Int) < (vs.length : Int) := by omega
            have lb : b < w6.heap.size := World.block_lt_of_cell? w6 _ v0
            have n1 : ¬ (b = w6.heap.size) := by omega
            have lw := HX1.out.size
            simp at lw
            have jne : ((j : Int) == (N.size : Int)) = false := by simp; omega
            clear hc eg HXj hx6
            generalize vs.getD j (0, 0) = f at *
            obtain ⟨f1, f2⟩ := f
            dsimp only at v0 v1
            go_wp2_with ((at_builtin; refine wpList_append_lies _ rfl _ _ _ rfl (w.heap.size + 1) 30 it0 _ 2 16 Try.underlying69 hi0 hz0 hz1 hz2 rfl (by omega) u8 k _ rfl (HO6.out.alloc _) ⟨w6.heap.size, 0, none⟩ 1 1 [.int .i64 f1, .int .i64 f2] rfl rfl (World.news_of_block (cs := #[.int .i64 f1, .int .i64 f2]) (t := 30) (fr := (0, 0)) (K.block_new (by simp))) (by simp [Value.oneCell']) (by omega) (by unfold maxLen; omega) (by first | omega | (simp; omega)) (by first | omega | (simp; omega)) (w6.heap.size + 1) (by simp) ?_; intro g2 gcap2 w2 hown2 hgrow2 hat2 hlt3; have HR2 : Hid (∀ g, u8.ownBlock = some g → w.heap.size + 1 ≤ g) := Z.hide (fun g hg => (HO6.out.lt g hg).1); have HP2 := Z.hide hown2))
            have HX2 : Hid (K.Ext (w.alloc (.cells #[.int .i64 F.dg, .int .i64 F.tn, .string F.nm, p] 32)) w2) := Z.hide ((HX1.out.alloc _).below.grown hgrow2 (by simp; omega) (fun g hg => by have := HR2.out g hg; simp; omega))
            clear hown2 hgrow2 hat2
            go_roundw
            case rel => exact ⟨k + 1, by omega, by go_num, Z.hide ⟨_, HT.out, by rw [K.Rec.cells_snoc]; exact HP2.out⟩, HX2⟩
            case measure => first | (simp [intOf]; done) | (simp [intOf]; omega)
          · have t1 : ((((N[j]'hjn).toNat : Nat) : Int) != (((F.nm[k]'hlt).toNat : Nat) : Int)) = true := by simpa using he
            have HJ2 : Hid (j + 1 ≤ Z.ixOf (Z.bs N) ((Z.bs F.nm).getD k 0)) := Z.hide (Z.ixOf_step _ _ j (by rw [HNL.out]; exact hjn) HJ.out (by rw [← HBN.out, ← HB.out]; exact he))
            clear HBN HJ
            go_wp2_with fail
            refine K.wp_region_x 14 [0, 0, 0, 0, 0, 0, 0, 0, 0, 1, 0, 0, 0, 0] [] (by kernel_rfl) (by kernel_rfl) ?_
            simp only [List.take_succ_cons, List.take_zero, List.drop_succ_cons, List.drop_zero]
            iterate 9
              apply K.x_pure
              · rfl
              · rfl
              · intro w'; go_simp; first | done | exact K.vint (IntWalk.i64_in _ (by omega)) | rfl | exact ⟨rfl, rfl⟩
              simp only [Act.put, List.setIfInBounds_toArray, List.set]
            apply K.x_held
            · rfl
            · rfl
            · intro w' hx; have hc := hx.all.1.1; have hf := hx.all.1.2; have hc' := hx.all.2.1; have hf' := hx.all.2.2; go_simp; first | done | rfl | exact ⟨rfl, rfl⟩
            simp only [Act.put, List.setIfInBounds_toArray, List.set]
            iterate 4
              apply K.x_pure
              · rfl
              · rfl
              · intro w'; go_simp; first | done | exact K.vint (IntWalk.i64_in _ (by omega)) | rfl | exact ⟨rfl, rfl⟩
              simp only [Act.put, List.setIfInBounds_toArray, List.set]
            apply K.x_done
            intro w6 h_x
            have hx6 := K.Ext.id h_x
            clear h_x
            obtain ⟨⟨hcw6, hfw6⟩, hc'w6, hf'w6⟩ := hx6.all
            refine wpList_nil ?_
            refine NoPanic.normal ?_
            go_wp2
            go_roundw
            case rel => exact ⟨j + 1, by omega, by go_num, HJ2, Z.hide (K.Ext.trans HXj.out.drew hx6)⟩
            case measure => simp [intOf]; omega
        · obtain rfl : j = N.size := by omega
          have HI : Hid (Z.ixOf (Z.bs N) ((Z.bs F.nm).getD k 0) = N.size) := Z.hide (Nat.le_antisymm (by have h_ := Z.ixOf_le (Z.bs N) ((Z.bs F.nm).getD k 0); rwa [HNL.out] at h_) HJ.out)
          have HE : Hid (Z.valuesFor F N vs = ([], false)) := Z.hide (Z.valuesFor_none (Z.valuesK_miss hlt HL.out (by rw [HI.out, HNL.out]; omega)))
          have HX0 : Hid (K.Ext w wr) := Z.hide (K.Ext.trans (K.Ext.trans ((K.Ext.refl w).alloc _) HX.out) HXj.out)
          clear HI HJ
          go_wp2_with fail
          refine K.wp_region_x 14 [0, 0, 0, 0, 0, 0, 0, 0, 0, 1, 0, 0, 0, 0] [] (by kernel_rfl) (by kernel_rfl) ?_
          simp only [List.take_succ_cons, List.take_zero, List.drop_succ_cons, List.drop_zero]
          iterate 5
            apply K.x_pure
            · rfl
            · rfl
            · intro w'; go_simp; first | done | exact K.vint (IntWalk.i64_in _ (by omega)) | rfl | exact ⟨rfl, rfl⟩
            simp only [Act.put, List.setIfInBounds_toArray, List.set]
          iterate 8
            refine K.x_skip (by rfl) ?_
            simp only [Act.put, List.setIfInBounds_toArray, List.set]
          apply K.x_pure
          · rfl
          · rfl
          · intro w'; go_simp; first | done | exact K.vint (IntWalk.i64_in _ (by omega)) | rfl | exact ⟨rfl, rfl⟩
          simp only [Act.put, List.setIfInBounds_toArray, List.set]
          apply K.x_done
          intro w6 h_x
          have hx6 := K.Ext.id h_x
          clear h_x
          obtain ⟨⟨hcw6, hfw6⟩, hc'w6, hf'w6⟩ := hx6.all
          refine wpList_nil ?_
          refine NoPanic.normal ?_
          go_wp2
          rw [HE.out]
          go_ret2
          exact ⟨⟨_, rfl, K.recs_nil _ _ _⟩, K.Ext.trans HX0.out.drew hx6⟩
    · obtain rfl : k = F.nm.size := by omega
      have HF : Hid (Z.valuesFor F N vs = (l, true)) := Z.hide (Z.valuesFor_some HL.out)
      have HR := Z.hide (K.recs.plain ((K.recs_of_row HO.out (by decide)).mono (show w.heap.size ≤ w.heap.size + 1 by omega) (Nat.le_refl _)))
      have HX0 : Hid (K.Ext w wo) := Z.hide (K.Ext.trans ((K.Ext.refl w).alloc _) HX.out)
      clear HO HL
      go_wp2
      rw [HF.out]
      go_ret2
      exact ⟨⟨_, rfl, HR.out⟩, HX0.out⟩
end Go.Proofs.Ythmnlbgbacbocaa
end
section
namespace Go.Proofs.Ythmnlbgbacbocaa
open Go.RowKit
set_option maxHeartbeats 1600000 in
theorem impl_ExponentOf (F : Z.Fm) (c : Int) {lo hi : Nat} {p : Value} (w : World) (hm : F.pw.length ≤ 1048576) (hn : F.nm.size ≤ 1048576) (h : K.ints w lo hi p F.pw) (hc : 0 ≤ c ∧ c ≤ 255) :
    Calls Try.prog 27 #[.agg #[.int .i64 F.dg, .int .i64 F.tn, .string F.nm, p], .int .u8 c] w fun e w' => e = .returned (.tuple #[.int .i64 (Z.ExponentOf F c).1, .int .i64 (Z.ExponentOf F c).2]) ∧ K.Ext w w' := by
  have h1 := h
  obtain ⟨o, cap, rfl, _⟩ := h1
  cases hf : Z.isFormula F
  · have HE : Hid (Z.ExponentOf F c = (0, 1)) := Z.hide (by unfold Z.ExponentOf; rw [hf]; rfl)
    go_enter Try.func27, Try.ntmps27
    go_wp2_with (go_at_call 33; refine K.call (by with_reducible rfl) (by with_reducible rfl) (impl_IsFormula F _ hm hn (h.ext (by repeat' (first | with_reducible exact K.Ext.refl _ | with_reducible assumption | with_reducible refine K.Ext.drew ?_ | with_reducible refine K.Ext.alloc ?_ _ | with_reducible refine K.Ext.setCell ?_ ?_ _ | with_reducible refine K.Ext.trans ?_ (by with_reducible assumption) | (dsimp only; omega) | omega | exact K.Ext.refl _ | assumption | apply K.Ext.drew | refine K.Ext.alloc ?_ _ | refine K.Ext.setCell ?_ ?_ _ | (simp; done) | (simp; omega) | refine K.Ext.trans ?_ (by assumption))))) ?_; rintro e w1 ⟨rfl, hw1⟩; obtain ⟨hcw1, hfw1⟩ := hw1.facts)
    go_ret2
    exact ⟨by rw [HE.out]; rfl, (by repeat' (first | with_reducible exact K.Ext.refl _ | with_reducible assumption | with_reducible refine K.Ext.drew ?_ | with_reducible refine K.Ext.alloc ?_ _ | with_reducible refine K.Ext.setCell ?_ ?_ _ | with_reducible refine K.Ext.trans ?_ (by with_reducible assumption) | (dsimp only; omega) | omega | exact K.Ext.refl _ | assumption | apply K.Ext.drew | refine K.Ext.alloc ?_ _ | refine K.Ext.setCell ?_ ?_ _ | (simp; done) | (simp; omega) | refine K.Ext.trans ?_ (by assumption)))⟩
  · have HE : Hid (Z.ExponentOf F c = (Z.expo (Z.bs F.nm) F.pw c, 0)) := Z.hide (by unfold Z.ExponentOf; rw [hf]; rfl)
    obtain ⟨l1, l2⟩ : Hid (F.pw.length = F.nm.size) ∧ Hid (F.nm.size ≤ 6) := Z.isFormula_len hf
    go_enter Try.func27, Try.ntmps27
    go_wp2_with (first | ((go_at_call 33; refine K.call (by with_reducible rfl) (by with_reducible rfl) (impl_IsFormula F _ hm hn (h.ext (by repeat' (first | with_reducible exact K.Ext.refl _ | with_reducible assumption | with_reducible refine K.Ext.drew ?_ | with_reducible refine K.Ext.alloc ?_ _ | with_reducible refine K.Ext.setCell ?_ ?_ _ | with_reducible refine K.Ext.trans ?_ (by with_reducible assumption) | (dsimp only; omega) | omega | exact K.Ext.refl _ | assumption | apply K.Ext.drew | refine K.Ext.alloc ?_ _ | refine K.Ext.setCell ?_ ?_ _ | (simp; done) | (simp; omega) | refine K.Ext.trans ?_ (by assumption))))) ?_; rintro e w1 ⟨rfl, hw1⟩; obtain ⟨hcw1, hfw1⟩ := hw1.facts); have c_w1_0_0 : w1.cell? ⟨w.heap.size, 0, none⟩ = some (.int .i64 (F.dg)) := hw1.cell_of (by go_simp); have f_w1_0_0 : w1.frozen? ⟨w.heap.size, 0, none⟩ = false := hw1.thaw_of (by go_simp) (by go_simp); have c_w1_0_1 : w1.cell? ⟨w.heap.size, 1, none⟩ = some (.int .i64 (F.tn)) := hw1.cell_of (by go_simp); have f_w1_0_1 : w1.frozen? ⟨w.heap.size, 1, none⟩ = false := hw1.thaw_of (by go_simp) (by go_simp); have c_w1_0_2 : w1.cell? ⟨w.heap.size, 2, none⟩ = some (.string F.nm) := hw1.cell_of (by go_simp); have f_w1_0_2 : w1.frozen? ⟨w.heap.size, 2, none⟩ = false := hw1.thaw_of (by go_simp) (by go_simp); have c_w1_0_3 : w1.cell? ⟨w.heap.size, 3, none⟩ = some (.slice o F.pw.length cap) := hw1.cell_of (by go_simp); have f_w1_0_3 : w1.frozen? ⟨w.heap.size, 3, none⟩ = false := hw1.thaw_of (by go_simp) (by go_simp)) | (go_at_call 106; refine K.call (by with_reducible rfl) (by with_reducible rfl) (exponentOf_any F c _ _ _ _ l1.out (Nat.le_trans l2.out (by decide)) hc.1 hc.2 (h.ext (by repeat' (first | with_reducible exact K.Ext.refl _ | with_reducible assumption | with_reducible refine K.Ext.drew ?_ | with_reducible refine K.Ext.alloc ?_ _ | with_reducible refine K.Ext.setCell ?_ ?_ _ | with_reducible refine K.Ext.trans ?_ (by with_reducible assumption) | (dsimp only; omega) | omega | exact K.Ext.refl _ | assumption | apply K.Ext.drew | refine K.Ext.alloc ?_ _ | refine K.Ext.setCell ?_ ?_ _ | (simp; done) | (simp; omega) | refine K.Ext.trans ?_ (by assumption))))) ?_; rintro e w2 ⟨rfl, hw2⟩; obtain ⟨hcw2, hfw2⟩ := hw2.facts))
    go_ret2
    exact ⟨by rw [HE.out]; rfl, (by repeat' (first | with_reducible exact K.Ext.refl _ | with_reducible assumption | with_reducible refine K.Ext.drew ?_ | with_reducible refine K.Ext.alloc ?_ _ | with_reducible refine K.Ext.setCell ?_ ?_ _ | with_reducible refine K.Ext.trans ?_ (by with_reducible assumption) | (dsimp only; omega) | omega | exact K.Ext.refl _ | assumption | apply K.Ext.drew | refine K.Ext.alloc ?_ _ | refine K.Ext.setCell ?_ ?_ _ | (simp; done) | (simp; omega) | refine K.Ext.trans ?_ (by assumption)))⟩
set_option maxHeartbeats 1600000 in
theorem spec_IsEquation (E : Z.Eqn) {l1 r1 l2 r2 : Nat} {p q : Value} (w : World) (hm : E.L.pw.length ≤ 1048576) (hn : E.L.nm.size ≤ 1048576) (hm' : E.R.pw.length ≤ 1048576) (hn' : E.R.nm.size ≤ 1048576) (h : K.ints w l1 r1 p E.L.pw) (h' : K.ints w l2 r2 q E.R.pw) :
    Calls Try.prog 116 #[.agg #[.int .i64 E.L.dg, .int .i64 E.L.tn, .string E.L.nm, p, .int .i64 E.R.dg, .int .i64 E.R.tn, .string E.R.nm, q]] w fun e w' => e = .returned (.bool (Z.isEquation E)) ∧ K.Ext w w' := by
  have g1 := h
  obtain ⟨o, cap, rfl, _⟩ := g1
  have g2 := h'
  obtain ⟨o', cap', rfl, _⟩ := g2
  cases hf : Z.isFormula E.L
  · have HE : Hid (Z.isEquation E = false) := Z.hide (by unfold Z.isEquation; rw [hf]; rfl)
    go_enter Try.func116, Try.ntmps116
    go_wp2_with ((go_at_call 91; refine K.call (by with_reducible rfl) (by with_reducible rfl) (spec_IsFormula E.L _ hm hn (h.ext (by repeat' (first | with_reducible exact K.Ext.refl _ | with_reducible assumption | with_reducible refine K.Ext.drew ?_ | with_reducible refine K.Ext.alloc ?_ _ | with_reducible refine K.Ext.setCell ?_ ?_ _ | with_reducible refine K.Ext.trans ?_ (by with_reducible assumption) | (dsimp only; omega) | omega | exact K.Ext.refl _ | assumption | apply K.Ext.drew | refine K.Ext.alloc ?_ _ | refine K.Ext.setCell ?_ ?_ _ | (simp; done) | (simp; omega) | refine K.Ext.trans ?_ (by assumption))))) ?_; rintro e w1 ⟨rfl, hw1⟩; obtain ⟨hcw1, hfw1⟩ := hw1.facts); have c_w1_0_0 : w1.cell? ⟨w.heap.size, 0, none⟩ = some (.int .i64 (E.L.dg)) := hw1.cell_of (by go_simp); have f_w1_0_0 : w1.frozen? ⟨w.heap.size, 0, none⟩ = false := hw1.thaw_of (by go_simp) (by go_simp); have c_w1_0_1 : w1.cell? ⟨w.heap.size, 1, none⟩ = some (.int .i64 (E.L.tn)) := hw1.cell_of (by go_simp); have f_w1_0_1 : w1.frozen? ⟨w.heap.size, 1, none⟩ = false := hw1.thaw_of (by go_simp) (by go_simp); have c_w1_0_2 : w1.cell? ⟨w.heap.size, 2, none⟩ = some (.string E.L.nm) := hw1.cell_of (by go_simp); have f_w1_0_2 : w1.frozen? ⟨w.heap.size, 2, none⟩ = false := hw1.thaw_of (by go_simp) (by go_simp); have c_w1_0_3 : w1.cell? ⟨w.heap.size, 3, none⟩ = some (.slice o E.L.pw.length cap) := hw1.cell_of (by go_simp); have f_w1_0_3 : w1.frozen? ⟨w.heap.size, 3, none⟩ = false := hw1.thaw_of (by go_simp) (by go_simp); have c_w1_0_4 : w1.cell? ⟨w.heap.size, 4, none⟩ = some (.int .i64 (E.R.dg)) := hw1.cell_of (by go_simp); have f_w1_0_4 : w1.frozen? ⟨w.heap.size, 4, none⟩ = false := hw1.thaw_of (by go_simp) (by go_simp); have c_w1_0_5 : w1.cell? ⟨w.heap.size, 5, none⟩ = some (.int .i64 (E.R.tn)) := hw1.cell_of (by go_simp); have f_w1_0_5 : w1.frozen? ⟨w.heap.size, 5, none⟩ = false := hw1.thaw_of (by go_simp) (by go_simp); have c_w1_0_6 : w1.cell? ⟨w.heap.size, 6, none⟩ = some (.string E.R.nm) := hw1.cell_of (by go_simp); have f_w1_0_6 : w1.frozen? ⟨w.heap.size, 6, none⟩ = false := hw1.thaw_of (by go_simp) (by go_simp); have c_w1_0_7 : w1.cell? ⟨w.heap.size, 7, none⟩ = some (.slice o' E.R.pw.length cap') := hw1.cell_of (by go_simp); have f_w1_0_7 : w1.frozen? ⟨w.heap.size, 7, none⟩ = false := hw1.thaw_of (by go_simp) (by go_simp))
    go_ret
    exact ⟨K.rb (by rw [HE.out]), (by repeat' (first | with_reducible exact K.Ext.refl _ | with_reducible assumption | with_reducible refine K.Ext.drew ?_ | with_reducible refine K.Ext.alloc ?_ _ | with_reducible refine K.Ext.setCell ?_ ?_ _ | with_reducible refine K.Ext.trans ?_ (by with_reducible assumption) | (dsimp only; omega) | omega | exact K.Ext.refl _ | assumption | apply K.Ext.drew | refine K.Ext.alloc ?_ _ | refine K.Ext.setCell ?_ ?_ _ | (simp; done) | (simp; omega) | refine K.Ext.trans ?_ (by assumption)))⟩
  · have HE : Hid (Z.isEquation E = Z.isFormula E.R) := Z.hide (by unfold Z.isEquation; rw [hf]; rfl)
    go_enter Try.func116, Try.ntmps116
    go_wp2_with (first | ((go_at_call 91; refine K.call (by with_reducible rfl) (by with_reducible rfl) (spec_IsFormula E.L _ hm hn (h.ext (by repeat' (first | with_reducible exact K.Ext.refl _ | with_reducible assumption | with_reducible refine K.Ext.drew ?_ | with_reducible refine K.Ext.alloc ?_ _ | with_reducible refine K.Ext.setCell ?_ ?_ _ | with_reducible refine K.Ext.trans ?_ (by with_reducible assumption) | (dsimp only; omega) | omega | exact K.Ext.refl _ | assumption | apply K.Ext.drew | refine K.Ext.alloc ?_ _ | refine K.Ext.setCell ?_ ?_ _ | (simp; done) | (simp; omega) | refine K.Ext.trans ?_ (by assumption))))) ?_; rintro e w1 ⟨rfl, hw1⟩; obtain ⟨hcw1, hfw1⟩ := hw1.facts); have c_w1_0_0 : w1.cell? ⟨w.heap.size, 0, none⟩ = some (.int .i64 (E.L.dg)) := hw1.cell_of (by go_simp); have f_w1_0_0 : w1.frozen? ⟨w.heap.size, 0, none⟩ = false := hw1.thaw_of (by go_simp) (by go_simp); have c_w1_0_1 : w1.cell? ⟨w.heap.size, 1, none⟩ = some (.int .i64 (E.L.tn)) := hw1.cell_of (by go_simp); have f_w1_0_1 : w1.frozen? ⟨w.heap.size, 1, none⟩ = false := hw1.thaw_of (by go_simp) (by go_simp); have c_w1_0_2 : w1.cell? ⟨w.heap.size, 2, none⟩ = some (.string E.L.nm) := hw1.cell_of (by go_simp); have f_w1_0_2 : w1.frozen? ⟨w.heap.size, 2, none⟩ = false := hw1.thaw_of (by go_simp) (by go_simp); have c_w1_0_3 : w1.cell? ⟨w.heap.size, 3, none⟩ = some (.slice o E.L.pw.length cap) := hw1.cell_of (by go_simp); have f_w1_0_3 : w1.frozen? ⟨w.heap.size, 3, none⟩ = false := hw1.thaw_of (by go_simp) (by go_simp); have c_w1_0_4 : w1.cell? ⟨w.heap.size, 4, none⟩ = some (.int .i64 (E.R.dg)) := hw1.cell_of (by go_simp); have f_w1_0_4 : w1.frozen? ⟨w.heap.size, 4, none⟩ = false := hw1.thaw_of (by go_simp) (by go_simp); have c_w1_0_5 : w1.cell? ⟨w.heap.size, 5, none⟩ = some (.int .i64 (E.R.tn)) := hw1.cell_of (by go_simp); have f_w1_0_5 : w1.frozen? ⟨w.heap.size, 5, none⟩ = false := hw1.thaw_of (by go_simp) (by go_simp); have c_w1_0_6 : w1.cell? ⟨w.heap.size, 6, none⟩ = some (.string E.R.nm) := hw1.cell_of (by go_simp); have f_w1_0_6 : w1.frozen? ⟨w.heap.size, 6, none⟩ = false := hw1.thaw_of (by go_simp) (by go_simp); have c_w1_0_7 : w1.cell? ⟨w.heap.size, 7, none⟩ = some (.slice o' E.R.pw.length cap') := hw1.cell_of (by go_simp); have f_w1_0_7 : w1.frozen? ⟨w.heap.size, 7, none⟩ = false := hw1.thaw_of (by go_simp) (by go_simp)) | (go_at_call 91; refine K.call (by with_reducible rfl) (by with_reducible rfl) (spec_IsFormula E.R _ hm' hn' (h'.ext (by repeat' (first | with_reducible exact K.Ext.refl _ | with_reducible assumption | with_reducible refine K.Ext.drew ?_ | with_reducible refine K.Ext.alloc ?_ _ | with_reducible refine K.Ext.setCell ?_ ?_ _ | with_reducible refine K.Ext.trans ?_ (by with_reducible assumption) | (dsimp only; omega) | omega | exact K.Ext.refl _ | assumption | apply K.Ext.drew | refine K.Ext.alloc ?_ _ | refine K.Ext.setCell ?_ ?_ _ | (simp; done) | (simp; omega) | refine K.Ext.trans ?_ (by assumption))))) ?_; rintro e w2 ⟨rfl, hw2⟩; obtain ⟨hcw2, hfw2⟩ := hw2.facts))
    go_ret
    exact ⟨K.rb (by rw [HE.out]), (by repeat' (first | with_reducible exact K.Ext.refl _ | with_reducible assumption | with_reducible refine K.Ext.drew ?_ | with_reducible refine K.Ext.alloc ?_ _ | with_reducible refine K.Ext.setCell ?_ ?_ _ | with_reducible refine K.Ext.trans ?_ (by with_reducible assumption) | (dsimp only; omega) | omega | exact K.Ext.refl _ | assumption | apply K.Ext.drew | refine K.Ext.alloc ?_ _ | refine K.Ext.setCell ?_ ?_ _ | (simp; done) | (simp; omega) | refine K.Ext.trans ?_ (by assumption)))⟩
set_option maxHeartbeats 1600000 in
theorem impl_IsEquation (E : Z.Eqn) {l1 r1 l2 r2 : Nat} {p q : Value} (w : World) (hm : E.L.pw.length ≤ 1048576) (hn : E.L.nm.size ≤ 1048576) (hm' : E.R.pw.length ≤ 1048576) (hn' : E.R.nm.size ≤ 1048576) (h : K.ints w l1 r1 p E.L.pw) (h' : K.ints w l2 r2 q E.R.pw) :
    Calls Try.prog 47 #[.agg #[.int .i64 E.L.dg, .int .i64 E.L.tn, .string E.L.nm, p, .int .i64 E.R.dg, .int .i64 E.R.tn, .string E.R.nm, q]] w fun e w' => e = .returned (.bool (Z.isEquation E)) ∧ K.Ext w w' := by
  have g1 := h
  obtain ⟨o, cap, rfl, _⟩ := g1
  have g2 := h'
  obtain ⟨o', cap', rfl, _⟩ := g2
  cases hf : Z.isFormula E.L
  · have HE : Hid (Z.isEquation E = false) := Z.hide (by unfold Z.isEquation; rw [hf]; rfl)
    go_enter Try.func47, Try.ntmps47
    go_wp2_with ((go_at_call 33; refine K.call (by with_reducible rfl) (by with_reducible rfl) (impl_IsFormula E.L _ hm hn (h.ext (by repeat' (first | with_reducible exact K.Ext.refl _ | with_reducible assumption | with_reducible refine K.Ext.drew ?_ | with_reducible refine K.Ext.alloc ?_ _ | with_reducible refine K.Ext.setCell ?_ ?_ _ | with_reducible refine K.Ext.trans ?_ (by with_reducible assumption) | (dsimp only; omega) | omega | exact K.Ext.refl _ | assumption | apply K.Ext.drew | refine K.Ext.alloc ?_ _ | refine K.Ext.setCell ?_ ?_ _ | (simp; done) | (simp; omega) | refine K.Ext.trans ?_ (by assumption))))) ?_; rintro e w1 ⟨rfl, hw1⟩; obtain ⟨hcw1, hfw1⟩ := hw1.facts); have c_w1_0_0 : w1.cell? ⟨w.heap.size, 0, none⟩ = some (.int .i64 (E.L.dg)) := hw1.cell_of (by go_simp); have f_w1_0_0 : w1.frozen? ⟨w.heap.size, 0, none⟩ = false := hw1.thaw_of (by go_simp) (by go_simp); have c_w1_0_1 : w1.cell? ⟨w.heap.size, 1, none⟩ = some (.int .i64 (E.L.tn)) := hw1.cell_of (by go_simp); have f_w1_0_1 : w1.frozen? ⟨w.heap.size, 1, none⟩ = false := hw1.thaw_of (by go_simp) (by go_simp); have c_w1_0_2 : w1.cell? ⟨w.heap.size, 2, none⟩ = some (.string E.L.nm) := hw1.cell_of (by go_simp); have f_w1_0_2 : w1.frozen? ⟨w.heap.size, 2, none⟩ = false := hw1.thaw_of (by go_simp) (by go_simp); have c_w1_0_3 : w1.cell? ⟨w.heap.size, 3, none⟩ = some (.slice o E.L.pw.length cap) := hw1.cell_of (by go_simp); have f_w1_0_3 : w1.frozen? ⟨w.heap.size, 3, none⟩ = false := hw1.thaw_of (by go_simp) (by go_simp); have c_w1_0_4 : w1.cell? ⟨w.heap.size, 4, none⟩ = some (.int .i64 (E.R.dg)) := hw1.cell_of (by go_simp); have f_w1_0_4 : w1.frozen? ⟨w.heap.size, 4, none⟩ = false := hw1.thaw_of (by go_simp) (by go_simp); have c_w1_0_5 : w1.cell? ⟨w.heap.size, 5, none⟩ = some (.int .i64 (E.R.tn)) := hw1.cell_of (by go_simp); have f_w1_0_5 : w1.frozen? ⟨w.heap.size, 5, none⟩ = false := hw1.thaw_of (by go_simp) (by go_simp); have c_w1_0_6 : w1.cell? ⟨w.heap.size, 6, none⟩ = some (.string E.R.nm) := hw1.cell_of (by go_simp); have f_w1_0_6 : w1.frozen? ⟨w.heap.size, 6, none⟩ = false := hw1.thaw_of (by go_simp) (by go_simp); have c_w1_0_7 : w1.cell? ⟨w.heap.size, 7, none⟩ = some (.slice o' E.R.pw.length cap') := hw1.cell_of (by go_simp); have f_w1_0_7 : w1.frozen? ⟨w.heap.size, 7, none⟩ = false := hw1.thaw_of (by go_simp) (by go_simp))
    go_ret
    exact ⟨K.rb (by rw [HE.out]), (by repeat' (first | with_reducible exact K.Ext.refl _ | with_reducible assumption | with_reducible refine K.Ext.drew ?_ | with_reducible refine K.Ext.alloc ?_ _ | with_reducible refine K.Ext.setCell ?_ ?_ _ | with_reducible refine K.Ext.trans ?_ (by with_reducible assumption) | (dsimp only; omega) | omega | exact K.Ext.refl _ | assumption | apply K.Ext.drew | refine K.Ext.alloc ?_ _ | refine K.Ext.setCell ?_ ?_ _ | (simp; done) | (simp; omega) | refine K.Ext.trans ?_ (by assumption)))⟩
  · have HE : Hid (Z.isEquation E = Z.isFormula E.R) := Z.hide (by unfold Z.isEquation; rw [hf]; rfl)
    go_enter Try.func47, Try.ntmps47
    go_wp2_with (first | ((go_at_call 33; refine K.call (by with_reducible rfl) (by with_reducible rfl) (impl_IsFormula E.L _ hm hn (h.ext (by repeat' (first | with_reducible exact K.Ext.refl _ | with_reducible assumption | with_reducible refine K.Ext.drew ?_ | with_reducible refine K.Ext.alloc ?_ _ | with_reducible refine K.Ext.setCell ?_ ?_ _ | with_reducible refine K.Ext.trans ?_ (by with_reducible assumption) | (dsimp only; omega) | omega | exact K.Ext.refl _ | assumption | apply K.Ext.drew | refine K.Ext.alloc ?_ _ | refine K.Ext.setCell ?_ ?_ _ | (simp; done) | (simp; omega) | refine K.Ext.trans ?_ (by assumption))))) ?_; rintro e w1 ⟨rfl, hw1⟩; obtain ⟨hcw1, hfw1⟩ := hw1.facts); have c_w1_0_0 : w1.cell? ⟨w.heap.size, 0, none⟩ = some (.int .i64 (E.L.dg)) := hw1.cell_of (by go_simp); have f_w1_0_0 : w1.frozen? ⟨w.heap.size, 0, none⟩ = false := hw1.thaw_of (by go_simp) (by go_simp); have c_w1_0_1 : w1.cell? ⟨w.heap.size, 1, none⟩ = some (.int .i64 (E.L.tn)) := hw1.cell_of (by go_simp); have f_w1_0_1 : w1.frozen? ⟨w.heap.size, 1, none⟩ = false := hw1.thaw_of (by go_simp) (by go_simp); have c_w1_0_2 : w1.cell? ⟨w.heap.size, 2, none⟩ = some (.string E.L.nm) := hw1.cell_of (by go_simp); have f_w1_0_2 : w1.frozen? ⟨w.heap.size, 2, none⟩ = false := hw1.thaw_of (by go_simp) (by go_simp); have c_w1_0_3 : w1.cell? ⟨w.heap.size, 3, none⟩ = some (.slice o E.L.pw.length cap) := hw1.cell_of (by go_simp); have f_w1_0_3 : w1.frozen? ⟨w.heap.size, 3, none⟩ = false := hw1.thaw_of (by go_simp) (by go_simp); have c_w1_0_4 : w1.cell? ⟨w.heap.size, 4, none⟩ = some (.int .i64 (E.R.dg)) := hw1.cell_of (by go_simp); have f_w1_0_4 : w1.frozen? ⟨w.heap.size, 4, none⟩ = false := hw1.thaw_of (by go_simp) (by go_simp); have c_w1_0_5 : w1.cell? ⟨w.heap.size, 5, none⟩ = some (.int .i64 (E.R.tn)) := hw1.cell_of (by go_simp); have f_w1_0_5 : w1.frozen? ⟨w.heap.size, 5, none⟩ = false := hw1.thaw_of (by go_simp) (by go_simp); have c_w1_0_6 : w1.cell? ⟨w.heap.size, 6, none⟩ = some (.string E.R.nm) := hw1.cell_of (by go_simp); have f_w1_0_6 : w1.frozen? ⟨w.heap.size, 6, none⟩ = false := hw1.thaw_of (by go_simp) (by go_simp); have c_w1_0_7 : w1.cell? ⟨w.heap.size, 7, none⟩ = some (.slice o' E.R.pw.length cap') := hw1.cell_of (by go_simp); have f_w1_0_7 : w1.frozen? ⟨w.heap.size, 7, none⟩ = false := hw1.thaw_of (by go_simp) (by go_simp)) | (go_at_call 33; refine K.call (by with_reducible rfl) (by with_reducible rfl) (impl_IsFormula E.R _ hm' hn' (h'.ext (by repeat' (first | with_reducible exact K.Ext.refl _ | with_reducible assumption | with_reducible refine K.Ext.drew ?_ | with_reducible refine K.Ext.alloc ?_ _ | with_reducible refine K.Ext.setCell ?_ ?_ _ | with_reducible refine K.Ext.trans ?_ (by with_reducible assumption) | (dsimp only; omega) | omega | exact K.Ext.refl _ | assumption | apply K.Ext.drew | refine K.Ext.alloc ?_ _ | refine K.Ext.setCell ?_ ?_ _ | (simp; done) | (simp; omega) | refine K.Ext.trans ?_ (by assumption))))) ?_; rintro e w2 ⟨rfl, hw2⟩; obtain ⟨hcw2, hfw2⟩ := hw2.facts))
    go_ret
    exact ⟨K.rb (by rw [HE.out]), (by repeat' (first | with_reducible exact K.Ext.refl _ | with_reducible assumption | with_reducible refine K.Ext.drew ?_ | with_reducible refine K.Ext.alloc ?_ _ | with_reducible refine K.Ext.setCell ?_ ?_ _ | with_reducible refine K.Ext.trans ?_ (by with_reducible assumption) | (dsimp only; omega) | omega | exact K.Ext.refl _ | assumption | apply K.Ext.drew | refine K.Ext.alloc ?_ _ | refine K.Ext.setCell ?_ ?_ _ | (simp; done) | (simp; omega) | refine K.Ext.trans ?_ (by assumption)))⟩
end Go.Proofs.Ythmnlbgbacbocaa
end
