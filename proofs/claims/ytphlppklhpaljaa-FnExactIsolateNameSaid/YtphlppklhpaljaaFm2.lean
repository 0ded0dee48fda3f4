/-
  FORMULAS: what the laws do with them, more; figures.
-/
import Derived.Test.YtphlppklhpaljaaFm
set_option linter.unusedVariables false
namespace Go.Proofs.Ytphlppklhpaljaa
open Go.RowKit
set_option maxHeartbeats 1600000 in
theorem eqFormula_same (F : Z.Fm) (lo hi lo' hi' : Nat) (p p' : Value) (w : World) (hm : F.pw.length ≤ 1048576) (h : K.ints w lo hi p F.pw) (h' : K.ints w lo' hi' p' F.pw) :
    Calls Try.prog 22 #[.agg #[.int .i64 F.dg, .int .i64 F.tn, .string F.nm, p], .agg #[.int .i64 F.dg, .int .i64 F.tn, .string F.nm, p']] w fun e w' => e = .returned (.bool true) ∧ K.Ext w w' := by
  have h1 := h
  obtain ⟨o, cap, rfl, _⟩ := h1
  have h1' := h'
  obtain ⟨o', cap', rfl, _⟩ := h1'
  go_enter Try.func22, Try.ntmps22
  go_wp2_with (first | ((go_at_call 41; refine K.call (by with_reducible rfl) (by with_reducible rfl) (eqFigure_same F.dg F.tn _) ?_; rintro e w1 ⟨rfl, hw1⟩; obtain ⟨hcw1, hfw1⟩ := hw1.facts); have c_w1_0_0 : w1.cell? ⟨w.heap.size, 0, none⟩ = some (.int .i64 (F.dg)) := hw1.cell_of (by go_simp); have f_w1_0_0 : w1.frozen? ⟨w.heap.size, 0, none⟩ = false := hw1.thaw_of (by go_simp) (by go_simp); have c_w1_0_1 : w1.cell? ⟨w.heap.size, 1, none⟩ = some (.int .i64 (F.tn)) := hw1.cell_of (by go_simp); have f_w1_0_1 : w1.frozen? ⟨w.heap.size, 1, none⟩ = false := hw1.thaw_of (by go_simp) (by go_simp); have c_w1_0_2 : w1.cell? ⟨w.heap.size, 2, none⟩ = some (.string F.nm) := hw1.cell_of (by go_simp); have f_w1_0_2 : w1.frozen? ⟨w.heap.size, 2, none⟩ = false := hw1.thaw_of (by go_simp) (by go_simp); have c_w1_0_3 : w1.cell? ⟨w.heap.size, 3, none⟩ = some (.slice o F.pw.length cap) := hw1.cell_of (by go_simp); have f_w1_0_3 : w1.frozen? ⟨w.heap.size, 3, none⟩ = false := hw1.thaw_of (by go_simp) (by go_simp); have c_w1_1_0 : w1.cell? ⟨w.heap.size + 1, 0, none⟩ = some (.int .i64 (F.dg)) := hw1.cell_of (by go_simp); have f_w1_1_0 : w1.frozen? ⟨w.heap.size + 1, 0, none⟩ = false := hw1.thaw_of (by go_simp) (by go_simp); have c_w1_1_1 : w1.cell? ⟨w.heap.size + 1, 1, none⟩ = some (.int .i64 (F.tn)) := hw1.cell_of (by go_simp); have f_w1_1_1 : w1.frozen? ⟨w.heap.size + 1, 1, none⟩ = false := hw1.thaw_of (by go_simp) (by go_simp); have c_w1_1_2 : w1.cell? ⟨w.heap.size + 1, 2, none⟩ = some (.string F.nm) := hw1.cell_of (by go_simp); have f_w1_1_2 : w1.frozen? ⟨w.heap.size + 1, 2, none⟩ = false := hw1.thaw_of (by go_simp) (by go_simp); have c_w1_1_3 : w1.cell? ⟨w.heap.size + 1, 3, none⟩ = some (.slice o' F.pw.length cap') := hw1.cell_of (by go_simp); have f_w1_1_3 : w1.frozen? ⟨w.heap.size + 1, 3, none⟩ = false := hw1.thaw_of (by go_simp) (by go_simp)) | (go_at_call 21; refine K.call (by with_reducible rfl) (by with_reducible rfl) (eqInt64S_same F.pw _ _ _ _ _ _ _ hm (h.ext (by repeat' (first | with_reducible exact K.Ext.refl _ | with_reducible assumption | with_reducible refine K.Ext.drew ?_ | with_reducible refine K.Ext.alloc ?_ _ | with_reducible refine K.Ext.setCell ?_ ?_ _ | with_reducible refine K.Ext.trans ?_ (by with_reducible assumption) | (dsimp only; omega) | omega | exact K.Ext.refl _ | assumption | apply K.Ext.drew | refine K.Ext.alloc ?_ _ | refine K.Ext.setCell ?_ ?_ _ | (simp; done) | (simp; omega) | refine K.Ext.trans ?_ (by assumption)))) (h'.ext (by repeat' (first | with_reducible exact K.Ext.refl _ | with_reducible assumption | with_reducible refine K.Ext.drew ?_ | with_reducible refine K.Ext.alloc ?_ _ | with_reducible refine K.Ext.setCell ?_ ?_ _ | with_reducible refine K.Ext.trans ?_ (by with_reducible assumption) | (dsimp only; omega) | omega | exact K.Ext.refl _ | assumption | apply K.Ext.drew | refine K.Ext.alloc ?_ _ | refine K.Ext.setCell ?_ ?_ _ | (simp; done) | (simp; omega) | refine K.Ext.trans ?_ (by assumption))))) ?_; rintro e w2 ⟨rfl, hw2⟩; obtain ⟨hcw2, hfw2⟩ := hw2.facts))
  go_ret
  exact ⟨rfl, (by repeat' (first | with_reducible exact K.Ext.refl _ | with_reducible assumption | with_reducible refine K.Ext.drew ?_ | with_reducible refine K.Ext.alloc ?_ _ | with_reducible refine K.Ext.setCell ?_ ?_ _ | with_reducible refine K.Ext.trans ?_ (by with_reducible assumption) | (dsimp only; omega) | omega | exact K.Ext.refl _ | assumption | apply K.Ext.drew | refine K.Ext.alloc ?_ _ | refine K.Ext.setCell ?_ ?_ _ | (simp; done) | (simp; omega) | refine K.Ext.trans ?_ (by assumption)))⟩
theorem szInt64S_any (xs : List Int) (lo hi : Nat) (v : Value) (s : Int) (w : World) (h0 : -1 ≤ s) (h1 : s ≤ 1048576) (h : K.ints w lo hi v xs) (hm : (xs.length : Int) ≤ 9223372036854775807) :
    Calls Try.prog 103 #[v, .int .i64 s] w fun e w' => e = .returned (.int .i64 (if s - xs.length < 0 then -1 else s - xs.length)) ∧ w = w' := by
  obtain ⟨o, cap, rfl, _⟩ := h
  by_cases hs : s - xs.length < 0
  · go_enter Try.func103, Try.ntmps103
    go_wp2_with fail
    go_ret
    exact ⟨K.ri (by first | rfl | (split <;> omega) | omega), rfl⟩
  · go_enter Try.func103, Try.ntmps103
    go_wp2_with fail
    go_ret
    exact ⟨K.ri (by first | rfl | (split <;> omega) | omega), rfl⟩
theorem szFormula_any (F : Z.Fm) (lo hi : Nat) (p : Value) (s : Int) (w : World) (h00 : 0 ≤ s) (h01 : s ≤ 1048576) (hn : F.nm.size ≤ 9223372036854775807) (hm : (F.pw.length : Int) ≤ 9223372036854775807) (h : K.ints w lo hi p F.pw) :
    Calls Try.prog 15 #[.agg #[.int .i64 F.dg, .int .i64 F.tn, .string F.nm, p], .int .i64 s] w fun e w' => (∃ r : Int, e = .returned (.int .i64 r) ∧ r ≤ 1048576 ∧ (r < 0 ∨ (F.pw.length ≤ 1048576 ∧ F.nm.size ≤ 1048576))) ∧ K.Ext w w' := by
  have h1 := h
  obtain ⟨o, cap, rfl, _⟩ := h1
  go_enter Try.func15, Try.ntmps15
  go_wp2_with fail
  · go_ret
    exact ⟨⟨_, rfl, by omega, .inl (by omega)⟩, (by repeat' (first | with_reducible exact K.Ext.refl _ | with_reducible assumption | with_reducible refine K.Ext.drew ?_ | with_reducible refine K.Ext.alloc ?_ _ | with_reducible refine K.Ext.setCell ?_ ?_ _ | with_reducible refine K.Ext.trans ?_ (by with_reducible assumption) | (dsimp only; omega) | omega | exact K.Ext.refl _ | assumption | apply K.Ext.drew | refine K.Ext.alloc ?_ _ | refine K.Ext.setCell ?_ ?_ _ | (simp; done) | (simp; omega) | refine K.Ext.trans ?_ (by assumption)))⟩
  · have h0 : ¬ (s - (F.nm.size : Int) < 0) := by omega
    by_cases hq : s - (F.nm.size : Int) - F.pw.length < 0
    · go_wp2_with (go_at_call 103; refine K.call (by with_reducible rfl) (by with_reducible rfl) (szInt64S_any F.pw _ _ _ _ _ (by omega) (by omega) (h.ext (by repeat' (first | with_reducible exact K.Ext.refl _ | with_reducible assumption | with_reducible refine K.Ext.drew ?_ | with_reducible refine K.Ext.alloc ?_ _ | with_reducible refine K.Ext.setCell ?_ ?_ _ | with_reducible refine K.Ext.trans ?_ (by with_reducible assumption) | (dsimp only; omega) | omega | exact K.Ext.refl _ | assumption | apply K.Ext.drew | refine K.Ext.alloc ?_ _ | refine K.Ext.setCell ?_ ?_ _ | (simp; done) | (simp; omega) | refine K.Ext.trans ?_ (by assumption)))) (by omega)) ?_; rintro e w2 ⟨rfl, rfl⟩)
      go_ret
      exact ⟨⟨_, rfl, by first | omega | (split <;> omega) | (rw [if_pos hq]; decide), .inl (by first | omega | (split <;> omega) | (rw [if_pos hq]; decide))⟩, (by repeat' (first | with_reducible exact K.Ext.refl _ | with_reducible assumption | with_reducible refine K.Ext.drew ?_ | with_reducible refine K.Ext.alloc ?_ _ | with_reducible refine K.Ext.setCell ?_ ?_ _ | with_reducible refine K.Ext.trans ?_ (by with_reducible assumption) | (dsimp only; omega) | omega | exact K.Ext.refl _ | assumption | apply K.Ext.drew | refine K.Ext.alloc ?_ _ | refine K.Ext.setCell ?_ ?_ _ | (simp; done) | (simp; omega) | refine K.Ext.trans ?_ (by assumption)))⟩
    · go_wp2_with (go_at_call 103; refine K.call (by with_reducible rfl) (by with_reducible rfl) (szInt64S_any F.pw _ _ _ _ _ (by omega) (by omega) (h.ext (by repeat' (first | with_reducible exact K.Ext.refl _ | with_reducible assumption | with_reducible refine K.Ext.drew ?_ | with_reducible refine K.Ext.alloc ?_ _ | with_reducible refine K.Ext.setCell ?_ ?_ _ | with_reducible refine K.Ext.trans ?_ (by with_reducible assumption) | (dsimp only; omega) | omega | exact K.Ext.refl _ | assumption | apply K.Ext.drew | refine K.Ext.alloc ?_ _ | refine K.Ext.setCell ?_ ?_ _ | (simp; done) | (simp; omega) | refine K.Ext.trans ?_ (by assumption)))) (by omega)) ?_; rintro e w2 ⟨rfl, rfl⟩)
      go_ret
      exact ⟨⟨_, rfl, by first | omega | (split <;> omega) | (rw [if_neg hq]; omega), .inr (by omega)⟩, (by repeat' (first | with_reducible exact K.Ext.refl _ | with_reducible assumption | with_reducible refine K.Ext.drew ?_ | with_reducible refine K.Ext.alloc ?_ _ | with_reducible refine K.Ext.setCell ?_ ?_ _ | with_reducible refine K.Ext.trans ?_ (by with_reducible assumption) | (dsimp only; omega) | omega | exact K.Ext.refl _ | assumption | apply K.Ext.drew | refine K.Ext.alloc ?_ _ | refine K.Ext.setCell ?_ ?_ _ | (simp; done) | (simp; omega) | refine K.Ext.trans ?_ (by assumption)))⟩
set_option maxHeartbeats 1600000 in
theorem markFormula_any (F : Z.Fm) (lo hi : Nat) (p : Value) (s : Int) (w : World) (hm : F.pw.length ≤ 1048576) (h0 : 0 ≤ s) (h1 : s ≤ 1000000000000000000) (hh : hi ≤ w.heap.size) (h : K.own w lo hi p F.pw) :
    Calls Try.prog 24 #[.agg #[.int .i64 F.dg, .int .i64 F.tn, .string F.nm, p], .int .i64 s] w fun e w' => (e = .returned (.int .i64 (s + F.pw.length)) ∧ K.own w' lo hi p (Z.marks s F.pw.length)) ∧ K.Far lo hi w w' := by
  have h2 := h
  obtain ⟨o, cap, rfl, _⟩ := h2
  go_enter Try.func24, Try.ntmps24
  go_wp2_with (go_at_call 26; refine K.call (by with_reducible rfl) (by with_reducible rfl) (markInt64S_any F.pw lo hi _ _ _ hm (by omega) (by omega) (h.ext (by repeat' (first | with_reducible exact K.Ext.refl _ | with_reducible assumption | with_reducible refine K.Ext.drew ?_ | with_reducible refine K.Ext.alloc ?_ _ | with_reducible refine K.Ext.setCell ?_ ?_ _ | with_reducible refine K.Ext.trans ?_ (by with_reducible assumption) | (dsimp only; omega) | omega | exact K.Ext.refl _ | assumption | apply K.Ext.drew | refine K.Ext.alloc ?_ _ | refine K.Ext.setCell ?_ ?_ _ | (simp; done) | (simp; omega) | refine K.Ext.trans ?_ (by assumption))))) ?_; rintro e w2 ⟨⟨rfl, h2⟩, hf2⟩)
  go_ret
  exact ⟨⟨rfl, h2⟩, (K.Far.of_ext (by repeat' (first | with_reducible exact K.Ext.refl _ | with_reducible assumption | with_reducible refine K.Ext.drew ?_ | with_reducible refine K.Ext.alloc ?_ _ | with_reducible refine K.Ext.setCell ?_ ?_ _ | with_reducible refine K.Ext.trans ?_ (by with_reducible assumption) | (dsimp only; omega) | omega | exact K.Ext.refl _ | assumption | apply K.Ext.drew | refine K.Ext.alloc ?_ _ | refine K.Ext.setCell ?_ ?_ _ | (simp; done) | (simp; omega) | refine K.Ext.trans ?_ (by assumption)))).trans hf2⟩
set_option maxHeartbeats 1600000 in
theorem heldFormula_any (d t : Int) (nm : ByteArray) (n : Nat) (lo hi : Nat) (p : Value) (s : Int) (w : World) (hm : n ≤ 1048576) (h0 : 0 ≤ s) (h1 : s ≤ 1000000000000000000) (h : K.ints w lo hi p (Z.marks s n)) :
    Calls Try.prog 130 #[.agg #[.int .i64 d, .int .i64 t, .string nm, p], .int .i64 s] w fun e w' => e = .returned (.int .i64 (s + n)) ∧ K.Ext w w' := by
  have h2 := h
  obtain ⟨o, cap, rfl, _⟩ := h2
  go_enter Try.func130, Try.ntmps130
  go_wp2_with (go_at_call 27; refine K.call (by with_reducible rfl) (by with_reducible rfl) (heldInt64S_any n lo hi _ s _ hm (by omega) (by omega) (h.ext (by repeat' (first | with_reducible exact K.Ext.refl _ | with_reducible assumption | with_reducible refine K.Ext.drew ?_ | with_reducible refine K.Ext.alloc ?_ _ | with_reducible refine K.Ext.setCell ?_ ?_ _ | with_reducible refine K.Ext.trans ?_ (by with_reducible assumption) | (dsimp only; omega) | omega | exact K.Ext.refl _ | assumption | apply K.Ext.drew | refine K.Ext.alloc ?_ _ | refine K.Ext.setCell ?_ ?_ _ | (simp; done) | (simp; omega) | refine K.Ext.trans ?_ (by assumption))))) ?_; rintro e w2 ⟨rfl, rfl⟩)
  go_ret
  exact ⟨rfl, (by repeat' (first | with_reducible exact K.Ext.refl _ | with_reducible assumption | with_reducible refine K.Ext.drew ?_ | with_reducible refine K.Ext.alloc ?_ _ | with_reducible refine K.Ext.setCell ?_ ?_ _ | with_reducible refine K.Ext.trans ?_ (by with_reducible assumption) | (dsimp only; omega) | omega | exact K.Ext.refl _ | assumption | apply K.Ext.drew | refine K.Ext.alloc ?_ _ | refine K.Ext.setCell ?_ ?_ _ | (simp; done) | (simp; omega) | refine K.Ext.trans ?_ (by assumption)))⟩
theorem spec_IsFigure (d t : Int) (w : World) :
    Calls Try.prog 115 #[.agg #[.int .i64 d, .int .i64 t]] w fun e w' => e = .returned (.bool (Z.isFig d t)) ∧ K.Ext w w' := by
  cases h1 : (decide (1000 ≤ d) && decide (d ≤ 9999))
  · go_enter Try.func115, Try.ntmps115
    go_wp2_with (go_at_call 112; refine K.call (by with_reducible rfl) (by with_reducible rfl) (l01In_any _ _ _ _) ?_; rintro e w' ⟨rfl, rfl⟩)
    go_ret
    exact ⟨K.rb (by simp [Z.isFig, h1]), (by repeat' (first | with_reducible exact K.Ext.refl _ | with_reducible assumption | with_reducible refine K.Ext.drew ?_ | with_reducible refine K.Ext.alloc ?_ _ | with_reducible refine K.Ext.setCell ?_ ?_ _ | with_reducible refine K.Ext.trans ?_ (by with_reducible assumption) | (dsimp only; omega) | omega | exact K.Ext.refl _ | assumption | apply K.Ext.drew | refine K.Ext.alloc ?_ _ | refine K.Ext.setCell ?_ ?_ _ | (simp; done) | (simp; omega) | refine K.Ext.trans ?_ (by assumption)))⟩
  · go_enter Try.func115, Try.ntmps115
    go_wp2_with (go_at_call 112; refine K.call (by with_reducible rfl) (by with_reducible rfl) (l01In_any _ _ _ _) ?_; rintro e w' ⟨rfl, rfl⟩)
    go_ret
    exact ⟨K.rb (by simp [Z.isFig, h1]), (by repeat' (first | with_reducible exact K.Ext.refl _ | with_reducible assumption | with_reducible refine K.Ext.drew ?_ | with_reducible refine K.Ext.alloc ?_ _ | with_reducible refine K.Ext.setCell ?_ ?_ _ | with_reducible refine K.Ext.trans ?_ (by with_reducible assumption) | (dsimp only; omega) | omega | exact K.Ext.refl _ | assumption | apply K.Ext.drew | refine K.Ext.alloc ?_ _ | refine K.Ext.setCell ?_ ?_ _ | (simp; done) | (simp; omega) | refine K.Ext.trans ?_ (by assumption)))⟩
theorem impl_IsFigure (d t : Int) (w : World) :
    Calls Try.prog 161 #[.agg #[.int .i64 d, .int .i64 t]] w fun e w' => e = .returned (.bool (Z.isFig d t)) ∧ K.Ext w w' := by
  cases h1 : (decide (1000 ≤ d) && decide (d ≤ 9999))
  · go_enter Try.func161, Try.ntmps161
    go_wp2_with (go_at_call 114; refine K.call (by with_reducible rfl) (by with_reducible rfl) (within_any _ _ _ _) ?_; rintro e w' ⟨rfl, rfl⟩)
    go_ret
    exact ⟨K.rb (by simp [Z.isFig, h1]), (by repeat' (first | with_reducible exact K.Ext.refl _ | with_reducible assumption | with_reducible refine K.Ext.drew ?_ | with_reducible refine K.Ext.alloc ?_ _ | with_reducible refine K.Ext.setCell ?_ ?_ _ | with_reducible refine K.Ext.trans ?_ (by with_reducible assumption) | (dsimp only; omega) | omega | exact K.Ext.refl _ | assumption | apply K.Ext.drew | refine K.Ext.alloc ?_ _ | refine K.Ext.setCell ?_ ?_ _ | (simp; done) | (simp; omega) | refine K.Ext.trans ?_ (by assumption)))⟩
  · go_enter Try.func161, Try.ntmps161
    go_wp2_with (go_at_call 114; refine K.call (by with_reducible rfl) (by with_reducible rfl) (within_any _ _ _ _) ?_; rintro e w' ⟨rfl, rfl⟩)
    go_ret
    exact ⟨K.rb (by simp [Z.isFig, h1]), (by repeat' (first | with_reducible exact K.Ext.refl _ | with_reducible assumption | with_reducible refine K.Ext.drew ?_ | with_reducible refine K.Ext.alloc ?_ _ | with_reducible refine K.Ext.setCell ?_ ?_ _ | with_reducible refine K.Ext.trans ?_ (by with_reducible assumption) | (dsimp only; omega) | omega | exact K.Ext.refl _ | assumption | apply K.Ext.drew | refine K.Ext.alloc ?_ _ | refine K.Ext.setCell ?_ ?_ _ | (simp; done) | (simp; omega) | refine K.Ext.trans ?_ (by assumption)))⟩
end Go.Proofs.Ytphlppklhpaljaa
