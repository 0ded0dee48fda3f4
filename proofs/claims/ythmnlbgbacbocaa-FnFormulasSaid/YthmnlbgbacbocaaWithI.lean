/-
  FORMULAS without a letter, the tool.
-/
import Derived.Test.YthmnlbgbacbocaaMadeOf
import Derived.Test.YthmnlbgbacbocaaBase
import Derived.Test.YthmnlbgbacbocaaFm3
set_option linter.unusedVariables false
namespace Go.Proofs.Ythmnlbgbacbocaa
open Go.RowKit
set_option maxHeartbeats 1600000 in
theorem without1_any (F : Z.Fm) (c : Int) (i : Nat) (gb gf : Nat) {lo hi : Nat} {p : Value} (w : World) (hi26 : i < 26) (hl : F.pw.length = F.nm.size) (h6 : F.nm.size ≤ 6)
    (hc : w.cell? ⟨gb, 0, none⟩ = some (.int .u8 c)) (h0 : w.cell? ⟨gf, 0, none⟩ = some (.int .i64 F.dg)) (h1 : w.cell? ⟨gf, 1, none⟩ = some (.int .i64 F.tn)) (h2 : w.cell? ⟨gf, 2, none⟩ = some (.string F.nm)) (h3 : w.cell? ⟨gf, 3, none⟩ = some p) (h : K.ints w lo hi p F.pw) :
    Calls Try.prog 182 #[.int .u8 (97 + (i : Int)), .pointer (some ⟨gb, 0, none⟩), .pointer (some ⟨gf, 0, none⟩)] w fun e w' => e = .returned (.int .i64 (Z.withF F c i)) ∧ K.Ext w w' := by
  have g1 := h
  obtain ⟨o, cap, rfl, _⟩ := g1
  have HL := Z.hide hl
  have H6 := Z.hide h6
  clear hl h6
  by_cases he : 97 + (i : Int) = c
  · have HE : Hid (Z.withF F c i = 0) := Z.hide (by unfold Z.withF; rw [if_pos he])
    go_enter Try.func182, Try.ntmps182
    go_wp2
    go_ret
    exact ⟨K.ri (by rw [HE.out]), (by repeat' (first | with_reducible exact K.Ext.refl _ | with_reducible assumption | with_reducible refine K.Ext.drew ?_ | with_reducible refine K.Ext.alloc ?_ _ | with_reducible refine K.Ext.setCell ?_ ?_ _ | with_reducible refine K.Ext.trans ?_ (by with_reducible assumption) | (dsimp only; omega) | omega | exact K.Ext.refl _ | assumption | apply K.Ext.drew | refine K.Ext.alloc ?_ _ | refine K.Ext.setCell ?_ ?_ _ | (simp; done) | (simp; omega) | refine K.Ext.trans ?_ (by assumption)))⟩
  · have HE : Hid (Z.withF F c i = Z.expo (Z.bs F.nm) F.pw (97 + (i : Int))) := Z.hide (by unfold Z.withF; rw [if_neg he])
    go_enter Try.func182, Try.ntmps182
    go_wp2_with (go_at_call 106; refine K.call (by with_reducible rfl) (by with_reducible rfl) (exponentOf_any F (97 + (i : Int)) _ _ _ _ HL.out (Nat.le_trans H6.out (by decide)) (by omega) (by omega) (h.ext (by repeat' (first | with_reducible exact K.Ext.refl _ | with_reducible assumption | with_reducible refine K.Ext.drew ?_ | with_reducible refine K.Ext.alloc ?_ _ | with_reducible refine K.Ext.setCell ?_ ?_ _ | with_reducible refine K.Ext.trans ?_ (by with_reducible assumption) | (dsimp only; omega) | omega | exact K.Ext.refl _ | assumption | apply K.Ext.drew | refine K.Ext.alloc ?_ _ | refine K.Ext.setCell ?_ ?_ _ | (simp; done) | (simp; omega) | refine K.Ext.trans ?_ (by assumption))))) ?_; rintro e w1 ⟨rfl, hw1⟩; obtain ⟨hcw1, hfw1⟩ := hw1.facts)
    go_ret
    exact ⟨K.ri (by rw [HE.out]), (by repeat' (first | with_reducible exact K.Ext.refl _ | with_reducible assumption | with_reducible refine K.Ext.drew ?_ | with_reducible refine K.Ext.alloc ?_ _ | with_reducible refine K.Ext.setCell ?_ ?_ _ | with_reducible refine K.Ext.trans ?_ (by with_reducible assumption) | (dsimp only; omega) | omega | exact K.Ext.refl _ | assumption | apply K.Ext.drew | refine K.Ext.alloc ?_ _ | refine K.Ext.setCell ?_ ?_ _ | (simp; done) | (simp; omega) | refine K.Ext.trans ?_ (by assumption)))⟩
set_option maxHeartbeats 3200000 in
theorem without_any (F : Z.Fm) (c : Int) {lo hi : Nat} {p : Value} (w : World) (hf : Z.isFormula F = true) (h : K.ints w lo hi p F.pw) :
    Calls Try.prog 130 #[.agg #[.int .i64 F.dg, .int .i64 F.tn, .string F.nm, p], .int .u8 c] w fun e w' => (∃ p', e = .returned (.agg #[.int .i64 ((Z.without F c)).dg, .int .i64 ((Z.without F c)).tn, .string ((Z.without F c)).nm, p']) ∧ K.own w' w.heap.size w'.heap.size p' (Z.without F c).pw) ∧ K.Ext w w' := by
  have g1 := h
  obtain ⟨o, cap, rfl, _⟩ := g1
  obtain ⟨hl, h6⟩ : Hid (F.pw.length = F.nm.size) ∧ Hid (F.nm.size ≤ 6) := Z.isFormula_len hf
  have hmf : ∀ (fn : Fn) (first cap : Array Value) (w : World), (Instr.makeFunc fn first cap).run Try.prog w = .ok (.func fn first cap) w := fun _ _ _ _ => rfl
  have hg : ∀ (args : Array Value) (w' : World), (callFunc 182 args).run Try.prog w' = .ok (.enter 182 args) w' := by
    intro args w'; go_simp
  have HC : ∀ W : World, (∀ w', K.Ext W w' → w'.cell? ⟨w.heap.size + 1, 0, none⟩ = some (.int .u8 c) ∧ w'.cell? ⟨w.heap.size, 0, none⟩ = some (.int .i64 F.dg) ∧ w'.cell? ⟨w.heap.size, 1, none⟩ = some (.int .i64 F.tn) ∧ w'.cell? ⟨w.heap.size, 2, none⟩ = some (.string F.nm) ∧ w'.cell? ⟨w.heap.size, 3, none⟩ = some (.slice o F.pw.length cap)) → K.ints W lo hi (.slice o F.pw.length cap) F.pw →
      Calls Try.prog 163 #[.agg #[.int .i64 F.dg, .int .i64 F.tn], .func (.func 182) #[] #[.pointer (some ⟨w.heap.size + 1, 0, none⟩), .pointer (some ⟨w.heap.size, 0, none⟩)]] W fun e w' => (∃ p', e = .returned (.tuple #[.agg #[.int .i64 ((Z.without F c)).dg, .int .i64 ((Z.without F c)).tn, .string ((Z.without F c)).nm, p'], .int .i64 0]) ∧ K.own w' W.heap.size w'.heap.size p' (Z.without F c).pw) ∧ K.Ext W w' := by
    intro W hW hI
    have := madeOf_any F.dg F.tn (Z.withF F c) 182 (.pointer (some ⟨w.heap.size + 1, 0, none⟩)) (.pointer (some ⟨w.heap.size, 0, none⟩)) W hg (fun i w' hi hx => by
      obtain ⟨x0, x1, x2, x3, x4⟩ := hW w' hx
      exact without1_any F c i _ _ w' hi hl.out h6.out x0 x1 x2 x3 x4 (hI.ext hx))
    rw [Z.madeOr_without hf] at this
    exact this
  have HCh := Z.hide HC
  clear HC hf
  go_enter Try.func130, Try.ntmps130
  go_wp2_with ((go_at_call 163; refine K.call (by with_reducible rfl) (by with_reducible rfl) (HCh.out _ (fun w' hx => ⟨hx.cell_of (by go_simp), hx.cell_of (by go_simp), hx.cell_of (by go_simp), hx.cell_of (by go_simp), hx.cell_of (by go_simp)⟩) (h.ext (by repeat' (first | with_reducible exact K.Ext.refl _ | with_reducible assumption | with_reducible refine K.Ext.drew ?_ | with_reducible refine K.Ext.alloc ?_ _ | with_reducible refine K.Ext.setCell ?_ ?_ _ | with_reducible refine K.Ext.trans ?_ (by with_reducible assumption) | (dsimp only; omega) | omega | exact K.Ext.refl _ | assumption | apply K.Ext.drew | refine K.Ext.alloc ?_ _ | refine K.Ext.setCell ?_ ?_ _ | (simp; done) | (simp; omega) | refine K.Ext.trans ?_ (by assumption))))) ?_; rintro e w1 ⟨⟨p1, rfl, hp1⟩, hw1⟩; obtain ⟨hcw1, hfw1⟩ := hw1.facts; have hp3 := hp1; obtain ⟨o1, c1, rfl, _⟩ := hp3); have c_w1_2_0 : w1.cell? ⟨w.heap.size + 1 + 1, 0, none⟩ = some (.int .i64 (0)) := hw1.cell_of (by go_simp); have f_w1_2_0 : w1.frozen? ⟨w.heap.size + 1 + 1, 0, none⟩ = false := hw1.thaw_of (by go_simp) (by go_simp); have c_w1_2_1 : w1.cell? ⟨w.heap.size + 1 + 1, 1, none⟩ = some (.int .i64 (0)) := hw1.cell_of (by go_simp); have f_w1_2_1 : w1.frozen? ⟨w.heap.size + 1 + 1, 1, none⟩ = false := hw1.thaw_of (by go_simp) (by go_simp); have c_w1_2_2 : w1.cell? ⟨w.heap.size + 1 + 1, 2, none⟩ = some (.string ⟨#[]⟩) := hw1.cell_of (by go_simp); have f_w1_2_2 : w1.frozen? ⟨w.heap.size + 1 + 1, 2, none⟩ = false := hw1.thaw_of (by go_simp) (by go_simp); have c_w1_2_3 : w1.cell? ⟨w.heap.size + 1 + 1, 3, none⟩ = some (.slice none 0 0) := hw1.cell_of (by go_simp); have f_w1_2_3 : w1.frozen? ⟨w.heap.size + 1 + 1, 3, none⟩ = false := hw1.thaw_of (by go_simp) (by go_simp); have z1 : w.heap.size + 3 ≤ w1.heap.size := (by have h_ := hw1.size; simp at h_; omega); have z2 : ¬ (w.heap.size + 1 + 1 = w1.heap.size) := (by omega); have z3 : ¬ (w1.heap.size = w.heap.size + 1 + 1) := (by omega); have z4 : w.heap.size + 1 + 1 < w1.heap.size := (by omega))
  refine bodyPost_ret (v := .agg #[.int .i64 ((Z.without F c)).dg, .int .i64 ((Z.without F c)).tn, .string ((Z.without F c)).nm, .slice o1 (Z.without F c).pw.length c1]) (by unfold results; rw [Try.results130]; go_simp) rfl ⟨⟨_, rfl, ?_⟩, ?_⟩
  · refine K.own.mono (lo := w.heap.size + 3) (hi := w1.heap.size) ?_ (by omega) (by simp)
    repeat' (first | with_reducible refine K.own.set ?_ _ ?_ _ | with_reducible refine K.own.alloc ?_ _ | (with_reducible exact hp1.mono (by simp) (Nat.le_refl _)) | (dsimp only; omega))
  · have hq : K.Ext w w1 := K.Ext.trans ((((K.Ext.refl w).alloc _).alloc _).alloc _) hw1
    repeat' (first | with_reducible exact hq | with_reducible refine K.Ext.setCell ?_ ?_ _ | with_reducible refine K.Ext.alloc ?_ _ | (dsimp only; omega))
end Go.Proofs.Ythmnlbgbacbocaa
