/-
  LIKENESS of slices, formulas, equations: of equal terms it is true.
-/
import Derived.Test.YthmnlbgbacbocaaEqn
set_option linter.unusedVariables false
namespace Go.Proofs.Ythmnlbgbacbocaa
open Go.RowKit
set_option maxHeartbeats 400000 in
theorem likeInts_same (xs : List Int) (lo hi lo' hi' : Nat) (v v' : Value) (w : World) (hm : xs.length ≤ 1048576) (h : K.ints w lo hi v xs) (h' : K.ints w lo' hi' v' xs) :
    Calls Try.prog 19 #[v, v'] w fun e w' => e = .returned (.bool true) ∧ K.Ext w w' := by
  obtain ⟨o, cap, rfl, h⟩ := h
  obtain ⟨o', cap', rfl, h'⟩ := h'
  go_enter Try.func19, Try.ntmps19
  go_wp2
  go_loopw [5] (fun i wr => ∃ k : Nat, k ≤ xs.length ∧ i = .int .i64 k ∧ Hid (K.Ext w wr)) (fun i _ => xs.length - (intOf i).toNat)
  case atStart => exact ⟨0, Nat.zero_le _, rfl, Z.hide (K.Ext.refl _)⟩
  case round =>
    obtain ⟨k, hk, rfl, HX⟩ := hrel
    by_cases hlt : k < xs.length
    · obtain ⟨b, off, rfl, _, _, hc⟩ := h (by intro h0; simp [h0] at hlt)
      obtain ⟨b', off', rfl, _, _, hc'⟩ := h' (by intro h0; simp [h0] at hlt)
      have hck := HX.out.cell_of (hc k hlt)
      have hck' := HX.out.cell_of (hc' k hlt)
      clear hc hc' h h'
      generalize xs.getD k 0 = x at *
      have i0 : (0 : Int) ≤ (k : Int) := Int.natCast_nonneg k
      have i1 : (k : Int) < (xs.length : Int) := by omega
      go_wp2_with fail
      refine K.wp_region_ext (by kernel_rfl) (by kernel_rfl) ?_
      apply K.qcons
      · rfl
      · intro w' hw'; have hc := hw'.all.1.1; have hf := hw'.all.1.2; have hc' := hw'.all.2.1; have hf' := hw'.all.2.2; unfold Oper.quietAt; go_simp; first | done | rfl | exact ⟨rfl, rfl⟩
      simp only [Act.put, List.setIfInBounds_toArray, List.set]
      apply K.qcons
      · rfl
      · intro w' hw'; have hc := hw'.all.1.1; have hf := hw'.all.1.2; have hc' := hw'.all.2.1; have hf' := hw'.all.2.2; unfold Oper.quietAt; go_simp; first | done | rfl | exact ⟨rfl, rfl⟩
      simp only [Act.put, List.setIfInBounds_toArray, List.set]
      apply K.qcons
      · rfl
      · intro w' hw'; have hc := hw'.all.1.1; have hf := hw'.all.1.2; have hc' := hw'.all.2.1; have hf' := hw'.all.2.2; unfold Oper.quietAt; go_simp; first | done | rfl | exact ⟨rfl, rfl⟩
      simp only [Act.put, List.setIfInBounds_toArray, List.set]
      apply K.qcons
      · rfl
      · intro w' hw'; have hc := hw'.all.1.1; have hf := hw'.all.1.2; have hc' := hw'.all.2.1; have hf' := hw'.all.2.2; unfold Oper.quietAt; go_simp; first | done | rfl | exact ⟨rfl, rfl⟩
      simp only [Act.put, List.setIfInBounds_toArray, List.set]
      apply K.qcons
      · rfl
      · intro w' hw'; have hc := hw'.all.1.1; have hf := hw'.all.1.2; have hc' := hw'.all.2.1; have hf' := hw'.all.2.2; unfold Oper.quietAt; go_simp; first | done | rfl | exact ⟨rfl, rfl⟩
      simp only [Act.put, List.setIfInBounds_toArray, List.set]
      apply K.qcons
      · rfl
      · intro w' hw'; have hc := hw'.all.1.1; have hf := hw'.all.1.2; have hc' := hw'.all.2.1; have hf' := hw'.all.2.2; unfold Oper.quietAt; go_simp; first | done | rfl | exact ⟨rfl, rfl⟩
      simp only [Act.put, List.setIfInBounds_toArray, List.set]
      apply K.qcons
      · rfl
      · intro w' hw'; have hc := hw'.all.1.1; have hf := hw'.all.1.2; have hc' := hw'.all.2.1; have hf' := hw'.all.2.2; unfold Oper.quietAt; go_simp; first | done | rfl | exact ⟨rfl, rfl⟩
      simp only [Act.put, List.setIfInBounds_toArray, List.set]
      apply K.qcons
      · rfl
      · intro w' hw'; have hc := hw'.all.1.1; have hf := hw'.all.1.2; have hc' := hw'.all.2.1; have hf' := hw'.all.2.2; unfold Oper.quietAt; go_simp; first | done | rfl | exact ⟨rfl, rfl⟩
      simp only [Act.put, List.setIfInBounds_toArray, List.set]
      apply K.qcons
      · rfl
      · intro w' hw'; have hc := hw'.all.1.1; have hf := hw'.all.1.2; have hc' := hw'.all.2.1; have hf' := hw'.all.2.2; unfold Oper.quietAt; go_simp; first | done | exact K.vint (IntWalk.i64_in _ (by omega)) | rfl | exact ⟨rfl, rfl⟩
      simp only [Act.put, List.setIfInBounds_toArray, List.set]
      refine wpQuiet_nil ?_
      intro w1 hx1
      obtain ⟨⟨hcw1, hfw1⟩, hc'w1, hf'w1⟩ := hx1.all
      go_wp2
      go_roundw
      case rel => exact ⟨k + 1, by omega, by go_num, Z.hide (HX.out.trans (by first | exact hx1 | exact hx1.drew))⟩
      case measure => simp [intOf]; omega
    · obtain rfl : k = xs.length := by omega
      go_wp2
      go_ret
      exact ⟨rfl, HX.out⟩
set_option maxHeartbeats 1600000 in
theorem likeFormulas_same (F : Z.Fm) (lo hi lo' hi' : Nat) (p p' : Value) (w : World) (hm : F.pw.length ≤ 1048576) (h : K.ints w lo hi p F.pw) (h' : K.ints w lo' hi' p' F.pw) :
    Calls Try.prog 32 #[.agg #[.int .i64 F.dg, .int .i64 F.tn, .string F.nm, p], .agg #[.int .i64 F.dg, .int .i64 F.tn, .string F.nm, p']] w fun e w' => e = .returned (.bool true) ∧ K.Ext w w' := by
  have h1 := h
  obtain ⟨o, cap, rfl, _⟩ := h1
  have h1' := h'
  obtain ⟨o', cap', rfl, _⟩ := h1'
  go_enter Try.func32, Try.ntmps32
  go_wp2_with (go_at_call 19; refine K.call (by with_reducible rfl) (by with_reducible rfl) (likeInts_same F.pw _ _ _ _ _ _ _ hm (h.ext (by repeat' (first | with_reducible exact K.Ext.refl _ | with_reducible assumption | with_reducible refine K.Ext.drew ?_ | with_reducible refine K.Ext.alloc ?_ _ | with_reducible refine K.Ext.setCell ?_ ?_ _ | with_reducible refine K.Ext.trans ?_ (by with_reducible assumption) | (dsimp only; omega) | omega | exact K.Ext.refl _ | assumption | apply K.Ext.drew | refine K.Ext.alloc ?_ _ | refine K.Ext.setCell ?_ ?_ _ | (simp; done) | (simp; omega) | refine K.Ext.trans ?_ (by assumption)))) (h'.ext (by repeat' (first | with_reducible exact K.Ext.refl _ | with_reducible assumption | with_reducible refine K.Ext.drew ?_ | with_reducible refine K.Ext.alloc ?_ _ | with_reducible refine K.Ext.setCell ?_ ?_ _ | with_reducible refine K.Ext.trans ?_ (by with_reducible assumption) | (dsimp only; omega) | omega | exact K.Ext.refl _ | assumption | apply K.Ext.drew | refine K.Ext.alloc ?_ _ | refine K.Ext.setCell ?_ ?_ _ | (simp; done) | (simp; omega) | refine K.Ext.trans ?_ (by assumption))))) ?_; rintro e w1 ⟨rfl, hw1⟩; obtain ⟨hcw1, hfw1⟩ := hw1.facts)
  go_ret
  exact ⟨rfl, (by repeat' (first | with_reducible exact K.Ext.refl _ | with_reducible assumption | with_reducible refine K.Ext.drew ?_ | with_reducible refine K.Ext.alloc ?_ _ | with_reducible refine K.Ext.setCell ?_ ?_ _ | with_reducible refine K.Ext.trans ?_ (by with_reducible assumption) | (dsimp only; omega) | omega | exact K.Ext.refl _ | assumption | apply K.Ext.drew | refine K.Ext.alloc ?_ _ | refine K.Ext.setCell ?_ ?_ _ | (simp; done) | (simp; omega) | refine K.Ext.trans ?_ (by assumption)))⟩
set_option maxHeartbeats 1600000 in
theorem likeEquations_same (E : Z.Eqn) (p q p' q' : Value) {l1 l2 l3 l4 r1 r2 r3 r4 : Nat} (w : World) (hm : E.L.pw.length ≤ 1048576) (hm' : E.R.pw.length ≤ 1048576) (h1 : K.ints w l1 r1 p E.L.pw) (h2 : K.ints w l2 r2 q E.R.pw) (h3 : K.ints w l3 r3 p' E.L.pw) (h4 : K.ints w l4 r4 q' E.R.pw) :
    Calls Try.prog 46 #[.agg #[.int .i64 E.L.dg, .int .i64 E.L.tn, .string E.L.nm, p, .int .i64 E.R.dg, .int .i64 E.R.tn, .string E.R.nm, q], .agg #[.int .i64 E.L.dg, .int .i64 E.L.tn, .string E.L.nm, p', .int .i64 E.R.dg, .int .i64 E.R.tn, .string E.R.nm, q']] w fun e w' => e = .returned (.bool true) ∧ K.Ext w w' := by
  have g1 := h1
  obtain ⟨o1, c1, rfl, _⟩ := g1
  have g2 := h2
  obtain ⟨o2, c2, rfl, _⟩ := g2
  have g3 := h3
  obtain ⟨o3, c3, rfl, _⟩ := g3
  have g4 := h4
  obtain ⟨o4, c4, rfl, _⟩ := g4
  go_enter Try.func46, Try.ntmps46
  go_wp2_with (first | ((go_at_call 32; refine K.call (by with_reducible rfl) (by with_reducible rfl) (likeFormulas_same E.L _ _ _ _ _ _ _ hm (h1.ext (by repeat' (first | with_reducible exact K.Ext.refl _ | with_reducible assumption | with_reducible refine K.Ext.drew ?_ | with_reducible refine K.Ext.alloc ?_ _ | with_reducible refine K.Ext.setCell ?_ ?_ _ | with_reducible refine K.Ext.trans ?_ (by with_reducible assumption) | (dsimp only; omega) | omega | exact K.Ext.refl _ | assumption | apply K.Ext.drew | refine K.Ext.alloc ?_ _ | refine K.Ext.setCell ?_ ?_ _ | (simp; done) | (simp; omega) | refine K.Ext.trans ?_ (by assumption)))) (h3.ext (by repeat' (first | with_reducible exact K.Ext.refl _ | with_reducible assumption | with_reducible refine K.Ext.drew ?_ | with_reducible refine K.Ext.alloc ?_ _ | with_reducible refine K.Ext.setCell ?_ ?_ _ | with_reducible refine K.Ext.trans ?_ (by with_reducible assumption) | (dsimp only; omega) | omega | exact K.Ext.refl _ | assumption | apply K.Ext.drew | refine K.Ext.alloc ?_ _ | refine K.Ext.setCell ?_ ?_ _ | (simp; done) | (simp; omega) | refine K.Ext.trans ?_ (by assumption))))) ?_; rintro e w1 ⟨rfl, hw1⟩; obtain ⟨hcw1, hfw1⟩ := hw1.facts); have c_w1_0_0 : w1.cell? ⟨w.heap.size, 0, none⟩ = some (.int .i64 (E.L.dg)) := hw1.cell_of (by go_simp); have f_w1_0_0 : w1.frozen? ⟨w.heap.size, 0, none⟩ = false := hw1.thaw_of (by go_simp) (by go_simp); have c_w1_0_1 : w1.cell? ⟨w.heap.size, 1, none⟩ = some (.int .i64 (E.L.tn)) := hw1.cell_of (by go_simp); have f_w1_0_1 : w1.frozen? ⟨w.heap.size, 1, none⟩ = false := hw1.thaw_of (by go_simp) (by go_simp); have c_w1_0_2 : w1.cell? ⟨w.heap.size, 2, none⟩ = some (.string E.L.nm) := hw1.cell_of (by go_simp); have f_w1_0_2 : w1.frozen? ⟨w.heap.size, 2, none⟩ = false := hw1.thaw_of (by go_simp) (by go_simp); have c_w1_0_3 : w1.cell? ⟨w.heap.size, 3, none⟩ = some (.slice o1 E.L.pw.length c1) := hw1.cell_of (by go_simp); have f_w1_0_3 : w1.frozen? ⟨w.heap.size, 3, none⟩ = false := hw1.thaw_of (by go_simp) (by go_simp); have c_w1_0_4 : w1.cell? ⟨w.heap.size, 4, none⟩ = some (.int .i64 (E.R.dg)) := hw1.cell_of (by go_simp); have f_w1_0_4 : w1.frozen? ⟨w.heap.size, 4, none⟩ = false := hw1.thaw_of (by go_simp) (by go_simp); have c_w1_0_5 : w1.cell? ⟨w.heap.size, 5, none⟩ = some (.int .i64 (E.R.tn)) := hw1.cell_of (by go_simp); have f_w1_0_5 : w1.frozen? ⟨w.heap.size, 5, none⟩ = false := hw1.thaw_of (by go_simp) (by go_simp); have c_w1_0_6 : w1.cell? ⟨w.heap.size, 6, none⟩ = some (.string E.R.nm) := hw1.cell_of (by go_simp); have f_w1_0_6 : w1.frozen? ⟨w.heap.size, 6, none⟩ = false := hw1.thaw_of (by go_simp) (by go_simp); have c_w1_0_7 : w1.cell? ⟨w.heap.size, 7, none⟩ = some (.slice o2 E.R.pw.length c2) := hw1.cell_of (by go_simp); have f_w1_0_7 : w1.frozen? ⟨w.heap.size, 7, none⟩ = false := hw1.thaw_of (by go_simp) (by go_simp); have c_w1_1_0 : w1.cell? ⟨w.heap.size + 1, 0, none⟩ = some (.int .i64 (E.L.dg)) := hw1.cell_of (by go_simp); have f_w1_1_0 : w1.frozen? ⟨w.heap.size + 1, 0, none⟩ = false := hw1.thaw_of (by go_simp) (by go_simp); have c_w1_1_1 : w1.cell? ⟨w.heap.size + 1, 1, none⟩ = some (.int .i64 (E.L.tn)) := hw1.cell_of (by go_simp); have f_w1_1_1 : w1.frozen? ⟨w.heap.size + 1, 1, none⟩ = false := hw1.thaw_of (by go_simp) (by go_simp); have c_w1_1_2 : w1.cell? ⟨w.heap.size + 1, 2, none⟩ = some (.string E.L.nm) := hw1.cell_of (by go_simp); have f_w1_1_2 : w1.frozen? ⟨w.heap.size + 1, 2, none⟩ = false := hw1.thaw_of (by go_simp) (by go_simp); have c_w1_1_3 : w1.cell? ⟨w.heap.size + 1, 3, none⟩ = some (.slice o3 E.L.pw.length c3) := hw1.cell_of (by go_simp); have f_w1_1_3 : w1.frozen? ⟨w.heap.size + 1, 3, none⟩ = false := hw1.thaw_of (by go_simp) (by go_simp); have c_w1_1_4 : w1.cell? ⟨w.heap.size + 1, 4, none⟩ = some (.int .i64 (E.R.dg)) := hw1.cell_of (by go_simp); have f_w1_1_4 : w1.frozen? ⟨w.heap.size + 1, 4, none⟩ = false := hw1.thaw_of (by go_simp) (by go_simp); have c_w1_1_5 : w1.cell? ⟨w.heap.size + 1, 5, none⟩ = some (.int .i64 (E.R.tn)) := hw1.cell_of (by go_simp); have f_w1_1_5 : w1.frozen? ⟨w.heap.size + 1, 5, none⟩ = false := hw1.thaw_of (by go_simp) (by go_simp); have c_w1_1_6 : w1.cell? ⟨w.heap.size + 1, 6, none⟩ = some (.string E.R.nm) := hw1.cell_of (by go_simp); have f_w1_1_6 : w1.frozen? ⟨w.heap.size + 1, 6, none⟩ = false := hw1.thaw_of (by go_simp) (by go_simp); have c_w1_1_7 : w1.cell? ⟨w.heap.size + 1, 7, none⟩ = some (.slice o4 E.R.pw.length c4) := hw1.cell_of (by go_simp); have f_w1_1_7 : w1.frozen? ⟨w.heap.size + 1, 7, none⟩ = false := hw1.thaw_of (by go_simp) (by go_simp)) | (go_at_call 32; refine K.call (by with_reducible rfl) (by with_reducible rfl) (likeFormulas_same E.R _ _ _ _ _ _ _ hm' (h2.ext (by repeat' (first | with_reducible exact K.Ext.refl _ | with_reducible assumption | with_reducible refine K.Ext.drew ?_ | with_reducible refine K.Ext.alloc ?_ _ | with_reducible refine K.Ext.setCell ?_ ?_ _ | with_reducible refine K.Ext.trans ?_ (by with_reducible assumption) | (dsimp only; omega) | omega | exact K.Ext.refl _ | assumption | apply K.Ext.drew | refine K.Ext.alloc ?_ _ | refine K.Ext.setCell ?_ ?_ _ | (simp; done) | (simp; omega) | refine K.Ext.trans ?_ (by assumption)))) (h4.ext (by repeat' (first | with_reducible exact K.Ext.refl _ | with_reducible assumption | with_reducible refine K.Ext.drew ?_ | with_reducible refine K.Ext.alloc ?_ _ | with_reducible refine K.Ext.setCell ?_ ?_ _ | with_reducible refine K.Ext.trans ?_ (by with_reducible assumption) | (dsimp only; omega) | omega | exact K.Ext.refl _ | assumption | apply K.Ext.drew | refine K.Ext.alloc ?_ _ | refine K.Ext.setCell ?_ ?_ _ | (simp; done) | (simp; omega) | refine K.Ext.trans ?_ (by assumption))))) ?_; rintro e w2 ⟨rfl, hw2⟩; obtain ⟨hcw2, hfw2⟩ := hw2.facts))
  go_ret
  exact ⟨rfl, (by repeat' (first | with_reducible exact K.Ext.refl _ | with_reducible assumption | with_reducible refine K.Ext.drew ?_ | with_reducible refine K.Ext.alloc ?_ _ | with_reducible refine K.Ext.setCell ?_ ?_ _ | with_reducible refine K.Ext.trans ?_ (by with_reducible assumption) | (dsimp only; omega) | omega | exact K.Ext.refl _ | assumption | apply K.Ext.drew | refine K.Ext.alloc ?_ _ | refine K.Ext.setCell ?_ ?_ _ | (simp; done) | (simp; omega) | refine K.Ext.trans ?_ (by assumption)))⟩
end Go.Proofs.Ythmnlbgbacbocaa
