/-
  FORMULAS: products, both sides.
-/
import Derived.Test.YthmnlbgbacbocaaFig3
import Derived.Test.YthmnlbgbacbocaaWithI
import Derived.Test.YthmnlbgbacbocaaWith
import Derived.Test.YthmnlbgbacbocaaFm4
set_option linter.unusedVariables false
namespace Go.Z
def sumF (F G : Fm) (i : Nat) : Int := expo (bs F.nm) F.pw (97 + (i : Int)) + expo (bs G.nm) G.pw (97 + (i : Int))
def multiplied (F G : Fm) : Fm × Int := if (MultiplyFigures (F.dg, F.tn) (G.dg, G.tn)).2 = 0 then madeOr (MultiplyFigures (F.dg, F.tn) (G.dg, G.tn)).1.1 (MultiplyFigures (F.dg, F.tn) (G.dg, G.tn)).1.2 (sumF F G) else (zeroFm, (MultiplyFigures (F.dg, F.tn) (G.dg, G.tn)).2)
def MultiplyFormulas (F G : Fm) : Fm × Int := if isFormula F && isFormula G then multiplied F G else (zeroFm, 1)
theorem expo_6 {F : Fm} (h : isFormula F = true) (c : Int) : -6 ≤ expo (bs F.nm) F.pw c ∧ expo (bs F.nm) F.pw c ≤ 6 :=
  expo_bd (fun j hj => by
    have := okAt_parts (valid_at h j (by rw [bs_length] at hj; exact hj))
    exact ⟨this.2.2.2.2.1, this.2.2.2.2.2⟩) _
end Go.Z
namespace Go.Proofs.Ythmnlbgbacbocaa
open Go.RowKit
set_option maxHeartbeats 3200000 in
theorem multiplied1_any (F G : Z.Fm) (i : Nat) (gf gg : Nat) {lo hi lo' hi' : Nat} {p q : Value} (w : World) (hi26 : i < 26) (hF : Z.isFormula F = true) (hG : Z.isFormula G = true)
    (h0 : w.cell? ⟨gf, 0, none⟩ = some (.int .i64 F.dg)) (h1 : w.cell? ⟨gf, 1, none⟩ = some (.int .i64 F.tn)) (h2 : w.cell? ⟨gf, 2, none⟩ = some (.string F.nm)) (h3 : w.cell? ⟨gf, 3, none⟩ = some p)
    (k0 : w.cell? ⟨gg, 0, none⟩ = some (.int .i64 G.dg)) (k1 : w.cell? ⟨gg, 1, none⟩ = some (.int .i64 G.tn)) (k2 : w.cell? ⟨gg, 2, none⟩ = some (.string G.nm)) (k3 : w.cell? ⟨gg, 3, none⟩ = some q) (h : K.ints w lo hi p F.pw) (h' : K.ints w lo' hi' q G.pw) :
    Calls Try.prog 164 #[.int .u8 (97 + (i : Int)), .pointer (some ⟨gf, 0, none⟩), .pointer (some ⟨gg, 0, none⟩)] w fun e w' => e = .returned (.int .i64 (Z.sumF F G i)) ∧ K.Ext w w' := by
  have g1 := h
  obtain ⟨o, cap, rfl, _⟩ := g1
  have g2 := h'
  obtain ⟨o', cap', rfl, _⟩ := g2
  obtain ⟨l1, l2⟩ : Hid (F.pw.length = F.nm.size) ∧ Hid (F.nm.size ≤ 6) := Z.isFormula_len hF
  obtain ⟨l3, l4⟩ : Hid (G.pw.length = G.nm.size) ∧ Hid (G.nm.size ≤ 6) := Z.isFormula_len hG
  obtain ⟨x, hx⟩ : ∃ x, x = Z.expo (Z.bs F.nm) F.pw (97 + (i : Int)) := ⟨_, rfl⟩
  obtain ⟨y, hy⟩ : ∃ y, y = Z.expo (Z.bs G.nm) G.pw (97 + (i : Int)) := ⟨_, rfl⟩
  obtain ⟨x1, x2⟩ := Z.expo_6 hF (97 + (i : Int))
  obtain ⟨y1, y2⟩ := Z.expo_6 hG (97 + (i : Int))
  rw [← hx] at x1 x2
  rw [← hy] at y1 y2
  have HE : Hid (Z.sumF F G i = x + y) := Z.hide (by unfold Z.sumF; rw [hx, hy])
  have q1 : IntKind.i64.wrap (x + y) = x + y := IntWalk.i64_in _ (by omega)
  have C1 : ∀ {lo hi : Nat} {p : Value} (w' : World), K.ints w' lo hi p F.pw → Calls Try.prog 106 #[.agg #[.int .i64 F.dg, .int .i64 F.tn, .string F.nm, p], .int .u8 (97 + (i : Int))] w' fun e w'' => e = .returned (.int .i64 x) ∧ K.Ext w' w'' := fun w' hh => by rw [hx]; exact exponentOf_any F (97 + (i : Int)) _ _ _ w' l1.out (Nat.le_trans l2.out (by decide)) (by omega) (by omega) hh
  have C2 : ∀ {lo hi : Nat} {p : Value} (w' : World), K.ints w' lo hi p G.pw → Calls Try.prog 106 #[.agg #[.int .i64 G.dg, .int .i64 G.tn, .string G.nm, p], .int .u8 (97 + (i : Int))] w' fun e w'' => e = .returned (.int .i64 y) ∧ K.Ext w' w'' := fun w' hh => by rw [hy]; exact exponentOf_any G (97 + (i : Int)) _ _ _ w' l3.out (Nat.le_trans l4.out (by decide)) (by omega) (by omega) hh
  clear hx hy hF hG
  go_enter Try.func164, Try.ntmps164
  go_wp2_with fail
  refine K.wp_region_x 7 [1, 0, 2, 1, 0, 2, 0] [K.SP.any, K.SP.any, K.SP.is (.int .i64 x), K.SP.any, K.SP.any, K.SP.is (.int .i64 y)] (by kernel_rfl) (by kernel_rfl) ?_
  simp only [List.take_succ_cons, List.take_zero, List.drop_succ_cons, List.drop_zero]
  apply K.x_held
  · rfl
  · rfl
  · intro w' hx; have hc := hx.all.1.1; have hf := hx.all.1.2; have hc' := hx.all.2.1; have hf' := hx.all.2.2; go_simp; first | done | rfl | exact ⟨rfl, rfl⟩
  simp only [Act.put, List.setIfInBounds_toArray, List.set]
  apply K.x_pure
  · rfl
  · rfl
  · intro w'; go_simp; first | done | exact K.vint (IntWalk.i64_in _ (by omega)) | rfl | exact ⟨rfl, rfl⟩
  simp only [Act.put, List.setIfInBounds_toArray, List.set]
  apply K.x_call_is
  · rfl
  · rfl
  · rfl
  · intro w'; go_simp; first | done | rfl | exact ⟨rfl, rfl⟩
  · intro w' hx hp; have hc := hx.all.1.1; have hf := hx.all.1.2; have hc' := hx.all.2.1; have hf' := hx.all.2.2; exact C1 _ (K.ints.ext (K.ints.drew h) hx)
  intro w_2_ hx_2_
  simp only [Act.put, List.setIfInBounds_toArray, List.set]
  apply K.x_held
  · rfl
  · rfl
  · intro w' hx; have hc := hx.all.1.1; have hf := hx.all.1.2; have hc' := hx.all.2.1; have hf' := hx.all.2.2; go_simp; first | done | rfl | exact ⟨rfl, rfl⟩
  simp only [Act.put, List.setIfInBounds_toArray, List.set]
  apply K.x_pure
  · rfl
  · rfl
  · intro w'; go_simp; first | done | exact K.vint (IntWalk.i64_in _ (by omega)) | rfl | exact ⟨rfl, rfl⟩
  simp only [Act.put, List.setIfInBounds_toArray, List.set]
  apply K.x_call_is
  · rfl
  · rfl
  · rfl
  · intro w'; go_simp; first | done | rfl | exact ⟨rfl, rfl⟩
  · intro w' hx hp; have hc := hx.all.1.1; have hf := hx.all.1.2; have hc' := hx.all.2.1; have hf' := hx.all.2.2; exact C2 _ (K.ints.ext (K.ints.drew h') hx)
  intro w_5_ hx_5_
  simp only [Act.put, List.setIfInBounds_toArray, List.set]
  apply K.x_pure
  · rfl
  · rfl
  · intro w'; go_simp; first | done | exact K.vint (IntWalk.i64_in _ (by omega)) | rfl | exact ⟨rfl, rfl⟩
  simp only [Act.put, List.setIfInBounds_toArray, List.set]
  apply K.x_done
  intro w2 h_x
  have hx2 := hx_2_.trans (hx_5_.trans h_x)
  clear h_x hx_2_ hx_5_
  obtain ⟨⟨hcw2, hfw2⟩, hc'w2, hf'w2⟩ := hx2.all
  go_wp2_with fail
  refine NoPanic.normal ?_
  go_wp2
  go_ret
  exact ⟨K.ri (by rw [HE.out]), (by repeat' (first | with_reducible exact K.Ext.refl _ | with_reducible assumption | with_reducible refine K.Ext.drew ?_ | with_reducible refine K.Ext.alloc ?_ _ | with_reducible refine K.Ext.setCell ?_ ?_ _ | with_reducible refine K.Ext.trans ?_ (by with_reducible assumption) | (dsimp only; omega) | omega | exact K.Ext.refl _ | assumption | apply K.Ext.drew | refine K.Ext.alloc ?_ _ | refine K.Ext.setCell ?_ ?_ _ | (simp; done) | (simp; omega) | refine K.Ext.trans ?_ (by assumption)))⟩
set_option maxHeartbeats 3200000 in
theorem multiplied_any (F G : Z.Fm) {lo hi lo' hi' : Nat} {p q : Value} (w : World) (hF : Z.isFormula F = true) (hG : Z.isFormula G = true) (h : K.ints w lo hi p F.pw) (h' : K.ints w lo' hi' q G.pw) :
    Calls Try.prog 100 #[.agg #[.int .i64 F.dg, .int .i64 F.tn, .string F.nm, p], .agg #[.int .i64 G.dg, .int .i64 G.tn, .string G.nm, q]] w fun e w' => (∃ p', e = .returned (.tuple #[.agg #[.int .i64 ((Z.multiplied F G).1).dg, .int .i64 ((Z.multiplied F G).1).tn, .string ((Z.multiplied F G).1).nm, p'], .int .i64 (Z.multiplied F G).2]) ∧ K.own w' w.heap.size w'.heap.size p' (Z.multiplied F G).1.pw) ∧ K.Ext w w' := by
  have g1 := h
  obtain ⟨o, cap, rfl, _⟩ := g1
  have g2 := h'
  obtain ⟨o', cap', rfl, _⟩ := g2
  have hmf : ∀ (fn : Fn) (first cap : Array Value) (w : World), (Instr.makeFunc fn first cap).run Try.prog w = .ok (.func fn first cap) w := fun _ _ _ _ => rfl
  have hg : ∀ (args : Array Value) (w' : World), (callFunc 164 args).run Try.prog w' = .ok (.enter 164 args) w' := by
    intro args w'; go_simp
  obtain ⟨r, hr⟩ : ∃ r, r = Z.MultiplyFigures (F.dg, F.tn) (G.dg, G.tn) := ⟨_, rfl⟩
  have HM : ∀ w' : World, Calls Try.prog 162 #[.agg #[.int .i64 F.dg, .int .i64 F.tn], .agg #[.int .i64 G.dg, .int .i64 G.tn]] w' fun e w'' => e = .returned (.tuple #[.agg #[.int .i64 r.1.1, .int .i64 r.1.2], .int .i64 r.2]) ∧ K.Ext w' w'' := fun w' => by rw [hr]; exact impl_MultiplyFigures (F.dg, F.tn) (G.dg, G.tn) w'
  have HC : ∀ W : World, (∀ w', K.Ext W w' → (w'.cell? ⟨w.heap.size, 0, none⟩ = some (.int .i64 F.dg) ∧ w'.cell? ⟨w.heap.size, 1, none⟩ = some (.int .i64 F.tn) ∧ w'.cell? ⟨w.heap.size, 2, none⟩ = some (.string F.nm) ∧ w'.cell? ⟨w.heap.size, 3, none⟩ = some (.slice o F.pw.length cap)) ∧ (w'.cell? ⟨w.heap.size + 1, 0, none⟩ = some (.int .i64 G.dg) ∧ w'.cell? ⟨w.heap.size + 1, 1, none⟩ = some (.int .i64 G.tn) ∧ w'.cell? ⟨w.heap.size + 1, 2, none⟩ = some (.string G.nm) ∧ w'.cell? ⟨w.heap.size + 1, 3, none⟩ = some (.slice o' G.pw.length cap'))) → K.ints W lo hi (.slice o F.pw.length cap) F.pw → K.ints W lo' hi' (.slice o' G.pw.length cap') G.pw →
      Calls Try.prog 163 #[.agg #[.int .i64 r.1.1, .int .i64 r.1.2], .func (.func 164) #[] #[.pointer (some ⟨w.heap.size, 0, none⟩), .pointer (some ⟨w.heap.size + 1, 0, none⟩)]] W fun e w' => (∃ p', e = .returned (.tuple #[.agg #[.int .i64 ((Z.madeOr r.1.1 r.1.2 (Z.sumF F G)).1).dg, .int .i64 ((Z.madeOr r.1.1 r.1.2 (Z.sumF F G)).1).tn, .string ((Z.madeOr r.1.1 r.1.2 (Z.sumF F G)).1).nm, p'], .int .i64 (Z.madeOr r.1.1 r.1.2 (Z.sumF F G)).2]) ∧ K.own w' W.heap.size w'.heap.size p' (Z.madeOr r.1.1 r.1.2 (Z.sumF F G)).1.pw) ∧ K.Ext W w' := by
    intro W hW hI hJ
    exact madeOf_any r.1.1 r.1.2 (Z.sumF F G) 164 (.pointer (some ⟨w.heap.size, 0, none⟩)) (.pointer (some ⟨w.heap.size + 1, 0, none⟩)) W hg (fun i w' hi hx => by
      obtain ⟨⟨x0, x1, x2, x3⟩, y0, y1, y2, y3⟩ := hW w' hx
      exact multiplied1_any F G i _ _ w' hi hF hG x0 x1 x2 x3 y0 y1 y2 y3 (hI.ext hx) (hJ.ext hx))
  have HCh := Z.hide HC
  clear HC hF hG
  obtain ⟨M, hM⟩ : ∃ M, M = Z.madeOr r.1.1 r.1.2 (Z.sumF F G) := ⟨_, rfl⟩
  rw [← hM] at HCh
  by_cases hz : r.2 = 0
  · have HE : Hid (Z.multiplied F G = M) := Z.hide (by unfold Z.multiplied; rw [← hr, if_pos hz, hM])
    clear hr hM
    go_enter Try.func100, Try.ntmps100
    go_wp2_with (first | ((go_at_call 162; refine K.call (by with_reducible rfl) (by with_reducible rfl) (HM _) ?_; rintro e w1 ⟨rfl, hw1⟩; obtain ⟨hcw1, hfw1⟩ := hw1.facts); have c_w1_0_0 : w1.cell? ⟨w.heap.size, 0, none⟩ = some (.int .i64 (F.dg)) := hw1.cell_of (by go_simp); have f_w1_0_0 : w1.frozen? ⟨w.heap.size, 0, none⟩ = false := hw1.thaw_of (by go_simp) (by go_simp); have c_w1_0_1 : w1.cell? ⟨w.heap.size, 1, none⟩ = some (.int .i64 (F.tn)) := hw1.cell_of (by go_simp); have f_w1_0_1 : w1.frozen? ⟨w.heap.size, 1, none⟩ = false := hw1.thaw_of (by go_simp) (by go_simp); have c_w1_0_2 : w1.cell? ⟨w.heap.size, 2, none⟩ = some (.string F.nm) := hw1.cell_of (by go_simp); have f_w1_0_2 : w1.frozen? ⟨w.heap.size, 2, none⟩ = false := hw1.thaw_of (by go_simp) (by go_simp); have c_w1_0_3 : w1.cell? ⟨w.heap.size, 3, none⟩ = some (.slice o F.pw.length cap) := hw1.cell_of (by go_simp); have f_w1_0_3 : w1.frozen? ⟨w.heap.size, 3, none⟩ = false := hw1.thaw_of (by go_simp) (by go_simp); have c_w1_1_0 : w1.cell? ⟨w.heap.size + 1, 0, none⟩ = some (.int .i64 (G.dg)) := hw1.cell_of (by go_simp); have f_w1_1_0 : w1.frozen? ⟨w.heap.size + 1, 0, none⟩ = false := hw1.thaw_of (by go_simp) (by go_simp); have c_w1_1_1 : w1.cell? ⟨w.heap.size + 1, 1, none⟩ = some (.int .i64 (G.tn)) := hw1.cell_of (by go_simp); have f_w1_1_1 : w1.frozen? ⟨w.heap.size + 1, 1, none⟩ = false := hw1.thaw_of (by go_simp) (by go_simp); have c_w1_1_2 : w1.cell? ⟨w.heap.size + 1, 2, none⟩ = some (.string G.nm) := hw1.cell_of (by go_simp); have f_w1_1_2 : w1.frozen? ⟨w.heap.size + 1, 2, none⟩ = false := hw1.thaw_of (by go_simp) (by go_simp); have c_w1_1_3 : w1.cell? ⟨w.heap.size + 1, 3, none⟩ = some (.slice o' G.pw.length cap') := hw1.cell_of (by go_simp); have f_w1_1_3 : w1.frozen? ⟨w.heap.size + 1, 3, none⟩ = false := hw1.thaw_of (by go_simp) (by go_simp); have c_w1_2_0 : w1.cell? ⟨w.heap.size + 1 + 1, 0, none⟩ = some (.int .i64 (0)) := hw1.cell_of (by go_simp); have f_w1_2_0 : w1.frozen? ⟨w.heap.size + 1 + 1, 0, none⟩ = false := hw1.thaw_of (by go_simp) (by go_simp); have c_w1_2_1 : w1.cell? ⟨w.heap.size + 1 + 1, 1, none⟩ = some (.int .i64 (0)) := hw1.cell_of (by go_simp); have f_w1_2_1 : w1.frozen? ⟨w.heap.size + 1 + 1, 1, none⟩ = false := hw1.thaw_of (by go_simp) (by go_simp); have c_w1_2_2 : w1.cell? ⟨w.heap.size + 1 + 1, 2, none⟩ = some (.string ⟨#[]⟩) := hw1.cell_of (by go_simp); have f_w1_2_2 : w1.frozen? ⟨w.heap.size + 1 + 1, 2, none⟩ = false := hw1.thaw_of (by go_simp) (by go_simp); have c_w1_2_3 : w1.cell? ⟨w.heap.size + 1 + 1, 3, none⟩ = some (.slice none 0 0) := hw1.cell_of (by go_simp); have f_w1_2_3 : w1.frozen? ⟨w.heap.size + 1 + 1, 3, none⟩ = false := hw1.thaw_of (by go_simp) (by go_simp); have z1 : w.heap.size + 3 ≤ w1.heap.size := (by have h_ := hw1.size; simp at h_; omega); have z2 : ¬ (w.heap.size = w1.heap.size) := (by omega); have z3 : ¬ (w.heap.size + 1 = w1.heap.size) := (by omega); have z4 : ¬ (w.heap.size + 1 + 1 = w1.heap.size) := (by omega); have z5 : w.heap.size < w1.heap.size := (by omega); have z6 : w.heap.size + 1 < w1.heap.size := (by omega); have z7 : w.heap.size + 1 + 1 < w1.heap.size := (by omega)) | ((go_at_call 163; refine K.call (by with_reducible rfl) (by with_reducible rfl) (HCh.out _ (fun w' hx => ⟨⟨hx.cell_of (by go_simp), hx.cell_of (by go_simp), hx.cell_of (by go_simp), hx.cell_of (by go_simp)⟩, hx.cell_of (by go_simp), hx.cell_of (by go_simp), hx.cell_of (by go_simp), hx.cell_of (by go_simp)⟩) (h.ext (by repeat' (first | with_reducible exact K.Ext.refl _ | with_reducible assumption | with_reducible refine K.Ext.drew ?_ | with_reducible refine K.Ext.alloc ?_ _ | with_reducible refine K.Ext.setCell ?_ ?_ _ | with_reducible refine K.Ext.trans ?_ (by with_reducible assumption) | (dsimp only; omega) | omega | exact K.Ext.refl _ | assumption | apply K.Ext.drew | refine K.Ext.alloc ?_ _ | refine K.Ext.setCell ?_ ?_ _ | (simp; done) | (simp; omega) | refine K.Ext.trans ?_ (by assumption)))) (h'.ext (by repeat' (first | with_reducible exact K.Ext.refl _ | with_reducible assumption | with_reducible refine K.Ext.drew ?_ | with_reducible refine K.Ext.alloc ?_ _ | with_reducible refine K.Ext.setCell ?_ ?_ _ | with_reducible refine K.Ext.trans ?_ (by with_reducible assumption) | (dsimp only; omega) | omega | exact K.Ext.refl _ | assumption | apply K.Ext.drew | refine K.Ext.alloc ?_ _ | refine K.Ext.setCell ?_ ?_ _ | (simp; done) | (simp; omega) | refine K.Ext.trans ?_ (by assumption))))) ?_; rintro e w2 ⟨⟨p2, rfl, hp2⟩, hw2⟩; obtain ⟨hcw2, hfw2⟩ := hw2.facts; have hp3 := hp2; obtain ⟨o2, c2, rfl, _⟩ := hp3); have c_w2_2_0 : w2.cell? ⟨w.heap.size + 1 + 1, 0, none⟩ = some (.int .i64 (0)) := hw2.cell_of (by go_simp); have f_w2_2_0 : w2.frozen? ⟨w.heap.size + 1 + 1, 0, none⟩ = false := hw2.thaw_of (by go_simp) (by go_simp); have c_w2_2_1 : w2.cell? ⟨w.heap.size + 1 + 1, 1, none⟩ = some (.int .i64 (0)) := hw2.cell_of (by go_simp); have f_w2_2_1 : w2.frozen? ⟨w.heap.size + 1 + 1, 1, none⟩ = false := hw2.thaw_of (by go_simp) (by go_simp); have c_w2_2_2 : w2.cell? ⟨w.heap.size + 1 + 1, 2, none⟩ = some (.string ⟨#[]⟩) := hw2.cell_of (by go_simp); have f_w2_2_2 : w2.frozen? ⟨w.heap.size + 1 + 1, 2, none⟩ = false := hw2.thaw_of (by go_simp) (by go_simp); have c_w2_2_3 : w2.cell? ⟨w.heap.size + 1 + 1, 3, none⟩ = some (.slice none 0 0) := hw2.cell_of (by go_simp); have f_w2_2_3 : w2.frozen? ⟨w.heap.size + 1 + 1, 3, none⟩ = false := hw2.thaw_of (by go_simp) (by go_simp)))
    rw [HE.out]
    have zz := hw2.size
    simp at zz
    refine bodyPost_ret (v := .tuple #[.agg #[.int .i64 M.1.dg, .int .i64 M.1.tn, .string M.1.nm, .slice o2 M.1.pw.length c2], .int .i64 M.2]) (by unfold results; rw [Try.results100]; go_simp) rfl ⟨⟨_, rfl, ?_⟩, ?_⟩
    · refine K.own.mono (lo := w1.heap.size + 1) (hi := w2.heap.size) ?_ (by omega) (by simp)
      repeat with_reducible refine K.own.set ?_ _ (.inl (by dsimp only; omega)) _
      exact hp2.mono (by simp) (Nat.le_refl _)
    · repeat with_reducible refine K.Ext.setCell ?_ (by dsimp only; omega) _
      exact (by repeat' (first | with_reducible exact K.Ext.refl _ | with_reducible assumption | with_reducible refine K.Ext.drew ?_ | with_reducible refine K.Ext.alloc ?_ _ | with_reducible refine K.Ext.setCell ?_ ?_ _ | with_reducible refine K.Ext.trans ?_ (by with_reducible assumption) | (dsimp only; omega) | omega | exact K.Ext.refl _ | assumption | apply K.Ext.drew | refine K.Ext.alloc ?_ _ | refine K.Ext.setCell ?_ ?_ _ | (simp; done) | (simp; omega) | refine K.Ext.trans ?_ (by assumption)))
  · have HE : Hid (Z.multiplied F G = (Z.zeroFm, r.2)) := Z.hide (by unfold Z.multiplied; rw [← hr, if_neg hz])
    clear hr hM
    go_enter Try.func100, Try.ntmps100
    go_wp2_with ((go_at_call 162; refine K.call (by with_reducible rfl) (by with_reducible rfl) (HM _) ?_; rintro e w1 ⟨rfl, hw1⟩; obtain ⟨hcw1, hfw1⟩ := hw1.facts); have c_w1_0_0 : w1.cell? ⟨w.heap.size, 0, none⟩ = some (.int .i64 (F.dg)) := hw1.cell_of (by go_simp); have f_w1_0_0 : w1.frozen? ⟨w.heap.size, 0, none⟩ = false := hw1.thaw_of (by go_simp) (by go_simp); have c_w1_0_1 : w1.cell? ⟨w.heap.size, 1, none⟩ = some (.int .i64 (F.tn)) := hw1.cell_of (by go_simp); have f_w1_0_1 : w1.frozen? ⟨w.heap.size, 1, none⟩ = false := hw1.thaw_of (by go_simp) (by go_simp); have c_w1_0_2 : w1.cell? ⟨w.heap.size, 2, none⟩ = some (.string F.nm) := hw1.cell_of (by go_simp); have f_w1_0_2 : w1.frozen? ⟨w.heap.size, 2, none⟩ = false := hw1.thaw_of (by go_simp) (by go_simp); have c_w1_0_3 : w1.cell? ⟨w.heap.size, 3, none⟩ = some (.slice o F.pw.length cap) := hw1.cell_of (by go_simp); have f_w1_0_3 : w1.frozen? ⟨w.heap.size, 3, none⟩ = false := hw1.thaw_of (by go_simp) (by go_simp); have c_w1_1_0 : w1.cell? ⟨w.heap.size + 1, 0, none⟩ = some (.int .i64 (G.dg)) := hw1.cell_of (by go_simp); have f_w1_1_0 : w1.frozen? ⟨w.heap.size + 1, 0, none⟩ = false := hw1.thaw_of (by go_simp) (by go_simp); have c_w1_1_1 : w1.cell? ⟨w.heap.size + 1, 1, none⟩ = some (.int .i64 (G.tn)) := hw1.cell_of (by go_simp); have f_w1_1_1 : w1.frozen? ⟨w.heap.size + 1, 1, none⟩ = false := hw1.thaw_of (by go_simp) (by go_simp); have c_w1_1_2 : w1.cell? ⟨w.heap.size + 1, 2, none⟩ = some (.string G.nm) := hw1.cell_of (by go_simp); have f_w1_1_2 : w1.frozen? ⟨w.heap.size + 1, 2, none⟩ = false := hw1.thaw_of (by go_simp) (by go_simp); have c_w1_1_3 : w1.cell? ⟨w.heap.size + 1, 3, none⟩ = some (.slice o' G.pw.length cap') := hw1.cell_of (by go_simp); have f_w1_1_3 : w1.frozen? ⟨w.heap.size + 1, 3, none⟩ = false := hw1.thaw_of (by go_simp) (by go_simp); have c_w1_2_0 : w1.cell? ⟨w.heap.size + 1 + 1, 0, none⟩ = some (.int .i64 (0)) := hw1.cell_of (by go_simp); have f_w1_2_0 : w1.frozen? ⟨w.heap.size + 1 + 1, 0, none⟩ = false := hw1.thaw_of (by go_simp) (by go_simp); have c_w1_2_1 : w1.cell? ⟨w.heap.size + 1 + 1, 1, none⟩ = some (.int .i64 (0)) := hw1.cell_of (by go_simp); have f_w1_2_1 : w1.frozen? ⟨w.heap.size + 1 + 1, 1, none⟩ = false := hw1.thaw_of (by go_simp) (by go_simp); have c_w1_2_2 : w1.cell? ⟨w.heap.size + 1 + 1, 2, none⟩ = some (.string ⟨#[]⟩) := hw1.cell_of (by go_simp); have f_w1_2_2 : w1.frozen? ⟨w.heap.size + 1 + 1, 2, none⟩ = false := hw1.thaw_of (by go_simp) (by go_simp); have c_w1_2_3 : w1.cell? ⟨w.heap.size + 1 + 1, 3, none⟩ = some (.slice none 0 0) := hw1.cell_of (by go_simp); have f_w1_2_3 : w1.frozen? ⟨w.heap.size + 1 + 1, 3, none⟩ = false := hw1.thaw_of (by go_simp) (by go_simp); have z1 : w.heap.size + 3 ≤ w1.heap.size := (by have h_ := hw1.size; simp at h_; omega); have z4 : ¬ (w.heap.size + 1 + 1 = w1.heap.size) := (by omega); have z8 : ¬ (w1.heap.size = w.heap.size + 1 + 1) := (by omega); have z7 : w.heap.size + 1 + 1 < w1.heap.size := (by omega))
    rw [HE.out]
    refine bodyPost_ret (v := .tuple #[.agg #[.int .i64 0, .int .i64 0, .string ⟨#[]⟩, .slice none 0 0], .int .i64 r.2]) (by unfold results; rw [Try.results100]; go_simp) rfl ⟨⟨_, rfl, K.own_nil _ _ _⟩, ?_⟩
    repeat' (first | with_reducible refine K.Ext.setCell ?_ ?_ _ | with_reducible refine K.Ext.alloc ?_ _ | (dsimp only; omega))
    exact (by repeat' (first | with_reducible exact K.Ext.refl _ | with_reducible assumption | with_reducible refine K.Ext.drew ?_ | with_reducible refine K.Ext.alloc ?_ _ | with_reducible refine K.Ext.setCell ?_ ?_ _ | with_reducible refine K.Ext.trans ?_ (by with_reducible assumption) | (dsimp only; omega) | omega | exact K.Ext.refl _ | assumption | apply K.Ext.drew | refine K.Ext.alloc ?_ _ | refine K.Ext.setCell ?_ ?_ _ | (simp; done) | (simp; omega) | refine K.Ext.trans ?_ (by assumption)))
end Go.Proofs.Ythmnlbgbacbocaa
