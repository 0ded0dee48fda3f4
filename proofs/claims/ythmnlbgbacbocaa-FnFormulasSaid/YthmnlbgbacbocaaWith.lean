/-
  FORMULAS without a letter, the reference.
-/
import Derived.Test.YthmnlbgbacbocaaMake2
import Derived.Test.YthmnlbgbacbocaaBase
set_option linter.unusedVariables false
namespace Go.K
theorem ints_setAt {w : World} {lo hi b off cap k : Nat} {x : Int} {xs : List Int} (hk : k < xs.length) (h : K.ints w lo hi (.slice (some ⟨b, off, none⟩) xs.length cap) xs) :
    K.ints (w.setCell ⟨b, off + k, none⟩ (.int .i64 x)) lo hi (.slice (some ⟨b, off, none⟩) xs.length cap) (xs.set k x) := by
  obtain ⟨o, cap', hv, hc⟩ := h
  simp only [Value.slice.injEq, true_and] at hv
  obtain ⟨rfl, rfl⟩ := hv
  obtain ⟨b', off', he, h1, h2, h3⟩ := hc (by intro h0; simp [h0] at hk)
  simp only [Option.some.injEq, Addr.mk.injEq, and_true] at he
  obtain ⟨rfl, rfl⟩ := he
  exact ⟨some ⟨b, off, none⟩, cap, by simp, fun _ => ⟨b, off, rfl, h1, h2, fun i hi => row_set rfl hk h3 i (by simpa using hi)⟩⟩
end Go.K
namespace Go.Proofs.Ythmnlbgbacbocaa
open Go.RowKit
set_option maxHeartbeats 3200000 in
theorem l18Without_any (F : Z.Fm) (m : Nat) {lo hi : Nat} {p : Value} (w : World) (hf : Z.isFormula F = true) (hm : m < 26) (h : K.ints w lo hi p F.pw) :
    Calls Try.prog 131 #[.agg #[.int .i64 F.dg, .int .i64 F.tn, .string F.nm, p], .int .u8 (97 + (m : Int))] w fun e w' => (∃ p', e = .returned (.agg #[.int .i64 ((Z.without F (97 + (m : Int)))).dg, .int .i64 ((Z.without F (97 + (m : Int)))).tn, .string ((Z.without F (97 + (m : Int)))).nm, p']) ∧ K.own w' w.heap.size w'.heap.size p' (Z.without F (97 + (m : Int))).pw) ∧ K.Ext w w' := by
  have h1 := h
  obtain ⟨o, cap, rfl, hh⟩ := h1
  clear hh
  have HF := Z.hide hf
  clear hf
  have q5 : IntKind.u8.wrap (97 + (m : Int) - 97) = (m : Int) := K.u8_in hm
  have m0 : (0 : Int) ≤ (m : Int) := Int.natCast_nonneg m
  have m1 : (m : Int) < 26 := by omega
  go_enter Try.func131, Try.ntmps131
  go_wp2_with ((go_at_call 102; refine K.call (by with_reducible rfl) (by with_reducible rfl) (l18All_any F _ HF.out (h.ext (by repeat' (first | with_reducible exact K.Ext.refl _ | with_reducible assumption | with_reducible refine K.Ext.drew ?_ | with_reducible refine K.Ext.alloc ?_ _ | with_reducible refine K.Ext.setCell ?_ ?_ _ | with_reducible refine K.Ext.trans ?_ (by with_reducible assumption) | (dsimp only; omega) | omega | exact K.Ext.refl _ | assumption | apply K.Ext.drew | refine K.Ext.alloc ?_ _ | refine K.Ext.setCell ?_ ?_ _ | (simp; done) | (simp; omega) | refine K.Ext.trans ?_ (by assumption))))) ?_; rintro e w1 ⟨⟨v1, rfl, hv1⟩, hw1⟩; obtain ⟨hcw1, hfw1⟩ := hw1.facts; have hv2 := hv1; obtain ⟨o1, c1, rfl, hh1⟩ := hv2; obtain ⟨b1, off1, rfl, hlo1, hhi1, hc1, hf1⟩ := hh1 (by intro h0; have h_ := Z.allOf_length F; rw [h0] at h_; simp at h_); rw [Z.allOf_length] at *; have hcm := hc1 m hm; have hfm := hf1 m hm; have lb1 : b1 < w1.heap.size := World.block_lt_of_cell? w1 _ hcm; clear hc1 hf1 hh1; have lo2 : w.heap.size + 2 ≤ b1 := (by simp at hlo1; omega); have n1 : ¬ (w.heap.size = b1) := (by omega); have n2 : ¬ (b1 = w.heap.size) := (by omega); have n3 : ¬ (w.heap.size + 1 = b1) := (by omega); have n4 : ¬ (b1 = w.heap.size + 1) := (by omega)); have c_w1_0_0 : w1.cell? ⟨w.heap.size, 0, none⟩ = some (.int .i64 (F.dg)) := hw1.cell_of (by go_simp); have f_w1_0_0 : w1.frozen? ⟨w.heap.size, 0, none⟩ = false := hw1.thaw_of (by go_simp) (by go_simp); have c_w1_0_1 : w1.cell? ⟨w.heap.size, 1, none⟩ = some (.int .i64 (F.tn)) := hw1.cell_of (by go_simp); have f_w1_0_1 : w1.frozen? ⟨w.heap.size, 1, none⟩ = false := hw1.thaw_of (by go_simp) (by go_simp); have c_w1_0_2 : w1.cell? ⟨w.heap.size, 2, none⟩ = some (.string F.nm) := hw1.cell_of (by go_simp); have f_w1_0_2 : w1.frozen? ⟨w.heap.size, 2, none⟩ = false := hw1.thaw_of (by go_simp) (by go_simp); have c_w1_0_3 : w1.cell? ⟨w.heap.size, 3, none⟩ = some (.slice o F.pw.length cap) := hw1.cell_of (by go_simp); have f_w1_0_3 : w1.frozen? ⟨w.heap.size, 3, none⟩ = false := hw1.thaw_of (by go_simp) (by go_simp); have c_w1_1_0 : w1.cell? ⟨w.heap.size + 1, 0, none⟩ = some (.int .i64 (0)) := hw1.cell_of (by go_simp); have f_w1_1_0 : w1.frozen? ⟨w.heap.size + 1, 0, none⟩ = false := hw1.thaw_of (by go_simp) (by go_simp); have c_w1_1_1 : w1.cell? ⟨w.heap.size + 1, 1, none⟩ = some (.int .i64 (0)) := hw1.cell_of (by go_simp); have f_w1_1_1 : w1.frozen? ⟨w.heap.size + 1, 1, none⟩ = false := hw1.thaw_of (by go_simp) (by go_simp); have c_w1_1_2 : w1.cell? ⟨w.heap.size + 1, 2, none⟩ = some (.string ⟨#[]⟩) := hw1.cell_of (by go_simp); have f_w1_1_2 : w1.frozen? ⟨w.heap.size + 1, 2, none⟩ = false := hw1.thaw_of (by go_simp) (by go_simp); have c_w1_1_3 : w1.cell? ⟨w.heap.size + 1, 3, none⟩ = some (.slice none 0 0) := hw1.cell_of (by go_simp); have f_w1_1_3 : w1.frozen? ⟨w.heap.size + 1, 3, none⟩ = false := hw1.thaw_of (by go_simp) (by go_simp))
  have zl := hw1.size
  simp only [World.size_alloc] at zl
  have HI : K.ints (w1.setCell ⟨b1, off1 + m, none⟩ (.int .i64 0)) (w.heap.size + 2) w1.heap.size (.slice (some ⟨b1, off1, none⟩) 26 c1) ((Z.allOf F).set m 0) := by
    have := K.ints_setAt (w := w1) (b := b1) (off := off1) (cap := c1) (k := m) (x := 0) (xs := Z.allOf F) (by rw [Z.allOf_length]; exact hm) (lo := w.heap.size + 2) (hi := w1.heap.size) (by rw [Z.allOf_length]; exact K.own.ints (hv1.mono (by simp) (Nat.le_refl _)))
    rw [Z.allOf_length] at this
    exact this
  have HC := l18Make_any F.dg F.tn ((Z.allOf F).set m 0) _ (by simp [Z.allOf_length]) HI
  rw [Z.with_set F m hm] at HC
  go_wp2_with ((go_at_call 104; refine K.call (by with_reducible rfl) (by with_reducible rfl) (HC) ?_; rintro e w2 ⟨⟨v2, rfl, hv2⟩, hw2⟩; have hv3 := hv2; obtain ⟨o2, c2, rfl, _⟩ := hv3); have c_w2_1_0 : w2.cell? ⟨w.heap.size + 1, 0, none⟩ = some (.int .i64 (0)) := hw2.cell_of (by go_simp); have f_w2_1_0 : w2.frozen? ⟨w.heap.size + 1, 0, none⟩ = false := hw2.thaw_of (by go_simp) (by go_simp); have c_w2_1_1 : w2.cell? ⟨w.heap.size + 1, 1, none⟩ = some (.int .i64 (0)) := hw2.cell_of (by go_simp); have f_w2_1_1 : w2.frozen? ⟨w.heap.size + 1, 1, none⟩ = false := hw2.thaw_of (by go_simp) (by go_simp); have c_w2_1_2 : w2.cell? ⟨w.heap.size + 1, 2, none⟩ = some (.string ⟨#[]⟩) := hw2.cell_of (by go_simp); have f_w2_1_2 : w2.frozen? ⟨w.heap.size + 1, 2, none⟩ = false := hw2.thaw_of (by go_simp) (by go_simp); have c_w2_1_3 : w2.cell? ⟨w.heap.size + 1, 3, none⟩ = some (.slice none 0 0) := hw2.cell_of (by go_simp); have f_w2_1_3 : w2.frozen? ⟨w.heap.size + 1, 3, none⟩ = false := hw2.thaw_of (by go_simp) (by go_simp))
  have zw := hw2.size
  simp only [World.size_setCell] at zw
  refine bodyPost_ret (v := .agg #[.int .i64 ((Z.without F (97 + (m : Int)))).dg, .int .i64 ((Z.without F (97 + (m : Int)))).tn, .string ((Z.without F (97 + (m : Int)))).nm, .slice o2 (Z.without F (97 + (m : Int))).pw.length c2]) (by unfold results; rw [Try.results131]; go_simp) rfl ⟨⟨_, rfl, ?_⟩, ?_⟩
  · refine K.own.mono (lo := w1.heap.size) (hi := w2.heap.size) ?_ (by omega) (by simp)
    repeat with_reducible refine K.own.set ?_ _ (.inl (by dsimp only; omega)) _
    exact hv2.mono (by simp) (Nat.le_refl _)
  · repeat with_reducible refine K.Ext.setCell ?_ (by dsimp only; omega) _
    exact K.Ext.trans (K.Ext.setCell (K.Ext.trans (((K.Ext.refl w).alloc _).alloc _) hw1) (by dsimp only; omega) _) hw2
end Go.Proofs.Ythmnlbgbacbocaa
