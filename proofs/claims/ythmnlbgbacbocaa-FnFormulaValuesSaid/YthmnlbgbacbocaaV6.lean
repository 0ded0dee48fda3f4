/-
  For every input the law FnFormulaValues returns true, and its arguments read as before. No condition.
-/
import Derived.Test.YthmnlbgbacbocaaV5
import Derived.Test.YthmnlbgbacbocaaRows
set_option linter.unusedVariables false
section
namespace Go.Z
def ReplaceName (F : Fm) (c : Int) (G : Fm) : Fm × Int :=
  if isFormula F && isFormula G then (if expo (bs F.nm) F.pw c = 0 then (zeroFm, 4) else if (PowerFormula G (expo (bs F.nm) F.pw c)).2 = 0 then multiplied (without F c) (PowerFormula G (expo (bs F.nm) F.pw c)).1 else (zeroFm, (PowerFormula G (expo (bs F.nm) F.pw c)).2)) else (zeroFm, 1)
theorem PowerFormula_ok {G : Fm} {n : Int} (h : isFormula G = true) (h0 : (PowerFormula G n).2 = 0) : isFormula (PowerFormula G n).1 = true := by
  unfold PowerFormula at h0 ⊢
  rw [h] at h0 ⊢
  simp only [if_true] at h0 ⊢
  split at h0
  · rename_i h3; rw [if_pos h3]; exact raised_ok h0
  · simp at h0
theorem ReplaceName_le (F : Fm) (c : Int) (G : Fm) : (ReplaceName F c G).1.pw.length ≤ 1048576 ∧ (ReplaceName F c G).1.nm.size ≤ 1048576 := by
  unfold ReplaceName; split
  · split
    · exact zeroFm_le
    · split
      · exact multiplied_le _ _
      · exact zeroFm_le
  · exact zeroFm_le
end Go.Z
namespace Go.Proofs.Ythmnlbgbacbocaa
open Go.RowKit
set_option maxHeartbeats 6400000 in
theorem spec_ReplaceName (F : Z.Fm) (c : Int) (G : Z.Fm) {loF hiF : Nat} {pF : Value} {loG hiG : Nat} {pG : Value} (w : World)  (hmF : F.pw.length ≤ 1048576) (hnF : F.nm.size ≤ 1048576) (hF : K.ints w loF hiF pF F.pw) (hbc : 0 ≤ c ∧ c ≤ 255) (hmG : G.pw.length ≤ 1048576) (hnG : G.nm.size ≤ 1048576) (hG : K.ints w loG hiG pG G.pw) :
    Calls Try.prog 55 #[.agg #[.int .i64 F.dg, .int .i64 F.tn, .string F.nm, pF], .int .u8 c, .agg #[.int .i64 G.dg, .int .i64 G.tn, .string G.nm, pG]] w fun e w' => (∃ p', e = .returned (.tuple #[.agg #[.int .i64 ((Z.ReplaceName F c G).1).dg, .int .i64 ((Z.ReplaceName F c G).1).tn, .string ((Z.ReplaceName F c G).1).nm, p'], .int .i64 ((Z.ReplaceName F c G).2)]) ∧ K.ints w' w.heap.size w'.heap.size p' (Z.ReplaceName F c G).1.pw) ∧ K.Ext w w' := by
  have hF_ := hF
  have shF := hF
  obtain ⟨oF, cF, rfl, _⟩ := shF
  have hG_ := hG
  have shG := hG
  obtain ⟨oG, cG, rfl, _⟩ := shG
  cases vF : Z.isFormula F
  · have HE : Hid (Z.ReplaceName F c G = (Z.zeroFm, 1)) := Z.hide (by unfold Z.ReplaceName; rw [vF]; rfl)
    have X0 : K.Ext w w := K.Ext.refl w
    go_enter Try.func55, Try.ntmps55
    go_wp2_with (go_at_call 91; refine K.call (by with_reducible rfl) (by with_reducible rfl) (spec_IsFormula F _ hmF hnF (K.ints.alloc (K.ints.alloc (K.ints.alloc hF_ _) _) _)) ?_; rintro e w1 ⟨rfl, x1⟩; have s1 : w.heap.size + 3 ≤ w1.heap.size := (by have h_ := x1.size; (try simp at h_); omega); have X1 := K.Ext.trans (K.Ext.alloc (K.Ext.alloc (K.Ext.alloc X0 _) _) _) x1; obtain ⟨c1_0_0, c1_0_1, c1_0_2, c1_0_3⟩ := K.c4 x1 (w.heap.size) (.int .i64 F.dg) (.int .i64 F.tn) (.string F.nm) (.slice oF F.pw.length cF) (by go_simp); have z1_0 : w.heap.size < w1.heap.size := World.block_lt_of_cell? w1 _ c1_0_0; have d1_0 : ¬ (w.heap.size = w1.heap.size) := (by omega); have e1_0 : ¬ (w1.heap.size = w.heap.size) := (by omega); obtain ⟨c1_1_0, c1_1_1, c1_1_2, c1_1_3⟩ := K.c4 x1 (w.heap.size + 1) (.int .i64 G.dg) (.int .i64 G.tn) (.string G.nm) (.slice oG G.pw.length cG) (by go_simp); have z1_1 : w.heap.size + 1 < w1.heap.size := World.block_lt_of_cell? w1 _ c1_1_0; have d1_1 : ¬ (w.heap.size + 1 = w1.heap.size) := (by omega); have e1_1 : ¬ (w1.heap.size = w.heap.size + 1) := (by omega); have n1_0 : ¬ (w.heap.size + 1 = w.heap.size) := (by omega); have n0_1 : ¬ (w.heap.size = w.heap.size + 1) := (by omega); obtain ⟨c1_2_0, c1_2_1, c1_2_2, c1_2_3⟩ := K.c4 x1 (w.heap.size + 1 + 1) (.int .i64 0) (.int .i64 0) (.string ⟨#[]⟩) (.slice none 0 0) (by go_simp); obtain ⟨f1_2_0, f1_2_1, f1_2_2, f1_2_3⟩ := K.f4 x1 (w.heap.size + 1 + 1) (by go_simp); have z1_2 : w.heap.size + 1 + 1 < w1.heap.size := World.block_lt_of_cell? w1 _ c1_2_0; have d1_2 : ¬ (w.heap.size + 1 + 1 = w1.heap.size) := (by omega); have e1_2 : ¬ (w1.heap.size = w.heap.size + 1 + 1) := (by omega); have n2_0 : ¬ (w.heap.size + 1 + 1 = w.heap.size) := (by omega); have n0_2 : ¬ (w.heap.size = w.heap.size + 1 + 1) := (by omega); have n2_1 : ¬ (w.heap.size + 1 + 1 = w.heap.size + 1) := (by omega); have n1_2 : ¬ (w.heap.size + 1 = w.heap.size + 1 + 1) := (by omega); have F1_1 := K.ints.ext (K.ints.alloc (K.ints.alloc (K.ints.alloc hF_ _) _) _) x1; have F2_1 := K.ints.ext (K.ints.alloc (K.ints.alloc (K.ints.alloc hG_ _) _) _) x1; clear hF_ hG_)
    rw [HE.out]
    refine bodyPost_ret (v := .tuple #[.agg #[.int .i64 0, .int .i64 0, .string ⟨#[]⟩, .slice none 0 0], .int .i64 1]) (by unfold results; rw [Try.results55]; go_simp) rfl ⟨⟨_, rfl, ?_⟩, ?_⟩
    · exact K.ints_nil _ _ _
    · repeat with_reducible refine K.Ext.setCell ?_ (by dsimp only; omega) _
      exact (by repeat' (first | with_reducible exact X1 | with_reducible refine K.Ext.setCell ?_ ?_ _ | with_reducible refine K.Ext.alloc ?_ _ | with_reducible refine K.Ext.drew ?_ | (dsimp only; omega) | omega | (simp; omega)))
  · cases vG : Z.isFormula G
    · have HE : Hid (Z.ReplaceName F c G = (Z.zeroFm, 1)) := Z.hide (by unfold Z.ReplaceName; rw [vF, vG]; rfl)
      have X0 : K.Ext w w := K.Ext.refl w
      go_enter Try.func55, Try.ntmps55
      go_wp2_with (go_at_call 91; refine K.call (by with_reducible rfl) (by with_reducible rfl) (spec_IsFormula F _ hmF hnF (show K.ints _ (loF) (hiF) (.slice oF F.pw.length cF) (F.pw) from by repeat' (first | with_reducible exact hF_ | with_reducible refine K.ints.set ?_ _ ?_ _ | with_reducible refine K.ints.alloc ?_ _ | with_reducible refine K.ints.drew ?_ | (dsimp only; omega) | omega | (simp; done) | (simp; omega)))) ?_; rintro e w1 ⟨rfl, x1⟩; have s1 : w.heap.size + 3 ≤ w1.heap.size := (by have h_ := x1.size; (try simp at h_); omega); have X1 : K.Ext w w1 := K.Ext.trans (by repeat' (first | with_reducible exact X0 | with_reducible refine K.Ext.setCell ?_ ?_ _ | with_reducible refine K.Ext.alloc ?_ _ | with_reducible refine K.Ext.drew ?_ | (dsimp only; omega) | omega | (simp; omega))) x1; obtain ⟨c1_0_0, c1_0_1, c1_0_2, c1_0_3⟩ := K.c4 x1 (w.heap.size) (.int .i64 F.dg) (.int .i64 F.tn) (.string F.nm) (.slice oF F.pw.length cF) (by go_simp); have z1_0 : w.heap.size < w1.heap.size := World.block_lt_of_cell? w1 _ c1_0_0; have d1_0 : ¬ (w.heap.size = w1.heap.size) := (by omega); have e1_0 : ¬ (w1.heap.size = w.heap.size) := (by omega); obtain ⟨c1_1_0, c1_1_1, c1_1_2, c1_1_3⟩ := K.c4 x1 (w.heap.size + 1) (.int .i64 G.dg) (.int .i64 G.tn) (.string G.nm) (.slice oG G.pw.length cG) (by go_simp); have z1_1 : w.heap.size + 1 < w1.heap.size := World.block_lt_of_cell? w1 _ c1_1_0; have d1_1 : ¬ (w.heap.size + 1 = w1.heap.size) := (by omega); have e1_1 : ¬ (w1.heap.size = w.heap.size + 1) := (by omega); have n1_0 : ¬ (w.heap.size + 1 = w.heap.size) := (by omega); have n0_1 : ¬ (w.heap.size = w.heap.size + 1) := (by omega); obtain ⟨c1_2_0, c1_2_1, c1_2_2, c1_2_3⟩ := K.c4 x1 (w.heap.size + 1 + 1) (.int .i64 0) (.int .i64 0) (.string ⟨#[]⟩) (.slice none 0 0) (by go_simp); obtain ⟨f1_2_0, f1_2_1, f1_2_2, f1_2_3⟩ := K.f4 x1 (w.heap.size + 1 + 1) (by go_simp); have z1_2 : w.heap.size + 1 + 1 < w1.heap.size := World.block_lt_of_cell? w1 _ c1_2_0; have d1_2 : ¬ (w.heap.size + 1 + 1 = w1.heap.size) := (by omega); have e1_2 : ¬ (w1.heap.size = w.heap.size + 1 + 1) := (by omega); have n2_0 : ¬ (w.heap.size + 1 + 1 = w.heap.size) := (by omega); have n0_2 : ¬ (w.heap.size = w.heap.size + 1 + 1) := (by omega); have n2_1 : ¬ (w.heap.size + 1 + 1 = w.heap.size + 1) := (by omega); have n1_2 : ¬ (w.heap.size + 1 = w.heap.size + 1 + 1) := (by omega); have F1_1 := K.ints.ext (show K.ints _ (loF) (hiF) (.slice oF F.pw.length cF) (F.pw) from by repeat' (first | with_reducible exact hF_ | with_reducible refine K.ints.set ?_ _ ?_ _ | with_reducible refine K.ints.alloc ?_ _ | with_reducible refine K.ints.drew ?_ | (dsimp only; omega) | omega | (simp; done) | (simp; omega))) x1; have F2_1 := K.ints.ext (show K.ints _ (loG) (hiG) (.slice oG G.pw.length cG) (G.pw) from by repeat' (first | with_reducible exact hG_ | with_reducible refine K.ints.set ?_ _ ?_ _ | with_reducible refine K.ints.alloc ?_ _ | with_reducible refine K.ints.drew ?_ | (dsimp only; omega) | omega | (simp; done) | (simp; omega))) x1; clear hF_ hG_)
      go_wp2_with (go_at_call 91; refine K.call (by with_reducible rfl) (by with_reducible rfl) (spec_IsFormula G _ hmG hnG (F2_1)) ?_; rintro e w2 ⟨rfl, x2⟩; have s2 : w1.heap.size ≤ w2.heap.size := (by have h_ := x2.size; (try simp at h_); omega); have X2 := K.Ext.trans (X1) x2; obtain ⟨c2_0_0, c2_0_1, c2_0_2, c2_0_3⟩ := K.c4 x2 (w.heap.size) (.int .i64 F.dg) (.int .i64 F.tn) (.string F.nm) (.slice oF F.pw.length cF) (by go_simp); have z2_0 : w.heap.size < w2.heap.size := World.block_lt_of_cell? w2 _ c2_0_0; have d2_0 : ¬ (w.heap.size = w2.heap.size) := (by omega); have e2_0 : ¬ (w2.heap.size = w.heap.size) := (by omega); obtain ⟨c2_1_0, c2_1_1, c2_1_2, c2_1_3⟩ := K.c4 x2 (w.heap.size + 1) (.int .i64 G.dg) (.int .i64 G.tn) (.string G.nm) (.slice oG G.pw.length cG) (by go_simp); have z2_1 : w.heap.size + 1 < w2.heap.size := World.block_lt_of_cell? w2 _ c2_1_0; have d2_1 : ¬ (w.heap.size + 1 = w2.heap.size) := (by omega); have e2_1 : ¬ (w2.heap.size = w.heap.size + 1) := (by omega); obtain ⟨c2_2_0, c2_2_1, c2_2_2, c2_2_3⟩ := K.c4 x2 (w.heap.size + 1 + 1) (.int .i64 0) (.int .i64 0) (.string ⟨#[]⟩) (.slice none 0 0) (by go_simp); obtain ⟨f2_2_0, f2_2_1, f2_2_2, f2_2_3⟩ := K.f4 x2 (w.heap.size + 1 + 1) (by go_simp); have z2_2 : w.heap.size + 1 + 1 < w2.heap.size := World.block_lt_of_cell? w2 _ c2_2_0; have d2_2 : ¬ (w.heap.size + 1 + 1 = w2.heap.size) := (by omega); have e2_2 : ¬ (w2.heap.size = w.heap.size + 1 + 1) := (by omega); have F1_2 := K.ints.ext (F1_1) x2; have F2_2 := K.ints.ext (F2_1) x2; clear c1_0_0 c1_0_1 c1_0_2 c1_0_3 z1_0 d1_0 e1_0 c1_1_0 c1_1_1 c1_1_2 c1_1_3 z1_1 d1_1 e1_1 c1_2_0 c1_2_1 c1_2_2 c1_2_3 f1_2_0 f1_2_1 f1_2_2 f1_2_3 z1_2 d1_2 e1_2 F1_1 F2_1)
      rw [HE.out]
      refine bodyPost_ret (v := .tuple #[.agg #[.int .i64 0, .int .i64 0, .string ⟨#[]⟩, .slice none 0 0], .int .i64 1]) (by unfold results; rw [Try.results55]; go_simp) rfl ⟨⟨_, rfl, ?_⟩, ?_⟩
      · exact K.ints_nil _ _ _
      · repeat with_reducible refine K.Ext.setCell ?_ (by dsimp only; omega) _
        exact (by repeat' (first | with_reducible exact X2 | with_reducible refine K.Ext.setCell ?_ ?_ _ | with_reducible refine K.Ext.alloc ?_ _ | with_reducible refine K.Ext.drew ?_ | (dsimp only; omega) | omega | (simp; omega)))
    · obtain ⟨hl, h6⟩ : Hid (F.pw.length = F.nm.size) ∧ Hid (F.nm.size ≤ 6) := Z.isFormula_len vF
      have VF := Z.hide vF
      have VG := Z.hide vG
      obtain ⟨n, hx⟩ : ∃ n, n = Z.expo (Z.bs F.nm) F.pw c := ⟨_, rfl⟩
      have HX : ∀ {lo hi : Nat} {p : Value} (w' : World), K.ints w' lo hi p F.pw → Calls Try.prog 107 #[.agg #[.int .i64 F.dg, .int .i64 F.tn, .string F.nm, p], .int .u8 c] w' fun e w'' => e = .returned (.int .i64 n) ∧ K.Ext w' w'' := fun w' hh => by rw [hx]; exact l18Exponent_any F c _ _ _ w' hl.out (Nat.le_trans h6.out (by decide)) hh
      by_cases hz : n = 0
      · have HE : Hid (Z.ReplaceName F c G = (Z.zeroFm, 4)) := Z.hide (by unfold Z.ReplaceName; rw [vF, vG, ← hx, if_pos hz]; rfl)
        clear hx
        have X0 : K.Ext w w := K.Ext.refl w
        go_enter Try.func55, Try.ntmps55
        go_wp2_with (go_at_call 91; refine K.call (by with_reducible rfl) (by with_reducible rfl) (spec_IsFormula F _ hmF hnF (show K.ints _ (loF) (hiF) (.slice oF F.pw.length cF) (F.pw) from by repeat' (first | with_reducible exact hF_ | with_reducible refine K.ints.set ?_ _ ?_ _ | with_reducible refine K.ints.alloc ?_ _ | with_reducible refine K.ints.drew ?_ | (dsimp only; omega) | omega | (simp; done) | (simp; omega)))) ?_; rintro e w1 ⟨rfl, x1⟩; have s1 : w.heap.size + 3 ≤ w1.heap.size := (by have h_ := x1.size; (try simp at h_); omega); have X1 : K.Ext w w1 := K.Ext.trans (by repeat' (first | with_reducible exact X0 | with_reducible refine K.Ext.setCell ?_ ?_ _ | with_reducible refine K.Ext.alloc ?_ _ | with_reducible refine K.Ext.drew ?_ | (dsimp only; omega) | omega | (simp; omega))) x1; obtain ⟨c1_0_0, c1_0_1, c1_0_2, c1_0_3⟩ := K.c4 x1 (w.heap.size) (.int .i64 F.dg) (.int .i64 F.tn) (.string F.nm) (.slice oF F.pw.length cF) (by go_simp); have z1_0 : w.heap.size < w1.heap.size := World.block_lt_of_cell? w1 _ c1_0_0; have d1_0 : ¬ (w.heap.size = w1.heap.size) := (by omega); have e1_0 : ¬ (w1.heap.size = w.heap.size) := (by omega); obtain ⟨c1_1_0, c1_1_1, c1_1_2, c1_1_3⟩ := K.c4 x1 (w.heap.size + 1) (.int .i64 G.dg) (.int .i64 G.tn) (.string G.nm) (.slice oG G.pw.length cG) (by go_simp); have z1_1 : w.heap.size + 1 < w1.heap.size := World.block_lt_of_cell? w1 _ c1_1_0; have d1_1 : ¬ (w.heap.size + 1 = w1.heap.size) := (by omega); have e1_1 : ¬ (w1.heap.size = w.heap.size + 1) := (by omega); have n1_0 : ¬ (w.heap.size + 1 = w.heap.size) := (by omega); have n0_1 : ¬ (w.heap.size = w.heap.size + 1) := (by omega); obtain ⟨c1_2_0, c1_2_1, c1_2_2, c1_2_3⟩ := K.c4 x1 (w.heap.size + 1 + 1) (.int .i64 0) (.int .i64 0) (.string ⟨#[]⟩) (.slice none 0 0) (by go_simp); obtain ⟨f1_2_0, f1_2_1, f1_2_2, f1_2_3⟩ := K.f4 x1 (w.heap.size + 1 + 1) (by go_simp); have z1_2 : w.heap.size + 1 + 1 < w1.heap.size := World.block_lt_of_cell? w1 _ c1_2_0; have d1_2 : ¬ (w.heap.size + 1 + 1 = w1.heap.size) := (by omega); have e1_2 : ¬ (w1.heap.size = w.heap.size + 1 + 1) := (by omega); have n2_0 : ¬ (w.heap.size + 1 + 1 = w.heap.size) := (by omega); have n0_2 : ¬ (w.heap.size = w.heap.size + 1 + 1) := (by omega); have n2_1 : ¬ (w.heap.size + 1 + 1 = w.heap.size + 1) := (by omega); have n1_2 : ¬ (w.heap.size + 1 = w.heap.size + 1 + 1) := (by omega); have F1_1 := K.ints.ext (show K.ints _ (loF) (hiF) (.slice oF F.pw.length cF) (F.pw) from by repeat' (first | with_reducible exact hF_ | with_reducible refine K.ints.set ?_ _ ?_ _ | with_reducible refine K.ints.alloc ?_ _ | with_reducible refine K.ints.drew ?_ | (dsimp only; omega) | omega | (simp; done) | (simp; omega))) x1; have F2_1 := K.ints.ext (show K.ints _ (loG) (hiG) (.slice oG G.pw.length cG) (G.pw) from by repeat' (first | with_reducible exact hG_ | with_reducible refine K.ints.set ?_ _ ?_ _ | with_reducible refine K.ints.alloc ?_ _ | with_reducible refine K.ints.drew ?_ | (dsimp only; omega) | omega | (simp; done) | (simp; omega))) x1; clear hF_ hG_)
        go_wp2_with (go_at_call 91; refine K.call (by with_reducible rfl) (by with_reducible rfl) (spec_IsFormula G _ hmG hnG (F2_1)) ?_; rintro e w2 ⟨rfl, x2⟩; have s2 : w1.heap.size ≤ w2.heap.size := (by have h_ := x2.size; (try simp at h_); omega); have X2 := K.Ext.trans (X1) x2; obtain ⟨c2_0_0, c2_0_1, c2_0_2, c2_0_3⟩ := K.c4 x2 (w.heap.size) (.int .i64 F.dg) (.int .i64 F.tn) (.string F.nm) (.slice oF F.pw.length cF) (by go_simp); have z2_0 : w.heap.size < w2.heap.size := World.block_lt_of_cell? w2 _ c2_0_0; have d2_0 : ¬ (w.heap.size = w2.heap.size) := (by omega); have e2_0 : ¬ (w2.heap.size = w.heap.size) := (by omega); obtain ⟨c2_1_0, c2_1_1, c2_1_2, c2_1_3⟩ := K.c4 x2 (w.heap.size + 1) (.int .i64 G.dg) (.int .i64 G.tn) (.string G.nm) (.slice oG G.pw.length cG) (by go_simp); have z2_1 : w.heap.size + 1 < w2.heap.size := World.block_lt_of_cell? w2 _ c2_1_0; have d2_1 : ¬ (w.heap.size + 1 = w2.heap.size) := (by omega); have e2_1 : ¬ (w2.heap.size = w.heap.size + 1) := (by omega); obtain ⟨c2_2_0, c2_2_1, c2_2_2, c2_2_3⟩ := K.c4 x2 (w.heap.size + 1 + 1) (.int .i64 0) (.int .i64 0) (.string ⟨#[]⟩) (.slice none 0 0) (by go_simp); obtain ⟨f2_2_0, f2_2_1, f2_2_2, f2_2_3⟩ := K.f4 x2 (w.heap.size + 1 + 1) (by go_simp); have z2_2 : w.heap.size + 1 + 1 < w2.heap.size := World.block_lt_of_cell? w2 _ c2_2_0; have d2_2 : ¬ (w.heap.size + 1 + 1 = w2.heap.size) := (by omega); have e2_2 : ¬ (w2.heap.size = w.heap.size + 1 + 1) := (by omega); have F1_2 := K.ints.ext (F1_1) x2; have F2_2 := K.ints.ext (F2_1) x2; clear c1_0_0 c1_0_1 c1_0_2 c1_0_3 z1_0 d1_0 e1_0 c1_1_0 c1_1_1 c1_1_2 c1_1_3 z1_1 d1_1 e1_1 c1_2_0 c1_2_1 c1_2_2 c1_2_3 f1_2_0 f1_2_1 f1_2_2 f1_2_3 z1_2 d1_2 e1_2 F1_1 F2_1)
        go_wp2_with (go_at_call 107; refine K.call (by with_reducible rfl) (by with_reducible rfl) (HX _ (F1_2)) ?_; rintro e w3 ⟨rfl, x3⟩; have s3 : w2.heap.size ≤ w3.heap.size := (by have h_ := x3.size; (try simp at h_); omega); have X3 := K.Ext.trans (X2) x3; obtain ⟨c3_0_0, c3_0_1, c3_0_2, c3_0_3⟩ := K.c4 x3 (w.heap.size) (.int .i64 F.dg) (.int .i64 F.tn) (.string F.nm) (.slice oF F.pw.length cF) (by go_simp); have z3_0 : w.heap.size < w3.heap.size := World.block_lt_of_cell? w3 _ c3_0_0; have d3_0 : ¬ (w.heap.size = w3.heap.size) := (by omega); have e3_0 : ¬ (w3.heap.size = w.heap.size) := (by omega); obtain ⟨c3_1_0, c3_1_1, c3_1_2, c3_1_3⟩ := K.c4 x3 (w.heap.size + 1) (.int .i64 G.dg) (.int .i64 G.tn) (.string G.nm) (.slice oG G.pw.length cG) (by go_simp); have z3_1 : w.heap.size + 1 < w3.heap.size := World.block_lt_of_cell? w3 _ c3_1_0; have d3_1 : ¬ (w.heap.size + 1 = w3.heap.size) := (by omega); have e3_1 : ¬ (w3.heap.size = w.heap.size + 1) := (by omega); obtain ⟨c3_2_0, c3_2_1, c3_2_2, c3_2_3⟩ := K.c4 x3 (w.heap.size + 1 + 1) (.int .i64 0) (.int .i64 0) (.string ⟨#[]⟩) (.slice none 0 0) (by go_simp); obtain ⟨f3_2_0, f3_2_1, f3_2_2, f3_2_3⟩ := K.f4 x3 (w.heap.size + 1 + 1) (by go_simp); have z3_2 : w.heap.size + 1 + 1 < w3.heap.size := World.block_lt_of_cell? w3 _ c3_2_0; have d3_2 : ¬ (w.heap.size + 1 + 1 = w3.heap.size) := (by omega); have e3_2 : ¬ (w3.heap.size = w.heap.size + 1 + 1) := (by omega); have F1_3 := K.ints.ext (F1_2) x3; have F2_3 := K.ints.ext (F2_2) x3; clear c2_0_0 c2_0_1 c2_0_2 c2_0_3 z2_0 d2_0 e2_0 c2_1_0 c2_1_1 c2_1_2 c2_1_3 z2_1 d2_1 e2_1 c2_2_0 c2_2_1 c2_2_2 c2_2_3 f2_2_0 f2_2_1 f2_2_2 f2_2_3 z2_2 d2_2 e2_2 F1_2 F2_2)
        rw [HE.out]
        refine bodyPost_ret (v := .tuple #[.agg #[.int .i64 0, .int .i64 0, .string ⟨#[]⟩, .slice none 0 0], .int .i64 4]) (by unfold results; rw [Try.results55]; go_simp) rfl ⟨⟨_, rfl, ?_⟩, ?_⟩
        · exact K.ints_nil _ _ _
        · repeat with_reducible refine K.Ext.setCell ?_ (by dsimp only; omega) _
          exact (by repeat' (first | with_reducible exact X3 | with_reducible refine K.Ext.setCell ?_ ?_ _ | with_reducible refine K.Ext.alloc ?_ _ | with_reducible refine K.Ext.drew ?_ | (dsimp only; omega) | omega | (simp; omega)))
      · obtain ⟨P, hP⟩ : ∃ P, P = Z.PowerFormula G n := ⟨_, rfl⟩
        have HP : ∀ {lo hi : Nat} {p : Value} (w : World), K.ints w lo hi p G.pw → Calls Try.prog 31 #[.agg #[.int .i64 G.dg, .int .i64 G.tn, .string G.nm, p], .int .i64 n] w fun e w' => (∃ p', e = .returned (.tuple #[.agg #[.int .i64 P.1.dg, .int .i64 P.1.tn, .string P.1.nm, p'], .int .i64 P.2]) ∧ K.ints w' w.heap.size w'.heap.size p' P.1.pw) ∧ K.Ext w w' := fun w h => by rw [hP]; exact spec_PowerFormula G n w hmG hnG h
        by_cases hc : P.2 = 0
        · obtain ⟨W, hW⟩ : ∃ W, W = Z.without F c := ⟨_, rfl⟩
          obtain ⟨M, hM⟩ : ∃ M, M = Z.multiplied W P.1 := ⟨_, rfl⟩
          have HE : Hid (Z.ReplaceName F c G = M) := Z.hide (by unfold Z.ReplaceName; rw [vF, vG, ← hx]; simp only [Bool.and_self, if_true]; rw [if_neg hz, ← hP, if_pos hc, hM, hW])
          obtain ⟨m, hm26, hcm⟩ := Z.letter_of vF (c := c) (by rw [← hx]; exact hz)
          have H1 : ∀ {lo hi : Nat} {p : Value} (w' : World), K.ints w' lo hi p F.pw → Calls Try.prog 131 #[.agg #[.int .i64 F.dg, .int .i64 F.tn, .string F.nm, p], .int .u8 c] w' fun e w'' => (∃ p', e = .returned (.agg #[.int .i64 W.dg, .int .i64 W.tn, .string W.nm, p']) ∧ K.own w'' w'.heap.size w''.heap.size p' W.pw) ∧ K.Ext w' w'' := fun w' hh => by rw [hW, hcm]; exact l18Without_any F m w' VF.out hm26 hh
          clear hcm
          have vW : Z.isFormula W = true := by rw [hW]; exact Z.without_ok vF c
          have vP : Z.isFormula P.1 = true := by rw [hP]; exact Z.PowerFormula_ok vG (by rw [← hP]; exact hc)
          have leW : W.pw.length ≤ 1048576 ∧ W.nm.size ≤ 1048576 := by rw [hW]; exact Z.made_le _ _ _ 
          have leP : P.1.pw.length ≤ 1048576 ∧ P.1.nm.size ≤ 1048576 := by rw [hP]; exact Z.PowerFormula_le _ _
          have H2 : ∀ {lo hi lo' hi' : Nat} {p q : Value} (w : World), K.ints w lo hi p W.pw → K.ints w lo' hi' q P.1.pw → Calls Try.prog 25 #[.agg #[.int .i64 W.dg, .int .i64 W.tn, .string W.nm, p], .agg #[.int .i64 P.1.dg, .int .i64 P.1.tn, .string P.1.nm, q]] w fun e w' => (∃ p', e = .returned (.tuple #[.agg #[.int .i64 M.1.dg, .int .i64 M.1.tn, .string M.1.nm, p'], .int .i64 M.2]) ∧ K.ints w' w.heap.size w'.heap.size p' M.1.pw) ∧ K.Ext w w' := fun w h h' => by rw [hM]; rw [← Z.MultiplyFormulas_eq vW vP]; exact spec_MultiplyFormulas W P.1 w leW.1 leW.2 h leP.1 leP.2 h'
          clear hx hP hW hM vW vP leW leP
          have X0 : K.Ext w w := K.Ext.refl w
          go_enter Try.func55, Try.ntmps55
          go_wp2_with (go_at_call 91; refine K.call (by with_reducible rfl) (by with_reducible rfl) (spec_IsFormula F _ hmF hnF (show K.ints _ (loF) (hiF) (.slice oF F.pw.length cF) (F.pw) from by repeat' (first | with_reducible exact hF_ | with_reducible refine K.ints.set ?_ _ ?_ _ | with_reducible refine K.ints.alloc ?_ _ | with_reducible refine K.ints.drew ?_ | (dsimp only; omega) | omega | (simp; done) | (simp; omega)))) ?_; rintro e w1 ⟨rfl, x1⟩; have s1 : w.heap.size + 3 ≤ w1.heap.size := (by have h_ := x1.size; (try simp at h_); omega); have X1 : K.Ext w w1 := K.Ext.trans (by repeat' (first | with_reducible exact X0 | with_reducible refine K.Ext.setCell ?_ ?_ _ | with_reducible refine K.Ext.alloc ?_ _ | with_reducible refine K.Ext.drew ?_ | (dsimp only; omega) | omega | (simp; omega))) x1; obtain ⟨c1_0_0, c1_0_1, c1_0_2, c1_0_3⟩ := K.c4 x1 (w.heap.size) (.int .i64 F.dg) (.int .i64 F.tn) (.string F.nm) (.slice oF F.pw.length cF) (by go_simp); have z1_0 : w.heap.size < w1.heap.size := World.block_lt_of_cell? w1 _ c1_0_0; have d1_0 : ¬ (w.heap.size = w1.heap.size) := (by omega); have e1_0 : ¬ (w1.heap.size = w.heap.size) := (by omega); obtain ⟨c1_1_0, c1_1_1, c1_1_2, c1_1_3⟩ := K.c4 x1 (w.heap.size + 1) (.int .i64 G.dg) (.int .i64 G.tn) (.string G.nm) (.slice oG G.pw.length cG) (by go_simp); have z1_1 : w.heap.size + 1 < w1.heap.size := World.block_lt_of_cell? w1 _ c1_1_0; have d1_1 : ¬ (w.heap.size + 1 = w1.heap.size) := (by omega); have e1_1 : ¬ (w1.heap.size = w.heap.size + 1) := (by omega); have n1_0 : ¬ (w.heap.size + 1 = w.heap.size) := (by omega); have n0_1 : ¬ (w.heap.size = w.heap.size + 1) := (by omega); obtain ⟨c1_2_0, c1_2_1, c1_2_2, c1_2_3⟩ := K.c4 x1 (w.heap.size + 1 + 1) (.int .i64 0) (.int .i64 0) (.string ⟨#[]⟩) (.slice none 0 0) (by go_simp); obtain ⟨f1_2_0, f1_2_1, f1_2_2, f1_2_3⟩ := K.f4 x1 (w.heap.size + 1 + 1) (by go_simp); have z1_2 : w.heap.size + 1 + 1 < w1.heap.size := World.block_lt_of_cell? w1 _ c1_2_0; have d1_2 : ¬ (w.heap.size + 1 + 1 = w1.heap.size) := (by omega); have e1_2 : ¬ (w1.heap.size = w.heap.size + 1 + 1) := (by omega); have n2_0 : ¬ (w.heap.size + 1 + 1 = w.heap.size) := (by omega); have n0_2 : ¬ (w.heap.size = w.heap.size + 1 + 1) := (by omega); have n2_1 : ¬ (w.heap.size + 1 + 1 = w.heap.size + 1) := (by omega); have n1_2 : ¬ (w.heap.size + 1 = w.heap.size + 1 + 1) := (by omega); have F1_1 := K.ints.ext (show K.ints _ (loF) (hiF) (.slice oF F.pw.length cF) (F.pw) from by repeat' (first | with_reducible exact hF_ | with_reducible refine K.ints.set ?_ _ ?_ _ | with_reducible refine K.ints.alloc ?_ _ | with_reducible refine K.ints.drew ?_ | (dsimp only; omega) | omega | (simp; done) | (simp; omega))) x1; have F2_1 := K.ints.ext (show K.ints _ (loG) (hiG) (.slice oG G.pw.length cG) (G.pw) from by repeat' (first | with_reducible exact hG_ | with_reducible refine K.ints.set ?_ _ ?_ _ | with_reducible refine K.ints.alloc ?_ _ | with_reducible refine K.ints.drew ?_ | (dsimp only; omega) | omega | (simp; done) | (simp; omega))) x1; clear hF_ hG_)
          go_wp2_with (go_at_call 91; refine K.call (by with_reducible rfl) (by with_reducible rfl) (spec_IsFormula G _ hmG hnG (F2_1)) ?_; rintro e w2 ⟨rfl, x2⟩; have s2 : w1.heap.size ≤ w2.heap.size := (by have h_ := x2.size; (try simp at h_); omega); have X2 := K.Ext.trans (X1) x2; obtain ⟨c2_0_0, c2_0_1, c2_0_2, c2_0_3⟩ := K.c4 x2 (w.heap.size) (.int .i64 F.dg) (.int .i64 F.tn) (.string F.nm) (.slice oF F.pw.length cF) (by go_simp); have z2_0 : w.heap.size < w2.heap.size := World.block_lt_of_cell? w2 _ c2_0_0; have d2_0 : ¬ (w.heap.size = w2.heap.size) := (by omega); have e2_0 : ¬ (w2.heap.size = w.heap.size) := (by omega); obtain ⟨c2_1_0, c2_1_1, c2_1_2, c2_1_3⟩ := K.c4 x2 (w.heap.size + 1) (.int .i64 G.dg) (.int .i64 G.tn) (.string G.nm) (.slice oG G.pw.length cG) (by go_simp); have z2_1 : w.heap.size + 1 < w2.heap.size := World.block_lt_of_cell? w2 _ c2_1_0; have d2_1 : ¬ (w.heap.size + 1 = w2.heap.size) := (by omega); have e2_1 : ¬ (w2.heap.size = w.heap.size + 1) := (by omega); obtain ⟨c2_2_0, c2_2_1, c2_2_2, c2_2_3⟩ := K.c4 x2 (w.heap.size + 1 + 1) (.int .i64 0) (.int .i64 0) (.string ⟨#[]⟩) (.slice none 0 0) (by go_simp); obtain ⟨f2_2_0, f2_2_1, f2_2_2, f2_2_3⟩ := K.f4 x2 (w.heap.size + 1 + 1) (by go_simp); have z2_2 : w.heap.size + 1 + 1 < w2.heap.size := World.block_lt_of_cell? w2 _ c2_2_0; have d2_2 : ¬ (w.heap.size + 1 + 1 = w2.heap.size) := (by omega); have e2_2 : ¬ (w2.heap.size = w.heap.size + 1 + 1) := (by omega); have F1_2 := K.ints.ext (F1_1) x2; have F2_2 := K.ints.ext (F2_1) x2; clear c1_0_0 c1_0_1 c1_0_2 c1_0_3 z1_0 d1_0 e1_0 c1_1_0 c1_1_1 c1_1_2 c1_1_3 z1_1 d1_1 e1_1 c1_2_0 c1_2_1 c1_2_2 c1_2_3 f1_2_0 f1_2_1 f1_2_2 f1_2_3 z1_2 d1_2 e1_2 F1_1 F2_1)
          go_wp2_with (go_at_call 107; refine K.call (by with_reducible rfl) (by with_reducible rfl) (HX _ (F1_2)) ?_; rintro e w3 ⟨rfl, x3⟩; have s3 : w2.heap.size ≤ w3.heap.size := (by have h_ := x3.size; (try simp at h_); omega); have X3 := K.Ext.trans (X2) x3; obtain ⟨c3_0_0, c3_0_1, c3_0_2, c3_0_3⟩ := K.c4 x3 (w.heap.size) (.int .i64 F.dg) (.int .i64 F.tn) (.string F.nm) (.slice oF F.pw.length cF) (by go_simp); have z3_0 : w.heap.size < w3.heap.size := World.block_lt_of_cell? w3 _ c3_0_0; have d3_0 : ¬ (w.heap.size = w3.heap.size) := (by omega); have e3_0 : ¬ (w3.heap.size = w.heap.size) := (by omega); obtain ⟨c3_1_0, c3_1_1, c3_1_2, c3_1_3⟩ := K.c4 x3 (w.heap.size + 1) (.int .i64 G.dg) (.int .i64 G.tn) (.string G.nm) (.slice oG G.pw.length cG) (by go_simp); have z3_1 : w.heap.size + 1 < w3.heap.size := World.block_lt_of_cell? w3 _ c3_1_0; have d3_1 : ¬ (w.heap.size + 1 = w3.heap.size) := (by omega); have e3_1 : ¬ (w3.heap.size = w.heap.size + 1) := (by omega); obtain ⟨c3_2_0, c3_2_1, c3_2_2, c3_2_3⟩ := K.c4 x3 (w.heap.size + 1 + 1) (.int .i64 0) (.int .i64 0) (.string ⟨#[]⟩) (.slice none 0 0) (by go_simp); obtain ⟨f3_2_0, f3_2_1, f3_2_2, f3_2_3⟩ := K.f4 x3 (w.heap.size + 1 + 1) (by go_simp); have z3_2 : w.heap.size + 1 + 1 < w3.heap.size := World.block_lt_of_cell? w3 _ c3_2_0; have d3_2 : ¬ (w.heap.size + 1 + 1 = w3.heap.size) := (by omega); have e3_2 : ¬ (w3.heap.size = w.heap.size + 1 + 1) := (by omega); have F1_3 := K.ints.ext (F1_2) x3; have F2_3 := K.ints.ext (F2_2) x3; clear c2_0_0 c2_0_1 c2_0_2 c2_0_3 z2_0 d2_0 e2_0 c2_1_0 c2_1_1 c2_1_2 c2_1_3 z2_1 d2_1 e2_1 c2_2_0 c2_2_1 c2_2_2 c2_2_3 f2_2_0 f2_2_1 f2_2_2 f2_2_3 z2_2 d2_2 e2_2 F1_2 F2_2)
          go_wp2_with (go_at_call 31; refine K.call (by with_reducible rfl) (by with_reducible rfl) (HP _ (F2_3)) ?_; rintro e w4 ⟨⟨p4, rfl, g4⟩, x4⟩; obtain ⟨o4, k4, rfl, _⟩ := K.ints.mono g4 (Nat.le_refl _) (Nat.le_refl _); have F3_4 : K.ints w4 (w3.heap.size) (w4.heap.size) (.slice o4 P.1.pw.length k4) (P.1.pw) := g4.mono (by simp) (Nat.le_refl _); clear g4; have s4 : w3.heap.size ≤ w4.heap.size := (by have h_ := x4.size; (try simp at h_); omega); have X4 := K.Ext.trans (X3) x4; obtain ⟨c4_0_0, c4_0_1, c4_0_2, c4_0_3⟩ := K.c4 x4 (w.heap.size) (.int .i64 F.dg) (.int .i64 F.tn) (.string F.nm) (.slice oF F.pw.length cF) (by go_simp); have z4_0 : w.heap.size < w4.heap.size := World.block_lt_of_cell? w4 _ c4_0_0; have d4_0 : ¬ (w.heap.size = w4.heap.size) := (by omega); have e4_0 : ¬ (w4.heap.size = w.heap.size) := (by omega); obtain ⟨c4_1_0, c4_1_1, c4_1_2, c4_1_3⟩ := K.c4 x4 (w.heap.size + 1) (.int .i64 G.dg) (.int .i64 G.tn) (.string G.nm) (.slice oG G.pw.length cG) (by go_simp); have z4_1 : w.heap.size + 1 < w4.heap.size := World.block_lt_of_cell? w4 _ c4_1_0; have d4_1 : ¬ (w.heap.size + 1 = w4.heap.size) := (by omega); have e4_1 : ¬ (w4.heap.size = w.heap.size + 1) := (by omega); obtain ⟨c4_2_0, c4_2_1, c4_2_2, c4_2_3⟩ := K.c4 x4 (w.heap.size + 1 + 1) (.int .i64 0) (.int .i64 0) (.string ⟨#[]⟩) (.slice none 0 0) (by go_simp); obtain ⟨f4_2_0, f4_2_1, f4_2_2, f4_2_3⟩ := K.f4 x4 (w.heap.size + 1 + 1) (by go_simp); have z4_2 : w.heap.size + 1 + 1 < w4.heap.size := World.block_lt_of_cell? w4 _ c4_2_0; have d4_2 : ¬ (w.heap.size + 1 + 1 = w4.heap.size) := (by omega); have e4_2 : ¬ (w4.heap.size = w.heap.size + 1 + 1) := (by omega); have F1_4 := K.ints.ext (F1_3) x4; have F2_4 := K.ints.ext (F2_3) x4; clear c3_0_0 c3_0_1 c3_0_2 c3_0_3 z3_0 d3_0 e3_0 c3_1_0 c3_1_1 c3_1_2 c3_1_3 z3_1 d3_1 e3_1 c3_2_0 c3_2_1 c3_2_2 c3_2_3 f3_2_0 f3_2_1 f3_2_2 f3_2_3 z3_2 d3_2 e3_2 F1_3 F2_3)
          go_wp2_with fail
          go_region_with (first | (go_at_call 131; refine K.call (by with_reducible rfl) (by with_reducible rfl) (H1 _ (show K.ints _ (loF) (hiF) (.slice oF F.pw.length cF) (F.pw) from by repeat' (first | with_reducible exact F1_4 | with_reducible refine K.ints.set ?_ _ ?_ _ | with_reducible refine K.ints.alloc ?_ _ | with_reducible refine K.ints.drew ?_ | (dsimp only; omega) | omega | (simp; done) | (simp; omega)))) ?_; rintro e w5 ⟨⟨p5, rfl, g5⟩, x5⟩; obtain ⟨o5, k5, rfl, _⟩ := K.own.ints g5; have F4_5 : K.own w5 (w4.heap.size + 1) (w5.heap.size) (.slice o5 W.pw.length k5) (W.pw) := g5.mono (by simp) (Nat.le_refl _); clear g5; have s5 : w4.heap.size + 1 ≤ w5.heap.size := (by have h_ := x5.size; (try simp at h_); omega); have X5 : K.Ext w w5 := K.Ext.trans (by repeat' (first | with_reducible exact X4 | with_reducible refine K.Ext.setCell ?_ ?_ _ | with_reducible refine K.Ext.alloc ?_ _ | with_reducible refine K.Ext.drew ?_ | (dsimp only; omega) | omega | (simp; omega))) x5; obtain ⟨c5_0_0, c5_0_1, c5_0_2, c5_0_3⟩ := K.c4 x5 (w.heap.size) (.int .i64 F.dg) (.int .i64 F.tn) (.string F.nm) (.slice oF F.pw.length cF) (by go_simp); have z5_0 : w.heap.size < w5.heap.size := World.block_lt_of_cell? w5 _ c5_0_0; have d5_0 : ¬ (w.heap.size = w5.heap.size) := (by omega); have e5_0 : ¬ (w5.heap.size = w.heap.size) := (by omega); obtain ⟨c5_1_0, c5_1_1, c5_1_2, c5_1_3⟩ := K.c4 x5 (w.heap.size + 1) (.int .i64 G.dg) (.int .i64 G.tn) (.string G.nm) (.slice oG G.pw.length cG) (by go_simp); have z5_1 : w.heap.size + 1 < w5.heap.size := World.block_lt_of_cell? w5 _ c5_1_0; have d5_1 : ¬ (w.heap.size + 1 = w5.heap.size) := (by omega); have e5_1 : ¬ (w5.heap.size = w.heap.size + 1) := (by omega); obtain ⟨c5_2_0, c5_2_1, c5_2_2, c5_2_3⟩ := K.c4 x5 (w.heap.size + 1 + 1) (.int .i64 0) (.int .i64 0) (.string ⟨#[]⟩) (.slice none 0 0) (by go_simp); obtain ⟨f5_2_0, f5_2_1, f5_2_2, f5_2_3⟩ := K.f4 x5 (w.heap.size + 1 + 1) (by go_simp); have z5_2 : w.heap.size + 1 + 1 < w5.heap.size := World.block_lt_of_cell? w5 _ c5_2_0; have d5_2 : ¬ (w.heap.size + 1 + 1 = w5.heap.size) := (by omega); have e5_2 : ¬ (w5.heap.size = w.heap.size + 1 + 1) := (by omega); obtain ⟨c5_3_0, c5_3_1, c5_3_2, c5_3_3⟩ := K.c4 x5 (w4.heap.size) (.int .i64 P.1.dg) (.int .i64 P.1.tn) (.string P.1.nm) (.slice o4 P.1.pw.length k4) (by go_simp); obtain ⟨f5_3_0, f5_3_1, f5_3_2, f5_3_3⟩ := K.f4 x5 (w4.heap.size) (by go_simp); have z5_3 : w4.heap.size < w5.heap.size := World.block_lt_of_cell? w5 _ c5_3_0; have d5_3 : ¬ (w4.heap.size = w5.heap.size) := (by omega); have e5_3 : ¬ (w5.heap.size = w4.heap.size) := (by omega); have n3_0 : ¬ (w4.heap.size = w.heap.size) := (by omega); have n0_3 : ¬ (w.heap.size = w4.heap.size) := (by omega); have n3_1 : ¬ (w4.heap.size = w.heap.size + 1) := (by omega); have n1_3 : ¬ (w.heap.size + 1 = w4.heap.size) := (by omega); have n3_2 : ¬ (w4.heap.size = w.heap.size + 1 + 1) := (by omega); have n2_3 : ¬ (w.heap.size + 1 + 1 = w4.heap.size) := (by omega); have F1_5 := K.ints.ext (show K.ints _ (loF) (hiF) (.slice oF F.pw.length cF) (F.pw) from by repeat' (first | with_reducible exact F1_4 | with_reducible refine K.ints.set ?_ _ ?_ _ | with_reducible refine K.ints.alloc ?_ _ | with_reducible refine K.ints.drew ?_ | (dsimp only; omega) | omega | (simp; done) | (simp; omega))) x5; have F2_5 := K.ints.ext (show K.ints _ (loG) (hiG) (.slice oG G.pw.length cG) (G.pw) from by repeat' (first | with_reducible exact F2_4 | with_reducible refine K.ints.set ?_ _ ?_ _ | with_reducible refine K.ints.alloc ?_ _ | with_reducible refine K.ints.drew ?_ | (dsimp only; omega) | omega | (simp; done) | (simp; omega))) x5; have F3_5 := K.ints.ext (show K.ints _ (w3.heap.size) (w4.heap.size) (.slice o4 P.1.pw.length k4) (P.1.pw) from by repeat' (first | with_reducible exact F3_4 | with_reducible refine K.ints.set ?_ _ ?_ _ | with_reducible refine K.ints.alloc ?_ _ | with_reducible refine K.ints.drew ?_ | (dsimp only; omega) | omega | (simp; done) | (simp; omega))) x5; clear c4_0_0 c4_0_1 c4_0_2 c4_0_3 z4_0 d4_0 e4_0 c4_1_0 c4_1_1 c4_1_2 c4_1_3 z4_1 d4_1 e4_1 c4_2_0 c4_2_1 c4_2_2 c4_2_3 f4_2_0 f4_2_1 f4_2_2 f4_2_3 z4_2 d4_2 e4_2 F1_4 F2_4 F3_4) | (go_at_call 25; refine K.call (by with_reducible rfl) (by with_reducible rfl) (H2 _ (K.own.ints (show K.own _ (w4.heap.size + 1) (w5.heap.size) (.slice o5 W.pw.length k5) (W.pw) from by repeat' (first | with_reducible exact F4_5 | with_reducible refine K.own.set ?_ _ ?_ _ | with_reducible refine K.own.alloc ?_ _ | with_reducible refine K.own.drew ?_ | (dsimp only; omega) | omega | (simp; done) | (simp; omega)))) (show K.ints _ (w3.heap.size) (w4.heap.size) (.slice o4 P.1.pw.length k4) (P.1.pw) from by repeat' (first | with_reducible exact F3_5 | with_reducible refine K.ints.set ?_ _ ?_ _ | with_reducible refine K.ints.alloc ?_ _ | with_reducible refine K.ints.drew ?_ | (dsimp only; omega) | omega | (simp; done) | (simp; omega)))) ?_; rintro e w6 ⟨⟨p6, rfl, g6⟩, x6⟩; obtain ⟨o6, k6, rfl, _⟩ := K.ints.mono g6 (Nat.le_refl _) (Nat.le_refl _); have F5_6 : K.ints w6 (w5.heap.size) (w6.heap.size) (.slice o6 M.1.pw.length k6) (M.1.pw) := g6.mono (by simp) (Nat.le_refl _); clear g6; have s6 : w5.heap.size ≤ w6.heap.size := (by have h_ := x6.size; (try simp at h_); omega); have X6 : K.Ext w w6 := K.Ext.trans (by repeat' (first | with_reducible exact X5 | with_reducible refine K.Ext.setCell ?_ ?_ _ | with_reducible refine K.Ext.alloc ?_ _ | with_reducible refine K.Ext.drew ?_ | (dsimp only; omega) | omega | (simp; omega))) x6; obtain ⟨c6_0_0, c6_0_1, c6_0_2, c6_0_3⟩ := K.c4 x6 (w.heap.size) (.int .i64 F.dg) (.int .i64 F.tn) (.string F.nm) (.slice oF F.pw.length cF) (by go_simp); have z6_0 : w.heap.size < w6.heap.size := World.block_lt_of_cell? w6 _ c6_0_0; have d6_0 : ¬ (w.heap.size = w6.heap.size) := (by omega); have e6_0 : ¬ (w6.heap.size = w.heap.size) := (by omega); obtain ⟨c6_1_0, c6_1_1, c6_1_2, c6_1_3⟩ := K.c4 x6 (w.heap.size + 1) (.int .i64 G.dg) (.int .i64 G.tn) (.string G.nm) (.slice oG G.pw.length cG) (by go_simp); have z6_1 : w.heap.size + 1 < w6.heap.size := World.block_lt_of_cell? w6 _ c6_1_0; have d6_1 : ¬ (w.heap.size + 1 = w6.heap.size) := (by omega); have e6_1 : ¬ (w6.heap.size = w.heap.size + 1) := (by omega); obtain ⟨c6_2_0, c6_2_1, c6_2_2, c6_2_3⟩ := K.c4 x6 (w.heap.size + 1 + 1) (.int .i64 0) (.int .i64 0) (.string ⟨#[]⟩) (.slice none 0 0) (by go_simp); obtain ⟨f6_2_0, f6_2_1, f6_2_2, f6_2_3⟩ := K.f4 x6 (w.heap.size + 1 + 1) (by go_simp); have z6_2 : w.heap.size + 1 + 1 < w6.heap.size := World.block_lt_of_cell? w6 _ c6_2_0; have d6_2 : ¬ (w.heap.size + 1 + 1 = w6.heap.size) := (by omega); have e6_2 : ¬ (w6.heap.size = w.heap.size + 1 + 1) := (by omega); obtain ⟨c6_3_0, c6_3_1, c6_3_2, c6_3_3⟩ := K.c4 x6 (w4.heap.size) (.int .i64 P.1.dg) (.int .i64 P.1.tn) (.string P.1.nm) (.slice o4 P.1.pw.length k4) (by go_simp); obtain ⟨f6_3_0, f6_3_1, f6_3_2, f6_3_3⟩ := K.f4 x6 (w4.heap.size) (by go_simp); have z6_3 : w4.heap.size < w6.heap.size := World.block_lt_of_cell? w6 _ c6_3_0; have d6_3 : ¬ (w4.heap.size = w6.heap.size) := (by omega); have e6_3 : ¬ (w6.heap.size = w4.heap.size) := (by omega); have F1_6 := K.ints.ext (show K.ints _ (loF) (hiF) (.slice oF F.pw.length cF) (F.pw) from by repeat' (first | with_reducible exact F1_5 | with_reducible refine K.ints.set ?_ _ ?_ _ | with_reducible refine K.ints.alloc ?_ _ | with_reducible refine K.ints.drew ?_ | (dsimp only; omega) | omega | (simp; done) | (simp; omega))) x6; have F2_6 := K.ints.ext (show K.ints _ (loG) (hiG) (.slice oG G.pw.length cG) (G.pw) from by repeat' (first | with_reducible exact F2_5 | with_reducible refine K.ints.set ?_ _ ?_ _ | with_reducible refine K.ints.alloc ?_ _ | with_reducible refine K.ints.drew ?_ | (dsimp only; omega) | omega | (simp; done) | (simp; omega))) x6; have F3_6 := K.ints.ext (show K.ints _ (w3.heap.size) (w4.heap.size) (.slice o4 P.1.pw.length k4) (P.1.pw) from by repeat' (first | with_reducible exact F3_5 | with_reducible refine K.ints.set ?_ _ ?_ _ | with_reducible refine K.ints.alloc ?_ _ | with_reducible refine K.ints.drew ?_ | (dsimp only; omega) | omega | (simp; done) | (simp; omega))) x6; have F4_6 := K.own.ext (show K.own _ (w4.heap.size + 1) (w5.heap.size) (.slice o5 W.pw.length k5) (W.pw) from by repeat' (first | with_reducible exact F4_5 | with_reducible refine K.own.set ?_ _ ?_ _ | with_reducible refine K.own.alloc ?_ _ | with_reducible refine K.own.drew ?_ | (dsimp only; omega) | omega | (simp; done) | (simp; omega))) x6; clear c5_0_0 c5_0_1 c5_0_2 c5_0_3 z5_0 d5_0 e5_0 c5_1_0 c5_1_1 c5_1_2 c5_1_3 z5_1 d5_1 e5_1 c5_2_0 c5_2_1 c5_2_2 c5_2_3 f5_2_0 f5_2_1 f5_2_2 f5_2_3 z5_2 d5_2 e5_2 c5_3_0 c5_3_1 c5_3_2 c5_3_3 f5_3_0 f5_3_1 f5_3_2 f5_3_3 z5_3 d5_3 e5_3 F1_5 F2_5 F3_5 F4_5))
          all_goals
            go_wp2_with fail
            rw [HE.out]
            refine bodyPost_ret (v := .tuple #[.agg #[.int .i64 M.1.dg, .int .i64 M.1.tn, .string M.1.nm, .slice o6 M.1.pw.length k6], .int .i64 M.2]) (by unfold results; rw [Try.results55]; go_simp) rfl ⟨⟨_, rfl, ?_⟩, ?_⟩
            · refine K.ints.mono (lo := w5.heap.size) (hi := w6.heap.size) ?_ (by first | omega | (simp; done) | (simp; omega)) (by first | omega | (simp; done) | (simp; omega))
              repeat' (first | with_reducible exact F5_6 | with_reducible refine K.ints.set ?_ _ ?_ _ | with_reducible refine K.ints.alloc ?_ _ | with_reducible refine K.ints.drew ?_ | (dsimp only; omega) | omega | (simp; done) | (simp; omega))
            · repeat with_reducible refine K.Ext.setCell ?_ (by dsimp only; omega) _
              exact (by repeat' (first | with_reducible exact X6 | with_reducible refine K.Ext.setCell ?_ ?_ _ | with_reducible refine K.Ext.alloc ?_ _ | with_reducible refine K.Ext.drew ?_ | (dsimp only; omega) | omega | (simp; omega)))
        · have HE : Hid (Z.ReplaceName F c G = (Z.zeroFm, P.2)) := Z.hide (by unfold Z.ReplaceName; rw [vF, vG, ← hx]; simp only [Bool.and_self, if_true]; rw [if_neg hz, ← hP, if_neg hc])
          clear hx hP
          have X0 : K.Ext w w := K.Ext.refl w
          go_enter Try.func55, Try.ntmps55
          go_wp2_with (go_at_call 91; refine K.call (by with_reducible rfl) (by with_reducible rfl) (spec_IsFormula F _ hmF hnF (show K.ints _ (loF) (hiF) (.slice oF F.pw.length cF) (F.pw) from by repeat' (first | with_reducible exact hF_ | with_reducible refine K.ints.set ?_ _ ?_ _ | with_reducible refine K.ints.alloc ?_ _ | with_reducible refine K.ints.drew ?_ | (dsimp only; omega) | omega | (simp; done) | (simp; omega)))) ?_; rintro e w1 ⟨rfl, x1⟩; have s1 : w.heap.size + 3 ≤ w1.heap.size := (by have h_ := x1.size; (try simp at h_); omega); have X1 : K.Ext w w1 := K.Ext.trans (by repeat' (first | with_reducible exact X0 | with_reducible refine K.Ext.setCell ?_ ?_ _ | with_reducible refine K.Ext.alloc ?_ _ | with_reducible refine K.Ext.drew ?_ | (dsimp only; omega) | omega | (simp; omega))) x1; obtain ⟨c1_0_0, c1_0_1, c1_0_2, c1_0_3⟩ := K.c4 x1 (w.heap.size) (.int .i64 F.dg) (.int .i64 F.tn) (.string F.nm) (.slice oF F.pw.length cF) (by go_simp); have z1_0 : w.heap.size < w1.heap.size := World.block_lt_of_cell? w1 _ c1_0_0; have d1_0 : ¬ (w.heap.size = w1.heap.size) := (by omega); have e1_0 : ¬ (w1.heap.size = w.heap.size) := (by omega); obtain ⟨c1_1_0, c1_1_1, c1_1_2, c1_1_3⟩ := K.c4 x1 (w.heap.size + 1) (.int .i64 G.dg) (.int .i64 G.tn) (.string G.nm) (.slice oG G.pw.length cG) (by go_simp); have z1_1 : w.heap.size + 1 < w1.heap.size := World.block_lt_of_cell? w1 _ c1_1_0; have d1_1 : ¬ (w.heap.size + 1 = w1.heap.size) := (by omega); have e1_1 : ¬ (w1.heap.size = w.heap.size + 1) := (by omega); have n1_0 : ¬ (w.heap.size + 1 = w.heap.size) := (by omega); have n0_1 : ¬ (w.heap.size = w.heap.size + 1) := (by omega); obtain ⟨c1_2_0, c1_2_1, c1_2_2, c1_2_3⟩ := K.c4 x1 (w.heap.size + 1 + 1) (.int .i64 0) (.int .i64 0) (.string ⟨#[]⟩) (.slice none 0 0) (by go_simp); obtain ⟨f1_2_0, f1_2_1, f1_2_2, f1_2_3⟩ := K.f4 x1 (w.heap.size + 1 + 1) (by go_simp); have z1_2 : w.heap.size + 1 + 1 < w1.heap.size := World.block_lt_of_cell? w1 _ c1_2_0; have d1_2 : ¬ (w.heap.size + 1 + 1 = w1.heap.size) := (by omega); have e1_2 : ¬ (w1.heap.size = w.heap.size + 1 + 1) := (by omega); have n2_0 : ¬ (w.heap.size + 1 + 1 = w.heap.size) := (by omega); have n0_2 : ¬ (w.heap.size = w.heap.size + 1 + 1) := (by omega); have n2_1 : ¬ (w.heap.size + 1 + 1 = w.heap.size + 1) := (by omega); have n1_2 : ¬ (w.heap.size + 1 = w.heap.size + 1 + 1) := (by omega); have F1_1 := K.ints.ext (show K.ints _ (loF) (hiF) (.slice oF F.pw.length cF) (F.pw) from by repeat' (first | with_reducible exact hF_ | with_reducible refine K.ints.set ?_ _ ?_ _ | with_reducible refine K.ints.alloc ?_ _ | with_reducible refine K.ints.drew ?_ | (dsimp only; omega) | omega | (simp; done) | (simp; omega))) x1; have F2_1 := K.ints.ext (show K.ints _ (loG) (hiG) (.slice oG G.pw.length cG) (G.pw) from by repeat' (first | with_reducible exact hG_ | with_reducible refine K.ints.set ?_ _ ?_ _ | with_reducible refine K.ints.alloc ?_ _ | with_reducible refine K.ints.drew ?_ | (dsimp only; omega) | omega | (simp; done) | (simp; omega))) x1; clear hF_ hG_)
          go_wp2_with (go_at_call 91; refine K.call (by with_reducible rfl) (by with_reducible rfl) (spec_IsFormula G _ hmG hnG (F2_1)) ?_; rintro e w2 ⟨rfl, x2⟩; have s2 : w1.heap.size ≤ w2.heap.size := (by have h_ := x2.size; (try simp at h_); omega); have X2 := K.Ext.trans (X1) x2; obtain ⟨c2_0_0, c2_0_1, c2_0_2, c2_0_3⟩ := K.c4 x2 (w.heap.size) (.int .i64 F.dg) (.int .i64 F.tn) (.string F.nm) (.slice oF F.pw.length cF) (by go_simp); have z2_0 : w.heap.size < w2.heap.size := World.block_lt_of_cell? w2 _ c2_0_0; have d2_0 : ¬ (w.heap.size = w2.heap.size) := (by omega); have e2_0 : ¬ (w2.heap.size = w.heap.size) := (by omega); obtain ⟨c2_1_0, c2_1_1, c2_1_2, c2_1_3⟩ := K.c4 x2 (w.heap.size + 1) (.int .i64 G.dg) (.int .i64 G.tn) (.string G.nm) (.slice oG G.pw.length cG) (by go_simp); have z2_1 : w.heap.size + 1 < w2.heap.size := World.block_lt_of_cell? w2 _ c2_1_0; have d2_1 : ¬ (w.heap.size + 1 = w2.heap.size) := (by omega); have e2_1 : ¬ (w2.heap.size = w.heap.size + 1) := (by omega); obtain ⟨c2_2_0, c2_2_1, c2_2_2, c2_2_3⟩ := K.c4 x2 (w.heap.size + 1 + 1) (.int .i64 0) (.int .i64 0) (.string ⟨#[]⟩) (.slice none 0 0) (by go_simp); obtain ⟨f2_2_0, f2_2_1, f2_2_2, f2_2_3⟩ := K.f4 x2 (w.heap.size + 1 + 1) (by go_simp); have z2_2 : w.heap.size + 1 + 1 < w2.heap.size := World.block_lt_of_cell? w2 _ c2_2_0; have d2_2 : ¬ (w.heap.size + 1 + 1 = w2.heap.size) := (by omega); have e2_2 : ¬ (w2.heap.size = w.heap.size + 1 + 1) := (by omega); have F1_2 := K.ints.ext (F1_1) x2; have F2_2 := K.ints.ext (F2_1) x2; clear c1_0_0 c1_0_1 c1_0_2 c1_0_3 z1_0 d1_0 e1_0 c1_1_0 c1_1_1 c1_1_2 c1_1_3 z1_1 d1_1 e1_1 c1_2_0 c1_2_1 c1_2_2 c1_2_3 f1_2_0 f1_2_1 f1_2_2 f1_2_3 z1_2 d1_2 e1_2 F1_1 F2_1)
          go_wp2_with (go_at_call 107; refine K.call (by with_reducible rfl) (by with_reducible rfl) (HX _ (F1_2)) ?_; rintro e w3 ⟨rfl, x3⟩; have s3 : w2.heap.size ≤ w3.heap.size := (by have h_ := x3.size; (try simp at h_); omega); have X3 := K.Ext.trans (X2) x3; obtain ⟨c3_0_0, c3_0_1, c3_0_2, c3_0_3⟩ := K.c4 x3 (w.heap.size) (.int .i64 F.dg) (.int .i64 F.tn) (.string F.nm) (.slice oF F.pw.length cF) (by go_simp); have z3_0 : w.heap.size < w3.heap.size := World.block_lt_of_cell? w3 _ c3_0_0; have d3_0 : ¬ (w.heap.size = w3.heap.size) := (by omega); have e3_0 : ¬ (w3.heap.size = w.heap.size) := (by omega); obtain ⟨c3_1_0, c3_1_1, c3_1_2, c3_1_3⟩ := K.c4 x3 (w.heap.size + 1) (.int .i64 G.dg) (.int .i64 G.tn) (.string G.nm) (.slice oG G.pw.length cG) (by go_simp); have z3_1 : w.heap.size + 1 < w3.heap.size := World.block_lt_of_cell? w3 _ c3_1_0; have d3_1 : ¬ (w.heap.size + 1 = w3.heap.size) := (by omega); have e3_1 : ¬ (w3.heap.size = w.heap.size + 1) := (by omega); obtain ⟨c3_2_0, c3_2_1, c3_2_2, c3_2_3⟩ := K.c4 x3 (w.heap.size + 1 + 1) (.int .i64 0) (.int .i64 0) (.string ⟨#[]⟩) (.slice none 0 0) (by go_simp); obtain ⟨f3_2_0, f3_2_1, f3_2_2, f3_2_3⟩ := K.f4 x3 (w.heap.size + 1 + 1) (by go_simp); have z3_2 : w.heap.size + 1 + 1 < w3.heap.size := World.block_lt_of_cell? w3 _ c3_2_0; have d3_2 : ¬ (w.heap.size + 1 + 1 = w3.heap.size) := (by omega); have e3_2 : ¬ (w3.heap.size = w.heap.size + 1 + 1) := (by omega); have F1_3 := K.ints.ext (F1_2) x3; have F2_3 := K.ints.ext (F2_2) x3; clear c2_0_0 c2_0_1 c2_0_2 c2_0_3 z2_0 d2_0 e2_0 c2_1_0 c2_1_1 c2_1_2 c2_1_3 z2_1 d2_1 e2_1 c2_2_0 c2_2_1 c2_2_2 c2_2_3 f2_2_0 f2_2_1 f2_2_2 f2_2_3 z2_2 d2_2 e2_2 F1_2 F2_2)
          go_wp2_with (go_at_call 31; refine K.call (by with_reducible rfl) (by with_reducible rfl) (HP _ (F2_3)) ?_; rintro e w4 ⟨⟨p4, rfl, g4⟩, x4⟩; obtain ⟨o4, k4, rfl, _⟩ := K.ints.mono g4 (Nat.le_refl _) (Nat.le_refl _); have F3_4 : K.ints w4 (w3.heap.size) (w4.heap.size) (.slice o4 P.1.pw.length k4) (P.1.pw) := g4.mono (by simp) (Nat.le_refl _); clear g4; have s4 : w3.heap.size ≤ w4.heap.size := (by have h_ := x4.size; (try simp at h_); omega); have X4 := K.Ext.trans (X3) x4; obtain ⟨c4_0_0, c4_0_1, c4_0_2, c4_0_3⟩ := K.c4 x4 (w.heap.size) (.int .i64 F.dg) (.int .i64 F.tn) (.string F.nm) (.slice oF F.pw.length cF) (by go_simp); have z4_0 : w.heap.size < w4.heap.size := World.block_lt_of_cell? w4 _ c4_0_0; have d4_0 : ¬ (w.heap.size = w4.heap.size) := (by omega); have e4_0 : ¬ (w4.heap.size = w.heap.size) := (by omega); obtain ⟨c4_1_0, c4_1_1, c4_1_2, c4_1_3⟩ := K.c4 x4 (w.heap.size + 1) (.int .i64 G.dg) (.int .i64 G.tn) (.string G.nm) (.slice oG G.pw.length cG) (by go_simp); have z4_1 : w.heap.size + 1 < w4.heap.size := World.block_lt_of_cell? w4 _ c4_1_0; have d4_1 : ¬ (w.heap.size + 1 = w4.heap.size) := (by omega); have e4_1 : ¬ (w4.heap.size = w.heap.size + 1) := (by omega); obtain ⟨c4_2_0, c4_2_1, c4_2_2, c4_2_3⟩ := K.c4 x4 (w.heap.size + 1 + 1) (.int .i64 0) (.int .i64 0) (.string ⟨#[]⟩) (.slice none 0 0) (by go_simp); obtain ⟨f4_2_0, f4_2_1, f4_2_2, f4_2_3⟩ := K.f4 x4 (w.heap.size + 1 + 1) (by go_simp); have z4_2 : w.heap.size + 1 + 1 < w4.heap.size := World.block_lt_of_cell? w4 _ c4_2_0; have d4_2 : ¬ (w.heap.size + 1 + 1 = w4.heap.size) := (by omega); have e4_2 : ¬ (w4.heap.size = w.heap.size + 1 + 1) := (by omega); have F1_4 := K.ints.ext (F1_3) x4; have F2_4 := K.ints.ext (F2_3) x4; clear c3_0_0 c3_0_1 c3_0_2 c3_0_3 z3_0 d3_0 e3_0 c3_1_0 c3_1_1 c3_1_2 c3_1_3 z3_1 d3_1 e3_1 c3_2_0 c3_2_1 c3_2_2 c3_2_3 f3_2_0 f3_2_1 f3_2_2 f3_2_3 z3_2 d3_2 e3_2 F1_3 F2_3)
          rw [HE.out]
          refine bodyPost_ret (v := .tuple #[.agg #[.int .i64 0, .int .i64 0, .string ⟨#[]⟩, .slice none 0 0], .int .i64 P.2]) (by unfold results; rw [Try.results55]; go_simp) rfl ⟨⟨_, rfl, ?_⟩, ?_⟩
          · exact K.ints_nil _ _ _
          · repeat with_reducible refine K.Ext.setCell ?_ (by dsimp only; omega) _
            exact (by repeat' (first | with_reducible exact X4 | with_reducible refine K.Ext.setCell ?_ ?_ _ | with_reducible refine K.Ext.alloc ?_ _ | with_reducible refine K.Ext.drew ?_ | (dsimp only; omega) | omega | (simp; omega)))
set_option maxHeartbeats 6400000 in
theorem impl_ReplaceName (F : Z.Fm) (c : Int) (G : Z.Fm) {loF hiF : Nat} {pF : Value} {loG hiG : Nat} {pG : Value} (w : World)  (hmF : F.pw.length ≤ 1048576) (hnF : F.nm.size ≤ 1048576) (hF : K.ints w loF hiF pF F.pw) (hbc : 0 ≤ c ∧ c ≤ 255) (hmG : G.pw.length ≤ 1048576) (hnG : G.nm.size ≤ 1048576) (hG : K.ints w loG hiG pG G.pw) :
    Calls Try.prog 54 #[.agg #[.int .i64 F.dg, .int .i64 F.tn, .string F.nm, pF], .int .u8 c, .agg #[.int .i64 G.dg, .int .i64 G.tn, .string G.nm, pG]] w fun e w' => (∃ p', e = .returned (.tuple #[.agg #[.int .i64 ((Z.ReplaceName F c G).1).dg, .int .i64 ((Z.ReplaceName F c G).1).tn, .string ((Z.ReplaceName F c G).1).nm, p'], .int .i64 ((Z.ReplaceName F c G).2)]) ∧ K.own w' w.heap.size w'.heap.size p' (Z.ReplaceName F c G).1.pw) ∧ K.Ext w w' := by
  have hF_ := hF
  have shF := hF
  obtain ⟨oF, cF, rfl, _⟩ := shF
  have hG_ := hG
  have shG := hG
  obtain ⟨oG, cG, rfl, _⟩ := shG
  cases vF : Z.isFormula F
  · have HE : Hid (Z.ReplaceName F c G = (Z.zeroFm, 1)) := Z.hide (by unfold Z.ReplaceName; rw [vF]; rfl)
    have X0 : K.Ext w w := K.Ext.refl w
    go_enter Try.func54, Try.ntmps54
    go_wp2_with (go_at_call 33; refine K.call (by with_reducible rfl) (by with_reducible rfl) (impl_IsFormula F _ hmF hnF (K.ints.alloc (K.ints.alloc (K.ints.alloc hF_ _) _) _)) ?_; rintro e w1 ⟨rfl, x1⟩; have s1 : w.heap.size + 3 ≤ w1.heap.size := (by have h_ := x1.size; (try simp at h_); omega); have X1 := K.Ext.trans (K.Ext.alloc (K.Ext.alloc (K.Ext.alloc X0 _) _) _) x1; obtain ⟨c1_0_0, c1_0_1, c1_0_2, c1_0_3⟩ := K.c4 x1 (w.heap.size) (.int .i64 F.dg) (.int .i64 F.tn) (.string F.nm) (.slice oF F.pw.length cF) (by go_simp); have z1_0 : w.heap.size < w1.heap.size := World.block_lt_of_cell? w1 _ c1_0_0; have d1_0 : ¬ (w.heap.size = w1.heap.size) := (by omega); have e1_0 : ¬ (w1.heap.size = w.heap.size) := (by omega); obtain ⟨c1_1_0, c1_1_1, c1_1_2, c1_1_3⟩ := K.c4 x1 (w.heap.size + 1) (.int .i64 G.dg) (.int .i64 G.tn) (.string G.nm) (.slice oG G.pw.length cG) (by go_simp); have z1_1 : w.heap.size + 1 < w1.heap.size := World.block_lt_of_cell? w1 _ c1_1_0; have d1_1 : ¬ (w.heap.size + 1 = w1.heap.size) := (by omega); have e1_1 : ¬ (w1.heap.size = w.heap.size + 1) := (by omega); have n1_0 : ¬ (w.heap.size + 1 = w.heap.size) := (by omega); have n0_1 : ¬ (w.heap.size = w.heap.size + 1) := (by omega); obtain ⟨c1_2_0, c1_2_1, c1_2_2, c1_2_3⟩ := K.c4 x1 (w.heap.size + 1 + 1) (.int .i64 0) (.int .i64 0) (.string ⟨#[]⟩) (.slice none 0 0) (by go_simp); obtain ⟨f1_2_0, f1_2_1, f1_2_2, f1_2_3⟩ := K.f4 x1 (w.heap.size + 1 + 1) (by go_simp); have z1_2 : w.heap.size + 1 + 1 < w1.heap.size := World.block_lt_of_cell? w1 _ c1_2_0; have d1_2 : ¬ (w.heap.size + 1 + 1 = w1.heap.size) := (by omega); have e1_2 : ¬ (w1.heap.size = w.heap.size + 1 + 1) := (by omega); have n2_0 : ¬ (w.heap.size + 1 + 1 = w.heap.size) := (by omega); have n0_2 : ¬ (w.heap.size = w.heap.size + 1 + 1) := (by omega); have n2_1 : ¬ (w.heap.size + 1 + 1 = w.heap.size + 1) := (by omega); have n1_2 : ¬ (w.heap.size + 1 = w.heap.size + 1 + 1) := (by omega); have F1_1 := K.ints.ext (K.ints.alloc (K.ints.alloc (K.ints.alloc hF_ _) _) _) x1; have F2_1 := K.ints.ext (K.ints.alloc (K.ints.alloc (K.ints.alloc hG_ _) _) _) x1; clear hF_ hG_)
    rw [HE.out]
    refine bodyPost_ret (v := .tuple #[.agg #[.int .i64 0, .int .i64 0, .string ⟨#[]⟩, .slice none 0 0], .int .i64 1]) (by unfold results; rw [Try.results54]; go_simp) rfl ⟨⟨_, rfl, ?_⟩, ?_⟩
    · exact K.own_nil _ _ _
    · repeat with_reducible refine K.Ext.setCell ?_ (by dsimp only; omega) _
      exact (by repeat' (first | with_reducible exact X1 | with_reducible refine K.Ext.setCell ?_ ?_ _ | with_reducible refine K.Ext.alloc ?_ _ | with_reducible refine K.Ext.drew ?_ | (dsimp only; omega) | omega | (simp; omega)))
  · cases vG : Z.isFormula G
    · have HE : Hid (Z.ReplaceName F c G = (Z.zeroFm, 1)) := Z.hide (by unfold Z.ReplaceName; rw [vF, vG]; rfl)
      have X0 : K.Ext w w := K.Ext.refl w
      go_enter Try.func54, Try.ntmps54
      go_wp2_with (go_at_call 33; refine K.call (by with_reducible rfl) (by with_reducible rfl) (impl_IsFormula F _ hmF hnF (show K.ints _ (loF) (hiF) (.slice oF F.pw.length cF) (F.pw) from by repeat' (first | with_reducible exact hF_ | with_reducible refine K.ints.set ?_ _ ?_ _ | with_reducible refine K.ints.alloc ?_ _ | with_reducible refine K.ints.drew ?_ | (dsimp only; omega) | omega | (simp; done) | (simp; omega)))) ?_; rintro e w1 ⟨rfl, x1⟩; have s1 : w.heap.size + 3 ≤ w1.heap.size := (by have h_ := x1.size; (try simp at h_); omega); have X1 : K.Ext w w1 := K.Ext.trans (by repeat' (first | with_reducible exact X0 | with_reducible refine K.Ext.setCell ?_ ?_ _ | with_reducible refine K.Ext.alloc ?_ _ | with_reducible refine K.Ext.drew ?_ | (dsimp only; omega) | omega | (simp; omega))) x1; obtain ⟨c1_0_0, c1_0_1, c1_0_2, c1_0_3⟩ := K.c4 x1 (w.heap.size) (.int .i64 F.dg) (.int .i64 F.tn) (.string F.nm) (.slice oF F.pw.length cF) (by go_simp); have z1_0 : w.heap.size < w1.heap.size := World.block_lt_of_cell? w1 _ c1_0_0; have d1_0 : ¬ (w.heap.size = w1.heap.size) := (by omega); have e1_0 : ¬ (w1.heap.size = w.heap.size) := (by omega); obtain ⟨c1_1_0, c1_1_1, c1_1_2, c1_1_3⟩ := K.c4 x1 (w.heap.size + 1) (.int .i64 G.dg) (.int .i64 G.tn) (.string G.nm) (.slice oG G.pw.length cG) (by go_simp); have z1_1 : w.heap.size + 1 < w1.heap.size := World.block_lt_of_cell? w1 _ c1_1_0; have d1_1 : ¬ (w.heap.size + 1 = w1.heap.size) := (by omega); have e1_1 : ¬ (w1.heap.size = w.heap.size + 1) := (by omega); have n1_0 : ¬ (w.heap.size + 1 = w.heap.size) := (by omega); have n0_1 : ¬ (w.heap.size = w.heap.size + 1) := (by omega); obtain ⟨c1_2_0, c1_2_1, c1_2_2, c1_2_3⟩ := K.c4 x1 (w.heap.size + 1 + 1) (.int .i64 0) (.int .i64 0) (.string ⟨#[]⟩) (.slice none 0 0) (by go_simp); obtain ⟨f1_2_0, f1_2_1, f1_2_2, f1_2_3⟩ := K.f4 x1 (w.heap.size + 1 + 1) (by go_simp); have z1_2 : w.heap.size + 1 + 1 < w1.heap.size := World.block_lt_of_cell? w1 _ c1_2_0; have d1_2 : ¬ (w.heap.size + 1 + 1 = w1.heap.size) := (by omega); have e1_2 : ¬ (w1.heap.size = w.heap.size + 1 + 1) := (by omega); have n2_0 : ¬ (w.heap.size + 1 + 1 = w.heap.size) := (by omega); have n0_2 : ¬ (w.heap.size = w.heap.size + 1 + 1) := (by omega); have n2_1 : ¬ (w.heap.size + 1 + 1 = w.heap.size + 1) := (by omega); have n1_2 : ¬ (w.heap.size + 1 = w.heap.size + 1 + 1) := (by omega); have F1_1 := K.ints.ext (show K.ints _ (loF) (hiF) (.slice oF F.pw.length cF) (F.pw) from by repeat' (first | with_reducible exact hF_ | with_reducible refine K.ints.set ?_ _ ?_ _ | with_reducible refine K.ints.alloc ?_ _ | with_reducible refine K.ints.drew ?_ | (dsimp only; omega) | omega | (simp; done) | (simp; omega))) x1; have F2_1 := K.ints.ext (show K.ints _ (loG) (hiG) (.slice oG G.pw.length cG) (G.pw) from by repeat' (first | with_reducible exact hG_ | with_reducible refine K.ints.set ?_ _ ?_ _ | with_reducible refine K.ints.alloc ?_ _ | with_reducible refine K.ints.drew ?_ | (dsimp only; omega) | omega | (simp; done) | (simp; omega))) x1; clear hF_ hG_)
      go_wp2_with (go_at_call 33; refine K.call (by with_reducible rfl) (by with_reducible rfl) (impl_IsFormula G _ hmG hnG (F2_1)) ?_; rintro e w2 ⟨rfl, x2⟩; have s2 : w1.heap.size ≤ w2.heap.size := (by have h_ := x2.size; (try simp at h_); omega); have X2 := K.Ext.trans (X1) x2; obtain ⟨c2_0_0, c2_0_1, c2_0_2, c2_0_3⟩ := K.c4 x2 (w.heap.size) (.int .i64 F.dg) (.int .i64 F.tn) (.string F.nm) (.slice oF F.pw.length cF) (by go_simp); have z2_0 : w.heap.size < w2.heap.size := World.block_lt_of_cell? w2 _ c2_0_0; have d2_0 : ¬ (w.heap.size = w2.heap.size) := (by omega); have e2_0 : ¬ (w2.heap.size = w.heap.size) := (by omega); obtain ⟨c2_1_0, c2_1_1, c2_1_2, c2_1_3⟩ := K.c4 x2 (w.heap.size + 1) (.int .i64 G.dg) (.int .i64 G.tn) (.string G.nm) (.slice oG G.pw.length cG) (by go_simp); have z2_1 : w.heap.size + 1 < w2.heap.size := World.block_lt_of_cell? w2 _ c2_1_0; have d2_1 : ¬ (w.heap.size + 1 = w2.heap.size) := (by omega); have e2_1 : ¬ (w2.heap.size = w.heap.size + 1) := (by omega); obtain ⟨c2_2_0, c2_2_1, c2_2_2, c2_2_3⟩ := K.c4 x2 (w.heap.size + 1 + 1) (.int .i64 0) (.int .i64 0) (.string ⟨#[]⟩) (.slice none 0 0) (by go_simp); obtain ⟨f2_2_0, f2_2_1, f2_2_2, f2_2_3⟩ := K.f4 x2 (w.heap.size + 1 + 1) (by go_simp); have z2_2 : w.heap.size + 1 + 1 < w2.heap.size := World.block_lt_of_cell? w2 _ c2_2_0; have d2_2 : ¬ (w.heap.size + 1 + 1 = w2.heap.size) := (by omega); have e2_2 : ¬ (w2.heap.size = w.heap.size + 1 + 1) := (by omega); have F1_2 := K.ints.ext (F1_1) x2; have F2_2 := K.ints.ext (F2_1) x2; clear c1_0_0 c1_0_1 c1_0_2 c1_0_3 z1_0 d1_0 e1_0 c1_1_0 c1_1_1 c1_1_2 c1_1_3 z1_1 d1_1 e1_1 c1_2_0 c1_2_1 c1_2_2 c1_2_3 f1_2_0 f1_2_1 f1_2_2 f1_2_3 z1_2 d1_2 e1_2 F1_1 F2_1)
      rw [HE.out]
      refine bodyPost_ret (v := .tuple #[.agg #[.int .i64 0, .int .i64 0, .string ⟨#[]⟩, .slice none 0 0], .int .i64 1]) (by unfold results; rw [Try.results54]; go_simp) rfl ⟨⟨_, rfl, ?_⟩, ?_⟩
      · exact K.own_nil _ _ _
      · repeat with_reducible refine K.Ext.setCell ?_ (by dsimp only; omega) _
        exact (by repeat' (first | with_reducible exact X2 | with_reducible refine K.Ext.setCell ?_ ?_ _ | with_reducible refine K.Ext.alloc ?_ _ | with_reducible refine K.Ext.drew ?_ | (dsimp only; omega) | omega | (simp; omega)))
    · obtain ⟨hl, h6⟩ : Hid (F.pw.length = F.nm.size) ∧ Hid (F.nm.size ≤ 6) := Z.isFormula_len vF
      have VF := Z.hide vF
      have VG := Z.hide vG
      obtain ⟨n, hx⟩ : ∃ n, n = Z.expo (Z.bs F.nm) F.pw c := ⟨_, rfl⟩
      have HX : ∀ {lo hi : Nat} {p : Value} (w' : World), K.ints w' lo hi p F.pw → Calls Try.prog 106 #[.agg #[.int .i64 F.dg, .int .i64 F.tn, .string F.nm, p], .int .u8 c] w' fun e w'' => e = .returned (.int .i64 n) ∧ K.Ext w' w'' := fun w' hh => by rw [hx]; exact exponentOf_any F c _ _ _ w' hl.out (Nat.le_trans h6.out (by decide)) hbc.1 hbc.2 hh
      by_cases hz : n = 0
      · have HE : Hid (Z.ReplaceName F c G = (Z.zeroFm, 4)) := Z.hide (by unfold Z.ReplaceName; rw [vF, vG, ← hx, if_pos hz]; rfl)
        clear hx
        have X0 : K.Ext w w := K.Ext.refl w
        go_enter Try.func54, Try.ntmps54
        go_wp2_with (go_at_call 33; refine K.call (by with_reducible rfl) (by with_reducible rfl) (impl_IsFormula F _ hmF hnF (show K.ints _ (loF) (hiF) (.slice oF F.pw.length cF) (F.pw) from by repeat' (first | with_reducible exact hF_ | with_reducible refine K.ints.set ?_ _ ?_ _ | with_reducible refine K.ints.alloc ?_ _ | with_reducible refine K.ints.drew ?_ | (dsimp only; omega) | omega | (simp; done) | (simp; omega)))) ?_; rintro e w1 ⟨rfl, x1⟩; have s1 : w.heap.size + 3 ≤ w1.heap.size := (by have h_ := x1.size; (try simp at h_); omega); have X1 : K.Ext w w1 := K.Ext.trans (by repeat' (first | with_reducible exact X0 | with_reducible refine K.Ext.setCell ?_ ?_ _ | with_reducible refine K.Ext.alloc ?_ _ | with_reducible refine K.Ext.drew ?_ | (dsimp only; omega) | omega | (simp; omega))) x1; obtain ⟨c1_0_0, c1_0_1, c1_0_2, c1_0_3⟩ := K.c4 x1 (w.heap.size) (.int .i64 F.dg) (.int .i64 F.tn) (.string F.nm) (.slice oF F.pw.length cF) (by go_simp); have z1_0 : w.heap.size < w1.heap.size := World.block_lt_of_cell? w1 _ c1_0_0; have d1_0 : ¬ (w.heap.size = w1.heap.size) := (by omega); have e1_0 : ¬ (w1.heap.size = w.heap.size) := (by omega); obtain ⟨c1_1_0, c1_1_1, c1_1_2, c1_1_3⟩ := K.c4 x1 (w.heap.size + 1) (.int .i64 G.dg) (.int .i64 G.tn) (.string G.nm) (.slice oG G.pw.length cG) (by go_simp); have z1_1 : w.heap.size + 1 < w1.heap.size := World.block_lt_of_cell? w1 _ c1_1_0; have d1_1 : ¬ (w.heap.size + 1 = w1.heap.size) := (by omega); have e1_1 : ¬ (w1.heap.size = w.heap.size + 1) := (by omega); have n1_0 : ¬ (w.heap.size + 1 = w.heap.size) := (by omega); have n0_1 : ¬ (w.heap.size = w.heap.size + 1) := (by omega); obtain ⟨c1_2_0, c1_2_1, c1_2_2, c1_2_3⟩ := K.c4 x1 (w.heap.size + 1 + 1) (.int .i64 0) (.int .i64 0) (.string ⟨#[]⟩) (.slice none 0 0) (by go_simp); obtain ⟨f1_2_0, f1_2_1, f1_2_2, f1_2_3⟩ := K.f4 x1 (w.heap.size + 1 + 1) (by go_simp); have z1_2 : w.heap.size + 1 + 1 < w1.heap.size := World.block_lt_of_cell? w1 _ c1_2_0; have d1_2 : ¬ (w.heap.size + 1 + 1 = w1.heap.size) := (by omega); have e1_2 : ¬ (w1.heap.size = w.heap.size + 1 + 1) := (by omega); have n2_0 : ¬ (w.heap.size + 1 + 1 = w.heap.size) := (by omega); have n0_2 : ¬ (w.heap.size = w.heap.size + 1 + 1) := (by omega); have n2_1 : ¬ (w.heap.size + 1 + 1 = w.heap.size + 1) := (by omega); have n1_2 : ¬ (w.heap.size + 1 = w.heap.size + 1 + 1) := (by omega); have F1_1 := K.ints.ext (show K.ints _ (loF) (hiF) (.slice oF F.pw.length cF) (F.pw) from by repeat' (first | with_reducible exact hF_ | with_reducible refine K.ints.set ?_ _ ?_ _ | with_reducible refine K.ints.alloc ?_ _ | with_reducible refine K.ints.drew ?_ | (dsimp only; omega) | omega | (simp; done) | (simp; omega))) x1; have F2_1 := K.ints.ext (show K.ints _ (loG) (hiG) (.slice oG G.pw.length cG) (G.pw) from by repeat' (first | with_reducible exact hG_ | with_reducible refine K.ints.set ?_ _ ?_ _ | with_reducible refine K.ints.alloc ?_ _ | with_reducible refine K.ints.drew ?_ | (dsimp only; omega) | omega | (simp; done) | (simp; omega))) x1; clear hF_ hG_)
        go_wp2_with (go_at_call 33; refine K.call (by with_reducible rfl) (by with_reducible rfl) (impl_IsFormula G _ hmG hnG (F2_1)) ?_; rintro e w2 ⟨rfl, x2⟩; have s2 : w1.heap.size ≤ w2.heap.size := (by have h_ := x2.size; (try simp at h_); omega); have X2 := K.Ext.trans (X1) x2; obtain ⟨c2_0_0, c2_0_1, c2_0_2, c2_0_3⟩ := K.c4 x2 (w.heap.size) (.int .i64 F.dg) (.int .i64 F.tn) (.string F.nm) (.slice oF F.pw.length cF) (by go_simp); have z2_0 : w.heap.size < w2.heap.size := World.block_lt_of_cell? w2 _ c2_0_0; have d2_0 : ¬ (w.heap.size = w2.heap.size) := (by omega); have e2_0 : ¬ (w2.heap.size = w.heap.size) := (by omega); obtain ⟨c2_1_0, c2_1_1, c2_1_2, c2_1_3⟩ := K.c4 x2 (w.heap.size + 1) (.int .i64 G.dg) (.int .i64 G.tn) (.string G.nm) (.slice oG G.pw.length cG) (by go_simp); have z2_1 : w.heap.size + 1 < w2.heap.size := World.block_lt_of_cell? w2 _ c2_1_0; have d2_1 : ¬ (w.heap.size + 1 = w2.heap.size) := (by omega); have e2_1 : ¬ (w2.heap.size = w.heap.size + 1) := (by omega); obtain ⟨c2_2_0, c2_2_1, c2_2_2, c2_2_3⟩ := K.c4 x2 (w.heap.size + 1 + 1) (.int .i64 0) (.int .i64 0) (.string ⟨#[]⟩) (.slice none 0 0) (by go_simp); obtain ⟨f2_2_0, f2_2_1, f2_2_2, f2_2_3⟩ := K.f4 x2 (w.heap.size + 1 + 1) (by go_simp); have z2_2 : w.heap.size + 1 + 1 < w2.heap.size := World.block_lt_of_cell? w2 _ c2_2_0; have d2_2 : ¬ (w.heap.size + 1 + 1 = w2.heap.size) := (by omega); have e2_2 : ¬ (w2.heap.size = w.heap.size + 1 + 1) := (by omega); have F1_2 := K.ints.ext (F1_1) x2; have F2_2 := K.ints.ext (F2_1) x2; clear c1_0_0 c1_0_1 c1_0_2 c1_0_3 z1_0 d1_0 e1_0 c1_1_0 c1_1_1 c1_1_2 c1_1_3 z1_1 d1_1 e1_1 c1_2_0 c1_2_1 c1_2_2 c1_2_3 f1_2_0 f1_2_1 f1_2_2 f1_2_3 z1_2 d1_2 e1_2 F1_1 F2_1)
        go_wp2_with (go_at_call 106; refine K.call (by with_reducible rfl) (by with_reducible rfl) (HX _ (F1_2)) ?_; rintro e w3 ⟨rfl, x3⟩; have s3 : w2.heap.size ≤ w3.heap.size := (by have h_ := x3.size; (try simp at h_); omega); have X3 := K.Ext.trans (X2) x3; obtain ⟨c3_0_0, c3_0_1, c3_0_2, c3_0_3⟩ := K.c4 x3 (w.heap.size) (.int .i64 F.dg) (.int .i64 F.tn) (.string F.nm) (.slice oF F.pw.length cF) (by go_simp); have z3_0 : w.heap.size < w3.heap.size := World.block_lt_of_cell? w3 _ c3_0_0; have d3_0 : ¬ (w.heap.size = w3.heap.size) := (by omega); have e3_0 : ¬ (w3.heap.size = w.heap.size) := (by omega); obtain ⟨c3_1_0, c3_1_1, c3_1_2, c3_1_3⟩ := K.c4 x3 (w.heap.size + 1) (.int .i64 G.dg) (.int .i64 G.tn) (.string G.nm) (.slice oG G.pw.length cG) (by go_simp); have z3_1 : w.heap.size + 1 < w3.heap.size := World.block_lt_of_cell? w3 _ c3_1_0; have d3_1 : ¬ (w.heap.size + 1 = w3.heap.size) := (by omega); have e3_1 : ¬ (w3.heap.size = w.heap.size + 1) := (by omega); obtain ⟨c3_2_0, c3_2_1, c3_2_2, c3_2_3⟩ := K.c4 x3 (w.heap.size + 1 + 1) (.int .i64 0) (.int .i64 0) (.string ⟨#[]⟩) (.slice none 0 0) (by go_simp); obtain ⟨f3_2_0, f3_2_1, f3_2_2, f3_2_3⟩ := K.f4 x3 (w.heap.size + 1 + 1) (by go_simp); have z3_2 : w.heap.size + 1 + 1 < w3.heap.size := World.block_lt_of_cell? w3 _ c3_2_0; have d3_2 : ¬ (w.heap.size + 1 + 1 = w3.heap.size) := (by omega); have e3_2 : ¬ (w3.heap.size = w.heap.size + 1 + 1) := (by omega); have F1_3 := K.ints.ext (F1_2) x3; have F2_3 := K.ints.ext (F2_2) x3; clear c2_0_0 c2_0_1 c2_0_2 c2_0_3 z2_0 d2_0 e2_0 c2_1_0 c2_1_1 c2_1_2 c2_1_3 z2_1 d2_1 e2_1 c2_2_0 c2_2_1 c2_2_2 c2_2_3 f2_2_0 f2_2_1 f2_2_2 f2_2_3 z2_2 d2_2 e2_2 F1_2 F2_2)
        rw [HE.out]
        refine bodyPost_ret (v := .tuple #[.agg #[.int .i64 0, .int .i64 0, .string ⟨#[]⟩, .slice none 0 0], .int .i64 4]) (by unfold results; rw [Try.results54]; go_simp) rfl ⟨⟨_, rfl, ?_⟩, ?_⟩
        · exact K.own_nil _ _ _
        · repeat with_reducible refine K.Ext.setCell ?_ (by dsimp only; omega) _
          exact (by repeat' (first | with_reducible exact X3 | with_reducible refine K.Ext.setCell ?_ ?_ _ | with_reducible refine K.Ext.alloc ?_ _ | with_reducible refine K.Ext.drew ?_ | (dsimp only; omega) | omega | (simp; omega)))
      · obtain ⟨P, hP⟩ : ∃ P, P = Z.PowerFormula G n := ⟨_, rfl⟩
        have HP : ∀ {lo hi : Nat} {p : Value} (w : World), K.ints w lo hi p G.pw → Calls Try.prog 30 #[.agg #[.int .i64 G.dg, .int .i64 G.tn, .string G.nm, p], .int .i64 n] w fun e w' => (∃ p', e = .returned (.tuple #[.agg #[.int .i64 P.1.dg, .int .i64 P.1.tn, .string P.1.nm, p'], .int .i64 P.2]) ∧ K.own w' w.heap.size w'.heap.size p' P.1.pw) ∧ K.Ext w w' := fun w h => by rw [hP]; exact impl_PowerFormula G n w hmG hnG h
        by_cases hc : P.2 = 0
        · obtain ⟨W, hW⟩ : ∃ W, W = Z.without F c := ⟨_, rfl⟩
          obtain ⟨M, hM⟩ : ∃ M, M = Z.multiplied W P.1 := ⟨_, rfl⟩
          have HE : Hid (Z.ReplaceName F c G = M) := Z.hide (by unfold Z.ReplaceName; rw [vF, vG, ← hx]; simp only [Bool.and_self, if_true]; rw [if_neg hz, ← hP, if_pos hc, hM, hW])
          have H1 : ∀ {lo hi : Nat} {p : Value} (w' : World), K.ints w' lo hi p F.pw → Calls Try.prog 130 #[.agg #[.int .i64 F.dg, .int .i64 F.tn, .string F.nm, p], .int .u8 c] w' fun e w'' => (∃ p', e = .returned (.agg #[.int .i64 W.dg, .int .i64 W.tn, .string W.nm, p']) ∧ K.own w'' w'.heap.size w''.heap.size p' W.pw) ∧ K.Ext w' w'' := fun w' hh => by rw [hW]; exact without_any F c w' VF.out hh
          have vW : Z.isFormula W = true := by rw [hW]; exact Z.without_ok vF c
          have vP : Z.isFormula P.1 = true := by rw [hP]; exact Z.PowerFormula_ok vG (by rw [← hP]; exact hc)
          have leW : W.pw.length ≤ 1048576 ∧ W.nm.size ≤ 1048576 := by rw [hW]; exact Z.made_le _ _ _ 
          have leP : P.1.pw.length ≤ 1048576 ∧ P.1.nm.size ≤ 1048576 := by rw [hP]; exact Z.PowerFormula_le _ _
          have H2 : ∀ {lo hi lo' hi' : Nat} {p q : Value} (w : World), K.ints w lo hi p W.pw → K.ints w lo' hi' q P.1.pw → Calls Try.prog 100 #[.agg #[.int .i64 W.dg, .int .i64 W.tn, .string W.nm, p], .agg #[.int .i64 P.1.dg, .int .i64 P.1.tn, .string P.1.nm, q]] w fun e w' => (∃ p', e = .returned (.tuple #[.agg #[.int .i64 M.1.dg, .int .i64 M.1.tn, .string M.1.nm, p'], .int .i64 M.2]) ∧ K.own w' w.heap.size w'.heap.size p' M.1.pw) ∧ K.Ext w w' := fun w h h' => by rw [hM]; exact multiplied_any W P.1 w vW vP h h'
          clear hx hP hW hM vW vP leW leP
          have X0 : K.Ext w w := K.Ext.refl w
          go_enter Try.func54, Try.ntmps54
          go_wp2_with (go_at_call 33; refine K.call (by with_reducible rfl) (by with_reducible rfl) (impl_IsFormula F _ hmF hnF (show K.ints _ (loF) (hiF) (.slice oF F.pw.length cF) (F.pw) from by repeat' (first | with_reducible exact hF_ | with_reducible refine K.ints.set ?_ _ ?_ _ | with_reducible refine K.ints.alloc ?_ _ | with_reducible refine K.ints.drew ?_ | (dsimp only; omega) | omega | (simp; done) | (simp; omega)))) ?_; rintro e w1 ⟨rfl, x1⟩; have s1 : w.heap.size + 3 ≤ w1.heap.size := (by have h_ := x1.size; (try simp at h_); omega); have X1 : K.Ext w w1 := K.Ext.trans (by repeat' (first | with_reducible exact X0 | with_reducible refine K.Ext.setCell ?_ ?_ _ | with_reducible refine K.Ext.alloc ?_ _ | with_reducible refine K.Ext.drew ?_ | (dsimp only; omega) | omega | (simp; omega))) x1; obtain ⟨c1_0_0, c1_0_1, c1_0_2, c1_0_3⟩ := K.c4 x1 (w.heap.size) (.int .i64 F.dg) (.int .i64 F.tn) (.string F.nm) (.slice oF F.pw.length cF) (by go_simp); have z1_0 : w.heap.size < w1.heap.size := World.block_lt_of_cell? w1 _ c1_0_0; have d1_0 : ¬ (w.heap.size = w1.heap.size) := (by omega); have e1_0 : ¬ (w1.heap.size = w.heap.size) := (by omega); obtain ⟨c1_1_0, c1_1_1, c1_1_2, c1_1_3⟩ := K.c4 x1 (w.heap.size + 1) (.int .i64 G.dg) (.int .i64 G.tn) (.string G.nm) (.slice oG G.pw.length cG) (by go_simp); have z1_1 : w.heap.size + 1 < w1.heap.size := World.block_lt_of_cell? w1 _ c1_1_0; have d1_1 : ¬ (w.heap.size + 1 = w1.heap.size) := (by omega); have e1_1 : ¬ (w1.heap.size = w.heap.size + 1) := (by omega); have n1_0 : ¬ (w.heap.size + 1 = w.heap.size) := (by omega); have n0_1 : ¬ (w.heap.size = w.heap.size + 1) := (by omega); obtain ⟨c1_2_0, c1_2_1, c1_2_2, c1_2_3⟩ := K.c4 x1 (w.heap.size + 1 + 1) (.int .i64 0) (.int .i64 0) (.string ⟨#[]⟩) (.slice none 0 0) (by go_simp); obtain ⟨f1_2_0, f1_2_1, f1_2_2, f1_2_3⟩ := K.f4 x1 (w.heap.size + 1 + 1) (by go_simp); have z1_2 : w.heap.size + 1 + 1 < w1.heap.size := World.block_lt_of_cell? w1 _ c1_2_0; have d1_2 : ¬ (w.heap.size + 1 + 1 = w1.heap.size) := (by omega); have e1_2 : ¬ (w1.heap.size = w.heap.size + 1 + 1) := (by omega); have n2_0 : ¬ (w.heap.size + 1 + 1 = w.heap.size) := (by omega); have n0_2 : ¬ (w.heap.size = w.heap.size + 1 + 1) := (by omega); have n2_1 : ¬ (w.heap.size + 1 + 1 = w.heap.size + 1) := (by omega); have n1_2 : ¬ (w.heap.size + 1 = w.heap.size + 1 + 1) := (by omega); have F1_1 := K.ints.ext (show K.ints _ (loF) (hiF) (.slice oF F.pw.length cF) (F.pw) from by repeat' (first | with_reducible exact hF_ | with_reducible refine K.ints.set ?_ _ ?_ _ | with_reducible refine K.ints.alloc ?_ _ | with_reducible refine K.ints.drew ?_ | (dsimp only; omega) | omega | (simp; done) | (simp; omega))) x1; have F2_1 := K.ints.ext (show K.ints _ (loG) (hiG) (.slice oG G.pw.length cG) (G.pw) from by repeat' (first | with_reducible exact hG_ | with_reducible refine K.ints.set ?_ _ ?_ _ | with_reducible refine K.ints.alloc ?_ _ | with_reducible refine K.ints.drew ?_ | (dsimp only; omega) | omega | (simp; done) | (simp; omega))) x1; clear hF_ hG_)
          go_wp2_with (go_at_call 33; refine K.call (by with_reducible rfl) (by with_reducible rfl) (impl_IsFormula G _ hmG hnG (F2_1)) ?_; rintro e w2 ⟨rfl, x2⟩; have s2 : w1.heap.size ≤ w2.heap.size := (by have h_ := x2.size; (try simp at h_); omega); have X2 := K.Ext.trans (X1) x2; obtain ⟨c2_0_0, c2_0_1, c2_0_2, c2_0_3⟩ := K.c4 x2 (w.heap.size) (.int .i64 F.dg) (.int .i64 F.tn) (.string F.nm) (.slice oF F.pw.length cF) (by go_simp); have z2_0 : w.heap.size < w2.heap.size := World.block_lt_of_cell? w2 _ c2_0_0; have d2_0 : ¬ (w.heap.size = w2.heap.size) := (by omega); have e2_0 : ¬ (w2.heap.size = w.heap.size) := (by omega); obtain ⟨c2_1_0, c2_1_1, c2_1_2, c2_1_3⟩ := K.c4 x2 (w.heap.size + 1) (.int .i64 G.dg) (.int .i64 G.tn) (.string G.nm) (.slice oG G.pw.length cG) (by go_simp); have z2_1 : w.heap.size + 1 < w2.heap.size := World.block_lt_of_cell? w2 _ c2_1_0; have d2_1 : ¬ (w.heap.size + 1 = w2.heap.size) := (by omega); have e2_1 : ¬ (w2.heap.size = w.heap.size + 1) := (by omega); obtain ⟨c2_2_0, c2_2_1, c2_2_2, c2_2_3⟩ := K.c4 x2 (w.heap.size + 1 + 1) (.int .i64 0) (.int .i64 0) (.string ⟨#[]⟩) (.slice none 0 0) (by go_simp); obtain ⟨f2_2_0, f2_2_1, f2_2_2, f2_2_3⟩ := K.f4 x2 (w.heap.size + 1 + 1) (by go_simp); have z2_2 : w.heap.size + 1 + 1 < w2.heap.size := World.block_lt_of_cell? w2 _ c2_2_0; have d2_2 : ¬ (w.heap.size + 1 + 1 = w2.heap.size) := (by omega); have e2_2 : ¬ (w2.heap.size = w.heap.size + 1 + 1) := (by omega); have F1_2 := K.ints.ext (F1_1) x2; have F2_2 := K.ints.ext (F2_1) x2; clear c1_0_0 c1_0_1 c1_0_2 c1_0_3 z1_0 d1_0 e1_0 c1_1_0 c1_1_1 c1_1_2 c1_1_3 z1_1 d1_1 e1_1 c1_2_0 c1_2_1 c1_2_2 c1_2_3 f1_2_0 f1_2_1 f1_2_2 f1_2_3 z1_2 d1_2 e1_2 F1_1 F2_1)
          go_wp2_with (go_at_call 106; refine K.call (by with_reducible rfl) (by with_reducible rfl) (HX _ (F1_2)) ?_; rintro e w3 ⟨rfl, x3⟩; have s3 : w2.heap.size ≤ w3.heap.size := (by have h_ := x3.size; (try simp at h_); omega); have X3 := K.Ext.trans (X2) x3; obtain ⟨c3_0_0, c3_0_1, c3_0_2, c3_0_3⟩ := K.c4 x3 (w.heap.size) (.int .i64 F.dg) (.int .i64 F.tn) (.string F.nm) (.slice oF F.pw.length cF) (by go_simp); have z3_0 : w.heap.size < w3.heap.size := World.block_lt_of_cell? w3 _ c3_0_0; have d3_0 : ¬ (w.heap.size = w3.heap.size) := (by omega); have e3_0 : ¬ (w3.heap.size = w.heap.size) := (by omega); obtain ⟨c3_1_0, c3_1_1, c3_1_2, c3_1_3⟩ := K.c4 x3 (w.heap.size + 1) (.int .i64 G.dg) (.int .i64 G.tn) (.string G.nm) (.slice oG G.pw.length cG) (by go_simp); have z3_1 : w.heap.size + 1 < w3.heap.size := World.block_lt_of_cell? w3 _ c3_1_0; have d3_1 : ¬ (w.heap.size + 1 = w3.heap.size) := (by omega); have e3_1 : ¬ (w3.heap.size = w.heap.size + 1) := (by omega); obtain ⟨c3_2_0, c3_2_1, c3_2_2, c3_2_3⟩ := K.c4 x3 (w.heap.size + 1 + 1) (.int .i64 0) (.int .i64 0) (.string ⟨#[]⟩) (.slice none 0 0) (by go_simp); obtain ⟨f3_2_0, f3_2_1, f3_2_2, f3_2_3⟩ := K.f4 x3 (w.heap.size + 1 + 1) (by go_simp); have z3_2 : w.heap.size + 1 + 1 < w3.heap.size := World.block_lt_of_cell? w3 _ c3_2_0; have d3_2 : ¬ (w.heap.size + 1 + 1 = w3.heap.size) := (by omega); have e3_2 : ¬ (w3.heap.size = w.heap.size + 1 + 1) := (by omega); have F1_3 := K.ints.ext (F1_2) x3; have F2_3 := K.ints.ext (F2_2) x3; clear c2_0_0 c2_0_1 c2_0_2 c2_0_3 z2_0 d2_0 e2_0 c2_1_0 c2_1_1 c2_1_2 c2_1_3 z2_1 d2_1 e2_1 c2_2_0 c2_2_1 c2_2_2 c2_2_3 f2_2_0 f2_2_1 f2_2_2 f2_2_3 z2_2 d2_2 e2_2 F1_2 F2_2)
          go_wp2_with (go_at_call 30; refine K.call (by with_reducible rfl) (by with_reducible rfl) (HP _ (F2_3)) ?_; rintro e w4 ⟨⟨p4, rfl, g4⟩, x4⟩; obtain ⟨o4, k4, rfl, _⟩ := K.own.ints g4; have F3_4 : K.own w4 (w3.heap.size) (w4.heap.size) (.slice o4 P.1.pw.length k4) (P.1.pw) := g4.mono (by simp) (Nat.le_refl _); clear g4; have s4 : w3.heap.size ≤ w4.heap.size := (by have h_ := x4.size; (try simp at h_); omega); have X4 := K.Ext.trans (X3) x4; obtain ⟨c4_0_0, c4_0_1, c4_0_2, c4_0_3⟩ := K.c4 x4 (w.heap.size) (.int .i64 F.dg) (.int .i64 F.tn) (.string F.nm) (.slice oF F.pw.length cF) (by go_simp); have z4_0 : w.heap.size < w4.heap.size := World.block_lt_of_cell? w4 _ c4_0_0; have d4_0 : ¬ (w.heap.size = w4.heap.size) := (by omega); have e4_0 : ¬ (w4.heap.size = w.heap.size) := (by omega); obtain ⟨c4_1_0, c4_1_1, c4_1_2, c4_1_3⟩ := K.c4 x4 (w.heap.size + 1) (.int .i64 G.dg) (.int .i64 G.tn) (.string G.nm) (.slice oG G.pw.length cG) (by go_simp); have z4_1 : w.heap.size + 1 < w4.heap.size := World.block_lt_of_cell? w4 _ c4_1_0; have d4_1 : ¬ (w.heap.size + 1 = w4.heap.size) := (by omega); have e4_1 : ¬ (w4.heap.size = w.heap.size + 1) := (by omega); obtain ⟨c4_2_0, c4_2_1, c4_2_2, c4_2_3⟩ := K.c4 x4 (w.heap.size + 1 + 1) (.int .i64 0) (.int .i64 0) (.string ⟨#[]⟩) (.slice none 0 0) (by go_simp); obtain ⟨f4_2_0, f4_2_1, f4_2_2, f4_2_3⟩ := K.f4 x4 (w.heap.size + 1 + 1) (by go_simp); have z4_2 : w.heap.size + 1 + 1 < w4.heap.size := World.block_lt_of_cell? w4 _ c4_2_0; have d4_2 : ¬ (w.heap.size + 1 + 1 = w4.heap.size) := (by omega); have e4_2 : ¬ (w4.heap.size = w.heap.size + 1 + 1) := (by omega); have F1_4 := K.ints.ext (F1_3) x4; have F2_4 := K.ints.ext (F2_3) x4; clear c3_0_0 c3_0_1 c3_0_2 c3_0_3 z3_0 d3_0 e3_0 c3_1_0 c3_1_1 c3_1_2 c3_1_3 z3_1 d3_1 e3_1 c3_2_0 c3_2_1 c3_2_2 c3_2_3 f3_2_0 f3_2_1 f3_2_2 f3_2_3 z3_2 d3_2 e3_2 F1_3 F2_3)
          go_wp2_with fail
          go_region_with (first | (go_at_call 130; refine K.call (by with_reducible rfl) (by with_reducible rfl) (H1 _ (show K.ints _ (loF) (hiF) (.slice oF F.pw.length cF) (F.pw) from by repeat' (first | with_reducible exact F1_4 | with_reducible refine K.ints.set ?_ _ ?_ _ | with_reducible refine K.ints.alloc ?_ _ | with_reducible refine K.ints.drew ?_ | (dsimp only; omega) | omega | (simp; done) | (simp; omega)))) ?_; rintro e w5 ⟨⟨p5, rfl, g5⟩, x5⟩; obtain ⟨o5, k5, rfl, _⟩ := K.own.ints g5; have F4_5 : K.own w5 (w4.heap.size + 1) (w5.heap.size) (.slice o5 W.pw.length k5) (W.pw) := g5.mono (by simp) (Nat.le_refl _); clear g5; have s5 : w4.heap.size + 1 ≤ w5.heap.size := (by have h_ := x5.size; (try simp at h_); omega); have X5 : K.Ext w w5 := K.Ext.trans (by repeat' (first | with_reducible exact X4 | with_reducible refine K.Ext.setCell ?_ ?_ _ | with_reducible refine K.Ext.alloc ?_ _ | with_reducible refine K.Ext.drew ?_ | (dsimp only; omega) | omega | (simp; omega))) x5; obtain ⟨c5_0_0, c5_0_1, c5_0_2, c5_0_3⟩ := K.c4 x5 (w.heap.size) (.int .i64 F.dg) (.int .i64 F.tn) (.string F.nm) (.slice oF F.pw.length cF) (by go_simp); have z5_0 : w.heap.size < w5.heap.size := World.block_lt_of_cell? w5 _ c5_0_0; have d5_0 : ¬ (w.heap.size = w5.heap.size) := (by omega); have e5_0 : ¬ (w5.heap.size = w.heap.size) := (by omega); obtain ⟨c5_1_0, c5_1_1, c5_1_2, c5_1_3⟩ := K.c4 x5 (w.heap.size + 1) (.int .i64 G.dg) (.int .i64 G.tn) (.string G.nm) (.slice oG G.pw.length cG) (by go_simp); have z5_1 : w.heap.size + 1 < w5.heap.size := World.block_lt_of_cell? w5 _ c5_1_0; have d5_1 : ¬ (w.heap.size + 1 = w5.heap.size) := (by omega); have e5_1 : ¬ (w5.heap.size = w.heap.size + 1) := (by omega); obtain ⟨c5_2_0, c5_2_1, c5_2_2, c5_2_3⟩ := K.c4 x5 (w.heap.size + 1 + 1) (.int .i64 0) (.int .i64 0) (.string ⟨#[]⟩) (.slice none 0 0) (by go_simp); obtain ⟨f5_2_0, f5_2_1, f5_2_2, f5_2_3⟩ := K.f4 x5 (w.heap.size + 1 + 1) (by go_simp); have z5_2 : w.heap.size + 1 + 1 < w5.heap.size := World.block_lt_of_cell? w5 _ c5_2_0; have d5_2 : ¬ (w.heap.size + 1 + 1 = w5.heap.size) := (by omega); have e5_2 : ¬ (w5.heap.size = w.heap.size + 1 + 1) := (by omega); obtain ⟨c5_3_0, c5_3_1, c5_3_2, c5_3_3⟩ := K.c4 x5 (w4.heap.size) (.int .i64 P.1.dg) (.int .i64 P.1.tn) (.string P.1.nm) (.slice o4 P.1.pw.length k4) (by go_simp); obtain ⟨f5_3_0, f5_3_1, f5_3_2, f5_3_3⟩ := K.f4 x5 (w4.heap.size) (by go_simp); have z5_3 : w4.heap.size < w5.heap.size := World.block_lt_of_cell? w5 _ c5_3_0; have d5_3 : ¬ (w4.heap.size = w5.heap.size) := (by omega); have e5_3 : ¬ (w5.heap.size = w4.heap.size) := (by omega); have n3_0 : ¬ (w4.heap.size = w.heap.size) := (by omega); have n0_3 : ¬ (w.heap.size = w4.heap.size) := (by omega); have n3_1 : ¬ (w4.heap.size = w.heap.size + 1) := (by omega); have n1_3 : ¬ (w.heap.size + 1 = w4.heap.size) := (by omega); have n3_2 : ¬ (w4.heap.size = w.heap.size + 1 + 1) := (by omega); have n2_3 : ¬ (w.heap.size + 1 + 1 = w4.heap.size) := (by omega); have F1_5 := K.ints.ext (show K.ints _ (loF) (hiF) (.slice oF F.pw.length cF) (F.pw) from by repeat' (first | with_reducible exact F1_4 | with_reducible refine K.ints.set ?_ _ ?_ _ | with_reducible refine K.ints.alloc ?_ _ | with_reducible refine K.ints.drew ?_ | (dsimp only; omega) | omega | (simp; done) | (simp; omega))) x5; have F2_5 := K.ints.ext (show K.ints _ (loG) (hiG) (.slice oG G.pw.length cG) (G.pw) from by repeat' (first | with_reducible exact F2_4 | with_reducible refine K.ints.set ?_ _ ?_ _ | with_reducible refine K.ints.alloc ?_ _ | with_reducible refine K.ints.drew ?_ | (dsimp only; omega) | omega | (simp; done) | (simp; omega))) x5; have F3_5 := K.own.ext (show K.own _ (w3.heap.size) (w4.heap.size) (.slice o4 P.1.pw.length k4) (P.1.pw) from by repeat' (first | with_reducible exact F3_4 | with_reducible refine K.own.set ?_ _ ?_ _ | with_reducible refine K.own.alloc ?_ _ | with_reducible refine K.own.drew ?_ | (dsimp only; omega) | omega | (simp; done) | (simp; omega))) x5; clear c4_0_0 c4_0_1 c4_0_2 c4_0_3 z4_0 d4_0 e4_0 c4_1_0 c4_1_1 c4_1_2 c4_1_3 z4_1 d4_1 e4_1 c4_2_0 c4_2_1 c4_2_2 c4_2_3 f4_2_0 f4_2_1 f4_2_2 f4_2_3 z4_2 d4_2 e4_2 F1_4 F2_4 F3_4) | (go_at_call 100; refine K.call (by with_reducible rfl) (by with_reducible rfl) (H2 _ (K.own.ints (show K.own _ (w4.heap.size + 1) (w5.heap.size) (.slice o5 W.pw.length k5) (W.pw) from by repeat' (first | with_reducible exact F4_5 | with_reducible refine K.own.set ?_ _ ?_ _ | with_reducible refine K.own.alloc ?_ _ | with_reducible refine K.own.drew ?_ | (dsimp only; omega) | omega | (simp; done) | (simp; omega)))) (K.own.ints (show K.own _ (w3.heap.size) (w4.heap.size) (.slice o4 P.1.pw.length k4) (P.1.pw) from by repeat' (first | with_reducible exact F3_5 | with_reducible refine K.own.set ?_ _ ?_ _ | with_reducible refine K.own.alloc ?_ _ | with_reducible refine K.own.drew ?_ | (dsimp only; omega) | omega | (simp; done) | (simp; omega))))) ?_; rintro e w6 ⟨⟨p6, rfl, g6⟩, x6⟩; obtain ⟨o6, k6, rfl, _⟩ := K.own.ints g6; have F5_6 : K.own w6 (w5.heap.size) (w6.heap.size) (.slice o6 M.1.pw.length k6) (M.1.pw) := g6.mono (by simp) (Nat.le_refl _); clear g6; have s6 : w5.heap.size ≤ w6.heap.size := (by have h_ := x6.size; (try simp at h_); omega); have X6 : K.Ext w w6 := K.Ext.trans (by repeat' (first | with_reducible exact X5 | with_reducible refine K.Ext.setCell ?_ ?_ _ | with_reducible refine K.Ext.alloc ?_ _ | with_reducible refine K.Ext.drew ?_ | (dsimp only; omega) | omega | (simp; omega))) x6; obtain ⟨c6_0_0, c6_0_1, c6_0_2, c6_0_3⟩ := K.c4 x6 (w.heap.size) (.int .i64 F.dg) (.int .i64 F.tn) (.string F.nm) (.slice oF F.pw.length cF) (by go_simp); have z6_0 : w.heap.size < w6.heap.size := World.block_lt_of_cell? w6 _ c6_0_0; have d6_0 : ¬ (w.heap.size = w6.heap.size) := (by omega); have e6_0 : ¬ (w6.heap.size = w.heap.size) := (by omega); obtain ⟨c6_1_0, c6_1_1, c6_1_2, c6_1_3⟩ := K.c4 x6 (w.heap.size + 1) (.int .i64 G.dg) (.int .i64 G.tn) (.string G.nm) (.slice oG G.pw.length cG) (by go_simp); have z6_1 : w.heap.size + 1 < w6.heap.size := World.block_lt_of_cell? w6 _ c6_1_0; have d6_1 : ¬ (w.heap.size + 1 = w6.heap.size) := (by omega); have e6_1 : ¬ (w6.heap.size = w.heap.size + 1) := (by omega); obtain ⟨c6_2_0, c6_2_1, c6_2_2, c6_2_3⟩ := K.c4 x6 (w.heap.size + 1 + 1) (.int .i64 0) (.int .i64 0) (.string ⟨#[]⟩) (.slice none 0 0) (by go_simp); obtain ⟨f6_2_0, f6_2_1, f6_2_2, f6_2_3⟩ := K.f4 x6 (w.heap.size + 1 + 1) (by go_simp); have z6_2 : w.heap.size + 1 + 1 < w6.heap.size := World.block_lt_of_cell? w6 _ c6_2_0; have d6_2 : ¬ (w.heap.size + 1 + 1 = w6.heap.size) := (by omega); have e6_2 : ¬ (w6.heap.size = w.heap.size + 1 + 1) := (by omega); obtain ⟨c6_3_0, c6_3_1, c6_3_2, c6_3_3⟩ := K.c4 x6 (w4.heap.size) (.int .i64 P.1.dg) (.int .i64 P.1.tn) (.string P.1.nm) (.slice o4 P.1.pw.length k4) (by go_simp); obtain ⟨f6_3_0, f6_3_1, f6_3_2, f6_3_3⟩ := K.f4 x6 (w4.heap.size) (by go_simp); have z6_3 : w4.heap.size < w6.heap.size := World.block_lt_of_cell? w6 _ c6_3_0; have d6_3 : ¬ (w4.heap.size = w6.heap.size) := (by omega); have e6_3 : ¬ (w6.heap.size = w4.heap.size) := (by omega); have F1_6 := K.ints.ext (show K.ints _ (loF) (hiF) (.slice oF F.pw.length cF) (F.pw) from by repeat' (first | with_reducible exact F1_5 | with_reducible refine K.ints.set ?_ _ ?_ _ | with_reducible refine K.ints.alloc ?_ _ | with_reducible refine K.ints.drew ?_ | (dsimp only; omega) | omega | (simp; done) | (simp; omega))) x6; have F2_6 := K.ints.ext (show K.ints _ (loG) (hiG) (.slice oG G.pw.length cG) (G.pw) from by repeat' (first | with_reducible exact F2_5 | with_reducible refine K.ints.set ?_ _ ?_ _ | with_reducible refine K.ints.alloc ?_ _ | with_reducible refine K.ints.drew ?_ | (dsimp only; omega) | omega | (simp; done) | (simp; omega))) x6; have F3_6 := K.own.ext (show K.own _ (w3.heap.size) (w4.heap.size) (.slice o4 P.1.pw.length k4) (P.1.pw) from by repeat' (first | with_reducible exact F3_5 | with_reducible refine K.own.set ?_ _ ?_ _ | with_reducible refine K.own.alloc ?_ _ | with_reducible refine K.own.drew ?_ | (dsimp only; omega) | omega | (simp; done) | (simp; omega))) x6; have F4_6 := K.own.ext (show K.own _ (w4.heap.size + 1) (w5.heap.size) (.slice o5 W.pw.length k5) (W.pw) from by repeat' (first | with_reducible exact F4_5 | with_reducible refine K.own.set ?_ _ ?_ _ | with_reducible refine K.own.alloc ?_ _ | with_reducible refine K.own.drew ?_ | (dsimp only; omega) | omega | (simp; done) | (simp; omega))) x6; clear c5_0_0 c5_0_1 c5_0_2 c5_0_3 z5_0 d5_0 e5_0 c5_1_0 c5_1_1 c5_1_2 c5_1_3 z5_1 d5_1 e5_1 c5_2_0 c5_2_1 c5_2_2 c5_2_3 f5_2_0 f5_2_1 f5_2_2 f5_2_3 z5_2 d5_2 e5_2 c5_3_0 c5_3_1 c5_3_2 c5_3_3 f5_3_0 f5_3_1 f5_3_2 f5_3_3 z5_3 d5_3 e5_3 F1_5 F2_5 F3_5 F4_5))
          all_goals
            go_wp2_with fail
            rw [HE.out]
            refine bodyPost_ret (v := .tuple #[.agg #[.int .i64 M.1.dg, .int .i64 M.1.tn, .string M.1.nm, .slice o6 M.1.pw.length k6], .int .i64 M.2]) (by unfold results; rw [Try.results54]; go_simp) rfl ⟨⟨_, rfl, ?_⟩, ?_⟩
            · refine K.own.mono (lo := w5.heap.size) (hi := w6.heap.size) ?_ (by first | omega | (simp; done) | (simp; omega)) (by first | omega | (simp; done) | (simp; omega))
              repeat' (first | with_reducible exact F5_6 | with_reducible refine K.own.set ?_ _ ?_ _ | with_reducible refine K.own.alloc ?_ _ | with_reducible refine K.own.drew ?_ | (dsimp only; omega) | omega | (simp; done) | (simp; omega))
            · repeat with_reducible refine K.Ext.setCell ?_ (by dsimp only; omega) _
              exact (by repeat' (first | with_reducible exact X6 | with_reducible refine K.Ext.setCell ?_ ?_ _ | with_reducible refine K.Ext.alloc ?_ _ | with_reducible refine K.Ext.drew ?_ | (dsimp only; omega) | omega | (simp; omega)))
        · have HE : Hid (Z.ReplaceName F c G = (Z.zeroFm, P.2)) := Z.hide (by unfold Z.ReplaceName; rw [vF, vG, ← hx]; simp only [Bool.and_self, if_true]; rw [if_neg hz, ← hP, if_neg hc])
          clear hx hP
          have X0 : K.Ext w w := K.Ext.refl w
          go_enter Try.func54, Try.ntmps54
          go_wp2_with (go_at_call 33; refine K.call (by with_reducible rfl) (by with_reducible rfl) (impl_IsFormula F _ hmF hnF (show K.ints _ (loF) (hiF) (.slice oF F.pw.length cF) (F.pw) from by repeat' (first | with_reducible exact hF_ | with_reducible refine K.ints.set ?_ _ ?_ _ | with_reducible refine K.ints.alloc ?_ _ | with_reducible refine K.ints.drew ?_ | (dsimp only; omega) | omega | (simp; done) | (simp; omega)))) ?_; rintro e w1 ⟨rfl, x1⟩; have s1 : w.heap.size + 3 ≤ w1.heap.size := (by have h_ := x1.size; (try simp at h_); omega); have X1 : K.Ext w w1 := K.Ext.trans (by repeat' (first | with_reducible exact X0 | with_reducible refine K.Ext.setCell ?_ ?_ _ | with_reducible refine K.Ext.alloc ?_ _ | with_reducible refine K.Ext.drew ?_ | (dsimp only; omega) | omega | (simp; omega))) x1; obtain ⟨c1_0_0, c1_0_1, c1_0_2, c1_0_3⟩ := K.c4 x1 (w.heap.size) (.int .i64 F.dg) (.int .i64 F.tn) (.string F.nm) (.slice oF F.pw.length cF) (by go_simp); have z1_0 : w.heap.size < w1.heap.size := World.block_lt_of_cell? w1 _ c1_0_0; have d1_0 : ¬ (w.heap.size = w1.heap.size) := (by omega); have e1_0 : ¬ (w1.heap.size = w.heap.size) := (by omega); obtain ⟨c1_1_0, c1_1_1, c1_1_2, c1_1_3⟩ := K.c4 x1 (w.heap.size + 1) (.int .i64 G.dg) (.int .i64 G.tn) (.string G.nm) (.slice oG G.pw.length cG) (by go_simp); have z1_1 : w.heap.size + 1 < w1.heap.size := World.block_lt_of_cell? w1 _ c1_1_0; have d1_1 : ¬ (w.heap.size + 1 = w1.heap.size) := (by omega); have e1_1 : ¬ (w1.heap.size = w.heap.size + 1) := (by omega); have n1_0 : ¬ (w.heap.size + 1 = w.heap.size) := (by omega); have n0_1 : ¬ (w.heap.size = w.heap.size + 1) := (by omega); obtain ⟨c1_2_0, c1_2_1, c1_2_2, c1_2_3⟩ := K.c4 x1 (w.heap.size + 1 + 1) (.int .i64 0) (.int .i64 0) (.string ⟨#[]⟩) (.slice none 0 0) (by go_simp); obtain ⟨f1_2_0, f1_2_1, f1_2_2, f1_2_3⟩ := K.f4 x1 (w.heap.size + 1 + 1) (by go_simp); have z1_2 : w.heap.size + 1 + 1 < w1.heap.size := World.block_lt_of_cell? w1 _ c1_2_0; have d1_2 : ¬ (w.heap.size + 1 + 1 = w1.heap.size) := (by omega); have e1_2 : ¬ (w1.heap.size = w.heap.size + 1 + 1) := (by omega); have n2_0 : ¬ (w.heap.size + 1 + 1 = w.heap.size) := (by omega); have n0_2 : ¬ (w.heap.size = w.heap.size + 1 + 1) := (by omega); have n2_1 : ¬ (w.heap.size + 1 + 1 = w.heap.size + 1) := (by omega); have n1_2 : ¬ (w.heap.size + 1 = w.heap.size + 1 + 1) := (by omega); have F1_1 := K.ints.ext (show K.ints _ (loF) (hiF) (.slice oF F.pw.length cF) (F.pw) from by repeat' (first | with_reducible exact hF_ | with_reducible refine K.ints.set ?_ _ ?_ _ | with_reducible refine K.ints.alloc ?_ _ | with_reducible refine K.ints.drew ?_ | (dsimp only; omega) | omega | (simp; done) | (simp; omega))) x1; have F2_1 := K.ints.ext (show K.ints _ (loG) (hiG) (.slice oG G.pw.length cG) (G.pw) from by repeat' (first | with_reducible exact hG_ | with_reducible refine K.ints.set ?_ _ ?_ _ | with_reducible refine K.ints.alloc ?_ _ | with_reducible refine K.ints.drew ?_ | (dsimp only; omega) | omega | (simp; done) | (simp; omega))) x1; clear hF_ hG_)
          go_wp2_with (go_at_call 33; refine K.call (by with_reducible rfl) (by with_reducible rfl) (impl_IsFormula G _ hmG hnG (F2_1)) ?_; rintro e w2 ⟨rfl, x2⟩; have s2 : w1.heap.size ≤ w2.heap.size := (by have h_ := x2.size; (try simp at h_); omega); have X2 := K.Ext.trans (X1) x2; obtain ⟨c2_0_0, c2_0_1, c2_0_2, c2_0_3⟩ := K.c4 x2 (w.heap.size) (.int .i64 F.dg) (.int .i64 F.tn) (.string F.nm) (.slice oF F.pw.length cF) (by go_simp); have z2_0 : w.heap.size < w2.heap.size := World.block_lt_of_cell? w2 _ c2_0_0; have d2_0 : ¬ (w.heap.size = w2.heap.size) := (by omega); have e2_0 : ¬ (w2.heap.size = w.heap.size) := (by omega); obtain ⟨c2_1_0, c2_1_1, c2_1_2, c2_1_3⟩ := K.c4 x2 (w.heap.size + 1) (.int .i64 G.dg) (.int .i64 G.tn) (.string G.nm) (.slice oG G.pw.length cG) (by go_simp); have z2_1 : w.heap.size + 1 < w2.heap.size := World.block_lt_of_cell? w2 _ c2_1_0; have d2_1 : ¬ (w.heap.size + 1 = w2.heap.size) := (by omega); have e2_1 : ¬ (w2.heap.size = w.heap.size + 1) := (by omega); obtain ⟨c2_2_0, c2_2_1, c2_2_2, c2_2_3⟩ := K.c4 x2 (w.heap.size + 1 + 1) (.int .i64 0) (.int .i64 0) (.string ⟨#[]⟩) (.slice none 0 0) (by go_simp); obtain ⟨f2_2_0, f2_2_1, f2_2_2, f2_2_3⟩ := K.f4 x2 (w.heap.size + 1 + 1) (by go_simp); have z2_2 : w.heap.size + 1 + 1 < w2.heap.size := World.block_lt_of_cell? w2 _ c2_2_0; have d2_2 : ¬ (w.heap.size + 1 + 1 = w2.heap.size) := (by omega); have e2_2 : ¬ (w2.heap.size = w.heap.size + 1 + 1) := (by omega); have F1_2 := K.ints.ext (F1_1) x2; have F2_2 := K.ints.ext (F2_1) x2; clear c1_0_0 c1_0_1 c1_0_2 c1_0_3 z1_0 d1_0 e1_0 c1_1_0 c1_1_1 c1_1_2 c1_1_3 z1_1 d1_1 e1_1 c1_2_0 c1_2_1 c1_2_2 c1_2_3 f1_2_0 f1_2_1 f1_2_2 f1_2_3 z1_2 d1_2 e1_2 F1_1 F2_1)
          go_wp2_with (go_at_call 106; refine K.call (by with_reducible rfl) (by with_reducible rfl) (HX _ (F1_2)) ?_; rintro e w3 ⟨rfl, x3⟩; have s3 : w2.heap.size ≤ w3.heap.size := (by have h_ := x3.size; (try simp at h_); omega); have X3 := K.Ext.trans (X2) x3; obtain ⟨c3_0_0, c3_0_1, c3_0_2, c3_0_3⟩ := K.c4 x3 (w.heap.size) (.int .i64 F.dg) (.int .i64 F.tn) (.string F.nm) (.slice oF F.pw.length cF) (by go_simp); have z3_0 : w.heap.size < w3.heap.size := World.block_lt_of_cell? w3 _ c3_0_0; have d3_0 : ¬ (w.heap.size = w3.heap.size) := (by omega); have e3_0 : ¬ (w3.heap.size = w.heap.size) := (by omega); obtain ⟨c3_1_0, c3_1_1, c3_1_2, c3_1_3⟩ := K.c4 x3 (w.heap.size + 1) (.int .i64 G.dg) (.int .i64 G.tn) (.string G.nm) (.slice oG G.pw.length cG) (by go_simp); have z3_1 : w.heap.size + 1 < w3.heap.size := World.block_lt_of_cell? w3 _ c3_1_0; have d3_1 : ¬ (w.heap.size + 1 = w3.heap.size) := (by omega); have e3_1 : ¬ (w3.heap.size = w.heap.size + 1) := (by omega); obtain ⟨c3_2_0, c3_2_1, c3_2_2, c3_2_3⟩ := K.c4 x3 (w.heap.size + 1 + 1) (.int .i64 0) (.int .i64 0) (.string ⟨#[]⟩) (.slice none 0 0) (by go_simp); obtain ⟨f3_2_0, f3_2_1, f3_2_2, f3_2_3⟩ := K.f4 x3 (w.heap.size + 1 + 1) (by go_simp); have z3_2 : w.heap.size + 1 + 1 < w3.heap.size := World.block_lt_of_cell? w3 _ c3_2_0; have d3_2 : ¬ (w.heap.size + 1 + 1 = w3.heap.size) := (by omega); have e3_2 : ¬ (w3.heap.size = w.heap.size + 1 + 1) := (by omega); have F1_3 := K.ints.ext (F1_2) x3; have F2_3 := K.ints.ext (F2_2) x3; clear c2_0_0 c2_0_1 c2_0_2 c2_0_3 z2_0 d2_0 e2_0 c2_1_0 c2_1_1 c2_1_2 c2_1_3 z2_1 d2_1 e2_1 c2_2_0 c2_2_1 c2_2_2 c2_2_3 f2_2_0 f2_2_1 f2_2_2 f2_2_3 z2_2 d2_2 e2_2 F1_2 F2_2)
          go_wp2_with (go_at_call 30; refine K.call (by with_reducible rfl) (by with_reducible rfl) (HP _ (F2_3)) ?_; rintro e w4 ⟨⟨p4, rfl, g4⟩, x4⟩; obtain ⟨o4, k4, rfl, _⟩ := K.own.ints g4; have F3_4 : K.own w4 (w3.heap.size) (w4.heap.size) (.slice o4 P.1.pw.length k4) (P.1.pw) := g4.mono (by simp) (Nat.le_refl _); clear g4; have s4 : w3.heap.size ≤ w4.heap.size := (by have h_ := x4.size; (try simp at h_); omega); have X4 := K.Ext.trans (X3) x4; obtain ⟨c4_0_0, c4_0_1, c4_0_2, c4_0_3⟩ := K.c4 x4 (w.heap.size) (.int .i64 F.dg) (.int .i64 F.tn) (.string F.nm) (.slice oF F.pw.length cF) (by go_simp); have z4_0 : w.heap.size < w4.heap.size := World.block_lt_of_cell? w4 _ c4_0_0; have d4_0 : ¬ (w.heap.size = w4.heap.size) := (by omega); have e4_0 : ¬ (w4.heap.size = w.heap.size) := (by omega); obtain ⟨c4_1_0, c4_1_1, c4_1_2, c4_1_3⟩ := K.c4 x4 (w.heap.size + 1) (.int .i64 G.dg) (.int .i64 G.tn) (.string G.nm) (.slice oG G.pw.length cG) (by go_simp); have z4_1 : w.heap.size + 1 < w4.heap.size := World.block_lt_of_cell? w4 _ c4_1_0; have d4_1 : ¬ (w.heap.size + 1 = w4.heap.size) := (by omega); have e4_1 : ¬ (w4.heap.size = w.heap.size + 1) := (by omega); obtain ⟨c4_2_0, c4_2_1, c4_2_2, c4_2_3⟩ := K.c4 x4 (w.heap.size + 1 + 1) (.int .i64 0) (.int .i64 0) (.string ⟨#[]⟩) (.slice none 0 0) (by go_simp); obtain ⟨f4_2_0, f4_2_1, f4_2_2, f4_2_3⟩ := K.f4 x4 (w.heap.size + 1 + 1) (by go_simp); have z4_2 : w.heap.size + 1 + 1 < w4.heap.size := World.block_lt_of_cell? w4 _ c4_2_0; have d4_2 : ¬ (w.heap.size + 1 + 1 = w4.heap.size) := (by omega); have e4_2 : ¬ (w4.heap.size = w.heap.size + 1 + 1) := (by omega); have F1_4 := K.ints.ext (F1_3) x4; have F2_4 := K.ints.ext (F2_3) x4; clear c3_0_0 c3_0_1 c3_0_2 c3_0_3 z3_0 d3_0 e3_0 c3_1_0 c3_1_1 c3_1_2 c3_1_3 z3_1 d3_1 e3_1 c3_2_0 c3_2_1 c3_2_2 c3_2_3 f3_2_0 f3_2_1 f3_2_2 f3_2_3 z3_2 d3_2 e3_2 F1_3 F2_3)
          rw [HE.out]
          refine bodyPost_ret (v := .tuple #[.agg #[.int .i64 0, .int .i64 0, .string ⟨#[]⟩, .slice none 0 0], .int .i64 P.2]) (by unfold results; rw [Try.results54]; go_simp) rfl ⟨⟨_, rfl, ?_⟩, ?_⟩
          · exact K.own_nil _ _ _
          · repeat with_reducible refine K.Ext.setCell ?_ (by dsimp only; omega) _
            exact (by repeat' (first | with_reducible exact X4 | with_reducible refine K.Ext.setCell ?_ ?_ _ | with_reducible refine K.Ext.alloc ?_ _ | with_reducible refine K.Ext.drew ?_ | (dsimp only; omega) | omega | (simp; omega)))
end Go.Proofs.Ythmnlbgbacbocaa
end
section
namespace Go.Z
/-- an interval of moderate size -/
def iv9 (a : Int × Int) : Prop := (-4000000000 ≤ a.1 ∧ a.1 ≤ 4000000000) ∧ (-4000000000 ≤ a.2 ∧ a.2 ≤ 4000000000) ∧ a.1 ≤ a.2
theorem span_law {F : Fm} {vs : List (Int × Int)} (h : (FormulaSpan F vs).2.2 = 0) :
    isFig (FormulaSpan F vs).1.1 (FormulaSpan F vs).1.2 = true ∧ isFig (FormulaSpan F vs).2.1.1 (FormulaSpan F vs).2.1.2 = true ∧ (figLog (FormulaSpan F vs).1).2 ≤ (lg F vs).1 ∧ (lg F vs).2 ≤ (figLog (FormulaSpan F vs).2.1).1 := by
  unfold FormulaSpan at h ⊢
  by_cases h1 : isValued F vs = true
  · rw [if_pos h1] at h ⊢
    generalize lg F vs = a at *
    unfold spanOf at h ⊢
    by_cases h2 : (units a.1 && units a.2) = true
    · rw [if_pos h2] at h ⊢
      by_cases h3 : (isFig (below a.1).1 (below a.1).2 && isFig (above a.2).1 (above a.2).2) = true
      · rw [if_pos h3] at h ⊢
        rw [Bool.and_eq_true] at h3
        dsimp only
        refine ⟨h3.1, h3.2, ?_, ?_⟩
        · have s := firstN_spec (fun n => a.1 < (figLog (atN n)).2) (-270000) 549000
          have b : -30 ≤ (below a.1).2 := by
            have := h3.1
            simp only [isFig, Bool.and_eq_true, decide_eq_true_eq] at this
            exact this.2.1
          have e : (below a.1).2 = (firstHigh a.1 - 1) / 9000 := rfl
          have lo : -270000 ≤ firstHigh a.1 - 1 := by omega
          have := s.2.2.2 (firstHigh a.1 - 1) lo (by unfold firstHigh; omega)
          unfold below
          omega
        · have s := firstN_spec (fun n => a.2 ≤ (figLog (atN n)).1) (-270000) 549000
          have b : (above a.2).2 ≤ 30 := by
            have := h3.2
            simp only [isFig, Bool.and_eq_true, decide_eq_true_eq] at this
            exact this.2.2
          have e : (above a.2).2 = firstLow a.2 / 9000 := rfl
          have hi : firstLow a.2 < 279000 := by omega
          unfold above
          rcases s.2.2.1 with h4 | h4
          · unfold firstLow at hi; omega
          · exact h4
      · rw [if_neg h3] at h; simp at h
    · rw [if_neg h2] at h; simp at h
  · rw [if_neg h1] at h; simp at h
theorem log_law {F : Fm} {vs : List (Int × Int)} (h : (FormulaLog F vs).2 = 0) :
    FormulaLog F vs = (logK (F.dg, F.tn) vs F.pw vs.length, 0) ∧ lg F vs = logK (F.dg, F.tn) vs F.pw vs.length ∧ isFig F.dg F.tn = true ∧ vs.length = F.nm.size ∧ F.pw.length = vs.length ∧ vs.length ≤ 6 ∧
    (∀ i (hi : i < vs.length), isFig (vs[i]'hi).1 (vs[i]'hi).2 = true) ∧ (∀ i, i < vs.length → -6 ≤ F.pw.getD i 0 ∧ F.pw.getD i 0 ≤ 6) := by
  have hv : isValued F vs = true := by
    unfold FormulaLog at h
    by_cases hv : isValued F vs = true
    · exact hv
    · rw [if_neg hv] at h; simp at h
  have h3 : (isFormula F = true ∧ vs.length = F.nm.size) ∧ areFigs vs = true := by simpa [isValued] using hv
  obtain ⟨⟨hF, hl⟩, hf⟩ := h3
  have hn := isFormula_len hF
  refine ⟨by unfold FormulaLog; rw [if_pos hv], rfl, ?_, hl, by omega, by omega, fun i hi => ?_, fun i hi => ?_⟩
  · unfold isFormula at hF
    simp only [Bool.and_eq_true] at hF
    exact hF.1.1.1
  · unfold areFigs at hf
    rw [List.all_eq_true] at hf
    exact hf _ (List.getElem_mem hi)
  · have := okAt_parts (valid_at hF i (by omega))
    exact ⟨this.2.2.2.2.1, this.2.2.2.2.2⟩
theorem logK_iv {f : Int × Int} {vs : List (Int × Int)} {ps : List Int} (hf : isFig f.1 f.2 = true) (hl : vs.length ≤ 6) (hv : ∀ i (hi : i < vs.length), isFig (vs[i]'hi).1 (vs[i]'hi).2 = true) (hp : ∀ i, i < vs.length → -6 ≤ ps.getD i 0 ∧ ps.getD i 0 ≤ 6) (k : Nat) (hk : k ≤ vs.length) :
    iv9 (logK f vs ps k) := by
  have b := logK_bd hf (fun i hi => by have := hv i hi; simpa [List.getD_eq_getElem?_getD, hi] using this) hp k hk
  have l := logK_le (vs := vs) (ps := ps) hf k
  exact ⟨by omega, by omega, l⟩
theorem figLog_iv {f : Int × Int} (hf : isFig f.1 f.2 = true) : iv9 (figLog f) := by
  have b := figLog_bd hf
  exact ⟨by omega, by omega, figLog_le hf⟩
theorem scale1_iv {f : Int × Int} {n : Int} (hf : isFig f.1 f.2 = true) (hn : -6 ≤ n ∧ n ≤ 6) : iv9 (scale1 (figLog f) n) := by
  obtain ⟨c, d⟩ := figLog_bd hf
  have b := scale1_bd c d hn
  refine ⟨by omega, by omega, ?_⟩
  unfold scale1
  dsimp only
  omega
theorem logK_next {f : Int × Int} {vs : List (Int × Int)} {ps : List Int} (k : Nat) (hk : k < vs.length) : logK f vs ps (k + 1) = sumI (logK f vs ps k) (scale1 (figLog (vs[k]'hk)) (ps.getD k 0)) := by
  simp only [logK]
  simp [List.getD_eq_getElem?_getD, hk]
theorem replace_ok {F G : Fm} {c : Int} (h : (ReplaceName F c G).2 = 0) : isFormula (ReplaceName F c G).1 = true := by
  unfold ReplaceName at h ⊢
  by_cases h1 : (isFormula F && isFormula G) = true
  · rw [if_pos h1] at h ⊢
    by_cases h2 : expo (bs F.nm) F.pw c = 0
    · rw [if_pos h2] at h; simp at h
    · rw [if_neg h2] at h ⊢
      by_cases h3 : (PowerFormula G (expo (bs F.nm) F.pw c)).2 = 0
      · rw [if_pos h3] at h ⊢
        exact multiplied_ok h
      · rw [if_neg h3] at h; exact absurd h h3
  · rw [if_neg h1] at h; simp at h
end Go.Z
end
section
namespace Go.Proofs.Ythmnlbgbacbocaa
open Go.RowKit
set_option maxHeartbeats 3200000 in
theorem isValue_yes (n : Int) (w : World) (h1 : -10000000000 ≤ n) (h2 : n ≤ 10000000000) :
    Calls Try.prog 184 #[.int .i64 n] w fun e w' => e = .returned (.bool true) ∧ K.Ext w w' := by
  have F0 : K.Ext w w := K.Ext.refl _
  have i1 : (-1000000000000 : Int) ≤ n := by omega
  have i2 : n ≤ 1000000000000 := by omega
  go_enter Try.func184, Try.ntmps184
  go_wp2_with fail
  go_ret
  exact ⟨rfl, F0⟩
set_option maxHeartbeats 3200000 in
theorem within_yes (n l h : Int) (w : World) (h1 : l ≤ n) (h2 : n ≤ h) :
    Calls Try.prog 95 #[.int .i64 n, .int .i64 l, .int .i64 h] w fun e w' => e = .returned (.bool true) ∧ K.Ext w w' := by
  have F0 : K.Ext w w := K.Ext.refl _
  go_enter Try.func95, Try.ntmps95
  go_wp2_with fail
  go_ret
  exact ⟨rfl, F0⟩
set_option maxHeartbeats 3200000 in
theorem IsInterval_yes (a : Int × Int) (w : World) (ha : Z.iv9 a) :
    Calls Try.prog 133 #[.agg #[.int .i64 a.1, .int .i64 a.2]] w fun e w' => e = .returned (.bool true) ∧ K.Ext w w' := by
  have F0 : K.Ext w w := K.Ext.refl _
  obtain ⟨⟨a1, a2⟩, ⟨a3, a4⟩, a5⟩ := id ha
  go_enter Try.func133, Try.ntmps133
  go_wp2_with fail
  refine K.call (by with_reducible rfl) (by with_reducible rfl) (isValue_yes a.1 _ (by omega) (by omega)) ?_
  rintro e w1 ⟨rfl, f1⟩
  have z1 := f1.size
  (try simp at z1)
  have F1 : K.Ext w w1 := K.Ext.trans (K.bex F0) f1
  have c1_0_0 : w1.cell? ⟨w.heap.size, 0, none⟩ = some (.int .i64 a.1) := f1.cell_of (by go_simp)
  have d1_0_0 : w1.frozen? ⟨w.heap.size, 0, none⟩ = false := f1.thaw_of (by go_simp) (by go_simp)
  have c1_0_1 : w1.cell? ⟨w.heap.size, 1, none⟩ = some (.int .i64 a.2) := f1.cell_of (by go_simp)
  have d1_0_1 : w1.frozen? ⟨w.heap.size, 1, none⟩ = false := f1.thaw_of (by go_simp) (by go_simp)
  have y1_0 : w.heap.size < w1.heap.size := World.block_lt_of_cell? w1 _ c1_0_0
  go_wp2_with fail
  refine K.call (by with_reducible rfl) (by with_reducible rfl) (isValue_yes a.2 _ (by omega) (by omega)) ?_
  rintro e w2 ⟨rfl, f2⟩
  have z2 := f2.size
  (try simp at z2)
  have F2 : K.Ext w w2 := K.Ext.trans (K.bex F1) f2
  obtain ⟨c2_0_0, c2_0_1, d2_0_0, d2_0_1, y2_0⟩ := f2.p2 c1_0_0 c1_0_1 d1_0_0 d1_0_1
  go_wp2_with fail
  go_ret
  exact ⟨rfl, (K.bex F2)⟩
set_option maxHeartbeats 3200000 in
theorem valued_yes (a : Int × Int) (w : World) (ha : (-10000000000 ≤ a.1 ∧ a.1 ≤ 10000000000) ∧ (-10000000000 ≤ a.2 ∧ a.2 ≤ 10000000000)) :
    Calls Try.prog 134 #[.agg #[.int .i64 a.1, .int .i64 a.2]] w fun e w' => e = .returned (.tuple #[.agg #[.int .i64 a.1, .int .i64 a.2], .int .i64 0]) ∧ K.Ext w w' := by
  have F0 : K.Ext w w := K.Ext.refl _
  obtain ⟨⟨a1, a2⟩, a3, a4⟩ := id ha
  go_enter Try.func134, Try.ntmps134
  go_wp2_with fail
  refine K.call (by with_reducible rfl) (by with_reducible rfl) (isValue_yes a.1 _ (by omega) (by omega)) ?_
  rintro e w1 ⟨rfl, f1⟩
  have z1 := f1.size
  (try simp at z1)
  have F1 : K.Ext w w1 := K.Ext.trans (K.bex F0) f1
  have c1_0_0 : w1.cell? ⟨w.heap.size, 0, none⟩ = some (.int .i64 a.1) := f1.cell_of (by go_simp)
  have d1_0_0 : w1.frozen? ⟨w.heap.size, 0, none⟩ = false := f1.thaw_of (by go_simp) (by go_simp)
  have c1_0_1 : w1.cell? ⟨w.heap.size, 1, none⟩ = some (.int .i64 a.2) := f1.cell_of (by go_simp)
  have d1_0_1 : w1.frozen? ⟨w.heap.size, 1, none⟩ = false := f1.thaw_of (by go_simp) (by go_simp)
  have y1_0 : w.heap.size < w1.heap.size := World.block_lt_of_cell? w1 _ c1_0_0
  have c1_1_0 : w1.cell? ⟨w.heap.size + 1, 0, none⟩ = some (.int .i64 0) := f1.cell_of (by go_simp)
  have d1_1_0 : w1.frozen? ⟨w.heap.size + 1, 0, none⟩ = false := f1.thaw_of (by go_simp) (by go_simp)
  have c1_1_1 : w1.cell? ⟨w.heap.size + 1, 1, none⟩ = some (.int .i64 0) := f1.cell_of (by go_simp)
  have d1_1_1 : w1.frozen? ⟨w.heap.size + 1, 1, none⟩ = false := f1.thaw_of (by go_simp) (by go_simp)
  have y1_1 : w.heap.size + 1 < w1.heap.size := World.block_lt_of_cell? w1 _ c1_1_0
  go_wp2_with fail
  refine K.call (by with_reducible rfl) (by with_reducible rfl) (isValue_yes a.2 _ (by omega) (by omega)) ?_
  rintro e w2 ⟨rfl, f2⟩
  have z2 := f2.size
  (try simp at z2)
  have F2 : K.Ext w w2 := K.Ext.trans (K.bex F1) f2
  obtain ⟨c2_0_0, c2_0_1, d2_0_0, d2_0_1, y2_0⟩ := f2.p2 c1_0_0 c1_0_1 d1_0_0 d1_0_1
  obtain ⟨c2_1_0, c2_1_1, d2_1_0, d2_1_1, y2_1⟩ := f2.p2 c1_1_0 c1_1_1 d1_1_0 d1_1_1
  go_wp2_with fail
  refine bodyPost_ret (v := .tuple #[.agg #[.int .i64 a.1, .int .i64 a.2], .int .i64 0]) (by unfold results; rw [Try.results134]; go_simp) rfl ⟨rfl, (K.bex F2)⟩
set_option maxHeartbeats 3200000 in
theorem impl_FigureLog (f : Int × Int) (w : World) (hf : Z.isFig f.1 f.2 = true) :
    Calls Try.prog 56 #[.agg #[.int .i64 f.1, .int .i64 f.2]] w fun e w' => e = .returned (.tuple #[.agg #[.int .i64 (Z.figLog f).1, .int .i64 (Z.figLog f).2], .int .i64 0]) ∧ K.Ext w w' := by
  have F0 : K.Ext w w := K.Ext.refl _
  go_enter Try.func56, Try.ntmps56
  go_wp2_with fail
  refine K.call (by with_reducible rfl) (by with_reducible rfl) (impl_IsFigure f.1 f.2 _) ?_
  rintro e w1 ⟨rfl, f1⟩
  have z1 := f1.size
  (try simp at z1)
  have F1 : K.Ext w w1 := K.Ext.trans (K.bex F0) f1
  have c1_0_0 : w1.cell? ⟨w.heap.size, 0, none⟩ = some (.int .i64 f.1) := f1.cell_of (by go_simp)
  have d1_0_0 : w1.frozen? ⟨w.heap.size, 0, none⟩ = false := f1.thaw_of (by go_simp) (by go_simp)
  have c1_0_1 : w1.cell? ⟨w.heap.size, 1, none⟩ = some (.int .i64 f.2) := f1.cell_of (by go_simp)
  have d1_0_1 : w1.frozen? ⟨w.heap.size, 1, none⟩ = false := f1.thaw_of (by go_simp) (by go_simp)
  have y1_0 : w.heap.size < w1.heap.size := World.block_lt_of_cell? w1 _ c1_0_0
  have c1_1_0 : w1.cell? ⟨w.heap.size + 1, 0, none⟩ = some (.int .i64 0) := f1.cell_of (by go_simp)
  have d1_1_0 : w1.frozen? ⟨w.heap.size + 1, 0, none⟩ = false := f1.thaw_of (by go_simp) (by go_simp)
  have c1_1_1 : w1.cell? ⟨w.heap.size + 1, 1, none⟩ = some (.int .i64 0) := f1.cell_of (by go_simp)
  have d1_1_1 : w1.frozen? ⟨w.heap.size + 1, 1, none⟩ = false := f1.thaw_of (by go_simp) (by go_simp)
  have y1_1 : w.heap.size + 1 < w1.heap.size := World.block_lt_of_cell? w1 _ c1_1_0
  go_wp2_with fail
  refine K.call (by with_reducible rfl) (by with_reducible rfl) (figureLog_any f _ hf) ?_
  rintro e w2 ⟨rfl, f2⟩
  have z2 := f2.size
  (try simp at z2)
  have F2 : K.Ext w w2 := K.Ext.trans (K.bex F1) f2
  obtain ⟨c2_0_0, c2_0_1, d2_0_0, d2_0_1, y2_0⟩ := f2.p2 c1_0_0 c1_0_1 d1_0_0 d1_0_1
  obtain ⟨c2_1_0, c2_1_1, d2_1_0, d2_1_1, y2_1⟩ := f2.p2 c1_1_0 c1_1_1 d1_1_0 d1_1_1
  go_wp2_with fail
  refine bodyPost_ret (v := .tuple #[.agg #[.int .i64 (Z.figLog f).1, .int .i64 (Z.figLog f).2], .int .i64 0]) (by unfold results; rw [Try.results56]; go_simp) rfl ⟨rfl, (K.bex F2)⟩
set_option maxHeartbeats 3200000 in
theorem impl_AddLogs (a b : Int × Int) (w : World) (ha : Z.iv9 a) (hb : Z.iv9 b) :
    Calls Try.prog 58 #[.agg #[.int .i64 a.1, .int .i64 a.2], .agg #[.int .i64 b.1, .int .i64 b.2]] w fun e w' => e = .returned (.tuple #[.agg #[.int .i64 (Z.sumI a b).1, .int .i64 (Z.sumI a b).2], .int .i64 0]) ∧ K.Ext w w' := by
  have F0 : K.Ext w w := K.Ext.refl _
  obtain ⟨⟨a1, a2⟩, ⟨a3, a4⟩, a5⟩ := id ha
  obtain ⟨⟨b1, b2⟩, ⟨b3, b4⟩, b5⟩ := id hb
  go_enter Try.func58, Try.ntmps58
  go_wp2_with fail
  refine K.call (by with_reducible rfl) (by with_reducible rfl) (IsInterval_yes a _ ha) ?_
  rintro e w1 ⟨rfl, f1⟩
  have z1 := f1.size
  (try simp at z1)
  have F1 : K.Ext w w1 := K.Ext.trans (K.bex F0) f1
  have c1_0_0 : w1.cell? ⟨w.heap.size, 0, none⟩ = some (.int .i64 a.1) := f1.cell_of (by go_simp)
  have d1_0_0 : w1.frozen? ⟨w.heap.size, 0, none⟩ = false := f1.thaw_of (by go_simp) (by go_simp)
  have c1_0_1 : w1.cell? ⟨w.heap.size, 1, none⟩ = some (.int .i64 a.2) := f1.cell_of (by go_simp)
  have d1_0_1 : w1.frozen? ⟨w.heap.size, 1, none⟩ = false := f1.thaw_of (by go_simp) (by go_simp)
  have y1_0 : w.heap.size < w1.heap.size := World.block_lt_of_cell? w1 _ c1_0_0
  have c1_1_0 : w1.cell? ⟨w.heap.size + 1, 0, none⟩ = some (.int .i64 b.1) := f1.cell_of (by go_simp)
  have d1_1_0 : w1.frozen? ⟨w.heap.size + 1, 0, none⟩ = false := f1.thaw_of (by go_simp) (by go_simp)
  have c1_1_1 : w1.cell? ⟨w.heap.size + 1, 1, none⟩ = some (.int .i64 b.2) := f1.cell_of (by go_simp)
  have d1_1_1 : w1.frozen? ⟨w.heap.size + 1, 1, none⟩ = false := f1.thaw_of (by go_simp) (by go_simp)
  have y1_1 : w.heap.size + 1 < w1.heap.size := World.block_lt_of_cell? w1 _ c1_1_0
  have c1_2_0 : w1.cell? ⟨w.heap.size + 1 + 1, 0, none⟩ = some (.int .i64 0) := f1.cell_of (by go_simp)
  have d1_2_0 : w1.frozen? ⟨w.heap.size + 1 + 1, 0, none⟩ = false := f1.thaw_of (by go_simp) (by go_simp)
  have c1_2_1 : w1.cell? ⟨w.heap.size + 1 + 1, 1, none⟩ = some (.int .i64 0) := f1.cell_of (by go_simp)
  have d1_2_1 : w1.frozen? ⟨w.heap.size + 1 + 1, 1, none⟩ = false := f1.thaw_of (by go_simp) (by go_simp)
  have y1_2 : w.heap.size + 1 + 1 < w1.heap.size := World.block_lt_of_cell? w1 _ c1_2_0
  go_wp2_with fail
  refine K.call (by with_reducible rfl) (by with_reducible rfl) (IsInterval_yes b _ hb) ?_
  rintro e w2 ⟨rfl, f2⟩
  have z2 := f2.size
  (try simp at z2)
  have F2 : K.Ext w w2 := K.Ext.trans (K.bex F1) f2
  obtain ⟨c2_0_0, c2_0_1, d2_0_0, d2_0_1, y2_0⟩ := f2.p2 c1_0_0 c1_0_1 d1_0_0 d1_0_1
  obtain ⟨c2_1_0, c2_1_1, d2_1_0, d2_1_1, y2_1⟩ := f2.p2 c1_1_0 c1_1_1 d1_1_0 d1_1_1
  obtain ⟨c2_2_0, c2_2_1, d2_2_0, d2_2_1, y2_2⟩ := f2.p2 c1_2_0 c1_2_1 d1_2_0 d1_2_1
  go_wp2_with fail
  refine K.call (by with_reducible rfl) (by with_reducible rfl) (sum_any a b _ ⟨a1, a2⟩ ⟨a3, a4⟩ ⟨b1, b2⟩ ⟨b3, b4⟩) ?_
  rintro e w3 ⟨rfl, f3⟩
  have z3 := f3.size
  (try simp at z3)
  have F3 : K.Ext w w3 := K.Ext.trans (K.bex F2) f3
  obtain ⟨c3_0_0, c3_0_1, d3_0_0, d3_0_1, y3_0⟩ := f3.p2 c2_0_0 c2_0_1 d2_0_0 d2_0_1
  obtain ⟨c3_1_0, c3_1_1, d3_1_0, d3_1_1, y3_1⟩ := f3.p2 c2_1_0 c2_1_1 d2_1_0 d2_1_1
  obtain ⟨c3_2_0, c3_2_1, d3_2_0, d3_2_1, y3_2⟩ := f3.p2 c2_2_0 c2_2_1 d2_2_0 d2_2_1
  go_wp2_with fail
  refine K.call (by with_reducible rfl) (by with_reducible rfl) (valued_yes (Z.sumI a b) _ (by unfold Z.sumI; dsimp only; omega)) ?_
  rintro e w4 ⟨rfl, f4⟩
  have z4 := f4.size
  (try simp at z4)
  have F4 : K.Ext w w4 := K.Ext.trans (K.bex F3) f4
  obtain ⟨c4_0_0, c4_0_1, d4_0_0, d4_0_1, y4_0⟩ := f4.p2 c3_0_0 c3_0_1 d3_0_0 d3_0_1
  obtain ⟨c4_1_0, c4_1_1, d4_1_0, d4_1_1, y4_1⟩ := f4.p2 c3_1_0 c3_1_1 d3_1_0 d3_1_1
  obtain ⟨c4_2_0, c4_2_1, d4_2_0, d4_2_1, y4_2⟩ := f4.p2 c3_2_0 c3_2_1 d3_2_0 d3_2_1
  go_wp2_with fail
  refine bodyPost_ret (v := .tuple #[.agg #[.int .i64 (Z.sumI a b).1, .int .i64 (Z.sumI a b).2], .int .i64 0]) (by unfold results; rw [Try.results58]; go_simp) rfl ⟨rfl, (K.bex F4)⟩
set_option maxHeartbeats 3200000 in
theorem impl_ScaleLog (f : Int × Int) (n : Int) (w : World) (hf : Z.isFig f.1 f.2 = true) (hn : -6 ≤ n ∧ n ≤ 6) :
    Calls Try.prog 57 #[.agg #[.int .i64 (Z.figLog f).1, .int .i64 (Z.figLog f).2], .int .i64 n, .int .i64 1] w fun e w' => e = .returned (.tuple #[.agg #[.int .i64 (Z.scale1 (Z.figLog f) n).1, .int .i64 (Z.scale1 (Z.figLog f) n).2], .int .i64 0]) ∧ K.Ext w w' := by
  have F0 : K.Ext w w := K.Ext.refl _
  have hi := Z.figLog_iv hf
  obtain ⟨g1, g2⟩ := Z.figLog_bd hf
  obtain ⟨k1, k2⟩ := Z.scale1_bd g1 g2 hn
  generalize Z.figLog f = a at *
  go_enter Try.func57, Try.ntmps57
  go_wp2_with fail
  refine K.call (by with_reducible rfl) (by with_reducible rfl) (IsInterval_yes a _ hi) ?_
  rintro e w1 ⟨rfl, f1⟩
  have z1 := f1.size
  (try simp at z1)
  have F1 : K.Ext w w1 := K.Ext.trans (K.bex F0) f1
  have c1_0_0 : w1.cell? ⟨w.heap.size, 0, none⟩ = some (.int .i64 a.1) := f1.cell_of (by go_simp)
  have d1_0_0 : w1.frozen? ⟨w.heap.size, 0, none⟩ = false := f1.thaw_of (by go_simp) (by go_simp)
  have c1_0_1 : w1.cell? ⟨w.heap.size, 1, none⟩ = some (.int .i64 a.2) := f1.cell_of (by go_simp)
  have d1_0_1 : w1.frozen? ⟨w.heap.size, 1, none⟩ = false := f1.thaw_of (by go_simp) (by go_simp)
  have y1_0 : w.heap.size < w1.heap.size := World.block_lt_of_cell? w1 _ c1_0_0
  have c1_1_0 : w1.cell? ⟨w.heap.size + 1, 0, none⟩ = some (.int .i64 0) := f1.cell_of (by go_simp)
  have d1_1_0 : w1.frozen? ⟨w.heap.size + 1, 0, none⟩ = false := f1.thaw_of (by go_simp) (by go_simp)
  have c1_1_1 : w1.cell? ⟨w.heap.size + 1, 1, none⟩ = some (.int .i64 0) := f1.cell_of (by go_simp)
  have d1_1_1 : w1.frozen? ⟨w.heap.size + 1, 1, none⟩ = false := f1.thaw_of (by go_simp) (by go_simp)
  have y1_1 : w.heap.size + 1 < w1.heap.size := World.block_lt_of_cell? w1 _ c1_1_0
  go_wp2_with fail
  refine K.call (by with_reducible rfl) (by with_reducible rfl) (within_yes n (-12) 12 _ (by omega) (by omega)) ?_
  rintro e w2 ⟨rfl, f2⟩
  have z2 := f2.size
  (try simp at z2)
  have F2 : K.Ext w w2 := K.Ext.trans (K.bex F1) f2
  obtain ⟨c2_0_0, c2_0_1, d2_0_0, d2_0_1, y2_0⟩ := f2.p2 c1_0_0 c1_0_1 d1_0_0 d1_0_1
  obtain ⟨c2_1_0, c2_1_1, d2_1_0, d2_1_1, y2_1⟩ := f2.p2 c1_1_0 c1_1_1 d1_1_0 d1_1_1
  go_wp2_with fail
  refine K.call (by with_reducible rfl) (by with_reducible rfl) (within_yes 1 1 12 _ (by omega) (by omega)) ?_
  rintro e w3 ⟨rfl, f3⟩
  have z3 := f3.size
  (try simp at z3)
  have F3 : K.Ext w w3 := K.Ext.trans (K.bex F2) f3
  obtain ⟨c3_0_0, c3_0_1, d3_0_0, d3_0_1, y3_0⟩ := f3.p2 c2_0_0 c2_0_1 d2_0_0 d2_0_1
  obtain ⟨c3_1_0, c3_1_1, d3_1_0, d3_1_1, y3_1⟩ := f3.p2 c2_1_0 c2_1_1 d2_1_0 d2_1_1
  go_wp2_with fail
  refine K.call (by with_reducible rfl) (by with_reducible rfl) (scaled_any a n _ g1 g2 hn) ?_
  rintro e w4 ⟨rfl, f4⟩
  have z4 := f4.size
  (try simp at z4)
  have F4 : K.Ext w w4 := K.Ext.trans (K.bex F3) f4
  obtain ⟨c4_0_0, c4_0_1, d4_0_0, d4_0_1, y4_0⟩ := f4.p2 c3_0_0 c3_0_1 d3_0_0 d3_0_1
  obtain ⟨c4_1_0, c4_1_1, d4_1_0, d4_1_1, y4_1⟩ := f4.p2 c3_1_0 c3_1_1 d3_1_0 d3_1_1
  go_wp2_with fail
  refine K.call (by with_reducible rfl) (by with_reducible rfl) (valued_yes (Z.scale1 a n) _ ⟨⟨by omega, by omega⟩, by omega, by omega⟩) ?_
  rintro e w5 ⟨rfl, f5⟩
  have z5 := f5.size
  (try simp at z5)
  have F5 : K.Ext w w5 := K.Ext.trans (K.bex F4) f5
  obtain ⟨c5_0_0, c5_0_1, d5_0_0, d5_0_1, y5_0⟩ := f5.p2 c4_0_0 c4_0_1 d4_0_0 d4_0_1
  obtain ⟨c5_1_0, c5_1_1, d5_1_0, d5_1_1, y5_1⟩ := f5.p2 c4_1_0 c4_1_1 d4_1_0 d4_1_1
  go_wp2_with fail
  refine bodyPost_ret (v := .tuple #[.agg #[.int .i64 (Z.scale1 a n).1, .int .i64 (Z.scale1 a n).2], .int .i64 0]) (by unfold results; rw [Try.results57]; go_simp) rfl ⟨rfl, (K.bex F5)⟩
end Go.Proofs.Ythmnlbgbacbocaa
end
section
namespace Go.K
theorem hv {P Q : Prop} (h : P) (k : P → Q) : Q := k h
end Go.K
namespace Go.Proofs.Ythmnlbgbacbocaa
open Go.RowKit
theorem impl_FLogN (F : Z.Fm) (vs : List (Int × Int)) {r : (Int × Int) × Int} (hr : Z.FormulaLog F vs = r) {lo hi lo' hi' : Nat} {p v : Value} (w : World) (hm : F.pw.length ≤ 1048576) (hn : F.nm.size ≤ 1048576) (h : K.ints w lo hi p F.pw) (hv : vs.length ≤ 1048576) (h' : K.recs false K.FgR w lo' hi' v vs) :
    Calls Try.prog 49 #[.agg #[.int .i64 F.dg, .int .i64 F.tn, .string F.nm, p], v] w fun e w' => e = .returned (.tuple #[.agg #[.int .i64 r.1.1, .int .i64 r.1.2], .int .i64 r.2]) ∧ K.Ext w w' := by subst hr; exact impl_FormulaLog F vs w hm hn h hv h'
theorem impl_FSpanN (F : Z.Fm) (vs : List (Int × Int)) {r : (Int × Int) × (Int × Int) × Int} (hr : Z.FormulaSpan F vs = r) {lo hi lo' hi' : Nat} {p v : Value} (w : World) (hm : F.pw.length ≤ 1048576) (hn : F.nm.size ≤ 1048576) (h : K.ints w lo hi p F.pw) (hv : vs.length ≤ 1048576) (h' : K.recs false K.FgR w lo' hi' v vs) :
    Calls Try.prog 51 #[.agg #[.int .i64 F.dg, .int .i64 F.tn, .string F.nm, p], v] w fun e w' => e = .returned (.tuple #[.agg #[.int .i64 r.1.1, .int .i64 r.1.2], .agg #[.int .i64 r.2.1.1, .int .i64 r.2.1.2], .int .i64 r.2.2]) ∧ K.Ext w w' := by subst hr; exact impl_FormulaSpan F vs w hm hn h hv h'
theorem spec_FLogN (F : Z.Fm) (vs : List (Int × Int)) {r : (Int × Int) × Int} (hr : Z.FormulaLog F vs = r) {lo hi lo' hi' : Nat} {p v : Value} (w : World) (hm : F.pw.length ≤ 1048576) (hn : F.nm.size ≤ 1048576) (h : K.ints w lo hi p F.pw) (hv : vs.length ≤ 1048576) (h' : K.recs false K.FgR w lo' hi' v vs) :
    Calls Try.prog 50 #[.agg #[.int .i64 F.dg, .int .i64 F.tn, .string F.nm, p], v] w fun e w' => e = .returned (.tuple #[.agg #[.int .i64 r.1.1, .int .i64 r.1.2], .int .i64 r.2]) ∧ K.Ext w w' := by subst hr; exact spec_FormulaLog F vs w hm hn h hv h'
theorem spec_FSpanN (F : Z.Fm) (vs : List (Int × Int)) {r : (Int × Int) × (Int × Int) × Int} (hr : Z.FormulaSpan F vs = r) {lo hi lo' hi' : Nat} {p v : Value} (w : World) (hm : F.pw.length ≤ 1048576) (hn : F.nm.size ≤ 1048576) (h : K.ints w lo hi p F.pw) (hv : vs.length ≤ 1048576) (h' : K.recs false K.FgR w lo' hi' v vs) :
    Calls Try.prog 52 #[.agg #[.int .i64 F.dg, .int .i64 F.tn, .string F.nm, p], v] w fun e w' => e = .returned (.tuple #[.agg #[.int .i64 r.1.1, .int .i64 r.1.2], .agg #[.int .i64 r.2.1.1, .int .i64 r.2.1.2], .int .i64 r.2.2]) ∧ K.Ext w w' := by subst hr; exact spec_FormulaSpan F vs w hm hn h hv h'
theorem impl_FigN (f : Int × Int) {r : Int × Int} (hr : r = Z.figLog f) (w : World) (hf : Z.isFig f.1 f.2 = true) :
    Calls Try.prog 56 #[.agg #[.int .i64 f.1, .int .i64 f.2]] w fun e w' => e = .returned (.tuple #[.agg #[.int .i64 r.1, .int .i64 r.2], .int .i64 0]) ∧ K.Ext w w' := by subst hr; exact impl_FigureLog f w hf
theorem impl_ScaN (f : Int × Int) (n : Int) {r s : Int × Int} (hr : r = Z.figLog f) (hs : s = Z.scale1 r n) (w : World) (hf : Z.isFig f.1 f.2 = true) (hn : -6 ≤ n ∧ n ≤ 6) :
    Calls Try.prog 57 #[.agg #[.int .i64 r.1, .int .i64 r.2], .int .i64 n, .int .i64 1] w fun e w' => e = .returned (.tuple #[.agg #[.int .i64 s.1, .int .i64 s.2], .int .i64 0]) ∧ K.Ext w w' := by subst hs; subst hr; exact impl_ScaleLog f n w hf hn
theorem impl_AddN (a b : Int × Int) {s : Int × Int} (hs : s = Z.sumI a b) (w : World) (ha : Z.iv9 a) (hb : Z.iv9 b) :
    Calls Try.prog 58 #[.agg #[.int .i64 a.1, .int .i64 a.2], .agg #[.int .i64 b.1, .int .i64 b.2]] w fun e w' => e = .returned (.tuple #[.agg #[.int .i64 s.1, .int .i64 s.2], .int .i64 0]) ∧ K.Ext w w' := by subst hs; exact impl_AddLogs a b w ha hb
set_option maxRecDepth 100000 in
set_option maxHeartbeats 12800000 in
theorem law_FnFormulaValues {n : Nat} {v : Value} (w : World) (h : K.byts w w.heap.size v n) :
    Calls Try.prog 6 #[v] w fun e w' => e = .returned (.bool true) ∧ K.Ext w w' := by
  have F0 : K.Ext w w := K.Ext.refl _
  rcases Nat.lt_or_ge 4096 n with hn | hn
  · go_enter Try.func6, Try.ntmps6
    go_wp2_with fail
    refine K.call (by with_reducible rfl) (by with_reducible rfl) (big_yes _ hn h) ?_
    rintro e w1 ⟨rfl, rfl⟩
    go_wp2_with fail
    go_ret
    exact ⟨rfl, F0⟩
  go_enter Try.func6, Try.ntmps6
  go_wp2_with fail
  refine K.call (by with_reducible rfl) (by with_reducible rfl) (big_no _ hn h) ?_
  rintro e w1 ⟨rfl, rfl⟩
  go_wp2_with fail
  refine K.call (by with_reducible rfl) (by with_reducible rfl) (DrawFormulaLog_any _ hn (K.Ext.size (K.bex F0)) (h.ext (K.bex F0))) ?_
  rintro e w1 ⟨⟨F, pF, vV, vs, rfl, ⟨a1, a2⟩, hF1, hvs, hV⟩, f1⟩
  obtain ⟨oF, kF, rfl, _⟩ := id (hF1)
  have IF_1 : K.ints w1 0 w1.heap.size (.slice oF F.pw.length kF) F.pw := (hF1).mono (Nat.zero_le _) (by omega)
  obtain ⟨oV, kV, rfl, _⟩ := id (hV)
  have IV_1 : K.recs false K.FgR w1 0 w1.heap.size (.slice oV vs.length kV) vs := K.recs.mono (hV) (Nat.zero_le _) (by omega)
  have F1 : K.Ext w w1 := K.Ext.trans (K.bex F0) f1
  clear f1
  obtain ⟨A, hA⟩ : ∃ A, Z.FormulaLog F vs = A := ⟨_, rfl⟩
  obtain ⟨Sp, hS⟩ : ∃ Sp, Z.FormulaSpan F vs = Sp := ⟨_, rfl⟩
  go_wp2_with fail
  refine K.call (by with_reducible rfl) (by with_reducible rfl) (impl_FLogN F vs hA _ (by omega) (by omega) (K.bin IF_1) (by omega) (K.bre IV_1)) ?_
  rintro e w2 ⟨rfl, f2⟩
  have F2 : K.Ext w w2 := K.Ext.trans (K.bex F1) f2
  have c2_0_0 : w2.cell? ⟨w1.heap.size, 0, none⟩ = some (.int .i64 F.dg) := f2.cell_of (by go_simp)
  have c2_0_1 : w2.cell? ⟨w1.heap.size, 1, none⟩ = some (.int .i64 F.tn) := f2.cell_of (by go_simp)
  have c2_0_2 : w2.cell? ⟨w1.heap.size, 2, none⟩ = some (.string F.nm) := f2.cell_of (by go_simp)
  have c2_0_3 : w2.cell? ⟨w1.heap.size, 3, none⟩ = some (.slice oF F.pw.length kF) := f2.cell_of (by go_simp)
  have y2_0 : w1.heap.size < w2.heap.size := World.block_lt_of_cell? w2 _ c2_0_0
  have IF_2 := K.ints.ext (K.bin IF_1) f2
  have IV_2 := K.recs.ext (K.bre IV_1) f2
  clear IF_1 IV_1 F1 f2
  go_wp2_with fail
  refine K.call (by with_reducible rfl) (by with_reducible rfl) (spec_FLogN F vs hA _ (by omega) (by omega) (K.bin IF_2) (by omega) (K.bre IV_2)) ?_
  rintro e w3 ⟨rfl, f3⟩
  have u3_0_1 : w1.heap.size < w2.heap.size + 1 := (by omega)
  have F3 : K.Ext w w3 := K.Ext.trans (K.bex F2) f3
  obtain ⟨c3_0_0, c3_0_1, c3_0_2, c3_0_3, y3_0⟩ := f3.q4 c2_0_0 c2_0_1 c2_0_2 c2_0_3
  have c3_1_0 : w3.cell? ⟨w2.heap.size, 0, none⟩ = some (.int .i64 A.1.1) := f3.cell_of (by go_simp)
  have c3_1_1 : w3.cell? ⟨w2.heap.size, 1, none⟩ = some (.int .i64 A.1.2) := f3.cell_of (by go_simp)
  have y3_1 : w2.heap.size < w3.heap.size := World.block_lt_of_cell? w3 _ c3_1_0
  have IF_3 := K.ints.ext (K.bin IF_2) f3
  have IV_3 := K.recs.ext (K.bre IV_2) f3
  clear c2_0_0 c2_0_1 c2_0_2 c2_0_3 y2_0 IF_2 IV_2 F2 f3 u3_0_1
  go_wp2_with fail
  refine K.call (by with_reducible rfl) (by with_reducible rfl) (impl_FSpanN F vs hS _ (by omega) (by omega) (K.bin IF_3) (by omega) (K.bre IV_3)) ?_
  rintro e w4 ⟨rfl, f4⟩
  have u4_0_1 : w1.heap.size < w3.heap.size + 1 := (by omega)
  have u4_1_1 : w2.heap.size < w3.heap.size + 1 := (by omega)
  have F4 : K.Ext w w4 := K.Ext.trans (K.bex F3) f4
  obtain ⟨c4_0_0, c4_0_1, c4_0_2, c4_0_3, y4_0⟩ := f4.q4 c3_0_0 c3_0_1 c3_0_2 c3_0_3
  obtain ⟨c4_1_0, c4_1_1, y4_1⟩ := f4.q2 c3_1_0 c3_1_1
  have c4_2_0 : w4.cell? ⟨w3.heap.size, 0, none⟩ = some (.int .i64 A.1.1) := f4.cell_of (by go_simp)
  have c4_2_1 : w4.cell? ⟨w3.heap.size, 1, none⟩ = some (.int .i64 A.1.2) := f4.cell_of (by go_simp)
  have y4_2 : w3.heap.size < w4.heap.size := World.block_lt_of_cell? w4 _ c4_2_0
  have IF_4 := K.ints.ext (K.bin IF_3) f4
  have IV_4 := K.recs.ext (K.bre IV_3) f4
  clear c3_0_0 c3_0_1 c3_0_2 c3_0_3 y3_0 c3_1_0 c3_1_1 y3_1 IF_3 IV_3 F3 f4 u4_0_1 u4_1_1
  go_wp2_with fail
  refine K.call (by with_reducible rfl) (by with_reducible rfl) (spec_FSpanN F vs hS _ (by omega) (by omega) (K.bin IF_4) (by omega) (K.bre IV_4)) ?_
  rintro e w5 ⟨rfl, f5⟩
  have u5_0_1 : w1.heap.size < w4.heap.size + 1 := (by omega)
  have u5_0_2 : w1.heap.size < w4.heap.size + 1 + 1 := (by omega)
  have u5_1_1 : w2.heap.size < w4.heap.size + 1 := (by omega)
  have u5_1_2 : w2.heap.size < w4.heap.size + 1 + 1 := (by omega)
  have u5_2_1 : w3.heap.size < w4.heap.size + 1 := (by omega)
  have u5_2_2 : w3.heap.size < w4.heap.size + 1 + 1 := (by omega)
  have F5 : K.Ext w w5 := K.Ext.trans (K.bex F4) f5
  obtain ⟨c5_0_0, c5_0_1, c5_0_2, c5_0_3, y5_0⟩ := f5.q4 c4_0_0 c4_0_1 c4_0_2 c4_0_3
  obtain ⟨c5_1_0, c5_1_1, y5_1⟩ := f5.q2 c4_1_0 c4_1_1
  obtain ⟨c5_2_0, c5_2_1, y5_2⟩ := f5.q2 c4_2_0 c4_2_1
  have c5_3_0 : w5.cell? ⟨w4.heap.size, 0, none⟩ = some (.int .i64 Sp.1.1) := f5.cell_of (by go_simp)
  have c5_3_1 : w5.cell? ⟨w4.heap.size, 1, none⟩ = some (.int .i64 Sp.1.2) := f5.cell_of (by go_simp)
  have y5_3 : w4.heap.size < w5.heap.size := World.block_lt_of_cell? w5 _ c5_3_0
  have c5_4_0 : w5.cell? ⟨w4.heap.size + 1, 0, none⟩ = some (.int .i64 Sp.2.1.1) := f5.cell_of (by go_simp)
  have c5_4_1 : w5.cell? ⟨w4.heap.size + 1, 1, none⟩ = some (.int .i64 Sp.2.1.2) := f5.cell_of (by go_simp)
  have y5_4 : w4.heap.size + 1 < w5.heap.size := World.block_lt_of_cell? w5 _ c5_4_0
  have IF_5 := K.ints.ext (K.bin IF_4) f5
  have IV_5 := K.recs.ext (K.bre IV_4) f5
  clear c4_0_0 c4_0_1 c4_0_2 c4_0_3 y4_0 c4_1_0 c4_1_1 y4_1 c4_2_0 c4_2_1 y4_2 IF_4 IV_4 F4 f5 u5_0_1 u5_0_2 u5_1_1 u5_1_2 u5_2_1 u5_2_2
  go_wp2_with fail
  refine K.call (by with_reducible rfl) (by with_reducible rfl) (DrawReplaceName_any _ hn (K.Ext.size (K.bex F5)) (h.ext (K.bex F5))) ?_
  rintro e w6 ⟨⟨X, pX, c, G, pG, rfl, ⟨b1, b2⟩, hX1, c0, c1, ⟨b3, b4⟩, hG1⟩, f6⟩
  obtain ⟨oX, kX, rfl, _⟩ := id (hX1)
  have IX_6 : K.ints w6 0 w6.heap.size (.slice oX X.pw.length kX) X.pw := (hX1).mono (Nat.zero_le _) (by omega)
  obtain ⟨oG, kG, rfl, _⟩ := id (hG1)
  have IG_6 : K.ints w6 0 w6.heap.size (.slice oG G.pw.length kG) G.pw := (hG1).mono (Nat.zero_le _) (by omega)
  have u6_0_1 : w1.heap.size < w5.heap.size + 1 := (by omega)
  have u6_0_2 : w1.heap.size < w5.heap.size + 1 + 1 := (by omega)
  have u6_1_1 : w2.heap.size < w5.heap.size + 1 := (by omega)
  have u6_1_2 : w2.heap.size < w5.heap.size + 1 + 1 := (by omega)
  have u6_2_1 : w3.heap.size < w5.heap.size + 1 := (by omega)
  have u6_2_2 : w3.heap.size < w5.heap.size + 1 + 1 := (by omega)
  have u6_3_1 : w4.heap.size < w5.heap.size + 1 := (by omega)
  have u6_3_2 : w4.heap.size < w5.heap.size + 1 + 1 := (by omega)
  have u6_4_1 : w4.heap.size + 1 < w5.heap.size + 1 := (by omega)
  have u6_4_2 : w4.heap.size + 1 < w5.heap.size + 1 + 1 := (by omega)
  have F6 : K.Ext w w6 := K.Ext.trans (K.bex F5) f6
  obtain ⟨c6_0_0, c6_0_1, c6_0_2, c6_0_3, y6_0⟩ := f6.q4 c5_0_0 c5_0_1 c5_0_2 c5_0_3
  obtain ⟨c6_1_0, c6_1_1, y6_1⟩ := f6.q2 c5_1_0 c5_1_1
  obtain ⟨c6_2_0, c6_2_1, y6_2⟩ := f6.q2 c5_2_0 c5_2_1
  obtain ⟨c6_3_0, c6_3_1, y6_3⟩ := f6.q2 c5_3_0 c5_3_1
  obtain ⟨c6_4_0, c6_4_1, y6_4⟩ := f6.q2 c5_4_0 c5_4_1
  have c6_5_0 : w6.cell? ⟨w5.heap.size, 0, none⟩ = some (.int .i64 Sp.1.1) := f6.cell_of (by go_simp)
  have c6_5_1 : w6.cell? ⟨w5.heap.size, 1, none⟩ = some (.int .i64 Sp.1.2) := f6.cell_of (by go_simp)
  have y6_5 : w5.heap.size < w6.heap.size := World.block_lt_of_cell? w6 _ c6_5_0
  have c6_6_0 : w6.cell? ⟨w5.heap.size + 1, 0, none⟩ = some (.int .i64 Sp.2.1.1) := f6.cell_of (by go_simp)
  have c6_6_1 : w6.cell? ⟨w5.heap.size + 1, 1, none⟩ = some (.int .i64 Sp.2.1.2) := f6.cell_of (by go_simp)
  have y6_6 : w5.heap.size + 1 < w6.heap.size := World.block_lt_of_cell? w6 _ c6_6_0
  have IF_6 := K.ints.ext (K.bin IF_5) f6
  have IV_6 := K.recs.ext (K.bre IV_5) f6
  clear c5_0_0 c5_0_1 c5_0_2 c5_0_3 y5_0 c5_1_0 c5_1_1 y5_1 c5_2_0 c5_2_1 y5_2 c5_3_0 c5_3_1 y5_3 c5_4_0 c5_4_1 y5_4 IF_5 IV_5 F5 f6 u6_0_1 u6_0_2 u6_1_1 u6_1_2 u6_2_1 u6_2_2 u6_3_1 u6_3_2 u6_4_1 u6_4_2
  go_wp2_with fail
  refine K.call (by with_reducible rfl) (by with_reducible rfl) (impl_ReplaceName X c G _ (by omega) (by omega) (K.bin IX_6) ⟨c0, c1⟩ (by omega) (by omega) (K.bin IG_6)) ?_
  rintro e w7 ⟨⟨pR, rfl, hR⟩, f7⟩
  have JR := K.own.ints hR
  obtain ⟨oR, kR, rfl, _⟩ := id (JR)
  have IR_7 : K.ints w7 0 w7.heap.size (.slice oR ((Z.ReplaceName X c G).1).pw.length kR) ((Z.ReplaceName X c G).1).pw := (JR).mono (Nat.zero_le _) (by omega)
  have u7_0_1 : w1.heap.size < w6.heap.size + 1 := (by omega)
  have u7_0_2 : w1.heap.size < w6.heap.size + 1 + 1 := (by omega)
  have u7_1_1 : w2.heap.size < w6.heap.size + 1 := (by omega)
  have u7_1_2 : w2.heap.size < w6.heap.size + 1 + 1 := (by omega)
  have u7_2_1 : w3.heap.size < w6.heap.size + 1 := (by omega)
  have u7_2_2 : w3.heap.size < w6.heap.size + 1 + 1 := (by omega)
  have u7_3_1 : w4.heap.size < w6.heap.size + 1 := (by omega)
  have u7_3_2 : w4.heap.size < w6.heap.size + 1 + 1 := (by omega)
  have u7_4_1 : w4.heap.size + 1 < w6.heap.size + 1 := (by omega)
  have u7_4_2 : w4.heap.size + 1 < w6.heap.size + 1 + 1 := (by omega)
  have u7_5_1 : w5.heap.size < w6.heap.size + 1 := (by omega)
  have u7_5_2 : w5.heap.size < w6.heap.size + 1 + 1 := (by omega)
  have u7_6_1 : w5.heap.size + 1 < w6.heap.size + 1 := (by omega)
  have u7_6_2 : w5.heap.size + 1 < w6.heap.size + 1 + 1 := (by omega)
  have F7 : K.Ext w w7 := K.Ext.trans (K.bex F6) f7
  obtain ⟨c7_0_0, c7_0_1, c7_0_2, c7_0_3, y7_0⟩ := f7.q4 c6_0_0 c6_0_1 c6_0_2 c6_0_3
  obtain ⟨c7_1_0, c7_1_1, y7_1⟩ := f7.q2 c6_1_0 c6_1_1
  obtain ⟨c7_2_0, c7_2_1, y7_2⟩ := f7.q2 c6_2_0 c6_2_1
  obtain ⟨c7_3_0, c7_3_1, y7_3⟩ := f7.q2 c6_3_0 c6_3_1
  obtain ⟨c7_4_0, c7_4_1, y7_4⟩ := f7.q2 c6_4_0 c6_4_1
  obtain ⟨c7_5_0, c7_5_1, y7_5⟩ := f7.q2 c6_5_0 c6_5_1
  obtain ⟨c7_6_0, c7_6_1, y7_6⟩ := f7.q2 c6_6_0 c6_6_1
  have c7_7_0 : w7.cell? ⟨w6.heap.size, 0, none⟩ = some (.int .i64 X.dg) := f7.cell_of (by go_simp)
  have c7_7_1 : w7.cell? ⟨w6.heap.size, 1, none⟩ = some (.int .i64 X.tn) := f7.cell_of (by go_simp)
  have c7_7_2 : w7.cell? ⟨w6.heap.size, 2, none⟩ = some (.string X.nm) := f7.cell_of (by go_simp)
  have c7_7_3 : w7.cell? ⟨w6.heap.size, 3, none⟩ = some (.slice oX X.pw.length kX) := f7.cell_of (by go_simp)
  have y7_7 : w6.heap.size < w7.heap.size := World.block_lt_of_cell? w7 _ c7_7_0
  have c7_8_0 : w7.cell? ⟨w6.heap.size + 1, 0, none⟩ = some (.int .i64 G.dg) := f7.cell_of (by go_simp)
  have c7_8_1 : w7.cell? ⟨w6.heap.size + 1, 1, none⟩ = some (.int .i64 G.tn) := f7.cell_of (by go_simp)
  have c7_8_2 : w7.cell? ⟨w6.heap.size + 1, 2, none⟩ = some (.string G.nm) := f7.cell_of (by go_simp)
  have c7_8_3 : w7.cell? ⟨w6.heap.size + 1, 3, none⟩ = some (.slice oG G.pw.length kG) := f7.cell_of (by go_simp)
  have y7_8 : w6.heap.size + 1 < w7.heap.size := World.block_lt_of_cell? w7 _ c7_8_0
  have IF_7 := K.ints.ext (K.bin IF_6) f7
  have IV_7 := K.recs.ext (K.bre IV_6) f7
  have IX_7 := K.ints.ext (K.bin IX_6) f7
  have IG_7 := K.ints.ext (K.bin IG_6) f7
  clear c6_0_0 c6_0_1 c6_0_2 c6_0_3 y6_0 c6_1_0 c6_1_1 y6_1 c6_2_0 c6_2_1 y6_2 c6_3_0 c6_3_1 y6_3 c6_4_0 c6_4_1 y6_4 c6_5_0 c6_5_1 y6_5 c6_6_0 c6_6_1 y6_6 IF_6 IV_6 IX_6 IG_6 F6 f7 u7_0_1 u7_0_2 u7_1_1 u7_1_2 u7_2_1 u7_2_2 u7_3_1 u7_3_2 u7_4_1 u7_4_2 u7_5_1 u7_5_2 u7_6_1 u7_6_2
  go_wp2_with fail
  refine K.call (by with_reducible rfl) (by with_reducible rfl) (spec_ReplaceName X c G _ (by omega) (by omega) (K.bin IX_7) ⟨c0, c1⟩ (by omega) (by omega) (K.bin IG_7)) ?_
  rintro e w8 ⟨⟨pQ, rfl, hQ⟩, f8⟩
  obtain ⟨oQ, kQ, rfl, _⟩ := id (hQ)
  have IQ_8 : K.ints w8 0 w8.heap.size (.slice oQ ((Z.ReplaceName X c G).1).pw.length kQ) ((Z.ReplaceName X c G).1).pw := (hQ).mono (Nat.zero_le _) (by omega)
  have u8_0_1 : w1.heap.size < w7.heap.size + 1 := (by omega)
  have u8_1_1 : w2.heap.size < w7.heap.size + 1 := (by omega)
  have u8_2_1 : w3.heap.size < w7.heap.size + 1 := (by omega)
  have u8_3_1 : w4.heap.size < w7.heap.size + 1 := (by omega)
  have u8_4_1 : w4.heap.size + 1 < w7.heap.size + 1 := (by omega)
  have u8_5_1 : w5.heap.size < w7.heap.size + 1 := (by omega)
  have u8_6_1 : w5.heap.size + 1 < w7.heap.size + 1 := (by omega)
  have u8_7_1 : w6.heap.size < w7.heap.size + 1 := (by omega)
  have u8_8_1 : w6.heap.size + 1 < w7.heap.size + 1 := (by omega)
  have F8 : K.Ext w w8 := K.Ext.trans (K.bex F7) f8
  obtain ⟨c8_0_0, c8_0_1, c8_0_2, c8_0_3, y8_0⟩ := f8.q4 c7_0_0 c7_0_1 c7_0_2 c7_0_3
  obtain ⟨c8_1_0, c8_1_1, y8_1⟩ := f8.q2 c7_1_0 c7_1_1
  obtain ⟨c8_2_0, c8_2_1, y8_2⟩ := f8.q2 c7_2_0 c7_2_1
  obtain ⟨c8_3_0, c8_3_1, y8_3⟩ := f8.q2 c7_3_0 c7_3_1
  obtain ⟨c8_4_0, c8_4_1, y8_4⟩ := f8.q2 c7_4_0 c7_4_1
  obtain ⟨c8_5_0, c8_5_1, y8_5⟩ := f8.q2 c7_5_0 c7_5_1
  obtain ⟨c8_6_0, c8_6_1, y8_6⟩ := f8.q2 c7_6_0 c7_6_1
  obtain ⟨c8_7_0, c8_7_1, c8_7_2, c8_7_3, y8_7⟩ := f8.q4 c7_7_0 c7_7_1 c7_7_2 c7_7_3
  obtain ⟨c8_8_0, c8_8_1, c8_8_2, c8_8_3, y8_8⟩ := f8.q4 c7_8_0 c7_8_1 c7_8_2 c7_8_3
  have c8_9_0 : w8.cell? ⟨w7.heap.size, 0, none⟩ = some (.int .i64 ((Z.ReplaceName X c G).1).dg) := f8.cell_of (by go_simp)
  have c8_9_1 : w8.cell? ⟨w7.heap.size, 1, none⟩ = some (.int .i64 ((Z.ReplaceName X c G).1).tn) := f8.cell_of (by go_simp)
  have c8_9_2 : w8.cell? ⟨w7.heap.size, 2, none⟩ = some (.string ((Z.ReplaceName X c G).1).nm) := f8.cell_of (by go_simp)
  have c8_9_3 : w8.cell? ⟨w7.heap.size, 3, none⟩ = some (.slice oR ((Z.ReplaceName X c G).1).pw.length kR) := f8.cell_of (by go_simp)
  have y8_9 : w7.heap.size < w8.heap.size := World.block_lt_of_cell? w8 _ c8_9_0
  have IF_8 := K.ints.ext (K.bin IF_7) f8
  have IV_8 := K.recs.ext (K.bre IV_7) f8
  have IX_8 := K.ints.ext (K.bin IX_7) f8
  have IG_8 := K.ints.ext (K.bin IG_7) f8
  have IR_8 := K.ints.ext (K.bin IR_7) f8
  clear c7_0_0 c7_0_1 c7_0_2 c7_0_3 y7_0 c7_1_0 c7_1_1 y7_1 c7_2_0 c7_2_1 y7_2 c7_3_0 c7_3_1 y7_3 c7_4_0 c7_4_1 y7_4 c7_5_0 c7_5_1 y7_5 c7_6_0 c7_6_1 y7_6 c7_7_0 c7_7_1 c7_7_2 c7_7_3 y7_7 c7_8_0 c7_8_1 c7_8_2 c7_8_3 y7_8 IF_7 IV_7 IX_7 IG_7 IR_7 F7 f8 u8_0_1 u8_1_1 u8_2_1 u8_3_1 u8_4_1 u8_5_1 u8_6_1 u8_7_1 u8_8_1
  obtain ⟨q1, q2⟩ := Z.ReplaceName_le X c G
  go_wp2_with fail
  refine K.call (by with_reducible rfl) (by with_reducible rfl) (likeFormulas_same (Z.ReplaceName X c G).1 _ _ _ _ _ _ _ q1 (K.bin IR_8) (K.bin IQ_8)) ?_
  rintro e w9 ⟨rfl, f9⟩
  have u9_0_1 : w1.heap.size < w8.heap.size + 1 := (by omega)
  have u9_1_1 : w2.heap.size < w8.heap.size + 1 := (by omega)
  have u9_2_1 : w3.heap.size < w8.heap.size + 1 := (by omega)
  have u9_3_1 : w4.heap.size < w8.heap.size + 1 := (by omega)
  have u9_4_1 : w4.heap.size + 1 < w8.heap.size + 1 := (by omega)
  have u9_5_1 : w5.heap.size < w8.heap.size + 1 := (by omega)
  have u9_6_1 : w5.heap.size + 1 < w8.heap.size + 1 := (by omega)
  have u9_9_1 : w7.heap.size < w8.heap.size + 1 := (by omega)
  have F9 : K.Ext w w9 := K.Ext.trans (K.bex F8) f9
  obtain ⟨c9_0_0, c9_0_1, c9_0_2, c9_0_3, y9_0⟩ := f9.q4 c8_0_0 c8_0_1 c8_0_2 c8_0_3
  obtain ⟨c9_1_0, c9_1_1, y9_1⟩ := f9.q2 c8_1_0 c8_1_1
  obtain ⟨c9_2_0, c9_2_1, y9_2⟩ := f9.q2 c8_2_0 c8_2_1
  obtain ⟨c9_3_0, c9_3_1, y9_3⟩ := f9.q2 c8_3_0 c8_3_1
  obtain ⟨c9_4_0, c9_4_1, y9_4⟩ := f9.q2 c8_4_0 c8_4_1
  obtain ⟨c9_5_0, c9_5_1, y9_5⟩ := f9.q2 c8_5_0 c8_5_1
  obtain ⟨c9_6_0, c9_6_1, y9_6⟩ := f9.q2 c8_6_0 c8_6_1
  obtain ⟨c9_9_0, c9_9_1, c9_9_2, c9_9_3, y9_9⟩ := f9.q4 c8_9_0 c8_9_1 c8_9_2 c8_9_3
  have c9_10_0 : w9.cell? ⟨w8.heap.size, 0, none⟩ = some (.int .i64 ((Z.ReplaceName X c G).1).dg) := f9.cell_of (by go_simp)
  have c9_10_1 : w9.cell? ⟨w8.heap.size, 1, none⟩ = some (.int .i64 ((Z.ReplaceName X c G).1).tn) := f9.cell_of (by go_simp)
  have c9_10_2 : w9.cell? ⟨w8.heap.size, 2, none⟩ = some (.string ((Z.ReplaceName X c G).1).nm) := f9.cell_of (by go_simp)
  have c9_10_3 : w9.cell? ⟨w8.heap.size, 3, none⟩ = some (.slice oQ ((Z.ReplaceName X c G).1).pw.length kQ) := f9.cell_of (by go_simp)
  have y9_10 : w8.heap.size < w9.heap.size := World.block_lt_of_cell? w9 _ c9_10_0
  have IF_9 := K.ints.ext (K.bin IF_8) f9
  have IV_9 := K.recs.ext (K.bre IV_8) f9
  have IR_9 := K.ints.ext (K.bin IR_8) f9
  have IQ_9 := K.ints.ext (K.bin IQ_8) f9
  clear c8_0_0 c8_0_1 c8_0_2 c8_0_3 y8_0 c8_1_0 c8_1_1 y8_1 c8_2_0 c8_2_1 y8_2 c8_3_0 c8_3_1 y8_3 c8_4_0 c8_4_1 y8_4 c8_5_0 c8_5_1 y8_5 c8_6_0 c8_6_1 y8_6 c8_7_0 c8_7_1 c8_7_2 c8_7_3 y8_7 c8_8_0 c8_8_1 c8_8_2 c8_8_3 y8_8 c8_9_0 c8_9_1 c8_9_2 c8_9_3 y8_9 IF_8 IV_8 IR_8 IQ_8 F8 f9 u9_0_1 u9_1_1 u9_2_1 u9_3_1 u9_4_1 u9_5_1 u9_6_1 u9_9_1
  by_cases h3 : (Z.ReplaceName X c G).2 = 0
  · as_aux_lemma =>
      have hok := Z.replace_ok h3
      go_wp2_with fail
      refine K.call (by with_reducible rfl) (by with_reducible rfl) (impl_IsFormula (Z.ReplaceName X c G).1 _ q1 q2 (K.bin IR_9)) ?_
      rintro e w10 ⟨rfl, f10⟩
      have F10 : K.Ext w w10 := K.Ext.trans (K.bex F9) f10
      obtain ⟨c10_0_0, c10_0_1, c10_0_2, c10_0_3, y10_0⟩ := f10.q4 c9_0_0 c9_0_1 c9_0_2 c9_0_3
      obtain ⟨c10_1_0, c10_1_1, y10_1⟩ := f10.q2 c9_1_0 c9_1_1
      obtain ⟨c10_3_0, c10_3_1, y10_3⟩ := f10.q2 c9_3_0 c9_3_1
      obtain ⟨c10_4_0, c10_4_1, y10_4⟩ := f10.q2 c9_4_0 c9_4_1
      obtain ⟨c10_9_0, c10_9_1, c10_9_2, c10_9_3, y10_9⟩ := f10.q4 c9_9_0 c9_9_1 c9_9_2 c9_9_3
      have IF_10 := K.ints.ext (K.bin IF_9) f10
      have IV_10 := K.recs.ext (K.bre IV_9) f10
      have IR_10 := K.ints.ext (K.bin IR_9) f10
      clear c9_0_0 c9_0_1 c9_0_2 c9_0_3 y9_0 c9_1_0 c9_1_1 y9_1 c9_2_0 c9_2_1 y9_2 c9_3_0 c9_3_1 y9_3 c9_4_0 c9_4_1 y9_4 c9_5_0 c9_5_1 y9_5 c9_6_0 c9_6_1 y9_6 c9_9_0 c9_9_1 c9_9_2 c9_9_3 y9_9 c9_10_0 c9_10_1 c9_10_2 c9_10_3 y9_10 IF_9 IV_9 IR_9 F9 f10
      by_cases hb : A.2 = 0
      · as_aux_lemma =>
          have hb0 : (Z.FormulaLog F vs).2 = 0 := by rw [hA]; exact hb
          obtain ⟨l1, l2, l3, l4, l5, l6, l7, l8⟩ := Z.log_law hb0
          rw [hA] at l1
          have hA1 : A.1 = Z.logK (F.dg, F.tn) vs F.pw vs.length := by rw [l1]
          have HL7 := Z.hide l7
          have HL8 := Z.hide l8
          have HL5 := Z.hide l5
          have HL2 := Z.hide l2
          have HA1 := Z.hide hA1
          clear hA1 l1 l2 l4 l5 l7 l8 hb0
          obtain ⟨t0, ht0⟩ : ∃ t0, t0 = Z.figLog (F.dg, F.tn) := ⟨_, rfl⟩
          (try rw [hb])
          have H0 := Z.hide ht0
          clear ht0
          go_wp2_with fail
          refine K.call (by with_reducible rfl) (by with_reducible rfl) (impl_FigN (F.dg, F.tn) H0.out _ l3) ?_
          rintro e w11 ⟨rfl, f11⟩
          have F11 : K.Ext w w11 := K.Ext.trans (K.bex F10) f11
          obtain ⟨c11_0_0, c11_0_1, c11_0_2, c11_0_3, y11_0⟩ := f11.q4 c10_0_0 c10_0_1 c10_0_2 c10_0_3
          obtain ⟨c11_1_0, c11_1_1, y11_1⟩ := f11.q2 c10_1_0 c10_1_1
          obtain ⟨c11_3_0, c11_3_1, y11_3⟩ := f11.q2 c10_3_0 c10_3_1
          obtain ⟨c11_4_0, c11_4_1, y11_4⟩ := f11.q2 c10_4_0 c10_4_1
          have IF_11 := K.ints.ext (K.bin IF_10) f11
          have IV_11 := K.recs.ext (K.bre IV_10) f11
          clear c10_0_0 c10_0_1 c10_0_2 c10_0_3 y10_0 c10_1_0 c10_1_1 y10_1 c10_3_0 c10_3_1 y10_3 c10_4_0 c10_4_1 y10_4 c10_9_0 c10_9_1 c10_9_2 c10_9_3 y10_9 IF_10 IV_10 F10 f11
          have HT0 := Z.hide (show t0 = Z.logK (F.dg, F.tn) vs F.pw 0 from by rw [H0.out]; simp only [Z.logK])
          go_wp2_with fail
          go_loopw [24] (fun i wr => ∃ (k : Nat) (t : Int × Int), k ≤ vs.length ∧ i = .int .i64 k ∧ Hid (t = Z.logK (F.dg, F.tn) vs F.pw k) ∧ wr.cell? ⟨w11.heap.size, 0, none⟩ = some (.int .i64 t.1) ∧ wr.cell? ⟨w11.heap.size, 1, none⟩ = some (.int .i64 t.2) ∧ wr.frozen? ⟨w11.heap.size, 0, none⟩ = false ∧ wr.frozen? ⟨w11.heap.size, 1, none⟩ = false ∧ w11.heap.size < wr.heap.size ∧ Hid (K.Far (w11.heap.size) (w11.heap.size + 1) w11 wr)) (fun i _ => vs.length - (intOf i).toNat)
          case atStart => exact ⟨0, t0, Nat.zero_le _, rfl, HT0, (by go_simp), (by go_simp), (by go_simp), (by go_simp), (by simp), Z.hide (K.Far.of_ext ((K.Ext.refl _).alloc _))⟩
          case round =>
            obtain ⟨k, t, hk, rfl, HT, t1, t2, z1_, z2_, lb, HX⟩ := hrel
            have XR : K.Ext w wr := K.Far.ext F11 HX.out (K.Ext.size F11)
            have cr_0_0 := HX.out.cell_of c11_0_0 (by (try dsimp only); omega)
            have cr_0_1 := HX.out.cell_of c11_0_1 (by (try dsimp only); omega)
            have cr_0_2 := HX.out.cell_of c11_0_2 (by (try dsimp only); omega)
            have cr_0_3 := HX.out.cell_of c11_0_3 (by (try dsimp only); omega)
            have yr_0 : w1.heap.size < wr.heap.size := World.block_lt_of_cell? wr _ cr_0_0
            have nr_0 : ¬ (w1.heap.size = w11.heap.size) := by omega
            have ns_0 : ¬ (w11.heap.size = w1.heap.size) := by omega
            have cr_1_0 := HX.out.cell_of c11_1_0 (by (try dsimp only); omega)
            have cr_1_1 := HX.out.cell_of c11_1_1 (by (try dsimp only); omega)
            have yr_1 : w2.heap.size < wr.heap.size := World.block_lt_of_cell? wr _ cr_1_0
            have nr_1 : ¬ (w2.heap.size = w11.heap.size) := by omega
            have ns_1 : ¬ (w11.heap.size = w2.heap.size) := by omega
            have cr_3_0 := HX.out.cell_of c11_3_0 (by (try dsimp only); omega)
            have cr_3_1 := HX.out.cell_of c11_3_1 (by (try dsimp only); omega)
            have yr_3 : w4.heap.size < wr.heap.size := World.block_lt_of_cell? wr _ cr_3_0
            have nr_3 : ¬ (w4.heap.size = w11.heap.size) := by omega
            have ns_3 : ¬ (w11.heap.size = w4.heap.size) := by omega
            have cr_4_0 := HX.out.cell_of c11_4_0 (by (try dsimp only); omega)
            have cr_4_1 := HX.out.cell_of c11_4_1 (by (try dsimp only); omega)
            have yr_4 : w4.heap.size + 1 < wr.heap.size := World.block_lt_of_cell? wr _ cr_4_0
            have nr_4 : ¬ (w4.heap.size + 1 = w11.heap.size) := by omega
            have ns_4 : ¬ (w11.heap.size = w4.heap.size + 1) := by omega
            have R_F := K.ints.far (K.bin IF_11) HX.out (.inl (by omega))
            have R_V := K.recs.far (by decide) (K.bre IV_11) HX.out (.inl (by omega))
            clear c11_0_0 c11_0_1 c11_0_2 c11_0_3 y11_0 c11_1_0 c11_1_1 y11_1 c11_3_0 c11_3_1 y11_3 c11_4_0 c11_4_1 y11_4 IF_11 IV_11 F11
            have k0 : (0 : Int) ≤ (k : Int) := Int.natCast_nonneg k
            by_cases hlt : k < vs.length
            · as_aux_lemma =>
                have i1 : (k : Int) < (vs.length : Int) := by omega
                obtain ⟨bb, off, rfl, hb1, hb2, hc, _⟩ := K.recs_at R_V (by omega)
                have v0 : wr.cell? ⟨bb, off + k * 2, none⟩ = some (.int .i64 (vs[k]'hlt).1) := hc k hlt 0 (by decide)
                have v1 : wr.cell? ⟨bb, off + k * 2 + 1, none⟩ = some (.int .i64 (vs[k]'hlt).2) := hc k hlt 1 (by decide)
                clear hc
                have hl5 := HL5.out
                obtain ⟨bp, op, rfl, hp1, hp2, pc⟩ := K.ints_at R_F (by omega)
                have p0 := pc k (by omega)
                have i2 : (k : Int) < (F.pw.length : Int) := by omega
                clear pc hl5
                have hf := HL7.out k hlt
                have hp := HL8.out k hlt
                have HN := Z.hide (Z.logK_next (f := (F.dg, F.tn)) (ps := F.pw) k hlt)
                obtain ⟨q, hq⟩ : ∃ q, q = vs[k]'hlt := ⟨_, rfl⟩
                rw [← hq] at v0 v1 hf HN
                clear hq
                obtain ⟨n, hn⟩ : ∃ n, n = F.pw.getD k 0 := ⟨_, rfl⟩
                rw [← hn] at p0 hp HN
                have HN2 := Z.hide hn
                clear hn
                obtain ⟨r, hr⟩ : ∃ r, r = Z.figLog q := ⟨_, rfl⟩
                rw [← hr] at HN
                have Hr := Z.hide hr
                obtain ⟨s, hs⟩ : ∃ s, s = Z.scale1 r n := ⟨_, rfl⟩
                rw [← hs] at HN
                have Hs := Z.hide hs
                obtain ⟨t_, ht_⟩ : ∃ t_, t_ = Z.sumI t s := ⟨_, rfl⟩
                have Ht := Z.hide ht_
                have it := Z.logK_iv (f := (F.dg, F.tn)) (ps := F.pw) l3 l6 HL7.out HL8.out k hk
                rw [← HT.out] at it
                have is_ : Z.iv9 s := by rw [hs, hr]; exact Z.scale1_iv hf hp
                clear hr hs ht_
                have FW := HX.out
                clear cr_1_0 cr_1_1 yr_1 cr_3_0 cr_3_1 yr_3 cr_4_0 cr_4_1 yr_4
                go_wp2_with fail
                refine K.call (by with_reducible rfl) (by with_reducible rfl) (impl_FigN q Hr.out _ hf) ?_
                rintro e wx1 ⟨rfl, f1⟩
                have FW1 : K.Far (w11.heap.size) (w11.heap.size + 1) w11 wx1 := K.Far.trans (K.bfa FW) (K.Far.of_ext f1)
                have zz1 := f1.size
                (try simp at zz1)
                have ta1 : wx1.cell? ⟨w11.heap.size, 0, none⟩ = some (.int .i64 t.1) := f1.cell_of (by go_simp)
                have tb1 : wx1.cell? ⟨w11.heap.size, 1, none⟩ = some (.int .i64 t.2) := f1.cell_of (by go_simp)
                have pa1 : wx1.cell? ⟨bp, op + k, none⟩ = some (.int .i64 n) := f1.cell_of (by go_simp)
                have pb1 : wx1.cell? ⟨w1.heap.size, 3, none⟩ = some (.slice (some ⟨bp, op, none⟩) F.pw.length kF) := f1.cell_of (by go_simp)
                have th1_0 : wx1.frozen? ⟨w11.heap.size, 0, none⟩ = false := f1.thaw_of (by go_simp) (by go_simp)
                have th1_1 : wx1.frozen? ⟨w11.heap.size, 1, none⟩ = false := f1.thaw_of (by go_simp) (by go_simp)
                have yp0 : w11.heap.size < wx1.heap.size := by omega
                have yq0 : w11.heap.size < wx1.heap.size + 1 := by omega
                have yp1 : w1.heap.size < wx1.heap.size := by omega
                have yq1 : w1.heap.size < wx1.heap.size + 1 := by omega
                have yp2 : bp < wx1.heap.size := by omega
                have yq2 : bp < wx1.heap.size + 1 := by omega
                have nb1 : ¬ (w11.heap.size = wx1.heap.size) := by omega
                have nb2 : ¬ (w1.heap.size = wx1.heap.size) := by omega
                have nb3 : ¬ (bp = wx1.heap.size) := by omega
                have nb4 : ¬ (w11.heap.size = wx1.heap.size + 1) := by omega
                have nb5 : ¬ (w1.heap.size = wx1.heap.size + 1) := by omega
                have nb6 : ¬ (bp = wx1.heap.size + 1) := by omega
                go_wp2_with fail
                have nu0 : ¬ (wx1.heap.size + 1 = w11.heap.size) := (by omega)
                have nz0 : ¬ (w11.heap.size = wx1.heap.size + 1) := (by omega)
                have nu1 : ¬ (wx1.heap.size + 1 = w1.heap.size) := (by omega)
                have nz1 : ¬ (w1.heap.size = wx1.heap.size + 1) := (by omega)
                have nu2 : ¬ (wx1.heap.size + 1 = bp) := (by omega)
                have nz2 : ¬ (bp = wx1.heap.size + 1) := (by omega)
                have nu3 : ¬ (wx1.heap.size + 1 = wx1.heap.size) := (by omega)
                have nz3 : ¬ (wx1.heap.size = wx1.heap.size + 1) := (by omega)
                go_region_held3 (fun w' => w'.cell? ⟨wx1.heap.size, 0, none⟩ = some (.int .i64 r.1) ∧ w'.cell? ⟨wx1.heap.size, 1, none⟩ = some (.int .i64 r.2) ∧ w'.cell? ⟨bp, op + k, none⟩ = some (.int .i64 n) ∧ w'.cell? ⟨w1.heap.size, 3, none⟩ = some (.slice (some ⟨bp, op, none⟩) F.pw.length kF)) ((repeat' apply And.intro) <;> go_simp) (first | (go_at_call 57; refine K.call (by with_reducible rfl) (by with_reducible rfl) (impl_ScaN q n Hr.out Hs.out ((wx1.alloc (.cells #[.int .i64 r.1, .int .i64 r.2] 73)).drew.alloc (.cells #[.int .i64 0, .int .i64 0] 73)) hf hp) ?_; rintro e wx2 ⟨rfl, f2⟩; have FW2 : K.Far (w11.heap.size) (w11.heap.size + 1) w11 wx2 := K.Far.trans (K.bfa FW1) (K.Far.of_ext f2); have zz2 := f2.size; (try simp at zz2); have ta2 : wx2.cell? ⟨w11.heap.size, 0, none⟩ = some (.int .i64 t.1) := f2.cell_of (by go_simp); have tb2 : wx2.cell? ⟨w11.heap.size, 1, none⟩ = some (.int .i64 t.2) := f2.cell_of (by go_simp); have pa2 : wx2.cell? ⟨bp, op + k, none⟩ = some (.int .i64 n) := f2.cell_of (by go_simp); have pb2 : wx2.cell? ⟨w1.heap.size, 3, none⟩ = some (.slice (some ⟨bp, op, none⟩) F.pw.length kF) := f2.cell_of (by go_simp); have ra2 : wx2.cell? ⟨wx1.heap.size, 0, none⟩ = some (.int .i64 r.1) := f2.cell_of (by go_simp); have rb2 : wx2.cell? ⟨wx1.heap.size, 1, none⟩ = some (.int .i64 r.2) := f2.cell_of (by go_simp); have ywta : w11.heap.size < wx2.heap.size := World.block_lt_of_cell? wx2 _ ta2; have ywpa : bp < wx2.heap.size := World.block_lt_of_cell? wx2 _ pa2; have ywpb : w1.heap.size < wx2.heap.size := World.block_lt_of_cell? wx2 _ pb2; have ywra : wx1.heap.size < wx2.heap.size := World.block_lt_of_cell? wx2 _ ra2; have th2_0 : wx2.frozen? ⟨w11.heap.size, 0, none⟩ = false := f2.thaw_of (by go_simp) (by go_simp); have th2_1 : wx2.frozen? ⟨w11.heap.size, 1, none⟩ = false := f2.thaw_of (by go_simp) (by go_simp); have nv0 : ¬ (w11.heap.size = wx2.heap.size) := (by omega); have nv1 : ¬ (w1.heap.size = wx2.heap.size) := (by omega); have nv2 : ¬ (bp = wx2.heap.size) := (by omega); have nv3 : ¬ (wx1.heap.size = wx2.heap.size) := (by omega); have nw0 : ¬ (wx2.heap.size = w11.heap.size) := (by omega); have nw1 : ¬ (wx2.heap.size = w1.heap.size) := (by omega); have nw2 : ¬ (wx2.heap.size = bp) := (by omega); have nw3 : ¬ (wx2.heap.size = wx1.heap.size) := (by omega); have nt0 : wx2.cell? ⟨wx1.heap.size + 1, 0, none⟩ = some (.int .i64 0) := f2.cell_of (by go_simp); have nt1 : wx2.cell? ⟨wx1.heap.size + 1, 1, none⟩ = some (.int .i64 0) := f2.cell_of (by go_simp); have nh0 : wx2.frozen? ⟨wx1.heap.size + 1, 0, none⟩ = false := f2.thaw_of (by go_simp) (by go_simp); have nh1 : wx2.frozen? ⟨wx1.heap.size + 1, 1, none⟩ = false := f2.thaw_of (by go_simp) (by go_simp)) | (go_at_call 57; refine K.call (by with_reducible rfl) (by with_reducible rfl) (impl_ScaN q n Hr.out Hs.out (((wx1.alloc (.cells #[.int .i64 r.1, .int .i64 r.2] 73)).drew.alloc (.cells #[.int .i64 0, .int .i64 0] 73)).drew) hf hp) ?_; rintro e wx2 ⟨rfl, f2⟩; have FW2 : K.Far (w11.heap.size) (w11.heap.size + 1) w11 wx2 := K.Far.trans (K.bfa FW1) (K.Far.of_ext f2); have zz2 := f2.size; (try simp at zz2); have ta2 : wx2.cell? ⟨w11.heap.size, 0, none⟩ = some (.int .i64 t.1) := f2.cell_of (by go_simp); have tb2 : wx2.cell? ⟨w11.heap.size, 1, none⟩ = some (.int .i64 t.2) := f2.cell_of (by go_simp); have pa2 : wx2.cell? ⟨bp, op + k, none⟩ = some (.int .i64 n) := f2.cell_of (by go_simp); have pb2 : wx2.cell? ⟨w1.heap.size, 3, none⟩ = some (.slice (some ⟨bp, op, none⟩) F.pw.length kF) := f2.cell_of (by go_simp); have ra2 : wx2.cell? ⟨wx1.heap.size, 0, none⟩ = some (.int .i64 r.1) := f2.cell_of (by go_simp); have rb2 : wx2.cell? ⟨wx1.heap.size, 1, none⟩ = some (.int .i64 r.2) := f2.cell_of (by go_simp); have ywta : w11.heap.size < wx2.heap.size := World.block_lt_of_cell? wx2 _ ta2; have ywpa : bp < wx2.heap.size := World.block_lt_of_cell? wx2 _ pa2; have ywpb : w1.heap.size < wx2.heap.size := World.block_lt_of_cell? wx2 _ pb2; have ywra : wx1.heap.size < wx2.heap.size := World.block_lt_of_cell? wx2 _ ra2; have th2_0 : wx2.frozen? ⟨w11.heap.size, 0, none⟩ = false := f2.thaw_of (by go_simp) (by go_simp); have th2_1 : wx2.frozen? ⟨w11.heap.size, 1, none⟩ = false := f2.thaw_of (by go_simp) (by go_simp); have nv0 : ¬ (w11.heap.size = wx2.heap.size) := (by omega); have nv1 : ¬ (w1.heap.size = wx2.heap.size) := (by omega); have nv2 : ¬ (bp = wx2.heap.size) := (by omega); have nv3 : ¬ (wx1.heap.size = wx2.heap.size) := (by omega); have nw0 : ¬ (wx2.heap.size = w11.heap.size) := (by omega); have nw1 : ¬ (wx2.heap.size = w1.heap.size) := (by omega); have nw2 : ¬ (wx2.heap.size = bp) := (by omega); have nw3 : ¬ (wx2.heap.size = wx1.heap.size) := (by omega); have nt0 : wx2.cell? ⟨wx1.heap.size + 1, 0, none⟩ = some (.int .i64 0) := f2.cell_of (by go_simp); have nt1 : wx2.cell? ⟨wx1.heap.size + 1, 1, none⟩ = some (.int .i64 0) := f2.cell_of (by go_simp); have nh0 : wx2.frozen? ⟨wx1.heap.size + 1, 0, none⟩ = false := f2.thaw_of (by go_simp) (by go_simp); have nh1 : wx2.frozen? ⟨wx1.heap.size + 1, 1, none⟩ = false := f2.thaw_of (by go_simp) (by go_simp)) | (go_at_call 57; refine K.call (by with_reducible rfl) (by with_reducible rfl) (impl_ScaN q n Hr.out Hs.out (((wx1.alloc (.cells #[.int .i64 r.1, .int .i64 r.2] 73)).alloc (.cells #[.int .i64 0, .int .i64 0] 73)).drew) hf hp) ?_; rintro e wx2 ⟨rfl, f2⟩; have FW2 : K.Far (w11.heap.size) (w11.heap.size + 1) w11 wx2 := K.Far.trans (K.bfa FW1) (K.Far.of_ext f2); have zz2 := f2.size; (try simp at zz2); have ta2 : wx2.cell? ⟨w11.heap.size, 0, none⟩ = some (.int .i64 t.1) := f2.cell_of (by go_simp); have tb2 : wx2.cell? ⟨w11.heap.size, 1, none⟩ = some (.int .i64 t.2) := f2.cell_of (by go_simp); have pa2 : wx2.cell? ⟨bp, op + k, none⟩ = some (.int .i64 n) := f2.cell_of (by go_simp); have pb2 : wx2.cell? ⟨w1.heap.size, 3, none⟩ = some (.slice (some ⟨bp, op, none⟩) F.pw.length kF) := f2.cell_of (by go_simp); have ra2 : wx2.cell? ⟨wx1.heap.size, 0, none⟩ = some (.int .i64 r.1) := f2.cell_of (by go_simp); have rb2 : wx2.cell? ⟨wx1.heap.size, 1, none⟩ = some (.int .i64 r.2) := f2.cell_of (by go_simp); have ywta : w11.heap.size < wx2.heap.size := World.block_lt_of_cell? wx2 _ ta2; have ywpa : bp < wx2.heap.size := World.block_lt_of_cell? wx2 _ pa2; have ywpb : w1.heap.size < wx2.heap.size := World.block_lt_of_cell? wx2 _ pb2; have ywra : wx1.heap.size < wx2.heap.size := World.block_lt_of_cell? wx2 _ ra2; have th2_0 : wx2.frozen? ⟨w11.heap.size, 0, none⟩ = false := f2.thaw_of (by go_simp) (by go_simp); have th2_1 : wx2.frozen? ⟨w11.heap.size, 1, none⟩ = false := f2.thaw_of (by go_simp) (by go_simp); have nv0 : ¬ (w11.heap.size = wx2.heap.size) := (by omega); have nv1 : ¬ (w1.heap.size = wx2.heap.size) := (by omega); have nv2 : ¬ (bp = wx2.heap.size) := (by omega); have nv3 : ¬ (wx1.heap.size = wx2.heap.size) := (by omega); have nw0 : ¬ (wx2.heap.size = w11.heap.size) := (by omega); have nw1 : ¬ (wx2.heap.size = w1.heap.size) := (by omega); have nw2 : ¬ (wx2.heap.size = bp) := (by omega); have nw3 : ¬ (wx2.heap.size = wx1.heap.size) := (by omega); have nt0 : wx2.cell? ⟨wx1.heap.size + 1, 0, none⟩ = some (.int .i64 0) := f2.cell_of (by go_simp); have nt1 : wx2.cell? ⟨wx1.heap.size + 1, 1, none⟩ = some (.int .i64 0) := f2.cell_of (by go_simp); have nh0 : wx2.frozen? ⟨wx1.heap.size + 1, 0, none⟩ = false := f2.thaw_of (by go_simp) (by go_simp); have nh1 : wx2.frozen? ⟨wx1.heap.size + 1, 1, none⟩ = false := f2.thaw_of (by go_simp) (by go_simp)) | (go_at_call 57; refine K.call (by with_reducible rfl) (by with_reducible rfl) (impl_ScaN q n Hr.out Hs.out ((wx1.alloc (.cells #[.int .i64 r.1, .int .i64 r.2] 73)).alloc (.cells #[.int .i64 0, .int .i64 0] 73)) hf hp) ?_; rintro e wx2 ⟨rfl, f2⟩; have FW2 : K.Far (w11.heap.size) (w11.heap.size + 1) w11 wx2 := K.Far.trans (K.bfa FW1) (K.Far.of_ext f2); have zz2 := f2.size; (try simp at zz2); have ta2 : wx2.cell? ⟨w11.heap.size, 0, none⟩ = some (.int .i64 t.1) := f2.cell_of (by go_simp); have tb2 : wx2.cell? ⟨w11.heap.size, 1, none⟩ = some (.int .i64 t.2) := f2.cell_of (by go_simp); have pa2 : wx2.cell? ⟨bp, op + k, none⟩ = some (.int .i64 n) := f2.cell_of (by go_simp); have pb2 : wx2.cell? ⟨w1.heap.size, 3, none⟩ = some (.slice (some ⟨bp, op, none⟩) F.pw.length kF) := f2.cell_of (by go_simp); have ra2 : wx2.cell? ⟨wx1.heap.size, 0, none⟩ = some (.int .i64 r.1) := f2.cell_of (by go_simp); have rb2 : wx2.cell? ⟨wx1.heap.size, 1, none⟩ = some (.int .i64 r.2) := f2.cell_of (by go_simp); have ywta : w11.heap.size < wx2.heap.size := World.block_lt_of_cell? wx2 _ ta2; have ywpa : bp < wx2.heap.size := World.block_lt_of_cell? wx2 _ pa2; have ywpb : w1.heap.size < wx2.heap.size := World.block_lt_of_cell? wx2 _ pb2; have ywra : wx1.heap.size < wx2.heap.size := World.block_lt_of_cell? wx2 _ ra2; have th2_0 : wx2.frozen? ⟨w11.heap.size, 0, none⟩ = false := f2.thaw_of (by go_simp) (by go_simp); have th2_1 : wx2.frozen? ⟨w11.heap.size, 1, none⟩ = false := f2.thaw_of (by go_simp) (by go_simp); have nv0 : ¬ (w11.heap.size = wx2.heap.size) := (by omega); have nv1 : ¬ (w1.heap.size = wx2.heap.size) := (by omega); have nv2 : ¬ (bp = wx2.heap.size) := (by omega); have nv3 : ¬ (wx1.heap.size = wx2.heap.size) := (by omega); have nw0 : ¬ (wx2.heap.size = w11.heap.size) := (by omega); have nw1 : ¬ (wx2.heap.size = w1.heap.size) := (by omega); have nw2 : ¬ (wx2.heap.size = bp) := (by omega); have nw3 : ¬ (wx2.heap.size = wx1.heap.size) := (by omega); have nt0 : wx2.cell? ⟨wx1.heap.size + 1, 0, none⟩ = some (.int .i64 0) := f2.cell_of (by go_simp); have nt1 : wx2.cell? ⟨wx1.heap.size + 1, 1, none⟩ = some (.int .i64 0) := f2.cell_of (by go_simp); have nh0 : wx2.frozen? ⟨wx1.heap.size + 1, 0, none⟩ = false := f2.thaw_of (by go_simp) (by go_simp); have nh1 : wx2.frozen? ⟨wx1.heap.size + 1, 1, none⟩ = false := f2.thaw_of (by go_simp) (by go_simp)) | (go_at_call 57; refine K.call (by with_reducible rfl) (by with_reducible rfl) (impl_ScaN q n Hr.out Hs.out ((wx1.alloc (.cells #[.int .i64 r.1, .int .i64 r.2] 73)).drew.drew.alloc (.cells #[.int .i64 0, .int .i64 0] 73)) hf hp) ?_; rintro e wx2 ⟨rfl, f2⟩; have FW2 : K.Far (w11.heap.size) (w11.heap.size + 1) w11 wx2 := K.Far.trans (K.bfa FW1) (K.Far.of_ext f2); have zz2 := f2.size; (try simp at zz2); have ta2 : wx2.cell? ⟨w11.heap.size, 0, none⟩ = some (.int .i64 t.1) := f2.cell_of (by go_simp); have tb2 : wx2.cell? ⟨w11.heap.size, 1, none⟩ = some (.int .i64 t.2) := f2.cell_of (by go_simp); have pa2 : wx2.cell? ⟨bp, op + k, none⟩ = some (.int .i64 n) := f2.cell_of (by go_simp); have pb2 : wx2.cell? ⟨w1.heap.size, 3, none⟩ = some (.slice (some ⟨bp, op, none⟩) F.pw.length kF) := f2.cell_of (by go_simp); have ra2 : wx2.cell? ⟨wx1.heap.size, 0, none⟩ = some (.int .i64 r.1) := f2.cell_of (by go_simp); have rb2 : wx2.cell? ⟨wx1.heap.size, 1, none⟩ = some (.int .i64 r.2) := f2.cell_of (by go_simp); have ywta : w11.heap.size < wx2.heap.size := World.block_lt_of_cell? wx2 _ ta2; have ywpa : bp < wx2.heap.size := World.block_lt_of_cell? wx2 _ pa2; have ywpb : w1.heap.size < wx2.heap.size := World.block_lt_of_cell? wx2 _ pb2; have ywra : wx1.heap.size < wx2.heap.size := World.block_lt_of_cell? wx2 _ ra2; have th2_0 : wx2.frozen? ⟨w11.heap.size, 0, none⟩ = false := f2.thaw_of (by go_simp) (by go_simp); have th2_1 : wx2.frozen? ⟨w11.heap.size, 1, none⟩ = false := f2.thaw_of (by go_simp) (by go_simp); have nv0 : ¬ (w11.heap.size = wx2.heap.size) := (by omega); have nv1 : ¬ (w1.heap.size = wx2.heap.size) := (by omega); have nv2 : ¬ (bp = wx2.heap.size) := (by omega); have nv3 : ¬ (wx1.heap.size = wx2.heap.size) := (by omega); have nw0 : ¬ (wx2.heap.size = w11.heap.size) := (by omega); have nw1 : ¬ (wx2.heap.size = w1.heap.size) := (by omega); have nw2 : ¬ (wx2.heap.size = bp) := (by omega); have nw3 : ¬ (wx2.heap.size = wx1.heap.size) := (by omega); have nt0 : wx2.cell? ⟨wx1.heap.size + 1, 0, none⟩ = some (.int .i64 0) := f2.cell_of (by go_simp); have nt1 : wx2.cell? ⟨wx1.heap.size + 1, 1, none⟩ = some (.int .i64 0) := f2.cell_of (by go_simp); have nh0 : wx2.frozen? ⟨wx1.heap.size + 1, 0, none⟩ = false := f2.thaw_of (by go_simp) (by go_simp); have nh1 : wx2.frozen? ⟨wx1.heap.size + 1, 1, none⟩ = false := f2.thaw_of (by go_simp) (by go_simp)) | (go_at_call 57; refine K.call (by with_reducible rfl) (by with_reducible rfl) (impl_ScaN q n Hr.out Hs.out (((wx1.alloc (.cells #[.int .i64 r.1, .int .i64 r.2] 73)).drew.drew.alloc (.cells #[.int .i64 0, .int .i64 0] 73)).drew) hf hp) ?_; rintro e wx2 ⟨rfl, f2⟩; have FW2 : K.Far (w11.heap.size) (w11.heap.size + 1) w11 wx2 := K.Far.trans (K.bfa FW1) (K.Far.of_ext f2); have zz2 := f2.size; (try simp at zz2); have ta2 : wx2.cell? ⟨w11.heap.size, 0, none⟩ = some (.int .i64 t.1) := f2.cell_of (by go_simp); have tb2 : wx2.cell? ⟨w11.heap.size, 1, none⟩ = some (.int .i64 t.2) := f2.cell_of (by go_simp); have pa2 : wx2.cell? ⟨bp, op + k, none⟩ = some (.int .i64 n) := f2.cell_of (by go_simp); have pb2 : wx2.cell? ⟨w1.heap.size, 3, none⟩ = some (.slice (some ⟨bp, op, none⟩) F.pw.length kF) := f2.cell_of (by go_simp); have ra2 : wx2.cell? ⟨wx1.heap.size, 0, none⟩ = some (.int .i64 r.1) := f2.cell_of (by go_simp); have rb2 : wx2.cell? ⟨wx1.heap.size, 1, none⟩ = some (.int .i64 r.2) := f2.cell_of (by go_simp); have ywta : w11.heap.size < wx2.heap.size := World.block_lt_of_cell? wx2 _ ta2; have ywpa : bp < wx2.heap.size := World.block_lt_of_cell? wx2 _ pa2; have ywpb : w1.heap.size < wx2.heap.size := World.block_lt_of_cell? wx2 _ pb2; have ywra : wx1.heap.size < wx2.heap.size := World.block_lt_of_cell? wx2 _ ra2; have th2_0 : wx2.frozen? ⟨w11.heap.size, 0, none⟩ = false := f2.thaw_of (by go_simp) (by go_simp); have th2_1 : wx2.frozen? ⟨w11.heap.size, 1, none⟩ = false := f2.thaw_of (by go_simp) (by go_simp); have nv0 : ¬ (w11.heap.size = wx2.heap.size) := (by omega); have nv1 : ¬ (w1.heap.size = wx2.heap.size) := (by omega); have nv2 : ¬ (bp = wx2.heap.size) := (by omega); have nv3 : ¬ (wx1.heap.size = wx2.heap.size) := (by omega); have nw0 : ¬ (wx2.heap.size = w11.heap.size) := (by omega); have nw1 : ¬ (wx2.heap.size = w1.heap.size) := (by omega); have nw2 : ¬ (wx2.heap.size = bp) := (by omega); have nw3 : ¬ (wx2.heap.size = wx1.heap.size) := (by omega); have nt0 : wx2.cell? ⟨wx1.heap.size + 1, 0, none⟩ = some (.int .i64 0) := f2.cell_of (by go_simp); have nt1 : wx2.cell? ⟨wx1.heap.size + 1, 1, none⟩ = some (.int .i64 0) := f2.cell_of (by go_simp); have nh0 : wx2.frozen? ⟨wx1.heap.size + 1, 0, none⟩ = false := f2.thaw_of (by go_simp) (by go_simp); have nh1 : wx2.frozen? ⟨wx1.heap.size + 1, 1, none⟩ = false := f2.thaw_of (by go_simp) (by go_simp)) | (go_at_call 57; refine K.call (by with_reducible rfl) (by with_reducible rfl) (impl_ScaN q n Hr.out Hs.out _ hf hp) ?_; rintro e wx2 ⟨rfl, f2⟩; have FW2 : K.Far (w11.heap.size) (w11.heap.size + 1) w11 wx2 := K.Far.trans (K.bfa FW1) (K.Far.of_ext f2); have zz2 := f2.size; (try simp at zz2); have ta2 : wx2.cell? ⟨w11.heap.size, 0, none⟩ = some (.int .i64 t.1) := f2.cell_of (by go_simp); have tb2 : wx2.cell? ⟨w11.heap.size, 1, none⟩ = some (.int .i64 t.2) := f2.cell_of (by go_simp); have pa2 : wx2.cell? ⟨bp, op + k, none⟩ = some (.int .i64 n) := f2.cell_of (by go_simp); have pb2 : wx2.cell? ⟨w1.heap.size, 3, none⟩ = some (.slice (some ⟨bp, op, none⟩) F.pw.length kF) := f2.cell_of (by go_simp); have ra2 : wx2.cell? ⟨wx1.heap.size, 0, none⟩ = some (.int .i64 r.1) := f2.cell_of (by go_simp); have rb2 : wx2.cell? ⟨wx1.heap.size, 1, none⟩ = some (.int .i64 r.2) := f2.cell_of (by go_simp); have ywta : w11.heap.size < wx2.heap.size := World.block_lt_of_cell? wx2 _ ta2; have ywpa : bp < wx2.heap.size := World.block_lt_of_cell? wx2 _ pa2; have ywpb : w1.heap.size < wx2.heap.size := World.block_lt_of_cell? wx2 _ pb2; have ywra : wx1.heap.size < wx2.heap.size := World.block_lt_of_cell? wx2 _ ra2; have th2_0 : wx2.frozen? ⟨w11.heap.size, 0, none⟩ = false := f2.thaw_of (by go_simp) (by go_simp); have th2_1 : wx2.frozen? ⟨w11.heap.size, 1, none⟩ = false := f2.thaw_of (by go_simp) (by go_simp); have nv0 : ¬ (w11.heap.size = wx2.heap.size) := (by omega); have nv1 : ¬ (w1.heap.size = wx2.heap.size) := (by omega); have nv2 : ¬ (bp = wx2.heap.size) := (by omega); have nv3 : ¬ (wx1.heap.size = wx2.heap.size) := (by omega); have nw0 : ¬ (wx2.heap.size = w11.heap.size) := (by omega); have nw1 : ¬ (wx2.heap.size = w1.heap.size) := (by omega); have nw2 : ¬ (wx2.heap.size = bp) := (by omega); have nw3 : ¬ (wx2.heap.size = wx1.heap.size) := (by omega)))
                all_goals
                  have nb7 : ¬ (w11.heap.size = wx2.heap.size) := by omega
                  have yr7 : w11.heap.size < wx2.heap.size := by omega
                  have yr8 : w11.heap.size < wx2.heap.size + 1 := by omega
                  go_wp2_with fail
                  refine K.call (by with_reducible rfl) (by with_reducible rfl) (impl_AddN t s Ht.out _ it is_) ?_
                  rintro e wx3 ⟨rfl, f3⟩
                  have FW3 : K.Far (w11.heap.size) (w11.heap.size + 1) w11 wx3 := K.Far.trans (K.bfa FW2) (K.Far.of_ext f3)
                  have zz3 := f3.size
                  (try simp at zz3)
                  have ta3 : wx3.cell? ⟨w11.heap.size, 0, none⟩ = some (.int .i64 t.1) := f3.cell_of (by go_simp)
                  have tb3 : wx3.cell? ⟨w11.heap.size, 1, none⟩ = some (.int .i64 t.2) := f3.cell_of (by go_simp)
                  have th3_0 : wx3.frozen? ⟨w11.heap.size, 0, none⟩ = false := f3.thaw_of (by go_simp) (by go_simp)
                  have th3_1 : wx3.frozen? ⟨w11.heap.size, 1, none⟩ = false := f3.thaw_of (by go_simp) (by go_simp)
                  have nb8 : ¬ (w11.heap.size = wx3.heap.size) := by omega
                  have yr9 : w11.heap.size < wx3.heap.size := by omega
                  go_wp2_with fail
                  go_roundw
                  case rel => exact ⟨k + 1, t_, Nat.succ_le_of_lt hlt, by go_num, Z.hide (by rw [HN.out, Ht.out, HT.out]), (by go_simp), (by go_simp), (by go_simp), (by go_simp), (by simp; omega), Z.hide (by with_reducible repeat' (first | exact FW3 | refine K.Far.setCell ?_ ?_ ?_ _ | refine K.Far.alloc ?_ _ | refine K.Far.drew ?_ | (dsimp only; omega)))⟩
                  case measure => simp only [intOf]; omega
            · as_aux_lemma =>
                obtain rfl : k = vs.length := by omega
                obtain rfl : t = A.1 := HT.out.trans HA1.out.symm
                have HLA := HA1
                clear HT HL5 HL7 HL8
                have hA1_ : A.1 = A.1 := rfl
                by_cases h1 : Sp.2.2 = 0
                · as_aux_lemma =>
                    have hs0 : (Z.FormulaSpan F vs).2.2 = 0 := by rw [hS]; exact h1
                    have hsp := Z.span_law hs0
                    rw [hS] at hsp
                    obtain ⟨s1, s2, s3, s4⟩ := hsp
                    rw [HL2.out] at s3 s4
                    obtain ⟨L, hL⟩ : ∃ L, L = Z.logK (F.dg, F.tn) vs F.pw vs.length := ⟨_, rfl⟩
                    rw [← hL] at s3 s4
                    obtain ⟨u, hu⟩ : ∃ u, u = Z.figLog Sp.1 := ⟨_, rfl⟩
                    obtain ⟨x, hx⟩ : ∃ x, x = Z.figLog Sp.2.1 := ⟨_, rfl⟩
                    rw [← hu] at s3
                    rw [← hx] at s4
                    have Hu := Z.hide hu
                    have Hx := Z.hide hx
                    clear hu hx
                    rw [← HLA.out] at hL
                    subst hL
                    clear hs0 hS HL2
                    go_wp2_with fail
                    refine K.call (by with_reducible rfl) (by with_reducible rfl) (impl_FigN Sp.1 Hu.out _ s1) ?_
                    rintro e w12 ⟨rfl, f12⟩
                    have F12 : K.Ext w w12 := K.Ext.trans (K.bex XR) f12
                    have c12_1_0 : w12.cell? ⟨w2.heap.size, 0, none⟩ = some (.int .i64 A.1.1) := f12.cell_of (by go_simp)
                    have c12_1_1 : w12.cell? ⟨w2.heap.size, 1, none⟩ = some (.int .i64 A.1.2) := f12.cell_of (by go_simp)
                    have y12_1 : w2.heap.size < w12.heap.size := World.block_lt_of_cell? w12 _ c12_1_0
                    have c12_3_0 : w12.cell? ⟨w4.heap.size, 0, none⟩ = some (.int .i64 Sp.1.1) := f12.cell_of (by go_simp)
                    have c12_3_1 : w12.cell? ⟨w4.heap.size, 1, none⟩ = some (.int .i64 Sp.1.2) := f12.cell_of (by go_simp)
                    have y12_3 : w4.heap.size < w12.heap.size := World.block_lt_of_cell? w12 _ c12_3_0
                    have c12_4_0 : w12.cell? ⟨w4.heap.size + 1, 0, none⟩ = some (.int .i64 Sp.2.1.1) := f12.cell_of (by go_simp)
                    have c12_4_1 : w12.cell? ⟨w4.heap.size + 1, 1, none⟩ = some (.int .i64 Sp.2.1.2) := f12.cell_of (by go_simp)
                    have y12_4 : w4.heap.size + 1 < w12.heap.size := World.block_lt_of_cell? w12 _ c12_4_0
                    clear cr_0_0 cr_0_1 cr_0_2 cr_0_3 yr_0 cr_1_0 cr_1_1 yr_1 cr_3_0 cr_3_1 yr_3 cr_4_0 cr_4_1 yr_4 XR f12
                    go_wp2_with fail
                    refine K.call (by with_reducible rfl) (by with_reducible rfl) (impl_FigN Sp.2.1 Hx.out _ s2) ?_
                    rintro e w13 ⟨rfl, f13⟩
                    have u13_1_1 : w2.heap.size < w12.heap.size + 1 := (by omega)
                    have u13_3_1 : w4.heap.size < w12.heap.size + 1 := (by omega)
                    have u13_4_1 : w4.heap.size + 1 < w12.heap.size + 1 := (by omega)
                    have F13 : K.Ext w w13 := K.Ext.trans (K.bex F12) f13
                    obtain ⟨c13_1_0, c13_1_1, y13_1⟩ := f13.q2 c12_1_0 c12_1_1
                    obtain ⟨c13_3_0, c13_3_1, y13_3⟩ := f13.q2 c12_3_0 c12_3_1
                    obtain ⟨c13_4_0, c13_4_1, y13_4⟩ := f13.q2 c12_4_0 c12_4_1
                    have c13_11_0 : w13.cell? ⟨w12.heap.size, 0, none⟩ = some (.int .i64 u.1) := f13.cell_of (by go_simp)
                    have c13_11_1 : w13.cell? ⟨w12.heap.size, 1, none⟩ = some (.int .i64 u.2) := f13.cell_of (by go_simp)
                    have y13_11 : w12.heap.size < w13.heap.size := World.block_lt_of_cell? w13 _ c13_11_0
                    clear c12_1_0 c12_1_1 y12_1 c12_3_0 c12_3_1 y12_3 c12_4_0 c12_4_1 y12_4 F12 f13 u13_1_1 u13_3_1 u13_4_1
                    go_wp2_with fail
                    go_ret
                    exact ⟨rfl, (K.bex F13)⟩
                have h1' : (Sp.2.2 == 0) = false := by simpa using h1
                go_wp2_with fail
                go_ret
                exact ⟨rfl, (K.bex XR)⟩
      have hb' : (A.2 == 0) = false := by simpa using hb
      go_wp2_with fail
      go_ret
      exact ⟨rfl, (K.bex F10)⟩
  have h3' : ((Z.ReplaceName X c G).2 == 0) = false := by simpa using h3
  by_cases hb : A.2 = 0
  · as_aux_lemma =>
      have hb0 : (Z.FormulaLog F vs).2 = 0 := by rw [hA]; exact hb
      obtain ⟨l1, l2, l3, l4, l5, l6, l7, l8⟩ := Z.log_law hb0
      rw [hA] at l1
      have hA1 : A.1 = Z.logK (F.dg, F.tn) vs F.pw vs.length := by rw [l1]
      have HL7 := Z.hide l7
      have HL8 := Z.hide l8
      have HL5 := Z.hide l5
      have HL2 := Z.hide l2
      have HA1 := Z.hide hA1
      clear hA1 l1 l2 l4 l5 l7 l8 hb0
      obtain ⟨t0, ht0⟩ : ∃ t0, t0 = Z.figLog (F.dg, F.tn) := ⟨_, rfl⟩
      (try rw [hb])
      have H0 := Z.hide ht0
      clear ht0
      go_wp2_with fail
      refine K.call (by with_reducible rfl) (by with_reducible rfl) (impl_FigN (F.dg, F.tn) H0.out _ l3) ?_
      rintro e w10 ⟨rfl, f10⟩
      have F10 : K.Ext w w10 := K.Ext.trans (K.bex F9) f10
      obtain ⟨c10_0_0, c10_0_1, c10_0_2, c10_0_3, y10_0⟩ := f10.q4 c9_0_0 c9_0_1 c9_0_2 c9_0_3
      obtain ⟨c10_1_0, c10_1_1, y10_1⟩ := f10.q2 c9_1_0 c9_1_1
      obtain ⟨c10_3_0, c10_3_1, y10_3⟩ := f10.q2 c9_3_0 c9_3_1
      obtain ⟨c10_4_0, c10_4_1, y10_4⟩ := f10.q2 c9_4_0 c9_4_1
      have IF_10 := K.ints.ext (K.bin IF_9) f10
      have IV_10 := K.recs.ext (K.bre IV_9) f10
      clear c9_0_0 c9_0_1 c9_0_2 c9_0_3 y9_0 c9_1_0 c9_1_1 y9_1 c9_2_0 c9_2_1 y9_2 c9_3_0 c9_3_1 y9_3 c9_4_0 c9_4_1 y9_4 c9_5_0 c9_5_1 y9_5 c9_6_0 c9_6_1 y9_6 c9_9_0 c9_9_1 c9_9_2 c9_9_3 y9_9 c9_10_0 c9_10_1 c9_10_2 c9_10_3 y9_10 IF_9 IV_9 F9 f10
      have HT0 := Z.hide (show t0 = Z.logK (F.dg, F.tn) vs F.pw 0 from by rw [H0.out]; simp only [Z.logK])
      go_wp2_with fail
      go_loopw [24] (fun i wr => ∃ (k : Nat) (t : Int × Int), k ≤ vs.length ∧ i = .int .i64 k ∧ Hid (t = Z.logK (F.dg, F.tn) vs F.pw k) ∧ wr.cell? ⟨w10.heap.size, 0, none⟩ = some (.int .i64 t.1) ∧ wr.cell? ⟨w10.heap.size, 1, none⟩ = some (.int .i64 t.2) ∧ wr.frozen? ⟨w10.heap.size, 0, none⟩ = false ∧ wr.frozen? ⟨w10.heap.size, 1, none⟩ = false ∧ w10.heap.size < wr.heap.size ∧ Hid (K.Far (w10.heap.size) (w10.heap.size + 1) w10 wr)) (fun i _ => vs.length - (intOf i).toNat)
      case atStart => exact ⟨0, t0, Nat.zero_le _, rfl, HT0, (by go_simp), (by go_simp), (by go_simp), (by go_simp), (by simp), Z.hide (K.Far.of_ext ((K.Ext.refl _).alloc _))⟩
      case round =>
        obtain ⟨k, t, hk, rfl, HT, t1, t2, z1_, z2_, lb, HX⟩ := hrel
        have XR : K.Ext w wr := K.Far.ext F10 HX.out (K.Ext.size F10)
        have cr_0_0 := HX.out.cell_of c10_0_0 (by (try dsimp only); omega)
        have cr_0_1 := HX.out.cell_of c10_0_1 (by (try dsimp only); omega)
        have cr_0_2 := HX.out.cell_of c10_0_2 (by (try dsimp only); omega)
        have cr_0_3 := HX.out.cell_of c10_0_3 (by (try dsimp only); omega)
        have yr_0 : w1.heap.size < wr.heap.size := World.block_lt_of_cell? wr _ cr_0_0
        have nr_0 : ¬ (w1.heap.size = w10.heap.size) := by omega
        have ns_0 : ¬ (w10.heap.size = w1.heap.size) := by omega
        have cr_1_0 := HX.out.cell_of c10_1_0 (by (try dsimp only); omega)
        have cr_1_1 := HX.out.cell_of c10_1_1 (by (try dsimp only); omega)
        have yr_1 : w2.heap.size < wr.heap.size := World.block_lt_of_cell? wr _ cr_1_0
        have nr_1 : ¬ (w2.heap.size = w10.heap.size) := by omega
        have ns_1 : ¬ (w10.heap.size = w2.heap.size) := by omega
        have cr_3_0 := HX.out.cell_of c10_3_0 (by (try dsimp only); omega)
        have cr_3_1 := HX.out.cell_of c10_3_1 (by (try dsimp only); omega)
        have yr_3 : w4.heap.size < wr.heap.size := World.block_lt_of_cell? wr _ cr_3_0
        have nr_3 : ¬ (w4.heap.size = w10.heap.size) := by omega
        have ns_3 : ¬ (w10.heap.size = w4.heap.size) := by omega
        have cr_4_0 := HX.out.cell_of c10_4_0 (by (try dsimp only); omega)
        have cr_4_1 := HX.out.cell_of c10_4_1 (by (try dsimp only); omega)
        have yr_4 : w4.heap.size + 1 < wr.heap.size := World.block_lt_of_cell? wr _ cr_4_0
        have nr_4 : ¬ (w4.heap.size + 1 = w10.heap.size) := by omega
        have ns_4 : ¬ (w10.heap.size = w4.heap.size + 1) := by omega
        have R_F := K.ints.far (K.bin IF_10) HX.out (.inl (by omega))
        have R_V := K.recs.far (by decide) (K.bre IV_10) HX.out (.inl (by omega))
        clear c10_0_0 c10_0_1 c10_0_2 c10_0_3 y10_0 c10_1_0 c10_1_1 y10_1 c10_3_0 c10_3_1 y10_3 c10_4_0 c10_4_1 y10_4 IF_10 IV_10 F10
        have k0 : (0 : Int) ≤ (k : Int) := Int.natCast_nonneg k
        by_cases hlt : k < vs.length
        · as_aux_lemma =>
            have i1 : (k : Int) < (vs.length : Int) := by omega
            obtain ⟨bb, off, rfl, hb1, hb2, hc, _⟩ := K.recs_at R_V (by omega)
            have v0 : wr.cell? ⟨bb, off + k * 2, none⟩ = some (.int .i64 (vs[k]'hlt).1) := hc k hlt 0 (by decide)
            have v1 : wr.cell? ⟨bb, off + k * 2 + 1, none⟩ = some (.int .i64 (vs[k]'hlt).2) := hc k hlt 1 (by decide)
            clear hc
            have hl5 := HL5.out
            obtain ⟨bp, op, rfl, hp1, hp2, pc⟩ := K.ints_at R_F (by omega)
            have p0 := pc k (by omega)
            have i2 : (k : Int) < (F.pw.length : Int) := by omega
            clear pc hl5
            have hf := HL7.out k hlt
            have hp := HL8.out k hlt
            have HN := Z.hide (Z.logK_next (f := (F.dg, F.tn)) (ps := F.pw) k hlt)
            obtain ⟨q, hq⟩ : ∃ q, q = vs[k]'hlt := ⟨_, rfl⟩
            rw [← hq] at v0 v1 hf HN
            clear hq
            obtain ⟨n, hn⟩ : ∃ n, n = F.pw.getD k 0 := ⟨_, rfl⟩
            rw [← hn] at p0 hp HN
            have HN2 := Z.hide hn
            clear hn
            obtain ⟨r, hr⟩ : ∃ r, r = Z.figLog q := ⟨_, rfl⟩
            rw [← hr] at HN
            have Hr := Z.hide hr
            obtain ⟨s, hs⟩ : ∃ s, s = Z.scale1 r n := ⟨_, rfl⟩
            rw [← hs] at HN
            have Hs := Z.hide hs
            obtain ⟨t_, ht_⟩ : ∃ t_, t_ = Z.sumI t s := ⟨_, rfl⟩
            have Ht := Z.hide ht_
            have it := Z.logK_iv (f := (F.dg, F.tn)) (ps := F.pw) l3 l6 HL7.out HL8.out k hk
            rw [← HT.out] at it
            have is_ : Z.iv9 s := by rw [hs, hr]; exact Z.scale1_iv hf hp
            clear hr hs ht_
            have FW := HX.out
            clear cr_1_0 cr_1_1 yr_1 cr_3_0 cr_3_1 yr_3 cr_4_0 cr_4_1 yr_4
            go_wp2_with fail
            refine K.call (by with_reducible rfl) (by with_reducible rfl) (impl_FigN q Hr.out _ hf) ?_
            rintro e wx1 ⟨rfl, f1⟩
            have FW1 : K.Far (w10.heap.size) (w10.heap.size + 1) w10 wx1 := K.Far.trans (K.bfa FW) (K.Far.of_ext f1)
            have zz1 := f1.size
            (try simp at zz1)
            have ta1 : wx1.cell? ⟨w10.heap.size, 0, none⟩ = some (.int .i64 t.1) := f1.cell_of (by go_simp)
            have tb1 : wx1.cell? ⟨w10.heap.size, 1, none⟩ = some (.int .i64 t.2) := f1.cell_of (by go_simp)
            have pa1 : wx1.cell? ⟨bp, op + k, none⟩ = some (.int .i64 n) := f1.cell_of (by go_simp)
            have pb1 : wx1.cell? ⟨w1.heap.size, 3, none⟩ = some (.slice (some ⟨bp, op, none⟩) F.pw.length kF) := f1.cell_of (by go_simp)
            have th1_0 : wx1.frozen? ⟨w10.heap.size, 0, none⟩ = false := f1.thaw_of (by go_simp) (by go_simp)
            have th1_1 : wx1.frozen? ⟨w10.heap.size, 1, none⟩ = false := f1.thaw_of (by go_simp) (by go_simp)
            have yp0 : w10.heap.size < wx1.heap.size := by omega
            have yq0 : w10.heap.size < wx1.heap.size + 1 := by omega
            have yp1 : w1.heap.size < wx1.heap.size := by omega
            have yq1 : w1.heap.size < wx1.heap.size + 1 := by omega
            have yp2 : bp < wx1.heap.size := by omega
            have yq2 : bp < wx1.heap.size + 1 := by omega
            have nb1 : ¬ (w10.heap.size = wx1.heap.size) := by omega
            have nb2 : ¬ (w1.heap.size = wx1.heap.size) := by omega
            have nb3 : ¬ (bp = wx1.heap.size) := by omega
            have nb4 : ¬ (w10.heap.size = wx1.heap.size + 1) := by omega
            have nb5 : ¬ (w1.heap.size = wx1.heap.size + 1) := by omega
            have nb6 : ¬ (bp = wx1.heap.size + 1) := by omega
            go_wp2_with fail
            have nu0 : ¬ (wx1.heap.size + 1 = w10.heap.size) := (by omega)
            have nz0 : ¬ (w10.heap.size = wx1.heap.size + 1) := (by omega)
            have nu1 : ¬ (wx1.heap.size + 1 = w1.heap.size) := (by omega)
            have nz1 : ¬ (w1.heap.size = wx1.heap.size + 1) := (by omega)
            have nu2 : ¬ (wx1.heap.size + 1 = bp) := (by omega)
            have nz2 : ¬ (bp = wx1.heap.size + 1) := (by omega)
            have nu3 : ¬ (wx1.heap.size + 1 = wx1.heap.size) := (by omega)
            have nz3 : ¬ (wx1.heap.size = wx1.heap.size + 1) := (by omega)
            go_region_held3 (fun w' => w'.cell? ⟨wx1.heap.size, 0, none⟩ = some (.int .i64 r.1) ∧ w'.cell? ⟨wx1.heap.size, 1, none⟩ = some (.int .i64 r.2) ∧ w'.cell? ⟨bp, op + k, none⟩ = some (.int .i64 n) ∧ w'.cell? ⟨w1.heap.size, 3, none⟩ = some (.slice (some ⟨bp, op, none⟩) F.pw.length kF)) ((repeat' apply And.intro) <;> go_simp) (first | (go_at_call 57; refine K.call (by with_reducible rfl) (by with_reducible rfl) (impl_ScaN q n Hr.out Hs.out ((wx1.alloc (.cells #[.int .i64 r.1, .int .i64 r.2] 73)).drew.alloc (.cells #[.int .i64 0, .int .i64 0] 73)) hf hp) ?_; rintro e wx2 ⟨rfl, f2⟩; have FW2 : K.Far (w10.heap.size) (w10.heap.size + 1) w10 wx2 := K.Far.trans (K.bfa FW1) (K.Far.of_ext f2); have zz2 := f2.size; (try simp at zz2); have ta2 : wx2.cell? ⟨w10.heap.size, 0, none⟩ = some (.int .i64 t.1) := f2.cell_of (by go_simp); have tb2 : wx2.cell? ⟨w10.heap.size, 1, none⟩ = some (.int .i64 t.2) := f2.cell_of (by go_simp); have pa2 : wx2.cell? ⟨bp, op + k, none⟩ = some (.int .i64 n) := f2.cell_of (by go_simp); have pb2 : wx2.cell? ⟨w1.heap.size, 3, none⟩ = some (.slice (some ⟨bp, op, none⟩) F.pw.length kF) := f2.cell_of (by go_simp); have ra2 : wx2.cell? ⟨wx1.heap.size, 0, none⟩ = some (.int .i64 r.1) := f2.cell_of (by go_simp); have rb2 : wx2.cell? ⟨wx1.heap.size, 1, none⟩ = some (.int .i64 r.2) := f2.cell_of (by go_simp); have ywta : w10.heap.size < wx2.heap.size := World.block_lt_of_cell? wx2 _ ta2; have ywpa : bp < wx2.heap.size := World.block_lt_of_cell? wx2 _ pa2; have ywpb : w1.heap.size < wx2.heap.size := World.block_lt_of_cell? wx2 _ pb2; have ywra : wx1.heap.size < wx2.heap.size := World.block_lt_of_cell? wx2 _ ra2; have th2_0 : wx2.frozen? ⟨w10.heap.size, 0, none⟩ = false := f2.thaw_of (by go_simp) (by go_simp); have th2_1 : wx2.frozen? ⟨w10.heap.size, 1, none⟩ = false := f2.thaw_of (by go_simp) (by go_simp); have nv0 : ¬ (w10.heap.size = wx2.heap.size) := (by omega); have nv1 : ¬ (w1.heap.size = wx2.heap.size) := (by omega); have nv2 : ¬ (bp = wx2.heap.size) := (by omega); have nv3 : ¬ (wx1.heap.size = wx2.heap.size) := (by omega); have nw0 : ¬ (wx2.heap.size = w10.heap.size) := (by omega); have nw1 : ¬ (wx2.heap.size = w1.heap.size) := (by omega); have nw2 : ¬ (wx2.heap.size = bp) := (by omega); have nw3 : ¬ (wx2.heap.size = wx1.heap.size) := (by omega); have nt0 : wx2.cell? ⟨wx1.heap.size + 1, 0, none⟩ = some (.int .i64 0) := f2.cell_of (by go_simp); have nt1 : wx2.cell? ⟨wx1.heap.size + 1, 1, none⟩ = some (.int .i64 0) := f2.cell_of (by go_simp); have nh0 : wx2.frozen? ⟨wx1.heap.size + 1, 0, none⟩ = false := f2.thaw_of (by go_simp) (by go_simp); have nh1 : wx2.frozen? ⟨wx1.heap.size + 1, 1, none⟩ = false := f2.thaw_of (by go_simp) (by go_simp)) | (go_at_call 57; refine K.call (by with_reducible rfl) (by with_reducible rfl) (impl_ScaN q n Hr.out Hs.out (((wx1.alloc (.cells #[.int .i64 r.1, .int .i64 r.2] 73)).drew.alloc (.cells #[.int .i64 0, .int .i64 0] 73)).drew) hf hp) ?_; rintro e wx2 ⟨rfl, f2⟩; have FW2 : K.Far (w10.heap.size) (w10.heap.size + 1) w10 wx2 := K.Far.trans (K.bfa FW1) (K.Far.of_ext f2); have zz2 := f2.size; (try simp at zz2); have ta2 : wx2.cell? ⟨w10.heap.size, 0, none⟩ = some (.int .i64 t.1) := f2.cell_of (by go_simp); have tb2 : wx2.cell? ⟨w10.heap.size, 1, none⟩ = some (.int .i64 t.2) := f2.cell_of (by go_simp); have pa2 : wx2.cell? ⟨bp, op + k, none⟩ = some (.int .i64 n) := f2.cell_of (by go_simp); have pb2 : wx2.cell? ⟨w1.heap.size, 3, none⟩ = some (.slice (some ⟨bp, op, none⟩) F.pw.length kF) := f2.cell_of (by go_simp); have ra2 : wx2.cell? ⟨wx1.heap.size, 0, none⟩ = some (.int .i64 r.1) := f2.cell_of (by go_simp); have rb2 : wx2.cell? ⟨wx1.heap.size, 1, none⟩ = some (.int .i64 r.2) := f2.cell_of (by go_simp); have ywta : w10.heap.size < wx2.heap.size := World.block_lt_of_cell? wx2 _ ta2; have ywpa : bp < wx2.heap.size := World.block_lt_of_cell? wx2 _ pa2; have ywpb : w1.heap.size < wx2.heap.size := World.block_lt_of_cell? wx2 _ pb2; have ywra : wx1.heap.size < wx2.heap.size := World.block_lt_of_cell? wx2 _ ra2; have th2_0 : wx2.frozen? ⟨w10.heap.size, 0, none⟩ = false := f2.thaw_of (by go_simp) (by go_simp); have th2_1 : wx2.frozen? ⟨w10.heap.size, 1, none⟩ = false := f2.thaw_of (by go_simp) (by go_simp); have nv0 : ¬ (w10.heap.size = wx2.heap.size) := (by omega); have nv1 : ¬ (w1.heap.size = wx2.heap.size) := (by omega); have nv2 : ¬ (bp = wx2.heap.size) := (by omega); have nv3 : ¬ (wx1.heap.size = wx2.heap.size) := (by omega); have nw0 : ¬ (wx2.heap.size = w10.heap.size) := (by omega); have nw1 : ¬ (wx2.heap.size = w1.heap.size) := (by omega); have nw2 : ¬ (wx2.heap.size = bp) := (by omega); have nw3 : ¬ (wx2.heap.size = wx1.heap.size) := (by omega); have nt0 : wx2.cell? ⟨wx1.heap.size + 1, 0, none⟩ = some (.int .i64 0) := f2.cell_of (by go_simp); have nt1 : wx2.cell? ⟨wx1.heap.size + 1, 1, none⟩ = some (.int .i64 0) := f2.cell_of (by go_simp); have nh0 : wx2.frozen? ⟨wx1.heap.size + 1, 0, none⟩ = false := f2.thaw_of (by go_simp) (by go_simp); have nh1 : wx2.frozen? ⟨wx1.heap.size + 1, 1, none⟩ = false := f2.thaw_of (by go_simp) (by go_simp)) | (go_at_call 57; refine K.call (by with_reducible rfl) (by with_reducible rfl) (impl_ScaN q n Hr.out Hs.out (((wx1.alloc (.cells #[.int .i64 r.1, .int .i64 r.2] 73)).alloc (.cells #[.int .i64 0, .int .i64 0] 73)).drew) hf hp) ?_; rintro e wx2 ⟨rfl, f2⟩; have FW2 : K.Far (w10.heap.size) (w10.heap.size + 1) w10 wx2 := K.Far.trans (K.bfa FW1) (K.Far.of_ext f2); have zz2 := f2.size; (try simp at zz2); have ta2 : wx2.cell? ⟨w10.heap.size, 0, none⟩ = some (.int .i64 t.1) := f2.cell_of (by go_simp); have tb2 : wx2.cell? ⟨w10.heap.size, 1, none⟩ = some (.int .i64 t.2) := f2.cell_of (by go_simp); have pa2 : wx2.cell? ⟨bp, op + k, none⟩ = some (.int .i64 n) := f2.cell_of (by go_simp); have pb2 : wx2.cell? ⟨w1.heap.size, 3, none⟩ = some (.slice (some ⟨bp, op, none⟩) F.pw.length kF) := f2.cell_of (by go_simp); have ra2 : wx2.cell? ⟨wx1.heap.size, 0, none⟩ = some (.int .i64 r.1) := f2.cell_of (by go_simp); have rb2 : wx2.cell? ⟨wx1.heap.size, 1, none⟩ = some (.int .i64 r.2) := f2.cell_of (by go_simp); have ywta : w10.heap.size < wx2.heap.size := World.block_lt_of_cell? wx2 _ ta2; have ywpa : bp < wx2.heap.size := World.block_lt_of_cell? wx2 _ pa2; have ywpb : w1.heap.size < wx2.heap.size := World.block_lt_of_cell? wx2 _ pb2; have ywra : wx1.heap.size < wx2.heap.size := World.block_lt_of_cell? wx2 _ ra2; have th2_0 : wx2.frozen? ⟨w10.heap.size, 0, none⟩ = false := f2.thaw_of (by go_simp) (by go_simp); have th2_1 : wx2.frozen? ⟨w10.heap.size, 1, none⟩ = false := f2.thaw_of (by go_simp) (by go_simp); have nv0 : ¬ (w10.heap.size = wx2.heap.size) := (by omega); have nv1 : ¬ (w1.heap.size = wx2.heap.size) := (by omega); have nv2 : ¬ (bp = wx2.heap.size) := (by omega); have nv3 : ¬ (wx1.heap.size = wx2.heap.size) := (by omega); have nw0 : ¬ (wx2.heap.size = w10.heap.size) := (by omega); have nw1 : ¬ (wx2.heap.size = w1.heap.size) := (by omega); have nw2 : ¬ (wx2.heap.size = bp) := (by omega); have nw3 : ¬ (wx2.heap.size = wx1.heap.size) := (by omega); have nt0 : wx2.cell? ⟨wx1.heap.size + 1, 0, none⟩ = some (.int .i64 0) := f2.cell_of (by go_simp); have nt1 : wx2.cell? ⟨wx1.heap.size + 1, 1, none⟩ = some (.int .i64 0) := f2.cell_of (by go_simp); have nh0 : wx2.frozen? ⟨wx1.heap.size + 1, 0, none⟩ = false := f2.thaw_of (by go_simp) (by go_simp); have nh1 : wx2.frozen? ⟨wx1.heap.size + 1, 1, none⟩ = false := f2.thaw_of (by go_simp) (by go_simp)) | (go_at_call 57; refine K.call (by with_reducible rfl) (by with_reducible rfl) (impl_ScaN q n Hr.out Hs.out ((wx1.alloc (.cells #[.int .i64 r.1, .int .i64 r.2] 73)).alloc (.cells #[.int .i64 0, .int .i64 0] 73)) hf hp) ?_; rintro e wx2 ⟨rfl, f2⟩; have FW2 : K.Far (w10.heap.size) (w10.heap.size + 1) w10 wx2 := K.Far.trans (K.bfa FW1) (K.Far.of_ext f2); have zz2 := f2.size; (try simp at zz2); have ta2 : wx2.cell? ⟨w10.heap.size, 0, none⟩ = some (.int .i64 t.1) := f2.cell_of (by go_simp); have tb2 : wx2.cell? ⟨w10.heap.size, 1, none⟩ = some (.int .i64 t.2) := f2.cell_of (by go_simp); have pa2 : wx2.cell? ⟨bp, op + k, none⟩ = some (.int .i64 n) := f2.cell_of (by go_simp); have pb2 : wx2.cell? ⟨w1.heap.size, 3, none⟩ = some (.slice (some ⟨bp, op, none⟩) F.pw.length kF) := f2.cell_of (by go_simp); have ra2 : wx2.cell? ⟨wx1.heap.size, 0, none⟩ = some (.int .i64 r.1) := f2.cell_of (by go_simp); have rb2 : wx2.cell? ⟨wx1.heap.size, 1, none⟩ = some (.int .i64 r.2) := f2.cell_of (by go_simp); have ywta : w10.heap.size < wx2.heap.size := World.block_lt_of_cell? wx2 _ ta2; have ywpa : bp < wx2.heap.size := World.block_lt_of_cell? wx2 _ pa2; have ywpb : w1.heap.size < wx2.heap.size := World.block_lt_of_cell? wx2 _ pb2; have ywra : wx1.heap.size < wx2.heap.size := World.block_lt_of_cell? wx2 _ ra2; have th2_0 : wx2.frozen? ⟨w10.heap.size, 0, none⟩ = false := f2.thaw_of (by go_simp) (by go_simp); have th2_1 : wx2.frozen? ⟨w10.heap.size, 1, none⟩ = false := f2.thaw_of (by go_simp) (by go_simp); have nv0 : ¬ (w10.heap.size = wx2.heap.size) := (by omega); have nv1 : ¬ (w1.heap.size = wx2.heap.size) := (by omega); have nv2 : ¬ (bp = wx2.heap.size) := (by omega); have nv3 : ¬ (wx1.heap.size = wx2.heap.size) := (by omega); have nw0 : ¬ (wx2.heap.size = w10.heap.size) := (by omega); have nw1 : ¬ (wx2.heap.size = w1.heap.size) := (by omega); have nw2 : ¬ (wx2.heap.size = bp) := (by omega); have nw3 : ¬ (wx2.heap.size = wx1.heap.size) := (by omega); have nt0 : wx2.cell? ⟨wx1.heap.size + 1, 0, none⟩ = some (.int .i64 0) := f2.cell_of (by go_simp); have nt1 : wx2.cell? ⟨wx1.heap.size + 1, 1, none⟩ = some (.int .i64 0) := f2.cell_of (by go_simp); have nh0 : wx2.frozen? ⟨wx1.heap.size + 1, 0, none⟩ = false := f2.thaw_of (by go_simp) (by go_simp); have nh1 : wx2.frozen? ⟨wx1.heap.size + 1, 1, none⟩ = false := f2.thaw_of (by go_simp) (by go_simp)) | (go_at_call 57; refine K.call (by with_reducible rfl) (by with_reducible rfl) (impl_ScaN q n Hr.out Hs.out ((wx1.alloc (.cells #[.int .i64 r.1, .int .i64 r.2] 73)).drew.drew.alloc (.cells #[.int .i64 0, .int .i64 0] 73)) hf hp) ?_; rintro e wx2 ⟨rfl, f2⟩; have FW2 : K.Far (w10.heap.size) (w10.heap.size + 1) w10 wx2 := K.Far.trans (K.bfa FW1) (K.Far.of_ext f2); have zz2 := f2.size; (try simp at zz2); have ta2 : wx2.cell? ⟨w10.heap.size, 0, none⟩ = some (.int .i64 t.1) := f2.cell_of (by go_simp); have tb2 : wx2.cell? ⟨w10.heap.size, 1, none⟩ = some (.int .i64 t.2) := f2.cell_of (by go_simp); have pa2 : wx2.cell? ⟨bp, op + k, none⟩ = some (.int .i64 n) := f2.cell_of (by go_simp); have pb2 : wx2.cell? ⟨w1.heap.size, 3, none⟩ = some (.slice (some ⟨bp, op, none⟩) F.pw.length kF) := f2.cell_of (by go_simp); have ra2 : wx2.cell? ⟨wx1.heap.size, 0, none⟩ = some (.int .i64 r.1) := f2.cell_of (by go_simp); have rb2 : wx2.cell? ⟨wx1.heap.size, 1, none⟩ = some (.int .i64 r.2) := f2.cell_of (by go_simp); have ywta : w10.heap.size < wx2.heap.size := World.block_lt_of_cell? wx2 _ ta2; have ywpa : bp < wx2.heap.size := World.block_lt_of_cell? wx2 _ pa2; have ywpb : w1.heap.size < wx2.heap.size := World.block_lt_of_cell? wx2 _ pb2; have ywra : wx1.heap.size < wx2.heap.size := World.block_lt_of_cell? wx2 _ ra2; have th2_0 : wx2.frozen? ⟨w10.heap.size, 0, none⟩ = false := f2.thaw_of (by go_simp) (by go_simp); have th2_1 : wx2.frozen? ⟨w10.heap.size, 1, none⟩ = false := f2.thaw_of (by go_simp) (by go_simp); have nv0 : ¬ (w10.heap.size = wx2.heap.size) := (by omega); have nv1 : ¬ (w1.heap.size = wx2.heap.size) := (by omega); have nv2 : ¬ (bp = wx2.heap.size) := (by omega); have nv3 : ¬ (wx1.heap.size = wx2.heap.size) := (by omega); have nw0 : ¬ (wx2.heap.size = w10.heap.size) := (by omega); have nw1 : ¬ (wx2.heap.size = w1.heap.size) := (by omega); have nw2 : ¬ (wx2.heap.size = bp) := (by omega); have nw3 : ¬ (wx2.heap.size = wx1.heap.size) := (by omega); have nt0 : wx2.cell? ⟨wx1.heap.size + 1, 0, none⟩ = some (.int .i64 0) := f2.cell_of (by go_simp); have nt1 : wx2.cell? ⟨wx1.heap.size + 1, 1, none⟩ = some (.int .i64 0) := f2.cell_of (by go_simp); have nh0 : wx2.frozen? ⟨wx1.heap.size + 1, 0, none⟩ = false := f2.thaw_of (by go_simp) (by go_simp); have nh1 : wx2.frozen? ⟨wx1.heap.size + 1, 1, none⟩ = false := f2.thaw_of (by go_simp) (by go_simp)) | (go_at_call 57; refine K.call (by with_reducible rfl) (by with_reducible rfl) (impl_ScaN q n Hr.out Hs.out (((wx1.alloc (.cells #[.int .i64 r.1, .int .i64 r.2] 73)).drew.drew.alloc (.cells #[.int .i64 0, .int .i64 0] 73)).drew) hf hp) ?_; rintro e wx2 ⟨rfl, f2⟩; have FW2 : K.Far (w10.heap.size) (w10.heap.size + 1) w10 wx2 := K.Far.trans (K.bfa FW1) (K.Far.of_ext f2); have zz2 := f2.size; (try simp at zz2); have ta2 : wx2.cell? ⟨w10.heap.size, 0, none⟩ = some (.int .i64 t.1) := f2.cell_of (by go_simp); have tb2 : wx2.cell? ⟨w10.heap.size, 1, none⟩ = some (.int .i64 t.2) := f2.cell_of (by go_simp); have pa2 : wx2.cell? ⟨bp, op + k, none⟩ = some (.int .i64 n) := f2.cell_of (by go_simp); have pb2 : wx2.cell? ⟨w1.heap.size, 3, none⟩ = some (.slice (some ⟨bp, op, none⟩) F.pw.length kF) := f2.cell_of (by go_simp); have ra2 : wx2.cell? ⟨wx1.heap.size, 0, none⟩ = some (.int .i64 r.1) := f2.cell_of (by go_simp); have rb2 : wx2.cell? ⟨wx1.heap.size, 1, none⟩ = some (.int .i64 r.2) := f2.cell_of (by go_simp); have ywta : w10.heap.size < wx2.heap.size := World.block_lt_of_cell? wx2 _ ta2; have ywpa : bp < wx2.heap.size := World.block_lt_of_cell? wx2 _ pa2; have ywpb : w1.heap.size < wx2.heap.size := World.block_lt_of_cell? wx2 _ pb2; have ywra : wx1.heap.size < wx2.heap.size := World.block_lt_of_cell? wx2 _ ra2; have th2_0 : wx2.frozen? ⟨w10.heap.size, 0, none⟩ = false := f2.thaw_of (by go_simp) (by go_simp); have th2_1 : wx2.frozen? ⟨w10.heap.size, 1, none⟩ = false := f2.thaw_of (by go_simp) (by go_simp); have nv0 : ¬ (w10.heap.size = wx2.heap.size) := (by omega); have nv1 : ¬ (w1.heap.size = wx2.heap.size) := (by omega); have nv2 : ¬ (bp = wx2.heap.size) := (by omega); have nv3 : ¬ (wx1.heap.size = wx2.heap.size) := (by omega); have nw0 : ¬ (wx2.heap.size = w10.heap.size) := (by omega); have nw1 : ¬ (wx2.heap.size = w1.heap.size) := (by omega); have nw2 : ¬ (wx2.heap.size = bp) := (by omega); have nw3 : ¬ (wx2.heap.size = wx1.heap.size) := (by omega); have nt0 : wx2.cell? ⟨wx1.heap.size + 1, 0, none⟩ = some (.int .i64 0) := f2.cell_of (by go_simp); have nt1 : wx2.cell? ⟨wx1.heap.size + 1, 1, none⟩ = some (.int .i64 0) := f2.cell_of (by go_simp); have nh0 : wx2.frozen? ⟨wx1.heap.size + 1, 0, none⟩ = false := f2.thaw_of (by go_simp) (by go_simp); have nh1 : wx2.frozen? ⟨wx1.heap.size + 1, 1, none⟩ = false := f2.thaw_of (by go_simp) (by go_simp)) | (go_at_call 57; refine K.call (by with_reducible rfl) (by with_reducible rfl) (impl_ScaN q n Hr.out Hs.out _ hf hp) ?_; rintro e wx2 ⟨rfl, f2⟩; have FW2 : K.Far (w10.heap.size) (w10.heap.size + 1) w10 wx2 := K.Far.trans (K.bfa FW1) (K.Far.of_ext f2); have zz2 := f2.size; (try simp at zz2); have ta2 : wx2.cell? ⟨w10.heap.size, 0, none⟩ = some (.int .i64 t.1) := f2.cell_of (by go_simp); have tb2 : wx2.cell? ⟨w10.heap.size, 1, none⟩ = some (.int .i64 t.2) := f2.cell_of (by go_simp); have pa2 : wx2.cell? ⟨bp, op + k, none⟩ = some (.int .i64 n) := f2.cell_of (by go_simp); have pb2 : wx2.cell? ⟨w1.heap.size, 3, none⟩ = some (.slice (some ⟨bp, op, none⟩) F.pw.length kF) := f2.cell_of (by go_simp); have ra2 : wx2.cell? ⟨wx1.heap.size, 0, none⟩ = some (.int .i64 r.1) := f2.cell_of (by go_simp); have rb2 : wx2.cell? ⟨wx1.heap.size, 1, none⟩ = some (.int .i64 r.2) := f2.cell_of (by go_simp); have ywta : w10.heap.size < wx2.heap.size := World.block_lt_of_cell? wx2 _ ta2; have ywpa : bp < wx2.heap.size := World.block_lt_of_cell? wx2 _ pa2; have ywpb : w1.heap.size < wx2.heap.size := World.block_lt_of_cell? wx2 _ pb2; have ywra : wx1.heap.size < wx2.heap.size := World.block_lt_of_cell? wx2 _ ra2; have th2_0 : wx2.frozen? ⟨w10.heap.size, 0, none⟩ = false := f2.thaw_of (by go_simp) (by go_simp); have th2_1 : wx2.frozen? ⟨w10.heap.size, 1, none⟩ = false := f2.thaw_of (by go_simp) (by go_simp); have nv0 : ¬ (w10.heap.size = wx2.heap.size) := (by omega); have nv1 : ¬ (w1.heap.size = wx2.heap.size) := (by omega); have nv2 : ¬ (bp = wx2.heap.size) := (by omega); have nv3 : ¬ (wx1.heap.size = wx2.heap.size) := (by omega); have nw0 : ¬ (wx2.heap.size = w10.heap.size) := (by omega); have nw1 : ¬ (wx2.heap.size = w1.heap.size) := (by omega); have nw2 : ¬ (wx2.heap.size = bp) := (by omega); have nw3 : ¬ (wx2.heap.size = wx1.heap.size) := (by omega)))
            all_goals
              have nb7 : ¬ (w10.heap.size = wx2.heap.size) := by omega
              have yr7 : w10.heap.size < wx2.heap.size := by omega
              have yr8 : w10.heap.size < wx2.heap.size + 1 := by omega
              go_wp2_with fail
              refine K.call (by with_reducible rfl) (by with_reducible rfl) (impl_AddN t s Ht.out _ it is_) ?_
              rintro e wx3 ⟨rfl, f3⟩
              have FW3 : K.Far (w10.heap.size) (w10.heap.size + 1) w10 wx3 := K.Far.trans (K.bfa FW2) (K.Far.of_ext f3)
              have zz3 := f3.size
              (try simp at zz3)
              have ta3 : wx3.cell? ⟨w10.heap.size, 0, none⟩ = some (.int .i64 t.1) := f3.cell_of (by go_simp)
              have tb3 : wx3.cell? ⟨w10.heap.size, 1, none⟩ = some (.int .i64 t.2) := f3.cell_of (by go_simp)
              have th3_0 : wx3.frozen? ⟨w10.heap.size, 0, none⟩ = false := f3.thaw_of (by go_simp) (by go_simp)
              have th3_1 : wx3.frozen? ⟨w10.heap.size, 1, none⟩ = false := f3.thaw_of (by go_simp) (by go_simp)
              have nb8 : ¬ (w10.heap.size = wx3.heap.size) := by omega
              have yr9 : w10.heap.size < wx3.heap.size := by omega
              go_wp2_with fail
              go_roundw
              case rel => exact ⟨k + 1, t_, Nat.succ_le_of_lt hlt, by go_num, Z.hide (by rw [HN.out, Ht.out, HT.out]), (by go_simp), (by go_simp), (by go_simp), (by go_simp), (by simp; omega), Z.hide (by with_reducible repeat' (first | exact FW3 | refine K.Far.setCell ?_ ?_ ?_ _ | refine K.Far.alloc ?_ _ | refine K.Far.drew ?_ | (dsimp only; omega)))⟩
              case measure => simp only [intOf]; omega
        · as_aux_lemma =>
            obtain rfl : k = vs.length := by omega
            obtain rfl : t = A.1 := HT.out.trans HA1.out.symm
            have HLA := HA1
            clear HT HL5 HL7 HL8
            have hA1_ : A.1 = A.1 := rfl
            by_cases h1 : Sp.2.2 = 0
            · as_aux_lemma =>
                have hs0 : (Z.FormulaSpan F vs).2.2 = 0 := by rw [hS]; exact h1
                have hsp := Z.span_law hs0
                rw [hS] at hsp
                obtain ⟨s1, s2, s3, s4⟩ := hsp
                rw [HL2.out] at s3 s4
                obtain ⟨L, hL⟩ : ∃ L, L = Z.logK (F.dg, F.tn) vs F.pw vs.length := ⟨_, rfl⟩
                rw [← hL] at s3 s4
                obtain ⟨u, hu⟩ : ∃ u, u = Z.figLog Sp.1 := ⟨_, rfl⟩
                obtain ⟨x, hx⟩ : ∃ x, x = Z.figLog Sp.2.1 := ⟨_, rfl⟩
                rw [← hu] at s3
                rw [← hx] at s4
                have Hu := Z.hide hu
                have Hx := Z.hide hx
                clear hu hx
                rw [← HLA.out] at hL
                subst hL
                clear hs0 hS HL2
                go_wp2_with fail
                refine K.call (by with_reducible rfl) (by with_reducible rfl) (impl_FigN Sp.1 Hu.out _ s1) ?_
                rintro e w11 ⟨rfl, f11⟩
                have F11 : K.Ext w w11 := K.Ext.trans (K.bex XR) f11
                have c11_1_0 : w11.cell? ⟨w2.heap.size, 0, none⟩ = some (.int .i64 A.1.1) := f11.cell_of (by go_simp)
                have c11_1_1 : w11.cell? ⟨w2.heap.size, 1, none⟩ = some (.int .i64 A.1.2) := f11.cell_of (by go_simp)
                have y11_1 : w2.heap.size < w11.heap.size := World.block_lt_of_cell? w11 _ c11_1_0
                have c11_3_0 : w11.cell? ⟨w4.heap.size, 0, none⟩ = some (.int .i64 Sp.1.1) := f11.cell_of (by go_simp)
                have c11_3_1 : w11.cell? ⟨w4.heap.size, 1, none⟩ = some (.int .i64 Sp.1.2) := f11.cell_of (by go_simp)
                have y11_3 : w4.heap.size < w11.heap.size := World.block_lt_of_cell? w11 _ c11_3_0
                have c11_4_0 : w11.cell? ⟨w4.heap.size + 1, 0, none⟩ = some (.int .i64 Sp.2.1.1) := f11.cell_of (by go_simp)
                have c11_4_1 : w11.cell? ⟨w4.heap.size + 1, 1, none⟩ = some (.int .i64 Sp.2.1.2) := f11.cell_of (by go_simp)
                have y11_4 : w4.heap.size + 1 < w11.heap.size := World.block_lt_of_cell? w11 _ c11_4_0
                clear cr_0_0 cr_0_1 cr_0_2 cr_0_3 yr_0 cr_1_0 cr_1_1 yr_1 cr_3_0 cr_3_1 yr_3 cr_4_0 cr_4_1 yr_4 XR f11
                go_wp2_with fail
                refine K.call (by with_reducible rfl) (by with_reducible rfl) (impl_FigN Sp.2.1 Hx.out _ s2) ?_
                rintro e w12 ⟨rfl, f12⟩
                have u12_1_1 : w2.heap.size < w11.heap.size + 1 := (by omega)
                have u12_3_1 : w4.heap.size < w11.heap.size + 1 := (by omega)
                have u12_4_1 : w4.heap.size + 1 < w11.heap.size + 1 := (by omega)
                have F12 : K.Ext w w12 := K.Ext.trans (K.bex F11) f12
                obtain ⟨c12_1_0, c12_1_1, y12_1⟩ := f12.q2 c11_1_0 c11_1_1
                obtain ⟨c12_3_0, c12_3_1, y12_3⟩ := f12.q2 c11_3_0 c11_3_1
                obtain ⟨c12_4_0, c12_4_1, y12_4⟩ := f12.q2 c11_4_0 c11_4_1
                have c12_11_0 : w12.cell? ⟨w11.heap.size, 0, none⟩ = some (.int .i64 u.1) := f12.cell_of (by go_simp)
                have c12_11_1 : w12.cell? ⟨w11.heap.size, 1, none⟩ = some (.int .i64 u.2) := f12.cell_of (by go_simp)
                have y12_11 : w11.heap.size < w12.heap.size := World.block_lt_of_cell? w12 _ c12_11_0
                clear c11_1_0 c11_1_1 y11_1 c11_3_0 c11_3_1 y11_3 c11_4_0 c11_4_1 y11_4 F11 f12 u12_1_1 u12_3_1 u12_4_1
                go_wp2_with fail
                go_ret
                exact ⟨rfl, (K.bex F12)⟩
            have h1' : (Sp.2.2 == 0) = false := by simpa using h1
            go_wp2_with fail
            go_ret
            exact ⟨rfl, (K.bex XR)⟩
  have hb' : (A.2 == 0) = false := by simpa using hb
  go_wp2_with fail
  go_ret
  exact ⟨rfl, (K.bex F9)⟩
end Go.Proofs.Ythmnlbgbacbocaa
end
section
namespace Go.Proofs.Ythmnlbgbacbocaa
open Go.ChangeShapes Go.WideShapes Go.ChangeAt Go.RowKit
namespace frameFnFormulaValues
theorem own : ownKnob Try.prog.godebug = none := by kernel_rfl
theorem laidOut : laidOutB Try.prog = true := by kernel_rfl
theorem reads : ∀ t ∈ Try.f6.params.toList, Try.prog.readableRec t = true ∧ t < Try.prog.types.size := by
  rw [Try.params6]
  intro t ht
  simp only [List.mem_cons, List.not_mem_nil, or_false] at ht
  subst ht; exact ⟨by kernel_rfl, of_decide_eq_true (by kernel_rfl)⟩
set_option maxRecDepth 100000 in
theorem lifted (os : Os) (started : os.Started) (H : Type) (enc : TypeId × Value → H) :
    ReturnsInHanded {} Try.checked os 6 .any (Rows.fnFormulaValuesSpec.pre6 enc Try.prog Try.f6 Rows.fnFormulaValuesRow.domain false) (Rows.fnFormulaValuesSpec.post enc Try.prog Try.f6 false true false false) := by
  refine returnsInHanded_of_change (C := Try.checked) own started (by kernel_rfl) Try.func6
    (ChangeSpec.witness6 (enc := enc) (C := Try.checked) false ⟨#[], #[.slice none 0 0], []⟩ 8 (by kernel_rfl) (by kernel_rfl) (by kernel_rfl) (by kernel_rfl)) ?_
  intro W base args ds gs before hval0 hW hcnd _
  have hval : ∀ (j : Nat) t v, Try.f6.params[j]? = some t → args[j]? = some v → Value.okWide Try.prog W .any base t v := hval0
  have hW' := hW
  obtain ⟨p, q, hA0, hV, rfl, hfz, hnd⟩ := hW
  have hA : DataW.TrodAll enc Try.prog W 0 (fun _ => true) true Try.f6.params.toList args.toList ds p := hA0
  rw [Try.params6] at hA hval
  obtain ⟨rfl, rfl⟩ := trodVars_none hV
  obtain ⟨v0, vs0, d0, ds0, p0, q0, hargs, rfl, rfl, h0, r0⟩ := trodAll_cons hA
  obtain ⟨rfl, rfl, rfl⟩ := trodAll_nil r0
  obtain rfl : args = #[v0] := by cases args; simp_all
  clear hA0 hval0
  obtain ⟨a0, l0, c0, rfl⟩ := okWide_slice Try.underlying22 (hval 0 22 v0 rfl rfl)
  obtain ⟨fu0, hf0⟩ := h0
  obtain ⟨x0, zs0, ex0, hx0, hl0, hq0⟩ := K.recs_arg (R := K.ByR) (Q := fun s => 0 ≤ s ∧ s ≤ 255) 0 (by decide) Try.underlying22 (by kernel_rfl) (fun n cs y hy => K.byte_cells Try.underlying5 hy) hf0
  obtain rfl : Value.slice a0 l0 c0 = x0 := by simpa [Value.cells] using ex0
  refine Calls.mono (law_FnFormulaValues  W (K.byts_of_recs hx0 hq0)) fun e W' ⟨he, hg⟩ => ?_
  subst he
  exact ⟨_, rfl, K.law_post laidOut reads rfl Try.underlying4 rfl hW' rfl hg⟩
theorem over : Rows.fnFormulaValuesRow.holds Try.pinned (OpenSpec.ofChange Rows.fnFormulaValuesSpec) :=
  OpenClaim.holds_of_wide 6 Try.f6 rfl rfl rfl rfl rfl rfl rfl ⟨rfl, rfl, rfl, rfl, rfl⟩ rfl rfl rfl rfl rfl (by kernel_rfl) Try.func6 (by kernel_rfl)
    (of_decide_eq_true (by kernel_rfl)) (by unfold Func.isWrapper; first | (rw [if_pos (by decide +kernel)]; kernel_rfl) | (rw [if_neg (by decide +kernel)]; exact ⟨rfl, rfl⟩))
    (fun os started H enc _ => lifted os started H enc)
/-- The given statement. -/
theorem proved : Rows.FnFormulaValuesSaid := over
#print axioms proved
end frameFnFormulaValues
end Go.Proofs.Ythmnlbgbacbocaa
end
