/-
  THE UNIT of a formula, both sides.
-/
import Derived.Test.YtphlppklhpaljaaUnitS3
set_option linter.unusedVariables false
namespace Go.Z
def UnitOf (F : Fm) (uss : List (List Int)) : List Int × Int := if isFormula F && okUnits F uss then unitOr (unitK F.pw uss uss.length) else ([], 1)
theorem okUnits_len {F : Fm} {uss : List (List Int)} (h : okUnits F uss = true) : uss.length = F.nm.size ∧ allUnits uss = true := by
  simpa [okUnits] using h
theorem UnitOf_le (F : Fm) (uss : List (List Int)) : (UnitOf F uss).1.length ≤ 1048576 := by
  unfold UnitOf; split
  · exact Nat.le_trans (unitOr_len _) (by decide)
  · simp
end Go.Z
namespace Go.Proofs.Ytphlppklhpaljaa
open Go.RowKit
set_option maxHeartbeats 3200000 in
theorem impl_UnitOf (F : Z.Fm) (U : List (List Int)) {loF hiF : Nat} {pF : Value} {loU hiU : Nat} {pU : Value} (w : World)  (hmF : F.pw.length ≤ 1048576) (hnF : F.nm.size ≤ 1048576) (hF : K.ints w loF hiF pF F.pw) (hmU : U.length ≤ 1048576) (hqU : ∀ xs ∈ U, (xs : List Int).length ≤ 1048576) (hU : K.rows w loU hiU pU U) :
    Calls Try.prog 20 #[.agg #[.int .i64 F.dg, .int .i64 F.tn, .string F.nm, pF], pU] w fun e w' => (∃ p', e = .returned (.tuple #[p', .int .i64 ((Z.UnitOf F U).2)]) ∧ K.own w' w.heap.size w'.heap.size p' ((Z.UnitOf F U).1)) ∧ K.Ext w w' := by
  have hF_ := hF
  have shF := hF
  obtain ⟨oF, cF, rfl, _⟩ := shF
  have hU_ := hU
  have shU := hU
  obtain ⟨oU, cU, _, rfl, _⟩ := shU
  obtain ⟨t, ht⟩ : ∃ t, t = (Z.isFormula F && Z.okUnits F U) := ⟨_, rfl⟩
  have HA : ∀ {a b c d : Nat} {p v : Value} (w : World), K.ints w a b p F.pw → K.rows w c d v U → Calls Try.prog 109 #[.agg #[.int .i64 F.dg, .int .i64 F.tn, .string F.nm, p], v] w fun e w' => e = .returned (.bool t) ∧ K.Ext w w' := fun w h h' => by rw [ht]; exact areUnits_any F U w hmF hnF h hmU hqU h'
  cases t
  · have HE : Hid (Z.UnitOf F U = ([], 1)) := Z.hide (by unfold Z.UnitOf; rw [← ht]; rfl)
    clear ht
    have X0 : K.Ext w w := K.Ext.refl w
    go_enter Try.func20, Try.ntmps20
    go_wp2_with (go_at_call 109; refine K.call (by with_reducible rfl) (by with_reducible rfl) (HA _ (K.ints.alloc hF_ _) (K.rows.alloc hU_ _)) ?_; rintro e w1 ⟨rfl, x1⟩; have s1 : w.heap.size + 1 ≤ w1.heap.size := (by have h_ := x1.size; (try simp at h_); omega); have X1 := K.Ext.trans (K.Ext.alloc X0 _) x1; obtain ⟨c1_0_0, c1_0_1, c1_0_2, c1_0_3⟩ := K.c4 x1 (w.heap.size) (.int .i64 F.dg) (.int .i64 F.tn) (.string F.nm) (.slice oF F.pw.length cF) (by go_simp); have z1_0 : w.heap.size < w1.heap.size := World.block_lt_of_cell? w1 _ c1_0_0; have d1_0 : ¬ (w.heap.size = w1.heap.size) := (by omega); have e1_0 : ¬ (w1.heap.size = w.heap.size) := (by omega); have F1_1 := K.ints.ext (K.ints.alloc hF_ _) x1; have F2_1 := K.rows.ext (K.rows.alloc hU_ _) x1; clear hF_ hU_)
    rw [HE.out]
    refine bodyPost_ret (v := .tuple #[.slice none 0 0, .int .i64 1]) (by unfold results; rw [Try.results20]; go_simp) rfl ⟨⟨_, rfl, ?_⟩, ?_⟩
    · exact K.own_nil _ _ _
    · repeat with_reducible refine K.Ext.setCell ?_ (by dsimp only; omega) _
      exact (by repeat' (first | with_reducible exact X1 | with_reducible refine K.Ext.setCell ?_ ?_ _ | with_reducible refine K.Ext.alloc ?_ _ | with_reducible refine K.Ext.drew ?_ | (dsimp only; omega) | omega | (simp; omega)))
  · obtain ⟨k, hk⟩ : ∃ k, k = Z.unitK F.pw U U.length := ⟨_, rfl⟩
    obtain ⟨M, hM⟩ : ∃ M, M = Z.unitOr k := ⟨_, rfl⟩
    have HE : Hid (Z.UnitOf F U = M) := Z.hide (by unfold Z.UnitOf; rw [← ht, hM, hk]; rfl)
    have h3 : Z.isFormula F = true ∧ Z.okUnits F U = true := by simpa using ht.symm
    have HK : ∀ {a b c d : Nat} {p v : Value} (w : World), K.ints w a b p F.pw → K.rows w c d v U → Calls Try.prog 111 #[.agg #[.int .i64 F.dg, .int .i64 F.tn, .string F.nm, p], v] w fun e w' => (∃ r, e = .returned r ∧ K.own w' w.heap.size w'.heap.size r k) ∧ K.Ext w w' := fun w h h' => by
      rw [hk]; exact unitOf_any F U w h3.1 (Z.okUnits_len h3.2).1 (Z.okUnits_len h3.2).2 h h'
    have hkl : k.length ≤ 1048576 := by rw [hk, Z.unitK_length]; decide
    have HR : ∀ {a b : Nat} {v : Value} (w : World), K.own w a b v k → Calls Try.prog 110 #[v] w fun e w' => (∃ r, e = .returned (.tuple #[r, .int .i64 M.2]) ∧ K.own w' a b r M.1) ∧ K.Ext w w' := fun w h => by
      rw [hM]; exact (unitOr_any k _ _ _ w hkl h).mono fun e w' ⟨⟨r, he, ho⟩, hw⟩ => by subst hw; exact ⟨⟨r, he, ho⟩, K.Ext.refl _⟩
    clear ht hk h3 hM
    have X0 : K.Ext w w := K.Ext.refl w
    go_enter Try.func20, Try.ntmps20
    go_wp2_with (go_at_call 109; refine K.call (by with_reducible rfl) (by with_reducible rfl) (HA _ (K.ints.alloc hF_ _) (K.rows.alloc hU_ _)) ?_; rintro e w1 ⟨rfl, x1⟩; have s1 : w.heap.size + 1 ≤ w1.heap.size := (by have h_ := x1.size; (try simp at h_); omega); have X1 := K.Ext.trans (K.Ext.alloc X0 _) x1; obtain ⟨c1_0_0, c1_0_1, c1_0_2, c1_0_3⟩ := K.c4 x1 (w.heap.size) (.int .i64 F.dg) (.int .i64 F.tn) (.string F.nm) (.slice oF F.pw.length cF) (by go_simp); have z1_0 : w.heap.size < w1.heap.size := World.block_lt_of_cell? w1 _ c1_0_0; have d1_0 : ¬ (w.heap.size = w1.heap.size) := (by omega); have e1_0 : ¬ (w1.heap.size = w.heap.size) := (by omega); have F1_1 := K.ints.ext (K.ints.alloc hF_ _) x1; have F2_1 := K.rows.ext (K.rows.alloc hU_ _) x1; clear hF_ hU_)
    go_wp2_with (go_at_call 111; refine K.call (by with_reducible rfl) (by with_reducible rfl) (HK _ (F1_1) (F2_1)) ?_; rintro e w2 ⟨⟨p2, rfl, g2⟩, x2⟩; obtain ⟨o2, k2, rfl, _⟩ := K.own.ints g2; have F3_2 : K.own w2 (w1.heap.size) (w2.heap.size) (.slice o2 k.length k2) (k) := g2.mono (by simp) (Nat.le_refl _); clear g2; have s2 : w1.heap.size ≤ w2.heap.size := (by have h_ := x2.size; (try simp at h_); omega); have X2 := K.Ext.trans (X1) x2; obtain ⟨c2_0_0, c2_0_1, c2_0_2, c2_0_3⟩ := K.c4 x2 (w.heap.size) (.int .i64 F.dg) (.int .i64 F.tn) (.string F.nm) (.slice oF F.pw.length cF) (by go_simp); have z2_0 : w.heap.size < w2.heap.size := World.block_lt_of_cell? w2 _ c2_0_0; have d2_0 : ¬ (w.heap.size = w2.heap.size) := (by omega); have e2_0 : ¬ (w2.heap.size = w.heap.size) := (by omega); have F1_2 := K.ints.ext (F1_1) x2; have F2_2 := K.rows.ext (F2_1) x2; clear c1_0_0 c1_0_1 c1_0_2 c1_0_3 z1_0 d1_0 e1_0 F1_1 F2_1)
    go_wp2_with (go_at_call 110; refine K.call (by with_reducible rfl) (by with_reducible rfl) (HR _ (F3_2)) ?_; rintro e w3 ⟨⟨p3, rfl, g3⟩, x3⟩; obtain ⟨o3, k3, rfl, _⟩ := K.own.ints g3; have F4_3 : K.own w3 (w1.heap.size) (w2.heap.size) (.slice o3 M.1.length k3) (M.1) := g3.mono (Nat.le_refl _) (Nat.le_refl _); clear g3; have s3 : w2.heap.size ≤ w3.heap.size := (by have h_ := x3.size; (try simp at h_); omega); have X3 := K.Ext.trans (X2) x3; obtain ⟨c3_0_0, c3_0_1, c3_0_2, c3_0_3⟩ := K.c4 x3 (w.heap.size) (.int .i64 F.dg) (.int .i64 F.tn) (.string F.nm) (.slice oF F.pw.length cF) (by go_simp); have z3_0 : w.heap.size < w3.heap.size := World.block_lt_of_cell? w3 _ c3_0_0; have d3_0 : ¬ (w.heap.size = w3.heap.size) := (by omega); have e3_0 : ¬ (w3.heap.size = w.heap.size) := (by omega); have F1_3 := K.ints.ext (F1_2) x3; have F2_3 := K.rows.ext (F2_2) x3; have F3_3 := K.own.ext (F3_2) x3; clear c2_0_0 c2_0_1 c2_0_2 c2_0_3 z2_0 d2_0 e2_0 F1_2 F2_2 F3_2)
    rw [HE.out]
    refine bodyPost_ret (v := .tuple #[.slice o3 M.1.length k3, .int .i64 M.2]) (by unfold results; rw [Try.results20]; go_simp) rfl ⟨⟨_, rfl, ?_⟩, ?_⟩
    · refine K.own.mono (lo := w1.heap.size) (hi := w2.heap.size) ?_ (by first | omega | (simp; done) | (simp; omega)) (by first | omega | (simp; done) | (simp; omega))
      repeat' (first | with_reducible exact F4_3 | with_reducible refine K.own.set ?_ _ ?_ _ | with_reducible refine K.own.alloc ?_ _ | with_reducible refine K.own.drew ?_ | (dsimp only; omega) | omega | (simp; done) | (simp; omega))
    · repeat with_reducible refine K.Ext.setCell ?_ (by dsimp only; omega) _
      exact (by repeat' (first | with_reducible exact X3 | with_reducible refine K.Ext.setCell ?_ ?_ _ | with_reducible refine K.Ext.alloc ?_ _ | with_reducible refine K.Ext.drew ?_ | (dsimp only; omega) | omega | (simp; omega)))
set_option maxHeartbeats 3200000 in
theorem spec_UnitOf (F : Z.Fm) (U : List (List Int)) {loF hiF : Nat} {pF : Value} {loU hiU : Nat} {pU : Value} (w : World)  (hmF : F.pw.length ≤ 1048576) (hnF : F.nm.size ≤ 1048576) (hF : K.ints w loF hiF pF F.pw) (hmU : U.length ≤ 1048576) (hqU : ∀ xs ∈ U, (xs : List Int).length ≤ 1048576) (hU : K.rows w loU hiU pU U) :
    Calls Try.prog 17 #[.agg #[.int .i64 F.dg, .int .i64 F.tn, .string F.nm, pF], pU] w fun e w' => (∃ p', e = .returned (.tuple #[p', .int .i64 ((Z.UnitOf F U).2)]) ∧ K.ints w' w.heap.size w'.heap.size p' ((Z.UnitOf F U).1)) ∧ K.Ext w w' := by
  have hF_ := hF
  have shF := hF
  obtain ⟨oF, cF, rfl, _⟩ := shF
  have hU_ := hU
  have shU := hU
  obtain ⟨oU, cU, _, rfl, _⟩ := shU
  cases vF : Z.isFormula F
  · have HE : Hid (Z.UnitOf F U = ([], 1)) := Z.hide (by unfold Z.UnitOf; rw [vF]; rfl)
    have X0 : K.Ext w w := K.Ext.refl w
    go_enter Try.func17, Try.ntmps17
    go_wp2_with (go_at_call 104; refine K.call (by with_reducible rfl) (by with_reducible rfl) (spec_IsFormula F _ hmF hnF (K.ints.alloc hF_ _)) ?_; rintro e w1 ⟨rfl, x1⟩; have s1 : w.heap.size + 1 ≤ w1.heap.size := (by have h_ := x1.size; (try simp at h_); omega); have X1 := K.Ext.trans (K.Ext.alloc X0 _) x1; obtain ⟨c1_0_0, c1_0_1, c1_0_2, c1_0_3⟩ := K.c4 x1 (w.heap.size) (.int .i64 F.dg) (.int .i64 F.tn) (.string F.nm) (.slice oF F.pw.length cF) (by go_simp); have z1_0 : w.heap.size < w1.heap.size := World.block_lt_of_cell? w1 _ c1_0_0; have d1_0 : ¬ (w.heap.size = w1.heap.size) := (by omega); have e1_0 : ¬ (w1.heap.size = w.heap.size) := (by omega); have F1_1 := K.ints.ext (K.ints.alloc hF_ _) x1; have F2_1 := K.rows.ext (K.rows.alloc hU_ _) x1; clear hF_ hU_)
    rw [HE.out]
    refine bodyPost_ret (v := .tuple #[.slice none 0 0, .int .i64 1]) (by unfold results; rw [Try.results17]; go_simp) rfl ⟨⟨_, rfl, ?_⟩, ?_⟩
    · exact K.ints_nil _ _ _
    · repeat with_reducible refine K.Ext.setCell ?_ (by dsimp only; omega) _
      exact (by repeat' (first | with_reducible exact X1 | with_reducible refine K.Ext.setCell ?_ ?_ _ | with_reducible refine K.Ext.alloc ?_ _ | with_reducible refine K.Ext.drew ?_ | (dsimp only; omega) | omega | (simp; omega)))
  · cases vU : Z.okUnits F U
    · have HE : Hid (Z.UnitOf F U = ([], 1)) := Z.hide (by unfold Z.UnitOf; rw [vF, vU]; rfl)
      have X0 : K.Ext w w := K.Ext.refl w
      go_enter Try.func17, Try.ntmps17
      go_wp2_with (go_at_call 104; refine K.call (by with_reducible rfl) (by with_reducible rfl) (spec_IsFormula F _ hmF hnF (K.ints.alloc hF_ _)) ?_; rintro e w1 ⟨rfl, x1⟩; have s1 : w.heap.size + 1 ≤ w1.heap.size := (by have h_ := x1.size; (try simp at h_); omega); have X1 := K.Ext.trans (K.Ext.alloc X0 _) x1; obtain ⟨c1_0_0, c1_0_1, c1_0_2, c1_0_3⟩ := K.c4 x1 (w.heap.size) (.int .i64 F.dg) (.int .i64 F.tn) (.string F.nm) (.slice oF F.pw.length cF) (by go_simp); have z1_0 : w.heap.size < w1.heap.size := World.block_lt_of_cell? w1 _ c1_0_0; have d1_0 : ¬ (w.heap.size = w1.heap.size) := (by omega); have e1_0 : ¬ (w1.heap.size = w.heap.size) := (by omega); have F1_1 := K.ints.ext (K.ints.alloc hF_ _) x1; have F2_1 := K.rows.ext (K.rows.alloc hU_ _) x1; clear hF_ hU_)
      go_wp2_with (go_at_call 105; refine K.call (by with_reducible rfl) (by with_reducible rfl) (l19Units_any F U _ hnF hmU hqU (F2_1)) ?_; rintro e w2 ⟨rfl, x2⟩; have s2 : w1.heap.size ≤ w2.heap.size := (by have h_ := x2.size; (try simp at h_); omega); have X2 := K.Ext.trans (X1) x2; obtain ⟨c2_0_0, c2_0_1, c2_0_2, c2_0_3⟩ := K.c4 x2 (w.heap.size) (.int .i64 F.dg) (.int .i64 F.tn) (.string F.nm) (.slice oF F.pw.length cF) (by go_simp); have z2_0 : w.heap.size < w2.heap.size := World.block_lt_of_cell? w2 _ c2_0_0; have d2_0 : ¬ (w.heap.size = w2.heap.size) := (by omega); have e2_0 : ¬ (w2.heap.size = w.heap.size) := (by omega); have F1_2 := K.ints.ext (F1_1) x2; have F2_2 := K.rows.ext (F2_1) x2; clear c1_0_0 c1_0_1 c1_0_2 c1_0_3 z1_0 d1_0 e1_0 F1_1 F2_1)
      rw [HE.out]
      refine bodyPost_ret (v := .tuple #[.slice none 0 0, .int .i64 1]) (by unfold results; rw [Try.results17]; go_simp) rfl ⟨⟨_, rfl, ?_⟩, ?_⟩
      · exact K.ints_nil _ _ _
      · repeat with_reducible refine K.Ext.setCell ?_ (by dsimp only; omega) _
        exact (by repeat' (first | with_reducible exact X2 | with_reducible refine K.Ext.setCell ?_ ?_ _ | with_reducible refine K.Ext.alloc ?_ _ | with_reducible refine K.Ext.drew ?_ | (dsimp only; omega) | omega | (simp; omega)))
    · obtain ⟨k, hk⟩ : ∃ k, k = Z.unitK F.pw U U.length := ⟨_, rfl⟩
      obtain ⟨M, hM⟩ : ∃ M, M = Z.unitOr k := ⟨_, rfl⟩
      have HE : Hid (Z.UnitOf F U = M) := Z.hide (by unfold Z.UnitOf; rw [vF, vU, hM, hk]; rfl)
      have HK : ∀ {a b c d : Nat} {p v : Value} (w : World), K.ints w a b p F.pw → K.rows w c d v U → Calls Try.prog 107 #[.agg #[.int .i64 F.dg, .int .i64 F.tn, .string F.nm, p], v] w fun e w' => (∃ r, e = .returned r ∧ K.ints w' w.heap.size w'.heap.size r k) ∧ K.Ext w w' := fun w h h' => by
        rw [hk]; exact l19Of_any F U w vF (Z.okUnits_len vU).1 (Z.okUnits_len vU).2 h h'
      have hkl : k.length ≤ 1048576 := by rw [hk, Z.unitK_length]; decide
      have HR : ∀ {a b : Nat} {v : Value} (w : World), K.ints w a b v k → Calls Try.prog 106 #[v] w fun e w' => (∃ r, e = .returned (.tuple #[r, .int .i64 M.2]) ∧ K.ints w' a b r M.1) ∧ K.Ext w w' := fun w h => by
        rw [hM]; exact (l19Result_any k _ _ _ w hkl h).mono fun e w' ⟨⟨r, he, ho⟩, hw⟩ => by subst hw; exact ⟨⟨r, he, ho⟩, K.Ext.refl _⟩
      clear hk hM
      have X0 : K.Ext w w := K.Ext.refl w
      go_enter Try.func17, Try.ntmps17
      go_wp2_with (go_at_call 104; refine K.call (by with_reducible rfl) (by with_reducible rfl) (spec_IsFormula F _ hmF hnF (K.ints.alloc hF_ _)) ?_; rintro e w1 ⟨rfl, x1⟩; have s1 : w.heap.size + 1 ≤ w1.heap.size := (by have h_ := x1.size; (try simp at h_); omega); have X1 := K.Ext.trans (K.Ext.alloc X0 _) x1; obtain ⟨c1_0_0, c1_0_1, c1_0_2, c1_0_3⟩ := K.c4 x1 (w.heap.size) (.int .i64 F.dg) (.int .i64 F.tn) (.string F.nm) (.slice oF F.pw.length cF) (by go_simp); have z1_0 : w.heap.size < w1.heap.size := World.block_lt_of_cell? w1 _ c1_0_0; have d1_0 : ¬ (w.heap.size = w1.heap.size) := (by omega); have e1_0 : ¬ (w1.heap.size = w.heap.size) := (by omega); have F1_1 := K.ints.ext (K.ints.alloc hF_ _) x1; have F2_1 := K.rows.ext (K.rows.alloc hU_ _) x1; clear hF_ hU_)
      go_wp2_with (go_at_call 105; refine K.call (by with_reducible rfl) (by with_reducible rfl) (l19Units_any F U _ hnF hmU hqU (F2_1)) ?_; rintro e w2 ⟨rfl, x2⟩; have s2 : w1.heap.size ≤ w2.heap.size := (by have h_ := x2.size; (try simp at h_); omega); have X2 := K.Ext.trans (X1) x2; obtain ⟨c2_0_0, c2_0_1, c2_0_2, c2_0_3⟩ := K.c4 x2 (w.heap.size) (.int .i64 F.dg) (.int .i64 F.tn) (.string F.nm) (.slice oF F.pw.length cF) (by go_simp); have z2_0 : w.heap.size < w2.heap.size := World.block_lt_of_cell? w2 _ c2_0_0; have d2_0 : ¬ (w.heap.size = w2.heap.size) := (by omega); have e2_0 : ¬ (w2.heap.size = w.heap.size) := (by omega); have F1_2 := K.ints.ext (F1_1) x2; have F2_2 := K.rows.ext (F2_1) x2; clear c1_0_0 c1_0_1 c1_0_2 c1_0_3 z1_0 d1_0 e1_0 F1_1 F2_1)
      go_wp2_with (go_at_call 107; refine K.call (by with_reducible rfl) (by with_reducible rfl) (HK _ (F1_2) (F2_2)) ?_; rintro e w3 ⟨⟨p3, rfl, g3⟩, x3⟩; obtain ⟨o3, k3, rfl, _⟩ := K.ints.mono g3 (Nat.le_refl _) (Nat.le_refl _); have F3_3 : K.ints w3 (w2.heap.size) (w3.heap.size) (.slice o3 k.length k3) (k) := g3.mono (by simp) (Nat.le_refl _); clear g3; have s3 : w2.heap.size ≤ w3.heap.size := (by have h_ := x3.size; (try simp at h_); omega); have X3 := K.Ext.trans (X2) x3; obtain ⟨c3_0_0, c3_0_1, c3_0_2, c3_0_3⟩ := K.c4 x3 (w.heap.size) (.int .i64 F.dg) (.int .i64 F.tn) (.string F.nm) (.slice oF F.pw.length cF) (by go_simp); have z3_0 : w.heap.size < w3.heap.size := World.block_lt_of_cell? w3 _ c3_0_0; have d3_0 : ¬ (w.heap.size = w3.heap.size) := (by omega); have e3_0 : ¬ (w3.heap.size = w.heap.size) := (by omega); have F1_3 := K.ints.ext (F1_2) x3; have F2_3 := K.rows.ext (F2_2) x3; clear c2_0_0 c2_0_1 c2_0_2 c2_0_3 z2_0 d2_0 e2_0 F1_2 F2_2)
      go_wp2_with (go_at_call 106; refine K.call (by with_reducible rfl) (by with_reducible rfl) (HR _ (F3_3)) ?_; rintro e w4 ⟨⟨p4, rfl, g4⟩, x4⟩; obtain ⟨o4, k4, rfl, _⟩ := K.ints.mono g4 (Nat.le_refl _) (Nat.le_refl _); have F4_4 : K.ints w4 (w2.heap.size) (w3.heap.size) (.slice o4 M.1.length k4) (M.1) := g4.mono (Nat.le_refl _) (Nat.le_refl _); clear g4; have s4 : w3.heap.size ≤ w4.heap.size := (by have h_ := x4.size; (try simp at h_); omega); have X4 := K.Ext.trans (X3) x4; obtain ⟨c4_0_0, c4_0_1, c4_0_2, c4_0_3⟩ := K.c4 x4 (w.heap.size) (.int .i64 F.dg) (.int .i64 F.tn) (.string F.nm) (.slice oF F.pw.length cF) (by go_simp); have z4_0 : w.heap.size < w4.heap.size := World.block_lt_of_cell? w4 _ c4_0_0; have d4_0 : ¬ (w.heap.size = w4.heap.size) := (by omega); have e4_0 : ¬ (w4.heap.size = w.heap.size) := (by omega); have F1_4 := K.ints.ext (F1_3) x4; have F2_4 := K.rows.ext (F2_3) x4; have F3_4 := K.ints.ext (F3_3) x4; clear c3_0_0 c3_0_1 c3_0_2 c3_0_3 z3_0 d3_0 e3_0 F1_3 F2_3 F3_3)
      rw [HE.out]
      refine bodyPost_ret (v := .tuple #[.slice o4 M.1.length k4, .int .i64 M.2]) (by unfold results; rw [Try.results17]; go_simp) rfl ⟨⟨_, rfl, ?_⟩, ?_⟩
      · refine K.ints.mono (lo := w2.heap.size) (hi := w3.heap.size) ?_ (by first | omega | (simp; done) | (simp; omega)) (by first | omega | (simp; done) | (simp; omega))
        repeat' (first | with_reducible exact F4_4 | with_reducible refine K.ints.set ?_ _ ?_ _ | with_reducible refine K.ints.alloc ?_ _ | with_reducible refine K.ints.drew ?_ | (dsimp only; omega) | omega | (simp; done) | (simp; omega))
      · repeat with_reducible refine K.Ext.setCell ?_ (by dsimp only; omega) _
        exact (by repeat' (first | with_reducible exact X4 | with_reducible refine K.Ext.setCell ?_ ?_ _ | with_reducible refine K.Ext.alloc ?_ _ | with_reducible refine K.Ext.drew ?_ | (dsimp only; omega) | omega | (simp; omega)))
end Go.Proofs.Ytphlppklhpaljaa
