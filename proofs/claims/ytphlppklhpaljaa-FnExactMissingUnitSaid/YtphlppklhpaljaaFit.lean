/-
  UNITS that fit, both sides.
-/
import Derived.Test.YtphlppklhpaljaaUnitS3
import Derived.Test.YtphlppklhpaljaaSame
set_option linter.unusedVariables false
namespace Go.Z
def IsFitting (F : Fm) (uss : List (List Int)) (r : List Int) : Bool × Int := if isFormula F && okUnits F uss && isUnit r then (unitK F.pw uss uss.length == r, 0) else (false, 1)
theorem okUnits_parts {F : Fm} {uss : List (List Int)} (h : okUnits F uss = true) : uss.length = F.nm.size ∧ allUnits uss = true := by
  simpa [okUnits] using h
end Go.Z
namespace Go.Proofs.Ytphlppklhpaljaa
open Go.RowKit
set_option maxHeartbeats 3200000 in
theorem impl_IsFitting (F : Z.Fm) (U : List (List Int)) (r : List Int) {loF hiF : Nat} {pF : Value} {loU hiU : Nat} {pU : Value} {lor hir : Nat} {pr : Value} (w : World)  (hmF : F.pw.length ≤ 1048576) (hnF : F.nm.size ≤ 1048576) (hF : K.ints w loF hiF pF F.pw) (hmU : U.length ≤ 1048576) (hqU : ∀ xs ∈ U, (xs : List Int).length ≤ 1048576) (hU : K.rows w loU hiU pU U) (hmr : r.length ≤ 1048576) (hr : K.ints w lor hir pr r) :
    Calls Try.prog 67 #[.agg #[.int .i64 F.dg, .int .i64 F.tn, .string F.nm, pF], pU, pr] w fun e w' => e = .returned (.tuple #[.bool ((Z.IsFitting F U r).1), .int .i64 ((Z.IsFitting F U r).2)]) ∧ K.Ext w w' := by
  have hF_ := hF
  have shF := hF
  obtain ⟨oF, cF, rfl, _⟩ := shF
  have hU_ := hU
  have shU := hU
  obtain ⟨oU, cU, _, rfl, _⟩ := shU
  have hr_ := hr
  have shr := hr
  obtain ⟨or, cr, rfl, _⟩ := shr
  obtain ⟨t, ht⟩ : ∃ t, t = (Z.isFormula F && Z.okUnits F U) := ⟨_, rfl⟩
  have HA : ∀ {a b c d : Nat} {p v : Value} (w : World), K.ints w a b p F.pw → K.rows w c d v U → Calls Try.prog 109 #[.agg #[.int .i64 F.dg, .int .i64 F.tn, .string F.nm, p], v] w fun e w' => e = .returned (.bool t) ∧ K.Ext w w' := fun w h h' => by rw [ht]; exact areUnits_any F U w hmF hnF h hmU hqU h'
  cases t
  · have HE : Hid (Z.IsFitting F U r = (false, 1)) := Z.hide (by unfold Z.IsFitting; rw [← ht]; rfl)
    clear ht
    have X0 : K.Ext w w := K.Ext.refl w
    go_enter Try.func67, Try.ntmps67
    go_wp2_with (go_at_call 109; refine K.call (by with_reducible rfl) (by with_reducible rfl) (HA _ (K.ints.alloc hF_ _) (K.rows.alloc hU_ _)) ?_; rintro e w1 ⟨rfl, x1⟩; have s1 : w.heap.size + 1 ≤ w1.heap.size := (by have h_ := x1.size; (try simp at h_); omega); have X1 := K.Ext.trans (K.Ext.alloc X0 _) x1; obtain ⟨c1_0_0, c1_0_1, c1_0_2, c1_0_3⟩ := K.c4 x1 (w.heap.size) (.int .i64 F.dg) (.int .i64 F.tn) (.string F.nm) (.slice oF F.pw.length cF) (by go_simp); have z1_0 : w.heap.size < w1.heap.size := World.block_lt_of_cell? w1 _ c1_0_0; have d1_0 : ¬ (w.heap.size = w1.heap.size) := (by omega); have e1_0 : ¬ (w1.heap.size = w.heap.size) := (by omega); have F1_1 := K.ints.ext (K.ints.alloc hF_ _) x1; have F2_1 := K.rows.ext (K.rows.alloc hU_ _) x1; have F3_1 := K.ints.ext (K.ints.alloc hr_ _) x1; clear hF_ hU_ hr_)
    rw [HE.out]
    refine bodyPost_ret (v := .tuple #[.bool false, .int .i64 1]) (by unfold results; rw [Try.results67]; go_simp) rfl ⟨rfl, ?_⟩
    repeat with_reducible refine K.Ext.setCell ?_ (by dsimp only; omega) _
    exact (by repeat' (first | with_reducible exact X1 | with_reducible refine K.Ext.setCell ?_ ?_ _ | with_reducible refine K.Ext.alloc ?_ _ | with_reducible refine K.Ext.drew ?_ | (dsimp only; omega) | omega | (simp; omega)))
  · cases hr : Z.isUnit r
    · have HE : Hid (Z.IsFitting F U r = (false, 1)) := Z.hide (by unfold Z.IsFitting; rw [← ht, hr]; rfl)
      clear ht
      have X0 : K.Ext w w := K.Ext.refl w
      go_enter Try.func67, Try.ntmps67
      go_wp2_with (go_at_call 109; refine K.call (by with_reducible rfl) (by with_reducible rfl) (HA _ (K.ints.alloc hF_ _) (K.rows.alloc hU_ _)) ?_; rintro e w1 ⟨rfl, x1⟩; have s1 : w.heap.size + 1 ≤ w1.heap.size := (by have h_ := x1.size; (try simp at h_); omega); have X1 := K.Ext.trans (K.Ext.alloc X0 _) x1; obtain ⟨c1_0_0, c1_0_1, c1_0_2, c1_0_3⟩ := K.c4 x1 (w.heap.size) (.int .i64 F.dg) (.int .i64 F.tn) (.string F.nm) (.slice oF F.pw.length cF) (by go_simp); have z1_0 : w.heap.size < w1.heap.size := World.block_lt_of_cell? w1 _ c1_0_0; have d1_0 : ¬ (w.heap.size = w1.heap.size) := (by omega); have e1_0 : ¬ (w1.heap.size = w.heap.size) := (by omega); have F1_1 := K.ints.ext (K.ints.alloc hF_ _) x1; have F2_1 := K.rows.ext (K.rows.alloc hU_ _) x1; have F3_1 := K.ints.ext (K.ints.alloc hr_ _) x1; clear hF_ hU_ hr_)
      go_wp2_with (go_at_call 65; refine K.call (by with_reducible rfl) (by with_reducible rfl) (impl_IsUnit r _ _ _ _ hmr (F3_1)) ?_; rintro e w_ ⟨rfl, rfl⟩)
      rw [HE.out]
      refine bodyPost_ret (v := .tuple #[.bool false, .int .i64 1]) (by unfold results; rw [Try.results67]; go_simp) rfl ⟨rfl, ?_⟩
      repeat with_reducible refine K.Ext.setCell ?_ (by dsimp only; omega) _
      exact (by repeat' (first | with_reducible exact X1 | with_reducible refine K.Ext.setCell ?_ ?_ _ | with_reducible refine K.Ext.alloc ?_ _ | with_reducible refine K.Ext.drew ?_ | (dsimp only; omega) | omega | (simp; omega)))
    · obtain ⟨k, hk⟩ : ∃ k, k = Z.unitK F.pw U U.length := ⟨_, rfl⟩
      have HE : Hid (Z.IsFitting F U r = (k == r, 0)) := Z.hide (by unfold Z.IsFitting; rw [← ht, hr, hk]; rfl)
      have h3 : Z.isFormula F = true ∧ Z.okUnits F U = true := by simpa using ht.symm
      have HK : ∀ {a b c d : Nat} {p v : Value} (w : World), K.ints w a b p F.pw → K.rows w c d v U → Calls Try.prog 111 #[.agg #[.int .i64 F.dg, .int .i64 F.tn, .string F.nm, p], v] w fun e w' => (∃ r, e = .returned r ∧ K.own w' w.heap.size w'.heap.size r k) ∧ K.Ext w w' := fun w h h' => by
        rw [hk]; exact unitOf_any F U w h3.1 (Z.okUnits_parts h3.2).1 (Z.okUnits_parts h3.2).2 h h'
      have hkl : k.length ≤ 1048576 := by rw [hk, Z.unitK_length]; decide
      clear ht hk h3
      have X0 : K.Ext w w := K.Ext.refl w
      go_enter Try.func67, Try.ntmps67
      go_wp2_with (go_at_call 109; refine K.call (by with_reducible rfl) (by with_reducible rfl) (HA _ (K.ints.alloc hF_ _) (K.rows.alloc hU_ _)) ?_; rintro e w1 ⟨rfl, x1⟩; have s1 : w.heap.size + 1 ≤ w1.heap.size := (by have h_ := x1.size; (try simp at h_); omega); have X1 := K.Ext.trans (K.Ext.alloc X0 _) x1; obtain ⟨c1_0_0, c1_0_1, c1_0_2, c1_0_3⟩ := K.c4 x1 (w.heap.size) (.int .i64 F.dg) (.int .i64 F.tn) (.string F.nm) (.slice oF F.pw.length cF) (by go_simp); have z1_0 : w.heap.size < w1.heap.size := World.block_lt_of_cell? w1 _ c1_0_0; have d1_0 : ¬ (w.heap.size = w1.heap.size) := (by omega); have e1_0 : ¬ (w1.heap.size = w.heap.size) := (by omega); have F1_1 := K.ints.ext (K.ints.alloc hF_ _) x1; have F2_1 := K.rows.ext (K.rows.alloc hU_ _) x1; have F3_1 := K.ints.ext (K.ints.alloc hr_ _) x1; clear hF_ hU_ hr_)
      go_wp2_with (go_at_call 65; refine K.call (by with_reducible rfl) (by with_reducible rfl) (impl_IsUnit r _ _ _ _ hmr (F3_1)) ?_; rintro e w_ ⟨rfl, rfl⟩)
      go_wp2_with (go_at_call 111; refine K.call (by with_reducible rfl) (by with_reducible rfl) (HK _ (F1_1) (F2_1)) ?_; rintro e w3 ⟨⟨p3, rfl, g3⟩, x3⟩; obtain ⟨o3, k3, rfl, _⟩ := K.own.ints g3; have F4_3 : K.own w3 (w1.heap.size) (w3.heap.size) (.slice o3 k.length k3) (k) := g3.mono (by simp) (Nat.le_refl _); clear g3; have s3 : w1.heap.size ≤ w3.heap.size := (by have h_ := x3.size; (try simp at h_); omega); have X3 := K.Ext.trans (X1) x3; obtain ⟨c3_0_0, c3_0_1, c3_0_2, c3_0_3⟩ := K.c4 x3 (w.heap.size) (.int .i64 F.dg) (.int .i64 F.tn) (.string F.nm) (.slice oF F.pw.length cF) (by go_simp); have z3_0 : w.heap.size < w3.heap.size := World.block_lt_of_cell? w3 _ c3_0_0; have d3_0 : ¬ (w.heap.size = w3.heap.size) := (by omega); have e3_0 : ¬ (w3.heap.size = w.heap.size) := (by omega); have F1_3 := K.ints.ext (F1_1) x3; have F2_3 := K.rows.ext (F2_1) x3; have F3_3 := K.ints.ext (F3_1) x3; clear c1_0_0 c1_0_1 c1_0_2 c1_0_3 z1_0 d1_0 e1_0 F1_1 F2_1 F3_1)
      go_wp2_with (go_at_call 151; refine K.call (by with_reducible rfl) (by with_reducible rfl) (Equal_any k r _ hkl hmr (K.own.ints (F4_3)) (F3_3)) ?_; rintro e w4 ⟨rfl, x4⟩; have s4 : w3.heap.size ≤ w4.heap.size := (by have h_ := x4.size; (try simp at h_); omega); have X4 := K.Ext.trans (X3) x4; obtain ⟨c4_0_0, c4_0_1, c4_0_2, c4_0_3⟩ := K.c4 x4 (w.heap.size) (.int .i64 F.dg) (.int .i64 F.tn) (.string F.nm) (.slice oF F.pw.length cF) (by go_simp); have z4_0 : w.heap.size < w4.heap.size := World.block_lt_of_cell? w4 _ c4_0_0; have d4_0 : ¬ (w.heap.size = w4.heap.size) := (by omega); have e4_0 : ¬ (w4.heap.size = w.heap.size) := (by omega); have F1_4 := K.ints.ext (F1_3) x4; have F2_4 := K.rows.ext (F2_3) x4; have F3_4 := K.ints.ext (F3_3) x4; have F4_4 := K.own.ext (F4_3) x4; clear c3_0_0 c3_0_1 c3_0_2 c3_0_3 z3_0 d3_0 e3_0 F1_3 F2_3 F3_3 F4_3)
      rw [HE.out]
      refine bodyPost_ret (v := .tuple #[.bool (k == r), .int .i64 0]) (by unfold results; rw [Try.results67]; go_simp) rfl ⟨rfl, ?_⟩
      repeat with_reducible refine K.Ext.setCell ?_ (by dsimp only; omega) _
      exact (by repeat' (first | with_reducible exact X4 | with_reducible refine K.Ext.setCell ?_ ?_ _ | with_reducible refine K.Ext.alloc ?_ _ | with_reducible refine K.Ext.drew ?_ | (dsimp only; omega) | omega | (simp; omega)))
end Go.Proofs.Ytphlppklhpaljaa
