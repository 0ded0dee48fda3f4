/-
  THE LAW on one step: its walk.
-/
import Derived.Test.YtphlppklhpaljaaApplyS
import Derived.Test.YtphlppklhpaljaaOff
import Derived.Test.YtphlppklhpaljaaFmLaw
import Derived.Test.YtphlppklhpaljaaStM
import Derived.Test.YtphlppklhpaljaaDrawn
set_option linter.unusedVariables false
namespace Go.Z
theorem ranOr_nz {E : Eqn} {l : List St} (hE : isEquation E = true) (n : Nat) : (∀ x ∈ (ranOr (runK E l n)).1.L.pw, x ≠ 0) ∧ ∀ x ∈ (ranOr (runK E l n)).1.R.pw, x ≠ 0 := by
  cases hr : runK E l n with
  | none => exact ⟨zeroFm_nz, zeroFm_nz⟩
  | some A =>
    have := isEquation_parts (runK_ok hE n hr)
    exact ⟨isFormula_nz this.1, isFormula_nz this.2⟩
theorem RunSteps_nz (E : Eqn) (l : List St) : (∀ x ∈ (RunSteps E l).1.L.pw, x ≠ 0) ∧ ∀ x ∈ (RunSteps E l).1.R.pw, x ≠ 0 := by
  unfold RunSteps; split
  · rename_i hE
    split
    · exact ranOr_nz hE _
    · exact ⟨zeroFm_nz, zeroFm_nz⟩
  · exact ⟨zeroFm_nz, zeroFm_nz⟩
theorem ApplyStep_nz (E : Eqn) (s : St) : (∀ x ∈ (ApplyStep E s).1.L.pw, x ≠ 0) ∧ ∀ x ∈ (ApplyStep E s).1.R.pw, x ≠ 0 := RunSteps_nz _ _
end Go.Z
namespace Go.Proofs.Ytphlppklhpaljaa
open Go.RowKit
set_option maxHeartbeats 8000000 in
theorem law_FnExactApplyStep (E0 : Z.Eqn) (m1 : Z.St) (v0 u0 : Value) (w : World) (pn0 : E0.L.nm.size ≤ 9223372036854775807) (pl0 : (E0.L.pw.length : Int) ≤ 9223372036854775807) (pn0_ : E0.R.nm.size ≤ 9223372036854775807) (pl0_ : (E0.R.pw.length : Int) ≤ 9223372036854775807) (h0 : K.ints w 0 w.heap.size v0 E0.L.pw) (h0_ : K.ints w 0 w.heap.size u0 E0.R.pw) (h1 : Z.byteSt m1) :
    Calls Try.prog 7 #[.agg #[.int .i64 E0.L.dg, .int .i64 E0.L.tn, .string E0.L.nm, v0, .int .i64 E0.R.dg, .int .i64 E0.R.tn, .string E0.R.nm, u0], .agg #[.int .i64 m1.kd, .int .u8 m1.nm, .int .i64 m1.pw]] w fun e w' => e = .returned (.bool true) ∧ K.Ext w w' := by
  have F1_0 := h0
  obtain ⟨o0_0, c0_0, rfl, _⟩ := h0
  have F2_0 := h0_
  obtain ⟨o0_1, c0_1, rfl, _⟩ := h0_
  have X0 : K.Ext w w := K.Ext.refl w
  go_enter Try.func7, Try.ntmps7
  go_wp2_with (go_at_call 31; refine K.call (by with_reducible rfl) (by with_reducible rfl) (szEquation_any E0 _ _ _ _ (by omega) (by omega) pn0 pl0 pn0_ pl0_ (K.ints.alloc (K.ints.alloc F1_0 _) _) (K.ints.alloc (K.ints.alloc F2_0 _) _)) ?_; rintro e w1 ⟨⟨r1, rfl, u1_, b1⟩, x1⟩; have s1 : w.heap.size + 2 ≤ w1.heap.size := (by have h_ := x1.size; (try simp at h_); omega); have X1 := K.Ext.trans (K.Ext.alloc (K.Ext.alloc X0 _) _) x1; obtain ⟨c1_0_0, c1_0_1, c1_0_2, c1_0_3, c1_0_4, c1_0_5, c1_0_6, c1_0_7⟩ := K.c8 x1 (w.heap.size) (.int .i64 E0.L.dg) (.int .i64 E0.L.tn) (.string E0.L.nm) (.slice o0_0 E0.L.pw.length c0_0) (.int .i64 E0.R.dg) (.int .i64 E0.R.tn) (.string E0.R.nm) (.slice o0_1 E0.R.pw.length c0_1) (by go_simp); have z1_0 : w.heap.size < w1.heap.size := World.block_lt_of_cell? w1 _ c1_0_0; have d1_0 : ¬ (w.heap.size = w1.heap.size) := (by omega); have e1_0 : ¬ (w1.heap.size = w.heap.size) := (by omega); obtain ⟨c1_1_0, c1_1_1, c1_1_2⟩ := K.c3 x1 (w.heap.size + 1) (.int .i64 m1.kd) (.int .u8 m1.nm) (.int .i64 m1.pw) (by go_simp); have z1_1 : w.heap.size + 1 < w1.heap.size := World.block_lt_of_cell? w1 _ c1_1_0; have d1_1 : ¬ (w.heap.size + 1 = w1.heap.size) := (by omega); have e1_1 : ¬ (w1.heap.size = w.heap.size + 1) := (by omega); have n1_0 : ¬ (w.heap.size + 1 = w.heap.size) := (by omega); have n0_1 : ¬ (w.heap.size = w.heap.size + 1) := (by omega); have F1_1 := K.ints.ext (K.ints.alloc (K.ints.alloc F1_0 _) _) x1; have F2_1 := K.ints.ext (K.ints.alloc (K.ints.alloc F2_0 _) _) x1; clear F1_0 F2_0)
  · go_ret
    exact ⟨rfl, X1⟩
  obtain ⟨⟨hm1, hn1⟩, ⟨hp1, hq1⟩⟩ := b1.resolve_left (by omega)
  go_wp2_with fail
  refine K.wp_region_x 9 [1, 2, 1, 2, 2, 0, 0, 0, 2] [K.SP.any, (K.SP.eqn E0), K.SP.any, K.SP.is (.agg #[.int .i64 m1.kd, .int .u8 m1.nm, .int .i64 m1.pw]), (K.SP.eqnT (w1.heap.size) (Z.ApplyStep E0 m1)), K.SP.any, K.SP.any, K.SP.any, K.SP.new (w1.heap.size) (.cells #[.int .i64 0, .int .i64 0, .string ⟨#[]⟩, .slice none 0 0, .int .i64 0, .int .i64 0, .string ⟨#[]⟩, .slice none 0 0] 54)] (by kernel_rfl) (by kernel_rfl) ?_
  simp only [List.take_succ_cons, List.take_zero, List.drop_succ_cons, List.drop_zero]
  apply K.x_held
  · rfl
  · rfl
  · intro w' hx; have hc := hx.all.1.1; have hf := hx.all.1.2; have hc' := hx.all.2.1; have hf' := hx.all.2.2; go_simp; first | done | rfl | exact ⟨rfl, rfl⟩
  simp only [Act.put, List.setIfInBounds_toArray, List.set]
  apply K.x_call
  · rfl
  · rfl
  · intro w'; go_simp; first | done | rfl | exact ⟨rfl, rfl⟩
  · intro w' hx hp; have hc := hx.all.1.1; have hf := hx.all.1.2; have hc' := hx.all.2.1; have hf' := hx.all.2.2; exact toEquation_sp E0 _ _ _ hm1 hp1 (K.ints.ext (K.ints.drew (F1_1)) hx) (K.ints.ext (K.ints.drew (F2_1)) hx)
  intro v1 w_1_ hx_1_ hv1
  obtain ⟨p_, q_, lo_, hi_, rfl, hp_, hq_⟩ := hv1; have hp2_ := hp_; obtain ⟨ov_, cv_, rfl, _⟩ := hp2_; have hq2_ := hq_; obtain ⟨ov2_, cv2_, rfl, _⟩ := hq2_
  simp only [Act.put, List.setIfInBounds_toArray, List.set]
  apply K.x_held
  · rfl
  · rfl
  · intro w' hx; have hc := hx.all.1.1; have hf := hx.all.1.2; have hc' := hx.all.2.1; have hf' := hx.all.2.2; go_simp; first | done | rfl | exact ⟨rfl, rfl⟩
  simp only [Act.put, List.setIfInBounds_toArray, List.set]
  apply K.x_call_is
  · rfl
  · rfl
  · rfl
  · intro w'; go_simp; first | done | rfl | exact ⟨rfl, rfl⟩
  · intro w' hx hp; have hc := hx.all.1.1; have hf := hx.all.1.2; have hc' := hx.all.2.1; have hf' := hx.all.2.2; exact toStep_any m1 _
  intro w_3_ hx_3_
  simp only [Act.put, List.setIfInBounds_toArray, List.set]
  apply K.x_call
  · rfl
  · rfl
  · intro w'; go_simp; first | done | rfl | exact ⟨rfl, rfl⟩
  · intro w' hx hp; have hc := hx.all.1.1; have hf := hx.all.1.2; have hc' := hx.all.2.1; have hf' := hx.all.2.2; exact (by obtain ⟨la_, ha_, qa_, ra_⟩ := K.SP.eqn_at (hp 1 _ (by kernel_rfl) rfl rfl); exact K.SP.eqnT_of (by have h_ := hx.size; simp at h_; omega) (spec_ApplyStep E0 m1 _ hm1 hn1 hp1 hq1 qa_ ra_))
  intro v4 w_4_ hx_4_ hv4
  obtain ⟨p4_, q4_, hi4_, rfl, hh4_, hp4_, hq4_⟩ := hv4; have hr4_ := hp4_; obtain ⟨o2_4, k2_4, rfl, _⟩ := hr4_; have hs4_ := hq4_; obtain ⟨o2_4_, k2_4_, rfl, _⟩ := hs4_
  simp only [Act.put, List.setIfInBounds_toArray, List.set]
  iterate 3
    apply K.x_pure
    · rfl
    · rfl
    · intro w'; go_simp; first | done | exact K.vint (IntWalk.i64_in _ (by omega)) | rfl | exact ⟨rfl, rfl⟩
    simp only [Act.put, List.setIfInBounds_toArray, List.set]
  apply K.x_new
  · rfl
  · rfl
  · rfl
  · go_simp; first | done | omega
  · intro w'; go_simp; first | done | rfl | exact ⟨rfl, rfl⟩
  intro g5_8 w_8_ hx_8_ hg5_8 hb_8_
  simp only [Act.put, List.setIfInBounds_toArray, List.set]
  apply K.x_done
  intro w2 h_x
  have x2 := hx_1_.trans (hx_3_.trans (hx_4_.trans (hx_8_.trans h_x)))
  have hb5_8 := K.Ext.block (h_x) hb_8_
  have cg5_8_0 : w2.cell? ⟨g5_8, 0, none⟩ = some (.int .i64 0) := K.cell_at hb5_8 rfl
  have fg5_8_0 : w2.frozen? ⟨g5_8, 0, none⟩ = false := K.thaw_at hb5_8
  have cg5_8_1 : w2.cell? ⟨g5_8, 1, none⟩ = some (.int .i64 0) := K.cell_at hb5_8 rfl
  have fg5_8_1 : w2.frozen? ⟨g5_8, 1, none⟩ = false := K.thaw_at hb5_8
  have cg5_8_2 : w2.cell? ⟨g5_8, 2, none⟩ = some (.string ⟨#[]⟩) := K.cell_at hb5_8 rfl
  have fg5_8_2 : w2.frozen? ⟨g5_8, 2, none⟩ = false := K.thaw_at hb5_8
  have cg5_8_3 : w2.cell? ⟨g5_8, 3, none⟩ = some (.slice none 0 0) := K.cell_at hb5_8 rfl
  have fg5_8_3 : w2.frozen? ⟨g5_8, 3, none⟩ = false := K.thaw_at hb5_8
  have cg5_8_4 : w2.cell? ⟨g5_8, 4, none⟩ = some (.int .i64 0) := K.cell_at hb5_8 rfl
  have fg5_8_4 : w2.frozen? ⟨g5_8, 4, none⟩ = false := K.thaw_at hb5_8
  have cg5_8_5 : w2.cell? ⟨g5_8, 5, none⟩ = some (.int .i64 0) := K.cell_at hb5_8 rfl
  have fg5_8_5 : w2.frozen? ⟨g5_8, 5, none⟩ = false := K.thaw_at hb5_8
  have cg5_8_6 : w2.cell? ⟨g5_8, 6, none⟩ = some (.string ⟨#[]⟩) := K.cell_at hb5_8 rfl
  have fg5_8_6 : w2.frozen? ⟨g5_8, 6, none⟩ = false := K.thaw_at hb5_8
  have cg5_8_7 : w2.cell? ⟨g5_8, 7, none⟩ = some (.slice none 0 0) := K.cell_at hb5_8 rfl
  have fg5_8_7 : w2.frozen? ⟨g5_8, 7, none⟩ = false := K.thaw_at hb5_8
  have hxe1 := K.Ext.id (hx_3_.trans (hx_4_.trans (hx_8_.trans h_x)))
  have hxe4 := K.Ext.id (hx_8_.trans h_x)
  clear h_x hx_1_ hx_3_ hx_4_ hx_8_
  obtain ⟨⟨hcw2, hfw2⟩, hc'w2, hf'w2⟩ := x2.all
  have s2 : w1.heap.size ≤ w2.heap.size := (by have h_ := x2.size; (try simp at h_); omega)
  have X2 := K.Ext.trans (K.Ext.drew (X1)) x2
  obtain ⟨c2_0_0, c2_0_1, c2_0_2, c2_0_3, c2_0_4, c2_0_5, c2_0_6, c2_0_7⟩ := K.c8 x2 (w.heap.size) (.int .i64 E0.L.dg) (.int .i64 E0.L.tn) (.string E0.L.nm) (.slice o0_0 E0.L.pw.length c0_0) (.int .i64 E0.R.dg) (.int .i64 E0.R.tn) (.string E0.R.nm) (.slice o0_1 E0.R.pw.length c0_1) (by go_simp)
  have z2_0 : w.heap.size < w2.heap.size := World.block_lt_of_cell? w2 _ c2_0_0
  have d2_0 : ¬ (w.heap.size = w2.heap.size) := (by omega)
  have e2_0 : ¬ (w2.heap.size = w.heap.size) := (by omega)
  obtain ⟨c2_1_0, c2_1_1, c2_1_2⟩ := K.c3 x2 (w.heap.size + 1) (.int .i64 m1.kd) (.int .u8 m1.nm) (.int .i64 m1.pw) (by go_simp)
  have z2_1 : w.heap.size + 1 < w2.heap.size := World.block_lt_of_cell? w2 _ c2_1_0
  have d2_1 : ¬ (w.heap.size + 1 = w2.heap.size) := (by omega)
  have e2_1 : ¬ (w2.heap.size = w.heap.size + 1) := (by omega)
  have F1_2 := K.ints.ext (K.ints.drew (F1_1)) x2
  have F2_2 := K.ints.ext (K.ints.drew (F2_1)) x2
  clear c1_0_0 c1_0_1 c1_0_2 c1_0_3 c1_0_4 c1_0_5 c1_0_6 c1_0_7 z1_0 d1_0 e1_0 c1_1_0 c1_1_1 c1_1_2 z1_1 d1_1 e1_1 F1_1 F2_1
  have F3_2 : K.ints w2 (w1.heap.size) (w2.heap.size) (.slice o2_4 (Z.ApplyStep E0 m1).1.L.pw.length k2_4) ((Z.ApplyStep E0 m1).1.L.pw) := K.ints.mono (K.ints.ext hp4_ hxe4) (Nat.le_refl _) (by have h_ := hxe4.size; omega)
  have F4_2 : K.ints w2 (w1.heap.size) (w2.heap.size) (.slice o2_4_ (Z.ApplyStep E0 m1).1.R.pw.length k2_4_) ((Z.ApplyStep E0 m1).1.R.pw) := K.ints.mono (K.ints.ext hq4_ hxe4) (Nat.le_refl _) (by have h_ := hxe4.size; omega)
  have y5_8 : g5_8 < w2.heap.size := World.block_lt_of_cell? w2 _ cg5_8_0
  obtain ⟨l3_2, r3_2, n3_2_, m3_2_, G3_2⟩ := K.ints_off hb5_8 K.zero_eqn (Z.ApplyStep_nz _ _).1 F3_2
  clear F3_2
  have F3_2 := G3_2
  clear G3_2
  obtain ⟨l4_2, r4_2, n4_2_, m4_2_, G4_2⟩ := K.ints_off hb5_8 K.zero_eqn (Z.ApplyStep_nz _ _).2 F4_2
  clear F4_2
  have F4_2 := G4_2
  clear G4_2
  go_wp2_with fail
  refine NoPanic.normal ?_
  go_wp2_with (go_at_call 34; refine K.call (by with_reducible rfl) (by with_reducible rfl) (toEquation_any E0 _ _ _ _ _ _ _ hm1 hp1 (show K.ints _ (0) (w.heap.size) (.slice o0_0 E0.L.pw.length c0_0) (E0.L.pw) from by with_reducible repeat' (first | exact F1_2 | refine K.ints.set ?_ _ ?_ _ | refine K.ints.alloc ?_ _ | refine K.ints.drew ?_ | (dsimp only; omega) | omega | (simp; done) | (simp; omega))) (show K.ints _ (0) (w.heap.size) (.slice o0_1 E0.R.pw.length c0_1) (E0.R.pw) from by with_reducible repeat' (first | exact F2_2 | refine K.ints.set ?_ _ ?_ _ | refine K.ints.alloc ?_ _ | refine K.ints.drew ?_ | (dsimp only; omega) | omega | (simp; done) | (simp; omega)))) ?_; rintro e w3 ⟨⟨p3, q3, b3, rfl, m3, m3_, g3, g3_⟩, x3⟩; obtain ⟨o3, k3, rfl, _⟩ := K.own.ints g3; obtain ⟨o3_, k3_, rfl, _⟩ := K.own.ints g3_; have F5_3 : K.own w3 (w2.heap.size) (b3) (.slice o3 E0.L.pw.length k3) (E0.L.pw) := g3.mono (by simp) (Nat.le_refl _); have F6_3 : K.own w3 (b3) (w3.heap.size) (.slice o3_ E0.R.pw.length k3_) (E0.R.pw) := g3_; (try simp at m3); clear g3 g3_; have s3 : w2.heap.size ≤ w3.heap.size := (by have h_ := x3.size; (try simp at h_); omega); have X3 : K.Ext w w3 := K.Ext.trans (by repeat' (first | with_reducible exact X2 | with_reducible refine K.Ext.setCell ?_ ?_ _ | with_reducible refine K.Ext.alloc ?_ _ | with_reducible refine K.Ext.drew ?_ | (dsimp only; omega) | omega | (simp; omega))) x3; obtain ⟨c3_0_0, c3_0_1, c3_0_2, c3_0_3, c3_0_4, c3_0_5, c3_0_6, c3_0_7⟩ := K.c8 x3 (w.heap.size) (.int .i64 E0.L.dg) (.int .i64 E0.L.tn) (.string E0.L.nm) (.slice o0_0 E0.L.pw.length c0_0) (.int .i64 E0.R.dg) (.int .i64 E0.R.tn) (.string E0.R.nm) (.slice o0_1 E0.R.pw.length c0_1) (by go_simp); have z3_0 : w.heap.size < w3.heap.size := World.block_lt_of_cell? w3 _ c3_0_0; have d3_0 : ¬ (w.heap.size = w3.heap.size) := (by omega); have e3_0 : ¬ (w3.heap.size = w.heap.size) := (by omega); obtain ⟨c3_1_0, c3_1_1, c3_1_2⟩ := K.c3 x3 (w.heap.size + 1) (.int .i64 m1.kd) (.int .u8 m1.nm) (.int .i64 m1.pw) (by go_simp); have z3_1 : w.heap.size + 1 < w3.heap.size := World.block_lt_of_cell? w3 _ c3_1_0; have d3_1 : ¬ (w.heap.size + 1 = w3.heap.size) := (by omega); have e3_1 : ¬ (w3.heap.size = w.heap.size + 1) := (by omega); obtain ⟨c3_2_0, c3_2_1, c3_2_2, c3_2_3, c3_2_4, c3_2_5, c3_2_6, c3_2_7⟩ := K.c8 x3 (g5_8) (.int .i64 (((Z.ApplyStep E0 m1).1).L.dg)) (.int .i64 (((Z.ApplyStep E0 m1).1).L.tn)) (.string ((Z.ApplyStep E0 m1).1).L.nm) (.slice o2_4 (Z.ApplyStep E0 m1).1.L.pw.length k2_4) (.int .i64 (((Z.ApplyStep E0 m1).1).R.dg)) (.int .i64 (((Z.ApplyStep E0 m1).1).R.tn)) (.string ((Z.ApplyStep E0 m1).1).R.nm) (.slice o2_4_ (Z.ApplyStep E0 m1).1.R.pw.length k2_4_) (by go_simp); have z3_2 : g5_8 < w3.heap.size := World.block_lt_of_cell? w3 _ c3_2_0; have d3_2 : ¬ (g5_8 = w3.heap.size) := (by omega); have e3_2 : ¬ (w3.heap.size = g5_8) := (by omega); have n2_0 : ¬ (g5_8 = w.heap.size) := (by omega); have n0_2 : ¬ (w.heap.size = g5_8) := (by omega); have n2_1 : ¬ (g5_8 = w.heap.size + 1) := (by omega); have n1_2 : ¬ (w.heap.size + 1 = g5_8) := (by omega); have F1_3 := K.ints.ext (show K.ints _ (0) (w.heap.size) (.slice o0_0 E0.L.pw.length c0_0) (E0.L.pw) from by with_reducible repeat' (first | exact F1_2 | refine K.ints.set ?_ _ ?_ _ | refine K.ints.alloc ?_ _ | refine K.ints.drew ?_ | (dsimp only; omega) | omega | (simp; done) | (simp; omega))) x3; have F2_3 := K.ints.ext (show K.ints _ (0) (w.heap.size) (.slice o0_1 E0.R.pw.length c0_1) (E0.R.pw) from by with_reducible repeat' (first | exact F2_2 | refine K.ints.set ?_ _ ?_ _ | refine K.ints.alloc ?_ _ | refine K.ints.drew ?_ | (dsimp only; omega) | omega | (simp; done) | (simp; omega))) x3; have F3_3 := K.ints.ext (show K.ints _ (l3_2) (r3_2) (.slice o2_4 (Z.ApplyStep E0 m1).1.L.pw.length k2_4) ((Z.ApplyStep E0 m1).1.L.pw) from by with_reducible repeat' (first | exact F3_2 | refine K.ints.set ?_ _ ?_ _ | refine K.ints.alloc ?_ _ | refine K.ints.drew ?_ | (dsimp only; omega) | omega | (simp; done) | (simp; omega))) x3; have F4_3 := K.ints.ext (show K.ints _ (l4_2) (r4_2) (.slice o2_4_ (Z.ApplyStep E0 m1).1.R.pw.length k2_4_) ((Z.ApplyStep E0 m1).1.R.pw) from by with_reducible repeat' (first | exact F4_2 | refine K.ints.set ?_ _ ?_ _ | refine K.ints.alloc ?_ _ | refine K.ints.drew ?_ | (dsimp only; omega) | omega | (simp; done) | (simp; omega))) x3; clear c2_0_0 c2_0_1 c2_0_2 c2_0_3 c2_0_4 c2_0_5 c2_0_6 c2_0_7 z2_0 d2_0 e2_0 c2_1_0 c2_1_1 c2_1_2 z2_1 d2_1 e2_1 F1_2 F2_2 F3_2 F4_2)
  go_wp2_with fail
  refine K.wp_region_x 8 [1, 1, 2, 2, 0, 0, 0, 2] [K.SP.any, K.SP.any, K.SP.is (.agg #[.int .i64 m1.kd, .int .u8 m1.nm, .int .i64 m1.pw]), (K.SP.eqnO (w3.heap.size + 1) (Z.ApplyStep E0 m1)), K.SP.any, K.SP.any, K.SP.any, K.SP.new (w3.heap.size + 1) (.cells #[.int .i64 0, .int .i64 0, .string ⟨#[]⟩, .slice none 0 0, .int .i64 0, .int .i64 0, .string ⟨#[]⟩, .slice none 0 0] 54)] (by kernel_rfl) (by kernel_rfl) ?_
  simp only [List.take_succ_cons, List.take_zero, List.drop_succ_cons, List.drop_zero]
  iterate 2
    apply K.x_held
    · rfl
    · rfl
    · intro w' hx; have hc := hx.all.1.1; have hf := hx.all.1.2; have hc' := hx.all.2.1; have hf' := hx.all.2.2; go_simp; first | done | rfl | exact ⟨rfl, rfl⟩
    simp only [Act.put, List.setIfInBounds_toArray, List.set]
  apply K.x_call_is
  · rfl
  · rfl
  · rfl
  · intro w'; go_simp; first | done | rfl | exact ⟨rfl, rfl⟩
  · intro w' hx hp; have hc := hx.all.1.1; have hf := hx.all.1.2; have hc' := hx.all.2.1; have hf' := hx.all.2.2; exact toStep_any m1 _
  intro w_2_ hx_2_
  simp only [Act.put, List.setIfInBounds_toArray, List.set]
  apply K.x_call
  · rfl
  · rfl
  · intro w'; go_simp; first | done | rfl | exact ⟨rfl, rfl⟩
  · intro w' hx hp; have hc := hx.all.1.1; have hf := hx.all.1.2; have hc' := hx.all.2.1; have hf' := hx.all.2.2; exact (by skip; exact K.SP.eqnO_of (by have h_ := hx.size; simp at h_; omega) (impl_ApplyStep E0 m1 _ hm1 hn1 hp1 hq1 (K.ints.ext (K.own.ints (K.own.drew (K.own.alloc F5_3 _))) hx) (K.ints.ext (K.own.ints (K.own.drew (K.own.alloc F6_3 _))) hx)))
  intro v3 w_3_ hx_3_ hv3
  obtain ⟨p3_, q3_, m3_, hi3_, rfl, ha3_, hb3_, hh3_, hp3_, hq3_⟩ := hv3; obtain ⟨o4_3, k4_3, rfl, _⟩ := K.own.ints hp3_; obtain ⟨o4_3_, k4_3_, rfl, _⟩ := K.own.ints hq3_
  simp only [Act.put, List.setIfInBounds_toArray, List.set]
  iterate 3
    apply K.x_pure
    · rfl
    · rfl
    · intro w'; go_simp; first | done | exact K.vint (IntWalk.i64_in _ (by omega)) | rfl | exact ⟨rfl, rfl⟩
    simp only [Act.put, List.setIfInBounds_toArray, List.set]
  apply K.x_new
  · rfl
  · rfl
  · rfl
  · go_simp; first | done | omega
  · intro w'; go_simp; first | done | rfl | exact ⟨rfl, rfl⟩
  intro g7_7 w_7_ hx_7_ hg7_7 hb_7_
  simp only [Act.put, List.setIfInBounds_toArray, List.set]
  apply K.x_done
  intro w4 h_x
  have x4 := hx_2_.trans (hx_3_.trans (hx_7_.trans h_x))
  have hb7_7 := K.Ext.block (h_x) hb_7_
  have cg7_7_0 : w4.cell? ⟨g7_7, 0, none⟩ = some (.int .i64 0) := K.cell_at hb7_7 rfl
  have fg7_7_0 : w4.frozen? ⟨g7_7, 0, none⟩ = false := K.thaw_at hb7_7
  have cg7_7_1 : w4.cell? ⟨g7_7, 1, none⟩ = some (.int .i64 0) := K.cell_at hb7_7 rfl
  have fg7_7_1 : w4.frozen? ⟨g7_7, 1, none⟩ = false := K.thaw_at hb7_7
  have cg7_7_2 : w4.cell? ⟨g7_7, 2, none⟩ = some (.string ⟨#[]⟩) := K.cell_at hb7_7 rfl
  have fg7_7_2 : w4.frozen? ⟨g7_7, 2, none⟩ = false := K.thaw_at hb7_7
  have cg7_7_3 : w4.cell? ⟨g7_7, 3, none⟩ = some (.slice none 0 0) := K.cell_at hb7_7 rfl
  have fg7_7_3 : w4.frozen? ⟨g7_7, 3, none⟩ = false := K.thaw_at hb7_7
  have cg7_7_4 : w4.cell? ⟨g7_7, 4, none⟩ = some (.int .i64 0) := K.cell_at hb7_7 rfl
  have fg7_7_4 : w4.frozen? ⟨g7_7, 4, none⟩ = false := K.thaw_at hb7_7
  have cg7_7_5 : w4.cell? ⟨g7_7, 5, none⟩ = some (.int .i64 0) := K.cell_at hb7_7 rfl
  have fg7_7_5 : w4.frozen? ⟨g7_7, 5, none⟩ = false := K.thaw_at hb7_7
  have cg7_7_6 : w4.cell? ⟨g7_7, 6, none⟩ = some (.string ⟨#[]⟩) := K.cell_at hb7_7 rfl
  have fg7_7_6 : w4.frozen? ⟨g7_7, 6, none⟩ = false := K.thaw_at hb7_7
  have cg7_7_7 : w4.cell? ⟨g7_7, 7, none⟩ = some (.slice none 0 0) := K.cell_at hb7_7 rfl
  have fg7_7_7 : w4.frozen? ⟨g7_7, 7, none⟩ = false := K.thaw_at hb7_7
  have hxe3 := K.Ext.id (hx_7_.trans h_x)
  clear h_x hx_2_ hx_3_ hx_7_
  obtain ⟨⟨hcw4, hfw4⟩, hc'w4, hf'w4⟩ := x4.all
  have s4 : w3.heap.size + 1 ≤ w4.heap.size := (by have h_ := x4.size; (try simp at h_); omega)
  have X4 := K.Ext.trans (K.Ext.drew (K.Ext.alloc X3 _)) x4
  obtain ⟨c4_0_0, c4_0_1, c4_0_2, c4_0_3, c4_0_4, c4_0_5, c4_0_6, c4_0_7⟩ := K.c8 x4 (w.heap.size) (.int .i64 E0.L.dg) (.int .i64 E0.L.tn) (.string E0.L.nm) (.slice o0_0 E0.L.pw.length c0_0) (.int .i64 E0.R.dg) (.int .i64 E0.R.tn) (.string E0.R.nm) (.slice o0_1 E0.R.pw.length c0_1) (by go_simp)
  have z4_0 : w.heap.size < w4.heap.size := World.block_lt_of_cell? w4 _ c4_0_0
  have d4_0 : ¬ (w.heap.size = w4.heap.size) := (by omega)
  have e4_0 : ¬ (w4.heap.size = w.heap.size) := (by omega)
  obtain ⟨c4_1_0, c4_1_1, c4_1_2⟩ := K.c3 x4 (w.heap.size + 1) (.int .i64 m1.kd) (.int .u8 m1.nm) (.int .i64 m1.pw) (by go_simp)
  have z4_1 : w.heap.size + 1 < w4.heap.size := World.block_lt_of_cell? w4 _ c4_1_0
  have d4_1 : ¬ (w.heap.size + 1 = w4.heap.size) := (by omega)
  have e4_1 : ¬ (w4.heap.size = w.heap.size + 1) := (by omega)
  obtain ⟨c4_2_0, c4_2_1, c4_2_2, c4_2_3, c4_2_4, c4_2_5, c4_2_6, c4_2_7⟩ := K.c8 x4 (g5_8) (.int .i64 (((Z.ApplyStep E0 m1).1).L.dg)) (.int .i64 (((Z.ApplyStep E0 m1).1).L.tn)) (.string ((Z.ApplyStep E0 m1).1).L.nm) (.slice o2_4 (Z.ApplyStep E0 m1).1.L.pw.length k2_4) (.int .i64 (((Z.ApplyStep E0 m1).1).R.dg)) (.int .i64 (((Z.ApplyStep E0 m1).1).R.tn)) (.string ((Z.ApplyStep E0 m1).1).R.nm) (.slice o2_4_ (Z.ApplyStep E0 m1).1.R.pw.length k2_4_) (by go_simp)
  have z4_2 : g5_8 < w4.heap.size := World.block_lt_of_cell? w4 _ c4_2_0
  have d4_2 : ¬ (g5_8 = w4.heap.size) := (by omega)
  have e4_2 : ¬ (w4.heap.size = g5_8) := (by omega)
  obtain ⟨c4_3_0, c4_3_1, c4_3_2, c4_3_3, c4_3_4, c4_3_5, c4_3_6, c4_3_7⟩ := K.c8 x4 (w3.heap.size) (.int .i64 E0.L.dg) (.int .i64 E0.L.tn) (.string E0.L.nm) (.slice o3 E0.L.pw.length k3) (.int .i64 E0.R.dg) (.int .i64 E0.R.tn) (.string E0.R.nm) (.slice o3_ E0.R.pw.length k3_) (by go_simp)
  have z4_3 : w3.heap.size < w4.heap.size := World.block_lt_of_cell? w4 _ c4_3_0
  have d4_3 : ¬ (w3.heap.size = w4.heap.size) := (by omega)
  have e4_3 : ¬ (w4.heap.size = w3.heap.size) := (by omega)
  have n3_0 : ¬ (w3.heap.size = w.heap.size) := (by omega)
  have n0_3 : ¬ (w.heap.size = w3.heap.size) := (by omega)
  have n3_1 : ¬ (w3.heap.size = w.heap.size + 1) := (by omega)
  have n1_3 : ¬ (w.heap.size + 1 = w3.heap.size) := (by omega)
  have n3_2 : ¬ (w3.heap.size = g5_8) := (by omega)
  have n2_3 : ¬ (g5_8 = w3.heap.size) := (by omega)
  have F1_4 := K.ints.ext (K.ints.drew (K.ints.alloc F1_3 _)) x4
  have F2_4 := K.ints.ext (K.ints.drew (K.ints.alloc F2_3 _)) x4
  have F3_4 := K.ints.ext (K.ints.drew (K.ints.alloc F3_3 _)) x4
  have F4_4 := K.ints.ext (K.ints.drew (K.ints.alloc F4_3 _)) x4
  have F5_4 := K.own.ext (K.own.drew (K.own.alloc F5_3 _)) x4
  have F6_4 := K.own.ext (K.own.drew (K.own.alloc F6_3 _)) x4
  clear c3_0_0 c3_0_1 c3_0_2 c3_0_3 c3_0_4 c3_0_5 c3_0_6 c3_0_7 z3_0 d3_0 e3_0 c3_1_0 c3_1_1 c3_1_2 z3_1 d3_1 e3_1 c3_2_0 c3_2_1 c3_2_2 c3_2_3 c3_2_4 c3_2_5 c3_2_6 c3_2_7 z3_2 d3_2 e3_2 F1_3 F2_3 F3_3 F4_3 F5_3 F6_3
  obtain ⟨l4L, r4L, n4L, m4L, j4L, k4L, F7_4⟩ := K.own_off2 ha3_ hb7_7 K.zero_eqn (Z.ApplyStep_nz _ _).1 (K.own.ext hp3_ hxe3)
  obtain ⟨l4R, r4R, n4R, m4R, j4R, k4R, F8_4⟩ := K.own_off2 hb3_ hb7_7 K.zero_eqn (Z.ApplyStep_nz _ _).2 (K.own.ext hq3_ hxe3)
  have ss4_ := hxe3.size
  have y7_7 : g7_7 < w4.heap.size := World.block_lt_of_cell? w4 _ cg7_7_0
  go_wp2_with fail
  refine NoPanic.normal ?_
  go_wp2_with (go_at_call 37; refine K.call (by with_reducible rfl) (by with_reducible rfl) (eqEquation_same ((Z.ApplyStep E0 m1).1) _ _ _ _ _ (Z.ApplyStep_le _ _ ).1 (Z.ApplyStep_le _ _ ).2 (K.own.ints (show K.own _ (l4L) (r4L) (.slice o4_3 (Z.ApplyStep E0 m1).1.L.pw.length k4_3) ((Z.ApplyStep E0 m1).1.L.pw) from by with_reducible repeat' (first | exact F7_4 | refine K.own.set ?_ _ ?_ _ | refine K.own.alloc ?_ _ | refine K.own.drew ?_ | (dsimp only; omega) | omega | (simp; done) | (simp; omega)))) (K.own.ints (show K.own _ (l4R) (r4R) (.slice o4_3_ (Z.ApplyStep E0 m1).1.R.pw.length k4_3_) ((Z.ApplyStep E0 m1).1.R.pw) from by with_reducible repeat' (first | exact F8_4 | refine K.own.set ?_ _ ?_ _ | refine K.own.alloc ?_ _ | refine K.own.drew ?_ | (dsimp only; omega) | omega | (simp; done) | (simp; omega)))) (show K.ints _ (l3_2) (r3_2) (.slice o2_4 (Z.ApplyStep E0 m1).1.L.pw.length k2_4) ((Z.ApplyStep E0 m1).1.L.pw) from by with_reducible repeat' (first | exact F3_4 | refine K.ints.set ?_ _ ?_ _ | refine K.ints.alloc ?_ _ | refine K.ints.drew ?_ | (dsimp only; omega) | omega | (simp; done) | (simp; omega))) (show K.ints _ (l4_2) (r4_2) (.slice o2_4_ (Z.ApplyStep E0 m1).1.R.pw.length k2_4_) ((Z.ApplyStep E0 m1).1.R.pw) from by with_reducible repeat' (first | exact F4_4 | refine K.ints.set ?_ _ ?_ _ | refine K.ints.alloc ?_ _ | refine K.ints.drew ?_ | (dsimp only; omega) | omega | (simp; done) | (simp; omega)))) ?_; rintro e w5 ⟨rfl, x5⟩; have s5 : w4.heap.size ≤ w5.heap.size := (by have h_ := x5.size; (try simp at h_); omega); have X5 : K.Ext w w5 := K.Ext.trans (by repeat' (first | with_reducible exact X4 | with_reducible refine K.Ext.setCell ?_ ?_ _ | with_reducible refine K.Ext.alloc ?_ _ | with_reducible refine K.Ext.drew ?_ | (dsimp only; omega) | omega | (simp; omega))) x5; obtain ⟨c5_0_0, c5_0_1, c5_0_2, c5_0_3, c5_0_4, c5_0_5, c5_0_6, c5_0_7⟩ := K.c8 x5 (w.heap.size) (.int .i64 E0.L.dg) (.int .i64 E0.L.tn) (.string E0.L.nm) (.slice o0_0 E0.L.pw.length c0_0) (.int .i64 E0.R.dg) (.int .i64 E0.R.tn) (.string E0.R.nm) (.slice o0_1 E0.R.pw.length c0_1) (by go_simp); have z5_0 : w.heap.size < w5.heap.size := World.block_lt_of_cell? w5 _ c5_0_0; have d5_0 : ¬ (w.heap.size = w5.heap.size) := (by omega); have e5_0 : ¬ (w5.heap.size = w.heap.size) := (by omega); obtain ⟨c5_1_0, c5_1_1, c5_1_2⟩ := K.c3 x5 (w.heap.size + 1) (.int .i64 m1.kd) (.int .u8 m1.nm) (.int .i64 m1.pw) (by go_simp); have z5_1 : w.heap.size + 1 < w5.heap.size := World.block_lt_of_cell? w5 _ c5_1_0; have d5_1 : ¬ (w.heap.size + 1 = w5.heap.size) := (by omega); have e5_1 : ¬ (w5.heap.size = w.heap.size + 1) := (by omega); obtain ⟨c5_2_0, c5_2_1, c5_2_2, c5_2_3, c5_2_4, c5_2_5, c5_2_6, c5_2_7⟩ := K.c8 x5 (g5_8) (.int .i64 (((Z.ApplyStep E0 m1).1).L.dg)) (.int .i64 (((Z.ApplyStep E0 m1).1).L.tn)) (.string ((Z.ApplyStep E0 m1).1).L.nm) (.slice o2_4 (Z.ApplyStep E0 m1).1.L.pw.length k2_4) (.int .i64 (((Z.ApplyStep E0 m1).1).R.dg)) (.int .i64 (((Z.ApplyStep E0 m1).1).R.tn)) (.string ((Z.ApplyStep E0 m1).1).R.nm) (.slice o2_4_ (Z.ApplyStep E0 m1).1.R.pw.length k2_4_) (by go_simp); have z5_2 : g5_8 < w5.heap.size := World.block_lt_of_cell? w5 _ c5_2_0; have d5_2 : ¬ (g5_8 = w5.heap.size) := (by omega); have e5_2 : ¬ (w5.heap.size = g5_8) := (by omega); obtain ⟨c5_3_0, c5_3_1, c5_3_2, c5_3_3, c5_3_4, c5_3_5, c5_3_6, c5_3_7⟩ := K.c8 x5 (w3.heap.size) (.int .i64 E0.L.dg) (.int .i64 E0.L.tn) (.string E0.L.nm) (.slice o3 E0.L.pw.length k3) (.int .i64 E0.R.dg) (.int .i64 E0.R.tn) (.string E0.R.nm) (.slice o3_ E0.R.pw.length k3_) (by go_simp); have z5_3 : w3.heap.size < w5.heap.size := World.block_lt_of_cell? w5 _ c5_3_0; have d5_3 : ¬ (w3.heap.size = w5.heap.size) := (by omega); have e5_3 : ¬ (w5.heap.size = w3.heap.size) := (by omega); obtain ⟨c5_4_0, c5_4_1, c5_4_2, c5_4_3, c5_4_4, c5_4_5, c5_4_6, c5_4_7⟩ := K.c8 x5 (g7_7) (.int .i64 (((Z.ApplyStep E0 m1).1).L.dg)) (.int .i64 (((Z.ApplyStep E0 m1).1).L.tn)) (.string ((Z.ApplyStep E0 m1).1).L.nm) (.slice o4_3 (Z.ApplyStep E0 m1).1.L.pw.length k4_3) (.int .i64 (((Z.ApplyStep E0 m1).1).R.dg)) (.int .i64 (((Z.ApplyStep E0 m1).1).R.tn)) (.string ((Z.ApplyStep E0 m1).1).R.nm) (.slice o4_3_ (Z.ApplyStep E0 m1).1.R.pw.length k4_3_) (by go_simp); have z5_4 : g7_7 < w5.heap.size := World.block_lt_of_cell? w5 _ c5_4_0; have d5_4 : ¬ (g7_7 = w5.heap.size) := (by omega); have e5_4 : ¬ (w5.heap.size = g7_7) := (by omega); have n4_0 : ¬ (g7_7 = w.heap.size) := (by omega); have n0_4 : ¬ (w.heap.size = g7_7) := (by omega); have n4_1 : ¬ (g7_7 = w.heap.size + 1) := (by omega); have n1_4 : ¬ (w.heap.size + 1 = g7_7) := (by omega); have n4_2 : ¬ (g7_7 = g5_8) := (by omega); have n2_4 : ¬ (g5_8 = g7_7) := (by omega); have n4_3 : ¬ (g7_7 = w3.heap.size) := (by omega); have n3_4 : ¬ (w3.heap.size = g7_7) := (by omega); have F1_5 := K.ints.ext (show K.ints _ (0) (w.heap.size) (.slice o0_0 E0.L.pw.length c0_0) (E0.L.pw) from by with_reducible repeat' (first | exact F1_4 | refine K.ints.set ?_ _ ?_ _ | refine K.ints.alloc ?_ _ | refine K.ints.drew ?_ | (dsimp only; omega) | omega | (simp; done) | (simp; omega))) x5; have F2_5 := K.ints.ext (show K.ints _ (0) (w.heap.size) (.slice o0_1 E0.R.pw.length c0_1) (E0.R.pw) from by with_reducible repeat' (first | exact F2_4 | refine K.ints.set ?_ _ ?_ _ | refine K.ints.alloc ?_ _ | refine K.ints.drew ?_ | (dsimp only; omega) | omega | (simp; done) | (simp; omega))) x5; have F3_5 := K.ints.ext (show K.ints _ (l3_2) (r3_2) (.slice o2_4 (Z.ApplyStep E0 m1).1.L.pw.length k2_4) ((Z.ApplyStep E0 m1).1.L.pw) from by with_reducible repeat' (first | exact F3_4 | refine K.ints.set ?_ _ ?_ _ | refine K.ints.alloc ?_ _ | refine K.ints.drew ?_ | (dsimp only; omega) | omega | (simp; done) | (simp; omega))) x5; have F4_5 := K.ints.ext (show K.ints _ (l4_2) (r4_2) (.slice o2_4_ (Z.ApplyStep E0 m1).1.R.pw.length k2_4_) ((Z.ApplyStep E0 m1).1.R.pw) from by with_reducible repeat' (first | exact F4_4 | refine K.ints.set ?_ _ ?_ _ | refine K.ints.alloc ?_ _ | refine K.ints.drew ?_ | (dsimp only; omega) | omega | (simp; done) | (simp; omega))) x5; have F5_5 := K.own.ext (show K.own _ (w2.heap.size) (b3) (.slice o3 E0.L.pw.length k3) (E0.L.pw) from by with_reducible repeat' (first | exact F5_4 | refine K.own.set ?_ _ ?_ _ | refine K.own.alloc ?_ _ | refine K.own.drew ?_ | (dsimp only; omega) | omega | (simp; done) | (simp; omega))) x5; have F6_5 := K.own.ext (show K.own _ (b3) (w3.heap.size) (.slice o3_ E0.R.pw.length k3_) (E0.R.pw) from by with_reducible repeat' (first | exact F6_4 | refine K.own.set ?_ _ ?_ _ | refine K.own.alloc ?_ _ | refine K.own.drew ?_ | (dsimp only; omega) | omega | (simp; done) | (simp; omega))) x5; have F7_5 := K.own.ext (show K.own _ (l4L) (r4L) (.slice o4_3 (Z.ApplyStep E0 m1).1.L.pw.length k4_3) ((Z.ApplyStep E0 m1).1.L.pw) from by with_reducible repeat' (first | exact F7_4 | refine K.own.set ?_ _ ?_ _ | refine K.own.alloc ?_ _ | refine K.own.drew ?_ | (dsimp only; omega) | omega | (simp; done) | (simp; omega))) x5; have F8_5 := K.own.ext (show K.own _ (l4R) (r4R) (.slice o4_3_ (Z.ApplyStep E0 m1).1.R.pw.length k4_3_) ((Z.ApplyStep E0 m1).1.R.pw) from by with_reducible repeat' (first | exact F8_4 | refine K.own.set ?_ _ ?_ _ | refine K.own.alloc ?_ _ | refine K.own.drew ?_ | (dsimp only; omega) | omega | (simp; done) | (simp; omega))) x5; clear c4_0_0 c4_0_1 c4_0_2 c4_0_3 c4_0_4 c4_0_5 c4_0_6 c4_0_7 z4_0 d4_0 e4_0 c4_1_0 c4_1_1 c4_1_2 z4_1 d4_1 e4_1 c4_2_0 c4_2_1 c4_2_2 c4_2_3 c4_2_4 c4_2_5 c4_2_6 c4_2_7 z4_2 d4_2 e4_2 c4_3_0 c4_3_1 c4_3_2 c4_3_3 c4_3_4 c4_3_5 c4_3_6 c4_3_7 z4_3 d4_3 e4_3 F1_4 F2_4 F3_4 F4_4 F5_4 F6_4 F7_4 F8_4)
  go_wp2_with fail
  refine K.wp_region_x 5 [1, 1, 2, 2, 0] [K.SP.any, K.SP.any, (K.SP.eqn E0), K.SP.is (.bool true)] (by kernel_rfl) (by kernel_rfl) ?_
  simp only [List.take_succ_cons, List.take_zero, List.drop_succ_cons, List.drop_zero]
  iterate 2
    apply K.x_held
    · rfl
    · rfl
    · intro w' hx; have hc := hx.all.1.1; have hf := hx.all.1.2; have hc' := hx.all.2.1; have hf' := hx.all.2.2; go_simp; first | done | rfl | exact ⟨rfl, rfl⟩
    simp only [Act.put, List.setIfInBounds_toArray, List.set]
  apply K.x_call
  · rfl
  · rfl
  · intro w'; go_simp; first | done | rfl | exact ⟨rfl, rfl⟩
  · intro w' hx hp; have hc := hx.all.1.1; have hf := hx.all.1.2; have hc' := hx.all.2.1; have hf' := hx.all.2.2; exact toEquation_sp E0 _ _ _ hm1 hp1 (K.ints.ext (K.ints.drew (F1_5)) hx) (K.ints.ext (K.ints.drew (F2_5)) hx)
  intro v2 w_2_ hx_2_ hv2
  obtain ⟨p_, q_, lo_, hi_, rfl, hp_, hq_⟩ := hv2; have hp2_ := hp_; obtain ⟨ov_, cv_, rfl, _⟩ := hp2_; have hq2_ := hq_; obtain ⟨ov2_, cv2_, rfl, _⟩ := hq2_
  simp only [Act.put, List.setIfInBounds_toArray, List.set]
  apply K.x_call_is
  · rfl
  · rfl
  · rfl
  · intro w'; go_simp; first | done | rfl | exact ⟨rfl, rfl⟩
  · intro w' hx hp; have hc := hx.all.1.1; have hf := hx.all.1.2; have hc' := hx.all.2.1; have hf' := hx.all.2.2; exact (by obtain ⟨lo_, hi_, hq_, hr_⟩ := K.SP.eqn_at (hp 2 _ (by kernel_rfl) rfl rfl); exact eqEquation_same E0 _ _ _ _ _ hm1 hp1 (K.ints.ext (K.own.ints (K.own.drew (F5_5))) hx) (K.ints.ext (K.own.ints (K.own.drew (F6_5))) hx) hq_ hr_)
  intro w_3_ hx_3_
  simp only [Act.put, List.setIfInBounds_toArray, List.set]
  apply K.x_pure
  · rfl
  · rfl
  · intro w'; go_simp; first | done | exact K.vint (IntWalk.i64_in _ (by omega)) | rfl | exact ⟨rfl, rfl⟩
  simp only [Act.put, List.setIfInBounds_toArray, List.set]
  apply K.x_done
  intro w6 h_x
  have x6 := hx_2_.trans (hx_3_.trans h_x)
  have hxe2 := K.Ext.id (hx_3_.trans h_x)
  clear h_x hx_2_ hx_3_
  obtain ⟨⟨hcw6, hfw6⟩, hc'w6, hf'w6⟩ := x6.all
  have s6 : w5.heap.size ≤ w6.heap.size := (by have h_ := x6.size; (try simp at h_); omega)
  have X6 := K.Ext.trans (K.Ext.drew (X5)) x6
  obtain ⟨c6_0_0, c6_0_1, c6_0_2, c6_0_3, c6_0_4, c6_0_5, c6_0_6, c6_0_7⟩ := K.c8 x6 (w.heap.size) (.int .i64 E0.L.dg) (.int .i64 E0.L.tn) (.string E0.L.nm) (.slice o0_0 E0.L.pw.length c0_0) (.int .i64 E0.R.dg) (.int .i64 E0.R.tn) (.string E0.R.nm) (.slice o0_1 E0.R.pw.length c0_1) (by go_simp)
  have z6_0 : w.heap.size < w6.heap.size := World.block_lt_of_cell? w6 _ c6_0_0
  have d6_0 : ¬ (w.heap.size = w6.heap.size) := (by omega)
  have e6_0 : ¬ (w6.heap.size = w.heap.size) := (by omega)
  obtain ⟨c6_1_0, c6_1_1, c6_1_2⟩ := K.c3 x6 (w.heap.size + 1) (.int .i64 m1.kd) (.int .u8 m1.nm) (.int .i64 m1.pw) (by go_simp)
  have z6_1 : w.heap.size + 1 < w6.heap.size := World.block_lt_of_cell? w6 _ c6_1_0
  have d6_1 : ¬ (w.heap.size + 1 = w6.heap.size) := (by omega)
  have e6_1 : ¬ (w6.heap.size = w.heap.size + 1) := (by omega)
  obtain ⟨c6_2_0, c6_2_1, c6_2_2, c6_2_3, c6_2_4, c6_2_5, c6_2_6, c6_2_7⟩ := K.c8 x6 (g5_8) (.int .i64 (((Z.ApplyStep E0 m1).1).L.dg)) (.int .i64 (((Z.ApplyStep E0 m1).1).L.tn)) (.string ((Z.ApplyStep E0 m1).1).L.nm) (.slice o2_4 (Z.ApplyStep E0 m1).1.L.pw.length k2_4) (.int .i64 (((Z.ApplyStep E0 m1).1).R.dg)) (.int .i64 (((Z.ApplyStep E0 m1).1).R.tn)) (.string ((Z.ApplyStep E0 m1).1).R.nm) (.slice o2_4_ (Z.ApplyStep E0 m1).1.R.pw.length k2_4_) (by go_simp)
  have z6_2 : g5_8 < w6.heap.size := World.block_lt_of_cell? w6 _ c6_2_0
  have d6_2 : ¬ (g5_8 = w6.heap.size) := (by omega)
  have e6_2 : ¬ (w6.heap.size = g5_8) := (by omega)
  obtain ⟨c6_3_0, c6_3_1, c6_3_2, c6_3_3, c6_3_4, c6_3_5, c6_3_6, c6_3_7⟩ := K.c8 x6 (w3.heap.size) (.int .i64 E0.L.dg) (.int .i64 E0.L.tn) (.string E0.L.nm) (.slice o3 E0.L.pw.length k3) (.int .i64 E0.R.dg) (.int .i64 E0.R.tn) (.string E0.R.nm) (.slice o3_ E0.R.pw.length k3_) (by go_simp)
  have z6_3 : w3.heap.size < w6.heap.size := World.block_lt_of_cell? w6 _ c6_3_0
  have d6_3 : ¬ (w3.heap.size = w6.heap.size) := (by omega)
  have e6_3 : ¬ (w6.heap.size = w3.heap.size) := (by omega)
  obtain ⟨c6_4_0, c6_4_1, c6_4_2, c6_4_3, c6_4_4, c6_4_5, c6_4_6, c6_4_7⟩ := K.c8 x6 (g7_7) (.int .i64 (((Z.ApplyStep E0 m1).1).L.dg)) (.int .i64 (((Z.ApplyStep E0 m1).1).L.tn)) (.string ((Z.ApplyStep E0 m1).1).L.nm) (.slice o4_3 (Z.ApplyStep E0 m1).1.L.pw.length k4_3) (.int .i64 (((Z.ApplyStep E0 m1).1).R.dg)) (.int .i64 (((Z.ApplyStep E0 m1).1).R.tn)) (.string ((Z.ApplyStep E0 m1).1).R.nm) (.slice o4_3_ (Z.ApplyStep E0 m1).1.R.pw.length k4_3_) (by go_simp)
  have z6_4 : g7_7 < w6.heap.size := World.block_lt_of_cell? w6 _ c6_4_0
  have d6_4 : ¬ (g7_7 = w6.heap.size) := (by omega)
  have e6_4 : ¬ (w6.heap.size = g7_7) := (by omega)
  have F1_6 := K.ints.ext (K.ints.drew (F1_5)) x6
  have F2_6 := K.ints.ext (K.ints.drew (F2_5)) x6
  have F3_6 := K.ints.ext (K.ints.drew (F3_5)) x6
  have F4_6 := K.ints.ext (K.ints.drew (F4_5)) x6
  have F5_6 := K.own.ext (K.own.drew (F5_5)) x6
  have F6_6 := K.own.ext (K.own.drew (F6_5)) x6
  have F7_6 := K.own.ext (K.own.drew (F7_5)) x6
  have F8_6 := K.own.ext (K.own.drew (F8_5)) x6
  clear c5_0_0 c5_0_1 c5_0_2 c5_0_3 c5_0_4 c5_0_5 c5_0_6 c5_0_7 z5_0 d5_0 e5_0 c5_1_0 c5_1_1 c5_1_2 z5_1 d5_1 e5_1 c5_2_0 c5_2_1 c5_2_2 c5_2_3 c5_2_4 c5_2_5 c5_2_6 c5_2_7 z5_2 d5_2 e5_2 c5_3_0 c5_3_1 c5_3_2 c5_3_3 c5_3_4 c5_3_5 c5_3_6 c5_3_7 z5_3 d5_3 e5_3 c5_4_0 c5_4_1 c5_4_2 c5_4_3 c5_4_4 c5_4_5 c5_4_6 c5_4_7 z5_4 d5_4 e5_4 F1_5 F2_5 F3_5 F4_5 F5_5 F6_5 F7_5 F8_5
  refine wpList_nil ?_
  refine NoPanic.normal ?_
  go_wp2_with (go_at_call 45; refine K.call (by with_reducible rfl) (by with_reducible rfl) (markEquation_any E0 _ _ _ _ hm1 hp1 (by omega) (by omega) (by omega) (by omega) (by omega) (F5_6) (F6_6)) ?_; rintro e w7 ⟨⟨rfl, G7, H7⟩, x7⟩; have F5_7 : K.own w7 (w2.heap.size) (b3) (.slice o3 E0.L.pw.length k3) (Z.marks (1) E0.L.pw.length) := G7; have F6_7 : K.own w7 (b3) (w3.heap.size) (.slice o3_ E0.R.pw.length k3_) (Z.marks (1 + (E0.L.pw.length : Int)) E0.R.pw.length) := H7; have s7 : w6.heap.size ≤ w7.heap.size := (by have h_ := x7.size; (try simp at h_); omega); have X7 : K.Ext w w7 := K.Far.ext X6 x7 (by omega); obtain ⟨c7_0_0, c7_0_1, c7_0_2, c7_0_3, c7_0_4, c7_0_5, c7_0_6, c7_0_7⟩ := K.r8 x7 (w.heap.size) (.int .i64 E0.L.dg) (.int .i64 E0.L.tn) (.string E0.L.nm) (.slice o0_0 E0.L.pw.length c0_0) (.int .i64 E0.R.dg) (.int .i64 E0.R.tn) (.string E0.R.nm) (.slice o0_1 E0.R.pw.length c0_1) (by go_simp) (by omega); have z7_0 : w.heap.size < w7.heap.size := World.block_lt_of_cell? w7 _ c7_0_0; have d7_0 : ¬ (w.heap.size = w7.heap.size) := (by omega); have e7_0 : ¬ (w7.heap.size = w.heap.size) := (by omega); obtain ⟨c7_1_0, c7_1_1, c7_1_2⟩ := K.r3 x7 (w.heap.size + 1) (.int .i64 m1.kd) (.int .u8 m1.nm) (.int .i64 m1.pw) (by go_simp) (by omega); have z7_1 : w.heap.size + 1 < w7.heap.size := World.block_lt_of_cell? w7 _ c7_1_0; have d7_1 : ¬ (w.heap.size + 1 = w7.heap.size) := (by omega); have e7_1 : ¬ (w7.heap.size = w.heap.size + 1) := (by omega); obtain ⟨c7_2_0, c7_2_1, c7_2_2, c7_2_3, c7_2_4, c7_2_5, c7_2_6, c7_2_7⟩ := K.r8 x7 (g5_8) (.int .i64 (((Z.ApplyStep E0 m1).1).L.dg)) (.int .i64 (((Z.ApplyStep E0 m1).1).L.tn)) (.string ((Z.ApplyStep E0 m1).1).L.nm) (.slice o2_4 (Z.ApplyStep E0 m1).1.L.pw.length k2_4) (.int .i64 (((Z.ApplyStep E0 m1).1).R.dg)) (.int .i64 (((Z.ApplyStep E0 m1).1).R.tn)) (.string ((Z.ApplyStep E0 m1).1).R.nm) (.slice o2_4_ (Z.ApplyStep E0 m1).1.R.pw.length k2_4_) (by go_simp) (by omega); have z7_2 : g5_8 < w7.heap.size := World.block_lt_of_cell? w7 _ c7_2_0; have d7_2 : ¬ (g5_8 = w7.heap.size) := (by omega); have e7_2 : ¬ (w7.heap.size = g5_8) := (by omega); obtain ⟨c7_3_0, c7_3_1, c7_3_2, c7_3_3, c7_3_4, c7_3_5, c7_3_6, c7_3_7⟩ := K.r8 x7 (w3.heap.size) (.int .i64 E0.L.dg) (.int .i64 E0.L.tn) (.string E0.L.nm) (.slice o3 E0.L.pw.length k3) (.int .i64 E0.R.dg) (.int .i64 E0.R.tn) (.string E0.R.nm) (.slice o3_ E0.R.pw.length k3_) (by go_simp) (by omega); have z7_3 : w3.heap.size < w7.heap.size := World.block_lt_of_cell? w7 _ c7_3_0; have d7_3 : ¬ (w3.heap.size = w7.heap.size) := (by omega); have e7_3 : ¬ (w7.heap.size = w3.heap.size) := (by omega); obtain ⟨c7_4_0, c7_4_1, c7_4_2, c7_4_3, c7_4_4, c7_4_5, c7_4_6, c7_4_7⟩ := K.r8 x7 (g7_7) (.int .i64 (((Z.ApplyStep E0 m1).1).L.dg)) (.int .i64 (((Z.ApplyStep E0 m1).1).L.tn)) (.string ((Z.ApplyStep E0 m1).1).L.nm) (.slice o4_3 (Z.ApplyStep E0 m1).1.L.pw.length k4_3) (.int .i64 (((Z.ApplyStep E0 m1).1).R.dg)) (.int .i64 (((Z.ApplyStep E0 m1).1).R.tn)) (.string ((Z.ApplyStep E0 m1).1).R.nm) (.slice o4_3_ (Z.ApplyStep E0 m1).1.R.pw.length k4_3_) (by go_simp) (by omega); have z7_4 : g7_7 < w7.heap.size := World.block_lt_of_cell? w7 _ c7_4_0; have d7_4 : ¬ (g7_7 = w7.heap.size) := (by omega); have e7_4 : ¬ (w7.heap.size = g7_7) := (by omega); have F1_7 := K.ints.far (F1_6) x7 (by omega); have F2_7 := K.ints.far (F2_6) x7 (by omega); have F3_7 := K.ints.far (F3_6) x7 (by omega); have F4_7 := K.ints.far (F4_6) x7 (by omega); have F7_7 := K.own.far (F7_6) x7 (by omega); have F8_7 := K.own.far (F8_6) x7 (by omega); clear c6_0_0 c6_0_1 c6_0_2 c6_0_3 c6_0_4 c6_0_5 c6_0_6 c6_0_7 z6_0 d6_0 e6_0 c6_1_0 c6_1_1 c6_1_2 z6_1 d6_1 e6_1 c6_2_0 c6_2_1 c6_2_2 c6_2_3 c6_2_4 c6_2_5 c6_2_6 c6_2_7 z6_2 d6_2 e6_2 c6_3_0 c6_3_1 c6_3_2 c6_3_3 c6_3_4 c6_3_5 c6_3_6 c6_3_7 z6_3 d6_3 e6_3 c6_4_0 c6_4_1 c6_4_2 c6_4_3 c6_4_4 c6_4_5 c6_4_6 c6_4_7 z6_4 d6_4 e6_4 F5_6 G7 F6_6 H7 F1_6 F2_6 F3_6 F4_6 F7_6 F8_6)
  go_wp2_with (go_at_call 37; refine K.call (by with_reducible rfl) (by with_reducible rfl) (eqEquation_same ((Z.ApplyStep E0 m1).1) _ _ _ _ _ (Z.ApplyStep_le _ _ ).1 (Z.ApplyStep_le _ _ ).2 (K.own.ints (F7_7)) (K.own.ints (F8_7)) (F3_7) (F4_7)) ?_; rintro e w8 ⟨rfl, x8⟩; have s8 : w7.heap.size ≤ w8.heap.size := (by have h_ := x8.size; (try simp at h_); omega); have X8 := K.Ext.trans (X7) x8; obtain ⟨c8_0_0, c8_0_1, c8_0_2, c8_0_3, c8_0_4, c8_0_5, c8_0_6, c8_0_7⟩ := K.c8 x8 (w.heap.size) (.int .i64 E0.L.dg) (.int .i64 E0.L.tn) (.string E0.L.nm) (.slice o0_0 E0.L.pw.length c0_0) (.int .i64 E0.R.dg) (.int .i64 E0.R.tn) (.string E0.R.nm) (.slice o0_1 E0.R.pw.length c0_1) (by go_simp); have z8_0 : w.heap.size < w8.heap.size := World.block_lt_of_cell? w8 _ c8_0_0; have d8_0 : ¬ (w.heap.size = w8.heap.size) := (by omega); have e8_0 : ¬ (w8.heap.size = w.heap.size) := (by omega); obtain ⟨c8_1_0, c8_1_1, c8_1_2⟩ := K.c3 x8 (w.heap.size + 1) (.int .i64 m1.kd) (.int .u8 m1.nm) (.int .i64 m1.pw) (by go_simp); have z8_1 : w.heap.size + 1 < w8.heap.size := World.block_lt_of_cell? w8 _ c8_1_0; have d8_1 : ¬ (w.heap.size + 1 = w8.heap.size) := (by omega); have e8_1 : ¬ (w8.heap.size = w.heap.size + 1) := (by omega); obtain ⟨c8_2_0, c8_2_1, c8_2_2, c8_2_3, c8_2_4, c8_2_5, c8_2_6, c8_2_7⟩ := K.c8 x8 (g5_8) (.int .i64 (((Z.ApplyStep E0 m1).1).L.dg)) (.int .i64 (((Z.ApplyStep E0 m1).1).L.tn)) (.string ((Z.ApplyStep E0 m1).1).L.nm) (.slice o2_4 (Z.ApplyStep E0 m1).1.L.pw.length k2_4) (.int .i64 (((Z.ApplyStep E0 m1).1).R.dg)) (.int .i64 (((Z.ApplyStep E0 m1).1).R.tn)) (.string ((Z.ApplyStep E0 m1).1).R.nm) (.slice o2_4_ (Z.ApplyStep E0 m1).1.R.pw.length k2_4_) (by go_simp); have z8_2 : g5_8 < w8.heap.size := World.block_lt_of_cell? w8 _ c8_2_0; have d8_2 : ¬ (g5_8 = w8.heap.size) := (by omega); have e8_2 : ¬ (w8.heap.size = g5_8) := (by omega); obtain ⟨c8_3_0, c8_3_1, c8_3_2, c8_3_3, c8_3_4, c8_3_5, c8_3_6, c8_3_7⟩ := K.c8 x8 (w3.heap.size) (.int .i64 E0.L.dg) (.int .i64 E0.L.tn) (.string E0.L.nm) (.slice o3 E0.L.pw.length k3) (.int .i64 E0.R.dg) (.int .i64 E0.R.tn) (.string E0.R.nm) (.slice o3_ E0.R.pw.length k3_) (by go_simp); have z8_3 : w3.heap.size < w8.heap.size := World.block_lt_of_cell? w8 _ c8_3_0; have d8_3 : ¬ (w3.heap.size = w8.heap.size) := (by omega); have e8_3 : ¬ (w8.heap.size = w3.heap.size) := (by omega); obtain ⟨c8_4_0, c8_4_1, c8_4_2, c8_4_3, c8_4_4, c8_4_5, c8_4_6, c8_4_7⟩ := K.c8 x8 (g7_7) (.int .i64 (((Z.ApplyStep E0 m1).1).L.dg)) (.int .i64 (((Z.ApplyStep E0 m1).1).L.tn)) (.string ((Z.ApplyStep E0 m1).1).L.nm) (.slice o4_3 (Z.ApplyStep E0 m1).1.L.pw.length k4_3) (.int .i64 (((Z.ApplyStep E0 m1).1).R.dg)) (.int .i64 (((Z.ApplyStep E0 m1).1).R.tn)) (.string ((Z.ApplyStep E0 m1).1).R.nm) (.slice o4_3_ (Z.ApplyStep E0 m1).1.R.pw.length k4_3_) (by go_simp); have z8_4 : g7_7 < w8.heap.size := World.block_lt_of_cell? w8 _ c8_4_0; have d8_4 : ¬ (g7_7 = w8.heap.size) := (by omega); have e8_4 : ¬ (w8.heap.size = g7_7) := (by omega); have F1_8 := K.ints.ext (F1_7) x8; have F2_8 := K.ints.ext (F2_7) x8; have F3_8 := K.ints.ext (F3_7) x8; have F4_8 := K.ints.ext (F4_7) x8; have F5_8 := K.own.ext (F5_7) x8; have F6_8 := K.own.ext (F6_7) x8; have F7_8 := K.own.ext (F7_7) x8; have F8_8 := K.own.ext (F8_7) x8; clear c7_0_0 c7_0_1 c7_0_2 c7_0_3 c7_0_4 c7_0_5 c7_0_6 c7_0_7 z7_0 d7_0 e7_0 c7_1_0 c7_1_1 c7_1_2 z7_1 d7_1 e7_1 c7_2_0 c7_2_1 c7_2_2 c7_2_3 c7_2_4 c7_2_5 c7_2_6 c7_2_7 z7_2 d7_2 e7_2 c7_3_0 c7_3_1 c7_3_2 c7_3_3 c7_3_4 c7_3_5 c7_3_6 c7_3_7 z7_3 d7_3 e7_3 c7_4_0 c7_4_1 c7_4_2 c7_4_3 c7_4_4 c7_4_5 c7_4_6 c7_4_7 z7_4 d7_4 e7_4 F1_7 F2_7 F3_7 F4_7 F5_7 F6_7 F7_7 F8_7)
  go_wp2_with (go_at_call 45; refine K.call (by with_reducible rfl) (by with_reducible rfl) (markEquation_seq ((Z.ApplyStep E0 m1).1) _ _ (Z.ApplyStep_le _ _ ).1 (Z.ApplyStep_le _ _ ).2 (by omega) (by omega) (by omega) (by omega) (by omega) (by omega) (by omega) (F7_8) (F8_8)) ?_; rintro e w9 ⟨rfl, v9, ⟨G9, y9⟩, H9, x9⟩; have F7_9 := G9; have s9 : w8.heap.size ≤ v9.heap.size := (by have h_ := y9.size; (try simp at h_); omega); have X9 : K.Ext w v9 := K.Far.ext X8 y9 (by omega); obtain ⟨c9_0_0, c9_0_1, c9_0_2, c9_0_3, c9_0_4, c9_0_5, c9_0_6, c9_0_7⟩ := K.r8 y9 (w.heap.size) (.int .i64 E0.L.dg) (.int .i64 E0.L.tn) (.string E0.L.nm) (.slice o0_0 E0.L.pw.length c0_0) (.int .i64 E0.R.dg) (.int .i64 E0.R.tn) (.string E0.R.nm) (.slice o0_1 E0.R.pw.length c0_1) (by go_simp) (by omega); have z9_0 : w.heap.size < v9.heap.size := World.block_lt_of_cell? v9 _ c9_0_0; have d9_0 : ¬ (w.heap.size = v9.heap.size) := (by omega); have e9_0 : ¬ (v9.heap.size = w.heap.size) := (by omega); obtain ⟨c9_1_0, c9_1_1, c9_1_2⟩ := K.r3 y9 (w.heap.size + 1) (.int .i64 m1.kd) (.int .u8 m1.nm) (.int .i64 m1.pw) (by go_simp) (by omega); have z9_1 : w.heap.size + 1 < v9.heap.size := World.block_lt_of_cell? v9 _ c9_1_0; have d9_1 : ¬ (w.heap.size + 1 = v9.heap.size) := (by omega); have e9_1 : ¬ (v9.heap.size = w.heap.size + 1) := (by omega); obtain ⟨c9_2_0, c9_2_1, c9_2_2, c9_2_3, c9_2_4, c9_2_5, c9_2_6, c9_2_7⟩ := K.r8 y9 (g5_8) (.int .i64 (((Z.ApplyStep E0 m1).1).L.dg)) (.int .i64 (((Z.ApplyStep E0 m1).1).L.tn)) (.string ((Z.ApplyStep E0 m1).1).L.nm) (.slice o2_4 (Z.ApplyStep E0 m1).1.L.pw.length k2_4) (.int .i64 (((Z.ApplyStep E0 m1).1).R.dg)) (.int .i64 (((Z.ApplyStep E0 m1).1).R.tn)) (.string ((Z.ApplyStep E0 m1).1).R.nm) (.slice o2_4_ (Z.ApplyStep E0 m1).1.R.pw.length k2_4_) (by go_simp) (by omega); have z9_2 : g5_8 < v9.heap.size := World.block_lt_of_cell? v9 _ c9_2_0; have d9_2 : ¬ (g5_8 = v9.heap.size) := (by omega); have e9_2 : ¬ (v9.heap.size = g5_8) := (by omega); obtain ⟨c9_3_0, c9_3_1, c9_3_2, c9_3_3, c9_3_4, c9_3_5, c9_3_6, c9_3_7⟩ := K.r8 y9 (w3.heap.size) (.int .i64 E0.L.dg) (.int .i64 E0.L.tn) (.string E0.L.nm) (.slice o3 E0.L.pw.length k3) (.int .i64 E0.R.dg) (.int .i64 E0.R.tn) (.string E0.R.nm) (.slice o3_ E0.R.pw.length k3_) (by go_simp) (by omega); have z9_3 : w3.heap.size < v9.heap.size := World.block_lt_of_cell? v9 _ c9_3_0; have d9_3 : ¬ (w3.heap.size = v9.heap.size) := (by omega); have e9_3 : ¬ (v9.heap.size = w3.heap.size) := (by omega); obtain ⟨c9_4_0, c9_4_1, c9_4_2, c9_4_3, c9_4_4, c9_4_5, c9_4_6, c9_4_7⟩ := K.r8 y9 (g7_7) (.int .i64 (((Z.ApplyStep E0 m1).1).L.dg)) (.int .i64 (((Z.ApplyStep E0 m1).1).L.tn)) (.string ((Z.ApplyStep E0 m1).1).L.nm) (.slice o4_3 (Z.ApplyStep E0 m1).1.L.pw.length k4_3) (.int .i64 (((Z.ApplyStep E0 m1).1).R.dg)) (.int .i64 (((Z.ApplyStep E0 m1).1).R.tn)) (.string ((Z.ApplyStep E0 m1).1).R.nm) (.slice o4_3_ (Z.ApplyStep E0 m1).1.R.pw.length k4_3_) (by go_simp) (by omega); have z9_4 : g7_7 < v9.heap.size := World.block_lt_of_cell? v9 _ c9_4_0; have d9_4 : ¬ (g7_7 = v9.heap.size) := (by omega); have e9_4 : ¬ (v9.heap.size = g7_7) := (by omega); have F1_9 := K.ints.far (F1_8) y9 (by omega); have F2_9 := K.ints.far (F2_8) y9 (by omega); have F3_9 := K.ints.far (F3_8) y9 (by omega); have F4_9 := K.ints.far (F4_8) y9 (by omega); have F5_9 := K.own.far (F5_8) y9 (by omega); have F6_9 := K.own.far (F6_8) y9 (by omega); have F8_9 := K.own.far (F8_8) y9 (by omega); clear c8_0_0 c8_0_1 c8_0_2 c8_0_3 c8_0_4 c8_0_5 c8_0_6 c8_0_7 z8_0 d8_0 e8_0 c8_1_0 c8_1_1 c8_1_2 z8_1 d8_1 e8_1 c8_2_0 c8_2_1 c8_2_2 c8_2_3 c8_2_4 c8_2_5 c8_2_6 c8_2_7 z8_2 d8_2 e8_2 c8_3_0 c8_3_1 c8_3_2 c8_3_3 c8_3_4 c8_3_5 c8_3_6 c8_3_7 z8_3 d8_3 e8_3 c8_4_0 c8_4_1 c8_4_2 c8_4_3 c8_4_4 c8_4_5 c8_4_6 c8_4_7 z8_4 d8_4 e8_4 F7_8 F1_8 F2_8 F3_8 F4_8 F5_8 F6_8 F8_8; have F8_10 := H9; have s10 : v9.heap.size ≤ w9.heap.size := (by have h_ := x9.size; (try simp at h_); omega); have X10 : K.Ext w w9 := K.Far.ext X9 x9 (by omega); obtain ⟨c10_0_0, c10_0_1, c10_0_2, c10_0_3, c10_0_4, c10_0_5, c10_0_6, c10_0_7⟩ := K.r8 x9 (w.heap.size) (.int .i64 E0.L.dg) (.int .i64 E0.L.tn) (.string E0.L.nm) (.slice o0_0 E0.L.pw.length c0_0) (.int .i64 E0.R.dg) (.int .i64 E0.R.tn) (.string E0.R.nm) (.slice o0_1 E0.R.pw.length c0_1) (by go_simp) (by omega); have z10_0 : w.heap.size < w9.heap.size := World.block_lt_of_cell? w9 _ c10_0_0; have d10_0 : ¬ (w.heap.size = w9.heap.size) := (by omega); have e10_0 : ¬ (w9.heap.size = w.heap.size) := (by omega); obtain ⟨c10_1_0, c10_1_1, c10_1_2⟩ := K.r3 x9 (w.heap.size + 1) (.int .i64 m1.kd) (.int .u8 m1.nm) (.int .i64 m1.pw) (by go_simp) (by omega); have z10_1 : w.heap.size + 1 < w9.heap.size := World.block_lt_of_cell? w9 _ c10_1_0; have d10_1 : ¬ (w.heap.size + 1 = w9.heap.size) := (by omega); have e10_1 : ¬ (w9.heap.size = w.heap.size + 1) := (by omega); obtain ⟨c10_2_0, c10_2_1, c10_2_2, c10_2_3, c10_2_4, c10_2_5, c10_2_6, c10_2_7⟩ := K.r8 x9 (g5_8) (.int .i64 (((Z.ApplyStep E0 m1).1).L.dg)) (.int .i64 (((Z.ApplyStep E0 m1).1).L.tn)) (.string ((Z.ApplyStep E0 m1).1).L.nm) (.slice o2_4 (Z.ApplyStep E0 m1).1.L.pw.length k2_4) (.int .i64 (((Z.ApplyStep E0 m1).1).R.dg)) (.int .i64 (((Z.ApplyStep E0 m1).1).R.tn)) (.string ((Z.ApplyStep E0 m1).1).R.nm) (.slice o2_4_ (Z.ApplyStep E0 m1).1.R.pw.length k2_4_) (by go_simp) (by omega); have z10_2 : g5_8 < w9.heap.size := World.block_lt_of_cell? w9 _ c10_2_0; have d10_2 : ¬ (g5_8 = w9.heap.size) := (by omega); have e10_2 : ¬ (w9.heap.size = g5_8) := (by omega); obtain ⟨c10_3_0, c10_3_1, c10_3_2, c10_3_3, c10_3_4, c10_3_5, c10_3_6, c10_3_7⟩ := K.r8 x9 (w3.heap.size) (.int .i64 E0.L.dg) (.int .i64 E0.L.tn) (.string E0.L.nm) (.slice o3 E0.L.pw.length k3) (.int .i64 E0.R.dg) (.int .i64 E0.R.tn) (.string E0.R.nm) (.slice o3_ E0.R.pw.length k3_) (by go_simp) (by omega); have z10_3 : w3.heap.size < w9.heap.size := World.block_lt_of_cell? w9 _ c10_3_0; have d10_3 : ¬ (w3.heap.size = w9.heap.size) := (by omega); have e10_3 : ¬ (w9.heap.size = w3.heap.size) := (by omega); obtain ⟨c10_4_0, c10_4_1, c10_4_2, c10_4_3, c10_4_4, c10_4_5, c10_4_6, c10_4_7⟩ := K.r8 x9 (g7_7) (.int .i64 (((Z.ApplyStep E0 m1).1).L.dg)) (.int .i64 (((Z.ApplyStep E0 m1).1).L.tn)) (.string ((Z.ApplyStep E0 m1).1).L.nm) (.slice o4_3 (Z.ApplyStep E0 m1).1.L.pw.length k4_3) (.int .i64 (((Z.ApplyStep E0 m1).1).R.dg)) (.int .i64 (((Z.ApplyStep E0 m1).1).R.tn)) (.string ((Z.ApplyStep E0 m1).1).R.nm) (.slice o4_3_ (Z.ApplyStep E0 m1).1.R.pw.length k4_3_) (by go_simp) (by omega); have z10_4 : g7_7 < w9.heap.size := World.block_lt_of_cell? w9 _ c10_4_0; have d10_4 : ¬ (g7_7 = w9.heap.size) := (by omega); have e10_4 : ¬ (w9.heap.size = g7_7) := (by omega); have F1_10 := K.ints.far (F1_9) x9 (by omega); have F2_10 := K.ints.far (F2_9) x9 (by omega); have F3_10 := K.ints.far (F3_9) x9 (by omega); have F4_10 := K.ints.far (F4_9) x9 (by omega); have F5_10 := K.own.far (F5_9) x9 (by omega); have F6_10 := K.own.far (F6_9) x9 (by omega); have F7_10 := K.own.far (F7_9) x9 (by omega); clear c9_0_0 c9_0_1 c9_0_2 c9_0_3 c9_0_4 c9_0_5 c9_0_6 c9_0_7 z9_0 d9_0 e9_0 c9_1_0 c9_1_1 c9_1_2 z9_1 d9_1 e9_1 c9_2_0 c9_2_1 c9_2_2 c9_2_3 c9_2_4 c9_2_5 c9_2_6 c9_2_7 z9_2 d9_2 e9_2 c9_3_0 c9_3_1 c9_3_2 c9_3_3 c9_3_4 c9_3_5 c9_3_6 c9_3_7 z9_3 d9_3 e9_3 c9_4_0 c9_4_1 c9_4_2 c9_4_3 c9_4_4 c9_4_5 c9_4_6 c9_4_7 z9_4 d9_4 e9_4 F8_9 F1_9 F2_9 F3_9 F4_9 F5_9 F6_9 F7_9)
  go_wp2_with (go_at_call 46; refine K.call (by with_reducible rfl) (by with_reducible rfl) (heldEquation_any _ _ _ _ _ _ _ _ _ _ _ _ (Z.ApplyStep_le _ _ ).1 (Z.ApplyStep_le _ _ ).2 (by omega) (by omega) (K.own.ints (F7_10)) (K.own.ints (F8_10))) ?_; rintro e w11 ⟨rfl, x11⟩; have s11 : w9.heap.size ≤ w11.heap.size := (by have h_ := x11.size; (try simp at h_); omega); have X11 := K.Ext.trans (X10) x11; obtain ⟨c11_0_0, c11_0_1, c11_0_2, c11_0_3, c11_0_4, c11_0_5, c11_0_6, c11_0_7⟩ := K.c8 x11 (w.heap.size) (.int .i64 E0.L.dg) (.int .i64 E0.L.tn) (.string E0.L.nm) (.slice o0_0 E0.L.pw.length c0_0) (.int .i64 E0.R.dg) (.int .i64 E0.R.tn) (.string E0.R.nm) (.slice o0_1 E0.R.pw.length c0_1) (by go_simp); have z11_0 : w.heap.size < w11.heap.size := World.block_lt_of_cell? w11 _ c11_0_0; have d11_0 : ¬ (w.heap.size = w11.heap.size) := (by omega); have e11_0 : ¬ (w11.heap.size = w.heap.size) := (by omega); obtain ⟨c11_1_0, c11_1_1, c11_1_2⟩ := K.c3 x11 (w.heap.size + 1) (.int .i64 m1.kd) (.int .u8 m1.nm) (.int .i64 m1.pw) (by go_simp); have z11_1 : w.heap.size + 1 < w11.heap.size := World.block_lt_of_cell? w11 _ c11_1_0; have d11_1 : ¬ (w.heap.size + 1 = w11.heap.size) := (by omega); have e11_1 : ¬ (w11.heap.size = w.heap.size + 1) := (by omega); obtain ⟨c11_2_0, c11_2_1, c11_2_2, c11_2_3, c11_2_4, c11_2_5, c11_2_6, c11_2_7⟩ := K.c8 x11 (g5_8) (.int .i64 (((Z.ApplyStep E0 m1).1).L.dg)) (.int .i64 (((Z.ApplyStep E0 m1).1).L.tn)) (.string ((Z.ApplyStep E0 m1).1).L.nm) (.slice o2_4 (Z.ApplyStep E0 m1).1.L.pw.length k2_4) (.int .i64 (((Z.ApplyStep E0 m1).1).R.dg)) (.int .i64 (((Z.ApplyStep E0 m1).1).R.tn)) (.string ((Z.ApplyStep E0 m1).1).R.nm) (.slice o2_4_ (Z.ApplyStep E0 m1).1.R.pw.length k2_4_) (by go_simp); have z11_2 : g5_8 < w11.heap.size := World.block_lt_of_cell? w11 _ c11_2_0; have d11_2 : ¬ (g5_8 = w11.heap.size) := (by omega); have e11_2 : ¬ (w11.heap.size = g5_8) := (by omega); obtain ⟨c11_3_0, c11_3_1, c11_3_2, c11_3_3, c11_3_4, c11_3_5, c11_3_6, c11_3_7⟩ := K.c8 x11 (w3.heap.size) (.int .i64 E0.L.dg) (.int .i64 E0.L.tn) (.string E0.L.nm) (.slice o3 E0.L.pw.length k3) (.int .i64 E0.R.dg) (.int .i64 E0.R.tn) (.string E0.R.nm) (.slice o3_ E0.R.pw.length k3_) (by go_simp); have z11_3 : w3.heap.size < w11.heap.size := World.block_lt_of_cell? w11 _ c11_3_0; have d11_3 : ¬ (w3.heap.size = w11.heap.size) := (by omega); have e11_3 : ¬ (w11.heap.size = w3.heap.size) := (by omega); obtain ⟨c11_4_0, c11_4_1, c11_4_2, c11_4_3, c11_4_4, c11_4_5, c11_4_6, c11_4_7⟩ := K.c8 x11 (g7_7) (.int .i64 (((Z.ApplyStep E0 m1).1).L.dg)) (.int .i64 (((Z.ApplyStep E0 m1).1).L.tn)) (.string ((Z.ApplyStep E0 m1).1).L.nm) (.slice o4_3 (Z.ApplyStep E0 m1).1.L.pw.length k4_3) (.int .i64 (((Z.ApplyStep E0 m1).1).R.dg)) (.int .i64 (((Z.ApplyStep E0 m1).1).R.tn)) (.string ((Z.ApplyStep E0 m1).1).R.nm) (.slice o4_3_ (Z.ApplyStep E0 m1).1.R.pw.length k4_3_) (by go_simp); have z11_4 : g7_7 < w11.heap.size := World.block_lt_of_cell? w11 _ c11_4_0; have d11_4 : ¬ (g7_7 = w11.heap.size) := (by omega); have e11_4 : ¬ (w11.heap.size = g7_7) := (by omega); have F1_11 := K.ints.ext (F1_10) x11; have F2_11 := K.ints.ext (F2_10) x11; have F3_11 := K.ints.ext (F3_10) x11; have F4_11 := K.ints.ext (F4_10) x11; have F5_11 := K.own.ext (F5_10) x11; have F6_11 := K.own.ext (F6_10) x11; have F7_11 := K.own.ext (F7_10) x11; have F8_11 := K.own.ext (F8_10) x11; clear c10_0_0 c10_0_1 c10_0_2 c10_0_3 c10_0_4 c10_0_5 c10_0_6 c10_0_7 z10_0 d10_0 e10_0 c10_1_0 c10_1_1 c10_1_2 z10_1 d10_1 e10_1 c10_2_0 c10_2_1 c10_2_2 c10_2_3 c10_2_4 c10_2_5 c10_2_6 c10_2_7 z10_2 d10_2 e10_2 c10_3_0 c10_3_1 c10_3_2 c10_3_3 c10_3_4 c10_3_5 c10_3_6 c10_3_7 z10_3 d10_3 e10_3 c10_4_0 c10_4_1 c10_4_2 c10_4_3 c10_4_4 c10_4_5 c10_4_6 c10_4_7 z10_4 d10_4 e10_4 F1_10 F2_10 F3_10 F4_10 F5_10 F6_10 F7_10 F8_10)
  go_wp2_with fail
  refine K.wp_region_x 9 [1, 2, 1, 2, 2, 0, 0, 0, 2] [K.SP.any, (K.SP.eqn E0), K.SP.any, K.SP.is (.agg #[.int .i64 m1.kd, .int .u8 m1.nm, .int .i64 m1.pw]), (K.SP.eqnO (w11.heap.size) (Z.ApplyStep E0 m1)), K.SP.any, K.SP.any, K.SP.any, K.SP.new (w11.heap.size) (.cells #[.int .i64 0, .int .i64 0, .string ⟨#[]⟩, .slice none 0 0, .int .i64 0, .int .i64 0, .string ⟨#[]⟩, .slice none 0 0] 54)] (by kernel_rfl) (by kernel_rfl) ?_
  simp only [List.take_succ_cons, List.take_zero, List.drop_succ_cons, List.drop_zero]
  apply K.x_held
  · rfl
  · rfl
  · intro w' hx; have hc := hx.all.1.1; have hf := hx.all.1.2; have hc' := hx.all.2.1; have hf' := hx.all.2.2; go_simp; first | done | rfl | exact ⟨rfl, rfl⟩
  simp only [Act.put, List.setIfInBounds_toArray, List.set]
  apply K.x_call
  · rfl
  · rfl
  · intro w'; go_simp; first | done | rfl | exact ⟨rfl, rfl⟩
  · intro w' hx hp; have hc := hx.all.1.1; have hf := hx.all.1.2; have hc' := hx.all.2.1; have hf' := hx.all.2.2; exact toEquation_sp E0 _ _ _ hm1 hp1 (K.ints.ext (K.ints.drew (F1_11)) hx) (K.ints.ext (K.ints.drew (F2_11)) hx)
  intro v1 w_1_ hx_1_ hv1
  obtain ⟨p_, q_, lo_, hi_, rfl, hp_, hq_⟩ := hv1; have hp2_ := hp_; obtain ⟨ov_, cv_, rfl, _⟩ := hp2_; have hq2_ := hq_; obtain ⟨ov2_, cv2_, rfl, _⟩ := hq2_
  simp only [Act.put, List.setIfInBounds_toArray, List.set]
  apply K.x_held
  · rfl
  · rfl
  · intro w' hx; have hc := hx.all.1.1; have hf := hx.all.1.2; have hc' := hx.all.2.1; have hf' := hx.all.2.2; go_simp; first | done | rfl | exact ⟨rfl, rfl⟩
  simp only [Act.put, List.setIfInBounds_toArray, List.set]
  apply K.x_call_is
  · rfl
  · rfl
  · rfl
  · intro w'; go_simp; first | done | rfl | exact ⟨rfl, rfl⟩
  · intro w' hx hp; have hc := hx.all.1.1; have hf := hx.all.1.2; have hc' := hx.all.2.1; have hf' := hx.all.2.2; exact toStep_any m1 _
  intro w_3_ hx_3_
  simp only [Act.put, List.setIfInBounds_toArray, List.set]
  apply K.x_call
  · rfl
  · rfl
  · intro w'; go_simp; first | done | rfl | exact ⟨rfl, rfl⟩
  · intro w' hx hp; have hc := hx.all.1.1; have hf := hx.all.1.2; have hc' := hx.all.2.1; have hf' := hx.all.2.2; exact (by obtain ⟨la_, ha_, qa_, ra_⟩ := K.SP.eqn_at (hp 1 _ (by kernel_rfl) rfl rfl); exact K.SP.eqnO_of (by have h_ := hx.size; simp at h_; omega) (impl_ApplyStep E0 m1 _ hm1 hn1 hp1 hq1 qa_ ra_))
  intro v4 w_4_ hx_4_ hv4
  obtain ⟨p4_, q4_, m4_, hi4_, rfl, ha4_, hb4_, hh4_, hp4_, hq4_⟩ := hv4; obtain ⟨o12_4, k12_4, rfl, _⟩ := K.own.ints hp4_; obtain ⟨o12_4_, k12_4_, rfl, _⟩ := K.own.ints hq4_
  simp only [Act.put, List.setIfInBounds_toArray, List.set]
  iterate 3
    apply K.x_pure
    · rfl
    · rfl
    · intro w'; go_simp; first | done | exact K.vint (IntWalk.i64_in _ (by omega)) | rfl | exact ⟨rfl, rfl⟩
    simp only [Act.put, List.setIfInBounds_toArray, List.set]
  apply K.x_new
  · rfl
  · rfl
  · rfl
  · go_simp; first | done | omega
  · intro w'; go_simp; first | done | rfl | exact ⟨rfl, rfl⟩
  intro g24_8 w_8_ hx_8_ hg24_8 hb_8_
  simp only [Act.put, List.setIfInBounds_toArray, List.set]
  apply K.x_done
  intro w12 h_x
  have x12 := hx_1_.trans (hx_3_.trans (hx_4_.trans (hx_8_.trans h_x)))
  have hb24_8 := K.Ext.block (h_x) hb_8_
  have cg24_8_0 : w12.cell? ⟨g24_8, 0, none⟩ = some (.int .i64 0) := K.cell_at hb24_8 rfl
  have fg24_8_0 : w12.frozen? ⟨g24_8, 0, none⟩ = false := K.thaw_at hb24_8
  have cg24_8_1 : w12.cell? ⟨g24_8, 1, none⟩ = some (.int .i64 0) := K.cell_at hb24_8 rfl
  have fg24_8_1 : w12.frozen? ⟨g24_8, 1, none⟩ = false := K.thaw_at hb24_8
  have cg24_8_2 : w12.cell? ⟨g24_8, 2, none⟩ = some (.string ⟨#[]⟩) := K.cell_at hb24_8 rfl
  have fg24_8_2 : w12.frozen? ⟨g24_8, 2, none⟩ = false := K.thaw_at hb24_8
  have cg24_8_3 : w12.cell? ⟨g24_8, 3, none⟩ = some (.slice none 0 0) := K.cell_at hb24_8 rfl
  have fg24_8_3 : w12.frozen? ⟨g24_8, 3, none⟩ = false := K.thaw_at hb24_8
  have cg24_8_4 : w12.cell? ⟨g24_8, 4, none⟩ = some (.int .i64 0) := K.cell_at hb24_8 rfl
  have fg24_8_4 : w12.frozen? ⟨g24_8, 4, none⟩ = false := K.thaw_at hb24_8
  have cg24_8_5 : w12.cell? ⟨g24_8, 5, none⟩ = some (.int .i64 0) := K.cell_at hb24_8 rfl
  have fg24_8_5 : w12.frozen? ⟨g24_8, 5, none⟩ = false := K.thaw_at hb24_8
  have cg24_8_6 : w12.cell? ⟨g24_8, 6, none⟩ = some (.string ⟨#[]⟩) := K.cell_at hb24_8 rfl
  have fg24_8_6 : w12.frozen? ⟨g24_8, 6, none⟩ = false := K.thaw_at hb24_8
  have cg24_8_7 : w12.cell? ⟨g24_8, 7, none⟩ = some (.slice none 0 0) := K.cell_at hb24_8 rfl
  have fg24_8_7 : w12.frozen? ⟨g24_8, 7, none⟩ = false := K.thaw_at hb24_8
  have hxe1 := K.Ext.id (hx_3_.trans (hx_4_.trans (hx_8_.trans h_x)))
  have hxe4 := K.Ext.id (hx_8_.trans h_x)
  clear h_x hx_1_ hx_3_ hx_4_ hx_8_
  obtain ⟨⟨hcw12, hfw12⟩, hc'w12, hf'w12⟩ := x12.all
  have s12 : w11.heap.size ≤ w12.heap.size := (by have h_ := x12.size; (try simp at h_); omega)
  have X12 := K.Ext.trans (K.Ext.drew (X11)) x12
  obtain ⟨c12_0_0, c12_0_1, c12_0_2, c12_0_3, c12_0_4, c12_0_5, c12_0_6, c12_0_7⟩ := K.c8 x12 (w.heap.size) (.int .i64 E0.L.dg) (.int .i64 E0.L.tn) (.string E0.L.nm) (.slice o0_0 E0.L.pw.length c0_0) (.int .i64 E0.R.dg) (.int .i64 E0.R.tn) (.string E0.R.nm) (.slice o0_1 E0.R.pw.length c0_1) (by go_simp)
  have z12_0 : w.heap.size < w12.heap.size := World.block_lt_of_cell? w12 _ c12_0_0
  have d12_0 : ¬ (w.heap.size = w12.heap.size) := (by omega)
  have e12_0 : ¬ (w12.heap.size = w.heap.size) := (by omega)
  obtain ⟨c12_1_0, c12_1_1, c12_1_2⟩ := K.c3 x12 (w.heap.size + 1) (.int .i64 m1.kd) (.int .u8 m1.nm) (.int .i64 m1.pw) (by go_simp)
  have z12_1 : w.heap.size + 1 < w12.heap.size := World.block_lt_of_cell? w12 _ c12_1_0
  have d12_1 : ¬ (w.heap.size + 1 = w12.heap.size) := (by omega)
  have e12_1 : ¬ (w12.heap.size = w.heap.size + 1) := (by omega)
  obtain ⟨c12_2_0, c12_2_1, c12_2_2, c12_2_3, c12_2_4, c12_2_5, c12_2_6, c12_2_7⟩ := K.c8 x12 (g5_8) (.int .i64 (((Z.ApplyStep E0 m1).1).L.dg)) (.int .i64 (((Z.ApplyStep E0 m1).1).L.tn)) (.string ((Z.ApplyStep E0 m1).1).L.nm) (.slice o2_4 (Z.ApplyStep E0 m1).1.L.pw.length k2_4) (.int .i64 (((Z.ApplyStep E0 m1).1).R.dg)) (.int .i64 (((Z.ApplyStep E0 m1).1).R.tn)) (.string ((Z.ApplyStep E0 m1).1).R.nm) (.slice o2_4_ (Z.ApplyStep E0 m1).1.R.pw.length k2_4_) (by go_simp)
  have z12_2 : g5_8 < w12.heap.size := World.block_lt_of_cell? w12 _ c12_2_0
  have d12_2 : ¬ (g5_8 = w12.heap.size) := (by omega)
  have e12_2 : ¬ (w12.heap.size = g5_8) := (by omega)
  obtain ⟨c12_3_0, c12_3_1, c12_3_2, c12_3_3, c12_3_4, c12_3_5, c12_3_6, c12_3_7⟩ := K.c8 x12 (w3.heap.size) (.int .i64 E0.L.dg) (.int .i64 E0.L.tn) (.string E0.L.nm) (.slice o3 E0.L.pw.length k3) (.int .i64 E0.R.dg) (.int .i64 E0.R.tn) (.string E0.R.nm) (.slice o3_ E0.R.pw.length k3_) (by go_simp)
  have z12_3 : w3.heap.size < w12.heap.size := World.block_lt_of_cell? w12 _ c12_3_0
  have d12_3 : ¬ (w3.heap.size = w12.heap.size) := (by omega)
  have e12_3 : ¬ (w12.heap.size = w3.heap.size) := (by omega)
  obtain ⟨c12_4_0, c12_4_1, c12_4_2, c12_4_3, c12_4_4, c12_4_5, c12_4_6, c12_4_7⟩ := K.c8 x12 (g7_7) (.int .i64 (((Z.ApplyStep E0 m1).1).L.dg)) (.int .i64 (((Z.ApplyStep E0 m1).1).L.tn)) (.string ((Z.ApplyStep E0 m1).1).L.nm) (.slice o4_3 (Z.ApplyStep E0 m1).1.L.pw.length k4_3) (.int .i64 (((Z.ApplyStep E0 m1).1).R.dg)) (.int .i64 (((Z.ApplyStep E0 m1).1).R.tn)) (.string ((Z.ApplyStep E0 m1).1).R.nm) (.slice o4_3_ (Z.ApplyStep E0 m1).1.R.pw.length k4_3_) (by go_simp)
  have z12_4 : g7_7 < w12.heap.size := World.block_lt_of_cell? w12 _ c12_4_0
  have d12_4 : ¬ (g7_7 = w12.heap.size) := (by omega)
  have e12_4 : ¬ (w12.heap.size = g7_7) := (by omega)
  have F1_12 := K.ints.ext (K.ints.drew (F1_11)) x12
  have F2_12 := K.ints.ext (K.ints.drew (F2_11)) x12
  have F3_12 := K.ints.ext (K.ints.drew (F3_11)) x12
  have F4_12 := K.ints.ext (K.ints.drew (F4_11)) x12
  have F5_12 := K.own.ext (K.own.drew (F5_11)) x12
  have F6_12 := K.own.ext (K.own.drew (F6_11)) x12
  have F7_12 := K.own.ext (K.own.drew (F7_11)) x12
  have F8_12 := K.own.ext (K.own.drew (F8_11)) x12
  clear c11_0_0 c11_0_1 c11_0_2 c11_0_3 c11_0_4 c11_0_5 c11_0_6 c11_0_7 z11_0 d11_0 e11_0 c11_1_0 c11_1_1 c11_1_2 z11_1 d11_1 e11_1 c11_2_0 c11_2_1 c11_2_2 c11_2_3 c11_2_4 c11_2_5 c11_2_6 c11_2_7 z11_2 d11_2 e11_2 c11_3_0 c11_3_1 c11_3_2 c11_3_3 c11_3_4 c11_3_5 c11_3_6 c11_3_7 z11_3 d11_3 e11_3 c11_4_0 c11_4_1 c11_4_2 c11_4_3 c11_4_4 c11_4_5 c11_4_6 c11_4_7 z11_4 d11_4 e11_4 F1_11 F2_11 F3_11 F4_11 F5_11 F6_11 F7_11 F8_11
  obtain ⟨l12L, r12L, n12L, m12L, j12L, k12L, F9_12⟩ := K.own_off2 ha4_ hb24_8 K.zero_eqn (Z.ApplyStep_nz _ _).1 (K.own.ext hp4_ hxe4)
  obtain ⟨l12R, r12R, n12R, m12R, j12R, k12R, F10_12⟩ := K.own_off2 hb4_ hb24_8 K.zero_eqn (Z.ApplyStep_nz _ _).2 (K.own.ext hq4_ hxe4)
  have ss12_ := hxe4.size
  have y24_8 : g24_8 < w12.heap.size := World.block_lt_of_cell? w12 _ cg24_8_0
  go_wp2_with fail
  refine NoPanic.normal ?_
  go_wp2_with (go_at_call 37; refine K.call (by with_reducible rfl) (by with_reducible rfl) (eqEquation_same ((Z.ApplyStep E0 m1).1) _ _ _ _ _ (Z.ApplyStep_le _ _ ).1 (Z.ApplyStep_le _ _ ).2 (K.own.ints (show K.own _ (l12L) (r12L) (.slice o12_4 (Z.ApplyStep E0 m1).1.L.pw.length k12_4) ((Z.ApplyStep E0 m1).1.L.pw) from by with_reducible repeat' (first | exact F9_12 | refine K.own.set ?_ _ ?_ _ | refine K.own.alloc ?_ _ | refine K.own.drew ?_ | (dsimp only; omega) | omega | (simp; done) | (simp; omega)))) (K.own.ints (show K.own _ (l12R) (r12R) (.slice o12_4_ (Z.ApplyStep E0 m1).1.R.pw.length k12_4_) ((Z.ApplyStep E0 m1).1.R.pw) from by with_reducible repeat' (first | exact F10_12 | refine K.own.set ?_ _ ?_ _ | refine K.own.alloc ?_ _ | refine K.own.drew ?_ | (dsimp only; omega) | omega | (simp; done) | (simp; omega)))) (show K.ints _ (l3_2) (r3_2) (.slice o2_4 (Z.ApplyStep E0 m1).1.L.pw.length k2_4) ((Z.ApplyStep E0 m1).1.L.pw) from by with_reducible repeat' (first | exact F3_12 | refine K.ints.set ?_ _ ?_ _ | refine K.ints.alloc ?_ _ | refine K.ints.drew ?_ | (dsimp only; omega) | omega | (simp; done) | (simp; omega))) (show K.ints _ (l4_2) (r4_2) (.slice o2_4_ (Z.ApplyStep E0 m1).1.R.pw.length k2_4_) ((Z.ApplyStep E0 m1).1.R.pw) from by with_reducible repeat' (first | exact F4_12 | refine K.ints.set ?_ _ ?_ _ | refine K.ints.alloc ?_ _ | refine K.ints.drew ?_ | (dsimp only; omega) | omega | (simp; done) | (simp; omega)))) ?_; rintro e w13 ⟨rfl, x13⟩; have s13 : w12.heap.size ≤ w13.heap.size := (by have h_ := x13.size; (try simp at h_); omega); have X13 : K.Ext w w13 := K.Ext.trans (by repeat' (first | with_reducible exact X12 | with_reducible refine K.Ext.setCell ?_ ?_ _ | with_reducible refine K.Ext.alloc ?_ _ | with_reducible refine K.Ext.drew ?_ | (dsimp only; omega) | omega | (simp; omega))) x13; obtain ⟨c13_0_0, c13_0_1, c13_0_2, c13_0_3, c13_0_4, c13_0_5, c13_0_6, c13_0_7⟩ := K.c8 x13 (w.heap.size) (.int .i64 E0.L.dg) (.int .i64 E0.L.tn) (.string E0.L.nm) (.slice o0_0 E0.L.pw.length c0_0) (.int .i64 E0.R.dg) (.int .i64 E0.R.tn) (.string E0.R.nm) (.slice o0_1 E0.R.pw.length c0_1) (by go_simp); have z13_0 : w.heap.size < w13.heap.size := World.block_lt_of_cell? w13 _ c13_0_0; have d13_0 : ¬ (w.heap.size = w13.heap.size) := (by omega); have e13_0 : ¬ (w13.heap.size = w.heap.size) := (by omega); obtain ⟨c13_1_0, c13_1_1, c13_1_2⟩ := K.c3 x13 (w.heap.size + 1) (.int .i64 m1.kd) (.int .u8 m1.nm) (.int .i64 m1.pw) (by go_simp); have z13_1 : w.heap.size + 1 < w13.heap.size := World.block_lt_of_cell? w13 _ c13_1_0; have d13_1 : ¬ (w.heap.size + 1 = w13.heap.size) := (by omega); have e13_1 : ¬ (w13.heap.size = w.heap.size + 1) := (by omega); obtain ⟨c13_2_0, c13_2_1, c13_2_2, c13_2_3, c13_2_4, c13_2_5, c13_2_6, c13_2_7⟩ := K.c8 x13 (g5_8) (.int .i64 (((Z.ApplyStep E0 m1).1).L.dg)) (.int .i64 (((Z.ApplyStep E0 m1).1).L.tn)) (.string ((Z.ApplyStep E0 m1).1).L.nm) (.slice o2_4 (Z.ApplyStep E0 m1).1.L.pw.length k2_4) (.int .i64 (((Z.ApplyStep E0 m1).1).R.dg)) (.int .i64 (((Z.ApplyStep E0 m1).1).R.tn)) (.string ((Z.ApplyStep E0 m1).1).R.nm) (.slice o2_4_ (Z.ApplyStep E0 m1).1.R.pw.length k2_4_) (by go_simp); have z13_2 : g5_8 < w13.heap.size := World.block_lt_of_cell? w13 _ c13_2_0; have d13_2 : ¬ (g5_8 = w13.heap.size) := (by omega); have e13_2 : ¬ (w13.heap.size = g5_8) := (by omega); obtain ⟨c13_3_0, c13_3_1, c13_3_2, c13_3_3, c13_3_4, c13_3_5, c13_3_6, c13_3_7⟩ := K.c8 x13 (w3.heap.size) (.int .i64 E0.L.dg) (.int .i64 E0.L.tn) (.string E0.L.nm) (.slice o3 E0.L.pw.length k3) (.int .i64 E0.R.dg) (.int .i64 E0.R.tn) (.string E0.R.nm) (.slice o3_ E0.R.pw.length k3_) (by go_simp); have z13_3 : w3.heap.size < w13.heap.size := World.block_lt_of_cell? w13 _ c13_3_0; have d13_3 : ¬ (w3.heap.size = w13.heap.size) := (by omega); have e13_3 : ¬ (w13.heap.size = w3.heap.size) := (by omega); obtain ⟨c13_4_0, c13_4_1, c13_4_2, c13_4_3, c13_4_4, c13_4_5, c13_4_6, c13_4_7⟩ := K.c8 x13 (g7_7) (.int .i64 (((Z.ApplyStep E0 m1).1).L.dg)) (.int .i64 (((Z.ApplyStep E0 m1).1).L.tn)) (.string ((Z.ApplyStep E0 m1).1).L.nm) (.slice o4_3 (Z.ApplyStep E0 m1).1.L.pw.length k4_3) (.int .i64 (((Z.ApplyStep E0 m1).1).R.dg)) (.int .i64 (((Z.ApplyStep E0 m1).1).R.tn)) (.string ((Z.ApplyStep E0 m1).1).R.nm) (.slice o4_3_ (Z.ApplyStep E0 m1).1.R.pw.length k4_3_) (by go_simp); have z13_4 : g7_7 < w13.heap.size := World.block_lt_of_cell? w13 _ c13_4_0; have d13_4 : ¬ (g7_7 = w13.heap.size) := (by omega); have e13_4 : ¬ (w13.heap.size = g7_7) := (by omega); obtain ⟨c13_5_0, c13_5_1, c13_5_2, c13_5_3, c13_5_4, c13_5_5, c13_5_6, c13_5_7⟩ := K.c8 x13 (g24_8) (.int .i64 (((Z.ApplyStep E0 m1).1).L.dg)) (.int .i64 (((Z.ApplyStep E0 m1).1).L.tn)) (.string ((Z.ApplyStep E0 m1).1).L.nm) (.slice o12_4 (Z.ApplyStep E0 m1).1.L.pw.length k12_4) (.int .i64 (((Z.ApplyStep E0 m1).1).R.dg)) (.int .i64 (((Z.ApplyStep E0 m1).1).R.tn)) (.string ((Z.ApplyStep E0 m1).1).R.nm) (.slice o12_4_ (Z.ApplyStep E0 m1).1.R.pw.length k12_4_) (by go_simp); have z13_5 : g24_8 < w13.heap.size := World.block_lt_of_cell? w13 _ c13_5_0; have d13_5 : ¬ (g24_8 = w13.heap.size) := (by omega); have e13_5 : ¬ (w13.heap.size = g24_8) := (by omega); have n5_0 : ¬ (g24_8 = w.heap.size) := (by omega); have n0_5 : ¬ (w.heap.size = g24_8) := (by omega); have n5_1 : ¬ (g24_8 = w.heap.size + 1) := (by omega); have n1_5 : ¬ (w.heap.size + 1 = g24_8) := (by omega); have n5_2 : ¬ (g24_8 = g5_8) := (by omega); have n2_5 : ¬ (g5_8 = g24_8) := (by omega); have n5_3 : ¬ (g24_8 = w3.heap.size) := (by omega); have n3_5 : ¬ (w3.heap.size = g24_8) := (by omega); have n5_4 : ¬ (g24_8 = g7_7) := (by omega); have n4_5 : ¬ (g7_7 = g24_8) := (by omega); have F1_13 := K.ints.ext (show K.ints _ (0) (w.heap.size) (.slice o0_0 E0.L.pw.length c0_0) (E0.L.pw) from by with_reducible repeat' (first | exact F1_12 | refine K.ints.set ?_ _ ?_ _ | refine K.ints.alloc ?_ _ | refine K.ints.drew ?_ | (dsimp only; omega) | omega | (simp; done) | (simp; omega))) x13; have F2_13 := K.ints.ext (show K.ints _ (0) (w.heap.size) (.slice o0_1 E0.R.pw.length c0_1) (E0.R.pw) from by with_reducible repeat' (first | exact F2_12 | refine K.ints.set ?_ _ ?_ _ | refine K.ints.alloc ?_ _ | refine K.ints.drew ?_ | (dsimp only; omega) | omega | (simp; done) | (simp; omega))) x13; have F3_13 := K.ints.ext (show K.ints _ (l3_2) (r3_2) (.slice o2_4 (Z.ApplyStep E0 m1).1.L.pw.length k2_4) ((Z.ApplyStep E0 m1).1.L.pw) from by with_reducible repeat' (first | exact F3_12 | refine K.ints.set ?_ _ ?_ _ | refine K.ints.alloc ?_ _ | refine K.ints.drew ?_ | (dsimp only; omega) | omega | (simp; done) | (simp; omega))) x13; have F4_13 := K.ints.ext (show K.ints _ (l4_2) (r4_2) (.slice o2_4_ (Z.ApplyStep E0 m1).1.R.pw.length k2_4_) ((Z.ApplyStep E0 m1).1.R.pw) from by with_reducible repeat' (first | exact F4_12 | refine K.ints.set ?_ _ ?_ _ | refine K.ints.alloc ?_ _ | refine K.ints.drew ?_ | (dsimp only; omega) | omega | (simp; done) | (simp; omega))) x13; have F5_13 := K.own.ext (show K.own _ (w2.heap.size) (b3) (.slice o3 E0.L.pw.length k3) (Z.marks (1) E0.L.pw.length) from by with_reducible repeat' (first | exact F5_12 | refine K.own.set ?_ _ ?_ _ | refine K.own.alloc ?_ _ | refine K.own.drew ?_ | (dsimp only; omega) | omega | (simp; done) | (simp; omega))) x13; have F6_13 := K.own.ext (show K.own _ (b3) (w3.heap.size) (.slice o3_ E0.R.pw.length k3_) (Z.marks (1 + (E0.L.pw.length : Int)) E0.R.pw.length) from by with_reducible repeat' (first | exact F6_12 | refine K.own.set ?_ _ ?_ _ | refine K.own.alloc ?_ _ | refine K.own.drew ?_ | (dsimp only; omega) | omega | (simp; done) | (simp; omega))) x13; have F7_13 := K.own.ext (show K.own _ (l4L) (r4L) (.slice o4_3 (Z.ApplyStep E0 m1).1.L.pw.length k4_3) (Z.marks (1) ((Z.ApplyStep E0 m1).1.L.pw.length)) from by with_reducible repeat' (first | exact F7_12 | refine K.own.set ?_ _ ?_ _ | refine K.own.alloc ?_ _ | refine K.own.drew ?_ | (dsimp only; omega) | omega | (simp; done) | (simp; omega))) x13; have F8_13 := K.own.ext (show K.own _ (l4R) (r4R) (.slice o4_3_ (Z.ApplyStep E0 m1).1.R.pw.length k4_3_) (Z.marks (1 + ((Z.ApplyStep E0 m1).1.L.pw.length : Int)) ((Z.ApplyStep E0 m1).1.R.pw.length)) from by with_reducible repeat' (first | exact F8_12 | refine K.own.set ?_ _ ?_ _ | refine K.own.alloc ?_ _ | refine K.own.drew ?_ | (dsimp only; omega) | omega | (simp; done) | (simp; omega))) x13; have F9_13 := K.own.ext (show K.own _ (l12L) (r12L) (.slice o12_4 (Z.ApplyStep E0 m1).1.L.pw.length k12_4) ((Z.ApplyStep E0 m1).1.L.pw) from by with_reducible repeat' (first | exact F9_12 | refine K.own.set ?_ _ ?_ _ | refine K.own.alloc ?_ _ | refine K.own.drew ?_ | (dsimp only; omega) | omega | (simp; done) | (simp; omega))) x13; have F10_13 := K.own.ext (show K.own _ (l12R) (r12R) (.slice o12_4_ (Z.ApplyStep E0 m1).1.R.pw.length k12_4_) ((Z.ApplyStep E0 m1).1.R.pw) from by with_reducible repeat' (first | exact F10_12 | refine K.own.set ?_ _ ?_ _ | refine K.own.alloc ?_ _ | refine K.own.drew ?_ | (dsimp only; omega) | omega | (simp; done) | (simp; omega))) x13; clear c12_0_0 c12_0_1 c12_0_2 c12_0_3 c12_0_4 c12_0_5 c12_0_6 c12_0_7 z12_0 d12_0 e12_0 c12_1_0 c12_1_1 c12_1_2 z12_1 d12_1 e12_1 c12_2_0 c12_2_1 c12_2_2 c12_2_3 c12_2_4 c12_2_5 c12_2_6 c12_2_7 z12_2 d12_2 e12_2 c12_3_0 c12_3_1 c12_3_2 c12_3_3 c12_3_4 c12_3_5 c12_3_6 c12_3_7 z12_3 d12_3 e12_3 c12_4_0 c12_4_1 c12_4_2 c12_4_3 c12_4_4 c12_4_5 c12_4_6 c12_4_7 z12_4 d12_4 e12_4 F1_12 F2_12 F3_12 F4_12 F5_12 F6_12 F7_12 F8_12 F9_12 F10_12)
  go_wp2_with (go_at_call 46; refine K.call (by with_reducible rfl) (by with_reducible rfl) (heldEquation_any _ _ _ _ _ _ _ _ _ _ _ _ (Z.ApplyStep_le _ _ ).1 (Z.ApplyStep_le _ _ ).2 (by omega) (by omega) (K.own.ints (F7_13)) (K.own.ints (F8_13))) ?_; rintro e w14 ⟨rfl, x14⟩; have s14 : w13.heap.size ≤ w14.heap.size := (by have h_ := x14.size; (try simp at h_); omega); have X14 := K.Ext.trans (X13) x14; obtain ⟨c14_0_0, c14_0_1, c14_0_2, c14_0_3, c14_0_4, c14_0_5, c14_0_6, c14_0_7⟩ := K.c8 x14 (w.heap.size) (.int .i64 E0.L.dg) (.int .i64 E0.L.tn) (.string E0.L.nm) (.slice o0_0 E0.L.pw.length c0_0) (.int .i64 E0.R.dg) (.int .i64 E0.R.tn) (.string E0.R.nm) (.slice o0_1 E0.R.pw.length c0_1) (by go_simp); have z14_0 : w.heap.size < w14.heap.size := World.block_lt_of_cell? w14 _ c14_0_0; have d14_0 : ¬ (w.heap.size = w14.heap.size) := (by omega); have e14_0 : ¬ (w14.heap.size = w.heap.size) := (by omega); obtain ⟨c14_1_0, c14_1_1, c14_1_2⟩ := K.c3 x14 (w.heap.size + 1) (.int .i64 m1.kd) (.int .u8 m1.nm) (.int .i64 m1.pw) (by go_simp); have z14_1 : w.heap.size + 1 < w14.heap.size := World.block_lt_of_cell? w14 _ c14_1_0; have d14_1 : ¬ (w.heap.size + 1 = w14.heap.size) := (by omega); have e14_1 : ¬ (w14.heap.size = w.heap.size + 1) := (by omega); obtain ⟨c14_2_0, c14_2_1, c14_2_2, c14_2_3, c14_2_4, c14_2_5, c14_2_6, c14_2_7⟩ := K.c8 x14 (g5_8) (.int .i64 (((Z.ApplyStep E0 m1).1).L.dg)) (.int .i64 (((Z.ApplyStep E0 m1).1).L.tn)) (.string ((Z.ApplyStep E0 m1).1).L.nm) (.slice o2_4 (Z.ApplyStep E0 m1).1.L.pw.length k2_4) (.int .i64 (((Z.ApplyStep E0 m1).1).R.dg)) (.int .i64 (((Z.ApplyStep E0 m1).1).R.tn)) (.string ((Z.ApplyStep E0 m1).1).R.nm) (.slice o2_4_ (Z.ApplyStep E0 m1).1.R.pw.length k2_4_) (by go_simp); have z14_2 : g5_8 < w14.heap.size := World.block_lt_of_cell? w14 _ c14_2_0; have d14_2 : ¬ (g5_8 = w14.heap.size) := (by omega); have e14_2 : ¬ (w14.heap.size = g5_8) := (by omega); obtain ⟨c14_3_0, c14_3_1, c14_3_2, c14_3_3, c14_3_4, c14_3_5, c14_3_6, c14_3_7⟩ := K.c8 x14 (w3.heap.size) (.int .i64 E0.L.dg) (.int .i64 E0.L.tn) (.string E0.L.nm) (.slice o3 E0.L.pw.length k3) (.int .i64 E0.R.dg) (.int .i64 E0.R.tn) (.string E0.R.nm) (.slice o3_ E0.R.pw.length k3_) (by go_simp); have z14_3 : w3.heap.size < w14.heap.size := World.block_lt_of_cell? w14 _ c14_3_0; have d14_3 : ¬ (w3.heap.size = w14.heap.size) := (by omega); have e14_3 : ¬ (w14.heap.size = w3.heap.size) := (by omega); obtain ⟨c14_4_0, c14_4_1, c14_4_2, c14_4_3, c14_4_4, c14_4_5, c14_4_6, c14_4_7⟩ := K.c8 x14 (g7_7) (.int .i64 (((Z.ApplyStep E0 m1).1).L.dg)) (.int .i64 (((Z.ApplyStep E0 m1).1).L.tn)) (.string ((Z.ApplyStep E0 m1).1).L.nm) (.slice o4_3 (Z.ApplyStep E0 m1).1.L.pw.length k4_3) (.int .i64 (((Z.ApplyStep E0 m1).1).R.dg)) (.int .i64 (((Z.ApplyStep E0 m1).1).R.tn)) (.string ((Z.ApplyStep E0 m1).1).R.nm) (.slice o4_3_ (Z.ApplyStep E0 m1).1.R.pw.length k4_3_) (by go_simp); have z14_4 : g7_7 < w14.heap.size := World.block_lt_of_cell? w14 _ c14_4_0; have d14_4 : ¬ (g7_7 = w14.heap.size) := (by omega); have e14_4 : ¬ (w14.heap.size = g7_7) := (by omega); obtain ⟨c14_5_0, c14_5_1, c14_5_2, c14_5_3, c14_5_4, c14_5_5, c14_5_6, c14_5_7⟩ := K.c8 x14 (g24_8) (.int .i64 (((Z.ApplyStep E0 m1).1).L.dg)) (.int .i64 (((Z.ApplyStep E0 m1).1).L.tn)) (.string ((Z.ApplyStep E0 m1).1).L.nm) (.slice o12_4 (Z.ApplyStep E0 m1).1.L.pw.length k12_4) (.int .i64 (((Z.ApplyStep E0 m1).1).R.dg)) (.int .i64 (((Z.ApplyStep E0 m1).1).R.tn)) (.string ((Z.ApplyStep E0 m1).1).R.nm) (.slice o12_4_ (Z.ApplyStep E0 m1).1.R.pw.length k12_4_) (by go_simp); have z14_5 : g24_8 < w14.heap.size := World.block_lt_of_cell? w14 _ c14_5_0; have d14_5 : ¬ (g24_8 = w14.heap.size) := (by omega); have e14_5 : ¬ (w14.heap.size = g24_8) := (by omega); have F1_14 := K.ints.ext (F1_13) x14; have F2_14 := K.ints.ext (F2_13) x14; have F3_14 := K.ints.ext (F3_13) x14; have F4_14 := K.ints.ext (F4_13) x14; have F5_14 := K.own.ext (F5_13) x14; have F6_14 := K.own.ext (F6_13) x14; have F7_14 := K.own.ext (F7_13) x14; have F8_14 := K.own.ext (F8_13) x14; have F9_14 := K.own.ext (F9_13) x14; have F10_14 := K.own.ext (F10_13) x14; clear c13_0_0 c13_0_1 c13_0_2 c13_0_3 c13_0_4 c13_0_5 c13_0_6 c13_0_7 z13_0 d13_0 e13_0 c13_1_0 c13_1_1 c13_1_2 z13_1 d13_1 e13_1 c13_2_0 c13_2_1 c13_2_2 c13_2_3 c13_2_4 c13_2_5 c13_2_6 c13_2_7 z13_2 d13_2 e13_2 c13_3_0 c13_3_1 c13_3_2 c13_3_3 c13_3_4 c13_3_5 c13_3_6 c13_3_7 z13_3 d13_3 e13_3 c13_4_0 c13_4_1 c13_4_2 c13_4_3 c13_4_4 c13_4_5 c13_4_6 c13_4_7 z13_4 d13_4 e13_4 c13_5_0 c13_5_1 c13_5_2 c13_5_3 c13_5_4 c13_5_5 c13_5_6 c13_5_7 z13_5 d13_5 e13_5 F1_13 F2_13 F3_13 F4_13 F5_13 F6_13 F7_13 F8_13 F9_13 F10_13)
  go_ret
  exact ⟨rfl, X14⟩
end Go.Proofs.Ytphlppklhpaljaa
