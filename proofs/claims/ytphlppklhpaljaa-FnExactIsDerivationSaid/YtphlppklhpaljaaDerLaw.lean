/-
  THE LAW on steps run one behind the other, or held against a goal: its walk.
-/
import Derived.Test.YtphlppklhpaljaaApply
import Derived.Test.YtphlppklhpaljaaFmLaw
import Derived.Test.YtphlppklhpaljaaStM
import Derived.Test.YtphlppklhpaljaaDrawn
set_option linter.unusedVariables false
namespace Go.Proofs.Ytphlppklhpaljaa
open Go.RowKit
set_option maxHeartbeats 8000000 in
theorem law_FnExactIsDerivation (E0 : Z.Eqn) (S1 : List (Z.St)) (E2 : Z.Eqn) (v0 u0 : Value) (v1 : Value) (v2 u2 : Value) (w : World) (pn0 : E0.L.nm.size ≤ 9223372036854775807) (pl0 : (E0.L.pw.length : Int) ≤ 9223372036854775807) (pn0_ : E0.R.nm.size ≤ 9223372036854775807) (pl0_ : (E0.R.pw.length : Int) ≤ 9223372036854775807) (h0 : K.ints w 0 w.heap.size v0 E0.L.pw) (h0_ : K.ints w 0 w.heap.size u0 E0.R.pw) (pl1 : (S1.length : Int) ≤ 9223372036854775807) (h1 : K.recs false K.StR w 0 w.heap.size v1 S1) (pn2 : E2.L.nm.size ≤ 9223372036854775807) (pl2 : (E2.L.pw.length : Int) ≤ 9223372036854775807) (pn2_ : E2.R.nm.size ≤ 9223372036854775807) (pl2_ : (E2.R.pw.length : Int) ≤ 9223372036854775807) (h2 : K.ints w 0 w.heap.size v2 E2.L.pw) (h2_ : K.ints w 0 w.heap.size u2 E2.R.pw) :
    Calls Try.prog 8 #[.agg #[.int .i64 E0.L.dg, .int .i64 E0.L.tn, .string E0.L.nm, v0, .int .i64 E0.R.dg, .int .i64 E0.R.tn, .string E0.R.nm, u0], v1, .agg #[.int .i64 E2.L.dg, .int .i64 E2.L.tn, .string E2.L.nm, v2, .int .i64 E2.R.dg, .int .i64 E2.R.tn, .string E2.R.nm, u2]] w fun e w' => e = .returned (.bool true) ∧ K.Ext w w' := by
  have F1_0 := h0
  obtain ⟨o0_0, c0_0, rfl, _⟩ := h0
  have F2_0 := h0_
  obtain ⟨o0_1, c0_1, rfl, _⟩ := h0_
  have F3_0 := h1
  obtain ⟨o1_0, c1_0, rfl, _⟩ := h1
  have F4_0 := h2
  obtain ⟨o2_0, c2_0, rfl, _⟩ := h2
  have F5_0 := h2_
  obtain ⟨o2_1, c2_1, rfl, _⟩ := h2_
  have X0 : K.Ext w w := K.Ext.refl w
  go_enter Try.func8, Try.ntmps8
  go_wp2_with (go_at_call 31; refine K.call (by with_reducible rfl) (by with_reducible rfl) (szEquation_any E0 _ _ _ _ (by omega) (by omega) pn0 pl0 pn0_ pl0_ (K.ints.alloc (K.ints.alloc F1_0 _) _) (K.ints.alloc (K.ints.alloc F2_0 _) _)) ?_; rintro e w1 ⟨⟨r1, rfl, u1_, b1⟩, x1⟩; have s1 : w.heap.size + 2 ≤ w1.heap.size := (by have h_ := x1.size; (try simp at h_); omega); have X1 := K.Ext.trans (K.Ext.alloc (K.Ext.alloc X0 _) _) x1; obtain ⟨c1_0_0, c1_0_1, c1_0_2, c1_0_3, c1_0_4, c1_0_5, c1_0_6, c1_0_7⟩ := K.c8 x1 (w.heap.size) (.int .i64 E0.L.dg) (.int .i64 E0.L.tn) (.string E0.L.nm) (.slice o0_0 E0.L.pw.length c0_0) (.int .i64 E0.R.dg) (.int .i64 E0.R.tn) (.string E0.R.nm) (.slice o0_1 E0.R.pw.length c0_1) (by go_simp); have z1_0 : w.heap.size < w1.heap.size := World.block_lt_of_cell? w1 _ c1_0_0; have d1_0 : ¬ (w.heap.size = w1.heap.size) := (by omega); have e1_0 : ¬ (w1.heap.size = w.heap.size) := (by omega); obtain ⟨c1_1_0, c1_1_1, c1_1_2, c1_1_3, c1_1_4, c1_1_5, c1_1_6, c1_1_7⟩ := K.c8 x1 (w.heap.size + 1) (.int .i64 E2.L.dg) (.int .i64 E2.L.tn) (.string E2.L.nm) (.slice o2_0 E2.L.pw.length c2_0) (.int .i64 E2.R.dg) (.int .i64 E2.R.tn) (.string E2.R.nm) (.slice o2_1 E2.R.pw.length c2_1) (by go_simp); have z1_1 : w.heap.size + 1 < w1.heap.size := World.block_lt_of_cell? w1 _ c1_1_0; have d1_1 : ¬ (w.heap.size + 1 = w1.heap.size) := (by omega); have e1_1 : ¬ (w1.heap.size = w.heap.size + 1) := (by omega); have n1_0 : ¬ (w.heap.size + 1 = w.heap.size) := (by omega); have n0_1 : ¬ (w.heap.size = w.heap.size + 1) := (by omega); have F1_1 := K.ints.ext (K.ints.alloc (K.ints.alloc F1_0 _) _) x1; have F2_1 := K.ints.ext (K.ints.alloc (K.ints.alloc F2_0 _) _) x1; have F3_1 := K.recs.ext (K.recs.alloc (K.recs.alloc F3_0 _) _) x1; have F4_1 := K.ints.ext (K.ints.alloc (K.ints.alloc F4_0 _) _) x1; have F5_1 := K.ints.ext (K.ints.alloc (K.ints.alloc F5_0 _) _) x1; clear F1_0 F2_0 F3_0 F4_0 F5_0)
  · go_ret
    exact ⟨rfl, X1⟩
  obtain ⟨⟨hm1, hn1⟩, ⟨hp1, hq1⟩⟩ := b1.resolve_left (by omega)
  go_wp2_with (go_at_call 47; refine K.call (by with_reducible rfl) (by with_reducible rfl) (szStepS_any S1 _ _ (by omega) u1_ pl1 (F3_1)) ?_; rintro e w2 ⟨⟨r2, rfl, u2_, b2⟩, x2⟩; have s2 : w1.heap.size ≤ w2.heap.size := (by have h_ := x2.size; (try simp at h_); omega); have X2 := K.Ext.trans (X1) x2; obtain ⟨c2_0_0, c2_0_1, c2_0_2, c2_0_3, c2_0_4, c2_0_5, c2_0_6, c2_0_7⟩ := K.c8 x2 (w.heap.size) (.int .i64 E0.L.dg) (.int .i64 E0.L.tn) (.string E0.L.nm) (.slice o0_0 E0.L.pw.length c0_0) (.int .i64 E0.R.dg) (.int .i64 E0.R.tn) (.string E0.R.nm) (.slice o0_1 E0.R.pw.length c0_1) (by go_simp); have z2_0 : w.heap.size < w2.heap.size := World.block_lt_of_cell? w2 _ c2_0_0; have d2_0 : ¬ (w.heap.size = w2.heap.size) := (by omega); have e2_0 : ¬ (w2.heap.size = w.heap.size) := (by omega); obtain ⟨c2_1_0, c2_1_1, c2_1_2, c2_1_3, c2_1_4, c2_1_5, c2_1_6, c2_1_7⟩ := K.c8 x2 (w.heap.size + 1) (.int .i64 E2.L.dg) (.int .i64 E2.L.tn) (.string E2.L.nm) (.slice o2_0 E2.L.pw.length c2_0) (.int .i64 E2.R.dg) (.int .i64 E2.R.tn) (.string E2.R.nm) (.slice o2_1 E2.R.pw.length c2_1) (by go_simp); have z2_1 : w.heap.size + 1 < w2.heap.size := World.block_lt_of_cell? w2 _ c2_1_0; have d2_1 : ¬ (w.heap.size + 1 = w2.heap.size) := (by omega); have e2_1 : ¬ (w2.heap.size = w.heap.size + 1) := (by omega); have F1_2 := K.ints.ext (F1_1) x2; have F2_2 := K.ints.ext (F2_1) x2; have F3_2 := K.recs.ext (F3_1) x2; have F4_2 := K.ints.ext (F4_1) x2; have F5_2 := K.ints.ext (F5_1) x2; clear c1_0_0 c1_0_1 c1_0_2 c1_0_3 c1_0_4 c1_0_5 c1_0_6 c1_0_7 z1_0 d1_0 e1_0 c1_1_0 c1_1_1 c1_1_2 c1_1_3 c1_1_4 c1_1_5 c1_1_6 c1_1_7 z1_1 d1_1 e1_1 F1_1 F2_1 F3_1 F4_1 F5_1)
  · go_ret
    exact ⟨rfl, X2⟩
  have hm2 := b2.resolve_left (by omega)
  go_wp2_with (go_at_call 31; refine K.call (by with_reducible rfl) (by with_reducible rfl) (szEquation_any E2 _ _ _ _ (by omega) u2_ pn2 pl2 pn2_ pl2_ (F4_2) (F5_2)) ?_; rintro e w3 ⟨⟨r3, rfl, u3_, b3⟩, x3⟩; have s3 : w2.heap.size ≤ w3.heap.size := (by have h_ := x3.size; (try simp at h_); omega); have X3 := K.Ext.trans (X2) x3; obtain ⟨c3_0_0, c3_0_1, c3_0_2, c3_0_3, c3_0_4, c3_0_5, c3_0_6, c3_0_7⟩ := K.c8 x3 (w.heap.size) (.int .i64 E0.L.dg) (.int .i64 E0.L.tn) (.string E0.L.nm) (.slice o0_0 E0.L.pw.length c0_0) (.int .i64 E0.R.dg) (.int .i64 E0.R.tn) (.string E0.R.nm) (.slice o0_1 E0.R.pw.length c0_1) (by go_simp); have z3_0 : w.heap.size < w3.heap.size := World.block_lt_of_cell? w3 _ c3_0_0; have d3_0 : ¬ (w.heap.size = w3.heap.size) := (by omega); have e3_0 : ¬ (w3.heap.size = w.heap.size) := (by omega); obtain ⟨c3_1_0, c3_1_1, c3_1_2, c3_1_3, c3_1_4, c3_1_5, c3_1_6, c3_1_7⟩ := K.c8 x3 (w.heap.size + 1) (.int .i64 E2.L.dg) (.int .i64 E2.L.tn) (.string E2.L.nm) (.slice o2_0 E2.L.pw.length c2_0) (.int .i64 E2.R.dg) (.int .i64 E2.R.tn) (.string E2.R.nm) (.slice o2_1 E2.R.pw.length c2_1) (by go_simp); have z3_1 : w.heap.size + 1 < w3.heap.size := World.block_lt_of_cell? w3 _ c3_1_0; have d3_1 : ¬ (w.heap.size + 1 = w3.heap.size) := (by omega); have e3_1 : ¬ (w3.heap.size = w.heap.size + 1) := (by omega); have F1_3 := K.ints.ext (F1_2) x3; have F2_3 := K.ints.ext (F2_2) x3; have F3_3 := K.recs.ext (F3_2) x3; have F4_3 := K.ints.ext (F4_2) x3; have F5_3 := K.ints.ext (F5_2) x3; clear c2_0_0 c2_0_1 c2_0_2 c2_0_3 c2_0_4 c2_0_5 c2_0_6 c2_0_7 z2_0 d2_0 e2_0 c2_1_0 c2_1_1 c2_1_2 c2_1_3 c2_1_4 c2_1_5 c2_1_6 c2_1_7 z2_1 d2_1 e2_1 F1_2 F2_2 F3_2 F4_2 F5_2)
  · go_ret
    exact ⟨rfl, X3⟩
  obtain ⟨⟨hm3, hn3⟩, ⟨hp3, hq3⟩⟩ := b3.resolve_left (by omega)
  go_wp2_with fail
  refine K.wp_region_x 12 [1, 2, 0, 2, 1, 2, 2, 0, 0, 0, 0, 0] [K.SP.any, (K.SP.eqn E0), K.SP.any, (K.SP.sts S1), K.SP.any, (K.SP.eqn E2), K.SP.is (.tuple #[.bool ((Z.IsDerivation E0 S1 E2).1), .int .i64 ((Z.IsDerivation E0 S1 E2).2)])] (by kernel_rfl) (by kernel_rfl) ?_
  simp only [List.take_succ_cons, List.take_zero, List.drop_succ_cons, List.drop_zero]
  apply K.x_held
  · rfl
  · rfl
  · intro w' hx; have hc := hx.all.1.1; have hf := hx.all.1.2; have hc' := hx.all.2.1; have hf' := hx.all.2.2; go_simp; first | done | rfl | exact ⟨rfl, rfl⟩
  simp only [Act.put, List.setIfInBounds_toArray, List.set]
  apply K.x_call
  · rfl
  · rfl
  · intro w'; go_simp; first | done | rfl | exact ⟨rfl, rfl⟩
  · intro w' hx hp; have hc := hx.all.1.1; have hf := hx.all.1.2; have hc' := hx.all.2.1; have hf' := hx.all.2.2; exact toEquation_sp E0 _ _ _ hm1 hp1 (K.ints.ext (K.ints.drew (F1_3)) hx) (K.ints.ext (K.ints.drew (F2_3)) hx)
  intro v1 w_1_ hx_1_ hv1
  obtain ⟨p_, q_, lo_, hi_, rfl, hp_, hq_⟩ := hv1; have hp2_ := hp_; obtain ⟨ov_, cv_, rfl, _⟩ := hp2_; have hq2_ := hq_; obtain ⟨ov2_, cv2_, rfl, _⟩ := hq2_
  simp only [Act.put, List.setIfInBounds_toArray, List.set]
  apply K.x_pure
  · rfl
  · rfl
  · intro w'; go_simp; first | done | exact K.vint (IntWalk.i64_in _ (by omega)) | rfl | exact ⟨rfl, rfl⟩
  simp only [Act.put, List.setIfInBounds_toArray, List.set]
  apply K.x_call
  · rfl
  · rfl
  · intro w'; go_simp; first | done | rfl | exact ⟨rfl, rfl⟩
  · intro w' hx hp; have hc := hx.all.1.1; have hf := hx.all.1.2; have hc' := hx.all.2.1; have hf' := hx.all.2.2; exact toStepS_sp S1 _ hm2 (K.recs.ext (K.recs.drew (F3_3)) hx)
  intro v3 w_3_ hx_3_ hv3
  obtain ⟨lo_, hi_, hs3_⟩ := hv3; obtain ⟨ov3_, cv3_, rfl, _⟩ := K.recs.plain hs3_
  simp only [Act.put, List.setIfInBounds_toArray, List.set]
  apply K.x_held
  · rfl
  · rfl
  · intro w' hx; have hc := hx.all.1.1; have hf := hx.all.1.2; have hc' := hx.all.2.1; have hf' := hx.all.2.2; go_simp; first | done | rfl | exact ⟨rfl, rfl⟩
  simp only [Act.put, List.setIfInBounds_toArray, List.set]
  apply K.x_call
  · rfl
  · rfl
  · intro w'; go_simp; first | done | rfl | exact ⟨rfl, rfl⟩
  · intro w' hx hp; have hc := hx.all.1.1; have hf := hx.all.1.2; have hc' := hx.all.2.1; have hf' := hx.all.2.2; exact toEquation_sp E2 _ _ _ hm3 hp3 (K.ints.ext (K.ints.drew (F4_3)) hx) (K.ints.ext (K.ints.drew (F5_3)) hx)
  intro v5 w_5_ hx_5_ hv5
  obtain ⟨p_, q_, lo_, hi_, rfl, hp_, hq_⟩ := hv5; have hp2_ := hp_; obtain ⟨ov_, cv_, rfl, _⟩ := hp2_; have hq2_ := hq_; obtain ⟨ov2_, cv2_, rfl, _⟩ := hq2_
  simp only [Act.put, List.setIfInBounds_toArray, List.set]
  apply K.x_call_is
  · rfl
  · rfl
  · rfl
  · intro w'; go_simp; first | done | rfl | exact ⟨rfl, rfl⟩
  · intro w' hx hp; have hc := hx.all.1.1; have hf := hx.all.1.2; have hc' := hx.all.2.1; have hf' := hx.all.2.2; exact (by obtain ⟨la_, ha_, qa_, ra_⟩ := K.SP.eqn_at (hp 1 _ (by kernel_rfl) rfl rfl); obtain ⟨lb_, hb_, qb_⟩ := K.SP.sts_at (hp 3 _ (by kernel_rfl) rfl rfl); obtain ⟨lc_, hc_, qc_, rc_⟩ := K.SP.eqn_at (hp 5 _ (by kernel_rfl) rfl rfl); exact spec_IsDerivation E0 S1 E2 _ hm1 hn1 hp1 hq1 qa_ ra_ hm2 qb_ hm3 hn3 hp3 hq3 qc_ rc_)
  intro w_6_ hx_6_
  simp only [Act.put, List.setIfInBounds_toArray, List.set]
  iterate 5
    apply K.x_pure
    · rfl
    · rfl
    · intro w'; go_simp; first | done | exact K.vint (IntWalk.i64_in _ (by omega)) | rfl | exact ⟨rfl, rfl⟩
    simp only [Act.put, List.setIfInBounds_toArray, List.set]
  apply K.x_done
  intro w4 h_x
  have x4 := hx_1_.trans (hx_3_.trans (hx_5_.trans (hx_6_.trans h_x)))
  have hxe1 := K.Ext.id (hx_3_.trans (hx_5_.trans (hx_6_.trans h_x)))
  have hxe3 := K.Ext.id (hx_5_.trans (hx_6_.trans h_x))
  have hxe5 := K.Ext.id (hx_6_.trans h_x)
  clear h_x hx_1_ hx_3_ hx_5_ hx_6_
  obtain ⟨⟨hcw4, hfw4⟩, hc'w4, hf'w4⟩ := x4.all
  have s4 : w3.heap.size ≤ w4.heap.size := (by have h_ := x4.size; (try simp at h_); omega)
  have X4 := K.Ext.trans (K.Ext.drew (X3)) x4
  obtain ⟨c4_0_0, c4_0_1, c4_0_2, c4_0_3, c4_0_4, c4_0_5, c4_0_6, c4_0_7⟩ := K.c8 x4 (w.heap.size) (.int .i64 E0.L.dg) (.int .i64 E0.L.tn) (.string E0.L.nm) (.slice o0_0 E0.L.pw.length c0_0) (.int .i64 E0.R.dg) (.int .i64 E0.R.tn) (.string E0.R.nm) (.slice o0_1 E0.R.pw.length c0_1) (by go_simp)
  have z4_0 : w.heap.size < w4.heap.size := World.block_lt_of_cell? w4 _ c4_0_0
  have d4_0 : ¬ (w.heap.size = w4.heap.size) := (by omega)
  have e4_0 : ¬ (w4.heap.size = w.heap.size) := (by omega)
  obtain ⟨c4_1_0, c4_1_1, c4_1_2, c4_1_3, c4_1_4, c4_1_5, c4_1_6, c4_1_7⟩ := K.c8 x4 (w.heap.size + 1) (.int .i64 E2.L.dg) (.int .i64 E2.L.tn) (.string E2.L.nm) (.slice o2_0 E2.L.pw.length c2_0) (.int .i64 E2.R.dg) (.int .i64 E2.R.tn) (.string E2.R.nm) (.slice o2_1 E2.R.pw.length c2_1) (by go_simp)
  have z4_1 : w.heap.size + 1 < w4.heap.size := World.block_lt_of_cell? w4 _ c4_1_0
  have d4_1 : ¬ (w.heap.size + 1 = w4.heap.size) := (by omega)
  have e4_1 : ¬ (w4.heap.size = w.heap.size + 1) := (by omega)
  have F1_4 := K.ints.ext (K.ints.drew (F1_3)) x4
  have F2_4 := K.ints.ext (K.ints.drew (F2_3)) x4
  have F3_4 := K.recs.ext (K.recs.drew (F3_3)) x4
  have F4_4 := K.ints.ext (K.ints.drew (F4_3)) x4
  have F5_4 := K.ints.ext (K.ints.drew (F5_3)) x4
  clear c3_0_0 c3_0_1 c3_0_2 c3_0_3 c3_0_4 c3_0_5 c3_0_6 c3_0_7 z3_0 d3_0 e3_0 c3_1_0 c3_1_1 c3_1_2 c3_1_3 c3_1_4 c3_1_5 c3_1_6 c3_1_7 z3_1 d3_1 e3_1 F1_3 F2_3 F3_3 F4_3 F5_3
  refine wpList_nil ?_
  refine NoPanic.normal ?_
  go_wp2_with (go_at_call 34; refine K.call (by with_reducible rfl) (by with_reducible rfl) (toEquation_any E0 _ _ _ _ _ _ _ hm1 hp1 (F1_4) (F2_4)) ?_; rintro e w5 ⟨⟨p5, q5, b5, rfl, m5, m5_, g5, g5_⟩, x5⟩; obtain ⟨o5, k5, rfl, _⟩ := K.own.ints g5; obtain ⟨o5_, k5_, rfl, _⟩ := K.own.ints g5_; have F6_5 : K.own w5 (w4.heap.size) (b5) (.slice o5 E0.L.pw.length k5) (E0.L.pw) := g5.mono (by simp) (Nat.le_refl _); have F7_5 : K.own w5 (b5) (w5.heap.size) (.slice o5_ E0.R.pw.length k5_) (E0.R.pw) := g5_; (try simp at m5); clear g5 g5_; have s5 : w4.heap.size ≤ w5.heap.size := (by have h_ := x5.size; (try simp at h_); omega); have X5 := K.Ext.trans (X4) x5; obtain ⟨c5_0_0, c5_0_1, c5_0_2, c5_0_3, c5_0_4, c5_0_5, c5_0_6, c5_0_7⟩ := K.c8 x5 (w.heap.size) (.int .i64 E0.L.dg) (.int .i64 E0.L.tn) (.string E0.L.nm) (.slice o0_0 E0.L.pw.length c0_0) (.int .i64 E0.R.dg) (.int .i64 E0.R.tn) (.string E0.R.nm) (.slice o0_1 E0.R.pw.length c0_1) (by go_simp); have z5_0 : w.heap.size < w5.heap.size := World.block_lt_of_cell? w5 _ c5_0_0; have d5_0 : ¬ (w.heap.size = w5.heap.size) := (by omega); have e5_0 : ¬ (w5.heap.size = w.heap.size) := (by omega); obtain ⟨c5_1_0, c5_1_1, c5_1_2, c5_1_3, c5_1_4, c5_1_5, c5_1_6, c5_1_7⟩ := K.c8 x5 (w.heap.size + 1) (.int .i64 E2.L.dg) (.int .i64 E2.L.tn) (.string E2.L.nm) (.slice o2_0 E2.L.pw.length c2_0) (.int .i64 E2.R.dg) (.int .i64 E2.R.tn) (.string E2.R.nm) (.slice o2_1 E2.R.pw.length c2_1) (by go_simp); have z5_1 : w.heap.size + 1 < w5.heap.size := World.block_lt_of_cell? w5 _ c5_1_0; have d5_1 : ¬ (w.heap.size + 1 = w5.heap.size) := (by omega); have e5_1 : ¬ (w5.heap.size = w.heap.size + 1) := (by omega); have F1_5 := K.ints.ext (F1_4) x5; have F2_5 := K.ints.ext (F2_4) x5; have F3_5 := K.recs.ext (F3_4) x5; have F4_5 := K.ints.ext (F4_4) x5; have F5_5 := K.ints.ext (F5_4) x5; clear c4_0_0 c4_0_1 c4_0_2 c4_0_3 c4_0_4 c4_0_5 c4_0_6 c4_0_7 z4_0 d4_0 e4_0 c4_1_0 c4_1_1 c4_1_2 c4_1_3 c4_1_4 c4_1_5 c4_1_6 c4_1_7 z4_1 d4_1 e4_1 F1_4 F2_4 F3_4 F4_4 F5_4)
  go_wp2_with (go_at_call 49; refine K.call (by with_reducible rfl) (by with_reducible rfl) (toStepS_any S1 _ hm2 (K.recs.alloc F3_5 _)) ?_; rintro e w6 ⟨⟨p6, rfl, g6⟩, x6⟩; obtain ⟨o6, k6, rfl, _⟩ := K.recs.plain g6; have F8_6 : K.recs true K.StR w6 (w5.heap.size + 1) (w6.heap.size) (.slice o6 S1.length k6) (S1) := g6.mono (by simp) (Nat.le_refl _); clear g6; have s6 : w5.heap.size + 1 ≤ w6.heap.size := (by have h_ := x6.size; (try simp at h_); omega); have X6 := K.Ext.trans (K.Ext.alloc X5 _) x6; obtain ⟨c6_0_0, c6_0_1, c6_0_2, c6_0_3, c6_0_4, c6_0_5, c6_0_6, c6_0_7⟩ := K.c8 x6 (w.heap.size) (.int .i64 E0.L.dg) (.int .i64 E0.L.tn) (.string E0.L.nm) (.slice o0_0 E0.L.pw.length c0_0) (.int .i64 E0.R.dg) (.int .i64 E0.R.tn) (.string E0.R.nm) (.slice o0_1 E0.R.pw.length c0_1) (by go_simp); have z6_0 : w.heap.size < w6.heap.size := World.block_lt_of_cell? w6 _ c6_0_0; have d6_0 : ¬ (w.heap.size = w6.heap.size) := (by omega); have e6_0 : ¬ (w6.heap.size = w.heap.size) := (by omega); obtain ⟨c6_1_0, c6_1_1, c6_1_2, c6_1_3, c6_1_4, c6_1_5, c6_1_6, c6_1_7⟩ := K.c8 x6 (w.heap.size + 1) (.int .i64 E2.L.dg) (.int .i64 E2.L.tn) (.string E2.L.nm) (.slice o2_0 E2.L.pw.length c2_0) (.int .i64 E2.R.dg) (.int .i64 E2.R.tn) (.string E2.R.nm) (.slice o2_1 E2.R.pw.length c2_1) (by go_simp); have z6_1 : w.heap.size + 1 < w6.heap.size := World.block_lt_of_cell? w6 _ c6_1_0; have d6_1 : ¬ (w.heap.size + 1 = w6.heap.size) := (by omega); have e6_1 : ¬ (w6.heap.size = w.heap.size + 1) := (by omega); obtain ⟨c6_2_0, c6_2_1, c6_2_2, c6_2_3, c6_2_4, c6_2_5, c6_2_6, c6_2_7⟩ := K.c8 x6 (w5.heap.size) (.int .i64 E0.L.dg) (.int .i64 E0.L.tn) (.string E0.L.nm) (.slice o5 E0.L.pw.length k5) (.int .i64 E0.R.dg) (.int .i64 E0.R.tn) (.string E0.R.nm) (.slice o5_ E0.R.pw.length k5_) (by go_simp); have z6_2 : w5.heap.size < w6.heap.size := World.block_lt_of_cell? w6 _ c6_2_0; have d6_2 : ¬ (w5.heap.size = w6.heap.size) := (by omega); have e6_2 : ¬ (w6.heap.size = w5.heap.size) := (by omega); have n2_0 : ¬ (w5.heap.size = w.heap.size) := (by omega); have n0_2 : ¬ (w.heap.size = w5.heap.size) := (by omega); have n2_1 : ¬ (w5.heap.size = w.heap.size + 1) := (by omega); have n1_2 : ¬ (w.heap.size + 1 = w5.heap.size) := (by omega); have F1_6 := K.ints.ext (K.ints.alloc F1_5 _) x6; have F2_6 := K.ints.ext (K.ints.alloc F2_5 _) x6; have F3_6 := K.recs.ext (K.recs.alloc F3_5 _) x6; have F4_6 := K.ints.ext (K.ints.alloc F4_5 _) x6; have F5_6 := K.ints.ext (K.ints.alloc F5_5 _) x6; have F6_6 := K.own.ext (K.own.alloc F6_5 _) x6; have F7_6 := K.own.ext (K.own.alloc F7_5 _) x6; clear c5_0_0 c5_0_1 c5_0_2 c5_0_3 c5_0_4 c5_0_5 c5_0_6 c5_0_7 z5_0 d5_0 e5_0 c5_1_0 c5_1_1 c5_1_2 c5_1_3 c5_1_4 c5_1_5 c5_1_6 c5_1_7 z5_1 d5_1 e5_1 F1_5 F2_5 F3_5 F4_5 F5_5 F6_5 F7_5)
  go_wp2_with (go_at_call 34; refine K.call (by with_reducible rfl) (by with_reducible rfl) (toEquation_any E2 _ _ _ _ _ _ _ hm3 hp3 (F4_6) (F5_6)) ?_; rintro e w7 ⟨⟨p7, q7, b7, rfl, m7, m7_, g7, g7_⟩, x7⟩; obtain ⟨o7, k7, rfl, _⟩ := K.own.ints g7; obtain ⟨o7_, k7_, rfl, _⟩ := K.own.ints g7_; have F9_7 : K.own w7 (w6.heap.size) (b7) (.slice o7 E2.L.pw.length k7) (E2.L.pw) := g7.mono (by simp) (Nat.le_refl _); have F10_7 : K.own w7 (b7) (w7.heap.size) (.slice o7_ E2.R.pw.length k7_) (E2.R.pw) := g7_; (try simp at m7); clear g7 g7_; have s7 : w6.heap.size ≤ w7.heap.size := (by have h_ := x7.size; (try simp at h_); omega); have X7 := K.Ext.trans (X6) x7; obtain ⟨c7_0_0, c7_0_1, c7_0_2, c7_0_3, c7_0_4, c7_0_5, c7_0_6, c7_0_7⟩ := K.c8 x7 (w.heap.size) (.int .i64 E0.L.dg) (.int .i64 E0.L.tn) (.string E0.L.nm) (.slice o0_0 E0.L.pw.length c0_0) (.int .i64 E0.R.dg) (.int .i64 E0.R.tn) (.string E0.R.nm) (.slice o0_1 E0.R.pw.length c0_1) (by go_simp); have z7_0 : w.heap.size < w7.heap.size := World.block_lt_of_cell? w7 _ c7_0_0; have d7_0 : ¬ (w.heap.size = w7.heap.size) := (by omega); have e7_0 : ¬ (w7.heap.size = w.heap.size) := (by omega); obtain ⟨c7_1_0, c7_1_1, c7_1_2, c7_1_3, c7_1_4, c7_1_5, c7_1_6, c7_1_7⟩ := K.c8 x7 (w.heap.size + 1) (.int .i64 E2.L.dg) (.int .i64 E2.L.tn) (.string E2.L.nm) (.slice o2_0 E2.L.pw.length c2_0) (.int .i64 E2.R.dg) (.int .i64 E2.R.tn) (.string E2.R.nm) (.slice o2_1 E2.R.pw.length c2_1) (by go_simp); have z7_1 : w.heap.size + 1 < w7.heap.size := World.block_lt_of_cell? w7 _ c7_1_0; have d7_1 : ¬ (w.heap.size + 1 = w7.heap.size) := (by omega); have e7_1 : ¬ (w7.heap.size = w.heap.size + 1) := (by omega); obtain ⟨c7_2_0, c7_2_1, c7_2_2, c7_2_3, c7_2_4, c7_2_5, c7_2_6, c7_2_7⟩ := K.c8 x7 (w5.heap.size) (.int .i64 E0.L.dg) (.int .i64 E0.L.tn) (.string E0.L.nm) (.slice o5 E0.L.pw.length k5) (.int .i64 E0.R.dg) (.int .i64 E0.R.tn) (.string E0.R.nm) (.slice o5_ E0.R.pw.length k5_) (by go_simp); have z7_2 : w5.heap.size < w7.heap.size := World.block_lt_of_cell? w7 _ c7_2_0; have d7_2 : ¬ (w5.heap.size = w7.heap.size) := (by omega); have e7_2 : ¬ (w7.heap.size = w5.heap.size) := (by omega); have F1_7 := K.ints.ext (F1_6) x7; have F2_7 := K.ints.ext (F2_6) x7; have F3_7 := K.recs.ext (F3_6) x7; have F4_7 := K.ints.ext (F4_6) x7; have F5_7 := K.ints.ext (F5_6) x7; have F6_7 := K.own.ext (F6_6) x7; have F7_7 := K.own.ext (F7_6) x7; have F8_7 := K.recs.ext (F8_6) x7; clear c6_0_0 c6_0_1 c6_0_2 c6_0_3 c6_0_4 c6_0_5 c6_0_6 c6_0_7 z6_0 d6_0 e6_0 c6_1_0 c6_1_1 c6_1_2 c6_1_3 c6_1_4 c6_1_5 c6_1_6 c6_1_7 z6_1 d6_1 e6_1 c6_2_0 c6_2_1 c6_2_2 c6_2_3 c6_2_4 c6_2_5 c6_2_6 c6_2_7 z6_2 d6_2 e6_2 F1_6 F2_6 F3_6 F4_6 F5_6 F6_6 F7_6 F8_6)
  go_wp2_with (go_at_call 50; refine K.call (by with_reducible rfl) (by with_reducible rfl) (impl_IsDerivation E0 S1 E2 _ hm1 hn1 hp1 hq1 (K.own.ints (K.own.alloc F6_7 _)) (K.own.ints (K.own.alloc F7_7 _)) hm2 (K.recs.plain (K.recs.alloc F8_7 _)) hm3 hn3 hp3 hq3 (K.own.ints (K.own.alloc F9_7 _)) (K.own.ints (K.own.alloc F10_7 _))) ?_; rintro e w8 ⟨rfl, x8⟩; have s8 : w7.heap.size + 1 ≤ w8.heap.size := (by have h_ := x8.size; (try simp at h_); omega); have X8 := K.Ext.trans (K.Ext.alloc X7 _) x8; obtain ⟨c8_0_0, c8_0_1, c8_0_2, c8_0_3, c8_0_4, c8_0_5, c8_0_6, c8_0_7⟩ := K.c8 x8 (w.heap.size) (.int .i64 E0.L.dg) (.int .i64 E0.L.tn) (.string E0.L.nm) (.slice o0_0 E0.L.pw.length c0_0) (.int .i64 E0.R.dg) (.int .i64 E0.R.tn) (.string E0.R.nm) (.slice o0_1 E0.R.pw.length c0_1) (by go_simp); have z8_0 : w.heap.size < w8.heap.size := World.block_lt_of_cell? w8 _ c8_0_0; have d8_0 : ¬ (w.heap.size = w8.heap.size) := (by omega); have e8_0 : ¬ (w8.heap.size = w.heap.size) := (by omega); obtain ⟨c8_1_0, c8_1_1, c8_1_2, c8_1_3, c8_1_4, c8_1_5, c8_1_6, c8_1_7⟩ := K.c8 x8 (w.heap.size + 1) (.int .i64 E2.L.dg) (.int .i64 E2.L.tn) (.string E2.L.nm) (.slice o2_0 E2.L.pw.length c2_0) (.int .i64 E2.R.dg) (.int .i64 E2.R.tn) (.string E2.R.nm) (.slice o2_1 E2.R.pw.length c2_1) (by go_simp); have z8_1 : w.heap.size + 1 < w8.heap.size := World.block_lt_of_cell? w8 _ c8_1_0; have d8_1 : ¬ (w.heap.size + 1 = w8.heap.size) := (by omega); have e8_1 : ¬ (w8.heap.size = w.heap.size + 1) := (by omega); obtain ⟨c8_2_0, c8_2_1, c8_2_2, c8_2_3, c8_2_4, c8_2_5, c8_2_6, c8_2_7⟩ := K.c8 x8 (w5.heap.size) (.int .i64 E0.L.dg) (.int .i64 E0.L.tn) (.string E0.L.nm) (.slice o5 E0.L.pw.length k5) (.int .i64 E0.R.dg) (.int .i64 E0.R.tn) (.string E0.R.nm) (.slice o5_ E0.R.pw.length k5_) (by go_simp); have z8_2 : w5.heap.size < w8.heap.size := World.block_lt_of_cell? w8 _ c8_2_0; have d8_2 : ¬ (w5.heap.size = w8.heap.size) := (by omega); have e8_2 : ¬ (w8.heap.size = w5.heap.size) := (by omega); obtain ⟨c8_3_0, c8_3_1, c8_3_2, c8_3_3, c8_3_4, c8_3_5, c8_3_6, c8_3_7⟩ := K.c8 x8 (w7.heap.size) (.int .i64 E2.L.dg) (.int .i64 E2.L.tn) (.string E2.L.nm) (.slice o7 E2.L.pw.length k7) (.int .i64 E2.R.dg) (.int .i64 E2.R.tn) (.string E2.R.nm) (.slice o7_ E2.R.pw.length k7_) (by go_simp); have z8_3 : w7.heap.size < w8.heap.size := World.block_lt_of_cell? w8 _ c8_3_0; have d8_3 : ¬ (w7.heap.size = w8.heap.size) := (by omega); have e8_3 : ¬ (w8.heap.size = w7.heap.size) := (by omega); have n3_0 : ¬ (w7.heap.size = w.heap.size) := (by omega); have n0_3 : ¬ (w.heap.size = w7.heap.size) := (by omega); have n3_1 : ¬ (w7.heap.size = w.heap.size + 1) := (by omega); have n1_3 : ¬ (w.heap.size + 1 = w7.heap.size) := (by omega); have n3_2 : ¬ (w7.heap.size = w5.heap.size) := (by omega); have n2_3 : ¬ (w5.heap.size = w7.heap.size) := (by omega); have F1_8 := K.ints.ext (K.ints.alloc F1_7 _) x8; have F2_8 := K.ints.ext (K.ints.alloc F2_7 _) x8; have F3_8 := K.recs.ext (K.recs.alloc F3_7 _) x8; have F4_8 := K.ints.ext (K.ints.alloc F4_7 _) x8; have F5_8 := K.ints.ext (K.ints.alloc F5_7 _) x8; have F6_8 := K.own.ext (K.own.alloc F6_7 _) x8; have F7_8 := K.own.ext (K.own.alloc F7_7 _) x8; have F8_8 := K.recs.ext (K.recs.alloc F8_7 _) x8; have F9_8 := K.own.ext (K.own.alloc F9_7 _) x8; have F10_8 := K.own.ext (K.own.alloc F10_7 _) x8; clear c7_0_0 c7_0_1 c7_0_2 c7_0_3 c7_0_4 c7_0_5 c7_0_6 c7_0_7 z7_0 d7_0 e7_0 c7_1_0 c7_1_1 c7_1_2 c7_1_3 c7_1_4 c7_1_5 c7_1_6 c7_1_7 z7_1 d7_1 e7_1 c7_2_0 c7_2_1 c7_2_2 c7_2_3 c7_2_4 c7_2_5 c7_2_6 c7_2_7 z7_2 d7_2 e7_2 F1_7 F2_7 F3_7 F4_7 F5_7 F6_7 F7_7 F8_7 F9_7 F10_7)
  go_wp2_with fail
  refine K.wp_region_x 5 [1, 1, 2, 2, 0] [K.SP.any, K.SP.any, (K.SP.eqn E0), K.SP.is (.bool true)] (by kernel_rfl) (by kernel_rfl) ?_
  simp only [List.take_succ_cons, List.take_zero, List.drop_succ_cons, List.drop_zero]
  iterate 2
    apply K.x_held
    · rfl
    · rfl
    · intro w' hx; have hc := hx.all.1.1; have hf := hx.all.1.2; have hc' := hx.all.2.1; have hf' := hx.all.2.2; go_simp; first | done | rfl | exact ⟨rfl, rfl⟩
    simp only [Act.put, List.setIfInBounds_toArray, List.set]
  apply K.x_call
  · rfl
  · rfl
  · intro w'; go_simp; first | done | rfl | exact ⟨rfl, rfl⟩
  · intro w' hx hp; have hc := hx.all.1.1; have hf := hx.all.1.2; have hc' := hx.all.2.1; have hf' := hx.all.2.2; exact toEquation_sp E0 _ _ _ hm1 hp1 (K.ints.ext (K.ints.drew (F1_8)) hx) (K.ints.ext (K.ints.drew (F2_8)) hx)
  intro v2 w_2_ hx_2_ hv2
  obtain ⟨p_, q_, lo_, hi_, rfl, hp_, hq_⟩ := hv2; have hp2_ := hp_; obtain ⟨ov_, cv_, rfl, _⟩ := hp2_; have hq2_ := hq_; obtain ⟨ov2_, cv2_, rfl, _⟩ := hq2_
  simp only [Act.put, List.setIfInBounds_toArray, List.set]
  apply K.x_call_is
  · rfl
  · rfl
  · rfl
  · intro w'; go_simp; first | done | rfl | exact ⟨rfl, rfl⟩
  · intro w' hx hp; have hc := hx.all.1.1; have hf := hx.all.1.2; have hc' := hx.all.2.1; have hf' := hx.all.2.2; exact (by obtain ⟨lo_, hi_, hq_, hr_⟩ := K.SP.eqn_at (hp 2 _ (by kernel_rfl) rfl rfl); exact eqEquation_same E0 _ _ _ _ _ hm1 hp1 (K.ints.ext (K.own.ints (K.own.drew (F6_8))) hx) (K.ints.ext (K.own.ints (K.own.drew (F7_8))) hx) hq_ hr_)
  intro w_3_ hx_3_
  simp only [Act.put, List.setIfInBounds_toArray, List.set]
  apply K.x_pure
  · rfl
  · rfl
  · intro w'; go_simp; first | done | exact K.vint (IntWalk.i64_in _ (by omega)) | rfl | exact ⟨rfl, rfl⟩
  simp only [Act.put, List.setIfInBounds_toArray, List.set]
  apply K.x_done
  intro w9 h_x
  have x9 := hx_2_.trans (hx_3_.trans h_x)
  have hxe2 := K.Ext.id (hx_3_.trans h_x)
  clear h_x hx_2_ hx_3_
  obtain ⟨⟨hcw9, hfw9⟩, hc'w9, hf'w9⟩ := x9.all
  have s9 : w8.heap.size ≤ w9.heap.size := (by have h_ := x9.size; (try simp at h_); omega)
  have X9 := K.Ext.trans (K.Ext.drew (X8)) x9
  obtain ⟨c9_0_0, c9_0_1, c9_0_2, c9_0_3, c9_0_4, c9_0_5, c9_0_6, c9_0_7⟩ := K.c8 x9 (w.heap.size) (.int .i64 E0.L.dg) (.int .i64 E0.L.tn) (.string E0.L.nm) (.slice o0_0 E0.L.pw.length c0_0) (.int .i64 E0.R.dg) (.int .i64 E0.R.tn) (.string E0.R.nm) (.slice o0_1 E0.R.pw.length c0_1) (by go_simp)
  have z9_0 : w.heap.size < w9.heap.size := World.block_lt_of_cell? w9 _ c9_0_0
  have d9_0 : ¬ (w.heap.size = w9.heap.size) := (by omega)
  have e9_0 : ¬ (w9.heap.size = w.heap.size) := (by omega)
  obtain ⟨c9_1_0, c9_1_1, c9_1_2, c9_1_3, c9_1_4, c9_1_5, c9_1_6, c9_1_7⟩ := K.c8 x9 (w.heap.size + 1) (.int .i64 E2.L.dg) (.int .i64 E2.L.tn) (.string E2.L.nm) (.slice o2_0 E2.L.pw.length c2_0) (.int .i64 E2.R.dg) (.int .i64 E2.R.tn) (.string E2.R.nm) (.slice o2_1 E2.R.pw.length c2_1) (by go_simp)
  have z9_1 : w.heap.size + 1 < w9.heap.size := World.block_lt_of_cell? w9 _ c9_1_0
  have d9_1 : ¬ (w.heap.size + 1 = w9.heap.size) := (by omega)
  have e9_1 : ¬ (w9.heap.size = w.heap.size + 1) := (by omega)
  obtain ⟨c9_2_0, c9_2_1, c9_2_2, c9_2_3, c9_2_4, c9_2_5, c9_2_6, c9_2_7⟩ := K.c8 x9 (w5.heap.size) (.int .i64 E0.L.dg) (.int .i64 E0.L.tn) (.string E0.L.nm) (.slice o5 E0.L.pw.length k5) (.int .i64 E0.R.dg) (.int .i64 E0.R.tn) (.string E0.R.nm) (.slice o5_ E0.R.pw.length k5_) (by go_simp)
  have z9_2 : w5.heap.size < w9.heap.size := World.block_lt_of_cell? w9 _ c9_2_0
  have d9_2 : ¬ (w5.heap.size = w9.heap.size) := (by omega)
  have e9_2 : ¬ (w9.heap.size = w5.heap.size) := (by omega)
  obtain ⟨c9_3_0, c9_3_1, c9_3_2, c9_3_3, c9_3_4, c9_3_5, c9_3_6, c9_3_7⟩ := K.c8 x9 (w7.heap.size) (.int .i64 E2.L.dg) (.int .i64 E2.L.tn) (.string E2.L.nm) (.slice o7 E2.L.pw.length k7) (.int .i64 E2.R.dg) (.int .i64 E2.R.tn) (.string E2.R.nm) (.slice o7_ E2.R.pw.length k7_) (by go_simp)
  have z9_3 : w7.heap.size < w9.heap.size := World.block_lt_of_cell? w9 _ c9_3_0
  have d9_3 : ¬ (w7.heap.size = w9.heap.size) := (by omega)
  have e9_3 : ¬ (w9.heap.size = w7.heap.size) := (by omega)
  have F1_9 := K.ints.ext (K.ints.drew (F1_8)) x9
  have F2_9 := K.ints.ext (K.ints.drew (F2_8)) x9
  have F3_9 := K.recs.ext (K.recs.drew (F3_8)) x9
  have F4_9 := K.ints.ext (K.ints.drew (F4_8)) x9
  have F5_9 := K.ints.ext (K.ints.drew (F5_8)) x9
  have F6_9 := K.own.ext (K.own.drew (F6_8)) x9
  have F7_9 := K.own.ext (K.own.drew (F7_8)) x9
  have F8_9 := K.recs.ext (K.recs.drew (F8_8)) x9
  have F9_9 := K.own.ext (K.own.drew (F9_8)) x9
  have F10_9 := K.own.ext (K.own.drew (F10_8)) x9
  clear c8_0_0 c8_0_1 c8_0_2 c8_0_3 c8_0_4 c8_0_5 c8_0_6 c8_0_7 z8_0 d8_0 e8_0 c8_1_0 c8_1_1 c8_1_2 c8_1_3 c8_1_4 c8_1_5 c8_1_6 c8_1_7 z8_1 d8_1 e8_1 c8_2_0 c8_2_1 c8_2_2 c8_2_3 c8_2_4 c8_2_5 c8_2_6 c8_2_7 z8_2 d8_2 e8_2 c8_3_0 c8_3_1 c8_3_2 c8_3_3 c8_3_4 c8_3_5 c8_3_6 c8_3_7 z8_3 d8_3 e8_3 F1_8 F2_8 F3_8 F4_8 F5_8 F6_8 F7_8 F8_8 F9_8 F10_8
  refine wpList_nil ?_
  refine NoPanic.normal ?_
  go_wp2_with (go_at_call 49; refine K.call (by with_reducible rfl) (by with_reducible rfl) (toStepS_any S1 _ hm2 (F3_9)) ?_; rintro e w10 ⟨⟨p10, rfl, g10⟩, x10⟩; obtain ⟨o10, k10, rfl, _⟩ := K.recs.plain g10; have F11_10 : K.recs true K.StR w10 (w9.heap.size) (w10.heap.size) (.slice o10 S1.length k10) (S1) := g10.mono (by simp) (Nat.le_refl _); clear g10; have s10 : w9.heap.size ≤ w10.heap.size := (by have h_ := x10.size; (try simp at h_); omega); have X10 := K.Ext.trans (X9) x10; obtain ⟨c10_0_0, c10_0_1, c10_0_2, c10_0_3, c10_0_4, c10_0_5, c10_0_6, c10_0_7⟩ := K.c8 x10 (w.heap.size) (.int .i64 E0.L.dg) (.int .i64 E0.L.tn) (.string E0.L.nm) (.slice o0_0 E0.L.pw.length c0_0) (.int .i64 E0.R.dg) (.int .i64 E0.R.tn) (.string E0.R.nm) (.slice o0_1 E0.R.pw.length c0_1) (by go_simp); have z10_0 : w.heap.size < w10.heap.size := World.block_lt_of_cell? w10 _ c10_0_0; have d10_0 : ¬ (w.heap.size = w10.heap.size) := (by omega); have e10_0 : ¬ (w10.heap.size = w.heap.size) := (by omega); obtain ⟨c10_1_0, c10_1_1, c10_1_2, c10_1_3, c10_1_4, c10_1_5, c10_1_6, c10_1_7⟩ := K.c8 x10 (w.heap.size + 1) (.int .i64 E2.L.dg) (.int .i64 E2.L.tn) (.string E2.L.nm) (.slice o2_0 E2.L.pw.length c2_0) (.int .i64 E2.R.dg) (.int .i64 E2.R.tn) (.string E2.R.nm) (.slice o2_1 E2.R.pw.length c2_1) (by go_simp); have z10_1 : w.heap.size + 1 < w10.heap.size := World.block_lt_of_cell? w10 _ c10_1_0; have d10_1 : ¬ (w.heap.size + 1 = w10.heap.size) := (by omega); have e10_1 : ¬ (w10.heap.size = w.heap.size + 1) := (by omega); obtain ⟨c10_2_0, c10_2_1, c10_2_2, c10_2_3, c10_2_4, c10_2_5, c10_2_6, c10_2_7⟩ := K.c8 x10 (w5.heap.size) (.int .i64 E0.L.dg) (.int .i64 E0.L.tn) (.string E0.L.nm) (.slice o5 E0.L.pw.length k5) (.int .i64 E0.R.dg) (.int .i64 E0.R.tn) (.string E0.R.nm) (.slice o5_ E0.R.pw.length k5_) (by go_simp); have z10_2 : w5.heap.size < w10.heap.size := World.block_lt_of_cell? w10 _ c10_2_0; have d10_2 : ¬ (w5.heap.size = w10.heap.size) := (by omega); have e10_2 : ¬ (w10.heap.size = w5.heap.size) := (by omega); obtain ⟨c10_3_0, c10_3_1, c10_3_2, c10_3_3, c10_3_4, c10_3_5, c10_3_6, c10_3_7⟩ := K.c8 x10 (w7.heap.size) (.int .i64 E2.L.dg) (.int .i64 E2.L.tn) (.string E2.L.nm) (.slice o7 E2.L.pw.length k7) (.int .i64 E2.R.dg) (.int .i64 E2.R.tn) (.string E2.R.nm) (.slice o7_ E2.R.pw.length k7_) (by go_simp); have z10_3 : w7.heap.size < w10.heap.size := World.block_lt_of_cell? w10 _ c10_3_0; have d10_3 : ¬ (w7.heap.size = w10.heap.size) := (by omega); have e10_3 : ¬ (w10.heap.size = w7.heap.size) := (by omega); have F1_10 := K.ints.ext (F1_9) x10; have F2_10 := K.ints.ext (F2_9) x10; have F3_10 := K.recs.ext (F3_9) x10; have F4_10 := K.ints.ext (F4_9) x10; have F5_10 := K.ints.ext (F5_9) x10; have F6_10 := K.own.ext (F6_9) x10; have F7_10 := K.own.ext (F7_9) x10; have F8_10 := K.recs.ext (F8_9) x10; have F9_10 := K.own.ext (F9_9) x10; have F10_10 := K.own.ext (F10_9) x10; clear c9_0_0 c9_0_1 c9_0_2 c9_0_3 c9_0_4 c9_0_5 c9_0_6 c9_0_7 z9_0 d9_0 e9_0 c9_1_0 c9_1_1 c9_1_2 c9_1_3 c9_1_4 c9_1_5 c9_1_6 c9_1_7 z9_1 d9_1 e9_1 c9_2_0 c9_2_1 c9_2_2 c9_2_3 c9_2_4 c9_2_5 c9_2_6 c9_2_7 z9_2 d9_2 e9_2 c9_3_0 c9_3_1 c9_3_2 c9_3_3 c9_3_4 c9_3_5 c9_3_6 c9_3_7 z9_3 d9_3 e9_3 F1_9 F2_9 F3_9 F4_9 F5_9 F6_9 F7_9 F8_9 F9_9 F10_9)
  go_wp2_with (go_at_call 51; refine K.call (by with_reducible rfl) (by with_reducible rfl) (eqStepS_same S1 _ hm2 (K.recs.plain (F8_10)) (K.recs.plain (F11_10))) ?_; rintro e w11 ⟨rfl, x11⟩; have s11 : w10.heap.size ≤ w11.heap.size := (by have h_ := x11.size; (try simp at h_); omega); have X11 := K.Ext.trans (X10) x11; obtain ⟨c11_0_0, c11_0_1, c11_0_2, c11_0_3, c11_0_4, c11_0_5, c11_0_6, c11_0_7⟩ := K.c8 x11 (w.heap.size) (.int .i64 E0.L.dg) (.int .i64 E0.L.tn) (.string E0.L.nm) (.slice o0_0 E0.L.pw.length c0_0) (.int .i64 E0.R.dg) (.int .i64 E0.R.tn) (.string E0.R.nm) (.slice o0_1 E0.R.pw.length c0_1) (by go_simp); have z11_0 : w.heap.size < w11.heap.size := World.block_lt_of_cell? w11 _ c11_0_0; have d11_0 : ¬ (w.heap.size = w11.heap.size) := (by omega); have e11_0 : ¬ (w11.heap.size = w.heap.size) := (by omega); obtain ⟨c11_1_0, c11_1_1, c11_1_2, c11_1_3, c11_1_4, c11_1_5, c11_1_6, c11_1_7⟩ := K.c8 x11 (w.heap.size + 1) (.int .i64 E2.L.dg) (.int .i64 E2.L.tn) (.string E2.L.nm) (.slice o2_0 E2.L.pw.length c2_0) (.int .i64 E2.R.dg) (.int .i64 E2.R.tn) (.string E2.R.nm) (.slice o2_1 E2.R.pw.length c2_1) (by go_simp); have z11_1 : w.heap.size + 1 < w11.heap.size := World.block_lt_of_cell? w11 _ c11_1_0; have d11_1 : ¬ (w.heap.size + 1 = w11.heap.size) := (by omega); have e11_1 : ¬ (w11.heap.size = w.heap.size + 1) := (by omega); obtain ⟨c11_2_0, c11_2_1, c11_2_2, c11_2_3, c11_2_4, c11_2_5, c11_2_6, c11_2_7⟩ := K.c8 x11 (w5.heap.size) (.int .i64 E0.L.dg) (.int .i64 E0.L.tn) (.string E0.L.nm) (.slice o5 E0.L.pw.length k5) (.int .i64 E0.R.dg) (.int .i64 E0.R.tn) (.string E0.R.nm) (.slice o5_ E0.R.pw.length k5_) (by go_simp); have z11_2 : w5.heap.size < w11.heap.size := World.block_lt_of_cell? w11 _ c11_2_0; have d11_2 : ¬ (w5.heap.size = w11.heap.size) := (by omega); have e11_2 : ¬ (w11.heap.size = w5.heap.size) := (by omega); obtain ⟨c11_3_0, c11_3_1, c11_3_2, c11_3_3, c11_3_4, c11_3_5, c11_3_6, c11_3_7⟩ := K.c8 x11 (w7.heap.size) (.int .i64 E2.L.dg) (.int .i64 E2.L.tn) (.string E2.L.nm) (.slice o7 E2.L.pw.length k7) (.int .i64 E2.R.dg) (.int .i64 E2.R.tn) (.string E2.R.nm) (.slice o7_ E2.R.pw.length k7_) (by go_simp); have z11_3 : w7.heap.size < w11.heap.size := World.block_lt_of_cell? w11 _ c11_3_0; have d11_3 : ¬ (w7.heap.size = w11.heap.size) := (by omega); have e11_3 : ¬ (w11.heap.size = w7.heap.size) := (by omega); have F1_11 := K.ints.ext (F1_10) x11; have F2_11 := K.ints.ext (F2_10) x11; have F3_11 := K.recs.ext (F3_10) x11; have F4_11 := K.ints.ext (F4_10) x11; have F5_11 := K.ints.ext (F5_10) x11; have F6_11 := K.own.ext (F6_10) x11; have F7_11 := K.own.ext (F7_10) x11; have F8_11 := K.recs.ext (F8_10) x11; have F9_11 := K.own.ext (F9_10) x11; have F10_11 := K.own.ext (F10_10) x11; have F11_11 := K.recs.ext (F11_10) x11; clear c10_0_0 c10_0_1 c10_0_2 c10_0_3 c10_0_4 c10_0_5 c10_0_6 c10_0_7 z10_0 d10_0 e10_0 c10_1_0 c10_1_1 c10_1_2 c10_1_3 c10_1_4 c10_1_5 c10_1_6 c10_1_7 z10_1 d10_1 e10_1 c10_2_0 c10_2_1 c10_2_2 c10_2_3 c10_2_4 c10_2_5 c10_2_6 c10_2_7 z10_2 d10_2 e10_2 c10_3_0 c10_3_1 c10_3_2 c10_3_3 c10_3_4 c10_3_5 c10_3_6 c10_3_7 z10_3 d10_3 e10_3 F1_10 F2_10 F3_10 F4_10 F5_10 F6_10 F7_10 F8_10 F9_10 F10_10 F11_10)
  go_wp2_with fail
  refine K.wp_region_x 5 [1, 1, 2, 2, 0] [K.SP.any, K.SP.any, (K.SP.eqn E2), K.SP.is (.bool true)] (by kernel_rfl) (by kernel_rfl) ?_
  simp only [List.take_succ_cons, List.take_zero, List.drop_succ_cons, List.drop_zero]
  iterate 2
    apply K.x_held
    · rfl
    · rfl
    · intro w' hx; have hc := hx.all.1.1; have hf := hx.all.1.2; have hc' := hx.all.2.1; have hf' := hx.all.2.2; go_simp; first | done | rfl | exact ⟨rfl, rfl⟩
    simp only [Act.put, List.setIfInBounds_toArray, List.set]
  apply K.x_call
  · rfl
  · rfl
  · intro w'; go_simp; first | done | rfl | exact ⟨rfl, rfl⟩
  · intro w' hx hp; have hc := hx.all.1.1; have hf := hx.all.1.2; have hc' := hx.all.2.1; have hf' := hx.all.2.2; exact toEquation_sp E2 _ _ _ hm3 hp3 (K.ints.ext (K.ints.drew (F4_11)) hx) (K.ints.ext (K.ints.drew (F5_11)) hx)
  intro v2 w_2_ hx_2_ hv2
  obtain ⟨p_, q_, lo_, hi_, rfl, hp_, hq_⟩ := hv2; have hp2_ := hp_; obtain ⟨ov_, cv_, rfl, _⟩ := hp2_; have hq2_ := hq_; obtain ⟨ov2_, cv2_, rfl, _⟩ := hq2_
  simp only [Act.put, List.setIfInBounds_toArray, List.set]
  apply K.x_call_is
  · rfl
  · rfl
  · rfl
  · intro w'; go_simp; first | done | rfl | exact ⟨rfl, rfl⟩
  · intro w' hx hp; have hc := hx.all.1.1; have hf := hx.all.1.2; have hc' := hx.all.2.1; have hf' := hx.all.2.2; exact (by obtain ⟨lo_, hi_, hq_, hr_⟩ := K.SP.eqn_at (hp 2 _ (by kernel_rfl) rfl rfl); exact eqEquation_same E2 _ _ _ _ _ hm3 hp3 (K.ints.ext (K.own.ints (K.own.drew (F9_11))) hx) (K.ints.ext (K.own.ints (K.own.drew (F10_11))) hx) hq_ hr_)
  intro w_3_ hx_3_
  simp only [Act.put, List.setIfInBounds_toArray, List.set]
  apply K.x_pure
  · rfl
  · rfl
  · intro w'; go_simp; first | done | exact K.vint (IntWalk.i64_in _ (by omega)) | rfl | exact ⟨rfl, rfl⟩
  simp only [Act.put, List.setIfInBounds_toArray, List.set]
  apply K.x_done
  intro w12 h_x
  have x12 := hx_2_.trans (hx_3_.trans h_x)
  have hxe2 := K.Ext.id (hx_3_.trans h_x)
  clear h_x hx_2_ hx_3_
  obtain ⟨⟨hcw12, hfw12⟩, hc'w12, hf'w12⟩ := x12.all
  have s12 : w11.heap.size ≤ w12.heap.size := (by have h_ := x12.size; (try simp at h_); omega)
  have X12 := K.Ext.trans (K.Ext.drew (X11)) x12
  obtain ⟨c12_0_0, c12_0_1, c12_0_2, c12_0_3, c12_0_4, c12_0_5, c12_0_6, c12_0_7⟩ := K.c8 x12 (w.heap.size) (.int .i64 E0.L.dg) (.int .i64 E0.L.tn) (.string E0.L.nm) (.slice o0_0 E0.L.pw.length c0_0) (.int .i64 E0.R.dg) (.int .i64 E0.R.tn) (.string E0.R.nm) (.slice o0_1 E0.R.pw.length c0_1) (by go_simp)
  have z12_0 : w.heap.size < w12.heap.size := World.block_lt_of_cell? w12 _ c12_0_0
  have d12_0 : ¬ (w.heap.size = w12.heap.size) := (by omega)
  have e12_0 : ¬ (w12.heap.size = w.heap.size) := (by omega)
  obtain ⟨c12_1_0, c12_1_1, c12_1_2, c12_1_3, c12_1_4, c12_1_5, c12_1_6, c12_1_7⟩ := K.c8 x12 (w.heap.size + 1) (.int .i64 E2.L.dg) (.int .i64 E2.L.tn) (.string E2.L.nm) (.slice o2_0 E2.L.pw.length c2_0) (.int .i64 E2.R.dg) (.int .i64 E2.R.tn) (.string E2.R.nm) (.slice o2_1 E2.R.pw.length c2_1) (by go_simp)
  have z12_1 : w.heap.size + 1 < w12.heap.size := World.block_lt_of_cell? w12 _ c12_1_0
  have d12_1 : ¬ (w.heap.size + 1 = w12.heap.size) := (by omega)
  have e12_1 : ¬ (w12.heap.size = w.heap.size + 1) := (by omega)
  obtain ⟨c12_2_0, c12_2_1, c12_2_2, c12_2_3, c12_2_4, c12_2_5, c12_2_6, c12_2_7⟩ := K.c8 x12 (w5.heap.size) (.int .i64 E0.L.dg) (.int .i64 E0.L.tn) (.string E0.L.nm) (.slice o5 E0.L.pw.length k5) (.int .i64 E0.R.dg) (.int .i64 E0.R.tn) (.string E0.R.nm) (.slice o5_ E0.R.pw.length k5_) (by go_simp)
  have z12_2 : w5.heap.size < w12.heap.size := World.block_lt_of_cell? w12 _ c12_2_0
  have d12_2 : ¬ (w5.heap.size = w12.heap.size) := (by omega)
  have e12_2 : ¬ (w12.heap.size = w5.heap.size) := (by omega)
  obtain ⟨c12_3_0, c12_3_1, c12_3_2, c12_3_3, c12_3_4, c12_3_5, c12_3_6, c12_3_7⟩ := K.c8 x12 (w7.heap.size) (.int .i64 E2.L.dg) (.int .i64 E2.L.tn) (.string E2.L.nm) (.slice o7 E2.L.pw.length k7) (.int .i64 E2.R.dg) (.int .i64 E2.R.tn) (.string E2.R.nm) (.slice o7_ E2.R.pw.length k7_) (by go_simp)
  have z12_3 : w7.heap.size < w12.heap.size := World.block_lt_of_cell? w12 _ c12_3_0
  have d12_3 : ¬ (w7.heap.size = w12.heap.size) := (by omega)
  have e12_3 : ¬ (w12.heap.size = w7.heap.size) := (by omega)
  have F1_12 := K.ints.ext (K.ints.drew (F1_11)) x12
  have F2_12 := K.ints.ext (K.ints.drew (F2_11)) x12
  have F3_12 := K.recs.ext (K.recs.drew (F3_11)) x12
  have F4_12 := K.ints.ext (K.ints.drew (F4_11)) x12
  have F5_12 := K.ints.ext (K.ints.drew (F5_11)) x12
  have F6_12 := K.own.ext (K.own.drew (F6_11)) x12
  have F7_12 := K.own.ext (K.own.drew (F7_11)) x12
  have F8_12 := K.recs.ext (K.recs.drew (F8_11)) x12
  have F9_12 := K.own.ext (K.own.drew (F9_11)) x12
  have F10_12 := K.own.ext (K.own.drew (F10_11)) x12
  have F11_12 := K.recs.ext (K.recs.drew (F11_11)) x12
  clear c11_0_0 c11_0_1 c11_0_2 c11_0_3 c11_0_4 c11_0_5 c11_0_6 c11_0_7 z11_0 d11_0 e11_0 c11_1_0 c11_1_1 c11_1_2 c11_1_3 c11_1_4 c11_1_5 c11_1_6 c11_1_7 z11_1 d11_1 e11_1 c11_2_0 c11_2_1 c11_2_2 c11_2_3 c11_2_4 c11_2_5 c11_2_6 c11_2_7 z11_2 d11_2 e11_2 c11_3_0 c11_3_1 c11_3_2 c11_3_3 c11_3_4 c11_3_5 c11_3_6 c11_3_7 z11_3 d11_3 e11_3 F1_11 F2_11 F3_11 F4_11 F5_11 F6_11 F7_11 F8_11 F9_11 F10_11 F11_11
  refine wpList_nil ?_
  refine NoPanic.normal ?_
  go_wp2_with fail
  go_ret
  exact ⟨rfl, X12⟩
end Go.Proofs.Ytphlppklhpaljaa
