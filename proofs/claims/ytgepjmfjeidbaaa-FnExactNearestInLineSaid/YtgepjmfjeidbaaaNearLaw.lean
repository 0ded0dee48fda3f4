/-
  THE LAW on the nearest point to a line: its walk.
-/
import Derived.Test.YtgepjmfjeidbaaaNear
import Derived.Test.YtgepjmfjeidbaaaDrawnP
import Derived.Test.YtgepjmfjeidbaaaPts2
set_option linter.unusedVariables false
namespace Go.Proofs.Ytgepjmfjeidbaaa
open Go.RowKit
set_option maxHeartbeats 8000000 in
theorem law_FnExactNearestInLine (pm0 : Int × Int) (pm1 : Int × Int) (S2 : List (Int × Int)) (v2 : Value) (w : World) (pl2 : (S2.length : Int) ≤ 9223372036854775807) (h2 : K.recs false K.PtR w 0 w.heap.size v2 S2) :
    Calls Try.prog 3 #[.agg #[.int .i64 pm0.1, .int .i64 pm0.2], .agg #[.int .i64 pm1.1, .int .i64 pm1.2], v2] w fun e w' => e = .returned (.bool true) ∧ K.Ext w w' := by
  have F1_0 := h2
  obtain ⟨o2_0, c2_0, rfl, _⟩ := h2
  have X0 : K.Ext w w := K.Ext.refl w
  go_enter Try.func3, Try.ntmps3
  go_wp2_with (go_at_call 6; refine K.call (by with_reducible rfl) (by with_reducible rfl) (szPointS_any S2 _ _ (by omega) (by omega) pl2 (K.recs.alloc (K.recs.alloc F1_0 _) _)) ?_; rintro e w1 ⟨⟨r1, rfl, u1_, b1⟩, x1⟩; have s1 : w.heap.size + 2 ≤ w1.heap.size := (by have h_ := x1.size; (try simp at h_); omega); have X1 := K.Ext.trans (K.Ext.alloc (K.Ext.alloc X0 _) _) x1; obtain ⟨c1_0_0, c1_0_1⟩ := K.c2 x1 (w.heap.size) (.int .i64 pm0.1) (.int .i64 pm0.2) (by go_simp); have z1_0 : w.heap.size < w1.heap.size := World.block_lt_of_cell? w1 _ c1_0_0; have d1_0 : ¬ (w.heap.size = w1.heap.size) := (by omega); have e1_0 : ¬ (w1.heap.size = w.heap.size) := (by omega); obtain ⟨c1_1_0, c1_1_1⟩ := K.c2 x1 (w.heap.size + 1) (.int .i64 pm1.1) (.int .i64 pm1.2) (by go_simp); have z1_1 : w.heap.size + 1 < w1.heap.size := World.block_lt_of_cell? w1 _ c1_1_0; have d1_1 : ¬ (w.heap.size + 1 = w1.heap.size) := (by omega); have e1_1 : ¬ (w1.heap.size = w.heap.size + 1) := (by omega); have n1_0 : ¬ (w.heap.size + 1 = w.heap.size) := (by omega); have n0_1 : ¬ (w.heap.size = w.heap.size + 1) := (by omega); have F1_1 := K.recs.ext (K.recs.alloc (K.recs.alloc F1_0 _) _) x1; clear F1_0)
  · go_ret
    exact ⟨rfl, X1⟩
  have hm1 := b1.resolve_left (by omega)
  go_wp2_with fail
  refine K.wp_region_x 12 [1, 2, 1, 2, 0, 2, 2, 0, 0, 0, 0, 0] [K.SP.any, K.SP.is (.agg #[.int .i64 pm0.1, .int .i64 pm0.2]), K.SP.any, K.SP.is (.agg #[.int .i64 pm1.1, .int .i64 pm1.2]), K.SP.any, (K.SP.pts S2), K.SP.is (.tuple #[.int .i64 ((Z.NearestInLine pm0 pm1 S2).1), .int .i64 ((Z.NearestInLine pm0 pm1 S2).2)])] (by kernel_rfl) (by kernel_rfl) ?_
  simp only [List.take_succ_cons, List.take_zero, List.drop_succ_cons, List.drop_zero]
  apply K.x_held
  · rfl
  · rfl
  · intro w' hx; have hc := hx.all.1.1; have hf := hx.all.1.2; have hc' := hx.all.2.1; have hf' := hx.all.2.2; go_simp; first | done | rfl | exact ⟨rfl, rfl⟩
  simp only [Act.put, List.setIfInBounds_toArray, List.set]
  apply K.x_call_is
  · rfl
  · rfl
  · rfl
  · intro w'; go_simp; first | done | rfl | exact ⟨rfl, rfl⟩
  · intro w' hx hp; have hc := hx.all.1.1; have hf := hx.all.1.2; have hc' := hx.all.2.1; have hf' := hx.all.2.2; exact toPoint_new pm0 _
  intro w_1_ hx_1_
  simp only [Act.put, List.setIfInBounds_toArray, List.set]
  apply K.x_held
  · rfl
  · rfl
  · intro w' hx; have hc := hx.all.1.1; have hf := hx.all.1.2; have hc' := hx.all.2.1; have hf' := hx.all.2.2; go_simp; first | done | rfl | exact ⟨rfl, rfl⟩
  simp only [Act.put, List.setIfInBounds_toArray, List.set]
  apply K.x_call_is
  · rfl
  · rfl
  · rfl
  · intro w'; go_simp; first | done | rfl | exact ⟨rfl, rfl⟩
  · intro w' hx hp; have hc := hx.all.1.1; have hf := hx.all.1.2; have hc' := hx.all.2.1; have hf' := hx.all.2.2; exact toPoint_new pm1 _
  intro w_3_ hx_3_
  simp only [Act.put, List.setIfInBounds_toArray, List.set]
  apply K.x_pure
  · rfl
  · rfl
  · intro w'; go_simp; first | done | exact K.vint (IntWalk.i64_in _ (by omega)) | rfl | exact ⟨rfl, rfl⟩
  simp only [Act.put, List.setIfInBounds_toArray, List.set]
  apply K.x_call
  · rfl
  · rfl
  · intro w'; go_simp; first | done | rfl | exact ⟨rfl, rfl⟩
  · intro w' hx hp; have hc := hx.all.1.1; have hf := hx.all.1.2; have hc' := hx.all.2.1; have hf' := hx.all.2.2; exact toPointS_sp S2 _ hm1 (K.recs.ext (K.recs.drew (F1_1)) hx)
  intro v5 w_5_ hx_5_ hv5
  obtain ⟨lo_, hi_, hs5_⟩ := hv5; obtain ⟨ov5_, cv5_, rfl, _⟩ := K.recs.plain hs5_
  simp only [Act.put, List.setIfInBounds_toArray, List.set]
  apply K.x_call_is
  · rfl
  · rfl
  · rfl
  · intro w'; go_simp; first | done | rfl | exact ⟨rfl, rfl⟩
  · intro w' hx hp; have hc := hx.all.1.1; have hf := hx.all.1.2; have hc' := hx.all.2.1; have hf' := hx.all.2.2; exact (by obtain ⟨lc_, hc_, qc_⟩ := K.SP.pts_at (hp 5 _ (by kernel_rfl) rfl rfl); exact spec_NearestInLine pm0 pm1 S2 _ hm1 qc_)
  intro w_6_ hx_6_
  simp only [Act.put, List.setIfInBounds_toArray, List.set]
  iterate 5
    apply K.x_pure
    · rfl
    · rfl
    · intro w'; go_simp; first | done | exact K.vint (IntWalk.i64_in _ (by omega)) | rfl | exact ⟨rfl, rfl⟩
    simp only [Act.put, List.setIfInBounds_toArray, List.set]
  apply K.x_done
  intro w2 h_x
  have x2 := hx_1_.trans (hx_3_.trans (hx_5_.trans (hx_6_.trans h_x)))
  have hxe5 := K.Ext.id (hx_6_.trans h_x)
  clear h_x hx_1_ hx_3_ hx_5_ hx_6_
  obtain ⟨⟨hcw2, hfw2⟩, hc'w2, hf'w2⟩ := x2.all
  have s2 : w1.heap.size ≤ w2.heap.size := (by have h_ := x2.size; (try simp at h_); omega)
  have X2 := K.Ext.trans (K.Ext.drew (X1)) x2
  obtain ⟨c2_0_0, c2_0_1⟩ := K.c2 x2 (w.heap.size) (.int .i64 pm0.1) (.int .i64 pm0.2) (by go_simp)
  have z2_0 : w.heap.size < w2.heap.size := World.block_lt_of_cell? w2 _ c2_0_0
  have d2_0 : ¬ (w.heap.size = w2.heap.size) := (by omega)
  have e2_0 : ¬ (w2.heap.size = w.heap.size) := (by omega)
  obtain ⟨c2_1_0, c2_1_1⟩ := K.c2 x2 (w.heap.size + 1) (.int .i64 pm1.1) (.int .i64 pm1.2) (by go_simp)
  have z2_1 : w.heap.size + 1 < w2.heap.size := World.block_lt_of_cell? w2 _ c2_1_0
  have d2_1 : ¬ (w.heap.size + 1 = w2.heap.size) := (by omega)
  have e2_1 : ¬ (w2.heap.size = w.heap.size + 1) := (by omega)
  have F1_2 := K.recs.ext (K.recs.drew (F1_1)) x2
  clear c1_0_0 c1_0_1 z1_0 d1_0 e1_0 c1_1_0 c1_1_1 z1_1 d1_1 e1_1 F1_1
  refine wpList_nil ?_
  refine NoPanic.normal ?_
  go_wp2_with (go_at_call 9; refine K.call (by with_reducible rfl) (by with_reducible rfl) (toPointS_any S2 _ hm1 (F1_2)) ?_; rintro e w3 ⟨⟨p3, rfl, g3⟩, x3⟩; obtain ⟨o3, k3, rfl, _⟩ := K.recs.plain g3; have F2_3 : K.recs true K.PtR w3 (w2.heap.size) (w3.heap.size) (.slice o3 S2.length k3) (S2) := g3.mono (by simp) (Nat.le_refl _); clear g3; have s3 : w2.heap.size ≤ w3.heap.size := (by have h_ := x3.size; (try simp at h_); omega); have X3 := K.Ext.trans (X2) x3; obtain ⟨c3_0_0, c3_0_1⟩ := K.c2 x3 (w.heap.size) (.int .i64 pm0.1) (.int .i64 pm0.2) (by go_simp); have z3_0 : w.heap.size < w3.heap.size := World.block_lt_of_cell? w3 _ c3_0_0; have d3_0 : ¬ (w.heap.size = w3.heap.size) := (by omega); have e3_0 : ¬ (w3.heap.size = w.heap.size) := (by omega); obtain ⟨c3_1_0, c3_1_1⟩ := K.c2 x3 (w.heap.size + 1) (.int .i64 pm1.1) (.int .i64 pm1.2) (by go_simp); have z3_1 : w.heap.size + 1 < w3.heap.size := World.block_lt_of_cell? w3 _ c3_1_0; have d3_1 : ¬ (w.heap.size + 1 = w3.heap.size) := (by omega); have e3_1 : ¬ (w3.heap.size = w.heap.size + 1) := (by omega); have F1_3 := K.recs.ext (F1_2) x3; clear c2_0_0 c2_0_1 z2_0 d2_0 e2_0 c2_1_0 c2_1_1 z2_1 d2_1 e2_1 F1_2)
  go_wp2_with fail
  refine K.wp_region_x 11 [1, 2, 1, 2, 0, 2, 0, 0, 0, 0, 0] [K.SP.any, K.SP.is (.agg #[.int .i64 pm0.1, .int .i64 pm0.2]), K.SP.any, K.SP.is (.agg #[.int .i64 pm1.1, .int .i64 pm1.2]), K.SP.any, K.SP.is (.tuple #[.int .i64 ((Z.NearestInLine pm0 pm1 S2).1), .int .i64 ((Z.NearestInLine pm0 pm1 S2).2)])] (by kernel_rfl) (by kernel_rfl) ?_
  simp only [List.take_succ_cons, List.take_zero, List.drop_succ_cons, List.drop_zero]
  apply K.x_held
  · rfl
  · rfl
  · intro w' hx; have hc := hx.all.1.1; have hf := hx.all.1.2; have hc' := hx.all.2.1; have hf' := hx.all.2.2; go_simp; first | done | rfl | exact ⟨rfl, rfl⟩
  simp only [Act.put, List.setIfInBounds_toArray, List.set]
  apply K.x_call_is
  · rfl
  · rfl
  · rfl
  · intro w'; go_simp; first | done | rfl | exact ⟨rfl, rfl⟩
  · intro w' hx hp; have hc := hx.all.1.1; have hf := hx.all.1.2; have hc' := hx.all.2.1; have hf' := hx.all.2.2; exact toPoint_new pm0 _
  intro w_1_ hx_1_
  simp only [Act.put, List.setIfInBounds_toArray, List.set]
  apply K.x_held
  · rfl
  · rfl
  · intro w' hx; have hc := hx.all.1.1; have hf := hx.all.1.2; have hc' := hx.all.2.1; have hf' := hx.all.2.2; go_simp; first | done | rfl | exact ⟨rfl, rfl⟩
  simp only [Act.put, List.setIfInBounds_toArray, List.set]
  apply K.x_call_is
  · rfl
  · rfl
  · rfl
  · intro w'; go_simp; first | done | rfl | exact ⟨rfl, rfl⟩
  · intro w' hx hp; have hc := hx.all.1.1; have hf := hx.all.1.2; have hc' := hx.all.2.1; have hf' := hx.all.2.2; exact toPoint_new pm1 _
  intro w_3_ hx_3_
  simp only [Act.put, List.setIfInBounds_toArray, List.set]
  apply K.x_pure
  · rfl
  · rfl
  · intro w'; go_simp; first | done | exact K.vint (IntWalk.i64_in _ (by omega)) | rfl | exact ⟨rfl, rfl⟩
  simp only [Act.put, List.setIfInBounds_toArray, List.set]
  apply K.x_call_is
  · rfl
  · rfl
  · rfl
  · intro w'; go_simp; first | done | rfl | exact ⟨rfl, rfl⟩
  · intro w' hx hp; have hc := hx.all.1.1; have hf := hx.all.1.2; have hc' := hx.all.2.1; have hf' := hx.all.2.2; exact (by skip; exact impl_NearestInLine pm0 pm1 S2 _ hm1 (K.recs.ext (K.recs.plain (K.recs.drew (F2_3))) hx))
  intro w_5_ hx_5_
  simp only [Act.put, List.setIfInBounds_toArray, List.set]
  iterate 5
    apply K.x_pure
    · rfl
    · rfl
    · intro w'; go_simp; first | done | exact K.vint (IntWalk.i64_in _ (by omega)) | rfl | exact ⟨rfl, rfl⟩
    simp only [Act.put, List.setIfInBounds_toArray, List.set]
  apply K.x_done
  intro w4 h_x
  have x4 := hx_1_.trans (hx_3_.trans (hx_5_.trans h_x))
  clear h_x hx_1_ hx_3_ hx_5_
  obtain ⟨⟨hcw4, hfw4⟩, hc'w4, hf'w4⟩ := x4.all
  have s4 : w3.heap.size ≤ w4.heap.size := (by have h_ := x4.size; (try simp at h_); omega)
  have X4 := K.Ext.trans (K.Ext.drew (X3)) x4
  obtain ⟨c4_0_0, c4_0_1⟩ := K.c2 x4 (w.heap.size) (.int .i64 pm0.1) (.int .i64 pm0.2) (by go_simp)
  have z4_0 : w.heap.size < w4.heap.size := World.block_lt_of_cell? w4 _ c4_0_0
  have d4_0 : ¬ (w.heap.size = w4.heap.size) := (by omega)
  have e4_0 : ¬ (w4.heap.size = w.heap.size) := (by omega)
  obtain ⟨c4_1_0, c4_1_1⟩ := K.c2 x4 (w.heap.size + 1) (.int .i64 pm1.1) (.int .i64 pm1.2) (by go_simp)
  have z4_1 : w.heap.size + 1 < w4.heap.size := World.block_lt_of_cell? w4 _ c4_1_0
  have d4_1 : ¬ (w.heap.size + 1 = w4.heap.size) := (by omega)
  have e4_1 : ¬ (w4.heap.size = w.heap.size + 1) := (by omega)
  have F1_4 := K.recs.ext (K.recs.drew (F1_3)) x4
  have F2_4 := K.recs.ext (K.recs.drew (F2_3)) x4
  clear c3_0_0 c3_0_1 z3_0 d3_0 e3_0 c3_1_0 c3_1_1 z3_1 d3_1 e3_1 F1_3 F2_3
  refine wpList_nil ?_
  refine NoPanic.normal ?_
  go_wp2_with (go_at_call 9; refine K.call (by with_reducible rfl) (by with_reducible rfl) (toPointS_any S2 _ hm1 (F1_4)) ?_; rintro e w5 ⟨⟨p5, rfl, g5⟩, x5⟩; obtain ⟨o5, k5, rfl, _⟩ := K.recs.plain g5; have F3_5 : K.recs true K.PtR w5 (w4.heap.size) (w5.heap.size) (.slice o5 S2.length k5) (S2) := g5.mono (by simp) (Nat.le_refl _); clear g5; have s5 : w4.heap.size ≤ w5.heap.size := (by have h_ := x5.size; (try simp at h_); omega); have X5 := K.Ext.trans (X4) x5; obtain ⟨c5_0_0, c5_0_1⟩ := K.c2 x5 (w.heap.size) (.int .i64 pm0.1) (.int .i64 pm0.2) (by go_simp); have z5_0 : w.heap.size < w5.heap.size := World.block_lt_of_cell? w5 _ c5_0_0; have d5_0 : ¬ (w.heap.size = w5.heap.size) := (by omega); have e5_0 : ¬ (w5.heap.size = w.heap.size) := (by omega); obtain ⟨c5_1_0, c5_1_1⟩ := K.c2 x5 (w.heap.size + 1) (.int .i64 pm1.1) (.int .i64 pm1.2) (by go_simp); have z5_1 : w.heap.size + 1 < w5.heap.size := World.block_lt_of_cell? w5 _ c5_1_0; have d5_1 : ¬ (w.heap.size + 1 = w5.heap.size) := (by omega); have e5_1 : ¬ (w5.heap.size = w.heap.size + 1) := (by omega); have F1_5 := K.recs.ext (F1_4) x5; have F2_5 := K.recs.ext (F2_4) x5; clear c4_0_0 c4_0_1 z4_0 d4_0 e4_0 c4_1_0 c4_1_1 z4_1 d4_1 e4_1 F1_4 F2_4)
  go_wp2_with (go_at_call 11; refine K.call (by with_reducible rfl) (by with_reducible rfl) (eqPointS_same S2 _ hm1 (K.recs.plain (F2_5)) (K.recs.plain (F3_5))) ?_; rintro e w6 ⟨rfl, x6⟩; have s6 : w5.heap.size ≤ w6.heap.size := (by have h_ := x6.size; (try simp at h_); omega); have X6 := K.Ext.trans (X5) x6; obtain ⟨c6_0_0, c6_0_1⟩ := K.c2 x6 (w.heap.size) (.int .i64 pm0.1) (.int .i64 pm0.2) (by go_simp); have z6_0 : w.heap.size < w6.heap.size := World.block_lt_of_cell? w6 _ c6_0_0; have d6_0 : ¬ (w.heap.size = w6.heap.size) := (by omega); have e6_0 : ¬ (w6.heap.size = w.heap.size) := (by omega); obtain ⟨c6_1_0, c6_1_1⟩ := K.c2 x6 (w.heap.size + 1) (.int .i64 pm1.1) (.int .i64 pm1.2) (by go_simp); have z6_1 : w.heap.size + 1 < w6.heap.size := World.block_lt_of_cell? w6 _ c6_1_0; have d6_1 : ¬ (w.heap.size + 1 = w6.heap.size) := (by omega); have e6_1 : ¬ (w6.heap.size = w.heap.size + 1) := (by omega); have F1_6 := K.recs.ext (F1_5) x6; have F2_6 := K.recs.ext (F2_5) x6; have F3_6 := K.recs.ext (F3_5) x6; clear c5_0_0 c5_0_1 z5_0 d5_0 e5_0 c5_1_0 c5_1_1 z5_1 d5_1 e5_1 F1_5 F2_5 F3_5)
  go_ret
  exact ⟨rfl, X6⟩
end Go.Proofs.Ytgepjmfjeidbaaa
