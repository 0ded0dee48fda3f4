/-
  POINTS: the middle point, both sides.
-/
import Derived.Test.YtgepjmfjeidbaaaPts2
set_option linter.unusedVariables false
namespace Go.Proofs.Ytgepjmfjeidbaaa
open Go.RowKit
theorem spec_MiddlePoint (a b : Z.Pt) (w : World) :
    Calls Try.prog 32 #[.agg #[.int .i64 a.1, .int .i64 a.2], .agg #[.int .i64 b.1, .int .i64 b.2]] w fun e w' => e = .returned (.tuple #[.agg #[.int .i64 (Z.MiddlePoint a b).1.1, .int .i64 (Z.MiddlePoint a b).1.2], .int .i64 (Z.MiddlePoint a b).2]) ∧ K.Ext w w' := by
  cases hp : Z.pts [a, b]
  · have HE : Hid (Z.MiddlePoint a b = ((0, 0), 2)) := Z.hide (by simp [Z.MiddlePoint, hp])
    go_enter Try.func32, Try.ntmps32
    go_wp2_with (go_at_call 33; refine K.call (by with_reducible rfl) (by with_reducible rfl) (l22Points_2 a b _ _ (by go_simp) (by go_simp) (by go_simp) (by go_simp)) ?_; rintro e w' ⟨rfl, rfl⟩)
    refine bodyPost_ret (v := .tuple #[.agg #[.int .i64 0, .int .i64 0], .int .i64 2]) (by unfold results; rw [Try.results32]; go_simp) rfl ⟨by rw [HE.out], (by repeat' (first | with_reducible exact K.Ext.refl _ | with_reducible assumption | with_reducible refine K.Ext.drew ?_ | with_reducible refine K.Ext.alloc ?_ _ | with_reducible refine K.Ext.setCell ?_ ?_ _ | with_reducible refine K.Ext.trans ?_ (by with_reducible assumption) | (dsimp only; omega) | omega | exact K.Ext.refl _ | assumption | apply K.Ext.drew | refine K.Ext.alloc ?_ _ | refine K.Ext.setCell ?_ ?_ _ | (simp; done) | (simp; omega) | refine K.Ext.trans ?_ (by assumption)))⟩
  · have HE : Hid (Z.MiddlePoint a b = (Z.mid a b, 0)) := Z.hide (by simp [Z.MiddlePoint, hp])
    obtain ⟨HA, HB⟩ : Hid (Z.okPt a = true) ∧ Hid (Z.okPt b = true) := by rw [Z.pts2] at hp; simpa [Hid] using hp
    obtain ⟨⟨a1, a2⟩, a3, a4⟩ := (Z.okPt_iff a).1 HA.out
    obtain ⟨⟨b1, b2⟩, b3, b4⟩ := (Z.okPt_iff b).1 HB.out
    go_enter Try.func32, Try.ntmps32
    go_wp2_with (go_at_call 33; refine K.call (by with_reducible rfl) (by with_reducible rfl) (l22Points_2 a b _ _ (by go_simp) (by go_simp) (by go_simp) (by go_simp)) ?_; rintro e w' ⟨rfl, rfl⟩)
    refine K.wp_region_x 13 [0, 1, 0, 1, 0, 2, 0, 1, 0, 1, 0, 2, 0] [K.SP.any, K.SP.any, K.SP.any, K.SP.any, K.SP.any, K.SP.is (.int .i64 (Z.fl (a.1 + b.1) 2)), K.SP.any, K.SP.any, K.SP.any, K.SP.any, K.SP.any, K.SP.is (.int .i64 (Z.fl (a.2 + b.2) 2))] (by kernel_rfl) (by kernel_rfl) ?_
    simp only [List.take_succ_cons, List.take_zero, List.drop_succ_cons, List.drop_zero]
    apply K.x_pure
    · rfl
    · rfl
    · intro w'; go_simp; first | done | exact K.vint (IntWalk.i64_in _ (by omega)) | rfl | exact ⟨rfl, rfl⟩
    simp only [Act.put, List.setIfInBounds_toArray, List.set]
    apply K.x_held
    · rfl
    · rfl
    · intro w' hx; have hc := hx.all.1.1; have hf := hx.all.1.2; have hc' := hx.all.2.1; have hf' := hx.all.2.2; go_simp; first | done | rfl | exact ⟨rfl, rfl⟩
    simp only [Act.put, List.setIfInBounds_toArray, List.set]
    apply K.x_pure
    · rfl
    · rfl
    · intro w'; go_simp; first | done | exact K.vint (IntWalk.i64_in _ (by omega)) | rfl | exact ⟨rfl, rfl⟩
    simp only [Act.put, List.setIfInBounds_toArray, List.set]
    apply K.x_held
    · rfl
    · rfl
    · intro w' hx; have hc := hx.all.1.1; have hf := hx.all.1.2; have hc' := hx.all.2.1; have hf' := hx.all.2.2; go_simp; first | done | rfl | exact ⟨rfl, rfl⟩
    simp only [Act.put, List.setIfInBounds_toArray, List.set]
    apply K.x_pure
    · rfl
    · rfl
    · intro w'; go_simp; first | done | exact K.vint (IntWalk.i64_in _ (by omega)) | rfl | exact ⟨rfl, rfl⟩
    simp only [Act.put, List.setIfInBounds_toArray, List.set]
    apply K.x_call_is
    · rfl
    · rfl
    · rfl
    · intro w'; go_simp; first | done | rfl | exact ⟨rfl, rfl⟩
    · intro w' hx hp; have hc := hx.all.1.1; have hf := hx.all.1.2; have hc' := hx.all.2.1; have hf' := hx.all.2.2; exact K.same_ext (l01Floor_any _ _ _ (by omega) (by omega) (by omega) (by omega) (by omega))
    intro w_5_ hx_5_
    simp only [Act.put, List.setIfInBounds_toArray, List.set]
    apply K.x_pure
    · rfl
    · rfl
    · intro w'; go_simp; first | done | exact K.vint (IntWalk.i64_in _ (by omega)) | rfl | exact ⟨rfl, rfl⟩
    simp only [Act.put, List.setIfInBounds_toArray, List.set]
    apply K.x_held
    · rfl
    · rfl
    · intro w' hx; have hc := hx.all.1.1; have hf := hx.all.1.2; have hc' := hx.all.2.1; have hf' := hx.all.2.2; go_simp; first | done | rfl | exact ⟨rfl, rfl⟩
    simp only [Act.put, List.setIfInBounds_toArray, List.set]
    apply K.x_pure
    · rfl
    · rfl
    · intro w'; go_simp; first | done | exact K.vint (IntWalk.i64_in _ (by omega)) | rfl | exact ⟨rfl, rfl⟩
    simp only [Act.put, List.setIfInBounds_toArray, List.set]
    apply K.x_held
    · rfl
    · rfl
    · intro w' hx; have hc := hx.all.1.1; have hf := hx.all.1.2; have hc' := hx.all.2.1; have hf' := hx.all.2.2; go_simp; first | done | rfl | exact ⟨rfl, rfl⟩
    simp only [Act.put, List.setIfInBounds_toArray, List.set]
    apply K.x_pure
    · rfl
    · rfl
    · intro w'; go_simp; first | done | exact K.vint (IntWalk.i64_in _ (by omega)) | rfl | exact ⟨rfl, rfl⟩
    simp only [Act.put, List.setIfInBounds_toArray, List.set]
    apply K.x_call_is
    · rfl
    · rfl
    · rfl
    · intro w'; go_simp; first | done | rfl | exact ⟨rfl, rfl⟩
    · intro w' hx hp; have hc := hx.all.1.1; have hf := hx.all.1.2; have hc' := hx.all.2.1; have hf' := hx.all.2.2; exact K.same_ext (l01Floor_any _ _ _ (by omega) (by omega) (by omega) (by omega) (by omega))
    intro w_11_ hx_11_
    simp only [Act.put, List.setIfInBounds_toArray, List.set]
    apply K.x_pure
    · rfl
    · rfl
    · intro w'; go_simp; first | done | exact K.vint (IntWalk.i64_in _ (by omega)) | rfl | exact ⟨rfl, rfl⟩
    simp only [Act.put, List.setIfInBounds_toArray, List.set]
    apply K.x_done
    intro w1 h_x
    have hx1 := hx_5_.trans (hx_11_.trans h_x)
    clear h_x hx_5_ hx_11_
    obtain ⟨⟨hcw1, hfw1⟩, hc'w1, hf'w1⟩ := hx1.all
    go_wp2_with fail
    refine NoPanic.normal ?_
    go_wp2_with fail
    refine bodyPost_ret (v := .tuple #[.agg #[.int .i64 (Z.fl (a.1 + b.1) 2), .int .i64 (Z.fl (a.2 + b.2) 2)], .int .i64 0]) (by unfold results; rw [Try.results32]; go_simp) rfl ⟨by rw [HE.out]; rfl, ?_⟩
    exact (by repeat' (first | with_reducible exact K.Ext.refl _ | with_reducible assumption | with_reducible refine K.Ext.drew ?_ | with_reducible refine K.Ext.alloc ?_ _ | with_reducible refine K.Ext.setCell ?_ ?_ _ | with_reducible refine K.Ext.trans ?_ (by with_reducible assumption) | (dsimp only; omega) | omega | exact K.Ext.refl _ | assumption | apply K.Ext.drew | refine K.Ext.alloc ?_ _ | refine K.Ext.setCell ?_ ?_ _ | (simp; done) | (simp; omega) | refine K.Ext.trans ?_ (by assumption)))
theorem impl_MiddlePoint (a b : Z.Pt) (w : World) :
    Calls Try.prog 31 #[.agg #[.int .i64 a.1, .int .i64 a.2], .agg #[.int .i64 b.1, .int .i64 b.2]] w fun e w' => e = .returned (.tuple #[.agg #[.int .i64 (Z.MiddlePoint a b).1.1, .int .i64 (Z.MiddlePoint a b).1.2], .int .i64 (Z.MiddlePoint a b).2]) ∧ K.Ext w w' := by
  cases hp : Z.pts [a, b]
  · have HE : Hid (Z.MiddlePoint a b = ((0, 0), 2)) := Z.hide (by simp [Z.MiddlePoint, hp])
    go_enter Try.func31, Try.ntmps31
    go_wp2_with (go_at_call 35; refine K.call (by with_reducible rfl) (by with_reducible rfl) (arePoints_2 a b _ _ (by go_simp) (by go_simp) (by go_simp) (by go_simp) (by go_simp)) ?_; rintro e w0 ⟨rfl, hw0⟩; obtain ⟨hcw0, hfw0⟩ := hw0.facts)
    refine bodyPost_ret (v := .tuple #[.agg #[.int .i64 0, .int .i64 0], .int .i64 2]) (by unfold results; rw [Try.results31]; go_simp) rfl ⟨by rw [HE.out], (by repeat' (first | with_reducible exact K.Ext.refl _ | with_reducible assumption | with_reducible refine K.Ext.drew ?_ | with_reducible refine K.Ext.alloc ?_ _ | with_reducible refine K.Ext.setCell ?_ ?_ _ | with_reducible refine K.Ext.trans ?_ (by with_reducible assumption) | (dsimp only; omega) | omega | exact K.Ext.refl _ | assumption | apply K.Ext.drew | refine K.Ext.alloc ?_ _ | refine K.Ext.setCell ?_ ?_ _ | (simp; done) | (simp; omega) | refine K.Ext.trans ?_ (by assumption)))⟩
  · have HE : Hid (Z.MiddlePoint a b = (Z.mid a b, 0)) := Z.hide (by simp [Z.MiddlePoint, hp])
    obtain ⟨HA, HB⟩ : Hid (Z.okPt a = true) ∧ Hid (Z.okPt b = true) := by rw [Z.pts2] at hp; simpa [Hid] using hp
    obtain ⟨⟨a1, a2⟩, a3, a4⟩ := (Z.okPt_iff a).1 HA.out
    obtain ⟨⟨b1, b2⟩, b3, b4⟩ := (Z.okPt_iff b).1 HB.out
    go_enter Try.func31, Try.ntmps31
    go_wp2_with (go_at_call 35; refine K.call (by with_reducible rfl) (by with_reducible rfl) (arePoints_2 a b _ _ (by go_simp) (by go_simp) (by go_simp) (by go_simp) (by go_simp)) ?_; rintro e w0 ⟨rfl, hw0⟩; obtain ⟨hcw0, hfw0⟩ := hw0.facts)
    have c_w0_0_0 : w0.cell? ⟨w.heap.size, 0, none⟩ = some (.int .i64 (a.1)) := hw0.cell_of (by go_simp); have f_w0_0_0 : w0.frozen? ⟨w.heap.size, 0, none⟩ = false := hw0.thaw_of (by go_simp) (by go_simp); have c_w0_0_1 : w0.cell? ⟨w.heap.size, 1, none⟩ = some (.int .i64 (a.2)) := hw0.cell_of (by go_simp); have f_w0_0_1 : w0.frozen? ⟨w.heap.size, 1, none⟩ = false := hw0.thaw_of (by go_simp) (by go_simp); have c_w0_1_0 : w0.cell? ⟨w.heap.size + 1, 0, none⟩ = some (.int .i64 (b.1)) := hw0.cell_of (by go_simp); have f_w0_1_0 : w0.frozen? ⟨w.heap.size + 1, 0, none⟩ = false := hw0.thaw_of (by go_simp) (by go_simp); have c_w0_1_1 : w0.cell? ⟨w.heap.size + 1, 1, none⟩ = some (.int .i64 (b.2)) := hw0.cell_of (by go_simp); have f_w0_1_1 : w0.frozen? ⟨w.heap.size + 1, 1, none⟩ = false := hw0.thaw_of (by go_simp) (by go_simp); have c_w0_2_0 : w0.cell? ⟨w.heap.size + 1 + 1, 0, none⟩ = some (.int .i64 (0)) := hw0.cell_of (by go_simp); have f_w0_2_0 : w0.frozen? ⟨w.heap.size + 1 + 1, 0, none⟩ = false := hw0.thaw_of (by go_simp) (by go_simp); have c_w0_2_1 : w0.cell? ⟨w.heap.size + 1 + 1, 1, none⟩ = some (.int .i64 (0)) := hw0.cell_of (by go_simp); have f_w0_2_1 : w0.frozen? ⟨w.heap.size + 1 + 1, 1, none⟩ = false := hw0.thaw_of (by go_simp) (by go_simp)
    refine K.wp_region_x 13 [0, 1, 0, 1, 0, 2, 0, 1, 0, 1, 0, 2, 0] [K.SP.any, K.SP.any, K.SP.any, K.SP.any, K.SP.any, K.SP.is (.int .i64 (Z.fl (a.1 + b.1) 2)), K.SP.any, K.SP.any, K.SP.any, K.SP.any, K.SP.any, K.SP.is (.int .i64 (Z.fl (a.2 + b.2) 2))] (by kernel_rfl) (by kernel_rfl) ?_
    simp only [List.take_succ_cons, List.take_zero, List.drop_succ_cons, List.drop_zero]
    apply K.x_pure
    · rfl
    · rfl
    · intro w'; go_simp; first | done | exact K.vint (IntWalk.i64_in _ (by omega)) | rfl | exact ⟨rfl, rfl⟩
    simp only [Act.put, List.setIfInBounds_toArray, List.set]
    apply K.x_held
    · rfl
    · rfl
    · intro w' hx; have hc := hx.all.1.1; have hf := hx.all.1.2; have hc' := hx.all.2.1; have hf' := hx.all.2.2; go_simp; first | done | rfl | exact ⟨rfl, rfl⟩
    simp only [Act.put, List.setIfInBounds_toArray, List.set]
    apply K.x_pure
    · rfl
    · rfl
    · intro w'; go_simp; first | done | exact K.vint (IntWalk.i64_in _ (by omega)) | rfl | exact ⟨rfl, rfl⟩
    simp only [Act.put, List.setIfInBounds_toArray, List.set]
    apply K.x_held
    · rfl
    · rfl
    · intro w' hx; have hc := hx.all.1.1; have hf := hx.all.1.2; have hc' := hx.all.2.1; have hf' := hx.all.2.2; go_simp; first | done | rfl | exact ⟨rfl, rfl⟩
    simp only [Act.put, List.setIfInBounds_toArray, List.set]
    apply K.x_pure
    · rfl
    · rfl
    · intro w'; go_simp; first | done | exact K.vint (IntWalk.i64_in _ (by omega)) | rfl | exact ⟨rfl, rfl⟩
    simp only [Act.put, List.setIfInBounds_toArray, List.set]
    apply K.x_call_is
    · rfl
    · rfl
    · rfl
    · intro w'; go_simp; first | done | rfl | exact ⟨rfl, rfl⟩
    · intro w' hx hp; have hc := hx.all.1.1; have hf := hx.all.1.2; have hc' := hx.all.2.1; have hf' := hx.all.2.2; exact K.same_ext (down_any _ _ _ (by omega) (by omega) (by omega))
    intro w_5_ hx_5_
    simp only [Act.put, List.setIfInBounds_toArray, List.set]
    apply K.x_pure
    · rfl
    · rfl
    · intro w'; go_simp; first | done | exact K.vint (IntWalk.i64_in _ (by omega)) | rfl | exact ⟨rfl, rfl⟩
    simp only [Act.put, List.setIfInBounds_toArray, List.set]
    apply K.x_held
    · rfl
    · rfl
    · intro w' hx; have hc := hx.all.1.1; have hf := hx.all.1.2; have hc' := hx.all.2.1; have hf' := hx.all.2.2; go_simp; first | done | rfl | exact ⟨rfl, rfl⟩
    simp only [Act.put, List.setIfInBounds_toArray, List.set]
    apply K.x_pure
    · rfl
    · rfl
    · intro w'; go_simp; first | done | exact K.vint (IntWalk.i64_in _ (by omega)) | rfl | exact ⟨rfl, rfl⟩
    simp only [Act.put, List.setIfInBounds_toArray, List.set]
    apply K.x_held
    · rfl
    · rfl
    · intro w' hx; have hc := hx.all.1.1; have hf := hx.all.1.2; have hc' := hx.all.2.1; have hf' := hx.all.2.2; go_simp; first | done | rfl | exact ⟨rfl, rfl⟩
    simp only [Act.put, List.setIfInBounds_toArray, List.set]
    apply K.x_pure
    · rfl
    · rfl
    · intro w'; go_simp; first | done | exact K.vint (IntWalk.i64_in _ (by omega)) | rfl | exact ⟨rfl, rfl⟩
    simp only [Act.put, List.setIfInBounds_toArray, List.set]
    apply K.x_call_is
    · rfl
    · rfl
    · rfl
    · intro w'; go_simp; first | done | rfl | exact ⟨rfl, rfl⟩
    · intro w' hx hp; have hc := hx.all.1.1; have hf := hx.all.1.2; have hc' := hx.all.2.1; have hf' := hx.all.2.2; exact K.same_ext (down_any _ _ _ (by omega) (by omega) (by omega))
    intro w_11_ hx_11_
    simp only [Act.put, List.setIfInBounds_toArray, List.set]
    apply K.x_pure
    · rfl
    · rfl
    · intro w'; go_simp; first | done | exact K.vint (IntWalk.i64_in _ (by omega)) | rfl | exact ⟨rfl, rfl⟩
    simp only [Act.put, List.setIfInBounds_toArray, List.set]
    apply K.x_done
    intro w1 h_x
    have hx1 := hx_5_.trans (hx_11_.trans h_x)
    clear h_x hx_5_ hx_11_
    obtain ⟨⟨hcw1, hfw1⟩, hc'w1, hf'w1⟩ := hx1.all
    go_wp2_with fail
    refine NoPanic.normal ?_
    go_wp2_with fail
    refine bodyPost_ret (v := .tuple #[.agg #[.int .i64 (Z.fl (a.1 + b.1) 2), .int .i64 (Z.fl (a.2 + b.2) 2)], .int .i64 0]) (by unfold results; rw [Try.results31]; go_simp) rfl ⟨by rw [HE.out]; rfl, ?_⟩
    exact (by repeat' (first | with_reducible exact K.Ext.refl _ | with_reducible assumption | with_reducible refine K.Ext.drew ?_ | with_reducible refine K.Ext.alloc ?_ _ | with_reducible refine K.Ext.setCell ?_ ?_ _ | with_reducible refine K.Ext.trans ?_ (by with_reducible assumption) | (dsimp only; omega) | omega | exact K.Ext.refl _ | assumption | apply K.Ext.drew | refine K.Ext.alloc ?_ _ | refine K.Ext.setCell ?_ ?_ _ | (simp; done) | (simp; omega) | refine K.Ext.trans ?_ (by assumption)))
end Go.Proofs.Ytgepjmfjeidbaaa
