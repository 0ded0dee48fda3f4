/-
  POINTS: heights and deviations, both sides.
-/
import Derived.Test.YtgepjmfjeidbaaaPts2
set_option linter.unusedVariables false
namespace Go.Proofs.Ytgepjmfjeidbaaa
open Go.RowKit

theorem l22Height_any (a b : Z.Pt) (x : Int) (w : World) (ha : Z.okPt a = true) (hb : Z.okPt b = true) (hx : Z.place x = true) (hn : b.1 - a.1 ≠ 0) :
    Calls Try.prog 48 #[.agg #[.int .i64 a.1, .int .i64 a.2], .agg #[.int .i64 b.1, .int .i64 b.2], .int .i64 x] w fun e w' => e = .returned (.tuple #[.int .i64 (a.2 + Z.fl ((b.2 - a.2) * (x - a.1)) (b.1 - a.1)), .int .i64 (a.2 + Z.cl ((b.2 - a.2) * (x - a.1)) (b.1 - a.1))]) ∧ K.Ext w w' := by
  obtain ⟨⟨a1, a2⟩, a3, a4⟩ := (Z.okPt_iff a).1 ha
  obtain ⟨⟨b1, b2⟩, b3, b4⟩ := (Z.okPt_iff b).1 hb
  obtain ⟨x1, x2⟩ := (Z.place_iff x).1 hx
  obtain ⟨m1, m2⟩ := Z.mul_bd (b.2 - a.2) (x - a.1) 200000 200000 (by omega) (by omega) (by omega) (by omega)
  obtain ⟨f1, f2⟩ := Z.fl_bd _ (b.1 - a.1) _ hn m1 m2
  obtain ⟨f3, f4⟩ := Z.cl_bd _ (b.1 - a.1) _ hn m1 m2
  clear ha hb hx
  have HN := Z.hide hn
  clear hn
  go_enter Try.func48, Try.ntmps48
  go_wp2_with fail
  refine K.wp_region_x 22 [0, 1, 0, 0, 1, 0, 1, 0, 2, 0, 0, 1, 0, 0, 1, 0, 1, 0, 2, 0, 0, 0] [K.SP.any, K.SP.any, K.SP.any, K.SP.any, K.SP.any, K.SP.any, K.SP.any, K.SP.any, K.SP.is (.int .i64 (Z.fl ((b.2 - a.2) * (x - a.1)) (b.1 - a.1))), K.SP.any, K.SP.any, K.SP.any, K.SP.any, K.SP.any, K.SP.any, K.SP.any, K.SP.any, K.SP.any, K.SP.is (.int .i64 (Z.cl ((b.2 - a.2) * (x - a.1)) (b.1 - a.1)))] (by kernel_rfl) (by kernel_rfl) ?_
  simp only [List.take_succ_cons, List.take_zero, List.drop_succ_cons, List.drop_zero]
  apply K.x_pure
  · rfl
  · rfl
  · intro w'; go_simp; first | done | exact K.vint (IntWalk.i64_in _ (by omega)) | rfl | exact ⟨rfl, rfl⟩
  simp only [Act.put, List.setIfInBounds_toArray, List.set]
  apply K.x_held
  · rfl
  · rfl
  · intro w' hx; have hc := hx.all.1.1; have hf := hx.all.1.2; have hc' := hx.all.2.1; have hf' := hx.all.2.2; go_simp; first | done | rfl | exact ⟨rfl, rfl⟩
  simp only [Act.put, List.setIfInBounds_toArray, List.set]
  iterate 2
    apply K.x_pure
    · rfl
    · rfl
    · intro w'; go_simp; first | done | exact K.vint (IntWalk.i64_in _ (by omega)) | rfl | exact ⟨rfl, rfl⟩
    simp only [Act.put, List.setIfInBounds_toArray, List.set]
  apply K.x_held
  · rfl
  · rfl
  · intro w' hx; have hc := hx.all.1.1; have hf := hx.all.1.2; have hc' := hx.all.2.1; have hf' := hx.all.2.2; go_simp; first | done | rfl | exact ⟨rfl, rfl⟩
  simp only [Act.put, List.setIfInBounds_toArray, List.set]
  apply K.x_pure
  · rfl
  · rfl
  · intro w'; go_simp; first | done | exact K.vint (IntWalk.i64_in _ (by omega)) | rfl | exact ⟨rfl, rfl⟩
  simp only [Act.put, List.setIfInBounds_toArray, List.set]
  apply K.x_held
  · rfl
  · rfl
  · intro w' hx; have hc := hx.all.1.1; have hf := hx.all.1.2; have hc' := hx.all.2.1; have hf' := hx.all.2.2; go_simp; first | done | rfl | exact ⟨rfl, rfl⟩
  simp only [Act.put, List.setIfInBounds_toArray, List.set]
  apply K.x_pure
  · rfl
  · rfl
  · intro w'; go_simp; first | done | exact K.vint (IntWalk.i64_in _ (by omega)) | rfl | exact ⟨rfl, rfl⟩
  simp only [Act.put, List.setIfInBounds_toArray, List.set]
  apply K.x_call_is
  · rfl
  · rfl
  · rfl
  · intro w'; go_simp; first | done | rfl | exact ⟨rfl, rfl⟩
  · intro w' hx hp; have hc := hx.all.1.1; have hf := hx.all.1.2; have hc' := hx.all.2.1; have hf' := hx.all.2.2; exact K.same_ext (l01Floor_any _ _ _ HN.out (by omega) (by omega) (by omega) (by omega))
  intro w_8_ hx_8_
  simp only [Act.put, List.setIfInBounds_toArray, List.set]
  iterate 2
    apply K.x_pure
    · rfl
    · rfl
    · intro w'; go_simp; first | done | exact K.vint (IntWalk.i64_in _ (by omega)) | rfl | exact ⟨rfl, rfl⟩
    simp only [Act.put, List.setIfInBounds_toArray, List.set]
  apply K.x_held
  · rfl
  · rfl
  · intro w' hx; have hc := hx.all.1.1; have hf := hx.all.1.2; have hc' := hx.all.2.1; have hf' := hx.all.2.2; go_simp; first | done | rfl | exact ⟨rfl, rfl⟩
  simp only [Act.put, List.setIfInBounds_toArray, List.set]
  iterate 2
    apply K.x_pure
    · rfl
    · rfl
    · intro w'; go_simp; first | done | exact K.vint (IntWalk.i64_in _ (by omega)) | rfl | exact ⟨rfl, rfl⟩
    simp only [Act.put, List.setIfInBounds_toArray, List.set]
  apply K.x_held
  · rfl
  · rfl
  · intro w' hx; have hc := hx.all.1.1; have hf := hx.all.1.2; have hc' := hx.all.2.1; have hf' := hx.all.2.2; go_simp; first | done | rfl | exact ⟨rfl, rfl⟩
  simp only [Act.put, List.setIfInBounds_toArray, List.set]
  apply K.x_pure
  · rfl
  · rfl
  · intro w'; go_simp; first | done | exact K.vint (IntWalk.i64_in _ (by omega)) | rfl | exact ⟨rfl, rfl⟩
  simp only [Act.put, List.setIfInBounds_toArray, List.set]
  apply K.x_held
  · rfl
  · rfl
  · intro w' hx; have hc := hx.all.1.1; have hf := hx.all.1.2; have hc' := hx.all.2.1; have hf' := hx.all.2.2; go_simp; first | done | rfl | exact ⟨rfl, rfl⟩
  simp only [Act.put, List.setIfInBounds_toArray, List.set]
  apply K.x_pure
  · rfl
  · rfl
  · intro w'; go_simp; first | done | exact K.vint (IntWalk.i64_in _ (by omega)) | rfl | exact ⟨rfl, rfl⟩
  simp only [Act.put, List.setIfInBounds_toArray, List.set]
  apply K.x_call_is
  · rfl
  · rfl
  · rfl
  · intro w'; go_simp; first | done | rfl | exact ⟨rfl, rfl⟩
  · intro w' hx hp; have hc := hx.all.1.1; have hf := hx.all.1.2; have hc' := hx.all.2.1; have hf' := hx.all.2.2; exact K.same_ext (l01Ceil_any _ _ _ HN.out (by omega) (by omega) (by omega) (by omega))
  intro w_18_ hx_18_
  simp only [Act.put, List.setIfInBounds_toArray, List.set]
  iterate 3
    apply K.x_pure
    · rfl
    · rfl
    · intro w'; go_simp; first | done | exact K.vint (IntWalk.i64_in _ (by omega)) | rfl | exact ⟨rfl, rfl⟩
    simp only [Act.put, List.setIfInBounds_toArray, List.set]
  apply K.x_done
  intro w1 h_x
  have hx1 := hx_8_.trans (hx_18_.trans h_x)
  clear h_x hx_8_ hx_18_
  obtain ⟨⟨hcw1, hfw1⟩, hc'w1, hf'w1⟩ := hx1.all
  refine wpList_nil ?_
  refine NoPanic.normal ?_
  go_wp2_with fail
  go_ret2
  exact ⟨K.rii rfl rfl, (by repeat' (first | with_reducible exact K.Ext.refl _ | with_reducible assumption | with_reducible refine K.Ext.drew ?_ | with_reducible refine K.Ext.alloc ?_ _ | with_reducible refine K.Ext.setCell ?_ ?_ _ | with_reducible refine K.Ext.trans ?_ (by with_reducible assumption) | (dsimp only; omega) | omega | exact K.Ext.refl _ | assumption | apply K.Ext.drew | refine K.Ext.alloc ?_ _ | refine K.Ext.setCell ?_ ?_ _ | (simp; done) | (simp; omega) | refine K.Ext.trans ?_ (by assumption)))⟩
set_option maxHeartbeats 400000 in
theorem spec_HeightAt (a b : Z.Pt) (x : Int) (w : World) :
    Calls Try.prog 23 #[.agg #[.int .i64 a.1, .int .i64 a.2], .agg #[.int .i64 b.1, .int .i64 b.2], .int .i64 x] w fun e w' => e = .returned (.tuple #[.int .i64 (Z.HeightAt a b x).1, .int .i64 (Z.HeightAt a b x).2.1, .int .i64 (Z.HeightAt a b x).2.2]) ∧ K.Ext w w' := by
  cases hp : Z.pts [a, b]
  · have HE : Hid (Z.HeightAt a b x = (0, 0, 2)) := Z.hide (by simp [Z.HeightAt, hp])
    go_enter Try.func23, Try.ntmps23
    go_wp2_with (go_at_call 33; refine K.call (by with_reducible rfl) (by with_reducible rfl) (l22Points_2 a b _ _ (by go_simp) (by go_simp) (by go_simp) (by go_simp)) ?_; rintro e w' ⟨rfl, rfl⟩)
    go_ret3
    exact ⟨by rw [HE.out]; rfl, (by repeat' (first | with_reducible exact K.Ext.refl _ | with_reducible assumption | with_reducible refine K.Ext.drew ?_ | with_reducible refine K.Ext.alloc ?_ _ | with_reducible refine K.Ext.setCell ?_ ?_ _ | with_reducible refine K.Ext.trans ?_ (by with_reducible assumption) | (dsimp only; omega) | omega | exact K.Ext.refl _ | assumption | apply K.Ext.drew | refine K.Ext.alloc ?_ _ | refine K.Ext.setCell ?_ ?_ _ | (simp; done) | (simp; omega) | refine K.Ext.trans ?_ (by assumption)))⟩
  · obtain ⟨HA, HB⟩ : Hid (Z.okPt a = true) ∧ Hid (Z.okPt b = true) := (Z.pts2_iff a b).1 hp
    cases hx : Z.place x
    · have HE : Hid (Z.HeightAt a b x = (0, 0, 2)) := Z.hide (by simp [Z.HeightAt, hp, hx])
      go_enter Try.func23, Try.ntmps23
      go_wp2_with (first | (go_at_call 33; refine K.call (by with_reducible rfl) (by with_reducible rfl) (l22Points_2 a b _ _ (by go_simp) (by go_simp) (by go_simp) (by go_simp)) ?_; rintro e w' ⟨rfl, rfl⟩) | (go_at_call 47; refine K.call (by with_reducible rfl) (by with_reducible rfl) (l22Place_any _ _) ?_; rintro e w' ⟨rfl, rfl⟩))
      go_ret3
      exact ⟨by rw [HE.out]; rfl, (by repeat' (first | with_reducible exact K.Ext.refl _ | with_reducible assumption | with_reducible refine K.Ext.drew ?_ | with_reducible refine K.Ext.alloc ?_ _ | with_reducible refine K.Ext.setCell ?_ ?_ _ | with_reducible refine K.Ext.trans ?_ (by with_reducible assumption) | (dsimp only; omega) | omega | exact K.Ext.refl _ | assumption | apply K.Ext.drew | refine K.Ext.alloc ?_ _ | refine K.Ext.setCell ?_ ?_ _ | (simp; done) | (simp; omega) | refine K.Ext.trans ?_ (by assumption)))⟩
    · by_cases hq : a.1 = b.1
      · have HE : Hid (Z.HeightAt a b x = (0, 0, 5)) := Z.hide (by simp [Z.HeightAt, hp, hx, hq])
        have hq' : (a.1 == b.1) = true := by simp [hq]
        have HQ := Z.hide hq
        clear hq
        go_enter Try.func23, Try.ntmps23
        go_wp2_with (first | (go_at_call 33; refine K.call (by with_reducible rfl) (by with_reducible rfl) (l22Points_2 a b _ _ (by go_simp) (by go_simp) (by go_simp) (by go_simp)) ?_; rintro e w' ⟨rfl, rfl⟩) | (go_at_call 47; refine K.call (by with_reducible rfl) (by with_reducible rfl) (l22Place_any _ _) ?_; rintro e w' ⟨rfl, rfl⟩))
        go_ret3
        exact ⟨by rw [HE.out]; rfl, (by repeat' (first | with_reducible exact K.Ext.refl _ | with_reducible assumption | with_reducible refine K.Ext.drew ?_ | with_reducible refine K.Ext.alloc ?_ _ | with_reducible refine K.Ext.setCell ?_ ?_ _ | with_reducible refine K.Ext.trans ?_ (by with_reducible assumption) | (dsimp only; omega) | omega | exact K.Ext.refl _ | assumption | apply K.Ext.drew | refine K.Ext.alloc ?_ _ | refine K.Ext.setCell ?_ ?_ _ | (simp; done) | (simp; omega) | refine K.Ext.trans ?_ (by assumption)))⟩
      · have HE : Hid (Z.HeightAt a b x = (a.2 + Z.fl ((b.2 - a.2) * (x - a.1)) (b.1 - a.1), a.2 + Z.cl ((b.2 - a.2) * (x - a.1)) (b.1 - a.1), 0)) := Z.hide (by simp [Z.HeightAt, hp, hx, hq])
        have hq' : (a.1 == b.1) = false := by simp [hq]
        have HQ : Hid (b.1 - a.1 ≠ 0) := Z.hide (by omega)
        have HX := Z.hide hx
        clear hq
        go_enter Try.func23, Try.ntmps23
        go_wp2_with (first | (go_at_call 33; refine K.call (by with_reducible rfl) (by with_reducible rfl) (l22Points_2 a b _ _ (by go_simp) (by go_simp) (by go_simp) (by go_simp)) ?_; rintro e w' ⟨rfl, rfl⟩) | (go_at_call 47; refine K.call (by with_reducible rfl) (by with_reducible rfl) (l22Place_any _ _) ?_; rintro e w' ⟨rfl, rfl⟩) | (go_at_call 48; refine K.call (by with_reducible rfl) (by with_reducible rfl) (l22Height_any a b x _ HA.out HB.out HX.out HQ.out) ?_; rintro e w1 ⟨rfl, hw1⟩; obtain ⟨hcw1, hfw1⟩ := hw1.facts))
        go_ret3
        exact ⟨by rw [HE.out]; rfl, (by repeat' (first | with_reducible exact K.Ext.refl _ | with_reducible assumption | with_reducible refine K.Ext.drew ?_ | with_reducible refine K.Ext.alloc ?_ _ | with_reducible refine K.Ext.setCell ?_ ?_ _ | with_reducible refine K.Ext.trans ?_ (by with_reducible assumption) | (dsimp only; omega) | omega | exact K.Ext.refl _ | assumption | apply K.Ext.drew | refine K.Ext.alloc ?_ _ | refine K.Ext.setCell ?_ ?_ _ | (simp; done) | (simp; omega) | refine K.Ext.trans ?_ (by assumption)))⟩
set_option maxHeartbeats 400000 in
theorem impl_HeightAt (a b : Z.Pt) (x : Int) (w : World) :
    Calls Try.prog 22 #[.agg #[.int .i64 a.1, .int .i64 a.2], .agg #[.int .i64 b.1, .int .i64 b.2], .int .i64 x] w fun e w' => e = .returned (.tuple #[.int .i64 (Z.HeightAt a b x).1, .int .i64 (Z.HeightAt a b x).2.1, .int .i64 (Z.HeightAt a b x).2.2]) ∧ K.Ext w w' := by
  cases hp : Z.pts [a, b]
  · have HE : Hid (Z.HeightAt a b x = (0, 0, 2)) := Z.hide (by simp [Z.HeightAt, hp])
    go_enter Try.func22, Try.ntmps22
    go_wp2_with (go_at_call 35; refine K.call (by with_reducible rfl) (by with_reducible rfl) (arePoints_2 a b _ _ (by go_simp) (by go_simp) (by go_simp) (by go_simp) (by go_simp)) ?_; rintro e w0 ⟨rfl, hw0⟩; obtain ⟨hcw0, hfw0⟩ := hw0.facts)
    go_ret3
    exact ⟨by rw [HE.out]; rfl, (by repeat' (first | with_reducible exact K.Ext.refl _ | with_reducible assumption | with_reducible refine K.Ext.drew ?_ | with_reducible refine K.Ext.alloc ?_ _ | with_reducible refine K.Ext.setCell ?_ ?_ _ | with_reducible refine K.Ext.trans ?_ (by with_reducible assumption) | (dsimp only; omega) | omega | exact K.Ext.refl _ | assumption | apply K.Ext.drew | refine K.Ext.alloc ?_ _ | refine K.Ext.setCell ?_ ?_ _ | (simp; done) | (simp; omega) | refine K.Ext.trans ?_ (by assumption)))⟩
  · obtain ⟨HA, HB⟩ : Hid (Z.okPt a = true) ∧ Hid (Z.okPt b = true) := (Z.pts2_iff a b).1 hp
    cases hx : Z.place x
    · have HE : Hid (Z.HeightAt a b x = (0, 0, 2)) := Z.hide (by simp [Z.HeightAt, hp, hx])
      go_enter Try.func22, Try.ntmps22
      go_wp2_with (first | (go_at_call 35; refine K.call (by with_reducible rfl) (by with_reducible rfl) (arePoints_2 a b _ _ (by go_simp) (by go_simp) (by go_simp) (by go_simp) (by go_simp)) ?_; rintro e w0 ⟨rfl, hw0⟩; obtain ⟨hcw0, hfw0⟩ := hw0.facts) | (go_at_call 44; refine K.call (by with_reducible rfl) (by with_reducible rfl) (isPlace_any _ _) ?_; rintro e w' ⟨rfl, rfl⟩))
      go_ret3
      exact ⟨by rw [HE.out]; rfl, (by repeat' (first | with_reducible exact K.Ext.refl _ | with_reducible assumption | with_reducible refine K.Ext.drew ?_ | with_reducible refine K.Ext.alloc ?_ _ | with_reducible refine K.Ext.setCell ?_ ?_ _ | with_reducible refine K.Ext.trans ?_ (by with_reducible assumption) | (dsimp only; omega) | omega | exact K.Ext.refl _ | assumption | apply K.Ext.drew | refine K.Ext.alloc ?_ _ | refine K.Ext.setCell ?_ ?_ _ | (simp; done) | (simp; omega) | refine K.Ext.trans ?_ (by assumption)))⟩
    · by_cases hq : a.1 = b.1
      · have HE : Hid (Z.HeightAt a b x = (0, 0, 5)) := Z.hide (by simp [Z.HeightAt, hp, hx, hq])
        have hq' : (a.1 == b.1) = true := by simp [hq]
        have HQ := Z.hide hq
        clear hq
        go_enter Try.func22, Try.ntmps22
        go_wp2_with (first | (go_at_call 35; refine K.call (by with_reducible rfl) (by with_reducible rfl) (arePoints_2 a b _ _ (by go_simp) (by go_simp) (by go_simp) (by go_simp) (by go_simp)) ?_; rintro e w0 ⟨rfl, hw0⟩; obtain ⟨hcw0, hfw0⟩ := hw0.facts) | (go_at_call 44; refine K.call (by with_reducible rfl) (by with_reducible rfl) (isPlace_any _ _) ?_; rintro e w' ⟨rfl, rfl⟩))
        go_ret3
        exact ⟨by rw [HE.out]; rfl, (by repeat' (first | with_reducible exact K.Ext.refl _ | with_reducible assumption | with_reducible refine K.Ext.drew ?_ | with_reducible refine K.Ext.alloc ?_ _ | with_reducible refine K.Ext.setCell ?_ ?_ _ | with_reducible refine K.Ext.trans ?_ (by with_reducible assumption) | (dsimp only; omega) | omega | exact K.Ext.refl _ | assumption | apply K.Ext.drew | refine K.Ext.alloc ?_ _ | refine K.Ext.setCell ?_ ?_ _ | (simp; done) | (simp; omega) | refine K.Ext.trans ?_ (by assumption)))⟩
      · have HE : Hid (Z.HeightAt a b x = (a.2 + Z.fl ((b.2 - a.2) * (x - a.1)) (b.1 - a.1), a.2 + Z.cl ((b.2 - a.2) * (x - a.1)) (b.1 - a.1), 0)) := Z.hide (by simp [Z.HeightAt, hp, hx, hq])
        have hq' : (a.1 == b.1) = false := by simp [hq]
        have hn : b.1 - a.1 ≠ 0 := by omega
        obtain ⟨⟨a1, a2⟩, a3, a4⟩ := (Z.okPt_iff a).1 HA.out
        obtain ⟨⟨b1, b2⟩, b3, b4⟩ := (Z.okPt_iff b).1 HB.out
        obtain ⟨x1, x2⟩ := (Z.place_iff x).1 hx
        obtain ⟨m1, m2⟩ := Z.mul_bd (b.2 - a.2) (x - a.1) 200000 200000 (by omega) (by omega) (by omega) (by omega)
        obtain ⟨f1, f2⟩ := Z.fl_bd _ (b.1 - a.1) _ hn m1 m2
        obtain ⟨f3, f4⟩ := Z.cl_bd _ (b.1 - a.1) _ hn m1 m2
        have HQ := Z.hide hn
        clear hq hn
        go_enter Try.func22, Try.ntmps22
        go_wp2_with (first | (go_at_call 35; refine K.call (by with_reducible rfl) (by with_reducible rfl) (arePoints_2 a b _ _ (by go_simp) (by go_simp) (by go_simp) (by go_simp) (by go_simp)) ?_; rintro e w0 ⟨rfl, hw0⟩; obtain ⟨hcw0, hfw0⟩ := hw0.facts) | (go_at_call 44; refine K.call (by with_reducible rfl) (by with_reducible rfl) (isPlace_any _ _) ?_; rintro e w' ⟨rfl, rfl⟩))
        have c_w0_0_0 : w0.cell? ⟨w.heap.size, 0, none⟩ = some (.int .i64 (a.1)) := hw0.cell_of (by go_simp); have f_w0_0_0 : w0.frozen? ⟨w.heap.size, 0, none⟩ = false := hw0.thaw_of (by go_simp) (by go_simp); have c_w0_0_1 : w0.cell? ⟨w.heap.size, 1, none⟩ = some (.int .i64 (a.2)) := hw0.cell_of (by go_simp); have f_w0_0_1 : w0.frozen? ⟨w.heap.size, 1, none⟩ = false := hw0.thaw_of (by go_simp) (by go_simp); have c_w0_1_0 : w0.cell? ⟨w.heap.size + 1, 0, none⟩ = some (.int .i64 (b.1)) := hw0.cell_of (by go_simp); have f_w0_1_0 : w0.frozen? ⟨w.heap.size + 1, 0, none⟩ = false := hw0.thaw_of (by go_simp) (by go_simp); have c_w0_1_1 : w0.cell? ⟨w.heap.size + 1, 1, none⟩ = some (.int .i64 (b.2)) := hw0.cell_of (by go_simp); have f_w0_1_1 : w0.frozen? ⟨w.heap.size + 1, 1, none⟩ = false := hw0.thaw_of (by go_simp) (by go_simp)
        refine K.wp_region_x 17 [0, 1, 0, 1, 0, 0, 0, 1, 0, 0, 0, 1, 0, 1, 0, 0, 0] [] (by kernel_rfl) (by kernel_rfl) ?_
        simp only [List.take_succ_cons, List.take_zero, List.drop_succ_cons, List.drop_zero]
        apply K.x_pure
        · rfl
        · rfl
        · intro w'; go_simp; first | done | exact K.vint (IntWalk.i64_in _ (by omega)) | rfl | exact ⟨rfl, rfl⟩
        simp only [Act.put, List.setIfInBounds_toArray, List.set]
        apply K.x_held
        · rfl
        · rfl
        · intro w' hx; have hc := hx.all.1.1; have hf := hx.all.1.2; have hc' := hx.all.2.1; have hf' := hx.all.2.2; go_simp; first | done | rfl | exact ⟨rfl, rfl⟩
        simp only [Act.put, List.setIfInBounds_toArray, List.set]
        apply K.x_pure
        · rfl
        · rfl
        · intro w'; go_simp; first | done | exact K.vint (IntWalk.i64_in _ (by omega)) | rfl | exact ⟨rfl, rfl⟩
        simp only [Act.put, List.setIfInBounds_toArray, List.set]
        apply K.x_held
        · rfl
        · rfl
        · intro w' hx; have hc := hx.all.1.1; have hf := hx.all.1.2; have hc' := hx.all.2.1; have hf' := hx.all.2.2; go_simp; first | done | rfl | exact ⟨rfl, rfl⟩
        simp only [Act.put, List.setIfInBounds_toArray, List.set]
        iterate 3
          apply K.x_pure
          · rfl
          · rfl
          · intro w'; go_simp; first | done | exact K.vint (IntWalk.i64_in _ (by omega)) | rfl | exact ⟨rfl, rfl⟩
          simp only [Act.put, List.setIfInBounds_toArray, List.set]
        apply K.x_held
        · rfl
        · rfl
        · intro w' hx; have hc := hx.all.1.1; have hf := hx.all.1.2; have hc' := hx.all.2.1; have hf' := hx.all.2.2; go_simp; first | done | rfl | exact ⟨rfl, rfl⟩
        simp only [Act.put, List.setIfInBounds_toArray, List.set]
        iterate 3
          apply K.x_pure
          · rfl
          · rfl
          · intro w'; go_simp; first | done | exact K.vint (IntWalk.i64_in _ (by omega)) | rfl | exact ⟨rfl, rfl⟩
          simp only [Act.put, List.setIfInBounds_toArray, List.set]
        apply K.x_held
        · rfl
        · rfl
        · intro w' hx; have hc := hx.all.1.1; have hf := hx.all.1.2; have hc' := hx.all.2.1; have hf' := hx.all.2.2; go_simp; first | done | rfl | exact ⟨rfl, rfl⟩
        simp only [Act.put, List.setIfInBounds_toArray, List.set]
        apply K.x_pure
        · rfl
        · rfl
        · intro w'; go_simp; first | done | exact K.vint (IntWalk.i64_in _ (by omega)) | rfl | exact ⟨rfl, rfl⟩
        simp only [Act.put, List.setIfInBounds_toArray, List.set]
        apply K.x_held
        · rfl
        · rfl
        · intro w' hx; have hc := hx.all.1.1; have hf := hx.all.1.2; have hc' := hx.all.2.1; have hf' := hx.all.2.2; go_simp; first | done | rfl | exact ⟨rfl, rfl⟩
        simp only [Act.put, List.setIfInBounds_toArray, List.set]
        iterate 3
          apply K.x_pure
          · rfl
          · rfl
          · intro w'; go_simp; first | done | exact K.vint (IntWalk.i64_in _ (by omega)) | rfl | exact ⟨rfl, rfl⟩
          simp only [Act.put, List.setIfInBounds_toArray, List.set]
        apply K.x_done
        intro w1 h_x
        have hx1 := K.Ext.id h_x
        clear h_x
        obtain ⟨⟨hcw1, hfw1⟩, hc'w1, hf'w1⟩ := hx1.all
        refine wpList_nil ?_
        refine NoPanic.normal ?_
        have c_w1_0_0 : w1.cell? ⟨w.heap.size, 0, none⟩ = some (.int .i64 (a.1)) := hx1.cell_of (by go_simp); have f_w1_0_0 : w1.frozen? ⟨w.heap.size, 0, none⟩ = false := hx1.thaw_of (by go_simp) (by go_simp); have c_w1_0_1 : w1.cell? ⟨w.heap.size, 1, none⟩ = some (.int .i64 (a.2)) := hx1.cell_of (by go_simp); have f_w1_0_1 : w1.frozen? ⟨w.heap.size, 1, none⟩ = false := hx1.thaw_of (by go_simp) (by go_simp); have c_w1_1_0 : w1.cell? ⟨w.heap.size + 1, 0, none⟩ = some (.int .i64 (b.1)) := hx1.cell_of (by go_simp); have f_w1_1_0 : w1.frozen? ⟨w.heap.size + 1, 0, none⟩ = false := hx1.thaw_of (by go_simp) (by go_simp); have c_w1_1_1 : w1.cell? ⟨w.heap.size + 1, 1, none⟩ = some (.int .i64 (b.2)) := hx1.cell_of (by go_simp); have f_w1_1_1 : w1.frozen? ⟨w.heap.size + 1, 1, none⟩ = false := hx1.thaw_of (by go_simp) (by go_simp)
        go_wp2_with fail
        refine K.wp_region_x 15 [0, 1, 0, 0, 2, 0, 0, 1, 0, 0, 2, 0, 0, 0, 0] [K.SP.any, K.SP.any, K.SP.any, K.SP.any, K.SP.is (.int .i64 (Z.fl ((b.2 - a.2) * (x - a.1)) (b.1 - a.1))), K.SP.any, K.SP.any, K.SP.any, K.SP.any, K.SP.any, K.SP.is (.int .i64 (Z.cl ((b.2 - a.2) * (x - a.1)) (b.1 - a.1)))] (by kernel_rfl) (by kernel_rfl) ?_
        simp only [List.take_succ_cons, List.take_zero, List.drop_succ_cons, List.drop_zero]
        apply K.x_pure
        · rfl
        · rfl
        · intro w'; go_simp; first | done | exact K.vint (IntWalk.i64_in _ (by omega)) | rfl | exact ⟨rfl, rfl⟩
        simp only [Act.put, List.setIfInBounds_toArray, List.set]
        apply K.x_held
        · rfl
        · rfl
        · intro w' hx; have hc := hx.all.1.1; have hf := hx.all.1.2; have hc' := hx.all.2.1; have hf' := hx.all.2.2; go_simp; first | done | rfl | exact ⟨rfl, rfl⟩
        simp only [Act.put, List.setIfInBounds_toArray, List.set]
        iterate 2
          apply K.x_pure
          · rfl
          · rfl
          · intro w'; go_simp; first | done | exact K.vint (IntWalk.i64_in _ (by omega)) | rfl | exact ⟨rfl, rfl⟩
          simp only [Act.put, List.setIfInBounds_toArray, List.set]
        apply K.x_call_is
        · rfl
        · rfl
        · rfl
        · intro w'; go_simp; first | done | rfl | exact ⟨rfl, rfl⟩
        · intro w' hx hp; have hc := hx.all.1.1; have hf := hx.all.1.2; have hc' := hx.all.2.1; have hf' := hx.all.2.2; exact K.same_ext (down_any _ _ _ HQ.out (by omega) (by omega))
        intro w_4_ hx_4_
        simp only [Act.put, List.setIfInBounds_toArray, List.set]
        iterate 2
          apply K.x_pure
          · rfl
          · rfl
          · intro w'; go_simp; first | done | exact K.vint (IntWalk.i64_in _ (by omega)) | rfl | exact ⟨rfl, rfl⟩
          simp only [Act.put, List.setIfInBounds_toArray, List.set]
        apply K.x_held
        · rfl
        · rfl
        · intro w' hx; have hc := hx.all.1.1; have hf := hx.all.1.2; have hc' := hx.all.2.1; have hf' := hx.all.2.2; go_simp; first | done | rfl | exact ⟨rfl, rfl⟩
        simp only [Act.put, List.setIfInBounds_toArray, List.set]
        iterate 2
          apply K.x_pure
          · rfl
          · rfl
          · intro w'; go_simp; first | done | exact K.vint (IntWalk.i64_in _ (by omega)) | rfl | exact ⟨rfl, rfl⟩
          simp only [Act.put, List.setIfInBounds_toArray, List.set]
        apply K.x_call_is
        · rfl
        · rfl
        · rfl
        · intro w'; go_simp; first | done | rfl | exact ⟨rfl, rfl⟩
        · intro w' hx hp; have hc := hx.all.1.1; have hf := hx.all.1.2; have hc' := hx.all.2.1; have hf' := hx.all.2.2; exact K.same_ext (up_any _ _ _ HQ.out (by omega) (by omega))
        intro w_10_ hx_10_
        simp only [Act.put, List.setIfInBounds_toArray, List.set]
        iterate 4
          apply K.x_pure
          · rfl
          · rfl
          · intro w'; go_simp; first | done | exact K.vint (IntWalk.i64_in _ (by omega)) | rfl | exact ⟨rfl, rfl⟩
          simp only [Act.put, List.setIfInBounds_toArray, List.set]
        apply K.x_done
        intro w2 h_x
        have hx2 := hx_4_.trans (hx_10_.trans h_x)
        clear h_x hx_4_ hx_10_
        obtain ⟨⟨hcw2, hfw2⟩, hc'w2, hf'w2⟩ := hx2.all
        refine wpList_nil ?_
        refine NoPanic.normal ?_
        go_wp2_with fail
        go_ret3
        exact ⟨by rw [HE.out]; rfl, (by repeat' (first | with_reducible exact K.Ext.refl _ | with_reducible assumption | with_reducible refine K.Ext.drew ?_ | with_reducible refine K.Ext.alloc ?_ _ | with_reducible refine K.Ext.setCell ?_ ?_ _ | with_reducible refine K.Ext.trans ?_ (by with_reducible assumption) | (dsimp only; omega) | omega | exact K.Ext.refl _ | assumption | apply K.Ext.drew | refine K.Ext.alloc ?_ _ | refine K.Ext.setCell ?_ ?_ _ | (simp; done) | (simp; omega) | refine K.Ext.trans ?_ (by assumption)))⟩
end Go.Proofs.Ytgepjmfjeidbaaa
