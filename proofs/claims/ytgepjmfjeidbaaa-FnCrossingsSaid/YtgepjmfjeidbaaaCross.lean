/-
  POINTS: the crossing of two lines, both sides.
-/
import Derived.Test.YtgepjmfjeidbaaaPts2
import Derived.Test.YtgepjmfjeidbaaaZCross
set_option linter.unusedVariables false
namespace Go.Proofs.Ytgepjmfjeidbaaa
open Go.RowKit

theorem l22Scaled_any (a d n m : Int) (w : World) (hm : 0 < m) (h1 : -100000 ≤ a) (h2 : a ≤ 100000) (h3 : -200000 ≤ d) (h4 : d ≤ 200000) (h5 : -80000000000 ≤ n) (h6 : n ≤ 80000000000) (h7 : m ≤ 80000000000) :
    Calls Try.prog 50 #[.int .i64 a, .int .i64 d, .int .i64 n, .int .i64 m] w fun e w' => e = .returned (.int .i64 (a + Z.nr (d * n) m)) ∧ w = w' := by
  obtain ⟨q1, q2⟩ := Z.fl_bd n m 80000000000 (by omega) h5 h6
  have r1 := Int.emod_nonneg n (b := m) (by omega)
  have r2 := Int.emod_lt_of_pos n hm
  obtain ⟨m1, m2⟩ := Z.mul_bd d (Z.fl n m) 200000 80000000001 (by omega) (by omega) (by omega) (by omega)
  obtain ⟨m3, m4⟩ := Z.mul_bd d (n % m) 200000 80000000000 (by omega) (by omega) (by omega) (by omega)
  obtain ⟨n1, n2⟩ := Z.nr_bd (d * (n % m)) m 16000000000000000 hm (by omega) (by omega) (by omega)
  have HE := Z.hide (Z.scaled_eq a d n m hm)
  go_enter Try.func50, Try.ntmps50
  go_wp2_with fail
  refine Calls.mono (l01Floor_any _ _ _ (by omega) (by omega) (by omega) (by omega) (by omega)) ?_
  rintro e w' ⟨rfl, rfl⟩
  go_wp2_with fail
  refine Calls.mono (l01Mod_any _ _ _ hm (by omega) (by omega) (by omega)) ?_
  rintro e w' ⟨rfl, rfl⟩
  go_wp2_with fail
  refine Calls.mono (l01Nearest_any _ _ _ hm (by omega) (by omega) (by omega)) ?_
  rintro e w' ⟨rfl, rfl⟩
  go_wp2_with fail
  go_ret
  exact ⟨K.ri HE.out, rfl⟩
set_option maxHeartbeats 1600000 in
theorem impl_CrossingOf (a b c d : Z.Pt) (w : World) :
    Calls Try.prog 25 #[.agg #[.int .i64 a.1, .int .i64 a.2], .agg #[.int .i64 b.1, .int .i64 b.2], .agg #[.int .i64 c.1, .int .i64 c.2], .agg #[.int .i64 d.1, .int .i64 d.2]] w fun e w' => e = .returned (.tuple #[.agg #[.int .i64 (Z.CrossingOf a b c d).1.1, .int .i64 (Z.CrossingOf a b c d).1.2], .int .i64 (Z.CrossingOf a b c d).2]) ∧ K.Ext w w' := by
  cases hp : Z.pts [a, b, c, d]
  · have HE : Hid (Z.CrossingOf a b c d = ((0, 0), 2)) := Z.hide (by simp [Z.CrossingOf, hp])
    go_enter Try.func25, Try.ntmps25
    go_wp2_with (go_at_call 35; refine K.call (by with_reducible rfl) (by with_reducible rfl) (arePoints_4 a b c d _ _ (by go_simp) (by go_simp) (by go_simp) (by go_simp) (by go_simp) (by go_simp) (by go_simp) (by go_simp) (by go_simp)) ?_; rintro e w0 ⟨rfl, hw0⟩; obtain ⟨hcw0, hfw0⟩ := hw0.facts)
    exact bodyPost_ret (v := .tuple #[.agg #[.int .i64 0, .int .i64 0], .int .i64 2]) (by unfold results; rw [Try.results25]; go_simp) rfl ⟨by rw [HE.out], (by repeat' (first | with_reducible exact K.Ext.refl _ | with_reducible assumption | with_reducible refine K.Ext.drew ?_ | with_reducible refine K.Ext.alloc ?_ _ | with_reducible refine K.Ext.setCell ?_ ?_ _ | with_reducible refine K.Ext.trans ?_ (by with_reducible assumption) | (dsimp only; omega) | omega | exact K.Ext.refl _ | assumption | apply K.Ext.drew | refine K.Ext.alloc ?_ _ | refine K.Ext.setCell ?_ ?_ _ | (simp; done) | (simp; omega) | refine K.Ext.trans ?_ (by assumption)))⟩
  · obtain ⟨HA, HB, HC, HD⟩ : Hid (Z.okPt a = true) ∧ Hid (Z.okPt b = true) ∧ Hid (Z.okPt c = true) ∧ Hid (Z.okPt d = true) := (Z.pts4_iff a b c d).1 hp
    obtain ⟨⟨a1, a2⟩, a3, a4⟩ := (Z.okPt_iff a).1 HA.out
    obtain ⟨⟨b1, b2⟩, b3, b4⟩ := (Z.okPt_iff b).1 HB.out
    obtain ⟨⟨c1, c2⟩, c3, c4⟩ := (Z.okPt_iff c).1 HC.out
    obtain ⟨⟨d1, d2⟩, d3, d4⟩ := (Z.okPt_iff d).1 HD.out
    obtain ⟨M1, M2⟩ := Z.cross_bd (b.1 - a.1) (d.2 - c.2) (b.2 - a.2) (d.1 - c.1) (by omega) (by omega) (by omega) (by omega)
    obtain ⟨N1, N2⟩ := Z.cross_bd (c.1 - a.1) (d.2 - c.2) (c.2 - a.2) (d.1 - c.1) (by omega) (by omega) (by omega) (by omega)
    obtain ⟨p01, p02⟩ := Z.mul_bd (b.1 - a.1) (d.2 - c.2) 200000 200000 (by omega) (by omega) (by omega) (by omega)
    obtain ⟨p11, p12⟩ := Z.mul_bd (b.2 - a.2) (d.1 - c.1) 200000 200000 (by omega) (by omega) (by omega) (by omega)
    obtain ⟨p21, p22⟩ := Z.mul_bd (c.1 - a.1) (d.2 - c.2) 200000 200000 (by omega) (by omega) (by omega) (by omega)
    obtain ⟨p31, p32⟩ := Z.mul_bd (c.2 - a.2) (d.1 - c.1) 200000 200000 (by omega) (by omega) (by omega) (by omega)
    have HM := Z.hide (show Z.crossM a b c d = (b.1 - a.1) * (d.2 - c.2) - (b.2 - a.2) * (d.1 - c.1) from rfl)
    by_cases hz : Z.crossM a b c d = 0
    · have HE : Hid (Z.CrossingOf a b c d = ((0, 0), 5)) := Z.hide (by simp [Z.CrossingOf, hp, hz])
      have hz' : ((b.1 - a.1) * (d.2 - c.2) - (b.2 - a.2) * (d.1 - c.1) == 0) = true := by rw [HM.out] at hz; simp [hz]
      clear hz
      go_enter Try.func25, Try.ntmps25
      go_wp2_with (go_at_call 35; refine K.call (by with_reducible rfl) (by with_reducible rfl) (arePoints_4 a b c d _ _ (by go_simp) (by go_simp) (by go_simp) (by go_simp) (by go_simp) (by go_simp) (by go_simp) (by go_simp) (by go_simp)) ?_; rintro e w0 ⟨rfl, hw0⟩; obtain ⟨hcw0, hfw0⟩ := hw0.facts)
      exact bodyPost_ret (v := .tuple #[.agg #[.int .i64 0, .int .i64 0], .int .i64 5]) (by unfold results; rw [Try.results25]; go_simp) rfl ⟨by rw [HE.out], (by repeat' (first | with_reducible exact K.Ext.refl _ | with_reducible assumption | with_reducible refine K.Ext.drew ?_ | with_reducible refine K.Ext.alloc ?_ _ | with_reducible refine K.Ext.setCell ?_ ?_ _ | with_reducible refine K.Ext.trans ?_ (by with_reducible assumption) | (dsimp only; omega) | omega | exact K.Ext.refl _ | assumption | apply K.Ext.drew | refine K.Ext.alloc ?_ _ | refine K.Ext.setCell ?_ ?_ _ | (simp; done) | (simp; omega) | refine K.Ext.trans ?_ (by assumption)))⟩
    · have hz' : ((b.1 - a.1) * (d.2 - c.2) - (b.2 - a.2) * (d.1 - c.1) == 0) = false := by rw [HM.out] at hz; simp [hz]
      have HZ : Hid ((b.1 - a.1) * (d.2 - c.2) - (b.2 - a.2) * (d.1 - c.1) ≠ 0) := Z.hide (by rw [HM.out] at hz; exact hz)
      obtain ⟨x1, x2⟩ := Z.mul_bd (b.1 - a.1) ((c.1 - a.1) * (d.2 - c.2) - (c.2 - a.2) * (d.1 - c.1)) 200000 80000000000 (by omega) (by omega) (by omega) (by omega)
      obtain ⟨y1, y2⟩ := Z.mul_bd (b.2 - a.2) ((c.1 - a.1) * (d.2 - c.2) - (c.2 - a.2) * (d.1 - c.1)) 200000 80000000000 (by omega) (by omega) (by omega) (by omega)
      obtain ⟨nx, hnx⟩ : ∃ x, x = Z.nearAny ((b.1 - a.1) * ((c.1 - a.1) * (d.2 - c.2) - (c.2 - a.2) * (d.1 - c.1))) ((b.1 - a.1) * (d.2 - c.2) - (b.2 - a.2) * (d.1 - c.1)) := ⟨_, rfl⟩
      obtain ⟨ny, hny⟩ : ∃ x, x = Z.nearAny ((b.2 - a.2) * ((c.1 - a.1) * (d.2 - c.2) - (c.2 - a.2) * (d.1 - c.1))) ((b.1 - a.1) * (d.2 - c.2) - (b.2 - a.2) * (d.1 - c.1)) := ⟨_, rfl⟩
      obtain ⟨u1, u2⟩ : -(3 * 16000000000000000) - 1 ≤ nx ∧ nx ≤ 3 * 16000000000000000 + 1 := hnx ▸ Z.nearAny_bd _ _ 16000000000000000 HZ.out (by omega) (by omega) (by omega) (by omega)
      obtain ⟨v1, v2⟩ : -(3 * 16000000000000000) - 1 ≤ ny ∧ ny ≤ 3 * 16000000000000000 + 1 := hny ▸ Z.nearAny_bd _ _ 16000000000000000 HZ.out (by omega) (by omega) (by omega) (by omega)
      have HO : Hid (Z.CrossingOf a b c d = if !Z.okPt (a.1 + nx, a.2 + ny) then ((0, 0), 3) else ((a.1 + nx, a.2 + ny), 0)) := Z.hide (by rw [hnx, hny]; simp [Z.CrossingOf, Z.crossP, Z.crossN, Z.crossM, hp]; intro h; exact absurd h (by simpa [Z.crossM] using hz))
      have Hnx : Hid (nx = Z.nearAny ((b.1 - a.1) * ((c.1 - a.1) * (d.2 - c.2) - (c.2 - a.2) * (d.1 - c.1))) ((b.1 - a.1) * (d.2 - c.2) - (b.2 - a.2) * (d.1 - c.1))) := Z.hide hnx
      have Hny : Hid (ny = Z.nearAny ((b.2 - a.2) * ((c.1 - a.1) * (d.2 - c.2) - (c.2 - a.2) * (d.1 - c.1))) ((b.1 - a.1) * (d.2 - c.2) - (b.2 - a.2) * (d.1 - c.1))) := Z.hide hny
      clear hz hnx hny
      rcases (show Hid (Z.okPt (a.1 + nx, a.2 + ny) = false) ∨ Hid (Z.okPt (a.1 + nx, a.2 + ny) = true) from Z.bool_hid _) with ho | ho
      · have hk : Z.pts [(a.1 + nx, a.2 + ny)] = false := by rw [Z.pts1]; exact ho.out
        have HE : Hid (Z.CrossingOf a b c d = ((0, 0), 3)) := Z.hide (by rw [HO.out, ho.out]; rfl)
        go_enter Try.func25, Try.ntmps25
        go_wp2_with (go_at_call 35; refine K.call (by with_reducible rfl) (by with_reducible rfl) (arePoints_4 a b c d _ _ (by go_simp) (by go_simp) (by go_simp) (by go_simp) (by go_simp) (by go_simp) (by go_simp) (by go_simp) (by go_simp)) ?_; rintro e w0 ⟨rfl, hw0⟩; obtain ⟨hcw0, hfw0⟩ := hw0.facts)
        have c_w0_0_0 : w0.cell? ⟨w.heap.size, 0, none⟩ = some (.int .i64 (a.1)) := hw0.cell_of (by go_simp); have f_w0_0_0 : w0.frozen? ⟨w.heap.size, 0, none⟩ = false := hw0.thaw_of (by go_simp) (by go_simp); have c_w0_0_1 : w0.cell? ⟨w.heap.size, 1, none⟩ = some (.int .i64 (a.2)) := hw0.cell_of (by go_simp); have f_w0_0_1 : w0.frozen? ⟨w.heap.size, 1, none⟩ = false := hw0.thaw_of (by go_simp) (by go_simp); have c_w0_1_0 : w0.cell? ⟨w.heap.size + 1, 0, none⟩ = some (.int .i64 (b.1)) := hw0.cell_of (by go_simp); have f_w0_1_0 : w0.frozen? ⟨w.heap.size + 1, 0, none⟩ = false := hw0.thaw_of (by go_simp) (by go_simp); have c_w0_1_1 : w0.cell? ⟨w.heap.size + 1, 1, none⟩ = some (.int .i64 (b.2)) := hw0.cell_of (by go_simp); have f_w0_1_1 : w0.frozen? ⟨w.heap.size + 1, 1, none⟩ = false := hw0.thaw_of (by go_simp) (by go_simp); have c_w0_2_0 : w0.cell? ⟨w.heap.size + 1 + 1, 0, none⟩ = some (.int .i64 (c.1)) := hw0.cell_of (by go_simp); have f_w0_2_0 : w0.frozen? ⟨w.heap.size + 1 + 1, 0, none⟩ = false := hw0.thaw_of (by go_simp) (by go_simp); have c_w0_2_1 : w0.cell? ⟨w.heap.size + 1 + 1, 1, none⟩ = some (.int .i64 (c.2)) := hw0.cell_of (by go_simp); have f_w0_2_1 : w0.frozen? ⟨w.heap.size + 1 + 1, 1, none⟩ = false := hw0.thaw_of (by go_simp) (by go_simp); have c_w0_3_0 : w0.cell? ⟨w.heap.size + 1 + 1 + 1, 0, none⟩ = some (.int .i64 (d.1)) := hw0.cell_of (by go_simp); have f_w0_3_0 : w0.frozen? ⟨w.heap.size + 1 + 1 + 1, 0, none⟩ = false := hw0.thaw_of (by go_simp) (by go_simp); have c_w0_3_1 : w0.cell? ⟨w.heap.size + 1 + 1 + 1, 1, none⟩ = some (.int .i64 (d.2)) := hw0.cell_of (by go_simp); have f_w0_3_1 : w0.frozen? ⟨w.heap.size + 1 + 1 + 1, 1, none⟩ = false := hw0.thaw_of (by go_simp) (by go_simp); have c_w0_4_0 : w0.cell? ⟨w.heap.size + 1 + 1 + 1 + 1, 0, none⟩ = some (.int .i64 (0)) := hw0.cell_of (by go_simp); have f_w0_4_0 : w0.frozen? ⟨w.heap.size + 1 + 1 + 1 + 1, 0, none⟩ = false := hw0.thaw_of (by go_simp) (by go_simp); have c_w0_4_1 : w0.cell? ⟨w.heap.size + 1 + 1 + 1 + 1, 1, none⟩ = some (.int .i64 (0)) := hw0.cell_of (by go_simp); have f_w0_4_1 : w0.frozen? ⟨w.heap.size + 1 + 1 + 1 + 1, 1, none⟩ = false := hw0.thaw_of (by go_simp) (by go_simp)
        refine K.wp_region_x 26 [0, 1, 0, 1, 0, 1, 0, 0, 0, 0, 2, 0, 0, 1, 0, 1, 0, 1, 0, 0, 0, 0, 2, 0, 0, 2] [K.SP.any, K.SP.any, K.SP.any, K.SP.any, K.SP.any, K.SP.any, K.SP.any, K.SP.any, K.SP.any, K.SP.any, K.SP.is (.int .i64 nx), K.SP.any, K.SP.any, K.SP.any, K.SP.any, K.SP.any, K.SP.any, K.SP.any, K.SP.any, K.SP.any, K.SP.any, K.SP.any, K.SP.is (.int .i64 ny), K.SP.any, K.SP.any, K.SP.new (w0.heap.size) (.cells #[.int .i64 0, .int .i64 0] 28)] (by kernel_rfl) (by kernel_rfl) ?_
        simp only [List.take_succ_cons, List.take_zero, List.drop_succ_cons, List.drop_zero]
        apply K.x_pure
        · rfl
        · rfl
        · intro w'; go_simp; first | done | exact K.vint (IntWalk.i64_in _ (by omega)) | rfl | exact ⟨rfl, rfl⟩
        simp only [Act.put, List.setIfInBounds_toArray, List.set]
        apply K.x_held
        · rfl
        · rfl
        · intro w' hx; have hc := hx.all.1.1; have hf := hx.all.1.2; have hc' := hx.all.2.1; have hf' := hx.all.2.2; go_simp; first | done | rfl | exact ⟨rfl, rfl⟩
        simp only [Act.put, List.setIfInBounds_toArray, List.set]
        apply K.x_pure
        · rfl
        · rfl
        · intro w'; go_simp; first | done | exact K.vint (IntWalk.i64_in _ (by omega)) | rfl | exact ⟨rfl, rfl⟩
        simp only [Act.put, List.setIfInBounds_toArray, List.set]
        apply K.x_held
        · rfl
        · rfl
        · intro w' hx; have hc := hx.all.1.1; have hf := hx.all.1.2; have hc' := hx.all.2.1; have hf' := hx.all.2.2; go_simp; first | done | rfl | exact ⟨rfl, rfl⟩
        simp only [Act.put, List.setIfInBounds_toArray, List.set]
        apply K.x_pure
        · rfl
        · rfl
        · intro w'; go_simp; first | done | exact K.vint (IntWalk.i64_in _ (by omega)) | rfl | exact ⟨rfl, rfl⟩
        simp only [Act.put, List.setIfInBounds_toArray, List.set]
        apply K.x_held
        · rfl
        · rfl
        · intro w' hx; have hc := hx.all.1.1; have hf := hx.all.1.2; have hc' := hx.all.2.1; have hf' := hx.all.2.2; go_simp; first | done | rfl | exact ⟨rfl, rfl⟩
        simp only [Act.put, List.setIfInBounds_toArray, List.set]
        iterate 4
          apply K.x_pure
          · rfl
          · rfl
          · intro w'; go_simp; first | done | exact K.vint (IntWalk.i64_in _ (by omega)) | rfl | exact ⟨rfl, rfl⟩
          simp only [Act.put, List.setIfInBounds_toArray, List.set]
        apply K.x_call_is
        · rfl
        · rfl
        · rfl
        · intro w'; go_simp; first | done | rfl | exact ⟨rfl, rfl⟩
        · intro w' hx hp; have hc := hx.all.1.1; have hf := hx.all.1.2; have hc' := hx.all.2.1; have hf' := hx.all.2.2; exact (by rw [Hnx.out]; exact K.same_ext (near_any _ _ _ HZ.out (by omega) (by omega) (by omega) (by omega)))
        intro w_10_ hx_10_
        simp only [Act.put, List.setIfInBounds_toArray, List.set]
        iterate 2
          apply K.x_pure
          · rfl
          · rfl
          · intro w'; go_simp; first | done | exact K.vint (IntWalk.i64_in _ (by omega)) | rfl | exact ⟨rfl, rfl⟩
          simp only [Act.put, List.setIfInBounds_toArray, List.set]
        apply K.x_held
        · rfl
        · rfl
        · intro w' hx; have hc := hx.all.1.1; have hf := hx.all.1.2; have hc' := hx.all.2.1; have hf' := hx.all.2.2; go_simp; first | done | rfl | exact ⟨rfl, rfl⟩
        simp only [Act.put, List.setIfInBounds_toArray, List.set]
        apply K.x_pure
        · rfl
        · rfl
        · intro w'; go_simp; first | done | exact K.vint (IntWalk.i64_in _ (by omega)) | rfl | exact ⟨rfl, rfl⟩
        simp only [Act.put, List.setIfInBounds_toArray, List.set]
        apply K.x_held
        · rfl
        · rfl
        · intro w' hx; have hc := hx.all.1.1; have hf := hx.all.1.2; have hc' := hx.all.2.1; have hf' := hx.all.2.2; go_simp; first | done | rfl | exact ⟨rfl, rfl⟩
        simp only [Act.put, List.setIfInBounds_toArray, List.set]
        apply K.x_pure
        · rfl
        · rfl
        · intro w'; go_simp; first | done | exact K.vint (IntWalk.i64_in _ (by omega)) | rfl | exact ⟨rfl, rfl⟩
        simp only [Act.put, List.setIfInBounds_toArray, List.set]
        apply K.x_held
        · rfl
        · rfl
        · intro w' hx; have hc := hx.all.1.1; have hf := hx.all.1.2; have hc' := hx.all.2.1; have hf' := hx.all.2.2; go_simp; first | done | rfl | exact ⟨rfl, rfl⟩
        simp only [Act.put, List.setIfInBounds_toArray, List.set]
        iterate 4
          apply K.x_pure
          · rfl
          · rfl
          · intro w'; go_simp; first | done | exact K.vint (IntWalk.i64_in _ (by omega)) | rfl | exact ⟨rfl, rfl⟩
          simp only [Act.put, List.setIfInBounds_toArray, List.set]
        apply K.x_call_is
        · rfl
        · rfl
        · rfl
        · intro w'; go_simp; first | done | rfl | exact ⟨rfl, rfl⟩
        · intro w' hx hp; have hc := hx.all.1.1; have hf := hx.all.1.2; have hc' := hx.all.2.1; have hf' := hx.all.2.2; exact (by rw [Hny.out]; exact K.same_ext (near_any _ _ _ HZ.out (by omega) (by omega) (by omega) (by omega)))
        intro w_22_ hx_22_
        simp only [Act.put, List.setIfInBounds_toArray, List.set]
        iterate 2
          apply K.x_pure
          · rfl
          · rfl
          · intro w'; go_simp; first | done | exact K.vint (IntWalk.i64_in _ (by omega)) | rfl | exact ⟨rfl, rfl⟩
          simp only [Act.put, List.setIfInBounds_toArray, List.set]
        apply K.x_new
        · rfl
        · rfl
        · rfl
        · go_simp; first | done | omega
        · intro w'; go_simp; first | done | rfl | exact ⟨rfl, rfl⟩
        intro g7_25 w_25_ hx_25_ hg7_25 hb_25_
        simp only [Act.put, List.setIfInBounds_toArray, List.set]
        apply K.x_done
        intro w1 h_x
        have hx1 := hx_10_.trans (hx_22_.trans (hx_25_.trans h_x))
        have hb7_25 := K.Ext.block (h_x) hb_25_
        have cg7_25_0 : w1.cell? ⟨g7_25, 0, none⟩ = some (.int .i64 0) := K.cell_at hb7_25 rfl
        have fg7_25_0 : w1.frozen? ⟨g7_25, 0, none⟩ = false := K.thaw_at hb7_25
        have cg7_25_1 : w1.cell? ⟨g7_25, 1, none⟩ = some (.int .i64 0) := K.cell_at hb7_25 rfl
        have fg7_25_1 : w1.frozen? ⟨g7_25, 1, none⟩ = false := K.thaw_at hb7_25
        clear h_x hx_10_ hx_22_ hx_25_
        obtain ⟨⟨hcw1, hfw1⟩, hc'w1, hf'w1⟩ := hx1.all
        have c_w1_4_0 : w1.cell? ⟨w.heap.size + 1 + 1 + 1 + 1, 0, none⟩ = some (.int .i64 (0)) := hx1.cell_of (by go_simp); have f_w1_4_0 : w1.frozen? ⟨w.heap.size + 1 + 1 + 1 + 1, 0, none⟩ = false := hx1.thaw_of (by go_simp) (by go_simp); have c_w1_4_1 : w1.cell? ⟨w.heap.size + 1 + 1 + 1 + 1, 1, none⟩ = some (.int .i64 (0)) := hx1.cell_of (by go_simp); have f_w1_4_1 : w1.frozen? ⟨w.heap.size + 1 + 1 + 1 + 1, 1, none⟩ = false := hx1.thaw_of (by go_simp) (by go_simp)
        go_wp2_with fail
        refine NoPanic.normal ?_
        have n9 : ¬ g7_25 = w.heap.size + 1 + 1 + 1 + 1 := by have := hw0.size; simp at this; omega
        have z1 : g7_25 < w1.heap.size := World.block_lt_of_cell? w1 _ cg7_25_0
        have s0 : w.heap.size ≤ g7_25 := by have := hw0.size; simp at this; omega
        have z2 : w.heap.size + 1 + 1 + 1 + 1 < w1.heap.size := World.block_lt_of_cell? w1 _ c_w1_4_0
        go_wp2_with ((go_at_call 35; refine K.call (by with_reducible rfl) (by with_reducible rfl) (arePoints_1 (a.1 + nx, a.2 + ny) _ _ (by go_simp; try omega) (by go_simp) (by go_simp)) ?_; rintro e w2 ⟨rfl, hw2⟩; obtain ⟨hcw2, hfw2⟩ := hw2.facts); have c_w2_4_0 : w2.cell? ⟨w.heap.size + 1 + 1 + 1 + 1, 0, none⟩ = some (.int .i64 (0)) := hw2.cell_of (by go_simp); have f_w2_4_0 : w2.frozen? ⟨w.heap.size + 1 + 1 + 1 + 1, 0, none⟩ = false := hw2.thaw_of (by go_simp) (by go_simp); have c_w2_4_1 : w2.cell? ⟨w.heap.size + 1 + 1 + 1 + 1, 1, none⟩ = some (.int .i64 (0)) := hw2.cell_of (by go_simp); have f_w2_4_1 : w2.frozen? ⟨w.heap.size + 1 + 1 + 1 + 1, 1, none⟩ = false := hw2.thaw_of (by go_simp) (by go_simp); have k_0 : w2.cell? ⟨g7_25, 0, none⟩ = some (.int .i64 (a.1 + nx)) := hw2.cell_of (by go_simp); have k_1 : w2.cell? ⟨g7_25, 1, none⟩ = some (.int .i64 (a.2 + ny)) := hw2.cell_of (by go_simp))
        exact bodyPost_ret (v := .tuple #[.agg #[.int .i64 0, .int .i64 0], .int .i64 3]) (by unfold results; rw [Try.results25]; go_simp) rfl ⟨by rw [HE.out], (by repeat' (first | with_reducible exact K.Ext.refl _ | with_reducible assumption | with_reducible refine K.Ext.drew ?_ | with_reducible refine K.Ext.alloc ?_ _ | with_reducible refine K.Ext.setCell ?_ ?_ _ | with_reducible refine K.Ext.trans ?_ (by with_reducible assumption) | (dsimp only; omega) | omega | exact K.Ext.refl _ | assumption | apply K.Ext.drew | refine K.Ext.alloc ?_ _ | refine K.Ext.setCell ?_ ?_ _ | (simp; done) | (simp; omega) | refine K.Ext.trans ?_ (by assumption)))⟩
      · have hk : Z.pts [(a.1 + nx, a.2 + ny)] = true := by rw [Z.pts1]; exact ho.out
        have HE : Hid (Z.CrossingOf a b c d = ((a.1 + nx, a.2 + ny), 0)) := Z.hide (by rw [HO.out, ho.out]; rfl)
        go_enter Try.func25, Try.ntmps25
        go_wp2_with (go_at_call 35; refine K.call (by with_reducible rfl) (by with_reducible rfl) (arePoints_4 a b c d _ _ (by go_simp) (by go_simp) (by go_simp) (by go_simp) (by go_simp) (by go_simp) (by go_simp) (by go_simp) (by go_simp)) ?_; rintro e w0 ⟨rfl, hw0⟩; obtain ⟨hcw0, hfw0⟩ := hw0.facts)
        have c_w0_0_0 : w0.cell? ⟨w.heap.size, 0, none⟩ = some (.int .i64 (a.1)) := hw0.cell_of (by go_simp); have f_w0_0_0 : w0.frozen? ⟨w.heap.size, 0, none⟩ = false := hw0.thaw_of (by go_simp) (by go_simp); have c_w0_0_1 : w0.cell? ⟨w.heap.size, 1, none⟩ = some (.int .i64 (a.2)) := hw0.cell_of (by go_simp); have f_w0_0_1 : w0.frozen? ⟨w.heap.size, 1, none⟩ = false := hw0.thaw_of (by go_simp) (by go_simp); have c_w0_1_0 : w0.cell? ⟨w.heap.size + 1, 0, none⟩ = some (.int .i64 (b.1)) := hw0.cell_of (by go_simp); have f_w0_1_0 : w0.frozen? ⟨w.heap.size + 1, 0, none⟩ = false := hw0.thaw_of (by go_simp) (by go_simp); have c_w0_1_1 : w0.cell? ⟨w.heap.size + 1, 1, none⟩ = some (.int .i64 (b.2)) := hw0.cell_of (by go_simp); have f_w0_1_1 : w0.frozen? ⟨w.heap.size + 1, 1, none⟩ = false := hw0.thaw_of (by go_simp) (by go_simp); have c_w0_2_0 : w0.cell? ⟨w.heap.size + 1 + 1, 0, none⟩ = some (.int .i64 (c.1)) := hw0.cell_of (by go_simp); have f_w0_2_0 : w0.frozen? ⟨w.heap.size + 1 + 1, 0, none⟩ = false := hw0.thaw_of (by go_simp) (by go_simp); have c_w0_2_1 : w0.cell? ⟨w.heap.size + 1 + 1, 1, none⟩ = some (.int .i64 (c.2)) := hw0.cell_of (by go_simp); have f_w0_2_1 : w0.frozen? ⟨w.heap.size + 1 + 1, 1, none⟩ = false := hw0.thaw_of (by go_simp) (by go_simp); have c_w0_3_0 : w0.cell? ⟨w.heap.size + 1 + 1 + 1, 0, none⟩ = some (.int .i64 (d.1)) := hw0.cell_of (by go_simp); have f_w0_3_0 : w0.frozen? ⟨w.heap.size + 1 + 1 + 1, 0, none⟩ = false := hw0.thaw_of (by go_simp) (by go_simp); have c_w0_3_1 : w0.cell? ⟨w.heap.size + 1 + 1 + 1, 1, none⟩ = some (.int .i64 (d.2)) := hw0.cell_of (by go_simp); have f_w0_3_1 : w0.frozen? ⟨w.heap.size + 1 + 1 + 1, 1, none⟩ = false := hw0.thaw_of (by go_simp) (by go_simp); have c_w0_4_0 : w0.cell? ⟨w.heap.size + 1 + 1 + 1 + 1, 0, none⟩ = some (.int .i64 (0)) := hw0.cell_of (by go_simp); have f_w0_4_0 : w0.frozen? ⟨w.heap.size + 1 + 1 + 1 + 1, 0, none⟩ = false := hw0.thaw_of (by go_simp) (by go_simp); have c_w0_4_1 : w0.cell? ⟨w.heap.size + 1 + 1 + 1 + 1, 1, none⟩ = some (.int .i64 (0)) := hw0.cell_of (by go_simp); have f_w0_4_1 : w0.frozen? ⟨w.heap.size + 1 + 1 + 1 + 1, 1, none⟩ = false := hw0.thaw_of (by go_simp) (by go_simp)
        refine K.wp_region_x 26 [0, 1, 0, 1, 0, 1, 0, 0, 0, 0, 2, 0, 0, 1, 0, 1, 0, 1, 0, 0, 0, 0, 2, 0, 0, 2] [K.SP.any, K.SP.any, K.SP.any, K.SP.any, K.SP.any, K.SP.any, K.SP.any, K.SP.any, K.SP.any, K.SP.any, K.SP.is (.int .i64 nx), K.SP.any, K.SP.any, K.SP.any, K.SP.any, K.SP.any, K.SP.any, K.SP.any, K.SP.any, K.SP.any, K.SP.any, K.SP.any, K.SP.is (.int .i64 ny), K.SP.any, K.SP.any, K.SP.new (w0.heap.size) (.cells #[.int .i64 0, .int .i64 0] 28)] (by kernel_rfl) (by kernel_rfl) ?_
        simp only [List.take_succ_cons, List.take_zero, List.drop_succ_cons, List.drop_zero]
        apply K.x_pure
        · rfl
        · rfl
        · intro w'; go_simp; first | done | exact K.vint (IntWalk.i64_in _ (by omega)) | rfl | exact ⟨rfl, rfl⟩
        simp only [Act.put, List.setIfInBounds_toArray, List.set]
        apply K.x_held
        · rfl
        · rfl
        · intro w' hx; have hc := hx.all.1.1; have hf := hx.all.1.2; have hc' := hx.all.2.1; have hf' := hx.all.2.2; go_simp; first | done | rfl | exact ⟨rfl, rfl⟩
        simp only [Act.put, List.setIfInBounds_toArray, List.set]
        apply K.x_pure
        · rfl
        · rfl
        · intro w'; go_simp; first | done | exact K.vint (IntWalk.i64_in _ (by omega)) | rfl | exact ⟨rfl, rfl⟩
        simp only [Act.put, List.setIfInBounds_toArray, List.set]
        apply K.x_held
        · rfl
        · rfl
        · intro w' hx; have hc := hx.all.1.1; have hf := hx.all.1.2; have hc' := hx.all.2.1; have hf' := hx.all.2.2; go_simp; first | done | rfl | exact ⟨rfl, rfl⟩
        simp only [Act.put, List.setIfInBounds_toArray, List.set]
        apply K.x_pure
        · rfl
        · rfl
        · intro w'; go_simp; first | done | exact K.vint (IntWalk.i64_in _ (by omega)) | rfl | exact ⟨rfl, rfl⟩
        simp only [Act.put, List.setIfInBounds_toArray, List.set]
        apply K.x_held
        · rfl
        · rfl
        · intro w' hx; have hc := hx.all.1.1; have hf := hx.all.1.2; have hc' := hx.all.2.1; have hf' := hx.all.2.2; go_simp; first | done | rfl | exact ⟨rfl, rfl⟩
        simp only [Act.put, List.setIfInBounds_toArray, List.set]
        iterate 4
          apply K.x_pure
          · rfl
          · rfl
          · intro w'; go_simp; first | done | exact K.vint (IntWalk.i64_in _ (by omega)) | rfl | exact ⟨rfl, rfl⟩
          simp only [Act.put, List.setIfInBounds_toArray, List.set]
        apply K.x_call_is
        · rfl
        · rfl
        · rfl
        · intro w'; go_simp; first | done | rfl | exact ⟨rfl, rfl⟩
        · intro w' hx hp; have hc := hx.all.1.1; have hf := hx.all.1.2; have hc' := hx.all.2.1; have hf' := hx.all.2.2; exact (by rw [Hnx.out]; exact K.same_ext (near_any _ _ _ HZ.out (by omega) (by omega) (by omega) (by omega)))
        intro w_10_ hx_10_
        simp only [Act.put, List.setIfInBounds_toArray, List.set]
        iterate 2
          apply K.x_pure
          · rfl
          · rfl
          · intro w'; go_simp; first | done | exact K.vint (IntWalk.i64_in _ (by omega)) | rfl | exact ⟨rfl, rfl⟩
          simp only [Act.put, List.setIfInBounds_toArray, List.set]
        apply K.x_held
        · rfl
        · rfl
        · intro w' hx; have hc := hx.all.1.1; have hf := hx.all.1.2; have hc' := hx.all.2.1; have hf' := hx.all.2.2; go_simp; first | done | rfl | exact ⟨rfl, rfl⟩
        simp only [Act.put, List.setIfInBounds_toArray, List.set]
        apply K.x_pure
        · rfl
        · rfl
        · intro w'; go_simp; first | done | exact K.vint (IntWalk.i64_in _ (by omega)) | rfl | exact ⟨rfl, rfl⟩
        simp only [Act.put, List.setIfInBounds_toArray, List.set]
        apply K.x_held
        · rfl
        · rfl
        · intro w' hx; have hc := hx.all.1.1; have hf := hx.all.1.2; have hc' := hx.all.2.1; have hf' := hx.all.2.2; go_simp; first | done | rfl | exact ⟨rfl, rfl⟩
        simp only [Act.put, List.setIfInBounds_toArray, List.set]
        apply K.x_pure
        · rfl
        · rfl
        · intro w'; go_simp; first | done | exact K.vint (IntWalk.i64_in _ (by omega)) | rfl | exact ⟨rfl, rfl⟩
        simp only [Act.put, List.setIfInBounds_toArray, List.set]
        apply K.x_held
        · rfl
        · rfl
        · intro w' hx; have hc := hx.all.1.1; have hf := hx.all.1.2; have hc' := hx.all.2.1; have hf' := hx.all.2.2; go_simp; first | done | rfl | exact ⟨rfl, rfl⟩
        simp only [Act.put, List.setIfInBounds_toArray, List.set]
        iterate 4
          apply K.x_pure
          · rfl
          · rfl
          · intro w'; go_simp; first | done | exact K.vint (IntWalk.i64_in _ (by omega)) | rfl | exact ⟨rfl, rfl⟩
          simp only [Act.put, List.setIfInBounds_toArray, List.set]
        apply K.x_call_is
        · rfl
        · rfl
        · rfl
        · intro w'; go_simp; first | done | rfl | exact ⟨rfl, rfl⟩
        · intro w' hx hp; have hc := hx.all.1.1; have hf := hx.all.1.2; have hc' := hx.all.2.1; have hf' := hx.all.2.2; exact (by rw [Hny.out]; exact K.same_ext (near_any _ _ _ HZ.out (by omega) (by omega) (by omega) (by omega)))
        intro w_22_ hx_22_
        simp only [Act.put, List.setIfInBounds_toArray, List.set]
        iterate 2
          apply K.x_pure
          · rfl
          · rfl
          · intro w'; go_simp; first | done | exact K.vint (IntWalk.i64_in _ (by omega)) | rfl | exact ⟨rfl, rfl⟩
          simp only [Act.put, List.setIfInBounds_toArray, List.set]
        apply K.x_new
        · rfl
        · rfl
        · rfl
        · go_simp; first | done | omega
        · intro w'; go_simp; first | done | rfl | exact ⟨rfl, rfl⟩
        intro g7_25 w_25_ hx_25_ hg7_25 hb_25_
        simp only [Act.put, List.setIfInBounds_toArray, List.set]
        apply K.x_done
        intro w1 h_x
        have hx1 := hx_10_.trans (hx_22_.trans (hx_25_.trans h_x))
        have hb7_25 := K.Ext.block (h_x) hb_25_
        have cg7_25_0 : w1.cell? ⟨g7_25, 0, none⟩ = some (.int .i64 0) := K.cell_at hb7_25 rfl
        have fg7_25_0 : w1.frozen? ⟨g7_25, 0, none⟩ = false := K.thaw_at hb7_25
        have cg7_25_1 : w1.cell? ⟨g7_25, 1, none⟩ = some (.int .i64 0) := K.cell_at hb7_25 rfl
        have fg7_25_1 : w1.frozen? ⟨g7_25, 1, none⟩ = false := K.thaw_at hb7_25
        clear h_x hx_10_ hx_22_ hx_25_
        obtain ⟨⟨hcw1, hfw1⟩, hc'w1, hf'w1⟩ := hx1.all
        have c_w1_4_0 : w1.cell? ⟨w.heap.size + 1 + 1 + 1 + 1, 0, none⟩ = some (.int .i64 (0)) := hx1.cell_of (by go_simp); have f_w1_4_0 : w1.frozen? ⟨w.heap.size + 1 + 1 + 1 + 1, 0, none⟩ = false := hx1.thaw_of (by go_simp) (by go_simp); have c_w1_4_1 : w1.cell? ⟨w.heap.size + 1 + 1 + 1 + 1, 1, none⟩ = some (.int .i64 (0)) := hx1.cell_of (by go_simp); have f_w1_4_1 : w1.frozen? ⟨w.heap.size + 1 + 1 + 1 + 1, 1, none⟩ = false := hx1.thaw_of (by go_simp) (by go_simp)
        go_wp2_with fail
        refine NoPanic.normal ?_
        have n9 : ¬ g7_25 = w.heap.size + 1 + 1 + 1 + 1 := by have := hw0.size; simp at this; omega
        have z1 : g7_25 < w1.heap.size := World.block_lt_of_cell? w1 _ cg7_25_0
        have s0 : w.heap.size ≤ g7_25 := by have := hw0.size; simp at this; omega
        have z2 : w.heap.size + 1 + 1 + 1 + 1 < w1.heap.size := World.block_lt_of_cell? w1 _ c_w1_4_0
        go_wp2_with ((go_at_call 35; refine K.call (by with_reducible rfl) (by with_reducible rfl) (arePoints_1 (a.1 + nx, a.2 + ny) _ _ (by go_simp; try omega) (by go_simp) (by go_simp)) ?_; rintro e w2 ⟨rfl, hw2⟩; obtain ⟨hcw2, hfw2⟩ := hw2.facts); have c_w2_4_0 : w2.cell? ⟨w.heap.size + 1 + 1 + 1 + 1, 0, none⟩ = some (.int .i64 (0)) := hw2.cell_of (by go_simp); have f_w2_4_0 : w2.frozen? ⟨w.heap.size + 1 + 1 + 1 + 1, 0, none⟩ = false := hw2.thaw_of (by go_simp) (by go_simp); have c_w2_4_1 : w2.cell? ⟨w.heap.size + 1 + 1 + 1 + 1, 1, none⟩ = some (.int .i64 (0)) := hw2.cell_of (by go_simp); have f_w2_4_1 : w2.frozen? ⟨w.heap.size + 1 + 1 + 1 + 1, 1, none⟩ = false := hw2.thaw_of (by go_simp) (by go_simp); have k_0 : w2.cell? ⟨g7_25, 0, none⟩ = some (.int .i64 (a.1 + nx)) := hw2.cell_of (by go_simp); have k_1 : w2.cell? ⟨g7_25, 1, none⟩ = some (.int .i64 (a.2 + ny)) := hw2.cell_of (by go_simp))
        exact bodyPost_ret (v := .tuple #[.agg #[.int .i64 (a.1 + nx), .int .i64 (a.2 + ny)], .int .i64 0]) (by unfold results; rw [Try.results25]; go_simp) rfl ⟨by rw [HE.out], (by repeat' (first | with_reducible exact K.Ext.refl _ | with_reducible assumption | with_reducible refine K.Ext.drew ?_ | with_reducible refine K.Ext.alloc ?_ _ | with_reducible refine K.Ext.setCell ?_ ?_ _ | with_reducible refine K.Ext.trans ?_ (by with_reducible assumption) | (dsimp only; omega) | omega | exact K.Ext.refl _ | assumption | apply K.Ext.drew | refine K.Ext.alloc ?_ _ | refine K.Ext.setCell ?_ ?_ _ | (simp; done) | (simp; omega) | refine K.Ext.trans ?_ (by assumption)))⟩
end Go.Proofs.Ytgepjmfjeidbaaa
