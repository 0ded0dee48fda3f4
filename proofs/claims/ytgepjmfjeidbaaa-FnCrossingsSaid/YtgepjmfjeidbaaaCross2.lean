/-
  POINTS: the crossing of two lines, the reference.
-/
import Derived.Test.YtgepjmfjeidbaaaCross
set_option linter.unusedVariables false
namespace Go.Proofs.Ytgepjmfjeidbaaa
open Go.RowKit
set_option maxHeartbeats 1600000 in
theorem spec_CrossingOf (a b c d : Z.Pt) (w : World) :
    Calls Try.prog 26 #[.agg #[.int .i64 a.1, .int .i64 a.2], .agg #[.int .i64 b.1, .int .i64 b.2], .agg #[.int .i64 c.1, .int .i64 c.2], .agg #[.int .i64 d.1, .int .i64 d.2]] w fun e w' => e = .returned (.tuple #[.agg #[.int .i64 (Z.CrossingOf a b c d).1.1, .int .i64 (Z.CrossingOf a b c d).1.2], .int .i64 (Z.CrossingOf a b c d).2]) ∧ K.Ext w w' := by
  cases hp : Z.pts [a, b, c, d]
  · have HE : Hid (Z.CrossingOf a b c d = ((0, 0), 2)) := Z.hide (by simp [Z.CrossingOf, hp])
    go_enter Try.func26, Try.ntmps26
    go_wp2_with (go_at_call 33; refine K.call (by with_reducible rfl) (by with_reducible rfl) (l22Points_4 a b c d _ _ (by go_simp) (by go_simp) (by go_simp) (by go_simp) (by go_simp) (by go_simp) (by go_simp) (by go_simp)) ?_; rintro e w' ⟨rfl, rfl⟩)
    exact bodyPost_ret (v := .tuple #[.agg #[.int .i64 0, .int .i64 0], .int .i64 2]) (by unfold results; rw [Try.results26]; go_simp) rfl ⟨by rw [HE.out], (by repeat' (first | with_reducible exact K.Ext.refl _ | with_reducible assumption | with_reducible refine K.Ext.drew ?_ | with_reducible refine K.Ext.alloc ?_ _ | with_reducible refine K.Ext.setCell ?_ ?_ _ | with_reducible refine K.Ext.trans ?_ (by with_reducible assumption) | (dsimp only; omega) | omega | exact K.Ext.refl _ | assumption | apply K.Ext.drew | refine K.Ext.alloc ?_ _ | refine K.Ext.setCell ?_ ?_ _ | (simp; done) | (simp; omega) | refine K.Ext.trans ?_ (by assumption)))⟩
  · obtain ⟨HA, HB, HC, HD⟩ : Hid (Z.okPt a = true) ∧ Hid (Z.okPt b = true) ∧ Hid (Z.okPt c = true) ∧ Hid (Z.okPt d = true) := (Z.pts4_iff a b c d).1 hp
    obtain ⟨⟨a1, a2⟩, a3, a4⟩ := (Z.okPt_iff a).1 HA.out
    obtain ⟨⟨b1, b2⟩, b3, b4⟩ := (Z.okPt_iff b).1 HB.out
    obtain ⟨⟨c1, c2⟩, c3, c4⟩ := (Z.okPt_iff c).1 HC.out
    obtain ⟨⟨d1, d2⟩, d3, d4⟩ := (Z.okPt_iff d).1 HD.out
    obtain ⟨M1, M2⟩ := Z.cross_bd (b.1 - a.1) (d.2 - c.2) (b.2 - a.2) (d.1 - c.1) (by omega) (by omega) (by omega) (by omega)
    obtain ⟨N1, N2⟩ := Z.cross_bd (c.1 - a.1) (d.2 - c.2) (c.2 - a.2) (d.1 - c.1) (by omega) (by omega) (by omega) (by omega)
    obtain ⟨p01, p02⟩ := Z.mul_bd (b.1 - a.1) (d.2 - c.2) 200000 200000 (by omega) (by omega) (by omega) (by omega)
    obtain ⟨p11, p12⟩ := Z.mul_bd (b.2 - a.2) (d.1 - c.1) 200000 200000 (by omega) (by omega) (by omega) (by omega)
    obtain ⟨p21, p22⟩ := Z.mul_bd (c.1 - a.1) (d.2 - c.2) 200000 200000 (by omega) (by omega) (by omega) (by omega)
    obtain ⟨p31, p32⟩ := Z.mul_bd (c.2 - a.2) (d.1 - c.1) 200000 200000 (by omega) (by omega) (by omega) (by omega)
    have HM := Z.hide (show Z.crossM a b c d = (b.1 - a.1) * (d.2 - c.2) - (b.2 - a.2) * (d.1 - c.1) from rfl)
    by_cases hz : Z.crossM a b c d = 0
    · have HE : Hid (Z.CrossingOf a b c d = ((0, 0), 5)) := Z.hide (by simp [Z.CrossingOf, hp, hz])
      have hz' : ((b.1 - a.1) * (d.2 - c.2) - (b.2 - a.2) * (d.1 - c.1) == 0) = true := by rw [HM.out] at hz; simp [hz]
      clear hz
      go_enter Try.func26, Try.ntmps26
      go_wp2_with (go_at_call 33; refine K.call (by with_reducible rfl) (by with_reducible rfl) (l22Points_4 a b c d _ _ (by go_simp) (by go_simp) (by go_simp) (by go_simp) (by go_simp) (by go_simp) (by go_simp) (by go_simp)) ?_; rintro e w' ⟨rfl, rfl⟩)
      exact bodyPost_ret (v := .tuple #[.agg #[.int .i64 0, .int .i64 0], .int .i64 5]) (by unfold results; rw [Try.results26]; go_simp) rfl ⟨by rw [HE.out], (by repeat' (first | with_reducible exact K.Ext.refl _ | with_reducible assumption | with_reducible refine K.Ext.drew ?_ | with_reducible refine K.Ext.alloc ?_ _ | with_reducible refine K.Ext.setCell ?_ ?_ _ | with_reducible refine K.Ext.trans ?_ (by with_reducible assumption) | (dsimp only; omega) | omega | exact K.Ext.refl _ | assumption | apply K.Ext.drew | refine K.Ext.alloc ?_ _ | refine K.Ext.setCell ?_ ?_ _ | (simp; done) | (simp; omega) | refine K.Ext.trans ?_ (by assumption)))⟩
    · have hz' : ((b.1 - a.1) * (d.2 - c.2) - (b.2 - a.2) * (d.1 - c.1) == 0) = false := by rw [HM.out] at hz; simp [hz]
      have HZ : Hid ((b.1 - a.1) * (d.2 - c.2) - (b.2 - a.2) * (d.1 - c.1) ≠ 0) := Z.hide (by rw [HM.out] at hz; exact hz)
      obtain ⟨x1, x2⟩ := Z.mul_bd (b.1 - a.1) ((c.1 - a.1) * (d.2 - c.2) - (c.2 - a.2) * (d.1 - c.1)) 200000 80000000000 (by omega) (by omega) (by omega) (by omega)
      obtain ⟨y1, y2⟩ := Z.mul_bd (b.2 - a.2) ((c.1 - a.1) * (d.2 - c.2) - (c.2 - a.2) * (d.1 - c.1)) 200000 80000000000 (by omega) (by omega) (by omega) (by omega)
      obtain ⟨nx, hnx⟩ : ∃ x, x = Z.nearAny ((b.1 - a.1) * ((c.1 - a.1) * (d.2 - c.2) - (c.2 - a.2) * (d.1 - c.1))) ((b.1 - a.1) * (d.2 - c.2) - (b.2 - a.2) * (d.1 - c.1)) := ⟨_, rfl⟩
      obtain ⟨ny, hny⟩ : ∃ x, x = Z.nearAny ((b.2 - a.2) * ((c.1 - a.1) * (d.2 - c.2) - (c.2 - a.2) * (d.1 - c.1))) ((b.1 - a.1) * (d.2 - c.2) - (b.2 - a.2) * (d.1 - c.1)) := ⟨_, rfl⟩
      obtain ⟨u1, u2⟩ : -(3 * 16000000000000000) - 1 ≤ nx ∧ nx ≤ 3 * 16000000000000000 + 1 := hnx ▸ Z.nearAny_bd _ _ 16000000000000000 HZ.out (by omega) (by omega) (by omega) (by omega)
      obtain ⟨v1, v2⟩ : -(3 * 16000000000000000) - 1 ≤ ny ∧ ny ≤ 3 * 16000000000000000 + 1 := hny ▸ Z.nearAny_bd _ _ 16000000000000000 HZ.out (by omega) (by omega) (by omega) (by omega)
      have HO : Hid (Z.CrossingOf a b c d = if !Z.okPt (a.1 + nx, a.2 + ny) then ((0, 0), 3) else ((a.1 + nx, a.2 + ny), 0)) := Z.hide (by rw [hnx, hny]; simp [Z.CrossingOf, Z.crossP, Z.crossN, Z.crossM, hp]; intro h; exact absurd h (by simpa [Z.crossM] using hz))
      have Hnx : Hid (nx = Z.nearAny ((b.1 - a.1) * ((c.1 - a.1) * (d.2 - c.2) - (c.2 - a.2) * (d.1 - c.1))) ((b.1 - a.1) * (d.2 - c.2) - (b.2 - a.2) * (d.1 - c.1))) := Z.hide hnx
      have Hny : Hid (ny = Z.nearAny ((b.2 - a.2) * ((c.1 - a.1) * (d.2 - c.2) - (c.2 - a.2) * (d.1 - c.1))) ((b.1 - a.1) * (d.2 - c.2) - (b.2 - a.2) * (d.1 - c.1))) := Z.hide hny
      clear hz hnx hny
      by_cases hm : Z.crossM a b c d < 0
      · have hm' : decide (((b.1 - a.1) * (d.2 - c.2) - (b.2 - a.2) * (d.1 - c.1)) < 0) = true := by rw [HM.out] at hm; simpa using hm
        replace HM : Hid (0 < -((b.1 - a.1) * (d.2 - c.2) - (b.2 - a.2) * (d.1 - c.1))) := Z.hide (by rw [HM.out] at hm; omega)
        clear hm
        rcases (show Hid (Z.okPt (a.1 + nx, a.2 + ny) = false) ∨ Hid (Z.okPt (a.1 + nx, a.2 + ny) = true) from Z.bool_hid _) with ho | ho
        · have hk : Z.pts [(a.1 + nx, a.2 + ny)] = false := by rw [Z.pts1]; exact ho.out
          have HE : Hid (Z.CrossingOf a b c d = ((0, 0), 3)) := Z.hide (by rw [HO.out, ho.out]; rfl)
          go_enter Try.func26, Try.ntmps26
          go_wp2_with (go_at_call 33; refine K.call (by with_reducible rfl) (by with_reducible rfl) (l22Points_4 a b c d _ _ (by go_simp) (by go_simp) (by go_simp) (by go_simp) (by go_simp) (by go_simp) (by go_simp) (by go_simp)) ?_; rintro e w' ⟨rfl, rfl⟩)
          refine K.wp_region_x 22 [0, 1, 0, 1, 0, 1, 0, 0, 0, 2, 0, 1, 0, 1, 0, 1, 0, 0, 0, 2, 0, 2] [K.SP.any, K.SP.any, K.SP.any, K.SP.any, K.SP.any, K.SP.any, K.SP.any, K.SP.any, K.SP.any, K.SP.is (.int .i64 (a.1 + nx)), K.SP.any, K.SP.any, K.SP.any, K.SP.any, K.SP.any, K.SP.any, K.SP.any, K.SP.any, K.SP.any, K.SP.is (.int .i64 (a.2 + ny)), K.SP.any, K.SP.new (w.heap.size + 6) (.cells #[.int .i64 0, .int .i64 0] 28)] (by kernel_rfl) (by kernel_rfl) ?_
          simp only [List.take_succ_cons, List.take_zero, List.drop_succ_cons, List.drop_zero]
          apply K.x_pure
          · rfl
          · rfl
          · intro w'; go_simp; first | done | exact K.vint (IntWalk.i64_in _ (by omega)) | rfl | exact ⟨rfl, rfl⟩
          simp only [Act.put, List.setIfInBounds_toArray, List.set]
          apply K.x_held
          · rfl
          · rfl
          · intro w' hx; have hc := hx.all.1.1; have hf := hx.all.1.2; have hc' := hx.all.2.1; have hf' := hx.all.2.2; go_simp; first | done | rfl | exact ⟨rfl, rfl⟩
          simp only [Act.put, List.setIfInBounds_toArray, List.set]
          apply K.x_pure
          · rfl
          · rfl
          · intro w'; go_simp; first | done | exact K.vint (IntWalk.i64_in _ (by omega)) | rfl | exact ⟨rfl, rfl⟩
          simp only [Act.put, List.setIfInBounds_toArray, List.set]
          apply K.x_held
          · rfl
          · rfl
          · intro w' hx; have hc := hx.all.1.1; have hf := hx.all.1.2; have hc' := hx.all.2.1; have hf' := hx.all.2.2; go_simp; first | done | rfl | exact ⟨rfl, rfl⟩
          simp only [Act.put, List.setIfInBounds_toArray, List.set]
          apply K.x_pure
          · rfl
          · rfl
          · intro w'; go_simp; first | done | exact K.vint (IntWalk.i64_in _ (by omega)) | rfl | exact ⟨rfl, rfl⟩
          simp only [Act.put, List.setIfInBounds_toArray, List.set]
          apply K.x_held
          · rfl
          · rfl
          · intro w' hx; have hc := hx.all.1.1; have hf := hx.all.1.2; have hc' := hx.all.2.1; have hf' := hx.all.2.2; go_simp; first | done | rfl | exact ⟨rfl, rfl⟩
          simp only [Act.put, List.setIfInBounds_toArray, List.set]
          iterate 3
            apply K.x_pure
            · rfl
            · rfl
            · intro w'; go_simp; first | done | exact K.vint (IntWalk.i64_in _ (by omega)) | rfl | exact ⟨rfl, rfl⟩
            simp only [Act.put, List.setIfInBounds_toArray, List.set]
          apply K.x_call_is
          · rfl
          · rfl
          · rfl
          · intro w'; go_simp; first | done | rfl | exact ⟨rfl, rfl⟩
          · intro w' hx hp; have hc := hx.all.1.1; have hf := hx.all.1.2; have hc' := hx.all.2.1; have hf' := hx.all.2.2; exact (by have := l22Scaled_any a.1 (b.1 - a.1) (-((c.1 - a.1) * (d.2 - c.2) - (c.2 - a.2) * (d.1 - c.1))) (-((b.1 - a.1) * (d.2 - c.2) - (b.2 - a.2) * (d.1 - c.1))) w' HM.out (by omega) (by omega) (by omega) (by omega) (by omega) (by omega) (by omega); rw [← Z.nearAny_neg _ _ _ (by have := HM.out; omega), ← Hnx.out] at this; exact K.same_ext this)
          intro w_9_ hx_9_
          simp only [Act.put, List.setIfInBounds_toArray, List.set]
          apply K.x_pure
          · rfl
          · rfl
          · intro w'; go_simp; first | done | exact K.vint (IntWalk.i64_in _ (by omega)) | rfl | exact ⟨rfl, rfl⟩
          simp only [Act.put, List.setIfInBounds_toArray, List.set]
          apply K.x_held
          · rfl
          · rfl
          · intro w' hx; have hc := hx.all.1.1; have hf := hx.all.1.2; have hc' := hx.all.2.1; have hf' := hx.all.2.2; go_simp; first | done | rfl | exact ⟨rfl, rfl⟩
          simp only [Act.put, List.setIfInBounds_toArray, List.set]
          apply K.x_pure
          · rfl
          · rfl
          · intro w'; go_simp; first | done | exact K.vint (IntWalk.i64_in _ (by omega)) | rfl | exact ⟨rfl, rfl⟩
          simp only [Act.put, List.setIfInBounds_toArray, List.set]
          apply K.x_held
          · rfl
          · rfl
          · intro w' hx; have hc := hx.all.1.1; have hf := hx.all.1.2; have hc' := hx.all.2.1; have hf' := hx.all.2.2; go_simp; first | done | rfl | exact ⟨rfl, rfl⟩
          simp only [Act.put, List.setIfInBounds_toArray, List.set]
          apply K.x_pure
          · rfl
          · rfl
          · intro w'; go_simp; first | done | exact K.vint (IntWalk.i64_in _ (by omega)) | rfl | exact ⟨rfl, rfl⟩
          simp only [Act.put, List.setIfInBounds_toArray, List.set]
          apply K.x_held
          · rfl
          · rfl
          · intro w' hx; have hc := hx.all.1.1; have hf := hx.all.1.2; have hc' := hx.all.2.1; have hf' := hx.all.2.2; go_simp; first | done | rfl | exact ⟨rfl, rfl⟩
          simp only [Act.put, List.setIfInBounds_toArray, List.set]
          iterate 3
            apply K.x_pure
            · rfl
            · rfl
            · intro w'; go_simp; first | done | exact K.vint (IntWalk.i64_in _ (by omega)) | rfl | exact ⟨rfl, rfl⟩
            simp only [Act.put, List.setIfInBounds_toArray, List.set]
          apply K.x_call_is
          · rfl
          · rfl
          · rfl
          · intro w'; go_simp; first | done | rfl | exact ⟨rfl, rfl⟩
          · intro w' hx hp; have hc := hx.all.1.1; have hf := hx.all.1.2; have hc' := hx.all.2.1; have hf' := hx.all.2.2; exact (by have := l22Scaled_any a.2 (b.2 - a.2) (-((c.1 - a.1) * (d.2 - c.2) - (c.2 - a.2) * (d.1 - c.1))) (-((b.1 - a.1) * (d.2 - c.2) - (b.2 - a.2) * (d.1 - c.1))) w' HM.out (by omega) (by omega) (by omega) (by omega) (by omega) (by omega) (by omega); rw [← Z.nearAny_neg _ _ _ (by have := HM.out; omega), ← Hny.out] at this; exact K.same_ext this)
          intro w_19_ hx_19_
          simp only [Act.put, List.setIfInBounds_toArray, List.set]
          apply K.x_pure
          · rfl
          · rfl
          · intro w'; go_simp; first | done | exact K.vint (IntWalk.i64_in _ (by omega)) | rfl | exact ⟨rfl, rfl⟩
          simp only [Act.put, List.setIfInBounds_toArray, List.set]
          apply K.x_new
          · rfl
          · rfl
          · rfl
          · go_simp; first | done | omega
          · intro w'; go_simp; first | done | rfl | exact ⟨rfl, rfl⟩
          intro g10_21 w_21_ hx_21_ hg10_21 hb_21_
          simp only [Act.put, List.setIfInBounds_toArray, List.set]
          apply K.x_done
          intro w1 h_x
          have hx1 := hx_9_.trans (hx_19_.trans (hx_21_.trans h_x))
          have hb10_21 := K.Ext.block (h_x) hb_21_
          have cg10_21_0 : w1.cell? ⟨g10_21, 0, none⟩ = some (.int .i64 0) := K.cell_at hb10_21 rfl
          have fg10_21_0 : w1.frozen? ⟨g10_21, 0, none⟩ = false := K.thaw_at hb10_21
          have cg10_21_1 : w1.cell? ⟨g10_21, 1, none⟩ = some (.int .i64 0) := K.cell_at hb10_21 rfl
          have fg10_21_1 : w1.frozen? ⟨g10_21, 1, none⟩ = false := K.thaw_at hb10_21
          clear h_x hx_9_ hx_19_ hx_21_
          obtain ⟨⟨hcw1, hfw1⟩, hc'w1, hf'w1⟩ := hx1.all
          have c_w1_4_0 : w1.cell? ⟨w.heap.size + 1 + 1 + 1 + 1, 0, none⟩ = some (.int .i64 (0)) := hx1.cell_of (by go_simp); have f_w1_4_0 : w1.frozen? ⟨w.heap.size + 1 + 1 + 1 + 1, 0, none⟩ = false := hx1.thaw_of (by go_simp) (by go_simp); have c_w1_4_1 : w1.cell? ⟨w.heap.size + 1 + 1 + 1 + 1, 1, none⟩ = some (.int .i64 (0)) := hx1.cell_of (by go_simp); have f_w1_4_1 : w1.frozen? ⟨w.heap.size + 1 + 1 + 1 + 1, 1, none⟩ = false := hx1.thaw_of (by go_simp) (by go_simp)
          go_wp2_with fail
          refine NoPanic.normal ?_
          have n9 : ¬ g10_21 = w.heap.size + 1 + 1 + 1 + 1 := by omega
          have z2 : w.heap.size + 1 + 1 + 1 + 1 < w1.heap.size := World.block_lt_of_cell? w1 _ c_w1_4_0
          have z1 : g10_21 < w1.heap.size := World.block_lt_of_cell? w1 _ cg10_21_0
          go_wp2_with (go_at_call 33; refine K.call (by with_reducible rfl) (by with_reducible rfl) (l22Points_1 (a.1 + nx, a.2 + ny) _ _ (by go_simp) (by go_simp)) ?_; rintro e w' ⟨rfl, rfl⟩)
          exact bodyPost_ret (v := .tuple #[.agg #[.int .i64 0, .int .i64 0], .int .i64 3]) (by unfold results; rw [Try.results26]; go_simp) rfl ⟨by rw [HE.out], (by repeat' (first | with_reducible exact K.Ext.refl _ | with_reducible assumption | with_reducible refine K.Ext.drew ?_ | with_reducible refine K.Ext.alloc ?_ _ | with_reducible refine K.Ext.setCell ?_ ?_ _ | with_reducible refine K.Ext.trans ?_ (by with_reducible assumption) | (dsimp only; omega) | omega | exact K.Ext.refl _ | assumption | apply K.Ext.drew | refine K.Ext.alloc ?_ _ | refine K.Ext.setCell ?_ ?_ _ | (simp; done) | (simp; omega) | refine K.Ext.trans ?_ (by assumption)))⟩
        · have hk : Z.pts [(a.1 + nx, a.2 + ny)] = true := by rw [Z.pts1]; exact ho.out
          have HE : Hid (Z.CrossingOf a b c d = ((a.1 + nx, a.2 + ny), 0)) := Z.hide (by rw [HO.out, ho.out]; rfl)
          go_enter Try.func26, Try.ntmps26
          go_wp2_with (go_at_call 33; refine K.call (by with_reducible rfl) (by with_reducible rfl) (l22Points_4 a b c d _ _ (by go_simp) (by go_simp) (by go_simp) (by go_simp) (by go_simp) (by go_simp) (by go_simp) (by go_simp)) ?_; rintro e w' ⟨rfl, rfl⟩)
          refine K.wp_region_x 22 [0, 1, 0, 1, 0, 1, 0, 0, 0, 2, 0, 1, 0, 1, 0, 1, 0, 0, 0, 2, 0, 2] [K.SP.any, K.SP.any, K.SP.any, K.SP.any, K.SP.any, K.SP.any, K.SP.any, K.SP.any, K.SP.any, K.SP.is (.int .i64 (a.1 + nx)), K.SP.any, K.SP.any, K.SP.any, K.SP.any, K.SP.any, K.SP.any, K.SP.any, K.SP.any, K.SP.any, K.SP.is (.int .i64 (a.2 + ny)), K.SP.any, K.SP.new (w.heap.size + 6) (.cells #[.int .i64 0, .int .i64 0] 28)] (by kernel_rfl) (by kernel_rfl) ?_
          simp only [List.take_succ_cons, List.take_zero, List.drop_succ_cons, List.drop_zero]
          apply K.x_pure
          · rfl
          · rfl
          · intro w'; go_simp; first | done | exact K.vint (IntWalk.i64_in _ (by omega)) | rfl | exact ⟨rfl, rfl⟩
          simp only [Act.put, List.setIfInBounds_toArray, List.set]
          apply K.x_held
          · rfl
          · rfl
          · intro w' hx; have hc := hx.all.1.1; have hf := hx.all.1.2; have hc' := hx.all.2.1; have hf' := hx.all.2.2; go_simp; first | done | rfl | exact ⟨rfl, rfl⟩
          simp only [Act.put, List.setIfInBounds_toArray, List.set]
          apply K.x_pure
          · rfl
          · rfl
          · intro w'; go_simp; first | done | exact K.vint (IntWalk.i64_in _ (by omega)) | rfl | exact ⟨rfl, rfl⟩
          simp only [Act.put, List.setIfInBounds_toArray, List.set]
          apply K.x_held
          · rfl
          · rfl
          · intro w' hx; have hc := hx.all.1.1; have hf := hx.all.1.2; have hc' := hx.all.2.1; have hf' := hx.all.2.2; go_simp; first | done | rfl | exact ⟨rfl, rfl⟩
          simp only [Act.put, List.setIfInBounds_toArray, List.set]
          apply K.x_pure
          · rfl
          · rfl
          · intro w'; go_simp; first | done | exact K.vint (IntWalk.i64_in _ (by omega)) | rfl | exact ⟨rfl, rfl⟩
          simp only [Act.put, List.setIfInBounds_toArray, List.set]
          apply K.x_held
          · rfl
          · rfl
          · intro w' hx; have hc := hx.all.1.1; have hf := hx.all.1.2; have hc' := hx.all.2.1; have hf' := hx.all.2.2; go_simp; first | done | rfl | exact ⟨rfl, rfl⟩
          simp only [Act.put, List.setIfInBounds_toArray, List.set]
          iterate 3
            apply K.x_pure
            · rfl
            · rfl
            · intro w'; go_simp; first | done | exact K.vint (IntWalk.i64_in _ (by omega)) | rfl | exact ⟨rfl, rfl⟩
            simp only [Act.put, List.setIfInBounds_toArray, List.set]
          apply K.x_call_is
          · rfl
          · rfl
          · rfl
          · intro w'; go_simp; first | done | rfl | exact ⟨rfl, rfl⟩
          · intro w' hx hp; have hc := hx.all.1.1; have hf := hx.all.1.2; have hc' := hx.all.2.1; have hf' := hx.all.2.2; exact (by have := l22Scaled_any a.1 (b.1 - a.1) (-((c.1 - a.1) * (d.2 - c.2) - (c.2 - a.2) * (d.1 - c.1))) (-((b.1 - a.1) * (d.2 - c.2) - (b.2 - a.2) * (d.1 - c.1))) w' HM.out (by omega) (by omega) (by omega) (by omega) (by omega) (by omega) (by omega); rw [← Z.nearAny_neg _ _ _ (by have := HM.out; omega), ← Hnx.out] at this; exact K.same_ext this)
          intro w_9_ hx_9_
          simp only [Act.put, List.setIfInBounds_toArray, List.set]
          apply K.x_pure
          · rfl
          · rfl
          · intro w'; go_simp; first | done | exact K.vint (IntWalk.i64_in _ (by omega)) | rfl | exact ⟨rfl, rfl⟩
          simp only [Act.put, List.setIfInBounds_toArray, List.set]
          apply K.x_held
          · rfl
          · rfl
          · intro w' hx; have hc := hx.all.1.1; have hf := hx.all.1.2; have hc' := hx.all.2.1; have hf' := hx.all.2.2; go_simp; first | done | rfl | exact ⟨rfl, rfl⟩
          simp only [Act.put, List.setIfInBounds_toArray, List.set]
          apply K.x_pure
          · rfl
          · rfl
          · intro w'; go_simp; first | done | exact K.vint (IntWalk.i64_in _ (by omega)) | rfl | exact ⟨rfl, rfl⟩
          simp only [Act.put, List.setIfInBounds_toArray, List.set]
          apply K.x_held
          · rfl
          · rfl
          · intro w' hx; have hc := hx.all.1.1; have hf := hx.all.1.2; have hc' := hx.all.2.1; have hf' := hx.all.2.2; go_simp; first | done | rfl | exact ⟨rfl, rfl⟩
          simp only [Act.put, List.setIfInBounds_toArray, List.set]
          apply K.x_pure
          · rfl
          · rfl
          · intro w'; go_simp; first | done | exact K.vint (IntWalk.i64_in _ (by omega)) | rfl | exact ⟨rfl, rfl⟩
          simp only [Act.put, List.setIfInBounds_toArray, List.set]
          apply K.x_held
          · rfl
          · rfl
          · intro w' hx; have hc := hx.all.1.1; have hf := hx.all.1.2; have hc' := hx.all.2.1; have hf' := hx.all.2.2; go_simp; first | done | rfl | exact ⟨rfl, rfl⟩
          simp only [Act.put, List.setIfInBounds_toArray, List.set]
          iterate 3
            apply K.x_pure
            · rfl
            · rfl
            · intro w'; go_simp; first | done | exact K.vint (IntWalk.i64_in _ (by omega)) | rfl | exact ⟨rfl, rfl⟩
            simp only [Act.put, List.setIfInBounds_toArray, List.set]
          apply K.x_call_is
          · rfl
          · rfl
          · rfl
          · intro w'; go_simp; first | done | rfl | exact ⟨rfl, rfl⟩
          · intro w' hx hp; have hc := hx.all.1.1; have hf := hx.all.1.2; have hc' := hx.all.2.1; have hf' := hx.all.2.2; exact (by have := l22Scaled_any a.2 (b.2 - a.2) (-((c.1 - a.1) * (d.2 - c.2) - (c.2 - a.2) * (d.1 - c.1))) (-((b.1 - a.1) * (d.2 - c.2) - (b.2 - a.2) * (d.1 - c.1))) w' HM.out (by omega) (by omega) (by omega) (by omega) (by omega) (by omega) (by omega); rw [← Z.nearAny_neg _ _ _ (by have := HM.out; omega), ← Hny.out] at this; exact K.same_ext this)
          intro w_19_ hx_19_
          simp only [Act.put, List.setIfInBounds_toArray, List.set]
          apply K.x_pure
          · rfl
          · rfl
          · intro w'; go_simp; first | done | exact K.vint (IntWalk.i64_in _ (by omega)) | rfl | exact ⟨rfl, rfl⟩
          simp only [Act.put, List.setIfInBounds_toArray, List.set]
          apply K.x_new
          · rfl
          · rfl
          · rfl
          · go_simp; first | done | omega
          · intro w'; go_simp; first | done | rfl | exact ⟨rfl, rfl⟩
          intro g10_21 w_21_ hx_21_ hg10_21 hb_21_
          simp only [Act.put, List.setIfInBounds_toArray, List.set]
          apply K.x_done
          intro w1 h_x
          have hx1 := hx_9_.trans (hx_19_.trans (hx_21_.trans h_x))
          have hb10_21 := K.Ext.block (h_x) hb_21_
          have cg10_21_0 : w1.cell? ⟨g10_21, 0, none⟩ = some (.int .i64 0) := K.cell_at hb10_21 rfl
          have fg10_21_0 : w1.frozen? ⟨g10_21, 0, none⟩ = false := K.thaw_at hb10_21
          have cg10_21_1 : w1.cell? ⟨g10_21, 1, none⟩ = some (.int .i64 0) := K.cell_at hb10_21 rfl
          have fg10_21_1 : w1.frozen? ⟨g10_21, 1, none⟩ = false := K.thaw_at hb10_21
          clear h_x hx_9_ hx_19_ hx_21_
          obtain ⟨⟨hcw1, hfw1⟩, hc'w1, hf'w1⟩ := hx1.all
          have c_w1_4_0 : w1.cell? ⟨w.heap.size + 1 + 1 + 1 + 1, 0, none⟩ = some (.int .i64 (0)) := hx1.cell_of (by go_simp); have f_w1_4_0 : w1.frozen? ⟨w.heap.size + 1 + 1 + 1 + 1, 0, none⟩ = false := hx1.thaw_of (by go_simp) (by go_simp); have c_w1_4_1 : w1.cell? ⟨w.heap.size + 1 + 1 + 1 + 1, 1, none⟩ = some (.int .i64 (0)) := hx1.cell_of (by go_simp); have f_w1_4_1 : w1.frozen? ⟨w.heap.size + 1 + 1 + 1 + 1, 1, none⟩ = false := hx1.thaw_of (by go_simp) (by go_simp)
          go_wp2_with fail
          refine NoPanic.normal ?_
          have n9 : ¬ g10_21 = w.heap.size + 1 + 1 + 1 + 1 := by omega
          have z2 : w.heap.size + 1 + 1 + 1 + 1 < w1.heap.size := World.block_lt_of_cell? w1 _ c_w1_4_0
          have z1 : g10_21 < w1.heap.size := World.block_lt_of_cell? w1 _ cg10_21_0
          go_wp2_with (go_at_call 33; refine K.call (by with_reducible rfl) (by with_reducible rfl) (l22Points_1 (a.1 + nx, a.2 + ny) _ _ (by go_simp) (by go_simp)) ?_; rintro e w' ⟨rfl, rfl⟩)
          exact bodyPost_ret (v := .tuple #[.agg #[.int .i64 (a.1 + nx), .int .i64 (a.2 + ny)], .int .i64 0]) (by unfold results; rw [Try.results26]; go_simp) rfl ⟨by rw [HE.out], (by repeat' (first | with_reducible exact K.Ext.refl _ | with_reducible assumption | with_reducible refine K.Ext.drew ?_ | with_reducible refine K.Ext.alloc ?_ _ | with_reducible refine K.Ext.setCell ?_ ?_ _ | with_reducible refine K.Ext.trans ?_ (by with_reducible assumption) | (dsimp only; omega) | omega | exact K.Ext.refl _ | assumption | apply K.Ext.drew | refine K.Ext.alloc ?_ _ | refine K.Ext.setCell ?_ ?_ _ | (simp; done) | (simp; omega) | refine K.Ext.trans ?_ (by assumption)))⟩
      · have hm' : decide (((b.1 - a.1) * (d.2 - c.2) - (b.2 - a.2) * (d.1 - c.1)) < 0) = false := by rw [HM.out] at hm; simpa using hm
        replace HM : Hid (0 < ((b.1 - a.1) * (d.2 - c.2) - (b.2 - a.2) * (d.1 - c.1))) := Z.hide (by have := HZ.out; rw [HM.out] at hm; omega)
        clear hm
        rcases (show Hid (Z.okPt (a.1 + nx, a.2 + ny) = false) ∨ Hid (Z.okPt (a.1 + nx, a.2 + ny) = true) from Z.bool_hid _) with ho | ho
        · have hk : Z.pts [(a.1 + nx, a.2 + ny)] = false := by rw [Z.pts1]; exact ho.out
          have HE : Hid (Z.CrossingOf a b c d = ((0, 0), 3)) := Z.hide (by rw [HO.out, ho.out]; rfl)
          go_enter Try.func26, Try.ntmps26
          go_wp2_with (go_at_call 33; refine K.call (by with_reducible rfl) (by with_reducible rfl) (l22Points_4 a b c d _ _ (by go_simp) (by go_simp) (by go_simp) (by go_simp) (by go_simp) (by go_simp) (by go_simp) (by go_simp)) ?_; rintro e w' ⟨rfl, rfl⟩)
          refine K.wp_region_x 22 [0, 1, 0, 1, 0, 1, 0, 0, 0, 2, 0, 1, 0, 1, 0, 1, 0, 0, 0, 2, 0, 2] [K.SP.any, K.SP.any, K.SP.any, K.SP.any, K.SP.any, K.SP.any, K.SP.any, K.SP.any, K.SP.any, K.SP.is (.int .i64 (a.1 + nx)), K.SP.any, K.SP.any, K.SP.any, K.SP.any, K.SP.any, K.SP.any, K.SP.any, K.SP.any, K.SP.any, K.SP.is (.int .i64 (a.2 + ny)), K.SP.any, K.SP.new (w.heap.size + 6) (.cells #[.int .i64 0, .int .i64 0] 28)] (by kernel_rfl) (by kernel_rfl) ?_
          simp only [List.take_succ_cons, List.take_zero, List.drop_succ_cons, List.drop_zero]
          apply K.x_pure
          · rfl
          · rfl
          · intro w'; go_simp; first | done | exact K.vint (IntWalk.i64_in _ (by omega)) | rfl | exact ⟨rfl, rfl⟩
          simp only [Act.put, List.setIfInBounds_toArray, List.set]
          apply K.x_held
          · rfl
          · rfl
          · intro w' hx; have hc := hx.all.1.1; have hf := hx.all.1.2; have hc' := hx.all.2.1; have hf' := hx.all.2.2; go_simp; first | done | rfl | exact ⟨rfl, rfl⟩
          simp only [Act.put, List.setIfInBounds_toArray, List.set]
          apply K.x_pure
          · rfl
          · rfl
          · intro w'; go_simp; first | done | exact K.vint (IntWalk.i64_in _ (by omega)) | rfl | exact ⟨rfl, rfl⟩
          simp only [Act.put, List.setIfInBounds_toArray, List.set]
          apply K.x_held
          · rfl
          · rfl
          · intro w' hx; have hc := hx.all.1.1; have hf := hx.all.1.2; have hc' := hx.all.2.1; have hf' := hx.all.2.2; go_simp; first | done | rfl | exact ⟨rfl, rfl⟩
          simp only [Act.put, List.setIfInBounds_toArray, List.set]
          apply K.x_pure
          · rfl
          · rfl
          · intro w'; go_simp; first | done | exact K.vint (IntWalk.i64_in _ (by omega)) | rfl | exact ⟨rfl, rfl⟩
          simp only [Act.put, List.setIfInBounds_toArray, List.set]
          apply K.x_held
          · rfl
          · rfl
          · intro w' hx; have hc := hx.all.1.1; have hf := hx.all.1.2; have hc' := hx.all.2.1; have hf' := hx.all.2.2; go_simp; first | done | rfl | exact ⟨rfl, rfl⟩
          simp only [Act.put, List.setIfInBounds_toArray, List.set]
          iterate 3
            apply K.x_pure
            · rfl
            · rfl
            · intro w'; go_simp; first | done | exact K.vint (IntWalk.i64_in _ (by omega)) | rfl | exact ⟨rfl, rfl⟩
            simp only [Act.put, List.setIfInBounds_toArray, List.set]
          apply K.x_call_is
          · rfl
          · rfl
          · rfl
          · intro w'; go_simp; first | done | rfl | exact ⟨rfl, rfl⟩
          · intro w' hx hp; have hc := hx.all.1.1; have hf := hx.all.1.2; have hc' := hx.all.2.1; have hf' := hx.all.2.2; exact (by have := l22Scaled_any a.1 (b.1 - a.1) ((c.1 - a.1) * (d.2 - c.2) - (c.2 - a.2) * (d.1 - c.1)) ((b.1 - a.1) * (d.2 - c.2) - (b.2 - a.2) * (d.1 - c.1)) w' HM.out (by omega) (by omega) (by omega) (by omega) (by omega) (by omega) (by omega); rw [← Z.nearAny_pos _ _ HM.out, ← Hnx.out] at this; exact K.same_ext this)
          intro w_9_ hx_9_
          simp only [Act.put, List.setIfInBounds_toArray, List.set]
          apply K.x_pure
          · rfl
          · rfl
          · intro w'; go_simp; first | done | exact K.vint (IntWalk.i64_in _ (by omega)) | rfl | exact ⟨rfl, rfl⟩
          simp only [Act.put, List.setIfInBounds_toArray, List.set]
          apply K.x_held
          · rfl
          · rfl
          · intro w' hx; have hc := hx.all.1.1; have hf := hx.all.1.2; have hc' := hx.all.2.1; have hf' := hx.all.2.2; go_simp; first | done | rfl | exact ⟨rfl, rfl⟩
          simp only [Act.put, List.setIfInBounds_toArray, List.set]
          apply K.x_pure
          · rfl
          · rfl
          · intro w'; go_simp; first | done | exact K.vint (IntWalk.i64_in _ (by omega)) | rfl | exact ⟨rfl, rfl⟩
          simp only [Act.put, List.setIfInBounds_toArray, List.set]
          apply K.x_held
          · rfl
          · rfl
          · intro w' hx; have hc := hx.all.1.1; have hf := hx.all.1.2; have hc' := hx.all.2.1; have hf' := hx.all.2.2; go_simp; first | done | rfl | exact ⟨rfl, rfl⟩
          simp only [Act.put, List.setIfInBounds_toArray, List.set]
          apply K.x_pure
          · rfl
          · rfl
          · intro w'; go_simp; first | done | exact K.vint (IntWalk.i64_in _ (by omega)) | rfl | exact ⟨rfl, rfl⟩
          simp only [Act.put, List.setIfInBounds_toArray, List.set]
          apply K.x_held
          · rfl
          · rfl
          · intro w' hx; have hc := hx.all.1.1; have hf := hx.all.1.2; have hc' := hx.all.2.1; have hf' := hx.all.2.2; go_simp; first | done | rfl | exact ⟨rfl, rfl⟩
          simp only [Act.put, List.setIfInBounds_toArray, List.set]
          iterate 3
            apply K.x_pure
            · rfl
            · rfl
            · intro w'; go_simp; first | done | exact K.vint (IntWalk.i64_in _ (by omega)) | rfl | exact ⟨rfl, rfl⟩
            simp only [Act.put, List.setIfInBounds_toArray, List.set]
          apply K.x_call_is
          · rfl
          · rfl
          · rfl
          · intro w'; go_simp; first | done | rfl | exact ⟨rfl, rfl⟩
          · intro w' hx hp; have hc := hx.all.1.1; have hf := hx.all.1.2; have hc' := hx.all.2.1; have hf' := hx.all.2.2; exact (by have := l22Scaled_any a.2 (b.2 - a.2) ((c.1 - a.1) * (d.2 - c.2) - (c.2 - a.2) * (d.1 - c.1)) ((b.1 - a.1) * (d.2 - c.2) - (b.2 - a.2) * (d.1 - c.1)) w' HM.out (by omega) (by omega) (by omega) (by omega) (by omega) (by omega) (by omega); rw [← Z.nearAny_pos _ _ HM.out, ← Hny.out] at this; exact K.same_ext this)
          intro w_19_ hx_19_
          simp only [Act.put, List.setIfInBounds_toArray, List.set]
          apply K.x_pure
          · rfl
          · rfl
          · intro w'; go_simp; first | done | exact K.vint (IntWalk.i64_in _ (by omega)) | rfl | exact ⟨rfl, rfl⟩
          simp only [Act.put, List.setIfInBounds_toArray, List.set]
          apply K.x_new
          · rfl
          · rfl
          · rfl
          · go_simp; first | done | omega
          · intro w'; go_simp; first | done | rfl | exact ⟨rfl, rfl⟩
          intro g10_21 w_21_ hx_21_ hg10_21 hb_21_
          simp only [Act.put, List.setIfInBounds_toArray, List.set]
          apply K.x_done
          intro w1 h_x
          have hx1 := hx_9_.trans (hx_19_.trans (hx_21_.trans h_x))
          have hb10_21 := K.Ext.block (h_x) hb_21_
          have cg10_21_0 : w1.cell? ⟨g10_21, 0, none⟩ = some (.int .i64 0) := K.cell_at hb10_21 rfl
          have fg10_21_0 : w1.frozen? ⟨g10_21, 0, none⟩ = false := K.thaw_at hb10_21
          have cg10_21_1 : w1.cell? ⟨g10_21, 1, none⟩ = some (.int .i64 0) := K.cell_at hb10_21 rfl
          have fg10_21_1 : w1.frozen? ⟨g10_21, 1, none⟩ = false := K.thaw_at hb10_21
          clear h_x hx_9_ hx_19_ hx_21_
          obtain ⟨⟨hcw1, hfw1⟩, hc'w1, hf'w1⟩ := hx1.all
          have c_w1_4_0 : w1.cell? ⟨w.heap.size + 1 + 1 + 1 + 1, 0, none⟩ = some (.int .i64 (0)) := hx1.cell_of (by go_simp); have f_w1_4_0 : w1.frozen? ⟨w.heap.size + 1 + 1 + 1 + 1, 0, none⟩ = false := hx1.thaw_of (by go_simp) (by go_simp); have c_w1_4_1 : w1.cell? ⟨w.heap.size + 1 + 1 + 1 + 1, 1, none⟩ = some (.int .i64 (0)) := hx1.cell_of (by go_simp); have f_w1_4_1 : w1.frozen? ⟨w.heap.size + 1 + 1 + 1 + 1, 1, none⟩ = false := hx1.thaw_of (by go_simp) (by go_simp)
          go_wp2_with fail
          refine NoPanic.normal ?_
          have n9 : ¬ g10_21 = w.heap.size + 1 + 1 + 1 + 1 := by omega
          have z2 : w.heap.size + 1 + 1 + 1 + 1 < w1.heap.size := World.block_lt_of_cell? w1 _ c_w1_4_0
          have z1 : g10_21 < w1.heap.size := World.block_lt_of_cell? w1 _ cg10_21_0
          go_wp2_with (go_at_call 33; refine K.call (by with_reducible rfl) (by with_reducible rfl) (l22Points_1 (a.1 + nx, a.2 + ny) _ _ (by go_simp) (by go_simp)) ?_; rintro e w' ⟨rfl, rfl⟩)
          exact bodyPost_ret (v := .tuple #[.agg #[.int .i64 0, .int .i64 0], .int .i64 3]) (by unfold results; rw [Try.results26]; go_simp) rfl ⟨by rw [HE.out], (by repeat' (first | with_reducible exact K.Ext.refl _ | with_reducible assumption | with_reducible refine K.Ext.drew ?_ | with_reducible refine K.Ext.alloc ?_ _ | with_reducible refine K.Ext.setCell ?_ ?_ _ | with_reducible refine K.Ext.trans ?_ (by with_reducible assumption) | (dsimp only; omega) | omega | exact K.Ext.refl _ | assumption | apply K.Ext.drew | refine K.Ext.alloc ?_ _ | refine K.Ext.setCell ?_ ?_ _ | (simp; done) | (simp; omega) | refine K.Ext.trans ?_ (by assumption)))⟩
        · have hk : Z.pts [(a.1 + nx, a.2 + ny)] = true := by rw [Z.pts1]; exact ho.out
          have HE : Hid (Z.CrossingOf a b c d = ((a.1 + nx, a.2 + ny), 0)) := Z.hide (by rw [HO.out, ho.out]; rfl)
          go_enter Try.func26, Try.ntmps26
          go_wp2_with (go_at_call 33; refine K.call (by with_reducible rfl) (by with_reducible rfl) (l22Points_4 a b c d _ _ (by go_simp) (by go_simp) (by go_simp) (by go_simp) (by go_simp) (by go_simp) (by go_simp) (by go_simp)) ?_; rintro e w' ⟨rfl, rfl⟩)
          refine K.wp_region_x 22 [0, 1, 0, 1, 0, 1, 0, 0, 0, 2, 0, 1, 0, 1, 0, 1, 0, 0, 0, 2, 0, 2] [K.SP.any, K.SP.any, K.SP.any, K.SP.any, K.SP.any, K.SP.any, K.SP.any, K.SP.any, K.SP.any, K.SP.is (.int .i64 (a.1 + nx)), K.SP.any, K.SP.any, K.SP.any, K.SP.any, K.SP.any, K.SP.any, K.SP.any, K.SP.any, K.SP.any, K.SP.is (.int .i64 (a.2 + ny)), K.SP.any, K.SP.new (w.heap.size + 6) (.cells #[.int .i64 0, .int .i64 0] 28)] (by kernel_rfl) (by kernel_rfl) ?_
          simp only [List.take_succ_cons, List.take_zero, List.drop_succ_cons, List.drop_zero]
          apply K.x_pure
          · rfl
          · rfl
          · intro w'; go_simp; first | done | exact K.vint (IntWalk.i64_in _ (by omega)) | rfl | exact ⟨rfl, rfl⟩
          simp only [Act.put, List.setIfInBounds_toArray, List.set]
          apply K.x_held
          · rfl
          · rfl
          · intro w' hx; have hc := hx.all.1.1; have hf := hx.all.1.2; have hc' := hx.all.2.1; have hf' := hx.all.2.2; go_simp; first | done | rfl | exact ⟨rfl, rfl⟩
          simp only [Act.put, List.setIfInBounds_toArray, List.set]
          apply K.x_pure
          · rfl
          · rfl
          · intro w'; go_simp; first | done | exact K.vint (IntWalk.i64_in _ (by omega)) | rfl | exact ⟨rfl, rfl⟩
          simp only [Act.put, List.setIfInBounds_toArray, List.set]
          apply K.x_held
          · rfl
          · rfl
          · intro w' hx; have hc := hx.all.1.1; have hf := hx.all.1.2; have hc' := hx.all.2.1; have hf' := hx.all.2.2; go_simp; first | done | rfl | exact ⟨rfl, rfl⟩
          simp only [Act.put, List.setIfInBounds_toArray, List.set]
          apply K.x_pure
          · rfl
          · rfl
          · intro w'; go_simp; first | done | exact K.vint (IntWalk.i64_in _ (by omega)) | rfl | exact ⟨rfl, rfl⟩
          simp only [Act.put, List.setIfInBounds_toArray, List.set]
          apply K.x_held
          · rfl
          · rfl
          · intro w' hx; have hc := hx.all.1.1; have hf := hx.all.1.2; have hc' := hx.all.2.1; have hf' := hx.all.2.2; go_simp; first | done | rfl | exact ⟨rfl, rfl⟩
          simp only [Act.put, List.setIfInBounds_toArray, List.set]
          iterate 3
            apply K.x_pure
            · rfl
            · rfl
            · intro w'; go_simp; first | done | exact K.vint (IntWalk.i64_in _ (by omega)) | rfl | exact ⟨rfl, rfl⟩
            simp only [Act.put, List.setIfInBounds_toArray, List.set]
          apply K.x_call_is
          · rfl
          · rfl
          · rfl
          · intro w'; go_simp; first | done | rfl | exact ⟨rfl, rfl⟩
          · intro w' hx hp; have hc := hx.all.1.1; have hf := hx.all.1.2; have hc' := hx.all.2.1; have hf' := hx.all.2.2; exact (by have := l22Scaled_any a.1 (b.1 - a.1) ((c.1 - a.1) * (d.2 - c.2) - (c.2 - a.2) * (d.1 - c.1)) ((b.1 - a.1) * (d.2 - c.2) - (b.2 - a.2) * (d.1 - c.1)) w' HM.out (by omega) (by omega) (by omega) (by omega) (by omega) (by omega) (by omega); rw [← Z.nearAny_pos _ _ HM.out, ← Hnx.out] at this; exact K.same_ext this)
          intro w_9_ hx_9_
          simp only [Act.put, List.setIfInBounds_toArray, List.set]
          apply K.x_pure
          · rfl
          · rfl
          · intro w'; go_simp; first | done | exact K.vint (IntWalk.i64_in _ (by omega)) | rfl | exact ⟨rfl, rfl⟩
          simp only [Act.put, List.setIfInBounds_toArray, List.set]
          apply K.x_held
          · rfl
          · rfl
          · intro w' hx; have hc := hx.all.1.1; have hf := hx.all.1.2; have hc' := hx.all.2.1; have hf' := hx.all.2.2; go_simp; first | done | rfl | exact ⟨rfl, rfl⟩
          simp only [Act.put, List.setIfInBounds_toArray, List.set]
          apply K.x_pure
          · rfl
          · rfl
          · intro w'; go_simp; first | done | exact K.vint (IntWalk.i64_in _ (by omega)) | rfl | exact ⟨rfl, rfl⟩
          simp only [Act.put, List.setIfInBounds_toArray, List.set]
          apply K.x_held
          · rfl
          · rfl
          · intro w' hx; have hc := hx.all.1.1; have hf := hx.all.1.2; have hc' := hx.all.2.1; have hf' := hx.all.2.2; go_simp; first | done | rfl | exact ⟨rfl, rfl⟩
          simp only [Act.put, List.setIfInBounds_toArray, List.set]
          apply K.x_pure
          · rfl
          · rfl
          · intro w'; go_simp; first | done | exact K.vint (IntWalk.i64_in _ (by omega)) | rfl | exact ⟨rfl, rfl⟩
          simp only [Act.put, List.setIfInBounds_toArray, List.set]
          apply K.x_held
          · rfl
          · rfl
          · intro w' hx; have hc := hx.all.1.1; have hf := hx.all.1.2; have hc' := hx.all.2.1; have hf' := hx.all.2.2; go_simp; first | done | rfl | exact ⟨rfl, rfl⟩
          simp only [Act.put, List.setIfInBounds_toArray, List.set]
          iterate 3
            apply K.x_pure
            · rfl
            · rfl
            · intro w'; go_simp; first | done | exact K.vint (IntWalk.i64_in _ (by omega)) | rfl | exact ⟨rfl, rfl⟩
            simp only [Act.put, List.setIfInBounds_toArray, List.set]
          apply K.x_call_is
          · rfl
          · rfl
          · rfl
          · intro w'; go_simp; first | done | rfl | exact ⟨rfl, rfl⟩
          · intro w' hx hp; have hc := hx.all.1.1; have hf := hx.all.1.2; have hc' := hx.all.2.1; have hf' := hx.all.2.2; exact (by have := l22Scaled_any a.2 (b.2 - a.2) ((c.1 - a.1) * (d.2 - c.2) - (c.2 - a.2) * (d.1 - c.1)) ((b.1 - a.1) * (d.2 - c.2) - (b.2 - a.2) * (d.1 - c.1)) w' HM.out (by omega) (by omega) (by omega) (by omega) (by omega) (by omega) (by omega); rw [← Z.nearAny_pos _ _ HM.out, ← Hny.out] at this; exact K.same_ext this)
          intro w_19_ hx_19_
          simp only [Act.put, List.setIfInBounds_toArray, List.set]
          apply K.x_pure
          · rfl
          · rfl
          · intro w'; go_simp; first | done | exact K.vint (IntWalk.i64_in _ (by omega)) | rfl | exact ⟨rfl, rfl⟩
          simp only [Act.put, List.setIfInBounds_toArray, List.set]
          apply K.x_new
          · rfl
          · rfl
          · rfl
          · go_simp; first | done | omega
          · intro w'; go_simp; first | done | rfl | exact ⟨rfl, rfl⟩
          intro g10_21 w_21_ hx_21_ hg10_21 hb_21_
          simp only [Act.put, List.setIfInBounds_toArray, List.set]
          apply K.x_done
          intro w1 h_x
          have hx1 := hx_9_.trans (hx_19_.trans (hx_21_.trans h_x))
          have hb10_21 := K.Ext.block (h_x) hb_21_
          have cg10_21_0 : w1.cell? ⟨g10_21, 0, none⟩ = some (.int .i64 0) := K.cell_at hb10_21 rfl
          have fg10_21_0 : w1.frozen? ⟨g10_21, 0, none⟩ = false := K.thaw_at hb10_21
          have cg10_21_1 : w1.cell? ⟨g10_21, 1, none⟩ = some (.int .i64 0) := K.cell_at hb10_21 rfl
          have fg10_21_1 : w1.frozen? ⟨g10_21, 1, none⟩ = false := K.thaw_at hb10_21
          clear h_x hx_9_ hx_19_ hx_21_
          obtain ⟨⟨hcw1, hfw1⟩, hc'w1, hf'w1⟩ := hx1.all
          have c_w1_4_0 : w1.cell? ⟨w.heap.size + 1 + 1 + 1 + 1, 0, none⟩ = some (.int .i64 (0)) := hx1.cell_of (by go_simp); have f_w1_4_0 : w1.frozen? ⟨w.heap.size + 1 + 1 + 1 + 1, 0, none⟩ = false := hx1.thaw_of (by go_simp) (by go_simp); have c_w1_4_1 : w1.cell? ⟨w.heap.size + 1 + 1 + 1 + 1, 1, none⟩ = some (.int .i64 (0)) := hx1.cell_of (by go_simp); have f_w1_4_1 : w1.frozen? ⟨w.heap.size + 1 + 1 + 1 + 1, 1, none⟩ = false := hx1.thaw_of (by go_simp) (by go_simp)
          go_wp2_with fail
          refine NoPanic.normal ?_
          have n9 : ¬ g10_21 = w.heap.size + 1 + 1 + 1 + 1 := by omega
          have z2 : w.heap.size + 1 + 1 + 1 + 1 < w1.heap.size := World.block_lt_of_cell? w1 _ c_w1_4_0
          have z1 : g10_21 < w1.heap.size := World.block_lt_of_cell? w1 _ cg10_21_0
          go_wp2_with (go_at_call 33; refine K.call (by with_reducible rfl) (by with_reducible rfl) (l22Points_1 (a.1 + nx, a.2 + ny) _ _ (by go_simp) (by go_simp)) ?_; rintro e w' ⟨rfl, rfl⟩)
          exact bodyPost_ret (v := .tuple #[.agg #[.int .i64 (a.1 + nx), .int .i64 (a.2 + ny)], .int .i64 0]) (by unfold results; rw [Try.results26]; go_simp) rfl ⟨by rw [HE.out], (by repeat' (first | with_reducible exact K.Ext.refl _ | with_reducible assumption | with_reducible refine K.Ext.drew ?_ | with_reducible refine K.Ext.alloc ?_ _ | with_reducible refine K.Ext.setCell ?_ ?_ _ | with_reducible refine K.Ext.trans ?_ (by with_reducible assumption) | (dsimp only; omega) | omega | exact K.Ext.refl _ | assumption | apply K.Ext.drew | refine K.Ext.alloc ?_ _ | refine K.Ext.setCell ?_ ?_ _ | (simp; done) | (simp; omega) | refine K.Ext.trans ?_ (by assumption)))⟩
end Go.Proofs.Ytgepjmfjeidbaaa
