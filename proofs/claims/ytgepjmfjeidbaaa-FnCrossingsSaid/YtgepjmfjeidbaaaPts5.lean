/-
  POINTS: deviations, both sides: the reference's, and the exported functions.
-/
import Derived.Test.YtgepjmfjeidbaaaPts4
set_option linter.unusedVariables false
namespace Go.Proofs.Ytgepjmfjeidbaaa
open Go.RowKit

theorem l22Deviation_any (p a b : Z.Pt) (w : World) (hp : Z.okPt p = true) (ha : Z.okPt a = true) (hb : Z.okPt b = true) (hn : b.1 - a.1 ≠ 0) :
    Calls Try.prog 34 #[.agg #[.int .i64 p.1, .int .i64 p.2], .agg #[.int .i64 a.1, .int .i64 a.2], .agg #[.int .i64 b.1, .int .i64 b.2]] w fun e w' => e = .returned (.int .i64 (Z.dev p a b)) ∧ K.Ext w w' := by
  obtain ⟨⟨a1, a2⟩, a3, a4⟩ := (Z.okPt_iff a).1 ha
  obtain ⟨⟨b1, b2⟩, b3, b4⟩ := (Z.okPt_iff b).1 hb
  obtain ⟨⟨p1, p2⟩, p3, p4⟩ := (Z.okPt_iff p).1 hp
  obtain ⟨n1, n2⟩ := Z.area_bd a b p ha hb hp
  obtain ⟨m1, m2⟩ := Z.mul_bd (p.2 - a.2) (b.1 - a.1) 200000 200000 (by omega) (by omega) (by omega) (by omega)
  obtain ⟨m3, m4⟩ := Z.mul_bd (b.2 - a.2) (p.1 - a.1) 200000 200000 (by omega) (by omega) (by omega) (by omega)
  have q1 := Z.ab_nonneg (Z.area a b p)
  have q2 := Z.ab_le (Z.area a b p) _ n1 n2
  have q3 := Z.ab_pos _ hn
  have q4 := Z.ab_le (b.1 - a.1) 200000 (by omega) (by omega)
  have HR : Hid ((p.2 - a.2) * (b.1 - a.1) - (b.2 - a.2) * (p.1 - a.1) = Z.area a b p) := Z.hide (by unfold Z.area; rw [Int.mul_comm (p.2 - a.2), Int.mul_comm (p.1 - a.1)])
  clear ha hb hp hn
  go_enter Try.func34, Try.ntmps34
  go_wp2_with fail
  refine Calls.mono (l01Abs_any _ _ (by omega) (by omega)) ?_
  rintro e w1 ⟨rfl, rfl⟩
  rw [HR.out]
  go_wp2_with fail
  refine Calls.mono (l01Abs_any _ _ (by omega) (by omega)) ?_
  rintro e w1 ⟨rfl, rfl⟩
  go_wp2_with fail
  refine Calls.mono (l01Ceil_any _ _ _ (by omega) (by omega) (by omega) (by omega) (by omega)) ?_
  rintro e w1 ⟨rfl, rfl⟩
  go_wp2_with fail
  go_ret
  exact ⟨K.ri rfl, (by repeat' (first | with_reducible exact K.Ext.refl _ | with_reducible assumption | with_reducible refine K.Ext.drew ?_ | with_reducible refine K.Ext.alloc ?_ _ | with_reducible refine K.Ext.setCell ?_ ?_ _ | with_reducible refine K.Ext.trans ?_ (by with_reducible assumption) | (dsimp only; omega) | omega | exact K.Ext.refl _ | assumption | apply K.Ext.drew | refine K.Ext.alloc ?_ _ | refine K.Ext.setCell ?_ ?_ _ | (simp; done) | (simp; omega) | refine K.Ext.trans ?_ (by assumption)))⟩
set_option maxHeartbeats 400000 in
theorem spec_DeviationOf (p a b : Z.Pt) (w : World) :
    Calls Try.prog 20 #[.agg #[.int .i64 p.1, .int .i64 p.2], .agg #[.int .i64 a.1, .int .i64 a.2], .agg #[.int .i64 b.1, .int .i64 b.2]] w fun e w' => e = .returned (.tuple #[.int .i64 (Z.DeviationOf p a b).1, .int .i64 (Z.DeviationOf p a b).2]) ∧ K.Ext w w' := by
  cases hp : Z.pts [p, a, b]
  · have HE : Hid (Z.DeviationOf p a b = (0, 2)) := Z.hide (by simp [Z.DeviationOf, hp])
    go_enter Try.func20, Try.ntmps20
    go_wp2_with (go_at_call 33; refine K.call (by with_reducible rfl) (by with_reducible rfl) (l22Points_3 p a b _ _ (by go_simp) (by go_simp) (by go_simp) (by go_simp) (by go_simp) (by go_simp)) ?_; rintro e w' ⟨rfl, rfl⟩)
    go_ret2
    exact ⟨by rw [HE.out]; rfl, (by repeat' (first | with_reducible exact K.Ext.refl _ | with_reducible assumption | with_reducible refine K.Ext.drew ?_ | with_reducible refine K.Ext.alloc ?_ _ | with_reducible refine K.Ext.setCell ?_ ?_ _ | with_reducible refine K.Ext.trans ?_ (by with_reducible assumption) | (dsimp only; omega) | omega | exact K.Ext.refl _ | assumption | apply K.Ext.drew | refine K.Ext.alloc ?_ _ | refine K.Ext.setCell ?_ ?_ _ | (simp; done) | (simp; omega) | refine K.Ext.trans ?_ (by assumption)))⟩
  · obtain ⟨HP, HA, HB⟩ : Hid (Z.okPt p = true) ∧ Hid (Z.okPt a = true) ∧ Hid (Z.okPt b = true) := (Z.pts3_iff p a b).1 hp
    by_cases hq : a.1 = b.1
    · have HE : Hid (Z.DeviationOf p a b = (0, 5)) := Z.hide (by simp [Z.DeviationOf, hp, hq])
      have hq' : (a.1 == b.1) = true := by simp [hq]
      clear hq
      go_enter Try.func20, Try.ntmps20
      go_wp2_with (go_at_call 33; refine K.call (by with_reducible rfl) (by with_reducible rfl) (l22Points_3 p a b _ _ (by go_simp) (by go_simp) (by go_simp) (by go_simp) (by go_simp) (by go_simp)) ?_; rintro e w' ⟨rfl, rfl⟩)
      go_ret2
      exact ⟨by rw [HE.out]; rfl, (by repeat' (first | with_reducible exact K.Ext.refl _ | with_reducible assumption | with_reducible refine K.Ext.drew ?_ | with_reducible refine K.Ext.alloc ?_ _ | with_reducible refine K.Ext.setCell ?_ ?_ _ | with_reducible refine K.Ext.trans ?_ (by with_reducible assumption) | (dsimp only; omega) | omega | exact K.Ext.refl _ | assumption | apply K.Ext.drew | refine K.Ext.alloc ?_ _ | refine K.Ext.setCell ?_ ?_ _ | (simp; done) | (simp; omega) | refine K.Ext.trans ?_ (by assumption)))⟩
    · have HE : Hid (Z.DeviationOf p a b = (Z.dev p a b, 0)) := Z.hide (by simp [Z.DeviationOf, hp, hq])
      have hq' : (a.1 == b.1) = false := by simp [hq]
      have HQ : Hid (b.1 - a.1 ≠ 0) := Z.hide (by omega)
      clear hq
      go_enter Try.func20, Try.ntmps20
      go_wp2_with (first | (go_at_call 33; refine K.call (by with_reducible rfl) (by with_reducible rfl) (l22Points_3 p a b _ _ (by go_simp) (by go_simp) (by go_simp) (by go_simp) (by go_simp) (by go_simp)) ?_; rintro e w' ⟨rfl, rfl⟩) | (go_at_call 34; refine K.call (by with_reducible rfl) (by with_reducible rfl) (l22Deviation_any p a b _ HP.out HA.out HB.out HQ.out) ?_; rintro e w1 ⟨rfl, hw1⟩; obtain ⟨hcw1, hfw1⟩ := hw1.facts))
      go_ret2
      exact ⟨by rw [HE.out]; rfl, (by repeat' (first | with_reducible exact K.Ext.refl _ | with_reducible assumption | with_reducible refine K.Ext.drew ?_ | with_reducible refine K.Ext.alloc ?_ _ | with_reducible refine K.Ext.setCell ?_ ?_ _ | with_reducible refine K.Ext.trans ?_ (by with_reducible assumption) | (dsimp only; omega) | omega | exact K.Ext.refl _ | assumption | apply K.Ext.drew | refine K.Ext.alloc ?_ _ | refine K.Ext.setCell ?_ ?_ _ | (simp; done) | (simp; omega) | refine K.Ext.trans ?_ (by assumption)))⟩
set_option maxHeartbeats 400000 in
theorem impl_DeviationOf (p a b : Z.Pt) (w : World) :
    Calls Try.prog 19 #[.agg #[.int .i64 p.1, .int .i64 p.2], .agg #[.int .i64 a.1, .int .i64 a.2], .agg #[.int .i64 b.1, .int .i64 b.2]] w fun e w' => e = .returned (.tuple #[.int .i64 (Z.DeviationOf p a b).1, .int .i64 (Z.DeviationOf p a b).2]) ∧ K.Ext w w' := by
  cases hp : Z.pts [p, a, b]
  · have HE : Hid (Z.DeviationOf p a b = (0, 2)) := Z.hide (by simp [Z.DeviationOf, hp])
    go_enter Try.func19, Try.ntmps19
    go_wp2_with (go_at_call 35; refine K.call (by with_reducible rfl) (by with_reducible rfl) (arePoints_3 p a b _ _ (by go_simp) (by go_simp) (by go_simp) (by go_simp) (by go_simp) (by go_simp) (by go_simp)) ?_; rintro e w0 ⟨rfl, hw0⟩; obtain ⟨hcw0, hfw0⟩ := hw0.facts)
    go_ret2
    exact ⟨by rw [HE.out]; rfl, (by repeat' (first | with_reducible exact K.Ext.refl _ | with_reducible assumption | with_reducible refine K.Ext.drew ?_ | with_reducible refine K.Ext.alloc ?_ _ | with_reducible refine K.Ext.setCell ?_ ?_ _ | with_reducible refine K.Ext.trans ?_ (by with_reducible assumption) | (dsimp only; omega) | omega | exact K.Ext.refl _ | assumption | apply K.Ext.drew | refine K.Ext.alloc ?_ _ | refine K.Ext.setCell ?_ ?_ _ | (simp; done) | (simp; omega) | refine K.Ext.trans ?_ (by assumption)))⟩
  · obtain ⟨HP, HA, HB⟩ : Hid (Z.okPt p = true) ∧ Hid (Z.okPt a = true) ∧ Hid (Z.okPt b = true) := (Z.pts3_iff p a b).1 hp
    by_cases hq : a.1 = b.1
    · have HE : Hid (Z.DeviationOf p a b = (0, 5)) := Z.hide (by simp [Z.DeviationOf, hp, hq])
      have hq' : (a.1 == b.1) = true := by simp [hq]
      clear hq
      go_enter Try.func19, Try.ntmps19
      go_wp2_with (go_at_call 35; refine K.call (by with_reducible rfl) (by with_reducible rfl) (arePoints_3 p a b _ _ (by go_simp) (by go_simp) (by go_simp) (by go_simp) (by go_simp) (by go_simp) (by go_simp)) ?_; rintro e w0 ⟨rfl, hw0⟩; obtain ⟨hcw0, hfw0⟩ := hw0.facts)
      go_ret2
      exact ⟨by rw [HE.out]; rfl, (by repeat' (first | with_reducible exact K.Ext.refl _ | with_reducible assumption | with_reducible refine K.Ext.drew ?_ | with_reducible refine K.Ext.alloc ?_ _ | with_reducible refine K.Ext.setCell ?_ ?_ _ | with_reducible refine K.Ext.trans ?_ (by with_reducible assumption) | (dsimp only; omega) | omega | exact K.Ext.refl _ | assumption | apply K.Ext.drew | refine K.Ext.alloc ?_ _ | refine K.Ext.setCell ?_ ?_ _ | (simp; done) | (simp; omega) | refine K.Ext.trans ?_ (by assumption)))⟩
    · have HE : Hid (Z.DeviationOf p a b = (Z.dev p a b, 0)) := Z.hide (by simp [Z.DeviationOf, hp, hq])
      have hq' : (a.1 == b.1) = false := by simp [hq]
      have HQ : Hid (b.1 - a.1 ≠ 0) := Z.hide (by omega)
      clear hq
      go_enter Try.func19, Try.ntmps19
      go_wp2_with (first | (go_at_call 35; refine K.call (by with_reducible rfl) (by with_reducible rfl) (arePoints_3 p a b _ _ (by go_simp) (by go_simp) (by go_simp) (by go_simp) (by go_simp) (by go_simp) (by go_simp)) ?_; rintro e w0 ⟨rfl, hw0⟩; obtain ⟨hcw0, hfw0⟩ := hw0.facts) | (go_at_call 36; refine K.call (by with_reducible rfl) (by with_reducible rfl) (deviation_any p a b _ HP.out HA.out HB.out HQ.out) ?_; rintro e w1 ⟨rfl, hw1⟩; obtain ⟨hcw1, hfw1⟩ := hw1.facts))
      go_ret2
      exact ⟨by rw [HE.out]; rfl, (by repeat' (first | with_reducible exact K.Ext.refl _ | with_reducible assumption | with_reducible refine K.Ext.drew ?_ | with_reducible refine K.Ext.alloc ?_ _ | with_reducible refine K.Ext.setCell ?_ ?_ _ | with_reducible refine K.Ext.trans ?_ (by with_reducible assumption) | (dsimp only; omega) | omega | exact K.Ext.refl _ | assumption | apply K.Ext.drew | refine K.Ext.alloc ?_ _ | refine K.Ext.setCell ?_ ?_ _ | (simp; done) | (simp; omega) | refine K.Ext.trans ?_ (by assumption)))⟩
end Go.Proofs.Ytgepjmfjeidbaaa
