/-
  POINTS: deviations, both sides.
-/
import Derived.Test.YtgepjmfjeidbaaaPts2
set_option linter.unusedVariables false
namespace Go.Proofs.Ytgepjmfjeidbaaa
open Go.RowKit

theorem deviation_any (p a b : Z.Pt) (w : World) (hp : Z.okPt p = true) (ha : Z.okPt a = true) (hb : Z.okPt b = true) (hn : b.1 - a.1 ≠ 0) :
    Calls Try.prog 36 #[.agg #[.int .i64 p.1, .int .i64 p.2], .agg #[.int .i64 a.1, .int .i64 a.2], .agg #[.int .i64 b.1, .int .i64 b.2]] w fun e w' => e = .returned (.int .i64 (Z.dev p a b)) ∧ K.Ext w w' := by
  obtain ⟨⟨a1, a2⟩, a3, a4⟩ := (Z.okPt_iff a).1 ha
  obtain ⟨⟨b1, b2⟩, b3, b4⟩ := (Z.okPt_iff b).1 hb
  obtain ⟨n1, n2⟩ := Z.area_bd a b p ha hb hp
  have HA := Z.hide ha
  have HB := Z.hide hb
  have HP := Z.hide hp
  clear ha hb hp
  by_cases s1 : 0 ≤ Z.area a b p
  · by_cases s2 : 0 < b.1 - a.1
    · have HE : Hid (Z.dev p a b = Z.cl (Z.area a b p) (b.1 - a.1)) := Z.hide (by unfold Z.dev; rw [Z.ab_of_nonneg s1, Z.ab_of_nonneg (by omega)])
      clear hn
      go_enter Try.func36, Try.ntmps36
      go_wp2_with (first | (go_at_call 41; refine K.call (by with_reducible rfl) (by with_reducible rfl) (doubleArea_any a b p _ HA.out HB.out HP.out) ?_; rintro e w1 ⟨rfl, hw1⟩; obtain ⟨hcw1, hfw1⟩ := hw1.facts) | (go_at_call 46; refine K.call (by with_reducible rfl) (by with_reducible rfl) (up_any (_) (_) _ (by omega) (by omega) (by omega)) ?_; rintro e w' ⟨rfl, rfl⟩))
      go_ret
      exact ⟨K.ri (by rw [HE.out]), (by repeat' (first | with_reducible exact K.Ext.refl _ | with_reducible assumption | with_reducible refine K.Ext.drew ?_ | with_reducible refine K.Ext.alloc ?_ _ | with_reducible refine K.Ext.setCell ?_ ?_ _ | with_reducible refine K.Ext.trans ?_ (by with_reducible assumption) | (dsimp only; omega) | omega | exact K.Ext.refl _ | assumption | apply K.Ext.drew | refine K.Ext.alloc ?_ _ | refine K.Ext.setCell ?_ ?_ _ | (simp; done) | (simp; omega) | refine K.Ext.trans ?_ (by assumption)))⟩
    · have s3 : b.1 - a.1 < 0 := by omega
      have HE : Hid (Z.dev p a b = Z.cl (Z.area a b p) (-(b.1 - a.1))) := Z.hide (by unfold Z.dev; rw [Z.ab_of_nonneg s1, Z.ab_of_neg s3])
      clear hn
      go_enter Try.func36, Try.ntmps36
      go_wp2_with (first | (go_at_call 41; refine K.call (by with_reducible rfl) (by with_reducible rfl) (doubleArea_any a b p _ HA.out HB.out HP.out) ?_; rintro e w1 ⟨rfl, hw1⟩; obtain ⟨hcw1, hfw1⟩ := hw1.facts) | (go_at_call 46; refine K.call (by with_reducible rfl) (by with_reducible rfl) (up_any (_) (_) _ (by omega) (by omega) (by omega)) ?_; rintro e w' ⟨rfl, rfl⟩))
      go_ret
      exact ⟨K.ri (by rw [HE.out]), (by repeat' (first | with_reducible exact K.Ext.refl _ | with_reducible assumption | with_reducible refine K.Ext.drew ?_ | with_reducible refine K.Ext.alloc ?_ _ | with_reducible refine K.Ext.setCell ?_ ?_ _ | with_reducible refine K.Ext.trans ?_ (by with_reducible assumption) | (dsimp only; omega) | omega | exact K.Ext.refl _ | assumption | apply K.Ext.drew | refine K.Ext.alloc ?_ _ | refine K.Ext.setCell ?_ ?_ _ | (simp; done) | (simp; omega) | refine K.Ext.trans ?_ (by assumption)))⟩
  · have s4 : Z.area a b p < 0 := by omega
    by_cases s2 : 0 < b.1 - a.1
    · have HE : Hid (Z.dev p a b = Z.cl (-Z.area a b p) (b.1 - a.1)) := Z.hide (by unfold Z.dev; rw [Z.ab_of_neg s4, Z.ab_of_nonneg (by omega)])
      clear hn
      go_enter Try.func36, Try.ntmps36
      go_wp2_with (first | (go_at_call 41; refine K.call (by with_reducible rfl) (by with_reducible rfl) (doubleArea_any a b p _ HA.out HB.out HP.out) ?_; rintro e w1 ⟨rfl, hw1⟩; obtain ⟨hcw1, hfw1⟩ := hw1.facts) | (go_at_call 46; refine K.call (by with_reducible rfl) (by with_reducible rfl) (up_any (_) (_) _ (by omega) (by omega) (by omega)) ?_; rintro e w' ⟨rfl, rfl⟩))
      go_ret
      exact ⟨K.ri (by rw [HE.out]), (by repeat' (first | with_reducible exact K.Ext.refl _ | with_reducible assumption | with_reducible refine K.Ext.drew ?_ | with_reducible refine K.Ext.alloc ?_ _ | with_reducible refine K.Ext.setCell ?_ ?_ _ | with_reducible refine K.Ext.trans ?_ (by with_reducible assumption) | (dsimp only; omega) | omega | exact K.Ext.refl _ | assumption | apply K.Ext.drew | refine K.Ext.alloc ?_ _ | refine K.Ext.setCell ?_ ?_ _ | (simp; done) | (simp; omega) | refine K.Ext.trans ?_ (by assumption)))⟩
    · have s3 : b.1 - a.1 < 0 := by omega
      have HE : Hid (Z.dev p a b = Z.cl (-Z.area a b p) (-(b.1 - a.1))) := Z.hide (by unfold Z.dev; rw [Z.ab_of_neg s4, Z.ab_of_neg s3])
      clear hn
      go_enter Try.func36, Try.ntmps36
      go_wp2_with (first | (go_at_call 41; refine K.call (by with_reducible rfl) (by with_reducible rfl) (doubleArea_any a b p _ HA.out HB.out HP.out) ?_; rintro e w1 ⟨rfl, hw1⟩; obtain ⟨hcw1, hfw1⟩ := hw1.facts) | (go_at_call 46; refine K.call (by with_reducible rfl) (by with_reducible rfl) (up_any (_) (_) _ (by omega) (by omega) (by omega)) ?_; rintro e w' ⟨rfl, rfl⟩))
      go_ret
      exact ⟨K.ri (by rw [HE.out]), (by repeat' (first | with_reducible exact K.Ext.refl _ | with_reducible assumption | with_reducible refine K.Ext.drew ?_ | with_reducible refine K.Ext.alloc ?_ _ | with_reducible refine K.Ext.setCell ?_ ?_ _ | with_reducible refine K.Ext.trans ?_ (by with_reducible assumption) | (dsimp only; omega) | omega | exact K.Ext.refl _ | assumption | apply K.Ext.drew | refine K.Ext.alloc ?_ _ | refine K.Ext.setCell ?_ ?_ _ | (simp; done) | (simp; omega) | refine K.Ext.trans ?_ (by assumption)))⟩
end Go.Proofs.Ytgepjmfjeidbaaa
