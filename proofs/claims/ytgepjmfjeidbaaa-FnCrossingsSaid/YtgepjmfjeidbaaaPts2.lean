/-
  POINTS: areas, lines, middles, both sides.
-/
import Derived.Test.YtgepjmfjeidbaaaPts
set_option linter.unusedVariables false
namespace Go.Proofs.Ytgepjmfjeidbaaa
open Go.RowKit

theorem l22Area_any (a b c : Z.Pt) (w : World) (ha : Z.okPt a = true) (hb : Z.okPt b = true) (hc : Z.okPt c = true) :
    Calls Try.prog 42 #[.agg #[.int .i64 a.1, .int .i64 a.2], .agg #[.int .i64 b.1, .int .i64 b.2], .agg #[.int .i64 c.1, .int .i64 c.2]] w fun e w' => e = .returned (.int .i64 (Z.area a b c)) ∧ K.Ext w w' := by
  obtain ⟨⟨a1, a2⟩, a3, a4⟩ := (Z.okPt_iff a).1 ha
  obtain ⟨⟨b1, b2⟩, b3, b4⟩ := (Z.okPt_iff b).1 hb
  obtain ⟨⟨c1, c2⟩, c3, c4⟩ := (Z.okPt_iff c).1 hc
  obtain ⟨m1, m2⟩ := Z.mul_bd (b.1 - a.1) (c.2 - a.2) 200000 200000 (by omega) (by omega) (by omega) (by omega)
  obtain ⟨m3, m4⟩ := Z.mul_bd (c.1 - a.1) (b.2 - a.2) 200000 200000 (by omega) (by omega) (by omega) (by omega)
  clear ha hb hc
  go_enter Try.func42, Try.ntmps42
  go_wp2
  go_ret
  exact ⟨K.ri rfl, (by repeat' (first | with_reducible exact K.Ext.refl _ | with_reducible assumption | with_reducible refine K.Ext.drew ?_ | with_reducible refine K.Ext.alloc ?_ _ | with_reducible refine K.Ext.setCell ?_ ?_ _ | with_reducible refine K.Ext.trans ?_ (by with_reducible assumption) | (dsimp only; omega) | omega | exact K.Ext.refl _ | assumption | apply K.Ext.drew | refine K.Ext.alloc ?_ _ | refine K.Ext.setCell ?_ ?_ _ | (simp; done) | (simp; omega) | refine K.Ext.trans ?_ (by assumption)))⟩
theorem doubleArea_any (a b c : Z.Pt) (w : World) (ha : Z.okPt a = true) (hb : Z.okPt b = true) (hc : Z.okPt c = true) :
    Calls Try.prog 41 #[.agg #[.int .i64 a.1, .int .i64 a.2], .agg #[.int .i64 b.1, .int .i64 b.2], .agg #[.int .i64 c.1, .int .i64 c.2]] w fun e w' => e = .returned (.int .i64 (Z.area a b c)) ∧ K.Ext w w' := by
  obtain ⟨⟨a1, a2⟩, a3, a4⟩ := (Z.okPt_iff a).1 ha
  obtain ⟨⟨b1, b2⟩, b3, b4⟩ := (Z.okPt_iff b).1 hb
  obtain ⟨⟨c1, c2⟩, c3, c4⟩ := (Z.okPt_iff c).1 hc
  obtain ⟨m1, m2⟩ := Z.mul_bd (b.1 - a.1) (c.2 - a.2) 200000 200000 (by omega) (by omega) (by omega) (by omega)
  obtain ⟨m3, m4⟩ := Z.mul_bd (c.1 - a.1) (b.2 - a.2) 200000 200000 (by omega) (by omega) (by omega) (by omega)
  clear ha hb hc
  go_enter Try.func41, Try.ntmps41
  go_wp2
  go_ret
  exact ⟨K.ri rfl, (by repeat' (first | with_reducible exact K.Ext.refl _ | with_reducible assumption | with_reducible refine K.Ext.drew ?_ | with_reducible refine K.Ext.alloc ?_ _ | with_reducible refine K.Ext.setCell ?_ ?_ _ | with_reducible refine K.Ext.trans ?_ (by with_reducible assumption) | (dsimp only; omega) | omega | exact K.Ext.refl _ | assumption | apply K.Ext.drew | refine K.Ext.alloc ?_ _ | refine K.Ext.setCell ?_ ?_ _ | (simp; done) | (simp; omega) | refine K.Ext.trans ?_ (by assumption)))⟩
theorem spec_DoubleArea (a b c : Z.Pt) (w : World) :
    Calls Try.prog 15 #[.agg #[.int .i64 a.1, .int .i64 a.2], .agg #[.int .i64 b.1, .int .i64 b.2], .agg #[.int .i64 c.1, .int .i64 c.2]] w fun e w' => e = .returned (.tuple #[.int .i64 (Z.DoubleArea a b c).1, .int .i64 (Z.DoubleArea a b c).2]) ∧ K.Ext w w' := by
  cases hp : Z.pts [a, b, c]
  · have HE : Hid (Z.DoubleArea a b c = (0, 2)) := Z.hide (by simp [Z.DoubleArea, hp])
    go_enter Try.func15, Try.ntmps15
    go_wp2_with (go_at_call 33; refine K.call (by with_reducible rfl) (by with_reducible rfl) (l22Points_3 a b c _ _ (by go_simp) (by go_simp) (by go_simp) (by go_simp) (by go_simp) (by go_simp)) ?_; rintro e w' ⟨rfl, rfl⟩)
    go_ret2
    exact ⟨by rw [HE.out]; rfl, (by repeat' (first | with_reducible exact K.Ext.refl _ | with_reducible assumption | with_reducible refine K.Ext.drew ?_ | with_reducible refine K.Ext.alloc ?_ _ | with_reducible refine K.Ext.setCell ?_ ?_ _ | with_reducible refine K.Ext.trans ?_ (by with_reducible assumption) | (dsimp only; omega) | omega | exact K.Ext.refl _ | assumption | apply K.Ext.drew | refine K.Ext.alloc ?_ _ | refine K.Ext.setCell ?_ ?_ _ | (simp; done) | (simp; omega) | refine K.Ext.trans ?_ (by assumption)))⟩
  · have HE : Hid (Z.DoubleArea a b c = (Z.area a b c, 0)) := Z.hide (by simp [Z.DoubleArea, hp])
    obtain ⟨HA, HB, HC⟩ : Hid (Z.okPt a = true) ∧ Hid (Z.okPt b = true) ∧ Hid (Z.okPt c = true) := (Z.pts3_iff a b c).1 hp
    go_enter Try.func15, Try.ntmps15
    go_wp2_with (first | (go_at_call 33; refine K.call (by with_reducible rfl) (by with_reducible rfl) (l22Points_3 a b c _ _ (by go_simp) (by go_simp) (by go_simp) (by go_simp) (by go_simp) (by go_simp)) ?_; rintro e w' ⟨rfl, rfl⟩) | (go_at_call 42; refine K.call (by with_reducible rfl) (by with_reducible rfl) (l22Area_any a b c _ HA.out HB.out HC.out) ?_; rintro e w1 ⟨rfl, hw1⟩; obtain ⟨hcw1, hfw1⟩ := hw1.facts))
    go_ret2
    exact ⟨by rw [HE.out]; rfl, (by repeat' (first | with_reducible exact K.Ext.refl _ | with_reducible assumption | with_reducible refine K.Ext.drew ?_ | with_reducible refine K.Ext.alloc ?_ _ | with_reducible refine K.Ext.setCell ?_ ?_ _ | with_reducible refine K.Ext.trans ?_ (by with_reducible assumption) | (dsimp only; omega) | omega | exact K.Ext.refl _ | assumption | apply K.Ext.drew | refine K.Ext.alloc ?_ _ | refine K.Ext.setCell ?_ ?_ _ | (simp; done) | (simp; omega) | refine K.Ext.trans ?_ (by assumption)))⟩
theorem impl_DoubleArea (a b c : Z.Pt) (w : World) :
    Calls Try.prog 14 #[.agg #[.int .i64 a.1, .int .i64 a.2], .agg #[.int .i64 b.1, .int .i64 b.2], .agg #[.int .i64 c.1, .int .i64 c.2]] w fun e w' => e = .returned (.tuple #[.int .i64 (Z.DoubleArea a b c).1, .int .i64 (Z.DoubleArea a b c).2]) ∧ K.Ext w w' := by
  cases hp : Z.pts [a, b, c]
  · have HE : Hid (Z.DoubleArea a b c = (0, 2)) := Z.hide (by simp [Z.DoubleArea, hp])
    go_enter Try.func14, Try.ntmps14
    go_wp2_with (go_at_call 35; refine K.call (by with_reducible rfl) (by with_reducible rfl) (arePoints_3 a b c _ _ (by go_simp) (by go_simp) (by go_simp) (by go_simp) (by go_simp) (by go_simp) (by go_simp)) ?_; rintro e w1 ⟨rfl, hw1⟩; obtain ⟨hcw1, hfw1⟩ := hw1.facts)
    go_ret2
    exact ⟨by rw [HE.out]; rfl, (by repeat' (first | with_reducible exact K.Ext.refl _ | with_reducible assumption | with_reducible refine K.Ext.drew ?_ | with_reducible refine K.Ext.alloc ?_ _ | with_reducible refine K.Ext.setCell ?_ ?_ _ | with_reducible refine K.Ext.trans ?_ (by with_reducible assumption) | (dsimp only; omega) | omega | exact K.Ext.refl _ | assumption | apply K.Ext.drew | refine K.Ext.alloc ?_ _ | refine K.Ext.setCell ?_ ?_ _ | (simp; done) | (simp; omega) | refine K.Ext.trans ?_ (by assumption)))⟩
  · have HE : Hid (Z.DoubleArea a b c = (Z.area a b c, 0)) := Z.hide (by simp [Z.DoubleArea, hp])
    obtain ⟨HA, HB, HC⟩ : Hid (Z.okPt a = true) ∧ Hid (Z.okPt b = true) ∧ Hid (Z.okPt c = true) := (Z.pts3_iff a b c).1 hp
    go_enter Try.func14, Try.ntmps14
    go_wp2_with (first | (go_at_call 35; refine K.call (by with_reducible rfl) (by with_reducible rfl) (arePoints_3 a b c _ _ (by go_simp) (by go_simp) (by go_simp) (by go_simp) (by go_simp) (by go_simp) (by go_simp)) ?_; rintro e w1 ⟨rfl, hw1⟩; obtain ⟨hcw1, hfw1⟩ := hw1.facts) | (go_at_call 41; refine K.call (by with_reducible rfl) (by with_reducible rfl) (doubleArea_any a b c _ HA.out HB.out HC.out) ?_; rintro e w2 ⟨rfl, hw2⟩; obtain ⟨hcw2, hfw2⟩ := hw2.facts))
    go_ret2
    exact ⟨by rw [HE.out]; rfl, (by repeat' (first | with_reducible exact K.Ext.refl _ | with_reducible assumption | with_reducible refine K.Ext.drew ?_ | with_reducible refine K.Ext.alloc ?_ _ | with_reducible refine K.Ext.setCell ?_ ?_ _ | with_reducible refine K.Ext.trans ?_ (by with_reducible assumption) | (dsimp only; omega) | omega | exact K.Ext.refl _ | assumption | apply K.Ext.drew | refine K.Ext.alloc ?_ _ | refine K.Ext.setCell ?_ ?_ _ | (simp; done) | (simp; omega) | refine K.Ext.trans ?_ (by assumption)))⟩
theorem spec_AreInLine (a b c : Z.Pt) (w : World) :
    Calls Try.prog 17 #[.agg #[.int .i64 a.1, .int .i64 a.2], .agg #[.int .i64 b.1, .int .i64 b.2], .agg #[.int .i64 c.1, .int .i64 c.2]] w fun e w' => e = .returned (.tuple #[.bool (Z.AreInLine a b c).1, .int .i64 (Z.AreInLine a b c).2]) ∧ K.Ext w w' := by
  cases hp : Z.pts [a, b, c]
  · have HE : Hid (Z.AreInLine a b c = (false, 2)) := Z.hide (by simp [Z.AreInLine, hp])
    have HD : Z.DoubleArea a b c = (0, 2) := by simp [Z.DoubleArea, hp]
    go_enter Try.func17, Try.ntmps17
    go_wp2_with (go_at_call 15; refine K.call (by with_reducible rfl) (by with_reducible rfl) (spec_DoubleArea a b c _) ?_; rintro e w1 ⟨rfl, hw1⟩; obtain ⟨hcw1, hfw1⟩ := hw1.facts)
    go_ret2
    exact ⟨by rw [HE.out]; rfl, (by repeat' (first | with_reducible exact K.Ext.refl _ | with_reducible assumption | with_reducible refine K.Ext.drew ?_ | with_reducible refine K.Ext.alloc ?_ _ | with_reducible refine K.Ext.setCell ?_ ?_ _ | with_reducible refine K.Ext.trans ?_ (by with_reducible assumption) | (dsimp only; omega) | omega | exact K.Ext.refl _ | assumption | apply K.Ext.drew | refine K.Ext.alloc ?_ _ | refine K.Ext.setCell ?_ ?_ _ | (simp; done) | (simp; omega) | refine K.Ext.trans ?_ (by assumption)))⟩
  · have HE : Hid (Z.AreInLine a b c = (Z.area a b c == 0, 0)) := Z.hide (by simp [Z.AreInLine, hp])
    have HD : Z.DoubleArea a b c = (Z.area a b c, 0) := by simp [Z.DoubleArea, hp]
    go_enter Try.func17, Try.ntmps17
    go_wp2_with (go_at_call 15; refine K.call (by with_reducible rfl) (by with_reducible rfl) (spec_DoubleArea a b c _) ?_; rintro e w1 ⟨rfl, hw1⟩; obtain ⟨hcw1, hfw1⟩ := hw1.facts)
    go_ret2
    exact ⟨by rw [HE.out]; rfl, (by repeat' (first | with_reducible exact K.Ext.refl _ | with_reducible assumption | with_reducible refine K.Ext.drew ?_ | with_reducible refine K.Ext.alloc ?_ _ | with_reducible refine K.Ext.setCell ?_ ?_ _ | with_reducible refine K.Ext.trans ?_ (by with_reducible assumption) | (dsimp only; omega) | omega | exact K.Ext.refl _ | assumption | apply K.Ext.drew | refine K.Ext.alloc ?_ _ | refine K.Ext.setCell ?_ ?_ _ | (simp; done) | (simp; omega) | refine K.Ext.trans ?_ (by assumption)))⟩
theorem impl_AreInLine (a b c : Z.Pt) (w : World) :
    Calls Try.prog 16 #[.agg #[.int .i64 a.1, .int .i64 a.2], .agg #[.int .i64 b.1, .int .i64 b.2], .agg #[.int .i64 c.1, .int .i64 c.2]] w fun e w' => e = .returned (.tuple #[.bool (Z.AreInLine a b c).1, .int .i64 (Z.AreInLine a b c).2]) ∧ K.Ext w w' := by
  cases hp : Z.pts [a, b, c]
  · have HE : Hid (Z.AreInLine a b c = (false, 2)) := Z.hide (by simp [Z.AreInLine, hp])
    go_enter Try.func16, Try.ntmps16
    go_wp2_with (go_at_call 35; refine K.call (by with_reducible rfl) (by with_reducible rfl) (arePoints_3 a b c _ _ (by go_simp) (by go_simp) (by go_simp) (by go_simp) (by go_simp) (by go_simp) (by go_simp)) ?_; rintro e w1 ⟨rfl, hw1⟩; obtain ⟨hcw1, hfw1⟩ := hw1.facts)
    go_ret2
    exact ⟨by rw [HE.out]; rfl, (by repeat' (first | with_reducible exact K.Ext.refl _ | with_reducible assumption | with_reducible refine K.Ext.drew ?_ | with_reducible refine K.Ext.alloc ?_ _ | with_reducible refine K.Ext.setCell ?_ ?_ _ | with_reducible refine K.Ext.trans ?_ (by with_reducible assumption) | (dsimp only; omega) | omega | exact K.Ext.refl _ | assumption | apply K.Ext.drew | refine K.Ext.alloc ?_ _ | refine K.Ext.setCell ?_ ?_ _ | (simp; done) | (simp; omega) | refine K.Ext.trans ?_ (by assumption)))⟩
  · have HE : Hid (Z.AreInLine a b c = (Z.area a b c == 0, 0)) := Z.hide (by simp [Z.AreInLine, hp])
    obtain ⟨HA, HB, HC⟩ : Hid (Z.okPt a = true) ∧ Hid (Z.okPt b = true) ∧ Hid (Z.okPt c = true) := (Z.pts3_iff a b c).1 hp
    go_enter Try.func16, Try.ntmps16
    go_wp2_with (first | (go_at_call 35; refine K.call (by with_reducible rfl) (by with_reducible rfl) (arePoints_3 a b c _ _ (by go_simp) (by go_simp) (by go_simp) (by go_simp) (by go_simp) (by go_simp) (by go_simp)) ?_; rintro e w1 ⟨rfl, hw1⟩; obtain ⟨hcw1, hfw1⟩ := hw1.facts) | (go_at_call 41; refine K.call (by with_reducible rfl) (by with_reducible rfl) (doubleArea_any a b c _ HA.out HB.out HC.out) ?_; rintro e w2 ⟨rfl, hw2⟩; obtain ⟨hcw2, hfw2⟩ := hw2.facts))
    go_ret2
    exact ⟨by rw [HE.out]; rfl, (by repeat' (first | with_reducible exact K.Ext.refl _ | with_reducible assumption | with_reducible refine K.Ext.drew ?_ | with_reducible refine K.Ext.alloc ?_ _ | with_reducible refine K.Ext.setCell ?_ ?_ _ | with_reducible refine K.Ext.trans ?_ (by with_reducible assumption) | (dsimp only; omega) | omega | exact K.Ext.refl _ | assumption | apply K.Ext.drew | refine K.Ext.alloc ?_ _ | refine K.Ext.setCell ?_ ?_ _ | (simp; done) | (simp; omega) | refine K.Ext.trans ?_ (by assumption)))⟩
theorem eqPoint_same (x y : Int) (w : World) :
    Calls Try.prog 37 #[.agg #[.int .i64 x, .int .i64 y], .agg #[.int .i64 x, .int .i64 y]] w fun e w' => e = .returned (.bool true) ∧ K.Ext w w' := by
  go_enter Try.func37, Try.ntmps37
  go_wp2
  go_ret
  exact ⟨rfl, (by repeat' (first | with_reducible exact K.Ext.refl _ | with_reducible assumption | with_reducible refine K.Ext.drew ?_ | with_reducible refine K.Ext.alloc ?_ _ | with_reducible refine K.Ext.setCell ?_ ?_ _ | with_reducible refine K.Ext.trans ?_ (by with_reducible assumption) | (dsimp only; omega) | omega | exact K.Ext.refl _ | assumption | apply K.Ext.drew | refine K.Ext.alloc ?_ _ | refine K.Ext.setCell ?_ ?_ _ | (simp; done) | (simp; omega) | refine K.Ext.trans ?_ (by assumption)))⟩
end Go.Proofs.Ytgepjmfjeidbaaa
