/-
  FORMULAS: what the laws do with them, more; figures.
-/
import Derived.Test.YthmnlbgbacbocaaFm
set_option linter.unusedVariables false
namespace Go.Proofs.Ythmnlbgbacbocaa
open Go.RowKit
theorem spec_IsFigure (d t : Int) (w : World) :
    Calls Try.prog 145 #[.agg #[.int .i64 d, .int .i64 t]] w fun e w' => e = .returned (.bool (Z.isFig d t)) ∧ K.Ext w w' := by
  cases h1 : (decide (1000 ≤ d) && decide (d ≤ 9999))
  · go_enter Try.func145, Try.ntmps145
    go_wp2_with (go_at_call 96; refine K.call (by with_reducible rfl) (by with_reducible rfl) (l01In_any _ _ _ _) ?_; rintro e w' ⟨rfl, rfl⟩)
    go_ret
    exact ⟨K.rb (by simp [Z.isFig, h1]), (by repeat' (first | with_reducible exact K.Ext.refl _ | with_reducible assumption | with_reducible refine K.Ext.drew ?_ | with_reducible refine K.Ext.alloc ?_ _ | with_reducible refine K.Ext.setCell ?_ ?_ _ | with_reducible refine K.Ext.trans ?_ (by with_reducible assumption) | (dsimp only; omega) | omega | exact K.Ext.refl _ | assumption | apply K.Ext.drew | refine K.Ext.alloc ?_ _ | refine K.Ext.setCell ?_ ?_ _ | (simp; done) | (simp; omega) | refine K.Ext.trans ?_ (by assumption)))⟩
  · go_enter Try.func145, Try.ntmps145
    go_wp2_with (go_at_call 96; refine K.call (by with_reducible rfl) (by with_reducible rfl) (l01In_any _ _ _ _) ?_; rintro e w' ⟨rfl, rfl⟩)
    go_ret
    exact ⟨K.rb (by simp [Z.isFig, h1]), (by repeat' (first | with_reducible exact K.Ext.refl _ | with_reducible assumption | with_reducible refine K.Ext.drew ?_ | with_reducible refine K.Ext.alloc ?_ _ | with_reducible refine K.Ext.setCell ?_ ?_ _ | with_reducible refine K.Ext.trans ?_ (by with_reducible assumption) | (dsimp only; omega) | omega | exact K.Ext.refl _ | assumption | apply K.Ext.drew | refine K.Ext.alloc ?_ _ | refine K.Ext.setCell ?_ ?_ _ | (simp; done) | (simp; omega) | refine K.Ext.trans ?_ (by assumption)))⟩
theorem impl_IsFigure (d t : Int) (w : World) :
    Calls Try.prog 112 #[.agg #[.int .i64 d, .int .i64 t]] w fun e w' => e = .returned (.bool (Z.isFig d t)) ∧ K.Ext w w' := by
  cases h1 : (decide (1000 ≤ d) && decide (d ≤ 9999))
  · go_enter Try.func112, Try.ntmps112
    go_wp2_with (go_at_call 95; refine K.call (by with_reducible rfl) (by with_reducible rfl) (within_any _ _ _ _) ?_; rintro e w' ⟨rfl, rfl⟩)
    go_ret
    exact ⟨K.rb (by simp [Z.isFig, h1]), (by repeat' (first | with_reducible exact K.Ext.refl _ | with_reducible assumption | with_reducible refine K.Ext.drew ?_ | with_reducible refine K.Ext.alloc ?_ _ | with_reducible refine K.Ext.setCell ?_ ?_ _ | with_reducible refine K.Ext.trans ?_ (by with_reducible assumption) | (dsimp only; omega) | omega | exact K.Ext.refl _ | assumption | apply K.Ext.drew | refine K.Ext.alloc ?_ _ | refine K.Ext.setCell ?_ ?_ _ | (simp; done) | (simp; omega) | refine K.Ext.trans ?_ (by assumption)))⟩
  · go_enter Try.func112, Try.ntmps112
    go_wp2_with (go_at_call 95; refine K.call (by with_reducible rfl) (by with_reducible rfl) (within_any _ _ _ _) ?_; rintro e w' ⟨rfl, rfl⟩)
    go_ret
    exact ⟨K.rb (by simp [Z.isFig, h1]), (by repeat' (first | with_reducible exact K.Ext.refl _ | with_reducible assumption | with_reducible refine K.Ext.drew ?_ | with_reducible refine K.Ext.alloc ?_ _ | with_reducible refine K.Ext.setCell ?_ ?_ _ | with_reducible refine K.Ext.trans ?_ (by with_reducible assumption) | (dsimp only; omega) | omega | exact K.Ext.refl _ | assumption | apply K.Ext.drew | refine K.Ext.alloc ?_ _ | refine K.Ext.setCell ?_ ?_ _ | (simp; done) | (simp; omega) | refine K.Ext.trans ?_ (by assumption)))⟩
end Go.Proofs.Ythmnlbgbacbocaa
