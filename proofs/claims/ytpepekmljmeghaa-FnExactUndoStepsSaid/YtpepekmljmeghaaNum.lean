/-
  THE NUMBERS' CONTRACTS (chapter 1, both sides): within, quotients.
-/
import Derived.Test.YtpepekmljmeghaaProg
import Derived.Test.YtpepekmljmeghaaZ
import Derived.Test.YtpepekmljmeghaaKit
import Derived.WalkKit
set_option linter.unusedVariables false
namespace Go.Proofs.Ytpepekmljmeghaa
open Go.RowKit

theorem within_any (n lo hi : Int) (w : World) :
    Calls Try.prog 65 #[.int .i64 n, .int .i64 lo, .int .i64 hi] w fun e w' => e = .returned (.bool (decide (lo ≤ n) && decide (n ≤ hi))) ∧ w = w' := by
  go_enter Try.func65, Try.ntmps65
  go_wp2
  all_goals (go_ret; exact ⟨K.rb (by simp only [← Bool.decide_and, decide_eq_decide, Bool.false_eq, decide_eq_false_iff_not]; first | omega | simp_all), rfl⟩)
theorem l01In_any (n lo hi : Int) (w : World) :
    Calls Try.prog 62 #[.int .i64 n, .int .i64 lo, .int .i64 hi] w fun e w' => e = .returned (.bool (decide (lo ≤ n) && decide (n ≤ hi))) ∧ w = w' := by
  go_enter Try.func62, Try.ntmps62
  go_wp2
  all_goals (go_ret; exact ⟨K.rb (by simp only [← Bool.decide_and, decide_eq_decide, Bool.false_eq, decide_eq_false_iff_not]; first | omega | simp_all), rfl⟩)
theorem l01Abs_any (a : Int) (w : World) (h1 : -4611686018427387904 ≤ a) (h2 : a ≤ 4611686018427387904) :
    Calls Try.prog 80 #[.int .i64 a] w fun e w' => e = .returned (.int .i64 (Z.ab a)) ∧ w = w' := by
  go_enter Try.func80, Try.ntmps80
  go_wp2
  · go_ret; exact ⟨K.ri (by unfold Z.ab; omega), rfl⟩
  · go_ret; exact ⟨K.ri (by unfold Z.ab; omega), rfl⟩
end Go.Proofs.Ytpepekmljmeghaa
