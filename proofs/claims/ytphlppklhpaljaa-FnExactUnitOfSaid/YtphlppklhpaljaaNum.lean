/-
  THE NUMBERS' CONTRACTS (chapter 1, both sides): within, quotients.
-/
import Derived.Test.YtphlppklhpaljaaProg
import Derived.Test.YtphlppklhpaljaaZ
import Derived.Test.YtphlppklhpaljaaKit
import Derived.WalkKit
set_option linter.unusedVariables false
namespace Go.Proofs.Ytphlppklhpaljaa
open Go.RowKit

theorem within_any (n lo hi : Int) (w : World) :
    Calls Try.prog 114 #[.int .i64 n, .int .i64 lo, .int .i64 hi] w fun e w' => e = .returned (.bool (decide (lo ≤ n) && decide (n ≤ hi))) ∧ w = w' := by
  go_enter Try.func114, Try.ntmps114
  go_wp2
  all_goals (go_ret; exact ⟨K.rb (by simp only [← Bool.decide_and, decide_eq_decide, Bool.false_eq, decide_eq_false_iff_not]; first | omega | simp_all), rfl⟩)
theorem l01In_any (n lo hi : Int) (w : World) :
    Calls Try.prog 112 #[.int .i64 n, .int .i64 lo, .int .i64 hi] w fun e w' => e = .returned (.bool (decide (lo ≤ n) && decide (n ≤ hi))) ∧ w = w' := by
  go_enter Try.func112, Try.ntmps112
  go_wp2
  all_goals (go_ret; exact ⟨K.rb (by simp only [← Bool.decide_and, decide_eq_decide, Bool.false_eq, decide_eq_false_iff_not]; first | omega | simp_all), rfl⟩)
theorem down_any (a b : Int) (w : World) (hb : b ≠ 0) (h1 : -4611686018427387904 ≤ a) (h2 : a ≤ 4611686018427387904) :
    Calls Try.prog 214 #[.int .i64 a, .int .i64 b] w fun e w' => e = .returned (.int .i64 (Z.fl a b)) ∧ w = w' := by
  obtain ⟨q1, q2⟩ := Z.tdiv_bd a b _ h1 h2
  go_enter Try.func214, Try.ntmps214
  go_wp2
  · go_ret
    exact ⟨K.ri (Z.fl_dvd a b hb (by assumption)).symm, rfl⟩
  · rename_i h0 h
    go_ret
    exact ⟨K.ri (Z.fl_neg a b hb h0 (by simp only [ne_eq, eq_iff_iff]; simp at h; by_cases ha : a < 0 <;> by_cases hb : b < 0 <;> simp_all)).symm, rfl⟩
  · rename_i h0 h
    go_ret
    exact ⟨K.ri (Z.fl_pos a b hb (by simp only [eq_iff_iff]; simp [h0] at h; by_cases ha : a < 0 <;> by_cases hb : b < 0 <;> simp_all <;> omega)).symm, rfl⟩
theorem l01Floor_any (a b : Int) (w : World) (hb : b ≠ 0) (h1 : -4611686018427387904 ≤ a) (h2 : a ≤ 4611686018427387904) (h3 : -4611686018427387904 ≤ b) (h4 : b ≤ 4611686018427387904) :
    Calls Try.prog 210 #[.int .i64 a, .int .i64 b] w fun e w' => e = .returned (.int .i64 (Z.fl a b)) ∧ w = w' := by
  obtain ⟨q1, q2⟩ := Z.tdiv_bd a b _ h1 h2
  by_cases hn : b < 0
  · go_enter Try.func210, Try.ntmps210
    go_wp2
    · go_ret; exact ⟨K.ri (Z.fl_bn_p a b hn (by omega)).symm, rfl⟩
    · go_ret; exact ⟨K.ri (Z.fl_bn_n a b hn (by omega)).symm, rfl⟩
  · go_enter Try.func210, Try.ntmps210
    go_wp2
    · go_ret; exact ⟨K.ri (Z.fl_bp_n a b (by omega) (by omega)).symm, rfl⟩
    · go_ret; exact ⟨K.ri (Z.fl_bp_p a b (by omega) (by omega)).symm, rfl⟩
theorem up_any (a b : Int) (w : World) (hb : b ≠ 0) (h1 : -4611686018427387904 ≤ a) (h2 : a ≤ 4611686018427387904) :
    Calls Try.prog 215 #[.int .i64 a, .int .i64 b] w fun e w' => e = .returned (.int .i64 (Z.cl a b)) ∧ w = w' := by
  obtain ⟨q1, q2⟩ := Z.fl_bd (-a) b 4611686018427387904 hb (by omega) (by omega)
  go_enter Try.func215, Try.ntmps215
  go_wp2_with (go_at_call 214; refine (down_any _ _ _ hb (by omega) (by omega)).mono ?_; rintro e w' ⟨rfl, rfl⟩)
  go_ret
  exact ⟨K.ri rfl, rfl⟩
theorem l01Ceil_any (a b : Int) (w : World) (hb : b ≠ 0) (h1 : -4611686018427387904 ≤ a) (h2 : a ≤ 4611686018427387904) (h3 : -4611686018427387904 ≤ b) (h4 : b ≤ 4611686018427387904) :
    Calls Try.prog 211 #[.int .i64 a, .int .i64 b] w fun e w' => e = .returned (.int .i64 (Z.cl a b)) ∧ w = w' := by
  obtain ⟨q1, q2⟩ := Z.fl_bd (-a) b 4611686018427387904 hb (by omega) (by omega)
  go_enter Try.func211, Try.ntmps211
  go_wp2_with (go_at_call 210; refine (l01Floor_any _ _ _ hb (by omega) (by omega) (by omega) (by omega)).mono ?_; rintro e w' ⟨rfl, rfl⟩)
  go_ret
  exact ⟨K.ri rfl, rfl⟩
theorem near_any (a b : Int) (w : World) (hb : b ≠ 0) (h1 : -1000000000000000000 ≤ a) (h2 : a ≤ 1000000000000000000) (h3 : -1000000000000000000 ≤ b) (h4 : b ≤ 1000000000000000000) :
    Calls Try.prog 230 #[.int .i64 a, .int .i64 b] w fun e w' => e = .returned (.int .i64 (Z.nearAny a b)) ∧ w = w' := by
  by_cases hn : b < 0
  · go_enter Try.func230, Try.ntmps230
    go_wp2_with (go_at_call 214; refine (down_any _ _ _ (by omega) (by omega) (by omega)).mono ?_; rintro e w' ⟨rfl, rfl⟩)
    go_ret
    exact ⟨K.ri (by rw [Z.nearAny, if_pos hn]; rfl), rfl⟩
  · go_enter Try.func230, Try.ntmps230
    go_wp2_with (go_at_call 214; refine (down_any _ _ _ (by omega) (by omega) (by omega)).mono ?_; rintro e w' ⟨rfl, rfl⟩)
    go_ret
    exact ⟨K.ri (by rw [Z.nearAny, if_neg (by omega)]; rfl), rfl⟩
theorem l01Nearest_any (a b : Int) (w : World) (hb : 0 < b) (h1 : -1000000000000000000 ≤ a) (h2 : a ≤ 1000000000000000000) (h4 : b ≤ 1000000000000000000) :
    Calls Try.prog 225 #[.int .i64 a, .int .i64 b] w fun e w' => e = .returned (.int .i64 (Z.nr a b)) ∧ w = w' := by
  go_enter Try.func225, Try.ntmps225
  go_wp2_with (go_at_call 210; refine (l01Floor_any _ _ _ (by omega) (by omega) (by omega) (by omega) (by omega)).mono ?_; rintro e w' ⟨rfl, rfl⟩)
  go_ret
  exact ⟨K.ri rfl, rfl⟩
theorem l01Abs_any (a : Int) (w : World) (h1 : -4611686018427387904 ≤ a) (h2 : a ≤ 4611686018427387904) :
    Calls Try.prog 140 #[.int .i64 a] w fun e w' => e = .returned (.int .i64 (Z.ab a)) ∧ w = w' := by
  go_enter Try.func140, Try.ntmps140
  go_wp2
  · go_ret; exact ⟨K.ri (by unfold Z.ab; omega), rfl⟩
  · go_ret; exact ⟨K.ri (by unfold Z.ab; omega), rfl⟩
theorem l01Mod_any (a b : Int) (w : World) (hb : 0 < b) (h1 : -1000000000000000000 ≤ a) (h2 : a ≤ 1000000000000000000) (h4 : b ≤ 1000000000000000000) :
    Calls Try.prog 228 #[.int .i64 a, .int .i64 b] w fun e w' => e = .returned (.int .i64 (a % b)) ∧ w = w' := by
  have r1 := Int.lt_tmod_of_pos a hb
  have r2 := Int.tmod_lt_of_pos a hb
  go_enter Try.func228, Try.ntmps228
  go_wp2
  go_ret
  exact ⟨K.ri (Z.tmod_emod a b hb), rfl⟩
end Go.Proofs.Ytphlppklhpaljaa
