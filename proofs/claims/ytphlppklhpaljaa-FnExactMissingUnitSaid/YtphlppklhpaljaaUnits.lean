/-
  UNITS (chapter 19), both sides: contracts.
-/
import Derived.Test.YtphlppklhpaljaaSlices
set_option linter.unusedVariables false
namespace Go.Proofs.Ytphlppklhpaljaa
open Go.RowKit

set_option maxHeartbeats 400000 in
theorem spec_IsUnit (xs : List Int) (lo hi : Nat) (v : Value) (w : World) (hm : xs.length ≤ 1048576) (h : K.ints w lo hi v xs) :
    Calls Try.prog 66 #[v] w fun e w' => e = .returned (.bool (Z.isUnit xs)) ∧ w = w' := by
  obtain ⟨o, cap, rfl, h⟩ := h
  go_enter Try.func66, Try.ntmps66
  go_wp2
  go_loop [3] (fun i => ∃ k : Nat, k ≤ xs.length ∧ i = .int .i64 k ∧ Hid ((xs.take k).all Z.in9 = true)) (fun i => xs.length - (intOf i).toNat)
  case atStart => exact ⟨0, Nat.zero_le _, rfl, Z.hide rfl⟩
  case round =>
    obtain ⟨k, hk, rfl, HP⟩ := hrel
    by_cases hlt : k < xs.length
    · obtain ⟨b, off, rfl, _, _, hc⟩ := h (by intro h0; simp [h0] at hlt)
      have hck := hc k hlt
      have HS := Z.hide (Z.all_take_succ (f := Z.in9) xs k hlt)
      have HB := Z.hide (Z.all_bad (f := Z.in9) xs k hlt)
      clear hc h
      generalize xs.getD k 0 = x at *
      cases h1 : (decide (-9 ≤ x) && decide (x ≤ 9))
      · go_wp2_with (go_at_call 112; refine K.call (by with_reducible rfl) (by with_reducible rfl) (l01In_any _ _ _ _) ?_; rintro e w' ⟨rfl, rfl⟩)
        go_ret
        exact ⟨K.rb (by rw [Z.isUnit, HB.out h1]; rfl), rfl⟩
      · go_wp2_with (go_at_call 112; refine K.call (by with_reducible rfl) (by with_reducible rfl) (l01In_any _ _ _ _) ?_; rintro e w' ⟨rfl, rfl⟩)
        go_round
        case rel => exact ⟨k + 1, by omega, by go_num, Z.hide (by rw [HS.out, HP.out]; exact h1)⟩
        case measure => simp [intOf]; omega
    · obtain rfl : k = xs.length := by omega
      rw [List.take_length] at HP
      clear h
      go_wp2
      go_ret
      exact ⟨K.rb (by rw [Z.isUnit, HP.out]; exact Z.nat_beq4 _), rfl⟩
theorem IsUnit1_any (n : Int) (w : World) :
    Calls Try.prog 150 #[.int .i64 n] w fun e w' => e = .returned (.bool (!Z.in9 n)) ∧ w = w' := by
  go_enter Try.func150, Try.ntmps150
  go_wp2_with (go_at_call 114; refine K.call (by with_reducible rfl) (by with_reducible rfl) (within_any _ _ _ _) ?_; rintro e w' ⟨rfl, rfl⟩)
  go_ret
  exact ⟨K.rb (by simp [Z.in9]), rfl⟩
set_option maxHeartbeats 400000 in
theorem IndexFunc_IsUnit1 (xs : List Int) (lo hi : Nat) (v : Value) (w : World) (hm : xs.length ≤ 1048576) (h : K.ints w lo hi v xs) :
    Calls Try.prog 197 #[v, .func (.func 150) #[] #[]] w fun e w' => (∃ r : Int, e = .returned (.int .i64 r) ∧ ((Z.allIn xs = true ∧ r = -1) ∨ (Z.allIn xs = false ∧ 0 ≤ r))) ∧ w = w' := by
  obtain ⟨o, cap, rfl, h⟩ := h
  go_enter Try.func197, Try.ntmps197
  go_wp2
  go_loop [8] (fun i => ∃ k : Nat, k ≤ xs.length ∧ i = .int .i64 k ∧ Hid ((xs.take k).all Z.in9 = true)) (fun i => xs.length - (intOf i).toNat)
  case atStart => exact ⟨0, Nat.zero_le _, rfl, Z.hide rfl⟩
  case round =>
    obtain ⟨k, hk, rfl, HP⟩ := hrel
    by_cases hlt : k < xs.length
    · obtain ⟨b, off, rfl, _, _, hc⟩ := h (by intro h0; simp [h0] at hlt)
      have hck := hc k hlt
      have HS := Z.hide (Z.all_take_succ (f := Z.in9) xs k hlt)
      have HB := Z.hide (Z.all_bad (f := Z.in9) xs k hlt)
      clear hc h
      generalize xs.getD k 0 = x at *
      cases h1 : Z.in9 x
      · go_wp2_with (refine Calls.mono (IsUnit1_any _ _) ?_; rintro e w' ⟨rfl, rfl⟩)
        go_ret
        exact ⟨⟨_, rfl, (.inr ⟨HB.out h1, by omega⟩)⟩, rfl⟩
      · go_wp2_with (refine Calls.mono (IsUnit1_any _ _) ?_; rintro e w' ⟨rfl, rfl⟩)
        go_round
        case rel => exact ⟨k + 1, by omega, by go_num, Z.hide (by rw [HS.out, HP.out]; exact h1)⟩
        case measure => simp [intOf]; omega
    · obtain rfl : k = xs.length := by omega
      rw [List.take_length] at HP
      clear h
      go_wp2
      go_ret
      exact ⟨⟨_, rfl, (.inl ⟨HP.out, rfl⟩)⟩, rfl⟩
theorem ContainsFunc_IsUnit1 (xs : List Int) (lo hi : Nat) (v : Value) (w : World) (hm : xs.length ≤ 1048576) (h : K.ints w lo hi v xs) :
    Calls Try.prog 149 #[v, .func (.func 150) #[] #[]] w fun e w' => e = .returned (.bool (!Z.allIn xs)) ∧ w = w' := by
  go_enter Try.func149, Try.ntmps149
  go_wp2_with (go_at_call 197; refine Calls.mono (IndexFunc_IsUnit1 xs lo hi v _ hm h) ?_; rintro e w' ⟨⟨r, rfl, hr⟩, rfl⟩)
  rcases hr with ⟨h1, rfl⟩ | ⟨h1, h2⟩
  · go_ret
    exact ⟨K.rb (by rw [h1]; rfl), rfl⟩
  · go_ret
    exact ⟨K.rb (by rw [h1]; simpa using h2), rfl⟩
theorem impl_IsUnit (xs : List Int) (lo hi : Nat) (v : Value) (w : World) (hm : xs.length ≤ 1048576) (h : K.ints w lo hi v xs) :
    Calls Try.prog 65 #[v] w fun e w' => e = .returned (.bool (Z.isUnit xs)) ∧ w = w' := by
  have h' := h
  obtain ⟨o, cap, rfl, _⟩ := h'
  by_cases h4 : xs.length = 4
  · have h4' : ((xs.length : Int) == 4) = true := by simp; omega
    have H4 := Z.hide h4
    clear h4
    go_enter Try.func65, Try.ntmps65
    go_wp2_with (go_at_call 149; refine Calls.mono (ContainsFunc_IsUnit1 xs lo hi _ _ hm h) ?_; rintro e w' ⟨rfl, rfl⟩)
    go_ret
    exact ⟨K.rb (by simp [Z.isUnit, Z.allIn, H4.out]), rfl⟩
  · have h4' : ((xs.length : Int) == 4) = false := by simp; omega
    go_enter Try.func65, Try.ntmps65
    go_wp2_with fail
    go_ret
    exact ⟨K.rb (by simp [Z.isUnit, h4]), rfl⟩
theorem l19Result_any (xs : List Int) (lo hi : Nat) (v : Value) (w : World) (hm : xs.length ≤ 1048576) (h : K.ints w lo hi v xs) :
    Calls Try.prog 106 #[v] w fun e w' => (∃ r, e = .returned (.tuple #[r, .int .i64 (Z.unitOr xs).2]) ∧ K.ints w lo hi r (Z.unitOr xs).1) ∧ w = w' := by
  cases hu : Z.isUnit xs
  · have HE : Hid (Z.unitOr xs = ([], 3)) := Z.hide (by simp [Z.unitOr, hu])
    go_enter Try.func106, Try.ntmps106
    go_wp2_with (go_at_call 66; refine K.call (by with_reducible rfl) (by with_reducible rfl) (spec_IsUnit xs lo hi v _ hm h) ?_; rintro e w' ⟨rfl, rfl⟩)
    go_ret2
    exact ⟨⟨_, by rw [HE.out]; rfl, by rw [HE.out]; exact K.ints_nil _ _ _⟩, rfl⟩
  · have HE : Hid (Z.unitOr xs = (xs, 0)) := Z.hide (by simp [Z.unitOr, hu])
    go_enter Try.func106, Try.ntmps106
    go_wp2_with (go_at_call 66; refine K.call (by with_reducible rfl) (by with_reducible rfl) (spec_IsUnit xs lo hi v _ hm h) ?_; rintro e w' ⟨rfl, rfl⟩)
    go_ret2
    exact ⟨⟨_, by rw [HE.out]; rfl, by rw [HE.out]; exact h⟩, rfl⟩
theorem unitOr_any (xs : List Int) (lo hi : Nat) (v : Value) (w : World) (hm : xs.length ≤ 1048576) (h : K.own w lo hi v xs) :
    Calls Try.prog 110 #[v] w fun e w' => (∃ r, e = .returned (.tuple #[r, .int .i64 (Z.unitOr xs).2]) ∧ K.own w lo hi r (Z.unitOr xs).1) ∧ w = w' := by
  cases hu : Z.isUnit xs
  · have HE : Hid (Z.unitOr xs = ([], 3)) := Z.hide (by simp [Z.unitOr, hu])
    go_enter Try.func110, Try.ntmps110
    go_wp2_with (go_at_call 65; refine K.call (by with_reducible rfl) (by with_reducible rfl) (impl_IsUnit xs lo hi v _ hm h.ints) ?_; rintro e w' ⟨rfl, rfl⟩)
    go_ret2
    exact ⟨⟨_, by rw [HE.out]; rfl, by rw [HE.out]; exact K.own_nil _ _ _⟩, rfl⟩
  · have HE : Hid (Z.unitOr xs = (xs, 0)) := Z.hide (by simp [Z.unitOr, hu])
    go_enter Try.func110, Try.ntmps110
    go_wp2_with (go_at_call 65; refine K.call (by with_reducible rfl) (by with_reducible rfl) (impl_IsUnit xs lo hi v _ hm h.ints) ?_; rintro e w' ⟨rfl, rfl⟩)
    go_ret2
    exact ⟨⟨_, by rw [HE.out]; rfl, by rw [HE.out]; exact h⟩, rfl⟩
end Go.Proofs.Ytphlppklhpaljaa
