/-
  SEARCH by halves: the library's; figures below and above a logarithm, the tool.
-/
import Derived.Test.YtphlppklhpaljaaZSpan
import Derived.Test.YtphlppklhpaljaaLog2
import Derived.Test.YtphlppklhpaljaaMake2
set_option linter.unusedVariables false
namespace Go.Proofs.Ytphlppklhpaljaa
open Go.RowKit
/-- the first number before N for which that holds, or N -/
def srchN (f : Nat → Bool) (N : Nat) : Nat := (List.range N).findIdx f
theorem srchN_spec (f : Nat → Bool) (N : Nat) (hm : ∀ i j, i ≤ j → j < N → f i = true → f j = true) : srchN f N ≤ N ∧ (srchN f N = N ∨ f (srchN f N) = true) ∧ (srchN f N = 0 ∨ f (srchN f N - 1) = false) := by
  have hl : srchN f N ≤ N := by have h := List.findIdx_le_length (p := f) (xs := List.range N); rw [List.length_range] at h; exact h
  refine ⟨hl, ?_, ?_⟩
  · by_cases h : srchN f N = N
    · exact .inl h
    · right
      have h1 : (List.range N).findIdx f < (List.range N).length := by rw [List.length_range]; unfold srchN at h hl; omega
      have h2 := List.findIdx_getElem (w := h1)
      simpa [srchN] using h2
  · by_cases h : srchN f N = 0
    · exact .inl h
    · right
      have h1 : srchN f N - 1 < (List.range N).findIdx f := by unfold srchN at h ⊢; omega
      have h2 := List.not_of_lt_findIdx h1
      simpa using h2
theorem srchN_eq (f : Nat → Bool) (N : Nat) (hm : ∀ i j, i ≤ j → j < N → f i = true → f j = true) (r : Nat) (h1 : r ≤ N) (h2 : r = N ∨ f r = true) (h3 : r = 0 ∨ f (r - 1) = false) : r = srchN f N := by
  obtain ⟨a, b, c⟩ := srchN_spec f N hm
  generalize srchN f N = s at *
  rcases Nat.lt_trichotomy r s with h | h | h
  · rcases h2 with h2 | h2
    · omega
    · rcases c with c | c
      · omega
      · have := hm r (s - 1) (by omega) (by omega) h2; rw [this] at c; cases c
  · exact h
  · rcases b with b | b
    · omega
    · rcases h3 with h3 | h3
      · omega
      · have := hm s (r - 1) (by omega) (by omega) b; rw [this] at h3; cases h3
set_option maxRecDepth 100000 in
set_option maxHeartbeats 3200000 in
theorem Search_any (f : Nat → Bool) (g : Nat) (a1 a2 : Value) (N : Nat) (w : World) (hN : N ≤ 1000000) (hg : ∀ (args : Array Value) (w' : World), (callFunc g args).run Try.prog w' = .ok (.enter g args) w')
    (hf : ∀ (i : Nat) (w' : World), i < N → K.Ext w w' → Calls Try.prog g #[.int .i64 (i : Int), a1, a2] w' fun e w'' => e = .returned (.bool (f i)) ∧ K.Ext w' w'') :
    Calls Try.prog 218 #[.int .i64 (N : Int), .func (.func g) #[] #[a1, a2]] w fun e w' => (∃ r : Nat, e = .returned (.int .i64 (r : Int)) ∧ r ≤ N ∧ (r = N ∨ f r = true) ∧ (r = 0 ∨ f (r - 1) = false)) ∧ K.Ext w w' := by
  have HF := Z.hide hf
  clear hf
  go_enter Try.func218, Try.ntmps218
  go_wp2
  go_loopw [5, 6] (fun a b wr => ∃ i j : Nat, i ≤ j ∧ j ≤ N ∧ a = .int .i64 i ∧ b = .int .i64 j ∧ Hid (i = 0 ∨ f (i - 1) = false) ∧ Hid (j = N ∨ f j = true) ∧ Hid (K.Ext w wr)) (fun a b _ => (intOf b - intOf a).toNat)
  case atStart => exact ⟨0, N, Nat.zero_le _, Nat.le_refl _, rfl, rfl, Z.hide (.inl rfl), Z.hide (.inl rfl), Z.hide (K.Ext.refl _)⟩
  case round =>
    obtain ⟨i, j, hij, hj, rfl, rfl, HI, HJ, HX⟩ := hrel
    have i0 : (0 : Int) ≤ (i : Int) := Int.natCast_nonneg i
    have j0 : (0 : Int) ≤ (j : Int) := Int.natCast_nonneg j
    by_cases hlt : i < j
    · have k1 : (i : Int) < (j : Int) := by omega
      obtain ⟨h, hh⟩ : ∃ h : Nat, h = (i + j) / 2 := ⟨_, rfl⟩
      have q1 : IntKind.i64.wrap ((i : Int) + (j : Int)) = (i : Int) + (j : Int) := IntWalk.i64_in _ (by omega)
      have q2 : ((i : Int) + (j : Int)) / 2 = (h : Int) := by omega
      have h1 : i ≤ h := by omega
      have h2 : h < j := by omega
      clear hh
      go_wp2_with fail
      refine Calls.mono (HF.out h wr (by omega) HX.out) ?_
      rintro e w1 ⟨rfl, x1⟩
      have HX1 := Z.hide (K.Ext.trans HX.out x1)
      cases hfh : f h
      · have HI1 : Hid (h + 1 = 0 ∨ f (h + 1 - 1) = false) := Z.hide (.inr hfh)
        go_wp2
        go_roundw
        case rel => exact ⟨h + 1, j, by omega, hj, by go_num, rfl, HI1, HJ, HX1⟩
        case measure => first | (simp [intOf]; done) | (simp [intOf]; omega)
      · have HJ1 : Hid (h = N ∨ f h = true) := Z.hide (.inr hfh)
        go_wp2
        go_roundw
        case rel => exact ⟨i, h, h1, by omega, rfl, rfl, HI, HJ1, HX1⟩
        case measure => first | (simp [intOf]; done) | (simp [intOf]; omega)
    · obtain rfl : i = j := by omega
      go_wp2
      go_ret
      exact ⟨⟨i, rfl, hj, HJ.out, HI.out⟩, HX.out⟩
theorem Search_is (f : Nat → Bool) (g : Nat) (a1 a2 : Value) (N : Nat) (w : World) (hN : N ≤ 1000000) (hg : ∀ (args : Array Value) (w' : World), (callFunc g args).run Try.prog w' = .ok (.enter g args) w') (hm : ∀ i j, i ≤ j → j < N → f i = true → f j = true)
    (hf : ∀ (i : Nat) (w' : World), i < N → K.Ext w w' → Calls Try.prog g #[.int .i64 (i : Int), a1, a2] w' fun e w'' => e = .returned (.bool (f i)) ∧ K.Ext w' w'') :
    Calls Try.prog 218 #[.int .i64 (N : Int), .func (.func g) #[] #[a1, a2]] w fun e w' => e = .returned (.int .i64 ((srchN f N : Nat) : Int)) ∧ K.Ext w w' := by
  refine Calls.mono (Search_any f g a1 a2 N w hN hg hf) ?_
  rintro e w' ⟨⟨r, rfl, h1, h2, h3⟩, hx⟩
  rw [srchN_eq f N hm r h1 h2 h3]
  exact ⟨rfl, hx⟩
end Go.Proofs.Ytphlppklhpaljaa
