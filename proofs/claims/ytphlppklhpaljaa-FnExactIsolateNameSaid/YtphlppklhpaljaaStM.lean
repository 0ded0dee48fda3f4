/-
  WHAT THE LAWS DO WITH STEPS: marks.
-/
import Derived.Test.YtphlppklhpaljaaStL
set_option linter.unusedVariables false
namespace Go.Proofs.Ytphlppklhpaljaa
open Go.RowKit
set_option maxHeartbeats 1600000 in
theorem markStepS_any (xs : List Z.St) {lo hi : Nat} {v : Value} (s : Int) (w : World) (hm : xs.length ≤ 1048576) (h0 : 0 ≤ s) (h1 : s ≤ 1000000000000000000) (h : K.recs true K.StR w lo hi v xs) :
    Calls Try.prog 54 #[v, .int .i64 s] w fun e w' => (e = .returned (.int .i64 (s + 3 * (xs.length : Int))) ∧ K.recs true K.StR w' lo hi v (Z.marksSt s xs.length)) ∧ K.Far lo hi w w' := by
  have h2 := h
  obtain ⟨o, cap, rfl, _⟩ := h2
  have HH := Z.hide h
  obtain ⟨n, hn⟩ : ∃ n, n = xs.length := ⟨_, rfl⟩
  have HN := Z.hide hn
  rw [← hn] at hm HH ⊢
  clear h hn
  go_enter Try.func54, Try.ntmps54
  go_wp2
  go_loopw [1, 5] (fun j i wr => ∃ k : Nat, k ≤ n ∧ i = .int .i64 k ∧ j = .int .i64 (s + 3 * (k : Int)) ∧ Hid (K.Far lo hi w wr) ∧ Hid (∃ ys : List Z.St, ys.length = n ∧ ys.take k = (Z.marksSt s n).take k ∧ K.recs true K.StR wr lo hi (.slice o n cap) ys)) (fun _ i _ => n - (intOf i).toNat)
  case atStart => exact ⟨0, Nat.zero_le _, rfl, by simp, Z.hide (K.Far.refl _ _ _), Z.hide ⟨xs, HN.out.symm, by simp, HH.out⟩⟩
  case round =>
    obtain ⟨k, hk, rfl, rfl, HX, HY⟩ := hrel
    clear HH
    have k0 : (0 : Int) ≤ (k : Int) := Int.natCast_nonneg k
    by_cases hlt : k < n
    · have k1 : (k : Int) < (n : Int) := by omega
      obtain ⟨ys, hy1, hy2, hr⟩ := HY.out
      obtain ⟨b, off, rfl, b1, b2, hc, hf⟩ := K.recs_at hr (by omega)
      have hky : k < ys.length := by omega
      obtain ⟨z0, e0⟩ : ∃ z, wr.cell? ⟨b, off + k * 3, none⟩ = some z := ⟨_, hc k hky 0 (by decide)⟩
      obtain ⟨z1, e1⟩ : ∃ z, wr.cell? ⟨b, off + k * 3 + 1, none⟩ = some z := ⟨_, hc k hky 1 (by decide)⟩
      obtain ⟨z2, e2⟩ : ∃ z, wr.cell? ⟨b, off + k * 3 + 2, none⟩ = some z := ⟨_, hc k hky 2 (by decide)⟩
      have f0 : wr.frozen? ⟨b, off + k * 3, none⟩ = false := hf rfl k 0 hky (by decide)
      have f1 : wr.frozen? ⟨b, off + k * 3 + 1, none⟩ = false := hf rfl k 1 hky (by decide)
      have f2 : wr.frozen? ⟨b, off + k * 3 + 2, none⟩ = false := hf rfl k 2 hky (by decide)
      have HS := Z.hide (K.StR_setAt (x := Z.markSt s k) hky hr)
      have hkm : k < (Z.marksSt s n).length := by rw [Z.marksSt_length]; exact hlt
      have HT : Hid ((ys.set k (Z.markSt s k)).take (k + 1) = (Z.marksSt s n).take (k + 1)) := Z.hide (by
        have h_ := Z.take_set_gen (Z.marksSt s n) ys k (by rw [hy1, Z.marksSt_length]) hkm hy2
        rwa [Z.marksSt_get] at h_)
      have HL := Z.hide hy1
      have HB := Z.hide (And.intro b1 b2)
      clear hc hf hr hy1 hy2 b1 b2 HY hkm hky
      go_wp2
      go_roundw
      case rel =>
        refine ⟨k + 1, by omega, by go_num, K.vint (by omega), Z.hide (K.Far.setCell (K.Far.setCell (K.Far.setCell HX.out HB.out.1 HB.out.2 _) HB.out.1 HB.out.2 _) HB.out.1 HB.out.2 _), Z.hide ⟨ys.set k (Z.markSt s k), by simpa using HL.out, HT.out, ?_⟩⟩
        exact HS.out
      case measure => simp [intOf]; omega
    · obtain rfl : k = n := by omega
      obtain ⟨ys, hy1, hy2, hr⟩ := HY.out
      have HR : Hid (K.recs true K.StR wr lo hi (.slice o k cap) (Z.marksSt s k)) := Z.hide (by
        have e : ys = Z.marksSt s k := by rw [← List.take_length (l := ys), hy1, hy2, List.take_of_length_le (by rw [Z.marksSt_length]; exact Nat.le_refl _)]
        rw [← e]; exact hr)
      clear hr hy1 hy2 HY
      go_wp2
      go_ret
      exact ⟨⟨rfl, HR.out⟩, HX.out⟩
set_option maxHeartbeats 1600000 in
theorem heldStepS_any (n : Nat) {lo hi : Nat} {v : Value} (s : Int) (w : World) (hm : n ≤ 1048576) (h0 : 0 ≤ s) (h1 : s ≤ 1000000000000000000) (h : K.recs false K.StR w lo hi v (Z.marksSt s n)) :
    Calls Try.prog 57 #[v, .int .i64 s] w fun e w' => e = .returned (.int .i64 (s + 3 * (n : Int))) ∧ K.Ext w w' := by
  have h2 := h
  obtain ⟨o, cap, rfl, _⟩ := h2
  have HH := Z.hide h
  clear h
  rw [Z.marksSt_length] at HH ⊢
  go_enter Try.func57, Try.ntmps57
  go_wp2
  go_loop [1, 5] (fun j i => ∃ k : Nat, k ≤ n ∧ i = .int .i64 k ∧ j = .int .i64 (s + 3 * (k : Int))) (fun _ i => n - (intOf i).toNat)
  case atStart => exact ⟨0, Nat.zero_le _, rfl, by simp⟩
  case round =>
    obtain ⟨k, hk, rfl, rfl⟩ := hrel
    have k0 : (0 : Int) ≤ (k : Int) := Int.natCast_nonneg k
    by_cases hlt : k < n
    · have k1 : (k : Int) < (n : Int) := by omega
      have hkm : k < (Z.marksSt s n).length := by rw [Z.marksSt_length]; exact hlt
      obtain ⟨b, off, rfl, b1, b2, hc, _⟩ := K.recs_at HH.out (by omega)
      have e0 : w.cell? ⟨b, off + k * 3, none⟩ = some (.int .i64 (s + 3 * (k : Int))) := by have h_ := hc k hkm 0 (by decide); rw [Z.marksSt_get] at h_; exact h_
      have e1 : w.cell? ⟨b, off + k * 3 + 1, none⟩ = some (.int .u8 ((s + 3 * (k : Int) + 1) % 256)) := by have h_ := hc k hkm 1 (by decide); rw [Z.marksSt_get] at h_; exact h_
      have e2 : w.cell? ⟨b, off + k * 3 + 2, none⟩ = some (.int .i64 (s + 3 * (k : Int) + 1 + 1)) := by have h_ := hc k hkm 2 (by decide); rw [Z.marksSt_get] at h_; exact h_
      clear hc hkm
      go_wp2
      go_round
      case rel => exact ⟨k + 1, by omega, by go_num, K.vint (by omega)⟩
      case measure => simp [intOf]; omega
    · obtain rfl : k = n := by omega
      go_wp2
      go_ret
      exact ⟨rfl, K.Ext.refl _⟩
end Go.Proofs.Ytphlppklhpaljaa
