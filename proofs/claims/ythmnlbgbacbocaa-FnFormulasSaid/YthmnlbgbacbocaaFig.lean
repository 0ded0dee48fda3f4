/-
  FIGURES (chapter 2), both sides: rounding, products, quotients.
-/
import Derived.Test.YthmnlbgbacbocaaBase
import Derived.Test.YthmnlbgbacbocaaFm2
set_option linter.unusedVariables false
namespace Go.Proofs.Ythmnlbgbacbocaa
open Go.RowKit
set_option maxHeartbeats 1600000 in
theorem l02Round_any (n d t : Int) (w : World) (hn : 1 ≤ n) (hn' : n ≤ 1000000000) (hd : 1 ≤ d) (hd' : d ≤ 1000000000) (ht : -1000000 ≤ t) (ht' : t ≤ 1000000) :
    Calls Try.prog 167 #[.int .i64 n, .int .i64 d, .int .i64 t] w fun e w' => e = .returned (.agg #[.int .i64 (Z.round n d t).1, .int .i64 (Z.round n d t).2]) ∧ K.Ext w w' := by
  go_enter Try.func167, Try.ntmps167
  go_wp2
  go_loop [1, 2] (fun d' t' => ∃ (k : Nat) (x y : Int), d' = .int .i64 x ∧ t' = .int .i64 y ∧ k ≤ 12 ∧ Hid (Z.dn k n x y = Z.dn 12 n d (t + 3)) ∧ n < 10000 * x * Z.ten k ∧ 1 ≤ x ∧ x ≤ 1000000000 ∧ -2000000 + 12 - (k : Int) ≤ y ∧ y ≤ 2000000 - (k : Int)) (fun d' _ => (n - intOf d').toNat)
  case atStart => exact ⟨12, d, t + 3, rfl, rfl, Nat.le_refl _, Z.hide rfl, by rw [Z.ten_12]; omega, hd, hd', by omega, by omega⟩
  case round =>
    obtain ⟨k, x, y, rfl, rfl, hk, HE, h1, h2, h3, h4, h5⟩ := hrel
    by_cases hc : 10000 * x ≤ n
    · obtain ⟨k', rfl⟩ : ∃ k', k = k' + 1 := by
        cases k with
        | zero => simp only [Z.ten] at h1; omega
        | succ k' => exact ⟨k', rfl⟩
      have HS := Z.hide (show Z.dn (k' + 1) n x y = Z.dn k' n (10 * x) (y + 1) by simp only [Z.dn]; rw [if_pos hc])
      have h6 : n < 10000 * (10 * x) * Z.ten k' := by rw [← Z.ten_dn]; exact h1
      have H6 := Z.hide h6
      clear h1 h6
      go_wp2
      go_round
      case rel => exact ⟨k', 10 * x, y + 1, by go_num, by go_num, by omega, Z.hide (by rw [← HS.out, HE.out]), H6.out, by omega, by omega, by omega, by omega⟩
      case measure => simp [intOf]; omega
    · have HD := Z.hide (show Z.dn k n x y = (x, y) from Z.dn_end (by omega))
      rw [HE.out] at HD
      clear h1 HE
      go_wp2
      go_loop [0, 2] (fun n' t' => ∃ (k : Nat) (z u : Int), n' = .int .i64 z ∧ t' = .int .i64 u ∧ k ≤ 12 ∧ Hid (Z.up k z x u = Z.up 12 n x y) ∧ 1000 * x ≤ z * Z.ten k ∧ 1 ≤ z ∧ z ≤ 10000000000000 ∧ -3000000 + (k : Int) ≤ u ∧ u ≤ 3000000) (fun n' _ => (1000 * x - intOf n').toNat)
      case atStart => exact ⟨12, n, y, rfl, rfl, Nat.le_refl _, Z.hide rfl, by rw [Z.ten_12]; omega, hn, by omega, by omega, by omega⟩
      case round =>
        obtain ⟨k2, z, u, rfl, rfl, hk2, HE2, p1, p2, p3, p4, p5⟩ := hrel
        by_cases hc2 : z < 1000 * x
        · obtain ⟨k', rfl⟩ : ∃ k', k2 = k' + 1 := by
            cases k2 with
            | zero => simp only [Z.ten] at p1; omega
            | succ k' => exact ⟨k', rfl⟩
          have HS := Z.hide (show Z.up (k' + 1) z x u = Z.up k' (10 * z) x (u - 1) by simp only [Z.up]; rw [if_pos hc2])
          have h6 : 1000 * x ≤ 10 * z * Z.ten k' := by rw [← Z.ten_up]; exact p1
          have H6 := Z.hide h6
          clear p1 h6
          go_wp2
          go_round
          case rel => exact ⟨k', 10 * z, u - 1, by go_num, by go_num, by omega, Z.hide (by rw [← HS.out, HE2.out]), H6.out, by omega, by omega, by omega, by omega⟩
          case measure => simp [intOf]; omega
        · have HU := Z.hide (show Z.up k2 z x u = (z, u) from Z.up_end (by omega))
          rw [HE2.out] at HU
          clear p1 HE2
          have HF : Hid (Z.round n d t = Z.fin z x u) := Z.hide (by unfold Z.round; rw [HD.out, HU.out])
          obtain ⟨q, hq⟩ : ∃ q, q = Z.nr z x := ⟨_, rfl⟩
          have HN : ∀ w' : World, Calls Try.prog 194 #[.int .i64 z, .int .i64 x] w' fun e w'' => e = .returned (.int .i64 q) ∧ w' = w'' := fun w' => by rw [hq]; exact l01Nearest_any _ _ _ (by omega) (by omega) (by omega) (by omega)
          by_cases h10 : q = 10000
          · have H3 : Hid (Z.fin z x u = (1000, u + 1)) := Z.hide (by unfold Z.fin; rw [← hq, if_pos h10])
            clear hq
            go_wp2_with (go_at_call 194; refine K.call (by with_reducible rfl) (by with_reducible rfl) (HN _) ?_; rintro e w9 ⟨rfl, rfl⟩)
            rw [HF.out, H3.out]
            refine bodyPost_ret (v := .agg #[.int .i64 1000, .int .i64 (u + 1)]) (by unfold results; rw [Try.results167]; go_simp) rfl ⟨rfl, (by repeat' (first | with_reducible exact K.Ext.refl _ | with_reducible assumption | with_reducible refine K.Ext.drew ?_ | with_reducible refine K.Ext.alloc ?_ _ | with_reducible refine K.Ext.setCell ?_ ?_ _ | with_reducible refine K.Ext.trans ?_ (by with_reducible assumption) | (dsimp only; omega) | omega | exact K.Ext.refl _ | assumption | apply K.Ext.drew | refine K.Ext.alloc ?_ _ | refine K.Ext.setCell ?_ ?_ _ | (simp; done) | (simp; omega) | refine K.Ext.trans ?_ (by assumption)))⟩
          · have H3 : Hid (Z.fin z x u = (q, u)) := Z.hide (by unfold Z.fin; rw [← hq, if_neg h10])
            clear hq
            go_wp2_with (go_at_call 194; refine K.call (by with_reducible rfl) (by with_reducible rfl) (HN _) ?_; rintro e w9 ⟨rfl, rfl⟩)
            rw [HF.out, H3.out]
            refine bodyPost_ret (v := .agg #[.int .i64 q, .int .i64 u]) (by unfold results; rw [Try.results167]; go_simp) rfl ⟨rfl, (by repeat' (first | with_reducible exact K.Ext.refl _ | with_reducible assumption | with_reducible refine K.Ext.drew ?_ | with_reducible refine K.Ext.alloc ?_ _ | with_reducible refine K.Ext.setCell ?_ ?_ _ | with_reducible refine K.Ext.trans ?_ (by with_reducible assumption) | (dsimp only; omega) | omega | exact K.Ext.refl _ | assumption | apply K.Ext.drew | refine K.Ext.alloc ?_ _ | refine K.Ext.setCell ?_ ?_ _ | (simp; done) | (simp; omega) | refine K.Ext.trans ?_ (by assumption)))⟩
set_option maxHeartbeats 1600000 in
theorem rounded_any (n d t : Int) (w : World) (hn : 1 ≤ n) (hn' : n ≤ 1000000000) (hd : 1 ≤ d) (hd' : d ≤ 1000000000) (ht : -1000000 ≤ t) (ht' : t ≤ 1000000) :
    Calls Try.prog 193 #[.int .i64 n, .int .i64 d, .int .i64 t] w fun e w' => e = .returned (.agg #[.int .i64 (Z.round n d t).1, .int .i64 (Z.round n d t).2]) ∧ K.Ext w w' := by
  have hd0 := Z.hide hd
  go_enter Try.func193, Try.ntmps193
  go_wp2
  go_loop [0, 2] (fun n' t' => ∃ (k : Nat) (z u : Int), n' = .int .i64 z ∧ t' = .int .i64 u ∧ k ≤ 12 ∧ Hid (Z.up k z d u = Z.up 12 n d (t + 3)) ∧ 1000 * d ≤ z * Z.ten k ∧ 1 ≤ z ∧ z ≤ 10000000000000 ∧ -3000000 + (k : Int) ≤ u ∧ u ≤ 3000000) (fun n' _ => (1000 * d - intOf n').toNat)
  case atStart => exact ⟨12, n, t + 3, rfl, rfl, Nat.le_refl _, Z.hide rfl, by rw [Z.ten_12]; omega, hn, by omega, by omega, by omega⟩
  case round =>
    obtain ⟨k2, z, u, rfl, rfl, hk2, HE2, p1, p2, p3, p4, p5⟩ := hrel
    by_cases hc2 : z < 1000 * d
    · obtain ⟨k', rfl⟩ : ∃ k', k2 = k' + 1 := by
        cases k2 with
        | zero => simp only [Z.ten] at p1; omega
        | succ k' => exact ⟨k', rfl⟩
      have HS := Z.hide (show Z.up (k' + 1) z d u = Z.up k' (10 * z) d (u - 1) by simp only [Z.up]; rw [if_pos hc2])
      have h6 : 1000 * d ≤ 10 * z * Z.ten k' := by rw [← Z.ten_up]; exact p1
      have H6 := Z.hide h6
      have e10 : z * 10 = 10 * z := Int.mul_comm _ _
      clear p1 h6
      go_wp2
      go_round
      case rel => exact ⟨k', 10 * z, u - 1, by go_num, by go_num, by omega, Z.hide (by rw [← HS.out, HE2.out]), H6.out, by omega, by omega, by omega, by omega⟩
      case measure => simp [intOf]; omega
    · have HU := Z.hide (show Z.up k2 z d u = (z, u) from Z.up_end (by omega))
      rw [HE2.out] at HU
      clear p1 HE2
      go_wp2
      go_loop [1, 2] (fun d' t' => ∃ (k : Nat) (x y : Int), d' = .int .i64 x ∧ t' = .int .i64 y ∧ k ≤ 12 ∧ Hid (Z.dn k z x y = Z.dn 12 z d u) ∧ z < 10000 * x * Z.ten k ∧ 1 ≤ x ∧ x ≤ 10000000000000 ∧ -4000000 ≤ y ∧ y ≤ 4000000 - (k : Int)) (fun d' _ => (z - intOf d').toNat)
      case atStart => exact ⟨12, d, u, rfl, rfl, Nat.le_refl _, Z.hide rfl, by rw [Z.ten_12]; omega, hd, by omega, by omega, by omega⟩
      case round =>
        obtain ⟨k, x, y, rfl, rfl, hk, HE, h1, h2, h3, h4, h5⟩ := hrel
        by_cases hc : 10000 * x ≤ z
        · obtain ⟨k', rfl⟩ : ∃ k', k = k' + 1 := by
            cases k with
            | zero => simp only [Z.ten] at h1; omega
            | succ k' => exact ⟨k', rfl⟩
          have HS := Z.hide (show Z.dn (k' + 1) z x y = Z.dn k' z (10 * x) (y + 1) by simp only [Z.dn]; rw [if_pos hc])
          have h6 : z < 10000 * (10 * x) * Z.ten k' := by rw [← Z.ten_dn]; exact h1
          have H6 := Z.hide h6
          have e10 : x * 10 = 10 * x := Int.mul_comm _ _
          clear h1 h6
          go_wp2
          go_round
          case rel => exact ⟨k', 10 * x, y + 1, by go_num, by go_num, by omega, Z.hide (by rw [← HS.out, HE.out]), H6.out, by omega, by omega, by omega, by omega⟩
          case measure => simp [intOf]; omega
        · have HD := Z.hide (show Z.dn k z x y = (x, y) from Z.dn_end (by omega))
          rw [HE.out] at HD
          clear h1 HE
          have HF : Hid (Z.round n d t = Z.fin z x y) := Z.hide (by rw [Z.round_eq n d t hd0.out, HU.out, HD.out])
          obtain ⟨q, hq⟩ : ∃ q, q = Z.nr z x := ⟨_, rfl⟩
          have HN : ∀ w' : World, Calls Try.prog 206 #[.int .i64 z, .int .i64 x] w' fun e w'' => e = .returned (.int .i64 q) ∧ w' = w'' := fun w' => by rw [hq]; have := near_any z x w' (by omega) (by omega) (by omega) (by omega) (by omega); rwa [Z.nearAny, if_neg (by omega)] at this
          by_cases h10 : q = 10000
          · have H3 : Hid (Z.fin z x y = (1000, y + 1)) := Z.hide (by unfold Z.fin; rw [← hq, if_pos h10])
            clear hq
            go_wp2_with (go_at_call 206; refine K.call (by with_reducible rfl) (by with_reducible rfl) (HN _) ?_; rintro e w9 ⟨rfl, rfl⟩)
            rw [HF.out, H3.out]
            refine bodyPost_ret (v := .agg #[.int .i64 1000, .int .i64 (y + 1)]) (by unfold results; rw [Try.results193]; go_simp) rfl ⟨rfl, (by repeat' (first | with_reducible exact K.Ext.refl _ | with_reducible assumption | with_reducible refine K.Ext.drew ?_ | with_reducible refine K.Ext.alloc ?_ _ | with_reducible refine K.Ext.setCell ?_ ?_ _ | with_reducible refine K.Ext.trans ?_ (by with_reducible assumption) | (dsimp only; omega) | omega | exact K.Ext.refl _ | assumption | apply K.Ext.drew | refine K.Ext.alloc ?_ _ | refine K.Ext.setCell ?_ ?_ _ | (simp; done) | (simp; omega) | refine K.Ext.trans ?_ (by assumption)))⟩
          · have H3 : Hid (Z.fin z x y = (q, y)) := Z.hide (by unfold Z.fin; rw [← hq, if_neg h10])
            clear hq
            go_wp2_with (go_at_call 206; refine K.call (by with_reducible rfl) (by with_reducible rfl) (HN _) ?_; rintro e w9 ⟨rfl, rfl⟩)
            rw [HF.out, H3.out]
            refine bodyPost_ret (v := .agg #[.int .i64 q, .int .i64 y]) (by unfold results; rw [Try.results193]; go_simp) rfl ⟨rfl, (by repeat' (first | with_reducible exact K.Ext.refl _ | with_reducible assumption | with_reducible refine K.Ext.drew ?_ | with_reducible refine K.Ext.alloc ?_ _ | with_reducible refine K.Ext.setCell ?_ ?_ _ | with_reducible refine K.Ext.trans ?_ (by with_reducible assumption) | (dsimp only; omega) | omega | exact K.Ext.refl _ | assumption | apply K.Ext.drew | refine K.Ext.alloc ?_ _ | refine K.Ext.setCell ?_ ?_ _ | (simp; done) | (simp; omega) | refine K.Ext.trans ?_ (by assumption)))⟩
end Go.Proofs.Ythmnlbgbacbocaa
