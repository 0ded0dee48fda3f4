/-
  LOGARITHMS of figures, both sides.
-/
import Derived.Test.YtphlppklhpaljaaZLog
import Derived.Test.YtphlppklhpaljaaBase
import Derived.Test.YtphlppklhpaljaaMadeOf
set_option linter.unusedVariables false
namespace Go.Proofs.Ytphlppklhpaljaa
open Go.RowKit
set_option maxHeartbeats 6400000 in
theorem logarithm_any (x : Int) (w : World) (x1 : 100000000 ≤ x) (x2 : x < 1000000000) :
    Calls Try.prog 213 #[.int .i64 x] w fun e w' => e = .returned (.agg #[.int .i64 (Z.logOf x).1, .int .i64 (Z.logOf x).2]) ∧ K.Ext w w' := by
  have HE : Hid (Z.logOf x = ((Z.itL x 20).2, (Z.itH x 20).2 + 1)) := Z.hide rfl
  go_enter Try.func213, Try.ntmps213
  go_wp2
  go_loopw [3, 4, 9] (fun l h i wr => ∃ k : Nat, k ≤ 20 ∧ i = .int .i64 k ∧ l = .int .i64 (Z.itL x k).1 ∧ h = .int .i64 (Z.itH x k).1 ∧ Hid (wr.heap[w.heap.size]? = some (.cells #[.int .i64 0, .int .i64 0] 135)) ∧ Hid (wr.heap[w.heap.size + 1]? = some (.cells #[.int .i64 (Z.itL x k).2, .int .i64 (Z.itH x k).2] 135)) ∧ Hid (K.Ext w wr)) (fun _ _ i _ => 20 - (intOf i).toNat)
  case atStart => exact ⟨0, Nat.zero_le _, rfl, rfl, rfl, Z.hide (((K.Ext.refl _).alloc _).block (K.block_new rfl)), Z.hide (K.block_new (by simp)), Z.hide (by repeat' (first | with_reducible exact K.Ext.refl _ | with_reducible assumption | with_reducible refine K.Ext.drew ?_ | with_reducible refine K.Ext.alloc ?_ _ | with_reducible refine K.Ext.setCell ?_ ?_ _ | with_reducible refine K.Ext.trans ?_ (by with_reducible assumption) | (dsimp only; omega) | omega | exact K.Ext.refl _ | assumption | apply K.Ext.drew | refine K.Ext.alloc ?_ _ | refine K.Ext.setCell ?_ ?_ _ | (simp; done) | (simp; omega) | refine K.Ext.trans ?_ (by assumption)))⟩
  case round =>
    obtain ⟨k, hk, rfl, rfl, rfl, B0, B1, HX⟩ := hrel
    have k0 : (0 : Int) ≤ (k : Int) := Int.natCast_nonneg k
    have lw : w.heap.size + 1 < wr.heap.size := (Array.getElem?_eq_some_iff.1 B1.out).1
    have n1 : ¬ (w.heap.size = w.heap.size + 1) := by omega
    by_cases hlt : k < 20
    · have k1 : (k : Int) < 20 := by omega
      obtain ⟨⟨l1, l2⟩, l3, l4⟩ := Z.itL_bd x1 x2 k
      obtain ⟨⟨h1, h2⟩, h3, h4⟩ := Z.itH_bd x1 x2 k
      have hb := Z.b2_mono (show k ≤ 20 by omega)
      rw [Z.b2_20] at hb
      obtain ⟨p, hp⟩ : ∃ p, p = Z.itL x k := ⟨_, rfl⟩
      obtain ⟨q, hq⟩ : ∃ q, q = Z.itH x k := ⟨_, rfl⟩
      have SL : Hid (Z.itL x (k + 1) = Z.stepL p) := Z.hide (by rw [hp]; rfl)
      have SH : Hid (Z.itH x (k + 1) = Z.stepH q) := Z.hide (by rw [hq]; rfl)
      rw [← hp] at l1 l2 l3 l4 B1 ⊢
      rw [← hq] at h1 h2 h3 h4 B1 ⊢
      clear hp hq
      have c0 : wr.cell? ⟨w.heap.size + 1, 0, none⟩ = some (.int .i64 p.2) := K.cell_at B1.out rfl
      have c1 : wr.cell? ⟨w.heap.size + 1, 1, none⟩ = some (.int .i64 q.2) := K.cell_at B1.out rfl
      have f0 : wr.frozen? ⟨w.heap.size + 1, 0, none⟩ = false := K.thaw_at B1.out
      have f1 : wr.frozen? ⟨w.heap.size + 1, 1, none⟩ = false := K.thaw_at B1.out
      obtain ⟨a1, a2⟩ := Z.sq_bd l1 (by omega)
      obtain ⟨b1, b2⟩ := Z.sq_bd h1 h2
      have q1 : IntKind.i64.wrap (p.1 * p.1) = p.1 * p.1 := IntWalk.i64_in _ (by omega)
      have q2 : IntKind.i64.wrap (q.1 * q.1) = q.1 * q.1 := IntWalk.i64_in _ (by omega)
      obtain ⟨y, hy⟩ : ∃ y, y = Z.fl (p.1 * p.1) 100000000 := ⟨_, rfl⟩
      obtain ⟨z, hz⟩ : ∃ z, z = Z.cl (q.1 * q.1) 100000000 := ⟨_, rfl⟩
      have D1 : Hid (∀ w : World, Calls Try.prog 214 #[.int .i64 (p.1 * p.1), .int .i64 100000000] w fun e w' => e = .returned (.int .i64 y) ∧ w = w') := Z.hide (fun w => by rw [hy]; exact down_any _ _ w (by decide) (by omega) (by omega))
      have U1 : Hid (∀ w : World, Calls Try.prog 215 #[.int .i64 (q.1 * q.1), .int .i64 100000000] w fun e w' => e = .returned (.int .i64 z) ∧ w = w') := Z.hide (fun w => by rw [hz]; exact up_any _ _ w (by decide) (by omega) (by omega))
      have y1 : 0 ≤ y ∧ y ≤ 100000000000000000 := by rw [hy]; have := Z.fl_spec (p.1 * p.1) 100000000 (by decide); omega
      have z1 : 0 ≤ z ∧ z ≤ 100000000000000000 := by rw [hz]; have := Z.fl_spec (-(q.1 * q.1)) 100000000 (by decide); unfold Z.cl; omega
      have D2 : Hid (∀ w : World, Calls Try.prog 214 #[.int .i64 y, .int .i64 10] w fun e w' => e = .returned (.int .i64 (Z.fl y 10)) ∧ w = w') := Z.hide (fun w => down_any _ _ w (by decide) (by omega) (by omega))
      have U2 : Hid (∀ w : World, Calls Try.prog 215 #[.int .i64 z, .int .i64 10] w fun e w' => e = .returned (.int .i64 (Z.cl z 10)) ∧ w = w') := Z.hide (fun w => up_any _ _ w (by decide) (by omega) (by omega))
      obtain ⟨y2, hy2⟩ : ∃ u, u = Z.fl y 10 := ⟨_, rfl⟩
      obtain ⟨z2, hz2⟩ : ∃ u, u = Z.cl z 10 := ⟨_, rfl⟩
      rw [← hy2] at D2
      rw [← hz2] at U2
      have TL : Hid (Z.stepL p = if 1000000000 ≤ y then (y2, p.2 * 2 + 1) else (y, p.2 * 2)) := Z.hide (by unfold Z.stepL; rw [← hy, ← hy2])
      have TH : Hid (Z.stepH q = if 1000000000 ≤ z then (z2, q.2 * 2 + 1) else (z, q.2 * 2)) := Z.hide (by unfold Z.stepH; rw [← hz, ← hz2])
      obtain ⟨y1a, y1b⟩ := y1
      obtain ⟨z1a, z1b⟩ := z1
      have p2b : p.2 ≤ 1048576 := by omega
      have q2b : q.2 ≤ 1048576 := by omega
      clear hy hz hy2 hz2 hb l4 h4 a1 a2 b1 b2 l1 l2 h1 h2
      by_cases cy : 1000000000 ≤ y
      · rw [if_pos cy] at TL
        by_cases cz : 1000000000 ≤ z
        · rw [if_pos cz] at TH
          go_wp2_with (first | (go_at_call 214; refine K.call (by with_reducible rfl) (by with_reducible rfl) (D1.out _) ?_; rintro e w' ⟨rfl, rfl⟩) | (go_at_call 214; refine K.call (by with_reducible rfl) (by with_reducible rfl) (D2.out _) ?_; rintro e w' ⟨rfl, rfl⟩) | (go_at_call 215; refine K.call (by with_reducible rfl) (by with_reducible rfl) (U1.out _) ?_; rintro e w' ⟨rfl, rfl⟩) | (go_at_call 215; refine K.call (by with_reducible rfl) (by with_reducible rfl) (U2.out _) ?_; rintro e w' ⟨rfl, rfl⟩))
          go_roundw
          case rel =>
            refine ⟨k + 1, by omega, by go_num, by rw [SL.out, TL.out], by rw [SH.out, TH.out], Z.hide ?_, Z.hide ?_, Z.hide ?_⟩
            · iterate 4 with_reducible refine Eq.trans (K.set_block (by dsimp only; omega)) ?_
              exact B0.out
            · rw [SL.out, TL.out, SH.out, TH.out]
              exact Joins.block_setCell (Joins.block_setCell (Joins.block_setCell (Joins.block_setCell B1.out _) _) _) _
            · iterate 4 with_reducible refine K.Ext.setCell ?_ (by dsimp only; omega) _
              exact HX.out
          case measure => simp [intOf]; omega
        · rw [if_neg cz] at TH
          go_wp2_with (first | (go_at_call 214; refine K.call (by with_reducible rfl) (by with_reducible rfl) (D1.out _) ?_; rintro e w' ⟨rfl, rfl⟩) | (go_at_call 214; refine K.call (by with_reducible rfl) (by with_reducible rfl) (D2.out _) ?_; rintro e w' ⟨rfl, rfl⟩) | (go_at_call 215; refine K.call (by with_reducible rfl) (by with_reducible rfl) (U1.out _) ?_; rintro e w' ⟨rfl, rfl⟩) | (go_at_call 215; refine K.call (by with_reducible rfl) (by with_reducible rfl) (U2.out _) ?_; rintro e w' ⟨rfl, rfl⟩))
          go_roundw
          case rel =>
            refine ⟨k + 1, by omega, by go_num, by rw [SL.out, TL.out], by rw [SH.out, TH.out], Z.hide ?_, Z.hide ?_, Z.hide ?_⟩
            · iterate 3 with_reducible refine Eq.trans (K.set_block (by dsimp only; omega)) ?_
              exact B0.out
            · rw [SL.out, TL.out, SH.out, TH.out]
              exact Joins.block_setCell (Joins.block_setCell (Joins.block_setCell B1.out _) _) _
            · iterate 3 with_reducible refine K.Ext.setCell ?_ (by dsimp only; omega) _
              exact HX.out
          case measure => simp [intOf]; omega
      · rw [if_neg cy] at TL
        by_cases cz : 1000000000 ≤ z
        · rw [if_pos cz] at TH
          go_wp2_with (first | (go_at_call 214; refine K.call (by with_reducible rfl) (by with_reducible rfl) (D1.out _) ?_; rintro e w' ⟨rfl, rfl⟩) | (go_at_call 214; refine K.call (by with_reducible rfl) (by with_reducible rfl) (D2.out _) ?_; rintro e w' ⟨rfl, rfl⟩) | (go_at_call 215; refine K.call (by with_reducible rfl) (by with_reducible rfl) (U1.out _) ?_; rintro e w' ⟨rfl, rfl⟩) | (go_at_call 215; refine K.call (by with_reducible rfl) (by with_reducible rfl) (U2.out _) ?_; rintro e w' ⟨rfl, rfl⟩))
          go_roundw
          case rel =>
            refine ⟨k + 1, by omega, by go_num, by rw [SL.out, TL.out], by rw [SH.out, TH.out], Z.hide ?_, Z.hide ?_, Z.hide ?_⟩
            · iterate 3 with_reducible refine Eq.trans (K.set_block (by dsimp only; omega)) ?_
              exact B0.out
            · rw [SL.out, TL.out, SH.out, TH.out]
              exact Joins.block_setCell (Joins.block_setCell (Joins.block_setCell B1.out _) _) _
            · iterate 3 with_reducible refine K.Ext.setCell ?_ (by dsimp only; omega) _
              exact HX.out
          case measure => simp [intOf]; omega
        · rw [if_neg cz] at TH
          go_wp2_with (first | (go_at_call 214; refine K.call (by with_reducible rfl) (by with_reducible rfl) (D1.out _) ?_; rintro e w' ⟨rfl, rfl⟩) | (go_at_call 214; refine K.call (by with_reducible rfl) (by with_reducible rfl) (D2.out _) ?_; rintro e w' ⟨rfl, rfl⟩) | (go_at_call 215; refine K.call (by with_reducible rfl) (by with_reducible rfl) (U1.out _) ?_; rintro e w' ⟨rfl, rfl⟩) | (go_at_call 215; refine K.call (by with_reducible rfl) (by with_reducible rfl) (U2.out _) ?_; rintro e w' ⟨rfl, rfl⟩))
          go_roundw
          case rel =>
            refine ⟨k + 1, by omega, by go_num, by rw [SL.out, TL.out], by rw [SH.out, TH.out], Z.hide ?_, Z.hide ?_, Z.hide ?_⟩
            · iterate 2 with_reducible refine Eq.trans (K.set_block (by dsimp only; omega)) ?_
              exact B0.out
            · rw [SL.out, TL.out, SH.out, TH.out]
              exact Joins.block_setCell (Joins.block_setCell B1.out _) _
            · iterate 2 with_reducible refine K.Ext.setCell ?_ (by dsimp only; omega) _
              exact HX.out
          case measure => simp [intOf]; omega
    · obtain rfl : k = 20 := by omega
      have l3 := (Z.itL_bd x1 x2 20).2
      have h3 := (Z.itH_bd x1 x2 20).2
      rw [Z.b2_20] at l3 h3
      generalize Z.itL x 20 = p at *
      generalize Z.itH x 20 = q at *
      have c0 : wr.cell? ⟨w.heap.size + 1, 0, none⟩ = some (.int .i64 p.2) := K.cell_at B1.out rfl
      have c1 : wr.cell? ⟨w.heap.size + 1, 1, none⟩ = some (.int .i64 q.2) := K.cell_at B1.out rfl
      have f1 : wr.frozen? ⟨w.heap.size + 1, 1, none⟩ = false := K.thaw_at B1.out
      have d0 : wr.cell? ⟨w.heap.size, 0, none⟩ = some (.int .i64 0) := K.cell_at B0.out rfl
      have d1 : wr.cell? ⟨w.heap.size, 1, none⟩ = some (.int .i64 0) := K.cell_at B0.out rfl
      have g0 : wr.frozen? ⟨w.heap.size, 0, none⟩ = false := K.thaw_at B0.out
      have g1 : wr.frozen? ⟨w.heap.size, 1, none⟩ = false := K.thaw_at B0.out
      obtain ⟨h3a, h3b⟩ := h3
      go_wp2
      rw [HE.out]
      refine bodyPost_ret (v := .agg #[.int .i64 p.2, .int .i64 (q.2 + 1)]) (by unfold results; rw [Try.results213]; go_simp) rfl ⟨rfl, ?_⟩
      repeat with_reducible refine K.Ext.setCell ?_ (by dsimp only; omega) _
      exact HX.out
set_option maxHeartbeats 3200000 in
theorem l03Bits_low (x : Int) (w : World) (x1 : 100000000 ≤ x) (x2 : x < 1000000000) :
    Calls Try.prog 226 #[.int .i64 x, .bool false] w fun e w' => e = .returned (.int .i64 (Z.itL x 20).2) ∧ w = w' := by
  go_enter Try.func226, Try.ntmps226
  go_wp2
  go_loop [0, 5, 6] (fun l n i => ∃ k : Nat, k ≤ 20 ∧ i = .int .i64 k ∧ l = .int .i64 (Z.itL x k).1 ∧ n = .int .i64 (Z.itL x k).2) (fun _ _ i => 20 - (intOf i).toNat)
  case atStart => exact ⟨0, Nat.zero_le _, rfl, rfl, rfl⟩
  case round =>
    obtain ⟨k, hk, rfl, rfl, rfl⟩ := hrel
    have k0 : (0 : Int) ≤ (k : Int) := Int.natCast_nonneg k
    by_cases hlt : k < 20
    · have k1 : (k : Int) < 20 := by omega
      obtain ⟨⟨l1, l2⟩, l3, l4⟩ := Z.itL_bd x1 x2 k
      have hb := Z.b2_mono (show k ≤ 20 by omega)
      rw [Z.b2_20] at hb
      obtain ⟨p, hp⟩ : ∃ p, p = Z.itL x k := ⟨_, rfl⟩
      have SL : Hid (Z.itL x (k + 1) = Z.stepL p) := Z.hide (by rw [hp]; rfl)
      rw [← hp] at l1 l2 l3 l4 ⊢
      clear hp
      obtain ⟨a1, a2⟩ := Z.sq_bd l1 (by omega)
      have q1 : IntKind.i64.wrap (p.1 * p.1) = p.1 * p.1 := IntWalk.i64_in _ (by omega)
      have TL : Hid (Z.stepL p = if 1000000000 ≤ (p.1 * p.1) / 100000000 then ((p.1 * p.1) / 100000000 / 10, p.2 * 2 + 1) else ((p.1 * p.1) / 100000000, p.2 * 2)) := Z.hide (by unfold Z.stepL; rw [Z.fl_eq_ediv _ _ (by decide), Z.fl_eq_ediv _ _ (by decide)])
      have p2b : p.2 ≤ 1048576 := by omega
      obtain ⟨s, hs⟩ : ∃ s, s = p.1 * p.1 := ⟨_, rfl⟩
      rw [← hs] at q1 TL a1 a2
      have y0 : 0 ≤ s / 100000000 := by omega
      have y1 : s / 100000000 ≤ 10000000000 := by omega
      have s0 : 0 ≤ s := by omega
      clear hb l4 l1 l2
      have HSs := Z.hide hs
      by_cases cy : 1000000000 ≤ s / 100000000
      all_goals
        first | rw [if_pos cy] at TL | rw [if_neg cy] at TL
        rw [HSs.out] at q1
        go_wp2
        go_round
        case rel => exact ⟨k + 1, by omega, by go_num, by rw [SL.out, TL.out, HSs.out], by rw [SL.out, TL.out]; exact K.vint (by omega)⟩
        case measure => simp [intOf]; omega
    · obtain rfl : k = 20 := by omega
      obtain ⟨p, hp⟩ : ∃ p, p = Z.itL x 20 := ⟨_, rfl⟩
      rw [← hp]
      have HPp := Z.hide hp
      clear hp
      go_wp2
      go_ret
      exact ⟨K.ri (by rw [HPp.out]), rfl⟩
set_option maxHeartbeats 3200000 in
theorem l03Bits_high (x : Int) (w : World) (x1 : 100000000 ≤ x) (x2 : x < 1000000000) :
    Calls Try.prog 226 #[.int .i64 x, .bool true] w fun e w' => e = .returned (.int .i64 (Z.itH x 20).2) ∧ w = w' := by
  go_enter Try.func226, Try.ntmps226
  go_wp2
  go_loop [0, 5, 6] (fun l n i => ∃ k : Nat, k ≤ 20 ∧ i = .int .i64 k ∧ l = .int .i64 (Z.itH x k).1 ∧ n = .int .i64 (Z.itH x k).2) (fun _ _ i => 20 - (intOf i).toNat)
  case atStart => exact ⟨0, Nat.zero_le _, rfl, rfl, rfl⟩
  case round =>
    obtain ⟨k, hk, rfl, rfl, rfl⟩ := hrel
    have k0 : (0 : Int) ≤ (k : Int) := Int.natCast_nonneg k
    by_cases hlt : k < 20
    · have k1 : (k : Int) < 20 := by omega
      obtain ⟨⟨h1, h2⟩, h3, h4⟩ := Z.itH_bd x1 x2 k
      have hb := Z.b2_mono (show k ≤ 20 by omega)
      rw [Z.b2_20] at hb
      obtain ⟨q, hq⟩ : ∃ q, q = Z.itH x k := ⟨_, rfl⟩
      have SH : Hid (Z.itH x (k + 1) = Z.stepH q) := Z.hide (by rw [hq]; rfl)
      rw [← hq] at h1 h2 h3 h4 ⊢
      clear hq
      obtain ⟨b1, b2⟩ := Z.sq_bd h1 h2
      have q2 : IntKind.i64.wrap (q.1 * q.1) = q.1 * q.1 := IntWalk.i64_in _ (by omega)
      obtain ⟨z, hz⟩ : ∃ z, z = Z.cl (q.1 * q.1) 100000000 := ⟨_, rfl⟩
      have U1 : Hid (∀ w : World, Calls Try.prog 211 #[.int .i64 (q.1 * q.1), .int .i64 100000000] w fun e w' => e = .returned (.int .i64 z) ∧ w = w') := Z.hide (fun w => by rw [hz]; exact l01Ceil_any _ _ w (by decide) (by omega) (by omega) (by decide) (by decide))
      have z1 : 0 ≤ z ∧ z ≤ 100000000000000000 := by rw [hz]; have := Z.fl_spec (-(q.1 * q.1)) 100000000 (by decide); unfold Z.cl; omega
      have U2 : Hid (∀ w : World, Calls Try.prog 211 #[.int .i64 z, .int .i64 10] w fun e w' => e = .returned (.int .i64 (Z.cl z 10)) ∧ w = w') := Z.hide (fun w => l01Ceil_any _ _ w (by decide) (by omega) (by omega) (by decide) (by decide))
      obtain ⟨z2, hz2⟩ : ∃ u, u = Z.cl z 10 := ⟨_, rfl⟩
      rw [← hz2] at U2
      have TH : Hid (Z.stepH q = if 1000000000 ≤ z then (z2, q.2 * 2 + 1) else (z, q.2 * 2)) := Z.hide (by unfold Z.stepH; rw [← hz, ← hz2])
      obtain ⟨z1a, z1b⟩ := z1
      have q2b : q.2 ≤ 1048576 := by omega
      clear hz hz2 hb h4 b1 b2 h1 h2
      by_cases cz : 1000000000 ≤ z
      all_goals
        first | rw [if_pos cz] at TH | rw [if_neg cz] at TH
        go_wp2_with (first | (go_at_call 211; refine K.call (by with_reducible rfl) (by with_reducible rfl) (U1.out _) ?_; rintro e w' ⟨rfl, rfl⟩) | (go_at_call 211; refine K.call (by with_reducible rfl) (by with_reducible rfl) (U2.out _) ?_; rintro e w' ⟨rfl, rfl⟩))
        go_round
        case rel => exact ⟨k + 1, by omega, by go_num, by rw [SH.out, TH.out], by rw [SH.out, TH.out]; exact K.vint (by omega)⟩
        case measure => simp [intOf]; omega
    · obtain rfl : k = 20 := by omega
      obtain ⟨p, hp⟩ : ∃ p, p = Z.itH x 20 := ⟨_, rfl⟩
      rw [← hp]
      have HPp := Z.hide hp
      clear hp
      go_wp2
      go_ret
      exact ⟨K.ri (by rw [HPp.out]), rfl⟩
end Go.Proofs.Ytphlppklhpaljaa
