/-
  Part 3 of the texts of this claim: contracts of functions and plain mathematics.
-/
import Derived.Test.YtimpcelbekhipaaGreatPRT2
import Derived.Laws.Pointers
import Derived.Lib.Slices
import Derived.Lib.Strings
import Derived.Lib.Walk
import Derived.OneCell
set_option linter.unusedVariables false
section
namespace Go.K
open Go.RowKit
theorem set_block {w : World} {k : Nat} {a : Addr} {v : Value} (hne : k ≠ a.block) : (w.setCell a v).heap[k]? = w.heap[k]? := Below.heap_setCell _ _ _ _ hne
end Go.K
namespace Go.Proofs.YtimpcelbekhipaaGreat
open Go.RowKit
end Go.Proofs.YtimpcelbekhipaaGreat
end
section
namespace Go.Proofs.YtimpcelbekhipaaGreat
open Go.RowKit
set_option maxHeartbeats 6400000 in
theorem logarithm_any (x : Int) (w : World) (x1 : 100000000 ≤ x) (x2 : x < 1000000000) :
    Calls Tryz.prog 93 #[.int .i64 x] w fun e w' => e = .returned (.agg #[.int .i64 (Z.logOf x).1, .int .i64 (Z.logOf x).2]) ∧ K.Ext w w' := by
  have HE : Hid (Z.logOf x = ((Z.itL x 20).2, (Z.itH x 20).2 + 1)) := Z.hide rfl
  go_enter Tryz.func93, Tryz.ntmps93
  go_wp2
  go_loopw [3, 4, 9] (fun l h i wr => ∃ k : Nat, k ≤ 20 ∧ i = .int .i64 k ∧ l = .int .i64 (Z.itL x k).1 ∧ h = .int .i64 (Z.itH x k).1 ∧ Hid (wr.heap[w.heap.size]? = some (.cells #[.int .i64 0, .int .i64 0] 82)) ∧ Hid (wr.heap[w.heap.size + 1]? = some (.cells #[.int .i64 (Z.itL x k).2, .int .i64 (Z.itH x k).2] 82)) ∧ Hid (K.Ext w wr)) (fun _ _ i _ => 20 - (intOf i).toNat)
  case atStart => exact ⟨0, Nat.zero_le _, rfl, rfl, rfl, Z.hide (((K.Ext.refl _).alloc _).block (K.block_new rfl)), Z.hide (K.block_new (by simp)), Z.hide K.bel⟩
  case round =>
    obtain ⟨k, hk, rfl, rfl, rfl, B0, B1, HX⟩ := hrel
    have k0 : (0 : Int) ≤ (k : Int) := Int.natCast_nonneg k
    have lw : w.heap.size + 1 < wr.heap.size := (Array.getElem?_eq_some_iff.1 B1.out).1
    have n1 : ¬ (w.heap.size = w.heap.size + 1) := by omega
    by_cases hlt : k < 20
    · have k1 : (k : Int) < 20 := by omega
      obtain ⟨⟨l1, l2⟩, l3, l4⟩ := Z.itL_bd x1 x2 k
      obtain ⟨⟨h1, h2⟩, h3, h4⟩ := Z.itH_bd x1 x2 k
      have hb := Z.b2_mono (show k ≤ 20 by omega)
      rw [Z.b2_20] at hb
      obtain ⟨p, hp⟩ : ∃ p, p = Z.itL x k := ⟨_, rfl⟩
      obtain ⟨q, hq⟩ : ∃ q, q = Z.itH x k := ⟨_, rfl⟩
      have SL : Hid (Z.itL x (k + 1) = Z.stepL p) := Z.hide (by rw [hp]; rfl)
      have SH : Hid (Z.itH x (k + 1) = Z.stepH q) := Z.hide (by rw [hq]; rfl)
      rw [← hp] at l1 l2 l3 l4 B1 ⊢
      rw [← hq] at h1 h2 h3 h4 B1 ⊢
      clear hp hq
      have c0 : wr.cell? ⟨w.heap.size + 1, 0, none⟩ = some (.int .i64 p.2) := K.cell_at B1.out rfl
      have c1 : wr.cell? ⟨w.heap.size + 1, 1, none⟩ = some (.int .i64 q.2) := K.cell_at B1.out rfl
      have f0 : wr.frozen? ⟨w.heap.size + 1, 0, none⟩ = false := K.thaw_at B1.out
      have f1 : wr.frozen? ⟨w.heap.size + 1, 1, none⟩ = false := K.thaw_at B1.out
      obtain ⟨a1, a2⟩ := Z.sq_bd l1 (by omega)
      obtain ⟨b1, b2⟩ := Z.sq_bd h1 h2
      have q1 : IntKind.i64.wrap (p.1 * p.1) = p.1 * p.1 := IntWalk.i64_in _ (by omega)
      have q2 : IntKind.i64.wrap (q.1 * q.1) = q.1 * q.1 := IntWalk.i64_in _ (by omega)
      obtain ⟨y, hy⟩ : ∃ y, y = Z.fl (p.1 * p.1) 100000000 := ⟨_, rfl⟩
      obtain ⟨z, hz⟩ : ∃ z, z = Z.cl (q.1 * q.1) 100000000 := ⟨_, rfl⟩
      have D1 : Hid (∀ w : World, Calls Tryz.prog 91 #[.int .i64 (p.1 * p.1), .int .i64 100000000] w fun e w' => e = .returned (.int .i64 y) ∧ w = w') := Z.hide (fun w => by rw [hy]; exact down_any _ _ w (by decide) (by omega) (by omega))
      have U1 : Hid (∀ w : World, Calls Tryz.prog 77 #[.int .i64 (q.1 * q.1), .int .i64 100000000] w fun e w' => e = .returned (.int .i64 z) ∧ w = w') := Z.hide (fun w => by rw [hz]; exact up_any _ _ w (by decide) (by omega) (by omega))
      have y1 : 0 ≤ y ∧ y ≤ 100000000000000000 := by rw [hy]; have := Z.fl_spec (p.1 * p.1) 100000000 (by decide); omega
      have z1 : 0 ≤ z ∧ z ≤ 100000000000000000 := by rw [hz]; have := Z.fl_spec (-(q.1 * q.1)) 100000000 (by decide); unfold Z.cl; omega
      have D2 : Hid (∀ w : World, Calls Tryz.prog 91 #[.int .i64 y, .int .i64 10] w fun e w' => e = .returned (.int .i64 (Z.fl y 10)) ∧ w = w') := Z.hide (fun w => down_any _ _ w (by decide) (by omega) (by omega))
      have U2 : Hid (∀ w : World, Calls Tryz.prog 77 #[.int .i64 z, .int .i64 10] w fun e w' => e = .returned (.int .i64 (Z.cl z 10)) ∧ w = w') := Z.hide (fun w => up_any _ _ w (by decide) (by omega) (by omega))
      obtain ⟨y2, hy2⟩ : ∃ u, u = Z.fl y 10 := ⟨_, rfl⟩
      obtain ⟨z2, hz2⟩ : ∃ u, u = Z.cl z 10 := ⟨_, rfl⟩
      rw [← hy2] at D2
      rw [← hz2] at U2
      have TL : Hid (Z.stepL p = if 1000000000 ≤ y then (y2, p.2 * 2 + 1) else (y, p.2 * 2)) := Z.hide (by unfold Z.stepL; rw [← hy, ← hy2])
      have TH : Hid (Z.stepH q = if 1000000000 ≤ z then (z2, q.2 * 2 + 1) else (z, q.2 * 2)) := Z.hide (by unfold Z.stepH; rw [← hz, ← hz2])
      obtain ⟨y1a, y1b⟩ := y1
      obtain ⟨z1a, z1b⟩ := z1
      have p2b : p.2 ≤ 1048576 := by omega
      have q2b : q.2 ≤ 1048576 := by omega
      clear hy hz hy2 hz2 hb l4 h4 a1 a2 b1 b2 l1 l2 h1 h2
      by_cases cy : 1000000000 ≤ y
      · rw [if_pos cy] at TL
        by_cases cz : 1000000000 ≤ z
        · rw [if_pos cz] at TH
          go_wp2_with (first | (go_at_call 91; refine K.call (by with_reducible rfl) (by with_reducible rfl) (D1.out _) ?_; rintro e w' ⟨rfl, rfl⟩) | (go_at_call 91; refine K.call (by with_reducible rfl) (by with_reducible rfl) (D2.out _) ?_; rintro e w' ⟨rfl, rfl⟩) | (go_at_call 77; refine K.call (by with_reducible rfl) (by with_reducible rfl) (U1.out _) ?_; rintro e w' ⟨rfl, rfl⟩) | (go_at_call 77; refine K.call (by with_reducible rfl) (by with_reducible rfl) (U2.out _) ?_; rintro e w' ⟨rfl, rfl⟩))
          go_roundw
          case rel =>
            refine ⟨k + 1, by omega, by go_num, by rw [SL.out, TL.out], by rw [SH.out, TH.out], Z.hide ?_, Z.hide ?_, Z.hide ?_⟩
            · iterate 4 with_reducible refine Eq.trans (K.set_block (by dsimp only; omega)) ?_
              exact B0.out
            · rw [SL.out, TL.out, SH.out, TH.out]
              exact Joins.block_setCell (Joins.block_setCell (Joins.block_setCell (Joins.block_setCell B1.out _) _) _) _
            · iterate 4 with_reducible refine K.Ext.setCell ?_ (by dsimp only; omega) _
              exact HX.out
          case measure => simp [intOf]; omega
        · rw [if_neg cz] at TH
          go_wp2_with (first | (go_at_call 91; refine K.call (by with_reducible rfl) (by with_reducible rfl) (D1.out _) ?_; rintro e w' ⟨rfl, rfl⟩) | (go_at_call 91; refine K.call (by with_reducible rfl) (by with_reducible rfl) (D2.out _) ?_; rintro e w' ⟨rfl, rfl⟩) | (go_at_call 77; refine K.call (by with_reducible rfl) (by with_reducible rfl) (U1.out _) ?_; rintro e w' ⟨rfl, rfl⟩) | (go_at_call 77; refine K.call (by with_reducible rfl) (by with_reducible rfl) (U2.out _) ?_; rintro e w' ⟨rfl, rfl⟩))
          go_roundw
          case rel =>
            refine ⟨k + 1, by omega, by go_num, by rw [SL.out, TL.out], by rw [SH.out, TH.out], Z.hide ?_, Z.hide ?_, Z.hide ?_⟩
            · iterate 3 with_reducible refine Eq.trans (K.set_block (by dsimp only; omega)) ?_
              exact B0.out
            · rw [SL.out, TL.out, SH.out, TH.out]
              exact Joins.block_setCell (Joins.block_setCell (Joins.block_setCell B1.out _) _) _
            · iterate 3 with_reducible refine K.Ext.setCell ?_ (by dsimp only; omega) _
              exact HX.out
          case measure => simp [intOf]; omega
      · rw [if_neg cy] at TL
        by_cases cz : 1000000000 ≤ z
        · rw [if_pos cz] at TH
          go_wp2_with (first | (go_at_call 91; refine K.call (by with_reducible rfl) (by with_reducible rfl) (D1.out _) ?_; rintro e w' ⟨rfl, rfl⟩) | (go_at_call 91; refine K.call (by with_reducible rfl) (by with_reducible rfl) (D2.out _) ?_; rintro e w' ⟨rfl, rfl⟩) | (go_at_call 77; refine K.call (by with_reducible rfl) (by with_reducible rfl) (U1.out _) ?_; rintro e w' ⟨rfl, rfl⟩) | (go_at_call 77; refine K.call (by with_reducible rfl) (by with_reducible rfl) (U2.out _) ?_; rintro e w' ⟨rfl, rfl⟩))
          go_roundw
          case rel =>
            refine ⟨k + 1, by omega, by go_num, by rw [SL.out, TL.out], by rw [SH.out, TH.out], Z.hide ?_, Z.hide ?_, Z.hide ?_⟩
            · iterate 3 with_reducible refine Eq.trans (K.set_block (by dsimp only; omega)) ?_
              exact B0.out
            · rw [SL.out, TL.out, SH.out, TH.out]
              exact Joins.block_setCell (Joins.block_setCell (Joins.block_setCell B1.out _) _) _
            · iterate 3 with_reducible refine K.Ext.setCell ?_ (by dsimp only; omega) _
              exact HX.out
          case measure => simp [intOf]; omega
        · rw [if_neg cz] at TH
          go_wp2_with (first | (go_at_call 91; refine K.call (by with_reducible rfl) (by with_reducible rfl) (D1.out _) ?_; rintro e w' ⟨rfl, rfl⟩) | (go_at_call 91; refine K.call (by with_reducible rfl) (by with_reducible rfl) (D2.out _) ?_; rintro e w' ⟨rfl, rfl⟩) | (go_at_call 77; refine K.call (by with_reducible rfl) (by with_reducible rfl) (U1.out _) ?_; rintro e w' ⟨rfl, rfl⟩) | (go_at_call 77; refine K.call (by with_reducible rfl) (by with_reducible rfl) (U2.out _) ?_; rintro e w' ⟨rfl, rfl⟩))
          go_roundw
          case rel =>
            refine ⟨k + 1, by omega, by go_num, by rw [SL.out, TL.out], by rw [SH.out, TH.out], Z.hide ?_, Z.hide ?_, Z.hide ?_⟩
            · iterate 2 with_reducible refine Eq.trans (K.set_block (by dsimp only; omega)) ?_
              exact B0.out
            · rw [SL.out, TL.out, SH.out, TH.out]
              exact Joins.block_setCell (Joins.block_setCell B1.out _) _
            · iterate 2 with_reducible refine K.Ext.setCell ?_ (by dsimp only; omega) _
              exact HX.out
          case measure => simp [intOf]; omega
    · obtain rfl : k = 20 := by omega
      have l3 := (Z.itL_bd x1 x2 20).2
      have h3 := (Z.itH_bd x1 x2 20).2
      rw [Z.b2_20] at l3 h3
      generalize Z.itL x 20 = p at *
      generalize Z.itH x 20 = q at *
      have c0 : wr.cell? ⟨w.heap.size + 1, 0, none⟩ = some (.int .i64 p.2) := K.cell_at B1.out rfl
      have c1 : wr.cell? ⟨w.heap.size + 1, 1, none⟩ = some (.int .i64 q.2) := K.cell_at B1.out rfl
      have f1 : wr.frozen? ⟨w.heap.size + 1, 1, none⟩ = false := K.thaw_at B1.out
      have d0 : wr.cell? ⟨w.heap.size, 0, none⟩ = some (.int .i64 0) := K.cell_at B0.out rfl
      have d1 : wr.cell? ⟨w.heap.size, 1, none⟩ = some (.int .i64 0) := K.cell_at B0.out rfl
      have g0 : wr.frozen? ⟨w.heap.size, 0, none⟩ = false := K.thaw_at B0.out
      have g1 : wr.frozen? ⟨w.heap.size, 1, none⟩ = false := K.thaw_at B0.out
      obtain ⟨h3a, h3b⟩ := h3
      go_wp2
      rw [HE.out]
      refine bodyPost_ret (v := .agg #[.int .i64 p.2, .int .i64 (q.2 + 1)]) (by unfold results; rw [Tryz.results93]; go_simp) rfl ⟨rfl, ?_⟩
      repeat with_reducible refine K.Ext.setCell ?_ (by dsimp only; omega) _
      exact HX.out
set_option maxHeartbeats 3200000 in
theorem l03Bits_low (x : Int) (w : World) (x1 : 100000000 ≤ x) (x2 : x < 1000000000) :
    Calls Tryz.prog 95 #[.int .i64 x, .bool false] w fun e w' => e = .returned (.int .i64 (Z.itL x 20).2) ∧ w = w' := by
  go_enter Tryz.func95, Tryz.ntmps95
  go_wp2
  go_loop [0, 5, 6] (fun l n i => ∃ k : Nat, k ≤ 20 ∧ i = .int .i64 k ∧ l = .int .i64 (Z.itL x k).1 ∧ n = .int .i64 (Z.itL x k).2) (fun _ _ i => 20 - (intOf i).toNat)
  case atStart => exact ⟨0, Nat.zero_le _, rfl, rfl, rfl⟩
  case round =>
    obtain ⟨k, hk, rfl, rfl, rfl⟩ := hrel
    have k0 : (0 : Int) ≤ (k : Int) := Int.natCast_nonneg k
    by_cases hlt : k < 20
    · have k1 : (k : Int) < 20 := by omega
      obtain ⟨⟨l1, l2⟩, l3, l4⟩ := Z.itL_bd x1 x2 k
      have hb := Z.b2_mono (show k ≤ 20 by omega)
      rw [Z.b2_20] at hb
      obtain ⟨p, hp⟩ : ∃ p, p = Z.itL x k := ⟨_, rfl⟩
      have SL : Hid (Z.itL x (k + 1) = Z.stepL p) := Z.hide (by rw [hp]; rfl)
      rw [← hp] at l1 l2 l3 l4 ⊢
      clear hp
      obtain ⟨a1, a2⟩ := Z.sq_bd l1 (by omega)
      have q1 : IntKind.i64.wrap (p.1 * p.1) = p.1 * p.1 := IntWalk.i64_in _ (by omega)
      have TL : Hid (Z.stepL p = if 1000000000 ≤ (p.1 * p.1) / 100000000 then ((p.1 * p.1) / 100000000 / 10, p.2 * 2 + 1) else ((p.1 * p.1) / 100000000, p.2 * 2)) := Z.hide (by unfold Z.stepL; rw [Z.fl_eq_ediv _ _ (by decide), Z.fl_eq_ediv _ _ (by decide)])
      have p2b : p.2 ≤ 1048576 := by omega
      obtain ⟨s, hs⟩ : ∃ s, s = p.1 * p.1 := ⟨_, rfl⟩
      rw [← hs] at q1 TL a1 a2
      have y0 : 0 ≤ s / 100000000 := by omega
      have y1 : s / 100000000 ≤ 10000000000 := by omega
      have s0 : 0 ≤ s := by omega
      clear hb l4 l1 l2
      have HSs := Z.hide hs
      by_cases cy : 1000000000 ≤ s / 100000000
      all_goals
        first | rw [if_pos cy] at TL | rw [if_neg cy] at TL
        rw [HSs.out] at q1
        go_wp2
        go_round
        case rel => exact ⟨k + 1, by omega, by go_num, by rw [SL.out, TL.out, HSs.out], by rw [SL.out, TL.out]; exact K.vint (by omega)⟩
        case measure => simp [intOf]; omega
    · obtain rfl : k = 20 := by omega
      obtain ⟨p, hp⟩ : ∃ p, p = Z.itL x 20 := ⟨_, rfl⟩
      rw [← hp]
      have HPp := Z.hide hp
      clear hp
      go_wp2
      go_ret
      exact ⟨K.ri (by rw [HPp.out]), rfl⟩
set_option maxHeartbeats 3200000 in
theorem l03Bits_high (x : Int) (w : World) (x1 : 100000000 ≤ x) (x2 : x < 1000000000) :
    Calls Tryz.prog 95 #[.int .i64 x, .bool true] w fun e w' => e = .returned (.int .i64 (Z.itH x 20).2) ∧ w = w' := by
  go_enter Tryz.func95, Tryz.ntmps95
  go_wp2
  go_loop [0, 5, 6] (fun l n i => ∃ k : Nat, k ≤ 20 ∧ i = .int .i64 k ∧ l = .int .i64 (Z.itH x k).1 ∧ n = .int .i64 (Z.itH x k).2) (fun _ _ i => 20 - (intOf i).toNat)
  case atStart => exact ⟨0, Nat.zero_le _, rfl, rfl, rfl⟩
  case round =>
    obtain ⟨k, hk, rfl, rfl, rfl⟩ := hrel
    have k0 : (0 : Int) ≤ (k : Int) := Int.natCast_nonneg k
    by_cases hlt : k < 20
    · have k1 : (k : Int) < 20 := by omega
      obtain ⟨⟨h1, h2⟩, h3, h4⟩ := Z.itH_bd x1 x2 k
      have hb := Z.b2_mono (show k ≤ 20 by omega)
      rw [Z.b2_20] at hb
      obtain ⟨q, hq⟩ : ∃ q, q = Z.itH x k := ⟨_, rfl⟩
      have SH : Hid (Z.itH x (k + 1) = Z.stepH q) := Z.hide (by rw [hq]; rfl)
      rw [← hq] at h1 h2 h3 h4 ⊢
      clear hq
      obtain ⟨b1, b2⟩ := Z.sq_bd h1 h2
      have q2 : IntKind.i64.wrap (q.1 * q.1) = q.1 * q.1 := IntWalk.i64_in _ (by omega)
      obtain ⟨z, hz⟩ : ∃ z, z = Z.cl (q.1 * q.1) 100000000 := ⟨_, rfl⟩
      have U1 : Hid (∀ w : World, Calls Tryz.prog 94 #[.int .i64 (q.1 * q.1), .int .i64 100000000] w fun e w' => e = .returned (.int .i64 z) ∧ w = w') := Z.hide (fun w => by rw [hz]; exact l01Ceil_any _ _ w (by decide) (by omega) (by omega) (by decide) (by decide))
      have z1 : 0 ≤ z ∧ z ≤ 100000000000000000 := by rw [hz]; have := Z.fl_spec (-(q.1 * q.1)) 100000000 (by decide); unfold Z.cl; omega
      have U2 : Hid (∀ w : World, Calls Tryz.prog 94 #[.int .i64 z, .int .i64 10] w fun e w' => e = .returned (.int .i64 (Z.cl z 10)) ∧ w = w') := Z.hide (fun w => l01Ceil_any _ _ w (by decide) (by omega) (by omega) (by decide) (by decide))
      obtain ⟨z2, hz2⟩ : ∃ u, u = Z.cl z 10 := ⟨_, rfl⟩
      rw [← hz2] at U2
      have TH : Hid (Z.stepH q = if 1000000000 ≤ z then (z2, q.2 * 2 + 1) else (z, q.2 * 2)) := Z.hide (by unfold Z.stepH; rw [← hz, ← hz2])
      obtain ⟨z1a, z1b⟩ := z1
      have q2b : q.2 ≤ 1048576 := by omega
      clear hz hz2 hb h4 b1 b2 h1 h2
      by_cases cz : 1000000000 ≤ z
      all_goals
        first | rw [if_pos cz] at TH | rw [if_neg cz] at TH
        go_wp2_with (first | (go_at_call 94; refine K.call (by with_reducible rfl) (by with_reducible rfl) (U1.out _) ?_; rintro e w' ⟨rfl, rfl⟩) | (go_at_call 94; refine K.call (by with_reducible rfl) (by with_reducible rfl) (U2.out _) ?_; rintro e w' ⟨rfl, rfl⟩))
        go_round
        case rel => exact ⟨k + 1, by omega, by go_num, by rw [SH.out, TH.out], by rw [SH.out, TH.out]; exact K.vint (by omega)⟩
        case measure => simp [intOf]; omega
    · obtain rfl : k = 20 := by omega
      obtain ⟨p, hp⟩ : ∃ p, p = Z.itH x 20 := ⟨_, rfl⟩
      rw [← hp]
      have HPp := Z.hide hp
      clear hp
      go_wp2
      go_ret
      exact ⟨K.ri (by rw [HPp.out]), rfl⟩
end Go.Proofs.YtimpcelbekhipaaGreat
end
section
namespace Go.Z
def sumF (F G : Fm) (i : Nat) : Int := expo (bs F.nm) F.pw (97 + (i : Int)) + expo (bs G.nm) G.pw (97 + (i : Int))
def multiplied (F G : Fm) : Fm × Int := if (MultiplyFigures (F.dg, F.tn) (G.dg, G.tn)).2 = 0 then madeOr (MultiplyFigures (F.dg, F.tn) (G.dg, G.tn)).1.1 (MultiplyFigures (F.dg, F.tn) (G.dg, G.tn)).1.2 (sumF F G) else (zeroFm, (MultiplyFigures (F.dg, F.tn) (G.dg, G.tn)).2)
end Go.Z
namespace Go.Proofs.YtimpcelbekhipaaGreat
open Go.RowKit
end Go.Proofs.YtimpcelbekhipaaGreat
end
section
namespace Go.Z
/-- the factor, k times (or divided by), and the code -/
def pw1 (g : Bool) (x a : Int × Int) : (Int × Int) × Int := if g then MultiplyFigures x a else DivideFigures x a
def powK (g : Bool) (a : Int × Int) : Nat → (Int × Int) × Int
  | 0 => ((1000, 0), 0)
  | k + 1 => if (powK g a k).2 = 0 then pw1 g (powK g a k).1 a else powK g a k
def powF (F : Fm) (n : Int) (i : Nat) : Int := n * expo (bs F.nm) F.pw (97 + (i : Int))
def raised (F : Fm) (n : Int) : Fm × Int :=
  if (powK (decide (0 < n)) (F.dg, F.tn) n.natAbs).2 = 0 then madeOr (powK (decide (0 < n)) (F.dg, F.tn) n.natAbs).1.1 (powK (decide (0 < n)) (F.dg, F.tn) n.natAbs).1.2 (powF F n)
  else (zeroFm, (powK (decide (0 < n)) (F.dg, F.tn) n.natAbs).2)
def quotient (E : Eqn) : Fm × Int := if (raised E.R (-1)).2 = 0 then multiplied E.L (raised E.R (-1)).1 else (zeroFm, (raised E.R (-1)).2)
end Go.Z
end
section
namespace Go.Proofs.YtimpcelbekhipaaGreat
open Go.RowKit
set_option maxHeartbeats 3200000 in
theorem figureLog_any (f : Int × Int)  (w : World) (hf : Z.isFig f.1 f.2 = true)  :
    Calls Tryz.prog 63 #[.agg #[.int .i64 f.1, .int .i64 f.2]] w fun e w' => e = .returned (.agg #[.int .i64 (Z.figLog f).1, .int .i64 (Z.figLog f).2]) ∧ K.Ext w w' := by
  obtain ⟨⟨f1, f2⟩, f3, f4⟩ : (1000 ≤ f.1 ∧ f.1 ≤ 9999) ∧ -30 ≤ f.2 ∧ f.2 ≤ 30 := by
    simp only [Z.isFig, Bool.and_eq_true, decide_eq_true_eq] at hf
    omega
  obtain ⟨⟨r1, r2⟩, r3, r4⟩ := Z.logOf_bd (x := f.1 * 100000) (by omega) (by omega)
  obtain ⟨r, hr⟩ : ∃ r, r = Z.logOf (f.1 * 100000) := ⟨_, rfl⟩
  rw [← hr] at r1 r2 r3 r4
  have HR : ∀ w : World, Calls Tryz.prog 93 #[.int .i64 (f.1 * 100000)] w fun e w' => e = .returned (.agg #[.int .i64 r.1, .int .i64 r.2]) ∧ K.Ext w w' := fun w => by rw [hr]; exact logarithm_any _ w (by omega) (by omega)
  have HE : Hid (Z.figLog f = (r.1 + f.2 * 1048576, r.2 + f.2 * 1048576)) := Z.hide (by unfold Z.figLog; rw [← hr])
  clear hr hf
  have X0 : K.Ext w w := K.Ext.refl w
  go_enter Tryz.func63, Tryz.ntmps63
  go_wp2_with (go_at_call 93; refine K.call (by with_reducible rfl) (by with_reducible rfl) (HR _) ?_; rintro e w1 ⟨rfl, x1⟩; have s1 : w.heap.size + 2 ≤ w1.heap.size := (by have h_ := x1.size; (try simp at h_); omega); have X1 := K.Ext.trans (K.Ext.alloc (K.Ext.alloc X0 _) _) x1; obtain ⟨c1_0_0, c1_0_1⟩ := K.c2 x1 (w.heap.size) (.int .i64 f.1) (.int .i64 f.2) (by go_simp); have z1_0 : w.heap.size < w1.heap.size := World.block_lt_of_cell? w1 _ c1_0_0; have d1_0 : ¬ (w.heap.size = w1.heap.size) := (by omega); have e1_0 : ¬ (w1.heap.size = w.heap.size) := (by omega); obtain ⟨c1_1_0, c1_1_1⟩ := K.c2 x1 (w.heap.size + 1) (.int .i64 0) (.int .i64 0) (by go_simp); obtain ⟨f1_1_0, f1_1_1⟩ := K.f2 x1 (w.heap.size + 1) (by go_simp); have z1_1 : w.heap.size + 1 < w1.heap.size := World.block_lt_of_cell? w1 _ c1_1_0; have d1_1 : ¬ (w.heap.size + 1 = w1.heap.size) := (by omega); have e1_1 : ¬ (w1.heap.size = w.heap.size + 1) := (by omega); have n1_0 : ¬ (w.heap.size + 1 = w.heap.size) := (by omega); have n0_1 : ¬ (w.heap.size = w.heap.size + 1) := (by omega))
  rw [HE.out]
  refine bodyPost_ret (v := .agg #[.int .i64 (r.1 + (f.2 * 1048576)), .int .i64 (r.2 + (f.2 * 1048576))]) (by unfold results; rw [Tryz.results63]; go_simp) rfl ⟨rfl, ?_⟩
  repeat with_reducible refine K.Ext.setCell ?_ (by dsimp only; omega) _
  exact (by repeat' (first | with_reducible exact X1 | with_reducible refine K.Ext.setCell ?_ ?_ _ | with_reducible refine K.Ext.alloc ?_ _ | with_reducible refine K.Ext.drew ?_ | (dsimp only; omega) | omega | (simp; omega)))
set_option maxHeartbeats 3200000 in
theorem l03Log_any (x : Int)  (w : World) (x1 : 100000000 ≤ x) (x2 : x < 1000000000)  :
    Calls Tryz.prog 68 #[.int .i64 x] w fun e w' => e = .returned (.agg #[.int .i64 (Z.logOf x).1, .int .i64 (Z.logOf x).2]) ∧ K.Ext w w' := by
  obtain ⟨⟨r1, r2⟩, r3, r4⟩ := Z.logOf_bd x1 x2
  obtain ⟨r, hr⟩ : ∃ r, r = Z.logOf x := ⟨_, rfl⟩
  obtain ⟨a, ha⟩ : ∃ a, a = (Z.itL x 20).2 := ⟨_, rfl⟩
  obtain ⟨b, hb⟩ : ∃ b, b = (Z.itH x 20).2 := ⟨_, rfl⟩
  have HL : ∀ w : World, Calls Tryz.prog 95 #[.int .i64 x, .bool false] w fun e w' => e = .returned (.int .i64 a) ∧ w = w' := fun w => by rw [ha]; exact l03Bits_low x w x1 x2
  have HH : ∀ w : World, Calls Tryz.prog 95 #[.int .i64 x, .bool true] w fun e w' => e = .returned (.int .i64 b) ∧ w = w' := fun w => by rw [hb]; exact l03Bits_high x w x1 x2
  have HE : Hid (Z.logOf x = (a, b + 1)) := Z.hide (by rw [ha, hb]; rfl)
  have b0 : 0 ≤ b := by rw [hb]; exact (Z.itH_bd x1 x2 20).2.1
  have b1 : b ≤ 1048577 := by rw [HE.out] at r4; dsimp only at r4; omega
  clear ha hb hr r1 r2 r3 r4
  have X0 : K.Ext w w := K.Ext.refl w
  go_enter Tryz.func68, Tryz.ntmps68
  go_wp2_with (go_at_call 95; refine K.call (by with_reducible rfl) (by with_reducible rfl) (HL _) ?_; rintro e w_ ⟨rfl, rfl⟩)
  go_wp2_with (go_at_call 95; refine K.call (by with_reducible rfl) (by with_reducible rfl) (HH _) ?_; rintro e w_ ⟨rfl, rfl⟩)
  rw [HE.out]
  refine bodyPost_ret (v := .agg #[.int .i64 a, .int .i64 (b + 1)]) (by unfold results; rw [Tryz.results68]; go_simp) rfl ⟨rfl, ?_⟩
  repeat with_reducible refine K.Ext.setCell ?_ (by dsimp only; omega) _
  exact (by repeat' (first | with_reducible exact X0 | with_reducible refine K.Ext.setCell ?_ ?_ _ | with_reducible refine K.Ext.alloc ?_ _ | with_reducible refine K.Ext.drew ?_ | (dsimp only; omega) | omega | (simp; omega)))
set_option maxHeartbeats 3200000 in
theorem l03Figure_any (f : Int × Int)  (w : World) (hf : Z.isFig f.1 f.2 = true)  :
    Calls Tryz.prog 67 #[.agg #[.int .i64 f.1, .int .i64 f.2]] w fun e w' => e = .returned (.agg #[.int .i64 (Z.figLog f).1, .int .i64 (Z.figLog f).2]) ∧ K.Ext w w' := by
  obtain ⟨⟨f1, f2⟩, f3, f4⟩ : (1000 ≤ f.1 ∧ f.1 ≤ 9999) ∧ -30 ≤ f.2 ∧ f.2 ≤ 30 := by
    simp only [Z.isFig, Bool.and_eq_true, decide_eq_true_eq] at hf
    omega
  obtain ⟨⟨r1, r2⟩, r3, r4⟩ := Z.logOf_bd (x := f.1 * 100000) (by omega) (by omega)
  obtain ⟨r, hr⟩ : ∃ r, r = Z.logOf (f.1 * 100000) := ⟨_, rfl⟩
  rw [← hr] at r1 r2 r3 r4
  have HR : ∀ w : World, Calls Tryz.prog 68 #[.int .i64 (f.1 * 100000)] w fun e w' => e = .returned (.agg #[.int .i64 r.1, .int .i64 r.2]) ∧ K.Ext w w' := fun w => by rw [hr]; exact l03Log_any _ w (by omega) (by omega)
  have HE : Hid (Z.figLog f = (r.1 + f.2 * 1048576, r.2 + f.2 * 1048576)) := Z.hide (by unfold Z.figLog; rw [← hr])
  clear hr hf
  have X0 : K.Ext w w := K.Ext.refl w
  go_enter Tryz.func67, Tryz.ntmps67
  go_wp2_with (go_at_call 68; refine K.call (by with_reducible rfl) (by with_reducible rfl) (HR _) ?_; rintro e w1 ⟨rfl, x1⟩; have s1 : w.heap.size + 2 ≤ w1.heap.size := (by have h_ := x1.size; (try simp at h_); omega); have X1 := K.Ext.trans (K.Ext.alloc (K.Ext.alloc X0 _) _) x1; obtain ⟨c1_0_0, c1_0_1⟩ := K.c2 x1 (w.heap.size) (.int .i64 f.1) (.int .i64 f.2) (by go_simp); have z1_0 : w.heap.size < w1.heap.size := World.block_lt_of_cell? w1 _ c1_0_0; have d1_0 : ¬ (w.heap.size = w1.heap.size) := (by omega); have e1_0 : ¬ (w1.heap.size = w.heap.size) := (by omega); obtain ⟨c1_1_0, c1_1_1⟩ := K.c2 x1 (w.heap.size + 1) (.int .i64 0) (.int .i64 0) (by go_simp); obtain ⟨f1_1_0, f1_1_1⟩ := K.f2 x1 (w.heap.size + 1) (by go_simp); have z1_1 : w.heap.size + 1 < w1.heap.size := World.block_lt_of_cell? w1 _ c1_1_0; have d1_1 : ¬ (w.heap.size + 1 = w1.heap.size) := (by omega); have e1_1 : ¬ (w1.heap.size = w.heap.size + 1) := (by omega); have n1_0 : ¬ (w.heap.size + 1 = w.heap.size) := (by omega); have n0_1 : ¬ (w.heap.size = w.heap.size + 1) := (by omega))
  rw [HE.out]
  refine bodyPost_ret (v := .agg #[.int .i64 (r.1 + (f.2 * 1048576)), .int .i64 (r.2 + (f.2 * 1048576))]) (by unfold results; rw [Tryz.results67]; go_simp) rfl ⟨rfl, ?_⟩
  repeat with_reducible refine K.Ext.setCell ?_ (by dsimp only; omega) _
  exact (by repeat' (first | with_reducible exact X1 | with_reducible refine K.Ext.setCell ?_ ?_ _ | with_reducible refine K.Ext.alloc ?_ _ | with_reducible refine K.Ext.drew ?_ | (dsimp only; omega) | omega | (simp; omega)))
end Go.Proofs.YtimpcelbekhipaaGreat
end
section
namespace Go.Z
end Go.Z
namespace Go.K
open Go.RowKit
theorem figs.at_ {w : World} {lo hi n c : Nat} {o : Option Addr} {fs : List (Int × Int)} (h : figs w lo hi (.slice o n c) fs) (h0 : 0 < fs.length) : ∃ b off, o = some ⟨b, off, none⟩ ∧ lo ≤ b ∧ b < hi ∧ ∀ i, i < fs.length → w.cell? ⟨b, off + i * 2, none⟩ = some (.int .i64 (fs.getD i (0, 0)).1) ∧ w.cell? ⟨b, off + i * 2 + 1, none⟩ = some (.int .i64 (fs.getD i (0, 0)).2) := by
  obtain ⟨o', c', hv, hh⟩ := h
  simp only [Value.slice.injEq] at hv
  obtain ⟨rfl, _, _⟩ := hv
  exact hh (by intro h; rw [h] at h0; simp at h0)
end Go.K
namespace Go.Proofs.YtimpcelbekhipaaGreat
open Go.RowKit
end Go.Proofs.YtimpcelbekhipaaGreat
end
section
namespace Go.Z
def scaleD (a : Int × Int) (n d : Int) : Int × Int := (fl (min (a.1 * n) (a.2 * n)) d, cl (max (a.1 * n) (a.2 * n)) d)
theorem scaleD_one {a : Int × Int} {d : Int} (h : a.1 ≤ a.2) : scaleD a 1 d = (fl a.1 d, cl a.2 d) := by
  unfold scaleD
  rw [Int.mul_one, Int.mul_one, Int.min_def, if_pos h, Int.max_def, if_pos h]
theorem figLog_lq {f : Int × Int} (h1 : 1000 ≤ f.1) (h2 : f.1 ≤ 9999) : (figLog f).1 ≤ (figLog f).2 ∧ (f.2 * 1048576 ≤ (figLog f).1 ∧ (figLog f).2 ≤ f.2 * 1048576 + 1048576) := by
  obtain ⟨k, hk, k1, k2, hl⟩ := logOf_at h1 h2
  have a := logOf_in (x := f.1 * 100000) (by omega) (by omega)
  have c := width k k1 k2
  unfold figLog
  rw [hl] at a ⊢
  dsimp only at a ⊢
  omega
theorem pos_bd {s : Int} {f : Int × Int} (hs : s = 0 ∨ s = 1 ∨ s = 2 ∨ s = 3) (h1 : 1000 ≤ f.1) (h2 : f.1 ≤ 9999) : (-10 ≤ (posS s f).1 ∧ (posS s f).1 ≤ 1048590) ∧ (-10 ≤ (posS s f).2 ∧ (posS s f).2 ≤ 1048590) := by
  have m0 := Int.emod_nonneg f.2 (show (2 : Int) ≠ 0 by decide)
  have m1 := Int.emod_lt_of_pos f.2 (show (0 : Int) < 2 by decide)
  have n0 := Int.emod_nonneg f.2 (show (3 : Int) ≠ 0 by decide)
  have n1 := Int.emod_lt_of_pos f.2 (show (0 : Int) < 3 by decide)
  have a := figLog_lq (f := (f.1, 0)) h1 h2
  have b := figLog_lq (f := (f.1, f.2 % 2)) h1 h2
  have c := figLog_lq (f := (f.1, f.2 % 3)) h1 h2
  dsimp only at a b c
  unfold posS
  rcases hs with rfl | rfl | rfl | rfl
  · rw [if_neg (by decide), if_neg (by decide), if_neg (by decide)]; omega
  · rw [if_pos rfl]
    have := fl2 (figLog (f.1, f.2 % 2)).1
    have := cl2 (figLog (f.1, f.2 % 2)).2
    dsimp only; omega
  · rw [if_neg (by decide), if_pos rfl]
    have := fl3 (figLog (f.1, f.2 % 3)).1
    have := cl3 (figLog (f.1, f.2 % 3)).2
    dsimp only; omega
  · rw [if_neg (by decide), if_neg (by decide), if_pos rfl]; dsimp only; omega
theorem fl_mod (a b : Int) (hb : 0 < b) : a - b * fl a b = a % b := by
  obtain ⟨h1, h2⟩ := fl_spec a b hb
  have h3 := Int.mul_ediv_add_emod a b
  have h4 := Int.emod_nonneg a (show b ≠ 0 by omega)
  have h5 := Int.emod_lt_of_pos a hb
  have e : fl a b = a / b := by
    rcases Int.lt_trichotomy (fl a b) (a / b) with h | h | h
    · have := Int.mul_le_mul_of_nonneg_left (show fl a b + 1 ≤ a / b by omega) (show (0 : Int) ≤ b by omega)
      rw [Int.mul_add, Int.mul_one] at this
      omega
    · exact h
    · have := Int.mul_le_mul_of_nonneg_left (show a / b + 1 ≤ fl a b by omega) (show (0 : Int) ≤ b by omega)
      rw [Int.mul_add, Int.mul_one] at this
      omega
  rw [e]; omega
end Go.Z
namespace Go.Proofs.YtimpcelbekhipaaGreat
open Go.RowKit
set_option maxHeartbeats 1600000 in
theorem scaledD_any (a : Int × Int) (n : Int) (d : Int)  (w : World) (h1 : -70000000 ≤ a.1 ∧ a.1 ≤ 70000000) (h2 : -70000000 ≤ a.2 ∧ a.2 ≤ 70000000) (hn : -6 ≤ n ∧ n ≤ 6) (hd : d ≠ 0)  :
    Calls Tryz.prog 62 #[.agg #[.int .i64 a.1, .int .i64 a.2], .int .i64 n, .int .i64 d] w fun e w' => e = .returned (.agg #[.int .i64 (Z.scaleD a n d).1, .int .i64 (Z.scaleD a n d).2]) ∧ K.Ext w w' := by
  obtain ⟨x1, x2⟩ := Z.mul_bd a.1 n 70000000 6 h1.1 h1.2 hn.1 hn.2
  obtain ⟨y1, y2⟩ := Z.mul_bd a.2 n 70000000 6 h2.1 h2.2 hn.1 hn.2
  have q1 : IntKind.i64.wrap (a.1 * n) = a.1 * n := IntWalk.i64_in _ (by omega)
  have q2 : IntKind.i64.wrap (a.2 * n) = a.2 * n := IntWalk.i64_in _ (by omega)
  obtain ⟨u, hu⟩ : ∃ u, u = Z.fl (min (a.1 * n) (a.2 * n)) d := ⟨_, rfl⟩
  obtain ⟨t, ht⟩ : ∃ t, t = Z.cl (max (a.1 * n) (a.2 * n)) d := ⟨_, rfl⟩
  have HE : Hid (Z.scaleD a n d = (u, t)) := Z.hide (by unfold Z.scaleD; rw [hu, ht])
  have HD : ∀ w : World, Calls Tryz.prog 91 #[.int .i64 (min (a.1 * n) (a.2 * n)), .int .i64 d] w fun e w' => e = .returned (.int .i64 u) ∧ w = w' := fun w => by
    rw [hu]; exact down_any (min (a.1 * n) (a.2 * n)) d w hd (by omega) (by omega)
  have HU : ∀ w : World, Calls Tryz.prog 77 #[.int .i64 (max (a.1 * n) (a.2 * n)), .int .i64 d] w fun e w' => e = .returned (.int .i64 t) ∧ w = w' := fun w => by
    rw [ht]; exact up_any (max (a.1 * n) (a.2 * n)) d w hd (by omega) (by omega)
  clear hu ht
  have X0 : K.Ext w w := K.Ext.refl w
  go_enter Tryz.func62, Tryz.ntmps62
  go_wp2_with fail
  refine K.wp_region_x 9 [0, 1, 0, 0, 0, 1, 0, 0, 0] [] (by kernel_rfl) (by kernel_rfl) ?_
  simp only [List.take_succ_cons, List.take_zero, List.drop_succ_cons, List.drop_zero]
  refine K.xp ?_
  simp only [Act.put, List.setIfInBounds_toArray, List.set]
  refine K.xh ?_
  simp only [Act.put, List.setIfInBounds_toArray, List.set]
  iterate 3
    refine K.xp ?_
    simp only [Act.put, List.setIfInBounds_toArray, List.set]
  refine K.xh ?_
  simp only [Act.put, List.setIfInBounds_toArray, List.set]
  iterate 3
    refine K.xp ?_
    simp only [Act.put, List.setIfInBounds_toArray, List.set]
  apply K.x_done
  intro w1 h_x
  have x1 := K.Ext.id h_x
  clear h_x
  obtain ⟨⟨hcw1, hfw1⟩, hc'w1, hf'w1⟩ := x1.all
  have s1 : w.heap.size + 2 ≤ w1.heap.size := (by have h_ := x1.size; (try simp at h_); omega)
  have X1 := K.Ext.trans (K.Ext.drew (K.Ext.alloc (K.Ext.alloc X0 _) _)) x1
  obtain ⟨c1_0_0, c1_0_1⟩ := K.c2 x1 (w.heap.size) (.int .i64 a.1) (.int .i64 a.2) (by go_simp)
  have z1_0 : w.heap.size < w1.heap.size := World.block_lt_of_cell? w1 _ c1_0_0
  have d1_0 : ¬ (w.heap.size = w1.heap.size) := (by omega)
  have e1_0 : ¬ (w1.heap.size = w.heap.size) := (by omega)
  obtain ⟨c1_1_0, c1_1_1⟩ := K.c2 x1 (w.heap.size + 1) (.int .i64 0) (.int .i64 0) (by go_simp)
  obtain ⟨f1_1_0, f1_1_1⟩ := K.f2 x1 (w.heap.size + 1) (by go_simp)
  have z1_1 : w.heap.size + 1 < w1.heap.size := World.block_lt_of_cell? w1 _ c1_1_0
  have d1_1 : ¬ (w.heap.size + 1 = w1.heap.size) := (by omega)
  have e1_1 : ¬ (w1.heap.size = w.heap.size + 1) := (by omega)
  have n1_0 : ¬ (w.heap.size + 1 = w.heap.size) := (by omega)
  have n0_1 : ¬ (w.heap.size = w.heap.size + 1) := (by omega)
  go_wp2_with fail
  refine NoPanic.normal ?_
  go_wp2_with (go_at_call 91; refine K.call (by with_reducible rfl) (by with_reducible rfl) (HD _) ?_; rintro e w_ ⟨rfl, rfl⟩)
  go_wp2_with (go_at_call 77; refine K.call (by with_reducible rfl) (by with_reducible rfl) (HU _) ?_; rintro e w_ ⟨rfl, rfl⟩)
  rw [HE.out]
  refine bodyPost_ret (v := .agg #[.int .i64 u, .int .i64 t]) (by unfold results; rw [Tryz.results62]; go_simp) rfl ⟨rfl, ?_⟩
  repeat with_reducible refine K.Ext.setCell ?_ (by dsimp only; omega) _
  exact (by repeat' (first | with_reducible exact X1 | with_reducible refine K.Ext.setCell ?_ ?_ _ | with_reducible refine K.Ext.alloc ?_ _ | with_reducible refine K.Ext.drew ?_ | (dsimp only; omega) | omega | (simp; omega)))
set_option maxHeartbeats 1600000 in
theorem l03ScaleD_any (a : Int × Int) (n : Int) (d : Int)  (w : World) (h1 : -70000000 ≤ a.1 ∧ a.1 ≤ 70000000) (h2 : -70000000 ≤ a.2 ∧ a.2 ≤ 70000000) (hn : -6 ≤ n ∧ n ≤ 6) (hd : d ≠ 0) (hd1 : -12 ≤ d ∧ d ≤ 12)  :
    Calls Tryz.prog 66 #[.agg #[.int .i64 a.1, .int .i64 a.2], .int .i64 n, .int .i64 d] w fun e w' => e = .returned (.agg #[.int .i64 (Z.scaleD a n d).1, .int .i64 (Z.scaleD a n d).2]) ∧ K.Ext w w' := by
  obtain ⟨x1, x2⟩ := Z.mul_bd a.1 n 70000000 6 h1.1 h1.2 hn.1 hn.2
  obtain ⟨y1, y2⟩ := Z.mul_bd a.2 n 70000000 6 h2.1 h2.2 hn.1 hn.2
  have q1 : IntKind.i64.wrap (a.1 * n) = a.1 * n := IntWalk.i64_in _ (by omega)
  have q2 : IntKind.i64.wrap (a.2 * n) = a.2 * n := IntWalk.i64_in _ (by omega)
  obtain ⟨u, hu⟩ : ∃ u, u = Z.fl (min (a.1 * n) (a.2 * n)) d := ⟨_, rfl⟩
  obtain ⟨t, ht⟩ : ∃ t, t = Z.cl (max (a.1 * n) (a.2 * n)) d := ⟨_, rfl⟩
  have HE : Hid (Z.scaleD a n d = (u, t)) := Z.hide (by unfold Z.scaleD; rw [hu, ht])
  have HD : ∀ w : World, Calls Tryz.prog 69 #[.int .i64 (min (a.1 * n) (a.2 * n)), .int .i64 d] w fun e w' => e = .returned (.int .i64 u) ∧ w = w' := fun w => by
    rw [hu]; exact l01Floor_any (min (a.1 * n) (a.2 * n)) d w hd (by omega) (by omega) (by omega) (by omega)
  have HU : ∀ w : World, Calls Tryz.prog 94 #[.int .i64 (max (a.1 * n) (a.2 * n)), .int .i64 d] w fun e w' => e = .returned (.int .i64 t) ∧ w = w' := fun w => by
    rw [ht]; exact l01Ceil_any (max (a.1 * n) (a.2 * n)) d w hd (by omega) (by omega) (by omega) (by omega)
  clear hu ht
  have X0 : K.Ext w w := K.Ext.refl w
  go_enter Tryz.func66, Tryz.ntmps66
  go_wp2_with fail
  refine K.wp_region_x 9 [0, 1, 0, 0, 0, 1, 0, 0, 0] [] (by kernel_rfl) (by kernel_rfl) ?_
  simp only [List.take_succ_cons, List.take_zero, List.drop_succ_cons, List.drop_zero]
  refine K.xp ?_
  simp only [Act.put, List.setIfInBounds_toArray, List.set]
  refine K.xh ?_
  simp only [Act.put, List.setIfInBounds_toArray, List.set]
  iterate 3
    refine K.xp ?_
    simp only [Act.put, List.setIfInBounds_toArray, List.set]
  refine K.xh ?_
  simp only [Act.put, List.setIfInBounds_toArray, List.set]
  iterate 3
    refine K.xp ?_
    simp only [Act.put, List.setIfInBounds_toArray, List.set]
  apply K.x_done
  intro w1 h_x
  have x1 := K.Ext.id h_x
  clear h_x
  obtain ⟨⟨hcw1, hfw1⟩, hc'w1, hf'w1⟩ := x1.all
  have s1 : w.heap.size + 2 ≤ w1.heap.size := (by have h_ := x1.size; (try simp at h_); omega)
  have X1 := K.Ext.trans (K.Ext.drew (K.Ext.alloc (K.Ext.alloc X0 _) _)) x1
  obtain ⟨c1_0_0, c1_0_1⟩ := K.c2 x1 (w.heap.size) (.int .i64 a.1) (.int .i64 a.2) (by go_simp)
  have z1_0 : w.heap.size < w1.heap.size := World.block_lt_of_cell? w1 _ c1_0_0
  have d1_0 : ¬ (w.heap.size = w1.heap.size) := (by omega)
  have e1_0 : ¬ (w1.heap.size = w.heap.size) := (by omega)
  obtain ⟨c1_1_0, c1_1_1⟩ := K.c2 x1 (w.heap.size + 1) (.int .i64 0) (.int .i64 0) (by go_simp)
  obtain ⟨f1_1_0, f1_1_1⟩ := K.f2 x1 (w.heap.size + 1) (by go_simp)
  have z1_1 : w.heap.size + 1 < w1.heap.size := World.block_lt_of_cell? w1 _ c1_1_0
  have d1_1 : ¬ (w.heap.size + 1 = w1.heap.size) := (by omega)
  have e1_1 : ¬ (w1.heap.size = w.heap.size + 1) := (by omega)
  have n1_0 : ¬ (w.heap.size + 1 = w.heap.size) := (by omega)
  have n0_1 : ¬ (w.heap.size = w.heap.size + 1) := (by omega)
  go_wp2_with fail
  refine NoPanic.normal ?_
  go_wp2_with (go_at_call 69; refine K.call (by with_reducible rfl) (by with_reducible rfl) (HD _) ?_; rintro e w_ ⟨rfl, rfl⟩)
  go_wp2_with (go_at_call 94; refine K.call (by with_reducible rfl) (by with_reducible rfl) (HU _) ?_; rintro e w_ ⟨rfl, rfl⟩)
  rw [HE.out]
  refine bodyPost_ret (v := .agg #[.int .i64 u, .int .i64 t]) (by unfold results; rw [Tryz.results66]; go_simp) rfl ⟨rfl, ?_⟩
  repeat with_reducible refine K.Ext.setCell ?_ (by dsimp only; omega) _
  exact (by repeat' (first | with_reducible exact X1 | with_reducible refine K.Ext.setCell ?_ ?_ _ | with_reducible refine K.Ext.alloc ?_ _ | with_reducible refine K.Ext.drew ?_ | (dsimp only; omega) | omega | (simp; omega)))
set_option maxRecDepth 100000 in
set_option maxHeartbeats 6400000 in
theorem l05Position_any (s : Int) (f : Int × Int) (w : World) (hs : s = 0 ∨ s = 1 ∨ s = 2 ∨ s = 3) (h1 : 1000 ≤ f.1) (h2 : f.1 ≤ 9999) (h3 : -100 ≤ f.2) (h4 : f.2 ≤ 100) :
    Calls Tryz.prog 121 #[.int .i64 s, .agg #[.int .i64 f.1, .int .i64 f.2]] w fun e w' => e = .returned (.agg #[.int .i64 (Z.posS s f).1, .int .i64 (Z.posS s f).2]) ∧ K.Ext w w' := by
  obtain ⟨⟨r1, r2⟩, r3, r4⟩ := Z.logOf_bd (x := f.1 * 100000) (by omega) (by omega)
  have hle := (Z.figLog_lq (f := (f.1, 0)) h1 h2).1
  obtain ⟨r, hr⟩ : ∃ r, r = Z.logOf (f.1 * 100000) := ⟨_, rfl⟩
  have HLG : Hid (∀ t, Z.figLog (f.1, t) = (r.1 + t * 1048576, r.2 + t * 1048576)) := Z.hide (fun t => by unfold Z.figLog; rw [← hr])
  have hle' : r.1 ≤ r.2 := by have := hle; rw [HLG.out] at this; dsimp only at this; omega
  rw [← hr] at r1 r2 r3 r4
  have HR : ∀ w : World, Calls Tryz.prog 68 #[.int .i64 (f.1 * 100000)] w fun e w' => e = .returned (.agg #[.int .i64 r.1, .int .i64 r.2]) ∧ K.Ext w w' := fun w => by rw [hr]; exact l03Log_any _ w (by omega) (by omega)
  have qd : IntKind.i64.wrap (f.1 * 100000) = f.1 * 100000 := IntWalk.i64_in _ (by omega)
  clear hr hle
  rcases hs with rfl | rfl | rfl | rfl
  · have HE : Hid (Z.posS 0 f = r) := Z.hide (by unfold Z.posS; rw [if_neg (by decide), if_neg (by decide), if_neg (by decide), HLG.out]; simp)
    go_enter Tryz.func121, Tryz.ntmps121
    go_wp2_with fail
    refine K.cal (HR _) ?_
    rintro e w1 ⟨rfl, f1⟩
    obtain ⟨c_w1_0_0, c_w1_0_1, f_w1_0_0, f_w1_0_1⟩ := K.kp2 f1 (w.heap.size) (.int .i64 (f.1)) (.int .i64 (f.2)); obtain ⟨c_w1_1_0, c_w1_1_1, f_w1_1_0, f_w1_1_1⟩ := K.kp2 f1 (w.heap.size + 1) (.int .i64 (0)) (.int .i64 (0))
    have z1 := f1.size
    (try simp at z1)
    have y1 : w.heap.size < w1.heap.size := by omega
    have y2 : w.heap.size + 1 < w1.heap.size := by omega
    have n1 : ¬ (w.heap.size = w1.heap.size) := by omega
    have n2 : ¬ (w1.heap.size = w.heap.size) := by omega
    have n3 : ¬ (w.heap.size + 1 = w1.heap.size) := by omega
    have n4 : ¬ (w1.heap.size = w.heap.size + 1) := by omega
    have x1 : K.Ext w w1 := ((((K.Ext.refl w).alloc _).alloc _)).trans f1
    go_wp2
    refine bodyPost_ret (v := .agg #[.int .i64 r.1, .int .i64 r.2]) (by unfold results; rw [Tryz.results121]; go_simp) rfl ⟨by rw [HE.out], ?_⟩
    exact K.bel
  · have m0 := Int.emod_nonneg f.2 (show (2 : Int) ≠ 0 by decide)
    have m1 := Int.emod_lt_of_pos f.2 (show (0 : Int) < 2 by decide)
    have HM : ∀ w : World, Calls Tryz.prog 138 #[.int .i64 f.2, .int .i64 2] w fun e w' => e = .returned (.int .i64 (f.2 % 2)) ∧ w = w' := fun w => l01Mod_any f.2 2 w (by decide) (by omega) (by omega) (by decide)
    obtain ⟨m, hm⟩ : ∃ m, m = f.2 % 2 := ⟨_, rfl⟩
    rw [← hm] at HM m0 m1
    have HS := fun w => l03ScaleD_any (r.1 + 1048576 * m, r.2 + 1048576 * m) 1 2 w (by dsimp only; omega) (by dsimp only; omega) (by decide) (by decide) (by decide)
    have HE : Hid (Z.posS 1 f = Z.scaleD (r.1 + 1048576 * m, r.2 + 1048576 * m) 1 2) := Z.hide (by
      rw [Z.scaleD_one (by dsimp only; omega)]
      unfold Z.posS; rw [if_pos rfl, HLG.out, ← hm, Int.mul_comm m])
    obtain ⟨v, hv⟩ : ∃ v, Z.scaleD (r.1 + 1048576 * m, r.2 + 1048576 * m) 1 2 = v := ⟨_, rfl⟩
    rw [hv] at HS HE
    dsimp only at HS
    clear hv hm
    go_enter Tryz.func121, Tryz.ntmps121
    go_wp2_with fail
    refine K.cal (HR _) ?_
    rintro e w1 ⟨rfl, f1⟩
    obtain ⟨c_w1_0_0, c_w1_0_1, f_w1_0_0, f_w1_0_1⟩ := K.kp2 f1 (w.heap.size) (.int .i64 (f.1)) (.int .i64 (f.2)); obtain ⟨c_w1_1_0, c_w1_1_1, f_w1_1_0, f_w1_1_1⟩ := K.kp2 f1 (w.heap.size + 1) (.int .i64 (0)) (.int .i64 (0))
    have z1 := f1.size
    (try simp at z1)
    have y1 : w.heap.size < w1.heap.size := by omega
    have y2 : w.heap.size + 1 < w1.heap.size := by omega
    have n1 : ¬ (w.heap.size = w1.heap.size) := by omega
    have n2 : ¬ (w1.heap.size = w.heap.size) := by omega
    have n3 : ¬ (w.heap.size + 1 = w1.heap.size) := by omega
    have n4 : ¬ (w1.heap.size = w.heap.size + 1) := by omega
    have x1 : K.Ext w w1 := ((((K.Ext.refl w).alloc _).alloc _)).trans f1
    go_wp2_with fail
    refine K.cal (HM _) ?_
    rintro e _ ⟨rfl, rfl⟩
    go_wp2_with fail
    refine K.cal (HS _) ?_
    rintro e w2 ⟨rfl, f2⟩
    have z2 := f2.size
    (try simp at z2)
    have c2 : w2.cell? ⟨w.heap.size + 1, 0, none⟩ = some (.int .i64 0) := f2.cell_of (by go_simp)
    have c3 : w2.cell? ⟨w.heap.size + 1, 1, none⟩ = some (.int .i64 0) := f2.cell_of (by go_simp)
    have d2 : w2.frozen? ⟨w.heap.size + 1, 0, none⟩ = false := f2.thaw_of (by go_simp) (by go_simp)
    have d3 : w2.frozen? ⟨w.heap.size + 1, 1, none⟩ = false := f2.thaw_of (by go_simp) (by go_simp)
    have x2 : K.Ext w w2 := (x1.alloc _).trans f2
    go_wp2
    refine bodyPost_ret (v := .agg #[.int .i64 v.1, .int .i64 v.2]) (by unfold results; rw [Tryz.results121]; go_simp) rfl ⟨by rw [HE.out], ?_⟩
    exact K.bel
  · have m0 := Int.emod_nonneg f.2 (show (3 : Int) ≠ 0 by decide)
    have m1 := Int.emod_lt_of_pos f.2 (show (0 : Int) < 3 by decide)
    have HM : ∀ w : World, Calls Tryz.prog 138 #[.int .i64 f.2, .int .i64 3] w fun e w' => e = .returned (.int .i64 (f.2 % 3)) ∧ w = w' := fun w => l01Mod_any f.2 3 w (by decide) (by omega) (by omega) (by decide)
    obtain ⟨m, hm⟩ : ∃ m, m = f.2 % 3 := ⟨_, rfl⟩
    rw [← hm] at HM m0 m1
    have HS := fun w => l03ScaleD_any (r.1 + 1048576 * m, r.2 + 1048576 * m) 1 3 w (by dsimp only; omega) (by dsimp only; omega) (by decide) (by decide) (by decide)
    have HE : Hid (Z.posS 2 f = Z.scaleD (r.1 + 1048576 * m, r.2 + 1048576 * m) 1 3) := Z.hide (by
      rw [Z.scaleD_one (by dsimp only; omega)]
      unfold Z.posS; rw [if_neg (by decide), if_pos rfl, HLG.out, ← hm, Int.mul_comm m])
    obtain ⟨v, hv⟩ : ∃ v, Z.scaleD (r.1 + 1048576 * m, r.2 + 1048576 * m) 1 3 = v := ⟨_, rfl⟩
    rw [hv] at HS HE
    dsimp only at HS
    clear hv hm
    go_enter Tryz.func121, Tryz.ntmps121
    go_wp2_with fail
    refine K.cal (HR _) ?_
    rintro e w1 ⟨rfl, f1⟩
    obtain ⟨c_w1_0_0, c_w1_0_1, f_w1_0_0, f_w1_0_1⟩ := K.kp2 f1 (w.heap.size) (.int .i64 (f.1)) (.int .i64 (f.2)); obtain ⟨c_w1_1_0, c_w1_1_1, f_w1_1_0, f_w1_1_1⟩ := K.kp2 f1 (w.heap.size + 1) (.int .i64 (0)) (.int .i64 (0))
    have z1 := f1.size
    (try simp at z1)
    have y1 : w.heap.size < w1.heap.size := by omega
    have y2 : w.heap.size + 1 < w1.heap.size := by omega
    have n1 : ¬ (w.heap.size = w1.heap.size) := by omega
    have n2 : ¬ (w1.heap.size = w.heap.size) := by omega
    have n3 : ¬ (w.heap.size + 1 = w1.heap.size) := by omega
    have n4 : ¬ (w1.heap.size = w.heap.size + 1) := by omega
    have x1 : K.Ext w w1 := ((((K.Ext.refl w).alloc _).alloc _)).trans f1
    go_wp2_with fail
    refine K.cal (HM _) ?_
    rintro e _ ⟨rfl, rfl⟩
    go_wp2_with fail
    refine K.cal (HS _) ?_
    rintro e w2 ⟨rfl, f2⟩
    have z2 := f2.size
    (try simp at z2)
    have c2 : w2.cell? ⟨w.heap.size + 1, 0, none⟩ = some (.int .i64 0) := f2.cell_of (by go_simp)
    have c3 : w2.cell? ⟨w.heap.size + 1, 1, none⟩ = some (.int .i64 0) := f2.cell_of (by go_simp)
    have d2 : w2.frozen? ⟨w.heap.size + 1, 0, none⟩ = false := f2.thaw_of (by go_simp) (by go_simp)
    have d3 : w2.frozen? ⟨w.heap.size + 1, 1, none⟩ = false := f2.thaw_of (by go_simp) (by go_simp)
    have x2 : K.Ext w w2 := (x1.alloc _).trans f2
    go_wp2
    refine bodyPost_ret (v := .agg #[.int .i64 v.1, .int .i64 v.2]) (by unfold results; rw [Tryz.results121]; go_simp) rfl ⟨by rw [HE.out], ?_⟩
    exact K.bel
  · have HE : Hid (Z.posS 3 f = (1048576 - r.2, 1048576 - r.1)) := Z.hide (by unfold Z.posS; rw [if_neg (by decide), if_neg (by decide), if_pos rfl, HLG.out]; simp)
    go_enter Tryz.func121, Tryz.ntmps121
    go_wp2_with fail
    refine K.cal (HR _) ?_
    rintro e w1 ⟨rfl, f1⟩
    obtain ⟨c_w1_0_0, c_w1_0_1, f_w1_0_0, f_w1_0_1⟩ := K.kp2 f1 (w.heap.size) (.int .i64 (f.1)) (.int .i64 (f.2)); obtain ⟨c_w1_1_0, c_w1_1_1, f_w1_1_0, f_w1_1_1⟩ := K.kp2 f1 (w.heap.size + 1) (.int .i64 (0)) (.int .i64 (0))
    have z1 := f1.size
    (try simp at z1)
    have y1 : w.heap.size < w1.heap.size := by omega
    have y2 : w.heap.size + 1 < w1.heap.size := by omega
    have n1 : ¬ (w.heap.size = w1.heap.size) := by omega
    have n2 : ¬ (w1.heap.size = w.heap.size) := by omega
    have n3 : ¬ (w.heap.size + 1 = w1.heap.size) := by omega
    have n4 : ¬ (w1.heap.size = w.heap.size + 1) := by omega
    have x1 : K.Ext w w1 := ((((K.Ext.refl w).alloc _).alloc _)).trans f1
    go_wp2
    refine bodyPost_ret (v := .agg #[.int .i64 (1048576 - r.2), .int .i64 (1048576 - r.1)]) (by unfold results; rw [Tryz.results121]; go_simp) rfl ⟨by rw [HE.out], ?_⟩
    exact K.bel
set_option maxRecDepth 100000 in
set_option maxHeartbeats 6400000 in
theorem l11Point_any (s : Int) (f : Int × Int) (w : World) (hs : s = 0 ∨ s = 1 ∨ s = 2 ∨ s = 3) (h1 : 1000 ≤ f.1) (h2 : f.1 ≤ 9999) (h3 : -100 ≤ f.2) (h4 : f.2 ≤ 100) :
    Calls Tryz.prog 89 #[.int .i64 s, .agg #[.int .i64 f.1, .int .i64 f.2]] w fun e w' => e = .returned (.int .i64 (Z.ptS s f)) ∧ K.Ext w w' := by
  have HP := fun w => l05Position_any s f w hs h1 h2 h3 h4
  have hb := Z.pos_bd hs h1 h2
  have HE : Hid (Z.ptS s f = Z.fl ((Z.posS s f).1 + (Z.posS s f).2) 2) := Z.hide rfl
  obtain ⟨v, hv⟩ : ∃ v, Z.posS s f = v := ⟨_, rfl⟩
  rw [hv] at HP hb HE
  clear hv
  have HF := fun w => l01Floor_any (v.1 + v.2) 2 w (by decide) (by omega) (by omega) (by decide) (by decide)
  go_enter Tryz.func89, Tryz.ntmps89
  go_wp2_with fail
  refine K.cal (HP _) ?_
  rintro e w1 ⟨rfl, f1⟩
  have x1 : K.Ext w w1 := (((K.Ext.refl w).alloc _)).trans f1
  go_wp2_with fail
  refine K.cal (HF _) ?_
  rintro e _ ⟨rfl, rfl⟩
  go_wp2
  go_ret
  exact ⟨K.ri (by rw [HE.out]), K.bel⟩
theorem l11At_any (n : Int) (w : World) (h0 : 0 ≤ n) (h1 : n ≤ 1000000) :
    Calls Tryz.prog 119 #[.int .i64 n] w fun e w' => e = .returned (.agg #[.int .i64 (Z.atN n).1, .int .i64 (Z.atN n).2]) ∧ K.Ext w w' := by
  have e1 := Int.tmod_eq_emod_of_nonneg (b := 9000) h0
  have e2 := Int.tdiv_eq_ediv_of_nonneg (b := 9000) h0
  have HE : Hid (Z.atN n = (1000 + n % 9000, n / 9000)) := Z.hide rfl
  go_enter Tryz.func119, Tryz.ntmps119
  go_wp2
  refine bodyPost_ret (v := .agg #[.int .i64 (1000 + n % 9000), .int .i64 (n / 9000)]) (by unfold results; rw [Tryz.results119]; go_simp) rfl ⟨by rw [HE.out], ?_⟩
  exact K.bel
end Go.Proofs.YtimpcelbekhipaaGreat
end
section
namespace Go.Z
theorem ab2_ab (x : Int) : ab2 x = ab x := by unfold ab2 ab; split <;> omega
/-- a point that is not ahead of t, in the direction of the scale -/
def hits (P : Int → Int) (fa : Bool) (t n : Int) : Prop := if fa then P n ≤ t else t ≤ P n
def monoP (P : Int → Int) (fa : Bool) (N : Int) : Prop := (fa = false ∧ Rises P 0 N) ∨ (fa = true ∧ Falls P 0 N)
theorem hits_mono {P : Int → Int} {fa : Bool} {t N : Int} (h : monoP P fa N) {i j : Int} (h0 : 0 ≤ i) (hij : i ≤ j) (hj : j < N) (hi : hits P fa t i) : hits P fa t j := by
  by_cases e : i = j
  · rw [← e]; exact hi
  rcases h with ⟨rfl, h⟩ | ⟨rfl, h⟩
  · have := h i j h0 (by omega) hj
    unfold hits at *; simp at *; omega
  · have := h i j h0 (by omega) hj
    unfold hits at *; simp at *; omega
/-- the two around the first that hits -/
theorem two_hits {P : Int → Int} {fa : Bool} {t N : Int} (h : monoP P fa N) {b : Int} (h1 : 0 ≤ b) (h2 : b ≤ N) (h3 : b = 0 ∨ ¬ hits P fa t (b - 1)) (h4 : b = N ∨ hits P fa t b) (m : Int) (m1 : 0 ≤ m) (m2 : m < N) :
    (m < b ∧ nearer P t (b - 1) m) ∨ (b ≤ m ∧ nearer P t b m) := by
  have g3 : ∀ j, 0 ≤ j → j < b → ¬ hits P fa t j := fun j a c hj => by
    rcases h3 with h3 | h3
    · omega
    · exact h3 (hits_mono h a (by omega) (by omega) hj)
  have g4 : ∀ j, b ≤ j → j < N → hits P fa t j := fun j a c => by
    rcases h4 with h4 | h4
    · omega
    · exact hits_mono h h1 a c h4
  rcases h with ⟨rfl, h⟩ | ⟨rfl, h⟩
  · exact two_rise h h1 h2 (fun j a c => by have := g3 j a c; unfold hits at this; simp at this; exact this) (fun j a c => by have := g4 j a c; unfold hits at this; simpa using this) m m1 m2
  · exact two_fall h h1 h2 (fun j a c => by have := g3 j a c; unfold hits at this; simp at this; exact this) (fun j a c => by have := g4 j a c; unfold hits at this; simpa using this) m m1 m2
/-- a window around it suffices -/
theorem best_window {P : Int → Int} {fa : Bool} {t N : Int} (h : monoP P fa N) {b : Int} (h1 : 0 ≤ b) (h2 : b ≤ N) (h3 : b = 0 ∨ ¬ hits P fa t (b - 1)) (h4 : b = N ∨ hits P fa t b) {lo hi n : Int} (l0 : 0 ≤ lo) (l1 : lo < b ∨ lo = 0) (u0 : b < hi ∨ hi = N) (u1 : hi ≤ N) (u2 : b ≤ hi) (hn : IsBest P t lo hi n) : IsBest P t 0 N n := by
  obtain ⟨n1, n2, n3⟩ := hn
  refine ⟨by omega, by omega, fun m m1 m2 => ?_⟩
  rcases two_hits h h1 h2 h3 h4 m m1 m2 with ⟨c1, c2⟩ | ⟨c1, c2⟩
  · exact nearer_trans (n3 (b - 1) (by omega) (by omega)) c2
  · exact nearer_trans (n3 b (by omega) (by omega)) c2
/-- the point of the figure with a number -/
def pN (s n : Int) : Int := ptS s (atN n)
def okF (fa : Bool) (s : Int) : Prop := (fa = false ∧ (s = 0 ∨ s = 1 ∨ s = 2)) ∨ (fa = true ∧ s = 3)
theorem okF_s {fa : Bool} {s : Int} (h : okF fa s) : s = 0 ∨ s = 1 ∨ s = 2 ∨ s = 3 := by unfold okF at h; omega
theorem pN_mono {fa : Bool} {s : Int} (h : okF fa s) : monoP (pN s) fa (9000 * decS s) := by
  rcases h with ⟨h1, hs⟩ | ⟨h1, hs⟩
  · exact .inl ⟨h1, rises_of fun n a b => pt_rise hs a b⟩
  · subst hs; exact .inr ⟨h1, falls_of fun n a b => pt_fall a b⟩
theorem pN_bd {s n : Int} (hs : s = 0 ∨ s = 1 ∨ s = 2 ∨ s = 3) : -20 ≤ pN s n ∧ pN s n ≤ 1048600 := by
  have d := atN_digits n
  have b := pos_bd (f := atN n) hs d.1 d.2
  have c := fl2 ((posS s (atN n)).1 + (posS s (atN n)).2)
  unfold pN ptS; omega
theorem atN_tens {n : Int} (h0 : 0 ≤ n) (h1 : n ≤ 27000) : 0 ≤ (atN n).2 ∧ (atN n).2 ≤ 3 := by unfold atN; dsimp only; omega
theorem decS_bd (s : Int) : 1 ≤ decS s ∧ decS s ≤ 3 := by unfold decS; split <;> (try split) <;> omega
end Go.Z
namespace Go.Proofs.YtimpcelbekhipaaGreat
open Go.RowKit
set_option maxRecDepth 100000 in
set_option maxHeartbeats 12800000 in
theorem l11Search_any (fa : Bool) (s t : Int) (w : World) (ho : Z.okF fa s) (t0 : -10000000 ≤ t) (t1 : t ≤ 10000000) :
    Calls Tryz.prog 118 #[.int .i64 s, .int .i64 0, .int .i64 (9000 * Z.decS s), .int .i64 t, .bool fa] w fun e w' => (∃ n : Int, e = .returned (.int .i64 n) ∧ Z.IsBest (Z.pN s) t 0 (9000 * Z.decS s) n) ∧ K.Ext w w' := by
  have hs := Z.okF_s ho
  have hmo := Z.pN_mono ho
  obtain ⟨N, hN⟩ : ∃ N, N = 9000 * Z.decS s := ⟨_, rfl⟩
  have hN1 : 9000 ≤ N ∧ N ≤ 27000 := by have := Z.decS_bd s; omega
  rw [← hN] at hmo ⊢
  have HPT : Hid (∀ (n : Int) (w' : World), 0 ≤ n → n ≤ 27000 → Calls Tryz.prog 89 #[.int .i64 s, .agg #[.int .i64 (Z.atN n).1, .int .i64 (Z.atN n).2]] w' fun e w'' => e = .returned (.int .i64 (Z.pN s n)) ∧ K.Ext w' w'') := Z.hide (fun n w' a b => by
    have d := Z.atN_digits n
    have c := Z.atN_tens a b
    exact l11Point_any s (Z.atN n) w' hs d.1 d.2 (by omega) (by omega))
  have HB := Z.hide (fun n => Z.pN_bd (n := n) hs)
  obtain ⟨P, hP⟩ : ∃ P, P = Z.pN s := ⟨_, rfl⟩
  rw [← hP] at hmo HPT HB ⊢
  have HMO := Z.hide hmo
  have HFA : Hid (∀ n, Z.hits P fa t n ↔ (if fa then P n ≤ t else t ≤ P n)) := Z.hide (fun n => Iff.rfl)
  clear hN ho hs hP hmo
  go_enter Tryz.func118, Tryz.ntmps118
  go_wp2
  go_loopw [11, 12] (fun x y wr => ∃ a b : Int, x = .int .i64 a ∧ y = .int .i64 b ∧ (-1 ≤ a ∧ a < b ∧ b ≤ N) ∧ Hid (a = -1 ∨ ¬ Z.hits P fa t a) ∧ Hid (b = N ∨ Z.hits P fa t b) ∧ Hid (K.Ext w wr)) (fun x y _ => (intOf y - intOf x).toNat)
  case atStart => exact ⟨-1, N, rfl, rfl, ⟨by omega, by omega, by omega⟩, Z.hide (.inl rfl), Z.hide (.inl rfl), Z.hide (K.Ext.refl _)⟩
  case round =>
    obtain ⟨a, b, rfl, rfl, ⟨a0, ab, bN⟩, HA, HBb, HX⟩ := hrel
    by_cases hlt : 1 < b - a
    · obtain ⟨m, hm⟩ : ∃ m, m = (a + b) / 2 := ⟨_, rfl⟩
      have qm : (a + b).tdiv 2 = m := by rw [hm]; exact Int.tdiv_eq_ediv_of_nonneg (by omega)
      have m0 : a < m := by omega
      have m1 : m < b := by omega
      have HP := fun w' => HPT.out m w' (by omega) (by omega)
      have HAt := fun w' => l11At_any m w' (by omega) (by omega)
      generalize Z.atN m = F at HP HAt
      have pb := HB.out m
      obtain ⟨p, hp⟩ : ∃ p, p = P m := ⟨_, rfl⟩
      have HHI : Hid (Z.hits P fa t m ↔ (if fa then p ≤ t else t ≤ p)) := Z.hide (by rw [hp]; exact Iff.rfl)
      rw [← hp] at HP pb
      clear hp hm
      go_wp2_with fail
      refine K.cal (HAt _) ?_
      rintro e w1 ⟨rfl, f1⟩
      go_wp2_with fail
      refine K.cal (HP _) ?_
      rintro e w2 ⟨rfl, f2⟩
      have HX2 : Hid (K.Ext w w2) := Z.hide (HX.out.trans (f1.trans f2))
      clear HAt HP
      cases fa
      · by_cases hpt : t ≤ p
        · have HH1 : Hid (Z.hits P false t m) := Z.hide (HHI.out.2 (by simpa using hpt))
          go_wp2
          go_roundw
          case rel => exact ⟨a, m, rfl, rfl, ⟨a0, m0, by omega⟩, HA, Z.hide (.inr HH1.out), HX2⟩
          case measure => simp [intOf]; omega
        · have HH1 : Hid (¬ Z.hits P false t m) := Z.hide (fun h => hpt (by simpa using HHI.out.1 h))
          go_wp2
          go_roundw
          case rel => exact ⟨m, b, rfl, rfl, ⟨by omega, m1, bN⟩, Z.hide (.inr HH1.out), HBb, HX2⟩
          case measure => simp [intOf]; omega
      · by_cases hpt : p ≤ t
        · have HH1 : Hid (Z.hits P true t m) := Z.hide (HHI.out.2 (by simpa using hpt))
          go_wp2
          go_roundw
          case rel => exact ⟨a, m, rfl, rfl, ⟨a0, m0, by omega⟩, HA, Z.hide (.inr HH1.out), HX2⟩
          case measure => simp [intOf]; omega
        · have HH1 : Hid (¬ Z.hits P true t m) := Z.hide (fun h => hpt (by simpa using HHI.out.1 h))
          go_wp2
          go_roundw
          case rel => exact ⟨m, b, rfl, rfl, ⟨by omega, m1, bN⟩, Z.hide (.inr HH1.out), HBb, HX2⟩
          case measure => simp [intOf]; omega
    · obtain rfl : a = b - 1 := by omega
      obtain ⟨lo, hlo⟩ : ∃ lo, lo = max 0 (b - 3) := ⟨_, rfl⟩
      have hlo1 : (lo = 0 ∧ b ≤ 3) ∨ (lo = b - 3 ∧ 3 ≤ b) := by omega
      obtain ⟨hi, hhi⟩ : ∃ hi, hi = min N (b + 3) := ⟨_, rfl⟩
      have hhi1 : (hi = N ∧ N ≤ b + 3) ∨ (hi = b + 3 ∧ b + 3 ≤ N) := by omega
      have HW : Hid (∀ n, Z.IsBest P t lo hi n → Z.IsBest P t 0 N n) := Z.hide (fun n hn => Z.best_window HMO.out (by omega) bN (by rcases HA.out with h | h; exact .inl (by omega); exact .inr h) HBb.out (by omega) (by omega) (by omega) (by omega) (by omega) hn)
      have hlo' := hlo.symm
      clear hlo hhi HA HBb HMO HFA
      go_wp2
      go_loopw [15, 16, 17] (fun x y z wr => ∃ best least n : Int, x = .int .i64 best ∧ y = .int .i64 least ∧ z = .int .i64 n ∧ (lo ≤ n ∧ n ≤ hi) ∧ ((n = lo ∧ best = -1) ∨ (0 ≤ best ∧ lo < n)) ∧ Hid (lo < n → (lo ≤ best ∧ best < n) ∧ least = Z.ab (P best - t) ∧ ∀ m, lo ≤ m → m < n → Z.nearer P t best m) ∧ Hid (K.Ext w wr)) (fun x y z _ => (hi - intOf z).toNat)
      case atStart => exact ⟨-1, 0, lo, rfl, rfl, rfl, ⟨Int.le_refl _, by omega⟩, .inl ⟨rfl, rfl⟩, Z.hide (fun h => by omega), HX⟩
      case round =>
        obtain ⟨best, least, n, rfl, rfl, rfl, ⟨n0, n1⟩, hbst, HBS, HX2⟩ := hrel
        clear HX
        by_cases hn : n < hi
        · have nN : n < N := by omega
          have nb : n < b + 3 := by omega
          have HP := fun w' => HPT.out n w' (by omega) (by omega)
          have HAt := fun w' => l11At_any n w' (by omega) (by omega)
          generalize Z.atN n = F at HP HAt
          have pb := HB.out n
          obtain ⟨p, hp⟩ : ∃ p, p = P n := ⟨_, rfl⟩
          have HPP := Z.hide hp
          rw [← hp] at HP pb
          clear hp
          have HAB := fun w' => l01Abs_any (p - t) w' (by omega) (by omega)
          obtain ⟨d, hd⟩ : ∃ d, d = Z.ab (p - t) := ⟨_, rfl⟩
          have HDD := Z.hide hd
          rw [← hd] at HAB
          clear hd
          have qn : IntKind.i64.wrap (n + 1) = n + 1 := IntWalk.i64_in _ (by omega)
          go_wp2_with fail
          refine K.cal (HAt _) ?_
          rintro e w1 ⟨rfl, f1⟩
          go_wp2_with fail
          refine K.cal (HP _) ?_
          rintro e w2 ⟨rfl, f2⟩
          have HX3 : Hid (K.Ext w w2) := Z.hide (HX2.out.trans (f1.trans f2))
          clear HAt HP
          go_wp2_with fail
          refine K.cal (HAB _) ?_
          rintro e _ ⟨rfl, rfl⟩
          clear HAB
          by_cases hneg : best < 0
          · have hdec : decide (best < 0) = true := decide_eq_true hneg
            obtain ⟨rfl, rfl⟩ : n = lo ∧ best = -1 := by omega
            go_wp2
            go_roundw
            case rel => exact ⟨n, d, n + 1, rfl, rfl, rfl, ⟨by omega, by omega⟩, .inr ⟨by omega, by omega⟩, Z.hide (fun _ => ⟨⟨by omega, by omega⟩, by rw [HDD.out, HPP.out], fun m m1 m2 => by obtain rfl : m = n := (by omega); exact Z.nearer_refl _ _ _⟩), HX3⟩
            case measure => simp [intOf]; omega
          · have hln : lo < n := by omega
            by_cases hdl : d < least
            · have HBS2 : Hid ((lo ≤ n ∧ n < n + 1) ∧ d = Z.ab (P n - t) ∧ ∀ m, lo ≤ m → m < n + 1 → Z.nearer P t n m) := Z.hide (by
                obtain ⟨c1, c2, c3⟩ := HBS.out hln
                refine ⟨⟨by omega, by omega⟩, by rw [HDD.out, HPP.out], fun m m1 m2 => ?_⟩
                by_cases e : m = n
                · rw [e]; exact Z.nearer_refl _ _ _
                · refine Z.nearer_trans (.inl ?_) (c3 m m1 (by omega))
                  rw [Z.ab2_ab, Z.ab2_ab, ← HPP.out, ← HDD.out, ← c2]; exact hdl)
              go_wp2
              go_roundw
              case rel => exact ⟨n, d, n + 1, rfl, rfl, rfl, ⟨by omega, by omega⟩, .inr ⟨by omega, by omega⟩, Z.hide (fun _ => HBS2.out), HX3⟩
              case measure => simp [intOf]; omega
            · have HBS2 : Hid ((lo ≤ best ∧ best < n + 1) ∧ least = Z.ab (P best - t) ∧ ∀ m, lo ≤ m → m < n + 1 → Z.nearer P t best m) := Z.hide (by
                obtain ⟨c1, c2, c3⟩ := HBS.out hln
                refine ⟨⟨by omega, by omega⟩, c2, fun m m1 m2 => ?_⟩
                by_cases e : m = n
                · rw [e]
                  have hdl' : least ≤ d := by omega
                  rw [HDD.out, HPP.out, c2] at hdl'
                  unfold Z.nearer
                  rw [Z.ab2_ab, Z.ab2_ab]
                  omega
                · exact c3 m m1 (by omega))
              go_wp2
              go_roundw
              case rel => exact ⟨best, least, n + 1, rfl, rfl, rfl, ⟨by omega, by omega⟩, .inr ⟨by omega, by omega⟩, Z.hide (fun _ => HBS2.out), HX3⟩
              case measure => simp [intOf]; omega
        · obtain rfl : n = hi := by omega
          have hln : lo < n := by omega
          have HF : Hid (Z.IsBest P t 0 N best) := Z.hide (HW.out best (by obtain ⟨c1, c2, c3⟩ := HBS.out hln; exact ⟨c1.1, c1.2, c3⟩))
          clear HBS
          by_cases nN : n < N
          · have nb : ¬ n < b + 3 := by omega
            go_wp2
            go_ret
            exact ⟨⟨best, rfl, HF.out⟩, HX2.out⟩
          · go_wp2
            go_ret
            exact ⟨⟨best, rfl, HF.out⟩, HX2.out⟩
theorem l05Decades_any (s : Int) (w : World) :
    Calls Tryz.prog 120 #[.int .i64 s] w fun e w' => e = .returned (.int .i64 (Z.decS s)) ∧ w = w' := by
  by_cases h1 : s = 1
  · subst h1
    go_enter Tryz.func120, Tryz.ntmps120
    go_wp2
    go_ret
    exact ⟨rfl, rfl⟩
  · by_cases h2 : s = 2
    · subst h2
      go_enter Tryz.func120, Tryz.ntmps120
      go_wp2
      go_ret
      exact ⟨rfl, rfl⟩
    · have HE : Hid (Z.decS s = 1) := Z.hide (by unfold Z.decS; rw [if_neg h1, if_neg h2])
      go_enter Tryz.func120, Tryz.ntmps120
      go_wp2
      go_ret
      exact ⟨K.ri HE.out.symm, rfl⟩
set_option maxRecDepth 100000 in
set_option maxHeartbeats 6400000 in
theorem l11Read_any (fa : Bool) (s t : Int) (w : World) (ho : Z.okF fa s) (t0 : -10000000 ≤ t) (t1 : t ≤ 10000000) :
    Calls Tryz.prog 88 #[.int .i64 s, .int .i64 t] w fun e w' => (∃ n : Int, e = .returned (.agg #[.int .i64 (Z.atN n).1, .int .i64 (Z.atN n).2]) ∧ Z.IsBest (Z.pN s) t 0 (9000 * Z.decS s) n) ∧ K.Ext w w' := by
  have HS := fun w => l11Search_any fa s t w ho t0 t1
  have HD := fun w => l05Decades_any s w
  have hd := Z.decS_bd s
  have h4 : ¬ s = 4 := by have := Z.okF_s ho; omega
  have h4' : (s == 4) = false := by rw [beq_eq_false_iff_ne]; exact h4
  have h3 : (s == 3) = fa := by
    rcases ho with ⟨rfl, h⟩ | ⟨rfl, h⟩
    · rw [beq_eq_false_iff_ne]; omega
    · rw [h]; rfl
  have h3' : decide (s = 3) = fa := by rw [← h3]; rfl
  have qd : IntKind.i64.wrap (9000 * Z.decS s) = 9000 * Z.decS s := IntWalk.i64_in _ (by omega)
  obtain ⟨c, hc⟩ : ∃ c, c = Z.decS s := ⟨_, rfl⟩
  rw [← hc] at HS HD hd qd ⊢
  obtain ⟨P, hP⟩ : ∃ P, P = Z.pN s := ⟨_, rfl⟩
  rw [← hP] at HS ⊢
  clear hc hP ho
  go_enter Tryz.func88, Tryz.ntmps88
  go_wp2_with fail
  refine K.cal (HD _) ?_
  rintro e _ ⟨rfl, rfl⟩
  go_wp2_with fail
  refine K.cal (HS _) ?_
  rintro e w1 ⟨⟨n, rfl, HB⟩, f1⟩
  have HBB := Z.hide HB
  have HA := fun w => l11At_any n w (by have := HB.1; omega) (by have := HB.2.1; omega)
  clear HB
  obtain ⟨F, hF⟩ : ∃ F, F = Z.atN n := ⟨_, rfl⟩
  have HFF := Z.hide hF
  rw [← hF] at HA
  clear hF
  have c0 : w1.cell? ⟨w.heap.size, 0, none⟩ = some (.int .i64 0) := f1.cell_of (by go_simp)
  have c1 : w1.cell? ⟨w.heap.size, 1, none⟩ = some (.int .i64 0) := f1.cell_of (by go_simp)
  have d0 : w1.frozen? ⟨w.heap.size, 0, none⟩ = false := f1.thaw_of (by go_simp) (by go_simp)
  have d1 : w1.frozen? ⟨w.heap.size, 1, none⟩ = false := f1.thaw_of (by go_simp) (by go_simp)
  have x1 : K.Ext w w1 := ((K.Ext.refl w).alloc _).trans f1
  go_wp2_with fail
  refine K.cal (HA _) ?_
  rintro e w2 ⟨rfl, f2⟩
  have e0 := f2.cell_of c0
  have e1 := f2.cell_of c1
  have g0 := f2.thaw_of (by rw [c0]; rfl) d0
  have g1 := f2.thaw_of (by rw [c1]; rfl) d1
  have x2 := x1.trans f2
  go_wp2
  refine bodyPost_ret (v := .agg #[.int .i64 F.1, .int .i64 F.2]) (by unfold results; rw [Tryz.results88]; go_simp) rfl ⟨⟨n, by rw [HFF.out], HBB.out⟩, ?_⟩
  exact K.bel
end Go.Proofs.YtimpcelbekhipaaGreat
end
section
namespace Go.K
theorem sl_heap {n B g : Nat} {o : Obj} {w : World} (h : NewB B (slAt n) o (.slice (some ⟨g, 0, none⟩) n n) w) : w.heap[g]? = some o := by
  obtain ⟨g', hv, _, hb⟩ := h
  simp only [slAt, Value.slice.injEq, Option.some.injEq, Addr.mk.injEq, and_true] at hv
  rw [hv]; exact hb
end Go.K
namespace Go.Proofs.YtimpcelbekhipaaGreat
open Go.RowKit
theorem modulo_any (a b : Int) (w : World) (hb : 0 < b) (hb2 : b ≤ 12) (h1 : -1000000000 ≤ a) (h2 : a ≤ 1000000000) :
    Calls Tryz.prog 135 #[.int .i64 a, .int .i64 b] w fun e w' => e = .returned (.int .i64 (a % b)) ∧ w = w' := by
  have HD := fun w => down_any a b w (by omega) (by omega) (by omega)
  have HE := Z.hide (Z.fl_mod a b hb)
  have hs := Z.fl_spec a b hb
  have e1 := Int.emod_nonneg a (show b ≠ 0 by omega)
  have e2 := Int.emod_lt_of_pos a hb
  have e3 := HE.out
  obtain ⟨q, hq⟩ : ∃ q, q = Z.fl a b := ⟨_, rfl⟩
  rw [← hq] at HD HE hs e3
  obtain ⟨y, hy⟩ : ∃ y, y = b * q := ⟨_, rfl⟩
  rw [← hy] at HE hs e3
  have q1 : IntKind.i64.wrap (b * q) = y := by rw [← hy]; exact IntWalk.i64_in _ (by omega)
  have q2 : IntKind.i64.wrap (a - y) = a - y := IntWalk.i64_in _ (by omega)
  clear hq hy e3
  go_enter Tryz.func135, Tryz.ntmps135
  go_wp2_with fail
  refine K.cal (HD _) ?_
  rintro e _ ⟨rfl, rfl⟩
  go_wp2
  go_ret
  exact ⟨K.ri HE.out, rfl⟩
set_option maxHeartbeats 1600000 in
theorem shift_any (n : Int) (g : Nat) (a : Int × Int) (w : World) (c0 : w.cell? ⟨g, 0, none⟩ = some (.int .i64 a.1)) (c1 : w.cell? ⟨g, 1, none⟩ = some (.int .i64 a.2)) (h1 : -10000000 ≤ n ∧ n ≤ 10000000) (h2 : -10000000 ≤ a.1 ∧ a.1 ≤ 10000000) (h3 : -10000000 ≤ a.2 ∧ a.2 ≤ 10000000) :
    Calls Tryz.prog 134 #[.int .i64 n, .pointer (some ⟨g, 0, none⟩)] w fun e w' => e = .returned (.agg #[.int .i64 (a.1 + n), .int .i64 (a.2 + n)]) ∧ K.Ext w w' := by
  have lg := World.block_lt_of_cell? w _ c0
  dsimp only at lg
  have n1 : ¬ (g = w.heap.size) := by omega
  have n2 : ¬ (w.heap.size = g) := by omega
  go_enter Tryz.func134, Tryz.ntmps134
  go_wp2
  refine bodyPost_ret (v := .agg #[.int .i64 (a.1 + n), .int .i64 (a.2 + n)]) (by unfold results; rw [Tryz.results134]; go_simp) rfl ⟨rfl, ?_⟩
  exact K.bel
set_option maxHeartbeats 1600000 in
theorem difference_any (a : Int × Int) (b : Int × Int)  (w : World) (h1 : -4000000000 ≤ a.1 ∧ a.1 ≤ 4000000000) (h2 : -4000000000 ≤ a.2 ∧ a.2 ≤ 4000000000) (h3 : -4000000000 ≤ b.1 ∧ b.1 ≤ 4000000000) (h4 : -4000000000 ≤ b.2 ∧ b.2 ≤ 4000000000)  :
    Calls Tryz.prog 136 #[.agg #[.int .i64 a.1, .int .i64 a.2], .agg #[.int .i64 b.1, .int .i64 b.2]] w fun e w' => e = .returned (.agg #[.int .i64 ((a.1 - b.2, a.2 - b.1) : Int × Int).1, .int .i64 ((a.1 - b.2, a.2 - b.1) : Int × Int).2]) ∧ K.Ext w w' := by
  have X0 : K.Ext w w := K.Ext.refl w
  go_enter Tryz.func136, Tryz.ntmps136
  go_wp2_with fail
  refine bodyPost_ret (v := .agg #[.int .i64 (a.1 - b.2), .int .i64 (a.2 - b.1)]) (by unfold results; rw [Tryz.results136]; go_simp) rfl ⟨rfl, ?_⟩
  repeat with_reducible refine K.Ext.setCell ?_ (by dsimp only; omega) _
  exact (by repeat' (first | with_reducible exact X0 | with_reducible refine K.Ext.setCell ?_ ?_ _ | with_reducible refine K.Ext.alloc ?_ _ | with_reducible refine K.Ext.drew ?_ | (dsimp only; omega) | omega | (simp; omega)))
set_option maxRecDepth 100000 in
set_option maxHeartbeats 6400000 in
theorem position_any (s : Int) (f : Int × Int) (w : World) (hs : s = 0 ∨ s = 1 ∨ s = 2 ∨ s = 3) (h1 : 1000 ≤ f.1) (h2 : f.1 ≤ 9999) (h3 : -100 ≤ f.2) (h4 : f.2 ≤ 100) :
    Calls Tryz.prog 115 #[.int .i64 s, .agg #[.int .i64 f.1, .int .i64 f.2]] w fun e w' => e = .returned (.agg #[.int .i64 (Z.posS s f).1, .int .i64 (Z.posS s f).2]) ∧ K.Ext w w' := by
  have hfl := Z.figLog_lq (f := (f.1, 0)) h1 h2
  have hle := hfl.1
  have HLG : Hid (∀ t, Z.figLog (f.1, t) = ((Z.figLog (f.1, 0)).1 + t * 1048576, (Z.figLog (f.1, 0)).2 + t * 1048576)) := Z.hide (fun t => by unfold Z.figLog; dsimp only; rw [Prod.mk.injEq]; constructor <;> omega)
  obtain ⟨r, hr⟩ : ∃ r, r = Z.figLog (f.1, 0) := ⟨_, rfl⟩
  have HR : ∀ w : World, Calls Tryz.prog 63 #[.agg #[.int .i64 f.1, .int .i64 0]] w fun e w' => e = .returned (.agg #[.int .i64 r.1, .int .i64 r.2]) ∧ K.Ext w w' := fun w => by rw [hr]; exact figureLog_any (f.1, 0) w (by simp only [Z.isFig, Bool.and_eq_true, decide_eq_true_eq]; omega)
  have HRR := Z.hide hr
  rw [← hr] at HLG hle hfl
  have hr1 : 0 ≤ r.1 ∧ r.1 ≤ 1048577 := by have := hfl.2; dsimp only at this; omega
  have hr2 : 0 ≤ r.2 ∧ r.2 ≤ 1048577 := by have := hfl.2; dsimp only at this; omega
  clear hr hfl
  rcases hs with rfl | rfl | rfl | rfl
  · have HE : Hid (Z.posS 0 f = r) := Z.hide (by unfold Z.posS; rw [if_neg (by decide), if_neg (by decide), if_neg (by decide), HRR.out])
    clear HLG HRR
    go_enter Tryz.func115, Tryz.ntmps115
    go_wp2_with fail
    refine K.cal (HR _) ?_
    rintro e w1 ⟨rfl, f1⟩
    obtain ⟨c_w1_0_0, c_w1_0_1, f_w1_0_0, f_w1_0_1⟩ := K.kp2 f1 (w.heap.size) (.int .i64 (f.1)) (.int .i64 (f.2)); obtain ⟨c_w1_1_0, c_w1_1_1, f_w1_1_0, f_w1_1_1⟩ := K.kp2 f1 (w.heap.size + 1) (.int .i64 (0)) (.int .i64 (0))
    have z1 := f1.size
    (try simp at z1)
    have y1 : w.heap.size < w1.heap.size := by omega
    have y2 : w.heap.size + 1 < w1.heap.size := by omega
    have n1 : ¬ (w.heap.size = w1.heap.size) := by omega
    have n2 : ¬ (w1.heap.size = w.heap.size) := by omega
    have n3 : ¬ (w.heap.size + 1 = w1.heap.size) := by omega
    have n4 : ¬ (w1.heap.size = w.heap.size + 1) := by omega
    have x1 : K.Ext w w1 := ((((K.Ext.refl w).alloc _).alloc _)).trans f1
    go_wp2
    refine bodyPost_ret (v := .agg #[.int .i64 r.1, .int .i64 r.2]) (by unfold results; rw [Tryz.results115]; go_simp) rfl ⟨by rw [HE.out], ?_⟩
    exact K.bel
  · have m0 := Int.emod_nonneg f.2 (show (2 : Int) ≠ 0 by decide)
    have m1 := Int.emod_lt_of_pos f.2 (show (0 : Int) < 2 by decide)
    have HM := fun w => modulo_any f.2 2 w (by decide) (by decide) (by omega) (by omega)
    obtain ⟨m, hm⟩ : ∃ m, m = f.2 % 2 := ⟨_, rfl⟩
    rw [← hm] at HM m0 m1
    have HS := fun w => scaledD_any (r.1 + 1048576 * m, r.2 + 1048576 * m) 1 2 w (by dsimp only; omega) (by dsimp only; omega) (by decide) (by decide)
    have HE : Hid (Z.posS 1 f = Z.scaleD (r.1 + 1048576 * m, r.2 + 1048576 * m) 1 2) := Z.hide (by
      rw [Z.scaleD_one (by dsimp only; omega)]
      unfold Z.posS; rw [if_pos rfl, HLG.out, ← hm, Int.mul_comm m])
    obtain ⟨v, hv⟩ : ∃ v, Z.scaleD (r.1 + 1048576 * m, r.2 + 1048576 * m) 1 2 = v := ⟨_, rfl⟩
    rw [hv] at HS HE
    dsimp only at HS
    clear hv hm HLG HRR
    go_enter Tryz.func115, Tryz.ntmps115
    go_wp2_with fail
    refine K.cal (HR _) ?_
    rintro e w1 ⟨rfl, f1⟩
    obtain ⟨c_w1_0_0, c_w1_0_1, f_w1_0_0, f_w1_0_1⟩ := K.kp2 f1 (w.heap.size) (.int .i64 (f.1)) (.int .i64 (f.2)); obtain ⟨c_w1_1_0, c_w1_1_1, f_w1_1_0, f_w1_1_1⟩ := K.kp2 f1 (w.heap.size + 1) (.int .i64 (0)) (.int .i64 (0))
    have z1 := f1.size
    (try simp at z1)
    have y1 : w.heap.size < w1.heap.size := by omega
    have y2 : w.heap.size + 1 < w1.heap.size := by omega
    have n1 : ¬ (w.heap.size = w1.heap.size) := by omega
    have n2 : ¬ (w1.heap.size = w.heap.size) := by omega
    have n3 : ¬ (w.heap.size + 1 = w1.heap.size) := by omega
    have n4 : ¬ (w1.heap.size = w.heap.size + 1) := by omega
    have x1 : K.Ext w w1 := ((((K.Ext.refl w).alloc _).alloc _)).trans f1
    go_wp2_with fail
    refine K.cal (HM _) ?_
    rintro e _ ⟨rfl, rfl⟩
    have HSH := fun w c0 c1 => shift_any (1048576 * m) w1.heap.size r w c0 c1 (by omega) (by omega) (by omega)
    go_wp2_with fail
    refine K.cal (HSH _ (K.cell_at (K.block_new rfl) rfl) (K.cell_at (K.block_new rfl) rfl)) ?_
    rintro e w3 ⟨rfl, f3⟩
    have y3 := f3.size
    (try simp at y3)
    have a2 : w3.cell? ⟨w.heap.size + 1, 0, none⟩ = some (.int .i64 0) := f3.cell_of (by go_simp)
    have a3 : w3.cell? ⟨w.heap.size + 1, 1, none⟩ = some (.int .i64 0) := f3.cell_of (by go_simp)
    have b2 : w3.frozen? ⟨w.heap.size + 1, 0, none⟩ = false := f3.thaw_of (by go_simp) (by go_simp)
    have b3 : w3.frozen? ⟨w.heap.size + 1, 1, none⟩ = false := f3.thaw_of (by go_simp) (by go_simp)
    have x3 : K.Ext w w3 := (x1.alloc _).trans f3
    go_wp2_with fail
    refine K.cal (HS _) ?_
    rintro e w2 ⟨rfl, f2⟩
    have c2 : w2.cell? ⟨w.heap.size + 1, 0, none⟩ = some (.int .i64 0) := f2.cell_of (by go_simp)
    have c3 : w2.cell? ⟨w.heap.size + 1, 1, none⟩ = some (.int .i64 0) := f2.cell_of (by go_simp)
    have d2 : w2.frozen? ⟨w.heap.size + 1, 0, none⟩ = false := f2.thaw_of (by go_simp) (by go_simp)
    have d3 : w2.frozen? ⟨w.heap.size + 1, 1, none⟩ = false := f2.thaw_of (by go_simp) (by go_simp)
    have x2 : K.Ext w w2 := x3.trans f2
    go_wp2
    refine bodyPost_ret (v := .agg #[.int .i64 v.1, .int .i64 v.2]) (by unfold results; rw [Tryz.results115]; go_simp) rfl ⟨by rw [HE.out], ?_⟩
    exact K.bel
  · have m0 := Int.emod_nonneg f.2 (show (3 : Int) ≠ 0 by decide)
    have m1 := Int.emod_lt_of_pos f.2 (show (0 : Int) < 3 by decide)
    have HM := fun w => modulo_any f.2 3 w (by decide) (by decide) (by omega) (by omega)
    obtain ⟨m, hm⟩ : ∃ m, m = f.2 % 3 := ⟨_, rfl⟩
    rw [← hm] at HM m0 m1
    have HS := fun w => scaledD_any (r.1 + 1048576 * m, r.2 + 1048576 * m) 1 3 w (by dsimp only; omega) (by dsimp only; omega) (by decide) (by decide)
    have HE : Hid (Z.posS 2 f = Z.scaleD (r.1 + 1048576 * m, r.2 + 1048576 * m) 1 3) := Z.hide (by
      rw [Z.scaleD_one (by dsimp only; omega)]
      unfold Z.posS; rw [if_neg (by decide), if_pos rfl, HLG.out, ← hm, Int.mul_comm m])
    obtain ⟨v, hv⟩ : ∃ v, Z.scaleD (r.1 + 1048576 * m, r.2 + 1048576 * m) 1 3 = v := ⟨_, rfl⟩
    rw [hv] at HS HE
    dsimp only at HS
    clear hv hm HLG HRR
    go_enter Tryz.func115, Tryz.ntmps115
    go_wp2_with fail
    refine K.cal (HR _) ?_
    rintro e w1 ⟨rfl, f1⟩
    obtain ⟨c_w1_0_0, c_w1_0_1, f_w1_0_0, f_w1_0_1⟩ := K.kp2 f1 (w.heap.size) (.int .i64 (f.1)) (.int .i64 (f.2)); obtain ⟨c_w1_1_0, c_w1_1_1, f_w1_1_0, f_w1_1_1⟩ := K.kp2 f1 (w.heap.size + 1) (.int .i64 (0)) (.int .i64 (0))
    have z1 := f1.size
    (try simp at z1)
    have y1 : w.heap.size < w1.heap.size := by omega
    have y2 : w.heap.size + 1 < w1.heap.size := by omega
    have n1 : ¬ (w.heap.size = w1.heap.size) := by omega
    have n2 : ¬ (w1.heap.size = w.heap.size) := by omega
    have n3 : ¬ (w.heap.size + 1 = w1.heap.size) := by omega
    have n4 : ¬ (w1.heap.size = w.heap.size + 1) := by omega
    have x1 : K.Ext w w1 := ((((K.Ext.refl w).alloc _).alloc _)).trans f1
    go_wp2_with fail
    refine K.cal (HM _) ?_
    rintro e _ ⟨rfl, rfl⟩
    have HSH := fun w c0 c1 => shift_any (1048576 * m) w1.heap.size r w c0 c1 (by omega) (by omega) (by omega)
    go_wp2_with fail
    refine K.cal (HSH _ (K.cell_at (K.block_new rfl) rfl) (K.cell_at (K.block_new rfl) rfl)) ?_
    rintro e w3 ⟨rfl, f3⟩
    have y3 := f3.size
    (try simp at y3)
    have a2 : w3.cell? ⟨w.heap.size + 1, 0, none⟩ = some (.int .i64 0) := f3.cell_of (by go_simp)
    have a3 : w3.cell? ⟨w.heap.size + 1, 1, none⟩ = some (.int .i64 0) := f3.cell_of (by go_simp)
    have b2 : w3.frozen? ⟨w.heap.size + 1, 0, none⟩ = false := f3.thaw_of (by go_simp) (by go_simp)
    have b3 : w3.frozen? ⟨w.heap.size + 1, 1, none⟩ = false := f3.thaw_of (by go_simp) (by go_simp)
    have x3 : K.Ext w w3 := (x1.alloc _).trans f3
    go_wp2_with fail
    refine K.cal (HS _) ?_
    rintro e w2 ⟨rfl, f2⟩
    have c2 : w2.cell? ⟨w.heap.size + 1, 0, none⟩ = some (.int .i64 0) := f2.cell_of (by go_simp)
    have c3 : w2.cell? ⟨w.heap.size + 1, 1, none⟩ = some (.int .i64 0) := f2.cell_of (by go_simp)
    have d2 : w2.frozen? ⟨w.heap.size + 1, 0, none⟩ = false := f2.thaw_of (by go_simp) (by go_simp)
    have d3 : w2.frozen? ⟨w.heap.size + 1, 1, none⟩ = false := f2.thaw_of (by go_simp) (by go_simp)
    have x2 : K.Ext w w2 := x3.trans f2
    go_wp2
    refine bodyPost_ret (v := .agg #[.int .i64 v.1, .int .i64 v.2]) (by unfold results; rw [Tryz.results115]; go_simp) rfl ⟨by rw [HE.out], ?_⟩
    exact K.bel
  · have HE : Hid (Z.posS 3 f = (1048576 - r.2, 1048576 - r.1)) := Z.hide (by unfold Z.posS; rw [if_neg (by decide), if_neg (by decide), if_pos rfl, HRR.out])
    have HDF := fun w => difference_any (1048576, 1048576) r w (by decide) (by decide) (by omega) (by omega)
    clear HLG HRR
    go_enter Tryz.func115, Tryz.ntmps115
    go_wp2_with fail
    refine K.cal (HR _) ?_
    rintro e w1 ⟨rfl, f1⟩
    obtain ⟨c_w1_0_0, c_w1_0_1, f_w1_0_0, f_w1_0_1⟩ := K.kp2 f1 (w.heap.size) (.int .i64 (f.1)) (.int .i64 (f.2)); obtain ⟨c_w1_1_0, c_w1_1_1, f_w1_1_0, f_w1_1_1⟩ := K.kp2 f1 (w.heap.size + 1) (.int .i64 (0)) (.int .i64 (0))
    have z1 := f1.size
    (try simp at z1)
    have y1 : w.heap.size < w1.heap.size := by omega
    have y2 : w.heap.size + 1 < w1.heap.size := by omega
    have n1 : ¬ (w.heap.size = w1.heap.size) := by omega
    have n2 : ¬ (w1.heap.size = w.heap.size) := by omega
    have n3 : ¬ (w.heap.size + 1 = w1.heap.size) := by omega
    have n4 : ¬ (w1.heap.size = w.heap.size + 1) := by omega
    have x1 : K.Ext w w1 := ((((K.Ext.refl w).alloc _).alloc _)).trans f1
    go_wp2_with fail
    refine K.cal (HDF _) ?_
    rintro e w2 ⟨rfl, f2⟩
    have c2 : w2.cell? ⟨w.heap.size + 1, 0, none⟩ = some (.int .i64 0) := f2.cell_of (by go_simp)
    have c3 : w2.cell? ⟨w.heap.size + 1, 1, none⟩ = some (.int .i64 0) := f2.cell_of (by go_simp)
    have d2 : w2.frozen? ⟨w.heap.size + 1, 0, none⟩ = false := f2.thaw_of (by go_simp) (by go_simp)
    have d3 : w2.frozen? ⟨w.heap.size + 1, 1, none⟩ = false := f2.thaw_of (by go_simp) (by go_simp)
    have x2 : K.Ext w w2 := (x1.alloc _).trans f2
    go_wp2
    refine bodyPost_ret (v := .agg #[.int .i64 (1048576 - r.2), .int .i64 (1048576 - r.1)]) (by unfold results; rw [Tryz.results115]; go_simp) rfl ⟨by rw [HE.out], ?_⟩
    exact K.bel
set_option maxRecDepth 100000 in
set_option maxHeartbeats 6400000 in
theorem pointOf_any (s : Int) (f : Int × Int) (w : World) (hs : s = 0 ∨ s = 1 ∨ s = 2 ∨ s = 3) (h1 : 1000 ≤ f.1) (h2 : f.1 ≤ 9999) (h3 : -100 ≤ f.2) (h4 : f.2 ≤ 100) :
    Calls Tryz.prog 84 #[.int .i64 s, .agg #[.int .i64 f.1, .int .i64 f.2]] w fun e w' => e = .returned (.int .i64 (Z.ptS s f)) ∧ K.Ext w w' := by
  have HP := fun w => position_any s f w hs h1 h2 h3 h4
  have hb := Z.pos_bd hs h1 h2
  have HE : Hid (Z.ptS s f = Z.fl ((Z.posS s f).1 + (Z.posS s f).2) 2) := Z.hide rfl
  obtain ⟨v, hv⟩ : ∃ v, Z.posS s f = v := ⟨_, rfl⟩
  rw [hv] at HP hb HE
  clear hv
  have HF := fun w => down_any (v.1 + v.2) 2 w (by decide) (by omega) (by omega)
  go_enter Tryz.func84, Tryz.ntmps84
  go_wp2_with fail
  refine K.cal (HP _) ?_
  rintro e w1 ⟨rfl, f1⟩
  have x1 : K.Ext w w1 := (((K.Ext.refl w).alloc _)).trans f1
  go_wp2_with fail
  refine K.cal (HF _) ?_
  rintro e _ ⟨rfl, rfl⟩
  go_wp2
  go_ret
  exact ⟨K.ri (by rw [HE.out]), K.bel⟩
theorem distance_any (a b : Int) (w : World) (h1 : -1000000000 ≤ a ∧ a ≤ 1000000000) (h2 : -1000000000 ≤ b ∧ b ≤ 1000000000) :
    Calls Tryz.prog 92 #[.int .i64 a, .int .i64 b] w fun e w' => e = .returned (.int .i64 (Z.ab (a - b))) ∧ w = w' := by
  have HE : Hid (max (a - b) (b - a) = Z.ab (a - b)) := Z.hide (by unfold Z.ab; omega)
  go_enter Tryz.func92, Tryz.ntmps92
  go_wp2
  go_ret
  exact ⟨K.ri HE.out, rfl⟩
theorem isNaN_any (a : Int) (w : World) :
    Calls Tryz.prog 145 #[.int .i64 a] w fun e w' => e = .returned (.bool false) ∧ w = w' := by
  go_enter Tryz.func145, Tryz.ntmps145
  go_wp2
  go_ret
  exact ⟨rfl, rfl⟩
theorem compare_any (a b c : Int) (w : World) (hc : c = if a < b then -1 else if b < a then 1 else 0) :
    Calls Tryz.prog 133 #[.int .i64 a, .int .i64 b] w fun e w' => e = .returned (.int .i64 c) ∧ w = w' := by
  by_cases h1 : a < b
  · rw [if_pos h1] at hc
    subst hc
    go_enter Tryz.func133, Tryz.ntmps133
    go_wp2_with (first | (go_at_call 145; refine K.call (by with_reducible rfl) (by with_reducible rfl) (isNaN_any _ _) ?_; rintro e w' ⟨rfl, rfl⟩))
    go_ret
    exact ⟨rfl, rfl⟩
  · by_cases h2 : b < a
    · rw [if_neg h1, if_pos h2] at hc
      subst hc
      go_enter Tryz.func133, Tryz.ntmps133
      go_wp2_with (first | (go_at_call 145; refine K.call (by with_reducible rfl) (by with_reducible rfl) (isNaN_any _ _) ?_; rintro e w' ⟨rfl, rfl⟩))
      go_ret
      exact ⟨rfl, rfl⟩
    · rw [if_neg h1, if_neg h2] at hc
      subst hc
      go_enter Tryz.func133, Tryz.ntmps133
      go_wp2_with (first | (go_at_call 145; refine K.call (by with_reducible rfl) (by with_reducible rfl) (isNaN_any _ _) ?_; rintro e w' ⟨rfl, rfl⟩))
      go_ret
      exact ⟨rfl, rfl⟩
theorem or_any (x y r : Int) (g : Nat) {T : TypeId} (w : World) (hb : w.heap[g]? = some (.cells #[.int .i64 x, .int .i64 y] T)) (hr : r = if x = 0 then y else x) :
    Calls Tryz.prog 132 #[.slice (some ⟨g, 0, none⟩) 2 2] w fun e w' => e = .returned (.int .i64 r) ∧ w = w' := by
  have c0 : w.cell? ⟨g, 0, none⟩ = some (.int .i64 x) := K.cell_at hb rfl
  have c1 : w.cell? ⟨g, 1, none⟩ = some (.int .i64 y) := K.cell_at hb rfl
  clear hb
  go_enter Tryz.func132, Tryz.ntmps132
  go_wp2
  go_loopw [8] (fun i wr => wr = w ∧ (i = .int .i64 0 ∨ (i = .int .i64 1 ∧ x = 0) ∨ (i = .int .i64 2 ∧ x = 0 ∧ y = 0))) (fun i _ => 2 - (intOf i).toNat)
  case atStart => exact ⟨rfl, .inl rfl⟩
  case round =>
    obtain ⟨rfl, rfl | ⟨rfl, rfl⟩ | ⟨rfl, rfl, rfl⟩⟩ := hrel
    · by_cases hx : x = 0
      · subst hx
        go_wp2
        go_roundw
        case rel => simp
        case measure => simp [intOf]
      · rw [if_neg hx] at hr
        have hx' : (x == 0) = false := by simpa using hx
        go_wp2
        go_ret
        exact ⟨K.ri hr.symm, rfl⟩
    · rw [if_pos rfl] at hr
      by_cases hy : y = 0
      · subst hy
        go_wp2
        go_roundw
        case rel => simp
        case measure => simp [intOf]
      · have hy' : (y == 0) = false := by simpa using hy
        go_wp2
        go_ret
        exact ⟨K.ri hr.symm, rfl⟩
    · rw [if_pos rfl] at hr
      go_wp2
      go_ret
      exact ⟨K.ri hr.symm, rfl⟩
set_option maxRecDepth 100000 in
set_option maxHeartbeats 3200000 in
theorem compareFigures_any (a b : Int × Int) (w : World) :
    Calls Tryz.prog 108 #[.agg #[.int .i64 a.1, .int .i64 a.2], .agg #[.int .i64 b.1, .int .i64 b.2]] w fun e w' => (∃ r : Int, e = .returned (.int .i64 r) ∧ (r < 0 ↔ (a.2 < b.2 ∨ (a.2 = b.2 ∧ a.1 < b.1)))) ∧ K.Ext w w' := by
  obtain ⟨x, hx⟩ : ∃ x : Int, x = if a.2 < b.2 then -1 else if b.2 < a.2 then 1 else 0 := ⟨_, rfl⟩
  obtain ⟨y, hy⟩ : ∃ y : Int, y = if a.1 < b.1 then -1 else if b.1 < a.1 then 1 else 0 := ⟨_, rfl⟩
  obtain ⟨r, hr⟩ : ∃ r : Int, r = if x = 0 then y else x := ⟨_, rfl⟩
  have HC1 := fun w => compare_any a.2 b.2 x w hx
  have HC2 := fun w => compare_any a.1 b.1 y w hy
  have HOR : Hid (∀ (g : Nat) {T : TypeId} (w : World), w.heap[g]? = some (.cells #[.int .i64 x, .int .i64 y] T) → Calls Tryz.prog 132 #[.slice (some ⟨g, 0, none⟩) 2 2] w fun e w' => e = .returned (.int .i64 r) ∧ w = w') := Z.hide (fun g {T} w hb => or_any x y r g w hb hr)
  have HF : Hid (r < 0 ↔ (a.2 < b.2 ∨ (a.2 = b.2 ∧ a.1 < b.1))) := Z.hide (by
    rw [hr, hx, hy]
    by_cases h1 : a.2 < b.2
    · rw [if_pos h1, if_neg (by decide)]; omega
    · by_cases h2 : b.2 < a.2
      · rw [if_neg h1, if_pos h2, if_neg (by decide)]; omega
      · rw [if_neg h1, if_neg h2, if_pos rfl]
        by_cases h3 : a.1 < b.1
        · rw [if_pos h3]; constructor
          · intro _; right; exact ⟨by omega, h3⟩
          · intro _; decide
        · rw [if_neg h3]
          by_cases h4 : b.1 < a.1
          · rw [if_pos h4]; omega
          · rw [if_neg h4]; omega)
  clear hx hy hr
  go_enter Tryz.func108, Tryz.ntmps108
  go_wp2_with fail
  refine K.wp_region_y (R := K.RE) 12 [0, 1, 0, 1, 2, 0, 1, 0, 1, 2, 2, 2] [K.SQ.any, K.SQ.any, K.SQ.any, K.SQ.any, K.SQ.is (.int .i64 x), K.SQ.any, K.SQ.any, K.SQ.any, K.SQ.any, K.SQ.is (.int .i64 y), K.SQ.sl 2 (w.heap.size) (Nat.zero_le _) (.cells #[.int .i64 x, .int .i64 y] 3), K.SQ.is (.int .i64 r)] (by kernel_rfl) (by kernel_rfl) ?_
  simp only [List.take_succ_cons, List.take_zero, List.drop_succ_cons, List.drop_zero]
  apply K.y_pure
  · rfl
  · rfl
  · intro w'; go_simp; first | done | exact K.vint (IntWalk.i64_in _ (by omega)) | rfl | exact ⟨rfl, rfl⟩
  simp only [Act.put, List.setIfInBounds_toArray, List.set]
  apply K.y_held
  · rfl
  · rfl
  · intro w' hx; have hx : K.Ext _ _ := hx; have hc := hx.all.1.1; have hf := hx.all.1.2; have hc' := hx.all.2.1; have hf' := hx.all.2.2; go_simp; first | done | rfl | exact ⟨rfl, rfl⟩
  simp only [Act.put, List.setIfInBounds_toArray, List.set]
  apply K.y_pure
  · rfl
  · rfl
  · intro w'; go_simp; first | done | exact K.vint (IntWalk.i64_in _ (by omega)) | rfl | exact ⟨rfl, rfl⟩
  simp only [Act.put, List.setIfInBounds_toArray, List.set]
  apply K.y_held
  · rfl
  · rfl
  · intro w' hx; have hx : K.Ext _ _ := hx; have hc := hx.all.1.1; have hf := hx.all.1.2; have hc' := hx.all.2.1; have hf' := hx.all.2.2; go_simp; first | done | rfl | exact ⟨rfl, rfl⟩
  simp only [Act.put, List.setIfInBounds_toArray, List.set]
  apply K.y_call_is
  · rfl
  · rfl
  · rfl
  · intro w'; go_simp; first | done | rfl | exact ⟨rfl, rfl⟩
  · intro w' hx hp; have hx : K.Ext _ _ := hx; have hc := hx.all.1.1; have hf := hx.all.1.2; have hc' := hx.all.2.1; have hf' := hx.all.2.2; exact K.same_ext (HC1 _)
  intro w_4_ hx_4_
  replace hx_4_ : K.Ext _ _ := hx_4_
  simp only [Act.put, List.setIfInBounds_toArray, List.set]
  apply K.y_pure
  · rfl
  · rfl
  · intro w'; go_simp; first | done | exact K.vint (IntWalk.i64_in _ (by omega)) | rfl | exact ⟨rfl, rfl⟩
  simp only [Act.put, List.setIfInBounds_toArray, List.set]
  apply K.y_held
  · rfl
  · rfl
  · intro w' hx; have hx : K.Ext _ _ := hx; have hc := hx.all.1.1; have hf := hx.all.1.2; have hc' := hx.all.2.1; have hf' := hx.all.2.2; go_simp; first | done | rfl | exact ⟨rfl, rfl⟩
  simp only [Act.put, List.setIfInBounds_toArray, List.set]
  apply K.y_pure
  · rfl
  · rfl
  · intro w'; go_simp; first | done | exact K.vint (IntWalk.i64_in _ (by omega)) | rfl | exact ⟨rfl, rfl⟩
  simp only [Act.put, List.setIfInBounds_toArray, List.set]
  apply K.y_held
  · rfl
  · rfl
  · intro w' hx; have hx : K.Ext _ _ := hx; have hc := hx.all.1.1; have hf := hx.all.1.2; have hc' := hx.all.2.1; have hf' := hx.all.2.2; go_simp; first | done | rfl | exact ⟨rfl, rfl⟩
  simp only [Act.put, List.setIfInBounds_toArray, List.set]
  apply K.y_call_is
  · rfl
  · rfl
  · rfl
  · intro w'; go_simp; first | done | rfl | exact ⟨rfl, rfl⟩
  · intro w' hx hp; have hx : K.Ext _ _ := hx; have hc := hx.all.1.1; have hf := hx.all.1.2; have hc' := hx.all.2.1; have hf' := hx.all.2.2; exact K.same_ext (HC2 _)
  intro w_9_ hx_9_
  replace hx_9_ : K.Ext _ _ := hx_9_
  simp only [Act.put, List.setIfInBounds_toArray, List.set]
  apply K.y_newsl (Nat.zero_le _)
  · rfl
  · rfl
  · rfl
  · go_simp; first | done | omega
  · intro w'; go_simp; first | done | rfl | exact ⟨rfl, rfl⟩
  intro g1_10 w_10_ hx_10_ hg1_10 hb_10_ hn_10_
  replace hx_10_ : K.Ext _ _ := hx_10_
  clear hn_10_
  simp only [Act.put, List.setIfInBounds_toArray, List.set]
  apply K.y_call_is
  · rfl
  · rfl
  · rfl
  · intro w'; go_simp; first | done | rfl | exact ⟨rfl, rfl⟩
  · intro w' hx hp; have hx : K.Ext _ _ := hx; have hc := hx.all.1.1; have hf := hx.all.1.2; have hc' := hx.all.2.1; have hf' := hx.all.2.2; exact K.same_ext (HOR.out _ _ (K.sl_heap (hp 10 _ (by kernel_rfl) rfl rfl)))
  intro w_11_ hx_11_
  replace hx_11_ : K.Ext _ _ := hx_11_
  simp only [Act.put, List.setIfInBounds_toArray, List.set]
  apply K.y_done
  intro w3 h_x
  replace h_x : K.Ext _ _ := h_x
  have hx3 := hx_4_.trans (hx_9_.trans (hx_10_.trans (hx_11_.trans h_x)))
  have hb1_10 := K.Ext.block (hx_11_.trans h_x) hb_10_
  have cg1_10_0 : w3.cell? ⟨g1_10, 0, none⟩ = some (.int .i64 x) := K.cell_at hb1_10 rfl
  have fg1_10_0 : w3.frozen? ⟨g1_10, 0, none⟩ = false := K.thaw_at hb1_10
  have cg1_10_1 : w3.cell? ⟨g1_10, 1, none⟩ = some (.int .i64 y) := K.cell_at hb1_10 rfl
  have fg1_10_1 : w3.frozen? ⟨g1_10, 1, none⟩ = false := K.thaw_at hb1_10
  clear h_x hx_4_ hx_9_ hx_10_ hx_11_
  obtain ⟨⟨hcw3, hfw3⟩, hc'w3, hf'w3⟩ := hx3.all
  go_wp2_with fail
  refine NoPanic.normal ?_
  have x3 : K.Ext w w3 := K.Ext.trans K.bel hx3
  go_wp2
  go_ret
  exact ⟨⟨r, rfl, HF.out⟩, x3⟩
end Go.Proofs.YtimpcelbekhipaaGreat
end
section
namespace Go.Z
def hitsB (P : Int → Int) (fa : Bool) (t n : Int) : Bool := if fa then decide (P n ≤ t) else decide (t ≤ P n)
theorem hitsB_iff (P : Int → Int) (fa : Bool) (t n : Int) : hitsB P fa t n = true ↔ hits P fa t n := by
  unfold hitsB hits; cases fa <;> simp
end Go.Z
namespace Go.Proofs.YtimpcelbekhipaaGreat
open Go.RowKit
theorem decadesOf_any (s : Int) (w : World) (hs : s = 0 ∨ s = 1 ∨ s = 2 ∨ s = 3) :
    Calls Tryz.prog 109 #[.int .i64 s] w fun e w' => e = .returned (.int .i64 (Z.decS s)) ∧ K.Ext w w' := by
  rcases hs with rfl | rfl | rfl | rfl
  all_goals
    go_enter Tryz.func109, Tryz.ntmps109
    go_wp2
    go_ret
    exact ⟨rfl, K.bel⟩
theorem segments_any (s : Int) (w : World) (hs : ¬ s = 4) :
    Calls Tryz.prog 110 #[.int .i64 s] w fun e w' => (∃ g h : Nat, e = .returned (.slice (some ⟨g, 0, none⟩) 1 1) ∧ w.heap.size ≤ h ∧ h < g ∧ w'.heap[g]? = some (.cells #[.slice (some ⟨h, 0, none⟩) 2 2] 22) ∧ w'.heap[h]? = some (.cells #[.int .i64 1000, .int .i64 9999] 2)) ∧ K.Ext w w' := by
  have hs' : (s == 4) = false := by rw [beq_eq_false_iff_ne]; exact hs
  go_enter Tryz.func110, Tryz.ntmps110
  go_wp2
  go_ret
  refine ⟨⟨w.heap.size + 1, w.heap.size, rfl, Nat.le_refl _, Nat.lt_succ_self _, K.block_new (by simp), ?_⟩, K.bel⟩
  exact ((K.Ext.refl _).alloc _).block (K.block_new rfl)
set_option maxHeartbeats 1600000 in
theorem figure_any (i t : Int) (g1 g2 h : Nat) (w : World) (i0 : 0 ≤ i ∧ i ≤ 8999) (c1 : w.cell? ⟨g1, 0, none⟩ = some (.slice (some ⟨h, 0, none⟩) 2 2)) (c2 : w.cell? ⟨g2, 0, none⟩ = some (.int .i64 t)) (c3 : w.cell? ⟨h, 0, none⟩ = some (.int .i64 1000)) :
    Calls Tryz.prog 111 #[.int .i64 i, .pointer (some ⟨g1, 0, none⟩), .pointer (some ⟨g2, 0, none⟩)] w fun e w' => e = .returned (.agg #[.int .i64 (1000 + i), .int .i64 t]) ∧ K.Ext w w' := by
  have l1 := World.block_lt_of_cell? w _ c1
  have l2 := World.block_lt_of_cell? w _ c2
  have l3 := World.block_lt_of_cell? w _ c3
  dsimp only at l1 l2 l3
  have n1 : ¬ (g1 = w.heap.size) := by omega
  have n2 : ¬ (w.heap.size = g1) := by omega
  have n3 : ¬ (g2 = w.heap.size) := by omega
  have n4 : ¬ (w.heap.size = g2) := by omega
  have n5 : ¬ (h = w.heap.size) := by omega
  have n6 : ¬ (w.heap.size = h) := by omega
  have q1 : IntKind.i64.wrap (1000 + i) = 1000 + i := IntWalk.i64_in _ (by omega)
  go_enter Tryz.func111, Tryz.ntmps111
  go_wp2_with fail
  refine K.wp_region_x 7 [1, 0, 1, 0, 0, 1, 0] [] (by kernel_rfl) (by kernel_rfl) ?_
  simp only [List.take_succ_cons, List.take_zero, List.drop_succ_cons, List.drop_zero]
  refine K.xh ?_
  simp only [Act.put, List.setIfInBounds_toArray, List.set]
  refine K.xp ?_
  simp only [Act.put, List.setIfInBounds_toArray, List.set]
  refine K.xh ?_
  simp only [Act.put, List.setIfInBounds_toArray, List.set]
  iterate 2
    refine K.xp ?_
    simp only [Act.put, List.setIfInBounds_toArray, List.set]
  refine K.xh ?_
  simp only [Act.put, List.setIfInBounds_toArray, List.set]
  refine K.xp ?_
  simp only [Act.put, List.setIfInBounds_toArray, List.set]
  apply K.x_done
  intro w3 h_x
  have hx3 := K.Ext.id h_x
  clear h_x
  obtain ⟨⟨hcw3, hfw3⟩, hc'w3, hf'w3⟩ := hx3.all
  go_wp2_with fail
  refine NoPanic.normal ?_
  have x3 : K.Ext w w3 := K.Ext.trans K.bel hx3
  have d0 : w3.cell? ⟨w.heap.size, 0, none⟩ = some (.int .i64 0) := hx3.cell_of (by go_simp)
  have d1 : w3.cell? ⟨w.heap.size, 1, none⟩ = some (.int .i64 0) := hx3.cell_of (by go_simp)
  have e0 : w3.frozen? ⟨w.heap.size, 0, none⟩ = false := hx3.thaw_of (by go_simp) (by go_simp)
  have e1 : w3.frozen? ⟨w.heap.size, 1, none⟩ = false := hx3.thaw_of (by go_simp) (by go_simp)
  go_wp2
  refine bodyPost_ret (v := .agg #[.int .i64 (1000 + i), .int .i64 t]) (by unfold results; rw [Tryz.results111]; go_simp) rfl ⟨rfl, ?_⟩
  exact K.bel
set_option maxRecDepth 100000 in
set_option maxHeartbeats 3200000 in
theorem Search3_any (f : Nat → Bool) (g : Nat) (a1 a2 a3 : Value) (N : Nat) (w : World) (NZ : Int) (hNZ : NZ = (N : Int)) (hN : N ≤ 1000000) (hg : ∀ (args : Array Value) (w' : World), (callFunc g args).run Tryz.prog w' = .ok (.enter g args) w')
    (hf : ∀ (i : Nat) (w' : World), i < N → K.Ext w w' → Calls Tryz.prog g #[.int .i64 (i : Int), a1, a2, a3] w' fun e w'' => e = .returned (.bool (f i)) ∧ K.Ext w' w'') :
    Calls Tryz.prog 113 #[.int .i64 NZ, .func (.func g) #[] #[a1, a2, a3]] w fun e w' => (∃ r : Nat, e = .returned (.int .i64 (r : Int)) ∧ r ≤ N ∧ (r = N ∨ f r = true) ∧ (r = 0 ∨ f (r - 1) = false)) ∧ K.Ext w w' := by
  subst hNZ
  have HF := Z.hide hf
  clear hf
  go_enter Tryz.func113, Tryz.ntmps113
  go_wp2
  go_loopw [5, 6] (fun a b wr => ∃ i j : Nat, i ≤ j ∧ j ≤ N ∧ a = .int .i64 i ∧ b = .int .i64 j ∧ Hid (i = 0 ∨ f (i - 1) = false) ∧ Hid (j = N ∨ f j = true) ∧ Hid (K.Ext w wr)) (fun a b _ => (intOf b - intOf a).toNat)
  case atStart => exact ⟨0, N, Nat.zero_le _, Nat.le_refl _, rfl, rfl, Z.hide (.inl rfl), Z.hide (.inl rfl), Z.hide (K.Ext.refl _)⟩
  case round =>
    obtain ⟨i, j, hij, hj, rfl, rfl, HI, HJ, HX⟩ := hrel
    have i0 : (0 : Int) ≤ (i : Int) := Int.natCast_nonneg i
    have j0 : (0 : Int) ≤ (j : Int) := Int.natCast_nonneg j
    by_cases hlt : i < j
    · have k1 : (i : Int) < (j : Int) := by omega
      obtain ⟨h, hh⟩ : ∃ h : Nat, h = (i + j) / 2 := ⟨_, rfl⟩
      have q1 : IntKind.i64.wrap ((i : Int) + (j : Int)) = (i : Int) + (j : Int) := IntWalk.i64_in _ (by omega)
      have q2 : ((i : Int) + (j : Int)) / 2 = (h : Int) := by omega
      have h1 : i ≤ h := by omega
      have h2 : h < j := by omega
      clear hh
      go_wp2_with fail
      refine Calls.mono (HF.out h wr (by omega) HX.out) ?_
      rintro e w1 ⟨rfl, x1⟩
      have HX1 := Z.hide (K.Ext.trans HX.out x1)
      cases hfh : f h
      · have HI1 : Hid (h + 1 = 0 ∨ f (h + 1 - 1) = false) := Z.hide (.inr hfh)
        go_wp2
        go_roundw
        case rel => exact ⟨h + 1, j, by omega, hj, by go_num, rfl, HI1, HJ, HX1⟩
        case measure => first | (simp [intOf]; done) | (simp [intOf]; omega)
      · have HJ1 : Hid (h = N ∨ f h = true) := Z.hide (.inr hfh)
        go_wp2
        go_roundw
        case rel => exact ⟨i, h, h1, by omega, rfl, rfl, HI, HJ1, HX1⟩
        case measure => first | (simp [intOf]; done) | (simp [intOf]; omega)
    · obtain rfl : i = j := by omega
      go_wp2
      go_ret
      exact ⟨⟨i, rfl, hj, HJ.out, HI.out⟩, HX.out⟩
/-- the figure of a decade by its index: the closure of the tool, as a cell holds it -/
theorem hitTest_any (fa : Bool) (s n : Int) (k t : Int) (gs gf gn g1 g2 h : Nat) (w : World) (ho : Z.okF fa s) (k0 : 0 ≤ k ∧ k ≤ 8999) (t0 : 0 ≤ t ∧ t ≤ 2)
    (cs : w.cell? ⟨gs, 0, none⟩ = some (.int .i64 s)) (cf : w.cell? ⟨gf, 0, none⟩ = some (.func (.func 111) #[] #[.pointer (some ⟨g1, 0, none⟩), .pointer (some ⟨g2, 0, none⟩)])) (cn : w.cell? ⟨gn, 0, none⟩ = some (.int .i64 n))
    (c1 : w.cell? ⟨g1, 0, none⟩ = some (.slice (some ⟨h, 0, none⟩) 2 2)) (c2 : w.cell? ⟨g2, 0, none⟩ = some (.int .i64 t)) (c3 : w.cell? ⟨h, 0, none⟩ = some (.int .i64 1000)) :
    Calls Tryz.prog 114 #[.int .i64 k, .pointer (some ⟨gs, 0, none⟩), .pointer (some ⟨gf, 0, none⟩), .pointer (some ⟨gn, 0, none⟩)] w fun e w' => (∃ b : Bool, e = .returned (.bool b) ∧ (b = true ↔ Z.hits (Z.pN s) fa n (9000 * t + k))) ∧ K.Ext w w' := by
  have HFG := Z.hide (fun w' (hx : K.Ext w w') => figure_any k t g1 g2 h w' k0 (hx.cell_of c1) (hx.cell_of c2) (hx.cell_of c3))
  have HPT := Z.hide (fun w' => pointOf_any s (1000 + k, t) w' (Z.okF_s ho) (by dsimp only; omega) (by dsimp only; omega) (by dsimp only; omega) (by dsimp only; omega))
  have e1 : Z.ptS s (1000 + k, t) = Z.pN s (9000 * t + k) := by
    unfold Z.pN
    congr 1
    unfold Z.atN
    exact Prod.ext (by dsimp only; omega) (by dsimp only; omega)
  rw [e1] at HPT
  obtain ⟨p, hp⟩ : ∃ p, p = Z.pN s (9000 * t + k) := ⟨_, rfl⟩
  have HHI : Hid (Z.hits (Z.pN s) fa n (9000 * t + k) ↔ (if fa then p ≤ n else n ≤ p)) := Z.hide (by rw [hp]; exact Iff.rfl)
  rw [← hp] at HPT
  clear hp e1 c1 c2 c3
  have hg : ∀ (args : Array Value) (w' : World), (callFunc 111 args).run Tryz.prog w' = .ok (.enter 111 args) w' := by
    intro args w'; go_simp
  rcases ho with ⟨rfl, hs⟩ | ⟨rfl, rfl⟩
  · have h3 : (s == 3) = false := by rw [beq_eq_false_iff_ne]; omega
    have h3' : ¬ s = 3 := by omega
    go_enter Tryz.func114, Tryz.ntmps114
    go_wp2_with fail
    refine K.wp_region_x 5 [1, 1, 0, 2, 2] [K.SP.any, K.SP.any, K.SP.any, K.SP.is (.agg #[.int .i64 (1000 + k), .int .i64 t]), K.SP.is (.int .i64 p)] (by kernel_rfl) (by kernel_rfl) ?_
    simp only [List.take_succ_cons, List.take_zero, List.drop_succ_cons, List.drop_zero]
    iterate 2
      refine K.xh ?_
      simp only [Act.put, List.setIfInBounds_toArray, List.set]
    refine K.xp ?_
    simp only [Act.put, List.setIfInBounds_toArray, List.set]
    apply K.x_call_is
    · rfl
    · rfl
    · rfl
    · intro w'; go_simp; first | done | rfl | exact ⟨rfl, rfl⟩
    · intro w' hx hp; have hc := hx.all.1.1; have hf := hx.all.1.2; have hc' := hx.all.2.1; have hf' := hx.all.2.2; exact HFG.out _ (((K.Ext.refl _).drew).trans hx)
    intro w_3_ hx_3_
    simp only [Act.put, List.setIfInBounds_toArray, List.set]
    apply K.x_call_is
    · rfl
    · rfl
    · rfl
    · intro w'; go_simp; first | done | rfl | exact ⟨rfl, rfl⟩
    · intro w' hx hp; have hc := hx.all.1.1; have hf := hx.all.1.2; have hc' := hx.all.2.1; have hf' := hx.all.2.2; exact HPT.out _
    intro w_4_ hx_4_
    simp only [Act.put, List.setIfInBounds_toArray, List.set]
    apply K.x_done
    intro w3 h_x
    have hx3 := hx_3_.trans (hx_4_.trans h_x)
    clear h_x hx_3_ hx_4_
    obtain ⟨⟨hcw3, hfw3⟩, hc'w3, hf'w3⟩ := hx3.all
    go_wp2_with fail
    refine NoPanic.normal ?_
    have x3 : K.Ext w w3 := K.Ext.trans K.bel hx3
    have d0 := x3.cell_of cs
    have d1 := x3.cell_of cn
    go_wp2
    go_ret
    exact ⟨⟨_, rfl, by rw [HHI.out]; simp⟩, x3⟩
  · skip
    go_enter Tryz.func114, Tryz.ntmps114
    go_wp2_with fail
    refine K.wp_region_x 5 [1, 1, 0, 2, 2] [K.SP.any, K.SP.any, K.SP.any, K.SP.is (.agg #[.int .i64 (1000 + k), .int .i64 t]), K.SP.is (.int .i64 p)] (by kernel_rfl) (by kernel_rfl) ?_
    simp only [List.take_succ_cons, List.take_zero, List.drop_succ_cons, List.drop_zero]
    iterate 2
      refine K.xh ?_
      simp only [Act.put, List.setIfInBounds_toArray, List.set]
    refine K.xp ?_
    simp only [Act.put, List.setIfInBounds_toArray, List.set]
    apply K.x_call_is
    · rfl
    · rfl
    · rfl
    · intro w'; go_simp; first | done | rfl | exact ⟨rfl, rfl⟩
    · intro w' hx hp; have hc := hx.all.1.1; have hf := hx.all.1.2; have hc' := hx.all.2.1; have hf' := hx.all.2.2; exact HFG.out _ (((K.Ext.refl _).drew).trans hx)
    intro w_3_ hx_3_
    simp only [Act.put, List.setIfInBounds_toArray, List.set]
    apply K.x_call_is
    · rfl
    · rfl
    · rfl
    · intro w'; go_simp; first | done | rfl | exact ⟨rfl, rfl⟩
    · intro w' hx hp; have hc := hx.all.1.1; have hf := hx.all.1.2; have hc' := hx.all.2.1; have hf' := hx.all.2.2; exact HPT.out _
    intro w_4_ hx_4_
    simp only [Act.put, List.setIfInBounds_toArray, List.set]
    apply K.x_done
    intro w3 h_x
    have hx3 := hx_3_.trans (hx_4_.trans h_x)
    clear h_x hx_3_ hx_4_
    obtain ⟨⟨hcw3, hfw3⟩, hc'w3, hf'w3⟩ := hx3.all
    go_wp2_with fail
    refine NoPanic.normal ?_
    have x3 : K.Ext w w3 := K.Ext.trans K.bel hx3
    have d0 := x3.cell_of cs
    have d1 := x3.cell_of cn
    go_wp2
    go_ret
    exact ⟨⟨_, rfl, by rw [HHI.out]; simp⟩, x3⟩
set_option maxRecDepth 100000 in
set_option maxHeartbeats 3200000 in
/-- the first figure of a decade that hits -/
theorem first_any (fa : Bool) (s n t : Int) (gz gs gf g1 g2 h : Nat) (w : World) (ho : Z.okF fa s) (t0 : 0 ≤ t ∧ t ≤ 2) (cz : w.cell? ⟨gz, 0, none⟩ = some (.int .i64 9000))
    (cs : w.cell? ⟨gs, 0, none⟩ = some (.int .i64 s)) (cf : w.cell? ⟨gf, 0, none⟩ = some (.func (.func 111) #[] #[.pointer (some ⟨g1, 0, none⟩), .pointer (some ⟨g2, 0, none⟩)]))
    (c1 : w.cell? ⟨g1, 0, none⟩ = some (.slice (some ⟨h, 0, none⟩) 2 2)) (c2 : w.cell? ⟨g2, 0, none⟩ = some (.int .i64 t)) (c3 : w.cell? ⟨h, 0, none⟩ = some (.int .i64 1000)) :
    Calls Tryz.prog 112 #[.int .i64 n, .pointer (some ⟨gz, 0, none⟩), .pointer (some ⟨gs, 0, none⟩), .pointer (some ⟨gf, 0, none⟩)] w fun e w' => (∃ r : Nat, e = .returned (.int .i64 (r : Int)) ∧ r ≤ 9000 ∧ (r = 9000 ∨ Z.hits (Z.pN s) fa n (9000 * t + (r : Int))) ∧ (r = 0 ∨ ¬ Z.hits (Z.pN s) fa n (9000 * t + (r : Int) - 1))) ∧ K.Ext w w' := by
  have lz := World.block_lt_of_cell? w _ cz
  have ls := World.block_lt_of_cell? w _ cs
  have lf := World.block_lt_of_cell? w _ cf
  dsimp only at lz ls lf
  have n1 : ¬ (gz = w.heap.size) := by omega
  have n2 : ¬ (w.heap.size = gz) := by omega
  have hg : ∀ (args : Array Value) (w' : World), (callFunc 114 args).run Tryz.prog w' = .ok (.enter 114 args) w' := by
    intro args w'; go_simp
  have HS := Z.hide (fun (W : World) (hW : K.Ext w W) (cn : W.cell? ⟨w.heap.size, 0, none⟩ = some (.int .i64 n)) => Search3_any (fun k => Z.hitsB (Z.pN s) fa n (9000 * t + (k : Int))) 114 (.pointer (some ⟨gs, 0, none⟩)) (.pointer (some ⟨gf, 0, none⟩)) (.pointer (some ⟨w.heap.size, 0, none⟩)) 9000 W 9000 rfl (by decide) hg (fun i w' hi hx => by
    refine (hitTest_any fa s n (i : Int) t gs gf w.heap.size g1 g2 h w' ho ⟨by omega, by omega⟩ t0 (hx.cell_of (hW.cell_of cs)) (hx.cell_of (hW.cell_of cf)) (hx.cell_of cn) (hx.cell_of (hW.cell_of c1)) (hx.cell_of (hW.cell_of c2)) (hx.cell_of (hW.cell_of c3))).mono ?_
    rintro e w'' ⟨⟨b, he, hb⟩, hx'⟩
    refine ⟨?_, hx'⟩
    rw [he]
    have : b = Z.hitsB (Z.pN s) fa n (9000 * t + (i : Int)) := by
      have h2 := Z.hitsB_iff (Z.pN s) fa n (9000 * t + (i : Int))
      cases b <;> cases hq : Z.hitsB (Z.pN s) fa n (9000 * t + (i : Int)) <;> simp_all
    rw [this]))
  have HF := Z.hide (fun m => Z.hitsB_iff (Z.pN s) fa n m)
  generalize Z.pN s = P at *
  clear cs cf c1 c2 c3 ho hg
  go_enter Tryz.func112, Tryz.ntmps112
  go_wp2_with fail
  refine K.cal (HS.out _ ((K.Ext.refl w).alloc _) (K.cell_at (K.block_new rfl) rfl)) ?_
  rintro e w1 ⟨⟨r, rfl, r1, r2, r3⟩, f1⟩
  have HR : Hid (r ≤ 9000 ∧ (r = 9000 ∨ Z.hits P fa n (9000 * t + (r : Int))) ∧ (r = 0 ∨ ¬ Z.hits P fa n (9000 * t + (r : Int) - 1))) := Z.hide ⟨r1, r2.imp id (fun h => (HF.out _).1 h), by
    rcases r3 with r3 | r3
    · exact .inl r3
    · by_cases h0 : r = 0
      · exact .inl h0
      · right
        intro h
        have e1 : 9000 * t + (r : Int) - 1 = 9000 * t + ((r - 1 : Nat) : Int) := by omega
        rw [e1, ← HF.out] at h
        rw [h] at r3; cases r3⟩
  have x1 : K.Ext w w1 := ((K.Ext.refl w).alloc _).trans f1
  clear r1 r2 r3
  go_wp2
  go_ret
  exact ⟨⟨r, rfl, HR.out⟩, x1⟩
end Go.Proofs.YtimpcelbekhipaaGreat
end
section
namespace Go.Z
/-- what a try leaves: the least difference and the figure -/
def tryS (t p : Int) (f : Int × Int) (o : Int × (Int × Int)) : Int × (Int × Int) :=
  if o.1 < 0 ∨ ab (p - t) < o.1 ∨ (ab (p - t) = o.1 ∧ (f.2 < o.2.2 ∨ (f.2 = o.2.2 ∧ f.1 < o.2.1))) then (ab (p - t), f) else o
end Go.Z
namespace Go.Proofs.YtimpcelbekhipaaGreat
open Go.RowKit
set_option maxRecDepth 100000 in
set_option maxHeartbeats 3200000 in
theorem try_any (s t p : Int) (f : Int × Int) (o : Int × (Int × Int)) (gs gt gl gb lo hi : Nat) (w : World) (hs : s = 0 ∨ s = 1 ∨ s = 2 ∨ s = 3) (h1 : 1000 ≤ f.1) (h2 : f.1 ≤ 9999) (h3 : -100 ≤ f.2) (h4 : f.2 ≤ 100)
    (hp : Z.ptS s f = p) (pb : -20 ≤ p ∧ p ≤ 1048600) (tb : -1000000000 ≤ t ∧ t ≤ 1000000000)
    (cs : w.cell? ⟨gs, 0, none⟩ = some (.int .i64 s)) (ct : w.cell? ⟨gt, 0, none⟩ = some (.int .i64 t)) (cl : w.heap[gl]? = some (.cells #[.int .i64 o.1] 2)) (cb : w.heap[gb]? = some (.cells #[.int .i64 o.2.1, .int .i64 o.2.2] 32))
    (ne : gl ≠ gb) (ol : lo ≤ gl ∧ gl < hi) (ob : lo ≤ gb ∧ gb < hi) :
    Calls Tryz.prog 107 #[.agg #[.int .i64 f.1, .int .i64 f.2], .pointer (some ⟨gs, 0, none⟩), .pointer (some ⟨gt, 0, none⟩), .pointer (some ⟨gl, 0, none⟩), .pointer (some ⟨gb, 0, none⟩)] w fun e w' => e = .returned (.tuple #[]) ∧ (w'.heap[gl]? = some (.cells #[.int .i64 (Z.tryS t p f o).1] 2) ∧ w'.heap[gb]? = some (.cells #[.int .i64 (Z.tryS t p f o).2.1, .int .i64 (Z.tryS t p f o).2.2] 32)) ∧ K.Far lo hi w w' := by
  obtain ⟨L, b1, b2⟩ := o
  dsimp only at cl cb
  have HPT : Hid (∀ w', Calls Tryz.prog 84 #[.int .i64 s, .agg #[.int .i64 f.1, .int .i64 f.2]] w' fun e w'' => e = .returned (.int .i64 p) ∧ K.Ext w' w'') := Z.hide (fun w' => by have h_ := pointOf_any s f w' hs h1 h2 h3 h4; rwa [hp] at h_)
  have HDI := Z.hide (fun w' => distance_any p t w' ⟨by omega, by omega⟩ tb)
  have HTR : Hid (Z.tryS t p f (L, b1, b2) = if L < 0 ∨ Z.ab (p - t) < L ∨ (Z.ab (p - t) = L ∧ (f.2 < b2 ∨ (f.2 = b2 ∧ f.1 < b1))) then (Z.ab (p - t), f) else (L, b1, b2)) := Z.hide rfl
  have HCF := Z.hide (fun w' => compareFigures_any f (b1, b2) w')
  obtain ⟨R, hR⟩ : ∃ R, Z.tryS t p f (L, b1, b2) = R := ⟨_, rfl⟩
  rw [hR] at HTR ⊢
  obtain ⟨d, hd⟩ : ∃ d, Z.ab (p - t) = d := ⟨_, rfl⟩
  rw [hd] at HTR HDI
  clear hp hd hR
  have HCL := Z.hide cl
  have HCB := Z.hide cb
  have ll : gl < w.heap.size := (Array.getElem?_eq_some_iff.1 cl).1
  have lb : gb < w.heap.size := (Array.getElem?_eq_some_iff.1 cb).1
  have ls := World.block_lt_of_cell? w _ cs
  have lt := World.block_lt_of_cell? w _ ct
  dsimp only at ls lt
  have n1 : ¬ (gl = w.heap.size) := by omega
  have n2 : ¬ (w.heap.size = gl) := by omega
  have n3 : ¬ (gb = w.heap.size) := by omega
  have n4 : ¬ (w.heap.size = gb) := by omega
  have n5 : ¬ (gs = w.heap.size) := by omega
  have n6 : ¬ (w.heap.size = gs) := by omega
  have n7 : ¬ (gt = w.heap.size) := by omega
  have n8 : ¬ (w.heap.size = gt) := by omega
  have n9 : ¬ (gl = gb) := ne
  have n10 : ¬ (gb = gl) := fun e => ne e.symm
  clear cl cb
  obtain ⟨b1_c0, b1_f0⟩ := K.bk1 (w := w) (gl) (.int .i64 (L)) (HCL.out)
  obtain ⟨b2_c0, b2_c1, b2_f0, b2_f1⟩ := K.bk2 (w := w) (gb) (.int .i64 (b1)) (.int .i64 (b2)) (HCB.out)
  go_enter Tryz.func107, Tryz.ntmps107
  go_wp2_with fail
  refine K.wp_region_x 5 [1, 1, 2, 1, 2] [K.SP.any, K.SP.any, K.SP.is (.int .i64 p), K.SP.any, K.SP.is (.int .i64 d)] (by kernel_rfl) (by kernel_rfl) ?_
  simp only [List.take_succ_cons, List.take_zero, List.drop_succ_cons, List.drop_zero]
  iterate 2
    refine K.xh ?_
    simp only [Act.put, List.setIfInBounds_toArray, List.set]
  apply K.x_call_is
  · rfl
  · rfl
  · rfl
  · intro w'; go_simp; first | done | rfl | exact ⟨rfl, rfl⟩
  · intro w' hx hp; have hc := hx.all.1.1; have hf := hx.all.1.2; have hc' := hx.all.2.1; have hf' := hx.all.2.2; exact HPT.out _
  intro w_2_ hx_2_
  simp only [Act.put, List.setIfInBounds_toArray, List.set]
  refine K.xh ?_
  simp only [Act.put, List.setIfInBounds_toArray, List.set]
  apply K.x_call_is
  · rfl
  · rfl
  · rfl
  · intro w'; go_simp; first | done | rfl | exact ⟨rfl, rfl⟩
  · intro w' hx hp; have hc := hx.all.1.1; have hf := hx.all.1.2; have hc' := hx.all.2.1; have hf' := hx.all.2.2; exact K.same_ext (HDI.out _)
  intro w_4_ hx_4_
  simp only [Act.put, List.setIfInBounds_toArray, List.set]
  apply K.x_done
  intro w3 h_x
  have hx3 := hx_2_.trans (hx_4_.trans h_x)
  clear h_x hx_2_ hx_4_
  obtain ⟨⟨hcw3, hfw3⟩, hc'w3, hf'w3⟩ := hx3.all
  go_wp2_with fail
  refine NoPanic.normal ?_
  have x3 : K.Ext w w3 := K.Ext.trans K.bel hx3
  have B3 := Z.hide (x3.block HCL.out)
  have B4 := Z.hide (x3.block HCB.out)
  have F5 : w3.heap[w.heap.size]? = some (.cells #[.int .i64 f.1, .int .i64 f.2] 32) := hx3.block (K.block_new rfl)
  have B5 := Z.hide F5
  clear F5
  have ll3 : gl < w3.heap.size := (Array.getElem?_eq_some_iff.1 B3.out).1
  have lb3 : gb < w3.heap.size := (Array.getElem?_eq_some_iff.1 B4.out).1
  obtain ⟨b3_c0, b3_f0⟩ := K.bk1 (w := w3) (gl) (.int .i64 (L)) (B3.out)
  obtain ⟨b4_c0, b4_c1, b4_f0, b4_f1⟩ := K.bk2 (w := w3) (gb) (.int .i64 (b1)) (.int .i64 (b2)) (B4.out)
  obtain ⟨b5_c0, b5_c1, b5_f0, b5_f1⟩ := K.bk2 (w := w3) (w.heap.size) (.int .i64 (f.1)) (.int .i64 (f.2)) (B5.out)
  by_cases c1 : L < 0
  · have HE : Hid (R = (d, f)) := Z.hide (by rw [HTR.out, if_pos (.inl c1)])
    clear HTR
    go_wp2
    (try simp only [Exit.inBlock, Exit.then]); refine bodyPost_end (results_none rfl _ _ _) rfl ?_
    rw [HE.out]
    refine ⟨rfl, ⟨?_, ?_⟩, ?_⟩
    · exact Joins.block_setCell ((K.set_block (by dsimp only; omega)).trans ((K.set_block (by dsimp only; omega)).trans B3.out)) _
    · exact (K.set_block (by dsimp only; omega)).trans (Joins.block_setCell (Joins.block_setCell B4.out _) _)
    · exact (((K.Far.of_ext x3).setCell ob.1 ob.2 _).setCell ob.1 ob.2 _).setCell ol.1 ol.2 _
  by_cases c2 : d < L
  · have HE : Hid (R = (d, f)) := Z.hide (by rw [HTR.out, if_pos (.inr (.inl c2))])
    clear HTR
    go_wp2
    (try simp only [Exit.inBlock, Exit.then]); refine bodyPost_end (results_none rfl _ _ _) rfl ?_
    rw [HE.out]
    refine ⟨rfl, ⟨?_, ?_⟩, ?_⟩
    · exact Joins.block_setCell ((K.set_block (by dsimp only; omega)).trans ((K.set_block (by dsimp only; omega)).trans B3.out)) _
    · exact (K.set_block (by dsimp only; omega)).trans (Joins.block_setCell (Joins.block_setCell B4.out _) _)
    · exact (((K.Far.of_ext x3).setCell ob.1 ob.2 _).setCell ob.1 ob.2 _).setCell ol.1 ol.2 _
  by_cases c3 : d = L
  · subst c3
    have HTQ : Hid ((f.2 < b2 ∨ (f.2 = b2 ∧ f.1 < b1)) → R = (d, f)) := Z.hide (fun h => by rw [HTR.out, if_pos (.inr (.inr ⟨rfl, h⟩))])
    have HTN : Hid (¬ (f.2 < b2 ∨ (f.2 = b2 ∧ f.1 < b1)) → R = (d, b1, b2)) := Z.hide (fun h => by rw [HTR.out, if_neg (by omega)])
    clear HTR
    go_wp2_with (go_at_call 108; refine K.cal (HCF.out _) ?_; rintro e w4 ⟨⟨r, rfl, hr⟩, f4⟩; have HRR := Z.hide hr; clear hr; have x4 : K.Ext w w4 := x3.trans f4; have D3 := Z.hide (f4.block B3.out); have D4 := Z.hide (f4.block B4.out); have D5 := Z.hide (f4.block B5.out); have ll4 : gl < w4.heap.size := (Array.getElem?_eq_some_iff.1 D3.out).1; have lb4 : gb < w4.heap.size := (Array.getElem?_eq_some_iff.1 D4.out).1; obtain ⟨b6_c0, b6_f0⟩ := K.bk1 (w := w4) (gl) (.int .i64 (d)) (D3.out); obtain ⟨b7_c0, b7_c1, b7_f0, b7_f1⟩ := K.bk2 (w := w4) (gb) (.int .i64 (b1)) (.int .i64 (b2)) (D4.out); obtain ⟨b8_c0, b8_c1, b8_f0, b8_f1⟩ := K.bk2 (w := w4) (w.heap.size) (.int .i64 (f.1)) (.int .i64 (f.2)) (D5.out); by_cases c4 : r < 0)
    · have HE : Hid (R = (d, f)) := Z.hide (HTQ.out (HRR.out.1 c4))
      (try simp only [Exit.inBlock, Exit.then]); refine bodyPost_end (results_none rfl _ _ _) rfl ?_
      rw [HE.out]
      refine ⟨rfl, ⟨?_, ?_⟩, ?_⟩
      · exact Joins.block_setCell ((K.set_block (by dsimp only; omega)).trans ((K.set_block (by dsimp only; omega)).trans D3.out)) _
      · exact (K.set_block (by dsimp only; omega)).trans (Joins.block_setCell (Joins.block_setCell D4.out _) _)
      · exact (((K.Far.of_ext x4).setCell ob.1 ob.2 _).setCell ob.1 ob.2 _).setCell ol.1 ol.2 _
    · have HE : Hid (R = (d, b1, b2)) := Z.hide (HTN.out (fun h => by have := HRR.out.2 h; omega))
      (try simp only [Exit.inBlock, Exit.then]); refine bodyPost_end (results_none rfl _ _ _) rfl ?_
      rw [HE.out]
      exact ⟨rfl, ⟨D3.out, D4.out⟩, K.Far.of_ext x4⟩
  · have HE : Hid (R = (L, b1, b2)) := Z.hide (by rw [HTR.out, if_neg (by omega)])
    have c3' : (d == L) = false := by simpa using c3
    clear HTR
    go_wp2
    (try simp only [Exit.inBlock, Exit.then]); refine bodyPost_end (results_none rfl _ _ _) rfl ?_
    rw [HE.out]
    refine ⟨rfl, ⟨?_, ?_⟩, ?_⟩
    · exact B3.out
    · exact B4.out
    · exact K.Far.of_ext x3
end Go.Proofs.YtimpcelbekhipaaGreat
end
section
namespace Go.Z
theorem ab_nn (x : Int) : 0 ≤ ab x := by unfold ab; omega
/-- what is kept is the nearest of a set -/
def GoodS (P : Int → Int) (t : Int) (S : Int → Prop) (o : Int × (Int × Int)) : Prop :=
  ((∀ m, ¬ S m) ∧ o = (-1, (0, 0))) ∨ ∃ n, S n ∧ (∀ m, S m → nearer P t n m) ∧ o = (ab (P n - t), atN n)
theorem atN_lex (n m : Int) : ((atN n).2 < (atN m).2 ∨ ((atN n).2 = (atN m).2 ∧ (atN n).1 < (atN m).1)) ↔ n < m := by unfold atN; dsimp only; omega
theorem good_try {P : Int → Int} {t : Int} {S : Int → Prop} {o : Int × (Int × Int)} (h : GoodS P t S o) (j : Int) : GoodS P t (fun m => S m ∨ m = j) (tryS t (P j) (atN j) o) := by
  rcases h with ⟨he, rfl⟩ | ⟨n, hn, hb, rfl⟩
  · refine .inr ⟨j, .inr rfl, ?_, ?_⟩
    · rintro m (hm | rfl)
      · exact absurd hm (he m)
      · exact nearer_refl _ _ _
    · unfold tryS; rw [if_pos (.inl (by decide))]
  · have e1 := ab_nn (P n - t)
    have e2 := ab_nn (P j - t)
    by_cases c : nearer P t n j
    · refine .inr ⟨n, .inl hn, ?_, ?_⟩
      · rintro m (hm | rfl)
        · exact hb m hm
        · exact c
      · unfold tryS
        unfold nearer at c
        rw [ab2_ab, ab2_ab] at c
        rw [if_neg]
        rw [atN_lex]
        dsimp only; omega
    · have c2 := (nearer_total P t n j).resolve_left c
      refine .inr ⟨j, .inr rfl, ?_, ?_⟩
      · rintro m (hm | rfl)
        · exact nearer_trans c2 (hb m hm)
        · exact nearer_refl _ _ _
      · unfold tryS
        unfold nearer at c
        rw [ab2_ab, ab2_ab] at c
        rw [if_pos]
        rw [atN_lex]
        dsimp only; omega
theorem good_grow {P : Int → Int} {t : Int} {S T : Int → Prop} {o : Int × (Int × Int)} (h : GoodS P t S o) (h1 : ∀ m, S m → T m) (h2 : ∀ m, T m → ∃ k, S k ∧ nearer P t k m) : GoodS P t T o := by
  rcases h with ⟨he, rfl⟩ | ⟨n, hn, hb, rfl⟩
  · exact .inl ⟨fun m hm => by obtain ⟨k, hk, _⟩ := h2 m hm; exact he k hk, rfl⟩
  · exact .inr ⟨n, h1 n hn, fun m hm => by obtain ⟨k, hk, hq⟩ := h2 m hm; exact nearer_trans (hb k hk) hq, rfl⟩
/-- the two around the first that hits, within a part -/
theorem two_in {P : Int → Int} {fa : Bool} {t N lo hi : Int} (h : monoP P fa N) (l0 : 0 ≤ lo) (l1 : hi ≤ N) {b : Int} (h1 : lo ≤ b) (h2 : b ≤ hi) (h3 : b = lo ∨ ¬ hits P fa t (b - 1)) (h4 : b = hi ∨ hits P fa t b) (m : Int) (m1 : lo ≤ m) (m2 : m < hi) :
    (m < b ∧ nearer P t (b - 1) m) ∨ (b ≤ m ∧ nearer P t b m) := by
  have g3 : ∀ j, lo ≤ j → j < b → ¬ hits P fa t j := fun j a c hj => by
    rcases h3 with h3 | h3
    · omega
    · exact h3 (hits_mono h (by omega) (by omega) (by omega) hj)
  have g4 : ∀ j, b ≤ j → j < hi → hits P fa t j := fun j a c => by
    rcases h4 with h4 | h4
    · omega
    · exact hits_mono h (by omega) a (by omega) h4
  rcases h with ⟨rfl, h⟩ | ⟨rfl, h⟩
  · exact two_rise (lo := lo) (hi := hi) (fun i j a b c => h i j (by omega) b (by omega)) h1 h2 (fun j a c => by have := g3 j a c; unfold hits at this; simp at this; exact this) (fun j a c => by have := g4 j a c; unfold hits at this; simpa using this) m m1 m2
  · exact two_fall (lo := lo) (hi := hi) (fun i j a b c => h i j (by omega) b (by omega)) h1 h2 (fun j a c => by have := g3 j a c; unfold hits at this; simp at this; exact this) (fun j a c => by have := g4 j a c; unfold hits at this; simpa using this) m m1 m2
/-- the numbers below -/
def belowN (N : Int) : Int → Prop := fun m => 0 ≤ m ∧ m < N
/-- a decade more -/
theorem good_decade {P : Int → Int} {fa : Bool} {t N : Int} (h : monoP P fa N) {k r : Int} (k0 : 0 ≤ k) (kN : 9000 * (k + 1) ≤ N) (r0 : 0 ≤ r) (r1 : r ≤ 9000) (h4 : r = 9000 ∨ hits P fa t (9000 * k + r)) (h3 : r = 0 ∨ ¬ hits P fa t (9000 * k + r - 1))
    {S : Int → Prop} {o : Int × (Int × Int)} (g : GoodS P t S o) (s1 : ∀ m, S m → belowN (9000 * (k + 1)) m) (s2 : ∀ m, belowN (9000 * k) m → S m) (s3 : r < 9000 → S (9000 * k + r)) (s4 : 0 < r → S (9000 * k + r - 1)) : GoodS P t (belowN (9000 * (k + 1))) o := by
  refine good_grow g s1 ?_
  rintro m ⟨m1, m2⟩
  by_cases c : m < 9000 * k
  · exact ⟨m, s2 m ⟨m1, c⟩, nearer_refl _ _ _⟩
  · rcases two_in (lo := 9000 * k) (hi := 9000 * (k + 1)) h (by omega) kN (b := 9000 * k + r) (by omega) (by omega) (h3.imp (fun e => by omega) id) (h4.imp (fun e => by omega) id) m (by omega) m2 with ⟨c1, c2⟩ | ⟨c1, c2⟩
    · exact ⟨_, s4 (by omega), c2⟩
    · exact ⟨_, s3 (by omega), c2⟩
theorem hits_at {P : Int → Int} {fa : Bool} {N : Int} (h : monoP P fa N) {i j : Int} (i0 : 0 ≤ i) (i1 : i < N) (j0 : 0 ≤ j) (j1 : j < N) : hits P fa (P j) i ↔ j ≤ i := by
  rcases h with ⟨rfl, h⟩ | ⟨rfl, h⟩
  · unfold hits; simp only [Bool.false_eq_true, if_false]
    by_cases c : i < j
    · have := h i j i0 c j1; omega
    · by_cases d : j < i
      · have := h j i j0 d i1; omega
      · have : i = j := by omega
        subst this; omega
  · unfold hits; simp only [if_true]
    by_cases c : i < j
    · have := h i j i0 c j1; omega
    · by_cases d : j < i
      · have := h j i j0 d i1; omega
      · have : i = j := by omega
        subst this; omega
theorem first_eq {P : Int → Int} {fa : Bool} {N : Int} (h : monoP P fa N) {k j r : Int} (k0 : 0 ≤ k) (kN : 9000 * (k + 1) ≤ N) (j0 : 0 ≤ j) (j1 : j < 9000) (r0 : 0 ≤ r) (r1 : r ≤ 9000) (h4 : r = 9000 ∨ hits P fa (P (9000 * k + j)) (9000 * k + r)) (h3 : r = 0 ∨ ¬ hits P fa (P (9000 * k + j)) (9000 * k + r - 1)) : r = j := by
  by_cases c : r < j
  · have := (hits_at h (i := 9000 * k + r) (j := 9000 * k + j) (by omega) (by omega) (by omega) (by omega)).1 (h4.resolve_left (by omega))
    omega
  · by_cases d : j < r
    · exact absurd ((hits_at h (i := 9000 * k + r - 1) (j := 9000 * k + j) (by omega) (by omega) (by omega) (by omega)).2 (by omega)) (h3.resolve_left (by omega))
    · omega
theorem good_best {P : Int → Int} {t N : Int} {o : Int × (Int × Int)} (hN : 0 < N) (g : GoodS P t (belowN N) o) : ∃ n, IsBest P t 0 N n ∧ o.2 = atN n := by
  rcases g with ⟨he, _⟩ | ⟨n, hn, hb, rfl⟩
  · exact absurd ⟨Int.le_refl _, hN⟩ (he 0)
  · exact ⟨n, ⟨hn.1, hn.2, fun m a b => hb m ⟨a, b⟩⟩, rfl⟩
theorem atN_decade (k r : Int) (r0 : 0 ≤ r) (r1 : r < 9000) : atN (9000 * k + r) = (1000 + r, k) := by
  unfold atN; exact Prod.ext (by dsimp only; omega) (by dsimp only; omega)
end Go.Z
namespace Go.Proofs.YtimpcelbekhipaaGreat
open Go.RowKit
/-- the state of the tries: the scale, the target, the result and what is kept -/
def RdSt (P : Int → Int) (s t : Int) (S : Int → Prop) (w wr : World) : Prop :=
  ∃ o : Int × (Int × Int), wr.heap[w.heap.size]? = some (.cells #[.int .i64 s] 2) ∧ wr.heap[w.heap.size + 1]? = some (.cells #[.int .i64 t] 2) ∧ wr.heap[w.heap.size + 2]? = some (.cells #[.int .i64 0, .int .i64 0] 32) ∧ wr.heap[w.heap.size + 3]? = some (.cells #[.int .i64 o.2.1, .int .i64 o.2.2] 32) ∧ wr.heap[w.heap.size + 4]? = some (.cells #[.int .i64 o.1] 2) ∧ K.Ext w wr ∧ Z.GoodS P t S o
theorem RdSt.ext {P : Int → Int} {s t : Int} {S : Int → Prop} {w wr w' : World} (h : RdSt P s t S w wr) (x : K.Ext wr w') : RdSt P s t S w w' := by
  obtain ⟨o, a, b, c, d, e, f, g⟩ := h
  exact ⟨o, x.block a, x.block b, x.block c, x.block d, x.block e, f.trans x, g⟩
theorem RdSt.b0 {P : Int → Int} {s t : Int} {S : Int → Prop} {w wr : World} (h : RdSt P s t S w wr) : wr.heap[w.heap.size]? = some (.cells #[.int .i64 s] 2) := by obtain ⟨o, a, _⟩ := h; exact a
theorem RdSt.b1 {P : Int → Int} {s t : Int} {S : Int → Prop} {w wr : World} (h : RdSt P s t S w wr) : wr.heap[w.heap.size + 1]? = some (.cells #[.int .i64 t] 2) := by obtain ⟨o, _, a, _⟩ := h; exact a
theorem RdSt.lt {P : Int → Int} {s t : Int} {S : Int → Prop} {w wr : World} (h : RdSt P s t S w wr) : w.heap.size + 4 < wr.heap.size := by obtain ⟨o, _, _, _, _, a, _⟩ := h; exact (Array.getElem?_eq_some_iff.1 a).1
theorem RdSt.decade {P : Int → Int} {s t : Int} {S : Int → Prop} {w wr : World} (st : RdSt P s t S w wr) {fa : Bool} {N : Int} (h : Z.monoP P fa N) {k r : Int} (k0 : 0 ≤ k) (kN : 9000 * (k + 1) ≤ N) (r0 : 0 ≤ r) (r1 : r ≤ 9000) (h4 : r = 9000 ∨ Z.hits P fa t (9000 * k + r)) (h3 : r = 0 ∨ ¬ Z.hits P fa t (9000 * k + r - 1))
    (s1 : ∀ m, S m → 0 ≤ m ∧ m < 9000 * (k + 1)) (s2 : ∀ m, 0 ≤ m ∧ m < 9000 * k → S m) (s3 : r < 9000 → S (9000 * k + r)) (s4 : 0 < r → S (9000 * k + r - 1)) : RdSt P s t (Z.belowN (9000 * (k + 1))) w wr := by
  obtain ⟨o, a, b, c, d, e, f, g⟩ := st
  exact ⟨o, a, b, c, d, e, f, Z.good_decade h k0 kN r0 r1 h4 h3 g s1 s2 s3 s4⟩
theorem try_st (fa : Bool) (s t k r : Int) (S : Int → Prop) (w wr : World) (ho : Z.okF fa s) (k0 : 0 ≤ k ∧ k ≤ 2) (r0 : 0 ≤ r ∧ r < 9000) (tb : -1000000000 ≤ t ∧ t ≤ 1000000000) (h : RdSt (Z.pN s) s t S w wr) :
    Calls Tryz.prog 107 #[.agg #[.int .i64 (1000 + r), .int .i64 k], .pointer (some ⟨w.heap.size, 0, none⟩), .pointer (some ⟨w.heap.size + 1, 0, none⟩), .pointer (some ⟨w.heap.size + 4, 0, none⟩), .pointer (some ⟨w.heap.size + 3, 0, none⟩)] wr fun e w' => e = .returned (.tuple #[]) ∧ RdSt (Z.pN s) s t (fun m => S m ∨ m = 9000 * k + r) w w' ∧ K.Far (w.heap.size + 3) (w.heap.size + 5) wr w' := by
  obtain ⟨o, a, b, c, d, e, f, g⟩ := h
  have hp : Z.ptS s (1000 + r, k) = Z.pN s (9000 * k + r) := by unfold Z.pN; rw [Z.atN_decade k r r0.1 r0.2]
  refine (try_any s t (Z.pN s (9000 * k + r)) (1000 + r, k) o w.heap.size (w.heap.size + 1) (w.heap.size + 4) (w.heap.size + 3) (w.heap.size + 3) (w.heap.size + 5) wr (Z.okF_s ho) (by dsimp only; omega) (by dsimp only; omega) (by dsimp only; omega) (by dsimp only; omega) hp (Z.pN_bd (Z.okF_s ho)) tb (K.cell_at a rfl) (K.cell_at b rfl) e d (by omega) (by omega) (by omega)).mono ?_
  rintro ex w' ⟨he, ⟨hl, hb⟩, hf⟩
  have q : ∀ i ob, i < 3 → wr.heap[w.heap.size + i]? = some ob → w'.heap[w.heap.size + i]? = some ob := fun i ob hi hk => by
    rw [hf.block _ (Array.getElem?_eq_some_iff.1 hk).1 (.inl (by omega))]; exact hk
  have gt := Z.good_try g (9000 * k + r)
  rw [Z.atN_decade k r r0.1 r0.2] at gt
  exact ⟨he, ⟨_, q 0 _ (by omega) a, q 1 _ (by omega) b, q 2 _ (by omega) c, hb, hl, hf.ext f (by omega), gt⟩, hf⟩
/-- the new variables of a decade -/
def RdEnv (k : Int) (gz gf g1 g2 h : Nat) (W : World) : Prop :=
  W.heap[gz]? = some (.cells #[.int .i64 9000] 3) ∧ (∃ T, W.heap[gf]? = some (.cells #[.func (.func 111) #[] #[.pointer (some ⟨g1, 0, none⟩), .pointer (some ⟨g2, 0, none⟩)]] T)) ∧ W.heap[g1]? = some (.cells #[.slice (some ⟨h, 0, none⟩) 2 2] 22) ∧ W.heap[g2]? = some (.cells #[.int .i64 k] 2) ∧ W.heap[h]? = some (.cells #[.int .i64 1000, .int .i64 9999] 2)
theorem RdEnv.ext {k : Int} {gz gf g1 g2 h : Nat} {W W' : World} (e : RdEnv k gz gf g1 g2 h W) (x : K.Ext W W') : RdEnv k gz gf g1 g2 h W' := by
  obtain ⟨a, ⟨T, b⟩, c, d, f⟩ := e
  exact ⟨x.block a, ⟨T, x.block b⟩, x.block c, x.block d, x.block f⟩
theorem RdEnv.far {k : Int} {gz gf g1 g2 h lo hi : Nat} {W W' : World} (e : RdEnv k gz gf g1 g2 h W) (x : K.Far lo hi W W') (hz : hi ≤ gz) (hf : hi ≤ gf) (h1 : hi ≤ g1) (h2 : hi ≤ g2) (hh : hi ≤ h) : RdEnv k gz gf g1 g2 h W' := by
  obtain ⟨a, ⟨T, b⟩, c, d, f⟩ := e
  have q : ∀ i ob, hi ≤ i → W.heap[i]? = some ob → W'.heap[i]? = some ob := fun i ob hi hk => by
    rw [x.block _ (Array.getElem?_eq_some_iff.1 hk).1 (.inr hi)]; exact hk
  exact ⟨q _ _ hz a, ⟨T, q _ _ hf b⟩, q _ _ h1 c, q _ _ h2 d, q _ _ hh f⟩
theorem figure_env {k : Int} {gz gf g1 g2 h : Nat} {W : World} (e : RdEnv k gz gf g1 g2 h W) (i : Int) (i0 : 0 ≤ i ∧ i < 9000) :
    Calls Tryz.prog 111 #[.int .i64 i, .pointer (some ⟨g1, 0, none⟩), .pointer (some ⟨g2, 0, none⟩)] W fun e w' => e = .returned (.agg #[.int .i64 (1000 + i), .int .i64 k]) ∧ K.Ext W w' := by
  obtain ⟨a, ⟨T, b⟩, c, d, f⟩ := e
  exact figure_any i k g1 g2 h W ⟨i0.1, by omega⟩ (K.cell_at c rfl) (K.cell_at d rfl) (K.cell_at f rfl)
theorem first_env (fa : Bool) {s t k : Int} {S : Int → Prop} {gz gf g1 g2 h : Nat} {w W : World} (ho : Z.okF fa s) (k0 : 0 ≤ k ∧ k ≤ 2) (st : RdSt (Z.pN s) s t S w W) (e : RdEnv k gz gf g1 g2 h W) (n : Int) :
    Calls Tryz.prog 112 #[.int .i64 n, .pointer (some ⟨gz, 0, none⟩), .pointer (some ⟨w.heap.size, 0, none⟩), .pointer (some ⟨gf, 0, none⟩)] W fun e w' => (∃ r : Nat, e = .returned (.int .i64 (r : Int)) ∧ r ≤ 9000 ∧ (r = 9000 ∨ Z.hits (Z.pN s) fa n (9000 * k + (r : Int))) ∧ (r = 0 ∨ ¬ Z.hits (Z.pN s) fa n (9000 * k + (r : Int) - 1))) ∧ K.Ext W w' := by
  obtain ⟨a, ⟨T, b⟩, c, d, f⟩ := e
  exact first_any fa s n k gz w.heap.size gf g1 g2 h W ho k0 (K.cell_at a rfl) (K.cell_at st.b0 rfl) (K.cell_at b rfl) (K.cell_at c rfl) (K.cell_at d rfl) (K.cell_at f rfl)
end Go.Proofs.YtimpcelbekhipaaGreat
end
section
namespace Go.Proofs.YtimpcelbekhipaaGreat
open Go.RowKit
set_option maxRecDepth 100000 in
set_option maxHeartbeats 12800000 in
theorem readAt_any (fa : Bool) (s t : Int) (w : World) (ho : Z.okF fa s) (t0 : -10000000 ≤ t) (t1 : t ≤ 10000000) :
    Calls Tryz.prog 83 #[.int .i64 s, .int .i64 t] w fun e w' => (∃ n : Int, e = .returned (.agg #[.int .i64 (Z.atN n).1, .int .i64 (Z.atN n).2]) ∧ Z.IsBest (Z.pN s) t 0 (9000 * Z.decS s) n) ∧ K.Ext w w' := by
  have hmo := Z.hide (Z.pN_mono ho)
  have HTRY := Z.hide (fun k r S wr k0 r0 h => try_st fa s t k r S w wr ho k0 r0 ⟨by omega, by omega⟩ h)
  have HFIRST := Z.hide (fun (k : Int) (S : Int → Prop) (gz gf g1 g2 h : Nat) (W : World) k0 (st : RdSt (Z.pN s) s t S w W) (e : RdEnv k gz gf g1 g2 h W) n => first_env fa ho k0 st e n)
  have HPT : Hid (∀ (k r : Int) (W : World), 0 ≤ k ∧ k ≤ 2 → 0 ≤ r ∧ r < 9000 → Calls Tryz.prog 84 #[.int .i64 s, .agg #[.int .i64 (1000 + r), .int .i64 k]] W fun e w'' => e = .returned (.int .i64 (Z.pN s (9000 * k + r))) ∧ K.Ext W w'') := Z.hide (fun k r W k0 r0 => by
    have h_ := pointOf_any s (1000 + r, k) W (Z.okF_s ho) (by dsimp only; omega) (by dsimp only; omega) (by dsimp only; omega) (by dsimp only; omega)
    have e1 : Z.ptS s (1000 + r, k) = Z.pN s (9000 * k + r) := by unfold Z.pN; rw [Z.atN_decade k r r0.1 r0.2]
    rwa [e1] at h_)
  have HDEC := Z.hide (fun W => decadesOf_any s W (Z.okF_s ho))
  have HSEG := Z.hide (fun W => segments_any s W (by have := Z.okF_s ho; omega))
  have hd := Z.decS_bd s
  obtain ⟨D, hD⟩ : ∃ D, D = Z.decS s := ⟨_, rfl⟩
  rw [← hD] at hmo HDEC hd ⊢
  obtain ⟨P, hP⟩ : ∃ P, P = Z.pN s := ⟨_, rfl⟩
  rw [← hP] at hmo HTRY HFIRST HPT ⊢
  clear hP hD ho
  have hmf : ∀ (fn : Fn) (first cap : Array Value) (w : World), (Instr.makeFunc fn first cap).run Tryz.prog w = .ok (.func fn first cap) w := fun _ _ _ _ => rfl
  have hsf := fun (a : Addr) (fn : Fn) (x y : Array Value) (W : World) (m : Mode) => run_store Tryz.prog W a (.func fn x y) m rfl
  have hg1 : ∀ (args : Array Value) (w' : World), (callFunc 107 args).run Tryz.prog w' = .ok (.enter 107 args) w' := by
    intro args w'; go_simp
  have hg2 : ∀ (args : Array Value) (w' : World), (callFunc 111 args).run Tryz.prog w' = .ok (.enter 111 args) w' := by
    intro args w'; go_simp
  have hg3 : ∀ (args : Array Value) (w' : World), (callFunc 112 args).run Tryz.prog w' = .ok (.enter 112 args) w' := by
    intro args w'; go_simp
  go_enter Tryz.func83, Tryz.ntmps83
  go_wp2_with fail
  refine K.cal (HDEC.out _) ?_
  rintro e w1 ⟨rfl, f1⟩
  have z1 := f1.size
  (try simp at z1)
  have ST1 := Z.hide (show RdSt P s t (Z.belowN (9000 * ((0 : Nat) : Int))) w w1 from ⟨(-1, (0, 0)), f1.block (((((K.Ext.refl _).alloc _).alloc _).alloc _).alloc _ |>.block (K.block_new rfl)), f1.block ((((K.Ext.refl _).alloc _).alloc _).alloc _ |>.block (K.block_new (by simp))), f1.block (((K.Ext.refl _).alloc _).alloc _ |>.block (K.block_new (by simp))), f1.block ((K.Ext.refl _).alloc _ |>.block (K.block_new (by simp))), f1.block (K.block_new (by simp)), K.Ext.trans K.bel f1, .inl ⟨fun m hm => by have := hm.1; have := hm.2; omega, rfl⟩⟩)
  clear f1 z1 HDEC
  go_wp2
  go_loopw [19] (fun i wr => ∃ k : Nat, (k : Int) ≤ D ∧ i = .int .i64 k ∧ Hid (RdSt P s t (Z.belowN (9000 * (k : Int))) w wr)) (fun i _ => 3 - (intOf i).toNat)
  case atStart => exact ⟨0, by omega, rfl, ST1⟩
  case round =>
    clear ST1
    obtain ⟨k, hk, rfl, HS⟩ := hrel
    obtain ⟨o, a0, a1, a2, a3, a4, ax, ag⟩ := HS.out
    have A0 := Z.hide a0
    have A1 := Z.hide a1
    have A2 := Z.hide a2
    have A3 := Z.hide a3
    have A4 := Z.hide a4
    have AX := Z.hide ax
    have AG := Z.hide ag
    have lr : w.heap.size + 4 < wr.heap.size := (Array.getElem?_eq_some_iff.1 a4).1
    clear a0 a1 a2 a3 a4 ax ag
    have k0 : (0 : Int) ≤ (k : Int) := Int.natCast_nonneg k
    obtain ⟨b1_c0, b1_f0⟩ := K.bk1 (w := wr) (w.heap.size) (.int .i64 (s)) (A0.out)
    have m1 : ¬ (w.heap.size = wr.heap.size) := by omega
    have m2 : ¬ (wr.heap.size = w.heap.size) := by omega
    have m3 : w.heap.size < wr.heap.size := by omega
    by_cases hlt : (k : Int) < D
    · have hk2 : (k : Int) ≤ 2 := by omega
      go_wp2_with fail
      refine K.cal (HSEG.out _) ?_
      rintro e w2 ⟨⟨g, h, rfl, gh, hgh, hg, hh⟩, f2⟩
      have z2 := f2.size
      (try simp at z2)
      (try simp at gh)
      have HG := Z.hide hg
      have HH := Z.hide hh
      clear hg hh
      have HST2 := Z.hide (HS.out.ext (((K.Ext.refl _).alloc _).trans f2))
      have HTN : Hid (w2.heap[wr.heap.size]? = some (.cells #[.int .i64 (k : Int)] 2)) := Z.hide (f2.block (K.block_new rfl))
      have lg : g < w2.heap.size := (Array.getElem?_eq_some_iff.1 HG.out).1
      have hlt2 : w.heap.size + 4 < w2.heap.size := by omega
      clear A0 A1 A2 A3 A4 AX AG HS b1_c0 b1_f0
      go_wp2
      go_loopw [25] (fun j W => (j = .int .i64 0 ∧ w2 = W) ∨ (j = .int .i64 1 ∧ Hid (RdSt P s t (Z.belowN (9000 * ((k : Int) + 1))) w W))) (fun j _ => 1 - (intOf j).toNat)
      case atStart => exact .inl ⟨rfl, rfl⟩
      case round =>
        rcases hrel with ⟨rfl, rfl⟩ | ⟨rfl, HF⟩
        · obtain ⟨b2_c0, b2_f0⟩ := K.bk1 (w := w2) (g) (.slice (some ⟨h, 0, none⟩) 2 2) (HG.out)
          obtain ⟨b3_c0, b3_c1, b3_f0, b3_f1⟩ := K.bk2 (w := w2) (h) (.int .i64 (1000)) (.int .i64 (9999)) (HH.out)
          have p1 : ¬ (g = w2.heap.size) := by omega
          have p2 : ¬ (w2.heap.size = g) := by omega
          have p3 : ¬ (h = w2.heap.size) := by omega
          have p4 : ¬ (w2.heap.size = h) := by omega
          have p5 : ¬ (h = w2.heap.size + 1) := by omega
          have p6 : ¬ (w2.heap.size + 1 = h) := by omega
          have p7 : g < w2.heap.size := lg
          have p8 : h < w2.heap.size := by omega
          have p9 : h < w2.heap.size + 1 := by omega
          have p10 : h < w2.heap.size + 1 + 1 := by omega
          go_wp2_with fail
          refine K.wp_region_x 9 [1, 0, 1, 1, 0, 1, 0, 0, 2] [K.SP.any, K.SP.any, K.SP.any, K.SP.any, K.SP.any, K.SP.any, K.SP.any, K.SP.any, K.SP.new (w2.heap.size + 1 + 1) (.cells #[.int .i64 0] 3)] (by kernel_rfl) (by kernel_rfl) ?_
          simp only [List.take_succ_cons, List.take_zero, List.drop_succ_cons, List.drop_zero]
          refine K.xh ?_
          simp only [Act.put, List.setIfInBounds_toArray, List.set]
          refine K.xp ?_
          simp only [Act.put, List.setIfInBounds_toArray, List.set]
          iterate 2
            refine K.xh ?_
            simp only [Act.put, List.setIfInBounds_toArray, List.set]
          refine K.xp ?_
          simp only [Act.put, List.setIfInBounds_toArray, List.set]
          refine K.xh ?_
          simp only [Act.put, List.setIfInBounds_toArray, List.set]
          iterate 2
            refine K.xp ?_
            simp only [Act.put, List.setIfInBounds_toArray, List.set]
          apply K.x_new
          · rfl
          · rfl
          · rfl
          · go_simp; first | done | omega
          · intro w'; go_simp; first | done | rfl | exact ⟨rfl, rfl⟩
          intro g11_8 w_8_ hx_8_ hg11_8 hb_8_
          simp only [Act.put, List.setIfInBounds_toArray, List.set]
          apply K.x_done
          intro w3 h_x
          have hx3 := hx_8_.trans h_x
          have hb11_8 := K.Ext.block (h_x) hb_8_
          have cg11_8_0 : w3.cell? ⟨g11_8, 0, none⟩ = some (.int .i64 0) := K.cell_at hb11_8 rfl
          have fg11_8_0 : w3.frozen? ⟨g11_8, 0, none⟩ = false := K.thaw_at hb11_8
          clear h_x hx_8_
          obtain ⟨⟨hcw3, hfw3⟩, hc'w3, hf'w3⟩ := hx3.all
          go_wp2_with fail
          refine NoPanic.normal ?_
          obtain ⟨W4, hW4⟩ : ∃ W, W = w3.setCell ⟨g11_8, 0, none⟩ (.int .i64 9000) := ⟨_, rfl⟩
          have x4 := K.Ext.setCell hx3 (p := ⟨g11_8, 0, none⟩) (by dsimp only; simp; omega) (.int .i64 9000)
          rw [← hW4] at x4
          have x42 : K.Ext w2 W4 := (((K.Ext.refl w2).alloc _).alloc _).drew.trans x4
          have EV4 := Z.hide (show RdEnv (k : Int) g11_8 (w2.heap.size + 1) w2.heap.size wr.heap.size h W4 from ⟨by rw [hW4]; exact Joins.block_setCell hb11_8 _, ⟨_, x4.block (K.block_new (by simp))⟩, x4.block (((K.Ext.refl _).alloc _).block (K.block_new rfl)), x42.block HTN.out, x42.block HH.out⟩)
          have HS4 := Z.hide (HST2.out.ext x42)
          have lg12 : w2.heap.size + 1 + 1 ≤ g11_8 := by omega
          have l4 := HS4.out.lt
          have u1 : w.heap.size + 5 ≤ g11_8 := by omega
          have u2 : w.heap.size + 5 ≤ w2.heap.size + 1 := by omega
          have u3 : w.heap.size + 5 ≤ w2.heap.size := by omega
          have u4 : w.heap.size + 5 ≤ wr.heap.size := by omega
          have u5 : w.heap.size + 5 ≤ h := by omega
          rw [← hW4]
          clear hW4 x4 hb11_8 hx3 hg11_8
          obtain ⟨b4_c0, b4_f0⟩ := K.bk1 (w := W4) (w.heap.size + 1) (.int .i64 (t)) (HS4.out.b1)
          go_wp2_with fail
          refine K.cal (HFIRST.out _ _ _ _ _ _ _ _ ⟨by omega, by omega⟩ HS4.out EV4.out t) ?_
          rintro e w5 ⟨⟨r, rfl, r1, r2, r3⟩, f5⟩
          have HR4 : Hid ((r : Int) = 9000 ∨ Z.hits P fa t (9000 * (k : Int) + (r : Int))) := Z.hide (r2.imp (fun h => by omega) id)
          have HR3 : Hid ((r : Int) = 0 ∨ ¬ Z.hits P fa t (9000 * (k : Int) + (r : Int) - 1)) := Z.hide (r3.imp (fun h => by omega) id)
          clear r2 r3
          have HS5 := Z.hide (HS4.out.ext f5)
          have EV5 := Z.hide (EV4.out.ext f5)
          clear HS4 EV4 x42
          obtain ⟨b5_c0, b5_f0⟩ := K.bk1 (w := w5) (g11_8) (.int .i64 (9000)) (EV5.out.1)
          have v0 : g11_8 < w5.heap.size := (Array.getElem?_eq_some_iff.1 EV5.out.1).1
          by_cases c1 : (r : Int) < 9000
          · obtain ⟨T_, hT_⟩ := EV5.out.2.1
            have cf_w5 : w5.cell? ⟨w2.heap.size + 1, 0, none⟩ = some (.func (.func 111) #[] #[.pointer (some ⟨w2.heap.size, 0, none⟩), .pointer (some ⟨wr.heap.size, 0, none⟩)]) := K.cell_at hT_ rfl
            clear hT_
            go_wp2_with fail
            refine K.cal (figure_env EV5.out (r : Int) ⟨by omega, c1⟩) ?_
            rintro e w6 ⟨rfl, f6⟩
            have HS6 := Z.hide (HS5.out.ext f6)
            have EV6 := Z.hide (EV5.out.ext f6)
            go_wp2_with fail
            refine K.cal (HTRY.out (k : Int) (r : Int) _ _ ⟨by omega, by omega⟩ ⟨by omega, c1⟩ HS6.out) ?_
            rintro e w7 ⟨rfl, s7, f7⟩
            have HS7 := Z.hide s7
            have EV7 := Z.hide (EV6.out.far f7 u1 u2 u3 u4 u5)
            clear s7 f7 HS6 EV6 f6
            by_cases c2 : (0 : Int) < (r : Int)
            · skip
              have j0 : 0 ≤ (r : Int) - 1 ∧ (r : Int) - 1 < 9000 := by omega
              obtain ⟨j, hj⟩ : ∃ j : Int, j = (r : Int) - 1 := ⟨_, rfl⟩
              rw [← hj] at j0
              have HJ := Z.hide hj
              have qj : IntKind.i64.wrap ((r : Int) - 1) = j := by rw [hj]; exact IntWalk.i64_in _ (by omega)
              clear hj
              obtain ⟨p, hp⟩ : ∃ p, P (9000 * (k : Int) + j) = p := ⟨_, rfl⟩
              have HPQ : Hid (∀ W, Calls Tryz.prog 84 #[.int .i64 s, .agg #[.int .i64 (1000 + j), .int .i64 (k : Int)]] W fun e w'' => e = .returned (.int .i64 p) ∧ K.Ext W w'') := Z.hide (fun W => by have h_ := HPT.out (k : Int) j W ⟨by omega, by omega⟩ j0; rwa [hp] at h_)
              have HFG : Hid (∀ W, K.Ext w7 W → Calls Tryz.prog 111 #[.int .i64 j, .pointer (some ⟨w2.heap.size, 0, none⟩), .pointer (some ⟨wr.heap.size, 0, none⟩)] W fun e w'' => e = .returned (.agg #[.int .i64 (1000 + j), .int .i64 (k : Int)]) ∧ K.Ext W w'') := Z.hide (fun W x => figure_env (EV7.out.ext x) j j0)
              have HFQ : Hid (∀ W, K.Ext w7 W → Calls Tryz.prog 112 #[.int .i64 p, .pointer (some ⟨g11_8, 0, none⟩), .pointer (some ⟨w.heap.size, 0, none⟩), .pointer (some ⟨w2.heap.size + 1, 0, none⟩)] W fun e w'' => e = .returned (.int .i64 j) ∧ K.Ext W w'') := Z.hide (fun W x => by
                refine (HFIRST.out _ _ _ _ _ _ _ _ ⟨by omega, by omega⟩ (HS7.out.ext x) (EV7.out.ext x) p).mono ?_
                rintro e w'' ⟨⟨r', he, q1, q2, q3⟩, hx⟩
                refine ⟨?_, hx⟩
                rw [← hp] at q2 q3
                have h_ := Z.first_eq hmo.out (k := (k : Int)) (j := j) (r := (r' : Int)) (by omega) (by omega) j0.1 j0.2 (by omega) (by omega) (q2.imp (fun h => by omega) id) (q3.imp (fun h => by omega) id)
                rw [he, h_])
              clear hp
              have v1 : g11_8 < w7.heap.size := (Array.getElem?_eq_some_iff.1 EV7.out.1).1
              obtain ⟨T_, hT_⟩ := EV7.out.2.1
              have cf_w7 : w7.cell? ⟨w2.heap.size + 1, 0, none⟩ = some (.func (.func 111) #[] #[.pointer (some ⟨w2.heap.size, 0, none⟩), .pointer (some ⟨wr.heap.size, 0, none⟩)]) := K.cell_at hT_ rfl
              obtain ⟨b6_c0, b6_f0⟩ := K.bk1 (w := w7) (w.heap.size) (.int .i64 (s)) (HS7.out.b0)
              clear hT_
              go_wp2_with fail
              refine K.wp_region_y (R := K.RE) 11 [0, 1, 0, 1, 1, 0, 0, 2, 2, 2, 2] [K.SQ.any, K.SQ.any, K.SQ.any, K.SQ.any, K.SQ.any, K.SQ.any, K.SQ.any, K.SQ.is (.agg #[.int .i64 (1000 + j), .int .i64 (k : Int)]), K.SQ.is (.int .i64 p), K.SQ.is (.int .i64 j), K.SQ.is (.agg #[.int .i64 (1000 + j), .int .i64 (k : Int)])] (by kernel_rfl) (by kernel_rfl) ?_
              simp only [List.take_succ_cons, List.take_zero, List.drop_succ_cons, List.drop_zero]
              apply K.y_pure
              · rfl
              · rfl
              · intro w'; go_simp; first | done | exact K.vint (IntWalk.i64_in _ (by omega)) | rfl | exact ⟨rfl, rfl⟩
              simp only [Act.put, List.setIfInBounds_toArray, List.set]
              apply K.y_held
              · rfl
              · rfl
              · intro w' hx; have hx : K.Ext _ _ := hx; have hc := hx.all.1.1; have hf := hx.all.1.2; have hc' := hx.all.2.1; have hf' := hx.all.2.2; go_simp; first | done | rfl | exact ⟨rfl, rfl⟩
              simp only [Act.put, List.setIfInBounds_toArray, List.set]
              apply K.y_pure
              · rfl
              · rfl
              · intro w'; go_simp; first | done | exact K.vint (IntWalk.i64_in _ (by omega)) | rfl | exact ⟨rfl, rfl⟩
              simp only [Act.put, List.setIfInBounds_toArray, List.set]
              iterate 2
                apply K.y_held
                · rfl
                · rfl
                · intro w' hx; have hx : K.Ext _ _ := hx; have hc := hx.all.1.1; have hf := hx.all.1.2; have hc' := hx.all.2.1; have hf' := hx.all.2.2; go_simp; first | done | rfl | exact ⟨rfl, rfl⟩
                simp only [Act.put, List.setIfInBounds_toArray, List.set]
              iterate 2
                apply K.y_pure
                · rfl
                · rfl
                · intro w'; go_simp; first | done | exact K.vint (IntWalk.i64_in _ (by omega)) | rfl | exact ⟨rfl, rfl⟩
                simp only [Act.put, List.setIfInBounds_toArray, List.set]
              apply K.y_call_is
              · rfl
              · rfl
              · rfl
              · intro w'; go_simp; first | done | rfl | exact ⟨rfl, rfl⟩
              · intro w' hx hp; have hx : K.Ext _ _ := hx; have hc := hx.all.1.1; have hf := hx.all.1.2; have hc' := hx.all.2.1; have hf' := hx.all.2.2; exact HFG.out _ (((K.Ext.refl _).drew).trans hx)
              intro w_7_ hx_7_
              replace hx_7_ : K.Ext _ _ := hx_7_
              simp only [Act.put, List.setIfInBounds_toArray, List.set]
              apply K.y_call_is
              · rfl
              · rfl
              · rfl
              · intro w'; go_simp; first | done | rfl | exact ⟨rfl, rfl⟩
              · intro w' hx hp; have hx : K.Ext _ _ := hx; have hc := hx.all.1.1; have hf := hx.all.1.2; have hc' := hx.all.2.1; have hf' := hx.all.2.2; exact HPQ.out _
              intro w_8_ hx_8_
              replace hx_8_ : K.Ext _ _ := hx_8_
              simp only [Act.put, List.setIfInBounds_toArray, List.set]
              apply K.y_call_is
              · rfl
              · rfl
              · rfl
              · intro w'; go_simp; first | done | rfl | exact ⟨rfl, rfl⟩
              · intro w' hx hp; have hx : K.Ext _ _ := hx; have hc := hx.all.1.1; have hf := hx.all.1.2; have hc' := hx.all.2.1; have hf' := hx.all.2.2; exact HFQ.out _ (((K.Ext.refl _).drew).trans hx)
              intro w_9_ hx_9_
              replace hx_9_ : K.Ext _ _ := hx_9_
              simp only [Act.put, List.setIfInBounds_toArray, List.set]
              apply K.y_call_is
              · rfl
              · rfl
              · rfl
              · intro w'; go_simp; first | done | rfl | exact ⟨rfl, rfl⟩
              · intro w' hx hp; have hx : K.Ext _ _ := hx; have hc := hx.all.1.1; have hf := hx.all.1.2; have hc' := hx.all.2.1; have hf' := hx.all.2.2; exact HFG.out _ (((K.Ext.refl _).drew).trans hx)
              intro w_10_ hx_10_
              replace hx_10_ : K.Ext _ _ := hx_10_
              simp only [Act.put, List.setIfInBounds_toArray, List.set]
              apply K.y_done
              intro w8 h_x
              replace h_x : K.Ext _ _ := h_x
              have hx8 := hx_7_.trans (hx_8_.trans (hx_9_.trans (hx_10_.trans h_x)))
              clear h_x hx_7_ hx_8_ hx_9_ hx_10_
              obtain ⟨⟨hcw8, hfw8⟩, hc'w8, hf'w8⟩ := hx8.all
              go_wp2_with fail
              have x8 : K.Ext w7 w8 := ((K.Ext.refl _).drew).trans hx8
              have HS8 := Z.hide (HS7.out.ext x8)
              clear hx8
              refine K.cal (HTRY.out (k : Int) j _ _ ⟨by omega, by omega⟩ j0 HS8.out) ?_
              rintro e w9 ⟨rfl, s9, f9⟩
              have HS9 := Z.hide s9
              clear s9 f9
              go_wp2_with fail
              refine NoPanic.normal ?_
              go_wp2
              go_roundw
              case rel =>
                have hj := HJ.out
                refine .inr ⟨by go_num, Z.hide (HS9.out.decade hmo.out (k := (k : Int)) (r := (r : Int)) (by omega) (by omega) (by omega) (by omega) HR4.out HR3.out ?_ ?_ ?_ ?_)⟩
                · rintro m ((⟨m1, m2⟩ | m1) | m1) <;> omega
                · exact fun m hm => .inl (.inl hm)
                · exact fun _ => .inl (.inr rfl)
                · exact fun _ => .inr (by omega)
              case measure => simp [intOf]
            · go_wp2
              go_roundw
              case rel =>
                refine .inr ⟨by go_num, Z.hide (HS7.out.decade hmo.out (k := (k : Int)) (r := (r : Int)) (by omega) (by omega) (by omega) (by omega) HR4.out HR3.out ?_ ?_ ?_ ?_)⟩
                · rintro m (⟨m1, m2⟩ | m1) <;> omega
                · exact fun m hm => .inl hm
                · exact fun _ => .inr rfl
                · exact fun h => by omega
              case measure => simp [intOf]
          · have c2 : (0 : Int) < (r : Int) := by omega
            have j0 : 0 ≤ (r : Int) - 1 ∧ (r : Int) - 1 < 9000 := by omega
            obtain ⟨j, hj⟩ : ∃ j : Int, j = (r : Int) - 1 := ⟨_, rfl⟩
            rw [← hj] at j0
            have HJ := Z.hide hj
            have qj : IntKind.i64.wrap ((r : Int) - 1) = j := by rw [hj]; exact IntWalk.i64_in _ (by omega)
            clear hj
            obtain ⟨p, hp⟩ : ∃ p, P (9000 * (k : Int) + j) = p := ⟨_, rfl⟩
            have HPQ : Hid (∀ W, Calls Tryz.prog 84 #[.int .i64 s, .agg #[.int .i64 (1000 + j), .int .i64 (k : Int)]] W fun e w'' => e = .returned (.int .i64 p) ∧ K.Ext W w'') := Z.hide (fun W => by have h_ := HPT.out (k : Int) j W ⟨by omega, by omega⟩ j0; rwa [hp] at h_)
            have HFG : Hid (∀ W, K.Ext w5 W → Calls Tryz.prog 111 #[.int .i64 j, .pointer (some ⟨w2.heap.size, 0, none⟩), .pointer (some ⟨wr.heap.size, 0, none⟩)] W fun e w'' => e = .returned (.agg #[.int .i64 (1000 + j), .int .i64 (k : Int)]) ∧ K.Ext W w'') := Z.hide (fun W x => figure_env (EV5.out.ext x) j j0)
            have HFQ : Hid (∀ W, K.Ext w5 W → Calls Tryz.prog 112 #[.int .i64 p, .pointer (some ⟨g11_8, 0, none⟩), .pointer (some ⟨w.heap.size, 0, none⟩), .pointer (some ⟨w2.heap.size + 1, 0, none⟩)] W fun e w'' => e = .returned (.int .i64 j) ∧ K.Ext W w'') := Z.hide (fun W x => by
              refine (HFIRST.out _ _ _ _ _ _ _ _ ⟨by omega, by omega⟩ (HS5.out.ext x) (EV5.out.ext x) p).mono ?_
              rintro e w'' ⟨⟨r', he, q1, q2, q3⟩, hx⟩
              refine ⟨?_, hx⟩
              rw [← hp] at q2 q3
              have h_ := Z.first_eq hmo.out (k := (k : Int)) (j := j) (r := (r' : Int)) (by omega) (by omega) j0.1 j0.2 (by omega) (by omega) (q2.imp (fun h => by omega) id) (q3.imp (fun h => by omega) id)
              rw [he, h_])
            clear hp
            have v1 : g11_8 < w5.heap.size := (Array.getElem?_eq_some_iff.1 EV5.out.1).1
            obtain ⟨T_, hT_⟩ := EV5.out.2.1
            have cf_w5 : w5.cell? ⟨w2.heap.size + 1, 0, none⟩ = some (.func (.func 111) #[] #[.pointer (some ⟨w2.heap.size, 0, none⟩), .pointer (some ⟨wr.heap.size, 0, none⟩)]) := K.cell_at hT_ rfl
            obtain ⟨b7_c0, b7_f0⟩ := K.bk1 (w := w5) (w.heap.size) (.int .i64 (s)) (HS5.out.b0)
            clear hT_
            go_wp2_with fail
            refine K.wp_region_y (R := K.RE) 11 [0, 1, 0, 1, 1, 0, 0, 2, 2, 2, 2] [K.SQ.any, K.SQ.any, K.SQ.any, K.SQ.any, K.SQ.any, K.SQ.any, K.SQ.any, K.SQ.is (.agg #[.int .i64 (1000 + j), .int .i64 (k : Int)]), K.SQ.is (.int .i64 p), K.SQ.is (.int .i64 j), K.SQ.is (.agg #[.int .i64 (1000 + j), .int .i64 (k : Int)])] (by kernel_rfl) (by kernel_rfl) ?_
            simp only [List.take_succ_cons, List.take_zero, List.drop_succ_cons, List.drop_zero]
            apply K.y_pure
            · rfl
            · rfl
            · intro w'; go_simp; first | done | exact K.vint (IntWalk.i64_in _ (by omega)) | rfl | exact ⟨rfl, rfl⟩
            simp only [Act.put, List.setIfInBounds_toArray, List.set]
            apply K.y_held
            · rfl
            · rfl
            · intro w' hx; have hx : K.Ext _ _ := hx; have hc := hx.all.1.1; have hf := hx.all.1.2; have hc' := hx.all.2.1; have hf' := hx.all.2.2; go_simp; first | done | rfl | exact ⟨rfl, rfl⟩
            simp only [Act.put, List.setIfInBounds_toArray, List.set]
            apply K.y_pure
            · rfl
            · rfl
            · intro w'; go_simp; first | done | exact K.vint (IntWalk.i64_in _ (by omega)) | rfl | exact ⟨rfl, rfl⟩
            simp only [Act.put, List.setIfInBounds_toArray, List.set]
            iterate 2
              apply K.y_held
              · rfl
              · rfl
              · intro w' hx; have hx : K.Ext _ _ := hx; have hc := hx.all.1.1; have hf := hx.all.1.2; have hc' := hx.all.2.1; have hf' := hx.all.2.2; go_simp; first | done | rfl | exact ⟨rfl, rfl⟩
              simp only [Act.put, List.setIfInBounds_toArray, List.set]
            iterate 2
              apply K.y_pure
              · rfl
              · rfl
              · intro w'; go_simp; first | done | exact K.vint (IntWalk.i64_in _ (by omega)) | rfl | exact ⟨rfl, rfl⟩
              simp only [Act.put, List.setIfInBounds_toArray, List.set]
            apply K.y_call_is
            · rfl
            · rfl
            · rfl
            · intro w'; go_simp; first | done | rfl | exact ⟨rfl, rfl⟩
            · intro w' hx hp; have hx : K.Ext _ _ := hx; have hc := hx.all.1.1; have hf := hx.all.1.2; have hc' := hx.all.2.1; have hf' := hx.all.2.2; exact HFG.out _ (((K.Ext.refl _).drew).trans hx)
            intro w_7_ hx_7_
            replace hx_7_ : K.Ext _ _ := hx_7_
            simp only [Act.put, List.setIfInBounds_toArray, List.set]
            apply K.y_call_is
            · rfl
            · rfl
            · rfl
            · intro w'; go_simp; first | done | rfl | exact ⟨rfl, rfl⟩
            · intro w' hx hp; have hx : K.Ext _ _ := hx; have hc := hx.all.1.1; have hf := hx.all.1.2; have hc' := hx.all.2.1; have hf' := hx.all.2.2; exact HPQ.out _
            intro w_8_ hx_8_
            replace hx_8_ : K.Ext _ _ := hx_8_
            simp only [Act.put, List.setIfInBounds_toArray, List.set]
            apply K.y_call_is
            · rfl
            · rfl
            · rfl
            · intro w'; go_simp; first | done | rfl | exact ⟨rfl, rfl⟩
            · intro w' hx hp; have hx : K.Ext _ _ := hx; have hc := hx.all.1.1; have hf := hx.all.1.2; have hc' := hx.all.2.1; have hf' := hx.all.2.2; exact HFQ.out _ (((K.Ext.refl _).drew).trans hx)
            intro w_9_ hx_9_
            replace hx_9_ : K.Ext _ _ := hx_9_
            simp only [Act.put, List.setIfInBounds_toArray, List.set]
            apply K.y_call_is
            · rfl
            · rfl
            · rfl
            · intro w'; go_simp; first | done | rfl | exact ⟨rfl, rfl⟩
            · intro w' hx hp; have hx : K.Ext _ _ := hx; have hc := hx.all.1.1; have hf := hx.all.1.2; have hc' := hx.all.2.1; have hf' := hx.all.2.2; exact HFG.out _ (((K.Ext.refl _).drew).trans hx)
            intro w_10_ hx_10_
            replace hx_10_ : K.Ext _ _ := hx_10_
            simp only [Act.put, List.setIfInBounds_toArray, List.set]
            apply K.y_done
            intro w8 h_x
            replace h_x : K.Ext _ _ := h_x
            have hx8 := hx_7_.trans (hx_8_.trans (hx_9_.trans (hx_10_.trans h_x)))
            clear h_x hx_7_ hx_8_ hx_9_ hx_10_
            obtain ⟨⟨hcw8, hfw8⟩, hc'w8, hf'w8⟩ := hx8.all
            go_wp2_with fail
            have x8 : K.Ext w5 w8 := ((K.Ext.refl _).drew).trans hx8
            have HS8 := Z.hide (HS5.out.ext x8)
            clear hx8
            refine K.cal (HTRY.out (k : Int) j _ _ ⟨by omega, by omega⟩ j0 HS8.out) ?_
            rintro e w9 ⟨rfl, s9, f9⟩
            have HS9 := Z.hide s9
            clear s9 f9
            go_wp2_with fail
            refine NoPanic.normal ?_
            go_wp2
            go_roundw
            case rel =>
              have hj := HJ.out
              refine .inr ⟨by go_num, Z.hide (HS9.out.decade hmo.out (k := (k : Int)) (r := (r : Int)) (by omega) (by omega) (by omega) (by omega) HR4.out HR3.out ?_ ?_ ?_ ?_)⟩
              · rintro m (⟨m1, m2⟩ | m1) <;> omega
              · exact fun m hm => .inl hm
              · exact fun h => by omega
              · exact fun _ => .inr (by omega)
            case measure => simp [intOf]
        · go_wp2
          go_roundw
          case rel => exact ⟨k + 1, by omega, by go_num, Z.hide (by have h_ := HF.out; rwa [show ((k : Int) + 1) = (((k + 1 : Nat)) : Int) from by omega] at h_)⟩
          case measure => simp [intOf]; omega
    · have hkD : (k : Int) = D := by omega
      rw [hkD] at AG
      obtain ⟨n, hn, ho⟩ := Z.good_best (by omega) AG.out
      rw [ho] at A3
      have HN := Z.hide hn
      clear hn ho
      obtain ⟨b8_c0, b8_c1, b8_f0, b8_f1⟩ := K.bk2 (w := wr) (w.heap.size + 1 + 1) (.int .i64 (0)) (.int .i64 (0)) (A2.out)
      obtain ⟨b9_c0, b9_c1, b9_f0, b9_f1⟩ := K.bk2 (w := wr) (w.heap.size + 1 + 1 + 1) (.int .i64 ((Z.atN n).1)) (.int .i64 ((Z.atN n).2)) (A3.out)
      have y1 : w.heap.size + 1 + 1 < wr.heap.size := by omega
      have y2 : w.heap.size + 1 + 1 + 1 < wr.heap.size := by omega
      go_wp2
      refine bodyPost_ret (v := .agg #[.int .i64 (Z.atN n).1, .int .i64 (Z.atN n).2]) (by unfold results; rw [Tryz.results83]; go_simp) rfl ⟨⟨n, rfl, HN.out⟩, ?_⟩
      exact (AX.out.setCell (by dsimp only; omega) _).setCell (by dsimp only; omega) _
end Go.Proofs.YtimpcelbekhipaaGreat
end
section
namespace Go.Z
/-- numerator and denominator of a transfer's exponent -/
def powS (fr to : Int) : Int × Int := if ordS fr < 0 then (-(ordS to), -(ordS fr)) else (ordS to, ordS fr)
/-- the code of a transfer -/
def tCode (R : Rl) (fr to : Int) (a : Bool) : Int := if (isRule R && a) = false then 1 else if ordS fr = 0 ∨ ordS to = 0 ∨ has R.st fr = false ∨ has R.st to = false then 2 else 0
end Go.Z
namespace Go.Proofs.YtimpcelbekhipaaGreat
open Go.RowKit
theorem exponent_any (fr : Int) (to : Int)  (w : World)   :
    Calls Tryz.prog 60 #[.int .i64 fr, .int .i64 to] w fun e w' => e = .returned (.tuple #[.int .i64 ((Z.powS fr to).1), .int .i64 ((Z.powS fr to).2)]) ∧ K.Ext w w' := by
  have HF := fun w => orderOf_any fr w
  have HT := fun w => orderOf_any to w
  have HE : Hid (Z.powS fr to = if Z.ordS fr < 0 then (-(Z.ordS to), -(Z.ordS fr)) else (Z.ordS to, Z.ordS fr)) := Z.hide rfl
  have b1 := Z.ord_bd fr
  have b2 := Z.ord_bd to
  generalize Z.ordS fr = a at *
  generalize Z.ordS to = b at *
  have q1 : IntKind.i64.wrap (-a) = -a := IntWalk.i64_in _ (by omega)
  have q2 : IntKind.i64.wrap (-b) = -b := IntWalk.i64_in _ (by omega)
  by_cases h : a < 0
  · rw [if_pos h] at HE
    have X0 : K.Ext w w := K.Ext.refl w
    go_enter Tryz.func60, Tryz.ntmps60
    go_wp2_with (go_at_call 58; refine K.call (by with_reducible rfl) (by with_reducible rfl) (HT _) ?_; rintro e w_ ⟨rfl, rfl⟩)
    go_wp2_with (go_at_call 58; refine K.call (by with_reducible rfl) (by with_reducible rfl) (HF _) ?_; rintro e w_ ⟨rfl, rfl⟩)
    rw [HE.out]
    refine bodyPost_ret (v := .tuple #[.int .i64 (-b), .int .i64 (-a)]) (by unfold results; rw [Tryz.results60]; go_simp) rfl ⟨rfl, ?_⟩
    repeat with_reducible refine K.Ext.setCell ?_ (by dsimp only; omega) _
    exact (by repeat' (first | with_reducible exact X0 | with_reducible refine K.Ext.setCell ?_ ?_ _ | with_reducible refine K.Ext.alloc ?_ _ | with_reducible refine K.Ext.drew ?_ | (dsimp only; omega) | omega | (simp; omega)))
  · rw [if_neg h] at HE
    have X0 : K.Ext w w := K.Ext.refl w
    go_enter Tryz.func60, Tryz.ntmps60
    go_wp2_with (go_at_call 58; refine K.call (by with_reducible rfl) (by with_reducible rfl) (HT _) ?_; rintro e w_ ⟨rfl, rfl⟩)
    go_wp2_with (go_at_call 58; refine K.call (by with_reducible rfl) (by with_reducible rfl) (HF _) ?_; rintro e w_ ⟨rfl, rfl⟩)
    rw [HE.out]
    refine bodyPost_ret (v := .tuple #[.int .i64 b, .int .i64 a]) (by unfold results; rw [Tryz.results60]; go_simp) rfl ⟨rfl, ?_⟩
    repeat with_reducible refine K.Ext.setCell ?_ (by dsimp only; omega) _
    exact (by repeat' (first | with_reducible exact X0 | with_reducible refine K.Ext.setCell ?_ ?_ _ | with_reducible refine K.Ext.alloc ?_ _ | with_reducible refine K.Ext.drew ?_ | (dsimp only; omega) | omega | (simp; omega)))
theorem l17Power_any (fr : Int) (to : Int)  (w : World)   :
    Calls Tryz.prog 65 #[.int .i64 fr, .int .i64 to] w fun e w' => e = .returned (.tuple #[.int .i64 ((Z.powS fr to).1), .int .i64 ((Z.powS fr to).2)]) ∧ K.Ext w w' := by
  have HF := fun w => l17Order_any fr w
  have HT := fun w => l17Order_any to w
  have HE : Hid (Z.powS fr to = if Z.ordS fr < 0 then (-(Z.ordS to), -(Z.ordS fr)) else (Z.ordS to, Z.ordS fr)) := Z.hide rfl
  have b1 := Z.ord_bd fr
  have b2 := Z.ord_bd to
  generalize Z.ordS fr = a at *
  generalize Z.ordS to = b at *
  have q1 : IntKind.i64.wrap (-a) = -a := IntWalk.i64_in _ (by omega)
  have q2 : IntKind.i64.wrap (-b) = -b := IntWalk.i64_in _ (by omega)
  by_cases h : a < 0
  · rw [if_pos h] at HE
    have X0 : K.Ext w w := K.Ext.refl w
    go_enter Tryz.func65, Tryz.ntmps65
    go_wp2_with (go_at_call 59; refine K.call (by with_reducible rfl) (by with_reducible rfl) (HF _) ?_; rintro e w_ ⟨rfl, rfl⟩)
    go_wp2_with (go_at_call 59; refine K.call (by with_reducible rfl) (by with_reducible rfl) (HT _) ?_; rintro e w_ ⟨rfl, rfl⟩)
    rw [HE.out]
    refine bodyPost_ret (v := .tuple #[.int .i64 (-b), .int .i64 (-a)]) (by unfold results; rw [Tryz.results65]; go_simp) rfl ⟨rfl, ?_⟩
    repeat with_reducible refine K.Ext.setCell ?_ (by dsimp only; omega) _
    exact (by repeat' (first | with_reducible exact X0 | with_reducible refine K.Ext.setCell ?_ ?_ _ | with_reducible refine K.Ext.alloc ?_ _ | with_reducible refine K.Ext.drew ?_ | (dsimp only; omega) | omega | (simp; omega)))
  · rw [if_neg h] at HE
    have X0 : K.Ext w w := K.Ext.refl w
    go_enter Tryz.func65, Tryz.ntmps65
    go_wp2_with (go_at_call 59; refine K.call (by with_reducible rfl) (by with_reducible rfl) (HF _) ?_; rintro e w_ ⟨rfl, rfl⟩)
    go_wp2_with (go_at_call 59; refine K.call (by with_reducible rfl) (by with_reducible rfl) (HT _) ?_; rintro e w_ ⟨rfl, rfl⟩)
    rw [HE.out]
    refine bodyPost_ret (v := .tuple #[.int .i64 b, .int .i64 a]) (by unfold results; rw [Tryz.results65]; go_simp) rfl ⟨rfl, ?_⟩
    repeat with_reducible refine K.Ext.setCell ?_ (by dsimp only; omega) _
    exact (by repeat' (first | with_reducible exact X0 | with_reducible refine K.Ext.setCell ?_ ?_ _ | with_reducible refine K.Ext.alloc ?_ _ | with_reducible refine K.Ext.drew ?_ | (dsimp only; omega) | omega | (simp; omega)))
theorem checkTransfer_any (R : Z.Rl) (fr : Int) (to : Int) {loRL hiRL loRR hiRR : Nat} {pRL pRR : Value} (w : World) (fs : List (Int × Int)) {lo hi : Nat} {v : Value} (hmf : fs.length ≤ 1048576) (hfs : K.figs w lo hi v fs) (hmRL : R.st.length ≤ 1048576) (hRL : K.ints w loRL hiRL pRL R.st) (hcRL : K.roomy pRL R.st.length) (hmRR : R.sl.length ≤ 1048576) (hRR : K.ints w loRR hiRR pRR R.sl) (hcRR : K.roomy pRR R.sl.length) :
    Calls Tryz.prog 49 #[.agg #[.int .i64 R.ln, pRL, pRR], .int .i64 fr, .int .i64 to, v] w fun e w' => e = .returned (.int .i64 (Z.tCode R fr to (Z.areFigs fs))) ∧ K.Ext w w' := by
  have hRL_ := hRL
  have shRL := hRL
  obtain ⟨oRL, cRL, rfl, _⟩ := shRL
  have hRR_ := hRR
  have shRR := hRR
  obtain ⟨oRR, cRR, rfl, _⟩ := shRR
  have HF := fun w => orderOf_any fr w
  have HT := fun w => orderOf_any to w
  have HE : Hid (Z.tCode R fr to (Z.areFigs fs) = if (Z.isRule R && Z.areFigs fs) = false then 1 else if Z.ordS fr = 0 ∨ Z.ordS to = 0 ∨ Z.has R.st fr = false ∨ Z.has R.st to = false then 2 else 0) := Z.hide rfl
  have HR : Hid (∀ w' : World, K.ints w' loRL hiRL (.slice oRL R.st.length cRL) R.st → K.ints w' loRR hiRR (.slice oRR R.sl.length cRR) R.sl → Calls Tryz.prog 81 #[.agg #[.int .i64 R.ln, .slice oRL R.st.length cRL, .slice oRR R.sl.length cRR]] w' fun e w'' => e = .returned (.bool (Z.isRule R)) ∧ K.Ext w' w'') := Z.hide (fun w' h1 h2 => impl_IsRule R w' hmRL h1 hcRL hmRR h2 hcRR)
  have HS : Hid (∀ (x : Int) (w' : World), K.ints w' loRL hiRL (.slice oRL R.st.length cRL) R.st → K.ints w' loRR hiRR (.slice oRR R.sl.length cRR) R.sl → Calls Tryz.prog 82 #[.agg #[.int .i64 R.ln, .slice oRL R.st.length cRL, .slice oRR R.sl.length cRR], .bool false, .int .i64 x] w' fun e w'' => e = .returned (.bool (Z.has R.st x)) ∧ K.Ext w' w'') := Z.hide (fun x w' h1 h2 => hasStock_any R x w' hmRL h1 hcRL hmRR h2 hcRR)
  have HG : Hid (∀ w' : World, K.Ext w w' → Calls Tryz.prog 54 #[v] w' fun e w'' => e = .returned (.bool (Z.areFigs fs)) ∧ K.Ext w' w'') := Z.hide (fun w' hx => areFigures_any fs w' hmf (hfs.ext hx))
  have HSF := Z.hide (HS.out fr)
  have HST := Z.hide (HS.out to)
  clear HS
  generalize Z.ordS fr = a at *
  generalize Z.ordS to = b at *
  generalize Z.has R.st fr = p at *
  generalize Z.has R.st to = q at *
  generalize Z.isRule R = r at *
  generalize Z.areFigs fs = g at *
  clear hfs
  cases r
  · have HQ : Hid (Z.tCode R fr to g = 1) := Z.hide HE.out
    clear HE
    have X0 : K.Ext w w := K.Ext.refl w
    go_enter Tryz.func49, Tryz.ntmps49
    go_wp2_with (go_at_call 81; refine K.call (by with_reducible rfl) (by with_reducible rfl) (HR.out _ (K.ints.alloc hRL_ _) (K.ints.alloc hRR_ _)) ?_; rintro e w1 ⟨rfl, x1⟩; have s1 : w.heap.size + 1 ≤ w1.heap.size := (by have h_ := x1.size; (try simp at h_); omega); have X1 := K.Ext.trans (K.Ext.alloc X0 _) x1; obtain ⟨c1_0_0, c1_0_1, c1_0_2⟩ := K.c3 x1 (w.heap.size) (.int .i64 R.ln) (.slice oRL R.st.length cRL) (.slice oRR R.sl.length cRR) (by go_simp); have z1_0 : w.heap.size < w1.heap.size := World.block_lt_of_cell? w1 _ c1_0_0; have d1_0 : ¬ (w.heap.size = w1.heap.size) := (by omega); have e1_0 : ¬ (w1.heap.size = w.heap.size) := (by omega); have F1_1 := K.ints.ext (K.ints.alloc hRL_ _) x1; have F2_1 := K.ints.ext (K.ints.alloc hRR_ _) x1; clear hRL_ hRR_)
    rw [HQ.out]
    refine bodyPost_ret (v := .int .i64 1) (by unfold results; rw [Tryz.results49]; go_simp) rfl ⟨rfl, ?_⟩
    repeat with_reducible refine K.Ext.setCell ?_ (by dsimp only; omega) _
    exact (by repeat' (first | with_reducible exact X1 | with_reducible refine K.Ext.setCell ?_ ?_ _ | with_reducible refine K.Ext.alloc ?_ _ | with_reducible refine K.Ext.drew ?_ | (dsimp only; omega) | omega | (simp; omega)))
  cases g
  · have HQ : Hid (Z.tCode R fr to false = 1) := Z.hide HE.out
    clear HE
    have X0 : K.Ext w w := K.Ext.refl w
    go_enter Tryz.func49, Tryz.ntmps49
    go_wp2_with (go_at_call 81; refine K.call (by with_reducible rfl) (by with_reducible rfl) (HR.out _ (K.ints.alloc hRL_ _) (K.ints.alloc hRR_ _)) ?_; rintro e w1 ⟨rfl, x1⟩; have s1 : w.heap.size + 1 ≤ w1.heap.size := (by have h_ := x1.size; (try simp at h_); omega); have X1 := K.Ext.trans (K.Ext.alloc X0 _) x1; obtain ⟨c1_0_0, c1_0_1, c1_0_2⟩ := K.c3 x1 (w.heap.size) (.int .i64 R.ln) (.slice oRL R.st.length cRL) (.slice oRR R.sl.length cRR) (by go_simp); have z1_0 : w.heap.size < w1.heap.size := World.block_lt_of_cell? w1 _ c1_0_0; have d1_0 : ¬ (w.heap.size = w1.heap.size) := (by omega); have e1_0 : ¬ (w1.heap.size = w.heap.size) := (by omega); have F1_1 := K.ints.ext (K.ints.alloc hRL_ _) x1; have F2_1 := K.ints.ext (K.ints.alloc hRR_ _) x1; clear hRL_ hRR_)
    go_wp2_with (go_at_call 54; refine K.call (by with_reducible rfl) (by with_reducible rfl) (HG.out _ K.bel) ?_; rintro e w2 ⟨rfl, x2⟩; have s2 : w1.heap.size ≤ w2.heap.size := (by have h_ := x2.size; (try simp at h_); omega); have X2 := K.Ext.trans (X1) x2; obtain ⟨c2_0_0, c2_0_1, c2_0_2⟩ := K.c3 x2 (w.heap.size) (.int .i64 R.ln) (.slice oRL R.st.length cRL) (.slice oRR R.sl.length cRR) (by go_simp); have z2_0 : w.heap.size < w2.heap.size := World.block_lt_of_cell? w2 _ c2_0_0; have d2_0 : ¬ (w.heap.size = w2.heap.size) := (by omega); have e2_0 : ¬ (w2.heap.size = w.heap.size) := (by omega); have F1_2 := K.ints.ext (F1_1) x2; have F2_2 := K.ints.ext (F2_1) x2; clear c1_0_0 c1_0_1 c1_0_2 z1_0 d1_0 e1_0 F1_1 F2_1)
    rw [HQ.out]
    refine bodyPost_ret (v := .int .i64 1) (by unfold results; rw [Tryz.results49]; go_simp) rfl ⟨rfl, ?_⟩
    repeat with_reducible refine K.Ext.setCell ?_ (by dsimp only; omega) _
    exact (by repeat' (first | with_reducible exact X2 | with_reducible refine K.Ext.setCell ?_ ?_ _ | with_reducible refine K.Ext.alloc ?_ _ | with_reducible refine K.Ext.drew ?_ | (dsimp only; omega) | omega | (simp; omega)))
  rw [if_neg (by decide)] at HE
  by_cases ha : a = 0
  · rw [if_pos (.inl ha)] at HE
    subst ha
    have X0 : K.Ext w w := K.Ext.refl w
    go_enter Tryz.func49, Tryz.ntmps49
    go_wp2_with (go_at_call 81; refine K.call (by with_reducible rfl) (by with_reducible rfl) (HR.out _ (K.ints.alloc hRL_ _) (K.ints.alloc hRR_ _)) ?_; rintro e w1 ⟨rfl, x1⟩; have s1 : w.heap.size + 1 ≤ w1.heap.size := (by have h_ := x1.size; (try simp at h_); omega); have X1 := K.Ext.trans (K.Ext.alloc X0 _) x1; obtain ⟨c1_0_0, c1_0_1, c1_0_2⟩ := K.c3 x1 (w.heap.size) (.int .i64 R.ln) (.slice oRL R.st.length cRL) (.slice oRR R.sl.length cRR) (by go_simp); have z1_0 : w.heap.size < w1.heap.size := World.block_lt_of_cell? w1 _ c1_0_0; have d1_0 : ¬ (w.heap.size = w1.heap.size) := (by omega); have e1_0 : ¬ (w1.heap.size = w.heap.size) := (by omega); have F1_1 := K.ints.ext (K.ints.alloc hRL_ _) x1; have F2_1 := K.ints.ext (K.ints.alloc hRR_ _) x1; clear hRL_ hRR_)
    go_wp2_with (go_at_call 54; refine K.call (by with_reducible rfl) (by with_reducible rfl) (HG.out _ K.bel) ?_; rintro e w2 ⟨rfl, x2⟩; have s2 : w1.heap.size ≤ w2.heap.size := (by have h_ := x2.size; (try simp at h_); omega); have X2 := K.Ext.trans (X1) x2; obtain ⟨c2_0_0, c2_0_1, c2_0_2⟩ := K.c3 x2 (w.heap.size) (.int .i64 R.ln) (.slice oRL R.st.length cRL) (.slice oRR R.sl.length cRR) (by go_simp); have z2_0 : w.heap.size < w2.heap.size := World.block_lt_of_cell? w2 _ c2_0_0; have d2_0 : ¬ (w.heap.size = w2.heap.size) := (by omega); have e2_0 : ¬ (w2.heap.size = w.heap.size) := (by omega); have F1_2 := K.ints.ext (F1_1) x2; have F2_2 := K.ints.ext (F2_1) x2; clear c1_0_0 c1_0_1 c1_0_2 z1_0 d1_0 e1_0 F1_1 F2_1)
    go_wp2_with (go_at_call 58; refine K.call (by with_reducible rfl) (by with_reducible rfl) (HF _) ?_; rintro e w_ ⟨rfl, rfl⟩)
    rw [HE.out]
    refine bodyPost_ret (v := .int .i64 2) (by unfold results; rw [Tryz.results49]; go_simp) rfl ⟨rfl, ?_⟩
    repeat with_reducible refine K.Ext.setCell ?_ (by dsimp only; omega) _
    exact (by repeat' (first | with_reducible exact X2 | with_reducible refine K.Ext.setCell ?_ ?_ _ | with_reducible refine K.Ext.alloc ?_ _ | with_reducible refine K.Ext.drew ?_ | (dsimp only; omega) | omega | (simp; omega)))
  have ha' : (a == 0) = false := by simpa using ha
  by_cases hb : b = 0
  · rw [if_pos (.inr (.inl hb))] at HE
    subst hb
    have X0 : K.Ext w w := K.Ext.refl w
    go_enter Tryz.func49, Tryz.ntmps49
    go_wp2_with (go_at_call 81; refine K.call (by with_reducible rfl) (by with_reducible rfl) (HR.out _ (K.ints.alloc hRL_ _) (K.ints.alloc hRR_ _)) ?_; rintro e w1 ⟨rfl, x1⟩; have s1 : w.heap.size + 1 ≤ w1.heap.size := (by have h_ := x1.size; (try simp at h_); omega); have X1 := K.Ext.trans (K.Ext.alloc X0 _) x1; obtain ⟨c1_0_0, c1_0_1, c1_0_2⟩ := K.c3 x1 (w.heap.size) (.int .i64 R.ln) (.slice oRL R.st.length cRL) (.slice oRR R.sl.length cRR) (by go_simp); have z1_0 : w.heap.size < w1.heap.size := World.block_lt_of_cell? w1 _ c1_0_0; have d1_0 : ¬ (w.heap.size = w1.heap.size) := (by omega); have e1_0 : ¬ (w1.heap.size = w.heap.size) := (by omega); have F1_1 := K.ints.ext (K.ints.alloc hRL_ _) x1; have F2_1 := K.ints.ext (K.ints.alloc hRR_ _) x1; clear hRL_ hRR_)
    go_wp2_with (go_at_call 54; refine K.call (by with_reducible rfl) (by with_reducible rfl) (HG.out _ K.bel) ?_; rintro e w2 ⟨rfl, x2⟩; have s2 : w1.heap.size ≤ w2.heap.size := (by have h_ := x2.size; (try simp at h_); omega); have X2 := K.Ext.trans (X1) x2; obtain ⟨c2_0_0, c2_0_1, c2_0_2⟩ := K.c3 x2 (w.heap.size) (.int .i64 R.ln) (.slice oRL R.st.length cRL) (.slice oRR R.sl.length cRR) (by go_simp); have z2_0 : w.heap.size < w2.heap.size := World.block_lt_of_cell? w2 _ c2_0_0; have d2_0 : ¬ (w.heap.size = w2.heap.size) := (by omega); have e2_0 : ¬ (w2.heap.size = w.heap.size) := (by omega); have F1_2 := K.ints.ext (F1_1) x2; have F2_2 := K.ints.ext (F2_1) x2; clear c1_0_0 c1_0_1 c1_0_2 z1_0 d1_0 e1_0 F1_1 F2_1)
    go_wp2_with (go_at_call 58; refine K.call (by with_reducible rfl) (by with_reducible rfl) (HF _) ?_; rintro e w_ ⟨rfl, rfl⟩)
    go_wp2_with (go_at_call 58; refine K.call (by with_reducible rfl) (by with_reducible rfl) (HT _) ?_; rintro e w_ ⟨rfl, rfl⟩)
    rw [HE.out]
    refine bodyPost_ret (v := .int .i64 2) (by unfold results; rw [Tryz.results49]; go_simp) rfl ⟨rfl, ?_⟩
    repeat with_reducible refine K.Ext.setCell ?_ (by dsimp only; omega) _
    exact (by repeat' (first | with_reducible exact X2 | with_reducible refine K.Ext.setCell ?_ ?_ _ | with_reducible refine K.Ext.alloc ?_ _ | with_reducible refine K.Ext.drew ?_ | (dsimp only; omega) | omega | (simp; omega)))
  have hb' : (b == 0) = false := by simpa using hb
  cases p
  · rw [if_pos (.inr (.inr (.inl rfl)))] at HE
    have X0 : K.Ext w w := K.Ext.refl w
    go_enter Tryz.func49, Tryz.ntmps49
    go_wp2_with (go_at_call 81; refine K.call (by with_reducible rfl) (by with_reducible rfl) (HR.out _ (K.ints.alloc hRL_ _) (K.ints.alloc hRR_ _)) ?_; rintro e w1 ⟨rfl, x1⟩; have s1 : w.heap.size + 1 ≤ w1.heap.size := (by have h_ := x1.size; (try simp at h_); omega); have X1 := K.Ext.trans (K.Ext.alloc X0 _) x1; obtain ⟨c1_0_0, c1_0_1, c1_0_2⟩ := K.c3 x1 (w.heap.size) (.int .i64 R.ln) (.slice oRL R.st.length cRL) (.slice oRR R.sl.length cRR) (by go_simp); have z1_0 : w.heap.size < w1.heap.size := World.block_lt_of_cell? w1 _ c1_0_0; have d1_0 : ¬ (w.heap.size = w1.heap.size) := (by omega); have e1_0 : ¬ (w1.heap.size = w.heap.size) := (by omega); have F1_1 := K.ints.ext (K.ints.alloc hRL_ _) x1; have F2_1 := K.ints.ext (K.ints.alloc hRR_ _) x1; clear hRL_ hRR_)
    go_wp2_with (go_at_call 54; refine K.call (by with_reducible rfl) (by with_reducible rfl) (HG.out _ K.bel) ?_; rintro e w2 ⟨rfl, x2⟩; have s2 : w1.heap.size ≤ w2.heap.size := (by have h_ := x2.size; (try simp at h_); omega); have X2 := K.Ext.trans (X1) x2; obtain ⟨c2_0_0, c2_0_1, c2_0_2⟩ := K.c3 x2 (w.heap.size) (.int .i64 R.ln) (.slice oRL R.st.length cRL) (.slice oRR R.sl.length cRR) (by go_simp); have z2_0 : w.heap.size < w2.heap.size := World.block_lt_of_cell? w2 _ c2_0_0; have d2_0 : ¬ (w.heap.size = w2.heap.size) := (by omega); have e2_0 : ¬ (w2.heap.size = w.heap.size) := (by omega); have F1_2 := K.ints.ext (F1_1) x2; have F2_2 := K.ints.ext (F2_1) x2; clear c1_0_0 c1_0_1 c1_0_2 z1_0 d1_0 e1_0 F1_1 F2_1)
    go_wp2_with (go_at_call 58; refine K.call (by with_reducible rfl) (by with_reducible rfl) (HF _) ?_; rintro e w_ ⟨rfl, rfl⟩)
    go_wp2_with (go_at_call 58; refine K.call (by with_reducible rfl) (by with_reducible rfl) (HT _) ?_; rintro e w_ ⟨rfl, rfl⟩)
    go_wp2_with (go_at_call 82; refine K.call (by with_reducible rfl) (by with_reducible rfl) (HSF.out _ (F1_2) (F2_2)) ?_; rintro e w5 ⟨rfl, x5⟩; have s5 : w2.heap.size ≤ w5.heap.size := (by have h_ := x5.size; (try simp at h_); omega); have X5 := K.Ext.trans (X2) x5; obtain ⟨c5_0_0, c5_0_1, c5_0_2⟩ := K.c3 x5 (w.heap.size) (.int .i64 R.ln) (.slice oRL R.st.length cRL) (.slice oRR R.sl.length cRR) (by go_simp); have z5_0 : w.heap.size < w5.heap.size := World.block_lt_of_cell? w5 _ c5_0_0; have d5_0 : ¬ (w.heap.size = w5.heap.size) := (by omega); have e5_0 : ¬ (w5.heap.size = w.heap.size) := (by omega); have F1_5 := K.ints.ext (F1_2) x5; have F2_5 := K.ints.ext (F2_2) x5; clear c2_0_0 c2_0_1 c2_0_2 z2_0 d2_0 e2_0 F1_2 F2_2)
    rw [HE.out]
    refine bodyPost_ret (v := .int .i64 2) (by unfold results; rw [Tryz.results49]; go_simp) rfl ⟨rfl, ?_⟩
    repeat with_reducible refine K.Ext.setCell ?_ (by dsimp only; omega) _
    exact (by repeat' (first | with_reducible exact X5 | with_reducible refine K.Ext.setCell ?_ ?_ _ | with_reducible refine K.Ext.alloc ?_ _ | with_reducible refine K.Ext.drew ?_ | (dsimp only; omega) | omega | (simp; omega)))
  cases q
  · rw [if_pos (.inr (.inr (.inr rfl)))] at HE
    have X0 : K.Ext w w := K.Ext.refl w
    go_enter Tryz.func49, Tryz.ntmps49
    go_wp2_with (go_at_call 81; refine K.call (by with_reducible rfl) (by with_reducible rfl) (HR.out _ (K.ints.alloc hRL_ _) (K.ints.alloc hRR_ _)) ?_; rintro e w1 ⟨rfl, x1⟩; have s1 : w.heap.size + 1 ≤ w1.heap.size := (by have h_ := x1.size; (try simp at h_); omega); have X1 := K.Ext.trans (K.Ext.alloc X0 _) x1; obtain ⟨c1_0_0, c1_0_1, c1_0_2⟩ := K.c3 x1 (w.heap.size) (.int .i64 R.ln) (.slice oRL R.st.length cRL) (.slice oRR R.sl.length cRR) (by go_simp); have z1_0 : w.heap.size < w1.heap.size := World.block_lt_of_cell? w1 _ c1_0_0; have d1_0 : ¬ (w.heap.size = w1.heap.size) := (by omega); have e1_0 : ¬ (w1.heap.size = w.heap.size) := (by omega); have F1_1 := K.ints.ext (K.ints.alloc hRL_ _) x1; have F2_1 := K.ints.ext (K.ints.alloc hRR_ _) x1; clear hRL_ hRR_)
    go_wp2_with (go_at_call 54; refine K.call (by with_reducible rfl) (by with_reducible rfl) (HG.out _ K.bel) ?_; rintro e w2 ⟨rfl, x2⟩; have s2 : w1.heap.size ≤ w2.heap.size := (by have h_ := x2.size; (try simp at h_); omega); have X2 := K.Ext.trans (X1) x2; obtain ⟨c2_0_0, c2_0_1, c2_0_2⟩ := K.c3 x2 (w.heap.size) (.int .i64 R.ln) (.slice oRL R.st.length cRL) (.slice oRR R.sl.length cRR) (by go_simp); have z2_0 : w.heap.size < w2.heap.size := World.block_lt_of_cell? w2 _ c2_0_0; have d2_0 : ¬ (w.heap.size = w2.heap.size) := (by omega); have e2_0 : ¬ (w2.heap.size = w.heap.size) := (by omega); have F1_2 := K.ints.ext (F1_1) x2; have F2_2 := K.ints.ext (F2_1) x2; clear c1_0_0 c1_0_1 c1_0_2 z1_0 d1_0 e1_0 F1_1 F2_1)
    go_wp2_with (go_at_call 58; refine K.call (by with_reducible rfl) (by with_reducible rfl) (HF _) ?_; rintro e w_ ⟨rfl, rfl⟩)
    go_wp2_with (go_at_call 58; refine K.call (by with_reducible rfl) (by with_reducible rfl) (HT _) ?_; rintro e w_ ⟨rfl, rfl⟩)
    go_wp2_with (go_at_call 82; refine K.call (by with_reducible rfl) (by with_reducible rfl) (HSF.out _ (F1_2) (F2_2)) ?_; rintro e w5 ⟨rfl, x5⟩; have s5 : w2.heap.size ≤ w5.heap.size := (by have h_ := x5.size; (try simp at h_); omega); have X5 := K.Ext.trans (X2) x5; obtain ⟨c5_0_0, c5_0_1, c5_0_2⟩ := K.c3 x5 (w.heap.size) (.int .i64 R.ln) (.slice oRL R.st.length cRL) (.slice oRR R.sl.length cRR) (by go_simp); have z5_0 : w.heap.size < w5.heap.size := World.block_lt_of_cell? w5 _ c5_0_0; have d5_0 : ¬ (w.heap.size = w5.heap.size) := (by omega); have e5_0 : ¬ (w5.heap.size = w.heap.size) := (by omega); have F1_5 := K.ints.ext (F1_2) x5; have F2_5 := K.ints.ext (F2_2) x5; clear c2_0_0 c2_0_1 c2_0_2 z2_0 d2_0 e2_0 F1_2 F2_2)
    go_wp2_with (go_at_call 82; refine K.call (by with_reducible rfl) (by with_reducible rfl) (HST.out _ (F1_5) (F2_5)) ?_; rintro e w6 ⟨rfl, x6⟩; have s6 : w5.heap.size ≤ w6.heap.size := (by have h_ := x6.size; (try simp at h_); omega); have X6 := K.Ext.trans (X5) x6; obtain ⟨c6_0_0, c6_0_1, c6_0_2⟩ := K.c3 x6 (w.heap.size) (.int .i64 R.ln) (.slice oRL R.st.length cRL) (.slice oRR R.sl.length cRR) (by go_simp); have z6_0 : w.heap.size < w6.heap.size := World.block_lt_of_cell? w6 _ c6_0_0; have d6_0 : ¬ (w.heap.size = w6.heap.size) := (by omega); have e6_0 : ¬ (w6.heap.size = w.heap.size) := (by omega); have F1_6 := K.ints.ext (F1_5) x6; have F2_6 := K.ints.ext (F2_5) x6; clear c5_0_0 c5_0_1 c5_0_2 z5_0 d5_0 e5_0 F1_5 F2_5)
    rw [HE.out]
    refine bodyPost_ret (v := .int .i64 2) (by unfold results; rw [Tryz.results49]; go_simp) rfl ⟨rfl, ?_⟩
    repeat with_reducible refine K.Ext.setCell ?_ (by dsimp only; omega) _
    exact (by repeat' (first | with_reducible exact X6 | with_reducible refine K.Ext.setCell ?_ ?_ _ | with_reducible refine K.Ext.alloc ?_ _ | with_reducible refine K.Ext.drew ?_ | (dsimp only; omega) | omega | (simp; omega)))
  · rw [if_neg (by simp [ha, hb])] at HE
    have X0 : K.Ext w w := K.Ext.refl w
    go_enter Tryz.func49, Tryz.ntmps49
    go_wp2_with (go_at_call 81; refine K.call (by with_reducible rfl) (by with_reducible rfl) (HR.out _ (K.ints.alloc hRL_ _) (K.ints.alloc hRR_ _)) ?_; rintro e w1 ⟨rfl, x1⟩; have s1 : w.heap.size + 1 ≤ w1.heap.size := (by have h_ := x1.size; (try simp at h_); omega); have X1 := K.Ext.trans (K.Ext.alloc X0 _) x1; obtain ⟨c1_0_0, c1_0_1, c1_0_2⟩ := K.c3 x1 (w.heap.size) (.int .i64 R.ln) (.slice oRL R.st.length cRL) (.slice oRR R.sl.length cRR) (by go_simp); have z1_0 : w.heap.size < w1.heap.size := World.block_lt_of_cell? w1 _ c1_0_0; have d1_0 : ¬ (w.heap.size = w1.heap.size) := (by omega); have e1_0 : ¬ (w1.heap.size = w.heap.size) := (by omega); have F1_1 := K.ints.ext (K.ints.alloc hRL_ _) x1; have F2_1 := K.ints.ext (K.ints.alloc hRR_ _) x1; clear hRL_ hRR_)
    go_wp2_with (go_at_call 54; refine K.call (by with_reducible rfl) (by with_reducible rfl) (HG.out _ K.bel) ?_; rintro e w2 ⟨rfl, x2⟩; have s2 : w1.heap.size ≤ w2.heap.size := (by have h_ := x2.size; (try simp at h_); omega); have X2 := K.Ext.trans (X1) x2; obtain ⟨c2_0_0, c2_0_1, c2_0_2⟩ := K.c3 x2 (w.heap.size) (.int .i64 R.ln) (.slice oRL R.st.length cRL) (.slice oRR R.sl.length cRR) (by go_simp); have z2_0 : w.heap.size < w2.heap.size := World.block_lt_of_cell? w2 _ c2_0_0; have d2_0 : ¬ (w.heap.size = w2.heap.size) := (by omega); have e2_0 : ¬ (w2.heap.size = w.heap.size) := (by omega); have F1_2 := K.ints.ext (F1_1) x2; have F2_2 := K.ints.ext (F2_1) x2; clear c1_0_0 c1_0_1 c1_0_2 z1_0 d1_0 e1_0 F1_1 F2_1)
    go_wp2_with (go_at_call 58; refine K.call (by with_reducible rfl) (by with_reducible rfl) (HF _) ?_; rintro e w_ ⟨rfl, rfl⟩)
    go_wp2_with (go_at_call 58; refine K.call (by with_reducible rfl) (by with_reducible rfl) (HT _) ?_; rintro e w_ ⟨rfl, rfl⟩)
    go_wp2_with (go_at_call 82; refine K.call (by with_reducible rfl) (by with_reducible rfl) (HSF.out _ (F1_2) (F2_2)) ?_; rintro e w5 ⟨rfl, x5⟩; have s5 : w2.heap.size ≤ w5.heap.size := (by have h_ := x5.size; (try simp at h_); omega); have X5 := K.Ext.trans (X2) x5; obtain ⟨c5_0_0, c5_0_1, c5_0_2⟩ := K.c3 x5 (w.heap.size) (.int .i64 R.ln) (.slice oRL R.st.length cRL) (.slice oRR R.sl.length cRR) (by go_simp); have z5_0 : w.heap.size < w5.heap.size := World.block_lt_of_cell? w5 _ c5_0_0; have d5_0 : ¬ (w.heap.size = w5.heap.size) := (by omega); have e5_0 : ¬ (w5.heap.size = w.heap.size) := (by omega); have F1_5 := K.ints.ext (F1_2) x5; have F2_5 := K.ints.ext (F2_2) x5; clear c2_0_0 c2_0_1 c2_0_2 z2_0 d2_0 e2_0 F1_2 F2_2)
    go_wp2_with (go_at_call 82; refine K.call (by with_reducible rfl) (by with_reducible rfl) (HST.out _ (F1_5) (F2_5)) ?_; rintro e w6 ⟨rfl, x6⟩; have s6 : w5.heap.size ≤ w6.heap.size := (by have h_ := x6.size; (try simp at h_); omega); have X6 := K.Ext.trans (X5) x6; obtain ⟨c6_0_0, c6_0_1, c6_0_2⟩ := K.c3 x6 (w.heap.size) (.int .i64 R.ln) (.slice oRL R.st.length cRL) (.slice oRR R.sl.length cRR) (by go_simp); have z6_0 : w.heap.size < w6.heap.size := World.block_lt_of_cell? w6 _ c6_0_0; have d6_0 : ¬ (w.heap.size = w6.heap.size) := (by omega); have e6_0 : ¬ (w6.heap.size = w.heap.size) := (by omega); have F1_6 := K.ints.ext (F1_5) x6; have F2_6 := K.ints.ext (F2_5) x6; clear c5_0_0 c5_0_1 c5_0_2 z5_0 d5_0 e5_0 F1_5 F2_5)
    rw [HE.out]
    refine bodyPost_ret (v := .int .i64 0) (by unfold results; rw [Tryz.results49]; go_simp) rfl ⟨rfl, ?_⟩
    repeat with_reducible refine K.Ext.setCell ?_ (by dsimp only; omega) _
    exact (by repeat' (first | with_reducible exact X6 | with_reducible refine K.Ext.setCell ?_ ?_ _ | with_reducible refine K.Ext.alloc ?_ _ | with_reducible refine K.Ext.drew ?_ | (dsimp only; omega) | omega | (simp; omega)))
theorem l17Code_any (R : Z.Rl) (fr : Int) (to : Int) (f : Int × Int) {loRL hiRL loRR hiRR : Nat} {pRL pRR : Value} (w : World)  (hmRL : R.st.length ≤ 1048576) (hRL : K.ints w loRL hiRL pRL R.st) (hcRL : K.roomy pRL R.st.length) (hmRR : R.sl.length ≤ 1048576) (hRR : K.ints w loRR hiRR pRR R.sl) (hcRR : K.roomy pRR R.sl.length) :
    Calls Tryz.prog 51 #[.agg #[.int .i64 R.ln, pRL, pRR], .int .i64 fr, .int .i64 to, .agg #[.int .i64 f.1, .int .i64 f.2]] w fun e w' => e = .returned (.int .i64 (Z.tCode R fr to (Z.isFig f.1 f.2))) ∧ K.Ext w w' := by
  have hRL_ := hRL
  have shRL := hRL
  obtain ⟨oRL, cRL, rfl, _⟩ := shRL
  have hRR_ := hRR
  have shRR := hRR
  obtain ⟨oRR, cRR, rfl, _⟩ := shRR
  have HF := fun w => l17Order_any fr w
  have HT := fun w => l17Order_any to w
  have HE : Hid (Z.tCode R fr to (Z.isFig f.1 f.2) = if (Z.isRule R && Z.isFig f.1 f.2) = false then 1 else if Z.ordS fr = 0 ∨ Z.ordS to = 0 ∨ Z.has R.st fr = false ∨ Z.has R.st to = false then 2 else 0) := Z.hide rfl
  have HR : Hid (∀ w' : World, K.ints w' loRL hiRL (.slice oRL R.st.length cRL) R.st → K.ints w' loRR hiRR (.slice oRR R.sl.length cRR) R.sl → Calls Tryz.prog 85 #[.agg #[.int .i64 R.ln, .slice oRL R.st.length cRL, .slice oRR R.sl.length cRR]] w' fun e w'' => e = .returned (.bool (Z.isRule R)) ∧ K.Ext w' w'') := Z.hide (fun w' h1 h2 => spec_IsRule R w' hmRL h1 hcRL hmRR h2 hcRR)
  have HS : Hid (∀ (x : Int) (w' : World), K.ints w' loRL hiRL (.slice oRL R.st.length cRL) R.st → Calls Tryz.prog 86 #[.slice oRL R.st.length cRL, .int .i64 x] w' fun e w'' => e = .returned (.bool (Z.has R.st x)) ∧ w' = w'') := Z.hide (fun x w' h1 => l01Has_any R.st x w' hmRL h1)
  have HG : Hid (∀ w' : World, Calls Tryz.prog 52 #[.agg #[.int .i64 f.1, .int .i64 f.2]] w' fun e w'' => e = .returned (.bool (Z.isFig f.1 f.2)) ∧ K.Ext w' w'') := Z.hide (fun w' => spec_IsFigure f.1 f.2 w')
  have HSF := Z.hide (HS.out fr)
  have HST := Z.hide (HS.out to)
  clear HS
  generalize Z.ordS fr = a at *
  generalize Z.ordS to = b at *
  generalize Z.has R.st fr = p at *
  generalize Z.has R.st to = q at *
  generalize Z.isRule R = r at *
  generalize Z.isFig f.1 f.2 = g at *
  cases r
  · have HQ : Hid (Z.tCode R fr to g = 1) := Z.hide HE.out
    clear HE
    have X0 : K.Ext w w := K.Ext.refl w
    go_enter Tryz.func51, Tryz.ntmps51
    go_wp2_with (go_at_call 85; refine K.call (by with_reducible rfl) (by with_reducible rfl) (HR.out _ (K.ints.alloc (K.ints.alloc hRL_ _) _) (K.ints.alloc (K.ints.alloc hRR_ _) _)) ?_; rintro e w1 ⟨rfl, x1⟩; have s1 : w.heap.size + 2 ≤ w1.heap.size := (by have h_ := x1.size; (try simp at h_); omega); have X1 := K.Ext.trans (K.Ext.alloc (K.Ext.alloc X0 _) _) x1; obtain ⟨c1_0_0, c1_0_1, c1_0_2⟩ := K.c3 x1 (w.heap.size) (.int .i64 R.ln) (.slice oRL R.st.length cRL) (.slice oRR R.sl.length cRR) (by go_simp); have z1_0 : w.heap.size < w1.heap.size := World.block_lt_of_cell? w1 _ c1_0_0; have d1_0 : ¬ (w.heap.size = w1.heap.size) := (by omega); have e1_0 : ¬ (w1.heap.size = w.heap.size) := (by omega); obtain ⟨c1_1_0, c1_1_1⟩ := K.c2 x1 (w.heap.size + 1) (.int .i64 f.1) (.int .i64 f.2) (by go_simp); have z1_1 : w.heap.size + 1 < w1.heap.size := World.block_lt_of_cell? w1 _ c1_1_0; have d1_1 : ¬ (w.heap.size + 1 = w1.heap.size) := (by omega); have e1_1 : ¬ (w1.heap.size = w.heap.size + 1) := (by omega); have n1_0 : ¬ (w.heap.size + 1 = w.heap.size) := (by omega); have n0_1 : ¬ (w.heap.size = w.heap.size + 1) := (by omega); have F1_1 := K.ints.ext (K.ints.alloc (K.ints.alloc hRL_ _) _) x1; have F2_1 := K.ints.ext (K.ints.alloc (K.ints.alloc hRR_ _) _) x1; clear hRL_ hRR_)
    rw [HQ.out]
    refine bodyPost_ret (v := .int .i64 1) (by unfold results; rw [Tryz.results51]; go_simp) rfl ⟨rfl, ?_⟩
    repeat with_reducible refine K.Ext.setCell ?_ (by dsimp only; omega) _
    exact (by repeat' (first | with_reducible exact X1 | with_reducible refine K.Ext.setCell ?_ ?_ _ | with_reducible refine K.Ext.alloc ?_ _ | with_reducible refine K.Ext.drew ?_ | (dsimp only; omega) | omega | (simp; omega)))
  cases g
  · have HQ : Hid (Z.tCode R fr to false = 1) := Z.hide HE.out
    clear HE
    have X0 : K.Ext w w := K.Ext.refl w
    go_enter Tryz.func51, Tryz.ntmps51
    go_wp2_with (go_at_call 85; refine K.call (by with_reducible rfl) (by with_reducible rfl) (HR.out _ (K.ints.alloc (K.ints.alloc hRL_ _) _) (K.ints.alloc (K.ints.alloc hRR_ _) _)) ?_; rintro e w1 ⟨rfl, x1⟩; have s1 : w.heap.size + 2 ≤ w1.heap.size := (by have h_ := x1.size; (try simp at h_); omega); have X1 := K.Ext.trans (K.Ext.alloc (K.Ext.alloc X0 _) _) x1; obtain ⟨c1_0_0, c1_0_1, c1_0_2⟩ := K.c3 x1 (w.heap.size) (.int .i64 R.ln) (.slice oRL R.st.length cRL) (.slice oRR R.sl.length cRR) (by go_simp); have z1_0 : w.heap.size < w1.heap.size := World.block_lt_of_cell? w1 _ c1_0_0; have d1_0 : ¬ (w.heap.size = w1.heap.size) := (by omega); have e1_0 : ¬ (w1.heap.size = w.heap.size) := (by omega); obtain ⟨c1_1_0, c1_1_1⟩ := K.c2 x1 (w.heap.size + 1) (.int .i64 f.1) (.int .i64 f.2) (by go_simp); have z1_1 : w.heap.size + 1 < w1.heap.size := World.block_lt_of_cell? w1 _ c1_1_0; have d1_1 : ¬ (w.heap.size + 1 = w1.heap.size) := (by omega); have e1_1 : ¬ (w1.heap.size = w.heap.size + 1) := (by omega); have n1_0 : ¬ (w.heap.size + 1 = w.heap.size) := (by omega); have n0_1 : ¬ (w.heap.size = w.heap.size + 1) := (by omega); have F1_1 := K.ints.ext (K.ints.alloc (K.ints.alloc hRL_ _) _) x1; have F2_1 := K.ints.ext (K.ints.alloc (K.ints.alloc hRR_ _) _) x1; clear hRL_ hRR_)
    go_wp2_with (go_at_call 52; refine K.call (by with_reducible rfl) (by with_reducible rfl) (HG.out _) ?_; rintro e w2 ⟨rfl, x2⟩; have s2 : w1.heap.size ≤ w2.heap.size := (by have h_ := x2.size; (try simp at h_); omega); have X2 := K.Ext.trans (X1) x2; obtain ⟨c2_0_0, c2_0_1, c2_0_2⟩ := K.c3 x2 (w.heap.size) (.int .i64 R.ln) (.slice oRL R.st.length cRL) (.slice oRR R.sl.length cRR) (by go_simp); have z2_0 : w.heap.size < w2.heap.size := World.block_lt_of_cell? w2 _ c2_0_0; have d2_0 : ¬ (w.heap.size = w2.heap.size) := (by omega); have e2_0 : ¬ (w2.heap.size = w.heap.size) := (by omega); obtain ⟨c2_1_0, c2_1_1⟩ := K.c2 x2 (w.heap.size + 1) (.int .i64 f.1) (.int .i64 f.2) (by go_simp); have z2_1 : w.heap.size + 1 < w2.heap.size := World.block_lt_of_cell? w2 _ c2_1_0; have d2_1 : ¬ (w.heap.size + 1 = w2.heap.size) := (by omega); have e2_1 : ¬ (w2.heap.size = w.heap.size + 1) := (by omega); have F1_2 := K.ints.ext (F1_1) x2; have F2_2 := K.ints.ext (F2_1) x2; clear c1_0_0 c1_0_1 c1_0_2 z1_0 d1_0 e1_0 c1_1_0 c1_1_1 z1_1 d1_1 e1_1 F1_1 F2_1)
    rw [HQ.out]
    refine bodyPost_ret (v := .int .i64 1) (by unfold results; rw [Tryz.results51]; go_simp) rfl ⟨rfl, ?_⟩
    repeat with_reducible refine K.Ext.setCell ?_ (by dsimp only; omega) _
    exact (by repeat' (first | with_reducible exact X2 | with_reducible refine K.Ext.setCell ?_ ?_ _ | with_reducible refine K.Ext.alloc ?_ _ | with_reducible refine K.Ext.drew ?_ | (dsimp only; omega) | omega | (simp; omega)))
  rw [if_neg (by decide)] at HE
  by_cases ha : a = 0
  · rw [if_pos (.inl ha)] at HE
    subst ha
    have X0 : K.Ext w w := K.Ext.refl w
    go_enter Tryz.func51, Tryz.ntmps51
    go_wp2_with (go_at_call 85; refine K.call (by with_reducible rfl) (by with_reducible rfl) (HR.out _ (K.ints.alloc (K.ints.alloc hRL_ _) _) (K.ints.alloc (K.ints.alloc hRR_ _) _)) ?_; rintro e w1 ⟨rfl, x1⟩; have s1 : w.heap.size + 2 ≤ w1.heap.size := (by have h_ := x1.size; (try simp at h_); omega); have X1 := K.Ext.trans (K.Ext.alloc (K.Ext.alloc X0 _) _) x1; obtain ⟨c1_0_0, c1_0_1, c1_0_2⟩ := K.c3 x1 (w.heap.size) (.int .i64 R.ln) (.slice oRL R.st.length cRL) (.slice oRR R.sl.length cRR) (by go_simp); have z1_0 : w.heap.size < w1.heap.size := World.block_lt_of_cell? w1 _ c1_0_0; have d1_0 : ¬ (w.heap.size = w1.heap.size) := (by omega); have e1_0 : ¬ (w1.heap.size = w.heap.size) := (by omega); obtain ⟨c1_1_0, c1_1_1⟩ := K.c2 x1 (w.heap.size + 1) (.int .i64 f.1) (.int .i64 f.2) (by go_simp); have z1_1 : w.heap.size + 1 < w1.heap.size := World.block_lt_of_cell? w1 _ c1_1_0; have d1_1 : ¬ (w.heap.size + 1 = w1.heap.size) := (by omega); have e1_1 : ¬ (w1.heap.size = w.heap.size + 1) := (by omega); have n1_0 : ¬ (w.heap.size + 1 = w.heap.size) := (by omega); have n0_1 : ¬ (w.heap.size = w.heap.size + 1) := (by omega); have F1_1 := K.ints.ext (K.ints.alloc (K.ints.alloc hRL_ _) _) x1; have F2_1 := K.ints.ext (K.ints.alloc (K.ints.alloc hRR_ _) _) x1; clear hRL_ hRR_)
    go_wp2_with (go_at_call 52; refine K.call (by with_reducible rfl) (by with_reducible rfl) (HG.out _) ?_; rintro e w2 ⟨rfl, x2⟩; have s2 : w1.heap.size ≤ w2.heap.size := (by have h_ := x2.size; (try simp at h_); omega); have X2 := K.Ext.trans (X1) x2; obtain ⟨c2_0_0, c2_0_1, c2_0_2⟩ := K.c3 x2 (w.heap.size) (.int .i64 R.ln) (.slice oRL R.st.length cRL) (.slice oRR R.sl.length cRR) (by go_simp); have z2_0 : w.heap.size < w2.heap.size := World.block_lt_of_cell? w2 _ c2_0_0; have d2_0 : ¬ (w.heap.size = w2.heap.size) := (by omega); have e2_0 : ¬ (w2.heap.size = w.heap.size) := (by omega); obtain ⟨c2_1_0, c2_1_1⟩ := K.c2 x2 (w.heap.size + 1) (.int .i64 f.1) (.int .i64 f.2) (by go_simp); have z2_1 : w.heap.size + 1 < w2.heap.size := World.block_lt_of_cell? w2 _ c2_1_0; have d2_1 : ¬ (w.heap.size + 1 = w2.heap.size) := (by omega); have e2_1 : ¬ (w2.heap.size = w.heap.size + 1) := (by omega); have F1_2 := K.ints.ext (F1_1) x2; have F2_2 := K.ints.ext (F2_1) x2; clear c1_0_0 c1_0_1 c1_0_2 z1_0 d1_0 e1_0 c1_1_0 c1_1_1 z1_1 d1_1 e1_1 F1_1 F2_1)
    go_wp2_with (go_at_call 59; refine K.call (by with_reducible rfl) (by with_reducible rfl) (HF _) ?_; rintro e w_ ⟨rfl, rfl⟩)
    rw [HE.out]
    refine bodyPost_ret (v := .int .i64 2) (by unfold results; rw [Tryz.results51]; go_simp) rfl ⟨rfl, ?_⟩
    repeat with_reducible refine K.Ext.setCell ?_ (by dsimp only; omega) _
    exact (by repeat' (first | with_reducible exact X2 | with_reducible refine K.Ext.setCell ?_ ?_ _ | with_reducible refine K.Ext.alloc ?_ _ | with_reducible refine K.Ext.drew ?_ | (dsimp only; omega) | omega | (simp; omega)))
  have ha' : (a == 0) = false := by simpa using ha
  by_cases hb : b = 0
  · rw [if_pos (.inr (.inl hb))] at HE
    subst hb
    have X0 : K.Ext w w := K.Ext.refl w
    go_enter Tryz.func51, Tryz.ntmps51
    go_wp2_with (go_at_call 85; refine K.call (by with_reducible rfl) (by with_reducible rfl) (HR.out _ (K.ints.alloc (K.ints.alloc hRL_ _) _) (K.ints.alloc (K.ints.alloc hRR_ _) _)) ?_; rintro e w1 ⟨rfl, x1⟩; have s1 : w.heap.size + 2 ≤ w1.heap.size := (by have h_ := x1.size; (try simp at h_); omega); have X1 := K.Ext.trans (K.Ext.alloc (K.Ext.alloc X0 _) _) x1; obtain ⟨c1_0_0, c1_0_1, c1_0_2⟩ := K.c3 x1 (w.heap.size) (.int .i64 R.ln) (.slice oRL R.st.length cRL) (.slice oRR R.sl.length cRR) (by go_simp); have z1_0 : w.heap.size < w1.heap.size := World.block_lt_of_cell? w1 _ c1_0_0; have d1_0 : ¬ (w.heap.size = w1.heap.size) := (by omega); have e1_0 : ¬ (w1.heap.size = w.heap.size) := (by omega); obtain ⟨c1_1_0, c1_1_1⟩ := K.c2 x1 (w.heap.size + 1) (.int .i64 f.1) (.int .i64 f.2) (by go_simp); have z1_1 : w.heap.size + 1 < w1.heap.size := World.block_lt_of_cell? w1 _ c1_1_0; have d1_1 : ¬ (w.heap.size + 1 = w1.heap.size) := (by omega); have e1_1 : ¬ (w1.heap.size = w.heap.size + 1) := (by omega); have n1_0 : ¬ (w.heap.size + 1 = w.heap.size) := (by omega); have n0_1 : ¬ (w.heap.size = w.heap.size + 1) := (by omega); have F1_1 := K.ints.ext (K.ints.alloc (K.ints.alloc hRL_ _) _) x1; have F2_1 := K.ints.ext (K.ints.alloc (K.ints.alloc hRR_ _) _) x1; clear hRL_ hRR_)
    go_wp2_with (go_at_call 52; refine K.call (by with_reducible rfl) (by with_reducible rfl) (HG.out _) ?_; rintro e w2 ⟨rfl, x2⟩; have s2 : w1.heap.size ≤ w2.heap.size := (by have h_ := x2.size; (try simp at h_); omega); have X2 := K.Ext.trans (X1) x2; obtain ⟨c2_0_0, c2_0_1, c2_0_2⟩ := K.c3 x2 (w.heap.size) (.int .i64 R.ln) (.slice oRL R.st.length cRL) (.slice oRR R.sl.length cRR) (by go_simp); have z2_0 : w.heap.size < w2.heap.size := World.block_lt_of_cell? w2 _ c2_0_0; have d2_0 : ¬ (w.heap.size = w2.heap.size) := (by omega); have e2_0 : ¬ (w2.heap.size = w.heap.size) := (by omega); obtain ⟨c2_1_0, c2_1_1⟩ := K.c2 x2 (w.heap.size + 1) (.int .i64 f.1) (.int .i64 f.2) (by go_simp); have z2_1 : w.heap.size + 1 < w2.heap.size := World.block_lt_of_cell? w2 _ c2_1_0; have d2_1 : ¬ (w.heap.size + 1 = w2.heap.size) := (by omega); have e2_1 : ¬ (w2.heap.size = w.heap.size + 1) := (by omega); have F1_2 := K.ints.ext (F1_1) x2; have F2_2 := K.ints.ext (F2_1) x2; clear c1_0_0 c1_0_1 c1_0_2 z1_0 d1_0 e1_0 c1_1_0 c1_1_1 z1_1 d1_1 e1_1 F1_1 F2_1)
    go_wp2_with (go_at_call 59; refine K.call (by with_reducible rfl) (by with_reducible rfl) (HF _) ?_; rintro e w_ ⟨rfl, rfl⟩)
    go_wp2_with (go_at_call 59; refine K.call (by with_reducible rfl) (by with_reducible rfl) (HT _) ?_; rintro e w_ ⟨rfl, rfl⟩)
    rw [HE.out]
    refine bodyPost_ret (v := .int .i64 2) (by unfold results; rw [Tryz.results51]; go_simp) rfl ⟨rfl, ?_⟩
    repeat with_reducible refine K.Ext.setCell ?_ (by dsimp only; omega) _
    exact (by repeat' (first | with_reducible exact X2 | with_reducible refine K.Ext.setCell ?_ ?_ _ | with_reducible refine K.Ext.alloc ?_ _ | with_reducible refine K.Ext.drew ?_ | (dsimp only; omega) | omega | (simp; omega)))
  have hb' : (b == 0) = false := by simpa using hb
  cases p
  · rw [if_pos (.inr (.inr (.inl rfl)))] at HE
    have X0 : K.Ext w w := K.Ext.refl w
    go_enter Tryz.func51, Tryz.ntmps51
    go_wp2_with (go_at_call 85; refine K.call (by with_reducible rfl) (by with_reducible rfl) (HR.out _ (K.ints.alloc (K.ints.alloc hRL_ _) _) (K.ints.alloc (K.ints.alloc hRR_ _) _)) ?_; rintro e w1 ⟨rfl, x1⟩; have s1 : w.heap.size + 2 ≤ w1.heap.size := (by have h_ := x1.size; (try simp at h_); omega); have X1 := K.Ext.trans (K.Ext.alloc (K.Ext.alloc X0 _) _) x1; obtain ⟨c1_0_0, c1_0_1, c1_0_2⟩ := K.c3 x1 (w.heap.size) (.int .i64 R.ln) (.slice oRL R.st.length cRL) (.slice oRR R.sl.length cRR) (by go_simp); have z1_0 : w.heap.size < w1.heap.size := World.block_lt_of_cell? w1 _ c1_0_0; have d1_0 : ¬ (w.heap.size = w1.heap.size) := (by omega); have e1_0 : ¬ (w1.heap.size = w.heap.size) := (by omega); obtain ⟨c1_1_0, c1_1_1⟩ := K.c2 x1 (w.heap.size + 1) (.int .i64 f.1) (.int .i64 f.2) (by go_simp); have z1_1 : w.heap.size + 1 < w1.heap.size := World.block_lt_of_cell? w1 _ c1_1_0; have d1_1 : ¬ (w.heap.size + 1 = w1.heap.size) := (by omega); have e1_1 : ¬ (w1.heap.size = w.heap.size + 1) := (by omega); have n1_0 : ¬ (w.heap.size + 1 = w.heap.size) := (by omega); have n0_1 : ¬ (w.heap.size = w.heap.size + 1) := (by omega); have F1_1 := K.ints.ext (K.ints.alloc (K.ints.alloc hRL_ _) _) x1; have F2_1 := K.ints.ext (K.ints.alloc (K.ints.alloc hRR_ _) _) x1; clear hRL_ hRR_)
    go_wp2_with (go_at_call 52; refine K.call (by with_reducible rfl) (by with_reducible rfl) (HG.out _) ?_; rintro e w2 ⟨rfl, x2⟩; have s2 : w1.heap.size ≤ w2.heap.size := (by have h_ := x2.size; (try simp at h_); omega); have X2 := K.Ext.trans (X1) x2; obtain ⟨c2_0_0, c2_0_1, c2_0_2⟩ := K.c3 x2 (w.heap.size) (.int .i64 R.ln) (.slice oRL R.st.length cRL) (.slice oRR R.sl.length cRR) (by go_simp); have z2_0 : w.heap.size < w2.heap.size := World.block_lt_of_cell? w2 _ c2_0_0; have d2_0 : ¬ (w.heap.size = w2.heap.size) := (by omega); have e2_0 : ¬ (w2.heap.size = w.heap.size) := (by omega); obtain ⟨c2_1_0, c2_1_1⟩ := K.c2 x2 (w.heap.size + 1) (.int .i64 f.1) (.int .i64 f.2) (by go_simp); have z2_1 : w.heap.size + 1 < w2.heap.size := World.block_lt_of_cell? w2 _ c2_1_0; have d2_1 : ¬ (w.heap.size + 1 = w2.heap.size) := (by omega); have e2_1 : ¬ (w2.heap.size = w.heap.size + 1) := (by omega); have F1_2 := K.ints.ext (F1_1) x2; have F2_2 := K.ints.ext (F2_1) x2; clear c1_0_0 c1_0_1 c1_0_2 z1_0 d1_0 e1_0 c1_1_0 c1_1_1 z1_1 d1_1 e1_1 F1_1 F2_1)
    go_wp2_with (go_at_call 59; refine K.call (by with_reducible rfl) (by with_reducible rfl) (HF _) ?_; rintro e w_ ⟨rfl, rfl⟩)
    go_wp2_with (go_at_call 59; refine K.call (by with_reducible rfl) (by with_reducible rfl) (HT _) ?_; rintro e w_ ⟨rfl, rfl⟩)
    go_wp2_with (go_at_call 86; refine K.call (by with_reducible rfl) (by with_reducible rfl) (HSF.out _ (F1_2)) ?_; rintro e w_ ⟨rfl, rfl⟩)
    rw [HE.out]
    refine bodyPost_ret (v := .int .i64 2) (by unfold results; rw [Tryz.results51]; go_simp) rfl ⟨rfl, ?_⟩
    repeat with_reducible refine K.Ext.setCell ?_ (by dsimp only; omega) _
    exact (by repeat' (first | with_reducible exact X2 | with_reducible refine K.Ext.setCell ?_ ?_ _ | with_reducible refine K.Ext.alloc ?_ _ | with_reducible refine K.Ext.drew ?_ | (dsimp only; omega) | omega | (simp; omega)))
  cases q
  · rw [if_pos (.inr (.inr (.inr rfl)))] at HE
    have X0 : K.Ext w w := K.Ext.refl w
    go_enter Tryz.func51, Tryz.ntmps51
    go_wp2_with (go_at_call 85; refine K.call (by with_reducible rfl) (by with_reducible rfl) (HR.out _ (K.ints.alloc (K.ints.alloc hRL_ _) _) (K.ints.alloc (K.ints.alloc hRR_ _) _)) ?_; rintro e w1 ⟨rfl, x1⟩; have s1 : w.heap.size + 2 ≤ w1.heap.size := (by have h_ := x1.size; (try simp at h_); omega); have X1 := K.Ext.trans (K.Ext.alloc (K.Ext.alloc X0 _) _) x1; obtain ⟨c1_0_0, c1_0_1, c1_0_2⟩ := K.c3 x1 (w.heap.size) (.int .i64 R.ln) (.slice oRL R.st.length cRL) (.slice oRR R.sl.length cRR) (by go_simp); have z1_0 : w.heap.size < w1.heap.size := World.block_lt_of_cell? w1 _ c1_0_0; have d1_0 : ¬ (w.heap.size = w1.heap.size) := (by omega); have e1_0 : ¬ (w1.heap.size = w.heap.size) := (by omega); obtain ⟨c1_1_0, c1_1_1⟩ := K.c2 x1 (w.heap.size + 1) (.int .i64 f.1) (.int .i64 f.2) (by go_simp); have z1_1 : w.heap.size + 1 < w1.heap.size := World.block_lt_of_cell? w1 _ c1_1_0; have d1_1 : ¬ (w.heap.size + 1 = w1.heap.size) := (by omega); have e1_1 : ¬ (w1.heap.size = w.heap.size + 1) := (by omega); have n1_0 : ¬ (w.heap.size + 1 = w.heap.size) := (by omega); have n0_1 : ¬ (w.heap.size = w.heap.size + 1) := (by omega); have F1_1 := K.ints.ext (K.ints.alloc (K.ints.alloc hRL_ _) _) x1; have F2_1 := K.ints.ext (K.ints.alloc (K.ints.alloc hRR_ _) _) x1; clear hRL_ hRR_)
    go_wp2_with (go_at_call 52; refine K.call (by with_reducible rfl) (by with_reducible rfl) (HG.out _) ?_; rintro e w2 ⟨rfl, x2⟩; have s2 : w1.heap.size ≤ w2.heap.size := (by have h_ := x2.size; (try simp at h_); omega); have X2 := K.Ext.trans (X1) x2; obtain ⟨c2_0_0, c2_0_1, c2_0_2⟩ := K.c3 x2 (w.heap.size) (.int .i64 R.ln) (.slice oRL R.st.length cRL) (.slice oRR R.sl.length cRR) (by go_simp); have z2_0 : w.heap.size < w2.heap.size := World.block_lt_of_cell? w2 _ c2_0_0; have d2_0 : ¬ (w.heap.size = w2.heap.size) := (by omega); have e2_0 : ¬ (w2.heap.size = w.heap.size) := (by omega); obtain ⟨c2_1_0, c2_1_1⟩ := K.c2 x2 (w.heap.size + 1) (.int .i64 f.1) (.int .i64 f.2) (by go_simp); have z2_1 : w.heap.size + 1 < w2.heap.size := World.block_lt_of_cell? w2 _ c2_1_0; have d2_1 : ¬ (w.heap.size + 1 = w2.heap.size) := (by omega); have e2_1 : ¬ (w2.heap.size = w.heap.size + 1) := (by omega); have F1_2 := K.ints.ext (F1_1) x2; have F2_2 := K.ints.ext (F2_1) x2; clear c1_0_0 c1_0_1 c1_0_2 z1_0 d1_0 e1_0 c1_1_0 c1_1_1 z1_1 d1_1 e1_1 F1_1 F2_1)
    go_wp2_with (go_at_call 59; refine K.call (by with_reducible rfl) (by with_reducible rfl) (HF _) ?_; rintro e w_ ⟨rfl, rfl⟩)
    go_wp2_with (go_at_call 59; refine K.call (by with_reducible rfl) (by with_reducible rfl) (HT _) ?_; rintro e w_ ⟨rfl, rfl⟩)
    go_wp2_with (go_at_call 86; refine K.call (by with_reducible rfl) (by with_reducible rfl) (HSF.out _ (F1_2)) ?_; rintro e w_ ⟨rfl, rfl⟩)
    go_wp2_with (go_at_call 86; refine K.call (by with_reducible rfl) (by with_reducible rfl) (HST.out _ (F1_2)) ?_; rintro e w_ ⟨rfl, rfl⟩)
    rw [HE.out]
    refine bodyPost_ret (v := .int .i64 2) (by unfold results; rw [Tryz.results51]; go_simp) rfl ⟨rfl, ?_⟩
    repeat with_reducible refine K.Ext.setCell ?_ (by dsimp only; omega) _
    exact (by repeat' (first | with_reducible exact X2 | with_reducible refine K.Ext.setCell ?_ ?_ _ | with_reducible refine K.Ext.alloc ?_ _ | with_reducible refine K.Ext.drew ?_ | (dsimp only; omega) | omega | (simp; omega)))
  · rw [if_neg (by simp [ha, hb])] at HE
    have X0 : K.Ext w w := K.Ext.refl w
    go_enter Tryz.func51, Tryz.ntmps51
    go_wp2_with (go_at_call 85; refine K.call (by with_reducible rfl) (by with_reducible rfl) (HR.out _ (K.ints.alloc (K.ints.alloc hRL_ _) _) (K.ints.alloc (K.ints.alloc hRR_ _) _)) ?_; rintro e w1 ⟨rfl, x1⟩; have s1 : w.heap.size + 2 ≤ w1.heap.size := (by have h_ := x1.size; (try simp at h_); omega); have X1 := K.Ext.trans (K.Ext.alloc (K.Ext.alloc X0 _) _) x1; obtain ⟨c1_0_0, c1_0_1, c1_0_2⟩ := K.c3 x1 (w.heap.size) (.int .i64 R.ln) (.slice oRL R.st.length cRL) (.slice oRR R.sl.length cRR) (by go_simp); have z1_0 : w.heap.size < w1.heap.size := World.block_lt_of_cell? w1 _ c1_0_0; have d1_0 : ¬ (w.heap.size = w1.heap.size) := (by omega); have e1_0 : ¬ (w1.heap.size = w.heap.size) := (by omega); obtain ⟨c1_1_0, c1_1_1⟩ := K.c2 x1 (w.heap.size + 1) (.int .i64 f.1) (.int .i64 f.2) (by go_simp); have z1_1 : w.heap.size + 1 < w1.heap.size := World.block_lt_of_cell? w1 _ c1_1_0; have d1_1 : ¬ (w.heap.size + 1 = w1.heap.size) := (by omega); have e1_1 : ¬ (w1.heap.size = w.heap.size + 1) := (by omega); have n1_0 : ¬ (w.heap.size + 1 = w.heap.size) := (by omega); have n0_1 : ¬ (w.heap.size = w.heap.size + 1) := (by omega); have F1_1 := K.ints.ext (K.ints.alloc (K.ints.alloc hRL_ _) _) x1; have F2_1 := K.ints.ext (K.ints.alloc (K.ints.alloc hRR_ _) _) x1; clear hRL_ hRR_)
    go_wp2_with (go_at_call 52; refine K.call (by with_reducible rfl) (by with_reducible rfl) (HG.out _) ?_; rintro e w2 ⟨rfl, x2⟩; have s2 : w1.heap.size ≤ w2.heap.size := (by have h_ := x2.size; (try simp at h_); omega); have X2 := K.Ext.trans (X1) x2; obtain ⟨c2_0_0, c2_0_1, c2_0_2⟩ := K.c3 x2 (w.heap.size) (.int .i64 R.ln) (.slice oRL R.st.length cRL) (.slice oRR R.sl.length cRR) (by go_simp); have z2_0 : w.heap.size < w2.heap.size := World.block_lt_of_cell? w2 _ c2_0_0; have d2_0 : ¬ (w.heap.size = w2.heap.size) := (by omega); have e2_0 : ¬ (w2.heap.size = w.heap.size) := (by omega); obtain ⟨c2_1_0, c2_1_1⟩ := K.c2 x2 (w.heap.size + 1) (.int .i64 f.1) (.int .i64 f.2) (by go_simp); have z2_1 : w.heap.size + 1 < w2.heap.size := World.block_lt_of_cell? w2 _ c2_1_0; have d2_1 : ¬ (w.heap.size + 1 = w2.heap.size) := (by omega); have e2_1 : ¬ (w2.heap.size = w.heap.size + 1) := (by omega); have F1_2 := K.ints.ext (F1_1) x2; have F2_2 := K.ints.ext (F2_1) x2; clear c1_0_0 c1_0_1 c1_0_2 z1_0 d1_0 e1_0 c1_1_0 c1_1_1 z1_1 d1_1 e1_1 F1_1 F2_1)
    go_wp2_with (go_at_call 59; refine K.call (by with_reducible rfl) (by with_reducible rfl) (HF _) ?_; rintro e w_ ⟨rfl, rfl⟩)
    go_wp2_with (go_at_call 59; refine K.call (by with_reducible rfl) (by with_reducible rfl) (HT _) ?_; rintro e w_ ⟨rfl, rfl⟩)
    go_wp2_with (go_at_call 86; refine K.call (by with_reducible rfl) (by with_reducible rfl) (HSF.out _ (F1_2)) ?_; rintro e w_ ⟨rfl, rfl⟩)
    go_wp2_with (go_at_call 86; refine K.call (by with_reducible rfl) (by with_reducible rfl) (HST.out _ (F1_2)) ?_; rintro e w_ ⟨rfl, rfl⟩)
    rw [HE.out]
    refine bodyPost_ret (v := .int .i64 0) (by unfold results; rw [Tryz.results51]; go_simp) rfl ⟨rfl, ?_⟩
    repeat with_reducible refine K.Ext.setCell ?_ (by dsimp only; omega) _
    exact (by repeat' (first | with_reducible exact X2 | with_reducible refine K.Ext.setCell ?_ ?_ _ | with_reducible refine K.Ext.alloc ?_ _ | with_reducible refine K.Ext.drew ?_ | (dsimp only; omega) | omega | (simp; omega)))
end Go.Proofs.YtimpcelbekhipaaGreat
end
section
namespace Go.Z
open Classical in
/-- the number that is read nearest to t -/
noncomputable def rdN (s t : Int) : Int := if h : ∃ n, IsBest (pN s) t 0 (9000 * decS s) n then h.choose else 0
theorem rdN_eq {s t n : Int} (h : IsBest (pN s) t 0 (9000 * decS s) n) : rdN s t = n := by
  unfold rdN
  have hx : ∃ n, IsBest (pN s) t 0 (9000 * decS s) n := ⟨n, h⟩
  rw [dif_pos hx]
  exact hx.choose_spec.same h
/-- the figure that a transfer tells -/
noncomputable def trF (fr to : Int) (f : Int × Int) : Int × Int := atN (rdN to (ptS fr f))
noncomputable def trO (R : Rl) (fr to : Int) (f : Int × Int) : (Int × Int) × Int := if tCode R fr to (isFig f.1 f.2) = 0 then (trF fr to f, 0) else ((0, 0), tCode R fr to (isFig f.1 f.2))
theorem ord_ne {s : Int} (h : ¬ ordS s = 0) : s = 0 ∨ s = 1 ∨ s = 2 ∨ s = 3 := by
  unfold ordS at h
  by_cases h0 : s = 0
  · exact .inl h0
  by_cases h1 : s = 1
  · exact .inr (.inl h1)
  by_cases h2 : s = 2
  · exact .inr (.inr (.inl h2))
  by_cases h3 : s = 3
  · exact .inr (.inr (.inr h3))
  rw [if_neg h0, if_neg h1, if_neg h2, if_neg h3] at h; exact absurd rfl h
theorem tCode_zero {R : Rl} {fr to : Int} {a : Bool} (h : tCode R fr to a = 0) : (isRule R = true ∧ a = true) ∧ ¬ ordS fr = 0 ∧ ¬ ordS to = 0 := by
  unfold tCode at h
  by_cases c : (isRule R && a) = false
  · rw [if_pos c] at h; cases h
  · rw [if_neg c] at h
    by_cases d : ordS fr = 0 ∨ ordS to = 0 ∨ has R.st fr = false ∨ has R.st to = false
    · rw [if_pos d] at h; cases h
    · refine ⟨?_, fun e => d (.inl e), fun e => d (.inr (.inl e))⟩
      cases h1 : isRule R <;> cases h2 : a <;> simp_all
theorem okF_of {s : Int} (h : s = 0 ∨ s = 1 ∨ s = 2 ∨ s = 3) : ∃ fa, okF fa s := by
  by_cases c : s = 3
  · exact ⟨true, .inr ⟨rfl, c⟩⟩
  · exact ⟨false, .inl ⟨rfl, by omega⟩⟩
theorem isFig_parts {d t : Int} (h : isFig d t = true) : (1000 ≤ d ∧ d ≤ 9999) ∧ (-30 ≤ t ∧ t ≤ 30) := by
  simpa only [isFig, Bool.and_eq_true, decide_eq_true_eq] using h
theorem ptS_bd {s : Int} {f : Int × Int} (hs : s = 0 ∨ s = 1 ∨ s = 2 ∨ s = 3) (h1 : 1000 ≤ f.1) (h2 : f.1 ≤ 9999) : -20 ≤ ptS s f ∧ ptS s f ≤ 1048600 := by
  have b := pos_bd hs h1 h2
  have c := fl2 ((posS s f).1 + (posS s f).2)
  unfold ptS; omega
end Go.Z
namespace Go.K
open Go.RowKit
theorem one_figs {w : World} {g : Nat} {a : Int × Int} {t : TypeId} (h : w.heap[g]? = some (.cells #[.int .i64 a.1, .int .i64 a.2] t)) : figs w g (g + 1) (.slice (some ⟨g, 0, none⟩) 1 1) [a] := by
  refine ⟨_, 1, rfl, fun _ => ⟨g, 0, rfl, Nat.le_refl _, by omega, fun i hi => ?_⟩⟩
  match i, hi with
  | 0, _ => exact ⟨cell_at h rfl, cell_at h rfl⟩
end Go.K
namespace Go.Proofs.YtimpcelbekhipaaGreat
open Go.RowKit
theorem readAt_is (s t : Int) (w : World) (hs : s = 0 ∨ s = 1 ∨ s = 2 ∨ s = 3) (t0 : -10000000 ≤ t) (t1 : t ≤ 10000000) :
    Calls Tryz.prog 83 #[.int .i64 s, .int .i64 t] w fun e w' => e = .returned (.agg #[.int .i64 (Z.atN (Z.rdN s t)).1, .int .i64 (Z.atN (Z.rdN s t)).2]) ∧ K.Ext w w' := by
  obtain ⟨fa, ho⟩ := Z.okF_of hs
  refine (readAt_any fa s t w ho t0 t1).mono ?_
  rintro e w' ⟨⟨n, he, hb⟩, hx⟩
  exact ⟨by rw [Z.rdN_eq hb]; exact he, hx⟩
theorem transferFigure_any (fr : Int) (to : Int) (f : Int × Int)  (w : World) (hf : fr = 0 ∨ fr = 1 ∨ fr = 2 ∨ fr = 3) (ht : to = 0 ∨ to = 1 ∨ to = 2 ∨ to = 3) (h1 : 1000 ≤ f.1) (h2 : f.1 ≤ 9999) (h3 : -100 ≤ f.2) (h4 : f.2 ≤ 100)  :
    Calls Tryz.prog 50 #[.int .i64 fr, .int .i64 to, .agg #[.int .i64 f.1, .int .i64 f.2]] w fun e w' => e = .returned (.agg #[.int .i64 (Z.trF fr to f).1, .int .i64 (Z.trF fr to f).2]) ∧ K.Ext w w' := by
  have HP := fun w => pointOf_any fr f w hf h1 h2 h3 h4
  have hb := Z.ptS_bd hf h1 h2
  obtain ⟨r, hr⟩ : ∃ r, r = Z.trF fr to f := ⟨_, rfl⟩
  have hr' : r = Z.atN (Z.rdN to (Z.ptS fr f)) := hr
  have HR := fun w => readAt_is to (Z.ptS fr f) w ht (by omega) (by omega)
  rw [← hr] 
  rw [← hr'] at HR
  generalize Z.ptS fr f = p at *
  clear hr hr'
  have X0 : K.Ext w w := K.Ext.refl w
  go_enter Tryz.func50, Tryz.ntmps50
  go_wp2_with (go_at_call 84; refine K.call (by with_reducible rfl) (by with_reducible rfl) (HP _) ?_; rintro e w1 ⟨rfl, x1⟩; have s1 : w.heap.size + 2 ≤ w1.heap.size := (by have h_ := x1.size; (try simp at h_); omega); have X1 := K.Ext.trans (K.Ext.alloc (K.Ext.alloc X0 _) _) x1; obtain ⟨c1_0_0, c1_0_1⟩ := K.c2 x1 (w.heap.size) (.int .i64 f.1) (.int .i64 f.2) (by go_simp); have z1_0 : w.heap.size < w1.heap.size := World.block_lt_of_cell? w1 _ c1_0_0; have d1_0 : ¬ (w.heap.size = w1.heap.size) := (by omega); have e1_0 : ¬ (w1.heap.size = w.heap.size) := (by omega); obtain ⟨c1_1_0, c1_1_1⟩ := K.c2 x1 (w.heap.size + 1) (.int .i64 0) (.int .i64 0) (by go_simp); obtain ⟨f1_1_0, f1_1_1⟩ := K.f2 x1 (w.heap.size + 1) (by go_simp); have z1_1 : w.heap.size + 1 < w1.heap.size := World.block_lt_of_cell? w1 _ c1_1_0; have d1_1 : ¬ (w.heap.size + 1 = w1.heap.size) := (by omega); have e1_1 : ¬ (w1.heap.size = w.heap.size + 1) := (by omega); have n1_0 : ¬ (w.heap.size + 1 = w.heap.size) := (by omega); have n0_1 : ¬ (w.heap.size = w.heap.size + 1) := (by omega))
  go_wp2_with (go_at_call 83; refine K.call (by with_reducible rfl) (by with_reducible rfl) (HR _) ?_; rintro e w2 ⟨rfl, x2⟩; have s2 : w1.heap.size ≤ w2.heap.size := (by have h_ := x2.size; (try simp at h_); omega); have X2 := K.Ext.trans (X1) x2; obtain ⟨c2_0_0, c2_0_1⟩ := K.c2 x2 (w.heap.size) (.int .i64 f.1) (.int .i64 f.2) (by go_simp); have z2_0 : w.heap.size < w2.heap.size := World.block_lt_of_cell? w2 _ c2_0_0; have d2_0 : ¬ (w.heap.size = w2.heap.size) := (by omega); have e2_0 : ¬ (w2.heap.size = w.heap.size) := (by omega); obtain ⟨c2_1_0, c2_1_1⟩ := K.c2 x2 (w.heap.size + 1) (.int .i64 0) (.int .i64 0) (by go_simp); obtain ⟨f2_1_0, f2_1_1⟩ := K.f2 x2 (w.heap.size + 1) (by go_simp); have z2_1 : w.heap.size + 1 < w2.heap.size := World.block_lt_of_cell? w2 _ c2_1_0; have d2_1 : ¬ (w.heap.size + 1 = w2.heap.size) := (by omega); have e2_1 : ¬ (w2.heap.size = w.heap.size + 1) := (by omega); clear c1_0_0 c1_0_1 z1_0 d1_0 e1_0 c1_1_0 c1_1_1 f1_1_0 f1_1_1 z1_1 d1_1 e1_1)
  refine bodyPost_ret (v := .agg #[.int .i64 r.1, .int .i64 r.2]) (by unfold results; rw [Tryz.results50]; go_simp) rfl ⟨rfl, ?_⟩
  repeat with_reducible refine K.Ext.setCell ?_ (by dsimp only; omega) _
  exact (by repeat' (first | with_reducible exact X2 | with_reducible refine K.Ext.setCell ?_ ?_ _ | with_reducible refine K.Ext.alloc ?_ _ | with_reducible refine K.Ext.drew ?_ | (dsimp only; omega) | omega | (simp; omega)))
theorem l11Read_is (s t : Int) (w : World) (hs : s = 0 ∨ s = 1 ∨ s = 2 ∨ s = 3) (t0 : -10000000 ≤ t) (t1 : t ≤ 10000000) :
    Calls Tryz.prog 88 #[.int .i64 s, .int .i64 t] w fun e w' => e = .returned (.agg #[.int .i64 (Z.atN (Z.rdN s t)).1, .int .i64 (Z.atN (Z.rdN s t)).2]) ∧ K.Ext w w' := by
  obtain ⟨fa, ho⟩ := Z.okF_of hs
  refine (l11Read_any fa s t w ho t0 t1).mono ?_
  rintro e w' ⟨⟨n, he, hb⟩, hx⟩
  exact ⟨by rw [Z.rdN_eq hb]; exact he, hx⟩
theorem l17Read_any (fr : Int) (to : Int) (f : Int × Int)  (w : World) (hf : fr = 0 ∨ fr = 1 ∨ fr = 2 ∨ fr = 3) (ht : to = 0 ∨ to = 1 ∨ to = 2 ∨ to = 3) (h1 : 1000 ≤ f.1) (h2 : f.1 ≤ 9999) (h3 : -100 ≤ f.2) (h4 : f.2 ≤ 100)  :
    Calls Tryz.prog 53 #[.int .i64 fr, .int .i64 to, .agg #[.int .i64 f.1, .int .i64 f.2]] w fun e w' => e = .returned (.agg #[.int .i64 (Z.trF fr to f).1, .int .i64 (Z.trF fr to f).2]) ∧ K.Ext w w' := by
  have HP := fun w => l11Point_any fr f w hf h1 h2 h3 h4
  have hb := Z.ptS_bd hf h1 h2
  obtain ⟨r, hr⟩ : ∃ r, r = Z.trF fr to f := ⟨_, rfl⟩
  have hr' : r = Z.atN (Z.rdN to (Z.ptS fr f)) := hr
  have HR := fun w => l11Read_is to (Z.ptS fr f) w ht (by omega) (by omega)
  rw [← hr] 
  rw [← hr'] at HR
  generalize Z.ptS fr f = p at *
  clear hr hr'
  have X0 : K.Ext w w := K.Ext.refl w
  go_enter Tryz.func53, Tryz.ntmps53
  go_wp2_with (go_at_call 89; refine K.call (by with_reducible rfl) (by with_reducible rfl) (HP _) ?_; rintro e w1 ⟨rfl, x1⟩; have s1 : w.heap.size + 2 ≤ w1.heap.size := (by have h_ := x1.size; (try simp at h_); omega); have X1 := K.Ext.trans (K.Ext.alloc (K.Ext.alloc X0 _) _) x1; obtain ⟨c1_0_0, c1_0_1⟩ := K.c2 x1 (w.heap.size) (.int .i64 f.1) (.int .i64 f.2) (by go_simp); have z1_0 : w.heap.size < w1.heap.size := World.block_lt_of_cell? w1 _ c1_0_0; have d1_0 : ¬ (w.heap.size = w1.heap.size) := (by omega); have e1_0 : ¬ (w1.heap.size = w.heap.size) := (by omega); obtain ⟨c1_1_0, c1_1_1⟩ := K.c2 x1 (w.heap.size + 1) (.int .i64 0) (.int .i64 0) (by go_simp); obtain ⟨f1_1_0, f1_1_1⟩ := K.f2 x1 (w.heap.size + 1) (by go_simp); have z1_1 : w.heap.size + 1 < w1.heap.size := World.block_lt_of_cell? w1 _ c1_1_0; have d1_1 : ¬ (w.heap.size + 1 = w1.heap.size) := (by omega); have e1_1 : ¬ (w1.heap.size = w.heap.size + 1) := (by omega); have n1_0 : ¬ (w.heap.size + 1 = w.heap.size) := (by omega); have n0_1 : ¬ (w.heap.size = w.heap.size + 1) := (by omega))
  go_wp2_with (go_at_call 88; refine K.call (by with_reducible rfl) (by with_reducible rfl) (HR _) ?_; rintro e w2 ⟨rfl, x2⟩; have s2 : w1.heap.size ≤ w2.heap.size := (by have h_ := x2.size; (try simp at h_); omega); have X2 := K.Ext.trans (X1) x2; obtain ⟨c2_0_0, c2_0_1⟩ := K.c2 x2 (w.heap.size) (.int .i64 f.1) (.int .i64 f.2) (by go_simp); have z2_0 : w.heap.size < w2.heap.size := World.block_lt_of_cell? w2 _ c2_0_0; have d2_0 : ¬ (w.heap.size = w2.heap.size) := (by omega); have e2_0 : ¬ (w2.heap.size = w.heap.size) := (by omega); obtain ⟨c2_1_0, c2_1_1⟩ := K.c2 x2 (w.heap.size + 1) (.int .i64 0) (.int .i64 0) (by go_simp); obtain ⟨f2_1_0, f2_1_1⟩ := K.f2 x2 (w.heap.size + 1) (by go_simp); have z2_1 : w.heap.size + 1 < w2.heap.size := World.block_lt_of_cell? w2 _ c2_1_0; have d2_1 : ¬ (w.heap.size + 1 = w2.heap.size) := (by omega); have e2_1 : ¬ (w2.heap.size = w.heap.size + 1) := (by omega); clear c1_0_0 c1_0_1 z1_0 d1_0 e1_0 c1_1_0 c1_1_1 f1_1_0 f1_1_1 z1_1 d1_1 e1_1)
  refine bodyPost_ret (v := .agg #[.int .i64 r.1, .int .i64 r.2]) (by unfold results; rw [Tryz.results53]; go_simp) rfl ⟨rfl, ?_⟩
  repeat with_reducible refine K.Ext.setCell ?_ (by dsimp only; omega) _
  exact (by repeat' (first | with_reducible exact X2 | with_reducible refine K.Ext.setCell ?_ ?_ _ | with_reducible refine K.Ext.alloc ?_ _ | with_reducible refine K.Ext.drew ?_ | (dsimp only; omega) | omega | (simp; omega)))
theorem impl_TransferFigure (R : Z.Rl) (fr : Int) (to : Int) (f : Int × Int) {loRL hiRL loRR hiRR : Nat} {pRL pRR : Value} (w : World)  (hmRL : R.st.length ≤ 1048576) (hRL : K.ints w loRL hiRL pRL R.st) (hcRL : K.roomy pRL R.st.length) (hmRR : R.sl.length ≤ 1048576) (hRR : K.ints w loRR hiRR pRR R.sl) (hcRR : K.roomy pRR R.sl.length) :
    Calls Tryz.prog 22 #[.agg #[.int .i64 R.ln, pRL, pRR], .int .i64 fr, .int .i64 to, .agg #[.int .i64 f.1, .int .i64 f.2]] w fun e w' => e = .returned (.tuple #[.agg #[.int .i64 ((Z.trO R fr to f).1).1, .int .i64 ((Z.trO R fr to f).1).2], .int .i64 ((Z.trO R fr to f).2)]) ∧ K.Ext w w' := by
  have hRL_ := hRL
  have shRL := hRL
  obtain ⟨oRL, cRL, rfl, _⟩ := shRL
  have hRR_ := hRR
  have shRR := hRR
  obtain ⟨oRR, cRR, rfl, _⟩ := shRR
  obtain ⟨M, hM⟩ : ∃ M, Z.trO R fr to f = M := ⟨_, rfl⟩
  obtain ⟨c, hc⟩ : ∃ c, Z.tCode R fr to (Z.isFig f.1 f.2) = c := ⟨_, rfl⟩
  have HC : Hid (∀ (W : World) (g : Nat) (t : TypeId), W.heap[g]? = some (.cells #[.int .i64 f.1, .int .i64 f.2] t) → K.ints W loRL hiRL (.slice oRL R.st.length cRL) R.st → K.ints W loRR hiRR (.slice oRR R.sl.length cRR) R.sl → Calls Tryz.prog 49 #[.agg #[.int .i64 R.ln, .slice oRL R.st.length cRL, .slice oRR R.sl.length cRR], .int .i64 fr, .int .i64 to, .slice (some ⟨g, 0, none⟩) 1 1] W fun e w'' => e = .returned (.int .i64 c) ∧ K.Ext W w'') := Z.hide (fun W g t hg k1 k2 => by
    have h_ := checkTransfer_any R fr to W [f] (by simp) (K.one_figs hg) hmRL k1 hcRL hmRR k2 hcRR
    have e1 : Z.areFigs [f] = Z.isFig f.1 f.2 := by simp [Z.areFigs]
    rw [e1, hc] at h_; exact h_)
  have HE : Hid (M = if c = 0 then (Z.trF fr to f, 0) else ((0, 0), c)) := Z.hide (by rw [← hM, ← hc]; rfl)
  rw [hM]
  by_cases h0 : c = 0
  · subst h0
    obtain ⟨⟨_, hf⟩, hfr, hto⟩ := Z.tCode_zero hc
    obtain ⟨⟨f1, f2⟩, f3, f4⟩ := Z.isFig_parts hf
    have HT : Hid (∀ W, Calls Tryz.prog 50 #[.int .i64 fr, .int .i64 to, .agg #[.int .i64 f.1, .int .i64 f.2]] W fun e w'' => e = .returned (.agg #[.int .i64 (Z.trF fr to f).1, .int .i64 (Z.trF fr to f).2]) ∧ K.Ext W w'') := Z.hide (fun W => transferFigure_any fr to f W (Z.ord_ne hfr) (Z.ord_ne hto) f1 f2 (by omega) (by omega))
    rw [if_pos rfl] at HE
    generalize Z.trF fr to f = r at *
    clear hM hc hf
    have X0 : K.Ext w w := K.Ext.refl w
    go_enter Tryz.func22, Tryz.ntmps22
    go_wp2_with (go_at_call 49; refine K.call (by with_reducible rfl) (by with_reducible rfl) (HC.out _ _ _ (K.block_new (by simp)) (K.ints.alloc (K.ints.alloc (K.ints.alloc (K.ints.alloc hRL_ _) _) _) _) (K.ints.alloc (K.ints.alloc (K.ints.alloc (K.ints.alloc hRR_ _) _) _) _)) ?_; rintro e w1 ⟨rfl, x1⟩; have s1 : w.heap.size + 4 ≤ w1.heap.size := (by have h_ := x1.size; (try simp at h_); omega); have X1 := K.Ext.trans (K.Ext.alloc (K.Ext.alloc (K.Ext.alloc (K.Ext.alloc X0 _) _) _) _) x1; obtain ⟨c1_0_0, c1_0_1, c1_0_2⟩ := K.c3 x1 (w.heap.size) (.int .i64 R.ln) (.slice oRL R.st.length cRL) (.slice oRR R.sl.length cRR) (by go_simp); have z1_0 : w.heap.size < w1.heap.size := World.block_lt_of_cell? w1 _ c1_0_0; have d1_0 : ¬ (w.heap.size = w1.heap.size) := (by omega); have e1_0 : ¬ (w1.heap.size = w.heap.size) := (by omega); obtain ⟨c1_1_0, c1_1_1⟩ := K.c2 x1 (w.heap.size + 1) (.int .i64 f.1) (.int .i64 f.2) (by go_simp); have z1_1 : w.heap.size + 1 < w1.heap.size := World.block_lt_of_cell? w1 _ c1_1_0; have d1_1 : ¬ (w.heap.size + 1 = w1.heap.size) := (by omega); have e1_1 : ¬ (w1.heap.size = w.heap.size + 1) := (by omega); have n1_0 : ¬ (w.heap.size + 1 = w.heap.size) := (by omega); have n0_1 : ¬ (w.heap.size = w.heap.size + 1) := (by omega); obtain ⟨c1_2_0, c1_2_1⟩ := K.c2 x1 (w.heap.size + 1 + 1) (.int .i64 0) (.int .i64 0) (by go_simp); obtain ⟨f1_2_0, f1_2_1⟩ := K.f2 x1 (w.heap.size + 1 + 1) (by go_simp); have z1_2 : w.heap.size + 1 + 1 < w1.heap.size := World.block_lt_of_cell? w1 _ c1_2_0; have d1_2 : ¬ (w.heap.size + 1 + 1 = w1.heap.size) := (by omega); have e1_2 : ¬ (w1.heap.size = w.heap.size + 1 + 1) := (by omega); have n2_0 : ¬ (w.heap.size + 1 + 1 = w.heap.size) := (by omega); have n0_2 : ¬ (w.heap.size = w.heap.size + 1 + 1) := (by omega); have n2_1 : ¬ (w.heap.size + 1 + 1 = w.heap.size + 1) := (by omega); have n1_2 : ¬ (w.heap.size + 1 = w.heap.size + 1 + 1) := (by omega); have F1_1 := K.ints.ext (K.ints.alloc (K.ints.alloc (K.ints.alloc (K.ints.alloc hRL_ _) _) _) _) x1; have F2_1 := K.ints.ext (K.ints.alloc (K.ints.alloc (K.ints.alloc (K.ints.alloc hRR_ _) _) _) _) x1; clear hRL_ hRR_)
    go_wp2_with (go_at_call 50; refine K.call (by with_reducible rfl) (by with_reducible rfl) (HT.out _) ?_; rintro e w2 ⟨rfl, x2⟩; have s2 : w1.heap.size ≤ w2.heap.size := (by have h_ := x2.size; (try simp at h_); omega); have X2 := K.Ext.trans (X1) x2; obtain ⟨c2_0_0, c2_0_1, c2_0_2⟩ := K.c3 x2 (w.heap.size) (.int .i64 R.ln) (.slice oRL R.st.length cRL) (.slice oRR R.sl.length cRR) (by go_simp); have z2_0 : w.heap.size < w2.heap.size := World.block_lt_of_cell? w2 _ c2_0_0; have d2_0 : ¬ (w.heap.size = w2.heap.size) := (by omega); have e2_0 : ¬ (w2.heap.size = w.heap.size) := (by omega); obtain ⟨c2_1_0, c2_1_1⟩ := K.c2 x2 (w.heap.size + 1) (.int .i64 f.1) (.int .i64 f.2) (by go_simp); have z2_1 : w.heap.size + 1 < w2.heap.size := World.block_lt_of_cell? w2 _ c2_1_0; have d2_1 : ¬ (w.heap.size + 1 = w2.heap.size) := (by omega); have e2_1 : ¬ (w2.heap.size = w.heap.size + 1) := (by omega); obtain ⟨c2_2_0, c2_2_1⟩ := K.c2 x2 (w.heap.size + 1 + 1) (.int .i64 0) (.int .i64 0) (by go_simp); obtain ⟨f2_2_0, f2_2_1⟩ := K.f2 x2 (w.heap.size + 1 + 1) (by go_simp); have z2_2 : w.heap.size + 1 + 1 < w2.heap.size := World.block_lt_of_cell? w2 _ c2_2_0; have d2_2 : ¬ (w.heap.size + 1 + 1 = w2.heap.size) := (by omega); have e2_2 : ¬ (w2.heap.size = w.heap.size + 1 + 1) := (by omega); have F1_2 := K.ints.ext (F1_1) x2; have F2_2 := K.ints.ext (F2_1) x2; clear c1_0_0 c1_0_1 c1_0_2 z1_0 d1_0 e1_0 c1_1_0 c1_1_1 z1_1 d1_1 e1_1 c1_2_0 c1_2_1 f1_2_0 f1_2_1 z1_2 d1_2 e1_2 F1_1 F2_1)
    rw [HE.out]
    refine bodyPost_ret (v := .tuple #[.agg #[.int .i64 r.1, .int .i64 r.2], .int .i64 0]) (by unfold results; rw [Tryz.results22]; go_simp) rfl ⟨rfl, ?_⟩
    repeat with_reducible refine K.Ext.setCell ?_ (by dsimp only; omega) _
    exact (by repeat' (first | with_reducible exact X2 | with_reducible refine K.Ext.setCell ?_ ?_ _ | with_reducible refine K.Ext.alloc ?_ _ | with_reducible refine K.Ext.drew ?_ | (dsimp only; omega) | omega | (simp; omega)))
  · rw [if_neg h0] at HE
    have hc' : (c == 0) = false := by simpa using h0
    clear hM hc
    have X0 : K.Ext w w := K.Ext.refl w
    go_enter Tryz.func22, Tryz.ntmps22
    go_wp2_with (go_at_call 49; refine K.call (by with_reducible rfl) (by with_reducible rfl) (HC.out _ _ _ (K.block_new (by simp)) (show K.ints _ (loRL) (hiRL) (.slice oRL R.st.length cRL) (R.st) from by repeat' (first | with_reducible exact hRL_ | with_reducible refine K.ints.set ?_ _ ?_ _ | with_reducible refine K.ints.alloc ?_ _ | with_reducible refine K.ints.drew ?_ | (dsimp only; omega) | omega | (simp; done) | (simp; omega))) (show K.ints _ (loRR) (hiRR) (.slice oRR R.sl.length cRR) (R.sl) from by repeat' (first | with_reducible exact hRR_ | with_reducible refine K.ints.set ?_ _ ?_ _ | with_reducible refine K.ints.alloc ?_ _ | with_reducible refine K.ints.drew ?_ | (dsimp only; omega) | omega | (simp; done) | (simp; omega)))) ?_; rintro e w1 ⟨rfl, x1⟩; have s1 : w.heap.size + 4 ≤ w1.heap.size := (by have h_ := x1.size; (try simp at h_); omega); have X1 : K.Ext w w1 := K.Ext.trans (by repeat' (first | with_reducible exact X0 | with_reducible refine K.Ext.setCell ?_ ?_ _ | with_reducible refine K.Ext.alloc ?_ _ | with_reducible refine K.Ext.drew ?_ | (dsimp only; omega) | omega | (simp; omega))) x1; obtain ⟨c1_0_0, c1_0_1, c1_0_2⟩ := K.c3 x1 (w.heap.size) (.int .i64 R.ln) (.slice oRL R.st.length cRL) (.slice oRR R.sl.length cRR) (by go_simp); have z1_0 : w.heap.size < w1.heap.size := World.block_lt_of_cell? w1 _ c1_0_0; have d1_0 : ¬ (w.heap.size = w1.heap.size) := (by omega); have e1_0 : ¬ (w1.heap.size = w.heap.size) := (by omega); obtain ⟨c1_1_0, c1_1_1⟩ := K.c2 x1 (w.heap.size + 1) (.int .i64 f.1) (.int .i64 f.2) (by go_simp); have z1_1 : w.heap.size + 1 < w1.heap.size := World.block_lt_of_cell? w1 _ c1_1_0; have d1_1 : ¬ (w.heap.size + 1 = w1.heap.size) := (by omega); have e1_1 : ¬ (w1.heap.size = w.heap.size + 1) := (by omega); have n1_0 : ¬ (w.heap.size + 1 = w.heap.size) := (by omega); have n0_1 : ¬ (w.heap.size = w.heap.size + 1) := (by omega); obtain ⟨c1_2_0, c1_2_1⟩ := K.c2 x1 (w.heap.size + 1 + 1) (.int .i64 0) (.int .i64 0) (by go_simp); obtain ⟨f1_2_0, f1_2_1⟩ := K.f2 x1 (w.heap.size + 1 + 1) (by go_simp); have z1_2 : w.heap.size + 1 + 1 < w1.heap.size := World.block_lt_of_cell? w1 _ c1_2_0; have d1_2 : ¬ (w.heap.size + 1 + 1 = w1.heap.size) := (by omega); have e1_2 : ¬ (w1.heap.size = w.heap.size + 1 + 1) := (by omega); have n2_0 : ¬ (w.heap.size + 1 + 1 = w.heap.size) := (by omega); have n0_2 : ¬ (w.heap.size = w.heap.size + 1 + 1) := (by omega); have n2_1 : ¬ (w.heap.size + 1 + 1 = w.heap.size + 1) := (by omega); have n1_2 : ¬ (w.heap.size + 1 = w.heap.size + 1 + 1) := (by omega); have F1_1 := K.ints.ext (show K.ints _ (loRL) (hiRL) (.slice oRL R.st.length cRL) (R.st) from by repeat' (first | with_reducible exact hRL_ | with_reducible refine K.ints.set ?_ _ ?_ _ | with_reducible refine K.ints.alloc ?_ _ | with_reducible refine K.ints.drew ?_ | (dsimp only; omega) | omega | (simp; done) | (simp; omega))) x1; have F2_1 := K.ints.ext (show K.ints _ (loRR) (hiRR) (.slice oRR R.sl.length cRR) (R.sl) from by repeat' (first | with_reducible exact hRR_ | with_reducible refine K.ints.set ?_ _ ?_ _ | with_reducible refine K.ints.alloc ?_ _ | with_reducible refine K.ints.drew ?_ | (dsimp only; omega) | omega | (simp; done) | (simp; omega))) x1; clear hRL_ hRR_)
    rw [HE.out]
    refine bodyPost_ret (v := .tuple #[.agg #[.int .i64 0, .int .i64 0], .int .i64 c]) (by unfold results; rw [Tryz.results22]; go_simp) rfl ⟨rfl, ?_⟩
    repeat with_reducible refine K.Ext.setCell ?_ (by dsimp only; omega) _
    exact (by repeat' (first | with_reducible exact X1 | with_reducible refine K.Ext.setCell ?_ ?_ _ | with_reducible refine K.Ext.alloc ?_ _ | with_reducible refine K.Ext.drew ?_ | (dsimp only; omega) | omega | (simp; omega)))
theorem spec_TransferFigure (R : Z.Rl) (fr : Int) (to : Int) (f : Int × Int) {loRL hiRL loRR hiRR : Nat} {pRL pRR : Value} (w : World)  (hmRL : R.st.length ≤ 1048576) (hRL : K.ints w loRL hiRL pRL R.st) (hcRL : K.roomy pRL R.st.length) (hmRR : R.sl.length ≤ 1048576) (hRR : K.ints w loRR hiRR pRR R.sl) (hcRR : K.roomy pRR R.sl.length) :
    Calls Tryz.prog 26 #[.agg #[.int .i64 R.ln, pRL, pRR], .int .i64 fr, .int .i64 to, .agg #[.int .i64 f.1, .int .i64 f.2]] w fun e w' => e = .returned (.tuple #[.agg #[.int .i64 ((Z.trO R fr to f).1).1, .int .i64 ((Z.trO R fr to f).1).2], .int .i64 ((Z.trO R fr to f).2)]) ∧ K.Ext w w' := by
  have hRL_ := hRL
  have shRL := hRL
  obtain ⟨oRL, cRL, rfl, _⟩ := shRL
  have hRR_ := hRR
  have shRR := hRR
  obtain ⟨oRR, cRR, rfl, _⟩ := shRR
  obtain ⟨M, hM⟩ : ∃ M, Z.trO R fr to f = M := ⟨_, rfl⟩
  obtain ⟨c, hc⟩ : ∃ c, Z.tCode R fr to (Z.isFig f.1 f.2) = c := ⟨_, rfl⟩
  have HC : Hid (∀ (W : World), K.ints W loRL hiRL (.slice oRL R.st.length cRL) R.st → K.ints W loRR hiRR (.slice oRR R.sl.length cRR) R.sl → Calls Tryz.prog 51 #[.agg #[.int .i64 R.ln, .slice oRL R.st.length cRL, .slice oRR R.sl.length cRR], .int .i64 fr, .int .i64 to, .agg #[.int .i64 f.1, .int .i64 f.2]] W fun e w'' => e = .returned (.int .i64 c) ∧ K.Ext W w'') := Z.hide (fun W k1 k2 => by
    have h_ := l17Code_any R fr to f W hmRL k1 hcRL hmRR k2 hcRR
    rw [hc] at h_; exact h_)
  have HE : Hid (M = if c = 0 then (Z.trF fr to f, 0) else ((0, 0), c)) := Z.hide (by rw [← hM, ← hc]; rfl)
  rw [hM]
  by_cases h0 : c = 0
  · subst h0
    obtain ⟨⟨_, hf⟩, hfr, hto⟩ := Z.tCode_zero hc
    obtain ⟨⟨f1, f2⟩, f3, f4⟩ := Z.isFig_parts hf
    have HT : Hid (∀ W, Calls Tryz.prog 53 #[.int .i64 fr, .int .i64 to, .agg #[.int .i64 f.1, .int .i64 f.2]] W fun e w'' => e = .returned (.agg #[.int .i64 (Z.trF fr to f).1, .int .i64 (Z.trF fr to f).2]) ∧ K.Ext W w'') := Z.hide (fun W => l17Read_any fr to f W (Z.ord_ne hfr) (Z.ord_ne hto) f1 f2 (by omega) (by omega))
    rw [if_pos rfl] at HE
    generalize Z.trF fr to f = r at *
    clear hM hc hf
    have X0 : K.Ext w w := K.Ext.refl w
    go_enter Tryz.func26, Tryz.ntmps26
    go_wp2_with (go_at_call 51; refine K.call (by with_reducible rfl) (by with_reducible rfl) (HC.out _ (K.ints.alloc (K.ints.alloc (K.ints.alloc hRL_ _) _) _) (K.ints.alloc (K.ints.alloc (K.ints.alloc hRR_ _) _) _)) ?_; rintro e w1 ⟨rfl, x1⟩; have s1 : w.heap.size + 3 ≤ w1.heap.size := (by have h_ := x1.size; (try simp at h_); omega); have X1 := K.Ext.trans (K.Ext.alloc (K.Ext.alloc (K.Ext.alloc X0 _) _) _) x1; obtain ⟨c1_0_0, c1_0_1, c1_0_2⟩ := K.c3 x1 (w.heap.size) (.int .i64 R.ln) (.slice oRL R.st.length cRL) (.slice oRR R.sl.length cRR) (by go_simp); have z1_0 : w.heap.size < w1.heap.size := World.block_lt_of_cell? w1 _ c1_0_0; have d1_0 : ¬ (w.heap.size = w1.heap.size) := (by omega); have e1_0 : ¬ (w1.heap.size = w.heap.size) := (by omega); obtain ⟨c1_1_0, c1_1_1⟩ := K.c2 x1 (w.heap.size + 1) (.int .i64 f.1) (.int .i64 f.2) (by go_simp); have z1_1 : w.heap.size + 1 < w1.heap.size := World.block_lt_of_cell? w1 _ c1_1_0; have d1_1 : ¬ (w.heap.size + 1 = w1.heap.size) := (by omega); have e1_1 : ¬ (w1.heap.size = w.heap.size + 1) := (by omega); have n1_0 : ¬ (w.heap.size + 1 = w.heap.size) := (by omega); have n0_1 : ¬ (w.heap.size = w.heap.size + 1) := (by omega); obtain ⟨c1_2_0, c1_2_1⟩ := K.c2 x1 (w.heap.size + 1 + 1) (.int .i64 0) (.int .i64 0) (by go_simp); obtain ⟨f1_2_0, f1_2_1⟩ := K.f2 x1 (w.heap.size + 1 + 1) (by go_simp); have z1_2 : w.heap.size + 1 + 1 < w1.heap.size := World.block_lt_of_cell? w1 _ c1_2_0; have d1_2 : ¬ (w.heap.size + 1 + 1 = w1.heap.size) := (by omega); have e1_2 : ¬ (w1.heap.size = w.heap.size + 1 + 1) := (by omega); have n2_0 : ¬ (w.heap.size + 1 + 1 = w.heap.size) := (by omega); have n0_2 : ¬ (w.heap.size = w.heap.size + 1 + 1) := (by omega); have n2_1 : ¬ (w.heap.size + 1 + 1 = w.heap.size + 1) := (by omega); have n1_2 : ¬ (w.heap.size + 1 = w.heap.size + 1 + 1) := (by omega); have F1_1 := K.ints.ext (K.ints.alloc (K.ints.alloc (K.ints.alloc hRL_ _) _) _) x1; have F2_1 := K.ints.ext (K.ints.alloc (K.ints.alloc (K.ints.alloc hRR_ _) _) _) x1; clear hRL_ hRR_)
    go_wp2_with (go_at_call 53; refine K.call (by with_reducible rfl) (by with_reducible rfl) (HT.out _) ?_; rintro e w2 ⟨rfl, x2⟩; have s2 : w1.heap.size ≤ w2.heap.size := (by have h_ := x2.size; (try simp at h_); omega); have X2 := K.Ext.trans (X1) x2; obtain ⟨c2_0_0, c2_0_1, c2_0_2⟩ := K.c3 x2 (w.heap.size) (.int .i64 R.ln) (.slice oRL R.st.length cRL) (.slice oRR R.sl.length cRR) (by go_simp); have z2_0 : w.heap.size < w2.heap.size := World.block_lt_of_cell? w2 _ c2_0_0; have d2_0 : ¬ (w.heap.size = w2.heap.size) := (by omega); have e2_0 : ¬ (w2.heap.size = w.heap.size) := (by omega); obtain ⟨c2_1_0, c2_1_1⟩ := K.c2 x2 (w.heap.size + 1) (.int .i64 f.1) (.int .i64 f.2) (by go_simp); have z2_1 : w.heap.size + 1 < w2.heap.size := World.block_lt_of_cell? w2 _ c2_1_0; have d2_1 : ¬ (w.heap.size + 1 = w2.heap.size) := (by omega); have e2_1 : ¬ (w2.heap.size = w.heap.size + 1) := (by omega); obtain ⟨c2_2_0, c2_2_1⟩ := K.c2 x2 (w.heap.size + 1 + 1) (.int .i64 0) (.int .i64 0) (by go_simp); obtain ⟨f2_2_0, f2_2_1⟩ := K.f2 x2 (w.heap.size + 1 + 1) (by go_simp); have z2_2 : w.heap.size + 1 + 1 < w2.heap.size := World.block_lt_of_cell? w2 _ c2_2_0; have d2_2 : ¬ (w.heap.size + 1 + 1 = w2.heap.size) := (by omega); have e2_2 : ¬ (w2.heap.size = w.heap.size + 1 + 1) := (by omega); have F1_2 := K.ints.ext (F1_1) x2; have F2_2 := K.ints.ext (F2_1) x2; clear c1_0_0 c1_0_1 c1_0_2 z1_0 d1_0 e1_0 c1_1_0 c1_1_1 z1_1 d1_1 e1_1 c1_2_0 c1_2_1 f1_2_0 f1_2_1 z1_2 d1_2 e1_2 F1_1 F2_1)
    rw [HE.out]
    refine bodyPost_ret (v := .tuple #[.agg #[.int .i64 r.1, .int .i64 r.2], .int .i64 0]) (by unfold results; rw [Tryz.results26]; go_simp) rfl ⟨rfl, ?_⟩
    repeat with_reducible refine K.Ext.setCell ?_ (by dsimp only; omega) _
    exact (by repeat' (first | with_reducible exact X2 | with_reducible refine K.Ext.setCell ?_ ?_ _ | with_reducible refine K.Ext.alloc ?_ _ | with_reducible refine K.Ext.drew ?_ | (dsimp only; omega) | omega | (simp; omega)))
  · rw [if_neg h0] at HE
    have hc' : (c == 0) = false := by simpa using h0
    clear hM hc
    have X0 : K.Ext w w := K.Ext.refl w
    go_enter Tryz.func26, Tryz.ntmps26
    go_wp2_with (go_at_call 51; refine K.call (by with_reducible rfl) (by with_reducible rfl) (HC.out _ (show K.ints _ (loRL) (hiRL) (.slice oRL R.st.length cRL) (R.st) from by repeat' (first | with_reducible exact hRL_ | with_reducible refine K.ints.set ?_ _ ?_ _ | with_reducible refine K.ints.alloc ?_ _ | with_reducible refine K.ints.drew ?_ | (dsimp only; omega) | omega | (simp; done) | (simp; omega))) (show K.ints _ (loRR) (hiRR) (.slice oRR R.sl.length cRR) (R.sl) from by repeat' (first | with_reducible exact hRR_ | with_reducible refine K.ints.set ?_ _ ?_ _ | with_reducible refine K.ints.alloc ?_ _ | with_reducible refine K.ints.drew ?_ | (dsimp only; omega) | omega | (simp; done) | (simp; omega)))) ?_; rintro e w1 ⟨rfl, x1⟩; have s1 : w.heap.size + 3 ≤ w1.heap.size := (by have h_ := x1.size; (try simp at h_); omega); have X1 : K.Ext w w1 := K.Ext.trans (by repeat' (first | with_reducible exact X0 | with_reducible refine K.Ext.setCell ?_ ?_ _ | with_reducible refine K.Ext.alloc ?_ _ | with_reducible refine K.Ext.drew ?_ | (dsimp only; omega) | omega | (simp; omega))) x1; obtain ⟨c1_0_0, c1_0_1, c1_0_2⟩ := K.c3 x1 (w.heap.size) (.int .i64 R.ln) (.slice oRL R.st.length cRL) (.slice oRR R.sl.length cRR) (by go_simp); have z1_0 : w.heap.size < w1.heap.size := World.block_lt_of_cell? w1 _ c1_0_0; have d1_0 : ¬ (w.heap.size = w1.heap.size) := (by omega); have e1_0 : ¬ (w1.heap.size = w.heap.size) := (by omega); obtain ⟨c1_1_0, c1_1_1⟩ := K.c2 x1 (w.heap.size + 1) (.int .i64 f.1) (.int .i64 f.2) (by go_simp); have z1_1 : w.heap.size + 1 < w1.heap.size := World.block_lt_of_cell? w1 _ c1_1_0; have d1_1 : ¬ (w.heap.size + 1 = w1.heap.size) := (by omega); have e1_1 : ¬ (w1.heap.size = w.heap.size + 1) := (by omega); have n1_0 : ¬ (w.heap.size + 1 = w.heap.size) := (by omega); have n0_1 : ¬ (w.heap.size = w.heap.size + 1) := (by omega); obtain ⟨c1_2_0, c1_2_1⟩ := K.c2 x1 (w.heap.size + 1 + 1) (.int .i64 0) (.int .i64 0) (by go_simp); obtain ⟨f1_2_0, f1_2_1⟩ := K.f2 x1 (w.heap.size + 1 + 1) (by go_simp); have z1_2 : w.heap.size + 1 + 1 < w1.heap.size := World.block_lt_of_cell? w1 _ c1_2_0; have d1_2 : ¬ (w.heap.size + 1 + 1 = w1.heap.size) := (by omega); have e1_2 : ¬ (w1.heap.size = w.heap.size + 1 + 1) := (by omega); have n2_0 : ¬ (w.heap.size + 1 + 1 = w.heap.size) := (by omega); have n0_2 : ¬ (w.heap.size = w.heap.size + 1 + 1) := (by omega); have n2_1 : ¬ (w.heap.size + 1 + 1 = w.heap.size + 1) := (by omega); have n1_2 : ¬ (w.heap.size + 1 = w.heap.size + 1 + 1) := (by omega); have F1_1 := K.ints.ext (show K.ints _ (loRL) (hiRL) (.slice oRL R.st.length cRL) (R.st) from by repeat' (first | with_reducible exact hRL_ | with_reducible refine K.ints.set ?_ _ ?_ _ | with_reducible refine K.ints.alloc ?_ _ | with_reducible refine K.ints.drew ?_ | (dsimp only; omega) | omega | (simp; done) | (simp; omega))) x1; have F2_1 := K.ints.ext (show K.ints _ (loRR) (hiRR) (.slice oRR R.sl.length cRR) (R.sl) from by repeat' (first | with_reducible exact hRR_ | with_reducible refine K.ints.set ?_ _ ?_ _ | with_reducible refine K.ints.alloc ?_ _ | with_reducible refine K.ints.drew ?_ | (dsimp only; omega) | omega | (simp; done) | (simp; omega))) x1; clear hRL_ hRR_)
    rw [HE.out]
    refine bodyPost_ret (v := .tuple #[.agg #[.int .i64 0, .int .i64 0], .int .i64 c]) (by unfold results; rw [Tryz.results26]; go_simp) rfl ⟨rfl, ?_⟩
    repeat with_reducible refine K.Ext.setCell ?_ (by dsimp only; omega) _
    exact (by repeat' (first | with_reducible exact X1 | with_reducible refine K.Ext.setCell ?_ ?_ _ | with_reducible refine K.Ext.alloc ?_ _ | with_reducible refine K.Ext.drew ?_ | (dsimp only; omega) | omega | (simp; omega)))
end Go.Proofs.YtimpcelbekhipaaGreat
end
