/-
  UNITS: products, powers, both sides.
-/
import Derived.Test.YtpepekmljmeghaaUnits2
set_option linter.unusedVariables false
namespace Go.Proofs.Ytpepekmljmeghaa
open Go.RowKit
attribute [local go_sem ↓] Go.wp_at_zero Go.wp_at_succ
set_option maxHeartbeats 400000 in
theorem spec_MultiplyUnits (xs ys : List Int) (lo hi lo' hi' : Nat) (v v' : Value) (w : World) (hm : xs.length ≤ 1048576) (hm' : ys.length ≤ 1048576) (h : K.ints w lo hi v xs) (h' : K.ints w lo' hi' v' ys) :
    Calls Try.prog 19 #[v, v'] w fun e w' => (∃ r, e = .returned (.tuple #[r, .int .i64 (Z.MultiplyUnits xs ys).2]) ∧ K.ints w' 0 w'.heap.size r (Z.MultiplyUnits xs ys).1) ∧ K.Ext w w' := by
  cases hx : Z.isUnit xs
  · have HE : Hid (Z.MultiplyUnits xs ys = ([], 1)) := Z.hide (Z.MultiplyUnits_l _ hx)
    go_enter Try.func19, Try.ntmps19
    go_wp2_with (go_at_call 15; refine K.call (by with_reducible rfl) (by with_reducible rfl) (spec_IsUnit xs lo hi v _ hm h) ?_; rintro e w' ⟨rfl, rfl⟩)
    go_ret2
    exact ⟨⟨_, by rw [HE.out]; rfl, by rw [HE.out]; exact K.ints_nil _ _ _⟩, (by repeat' (first | exact K.Ext.refl _ | assumption | apply K.Ext.drew | refine K.Ext.alloc ?_ _ | refine K.Ext.setCell ?_ ?_ _ | (simp; done) | (simp; omega) | omega | refine K.Ext.trans ?_ (by assumption)))⟩
  · cases hy : Z.isUnit ys
    · have HE : Hid (Z.MultiplyUnits xs ys = ([], 1)) := Z.hide (Z.MultiplyUnits_r hx hy)
      go_enter Try.func19, Try.ntmps19
      go_wp2_with (first | (go_at_call 15; refine K.call (by with_reducible rfl) (by with_reducible rfl) (spec_IsUnit xs lo hi v _ hm h) ?_; rintro e w' ⟨rfl, rfl⟩) | (go_at_call 15; refine K.call (by with_reducible rfl) (by with_reducible rfl) (spec_IsUnit ys lo' hi' v' _ hm' h') ?_; rintro e w' ⟨rfl, rfl⟩))
      go_ret2
      exact ⟨⟨_, by rw [HE.out]; rfl, by rw [HE.out]; exact K.ints_nil _ _ _⟩, (by repeat' (first | exact K.Ext.refl _ | assumption | apply K.Ext.drew | refine K.Ext.alloc ?_ _ | refine K.Ext.setCell ?_ ?_ _ | (simp; done) | (simp; omega) | omega | refine K.Ext.trans ?_ (by assumption)))⟩
    · have HE : Hid (Z.MultiplyUnits xs ys = Z.unitOr (Z.addN xs ys 1)) := Z.hide (Z.MultiplyUnits_ok hx hy)
      have HL := Z.hide (Z.isUnit_len hx)
      have HL' := Z.hide (Z.isUnit_len hy)
      have HB := Z.hide (Z.isUnit_bd hx)
      have HB' := Z.hide (Z.isUnit_bd hy)
      go_enter Try.func19, Try.ntmps19
      go_wp2_with (first | (go_at_call 15; refine K.call (by with_reducible rfl) (by with_reducible rfl) (spec_IsUnit xs lo hi v _ hm h) ?_; rintro e w' ⟨rfl, rfl⟩) | (go_at_call 15; refine K.call (by with_reducible rfl) (by with_reducible rfl) (spec_IsUnit ys lo' hi' v' _ hm' h') ?_; rintro e w' ⟨rfl, rfl⟩) | (go_at_call 67; refine K.call (by with_reducible rfl) (by with_reducible rfl) (l19Add_any xs ys 1 lo hi lo' hi' v v' _ hm (by rw [HL.out, HL'.out]; exact Nat.le_refl _) HB.out HB'.out (by omega) (by omega) h h') ?_; rintro e w1 ⟨⟨r, rfl, hr⟩, hx1⟩) | (go_at_call 66; refine K.call (by with_reducible rfl) (by with_reducible rfl) (l19Result_any _ _ _ _ _ (by rw [Z.addN_length]; exact hm) hr.ints) ?_; rintro e w2 ⟨⟨r2, rfl, hr2⟩, rfl⟩))
      go_ret2
      exact ⟨⟨r2, by rw [HE.out]; rfl, by rw [HE.out]; exact hr2.mono (Nat.zero_le _) (Nat.le_refl _)⟩, hx1⟩
set_option maxHeartbeats 400000 in
theorem spec_PowerUnit (xs : List Int) (n : Int) (lo hi : Nat) (v : Value) (w : World) (hm : xs.length ≤ 1048576) (h : K.ints w lo hi v xs) :
    Calls Try.prog 28 #[v, .int .i64 n] w fun e w' => (∃ r, e = .returned (.tuple #[r, .int .i64 (Z.PowerUnit xs n).2]) ∧ K.ints w' 0 w'.heap.size r (Z.PowerUnit xs n).1) ∧ K.Ext w w' := by
  cases hx : Z.isUnit xs
  · have HE : Hid (Z.PowerUnit xs n = ([], 1)) := Z.hide (by simp [Z.PowerUnit, hx])
    go_enter Try.func28, Try.ntmps28
    go_wp2_with (go_at_call 15; refine K.call (by with_reducible rfl) (by with_reducible rfl) (spec_IsUnit xs lo hi v _ hm h) ?_; rintro e w' ⟨rfl, rfl⟩)
    go_ret2
    exact ⟨⟨_, by rw [HE.out]; rfl, by rw [HE.out]; exact K.ints_nil _ _ _⟩, (by repeat' (first | exact K.Ext.refl _ | assumption | apply K.Ext.drew | refine K.Ext.alloc ?_ _ | refine K.Ext.setCell ?_ ?_ _ | (simp; done) | (simp; omega) | omega | refine K.Ext.trans ?_ (by assumption)))⟩
  · cases hy : (decide (-9 ≤ n) && decide (n ≤ 9))
    · have HE : Hid (Z.PowerUnit xs n = ([], 2)) := Z.hide (by simp only [Z.PowerUnit, hx, Z.in9, hy]; rfl)
      go_enter Try.func28, Try.ntmps28
      go_wp2_with (first | (go_at_call 15; refine K.call (by with_reducible rfl) (by with_reducible rfl) (spec_IsUnit xs lo hi v _ hm h) ?_; rintro e w' ⟨rfl, rfl⟩) | (go_at_call 62; refine K.call (by with_reducible rfl) (by with_reducible rfl) (l01In_any _ _ _ _) ?_; rintro e w' ⟨rfl, rfl⟩))
      go_ret2
      exact ⟨⟨_, by rw [HE.out]; rfl, by rw [HE.out]; exact K.ints_nil _ _ _⟩, (by repeat' (first | exact K.Ext.refl _ | assumption | apply K.Ext.drew | refine K.Ext.alloc ?_ _ | refine K.Ext.setCell ?_ ?_ _ | (simp; done) | (simp; omega) | omega | refine K.Ext.trans ?_ (by assumption)))⟩
    · have HE : Hid (Z.PowerUnit xs n = Z.unitOr (Z.addN [0, 0, 0, 0] xs n)) := Z.hide (by simp only [Z.PowerUnit, hx, Z.in9, hy]; rfl)
      have HL := Z.hide (Z.isUnit_len hx)
      have HB := Z.hide (Z.isUnit_bd hx)
      have HN : Hid (-9 ≤ n ∧ n ≤ 9) := Z.hide (by simpa using hy)
      go_enter Try.func28, Try.ntmps28
      go_wp2_with (first | (go_at_call 15; refine K.call (by with_reducible rfl) (by with_reducible rfl) (spec_IsUnit xs lo hi v _ hm h) ?_; rintro e w' ⟨rfl, rfl⟩) | (go_at_call 62; refine K.call (by with_reducible rfl) (by with_reducible rfl) (l01In_any _ _ _ _) ?_; rintro e w' ⟨rfl, rfl⟩))
      have h1 := h.ext ((K.Ext.refl w).alloc (.cells #[.int .i64 0, .int .i64 0, .int .i64 0, .int .i64 0] 2))
      have h0 : K.ints (w.alloc (.cells #[.int .i64 0, .int .i64 0, .int .i64 0, .int .i64 0] 2)) w.heap.size (w.heap.size + 1) (.slice (some ⟨w.heap.size, 0, none⟩) 4 4) [0, 0, 0, 0] := ⟨_, 4, rfl, fun _ => ⟨_, 0, rfl, Nat.le_refl _, by omega, fun i hi => match i, hi with | 0, _ => by simp | 1, _ => by simp | 2, _ => by simp | 3, _ => by simp | i + 4, hi => absurd hi (by simp)⟩⟩
      have hz : ∀ i, i < [0, 0, 0, 0].length → (-1000000000 : Int) ≤ [0, 0, 0, 0].getD i 0 ∧ [0, 0, 0, 0].getD i 0 ≤ (1000000000 : Int) := by decide
      go_at_call 67
      refine Calls.mono (l19Add_any [0, 0, 0, 0] xs n _ _ lo hi _ v _ (by decide) (by rw [HL.out]; decide) hz HB.out (by have := HN.out.1; omega) (by have := HN.out.2; omega) h0 h1) ?_
      rintro e w1 ⟨⟨r, rfl, hr⟩, hx1⟩
      go_wp2_with (go_at_call 66; refine Calls.mono (l19Result_any _ _ _ _ _ (by rw [Z.addN_length]; decide) hr.ints) ?_; rintro e w2 ⟨⟨r2, rfl, hr2⟩, rfl⟩)
      go_ret2
      exact ⟨⟨r2, by rw [HE.out]; rfl, by rw [HE.out]; exact hr2.mono (Nat.zero_le _) (Nat.le_refl _)⟩, K.Ext.trans ((K.Ext.refl w).alloc _) hx1⟩
set_option maxHeartbeats 1600000 in
theorem impl_MultiplyUnits (xs ys : List Int) (lo hi lo' hi' : Nat) (v v' : Value) (w : World) (hm : xs.length ≤ 1048576) (hm' : ys.length ≤ 1048576) (h : K.ints w lo hi v xs) (h' : K.ints w lo' hi' v' ys) :
    Calls Try.prog 20 #[v, v'] w fun e w' => (∃ r, e = .returned (.tuple #[r, .int .i64 (Z.MultiplyUnits xs ys).2]) ∧ K.own w' w.heap.size w'.heap.size r (Z.MultiplyUnits xs ys).1) ∧ K.Ext w w' := by
  cases hx : Z.isUnit xs
  · have HE : Hid (Z.MultiplyUnits xs ys = ([], 1)) := Z.hide (Z.MultiplyUnits_l _ hx)
    go_enter Try.func20, Try.ntmps20
    go_wp2_with (go_at_call 17; refine K.call (by with_reducible rfl) (by with_reducible rfl) (impl_IsUnit xs lo hi v _ hm h) ?_; rintro e w' ⟨rfl, rfl⟩)
    go_ret2
    exact ⟨⟨_, by rw [HE.out]; rfl, by rw [HE.out]; exact K.own_nil _ _ _⟩, (by repeat' (first | exact K.Ext.refl _ | assumption | apply K.Ext.drew | refine K.Ext.alloc ?_ _ | refine K.Ext.setCell ?_ ?_ _ | (simp; done) | (simp; omega) | omega | refine K.Ext.trans ?_ (by assumption)))⟩
  · cases hy : Z.isUnit ys
    · have HE : Hid (Z.MultiplyUnits xs ys = ([], 1)) := Z.hide (Z.MultiplyUnits_r hx hy)
      go_enter Try.func20, Try.ntmps20
      go_wp2_with (first | (go_at_call 17; refine K.call (by with_reducible rfl) (by with_reducible rfl) (impl_IsUnit xs lo hi v _ hm h) ?_; rintro e w' ⟨rfl, rfl⟩) | (go_at_call 17; refine K.call (by with_reducible rfl) (by with_reducible rfl) (impl_IsUnit ys lo' hi' v' _ hm' h') ?_; rintro e w' ⟨rfl, rfl⟩))
      go_ret2
      exact ⟨⟨_, by rw [HE.out]; rfl, by rw [HE.out]; exact K.own_nil _ _ _⟩, (by repeat' (first | exact K.Ext.refl _ | assumption | apply K.Ext.drew | refine K.Ext.alloc ?_ _ | refine K.Ext.setCell ?_ ?_ _ | (simp; done) | (simp; omega) | omega | refine K.Ext.trans ?_ (by assumption)))⟩
    · have HE : Hid (Z.MultiplyUnits xs ys = Z.unitOr (Z.addN xs ys 1)) := Z.hide (Z.MultiplyUnits_ok hx hy)
      have HL := Z.hide (Z.isUnit_len hx)
      have HL' := Z.hide (Z.isUnit_len hy)
      have HB := Z.hide (Z.isUnit_bd hx)
      have HB' := Z.hide (Z.isUnit_bd hy)
      have HI := Z.hide info_int
      have hl : xs.length ≤ ys.length := by rw [HL.out, HL'.out]; exact Nat.le_refl _
      have h1 := h
      obtain ⟨o, cap, rfl, hh⟩ := h1
      have h1' := h'
      obtain ⟨o', cap', rfl, hh'⟩ := h1'
      go_enter Try.func20, Try.ntmps20
      go_wp2_with (first | (go_at_call 17; refine K.call (by with_reducible rfl) (by with_reducible rfl) (impl_IsUnit xs lo hi _ _ hm h) ?_; rintro e w' ⟨rfl, rfl⟩) | (go_at_call 17; refine K.call (by with_reducible rfl) (by with_reducible rfl) (impl_IsUnit ys lo' hi' _ _ hm' h') ?_; rintro e w' ⟨rfl, rfl⟩))
      clear h h'
      obtain ⟨it0, hi0, hz0, hz1, hz2⟩ := info_parts HI.out
      go_loopw [6, 19] (fun out i wr => ∃ k : Nat, k ≤ xs.length ∧ i = .int .i64 k ∧ Hid (wr.ownsRow w.heap.size 2 1 out k (((Z.addN xs ys 1).take k).map (Value.int .i64))) ∧ Hid (K.Ext w wr)) (fun _ i _ => xs.length - (intOf i).toNat)
      case atStart => exact ⟨0, Nat.zero_le _, rfl, Z.hide (World.ownsRow_lit w #[] 0 (Nat.le_refl _) (by decide) rfl), Z.hide ((K.Ext.refl _).alloc _)⟩
      case round =>
        obtain ⟨k, hk, rfl, HO, HX⟩ := hrel
        by_cases hlt : k < xs.length
        · obtain ⟨b, off, rfl, _, _, hc⟩ := hh (by intro h0; simp [h0] at hlt)
          obtain ⟨b', off', rfl, _, _, hc'⟩ := hh' (by intro h0; have h1 := congrArg List.length h0; rw [List.length_nil] at h1; omega)
          have lb : b < w.heap.size := World.block_lt_of_cell? w _ (hc k hlt)
          have lb' : b' < w.heap.size := World.block_lt_of_cell? w _ (hc' k (by omega))
          have hck := HX.out.cell_of (hc k hlt)
          have hck' := HX.out.cell_of (hc' k (by omega))
          have i0 : (0 : Int) ≤ (k : Int) := Int.natCast_nonneg k
          have i1 : (k : Int) < (xs.length : Int) := by omega
          have i2 : (k : Int) < (ys.length : Int) := by omega
          have HG := Z.hide (Z.addN_get xs ys 1 k hlt)
          have HT := Z.hide (Z.take_succ_get (Z.addN xs ys 1) k (by rw [Z.addN_length]; exact hlt))
          obtain ⟨e1, e2⟩ := HB.out k hlt
          obtain ⟨e3, e4⟩ := HB'.out k (by omega)
          have lk := HX.out.size
          have ag : u6.ownBlock ≠ some b := fun he => by have := (HO.out.lt b he).1; omega
          have ag' : u6.ownBlock ≠ some b' := fun he => by have := (HO.out.lt b' he).1; omega
          have lr : b < wr.heap.size := by omega
          have lr' : b' < wr.heap.size := by omega
          clear hc hc' hh hh' lb lb'
          generalize xs.getD k 0 = x at *
          generalize ys.getD k 0 = y at *
          have q2 : IntKind.i64.wrap (x + y) = x + y := IntWalk.i64_in _ (by omega)
          go_wp2_with fail
          go_region_held3 (fun w' => w'.cell? ⟨b, off + k, none⟩ = some (.int .i64 x) ∧ w'.cell? ⟨b', off' + k, none⟩ = some (.int .i64 y))
            (first | go_keep | (go_split_ands; exact ⟨(hgrow.cell_far _ (by simp; omega) (Ne.symm ag)).trans (by assumption), (hgrow.cell_far _ (by simp; omega) (Ne.symm ag')).trans (by assumption)⟩))
            ((refine step_append_lies _ (by rfl) _ _ _ (by rfl) w.heap.size 2 it0 _ 1 8 Try.underlying22 hi0 hz0 hz1 hz2 rfl (by omega) u6 k _ (by rfl) ((HO.out.alloc _).drew) ⟨wr.heap.size, 0, none⟩ 1 1 [.int .i64 (x + y)] (by rfl) (by rfl) (World.news_of_block (cs := #[.int .i64 (x + y)]) (t := 2) (fr := (0, 0)) (heap_alloc_new wr _)) (by simp [Value.oneCell']) (by omega) (by unfold maxLen; omega) (by omega) (by simp; omega) (wr.heap.size + 1) (by simp) ?_; intro gg gcap w1 hown1 hgrow hat hlt))
          have HO1 := Z.hide hown1
          have HX1 : Hid (K.Ext w w1) := Z.hide (((HX.out.alloc _).drew.below.grown hgrow (by simp; omega) (fun g hg => (HO.out.lt g hg).1)))
          clear hown1 hgrow hat
          go_wp2
          go_roundw
          case rel => exact ⟨k + 1, by omega, by go_num, Z.hide (by rw [HT.out, HG.out]; simpa using HO1.out), HX1⟩
          case measure => simp [intOf]; omega
        · obtain rfl : k = xs.length := by omega
          clear hh hh'
          have HR := K.own_of_row HO.out
          rw [List.take_of_length_le (by rw [Z.addN_length]; exact Nat.le_refl _)] at HR
          go_wp2_with (go_at_call 68; refine K.call (by with_reducible rfl) (by with_reducible rfl) (unitOr_any _ _ _ _ _ (by rw [Z.addN_length]; exact hm) HR) ?_; rintro e w2 ⟨⟨r2, rfl, hr2⟩, rfl⟩)
          go_ret2
          exact ⟨⟨r2, by rw [HE.out]; rfl, by rw [HE.out]; exact hr2⟩, HX.out⟩
end Go.Proofs.Ytpepekmljmeghaa
