/-
  UNITS: powers, the tool's side.
-/
import Derived.Test.YtpepekmljmeghaaUnits3
set_option linter.unusedVariables false
namespace Go.Proofs.Ytpepekmljmeghaa
open Go.RowKit
set_option maxHeartbeats 1600000 in
theorem impl_PowerUnit (xs : List Int) (n : Int) (lo hi : Nat) (v : Value) (w : World) (hm : xs.length ≤ 1048576) (h : K.ints w lo hi v xs) :
    Calls Try.prog 29 #[v, .int .i64 n] w fun e w' => (∃ r, e = .returned (.tuple #[r, .int .i64 (Z.PowerUnit xs n).2]) ∧ K.own w' w.heap.size w'.heap.size r (Z.PowerUnit xs n).1) ∧ K.Ext w w' := by
  cases hx : Z.isUnit xs
  · have HE : Hid (Z.PowerUnit xs n = ([], 1)) := Z.hide (Z.PowerUnit_1 _ hx)
    go_enter Try.func29, Try.ntmps29
    go_wp2_with (go_at_call 17; refine K.call (by with_reducible rfl) (by with_reducible rfl) (impl_IsUnit xs lo hi v _ hm h) ?_; rintro e w' ⟨rfl, rfl⟩)
    go_ret2
    exact ⟨⟨_, by rw [HE.out]; rfl, by rw [HE.out]; exact K.own_nil _ _ _⟩, (by repeat' (first | exact K.Ext.refl _ | assumption | apply K.Ext.drew | refine K.Ext.alloc ?_ _ | refine K.Ext.setCell ?_ ?_ _ | (simp; done) | (simp; omega) | omega | refine K.Ext.trans ?_ (by assumption)))⟩
  · cases hy : (decide (-9 ≤ n) && decide (n ≤ 9))
    · have HE : Hid (Z.PowerUnit xs n = ([], 2)) := Z.hide (Z.PowerUnit_2 hx hy)
      go_enter Try.func29, Try.ntmps29
      go_wp2_with (first | (go_at_call 17; refine K.call (by with_reducible rfl) (by with_reducible rfl) (impl_IsUnit xs lo hi v _ hm h) ?_; rintro e w' ⟨rfl, rfl⟩) | (go_at_call 65; refine K.call (by with_reducible rfl) (by with_reducible rfl) (within_any _ _ _ _) ?_; rintro e w' ⟨rfl, rfl⟩))
      go_ret2
      exact ⟨⟨_, by rw [HE.out]; rfl, by rw [HE.out]; exact K.own_nil _ _ _⟩, (by repeat' (first | exact K.Ext.refl _ | assumption | apply K.Ext.drew | refine K.Ext.alloc ?_ _ | refine K.Ext.setCell ?_ ?_ _ | (simp; done) | (simp; omega) | omega | refine K.Ext.trans ?_ (by assumption)))⟩
    · have HE : Hid (Z.PowerUnit xs n = Z.unitOr (Z.mulN xs n)) := Z.hide (Z.PowerUnit_3 hx hy)
      have HL := Z.hide (Z.isUnit_len hx)
      have HB := Z.hide (Z.isUnit_bd hx)
      obtain ⟨n1, n2⟩ : -9 ≤ n ∧ n ≤ 9 := by simpa using hy
      have HI := Z.hide info_int
      have h1 := h
      obtain ⟨o, cap, rfl, hh⟩ := h1
      go_enter Try.func29, Try.ntmps29
      go_wp2_with (first | (go_at_call 17; refine K.call (by with_reducible rfl) (by with_reducible rfl) (impl_IsUnit xs lo hi _ _ hm h) ?_; rintro e w' ⟨rfl, rfl⟩) | (go_at_call 65; refine K.call (by with_reducible rfl) (by with_reducible rfl) (within_any _ _ _ _) ?_; rintro e w' ⟨rfl, rfl⟩))
      clear h
      obtain ⟨it0, hi0, hz0, hz1, hz2⟩ := info_parts HI.out
      go_loopw [6, 20] (fun out i wr => ∃ k : Nat, k ≤ xs.length ∧ i = .int .i64 k ∧ Hid (wr.ownsRow w.heap.size 2 1 out k (((Z.mulN xs n).take k).map (Value.int .i64))) ∧ Hid (K.Ext w wr)) (fun _ i _ => xs.length - (intOf i).toNat)
      case atStart => exact ⟨0, Nat.zero_le _, rfl, Z.hide (World.ownsRow_lit w #[] 0 (Nat.le_refl _) (by decide) rfl), Z.hide ((K.Ext.refl _).alloc _)⟩
      case round =>
        obtain ⟨k, hk, rfl, HO, HX⟩ := hrel
        by_cases hlt : k < xs.length
        · obtain ⟨b, off, rfl, _, _, hc⟩ := hh (by intro h0; simp [h0] at hlt)
          have lb : b < w.heap.size := World.block_lt_of_cell? w _ (hc k hlt)
          have hck := HX.out.cell_of (hc k hlt)
          have HG := Z.hide (Z.mulN_get xs n k hlt)
          have HT := Z.hide (Z.take_succ_get (Z.mulN xs n) k (by rw [Z.mulN_length]; exact hlt))
          obtain ⟨e1, e2⟩ := HB.out k hlt
          have lk := HX.out.size
          clear hc hh lb
          generalize xs.getD k 0 = x at *
          obtain ⟨m1, m2⟩ := Z.mul_bd n x 1000000 1000000000 (by omega) (by omega) e1 e2
          go_wp2_with (at_builtin; refine wpList_append_lies _ rfl _ _ _ rfl w.heap.size 2 it0 _ 1 8 Try.underlying22 hi0 hz0 hz1 hz2 rfl (by omega) u6 k _ rfl (HO.out.alloc _) ⟨wr.heap.size, 0, none⟩ 1 1 [.int .i64 (n * x)] rfl rfl (World.news_of_block (cs := #[.int .i64 (n * x)]) (t := 2) (fr := (0, 0)) (heap_alloc_new wr _)) (by simp [Value.oneCell']) (by omega) (by unfold maxLen; omega) (by omega) (by simp; omega) (wr.heap.size + 1) (by simp) ?_; intro gg gcap w1 hown1 hgrow hat hlt2; have HO1 := Z.hide hown1; have HX1 : Hid (K.Ext w w1) := Z.hide (((HX.out.alloc _).below.grown hgrow (by simp; omega) (fun g hg => (HO.out.lt g hg).1))); clear hown1 hgrow hat)
          go_roundw
          case rel => exact ⟨k + 1, by omega, by go_num, Z.hide (by rw [HT.out, HG.out]; simpa using HO1.out), HX1⟩
          case measure => simp [intOf]; omega
        · obtain rfl : k = xs.length := by omega
          clear hh
          have HR := K.own_of_row HO.out
          rw [List.take_of_length_le (by rw [Z.mulN_length]; exact Nat.le_refl _)] at HR
          go_wp2_with (go_at_call 68; refine K.call (by with_reducible rfl) (by with_reducible rfl) (unitOr_any _ _ _ _ _ (by rw [Z.mulN_length]; exact hm) HR) ?_; rintro e w2 ⟨⟨r2, rfl, hr2⟩, rfl⟩)
          go_ret2
          exact ⟨⟨r2, by rw [HE.out]; rfl, by rw [HE.out]; exact hr2⟩, HX.out⟩
end Go.Proofs.Ytpepekmljmeghaa
