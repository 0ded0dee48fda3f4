/-
  UNITS: sums.
-/
import Derived.Test.YtphlppklhpaljaaUnits
import Derived.Deep.RegionHeld3
import Derived.Deep.DrawnRows
import Derived.WalkSpells
import Derived.StillTactics
import Derived.Laws.Pointers
set_option linter.unusedVariables false
namespace Go.Proofs.Ytphlppklhpaljaa
open Go.RowKit
attribute [local go_sem ↓] Go.wp_at_zero Go.wp_at_succ
set_option maxHeartbeats 1600000 in
theorem l19Add_any (xs ys : List Int) (n : Int) (lo hi lo' hi' : Nat) (v v' : Value) (w : World) (hm : xs.length ≤ 1048576) (hl : xs.length ≤ ys.length)
    (hb : ∀ i, i < xs.length → -1000000000 ≤ xs.getD i 0 ∧ xs.getD i 0 ≤ 1000000000) (hb' : ∀ i, i < ys.length → -1000000000 ≤ ys.getD i 0 ∧ ys.getD i 0 ≤ 1000000000) (hn : -1000000 ≤ n) (hn' : n ≤ 1000000)
    (h : K.ints w lo hi v xs) (h' : K.ints w lo' hi' v' ys) :
    Calls Try.prog 113 #[v, v', .int .i64 n] w fun e w' => (∃ r, e = .returned r ∧ K.own w' w.heap.size w'.heap.size r (Z.addN xs ys n)) ∧ K.Ext w w' := by
  obtain ⟨o, cap, rfl, h⟩ := h
  obtain ⟨o', cap', rfl, h'⟩ := h'
  obtain ⟨it0, hi0, hz0, hz1, hz2⟩ := info_parts info_int
  go_enter Try.func113, Try.ntmps113
  go_wp2
  go_loopw [7, 8] (fun out i wr => ∃ k : Nat, k ≤ xs.length ∧ i = .int .i64 k ∧ Hid (wr.ownsRow w.heap.size 2 1 out k (((Z.addN xs ys n).take k).map (Value.int .i64))) ∧ Hid (K.Ext w wr)) (fun _ i _ => xs.length - (intOf i).toNat)
  case atStart => exact ⟨0, Nat.zero_le _, rfl, Z.hide (World.ownsRow_lit w #[] 0 (Nat.le_refl _) (by decide) rfl), Z.hide ((K.Ext.refl _).alloc _)⟩
  case round =>
    obtain ⟨k, hk, rfl, HO, HX⟩ := hrel
    by_cases hlt : k < xs.length
    · obtain ⟨b, off, rfl, _, _, hc⟩ := h (by intro h0; simp [h0] at hlt)
      obtain ⟨b', off', rfl, _, _, hc'⟩ := h' (by intro h0; have h1 := congrArg List.length h0; rw [List.length_nil] at h1; omega)
      have lb : b < w.heap.size := World.block_lt_of_cell? w _ (hc k hlt)
      have lb' : b' < w.heap.size := World.block_lt_of_cell? w _ (hc' k (by omega))
      have hck := HX.out.cell_of (hc k hlt)
      have hck' := HX.out.cell_of (hc' k (by omega))
      have i0 : (0 : Int) ≤ (k : Int) := Int.natCast_nonneg k
      have i1 : (k : Int) < (xs.length : Int) := by omega
      have i2 : (k : Int) < (ys.length : Int) := by omega
      have HG := Z.hide (Z.addN_get xs ys n k hlt)
      have HT := Z.hide (Z.take_succ_get (Z.addN xs ys n) k (by rw [Z.addN_length]; exact hlt))
      obtain ⟨e1, e2⟩ := hb k hlt
      obtain ⟨e3, e4⟩ := hb' k (by omega)
      have lk := HX.out.size
      have HA : Hid (∀ g, u7.ownBlock = some g → w.heap.size ≤ g) := Z.hide (fun g hg => (HO.out.lt g hg).1)
      clear hc hc' h h' hb hb'
      generalize xs.getD k 0 = x at *
      generalize ys.getD k 0 = y at *
      obtain ⟨m1, m2⟩ := Z.mul_bd n y 1000000 1000000000 hn hn' e3 e4
      have ag : u7.ownBlock ≠ some b := fun he => by have := HA.out b he; omega
      have ag' : u7.ownBlock ≠ some b' := fun he => by have := HA.out b' he; omega
      have lr : b < wr.heap.size := by omega
      have lr' : b' < wr.heap.size := by omega
      clear HA lb lb'
      have q1 : IntKind.i64.wrap (n * y) = n * y := IntWalk.i64_in _ (by omega)
      have q2 : IntKind.i64.wrap (x + n * y) = x + n * y := IntWalk.i64_in _ (by omega)
      go_wp2_with fail
      go_region_held3 (fun w' => w'.cell? ⟨b, off + k, none⟩ = some (.int .i64 x) ∧ w'.cell? ⟨b', off' + k, none⟩ = some (.int .i64 y))
        (first | go_keep | (go_split_ands; exact ⟨(hgrow.cell_far _ (by simp; omega) (Ne.symm ag)).trans (by assumption), (hgrow.cell_far _ (by simp; omega) (Ne.symm ag')).trans (by assumption)⟩))
        ((refine step_append_lies _ (by rfl) _ _ _ (by rfl) w.heap.size 2 it0 _ 1 8 Try.underlying24 hi0 hz0 hz1 hz2 rfl (by omega) u7 k _ (by rfl) ((HO.out.alloc _).drew) ⟨wr.heap.size, 0, none⟩ 1 1 [.int .i64 (x + n * y)] (by rfl) (by rfl) (World.news_of_block (cs := #[.int .i64 (x + n * y)]) (t := 2) (fr := (0, 0)) (heap_alloc_new wr _)) (by simp [Value.oneCell']) (by omega) (by unfold maxLen; omega) (by omega) (by simp; omega) (wr.heap.size + 1) (by simp) ?_; intro gg gcap w1 hown1 hgrow hat hlt))
      have HO1 := Z.hide hown1
      have HX1 : Hid (K.Ext w w1) := Z.hide (((HX.out.alloc _).drew.below.grown hgrow (by simp; omega) (fun g hg => by first | exact (HO.out.lt g hg).1 | skip)))
      clear hown1 hgrow hat
      go_wp2
      go_roundw
      case rel => exact ⟨k + 1, by omega, by go_num, Z.hide (by rw [HT.out, HG.out]; simpa using HO1.out), HX1⟩
      case measure => simp [intOf]; omega
    · obtain rfl : k = xs.length := by omega
      clear h h' hb hb'
      have HR := Z.hide (K.own_of_row HO.out)
      go_wp2
      go_ret
      exact ⟨⟨_, rfl, by have := HR.out; rwa [List.take_of_length_le (by rw [Z.addN_length]; exact Nat.le_refl _)] at this⟩, HX.out⟩
end Go.Proofs.Ytphlppklhpaljaa
