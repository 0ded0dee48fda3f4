/-
  POINTS (chapter 22), both sides: contracts.
-/
import Derived.Test.YtgepjmfjeidbaaaBase
import Derived.Deep.QuietTactic
import Derived.BigQuiet
set_option linter.unusedVariables false
namespace Go.Proofs.Ytgepjmfjeidbaaa
open Go.RowKit

theorem l22Place_any (n : Int) (w : World) :
    Calls Try.prog 47 #[.int .i64 n] w fun e w' => e = .returned (.bool (Z.place n)) ∧ w = w' := by
  go_enter Try.func47, Try.ntmps47
  go_wp2_with (go_at_call 56; refine (l01In_any _ _ _ _).mono ?_; rintro e w' ⟨rfl, rfl⟩)
  go_ret
  exact ⟨K.rb rfl, rfl⟩
theorem isPlace_any (n : Int) (w : World) :
    Calls Try.prog 44 #[.int .i64 n] w fun e w' => e = .returned (.bool (Z.place n)) ∧ w = w' := by
  go_enter Try.func44, Try.ntmps44
  go_wp2_with (go_at_call 55; refine (within_any _ _ _ _).mono ?_; rintro e w' ⟨rfl, rfl⟩)
  go_ret
  exact ⟨K.rb rfl, rfl⟩
set_option maxHeartbeats 400000 in
theorem l22Points_any (ps : List Z.Pt) (b off cap : Nat) (w : World) (hm : ps.length ≤ 1000000000)
    (hx : ∀ i, i < ps.length → w.cell? ⟨b, off + i * 2, none⟩ = some (.int .i64 (ps.getD i (0,0)).1))
    (hy : ∀ i, i < ps.length → w.cell? ⟨b, off + i * 2 + 1, none⟩ = some (.int .i64 (ps.getD i (0,0)).2)) :
    Calls Try.prog 33 #[.slice (some ⟨b, off, none⟩) ps.length cap] w fun e w' => e = .returned (.bool (Z.pts ps)) ∧ w = w' := by
  go_enter Try.func33, Try.ntmps33
  go_wp2
  go_loop [3] (fun i => ∃ k : Nat, k ≤ ps.length ∧ i = .int .i64 k ∧ Hid (Z.pts (ps.take k) = true)) (fun i => ps.length - (intOf i).toNat)
  case atStart => exact ⟨0, Nat.zero_le _, rfl, Z.hide rfl⟩
  case round =>
    obtain ⟨k, hk, rfl, HP⟩ := hrel
    by_cases hlt : k < ps.length
    · have hx' := hx k hlt
      have hy' := hy k hlt
      have HS := Z.hide (Z.pts_take_succ ps k hlt)
      have HB := Z.hide (Z.pts_bad ps k hlt)
      generalize ps.getD k (0, 0) = p at *
      clear hx hy
      cases h1 : Z.place p.1
      · go_wp2_with (go_at_call 47; refine (l22Place_any _ _).mono ?_; rintro e w' ⟨rfl, rfl⟩)
        go_ret
        exact ⟨K.rb (HB.out (by simp [Z.okPt, h1])).symm, rfl⟩
      · cases h2 : Z.place p.2
        · go_wp2_with (go_at_call 47; refine (l22Place_any _ _).mono ?_; rintro e w' ⟨rfl, rfl⟩)
          go_ret
          exact ⟨K.rb (HB.out (by simp [Z.okPt, h2])).symm, rfl⟩
        · go_wp2_with (go_at_call 47; refine (l22Place_any _ _).mono ?_; rintro e w' ⟨rfl, rfl⟩)
          go_round
          case rel => exact ⟨k + 1, by omega, by go_num, Z.hide (by rw [HS.out, HP.out]; simp [Z.okPt, h1, h2])⟩
          case measure => simp [intOf]; omega
    · obtain rfl : k = ps.length := by omega
      rw [List.take_length] at HP
      clear hx hy
      go_wp2
      go_ret
      exact ⟨K.rb HP.out.symm, rfl⟩
set_option maxHeartbeats 400000 in
theorem arePoints_any (ps : List Z.Pt) (b off cap : Nat) (w : World) (hm : ps.length ≤ 1000000000) (hb : b < w.heap.size)
    (hx : ∀ i, i < ps.length → w.cell? ⟨b, off + i * 2, none⟩ = some (.int .i64 (ps.getD i (0,0)).1))
    (hy : ∀ i, i < ps.length → w.cell? ⟨b, off + i * 2 + 1, none⟩ = some (.int .i64 (ps.getD i (0,0)).2)) :
    Calls Try.prog 35 #[.slice (some ⟨b, off, none⟩) ps.length cap] w fun e w' => e = .returned (.bool (Z.pts ps)) ∧ K.Ext w w' := by
  go_enter Try.func35, Try.ntmps35
  go_wp2
  go_loopw [7] (fun i wr => ∃ k : Nat, k ≤ ps.length ∧ i = .int .i64 k ∧ Hid (Z.pts (ps.take k) = true) ∧ Hid (K.Ext w wr)) (fun i _ => ps.length - (intOf i).toNat)
  case atStart => exact ⟨0, Nat.zero_le _, rfl, Z.hide rfl, Z.hide (K.Ext.refl _)⟩
  case round =>
    obtain ⟨k, hk, rfl, HP, HW⟩ := hrel
    by_cases hlt : k < ps.length
    · have hx' := (HW.out.cell (p := ⟨b, off + k * 2, none⟩) hb).trans (hx k hlt)
      have hy' := (HW.out.cell (p := ⟨b, off + k * 2 + 1, none⟩) hb).trans (hy k hlt)
      have HS := Z.hide (Z.pts_take_succ ps k hlt)
      have HB := Z.hide (Z.pts_bad ps k hlt)
      generalize ps.getD k (0, 0) = p at *
      clear hx hy
      cases h1 : Z.place p.1
      · go_wp2_with (go_at_call 44; refine (isPlace_any _ _).mono ?_; rintro e w' ⟨rfl, rfl⟩)
        go_ret
        exact ⟨K.rb (HB.out (by simp [Z.okPt, h1])).symm, HW.out.alloc _⟩
      · cases h2 : Z.place p.2
        · go_wp2_with (go_at_call 44; refine (isPlace_any _ _).mono ?_; rintro e w' ⟨rfl, rfl⟩)
          go_ret
          exact ⟨K.rb (HB.out (by simp [Z.okPt, h2])).symm, HW.out.alloc _⟩
        · go_wp2_with (go_at_call 44; refine (isPlace_any _ _).mono ?_; rintro e w' ⟨rfl, rfl⟩)
          go_roundw
          case rel => exact ⟨k + 1, by omega, by go_num, Z.hide (by rw [HS.out, HP.out]; simp [Z.okPt, h1, h2]), Z.hide (HW.out.alloc _)⟩
          case measure => simp [intOf]; omega
    · obtain rfl : k = ps.length := by omega
      rw [List.take_length] at HP
      clear hx hy
      go_wp2
      go_ret
      exact ⟨K.rb HP.out.symm, HW.out⟩
theorem l22Points_1 (a : Z.Pt) (blk : Nat) (w : World) (h0 : w.cell? ⟨blk, 0, none⟩ = some (.int .i64 a.1)) (h1 : w.cell? ⟨blk, 1, none⟩ = some (.int .i64 a.2)) :
    Calls Try.prog 33 #[.slice (some ⟨blk, 0, none⟩) 1 1] w fun e w' => e = .returned (.bool (Z.pts [a])) ∧ w = w' :=
  l22Points_any [a] blk 0 1 w (by simp) (fun i hi => match i, hi with | 0, _ => by simpa using h0 | i + 1, hi => absurd hi (by simp)) (fun i hi => match i, hi with | 0, _ => by simpa using h1 | i + 1, hi => absurd hi (by simp))
theorem l22Points_2 (a b : Z.Pt) (blk : Nat) (w : World) (h0 : w.cell? ⟨blk, 0, none⟩ = some (.int .i64 a.1)) (h1 : w.cell? ⟨blk, 1, none⟩ = some (.int .i64 a.2)) (h2 : w.cell? ⟨blk, 2, none⟩ = some (.int .i64 b.1)) (h3 : w.cell? ⟨blk, 3, none⟩ = some (.int .i64 b.2)) :
    Calls Try.prog 33 #[.slice (some ⟨blk, 0, none⟩) 2 2] w fun e w' => e = .returned (.bool (Z.pts [a, b])) ∧ w = w' :=
  l22Points_any [a, b] blk 0 2 w (by simp) (fun i hi => match i, hi with | 0, _ => by simpa using h0 | 1, _ => by simpa using h2 | i + 2, hi => absurd hi (by simp)) (fun i hi => match i, hi with | 0, _ => by simpa using h1 | 1, _ => by simpa using h3 | i + 2, hi => absurd hi (by simp))
theorem l22Points_3 (a b c : Z.Pt) (blk : Nat) (w : World) (h0 : w.cell? ⟨blk, 0, none⟩ = some (.int .i64 a.1)) (h1 : w.cell? ⟨blk, 1, none⟩ = some (.int .i64 a.2)) (h2 : w.cell? ⟨blk, 2, none⟩ = some (.int .i64 b.1)) (h3 : w.cell? ⟨blk, 3, none⟩ = some (.int .i64 b.2)) (h4 : w.cell? ⟨blk, 4, none⟩ = some (.int .i64 c.1)) (h5 : w.cell? ⟨blk, 5, none⟩ = some (.int .i64 c.2)) :
    Calls Try.prog 33 #[.slice (some ⟨blk, 0, none⟩) 3 3] w fun e w' => e = .returned (.bool (Z.pts [a, b, c])) ∧ w = w' :=
  l22Points_any [a, b, c] blk 0 3 w (by simp) (fun i hi => match i, hi with | 0, _ => by simpa using h0 | 1, _ => by simpa using h2 | 2, _ => by simpa using h4 | i + 3, hi => absurd hi (by simp)) (fun i hi => match i, hi with | 0, _ => by simpa using h1 | 1, _ => by simpa using h3 | 2, _ => by simpa using h5 | i + 3, hi => absurd hi (by simp))
theorem l22Points_4 (a b c d : Z.Pt) (blk : Nat) (w : World) (h0 : w.cell? ⟨blk, 0, none⟩ = some (.int .i64 a.1)) (h1 : w.cell? ⟨blk, 1, none⟩ = some (.int .i64 a.2)) (h2 : w.cell? ⟨blk, 2, none⟩ = some (.int .i64 b.1)) (h3 : w.cell? ⟨blk, 3, none⟩ = some (.int .i64 b.2)) (h4 : w.cell? ⟨blk, 4, none⟩ = some (.int .i64 c.1)) (h5 : w.cell? ⟨blk, 5, none⟩ = some (.int .i64 c.2)) (h6 : w.cell? ⟨blk, 6, none⟩ = some (.int .i64 d.1)) (h7 : w.cell? ⟨blk, 7, none⟩ = some (.int .i64 d.2)) :
    Calls Try.prog 33 #[.slice (some ⟨blk, 0, none⟩) 4 4] w fun e w' => e = .returned (.bool (Z.pts [a, b, c, d])) ∧ w = w' :=
  l22Points_any [a, b, c, d] blk 0 4 w (by simp) (fun i hi => match i, hi with | 0, _ => by simpa using h0 | 1, _ => by simpa using h2 | 2, _ => by simpa using h4 | 3, _ => by simpa using h6 | i + 4, hi => absurd hi (by simp)) (fun i hi => match i, hi with | 0, _ => by simpa using h1 | 1, _ => by simpa using h3 | 2, _ => by simpa using h5 | 3, _ => by simpa using h7 | i + 4, hi => absurd hi (by simp))
theorem arePoints_1 (a : Z.Pt) (blk : Nat) (w : World) (hb : blk < w.heap.size) (h0 : w.cell? ⟨blk, 0, none⟩ = some (.int .i64 a.1)) (h1 : w.cell? ⟨blk, 1, none⟩ = some (.int .i64 a.2)) :
    Calls Try.prog 35 #[.slice (some ⟨blk, 0, none⟩) 1 1] w fun e w' => e = .returned (.bool (Z.pts [a])) ∧ K.Ext w w' :=
  arePoints_any [a] blk 0 1 w (by simp) hb (fun i hi => match i, hi with | 0, _ => by simpa using h0 | i + 1, hi => absurd hi (by simp)) (fun i hi => match i, hi with | 0, _ => by simpa using h1 | i + 1, hi => absurd hi (by simp))
theorem arePoints_2 (a b : Z.Pt) (blk : Nat) (w : World) (hb : blk < w.heap.size) (h0 : w.cell? ⟨blk, 0, none⟩ = some (.int .i64 a.1)) (h1 : w.cell? ⟨blk, 1, none⟩ = some (.int .i64 a.2)) (h2 : w.cell? ⟨blk, 2, none⟩ = some (.int .i64 b.1)) (h3 : w.cell? ⟨blk, 3, none⟩ = some (.int .i64 b.2)) :
    Calls Try.prog 35 #[.slice (some ⟨blk, 0, none⟩) 2 2] w fun e w' => e = .returned (.bool (Z.pts [a, b])) ∧ K.Ext w w' :=
  arePoints_any [a, b] blk 0 2 w (by simp) hb (fun i hi => match i, hi with | 0, _ => by simpa using h0 | 1, _ => by simpa using h2 | i + 2, hi => absurd hi (by simp)) (fun i hi => match i, hi with | 0, _ => by simpa using h1 | 1, _ => by simpa using h3 | i + 2, hi => absurd hi (by simp))
theorem arePoints_3 (a b c : Z.Pt) (blk : Nat) (w : World) (hb : blk < w.heap.size) (h0 : w.cell? ⟨blk, 0, none⟩ = some (.int .i64 a.1)) (h1 : w.cell? ⟨blk, 1, none⟩ = some (.int .i64 a.2)) (h2 : w.cell? ⟨blk, 2, none⟩ = some (.int .i64 b.1)) (h3 : w.cell? ⟨blk, 3, none⟩ = some (.int .i64 b.2)) (h4 : w.cell? ⟨blk, 4, none⟩ = some (.int .i64 c.1)) (h5 : w.cell? ⟨blk, 5, none⟩ = some (.int .i64 c.2)) :
    Calls Try.prog 35 #[.slice (some ⟨blk, 0, none⟩) 3 3] w fun e w' => e = .returned (.bool (Z.pts [a, b, c])) ∧ K.Ext w w' :=
  arePoints_any [a, b, c] blk 0 3 w (by simp) hb (fun i hi => match i, hi with | 0, _ => by simpa using h0 | 1, _ => by simpa using h2 | 2, _ => by simpa using h4 | i + 3, hi => absurd hi (by simp)) (fun i hi => match i, hi with | 0, _ => by simpa using h1 | 1, _ => by simpa using h3 | 2, _ => by simpa using h5 | i + 3, hi => absurd hi (by simp))
theorem arePoints_4 (a b c d : Z.Pt) (blk : Nat) (w : World) (hb : blk < w.heap.size) (h0 : w.cell? ⟨blk, 0, none⟩ = some (.int .i64 a.1)) (h1 : w.cell? ⟨blk, 1, none⟩ = some (.int .i64 a.2)) (h2 : w.cell? ⟨blk, 2, none⟩ = some (.int .i64 b.1)) (h3 : w.cell? ⟨blk, 3, none⟩ = some (.int .i64 b.2)) (h4 : w.cell? ⟨blk, 4, none⟩ = some (.int .i64 c.1)) (h5 : w.cell? ⟨blk, 5, none⟩ = some (.int .i64 c.2)) (h6 : w.cell? ⟨blk, 6, none⟩ = some (.int .i64 d.1)) (h7 : w.cell? ⟨blk, 7, none⟩ = some (.int .i64 d.2)) :
    Calls Try.prog 35 #[.slice (some ⟨blk, 0, none⟩) 4 4] w fun e w' => e = .returned (.bool (Z.pts [a, b, c, d])) ∧ K.Ext w w' :=
  arePoints_any [a, b, c, d] blk 0 4 w (by simp) hb (fun i hi => match i, hi with | 0, _ => by simpa using h0 | 1, _ => by simpa using h2 | 2, _ => by simpa using h4 | 3, _ => by simpa using h6 | i + 4, hi => absurd hi (by simp)) (fun i hi => match i, hi with | 0, _ => by simpa using h1 | 1, _ => by simpa using h3 | 2, _ => by simpa using h5 | 3, _ => by simpa using h7 | i + 4, hi => absurd hi (by simp))
theorem l22Square_any (a b : Z.Pt) (w : World) (ha : Z.okPt a = true) (hb : Z.okPt b = true) :
    Calls Try.prog 51 #[.agg #[.int .i64 a.1, .int .i64 a.2], .agg #[.int .i64 b.1, .int .i64 b.2]] w fun e w' => e = .returned (.int .i64 (Z.sq a b)) ∧ K.Ext w w' := by
  obtain ⟨⟨a1, a2⟩, a3, a4⟩ := (Z.okPt_iff a).1 ha
  obtain ⟨⟨b1, b2⟩, b3, b4⟩ := (Z.okPt_iff b).1 hb
  obtain ⟨m1, m2⟩ := Z.mul_bd (a.1 - b.1) (a.1 - b.1) 200000 200000 (by omega) (by omega) (by omega) (by omega)
  obtain ⟨m3, m4⟩ := Z.mul_bd (a.2 - b.2) (a.2 - b.2) 200000 200000 (by omega) (by omega) (by omega) (by omega)
  clear ha hb
  go_enter Try.func51, Try.ntmps51
  go_wp2
  go_ret
  exact ⟨K.ri rfl, (by repeat' (first | with_reducible exact K.Ext.refl _ | with_reducible assumption | with_reducible refine K.Ext.drew ?_ | with_reducible refine K.Ext.alloc ?_ _ | with_reducible refine K.Ext.setCell ?_ ?_ _ | with_reducible refine K.Ext.trans ?_ (by with_reducible assumption) | (dsimp only; omega) | omega | exact K.Ext.refl _ | assumption | apply K.Ext.drew | refine K.Ext.alloc ?_ _ | refine K.Ext.setCell ?_ ?_ _ | (simp; done) | (simp; omega) | refine K.Ext.trans ?_ (by assumption)))⟩
theorem spec_SquareBetween (a b : Z.Pt) (w : World) :
    Calls Try.prog 30 #[.agg #[.int .i64 a.1, .int .i64 a.2], .agg #[.int .i64 b.1, .int .i64 b.2]] w fun e w' => e = .returned (.tuple #[.int .i64 (Z.SquareBetween a b).1, .int .i64 (Z.SquareBetween a b).2]) ∧ K.Ext w w' := by
  cases hp : Z.pts [a, b]
  · have HE : Hid (Z.SquareBetween a b = (0, 2)) := Z.hide (by simp [Z.SquareBetween, hp])
    go_enter Try.func30, Try.ntmps30
    go_wp2_with (go_at_call 33; refine K.call (by with_reducible rfl) (by with_reducible rfl) (l22Points_2 a b _ _ (by go_simp) (by go_simp) (by go_simp) (by go_simp)) ?_; rintro e w' ⟨rfl, rfl⟩)
    go_ret2
    exact ⟨by rw [HE.out]; rfl, (by repeat' (first | with_reducible exact K.Ext.refl _ | with_reducible assumption | with_reducible refine K.Ext.drew ?_ | with_reducible refine K.Ext.alloc ?_ _ | with_reducible refine K.Ext.setCell ?_ ?_ _ | with_reducible refine K.Ext.trans ?_ (by with_reducible assumption) | (dsimp only; omega) | omega | exact K.Ext.refl _ | assumption | apply K.Ext.drew | refine K.Ext.alloc ?_ _ | refine K.Ext.setCell ?_ ?_ _ | (simp; done) | (simp; omega) | refine K.Ext.trans ?_ (by assumption)))⟩
  · have HE : Hid (Z.SquareBetween a b = (Z.sq a b, 0)) := Z.hide (by simp [Z.SquareBetween, hp])
    obtain ⟨HA, HB⟩ : Hid (Z.okPt a = true) ∧ Hid (Z.okPt b = true) := by rw [Z.pts2] at hp; simpa [Hid] using hp
    go_enter Try.func30, Try.ntmps30
    go_wp2_with (first | (go_at_call 33; refine K.call (by with_reducible rfl) (by with_reducible rfl) (l22Points_2 a b _ _ (by go_simp) (by go_simp) (by go_simp) (by go_simp)) ?_; rintro e w' ⟨rfl, rfl⟩) | (go_at_call 51; refine K.call (by with_reducible rfl) (by with_reducible rfl) (l22Square_any a b _ HA.out HB.out) ?_; rintro e w1 ⟨rfl, hw1⟩; obtain ⟨hcw1, hfw1⟩ := hw1.facts))
    go_ret2
    exact ⟨by rw [HE.out]; rfl, (by repeat' (first | with_reducible exact K.Ext.refl _ | with_reducible assumption | with_reducible refine K.Ext.drew ?_ | with_reducible refine K.Ext.alloc ?_ _ | with_reducible refine K.Ext.setCell ?_ ?_ _ | with_reducible refine K.Ext.trans ?_ (by with_reducible assumption) | (dsimp only; omega) | omega | exact K.Ext.refl _ | assumption | apply K.Ext.drew | refine K.Ext.alloc ?_ _ | refine K.Ext.setCell ?_ ?_ _ | (simp; done) | (simp; omega) | refine K.Ext.trans ?_ (by assumption)))⟩
theorem impl_SquareBetween (a b : Z.Pt) (w : World) :
    Calls Try.prog 29 #[.agg #[.int .i64 a.1, .int .i64 a.2], .agg #[.int .i64 b.1, .int .i64 b.2]] w fun e w' => e = .returned (.tuple #[.int .i64 (Z.SquareBetween a b).1, .int .i64 (Z.SquareBetween a b).2]) ∧ K.Ext w w' := by
  cases hp : Z.pts [a, b]
  · have HE : Hid (Z.SquareBetween a b = (0, 2)) := Z.hide (by simp [Z.SquareBetween, hp])
    go_enter Try.func29, Try.ntmps29
    go_wp2_with (go_at_call 35; refine K.call (by with_reducible rfl) (by with_reducible rfl) (arePoints_2 a b _ _ (by go_simp) (by go_simp) (by go_simp) (by go_simp) (by go_simp)) ?_; rintro e w1 ⟨rfl, hw1⟩; obtain ⟨hcw1, hfw1⟩ := hw1.facts)
    go_ret2
    exact ⟨by rw [HE.out]; rfl, (by repeat' (first | with_reducible exact K.Ext.refl _ | with_reducible assumption | with_reducible refine K.Ext.drew ?_ | with_reducible refine K.Ext.alloc ?_ _ | with_reducible refine K.Ext.setCell ?_ ?_ _ | with_reducible refine K.Ext.trans ?_ (by with_reducible assumption) | (dsimp only; omega) | omega | exact K.Ext.refl _ | assumption | apply K.Ext.drew | refine K.Ext.alloc ?_ _ | refine K.Ext.setCell ?_ ?_ _ | (simp; done) | (simp; omega) | refine K.Ext.trans ?_ (by assumption)))⟩
  · have HE : Hid (Z.SquareBetween a b = (Z.sq a b, 0)) := Z.hide (by simp [Z.SquareBetween, hp])
    obtain ⟨HA, HB⟩ : Hid (Z.okPt a = true) ∧ Hid (Z.okPt b = true) := by rw [Z.pts2] at hp; simpa [Hid] using hp
    obtain ⟨⟨a1, a2⟩, a3, a4⟩ := (Z.okPt_iff a).1 HA.out
    obtain ⟨⟨b1, b2⟩, b3, b4⟩ := (Z.okPt_iff b).1 HB.out
    obtain ⟨m1, m2⟩ := Z.mul_bd (a.1 - b.1) (a.1 - b.1) 200000 200000 (by omega) (by omega) (by omega) (by omega)
    obtain ⟨m3, m4⟩ := Z.mul_bd (a.2 - b.2) (a.2 - b.2) 200000 200000 (by omega) (by omega) (by omega) (by omega)
    go_enter Try.func29, Try.ntmps29
    go_wp2_with (go_at_call 35; refine K.call (by with_reducible rfl) (by with_reducible rfl) (arePoints_2 a b _ _ (by go_simp) (by go_simp) (by go_simp) (by go_simp) (by go_simp)) ?_; rintro e w1 ⟨rfl, hw1⟩; obtain ⟨hcw1, hfw1⟩ := hw1.facts)
    go_ret2
    exact ⟨by rw [HE.out]; rfl, (by repeat' (first | with_reducible exact K.Ext.refl _ | with_reducible assumption | with_reducible refine K.Ext.drew ?_ | with_reducible refine K.Ext.alloc ?_ _ | with_reducible refine K.Ext.setCell ?_ ?_ _ | with_reducible refine K.Ext.trans ?_ (by with_reducible assumption) | (dsimp only; omega) | omega | exact K.Ext.refl _ | assumption | apply K.Ext.drew | refine K.Ext.alloc ?_ _ | refine K.Ext.setCell ?_ ?_ _ | (simp; done) | (simp; omega) | refine K.Ext.trans ?_ (by assumption)))⟩
theorem toPoint_any (x y : Int) (w : World) :
    Calls Try.prog 8 #[.agg #[.int .i64 x, .int .i64 y]] w fun e w' => e = .returned (.agg #[.int .i64 x, .int .i64 y]) ∧ K.Ext w w' := by
  go_enter Try.func8, Try.ntmps8
  go_wp2
  exact bodyPost_ret (v := .agg #[.int .i64 x, .int .i64 y]) (by simp [results, Try.results8, go_sem]) rfl ⟨rfl, (by repeat' (first | with_reducible exact K.Ext.refl _ | with_reducible assumption | with_reducible refine K.Ext.drew ?_ | with_reducible refine K.Ext.alloc ?_ _ | with_reducible refine K.Ext.setCell ?_ ?_ _ | with_reducible refine K.Ext.trans ?_ (by with_reducible assumption) | (dsimp only; omega) | omega | exact K.Ext.refl _ | assumption | apply K.Ext.drew | refine K.Ext.alloc ?_ _ | refine K.Ext.setCell ?_ ?_ _ | (simp; done) | (simp; omega) | refine K.Ext.trans ?_ (by assumption)))⟩
end Go.Proofs.Ytgepjmfjeidbaaa
