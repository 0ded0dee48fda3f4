/-
  THE NEAREST POINT of a list to a line, both sides.
-/
import Derived.Test.YtgepjmfjeidbaaaPts5
import Derived.Test.YtgepjmfjeidbaaaPtL
set_option linter.unusedVariables false
namespace Go.Z
/-- the place of the first of the least deviations among the first k points -/
def nearK (a b : Pt) (ps : List Pt) : Nat → Nat
  | 0 => 0
  | k + 1 => if dev (ps.getD k (0, 0)) a b < dev (ps.getD (nearK a b ps k) (0, 0)) a b then k else nearK a b ps k
theorem nearK_lt (a b : Pt) (ps : List Pt) (k : Nat) (h : 0 < k) : nearK a b ps k < k := by
  induction k with
  | zero => omega
  | succ k ih =>
    unfold nearK
    split
    · omega
    · by_cases h0 : k = 0
      · subst h0; simp [nearK]
      · have := ih (by omega); omega
theorem nearK_le (a b : Pt) (ps : List Pt) (k i : Nat) (h : i < k) : dev (ps.getD (nearK a b ps k) (0, 0)) a b ≤ dev (ps.getD i (0, 0)) a b := by
  induction k with
  | zero => omega
  | succ k ih =>
    unfold nearK
    split
    · rename_i h1
      by_cases h2 : i = k
      · subst h2; omega
      · have := ih (by omega); omega
    · rename_i h1
      by_cases h2 : i = k
      · subst h2; omega
      · exact ih (by omega)
def NearestInLine (a b : Pt) (ps : List Pt) : Int × Int :=
  if (pts [a, b] && pts ps) = false then (0, 2) else if a.1 = b.1 then (0, 5) else if 100 < ps.length then (0, 3) else if ps.length = 0 then (0, 4) else ((nearK a b ps ps.length : Nat), 0)
theorem pts_at (ps : List Pt) (h : pts ps = true) (i : Nat) (hi : i < ps.length) : okPt (ps[i]'hi) = true := by
  unfold pts at h; rw [List.all_eq_true] at h; exact h _ (List.getElem_mem hi)
end Go.Z
namespace Go.K
open Go.RowKit
theorem le_ext {w w' : World} {n : Nat} (h : n ≤ w.heap.size) (hx : Ext w w') : n ≤ w'.heap.size := Nat.le_trans h hx.size
end Go.K
namespace Go.Proofs.Ytgepjmfjeidbaaa
open Go.RowKit
set_option maxHeartbeats 800000 in
theorem l22Points_recs (ps : List Z.Pt) {lo hi : Nat} {v : Value} (w : World) (hm : ps.length ≤ 1048576) (h : K.recs false K.PtR w lo hi v ps) :
    Calls Try.prog 33 #[v] w fun e w' => e = .returned (.bool (Z.pts ps)) ∧ w = w' := by
  have h1 := h
  obtain ⟨o, cap, rfl, _⟩ := h1
  by_cases h0 : 0 < ps.length
  · obtain ⟨b, off, rfl, _, _, hc, _⟩ := K.recs_at h h0
    exact l22Points_any ps b off cap w (by omega) (fun i hi => (hc i hi 0 (by decide)).trans (by simp [List.getD_eq_getElem?_getD, hi, K.PtR])) (fun i hi => (hc i hi 1 (by decide)).trans (by simp [List.getD_eq_getElem?_getD, hi, K.PtR]))
  · have e0 : ps = [] := List.eq_nil_of_length_eq_zero (by omega)
    subst e0
    go_enter Try.func33, Try.ntmps33
    go_wp2
    go_loop [3] (fun i => i = .int .i64 0) (fun i => 0)
    case atStart => rfl
    case round =>
      obtain rfl := hrel
      go_wp2
      go_ret
      exact ⟨rfl, rfl⟩
set_option maxHeartbeats 800000 in
theorem arePoints_recs (ps : List Z.Pt) {lo hi : Nat} {v : Value} (w : World) (hm : ps.length ≤ 1048576) (h : K.recs false K.PtR w lo hi v ps) :
    Calls Try.prog 35 #[v] w fun e w' => e = .returned (.bool (Z.pts ps)) ∧ K.Ext w w' := by
  have h1 := h
  obtain ⟨o, cap, rfl, _⟩ := h1
  by_cases h0 : 0 < ps.length
  · obtain ⟨b, off, rfl, _, b2, hc, _⟩ := K.recs_at h h0
    exact arePoints_any ps b off cap w (by omega) (K.World.lt_of_cell (p := ⟨b, off + 0 * 2 + 0, none⟩) (by rw [show w.cell? ⟨b, off + 0 * 2 + 0, none⟩ = _ from hc 0 h0 0 (by decide)]; rfl)) (fun i hi => (hc i hi 0 (by decide)).trans (by simp [List.getD_eq_getElem?_getD, hi, K.PtR])) (fun i hi => (hc i hi 1 (by decide)).trans (by simp [List.getD_eq_getElem?_getD, hi, K.PtR]))
  · have e0 : ps = [] := List.eq_nil_of_length_eq_zero (by omega)
    subst e0
    go_enter Try.func35, Try.ntmps35
    go_wp2
    go_loopw [7] (fun i wr => i = .int .i64 0 ∧ Hid (K.Ext w wr)) (fun i _ => 0)
    case atStart => exact ⟨rfl, Z.hide (K.Ext.refl _)⟩
    case round =>
      obtain ⟨rfl, HX⟩ := hrel
      go_wp2
      go_ret
      exact ⟨rfl, HX.out⟩
set_option maxHeartbeats 3200000 in
theorem spec_NearestInLine (a b : Z.Pt) (ps : List Z.Pt) {lo hi : Nat} {v : Value} (w : World) (hm : ps.length ≤ 1048576) (h : K.recs false K.PtR w lo hi v ps) :
    Calls Try.prog 7 #[.agg #[.int .i64 a.1, .int .i64 a.2], .agg #[.int .i64 b.1, .int .i64 b.2], v] w fun e w' => e = .returned (.tuple #[.int .i64 (Z.NearestInLine a b ps).1, .int .i64 (Z.NearestInLine a b ps).2]) ∧ K.Ext w w' := by
  have h1 := h
  obtain ⟨o, cap, rfl, _⟩ := h1
  have H := Z.hide h
  clear h
  cases hab : Z.pts [a, b]
  · have HE : Hid (Z.NearestInLine a b ps = (0, 2)) := Z.hide (by simp [Z.NearestInLine, hab])
    go_enter Try.func7, Try.ntmps7
    go_wp2_with (go_at_call 33; refine K.call (by with_reducible rfl) (by with_reducible rfl) (l22Points_2 a b _ _ (by go_simp) (by go_simp) (by go_simp) (by go_simp)) ?_; rintro e w' ⟨rfl, rfl⟩)
    go_ret2
    exact ⟨by rw [HE.out]; rfl, (by repeat' (first | with_reducible exact K.Ext.refl _ | with_reducible assumption | with_reducible refine K.Ext.drew ?_ | with_reducible refine K.Ext.alloc ?_ _ | with_reducible refine K.Ext.setCell ?_ ?_ _ | with_reducible refine K.Ext.trans ?_ (by with_reducible assumption) | (dsimp only; omega) | omega | exact K.Ext.refl _ | assumption | apply K.Ext.drew | refine K.Ext.alloc ?_ _ | refine K.Ext.setCell ?_ ?_ _ | (simp; done) | (simp; omega) | refine K.Ext.trans ?_ (by assumption)))⟩
  obtain ⟨HA, HB⟩ : Hid (Z.okPt a = true) ∧ Hid (Z.okPt b = true) := (Z.pts2_iff a b).1 hab
  cases hps : Z.pts ps
  · have HE : Hid (Z.NearestInLine a b ps = (0, 2)) := Z.hide (by simp [Z.NearestInLine, hab, hps])
    go_enter Try.func7, Try.ntmps7
    go_wp2_with (first | (go_at_call 33; refine K.call (by with_reducible rfl) (by with_reducible rfl) (l22Points_2 a b _ _ (by go_simp) (by go_simp) (by go_simp) (by go_simp)) ?_; rintro e w' ⟨rfl, rfl⟩) | (go_at_call 33; refine K.call (by with_reducible rfl) (by with_reducible rfl) (l22Points_recs ps _ hm (H.out.ext (by repeat' (first | with_reducible exact K.Ext.refl _ | with_reducible assumption | with_reducible refine K.Ext.drew ?_ | with_reducible refine K.Ext.alloc ?_ _ | with_reducible refine K.Ext.setCell ?_ ?_ _ | with_reducible refine K.Ext.trans ?_ (by with_reducible assumption) | (dsimp only; omega) | omega | exact K.Ext.refl _ | assumption | apply K.Ext.drew | refine K.Ext.alloc ?_ _ | refine K.Ext.setCell ?_ ?_ _ | (simp; done) | (simp; omega) | refine K.Ext.trans ?_ (by assumption))))) ?_; rintro e w' ⟨rfl, rfl⟩))
    go_ret2
    exact ⟨by rw [HE.out]; rfl, (by repeat' (first | with_reducible exact K.Ext.refl _ | with_reducible assumption | with_reducible refine K.Ext.drew ?_ | with_reducible refine K.Ext.alloc ?_ _ | with_reducible refine K.Ext.setCell ?_ ?_ _ | with_reducible refine K.Ext.trans ?_ (by with_reducible assumption) | (dsimp only; omega) | omega | exact K.Ext.refl _ | assumption | apply K.Ext.drew | refine K.Ext.alloc ?_ _ | refine K.Ext.setCell ?_ ?_ _ | (simp; done) | (simp; omega) | refine K.Ext.trans ?_ (by assumption)))⟩
  have HPS := Z.hide (Z.pts_at ps hps)
  by_cases hq : a.1 = b.1
  · have HE : Hid (Z.NearestInLine a b ps = (0, 5)) := Z.hide (by simp [Z.NearestInLine, hab, hps, hq])
    have hq' : (a.1 == b.1) = true := by simp [hq]
    clear hq
    go_enter Try.func7, Try.ntmps7
    go_wp2_with (first | (go_at_call 33; refine K.call (by with_reducible rfl) (by with_reducible rfl) (l22Points_2 a b _ _ (by go_simp) (by go_simp) (by go_simp) (by go_simp)) ?_; rintro e w' ⟨rfl, rfl⟩) | (go_at_call 33; refine K.call (by with_reducible rfl) (by with_reducible rfl) (l22Points_recs ps _ hm (H.out.ext (by repeat' (first | with_reducible exact K.Ext.refl _ | with_reducible assumption | with_reducible refine K.Ext.drew ?_ | with_reducible refine K.Ext.alloc ?_ _ | with_reducible refine K.Ext.setCell ?_ ?_ _ | with_reducible refine K.Ext.trans ?_ (by with_reducible assumption) | (dsimp only; omega) | omega | exact K.Ext.refl _ | assumption | apply K.Ext.drew | refine K.Ext.alloc ?_ _ | refine K.Ext.setCell ?_ ?_ _ | (simp; done) | (simp; omega) | refine K.Ext.trans ?_ (by assumption))))) ?_; rintro e w' ⟨rfl, rfl⟩))
    go_ret2
    exact ⟨by rw [HE.out]; rfl, (by repeat' (first | with_reducible exact K.Ext.refl _ | with_reducible assumption | with_reducible refine K.Ext.drew ?_ | with_reducible refine K.Ext.alloc ?_ _ | with_reducible refine K.Ext.setCell ?_ ?_ _ | with_reducible refine K.Ext.trans ?_ (by with_reducible assumption) | (dsimp only; omega) | omega | exact K.Ext.refl _ | assumption | apply K.Ext.drew | refine K.Ext.alloc ?_ _ | refine K.Ext.setCell ?_ ?_ _ | (simp; done) | (simp; omega) | refine K.Ext.trans ?_ (by assumption)))⟩
  have hq' : (a.1 == b.1) = false := by simp [hq]
  have HQ : Hid (b.1 - a.1 ≠ 0) := Z.hide (by omega)
  by_cases h100 : 100 < ps.length
  · have HE : Hid (Z.NearestInLine a b ps = (0, 3)) := Z.hide (by simp [Z.NearestInLine, hab, hps, hq, h100])
    have i100 : (100 : Int) < (ps.length : Int) := by omega
    clear hq
    go_enter Try.func7, Try.ntmps7
    go_wp2_with (first | (go_at_call 33; refine K.call (by with_reducible rfl) (by with_reducible rfl) (l22Points_2 a b _ _ (by go_simp) (by go_simp) (by go_simp) (by go_simp)) ?_; rintro e w' ⟨rfl, rfl⟩) | (go_at_call 33; refine K.call (by with_reducible rfl) (by with_reducible rfl) (l22Points_recs ps _ hm (H.out.ext (by repeat' (first | with_reducible exact K.Ext.refl _ | with_reducible assumption | with_reducible refine K.Ext.drew ?_ | with_reducible refine K.Ext.alloc ?_ _ | with_reducible refine K.Ext.setCell ?_ ?_ _ | with_reducible refine K.Ext.trans ?_ (by with_reducible assumption) | (dsimp only; omega) | omega | exact K.Ext.refl _ | assumption | apply K.Ext.drew | refine K.Ext.alloc ?_ _ | refine K.Ext.setCell ?_ ?_ _ | (simp; done) | (simp; omega) | refine K.Ext.trans ?_ (by assumption))))) ?_; rintro e w' ⟨rfl, rfl⟩))
    go_ret2
    exact ⟨by rw [HE.out]; rfl, (by repeat' (first | with_reducible exact K.Ext.refl _ | with_reducible assumption | with_reducible refine K.Ext.drew ?_ | with_reducible refine K.Ext.alloc ?_ _ | with_reducible refine K.Ext.setCell ?_ ?_ _ | with_reducible refine K.Ext.trans ?_ (by with_reducible assumption) | (dsimp only; omega) | omega | exact K.Ext.refl _ | assumption | apply K.Ext.drew | refine K.Ext.alloc ?_ _ | refine K.Ext.setCell ?_ ?_ _ | (simp; done) | (simp; omega) | refine K.Ext.trans ?_ (by assumption)))⟩
  have i100 : ¬ ((100 : Int) < (ps.length : Int)) := by omega
  by_cases h0 : ps.length = 0
  · have HE : Hid (Z.NearestInLine a b ps = (0, 4)) := Z.hide (by simp [Z.NearestInLine, hab, hps, hq, h0])
    have i0 : ((ps.length : Int) == 0) = true := by simp [h0]
    clear hq h0 h100 i100
    have i100 : ¬ ((100 : Int) < (ps.length : Int)) := by simp at i0; simp [i0]
    go_enter Try.func7, Try.ntmps7
    go_wp2_with (first | (go_at_call 33; refine K.call (by with_reducible rfl) (by with_reducible rfl) (l22Points_2 a b _ _ (by go_simp) (by go_simp) (by go_simp) (by go_simp)) ?_; rintro e w' ⟨rfl, rfl⟩) | (go_at_call 33; refine K.call (by with_reducible rfl) (by with_reducible rfl) (l22Points_recs ps _ hm (H.out.ext (by repeat' (first | with_reducible exact K.Ext.refl _ | with_reducible assumption | with_reducible refine K.Ext.drew ?_ | with_reducible refine K.Ext.alloc ?_ _ | with_reducible refine K.Ext.setCell ?_ ?_ _ | with_reducible refine K.Ext.trans ?_ (by with_reducible assumption) | (dsimp only; omega) | omega | exact K.Ext.refl _ | assumption | apply K.Ext.drew | refine K.Ext.alloc ?_ _ | refine K.Ext.setCell ?_ ?_ _ | (simp; done) | (simp; omega) | refine K.Ext.trans ?_ (by assumption))))) ?_; rintro e w' ⟨rfl, rfl⟩))
    go_ret2
    exact ⟨by rw [HE.out]; rfl, (by repeat' (first | with_reducible exact K.Ext.refl _ | with_reducible assumption | with_reducible refine K.Ext.drew ?_ | with_reducible refine K.Ext.alloc ?_ _ | with_reducible refine K.Ext.setCell ?_ ?_ _ | with_reducible refine K.Ext.trans ?_ (by with_reducible assumption) | (dsimp only; omega) | omega | exact K.Ext.refl _ | assumption | apply K.Ext.drew | refine K.Ext.alloc ?_ _ | refine K.Ext.setCell ?_ ?_ _ | (simp; done) | (simp; omega) | refine K.Ext.trans ?_ (by assumption)))⟩
  have HE : Hid (Z.NearestInLine a b ps = (((Z.nearK a b ps ps.length : Nat) : Int), 0)) := Z.hide (by rw [Z.NearestInLine, if_neg (by simp [hab, hps]), if_neg hq, if_neg h100, if_neg h0])
  have i0 : ((ps.length : Int) == 0) = false := by simpa using h0
  have hpos : 0 < ps.length := by omega
  have hne : ¬ ps = [] := by intro h; rw [h] at hpos; exact absurd hpos (by decide)
  clear hq h0
  go_enter Try.func7, Try.ntmps7
  go_wp2_with (first | (go_at_call 33; refine K.call (by with_reducible rfl) (by with_reducible rfl) (l22Points_2 a b _ _ (by go_simp) (by go_simp) (by go_simp) (by go_simp)) ?_; rintro e w' ⟨rfl, rfl⟩) | (go_at_call 33; refine K.call (by with_reducible rfl) (by with_reducible rfl) (l22Points_recs ps _ hm (H.out.ext (by repeat' (first | with_reducible exact K.Ext.refl _ | with_reducible assumption | with_reducible refine K.Ext.drew ?_ | with_reducible refine K.Ext.alloc ?_ _ | with_reducible refine K.Ext.setCell ?_ ?_ _ | with_reducible refine K.Ext.trans ?_ (by with_reducible assumption) | (dsimp only; omega) | omega | exact K.Ext.refl _ | assumption | apply K.Ext.drew | refine K.Ext.alloc ?_ _ | refine K.Ext.setCell ?_ ?_ _ | (simp; done) | (simp; omega) | refine K.Ext.trans ?_ (by assumption))))) ?_; rintro e w' ⟨rfl, rfl⟩))
  go_loopw [8, 9] (fun best i wr => ∃ k : Nat, k ≤ ps.length ∧ best = .int .i64 (Z.nearK a b ps k : Nat) ∧ i = .int .i64 k ∧ (wr.cell? ⟨w.heap.size, 0, none⟩ = some (.int .i64 a.1) ∧ wr.cell? ⟨w.heap.size, 1, none⟩ = some (.int .i64 a.2) ∧ wr.cell? ⟨w.heap.size + 1, 0, none⟩ = some (.int .i64 b.1) ∧ wr.cell? ⟨w.heap.size + 1, 1, none⟩ = some (.int .i64 b.2)) ∧ Hid (K.Ext w wr)) (fun _ i _ => ps.length - (intOf i).toNat)
  case atStart => exact ⟨0, Nat.zero_le _, rfl, rfl, ⟨by go_simp, by go_simp, by go_simp, by go_simp⟩, Z.hide (by repeat' (first | with_reducible exact K.Ext.refl _ | with_reducible assumption | with_reducible refine K.Ext.drew ?_ | with_reducible refine K.Ext.alloc ?_ _ | with_reducible refine K.Ext.setCell ?_ ?_ _ | with_reducible refine K.Ext.trans ?_ (by with_reducible assumption) | (dsimp only; omega) | omega | exact K.Ext.refl _ | assumption | apply K.Ext.drew | refine K.Ext.alloc ?_ _ | refine K.Ext.setCell ?_ ?_ _ | (simp; done) | (simp; omega) | refine K.Ext.trans ?_ (by assumption)))⟩
  case round =>
    obtain ⟨k, hk, rfl, rfl, ⟨ca1, ca2, cb1, cb2⟩, HX⟩ := hrel
    by_cases hlt : k < ps.length
    · obtain ⟨bb, off, rfl, _, hbb, hc, _⟩ := K.recs_at H.out hpos
      have hj : Z.nearK a b ps k < ps.length := by
        by_cases hk0 : k = 0
        · subst hk0; simpa [Z.nearK] using hpos
        · exact Nat.lt_trans (Z.nearK_lt a b ps k (by omega)) hlt
      have HN : Hid (Z.nearK a b ps (k + 1) = if Z.dev (ps.getD k (0, 0)) a b < Z.dev (ps.getD (Z.nearK a b ps k) (0, 0)) a b then k else Z.nearK a b ps k) := Z.hide rfl
      have hc0 : wr.cell? ⟨bb, off + k * 2, none⟩ = some (.int .i64 (ps[k]'hlt).1) := HX.out.cell_of (hc k hlt 0 (by decide))
      have hc1 : wr.cell? ⟨bb, off + k * 2 + 1, none⟩ = some (.int .i64 (ps[k]'hlt).2) := HX.out.cell_of (hc k hlt 1 (by decide))
      have hd0 : wr.cell? ⟨bb, off + Z.nearK a b ps k * 2, none⟩ = some (.int .i64 (ps[Z.nearK a b ps k]'hj).1) := HX.out.cell_of (hc _ hj 0 (by decide))
      have hd1 : wr.cell? ⟨bb, off + Z.nearK a b ps k * 2 + 1, none⟩ = some (.int .i64 (ps[Z.nearK a b ps k]'hj).2) := HX.out.cell_of (hc _ hj 1 (by decide))
      have HP := Z.hide (HPS.out k hlt)
      have HP' := Z.hide (HPS.out _ hj)
      rw [show ps.getD k (0, 0) = ps[k]'hlt from by simp [List.getD_eq_getElem?_getD, hlt], show ps.getD (Z.nearK a b ps k) (0, 0) = ps[Z.nearK a b ps k]'hj from by simp [List.getD_eq_getElem?_getD, hj]] at HN
      have i0 : (0 : Int) ≤ (k : Int) := Int.natCast_nonneg k
      have i1 : (k : Int) < (ps.length : Int) := by omega
      clear hc
      generalize (ps[k]'hlt) = p at *
      generalize (ps[Z.nearK a b ps k]'hj) = q at *
      generalize Z.nearK a b ps k = j at *
      have j0 : (0 : Int) ≤ (j : Int) := Int.natCast_nonneg j
      have j1 : (j : Int) < (ps.length : Int) := by omega
      by_cases hdv : Z.dev p a b < Z.dev q a b
      · have HJ : Hid (Z.nearK a b ps (k + 1) = k) := Z.hide (by rw [HN.out, if_pos hdv])
        have dd : decide (Z.dev p a b < Z.dev q a b) = true := decide_eq_true hdv
        clear HN hdv
        go_wp2_with fail
        refine K.wp_region_x 15 [0, 0, 0, 1, 1, 1, 2, 0, 0, 0, 1, 1, 1, 2, 0] [K.SP.any, K.SP.any, K.SP.any, K.SP.any, K.SP.any, K.SP.any, K.SP.is (.int .i64 (Z.dev p a b)), K.SP.any, K.SP.any, K.SP.any, K.SP.any, K.SP.any, K.SP.any, K.SP.is (.int .i64 (Z.dev q a b))] (by kernel_rfl) (by kernel_rfl) ?_
        simp only [List.take_succ_cons, List.take_zero, List.drop_succ_cons, List.drop_zero]
        iterate 3
          apply K.x_pure
          · rfl
          · rfl
          · intro w'; go_simp; first | done | exact K.vint (IntWalk.i64_in _ (by omega)) | rfl | exact ⟨rfl, rfl⟩
          simp only [Act.put, List.setIfInBounds_toArray, List.set]
        iterate 3
          apply K.x_held
          · rfl
          · rfl
          · intro w' hx; have hc := hx.all.1.1; have hf := hx.all.1.2; have hc' := hx.all.2.1; have hf' := hx.all.2.2; go_simp; first | done | rfl | exact ⟨rfl, rfl⟩
          simp only [Act.put, List.setIfInBounds_toArray, List.set]
        apply K.x_call_is
        · rfl
        · rfl
        · rfl
        · intro w'; go_simp; first | done | rfl | exact ⟨rfl, rfl⟩
        · intro w' hx hp; have hc := hx.all.1.1; have hf := hx.all.1.2; have hc' := hx.all.2.1; have hf' := hx.all.2.2; exact l22Deviation_any p a b _ HP.out HA.out HB.out HQ.out
        intro w_6_ hx_6_
        simp only [Act.put, List.setIfInBounds_toArray, List.set]
        iterate 3
          apply K.x_pure
          · rfl
          · rfl
          · intro w'; go_simp; first | done | exact K.vint (IntWalk.i64_in _ (by omega)) | rfl | exact ⟨rfl, rfl⟩
          simp only [Act.put, List.setIfInBounds_toArray, List.set]
        iterate 3
          apply K.x_held
          · rfl
          · rfl
          · intro w' hx; have hc := hx.all.1.1; have hf := hx.all.1.2; have hc' := hx.all.2.1; have hf' := hx.all.2.2; go_simp; first | done | rfl | exact ⟨rfl, rfl⟩
          simp only [Act.put, List.setIfInBounds_toArray, List.set]
        apply K.x_call_is
        · rfl
        · rfl
        · rfl
        · intro w'; go_simp; first | done | rfl | exact ⟨rfl, rfl⟩
        · intro w' hx hp; have hc := hx.all.1.1; have hf := hx.all.1.2; have hc' := hx.all.2.1; have hf' := hx.all.2.2; exact l22Deviation_any q a b _ HP'.out HA.out HB.out HQ.out
        intro w_13_ hx_13_
        simp only [Act.put, List.setIfInBounds_toArray, List.set]
        apply K.x_pure
        · rfl
        · rfl
        · intro w'; go_simp; first | done | exact K.vint (IntWalk.i64_in _ (by omega)) | rfl | exact ⟨rfl, rfl⟩
        simp only [Act.put, List.setIfInBounds_toArray, List.set]
        apply K.x_done
        intro w4 h_x
        have hx4 := hx_6_.trans (hx_13_.trans h_x)
        clear h_x hx_6_ hx_13_
        obtain ⟨⟨hcw4, hfw4⟩, hc'w4, hf'w4⟩ := hx4.all
        refine wpList_nil ?_
        refine NoPanic.normal ?_
        have HX4 : Hid (K.Ext wr w4) := Z.hide (by first | exact (by repeat' (first | with_reducible exact K.Ext.refl _ | with_reducible assumption | with_reducible refine K.Ext.drew ?_ | with_reducible refine K.Ext.alloc ?_ _ | with_reducible refine K.Ext.setCell ?_ ?_ _ | with_reducible refine K.Ext.trans ?_ (by with_reducible assumption) | (dsimp only; omega) | omega | exact K.Ext.refl _ | assumption | apply K.Ext.drew | refine K.Ext.alloc ?_ _ | refine K.Ext.setCell ?_ ?_ _ | (simp; done) | (simp; omega) | refine K.Ext.trans ?_ (by assumption))) | exact K.Ext.trans (K.Ext.refl _).drew hx4)
        go_wp2
        go_roundw
        case rel => exact ⟨k + 1, by omega, by rw [HJ.out], by go_num, ⟨HX4.out.cell_of ca1, HX4.out.cell_of ca2, HX4.out.cell_of cb1, HX4.out.cell_of cb2⟩, Z.hide (K.Ext.trans HX.out HX4.out)⟩
        case measure => simp [intOf]; omega
      · have HJ : Hid (Z.nearK a b ps (k + 1) = j) := Z.hide (by rw [HN.out, if_neg hdv])
        have dd : decide (Z.dev p a b < Z.dev q a b) = false := decide_eq_false hdv
        clear HN hdv
        go_wp2_with fail
        refine K.wp_region_x 15 [0, 0, 0, 1, 1, 1, 2, 0, 0, 0, 1, 1, 1, 2, 0] [K.SP.any, K.SP.any, K.SP.any, K.SP.any, K.SP.any, K.SP.any, K.SP.is (.int .i64 (Z.dev p a b)), K.SP.any, K.SP.any, K.SP.any, K.SP.any, K.SP.any, K.SP.any, K.SP.is (.int .i64 (Z.dev q a b))] (by kernel_rfl) (by kernel_rfl) ?_
        simp only [List.take_succ_cons, List.take_zero, List.drop_succ_cons, List.drop_zero]
        iterate 3
          apply K.x_pure
          · rfl
          · rfl
          · intro w'; go_simp; first | done | exact K.vint (IntWalk.i64_in _ (by omega)) | rfl | exact ⟨rfl, rfl⟩
          simp only [Act.put, List.setIfInBounds_toArray, List.set]
        iterate 3
          apply K.x_held
          · rfl
          · rfl
          · intro w' hx; have hc := hx.all.1.1; have hf := hx.all.1.2; have hc' := hx.all.2.1; have hf' := hx.all.2.2; go_simp; first | done | rfl | exact ⟨rfl, rfl⟩
          simp only [Act.put, List.setIfInBounds_toArray, List.set]
        apply K.x_call_is
        · rfl
        · rfl
        · rfl
        · intro w'; go_simp; first | done | rfl | exact ⟨rfl, rfl⟩
        · intro w' hx hp; have hc := hx.all.1.1; have hf := hx.all.1.2; have hc' := hx.all.2.1; have hf' := hx.all.2.2; exact l22Deviation_any p a b _ HP.out HA.out HB.out HQ.out
        intro w_6_ hx_6_
        simp only [Act.put, List.setIfInBounds_toArray, List.set]
        iterate 3
          apply K.x_pure
          · rfl
          · rfl
          · intro w'; go_simp; first | done | exact K.vint (IntWalk.i64_in _ (by omega)) | rfl | exact ⟨rfl, rfl⟩
          simp only [Act.put, List.setIfInBounds_toArray, List.set]
        iterate 3
          apply K.x_held
          · rfl
          · rfl
          · intro w' hx; have hc := hx.all.1.1; have hf := hx.all.1.2; have hc' := hx.all.2.1; have hf' := hx.all.2.2; go_simp; first | done | rfl | exact ⟨rfl, rfl⟩
          simp only [Act.put, List.setIfInBounds_toArray, List.set]
        apply K.x_call_is
        · rfl
        · rfl
        · rfl
        · intro w'; go_simp; first | done | rfl | exact ⟨rfl, rfl⟩
        · intro w' hx hp; have hc := hx.all.1.1; have hf := hx.all.1.2; have hc' := hx.all.2.1; have hf' := hx.all.2.2; exact l22Deviation_any q a b _ HP'.out HA.out HB.out HQ.out
        intro w_13_ hx_13_
        simp only [Act.put, List.setIfInBounds_toArray, List.set]
        apply K.x_pure
        · rfl
        · rfl
        · intro w'; go_simp; first | done | exact K.vint (IntWalk.i64_in _ (by omega)) | rfl | exact ⟨rfl, rfl⟩
        simp only [Act.put, List.setIfInBounds_toArray, List.set]
        apply K.x_done
        intro w4 h_x
        have hx4 := hx_6_.trans (hx_13_.trans h_x)
        clear h_x hx_6_ hx_13_
        obtain ⟨⟨hcw4, hfw4⟩, hc'w4, hf'w4⟩ := hx4.all
        refine wpList_nil ?_
        refine NoPanic.normal ?_
        have HX4 : Hid (K.Ext wr w4) := Z.hide (by first | exact (by repeat' (first | with_reducible exact K.Ext.refl _ | with_reducible assumption | with_reducible refine K.Ext.drew ?_ | with_reducible refine K.Ext.alloc ?_ _ | with_reducible refine K.Ext.setCell ?_ ?_ _ | with_reducible refine K.Ext.trans ?_ (by with_reducible assumption) | (dsimp only; omega) | omega | exact K.Ext.refl _ | assumption | apply K.Ext.drew | refine K.Ext.alloc ?_ _ | refine K.Ext.setCell ?_ ?_ _ | (simp; done) | (simp; omega) | refine K.Ext.trans ?_ (by assumption))) | exact K.Ext.trans (K.Ext.refl _).drew hx4)
        go_wp2
        go_roundw
        case rel => exact ⟨k + 1, by omega, by rw [HJ.out], by go_num, ⟨HX4.out.cell_of ca1, HX4.out.cell_of ca2, HX4.out.cell_of cb1, HX4.out.cell_of cb2⟩, Z.hide (K.Ext.trans HX.out HX4.out)⟩
        case measure => simp [intOf]; omega
    · obtain rfl : k = ps.length := by omega
      go_wp2
      go_ret2
      exact ⟨by rw [HE.out]; rfl, HX.out⟩
set_option maxHeartbeats 3200000 in
theorem impl_NearestInLine (a b : Z.Pt) (ps : List Z.Pt) {lo hi : Nat} {v : Value} (w : World) (hm : ps.length ≤ 1048576) (h : K.recs false K.PtR w lo hi v ps) :
    Calls Try.prog 10 #[.agg #[.int .i64 a.1, .int .i64 a.2], .agg #[.int .i64 b.1, .int .i64 b.2], v] w fun e w' => e = .returned (.tuple #[.int .i64 (Z.NearestInLine a b ps).1, .int .i64 (Z.NearestInLine a b ps).2]) ∧ K.Ext w w' := by
  have h1 := h
  obtain ⟨o, cap, rfl, _⟩ := h1
  have H := Z.hide h
  clear h
  cases hab : Z.pts [a, b]
  · have HE : Hid (Z.NearestInLine a b ps = (0, 2)) := Z.hide (by simp [Z.NearestInLine, hab])
    go_enter Try.func10, Try.ntmps10
    go_wp2_with (go_at_call 35; refine K.call (by with_reducible rfl) (by with_reducible rfl) (arePoints_2 a b _ _ (by go_simp) (by go_simp) (by go_simp) (by go_simp) (by go_simp)) ?_; rintro e w1 ⟨rfl, hx1⟩; have z1 := hx1.size; simp at z1; have ca1 : w1.cell? ⟨w.heap.size, 0, none⟩ = some (.int .i64 a.1) := hx1.cell_of (by go_simp); have da1 : w1.cell? ⟨w.heap.size, 1, none⟩ = some (.int .i64 a.2) := hx1.cell_of (by go_simp); have cb1 : w1.cell? ⟨w.heap.size + 1, 0, none⟩ = some (.int .i64 b.1) := hx1.cell_of (by go_simp); have db1 : w1.cell? ⟨w.heap.size + 1, 1, none⟩ = some (.int .i64 b.2) := hx1.cell_of (by go_simp))
    go_ret2
    exact ⟨by rw [HE.out]; rfl, (by repeat' (first | with_reducible exact K.Ext.refl _ | with_reducible assumption | with_reducible refine K.Ext.drew ?_ | with_reducible refine K.Ext.alloc ?_ _ | with_reducible refine K.Ext.setCell ?_ ?_ _ | with_reducible refine K.Ext.trans ?_ (by with_reducible assumption) | (dsimp only; omega) | omega | exact K.Ext.refl _ | assumption | apply K.Ext.drew | refine K.Ext.alloc ?_ _ | refine K.Ext.setCell ?_ ?_ _ | (simp; done) | (simp; omega) | refine K.Ext.trans ?_ (by assumption)))⟩
  obtain ⟨HA, HB⟩ : Hid (Z.okPt a = true) ∧ Hid (Z.okPt b = true) := (Z.pts2_iff a b).1 hab
  cases hps : Z.pts ps
  · have HE : Hid (Z.NearestInLine a b ps = (0, 2)) := Z.hide (by simp [Z.NearestInLine, hab, hps])
    go_enter Try.func10, Try.ntmps10
    go_wp2_with (first | (go_at_call 35; refine K.call (by with_reducible rfl) (by with_reducible rfl) (arePoints_2 a b _ _ (by go_simp) (by go_simp) (by go_simp) (by go_simp) (by go_simp)) ?_; rintro e w1 ⟨rfl, hx1⟩; have z1 := hx1.size; simp at z1; have ca1 : w1.cell? ⟨w.heap.size, 0, none⟩ = some (.int .i64 a.1) := hx1.cell_of (by go_simp); have da1 : w1.cell? ⟨w.heap.size, 1, none⟩ = some (.int .i64 a.2) := hx1.cell_of (by go_simp); have cb1 : w1.cell? ⟨w.heap.size + 1, 0, none⟩ = some (.int .i64 b.1) := hx1.cell_of (by go_simp); have db1 : w1.cell? ⟨w.heap.size + 1, 1, none⟩ = some (.int .i64 b.2) := hx1.cell_of (by go_simp)) | (go_at_call 35; refine K.call (by with_reducible rfl) (by with_reducible rfl) (arePoints_recs ps _ hm (H.out.ext (by repeat' (first | with_reducible exact K.Ext.refl _ | with_reducible assumption | with_reducible refine K.Ext.drew ?_ | with_reducible refine K.Ext.alloc ?_ _ | with_reducible refine K.Ext.setCell ?_ ?_ _ | with_reducible refine K.Ext.trans ?_ (by with_reducible assumption) | (dsimp only; omega) | omega | exact K.Ext.refl _ | assumption | apply K.Ext.drew | refine K.Ext.alloc ?_ _ | refine K.Ext.setCell ?_ ?_ _ | (simp; done) | (simp; omega) | refine K.Ext.trans ?_ (by assumption))))) ?_; rintro e w2 ⟨rfl, hx2⟩; have z2 := hx2.size; have ca2 : w2.cell? ⟨w.heap.size, 0, none⟩ = some (.int .i64 a.1) := hx2.cell_of (by go_simp); have da2 : w2.cell? ⟨w.heap.size, 1, none⟩ = some (.int .i64 a.2) := hx2.cell_of (by go_simp); have cb2 : w2.cell? ⟨w.heap.size + 1, 0, none⟩ = some (.int .i64 b.1) := hx2.cell_of (by go_simp); have db2 : w2.cell? ⟨w.heap.size + 1, 1, none⟩ = some (.int .i64 b.2) := hx2.cell_of (by go_simp)))
    go_ret2
    exact ⟨by rw [HE.out]; rfl, (by repeat' (first | with_reducible exact K.Ext.refl _ | with_reducible assumption | with_reducible refine K.Ext.drew ?_ | with_reducible refine K.Ext.alloc ?_ _ | with_reducible refine K.Ext.setCell ?_ ?_ _ | with_reducible refine K.Ext.trans ?_ (by with_reducible assumption) | (dsimp only; omega) | omega | exact K.Ext.refl _ | assumption | apply K.Ext.drew | refine K.Ext.alloc ?_ _ | refine K.Ext.setCell ?_ ?_ _ | (simp; done) | (simp; omega) | refine K.Ext.trans ?_ (by assumption)))⟩
  have HPS := Z.hide (Z.pts_at ps hps)
  by_cases hq : a.1 = b.1
  · have HE : Hid (Z.NearestInLine a b ps = (0, 5)) := Z.hide (by simp [Z.NearestInLine, hab, hps, hq])
    have hq' : (a.1 == b.1) = true := by simp [hq]
    clear hq
    go_enter Try.func10, Try.ntmps10
    go_wp2_with (first | (go_at_call 35; refine K.call (by with_reducible rfl) (by with_reducible rfl) (arePoints_2 a b _ _ (by go_simp) (by go_simp) (by go_simp) (by go_simp) (by go_simp)) ?_; rintro e w1 ⟨rfl, hx1⟩; have z1 := hx1.size; simp at z1; have ca1 : w1.cell? ⟨w.heap.size, 0, none⟩ = some (.int .i64 a.1) := hx1.cell_of (by go_simp); have da1 : w1.cell? ⟨w.heap.size, 1, none⟩ = some (.int .i64 a.2) := hx1.cell_of (by go_simp); have cb1 : w1.cell? ⟨w.heap.size + 1, 0, none⟩ = some (.int .i64 b.1) := hx1.cell_of (by go_simp); have db1 : w1.cell? ⟨w.heap.size + 1, 1, none⟩ = some (.int .i64 b.2) := hx1.cell_of (by go_simp)) | (go_at_call 35; refine K.call (by with_reducible rfl) (by with_reducible rfl) (arePoints_recs ps _ hm (H.out.ext (by repeat' (first | with_reducible exact K.Ext.refl _ | with_reducible assumption | with_reducible refine K.Ext.drew ?_ | with_reducible refine K.Ext.alloc ?_ _ | with_reducible refine K.Ext.setCell ?_ ?_ _ | with_reducible refine K.Ext.trans ?_ (by with_reducible assumption) | (dsimp only; omega) | omega | exact K.Ext.refl _ | assumption | apply K.Ext.drew | refine K.Ext.alloc ?_ _ | refine K.Ext.setCell ?_ ?_ _ | (simp; done) | (simp; omega) | refine K.Ext.trans ?_ (by assumption))))) ?_; rintro e w2 ⟨rfl, hx2⟩; have z2 := hx2.size; have ca2 : w2.cell? ⟨w.heap.size, 0, none⟩ = some (.int .i64 a.1) := hx2.cell_of (by go_simp); have da2 : w2.cell? ⟨w.heap.size, 1, none⟩ = some (.int .i64 a.2) := hx2.cell_of (by go_simp); have cb2 : w2.cell? ⟨w.heap.size + 1, 0, none⟩ = some (.int .i64 b.1) := hx2.cell_of (by go_simp); have db2 : w2.cell? ⟨w.heap.size + 1, 1, none⟩ = some (.int .i64 b.2) := hx2.cell_of (by go_simp)))
    go_ret2
    exact ⟨by rw [HE.out]; rfl, (by repeat' (first | with_reducible exact K.Ext.refl _ | with_reducible assumption | with_reducible refine K.Ext.drew ?_ | with_reducible refine K.Ext.alloc ?_ _ | with_reducible refine K.Ext.setCell ?_ ?_ _ | with_reducible refine K.Ext.trans ?_ (by with_reducible assumption) | (dsimp only; omega) | omega | exact K.Ext.refl _ | assumption | apply K.Ext.drew | refine K.Ext.alloc ?_ _ | refine K.Ext.setCell ?_ ?_ _ | (simp; done) | (simp; omega) | refine K.Ext.trans ?_ (by assumption)))⟩
  have hq' : (a.1 == b.1) = false := by simp [hq]
  have HQ : Hid (b.1 - a.1 ≠ 0) := Z.hide (by omega)
  by_cases h100 : 100 < ps.length
  · have HE : Hid (Z.NearestInLine a b ps = (0, 3)) := Z.hide (by simp [Z.NearestInLine, hab, hps, hq, h100])
    have i100 : (100 : Int) < (ps.length : Int) := by omega
    clear hq
    go_enter Try.func10, Try.ntmps10
    go_wp2_with (first | (go_at_call 35; refine K.call (by with_reducible rfl) (by with_reducible rfl) (arePoints_2 a b _ _ (by go_simp) (by go_simp) (by go_simp) (by go_simp) (by go_simp)) ?_; rintro e w1 ⟨rfl, hx1⟩; have z1 := hx1.size; simp at z1; have ca1 : w1.cell? ⟨w.heap.size, 0, none⟩ = some (.int .i64 a.1) := hx1.cell_of (by go_simp); have da1 : w1.cell? ⟨w.heap.size, 1, none⟩ = some (.int .i64 a.2) := hx1.cell_of (by go_simp); have cb1 : w1.cell? ⟨w.heap.size + 1, 0, none⟩ = some (.int .i64 b.1) := hx1.cell_of (by go_simp); have db1 : w1.cell? ⟨w.heap.size + 1, 1, none⟩ = some (.int .i64 b.2) := hx1.cell_of (by go_simp)) | (go_at_call 35; refine K.call (by with_reducible rfl) (by with_reducible rfl) (arePoints_recs ps _ hm (H.out.ext (by repeat' (first | with_reducible exact K.Ext.refl _ | with_reducible assumption | with_reducible refine K.Ext.drew ?_ | with_reducible refine K.Ext.alloc ?_ _ | with_reducible refine K.Ext.setCell ?_ ?_ _ | with_reducible refine K.Ext.trans ?_ (by with_reducible assumption) | (dsimp only; omega) | omega | exact K.Ext.refl _ | assumption | apply K.Ext.drew | refine K.Ext.alloc ?_ _ | refine K.Ext.setCell ?_ ?_ _ | (simp; done) | (simp; omega) | refine K.Ext.trans ?_ (by assumption))))) ?_; rintro e w2 ⟨rfl, hx2⟩; have z2 := hx2.size; have ca2 : w2.cell? ⟨w.heap.size, 0, none⟩ = some (.int .i64 a.1) := hx2.cell_of (by go_simp); have da2 : w2.cell? ⟨w.heap.size, 1, none⟩ = some (.int .i64 a.2) := hx2.cell_of (by go_simp); have cb2 : w2.cell? ⟨w.heap.size + 1, 0, none⟩ = some (.int .i64 b.1) := hx2.cell_of (by go_simp); have db2 : w2.cell? ⟨w.heap.size + 1, 1, none⟩ = some (.int .i64 b.2) := hx2.cell_of (by go_simp)))
    go_ret2
    exact ⟨by rw [HE.out]; rfl, (by repeat' (first | with_reducible exact K.Ext.refl _ | with_reducible assumption | with_reducible refine K.Ext.drew ?_ | with_reducible refine K.Ext.alloc ?_ _ | with_reducible refine K.Ext.setCell ?_ ?_ _ | with_reducible refine K.Ext.trans ?_ (by with_reducible assumption) | (dsimp only; omega) | omega | exact K.Ext.refl _ | assumption | apply K.Ext.drew | refine K.Ext.alloc ?_ _ | refine K.Ext.setCell ?_ ?_ _ | (simp; done) | (simp; omega) | refine K.Ext.trans ?_ (by assumption)))⟩
  have i100 : ¬ ((100 : Int) < (ps.length : Int)) := by omega
  by_cases h0 : ps.length = 0
  · have HE : Hid (Z.NearestInLine a b ps = (0, 4)) := Z.hide (by simp [Z.NearestInLine, hab, hps, hq, h0])
    have i0 : ((ps.length : Int) == 0) = true := by simp [h0]
    clear hq h0 h100 i100
    have i100 : ¬ ((100 : Int) < (ps.length : Int)) := by simp at i0; simp [i0]
    go_enter Try.func10, Try.ntmps10
    go_wp2_with (first | (go_at_call 35; refine K.call (by with_reducible rfl) (by with_reducible rfl) (arePoints_2 a b _ _ (by go_simp) (by go_simp) (by go_simp) (by go_simp) (by go_simp)) ?_; rintro e w1 ⟨rfl, hx1⟩; have z1 := hx1.size; simp at z1; have ca1 : w1.cell? ⟨w.heap.size, 0, none⟩ = some (.int .i64 a.1) := hx1.cell_of (by go_simp); have da1 : w1.cell? ⟨w.heap.size, 1, none⟩ = some (.int .i64 a.2) := hx1.cell_of (by go_simp); have cb1 : w1.cell? ⟨w.heap.size + 1, 0, none⟩ = some (.int .i64 b.1) := hx1.cell_of (by go_simp); have db1 : w1.cell? ⟨w.heap.size + 1, 1, none⟩ = some (.int .i64 b.2) := hx1.cell_of (by go_simp)) | (go_at_call 35; refine K.call (by with_reducible rfl) (by with_reducible rfl) (arePoints_recs ps _ hm (H.out.ext (by repeat' (first | with_reducible exact K.Ext.refl _ | with_reducible assumption | with_reducible refine K.Ext.drew ?_ | with_reducible refine K.Ext.alloc ?_ _ | with_reducible refine K.Ext.setCell ?_ ?_ _ | with_reducible refine K.Ext.trans ?_ (by with_reducible assumption) | (dsimp only; omega) | omega | exact K.Ext.refl _ | assumption | apply K.Ext.drew | refine K.Ext.alloc ?_ _ | refine K.Ext.setCell ?_ ?_ _ | (simp; done) | (simp; omega) | refine K.Ext.trans ?_ (by assumption))))) ?_; rintro e w2 ⟨rfl, hx2⟩; have z2 := hx2.size; have ca2 : w2.cell? ⟨w.heap.size, 0, none⟩ = some (.int .i64 a.1) := hx2.cell_of (by go_simp); have da2 : w2.cell? ⟨w.heap.size, 1, none⟩ = some (.int .i64 a.2) := hx2.cell_of (by go_simp); have cb2 : w2.cell? ⟨w.heap.size + 1, 0, none⟩ = some (.int .i64 b.1) := hx2.cell_of (by go_simp); have db2 : w2.cell? ⟨w.heap.size + 1, 1, none⟩ = some (.int .i64 b.2) := hx2.cell_of (by go_simp)))
    go_ret2
    exact ⟨by rw [HE.out]; rfl, (by repeat' (first | with_reducible exact K.Ext.refl _ | with_reducible assumption | with_reducible refine K.Ext.drew ?_ | with_reducible refine K.Ext.alloc ?_ _ | with_reducible refine K.Ext.setCell ?_ ?_ _ | with_reducible refine K.Ext.trans ?_ (by with_reducible assumption) | (dsimp only; omega) | omega | exact K.Ext.refl _ | assumption | apply K.Ext.drew | refine K.Ext.alloc ?_ _ | refine K.Ext.setCell ?_ ?_ _ | (simp; done) | (simp; omega) | refine K.Ext.trans ?_ (by assumption)))⟩
  have HE : Hid (Z.NearestInLine a b ps = (((Z.nearK a b ps ps.length : Nat) : Int), 0)) := Z.hide (by rw [Z.NearestInLine, if_neg (by simp [hab, hps]), if_neg hq, if_neg h100, if_neg h0])
  have i0 : ((ps.length : Int) == 0) = false := by simpa using h0
  have hpos : 0 < ps.length := by omega
  have hne : ¬ ps = [] := by intro h; rw [h] at hpos; exact absurd hpos (by decide)
  clear hq h0
  go_enter Try.func10, Try.ntmps10
  go_wp2_with (first | (go_at_call 35; refine K.call (by with_reducible rfl) (by with_reducible rfl) (arePoints_2 a b _ _ (by go_simp) (by go_simp) (by go_simp) (by go_simp) (by go_simp)) ?_; rintro e w1 ⟨rfl, hx1⟩; have z1 := hx1.size; simp at z1; have ca1 : w1.cell? ⟨w.heap.size, 0, none⟩ = some (.int .i64 a.1) := hx1.cell_of (by go_simp); have da1 : w1.cell? ⟨w.heap.size, 1, none⟩ = some (.int .i64 a.2) := hx1.cell_of (by go_simp); have cb1 : w1.cell? ⟨w.heap.size + 1, 0, none⟩ = some (.int .i64 b.1) := hx1.cell_of (by go_simp); have db1 : w1.cell? ⟨w.heap.size + 1, 1, none⟩ = some (.int .i64 b.2) := hx1.cell_of (by go_simp)) | (go_at_call 35; refine K.call (by with_reducible rfl) (by with_reducible rfl) (arePoints_recs ps _ hm (H.out.ext (by repeat' (first | with_reducible exact K.Ext.refl _ | with_reducible assumption | with_reducible refine K.Ext.drew ?_ | with_reducible refine K.Ext.alloc ?_ _ | with_reducible refine K.Ext.setCell ?_ ?_ _ | with_reducible refine K.Ext.trans ?_ (by with_reducible assumption) | (dsimp only; omega) | omega | exact K.Ext.refl _ | assumption | apply K.Ext.drew | refine K.Ext.alloc ?_ _ | refine K.Ext.setCell ?_ ?_ _ | (simp; done) | (simp; omega) | refine K.Ext.trans ?_ (by assumption))))) ?_; rintro e w2 ⟨rfl, hx2⟩; have z2 := hx2.size; have ca2 : w2.cell? ⟨w.heap.size, 0, none⟩ = some (.int .i64 a.1) := hx2.cell_of (by go_simp); have da2 : w2.cell? ⟨w.heap.size, 1, none⟩ = some (.int .i64 a.2) := hx2.cell_of (by go_simp); have cb2 : w2.cell? ⟨w.heap.size + 1, 0, none⟩ = some (.int .i64 b.1) := hx2.cell_of (by go_simp); have db2 : w2.cell? ⟨w.heap.size + 1, 1, none⟩ = some (.int .i64 b.2) := hx2.cell_of (by go_simp)))
  go_loopw [8, 38] (fun best i wr => ∃ k : Nat, k ≤ ps.length ∧ best = .int .i64 (Z.nearK a b ps k : Nat) ∧ i = .int .i64 k ∧ (wr.cell? ⟨w.heap.size, 0, none⟩ = some (.int .i64 a.1) ∧ wr.cell? ⟨w.heap.size, 1, none⟩ = some (.int .i64 a.2) ∧ wr.cell? ⟨w.heap.size + 1, 0, none⟩ = some (.int .i64 b.1) ∧ wr.cell? ⟨w.heap.size + 1, 1, none⟩ = some (.int .i64 b.2)) ∧ (w.heap.size + 2 ≤ wr.heap.size ∧ Hid (K.Ext w wr))) (fun _ i _ => ps.length - (intOf i).toNat)
  case atStart => exact ⟨0, Nat.zero_le _, rfl, rfl, ⟨by go_simp, by go_simp, by go_simp, by go_simp⟩, by omega, Z.hide (by repeat' (first | with_reducible exact K.Ext.refl _ | with_reducible assumption | with_reducible refine K.Ext.drew ?_ | with_reducible refine K.Ext.alloc ?_ _ | with_reducible refine K.Ext.setCell ?_ ?_ _ | with_reducible refine K.Ext.trans ?_ (by with_reducible assumption) | (dsimp only; omega) | omega | exact K.Ext.refl _ | assumption | apply K.Ext.drew | refine K.Ext.alloc ?_ _ | refine K.Ext.setCell ?_ ?_ _ | (simp; done) | (simp; omega) | refine K.Ext.trans ?_ (by assumption)))⟩
  case round =>
    obtain ⟨k, hk, rfl, rfl, ⟨ca1, ca2, cb1, cb2⟩, lz, HX⟩ := hrel
    by_cases hlt : k < ps.length
    · obtain ⟨bb, off, rfl, _, hbb, hc, _⟩ := K.recs_at H.out hpos
      have hj : Z.nearK a b ps k < ps.length := by
        by_cases hk0 : k = 0
        · subst hk0; simpa [Z.nearK] using hpos
        · exact Nat.lt_trans (Z.nearK_lt a b ps k (by omega)) hlt
      have HN : Hid (Z.nearK a b ps (k + 1) = if Z.dev (ps.getD k (0, 0)) a b < Z.dev (ps.getD (Z.nearK a b ps k) (0, 0)) a b then k else Z.nearK a b ps k) := Z.hide rfl
      have hc0 : wr.cell? ⟨bb, off + k * 2, none⟩ = some (.int .i64 (ps[k]'hlt).1) := HX.out.cell_of (hc k hlt 0 (by decide))
      have hc1 : wr.cell? ⟨bb, off + k * 2 + 1, none⟩ = some (.int .i64 (ps[k]'hlt).2) := HX.out.cell_of (hc k hlt 1 (by decide))
      have hd0 : wr.cell? ⟨bb, off + Z.nearK a b ps k * 2, none⟩ = some (.int .i64 (ps[Z.nearK a b ps k]'hj).1) := HX.out.cell_of (hc _ hj 0 (by decide))
      have hd1 : wr.cell? ⟨bb, off + Z.nearK a b ps k * 2 + 1, none⟩ = some (.int .i64 (ps[Z.nearK a b ps k]'hj).2) := HX.out.cell_of (hc _ hj 1 (by decide))
      have HP := Z.hide (HPS.out k hlt)
      have HP' := Z.hide (HPS.out _ hj)
      rw [show ps.getD k (0, 0) = ps[k]'hlt from by simp [List.getD_eq_getElem?_getD, hlt], show ps.getD (Z.nearK a b ps k) (0, 0) = ps[Z.nearK a b ps k]'hj from by simp [List.getD_eq_getElem?_getD, hj]] at HN
      have i0 : (0 : Int) ≤ (k : Int) := Int.natCast_nonneg k
      have i1 : (k : Int) < (ps.length : Int) := by omega
      clear hc
      generalize (ps[k]'hlt) = p at *
      generalize (ps[Z.nearK a b ps k]'hj) = q at *
      generalize Z.nearK a b ps k = j at *
      have j0 : (0 : Int) ≤ (j : Int) := Int.natCast_nonneg j
      have j1 : (j : Int) < (ps.length : Int) := by omega
      have lw := HX.out.size
      have lb : bb < wr.heap.size := K.World.lt_of_cell (p := ⟨bb, off + k * 2, none⟩) (by rw [hc0]; rfl)
      have lb' : bb ≠ wr.heap.size := by omega
      have lt1 : w.heap.size < wr.heap.size := by omega
      have lt2 : w.heap.size + 1 < wr.heap.size := by omega
      have ne1 : w.heap.size ≠ wr.heap.size := by omega
      have ne2 : w.heap.size + 1 ≠ wr.heap.size := by omega
      by_cases hdv : Z.dev p a b < Z.dev q a b
      · have HJ : Hid (Z.nearK a b ps (k + 1) = k) := Z.hide (by rw [HN.out, if_pos hdv])
        have dd : decide (Z.dev p a b < Z.dev q a b) = true := decide_eq_true hdv
        clear HN hdv
        go_wp2_with fail
        refine K.wp_region_x 12 [1, 1, 1, 2, 0, 0, 0, 1, 1, 1, 2, 0] [K.SP.any, K.SP.any, K.SP.any, K.SP.is (.int .i64 (Z.dev p a b)), K.SP.any, K.SP.any, K.SP.any, K.SP.any, K.SP.any, K.SP.any, K.SP.is (.int .i64 (Z.dev q a b))] (by kernel_rfl) (by kernel_rfl) ?_
        simp only [List.take_succ_cons, List.take_zero, List.drop_succ_cons, List.drop_zero]
        iterate 3
          apply K.x_held
          · rfl
          · rfl
          · intro w' hx; have hc := hx.all.1.1; have hf := hx.all.1.2; have hc' := hx.all.2.1; have hf' := hx.all.2.2; go_simp; first | done | rfl | exact ⟨rfl, rfl⟩
          simp only [Act.put, List.setIfInBounds_toArray, List.set]
        apply K.x_call_is
        · rfl
        · rfl
        · rfl
        · intro w'; go_simp; first | done | rfl | exact ⟨rfl, rfl⟩
        · intro w' hx hp; have hc := hx.all.1.1; have hf := hx.all.1.2; have hc' := hx.all.2.1; have hf' := hx.all.2.2; exact deviation_any p a b _ HP.out HA.out HB.out HQ.out
        intro w_3_ hx_3_
        simp only [Act.put, List.setIfInBounds_toArray, List.set]
        iterate 3
          apply K.x_pure
          · rfl
          · rfl
          · intro w'; go_simp; first | done | exact K.vint (IntWalk.i64_in _ (by omega)) | rfl | exact ⟨rfl, rfl⟩
          simp only [Act.put, List.setIfInBounds_toArray, List.set]
        iterate 3
          apply K.x_held
          · rfl
          · rfl
          · intro w' hx; have hc := hx.all.1.1; have hf := hx.all.1.2; have hc' := hx.all.2.1; have hf' := hx.all.2.2; go_simp; first | done | rfl | exact ⟨rfl, rfl⟩
          simp only [Act.put, List.setIfInBounds_toArray, List.set]
        apply K.x_call_is
        · rfl
        · rfl
        · rfl
        · intro w'; go_simp; first | done | rfl | exact ⟨rfl, rfl⟩
        · intro w' hx hp; have hc := hx.all.1.1; have hf := hx.all.1.2; have hc' := hx.all.2.1; have hf' := hx.all.2.2; exact deviation_any q a b _ HP'.out HA.out HB.out HQ.out
        intro w_10_ hx_10_
        simp only [Act.put, List.setIfInBounds_toArray, List.set]
        apply K.x_pure
        · rfl
        · rfl
        · intro w'; go_simp; first | done | exact K.vint (IntWalk.i64_in _ (by omega)) | rfl | exact ⟨rfl, rfl⟩
        simp only [Act.put, List.setIfInBounds_toArray, List.set]
        apply K.x_done
        intro w4 h_x
        have hx4 := hx_3_.trans (hx_10_.trans h_x)
        clear h_x hx_3_ hx_10_
        obtain ⟨⟨hcw4, hfw4⟩, hc'w4, hf'w4⟩ := hx4.all
        refine wpList_nil ?_
        refine NoPanic.normal ?_
        have HX4 : Hid (K.Ext wr w4) := Z.hide (by first | exact (by repeat' (first | with_reducible exact K.Ext.refl _ | with_reducible assumption | with_reducible refine K.Ext.drew ?_ | with_reducible refine K.Ext.alloc ?_ _ | with_reducible refine K.Ext.setCell ?_ ?_ _ | with_reducible refine K.Ext.trans ?_ (by with_reducible assumption) | (dsimp only; omega) | omega | exact K.Ext.refl _ | assumption | apply K.Ext.drew | refine K.Ext.alloc ?_ _ | refine K.Ext.setCell ?_ ?_ _ | (simp; done) | (simp; omega) | refine K.Ext.trans ?_ (by assumption))) | exact K.Ext.trans (K.Ext.refl _).drew hx4)
        go_wp2
        go_roundw
        case rel => exact ⟨k + 1, by omega, by rw [HJ.out], by go_num, ⟨HX4.out.cell_of ca1, HX4.out.cell_of ca2, HX4.out.cell_of cb1, HX4.out.cell_of cb2⟩, Nat.le_trans lz HX4.out.size, Z.hide (K.Ext.trans HX.out HX4.out)⟩
        case measure => simp [intOf]; omega
      · have HJ : Hid (Z.nearK a b ps (k + 1) = j) := Z.hide (by rw [HN.out, if_neg hdv])
        have dd : decide (Z.dev p a b < Z.dev q a b) = false := decide_eq_false hdv
        clear HN hdv
        go_wp2_with fail
        refine K.wp_region_x 12 [1, 1, 1, 2, 0, 0, 0, 1, 1, 1, 2, 0] [K.SP.any, K.SP.any, K.SP.any, K.SP.is (.int .i64 (Z.dev p a b)), K.SP.any, K.SP.any, K.SP.any, K.SP.any, K.SP.any, K.SP.any, K.SP.is (.int .i64 (Z.dev q a b))] (by kernel_rfl) (by kernel_rfl) ?_
        simp only [List.take_succ_cons, List.take_zero, List.drop_succ_cons, List.drop_zero]
        iterate 3
          apply K.x_held
          · rfl
          · rfl
          · intro w' hx; have hc := hx.all.1.1; have hf := hx.all.1.2; have hc' := hx.all.2.1; have hf' := hx.all.2.2; go_simp; first | done | rfl | exact ⟨rfl, rfl⟩
          simp only [Act.put, List.setIfInBounds_toArray, List.set]
        apply K.x_call_is
        · rfl
        · rfl
        · rfl
        · intro w'; go_simp; first | done | rfl | exact ⟨rfl, rfl⟩
        · intro w' hx hp; have hc := hx.all.1.1; have hf := hx.all.1.2; have hc' := hx.all.2.1; have hf' := hx.all.2.2; exact deviation_any p a b _ HP.out HA.out HB.out HQ.out
        intro w_3_ hx_3_
        simp only [Act.put, List.setIfInBounds_toArray, List.set]
        iterate 3
          apply K.x_pure
          · rfl
          · rfl
          · intro w'; go_simp; first | done | exact K.vint (IntWalk.i64_in _ (by omega)) | rfl | exact ⟨rfl, rfl⟩
          simp only [Act.put, List.setIfInBounds_toArray, List.set]
        iterate 3
          apply K.x_held
          · rfl
          · rfl
          · intro w' hx; have hc := hx.all.1.1; have hf := hx.all.1.2; have hc' := hx.all.2.1; have hf' := hx.all.2.2; go_simp; first | done | rfl | exact ⟨rfl, rfl⟩
          simp only [Act.put, List.setIfInBounds_toArray, List.set]
        apply K.x_call_is
        · rfl
        · rfl
        · rfl
        · intro w'; go_simp; first | done | rfl | exact ⟨rfl, rfl⟩
        · intro w' hx hp; have hc := hx.all.1.1; have hf := hx.all.1.2; have hc' := hx.all.2.1; have hf' := hx.all.2.2; exact deviation_any q a b _ HP'.out HA.out HB.out HQ.out
        intro w_10_ hx_10_
        simp only [Act.put, List.setIfInBounds_toArray, List.set]
        apply K.x_pure
        · rfl
        · rfl
        · intro w'; go_simp; first | done | exact K.vint (IntWalk.i64_in _ (by omega)) | rfl | exact ⟨rfl, rfl⟩
        simp only [Act.put, List.setIfInBounds_toArray, List.set]
        apply K.x_done
        intro w4 h_x
        have hx4 := hx_3_.trans (hx_10_.trans h_x)
        clear h_x hx_3_ hx_10_
        obtain ⟨⟨hcw4, hfw4⟩, hc'w4, hf'w4⟩ := hx4.all
        refine wpList_nil ?_
        refine NoPanic.normal ?_
        have HX4 : Hid (K.Ext wr w4) := Z.hide (by first | exact (by repeat' (first | with_reducible exact K.Ext.refl _ | with_reducible assumption | with_reducible refine K.Ext.drew ?_ | with_reducible refine K.Ext.alloc ?_ _ | with_reducible refine K.Ext.setCell ?_ ?_ _ | with_reducible refine K.Ext.trans ?_ (by with_reducible assumption) | (dsimp only; omega) | omega | exact K.Ext.refl _ | assumption | apply K.Ext.drew | refine K.Ext.alloc ?_ _ | refine K.Ext.setCell ?_ ?_ _ | (simp; done) | (simp; omega) | refine K.Ext.trans ?_ (by assumption))) | exact K.Ext.trans (K.Ext.refl _).drew hx4)
        go_wp2
        go_roundw
        case rel => exact ⟨k + 1, by omega, by rw [HJ.out], by go_num, ⟨HX4.out.cell_of ca1, HX4.out.cell_of ca2, HX4.out.cell_of cb1, HX4.out.cell_of cb2⟩, Nat.le_trans lz HX4.out.size, Z.hide (K.Ext.trans HX.out HX4.out)⟩
        case measure => simp [intOf]; omega
    · obtain rfl : k = ps.length := by omega
      go_wp2
      go_ret2
      exact ⟨by rw [HE.out]; rfl, HX.out⟩
end Go.Proofs.Ytgepjmfjeidbaaa
