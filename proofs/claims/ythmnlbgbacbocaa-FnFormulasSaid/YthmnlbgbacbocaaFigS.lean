/-
  SLICES OF FIGURES: how a value reads as a list of figures; all valid.
-/
import Derived.Test.YthmnlbgbacbocaaFig2
import Derived.Test.YthmnlbgbacbocaaMake2
set_option linter.unusedVariables false
namespace Go.K
open Go.RowKit
/-- The value reads as this list of figures. -/
def figs (w : World) (lo hi : Nat) (v : Value) (fs : List (Int × Int)) : Prop :=
  ∃ o cap, v = .slice o fs.length cap ∧ (fs ≠ [] → ∃ b off, o = some ⟨b, off, none⟩ ∧ lo ≤ b ∧ b < hi ∧ ∀ i, i < fs.length → w.cell? ⟨b, off + i * 2, none⟩ = some (.int .i64 (fs.getD i (0, 0)).1) ∧ w.cell? ⟨b, off + i * 2 + 1, none⟩ = some (.int .i64 (fs.getD i (0, 0)).2))
theorem figs.ext {w w' : World} {lo hi : Nat} {v : Value} {fs : List (Int × Int)} (h : figs w lo hi v fs) (hx : Ext w w') : figs w' lo hi v fs := by
  obtain ⟨o, cap, rfl, h⟩ := h
  exact ⟨o, cap, rfl, fun hn => by obtain ⟨b, off, rfl, h1, h2, h3⟩ := h hn; exact ⟨b, off, rfl, h1, h2, fun i hi => ⟨hx.cell_of (h3 i hi).1, hx.cell_of (h3 i hi).2⟩⟩⟩
theorem two_figs {w : World} {g : Nat} {a b : Int × Int} {t : TypeId} (h : w.heap[g]? = some (.cells #[.int .i64 a.1, .int .i64 a.2, .int .i64 b.1, .int .i64 b.2] t)) : figs w g (g + 1) (.slice (some ⟨g, 0, none⟩) 2 2) [a, b] := by
  refine ⟨_, 2, rfl, fun _ => ⟨g, 0, rfl, Nat.le_refl _, by omega, fun i hi => ?_⟩⟩
  match i, hi with
  | 0, _ => exact ⟨cell_at h rfl, cell_at h rfl⟩
  | 1, _ => exact ⟨cell_at h rfl, cell_at h rfl⟩
end Go.K
namespace Go.Z
def areFigs (fs : List (Int × Int)) : Bool := fs.all (fun f => isFig f.1 f.2)
theorem figs_succ (fs : List (Int × Int)) (k : Nat) (h : k < fs.length) : areFigs (fs.take (k + 1)) = (areFigs (fs.take k) && isFig (fs.getD k (0, 0)).1 (fs.getD k (0, 0)).2) := by
  unfold areFigs
  rw [List.take_succ_eq_append_getElem h, List.all_append]; simp [List.getD_eq_getElem?_getD, h]
theorem figs_bad (fs : List (Int × Int)) (k : Nat) (h : k < fs.length) (hb : isFig (fs.getD k (0, 0)).1 (fs.getD k (0, 0)).2 = false) : areFigs fs = false := by
  unfold areFigs
  rw [List.all_eq_false]
  exact ⟨fs[k], List.getElem_mem h, by simpa [List.getD_eq_getElem?_getD, h] using hb⟩
end Go.Z
namespace Go.Proofs.Ythmnlbgbacbocaa
open Go.RowKit
set_option maxHeartbeats 1600000 in
theorem areFigures_any (fs : List (Int × Int)) {lo hi : Nat} {v : Value} (w : World) (hm : fs.length ≤ 1048576) (h : K.figs w lo hi v fs) :
    Calls Try.prog 141 #[v] w fun e w' => e = .returned (.bool (Z.areFigs fs)) ∧ K.Ext w w' := by
  obtain ⟨o, cap, rfl, hh⟩ := h
  go_enter Try.func141, Try.ntmps141
  go_wp2
  go_loopw [7] (fun i wr => ∃ k : Nat, k ≤ fs.length ∧ i = .int .i64 k ∧ Hid (Z.areFigs (fs.take k) = true) ∧ Hid (K.Ext w wr)) (fun i _ => fs.length - (intOf i).toNat)
  case atStart => exact ⟨0, Nat.zero_le _, rfl, Z.hide rfl, Z.hide (K.Ext.refl _)⟩
  case round =>
    obtain ⟨k, hk, rfl, HA, HX⟩ := hrel
    by_cases hlt : k < fs.length
    · obtain ⟨b, off, rfl, _, _, hc⟩ := hh (by intro h0; simp [h0] at hlt)
      have hc1 := HX.out.cell_of (hc k hlt).1
      have hc2 := HX.out.cell_of (hc k hlt).2
      have i0 : (0 : Int) ≤ (k : Int) := Int.natCast_nonneg k
      have i1 : (k : Int) < (fs.length : Int) := by omega
      have lbr : b < wr.heap.size := World.block_lt_of_cell? wr _ hc1
      have n1 : ¬ (b = wr.heap.size) := by omega
      have n2 : ¬ (wr.heap.size = b) := by omega
      have HS := Z.hide (Z.figs_succ fs k hlt)
      have HB := Z.hide (Z.figs_bad fs k hlt)
      clear hc hh
      generalize fs.getD k (0, 0) = f at *
      cases hf : Z.isFig f.1 f.2
      · have HF := Z.hide (HB.out hf)
        go_wp2_with ((go_at_call 112; refine K.call (by with_reducible rfl) (by with_reducible rfl) (impl_IsFigure f.1 f.2 _) ?_; rintro e w1 ⟨rfl, hw1⟩; obtain ⟨hcw1, hfw1⟩ := hw1.facts))
        go_ret
        exact ⟨K.rb (by rw [HF.out]), K.Ext.trans HX.out (by repeat' (first | with_reducible exact K.Ext.refl _ | with_reducible assumption | with_reducible refine K.Ext.drew ?_ | with_reducible refine K.Ext.alloc ?_ _ | with_reducible refine K.Ext.setCell ?_ ?_ _ | with_reducible refine K.Ext.trans ?_ (by with_reducible assumption) | (dsimp only; omega) | omega | exact K.Ext.refl _ | assumption | apply K.Ext.drew | refine K.Ext.alloc ?_ _ | refine K.Ext.setCell ?_ ?_ _ | (simp; done) | (simp; omega) | refine K.Ext.trans ?_ (by assumption)))⟩
      · have HF : Hid (Z.areFigs (fs.take (k + 1)) = true) := Z.hide (by rw [HS.out, HA.out, hf]; rfl)
        go_wp2_with ((go_at_call 112; refine K.call (by with_reducible rfl) (by with_reducible rfl) (impl_IsFigure f.1 f.2 _) ?_; rintro e w1 ⟨rfl, hw1⟩; obtain ⟨hcw1, hfw1⟩ := hw1.facts))
        go_roundw
        case rel => exact ⟨k + 1, by omega, by go_num, HF, Z.hide (K.Ext.trans HX.out (by repeat' (first | with_reducible exact K.Ext.refl _ | with_reducible assumption | with_reducible refine K.Ext.drew ?_ | with_reducible refine K.Ext.alloc ?_ _ | with_reducible refine K.Ext.setCell ?_ ?_ _ | with_reducible refine K.Ext.trans ?_ (by with_reducible assumption) | (dsimp only; omega) | omega | exact K.Ext.refl _ | assumption | apply K.Ext.drew | refine K.Ext.alloc ?_ _ | refine K.Ext.setCell ?_ ?_ _ | (simp; done) | (simp; omega) | refine K.Ext.trans ?_ (by assumption))))⟩
        case measure => simp [intOf]; omega
    · obtain rfl : k = fs.length := by omega
      have HF : Hid (Z.areFigs fs = true) := Z.hide (by have := HA.out; rwa [List.take_length] at this)
      clear hh
      go_wp2
      go_ret
      exact ⟨K.rb (by rw [HF.out]), HX.out⟩
theorem areTwo_any (a b : Int × Int) {g : Nat} {t : TypeId} (w : World) (h : w.heap[g]? = some (.cells #[.int .i64 a.1, .int .i64 a.2, .int .i64 b.1, .int .i64 b.2] t)) :
    Calls Try.prog 141 #[.slice (some ⟨g, 0, none⟩) 2 2] w fun e w' => e = .returned (.bool (Z.isFig a.1 a.2 && Z.isFig b.1 b.2)) ∧ K.Ext w w' :=
  (areFigures_any [a, b] w (by simp) (K.two_figs h)).mono fun e w' ⟨he, hx⟩ => ⟨by rw [he]; simp [Z.areFigs], hx⟩
theorem areTwo_new (a b : Int × Int) (g : Nat) (W : World) (hg : g = W.heap.size) :
    Calls Try.prog 141 #[.slice (some ⟨g, 0, none⟩) 2 2] (W.alloc (.cells #[.int .i64 a.1, .int .i64 a.2, .int .i64 b.1, .int .i64 b.2] 30)) fun e w' => e = .returned (.bool (Z.isFig a.1 a.2 && Z.isFig b.1 b.2)) ∧ K.Ext (W.alloc (.cells #[.int .i64 a.1, .int .i64 a.2, .int .i64 b.1, .int .i64 b.2] 30)) w' :=
  areTwo_any a b _ (K.block_new hg)
end Go.Proofs.Ythmnlbgbacbocaa
