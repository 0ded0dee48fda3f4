/-
  UNITS of the letters of a formula: all valid, both sides.
-/
import Derived.Test.YtphlppklhpaljaaIntSS
import Derived.Test.YtphlppklhpaljaaUnits
import Derived.Test.YtphlppklhpaljaaFm4
import Derived.Test.YtphlppklhpaljaaFm5
set_option linter.unusedVariables false
namespace Go.Z
def allUnits (uss : List (List Int)) : Bool := uss.all isUnit
theorem allUnits_succ (uss : List (List Int)) (k : Nat) (h : k < uss.length) : allUnits (uss.take (k + 1)) = (allUnits (uss.take k) && isUnit (uss[k]'h)) := by
  unfold allUnits
  rw [List.take_succ_eq_append_getElem h, List.all_append]; simp
theorem allUnits_bad (uss : List (List Int)) (k : Nat) (h : k < uss.length) (hb : isUnit (uss[k]'h) = false) : allUnits uss = false := by
  unfold allUnits
  rw [List.all_eq_false]
  exact ⟨uss[k], List.getElem_mem h, by simpa using hb⟩
def okUnits (F : Fm) (uss : List (List Int)) : Bool := decide (uss.length = F.nm.size) && allUnits uss
end Go.Z
namespace Go.Proofs.Ytphlppklhpaljaa
open Go.RowKit
set_option maxHeartbeats 1600000 in
theorem l19Units_any (F : Z.Fm) (uss : List (List Int)) {lo hi : Nat} {p v : Value} (w : World) (hn : F.nm.size ≤ 1048576) (hm : uss.length ≤ 1048576) (hq : ∀ xs ∈ uss, (xs : List Int).length ≤ 1048576) (h : K.rows w lo hi v uss) :
    Calls Try.prog 105 #[.agg #[.int .i64 F.dg, .int .i64 F.tn, .string F.nm, p], v] w fun e w' => e = .returned (.bool (Z.okUnits F uss)) ∧ K.Ext w w' := by
  have g2 := h
  obtain ⟨o', cap', _, rfl, _⟩ := g2
  have HV := Z.hide h
  have HQ := Z.hide hq
  clear h hq
  go_enter Try.func105, Try.ntmps105
  go_wp2
  go_loopw [5] (fun i wr => ∃ k : Nat, k ≤ uss.length ∧ i = .int .i64 k ∧ Hid (Z.allUnits (uss.take k) = true) ∧ Hid (wr.cell? ⟨w.heap.size, 2, none⟩ = some (.string F.nm)) ∧ Hid (K.Ext w wr)) (fun i _ => uss.length - (intOf i).toNat)
  case atStart => exact ⟨0, Nat.zero_le _, rfl, Z.hide rfl, Z.hide (by go_simp), Z.hide (by repeat' (first | with_reducible exact K.Ext.refl _ | with_reducible assumption | with_reducible refine K.Ext.drew ?_ | with_reducible refine K.Ext.alloc ?_ _ | with_reducible refine K.Ext.setCell ?_ ?_ _ | with_reducible refine K.Ext.trans ?_ (by with_reducible assumption) | (dsimp only; omega) | omega | exact K.Ext.refl _ | assumption | apply K.Ext.drew | refine K.Ext.alloc ?_ _ | refine K.Ext.setCell ?_ ?_ _ | (simp; done) | (simp; omega) | refine K.Ext.trans ?_ (by assumption)))⟩
  case round =>
    obtain ⟨k, hk, rfl, HA, HC, HX⟩ := hrel
    by_cases hlt : k < uss.length
    · obtain ⟨b, off, u, rfl, _, _, hc, hu⟩ := K.rows_at (HV.out.ext HX.out) k hlt
      have hxs := HQ.out _ (List.getElem_mem hlt)
      have i0 : (0 : Int) ≤ (k : Int) := Int.natCast_nonneg k
      have i1 : (k : Int) < (uss.length : Int) := by omega
      have HS := Z.hide (Z.allUnits_succ uss k hlt)
      have HB := Z.hide (Z.allUnits_bad uss k hlt)
      generalize uss[k]'hlt = xs at *
      have hu2 := hu
      obtain ⟨o2, c2, rfl, _⟩ := hu2
      cases hf : Z.isUnit xs
      · have HF := Z.hide (HB.out hf)
        go_wp2_with (go_at_call 66; refine K.call (by with_reducible rfl) (by with_reducible rfl) (spec_IsUnit xs _ _ _ _ hxs hu) ?_; rintro e w' ⟨rfl, rfl⟩)
        go_ret
        exact ⟨K.rb (by unfold Z.okUnits; rw [HF.out]; simp), HX.out⟩
      · have HF : Hid (Z.allUnits (uss.take (k + 1)) = true) := Z.hide (by rw [HS.out, HA.out, hf]; rfl)
        go_wp2_with (go_at_call 66; refine K.call (by with_reducible rfl) (by with_reducible rfl) (spec_IsUnit xs _ _ _ _ hxs hu) ?_; rintro e w' ⟨rfl, rfl⟩)
        go_roundw
        case rel => exact ⟨k + 1, by omega, by go_num, HF, HC, HX⟩
        case measure => simp [intOf]; omega
    · obtain rfl : k = uss.length := by omega
      have HF : Hid (Z.allUnits uss = true) := Z.hide (by have := HA.out; rwa [List.take_length] at this)
      have c2 := HC.out
      go_wp2
      go_ret
      exact ⟨K.rb (by unfold Z.okUnits; rw [HF.out, Bool.and_true, Bool.eq_iff_iff]; simp; try omega), HX.out⟩
theorem areUnits1_any (xs : List Int) {lo hi : Nat} {v : Value} (w : World) (hm : xs.length ≤ 1048576) (h : K.ints w lo hi v xs) :
    Calls Try.prog 176 #[v] w fun e w' => e = .returned (.bool (!Z.isUnit xs)) ∧ w = w' := by
  go_enter Try.func176, Try.ntmps176
  go_wp2_with (go_at_call 65; refine K.call (by with_reducible rfl) (by with_reducible rfl) (impl_IsUnit xs _ _ _ _ hm h) ?_; rintro e w' ⟨rfl, rfl⟩)
  go_ret
  exact ⟨rfl, rfl⟩
set_option maxHeartbeats 1600000 in
theorem IndexFunc_units (uss : List (List Int)) {lo hi : Nat} {v : Value} (w : World) (hm : uss.length ≤ 1048576) (hq : ∀ xs ∈ uss, (xs : List Int).length ≤ 1048576) (h : K.rows w lo hi v uss) :
    Calls Try.prog 208 #[v, .func (.func 176) #[] #[]] w fun e w' => (∃ r : Int, e = .returned (.int .i64 r) ∧ ((Z.allUnits uss = true ∧ r = -1) ∨ (Z.allUnits uss = false ∧ 0 ≤ r))) ∧ w = w' := by
  have g2 := h
  obtain ⟨o', cap', _, rfl, _⟩ := g2
  have HV := Z.hide h
  have HQ := Z.hide hq
  clear h hq
  have hg : ∀ (args : Array Value) (w' : World), (callFunc 176 args).run Try.prog w' = .ok (.enter 176 args) w' := by
    intro args w'; go_simp
  go_enter Try.func208, Try.ntmps208
  go_wp2
  go_loop [8] (fun i => ∃ k : Nat, k ≤ uss.length ∧ i = .int .i64 k ∧ Hid (Z.allUnits (uss.take k) = true)) (fun i => uss.length - (intOf i).toNat)
  case atStart => exact ⟨0, Nat.zero_le _, rfl, Z.hide rfl⟩
  case round =>
    obtain ⟨k, hk, rfl, HP⟩ := hrel
    by_cases hlt : k < uss.length
    · obtain ⟨b, off, u, rfl, _, _, hc, hu⟩ := K.rows_at HV.out k hlt
      have hxs := HQ.out _ (List.getElem_mem hlt)
      have i0 : (0 : Int) ≤ (k : Int) := Int.natCast_nonneg k
      have i1 : (k : Int) < (uss.length : Int) := by omega
      have HS := Z.hide (Z.allUnits_succ uss k hlt)
      have HB := Z.hide (Z.allUnits_bad uss k hlt)
      generalize uss[k]'hlt = xs at *
      have hu2 := hu
      obtain ⟨o2, c2, rfl, _⟩ := hu2
      cases h1 : Z.isUnit xs
      · go_wp2_with (refine K.call (by with_reducible rfl) (by with_reducible rfl) (areUnits1_any xs _ hxs hu) ?_; rintro e w' ⟨rfl, rfl⟩)
        go_ret
        exact ⟨⟨_, rfl, (.inr ⟨HB.out h1, by omega⟩)⟩, rfl⟩
      · go_wp2_with (refine K.call (by with_reducible rfl) (by with_reducible rfl) (areUnits1_any xs _ hxs hu) ?_; rintro e w' ⟨rfl, rfl⟩)
        go_round
        case rel => exact ⟨k + 1, by omega, by go_num, Z.hide (by rw [HS.out, HP.out, h1]; rfl)⟩
        case measure => simp [intOf]; omega
    · obtain rfl : k = uss.length := by omega
      have HF : Hid (Z.allUnits uss = true) := Z.hide (by have := HP.out; rwa [List.take_length] at this)
      go_wp2
      go_ret
      exact ⟨⟨_, rfl, .inl ⟨HF.out, rfl⟩⟩, rfl⟩
theorem ContainsFunc_units (uss : List (List Int)) {lo hi : Nat} {v : Value} (w : World) (hm : uss.length ≤ 1048576) (hq : ∀ xs ∈ uss, (xs : List Int).length ≤ 1048576) (h : K.rows w lo hi v uss) :
    Calls Try.prog 175 #[v, .func (.func 176) #[] #[]] w fun e w' => e = .returned (.bool (!Z.allUnits uss)) ∧ w = w' := by
  go_enter Try.func175, Try.ntmps175
  go_wp2_with ((go_at_call 208; refine K.call (by with_reducible rfl) (by with_reducible rfl) (IndexFunc_units uss _ hm hq h) ?_; rintro e w1 ⟨⟨r, rfl, hr⟩, rfl⟩))
  go_ret
  refine ⟨K.rb ?_, rfl⟩
  rcases hr with ⟨h1, rfl⟩ | ⟨h1, h2⟩
  · rw [h1]; rfl
  · rw [h1]; simpa using h2
set_option maxHeartbeats 1600000 in
theorem areUnits_any (F : Z.Fm) (uss : List (List Int)) {lo hi lo' hi' : Nat} {p v : Value} (w : World) (hm : F.pw.length ≤ 1048576) (hn : F.nm.size ≤ 1048576) (h : K.ints w lo hi p F.pw) (hm' : uss.length ≤ 1048576) (hq : ∀ xs ∈ uss, (xs : List Int).length ≤ 1048576) (h' : K.rows w lo' hi' v uss) :
    Calls Try.prog 109 #[.agg #[.int .i64 F.dg, .int .i64 F.tn, .string F.nm, p], v] w fun e w' => e = .returned (.bool (Z.isFormula F && Z.okUnits F uss)) ∧ K.Ext w w' := by
  have g1 := h
  obtain ⟨o, cap, rfl, _⟩ := g1
  have g2 := h'
  obtain ⟨o', cap', _, rfl, _⟩ := g2
  have HQ := Z.hide hq
  have HV := Z.hide h'
  clear hq h'
  cases vF : Z.isFormula F
  · go_enter Try.func109, Try.ntmps109
    go_wp2_with ((go_at_call 78; refine K.call (by with_reducible rfl) (by with_reducible rfl) (impl_IsFormula F _ hm hn (h.ext (by repeat' (first | with_reducible exact K.Ext.refl _ | with_reducible assumption | with_reducible refine K.Ext.drew ?_ | with_reducible refine K.Ext.alloc ?_ _ | with_reducible refine K.Ext.setCell ?_ ?_ _ | with_reducible refine K.Ext.trans ?_ (by with_reducible assumption) | (dsimp only; omega) | omega | exact K.Ext.refl _ | assumption | apply K.Ext.drew | refine K.Ext.alloc ?_ _ | refine K.Ext.setCell ?_ ?_ _ | (simp; done) | (simp; omega) | refine K.Ext.trans ?_ (by assumption))))) ?_; rintro e w1 ⟨rfl, hw1⟩; obtain ⟨hcw1, hfw1⟩ := hw1.facts); have c_w1_0_0 : w1.cell? ⟨w.heap.size, 0, none⟩ = some (.int .i64 (F.dg)) := hw1.cell_of (by go_simp); have f_w1_0_0 : w1.frozen? ⟨w.heap.size, 0, none⟩ = false := hw1.thaw_of (by go_simp) (by go_simp); have c_w1_0_1 : w1.cell? ⟨w.heap.size, 1, none⟩ = some (.int .i64 (F.tn)) := hw1.cell_of (by go_simp); have f_w1_0_1 : w1.frozen? ⟨w.heap.size, 1, none⟩ = false := hw1.thaw_of (by go_simp) (by go_simp); have c_w1_0_2 : w1.cell? ⟨w.heap.size, 2, none⟩ = some (.string F.nm) := hw1.cell_of (by go_simp); have f_w1_0_2 : w1.frozen? ⟨w.heap.size, 2, none⟩ = false := hw1.thaw_of (by go_simp) (by go_simp); have c_w1_0_3 : w1.cell? ⟨w.heap.size, 3, none⟩ = some (.slice o F.pw.length cap) := hw1.cell_of (by go_simp); have f_w1_0_3 : w1.frozen? ⟨w.heap.size, 3, none⟩ = false := hw1.thaw_of (by go_simp) (by go_simp))
    go_ret
    exact ⟨K.rb rfl, (by repeat' (first | with_reducible exact K.Ext.refl _ | with_reducible assumption | with_reducible refine K.Ext.drew ?_ | with_reducible refine K.Ext.alloc ?_ _ | with_reducible refine K.Ext.setCell ?_ ?_ _ | with_reducible refine K.Ext.trans ?_ (by with_reducible assumption) | (dsimp only; omega) | omega | exact K.Ext.refl _ | assumption | apply K.Ext.drew | refine K.Ext.alloc ?_ _ | refine K.Ext.setCell ?_ ?_ _ | (simp; done) | (simp; omega) | refine K.Ext.trans ?_ (by assumption)))⟩
  · by_cases hl : uss.length = F.nm.size
    · have HE : Hid (Z.okUnits F uss = Z.allUnits uss) := Z.hide (by unfold Z.okUnits; rw [decide_eq_true hl]; rfl)
      have hq : ((uss.length : Int) == (F.nm.size : Int)) = true := by rw [hl]; simp
      clear hl
      go_enter Try.func109, Try.ntmps109
      go_wp2_with (first | ((go_at_call 78; refine K.call (by with_reducible rfl) (by with_reducible rfl) (impl_IsFormula F _ hm hn (h.ext (by repeat' (first | with_reducible exact K.Ext.refl _ | with_reducible assumption | with_reducible refine K.Ext.drew ?_ | with_reducible refine K.Ext.alloc ?_ _ | with_reducible refine K.Ext.setCell ?_ ?_ _ | with_reducible refine K.Ext.trans ?_ (by with_reducible assumption) | (dsimp only; omega) | omega | exact K.Ext.refl _ | assumption | apply K.Ext.drew | refine K.Ext.alloc ?_ _ | refine K.Ext.setCell ?_ ?_ _ | (simp; done) | (simp; omega) | refine K.Ext.trans ?_ (by assumption))))) ?_; rintro e w1 ⟨rfl, hw1⟩; obtain ⟨hcw1, hfw1⟩ := hw1.facts); have c_w1_0_0 : w1.cell? ⟨w.heap.size, 0, none⟩ = some (.int .i64 (F.dg)) := hw1.cell_of (by go_simp); have f_w1_0_0 : w1.frozen? ⟨w.heap.size, 0, none⟩ = false := hw1.thaw_of (by go_simp) (by go_simp); have c_w1_0_1 : w1.cell? ⟨w.heap.size, 1, none⟩ = some (.int .i64 (F.tn)) := hw1.cell_of (by go_simp); have f_w1_0_1 : w1.frozen? ⟨w.heap.size, 1, none⟩ = false := hw1.thaw_of (by go_simp) (by go_simp); have c_w1_0_2 : w1.cell? ⟨w.heap.size, 2, none⟩ = some (.string F.nm) := hw1.cell_of (by go_simp); have f_w1_0_2 : w1.frozen? ⟨w.heap.size, 2, none⟩ = false := hw1.thaw_of (by go_simp) (by go_simp); have c_w1_0_3 : w1.cell? ⟨w.heap.size, 3, none⟩ = some (.slice o F.pw.length cap) := hw1.cell_of (by go_simp); have f_w1_0_3 : w1.frozen? ⟨w.heap.size, 3, none⟩ = false := hw1.thaw_of (by go_simp) (by go_simp)) | (go_at_call 175; refine K.call (by with_reducible rfl) (by with_reducible rfl) (ContainsFunc_units uss _ hm' HQ.out (HV.out.ext (by repeat' (first | with_reducible exact K.Ext.refl _ | with_reducible assumption | with_reducible refine K.Ext.drew ?_ | with_reducible refine K.Ext.alloc ?_ _ | with_reducible refine K.Ext.setCell ?_ ?_ _ | with_reducible refine K.Ext.trans ?_ (by with_reducible assumption) | (dsimp only; omega) | omega | exact K.Ext.refl _ | assumption | apply K.Ext.drew | refine K.Ext.alloc ?_ _ | refine K.Ext.setCell ?_ ?_ _ | (simp; done) | (simp; omega) | refine K.Ext.trans ?_ (by assumption))))) ?_; rintro e w' ⟨rfl, rfl⟩))
      go_ret
      exact ⟨K.rb (by rw [HE.out]; simp), (by repeat' (first | with_reducible exact K.Ext.refl _ | with_reducible assumption | with_reducible refine K.Ext.drew ?_ | with_reducible refine K.Ext.alloc ?_ _ | with_reducible refine K.Ext.setCell ?_ ?_ _ | with_reducible refine K.Ext.trans ?_ (by with_reducible assumption) | (dsimp only; omega) | omega | exact K.Ext.refl _ | assumption | apply K.Ext.drew | refine K.Ext.alloc ?_ _ | refine K.Ext.setCell ?_ ?_ _ | (simp; done) | (simp; omega) | refine K.Ext.trans ?_ (by assumption)))⟩
    · have HE : Hid (Z.okUnits F uss = false) := Z.hide (by unfold Z.okUnits; rw [decide_eq_false hl]; rfl)
      have hq : ((uss.length : Int) == (F.nm.size : Int)) = false := by simp; omega
      go_enter Try.func109, Try.ntmps109
      go_wp2_with ((go_at_call 78; refine K.call (by with_reducible rfl) (by with_reducible rfl) (impl_IsFormula F _ hm hn (h.ext (by repeat' (first | with_reducible exact K.Ext.refl _ | with_reducible assumption | with_reducible refine K.Ext.drew ?_ | with_reducible refine K.Ext.alloc ?_ _ | with_reducible refine K.Ext.setCell ?_ ?_ _ | with_reducible refine K.Ext.trans ?_ (by with_reducible assumption) | (dsimp only; omega) | omega | exact K.Ext.refl _ | assumption | apply K.Ext.drew | refine K.Ext.alloc ?_ _ | refine K.Ext.setCell ?_ ?_ _ | (simp; done) | (simp; omega) | refine K.Ext.trans ?_ (by assumption))))) ?_; rintro e w1 ⟨rfl, hw1⟩; obtain ⟨hcw1, hfw1⟩ := hw1.facts); have c_w1_0_0 : w1.cell? ⟨w.heap.size, 0, none⟩ = some (.int .i64 (F.dg)) := hw1.cell_of (by go_simp); have f_w1_0_0 : w1.frozen? ⟨w.heap.size, 0, none⟩ = false := hw1.thaw_of (by go_simp) (by go_simp); have c_w1_0_1 : w1.cell? ⟨w.heap.size, 1, none⟩ = some (.int .i64 (F.tn)) := hw1.cell_of (by go_simp); have f_w1_0_1 : w1.frozen? ⟨w.heap.size, 1, none⟩ = false := hw1.thaw_of (by go_simp) (by go_simp); have c_w1_0_2 : w1.cell? ⟨w.heap.size, 2, none⟩ = some (.string F.nm) := hw1.cell_of (by go_simp); have f_w1_0_2 : w1.frozen? ⟨w.heap.size, 2, none⟩ = false := hw1.thaw_of (by go_simp) (by go_simp); have c_w1_0_3 : w1.cell? ⟨w.heap.size, 3, none⟩ = some (.slice o F.pw.length cap) := hw1.cell_of (by go_simp); have f_w1_0_3 : w1.frozen? ⟨w.heap.size, 3, none⟩ = false := hw1.thaw_of (by go_simp) (by go_simp))
      go_ret
      exact ⟨K.rb (by rw [HE.out]; rfl), (by repeat' (first | with_reducible exact K.Ext.refl _ | with_reducible assumption | with_reducible refine K.Ext.drew ?_ | with_reducible refine K.Ext.alloc ?_ _ | with_reducible refine K.Ext.setCell ?_ ?_ _ | with_reducible refine K.Ext.trans ?_ (by with_reducible assumption) | (dsimp only; omega) | omega | exact K.Ext.refl _ | assumption | apply K.Ext.drew | refine K.Ext.alloc ?_ _ | refine K.Ext.setCell ?_ ?_ _ | (simp; done) | (simp; omega) | refine K.Ext.trans ?_ (by assumption)))⟩
end Go.Proofs.Ytphlppklhpaljaa
