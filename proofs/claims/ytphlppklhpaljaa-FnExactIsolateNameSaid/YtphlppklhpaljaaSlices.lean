/-
  WHAT THE LAWS DO WITH SLICES OF int64: a copy, a comparison, marks.
-/
import Derived.Test.YtphlppklhpaljaaBase
set_option linter.unusedVariables false
namespace Go.Proofs.Ytphlppklhpaljaa
open Go.RowKit
theorem info_int : (Try.prog.info? 2).map (fun i => (i.zero, i.size, i.bytes)) = some (some (.int .i64 0), 1, 8) := by kernel_rfl
theorem cells_int : Try.prog.cellsOf 2 = 1 := by kernel_rfl

set_option maxHeartbeats 400000 in
theorem toInt64S_any (xs : List Int) (lo hi : Nat) (v : Value) (w : World) (hm : xs.length ≤ 1048576) (h : K.ints w lo hi v xs) :
    Calls Try.prog 29 #[v] w fun e w' => (∃ v', e = .returned v' ∧ K.own w' w.heap.size w'.heap.size v' xs) ∧ K.Ext w w' := by
  obtain ⟨o, cap, rfl, h⟩ := h
  obtain ⟨i0, hi0, hz0, hz1, hz2⟩ := info_parts info_int
  go_enter Try.func29, Try.ntmps29
  go_wp2_with (at_make; refine wpList_make_full _ rfl _ _ 24 rfl w.heap.size 2 i0 (.int .i64 0) 1 Try.underlying24 hi0 hz0 hz1 _ _ _ _ xs.length rfl rfl rfl rfl (by rw [hz2]; omega) (by unfold maxLen; omega) (Nat.le_refl _) ?_; intro w1 hown1 hgrow1)
  go_loopw [4] (fun i wr => ∃ k : Nat, k ≤ xs.length ∧ i = .int .i64 k ∧ Hid (∃ ys : List Int, ys.length = xs.length ∧ ys.take k = xs.take k ∧ wr.ownsRow w.heap.size 2 1 (.slice (some ⟨w.heap.size, 0, none⟩) xs.length xs.length) xs.length (ys.map (Value.int .i64))) ∧ Hid (K.Ext w wr)) (fun i _ => xs.length - (intOf i).toNat)
  case atStart => exact ⟨0, Nat.zero_le _, rfl, Z.hide ⟨List.replicate xs.length 0, by simp, by simp, by rw [List.map_replicate]; simpa [toList_madeCells_one, Value.cells] using hown1⟩, Z.hide ((Below.refl _ _).grown hgrow1 (Nat.le_refl _) (fun k hk => by cases hk))⟩
  case round =>
    obtain ⟨k, hk, rfl, HY, HX⟩ := hrel
    by_cases hlt : k < xs.length
    · obtain ⟨b, off, rfl, _, _, hc⟩ := h (by intro h0; simp [h0] at hlt)
      have hck := HX.out.cell_of (hc k hlt)
      obtain ⟨ys, hy1, hy2, hown⟩ := HY.out
      have hcy : wr.cell? ⟨w.heap.size, k, none⟩ = some (.int .i64 (ys.getD k 0)) := by rw [hown.cellAt k (by omega)]; simp [hy1, hlt]
      have hfy := hown.frozenAt k
      have HS := Z.hide (hown.stored k (.int .i64 (xs.getD k 0)))
      have HT := Z.hide (Z.take_set_eq xs ys k hy1 hlt hy2)
      have HL := Z.hide hy1
      clear hown hc h hy1 hy2
      generalize xs.getD k 0 = x at *
      generalize ys.getD k 0 = y at *
      go_wp2
      go_roundw
      case rel => exact ⟨k + 1, by omega, by go_num, Z.hide ⟨ys.set k x, by simpa using HL.out, HT.out, by rw [List.map_set]; exact HS.out.1⟩, Z.hide (HX.out.setCell (Nat.le_refl _) _)⟩
      case measure => simp [intOf]; omega
    · obtain rfl : k = xs.length := by omega
      obtain ⟨ys, hy1, hy2, hown⟩ := HY.out
      have HO := Z.hide hown
      obtain rfl : ys = xs := by rw [← List.take_length (l := xs), ← hy2, ← hy1, List.take_length]
      clear hown
      go_wp2
      go_ret
      exact ⟨⟨_, rfl, K.own_of_row HO.out⟩, HX.out⟩
set_option maxHeartbeats 400000 in
theorem eqInt64S_same (xs : List Int) (lo hi lo' hi' : Nat) (v v' : Value) (w : World) (hm : xs.length ≤ 1048576) (h : K.ints w lo hi v xs) (h' : K.ints w lo' hi' v' xs) :
    Calls Try.prog 21 #[v, v'] w fun e w' => e = .returned (.bool true) ∧ K.Ext w w' := by
  obtain ⟨o, cap, rfl, h⟩ := h
  obtain ⟨o', cap', rfl, h'⟩ := h'
  go_enter Try.func21, Try.ntmps21
  go_wp2
  go_loopw [5] (fun i wr => ∃ k : Nat, k ≤ xs.length ∧ i = .int .i64 k ∧ Hid (K.Ext w wr)) (fun i _ => xs.length - (intOf i).toNat)
  case atStart => exact ⟨0, Nat.zero_le _, rfl, Z.hide (K.Ext.refl _)⟩
  case round =>
    obtain ⟨k, hk, rfl, HX⟩ := hrel
    by_cases hlt : k < xs.length
    · obtain ⟨b, off, rfl, _, _, hc⟩ := h (by intro h0; simp [h0] at hlt)
      obtain ⟨b', off', rfl, _, _, hc'⟩ := h' (by intro h0; simp [h0] at hlt)
      have hck := HX.out.cell_of (hc k hlt)
      have hck' := HX.out.cell_of (hc' k hlt)
      clear hc hc' h h'
      generalize xs.getD k 0 = x at *
      have i0 : (0 : Int) ≤ (k : Int) := Int.natCast_nonneg k
      have i1 : (k : Int) < (xs.length : Int) := by omega
      go_wp2_with fail
      refine K.wp_region_ext (by kernel_rfl) (by kernel_rfl) ?_
      apply K.qcons
      · rfl
      · intro w' hw'; have hc := hw'.all.1.1; have hf := hw'.all.1.2; have hc' := hw'.all.2.1; have hf' := hw'.all.2.2; unfold Oper.quietAt; go_simp; first | done | rfl | exact ⟨rfl, rfl⟩
      simp only [Act.put, List.setIfInBounds_toArray, List.set]
      apply K.qcons
      · rfl
      · intro w' hw'; have hc := hw'.all.1.1; have hf := hw'.all.1.2; have hc' := hw'.all.2.1; have hf' := hw'.all.2.2; unfold Oper.quietAt; go_simp; first | done | rfl | exact ⟨rfl, rfl⟩
      simp only [Act.put, List.setIfInBounds_toArray, List.set]
      apply K.qcons
      · rfl
      · intro w' hw'; have hc := hw'.all.1.1; have hf := hw'.all.1.2; have hc' := hw'.all.2.1; have hf' := hw'.all.2.2; unfold Oper.quietAt; go_simp; first | done | rfl | exact ⟨rfl, rfl⟩
      simp only [Act.put, List.setIfInBounds_toArray, List.set]
      apply K.qcons
      · rfl
      · intro w' hw'; have hc := hw'.all.1.1; have hf := hw'.all.1.2; have hc' := hw'.all.2.1; have hf' := hw'.all.2.2; unfold Oper.quietAt; go_simp; first | done | rfl | exact ⟨rfl, rfl⟩
      simp only [Act.put, List.setIfInBounds_toArray, List.set]
      apply K.qcons
      · rfl
      · intro w' hw'; have hc := hw'.all.1.1; have hf := hw'.all.1.2; have hc' := hw'.all.2.1; have hf' := hw'.all.2.2; unfold Oper.quietAt; go_simp; first | done | rfl | exact ⟨rfl, rfl⟩
      simp only [Act.put, List.setIfInBounds_toArray, List.set]
      apply K.qcons
      · rfl
      · intro w' hw'; have hc := hw'.all.1.1; have hf := hw'.all.1.2; have hc' := hw'.all.2.1; have hf' := hw'.all.2.2; unfold Oper.quietAt; go_simp; first | done | rfl | exact ⟨rfl, rfl⟩
      simp only [Act.put, List.setIfInBounds_toArray, List.set]
      apply K.qcons
      · rfl
      · intro w' hw'; have hc := hw'.all.1.1; have hf := hw'.all.1.2; have hc' := hw'.all.2.1; have hf' := hw'.all.2.2; unfold Oper.quietAt; go_simp; first | done | rfl | exact ⟨rfl, rfl⟩
      simp only [Act.put, List.setIfInBounds_toArray, List.set]
      apply K.qcons
      · rfl
      · intro w' hw'; have hc := hw'.all.1.1; have hf := hw'.all.1.2; have hc' := hw'.all.2.1; have hf' := hw'.all.2.2; unfold Oper.quietAt; go_simp; first | done | rfl | exact ⟨rfl, rfl⟩
      simp only [Act.put, List.setIfInBounds_toArray, List.set]
      apply K.qcons
      · rfl
      · intro w' hw'; have hc := hw'.all.1.1; have hf := hw'.all.1.2; have hc' := hw'.all.2.1; have hf' := hw'.all.2.2; unfold Oper.quietAt; go_simp; first | done | exact K.vint (IntWalk.i64_in _ (by omega)) | rfl | exact ⟨rfl, rfl⟩
      simp only [Act.put, List.setIfInBounds_toArray, List.set]
      refine wpQuiet_nil ?_
      intro w1 hx1
      obtain ⟨⟨hcw1, hfw1⟩, hc'w1, hf'w1⟩ := hx1.all
      go_wp2
      go_roundw
      case rel => exact ⟨k + 1, by omega, by go_num, Z.hide (HX.out.trans (by first | exact hx1 | exact hx1.drew))⟩
      case measure => simp [intOf]; omega
    · obtain rfl : k = xs.length := by omega
      go_wp2
      go_ret
      exact ⟨rfl, HX.out⟩
set_option maxHeartbeats 400000 in
theorem markInt64S_any (xs : List Int) (lo hi : Nat) (v : Value) (s : Int) (w : World) (hm : xs.length ≤ 1048576) (h0 : 0 ≤ s) (h1 : s ≤ 1000000000000000000) (h : K.own w lo hi v xs) :
    Calls Try.prog 26 #[v, .int .i64 s] w fun e w' => (e = .returned (.int .i64 (s + xs.length)) ∧ K.own w' lo hi v (Z.marks s xs.length)) ∧ K.Far lo hi w w' := by
  obtain ⟨o, cap, rfl, h⟩ := h
  go_enter Try.func26, Try.ntmps26
  go_wp2
  go_loopw [1, 5] (fun j i wr => ∃ k : Nat, k ≤ xs.length ∧ i = .int .i64 k ∧ j = .int .i64 (s + k) ∧ Hid (K.Far lo hi w wr) ∧
      Hid (∀ b off, o = some ⟨b, off, none⟩ → ∃ ys : List Int, ys.length = xs.length ∧ ys.take k = (Z.marks s xs.length).take k ∧ (∀ i, i < xs.length → wr.cell? ⟨b, off + i, none⟩ = some (.int .i64 (ys.getD i 0))) ∧ (∀ i, i < xs.length → wr.frozen? ⟨b, off + i, none⟩ = false))) (fun _ i _ => xs.length - (intOf i).toNat)
  case atStart => exact ⟨0, Nat.zero_le _, rfl, by simp, Z.hide (K.Far.refl _ _ _), Z.hide (fun b off ho => by
      by_cases hn : xs = []
      · subst hn; exact ⟨[], rfl, rfl, fun i hi => absurd hi (by simp), fun i hi => absurd hi (by simp)⟩
      · obtain ⟨b', off', ho', _, _, hc, hf⟩ := h hn
        rw [ho'] at ho
        obtain ⟨rfl, rfl⟩ : b' = b ∧ off' = off := by simpa using ho
        exact ⟨xs, rfl, rfl, hc, hf⟩)⟩
  case round =>
    obtain ⟨k, hk, rfl, rfl, HX, HY⟩ := hrel
    by_cases hlt : k < xs.length
    · obtain ⟨b, off, rfl, hb1, hb2, _, _⟩ := h (by intro h0; simp [h0] at hlt)
      obtain ⟨ys, hy1, hy2, hc, hf⟩ := HY.out b off rfl
      have hck := hc k hlt
      have hfk := hf k hlt
      have HS := Z.hide (K.row_set (x := s + k) hy1 hlt hc)
      have HT := Z.hide (Z.take_set_eq (Z.marks s xs.length) ys k (by rw [hy1, Z.marks_length]) (by rw [Z.marks_length]; exact hlt) hy2)
      have HL := Z.hide hy1
      have HF := Z.hide hf
      have HB := Z.hide (And.intro hb1 hb2)
      clear hc hf hy1 hy2 h hb1 hb2
      generalize ys.getD k 0 = y at *
      go_wp2
      go_roundw
      case rel => exact ⟨k + 1, by omega, by go_num, by go_num, Z.hide (HX.out.setCell HB.out.1 HB.out.2 _), Z.hide (fun b' off' ho => by
          obtain ⟨rfl, rfl⟩ : b = b' ∧ off = off' := by simpa using ho
          exact ⟨ys.set k (s + k), by simpa using HL.out, by have := HT.out; rwa [Z.marks_get _ _ _ hlt] at this, HS.out, fun i hi => by rw [World.frozen?_setCell]; exact HF.out i hi⟩)⟩
      case measure => simp [intOf]; omega
    · obtain rfl : k = xs.length := by omega
      have HO : Hid (K.own wr lo hi (.slice o xs.length cap) (Z.marks s xs.length)) := by
        refine ⟨o, cap, by rw [Z.marks_length], fun hn => ?_⟩
        have hn' : xs ≠ [] := by intro h0; subst h0; exact hn rfl
        obtain ⟨b, off, rfl, hb1, hb2, _, _⟩ := h hn'
        obtain ⟨ys, hy1, hy2, hc, hf⟩ := HY.out b off rfl
        obtain rfl : ys = Z.marks s xs.length := by
          rw [← List.take_length (l := ys), hy1, hy2, List.take_of_length_le (by rw [Z.marks_length]; exact Nat.le_refl _)]
        exact ⟨b, off, rfl, hb1, hb2, by rw [Z.marks_length]; exact hc, by rw [Z.marks_length]; exact hf⟩
      clear h
      go_wp2
      go_ret
      exact ⟨⟨rfl, HO.out⟩, HX.out⟩
set_option maxHeartbeats 400000 in
theorem heldInt64S_any (n : Nat) (lo hi : Nat) (v : Value) (s : Int) (w : World) (hm : n ≤ 1048576) (h0 : 0 ≤ s) (h1 : s ≤ 1000000000000000000) (h : K.ints w lo hi v (Z.marks s n)) :
    Calls Try.prog 27 #[v, .int .i64 s] w fun e w' => e = .returned (.int .i64 (s + n)) ∧ w = w' := by
  obtain ⟨o, cap, rfl, h⟩ := h
  rw [Z.marks_length]
  go_enter Try.func27, Try.ntmps27
  go_wp2
  go_loop [1, 5] (fun j i => ∃ k : Nat, k ≤ n ∧ i = .int .i64 k ∧ j = .int .i64 (s + k)) (fun _ i => n - (intOf i).toNat)
  case atStart => exact ⟨0, Nat.zero_le _, rfl, by simp⟩
  case round =>
    obtain ⟨k, hk, rfl, rfl⟩ := hrel
    by_cases hlt : k < n
    · obtain ⟨b, off, rfl, _, _, hc⟩ := h (by intro h0; have := congrArg List.length h0; rw [Z.marks_length] at this; simp at this; omega)
      have hck := hc k (by rw [Z.marks_length]; exact hlt)
      rw [Z.marks_get _ _ _ hlt] at hck
      clear hc h
      go_wp2
      go_round
      case rel => exact ⟨k + 1, by omega, by go_num, by go_num⟩
      case measure => simp [intOf]; omega
    · obtain rfl : k = n := by omega
      clear h
      go_wp2
      go_ret
      exact ⟨rfl, rfl⟩
end Go.Proofs.Ytphlppklhpaljaa
