/-
  LISTS compared, both sides.
-/
import Derived.Test.YtphlppklhpaljaaUnits2
import Derived.Test.YtphlppklhpaljaaMulF3
set_option linter.unusedVariables false
namespace Go.Proofs.Ytphlppklhpaljaa
open Go.RowKit
set_option maxHeartbeats 1600000 in
theorem l01Same_any (xs ys : List Int) {lo hi lo' hi' : Nat} {v v' : Value} (w : World) (hm : xs.length ≤ 1048576) (hm' : ys.length ≤ 1048576) (h : K.ints w lo hi v xs) (h' : K.ints w lo' hi' v' ys) :
    Calls Try.prog 191 #[v, v'] w fun e w' => e = .returned (.bool (xs == ys)) ∧ K.Ext w w' := by
  have g1 := h
  obtain ⟨o, cap, rfl, _⟩ := g1
  have g2 := h'
  obtain ⟨o', cap', rfl, _⟩ := g2
  by_cases hl : xs.length = ys.length
  · have HH := Z.hide h
    have HH' := Z.hide h'
    obtain ⟨n, hn⟩ : ∃ n, n = xs.length := ⟨_, rfl⟩
    have hn' : n = ys.length := by omega
    have HN := Z.hide hn
    have HN' := Z.hide hn'
    rw [← hn, ← hn']
    rw [← hn] at hm
    clear h h' hl hn hn' hm'
    go_enter Try.func191, Try.ntmps191
    go_wp2
    go_loopw [5] (fun i wr => ∃ k : Nat, k ≤ n ∧ i = .int .i64 k ∧ Hid (xs.take k = ys.take k) ∧ Hid (K.Ext w wr)) (fun i _ => n - (intOf i).toNat)
    case atStart => exact ⟨0, Nat.zero_le _, rfl, Z.hide rfl, Z.hide (K.Ext.refl _)⟩
    case round =>
      obtain ⟨k, hk, rfl, HT, HX⟩ := hrel
      by_cases hlt : k < n
      · obtain ⟨b, off, ho, _, _, hc⟩ := K.ints_at (n := xs.length) (c := cap) (o := o) (by have h_ := HH.out; exact h_) (by rw [← HN.out]; omega)
        obtain ⟨b', off', ho', _, _, hc'⟩ := K.ints_at (n := ys.length) (c := cap') (o := o') (by have h_ := HH'.out; exact h_) (by rw [← HN'.out]; omega)
        subst ho
        subst ho'
        have hck := HX.out.cell_of (hc k (by rw [← HN.out]; exact hlt))
        have hck' := HX.out.cell_of (hc' k (by rw [← HN'.out]; exact hlt))
        have i0 : (0 : Int) ≤ (k : Int) := Int.natCast_nonneg k
        have i1 : (k : Int) < (n : Int) := by omega
        have HS : Hid (xs.getD k 0 = ys.getD k 0 → xs.take (k + 1) = ys.take (k + 1)) := Z.hide (fun he => by rw [Z.take_succ_get xs k (by rw [← HN.out]; exact hlt), Z.take_succ_get ys k (by rw [← HN'.out]; exact hlt), HT.out, he])
        have HBd : Hid (¬ xs.getD k 0 = ys.getD k 0 → (xs == ys) = false) := Z.hide (fun he => by rw [beq_eq_false_iff_ne]; intro h0; exact he (by rw [h0]))
        clear hc hc'
        generalize xs.getD k 0 = x at *
        generalize ys.getD k 0 = y at *
        by_cases hxy : x = y
        · have HS2 := Z.hide (HS.out hxy)
          subst hxy
          go_wp2_with fail
          refine K.wp_region_ext (by kernel_rfl) (by kernel_rfl) ?_
          apply K.qcons
          · rfl
          · intro w' hw'; have hc := hw'.all.1.1; have hf := hw'.all.1.2; have hc' := hw'.all.2.1; have hf' := hw'.all.2.2; unfold Oper.quietAt; go_simp; first | done | rfl | exact ⟨rfl, rfl⟩
          simp only [Act.put, List.setIfInBounds_toArray, List.set]
          apply K.qcons
          · rfl
          · intro w' hw'; have hc := hw'.all.1.1; have hf := hw'.all.1.2; have hc' := hw'.all.2.1; have hf' := hw'.all.2.2; unfold Oper.quietAt; go_simp; first | done | rfl | exact ⟨rfl, rfl⟩
          simp only [Act.put, List.setIfInBounds_toArray, List.set]
          apply K.qcons
          · rfl
          · intro w' hw'; have hc := hw'.all.1.1; have hf := hw'.all.1.2; have hc' := hw'.all.2.1; have hf' := hw'.all.2.2; unfold Oper.quietAt; go_simp; first | done | rfl | exact ⟨rfl, rfl⟩
          simp only [Act.put, List.setIfInBounds_toArray, List.set]
          apply K.qcons
          · rfl
          · intro w' hw'; have hc := hw'.all.1.1; have hf := hw'.all.1.2; have hc' := hw'.all.2.1; have hf' := hw'.all.2.2; unfold Oper.quietAt; go_simp; first | done | rfl | exact ⟨rfl, rfl⟩
          simp only [Act.put, List.setIfInBounds_toArray, List.set]
          apply K.qcons
          · rfl
          · intro w' hw'; have hc := hw'.all.1.1; have hf := hw'.all.1.2; have hc' := hw'.all.2.1; have hf' := hw'.all.2.2; unfold Oper.quietAt; go_simp; first | done | rfl | exact ⟨rfl, rfl⟩
          simp only [Act.put, List.setIfInBounds_toArray, List.set]
          apply K.qcons
          · rfl
          · intro w' hw'; have hc := hw'.all.1.1; have hf := hw'.all.1.2; have hc' := hw'.all.2.1; have hf' := hw'.all.2.2; unfold Oper.quietAt; go_simp; first | done | rfl | exact ⟨rfl, rfl⟩
          simp only [Act.put, List.setIfInBounds_toArray, List.set]
          apply K.qcons
          · rfl
          · intro w' hw'; have hc := hw'.all.1.1; have hf := hw'.all.1.2; have hc' := hw'.all.2.1; have hf' := hw'.all.2.2; unfold Oper.quietAt; go_simp; first | done | rfl | exact ⟨rfl, rfl⟩
          simp only [Act.put, List.setIfInBounds_toArray, List.set]
          apply K.qcons
          · rfl
          · intro w' hw'; have hc := hw'.all.1.1; have hf := hw'.all.1.2; have hc' := hw'.all.2.1; have hf' := hw'.all.2.2; unfold Oper.quietAt; go_simp; first | done | rfl | exact ⟨rfl, rfl⟩
          simp only [Act.put, List.setIfInBounds_toArray, List.set]
          apply K.qcons
          · rfl
          · intro w' hw'; have hc := hw'.all.1.1; have hf := hw'.all.1.2; have hc' := hw'.all.2.1; have hf' := hw'.all.2.2; unfold Oper.quietAt; go_simp; first | done | exact K.vint (IntWalk.i64_in _ (by omega)) | rfl | exact ⟨rfl, rfl⟩
          simp only [Act.put, List.setIfInBounds_toArray, List.set]
          refine wpQuiet_nil ?_
          intro w1 hx1
          obtain ⟨⟨hcw1, hfw1⟩, hc'w1, hf'w1⟩ := hx1.all
          go_wp2
          go_roundw
          case rel => exact ⟨k + 1, by omega, by go_num, HS2, Z.hide (HX.out.trans (by first | exact hx1 | exact hx1.drew))⟩
          case measure => simp [intOf]; omega
        · have HF := Z.hide (HBd.out hxy)
          have hq : (x == y) = false := by simpa using hxy
          have hq2 : (x != y) = true := by simpa using hxy
          go_wp2_with fail
          refine K.wp_region_ext (by kernel_rfl) (by kernel_rfl) ?_
          apply K.qcons
          · rfl
          · intro w' hw'; have hc := hw'.all.1.1; have hf := hw'.all.1.2; have hc' := hw'.all.2.1; have hf' := hw'.all.2.2; unfold Oper.quietAt; go_simp; first | done | rfl | exact ⟨rfl, rfl⟩
          simp only [Act.put, List.setIfInBounds_toArray, List.set]
          apply K.qcons
          · rfl
          · intro w' hw'; have hc := hw'.all.1.1; have hf := hw'.all.1.2; have hc' := hw'.all.2.1; have hf' := hw'.all.2.2; unfold Oper.quietAt; go_simp; first | done | rfl | exact ⟨rfl, rfl⟩
          simp only [Act.put, List.setIfInBounds_toArray, List.set]
          apply K.qcons
          · rfl
          · intro w' hw'; have hc := hw'.all.1.1; have hf := hw'.all.1.2; have hc' := hw'.all.2.1; have hf' := hw'.all.2.2; unfold Oper.quietAt; go_simp; first | done | rfl | exact ⟨rfl, rfl⟩
          simp only [Act.put, List.setIfInBounds_toArray, List.set]
          apply K.qcons
          · rfl
          · intro w' hw'; have hc := hw'.all.1.1; have hf := hw'.all.1.2; have hc' := hw'.all.2.1; have hf' := hw'.all.2.2; unfold Oper.quietAt; go_simp; first | done | rfl | exact ⟨rfl, rfl⟩
          simp only [Act.put, List.setIfInBounds_toArray, List.set]
          apply K.qcons
          · rfl
          · intro w' hw'; have hc := hw'.all.1.1; have hf := hw'.all.1.2; have hc' := hw'.all.2.1; have hf' := hw'.all.2.2; unfold Oper.quietAt; go_simp; first | done | rfl | exact ⟨rfl, rfl⟩
          simp only [Act.put, List.setIfInBounds_toArray, List.set]
          apply K.qcons
          · rfl
          · intro w' hw'; have hc := hw'.all.1.1; have hf := hw'.all.1.2; have hc' := hw'.all.2.1; have hf' := hw'.all.2.2; unfold Oper.quietAt; go_simp; first | done | rfl | exact ⟨rfl, rfl⟩
          simp only [Act.put, List.setIfInBounds_toArray, List.set]
          apply K.qcons
          · rfl
          · intro w' hw'; have hc := hw'.all.1.1; have hf := hw'.all.1.2; have hc' := hw'.all.2.1; have hf' := hw'.all.2.2; unfold Oper.quietAt; go_simp; first | done | rfl | exact ⟨rfl, rfl⟩
          simp only [Act.put, List.setIfInBounds_toArray, List.set]
          apply K.qcons
          · rfl
          · intro w' hw'; have hc := hw'.all.1.1; have hf := hw'.all.1.2; have hc' := hw'.all.2.1; have hf' := hw'.all.2.2; unfold Oper.quietAt; go_simp; first | done | rfl | exact ⟨rfl, rfl⟩
          simp only [Act.put, List.setIfInBounds_toArray, List.set]
          apply K.qcons
          · rfl
          · intro w' hw'; have hc := hw'.all.1.1; have hf := hw'.all.1.2; have hc' := hw'.all.2.1; have hf' := hw'.all.2.2; unfold Oper.quietAt; go_simp; first | done | exact K.vint (IntWalk.i64_in _ (by omega)) | rfl | exact ⟨rfl, rfl⟩
          simp only [Act.put, List.setIfInBounds_toArray, List.set]
          refine wpQuiet_nil ?_
          intro w1 hx1
          obtain ⟨⟨hcw1, hfw1⟩, hc'w1, hf'w1⟩ := hx1.all
          go_wp2
          go_ret
          exact ⟨K.rb (by rw [HF.out]), HX.out.trans (by first | exact hx1 | exact hx1.drew)⟩
      · obtain rfl : k = n := by omega
        have HF : Hid ((xs == ys) = true) := Z.hide (by
          have h_ := HT.out
          rw [HN.out, List.take_length, ← HN.out, HN'.out, List.take_length] at h_
          rw [h_]; simp)
        go_wp2
        go_ret
        exact ⟨K.rb (by rw [HF.out]), HX.out⟩
  · have HF : Hid ((xs == ys) = false) := Z.hide (by rw [beq_eq_false_iff_ne]; intro h0; exact hl (by rw [h0]))
    have hq : ((xs.length : Int) == (ys.length : Int)) = false := by simp; omega
    have hq2 : ((xs.length : Int) != (ys.length : Int)) = true := by simp; omega
    have hq3 : (xs.length == ys.length) = false := by simpa using hl
    go_enter Try.func191, Try.ntmps191
    go_wp2
    go_ret
    exact ⟨K.rb (by rw [HF.out]), K.Ext.refl _⟩
set_option maxHeartbeats 1600000 in
theorem Equal_any (xs ys : List Int) {lo hi lo' hi' : Nat} {v v' : Value} (w : World) (hm : xs.length ≤ 1048576) (hm' : ys.length ≤ 1048576) (h : K.ints w lo hi v xs) (h' : K.ints w lo' hi' v' ys) :
    Calls Try.prog 151 #[v, v'] w fun e w' => e = .returned (.bool (xs == ys)) ∧ K.Ext w w' := by
  have g1 := h
  obtain ⟨o, cap, rfl, _⟩ := g1
  have g2 := h'
  obtain ⟨o', cap', rfl, _⟩ := g2
  by_cases hl : xs.length = ys.length
  · have HH := Z.hide h
    have HH' := Z.hide h'
    obtain ⟨n, hn⟩ : ∃ n, n = xs.length := ⟨_, rfl⟩
    have hn' : n = ys.length := by omega
    have HN := Z.hide hn
    have HN' := Z.hide hn'
    rw [← hn, ← hn']
    rw [← hn] at hm
    clear h h' hl hn hn' hm'
    go_enter Try.func151, Try.ntmps151
    go_wp2
    go_loopw [13] (fun i wr => ∃ k : Nat, k ≤ n ∧ i = .int .i64 k ∧ Hid (xs.take k = ys.take k) ∧ Hid (K.Ext w wr)) (fun i _ => n - (intOf i).toNat)
    case atStart => exact ⟨0, Nat.zero_le _, rfl, Z.hide rfl, Z.hide (K.Ext.refl _)⟩
    case round =>
      obtain ⟨k, hk, rfl, HT, HX⟩ := hrel
      by_cases hlt : k < n
      · obtain ⟨b, off, ho, _, _, hc⟩ := K.ints_at (n := xs.length) (c := cap) (o := o) (by have h_ := HH.out; exact h_) (by rw [← HN.out]; omega)
        obtain ⟨b', off', ho', _, _, hc'⟩ := K.ints_at (n := ys.length) (c := cap') (o := o') (by have h_ := HH'.out; exact h_) (by rw [← HN'.out]; omega)
        subst ho
        subst ho'
        have hck := HX.out.cell_of (hc k (by rw [← HN.out]; exact hlt))
        have hck' := HX.out.cell_of (hc' k (by rw [← HN'.out]; exact hlt))
        have i0 : (0 : Int) ≤ (k : Int) := Int.natCast_nonneg k
        have i1 : (k : Int) < (n : Int) := by omega
        have HS : Hid (xs.getD k 0 = ys.getD k 0 → xs.take (k + 1) = ys.take (k + 1)) := Z.hide (fun he => by rw [Z.take_succ_get xs k (by rw [← HN.out]; exact hlt), Z.take_succ_get ys k (by rw [← HN'.out]; exact hlt), HT.out, he])
        have HBd : Hid (¬ xs.getD k 0 = ys.getD k 0 → (xs == ys) = false) := Z.hide (fun he => by rw [beq_eq_false_iff_ne]; intro h0; exact he (by rw [h0]))
        clear hc hc'
        generalize xs.getD k 0 = x at *
        generalize ys.getD k 0 = y at *
        by_cases hxy : x = y
        · have HS2 := Z.hide (HS.out hxy)
          subst hxy
          go_wp2_with fail
          refine K.wp_region_ext (by kernel_rfl) (by kernel_rfl) ?_
          apply K.qcons
          · rfl
          · intro w' hw'; have hc := hw'.all.1.1; have hf := hw'.all.1.2; have hc' := hw'.all.2.1; have hf' := hw'.all.2.2; unfold Oper.quietAt; go_simp; first | done | rfl | exact ⟨rfl, rfl⟩
          simp only [Act.put, List.setIfInBounds_toArray, List.set]
          apply K.qcons
          · rfl
          · intro w' hw'; have hc := hw'.all.1.1; have hf := hw'.all.1.2; have hc' := hw'.all.2.1; have hf' := hw'.all.2.2; unfold Oper.quietAt; go_simp; first | done | rfl | exact ⟨rfl, rfl⟩
          simp only [Act.put, List.setIfInBounds_toArray, List.set]
          apply K.qcons
          · rfl
          · intro w' hw'; have hc := hw'.all.1.1; have hf := hw'.all.1.2; have hc' := hw'.all.2.1; have hf' := hw'.all.2.2; unfold Oper.quietAt; go_simp; first | done | rfl | exact ⟨rfl, rfl⟩
          simp only [Act.put, List.setIfInBounds_toArray, List.set]
          apply K.qcons
          · rfl
          · intro w' hw'; have hc := hw'.all.1.1; have hf := hw'.all.1.2; have hc' := hw'.all.2.1; have hf' := hw'.all.2.2; unfold Oper.quietAt; go_simp; first | done | rfl | exact ⟨rfl, rfl⟩
          simp only [Act.put, List.setIfInBounds_toArray, List.set]
          apply K.qcons
          · rfl
          · intro w' hw'; have hc := hw'.all.1.1; have hf := hw'.all.1.2; have hc' := hw'.all.2.1; have hf' := hw'.all.2.2; unfold Oper.quietAt; go_simp; first | done | rfl | exact ⟨rfl, rfl⟩
          simp only [Act.put, List.setIfInBounds_toArray, List.set]
          apply K.qcons
          · rfl
          · intro w' hw'; have hc := hw'.all.1.1; have hf := hw'.all.1.2; have hc' := hw'.all.2.1; have hf' := hw'.all.2.2; unfold Oper.quietAt; go_simp; first | done | rfl | exact ⟨rfl, rfl⟩
          simp only [Act.put, List.setIfInBounds_toArray, List.set]
          apply K.qcons
          · rfl
          · intro w' hw'; have hc := hw'.all.1.1; have hf := hw'.all.1.2; have hc' := hw'.all.2.1; have hf' := hw'.all.2.2; unfold Oper.quietAt; go_simp; first | done | rfl | exact ⟨rfl, rfl⟩
          simp only [Act.put, List.setIfInBounds_toArray, List.set]
          apply K.qcons
          · rfl
          · intro w' hw'; have hc := hw'.all.1.1; have hf := hw'.all.1.2; have hc' := hw'.all.2.1; have hf' := hw'.all.2.2; unfold Oper.quietAt; go_simp; first | done | rfl | exact ⟨rfl, rfl⟩
          simp only [Act.put, List.setIfInBounds_toArray, List.set]
          apply K.qcons
          · rfl
          · intro w' hw'; have hc := hw'.all.1.1; have hf := hw'.all.1.2; have hc' := hw'.all.2.1; have hf' := hw'.all.2.2; unfold Oper.quietAt; go_simp; first | done | exact K.vint (IntWalk.i64_in _ (by omega)) | rfl | exact ⟨rfl, rfl⟩
          simp only [Act.put, List.setIfInBounds_toArray, List.set]
          refine wpQuiet_nil ?_
          intro w1 hx1
          obtain ⟨⟨hcw1, hfw1⟩, hc'w1, hf'w1⟩ := hx1.all
          go_wp2
          go_roundw
          case rel => exact ⟨k + 1, by omega, by go_num, HS2, Z.hide (HX.out.trans (by first | exact hx1 | exact hx1.drew))⟩
          case measure => simp [intOf]; omega
        · have HF := Z.hide (HBd.out hxy)
          have hq : (x == y) = false := by simpa using hxy
          have hq2 : (x != y) = true := by simpa using hxy
          go_wp2_with fail
          refine K.wp_region_ext (by kernel_rfl) (by kernel_rfl) ?_
          apply K.qcons
          · rfl
          · intro w' hw'; have hc := hw'.all.1.1; have hf := hw'.all.1.2; have hc' := hw'.all.2.1; have hf' := hw'.all.2.2; unfold Oper.quietAt; go_simp; first | done | rfl | exact ⟨rfl, rfl⟩
          simp only [Act.put, List.setIfInBounds_toArray, List.set]
          apply K.qcons
          · rfl
          · intro w' hw'; have hc := hw'.all.1.1; have hf := hw'.all.1.2; have hc' := hw'.all.2.1; have hf' := hw'.all.2.2; unfold Oper.quietAt; go_simp; first | done | rfl | exact ⟨rfl, rfl⟩
          simp only [Act.put, List.setIfInBounds_toArray, List.set]
          apply K.qcons
          · rfl
          · intro w' hw'; have hc := hw'.all.1.1; have hf := hw'.all.1.2; have hc' := hw'.all.2.1; have hf' := hw'.all.2.2; unfold Oper.quietAt; go_simp; first | done | rfl | exact ⟨rfl, rfl⟩
          simp only [Act.put, List.setIfInBounds_toArray, List.set]
          apply K.qcons
          · rfl
          · intro w' hw'; have hc := hw'.all.1.1; have hf := hw'.all.1.2; have hc' := hw'.all.2.1; have hf' := hw'.all.2.2; unfold Oper.quietAt; go_simp; first | done | rfl | exact ⟨rfl, rfl⟩
          simp only [Act.put, List.setIfInBounds_toArray, List.set]
          apply K.qcons
          · rfl
          · intro w' hw'; have hc := hw'.all.1.1; have hf := hw'.all.1.2; have hc' := hw'.all.2.1; have hf' := hw'.all.2.2; unfold Oper.quietAt; go_simp; first | done | rfl | exact ⟨rfl, rfl⟩
          simp only [Act.put, List.setIfInBounds_toArray, List.set]
          apply K.qcons
          · rfl
          · intro w' hw'; have hc := hw'.all.1.1; have hf := hw'.all.1.2; have hc' := hw'.all.2.1; have hf' := hw'.all.2.2; unfold Oper.quietAt; go_simp; first | done | rfl | exact ⟨rfl, rfl⟩
          simp only [Act.put, List.setIfInBounds_toArray, List.set]
          apply K.qcons
          · rfl
          · intro w' hw'; have hc := hw'.all.1.1; have hf := hw'.all.1.2; have hc' := hw'.all.2.1; have hf' := hw'.all.2.2; unfold Oper.quietAt; go_simp; first | done | rfl | exact ⟨rfl, rfl⟩
          simp only [Act.put, List.setIfInBounds_toArray, List.set]
          apply K.qcons
          · rfl
          · intro w' hw'; have hc := hw'.all.1.1; have hf := hw'.all.1.2; have hc' := hw'.all.2.1; have hf' := hw'.all.2.2; unfold Oper.quietAt; go_simp; first | done | rfl | exact ⟨rfl, rfl⟩
          simp only [Act.put, List.setIfInBounds_toArray, List.set]
          apply K.qcons
          · rfl
          · intro w' hw'; have hc := hw'.all.1.1; have hf := hw'.all.1.2; have hc' := hw'.all.2.1; have hf' := hw'.all.2.2; unfold Oper.quietAt; go_simp; first | done | exact K.vint (IntWalk.i64_in _ (by omega)) | rfl | exact ⟨rfl, rfl⟩
          simp only [Act.put, List.setIfInBounds_toArray, List.set]
          refine wpQuiet_nil ?_
          intro w1 hx1
          obtain ⟨⟨hcw1, hfw1⟩, hc'w1, hf'w1⟩ := hx1.all
          go_wp2
          go_ret
          exact ⟨K.rb (by rw [HF.out]), HX.out.trans (by first | exact hx1 | exact hx1.drew)⟩
      · obtain rfl : k = n := by omega
        have HF : Hid ((xs == ys) = true) := Z.hide (by
          have h_ := HT.out
          rw [HN.out, List.take_length, ← HN.out, HN'.out, List.take_length] at h_
          rw [h_]; simp)
        go_wp2
        go_ret
        exact ⟨K.rb (by rw [HF.out]), HX.out⟩
  · have HF : Hid ((xs == ys) = false) := Z.hide (by rw [beq_eq_false_iff_ne]; intro h0; exact hl (by rw [h0]))
    have hq : ((xs.length : Int) == (ys.length : Int)) = false := by simp; omega
    have hq2 : ((xs.length : Int) != (ys.length : Int)) = true := by simp; omega
    have hq3 : (xs.length == ys.length) = false := by simpa using hl
    go_enter Try.func151, Try.ntmps151
    go_wp2
    go_ret
    exact ⟨K.rb (by rw [HF.out]), K.Ext.refl _⟩
end Go.Proofs.Ytphlppklhpaljaa
