/-
  SLICES OF SLICES of int64: how they read; what the laws do with them.
-/
import Derived.Test.YtphlppklhpaljaaSlices
import Derived.Test.YtphlppklhpaljaaFm2
import Derived.Test.YtphlppklhpaljaaBase
import Derived.Test.YtphlppklhpaljaaMake
set_option linter.unusedVariables false
namespace Go.K
open Go.RowKit
/-- The value reads as this list of lists; all cells lie in blocks from lo to hi. -/
def rows (w : World) (lo hi : Nat) (v : Value) (xss : List (List Int)) : Prop :=
  ∃ (o : Option Addr) (cap : Nat) (us : List Value), v = .slice o xss.length cap ∧ us.length = xss.length ∧ (xss ≠ [] → ∃ b off, o = some ⟨b, off, none⟩ ∧ lo ≤ b ∧ b < hi ∧ ∀ i (h : i < us.length), w.cell? ⟨b, off + i, none⟩ = some us[i]) ∧ ∀ i (h : i < us.length) (h' : i < xss.length), K.ints w lo hi us[i] xss[i]
theorem rows.ext {w w' : World} {lo hi : Nat} {v : Value} {xss : List (List Int)} (h : rows w lo hi v xss) (hx : Ext w w') : rows w' lo hi v xss := by
  obtain ⟨o, cap, us, rfl, hl, h1, h2⟩ := h
  exact ⟨o, cap, us, rfl, hl, fun hn => by obtain ⟨b, off, rfl, a1, a2, a3⟩ := h1 hn; exact ⟨b, off, rfl, a1, a2, fun i h => hx.cell_of (a3 i h)⟩, fun i h h' => (h2 i h h').ext hx⟩
theorem rows.mono {w : World} {lo hi lo' hi' : Nat} {v : Value} {xss : List (List Int)} (h : rows w lo hi v xss) (k1 : lo' ≤ lo) (k2 : hi ≤ hi') : rows w lo' hi' v xss := by
  obtain ⟨o, cap, us, rfl, hl, h1, h2⟩ := h
  exact ⟨o, cap, us, rfl, hl, fun hn => by obtain ⟨b, off, rfl, a1, a2, a3⟩ := h1 hn; exact ⟨b, off, rfl, by omega, by omega, a3⟩, fun i h h' => (h2 i h h').mono k1 k2⟩
theorem rows_at {w : World} {lo hi n c : Nat} {o : Option Addr} {xss : List (List Int)} (h : rows w lo hi (.slice o n c) xss) (i : Nat) (hi' : i < xss.length) :
    ∃ b off u, o = some ⟨b, off, none⟩ ∧ lo ≤ b ∧ b < hi ∧ w.cell? ⟨b, off + i, none⟩ = some u ∧ K.ints w lo hi u (xss[i]'hi') := by
  obtain ⟨o', c', us, hv, hl, h1, h2⟩ := h
  simp only [Value.slice.injEq] at hv
  obtain ⟨rfl, _, _⟩ := hv
  obtain ⟨b, off, ho, a1, a2, a3⟩ := h1 (by intro h0; rw [h0] at hi'; simp at hi')
  exact ⟨b, off, us[i]'(by omega), ho, a1, a2, a3 i (by omega), h2 i (by omega) hi'⟩
theorem rows.alloc {w : World} {lo hi : Nat} {v : Value} {xss : List (List Int)} (h : rows w lo hi v xss) (o : Obj) : rows (w.alloc o) lo hi v xss := h.ext ((Ext.refl w).alloc o)
theorem rows.drew {w : World} {lo hi : Nat} {v : Value} {xss : List (List Int)} (h : rows w lo hi v xss) : rows w.drew lo hi v xss := h.ext (Ext.refl w).drew
end Go.K
namespace Go.Proofs.Ytphlppklhpaljaa
open Go.RowKit
set_option maxHeartbeats 1600000 in
theorem szInt64SS_any (xss : List (List Int)) {lo hi : Nat} {p : Value} (s : Int) (w : World) (h00 : 0 ≤ s) (h01 : s ≤ 1048576) (hm : (xss.length : Int) ≤ 9223372036854775807) (hq : ∀ xs ∈ xss, ((xs : List Int).length : Int) ≤ 9223372036854775807) (h : K.rows w lo hi p xss) :
    Calls Try.prog 16 #[p, .int .i64 s] w fun e w' => (∃ r : Int, e = .returned (.int .i64 r) ∧ r ≤ 1048576 ∧ (r < 0 ∨ (xss.length ≤ 1048576 ∧ ∀ xs ∈ xss, (xs : List Int).length ≤ 1048576))) ∧ w = w' := by
  have h1 := h
  obtain ⟨o, cap, us, rfl, _⟩ := h1
  have HH := Z.hide h
  have HQ := Z.hide hq
  clear h hq
  by_cases h2 : s - (xss.length : Int) < 0
  · go_enter Try.func16, Try.ntmps16
    go_wp2
    go_ret
    exact ⟨⟨_, rfl, by omega, .inl (by omega)⟩, rfl⟩
  · go_enter Try.func16, Try.ntmps16
    go_wp2
    go_loop [1, 5] (fun l i => ∃ (k : Nat) (t : Int), k ≤ xss.length ∧ i = .int .i64 k ∧ l = .int .i64 t ∧ 0 ≤ t ∧ t ≤ 1048576 ∧ Hid (∀ j (hj : j < xss.length), j < k → (xss[j]'hj).length ≤ 1048576)) (fun _ i => xss.length - (intOf i).toNat)
    case atStart => exact ⟨0, _, Nat.zero_le _, rfl, rfl, by omega, by omega, Z.hide (fun j _ hj => by omega)⟩
    case round =>
      obtain ⟨k, t, hk, rfl, rfl, t0, t1, HA⟩ := hrel
      by_cases hlt : k < xss.length
      · obtain ⟨b, off, u, rfl, _, _, hc, hu⟩ := K.rows_at HH.out k hlt
        have hxs := HQ.out _ (List.getElem_mem hlt)
        have i0 : (0 : Int) ≤ (k : Int) := Int.natCast_nonneg k
        have i1 : (k : Int) < (xss.length : Int) := by omega
        obtain ⟨xs, hx⟩ : ∃ xs, xs = xss[k]'hlt := ⟨_, rfl⟩
        rw [← hx] at hxs hu
        have HX := Z.hide hx
        clear hx
        have hu2 := hu
        obtain ⟨o2, c2, rfl, _⟩ := hu2
        by_cases hz : t - (xs.length : Int) < 0
        · have HS : Hid (∀ w' : World, K.ints w' lo hi (.slice o2 xs.length c2) xs → Calls Try.prog 103 #[.slice o2 xs.length c2, .int .i64 t] w' fun e w'' => e = .returned (.int .i64 (-1)) ∧ w' = w'') := Z.hide (fun w' hh => by have h_ := szInt64S_any xs lo hi _ t w' (by omega) (by omega) hh hxs; rwa [if_pos hz] at h_)
          go_wp2_with (go_at_call 103; refine K.call (by with_reducible rfl) (by with_reducible rfl) (HS.out _ hu) ?_; rintro e w' ⟨rfl, rfl⟩)
          go_ret
          exact ⟨⟨_, rfl, by decide, .inl (by decide)⟩, rfl⟩
        · have HS : Hid (∀ w' : World, K.ints w' lo hi (.slice o2 xs.length c2) xs → Calls Try.prog 103 #[.slice o2 xs.length c2, .int .i64 t] w' fun e w'' => e = .returned (.int .i64 (t - xs.length)) ∧ w' = w'') := Z.hide (fun w' hh => by have h_ := szInt64S_any xs lo hi _ t w' (by omega) (by omega) hh hxs; rwa [if_neg hz] at h_)
          have hz' : 0 ≤ t - (xs.length : Int) := by omega
          have hxl : xs.length ≤ 1048576 := by omega
          go_wp2_with (go_at_call 103; refine K.call (by with_reducible rfl) (by with_reducible rfl) (HS.out _ hu) ?_; rintro e w' ⟨rfl, rfl⟩)
          go_round
          case rel => exact ⟨k + 1, t - (xs.length : Int), by omega, by go_num, rfl, by omega, by omega, Z.hide (fun j hj hjk => by
              by_cases hjk' : j < k
              · exact HA.out j hj hjk'
              · obtain rfl : j = k := by omega
                rw [← HX.out]; exact hxl)⟩
          case measure => simp [intOf]; omega
      · obtain rfl : k = xss.length := by omega
        go_wp2
        go_ret
        exact ⟨⟨_, rfl, by omega, .inr ⟨by omega, fun xs hxs => by
          obtain ⟨j, hj, rfl⟩ := List.getElem_of_mem hxs
          exact HA.out j hj hj⟩⟩, rfl⟩
set_option maxHeartbeats 1600000 in
theorem eqInt64SS_same (xss : List (List Int)) {lo hi lo' hi' : Nat} {v v' : Value} (w : World) (hm : xss.length ≤ 1048576) (hq : ∀ xs ∈ xss, (xs : List Int).length ≤ 1048576) (h : K.rows w lo hi v xss) (h' : K.rows w lo' hi' v' xss) :
    Calls Try.prog 23 #[v, v'] w fun e w' => e = .returned (.bool true) ∧ K.Ext w w' := by
  have g1 := h
  obtain ⟨o, cap, _, rfl, _⟩ := g1
  have g2 := h'
  obtain ⟨o', cap', _, rfl, _⟩ := g2
  have HH := Z.hide h
  have HH' := Z.hide h'
  have HQ := Z.hide hq
  clear h h' hq
  go_enter Try.func23, Try.ntmps23
  go_wp2
  go_loopw [5] (fun i wr => ∃ k : Nat, k ≤ xss.length ∧ i = .int .i64 k ∧ Hid (K.Ext w wr)) (fun i _ => xss.length - (intOf i).toNat)
  case atStart => exact ⟨0, Nat.zero_le _, rfl, Z.hide (K.Ext.refl _)⟩
  case round =>
    obtain ⟨k, hk, rfl, HX⟩ := hrel
    by_cases hlt : k < xss.length
    · obtain ⟨b, off, u, rfl, _, _, hc, hu⟩ := K.rows_at (HH.out.ext HX.out) k hlt
      obtain ⟨b', off', u', rfl, _, _, hc', hu'⟩ := K.rows_at (HH'.out.ext HX.out) k hlt
      have hxs := HQ.out _ (List.getElem_mem hlt)
      have i0 : (0 : Int) ≤ (k : Int) := Int.natCast_nonneg k
      have i1 : (k : Int) < (xss.length : Int) := by omega
      generalize xss[k]'hlt = xs at *
      have hu2 := hu
      obtain ⟨o2, c2, rfl, _⟩ := hu2
      have hu3 := hu'
      obtain ⟨o3, c3, rfl, _⟩ := hu3
      go_wp2_with fail
      refine K.wp_region_x 10 [0, 0, 0, 1, 0, 0, 0, 1, 2, 0] [K.SP.any, K.SP.any, K.SP.any, K.SP.any, K.SP.any, K.SP.any, K.SP.any, K.SP.any, K.SP.is (.bool true)] (by kernel_rfl) (by kernel_rfl) ?_
      simp only [List.take_succ_cons, List.take_zero, List.drop_succ_cons, List.drop_zero]
      iterate 3
        apply K.x_pure
        · rfl
        · rfl
        · intro w'; go_simp; first | done | exact K.vint (IntWalk.i64_in _ (by omega)) | rfl | exact ⟨rfl, rfl⟩
        simp only [Act.put, List.setIfInBounds_toArray, List.set]
      apply K.x_held
      · rfl
      · rfl
      · intro w' hx; have hc := hx.all.1.1; have hf := hx.all.1.2; have hc' := hx.all.2.1; have hf' := hx.all.2.2; go_simp; first | done | rfl | exact ⟨rfl, rfl⟩
      simp only [Act.put, List.setIfInBounds_toArray, List.set]
      iterate 3
        apply K.x_pure
        · rfl
        · rfl
        · intro w'; go_simp; first | done | exact K.vint (IntWalk.i64_in _ (by omega)) | rfl | exact ⟨rfl, rfl⟩
        simp only [Act.put, List.setIfInBounds_toArray, List.set]
      apply K.x_held
      · rfl
      · rfl
      · intro w' hx; have hc := hx.all.1.1; have hf := hx.all.1.2; have hc' := hx.all.2.1; have hf' := hx.all.2.2; go_simp; first | done | rfl | exact ⟨rfl, rfl⟩
      simp only [Act.put, List.setIfInBounds_toArray, List.set]
      apply K.x_call_is
      · rfl
      · rfl
      · rfl
      · intro w'; go_simp; first | done | rfl | exact ⟨rfl, rfl⟩
      · intro w' hx hp; have hc := hx.all.1.1; have hf := hx.all.1.2; have hc' := hx.all.2.1; have hf' := hx.all.2.2; exact eqInt64S_same xs _ _ _ _ _ _ _ hxs (K.ints.ext (K.ints.drew hu) hx) (K.ints.ext (K.ints.drew hu') hx)
      intro w_8_ hx_8_
      simp only [Act.put, List.setIfInBounds_toArray, List.set]
      apply K.x_pure
      · rfl
      · rfl
      · intro w'; go_simp; first | done | exact K.vint (IntWalk.i64_in _ (by omega)) | rfl | exact ⟨rfl, rfl⟩
      simp only [Act.put, List.setIfInBounds_toArray, List.set]
      apply K.x_done
      intro w1 h_x
      have hx1 := hx_8_.trans h_x
      clear h_x hx_8_
      obtain ⟨⟨hcw1, hfw1⟩, hc'w1, hf'w1⟩ := hx1.all
      refine wpList_nil ?_
      refine NoPanic.normal ?_
      go_wp2
      go_roundw
      case rel => exact ⟨k + 1, by omega, by go_num, Z.hide (K.Ext.trans HX.out (by first | exact hx1 | exact (K.Ext.refl _).drew.trans hx1))⟩
      case measure => simp [intOf]; omega
    · obtain rfl : k = xss.length := by omega
      go_wp2
      go_ret
      exact ⟨rfl, HX.out⟩
theorem info_ss : (Try.prog.info? 24).map (fun i => (i.zero, i.size, i.bytes)) = some (some (.slice none 0 0), 1, 24) := by kernel_rfl
set_option maxHeartbeats 1600000 in
theorem toInt64SS_any (xss : List (List Int)) {lo hi : Nat} {v : Value} (w : World) (hm : xss.length ≤ 1048576) (hq : ∀ xs ∈ xss, (xs : List Int).length ≤ 1048576) (h : K.rows w lo hi v xss) :
    Calls Try.prog 19 #[v] w fun e w' => (∃ v', e = .returned v' ∧ K.rows w' w.heap.size w'.heap.size v' xss) ∧ K.Ext w w' := by
  have g1 := h
  obtain ⟨o, cap, _, rfl, _⟩ := g1
  have HH := Z.hide h
  have HQ := Z.hide hq
  clear h hq
  obtain ⟨i0, hi0, hz0, hz1, hz2⟩ := info_parts info_ss
  go_enter Try.func19, Try.ntmps19
  go_wp2_with (at_make; refine wpList_make_full _ rfl _ _ 27 rfl w.heap.size 24 i0 (.slice none 0 0) 1 Try.underlying27 hi0 hz0 hz1 _ _ _ _ xss.length rfl rfl rfl rfl (by rw [hz2]; omega) (by unfold maxLen; omega) (Nat.le_refl _) ?_; intro w1 hown1 hgrow1)
  go_loopw [4] (fun i wr => ∃ k : Nat, k ≤ xss.length ∧ i = .int .i64 k ∧ Hid (∃ cs : List Value, cs.length = xss.length ∧ wr.ownsRow w.heap.size 24 1 (.slice (some ⟨w.heap.size, 0, none⟩) xss.length xss.length) xss.length cs ∧ ∀ j (hj : j < xss.length), j < k → K.ints wr (w.heap.size + 1) wr.heap.size (cs.getD j (.slice none 0 0)) (xss[j]'hj)) ∧ Hid (K.Ext w wr) ∧ w.heap.size < wr.heap.size) (fun i _ => xss.length - (intOf i).toNat)
  case atStart => exact ⟨0, Nat.zero_le _, rfl, Z.hide ⟨List.replicate xss.length (.slice none 0 0), by simp, by simpa [toList_madeCells_one, Value.cells] using hown1, fun j hj h0 => by omega⟩, Z.hide ((Below.refl _ _).grown hgrow1 (Nat.le_refl _) (fun k hk => by cases hk)), (hown1.lt _ rfl).2⟩
  case round =>
    obtain ⟨k, hk, rfl, HY, HX, lw⟩ := hrel
    clear hown1 hgrow1
    by_cases hlt : k < xss.length
    · obtain ⟨b, off, u, rfl, _, _, hc, hu⟩ := K.rows_at (HH.out.ext HX.out) k hlt
      have hxs := HQ.out _ (List.getElem_mem hlt)
      obtain ⟨cs, hl, hown, hin⟩ := HY.out
      have HO := Z.hide hown
      have HI := Z.hide hin
      have HL := Z.hide hl
      have i0 : (0 : Int) ≤ (k : Int) := Int.natCast_nonneg k
      have i1 : (k : Int) < (xss.length : Int) := by omega
      obtain ⟨xs, hx⟩ : ∃ xs, xs = xss[k]'hlt := ⟨_, rfl⟩
      rw [← hx] at hxs hu
      have HXs := Z.hide hx
      clear hown hin hl hx HY hi0 hz0 hz1 hz2
      have hu2 := hu
      obtain ⟨o2, c2, rfl, _⟩ := hu2
      go_wp2_with ((go_at_call 29; refine K.call (by with_reducible rfl) (by with_reducible rfl) (toInt64S_any xs _ _ _ _ hxs hu) ?_; rintro e w2 ⟨⟨v2, rfl, hv2⟩, hw2⟩; have HO2 := Z.hide (K.row_ext HO.out hw2); have hv3 := hv2; obtain ⟨o3, c3, rfl, _⟩ := hv3; have e0 : w2.cell? ⟨w.heap.size, k, none⟩ = some (cs[k]'(by rw [HL.out]; exact hlt)) := (by rw [HO2.out.cellAt _ (by omega)]; exact List.getElem?_eq_getElem _); have f0 := HO2.out.frozenAt k; have lw2 := hw2.size; generalize cs[k]'(by rw [HL.out]; exact hlt) = y0 at *))
      go_roundw
      case rel =>
        refine ⟨k + 1, by omega, by go_num, Z.hide ⟨cs.set k _, by simpa using HL.out, (HO2.out.stored k _).1, fun j hj hjk => ?_⟩, Z.hide (K.Ext.setCell (HX.out.trans hw2) (Nat.le_refl _) _), by simp; omega⟩
        refine K.ints.set ?_ _ (.inl (by dsimp only; omega)) _
        by_cases hjk' : j = k
        · subst hjk'
          rw [show (cs.set j _).getD j (Value.slice none 0 0) = _ from by simp [List.getD_eq_getElem?_getD, HL.out, hlt]; rfl, ← HXs.out]
          exact (K.own.ints hv2).mono (by omega) (by simp)
        · rw [show (cs.set k _).getD j (Value.slice none 0 0) = cs.getD j (Value.slice none 0 0) from by simp [List.getD_eq_getElem?_getD, List.getElem?_set, Ne.symm hjk']]
          exact ((HI.out j hj (by omega)).ext hw2).mono (Nat.le_refl _) (by simp; omega)
      case measure => simp [intOf]; omega
    · obtain rfl : k = xss.length := by omega
      obtain ⟨cs, hl, hown, hin⟩ := HY.out
      have HR : Hid (K.rows wr w.heap.size wr.heap.size (.slice (some ⟨w.heap.size, 0, none⟩) xss.length xss.length) xss) := Z.hide (⟨_, _, cs, rfl, hl, fun hn => ⟨w.heap.size, 0, rfl, Nat.le_refl _, lw, fun i hi => by rw [Nat.zero_add, hown.cellAt i (by omega)]; exact List.getElem?_eq_getElem hi⟩, fun i hi hi' => by have h_ := (hin i hi' hi').mono (lo' := w.heap.size) (by omega) (Nat.le_refl _); rwa [show cs.getD i (Value.slice none 0 0) = cs[i]'hi from by simp [List.getD_eq_getElem?_getD, hi]] at h_⟩)
      clear hown hin hl hi0 hz0 hz1 hz2
      go_wp2
      go_ret
      exact ⟨⟨_, rfl, HR.out⟩, HX.out⟩
end Go.Proofs.Ytphlppklhpaljaa
