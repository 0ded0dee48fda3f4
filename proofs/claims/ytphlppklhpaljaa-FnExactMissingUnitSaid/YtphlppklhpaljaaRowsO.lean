/-
  SLICES OF SLICES that may be written: each row in its own stretch of the heap. Marks.
-/
import Derived.Test.YtphlppklhpaljaaIntSS
set_option linter.unusedVariables false
namespace Go.Z
def total (xss : List (List Int)) : Nat := (xss.map List.length).sum
theorem total_take (xss : List (List Int)) (k : Nat) (h : k < xss.length) : total (xss.take (k + 1)) = total (xss.take k) + (xss[k]'h).length := by
  unfold total; rw [List.take_succ_eq_append_getElem h, List.map_append, List.sum_append]; rfl
theorem total_le (M : Nat) (xss : List (List Int)) (hq : ∀ xs ∈ xss, (xs : List Int).length ≤ M) (k : Nat) (hk : k ≤ xss.length) : total (xss.take k) ≤ k * M := by
  induction k with
  | zero => simp [total]
  | succ k ih =>
    have h : k < xss.length := by omega
    rw [total_take _ _ h, Nat.succ_mul]
    exact Nat.add_le_add (ih (by omega)) (hq _ (List.getElem_mem h))
theorem total_bound (xss : List (List Int)) (hm : xss.length ≤ 1048576) (hq : ∀ xs ∈ xss, (xs : List Int).length ≤ 1048576) : total xss ≤ 1099511627776 := by
  have h := total_le 1048576 xss hq xss.length (Nat.le_refl _)
  rw [List.take_length] at h
  exact Nat.le_trans h (Nat.le_trans (Nat.mul_le_mul_right _ hm) (by decide))
end Go.Z
namespace Go.K
open Go.RowKit
/-- As K.rows, the rows' cells may be written, and each row lies in a stretch of its own. -/
def rowsO (w : World) (lo hi : Nat) (v : Value) (xss : List (List Int)) : Prop :=
  ∃ (o : Option Addr) (cap : Nat) (us : List Value) (bs : Nat → Nat), v = .slice o xss.length cap ∧ us.length = xss.length ∧ lo ≤ bs 0 ∧ (∀ i, i < xss.length → bs i ≤ bs (i + 1)) ∧ bs xss.length ≤ hi ∧ (xss ≠ [] → ∃ b off, o = some ⟨b, off, none⟩ ∧ lo ≤ b ∧ b < bs 0 ∧ ∀ i (h : i < us.length), w.cell? ⟨b, off + i, none⟩ = some us[i]) ∧ ∀ i (h : i < us.length) (h' : i < xss.length), K.own w (bs i) (bs (i + 1)) us[i] xss[i]
theorem steps_le {bs : Nat → Nat} {n : Nat} (h : ∀ i, i < n → bs i ≤ bs (i + 1)) : ∀ {i j : Nat}, i ≤ j → j ≤ n → bs i ≤ bs j := by
  intro i j hij
  induction hij with
  | refl => intro _; exact Nat.le_refl _
  | step hm ih => intro hj; exact Nat.le_trans (ih (by omega)) (h _ (by omega))
theorem rowsO.rows {w : World} {lo hi : Nat} {v : Value} {xss : List (List Int)} (h : rowsO w lo hi v xss) : rows w lo hi v xss := by
  obtain ⟨o, cap, us, bs, rfl, hl, h0, hm, hh, h1, h2⟩ := h
  have z0 := fun {i} (k : i ≤ xss.length) => steps_le hm (Nat.zero_le i) k
  have z1 := fun {i} (k : i ≤ xss.length) => steps_le hm k (Nat.le_refl _)
  exact ⟨o, cap, us, rfl, hl, fun hn => by obtain ⟨b, off, rfl, a1, a2, a3⟩ := h1 hn; have := z0 (Nat.le_refl _); exact ⟨b, off, rfl, a1, by omega, a3⟩, fun i h h' => (h2 i h h').ints.mono (by have := z0 (i := i) (by omega); omega) (by have := z1 (i := i + 1) (by omega); omega)⟩
theorem rowsO.ext {w w' : World} {lo hi : Nat} {v : Value} {xss : List (List Int)} (h : rowsO w lo hi v xss) (hx : Ext w w') : rowsO w' lo hi v xss := by
  obtain ⟨o, cap, us, bs, rfl, hl, h0, hm, hh, h1, h2⟩ := h
  exact ⟨o, cap, us, bs, rfl, hl, h0, hm, hh, fun hn => by obtain ⟨b, off, rfl, a1, a2, a3⟩ := h1 hn; exact ⟨b, off, rfl, a1, a2, fun i h => hx.cell_of (a3 i h)⟩, fun i h h' => (h2 i h h').ext hx⟩
theorem rowsO.far {w w' : World} {lo hi lo' hi' : Nat} {v : Value} {xss : List (List Int)} (h : rowsO w lo hi v xss) (hf : Far lo' hi' w w') (hd : hi ≤ lo' ∨ hi' ≤ lo) : rowsO w' lo hi v xss := by
  obtain ⟨o, cap, us, bs, rfl, hl, h0, hm, hh, h1, h2⟩ := h
  have z0 := fun {i} (k : i ≤ xss.length) => steps_le hm (Nat.zero_le i) k
  have z1 := fun {i} (k : i ≤ xss.length) => steps_le hm k (Nat.le_refl _)
  exact ⟨o, cap, us, bs, rfl, hl, h0, hm, hh, fun hn => by obtain ⟨b, off, rfl, a1, a2, a3⟩ := h1 hn; have := z0 (Nat.le_refl _); exact ⟨b, off, rfl, a1, a2, fun i h => hf.cell_of (a3 i h) (by dsimp only; omega)⟩, fun i h h' => (h2 i h h').far hf (by have := z0 (i := i) (by omega); have := z1 (i := i + 1) (by omega); omega)⟩
theorem rowsO.mono {w : World} {lo hi lo' hi' : Nat} {v : Value} {xss : List (List Int)} (h : rowsO w lo hi v xss) (k1 : lo' ≤ lo) (k2 : hi ≤ hi') : rowsO w lo' hi' v xss := by
  obtain ⟨o, cap, us, bs, rfl, hl, h0, hm, hh, h1, h2⟩ := h
  exact ⟨o, cap, us, bs, rfl, hl, by omega, hm, by omega, fun hn => by obtain ⟨b, off, rfl, a1, a2, a3⟩ := h1 hn; exact ⟨b, off, rfl, by omega, a2, a3⟩, h2⟩
theorem rowsO.alloc {w : World} {lo hi : Nat} {v : Value} {xss : List (List Int)} (h : rowsO w lo hi v xss) (o : Obj) : rowsO (w.alloc o) lo hi v xss := h.ext ((Ext.refl w).alloc o)
theorem rowsO.drew {w : World} {lo hi : Nat} {v : Value} {xss : List (List Int)} (h : rowsO w lo hi v xss) : rowsO w.drew lo hi v xss := h.ext (Ext.refl w).drew
theorem rows.far {w w' : World} {lo hi lo' hi' : Nat} {v : Value} {xss : List (List Int)} (h : rows w lo hi v xss) (hf : Far lo' hi' w w') (hd : hi ≤ lo' ∨ hi' ≤ lo) : rows w' lo hi v xss := by
  obtain ⟨o, cap, us, rfl, hl, h1, h2⟩ := h
  exact ⟨o, cap, us, rfl, hl, fun hn => by obtain ⟨b, off, rfl, a1, a2, a3⟩ := h1 hn; exact ⟨b, off, rfl, a1, a2, fun i h => hf.cell_of (a3 i h) (by dsimp only; omega)⟩, fun i h h' => (h2 i h h').far hf hd⟩
end Go.K
namespace Go.Proofs.Ytphlppklhpaljaa
open Go.RowKit
set_option maxHeartbeats 1600000 in
theorem toInt64SS_own (xss : List (List Int)) {lo hi : Nat} {v : Value} (w : World) (hm : xss.length ≤ 1048576) (hq : ∀ xs ∈ xss, (xs : List Int).length ≤ 1048576) (h : K.rows w lo hi v xss) :
    Calls Try.prog 19 #[v] w fun e w' => (∃ v', e = .returned v' ∧ K.rowsO w' w.heap.size w'.heap.size v' xss) ∧ K.Ext w w' := by
  have g1 := h
  obtain ⟨o, cap, _, rfl, _⟩ := g1
  have HH := Z.hide h
  have HQ := Z.hide hq
  clear h hq
  obtain ⟨i0, hi0, hz0, hz1, hz2⟩ := info_parts info_ss
  go_enter Try.func19, Try.ntmps19
  go_wp2_with (at_make; refine wpList_make_full _ rfl _ _ 27 rfl w.heap.size 24 i0 (.slice none 0 0) 1 Try.underlying27 hi0 hz0 hz1 _ _ _ _ xss.length rfl rfl rfl rfl (by rw [hz2]; omega) (by unfold maxLen; omega) (Nat.le_refl _) ?_; intro w1 hown1 hgrow1)
  go_loopw [4] (fun i wr => ∃ k : Nat, k ≤ xss.length ∧ i = .int .i64 k ∧ Hid (∃ cs : List Value, cs.length = xss.length ∧ wr.ownsRow w.heap.size 24 1 (.slice (some ⟨w.heap.size, 0, none⟩) xss.length xss.length) xss.length cs ∧ ∃ bs : Nat → Nat, bs 0 = w.heap.size + 1 ∧ (∀ j, j < k → bs j ≤ bs (j + 1)) ∧ bs k ≤ wr.heap.size ∧ ∀ j (hj : j < xss.length), j < k → K.own wr (bs j) (bs (j + 1)) (cs.getD j (.slice none 0 0)) (xss[j]'hj)) ∧ Hid (K.Ext w wr) ∧ w.heap.size < wr.heap.size) (fun i _ => xss.length - (intOf i).toNat)
  case atStart => exact ⟨0, Nat.zero_le _, rfl, Z.hide ⟨List.replicate xss.length (.slice none 0 0), by simp, by simpa [toList_madeCells_one, Value.cells] using hown1, fun _ => w.heap.size + 1, rfl, fun j h0 => by omega, (hown1.lt _ rfl).2, fun j hj h0 => by omega⟩, Z.hide ((Below.refl _ _).grown hgrow1 (Nat.le_refl _) (fun k hk => by cases hk)), (hown1.lt _ rfl).2⟩
  case round =>
    obtain ⟨k, hk, rfl, HY, HX, lw⟩ := hrel
    clear hown1 hgrow1
    by_cases hlt : k < xss.length
    · obtain ⟨b, off, u, rfl, _, _, hc, hu⟩ := K.rows_at (HH.out.ext HX.out) k hlt
      have hxs := HQ.out _ (List.getElem_mem hlt)
      obtain ⟨cs, hl, hown, bs, hb0, hbm, hbk, hin⟩ := HY.out
      have HB := Z.hide hbm
      clear hbm
      have HO := Z.hide hown
      have HI := Z.hide hin
      have HL := Z.hide hl
      have i0 : (0 : Int) ≤ (k : Int) := Int.natCast_nonneg k
      have i1 : (k : Int) < (xss.length : Int) := by omega
      obtain ⟨xs, hx⟩ : ∃ xs, xs = xss[k]'hlt := ⟨_, rfl⟩
      rw [← hx] at hxs hu
      have HXs := Z.hide hx
      clear hown hin hl hx HY hi0 hz0 hz1 hz2
      have hu2 := hu
      obtain ⟨o2, c2, rfl, _⟩ := hu2
      go_wp2_with ((go_at_call 29; refine K.call (by with_reducible rfl) (by with_reducible rfl) (toInt64S_any xs _ _ _ _ hxs hu) ?_; rintro e w2 ⟨⟨v2, rfl, hv2⟩, hw2⟩; have HO2 := Z.hide (K.row_ext HO.out hw2); have hv3 := hv2; obtain ⟨o3, c3, rfl, _⟩ := hv3; have e0 : w2.cell? ⟨w.heap.size, k, none⟩ = some (cs[k]'(by rw [HL.out]; exact hlt)) := (by rw [HO2.out.cellAt _ (by omega)]; exact List.getElem?_eq_getElem _); have f0 := HO2.out.frozenAt k; have lw2 := hw2.size; generalize cs[k]'(by rw [HL.out]; exact hlt) = y0 at *))
      go_roundw
      case rel =>
        refine ⟨k + 1, by omega, by go_num, Z.hide ⟨cs.set k _, by simpa using HL.out, (HO2.out.stored k _).1, fun j => if j ≤ k then bs j else w2.heap.size, by simpa using hb0, fun j hj => ?_, by dsimp only; rw [if_neg (by omega)]; simp, fun j hj hjk => ?_⟩, Z.hide (K.Ext.setCell (HX.out.trans hw2) (Nat.le_refl _) _), by simp; omega⟩
        · by_cases hjk : j < k
          · have := HB.out j hjk
            simpa [Nat.le_of_lt hjk, Nat.succ_le_of_lt hjk] using this
          · obtain rfl : j = k := by omega
            dsimp only
            rw [if_pos (Nat.le_refl _), if_neg (by omega)]
            omega
        · have hbj : ∀ j, j ≤ k → w.heap.size + 1 ≤ bs j := fun j => by
            induction j with
            | zero => intro _; omega
            | succ j ih => intro hj; have := HB.out j (by omega); have := ih (by omega); omega
          refine K.own.set ?_ _ (.inl ?_) _
          · by_cases hjk' : j = k
            · subst hjk'
              rw [show (cs.set j _).getD j (Value.slice none 0 0) = _ from by simp [List.getD_eq_getElem?_getD, HL.out, hlt]; rfl, ← HXs.out]
              exact hv2.mono (by simpa using hbk) (by dsimp only; rw [if_neg (by omega)]; exact Nat.le_refl _)
            · rw [show (cs.set k _).getD j (Value.slice none 0 0) = cs.getD j (Value.slice none 0 0) from by simp [List.getD_eq_getElem?_getD, Ne.symm hjk']]
              have h_ := (HI.out j hj (by omega)).ext hw2
              simpa [show j ≤ k by omega, show j + 1 ≤ k by omega] using h_
          · have := hbj j (by omega)
            simp [show j ≤ k by omega]
            omega
      case measure => simp [intOf]; omega
    · obtain rfl : k = xss.length := by omega
      obtain ⟨cs, hl, hown, bs, hb0, hbm, hbk, hin⟩ := HY.out
      have HR : Hid (K.rowsO wr w.heap.size wr.heap.size (.slice (some ⟨w.heap.size, 0, none⟩) xss.length xss.length) xss) := Z.hide (⟨_, _, cs, bs, rfl, hl, by omega, hbm, hbk, fun hn => ⟨w.heap.size, 0, rfl, Nat.le_refl _, by omega, fun i hi => by rw [Nat.zero_add, hown.cellAt i (by omega)]; exact List.getElem?_eq_getElem hi⟩, fun i hi hi' => by have h_ := hin i hi' hi'; rwa [show cs.getD i (Value.slice none 0 0) = cs[i]'hi from by simp [List.getD_eq_getElem?_getD, hi]] at h_⟩)
      clear hown hin hl hbm hb0 hbk hi0 hz0 hz1 hz2
      go_wp2
      go_ret
      exact ⟨⟨_, rfl, HR.out⟩, HX.out⟩
set_option maxHeartbeats 1600000 in
theorem markInt64SS_any (xss : List (List Int)) {lo hi : Nat} {v : Value} (s : Int) (w : World) (hm : xss.length ≤ 1048576) (hq : ∀ xs ∈ xss, (xs : List Int).length ≤ 1048576) (h0 : 0 ≤ s) (h1 : s ≤ 1000000000000000) (h : K.rowsO w lo hi v xss) :
    Calls Try.prog 25 #[v, .int .i64 s] w fun e w' => e = .returned (.int .i64 (s + Z.total xss)) ∧ K.Far lo hi w w' := by
  obtain ⟨o, cap, us, bs, rfl, hl, hb0, hbm, hbh, hc, ho⟩ := h
  have z0 : Hid (∀ i, i ≤ xss.length → lo ≤ bs i ∧ bs 0 ≤ bs i ∧ bs i ≤ hi) := Z.hide fun i k => by have := K.steps_le hbm (Nat.zero_le i) k; have := K.steps_le hbm k (Nat.le_refl _); omega
  have zm : Hid (∀ i j, i ≤ j → j ≤ xss.length → bs i ≤ bs j) := Z.hide fun i j k k' => K.steps_le hbm k k'
  have HQ := Z.hide hq
  have HL := Z.hide hl
  have HT : Hid (∀ k, k ≤ xss.length → Z.total (xss.take k) ≤ 1099511627776) := Z.hide fun k hk => Nat.le_trans (Z.total_le 1048576 xss hq k hk) (Nat.le_trans (Nat.mul_le_mul_right _ (Nat.le_trans hk hm)) (by decide))
  have H0 : Hid (Z.total (xss.take 0) = 0) := Z.hide (by simp [Z.total])
  have HC := Z.hide hc
  have HO := Z.hide ho
  clear hq hl hb0 hbm hbh hc ho
  go_enter Try.func25, Try.ntmps25
  go_wp2
  go_loopw [1, 5] (fun j i wr => ∃ k : Nat, k ≤ xss.length ∧ i = .int .i64 k ∧ j = .int .i64 (s + (Z.total (xss.take k) : Nat)) ∧ Hid (K.Far lo hi w wr) ∧
      Hid (∀ i (h : i < us.length) (h' : i < xss.length), k ≤ i → K.own wr (bs i) (bs (i + 1)) us[i] xss[i]) ∧
      Hid (xss ≠ [] → ∃ b off, o = some ⟨b, off, none⟩ ∧ lo ≤ b ∧ b < bs 0 ∧ ∀ i (h : i < us.length), wr.cell? ⟨b, off + i, none⟩ = some us[i])) (fun _ i _ => xss.length - (intOf i).toNat)
  case atStart => exact ⟨0, Nat.zero_le _, rfl, by rw [H0.out]; simp, Z.hide (K.Far.refl _ _ _), Z.hide (fun i h h' _ => HO.out i h h'), HC⟩
  case round =>
    obtain ⟨k, hk, rfl, rfl, HX, HY, HZ⟩ := hrel
    by_cases hlt : k < xss.length
    · obtain ⟨b, off, rfl, hb1, hb2, hcc⟩ := HZ.out (by intro h0; rw [h0] at hlt; simp at hlt)
      have hu := HY.out k (by rw [HL.out]; exact hlt) hlt (Nat.le_refl _)
      have hck := hcc k (by rw [HL.out]; exact hlt)
      have HCC := Z.hide hcc
      have hxs := HQ.out _ (List.getElem_mem hlt)
      have HTK : Hid (Z.total (xss.take (k + 1)) = Z.total (xss.take k) + (xss[k]'hlt).length) := Z.hide (Z.total_take _ _ hlt)
      have ht := HT.out k hk
      clear hcc
      generalize hT : Z.total (xss.take k) = T at *
      obtain ⟨xs, hx⟩ : ∃ xs, xs = xss[k]'hlt := ⟨_, rfl⟩
      rw [← hx] at hxs hu HTK
      clear hx
      obtain ⟨u, hu'⟩ : ∃ u, u = us[k]'(by rw [HL.out]; exact hlt) := ⟨_, rfl⟩
      rw [← hu'] at hu hck
      clear hu'
      have hu2 := hu
      obtain ⟨o2, c2, rfl, _⟩ := hu2
      have HB := Z.hide (And.intro hb1 hb2)
      have zk := z0.out k hk
      have zk1 := z0.out (k + 1) hlt
      go_wp2_with ((go_at_call 26; refine K.call (by with_reducible rfl) (by with_reducible rfl) (markInt64S_any xs _ _ _ _ _ hxs (by omega) (by omega) hu) ?_; rintro e w2 ⟨⟨rfl, _⟩, hf2⟩))
      go_roundw
      case rel => exact ⟨k + 1, by omega, by go_num, by rw [HTK.out]; go_num, Z.hide (HX.out.trans ⟨hf2.os, hf2.tape, hf2.output, hf2.size, fun j hj hoj => hf2.block j hj (by omega)⟩), Z.hide (fun i h h' hi => (HY.out i h h' (by omega)).far hf2 (.inr (zm.out (k + 1) i (by omega) (by omega)))), Z.hide (fun _ => ⟨b, off, rfl, HB.out.1, HB.out.2, fun i h => hf2.cell_of (HCC.out i h) (.inl (by dsimp only; omega))⟩)⟩
      case measure => simp [intOf]; omega
    · obtain rfl : k = xss.length := by omega
      have hfin : xss.take xss.length = xss := List.take_length
      rw [hfin]
      clear hfin
      go_wp2
      go_ret
      exact ⟨rfl, HX.out⟩
theorem heldInt64S_ext (n : Nat) (lo hi : Nat) (v : Value) (s : Int) (w : World) (hm : n ≤ 1048576) (h0 : 0 ≤ s) (h1 : s ≤ 1000000000000000000) (h : K.ints w lo hi v (Z.marks s n)) :
    Calls Try.prog 27 #[v, .int .i64 s] w fun e w' => e = .returned (.int .i64 (s + n)) ∧ K.Ext w w' :=
  (heldInt64S_any n lo hi v s w hm h0 h1 h).mono fun e w' ⟨he, hw⟩ => by subst hw; exact ⟨he, K.Ext.refl _⟩
end Go.Proofs.Ytphlppklhpaljaa
