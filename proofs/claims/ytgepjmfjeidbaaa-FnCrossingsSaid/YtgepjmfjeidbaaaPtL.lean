/-
  WHAT THE LAWS DO WITH SLICES OF POINTS: a copy, a comparison.
-/
import Derived.Test.YtgepjmfjeidbaaaBase
import Derived.Test.YtgepjmfjeidbaaaMake
import Derived.Deep.QuietTactic
import Derived.BigQuiet
set_option linter.unusedVariables false
namespace Go.Z
theorem take_set_pt {α : Type} (xs ys : List α) (k : Nat) (hl : ys.length = xs.length) (hk : k < xs.length) (h : ys.take k = xs.take k) : (ys.set k (xs[k]'hk)).take (k + 1) = xs.take (k + 1) := by
  rw [List.take_succ_eq_append_getElem (by simpa [hl] using hk), List.take_succ_eq_append_getElem hk]
  congr 1
  · rw [List.take_set_of_le (Nat.le_refl k), h]
  · simp
end Go.Z
namespace Go.K
open Go.RowKit
/-- a point: two numbers -/
def PtR : Rec (Int × Int) := ⟨2, fun f j => match j with | 0 => .int .i64 f.1 | _ => .int .i64 f.2⟩
theorem PtR_cons (y : Int × Int) (ys : List (Int × Int)) : PtR.cells (y :: ys) = .int .i64 y.1 :: .int .i64 y.2 :: PtR.cells ys := rfl
theorem PtR_set (ys : List (Int × Int)) (k : Nat) (x : Int × Int) (hk : k < ys.length) : ((PtR.cells ys).set (k * 2) (.int .i64 x.1)).set (k * 2 + 1) (.int .i64 x.2) = PtR.cells (ys.set k x) := by
  induction ys generalizing k with
  | nil => simp at hk
  | cons y ys ih =>
    cases k with
    | zero => rfl
    | succ k =>
      have e : (k + 1) * 2 = k * 2 + 2 := by omega
      rw [PtR_cons, e]
      show _ :: _ :: ((PtR.cells ys).set (k * 2) _).set (k * 2 + 1) _ = _
      rw [ih k (by simpa using hk)]
      rfl
theorem PtR_zero (n : Nat) : PtR.cells (List.replicate n (0, 0)) = (madeCells #[.int .i64 0, .int .i64 0] (n * 2)).toList := by
  apply List.ext_getElem
  · rw [Rec.cells_length]; simp [madeCells, PtR]
  · intro i h1 h2
    rw [Rec.cells_length, List.length_replicate] at h1
    have hn : PtR.n = 2 := rfl
    rw [hn] at h1
    have hd : i = i / 2 * 2 + i % 2 := by omega
    have hq := Rec.cells_at PtR (List.replicate n (0, 0)) (i / 2) (by rw [List.length_replicate]; omega) (i % 2) (by show i % 2 < 2; omega)
    rw [hn, ← hd] at hq
    have h3 := (List.getElem?_eq_some_iff.1 hq).2
    rw [h3]
    simp [madeCells]
    have hm : i % 2 = 0 ∨ i % 2 = 1 := by omega
    rcases hm with h | h <;> simp [h, PtR]
end Go.K
namespace Go.Proofs.Ytgepjmfjeidbaaa
open Go.RowKit
theorem info_pt : (Try.prog.info? 28).map (fun i => (i.zero, i.size, i.bytes)) = some (some (.agg #[.int .i64 0, .int .i64 0]), 2, 16) := by kernel_rfl
theorem szPointS_any (xs : List (Int × Int)) {lo hi : Nat} {p : Value} (s : Int) (w : World) (h00 : 0 ≤ s) (h01 : s ≤ 1048576) (hm : (xs.length : Int) ≤ 9223372036854775807) (h : K.recs false K.PtR w lo hi p xs) :
    Calls Try.prog 6 #[p, .int .i64 s] w fun e w' => (∃ r : Int, e = .returned (.int .i64 r) ∧ r ≤ 1048576 ∧ (r < 0 ∨ xs.length ≤ 1048576)) ∧ K.Ext w w' := by
  obtain ⟨o, cap, rfl, _⟩ := h
  go_enter Try.func6, Try.ntmps6
  go_wp2
  · go_ret
    exact ⟨⟨_, rfl, by omega, .inl (by omega)⟩, K.Ext.refl _⟩
  · go_ret
    exact ⟨⟨_, rfl, by omega, .inr (by omega)⟩, K.Ext.refl _⟩
theorem toPoint_new (s : Int × Int) (w : World) :
    Calls Try.prog 8 #[.agg #[.int .i64 s.1, .int .i64 s.2]] w fun e w' => e = .returned (.agg #[.int .i64 s.1, .int .i64 s.2]) ∧ K.Ext w w' := by
  go_enter Try.func8, Try.ntmps8
  go_wp2
  refine bodyPost_ret (v := .agg #[.int .i64 s.1, .int .i64 s.2]) (by unfold results; rw [Try.results8]; go_simp) rfl ⟨rfl, ?_⟩
  exact (by repeat' (first | with_reducible exact K.Ext.refl _ | with_reducible assumption | with_reducible refine K.Ext.drew ?_ | with_reducible refine K.Ext.alloc ?_ _ | with_reducible refine K.Ext.setCell ?_ ?_ _ | with_reducible refine K.Ext.trans ?_ (by with_reducible assumption) | (dsimp only; omega) | omega | exact K.Ext.refl _ | assumption | apply K.Ext.drew | refine K.Ext.alloc ?_ _ | refine K.Ext.setCell ?_ ?_ _ | (simp; done) | (simp; omega) | refine K.Ext.trans ?_ (by assumption)))
theorem eqPoint_new (s : Int × Int) (w : World) :
    Calls Try.prog 37 #[.agg #[.int .i64 s.1, .int .i64 s.2], .agg #[.int .i64 s.1, .int .i64 s.2]] w fun e w' => e = .returned (.bool true) ∧ K.Ext w w' := by
  go_enter Try.func37, Try.ntmps37
  go_wp2
  go_ret
  exact ⟨rfl, (by repeat' (first | with_reducible exact K.Ext.refl _ | with_reducible assumption | with_reducible refine K.Ext.drew ?_ | with_reducible refine K.Ext.alloc ?_ _ | with_reducible refine K.Ext.setCell ?_ ?_ _ | with_reducible refine K.Ext.trans ?_ (by with_reducible assumption) | (dsimp only; omega) | omega | exact K.Ext.refl _ | assumption | apply K.Ext.drew | refine K.Ext.alloc ?_ _ | refine K.Ext.setCell ?_ ?_ _ | (simp; done) | (simp; omega) | refine K.Ext.trans ?_ (by assumption)))⟩
set_option maxHeartbeats 1600000 in
theorem toPointS_any (xs : List (Int × Int)) {lo hi : Nat} {v : Value} (w : World) (hm : xs.length ≤ 1048576) (h : K.recs false K.PtR w lo hi v xs) :
    Calls Try.prog 9 #[v] w fun e w' => (∃ v', e = .returned v' ∧ K.recs true K.PtR w' w.heap.size w'.heap.size v' xs) ∧ K.Ext w w' := by
  have h1 := h
  obtain ⟨o, cap, rfl, _⟩ := h1
  have HH := Z.hide h
  clear h
  obtain ⟨i0, hi0, hz0, hz1, hz2⟩ := info_parts info_pt
  go_enter Try.func9, Try.ntmps9
  go_wp2_with (at_make; refine wpList_make_full _ rfl _ _ 30 rfl w.heap.size 28 i0 (.agg #[.int .i64 0, .int .i64 0]) 2 Try.underlying30 hi0 hz0 hz1 _ _ _ _ xs.length rfl rfl rfl rfl (by rw [hz2]; omega) (by unfold maxLen; omega) (Nat.le_refl _) ?_; intro w1 hown1 hgrow1)
  go_loopw [4] (fun i wr => ∃ k : Nat, k ≤ xs.length ∧ i = .int .i64 k ∧ Hid (∃ ys : List (Int × Int), ys.length = xs.length ∧ ys.take k = xs.take k ∧ wr.ownsRow w.heap.size 28 2 (.slice (some ⟨w.heap.size, 0, none⟩) xs.length xs.length) xs.length (K.PtR.cells ys)) ∧ Hid (K.Ext w wr)) (fun i _ => xs.length - (intOf i).toNat)
  case atStart => exact ⟨0, Nat.zero_le _, rfl, Z.hide ⟨List.replicate xs.length (0, 0), by simp, by simp, by rw [K.PtR_zero]; simpa [Value.cells] using hown1⟩, Z.hide ((Below.refl _ _).grown hgrow1 (Nat.le_refl _) (fun k hk => by cases hk))⟩
  case round =>
    obtain ⟨k, hk, rfl, HY, HX⟩ := hrel
    clear hown1 hgrow1
    by_cases hlt : k < xs.length
    · obtain ⟨b, off, rfl, _, _, hc, _⟩ := K.recs_at HH.out (by omega)
      have hc0 : wr.cell? ⟨b, off + k * 2, none⟩ = some (.int .i64 (xs[k]'hlt).1) := HX.out.cell_of (hc k hlt 0 (by decide))
      have hc1 : wr.cell? ⟨b, off + k * 2 + 1, none⟩ = some (.int .i64 (xs[k]'hlt).2) := HX.out.cell_of (hc k hlt 1 (by decide))
      obtain ⟨ys, hy1, hy2, hown⟩ := HY.out
      have HT := Z.hide (Z.take_set_pt xs ys k hy1 hlt hy2)
      have HL := Z.hide hy1
      have HO := Z.hide hown
      have i0 : (0 : Int) ≤ (k : Int) := Int.natCast_nonneg k
      have i1 : (k : Int) < (xs.length : Int) := by omega
      clear hc hown hy1 hy2 HY hi0 hz0 hz1 hz2
      generalize (xs[k]'hlt) = s at *
      go_wp2_with ((go_at_call 8; refine K.call (by with_reducible rfl) (by with_reducible rfl) (toPoint_new s _) ?_; rintro e w2 ⟨rfl, hw2⟩; have HO2 := Z.hide (K.row_ext HO.out hw2); have e0 : w2.cell? ⟨w.heap.size, k * 2, none⟩ = some (K.PtR.cell (ys[k]'(by rw [HL.out]; exact hlt)) 0) := (by rw [HO2.out.cellAt _ (by omega)]; exact K.Rec.cells_at K.PtR ys k (by rw [HL.out]; exact hlt) 0 (by decide)); have e1 : w2.cell? ⟨w.heap.size, k * 2 + 1, none⟩ = some (K.PtR.cell (ys[k]'(by rw [HL.out]; exact hlt)) 1) := (by rw [HO2.out.cellAt _ (by omega)]; exact K.Rec.cells_at K.PtR ys k (by rw [HL.out]; exact hlt) 1 (by decide)); have f0 := HO2.out.frozenAt (k * 2); have f1 := HO2.out.frozenAt (k * 2 + 1); generalize K.PtR.cell (ys[k]'(by rw [HL.out]; exact hlt)) 0 = y0 at *; generalize K.PtR.cell (ys[k]'(by rw [HL.out]; exact hlt)) 1 = y1 at *))
      go_roundw
      case rel => exact ⟨k + 1, by omega, by go_num, Z.hide ⟨ys.set k s, by simpa using HL.out, HT.out, by rw [← K.PtR_set ys k s (by rw [HL.out]; exact hlt)]; exact ((HO2.out.stored (k * 2) _).1.stored (k * 2 + 1) _).1⟩, Z.hide (K.Ext.setCell (K.Ext.setCell (HX.out.trans hw2) (Nat.le_refl _) _) (Nat.le_refl _) _)⟩
      case measure => simp [intOf]; omega
    · obtain rfl : k = xs.length := by omega
      obtain ⟨ys, hy1, hy2, hown⟩ := HY.out
      have HO := Z.hide hown
      obtain rfl : ys = xs := by rw [← List.take_length (l := xs), ← hy2, ← hy1, List.take_length]
      clear hown hi0 hz0 hz1 hz2
      go_wp2
      go_ret
      exact ⟨⟨_, rfl, K.recs_of_row HO.out (by decide)⟩, HX.out⟩
set_option maxHeartbeats 1600000 in
theorem eqPointS_same (xs : List (Int × Int)) {lo hi lo' hi' : Nat} {v v' : Value} (w : World) (hm : xs.length ≤ 1048576) (h : K.recs false K.PtR w lo hi v xs) (h' : K.recs false K.PtR w lo' hi' v' xs) :
    Calls Try.prog 11 #[v, v'] w fun e w' => e = .returned (.bool true) ∧ K.Ext w w' := by
  have g1 := h
  obtain ⟨o, cap, rfl, _⟩ := g1
  have g2 := h'
  obtain ⟨o', cap', rfl, _⟩ := g2
  have HH := Z.hide h
  have HH' := Z.hide h'
  clear h h'
  go_enter Try.func11, Try.ntmps11
  go_wp2
  go_loopw [5] (fun i wr => ∃ k : Nat, k ≤ xs.length ∧ i = .int .i64 k ∧ Hid (K.Ext w wr)) (fun i _ => xs.length - (intOf i).toNat)
  case atStart => exact ⟨0, Nat.zero_le _, rfl, Z.hide (K.Ext.refl _)⟩
  case round =>
    obtain ⟨k, hk, rfl, HX⟩ := hrel
    by_cases hlt : k < xs.length
    · obtain ⟨b, off, rfl, _, _, hc, _⟩ := K.recs_at HH.out (by omega)
      obtain ⟨b', off', rfl, _, _, hc', _⟩ := K.recs_at HH'.out (by omega)
      have hc0 : wr.cell? ⟨b, off + k * 2, none⟩ = some (.int .i64 (xs[k]'hlt).1) := HX.out.cell_of (hc k hlt 0 (by decide))
      have hc1 : wr.cell? ⟨b, off + k * 2 + 1, none⟩ = some (.int .i64 (xs[k]'hlt).2) := HX.out.cell_of (hc k hlt 1 (by decide))
      have hd0 : wr.cell? ⟨b', off' + k * 2, none⟩ = some (.int .i64 (xs[k]'hlt).1) := HX.out.cell_of (hc' k hlt 0 (by decide))
      have hd1 : wr.cell? ⟨b', off' + k * 2 + 1, none⟩ = some (.int .i64 (xs[k]'hlt).2) := HX.out.cell_of (hc' k hlt 1 (by decide))
      have i0 : (0 : Int) ≤ (k : Int) := Int.natCast_nonneg k
      have i1 : (k : Int) < (xs.length : Int) := by omega
      clear hc hc'
      generalize (xs[k]'hlt) = s at *
      go_wp2_with fail
      refine K.wp_region_x 10 [0, 0, 0, 1, 0, 0, 0, 1, 2, 0] [K.SP.any, K.SP.any, K.SP.any, K.SP.any, K.SP.any, K.SP.any, K.SP.any, K.SP.any, K.SP.is (.bool true)] (by kernel_rfl) (by kernel_rfl) ?_
      simp only [List.take_succ_cons, List.take_zero, List.drop_succ_cons, List.drop_zero]
      iterate 3
        apply K.x_pure
        · rfl
        · rfl
        · intro w'; go_simp; first | done | exact K.vint (IntWalk.i64_in _ (by omega)) | rfl | exact ⟨rfl, rfl⟩
        simp only [Act.put, List.setIfInBounds_toArray, List.set]
      apply K.x_held
      · rfl
      · rfl
      · intro w' hx; have hc := hx.all.1.1; have hf := hx.all.1.2; have hc' := hx.all.2.1; have hf' := hx.all.2.2; go_simp; first | done | rfl | exact ⟨rfl, rfl⟩
      simp only [Act.put, List.setIfInBounds_toArray, List.set]
      iterate 3
        apply K.x_pure
        · rfl
        · rfl
        · intro w'; go_simp; first | done | exact K.vint (IntWalk.i64_in _ (by omega)) | rfl | exact ⟨rfl, rfl⟩
        simp only [Act.put, List.setIfInBounds_toArray, List.set]
      apply K.x_held
      · rfl
      · rfl
      · intro w' hx; have hc := hx.all.1.1; have hf := hx.all.1.2; have hc' := hx.all.2.1; have hf' := hx.all.2.2; go_simp; first | done | rfl | exact ⟨rfl, rfl⟩
      simp only [Act.put, List.setIfInBounds_toArray, List.set]
      apply K.x_call_is
      · rfl
      · rfl
      · rfl
      · intro w'; go_simp; first | done | rfl | exact ⟨rfl, rfl⟩
      · intro w' hx hp; have hc := hx.all.1.1; have hf := hx.all.1.2; have hc' := hx.all.2.1; have hf' := hx.all.2.2; exact eqPoint_new s _
      intro w_8_ hx_8_
      simp only [Act.put, List.setIfInBounds_toArray, List.set]
      apply K.x_pure
      · rfl
      · rfl
      · intro w'; go_simp; first | done | exact K.vint (IntWalk.i64_in _ (by omega)) | rfl | exact ⟨rfl, rfl⟩
      simp only [Act.put, List.setIfInBounds_toArray, List.set]
      apply K.x_done
      intro w1 h_x
      have hx1 := hx_8_.trans h_x
      clear h_x hx_8_
      obtain ⟨⟨hcw1, hfw1⟩, hc'w1, hf'w1⟩ := hx1.all
      refine wpList_nil ?_
      refine NoPanic.normal ?_
      go_wp2
      go_roundw
      case rel => exact ⟨k + 1, by omega, by go_num, Z.hide (K.Ext.trans HX.out (by first | exact hx1 | exact (K.Ext.refl _).drew.trans hx1))⟩
      case measure => simp [intOf]; omega
    · obtain rfl : k = xs.length := by omega
      go_wp2
      go_ret
      exact ⟨rfl, HX.out⟩
end Go.Proofs.Ytgepjmfjeidbaaa
