/-
  WHAT THE LAWS DO WITH STEPS: a copy, a comparison, marks.
-/
import Derived.Test.YtphlppklhpaljaaSt
import Derived.Test.YtphlppklhpaljaaBase
set_option linter.unusedVariables false
namespace Go.Z
theorem take_set_gen {α : Type} (xs ys : List α) (k : Nat) (hl : ys.length = xs.length) (hk : k < xs.length) (h : ys.take k = xs.take k) : (ys.set k (xs[k]'hk)).take (k + 1) = xs.take (k + 1) := by
  rw [List.take_succ_eq_append_getElem (by simpa [hl] using hk), List.take_succ_eq_append_getElem hk]
  congr 1
  · rw [List.take_set_of_le (Nat.le_refl k), h]
  · simp
/-- the marks that a law sets -/
def markSt (s : Int) (i : Nat) : St := ⟨s + 3 * (i : Int), (s + 3 * (i : Int) + 1) % 256, s + 3 * (i : Int) + 1 + 1⟩
def marksSt (s : Int) (n : Nat) : List St := (List.range n).map (markSt s)
theorem marksSt_length (s : Int) (n : Nat) : (marksSt s n).length = n := by simp [marksSt]
theorem marksSt_get (s : Int) (n k : Nat) (h : k < (marksSt s n).length) : (marksSt s n)[k] = markSt s k := by simp [marksSt]
end Go.Z
namespace Go.K
open Go.RowKit
theorem StR_cons (y : Z.St) (ys : List Z.St) : StR.cells (y :: ys) = .int .i64 y.kd :: .int .u8 y.nm :: .int .i64 y.pw :: StR.cells ys := rfl
theorem StR_set (ys : List Z.St) (k : Nat) (x : Z.St) (hk : k < ys.length) : (((StR.cells ys).set (k * 3) (.int .i64 x.kd)).set (k * 3 + 1) (.int .u8 x.nm)).set (k * 3 + 2) (.int .i64 x.pw) = StR.cells (ys.set k x) := by
  induction ys generalizing k with
  | nil => simp at hk
  | cons y ys ih =>
    cases k with
    | zero => rfl
    | succ k =>
      have e : (k + 1) * 3 = k * 3 + 3 := by omega
      rw [StR_cons, e]
      show _ :: _ :: _ :: (((StR.cells ys).set (k * 3) _).set (k * 3 + 1) _).set (k * 3 + 2) _ = _
      rw [ih k (by simpa using hk)]
      rfl
theorem StR_zero (n : Nat) : StR.cells (List.replicate n Z.zeroSt) = (madeCells #[.int .i64 0, .int .u8 0, .int .i64 0] (n * 3)).toList := by
  apply List.ext_getElem
  · rw [Rec.cells_length]; simp [madeCells, StR]
  · intro i h1 h2
    rw [Rec.cells_length, List.length_replicate] at h1
    have hn : StR.n = 3 := rfl
    rw [hn] at h1
    have hd : i = i / 3 * 3 + i % 3 := by omega
    have hq := Rec.cells_at StR (List.replicate n Z.zeroSt) (i / 3) (by rw [List.length_replicate]; omega) (i % 3) (by show i % 3 < 3; omega)
    rw [hn, ← hd] at hq
    have h3 := (List.getElem?_eq_some_iff.1 hq).2
    rw [h3]
    simp [madeCells]
    have hm : i % 3 = 0 ∨ i % 3 = 1 ∨ i % 3 = 2 := by omega
    rcases hm with h | h | h <;> simp [h, StR, Z.zeroSt]
theorem StR_setAt {w : World} {lo hi b off n cap k : Nat} {x : Z.St} {xs : List Z.St} (hk : k < xs.length) (h : recs true StR w lo hi (.slice (some ⟨b, off, none⟩) n cap) xs) :
    recs true StR (((w.setCell ⟨b, off + k * 3, none⟩ (.int .i64 x.kd)).setCell ⟨b, off + k * 3 + 1, none⟩ (.int .u8 x.nm)).setCell ⟨b, off + k * 3 + 2, none⟩ (.int .i64 x.pw)) lo hi (.slice (some ⟨b, off, none⟩) n cap) (xs.set k x) := by
  obtain ⟨o, cap', hv, hc⟩ := h
  simp only [Value.slice.injEq] at hv
  obtain ⟨rfl, rfl, rfl⟩ := hv
  obtain ⟨b', off', he, h1, h2, h3, h4⟩ := hc (by intro h0; simp [h0] at hk)
  simp only [Option.some.injEq, Addr.mk.injEq, and_true] at he
  obtain ⟨rfl, rfl⟩ := he
  have c0 : w.cell? ⟨b, off + k * 3, none⟩ = some (StR.cell (xs[k]'hk) 0) := h3 k hk 0 (by decide)
  have c1 := h3 k hk 1 (by decide)
  have c2 := h3 k hk 2 (by decide)
  have hn : StR.n = 3 := rfl
  rw [hn] at c1 c2
  refine ⟨some ⟨b, off, none⟩, cap, by simp, fun _ => ⟨b, off, rfl, h1, h2, fun i hi j hj => ?_, fun _ i j hi hj => ?_⟩⟩
  · rw [List.length_set] at hi
    rw [hn] at hj ⊢
    by_cases hik : i = k
    · subst hik
      have d0 : ((w.setCell ⟨b, off + i * 3, none⟩ (.int .i64 x.kd))).cell? ⟨b, off + i * 3 + 1, none⟩ = some (StR.cell xs[i] 1) := by
        rw [World.cell?_setCell_other (w := w) (a := ⟨b, off + i * 3, none⟩) (b := ⟨b, off + i * 3 + 1, none⟩) (h := by simp), c1]
      have d1 : ((w.setCell ⟨b, off + i * 3, none⟩ (.int .i64 x.kd)).setCell ⟨b, off + i * 3 + 1, none⟩ (.int .u8 x.nm)).cell? ⟨b, off + i * 3 + 2, none⟩ = some (StR.cell xs[i] 2) := by
        rw [World.cell?_setCell_other (a := ⟨b, off + i * 3 + 1, none⟩) (b := ⟨b, off + i * 3 + 2, none⟩) (h := by simp), World.cell?_setCell_other (w := w) (a := ⟨b, off + i * 3, none⟩) (b := ⟨b, off + i * 3 + 2, none⟩) (h := by simp), c2]
      match j, hj with
      | 0, _ =>
        rw [World.cell?_setCell_other (a := ⟨b, off + i * 3 + 2, none⟩) (b := ⟨b, off + i * 3 + 0, none⟩) (h := by simp), World.cell?_setCell_other (a := ⟨b, off + i * 3 + 1, none⟩) (b := ⟨b, off + i * 3 + 0, none⟩) (h := by simp), Nat.add_zero, _root_.Go.World.cell?_setCell_same w _ _ c0]
        simp [StR]
      | 1, _ =>
        rw [World.cell?_setCell_other (a := ⟨b, off + i * 3 + 2, none⟩) (b := ⟨b, off + i * 3 + 1, none⟩) (h := by simp), _root_.Go.World.cell?_setCell_same _ _ _ d0]
        simp [StR]
      | 2, _ =>
        rw [_root_.Go.World.cell?_setCell_same _ _ _ d1]
        simp [StR]
    · rw [World.cell?_setCell_other (a := ⟨b, off + k * 3 + 2, none⟩) (b := ⟨b, off + i * 3 + j, none⟩) (h := by first | (simp; done) | (simp; omega)), World.cell?_setCell_other (a := ⟨b, off + k * 3 + 1, none⟩) (b := ⟨b, off + i * 3 + j, none⟩) (h := by first | (simp; done) | (simp; omega)), World.cell?_setCell_other (a := ⟨b, off + k * 3, none⟩) (b := ⟨b, off + i * 3 + j, none⟩) (h := by first | (simp; done) | (simp; omega))]
      have := h3 i hi j hj
      rw [hn] at this
      rw [this, List.getElem_set_ne (Ne.symm hik)]
  · rw [World.frozen?_setCell, World.frozen?_setCell, World.frozen?_setCell]
    exact h4 rfl i j (by simpa using hi) hj
end Go.K
namespace Go.Proofs.Ytphlppklhpaljaa
open Go.RowKit
theorem info_step : (Try.prog.info? 69).map (fun i => (i.zero, i.size, i.bytes)) = some (some (.agg #[.int .i64 0, .int .u8 0, .int .i64 0]), 3, 24) := by kernel_rfl
theorem szStepS_any (xs : List Z.St) {lo hi : Nat} {p : Value} (s : Int) (w : World) (h00 : 0 ≤ s) (h01 : s ≤ 1048576) (hm : (xs.length : Int) ≤ 9223372036854775807) (h : K.recs false K.StR w lo hi p xs) :
    Calls Try.prog 47 #[p, .int .i64 s] w fun e w' => (∃ r : Int, e = .returned (.int .i64 r) ∧ r ≤ 1048576 ∧ (r < 0 ∨ xs.length ≤ 1048576)) ∧ K.Ext w w' := by
  obtain ⟨o, cap, rfl, _⟩ := h
  go_enter Try.func47, Try.ntmps47
  go_wp2
  · go_ret
    exact ⟨⟨_, rfl, by omega, .inl (by omega)⟩, K.Ext.refl _⟩
  · go_ret
    exact ⟨⟨_, rfl, by omega, .inr (by omega)⟩, K.Ext.refl _⟩
theorem toStep_any (s : Z.St) (w : World) :
    Calls Try.prog 43 #[.agg #[.int .i64 s.kd, .int .u8 s.nm, .int .i64 s.pw]] w fun e w' => e = .returned (.agg #[.int .i64 s.kd, .int .u8 s.nm, .int .i64 s.pw]) ∧ K.Ext w w' := by
  go_enter Try.func43, Try.ntmps43
  go_wp2
  refine bodyPost_ret (v := .agg #[.int .i64 s.kd, .int .u8 s.nm, .int .i64 s.pw]) (by unfold results; rw [Try.results43]; go_simp) rfl ⟨rfl, ?_⟩
  exact (by repeat' (first | with_reducible exact K.Ext.refl _ | with_reducible assumption | with_reducible refine K.Ext.drew ?_ | with_reducible refine K.Ext.alloc ?_ _ | with_reducible refine K.Ext.setCell ?_ ?_ _ | with_reducible refine K.Ext.trans ?_ (by with_reducible assumption) | (dsimp only; omega) | omega | exact K.Ext.refl _ | assumption | apply K.Ext.drew | refine K.Ext.alloc ?_ _ | refine K.Ext.setCell ?_ ?_ _ | (simp; done) | (simp; omega) | refine K.Ext.trans ?_ (by assumption)))
theorem eqStep_same (s : Z.St) (w : World) :
    Calls Try.prog 134 #[.agg #[.int .i64 s.kd, .int .u8 s.nm, .int .i64 s.pw], .agg #[.int .i64 s.kd, .int .u8 s.nm, .int .i64 s.pw]] w fun e w' => e = .returned (.bool true) ∧ K.Ext w w' := by
  go_enter Try.func134, Try.ntmps134
  go_wp2
  go_ret
  exact ⟨rfl, (by repeat' (first | with_reducible exact K.Ext.refl _ | with_reducible assumption | with_reducible refine K.Ext.drew ?_ | with_reducible refine K.Ext.alloc ?_ _ | with_reducible refine K.Ext.setCell ?_ ?_ _ | with_reducible refine K.Ext.trans ?_ (by with_reducible assumption) | (dsimp only; omega) | omega | exact K.Ext.refl _ | assumption | apply K.Ext.drew | refine K.Ext.alloc ?_ _ | refine K.Ext.setCell ?_ ?_ _ | (simp; done) | (simp; omega) | refine K.Ext.trans ?_ (by assumption)))⟩
set_option maxHeartbeats 1600000 in
theorem toStepS_any (xs : List Z.St) {lo hi : Nat} {v : Value} (w : World) (hm : xs.length ≤ 1048576) (h : K.recs false K.StR w lo hi v xs) :
    Calls Try.prog 49 #[v] w fun e w' => (∃ v', e = .returned v' ∧ K.recs true K.StR w' w.heap.size w'.heap.size v' xs) ∧ K.Ext w w' := by
  have h1 := h
  obtain ⟨o, cap, rfl, _⟩ := h1
  have HH := Z.hide h
  clear h
  obtain ⟨i0, hi0, hz0, hz1, hz2⟩ := info_parts info_step
  go_enter Try.func49, Try.ntmps49
  go_wp2_with (at_make; refine wpList_make_full _ rfl _ _ 76 rfl w.heap.size 69 i0 (.agg #[.int .i64 0, .int .u8 0, .int .i64 0]) 3 Try.underlying76 hi0 hz0 hz1 _ _ _ _ xs.length rfl rfl rfl rfl (by rw [hz2]; omega) (by unfold maxLen; omega) (Nat.le_refl _) ?_; intro w1 hown1 hgrow1)
  go_loopw [4] (fun i wr => ∃ k : Nat, k ≤ xs.length ∧ i = .int .i64 k ∧ Hid (∃ ys : List Z.St, ys.length = xs.length ∧ ys.take k = xs.take k ∧ wr.ownsRow w.heap.size 69 3 (.slice (some ⟨w.heap.size, 0, none⟩) xs.length xs.length) xs.length (K.StR.cells ys)) ∧ Hid (K.Ext w wr)) (fun i _ => xs.length - (intOf i).toNat)
  case atStart => exact ⟨0, Nat.zero_le _, rfl, Z.hide ⟨List.replicate xs.length Z.zeroSt, by simp, by simp, by rw [K.StR_zero]; simpa [Value.cells] using hown1⟩, Z.hide ((Below.refl _ _).grown hgrow1 (Nat.le_refl _) (fun k hk => by cases hk))⟩
  case round =>
    obtain ⟨k, hk, rfl, HY, HX⟩ := hrel
    clear hown1 hgrow1
    by_cases hlt : k < xs.length
    · obtain ⟨b, off, rfl, _, _, hc, _⟩ := K.recs_at HH.out (by omega)
      have hc0 : wr.cell? ⟨b, off + k * 3, none⟩ = some (.int .i64 (xs[k]'hlt).kd) := HX.out.cell_of (hc k hlt 0 (by decide))
      have hc1 : wr.cell? ⟨b, off + k * 3 + 1, none⟩ = some (.int .u8 (xs[k]'hlt).nm) := HX.out.cell_of (hc k hlt 1 (by decide))
      have hc2 : wr.cell? ⟨b, off + k * 3 + 2, none⟩ = some (.int .i64 (xs[k]'hlt).pw) := HX.out.cell_of (hc k hlt 2 (by decide))
      obtain ⟨ys, hy1, hy2, hown⟩ := HY.out
      have HT := Z.hide (Z.take_set_gen xs ys k hy1 hlt hy2)
      have HL := Z.hide hy1
      have HO := Z.hide hown
      have i0 : (0 : Int) ≤ (k : Int) := Int.natCast_nonneg k
      have i1 : (k : Int) < (xs.length : Int) := by omega
      clear hc hown hy1 hy2 HY hi0 hz0 hz1 hz2
      generalize (xs[k]'hlt) = s at *
      go_wp2_with ((go_at_call 43; refine K.call (by with_reducible rfl) (by with_reducible rfl) (toStep_any s _) ?_; rintro e w2 ⟨rfl, hw2⟩; have HO2 := Z.hide (K.row_ext HO.out hw2); have e0 : w2.cell? ⟨w.heap.size, k * 3, none⟩ = some (K.StR.cell (ys[k]'(by rw [HL.out]; exact hlt)) 0) := (by rw [HO2.out.cellAt _ (by omega)]; exact K.Rec.cells_at K.StR ys k (by rw [HL.out]; exact hlt) 0 (by decide)); have e1 : w2.cell? ⟨w.heap.size, k * 3 + 1, none⟩ = some (K.StR.cell (ys[k]'(by rw [HL.out]; exact hlt)) 1) := (by rw [HO2.out.cellAt _ (by omega)]; exact K.Rec.cells_at K.StR ys k (by rw [HL.out]; exact hlt) 1 (by decide)); have e2 : w2.cell? ⟨w.heap.size, k * 3 + 2, none⟩ = some (K.StR.cell (ys[k]'(by rw [HL.out]; exact hlt)) 2) := (by rw [HO2.out.cellAt _ (by omega)]; exact K.Rec.cells_at K.StR ys k (by rw [HL.out]; exact hlt) 2 (by decide)); have f0 := HO2.out.frozenAt (k * 3); have f1 := HO2.out.frozenAt (k * 3 + 1); have f2 := HO2.out.frozenAt (k * 3 + 2); generalize K.StR.cell (ys[k]'(by rw [HL.out]; exact hlt)) 0 = y0 at *; generalize K.StR.cell (ys[k]'(by rw [HL.out]; exact hlt)) 1 = y1 at *; generalize K.StR.cell (ys[k]'(by rw [HL.out]; exact hlt)) 2 = y2 at *))
      go_roundw
      case rel => exact ⟨k + 1, by omega, by go_num, Z.hide ⟨ys.set k s, by simpa using HL.out, HT.out, by rw [← K.StR_set ys k s (by rw [HL.out]; exact hlt)]; exact (((HO2.out.stored (k * 3) _).1.stored (k * 3 + 1) _).1.stored (k * 3 + 2) _).1⟩, Z.hide (K.Ext.setCell (K.Ext.setCell (K.Ext.setCell (HX.out.trans hw2) (Nat.le_refl _) _) (Nat.le_refl _) _) (Nat.le_refl _) _)⟩
      case measure => simp [intOf]; omega
    · obtain rfl : k = xs.length := by omega
      obtain ⟨ys, hy1, hy2, hown⟩ := HY.out
      have HO := Z.hide hown
      obtain rfl : ys = xs := by rw [← List.take_length (l := xs), ← hy2, ← hy1, List.take_length]
      clear hown hi0 hz0 hz1 hz2
      go_wp2
      go_ret
      exact ⟨⟨_, rfl, K.recs_of_row HO.out (by decide)⟩, HX.out⟩
set_option maxHeartbeats 1600000 in
theorem eqStepS_same (xs : List Z.St) {lo hi lo' hi' : Nat} {v v' : Value} (w : World) (hm : xs.length ≤ 1048576) (h : K.recs false K.StR w lo hi v xs) (h' : K.recs false K.StR w lo' hi' v' xs) :
    Calls Try.prog 51 #[v, v'] w fun e w' => e = .returned (.bool true) ∧ K.Ext w w' := by
  have g1 := h
  obtain ⟨o, cap, rfl, _⟩ := g1
  have g2 := h'
  obtain ⟨o', cap', rfl, _⟩ := g2
  have HH := Z.hide h
  have HH' := Z.hide h'
  clear h h'
  go_enter Try.func51, Try.ntmps51
  go_wp2
  go_loopw [5] (fun i wr => ∃ k : Nat, k ≤ xs.length ∧ i = .int .i64 k ∧ Hid (K.Ext w wr)) (fun i _ => xs.length - (intOf i).toNat)
  case atStart => exact ⟨0, Nat.zero_le _, rfl, Z.hide (K.Ext.refl _)⟩
  case round =>
    obtain ⟨k, hk, rfl, HX⟩ := hrel
    by_cases hlt : k < xs.length
    · obtain ⟨b, off, rfl, _, _, hc, _⟩ := K.recs_at HH.out (by omega)
      obtain ⟨b', off', rfl, _, _, hc', _⟩ := K.recs_at HH'.out (by omega)
      have hc0 : wr.cell? ⟨b, off + k * 3, none⟩ = some (.int .i64 (xs[k]'hlt).kd) := HX.out.cell_of (hc k hlt 0 (by decide))
      have hc1 : wr.cell? ⟨b, off + k * 3 + 1, none⟩ = some (.int .u8 (xs[k]'hlt).nm) := HX.out.cell_of (hc k hlt 1 (by decide))
      have hc2 : wr.cell? ⟨b, off + k * 3 + 2, none⟩ = some (.int .i64 (xs[k]'hlt).pw) := HX.out.cell_of (hc k hlt 2 (by decide))
      have hd0 : wr.cell? ⟨b', off' + k * 3, none⟩ = some (.int .i64 (xs[k]'hlt).kd) := HX.out.cell_of (hc' k hlt 0 (by decide))
      have hd1 : wr.cell? ⟨b', off' + k * 3 + 1, none⟩ = some (.int .u8 (xs[k]'hlt).nm) := HX.out.cell_of (hc' k hlt 1 (by decide))
      have hd2 : wr.cell? ⟨b', off' + k * 3 + 2, none⟩ = some (.int .i64 (xs[k]'hlt).pw) := HX.out.cell_of (hc' k hlt 2 (by decide))
      have i0 : (0 : Int) ≤ (k : Int) := Int.natCast_nonneg k
      have i1 : (k : Int) < (xs.length : Int) := by omega
      clear hc hc'
      generalize (xs[k]'hlt) = s at *
      go_wp2_with fail
      refine K.wp_region_x 10 [0, 0, 0, 1, 0, 0, 0, 1, 2, 0] [K.SP.any, K.SP.any, K.SP.any, K.SP.any, K.SP.any, K.SP.any, K.SP.any, K.SP.any, K.SP.is (.bool true)] (by kernel_rfl) (by kernel_rfl) ?_
      simp only [List.take_succ_cons, List.take_zero, List.drop_succ_cons, List.drop_zero]
      iterate 3
        apply K.x_pure
        · rfl
        · rfl
        · intro w'; go_simp; first | done | exact K.vint (IntWalk.i64_in _ (by omega)) | rfl | exact ⟨rfl, rfl⟩
        simp only [Act.put, List.setIfInBounds_toArray, List.set]
      apply K.x_held
      · rfl
      · rfl
      · intro w' hx; have hc := hx.all.1.1; have hf := hx.all.1.2; have hc' := hx.all.2.1; have hf' := hx.all.2.2; go_simp; first | done | rfl | exact ⟨rfl, rfl⟩
      simp only [Act.put, List.setIfInBounds_toArray, List.set]
      iterate 3
        apply K.x_pure
        · rfl
        · rfl
        · intro w'; go_simp; first | done | exact K.vint (IntWalk.i64_in _ (by omega)) | rfl | exact ⟨rfl, rfl⟩
        simp only [Act.put, List.setIfInBounds_toArray, List.set]
      apply K.x_held
      · rfl
      · rfl
      · intro w' hx; have hc := hx.all.1.1; have hf := hx.all.1.2; have hc' := hx.all.2.1; have hf' := hx.all.2.2; go_simp; first | done | rfl | exact ⟨rfl, rfl⟩
      simp only [Act.put, List.setIfInBounds_toArray, List.set]
      apply K.x_call_is
      · rfl
      · rfl
      · rfl
      · intro w'; go_simp; first | done | rfl | exact ⟨rfl, rfl⟩
      · intro w' hx hp; have hc := hx.all.1.1; have hf := hx.all.1.2; have hc' := hx.all.2.1; have hf' := hx.all.2.2; exact eqStep_same s _
      intro w_8_ hx_8_
      simp only [Act.put, List.setIfInBounds_toArray, List.set]
      apply K.x_pure
      · rfl
      · rfl
      · intro w'; go_simp; first | done | exact K.vint (IntWalk.i64_in _ (by omega)) | rfl | exact ⟨rfl, rfl⟩
      simp only [Act.put, List.setIfInBounds_toArray, List.set]
      apply K.x_done
      intro w1 h_x
      have hx1 := hx_8_.trans h_x
      clear h_x hx_8_
      obtain ⟨⟨hcw1, hfw1⟩, hc'w1, hf'w1⟩ := hx1.all
      refine wpList_nil ?_
      refine NoPanic.normal ?_
      go_wp2
      go_roundw
      case rel => exact ⟨k + 1, by omega, by go_num, Z.hide (K.Ext.trans HX.out (by first | exact hx1 | exact (K.Ext.refl _).drew.trans hx1))⟩
      case measure => simp [intOf]; omega
    · obtain rfl : k = xs.length := by omega
      go_wp2
      go_ret
      exact ⟨rfl, HX.out⟩
end Go.Proofs.Ytphlppklhpaljaa
