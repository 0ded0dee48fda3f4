/-
  Part 3 of the texts of this claim: contracts of functions and plain mathematics.
-/
import Derived.Test.YtmgocfdhngeeiaaGreatDoorPUX2
set_option linter.unusedVariables false
section
namespace Go.Z
/-- the exponents of the unit of a formula, of the first k letters -/
def unitK (ps : List Int) (uss : List (List Int)) : Nat → List Int
  | 0 => [0, 0, 0, 0]
  | k + 1 => addN (unitK ps uss k) (uss.getD k []) (ps.getD k 0)
theorem unitK_length (ps : List Int) (uss : List (List Int)) (k : Nat) : (unitK ps uss k).length = 4 := by
  induction k with
  | zero => rfl
  | succ k ih => simp only [unitK, addN, List.length_map, List.length_range]; exact ih
theorem isUnit_at {u : List Int} (h : isUnit u = true) (i : Nat) (hi : i < u.length) : -9 ≤ u.getD i 0 ∧ u.getD i 0 ≤ 9 := by
  simp only [isUnit, Bool.and_eq_true, List.all_eq_true] at h
  have := h.1 u[i] (List.getElem_mem hi)
  simp only [in9, Bool.and_eq_true, decide_eq_true_eq] at this
  simpa [List.getD_eq_getElem?_getD, hi] using this
theorem unitK_bd {ps : List Int} {uss : List (List Int)} (hu : ∀ j (hj : j < uss.length), isUnit (uss[j]'hj) = true) (hp : ∀ j, j < uss.length → -6 ≤ ps.getD j 0 ∧ ps.getD j 0 ≤ 6) (k : Nat) (hk : k ≤ uss.length) :
    ∀ i, i < 4 → -(54 * (k : Int)) ≤ (unitK ps uss k).getD i 0 ∧ (unitK ps uss k).getD i 0 ≤ 54 * (k : Int) := by
  induction k with
  | zero =>
    intro i hi
    match i, hi with
    | 0, _ => simp [unitK]
    | 1, _ => simp [unitK]
    | 2, _ => simp [unitK]
    | 3, _ => simp [unitK]
  | succ k ih =>
    intro i hi
    obtain ⟨a, b⟩ := ih (by omega) i hi
    have hj : k < uss.length := by omega
    have e : uss.getD k [] = uss[k]'hj := by simp [List.getD_eq_getElem?_getD, hj]
    have h4 : (uss[k]'hj).length = 4 := by
      have := hu k hj
      simp only [isUnit, Bool.and_eq_true, beq_iff_eq] at this
      exact this.2
    obtain ⟨c, d⟩ := isUnit_at (hu k hj) i (by omega)
    obtain ⟨p1, p2⟩ := hp k hj
    obtain ⟨m1, m2⟩ := mul_bd (ps.getD k 0) ((uss[k]'hj).getD i 0) 6 9 p1 p2 c d
    simp only [unitK]
    rw [addN_get _ _ _ _ (by rw [unitK_length]; exact hi), e]
    constructor <;> omega
end Go.Z
namespace Go.K
open Go.RowKit
theorem ints4 {w : World} {g : Nat} {a b c d : Int} {T : TypeId} (h : w.heap[g]? = some (.cells #[.int .i64 a, .int .i64 b, .int .i64 c, .int .i64 d] T)) : K.ints w g (g + 1) (.slice (some ⟨g, 0, none⟩) 4 4) [a, b, c, d] := by
  refine ⟨_, 4, rfl, fun _ => ⟨g, 0, rfl, Nat.le_refl _, by omega, fun i hi => ?_⟩⟩
  match i, hi with
  | 0, _ => exact cell_at h rfl
  | 1, _ => exact cell_at h rfl
  | 2, _ => exact cell_at h rfl
  | 3, _ => exact cell_at h rfl
end Go.K
namespace Go.Proofs.YtmgocfdhngeeiaaGreatDoor
open Go.RowKit
theorem l19Add_sp (xs ys : List Int) (n : Int) {lo hi lo' hi' B : Nat} {v v' : Value} (w : World) (hB : B ≤ w.heap.size) (hm : xs.length ≤ 1048576) (hl : xs.length ≤ ys.length)
    (hb : ∀ i, i < xs.length → -1000000000 ≤ xs.getD i 0 ∧ xs.getD i 0 ≤ 1000000000) (hb' : ∀ i, i < ys.length → -1000000000 ≤ ys.getD i 0 ∧ ys.getD i 0 ≤ 1000000000) (hn : -1000000 ≤ n) (hn' : n ≤ 1000000)
    (h : K.ints w lo hi v xs) (h' : K.ints w lo' hi' v' ys) :
    Calls Tryz.prog 54 #[v, v', .int .i64 n] w fun e w' => ∃ r, e = .returned r ∧ K.Ext w w' ∧ (K.SP.own B (Z.addN xs ys n)).p r w' :=
  (l19Add_any xs ys n _ _ _ _ _ _ w hm hl hb hb' hn hn' h h').mono fun e w' ⟨⟨r, he, ho⟩, hx⟩ => ⟨r, he, hx, w'.heap.size, Nat.le_trans hB hx.size, Nat.le_refl _, ho.mono hB (Nat.le_refl _)⟩
set_option maxHeartbeats 3200000 in
theorem l19Of_any (F : Z.Fm) (uss : List (List Int)) {lo hi lo' hi' : Nat} {p v : Value} (w : World) (hF : Z.isFormula F = true) (hl : uss.length = F.nm.size) (hu : Z.allUnits uss = true) (h : K.ints w lo hi p F.pw) (h' : K.rows w lo' hi' v uss) :
    Calls Tryz.prog 63 #[.agg #[.int .i64 F.dg, .int .i64 F.tn, .string F.nm, p], v] w fun e w' => (∃ r, e = .returned r ∧ K.ints w' w.heap.size w'.heap.size r (Z.unitK F.pw uss uss.length)) ∧ K.Ext w w' := by
  have g1 := h
  obtain ⟨o, cap, rfl, _⟩ := g1
  have g2 := h'
  obtain ⟨o', cap', _, rfl, _⟩ := g2
  have HI := Z.hide h
  have HV := Z.hide h'
  obtain ⟨hpl, h6⟩ := Z.isFormula_len hF
  have hus : ∀ j (hj : j < uss.length), Z.isUnit (uss[j]'hj) = true := fun j hj => by
    unfold Z.allUnits at hu; rw [List.all_eq_true] at hu; exact hu _ (List.getElem_mem hj)
  have hps : ∀ i, i < uss.length → -6 ≤ F.pw.getD i 0 ∧ F.pw.getD i 0 ≤ 6 := fun i hi => by
    have := Z.okAt_parts (Z.valid_at hF i (by omega))
    exact ⟨this.2.2.2.2.1, this.2.2.2.2.2⟩
  have HB := Z.hide (Z.unitK_bd hus hps)
  have HUS := Z.hide hus
  have HPS := Z.hide hps
  obtain ⟨n, hn⟩ : ∃ n, n = uss.length := ⟨_, rfl⟩
  have hn6 : n ≤ 6 := by omega
  have hnp : n ≤ F.pw.length := by omega
  have HN := Z.hide hn
  rw [← hn]
  clear h h' hF hl hu hpl h6 hus hps hn
  go_enter Tryz.func63, Tryz.ntmps63
  go_wp2
  go_loopw [5, 6] (fun out i wr => ∃ k : Nat, k ≤ n ∧ i = .int .i64 k ∧ Hid (K.ints wr w.heap.size wr.heap.size out (Z.unitK F.pw uss k)) ∧ Hid (wr.cell? ⟨w.heap.size, 3, none⟩ = some (.slice o F.pw.length cap)) ∧ Hid (K.Ext w wr)) (fun _ i _ => n - (intOf i).toNat)
  case atStart => exact ⟨0, Nat.zero_le _, rfl, Z.hide ((K.ints4 (K.block_new (by simp))).mono (by simp) (by simp)), Z.hide (by go_simp), Z.hide (by repeat' (first | with_reducible exact K.Ext.refl _ | with_reducible assumption | with_reducible refine K.Ext.drew ?_ | with_reducible refine K.Ext.alloc ?_ _ | with_reducible refine K.Ext.setCell ?_ ?_ _ | with_reducible refine K.Ext.trans ?_ (by with_reducible assumption) | (dsimp only; omega) | omega | exact K.Ext.refl _ | assumption | apply K.Ext.drew | refine K.Ext.alloc ?_ _ | refine K.Ext.setCell ?_ ?_ _ | (simp; done) | (simp; omega) | refine K.Ext.trans ?_ (by assumption)))⟩
  case round =>
    obtain ⟨k, hk, rfl, HO, HC, HX⟩ := hrel
    have k0 : (0 : Int) ≤ (k : Int) := Int.natCast_nonneg k
    by_cases hlt : k < n
    · have k1 : (k : Int) < (n : Int) := by omega
      have k2 : (k : Int) < (F.pw.length : Int) := by omega
      have hku : k < uss.length := by rw [← HN.out]; exact hlt
      obtain ⟨b, off, u, rfl, _, _, hc, hu⟩ := K.rows_at (HV.out.ext HX.out) k hku
      obtain ⟨b', off', rfl, _, _, hc'⟩ := K.ints_at HI.out (by omega)
      have p0 : wr.cell? ⟨b', off' + k, none⟩ = some (.int .i64 (F.pw.getD k 0)) := HX.out.cell_of (hc' k (by omega))
      have c3 := HC.out
      have huk := HUS.out k hku
      have hpk := HPS.out k hku
      have e : uss.getD k [] = uss[k]'hku := by simp [List.getD_eq_getElem?_getD, hku]
      have HE : Hid (Z.unitK F.pw uss (k + 1) = Z.addN (Z.unitK F.pw uss k) (uss[k]'hku) (F.pw.getD k 0)) := Z.hide (by rw [← e]; rfl)
      have h4 : (uss[k]'hku).length = 4 := by
        have := huk
        simp only [Z.isUnit, Bool.and_eq_true, beq_iff_eq] at this
        exact this.2
      have hbk := HB.out k (by omega)
      have A1 : Hid (∀ i, i < (Z.unitK F.pw uss k).length → -1000000000 ≤ (Z.unitK F.pw uss k).getD i 0 ∧ (Z.unitK F.pw uss k).getD i 0 ≤ 1000000000) := Z.hide (fun i hi => by rw [Z.unitK_length] at hi; have := hbk i hi; omega)
      have A2 : Hid (∀ i, i < (uss[k]'hku).length → -1000000000 ≤ (uss[k]'hku).getD i 0 ∧ (uss[k]'hku).getD i 0 ≤ 1000000000) := Z.hide (fun i hi => by have := Z.isUnit_at huk i hi; omega)
      have A3 := Z.hide (Z.unitK_length F.pw uss k)
      have H4 := Z.hide h4
      obtain ⟨ys, hy⟩ : ∃ ys, ys = uss[k]'hku := ⟨_, rfl⟩
      rw [← hy] at hu HE A2 H4
      clear hc' hbk huk e h4 hy
      generalize Z.unitK F.pw uss k = xs at *
      generalize F.pw.getD k 0 = m at *
      obtain ⟨hpk1, hpk2⟩ := hpk
      have hu2 := hu
      obtain ⟨o2, c2, rfl, _⟩ := hu2
      have ho2 := HO.out
      obtain ⟨o3, c4, rfl, _⟩ := ho2
      have lw := HX.out.size
      go_wp2_with fail
      refine K.wp_region_x 11 [0, 0, 0, 0, 1, 0, 1, 0, 0, 1, 2] [K.SP.any, K.SP.any, K.SP.any, K.SP.any, K.SP.any, K.SP.any, K.SP.any, K.SP.any, K.SP.any, K.SP.any, (K.SP.own (w.heap.size) (Z.addN xs ys m))] (by kernel_rfl) (by kernel_rfl) ?_
      simp only [List.take_succ_cons, List.take_zero, List.drop_succ_cons, List.drop_zero]
      iterate 4
        apply K.x_pure
        · rfl
        · rfl
        · intro w'; go_simp; first | done | exact K.vint (IntWalk.i64_in _ (by omega)) | rfl | exact ⟨rfl, rfl⟩
        simp only [Act.put, List.setIfInBounds_toArray, List.set]
      apply K.x_held
      · rfl
      · rfl
      · intro w' hx; have hc := hx.all.1.1; have hf := hx.all.1.2; have hc' := hx.all.2.1; have hf' := hx.all.2.2; go_simp; first | done | rfl | exact ⟨rfl, rfl⟩
      simp only [Act.put, List.setIfInBounds_toArray, List.set]
      apply K.x_pure
      · rfl
      · rfl
      · intro w'; go_simp; first | done | exact K.vint (IntWalk.i64_in _ (by omega)) | rfl | exact ⟨rfl, rfl⟩
      simp only [Act.put, List.setIfInBounds_toArray, List.set]
      apply K.x_held
      · rfl
      · rfl
      · intro w' hx; have hc := hx.all.1.1; have hf := hx.all.1.2; have hc' := hx.all.2.1; have hf' := hx.all.2.2; go_simp; first | done | rfl | exact ⟨rfl, rfl⟩
      simp only [Act.put, List.setIfInBounds_toArray, List.set]
      iterate 2
        apply K.x_pure
        · rfl
        · rfl
        · intro w'; go_simp; first | done | exact K.vint (IntWalk.i64_in _ (by omega)) | rfl | exact ⟨rfl, rfl⟩
        simp only [Act.put, List.setIfInBounds_toArray, List.set]
      apply K.x_held
      · rfl
      · rfl
      · intro w' hx; have hc := hx.all.1.1; have hf := hx.all.1.2; have hc' := hx.all.2.1; have hf' := hx.all.2.2; go_simp; first | done | rfl | exact ⟨rfl, rfl⟩
      simp only [Act.put, List.setIfInBounds_toArray, List.set]
      apply K.x_call
      · rfl
      · rfl
      · intro w'; go_simp; first | done | rfl | exact ⟨rfl, rfl⟩
      · intro w' hx hp; have hc := hx.all.1.1; have hf := hx.all.1.2; have hc' := hx.all.2.1; have hf' := hx.all.2.2; exact l19Add_sp xs ys m _ (by have h_ := hx.size; simp at h_; omega) (by rw [A3.out]; decide) (by rw [A3.out, H4.out]; decide) A1.out A2.out (by omega) (by omega) (K.ints.ext (K.ints.drew HO.out) hx) (K.ints.ext (K.ints.drew hu) hx)
      intro v10 w_10_ hx_10_ hv10
      obtain ⟨hi10, hb10, hs10, ho10⟩ := hv10; have hq10 := ho10; obtain ⟨o6, c6, rfl, _⟩ := hq10
      simp only [Act.put, List.setIfInBounds_toArray, List.set]
      apply K.x_done
      intro w6 h_x
      have hx6 := hx_10_.trans h_x
      have hxe10 := K.Ext.id (h_x)
      clear h_x hx_10_
      obtain ⟨⟨hcw6, hfw6⟩, hc'w6, hf'w6⟩ := hx6.all
      go_wp2_with fail
      refine NoPanic.normal ?_
      have D3 := Z.hide (hx6.cell_of (show wr.drew.cell? ⟨w.heap.size, 3, none⟩ = some (.slice (some ⟨b', off', none⟩) F.pw.length cap) from by go_simp))
      have HX6 : Hid (K.Ext w w6) := Z.hide (K.Ext.trans HX.out.drew hx6)
      have HO6 : Hid (K.ints w6 w.heap.size w6.heap.size (.slice o6 (Z.addN xs ys m).length c6) (Z.addN xs ys m)) := Z.hide ((K.own.ints (ho10.ext hxe10)).mono (Nat.le_refl _) (by have h_ := hxe10.size; omega))
      go_wp2
      go_roundw
      case rel => exact ⟨k + 1, by omega, by go_num, Z.hide (by rw [HE.out]; exact HO6.out), D3, HX6⟩
      case measure => simp [intOf]; omega
    · obtain rfl : k = n := by omega
      go_wp2
      go_ret
      exact ⟨⟨_, rfl, HO.out⟩, HX.out⟩
end Go.Proofs.YtmgocfdhngeeiaaGreatDoor
end
section
namespace Go.Z
/-- the unit of the first k letters; of the next one, the first j exponents -/
def unitJ (ps : List Int) (uss : List (List Int)) (k j : Nat) : List Int := (List.range 4).map (fun i => if i < j then (unitK ps uss (k + 1)).getD i 0 else (unitK ps uss k).getD i 0)
theorem unitJ_length (ps : List Int) (uss : List (List Int)) (k j : Nat) : (unitJ ps uss k j).length = 4 := by simp [unitJ]
theorem unitJ_get (ps : List Int) (uss : List (List Int)) (k j i : Nat) (h : i < 4) : (unitJ ps uss k j).getD i 0 = if i < j then (unitK ps uss (k + 1)).getD i 0 else (unitK ps uss k).getD i 0 := by simp [unitJ, List.getD_eq_getElem?_getD, h]
theorem list_ext4 {a b : List Int} (ha : a.length = 4) (hb : b.length = 4) (h : ∀ i, i < 4 → a.getD i 0 = b.getD i 0) : a = b := by
  apply List.ext_getElem (by omega)
  intro i h1 h2
  have := h i (by omega)
  simpa [List.getD_eq_getElem?_getD, h1, h2] using this
theorem unitJ_zero (ps : List Int) (uss : List (List Int)) (k : Nat) : unitJ ps uss k 0 = unitK ps uss k :=
  list_ext4 (unitJ_length _ _ _ _) (unitK_length _ _ _) (fun i hi => by rw [unitJ_get _ _ _ _ _ hi, if_neg (by omega)])
theorem unitJ_four (ps : List Int) (uss : List (List Int)) (k : Nat) : unitJ ps uss k 4 = unitK ps uss (k + 1) :=
  list_ext4 (unitJ_length _ _ _ _) (unitK_length _ _ _) (fun i hi => by rw [unitJ_get _ _ _ _ _ hi, if_pos hi])
theorem unitJ_succ (ps : List Int) (uss : List (List Int)) (k j : Nat) (hj : j < 4) : unitJ ps uss k (j + 1) = (unitJ ps uss k j).set j ((unitK ps uss (k + 1)).getD j 0) := by
  apply List.ext_getElem
  · simp [unitJ]
  · intro i h1 h2
    rw [List.getElem_set]
    simp only [unitJ, List.getElem_map, List.getElem_range]
    by_cases h : j = i
    · subst h; simp
    · rw [if_neg h]
      by_cases h3 : i < j
      · rw [if_pos h3, if_pos (by omega)]
      · rw [if_neg h3, if_neg (by omega)]
end Go.Z
namespace Go.Proofs.YtmgocfdhngeeiaaGreatDoor
open Go.RowKit
set_option maxHeartbeats 6400000 in
theorem unitOf_any (F : Z.Fm) (uss : List (List Int)) {lo hi lo' hi' : Nat} {p v : Value} (w : World) (hF : Z.isFormula F = true) (hl : uss.length = F.nm.size) (hu : Z.allUnits uss = true) (h : K.ints w lo hi p F.pw) (h' : K.rows w lo' hi' v uss) :
    Calls Tryz.prog 59 #[.agg #[.int .i64 F.dg, .int .i64 F.tn, .string F.nm, p], v] w fun e w' => (∃ r, e = .returned r ∧ K.own w' w.heap.size w'.heap.size r (Z.unitK F.pw uss uss.length)) ∧ K.Ext w w' := by
  have g1 := h
  obtain ⟨o, cap, rfl, _⟩ := g1
  have g2 := h'
  obtain ⟨o', cap', _, rfl, _⟩ := g2
  have HI := Z.hide h
  have HV := Z.hide h'
  obtain ⟨hpl, h6⟩ := Z.isFormula_len hF
  have hus : ∀ j (hj : j < uss.length), Z.isUnit (uss[j]'hj) = true := fun j hj => by
    unfold Z.allUnits at hu; rw [List.all_eq_true] at hu; exact hu _ (List.getElem_mem hj)
  have hps : ∀ i, i < uss.length → -6 ≤ F.pw.getD i 0 ∧ F.pw.getD i 0 ≤ 6 := fun i hi => by
    have := Z.okAt_parts (Z.valid_at hF i (by omega))
    exact ⟨this.2.2.2.2.1, this.2.2.2.2.2⟩
  have HB := Z.hide (Z.unitK_bd hus hps)
  have HUS := Z.hide hus
  have HPS := Z.hide hps
  obtain ⟨n, hn⟩ : ∃ n, n = uss.length := ⟨_, rfl⟩
  have hn6 : n ≤ 6 := by omega
  have hnp : n ≤ F.pw.length := by omega
  have HN := Z.hide hn
  rw [← hn]
  clear h h' hF hl hu hpl h6 hus hps hn
  obtain ⟨i0, hi0, hz0, hz1, hz2⟩ := info_parts info_int
  go_enter Tryz.func59, Tryz.ntmps59
  go_wp2_with (at_make; refine wpList_make_full _ rfl _ _ 24 rfl (w.heap.size + 1) 2 i0 (.int .i64 0) 1 Tryz.underlying24 hi0 hz0 hz1 _ _ _ _ 4 rfl rfl rfl rfl (by rw [hz2]; omega) (by unfold maxLen; omega) (by simp) ?_; intro w1 hown1 hgrow1)
  have hx1 : K.Ext w w1 := ((K.Ext.refl w).alloc _).below.grown hgrow1 (by simp) (fun g hg => by cases hg)
  have hc1 : w1.cell? ⟨w.heap.size, 3, none⟩ = some (.slice o F.pw.length cap) := (hgrow1.cell_far ⟨w.heap.size, 3, none⟩ (by simp) (by simp)).trans (by go_simp)
  have HX1 := Z.hide hx1
  have HC1 := Z.hide hc1
  have HO1 : Hid (w1.ownsRow (w.heap.size + 1) 2 1 (.slice (some ⟨w.heap.size + 1, 0, none⟩) 4 4) 4 ((Z.unitK F.pw uss 0).map (Value.int .i64))) := Z.hide (by simpa [toList_madeCells_one, Value.cells, Z.unitK, List.replicate] using hown1)
  clear hown1 hgrow1 hx1 hc1 hi0 hz0 hz1 hz2
  go_loopw [13] (fun i wr => ∃ k : Nat, k ≤ n ∧ i = .int .i64 k ∧ Hid (wr.ownsRow (w.heap.size + 1) 2 1 (.slice (some ⟨w.heap.size + 1, 0, none⟩) 4 4) 4 ((Z.unitK F.pw uss k).map (Value.int .i64))) ∧ Hid (wr.cell? ⟨w.heap.size, 3, none⟩ = some (.slice o F.pw.length cap)) ∧ Hid (K.Ext w wr)) (fun i _ => n - (intOf i).toNat)
  case atStart => exact ⟨0, Nat.zero_le _, rfl, HO1, HC1, HX1⟩
  case round =>
    obtain ⟨k, hk, rfl, HO, HC, HX⟩ := hrel
    clear HO1 HC1 HX1
    obtain ⟨wo, rfl⟩ : ∃ wo : World, wo = wr := ⟨_, rfl⟩
    have k0 : (0 : Int) ≤ (k : Int) := Int.natCast_nonneg k
    by_cases hlt : k < n
    · have k1 : (k : Int) < (n : Int) := by omega
      have k2 : (k : Int) < (F.pw.length : Int) := by omega
      have hku : k < uss.length := by rw [← HN.out]; exact hlt
      obtain ⟨b, off, u, rfl, _, _, hc, hu⟩ := K.rows_at HV.out k hku
      obtain ⟨b', off', rfl, _, _, hc'⟩ := K.ints_at HI.out (by omega)
      have p0 := Z.hide (hc' k (by omega))
      have huk := HUS.out k hku
      have hpk := HPS.out k hku
      have e : uss.getD k [] = uss[k]'hku := by simp [List.getD_eq_getElem?_getD, hku]
      have HE : Hid (Z.unitK F.pw uss (k + 1) = Z.addN (Z.unitK F.pw uss k) (uss[k]'hku) (F.pw.getD k 0)) := Z.hide (by rw [← e]; rfl)
      have h4 : (uss[k]'hku).length = 4 := Z.isUnit_len huk
      have HBk := Z.hide (HB.out k (by omega))
      obtain ⟨ys, hy⟩ : ∃ ys, ys = uss[k]'hku := ⟨_, rfl⟩
      rw [← hy] at hu HE h4 huk
      have H9 := Z.hide (Z.isUnit_bd9 huk)
      have H4 := Z.hide h4
      have hu2 := hu
      obtain ⟨o2, c2, rfl, _⟩ := hu2
      rw [h4] at hu hc
      have HU := Z.hide hu
      have hcw := HX.out.cell_of hc
      clear hc' huk e h4 hy hu
      generalize hm : F.pw.getD k 0 = m at *
      obtain ⟨hpk1, hpk2⟩ := hpk
      clear hm hc
      go_wp2
      go_loopw [20] (fun jj wr => ∃ j : Nat, j ≤ 4 ∧ jj = .int .i64 j ∧ Hid (wr.ownsRow (w.heap.size + 1) 2 1 (.slice (some ⟨w.heap.size + 1, 0, none⟩) 4 4) 4 ((Z.unitJ F.pw uss k j).map (Value.int .i64))) ∧ Hid (wr.cell? ⟨w.heap.size, 3, none⟩ = some (.slice (some ⟨b', off', none⟩) F.pw.length cap)) ∧ Hid (K.Ext w wr)) (fun jj _ => 4 - (intOf jj).toNat)
      case atStart => exact ⟨0, Nat.zero_le _, rfl, Z.hide (by rw [Z.unitJ_zero]; exact HO.out), HC, HX⟩
      case round =>
        obtain ⟨j, hj, rfl, HOj, HCj, HXj⟩ := hrel
        have j0 : (0 : Int) ≤ (j : Int) := Int.natCast_nonneg j
        by_cases hlt2 : j < 4
        · have j1 : (j : Int) < 4 := by omega
          obtain ⟨b2, off2, rfl, _, _, hcy⟩ := K.ints_at HU.out (by rw [H4.out]; decide)
          have y0 : wr.cell? ⟨b2, off2 + j, none⟩ = some (.int .i64 (ys.getD j 0)) := HXj.out.cell_of (hcy j (by rw [H4.out]; exact hlt2))
          have p1 : wr.cell? ⟨b', off' + k, none⟩ = some (.int .i64 m) := HXj.out.cell_of p0.out
          have c3 := HCj.out
          have x0 : wr.cell? ⟨w.heap.size + 1, j, none⟩ = some (.int .i64 ((Z.unitK F.pw uss k).getD j 0)) := by
            have hx := Z.unitJ_get F.pw uss k j j hlt2
            rw [if_neg (Nat.lt_irrefl j)] at hx
            rw [HOj.out.cellAt j (by omega), ← hx]
            simp [Z.unitJ_length, hlt2, List.getD_eq_getElem?_getD]
          have f0 := HOj.out.frozenAt j
          obtain ⟨xb1, xb2⟩ := HBk.out j hlt2
          obtain ⟨yb1, yb2⟩ := H9.out j (by rw [H4.out]; exact hlt2)
          have HS : Hid (Z.unitJ F.pw uss k (j + 1) = (Z.unitJ F.pw uss k j).set j ((Z.unitK F.pw uss k).getD j 0 + m * ys.getD j 0)) := Z.hide (by
            rw [Z.unitJ_succ _ _ _ _ hlt2, HE.out, Z.addN_get _ _ _ _ (by rw [Z.unitK_length]; exact hlt2)])
          generalize (Z.unitK F.pw uss k).getD j 0 = x at *
          generalize ys.getD j 0 = y at *
          obtain ⟨m1, m2⟩ := Z.mul_bd m y 6 9 hpk1 hpk2 yb1 yb2
          have q1 : IntKind.i64.wrap (m * y) = m * y := IntWalk.i64_in _ (by omega)
          have q2 : IntKind.i64.wrap (x + m * y) = x + m * y := IntWalk.i64_in _ (by omega)
          clear hcy
          go_wp2_with fail
          refine K.wp_region_x 12 [0, 0, 0, 1, 0, 1, 0, 0, 1, 0, 0, 0] [] (by kernel_rfl) (by kernel_rfl) ?_
          simp only [List.take_succ_cons, List.take_zero, List.drop_succ_cons, List.drop_zero]
          iterate 3
            apply K.x_pure
            · rfl
            · rfl
            · intro w'; go_simp; first | done | exact K.vint (IntWalk.i64_in _ (by omega)) | rfl | exact ⟨rfl, rfl⟩
            simp only [Act.put, List.setIfInBounds_toArray, List.set]
          apply K.x_held
          · rfl
          · rfl
          · intro w' hx; have hc := hx.all.1.1; have hf := hx.all.1.2; have hc' := hx.all.2.1; have hf' := hx.all.2.2; go_simp; first | done | rfl | exact ⟨rfl, rfl⟩
          simp only [Act.put, List.setIfInBounds_toArray, List.set]
          apply K.x_pure
          · rfl
          · rfl
          · intro w'; go_simp; first | done | exact K.vint (IntWalk.i64_in _ (by omega)) | rfl | exact ⟨rfl, rfl⟩
          simp only [Act.put, List.setIfInBounds_toArray, List.set]
          apply K.x_held
          · rfl
          · rfl
          · intro w' hx; have hc := hx.all.1.1; have hf := hx.all.1.2; have hc' := hx.all.2.1; have hf' := hx.all.2.2; go_simp; first | done | rfl | exact ⟨rfl, rfl⟩
          simp only [Act.put, List.setIfInBounds_toArray, List.set]
          iterate 2
            apply K.x_pure
            · rfl
            · rfl
            · intro w'; go_simp; first | done | exact K.vint (IntWalk.i64_in _ (by omega)) | rfl | exact ⟨rfl, rfl⟩
            simp only [Act.put, List.setIfInBounds_toArray, List.set]
          apply K.x_held
          · rfl
          · rfl
          · intro w' hx; have hc := hx.all.1.1; have hf := hx.all.1.2; have hc' := hx.all.2.1; have hf' := hx.all.2.2; go_simp; first | done | rfl | exact ⟨rfl, rfl⟩
          simp only [Act.put, List.setIfInBounds_toArray, List.set]
          iterate 3
            apply K.x_pure
            · rfl
            · rfl
            · intro w'; go_simp; first | done | exact K.vint (IntWalk.i64_in _ (by omega)) | rfl | exact ⟨rfl, rfl⟩
            simp only [Act.put, List.setIfInBounds_toArray, List.set]
          apply K.x_done
          intro w6 h_x
          have hx6 := K.Ext.id h_x
          clear h_x
          obtain ⟨⟨hcw6, hfw6⟩, hc'w6, hf'w6⟩ := hx6.all
          go_wp2_with fail
          refine NoPanic.normal ?_
          have HO6 := Z.hide ((K.row_ext HOj.out.drew hx6).stored j (.int .i64 (x + m * y)))
          have HC6 : Hid ((w6.setCell ⟨w.heap.size + 1, j, none⟩ (.int .i64 (x + m * y))).cell? ⟨w.heap.size, 3, none⟩ = some (.slice (some ⟨b', off', none⟩) F.pw.length cap)) := Z.hide (by
            rw [World.cell?_setCell_other (h := by simp)]
            exact hx6.cell_of (show wr.drew.cell? ⟨w.heap.size, 3, none⟩ = _ from by go_simp))
          have HX6 : Hid (K.Ext w (w6.setCell ⟨w.heap.size + 1, j, none⟩ (.int .i64 (x + m * y)))) := Z.hide (K.Ext.setCell (K.Ext.trans HXj.out.drew hx6) (by dsimp only; omega) _)
          go_wp2
          go_roundw
          case rel => exact ⟨j + 1, by omega, by go_num, Z.hide (by rw [HS.out, List.map_set]; exact HO6.out.1), HC6, HX6⟩
          case measure => simp [intOf]; omega
        · obtain rfl : j = 4 := by omega
          go_wp2
          go_roundw
          case rel => exact ⟨k + 1, by omega, by go_num, Z.hide (by rw [← Z.unitJ_four]; exact HOj.out), HCj, HXj⟩
          case measure => simp [intOf]; omega
    · obtain rfl : k = n := by omega
      have HR := K.own_of_row HO.out
      go_wp2
      go_ret
      exact ⟨⟨_, rfl, HR.mono (by omega) (Nat.le_refl _)⟩, HX.out⟩
end Go.Proofs.YtmgocfdhngeeiaaGreatDoor
end
section
namespace Go.Z
def UnitOf (F : Fm) (uss : List (List Int)) : List Int × Int := if isFormula F && okUnits F uss then unitOr (unitK F.pw uss uss.length) else ([], 1)
theorem okUnits_len {F : Fm} {uss : List (List Int)} (h : okUnits F uss = true) : uss.length = F.nm.size ∧ allUnits uss = true := by
  simpa [okUnits] using h
end Go.Z
namespace Go.Proofs.YtmgocfdhngeeiaaGreatDoor
open Go.RowKit
set_option maxHeartbeats 3200000 in
theorem spec_UnitOf (F : Z.Fm) (U : List (List Int)) {loF hiF : Nat} {pF : Value} {loU hiU : Nat} {pU : Value} (w : World)  (hmF : F.pw.length ≤ 1048576) (hnF : F.nm.size ≤ 1048576) (hF : K.ints w loF hiF pF F.pw) (hmU : U.length ≤ 1048576) (hqU : ∀ xs ∈ U, (xs : List Int).length ≤ 1048576) (hU : K.rows w loU hiU pU U) :
    Calls Tryz.prog 56 #[.agg #[.int .i64 F.dg, .int .i64 F.tn, .string F.nm, pF], pU] w fun e w' => (∃ p', e = .returned (.tuple #[p', .int .i64 ((Z.UnitOf F U).2)]) ∧ K.ints w' w.heap.size w'.heap.size p' ((Z.UnitOf F U).1)) ∧ K.Ext w w' := by
  have hF_ := hF
  have shF := hF
  obtain ⟨oF, cF, rfl, _⟩ := shF
  have hU_ := hU
  have shU := hU
  obtain ⟨oU, cU, _, rfl, _⟩ := shU
  cases vF : Z.isFormula F
  · have HE : Hid (Z.UnitOf F U = ([], 1)) := Z.hide (by unfold Z.UnitOf; rw [vF]; rfl)
    have X0 : K.Ext w w := K.Ext.refl w
    go_enter Tryz.func56, Tryz.ntmps56
    go_wp2_with (go_at_call 60; refine K.call (by with_reducible rfl) (by with_reducible rfl) (spec_IsFormula F _ hmF hnF (K.ints.alloc hF_ _)) ?_; rintro e w1 ⟨rfl, x1⟩; have s1 : w.heap.size + 1 ≤ w1.heap.size := (by have h_ := x1.size; (try simp at h_); omega); have X1 := K.Ext.trans (K.Ext.alloc X0 _) x1; obtain ⟨c1_0_0, c1_0_1, c1_0_2, c1_0_3⟩ := K.c4 x1 (w.heap.size) (.int .i64 F.dg) (.int .i64 F.tn) (.string F.nm) (.slice oF F.pw.length cF) (by go_simp); have z1_0 : w.heap.size < w1.heap.size := World.block_lt_of_cell? w1 _ c1_0_0; have d1_0 : ¬ (w.heap.size = w1.heap.size) := (by omega); have e1_0 : ¬ (w1.heap.size = w.heap.size) := (by omega); have F1_1 := K.ints.ext (K.ints.alloc hF_ _) x1; have F2_1 := K.rows.ext (K.rows.alloc hU_ _) x1; clear hF_ hU_)
    rw [HE.out]
    refine bodyPost_ret (v := .tuple #[.slice none 0 0, .int .i64 1]) (by unfold results; rw [Tryz.results56]; go_simp) rfl ⟨⟨_, rfl, ?_⟩, ?_⟩
    · exact K.ints_nil _ _ _
    · repeat with_reducible refine K.Ext.setCell ?_ (by dsimp only; omega) _
      exact (by repeat' (first | with_reducible exact X1 | with_reducible refine K.Ext.setCell ?_ ?_ _ | with_reducible refine K.Ext.alloc ?_ _ | with_reducible refine K.Ext.drew ?_ | (dsimp only; omega) | omega | (simp; omega)))
  · cases vU : Z.okUnits F U
    · have HE : Hid (Z.UnitOf F U = ([], 1)) := Z.hide (by unfold Z.UnitOf; rw [vF, vU]; rfl)
      have X0 : K.Ext w w := K.Ext.refl w
      go_enter Tryz.func56, Tryz.ntmps56
      go_wp2_with (go_at_call 60; refine K.call (by with_reducible rfl) (by with_reducible rfl) (spec_IsFormula F _ hmF hnF (K.ints.alloc hF_ _)) ?_; rintro e w1 ⟨rfl, x1⟩; have s1 : w.heap.size + 1 ≤ w1.heap.size := (by have h_ := x1.size; (try simp at h_); omega); have X1 := K.Ext.trans (K.Ext.alloc X0 _) x1; obtain ⟨c1_0_0, c1_0_1, c1_0_2, c1_0_3⟩ := K.c4 x1 (w.heap.size) (.int .i64 F.dg) (.int .i64 F.tn) (.string F.nm) (.slice oF F.pw.length cF) (by go_simp); have z1_0 : w.heap.size < w1.heap.size := World.block_lt_of_cell? w1 _ c1_0_0; have d1_0 : ¬ (w.heap.size = w1.heap.size) := (by omega); have e1_0 : ¬ (w1.heap.size = w.heap.size) := (by omega); have F1_1 := K.ints.ext (K.ints.alloc hF_ _) x1; have F2_1 := K.rows.ext (K.rows.alloc hU_ _) x1; clear hF_ hU_)
      go_wp2_with (go_at_call 61; refine K.call (by with_reducible rfl) (by with_reducible rfl) (l19Units_any F U _ hnF hmU hqU (F2_1)) ?_; rintro e w2 ⟨rfl, x2⟩; have s2 : w1.heap.size ≤ w2.heap.size := (by have h_ := x2.size; (try simp at h_); omega); have X2 := K.Ext.trans (X1) x2; obtain ⟨c2_0_0, c2_0_1, c2_0_2, c2_0_3⟩ := K.c4 x2 (w.heap.size) (.int .i64 F.dg) (.int .i64 F.tn) (.string F.nm) (.slice oF F.pw.length cF) (by go_simp); have z2_0 : w.heap.size < w2.heap.size := World.block_lt_of_cell? w2 _ c2_0_0; have d2_0 : ¬ (w.heap.size = w2.heap.size) := (by omega); have e2_0 : ¬ (w2.heap.size = w.heap.size) := (by omega); have F1_2 := K.ints.ext (F1_1) x2; have F2_2 := K.rows.ext (F2_1) x2; clear c1_0_0 c1_0_1 c1_0_2 c1_0_3 z1_0 d1_0 e1_0 F1_1 F2_1)
      rw [HE.out]
      refine bodyPost_ret (v := .tuple #[.slice none 0 0, .int .i64 1]) (by unfold results; rw [Tryz.results56]; go_simp) rfl ⟨⟨_, rfl, ?_⟩, ?_⟩
      · exact K.ints_nil _ _ _
      · repeat with_reducible refine K.Ext.setCell ?_ (by dsimp only; omega) _
        exact (by repeat' (first | with_reducible exact X2 | with_reducible refine K.Ext.setCell ?_ ?_ _ | with_reducible refine K.Ext.alloc ?_ _ | with_reducible refine K.Ext.drew ?_ | (dsimp only; omega) | omega | (simp; omega)))
    · obtain ⟨k, hk⟩ : ∃ k, k = Z.unitK F.pw U U.length := ⟨_, rfl⟩
      obtain ⟨M, hM⟩ : ∃ M, M = Z.unitOr k := ⟨_, rfl⟩
      have HE : Hid (Z.UnitOf F U = M) := Z.hide (by unfold Z.UnitOf; rw [vF, vU, hM, hk]; rfl)
      have HK : ∀ {a b c d : Nat} {p v : Value} (w : World), K.ints w a b p F.pw → K.rows w c d v U → Calls Tryz.prog 63 #[.agg #[.int .i64 F.dg, .int .i64 F.tn, .string F.nm, p], v] w fun e w' => (∃ r, e = .returned r ∧ K.ints w' w.heap.size w'.heap.size r k) ∧ K.Ext w w' := fun w h h' => by
        rw [hk]; exact l19Of_any F U w vF (Z.okUnits_len vU).1 (Z.okUnits_len vU).2 h h'
      have hkl : k.length ≤ 1048576 := by rw [hk, Z.unitK_length]; decide
      have HR : ∀ {a b : Nat} {v : Value} (w : World), K.ints w a b v k → Calls Tryz.prog 53 #[v] w fun e w' => (∃ r, e = .returned (.tuple #[r, .int .i64 M.2]) ∧ K.ints w' a b r M.1) ∧ K.Ext w w' := fun w h => by
        rw [hM]; exact (l19Result_any k _ _ _ w hkl h).mono fun e w' ⟨⟨r, he, ho⟩, hw⟩ => by subst hw; exact ⟨⟨r, he, ho⟩, K.Ext.refl _⟩
      clear hk hM
      have X0 : K.Ext w w := K.Ext.refl w
      go_enter Tryz.func56, Tryz.ntmps56
      go_wp2_with (go_at_call 60; refine K.call (by with_reducible rfl) (by with_reducible rfl) (spec_IsFormula F _ hmF hnF (K.ints.alloc hF_ _)) ?_; rintro e w1 ⟨rfl, x1⟩; have s1 : w.heap.size + 1 ≤ w1.heap.size := (by have h_ := x1.size; (try simp at h_); omega); have X1 := K.Ext.trans (K.Ext.alloc X0 _) x1; obtain ⟨c1_0_0, c1_0_1, c1_0_2, c1_0_3⟩ := K.c4 x1 (w.heap.size) (.int .i64 F.dg) (.int .i64 F.tn) (.string F.nm) (.slice oF F.pw.length cF) (by go_simp); have z1_0 : w.heap.size < w1.heap.size := World.block_lt_of_cell? w1 _ c1_0_0; have d1_0 : ¬ (w.heap.size = w1.heap.size) := (by omega); have e1_0 : ¬ (w1.heap.size = w.heap.size) := (by omega); have F1_1 := K.ints.ext (K.ints.alloc hF_ _) x1; have F2_1 := K.rows.ext (K.rows.alloc hU_ _) x1; clear hF_ hU_)
      go_wp2_with (go_at_call 61; refine K.call (by with_reducible rfl) (by with_reducible rfl) (l19Units_any F U _ hnF hmU hqU (F2_1)) ?_; rintro e w2 ⟨rfl, x2⟩; have s2 : w1.heap.size ≤ w2.heap.size := (by have h_ := x2.size; (try simp at h_); omega); have X2 := K.Ext.trans (X1) x2; obtain ⟨c2_0_0, c2_0_1, c2_0_2, c2_0_3⟩ := K.c4 x2 (w.heap.size) (.int .i64 F.dg) (.int .i64 F.tn) (.string F.nm) (.slice oF F.pw.length cF) (by go_simp); have z2_0 : w.heap.size < w2.heap.size := World.block_lt_of_cell? w2 _ c2_0_0; have d2_0 : ¬ (w.heap.size = w2.heap.size) := (by omega); have e2_0 : ¬ (w2.heap.size = w.heap.size) := (by omega); have F1_2 := K.ints.ext (F1_1) x2; have F2_2 := K.rows.ext (F2_1) x2; clear c1_0_0 c1_0_1 c1_0_2 c1_0_3 z1_0 d1_0 e1_0 F1_1 F2_1)
      go_wp2_with (go_at_call 63; refine K.call (by with_reducible rfl) (by with_reducible rfl) (HK _ (F1_2) (F2_2)) ?_; rintro e w3 ⟨⟨p3, rfl, g3⟩, x3⟩; obtain ⟨o3, k3, rfl, _⟩ := K.ints.mono g3 (Nat.le_refl _) (Nat.le_refl _); have F3_3 : K.ints w3 (w2.heap.size) (w3.heap.size) (.slice o3 k.length k3) (k) := g3.mono (by simp) (Nat.le_refl _); clear g3; have s3 : w2.heap.size ≤ w3.heap.size := (by have h_ := x3.size; (try simp at h_); omega); have X3 := K.Ext.trans (X2) x3; obtain ⟨c3_0_0, c3_0_1, c3_0_2, c3_0_3⟩ := K.c4 x3 (w.heap.size) (.int .i64 F.dg) (.int .i64 F.tn) (.string F.nm) (.slice oF F.pw.length cF) (by go_simp); have z3_0 : w.heap.size < w3.heap.size := World.block_lt_of_cell? w3 _ c3_0_0; have d3_0 : ¬ (w.heap.size = w3.heap.size) := (by omega); have e3_0 : ¬ (w3.heap.size = w.heap.size) := (by omega); have F1_3 := K.ints.ext (F1_2) x3; have F2_3 := K.rows.ext (F2_2) x3; clear c2_0_0 c2_0_1 c2_0_2 c2_0_3 z2_0 d2_0 e2_0 F1_2 F2_2)
      go_wp2_with (go_at_call 53; refine K.call (by with_reducible rfl) (by with_reducible rfl) (HR _ (F3_3)) ?_; rintro e w4 ⟨⟨p4, rfl, g4⟩, x4⟩; obtain ⟨o4, k4, rfl, _⟩ := K.ints.mono g4 (Nat.le_refl _) (Nat.le_refl _); have F4_4 : K.ints w4 (w2.heap.size) (w3.heap.size) (.slice o4 M.1.length k4) (M.1) := g4.mono (Nat.le_refl _) (Nat.le_refl _); clear g4; have s4 : w3.heap.size ≤ w4.heap.size := (by have h_ := x4.size; (try simp at h_); omega); have X4 := K.Ext.trans (X3) x4; obtain ⟨c4_0_0, c4_0_1, c4_0_2, c4_0_3⟩ := K.c4 x4 (w.heap.size) (.int .i64 F.dg) (.int .i64 F.tn) (.string F.nm) (.slice oF F.pw.length cF) (by go_simp); have z4_0 : w.heap.size < w4.heap.size := World.block_lt_of_cell? w4 _ c4_0_0; have d4_0 : ¬ (w.heap.size = w4.heap.size) := (by omega); have e4_0 : ¬ (w4.heap.size = w.heap.size) := (by omega); have F1_4 := K.ints.ext (F1_3) x4; have F2_4 := K.rows.ext (F2_3) x4; have F3_4 := K.ints.ext (F3_3) x4; clear c3_0_0 c3_0_1 c3_0_2 c3_0_3 z3_0 d3_0 e3_0 F1_3 F2_3 F3_3)
      rw [HE.out]
      refine bodyPost_ret (v := .tuple #[.slice o4 M.1.length k4, .int .i64 M.2]) (by unfold results; rw [Tryz.results56]; go_simp) rfl ⟨⟨_, rfl, ?_⟩, ?_⟩
      · refine K.ints.mono (lo := w2.heap.size) (hi := w3.heap.size) ?_ (by first | omega | (simp; done) | (simp; omega)) (by first | omega | (simp; done) | (simp; omega))
        repeat' (first | with_reducible exact F4_4 | with_reducible refine K.ints.set ?_ _ ?_ _ | with_reducible refine K.ints.alloc ?_ _ | with_reducible refine K.ints.drew ?_ | (dsimp only; omega) | omega | (simp; done) | (simp; omega))
      · repeat with_reducible refine K.Ext.setCell ?_ (by dsimp only; omega) _
        exact (by repeat' (first | with_reducible exact X4 | with_reducible refine K.Ext.setCell ?_ ?_ _ | with_reducible refine K.Ext.alloc ?_ _ | with_reducible refine K.Ext.drew ?_ | (dsimp only; omega) | omega | (simp; omega)))
end Go.Proofs.YtmgocfdhngeeiaaGreatDoor
end
section
namespace Go.K
open Go.RowKit
theorem ints_grown2 {w w' : World} {lo hi : Nat} {v : Value} {xs : List Int} {row : Option Nat} (h : K.ints w lo hi v xs) (hg : w.grownBy w' row) (hne : ∀ k, row = some k → k < lo ∨ hi ≤ k) : K.ints w' lo hi v xs := by
  obtain ⟨o, cap, rfl, h⟩ := h
  refine ⟨o, cap, rfl, fun hn => ?_⟩
  obtain ⟨b, off, ho, h1, h2, h3⟩ := h hn
  refine ⟨b, off, ho, h1, h2, fun i hi' => ?_⟩
  have hc := h3 i hi'
  have hb : b < w.heap.size := World.block_lt_of_cell? w _ hc
  rw [hg.cell_far _ hb (fun e => by rcases hne b e.symm with h | h <;> omega)]
  exact hc
/-- the elements of a row of slices: each in blocks apart from the row's own -/
def parts (w : World) (B : Nat) (us : List Value) (xss : List (List Int)) (u : Value) : Prop :=
  us.length = xss.length ∧ ∀ j (h : j < us.length) (h' : j < xss.length), ∃ lo hi, B ≤ lo ∧ hi ≤ w.heap.size ∧ (∀ k, u.ownBlock = some k → k < lo ∨ hi ≤ k) ∧ K.ints w lo hi us[j] xss[j]
theorem parts_nil (w : World) (B : Nat) (u : Value) : parts w B [] [] u := ⟨rfl, fun j h => absurd h (by simp)⟩
theorem parts.far {lo hi B : Nat} {w w' : World} {us : List Value} {xss : List (List Int)} {u : Value} (h : parts w B us xss u) (hf : Far lo hi w w') (hd : hi ≤ B) : parts w' B us xss u :=
  ⟨h.1, fun j hj hj' => by obtain ⟨a, b, h1, h2, h3, h4⟩ := h.2 j hj hj'; exact ⟨a, b, h1, Nat.le_trans h2 hf.size, h3, h4.far hf (.inr (by omega))⟩⟩
theorem parts.app {B g2 n c : Nat} {w w' : World} {o : Obj} {us : List Value} {xss : List (List Int)} {u v : Value} {xs : List Int} (h : parts w B us xss u)
    (hv : ∃ lo hi, B ≤ lo ∧ hi ≤ w.heap.size ∧ (∀ k, u.ownBlock = some k → k < lo ∨ hi ≤ k) ∧ K.ints w lo hi v xs) (hg : (w.alloc o).grownBy w' u.ownBlock) (hs : w.heap.size ≤ w'.heap.size) (h2 : u.ownBlock = some g2 ∨ g2 = w.heap.size + 1) :
    parts w' B (us ++ [v]) (xss ++ [xs]) (.slice (some ⟨g2, 0, none⟩) n c) := by
  have key : ∀ (v : Value) (xs : List Int), (∃ lo hi, B ≤ lo ∧ hi ≤ w.heap.size ∧ (∀ k, u.ownBlock = some k → k < lo ∨ hi ≤ k) ∧ K.ints w lo hi v xs) → ∃ lo hi, B ≤ lo ∧ hi ≤ w'.heap.size ∧ (∀ k, (Value.slice (some ⟨g2, 0, none⟩) n c).ownBlock = some k → k < lo ∨ hi ≤ k) ∧ K.ints w' lo hi v xs := by
    rintro v xs ⟨lo, hi, a1, a2, a3, a4⟩
    refine ⟨lo, hi, a1, by omega, fun k hk => ?_, ints_grown2 (a4.alloc o) hg a3⟩
    simp only [Value.ownBlock, Option.some.injEq] at hk
    subst hk
    rcases h2 with h2 | h2
    · exact a3 _ h2
    · omega
  refine ⟨by simp [h.1], fun j hj hj' => ?_⟩
  by_cases hl : j < us.length
  · have hl' : j < xss.length := by rw [← h.1]; exact hl
    rw [List.getElem_append_left hl, List.getElem_append_left hl']
    exact key _ _ (h.2 j hl hl')
  · have e1 : j = us.length := by simp at hj; omega
    have e2 : j = xss.length := by rw [← h.1]; exact e1
    rw [List.getElem_append_right (by omega), List.getElem_append_right (by omega)]
    simp only [e1, Nat.sub_self, List.getElem_cons_zero]
    have e3 : us.length - xss.length = 0 := by rw [h.1]; omega
    simp only [e3, List.getElem_cons_zero]
    exact key _ _ hv
theorem rows_of_parts {B n : Nat} {e : TypeId} {w : World} {us : List Value} {xss : List (List Int)} {u : Value} (h : w.ownsRow B e 1 u n us) (hn : n = xss.length) (hp : parts w B us xss u) : rows w B w.heap.size u xss := by
  subst hn
  rcases h.2 with ⟨rfl, h0⟩ | ⟨g, cap, cur, rfl, hb, hg, _⟩
  · have hx : xss = [] := List.length_eq_zero_iff.1 h0
    subst hx
    have hu : us = [] := List.length_eq_zero_iff.1 hp.1
    subst hu
    exact ⟨none, 0, [], rfl, rfl, fun h => absurd rfl h, fun i h => absurd h (by simp)⟩
  · refine ⟨_, _, us, rfl, hp.1, fun hn => ⟨g, 0, rfl, hb, (Array.getElem?_eq_some_iff.1 hg).1, fun i hi => ?_⟩, fun i hi hi' => ?_⟩
    · rw [Nat.zero_add, h.cellAt i (by rw [Nat.mul_one, ← hp.1]; exact hi)]; exact List.getElem?_eq_getElem hi
    · obtain ⟨lo, hi2, a1, a2, _, a4⟩ := hp.2 i hi hi'
      exact a4.mono a1 a2
theorem below_new {B : Nat} {w w' : World} {o : Obj} {b : Option Nat} (hg : (w.alloc o).grownBy w' b) (hB : B ≤ w.heap.size) (hr : ∀ g, b = some g → B ≤ g) : Below B w w' :=
  (((Ext.refl w).alloc o).below.mono hB).grown hg (by simp; omega) hr
/-- the capacity holds the length -/
def capOk (v : Value) (n : Nat) : Prop := ∃ o c, v = .slice o n c ∧ n ≤ c
theorem row_capOk {w : World} {B n s : Nat} {e : TypeId} {v : Value} {xs : List Value} (h : w.ownsRow B e s v n xs) : capOk v n := by
  rcases h.2 with ⟨rfl, rfl⟩ | ⟨g, cap, cur, rfl, _, _, h3, _⟩
  · exact ⟨none, 0, rfl, Nat.le_refl _⟩
  · exact ⟨_, cap, rfl, h3⟩
theorem rows.far {w w' : World} {lo hi lo' hi' : Nat} {v : Value} {xss : List (List Int)} (h : rows w lo hi v xss) (hf : Far lo' hi' w w') (hd : hi ≤ lo' ∨ hi' ≤ lo) : rows w' lo hi v xss := by
  obtain ⟨o, cap, us, rfl, hl, h1, h2⟩ := h
  refine ⟨o, cap, us, rfl, hl, fun hn => ?_, fun i h h' => (h2 i h h').far hf hd⟩
  obtain ⟨b, off, rfl, a1, a2, a3⟩ := h1 hn
  refine ⟨b, off, rfl, a1, a2, fun i h => ?_⟩
  have hc := a3 i h
  exact (World.cell?_of_block (hf.block b (World.block_lt_of_cell? w _ hc) (by omega))).trans hc
theorem rows.set {w : World} {lo hi : Nat} {v : Value} {xss : List (List Int)} (h : rows w lo hi v xss) (p : Addr) (hp : p.block < lo ∨ hi ≤ p.block) (u : Value) : rows (w.setCell p u) lo hi v xss :=
  h.far ((Far.refl p.block (p.block + 1) w).setCell (Nat.le_refl _) (Nat.lt_succ_self _) u) (by omega)
theorem Far.below {lo hi B : Nat} {W w w' : World} (h : Far lo hi W w) (hb : Below B w w') (hB : W.heap.size ≤ B) : Far lo hi W w' :=
  ⟨hb.os.trans h.os, hb.tape.trans h.tape, hb.output.trans h.output, Nat.le_trans h.size hb.size, fun k hk ho => (hb.block k (Nat.lt_of_lt_of_le hk hB)).trans (h.block k hk ho)⟩
end Go.K
namespace Go.Proofs.YtmgocfdhngeeiaaGreatDoor
open Go.RowKit
theorem info_ss2 : (Tryz.prog.info? 24).map (fun i => (i.zero, i.size, i.bytes)) = some (some (.slice none 0 0), 1, 24) := by kernel_rfl
set_option maxRecDepth 100000 in
set_option maxHeartbeats 12800000 in
theorem l19DrawUnits_any (g : Nat) (F : Z.Fm) {oF : Option Addr} {mF kF : Nat} (w : World) (hF : F.nm.size ≤ 7) (h : K.Src 104 w g) :
    Calls Tryz.prog 94 #[.pointer (some ⟨g, 0, none⟩), .agg #[.int .i64 F.dg, .int .i64 F.tn, .string F.nm, .slice oF mF kF]] w fun e w' => (∃ (v : Value) (xss : List (List Int)), e = .returned v ∧ (xss.length ≤ 8 ∧ ∀ xs ∈ xss, (xs : List Int).length ≤ 4) ∧ K.rows w' w.heap.size w'.heap.size v xss ∧ K.capOk v xss.length) ∧ K.Src 104 w' g ∧ K.Far g (g + 1) w w' := by
  have lg := h.lt
  have F0 : K.Far g (g + 1) w w := K.Far.refl _ _ _
  obtain ⟨it0, hi0, hz0, hz1, hz2⟩ := info_parts info_ss2
  go_enter Tryz.func94, Tryz.ntmps94
  have l7 : (F.nm.size : Int) ≤ 7 := by omega
  go_wp2_with fail
  go_loopw [5, 6] (fun u x wr => ∃ (us : List Value) (xss : List (List Int)), x = .int .i64 xss.length ∧ xss.length ≤ F.nm.size ∧ Hid (wr.ownsRow (w.heap.size + 1) 24 1 u xss.length us) ∧ Hid (K.parts wr (w.heap.size + 1) us xss u ∧ ∀ xs ∈ xss, (xs : List Int).length ≤ 4) ∧ Hid (K.Src 104 wr g) ∧ (wr.cell? ⟨w.heap.size, 0, none⟩ = some (.int .i64 F.dg) ∧ wr.frozen? ⟨w.heap.size, 0, none⟩ = false ∧ wr.cell? ⟨w.heap.size, 1, none⟩ = some (.int .i64 F.tn) ∧ wr.frozen? ⟨w.heap.size, 1, none⟩ = false ∧ wr.cell? ⟨w.heap.size, 2, none⟩ = some (.string F.nm) ∧ wr.frozen? ⟨w.heap.size, 2, none⟩ = false ∧ wr.cell? ⟨w.heap.size, 3, none⟩ = some (.slice oF mF kF) ∧ wr.frozen? ⟨w.heap.size, 3, none⟩ = false) ∧ w.heap.size + 1 < wr.heap.size ∧ Hid (K.Far g (g + 1) w wr)) (fun _ x _ => F.nm.size - (intOf x).toNat)
  case atStart => exact ⟨[], [], rfl, Nat.zero_le _, Z.hide (K.row_lit0 (by simp) (Nat.le_refl _)), Z.hide ⟨K.parts_nil _ _ _, by simp⟩, Z.hide (K.bsr h), ⟨(by go_simp), (by go_simp), (by go_simp), (by go_simp), (by go_simp), (by go_simp), (by go_simp), (by go_simp)⟩, by simp, Z.hide (K.bfa F0)⟩
  case round =>
    obtain ⟨us, xss, rfl, hj, HO, HP, HS, ⟨e0_0, t0_0, e0_1, t0_1, e0_2, t0_2, e0_3, t0_3⟩, lz, HX⟩ := hrel
    have sr := HS.out
    have FR := HX.out
    have yr_0 : w.heap.size < wr.heap.size := by omega
    have j0 : (0 : Int) ≤ (xss.length : Int) := Int.natCast_nonneg _
    by_cases hpos : xss.length < F.nm.size
    · have i1 : (xss.length : Int) < (F.nm.size : Int) := by omega
      skip
      go_wp2_with fail
      refine K.call (by with_reducible rfl) (by with_reducible rfl) (l19Draw_any g _ (K.bsr sr)) ?_
      rintro e w2 ⟨⟨v, xs, rfl, ⟨lxs3, lxs⟩, hv⟩, s2, f2⟩
      have z2 := f2.size
      (try simp at z2)
      have F2 : K.Far g (g + 1) w w2 := K.Far.trans (K.bfa FR) f2
      have c2_0_0 : w2.cell? ⟨w.heap.size, 0, none⟩ = some (.int .i64 F.dg) := f2.cell_of (by go_simp) (by (try dsimp only); omega)
      have d2_0_0 : w2.frozen? ⟨w.heap.size, 0, none⟩ = false := f2.thaw_of (by go_simp) (by go_simp) (by (try dsimp only); omega)
      have c2_0_1 : w2.cell? ⟨w.heap.size, 1, none⟩ = some (.int .i64 F.tn) := f2.cell_of (by go_simp) (by (try dsimp only); omega)
      have d2_0_1 : w2.frozen? ⟨w.heap.size, 1, none⟩ = false := f2.thaw_of (by go_simp) (by go_simp) (by (try dsimp only); omega)
      have c2_0_2 : w2.cell? ⟨w.heap.size, 2, none⟩ = some (.string F.nm) := f2.cell_of (by go_simp) (by (try dsimp only); omega)
      have d2_0_2 : w2.frozen? ⟨w.heap.size, 2, none⟩ = false := f2.thaw_of (by go_simp) (by go_simp) (by (try dsimp only); omega)
      have c2_0_3 : w2.cell? ⟨w.heap.size, 3, none⟩ = some (.slice oF mF kF) := f2.cell_of (by go_simp) (by (try dsimp only); omega)
      have d2_0_3 : w2.frozen? ⟨w.heap.size, 3, none⟩ = false := f2.thaw_of (by go_simp) (by go_simp) (by (try dsimp only); omega)
      have y2_0 : w.heap.size < w2.heap.size := World.block_lt_of_cell? w2 _ c2_0_0
      obtain ⟨oV, kV, rfl, _⟩ := id hv
      have HO2 := Z.hide (K.row_far HO.out f2 (by omega))
      have HP2 := Z.hide (K.parts.far HP.out.1 f2 (by omega))
      have HV2 : Hid (∃ lo hi, w.heap.size + 1 ≤ lo ∧ hi ≤ w2.heap.size ∧ (∀ k, u5.ownBlock = some k → k < lo ∨ hi ≤ k) ∧ K.ints w2 lo hi (.slice oV xs.length kV) xs) := Z.hide ⟨wr.heap.size, w2.heap.size, by omega, Nat.le_refl _, fun k hk => .inl (HO.out.lt k hk).2, K.own.ints hv⟩
      clear hv
      go_wp2_with (at_builtin; refine wpList_append_lies _ rfl _ _ _ rfl (w.heap.size + 1) 24 it0 _ 1 24 Tryz.underlying37 hi0 hz0 hz1 hz2 rfl (by omega) u5 xss.length _ rfl (HO2.out.alloc _) ⟨w2.heap.size, 0, none⟩ 1 1 [.slice oV xs.length kV] rfl rfl (World.news_of_block (cs := #[.slice oV xs.length kV]) (t := 24) (fr := (0, 0)) (K.block_new (by simp))) (by simp [Value.oneCell']) (by omega) (by unfold maxLen; omega) (by first | omega | (simp; omega)) (by first | omega | (simp; omega)) (w2.heap.size + 1) (by simp) ?_; intro g2 gcap2 w7 hown7 hgrow7 hat7 hlt7; have HB7 : Hid (Below (w.heap.size + 1) w2 w7) := Z.hide (K.below_new hgrow7 (by omega) (fun g hg => (HO2.out.lt g hg).1)); have HQ7 := Z.hide (K.parts.app (n := xss.length + 1) (c := gcap2) HP2.out HV2.out hgrow7 HB7.out.size hat7); have HP7 := Z.hide hown7)
      clear hown7 hgrow7 hat7
      go_roundw
      case rel => exact ⟨us ++ [.slice oV xs.length kV], xss ++ [xs], by (first | (simp; done) | go_num), by (first | (simp; done) | (simp; omega)), Z.hide (by rw [List.length_append]; exact HP7.out), Z.hide ⟨HQ7.out, fun ys hys => by rcases List.mem_append.1 hys with h1 | h1; exact HP.out.2 ys h1; rw [List.mem_singleton.1 h1]; omega⟩, Z.hide (s2.below HB7.out (by omega)), ⟨K.below_cell HB7.out c2_0_0 (by (try dsimp only); omega), K.below_thaw HB7.out d2_0_0 (by (try dsimp only); omega), K.below_cell HB7.out c2_0_1 (by (try dsimp only); omega), K.below_thaw HB7.out d2_0_1 (by (try dsimp only); omega), K.below_cell HB7.out c2_0_2 (by (try dsimp only); omega), K.below_thaw HB7.out d2_0_2 (by (try dsimp only); omega), K.below_cell HB7.out c2_0_3 (by (try dsimp only); omega), K.below_thaw HB7.out d2_0_3 (by (try dsimp only); omega)⟩, Nat.lt_of_lt_of_le (by omega) HB7.out.size, Z.hide (F2.below HB7.out (by omega))⟩
      case measure => first | (simp [intOf]; done) | (simp [intOf]; omega)
    · have hj2 : xss.length = F.nm.size := by omega
      have i2 : ¬ ((xss.length : Int) < (F.nm.size : Int)) := by omega
      go_wp2_with fail
      refine K.call (by with_reducible rfl) (by with_reducible rfl) (l01Next_any g (24) _ (K.bsr sr)) ?_
      rintro e w4 ⟨⟨m, rfl, m0, m1, m2⟩, s4, f4⟩
      have z4 := f4.size
      (try simp at z4)
      have F4 : K.Far g (g + 1) w w4 := K.Far.trans (K.bfa FR) f4
      have c4_0_0 : w4.cell? ⟨w.heap.size, 0, none⟩ = some (.int .i64 F.dg) := f4.cell_of (by go_simp) (by (try dsimp only); omega)
      have d4_0_0 : w4.frozen? ⟨w.heap.size, 0, none⟩ = false := f4.thaw_of (by go_simp) (by go_simp) (by (try dsimp only); omega)
      have c4_0_1 : w4.cell? ⟨w.heap.size, 1, none⟩ = some (.int .i64 F.tn) := f4.cell_of (by go_simp) (by (try dsimp only); omega)
      have d4_0_1 : w4.frozen? ⟨w.heap.size, 1, none⟩ = false := f4.thaw_of (by go_simp) (by go_simp) (by (try dsimp only); omega)
      have c4_0_2 : w4.cell? ⟨w.heap.size, 2, none⟩ = some (.string F.nm) := f4.cell_of (by go_simp) (by (try dsimp only); omega)
      have d4_0_2 : w4.frozen? ⟨w.heap.size, 2, none⟩ = false := f4.thaw_of (by go_simp) (by go_simp) (by (try dsimp only); omega)
      have c4_0_3 : w4.cell? ⟨w.heap.size, 3, none⟩ = some (.slice oF mF kF) := f4.cell_of (by go_simp) (by (try dsimp only); omega)
      have d4_0_3 : w4.frozen? ⟨w.heap.size, 3, none⟩ = false := f4.thaw_of (by go_simp) (by go_simp) (by (try dsimp only); omega)
      have y4_0 : w.heap.size < w4.heap.size := World.block_lt_of_cell? w4 _ c4_0_0
      have HO4 := Z.hide (K.row_far HO.out f4 (by omega))
      have HP4 := Z.hide (show K.parts w4 (w.heap.size + 1) us xss u5 ∧ ∀ xs ∈ xss, (xs : List Int).length ≤ 4 from ⟨K.parts.far HP.out.1 f4 (by omega), HP.out.2⟩)
      by_cases m0_ : m = 0
      · subst m0_
        skip
        go_wp2_with fail
        refine K.call (by with_reducible rfl) (by with_reducible rfl) (l19Draw_any g _ (K.bsr s4)) ?_
        rintro e w5 ⟨⟨v, xs, rfl, ⟨lxs3, lxs⟩, hv⟩, s5, f5⟩
        have z5 := f5.size
        (try simp at z5)
        have F5 : K.Far g (g + 1) w w5 := K.Far.trans (K.bfa F4) f5
        obtain ⟨c5_0_0, c5_0_1, c5_0_2, c5_0_3, d5_0_0, d5_0_1, d5_0_2, d5_0_3, y5_0⟩ := f5.p4 c4_0_0 c4_0_1 c4_0_2 c4_0_3 d4_0_0 d4_0_1 d4_0_2 d4_0_3
        obtain ⟨oV, kV, rfl, _⟩ := id hv
        have HO5 := Z.hide (K.row_far HO4.out f5 (by omega))
        have HP5 := Z.hide (K.parts.far HP4.out.1 f5 (by omega))
        have HV5 : Hid (∃ lo hi, w.heap.size + 1 ≤ lo ∧ hi ≤ w5.heap.size ∧ (∀ k, u5.ownBlock = some k → k < lo ∨ hi ≤ k) ∧ K.ints w5 lo hi (.slice oV xs.length kV) xs) := Z.hide ⟨w4.heap.size, w5.heap.size, by omega, Nat.le_refl _, fun k hk => .inl (HO4.out.lt k hk).2, K.own.ints hv⟩
        clear hv
        go_wp2_with (at_builtin; refine wpList_append_lies _ rfl _ _ _ rfl (w.heap.size + 1) 24 it0 _ 1 24 Tryz.underlying37 hi0 hz0 hz1 hz2 rfl (by omega) u5 xss.length _ rfl (HO5.out.alloc _) ⟨w5.heap.size, 0, none⟩ 1 1 [.slice oV xs.length kV] rfl rfl (World.news_of_block (cs := #[.slice oV xs.length kV]) (t := 24) (fr := (0, 0)) (K.block_new (by simp))) (by simp [Value.oneCell']) (by omega) (by unfold maxLen; omega) (by first | omega | (simp; omega)) (by first | omega | (simp; omega)) (w5.heap.size + 1) (by simp) ?_; intro g2 gcap2 w7 hown7 hgrow7 hat7 hlt7; have HB7 : Hid (Below (w.heap.size + 1) w5 w7) := Z.hide (K.below_new hgrow7 (by omega) (fun g hg => (HO5.out.lt g hg).1)); have HQ7 := Z.hide (K.parts.app (n := xss.length + 1) (c := gcap2) HP5.out HV5.out hgrow7 HB7.out.size hat7); have HP7 := Z.hide hown7)
        clear hown7 hgrow7 hat7
        go_wp2_with fail
        refine bodyPost_ret (v := .slice (some ⟨g2, 0, none⟩) (xss.length + 1) gcap2) (by unfold results; rw [Tryz.results94]; go_simp) rfl ⟨⟨_, xss ++ [xs], rfl, ⟨by simp; omega, fun ys hys => by rcases List.mem_append.1 hys with h1 | h1; exact HP4.out.2 ys h1; rw [List.mem_singleton.1 h1]; omega⟩, K.rows.mono (K.rows_of_parts HP7.out (by simp) HQ7.out) (by omega) (Nat.le_refl _), (by have h_ := K.row_capOk HP7.out; simpa using h_)⟩, s5.below HB7.out (by omega), F5.below HB7.out (by omega)⟩
      go_wp2_with fail
      refine bodyPost_ret (v := u5) (by unfold results; rw [Tryz.results94]; go_simp) rfl ⟨⟨_, xss, rfl, ⟨by omega, HP4.out.2⟩, K.rows.mono (K.rows_of_parts HO4.out rfl HP4.out.1) (by omega) (Nat.le_refl _), K.row_capOk HO4.out⟩, s4, F4⟩
end Go.Proofs.YtmgocfdhngeeiaaGreatDoor
end
section
namespace Go.Z
theorem UnitOf_four {F : Fm} {uss : List (List Int)} (h : (UnitOf F uss).2 = 0) : 3 ≤ (UnitOf F uss).1.length ∧ (UnitOf F uss).1.length ≤ 4 := by
  unfold UnitOf at h ⊢
  by_cases h1 : (isFormula F && okUnits F uss) = true
  · rw [if_pos h1] at h ⊢
    unfold unitOr at h ⊢
    by_cases h2 : isUnit (unitK F.pw uss uss.length) = true
    · rw [if_pos h2]; dsimp only; rw [isUnit_len h2]; omega
    · rw [if_neg h2] at h; simp at h
  · rw [if_neg h1] at h; simp at h
end Go.Z
namespace Go.Proofs.YtmgocfdhngeeiaaGreatDoor
open Go.RowKit
set_option maxRecDepth 100000 in
set_option maxHeartbeats 12800000 in
theorem DrawUnitOf_any {hi n : Nat} {v : Value} (w : World) (hn : n ≤ 4096) (hh : hi ≤ w.heap.size) (h : K.byts w hi v n) :
    Calls Tryz.prog 55 #[v] w fun e w' => (∃ (F : Z.Fm) (p u : Value) (xss : List (List Int)), e = .returned (.tuple #[.agg #[.int .i64 F.dg, .int .i64 F.tn, .string F.nm, p], u]) ∧ (F.nm.size ≤ 7 ∧ F.pw.length ≤ 6) ∧ K.ints w' w.heap.size w'.heap.size p F.pw ∧ (xss.length ≤ 8 ∧ ∀ xs ∈ xss, (xs : List Int).length ≤ 4) ∧ K.rows w' w.heap.size w'.heap.size u xss ∧ K.capOk u xss.length) ∧ K.Ext w w' := by
  have F0 : K.Ext w w := K.Ext.refl _
  go_enter Tryz.func55, Tryz.ntmps55
  go_wp2_with fail
  refine K.call (by with_reducible rfl) (by with_reducible rfl) (l01From_at (w.heap.size + 1) _ (by simp) hn (by omega) (h.ext (K.bex F0))) ?_
  rintro e w1 ⟨⟨rfl, s1⟩, f1⟩
  have z1 := f1.size
  (try simp at z1)
  have F1 : K.Ext w w1 := K.Ext.trans (K.bex F0) f1
  have c1_0_0 : w1.cell? ⟨w.heap.size, 0, none⟩ = some (.int .i64 0) := f1.cell_of (by go_simp)
  have d1_0_0 : w1.frozen? ⟨w.heap.size, 0, none⟩ = false := f1.thaw_of (by go_simp) (by go_simp)
  have c1_0_1 : w1.cell? ⟨w.heap.size, 1, none⟩ = some (.int .i64 0) := f1.cell_of (by go_simp)
  have d1_0_1 : w1.frozen? ⟨w.heap.size, 1, none⟩ = false := f1.thaw_of (by go_simp) (by go_simp)
  have c1_0_2 : w1.cell? ⟨w.heap.size, 2, none⟩ = some (.string ⟨#[]⟩) := f1.cell_of (by go_simp)
  have d1_0_2 : w1.frozen? ⟨w.heap.size, 2, none⟩ = false := f1.thaw_of (by go_simp) (by go_simp)
  have c1_0_3 : w1.cell? ⟨w.heap.size, 3, none⟩ = some (.slice none 0 0) := f1.cell_of (by go_simp)
  have d1_0_3 : w1.frozen? ⟨w.heap.size, 3, none⟩ = false := f1.thaw_of (by go_simp) (by go_simp)
  have y1_0 : w.heap.size < w1.heap.size := World.block_lt_of_cell? w1 _ c1_0_0
  have lg := s1.lt
  go_wp2_with fail
  refine K.call (by with_reducible rfl) (by with_reducible rfl) (l18Draw_any (w.heap.size + 1) _ (K.bsr s1)) ?_
  rintro e w2 ⟨⟨F, pF, rfl, hnF, hmF, hiF⟩, s2, f2⟩
  have z2 := f2.size
  (try simp at z2)
  have F2 : K.Ext w w2 := K.Far.ext (K.bex F1) f2 (by omega)
  obtain ⟨c2_0_0, c2_0_1, c2_0_2, c2_0_3, d2_0_0, d2_0_1, d2_0_2, d2_0_3, y2_0⟩ := f2.p4 c1_0_0 c1_0_1 c1_0_2 c1_0_3 d1_0_0 d1_0_1 d1_0_2 d1_0_3
  obtain ⟨oF, kF, rfl, _⟩ := id hiF
  have IF_2 : K.ints w2 (w1.heap.size) w2.heap.size (.slice oF F.pw.length kF) F.pw := hiF.mono (by simp) (Nat.le_refl _)
  clear hiF
  have uh_0_1 : w.heap.size < w2.heap.size + 1 := (by omega)
  go_wp2_with fail
  have ne0_1 : ¬ (w.heap.size = w2.heap.size) := (by omega)
  have nf0_1 : ¬ (w2.heap.size = w.heap.size) := (by omega)
  go_region_held3 (fun w' => w'.cell? ⟨w2.heap.size, 0, none⟩ = some (.int .i64 F.dg) ∧ w'.cell? ⟨w2.heap.size, 1, none⟩ = some (.int .i64 F.tn) ∧ w'.cell? ⟨w2.heap.size, 2, none⟩ = some (.string F.nm) ∧ w'.cell? ⟨w2.heap.size, 3, none⟩ = some (.slice oF F.pw.length kF)) ((repeat' apply And.intro) <;> go_simp) ((go_at_call 94; refine K.call (by with_reducible rfl) (by with_reducible rfl) (l19DrawUnits_any (w.heap.size + 1) F _ hnF (K.bsr s2)) ?_; rintro e w3 ⟨⟨u, xss, rfl, hxss, hU, hC⟩, s3, f3⟩; have z3 := f3.size; (try simp at z3); have F3 : K.Ext w w3 := K.Far.ext (K.bex F2) f3 (by omega); have u3_0_1 : w.heap.size < w2.heap.size + 1 := (by omega); obtain ⟨c3_0_0, c3_0_1, c3_0_2, c3_0_3, d3_0_0, d3_0_1, d3_0_2, d3_0_3, y3_0⟩ := f3.p4 c2_0_0 c2_0_1 c2_0_2 c2_0_3 d2_0_0 d2_0_1 d2_0_2 d2_0_3; have c3_1_0 : w3.cell? ⟨w2.heap.size, 0, none⟩ = some (.int .i64 F.dg) := f3.cell_of (by go_simp) (by (try dsimp only); omega); have d3_1_0 : w3.frozen? ⟨w2.heap.size, 0, none⟩ = false := f3.thaw_of (by go_simp) (by go_simp) (by (try dsimp only); omega); have c3_1_1 : w3.cell? ⟨w2.heap.size, 1, none⟩ = some (.int .i64 F.tn) := f3.cell_of (by go_simp) (by (try dsimp only); omega); have d3_1_1 : w3.frozen? ⟨w2.heap.size, 1, none⟩ = false := f3.thaw_of (by go_simp) (by go_simp) (by (try dsimp only); omega); have c3_1_2 : w3.cell? ⟨w2.heap.size, 2, none⟩ = some (.string F.nm) := f3.cell_of (by go_simp) (by (try dsimp only); omega); have d3_1_2 : w3.frozen? ⟨w2.heap.size, 2, none⟩ = false := f3.thaw_of (by go_simp) (by go_simp) (by (try dsimp only); omega); have c3_1_3 : w3.cell? ⟨w2.heap.size, 3, none⟩ = some (.slice oF F.pw.length kF) := f3.cell_of (by go_simp) (by (try dsimp only); omega); have d3_1_3 : w3.frozen? ⟨w2.heap.size, 3, none⟩ = false := f3.thaw_of (by go_simp) (by go_simp) (by (try dsimp only); omega); have y3_1 : w2.heap.size < w3.heap.size := World.block_lt_of_cell? w3 _ c3_1_0; have IF_3 := K.ints.far (K.bin IF_2) f3 (by first | exact .inl (by omega) | exact .inr (by omega)); obtain ⟨oU, kU, usU, rfl, _⟩ := id hU; have IU_3 : K.rows w3 (w2.heap.size + 1) w3.heap.size (.slice oU xss.length kU) xss := K.rows.mono hU (by simp) (Nat.le_refl _); clear hU))
  go_wp2_with fail
  all_goals refine bodyPost_ret (v := .tuple #[.agg #[.int .i64 F.dg, .int .i64 F.tn, .string F.nm, .slice oF F.pw.length kF], .slice oU xss.length kU]) (by unfold results; rw [Tryz.results55]; go_simp) rfl ⟨⟨F, _, _, xss, rfl, ⟨hnF, hmF⟩, K.ints.mono (K.bin IF_3) (by omega) (by first | omega | (simp; done) | (simp; omega)), hxss, K.rows.mono (show K.rows _ (w2.heap.size + 1) w3.heap.size (.slice oU xss.length kU) xss from by with_reducible repeat' (first | exact IU_3 | refine K.rows.alloc ?_ _ | refine K.rows.drew ?_ | refine K.rows.set ?_ _ ?_ _ | (dsimp only; omega) | omega | (simp; done) | (simp; omega))) (by omega) (by first | omega | (simp; done) | (simp; omega)), hC⟩, (K.bex F3)⟩
set_option maxRecDepth 100000 in
set_option maxHeartbeats 12800000 in
theorem DrawIsFitting_any {hi n : Nat} {v : Value} (w : World) (hn : n ≤ 4096) (hh : hi ≤ w.heap.size) (h : K.byts w hi v n) :
    Calls Tryz.prog 15 #[v] w fun e w' => (∃ (F : Z.Fm) (p u : Value) (xss : List (List Int)) (v : Value) (r : List Int), e = .returned (.tuple #[.agg #[.int .i64 F.dg, .int .i64 F.tn, .string F.nm, p], u, v]) ∧ (F.nm.size ≤ 7 ∧ F.pw.length ≤ 6) ∧ K.ints w' w.heap.size w'.heap.size p F.pw ∧ (xss.length ≤ 8 ∧ ∀ xs ∈ xss, (xs : List Int).length ≤ 4) ∧ K.rows w' w.heap.size w'.heap.size u xss ∧ K.capOk u xss.length ∧ (3 ≤ r.length ∧ r.length ≤ 4) ∧ K.ints w' w.heap.size w'.heap.size v r) ∧ K.Ext w w' := by
  have F0 : K.Ext w w := K.Ext.refl _
  go_enter Tryz.func15, Tryz.ntmps15
  go_wp2_with fail
  refine K.call (by with_reducible rfl) (by with_reducible rfl) (l01From_at (w.heap.size + 1) _ (by simp) hn (by omega) (h.ext (K.bex F0))) ?_
  rintro e w1 ⟨⟨rfl, s1⟩, f1⟩
  have z1 := f1.size
  (try simp at z1)
  have F1 : K.Ext w w1 := K.Ext.trans (K.bex F0) f1
  have c1_0_0 : w1.cell? ⟨w.heap.size, 0, none⟩ = some (.int .i64 0) := f1.cell_of (by go_simp)
  have d1_0_0 : w1.frozen? ⟨w.heap.size, 0, none⟩ = false := f1.thaw_of (by go_simp) (by go_simp)
  have c1_0_1 : w1.cell? ⟨w.heap.size, 1, none⟩ = some (.int .i64 0) := f1.cell_of (by go_simp)
  have d1_0_1 : w1.frozen? ⟨w.heap.size, 1, none⟩ = false := f1.thaw_of (by go_simp) (by go_simp)
  have c1_0_2 : w1.cell? ⟨w.heap.size, 2, none⟩ = some (.string ⟨#[]⟩) := f1.cell_of (by go_simp)
  have d1_0_2 : w1.frozen? ⟨w.heap.size, 2, none⟩ = false := f1.thaw_of (by go_simp) (by go_simp)
  have c1_0_3 : w1.cell? ⟨w.heap.size, 3, none⟩ = some (.slice none 0 0) := f1.cell_of (by go_simp)
  have d1_0_3 : w1.frozen? ⟨w.heap.size, 3, none⟩ = false := f1.thaw_of (by go_simp) (by go_simp)
  have y1_0 : w.heap.size < w1.heap.size := World.block_lt_of_cell? w1 _ c1_0_0
  have lg := s1.lt
  go_wp2_with fail
  refine K.call (by with_reducible rfl) (by with_reducible rfl) (DrawUnitOf_any _ hn (Nat.le_trans hh (K.Ext.size (K.bex F1))) (h.ext (K.bex F1))) ?_
  rintro e w2 ⟨⟨F, pF, u, xss, rfl, ⟨hnF, hmF⟩, hiF, hxss, hU, hC⟩, f2⟩
  have s2 := K.Src.ext (K.bsr s1) f2
  have z2 := f2.size
  (try simp at z2)
  have F2 : K.Ext w w2 := K.Ext.trans (K.bex F1) f2
  obtain ⟨c2_0_0, c2_0_1, c2_0_2, c2_0_3, d2_0_0, d2_0_1, d2_0_2, d2_0_3, y2_0⟩ := f2.p4 c1_0_0 c1_0_1 c1_0_2 c1_0_3 d1_0_0 d1_0_1 d1_0_2 d1_0_3
  obtain ⟨oF, kF, rfl, _⟩ := id hiF
  have IF_2 : K.ints w2 (w1.heap.size) w2.heap.size (.slice oF F.pw.length kF) F.pw := hiF.mono (by simp) (Nat.le_refl _)
  obtain ⟨oU, kU, usU, rfl, _⟩ := id hU
  have IU_2 : K.rows w2 (w1.heap.size) w2.heap.size (.slice oU xss.length kU) xss := K.rows.mono hU (by simp) (Nat.le_refl _)
  clear hU
  have HQ := Z.hide (show ∀ xs ∈ xss, (xs : List Int).length ≤ 1048576 from fun xs hx => Nat.le_trans (hxss.2 xs hx) (by decide))
  have HXS := Z.hide hxss
  obtain ⟨hx8, _⟩ := hxss
  go_wp2_with fail
  refine K.call (by with_reducible rfl) (by with_reducible rfl) (spec_UnitOf F xss _ (by omega) (by omega) (K.bin IF_2) (by omega) HQ.out (show K.rows _ (w1.heap.size) w2.heap.size (.slice oU xss.length kU) xss from by with_reducible repeat' (first | exact IU_2 | refine K.rows.alloc ?_ _ | refine K.rows.drew ?_ | refine K.rows.set ?_ _ ?_ _ | (dsimp only; omega) | omega | (simp; done) | (simp; omega)))) ?_
  rintro e w3 ⟨⟨pR, rfl, hR⟩, f3⟩
  have s3 := K.Src.ext (K.bsr s2) f3
  have z3 := f3.size
  (try simp at z3)
  have F3 : K.Ext w w3 := K.Ext.trans (K.bex F2) f3
  have u3_0_1 : w.heap.size < w2.heap.size + 1 := (by omega)
  obtain ⟨c3_0_0, c3_0_1, c3_0_2, c3_0_3, d3_0_0, d3_0_1, d3_0_2, d3_0_3, y3_0⟩ := f3.p4 c2_0_0 c2_0_1 c2_0_2 c2_0_3 d2_0_0 d2_0_1 d2_0_2 d2_0_3
  have c3_1_0 : w3.cell? ⟨w2.heap.size, 0, none⟩ = some (.int .i64 F.dg) := f3.cell_of (by go_simp)
  have d3_1_0 : w3.frozen? ⟨w2.heap.size, 0, none⟩ = false := f3.thaw_of (by go_simp) (by go_simp)
  have c3_1_1 : w3.cell? ⟨w2.heap.size, 1, none⟩ = some (.int .i64 F.tn) := f3.cell_of (by go_simp)
  have d3_1_1 : w3.frozen? ⟨w2.heap.size, 1, none⟩ = false := f3.thaw_of (by go_simp) (by go_simp)
  have c3_1_2 : w3.cell? ⟨w2.heap.size, 2, none⟩ = some (.string F.nm) := f3.cell_of (by go_simp)
  have d3_1_2 : w3.frozen? ⟨w2.heap.size, 2, none⟩ = false := f3.thaw_of (by go_simp) (by go_simp)
  have c3_1_3 : w3.cell? ⟨w2.heap.size, 3, none⟩ = some (.slice oF F.pw.length kF) := f3.cell_of (by go_simp)
  have d3_1_3 : w3.frozen? ⟨w2.heap.size, 3, none⟩ = false := f3.thaw_of (by go_simp) (by go_simp)
  have y3_1 : w2.heap.size < w3.heap.size := World.block_lt_of_cell? w3 _ c3_1_0
  have IF_3 := K.ints.ext (K.bin IF_2) f3
  have IU_3 := K.rows.ext (show K.rows _ (w1.heap.size) w2.heap.size (.slice oU xss.length kU) xss from by with_reducible repeat' (first | exact IU_2 | refine K.rows.alloc ?_ _ | refine K.rows.drew ?_ | refine K.rows.set ?_ _ ?_ _ | (dsimp only; omega) | omega | (simp; done) | (simp; omega))) f3
  obtain ⟨oR, kR, rfl, _⟩ := id (hR)
  have IR_3 : K.ints w3 (w2.heap.size + 1) w3.heap.size (.slice oR (Z.UnitOf F xss).1.length kR) (Z.UnitOf F xss).1 := K.ints.mono (hR) (by simp) (Nat.le_refl _)
  by_cases hb : (Z.UnitOf F xss).2 = 0
  · have h4 := Z.UnitOf_four hb
    go_wp2_with fail
    refine K.call (by with_reducible rfl) (by with_reducible rfl) (l01Next_any (w.heap.size + 1) (3) _ (K.bsr s3)) ?_
    rintro e w4 ⟨⟨m, rfl, m0, m1, m2⟩, s4, f4⟩
    have z4 := f4.size
    (try simp at z4)
    have F4 : K.Ext w w4 := K.Far.ext (K.bex F3) f4 (by omega)
    obtain ⟨c4_0_0, c4_0_1, c4_0_2, c4_0_3, d4_0_0, d4_0_1, d4_0_2, d4_0_3, y4_0⟩ := f4.p4 c3_0_0 c3_0_1 c3_0_2 c3_0_3 d3_0_0 d3_0_1 d3_0_2 d3_0_3
    obtain ⟨c4_1_0, c4_1_1, c4_1_2, c4_1_3, d4_1_0, d4_1_1, d4_1_2, d4_1_3, y4_1⟩ := f4.p4 c3_1_0 c3_1_1 c3_1_2 c3_1_3 d3_1_0 d3_1_1 d3_1_2 d3_1_3
    have IF_4 := K.ints.far (K.bin IF_3) f4 (by first | exact .inl (by omega) | exact .inr (by omega))
    have IU_4 := K.rows.far (show K.rows _ (w1.heap.size) w2.heap.size (.slice oU xss.length kU) xss from by with_reducible repeat' (first | exact IU_3 | refine K.rows.alloc ?_ _ | refine K.rows.drew ?_ | refine K.rows.set ?_ _ ?_ _ | (dsimp only; omega) | omega | (simp; done) | (simp; omega))) f4 (by first | exact .inl (by omega) | exact .inr (by omega))
    have IR_4 := K.ints.far (K.bin IR_3) f4 (by first | exact .inl (by omega) | exact .inr (by omega))
    by_cases m0_ : m = 0
    · subst m0_
      go_wp2_with fail
      have ne0_1 : ¬ (w.heap.size = w2.heap.size) := (by omega)
      have nf0_1 : ¬ (w2.heap.size = w.heap.size) := (by omega)
      go_region_held3 (fun w' => w'.cell? ⟨w2.heap.size, 0, none⟩ = some (.int .i64 F.dg) ∧ w'.cell? ⟨w2.heap.size, 1, none⟩ = some (.int .i64 F.tn) ∧ w'.cell? ⟨w2.heap.size, 2, none⟩ = some (.string F.nm) ∧ w'.cell? ⟨w2.heap.size, 3, none⟩ = some (.slice oF F.pw.length kF)) ((repeat' apply And.intro) <;> go_simp) ((go_at_call 35; refine K.call (by with_reducible rfl) (by with_reducible rfl) (l19Draw_any (w.heap.size + 1) _ (K.bsr s4)) ?_; rintro e w5 ⟨⟨v, xs, rfl, hxs, hv⟩, s5, f5⟩; have z5 := f5.size; (try simp at z5); have F5 : K.Ext w w5 := K.Far.ext (K.bex F4) f5 (by omega); obtain ⟨c5_0_0, c5_0_1, c5_0_2, c5_0_3, d5_0_0, d5_0_1, d5_0_2, d5_0_3, y5_0⟩ := f5.p4 c4_0_0 c4_0_1 c4_0_2 c4_0_3 d4_0_0 d4_0_1 d4_0_2 d4_0_3; obtain ⟨c5_1_0, c5_1_1, c5_1_2, c5_1_3, d5_1_0, d5_1_1, d5_1_2, d5_1_3, y5_1⟩ := f5.p4 c4_1_0 c4_1_1 c4_1_2 c4_1_3 d4_1_0 d4_1_1 d4_1_2 d4_1_3; have IF_5 := K.ints.far (K.bin IF_4) f5 (by first | exact .inl (by omega) | exact .inr (by omega)); have IU_5 := K.rows.far (show K.rows _ (w1.heap.size) w2.heap.size (.slice oU xss.length kU) xss from by with_reducible repeat' (first | exact IU_4 | refine K.rows.alloc ?_ _ | refine K.rows.drew ?_ | refine K.rows.set ?_ _ ?_ _ | (dsimp only; omega) | omega | (simp; done) | (simp; omega))) f5 (by first | exact .inl (by omega) | exact .inr (by omega)); have IR_5 := K.ints.far (K.bin IR_4) f5 (by first | exact .inl (by omega) | exact .inr (by omega)); obtain ⟨oX, kX, rfl, _⟩ := id (K.own.ints hv); have IX_5 : K.ints w5 (w4.heap.size) w5.heap.size (.slice oX xs.length kX) xs := K.ints.mono (K.own.ints hv) (by simp) (Nat.le_refl _)))
      go_wp2_with fail
      all_goals refine bodyPost_ret (v := .tuple #[.agg #[.int .i64 F.dg, .int .i64 F.tn, .string F.nm, .slice oF F.pw.length kF], .slice oU xss.length kU, .slice oX xs.length kX]) (by unfold results; rw [Tryz.results15]; go_simp) rfl ⟨⟨F, _, _, xss, _, xs, rfl, ⟨hnF, hmF⟩, K.ints.mono (K.bin IF_5) (by omega) (by first | omega | (simp; done) | (simp; omega)), HXS.out, K.rows.mono (show K.rows _ (w1.heap.size) w2.heap.size (.slice oU xss.length kU) xss from by with_reducible repeat' (first | exact IU_5 | refine K.rows.alloc ?_ _ | refine K.rows.drew ?_ | refine K.rows.set ?_ _ ?_ _ | (dsimp only; omega) | omega | (simp; done) | (simp; omega))) (by omega) (by first | omega | (simp; done) | (simp; omega)), hC, hxs, K.ints.mono (K.bin IX_5) (by omega) (by first | omega | (simp; done) | (simp; omega))⟩, (K.bex F5)⟩
    have m0' : (m == 0) = false := by simpa using m0_
    go_wp2_with fail
    all_goals refine bodyPost_ret (v := .tuple #[.agg #[.int .i64 F.dg, .int .i64 F.tn, .string F.nm, .slice oF F.pw.length kF], .slice oU xss.length kU, .slice oR (Z.UnitOf F xss).1.length kR]) (by unfold results; rw [Tryz.results15]; go_simp) rfl ⟨⟨F, _, _, xss, _, (Z.UnitOf F xss).1, rfl, ⟨hnF, hmF⟩, K.ints.mono (K.bin IF_4) (by omega) (by first | omega | (simp; done) | (simp; omega)), HXS.out, K.rows.mono (show K.rows _ (w1.heap.size) w2.heap.size (.slice oU xss.length kU) xss from by with_reducible repeat' (first | exact IU_4 | refine K.rows.alloc ?_ _ | refine K.rows.drew ?_ | refine K.rows.set ?_ _ ?_ _ | (dsimp only; omega) | omega | (simp; done) | (simp; omega))) (by omega) (by first | omega | (simp; done) | (simp; omega)), hC, h4, K.ints.mono (K.bin IR_4) (by omega) (by first | omega | (simp; done) | (simp; omega))⟩, (K.bex F4)⟩
  have hb' : ((Z.UnitOf F xss).2 == 0) = false := by simpa using hb
  go_wp2_with fail
  have ne0_1 : ¬ (w.heap.size = w2.heap.size) := (by omega)
  have nf0_1 : ¬ (w2.heap.size = w.heap.size) := (by omega)
  go_region_held3 (fun w' => w'.cell? ⟨w2.heap.size, 0, none⟩ = some (.int .i64 F.dg) ∧ w'.cell? ⟨w2.heap.size, 1, none⟩ = some (.int .i64 F.tn) ∧ w'.cell? ⟨w2.heap.size, 2, none⟩ = some (.string F.nm) ∧ w'.cell? ⟨w2.heap.size, 3, none⟩ = some (.slice oF F.pw.length kF)) ((repeat' apply And.intro) <;> go_simp) ((go_at_call 35; refine K.call (by with_reducible rfl) (by with_reducible rfl) (l19Draw_any (w.heap.size + 1) _ (K.bsr s3)) ?_; rintro e w4 ⟨⟨v, xs, rfl, hxs, hv⟩, s4, f4⟩; have z4 := f4.size; (try simp at z4); have F4 : K.Ext w w4 := K.Far.ext (K.bex F3) f4 (by omega); obtain ⟨c4_0_0, c4_0_1, c4_0_2, c4_0_3, d4_0_0, d4_0_1, d4_0_2, d4_0_3, y4_0⟩ := f4.p4 c3_0_0 c3_0_1 c3_0_2 c3_0_3 d3_0_0 d3_0_1 d3_0_2 d3_0_3; obtain ⟨c4_1_0, c4_1_1, c4_1_2, c4_1_3, d4_1_0, d4_1_1, d4_1_2, d4_1_3, y4_1⟩ := f4.p4 c3_1_0 c3_1_1 c3_1_2 c3_1_3 d3_1_0 d3_1_1 d3_1_2 d3_1_3; have IF_4 := K.ints.far (K.bin IF_3) f4 (by first | exact .inl (by omega) | exact .inr (by omega)); have IU_4 := K.rows.far (show K.rows _ (w1.heap.size) w2.heap.size (.slice oU xss.length kU) xss from by with_reducible repeat' (first | exact IU_3 | refine K.rows.alloc ?_ _ | refine K.rows.drew ?_ | refine K.rows.set ?_ _ ?_ _ | (dsimp only; omega) | omega | (simp; done) | (simp; omega))) f4 (by first | exact .inl (by omega) | exact .inr (by omega)); have IR_4 := K.ints.far (K.bin IR_3) f4 (by first | exact .inl (by omega) | exact .inr (by omega)); obtain ⟨oX, kX, rfl, _⟩ := id (K.own.ints hv); have IX_4 : K.ints w4 (w3.heap.size) w4.heap.size (.slice oX xs.length kX) xs := K.ints.mono (K.own.ints hv) (by simp) (Nat.le_refl _)))
  go_wp2_with fail
  all_goals refine bodyPost_ret (v := .tuple #[.agg #[.int .i64 F.dg, .int .i64 F.tn, .string F.nm, .slice oF F.pw.length kF], .slice oU xss.length kU, .slice oX xs.length kX]) (by unfold results; rw [Tryz.results15]; go_simp) rfl ⟨⟨F, _, _, xss, _, xs, rfl, ⟨hnF, hmF⟩, K.ints.mono (K.bin IF_4) (by omega) (by first | omega | (simp; done) | (simp; omega)), HXS.out, K.rows.mono (show K.rows _ (w1.heap.size) w2.heap.size (.slice oU xss.length kU) xss from by with_reducible repeat' (first | exact IU_4 | refine K.rows.alloc ?_ _ | refine K.rows.drew ?_ | refine K.rows.set ?_ _ ?_ _ | (dsimp only; omega) | omega | (simp; done) | (simp; omega))) (by omega) (by first | omega | (simp; done) | (simp; omega)), hC, hxs, K.ints.mono (K.bin IX_4) (by omega) (by first | omega | (simp; done) | (simp; omega))⟩, (K.bex F4)⟩
end Go.Proofs.YtmgocfdhngeeiaaGreatDoor
end
section
namespace Go.K
open Go Go.ChangeShapes Go.WideShapes Go.ChangeAt Go.RowKit Go.Deep
variable {H : Type} {enc : TypeId × Value → H} {P : Program} {w : World} {base : Nat} {spare : Nat → Bool} {held : Bool}
/-- a byte: one cell -/
def ByR : Rec Int := ⟨1, fun x _ => .int .u8 x⟩
theorem byte_cells {e : TypeId} {fuel : Nat} {cs : List Value} {x : DataW H × List MemPlace} (hi : P.underlying e = some (.int .u8))
    (h : DataW.trod enc P w base spare held fuel e cs = some x) : ∃ s : Int, (0 ≤ s ∧ s ≤ 255) ∧ cs = (List.range ByR.n).map (ByR.cell s) := by
  obtain ⟨i, ei, _, wi⟩ := DataW.trod_int hi h
  exact ⟨i, byte_wf wi, ei⟩
theorem byts_of_recs {v : Value} {xs : List Int} (h : recs false ByR w 0 w.heap.size v xs) (hq : ∀ s ∈ xs, 0 ≤ s ∧ s ≤ 255) : byts w w.heap.size v xs.length := by
  have g := h
  obtain ⟨o, cap, rfl, _⟩ := g
  refine ⟨o, cap, rfl, fun hn => ?_⟩
  obtain ⟨b, off, ho, _, hb, hc, _⟩ := recs_at h hn
  refine ⟨b, off, ho, hb, fun i hi => ?_⟩
  obtain ⟨q0, q1⟩ := hq _ (List.getElem_mem hi)
  refine ⟨xs[i], q0, q1, ?_⟩
  have e := hc i hi 0 (by decide)
  have hn1 : ByR.n = 1 := rfl
  rw [hn1, Nat.mul_one, Nat.add_zero] at e
  exact e
end Go.K
namespace Go.Proofs.YtmgocfdhngeeiaaGreatDoor
open Go.RowKit
theorem big_no {n hi : Nat} {v : Value} (w : World) (hn : n ≤ 4096) (h : K.byts w hi v n) :
    Calls Tryz.prog 5 #[v] w fun e w' => e = .returned (.bool false) ∧ w = w' := by
  obtain ⟨o, cap, rfl, _⟩ := h
  have i1 : ¬ ((4096 : Int) < (n : Int)) := by omega
  go_enter Tryz.func5, Tryz.ntmps5
  go_wp2_with fail
  go_ret
  exact ⟨rfl, rfl⟩
theorem big_yes {n hi : Nat} {v : Value} (w : World) (hn : 4096 < n) (h : K.byts w hi v n) :
    Calls Tryz.prog 5 #[v] w fun e w' => e = .returned (.bool true) ∧ w = w' := by
  obtain ⟨o, cap, rfl, _⟩ := h
  have i1 : (4096 : Int) < (n : Int) := by omega
  go_enter Tryz.func5, Tryz.ntmps5
  go_wp2_with fail
  go_ret
  exact ⟨rfl, rfl⟩
end Go.Proofs.YtmgocfdhngeeiaaGreatDoor
end
section
namespace Go.Proofs.YtmgocfdhngeeiaaGreatDoor
open Go.RowKit
set_option maxHeartbeats 400000 in
theorem likeInts_same (xs : List Int) (lo hi lo' hi' : Nat) (v v' : Value) (w : World) (hm : xs.length ≤ 1048576) (h : K.ints w lo hi v xs) (h' : K.ints w lo' hi' v' xs) :
    Calls Tryz.prog 18 #[v, v'] w fun e w' => e = .returned (.bool true) ∧ K.Ext w w' := by
  obtain ⟨o, cap, rfl, h⟩ := h
  obtain ⟨o', cap', rfl, h'⟩ := h'
  go_enter Tryz.func18, Tryz.ntmps18
  go_wp2
  go_loopw [5] (fun i wr => ∃ k : Nat, k ≤ xs.length ∧ i = .int .i64 k ∧ Hid (K.Ext w wr)) (fun i _ => xs.length - (intOf i).toNat)
  case atStart => exact ⟨0, Nat.zero_le _, rfl, Z.hide (K.Ext.refl _)⟩
  case round =>
    obtain ⟨k, hk, rfl, HX⟩ := hrel
    by_cases hlt : k < xs.length
    · obtain ⟨b, off, rfl, _, _, hc⟩ := h (by intro h0; simp [h0] at hlt)
      obtain ⟨b', off', rfl, _, _, hc'⟩ := h' (by intro h0; simp [h0] at hlt)
      have hck := HX.out.cell_of (hc k hlt)
      have hck' := HX.out.cell_of (hc' k hlt)
      clear hc hc' h h'
      generalize xs.getD k 0 = x at *
      have i0 : (0 : Int) ≤ (k : Int) := Int.natCast_nonneg k
      have i1 : (k : Int) < (xs.length : Int) := by omega
      go_wp2_with fail
      refine K.wp_region_ext (by kernel_rfl) (by kernel_rfl) ?_
      apply K.qcons
      · rfl
      · intro w' hw'; have hc := hw'.all.1.1; have hf := hw'.all.1.2; have hc' := hw'.all.2.1; have hf' := hw'.all.2.2; unfold Oper.quietAt; go_simp; first | done | rfl | exact ⟨rfl, rfl⟩
      simp only [Act.put, List.setIfInBounds_toArray, List.set]
      apply K.qcons
      · rfl
      · intro w' hw'; have hc := hw'.all.1.1; have hf := hw'.all.1.2; have hc' := hw'.all.2.1; have hf' := hw'.all.2.2; unfold Oper.quietAt; go_simp; first | done | rfl | exact ⟨rfl, rfl⟩
      simp only [Act.put, List.setIfInBounds_toArray, List.set]
      apply K.qcons
      · rfl
      · intro w' hw'; have hc := hw'.all.1.1; have hf := hw'.all.1.2; have hc' := hw'.all.2.1; have hf' := hw'.all.2.2; unfold Oper.quietAt; go_simp; first | done | rfl | exact ⟨rfl, rfl⟩
      simp only [Act.put, List.setIfInBounds_toArray, List.set]
      apply K.qcons
      · rfl
      · intro w' hw'; have hc := hw'.all.1.1; have hf := hw'.all.1.2; have hc' := hw'.all.2.1; have hf' := hw'.all.2.2; unfold Oper.quietAt; go_simp; first | done | rfl | exact ⟨rfl, rfl⟩
      simp only [Act.put, List.setIfInBounds_toArray, List.set]
      apply K.qcons
      · rfl
      · intro w' hw'; have hc := hw'.all.1.1; have hf := hw'.all.1.2; have hc' := hw'.all.2.1; have hf' := hw'.all.2.2; unfold Oper.quietAt; go_simp; first | done | rfl | exact ⟨rfl, rfl⟩
      simp only [Act.put, List.setIfInBounds_toArray, List.set]
      apply K.qcons
      · rfl
      · intro w' hw'; have hc := hw'.all.1.1; have hf := hw'.all.1.2; have hc' := hw'.all.2.1; have hf' := hw'.all.2.2; unfold Oper.quietAt; go_simp; first | done | rfl | exact ⟨rfl, rfl⟩
      simp only [Act.put, List.setIfInBounds_toArray, List.set]
      apply K.qcons
      · rfl
      · intro w' hw'; have hc := hw'.all.1.1; have hf := hw'.all.1.2; have hc' := hw'.all.2.1; have hf' := hw'.all.2.2; unfold Oper.quietAt; go_simp; first | done | rfl | exact ⟨rfl, rfl⟩
      simp only [Act.put, List.setIfInBounds_toArray, List.set]
      apply K.qcons
      · rfl
      · intro w' hw'; have hc := hw'.all.1.1; have hf := hw'.all.1.2; have hc' := hw'.all.2.1; have hf' := hw'.all.2.2; unfold Oper.quietAt; go_simp; first | done | rfl | exact ⟨rfl, rfl⟩
      simp only [Act.put, List.setIfInBounds_toArray, List.set]
      apply K.qcons
      · rfl
      · intro w' hw'; have hc := hw'.all.1.1; have hf := hw'.all.1.2; have hc' := hw'.all.2.1; have hf' := hw'.all.2.2; unfold Oper.quietAt; go_simp; first | done | exact K.vint (IntWalk.i64_in _ (by omega)) | rfl | exact ⟨rfl, rfl⟩
      simp only [Act.put, List.setIfInBounds_toArray, List.set]
      refine wpQuiet_nil ?_
      intro w1 hx1
      obtain ⟨⟨hcw1, hfw1⟩, hc'w1, hf'w1⟩ := hx1.all
      go_wp2
      go_roundw
      case rel => exact ⟨k + 1, by omega, by go_num, Z.hide (HX.out.trans (by first | exact hx1 | exact hx1.drew))⟩
      case measure => simp [intOf]; omega
    · obtain rfl : k = xs.length := by omega
      go_wp2
      go_ret
      exact ⟨rfl, HX.out⟩
end Go.Proofs.YtmgocfdhngeeiaaGreatDoor
end
section
namespace Go.Proofs.YtmgocfdhngeeiaaGreatDoor
open Go.RowKit
set_option maxHeartbeats 1600000 in
theorem impl_PowerUnit (xs : List Int) (n : Int) (lo hi : Nat) (v : Value) (w : World) (hm : xs.length ≤ 1048576) (h : K.ints w lo hi v xs) :
    Calls Tryz.prog 13 #[v, .int .i64 n] w fun e w' => (∃ r, e = .returned (.tuple #[r, .int .i64 (Z.PowerUnit xs n).2]) ∧ K.own w' w.heap.size w'.heap.size r (Z.PowerUnit xs n).1) ∧ K.Ext w w' := by
  cases hx : Z.isUnit xs
  · have HE : Hid (Z.PowerUnit xs n = ([], 1)) := Z.hide (Z.PowerUnit_1 _ hx)
    go_enter Tryz.func13, Tryz.ntmps13
    go_wp2_with (go_at_call 37; refine K.call (by with_reducible rfl) (by with_reducible rfl) (impl_IsUnit xs lo hi v _ hm h) ?_; rintro e w' ⟨rfl, rfl⟩)
    go_ret2
    exact ⟨⟨_, by rw [HE.out]; rfl, by rw [HE.out]; exact K.own_nil _ _ _⟩, (by repeat' (first | with_reducible exact K.Ext.refl _ | with_reducible assumption | with_reducible refine K.Ext.drew ?_ | with_reducible refine K.Ext.alloc ?_ _ | with_reducible refine K.Ext.setCell ?_ ?_ _ | with_reducible refine K.Ext.trans ?_ (by with_reducible assumption) | (dsimp only; omega) | omega | exact K.Ext.refl _ | assumption | apply K.Ext.drew | refine K.Ext.alloc ?_ _ | refine K.Ext.setCell ?_ ?_ _ | (simp; done) | (simp; omega) | refine K.Ext.trans ?_ (by assumption)))⟩
  · cases hy : (decide (-9 ≤ n) && decide (n ≤ 9))
    · have HE : Hid (Z.PowerUnit xs n = ([], 2)) := Z.hide (Z.PowerUnit_2 hx hy)
      go_enter Tryz.func13, Tryz.ntmps13
      go_wp2_with (first | (go_at_call 37; refine K.call (by with_reducible rfl) (by with_reducible rfl) (impl_IsUnit xs lo hi v _ hm h) ?_; rintro e w' ⟨rfl, rfl⟩) | (go_at_call 50; refine K.call (by with_reducible rfl) (by with_reducible rfl) (within_any _ _ _ _) ?_; rintro e w' ⟨rfl, rfl⟩))
      go_ret2
      exact ⟨⟨_, by rw [HE.out]; rfl, by rw [HE.out]; exact K.own_nil _ _ _⟩, (by repeat' (first | with_reducible exact K.Ext.refl _ | with_reducible assumption | with_reducible refine K.Ext.drew ?_ | with_reducible refine K.Ext.alloc ?_ _ | with_reducible refine K.Ext.setCell ?_ ?_ _ | with_reducible refine K.Ext.trans ?_ (by with_reducible assumption) | (dsimp only; omega) | omega | exact K.Ext.refl _ | assumption | apply K.Ext.drew | refine K.Ext.alloc ?_ _ | refine K.Ext.setCell ?_ ?_ _ | (simp; done) | (simp; omega) | refine K.Ext.trans ?_ (by assumption)))⟩
    · have HE : Hid (Z.PowerUnit xs n = Z.unitOr (Z.mulN xs n)) := Z.hide (Z.PowerUnit_3 hx hy)
      have HL := Z.hide (Z.isUnit_len hx)
      have HB := Z.hide (Z.isUnit_bd hx)
      obtain ⟨n1, n2⟩ : -9 ≤ n ∧ n ≤ 9 := by simpa using hy
      have HI := Z.hide info_int
      have h1 := h
      obtain ⟨o, cap, rfl, hh⟩ := h1
      go_enter Tryz.func13, Tryz.ntmps13
      go_wp2_with (first | (go_at_call 37; refine K.call (by with_reducible rfl) (by with_reducible rfl) (impl_IsUnit xs lo hi _ _ hm h) ?_; rintro e w' ⟨rfl, rfl⟩) | (go_at_call 50; refine K.call (by with_reducible rfl) (by with_reducible rfl) (within_any _ _ _ _) ?_; rintro e w' ⟨rfl, rfl⟩))
      clear h
      obtain ⟨it0, hi0, hz0, hz1, hz2⟩ := info_parts HI.out
      go_loopw [6, 20] (fun out i wr => ∃ k : Nat, k ≤ xs.length ∧ i = .int .i64 k ∧ Hid (wr.ownsRow w.heap.size 2 1 out k (((Z.mulN xs n).take k).map (Value.int .i64))) ∧ Hid (K.Ext w wr)) (fun _ i _ => xs.length - (intOf i).toNat)
      case atStart => exact ⟨0, Nat.zero_le _, rfl, Z.hide (World.ownsRow_lit w #[] 0 (Nat.le_refl _) (by decide) rfl), Z.hide ((K.Ext.refl _).alloc _)⟩
      case round =>
        obtain ⟨k, hk, rfl, HO, HX⟩ := hrel
        by_cases hlt : k < xs.length
        · obtain ⟨b, off, rfl, _, _, hc⟩ := hh (by intro h0; simp [h0] at hlt)
          have lb : b < w.heap.size := World.block_lt_of_cell? w _ (hc k hlt)
          have hck := HX.out.cell_of (hc k hlt)
          have HG := Z.hide (Z.mulN_get xs n k hlt)
          have HT := Z.hide (Z.take_succ_get (Z.mulN xs n) k (by rw [Z.mulN_length]; exact hlt))
          obtain ⟨e1, e2⟩ := HB.out k hlt
          have lk := HX.out.size
          clear hc hh lb
          generalize xs.getD k 0 = x at *
          obtain ⟨m1, m2⟩ := Z.mul_bd n x 1000000 1000000000 (by omega) (by omega) e1 e2
          go_wp2_with (at_builtin; refine wpList_append_lies _ rfl _ _ _ rfl w.heap.size 2 it0 _ 1 8 Tryz.underlying24 hi0 hz0 hz1 hz2 rfl (by omega) u6 k _ rfl (HO.out.alloc _) ⟨wr.heap.size, 0, none⟩ 1 1 [.int .i64 (n * x)] rfl rfl (World.news_of_block (cs := #[.int .i64 (n * x)]) (t := 2) (fr := (0, 0)) (heap_alloc_new wr _)) (by simp [Value.oneCell']) (by omega) (by unfold maxLen; omega) (by omega) (by simp; omega) (wr.heap.size + 1) (by simp) ?_; intro gg gcap w1 hown1 hgrow hat hlt2; have HO1 := Z.hide hown1; have HX1 : Hid (K.Ext w w1) := Z.hide (((HX.out.alloc _).below.grown hgrow (by simp; omega) (fun g hg => (HO.out.lt g hg).1))); clear hown1 hgrow hat)
          go_roundw
          case rel => exact ⟨k + 1, by omega, by go_num, Z.hide (by rw [HT.out, HG.out]; simpa using HO1.out), HX1⟩
          case measure => simp [intOf]; omega
        · obtain rfl : k = xs.length := by omega
          clear hh
          have HR := K.own_of_row HO.out
          rw [List.take_of_length_le (by rw [Z.mulN_length]; exact Nat.le_refl _)] at HR
          go_wp2_with (go_at_call 51; refine K.call (by with_reducible rfl) (by with_reducible rfl) (unitOr_any _ _ _ _ _ (by rw [Z.mulN_length]; exact hm) HR) ?_; rintro e w2 ⟨⟨r2, rfl, hr2⟩, rfl⟩)
          go_ret2
          exact ⟨⟨r2, by rw [HE.out]; rfl, by rw [HE.out]; exact hr2⟩, HX.out⟩
end Go.Proofs.YtmgocfdhngeeiaaGreatDoor
end
section
namespace Go.Proofs.YtmgocfdhngeeiaaGreatDoor
open Go.RowKit
set_option maxHeartbeats 1600000 in
theorem l01Same_any (xs ys : List Int) {lo hi lo' hi' : Nat} {v v' : Value} (w : World) (hm : xs.length ≤ 1048576) (hm' : ys.length ≤ 1048576) (h : K.ints w lo hi v xs) (h' : K.ints w lo' hi' v' ys) :
    Calls Tryz.prog 62 #[v, v'] w fun e w' => e = .returned (.bool (xs == ys)) ∧ K.Ext w w' := by
  have g1 := h
  obtain ⟨o, cap, rfl, _⟩ := g1
  have g2 := h'
  obtain ⟨o', cap', rfl, _⟩ := g2
  by_cases hl : xs.length = ys.length
  · have HH := Z.hide h
    have HH' := Z.hide h'
    obtain ⟨n, hn⟩ : ∃ n, n = xs.length := ⟨_, rfl⟩
    have hn' : n = ys.length := by omega
    have HN := Z.hide hn
    have HN' := Z.hide hn'
    rw [← hn, ← hn']
    rw [← hn] at hm
    clear h h' hl hn hn' hm'
    go_enter Tryz.func62, Tryz.ntmps62
    go_wp2
    go_loopw [5] (fun i wr => ∃ k : Nat, k ≤ n ∧ i = .int .i64 k ∧ Hid (xs.take k = ys.take k) ∧ Hid (K.Ext w wr)) (fun i _ => n - (intOf i).toNat)
    case atStart => exact ⟨0, Nat.zero_le _, rfl, Z.hide rfl, Z.hide (K.Ext.refl _)⟩
    case round =>
      obtain ⟨k, hk, rfl, HT, HX⟩ := hrel
      by_cases hlt : k < n
      · obtain ⟨b, off, ho, _, _, hc⟩ := K.ints_at (n := xs.length) (c := cap) (o := o) (by have h_ := HH.out; exact h_) (by rw [← HN.out]; omega)
        obtain ⟨b', off', ho', _, _, hc'⟩ := K.ints_at (n := ys.length) (c := cap') (o := o') (by have h_ := HH'.out; exact h_) (by rw [← HN'.out]; omega)
        subst ho
        subst ho'
        have hck := HX.out.cell_of (hc k (by rw [← HN.out]; exact hlt))
        have hck' := HX.out.cell_of (hc' k (by rw [← HN'.out]; exact hlt))
        have i0 : (0 : Int) ≤ (k : Int) := Int.natCast_nonneg k
        have i1 : (k : Int) < (n : Int) := by omega
        have HS : Hid (xs.getD k 0 = ys.getD k 0 → xs.take (k + 1) = ys.take (k + 1)) := Z.hide (fun he => by rw [Z.take_succ_get xs k (by rw [← HN.out]; exact hlt), Z.take_succ_get ys k (by rw [← HN'.out]; exact hlt), HT.out, he])
        have HBd : Hid (¬ xs.getD k 0 = ys.getD k 0 → (xs == ys) = false) := Z.hide (fun he => by rw [beq_eq_false_iff_ne]; intro h0; exact he (by rw [h0]))
        clear hc hc'
        generalize xs.getD k 0 = x at *
        generalize ys.getD k 0 = y at *
        by_cases hxy : x = y
        · have HS2 := Z.hide (HS.out hxy)
          subst hxy
          go_wp2_with fail
          refine K.wp_region_ext (by kernel_rfl) (by kernel_rfl) ?_
          apply K.qcons
          · rfl
          · intro w' hw'; have hc := hw'.all.1.1; have hf := hw'.all.1.2; have hc' := hw'.all.2.1; have hf' := hw'.all.2.2; unfold Oper.quietAt; go_simp; first | done | rfl | exact ⟨rfl, rfl⟩
          simp only [Act.put, List.setIfInBounds_toArray, List.set]
          apply K.qcons
          · rfl
          · intro w' hw'; have hc := hw'.all.1.1; have hf := hw'.all.1.2; have hc' := hw'.all.2.1; have hf' := hw'.all.2.2; unfold Oper.quietAt; go_simp; first | done | rfl | exact ⟨rfl, rfl⟩
          simp only [Act.put, List.setIfInBounds_toArray, List.set]
          apply K.qcons
          · rfl
          · intro w' hw'; have hc := hw'.all.1.1; have hf := hw'.all.1.2; have hc' := hw'.all.2.1; have hf' := hw'.all.2.2; unfold Oper.quietAt; go_simp; first | done | rfl | exact ⟨rfl, rfl⟩
          simp only [Act.put, List.setIfInBounds_toArray, List.set]
          apply K.qcons
          · rfl
          · intro w' hw'; have hc := hw'.all.1.1; have hf := hw'.all.1.2; have hc' := hw'.all.2.1; have hf' := hw'.all.2.2; unfold Oper.quietAt; go_simp; first | done | rfl | exact ⟨rfl, rfl⟩
          simp only [Act.put, List.setIfInBounds_toArray, List.set]
          apply K.qcons
          · rfl
          · intro w' hw'; have hc := hw'.all.1.1; have hf := hw'.all.1.2; have hc' := hw'.all.2.1; have hf' := hw'.all.2.2; unfold Oper.quietAt; go_simp; first | done | rfl | exact ⟨rfl, rfl⟩
          simp only [Act.put, List.setIfInBounds_toArray, List.set]
          apply K.qcons
          · rfl
          · intro w' hw'; have hc := hw'.all.1.1; have hf := hw'.all.1.2; have hc' := hw'.all.2.1; have hf' := hw'.all.2.2; unfold Oper.quietAt; go_simp; first | done | rfl | exact ⟨rfl, rfl⟩
          simp only [Act.put, List.setIfInBounds_toArray, List.set]
          apply K.qcons
          · rfl
          · intro w' hw'; have hc := hw'.all.1.1; have hf := hw'.all.1.2; have hc' := hw'.all.2.1; have hf' := hw'.all.2.2; unfold Oper.quietAt; go_simp; first | done | rfl | exact ⟨rfl, rfl⟩
          simp only [Act.put, List.setIfInBounds_toArray, List.set]
          apply K.qcons
          · rfl
          · intro w' hw'; have hc := hw'.all.1.1; have hf := hw'.all.1.2; have hc' := hw'.all.2.1; have hf' := hw'.all.2.2; unfold Oper.quietAt; go_simp; first | done | rfl | exact ⟨rfl, rfl⟩
          simp only [Act.put, List.setIfInBounds_toArray, List.set]
          apply K.qcons
          · rfl
          · intro w' hw'; have hc := hw'.all.1.1; have hf := hw'.all.1.2; have hc' := hw'.all.2.1; have hf' := hw'.all.2.2; unfold Oper.quietAt; go_simp; first | done | exact K.vint (IntWalk.i64_in _ (by omega)) | rfl | exact ⟨rfl, rfl⟩
          simp only [Act.put, List.setIfInBounds_toArray, List.set]
          refine wpQuiet_nil ?_
          intro w1 hx1
          obtain ⟨⟨hcw1, hfw1⟩, hc'w1, hf'w1⟩ := hx1.all
          go_wp2
          go_roundw
          case rel => exact ⟨k + 1, by omega, by go_num, HS2, Z.hide (HX.out.trans (by first | exact hx1 | exact hx1.drew))⟩
          case measure => simp [intOf]; omega
        · have HF := Z.hide (HBd.out hxy)
          have hq : (x == y) = false := by simpa using hxy
          have hq2 : (x != y) = true := by simpa using hxy
          go_wp2_with fail
          refine K.wp_region_ext (by kernel_rfl) (by kernel_rfl) ?_
          apply K.qcons
          · rfl
          · intro w' hw'; have hc := hw'.all.1.1; have hf := hw'.all.1.2; have hc' := hw'.all.2.1; have hf' := hw'.all.2.2; unfold Oper.quietAt; go_simp; first | done | rfl | exact ⟨rfl, rfl⟩
          simp only [Act.put, List.setIfInBounds_toArray, List.set]
          apply K.qcons
          · rfl
          · intro w' hw'; have hc := hw'.all.1.1; have hf := hw'.all.1.2; have hc' := hw'.all.2.1; have hf' := hw'.all.2.2; unfold Oper.quietAt; go_simp; first | done | rfl | exact ⟨rfl, rfl⟩
          simp only [Act.put, List.setIfInBounds_toArray, List.set]
          apply K.qcons
          · rfl
          · intro w' hw'; have hc := hw'.all.1.1; have hf := hw'.all.1.2; have hc' := hw'.all.2.1; have hf' := hw'.all.2.2; unfold Oper.quietAt; go_simp; first | done | rfl | exact ⟨rfl, rfl⟩
          simp only [Act.put, List.setIfInBounds_toArray, List.set]
          apply K.qcons
          · rfl
          · intro w' hw'; have hc := hw'.all.1.1; have hf := hw'.all.1.2; have hc' := hw'.all.2.1; have hf' := hw'.all.2.2; unfold Oper.quietAt; go_simp; first | done | rfl | exact ⟨rfl, rfl⟩
          simp only [Act.put, List.setIfInBounds_toArray, List.set]
          apply K.qcons
          · rfl
          · intro w' hw'; have hc := hw'.all.1.1; have hf := hw'.all.1.2; have hc' := hw'.all.2.1; have hf' := hw'.all.2.2; unfold Oper.quietAt; go_simp; first | done | rfl | exact ⟨rfl, rfl⟩
          simp only [Act.put, List.setIfInBounds_toArray, List.set]
          apply K.qcons
          · rfl
          · intro w' hw'; have hc := hw'.all.1.1; have hf := hw'.all.1.2; have hc' := hw'.all.2.1; have hf' := hw'.all.2.2; unfold Oper.quietAt; go_simp; first | done | rfl | exact ⟨rfl, rfl⟩
          simp only [Act.put, List.setIfInBounds_toArray, List.set]
          apply K.qcons
          · rfl
          · intro w' hw'; have hc := hw'.all.1.1; have hf := hw'.all.1.2; have hc' := hw'.all.2.1; have hf' := hw'.all.2.2; unfold Oper.quietAt; go_simp; first | done | rfl | exact ⟨rfl, rfl⟩
          simp only [Act.put, List.setIfInBounds_toArray, List.set]
          apply K.qcons
          · rfl
          · intro w' hw'; have hc := hw'.all.1.1; have hf := hw'.all.1.2; have hc' := hw'.all.2.1; have hf' := hw'.all.2.2; unfold Oper.quietAt; go_simp; first | done | rfl | exact ⟨rfl, rfl⟩
          simp only [Act.put, List.setIfInBounds_toArray, List.set]
          apply K.qcons
          · rfl
          · intro w' hw'; have hc := hw'.all.1.1; have hf := hw'.all.1.2; have hc' := hw'.all.2.1; have hf' := hw'.all.2.2; unfold Oper.quietAt; go_simp; first | done | exact K.vint (IntWalk.i64_in _ (by omega)) | rfl | exact ⟨rfl, rfl⟩
          simp only [Act.put, List.setIfInBounds_toArray, List.set]
          refine wpQuiet_nil ?_
          intro w1 hx1
          obtain ⟨⟨hcw1, hfw1⟩, hc'w1, hf'w1⟩ := hx1.all
          go_wp2
          go_ret
          exact ⟨K.rb (by rw [HF.out]), HX.out.trans (by first | exact hx1 | exact hx1.drew)⟩
      · obtain rfl : k = n := by omega
        have HF : Hid ((xs == ys) = true) := Z.hide (by
          have h_ := HT.out
          rw [HN.out, List.take_length, ← HN.out, HN'.out, List.take_length] at h_
          rw [h_]; simp)
        go_wp2
        go_ret
        exact ⟨K.rb (by rw [HF.out]), HX.out⟩
  · have HF : Hid ((xs == ys) = false) := Z.hide (by rw [beq_eq_false_iff_ne]; intro h0; exact hl (by rw [h0]))
    have hq : ((xs.length : Int) == (ys.length : Int)) = false := by simp; omega
    have hq2 : ((xs.length : Int) != (ys.length : Int)) = true := by simp; omega
    have hq3 : (xs.length == ys.length) = false := by simpa using hl
    go_enter Tryz.func62, Tryz.ntmps62
    go_wp2
    go_ret
    exact ⟨K.rb (by rw [HF.out]), K.Ext.refl _⟩
set_option maxHeartbeats 1600000 in
theorem Equal_any (xs ys : List Int) {lo hi lo' hi' : Nat} {v v' : Value} (w : World) (hm : xs.length ≤ 1048576) (hm' : ys.length ≤ 1048576) (h : K.ints w lo hi v xs) (h' : K.ints w lo' hi' v' ys) :
    Calls Tryz.prog 58 #[v, v'] w fun e w' => e = .returned (.bool (xs == ys)) ∧ K.Ext w w' := by
  have g1 := h
  obtain ⟨o, cap, rfl, _⟩ := g1
  have g2 := h'
  obtain ⟨o', cap', rfl, _⟩ := g2
  by_cases hl : xs.length = ys.length
  · have HH := Z.hide h
    have HH' := Z.hide h'
    obtain ⟨n, hn⟩ : ∃ n, n = xs.length := ⟨_, rfl⟩
    have hn' : n = ys.length := by omega
    have HN := Z.hide hn
    have HN' := Z.hide hn'
    rw [← hn, ← hn']
    rw [← hn] at hm
    clear h h' hl hn hn' hm'
    go_enter Tryz.func58, Tryz.ntmps58
    go_wp2
    go_loopw [13] (fun i wr => ∃ k : Nat, k ≤ n ∧ i = .int .i64 k ∧ Hid (xs.take k = ys.take k) ∧ Hid (K.Ext w wr)) (fun i _ => n - (intOf i).toNat)
    case atStart => exact ⟨0, Nat.zero_le _, rfl, Z.hide rfl, Z.hide (K.Ext.refl _)⟩
    case round =>
      obtain ⟨k, hk, rfl, HT, HX⟩ := hrel
      by_cases hlt : k < n
      · obtain ⟨b, off, ho, _, _, hc⟩ := K.ints_at (n := xs.length) (c := cap) (o := o) (by have h_ := HH.out; exact h_) (by rw [← HN.out]; omega)
        obtain ⟨b', off', ho', _, _, hc'⟩ := K.ints_at (n := ys.length) (c := cap') (o := o') (by have h_ := HH'.out; exact h_) (by rw [← HN'.out]; omega)
        subst ho
        subst ho'
        have hck := HX.out.cell_of (hc k (by rw [← HN.out]; exact hlt))
        have hck' := HX.out.cell_of (hc' k (by rw [← HN'.out]; exact hlt))
        have i0 : (0 : Int) ≤ (k : Int) := Int.natCast_nonneg k
        have i1 : (k : Int) < (n : Int) := by omega
        have HS : Hid (xs.getD k 0 = ys.getD k 0 → xs.take (k + 1) = ys.take (k + 1)) := Z.hide (fun he => by rw [Z.take_succ_get xs k (by rw [← HN.out]; exact hlt), Z.take_succ_get ys k (by rw [← HN'.out]; exact hlt), HT.out, he])
        have HBd : Hid (¬ xs.getD k 0 = ys.getD k 0 → (xs == ys) = false) := Z.hide (fun he => by rw [beq_eq_false_iff_ne]; intro h0; exact he (by rw [h0]))
        clear hc hc'
        generalize xs.getD k 0 = x at *
        generalize ys.getD k 0 = y at *
        by_cases hxy : x = y
        · have HS2 := Z.hide (HS.out hxy)
          subst hxy
          go_wp2_with fail
          refine K.wp_region_ext (by kernel_rfl) (by kernel_rfl) ?_
          apply K.qcons
          · rfl
          · intro w' hw'; have hc := hw'.all.1.1; have hf := hw'.all.1.2; have hc' := hw'.all.2.1; have hf' := hw'.all.2.2; unfold Oper.quietAt; go_simp; first | done | rfl | exact ⟨rfl, rfl⟩
          simp only [Act.put, List.setIfInBounds_toArray, List.set]
          apply K.qcons
          · rfl
          · intro w' hw'; have hc := hw'.all.1.1; have hf := hw'.all.1.2; have hc' := hw'.all.2.1; have hf' := hw'.all.2.2; unfold Oper.quietAt; go_simp; first | done | rfl | exact ⟨rfl, rfl⟩
          simp only [Act.put, List.setIfInBounds_toArray, List.set]
          apply K.qcons
          · rfl
          · intro w' hw'; have hc := hw'.all.1.1; have hf := hw'.all.1.2; have hc' := hw'.all.2.1; have hf' := hw'.all.2.2; unfold Oper.quietAt; go_simp; first | done | rfl | exact ⟨rfl, rfl⟩
          simp only [Act.put, List.setIfInBounds_toArray, List.set]
          apply K.qcons
          · rfl
          · intro w' hw'; have hc := hw'.all.1.1; have hf := hw'.all.1.2; have hc' := hw'.all.2.1; have hf' := hw'.all.2.2; unfold Oper.quietAt; go_simp; first | done | rfl | exact ⟨rfl, rfl⟩
          simp only [Act.put, List.setIfInBounds_toArray, List.set]
          apply K.qcons
          · rfl
          · intro w' hw'; have hc := hw'.all.1.1; have hf := hw'.all.1.2; have hc' := hw'.all.2.1; have hf' := hw'.all.2.2; unfold Oper.quietAt; go_simp; first | done | rfl | exact ⟨rfl, rfl⟩
          simp only [Act.put, List.setIfInBounds_toArray, List.set]
          apply K.qcons
          · rfl
          · intro w' hw'; have hc := hw'.all.1.1; have hf := hw'.all.1.2; have hc' := hw'.all.2.1; have hf' := hw'.all.2.2; unfold Oper.quietAt; go_simp; first | done | rfl | exact ⟨rfl, rfl⟩
          simp only [Act.put, List.setIfInBounds_toArray, List.set]
          apply K.qcons
          · rfl
          · intro w' hw'; have hc := hw'.all.1.1; have hf := hw'.all.1.2; have hc' := hw'.all.2.1; have hf' := hw'.all.2.2; unfold Oper.quietAt; go_simp; first | done | rfl | exact ⟨rfl, rfl⟩
          simp only [Act.put, List.setIfInBounds_toArray, List.set]
          apply K.qcons
          · rfl
          · intro w' hw'; have hc := hw'.all.1.1; have hf := hw'.all.1.2; have hc' := hw'.all.2.1; have hf' := hw'.all.2.2; unfold Oper.quietAt; go_simp; first | done | rfl | exact ⟨rfl, rfl⟩
          simp only [Act.put, List.setIfInBounds_toArray, List.set]
          apply K.qcons
          · rfl
          · intro w' hw'; have hc := hw'.all.1.1; have hf := hw'.all.1.2; have hc' := hw'.all.2.1; have hf' := hw'.all.2.2; unfold Oper.quietAt; go_simp; first | done | exact K.vint (IntWalk.i64_in _ (by omega)) | rfl | exact ⟨rfl, rfl⟩
          simp only [Act.put, List.setIfInBounds_toArray, List.set]
          refine wpQuiet_nil ?_
          intro w1 hx1
          obtain ⟨⟨hcw1, hfw1⟩, hc'w1, hf'w1⟩ := hx1.all
          go_wp2
          go_roundw
          case rel => exact ⟨k + 1, by omega, by go_num, HS2, Z.hide (HX.out.trans (by first | exact hx1 | exact hx1.drew))⟩
          case measure => simp [intOf]; omega
        · have HF := Z.hide (HBd.out hxy)
          have hq : (x == y) = false := by simpa using hxy
          have hq2 : (x != y) = true := by simpa using hxy
          go_wp2_with fail
          refine K.wp_region_ext (by kernel_rfl) (by kernel_rfl) ?_
          apply K.qcons
          · rfl
          · intro w' hw'; have hc := hw'.all.1.1; have hf := hw'.all.1.2; have hc' := hw'.all.2.1; have hf' := hw'.all.2.2; unfold Oper.quietAt; go_simp; first | done | rfl | exact ⟨rfl, rfl⟩
          simp only [Act.put, List.setIfInBounds_toArray, List.set]
          apply K.qcons
          · rfl
          · intro w' hw'; have hc := hw'.all.1.1; have hf := hw'.all.1.2; have hc' := hw'.all.2.1; have hf' := hw'.all.2.2; unfold Oper.quietAt; go_simp; first | done | rfl | exact ⟨rfl, rfl⟩
          simp only [Act.put, List.setIfInBounds_toArray, List.set]
          apply K.qcons
          · rfl
          · intro w' hw'; have hc := hw'.all.1.1; have hf := hw'.all.1.2; have hc' := hw'.all.2.1; have hf' := hw'.all.2.2; unfold Oper.quietAt; go_simp; first | done | rfl | exact ⟨rfl, rfl⟩
          simp only [Act.put, List.setIfInBounds_toArray, List.set]
          apply K.qcons
          · rfl
          · intro w' hw'; have hc := hw'.all.1.1; have hf := hw'.all.1.2; have hc' := hw'.all.2.1; have hf' := hw'.all.2.2; unfold Oper.quietAt; go_simp; first | done | rfl | exact ⟨rfl, rfl⟩
          simp only [Act.put, List.setIfInBounds_toArray, List.set]
          apply K.qcons
          · rfl
          · intro w' hw'; have hc := hw'.all.1.1; have hf := hw'.all.1.2; have hc' := hw'.all.2.1; have hf' := hw'.all.2.2; unfold Oper.quietAt; go_simp; first | done | rfl | exact ⟨rfl, rfl⟩
          simp only [Act.put, List.setIfInBounds_toArray, List.set]
          apply K.qcons
          · rfl
          · intro w' hw'; have hc := hw'.all.1.1; have hf := hw'.all.1.2; have hc' := hw'.all.2.1; have hf' := hw'.all.2.2; unfold Oper.quietAt; go_simp; first | done | rfl | exact ⟨rfl, rfl⟩
          simp only [Act.put, List.setIfInBounds_toArray, List.set]
          apply K.qcons
          · rfl
          · intro w' hw'; have hc := hw'.all.1.1; have hf := hw'.all.1.2; have hc' := hw'.all.2.1; have hf' := hw'.all.2.2; unfold Oper.quietAt; go_simp; first | done | rfl | exact ⟨rfl, rfl⟩
          simp only [Act.put, List.setIfInBounds_toArray, List.set]
          apply K.qcons
          · rfl
          · intro w' hw'; have hc := hw'.all.1.1; have hf := hw'.all.1.2; have hc' := hw'.all.2.1; have hf' := hw'.all.2.2; unfold Oper.quietAt; go_simp; first | done | rfl | exact ⟨rfl, rfl⟩
          simp only [Act.put, List.setIfInBounds_toArray, List.set]
          apply K.qcons
          · rfl
          · intro w' hw'; have hc := hw'.all.1.1; have hf := hw'.all.1.2; have hc' := hw'.all.2.1; have hf' := hw'.all.2.2; unfold Oper.quietAt; go_simp; first | done | exact K.vint (IntWalk.i64_in _ (by omega)) | rfl | exact ⟨rfl, rfl⟩
          simp only [Act.put, List.setIfInBounds_toArray, List.set]
          refine wpQuiet_nil ?_
          intro w1 hx1
          obtain ⟨⟨hcw1, hfw1⟩, hc'w1, hf'w1⟩ := hx1.all
          go_wp2
          go_ret
          exact ⟨K.rb (by rw [HF.out]), HX.out.trans (by first | exact hx1 | exact hx1.drew)⟩
      · obtain rfl : k = n := by omega
        have HF : Hid ((xs == ys) = true) := Z.hide (by
          have h_ := HT.out
          rw [HN.out, List.take_length, ← HN.out, HN'.out, List.take_length] at h_
          rw [h_]; simp)
        go_wp2
        go_ret
        exact ⟨K.rb (by rw [HF.out]), HX.out⟩
  · have HF : Hid ((xs == ys) = false) := Z.hide (by rw [beq_eq_false_iff_ne]; intro h0; exact hl (by rw [h0]))
    have hq : ((xs.length : Int) == (ys.length : Int)) = false := by simp; omega
    have hq2 : ((xs.length : Int) != (ys.length : Int)) = true := by simp; omega
    have hq3 : (xs.length == ys.length) = false := by simpa using hl
    go_enter Tryz.func58, Tryz.ntmps58
    go_wp2
    go_ret
    exact ⟨K.rb (by rw [HF.out]), K.Ext.refl _⟩
end Go.Proofs.YtmgocfdhngeeiaaGreatDoor
end
section
namespace Go.Z
def IsFitting (F : Fm) (uss : List (List Int)) (r : List Int) : Bool × Int := if isFormula F && okUnits F uss && isUnit r then (unitK F.pw uss uss.length == r, 0) else (false, 1)
theorem okUnits_parts {F : Fm} {uss : List (List Int)} (h : okUnits F uss = true) : uss.length = F.nm.size ∧ allUnits uss = true := by
  simpa [okUnits] using h
end Go.Z
namespace Go.Proofs.YtmgocfdhngeeiaaGreatDoor
open Go.RowKit
set_option maxHeartbeats 3200000 in
theorem impl_IsFitting (F : Z.Fm) (U : List (List Int)) (r : List Int) {loF hiF : Nat} {pF : Value} {loU hiU : Nat} {pU : Value} {lor hir : Nat} {pr : Value} (w : World)  (hmF : F.pw.length ≤ 1048576) (hnF : F.nm.size ≤ 1048576) (hF : K.ints w loF hiF pF F.pw) (hmU : U.length ≤ 1048576) (hqU : ∀ xs ∈ U, (xs : List Int).length ≤ 1048576) (hU : K.rows w loU hiU pU U) (hmr : r.length ≤ 1048576) (hr : K.ints w lor hir pr r) :
    Calls Tryz.prog 16 #[.agg #[.int .i64 F.dg, .int .i64 F.tn, .string F.nm, pF], pU, pr] w fun e w' => e = .returned (.tuple #[.bool ((Z.IsFitting F U r).1), .int .i64 ((Z.IsFitting F U r).2)]) ∧ K.Ext w w' := by
  have hF_ := hF
  have shF := hF
  obtain ⟨oF, cF, rfl, _⟩ := shF
  have hU_ := hU
  have shU := hU
  obtain ⟨oU, cU, _, rfl, _⟩ := shU
  have hr_ := hr
  have shr := hr
  obtain ⟨or, cr, rfl, _⟩ := shr
  obtain ⟨t, ht⟩ : ∃ t, t = (Z.isFormula F && Z.okUnits F U) := ⟨_, rfl⟩
  have HA : ∀ {a b c d : Nat} {p v : Value} (w : World), K.ints w a b p F.pw → K.rows w c d v U → Calls Tryz.prog 57 #[.agg #[.int .i64 F.dg, .int .i64 F.tn, .string F.nm, p], v] w fun e w' => e = .returned (.bool t) ∧ K.Ext w w' := fun w h h' => by rw [ht]; exact areUnits_any F U w hmF hnF h hmU hqU h'
  cases t
  · have HE : Hid (Z.IsFitting F U r = (false, 1)) := Z.hide (by unfold Z.IsFitting; rw [← ht]; rfl)
    clear ht
    have X0 : K.Ext w w := K.Ext.refl w
    go_enter Tryz.func16, Tryz.ntmps16
    go_wp2_with (go_at_call 57; refine K.call (by with_reducible rfl) (by with_reducible rfl) (HA _ (K.ints.alloc hF_ _) (K.rows.alloc hU_ _)) ?_; rintro e w1 ⟨rfl, x1⟩; have s1 : w.heap.size + 1 ≤ w1.heap.size := (by have h_ := x1.size; (try simp at h_); omega); have X1 := K.Ext.trans (K.Ext.alloc X0 _) x1; obtain ⟨c1_0_0, c1_0_1, c1_0_2, c1_0_3⟩ := K.c4 x1 (w.heap.size) (.int .i64 F.dg) (.int .i64 F.tn) (.string F.nm) (.slice oF F.pw.length cF) (by go_simp); have z1_0 : w.heap.size < w1.heap.size := World.block_lt_of_cell? w1 _ c1_0_0; have d1_0 : ¬ (w.heap.size = w1.heap.size) := (by omega); have e1_0 : ¬ (w1.heap.size = w.heap.size) := (by omega); have F1_1 := K.ints.ext (K.ints.alloc hF_ _) x1; have F2_1 := K.rows.ext (K.rows.alloc hU_ _) x1; have F3_1 := K.ints.ext (K.ints.alloc hr_ _) x1; clear hF_ hU_ hr_)
    rw [HE.out]
    refine bodyPost_ret (v := .tuple #[.bool false, .int .i64 1]) (by unfold results; rw [Tryz.results16]; go_simp) rfl ⟨rfl, ?_⟩
    repeat with_reducible refine K.Ext.setCell ?_ (by dsimp only; omega) _
    exact (by repeat' (first | with_reducible exact X1 | with_reducible refine K.Ext.setCell ?_ ?_ _ | with_reducible refine K.Ext.alloc ?_ _ | with_reducible refine K.Ext.drew ?_ | (dsimp only; omega) | omega | (simp; omega)))
  · cases hr : Z.isUnit r
    · have HE : Hid (Z.IsFitting F U r = (false, 1)) := Z.hide (by unfold Z.IsFitting; rw [← ht, hr]; rfl)
      clear ht
      have X0 : K.Ext w w := K.Ext.refl w
      go_enter Tryz.func16, Tryz.ntmps16
      go_wp2_with (go_at_call 57; refine K.call (by with_reducible rfl) (by with_reducible rfl) (HA _ (K.ints.alloc hF_ _) (K.rows.alloc hU_ _)) ?_; rintro e w1 ⟨rfl, x1⟩; have s1 : w.heap.size + 1 ≤ w1.heap.size := (by have h_ := x1.size; (try simp at h_); omega); have X1 := K.Ext.trans (K.Ext.alloc X0 _) x1; obtain ⟨c1_0_0, c1_0_1, c1_0_2, c1_0_3⟩ := K.c4 x1 (w.heap.size) (.int .i64 F.dg) (.int .i64 F.tn) (.string F.nm) (.slice oF F.pw.length cF) (by go_simp); have z1_0 : w.heap.size < w1.heap.size := World.block_lt_of_cell? w1 _ c1_0_0; have d1_0 : ¬ (w.heap.size = w1.heap.size) := (by omega); have e1_0 : ¬ (w1.heap.size = w.heap.size) := (by omega); have F1_1 := K.ints.ext (K.ints.alloc hF_ _) x1; have F2_1 := K.rows.ext (K.rows.alloc hU_ _) x1; have F3_1 := K.ints.ext (K.ints.alloc hr_ _) x1; clear hF_ hU_ hr_)
      go_wp2_with (go_at_call 37; refine K.call (by with_reducible rfl) (by with_reducible rfl) (impl_IsUnit r _ _ _ _ hmr (F3_1)) ?_; rintro e w_ ⟨rfl, rfl⟩)
      rw [HE.out]
      refine bodyPost_ret (v := .tuple #[.bool false, .int .i64 1]) (by unfold results; rw [Tryz.results16]; go_simp) rfl ⟨rfl, ?_⟩
      repeat with_reducible refine K.Ext.setCell ?_ (by dsimp only; omega) _
      exact (by repeat' (first | with_reducible exact X1 | with_reducible refine K.Ext.setCell ?_ ?_ _ | with_reducible refine K.Ext.alloc ?_ _ | with_reducible refine K.Ext.drew ?_ | (dsimp only; omega) | omega | (simp; omega)))
    · obtain ⟨k, hk⟩ : ∃ k, k = Z.unitK F.pw U U.length := ⟨_, rfl⟩
      have HE : Hid (Z.IsFitting F U r = (k == r, 0)) := Z.hide (by unfold Z.IsFitting; rw [← ht, hr, hk]; rfl)
      have h3 : Z.isFormula F = true ∧ Z.okUnits F U = true := by simpa using ht.symm
      have HK : ∀ {a b c d : Nat} {p v : Value} (w : World), K.ints w a b p F.pw → K.rows w c d v U → Calls Tryz.prog 59 #[.agg #[.int .i64 F.dg, .int .i64 F.tn, .string F.nm, p], v] w fun e w' => (∃ r, e = .returned r ∧ K.own w' w.heap.size w'.heap.size r k) ∧ K.Ext w w' := fun w h h' => by
        rw [hk]; exact unitOf_any F U w h3.1 (Z.okUnits_parts h3.2).1 (Z.okUnits_parts h3.2).2 h h'
      have hkl : k.length ≤ 1048576 := by rw [hk, Z.unitK_length]; decide
      clear ht hk h3
      have X0 : K.Ext w w := K.Ext.refl w
      go_enter Tryz.func16, Tryz.ntmps16
      go_wp2_with (go_at_call 57; refine K.call (by with_reducible rfl) (by with_reducible rfl) (HA _ (K.ints.alloc hF_ _) (K.rows.alloc hU_ _)) ?_; rintro e w1 ⟨rfl, x1⟩; have s1 : w.heap.size + 1 ≤ w1.heap.size := (by have h_ := x1.size; (try simp at h_); omega); have X1 := K.Ext.trans (K.Ext.alloc X0 _) x1; obtain ⟨c1_0_0, c1_0_1, c1_0_2, c1_0_3⟩ := K.c4 x1 (w.heap.size) (.int .i64 F.dg) (.int .i64 F.tn) (.string F.nm) (.slice oF F.pw.length cF) (by go_simp); have z1_0 : w.heap.size < w1.heap.size := World.block_lt_of_cell? w1 _ c1_0_0; have d1_0 : ¬ (w.heap.size = w1.heap.size) := (by omega); have e1_0 : ¬ (w1.heap.size = w.heap.size) := (by omega); have F1_1 := K.ints.ext (K.ints.alloc hF_ _) x1; have F2_1 := K.rows.ext (K.rows.alloc hU_ _) x1; have F3_1 := K.ints.ext (K.ints.alloc hr_ _) x1; clear hF_ hU_ hr_)
      go_wp2_with (go_at_call 37; refine K.call (by with_reducible rfl) (by with_reducible rfl) (impl_IsUnit r _ _ _ _ hmr (F3_1)) ?_; rintro e w_ ⟨rfl, rfl⟩)
      go_wp2_with (go_at_call 59; refine K.call (by with_reducible rfl) (by with_reducible rfl) (HK _ (F1_1) (F2_1)) ?_; rintro e w3 ⟨⟨p3, rfl, g3⟩, x3⟩; obtain ⟨o3, k3, rfl, _⟩ := K.own.ints g3; have F4_3 : K.own w3 (w1.heap.size) (w3.heap.size) (.slice o3 k.length k3) (k) := g3.mono (by simp) (Nat.le_refl _); clear g3; have s3 : w1.heap.size ≤ w3.heap.size := (by have h_ := x3.size; (try simp at h_); omega); have X3 := K.Ext.trans (X1) x3; obtain ⟨c3_0_0, c3_0_1, c3_0_2, c3_0_3⟩ := K.c4 x3 (w.heap.size) (.int .i64 F.dg) (.int .i64 F.tn) (.string F.nm) (.slice oF F.pw.length cF) (by go_simp); have z3_0 : w.heap.size < w3.heap.size := World.block_lt_of_cell? w3 _ c3_0_0; have d3_0 : ¬ (w.heap.size = w3.heap.size) := (by omega); have e3_0 : ¬ (w3.heap.size = w.heap.size) := (by omega); have F1_3 := K.ints.ext (F1_1) x3; have F2_3 := K.rows.ext (F2_1) x3; have F3_3 := K.ints.ext (F3_1) x3; clear c1_0_0 c1_0_1 c1_0_2 c1_0_3 z1_0 d1_0 e1_0 F1_1 F2_1 F3_1)
      go_wp2_with (go_at_call 58; refine K.call (by with_reducible rfl) (by with_reducible rfl) (Equal_any k r _ hkl hmr (K.own.ints (F4_3)) (F3_3)) ?_; rintro e w4 ⟨rfl, x4⟩; have s4 : w3.heap.size ≤ w4.heap.size := (by have h_ := x4.size; (try simp at h_); omega); have X4 := K.Ext.trans (X3) x4; obtain ⟨c4_0_0, c4_0_1, c4_0_2, c4_0_3⟩ := K.c4 x4 (w.heap.size) (.int .i64 F.dg) (.int .i64 F.tn) (.string F.nm) (.slice oF F.pw.length cF) (by go_simp); have z4_0 : w.heap.size < w4.heap.size := World.block_lt_of_cell? w4 _ c4_0_0; have d4_0 : ¬ (w.heap.size = w4.heap.size) := (by omega); have e4_0 : ¬ (w4.heap.size = w.heap.size) := (by omega); have F1_4 := K.ints.ext (F1_3) x4; have F2_4 := K.rows.ext (F2_3) x4; have F3_4 := K.ints.ext (F3_3) x4; have F4_4 := K.own.ext (F4_3) x4; clear c3_0_0 c3_0_1 c3_0_2 c3_0_3 z3_0 d3_0 e3_0 F1_3 F2_3 F3_3 F4_3)
      rw [HE.out]
      refine bodyPost_ret (v := .tuple #[.bool (k == r), .int .i64 0]) (by unfold results; rw [Tryz.results16]; go_simp) rfl ⟨rfl, ?_⟩
      repeat with_reducible refine K.Ext.setCell ?_ (by dsimp only; omega) _
      exact (by repeat' (first | with_reducible exact X4 | with_reducible refine K.Ext.setCell ?_ ?_ _ | with_reducible refine K.Ext.alloc ?_ _ | with_reducible refine K.Ext.drew ?_ | (dsimp only; omega) | omega | (simp; omega)))
set_option maxHeartbeats 3200000 in
theorem spec_IsFitting (F : Z.Fm) (U : List (List Int)) (r : List Int) {loF hiF : Nat} {pF : Value} {loU hiU : Nat} {pU : Value} {lor hir : Nat} {pr : Value} (w : World)  (hmF : F.pw.length ≤ 1048576) (hnF : F.nm.size ≤ 1048576) (hF : K.ints w loF hiF pF F.pw) (hmU : U.length ≤ 1048576) (hqU : ∀ xs ∈ U, (xs : List Int).length ≤ 1048576) (hU : K.rows w loU hiU pU U) (hmr : r.length ≤ 1048576) (hr : K.ints w lor hir pr r) :
    Calls Tryz.prog 17 #[.agg #[.int .i64 F.dg, .int .i64 F.tn, .string F.nm, pF], pU, pr] w fun e w' => e = .returned (.tuple #[.bool ((Z.IsFitting F U r).1), .int .i64 ((Z.IsFitting F U r).2)]) ∧ K.Ext w w' := by
  have hF_ := hF
  have shF := hF
  obtain ⟨oF, cF, rfl, _⟩ := shF
  have hU_ := hU
  have shU := hU
  obtain ⟨oU, cU, _, rfl, _⟩ := shU
  have hr_ := hr
  have shr := hr
  obtain ⟨or, cr, rfl, _⟩ := shr
  cases vF : Z.isFormula F
  · have HE : Hid (Z.IsFitting F U r = (false, 1)) := Z.hide (by unfold Z.IsFitting; rw [vF]; rfl)
    have X0 : K.Ext w w := K.Ext.refl w
    go_enter Tryz.func17, Tryz.ntmps17
    go_wp2_with (go_at_call 60; refine K.call (by with_reducible rfl) (by with_reducible rfl) (spec_IsFormula F _ hmF hnF (K.ints.alloc hF_ _)) ?_; rintro e w1 ⟨rfl, x1⟩; have s1 : w.heap.size + 1 ≤ w1.heap.size := (by have h_ := x1.size; (try simp at h_); omega); have X1 := K.Ext.trans (K.Ext.alloc X0 _) x1; obtain ⟨c1_0_0, c1_0_1, c1_0_2, c1_0_3⟩ := K.c4 x1 (w.heap.size) (.int .i64 F.dg) (.int .i64 F.tn) (.string F.nm) (.slice oF F.pw.length cF) (by go_simp); have z1_0 : w.heap.size < w1.heap.size := World.block_lt_of_cell? w1 _ c1_0_0; have d1_0 : ¬ (w.heap.size = w1.heap.size) := (by omega); have e1_0 : ¬ (w1.heap.size = w.heap.size) := (by omega); have F1_1 := K.ints.ext (K.ints.alloc hF_ _) x1; have F2_1 := K.rows.ext (K.rows.alloc hU_ _) x1; have F3_1 := K.ints.ext (K.ints.alloc hr_ _) x1; clear hF_ hU_ hr_)
    rw [HE.out]
    refine bodyPost_ret (v := .tuple #[.bool false, .int .i64 1]) (by unfold results; rw [Tryz.results17]; go_simp) rfl ⟨rfl, ?_⟩
    repeat with_reducible refine K.Ext.setCell ?_ (by dsimp only; omega) _
    exact (by repeat' (first | with_reducible exact X1 | with_reducible refine K.Ext.setCell ?_ ?_ _ | with_reducible refine K.Ext.alloc ?_ _ | with_reducible refine K.Ext.drew ?_ | (dsimp only; omega) | omega | (simp; omega)))
  · cases vU : Z.okUnits F U
    · have HE : Hid (Z.IsFitting F U r = (false, 1)) := Z.hide (by unfold Z.IsFitting; rw [vF, vU]; rfl)
      have X0 : K.Ext w w := K.Ext.refl w
      go_enter Tryz.func17, Tryz.ntmps17
      go_wp2_with (go_at_call 60; refine K.call (by with_reducible rfl) (by with_reducible rfl) (spec_IsFormula F _ hmF hnF (K.ints.alloc hF_ _)) ?_; rintro e w1 ⟨rfl, x1⟩; have s1 : w.heap.size + 1 ≤ w1.heap.size := (by have h_ := x1.size; (try simp at h_); omega); have X1 := K.Ext.trans (K.Ext.alloc X0 _) x1; obtain ⟨c1_0_0, c1_0_1, c1_0_2, c1_0_3⟩ := K.c4 x1 (w.heap.size) (.int .i64 F.dg) (.int .i64 F.tn) (.string F.nm) (.slice oF F.pw.length cF) (by go_simp); have z1_0 : w.heap.size < w1.heap.size := World.block_lt_of_cell? w1 _ c1_0_0; have d1_0 : ¬ (w.heap.size = w1.heap.size) := (by omega); have e1_0 : ¬ (w1.heap.size = w.heap.size) := (by omega); have F1_1 := K.ints.ext (K.ints.alloc hF_ _) x1; have F2_1 := K.rows.ext (K.rows.alloc hU_ _) x1; have F3_1 := K.ints.ext (K.ints.alloc hr_ _) x1; clear hF_ hU_ hr_)
      go_wp2_with (go_at_call 61; refine K.call (by with_reducible rfl) (by with_reducible rfl) (l19Units_any F U _ hnF hmU hqU (F2_1)) ?_; rintro e w2 ⟨rfl, x2⟩; have s2 : w1.heap.size ≤ w2.heap.size := (by have h_ := x2.size; (try simp at h_); omega); have X2 := K.Ext.trans (X1) x2; obtain ⟨c2_0_0, c2_0_1, c2_0_2, c2_0_3⟩ := K.c4 x2 (w.heap.size) (.int .i64 F.dg) (.int .i64 F.tn) (.string F.nm) (.slice oF F.pw.length cF) (by go_simp); have z2_0 : w.heap.size < w2.heap.size := World.block_lt_of_cell? w2 _ c2_0_0; have d2_0 : ¬ (w.heap.size = w2.heap.size) := (by omega); have e2_0 : ¬ (w2.heap.size = w.heap.size) := (by omega); have F1_2 := K.ints.ext (F1_1) x2; have F2_2 := K.rows.ext (F2_1) x2; have F3_2 := K.ints.ext (F3_1) x2; clear c1_0_0 c1_0_1 c1_0_2 c1_0_3 z1_0 d1_0 e1_0 F1_1 F2_1 F3_1)
      rw [HE.out]
      refine bodyPost_ret (v := .tuple #[.bool false, .int .i64 1]) (by unfold results; rw [Tryz.results17]; go_simp) rfl ⟨rfl, ?_⟩
      repeat with_reducible refine K.Ext.setCell ?_ (by dsimp only; omega) _
      exact (by repeat' (first | with_reducible exact X2 | with_reducible refine K.Ext.setCell ?_ ?_ _ | with_reducible refine K.Ext.alloc ?_ _ | with_reducible refine K.Ext.drew ?_ | (dsimp only; omega) | omega | (simp; omega)))
    · cases hr : Z.isUnit r
      · have HE : Hid (Z.IsFitting F U r = (false, 1)) := Z.hide (by unfold Z.IsFitting; rw [vF, vU, hr]; rfl)
        have X0 : K.Ext w w := K.Ext.refl w
        go_enter Tryz.func17, Tryz.ntmps17
        go_wp2_with (go_at_call 60; refine K.call (by with_reducible rfl) (by with_reducible rfl) (spec_IsFormula F _ hmF hnF (K.ints.alloc hF_ _)) ?_; rintro e w1 ⟨rfl, x1⟩; have s1 : w.heap.size + 1 ≤ w1.heap.size := (by have h_ := x1.size; (try simp at h_); omega); have X1 := K.Ext.trans (K.Ext.alloc X0 _) x1; obtain ⟨c1_0_0, c1_0_1, c1_0_2, c1_0_3⟩ := K.c4 x1 (w.heap.size) (.int .i64 F.dg) (.int .i64 F.tn) (.string F.nm) (.slice oF F.pw.length cF) (by go_simp); have z1_0 : w.heap.size < w1.heap.size := World.block_lt_of_cell? w1 _ c1_0_0; have d1_0 : ¬ (w.heap.size = w1.heap.size) := (by omega); have e1_0 : ¬ (w1.heap.size = w.heap.size) := (by omega); have F1_1 := K.ints.ext (K.ints.alloc hF_ _) x1; have F2_1 := K.rows.ext (K.rows.alloc hU_ _) x1; have F3_1 := K.ints.ext (K.ints.alloc hr_ _) x1; clear hF_ hU_ hr_)
        go_wp2_with (go_at_call 61; refine K.call (by with_reducible rfl) (by with_reducible rfl) (l19Units_any F U _ hnF hmU hqU (F2_1)) ?_; rintro e w2 ⟨rfl, x2⟩; have s2 : w1.heap.size ≤ w2.heap.size := (by have h_ := x2.size; (try simp at h_); omega); have X2 := K.Ext.trans (X1) x2; obtain ⟨c2_0_0, c2_0_1, c2_0_2, c2_0_3⟩ := K.c4 x2 (w.heap.size) (.int .i64 F.dg) (.int .i64 F.tn) (.string F.nm) (.slice oF F.pw.length cF) (by go_simp); have z2_0 : w.heap.size < w2.heap.size := World.block_lt_of_cell? w2 _ c2_0_0; have d2_0 : ¬ (w.heap.size = w2.heap.size) := (by omega); have e2_0 : ¬ (w2.heap.size = w.heap.size) := (by omega); have F1_2 := K.ints.ext (F1_1) x2; have F2_2 := K.rows.ext (F2_1) x2; have F3_2 := K.ints.ext (F3_1) x2; clear c1_0_0 c1_0_1 c1_0_2 c1_0_3 z1_0 d1_0 e1_0 F1_1 F2_1 F3_1)
        go_wp2_with (go_at_call 39; refine K.call (by with_reducible rfl) (by with_reducible rfl) (spec_IsUnit r _ _ _ _ hmr (F3_2)) ?_; rintro e w_ ⟨rfl, rfl⟩)
        rw [HE.out]
        refine bodyPost_ret (v := .tuple #[.bool false, .int .i64 1]) (by unfold results; rw [Tryz.results17]; go_simp) rfl ⟨rfl, ?_⟩
        repeat with_reducible refine K.Ext.setCell ?_ (by dsimp only; omega) _
        exact (by repeat' (first | with_reducible exact X2 | with_reducible refine K.Ext.setCell ?_ ?_ _ | with_reducible refine K.Ext.alloc ?_ _ | with_reducible refine K.Ext.drew ?_ | (dsimp only; omega) | omega | (simp; omega)))
      · obtain ⟨k, hk⟩ : ∃ k, k = Z.unitK F.pw U U.length := ⟨_, rfl⟩
        have HE : Hid (Z.IsFitting F U r = (k == r, 0)) := Z.hide (by unfold Z.IsFitting; rw [vF, vU, hr, hk]; rfl)
        have HK : ∀ {a b c d : Nat} {p v : Value} (w : World), K.ints w a b p F.pw → K.rows w c d v U → Calls Tryz.prog 63 #[.agg #[.int .i64 F.dg, .int .i64 F.tn, .string F.nm, p], v] w fun e w' => (∃ r, e = .returned r ∧ K.ints w' w.heap.size w'.heap.size r k) ∧ K.Ext w w' := fun w h h' => by
          rw [hk]; exact l19Of_any F U w vF (Z.okUnits_parts vU).1 (Z.okUnits_parts vU).2 h h'
        have hkl : k.length ≤ 1048576 := by rw [hk, Z.unitK_length]; decide
        clear hk
        have X0 : K.Ext w w := K.Ext.refl w
        go_enter Tryz.func17, Tryz.ntmps17
        go_wp2_with (go_at_call 60; refine K.call (by with_reducible rfl) (by with_reducible rfl) (spec_IsFormula F _ hmF hnF (K.ints.alloc hF_ _)) ?_; rintro e w1 ⟨rfl, x1⟩; have s1 : w.heap.size + 1 ≤ w1.heap.size := (by have h_ := x1.size; (try simp at h_); omega); have X1 := K.Ext.trans (K.Ext.alloc X0 _) x1; obtain ⟨c1_0_0, c1_0_1, c1_0_2, c1_0_3⟩ := K.c4 x1 (w.heap.size) (.int .i64 F.dg) (.int .i64 F.tn) (.string F.nm) (.slice oF F.pw.length cF) (by go_simp); have z1_0 : w.heap.size < w1.heap.size := World.block_lt_of_cell? w1 _ c1_0_0; have d1_0 : ¬ (w.heap.size = w1.heap.size) := (by omega); have e1_0 : ¬ (w1.heap.size = w.heap.size) := (by omega); have F1_1 := K.ints.ext (K.ints.alloc hF_ _) x1; have F2_1 := K.rows.ext (K.rows.alloc hU_ _) x1; have F3_1 := K.ints.ext (K.ints.alloc hr_ _) x1; clear hF_ hU_ hr_)
        go_wp2_with (go_at_call 61; refine K.call (by with_reducible rfl) (by with_reducible rfl) (l19Units_any F U _ hnF hmU hqU (F2_1)) ?_; rintro e w2 ⟨rfl, x2⟩; have s2 : w1.heap.size ≤ w2.heap.size := (by have h_ := x2.size; (try simp at h_); omega); have X2 := K.Ext.trans (X1) x2; obtain ⟨c2_0_0, c2_0_1, c2_0_2, c2_0_3⟩ := K.c4 x2 (w.heap.size) (.int .i64 F.dg) (.int .i64 F.tn) (.string F.nm) (.slice oF F.pw.length cF) (by go_simp); have z2_0 : w.heap.size < w2.heap.size := World.block_lt_of_cell? w2 _ c2_0_0; have d2_0 : ¬ (w.heap.size = w2.heap.size) := (by omega); have e2_0 : ¬ (w2.heap.size = w.heap.size) := (by omega); have F1_2 := K.ints.ext (F1_1) x2; have F2_2 := K.rows.ext (F2_1) x2; have F3_2 := K.ints.ext (F3_1) x2; clear c1_0_0 c1_0_1 c1_0_2 c1_0_3 z1_0 d1_0 e1_0 F1_1 F2_1 F3_1)
        go_wp2_with (go_at_call 39; refine K.call (by with_reducible rfl) (by with_reducible rfl) (spec_IsUnit r _ _ _ _ hmr (F3_2)) ?_; rintro e w_ ⟨rfl, rfl⟩)
        go_wp2_with (go_at_call 63; refine K.call (by with_reducible rfl) (by with_reducible rfl) (HK _ (F1_2) (F2_2)) ?_; rintro e w4 ⟨⟨p4, rfl, g4⟩, x4⟩; obtain ⟨o4, k4, rfl, _⟩ := K.ints.mono g4 (Nat.le_refl _) (Nat.le_refl _); have F4_4 : K.ints w4 (w2.heap.size) (w4.heap.size) (.slice o4 k.length k4) (k) := g4.mono (by simp) (Nat.le_refl _); clear g4; have s4 : w2.heap.size ≤ w4.heap.size := (by have h_ := x4.size; (try simp at h_); omega); have X4 := K.Ext.trans (X2) x4; obtain ⟨c4_0_0, c4_0_1, c4_0_2, c4_0_3⟩ := K.c4 x4 (w.heap.size) (.int .i64 F.dg) (.int .i64 F.tn) (.string F.nm) (.slice oF F.pw.length cF) (by go_simp); have z4_0 : w.heap.size < w4.heap.size := World.block_lt_of_cell? w4 _ c4_0_0; have d4_0 : ¬ (w.heap.size = w4.heap.size) := (by omega); have e4_0 : ¬ (w4.heap.size = w.heap.size) := (by omega); have F1_4 := K.ints.ext (F1_2) x4; have F2_4 := K.rows.ext (F2_2) x4; have F3_4 := K.ints.ext (F3_2) x4; clear c2_0_0 c2_0_1 c2_0_2 c2_0_3 z2_0 d2_0 e2_0 F1_2 F2_2 F3_2)
        go_wp2_with (go_at_call 62; refine K.call (by with_reducible rfl) (by with_reducible rfl) (l01Same_any k r _ hkl hmr (F4_4) (F3_4)) ?_; rintro e w5 ⟨rfl, x5⟩; have s5 : w4.heap.size ≤ w5.heap.size := (by have h_ := x5.size; (try simp at h_); omega); have X5 := K.Ext.trans (X4) x5; obtain ⟨c5_0_0, c5_0_1, c5_0_2, c5_0_3⟩ := K.c4 x5 (w.heap.size) (.int .i64 F.dg) (.int .i64 F.tn) (.string F.nm) (.slice oF F.pw.length cF) (by go_simp); have z5_0 : w.heap.size < w5.heap.size := World.block_lt_of_cell? w5 _ c5_0_0; have d5_0 : ¬ (w.heap.size = w5.heap.size) := (by omega); have e5_0 : ¬ (w5.heap.size = w.heap.size) := (by omega); have F1_5 := K.ints.ext (F1_4) x5; have F2_5 := K.rows.ext (F2_4) x5; have F3_5 := K.ints.ext (F3_4) x5; have F4_5 := K.ints.ext (F4_4) x5; clear c4_0_0 c4_0_1 c4_0_2 c4_0_3 z4_0 d4_0 e4_0 F1_4 F2_4 F3_4 F4_4)
        rw [HE.out]
        refine bodyPost_ret (v := .tuple #[.bool (k == r), .int .i64 0]) (by unfold results; rw [Tryz.results17]; go_simp) rfl ⟨rfl, ?_⟩
        repeat with_reducible refine K.Ext.setCell ?_ (by dsimp only; omega) _
        exact (by repeat' (first | with_reducible exact X5 | with_reducible refine K.Ext.setCell ?_ ?_ _ | with_reducible refine K.Ext.alloc ?_ _ | with_reducible refine K.Ext.drew ?_ | (dsimp only; omega) | omega | (simp; omega)))
end Go.Proofs.YtmgocfdhngeeiaaGreatDoor
end
