/-
  UNITS of formulas, the tool.
-/
import Derived.Test.YtphlppklhpaljaaUnitS2
set_option linter.unusedVariables false
namespace Go.Z
/-- the unit of the first k letters; of the next one, the first j exponents -/
def unitJ (ps : List Int) (uss : List (List Int)) (k j : Nat) : List Int := (List.range 4).map (fun i => if i < j then (unitK ps uss (k + 1)).getD i 0 else (unitK ps uss k).getD i 0)
theorem unitJ_length (ps : List Int) (uss : List (List Int)) (k j : Nat) : (unitJ ps uss k j).length = 4 := by simp [unitJ]
theorem unitJ_get (ps : List Int) (uss : List (List Int)) (k j i : Nat) (h : i < 4) : (unitJ ps uss k j).getD i 0 = if i < j then (unitK ps uss (k + 1)).getD i 0 else (unitK ps uss k).getD i 0 := by simp [unitJ, List.getD_eq_getElem?_getD, h]
theorem list_ext4 {a b : List Int} (ha : a.length = 4) (hb : b.length = 4) (h : ∀ i, i < 4 → a.getD i 0 = b.getD i 0) : a = b := by
  apply List.ext_getElem (by omega)
  intro i h1 h2
  have := h i (by omega)
  simpa [List.getD_eq_getElem?_getD, h1, h2] using this
theorem unitJ_zero (ps : List Int) (uss : List (List Int)) (k : Nat) : unitJ ps uss k 0 = unitK ps uss k :=
  list_ext4 (unitJ_length _ _ _ _) (unitK_length _ _ _) (fun i hi => by rw [unitJ_get _ _ _ _ _ hi, if_neg (by omega)])
theorem unitJ_four (ps : List Int) (uss : List (List Int)) (k : Nat) : unitJ ps uss k 4 = unitK ps uss (k + 1) :=
  list_ext4 (unitJ_length _ _ _ _) (unitK_length _ _ _) (fun i hi => by rw [unitJ_get _ _ _ _ _ hi, if_pos hi])
theorem unitJ_succ (ps : List Int) (uss : List (List Int)) (k j : Nat) (hj : j < 4) : unitJ ps uss k (j + 1) = (unitJ ps uss k j).set j ((unitK ps uss (k + 1)).getD j 0) := by
  apply List.ext_getElem
  · simp [unitJ]
  · intro i h1 h2
    rw [List.getElem_set]
    simp only [unitJ, List.getElem_map, List.getElem_range]
    by_cases h : j = i
    · subst h; simp
    · rw [if_neg h]
      by_cases h3 : i < j
      · rw [if_pos h3, if_pos (by omega)]
      · rw [if_neg h3, if_neg (by omega)]
end Go.Z
namespace Go.Proofs.Ytphlppklhpaljaa
open Go.RowKit
set_option maxHeartbeats 6400000 in
theorem unitOf_any (F : Z.Fm) (uss : List (List Int)) {lo hi lo' hi' : Nat} {p v : Value} (w : World) (hF : Z.isFormula F = true) (hl : uss.length = F.nm.size) (hu : Z.allUnits uss = true) (h : K.ints w lo hi p F.pw) (h' : K.rows w lo' hi' v uss) :
    Calls Try.prog 111 #[.agg #[.int .i64 F.dg, .int .i64 F.tn, .string F.nm, p], v] w fun e w' => (∃ r, e = .returned r ∧ K.own w' w.heap.size w'.heap.size r (Z.unitK F.pw uss uss.length)) ∧ K.Ext w w' := by
  have g1 := h
  obtain ⟨o, cap, rfl, _⟩ := g1
  have g2 := h'
  obtain ⟨o', cap', _, rfl, _⟩ := g2
  have HI := Z.hide h
  have HV := Z.hide h'
  obtain ⟨hpl, h6⟩ := Z.isFormula_len hF
  have hus : ∀ j (hj : j < uss.length), Z.isUnit (uss[j]'hj) = true := fun j hj => by
    unfold Z.allUnits at hu; rw [List.all_eq_true] at hu; exact hu _ (List.getElem_mem hj)
  have hps : ∀ i, i < uss.length → -6 ≤ F.pw.getD i 0 ∧ F.pw.getD i 0 ≤ 6 := fun i hi => by
    have := Z.okAt_parts (Z.valid_at hF i (by omega))
    exact ⟨this.2.2.2.2.1, this.2.2.2.2.2⟩
  have HB := Z.hide (Z.unitK_bd hus hps)
  have HUS := Z.hide hus
  have HPS := Z.hide hps
  obtain ⟨n, hn⟩ : ∃ n, n = uss.length := ⟨_, rfl⟩
  have hn6 : n ≤ 6 := by omega
  have hnp : n ≤ F.pw.length := by omega
  have HN := Z.hide hn
  rw [← hn]
  clear h h' hF hl hu hpl h6 hus hps hn
  obtain ⟨i0, hi0, hz0, hz1, hz2⟩ := info_parts info_int
  go_enter Try.func111, Try.ntmps111
  go_wp2_with (at_make; refine wpList_make_full _ rfl _ _ 24 rfl (w.heap.size + 1) 2 i0 (.int .i64 0) 1 Try.underlying24 hi0 hz0 hz1 _ _ _ _ 4 rfl rfl rfl rfl (by rw [hz2]; omega) (by unfold maxLen; omega) (by simp) ?_; intro w1 hown1 hgrow1)
  have hx1 : K.Ext w w1 := ((K.Ext.refl w).alloc _).below.grown hgrow1 (by simp) (fun g hg => by cases hg)
  have hc1 : w1.cell? ⟨w.heap.size, 3, none⟩ = some (.slice o F.pw.length cap) := (hgrow1.cell_far ⟨w.heap.size, 3, none⟩ (by simp) (by simp)).trans (by go_simp)
  have HX1 := Z.hide hx1
  have HC1 := Z.hide hc1
  have HO1 : Hid (w1.ownsRow (w.heap.size + 1) 2 1 (.slice (some ⟨w.heap.size + 1, 0, none⟩) 4 4) 4 ((Z.unitK F.pw uss 0).map (Value.int .i64))) := Z.hide (by simpa [toList_madeCells_one, Value.cells, Z.unitK, List.replicate] using hown1)
  clear hown1 hgrow1 hx1 hc1 hi0 hz0 hz1 hz2
  go_loopw [13] (fun i wr => ∃ k : Nat, k ≤ n ∧ i = .int .i64 k ∧ Hid (wr.ownsRow (w.heap.size + 1) 2 1 (.slice (some ⟨w.heap.size + 1, 0, none⟩) 4 4) 4 ((Z.unitK F.pw uss k).map (Value.int .i64))) ∧ Hid (wr.cell? ⟨w.heap.size, 3, none⟩ = some (.slice o F.pw.length cap)) ∧ Hid (K.Ext w wr)) (fun i _ => n - (intOf i).toNat)
  case atStart => exact ⟨0, Nat.zero_le _, rfl, HO1, HC1, HX1⟩
  case round =>
    obtain ⟨k, hk, rfl, HO, HC, HX⟩ := hrel
    clear HO1 HC1 HX1
    obtain ⟨wo, rfl⟩ : ∃ wo : World, wo = wr := ⟨_, rfl⟩
    have k0 : (0 : Int) ≤ (k : Int) := Int.natCast_nonneg k
    by_cases hlt : k < n
    · have k1 : (k : Int) < (n : Int) := by omega
      have k2 : (k : Int) < (F.pw.length : Int) := by omega
      have hku : k < uss.length := by rw [← HN.out]; exact hlt
      obtain ⟨b, off, u, rfl, _, _, hc, hu⟩ := K.rows_at HV.out k hku
      obtain ⟨b', off', rfl, _, _, hc'⟩ := K.ints_at HI.out (by omega)
      have p0 := Z.hide (hc' k (by omega))
      have huk := HUS.out k hku
      have hpk := HPS.out k hku
      have e : uss.getD k [] = uss[k]'hku := by simp [List.getD_eq_getElem?_getD, hku]
      have HE : Hid (Z.unitK F.pw uss (k + 1) = Z.addN (Z.unitK F.pw uss k) (uss[k]'hku) (F.pw.getD k 0)) := Z.hide (by rw [← e]; rfl)
      have h4 : (uss[k]'hku).length = 4 := Z.isUnit_len huk
      have HBk := Z.hide (HB.out k (by omega))
      obtain ⟨ys, hy⟩ : ∃ ys, ys = uss[k]'hku := ⟨_, rfl⟩
      rw [← hy] at hu HE h4 huk
      have H9 := Z.hide (Z.isUnit_bd9 huk)
      have H4 := Z.hide h4
      have hu2 := hu
      obtain ⟨o2, c2, rfl, _⟩ := hu2
      rw [h4] at hu hc
      have HU := Z.hide hu
      have hcw := HX.out.cell_of hc
      clear hc' huk e h4 hy hu
      generalize hm : F.pw.getD k 0 = m at *
      obtain ⟨hpk1, hpk2⟩ := hpk
      clear hm hc
      go_wp2
      go_loopw [20] (fun jj wr => ∃ j : Nat, j ≤ 4 ∧ jj = .int .i64 j ∧ Hid (wr.ownsRow (w.heap.size + 1) 2 1 (.slice (some ⟨w.heap.size + 1, 0, none⟩) 4 4) 4 ((Z.unitJ F.pw uss k j).map (Value.int .i64))) ∧ Hid (wr.cell? ⟨w.heap.size, 3, none⟩ = some (.slice (some ⟨b', off', none⟩) F.pw.length cap)) ∧ Hid (K.Ext w wr)) (fun jj _ => 4 - (intOf jj).toNat)
      case atStart => exact ⟨0, Nat.zero_le _, rfl, Z.hide (by rw [Z.unitJ_zero]; exact HO.out), HC, HX⟩
      case round =>
        obtain ⟨j, hj, rfl, HOj, HCj, HXj⟩ := hrel
        have j0 : (0 : Int) ≤ (j : Int) := Int.natCast_nonneg j
        by_cases hlt2 : j < 4
        · have j1 : (j : Int) < 4 := by omega
          obtain ⟨b2, off2, rfl, _, _, hcy⟩ := K.ints_at HU.out (by rw [H4.out]; decide)
          have y0 : wr.cell? ⟨b2, off2 + j, none⟩ = some (.int .i64 (ys.getD j 0)) := HXj.out.cell_of (hcy j (by rw [H4.out]; exact hlt2))
          have p1 : wr.cell? ⟨b', off' + k, none⟩ = some (.int .i64 m) := HXj.out.cell_of p0.out
          have c3 := HCj.out
          have x0 : wr.cell? ⟨w.heap.size + 1, j, none⟩ = some (.int .i64 ((Z.unitK F.pw uss k).getD j 0)) := by
            have hx := Z.unitJ_get F.pw uss k j j hlt2
            rw [if_neg (Nat.lt_irrefl j)] at hx
            rw [HOj.out.cellAt j (by omega), ← hx]
            simp [Z.unitJ_length, hlt2, List.getD_eq_getElem?_getD]
          have f0 := HOj.out.frozenAt j
          obtain ⟨xb1, xb2⟩ := HBk.out j hlt2
          obtain ⟨yb1, yb2⟩ := H9.out j (by rw [H4.out]; exact hlt2)
          have HS : Hid (Z.unitJ F.pw uss k (j + 1) = (Z.unitJ F.pw uss k j).set j ((Z.unitK F.pw uss k).getD j 0 + m * ys.getD j 0)) := Z.hide (by
            rw [Z.unitJ_succ _ _ _ _ hlt2, HE.out, Z.addN_get _ _ _ _ (by rw [Z.unitK_length]; exact hlt2)])
          generalize (Z.unitK F.pw uss k).getD j 0 = x at *
          generalize ys.getD j 0 = y at *
          obtain ⟨m1, m2⟩ := Z.mul_bd m y 6 9 hpk1 hpk2 yb1 yb2
          have q1 : IntKind.i64.wrap (m * y) = m * y := IntWalk.i64_in _ (by omega)
          have q2 : IntKind.i64.wrap (x + m * y) = x + m * y := IntWalk.i64_in _ (by omega)
          clear hcy
          go_wp2_with fail
          refine K.wp_region_x 12 [0, 0, 0, 1, 0, 1, 0, 0, 1, 0, 0, 0] [] (by kernel_rfl) (by kernel_rfl) ?_
          simp only [List.take_succ_cons, List.take_zero, List.drop_succ_cons, List.drop_zero]
          iterate 3
            apply K.x_pure
            · rfl
            · rfl
            · intro w'; go_simp; first | done | exact K.vint (IntWalk.i64_in _ (by omega)) | rfl | exact ⟨rfl, rfl⟩
            simp only [Act.put, List.setIfInBounds_toArray, List.set]
          apply K.x_held
          · rfl
          · rfl
          · intro w' hx; have hc := hx.all.1.1; have hf := hx.all.1.2; have hc' := hx.all.2.1; have hf' := hx.all.2.2; go_simp; first | done | rfl | exact ⟨rfl, rfl⟩
          simp only [Act.put, List.setIfInBounds_toArray, List.set]
          apply K.x_pure
          · rfl
          · rfl
          · intro w'; go_simp; first | done | exact K.vint (IntWalk.i64_in _ (by omega)) | rfl | exact ⟨rfl, rfl⟩
          simp only [Act.put, List.setIfInBounds_toArray, List.set]
          apply K.x_held
          · rfl
          · rfl
          · intro w' hx; have hc := hx.all.1.1; have hf := hx.all.1.2; have hc' := hx.all.2.1; have hf' := hx.all.2.2; go_simp; first | done | rfl | exact ⟨rfl, rfl⟩
          simp only [Act.put, List.setIfInBounds_toArray, List.set]
          iterate 2
            apply K.x_pure
            · rfl
            · rfl
            · intro w'; go_simp; first | done | exact K.vint (IntWalk.i64_in _ (by omega)) | rfl | exact ⟨rfl, rfl⟩
            simp only [Act.put, List.setIfInBounds_toArray, List.set]
          apply K.x_held
          · rfl
          · rfl
          · intro w' hx; have hc := hx.all.1.1; have hf := hx.all.1.2; have hc' := hx.all.2.1; have hf' := hx.all.2.2; go_simp; first | done | rfl | exact ⟨rfl, rfl⟩
          simp only [Act.put, List.setIfInBounds_toArray, List.set]
          iterate 3
            apply K.x_pure
            · rfl
            · rfl
            · intro w'; go_simp; first | done | exact K.vint (IntWalk.i64_in _ (by omega)) | rfl | exact ⟨rfl, rfl⟩
            simp only [Act.put, List.setIfInBounds_toArray, List.set]
          apply K.x_done
          intro w6 h_x
          have hx6 := K.Ext.id h_x
          clear h_x
          obtain ⟨⟨hcw6, hfw6⟩, hc'w6, hf'w6⟩ := hx6.all
          go_wp2_with fail
          refine NoPanic.normal ?_
          have HO6 := Z.hide ((K.row_ext HOj.out.drew hx6).stored j (.int .i64 (x + m * y)))
          have HC6 : Hid ((w6.setCell ⟨w.heap.size + 1, j, none⟩ (.int .i64 (x + m * y))).cell? ⟨w.heap.size, 3, none⟩ = some (.slice (some ⟨b', off', none⟩) F.pw.length cap)) := Z.hide (by
            rw [World.cell?_setCell_other (h := by simp)]
            exact hx6.cell_of (show wr.drew.cell? ⟨w.heap.size, 3, none⟩ = _ from by go_simp))
          have HX6 : Hid (K.Ext w (w6.setCell ⟨w.heap.size + 1, j, none⟩ (.int .i64 (x + m * y)))) := Z.hide (K.Ext.setCell (K.Ext.trans HXj.out.drew hx6) (by dsimp only; omega) _)
          go_wp2
          go_roundw
          case rel => exact ⟨j + 1, by omega, by go_num, Z.hide (by rw [HS.out, List.map_set]; exact HO6.out.1), HC6, HX6⟩
          case measure => simp [intOf]; omega
        · obtain rfl : j = 4 := by omega
          go_wp2
          go_roundw
          case rel => exact ⟨k + 1, by omega, by go_num, Z.hide (by rw [← Z.unitJ_four]; exact HOj.out), HCj, HXj⟩
          case measure => simp [intOf]; omega
    · obtain rfl : k = n := by omega
      have HR := K.own_of_row HO.out
      go_wp2
      go_ret
      exact ⟨⟨_, rfl, HR.mono (by omega) (Nat.le_refl _)⟩, HX.out⟩
end Go.Proofs.Ytphlppklhpaljaa
