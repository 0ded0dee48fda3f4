/-
  UNITS of formulas, the reference.
-/
import Derived.Test.YtphlppklhpaljaaUnitSS
import Derived.Test.YtphlppklhpaljaaUnits2
import Derived.Test.YtphlppklhpaljaaOwn
import Derived.Test.YtphlppklhpaljaaMulF3
set_option linter.unusedVariables false
namespace Go.Z
/-- the exponents of the unit of a formula, of the first k letters -/
def unitK (ps : List Int) (uss : List (List Int)) : Nat → List Int
  | 0 => [0, 0, 0, 0]
  | k + 1 => addN (unitK ps uss k) (uss.getD k []) (ps.getD k 0)
theorem unitK_length (ps : List Int) (uss : List (List Int)) (k : Nat) : (unitK ps uss k).length = 4 := by
  induction k with
  | zero => rfl
  | succ k ih => simp only [unitK, addN, List.length_map, List.length_range]; exact ih
theorem isUnit_at {u : List Int} (h : isUnit u = true) (i : Nat) (hi : i < u.length) : -9 ≤ u.getD i 0 ∧ u.getD i 0 ≤ 9 := by
  simp only [isUnit, Bool.and_eq_true, List.all_eq_true] at h
  have := h.1 u[i] (List.getElem_mem hi)
  simp only [in9, Bool.and_eq_true, decide_eq_true_eq] at this
  simpa [List.getD_eq_getElem?_getD, hi] using this
theorem unitK_bd {ps : List Int} {uss : List (List Int)} (hu : ∀ j (hj : j < uss.length), isUnit (uss[j]'hj) = true) (hp : ∀ j, j < uss.length → -6 ≤ ps.getD j 0 ∧ ps.getD j 0 ≤ 6) (k : Nat) (hk : k ≤ uss.length) :
    ∀ i, i < 4 → -(54 * (k : Int)) ≤ (unitK ps uss k).getD i 0 ∧ (unitK ps uss k).getD i 0 ≤ 54 * (k : Int) := by
  induction k with
  | zero =>
    intro i hi
    match i, hi with
    | 0, _ => simp [unitK]
    | 1, _ => simp [unitK]
    | 2, _ => simp [unitK]
    | 3, _ => simp [unitK]
  | succ k ih =>
    intro i hi
    obtain ⟨a, b⟩ := ih (by omega) i hi
    have hj : k < uss.length := by omega
    have e : uss.getD k [] = uss[k]'hj := by simp [List.getD_eq_getElem?_getD, hj]
    have h4 : (uss[k]'hj).length = 4 := by
      have := hu k hj
      simp only [isUnit, Bool.and_eq_true, beq_iff_eq] at this
      exact this.2
    obtain ⟨c, d⟩ := isUnit_at (hu k hj) i (by omega)
    obtain ⟨p1, p2⟩ := hp k hj
    obtain ⟨m1, m2⟩ := mul_bd (ps.getD k 0) ((uss[k]'hj).getD i 0) 6 9 p1 p2 c d
    simp only [unitK]
    rw [addN_get _ _ _ _ (by rw [unitK_length]; exact hi), e]
    constructor <;> omega
end Go.Z
namespace Go.K
open Go.RowKit
theorem ints4 {w : World} {g : Nat} {a b c d : Int} {T : TypeId} (h : w.heap[g]? = some (.cells #[.int .i64 a, .int .i64 b, .int .i64 c, .int .i64 d] T)) : K.ints w g (g + 1) (.slice (some ⟨g, 0, none⟩) 4 4) [a, b, c, d] := by
  refine ⟨_, 4, rfl, fun _ => ⟨g, 0, rfl, Nat.le_refl _, by omega, fun i hi => ?_⟩⟩
  match i, hi with
  | 0, _ => exact cell_at h rfl
  | 1, _ => exact cell_at h rfl
  | 2, _ => exact cell_at h rfl
  | 3, _ => exact cell_at h rfl
end Go.K
namespace Go.Proofs.Ytphlppklhpaljaa
open Go.RowKit
theorem l19Add_sp (xs ys : List Int) (n : Int) {lo hi lo' hi' B : Nat} {v v' : Value} (w : World) (hB : B ≤ w.heap.size) (hm : xs.length ≤ 1048576) (hl : xs.length ≤ ys.length)
    (hb : ∀ i, i < xs.length → -1000000000 ≤ xs.getD i 0 ∧ xs.getD i 0 ≤ 1000000000) (hb' : ∀ i, i < ys.length → -1000000000 ≤ ys.getD i 0 ∧ ys.getD i 0 ≤ 1000000000) (hn : -1000000 ≤ n) (hn' : n ≤ 1000000)
    (h : K.ints w lo hi v xs) (h' : K.ints w lo' hi' v' ys) :
    Calls Try.prog 113 #[v, v', .int .i64 n] w fun e w' => ∃ r, e = .returned r ∧ K.Ext w w' ∧ (K.SP.own B (Z.addN xs ys n)).p r w' :=
  (l19Add_any xs ys n _ _ _ _ _ _ w hm hl hb hb' hn hn' h h').mono fun e w' ⟨⟨r, he, ho⟩, hx⟩ => ⟨r, he, hx, w'.heap.size, Nat.le_trans hB hx.size, Nat.le_refl _, ho.mono hB (Nat.le_refl _)⟩
set_option maxHeartbeats 3200000 in
theorem l19Of_any (F : Z.Fm) (uss : List (List Int)) {lo hi lo' hi' : Nat} {p v : Value} (w : World) (hF : Z.isFormula F = true) (hl : uss.length = F.nm.size) (hu : Z.allUnits uss = true) (h : K.ints w lo hi p F.pw) (h' : K.rows w lo' hi' v uss) :
    Calls Try.prog 107 #[.agg #[.int .i64 F.dg, .int .i64 F.tn, .string F.nm, p], v] w fun e w' => (∃ r, e = .returned r ∧ K.ints w' w.heap.size w'.heap.size r (Z.unitK F.pw uss uss.length)) ∧ K.Ext w w' := by
  have g1 := h
  obtain ⟨o, cap, rfl, _⟩ := g1
  have g2 := h'
  obtain ⟨o', cap', _, rfl, _⟩ := g2
  have HI := Z.hide h
  have HV := Z.hide h'
  obtain ⟨hpl, h6⟩ := Z.isFormula_len hF
  have hus : ∀ j (hj : j < uss.length), Z.isUnit (uss[j]'hj) = true := fun j hj => by
    unfold Z.allUnits at hu; rw [List.all_eq_true] at hu; exact hu _ (List.getElem_mem hj)
  have hps : ∀ i, i < uss.length → -6 ≤ F.pw.getD i 0 ∧ F.pw.getD i 0 ≤ 6 := fun i hi => by
    have := Z.okAt_parts (Z.valid_at hF i (by omega))
    exact ⟨this.2.2.2.2.1, this.2.2.2.2.2⟩
  have HB := Z.hide (Z.unitK_bd hus hps)
  have HUS := Z.hide hus
  have HPS := Z.hide hps
  obtain ⟨n, hn⟩ : ∃ n, n = uss.length := ⟨_, rfl⟩
  have hn6 : n ≤ 6 := by omega
  have hnp : n ≤ F.pw.length := by omega
  have HN := Z.hide hn
  rw [← hn]
  clear h h' hF hl hu hpl h6 hus hps hn
  go_enter Try.func107, Try.ntmps107
  go_wp2
  go_loopw [5, 6] (fun out i wr => ∃ k : Nat, k ≤ n ∧ i = .int .i64 k ∧ Hid (K.ints wr w.heap.size wr.heap.size out (Z.unitK F.pw uss k)) ∧ Hid (wr.cell? ⟨w.heap.size, 3, none⟩ = some (.slice o F.pw.length cap)) ∧ Hid (K.Ext w wr)) (fun _ i _ => n - (intOf i).toNat)
  case atStart => exact ⟨0, Nat.zero_le _, rfl, Z.hide ((K.ints4 (K.block_new (by simp))).mono (by simp) (by simp)), Z.hide (by go_simp), Z.hide (by repeat' (first | with_reducible exact K.Ext.refl _ | with_reducible assumption | with_reducible refine K.Ext.drew ?_ | with_reducible refine K.Ext.alloc ?_ _ | with_reducible refine K.Ext.setCell ?_ ?_ _ | with_reducible refine K.Ext.trans ?_ (by with_reducible assumption) | (dsimp only; omega) | omega | exact K.Ext.refl _ | assumption | apply K.Ext.drew | refine K.Ext.alloc ?_ _ | refine K.Ext.setCell ?_ ?_ _ | (simp; done) | (simp; omega) | refine K.Ext.trans ?_ (by assumption)))⟩
  case round =>
    obtain ⟨k, hk, rfl, HO, HC, HX⟩ := hrel
    have k0 : (0 : Int) ≤ (k : Int) := Int.natCast_nonneg k
    by_cases hlt : k < n
    · have k1 : (k : Int) < (n : Int) := by omega
      have k2 : (k : Int) < (F.pw.length : Int) := by omega
      have hku : k < uss.length := by rw [← HN.out]; exact hlt
      obtain ⟨b, off, u, rfl, _, _, hc, hu⟩ := K.rows_at (HV.out.ext HX.out) k hku
      obtain ⟨b', off', rfl, _, _, hc'⟩ := K.ints_at HI.out (by omega)
      have p0 : wr.cell? ⟨b', off' + k, none⟩ = some (.int .i64 (F.pw.getD k 0)) := HX.out.cell_of (hc' k (by omega))
      have c3 := HC.out
      have huk := HUS.out k hku
      have hpk := HPS.out k hku
      have e : uss.getD k [] = uss[k]'hku := by simp [List.getD_eq_getElem?_getD, hku]
      have HE : Hid (Z.unitK F.pw uss (k + 1) = Z.addN (Z.unitK F.pw uss k) (uss[k]'hku) (F.pw.getD k 0)) := Z.hide (by rw [← e]; rfl)
      have h4 : (uss[k]'hku).length = 4 := by
        have := huk
        simp only [Z.isUnit, Bool.and_eq_true, beq_iff_eq] at this
        exact this.2
      have hbk := HB.out k (by omega)
      have A1 : Hid (∀ i, i < (Z.unitK F.pw uss k).length → -1000000000 ≤ (Z.unitK F.pw uss k).getD i 0 ∧ (Z.unitK F.pw uss k).getD i 0 ≤ 1000000000) := Z.hide (fun i hi => by rw [Z.unitK_length] at hi; have := hbk i hi; omega)
      have A2 : Hid (∀ i, i < (uss[k]'hku).length → -1000000000 ≤ (uss[k]'hku).getD i 0 ∧ (uss[k]'hku).getD i 0 ≤ 1000000000) := Z.hide (fun i hi => by have := Z.isUnit_at huk i hi; omega)
      have A3 := Z.hide (Z.unitK_length F.pw uss k)
      have H4 := Z.hide h4
      obtain ⟨ys, hy⟩ : ∃ ys, ys = uss[k]'hku := ⟨_, rfl⟩
      rw [← hy] at hu HE A2 H4
      clear hc' hbk huk e h4 hy
      generalize Z.unitK F.pw uss k = xs at *
      generalize F.pw.getD k 0 = m at *
      obtain ⟨hpk1, hpk2⟩ := hpk
      have hu2 := hu
      obtain ⟨o2, c2, rfl, _⟩ := hu2
      have ho2 := HO.out
      obtain ⟨o3, c4, rfl, _⟩ := ho2
      have lw := HX.out.size
      go_wp2_with fail
      refine K.wp_region_x 11 [0, 0, 0, 0, 1, 0, 1, 0, 0, 1, 2] [K.SP.any, K.SP.any, K.SP.any, K.SP.any, K.SP.any, K.SP.any, K.SP.any, K.SP.any, K.SP.any, K.SP.any, (K.SP.own (w.heap.size) (Z.addN xs ys m))] (by kernel_rfl) (by kernel_rfl) ?_
      simp only [List.take_succ_cons, List.take_zero, List.drop_succ_cons, List.drop_zero]
      iterate 4
        apply K.x_pure
        · rfl
        · rfl
        · intro w'; go_simp; first | done | exact K.vint (IntWalk.i64_in _ (by omega)) | rfl | exact ⟨rfl, rfl⟩
        simp only [Act.put, List.setIfInBounds_toArray, List.set]
      apply K.x_held
      · rfl
      · rfl
      · intro w' hx; have hc := hx.all.1.1; have hf := hx.all.1.2; have hc' := hx.all.2.1; have hf' := hx.all.2.2; go_simp; first | done | rfl | exact ⟨rfl, rfl⟩
      simp only [Act.put, List.setIfInBounds_toArray, List.set]
      apply K.x_pure
      · rfl
      · rfl
      · intro w'; go_simp; first | done | exact K.vint (IntWalk.i64_in _ (by omega)) | rfl | exact ⟨rfl, rfl⟩
      simp only [Act.put, List.setIfInBounds_toArray, List.set]
      apply K.x_held
      · rfl
      · rfl
      · intro w' hx; have hc := hx.all.1.1; have hf := hx.all.1.2; have hc' := hx.all.2.1; have hf' := hx.all.2.2; go_simp; first | done | rfl | exact ⟨rfl, rfl⟩
      simp only [Act.put, List.setIfInBounds_toArray, List.set]
      iterate 2
        apply K.x_pure
        · rfl
        · rfl
        · intro w'; go_simp; first | done | exact K.vint (IntWalk.i64_in _ (by omega)) | rfl | exact ⟨rfl, rfl⟩
        simp only [Act.put, List.setIfInBounds_toArray, List.set]
      apply K.x_held
      · rfl
      · rfl
      · intro w' hx; have hc := hx.all.1.1; have hf := hx.all.1.2; have hc' := hx.all.2.1; have hf' := hx.all.2.2; go_simp; first | done | rfl | exact ⟨rfl, rfl⟩
      simp only [Act.put, List.setIfInBounds_toArray, List.set]
      apply K.x_call
      · rfl
      · rfl
      · intro w'; go_simp; first | done | rfl | exact ⟨rfl, rfl⟩
      · intro w' hx hp; have hc := hx.all.1.1; have hf := hx.all.1.2; have hc' := hx.all.2.1; have hf' := hx.all.2.2; exact l19Add_sp xs ys m _ (by have h_ := hx.size; simp at h_; omega) (by rw [A3.out]; decide) (by rw [A3.out, H4.out]; decide) A1.out A2.out (by omega) (by omega) (K.ints.ext (K.ints.drew HO.out) hx) (K.ints.ext (K.ints.drew hu) hx)
      intro v10 w_10_ hx_10_ hv10
      obtain ⟨hi10, hb10, hs10, ho10⟩ := hv10; have hq10 := ho10; obtain ⟨o6, c6, rfl, _⟩ := hq10
      simp only [Act.put, List.setIfInBounds_toArray, List.set]
      apply K.x_done
      intro w6 h_x
      have hx6 := hx_10_.trans h_x
      have hxe10 := K.Ext.id (h_x)
      clear h_x hx_10_
      obtain ⟨⟨hcw6, hfw6⟩, hc'w6, hf'w6⟩ := hx6.all
      go_wp2_with fail
      refine NoPanic.normal ?_
      have D3 := Z.hide (hx6.cell_of (show wr.drew.cell? ⟨w.heap.size, 3, none⟩ = some (.slice (some ⟨b', off', none⟩) F.pw.length cap) from by go_simp))
      have HX6 : Hid (K.Ext w w6) := Z.hide (K.Ext.trans HX.out.drew hx6)
      have HO6 : Hid (K.ints w6 w.heap.size w6.heap.size (.slice o6 (Z.addN xs ys m).length c6) (Z.addN xs ys m)) := Z.hide ((K.own.ints (ho10.ext hxe10)).mono (Nat.le_refl _) (by have h_ := hxe10.size; omega))
      go_wp2
      go_roundw
      case rel => exact ⟨k + 1, by omega, by go_num, Z.hide (by rw [HE.out]; exact HO6.out), D3, HX6⟩
      case measure => simp [intOf]; omega
    · obtain rfl : k = n := by omega
      go_wp2
      go_ret
      exact ⟨⟨_, rfl, HO.out⟩, HX.out⟩
end Go.Proofs.Ytphlppklhpaljaa
