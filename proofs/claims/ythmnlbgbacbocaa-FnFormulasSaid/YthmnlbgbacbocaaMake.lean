/-
  FORMULAS made of exponents, the reference: exponents of a to z; the formula with them.
-/
import Derived.Test.YthmnlbgbacbocaaFm2
import Derived.Test.YthmnlbgbacbocaaBase
import Derived.Test.YthmnlbgbacbocaaSlices
import Derived.Deep.AppendLies
import Derived.Laws.IdiomStrings
set_option linter.unusedVariables false
namespace Go.K
open Go.RowKit
theorem u8_in {m : Nat} (h : m < 26) : IntKind.u8.wrap (97 + (m : Int) - 97) = (m : Int) := by
  simp [IntKind.wrap, IntKind.bits, IntKind.signed]
  omega
theorem row_ext {w w' : World} {base : Nat} {e : TypeId} {size n : Nat} {v : Value} {xs : List Value} (h : w.ownsRow base e size v n xs) (hx : Ext w w') : w'.ownsRow base e size v n xs :=
  ⟨h.1, h.2.imp id (fun ⟨g, cap, cur, hv, hb, hg, r⟩ => ⟨g, cap, cur, hv, hb, hx.block hg, r⟩)⟩
end Go.K
namespace Go.Proofs.Ythmnlbgbacbocaa
open Go.RowKit
set_option maxHeartbeats 1600000 in
theorem l18All_any (F : Z.Fm) {lo hi : Nat} {p : Value} (w : World) (hf : Z.isFormula F = true) (h : K.ints w lo hi p F.pw) :
    Calls Try.prog 102 #[.agg #[.int .i64 F.dg, .int .i64 F.tn, .string F.nm, p]] w fun e w' => (∃ v', e = .returned v' ∧ K.own w' w.heap.size w'.heap.size v' (Z.allOf F)) ∧ K.Ext w w' := by
  have h1 := h
  obtain ⟨o, cap, rfl, hh⟩ := h1
  obtain ⟨i0, hi0, hz0, hz1, hz2⟩ := info_parts info_int
  obtain ⟨hl, h6⟩ : Hid (F.pw.length = F.nm.size) ∧ Hid (F.nm.size ≤ 6) := Z.isFormula_len hf
  have HF := Z.hide hf
  clear h hf
  go_enter Try.func102, Try.ntmps102
  go_wp2_with (at_make; refine wpList_make_full _ rfl _ _ 24 rfl (w.heap.size + 1) 2 i0 (.int .i64 0) 1 Try.underlying24 hi0 hz0 hz1 _ _ _ _ 26 rfl rfl rfl rfl (by rw [hz2]; omega) (by unfold maxLen; omega) (by simp) ?_; intro w1 hown1 hgrow1)
  have hx1 : K.Ext w w1 := ((K.Ext.refl w).alloc _).below.grown hgrow1 (by simp) (fun g hg => by cases hg)
  go_loopw [4] (fun i wr => ∃ k : Nat, k ≤ F.nm.size ∧ i = .int .i64 k ∧ Hid (wr.ownsRow (w.heap.size + 1) 2 1 (.slice (some ⟨w.heap.size + 1, 0, none⟩) 26 26) 26 ((Z.allK F k).map (Value.int .i64))) ∧ Hid (K.Ext w wr) ∧ Hid (wr.cell? ⟨w.heap.size, 2, none⟩ = some (.string F.nm)) ∧ Hid (wr.cell? ⟨w.heap.size, 3, none⟩ = some (.slice o F.pw.length cap))) (fun i _ => F.nm.size - (intOf i).toNat)
  case atStart => exact ⟨0, Nat.zero_le _, rfl, Z.hide (by rw [Z.allK_zero, List.map_replicate]; simpa [toList_madeCells_one, Value.cells] using hown1), Z.hide hx1, Z.hide ((hgrow1.cell_far ⟨w.heap.size, 2, none⟩ (by simp) (by simp)).trans (by go_simp)), Z.hide ((hgrow1.cell_far ⟨w.heap.size, 3, none⟩ (by simp) (by simp)).trans (by go_simp))⟩
  case round =>
    obtain ⟨k, hk, rfl, HO, HX, H2, H3⟩ := hrel
    have c2 := H2.out
    have c3 := H3.out
    clear hown1 hgrow1 hx1
    by_cases hlt : k < F.nm.size
    · have hlp : k < F.pw.length := by rw [hl.out]; exact hlt
      obtain ⟨b, off, rfl, _, _, hc⟩ := hh (by intro h0; simp [h0] at hlp)
      have lb : b < w.heap.size := World.block_lt_of_cell? w _ (hc k hlp)
      have hck := HX.out.cell_of (hc k hlp)
      have k6 : k ≤ 6 := Nat.le_trans hk h6.out
      have i0 : (0 : Int) ≤ (k : Int) := Int.natCast_nonneg k
      have i1 : (k : Int) < (F.pw.length : Int) := by omega
      have i2 : (k : Int) < (F.nm.size : Int) := by omega
      have HS := Z.hide (Z.allK_succ HF.out k hlt)
      obtain ⟨n1, n2, _⟩ := Z.okAt_parts (Z.valid_at HF.out k hlt)
      have HB := Z.bs_get F.nm k hlt
      obtain ⟨m, hm⟩ : ∃ m : Nat, (Z.bs F.nm).getD k 0 = 97 + (m : Int) := ⟨((Z.bs F.nm).getD k 0 - 97).toNat, by omega⟩
      have hm26 : m < 26 := by omega
      have q5 : IntKind.u8.wrap (((F.nm[k]'hlt).toNat : Int) - 97) = (m : Int) := by rw [HB, hm]; exact K.u8_in hm26
      have m0 : (0 : Int) ≤ (m : Int) := Int.natCast_nonneg m
      have m1 : (m : Int) < 26 := by omega
      have hcy : wr.cell? ⟨w.heap.size + 1, m, none⟩ = some (.int .i64 ((Z.allK F k).getD m 0)) := by rw [HO.out.cellAt m hm26]; simp [Z.allK_length, hm26]
      have hfy := HO.out.frozenAt m
      have HM : Hid (((Z.bs F.nm).getD k 0 - 97).toNat = m) := Z.hide (by omega)
      clear hc hh HB hm n1 n2 hi0 hz0 hz1 hz2
      generalize F.pw.getD k 0 = x at *
      generalize (Z.allK F k).getD m 0 = y at *
      go_wp2_with fail
      refine K.wp_region_x 11 [0, 0, 1, 0, 0, 0, 0, 1, 0, 0, 1] [] (by kernel_rfl) (by kernel_rfl) ?_
      simp only [List.take_succ_cons, List.take_zero, List.drop_succ_cons, List.drop_zero]
      iterate 2
        apply K.x_pure
        · rfl
        · rfl
        · intro w'; go_simp; first | done | exact K.vint (IntWalk.i64_in _ (by omega)) | rfl | exact ⟨rfl, rfl⟩
        simp only [Act.put, List.setIfInBounds_toArray, List.set]
      apply K.x_held
      · rfl
      · rfl
      · intro w' hx; have hc := hx.all.1.1; have hf := hx.all.1.2; have hc' := hx.all.2.1; have hf' := hx.all.2.2; go_simp; first | done | rfl | exact ⟨rfl, rfl⟩
      simp only [Act.put, List.setIfInBounds_toArray, List.set]
      iterate 4
        apply K.x_pure
        · rfl
        · rfl
        · intro w'; go_simp; first | done | exact K.vint (IntWalk.i64_in _ (by omega)) | rfl | exact ⟨rfl, rfl⟩
        simp only [Act.put, List.setIfInBounds_toArray, List.set]
      apply K.x_held
      · rfl
      · rfl
      · intro w' hx; have hc := hx.all.1.1; have hf := hx.all.1.2; have hc' := hx.all.2.1; have hf' := hx.all.2.2; go_simp; first | done | rfl | exact ⟨rfl, rfl⟩
      simp only [Act.put, List.setIfInBounds_toArray, List.set]
      iterate 2
        apply K.x_pure
        · rfl
        · rfl
        · intro w'; go_simp; first | done | exact K.vint (IntWalk.i64_in _ (by omega)) | rfl | exact ⟨rfl, rfl⟩
        simp only [Act.put, List.setIfInBounds_toArray, List.set]
      apply K.x_held
      · rfl
      · rfl
      · intro w' hx; have hc := hx.all.1.1; have hf := hx.all.1.2; have hc' := hx.all.2.1; have hf' := hx.all.2.2; go_simp; first | done | rfl | exact ⟨rfl, rfl⟩
      simp only [Act.put, List.setIfInBounds_toArray, List.set]
      apply K.x_done
      intro w2 h_x
      have hx2 := K.Ext.id h_x
      clear h_x
      obtain ⟨⟨hcw2, hfw2⟩, hc'w2, hf'w2⟩ := hx2.all
      go_wp2_with fail
      refine NoPanic.normal ?_
      have d2 : w2.cell? ⟨w.heap.size, 2, none⟩ = some (.string F.nm) := hx2.cell_of c2
      have d3 : w2.cell? ⟨w.heap.size, 3, none⟩ = some (.slice (some ⟨b, off, none⟩) F.pw.length cap) := hx2.cell_of c3
      have HT := Z.hide ((K.row_ext HO.out.drew hx2).stored m (.int .i64 x))
      go_wp2
      go_roundw
      case rel => exact ⟨k + 1, by omega, by go_num, Z.hide (by rw [HS.out, HM.out, List.map_set]; exact HT.out.1), Z.hide ((HX.out.drew.trans hx2).setCell (by simp) _), Z.hide (by go_simp), Z.hide (by go_simp)⟩
      case measure => simp [intOf]; omega
    · obtain rfl : k = F.nm.size := by omega
      clear hh hi0 hz0 hz1 hz2
      have HR := K.own_of_row HO.out
      rw [Z.allK_all (Nat.le_refl _) (by rw [hl.out]; exact Nat.le_refl _)] at HR
      go_wp2
      go_ret
      exact ⟨⟨_, rfl, HR.mono (by omega) (Nat.le_refl _)⟩, HX.out⟩
end Go.Proofs.Ythmnlbgbacbocaa
