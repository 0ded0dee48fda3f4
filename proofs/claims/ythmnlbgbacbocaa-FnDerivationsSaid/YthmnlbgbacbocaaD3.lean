/-
  Part 3 of the texts of this claim: contracts of functions and plain mathematics.
-/
import Derived.Test.YthmnlbgbacbocaaD2
set_option linter.unusedVariables false
section
namespace Go.Proofs.Ythmnlbgbacbocaa
open Go.RowKit
set_option maxHeartbeats 8000000 in
theorem spec_IsFormula (F : Z.Fm) {lo hi : Nat} {p : Value} (w : World) (hm : F.pw.length ≤ 1048576) (hn : F.nm.size ≤ 1048576) (h : K.ints w lo hi p F.pw) :
    Calls Try.prog 91 #[.agg #[.int .i64 F.dg, .int .i64 F.tn, .string F.nm, p]] w fun e w' => e = .returned (.bool (Z.isFormula F)) ∧ K.Ext w w' := by
  have h1 := h
  obtain ⟨o, cap, rfl, hh⟩ := h1
  clear h
  cases hf : Z.isFig F.dg F.tn
  · have HE : Hid (Z.isFormula F = false) := Z.hide (by unfold Z.isFormula; rw [hf]; rfl)
    go_enter Try.func91, Try.ntmps91
    go_wp2_with (go_at_call 145; refine K.call (by with_reducible rfl) (by with_reducible rfl) (spec_IsFigure F.dg F.tn _) ?_; rintro e w1 ⟨rfl, hw1⟩; obtain ⟨hcw1, hfw1⟩ := hw1.facts)
    go_ret
    exact ⟨K.rb HE.out.symm, (by repeat' (first | with_reducible exact K.Ext.refl _ | with_reducible assumption | with_reducible refine K.Ext.drew ?_ | with_reducible refine K.Ext.alloc ?_ _ | with_reducible refine K.Ext.setCell ?_ ?_ _ | with_reducible refine K.Ext.trans ?_ (by with_reducible assumption) | (dsimp only; omega) | omega | exact K.Ext.refl _ | assumption | apply K.Ext.drew | refine K.Ext.alloc ?_ _ | refine K.Ext.setCell ?_ ?_ _ | (simp; done) | (simp; omega) | refine K.Ext.trans ?_ (by assumption)))⟩
  · by_cases h6 : F.nm.size ≤ 6
    · by_cases hl : F.pw.length = F.nm.size
      · have HE : Hid (Z.isFormula F = (List.range F.nm.size).all (Z.okAt (Z.bs F.nm) F.pw)) := Z.hide (by unfold Z.isFormula; rw [hf]; simp [h6, hl])
        have hl1 : ((F.nm.size : Int) != F.pw.length) = false := by simp; omega
        have HL := Z.hide hl
        clear hl
        go_enter Try.func91, Try.ntmps91
        go_wp2_with ((go_at_call 145; refine K.call (by with_reducible rfl) (by with_reducible rfl) (spec_IsFigure F.dg F.tn _) ?_; rintro e w1 ⟨rfl, hw1⟩; obtain ⟨hcw1, hfw1⟩ := hw1.facts); have c_w1_0_0 : w1.cell? ⟨w.heap.size, 0, none⟩ = some (.int .i64 (F.dg)) := hw1.cell_of (by go_simp); have f_w1_0_0 : w1.frozen? ⟨w.heap.size, 0, none⟩ = false := hw1.thaw_of (by go_simp) (by go_simp); have c_w1_0_1 : w1.cell? ⟨w.heap.size, 1, none⟩ = some (.int .i64 (F.tn)) := hw1.cell_of (by go_simp); have f_w1_0_1 : w1.frozen? ⟨w.heap.size, 1, none⟩ = false := hw1.thaw_of (by go_simp) (by go_simp); have c_w1_0_2 : w1.cell? ⟨w.heap.size, 2, none⟩ = some (.string F.nm) := hw1.cell_of (by go_simp); have f_w1_0_2 : w1.frozen? ⟨w.heap.size, 2, none⟩ = false := hw1.thaw_of (by go_simp) (by go_simp); have c_w1_0_3 : w1.cell? ⟨w.heap.size, 3, none⟩ = some (.slice o F.pw.length cap) := hw1.cell_of (by go_simp); have f_w1_0_3 : w1.frozen? ⟨w.heap.size, 3, none⟩ = false := hw1.thaw_of (by go_simp) (by go_simp))
        go_loopw [3] (fun i wr => ∃ k : Nat, k ≤ F.nm.size ∧ i = .int .i64 k ∧ Hid ((List.range k).all (Z.okAt (Z.bs F.nm) F.pw) = true) ∧ Hid (K.Ext w1 wr)) (fun i _ => F.nm.size - (intOf i).toNat)
        case atStart => exact ⟨0, Nat.zero_le _, rfl, Z.hide rfl, Z.hide (K.Ext.refl _)⟩
        case round =>
          obtain ⟨k, hk, rfl, HP, HX⟩ := hrel
          by_cases hlt : k < F.nm.size
          · have c_wr_0_0 : wr.cell? ⟨w.heap.size, 0, none⟩ = some (.int .i64 (F.dg)) := HX.out.cell_of (by go_simp); have f_wr_0_0 : wr.frozen? ⟨w.heap.size, 0, none⟩ = false := HX.out.thaw_of (by go_simp) (by go_simp); have c_wr_0_1 : wr.cell? ⟨w.heap.size, 1, none⟩ = some (.int .i64 (F.tn)) := HX.out.cell_of (by go_simp); have f_wr_0_1 : wr.frozen? ⟨w.heap.size, 1, none⟩ = false := HX.out.thaw_of (by go_simp) (by go_simp); have c_wr_0_2 : wr.cell? ⟨w.heap.size, 2, none⟩ = some (.string F.nm) := HX.out.cell_of (by go_simp); have f_wr_0_2 : wr.frozen? ⟨w.heap.size, 2, none⟩ = false := HX.out.thaw_of (by go_simp) (by go_simp); have c_wr_0_3 : wr.cell? ⟨w.heap.size, 3, none⟩ = some (.slice o F.pw.length cap) := HX.out.cell_of (by go_simp); have f_wr_0_3 : wr.frozen? ⟨w.heap.size, 3, none⟩ = false := HX.out.thaw_of (by go_simp) (by go_simp)
            have hlp : k < F.pw.length := by rw [HL.out]; exact hlt
            obtain ⟨b, off, rfl, _, _, hc⟩ := hh (by intro h0; simp [h0] at hlp)
            have lb : b < w.heap.size := World.block_lt_of_cell? w _ (hc k hlp)
            have hck : wr.cell? ⟨b, off + k, none⟩ = some (.int .i64 (F.pw.getD k 0)) := (K.Ext.trans (by repeat' (first | with_reducible exact K.Ext.refl _ | with_reducible assumption | with_reducible refine K.Ext.drew ?_ | with_reducible refine K.Ext.alloc ?_ _ | with_reducible refine K.Ext.setCell ?_ ?_ _ | with_reducible refine K.Ext.trans ?_ (by with_reducible assumption) | (dsimp only; omega) | omega | exact K.Ext.refl _ | assumption | apply K.Ext.drew | refine K.Ext.alloc ?_ _ | refine K.Ext.setCell ?_ ?_ _ | (simp; done) | (simp; omega) | refine K.Ext.trans ?_ (by assumption))) HX.out).cell_of (hc k hlp)
            have HB := Z.hide (Z.bs_get F.nm k hlt)
            have i0 : (0 : Int) ≤ (k : Int) := Int.natCast_nonneg k
            have i1 : (k : Int) < (F.pw.length : Int) := by omega
            have i2 : (k : Int) < (F.nm.size : Int) := by omega
            have HW := Z.hide (show K.Ext w w1 from (by repeat' (first | with_reducible exact K.Ext.refl _ | with_reducible assumption | with_reducible refine K.Ext.drew ?_ | with_reducible refine K.Ext.alloc ?_ _ | with_reducible refine K.Ext.setCell ?_ ?_ _ | with_reducible refine K.Ext.trans ?_ (by with_reducible assumption) | (dsimp only; omega) | omega | exact K.Ext.refl _ | assumption | apply K.Ext.drew | refine K.Ext.alloc ?_ _ | refine K.Ext.setCell ?_ ?_ _ | (simp; done) | (simp; omega) | refine K.Ext.trans ?_ (by assumption))))
            clear hh hc hcw1 hfw1 c_w1_0_0 c_w1_0_1 c_w1_0_2 c_w1_0_3 f_w1_0_0 f_w1_0_1 f_w1_0_2 f_w1_0_3 hw1 hf h6 hl1 hm hn f_wr_0_0 f_wr_0_1 f_wr_0_2 f_wr_0_3 c_wr_0_0 c_wr_0_1
            generalize hx : F.pw.getD k 0 = x at *
            have HQ := Z.hide hx
            clear hx
            cases a1 : decide (((F.nm[k]'hlt).toNat : Int) < 97)
            · cases a2 : decide ((122 : Int) < ((F.nm[k]'hlt).toNat : Int))
              · by_cases hk0 : 0 < k
                · have j0 : (1 : Int) ≤ (k : Int) := by omega
                  have j1 : (k : Int) - 1 < (F.nm.size : Int) := by omega
                  have hk1 : k - 1 < F.nm.size := by omega
                  have j3 : decide ((0 : Int) < (k : Int)) = true := by simp; omega
                  have k0 := decide_eq_true hk0
                  have HB2 := Z.hide (Z.bs_get F.nm (k - 1) hk1)
                  cases a3 : decide (((F.nm[k]'hlt).toNat : Int) ≤ ((F.nm[k - 1]'hk1).toNat : Int))
                  · have a3n : ¬ ((F.nm[k]'hlt).toNat ≤ (F.nm[k - 1]'hk1).toNat) := by have := of_decide_eq_false a3; omega
                    have a3m : (F.nm[k - 1]'hk1).toNat < (F.nm[k]'hlt).toNat := by omega
                    cases a4 : x == 0
                    · cases a5 : (decide (-6 ≤ x) && decide (x ≤ 6))
                      ·
                        go_wp2_with fail
                        refine K.wp_region_x 45 [0, 1, 0, 0, 0, 0, 0, 1, 0, 0, 0, 0, 0, 0, 0, 0, 0, 1, 0, 0, 0, 1, 0, 0, 0, 0, 0, 0, 0, 0, 1, 0, 0, 1, 0, 0, 0, 0, 1, 0, 0, 1, 2, 0, 0] [K.SP.any, K.SP.any, K.SP.any, K.SP.any, K.SP.any, K.SP.any, K.SP.any, K.SP.any, K.SP.any, K.SP.any, K.SP.any, K.SP.any, K.SP.any, K.SP.any, K.SP.any, K.SP.any, K.SP.any, K.SP.any, K.SP.any, K.SP.any, K.SP.any, K.SP.any, K.SP.any, K.SP.any, K.SP.any, K.SP.any, K.SP.any, K.SP.any, K.SP.any, K.SP.any, K.SP.any, K.SP.any, K.SP.any, K.SP.any, K.SP.any, K.SP.any, K.SP.any, K.SP.any, K.SP.any, K.SP.any, K.SP.any, K.SP.any, K.SP.is (.bool (decide (-6 ≤ x) && decide (x ≤ 6)))] (by kernel_rfl) (by kernel_rfl) ?_
                        simp only [List.take_succ_cons, List.take_zero, List.drop_succ_cons, List.drop_zero]
                        apply K.x_pure
                        · rfl
                        · rfl
                        · intro w'; go_simp; first | done | exact K.vint (IntWalk.i64_in _ (by omega)) | rfl | exact ⟨rfl, rfl⟩
                        simp only [Act.put, List.setIfInBounds_toArray, List.set]
                        apply K.x_held
                        · rfl
                        · rfl
                        · intro w' hx; have hc := hx.all.1.1; have hf := hx.all.1.2; have hc' := hx.all.2.1; have hf' := hx.all.2.2; go_simp; first | done | rfl | exact ⟨rfl, rfl⟩
                        simp only [Act.put, List.setIfInBounds_toArray, List.set]
                        iterate 5
                          apply K.x_pure
                          · rfl
                          · rfl
                          · intro w'; go_simp; first | done | exact K.vint (IntWalk.i64_in _ (by omega)) | rfl | exact ⟨rfl, rfl⟩
                          simp only [Act.put, List.setIfInBounds_toArray, List.set]
                        apply K.x_held
                        · rfl
                        · rfl
                        · intro w' hx; have hc := hx.all.1.1; have hf := hx.all.1.2; have hc' := hx.all.2.1; have hf' := hx.all.2.2; go_simp; first | done | rfl | exact ⟨rfl, rfl⟩
                        simp only [Act.put, List.setIfInBounds_toArray, List.set]
                        iterate 9
                          apply K.x_pure
                          · rfl
                          · rfl
                          · intro w'; go_simp; first | done | exact K.vint (IntWalk.i64_in _ (by omega)) | rfl | exact ⟨rfl, rfl⟩
                          simp only [Act.put, List.setIfInBounds_toArray, List.set]
                        apply K.x_held
                        · rfl
                        · rfl
                        · intro w' hx; have hc := hx.all.1.1; have hf := hx.all.1.2; have hc' := hx.all.2.1; have hf' := hx.all.2.2; go_simp; first | done | rfl | exact ⟨rfl, rfl⟩
                        simp only [Act.put, List.setIfInBounds_toArray, List.set]
                        iterate 3
                          apply K.x_pure
                          · rfl
                          · rfl
                          · intro w'; go_simp; first | done | exact K.vint (IntWalk.i64_in _ (by omega)) | rfl | exact ⟨rfl, rfl⟩
                          simp only [Act.put, List.setIfInBounds_toArray, List.set]
                        apply K.x_held
                        · rfl
                        · rfl
                        · intro w' hx; have hc := hx.all.1.1; have hf := hx.all.1.2; have hc' := hx.all.2.1; have hf' := hx.all.2.2; go_simp; first | done | rfl | exact ⟨rfl, rfl⟩
                        simp only [Act.put, List.setIfInBounds_toArray, List.set]
                        iterate 8
                          apply K.x_pure
                          · rfl
                          · rfl
                          · intro w'; go_simp; first | done | exact K.vint (IntWalk.i64_in _ (by omega)) | rfl | exact ⟨rfl, rfl⟩
                          simp only [Act.put, List.setIfInBounds_toArray, List.set]
                        apply K.x_held
                        · rfl
                        · rfl
                        · intro w' hx; have hc := hx.all.1.1; have hf := hx.all.1.2; have hc' := hx.all.2.1; have hf' := hx.all.2.2; go_simp; first | done | rfl | exact ⟨rfl, rfl⟩
                        simp only [Act.put, List.setIfInBounds_toArray, List.set]
                        iterate 2
                          apply K.x_pure
                          · rfl
                          · rfl
                          · intro w'; go_simp; first | done | exact K.vint (IntWalk.i64_in _ (by omega)) | rfl | exact ⟨rfl, rfl⟩
                          simp only [Act.put, List.setIfInBounds_toArray, List.set]
                        apply K.x_held
                        · rfl
                        · rfl
                        · intro w' hx; have hc := hx.all.1.1; have hf := hx.all.1.2; have hc' := hx.all.2.1; have hf' := hx.all.2.2; go_simp; first | done | rfl | exact ⟨rfl, rfl⟩
                        simp only [Act.put, List.setIfInBounds_toArray, List.set]
                        iterate 4
                          apply K.x_pure
                          · rfl
                          · rfl
                          · intro w'; go_simp; first | done | exact K.vint (IntWalk.i64_in _ (by omega)) | rfl | exact ⟨rfl, rfl⟩
                          simp only [Act.put, List.setIfInBounds_toArray, List.set]
                        apply K.x_held
                        · rfl
                        · rfl
                        · intro w' hx; have hc := hx.all.1.1; have hf := hx.all.1.2; have hc' := hx.all.2.1; have hf' := hx.all.2.2; go_simp; first | done | rfl | exact ⟨rfl, rfl⟩
                        simp only [Act.put, List.setIfInBounds_toArray, List.set]
                        iterate 2
                          apply K.x_pure
                          · rfl
                          · rfl
                          · intro w'; go_simp; first | done | exact K.vint (IntWalk.i64_in _ (by omega)) | rfl | exact ⟨rfl, rfl⟩
                          simp only [Act.put, List.setIfInBounds_toArray, List.set]
                        apply K.x_held
                        · rfl
                        · rfl
                        · intro w' hx; have hc := hx.all.1.1; have hf := hx.all.1.2; have hc' := hx.all.2.1; have hf' := hx.all.2.2; go_simp; first | done | rfl | exact ⟨rfl, rfl⟩
                        simp only [Act.put, List.setIfInBounds_toArray, List.set]
                        apply K.x_call_is
                        · rfl
                        · rfl
                        · rfl
                        · intro w'; go_simp; first | done | rfl | exact ⟨rfl, rfl⟩
                        · intro w' hx hp; have hc := hx.all.1.1; have hf := hx.all.1.2; have hc' := hx.all.2.1; have hf' := hx.all.2.2; exact K.same_ext (l01In_any _ _ _ _)
                        intro w_42_ hx_42_
                        simp only [Act.put, List.setIfInBounds_toArray, List.set]
                        iterate 2
                          apply K.x_pure
                          · rfl
                          · rfl
                          · intro w'; go_simp; first | done | exact K.vint (IntWalk.i64_in _ (by omega)) | rfl | exact ⟨rfl, rfl⟩
                          simp only [Act.put, List.setIfInBounds_toArray, List.set]
                        apply K.x_done
                        intro w2 h_x
                        have hx2 := hx_42_.trans h_x
                        clear h_x hx_42_
                        obtain ⟨⟨hcw2, hfw2⟩, hc'w2, hf'w2⟩ := hx2.all
                        refine wpList_nil ?_
                        refine NoPanic.normal ?_
                        go_wp2
                        go_ret
                        exact ⟨K.rb (by rw [HE.out, Z.range_all_bad _ _ k hlt (by rw [Z.okAt_of HB.out (fun _ => HB2.out) HQ.out, a1, a2, k0, a3, a4, a5]; rfl)]), K.Ext.trans HW.out (HX.out.trans (by repeat' (first | with_reducible exact K.Ext.refl _ | with_reducible assumption | with_reducible refine K.Ext.drew ?_ | with_reducible refine K.Ext.alloc ?_ _ | with_reducible refine K.Ext.setCell ?_ ?_ _ | with_reducible refine K.Ext.trans ?_ (by with_reducible assumption) | (dsimp only; omega) | omega | exact K.Ext.refl _ | assumption | apply K.Ext.drew | refine K.Ext.alloc ?_ _ | refine K.Ext.setCell ?_ ?_ _ | (simp; done) | (simp; omega) | refine K.Ext.trans ?_ (by assumption))))⟩
                      ·
                        go_wp2_with fail
                        refine K.wp_region_x 45 [0, 1, 0, 0, 0, 0, 0, 1, 0, 0, 0, 0, 0, 0, 0, 0, 0, 1, 0, 0, 0, 1, 0, 0, 0, 0, 0, 0, 0, 0, 1, 0, 0, 1, 0, 0, 0, 0, 1, 0, 0, 1, 2, 0, 0] [K.SP.any, K.SP.any, K.SP.any, K.SP.any, K.SP.any, K.SP.any, K.SP.any, K.SP.any, K.SP.any, K.SP.any, K.SP.any, K.SP.any, K.SP.any, K.SP.any, K.SP.any, K.SP.any, K.SP.any, K.SP.any, K.SP.any, K.SP.any, K.SP.any, K.SP.any, K.SP.any, K.SP.any, K.SP.any, K.SP.any, K.SP.any, K.SP.any, K.SP.any, K.SP.any, K.SP.any, K.SP.any, K.SP.any, K.SP.any, K.SP.any, K.SP.any, K.SP.any, K.SP.any, K.SP.any, K.SP.any, K.SP.any, K.SP.any, K.SP.is (.bool (decide (-6 ≤ x) && decide (x ≤ 6)))] (by kernel_rfl) (by kernel_rfl) ?_
                        simp only [List.take_succ_cons, List.take_zero, List.drop_succ_cons, List.drop_zero]
                        apply K.x_pure
                        · rfl
                        · rfl
                        · intro w'; go_simp; first | done | exact K.vint (IntWalk.i64_in _ (by omega)) | rfl | exact ⟨rfl, rfl⟩
                        simp only [Act.put, List.setIfInBounds_toArray, List.set]
                        apply K.x_held
                        · rfl
                        · rfl
                        · intro w' hx; have hc := hx.all.1.1; have hf := hx.all.1.2; have hc' := hx.all.2.1; have hf' := hx.all.2.2; go_simp; first | done | rfl | exact ⟨rfl, rfl⟩
                        simp only [Act.put, List.setIfInBounds_toArray, List.set]
                        iterate 5
                          apply K.x_pure
                          · rfl
                          · rfl
                          · intro w'; go_simp; first | done | exact K.vint (IntWalk.i64_in _ (by omega)) | rfl | exact ⟨rfl, rfl⟩
                          simp only [Act.put, List.setIfInBounds_toArray, List.set]
                        apply K.x_held
                        · rfl
                        · rfl
                        · intro w' hx; have hc := hx.all.1.1; have hf := hx.all.1.2; have hc' := hx.all.2.1; have hf' := hx.all.2.2; go_simp; first | done | rfl | exact ⟨rfl, rfl⟩
                        simp only [Act.put, List.setIfInBounds_toArray, List.set]
                        iterate 9
                          apply K.x_pure
                          · rfl
                          · rfl
                          · intro w'; go_simp; first | done | exact K.vint (IntWalk.i64_in _ (by omega)) | rfl | exact ⟨rfl, rfl⟩
                          simp only [Act.put, List.setIfInBounds_toArray, List.set]
                        apply K.x_held
                        · rfl
                        · rfl
                        · intro w' hx; have hc := hx.all.1.1; have hf := hx.all.1.2; have hc' := hx.all.2.1; have hf' := hx.all.2.2; go_simp; first | done | rfl | exact ⟨rfl, rfl⟩
                        simp only [Act.put, List.setIfInBounds_toArray, List.set]
                        iterate 3
                          apply K.x_pure
                          · rfl
                          · rfl
                          · intro w'; go_simp; first | done | exact K.vint (IntWalk.i64_in _ (by omega)) | rfl | exact ⟨rfl, rfl⟩
                          simp only [Act.put, List.setIfInBounds_toArray, List.set]
                        apply K.x_held
                        · rfl
                        · rfl
                        · intro w' hx; have hc := hx.all.1.1; have hf := hx.all.1.2; have hc' := hx.all.2.1; have hf' := hx.all.2.2; go_simp; first | done | rfl | exact ⟨rfl, rfl⟩
                        simp only [Act.put, List.setIfInBounds_toArray, List.set]
                        iterate 8
                          apply K.x_pure
                          · rfl
                          · rfl
                          · intro w'; go_simp; first | done | exact K.vint (IntWalk.i64_in _ (by omega)) | rfl | exact ⟨rfl, rfl⟩
                          simp only [Act.put, List.setIfInBounds_toArray, List.set]
                        apply K.x_held
                        · rfl
                        · rfl
                        · intro w' hx; have hc := hx.all.1.1; have hf := hx.all.1.2; have hc' := hx.all.2.1; have hf' := hx.all.2.2; go_simp; first | done | rfl | exact ⟨rfl, rfl⟩
                        simp only [Act.put, List.setIfInBounds_toArray, List.set]
                        iterate 2
                          apply K.x_pure
                          · rfl
                          · rfl
                          · intro w'; go_simp; first | done | exact K.vint (IntWalk.i64_in _ (by omega)) | rfl | exact ⟨rfl, rfl⟩
                          simp only [Act.put, List.setIfInBounds_toArray, List.set]
                        apply K.x_held
                        · rfl
                        · rfl
                        · intro w' hx; have hc := hx.all.1.1; have hf := hx.all.1.2; have hc' := hx.all.2.1; have hf' := hx.all.2.2; go_simp; first | done | rfl | exact ⟨rfl, rfl⟩
                        simp only [Act.put, List.setIfInBounds_toArray, List.set]
                        iterate 4
                          apply K.x_pure
                          · rfl
                          · rfl
                          · intro w'; go_simp; first | done | exact K.vint (IntWalk.i64_in _ (by omega)) | rfl | exact ⟨rfl, rfl⟩
                          simp only [Act.put, List.setIfInBounds_toArray, List.set]
                        apply K.x_held
                        · rfl
                        · rfl
                        · intro w' hx; have hc := hx.all.1.1; have hf := hx.all.1.2; have hc' := hx.all.2.1; have hf' := hx.all.2.2; go_simp; first | done | rfl | exact ⟨rfl, rfl⟩
                        simp only [Act.put, List.setIfInBounds_toArray, List.set]
                        iterate 2
                          apply K.x_pure
                          · rfl
                          · rfl
                          · intro w'; go_simp; first | done | exact K.vint (IntWalk.i64_in _ (by omega)) | rfl | exact ⟨rfl, rfl⟩
                          simp only [Act.put, List.setIfInBounds_toArray, List.set]
                        apply K.x_held
                        · rfl
                        · rfl
                        · intro w' hx; have hc := hx.all.1.1; have hf := hx.all.1.2; have hc' := hx.all.2.1; have hf' := hx.all.2.2; go_simp; first | done | rfl | exact ⟨rfl, rfl⟩
                        simp only [Act.put, List.setIfInBounds_toArray, List.set]
                        apply K.x_call_is
                        · rfl
                        · rfl
                        · rfl
                        · intro w'; go_simp; first | done | rfl | exact ⟨rfl, rfl⟩
                        · intro w' hx hp; have hc := hx.all.1.1; have hf := hx.all.1.2; have hc' := hx.all.2.1; have hf' := hx.all.2.2; exact K.same_ext (l01In_any _ _ _ _)
                        intro w_42_ hx_42_
                        simp only [Act.put, List.setIfInBounds_toArray, List.set]
                        iterate 2
                          apply K.x_pure
                          · rfl
                          · rfl
                          · intro w'; go_simp; first | done | exact K.vint (IntWalk.i64_in _ (by omega)) | rfl | exact ⟨rfl, rfl⟩
                          simp only [Act.put, List.setIfInBounds_toArray, List.set]
                        apply K.x_done
                        intro w2 h_x
                        have hx2 := hx_42_.trans h_x
                        clear h_x hx_42_
                        obtain ⟨⟨hcw2, hfw2⟩, hc'w2, hf'w2⟩ := hx2.all
                        refine wpList_nil ?_
                        refine NoPanic.normal ?_
                        go_wp2
                        go_roundw
                        case rel => exact ⟨k + 1, by omega, by go_num, Z.hide (by rw [Z.range_all_succ, HP.out, show Z.okAt (Z.bs F.nm) F.pw k = true by rw [Z.okAt_of HB.out (fun _ => HB2.out) HQ.out, a1, a2, k0, a3, a4, a5]; rfl]; rfl), Z.hide (HX.out.trans (by repeat' (first | with_reducible exact K.Ext.refl _ | with_reducible assumption | with_reducible refine K.Ext.drew ?_ | with_reducible refine K.Ext.alloc ?_ _ | with_reducible refine K.Ext.setCell ?_ ?_ _ | with_reducible refine K.Ext.trans ?_ (by with_reducible assumption) | (dsimp only; omega) | omega | exact K.Ext.refl _ | assumption | apply K.Ext.drew | refine K.Ext.alloc ?_ _ | refine K.Ext.setCell ?_ ?_ _ | (simp; done) | (simp; omega) | refine K.Ext.trans ?_ (by assumption))))⟩
                        case measure => simp [intOf]; omega
                    ·
                      go_wp2_with fail
                      refine K.wp_region_x 45 [0, 1, 0, 0, 0, 0, 0, 1, 0, 0, 0, 0, 0, 0, 0, 0, 0, 1, 0, 0, 0, 1, 0, 0, 0, 0, 0, 0, 0, 0, 1, 0, 0, 1, 0, 0, 0, 0, 1, 0, 0, 1, 2, 0, 0] [K.SP.any, K.SP.any, K.SP.any, K.SP.any, K.SP.any, K.SP.any, K.SP.any, K.SP.any, K.SP.any, K.SP.any, K.SP.any, K.SP.any, K.SP.any, K.SP.any, K.SP.any, K.SP.any, K.SP.any, K.SP.any, K.SP.any, K.SP.any, K.SP.any, K.SP.any, K.SP.any, K.SP.any, K.SP.any, K.SP.any, K.SP.any, K.SP.any, K.SP.any, K.SP.any, K.SP.any, K.SP.any, K.SP.any, K.SP.any, K.SP.any, K.SP.any, K.SP.any, K.SP.any, K.SP.any, K.SP.any, K.SP.any, K.SP.any, K.SP.any] (by kernel_rfl) (by kernel_rfl) ?_
                      simp only [List.take_succ_cons, List.take_zero, List.drop_succ_cons, List.drop_zero]
                      apply K.x_pure
                      · rfl
                      · rfl
                      · intro w'; go_simp; first | done | exact K.vint (IntWalk.i64_in _ (by omega)) | rfl | exact ⟨rfl, rfl⟩
                      simp only [Act.put, List.setIfInBounds_toArray, List.set]
                      apply K.x_held
                      · rfl
                      · rfl
                      · intro w' hx; have hc := hx.all.1.1; have hf := hx.all.1.2; have hc' := hx.all.2.1; have hf' := hx.all.2.2; go_simp; first | done | rfl | exact ⟨rfl, rfl⟩
                      simp only [Act.put, List.setIfInBounds_toArray, List.set]
                      iterate 5
                        apply K.x_pure
                        · rfl
                        · rfl
                        · intro w'; go_simp; first | done | exact K.vint (IntWalk.i64_in _ (by omega)) | rfl | exact ⟨rfl, rfl⟩
                        simp only [Act.put, List.setIfInBounds_toArray, List.set]
                      apply K.x_held
                      · rfl
                      · rfl
                      · intro w' hx; have hc := hx.all.1.1; have hf := hx.all.1.2; have hc' := hx.all.2.1; have hf' := hx.all.2.2; go_simp; first | done | rfl | exact ⟨rfl, rfl⟩
                      simp only [Act.put, List.setIfInBounds_toArray, List.set]
                      iterate 9
                        apply K.x_pure
                        · rfl
                        · rfl
                        · intro w'; go_simp; first | done | exact K.vint (IntWalk.i64_in _ (by omega)) | rfl | exact ⟨rfl, rfl⟩
                        simp only [Act.put, List.setIfInBounds_toArray, List.set]
                      apply K.x_held
                      · rfl
                      · rfl
                      · intro w' hx; have hc := hx.all.1.1; have hf := hx.all.1.2; have hc' := hx.all.2.1; have hf' := hx.all.2.2; go_simp; first | done | rfl | exact ⟨rfl, rfl⟩
                      simp only [Act.put, List.setIfInBounds_toArray, List.set]
                      iterate 3
                        apply K.x_pure
                        · rfl
                        · rfl
                        · intro w'; go_simp; first | done | exact K.vint (IntWalk.i64_in _ (by omega)) | rfl | exact ⟨rfl, rfl⟩
                        simp only [Act.put, List.setIfInBounds_toArray, List.set]
                      apply K.x_held
                      · rfl
                      · rfl
                      · intro w' hx; have hc := hx.all.1.1; have hf := hx.all.1.2; have hc' := hx.all.2.1; have hf' := hx.all.2.2; go_simp; first | done | rfl | exact ⟨rfl, rfl⟩
                      simp only [Act.put, List.setIfInBounds_toArray, List.set]
                      iterate 8
                        apply K.x_pure
                        · rfl
                        · rfl
                        · intro w'; go_simp; first | done | exact K.vint (IntWalk.i64_in _ (by omega)) | rfl | exact ⟨rfl, rfl⟩
                        simp only [Act.put, List.setIfInBounds_toArray, List.set]
                      apply K.x_held
                      · rfl
                      · rfl
                      · intro w' hx; have hc := hx.all.1.1; have hf := hx.all.1.2; have hc' := hx.all.2.1; have hf' := hx.all.2.2; go_simp; first | done | rfl | exact ⟨rfl, rfl⟩
                      simp only [Act.put, List.setIfInBounds_toArray, List.set]
                      iterate 2
                        apply K.x_pure
                        · rfl
                        · rfl
                        · intro w'; go_simp; first | done | exact K.vint (IntWalk.i64_in _ (by omega)) | rfl | exact ⟨rfl, rfl⟩
                        simp only [Act.put, List.setIfInBounds_toArray, List.set]
                      apply K.x_held
                      · rfl
                      · rfl
                      · intro w' hx; have hc := hx.all.1.1; have hf := hx.all.1.2; have hc' := hx.all.2.1; have hf' := hx.all.2.2; go_simp; first | done | rfl | exact ⟨rfl, rfl⟩
                      simp only [Act.put, List.setIfInBounds_toArray, List.set]
                      iterate 3
                        apply K.x_pure
                        · rfl
                        · rfl
                        · intro w'; go_simp; first | done | exact K.vint (IntWalk.i64_in _ (by omega)) | rfl | exact ⟨rfl, rfl⟩
                        simp only [Act.put, List.setIfInBounds_toArray, List.set]
                      iterate 7
                        refine K.x_skip (by rfl) ?_
                        simp only [Act.put, List.setIfInBounds_toArray, List.set]
                      apply K.x_pure
                      · rfl
                      · rfl
                      · intro w'; go_simp; first | done | exact K.vint (IntWalk.i64_in _ (by omega)) | rfl | exact ⟨rfl, rfl⟩
                      simp only [Act.put, List.setIfInBounds_toArray, List.set]
                      apply K.x_done
                      intro w2 h_x
                      have hx2 := K.Ext.id h_x
                      clear h_x
                      obtain ⟨⟨hcw2, hfw2⟩, hc'w2, hf'w2⟩ := hx2.all
                      refine wpList_nil ?_
                      refine NoPanic.normal ?_
                      go_wp2
                      go_ret
                      exact ⟨K.rb (by rw [HE.out, Z.range_all_bad _ _ k hlt (by rw [Z.okAt_of HB.out (fun _ => HB2.out) HQ.out, a1, a2, k0, a3, a4]; rfl)]), K.Ext.trans HW.out (HX.out.trans (by repeat' (first | with_reducible exact K.Ext.refl _ | with_reducible assumption | with_reducible refine K.Ext.drew ?_ | with_reducible refine K.Ext.alloc ?_ _ | with_reducible refine K.Ext.setCell ?_ ?_ _ | with_reducible refine K.Ext.trans ?_ (by with_reducible assumption) | (dsimp only; omega) | omega | exact K.Ext.refl _ | assumption | apply K.Ext.drew | refine K.Ext.alloc ?_ _ | refine K.Ext.setCell ?_ ?_ _ | (simp; done) | (simp; omega) | refine K.Ext.trans ?_ (by assumption))))⟩
                  · have a3n : (F.nm[k]'hlt).toNat ≤ (F.nm[k - 1]'hk1).toNat := by have := of_decide_eq_true a3; omega
                    go_wp2_with fail
                    refine K.wp_region_x 45 [0, 1, 0, 0, 0, 0, 0, 1, 0, 0, 0, 0, 0, 0, 0, 0, 0, 1, 0, 0, 0, 1, 0, 0, 0, 0, 0, 0, 0, 0, 1, 0, 0, 1, 0, 0, 0, 0, 1, 0, 0, 1, 2, 0, 0] [K.SP.any, K.SP.any, K.SP.any, K.SP.any, K.SP.any, K.SP.any, K.SP.any, K.SP.any, K.SP.any, K.SP.any, K.SP.any, K.SP.any, K.SP.any, K.SP.any, K.SP.any, K.SP.any, K.SP.any, K.SP.any, K.SP.any, K.SP.any, K.SP.any, K.SP.any, K.SP.any, K.SP.any, K.SP.any, K.SP.any, K.SP.any, K.SP.any, K.SP.any, K.SP.any, K.SP.any, K.SP.any, K.SP.any, K.SP.any, K.SP.any, K.SP.any, K.SP.any, K.SP.any, K.SP.any, K.SP.any, K.SP.any, K.SP.any, K.SP.any] (by kernel_rfl) (by kernel_rfl) ?_
                    simp only [List.take_succ_cons, List.take_zero, List.drop_succ_cons, List.drop_zero]
                    apply K.x_pure
                    · rfl
                    · rfl
                    · intro w'; go_simp; first | done | exact K.vint (IntWalk.i64_in _ (by omega)) | rfl | exact ⟨rfl, rfl⟩
                    simp only [Act.put, List.setIfInBounds_toArray, List.set]
                    apply K.x_held
                    · rfl
                    · rfl
                    · intro w' hx; have hc := hx.all.1.1; have hf := hx.all.1.2; have hc' := hx.all.2.1; have hf' := hx.all.2.2; go_simp; first | done | rfl | exact ⟨rfl, rfl⟩
                    simp only [Act.put, List.setIfInBounds_toArray, List.set]
                    iterate 5
                      apply K.x_pure
                      · rfl
                      · rfl
                      · intro w'; go_simp; first | done | exact K.vint (IntWalk.i64_in _ (by omega)) | rfl | exact ⟨rfl, rfl⟩
                      simp only [Act.put, List.setIfInBounds_toArray, List.set]
                    apply K.x_held
                    · rfl
                    · rfl
                    · intro w' hx; have hc := hx.all.1.1; have hf := hx.all.1.2; have hc' := hx.all.2.1; have hf' := hx.all.2.2; go_simp; first | done | rfl | exact ⟨rfl, rfl⟩
                    simp only [Act.put, List.setIfInBounds_toArray, List.set]
                    iterate 9
                      apply K.x_pure
                      · rfl
                      · rfl
                      · intro w'; go_simp; first | done | exact K.vint (IntWalk.i64_in _ (by omega)) | rfl | exact ⟨rfl, rfl⟩
                      simp only [Act.put, List.setIfInBounds_toArray, List.set]
                    apply K.x_held
                    · rfl
                    · rfl
                    · intro w' hx; have hc := hx.all.1.1; have hf := hx.all.1.2; have hc' := hx.all.2.1; have hf' := hx.all.2.2; go_simp; first | done | rfl | exact ⟨rfl, rfl⟩
                    simp only [Act.put, List.setIfInBounds_toArray, List.set]
                    iterate 3
                      apply K.x_pure
                      · rfl
                      · rfl
                      · intro w'; go_simp; first | done | exact K.vint (IntWalk.i64_in _ (by omega)) | rfl | exact ⟨rfl, rfl⟩
                      simp only [Act.put, List.setIfInBounds_toArray, List.set]
                    apply K.x_held
                    · rfl
                    · rfl
                    · intro w' hx; have hc := hx.all.1.1; have hf := hx.all.1.2; have hc' := hx.all.2.1; have hf' := hx.all.2.2; go_simp; first | done | rfl | exact ⟨rfl, rfl⟩
                    simp only [Act.put, List.setIfInBounds_toArray, List.set]
                    iterate 7
                      apply K.x_pure
                      · rfl
                      · rfl
                      · intro w'; go_simp; first | done | exact K.vint (IntWalk.i64_in _ (by omega)) | rfl | exact ⟨rfl, rfl⟩
                      simp only [Act.put, List.setIfInBounds_toArray, List.set]
                    iterate 6
                      refine K.x_skip (by rfl) ?_
                      simp only [Act.put, List.setIfInBounds_toArray, List.set]
                    iterate 2
                      apply K.x_pure
                      · rfl
                      · rfl
                      · intro w'; go_simp; first | done | exact K.vint (IntWalk.i64_in _ (by omega)) | rfl | exact ⟨rfl, rfl⟩
                      simp only [Act.put, List.setIfInBounds_toArray, List.set]
                    iterate 7
                      refine K.x_skip (by rfl) ?_
                      simp only [Act.put, List.setIfInBounds_toArray, List.set]
                    apply K.x_pure
                    · rfl
                    · rfl
                    · intro w'; go_simp; first | done | exact K.vint (IntWalk.i64_in _ (by omega)) | rfl | exact ⟨rfl, rfl⟩
                    simp only [Act.put, List.setIfInBounds_toArray, List.set]
                    apply K.x_done
                    intro w2 h_x
                    have hx2 := K.Ext.id h_x
                    clear h_x
                    obtain ⟨⟨hcw2, hfw2⟩, hc'w2, hf'w2⟩ := hx2.all
                    refine wpList_nil ?_
                    refine NoPanic.normal ?_
                    go_wp2
                    go_ret
                    exact ⟨K.rb (by rw [HE.out, Z.range_all_bad _ _ k hlt (by rw [Z.okAt_of HB.out (fun _ => HB2.out) HQ.out, a1, a2, k0, a3]; rfl)]), K.Ext.trans HW.out (HX.out.trans (by repeat' (first | with_reducible exact K.Ext.refl _ | with_reducible assumption | with_reducible refine K.Ext.drew ?_ | with_reducible refine K.Ext.alloc ?_ _ | with_reducible refine K.Ext.setCell ?_ ?_ _ | with_reducible refine K.Ext.trans ?_ (by with_reducible assumption) | (dsimp only; omega) | omega | exact K.Ext.refl _ | assumption | apply K.Ext.drew | refine K.Ext.alloc ?_ _ | refine K.Ext.setCell ?_ ?_ _ | (simp; done) | (simp; omega) | refine K.Ext.trans ?_ (by assumption))))⟩
                · have j3 : decide ((0 : Int) < (k : Int)) = false := by simp; omega
                  have k0 := decide_eq_false hk0
                  cases a4 : x == 0
                  · cases a5 : (decide (-6 ≤ x) && decide (x ≤ 6))
                    ·
                      go_wp2_with fail
                      refine K.wp_region_x 45 [0, 1, 0, 0, 0, 0, 0, 1, 0, 0, 0, 0, 0, 0, 0, 0, 0, 1, 0, 0, 0, 1, 0, 0, 0, 0, 0, 0, 0, 0, 1, 0, 0, 1, 0, 0, 0, 0, 1, 0, 0, 1, 2, 0, 0] [K.SP.any, K.SP.any, K.SP.any, K.SP.any, K.SP.any, K.SP.any, K.SP.any, K.SP.any, K.SP.any, K.SP.any, K.SP.any, K.SP.any, K.SP.any, K.SP.any, K.SP.any, K.SP.any, K.SP.any, K.SP.any, K.SP.any, K.SP.any, K.SP.any, K.SP.any, K.SP.any, K.SP.any, K.SP.any, K.SP.any, K.SP.any, K.SP.any, K.SP.any, K.SP.any, K.SP.any, K.SP.any, K.SP.any, K.SP.any, K.SP.any, K.SP.any, K.SP.any, K.SP.any, K.SP.any, K.SP.any, K.SP.any, K.SP.any, K.SP.is (.bool (decide (-6 ≤ x) && decide (x ≤ 6)))] (by kernel_rfl) (by kernel_rfl) ?_
                      simp only [List.take_succ_cons, List.take_zero, List.drop_succ_cons, List.drop_zero]
                      apply K.x_pure
                      · rfl
                      · rfl
                      · intro w'; go_simp; first | done | exact K.vint (IntWalk.i64_in _ (by omega)) | rfl | exact ⟨rfl, rfl⟩
                      simp only [Act.put, List.setIfInBounds_toArray, List.set]
                      apply K.x_held
                      · rfl
                      · rfl
                      · intro w' hx; have hc := hx.all.1.1; have hf := hx.all.1.2; have hc' := hx.all.2.1; have hf' := hx.all.2.2; go_simp; first | done | rfl | exact ⟨rfl, rfl⟩
                      simp only [Act.put, List.setIfInBounds_toArray, List.set]
                      iterate 5
                        apply K.x_pure
                        · rfl
                        · rfl
                        · intro w'; go_simp; first | done | exact K.vint (IntWalk.i64_in _ (by omega)) | rfl | exact ⟨rfl, rfl⟩
                        simp only [Act.put, List.setIfInBounds_toArray, List.set]
                      apply K.x_held
                      · rfl
                      · rfl
                      · intro w' hx; have hc := hx.all.1.1; have hf := hx.all.1.2; have hc' := hx.all.2.1; have hf' := hx.all.2.2; go_simp; first | done | rfl | exact ⟨rfl, rfl⟩
                      simp only [Act.put, List.setIfInBounds_toArray, List.set]
                      iterate 8
                        apply K.x_pure
                        · rfl
                        · rfl
                        · intro w'; go_simp; first | done | exact K.vint (IntWalk.i64_in _ (by omega)) | rfl | exact ⟨rfl, rfl⟩
                        simp only [Act.put, List.setIfInBounds_toArray, List.set]
                      iterate 10
                        refine K.x_skip (by rfl) ?_
                        simp only [Act.put, List.setIfInBounds_toArray, List.set]
                      iterate 4
                        apply K.x_pure
                        · rfl
                        · rfl
                        · intro w'; go_simp; first | done | exact K.vint (IntWalk.i64_in _ (by omega)) | rfl | exact ⟨rfl, rfl⟩
                        simp only [Act.put, List.setIfInBounds_toArray, List.set]
                      apply K.x_held
                      · rfl
                      · rfl
                      · intro w' hx; have hc := hx.all.1.1; have hf := hx.all.1.2; have hc' := hx.all.2.1; have hf' := hx.all.2.2; go_simp; first | done | rfl | exact ⟨rfl, rfl⟩
                      simp only [Act.put, List.setIfInBounds_toArray, List.set]
                      iterate 2
                        apply K.x_pure
                        · rfl
                        · rfl
                        · intro w'; go_simp; first | done | exact K.vint (IntWalk.i64_in _ (by omega)) | rfl | exact ⟨rfl, rfl⟩
                        simp only [Act.put, List.setIfInBounds_toArray, List.set]
                      apply K.x_held
                      · rfl
                      · rfl
                      · intro w' hx; have hc := hx.all.1.1; have hf := hx.all.1.2; have hc' := hx.all.2.1; have hf' := hx.all.2.2; go_simp; first | done | rfl | exact ⟨rfl, rfl⟩
                      simp only [Act.put, List.setIfInBounds_toArray, List.set]
                      iterate 4
                        apply K.x_pure
                        · rfl
                        · rfl
                        · intro w'; go_simp; first | done | exact K.vint (IntWalk.i64_in _ (by omega)) | rfl | exact ⟨rfl, rfl⟩
                        simp only [Act.put, List.setIfInBounds_toArray, List.set]
                      apply K.x_held
                      · rfl
                      · rfl
                      · intro w' hx; have hc := hx.all.1.1; have hf := hx.all.1.2; have hc' := hx.all.2.1; have hf' := hx.all.2.2; go_simp; first | done | rfl | exact ⟨rfl, rfl⟩
                      simp only [Act.put, List.setIfInBounds_toArray, List.set]
                      iterate 2
                        apply K.x_pure
                        · rfl
                        · rfl
                        · intro w'; go_simp; first | done | exact K.vint (IntWalk.i64_in _ (by omega)) | rfl | exact ⟨rfl, rfl⟩
                        simp only [Act.put, List.setIfInBounds_toArray, List.set]
                      apply K.x_held
                      · rfl
                      · rfl
                      · intro w' hx; have hc := hx.all.1.1; have hf := hx.all.1.2; have hc' := hx.all.2.1; have hf' := hx.all.2.2; go_simp; first | done | rfl | exact ⟨rfl, rfl⟩
                      simp only [Act.put, List.setIfInBounds_toArray, List.set]
                      apply K.x_call_is
                      · rfl
                      · rfl
                      · rfl
                      · intro w'; go_simp; first | done | rfl | exact ⟨rfl, rfl⟩
                      · intro w' hx hp; have hc := hx.all.1.1; have hf := hx.all.1.2; have hc' := hx.all.2.1; have hf' := hx.all.2.2; exact K.same_ext (l01In_any _ _ _ _)
                      intro w_42_ hx_42_
                      simp only [Act.put, List.setIfInBounds_toArray, List.set]
                      iterate 2
                        apply K.x_pure
                        · rfl
                        · rfl
                        · intro w'; go_simp; first | done | exact K.vint (IntWalk.i64_in _ (by omega)) | rfl | exact ⟨rfl, rfl⟩
                        simp only [Act.put, List.setIfInBounds_toArray, List.set]
                      apply K.x_done
                      intro w2 h_x
                      have hx2 := hx_42_.trans h_x
                      clear h_x hx_42_
                      obtain ⟨⟨hcw2, hfw2⟩, hc'w2, hf'w2⟩ := hx2.all
                      refine wpList_nil ?_
                      refine NoPanic.normal ?_
                      go_wp2
                      go_ret
                      exact ⟨K.rb (by rw [HE.out, Z.range_all_bad _ _ k hlt (by rw [Z.okAt_of HB.out (m := 0) (fun h => absurd h hk0) HQ.out, a1, a2, k0, a4, a5]; rfl)]), K.Ext.trans HW.out (HX.out.trans (by repeat' (first | with_reducible exact K.Ext.refl _ | with_reducible assumption | with_reducible refine K.Ext.drew ?_ | with_reducible refine K.Ext.alloc ?_ _ | with_reducible refine K.Ext.setCell ?_ ?_ _ | with_reducible refine K.Ext.trans ?_ (by with_reducible assumption) | (dsimp only; omega) | omega | exact K.Ext.refl _ | assumption | apply K.Ext.drew | refine K.Ext.alloc ?_ _ | refine K.Ext.setCell ?_ ?_ _ | (simp; done) | (simp; omega) | refine K.Ext.trans ?_ (by assumption))))⟩
                    ·
                      go_wp2_with fail
                      refine K.wp_region_x 45 [0, 1, 0, 0, 0, 0, 0, 1, 0, 0, 0, 0, 0, 0, 0, 0, 0, 1, 0, 0, 0, 1, 0, 0, 0, 0, 0, 0, 0, 0, 1, 0, 0, 1, 0, 0, 0, 0, 1, 0, 0, 1, 2, 0, 0] [K.SP.any, K.SP.any, K.SP.any, K.SP.any, K.SP.any, K.SP.any, K.SP.any, K.SP.any, K.SP.any, K.SP.any, K.SP.any, K.SP.any, K.SP.any, K.SP.any, K.SP.any, K.SP.any, K.SP.any, K.SP.any, K.SP.any, K.SP.any, K.SP.any, K.SP.any, K.SP.any, K.SP.any, K.SP.any, K.SP.any, K.SP.any, K.SP.any, K.SP.any, K.SP.any, K.SP.any, K.SP.any, K.SP.any, K.SP.any, K.SP.any, K.SP.any, K.SP.any, K.SP.any, K.SP.any, K.SP.any, K.SP.any, K.SP.any, K.SP.is (.bool (decide (-6 ≤ x) && decide (x ≤ 6)))] (by kernel_rfl) (by kernel_rfl) ?_
                      simp only [List.take_succ_cons, List.take_zero, List.drop_succ_cons, List.drop_zero]
                      apply K.x_pure
                      · rfl
                      · rfl
                      · intro w'; go_simp; first | done | exact K.vint (IntWalk.i64_in _ (by omega)) | rfl | exact ⟨rfl, rfl⟩
                      simp only [Act.put, List.setIfInBounds_toArray, List.set]
                      apply K.x_held
                      · rfl
                      · rfl
                      · intro w' hx; have hc := hx.all.1.1; have hf := hx.all.1.2; have hc' := hx.all.2.1; have hf' := hx.all.2.2; go_simp; first | done | rfl | exact ⟨rfl, rfl⟩
                      simp only [Act.put, List.setIfInBounds_toArray, List.set]
                      iterate 5
                        apply K.x_pure
                        · rfl
                        · rfl
                        · intro w'; go_simp; first | done | exact K.vint (IntWalk.i64_in _ (by omega)) | rfl | exact ⟨rfl, rfl⟩
                        simp only [Act.put, List.setIfInBounds_toArray, List.set]
                      apply K.x_held
                      · rfl
                      · rfl
                      · intro w' hx; have hc := hx.all.1.1; have hf := hx.all.1.2; have hc' := hx.all.2.1; have hf' := hx.all.2.2; go_simp; first | done | rfl | exact ⟨rfl, rfl⟩
                      simp only [Act.put, List.setIfInBounds_toArray, List.set]
                      iterate 8
                        apply K.x_pure
                        · rfl
                        · rfl
                        · intro w'; go_simp; first | done | exact K.vint (IntWalk.i64_in _ (by omega)) | rfl | exact ⟨rfl, rfl⟩
                        simp only [Act.put, List.setIfInBounds_toArray, List.set]
                      iterate 10
                        refine K.x_skip (by rfl) ?_
                        simp only [Act.put, List.setIfInBounds_toArray, List.set]
                      iterate 4
                        apply K.x_pure
                        · rfl
                        · rfl
                        · intro w'; go_simp; first | done | exact K.vint (IntWalk.i64_in _ (by omega)) | rfl | exact ⟨rfl, rfl⟩
                        simp only [Act.put, List.setIfInBounds_toArray, List.set]
                      apply K.x_held
                      · rfl
                      · rfl
                      · intro w' hx; have hc := hx.all.1.1; have hf := hx.all.1.2; have hc' := hx.all.2.1; have hf' := hx.all.2.2; go_simp; first | done | rfl | exact ⟨rfl, rfl⟩
                      simp only [Act.put, List.setIfInBounds_toArray, List.set]
                      iterate 2
                        apply K.x_pure
                        · rfl
                        · rfl
                        · intro w'; go_simp; first | done | exact K.vint (IntWalk.i64_in _ (by omega)) | rfl | exact ⟨rfl, rfl⟩
                        simp only [Act.put, List.setIfInBounds_toArray, List.set]
                      apply K.x_held
                      · rfl
                      · rfl
                      · intro w' hx; have hc := hx.all.1.1; have hf := hx.all.1.2; have hc' := hx.all.2.1; have hf' := hx.all.2.2; go_simp; first | done | rfl | exact ⟨rfl, rfl⟩
                      simp only [Act.put, List.setIfInBounds_toArray, List.set]
                      iterate 4
                        apply K.x_pure
                        · rfl
                        · rfl
                        · intro w'; go_simp; first | done | exact K.vint (IntWalk.i64_in _ (by omega)) | rfl | exact ⟨rfl, rfl⟩
                        simp only [Act.put, List.setIfInBounds_toArray, List.set]
                      apply K.x_held
                      · rfl
                      · rfl
                      · intro w' hx; have hc := hx.all.1.1; have hf := hx.all.1.2; have hc' := hx.all.2.1; have hf' := hx.all.2.2; go_simp; first | done | rfl | exact ⟨rfl, rfl⟩
                      simp only [Act.put, List.setIfInBounds_toArray, List.set]
                      iterate 2
                        apply K.x_pure
                        · rfl
                        · rfl
                        · intro w'; go_simp; first | done | exact K.vint (IntWalk.i64_in _ (by omega)) | rfl | exact ⟨rfl, rfl⟩
                        simp only [Act.put, List.setIfInBounds_toArray, List.set]
                      apply K.x_held
                      · rfl
                      · rfl
                      · intro w' hx; have hc := hx.all.1.1; have hf := hx.all.1.2; have hc' := hx.all.2.1; have hf' := hx.all.2.2; go_simp; first | done | rfl | exact ⟨rfl, rfl⟩
                      simp only [Act.put, List.setIfInBounds_toArray, List.set]
                      apply K.x_call_is
                      · rfl
                      · rfl
                      · rfl
                      · intro w'; go_simp; first | done | rfl | exact ⟨rfl, rfl⟩
                      · intro w' hx hp; have hc := hx.all.1.1; have hf := hx.all.1.2; have hc' := hx.all.2.1; have hf' := hx.all.2.2; exact K.same_ext (l01In_any _ _ _ _)
                      intro w_42_ hx_42_
                      simp only [Act.put, List.setIfInBounds_toArray, List.set]
                      iterate 2
                        apply K.x_pure
                        · rfl
                        · rfl
                        · intro w'; go_simp; first | done | exact K.vint (IntWalk.i64_in _ (by omega)) | rfl | exact ⟨rfl, rfl⟩
                        simp only [Act.put, List.setIfInBounds_toArray, List.set]
                      apply K.x_done
                      intro w2 h_x
                      have hx2 := hx_42_.trans h_x
                      clear h_x hx_42_
                      obtain ⟨⟨hcw2, hfw2⟩, hc'w2, hf'w2⟩ := hx2.all
                      refine wpList_nil ?_
                      refine NoPanic.normal ?_
                      go_wp2
                      go_roundw
                      case rel => exact ⟨k + 1, by omega, by go_num, Z.hide (by rw [Z.range_all_succ, HP.out, show Z.okAt (Z.bs F.nm) F.pw k = true by rw [Z.okAt_of HB.out (m := 0) (fun h => absurd h hk0) HQ.out, a1, a2, k0, a4, a5]; rfl]; rfl), Z.hide (HX.out.trans (by repeat' (first | with_reducible exact K.Ext.refl _ | with_reducible assumption | with_reducible refine K.Ext.drew ?_ | with_reducible refine K.Ext.alloc ?_ _ | with_reducible refine K.Ext.setCell ?_ ?_ _ | with_reducible refine K.Ext.trans ?_ (by with_reducible assumption) | (dsimp only; omega) | omega | exact K.Ext.refl _ | assumption | apply K.Ext.drew | refine K.Ext.alloc ?_ _ | refine K.Ext.setCell ?_ ?_ _ | (simp; done) | (simp; omega) | refine K.Ext.trans ?_ (by assumption))))⟩
                      case measure => simp [intOf]; omega
                  ·
                    go_wp2_with fail
                    refine K.wp_region_x 45 [0, 1, 0, 0, 0, 0, 0, 1, 0, 0, 0, 0, 0, 0, 0, 0, 0, 1, 0, 0, 0, 1, 0, 0, 0, 0, 0, 0, 0, 0, 1, 0, 0, 1, 0, 0, 0, 0, 1, 0, 0, 1, 2, 0, 0] [K.SP.any, K.SP.any, K.SP.any, K.SP.any, K.SP.any, K.SP.any, K.SP.any, K.SP.any, K.SP.any, K.SP.any, K.SP.any, K.SP.any, K.SP.any, K.SP.any, K.SP.any, K.SP.any, K.SP.any, K.SP.any, K.SP.any, K.SP.any, K.SP.any, K.SP.any, K.SP.any, K.SP.any, K.SP.any, K.SP.any, K.SP.any, K.SP.any, K.SP.any, K.SP.any, K.SP.any, K.SP.any, K.SP.any, K.SP.any, K.SP.any, K.SP.any, K.SP.any, K.SP.any, K.SP.any, K.SP.any, K.SP.any, K.SP.any, K.SP.any] (by kernel_rfl) (by kernel_rfl) ?_
                    simp only [List.take_succ_cons, List.take_zero, List.drop_succ_cons, List.drop_zero]
                    apply K.x_pure
                    · rfl
                    · rfl
                    · intro w'; go_simp; first | done | exact K.vint (IntWalk.i64_in _ (by omega)) | rfl | exact ⟨rfl, rfl⟩
                    simp only [Act.put, List.setIfInBounds_toArray, List.set]
                    apply K.x_held
                    · rfl
                    · rfl
                    · intro w' hx; have hc := hx.all.1.1; have hf := hx.all.1.2; have hc' := hx.all.2.1; have hf' := hx.all.2.2; go_simp; first | done | rfl | exact ⟨rfl, rfl⟩
                    simp only [Act.put, List.setIfInBounds_toArray, List.set]
                    iterate 5
                      apply K.x_pure
                      · rfl
                      · rfl
                      · intro w'; go_simp; first | done | exact K.vint (IntWalk.i64_in _ (by omega)) | rfl | exact ⟨rfl, rfl⟩
                      simp only [Act.put, List.setIfInBounds_toArray, List.set]
                    apply K.x_held
                    · rfl
                    · rfl
                    · intro w' hx; have hc := hx.all.1.1; have hf := hx.all.1.2; have hc' := hx.all.2.1; have hf' := hx.all.2.2; go_simp; first | done | rfl | exact ⟨rfl, rfl⟩
                    simp only [Act.put, List.setIfInBounds_toArray, List.set]
                    iterate 8
                      apply K.x_pure
                      · rfl
                      · rfl
                      · intro w'; go_simp; first | done | exact K.vint (IntWalk.i64_in _ (by omega)) | rfl | exact ⟨rfl, rfl⟩
                      simp only [Act.put, List.setIfInBounds_toArray, List.set]
                    iterate 10
                      refine K.x_skip (by rfl) ?_
                      simp only [Act.put, List.setIfInBounds_toArray, List.set]
                    iterate 4
                      apply K.x_pure
                      · rfl
                      · rfl
                      · intro w'; go_simp; first | done | exact K.vint (IntWalk.i64_in _ (by omega)) | rfl | exact ⟨rfl, rfl⟩
                      simp only [Act.put, List.setIfInBounds_toArray, List.set]
                    apply K.x_held
                    · rfl
                    · rfl
                    · intro w' hx; have hc := hx.all.1.1; have hf := hx.all.1.2; have hc' := hx.all.2.1; have hf' := hx.all.2.2; go_simp; first | done | rfl | exact ⟨rfl, rfl⟩
                    simp only [Act.put, List.setIfInBounds_toArray, List.set]
                    iterate 2
                      apply K.x_pure
                      · rfl
                      · rfl
                      · intro w'; go_simp; first | done | exact K.vint (IntWalk.i64_in _ (by omega)) | rfl | exact ⟨rfl, rfl⟩
                      simp only [Act.put, List.setIfInBounds_toArray, List.set]
                    apply K.x_held
                    · rfl
                    · rfl
                    · intro w' hx; have hc := hx.all.1.1; have hf := hx.all.1.2; have hc' := hx.all.2.1; have hf' := hx.all.2.2; go_simp; first | done | rfl | exact ⟨rfl, rfl⟩
                    simp only [Act.put, List.setIfInBounds_toArray, List.set]
                    iterate 3
                      apply K.x_pure
                      · rfl
                      · rfl
                      · intro w'; go_simp; first | done | exact K.vint (IntWalk.i64_in _ (by omega)) | rfl | exact ⟨rfl, rfl⟩
                      simp only [Act.put, List.setIfInBounds_toArray, List.set]
                    iterate 7
                      refine K.x_skip (by rfl) ?_
                      simp only [Act.put, List.setIfInBounds_toArray, List.set]
                    apply K.x_pure
                    · rfl
                    · rfl
                    · intro w'; go_simp; first | done | exact K.vint (IntWalk.i64_in _ (by omega)) | rfl | exact ⟨rfl, rfl⟩
                    simp only [Act.put, List.setIfInBounds_toArray, List.set]
                    apply K.x_done
                    intro w2 h_x
                    have hx2 := K.Ext.id h_x
                    clear h_x
                    obtain ⟨⟨hcw2, hfw2⟩, hc'w2, hf'w2⟩ := hx2.all
                    refine wpList_nil ?_
                    refine NoPanic.normal ?_
                    go_wp2
                    go_ret
                    exact ⟨K.rb (by rw [HE.out, Z.range_all_bad _ _ k hlt (by rw [Z.okAt_of HB.out (m := 0) (fun h => absurd h hk0) HQ.out, a1, a2, k0, a4]; rfl)]), K.Ext.trans HW.out (HX.out.trans (by repeat' (first | with_reducible exact K.Ext.refl _ | with_reducible assumption | with_reducible refine K.Ext.drew ?_ | with_reducible refine K.Ext.alloc ?_ _ | with_reducible refine K.Ext.setCell ?_ ?_ _ | with_reducible refine K.Ext.trans ?_ (by with_reducible assumption) | (dsimp only; omega) | omega | exact K.Ext.refl _ | assumption | apply K.Ext.drew | refine K.Ext.alloc ?_ _ | refine K.Ext.setCell ?_ ?_ _ | (simp; done) | (simp; omega) | refine K.Ext.trans ?_ (by assumption))))⟩
              ·
                go_wp2_with fail
                refine K.wp_region_x 45 [0, 1, 0, 0, 0, 0, 0, 1, 0, 0, 0, 0, 0, 0, 0, 0, 0, 1, 0, 0, 0, 1, 0, 0, 0, 0, 0, 0, 0, 0, 1, 0, 0, 1, 0, 0, 0, 0, 1, 0, 0, 1, 2, 0, 0] [K.SP.any, K.SP.any, K.SP.any, K.SP.any, K.SP.any, K.SP.any, K.SP.any, K.SP.any, K.SP.any, K.SP.any, K.SP.any, K.SP.any, K.SP.any, K.SP.any, K.SP.any, K.SP.any, K.SP.any, K.SP.any, K.SP.any, K.SP.any, K.SP.any, K.SP.any, K.SP.any, K.SP.any, K.SP.any, K.SP.any, K.SP.any, K.SP.any, K.SP.any, K.SP.any, K.SP.any, K.SP.any, K.SP.any, K.SP.any, K.SP.any, K.SP.any, K.SP.any, K.SP.any, K.SP.any, K.SP.any, K.SP.any, K.SP.any, K.SP.any] (by kernel_rfl) (by kernel_rfl) ?_
                simp only [List.take_succ_cons, List.take_zero, List.drop_succ_cons, List.drop_zero]
                apply K.x_pure
                · rfl
                · rfl
                · intro w'; go_simp; first | done | exact K.vint (IntWalk.i64_in _ (by omega)) | rfl | exact ⟨rfl, rfl⟩
                simp only [Act.put, List.setIfInBounds_toArray, List.set]
                apply K.x_held
                · rfl
                · rfl
                · intro w' hx; have hc := hx.all.1.1; have hf := hx.all.1.2; have hc' := hx.all.2.1; have hf' := hx.all.2.2; go_simp; first | done | rfl | exact ⟨rfl, rfl⟩
                simp only [Act.put, List.setIfInBounds_toArray, List.set]
                iterate 5
                  apply K.x_pure
                  · rfl
                  · rfl
                  · intro w'; go_simp; first | done | exact K.vint (IntWalk.i64_in _ (by omega)) | rfl | exact ⟨rfl, rfl⟩
                  simp only [Act.put, List.setIfInBounds_toArray, List.set]
                apply K.x_held
                · rfl
                · rfl
                · intro w' hx; have hc := hx.all.1.1; have hf := hx.all.1.2; have hc' := hx.all.2.1; have hf' := hx.all.2.2; go_simp; first | done | rfl | exact ⟨rfl, rfl⟩
                simp only [Act.put, List.setIfInBounds_toArray, List.set]
                iterate 5
                  apply K.x_pure
                  · rfl
                  · rfl
                  · intro w'; go_simp; first | done | exact K.vint (IntWalk.i64_in _ (by omega)) | rfl | exact ⟨rfl, rfl⟩
                  simp only [Act.put, List.setIfInBounds_toArray, List.set]
                iterate 14
                  refine K.x_skip (by rfl) ?_
                  simp only [Act.put, List.setIfInBounds_toArray, List.set]
                iterate 2
                  apply K.x_pure
                  · rfl
                  · rfl
                  · intro w'; go_simp; first | done | exact K.vint (IntWalk.i64_in _ (by omega)) | rfl | exact ⟨rfl, rfl⟩
                  simp only [Act.put, List.setIfInBounds_toArray, List.set]
                iterate 6
                  refine K.x_skip (by rfl) ?_
                  simp only [Act.put, List.setIfInBounds_toArray, List.set]
                iterate 2
                  apply K.x_pure
                  · rfl
                  · rfl
                  · intro w'; go_simp; first | done | exact K.vint (IntWalk.i64_in _ (by omega)) | rfl | exact ⟨rfl, rfl⟩
                  simp only [Act.put, List.setIfInBounds_toArray, List.set]
                iterate 7
                  refine K.x_skip (by rfl) ?_
                  simp only [Act.put, List.setIfInBounds_toArray, List.set]
                apply K.x_pure
                · rfl
                · rfl
                · intro w'; go_simp; first | done | exact K.vint (IntWalk.i64_in _ (by omega)) | rfl | exact ⟨rfl, rfl⟩
                simp only [Act.put, List.setIfInBounds_toArray, List.set]
                apply K.x_done
                intro w2 h_x
                have hx2 := K.Ext.id h_x
                clear h_x
                obtain ⟨⟨hcw2, hfw2⟩, hc'w2, hf'w2⟩ := hx2.all
                refine wpList_nil ?_
                refine NoPanic.normal ?_
                go_wp2
                go_ret
                exact ⟨K.rb (by rw [HE.out, Z.range_all_bad _ _ k hlt (by rw [Z.okAt_of HB.out (fun _ => rfl) HQ.out, a1, a2]; rfl)]), K.Ext.trans HW.out (HX.out.trans (by repeat' (first | with_reducible exact K.Ext.refl _ | with_reducible assumption | with_reducible refine K.Ext.drew ?_ | with_reducible refine K.Ext.alloc ?_ _ | with_reducible refine K.Ext.setCell ?_ ?_ _ | with_reducible refine K.Ext.trans ?_ (by with_reducible assumption) | (dsimp only; omega) | omega | exact K.Ext.refl _ | assumption | apply K.Ext.drew | refine K.Ext.alloc ?_ _ | refine K.Ext.setCell ?_ ?_ _ | (simp; done) | (simp; omega) | refine K.Ext.trans ?_ (by assumption))))⟩
            ·
              go_wp2_with fail
              refine K.wp_region_x 45 [0, 1, 0, 0, 0, 0, 0, 1, 0, 0, 0, 0, 0, 0, 0, 0, 0, 1, 0, 0, 0, 1, 0, 0, 0, 0, 0, 0, 0, 0, 1, 0, 0, 1, 0, 0, 0, 0, 1, 0, 0, 1, 2, 0, 0] [K.SP.any, K.SP.any, K.SP.any, K.SP.any, K.SP.any, K.SP.any, K.SP.any, K.SP.any, K.SP.any, K.SP.any, K.SP.any, K.SP.any, K.SP.any, K.SP.any, K.SP.any, K.SP.any, K.SP.any, K.SP.any, K.SP.any, K.SP.any, K.SP.any, K.SP.any, K.SP.any, K.SP.any, K.SP.any, K.SP.any, K.SP.any, K.SP.any, K.SP.any, K.SP.any, K.SP.any, K.SP.any, K.SP.any, K.SP.any, K.SP.any, K.SP.any, K.SP.any, K.SP.any, K.SP.any, K.SP.any, K.SP.any, K.SP.any, K.SP.any] (by kernel_rfl) (by kernel_rfl) ?_
              simp only [List.take_succ_cons, List.take_zero, List.drop_succ_cons, List.drop_zero]
              apply K.x_pure
              · rfl
              · rfl
              · intro w'; go_simp; first | done | exact K.vint (IntWalk.i64_in _ (by omega)) | rfl | exact ⟨rfl, rfl⟩
              simp only [Act.put, List.setIfInBounds_toArray, List.set]
              apply K.x_held
              · rfl
              · rfl
              · intro w' hx; have hc := hx.all.1.1; have hf := hx.all.1.2; have hc' := hx.all.2.1; have hf' := hx.all.2.2; go_simp; first | done | rfl | exact ⟨rfl, rfl⟩
              simp only [Act.put, List.setIfInBounds_toArray, List.set]
              iterate 4
                apply K.x_pure
                · rfl
                · rfl
                · intro w'; go_simp; first | done | exact K.vint (IntWalk.i64_in _ (by omega)) | rfl | exact ⟨rfl, rfl⟩
                simp only [Act.put, List.setIfInBounds_toArray, List.set]
              iterate 5
                refine K.x_skip (by rfl) ?_
                simp only [Act.put, List.setIfInBounds_toArray, List.set]
              iterate 2
                apply K.x_pure
                · rfl
                · rfl
                · intro w'; go_simp; first | done | exact K.vint (IntWalk.i64_in _ (by omega)) | rfl | exact ⟨rfl, rfl⟩
                simp only [Act.put, List.setIfInBounds_toArray, List.set]
              iterate 14
                refine K.x_skip (by rfl) ?_
                simp only [Act.put, List.setIfInBounds_toArray, List.set]
              iterate 2
                apply K.x_pure
                · rfl
                · rfl
                · intro w'; go_simp; first | done | exact K.vint (IntWalk.i64_in _ (by omega)) | rfl | exact ⟨rfl, rfl⟩
                simp only [Act.put, List.setIfInBounds_toArray, List.set]
              iterate 6
                refine K.x_skip (by rfl) ?_
                simp only [Act.put, List.setIfInBounds_toArray, List.set]
              iterate 2
                apply K.x_pure
                · rfl
                · rfl
                · intro w'; go_simp; first | done | exact K.vint (IntWalk.i64_in _ (by omega)) | rfl | exact ⟨rfl, rfl⟩
                simp only [Act.put, List.setIfInBounds_toArray, List.set]
              iterate 7
                refine K.x_skip (by rfl) ?_
                simp only [Act.put, List.setIfInBounds_toArray, List.set]
              apply K.x_pure
              · rfl
              · rfl
              · intro w'; go_simp; first | done | exact K.vint (IntWalk.i64_in _ (by omega)) | rfl | exact ⟨rfl, rfl⟩
              simp only [Act.put, List.setIfInBounds_toArray, List.set]
              apply K.x_done
              intro w2 h_x
              have hx2 := K.Ext.id h_x
              clear h_x
              obtain ⟨⟨hcw2, hfw2⟩, hc'w2, hf'w2⟩ := hx2.all
              refine wpList_nil ?_
              refine NoPanic.normal ?_
              go_wp2
              go_ret
              exact ⟨K.rb (by rw [HE.out, Z.range_all_bad _ _ k hlt (by rw [Z.okAt_of HB.out (fun _ => rfl) HQ.out, a1]; rfl)]), K.Ext.trans HW.out (HX.out.trans (by repeat' (first | with_reducible exact K.Ext.refl _ | with_reducible assumption | with_reducible refine K.Ext.drew ?_ | with_reducible refine K.Ext.alloc ?_ _ | with_reducible refine K.Ext.setCell ?_ ?_ _ | with_reducible refine K.Ext.trans ?_ (by with_reducible assumption) | (dsimp only; omega) | omega | exact K.Ext.refl _ | assumption | apply K.Ext.drew | refine K.Ext.alloc ?_ _ | refine K.Ext.setCell ?_ ?_ _ | (simp; done) | (simp; omega) | refine K.Ext.trans ?_ (by assumption))))⟩
          · obtain rfl : k = F.nm.size := by omega
            have c_wr_0_0 : wr.cell? ⟨w.heap.size, 0, none⟩ = some (.int .i64 (F.dg)) := HX.out.cell_of (by go_simp); have f_wr_0_0 : wr.frozen? ⟨w.heap.size, 0, none⟩ = false := HX.out.thaw_of (by go_simp) (by go_simp); have c_wr_0_1 : wr.cell? ⟨w.heap.size, 1, none⟩ = some (.int .i64 (F.tn)) := HX.out.cell_of (by go_simp); have f_wr_0_1 : wr.frozen? ⟨w.heap.size, 1, none⟩ = false := HX.out.thaw_of (by go_simp) (by go_simp); have c_wr_0_2 : wr.cell? ⟨w.heap.size, 2, none⟩ = some (.string F.nm) := HX.out.cell_of (by go_simp); have f_wr_0_2 : wr.frozen? ⟨w.heap.size, 2, none⟩ = false := HX.out.thaw_of (by go_simp) (by go_simp); have c_wr_0_3 : wr.cell? ⟨w.heap.size, 3, none⟩ = some (.slice o F.pw.length cap) := HX.out.cell_of (by go_simp); have f_wr_0_3 : wr.frozen? ⟨w.heap.size, 3, none⟩ = false := HX.out.thaw_of (by go_simp) (by go_simp)
            have HW := Z.hide (show K.Ext w w1 from (by repeat' (first | with_reducible exact K.Ext.refl _ | with_reducible assumption | with_reducible refine K.Ext.drew ?_ | with_reducible refine K.Ext.alloc ?_ _ | with_reducible refine K.Ext.setCell ?_ ?_ _ | with_reducible refine K.Ext.trans ?_ (by with_reducible assumption) | (dsimp only; omega) | omega | exact K.Ext.refl _ | assumption | apply K.Ext.drew | refine K.Ext.alloc ?_ _ | refine K.Ext.setCell ?_ ?_ _ | (simp; done) | (simp; omega) | refine K.Ext.trans ?_ (by assumption))))
            have hlq : ¬ (F.nm.size < F.pw.length) := by rw [HL.out]; omega
            clear hh
            go_wp2
            go_ret
            exact ⟨K.rb (by rw [HE.out, HP.out]), HW.out.trans HX.out⟩
      · have HE : Hid (Z.isFormula F = false) := Z.hide (by unfold Z.isFormula; simp [hl])
        have hl1 : ((F.nm.size : Int) != F.pw.length) = true := by simp; omega
        clear hl
        go_enter Try.func91, Try.ntmps91
        go_wp2_with ((go_at_call 145; refine K.call (by with_reducible rfl) (by with_reducible rfl) (spec_IsFigure F.dg F.tn _) ?_; rintro e w1 ⟨rfl, hw1⟩; obtain ⟨hcw1, hfw1⟩ := hw1.facts); have c_w1_0_0 : w1.cell? ⟨w.heap.size, 0, none⟩ = some (.int .i64 (F.dg)) := hw1.cell_of (by go_simp); have f_w1_0_0 : w1.frozen? ⟨w.heap.size, 0, none⟩ = false := hw1.thaw_of (by go_simp) (by go_simp); have c_w1_0_1 : w1.cell? ⟨w.heap.size, 1, none⟩ = some (.int .i64 (F.tn)) := hw1.cell_of (by go_simp); have f_w1_0_1 : w1.frozen? ⟨w.heap.size, 1, none⟩ = false := hw1.thaw_of (by go_simp) (by go_simp); have c_w1_0_2 : w1.cell? ⟨w.heap.size, 2, none⟩ = some (.string F.nm) := hw1.cell_of (by go_simp); have f_w1_0_2 : w1.frozen? ⟨w.heap.size, 2, none⟩ = false := hw1.thaw_of (by go_simp) (by go_simp); have c_w1_0_3 : w1.cell? ⟨w.heap.size, 3, none⟩ = some (.slice o F.pw.length cap) := hw1.cell_of (by go_simp); have f_w1_0_3 : w1.frozen? ⟨w.heap.size, 3, none⟩ = false := hw1.thaw_of (by go_simp) (by go_simp))
        go_ret
        exact ⟨K.rb HE.out.symm, (by repeat' (first | with_reducible exact K.Ext.refl _ | with_reducible assumption | with_reducible refine K.Ext.drew ?_ | with_reducible refine K.Ext.alloc ?_ _ | with_reducible refine K.Ext.setCell ?_ ?_ _ | with_reducible refine K.Ext.trans ?_ (by with_reducible assumption) | (dsimp only; omega) | omega | exact K.Ext.refl _ | assumption | apply K.Ext.drew | refine K.Ext.alloc ?_ _ | refine K.Ext.setCell ?_ ?_ _ | (simp; done) | (simp; omega) | refine K.Ext.trans ?_ (by assumption)))⟩
    · have HE : Hid (Z.isFormula F = false) := Z.hide (by unfold Z.isFormula; simp [h6])
      go_enter Try.func91, Try.ntmps91
      go_wp2_with ((go_at_call 145; refine K.call (by with_reducible rfl) (by with_reducible rfl) (spec_IsFigure F.dg F.tn _) ?_; rintro e w1 ⟨rfl, hw1⟩; obtain ⟨hcw1, hfw1⟩ := hw1.facts); have c_w1_0_0 : w1.cell? ⟨w.heap.size, 0, none⟩ = some (.int .i64 (F.dg)) := hw1.cell_of (by go_simp); have f_w1_0_0 : w1.frozen? ⟨w.heap.size, 0, none⟩ = false := hw1.thaw_of (by go_simp) (by go_simp); have c_w1_0_1 : w1.cell? ⟨w.heap.size, 1, none⟩ = some (.int .i64 (F.tn)) := hw1.cell_of (by go_simp); have f_w1_0_1 : w1.frozen? ⟨w.heap.size, 1, none⟩ = false := hw1.thaw_of (by go_simp) (by go_simp); have c_w1_0_2 : w1.cell? ⟨w.heap.size, 2, none⟩ = some (.string F.nm) := hw1.cell_of (by go_simp); have f_w1_0_2 : w1.frozen? ⟨w.heap.size, 2, none⟩ = false := hw1.thaw_of (by go_simp) (by go_simp); have c_w1_0_3 : w1.cell? ⟨w.heap.size, 3, none⟩ = some (.slice o F.pw.length cap) := hw1.cell_of (by go_simp); have f_w1_0_3 : w1.frozen? ⟨w.heap.size, 3, none⟩ = false := hw1.thaw_of (by go_simp) (by go_simp))
      go_ret
      exact ⟨K.rb HE.out.symm, (by repeat' (first | with_reducible exact K.Ext.refl _ | with_reducible assumption | with_reducible refine K.Ext.drew ?_ | with_reducible refine K.Ext.alloc ?_ _ | with_reducible refine K.Ext.setCell ?_ ?_ _ | with_reducible refine K.Ext.trans ?_ (by with_reducible assumption) | (dsimp only; omega) | omega | exact K.Ext.refl _ | assumption | apply K.Ext.drew | refine K.Ext.alloc ?_ _ | refine K.Ext.setCell ?_ ?_ _ | (simp; done) | (simp; omega) | refine K.Ext.trans ?_ (by assumption)))⟩
end Go.Proofs.Ythmnlbgbacbocaa
end
section
namespace Go.Z
def sumF (F G : Fm) (i : Nat) : Int := expo (bs F.nm) F.pw (97 + (i : Int)) + expo (bs G.nm) G.pw (97 + (i : Int))
def multiplied (F G : Fm) : Fm × Int := if (MultiplyFigures (F.dg, F.tn) (G.dg, G.tn)).2 = 0 then madeOr (MultiplyFigures (F.dg, F.tn) (G.dg, G.tn)).1.1 (MultiplyFigures (F.dg, F.tn) (G.dg, G.tn)).1.2 (sumF F G) else (zeroFm, (MultiplyFigures (F.dg, F.tn) (G.dg, G.tn)).2)
def MultiplyFormulas (F G : Fm) : Fm × Int := if isFormula F && isFormula G then multiplied F G else (zeroFm, 1)
theorem expo_6 {F : Fm} (h : isFormula F = true) (c : Int) : -6 ≤ expo (bs F.nm) F.pw c ∧ expo (bs F.nm) F.pw c ≤ 6 :=
  expo_bd (fun j hj => by
    have := okAt_parts (valid_at h j (by rw [bs_length] at hj; exact hj))
    exact ⟨this.2.2.2.2.1, this.2.2.2.2.2⟩) _
end Go.Z
namespace Go.Proofs.Ythmnlbgbacbocaa
open Go.RowKit
set_option maxHeartbeats 3200000 in
theorem multiplied1_any (F G : Z.Fm) (i : Nat) (gf gg : Nat) {lo hi lo' hi' : Nat} {p q : Value} (w : World) (hi26 : i < 26) (hF : Z.isFormula F = true) (hG : Z.isFormula G = true)
    (h0 : w.cell? ⟨gf, 0, none⟩ = some (.int .i64 F.dg)) (h1 : w.cell? ⟨gf, 1, none⟩ = some (.int .i64 F.tn)) (h2 : w.cell? ⟨gf, 2, none⟩ = some (.string F.nm)) (h3 : w.cell? ⟨gf, 3, none⟩ = some p)
    (k0 : w.cell? ⟨gg, 0, none⟩ = some (.int .i64 G.dg)) (k1 : w.cell? ⟨gg, 1, none⟩ = some (.int .i64 G.tn)) (k2 : w.cell? ⟨gg, 2, none⟩ = some (.string G.nm)) (k3 : w.cell? ⟨gg, 3, none⟩ = some q) (h : K.ints w lo hi p F.pw) (h' : K.ints w lo' hi' q G.pw) :
    Calls Try.prog 164 #[.int .u8 (97 + (i : Int)), .pointer (some ⟨gf, 0, none⟩), .pointer (some ⟨gg, 0, none⟩)] w fun e w' => e = .returned (.int .i64 (Z.sumF F G i)) ∧ K.Ext w w' := by
  have g1 := h
  obtain ⟨o, cap, rfl, _⟩ := g1
  have g2 := h'
  obtain ⟨o', cap', rfl, _⟩ := g2
  obtain ⟨l1, l2⟩ : Hid (F.pw.length = F.nm.size) ∧ Hid (F.nm.size ≤ 6) := Z.isFormula_len hF
  obtain ⟨l3, l4⟩ : Hid (G.pw.length = G.nm.size) ∧ Hid (G.nm.size ≤ 6) := Z.isFormula_len hG
  obtain ⟨x, hx⟩ : ∃ x, x = Z.expo (Z.bs F.nm) F.pw (97 + (i : Int)) := ⟨_, rfl⟩
  obtain ⟨y, hy⟩ : ∃ y, y = Z.expo (Z.bs G.nm) G.pw (97 + (i : Int)) := ⟨_, rfl⟩
  obtain ⟨x1, x2⟩ := Z.expo_6 hF (97 + (i : Int))
  obtain ⟨y1, y2⟩ := Z.expo_6 hG (97 + (i : Int))
  rw [← hx] at x1 x2
  rw [← hy] at y1 y2
  have HE : Hid (Z.sumF F G i = x + y) := Z.hide (by unfold Z.sumF; rw [hx, hy])
  have q1 : IntKind.i64.wrap (x + y) = x + y := IntWalk.i64_in _ (by omega)
  have C1 : ∀ {lo hi : Nat} {p : Value} (w' : World), K.ints w' lo hi p F.pw → Calls Try.prog 106 #[.agg #[.int .i64 F.dg, .int .i64 F.tn, .string F.nm, p], .int .u8 (97 + (i : Int))] w' fun e w'' => e = .returned (.int .i64 x) ∧ K.Ext w' w'' := fun w' hh => by rw [hx]; exact exponentOf_any F (97 + (i : Int)) _ _ _ w' l1.out (Nat.le_trans l2.out (by decide)) (by omega) (by omega) hh
  have C2 : ∀ {lo hi : Nat} {p : Value} (w' : World), K.ints w' lo hi p G.pw → Calls Try.prog 106 #[.agg #[.int .i64 G.dg, .int .i64 G.tn, .string G.nm, p], .int .u8 (97 + (i : Int))] w' fun e w'' => e = .returned (.int .i64 y) ∧ K.Ext w' w'' := fun w' hh => by rw [hy]; exact exponentOf_any G (97 + (i : Int)) _ _ _ w' l3.out (Nat.le_trans l4.out (by decide)) (by omega) (by omega) hh
  clear hx hy hF hG
  go_enter Try.func164, Try.ntmps164
  go_wp2_with fail
  refine K.wp_region_x 7 [1, 0, 2, 1, 0, 2, 0] [K.SP.any, K.SP.any, K.SP.is (.int .i64 x), K.SP.any, K.SP.any, K.SP.is (.int .i64 y)] (by kernel_rfl) (by kernel_rfl) ?_
  simp only [List.take_succ_cons, List.take_zero, List.drop_succ_cons, List.drop_zero]
  apply K.x_held
  · rfl
  · rfl
  · intro w' hx; have hc := hx.all.1.1; have hf := hx.all.1.2; have hc' := hx.all.2.1; have hf' := hx.all.2.2; go_simp; first | done | rfl | exact ⟨rfl, rfl⟩
  simp only [Act.put, List.setIfInBounds_toArray, List.set]
  apply K.x_pure
  · rfl
  · rfl
  · intro w'; go_simp; first | done | exact K.vint (IntWalk.i64_in _ (by omega)) | rfl | exact ⟨rfl, rfl⟩
  simp only [Act.put, List.setIfInBounds_toArray, List.set]
  apply K.x_call_is
  · rfl
  · rfl
  · rfl
  · intro w'; go_simp; first | done | rfl | exact ⟨rfl, rfl⟩
  · intro w' hx hp; have hc := hx.all.1.1; have hf := hx.all.1.2; have hc' := hx.all.2.1; have hf' := hx.all.2.2; exact C1 _ (K.ints.ext (K.ints.drew h) hx)
  intro w_2_ hx_2_
  simp only [Act.put, List.setIfInBounds_toArray, List.set]
  apply K.x_held
  · rfl
  · rfl
  · intro w' hx; have hc := hx.all.1.1; have hf := hx.all.1.2; have hc' := hx.all.2.1; have hf' := hx.all.2.2; go_simp; first | done | rfl | exact ⟨rfl, rfl⟩
  simp only [Act.put, List.setIfInBounds_toArray, List.set]
  apply K.x_pure
  · rfl
  · rfl
  · intro w'; go_simp; first | done | exact K.vint (IntWalk.i64_in _ (by omega)) | rfl | exact ⟨rfl, rfl⟩
  simp only [Act.put, List.setIfInBounds_toArray, List.set]
  apply K.x_call_is
  · rfl
  · rfl
  · rfl
  · intro w'; go_simp; first | done | rfl | exact ⟨rfl, rfl⟩
  · intro w' hx hp; have hc := hx.all.1.1; have hf := hx.all.1.2; have hc' := hx.all.2.1; have hf' := hx.all.2.2; exact C2 _ (K.ints.ext (K.ints.drew h') hx)
  intro w_5_ hx_5_
  simp only [Act.put, List.setIfInBounds_toArray, List.set]
  apply K.x_pure
  · rfl
  · rfl
  · intro w'; go_simp; first | done | exact K.vint (IntWalk.i64_in _ (by omega)) | rfl | exact ⟨rfl, rfl⟩
  simp only [Act.put, List.setIfInBounds_toArray, List.set]
  apply K.x_done
  intro w2 h_x
  have hx2 := hx_2_.trans (hx_5_.trans h_x)
  clear h_x hx_2_ hx_5_
  obtain ⟨⟨hcw2, hfw2⟩, hc'w2, hf'w2⟩ := hx2.all
  go_wp2_with fail
  refine NoPanic.normal ?_
  go_wp2
  go_ret
  exact ⟨K.ri (by rw [HE.out]), (by repeat' (first | with_reducible exact K.Ext.refl _ | with_reducible assumption | with_reducible refine K.Ext.drew ?_ | with_reducible refine K.Ext.alloc ?_ _ | with_reducible refine K.Ext.setCell ?_ ?_ _ | with_reducible refine K.Ext.trans ?_ (by with_reducible assumption) | (dsimp only; omega) | omega | exact K.Ext.refl _ | assumption | apply K.Ext.drew | refine K.Ext.alloc ?_ _ | refine K.Ext.setCell ?_ ?_ _ | (simp; done) | (simp; omega) | refine K.Ext.trans ?_ (by assumption)))⟩
set_option maxHeartbeats 3200000 in
theorem multiplied_any (F G : Z.Fm) {lo hi lo' hi' : Nat} {p q : Value} (w : World) (hF : Z.isFormula F = true) (hG : Z.isFormula G = true) (h : K.ints w lo hi p F.pw) (h' : K.ints w lo' hi' q G.pw) :
    Calls Try.prog 100 #[.agg #[.int .i64 F.dg, .int .i64 F.tn, .string F.nm, p], .agg #[.int .i64 G.dg, .int .i64 G.tn, .string G.nm, q]] w fun e w' => (∃ p', e = .returned (.tuple #[.agg #[.int .i64 ((Z.multiplied F G).1).dg, .int .i64 ((Z.multiplied F G).1).tn, .string ((Z.multiplied F G).1).nm, p'], .int .i64 (Z.multiplied F G).2]) ∧ K.own w' w.heap.size w'.heap.size p' (Z.multiplied F G).1.pw) ∧ K.Ext w w' := by
  have g1 := h
  obtain ⟨o, cap, rfl, _⟩ := g1
  have g2 := h'
  obtain ⟨o', cap', rfl, _⟩ := g2
  have hmf : ∀ (fn : Fn) (first cap : Array Value) (w : World), (Instr.makeFunc fn first cap).run Try.prog w = .ok (.func fn first cap) w := fun _ _ _ _ => rfl
  have hg : ∀ (args : Array Value) (w' : World), (callFunc 164 args).run Try.prog w' = .ok (.enter 164 args) w' := by
    intro args w'; go_simp
  obtain ⟨r, hr⟩ : ∃ r, r = Z.MultiplyFigures (F.dg, F.tn) (G.dg, G.tn) := ⟨_, rfl⟩
  have HM : ∀ w' : World, Calls Try.prog 162 #[.agg #[.int .i64 F.dg, .int .i64 F.tn], .agg #[.int .i64 G.dg, .int .i64 G.tn]] w' fun e w'' => e = .returned (.tuple #[.agg #[.int .i64 r.1.1, .int .i64 r.1.2], .int .i64 r.2]) ∧ K.Ext w' w'' := fun w' => by rw [hr]; exact impl_MultiplyFigures (F.dg, F.tn) (G.dg, G.tn) w'
  have HC : ∀ W : World, (∀ w', K.Ext W w' → (w'.cell? ⟨w.heap.size, 0, none⟩ = some (.int .i64 F.dg) ∧ w'.cell? ⟨w.heap.size, 1, none⟩ = some (.int .i64 F.tn) ∧ w'.cell? ⟨w.heap.size, 2, none⟩ = some (.string F.nm) ∧ w'.cell? ⟨w.heap.size, 3, none⟩ = some (.slice o F.pw.length cap)) ∧ (w'.cell? ⟨w.heap.size + 1, 0, none⟩ = some (.int .i64 G.dg) ∧ w'.cell? ⟨w.heap.size + 1, 1, none⟩ = some (.int .i64 G.tn) ∧ w'.cell? ⟨w.heap.size + 1, 2, none⟩ = some (.string G.nm) ∧ w'.cell? ⟨w.heap.size + 1, 3, none⟩ = some (.slice o' G.pw.length cap'))) → K.ints W lo hi (.slice o F.pw.length cap) F.pw → K.ints W lo' hi' (.slice o' G.pw.length cap') G.pw →
      Calls Try.prog 163 #[.agg #[.int .i64 r.1.1, .int .i64 r.1.2], .func (.func 164) #[] #[.pointer (some ⟨w.heap.size, 0, none⟩), .pointer (some ⟨w.heap.size + 1, 0, none⟩)]] W fun e w' => (∃ p', e = .returned (.tuple #[.agg #[.int .i64 ((Z.madeOr r.1.1 r.1.2 (Z.sumF F G)).1).dg, .int .i64 ((Z.madeOr r.1.1 r.1.2 (Z.sumF F G)).1).tn, .string ((Z.madeOr r.1.1 r.1.2 (Z.sumF F G)).1).nm, p'], .int .i64 (Z.madeOr r.1.1 r.1.2 (Z.sumF F G)).2]) ∧ K.own w' W.heap.size w'.heap.size p' (Z.madeOr r.1.1 r.1.2 (Z.sumF F G)).1.pw) ∧ K.Ext W w' := by
    intro W hW hI hJ
    exact madeOf_any r.1.1 r.1.2 (Z.sumF F G) 164 (.pointer (some ⟨w.heap.size, 0, none⟩)) (.pointer (some ⟨w.heap.size + 1, 0, none⟩)) W hg (fun i w' hi hx => by
      obtain ⟨⟨x0, x1, x2, x3⟩, y0, y1, y2, y3⟩ := hW w' hx
      exact multiplied1_any F G i _ _ w' hi hF hG x0 x1 x2 x3 y0 y1 y2 y3 (hI.ext hx) (hJ.ext hx))
  have HCh := Z.hide HC
  clear HC hF hG
  obtain ⟨M, hM⟩ : ∃ M, M = Z.madeOr r.1.1 r.1.2 (Z.sumF F G) := ⟨_, rfl⟩
  rw [← hM] at HCh
  by_cases hz : r.2 = 0
  · have HE : Hid (Z.multiplied F G = M) := Z.hide (by unfold Z.multiplied; rw [← hr, if_pos hz, hM])
    clear hr hM
    go_enter Try.func100, Try.ntmps100
    go_wp2_with (first | ((go_at_call 162; refine K.call (by with_reducible rfl) (by with_reducible rfl) (HM _) ?_; rintro e w1 ⟨rfl, hw1⟩; obtain ⟨hcw1, hfw1⟩ := hw1.facts); have c_w1_0_0 : w1.cell? ⟨w.heap.size, 0, none⟩ = some (.int .i64 (F.dg)) := hw1.cell_of (by go_simp); have f_w1_0_0 : w1.frozen? ⟨w.heap.size, 0, none⟩ = false := hw1.thaw_of (by go_simp) (by go_simp); have c_w1_0_1 : w1.cell? ⟨w.heap.size, 1, none⟩ = some (.int .i64 (F.tn)) := hw1.cell_of (by go_simp); have f_w1_0_1 : w1.frozen? ⟨w.heap.size, 1, none⟩ = false := hw1.thaw_of (by go_simp) (by go_simp); have c_w1_0_2 : w1.cell? ⟨w.heap.size, 2, none⟩ = some (.string F.nm) := hw1.cell_of (by go_simp); have f_w1_0_2 : w1.frozen? ⟨w.heap.size, 2, none⟩ = false := hw1.thaw_of (by go_simp) (by go_simp); have c_w1_0_3 : w1.cell? ⟨w.heap.size, 3, none⟩ = some (.slice o F.pw.length cap) := hw1.cell_of (by go_simp); have f_w1_0_3 : w1.frozen? ⟨w.heap.size, 3, none⟩ = false := hw1.thaw_of (by go_simp) (by go_simp); have c_w1_1_0 : w1.cell? ⟨w.heap.size + 1, 0, none⟩ = some (.int .i64 (G.dg)) := hw1.cell_of (by go_simp); have f_w1_1_0 : w1.frozen? ⟨w.heap.size + 1, 0, none⟩ = false := hw1.thaw_of (by go_simp) (by go_simp); have c_w1_1_1 : w1.cell? ⟨w.heap.size + 1, 1, none⟩ = some (.int .i64 (G.tn)) := hw1.cell_of (by go_simp); have f_w1_1_1 : w1.frozen? ⟨w.heap.size + 1, 1, none⟩ = false := hw1.thaw_of (by go_simp) (by go_simp); have c_w1_1_2 : w1.cell? ⟨w.heap.size + 1, 2, none⟩ = some (.string G.nm) := hw1.cell_of (by go_simp); have f_w1_1_2 : w1.frozen? ⟨w.heap.size + 1, 2, none⟩ = false := hw1.thaw_of (by go_simp) (by go_simp); have c_w1_1_3 : w1.cell? ⟨w.heap.size + 1, 3, none⟩ = some (.slice o' G.pw.length cap') := hw1.cell_of (by go_simp); have f_w1_1_3 : w1.frozen? ⟨w.heap.size + 1, 3, none⟩ = false := hw1.thaw_of (by go_simp) (by go_simp); have c_w1_2_0 : w1.cell? ⟨w.heap.size + 1 + 1, 0, none⟩ = some (.int .i64 (0)) := hw1.cell_of (by go_simp); have f_w1_2_0 : w1.frozen? ⟨w.heap.size + 1 + 1, 0, none⟩ = false := hw1.thaw_of (by go_simp) (by go_simp); have c_w1_2_1 : w1.cell? ⟨w.heap.size + 1 + 1, 1, none⟩ = some (.int .i64 (0)) := hw1.cell_of (by go_simp); have f_w1_2_1 : w1.frozen? ⟨w.heap.size + 1 + 1, 1, none⟩ = false := hw1.thaw_of (by go_simp) (by go_simp); have c_w1_2_2 : w1.cell? ⟨w.heap.size + 1 + 1, 2, none⟩ = some (.string ⟨#[]⟩) := hw1.cell_of (by go_simp); have f_w1_2_2 : w1.frozen? ⟨w.heap.size + 1 + 1, 2, none⟩ = false := hw1.thaw_of (by go_simp) (by go_simp); have c_w1_2_3 : w1.cell? ⟨w.heap.size + 1 + 1, 3, none⟩ = some (.slice none 0 0) := hw1.cell_of (by go_simp); have f_w1_2_3 : w1.frozen? ⟨w.heap.size + 1 + 1, 3, none⟩ = false := hw1.thaw_of (by go_simp) (by go_simp); have z1 : w.heap.size + 3 ≤ w1.heap.size := (by have h_ := hw1.size; simp at h_; omega); have z2 : ¬ (w.heap.size = w1.heap.size) := (by omega); have z3 : ¬ (w.heap.size + 1 = w1.heap.size) := (by omega); have z4 : ¬ (w.heap.size + 1 + 1 = w1.heap.size) := (by omega); have z5 : w.heap.size < w1.heap.size := (by omega); have z6 : w.heap.size + 1 < w1.heap.size := (by omega); have z7 : w.heap.size + 1 + 1 < w1.heap.size := (by omega)) | ((go_at_call 163; refine K.call (by with_reducible rfl) (by with_reducible rfl) (HCh.out _ (fun w' hx => ⟨⟨hx.cell_of (by go_simp), hx.cell_of (by go_simp), hx.cell_of (by go_simp), hx.cell_of (by go_simp)⟩, hx.cell_of (by go_simp), hx.cell_of (by go_simp), hx.cell_of (by go_simp), hx.cell_of (by go_simp)⟩) (h.ext (by repeat' (first | with_reducible exact K.Ext.refl _ | with_reducible assumption | with_reducible refine K.Ext.drew ?_ | with_reducible refine K.Ext.alloc ?_ _ | with_reducible refine K.Ext.setCell ?_ ?_ _ | with_reducible refine K.Ext.trans ?_ (by with_reducible assumption) | (dsimp only; omega) | omega | exact K.Ext.refl _ | assumption | apply K.Ext.drew | refine K.Ext.alloc ?_ _ | refine K.Ext.setCell ?_ ?_ _ | (simp; done) | (simp; omega) | refine K.Ext.trans ?_ (by assumption)))) (h'.ext (by repeat' (first | with_reducible exact K.Ext.refl _ | with_reducible assumption | with_reducible refine K.Ext.drew ?_ | with_reducible refine K.Ext.alloc ?_ _ | with_reducible refine K.Ext.setCell ?_ ?_ _ | with_reducible refine K.Ext.trans ?_ (by with_reducible assumption) | (dsimp only; omega) | omega | exact K.Ext.refl _ | assumption | apply K.Ext.drew | refine K.Ext.alloc ?_ _ | refine K.Ext.setCell ?_ ?_ _ | (simp; done) | (simp; omega) | refine K.Ext.trans ?_ (by assumption))))) ?_; rintro e w2 ⟨⟨p2, rfl, hp2⟩, hw2⟩; obtain ⟨hcw2, hfw2⟩ := hw2.facts; have hp3 := hp2; obtain ⟨o2, c2, rfl, _⟩ := hp3); have c_w2_2_0 : w2.cell? ⟨w.heap.size + 1 + 1, 0, none⟩ = some (.int .i64 (0)) := hw2.cell_of (by go_simp); have f_w2_2_0 : w2.frozen? ⟨w.heap.size + 1 + 1, 0, none⟩ = false := hw2.thaw_of (by go_simp) (by go_simp); have c_w2_2_1 : w2.cell? ⟨w.heap.size + 1 + 1, 1, none⟩ = some (.int .i64 (0)) := hw2.cell_of (by go_simp); have f_w2_2_1 : w2.frozen? ⟨w.heap.size + 1 + 1, 1, none⟩ = false := hw2.thaw_of (by go_simp) (by go_simp); have c_w2_2_2 : w2.cell? ⟨w.heap.size + 1 + 1, 2, none⟩ = some (.string ⟨#[]⟩) := hw2.cell_of (by go_simp); have f_w2_2_2 : w2.frozen? ⟨w.heap.size + 1 + 1, 2, none⟩ = false := hw2.thaw_of (by go_simp) (by go_simp); have c_w2_2_3 : w2.cell? ⟨w.heap.size + 1 + 1, 3, none⟩ = some (.slice none 0 0) := hw2.cell_of (by go_simp); have f_w2_2_3 : w2.frozen? ⟨w.heap.size + 1 + 1, 3, none⟩ = false := hw2.thaw_of (by go_simp) (by go_simp)))
    rw [HE.out]
    have zz := hw2.size
    simp at zz
    refine bodyPost_ret (v := .tuple #[.agg #[.int .i64 M.1.dg, .int .i64 M.1.tn, .string M.1.nm, .slice o2 M.1.pw.length c2], .int .i64 M.2]) (by unfold results; rw [Try.results100]; go_simp) rfl ⟨⟨_, rfl, ?_⟩, ?_⟩
    · refine K.own.mono (lo := w1.heap.size + 1) (hi := w2.heap.size) ?_ (by omega) (by simp)
      repeat with_reducible refine K.own.set ?_ _ (.inl (by dsimp only; omega)) _
      exact hp2.mono (by simp) (Nat.le_refl _)
    · repeat with_reducible refine K.Ext.setCell ?_ (by dsimp only; omega) _
      exact (by repeat' (first | with_reducible exact K.Ext.refl _ | with_reducible assumption | with_reducible refine K.Ext.drew ?_ | with_reducible refine K.Ext.alloc ?_ _ | with_reducible refine K.Ext.setCell ?_ ?_ _ | with_reducible refine K.Ext.trans ?_ (by with_reducible assumption) | (dsimp only; omega) | omega | exact K.Ext.refl _ | assumption | apply K.Ext.drew | refine K.Ext.alloc ?_ _ | refine K.Ext.setCell ?_ ?_ _ | (simp; done) | (simp; omega) | refine K.Ext.trans ?_ (by assumption)))
  · have HE : Hid (Z.multiplied F G = (Z.zeroFm, r.2)) := Z.hide (by unfold Z.multiplied; rw [← hr, if_neg hz])
    clear hr hM
    go_enter Try.func100, Try.ntmps100
    go_wp2_with ((go_at_call 162; refine K.call (by with_reducible rfl) (by with_reducible rfl) (HM _) ?_; rintro e w1 ⟨rfl, hw1⟩; obtain ⟨hcw1, hfw1⟩ := hw1.facts); have c_w1_0_0 : w1.cell? ⟨w.heap.size, 0, none⟩ = some (.int .i64 (F.dg)) := hw1.cell_of (by go_simp); have f_w1_0_0 : w1.frozen? ⟨w.heap.size, 0, none⟩ = false := hw1.thaw_of (by go_simp) (by go_simp); have c_w1_0_1 : w1.cell? ⟨w.heap.size, 1, none⟩ = some (.int .i64 (F.tn)) := hw1.cell_of (by go_simp); have f_w1_0_1 : w1.frozen? ⟨w.heap.size, 1, none⟩ = false := hw1.thaw_of (by go_simp) (by go_simp); have c_w1_0_2 : w1.cell? ⟨w.heap.size, 2, none⟩ = some (.string F.nm) := hw1.cell_of (by go_simp); have f_w1_0_2 : w1.frozen? ⟨w.heap.size, 2, none⟩ = false := hw1.thaw_of (by go_simp) (by go_simp); have c_w1_0_3 : w1.cell? ⟨w.heap.size, 3, none⟩ = some (.slice o F.pw.length cap) := hw1.cell_of (by go_simp); have f_w1_0_3 : w1.frozen? ⟨w.heap.size, 3, none⟩ = false := hw1.thaw_of (by go_simp) (by go_simp); have c_w1_1_0 : w1.cell? ⟨w.heap.size + 1, 0, none⟩ = some (.int .i64 (G.dg)) := hw1.cell_of (by go_simp); have f_w1_1_0 : w1.frozen? ⟨w.heap.size + 1, 0, none⟩ = false := hw1.thaw_of (by go_simp) (by go_simp); have c_w1_1_1 : w1.cell? ⟨w.heap.size + 1, 1, none⟩ = some (.int .i64 (G.tn)) := hw1.cell_of (by go_simp); have f_w1_1_1 : w1.frozen? ⟨w.heap.size + 1, 1, none⟩ = false := hw1.thaw_of (by go_simp) (by go_simp); have c_w1_1_2 : w1.cell? ⟨w.heap.size + 1, 2, none⟩ = some (.string G.nm) := hw1.cell_of (by go_simp); have f_w1_1_2 : w1.frozen? ⟨w.heap.size + 1, 2, none⟩ = false := hw1.thaw_of (by go_simp) (by go_simp); have c_w1_1_3 : w1.cell? ⟨w.heap.size + 1, 3, none⟩ = some (.slice o' G.pw.length cap') := hw1.cell_of (by go_simp); have f_w1_1_3 : w1.frozen? ⟨w.heap.size + 1, 3, none⟩ = false := hw1.thaw_of (by go_simp) (by go_simp); have c_w1_2_0 : w1.cell? ⟨w.heap.size + 1 + 1, 0, none⟩ = some (.int .i64 (0)) := hw1.cell_of (by go_simp); have f_w1_2_0 : w1.frozen? ⟨w.heap.size + 1 + 1, 0, none⟩ = false := hw1.thaw_of (by go_simp) (by go_simp); have c_w1_2_1 : w1.cell? ⟨w.heap.size + 1 + 1, 1, none⟩ = some (.int .i64 (0)) := hw1.cell_of (by go_simp); have f_w1_2_1 : w1.frozen? ⟨w.heap.size + 1 + 1, 1, none⟩ = false := hw1.thaw_of (by go_simp) (by go_simp); have c_w1_2_2 : w1.cell? ⟨w.heap.size + 1 + 1, 2, none⟩ = some (.string ⟨#[]⟩) := hw1.cell_of (by go_simp); have f_w1_2_2 : w1.frozen? ⟨w.heap.size + 1 + 1, 2, none⟩ = false := hw1.thaw_of (by go_simp) (by go_simp); have c_w1_2_3 : w1.cell? ⟨w.heap.size + 1 + 1, 3, none⟩ = some (.slice none 0 0) := hw1.cell_of (by go_simp); have f_w1_2_3 : w1.frozen? ⟨w.heap.size + 1 + 1, 3, none⟩ = false := hw1.thaw_of (by go_simp) (by go_simp); have z1 : w.heap.size + 3 ≤ w1.heap.size := (by have h_ := hw1.size; simp at h_; omega); have z4 : ¬ (w.heap.size + 1 + 1 = w1.heap.size) := (by omega); have z8 : ¬ (w1.heap.size = w.heap.size + 1 + 1) := (by omega); have z7 : w.heap.size + 1 + 1 < w1.heap.size := (by omega))
    rw [HE.out]
    refine bodyPost_ret (v := .tuple #[.agg #[.int .i64 0, .int .i64 0, .string ⟨#[]⟩, .slice none 0 0], .int .i64 r.2]) (by unfold results; rw [Try.results100]; go_simp) rfl ⟨⟨_, rfl, K.own_nil _ _ _⟩, ?_⟩
    repeat' (first | with_reducible refine K.Ext.setCell ?_ ?_ _ | with_reducible refine K.Ext.alloc ?_ _ | (dsimp only; omega))
    exact (by repeat' (first | with_reducible exact K.Ext.refl _ | with_reducible assumption | with_reducible refine K.Ext.drew ?_ | with_reducible refine K.Ext.alloc ?_ _ | with_reducible refine K.Ext.setCell ?_ ?_ _ | with_reducible refine K.Ext.trans ?_ (by with_reducible assumption) | (dsimp only; omega) | omega | exact K.Ext.refl _ | assumption | apply K.Ext.drew | refine K.Ext.alloc ?_ _ | refine K.Ext.setCell ?_ ?_ _ | (simp; done) | (simp; omega) | refine K.Ext.trans ?_ (by assumption)))
end Go.Proofs.Ythmnlbgbacbocaa
end
section
namespace Go.Z
def fmOr (F : Fm) : Fm × Int := if isFormula F then (F, 0) else (zeroFm, 3)
end Go.Z
namespace Go.Proofs.Ythmnlbgbacbocaa
open Go.RowKit
set_option maxHeartbeats 3200000 in
theorem l18Result_any (F : Z.Fm) {lo hi : Nat} {p : Value} (w : World) (hm : F.pw.length ≤ 1048576) (hn : F.nm.size ≤ 1048576) (h : K.ints w lo hi p F.pw) :
    Calls Try.prog 103 #[.agg #[.int .i64 F.dg, .int .i64 F.tn, .string F.nm, p]] w fun e w' => (∃ p', e = .returned (.tuple #[.agg #[.int .i64 ((Z.fmOr F).1).dg, .int .i64 ((Z.fmOr F).1).tn, .string ((Z.fmOr F).1).nm, p'], .int .i64 (Z.fmOr F).2]) ∧ K.ints w' lo hi p' (Z.fmOr F).1.pw) ∧ K.Ext w w' := by
  have g1 := h
  obtain ⟨o, cap, rfl, _⟩ := g1
  cases hF : Z.isFormula F
  · have HE : Hid (Z.fmOr F = (Z.zeroFm, 3)) := Z.hide (by unfold Z.fmOr; rw [hF]; rfl)
    go_enter Try.func103, Try.ntmps103
    go_wp2_with ((go_at_call 91; refine K.call (by with_reducible rfl) (by with_reducible rfl) (spec_IsFormula F _ hm hn (h.ext (by repeat' (first | with_reducible exact K.Ext.refl _ | with_reducible assumption | with_reducible refine K.Ext.drew ?_ | with_reducible refine K.Ext.alloc ?_ _ | with_reducible refine K.Ext.setCell ?_ ?_ _ | with_reducible refine K.Ext.trans ?_ (by with_reducible assumption) | (dsimp only; omega) | omega | exact K.Ext.refl _ | assumption | apply K.Ext.drew | refine K.Ext.alloc ?_ _ | refine K.Ext.setCell ?_ ?_ _ | (simp; done) | (simp; omega) | refine K.Ext.trans ?_ (by assumption))))) ?_; rintro e w1 ⟨rfl, hw1⟩; obtain ⟨hcw1, hfw1⟩ := hw1.facts); have c_w1_0_0 : w1.cell? ⟨w.heap.size, 0, none⟩ = some (.int .i64 (F.dg)) := hw1.cell_of (by go_simp); have f_w1_0_0 : w1.frozen? ⟨w.heap.size, 0, none⟩ = false := hw1.thaw_of (by go_simp) (by go_simp); have c_w1_0_1 : w1.cell? ⟨w.heap.size, 1, none⟩ = some (.int .i64 (F.tn)) := hw1.cell_of (by go_simp); have f_w1_0_1 : w1.frozen? ⟨w.heap.size, 1, none⟩ = false := hw1.thaw_of (by go_simp) (by go_simp); have c_w1_0_2 : w1.cell? ⟨w.heap.size, 2, none⟩ = some (.string F.nm) := hw1.cell_of (by go_simp); have f_w1_0_2 : w1.frozen? ⟨w.heap.size, 2, none⟩ = false := hw1.thaw_of (by go_simp) (by go_simp); have c_w1_0_3 : w1.cell? ⟨w.heap.size, 3, none⟩ = some (.slice o F.pw.length cap) := hw1.cell_of (by go_simp); have f_w1_0_3 : w1.frozen? ⟨w.heap.size, 3, none⟩ = false := hw1.thaw_of (by go_simp) (by go_simp); have c_w1_1_0 : w1.cell? ⟨w.heap.size + 1, 0, none⟩ = some (.int .i64 (0)) := hw1.cell_of (by go_simp); have f_w1_1_0 : w1.frozen? ⟨w.heap.size + 1, 0, none⟩ = false := hw1.thaw_of (by go_simp) (by go_simp); have c_w1_1_1 : w1.cell? ⟨w.heap.size + 1, 1, none⟩ = some (.int .i64 (0)) := hw1.cell_of (by go_simp); have f_w1_1_1 : w1.frozen? ⟨w.heap.size + 1, 1, none⟩ = false := hw1.thaw_of (by go_simp) (by go_simp); have c_w1_1_2 : w1.cell? ⟨w.heap.size + 1, 2, none⟩ = some (.string ⟨#[]⟩) := hw1.cell_of (by go_simp); have f_w1_1_2 : w1.frozen? ⟨w.heap.size + 1, 2, none⟩ = false := hw1.thaw_of (by go_simp) (by go_simp); have c_w1_1_3 : w1.cell? ⟨w.heap.size + 1, 3, none⟩ = some (.slice none 0 0) := hw1.cell_of (by go_simp); have f_w1_1_3 : w1.frozen? ⟨w.heap.size + 1, 3, none⟩ = false := hw1.thaw_of (by go_simp) (by go_simp))
    rw [HE.out]
    refine bodyPost_ret (v := .tuple #[.agg #[.int .i64 0, .int .i64 0, .string ⟨#[]⟩, .slice none 0 0], .int .i64 3]) (by unfold results; rw [Try.results103]; go_simp) rfl ⟨⟨_, rfl, K.ints_nil _ _ _⟩, ?_⟩
    repeat with_reducible refine K.Ext.setCell ?_ (by dsimp only; omega) _
    exact (by repeat' (first | with_reducible exact K.Ext.refl _ | with_reducible assumption | with_reducible refine K.Ext.drew ?_ | with_reducible refine K.Ext.alloc ?_ _ | with_reducible refine K.Ext.setCell ?_ ?_ _ | with_reducible refine K.Ext.trans ?_ (by with_reducible assumption) | (dsimp only; omega) | omega | exact K.Ext.refl _ | assumption | apply K.Ext.drew | refine K.Ext.alloc ?_ _ | refine K.Ext.setCell ?_ ?_ _ | (simp; done) | (simp; omega) | refine K.Ext.trans ?_ (by assumption)))
  · have HE : Hid (Z.fmOr F = (F, 0)) := Z.hide (by unfold Z.fmOr; rw [hF]; rfl)
    go_enter Try.func103, Try.ntmps103
    go_wp2_with ((go_at_call 91; refine K.call (by with_reducible rfl) (by with_reducible rfl) (spec_IsFormula F _ hm hn (h.ext (by repeat' (first | with_reducible exact K.Ext.refl _ | with_reducible assumption | with_reducible refine K.Ext.drew ?_ | with_reducible refine K.Ext.alloc ?_ _ | with_reducible refine K.Ext.setCell ?_ ?_ _ | with_reducible refine K.Ext.trans ?_ (by with_reducible assumption) | (dsimp only; omega) | omega | exact K.Ext.refl _ | assumption | apply K.Ext.drew | refine K.Ext.alloc ?_ _ | refine K.Ext.setCell ?_ ?_ _ | (simp; done) | (simp; omega) | refine K.Ext.trans ?_ (by assumption))))) ?_; rintro e w1 ⟨rfl, hw1⟩; obtain ⟨hcw1, hfw1⟩ := hw1.facts); have c_w1_0_0 : w1.cell? ⟨w.heap.size, 0, none⟩ = some (.int .i64 (F.dg)) := hw1.cell_of (by go_simp); have f_w1_0_0 : w1.frozen? ⟨w.heap.size, 0, none⟩ = false := hw1.thaw_of (by go_simp) (by go_simp); have c_w1_0_1 : w1.cell? ⟨w.heap.size, 1, none⟩ = some (.int .i64 (F.tn)) := hw1.cell_of (by go_simp); have f_w1_0_1 : w1.frozen? ⟨w.heap.size, 1, none⟩ = false := hw1.thaw_of (by go_simp) (by go_simp); have c_w1_0_2 : w1.cell? ⟨w.heap.size, 2, none⟩ = some (.string F.nm) := hw1.cell_of (by go_simp); have f_w1_0_2 : w1.frozen? ⟨w.heap.size, 2, none⟩ = false := hw1.thaw_of (by go_simp) (by go_simp); have c_w1_0_3 : w1.cell? ⟨w.heap.size, 3, none⟩ = some (.slice o F.pw.length cap) := hw1.cell_of (by go_simp); have f_w1_0_3 : w1.frozen? ⟨w.heap.size, 3, none⟩ = false := hw1.thaw_of (by go_simp) (by go_simp); have c_w1_1_0 : w1.cell? ⟨w.heap.size + 1, 0, none⟩ = some (.int .i64 (0)) := hw1.cell_of (by go_simp); have f_w1_1_0 : w1.frozen? ⟨w.heap.size + 1, 0, none⟩ = false := hw1.thaw_of (by go_simp) (by go_simp); have c_w1_1_1 : w1.cell? ⟨w.heap.size + 1, 1, none⟩ = some (.int .i64 (0)) := hw1.cell_of (by go_simp); have f_w1_1_1 : w1.frozen? ⟨w.heap.size + 1, 1, none⟩ = false := hw1.thaw_of (by go_simp) (by go_simp); have c_w1_1_2 : w1.cell? ⟨w.heap.size + 1, 2, none⟩ = some (.string ⟨#[]⟩) := hw1.cell_of (by go_simp); have f_w1_1_2 : w1.frozen? ⟨w.heap.size + 1, 2, none⟩ = false := hw1.thaw_of (by go_simp) (by go_simp); have c_w1_1_3 : w1.cell? ⟨w.heap.size + 1, 3, none⟩ = some (.slice none 0 0) := hw1.cell_of (by go_simp); have f_w1_1_3 : w1.frozen? ⟨w.heap.size + 1, 3, none⟩ = false := hw1.thaw_of (by go_simp) (by go_simp))
    rw [HE.out]
    have hq : K.Ext w w1 := (by repeat' (first | with_reducible exact K.Ext.refl _ | with_reducible assumption | with_reducible refine K.Ext.drew ?_ | with_reducible refine K.Ext.alloc ?_ _ | with_reducible refine K.Ext.setCell ?_ ?_ _ | with_reducible refine K.Ext.trans ?_ (by with_reducible assumption) | (dsimp only; omega) | omega | exact K.Ext.refl _ | assumption | apply K.Ext.drew | refine K.Ext.alloc ?_ _ | refine K.Ext.setCell ?_ ?_ _ | (simp; done) | (simp; omega) | refine K.Ext.trans ?_ (by assumption)))
    refine bodyPost_ret (v := .tuple #[.agg #[.int .i64 F.dg, .int .i64 F.tn, .string F.nm, .slice o F.pw.length cap], .int .i64 0]) (by unfold results; rw [Try.results103]; go_simp) rfl ⟨⟨_, rfl, ?_⟩, ?_⟩
    · refine h.ext ?_
      repeat with_reducible refine K.Ext.setCell ?_ (by dsimp only; omega) _
      exact hq
    · repeat with_reducible refine K.Ext.setCell ?_ (by dsimp only; omega) _
      exact hq
end Go.Proofs.Ythmnlbgbacbocaa
end
section
namespace Go.Z
/-- the factor, k times (or divided by), and the code -/
def pw1 (g : Bool) (x a : Int × Int) : (Int × Int) × Int := if g then MultiplyFigures x a else DivideFigures x a
def powK (g : Bool) (a : Int × Int) : Nat → (Int × Int) × Int
  | 0 => ((1000, 0), 0)
  | k + 1 => if (powK g a k).2 = 0 then pw1 g (powK g a k).1 a else powK g a k
theorem powK_succ (g : Bool) (a : Int × Int) (k : Nat) (h : (powK g a k).2 = 0) : powK g a (k + 1) = pw1 g (powK g a k).1 a := by
  simp only [powK, if_pos h]
theorem powK_stop (g : Bool) (a : Int × Int) (k : Nat) (h : ¬ (powK g a k).2 = 0) (n : Nat) (hk : k ≤ n) : powK g a n = powK g a k := by
  induction n with
  | zero => obtain rfl : k = 0 := by omega
            rfl
  | succ n ih =>
    by_cases hn : k = n + 1
    · rw [hn]
    · have hp : powK g a (n + 1) = powK g a n := by
        rw [powK, if_neg (by rw [ih (by omega)]; exact h)]
      rw [hp, ih (by omega)]
def powF (F : Fm) (n : Int) (i : Nat) : Int := n * expo (bs F.nm) F.pw (97 + (i : Int))
def raised (F : Fm) (n : Int) : Fm × Int :=
  if (powK (decide (0 < n)) (F.dg, F.tn) n.natAbs).2 = 0 then madeOr (powK (decide (0 < n)) (F.dg, F.tn) n.natAbs).1.1 (powK (decide (0 < n)) (F.dg, F.tn) n.natAbs).1.2 (powF F n)
  else (zeroFm, (powK (decide (0 < n)) (F.dg, F.tn) n.natAbs).2)
def pow3 (n : Int) : Bool := decide (-3 ≤ n) && decide (n ≤ 3)
def PowerFormula (F : Fm) (n : Int) : Fm × Int := if isFormula F then (if pow3 n then raised F n else (zeroFm, 2)) else (zeroFm, 1)
theorem zeroFm_le : zeroFm.pw.length ≤ 1048576 ∧ zeroFm.nm.size ≤ 1048576 := ⟨by simp [zeroFm], by simp [zeroFm, ByteArray.size]⟩
/-- a result with code 0 is valid -/
theorem madeOr_ok {d t : Int} {f : Nat → Int} (h : (madeOr d t f).2 = 0) : isFormula (madeOr d t f).1 = true := by
  unfold madeOr at h ⊢; split at h
  · rename_i hv; rw [if_pos hv]; exact hv
  · simp at h
theorem raised_ok {F : Fm} {n : Int} (h : (raised F n).2 = 0) : isFormula (raised F n).1 = true := by
  unfold raised at h ⊢; split at h
  · rename_i hz; rw [if_pos hz]; exact madeOr_ok h
  · rename_i hz; exact absurd h hz
theorem multiplied_ok {F G : Fm} (h : (multiplied F G).2 = 0) : isFormula (multiplied F G).1 = true := by
  unfold multiplied at h ⊢; split at h
  · rename_i hz; rw [if_pos hz]; exact madeOr_ok h
  · rename_i hz; exact absurd h hz
theorem PowerFormula_eq {F : Fm} {n : Int} (hF : isFormula F = true) (hn : -3 ≤ n ∧ n ≤ 3) : PowerFormula F n = raised F n := by
  have : pow3 n = true := by simp [pow3]; omega
  unfold PowerFormula; rw [hF, this]; rfl
theorem MultiplyFormulas_eq {F G : Fm} (hF : isFormula F = true) (hG : isFormula G = true) : MultiplyFormulas F G = multiplied F G := by unfold MultiplyFormulas; rw [hF, hG]; rfl
/-- the exponents times n, of the first k letters -/
def powL (F : Fm) (n : Int) (k : Nat) : List Int := (List.range 26).map (fun i => if i < k then powF F n i else expo (bs F.nm) F.pw (97 + (i : Int)))
theorem powL_length (F : Fm) (n : Int) (k : Nat) : (powL F n k).length = 26 := by simp [powL]
theorem powL_zero (F : Fm) (n : Int) : powL F n 0 = allOf F := by simp [powL, allOf]
theorem powL_get (F : Fm) (n : Int) (k i : Nat) (h : i < 26) : (powL F n k).getD i 0 = if i < k then powF F n i else expo (bs F.nm) F.pw (97 + (i : Int)) := by simp [powL, List.getD_eq_getElem?_getD, h]
theorem powL_succ (F : Fm) (n : Int) (k : Nat) (hk : k < 26) : powL F n (k + 1) = (powL F n k).set k (powF F n k) := by
  apply List.ext_getElem
  · simp [powL]
  · intro i hi hi'
    rw [List.getElem_set]
    simp only [powL, List.getElem_map, List.getElem_range]
    by_cases h : k = i
    · subst h; simp
    · rw [if_neg h]
      by_cases h2 : i < k
      · rw [if_pos h2, if_pos (by omega)]
      · rw [if_neg h2, if_neg (by omega)]
theorem powL_made (F : Fm) (n : Int) (d t : Int) : made d t (fun i => (powL F n 26).getD i 0) 26 = made d t (powF F n) 26 := by
  apply made_congr
  intro i hi
  show (powL F n 26).getD i 0 = _
  rw [powL_get F n 26 i hi, if_pos hi]
/-- equations -/
def zeroEqn : Eqn := ⟨zeroFm, zeroFm⟩
def bothOf (a b : Fm × Int) : Eqn × Int := if a.2 = 0 then (if b.2 = 0 then (⟨a.1, b.1⟩, 0) else (zeroEqn, b.2)) else (zeroEqn, a.2)
def TimesFormula (E : Eqn) (F : Fm) : Eqn × Int := if isEquation E && isFormula F then bothOf (multiplied E.L F) (multiplied E.R F) else (zeroEqn, 1)
def RaiseSides (E : Eqn) (n : Int) : Eqn × Int := if isEquation E then (if n = 0 then (zeroEqn, 2) else if pow3 n then bothOf (raised E.L n) (raised E.R n) else (zeroEqn, 2)) else (zeroEqn, 1)
def quotient (E : Eqn) : Fm × Int := if (raised E.R (-1)).2 = 0 then multiplied E.L (raised E.R (-1)).1 else (zeroFm, (raised E.R (-1)).2)
theorem isEquation_parts {E : Eqn} (h : isEquation E = true) : isFormula E.L = true ∧ isFormula E.R = true := by
  unfold isEquation at h; rw [Bool.and_eq_true] at h; exact h
/-- results' exponents are not 0 -/
theorem mkP_nz (f : Nat → Int) (n : Nat) : ∀ x ∈ mkP f n, x ≠ 0 := by
  induction n with
  | zero => intro x hx; simp [mkP] at hx
  | succ n ih =>
    intro x hx
    unfold mkP at hx
    split at hx
    · exact ih x (by simpa using hx)
    · rename_i hz
      rcases List.mem_append.1 hx with h | h
      · exact ih x h
      · rw [List.mem_singleton.1 h]; exact hz
theorem zeroFm_nz : ∀ x ∈ zeroFm.pw, x ≠ 0 := by intro x hx; simp [zeroFm] at hx
theorem madeOr_nz (d t : Int) (f : Nat → Int) : ∀ x ∈ (madeOr d t f).1.pw, x ≠ 0 := by
  unfold madeOr; split
  · exact mkP_nz _ _
  · exact zeroFm_nz
theorem multiplied_nz (F G : Fm) : ∀ x ∈ (multiplied F G).1.pw, x ≠ 0 := by
  unfold multiplied; split
  · exact madeOr_nz _ _ _
  · exact zeroFm_nz
theorem raised_nz (F : Fm) (n : Int) : ∀ x ∈ (raised F n).1.pw, x ≠ 0 := by
  unfold raised; split
  · exact madeOr_nz _ _ _
  · exact zeroFm_nz
theorem bothOf_nz {a b : Fm × Int} (ha : ∀ x ∈ a.1.pw, x ≠ 0) (hb : ∀ x ∈ b.1.pw, x ≠ 0) : (∀ x ∈ (bothOf a b).1.L.pw, x ≠ 0) ∧ ∀ x ∈ (bothOf a b).1.R.pw, x ≠ 0 := by
  unfold bothOf; split
  · split
    · exact ⟨ha, hb⟩
    · exact ⟨zeroFm_nz, zeroFm_nz⟩
  · exact ⟨zeroFm_nz, zeroFm_nz⟩
theorem TimesFormula_nz (E : Eqn) (F : Fm) : (∀ x ∈ (TimesFormula E F).1.L.pw, x ≠ 0) ∧ ∀ x ∈ (TimesFormula E F).1.R.pw, x ≠ 0 := by
  unfold TimesFormula; split
  · exact bothOf_nz (multiplied_nz _ _) (multiplied_nz _ _)
  · exact ⟨zeroFm_nz, zeroFm_nz⟩
end Go.Z
end
section
namespace Go.Z
def stepFm (m t : Int) : Fm := ⟨1000, 0, ⟨#[UInt8.ofNat m.toNat]⟩, [t]⟩
/-- the equation after a step, with the code of what was done -/
def stepEq (E : Eqn) (s : St) : Eqn × Int := if s.kd = 0 then SwapSides E else if s.kd = 1 then TimesFormula E (stepFm s.nm s.pw) else RaiseSides E s.pw
def stepped (E : Eqn) (s : St) : Eqn × Bool := ((stepEq E s).1, (stepEq E s).2 == 0)
theorem step_kinds {d m t : Int} (h : isStep ⟨d, m, t⟩ = true) : d = 0 ∨ d = 1 ∨ d = 2 := by
  unfold isStep at h
  dsimp only at h
  split at h
  · left; assumption
  · split at h
    · right; left; assumption
    · split at h
      · right; right; assumption
      · simp at h
theorem isStep_byte {s : St} (h : isStep s = true) : byteSt s := by
  obtain ⟨d, m, t⟩ := s
  unfold byteSt
  unfold isStep at h
  dsimp only at h ⊢
  split at h
  · simp at h; omega
  · split at h
    · simp at h; omega
    · split at h
      · simp at h; omega
      · simp at h
theorem stepEq_0 (E : Eqn) (m t : Int) : stepEq E ⟨0, m, t⟩ = SwapSides E := rfl
theorem stepEq_1 (E : Eqn) (m t : Int) : stepEq E ⟨1, m, t⟩ = TimesFormula E (stepFm m t) := rfl
theorem stepEq_2 (E : Eqn) (m t : Int) : stepEq E ⟨2, m, t⟩ = RaiseSides E t := rfl
theorem bothOf_ok {a b : Fm × Int} (h : (bothOf a b).2 = 0) (ha : a.2 = 0 → isFormula a.1 = true) (hb : b.2 = 0 → isFormula b.1 = true) : isEquation (bothOf a b).1 = true := by
  unfold bothOf at h ⊢
  split at h
  · rename_i h1
    split at h
    · rename_i h2
      rw [if_pos h1, if_pos h2]
      unfold isEquation; rw [Bool.and_eq_true]; exact ⟨ha h1, hb h2⟩
    · rename_i h2; exact absurd h h2
  · rename_i h1; exact absurd h h1
theorem SwapSides_ok {E : Eqn} (h : (SwapSides E).2 = 0) : isEquation (SwapSides E).1 = true := by
  unfold SwapSides at h ⊢
  split at h
  · rename_i h1
    rw [if_pos h1]
    unfold isEquation at h1 ⊢; rw [Bool.and_comm]; exact h1
  · simp at h
theorem TimesFormula_ok {E : Eqn} {F : Fm} (h : (TimesFormula E F).2 = 0) : isEquation (TimesFormula E F).1 = true := by
  unfold TimesFormula at h ⊢
  split at h
  · rename_i h1
    rw [if_pos h1]
    exact bothOf_ok h multiplied_ok multiplied_ok
  · simp at h
theorem RaiseSides_ok {E : Eqn} {n : Int} (h : (RaiseSides E n).2 = 0) : isEquation (RaiseSides E n).1 = true := by
  unfold RaiseSides at h ⊢
  split at h
  · rename_i h1
    rw [if_pos h1]
    split at h
    · simp at h
    · rename_i h2
      rw [if_neg h2]
      split at h
      · rename_i h3
        rw [if_pos h3]
        exact bothOf_ok h raised_ok raised_ok
      · simp at h
  · simp at h
theorem stepEq_ok {E : Eqn} {s : St} (h : (stepEq E s).2 = 0) : isEquation (stepEq E s).1 = true := by
  unfold stepEq at h ⊢
  split at h
  · rename_i h1; rw [if_pos h1]; exact SwapSides_ok h
  · rename_i h1
    rw [if_neg h1]
    split at h
    · rename_i h2; rw [if_pos h2]; exact TimesFormula_ok h
    · rename_i h2; rw [if_neg h2]; exact RaiseSides_ok h
theorem isEquation_le {E : Eqn} (h : isEquation E = true) : E.L.pw.length ≤ 1048576 ∧ E.L.nm.size ≤ 1048576 ∧ E.R.pw.length ≤ 1048576 ∧ E.R.nm.size ≤ 1048576 := by
  obtain ⟨⟨a, b⟩, c, d⟩ := isEquation_len h
  exact ⟨by omega, by omega, by omega, by omega⟩
/-- the equation after the first k steps -/
def runK (E : Eqn) (l : List St) : Nat → Option Eqn
  | 0 => some E
  | k + 1 => match runK E l k with
    | none => none
    | some A => if (stepEq A (l.getD k zeroSt)).2 = 0 then some (stepEq A (l.getD k zeroSt)).1 else none
theorem runK_ok {E : Eqn} {l : List St} (hE : isEquation E = true) (k : Nat) {A : Eqn} (h : runK E l k = some A) : isEquation A = true := by
  cases k with
  | zero => simp only [runK, Option.some.injEq] at h; rw [← h]; exact hE
  | succ k =>
    simp only [runK] at h
    split at h
    · cases h
    · split at h
      · rename_i h1; simp only [Option.some.injEq] at h; rw [← h]; exact stepEq_ok h1
      · cases h
theorem runK_none {E : Eqn} {l : List St} {k : Nat} (h : runK E l k = none) (n : Nat) : runK E l (k + n) = none := by
  induction n with
  | zero => exact h
  | succ n ih => rw [← Nat.add_assoc]; simp only [runK]; rw [ih]
theorem runK_fail {E : Eqn} {l : List St} {k n : Nat} {A : Eqn} (hk : k < n) (h : runK E l k = some A) (hs : ¬ (stepEq A (l.getD k zeroSt)).2 = 0) : runK E l n = none := by
  have h1 : runK E l (k + 1) = none := by simp only [runK]; rw [h]; simp only [if_neg hs]
  have h2 := runK_none h1 (n - (k + 1))
  rwa [show k + 1 + (n - (k + 1)) = n from by omega] at h2
theorem runK_step {E : Eqn} {l : List St} {k : Nat} {A : Eqn} (h : runK E l k = some A) (hs : (stepEq A (l.getD k zeroSt)).2 = 0) : runK E l (k + 1) = some (stepEq A (l.getD k zeroSt)).1 := by
  simp only [runK]; rw [h]; simp only [if_pos hs]
/-- the end of a run: its equation, or that there is none -/
def ranOr (r : Option Eqn) : Eqn × Int := match r with
  | some A => (A, 0)
  | none => (zeroEqn, 5)
def RunSteps (E : Eqn) (l : List St) : Eqn × Int := if isEquation E then (if stCode l = 0 then ranOr (runK E l l.length) else (zeroEqn, stCode l)) else (zeroEqn, 1)
def ApplyStep (E : Eqn) (s : St) : Eqn × Int := RunSteps E [s]
theorem RunSteps_le (E : Eqn) (l : List St) : (RunSteps E l).1.L.pw.length ≤ 1048576 ∧ (RunSteps E l).1.R.pw.length ≤ 1048576 := by
  unfold RunSteps; split
  · rename_i hE
    split
    · cases hr : runK E l l.length with
      | none => exact ⟨zeroFm_le.1, zeroFm_le.1⟩
      | some A => have := isEquation_le (runK_ok hE _ hr); exact ⟨this.1, this.2.2.1⟩
    · exact ⟨zeroFm_le.1, zeroFm_le.1⟩
  · exact ⟨zeroFm_le.1, zeroFm_le.1⟩
theorem RunSteps_ok {E : Eqn} {l : List St} (h : (RunSteps E l).2 = 0) : isEquation (RunSteps E l).1 = true := by
  unfold RunSteps at h ⊢
  split at h
  · rename_i hE
    rw [if_pos hE]
    split at h
    · rename_i hc
      rw [if_pos hc]
      cases hr : runK E l l.length with
      | none => rw [hr] at h; simp [ranOr] at h
      | some A => exact runK_ok hE _ hr
    · rename_i hc; exact absurd h hc
  · simp at h
theorem ApplyStep_le (E : Eqn) (s : St) : (ApplyStep E s).1.L.pw.length ≤ 1048576 ∧ (ApplyStep E s).1.R.pw.length ≤ 1048576 := RunSteps_le _ _
theorem stCode_one (s : St) : stCode [s] = if isStep s then 0 else 1 := by
  unfold stCode allSt
  simp only [List.all_cons, List.all_nil, Bool.and_true, List.length_singleton]
  cases isStep s <;> simp
theorem ApplyStep_eq (E : Eqn) (s : St) : ApplyStep E s = if isEquation E && isStep s then (if (stepEq E s).2 = 0 then ((stepEq E s).1, 0) else (zeroEqn, 5)) else (zeroEqn, 1) := by
  unfold ApplyStep RunSteps
  rw [stCode_one]
  cases isEquation E
  · rfl
  · cases isStep s
    · rfl
    · simp only [if_true, List.length_singleton, runK, List.getD_cons_zero, Bool.and_self]
      split <;> rfl
end Go.Z
end
section
namespace Go.K
open Go.RowKit
theorem own_at {w : World} {lo hi n c : Nat} {o : Option Addr} {xs : List Int} (h : K.own w lo hi (.slice o n c) xs) (h0 : 0 < xs.length) : ∃ b off, o = some ⟨b, off, none⟩ ∧ lo ≤ b ∧ b < hi ∧ (∀ i, i < xs.length → w.cell? ⟨b, off + i, none⟩ = some (.int .i64 (xs.getD i 0))) ∧ (∀ i, i < xs.length → w.frozen? ⟨b, off + i, none⟩ = false) := by
  obtain ⟨o', c', hv, hh⟩ := h
  simp only [Value.slice.injEq] at hv
  obtain ⟨rfl, _, _⟩ := hv
  exact hh (by intro h; rw [h] at h0; simp at h0)
theorem ints_at {w : World} {lo hi n c : Nat} {o : Option Addr} {xs : List Int} (h : K.ints w lo hi (.slice o n c) xs) (h0 : 0 < xs.length) : ∃ b off, o = some ⟨b, off, none⟩ ∧ lo ≤ b ∧ b < hi ∧ (∀ i, i < xs.length → w.cell? ⟨b, off + i, none⟩ = some (.int .i64 (xs.getD i 0))) := by
  obtain ⟨o', c', hv, hh⟩ := h
  simp only [Value.slice.injEq] at hv
  obtain ⟨rfl, _, _⟩ := hv
  exact hh (by intro h; rw [h] at h0; simp at h0)
theorem own_setAt {w : World} {lo hi b off n cap k : Nat} {x : Int} {xs : List Int} (hk : k < xs.length) (h : K.own w lo hi (.slice (some ⟨b, off, none⟩) n cap) xs) :
    K.own (w.setCell ⟨b, off + k, none⟩ (.int .i64 x)) lo hi (.slice (some ⟨b, off, none⟩) n cap) (xs.set k x) := by
  obtain ⟨o, cap', hv, hc⟩ := h
  simp only [Value.slice.injEq] at hv
  obtain ⟨rfl, rfl, rfl⟩ := hv
  obtain ⟨b', off', he, h1, h2, h3, h4⟩ := hc (by intro h0; simp [h0] at hk)
  simp only [Option.some.injEq, Addr.mk.injEq, and_true] at he
  obtain ⟨rfl, rfl⟩ := he
  exact ⟨some ⟨b, off, none⟩, cap, by simp, fun _ => ⟨b, off, rfl, h1, h2, fun i hi => row_set rfl hk h3 i (by simpa using hi), fun i hi => by rw [World.frozen?_setCell]; exact h4 i (by simpa using hi)⟩⟩
end Go.K
namespace Go.Z
theorem MultiplyFormulas_ok {F G : Fm} (hF : isFormula F = true) (hG : isFormula G = true) : MultiplyFormulas F G = multiplied F G := by unfold MultiplyFormulas; rw [hF, hG]; rfl
/-- the sums, of the first k letters -/
def sumK (F G : Fm) (k : Nat) : List Int := (List.range 26).map (fun i => if i < k then sumF F G i else expo (bs F.nm) F.pw (97 + (i : Int)))
theorem sumK_length (F G : Fm) (k : Nat) : (sumK F G k).length = 26 := by simp [sumK]
theorem sumK_zero (F G : Fm) : sumK F G 0 = allOf F := by simp [sumK, allOf]
theorem sumK_get (F G : Fm) (k i : Nat) (h : i < 26) : (sumK F G k).getD i 0 = if i < k then sumF F G i else expo (bs F.nm) F.pw (97 + (i : Int)) := by simp [sumK, List.getD_eq_getElem?_getD, h]
theorem sumK_succ (F G : Fm) (k : Nat) (hk : k < 26) : sumK F G (k + 1) = (sumK F G k).set k (sumF F G k) := by
  apply List.ext_getElem
  · simp [sumK]
  · intro i hi hi'
    rw [List.getElem_set]
    simp only [sumK, List.getElem_map, List.getElem_range]
    by_cases h : k = i
    · subst h; simp
    · rw [if_neg h]
      by_cases h2 : i < k
      · rw [if_pos h2, if_pos (by omega)]
      · rw [if_neg h2, if_neg (by omega)]
theorem sumK_made (F G : Fm) (d t : Int) : made d t (fun i => (sumK F G 26).getD i 0) 26 = made d t (sumF F G) 26 := by
  apply made_congr
  intro i hi
  show (sumK F G 26).getD i 0 = _
  rw [sumK_get F G 26 i hi, if_pos hi]
end Go.Z
namespace Go.Proofs.Ythmnlbgbacbocaa
open Go.RowKit
set_option maxHeartbeats 6400000 in
theorem spec_MultiplyFormulas (F G : Z.Fm) {lo hi lo' hi' : Nat} {p q : Value} (w : World) (hm : F.pw.length ≤ 1048576) (hn : F.nm.size ≤ 1048576) (h : K.ints w lo hi p F.pw) (hm' : G.pw.length ≤ 1048576) (hn' : G.nm.size ≤ 1048576) (h' : K.ints w lo' hi' q G.pw) :
    Calls Try.prog 25 #[.agg #[.int .i64 F.dg, .int .i64 F.tn, .string F.nm, p], .agg #[.int .i64 G.dg, .int .i64 G.tn, .string G.nm, q]] w fun e w' => (∃ p', e = .returned (.tuple #[.agg #[.int .i64 ((Z.MultiplyFormulas F G).1).dg, .int .i64 ((Z.MultiplyFormulas F G).1).tn, .string ((Z.MultiplyFormulas F G).1).nm, p'], .int .i64 (Z.MultiplyFormulas F G).2]) ∧ K.ints w' w.heap.size w'.heap.size p' (Z.MultiplyFormulas F G).1.pw) ∧ K.Ext w w' := by
  have g1 := h
  obtain ⟨o, cap, rfl, _⟩ := g1
  have g2 := h'
  obtain ⟨o', cap', rfl, _⟩ := g2
  cases hF : Z.isFormula F
  · have HE : Hid (Z.MultiplyFormulas F G = (Z.zeroFm, 1)) := Z.hide (by unfold Z.MultiplyFormulas; rw [hF]; rfl)
    go_enter Try.func25, Try.ntmps25
    go_wp2_with ((go_at_call 91; refine K.call (by with_reducible rfl) (by with_reducible rfl) (spec_IsFormula F _ hm hn (h.ext (by repeat' (first | with_reducible exact K.Ext.refl _ | with_reducible assumption | with_reducible refine K.Ext.drew ?_ | with_reducible refine K.Ext.alloc ?_ _ | with_reducible refine K.Ext.setCell ?_ ?_ _ | with_reducible refine K.Ext.trans ?_ (by with_reducible assumption) | (dsimp only; omega) | omega | exact K.Ext.refl _ | assumption | apply K.Ext.drew | refine K.Ext.alloc ?_ _ | refine K.Ext.setCell ?_ ?_ _ | (simp; done) | (simp; omega) | refine K.Ext.trans ?_ (by assumption))))) ?_; rintro e w1 ⟨rfl, hw1⟩; obtain ⟨hcw1, hfw1⟩ := hw1.facts); have c_w1_0_0 : w1.cell? ⟨w.heap.size, 0, none⟩ = some (.int .i64 (F.dg)) := hw1.cell_of (by go_simp); have f_w1_0_0 : w1.frozen? ⟨w.heap.size, 0, none⟩ = false := hw1.thaw_of (by go_simp) (by go_simp); have c_w1_0_1 : w1.cell? ⟨w.heap.size, 1, none⟩ = some (.int .i64 (F.tn)) := hw1.cell_of (by go_simp); have f_w1_0_1 : w1.frozen? ⟨w.heap.size, 1, none⟩ = false := hw1.thaw_of (by go_simp) (by go_simp); have c_w1_0_2 : w1.cell? ⟨w.heap.size, 2, none⟩ = some (.string F.nm) := hw1.cell_of (by go_simp); have f_w1_0_2 : w1.frozen? ⟨w.heap.size, 2, none⟩ = false := hw1.thaw_of (by go_simp) (by go_simp); have c_w1_0_3 : w1.cell? ⟨w.heap.size, 3, none⟩ = some (.slice o F.pw.length cap) := hw1.cell_of (by go_simp); have f_w1_0_3 : w1.frozen? ⟨w.heap.size, 3, none⟩ = false := hw1.thaw_of (by go_simp) (by go_simp); have c_w1_1_0 : w1.cell? ⟨w.heap.size + 1, 0, none⟩ = some (.int .i64 (G.dg)) := hw1.cell_of (by go_simp); have f_w1_1_0 : w1.frozen? ⟨w.heap.size + 1, 0, none⟩ = false := hw1.thaw_of (by go_simp) (by go_simp); have c_w1_1_1 : w1.cell? ⟨w.heap.size + 1, 1, none⟩ = some (.int .i64 (G.tn)) := hw1.cell_of (by go_simp); have f_w1_1_1 : w1.frozen? ⟨w.heap.size + 1, 1, none⟩ = false := hw1.thaw_of (by go_simp) (by go_simp); have c_w1_1_2 : w1.cell? ⟨w.heap.size + 1, 2, none⟩ = some (.string G.nm) := hw1.cell_of (by go_simp); have f_w1_1_2 : w1.frozen? ⟨w.heap.size + 1, 2, none⟩ = false := hw1.thaw_of (by go_simp) (by go_simp); have c_w1_1_3 : w1.cell? ⟨w.heap.size + 1, 3, none⟩ = some (.slice o' G.pw.length cap') := hw1.cell_of (by go_simp); have f_w1_1_3 : w1.frozen? ⟨w.heap.size + 1, 3, none⟩ = false := hw1.thaw_of (by go_simp) (by go_simp); have c_w1_2_0 : w1.cell? ⟨w.heap.size + 1 + 1, 0, none⟩ = some (.int .i64 (0)) := hw1.cell_of (by go_simp); have f_w1_2_0 : w1.frozen? ⟨w.heap.size + 1 + 1, 0, none⟩ = false := hw1.thaw_of (by go_simp) (by go_simp); have c_w1_2_1 : w1.cell? ⟨w.heap.size + 1 + 1, 1, none⟩ = some (.int .i64 (0)) := hw1.cell_of (by go_simp); have f_w1_2_1 : w1.frozen? ⟨w.heap.size + 1 + 1, 1, none⟩ = false := hw1.thaw_of (by go_simp) (by go_simp); have c_w1_2_2 : w1.cell? ⟨w.heap.size + 1 + 1, 2, none⟩ = some (.string ⟨#[]⟩) := hw1.cell_of (by go_simp); have f_w1_2_2 : w1.frozen? ⟨w.heap.size + 1 + 1, 2, none⟩ = false := hw1.thaw_of (by go_simp) (by go_simp); have c_w1_2_3 : w1.cell? ⟨w.heap.size + 1 + 1, 3, none⟩ = some (.slice none 0 0) := hw1.cell_of (by go_simp); have f_w1_2_3 : w1.frozen? ⟨w.heap.size + 1 + 1, 3, none⟩ = false := hw1.thaw_of (by go_simp) (by go_simp))
    rw [HE.out]
    refine bodyPost_ret (v := .tuple #[.agg #[.int .i64 0, .int .i64 0, .string ⟨#[]⟩, .slice none 0 0], .int .i64 1]) (by unfold results; rw [Try.results25]; go_simp) rfl ⟨⟨_, rfl, K.ints_nil _ _ _⟩, ?_⟩
    repeat with_reducible refine K.Ext.setCell ?_ (by dsimp only; omega) _
    exact (by repeat' (first | with_reducible exact K.Ext.refl _ | with_reducible assumption | with_reducible refine K.Ext.drew ?_ | with_reducible refine K.Ext.alloc ?_ _ | with_reducible refine K.Ext.setCell ?_ ?_ _ | with_reducible refine K.Ext.trans ?_ (by with_reducible assumption) | (dsimp only; omega) | omega | exact K.Ext.refl _ | assumption | apply K.Ext.drew | refine K.Ext.alloc ?_ _ | refine K.Ext.setCell ?_ ?_ _ | (simp; done) | (simp; omega) | refine K.Ext.trans ?_ (by assumption)))
  · cases hG : Z.isFormula G
    · have HE : Hid (Z.MultiplyFormulas F G = (Z.zeroFm, 1)) := Z.hide (by unfold Z.MultiplyFormulas; rw [hF, hG]; rfl)
      go_enter Try.func25, Try.ntmps25
      go_wp2_with (first | ((go_at_call 91; refine K.call (by with_reducible rfl) (by with_reducible rfl) (spec_IsFormula F _ hm hn (h.ext (by repeat' (first | with_reducible exact K.Ext.refl _ | with_reducible assumption | with_reducible refine K.Ext.drew ?_ | with_reducible refine K.Ext.alloc ?_ _ | with_reducible refine K.Ext.setCell ?_ ?_ _ | with_reducible refine K.Ext.trans ?_ (by with_reducible assumption) | (dsimp only; omega) | omega | exact K.Ext.refl _ | assumption | apply K.Ext.drew | refine K.Ext.alloc ?_ _ | refine K.Ext.setCell ?_ ?_ _ | (simp; done) | (simp; omega) | refine K.Ext.trans ?_ (by assumption))))) ?_; rintro e w1 ⟨rfl, hw1⟩; obtain ⟨hcw1, hfw1⟩ := hw1.facts); have c_w1_0_0 : w1.cell? ⟨w.heap.size, 0, none⟩ = some (.int .i64 (F.dg)) := hw1.cell_of (by go_simp); have f_w1_0_0 : w1.frozen? ⟨w.heap.size, 0, none⟩ = false := hw1.thaw_of (by go_simp) (by go_simp); have c_w1_0_1 : w1.cell? ⟨w.heap.size, 1, none⟩ = some (.int .i64 (F.tn)) := hw1.cell_of (by go_simp); have f_w1_0_1 : w1.frozen? ⟨w.heap.size, 1, none⟩ = false := hw1.thaw_of (by go_simp) (by go_simp); have c_w1_0_2 : w1.cell? ⟨w.heap.size, 2, none⟩ = some (.string F.nm) := hw1.cell_of (by go_simp); have f_w1_0_2 : w1.frozen? ⟨w.heap.size, 2, none⟩ = false := hw1.thaw_of (by go_simp) (by go_simp); have c_w1_0_3 : w1.cell? ⟨w.heap.size, 3, none⟩ = some (.slice o F.pw.length cap) := hw1.cell_of (by go_simp); have f_w1_0_3 : w1.frozen? ⟨w.heap.size, 3, none⟩ = false := hw1.thaw_of (by go_simp) (by go_simp); have c_w1_1_0 : w1.cell? ⟨w.heap.size + 1, 0, none⟩ = some (.int .i64 (G.dg)) := hw1.cell_of (by go_simp); have f_w1_1_0 : w1.frozen? ⟨w.heap.size + 1, 0, none⟩ = false := hw1.thaw_of (by go_simp) (by go_simp); have c_w1_1_1 : w1.cell? ⟨w.heap.size + 1, 1, none⟩ = some (.int .i64 (G.tn)) := hw1.cell_of (by go_simp); have f_w1_1_1 : w1.frozen? ⟨w.heap.size + 1, 1, none⟩ = false := hw1.thaw_of (by go_simp) (by go_simp); have c_w1_1_2 : w1.cell? ⟨w.heap.size + 1, 2, none⟩ = some (.string G.nm) := hw1.cell_of (by go_simp); have f_w1_1_2 : w1.frozen? ⟨w.heap.size + 1, 2, none⟩ = false := hw1.thaw_of (by go_simp) (by go_simp); have c_w1_1_3 : w1.cell? ⟨w.heap.size + 1, 3, none⟩ = some (.slice o' G.pw.length cap') := hw1.cell_of (by go_simp); have f_w1_1_3 : w1.frozen? ⟨w.heap.size + 1, 3, none⟩ = false := hw1.thaw_of (by go_simp) (by go_simp); have c_w1_2_0 : w1.cell? ⟨w.heap.size + 1 + 1, 0, none⟩ = some (.int .i64 (0)) := hw1.cell_of (by go_simp); have f_w1_2_0 : w1.frozen? ⟨w.heap.size + 1 + 1, 0, none⟩ = false := hw1.thaw_of (by go_simp) (by go_simp); have c_w1_2_1 : w1.cell? ⟨w.heap.size + 1 + 1, 1, none⟩ = some (.int .i64 (0)) := hw1.cell_of (by go_simp); have f_w1_2_1 : w1.frozen? ⟨w.heap.size + 1 + 1, 1, none⟩ = false := hw1.thaw_of (by go_simp) (by go_simp); have c_w1_2_2 : w1.cell? ⟨w.heap.size + 1 + 1, 2, none⟩ = some (.string ⟨#[]⟩) := hw1.cell_of (by go_simp); have f_w1_2_2 : w1.frozen? ⟨w.heap.size + 1 + 1, 2, none⟩ = false := hw1.thaw_of (by go_simp) (by go_simp); have c_w1_2_3 : w1.cell? ⟨w.heap.size + 1 + 1, 3, none⟩ = some (.slice none 0 0) := hw1.cell_of (by go_simp); have f_w1_2_3 : w1.frozen? ⟨w.heap.size + 1 + 1, 3, none⟩ = false := hw1.thaw_of (by go_simp) (by go_simp)) | ((go_at_call 91; refine K.call (by with_reducible rfl) (by with_reducible rfl) (spec_IsFormula G _ hm' hn' (h'.ext (by repeat' (first | with_reducible exact K.Ext.refl _ | with_reducible assumption | with_reducible refine K.Ext.drew ?_ | with_reducible refine K.Ext.alloc ?_ _ | with_reducible refine K.Ext.setCell ?_ ?_ _ | with_reducible refine K.Ext.trans ?_ (by with_reducible assumption) | (dsimp only; omega) | omega | exact K.Ext.refl _ | assumption | apply K.Ext.drew | refine K.Ext.alloc ?_ _ | refine K.Ext.setCell ?_ ?_ _ | (simp; done) | (simp; omega) | refine K.Ext.trans ?_ (by assumption))))) ?_; rintro e w2 ⟨rfl, hw2⟩; obtain ⟨hcw2, hfw2⟩ := hw2.facts); have c_w2_0_0 : w2.cell? ⟨w.heap.size, 0, none⟩ = some (.int .i64 (F.dg)) := hw2.cell_of (by go_simp); have f_w2_0_0 : w2.frozen? ⟨w.heap.size, 0, none⟩ = false := hw2.thaw_of (by go_simp) (by go_simp); have c_w2_0_1 : w2.cell? ⟨w.heap.size, 1, none⟩ = some (.int .i64 (F.tn)) := hw2.cell_of (by go_simp); have f_w2_0_1 : w2.frozen? ⟨w.heap.size, 1, none⟩ = false := hw2.thaw_of (by go_simp) (by go_simp); have c_w2_0_2 : w2.cell? ⟨w.heap.size, 2, none⟩ = some (.string F.nm) := hw2.cell_of (by go_simp); have f_w2_0_2 : w2.frozen? ⟨w.heap.size, 2, none⟩ = false := hw2.thaw_of (by go_simp) (by go_simp); have c_w2_0_3 : w2.cell? ⟨w.heap.size, 3, none⟩ = some (.slice o F.pw.length cap) := hw2.cell_of (by go_simp); have f_w2_0_3 : w2.frozen? ⟨w.heap.size, 3, none⟩ = false := hw2.thaw_of (by go_simp) (by go_simp); have c_w2_1_0 : w2.cell? ⟨w.heap.size + 1, 0, none⟩ = some (.int .i64 (G.dg)) := hw2.cell_of (by go_simp); have f_w2_1_0 : w2.frozen? ⟨w.heap.size + 1, 0, none⟩ = false := hw2.thaw_of (by go_simp) (by go_simp); have c_w2_1_1 : w2.cell? ⟨w.heap.size + 1, 1, none⟩ = some (.int .i64 (G.tn)) := hw2.cell_of (by go_simp); have f_w2_1_1 : w2.frozen? ⟨w.heap.size + 1, 1, none⟩ = false := hw2.thaw_of (by go_simp) (by go_simp); have c_w2_1_2 : w2.cell? ⟨w.heap.size + 1, 2, none⟩ = some (.string G.nm) := hw2.cell_of (by go_simp); have f_w2_1_2 : w2.frozen? ⟨w.heap.size + 1, 2, none⟩ = false := hw2.thaw_of (by go_simp) (by go_simp); have c_w2_1_3 : w2.cell? ⟨w.heap.size + 1, 3, none⟩ = some (.slice o' G.pw.length cap') := hw2.cell_of (by go_simp); have f_w2_1_3 : w2.frozen? ⟨w.heap.size + 1, 3, none⟩ = false := hw2.thaw_of (by go_simp) (by go_simp); have c_w2_2_0 : w2.cell? ⟨w.heap.size + 1 + 1, 0, none⟩ = some (.int .i64 (0)) := hw2.cell_of (by go_simp); have f_w2_2_0 : w2.frozen? ⟨w.heap.size + 1 + 1, 0, none⟩ = false := hw2.thaw_of (by go_simp) (by go_simp); have c_w2_2_1 : w2.cell? ⟨w.heap.size + 1 + 1, 1, none⟩ = some (.int .i64 (0)) := hw2.cell_of (by go_simp); have f_w2_2_1 : w2.frozen? ⟨w.heap.size + 1 + 1, 1, none⟩ = false := hw2.thaw_of (by go_simp) (by go_simp); have c_w2_2_2 : w2.cell? ⟨w.heap.size + 1 + 1, 2, none⟩ = some (.string ⟨#[]⟩) := hw2.cell_of (by go_simp); have f_w2_2_2 : w2.frozen? ⟨w.heap.size + 1 + 1, 2, none⟩ = false := hw2.thaw_of (by go_simp) (by go_simp); have c_w2_2_3 : w2.cell? ⟨w.heap.size + 1 + 1, 3, none⟩ = some (.slice none 0 0) := hw2.cell_of (by go_simp); have f_w2_2_3 : w2.frozen? ⟨w.heap.size + 1 + 1, 3, none⟩ = false := hw2.thaw_of (by go_simp) (by go_simp)))
      rw [HE.out]
      refine bodyPost_ret (v := .tuple #[.agg #[.int .i64 0, .int .i64 0, .string ⟨#[]⟩, .slice none 0 0], .int .i64 1]) (by unfold results; rw [Try.results25]; go_simp) rfl ⟨⟨_, rfl, K.ints_nil _ _ _⟩, ?_⟩
      repeat with_reducible refine K.Ext.setCell ?_ (by dsimp only; omega) _
      exact (by repeat' (first | with_reducible exact K.Ext.refl _ | with_reducible assumption | with_reducible refine K.Ext.drew ?_ | with_reducible refine K.Ext.alloc ?_ _ | with_reducible refine K.Ext.setCell ?_ ?_ _ | with_reducible refine K.Ext.trans ?_ (by with_reducible assumption) | (dsimp only; omega) | omega | exact K.Ext.refl _ | assumption | apply K.Ext.drew | refine K.Ext.alloc ?_ _ | refine K.Ext.setCell ?_ ?_ _ | (simp; done) | (simp; omega) | refine K.Ext.trans ?_ (by assumption)))
    · obtain ⟨r, hr⟩ : ∃ r, r = Z.MultiplyFigures (F.dg, F.tn) (G.dg, G.tn) := ⟨_, rfl⟩
      have HM : ∀ w' : World, Calls Try.prog 101 #[.agg #[.int .i64 F.dg, .int .i64 F.tn], .agg #[.int .i64 G.dg, .int .i64 G.tn]] w' fun e w'' => e = .returned (.tuple #[.agg #[.int .i64 r.1.1, .int .i64 r.1.2], .int .i64 r.2]) ∧ K.Ext w' w'' := fun w' => by rw [hr]; exact spec_MultiplyFigures (F.dg, F.tn) (G.dg, G.tn) w'
      have HF := Z.hide hF
      have HG := Z.hide hG
      by_cases hz : r.2 = 0
      · have HE : Hid (Z.MultiplyFormulas F G = Z.fmOr (Z.made r.1.1 r.1.2 (Z.sumF F G) 26)) := Z.hide (by rw [Z.MultiplyFormulas_ok hF hG]; unfold Z.multiplied; rw [← hr, if_pos hz]; rfl)
        clear hr
        go_enter Try.func25, Try.ntmps25
        go_wp2_with (first | ((go_at_call 91; refine K.call (by with_reducible rfl) (by with_reducible rfl) (spec_IsFormula F _ hm hn (h.ext (by repeat' (first | with_reducible exact K.Ext.refl _ | with_reducible assumption | with_reducible refine K.Ext.drew ?_ | with_reducible refine K.Ext.alloc ?_ _ | with_reducible refine K.Ext.setCell ?_ ?_ _ | with_reducible refine K.Ext.trans ?_ (by with_reducible assumption) | (dsimp only; omega) | omega | exact K.Ext.refl _ | assumption | apply K.Ext.drew | refine K.Ext.alloc ?_ _ | refine K.Ext.setCell ?_ ?_ _ | (simp; done) | (simp; omega) | refine K.Ext.trans ?_ (by assumption))))) ?_; rintro e w1 ⟨rfl, hw1⟩; obtain ⟨hcw1, hfw1⟩ := hw1.facts); have c_w1_0_0 : w1.cell? ⟨w.heap.size, 0, none⟩ = some (.int .i64 (F.dg)) := hw1.cell_of (by go_simp); have f_w1_0_0 : w1.frozen? ⟨w.heap.size, 0, none⟩ = false := hw1.thaw_of (by go_simp) (by go_simp); have c_w1_0_1 : w1.cell? ⟨w.heap.size, 1, none⟩ = some (.int .i64 (F.tn)) := hw1.cell_of (by go_simp); have f_w1_0_1 : w1.frozen? ⟨w.heap.size, 1, none⟩ = false := hw1.thaw_of (by go_simp) (by go_simp); have c_w1_0_2 : w1.cell? ⟨w.heap.size, 2, none⟩ = some (.string F.nm) := hw1.cell_of (by go_simp); have f_w1_0_2 : w1.frozen? ⟨w.heap.size, 2, none⟩ = false := hw1.thaw_of (by go_simp) (by go_simp); have c_w1_0_3 : w1.cell? ⟨w.heap.size, 3, none⟩ = some (.slice o F.pw.length cap) := hw1.cell_of (by go_simp); have f_w1_0_3 : w1.frozen? ⟨w.heap.size, 3, none⟩ = false := hw1.thaw_of (by go_simp) (by go_simp); have c_w1_1_0 : w1.cell? ⟨w.heap.size + 1, 0, none⟩ = some (.int .i64 (G.dg)) := hw1.cell_of (by go_simp); have f_w1_1_0 : w1.frozen? ⟨w.heap.size + 1, 0, none⟩ = false := hw1.thaw_of (by go_simp) (by go_simp); have c_w1_1_1 : w1.cell? ⟨w.heap.size + 1, 1, none⟩ = some (.int .i64 (G.tn)) := hw1.cell_of (by go_simp); have f_w1_1_1 : w1.frozen? ⟨w.heap.size + 1, 1, none⟩ = false := hw1.thaw_of (by go_simp) (by go_simp); have c_w1_1_2 : w1.cell? ⟨w.heap.size + 1, 2, none⟩ = some (.string G.nm) := hw1.cell_of (by go_simp); have f_w1_1_2 : w1.frozen? ⟨w.heap.size + 1, 2, none⟩ = false := hw1.thaw_of (by go_simp) (by go_simp); have c_w1_1_3 : w1.cell? ⟨w.heap.size + 1, 3, none⟩ = some (.slice o' G.pw.length cap') := hw1.cell_of (by go_simp); have f_w1_1_3 : w1.frozen? ⟨w.heap.size + 1, 3, none⟩ = false := hw1.thaw_of (by go_simp) (by go_simp); have c_w1_2_0 : w1.cell? ⟨w.heap.size + 1 + 1, 0, none⟩ = some (.int .i64 (0)) := hw1.cell_of (by go_simp); have f_w1_2_0 : w1.frozen? ⟨w.heap.size + 1 + 1, 0, none⟩ = false := hw1.thaw_of (by go_simp) (by go_simp); have c_w1_2_1 : w1.cell? ⟨w.heap.size + 1 + 1, 1, none⟩ = some (.int .i64 (0)) := hw1.cell_of (by go_simp); have f_w1_2_1 : w1.frozen? ⟨w.heap.size + 1 + 1, 1, none⟩ = false := hw1.thaw_of (by go_simp) (by go_simp); have c_w1_2_2 : w1.cell? ⟨w.heap.size + 1 + 1, 2, none⟩ = some (.string ⟨#[]⟩) := hw1.cell_of (by go_simp); have f_w1_2_2 : w1.frozen? ⟨w.heap.size + 1 + 1, 2, none⟩ = false := hw1.thaw_of (by go_simp) (by go_simp); have c_w1_2_3 : w1.cell? ⟨w.heap.size + 1 + 1, 3, none⟩ = some (.slice none 0 0) := hw1.cell_of (by go_simp); have f_w1_2_3 : w1.frozen? ⟨w.heap.size + 1 + 1, 3, none⟩ = false := hw1.thaw_of (by go_simp) (by go_simp)) | ((go_at_call 91; refine K.call (by with_reducible rfl) (by with_reducible rfl) (spec_IsFormula G _ hm' hn' (h'.ext (by repeat' (first | with_reducible exact K.Ext.refl _ | with_reducible assumption | with_reducible refine K.Ext.drew ?_ | with_reducible refine K.Ext.alloc ?_ _ | with_reducible refine K.Ext.setCell ?_ ?_ _ | with_reducible refine K.Ext.trans ?_ (by with_reducible assumption) | (dsimp only; omega) | omega | exact K.Ext.refl _ | assumption | apply K.Ext.drew | refine K.Ext.alloc ?_ _ | refine K.Ext.setCell ?_ ?_ _ | (simp; done) | (simp; omega) | refine K.Ext.trans ?_ (by assumption))))) ?_; rintro e w2 ⟨rfl, hw2⟩; obtain ⟨hcw2, hfw2⟩ := hw2.facts); have c_w2_0_0 : w2.cell? ⟨w.heap.size, 0, none⟩ = some (.int .i64 (F.dg)) := hw2.cell_of (by go_simp); have f_w2_0_0 : w2.frozen? ⟨w.heap.size, 0, none⟩ = false := hw2.thaw_of (by go_simp) (by go_simp); have c_w2_0_1 : w2.cell? ⟨w.heap.size, 1, none⟩ = some (.int .i64 (F.tn)) := hw2.cell_of (by go_simp); have f_w2_0_1 : w2.frozen? ⟨w.heap.size, 1, none⟩ = false := hw2.thaw_of (by go_simp) (by go_simp); have c_w2_0_2 : w2.cell? ⟨w.heap.size, 2, none⟩ = some (.string F.nm) := hw2.cell_of (by go_simp); have f_w2_0_2 : w2.frozen? ⟨w.heap.size, 2, none⟩ = false := hw2.thaw_of (by go_simp) (by go_simp); have c_w2_0_3 : w2.cell? ⟨w.heap.size, 3, none⟩ = some (.slice o F.pw.length cap) := hw2.cell_of (by go_simp); have f_w2_0_3 : w2.frozen? ⟨w.heap.size, 3, none⟩ = false := hw2.thaw_of (by go_simp) (by go_simp); have c_w2_1_0 : w2.cell? ⟨w.heap.size + 1, 0, none⟩ = some (.int .i64 (G.dg)) := hw2.cell_of (by go_simp); have f_w2_1_0 : w2.frozen? ⟨w.heap.size + 1, 0, none⟩ = false := hw2.thaw_of (by go_simp) (by go_simp); have c_w2_1_1 : w2.cell? ⟨w.heap.size + 1, 1, none⟩ = some (.int .i64 (G.tn)) := hw2.cell_of (by go_simp); have f_w2_1_1 : w2.frozen? ⟨w.heap.size + 1, 1, none⟩ = false := hw2.thaw_of (by go_simp) (by go_simp); have c_w2_1_2 : w2.cell? ⟨w.heap.size + 1, 2, none⟩ = some (.string G.nm) := hw2.cell_of (by go_simp); have f_w2_1_2 : w2.frozen? ⟨w.heap.size + 1, 2, none⟩ = false := hw2.thaw_of (by go_simp) (by go_simp); have c_w2_1_3 : w2.cell? ⟨w.heap.size + 1, 3, none⟩ = some (.slice o' G.pw.length cap') := hw2.cell_of (by go_simp); have f_w2_1_3 : w2.frozen? ⟨w.heap.size + 1, 3, none⟩ = false := hw2.thaw_of (by go_simp) (by go_simp); have c_w2_2_0 : w2.cell? ⟨w.heap.size + 1 + 1, 0, none⟩ = some (.int .i64 (0)) := hw2.cell_of (by go_simp); have f_w2_2_0 : w2.frozen? ⟨w.heap.size + 1 + 1, 0, none⟩ = false := hw2.thaw_of (by go_simp) (by go_simp); have c_w2_2_1 : w2.cell? ⟨w.heap.size + 1 + 1, 1, none⟩ = some (.int .i64 (0)) := hw2.cell_of (by go_simp); have f_w2_2_1 : w2.frozen? ⟨w.heap.size + 1 + 1, 1, none⟩ = false := hw2.thaw_of (by go_simp) (by go_simp); have c_w2_2_2 : w2.cell? ⟨w.heap.size + 1 + 1, 2, none⟩ = some (.string ⟨#[]⟩) := hw2.cell_of (by go_simp); have f_w2_2_2 : w2.frozen? ⟨w.heap.size + 1 + 1, 2, none⟩ = false := hw2.thaw_of (by go_simp) (by go_simp); have c_w2_2_3 : w2.cell? ⟨w.heap.size + 1 + 1, 3, none⟩ = some (.slice none 0 0) := hw2.cell_of (by go_simp); have f_w2_2_3 : w2.frozen? ⟨w.heap.size + 1 + 1, 3, none⟩ = false := hw2.thaw_of (by go_simp) (by go_simp)) | ((go_at_call 101; refine K.call (by with_reducible rfl) (by with_reducible rfl) (HM _) ?_; rintro e w3 ⟨rfl, hw3⟩; obtain ⟨hcw3, hfw3⟩ := hw3.facts); have c_w3_0_0 : w3.cell? ⟨w.heap.size, 0, none⟩ = some (.int .i64 (F.dg)) := hw3.cell_of (by go_simp); have f_w3_0_0 : w3.frozen? ⟨w.heap.size, 0, none⟩ = false := hw3.thaw_of (by go_simp) (by go_simp); have c_w3_0_1 : w3.cell? ⟨w.heap.size, 1, none⟩ = some (.int .i64 (F.tn)) := hw3.cell_of (by go_simp); have f_w3_0_1 : w3.frozen? ⟨w.heap.size, 1, none⟩ = false := hw3.thaw_of (by go_simp) (by go_simp); have c_w3_0_2 : w3.cell? ⟨w.heap.size, 2, none⟩ = some (.string F.nm) := hw3.cell_of (by go_simp); have f_w3_0_2 : w3.frozen? ⟨w.heap.size, 2, none⟩ = false := hw3.thaw_of (by go_simp) (by go_simp); have c_w3_0_3 : w3.cell? ⟨w.heap.size, 3, none⟩ = some (.slice o F.pw.length cap) := hw3.cell_of (by go_simp); have f_w3_0_3 : w3.frozen? ⟨w.heap.size, 3, none⟩ = false := hw3.thaw_of (by go_simp) (by go_simp); have c_w3_1_0 : w3.cell? ⟨w.heap.size + 1, 0, none⟩ = some (.int .i64 (G.dg)) := hw3.cell_of (by go_simp); have f_w3_1_0 : w3.frozen? ⟨w.heap.size + 1, 0, none⟩ = false := hw3.thaw_of (by go_simp) (by go_simp); have c_w3_1_1 : w3.cell? ⟨w.heap.size + 1, 1, none⟩ = some (.int .i64 (G.tn)) := hw3.cell_of (by go_simp); have f_w3_1_1 : w3.frozen? ⟨w.heap.size + 1, 1, none⟩ = false := hw3.thaw_of (by go_simp) (by go_simp); have c_w3_1_2 : w3.cell? ⟨w.heap.size + 1, 2, none⟩ = some (.string G.nm) := hw3.cell_of (by go_simp); have f_w3_1_2 : w3.frozen? ⟨w.heap.size + 1, 2, none⟩ = false := hw3.thaw_of (by go_simp) (by go_simp); have c_w3_1_3 : w3.cell? ⟨w.heap.size + 1, 3, none⟩ = some (.slice o' G.pw.length cap') := hw3.cell_of (by go_simp); have f_w3_1_3 : w3.frozen? ⟨w.heap.size + 1, 3, none⟩ = false := hw3.thaw_of (by go_simp) (by go_simp); have c_w3_2_0 : w3.cell? ⟨w.heap.size + 1 + 1, 0, none⟩ = some (.int .i64 (0)) := hw3.cell_of (by go_simp); have f_w3_2_0 : w3.frozen? ⟨w.heap.size + 1 + 1, 0, none⟩ = false := hw3.thaw_of (by go_simp) (by go_simp); have c_w3_2_1 : w3.cell? ⟨w.heap.size + 1 + 1, 1, none⟩ = some (.int .i64 (0)) := hw3.cell_of (by go_simp); have f_w3_2_1 : w3.frozen? ⟨w.heap.size + 1 + 1, 1, none⟩ = false := hw3.thaw_of (by go_simp) (by go_simp); have c_w3_2_2 : w3.cell? ⟨w.heap.size + 1 + 1, 2, none⟩ = some (.string ⟨#[]⟩) := hw3.cell_of (by go_simp); have f_w3_2_2 : w3.frozen? ⟨w.heap.size + 1 + 1, 2, none⟩ = false := hw3.thaw_of (by go_simp) (by go_simp); have c_w3_2_3 : w3.cell? ⟨w.heap.size + 1 + 1, 3, none⟩ = some (.slice none 0 0) := hw3.cell_of (by go_simp); have f_w3_2_3 : w3.frozen? ⟨w.heap.size + 1 + 1, 3, none⟩ = false := hw3.thaw_of (by go_simp) (by go_simp); have z3 : w.heap.size + 3 ≤ w3.heap.size := (by have h1 := hw1.size; have h2 := hw2.size; have h3 := hw3.size; simp at h1 h2 h3; omega)))
        have z5 : w.heap.size + 1 + 1 < w3.heap.size := (by omega)
        have z6 : w.heap.size + 1 < w3.heap.size := (by omega)
        have z7 : w.heap.size < w3.heap.size := (by omega)
        have y5 : ¬ (w.heap.size + 1 + 1 = w3.heap.size) := (by omega)
        have y6 : ¬ (w.heap.size + 1 = w3.heap.size) := (by omega)
        have y7 : ¬ (w.heap.size = w3.heap.size) := (by omega)
        go_region_with (first | ((go_at_call 102; refine K.call (by with_reducible rfl) (by with_reducible rfl) (l18All_any F _ HF.out (h.ext (by repeat' (first | with_reducible exact K.Ext.refl _ | with_reducible assumption | with_reducible refine K.Ext.drew ?_ | with_reducible refine K.Ext.alloc ?_ _ | with_reducible refine K.Ext.setCell ?_ ?_ _ | with_reducible refine K.Ext.trans ?_ (by with_reducible assumption) | (dsimp only; omega) | omega | exact K.Ext.refl _ | assumption | apply K.Ext.drew | refine K.Ext.alloc ?_ _ | refine K.Ext.setCell ?_ ?_ _ | (simp; done) | (simp; omega) | refine K.Ext.trans ?_ (by assumption))))) ?_; rintro e w4 ⟨⟨v4, rfl, hv4⟩, hw4⟩; obtain ⟨hcw4, hfw4⟩ := hw4.facts; have s4 := hv4; obtain ⟨o4, c4, rfl, _⟩ := s4); have c_w4_1_0 : w4.cell? ⟨w.heap.size + 1, 0, none⟩ = some (.int .i64 (G.dg)) := hw4.cell_of (by go_simp); have f_w4_1_0 : w4.frozen? ⟨w.heap.size + 1, 0, none⟩ = false := hw4.thaw_of (by go_simp) (by go_simp); have c_w4_1_1 : w4.cell? ⟨w.heap.size + 1, 1, none⟩ = some (.int .i64 (G.tn)) := hw4.cell_of (by go_simp); have f_w4_1_1 : w4.frozen? ⟨w.heap.size + 1, 1, none⟩ = false := hw4.thaw_of (by go_simp) (by go_simp); have c_w4_1_2 : w4.cell? ⟨w.heap.size + 1, 2, none⟩ = some (.string G.nm) := hw4.cell_of (by go_simp); have f_w4_1_2 : w4.frozen? ⟨w.heap.size + 1, 2, none⟩ = false := hw4.thaw_of (by go_simp) (by go_simp); have c_w4_1_3 : w4.cell? ⟨w.heap.size + 1, 3, none⟩ = some (.slice o' G.pw.length cap') := hw4.cell_of (by go_simp); have f_w4_1_3 : w4.frozen? ⟨w.heap.size + 1, 3, none⟩ = false := hw4.thaw_of (by go_simp) (by go_simp); have c_w4_2_0 : w4.cell? ⟨w.heap.size + 1 + 1, 0, none⟩ = some (.int .i64 (0)) := hw4.cell_of (by go_simp); have f_w4_2_0 : w4.frozen? ⟨w.heap.size + 1 + 1, 0, none⟩ = false := hw4.thaw_of (by go_simp) (by go_simp); have c_w4_2_1 : w4.cell? ⟨w.heap.size + 1 + 1, 1, none⟩ = some (.int .i64 (0)) := hw4.cell_of (by go_simp); have f_w4_2_1 : w4.frozen? ⟨w.heap.size + 1 + 1, 1, none⟩ = false := hw4.thaw_of (by go_simp) (by go_simp); have c_w4_2_2 : w4.cell? ⟨w.heap.size + 1 + 1, 2, none⟩ = some (.string ⟨#[]⟩) := hw4.cell_of (by go_simp); have f_w4_2_2 : w4.frozen? ⟨w.heap.size + 1 + 1, 2, none⟩ = false := hw4.thaw_of (by go_simp) (by go_simp); have c_w4_2_3 : w4.cell? ⟨w.heap.size + 1 + 1, 3, none⟩ = some (.slice none 0 0) := hw4.cell_of (by go_simp); have f_w4_2_3 : w4.frozen? ⟨w.heap.size + 1 + 1, 3, none⟩ = false := hw4.thaw_of (by go_simp) (by go_simp)) | ((go_at_call 102; refine K.call (by with_reducible rfl) (by with_reducible rfl) (l18All_any G _ HG.out (h'.ext (by repeat' (first | with_reducible exact K.Ext.refl _ | with_reducible assumption | with_reducible refine K.Ext.drew ?_ | with_reducible refine K.Ext.alloc ?_ _ | with_reducible refine K.Ext.setCell ?_ ?_ _ | with_reducible refine K.Ext.trans ?_ (by with_reducible assumption) | (dsimp only; omega) | omega | exact K.Ext.refl _ | assumption | apply K.Ext.drew | refine K.Ext.alloc ?_ _ | refine K.Ext.setCell ?_ ?_ _ | (simp; done) | (simp; omega) | refine K.Ext.trans ?_ (by assumption))))) ?_; rintro e w5 ⟨⟨v5, rfl, hv5⟩, hw5⟩; obtain ⟨hcw5, hfw5⟩ := hw5.facts; have s5 := hv5; obtain ⟨o5, c5, rfl, _⟩ := s5)))
        all_goals
          have hA : K.own w5 (w3.heap.size + 1) w4.heap.size (.slice o4 (Z.allOf F).length c4) (Z.allOf F) := K.own.ext (hv4.mono (by simp) (Nat.le_refl _)) hw5
          have hB : K.ints w5 w4.heap.size w5.heap.size (.slice o5 (Z.allOf G).length c5) (Z.allOf G) := K.own.ints (hv5.mono (by simp) (Nat.le_refl _))
          have r2 : w5.heap[w.heap.size + 1 + 1]? = some (.cells #[.int .i64 0, .int .i64 0, .string ⟨#[]⟩, .slice none 0 0] 32) := by
            refine K.Ext.block_of (K.Ext.block_of ?_ hw4) hw5
            refine K.Ext.block_of ?_ (((K.Ext.refl _).alloc _).drew)
            exact K.Ext.block_of (K.Ext.block_of (K.Ext.block_of (K.block_new (by simp)) hw1) hw2) hw3
          have r3 : w5.heap[w3.heap.size]? = some (.cells #[.int .i64 r.1.1, .int .i64 r.1.2] 30) := by
            refine K.Ext.block_of (K.Ext.block_of ?_ hw4) hw5
            exact K.Ext.block_of (K.block_new rfl) ((K.Ext.refl _).drew)
          simp only [Z.allOf_length] at hA hB ⊢
          have HA := Z.hide hA
          have HB := Z.hide hB
          have R2 := Z.hide r2
          have R3 := Z.hide r3
          have HW : Hid (K.Ext w w5) := Z.hide (by repeat' (first | with_reducible exact K.Ext.refl _ | with_reducible assumption | with_reducible refine K.Ext.drew ?_ | with_reducible refine K.Ext.alloc ?_ _ | with_reducible refine K.Ext.setCell ?_ ?_ _ | with_reducible refine K.Ext.trans ?_ (by with_reducible assumption) | (dsimp only; omega) | omega | exact K.Ext.refl _ | assumption | apply K.Ext.drew | refine K.Ext.alloc ?_ _ | refine K.Ext.setCell ?_ ?_ _ | (simp; done) | (simp; omega) | refine K.Ext.trans ?_ (by assumption)))
          clear hA hB r2 r3 hv4 hv5 hw4 hw5 hcw4 hfw4 hcw5 hfw5 HM
          go_wp2_with fail
          go_loopw [10] (fun i wr => ∃ k : Nat, k ≤ 26 ∧ i = .int .i64 k ∧ Hid (K.own wr (w3.heap.size + 1) w4.heap.size (.slice o4 26 c4) (Z.sumK F G k)) ∧ Hid (K.ints wr w4.heap.size w5.heap.size (.slice o5 26 c5) (Z.allOf G)) ∧ Hid (K.Ext w wr) ∧ Hid (wr.heap[w.heap.size + 1 + 1]? = some (.cells #[.int .i64 0, .int .i64 0, .string ⟨#[]⟩, .slice none 0 0] 32)) ∧ Hid (wr.heap[w3.heap.size]? = some (.cells #[.int .i64 r.1.1, .int .i64 r.1.2] 30))) (fun i _ => 26 - (intOf i).toNat)
          case atStart => exact ⟨0, Nat.zero_le _, rfl, Z.hide (by rw [Z.sumK_zero]; exact HA.out), HB, HW, R2, R3⟩
          case round =>
            obtain ⟨k, hk, rfl, HA1, HB1, HX1, C2, C3⟩ := hrel
            clear HA HB R2 R3 HW
            have k0 : (0 : Int) ≤ (k : Int) := Int.natCast_nonneg k
            by_cases hlt : k < 26
            · have k1 : (k : Int) < 26 := by omega
              obtain ⟨b, off, rfl, b1, b2, bc, bf⟩ := K.own_at HA1.out (by rw [Z.sumK_length]; decide)
              obtain ⟨b', off', rfl, b1', b2', bc'⟩ := K.ints_at HB1.out (by rw [Z.allOf_length]; decide)
              have hca := bc k (by rw [Z.sumK_length]; exact hlt)
              have hfa := bf k (by rw [Z.sumK_length]; exact hlt)
              have hcb := bc' k (by rw [Z.allOf_length]; exact hlt)
              rw [Z.sumK_get _ _ _ _ hlt, if_neg (Nat.lt_irrefl k)] at hca
              rw [Z.allOf_get _ _ hlt] at hcb
              obtain ⟨x1, x2⟩ := Z.expo_6 HF.out (97 + (k : Int))
              obtain ⟨y1, y2⟩ := Z.expo_6 HG.out (97 + (k : Int))
              have HS : Hid (Z.sumK F G (k + 1) = (Z.sumK F G k).set k (Z.expo (Z.bs F.nm) F.pw (97 + (k : Int)) + Z.expo (Z.bs G.nm) G.pw (97 + (k : Int)))) := Z.hide (Z.sumK_succ F G k hlt)
              have HL := Z.hide (Z.sumK_length F G k)
              clear bc bf bc'
              generalize Z.expo (Z.bs F.nm) F.pw (97 + (k : Int)) = x at *
              generalize Z.expo (Z.bs G.nm) G.pw (97 + (k : Int)) = y at *
              have q1 : IntKind.i64.wrap (x + y) = x + y := IntWalk.i64_in _ (by omega)
              go_wp2_with fail
              refine K.wp_region_x 12 [0, 0, 0, 0, 0, 1, 0, 0, 0, 1, 0, 0] [] (by kernel_rfl) (by kernel_rfl) ?_
              simp only [List.take_succ_cons, List.take_zero, List.drop_succ_cons, List.drop_zero]
              iterate 5
                apply K.x_pure
                · rfl
                · rfl
                · intro w'; go_simp; first | done | exact K.vint (IntWalk.i64_in _ (by omega)) | rfl | exact ⟨rfl, rfl⟩
                simp only [Act.put, List.setIfInBounds_toArray, List.set]
              apply K.x_held
              · rfl
              · rfl
              · intro w' hx; have hc := hx.all.1.1; have hf := hx.all.1.2; have hc' := hx.all.2.1; have hf' := hx.all.2.2; go_simp; first | done | rfl | exact ⟨rfl, rfl⟩
              simp only [Act.put, List.setIfInBounds_toArray, List.set]
              iterate 3
                apply K.x_pure
                · rfl
                · rfl
                · intro w'; go_simp; first | done | exact K.vint (IntWalk.i64_in _ (by omega)) | rfl | exact ⟨rfl, rfl⟩
                simp only [Act.put, List.setIfInBounds_toArray, List.set]
              apply K.x_held
              · rfl
              · rfl
              · intro w' hx; have hc := hx.all.1.1; have hf := hx.all.1.2; have hc' := hx.all.2.1; have hf' := hx.all.2.2; go_simp; first | done | rfl | exact ⟨rfl, rfl⟩
              simp only [Act.put, List.setIfInBounds_toArray, List.set]
              iterate 2
                apply K.x_pure
                · rfl
                · rfl
                · intro w'; go_simp; first | done | exact K.vint (IntWalk.i64_in _ (by omega)) | rfl | exact ⟨rfl, rfl⟩
                simp only [Act.put, List.setIfInBounds_toArray, List.set]
              apply K.x_done
              intro w6 h_x
              have hx6 := K.Ext.id h_x
              clear h_x
              obtain ⟨⟨hcw6, hfw6⟩, hc'w6, hf'w6⟩ := hx6.all
              go_wp2_with fail
              refine NoPanic.normal ?_
              have lb : b < w6.heap.size := by have h1 := hx6.size; have h2 := World.block_lt_of_cell? wr _ hca; simp at h1 h2; omega
              have HT := Z.hide (K.own_setAt (x := x + y) (k := k) (by rw [HL.out]; exact hlt) (K.own.ext (K.own.drew HA1.out) hx6))
              have HBT : Hid (K.ints (w6.setCell ⟨b, off + k, none⟩ (.int .i64 (x + y))) w4.heap.size w5.heap.size (.slice (some ⟨b', off', none⟩) 26 c5) (Z.allOf G)) := Z.hide (K.ints.set (K.ints.ext (K.ints.drew HB1.out) hx6) _ (.inl b2) _)
              have HXT : Hid (K.Ext w (w6.setCell ⟨b, off + k, none⟩ (.int .i64 (x + y)))) := Z.hide (K.Ext.setCell (K.Ext.trans HX1.out.drew hx6) (by dsimp only; omega) _)
              have D2 : Hid ((w6.setCell ⟨b, off + k, none⟩ (.int .i64 (x + y))).heap[w.heap.size + 1 + 1]? = some (.cells #[.int .i64 0, .int .i64 0, .string ⟨#[]⟩, .slice none 0 0] 32)) := Z.hide ((K.set_block (by dsimp only; omega)).trans (K.Ext.block_of (K.Ext.block_of C2.out (K.Ext.refl _).drew) hx6))
              have D3 : Hid ((w6.setCell ⟨b, off + k, none⟩ (.int .i64 (x + y))).heap[w3.heap.size]? = some (.cells #[.int .i64 r.1.1, .int .i64 r.1.2] 30)) := Z.hide ((K.set_block (by dsimp only; omega)).trans (K.Ext.block_of (K.Ext.block_of C3.out (K.Ext.refl _).drew) hx6))
              go_wp2
              go_roundw
              case rel => exact ⟨k + 1, by omega, by go_num, Z.hide (by rw [HS.out]; exact HT.out), HBT, HXT, D2, D3⟩
              case measure => simp [intOf]; omega
            · obtain rfl : k = 26 := by omega
              have f0 : wr.cell? ⟨w3.heap.size, 0, none⟩ = some (.int .i64 r.1.1) := K.cell_at C3.out rfl
              have f1 : wr.cell? ⟨w3.heap.size, 1, none⟩ = some (.int .i64 r.1.2) := K.cell_at C3.out rfl
              obtain ⟨M, HMM⟩ : ∃ M, M = Z.made r.1.1 r.1.2 (Z.sumF F G) 26 := ⟨_, rfl⟩
              have HK : Calls Try.prog 104 #[.agg #[.int .i64 r.1.1, .int .i64 r.1.2], .slice o4 26 c4] wr fun e w' => (∃ p', e = .returned (.agg #[.int .i64 M.dg, .int .i64 M.tn, .string M.nm, p']) ∧ K.own w' wr.heap.size w'.heap.size p' M.pw) ∧ K.Ext wr w' := by
                have hk := l18Make_any r.1.1 r.1.2 (Z.sumK F G 26) wr (Z.sumK_length F G 26) (K.own.ints HA1.out)
                rw [Z.sumK_made] at hk
                rw [HMM]
                exact hk
              have hle : M.pw.length ≤ 1048576 ∧ M.nm.size ≤ 1048576 := by rw [HMM]; exact Z.made_le _ _ _
              have HL := Z.hide hle
              rw [← HMM] at HE
              clear HMM hle HA1 HB1
              obtain ⟨N, HN⟩ : ∃ N, N = Z.fmOr M := ⟨_, rfl⟩
              have HR : ∀ {lo hi : Nat} {p : Value} (w : World), K.ints w lo hi p M.pw → Calls Try.prog 103 #[.agg #[.int .i64 M.dg, .int .i64 M.tn, .string M.nm, p]] w fun e w' => (∃ p', e = .returned (.tuple #[.agg #[.int .i64 N.1.dg, .int .i64 N.1.tn, .string N.1.nm, p'], .int .i64 N.2]) ∧ K.ints w' lo hi p' N.1.pw) ∧ K.Ext w w' := fun w hh => by rw [HN]; exact l18Result_any M w HL.out.1 HL.out.2 hh
              rw [← HN] at HE
              clear HN
              go_wp2_with (first | ((go_at_call 104; refine K.call (by with_reducible rfl) (by with_reducible rfl) (HK) ?_; rintro e w6 ⟨⟨p6, rfl, hp6⟩, hw6⟩; have E2 := Z.hide (K.Ext.block_of C2.out hw6); have hp7 := hp6; obtain ⟨o6, c6, rfl, _⟩ := hp7)) | ((go_at_call 103; refine K.call (by with_reducible rfl) (by with_reducible rfl) (HR _ (K.own.ints hp6)) ?_; rintro e w7 ⟨⟨p7, rfl, hp7⟩, hw7⟩; have hp8 := hp7; obtain ⟨o7, c7, rfl, _⟩ := hp8; have G2 := K.Ext.block_of E2.out hw7; have lw2 : w.heap.size + 1 + 1 < w7.heap.size := (Array.getElem?_eq_some_iff.1 G2).1; have r0 : w7.cell? ⟨w.heap.size + 1 + 1, 0, none⟩ = some (.int .i64 0) := K.cell_at G2 rfl; have r1 : w7.cell? ⟨w.heap.size + 1 + 1, 1, none⟩ = some (.int .i64 0) := K.cell_at G2 rfl; have r2 : w7.cell? ⟨w.heap.size + 1 + 1, 2, none⟩ = some (.string ⟨#[]⟩) := K.cell_at G2 rfl; have r3 : w7.cell? ⟨w.heap.size + 1 + 1, 3, none⟩ = some (.slice none 0 0) := K.cell_at G2 rfl; have t0 : w7.frozen? ⟨w.heap.size + 1 + 1, 0, none⟩ = false := K.thaw_at G2; have t1 : w7.frozen? ⟨w.heap.size + 1 + 1, 1, none⟩ = false := K.thaw_at G2; have t2 : w7.frozen? ⟨w.heap.size + 1 + 1, 2, none⟩ = false := K.thaw_at G2; have t3 : w7.frozen? ⟨w.heap.size + 1 + 1, 3, none⟩ = false := K.thaw_at G2; clear G2)))
              rw [HE.out]
              have z8 := HX1.out.size
              have z9 := hw6.size
              have z10 := hw7.size
              have z11 : w.heap.size + 1 + 1 < wr.heap.size := (Array.getElem?_eq_some_iff.1 C2.out).1
              refine bodyPost_ret (v := .tuple #[.agg #[.int .i64 N.1.dg, .int .i64 N.1.tn, .string N.1.nm, .slice o7 N.1.pw.length c7], .int .i64 N.2]) (by unfold results; rw [Try.results25]; go_simp) rfl ⟨⟨_, rfl, ?_⟩, ?_⟩
              · refine K.ints.mono (lo := wr.heap.size) (hi := w6.heap.size) ?_ (by omega) (by simp; omega)
                repeat with_reducible refine K.ints.set ?_ _ (.inl (by dsimp only; omega)) _
                exact hp7
              · repeat with_reducible refine K.Ext.setCell ?_ (by dsimp only; omega) _
                exact K.Ext.trans HX1.out (K.Ext.trans hw6 hw7)
      · have HE : Hid (Z.MultiplyFormulas F G = (Z.zeroFm, r.2)) := Z.hide (by rw [Z.MultiplyFormulas_ok hF hG]; unfold Z.multiplied; rw [← hr, if_neg hz])
        clear hr
        go_enter Try.func25, Try.ntmps25
        go_wp2_with (first | ((go_at_call 91; refine K.call (by with_reducible rfl) (by with_reducible rfl) (spec_IsFormula F _ hm hn (h.ext (by repeat' (first | with_reducible exact K.Ext.refl _ | with_reducible assumption | with_reducible refine K.Ext.drew ?_ | with_reducible refine K.Ext.alloc ?_ _ | with_reducible refine K.Ext.setCell ?_ ?_ _ | with_reducible refine K.Ext.trans ?_ (by with_reducible assumption) | (dsimp only; omega) | omega | exact K.Ext.refl _ | assumption | apply K.Ext.drew | refine K.Ext.alloc ?_ _ | refine K.Ext.setCell ?_ ?_ _ | (simp; done) | (simp; omega) | refine K.Ext.trans ?_ (by assumption))))) ?_; rintro e w1 ⟨rfl, hw1⟩; obtain ⟨hcw1, hfw1⟩ := hw1.facts); have c_w1_0_0 : w1.cell? ⟨w.heap.size, 0, none⟩ = some (.int .i64 (F.dg)) := hw1.cell_of (by go_simp); have f_w1_0_0 : w1.frozen? ⟨w.heap.size, 0, none⟩ = false := hw1.thaw_of (by go_simp) (by go_simp); have c_w1_0_1 : w1.cell? ⟨w.heap.size, 1, none⟩ = some (.int .i64 (F.tn)) := hw1.cell_of (by go_simp); have f_w1_0_1 : w1.frozen? ⟨w.heap.size, 1, none⟩ = false := hw1.thaw_of (by go_simp) (by go_simp); have c_w1_0_2 : w1.cell? ⟨w.heap.size, 2, none⟩ = some (.string F.nm) := hw1.cell_of (by go_simp); have f_w1_0_2 : w1.frozen? ⟨w.heap.size, 2, none⟩ = false := hw1.thaw_of (by go_simp) (by go_simp); have c_w1_0_3 : w1.cell? ⟨w.heap.size, 3, none⟩ = some (.slice o F.pw.length cap) := hw1.cell_of (by go_simp); have f_w1_0_3 : w1.frozen? ⟨w.heap.size, 3, none⟩ = false := hw1.thaw_of (by go_simp) (by go_simp); have c_w1_1_0 : w1.cell? ⟨w.heap.size + 1, 0, none⟩ = some (.int .i64 (G.dg)) := hw1.cell_of (by go_simp); have f_w1_1_0 : w1.frozen? ⟨w.heap.size + 1, 0, none⟩ = false := hw1.thaw_of (by go_simp) (by go_simp); have c_w1_1_1 : w1.cell? ⟨w.heap.size + 1, 1, none⟩ = some (.int .i64 (G.tn)) := hw1.cell_of (by go_simp); have f_w1_1_1 : w1.frozen? ⟨w.heap.size + 1, 1, none⟩ = false := hw1.thaw_of (by go_simp) (by go_simp); have c_w1_1_2 : w1.cell? ⟨w.heap.size + 1, 2, none⟩ = some (.string G.nm) := hw1.cell_of (by go_simp); have f_w1_1_2 : w1.frozen? ⟨w.heap.size + 1, 2, none⟩ = false := hw1.thaw_of (by go_simp) (by go_simp); have c_w1_1_3 : w1.cell? ⟨w.heap.size + 1, 3, none⟩ = some (.slice o' G.pw.length cap') := hw1.cell_of (by go_simp); have f_w1_1_3 : w1.frozen? ⟨w.heap.size + 1, 3, none⟩ = false := hw1.thaw_of (by go_simp) (by go_simp); have c_w1_2_0 : w1.cell? ⟨w.heap.size + 1 + 1, 0, none⟩ = some (.int .i64 (0)) := hw1.cell_of (by go_simp); have f_w1_2_0 : w1.frozen? ⟨w.heap.size + 1 + 1, 0, none⟩ = false := hw1.thaw_of (by go_simp) (by go_simp); have c_w1_2_1 : w1.cell? ⟨w.heap.size + 1 + 1, 1, none⟩ = some (.int .i64 (0)) := hw1.cell_of (by go_simp); have f_w1_2_1 : w1.frozen? ⟨w.heap.size + 1 + 1, 1, none⟩ = false := hw1.thaw_of (by go_simp) (by go_simp); have c_w1_2_2 : w1.cell? ⟨w.heap.size + 1 + 1, 2, none⟩ = some (.string ⟨#[]⟩) := hw1.cell_of (by go_simp); have f_w1_2_2 : w1.frozen? ⟨w.heap.size + 1 + 1, 2, none⟩ = false := hw1.thaw_of (by go_simp) (by go_simp); have c_w1_2_3 : w1.cell? ⟨w.heap.size + 1 + 1, 3, none⟩ = some (.slice none 0 0) := hw1.cell_of (by go_simp); have f_w1_2_3 : w1.frozen? ⟨w.heap.size + 1 + 1, 3, none⟩ = false := hw1.thaw_of (by go_simp) (by go_simp)) | ((go_at_call 91; refine K.call (by with_reducible rfl) (by with_reducible rfl) (spec_IsFormula G _ hm' hn' (h'.ext (by repeat' (first | with_reducible exact K.Ext.refl _ | with_reducible assumption | with_reducible refine K.Ext.drew ?_ | with_reducible refine K.Ext.alloc ?_ _ | with_reducible refine K.Ext.setCell ?_ ?_ _ | with_reducible refine K.Ext.trans ?_ (by with_reducible assumption) | (dsimp only; omega) | omega | exact K.Ext.refl _ | assumption | apply K.Ext.drew | refine K.Ext.alloc ?_ _ | refine K.Ext.setCell ?_ ?_ _ | (simp; done) | (simp; omega) | refine K.Ext.trans ?_ (by assumption))))) ?_; rintro e w2 ⟨rfl, hw2⟩; obtain ⟨hcw2, hfw2⟩ := hw2.facts); have c_w2_0_0 : w2.cell? ⟨w.heap.size, 0, none⟩ = some (.int .i64 (F.dg)) := hw2.cell_of (by go_simp); have f_w2_0_0 : w2.frozen? ⟨w.heap.size, 0, none⟩ = false := hw2.thaw_of (by go_simp) (by go_simp); have c_w2_0_1 : w2.cell? ⟨w.heap.size, 1, none⟩ = some (.int .i64 (F.tn)) := hw2.cell_of (by go_simp); have f_w2_0_1 : w2.frozen? ⟨w.heap.size, 1, none⟩ = false := hw2.thaw_of (by go_simp) (by go_simp); have c_w2_0_2 : w2.cell? ⟨w.heap.size, 2, none⟩ = some (.string F.nm) := hw2.cell_of (by go_simp); have f_w2_0_2 : w2.frozen? ⟨w.heap.size, 2, none⟩ = false := hw2.thaw_of (by go_simp) (by go_simp); have c_w2_0_3 : w2.cell? ⟨w.heap.size, 3, none⟩ = some (.slice o F.pw.length cap) := hw2.cell_of (by go_simp); have f_w2_0_3 : w2.frozen? ⟨w.heap.size, 3, none⟩ = false := hw2.thaw_of (by go_simp) (by go_simp); have c_w2_1_0 : w2.cell? ⟨w.heap.size + 1, 0, none⟩ = some (.int .i64 (G.dg)) := hw2.cell_of (by go_simp); have f_w2_1_0 : w2.frozen? ⟨w.heap.size + 1, 0, none⟩ = false := hw2.thaw_of (by go_simp) (by go_simp); have c_w2_1_1 : w2.cell? ⟨w.heap.size + 1, 1, none⟩ = some (.int .i64 (G.tn)) := hw2.cell_of (by go_simp); have f_w2_1_1 : w2.frozen? ⟨w.heap.size + 1, 1, none⟩ = false := hw2.thaw_of (by go_simp) (by go_simp); have c_w2_1_2 : w2.cell? ⟨w.heap.size + 1, 2, none⟩ = some (.string G.nm) := hw2.cell_of (by go_simp); have f_w2_1_2 : w2.frozen? ⟨w.heap.size + 1, 2, none⟩ = false := hw2.thaw_of (by go_simp) (by go_simp); have c_w2_1_3 : w2.cell? ⟨w.heap.size + 1, 3, none⟩ = some (.slice o' G.pw.length cap') := hw2.cell_of (by go_simp); have f_w2_1_3 : w2.frozen? ⟨w.heap.size + 1, 3, none⟩ = false := hw2.thaw_of (by go_simp) (by go_simp); have c_w2_2_0 : w2.cell? ⟨w.heap.size + 1 + 1, 0, none⟩ = some (.int .i64 (0)) := hw2.cell_of (by go_simp); have f_w2_2_0 : w2.frozen? ⟨w.heap.size + 1 + 1, 0, none⟩ = false := hw2.thaw_of (by go_simp) (by go_simp); have c_w2_2_1 : w2.cell? ⟨w.heap.size + 1 + 1, 1, none⟩ = some (.int .i64 (0)) := hw2.cell_of (by go_simp); have f_w2_2_1 : w2.frozen? ⟨w.heap.size + 1 + 1, 1, none⟩ = false := hw2.thaw_of (by go_simp) (by go_simp); have c_w2_2_2 : w2.cell? ⟨w.heap.size + 1 + 1, 2, none⟩ = some (.string ⟨#[]⟩) := hw2.cell_of (by go_simp); have f_w2_2_2 : w2.frozen? ⟨w.heap.size + 1 + 1, 2, none⟩ = false := hw2.thaw_of (by go_simp) (by go_simp); have c_w2_2_3 : w2.cell? ⟨w.heap.size + 1 + 1, 3, none⟩ = some (.slice none 0 0) := hw2.cell_of (by go_simp); have f_w2_2_3 : w2.frozen? ⟨w.heap.size + 1 + 1, 3, none⟩ = false := hw2.thaw_of (by go_simp) (by go_simp)) | (go_at_call 101; refine K.call (by with_reducible rfl) (by with_reducible rfl) (HM _) ?_; rintro e w3 ⟨rfl, hw3⟩; obtain ⟨hcw3, hfw3⟩ := hw3.facts); have c_w3_0_0 : w3.cell? ⟨w.heap.size, 0, none⟩ = some (.int .i64 (F.dg)) := hw3.cell_of (by go_simp); have f_w3_0_0 : w3.frozen? ⟨w.heap.size, 0, none⟩ = false := hw3.thaw_of (by go_simp) (by go_simp); have c_w3_0_1 : w3.cell? ⟨w.heap.size, 1, none⟩ = some (.int .i64 (F.tn)) := hw3.cell_of (by go_simp); have f_w3_0_1 : w3.frozen? ⟨w.heap.size, 1, none⟩ = false := hw3.thaw_of (by go_simp) (by go_simp); have c_w3_0_2 : w3.cell? ⟨w.heap.size, 2, none⟩ = some (.string F.nm) := hw3.cell_of (by go_simp); have f_w3_0_2 : w3.frozen? ⟨w.heap.size, 2, none⟩ = false := hw3.thaw_of (by go_simp) (by go_simp); have c_w3_0_3 : w3.cell? ⟨w.heap.size, 3, none⟩ = some (.slice o F.pw.length cap) := hw3.cell_of (by go_simp); have f_w3_0_3 : w3.frozen? ⟨w.heap.size, 3, none⟩ = false := hw3.thaw_of (by go_simp) (by go_simp); have c_w3_1_0 : w3.cell? ⟨w.heap.size + 1, 0, none⟩ = some (.int .i64 (G.dg)) := hw3.cell_of (by go_simp); have f_w3_1_0 : w3.frozen? ⟨w.heap.size + 1, 0, none⟩ = false := hw3.thaw_of (by go_simp) (by go_simp); have c_w3_1_1 : w3.cell? ⟨w.heap.size + 1, 1, none⟩ = some (.int .i64 (G.tn)) := hw3.cell_of (by go_simp); have f_w3_1_1 : w3.frozen? ⟨w.heap.size + 1, 1, none⟩ = false := hw3.thaw_of (by go_simp) (by go_simp); have c_w3_1_2 : w3.cell? ⟨w.heap.size + 1, 2, none⟩ = some (.string G.nm) := hw3.cell_of (by go_simp); have f_w3_1_2 : w3.frozen? ⟨w.heap.size + 1, 2, none⟩ = false := hw3.thaw_of (by go_simp) (by go_simp); have c_w3_1_3 : w3.cell? ⟨w.heap.size + 1, 3, none⟩ = some (.slice o' G.pw.length cap') := hw3.cell_of (by go_simp); have f_w3_1_3 : w3.frozen? ⟨w.heap.size + 1, 3, none⟩ = false := hw3.thaw_of (by go_simp) (by go_simp); have c_w3_2_0 : w3.cell? ⟨w.heap.size + 1 + 1, 0, none⟩ = some (.int .i64 (0)) := hw3.cell_of (by go_simp); have f_w3_2_0 : w3.frozen? ⟨w.heap.size + 1 + 1, 0, none⟩ = false := hw3.thaw_of (by go_simp) (by go_simp); have c_w3_2_1 : w3.cell? ⟨w.heap.size + 1 + 1, 1, none⟩ = some (.int .i64 (0)) := hw3.cell_of (by go_simp); have f_w3_2_1 : w3.frozen? ⟨w.heap.size + 1 + 1, 1, none⟩ = false := hw3.thaw_of (by go_simp) (by go_simp); have c_w3_2_2 : w3.cell? ⟨w.heap.size + 1 + 1, 2, none⟩ = some (.string ⟨#[]⟩) := hw3.cell_of (by go_simp); have f_w3_2_2 : w3.frozen? ⟨w.heap.size + 1 + 1, 2, none⟩ = false := hw3.thaw_of (by go_simp) (by go_simp); have c_w3_2_3 : w3.cell? ⟨w.heap.size + 1 + 1, 3, none⟩ = some (.slice none 0 0) := hw3.cell_of (by go_simp); have f_w3_2_3 : w3.frozen? ⟨w.heap.size + 1 + 1, 3, none⟩ = false := hw3.thaw_of (by go_simp) (by go_simp); have z3 : w.heap.size + 3 ≤ w3.heap.size := (by have h1 := hw1.size; have h2 := hw2.size; have h3 := hw3.size; simp at h1 h2 h3; omega); have z4 : ¬ (w.heap.size + 1 + 1 = w3.heap.size) := (by omega); have z8 : ¬ (w3.heap.size = w.heap.size + 1 + 1) := (by omega); have z7 : w.heap.size + 1 + 1 < w3.heap.size := (by omega))
        rw [HE.out]
        refine bodyPost_ret (v := .tuple #[.agg #[.int .i64 0, .int .i64 0, .string ⟨#[]⟩, .slice none 0 0], .int .i64 r.2]) (by unfold results; rw [Try.results25]; go_simp) rfl ⟨⟨_, rfl, K.ints_nil _ _ _⟩, ?_⟩
        repeat' (first | with_reducible refine K.Ext.setCell ?_ ?_ _ | with_reducible refine K.Ext.alloc ?_ _ | (dsimp only; omega))
        exact (by repeat' (first | with_reducible exact K.Ext.refl _ | with_reducible assumption | with_reducible refine K.Ext.drew ?_ | with_reducible refine K.Ext.alloc ?_ _ | with_reducible refine K.Ext.setCell ?_ ?_ _ | with_reducible refine K.Ext.trans ?_ (by with_reducible assumption) | (dsimp only; omega) | omega | exact K.Ext.refl _ | assumption | apply K.Ext.drew | refine K.Ext.alloc ?_ _ | refine K.Ext.setCell ?_ ?_ _ | (simp; done) | (simp; omega) | refine K.Ext.trans ?_ (by assumption)))
end Go.Proofs.Ythmnlbgbacbocaa
end
section
namespace Go.Proofs.Ythmnlbgbacbocaa
open Go.RowKit
theorem unity_new (w : World) : Calls Try.prog 137 #[] w fun e w' => e = .returned (.agg #[.int .i64 1000, .int .i64 0]) ∧ K.Ext w w' := by
  go_enter Try.func137, Try.ntmps137
  go_wp2
  exact bodyPost_ret (v := .agg #[.int .i64 1000, .int .i64 0]) (by unfold results; rw [Try.results137]; go_simp) rfl ⟨rfl, (by repeat' (first | with_reducible exact K.Ext.refl _ | with_reducible assumption | with_reducible refine K.Ext.drew ?_ | with_reducible refine K.Ext.alloc ?_ _ | with_reducible refine K.Ext.setCell ?_ ?_ _ | with_reducible refine K.Ext.trans ?_ (by with_reducible assumption) | (dsimp only; omega) | omega | exact K.Ext.refl _ | assumption | apply K.Ext.drew | refine K.Ext.alloc ?_ _ | refine K.Ext.setCell ?_ ?_ _ | (simp; done) | (simp; omega) | refine K.Ext.trans ?_ (by assumption)))⟩
set_option maxHeartbeats 3200000 in
theorem raised1_any (F : Z.Fm) (n : Int) (i : Nat) (gn gf : Nat) {lo hi : Nat} {p : Value} (w : World) (hi26 : i < 26) (hF : Z.isFormula F = true) (hn : -3 ≤ n ∧ n ≤ 3)
    (k0 : w.cell? ⟨gn, 0, none⟩ = some (.int .i64 n)) (h0 : w.cell? ⟨gf, 0, none⟩ = some (.int .i64 F.dg)) (h1 : w.cell? ⟨gf, 1, none⟩ = some (.int .i64 F.tn)) (h2 : w.cell? ⟨gf, 2, none⟩ = some (.string F.nm)) (h3 : w.cell? ⟨gf, 3, none⟩ = some p) (h : K.ints w lo hi p F.pw) :
    Calls Try.prog 170 #[.int .u8 (97 + (i : Int)), .pointer (some ⟨gn, 0, none⟩), .pointer (some ⟨gf, 0, none⟩)] w fun e w' => e = .returned (.int .i64 (Z.powF F n i)) ∧ K.Ext w w' := by
  have g1 := h
  obtain ⟨o, cap, rfl, _⟩ := g1
  obtain ⟨l1, l2⟩ : Hid (F.pw.length = F.nm.size) ∧ Hid (F.nm.size ≤ 6) := Z.isFormula_len hF
  obtain ⟨x, hx⟩ : ∃ x, x = Z.expo (Z.bs F.nm) F.pw (97 + (i : Int)) := ⟨_, rfl⟩
  obtain ⟨x1, x2⟩ := Z.expo_6 hF (97 + (i : Int))
  rw [← hx] at x1 x2
  have HE : Hid (Z.powF F n i = n * x) := Z.hide (by unfold Z.powF; rw [hx])
  obtain ⟨m1, m2⟩ := Z.mul_bd n x 3 6 hn.1 hn.2 x1 x2
  have q1 : IntKind.i64.wrap (n * x) = n * x := IntWalk.i64_in _ (by omega)
  have C1 : ∀ {lo hi : Nat} {p : Value} (w' : World), K.ints w' lo hi p F.pw → Calls Try.prog 106 #[.agg #[.int .i64 F.dg, .int .i64 F.tn, .string F.nm, p], .int .u8 (97 + (i : Int))] w' fun e w'' => e = .returned (.int .i64 x) ∧ K.Ext w' w'' := fun w' hh => by rw [hx]; exact exponentOf_any F (97 + (i : Int)) _ _ _ w' l1.out (Nat.le_trans l2.out (by decide)) (by omega) (by omega) hh
  clear hx hF m1 m2
  go_enter Try.func170, Try.ntmps170
  go_wp2_with fail
  refine K.wp_region_x 5 [1, 1, 0, 2, 0] [K.SP.any, K.SP.any, K.SP.any, K.SP.is (.int .i64 x)] (by kernel_rfl) (by kernel_rfl) ?_
  simp only [List.take_succ_cons, List.take_zero, List.drop_succ_cons, List.drop_zero]
  iterate 2
    apply K.x_held
    · rfl
    · rfl
    · intro w' hx; have hc := hx.all.1.1; have hf := hx.all.1.2; have hc' := hx.all.2.1; have hf' := hx.all.2.2; go_simp; first | done | rfl | exact ⟨rfl, rfl⟩
    simp only [Act.put, List.setIfInBounds_toArray, List.set]
  apply K.x_pure
  · rfl
  · rfl
  · intro w'; go_simp; first | done | exact K.vint (IntWalk.i64_in _ (by omega)) | rfl | exact ⟨rfl, rfl⟩
  simp only [Act.put, List.setIfInBounds_toArray, List.set]
  apply K.x_call_is
  · rfl
  · rfl
  · rfl
  · intro w'; go_simp; first | done | rfl | exact ⟨rfl, rfl⟩
  · intro w' hx hp; have hc := hx.all.1.1; have hf := hx.all.1.2; have hc' := hx.all.2.1; have hf' := hx.all.2.2; exact C1 _ (K.ints.ext (K.ints.drew h) hx)
  intro w_3_ hx_3_
  simp only [Act.put, List.setIfInBounds_toArray, List.set]
  apply K.x_pure
  · rfl
  · rfl
  · intro w'; go_simp; first | done | exact K.vint (IntWalk.i64_in _ (by omega)) | rfl | exact ⟨rfl, rfl⟩
  simp only [Act.put, List.setIfInBounds_toArray, List.set]
  apply K.x_done
  intro w2 h_x
  have hx2 := hx_3_.trans h_x
  clear h_x hx_3_
  obtain ⟨⟨hcw2, hfw2⟩, hc'w2, hf'w2⟩ := hx2.all
  go_wp2_with fail
  refine NoPanic.normal ?_
  go_wp2
  go_ret
  exact ⟨K.ri (by rw [HE.out]), (by repeat' (first | with_reducible exact K.Ext.refl _ | with_reducible assumption | with_reducible refine K.Ext.drew ?_ | with_reducible refine K.Ext.alloc ?_ _ | with_reducible refine K.Ext.setCell ?_ ?_ _ | with_reducible refine K.Ext.trans ?_ (by with_reducible assumption) | (dsimp only; omega) | omega | exact K.Ext.refl _ | assumption | apply K.Ext.drew | refine K.Ext.alloc ?_ _ | refine K.Ext.setCell ?_ ?_ _ | (simp; done) | (simp; omega) | refine K.Ext.trans ?_ (by assumption)))⟩
set_option maxRecDepth 100000 in
set_option maxHeartbeats 6400000 in
theorem raised_any (F : Z.Fm) (n : Int) {lo hi : Nat} {p : Value} (w : World) (hF : Z.isFormula F = true) (hn : -3 ≤ n ∧ n ≤ 3) (h : K.ints w lo hi p F.pw) :
    Calls Try.prog 109 #[.agg #[.int .i64 F.dg, .int .i64 F.tn, .string F.nm, p], .int .i64 n] w fun e w' => (∃ p', e = .returned (.tuple #[.agg #[.int .i64 ((Z.raised F n).1).dg, .int .i64 ((Z.raised F n).1).tn, .string ((Z.raised F n).1).nm, p'], .int .i64 (Z.raised F n).2]) ∧ K.own w' w.heap.size w'.heap.size p' (Z.raised F n).1.pw) ∧ K.Ext w w' := by
  have g1 := h
  obtain ⟨o, cap, rfl, _⟩ := g1
  have hmf : ∀ (fn : Fn) (first cap : Array Value) (w : World), (Instr.makeFunc fn first cap).run Try.prog w = .ok (.func fn first cap) w := fun _ _ _ _ => rfl
  have hg : ∀ (args : Array Value) (w' : World), (callFunc 170 args).run Try.prog w' = .ok (.enter 170 args) w' := by
    intro args w'; go_simp
  obtain ⟨n1, n2⟩ := hn
  obtain ⟨m, hm⟩ : ∃ m : Nat, m = n.natAbs := ⟨_, rfl⟩
  have hm3 : m ≤ 3 := by omega
  obtain ⟨g, hgd⟩ : ∃ g, g = decide (0 < n) := ⟨_, rfl⟩
  have HG := Z.hide hg
  have HFF := Z.hide hF
  have HH := Z.hide h
  have HM := Z.hide hm
  have HD := Z.hide hgd
  clear hg hF h hm hgd
  go_enter Try.func109, Try.ntmps109
  go_wp2_with ((go_at_call 137; refine K.call (by with_reducible rfl) (by with_reducible rfl) (unity_new _) ?_; rintro e w1 ⟨rfl, hw1⟩; obtain ⟨hcw1, hfw1⟩ := hw1.facts))
  have s1 : w.heap.size + 3 ≤ w1.heap.size := by have h_ := hw1.size; simp at h_; omega
  have B0 : w1.heap[w.heap.size]? = some (.cells #[.int .i64 F.dg, .int .i64 F.tn, .string F.nm, .slice o F.pw.length cap] 32) := K.Ext.block_of (((K.Ext.refl _).alloc _).alloc _ |>.block (K.block_new rfl)) hw1
  have B1 : w1.heap[w.heap.size + 1]? = some (.cells #[.int .i64 n] 2) := K.Ext.block_of (((K.Ext.refl _).alloc _).block (K.block_new (by simp))) hw1
  have B2 : w1.heap[w.heap.size + 1 + 1]? = some (.cells #[.int .i64 0, .int .i64 0, .string ⟨#[]⟩, .slice none 0 0] 32) := K.Ext.block_of (K.block_new (by simp)) hw1
  have R0 := Z.hide B0
  have R1 := Z.hide B1
  have R2 := Z.hide B2
  have HX1 : Hid (K.Ext w w1) := Z.hide (by repeat' (first | with_reducible exact K.Ext.refl _ | with_reducible assumption | with_reducible refine K.Ext.drew ?_ | with_reducible refine K.Ext.alloc ?_ _ | with_reducible refine K.Ext.setCell ?_ ?_ _ | with_reducible refine K.Ext.trans ?_ (by with_reducible assumption) | (dsimp only; omega) | omega | exact K.Ext.refl _ | assumption | apply K.Ext.drew | refine K.Ext.alloc ?_ _ | refine K.Ext.setCell ?_ ?_ _ | (simp; done) | (simp; omega) | refine K.Ext.trans ?_ (by assumption)))
  clear B0 B1 B2 hcw1 hfw1 hw1
  go_loopw [7] (fun i wr => ∃ k : Nat, k ≤ m ∧ i = .int .i64 k ∧ Hid ((Z.powK g (F.dg, F.tn) k).2 = 0) ∧ Hid (wr.heap[w.heap.size]? = some (.cells #[.int .i64 F.dg, .int .i64 F.tn, .string F.nm, .slice o F.pw.length cap] 32)) ∧ Hid (wr.heap[w.heap.size + 1]? = some (.cells #[.int .i64 n] 2)) ∧ Hid (wr.heap[w.heap.size + 1 + 1]? = some (.cells #[.int .i64 0, .int .i64 0, .string ⟨#[]⟩, .slice none 0 0] 32)) ∧ Hid (wr.heap[w1.heap.size]? = some (.cells #[.int .i64 (Z.powK g (F.dg, F.tn) k).1.1, .int .i64 (Z.powK g (F.dg, F.tn) k).1.2] 30)) ∧ Hid (K.Ext w wr)) (fun i _ => m - (intOf i).toNat)
  case atStart =>
    refine ⟨0, Nat.zero_le _, rfl, Z.hide rfl, Z.hide ?_, Z.hide ?_, Z.hide ?_, Z.hide ?_, Z.hide (by repeat' (first | with_reducible exact K.Ext.refl _ | with_reducible assumption | with_reducible refine K.Ext.drew ?_ | with_reducible refine K.Ext.alloc ?_ _ | with_reducible refine K.Ext.setCell ?_ ?_ _ | with_reducible refine K.Ext.trans ?_ (by with_reducible assumption) | (dsimp only; omega) | omega | exact K.Ext.refl _ | assumption | apply K.Ext.drew | refine K.Ext.alloc ?_ _ | refine K.Ext.setCell ?_ ?_ _ | (simp; done) | (simp; omega) | refine K.Ext.trans ?_ (by assumption)))⟩
    · exact K.Ext.block_of R0.out (by repeat' (first | with_reducible exact K.Ext.refl _ | with_reducible assumption | with_reducible refine K.Ext.drew ?_ | with_reducible refine K.Ext.alloc ?_ _ | with_reducible refine K.Ext.setCell ?_ ?_ _ | with_reducible refine K.Ext.trans ?_ (by with_reducible assumption) | (dsimp only; omega) | omega | exact K.Ext.refl _ | assumption | apply K.Ext.drew | refine K.Ext.alloc ?_ _ | refine K.Ext.setCell ?_ ?_ _ | (simp; done) | (simp; omega) | refine K.Ext.trans ?_ (by assumption)))
    · exact K.Ext.block_of R1.out (by repeat' (first | with_reducible exact K.Ext.refl _ | with_reducible assumption | with_reducible refine K.Ext.drew ?_ | with_reducible refine K.Ext.alloc ?_ _ | with_reducible refine K.Ext.setCell ?_ ?_ _ | with_reducible refine K.Ext.trans ?_ (by with_reducible assumption) | (dsimp only; omega) | omega | exact K.Ext.refl _ | assumption | apply K.Ext.drew | refine K.Ext.alloc ?_ _ | refine K.Ext.setCell ?_ ?_ _ | (simp; done) | (simp; omega) | refine K.Ext.trans ?_ (by assumption)))
    · exact K.Ext.block_of R2.out (by repeat' (first | with_reducible exact K.Ext.refl _ | with_reducible assumption | with_reducible refine K.Ext.drew ?_ | with_reducible refine K.Ext.alloc ?_ _ | with_reducible refine K.Ext.setCell ?_ ?_ _ | with_reducible refine K.Ext.trans ?_ (by with_reducible assumption) | (dsimp only; omega) | omega | exact K.Ext.refl _ | assumption | apply K.Ext.drew | refine K.Ext.alloc ?_ _ | refine K.Ext.setCell ?_ ?_ _ | (simp; done) | (simp; omega) | refine K.Ext.trans ?_ (by assumption)))
    · exact K.block_new rfl
  case round =>
    obtain ⟨k, hk, rfl, HZ, C0, C1, C2, C3, HX⟩ := hrel
    clear R0 R1 R2 HX1
    have k0 : (0 : Int) ≤ (k : Int) := Int.natCast_nonneg k
    have d0 : wr.cell? ⟨w.heap.size, 0, none⟩ = some (.int .i64 F.dg) := K.cell_at C0.out rfl
    have d1 : wr.cell? ⟨w.heap.size, 1, none⟩ = some (.int .i64 F.tn) := K.cell_at C0.out rfl
    have d2 : wr.cell? ⟨w.heap.size + 1, 0, none⟩ = some (.int .i64 n) := K.cell_at C1.out rfl
    have e0 : wr.cell? ⟨w1.heap.size, 0, none⟩ = some (.int .i64 (Z.powK g (F.dg, F.tn) k).1.1) := K.cell_at C3.out rfl
    have e1 : wr.cell? ⟨w1.heap.size, 1, none⟩ = some (.int .i64 (Z.powK g (F.dg, F.tn) k).1.2) := K.cell_at C3.out rfl
    have lw : w1.heap.size < wr.heap.size := (Array.getElem?_eq_some_iff.1 C3.out).1
    have m0 : (m : Int) = n ∨ (m : Int) = -n := by have := HM.out; omega
    have m0' : -(m : Int) ≤ n ∧ n ≤ (m : Int) := by have := HM.out; omega
    by_cases hlt : k < m
    · have k1 : (k : Int) < (m : Int) := by omega
      obtain ⟨x, hx⟩ : ∃ x, x = (Z.powK g (F.dg, F.tn) k).1 := ⟨_, rfl⟩
      rw [← hx] at e0 e1
      obtain ⟨r, hr⟩ : ∃ r, r = Z.pw1 g x (F.dg, F.tn) := ⟨_, rfl⟩
      have HS : Hid (Z.powK g (F.dg, F.tn) (k + 1) = r) := Z.hide (by rw [Z.powK_succ _ _ _ HZ.out, hr, hx])
      have HR : Hid (∀ w' : World, Calls Try.prog (if g then 162 else 169) #[.agg #[.int .i64 x.1, .int .i64 x.2], .agg #[.int .i64 F.dg, .int .i64 F.tn]] w' fun e w'' => e = .returned (.tuple #[.agg #[.int .i64 r.1.1, .int .i64 r.1.2], .int .i64 r.2]) ∧ K.Ext w' w'') := Z.hide (fun w' => by
        rw [hr]
        cases g
        · exact impl_DivideFigures x (F.dg, F.tn) w'
        · exact impl_MultiplyFigures x (F.dg, F.tn) w')
      clear hx hr
      have hgn : g = decide (0 < n) := HD.out
      have tm : (k : Int) < max n (-n) := by omega
      by_cases hp : 0 < n
      · obtain rfl : g = true := by rw [hgn]; simpa using hp
        clear hgn
        simp only [if_true] at HR
        by_cases hz : r.2 = 0
        · have HZ2 : Hid ((Z.powK true (F.dg, F.tn) (k + 1)).2 = 0) := Z.hide (by rw [HS.out]; exact hz)
          go_wp2_with ((go_at_call 162; refine K.call (by with_reducible rfl) (by with_reducible rfl) (HR.out _) ?_; rintro e w2 ⟨rfl, hw2⟩; have D0 := Z.hide (K.Ext.block_of C0.out hw2); have D1 := Z.hide (K.Ext.block_of C1.out hw2); have D2 := Z.hide (K.Ext.block_of C2.out hw2); have D3 := Z.hide (K.Ext.block_of C3.out hw2); have HX2 : Hid (K.Ext w w2) := Z.hide (HX.out.trans hw2); have lw2 := hw2.size; have f0 : w2.cell? ⟨w1.heap.size, 0, none⟩ = some (.int .i64 x.1) := hw2.cell_of e0; have f1 : w2.cell? ⟨w1.heap.size, 1, none⟩ = some (.int .i64 x.2) := hw2.cell_of e1; have t0 : w2.frozen? ⟨w1.heap.size, 0, none⟩ = false := K.thaw_at D3.out; have t1 : w2.frozen? ⟨w1.heap.size, 1, none⟩ = false := K.thaw_at D3.out; have z0 : w2.cell? ⟨w.heap.size + 1 + 1, 0, none⟩ = some (.int .i64 0) := K.cell_at D2.out rfl; have z1 : w2.cell? ⟨w.heap.size + 1 + 1, 1, none⟩ = some (.int .i64 0) := K.cell_at D2.out rfl; have z2 : w2.cell? ⟨w.heap.size + 1 + 1, 2, none⟩ = some (.string ⟨#[]⟩) := K.cell_at D2.out rfl; have z3 : w2.cell? ⟨w.heap.size + 1 + 1, 3, none⟩ = some (.slice none 0 0) := K.cell_at D2.out rfl; have y0 : w2.frozen? ⟨w.heap.size + 1 + 1, 0, none⟩ = false := K.thaw_at D2.out; have y1 : w2.frozen? ⟨w.heap.size + 1 + 1, 1, none⟩ = false := K.thaw_at D2.out; have y2 : w2.frozen? ⟨w.heap.size + 1 + 1, 2, none⟩ = false := K.thaw_at D2.out; have y3 : w2.frozen? ⟨w.heap.size + 1 + 1, 3, none⟩ = false := K.thaw_at D2.out; have n1 : ¬ (w.heap.size + 1 + 1 = w1.heap.size) := (by omega); have n2 : ¬ (w1.heap.size = w.heap.size + 1 + 1) := (by omega)))
          go_roundw
          case rel =>
            refine ⟨k + 1, by omega, by go_num, HZ2, Z.hide ?_, Z.hide ?_, Z.hide ?_, Z.hide ?_, Z.hide ?_⟩
            · exact (K.set_block (by dsimp only; omega)).trans ((K.set_block (by dsimp only; omega)).trans D0.out)
            · exact (K.set_block (by dsimp only; omega)).trans ((K.set_block (by dsimp only; omega)).trans D1.out)
            · exact (K.set_block (by dsimp only; omega)).trans ((K.set_block (by dsimp only; omega)).trans D2.out)
            · rw [HS.out]; exact Joins.block_setCell (Joins.block_setCell D3.out _) _
            · exact K.Ext.setCell (K.Ext.setCell HX2.out (by dsimp only; omega) _) (by dsimp only; omega) _
          case measure => simp [intOf]; omega
        · have HE : Hid (Z.raised F n = (Z.zeroFm, r.2)) := Z.hide (by
            have h1 := Z.powK_stop true (F.dg, F.tn) (k + 1) (by rw [HS.out]; exact hz) m (by omega)
            unfold Z.raised
            rw [← HM.out, ← HD.out, h1, HS.out, if_neg hz])
          go_wp2_with ((go_at_call 162; refine K.call (by with_reducible rfl) (by with_reducible rfl) (HR.out _) ?_; rintro e w2 ⟨rfl, hw2⟩; have D0 := Z.hide (K.Ext.block_of C0.out hw2); have D1 := Z.hide (K.Ext.block_of C1.out hw2); have D2 := Z.hide (K.Ext.block_of C2.out hw2); have D3 := Z.hide (K.Ext.block_of C3.out hw2); have HX2 : Hid (K.Ext w w2) := Z.hide (HX.out.trans hw2); have lw2 := hw2.size; have f0 : w2.cell? ⟨w1.heap.size, 0, none⟩ = some (.int .i64 x.1) := hw2.cell_of e0; have f1 : w2.cell? ⟨w1.heap.size, 1, none⟩ = some (.int .i64 x.2) := hw2.cell_of e1; have t0 : w2.frozen? ⟨w1.heap.size, 0, none⟩ = false := K.thaw_at D3.out; have t1 : w2.frozen? ⟨w1.heap.size, 1, none⟩ = false := K.thaw_at D3.out; have z0 : w2.cell? ⟨w.heap.size + 1 + 1, 0, none⟩ = some (.int .i64 0) := K.cell_at D2.out rfl; have z1 : w2.cell? ⟨w.heap.size + 1 + 1, 1, none⟩ = some (.int .i64 0) := K.cell_at D2.out rfl; have z2 : w2.cell? ⟨w.heap.size + 1 + 1, 2, none⟩ = some (.string ⟨#[]⟩) := K.cell_at D2.out rfl; have z3 : w2.cell? ⟨w.heap.size + 1 + 1, 3, none⟩ = some (.slice none 0 0) := K.cell_at D2.out rfl; have y0 : w2.frozen? ⟨w.heap.size + 1 + 1, 0, none⟩ = false := K.thaw_at D2.out; have y1 : w2.frozen? ⟨w.heap.size + 1 + 1, 1, none⟩ = false := K.thaw_at D2.out; have y2 : w2.frozen? ⟨w.heap.size + 1 + 1, 2, none⟩ = false := K.thaw_at D2.out; have y3 : w2.frozen? ⟨w.heap.size + 1 + 1, 3, none⟩ = false := K.thaw_at D2.out; have n1 : ¬ (w.heap.size + 1 + 1 = w1.heap.size) := (by omega); have n2 : ¬ (w1.heap.size = w.heap.size + 1 + 1) := (by omega)))
          rw [HE.out]
          refine bodyPost_ret (v := .tuple #[.agg #[.int .i64 0, .int .i64 0, .string ⟨#[]⟩, .slice none 0 0], .int .i64 r.2]) (by unfold results; rw [Try.results109]; go_simp) rfl ⟨⟨_, rfl, K.own_nil _ _ _⟩, ?_⟩
          repeat with_reducible refine K.Ext.setCell ?_ (by dsimp only; omega) _
          exact HX2.out
      · obtain rfl : g = false := by rw [hgn]; simpa using hp
        clear hgn
        simp only [Bool.false_eq_true, if_false] at HR
        by_cases hz : r.2 = 0
        · have HZ2 : Hid ((Z.powK false (F.dg, F.tn) (k + 1)).2 = 0) := Z.hide (by rw [HS.out]; exact hz)
          go_wp2_with ((go_at_call 169; refine K.call (by with_reducible rfl) (by with_reducible rfl) (HR.out _) ?_; rintro e w2 ⟨rfl, hw2⟩; have D0 := Z.hide (K.Ext.block_of C0.out hw2); have D1 := Z.hide (K.Ext.block_of C1.out hw2); have D2 := Z.hide (K.Ext.block_of C2.out hw2); have D3 := Z.hide (K.Ext.block_of C3.out hw2); have HX2 : Hid (K.Ext w w2) := Z.hide (HX.out.trans hw2); have lw2 := hw2.size; have f0 : w2.cell? ⟨w1.heap.size, 0, none⟩ = some (.int .i64 x.1) := hw2.cell_of e0; have f1 : w2.cell? ⟨w1.heap.size, 1, none⟩ = some (.int .i64 x.2) := hw2.cell_of e1; have t0 : w2.frozen? ⟨w1.heap.size, 0, none⟩ = false := K.thaw_at D3.out; have t1 : w2.frozen? ⟨w1.heap.size, 1, none⟩ = false := K.thaw_at D3.out; have z0 : w2.cell? ⟨w.heap.size + 1 + 1, 0, none⟩ = some (.int .i64 0) := K.cell_at D2.out rfl; have z1 : w2.cell? ⟨w.heap.size + 1 + 1, 1, none⟩ = some (.int .i64 0) := K.cell_at D2.out rfl; have z2 : w2.cell? ⟨w.heap.size + 1 + 1, 2, none⟩ = some (.string ⟨#[]⟩) := K.cell_at D2.out rfl; have z3 : w2.cell? ⟨w.heap.size + 1 + 1, 3, none⟩ = some (.slice none 0 0) := K.cell_at D2.out rfl; have y0 : w2.frozen? ⟨w.heap.size + 1 + 1, 0, none⟩ = false := K.thaw_at D2.out; have y1 : w2.frozen? ⟨w.heap.size + 1 + 1, 1, none⟩ = false := K.thaw_at D2.out; have y2 : w2.frozen? ⟨w.heap.size + 1 + 1, 2, none⟩ = false := K.thaw_at D2.out; have y3 : w2.frozen? ⟨w.heap.size + 1 + 1, 3, none⟩ = false := K.thaw_at D2.out; have n1 : ¬ (w.heap.size + 1 + 1 = w1.heap.size) := (by omega); have n2 : ¬ (w1.heap.size = w.heap.size + 1 + 1) := (by omega)))
          go_roundw
          case rel =>
            refine ⟨k + 1, by omega, by go_num, HZ2, Z.hide ?_, Z.hide ?_, Z.hide ?_, Z.hide ?_, Z.hide ?_⟩
            · exact (K.set_block (by dsimp only; omega)).trans ((K.set_block (by dsimp only; omega)).trans D0.out)
            · exact (K.set_block (by dsimp only; omega)).trans ((K.set_block (by dsimp only; omega)).trans D1.out)
            · exact (K.set_block (by dsimp only; omega)).trans ((K.set_block (by dsimp only; omega)).trans D2.out)
            · rw [HS.out]; exact Joins.block_setCell (Joins.block_setCell D3.out _) _
            · exact K.Ext.setCell (K.Ext.setCell HX2.out (by dsimp only; omega) _) (by dsimp only; omega) _
          case measure => simp [intOf]; omega
        · have HE : Hid (Z.raised F n = (Z.zeroFm, r.2)) := Z.hide (by
            have h1 := Z.powK_stop false (F.dg, F.tn) (k + 1) (by rw [HS.out]; exact hz) m (by omega)
            unfold Z.raised
            rw [← HM.out, ← HD.out, h1, HS.out, if_neg hz])
          go_wp2_with ((go_at_call 169; refine K.call (by with_reducible rfl) (by with_reducible rfl) (HR.out _) ?_; rintro e w2 ⟨rfl, hw2⟩; have D0 := Z.hide (K.Ext.block_of C0.out hw2); have D1 := Z.hide (K.Ext.block_of C1.out hw2); have D2 := Z.hide (K.Ext.block_of C2.out hw2); have D3 := Z.hide (K.Ext.block_of C3.out hw2); have HX2 : Hid (K.Ext w w2) := Z.hide (HX.out.trans hw2); have lw2 := hw2.size; have f0 : w2.cell? ⟨w1.heap.size, 0, none⟩ = some (.int .i64 x.1) := hw2.cell_of e0; have f1 : w2.cell? ⟨w1.heap.size, 1, none⟩ = some (.int .i64 x.2) := hw2.cell_of e1; have t0 : w2.frozen? ⟨w1.heap.size, 0, none⟩ = false := K.thaw_at D3.out; have t1 : w2.frozen? ⟨w1.heap.size, 1, none⟩ = false := K.thaw_at D3.out; have z0 : w2.cell? ⟨w.heap.size + 1 + 1, 0, none⟩ = some (.int .i64 0) := K.cell_at D2.out rfl; have z1 : w2.cell? ⟨w.heap.size + 1 + 1, 1, none⟩ = some (.int .i64 0) := K.cell_at D2.out rfl; have z2 : w2.cell? ⟨w.heap.size + 1 + 1, 2, none⟩ = some (.string ⟨#[]⟩) := K.cell_at D2.out rfl; have z3 : w2.cell? ⟨w.heap.size + 1 + 1, 3, none⟩ = some (.slice none 0 0) := K.cell_at D2.out rfl; have y0 : w2.frozen? ⟨w.heap.size + 1 + 1, 0, none⟩ = false := K.thaw_at D2.out; have y1 : w2.frozen? ⟨w.heap.size + 1 + 1, 1, none⟩ = false := K.thaw_at D2.out; have y2 : w2.frozen? ⟨w.heap.size + 1 + 1, 2, none⟩ = false := K.thaw_at D2.out; have y3 : w2.frozen? ⟨w.heap.size + 1 + 1, 3, none⟩ = false := K.thaw_at D2.out; have n1 : ¬ (w.heap.size + 1 + 1 = w1.heap.size) := (by omega); have n2 : ¬ (w1.heap.size = w.heap.size + 1 + 1) := (by omega)))
          rw [HE.out]
          refine bodyPost_ret (v := .tuple #[.agg #[.int .i64 0, .int .i64 0, .string ⟨#[]⟩, .slice none 0 0], .int .i64 r.2]) (by unfold results; rw [Try.results109]; go_simp) rfl ⟨⟨_, rfl, K.own_nil _ _ _⟩, ?_⟩
          repeat with_reducible refine K.Ext.setCell ?_ (by dsimp only; omega) _
          exact HX2.out
    · obtain rfl : k = m := by omega
      have tm : ¬ ((k : Int) < max n (-n)) := by omega
      obtain ⟨r, hr⟩ : ∃ r, r = (Z.powK g (F.dg, F.tn) k).1 := ⟨_, rfl⟩
      rw [← hr] at e0 e1
      have HZm := HZ.out
      obtain ⟨M, hM⟩ : ∃ M, M = Z.madeOr r.1 r.2 (Z.powF F n) := ⟨_, rfl⟩
      have HE : Hid (Z.raised F n = M) := Z.hide (by
        unfold Z.raised
        rw [← HM.out, ← HD.out, if_pos HZm, ← hr, hM])
      have HK : Hid (Calls Try.prog 163 #[.agg #[.int .i64 r.1, .int .i64 r.2], .func (.func 170) #[] #[.pointer (some ⟨w.heap.size + 1, 0, none⟩), .pointer (some ⟨w.heap.size, 0, none⟩)]] wr fun e w' => (∃ p', e = .returned (.tuple #[.agg #[.int .i64 M.1.dg, .int .i64 M.1.tn, .string M.1.nm, p'], .int .i64 M.2]) ∧ K.own w' wr.heap.size w'.heap.size p' M.1.pw) ∧ K.Ext wr w') := Z.hide (by
        rw [hM]
        exact madeOf_any r.1 r.2 (Z.powF F n) 170 _ _ wr HG.out (fun i w' hi hx => raised1_any F n i _ _ w' hi HFF.out ⟨n1, n2⟩ (hx.cell_of d2) (hx.cell_of d0) (hx.cell_of d1) (hx.cell_of (K.cell_at C0.out rfl)) (hx.cell_of (K.cell_at C0.out rfl)) (K.ints.ext HH.out (HX.out.trans hx))))
      clear hr hM HZm
      have hg := HG.out
      go_wp2_with ((go_at_call 163; refine K.call (by with_reducible rfl) (by with_reducible rfl) (HK.out) ?_; rintro e w2 ⟨⟨p2, rfl, hp2⟩, hw2⟩; have hp3 := hp2; obtain ⟨o2, c2, rfl, _⟩ := hp3; have D2 := Z.hide (K.Ext.block_of C2.out hw2); have HX2 : Hid (K.Ext w w2) := Z.hide (HX.out.trans hw2); have lw2 := hw2.size; have z0 : w2.cell? ⟨w.heap.size + 1 + 1, 0, none⟩ = some (.int .i64 0) := K.cell_at D2.out rfl; have z1 : w2.cell? ⟨w.heap.size + 1 + 1, 1, none⟩ = some (.int .i64 0) := K.cell_at D2.out rfl; have z2 : w2.cell? ⟨w.heap.size + 1 + 1, 2, none⟩ = some (.string ⟨#[]⟩) := K.cell_at D2.out rfl; have z3 : w2.cell? ⟨w.heap.size + 1 + 1, 3, none⟩ = some (.slice none 0 0) := K.cell_at D2.out rfl; have y0 : w2.frozen? ⟨w.heap.size + 1 + 1, 0, none⟩ = false := K.thaw_at D2.out; have y1 : w2.frozen? ⟨w.heap.size + 1 + 1, 1, none⟩ = false := K.thaw_at D2.out; have y2 : w2.frozen? ⟨w.heap.size + 1 + 1, 2, none⟩ = false := K.thaw_at D2.out; have y3 : w2.frozen? ⟨w.heap.size + 1 + 1, 3, none⟩ = false := K.thaw_at D2.out))
      rw [HE.out]
      refine bodyPost_ret (v := .tuple #[.agg #[.int .i64 M.1.dg, .int .i64 M.1.tn, .string M.1.nm, .slice o2 M.1.pw.length c2], .int .i64 M.2]) (by unfold results; rw [Try.results109]; go_simp) rfl ⟨⟨_, rfl, ?_⟩, ?_⟩
      · refine K.own.mono (lo := wr.heap.size) (hi := w2.heap.size) ?_ (by omega) (by simp)
        repeat with_reducible refine K.own.set ?_ _ (.inl (by dsimp only; omega)) _
        exact hp2
      · repeat with_reducible refine K.Ext.setCell ?_ (by dsimp only; omega) _
        exact HX2.out
end Go.Proofs.Ythmnlbgbacbocaa
end
section
namespace Go.Proofs.Ythmnlbgbacbocaa
open Go.RowKit
set_option maxRecDepth 100000 in
set_option maxHeartbeats 12800000 in
theorem spec_PowerFormula (F : Z.Fm) (n : Int) {lo hi : Nat} {p : Value} (w : World) (hm : F.pw.length ≤ 1048576) (hn : F.nm.size ≤ 1048576) (h : K.ints w lo hi p F.pw) :
    Calls Try.prog 31 #[.agg #[.int .i64 F.dg, .int .i64 F.tn, .string F.nm, p], .int .i64 n] w fun e w' => (∃ p', e = .returned (.tuple #[.agg #[.int .i64 ((Z.PowerFormula F n).1).dg, .int .i64 ((Z.PowerFormula F n).1).tn, .string ((Z.PowerFormula F n).1).nm, p'], .int .i64 (Z.PowerFormula F n).2]) ∧ K.ints w' w.heap.size w'.heap.size p' (Z.PowerFormula F n).1.pw) ∧ K.Ext w w' := by
  have g1 := h
  obtain ⟨o, cap, rfl, _⟩ := g1
  cases hF : Z.isFormula F
  · have HE : Hid (Z.PowerFormula F n = (Z.zeroFm, 1)) := Z.hide (by unfold Z.PowerFormula; rw [hF]; rfl)
    go_enter Try.func31, Try.ntmps31
    go_wp2_with (((go_at_call 91; refine K.call (by with_reducible rfl) (by with_reducible rfl) (spec_IsFormula F _ hm hn (h.ext (by repeat' (first | with_reducible exact K.Ext.refl _ | with_reducible assumption | with_reducible refine K.Ext.drew ?_ | with_reducible refine K.Ext.alloc ?_ _ | with_reducible refine K.Ext.setCell ?_ ?_ _ | with_reducible refine K.Ext.trans ?_ (by with_reducible assumption) | (dsimp only; omega) | omega | exact K.Ext.refl _ | assumption | apply K.Ext.drew | refine K.Ext.alloc ?_ _ | refine K.Ext.setCell ?_ ?_ _ | (simp; done) | (simp; omega) | refine K.Ext.trans ?_ (by assumption))))) ?_; rintro e w1 ⟨rfl, hw1⟩; obtain ⟨hcw1, hfw1⟩ := hw1.facts); have c_w1_0_0 : w1.cell? ⟨w.heap.size, 0, none⟩ = some (.int .i64 (F.dg)) := hw1.cell_of (by go_simp); have f_w1_0_0 : w1.frozen? ⟨w.heap.size, 0, none⟩ = false := hw1.thaw_of (by go_simp) (by go_simp); have c_w1_0_1 : w1.cell? ⟨w.heap.size, 1, none⟩ = some (.int .i64 (F.tn)) := hw1.cell_of (by go_simp); have f_w1_0_1 : w1.frozen? ⟨w.heap.size, 1, none⟩ = false := hw1.thaw_of (by go_simp) (by go_simp); have c_w1_0_2 : w1.cell? ⟨w.heap.size, 2, none⟩ = some (.string F.nm) := hw1.cell_of (by go_simp); have f_w1_0_2 : w1.frozen? ⟨w.heap.size, 2, none⟩ = false := hw1.thaw_of (by go_simp) (by go_simp); have c_w1_0_3 : w1.cell? ⟨w.heap.size, 3, none⟩ = some (.slice o F.pw.length cap) := hw1.cell_of (by go_simp); have f_w1_0_3 : w1.frozen? ⟨w.heap.size, 3, none⟩ = false := hw1.thaw_of (by go_simp) (by go_simp); have c_w1_1_0 : w1.cell? ⟨w.heap.size + 1, 0, none⟩ = some (.int .i64 (0)) := hw1.cell_of (by go_simp); have f_w1_1_0 : w1.frozen? ⟨w.heap.size + 1, 0, none⟩ = false := hw1.thaw_of (by go_simp) (by go_simp); have c_w1_1_1 : w1.cell? ⟨w.heap.size + 1, 1, none⟩ = some (.int .i64 (0)) := hw1.cell_of (by go_simp); have f_w1_1_1 : w1.frozen? ⟨w.heap.size + 1, 1, none⟩ = false := hw1.thaw_of (by go_simp) (by go_simp); have c_w1_1_2 : w1.cell? ⟨w.heap.size + 1, 2, none⟩ = some (.string ⟨#[]⟩) := hw1.cell_of (by go_simp); have f_w1_1_2 : w1.frozen? ⟨w.heap.size + 1, 2, none⟩ = false := hw1.thaw_of (by go_simp) (by go_simp); have c_w1_1_3 : w1.cell? ⟨w.heap.size + 1, 3, none⟩ = some (.slice none 0 0) := hw1.cell_of (by go_simp); have f_w1_1_3 : w1.frozen? ⟨w.heap.size + 1, 3, none⟩ = false := hw1.thaw_of (by go_simp) (by go_simp)))
    rw [HE.out]
    refine bodyPost_ret (v := .tuple #[.agg #[.int .i64 0, .int .i64 0, .string ⟨#[]⟩, .slice none 0 0], .int .i64 1]) (by unfold results; rw [Try.results31]; go_simp) rfl ⟨⟨_, rfl, K.ints_nil _ _ _⟩, ?_⟩
    repeat with_reducible refine K.Ext.setCell ?_ (by dsimp only; omega) _
    exact (by repeat' (first | with_reducible exact K.Ext.refl _ | with_reducible assumption | with_reducible refine K.Ext.drew ?_ | with_reducible refine K.Ext.alloc ?_ _ | with_reducible refine K.Ext.setCell ?_ ?_ _ | with_reducible refine K.Ext.trans ?_ (by with_reducible assumption) | (dsimp only; omega) | omega | exact K.Ext.refl _ | assumption | apply K.Ext.drew | refine K.Ext.alloc ?_ _ | refine K.Ext.setCell ?_ ?_ _ | (simp; done) | (simp; omega) | refine K.Ext.trans ?_ (by assumption)))
  · cases h3 : Z.pow3 n
    · have HE : Hid (Z.PowerFormula F n = (Z.zeroFm, 2)) := Z.hide (by unfold Z.PowerFormula; rw [hF, h3]; rfl)
      have H3 : ∀ w : World, Calls Try.prog 96 #[.int .i64 n, .int .i64 (-3), .int .i64 3] w fun e w' => e = .returned (.bool false) ∧ w = w' := fun w => by
        have h_ := l01In_any n (-3) 3 w
        rwa [show (decide (-3 ≤ n) && decide (n ≤ 3)) = false from h3] at h_
      have H3' := Z.hide H3
      clear h3 H3
      go_enter Try.func31, Try.ntmps31
      go_wp2_with (first | ((go_at_call 91; refine K.call (by with_reducible rfl) (by with_reducible rfl) (spec_IsFormula F _ hm hn (h.ext (by repeat' (first | with_reducible exact K.Ext.refl _ | with_reducible assumption | with_reducible refine K.Ext.drew ?_ | with_reducible refine K.Ext.alloc ?_ _ | with_reducible refine K.Ext.setCell ?_ ?_ _ | with_reducible refine K.Ext.trans ?_ (by with_reducible assumption) | (dsimp only; omega) | omega | exact K.Ext.refl _ | assumption | apply K.Ext.drew | refine K.Ext.alloc ?_ _ | refine K.Ext.setCell ?_ ?_ _ | (simp; done) | (simp; omega) | refine K.Ext.trans ?_ (by assumption))))) ?_; rintro e w1 ⟨rfl, hw1⟩; obtain ⟨hcw1, hfw1⟩ := hw1.facts); have c_w1_0_0 : w1.cell? ⟨w.heap.size, 0, none⟩ = some (.int .i64 (F.dg)) := hw1.cell_of (by go_simp); have f_w1_0_0 : w1.frozen? ⟨w.heap.size, 0, none⟩ = false := hw1.thaw_of (by go_simp) (by go_simp); have c_w1_0_1 : w1.cell? ⟨w.heap.size, 1, none⟩ = some (.int .i64 (F.tn)) := hw1.cell_of (by go_simp); have f_w1_0_1 : w1.frozen? ⟨w.heap.size, 1, none⟩ = false := hw1.thaw_of (by go_simp) (by go_simp); have c_w1_0_2 : w1.cell? ⟨w.heap.size, 2, none⟩ = some (.string F.nm) := hw1.cell_of (by go_simp); have f_w1_0_2 : w1.frozen? ⟨w.heap.size, 2, none⟩ = false := hw1.thaw_of (by go_simp) (by go_simp); have c_w1_0_3 : w1.cell? ⟨w.heap.size, 3, none⟩ = some (.slice o F.pw.length cap) := hw1.cell_of (by go_simp); have f_w1_0_3 : w1.frozen? ⟨w.heap.size, 3, none⟩ = false := hw1.thaw_of (by go_simp) (by go_simp); have c_w1_1_0 : w1.cell? ⟨w.heap.size + 1, 0, none⟩ = some (.int .i64 (0)) := hw1.cell_of (by go_simp); have f_w1_1_0 : w1.frozen? ⟨w.heap.size + 1, 0, none⟩ = false := hw1.thaw_of (by go_simp) (by go_simp); have c_w1_1_1 : w1.cell? ⟨w.heap.size + 1, 1, none⟩ = some (.int .i64 (0)) := hw1.cell_of (by go_simp); have f_w1_1_1 : w1.frozen? ⟨w.heap.size + 1, 1, none⟩ = false := hw1.thaw_of (by go_simp) (by go_simp); have c_w1_1_2 : w1.cell? ⟨w.heap.size + 1, 2, none⟩ = some (.string ⟨#[]⟩) := hw1.cell_of (by go_simp); have f_w1_1_2 : w1.frozen? ⟨w.heap.size + 1, 2, none⟩ = false := hw1.thaw_of (by go_simp) (by go_simp); have c_w1_1_3 : w1.cell? ⟨w.heap.size + 1, 3, none⟩ = some (.slice none 0 0) := hw1.cell_of (by go_simp); have f_w1_1_3 : w1.frozen? ⟨w.heap.size + 1, 3, none⟩ = false := hw1.thaw_of (by go_simp) (by go_simp)) | (go_at_call 96; refine K.call (by with_reducible rfl) (by with_reducible rfl) (H3'.out _) ?_; rintro e w' ⟨rfl, rfl⟩))
      rw [HE.out]
      refine bodyPost_ret (v := .tuple #[.agg #[.int .i64 0, .int .i64 0, .string ⟨#[]⟩, .slice none 0 0], .int .i64 2]) (by unfold results; rw [Try.results31]; go_simp) rfl ⟨⟨_, rfl, K.ints_nil _ _ _⟩, ?_⟩
      repeat with_reducible refine K.Ext.setCell ?_ (by dsimp only; omega) _
      exact (by repeat' (first | with_reducible exact K.Ext.refl _ | with_reducible assumption | with_reducible refine K.Ext.drew ?_ | with_reducible refine K.Ext.alloc ?_ _ | with_reducible refine K.Ext.setCell ?_ ?_ _ | with_reducible refine K.Ext.trans ?_ (by with_reducible assumption) | (dsimp only; omega) | omega | exact K.Ext.refl _ | assumption | apply K.Ext.drew | refine K.Ext.alloc ?_ _ | refine K.Ext.setCell ?_ ?_ _ | (simp; done) | (simp; omega) | refine K.Ext.trans ?_ (by assumption)))
    · obtain ⟨n1, n2⟩ : -3 ≤ n ∧ n ≤ 3 := by simp only [Z.pow3, Bool.and_eq_true, decide_eq_true_eq] at h3; exact h3
      have HP : Hid (Z.PowerFormula F n = Z.raised F n) := Z.hide (Z.PowerFormula_eq hF ⟨n1, n2⟩)
      have H3 : ∀ w : World, Calls Try.prog 96 #[.int .i64 n, .int .i64 (-3), .int .i64 3] w fun e w' => e = .returned (.bool true) ∧ w = w' := fun w => by
        have h_ := l01In_any n (-3) 3 w
        rwa [show (decide (-3 ≤ n) && decide (n ≤ 3)) = true from h3] at h_
      have H3' := Z.hide H3
      obtain ⟨m, hmn⟩ : ∃ m : Nat, m = n.natAbs := ⟨_, rfl⟩
      have hm3 : m ≤ 3 := by omega
      have HAB : Hid (∀ w : World, Calls Try.prog 110 #[.int .i64 n] w fun e w' => e = .returned (.int .i64 (m : Int)) ∧ w = w') := Z.hide (fun w => by rw [hmn]; exact l01Abs_any n w (by omega) (by omega))
      obtain ⟨g, hgd⟩ : ∃ g, g = decide (0 < n) := ⟨_, rfl⟩
      have HM := Z.hide hmn
      have HD := Z.hide hgd
      have HF := Z.hide hF
      have HH := Z.hide h
      clear h3 H3 hmn hgd
      go_enter Try.func31, Try.ntmps31
      go_wp2_with (first | ((go_at_call 91; refine K.call (by with_reducible rfl) (by with_reducible rfl) (spec_IsFormula F _ hm hn (h.ext (by repeat' (first | with_reducible exact K.Ext.refl _ | with_reducible assumption | with_reducible refine K.Ext.drew ?_ | with_reducible refine K.Ext.alloc ?_ _ | with_reducible refine K.Ext.setCell ?_ ?_ _ | with_reducible refine K.Ext.trans ?_ (by with_reducible assumption) | (dsimp only; omega) | omega | exact K.Ext.refl _ | assumption | apply K.Ext.drew | refine K.Ext.alloc ?_ _ | refine K.Ext.setCell ?_ ?_ _ | (simp; done) | (simp; omega) | refine K.Ext.trans ?_ (by assumption))))) ?_; rintro e w1 ⟨rfl, hw1⟩; obtain ⟨hcw1, hfw1⟩ := hw1.facts); have c_w1_0_0 : w1.cell? ⟨w.heap.size, 0, none⟩ = some (.int .i64 (F.dg)) := hw1.cell_of (by go_simp); have f_w1_0_0 : w1.frozen? ⟨w.heap.size, 0, none⟩ = false := hw1.thaw_of (by go_simp) (by go_simp); have c_w1_0_1 : w1.cell? ⟨w.heap.size, 1, none⟩ = some (.int .i64 (F.tn)) := hw1.cell_of (by go_simp); have f_w1_0_1 : w1.frozen? ⟨w.heap.size, 1, none⟩ = false := hw1.thaw_of (by go_simp) (by go_simp); have c_w1_0_2 : w1.cell? ⟨w.heap.size, 2, none⟩ = some (.string F.nm) := hw1.cell_of (by go_simp); have f_w1_0_2 : w1.frozen? ⟨w.heap.size, 2, none⟩ = false := hw1.thaw_of (by go_simp) (by go_simp); have c_w1_0_3 : w1.cell? ⟨w.heap.size, 3, none⟩ = some (.slice o F.pw.length cap) := hw1.cell_of (by go_simp); have f_w1_0_3 : w1.frozen? ⟨w.heap.size, 3, none⟩ = false := hw1.thaw_of (by go_simp) (by go_simp); have c_w1_1_0 : w1.cell? ⟨w.heap.size + 1, 0, none⟩ = some (.int .i64 (0)) := hw1.cell_of (by go_simp); have f_w1_1_0 : w1.frozen? ⟨w.heap.size + 1, 0, none⟩ = false := hw1.thaw_of (by go_simp) (by go_simp); have c_w1_1_1 : w1.cell? ⟨w.heap.size + 1, 1, none⟩ = some (.int .i64 (0)) := hw1.cell_of (by go_simp); have f_w1_1_1 : w1.frozen? ⟨w.heap.size + 1, 1, none⟩ = false := hw1.thaw_of (by go_simp) (by go_simp); have c_w1_1_2 : w1.cell? ⟨w.heap.size + 1, 2, none⟩ = some (.string ⟨#[]⟩) := hw1.cell_of (by go_simp); have f_w1_1_2 : w1.frozen? ⟨w.heap.size + 1, 2, none⟩ = false := hw1.thaw_of (by go_simp) (by go_simp); have c_w1_1_3 : w1.cell? ⟨w.heap.size + 1, 3, none⟩ = some (.slice none 0 0) := hw1.cell_of (by go_simp); have f_w1_1_3 : w1.frozen? ⟨w.heap.size + 1, 3, none⟩ = false := hw1.thaw_of (by go_simp) (by go_simp)) | (go_at_call 96; refine K.call (by with_reducible rfl) (by with_reducible rfl) (H3'.out _) ?_; rintro e w' ⟨rfl, rfl⟩))
      have s1 : w.heap.size + 2 ≤ w1.heap.size := by have h_ := hw1.size; simp at h_; omega
      have B0 : w1.heap[w.heap.size]? = some (.cells #[.int .i64 F.dg, .int .i64 F.tn, .string F.nm, .slice o F.pw.length cap] 32) := K.Ext.block_of (((K.Ext.refl _).alloc _).block (K.block_new rfl)) hw1
      have B1 : w1.heap[w.heap.size + 1]? = some (.cells #[.int .i64 0, .int .i64 0, .string ⟨#[]⟩, .slice none 0 0] 32) := K.Ext.block_of (K.block_new (by simp)) hw1
      have R0 := Z.hide B0
      have R1 := Z.hide B1
      have HX1 : Hid (K.Ext w w1) := Z.hide (by repeat' (first | with_reducible exact K.Ext.refl _ | with_reducible assumption | with_reducible refine K.Ext.drew ?_ | with_reducible refine K.Ext.alloc ?_ _ | with_reducible refine K.Ext.setCell ?_ ?_ _ | with_reducible refine K.Ext.trans ?_ (by with_reducible assumption) | (dsimp only; omega) | omega | exact K.Ext.refl _ | assumption | apply K.Ext.drew | refine K.Ext.alloc ?_ _ | refine K.Ext.setCell ?_ ?_ _ | (simp; done) | (simp; omega) | refine K.Ext.trans ?_ (by assumption)))
      clear B0 B1 hF h
      go_loopw [7] (fun i wr => ∃ k : Nat, k ≤ m ∧ i = .int .i64 k ∧ Hid ((Z.powK g (F.dg, F.tn) k).2 = 0) ∧ Hid (wr.heap[w.heap.size]? = some (.cells #[.int .i64 F.dg, .int .i64 F.tn, .string F.nm, .slice o F.pw.length cap] 32)) ∧ Hid (wr.heap[w.heap.size + 1]? = some (.cells #[.int .i64 0, .int .i64 0, .string ⟨#[]⟩, .slice none 0 0] 32)) ∧ Hid (wr.heap[w1.heap.size]? = some (.cells #[.int .i64 (Z.powK g (F.dg, F.tn) k).1.1, .int .i64 (Z.powK g (F.dg, F.tn) k).1.2] 30)) ∧ Hid (K.Ext w wr)) (fun i _ => m - (intOf i).toNat)
      case atStart =>
        refine ⟨0, Nat.zero_le _, rfl, Z.hide rfl, Z.hide ?_, Z.hide ?_, Z.hide ?_, Z.hide (by repeat' (first | with_reducible exact K.Ext.refl _ | with_reducible assumption | with_reducible refine K.Ext.drew ?_ | with_reducible refine K.Ext.alloc ?_ _ | with_reducible refine K.Ext.setCell ?_ ?_ _ | with_reducible refine K.Ext.trans ?_ (by with_reducible assumption) | (dsimp only; omega) | omega | exact K.Ext.refl _ | assumption | apply K.Ext.drew | refine K.Ext.alloc ?_ _ | refine K.Ext.setCell ?_ ?_ _ | (simp; done) | (simp; omega) | refine K.Ext.trans ?_ (by assumption)))⟩
        · exact K.Ext.block_of R0.out (by repeat' (first | with_reducible exact K.Ext.refl _ | with_reducible assumption | with_reducible refine K.Ext.drew ?_ | with_reducible refine K.Ext.alloc ?_ _ | with_reducible refine K.Ext.setCell ?_ ?_ _ | with_reducible refine K.Ext.trans ?_ (by with_reducible assumption) | (dsimp only; omega) | omega | exact K.Ext.refl _ | assumption | apply K.Ext.drew | refine K.Ext.alloc ?_ _ | refine K.Ext.setCell ?_ ?_ _ | (simp; done) | (simp; omega) | refine K.Ext.trans ?_ (by assumption)))
        · exact K.Ext.block_of R1.out (by repeat' (first | with_reducible exact K.Ext.refl _ | with_reducible assumption | with_reducible refine K.Ext.drew ?_ | with_reducible refine K.Ext.alloc ?_ _ | with_reducible refine K.Ext.setCell ?_ ?_ _ | with_reducible refine K.Ext.trans ?_ (by with_reducible assumption) | (dsimp only; omega) | omega | exact K.Ext.refl _ | assumption | apply K.Ext.drew | refine K.Ext.alloc ?_ _ | refine K.Ext.setCell ?_ ?_ _ | (simp; done) | (simp; omega) | refine K.Ext.trans ?_ (by assumption)))
        · exact K.block_new rfl
      case round =>
        obtain ⟨k, hk, rfl, HZ, C0, C1, C3, HX⟩ := hrel
        clear R0 R1 HX1 hw1
        have k0 : (0 : Int) ≤ (k : Int) := Int.natCast_nonneg k
        have d0 : wr.cell? ⟨w.heap.size, 0, none⟩ = some (.int .i64 F.dg) := K.cell_at C0.out rfl
        have d1 : wr.cell? ⟨w.heap.size, 1, none⟩ = some (.int .i64 F.tn) := K.cell_at C0.out rfl
        have e0 : wr.cell? ⟨w1.heap.size, 0, none⟩ = some (.int .i64 (Z.powK g (F.dg, F.tn) k).1.1) := K.cell_at C3.out rfl
        have e1 : wr.cell? ⟨w1.heap.size, 1, none⟩ = some (.int .i64 (Z.powK g (F.dg, F.tn) k).1.2) := K.cell_at C3.out rfl
        have lw : w1.heap.size < wr.heap.size := (Array.getElem?_eq_some_iff.1 C3.out).1
        have m0 : (m : Int) = n ∨ (m : Int) = -n := by have := HM.out; omega
        by_cases hlt : k < m
        · have k1 : (k : Int) < (m : Int) := by omega
          obtain ⟨x, hx⟩ : ∃ x, x = (Z.powK g (F.dg, F.tn) k).1 := ⟨_, rfl⟩
          rw [← hx] at e0 e1
          obtain ⟨q, hq⟩ : ∃ q, q = Z.MultiplyFigures x (F.dg, F.tn) := ⟨_, rfl⟩
          have HQ : Hid (∀ w' : World, Calls Try.prog 101 #[.agg #[.int .i64 x.1, .int .i64 x.2], .agg #[.int .i64 F.dg, .int .i64 F.tn]] w' fun e w'' => e = .returned (.tuple #[.agg #[.int .i64 q.1.1, .int .i64 q.1.2], .int .i64 q.2]) ∧ K.Ext w' w'') := Z.hide (fun w' => by rw [hq]; exact spec_MultiplyFigures x (F.dg, F.tn) w')
          obtain ⟨r, hr⟩ : ∃ r, r = Z.pw1 g x (F.dg, F.tn) := ⟨_, rfl⟩
          have HS : Hid (Z.powK g (F.dg, F.tn) (k + 1) = r) := Z.hide (by rw [Z.powK_succ _ _ _ HZ.out, hr, hx])
          have HEb : Hid (¬ r.2 = 0 → Z.PowerFormula F n = (Z.zeroFm, r.2)) := Z.hide (fun hz => by
            have h1 := Z.powK_stop g (F.dg, F.tn) (k + 1) (by rw [HS.out]; exact hz) m (by omega)
            rw [HP.out]
            unfold Z.raised
            rw [← HM.out, ← HD.out, h1, HS.out, if_neg hz])
          have hgn : g = decide (0 < n) := HD.out
          by_cases hp : 0 < n
          · obtain rfl : g = true := by rw [hgn]; simpa using hp
            obtain rfl : q = r := by rw [hq, hr]; rfl
            clear hgn hx hq hr
            by_cases hz : q.2 = 0
            · have HZ2 : Hid ((Z.powK true (F.dg, F.tn) (k + 1)).2 = 0) := Z.hide (by rw [HS.out]; exact hz)
              go_wp2_with (first | (go_at_call 110; refine K.call (by with_reducible rfl) (by with_reducible rfl) (HAB.out _) ?_; rintro e w' ⟨rfl, rfl⟩) | ((go_at_call 101; refine K.call (by with_reducible rfl) (by with_reducible rfl) (HQ.out _) ?_; rintro e w2 ⟨rfl, hw2⟩; have D0 := Z.hide (K.Ext.block_of C0.out hw2); have D1 := Z.hide (K.Ext.block_of C1.out hw2); have D3 := Z.hide (K.Ext.block_of C3.out hw2); have HX2 : Hid (K.Ext w w2) := Z.hide (HX.out.trans hw2); have lw2 := hw2.size; have b1_c0 : w2.cell? ⟨w1.heap.size, 0, none⟩ = some (.int .i64 (_)) := K.cell_at D3.out rfl; have b1_f0 : w2.frozen? ⟨w1.heap.size, 0, none⟩ = false := K.thaw_at D3.out; have b1_c1 : w2.cell? ⟨w1.heap.size, 1, none⟩ = some (.int .i64 (_)) := K.cell_at D3.out rfl; have b1_f1 : w2.frozen? ⟨w1.heap.size, 1, none⟩ = false := K.thaw_at D3.out; have n1 : ¬ (w1.heap.size = w2.heap.size) := (by omega); have y1 : w1.heap.size < w2.heap.size := (by omega); have y2 : w.heap.size < w2.heap.size := (by omega); have n2 : ¬ (w2.heap.size = w1.heap.size) := (by omega))))
              go_roundw
              case rel =>
                refine ⟨k + 1, by omega, by go_num, HZ2, Z.hide ?_, Z.hide ?_, Z.hide ?_, Z.hide ?_⟩
                · refine K.Ext.block_of ?_ ((K.Ext.refl _).alloc _)
                  iterate 2 with_reducible refine Eq.trans (K.set_block (by dsimp only; omega)) ?_
                  exact D0.out
                · refine K.Ext.block_of ?_ ((K.Ext.refl _).alloc _)
                  iterate 2 with_reducible refine Eq.trans (K.set_block (by dsimp only; omega)) ?_
                  exact D1.out
                · rw [HS.out]
                  exact K.Ext.block_of (Joins.block_setCell (Joins.block_setCell D3.out _) _) ((K.Ext.refl _).alloc _)
                · with_reducible refine K.Ext.alloc ?_ _
                  iterate 2 with_reducible refine K.Ext.setCell ?_ (by dsimp only; omega) _
                  exact HX2.out
              case measure => simp [intOf]; omega
            · have HE : Hid (Z.PowerFormula F n = (Z.zeroFm, q.2)) := Z.hide (HEb.out hz)
              go_wp2_with (first | (go_at_call 110; refine K.call (by with_reducible rfl) (by with_reducible rfl) (HAB.out _) ?_; rintro e w' ⟨rfl, rfl⟩) | ((go_at_call 101; refine K.call (by with_reducible rfl) (by with_reducible rfl) (HQ.out _) ?_; rintro e w2 ⟨rfl, hw2⟩; have D1 := Z.hide (K.Ext.block_of C1.out hw2); have HX2 : Hid (K.Ext w w2) := Z.hide (HX.out.trans hw2); have lw2 := hw2.size; have b2_c0 : w2.cell? ⟨w.heap.size + 1, 0, none⟩ = some (.int .i64 (0)) := K.cell_at D1.out rfl; have b2_f0 : w2.frozen? ⟨w.heap.size + 1, 0, none⟩ = false := K.thaw_at D1.out; have b2_c1 : w2.cell? ⟨w.heap.size + 1, 1, none⟩ = some (.int .i64 (0)) := K.cell_at D1.out rfl; have b2_f1 : w2.frozen? ⟨w.heap.size + 1, 1, none⟩ = false := K.thaw_at D1.out; have b2_c2 : w2.cell? ⟨w.heap.size + 1, 2, none⟩ = some (.string ⟨#[]⟩) := K.cell_at D1.out rfl; have b2_f2 : w2.frozen? ⟨w.heap.size + 1, 2, none⟩ = false := K.thaw_at D1.out; have b2_c3 : w2.cell? ⟨w.heap.size + 1, 3, none⟩ = some (.slice none 0 0) := K.cell_at D1.out rfl; have b2_f3 : w2.frozen? ⟨w.heap.size + 1, 3, none⟩ = false := K.thaw_at D1.out; have n1 : ¬ (w.heap.size + 1 = w2.heap.size) := (by omega); have y1 : w.heap.size + 1 < w2.heap.size := (by omega); have n2 : ¬ (w2.heap.size = w.heap.size + 1) := (by omega))))
              rw [HE.out]
              refine bodyPost_ret (v := .tuple #[.agg #[.int .i64 0, .int .i64 0, .string ⟨#[]⟩, .slice none 0 0], .int .i64 q.2]) (by unfold results; rw [Try.results31]; go_simp) rfl ⟨⟨_, rfl, K.ints_nil _ _ _⟩, ?_⟩
              repeat' (first | with_reducible refine K.Ext.setCell ?_ ?_ _ | with_reducible refine K.Ext.alloc ?_ _ | (dsimp only; omega))
              exact HX2.out
          · obtain rfl : g = false := by rw [hgn]; simpa using hp
            have hneg : n < 0 := by omega
            have HR : Hid (∀ w' : World, Calls Try.prog 111 #[.agg #[.int .i64 x.1, .int .i64 x.2], .agg #[.int .i64 F.dg, .int .i64 F.tn]] w' fun e w'' => e = .returned (.tuple #[.agg #[.int .i64 r.1.1, .int .i64 r.1.2], .int .i64 r.2]) ∧ K.Ext w' w'') := Z.hide (fun w' => by rw [hr]; exact spec_DivideFigures x (F.dg, F.tn) w')
            clear hgn hx hq hr
            by_cases hz : r.2 = 0
            · have HZ2 : Hid ((Z.powK false (F.dg, F.tn) (k + 1)).2 = 0) := Z.hide (by rw [HS.out]; exact hz)
              go_wp2_with (first | (go_at_call 110; refine K.call (by with_reducible rfl) (by with_reducible rfl) (HAB.out _) ?_; rintro e w' ⟨rfl, rfl⟩) | ((go_at_call 101; refine K.call (by with_reducible rfl) (by with_reducible rfl) (HQ.out _) ?_; rintro e w2 ⟨rfl, hw2⟩; have D0 := Z.hide (K.Ext.block_of C0.out hw2); have D1 := Z.hide (K.Ext.block_of C1.out hw2); have D3 := Z.hide (K.Ext.block_of C3.out hw2); have HX2 : Hid (K.Ext w w2) := Z.hide (HX.out.trans hw2); have lw2 := hw2.size; have f0 := hw2.cell_of e0; have f1 := hw2.cell_of e1; have b3_c0 : w2.cell? ⟨w.heap.size, 0, none⟩ = some (.int .i64 (F.dg)) := K.cell_at D0.out rfl; have b3_f0 : w2.frozen? ⟨w.heap.size, 0, none⟩ = false := K.thaw_at D0.out; have b3_c1 : w2.cell? ⟨w.heap.size, 1, none⟩ = some (.int .i64 (F.tn)) := K.cell_at D0.out rfl; have b3_f1 : w2.frozen? ⟨w.heap.size, 1, none⟩ = false := K.thaw_at D0.out; have n1 : ¬ (w1.heap.size = w2.heap.size) := (by omega); have y1 : w1.heap.size < w2.heap.size := (by omega); have y2 : w.heap.size < w2.heap.size := (by omega); have n2 : ¬ (w2.heap.size = w1.heap.size) := (by omega); have n3 : ¬ (w.heap.size = w2.heap.size) := (by omega))) | ((go_at_call 111; refine K.call (by with_reducible rfl) (by with_reducible rfl) (HR.out _) ?_; rintro e w3 ⟨rfl, hw3⟩; have lw3 : w2.heap.size < w3.heap.size := (by have h_ := hw3.size; simp at h_; omega); have E0 := Z.hide (K.Ext.block_of (K.Ext.block_of D0.out ((K.Ext.refl _).alloc _)) hw3); have E1 := Z.hide (K.Ext.block_of (K.Ext.block_of D1.out ((K.Ext.refl _).alloc _)) hw3); have E3 := Z.hide (K.Ext.block_of (K.Ext.block_of D3.out ((K.Ext.refl _).alloc _)) hw3); have HX3 : Hid (K.Ext w w3) := Z.hide (K.Ext.trans (K.Ext.alloc HX2.out _) hw3); have E4 : Hid (w3.heap[w2.heap.size]? = some (.cells #[.int .i64 q.1.1, .int .i64 q.1.2] 30)) := Z.hide (K.Ext.block_of (K.block_new rfl) hw3); have b4_c0 : w3.cell? ⟨w1.heap.size, 0, none⟩ = some (.int .i64 (_)) := K.cell_at E3.out rfl; have b4_f0 : w3.frozen? ⟨w1.heap.size, 0, none⟩ = false := K.thaw_at E3.out; have b4_c1 : w3.cell? ⟨w1.heap.size, 1, none⟩ = some (.int .i64 (_)) := K.cell_at E3.out rfl; have b4_f1 : w3.frozen? ⟨w1.heap.size, 1, none⟩ = false := K.thaw_at E3.out; have b5_c0 : w3.cell? ⟨w2.heap.size, 0, none⟩ = some (.int .i64 (_)) := K.cell_at E4.out rfl; have b5_f0 : w3.frozen? ⟨w2.heap.size, 0, none⟩ = false := K.thaw_at E4.out; have b5_c1 : w3.cell? ⟨w2.heap.size, 1, none⟩ = some (.int .i64 (_)) := K.cell_at E4.out rfl; have b5_f1 : w3.frozen? ⟨w2.heap.size, 1, none⟩ = false := K.thaw_at E4.out)))
              go_roundw
              case rel =>
                refine ⟨k + 1, by omega, by go_num, HZ2, Z.hide ?_, Z.hide ?_, Z.hide ?_, Z.hide ?_⟩
                · iterate 4 with_reducible refine Eq.trans (K.set_block (by dsimp only; omega)) ?_
                  exact E0.out
                · iterate 4 with_reducible refine Eq.trans (K.set_block (by dsimp only; omega)) ?_
                  exact E1.out
                · rw [HS.out]
                  have E5 : ((w3.setCell ⟨w2.heap.size, 0, none⟩ (.int .i64 r.1.1)).setCell ⟨w2.heap.size, 1, none⟩ (.int .i64 r.1.2)).heap[w1.heap.size]? = some (.cells #[.int .i64 (Z.powK false (F.dg, F.tn) k).1.1, .int .i64 (Z.powK false (F.dg, F.tn) k).1.2] 30) := by
                    iterate 2 with_reducible refine Eq.trans (K.set_block (by dsimp only; omega)) ?_
                    exact E3.out
                  exact Joins.block_setCell (Joins.block_setCell E5 _) _
                · repeat with_reducible refine K.Ext.setCell ?_ (by dsimp only; omega) _
                  exact HX3.out
              case measure => simp [intOf]; omega
            · have HE : Hid (Z.PowerFormula F n = (Z.zeroFm, r.2)) := Z.hide (HEb.out hz)
              go_wp2_with (first | (go_at_call 110; refine K.call (by with_reducible rfl) (by with_reducible rfl) (HAB.out _) ?_; rintro e w' ⟨rfl, rfl⟩) | ((go_at_call 101; refine K.call (by with_reducible rfl) (by with_reducible rfl) (HQ.out _) ?_; rintro e w2 ⟨rfl, hw2⟩; have D0 := Z.hide (K.Ext.block_of C0.out hw2); have D1 := Z.hide (K.Ext.block_of C1.out hw2); have D3 := Z.hide (K.Ext.block_of C3.out hw2); have HX2 : Hid (K.Ext w w2) := Z.hide (HX.out.trans hw2); have lw2 := hw2.size; have f0 := hw2.cell_of e0; have f1 := hw2.cell_of e1; have b6_c0 : w2.cell? ⟨w.heap.size, 0, none⟩ = some (.int .i64 (F.dg)) := K.cell_at D0.out rfl; have b6_f0 : w2.frozen? ⟨w.heap.size, 0, none⟩ = false := K.thaw_at D0.out; have b6_c1 : w2.cell? ⟨w.heap.size, 1, none⟩ = some (.int .i64 (F.tn)) := K.cell_at D0.out rfl; have b6_f1 : w2.frozen? ⟨w.heap.size, 1, none⟩ = false := K.thaw_at D0.out; have n1 : ¬ (w1.heap.size = w2.heap.size) := (by omega); have y1 : w1.heap.size < w2.heap.size := (by omega); have y2 : w.heap.size < w2.heap.size := (by omega); have n2 : ¬ (w2.heap.size = w1.heap.size) := (by omega); have n3 : ¬ (w.heap.size = w2.heap.size) := (by omega))) | ((go_at_call 111; refine K.call (by with_reducible rfl) (by with_reducible rfl) (HR.out _) ?_; rintro e w3 ⟨rfl, hw3⟩; have lw3 : w2.heap.size < w3.heap.size := (by have h_ := hw3.size; simp at h_; omega); have E1 := Z.hide (K.Ext.block_of (K.Ext.block_of D1.out ((K.Ext.refl _).alloc _)) hw3); have HX3 : Hid (K.Ext w w3) := Z.hide (K.Ext.trans (K.Ext.alloc HX2.out _) hw3); have E4 : Hid (w3.heap[w2.heap.size]? = some (.cells #[.int .i64 q.1.1, .int .i64 q.1.2] 30)) := Z.hide (K.Ext.block_of (K.block_new rfl) hw3); have b7_c0 : w3.cell? ⟨w.heap.size + 1, 0, none⟩ = some (.int .i64 (0)) := K.cell_at E1.out rfl; have b7_f0 : w3.frozen? ⟨w.heap.size + 1, 0, none⟩ = false := K.thaw_at E1.out; have b7_c1 : w3.cell? ⟨w.heap.size + 1, 1, none⟩ = some (.int .i64 (0)) := K.cell_at E1.out rfl; have b7_f1 : w3.frozen? ⟨w.heap.size + 1, 1, none⟩ = false := K.thaw_at E1.out; have b7_c2 : w3.cell? ⟨w.heap.size + 1, 2, none⟩ = some (.string ⟨#[]⟩) := K.cell_at E1.out rfl; have b7_f2 : w3.frozen? ⟨w.heap.size + 1, 2, none⟩ = false := K.thaw_at E1.out; have b7_c3 : w3.cell? ⟨w.heap.size + 1, 3, none⟩ = some (.slice none 0 0) := K.cell_at E1.out rfl; have b7_f3 : w3.frozen? ⟨w.heap.size + 1, 3, none⟩ = false := K.thaw_at E1.out; have b8_c0 : w3.cell? ⟨w2.heap.size, 0, none⟩ = some (.int .i64 (_)) := K.cell_at E4.out rfl; have b8_f0 : w3.frozen? ⟨w2.heap.size, 0, none⟩ = false := K.thaw_at E4.out; have b8_c1 : w3.cell? ⟨w2.heap.size, 1, none⟩ = some (.int .i64 (_)) := K.cell_at E4.out rfl; have b8_f1 : w3.frozen? ⟨w2.heap.size, 1, none⟩ = false := K.thaw_at E4.out; have n4 : ¬ (w.heap.size + 1 = w2.heap.size) := (by omega); have n5 : ¬ (w2.heap.size = w.heap.size + 1) := (by omega))))
              rw [HE.out]
              refine bodyPost_ret (v := .tuple #[.agg #[.int .i64 0, .int .i64 0, .string ⟨#[]⟩, .slice none 0 0], .int .i64 r.2]) (by unfold results; rw [Try.results31]; go_simp) rfl ⟨⟨_, rfl, K.ints_nil _ _ _⟩, ?_⟩
              repeat' (first | with_reducible refine K.Ext.setCell ?_ ?_ _ | with_reducible refine K.Ext.alloc ?_ _ | (dsimp only; omega))
              exact HX3.out
        · obtain rfl : k = m := by omega
          obtain ⟨wo, rfl⟩ : ∃ wo : World, wo = wr := ⟨_, rfl⟩
          obtain ⟨r, hr⟩ : ∃ r, r = (Z.powK g (F.dg, F.tn) k).1 := ⟨_, rfl⟩
          rw [← hr] at e0 e1
          have C3' : Hid (wo.heap[w1.heap.size]? = some (.cells #[.int .i64 r.1, .int .i64 r.2] 30)) := Z.hide (by rw [hr]; exact C3.out)
          have HZm := HZ.out
          have HE : Hid (Z.PowerFormula F n = Z.fmOr (Z.made r.1 r.2 (Z.powF F n) 26)) := Z.hide (by
            rw [HP.out]
            unfold Z.raised
            rw [← HM.out, ← HD.out, if_pos HZm, ← hr]; rfl)
          clear hr HZm C3
          have HK : ∀ w' : World, K.Ext w w' → Calls Try.prog 102 #[.agg #[.int .i64 F.dg, .int .i64 F.tn, .string F.nm, .slice o F.pw.length cap]] w' fun e w'' => (∃ v', e = .returned v' ∧ K.own w'' w'.heap.size w''.heap.size v' (Z.allOf F)) ∧ K.Ext w' w'' := fun w' hx => l18All_any F w' HF.out (K.ints.ext HH.out hx)
          have HKh := Z.hide HK
          clear HK
          have b9_c0 : wo.cell? ⟨w.heap.size, 0, none⟩ = some (.int .i64 (F.dg)) := K.cell_at C0.out rfl; have b9_f0 : wo.frozen? ⟨w.heap.size, 0, none⟩ = false := K.thaw_at C0.out; have b9_c1 : wo.cell? ⟨w.heap.size, 1, none⟩ = some (.int .i64 (F.tn)) := K.cell_at C0.out rfl; have b9_f1 : wo.frozen? ⟨w.heap.size, 1, none⟩ = false := K.thaw_at C0.out; have b9_c2 : wo.cell? ⟨w.heap.size, 2, none⟩ = some (.string F.nm) := K.cell_at C0.out rfl; have b9_f2 : wo.frozen? ⟨w.heap.size, 2, none⟩ = false := K.thaw_at C0.out; have b9_c3 : wo.cell? ⟨w.heap.size, 3, none⟩ = some (.slice o F.pw.length cap) := K.cell_at C0.out rfl; have b9_f3 : wo.frozen? ⟨w.heap.size, 3, none⟩ = false := K.thaw_at C0.out
          go_wp2_with (first | (go_at_call 110; refine K.call (by with_reducible rfl) (by with_reducible rfl) (HAB.out _) ?_; rintro e w' ⟨rfl, rfl⟩) | ((go_at_call 102; refine K.call (by with_reducible rfl) (by with_reducible rfl) (HKh.out _ HX.out) ?_; rintro e w4 ⟨⟨v4, rfl, hv4⟩, hw4⟩; have s4 := hv4; obtain ⟨o4, c4, rfl, _⟩ := s4; rw [Z.allOf_length] at hv4; have HA := Z.hide hv4; have D1 := Z.hide (K.Ext.block_of C1.out hw4); have D3 := Z.hide (K.Ext.block_of C3'.out hw4); have HX4 : Hid (K.Ext w w4) := Z.hide (HX.out.trans hw4); have lw4 := hw4.size; clear hw4 hv4)))
          rw [Z.allOf_length]
          go_loopw [11] (fun i wr => ∃ j : Nat, j ≤ 26 ∧ i = .int .i64 j ∧ Hid (K.own wr wo.heap.size w4.heap.size (.slice o4 26 c4) (Z.powL F n j)) ∧ Hid (K.Ext w wr) ∧ Hid (wr.heap[w.heap.size + 1]? = some (.cells #[.int .i64 0, .int .i64 0, .string ⟨#[]⟩, .slice none 0 0] 32)) ∧ Hid (wr.heap[w1.heap.size]? = some (.cells #[.int .i64 r.1, .int .i64 r.2] 30)) ∧ w4.heap.size ≤ wr.heap.size) (fun i _ => 26 - (intOf i).toNat)
          case atStart => exact ⟨0, Nat.zero_le _, rfl, Z.hide (by rw [Z.powL_zero]; exact HA.out), HX4, D1, D3, Nat.le_refl _⟩
          case round =>
            obtain ⟨j, hj, rfl, HA1, HX5, E1, E3, lw5⟩ := hrel
            clear HA HX4 D1 D3
            have j0 : (0 : Int) ≤ (j : Int) := Int.natCast_nonneg j
            by_cases hlt2 : j < 26
            · have j1 : (j : Int) < 26 := by omega
              obtain ⟨b, off, rfl, b1, b2, bc, bf⟩ := K.own_at HA1.out (by rw [Z.powL_length]; decide)
              have hca := bc j (by rw [Z.powL_length]; exact hlt2)
              have hfa := bf j (by rw [Z.powL_length]; exact hlt2)
              rw [Z.powL_get _ _ _ _ hlt2, if_neg (Nat.lt_irrefl j)] at hca
              obtain ⟨x1, x2⟩ := Z.expo_6 HF.out (97 + (j : Int))
              have HS : Hid (Z.powL F n (j + 1) = (Z.powL F n j).set j (n * Z.expo (Z.bs F.nm) F.pw (97 + (j : Int)))) := Z.hide (Z.powL_succ F n j hlt2)
              have HL := Z.hide (Z.powL_length F n j)
              clear bc bf
              generalize Z.expo (Z.bs F.nm) F.pw (97 + (j : Int)) = x at *
              obtain ⟨m1, m2⟩ := Z.mul_bd n x 3 6 n1 n2 x1 x2
              have q1 : IntKind.i64.wrap (n * x) = n * x := IntWalk.i64_in _ (by omega)
              have HT := Z.hide (K.own_setAt (x := n * x) (k := j) (by rw [HL.out]; exact hlt2) HA1.out)
              have HXT : Hid (K.Ext w (wr.setCell ⟨b, off + j, none⟩ (.int .i64 (n * x)))) := Z.hide (K.Ext.setCell HX5.out (by dsimp only; omega) _)
              have G1 : Hid ((wr.setCell ⟨b, off + j, none⟩ (.int .i64 (n * x))).heap[w.heap.size + 1]? = some (.cells #[.int .i64 0, .int .i64 0, .string ⟨#[]⟩, .slice none 0 0] 32)) := Z.hide ((K.set_block (by dsimp only; omega)).trans E1.out)
              have G3 : Hid ((wr.setCell ⟨b, off + j, none⟩ (.int .i64 (n * x))).heap[w1.heap.size]? = some (.cells #[.int .i64 r.1, .int .i64 r.2] 30)) := Z.hide ((K.set_block (by dsimp only; omega)).trans E3.out)
              clear m1 m2
              go_wp2
              go_roundw
              case rel => exact ⟨j + 1, by omega, by go_num, Z.hide (by rw [HS.out]; exact HT.out), HXT, G1, G3, by simp; omega⟩
              case measure => simp [intOf]; omega
            · obtain rfl : j = 26 := by omega
              have f0 : wr.cell? ⟨w1.heap.size, 0, none⟩ = some (.int .i64 r.1) := K.cell_at E3.out rfl
              have f1 : wr.cell? ⟨w1.heap.size, 1, none⟩ = some (.int .i64 r.2) := K.cell_at E3.out rfl
              obtain ⟨M, HMM⟩ : ∃ M, M = Z.made r.1 r.2 (Z.powF F n) 26 := ⟨_, rfl⟩
              have HK : Calls Try.prog 104 #[.agg #[.int .i64 r.1, .int .i64 r.2], .slice o4 26 c4] wr fun e w' => (∃ p', e = .returned (.agg #[.int .i64 M.dg, .int .i64 M.tn, .string M.nm, p']) ∧ K.own w' wr.heap.size w'.heap.size p' M.pw) ∧ K.Ext wr w' := by
                have hk := l18Make_any r.1 r.2 (Z.powL F n 26) wr (Z.powL_length F n 26) (K.own.ints HA1.out)
                rw [Z.powL_made] at hk
                rw [HMM]
                exact hk
              have hle : M.pw.length ≤ 1048576 ∧ M.nm.size ≤ 1048576 := by rw [HMM]; exact Z.made_le _ _ _
              have HL := Z.hide hle
              rw [← HMM] at HE
              clear HMM hle HA1
              obtain ⟨N, HN⟩ : ∃ N, N = Z.fmOr M := ⟨_, rfl⟩
              have HR : ∀ {lo hi : Nat} {p : Value} (w : World), K.ints w lo hi p M.pw → Calls Try.prog 103 #[.agg #[.int .i64 M.dg, .int .i64 M.tn, .string M.nm, p]] w fun e w' => (∃ p', e = .returned (.tuple #[.agg #[.int .i64 N.1.dg, .int .i64 N.1.tn, .string N.1.nm, p'], .int .i64 N.2]) ∧ K.ints w' lo hi p' N.1.pw) ∧ K.Ext w w' := fun w hh => by rw [HN]; exact l18Result_any M w HL.out.1 HL.out.2 hh
              rw [← HN] at HE
              clear HN
              go_wp2_with (first | ((go_at_call 104; refine K.call (by with_reducible rfl) (by with_reducible rfl) (HK) ?_; rintro e w6 ⟨⟨p6, rfl, hp6⟩, hw6⟩; have E2 := Z.hide (K.Ext.block_of E1.out hw6); have hp7 := hp6; obtain ⟨o6, c6, rfl, _⟩ := hp7)) | ((go_at_call 103; refine K.call (by with_reducible rfl) (by with_reducible rfl) (HR _ (K.own.ints hp6)) ?_; rintro e w7 ⟨⟨p7, rfl, hp7⟩, hw7⟩; have hp8 := hp7; obtain ⟨o7, c7, rfl, _⟩ := hp8; have G2 := Z.hide (K.Ext.block_of E2.out hw7); have lw2 : w.heap.size + 1 < w7.heap.size := (Array.getElem?_eq_some_iff.1 G2.out).1; have b10_c0 : w7.cell? ⟨w.heap.size + 1, 0, none⟩ = some (.int .i64 (0)) := K.cell_at G2.out rfl; have b10_f0 : w7.frozen? ⟨w.heap.size + 1, 0, none⟩ = false := K.thaw_at G2.out; have b10_c1 : w7.cell? ⟨w.heap.size + 1, 1, none⟩ = some (.int .i64 (0)) := K.cell_at G2.out rfl; have b10_f1 : w7.frozen? ⟨w.heap.size + 1, 1, none⟩ = false := K.thaw_at G2.out; have b10_c2 : w7.cell? ⟨w.heap.size + 1, 2, none⟩ = some (.string ⟨#[]⟩) := K.cell_at G2.out rfl; have b10_f2 : w7.frozen? ⟨w.heap.size + 1, 2, none⟩ = false := K.thaw_at G2.out; have b10_c3 : w7.cell? ⟨w.heap.size + 1, 3, none⟩ = some (.slice none 0 0) := K.cell_at G2.out rfl; have b10_f3 : w7.frozen? ⟨w.heap.size + 1, 3, none⟩ = false := K.thaw_at G2.out)))
              rw [HE.out]
              have z8 := HX5.out.size
              have z9 := hw6.size
              have z10 := hw7.size
              have z11 : w.heap.size + 1 < wr.heap.size := (Array.getElem?_eq_some_iff.1 E1.out).1
              refine bodyPost_ret (v := .tuple #[.agg #[.int .i64 N.1.dg, .int .i64 N.1.tn, .string N.1.nm, .slice o7 N.1.pw.length c7], .int .i64 N.2]) (by unfold results; rw [Try.results31]; go_simp) rfl ⟨⟨_, rfl, ?_⟩, ?_⟩
              · refine K.ints.mono (lo := wr.heap.size) (hi := w6.heap.size) ?_ (by omega) (by simp; omega)
                repeat with_reducible refine K.ints.set ?_ _ (.inl (by dsimp only; omega)) _
                exact hp7
              · repeat with_reducible refine K.Ext.setCell ?_ (by dsimp only; omega) _
                exact K.Ext.trans HX5.out (K.Ext.trans hw6 hw7)
end Go.Proofs.Ythmnlbgbacbocaa
end
section
namespace Go.Proofs.Ythmnlbgbacbocaa
open Go.RowKit
set_option maxHeartbeats 1600000 in
theorem spec_IsEquation (E : Z.Eqn) {l1 r1 l2 r2 : Nat} {p q : Value} (w : World) (hm : E.L.pw.length ≤ 1048576) (hn : E.L.nm.size ≤ 1048576) (hm' : E.R.pw.length ≤ 1048576) (hn' : E.R.nm.size ≤ 1048576) (h : K.ints w l1 r1 p E.L.pw) (h' : K.ints w l2 r2 q E.R.pw) :
    Calls Try.prog 116 #[.agg #[.int .i64 E.L.dg, .int .i64 E.L.tn, .string E.L.nm, p, .int .i64 E.R.dg, .int .i64 E.R.tn, .string E.R.nm, q]] w fun e w' => e = .returned (.bool (Z.isEquation E)) ∧ K.Ext w w' := by
  have g1 := h
  obtain ⟨o, cap, rfl, _⟩ := g1
  have g2 := h'
  obtain ⟨o', cap', rfl, _⟩ := g2
  cases hf : Z.isFormula E.L
  · have HE : Hid (Z.isEquation E = false) := Z.hide (by unfold Z.isEquation; rw [hf]; rfl)
    go_enter Try.func116, Try.ntmps116
    go_wp2_with ((go_at_call 91; refine K.call (by with_reducible rfl) (by with_reducible rfl) (spec_IsFormula E.L _ hm hn (h.ext (by repeat' (first | with_reducible exact K.Ext.refl _ | with_reducible assumption | with_reducible refine K.Ext.drew ?_ | with_reducible refine K.Ext.alloc ?_ _ | with_reducible refine K.Ext.setCell ?_ ?_ _ | with_reducible refine K.Ext.trans ?_ (by with_reducible assumption) | (dsimp only; omega) | omega | exact K.Ext.refl _ | assumption | apply K.Ext.drew | refine K.Ext.alloc ?_ _ | refine K.Ext.setCell ?_ ?_ _ | (simp; done) | (simp; omega) | refine K.Ext.trans ?_ (by assumption))))) ?_; rintro e w1 ⟨rfl, hw1⟩; obtain ⟨hcw1, hfw1⟩ := hw1.facts); have c_w1_0_0 : w1.cell? ⟨w.heap.size, 0, none⟩ = some (.int .i64 (E.L.dg)) := hw1.cell_of (by go_simp); have f_w1_0_0 : w1.frozen? ⟨w.heap.size, 0, none⟩ = false := hw1.thaw_of (by go_simp) (by go_simp); have c_w1_0_1 : w1.cell? ⟨w.heap.size, 1, none⟩ = some (.int .i64 (E.L.tn)) := hw1.cell_of (by go_simp); have f_w1_0_1 : w1.frozen? ⟨w.heap.size, 1, none⟩ = false := hw1.thaw_of (by go_simp) (by go_simp); have c_w1_0_2 : w1.cell? ⟨w.heap.size, 2, none⟩ = some (.string E.L.nm) := hw1.cell_of (by go_simp); have f_w1_0_2 : w1.frozen? ⟨w.heap.size, 2, none⟩ = false := hw1.thaw_of (by go_simp) (by go_simp); have c_w1_0_3 : w1.cell? ⟨w.heap.size, 3, none⟩ = some (.slice o E.L.pw.length cap) := hw1.cell_of (by go_simp); have f_w1_0_3 : w1.frozen? ⟨w.heap.size, 3, none⟩ = false := hw1.thaw_of (by go_simp) (by go_simp); have c_w1_0_4 : w1.cell? ⟨w.heap.size, 4, none⟩ = some (.int .i64 (E.R.dg)) := hw1.cell_of (by go_simp); have f_w1_0_4 : w1.frozen? ⟨w.heap.size, 4, none⟩ = false := hw1.thaw_of (by go_simp) (by go_simp); have c_w1_0_5 : w1.cell? ⟨w.heap.size, 5, none⟩ = some (.int .i64 (E.R.tn)) := hw1.cell_of (by go_simp); have f_w1_0_5 : w1.frozen? ⟨w.heap.size, 5, none⟩ = false := hw1.thaw_of (by go_simp) (by go_simp); have c_w1_0_6 : w1.cell? ⟨w.heap.size, 6, none⟩ = some (.string E.R.nm) := hw1.cell_of (by go_simp); have f_w1_0_6 : w1.frozen? ⟨w.heap.size, 6, none⟩ = false := hw1.thaw_of (by go_simp) (by go_simp); have c_w1_0_7 : w1.cell? ⟨w.heap.size, 7, none⟩ = some (.slice o' E.R.pw.length cap') := hw1.cell_of (by go_simp); have f_w1_0_7 : w1.frozen? ⟨w.heap.size, 7, none⟩ = false := hw1.thaw_of (by go_simp) (by go_simp))
    go_ret
    exact ⟨K.rb (by rw [HE.out]), (by repeat' (first | with_reducible exact K.Ext.refl _ | with_reducible assumption | with_reducible refine K.Ext.drew ?_ | with_reducible refine K.Ext.alloc ?_ _ | with_reducible refine K.Ext.setCell ?_ ?_ _ | with_reducible refine K.Ext.trans ?_ (by with_reducible assumption) | (dsimp only; omega) | omega | exact K.Ext.refl _ | assumption | apply K.Ext.drew | refine K.Ext.alloc ?_ _ | refine K.Ext.setCell ?_ ?_ _ | (simp; done) | (simp; omega) | refine K.Ext.trans ?_ (by assumption)))⟩
  · have HE : Hid (Z.isEquation E = Z.isFormula E.R) := Z.hide (by unfold Z.isEquation; rw [hf]; rfl)
    go_enter Try.func116, Try.ntmps116
    go_wp2_with (first | ((go_at_call 91; refine K.call (by with_reducible rfl) (by with_reducible rfl) (spec_IsFormula E.L _ hm hn (h.ext (by repeat' (first | with_reducible exact K.Ext.refl _ | with_reducible assumption | with_reducible refine K.Ext.drew ?_ | with_reducible refine K.Ext.alloc ?_ _ | with_reducible refine K.Ext.setCell ?_ ?_ _ | with_reducible refine K.Ext.trans ?_ (by with_reducible assumption) | (dsimp only; omega) | omega | exact K.Ext.refl _ | assumption | apply K.Ext.drew | refine K.Ext.alloc ?_ _ | refine K.Ext.setCell ?_ ?_ _ | (simp; done) | (simp; omega) | refine K.Ext.trans ?_ (by assumption))))) ?_; rintro e w1 ⟨rfl, hw1⟩; obtain ⟨hcw1, hfw1⟩ := hw1.facts); have c_w1_0_0 : w1.cell? ⟨w.heap.size, 0, none⟩ = some (.int .i64 (E.L.dg)) := hw1.cell_of (by go_simp); have f_w1_0_0 : w1.frozen? ⟨w.heap.size, 0, none⟩ = false := hw1.thaw_of (by go_simp) (by go_simp); have c_w1_0_1 : w1.cell? ⟨w.heap.size, 1, none⟩ = some (.int .i64 (E.L.tn)) := hw1.cell_of (by go_simp); have f_w1_0_1 : w1.frozen? ⟨w.heap.size, 1, none⟩ = false := hw1.thaw_of (by go_simp) (by go_simp); have c_w1_0_2 : w1.cell? ⟨w.heap.size, 2, none⟩ = some (.string E.L.nm) := hw1.cell_of (by go_simp); have f_w1_0_2 : w1.frozen? ⟨w.heap.size, 2, none⟩ = false := hw1.thaw_of (by go_simp) (by go_simp); have c_w1_0_3 : w1.cell? ⟨w.heap.size, 3, none⟩ = some (.slice o E.L.pw.length cap) := hw1.cell_of (by go_simp); have f_w1_0_3 : w1.frozen? ⟨w.heap.size, 3, none⟩ = false := hw1.thaw_of (by go_simp) (by go_simp); have c_w1_0_4 : w1.cell? ⟨w.heap.size, 4, none⟩ = some (.int .i64 (E.R.dg)) := hw1.cell_of (by go_simp); have f_w1_0_4 : w1.frozen? ⟨w.heap.size, 4, none⟩ = false := hw1.thaw_of (by go_simp) (by go_simp); have c_w1_0_5 : w1.cell? ⟨w.heap.size, 5, none⟩ = some (.int .i64 (E.R.tn)) := hw1.cell_of (by go_simp); have f_w1_0_5 : w1.frozen? ⟨w.heap.size, 5, none⟩ = false := hw1.thaw_of (by go_simp) (by go_simp); have c_w1_0_6 : w1.cell? ⟨w.heap.size, 6, none⟩ = some (.string E.R.nm) := hw1.cell_of (by go_simp); have f_w1_0_6 : w1.frozen? ⟨w.heap.size, 6, none⟩ = false := hw1.thaw_of (by go_simp) (by go_simp); have c_w1_0_7 : w1.cell? ⟨w.heap.size, 7, none⟩ = some (.slice o' E.R.pw.length cap') := hw1.cell_of (by go_simp); have f_w1_0_7 : w1.frozen? ⟨w.heap.size, 7, none⟩ = false := hw1.thaw_of (by go_simp) (by go_simp)) | (go_at_call 91; refine K.call (by with_reducible rfl) (by with_reducible rfl) (spec_IsFormula E.R _ hm' hn' (h'.ext (by repeat' (first | with_reducible exact K.Ext.refl _ | with_reducible assumption | with_reducible refine K.Ext.drew ?_ | with_reducible refine K.Ext.alloc ?_ _ | with_reducible refine K.Ext.setCell ?_ ?_ _ | with_reducible refine K.Ext.trans ?_ (by with_reducible assumption) | (dsimp only; omega) | omega | exact K.Ext.refl _ | assumption | apply K.Ext.drew | refine K.Ext.alloc ?_ _ | refine K.Ext.setCell ?_ ?_ _ | (simp; done) | (simp; omega) | refine K.Ext.trans ?_ (by assumption))))) ?_; rintro e w2 ⟨rfl, hw2⟩; obtain ⟨hcw2, hfw2⟩ := hw2.facts))
    go_ret
    exact ⟨K.rb (by rw [HE.out]), (by repeat' (first | with_reducible exact K.Ext.refl _ | with_reducible assumption | with_reducible refine K.Ext.drew ?_ | with_reducible refine K.Ext.alloc ?_ _ | with_reducible refine K.Ext.setCell ?_ ?_ _ | with_reducible refine K.Ext.trans ?_ (by with_reducible assumption) | (dsimp only; omega) | omega | exact K.Ext.refl _ | assumption | apply K.Ext.drew | refine K.Ext.alloc ?_ _ | refine K.Ext.setCell ?_ ?_ _ | (simp; done) | (simp; omega) | refine K.Ext.trans ?_ (by assumption)))⟩
set_option maxHeartbeats 1600000 in
theorem impl_IsEquation (E : Z.Eqn) {l1 r1 l2 r2 : Nat} {p q : Value} (w : World) (hm : E.L.pw.length ≤ 1048576) (hn : E.L.nm.size ≤ 1048576) (hm' : E.R.pw.length ≤ 1048576) (hn' : E.R.nm.size ≤ 1048576) (h : K.ints w l1 r1 p E.L.pw) (h' : K.ints w l2 r2 q E.R.pw) :
    Calls Try.prog 47 #[.agg #[.int .i64 E.L.dg, .int .i64 E.L.tn, .string E.L.nm, p, .int .i64 E.R.dg, .int .i64 E.R.tn, .string E.R.nm, q]] w fun e w' => e = .returned (.bool (Z.isEquation E)) ∧ K.Ext w w' := by
  have g1 := h
  obtain ⟨o, cap, rfl, _⟩ := g1
  have g2 := h'
  obtain ⟨o', cap', rfl, _⟩ := g2
  cases hf : Z.isFormula E.L
  · have HE : Hid (Z.isEquation E = false) := Z.hide (by unfold Z.isEquation; rw [hf]; rfl)
    go_enter Try.func47, Try.ntmps47
    go_wp2_with ((go_at_call 33; refine K.call (by with_reducible rfl) (by with_reducible rfl) (impl_IsFormula E.L _ hm hn (h.ext (by repeat' (first | with_reducible exact K.Ext.refl _ | with_reducible assumption | with_reducible refine K.Ext.drew ?_ | with_reducible refine K.Ext.alloc ?_ _ | with_reducible refine K.Ext.setCell ?_ ?_ _ | with_reducible refine K.Ext.trans ?_ (by with_reducible assumption) | (dsimp only; omega) | omega | exact K.Ext.refl _ | assumption | apply K.Ext.drew | refine K.Ext.alloc ?_ _ | refine K.Ext.setCell ?_ ?_ _ | (simp; done) | (simp; omega) | refine K.Ext.trans ?_ (by assumption))))) ?_; rintro e w1 ⟨rfl, hw1⟩; obtain ⟨hcw1, hfw1⟩ := hw1.facts); have c_w1_0_0 : w1.cell? ⟨w.heap.size, 0, none⟩ = some (.int .i64 (E.L.dg)) := hw1.cell_of (by go_simp); have f_w1_0_0 : w1.frozen? ⟨w.heap.size, 0, none⟩ = false := hw1.thaw_of (by go_simp) (by go_simp); have c_w1_0_1 : w1.cell? ⟨w.heap.size, 1, none⟩ = some (.int .i64 (E.L.tn)) := hw1.cell_of (by go_simp); have f_w1_0_1 : w1.frozen? ⟨w.heap.size, 1, none⟩ = false := hw1.thaw_of (by go_simp) (by go_simp); have c_w1_0_2 : w1.cell? ⟨w.heap.size, 2, none⟩ = some (.string E.L.nm) := hw1.cell_of (by go_simp); have f_w1_0_2 : w1.frozen? ⟨w.heap.size, 2, none⟩ = false := hw1.thaw_of (by go_simp) (by go_simp); have c_w1_0_3 : w1.cell? ⟨w.heap.size, 3, none⟩ = some (.slice o E.L.pw.length cap) := hw1.cell_of (by go_simp); have f_w1_0_3 : w1.frozen? ⟨w.heap.size, 3, none⟩ = false := hw1.thaw_of (by go_simp) (by go_simp); have c_w1_0_4 : w1.cell? ⟨w.heap.size, 4, none⟩ = some (.int .i64 (E.R.dg)) := hw1.cell_of (by go_simp); have f_w1_0_4 : w1.frozen? ⟨w.heap.size, 4, none⟩ = false := hw1.thaw_of (by go_simp) (by go_simp); have c_w1_0_5 : w1.cell? ⟨w.heap.size, 5, none⟩ = some (.int .i64 (E.R.tn)) := hw1.cell_of (by go_simp); have f_w1_0_5 : w1.frozen? ⟨w.heap.size, 5, none⟩ = false := hw1.thaw_of (by go_simp) (by go_simp); have c_w1_0_6 : w1.cell? ⟨w.heap.size, 6, none⟩ = some (.string E.R.nm) := hw1.cell_of (by go_simp); have f_w1_0_6 : w1.frozen? ⟨w.heap.size, 6, none⟩ = false := hw1.thaw_of (by go_simp) (by go_simp); have c_w1_0_7 : w1.cell? ⟨w.heap.size, 7, none⟩ = some (.slice o' E.R.pw.length cap') := hw1.cell_of (by go_simp); have f_w1_0_7 : w1.frozen? ⟨w.heap.size, 7, none⟩ = false := hw1.thaw_of (by go_simp) (by go_simp))
    go_ret
    exact ⟨K.rb (by rw [HE.out]), (by repeat' (first | with_reducible exact K.Ext.refl _ | with_reducible assumption | with_reducible refine K.Ext.drew ?_ | with_reducible refine K.Ext.alloc ?_ _ | with_reducible refine K.Ext.setCell ?_ ?_ _ | with_reducible refine K.Ext.trans ?_ (by with_reducible assumption) | (dsimp only; omega) | omega | exact K.Ext.refl _ | assumption | apply K.Ext.drew | refine K.Ext.alloc ?_ _ | refine K.Ext.setCell ?_ ?_ _ | (simp; done) | (simp; omega) | refine K.Ext.trans ?_ (by assumption)))⟩
  · have HE : Hid (Z.isEquation E = Z.isFormula E.R) := Z.hide (by unfold Z.isEquation; rw [hf]; rfl)
    go_enter Try.func47, Try.ntmps47
    go_wp2_with (first | ((go_at_call 33; refine K.call (by with_reducible rfl) (by with_reducible rfl) (impl_IsFormula E.L _ hm hn (h.ext (by repeat' (first | with_reducible exact K.Ext.refl _ | with_reducible assumption | with_reducible refine K.Ext.drew ?_ | with_reducible refine K.Ext.alloc ?_ _ | with_reducible refine K.Ext.setCell ?_ ?_ _ | with_reducible refine K.Ext.trans ?_ (by with_reducible assumption) | (dsimp only; omega) | omega | exact K.Ext.refl _ | assumption | apply K.Ext.drew | refine K.Ext.alloc ?_ _ | refine K.Ext.setCell ?_ ?_ _ | (simp; done) | (simp; omega) | refine K.Ext.trans ?_ (by assumption))))) ?_; rintro e w1 ⟨rfl, hw1⟩; obtain ⟨hcw1, hfw1⟩ := hw1.facts); have c_w1_0_0 : w1.cell? ⟨w.heap.size, 0, none⟩ = some (.int .i64 (E.L.dg)) := hw1.cell_of (by go_simp); have f_w1_0_0 : w1.frozen? ⟨w.heap.size, 0, none⟩ = false := hw1.thaw_of (by go_simp) (by go_simp); have c_w1_0_1 : w1.cell? ⟨w.heap.size, 1, none⟩ = some (.int .i64 (E.L.tn)) := hw1.cell_of (by go_simp); have f_w1_0_1 : w1.frozen? ⟨w.heap.size, 1, none⟩ = false := hw1.thaw_of (by go_simp) (by go_simp); have c_w1_0_2 : w1.cell? ⟨w.heap.size, 2, none⟩ = some (.string E.L.nm) := hw1.cell_of (by go_simp); have f_w1_0_2 : w1.frozen? ⟨w.heap.size, 2, none⟩ = false := hw1.thaw_of (by go_simp) (by go_simp); have c_w1_0_3 : w1.cell? ⟨w.heap.size, 3, none⟩ = some (.slice o E.L.pw.length cap) := hw1.cell_of (by go_simp); have f_w1_0_3 : w1.frozen? ⟨w.heap.size, 3, none⟩ = false := hw1.thaw_of (by go_simp) (by go_simp); have c_w1_0_4 : w1.cell? ⟨w.heap.size, 4, none⟩ = some (.int .i64 (E.R.dg)) := hw1.cell_of (by go_simp); have f_w1_0_4 : w1.frozen? ⟨w.heap.size, 4, none⟩ = false := hw1.thaw_of (by go_simp) (by go_simp); have c_w1_0_5 : w1.cell? ⟨w.heap.size, 5, none⟩ = some (.int .i64 (E.R.tn)) := hw1.cell_of (by go_simp); have f_w1_0_5 : w1.frozen? ⟨w.heap.size, 5, none⟩ = false := hw1.thaw_of (by go_simp) (by go_simp); have c_w1_0_6 : w1.cell? ⟨w.heap.size, 6, none⟩ = some (.string E.R.nm) := hw1.cell_of (by go_simp); have f_w1_0_6 : w1.frozen? ⟨w.heap.size, 6, none⟩ = false := hw1.thaw_of (by go_simp) (by go_simp); have c_w1_0_7 : w1.cell? ⟨w.heap.size, 7, none⟩ = some (.slice o' E.R.pw.length cap') := hw1.cell_of (by go_simp); have f_w1_0_7 : w1.frozen? ⟨w.heap.size, 7, none⟩ = false := hw1.thaw_of (by go_simp) (by go_simp)) | (go_at_call 33; refine K.call (by with_reducible rfl) (by with_reducible rfl) (impl_IsFormula E.R _ hm' hn' (h'.ext (by repeat' (first | with_reducible exact K.Ext.refl _ | with_reducible assumption | with_reducible refine K.Ext.drew ?_ | with_reducible refine K.Ext.alloc ?_ _ | with_reducible refine K.Ext.setCell ?_ ?_ _ | with_reducible refine K.Ext.trans ?_ (by with_reducible assumption) | (dsimp only; omega) | omega | exact K.Ext.refl _ | assumption | apply K.Ext.drew | refine K.Ext.alloc ?_ _ | refine K.Ext.setCell ?_ ?_ _ | (simp; done) | (simp; omega) | refine K.Ext.trans ?_ (by assumption))))) ?_; rintro e w2 ⟨rfl, hw2⟩; obtain ⟨hcw2, hfw2⟩ := hw2.facts))
    go_ret
    exact ⟨K.rb (by rw [HE.out]), (by repeat' (first | with_reducible exact K.Ext.refl _ | with_reducible assumption | with_reducible refine K.Ext.drew ?_ | with_reducible refine K.Ext.alloc ?_ _ | with_reducible refine K.Ext.setCell ?_ ?_ _ | with_reducible refine K.Ext.trans ?_ (by with_reducible assumption) | (dsimp only; omega) | omega | exact K.Ext.refl _ | assumption | apply K.Ext.drew | refine K.Ext.alloc ?_ _ | refine K.Ext.setCell ?_ ?_ _ | (simp; done) | (simp; omega) | refine K.Ext.trans ?_ (by assumption)))⟩
end Go.Proofs.Ythmnlbgbacbocaa
end
