/-
  Part 4 of the texts of this claim: contracts of functions and plain mathematics.
-/
import Derived.Test.YthmnlbgbacbocaaV3
set_option linter.unusedVariables false
section
namespace Go.Proofs.Ythmnlbgbacbocaa
open Go.RowKit
set_option maxHeartbeats 1600000 in
theorem isValued_any (F : Z.Fm) (vs : List (Int × Int)) {lo hi lo' hi' : Nat} {p v : Value} (w : World) (hm : F.pw.length ≤ 1048576) (hn : F.nm.size ≤ 1048576) (h : K.ints w lo hi p F.pw) (hm' : vs.length ≤ 1048576) (h' : K.recs false K.FgR w lo' hi' v vs) :
    Calls Try.prog 124 #[.agg #[.int .i64 F.dg, .int .i64 F.tn, .string F.nm, p], v] w fun e w' => e = .returned (.bool (Z.isValued F vs)) ∧ K.Ext w w' := by
  have g1 := h
  obtain ⟨o, cap, rfl, _⟩ := g1
  have g2 := h'
  obtain ⟨o', cap', rfl, _⟩ := g2
  cases vF : Z.isFormula F
  · have HE : Hid (Z.isValued F vs = false) := Z.hide (by unfold Z.isValued; rw [vF]; rfl)
    go_enter Try.func124, Try.ntmps124
    go_wp2_with ((go_at_call 33; refine K.call (by with_reducible rfl) (by with_reducible rfl) (impl_IsFormula F _ hm hn (h.ext (by repeat' (first | with_reducible exact K.Ext.refl _ | with_reducible assumption | with_reducible refine K.Ext.drew ?_ | with_reducible refine K.Ext.alloc ?_ _ | with_reducible refine K.Ext.setCell ?_ ?_ _ | with_reducible refine K.Ext.trans ?_ (by with_reducible assumption) | (dsimp only; omega) | omega | exact K.Ext.refl _ | assumption | apply K.Ext.drew | refine K.Ext.alloc ?_ _ | refine K.Ext.setCell ?_ ?_ _ | (simp; done) | (simp; omega) | refine K.Ext.trans ?_ (by assumption))))) ?_; rintro e w1 ⟨rfl, hw1⟩; obtain ⟨hcw1, hfw1⟩ := hw1.facts); have c_w1_0_0 : w1.cell? ⟨w.heap.size, 0, none⟩ = some (.int .i64 (F.dg)) := hw1.cell_of (by go_simp); have f_w1_0_0 : w1.frozen? ⟨w.heap.size, 0, none⟩ = false := hw1.thaw_of (by go_simp) (by go_simp); have c_w1_0_1 : w1.cell? ⟨w.heap.size, 1, none⟩ = some (.int .i64 (F.tn)) := hw1.cell_of (by go_simp); have f_w1_0_1 : w1.frozen? ⟨w.heap.size, 1, none⟩ = false := hw1.thaw_of (by go_simp) (by go_simp); have c_w1_0_2 : w1.cell? ⟨w.heap.size, 2, none⟩ = some (.string F.nm) := hw1.cell_of (by go_simp); have f_w1_0_2 : w1.frozen? ⟨w.heap.size, 2, none⟩ = false := hw1.thaw_of (by go_simp) (by go_simp); have c_w1_0_3 : w1.cell? ⟨w.heap.size, 3, none⟩ = some (.slice o F.pw.length cap) := hw1.cell_of (by go_simp); have f_w1_0_3 : w1.frozen? ⟨w.heap.size, 3, none⟩ = false := hw1.thaw_of (by go_simp) (by go_simp))
    go_ret
    exact ⟨K.rb (by rw [HE.out]), (by repeat' (first | with_reducible exact K.Ext.refl _ | with_reducible assumption | with_reducible refine K.Ext.drew ?_ | with_reducible refine K.Ext.alloc ?_ _ | with_reducible refine K.Ext.setCell ?_ ?_ _ | with_reducible refine K.Ext.trans ?_ (by with_reducible assumption) | (dsimp only; omega) | omega | exact K.Ext.refl _ | assumption | apply K.Ext.drew | refine K.Ext.alloc ?_ _ | refine K.Ext.setCell ?_ ?_ _ | (simp; done) | (simp; omega) | refine K.Ext.trans ?_ (by assumption)))⟩
  · by_cases hl : vs.length = F.nm.size
    · have HE : Hid (Z.isValued F vs = Z.areFigs vs) := Z.hide (by unfold Z.isValued; rw [vF, decide_eq_true hl]; rfl)
      have HA : Hid (∀ w' : World, K.Ext w w' → Calls Try.prog 141 #[.slice o' vs.length cap'] w' fun e w'' => e = .returned (.bool (Z.areFigs vs)) ∧ K.Ext w' w'') := Z.hide (fun w' hx => areFigures_any vs w' hm' (K.figs_of_recs (h'.ext hx)))
      have hq : ((vs.length : Int) == (F.nm.size : Int)) = true := by rw [hl]; simp
      clear hl h'
      go_enter Try.func124, Try.ntmps124
      go_wp2_with (first | ((go_at_call 33; refine K.call (by with_reducible rfl) (by with_reducible rfl) (impl_IsFormula F _ hm hn (h.ext (by repeat' (first | with_reducible exact K.Ext.refl _ | with_reducible assumption | with_reducible refine K.Ext.drew ?_ | with_reducible refine K.Ext.alloc ?_ _ | with_reducible refine K.Ext.setCell ?_ ?_ _ | with_reducible refine K.Ext.trans ?_ (by with_reducible assumption) | (dsimp only; omega) | omega | exact K.Ext.refl _ | assumption | apply K.Ext.drew | refine K.Ext.alloc ?_ _ | refine K.Ext.setCell ?_ ?_ _ | (simp; done) | (simp; omega) | refine K.Ext.trans ?_ (by assumption))))) ?_; rintro e w1 ⟨rfl, hw1⟩; obtain ⟨hcw1, hfw1⟩ := hw1.facts); have c_w1_0_0 : w1.cell? ⟨w.heap.size, 0, none⟩ = some (.int .i64 (F.dg)) := hw1.cell_of (by go_simp); have f_w1_0_0 : w1.frozen? ⟨w.heap.size, 0, none⟩ = false := hw1.thaw_of (by go_simp) (by go_simp); have c_w1_0_1 : w1.cell? ⟨w.heap.size, 1, none⟩ = some (.int .i64 (F.tn)) := hw1.cell_of (by go_simp); have f_w1_0_1 : w1.frozen? ⟨w.heap.size, 1, none⟩ = false := hw1.thaw_of (by go_simp) (by go_simp); have c_w1_0_2 : w1.cell? ⟨w.heap.size, 2, none⟩ = some (.string F.nm) := hw1.cell_of (by go_simp); have f_w1_0_2 : w1.frozen? ⟨w.heap.size, 2, none⟩ = false := hw1.thaw_of (by go_simp) (by go_simp); have c_w1_0_3 : w1.cell? ⟨w.heap.size, 3, none⟩ = some (.slice o F.pw.length cap) := hw1.cell_of (by go_simp); have f_w1_0_3 : w1.frozen? ⟨w.heap.size, 3, none⟩ = false := hw1.thaw_of (by go_simp) (by go_simp)) | (go_at_call 141; refine K.call (by with_reducible rfl) (by with_reducible rfl) (HA.out _ (by repeat' (first | with_reducible exact K.Ext.refl _ | with_reducible assumption | with_reducible refine K.Ext.drew ?_ | with_reducible refine K.Ext.alloc ?_ _ | with_reducible refine K.Ext.setCell ?_ ?_ _ | with_reducible refine K.Ext.trans ?_ (by with_reducible assumption) | (dsimp only; omega) | omega | exact K.Ext.refl _ | assumption | apply K.Ext.drew | refine K.Ext.alloc ?_ _ | refine K.Ext.setCell ?_ ?_ _ | (simp; done) | (simp; omega) | refine K.Ext.trans ?_ (by assumption)))) ?_; rintro e w2 ⟨rfl, hw2⟩))
      go_ret
      exact ⟨K.rb (by rw [HE.out]), (by repeat' (first | with_reducible exact K.Ext.refl _ | with_reducible assumption | with_reducible refine K.Ext.drew ?_ | with_reducible refine K.Ext.alloc ?_ _ | with_reducible refine K.Ext.setCell ?_ ?_ _ | with_reducible refine K.Ext.trans ?_ (by with_reducible assumption) | (dsimp only; omega) | omega | exact K.Ext.refl _ | assumption | apply K.Ext.drew | refine K.Ext.alloc ?_ _ | refine K.Ext.setCell ?_ ?_ _ | (simp; done) | (simp; omega) | refine K.Ext.trans ?_ (by assumption)))⟩
    · have HE : Hid (Z.isValued F vs = false) := Z.hide (by unfold Z.isValued; rw [vF, decide_eq_false hl]; rfl)
      have hq : ((vs.length : Int) == (F.nm.size : Int)) = false := by simp; omega
      go_enter Try.func124, Try.ntmps124
      go_wp2_with ((go_at_call 33; refine K.call (by with_reducible rfl) (by with_reducible rfl) (impl_IsFormula F _ hm hn (h.ext (by repeat' (first | with_reducible exact K.Ext.refl _ | with_reducible assumption | with_reducible refine K.Ext.drew ?_ | with_reducible refine K.Ext.alloc ?_ _ | with_reducible refine K.Ext.setCell ?_ ?_ _ | with_reducible refine K.Ext.trans ?_ (by with_reducible assumption) | (dsimp only; omega) | omega | exact K.Ext.refl _ | assumption | apply K.Ext.drew | refine K.Ext.alloc ?_ _ | refine K.Ext.setCell ?_ ?_ _ | (simp; done) | (simp; omega) | refine K.Ext.trans ?_ (by assumption))))) ?_; rintro e w1 ⟨rfl, hw1⟩; obtain ⟨hcw1, hfw1⟩ := hw1.facts); have c_w1_0_0 : w1.cell? ⟨w.heap.size, 0, none⟩ = some (.int .i64 (F.dg)) := hw1.cell_of (by go_simp); have f_w1_0_0 : w1.frozen? ⟨w.heap.size, 0, none⟩ = false := hw1.thaw_of (by go_simp) (by go_simp); have c_w1_0_1 : w1.cell? ⟨w.heap.size, 1, none⟩ = some (.int .i64 (F.tn)) := hw1.cell_of (by go_simp); have f_w1_0_1 : w1.frozen? ⟨w.heap.size, 1, none⟩ = false := hw1.thaw_of (by go_simp) (by go_simp); have c_w1_0_2 : w1.cell? ⟨w.heap.size, 2, none⟩ = some (.string F.nm) := hw1.cell_of (by go_simp); have f_w1_0_2 : w1.frozen? ⟨w.heap.size, 2, none⟩ = false := hw1.thaw_of (by go_simp) (by go_simp); have c_w1_0_3 : w1.cell? ⟨w.heap.size, 3, none⟩ = some (.slice o F.pw.length cap) := hw1.cell_of (by go_simp); have f_w1_0_3 : w1.frozen? ⟨w.heap.size, 3, none⟩ = false := hw1.thaw_of (by go_simp) (by go_simp))
      go_ret
      exact ⟨K.rb (by rw [HE.out]), (by repeat' (first | with_reducible exact K.Ext.refl _ | with_reducible assumption | with_reducible refine K.Ext.drew ?_ | with_reducible refine K.Ext.alloc ?_ _ | with_reducible refine K.Ext.setCell ?_ ?_ _ | with_reducible refine K.Ext.trans ?_ (by with_reducible assumption) | (dsimp only; omega) | omega | exact K.Ext.refl _ | assumption | apply K.Ext.drew | refine K.Ext.alloc ?_ _ | refine K.Ext.setCell ?_ ?_ _ | (simp; done) | (simp; omega) | refine K.Ext.trans ?_ (by assumption)))⟩
set_option maxHeartbeats 1600000 in
theorem l18Values_any (F : Z.Fm) (vs : List (Int × Int)) {lo' hi' : Nat} {p v : Value} (w : World) (hn : F.nm.size ≤ 1048576) (hm' : vs.length ≤ 1048576) (h' : K.recs false K.FgR w lo' hi' v vs) :
    Calls Try.prog 126 #[.agg #[.int .i64 F.dg, .int .i64 F.tn, .string F.nm, p], v] w fun e w' => e = .returned (.bool (decide (vs.length = F.nm.size) && Z.areFigs vs)) ∧ K.Ext w w' := by
  have g2 := h'
  obtain ⟨o', cap', rfl, _⟩ := g2
  have HV := Z.hide h'
  clear h'
  go_enter Try.func126, Try.ntmps126
  go_wp2
  go_loopw [5] (fun i wr => ∃ k : Nat, k ≤ vs.length ∧ i = .int .i64 k ∧ Hid (Z.areFigs (vs.take k) = true) ∧ Hid (wr.cell? ⟨w.heap.size, 2, none⟩ = some (.string F.nm)) ∧ Hid (K.Ext w wr)) (fun i _ => vs.length - (intOf i).toNat)
  case atStart => exact ⟨0, Nat.zero_le _, rfl, Z.hide rfl, Z.hide (by go_simp), Z.hide (by repeat' (first | with_reducible exact K.Ext.refl _ | with_reducible assumption | with_reducible refine K.Ext.drew ?_ | with_reducible refine K.Ext.alloc ?_ _ | with_reducible refine K.Ext.setCell ?_ ?_ _ | with_reducible refine K.Ext.trans ?_ (by with_reducible assumption) | (dsimp only; omega) | omega | exact K.Ext.refl _ | assumption | apply K.Ext.drew | refine K.Ext.alloc ?_ _ | refine K.Ext.setCell ?_ ?_ _ | (simp; done) | (simp; omega) | refine K.Ext.trans ?_ (by assumption)))⟩
  case round =>
    obtain ⟨k, hk, rfl, HA, HC, HX⟩ := hrel
    by_cases hlt : k < vs.length
    · obtain ⟨b, off, rfl, _, _, hc⟩ := (K.figs_of_recs HV.out).at_ (by omega)
      have hc1 := HX.out.cell_of (hc k hlt).1
      have hc2 := HX.out.cell_of (hc k hlt).2
      have i0 : (0 : Int) ≤ (k : Int) := Int.natCast_nonneg k
      have i1 : (k : Int) < (vs.length : Int) := by omega
      have HS := Z.hide (Z.figs_succ vs k hlt)
      have HB := Z.hide (Z.figs_bad vs k hlt)
      clear hc
      generalize vs.getD k (0, 0) = f at *
      cases hf : Z.isFig f.1 f.2
      · have HF := Z.hide (HB.out hf)
        go_wp2_with ((go_at_call 145; refine K.call (by with_reducible rfl) (by with_reducible rfl) (spec_IsFigure f.1 f.2 _) ?_; rintro e w1 ⟨rfl, hw1⟩; obtain ⟨hcw1, hfw1⟩ := hw1.facts))
        go_ret
        exact ⟨K.rb (by rw [HF.out]; simp), K.Ext.trans HX.out (by repeat' (first | with_reducible exact K.Ext.refl _ | with_reducible assumption | with_reducible refine K.Ext.drew ?_ | with_reducible refine K.Ext.alloc ?_ _ | with_reducible refine K.Ext.setCell ?_ ?_ _ | with_reducible refine K.Ext.trans ?_ (by with_reducible assumption) | (dsimp only; omega) | omega | exact K.Ext.refl _ | assumption | apply K.Ext.drew | refine K.Ext.alloc ?_ _ | refine K.Ext.setCell ?_ ?_ _ | (simp; done) | (simp; omega) | refine K.Ext.trans ?_ (by assumption)))⟩
      · have HF : Hid (Z.areFigs (vs.take (k + 1)) = true) := Z.hide (by rw [HS.out, HA.out, hf]; rfl)
        go_wp2_with ((go_at_call 145; refine K.call (by with_reducible rfl) (by with_reducible rfl) (spec_IsFigure f.1 f.2 _) ?_; rintro e w1 ⟨rfl, hw1⟩; obtain ⟨hcw1, hfw1⟩ := hw1.facts))
        have d2 := hw1.cell_of HC.out
        go_roundw
        case rel => exact ⟨k + 1, by omega, by go_num, HF, Z.hide d2, Z.hide (K.Ext.trans HX.out (by repeat' (first | with_reducible exact K.Ext.refl _ | with_reducible assumption | with_reducible refine K.Ext.drew ?_ | with_reducible refine K.Ext.alloc ?_ _ | with_reducible refine K.Ext.setCell ?_ ?_ _ | with_reducible refine K.Ext.trans ?_ (by with_reducible assumption) | (dsimp only; omega) | omega | exact K.Ext.refl _ | assumption | apply K.Ext.drew | refine K.Ext.alloc ?_ _ | refine K.Ext.setCell ?_ ?_ _ | (simp; done) | (simp; omega) | refine K.Ext.trans ?_ (by assumption))))⟩
        case measure => simp [intOf]; omega
    · obtain rfl : k = vs.length := by omega
      have HF : Hid (Z.areFigs vs = true) := Z.hide (by have := HA.out; rwa [List.take_length] at this)
      have c2 := HC.out
      go_wp2
      go_ret
      exact ⟨K.rb (by rw [HF.out, Bool.and_true, Bool.eq_iff_iff]; simp; try omega), HX.out⟩
set_option maxHeartbeats 3200000 in
theorem impl_FormulaLog (F : Z.Fm) (vs : List (Int × Int)) {loF hiF : Nat} {pF : Value} {lovs hivs : Nat} {pvs : Value} (w : World)  (hmF : F.pw.length ≤ 1048576) (hnF : F.nm.size ≤ 1048576) (hF : K.ints w loF hiF pF F.pw) (hmvs : vs.length ≤ 1048576) (hvs : K.recs false K.FgR w lovs hivs pvs vs) :
    Calls Try.prog 49 #[.agg #[.int .i64 F.dg, .int .i64 F.tn, .string F.nm, pF], pvs] w fun e w' => e = .returned (.tuple #[.agg #[.int .i64 ((Z.FormulaLog F vs).1).1, .int .i64 ((Z.FormulaLog F vs).1).2], .int .i64 ((Z.FormulaLog F vs).2)]) ∧ K.Ext w w' := by
  have hF_ := hF
  have shF := hF
  obtain ⟨oF, cF, rfl, _⟩ := shF
  have hvs_ := hvs
  have shvs := hvs
  obtain ⟨ovs, cvs, rfl, _⟩ := shvs
  cases hv : Z.isValued F vs
  · have HE : Hid (Z.FormulaLog F vs = ((0, 0), 1)) := Z.hide (by unfold Z.FormulaLog; rw [hv]; rfl)
    have X0 : K.Ext w w := K.Ext.refl w
    go_enter Try.func49, Try.ntmps49
    go_wp2_with (go_at_call 124; refine K.call (by with_reducible rfl) (by with_reducible rfl) (isValued_any F vs _ hmF hnF (K.ints.alloc (K.ints.alloc hF_ _) _) hmvs (K.recs.alloc (K.recs.alloc hvs_ _) _)) ?_; rintro e w1 ⟨rfl, x1⟩; have s1 : w.heap.size + 2 ≤ w1.heap.size := (by have h_ := x1.size; (try simp at h_); omega); have X1 := K.Ext.trans (K.Ext.alloc (K.Ext.alloc X0 _) _) x1; obtain ⟨c1_0_0, c1_0_1, c1_0_2, c1_0_3⟩ := K.c4 x1 (w.heap.size) (.int .i64 F.dg) (.int .i64 F.tn) (.string F.nm) (.slice oF F.pw.length cF) (by go_simp); have z1_0 : w.heap.size < w1.heap.size := World.block_lt_of_cell? w1 _ c1_0_0; have d1_0 : ¬ (w.heap.size = w1.heap.size) := (by omega); have e1_0 : ¬ (w1.heap.size = w.heap.size) := (by omega); obtain ⟨c1_1_0, c1_1_1⟩ := K.c2 x1 (w.heap.size + 1) (.int .i64 0) (.int .i64 0) (by go_simp); obtain ⟨f1_1_0, f1_1_1⟩ := K.f2 x1 (w.heap.size + 1) (by go_simp); have z1_1 : w.heap.size + 1 < w1.heap.size := World.block_lt_of_cell? w1 _ c1_1_0; have d1_1 : ¬ (w.heap.size + 1 = w1.heap.size) := (by omega); have e1_1 : ¬ (w1.heap.size = w.heap.size + 1) := (by omega); have n1_0 : ¬ (w.heap.size + 1 = w.heap.size) := (by omega); have n0_1 : ¬ (w.heap.size = w.heap.size + 1) := (by omega); have F1_1 := K.ints.ext (K.ints.alloc (K.ints.alloc hF_ _) _) x1; have F2_1 := K.recs.ext (K.recs.alloc (K.recs.alloc hvs_ _) _) x1; clear hF_ hvs_)
    rw [HE.out]
    refine bodyPost_ret (v := .tuple #[.agg #[.int .i64 0, .int .i64 0], .int .i64 1]) (by unfold results; rw [Try.results49]; go_simp) rfl ⟨rfl, ?_⟩
    repeat with_reducible refine K.Ext.setCell ?_ (by dsimp only; omega) _
    exact (by repeat' (first | with_reducible exact X1 | with_reducible refine K.Ext.setCell ?_ ?_ _ | with_reducible refine K.Ext.alloc ?_ _ | with_reducible refine K.Ext.drew ?_ | (dsimp only; omega) | omega | (simp; omega)))
  · obtain ⟨u, hu⟩ : ∃ u, u = Z.logK (F.dg, F.tn) vs F.pw vs.length := ⟨_, rfl⟩
    have HE : Hid (Z.FormulaLog F vs = (u, 0)) := Z.hide (by unfold Z.FormulaLog; rw [hv, hu]; rfl)
    have HV := Z.hide hv
    have HK : ∀ {a b c d : Nat} {p v : Value} (w : World), K.ints w a b p F.pw → K.recs false K.FgR w c d v vs → Calls Try.prog 125 #[.agg #[.int .i64 F.dg, .int .i64 F.tn, .string F.nm, p], v] w fun e w' => e = .returned (.agg #[.int .i64 u.1, .int .i64 u.2]) ∧ K.Ext w w' := fun w h h' => by
      have h3 := HV.out
      simp only [Z.isValued, Bool.and_eq_true, decide_eq_true_eq] at h3
      rw [hu]; exact formulaLog_any F vs w h3.1.1 h3.1.2 h3.2 h h'
    clear hu
    have X0 : K.Ext w w := K.Ext.refl w
    go_enter Try.func49, Try.ntmps49
    go_wp2_with (go_at_call 124; refine K.call (by with_reducible rfl) (by with_reducible rfl) (isValued_any F vs _ hmF hnF (show K.ints _ (loF) (hiF) (.slice oF F.pw.length cF) (F.pw) from by repeat' (first | with_reducible exact hF_ | with_reducible refine K.ints.set ?_ _ ?_ _ | with_reducible refine K.ints.alloc ?_ _ | with_reducible refine K.ints.drew ?_ | (dsimp only; omega) | omega | (simp; done) | (simp; omega))) hmvs (show K.recs false K.FgR _ (lovs) (hivs) (.slice ovs vs.length cvs) (vs) from by repeat' (first | with_reducible exact hvs_ | with_reducible refine K.recs.set (by decide) ?_ _ ?_ _ | with_reducible refine K.recs.alloc ?_ _ | with_reducible refine K.recs.drew ?_ | (dsimp only; omega) | omega | (simp; done) | (simp; omega)))) ?_; rintro e w1 ⟨rfl, x1⟩; have s1 : w.heap.size + 2 ≤ w1.heap.size := (by have h_ := x1.size; (try simp at h_); omega); have X1 : K.Ext w w1 := K.Ext.trans (by repeat' (first | with_reducible exact X0 | with_reducible refine K.Ext.setCell ?_ ?_ _ | with_reducible refine K.Ext.alloc ?_ _ | with_reducible refine K.Ext.drew ?_ | (dsimp only; omega) | omega | (simp; omega))) x1; obtain ⟨c1_0_0, c1_0_1, c1_0_2, c1_0_3⟩ := K.c4 x1 (w.heap.size) (.int .i64 F.dg) (.int .i64 F.tn) (.string F.nm) (.slice oF F.pw.length cF) (by go_simp); have z1_0 : w.heap.size < w1.heap.size := World.block_lt_of_cell? w1 _ c1_0_0; have d1_0 : ¬ (w.heap.size = w1.heap.size) := (by omega); have e1_0 : ¬ (w1.heap.size = w.heap.size) := (by omega); obtain ⟨c1_1_0, c1_1_1⟩ := K.c2 x1 (w.heap.size + 1) (.int .i64 0) (.int .i64 0) (by go_simp); obtain ⟨f1_1_0, f1_1_1⟩ := K.f2 x1 (w.heap.size + 1) (by go_simp); have z1_1 : w.heap.size + 1 < w1.heap.size := World.block_lt_of_cell? w1 _ c1_1_0; have d1_1 : ¬ (w.heap.size + 1 = w1.heap.size) := (by omega); have e1_1 : ¬ (w1.heap.size = w.heap.size + 1) := (by omega); have n1_0 : ¬ (w.heap.size + 1 = w.heap.size) := (by omega); have n0_1 : ¬ (w.heap.size = w.heap.size + 1) := (by omega); have F1_1 := K.ints.ext (show K.ints _ (loF) (hiF) (.slice oF F.pw.length cF) (F.pw) from by repeat' (first | with_reducible exact hF_ | with_reducible refine K.ints.set ?_ _ ?_ _ | with_reducible refine K.ints.alloc ?_ _ | with_reducible refine K.ints.drew ?_ | (dsimp only; omega) | omega | (simp; done) | (simp; omega))) x1; have F2_1 := K.recs.ext (show K.recs false K.FgR _ (lovs) (hivs) (.slice ovs vs.length cvs) (vs) from by repeat' (first | with_reducible exact hvs_ | with_reducible refine K.recs.set (by decide) ?_ _ ?_ _ | with_reducible refine K.recs.alloc ?_ _ | with_reducible refine K.recs.drew ?_ | (dsimp only; omega) | omega | (simp; done) | (simp; omega))) x1; clear hF_ hvs_)
    go_wp2_with (go_at_call 125; refine K.call (by with_reducible rfl) (by with_reducible rfl) (HK _ (F1_1) (F2_1)) ?_; rintro e w2 ⟨rfl, x2⟩; have s2 : w1.heap.size ≤ w2.heap.size := (by have h_ := x2.size; (try simp at h_); omega); have X2 := K.Ext.trans (X1) x2; obtain ⟨c2_0_0, c2_0_1, c2_0_2, c2_0_3⟩ := K.c4 x2 (w.heap.size) (.int .i64 F.dg) (.int .i64 F.tn) (.string F.nm) (.slice oF F.pw.length cF) (by go_simp); have z2_0 : w.heap.size < w2.heap.size := World.block_lt_of_cell? w2 _ c2_0_0; have d2_0 : ¬ (w.heap.size = w2.heap.size) := (by omega); have e2_0 : ¬ (w2.heap.size = w.heap.size) := (by omega); obtain ⟨c2_1_0, c2_1_1⟩ := K.c2 x2 (w.heap.size + 1) (.int .i64 0) (.int .i64 0) (by go_simp); obtain ⟨f2_1_0, f2_1_1⟩ := K.f2 x2 (w.heap.size + 1) (by go_simp); have z2_1 : w.heap.size + 1 < w2.heap.size := World.block_lt_of_cell? w2 _ c2_1_0; have d2_1 : ¬ (w.heap.size + 1 = w2.heap.size) := (by omega); have e2_1 : ¬ (w2.heap.size = w.heap.size + 1) := (by omega); have F1_2 := K.ints.ext (F1_1) x2; have F2_2 := K.recs.ext (F2_1) x2; clear c1_0_0 c1_0_1 c1_0_2 c1_0_3 z1_0 d1_0 e1_0 c1_1_0 c1_1_1 f1_1_0 f1_1_1 z1_1 d1_1 e1_1 F1_1 F2_1)
    rw [HE.out]
    refine bodyPost_ret (v := .tuple #[.agg #[.int .i64 u.1, .int .i64 u.2], .int .i64 0]) (by unfold results; rw [Try.results49]; go_simp) rfl ⟨rfl, ?_⟩
    repeat with_reducible refine K.Ext.setCell ?_ (by dsimp only; omega) _
    exact (by repeat' (first | with_reducible exact X2 | with_reducible refine K.Ext.setCell ?_ ?_ _ | with_reducible refine K.Ext.alloc ?_ _ | with_reducible refine K.Ext.drew ?_ | (dsimp only; omega) | omega | (simp; omega)))
set_option maxHeartbeats 3200000 in
theorem spec_FormulaLog (F : Z.Fm) (vs : List (Int × Int)) {loF hiF : Nat} {pF : Value} {lovs hivs : Nat} {pvs : Value} (w : World)  (hmF : F.pw.length ≤ 1048576) (hnF : F.nm.size ≤ 1048576) (hF : K.ints w loF hiF pF F.pw) (hmvs : vs.length ≤ 1048576) (hvs : K.recs false K.FgR w lovs hivs pvs vs) :
    Calls Try.prog 50 #[.agg #[.int .i64 F.dg, .int .i64 F.tn, .string F.nm, pF], pvs] w fun e w' => e = .returned (.tuple #[.agg #[.int .i64 ((Z.FormulaLog F vs).1).1, .int .i64 ((Z.FormulaLog F vs).1).2], .int .i64 ((Z.FormulaLog F vs).2)]) ∧ K.Ext w w' := by
  have hF_ := hF
  have shF := hF
  obtain ⟨oF, cF, rfl, _⟩ := shF
  have hvs_ := hvs
  have shvs := hvs
  obtain ⟨ovs, cvs, rfl, _⟩ := shvs
  cases vF : Z.isFormula F
  · have HE : Hid (Z.FormulaLog F vs = ((0, 0), 1)) := Z.hide (by unfold Z.FormulaLog Z.isValued; rw [vF]; rfl)
    have X0 : K.Ext w w := K.Ext.refl w
    go_enter Try.func50, Try.ntmps50
    go_wp2_with (go_at_call 91; refine K.call (by with_reducible rfl) (by with_reducible rfl) (spec_IsFormula F _ hmF hnF (K.ints.alloc (K.ints.alloc hF_ _) _)) ?_; rintro e w1 ⟨rfl, x1⟩; have s1 : w.heap.size + 2 ≤ w1.heap.size := (by have h_ := x1.size; (try simp at h_); omega); have X1 := K.Ext.trans (K.Ext.alloc (K.Ext.alloc X0 _) _) x1; obtain ⟨c1_0_0, c1_0_1, c1_0_2, c1_0_3⟩ := K.c4 x1 (w.heap.size) (.int .i64 F.dg) (.int .i64 F.tn) (.string F.nm) (.slice oF F.pw.length cF) (by go_simp); have z1_0 : w.heap.size < w1.heap.size := World.block_lt_of_cell? w1 _ c1_0_0; have d1_0 : ¬ (w.heap.size = w1.heap.size) := (by omega); have e1_0 : ¬ (w1.heap.size = w.heap.size) := (by omega); obtain ⟨c1_1_0, c1_1_1⟩ := K.c2 x1 (w.heap.size + 1) (.int .i64 0) (.int .i64 0) (by go_simp); obtain ⟨f1_1_0, f1_1_1⟩ := K.f2 x1 (w.heap.size + 1) (by go_simp); have z1_1 : w.heap.size + 1 < w1.heap.size := World.block_lt_of_cell? w1 _ c1_1_0; have d1_1 : ¬ (w.heap.size + 1 = w1.heap.size) := (by omega); have e1_1 : ¬ (w1.heap.size = w.heap.size + 1) := (by omega); have n1_0 : ¬ (w.heap.size + 1 = w.heap.size) := (by omega); have n0_1 : ¬ (w.heap.size = w.heap.size + 1) := (by omega); have F1_1 := K.ints.ext (K.ints.alloc (K.ints.alloc hF_ _) _) x1; have F2_1 := K.recs.ext (K.recs.alloc (K.recs.alloc hvs_ _) _) x1; clear hF_ hvs_)
    rw [HE.out]
    refine bodyPost_ret (v := .tuple #[.agg #[.int .i64 0, .int .i64 0], .int .i64 1]) (by unfold results; rw [Try.results50]; go_simp) rfl ⟨rfl, ?_⟩
    repeat with_reducible refine K.Ext.setCell ?_ (by dsimp only; omega) _
    exact (by repeat' (first | with_reducible exact X1 | with_reducible refine K.Ext.setCell ?_ ?_ _ | with_reducible refine K.Ext.alloc ?_ _ | with_reducible refine K.Ext.drew ?_ | (dsimp only; omega) | omega | (simp; omega)))
  · obtain ⟨t, ht⟩ : ∃ t, t = (decide (vs.length = F.nm.size) && Z.areFigs vs) := ⟨_, rfl⟩
    have HT : ∀ {c d : Nat} {p v : Value} (w : World), K.recs false K.FgR w c d v vs → Calls Try.prog 126 #[.agg #[.int .i64 F.dg, .int .i64 F.tn, .string F.nm, p], v] w fun e w' => e = .returned (.bool t) ∧ K.Ext w w' := fun w h' => by rw [ht]; exact l18Values_any F vs w hnF hmvs h'
    cases t
    · have HE : Hid (Z.FormulaLog F vs = ((0, 0), 1)) := Z.hide (by unfold Z.FormulaLog Z.isValued; rw [vF, Bool.and_assoc, ← ht]; rfl)
      clear ht
      have X0 : K.Ext w w := K.Ext.refl w
      go_enter Try.func50, Try.ntmps50
      go_wp2_with (go_at_call 91; refine K.call (by with_reducible rfl) (by with_reducible rfl) (spec_IsFormula F _ hmF hnF (show K.ints _ (loF) (hiF) (.slice oF F.pw.length cF) (F.pw) from by repeat' (first | with_reducible exact hF_ | with_reducible refine K.ints.set ?_ _ ?_ _ | with_reducible refine K.ints.alloc ?_ _ | with_reducible refine K.ints.drew ?_ | (dsimp only; omega) | omega | (simp; done) | (simp; omega)))) ?_; rintro e w1 ⟨rfl, x1⟩; have s1 : w.heap.size + 2 ≤ w1.heap.size := (by have h_ := x1.size; (try simp at h_); omega); have X1 : K.Ext w w1 := K.Ext.trans (by repeat' (first | with_reducible exact X0 | with_reducible refine K.Ext.setCell ?_ ?_ _ | with_reducible refine K.Ext.alloc ?_ _ | with_reducible refine K.Ext.drew ?_ | (dsimp only; omega) | omega | (simp; omega))) x1; obtain ⟨c1_0_0, c1_0_1, c1_0_2, c1_0_3⟩ := K.c4 x1 (w.heap.size) (.int .i64 F.dg) (.int .i64 F.tn) (.string F.nm) (.slice oF F.pw.length cF) (by go_simp); have z1_0 : w.heap.size < w1.heap.size := World.block_lt_of_cell? w1 _ c1_0_0; have d1_0 : ¬ (w.heap.size = w1.heap.size) := (by omega); have e1_0 : ¬ (w1.heap.size = w.heap.size) := (by omega); obtain ⟨c1_1_0, c1_1_1⟩ := K.c2 x1 (w.heap.size + 1) (.int .i64 0) (.int .i64 0) (by go_simp); obtain ⟨f1_1_0, f1_1_1⟩ := K.f2 x1 (w.heap.size + 1) (by go_simp); have z1_1 : w.heap.size + 1 < w1.heap.size := World.block_lt_of_cell? w1 _ c1_1_0; have d1_1 : ¬ (w.heap.size + 1 = w1.heap.size) := (by omega); have e1_1 : ¬ (w1.heap.size = w.heap.size + 1) := (by omega); have n1_0 : ¬ (w.heap.size + 1 = w.heap.size) := (by omega); have n0_1 : ¬ (w.heap.size = w.heap.size + 1) := (by omega); have F1_1 := K.ints.ext (show K.ints _ (loF) (hiF) (.slice oF F.pw.length cF) (F.pw) from by repeat' (first | with_reducible exact hF_ | with_reducible refine K.ints.set ?_ _ ?_ _ | with_reducible refine K.ints.alloc ?_ _ | with_reducible refine K.ints.drew ?_ | (dsimp only; omega) | omega | (simp; done) | (simp; omega))) x1; have F2_1 := K.recs.ext (show K.recs false K.FgR _ (lovs) (hivs) (.slice ovs vs.length cvs) (vs) from by repeat' (first | with_reducible exact hvs_ | with_reducible refine K.recs.set (by decide) ?_ _ ?_ _ | with_reducible refine K.recs.alloc ?_ _ | with_reducible refine K.recs.drew ?_ | (dsimp only; omega) | omega | (simp; done) | (simp; omega))) x1; clear hF_ hvs_)
      go_wp2_with (go_at_call 126; refine K.call (by with_reducible rfl) (by with_reducible rfl) (HT _ (F2_1)) ?_; rintro e w2 ⟨rfl, x2⟩; have s2 : w1.heap.size ≤ w2.heap.size := (by have h_ := x2.size; (try simp at h_); omega); have X2 := K.Ext.trans (X1) x2; obtain ⟨c2_0_0, c2_0_1, c2_0_2, c2_0_3⟩ := K.c4 x2 (w.heap.size) (.int .i64 F.dg) (.int .i64 F.tn) (.string F.nm) (.slice oF F.pw.length cF) (by go_simp); have z2_0 : w.heap.size < w2.heap.size := World.block_lt_of_cell? w2 _ c2_0_0; have d2_0 : ¬ (w.heap.size = w2.heap.size) := (by omega); have e2_0 : ¬ (w2.heap.size = w.heap.size) := (by omega); obtain ⟨c2_1_0, c2_1_1⟩ := K.c2 x2 (w.heap.size + 1) (.int .i64 0) (.int .i64 0) (by go_simp); obtain ⟨f2_1_0, f2_1_1⟩ := K.f2 x2 (w.heap.size + 1) (by go_simp); have z2_1 : w.heap.size + 1 < w2.heap.size := World.block_lt_of_cell? w2 _ c2_1_0; have d2_1 : ¬ (w.heap.size + 1 = w2.heap.size) := (by omega); have e2_1 : ¬ (w2.heap.size = w.heap.size + 1) := (by omega); have F1_2 := K.ints.ext (F1_1) x2; have F2_2 := K.recs.ext (F2_1) x2; clear c1_0_0 c1_0_1 c1_0_2 c1_0_3 z1_0 d1_0 e1_0 c1_1_0 c1_1_1 f1_1_0 f1_1_1 z1_1 d1_1 e1_1 F1_1 F2_1)
      rw [HE.out]
      refine bodyPost_ret (v := .tuple #[.agg #[.int .i64 0, .int .i64 0], .int .i64 1]) (by unfold results; rw [Try.results50]; go_simp) rfl ⟨rfl, ?_⟩
      repeat with_reducible refine K.Ext.setCell ?_ (by dsimp only; omega) _
      exact (by repeat' (first | with_reducible exact X2 | with_reducible refine K.Ext.setCell ?_ ?_ _ | with_reducible refine K.Ext.alloc ?_ _ | with_reducible refine K.Ext.drew ?_ | (dsimp only; omega) | omega | (simp; omega)))
    · obtain ⟨u, hu⟩ : ∃ u, u = Z.logK (F.dg, F.tn) vs F.pw vs.length := ⟨_, rfl⟩
      have HE : Hid (Z.FormulaLog F vs = (u, 0)) := Z.hide (by unfold Z.FormulaLog Z.isValued; rw [vF, Bool.and_assoc, ← ht, hu]; rfl)
      have h3 : vs.length = F.nm.size ∧ Z.areFigs vs = true := by simpa using ht.symm
      have HK : ∀ {a b c d : Nat} {p v : Value} (w : World), K.ints w a b p F.pw → K.recs false K.FgR w c d v vs → Calls Try.prog 127 #[.agg #[.int .i64 F.dg, .int .i64 F.tn, .string F.nm, p], v] w fun e w' => e = .returned (.agg #[.int .i64 u.1, .int .i64 u.2]) ∧ K.Ext w w' := fun w h h' => by
        rw [hu]; exact l18Log_any F vs w vF h3.1 h3.2 h h'
      clear hu ht h3
      have X0 : K.Ext w w := K.Ext.refl w
      go_enter Try.func50, Try.ntmps50
      go_wp2_with (go_at_call 91; refine K.call (by with_reducible rfl) (by with_reducible rfl) (spec_IsFormula F _ hmF hnF (show K.ints _ (loF) (hiF) (.slice oF F.pw.length cF) (F.pw) from by repeat' (first | with_reducible exact hF_ | with_reducible refine K.ints.set ?_ _ ?_ _ | with_reducible refine K.ints.alloc ?_ _ | with_reducible refine K.ints.drew ?_ | (dsimp only; omega) | omega | (simp; done) | (simp; omega)))) ?_; rintro e w1 ⟨rfl, x1⟩; have s1 : w.heap.size + 2 ≤ w1.heap.size := (by have h_ := x1.size; (try simp at h_); omega); have X1 : K.Ext w w1 := K.Ext.trans (by repeat' (first | with_reducible exact X0 | with_reducible refine K.Ext.setCell ?_ ?_ _ | with_reducible refine K.Ext.alloc ?_ _ | with_reducible refine K.Ext.drew ?_ | (dsimp only; omega) | omega | (simp; omega))) x1; obtain ⟨c1_0_0, c1_0_1, c1_0_2, c1_0_3⟩ := K.c4 x1 (w.heap.size) (.int .i64 F.dg) (.int .i64 F.tn) (.string F.nm) (.slice oF F.pw.length cF) (by go_simp); have z1_0 : w.heap.size < w1.heap.size := World.block_lt_of_cell? w1 _ c1_0_0; have d1_0 : ¬ (w.heap.size = w1.heap.size) := (by omega); have e1_0 : ¬ (w1.heap.size = w.heap.size) := (by omega); obtain ⟨c1_1_0, c1_1_1⟩ := K.c2 x1 (w.heap.size + 1) (.int .i64 0) (.int .i64 0) (by go_simp); obtain ⟨f1_1_0, f1_1_1⟩ := K.f2 x1 (w.heap.size + 1) (by go_simp); have z1_1 : w.heap.size + 1 < w1.heap.size := World.block_lt_of_cell? w1 _ c1_1_0; have d1_1 : ¬ (w.heap.size + 1 = w1.heap.size) := (by omega); have e1_1 : ¬ (w1.heap.size = w.heap.size + 1) := (by omega); have n1_0 : ¬ (w.heap.size + 1 = w.heap.size) := (by omega); have n0_1 : ¬ (w.heap.size = w.heap.size + 1) := (by omega); have F1_1 := K.ints.ext (show K.ints _ (loF) (hiF) (.slice oF F.pw.length cF) (F.pw) from by repeat' (first | with_reducible exact hF_ | with_reducible refine K.ints.set ?_ _ ?_ _ | with_reducible refine K.ints.alloc ?_ _ | with_reducible refine K.ints.drew ?_ | (dsimp only; omega) | omega | (simp; done) | (simp; omega))) x1; have F2_1 := K.recs.ext (show K.recs false K.FgR _ (lovs) (hivs) (.slice ovs vs.length cvs) (vs) from by repeat' (first | with_reducible exact hvs_ | with_reducible refine K.recs.set (by decide) ?_ _ ?_ _ | with_reducible refine K.recs.alloc ?_ _ | with_reducible refine K.recs.drew ?_ | (dsimp only; omega) | omega | (simp; done) | (simp; omega))) x1; clear hF_ hvs_)
      go_wp2_with (go_at_call 126; refine K.call (by with_reducible rfl) (by with_reducible rfl) (HT _ (F2_1)) ?_; rintro e w2 ⟨rfl, x2⟩; have s2 : w1.heap.size ≤ w2.heap.size := (by have h_ := x2.size; (try simp at h_); omega); have X2 := K.Ext.trans (X1) x2; obtain ⟨c2_0_0, c2_0_1, c2_0_2, c2_0_3⟩ := K.c4 x2 (w.heap.size) (.int .i64 F.dg) (.int .i64 F.tn) (.string F.nm) (.slice oF F.pw.length cF) (by go_simp); have z2_0 : w.heap.size < w2.heap.size := World.block_lt_of_cell? w2 _ c2_0_0; have d2_0 : ¬ (w.heap.size = w2.heap.size) := (by omega); have e2_0 : ¬ (w2.heap.size = w.heap.size) := (by omega); obtain ⟨c2_1_0, c2_1_1⟩ := K.c2 x2 (w.heap.size + 1) (.int .i64 0) (.int .i64 0) (by go_simp); obtain ⟨f2_1_0, f2_1_1⟩ := K.f2 x2 (w.heap.size + 1) (by go_simp); have z2_1 : w.heap.size + 1 < w2.heap.size := World.block_lt_of_cell? w2 _ c2_1_0; have d2_1 : ¬ (w.heap.size + 1 = w2.heap.size) := (by omega); have e2_1 : ¬ (w2.heap.size = w.heap.size + 1) := (by omega); have F1_2 := K.ints.ext (F1_1) x2; have F2_2 := K.recs.ext (F2_1) x2; clear c1_0_0 c1_0_1 c1_0_2 c1_0_3 z1_0 d1_0 e1_0 c1_1_0 c1_1_1 f1_1_0 f1_1_1 z1_1 d1_1 e1_1 F1_1 F2_1)
      go_wp2_with (go_at_call 127; refine K.call (by with_reducible rfl) (by with_reducible rfl) (HK _ (F1_2) (F2_2)) ?_; rintro e w3 ⟨rfl, x3⟩; have s3 : w2.heap.size ≤ w3.heap.size := (by have h_ := x3.size; (try simp at h_); omega); have X3 := K.Ext.trans (X2) x3; obtain ⟨c3_0_0, c3_0_1, c3_0_2, c3_0_3⟩ := K.c4 x3 (w.heap.size) (.int .i64 F.dg) (.int .i64 F.tn) (.string F.nm) (.slice oF F.pw.length cF) (by go_simp); have z3_0 : w.heap.size < w3.heap.size := World.block_lt_of_cell? w3 _ c3_0_0; have d3_0 : ¬ (w.heap.size = w3.heap.size) := (by omega); have e3_0 : ¬ (w3.heap.size = w.heap.size) := (by omega); obtain ⟨c3_1_0, c3_1_1⟩ := K.c2 x3 (w.heap.size + 1) (.int .i64 0) (.int .i64 0) (by go_simp); obtain ⟨f3_1_0, f3_1_1⟩ := K.f2 x3 (w.heap.size + 1) (by go_simp); have z3_1 : w.heap.size + 1 < w3.heap.size := World.block_lt_of_cell? w3 _ c3_1_0; have d3_1 : ¬ (w.heap.size + 1 = w3.heap.size) := (by omega); have e3_1 : ¬ (w3.heap.size = w.heap.size + 1) := (by omega); have F1_3 := K.ints.ext (F1_2) x3; have F2_3 := K.recs.ext (F2_2) x3; clear c2_0_0 c2_0_1 c2_0_2 c2_0_3 z2_0 d2_0 e2_0 c2_1_0 c2_1_1 f2_1_0 f2_1_1 z2_1 d2_1 e2_1 F1_2 F2_2)
      rw [HE.out]
      refine bodyPost_ret (v := .tuple #[.agg #[.int .i64 u.1, .int .i64 u.2], .int .i64 0]) (by unfold results; rw [Try.results50]; go_simp) rfl ⟨rfl, ?_⟩
      repeat with_reducible refine K.Ext.setCell ?_ (by dsimp only; omega) _
      exact (by repeat' (first | with_reducible exact X3 | with_reducible refine K.Ext.setCell ?_ ?_ _ | with_reducible refine K.Ext.alloc ?_ _ | with_reducible refine K.Ext.drew ?_ | (dsimp only; omega) | omega | (simp; omega)))
end Go.Proofs.Ythmnlbgbacbocaa
end
section
namespace Go.K2
open Go Go.K
section walk
variable (P : Program) (ops : Array Oper) (C : World → Prop) (R : World → World → Prop) (W : World) (V : Nat → Value → World → Prop) (D : Nat → Nat → Value → Value → Prop) (kind : Nat → Nat) (T : Act → World → Prop)
/-- what is new is apart from what there is -/
def Apart (k : Nat) (w : World) (v : Value) : Prop := ∀ j u, j ≠ k → V j u w → D j k u v ∧ D k j v u
def Gives (k : Nat) (w : World) : Result Next → Prop
  | .ok (.value v) w' => C w' ∧ R w w' ∧ V k v w' ∧ Apart V D k w v
  | .ok .skip w' => C w' ∧ R w w' ∧ V k undef w' ∧ Apart V D k w undef
  | .ok (.enter f args) w' => Calls P f args w' fun e w'' => ∃ v, e = .returned v ∧ C w'' ∧ R w w'' ∧ V k v w'' ∧ Apart V D k w v
  | _ => False
def Walk : Nat → List Oper → (Nat → Option Value) → Act → World → Prop
  | _, [], _, a, w => ∀ w', C w' → R w w' → T a w'
  | k, o :: rest, s, a, w =>
    if Region.wanted o (yielded ops a.tmps) then
      if kind k = 2 then
        (∀ w', C w' → R W w' → (∀ j v, edge o j = true → kind j = 2 → s j = some v → V j v w') → Gives P C R V D k w' ((execOp a.eval o).run P w')) ∧
        ∀ v w', C w' → R w w' → V k v w' → (∀ j u, j < k → kind j = 2 → s j = some u → D j k u v) → Walk (k + 1) rest (upd s k (some v)) (a.put o.dst v) w'
      else ∃ v, (∀ w', (kind k = 1 → C w' ∧ R W w') → (execOp a.eval o).run P w' = .ok (.value v) w') ∧ Walk (k + 1) rest (upd s k (some v)) (a.put o.dst v) w
    else Walk (k + 1) rest (upd s k none) (a.put o.dst undef) w
end walk
section steps
variable {P : Program} {ops : Array Oper} {C : World → Prop} {R : World → World → Prop} {W : World} {V : Nat → Value → World → Prop} {D : Nat → Nat → Value → Value → Prop} {kind : Nat → Nat} {T : Act → World → Prop}
  {k : Nat} {o : Oper} {rest : List Oper} {s : Nat → Option Value} {a : Act} {w : World}
theorem Walk.skip (hw : Region.wanted o (yielded ops a.tmps) = false) (h : Walk P ops C R W V D kind T (k + 1) rest (upd s k none) (a.put o.dst undef) w) : Walk P ops C R W V D kind T k (o :: rest) s a w := by
  unfold Walk; rw [if_neg (by rw [hw]; exact Bool.false_ne_true)]; exact h
theorem Walk.pure {v : Value} (hw : Region.wanted o (yielded ops a.tmps) = true) (hk : kind k = 0) (h1 : ∀ w', (execOp a.eval o).run P w' = .ok (.value v) w')
    (h : Walk P ops C R W V D kind T (k + 1) rest (upd s k (some v)) (a.put o.dst v) w) : Walk P ops C R W V D kind T k (o :: rest) s a w := by
  unfold Walk; rw [if_pos hw, if_neg (by omega)]; exact ⟨v, fun w' _ => h1 w', h⟩
theorem Walk.held {v : Value} (hw : Region.wanted o (yielded ops a.tmps) = true) (hk : kind k = 1) (h1 : ∀ w', C w' → R W w' → (execOp a.eval o).run P w' = .ok (.value v) w')
    (h : Walk P ops C R W V D kind T (k + 1) rest (upd s k (some v)) (a.put o.dst v) w) : Walk P ops C R W V D kind T k (o :: rest) s a w := by
  unfold Walk; rw [if_pos hw, if_neg (by omega)]; exact ⟨v, fun w' h => h1 w' (h hk).1 (h hk).2, h⟩
theorem Walk.told (hw : Region.wanted o (yielded ops a.tmps) = true) (hk : kind k = 2)
    (h1 : ∀ w', C w' → R W w' → (∀ j v, edge o j = true → kind j = 2 → s j = some v → V j v w') → Gives P C R V D k w' ((execOp a.eval o).run P w'))
    (h : ∀ v w', C w' → R w w' → V k v w' → (∀ j u, j < k → kind j = 2 → s j = some u → D j k u v) → Walk P ops C R W V D kind T (k + 1) rest (upd s k (some v)) (a.put o.dst v) w') : Walk P ops C R W V D kind T k (o :: rest) s a w := by
  unfold Walk; rw [if_pos hw, if_pos hk]; exact ⟨h1, h⟩
theorem Walk.done (h : ∀ w', C w' → R w w' → T a w') : Walk P ops C R W V D kind T k [] s a w := by unfold Walk; exact h
theorem Walk.mono (hRt : ∀ a b c, R a b → R b c → R a c) : ∀ (l : List Oper) (k : Nat) (s : Nat → Option Value) (a : Act) (w w1 : World), R w w1 →
    Walk P ops C R W V D kind T k l s a w → Walk P ops C R W V D kind T k l s a w1 := by
  intro l
  induction l with
  | nil => intro k s a w w1 hr h; unfold Walk at *; exact fun w' hc hr' => h w' hc (hRt _ _ _ hr hr')
  | cons o l ih =>
    intro k s a w w1 hr h
    unfold Walk at h ⊢
    split
    · rename_i hw
      rw [if_pos hw] at h
      split
      · rename_i hk
        rw [if_pos hk] at h
        exact ⟨h.1, fun v w' hc hr' hv hd => h.2 v w' hc (hRt _ _ _ hr hr') hv hd⟩
      · rename_i hk
        rw [if_neg hk] at h
        obtain ⟨v, h1, h2⟩ := h
        exact ⟨v, h1, ih _ _ _ _ _ hr h2⟩
    · rename_i hw
      rw [if_neg hw] at h
      exact ih _ _ _ _ _ hr h
end steps
structure Fits (ops : Array Oper) (m : Nat) (kind : Nat → Nat) : Prop where
  le : m ≤ ops.size
  sel : ∀ (j : Nat) (o : Oper) cs b, ops[j]? = some o → o.op ≠ .select cs b
  back : ∀ i o, ops[i]? = some o → ∀ j, edge o j = true → j < i
  dst : ∀ i j t, i < m → j < m → dstOf ops i = some t → dstOf ops j = some t → i = j
  looks : ∀ i o j t, ops[i]? = some o → i < m → j < m → dstOf ops j = some t → t ∈ o.looksAt ops → edge o j = true
  pure : ∀ i oi j oj, i < m → kind i = 0 → ops[i]? = some oi → ops[j]? = some oj → j ≠ i → edge oj i = false → edge oi j = false → oi.apart ops oj = true
  tail : ∀ t o, m ≤ t → ops[t]? = some o → ∀ i, i < m → kind i ≠ 0 → edge o i = true ∨ ∃ k ok, edge o k = true ∧ ops[k]? = some ok ∧ edge ok i = true
  seq : ∀ t o, m ≤ t → ops[t]? = some o → ∀ j, m ≤ j → j < t → edge o j = true
section main
variable {P : Program} {ops : Array Oper} {C : World → Prop} {R : World → World → Prop} {W : World} {V : Nat → Value → World → Prop} {D : Nat → Nat → Value → Value → Prop} {kind : Nat → Nat} {m : Nat} {a0 : Act}
  {Q : Exit → Act → World → Prop}
theorem agree_lex (F : Fits ops m kind) {E : List Nat} {s s' : Nat → Option Value} {k : Nat} {o : Oper} (ho : ops[k]? = some o) (hk : k < m) (hE : ∀ j ∈ E, j < m)
    (hcl : ∀ j, edge o j = true → j ∈ E) (hs : ∀ j, j < k → j ∈ E → s' j = s j) : Agree ops o (runs ops s' (List.range k) a0) (runs ops s E a0) := by
  intro t ht
  by_cases hj : ∃ j, j < m ∧ dstOf ops j = some t
  · obtain ⟨j, hjm, hjd⟩ := hj
    have he := F.looks k o j t ho hk hjm hjd ht
    have hjk := F.back k o ho j he
    have hjE := hcl j he
    rw [slot_runs_some (List.mem_range.2 hjk) hjd (fun i hi hd => F.dst i j t (by have := List.mem_range.1 hi; omega) hjm hd hjd),
      slot_runs_some hjE hjd (fun i hi hd => F.dst i j t (hE i hi) hjm hd hjd), hs j hjk hjE]
  · rw [slot_runs_none (fun j hj' hd => hj ⟨j, by have := List.mem_range.1 hj'; omega, hd⟩), slot_runs_none (fun j hj' hd => hj ⟨j, hE j hj', hd⟩)]
def Recd (P : Program) (ops : Array Oper) (W : World) (kind : Nat → Nat) (s : Nat → Option Value) (a : Act) (k : Nat) (o : Oper) : Prop :=
  (Region.wanted o (yielded ops a.tmps) = true ∧ ∃ v, s k = some v ∧ (kind k ≠ 2 → (execOp a.eval o).run P W = .ok (.value v) W)) ∨ (Region.wanted o (yielded ops a.tmps) = false ∧ s k = none)
structure Inv (P : Program) (ops : Array Oper) (C : World → Prop) (R : World → World → Prop) (W : World) (V : Nat → Value → World → Prop) (D : Nat → Nat → Value → Value → Prop) (kind : Nat → Nat) (m : Nat) (a0 : Act)
    (E : List Nat) (s : Nat → Option Value) (w : World) : Prop where
  nodup : E.Nodup
  lt : ∀ j ∈ E, j < m
  cl : ∀ j ∈ E, ∀ o, ops[j]? = some o → ∀ k, edge o k = true → k ∈ E
  hC : C w
  hR : R W w
  facts : ∀ j ∈ E, ∀ v, kind j = 2 → s j = some v → V j v w
  recd : ∀ j ∈ E, ∀ o, ops[j]? = some o → Recd P ops W kind s (runs ops s E a0) j o
  pair : ∀ i ∈ E, ∀ j ∈ E, i ≠ j → kind i = 2 → kind j = 2 → ∀ u v, s i = some u → s j = some v → D i j u v
/-- An operation of the head can be carried out as soon as what it waits for has been. -/
theorem ready_runs (F : Fits ops m kind) (hRr : ∀ a, R a a) (hRt : ∀ a b c, R a b → R b c → R a c) (hV : ∀ i v a b, R a b → V i v a → V i v b) (hCW : C W) {T : Act → World → Prop}
    (hW : Walk P ops C R W V D kind T 0 (ops.toList.take m) (fun _ => none) a0 W) {E : List Nat} {s : Nat → Option Value} {w : World} (I : Inv P ops C R W V D kind m a0 E s w) :
    ∀ k, k ≤ m → ∃ s' w', ((∀ j, j < k → j ∈ E) → w' = w) ∧ C w' ∧ R w w' ∧ (∀ j, j < k → j ∈ E → s' j = s j) ∧ (∀ j, j < k → ∀ v, kind j = 2 → s' j = some v → V j v w') ∧
      ((∀ i j, i < k → j < k → i ≠ j → kind i = 2 → kind j = 2 → ∀ u v, s' i = some u → s' j = some v → D i j u v) ∧
        (∀ i j, i < k → j ∈ E → i ≠ j → kind i = 2 → kind j = 2 → ∀ u v, s' i = some u → s j = some v → D i j u v ∧ D j i v u)) ∧
      Walk P ops C R W V D kind T k ((ops.toList.take m).drop k) s' (runs ops s' (List.range k) a0) w' := by
  intro k
  induction k with
  | zero =>
    intro _
    exact ⟨fun _ => none, w, fun _ => rfl, I.hC, hRr _, fun j hj => absurd hj (by omega), fun j hj => absurd hj (by omega), ⟨fun i j hi => absurd hi (by omega), fun i j hi => absurd hi (by omega)⟩, by simpa [runs] using Walk.mono hRt _ _ _ _ _ _ I.hR hW⟩
  | succ k ih =>
    intro hk
    obtain ⟨s', w', hww, hc, hr, hs, hf, ⟨hp1, hp2⟩, hwalk⟩ := ih (by omega)
    have hww' : (∀ j, j < k + 1 → j ∈ E) → w' = w := fun h => hww fun j hj => h j (by omega)
    have hlt : k < ops.size := by have := F.le; omega
    have ho : ops[k]? = some ops[k] := by simp [hlt]
    have hdrop : (ops.toList.take m).drop k = ops[k] :: (ops.toList.take m).drop (k + 1) := by
      rw [List.drop_eq_getElem_cons (by simp; omega)]
      simp
    rw [hdrop] at hwalk
    generalize hok : ops[k] = o at *
    have hput : ∀ v : Option Value, runs ops (upd s' k v) (List.range (k + 1)) a0 = (runs ops s' (List.range k) a0).put o.dst (v.getD undef) := fun v => by
      rw [List.range_succ, runs_append, upd_same, runs_congr (s' := s') (fun i hi => upd_ne _ _ (by have := List.mem_range.1 hi; omega))]
      simp [dstOf, ho]
    have hsE : ∀ v : Option Value, (k ∈ E → v = s k) → ∀ j, j < k + 1 → j ∈ E → upd s' k v j = s j := fun v hv j hj hjE => by
      by_cases hjk : j = k
      · subst hjk; rw [upd_same]; exact hv hjE
      · rw [upd_ne _ _ hjk]; exact hs j (by omega) hjE
    have hfV : ∀ (v : Option Value) (w2 : World), R w' w2 → (∀ x, kind k = 2 → v = some x → V k x w2) → ∀ j, j < k + 1 → ∀ x, kind j = 2 → upd s' k v j = some x → V j x w2 := fun v w2 hr2 hv j hj x hkj hx => by
      by_cases hjk : j = k
      · subst hjk; rw [upd_same] at hx; exact hv x hkj hx
      · rw [upd_ne _ _ hjk] at hx; exact hV _ _ _ _ hr2 (hf j (by omega) x hkj hx)
    -- the pairs, with what k yields
    have hpp : ∀ (v : Option Value), (∀ x, kind k = 2 → v = some x → (∀ i, i < k → kind i = 2 → ∀ u, s' i = some u → D i k u x ∧ D k i x u) ∧ (∀ j, j ∈ E → k ≠ j → kind j = 2 → ∀ u, s j = some u → D k j x u ∧ D j k u x)) →
        (∀ i j, i < k + 1 → j < k + 1 → i ≠ j → kind i = 2 → kind j = 2 → ∀ u x, upd s' k v i = some u → upd s' k v j = some x → D i j u x) ∧
        (∀ i j, i < k + 1 → j ∈ E → i ≠ j → kind i = 2 → kind j = 2 → ∀ u x, upd s' k v i = some u → s j = some x → D i j u x ∧ D j i x u) := fun v hv => by
      refine ⟨fun i j hi hj hij hki hkj u x hu hx => ?_, fun i j hi hj hij hki hkj u x hu hx => ?_⟩
      · by_cases hik : i = k
        · subst hik
          rw [upd_same] at hu
          rw [upd_ne _ _ (fun e : j = i => hij e.symm)] at hx
          exact ((hv u hki hu).1 j (by omega) hkj x hx).2
        · rw [upd_ne _ _ hik] at hu
          by_cases hjk : j = k
          · subst hjk
            rw [upd_same] at hx
            exact ((hv x hkj hx).1 i (by omega) hki u hu).1
          · rw [upd_ne _ _ hjk] at hx
            exact hp1 i j (by omega) (by omega) hij hki hkj u x hu hx
      · by_cases hik : i = k
        · subst hik
          rw [upd_same] at hu
          exact (hv u hki hu).2 j hj hij hkj x hx
        · rw [upd_ne _ _ hik] at hu
          exact hp2 i j (by omega) hj hij hki hkj u x hu hx
    -- what the record says, if k has been carried out
    have hag : k ∈ E → Agree ops o (runs ops s' (List.range k) a0) (runs ops s E a0) := fun hkE =>
      agree_lex F ho (by omega) I.lt (fun j hj => I.cl k hkE o ho j hj) hs
    unfold Walk at hwalk
    by_cases hw : Region.wanted o (yielded ops (runs ops s' (List.range k) a0).tmps) = true
    · rw [if_pos hw] at hwalk
      by_cases hk2 : kind k = 2
      · rw [if_pos hk2] at hwalk
        by_cases hkE : k ∈ E
        · rcases I.recd k hkE o ho with ⟨_, v, hv, _⟩ | ⟨hn, _⟩
          · have hVk : V k v w' := hV _ _ _ _ hr (I.facts k hkE v hk2 hv)
            refine ⟨upd s' k (some v), w', hww', hc, hr, hsE _ (fun _ => hv.symm), hfV _ _ (hRr _) (fun x _ hx => by cases hx; exact hVk), hpp _ (fun x _ hx => ?_), ?_⟩
            · cases hx
              exact ⟨fun i hi hki u hu => hp2 i k hi hkE (by omega) hki hk2 u v hu hv, fun j hj hkj hkj2 u hu => ⟨I.pair k hkE j hj hkj hk2 hkj2 v u hv hu, I.pair j hj k hkE (fun e => hkj e.symm) hkj2 hk2 u v hu hv⟩⟩
            · rw [hput]; exact hwalk.2 v w' hc (hRr _) hVk (fun j u hj hkj hu => (hp2 j k hj hkE (by omega) hkj hk2 u v hu hv).1)
          · rw [(hag hkE).wanted, hn] at hw; cases hw
        · have hg := hwalk.1 w' hc (hRt _ _ _ I.hR hr) (fun j v he hk hv => hf j (F.back k o ho j he) v hk hv)
          have hex : ∃ v w2, C w2 ∧ R w' w2 ∧ V k v w2 ∧ Apart V D k w' v := by
            generalize (execOp (runs ops s' (List.range k) a0).eval o).run P w' = r at hg
            cases r with
            | ok n w2 =>
              cases n <;> simp only [Gives] at hg
              case value v => exact ⟨v, w2, hg⟩
              case skip => exact ⟨undef, w2, hg⟩
              case enter f args =>
                obtain ⟨e, w3, fr, ⟨v, _, hv⟩, _⟩ := hg []
                exact ⟨v, w3, hv⟩
            | halt h w2 => exact hg.elim
          obtain ⟨v, w2, hc2, hr2, hv2, hap⟩ := hex
          refine ⟨upd s' k (some v), w2, fun h => absurd (h k (by omega)) hkE, hc2, hRt _ _ _ hr hr2, hsE _ (fun h => absurd h hkE), hfV _ _ hr2 (fun x _ hx => by cases hx; exact hv2), hpp _ (fun x _ hx => ?_), ?_⟩
          · cases hx
            exact ⟨fun i hi hki u hu => hap i u (by omega) (hf i hi u hki hu), fun j hj hkj hkj2 u hu => (hap j u (fun e => hkj e.symm) (hV _ _ _ _ hr (I.facts j hj u hkj2 hu))).symm⟩
          · rw [hput]; exact hwalk.2 v w2 hc2 hr2 hv2 (fun j u hj hkj hu => (hap j u (by omega) (hf j hj u hkj hu)).1)
      · rw [if_neg hk2] at hwalk
        obtain ⟨v, h1, h2⟩ := hwalk
        refine ⟨upd s' k (some v), w', hww', hc, hr, hsE _ (fun hkE => ?_), hfV _ _ (hRr _) (fun x h => absurd h hk2), hpp _ (fun x h => absurd h hk2), by rw [hput]; exact h2⟩
        rcases I.recd k hkE o ho with ⟨_, v', hv', hrun⟩ | ⟨hn, _⟩
        · have h3 := hrun hk2
          have h4 := h1 W (fun _ => ⟨hCW, hRr _⟩)
          rw [(hag hkE).exec (fun cs b => F.sel k o cs b ho), h3] at h4
          cases h4; exact hv'.symm
        · rw [(hag hkE).wanted, hn] at hw; cases hw
    · rw [if_neg hw] at hwalk
      refine ⟨upd s' k none, w', hww', hc, hr, hsE _ (fun hkE => ?_), hfV _ _ (hRr _) (fun x _ hx => by cases hx), hpp _ (fun x _ hx => by cases hx), by rw [hput]; exact hwalk⟩
      rcases I.recd k hkE o ho with ⟨hy, _⟩ | ⟨_, hn⟩
      · rw [(hag hkE).wanted, hy] at hw; exact absurd rfl hw
      · exact hn.symm
/-- What the operation i yields now. -/
def Now (P : Program) (ops : Array Oper) (C : World → Prop) (R : World → World → Prop) (W : World) (V : Nat → Value → World → Prop) (D : Nat → Nat → Value → Value → Prop) (kind : Nat → Nat) (i : Nat) (o : Oper) (a : Act) (w : World) : Prop :=
  Region.wanted o (yielded ops a.tmps) = false ∨
  (Region.wanted o (yielded ops a.tmps) = true ∧ kind i = 2 ∧ Gives P C R V D i w ((execOp a.eval o).run P w)) ∨
  (Region.wanted o (yielded ops a.tmps) = true ∧ kind i ≠ 2 ∧ ∃ v, ∀ w', (kind i = 1 → C w' ∧ R W w') → (execOp a.eval o).run P w' = .ok (.value v) w')
theorem now_of (F : Fits ops m kind) (hRr : ∀ a, R a a) (hRt : ∀ a b c, R a b → R b c → R a c) (hV : ∀ i v a b, R a b → V i v a → V i v b) (hCW : C W) {T : Act → World → Prop}
    (hW : Walk P ops C R W V D kind T 0 (ops.toList.take m) (fun _ => none) a0 W) {E : List Nat} {s : Nat → Option Value} {w : World} (I : Inv P ops C R W V D kind m a0 E s w)
    {i : Nat} {o : Oper} (ho : ops[i]? = some o) (hi : i < m) (he : ∀ j, edge o j = true → j ∈ E) : Now P ops C R W V D kind i o (runs ops s E a0) w := by
  obtain ⟨s', w', _, hc, hr, hs, hf, _, hwalk⟩ := ready_runs F hRr hRt hV hCW hW I i (by omega)
  have hlt : i < ops.size := by have := F.le; omega
  have hdrop : (ops.toList.take m).drop i = ops[i] :: (ops.toList.take m).drop (i + 1) := by
    rw [List.drop_eq_getElem_cons (by simp; omega)]
    simp
  have hoe : ops[i] = o := by simpa [hlt] using ho
  rw [hdrop, hoe] at hwalk
  have hag := agree_lex (a0 := a0) F ho hi I.lt he hs
  unfold Walk at hwalk
  unfold Now
  rw [← hag.wanted, ← hag.exec (fun cs b => F.sel i o cs b ho)]
  by_cases hw : Region.wanted o (yielded ops (runs ops s' (List.range i) a0).tmps) = true
  · rw [if_pos hw] at hwalk
    by_cases hk2 : kind i = 2
    · rw [if_pos hk2] at hwalk
      exact .inr (.inl ⟨hw, hk2, hwalk.1 w I.hC I.hR (fun j v hj hk hv => I.facts j (he j hj) v hk (by rw [← hs j (F.back i o ho j hj) (he j hj)]; exact hv))⟩)
    · rw [if_neg hk2] at hwalk
      obtain ⟨v, h1, _⟩ := hwalk
      exact .inr (.inr ⟨hw, hk2, v, h1⟩)
  · exact .inl (by simpa using hw)
theorem Inv.snoc (F : Fits ops m kind) (hRt : ∀ a b c, R a b → R b c → R a c) (hV : ∀ i v a b, R a b → V i v a → V i v b) {E : List Nat} {s : Nat → Option Value} {w w2 : World}
    (I : Inv P ops C R W V D kind m a0 E s w) {i : Nat} {o : Oper} (ho : ops[i]? = some o) (hi : i < m) (hiE : i ∉ E) (he : ∀ j, edge o j = true → j ∈ E) (v : Option Value)
    (hc : C w2) (hr : R w w2) (hv : ∀ x, kind i = 2 → v = some x → V i x w2) (hd : ∀ x, kind i = 2 → v = some x → Apart V D i w x)
    (hrec : (Region.wanted o (yielded ops (runs ops s E a0).tmps) = true ∧ ∃ x, v = some x ∧ (kind i ≠ 2 → (execOp (runs ops s E a0).eval o).run P W = .ok (.value x) W)) ∨
      (Region.wanted o (yielded ops (runs ops s E a0).tmps) = false ∧ v = none)) :
    Inv P ops C R W V D kind m a0 (E ++ [i]) (upd s i v) w2 ∧ runs ops (upd s i v) (E ++ [i]) a0 = (runs ops s E a0).put o.dst (v.getD undef) := by
  have hact : runs ops (upd s i v) (E ++ [i]) a0 = (runs ops s E a0).put o.dst (v.getD undef) := by
    rw [runs_append, upd_same, runs_congr (s' := s) (fun j hj => upd_ne _ _ (fun e : j = i => hiE (e ▸ hj)))]
    simp [dstOf, ho]
  have hdi : dstOf ops i = o.dst := by simp [dstOf, ho]
  have hag : ∀ j ok, (j ∈ E ∨ j = i) → ops[j]? = some ok → Agree ops ok (runs ops s E a0) ((runs ops s E a0).put o.dst (v.getD undef)) := fun j ok hj hok t ht => by
    rw [slot_put]
    by_cases hd : o.dst = some t
    · have hed := F.looks j ok i t hok (by rcases hj with h | h; exact I.lt j h; omega) hi (hdi.trans hd) ht
      rcases hj with h | h
      · exact absurd (I.cl j h ok hok i hed) hiE
      · subst h; exact absurd (F.back j ok hok j hed) (by omega)
    · rw [if_neg hd]
  have hmem : ∀ j, j ∈ E ++ [i] ↔ j ∈ E ∨ j = i := fun j => by simp
  refine ⟨⟨?_, ?_, ?_, hc, hRt _ _ _ I.hR hr, ?_, ?_, ?_⟩, hact⟩
  · exact List.nodup_append.2 ⟨I.nodup, by simp, fun a ha b hb e => by simp at hb; subst hb; subst e; exact hiE ha⟩
  · intro j hj
    rcases (hmem j).1 hj with h | h
    · exact I.lt j h
    · omega
  · intro j hj ok hok k hk
    rw [hmem]
    rcases (hmem j).1 hj with h | h
    · exact .inl (I.cl j h ok hok k hk)
    · subst h
      rw [ho] at hok; cases hok
      exact .inl (he k hk)
  · intro j hj x hk hx
    rcases (hmem j).1 hj with h | h
    · rw [upd_ne _ _ (fun e : j = i => hiE (e ▸ h))] at hx
      exact hV _ _ _ _ hr (I.facts j h x hk hx)
    · subst h
      rw [upd_same] at hx
      exact hv x hk hx
  · intro j hj ok hok
    rw [hact]
    unfold Recd
    rw [← (hag j ok ((hmem j).1 hj) hok).wanted, ← (hag j ok ((hmem j).1 hj) hok).exec (fun cs b => F.sel j ok cs b hok)]
    rcases (hmem j).1 hj with h | h
    · rw [upd_ne _ _ (fun e : j = i => hiE (e ▸ h))]
      exact I.recd j h ok hok
    · subst h
      rw [ho] at hok; cases hok
      rw [upd_same]
      exact hrec
  · intro j hj j' hj' hne hkj hkj' u x hu hx
    rcases (hmem j).1 hj with h | h <;> rcases (hmem j').1 hj' with h' | h'
    · rw [upd_ne _ _ (fun e : j = i => hiE (e ▸ h))] at hu
      rw [upd_ne _ _ (fun e : j' = i => hiE (e ▸ h'))] at hx
      exact I.pair j h j' h' hne hkj hkj' u x hu hx
    · subst h'
      rw [upd_ne _ _ hne] at hu
      rw [upd_same] at hx
      exact (hd x hkj' hx j u hne (I.facts j h u hkj hu)).1
    · subst h
      rw [upd_same] at hu
      rw [upd_ne _ _ (fun e : j' = j => hne e.symm)] at hx
      exact (hd u hkj hu j' x (fun e => hne e.symm) (I.facts j' h' x hkj' hx)).2
    · omega
/-- The array of what has been carried out. -/
def Lists (ops : Array Oper) (L : Array Bool) (E : List Nat) : Prop := L.size = ops.size ∧ ∀ j, L.getD j false = true ↔ j ∈ E
theorem Lists.set {L : Array Bool} {E : List Nat} (h : Lists ops L E) {i : Nat} (hi : i < ops.size) : Lists ops (L.setIfInBounds i true) (E ++ [i]) := by
  refine ⟨by simp [h.1], fun j => ?_⟩
  by_cases hij : i = j
  · subst hij
    simp [h.1, hi]
  · rw [getD_set_ne false hij, h.2 j]
    simp; omega
theorem Lists.not {L : Array Bool} {E : List Nat} (h : Lists ops L E) {j : Nat} (hj : L.getD j true = false) : j ∉ E := fun hE => by
  have h1 := (h.2 j).2 hE
  rcases Nat.lt_or_ge j L.size with h' | h'
  · simp [h'] at hj h1; rw [h1] at hj; cases hj
  · simp [Array.getElem?_eq_none h'] at h1
theorem Lists.false {L : Array Bool} {E : List Nat} (h : Lists ops L E) {j : Nat} (hj : j < ops.size) (hE : j ∉ E) : L.getD j true = false := by
  have hjL : j < L.size := by rw [h.1]; exact hj
  cases hb : L.getD j true with
  | false => rfl
  | true =>
    exfalso
    exact hE ((h.2 j).1 (by simp [hjL] at hb ⊢; exact hb))
theorem Lists.ready {L : Array Bool} {E : List Nat} (h : Lists ops L E) {i : Nat} : i ∈ Region.ready .any ops L ↔ i ∉ E ∧ ∃ o, ops[i]? = some o ∧ ∀ j, edge o j = true → j ∈ E := by
  rw [mem_ready]
  constructor
  · rintro ⟨h0, o, ho, he⟩
    exact ⟨h.not h0, o, ho, fun j hj => by
      obtain ⟨e, hm, hb, rfl⟩ := edge_iff.1 hj
      exact (h.2 _).1 (he e hm hb)⟩
  · rintro ⟨hE, o, ho, he⟩
    exact ⟨h.false (Array.getElem?_eq_some_iff.1 ho).1 hE, o, ho, fun e hm hb => (h.2 _).2 (he _ (edge_iff.2 ⟨e, hm, hb, rfl⟩))⟩
/-- The tail: one order alone. -/
theorem tail_any (F : Fits ops m kind) : ∀ (fuel k : Nat) (L : Array Bool) (E : List Nat) (a : Act) (w : World), m ≤ k → k ≤ ops.size → ops.size ≤ fuel + k → Lists ops L E → (∀ j, j ∈ E ↔ j < k) →
    wpList P ops Q (ops.toList.drop k) a w → wpAny P .any ops Q fuel L a w := by
  intro fuel
  induction fuel with
  | zero =>
    intro k L E a w hmk hk hf hL hE h
    obtain rfl : k = ops.size := by omega
    rw [List.drop_eq_nil_of_le (by simp)] at h
    refine ⟨List.eq_nil_iff_forall_not_mem.2 fun i hi => ?_, h⟩
    obtain ⟨h1, o, ho, _⟩ := hL.ready.1 hi
    exact h1 ((hE i).2 (Array.getElem?_eq_some_iff.1 ho).1)
  | succ fuel ih =>
    intro k L E a w hmk hk hf hL hE h
    refine ⟨fun hn => ?_, fun i hi => ?_⟩
    · rcases Nat.lt_or_ge k ops.size with hlt | hge
      · exfalso
        have : k ∈ Region.ready .any ops L := hL.ready.2 ⟨fun h' => absurd ((hE k).1 h') (by omega), ops[k], by simp [hlt], fun j hj => (hE j).2 (F.back k ops[k] (by simp [hlt]) j hj)⟩
        rw [hn] at this; cases this
      · rw [List.drop_eq_nil_of_le (by simp; omega)] at h
        exact h
    · obtain ⟨h1, o, ho, he⟩ := hL.ready.1 hi
      have hilt : i < ops.size := (Array.getElem?_eq_some_iff.1 ho).1
      have hik : i = k := by
        rcases Nat.lt_trichotomy i k with h' | h' | h'
        · exact absurd ((hE i).2 h') h1
        · exact h'
        · exact absurd ((hE k).1 (he k (F.seq i o (by omega) ho k hmk h'))) (by omega)
      subst hik
      have hoe : ops[i] = o := by simpa [hilt] using ho
      rw [List.drop_eq_getElem_cons (by simpa using hilt)] at h
      simp only [Array.getElem_toList, hoe] at h
      have hset := hL.set hilt
      have hE' : ∀ j, j ∈ E ++ [i] ↔ j < i + 1 := fun j => by simp [hE j]; omega
      have hnext : ∀ a w, wpList P ops Q (ops.toList.drop (i + 1)) a w → wpAny P .any ops Q fuel (L.setIfInBounds i true) a w := fun a w => ih (i + 1) _ _ a w (by omega) (by omega) (by omega) hset hE'
      unfold wpOp
      rw [ho]
      unfold wpList at h
      dsimp only
      split
      · rename_i hw
        rw [if_pos hw] at h
        rcases h with h | h
        · exact .inl (Oper.wp_mono hnext h)
        · exact .inr h
      · rename_i hw
        rw [if_neg hw] at h
        exact hnext _ _ h
theorem runs_defers (s : Nat → Option Value) (E : List Nat) (a : Act) : (runs ops s E a).defers = a.defers := by
  induction E generalizing a with
  | nil => rfl
  | cons j E ih => simp only [runs, ih]; cases dstOf ops j <;> rfl
/-- Whatever the order was: the frame at the end is the one of the text's order. -/
theorem runs_all (F : Fits ops m kind) {E : List Nat} (hlt : ∀ j ∈ E, j < m) (hall : ∀ i, i < m → i ∈ E) {s s' : Nat → Option Value} (hs : ∀ j, j < m → s' j = s j) :
    runs ops s E a0 = runs ops s' (List.range m) a0 := by
  have ht : (runs ops s E a0).tmps = (runs ops s' (List.range m) a0).tmps := by
    apply Array.ext'
    apply List.ext_getElem?
    intro t
    rw [Array.getElem?_toList, Array.getElem?_toList]
    by_cases hj : ∃ j, j < m ∧ dstOf ops j = some t
    · obtain ⟨j, hjm, hjd⟩ := hj
      rw [slot_runs_some (hall j hjm) hjd (fun i hi hd => F.dst i j t (hlt i hi) hjm hd hjd),
        slot_runs_some (List.mem_range.2 hjm) hjd (fun i hi hd => F.dst i j t (List.mem_range.1 hi) hjm hd hjd), hs j hjm]
    · rw [slot_runs_none (fun j hj' hd => hj ⟨j, hlt j hj', hd⟩), slot_runs_none (fun j hj' hd => hj ⟨j, List.mem_range.1 hj', hd⟩)]
  have hd : (runs ops s E a0).defers = (runs ops s' (List.range m) a0).defers := by rw [runs_defers, runs_defers]
  generalize runs ops s E a0 = x at *
  generalize runs ops s' (List.range m) a0 = y at *
  cases x; cases y
  simp only at ht hd
  rw [ht, hd]
theorem head_any (F : Fits ops m kind) (hRr : ∀ a, R a a) (hRt : ∀ a b c, R a b → R b c → R a c) (hV : ∀ i v a b, R a b → V i v a → V i v b) (hCW : C W)
    (hQ : ∀ c a a' w, Q (.panic c) a w → Q (.panic c) a' w)
    (hW : Walk P ops C R W V D kind (fun a w => wpList P ops Q (ops.toList.drop m) a w) 0 (ops.toList.take m) (fun _ => none) a0 W) :
    ∀ (fuel : Nat) (E : List Nat) (s : Nat → Option Value) (w : World) (L : Array Bool), Inv P ops C R W V D kind m a0 E s w → Lists ops L E → ops.size ≤ fuel + E.length →
      wpAny P .any ops Q fuel L (runs ops s E a0) w := by
  have hend : ∀ (fuel : Nat) (E : List Nat) (s : Nat → Option Value) (w : World) (L : Array Bool), Inv P ops C R W V D kind m a0 E s w → Lists ops L E → ops.size ≤ fuel + E.length →
      (∀ i, i < m → i ∈ E) → wpAny P .any ops Q fuel L (runs ops s E a0) w := by
    intro fuel E s w L I hL hf hall
    obtain ⟨s', w', hww, hc, hr, hs, hfa, _, hwalk⟩ := ready_runs F hRr hRt hV hCW hW I m (Nat.le_refl _)
    obtain rfl := hww hall
    have hlen := (nodup_lt m E I.nodup I.lt).1
    rw [show (ops.toList.take m).drop m = [] from List.drop_eq_nil_of_le (by simp; omega)] at hwalk
    unfold Walk at hwalk
    rw [runs_all F I.lt hall (fun j hj => hs j hj (hall j hj))]
    exact tail_any F fuel m L E _ _ (Nat.le_refl _) F.le (by omega) hL (fun j => ⟨fun h => I.lt j h, fun h => hall j h⟩) (hwalk w' I.hC (hRr _))
  intro fuel
  induction fuel with
  | zero =>
    intro E s w L I hL hf
    have hn := nodup_lt m E I.nodup I.lt
    exact hend 0 E s w L I hL hf (hn.2 (by have := F.le; omega))
  | succ fuel ih =>
    intro E s w L I hL hf
    by_cases hall : ∀ i, i < m → i ∈ E
    · exact hend _ E s w L I hL hf hall
    · -- the first that is left waits for nothing more
      have hex : ∃ i, i < m ∧ i ∉ E ∧ ∀ j, j < i → j ∈ E := by
        have : ∀ n, n ≤ m → (∀ j, j < n → j ∈ E) ∨ ∃ i, i < m ∧ i ∉ E ∧ ∀ j, j < i → j ∈ E := by
          intro n
          induction n with
          | zero => exact fun _ => .inl fun j hj => absurd hj (by omega)
          | succ n ih2 =>
            intro hn
            rcases ih2 (by omega) with h | h
            · by_cases hnE : n ∈ E
              · exact .inl fun j hj => by
                  by_cases hjn : j = n
                  · subst hjn; exact hnE
                  · exact h j (by omega)
              · exact .inr ⟨n, by omega, hnE, h⟩
            · exact .inr h
        rcases this m (Nat.le_refl _) with h | h
        · exact absurd h hall
        · exact h
      obtain ⟨i0, hi0, hi0E, hi0p⟩ := hex
      have hi0lt : i0 < ops.size := by have := F.le; omega
      have hi0r : i0 ∈ Region.ready .any ops L := hL.ready.2 ⟨hi0E, ops[i0], by simp [hi0lt], fun j hj => hi0p j (F.back i0 ops[i0] (by simp [hi0lt]) j hj)⟩
      have hNow : ∀ {i : Nat} {o : Oper}, ops[i]? = some o → i < m → (∀ j, edge o j = true → j ∈ E) → Now P ops C R W V D kind i o (runs ops s E a0) w :=
        fun ho hi he => now_of F hRr hRt hV hCW hW I ho hi he
      by_cases hp : ∃ i o, i < m ∧ i ∉ E ∧ ops[i]? = some o ∧ (∀ j, edge o j = true → j ∈ E) ∧ kind i = 0
      · obtain ⟨i, o, hi, hiE, ho, he, hk⟩ := hp
        have hilt : i < ops.size := (Array.getElem?_eq_some_iff.1 ho).1
        have key : ∀ v : Option Value, (Yields P ops o (v.getD undef) (runs ops s E a0)) →
            ((Region.wanted o (yielded ops (runs ops s E a0).tmps) = true ∧ ∃ x, v = some x ∧ (kind i ≠ 2 → (execOp (runs ops s E a0).eval o).run P W = .ok (.value x) W)) ∨
              (Region.wanted o (yielded ops (runs ops s E a0).tmps) = false ∧ v = none)) → wpAny P .any ops Q (fuel + 1) L (runs ops s E a0) w := fun v hy hrec => by
          obtain ⟨I', hact⟩ := I.snoc F hRt hV ho hi hiE he v I.hC (hRr _) (fun x h => absurd h (by omega)) (fun x h => absurd h (by omega)) hrec
          refine wpAny_first ho (fun j oj cs b hj => F.sel j oj cs b hj) (fun c a w h => hQ c _ _ w h) fuel L _ w ?_ (hL.ready.2 ⟨hiE, o, ho, he⟩) hy ?_
          · intro j oj hj hji hjL hno
            have hjE := hL.not hjL
            refine F.pure i o j oj hi hk ho hj hji ?_ ?_
            · cases hed : edge oj i with
              | false => rfl
              | true =>
                obtain ⟨e, hm, hb, hon⟩ := edge_iff.1 hed
                exact absurd hon (hno e hm hb)
            · cases hed : edge o j with
              | false => rfl
              | true => exact absurd (he j hed) hjE
          · rw [← hact]
            exact ih _ _ _ _ I' (hL.set hilt) (by simp; omega)
        rcases hNow ho hi he with hw | ⟨_, hk2, _⟩ | ⟨hw, _, v, hv⟩
        · exact key none (.inr ⟨hw, rfl⟩) (.inr ⟨hw, rfl⟩)
        · omega
        · exact key (some v) (.inl ⟨hw, fun w' => hv w' (fun h => absurd h (by omega))⟩) (.inl ⟨hw, v, rfl, fun _ => hv W (fun h => absurd h (by omega))⟩)
      · refine ⟨fun hn => (by rw [hn] at hi0r; cases hi0r), fun i hir => ?_⟩
        obtain ⟨hiE, o, ho, he⟩ := hL.ready.1 hir
        have hilt : i < ops.size := (Array.getElem?_eq_some_iff.1 ho).1
        have hk0 : kind i0 ≠ 0 := fun h => hp ⟨i0, ops[i0], hi0, hi0E, by simp [hi0lt], fun j hj => hi0p j (F.back i0 ops[i0] (by simp [hi0lt]) j hj), h⟩
        have him : i < m := by
          rcases Nat.lt_or_ge i m with h | h
          · exact h
          · rcases F.tail i o h ho i0 hi0 hk0 with h1 | ⟨k1, ok1, h1, h2, h3⟩
            · exact absurd (he i0 h1) hi0E
            · exact absurd (I.cl k1 (he k1 h1) ok1 h2 i0 h3) hi0E
        have hgo : ∀ (v : Option Value) (w2 : World), C w2 → R w w2 → (∀ x, kind i = 2 → v = some x → V i x w2) → (∀ x, kind i = 2 → v = some x → Apart V D i w x) →
            ((Region.wanted o (yielded ops (runs ops s E a0).tmps) = true ∧ ∃ x, v = some x ∧ (kind i ≠ 2 → (execOp (runs ops s E a0).eval o).run P W = .ok (.value x) W)) ∨
              (Region.wanted o (yielded ops (runs ops s E a0).tmps) = false ∧ v = none)) →
            wpAny P .any ops Q fuel (L.setIfInBounds i true) ((runs ops s E a0).put o.dst (v.getD undef)) w2 := fun v w2 hc hr hv hd hrec => by
          obtain ⟨I', hact⟩ := I.snoc F hRt hV ho him hiE he v hc hr hv hd hrec
          rw [← hact]
          exact ih _ _ _ _ I' (hL.set hilt) (by simp; omega)
        unfold wpOp
        rw [ho]
        dsimp only
        rcases hNow ho him he with hw | ⟨hw, hk2, hg⟩ | ⟨hw, hkn, v, hv⟩
        · rw [if_neg (by rw [hw]; exact Bool.false_ne_true)]
          exact hgo none w I.hC (hRr _) (fun x _ h => by cases h) (fun x _ h => by cases h) (.inr ⟨hw, rfl⟩)
        · rw [if_pos hw]
          refine .inl ?_
          have hgo2 : ∀ v w2, C w2 → R w w2 → V i v w2 → Apart V D i w v → wpAny P .any ops Q fuel (L.setIfInBounds i true) ((runs ops s E a0).put o.dst v) w2 := fun v w2 hc hr hv hd =>
            hgo (some v) w2 hc hr (fun x _ h => by cases h; exact hv) (fun x _ h => by cases h; exact hd) (.inl ⟨hw, v, rfl, fun h => absurd hk2 h⟩)
          unfold Oper.wp
          generalize (execOp (runs ops s E a0).eval o).run P w = r at hg
          cases r with
          | ok n w2 =>
            cases n <;> simp only [Gives] at hg
            case value v => exact hgo2 v w2 hg.1 hg.2.1 hg.2.2.1 hg.2.2.2
            case skip => exact hgo2 undef w2 hg.1 hg.2.1 hg.2.2.1 hg.2.2.2
            case enter f args =>
              refine Calls.mono hg ?_
              rintro e w3 ⟨v, rfl, hc, hr, hv, hd⟩
              exact hgo2 v w3 hc hr hv hd
          | halt h w2 => exact hg.elim
        · rw [if_pos hw]
          refine .inl ?_
          have hcl : kind i = 1 → C w ∧ R W w := fun _ => ⟨I.hC, I.hR⟩
          unfold Oper.wp
          rw [hv w hcl]
          exact hgo (some v) w I.hC (hRr _) (fun x h => absurd h hkn) (fun x h => absurd h hkn) (.inl ⟨hw, v, rfl, fun _ => hv W (fun _ => ⟨hCW, hRr _⟩)⟩)
end main
/-- an operation that is waited for waits for j -/
def far (l : List Oper) (i : Nat) (oi : Oper) (j : Nat) : Bool := (List.range i).any fun k => edge oi k && match l[k]? with
  | some ok => edge ok j
  | none => false
def okAt (l : List Oper) (m : Nat) (kind : Nat → Nat) (i : Nat) (oi : Oper) : Bool :=
  ((oi.after.all (fun e => !Region.binds .any e || decide (e.on < i)) &&
  (decide (m ≤ i) || ((List.range m).all fun j =>
    (j == i || match dstOf l.toArray i with | none => true | some t => dstOf l.toArray j != some t) &&
    (match dstOf l.toArray j with | none => true | some t => !(oi.looksAt l.toArray).contains t || edge oi j)))) &&
  (decide (m ≤ i) || kind i != 0 || (List.range l.length).all fun j => j == i || match l[j]? with
    | none => true
    | some oj => edge oj i || edge oi j || oi.apart l.toArray oj)) &&
  (decide (i < m) || (List.range i).all fun j => (if j < m then kind j == 0 || far l i oi j else false) || edge oi j)
def ordB (l : List Oper) (m : Nat) (kind : Nat → Nat) : Bool :=
  (decide (m ≤ l.length) &&
  l.all (fun o => match o.op with | .select .. => false | _ => true)) &&
  (List.range l.length).all fun i => match l[i]? with
    | none => true
    | some oi => okAt l m kind i oi
theorem fits_of {l : List Oper} {m : Nat} {kind : Nat → Nat} (h : ordB l m kind = true) : Fits l.toArray m kind := by
  unfold ordB at h
  simp only [Bool.and_eq_true, decide_eq_true_eq, List.all_eq_true, List.mem_range] at h
  obtain ⟨⟨hle, hsel⟩, hall⟩ := h
  have get : ∀ (i : Nat) (o : Oper), l.toArray[i]? = some o → l[i]? = some o ∧ i < l.length := fun i o ho => by
    have h1 : l[i]? = some o := by simpa using ho
    exact ⟨h1, (List.getElem?_eq_some_iff.1 h1).1⟩
  have main : ∀ (i : Nat) (o : Oper), l.toArray[i]? = some o → ((_ = true ∧ _ = true) ∧ _ = true) ∧ _ = true := fun i o ho => by
    have h1 := hall i (get i o ho).2
    rw [(get i o ho).1] at h1
    have h2 : okAt l m kind i o = true := h1
    unfold okAt at h2
    simpa only [Bool.and_eq_true] using h2
  have lt : ∀ (i : Nat), i < m → ∃ o, l.toArray[i]? = some o := fun i hi => ⟨l[i]'(by omega), by simp⟩
  refine ⟨by simpa using hle, ?_, ?_, ?_, ?_, ?_, ?_, ?_⟩
  · intro j o cs b ho heq
    have := hsel o (List.mem_of_getElem? (get j o ho).1)
    simp [heq] at this
  · intro i o ho j he
    obtain ⟨e, hm, hb, rfl⟩ := edge_iff.1 he
    have h1 := (main i o ho).1.1.1
    have h2 := Array.all_eq_true_iff_forall_mem.1 h1 e hm
    simpa [hb] using h2
  · intro i j t hi hj hdi hdj
    obtain ⟨o, ho⟩ := lt i hi
    have h1 := (main i o ho).1.1.2
    simp only [Bool.or_eq_true, decide_eq_true_eq, List.all_eq_true, List.mem_range, Bool.and_eq_true] at h1
    rcases h1 with h1 | h1
    · omega
    · have h2 := (h1 j hj).1
      rw [hdi] at h2
      simp only [beq_iff_eq, bne_iff_ne, hdj, ne_eq, not_true_eq_false, or_false] at h2
      exact h2.symm
  · intro i o j t ho hi hj hd ht
    have h1 := (main i o ho).1.1.2
    simp only [Bool.or_eq_true, decide_eq_true_eq, List.all_eq_true, List.mem_range, Bool.and_eq_true] at h1
    rcases h1 with h1 | h1
    · omega
    · have h2 := (h1 j hj).2
      rw [hd] at h2
      simp only [Bool.or_eq_true, Bool.not_eq_true', List.contains_eq_mem, decide_eq_false_iff_not] at h2
      exact h2.resolve_left (fun h => h ht)
  · intro i oi j oj hi hk hoi hoj hji h1 h2
    have h3 := (main i oi hoi).1.2
    simp only [Bool.or_eq_true, decide_eq_true_eq, List.all_eq_true, List.mem_range, bne_iff_ne, ne_eq, hk, not_true_eq_false, or_false, beq_iff_eq] at h3
    rcases h3 with h3 | h3
    · omega
    · have h4 := (h3 j (get j oj hoj).2).resolve_left hji
      rw [(get j oj hoj).1] at h4
      simpa [h1, h2] using h4
  · intro t o ht ho i hi hk
    have h1 := (main t o ho).2
    simp only [Bool.or_eq_true, decide_eq_true_eq, List.all_eq_true, List.mem_range] at h1
    rcases h1 with h1 | h1
    · omega
    · have h2 := h1 i (by omega)
      simp only [hi, if_true, Bool.or_eq_true, beq_iff_eq, hk, false_or] at h2
      rcases h2 with h2 | h2
      · right
        unfold far at h2
        rw [List.any_eq_true] at h2
        obtain ⟨k, hk1, hk2⟩ := h2
        rw [Bool.and_eq_true] at hk2
        obtain ⟨hk2, hk3⟩ := hk2
        cases hlk : l[k]? with
        | none => rw [hlk] at hk3; cases hk3
        | some ok => rw [hlk] at hk3; exact ⟨k, ok, hk2, by simpa using hlk, hk3⟩
      · exact .inl h2
  · intro t o ht ho j hj hjt
    have h1 := (main t o ho).2
    simp only [Bool.or_eq_true, decide_eq_true_eq, List.all_eq_true, List.mem_range] at h1
    rcases h1 with h1 | h1
    · omega
    · have h2 := h1 j hjt
      simpa [show ¬ j < m by omega] using h2
/-- A REGION THAT DRAWS ITS ORDER: its head in the order of the text, each told value under its closed predicate; then its tail. -/
theorem wp_region_ord {P : Program} {id : Nat} {Q : Exit → Act → World → Prop} {a : Act} {w : World} {l : List Oper} (m : Nat) (ks : List Nat) (C : World → Prop) (R : World → World → Prop)
    (V : Nat → Value → World → Prop) (D : Nat → Nat → Value → Value → Prop) (hm : P.follows .mixedOrders = true) (hB : ordB l m (fun i => ks.getD i 0) = true) (hRr : ∀ a, R a a) (hRt : ∀ a b c, R a b → R b c → R a c)
    (hV : ∀ i v a b, R a b → V i v a → V i v b) (hQ : ∀ c a a' w, Q (.panic c) a w → Q (.panic c) a' w) (hC : C w.drew)
    (h : Walk P l.toArray C R w.drew V D (fun i => ks.getD i 0) (fun a w => wpList P l.toArray Q (l.drop m) a w) 0 (l.take m) (fun _ => none) a w.drew) : (Code.region id l.toArray true).wp P Q a w := by
  refine wp_region_any hm ?_
  have hF := fits_of hB
  refine head_any (a0 := a) hF hRr hRt hV hC hQ (by simpa using h) l.toArray.size [] (fun _ => none) w.drew _ ⟨by simp, by simp, by simp, hC, hRr _, by simp, by simp, by simp⟩ ⟨by simp, fun j => ?_⟩ (by simp)
  simp [Array.getElem?_replicate]
  split <;> simp
end Go.K2
end
section
namespace Go.K
open Go Go.RowKit
/-- What the operations of a region may do to the world; blocks from B on stay. -/
structure Rel where
  r : World → World → Prop
  re : ∀ a, r a a
  tr : ∀ a b c, r a b → r b c → r a c
  ext : ∀ a b, Ext a b → r a b
  sz : ∀ a b, r a b → a.heap.size ≤ b.heap.size
  B : Nat
  keep : ∀ a b k o, r a b → B ≤ k → a.heap[k]? = some o → b.heap[k]? = some o
def RE : Rel := ⟨Ext, Ext.refl, fun _ _ _ h k => h.trans k, fun _ _ h => h, fun _ _ h => h.size, 0, fun _ _ _ _ h _ hk => h.block hk⟩
/-- the block that a value points to -/
def blk : Value → Option Nat
  | .pointer (some a) => some a.block
  | .slice (some a) _ _ => some a.block
  | _ => none
/-- A predicate on a value that stays; nw: the value is a new block's. -/
structure SQ (R : Rel) where
  p : Value → World → Prop
  st : ∀ v a b, R.r a b → p v a → p v b
  nw : Bool
  lt : nw = true → ∀ v w, p v w → ∃ g, blk v = some g ∧ g < w.heap.size
def SQ.any {R : Rel} : SQ R := ⟨fun _ _ => True, fun _ _ _ _ _ => trivial, false, fun h => by cases h⟩
def SQ.is {R : Rel} (c : Value) : SQ R := ⟨fun v _ => v = c, fun _ _ _ _ h => h, false, fun h => by cases h⟩
def SQ.of (s : SP) : SQ RE := ⟨s.p, s.st, false, fun h => by cases h⟩
def NewB (B : Nat) (f : Nat → Value) (o : Obj) (v : Value) (w : World) : Prop := ∃ h, v = f h ∧ B ≤ h ∧ w.heap[h]? = some o
def ptrAt (h : Nat) : Value := .pointer (some ⟨h, 0, none⟩)
def SQ.newB {R : Rel} (B : Nat) (f : Nat → Value) (hf : ∀ h, blk (f h) = some h) (hB : R.B ≤ B) (o : Obj) : SQ R :=
  ⟨NewB B f o, fun _ _ _ hx ⟨h, hv, hb, hk⟩ => ⟨h, hv, hb, R.keep _ _ _ _ hx (by omega) hk⟩, true, fun _ v w ⟨h, hv, _, hk⟩ => ⟨h, by rw [hv]; exact hf h, (Array.getElem?_eq_some_iff.1 hk).1⟩⟩
def SQ.new {R : Rel} (B : Nat) (hB : R.B ≤ B) (o : Obj) : SQ R := SQ.newB B ptrAt (fun _ => rfl) hB o
variable {R : Rel}
def qvals (vs : List (SQ R)) (i : Nat) (v : Value) (w : World) : Prop := (vs.getD i SQ.any).p v w
def qD (vs : List (SQ R)) (i j : Nat) (u v : Value) : Prop := (vs.getD i SQ.any).nw = true → (vs.getD j SQ.any).nw = true → blk u ≠ blk v
theorem qApart (vs : List (SQ R)) {k : Nat} (h : (vs.getD k SQ.any).nw = false) (w : World) (v : Value) : K2.Apart (qvals vs) (qD vs) k w v :=
  fun j u _ _ => ⟨fun _ h2 => absurd (h.symm.trans h2) (by decide), fun h1 _ => absurd (h.symm.trans h1) (by decide)⟩
theorem qApart_new (vs : List (SQ R)) {k : Nat} {w : World} {v : Value} (hv : blk v = some w.heap.size) : K2.Apart (qvals vs) (qD vs) k w v := by
  intro j u hj hu
  have key : (vs.getD j SQ.any).nw = true → blk u ≠ blk v := fun h1 => by
    obtain ⟨g, hg, hl⟩ := (vs.getD j SQ.any).lt h1 u w hu
    rw [hg, hv]
    intro e
    cases e
    omega
  exact ⟨fun h1 _ => key h1, fun _ h2 => fun e => key h2 e.symm⟩
/-- (a structure: so no step evaluates the rest of the walk) -/
structure WalkY (P : Program) (ops : Array Oper) (W : World) (ks : List Nat) (vs : List (SQ R)) (T : Act → World → Prop) (k : Nat) (l : List Oper) (s : Nat → Option Value) (a : Act) (w : World) : Prop where
  out : K2.Walk P ops (fun _ => True) R.r W (qvals vs) (qD vs) (fun i => ks.getD i 0) T k l s a w
theorem wp_region_y {P : Program} {id : Nat} {Q : Exit → Act → World → Prop} {a : Act} {w : World} {l : List Oper} (m : Nat) (ks : List Nat) (vs : List (SQ R))
    (hm : P.follows .mixedOrders = true) (hB : K2.ordB l m (fun i => ks.getD i 0) = true)
    (h : WalkY P l.toArray w.drew ks vs (fun a w => wpList P l.toArray (NoPanic Q) (l.drop m) a w) 0 (l.take m) (fun _ => none) a w.drew) : (Code.region id l.toArray true).wp P Q a w :=
  wp_region_noPanic (K2.wp_region_ord m ks (fun _ => True) R.r (qvals vs) (qD vs) hm hB R.re R.tr (fun i v a b hx hv => (vs.getD i SQ.any).st v a b hx hv) (fun _ _ _ _ h => h) trivial h.out)
section steps
variable {P : Program} {ops : Array Oper} {W : World} {ks : List Nat} {vs : List (SQ R)} {T : Act → World → Prop} {k : Nat} {o : Oper} {rest : List Oper} {s : Nat → Option Value} {a : Act} {w : World}
theorem y_pure {v : Value} (hw : Region.wanted o (yielded ops a.tmps) = true) (hk : ks.getD k 0 = 0) (h1 : ∀ w', (execOp a.eval o).run P w' = .ok (.value v) w')
    (h : WalkY P ops W ks vs T (k + 1) rest (upd s k (some v)) (a.put o.dst v) w) : WalkY P ops W ks vs T k (o :: rest) s a w := ⟨K2.Walk.pure hw hk h1 h.out⟩
theorem y_held {v : Value} (hw : Region.wanted o (yielded ops a.tmps) = true) (hk : ks.getD k 0 = 1) (h1 : ∀ w', R.r W w' → (execOp a.eval o).run P w' = .ok (.value v) w')
    (h : WalkY P ops W ks vs T (k + 1) rest (upd s k (some v)) (a.put o.dst v) w) : WalkY P ops W ks vs T k (o :: rest) s a w := ⟨K2.Walk.held hw hk (fun w' _ hx => h1 w' hx) h.out⟩
/-- A call. -/
theorem y_call {f : FuncId} {args : Array Value} (hw : Region.wanted o (yielded ops a.tmps) = true) (hk : ks.getD k 0 = 2) (hn : (vs.getD k SQ.any).nw = false) (hrun : ∀ w', (execOp a.eval o).run P w' = .ok (.enter f args) w')
    (hcall : ∀ w', R.r W w' → (∀ j v, edge o j = true → ks.getD j 0 = 2 → s j = some v → qvals vs j v w') → Calls P f args w' fun e w'' => ∃ v, e = .returned v ∧ R.r w' w'' ∧ qvals vs k v w'')
    (h : ∀ v w', R.r w w' → qvals vs k v w' → WalkY P ops W ks vs T (k + 1) rest (upd s k (some v)) (a.put o.dst v) w') : WalkY P ops W ks vs T k (o :: rest) s a w :=
  ⟨K2.Walk.told hw hk (fun w' _ hx hp => by rw [hrun]; exact (hcall w' hx hp).mono fun e w'' ⟨v, he, hx', hv⟩ => ⟨v, he, trivial, hx', hv, qApart vs hn _ _⟩) (fun v w' _ hx hv _ => (h v w' hx hv).out)⟩
/-- A call whose value is known. -/
theorem y_call_is {f : FuncId} {args : Array Value} {c : Value} (hw : Region.wanted o (yielded ops a.tmps) = true) (hk : ks.getD k 0 = 2) (hvs : vs.getD k SQ.any = SQ.is c) (hrun : ∀ w', (execOp a.eval o).run P w' = .ok (.enter f args) w')
    (hcall : ∀ w', R.r W w' → (∀ j v, edge o j = true → ks.getD j 0 = 2 → s j = some v → qvals vs j v w') → Calls P f args w' fun e w'' => e = .returned c ∧ R.r w' w'')
    (h : ∀ w', R.r w w' → WalkY P ops W ks vs T (k + 1) rest (upd s k (some c)) (a.put o.dst c) w') : WalkY P ops W ks vs T k (o :: rest) s a w :=
  y_call hw hk (by rw [hvs]; rfl) hrun (fun w' hx hp => (hcall w' hx hp).mono fun e w'' ⟨he, hx'⟩ => ⟨c, he, hx', by unfold qvals; rw [hvs]; rfl⟩)
    (fun v w' hx hv => by unfold qvals at hv; rw [hvs] at hv; obtain rfl : v = c := hv; exact h w' hx)
/-- A new block. -/
theorem y_newB {B : Nat} {f : Nat → Value} {hf : ∀ h, blk (f h) = some h} {hR : R.B ≤ B} {ob : Obj} (hw : Region.wanted o (yielded ops a.tmps) = true) (hk : ks.getD k 0 = 2) (hvs : vs.getD k SQ.any = SQ.newB B f hf hR ob) (hB : B ≤ W.heap.size)
    (hrun : ∀ w', (execOp a.eval o).run P w' = .ok (.value (f w'.heap.size)) (w'.alloc ob))
    (h : ∀ g w', R.r w w' → B ≤ g → w'.heap[g]? = some ob → (∀ j u, j < k → ks.getD j 0 = 2 → s j = some u → (vs.getD j SQ.any).nw = true → blk u ≠ some g) → WalkY P ops W ks vs T (k + 1) rest (upd s k (some (f g))) (a.put o.dst (f g)) w') :
    WalkY P ops W ks vs T k (o :: rest) s a w :=
  ⟨K2.Walk.told hw hk (fun w' _ hx hp => by
      rw [hrun]
      refine ⟨trivial, R.ext _ _ ((Ext.refl _).alloc _), ?_, qApart_new vs (hf _)⟩
      unfold qvals; rw [hvs]
      exact ⟨w'.heap.size, rfl, Nat.le_trans hB (R.sz _ _ hx), by show (w'.heap.push ob)[w'.heap.size]? = some ob; simp⟩)
    (fun v w' _ hx hv hd => by
      unfold qvals at hv; rw [hvs] at hv; obtain ⟨g, rfl, hB, hb⟩ := hv
      exact (h g w' hx hB hb (fun j u hj hkj hu hn => by
        have h1 := hd j u hj hkj hu hn (by rw [hvs]; rfl)
        rwa [hf g] at h1)).out)⟩
theorem y_new {B : Nat} {ob : Obj} (hR : R.B ≤ B) (hw : Region.wanted o (yielded ops a.tmps) = true) (hk : ks.getD k 0 = 2) (hvs : vs.getD k SQ.any = SQ.new B hR ob) (hB : B ≤ W.heap.size)
    (hrun : ∀ w', (execOp a.eval o).run P w' = .ok (.value (.pointer (some ⟨w'.heap.size, 0, none⟩))) (w'.alloc ob))
    (h : ∀ g w', R.r w w' → B ≤ g → w'.heap[g]? = some ob → (∀ j u, j < k → ks.getD j 0 = 2 → s j = some u → (vs.getD j SQ.any).nw = true → blk u ≠ some g) → WalkY P ops W ks vs T (k + 1) rest (upd s k (some (.pointer (some ⟨g, 0, none⟩)))) (a.put o.dst (.pointer (some ⟨g, 0, none⟩))) w') :
    WalkY P ops W ks vs T k (o :: rest) s a w := y_newB (f := ptrAt) (hf := fun _ => rfl) hw hk hvs hB hrun h
theorem y_done (h : ∀ w', R.r w w' → T a w') : WalkY P ops W ks vs T k [] s a w := ⟨K2.Walk.done fun w' _ hx => h w' hx⟩
end steps
theorem blk_ptr {g h : Nat} (e : blk (.pointer (some ⟨g, 0, none⟩)) ≠ some h) : ¬ (g = h) := fun x => e (by rw [x]; rfl)
end Go.K
end
section
namespace Go.Z
theorem it_le (x : Int) (h1 : 100000000 ≤ x) (h2 : x < 1000000000) (k : Nat) : (itL x k).2 < (itH x k).2 ∨ ((itL x k).2 = (itH x k).2 ∧ (itL x k).1 ≤ (itH x k).1) := by
  induction k with
  | zero => right; exact ⟨rfl, Int.le_refl _⟩
  | succ k ih =>
    have a := itL_bd h1 h2 k
    have b := itH_bd h1 h2 k
    simp only [itL, itH]
    generalize itL x k = p at *
    generalize itH x k = q at *
    obtain ⟨x1, n⟩ := p
    obtain ⟨y1, m⟩ := q
    dsimp only at ih a b ⊢
    have eL : (stepL (x1, n)).2 = 2 * n ∨ (stepL (x1, n)).2 = 2 * n + 1 := by unfold stepL; split <;> dsimp only <;> omega
    have eH : (stepH (y1, m)).2 = 2 * m ∨ (stepH (y1, m)).2 = 2 * m + 1 := by unfold stepH; split <;> dsimp only <;> omega
    rcases ih with h | ⟨h, hx⟩
    · left; omega
    · subst h
      have hm : x1 * x1 ≤ y1 * y1 := Int.mul_le_mul hx hx (by omega) (by omega)
      obtain ⟨s1, s2⟩ := fl_spec (x1 * x1) 100000000 (by decide)
      obtain ⟨t1, t2⟩ := fl_spec (-(y1 * y1)) 100000000 (by decide)
      have hc : cl (y1 * y1) 100000000 = -fl (-(y1 * y1)) 100000000 := rfl
      unfold stepL stepH
      dsimp only
      rw [hc]
      generalize fl (x1 * x1) 100000000 = X at *
      generalize fl (-(y1 * y1)) 100000000 = Y at *
      have hXY : X ≤ -Y := by omega
      by_cases c1 : 1000000000 ≤ X
      · rw [if_pos c1, if_pos (by omega)]
        right
        refine ⟨rfl, ?_⟩
        dsimp only
        obtain ⟨u1, u2⟩ := fl_spec X 10 (by decide)
        obtain ⟨v1, v2⟩ := fl_spec (-(-Y)) 10 (by decide)
        have hd : cl (-Y) 10 = -fl (-(-Y)) 10 := rfl
        rw [hd]
        omega
      · rw [if_neg c1]
        by_cases c2 : 1000000000 ≤ -Y
        · rw [if_pos c2]; left; dsimp only; omega
        · rw [if_neg c2]; right; exact ⟨rfl, hXY⟩
theorem figLog_le {f : Int × Int} (h : isFig f.1 f.2 = true) : (figLog f).1 ≤ (figLog f).2 := by
  simp only [isFig, Bool.and_eq_true, decide_eq_true_eq] at h
  have h1 := it_le (f.1 * 100000) (by omega) (by omega) 20
  unfold figLog logOf logN
  dsimp only
  rcases h1 with h1 | ⟨h1, _⟩ <;> omega
theorem logK_le {f : Int × Int} {vs : List (Int × Int)} {ps : List Int} (hf : isFig f.1 f.2 = true) (k : Nat) : (logK f vs ps k).1 ≤ (logK f vs ps k).2 := by
  induction k with
  | zero => exact figLog_le hf
  | succ k ih =>
    simp only [logK, sumI, scale1]
    have h1 : min ((figLog (vs.getD k (0, 0))).1 * ps.getD k 0) ((figLog (vs.getD k (0, 0))).2 * ps.getD k 0) ≤ max ((figLog (vs.getD k (0, 0))).1 * ps.getD k 0) ((figLog (vs.getD k (0, 0))).2 * ps.getD k 0) := by omega
    omega
/-- the logarithm of a formula -/
def lg (F : Fm) (l : List (Int × Int)) : Int × Int := logK (F.dg, F.tn) l F.pw l.length
def checked (E : Eqn) (N : ByteArray) (vs : List (Int × Int)) : Bool := isEquation E && areFigs vs && (decide (N.size = vs.length) && decide (N.size ≤ 20))
end Go.Z
namespace Go.Proofs.Ythmnlbgbacbocaa
open Go.RowKit
end Go.Proofs.Ythmnlbgbacbocaa
end
