/-
  VALUES held against an equation, both sides.
-/
import Derived.Test.YtphlppklhpaljaaVals
import Derived.Test.YtphlppklhpaljaaFm6
import Derived.Test.YtphlppklhpaljaaZStep
import Derived.Test.YtphlppklhpaljaaWalkY
set_option linter.unusedVariables false
namespace Go.Z
theorem it_le (x : Int) (h1 : 100000000 ≤ x) (h2 : x < 1000000000) (k : Nat) : (itL x k).2 < (itH x k).2 ∨ ((itL x k).2 = (itH x k).2 ∧ (itL x k).1 ≤ (itH x k).1) := by
  induction k with
  | zero => right; exact ⟨rfl, Int.le_refl _⟩
  | succ k ih =>
    have a := itL_bd h1 h2 k
    have b := itH_bd h1 h2 k
    simp only [itL, itH]
    generalize itL x k = p at *
    generalize itH x k = q at *
    obtain ⟨x1, n⟩ := p
    obtain ⟨y1, m⟩ := q
    dsimp only at ih a b ⊢
    have eL : (stepL (x1, n)).2 = 2 * n ∨ (stepL (x1, n)).2 = 2 * n + 1 := by unfold stepL; split <;> dsimp only <;> omega
    have eH : (stepH (y1, m)).2 = 2 * m ∨ (stepH (y1, m)).2 = 2 * m + 1 := by unfold stepH; split <;> dsimp only <;> omega
    rcases ih with h | ⟨h, hx⟩
    · left; omega
    · subst h
      have hm : x1 * x1 ≤ y1 * y1 := Int.mul_le_mul hx hx (by omega) (by omega)
      obtain ⟨s1, s2⟩ := fl_spec (x1 * x1) 100000000 (by decide)
      obtain ⟨t1, t2⟩ := fl_spec (-(y1 * y1)) 100000000 (by decide)
      have hc : cl (y1 * y1) 100000000 = -fl (-(y1 * y1)) 100000000 := rfl
      unfold stepL stepH
      dsimp only
      rw [hc]
      generalize fl (x1 * x1) 100000000 = X at *
      generalize fl (-(y1 * y1)) 100000000 = Y at *
      have hXY : X ≤ -Y := by omega
      by_cases c1 : 1000000000 ≤ X
      · rw [if_pos c1, if_pos (by omega)]
        right
        refine ⟨rfl, ?_⟩
        dsimp only
        obtain ⟨u1, u2⟩ := fl_spec X 10 (by decide)
        obtain ⟨v1, v2⟩ := fl_spec (-(-Y)) 10 (by decide)
        have hd : cl (-Y) 10 = -fl (-(-Y)) 10 := rfl
        rw [hd]
        omega
      · rw [if_neg c1]
        by_cases c2 : 1000000000 ≤ -Y
        · rw [if_pos c2]; left; dsimp only; omega
        · rw [if_neg c2]; right; exact ⟨rfl, hXY⟩
theorem figLog_le {f : Int × Int} (h : isFig f.1 f.2 = true) : (figLog f).1 ≤ (figLog f).2 := by
  simp only [isFig, Bool.and_eq_true, decide_eq_true_eq] at h
  have h1 := it_le (f.1 * 100000) (by omega) (by omega) 20
  unfold figLog logOf logN
  dsimp only
  rcases h1 with h1 | ⟨h1, _⟩ <;> omega
theorem logK_le {f : Int × Int} {vs : List (Int × Int)} {ps : List Int} (hf : isFig f.1 f.2 = true) (k : Nat) : (logK f vs ps k).1 ≤ (logK f vs ps k).2 := by
  induction k with
  | zero => exact figLog_le hf
  | succ k ih =>
    simp only [logK, sumI, scale1]
    have h1 : min ((figLog (vs.getD k (0, 0))).1 * ps.getD k 0) ((figLog (vs.getD k (0, 0))).2 * ps.getD k 0) ≤ max ((figLog (vs.getD k (0, 0))).1 * ps.getD k 0) ((figLog (vs.getD k (0, 0))).2 * ps.getD k 0) := by omega
    omega
/-- the logarithm of a formula -/
def lg (F : Fm) (l : List (Int × Int)) : Int × Int := logK (F.dg, F.tn) l F.pw l.length
theorem lg_bd {F : Fm} {l : List (Int × Int)} (hF : isFormula F = true) (hl : l.length = F.nm.size) (hv : areFigs l = true) : (-2000000000 ≤ (lg F l).1 ∧ (lg F l).1 ≤ 2000000000) ∧ (-2000000000 ≤ (lg F l).2 ∧ (lg F l).2 ≤ 2000000000) ∧ (lg F l).1 ≤ (lg F l).2 := by
  have h6 := (isFormula_len hF).2
  have hf : isFig F.dg F.tn = true := by simp only [isFormula, Bool.and_eq_true] at hF; exact hF.1.1.1
  have hps : ∀ i, i < l.length → -6 ≤ F.pw.getD i 0 ∧ F.pw.getD i 0 ≤ 6 := fun i hi => by
    have := okAt_parts (valid_at hF i (by omega))
    exact ⟨this.2.2.2.2.1, this.2.2.2.2.2⟩
  obtain ⟨⟨a, b⟩, c, d⟩ := logK_bd (f := (F.dg, F.tn)) (ps := F.pw) hf (areFigs_at hv) hps l.length (Nat.le_refl _)
  have e := logK_le (f := (F.dg, F.tn)) (vs := l) (ps := F.pw) hf l.length
  unfold lg
  exact ⟨⟨by omega, by omega⟩, ⟨by omega, by omega⟩, e⟩
def meets (a b : Int × Int) (u : Int) : Bool := decide (a.1 - u ≤ b.2) && decide (b.1 ≤ a.2 + u)
theorem meets_eq {a b : Int × Int} {u : Int} (ha : a.1 ≤ a.2) (hb : b.1 ≤ b.2) (hu : 0 ≤ u) : meets a b u = decide (max (a.1 - u) b.1 ≤ min (a.2 + u) b.2) := by
  unfold meets
  rw [Bool.eq_iff_iff, Bool.and_eq_true]
  simp only [decide_eq_true_eq]
  omega
def checked (E : Eqn) (N : ByteArray) (vs : List (Int × Int)) : Bool := isEquation E && areFigs vs && (decide (N.size = vs.length) && decide (N.size ≤ 20))
def CheckValues (E : Eqn) (N : ByteArray) (vs : List (Int × Int)) (u : Int) : Bool × Int :=
  if checked E N vs then (if 0 ≤ u ∧ u ≤ 1048576 then (if (valuesFor E.L N vs).2 && (valuesFor E.R N vs).2 then (meets (lg E.L (valuesFor E.L N vs).1) (lg E.R (valuesFor E.R N vs).1) u, 0) else (false, 4)) else (false, 2)) else (false, 1)
theorem valuesFor_parts {F : Fm} {N : ByteArray} {vs : List (Int × Int)} (hv : areFigs vs = true) (hl : N.size = vs.length) (h : (valuesFor F N vs).2 = true) : (valuesFor F N vs).1.length = F.nm.size ∧ areFigs (valuesFor F N vs).1 = true := by
  cases hk : valuesK (bs F.nm) (bs N) vs F.nm.size with
  | none => rw [valuesFor_none hk] at h; cases h
  | some l => rw [valuesFor_some hk]; exact valuesK_parts hv (by rw [bs_length]; exact hl) _ hk
theorem Check_bad {E : Eqn} {N : ByteArray} {vs : List (Int × Int)} (u : Int) (h : checked E N vs = false) : CheckValues E N vs u = (false, 1) := by unfold CheckValues; rw [h]; rfl
theorem Check_range {E : Eqn} {N : ByteArray} {vs : List (Int × Int)} {u : Int} (h : checked E N vs = true) (hu : ¬ (0 ≤ u ∧ u ≤ 1048576)) : CheckValues E N vs u = (false, 2) := by unfold CheckValues; rw [if_pos h, if_neg hu]
theorem Check_miss {E : Eqn} {N : ByteArray} {vs : List (Int × Int)} {u : Int} (h : checked E N vs = true) (hu : 0 ≤ u ∧ u ≤ 1048576) (hm : ((valuesFor E.L N vs).2 && (valuesFor E.R N vs).2) = false) : CheckValues E N vs u = (false, 4) := by unfold CheckValues; rw [if_pos h, if_pos hu, hm]; rfl
theorem Check_ok {E : Eqn} {N : ByteArray} {vs : List (Int × Int)} {u : Int} (h : checked E N vs = true) (hu : 0 ≤ u ∧ u ≤ 1048576) (hm : ((valuesFor E.L N vs).2 && (valuesFor E.R N vs).2) = true) : CheckValues E N vs u = (meets (lg E.L (valuesFor E.L N vs).1) (lg E.R (valuesFor E.R N vs).1) u, 0) := by unfold CheckValues; rw [if_pos h, if_pos hu, if_pos hm]
end Go.Z
namespace Go.Proofs.Ytphlppklhpaljaa
open Go.RowKit
set_option maxHeartbeats 1600000 in
theorem spread_any (a : Int × Int) (u : Int)  (w : World) (h1 : -2000000000 ≤ a.1 ∧ a.1 ≤ 2000000000) (h2 : -2000000000 ≤ a.2 ∧ a.2 ≤ 2000000000) (hu : 0 ≤ u ∧ u ≤ 1048576) (S : Int × Int) (hS : Hid (S = (a.1 - u, a.2 + u)))  :
    Calls Try.prog 122 #[.agg #[.int .i64 a.1, .int .i64 a.2], .int .i64 u] w fun e w' => e = .returned (.agg #[.int .i64 S.1, .int .i64 S.2]) ∧ K.Ext w w' := by
  have q1 : IntKind.i64.wrap (a.1 - u) = a.1 - u := IntWalk.i64_in _ (by omega)
  have q2 : IntKind.i64.wrap (a.2 + u) = a.2 + u := IntWalk.i64_in _ (by omega)
  have X0 : K.Ext w w := K.Ext.refl w
  go_enter Try.func122, Try.ntmps122
  go_wp2_with fail
  rw [hS.out]
  refine bodyPost_ret (v := .agg #[.int .i64 (a.1 - u), .int .i64 (a.2 + u)]) (by unfold results; rw [Try.results122]; go_simp) rfl ⟨rfl, ?_⟩
  repeat with_reducible refine K.Ext.setCell ?_ (by dsimp only; omega) _
  exact (by repeat' (first | with_reducible exact X0 | with_reducible refine K.Ext.setCell ?_ ?_ _ | with_reducible refine K.Ext.alloc ?_ _ | with_reducible refine K.Ext.drew ?_ | (dsimp only; omega) | omega | (simp; omega)))
set_option maxHeartbeats 1600000 in
theorem meet_any (a : Int × Int) (b : Int × Int)  (w : World)   :
    Calls Try.prog 121 #[.agg #[.int .i64 a.1, .int .i64 a.2], .agg #[.int .i64 b.1, .int .i64 b.2]] w fun e w' => e = .returned (.bool (decide (a.1 ≤ b.2) && decide (b.1 ≤ a.2))) ∧ K.Ext w w' := by
  by_cases h : a.1 ≤ b.2
  · have HE : Hid ((decide (a.1 ≤ b.2) && decide (b.1 ≤ a.2)) = decide (b.1 ≤ a.2)) := Z.hide (by rw [decide_eq_true h]; rfl)
    have X0 : K.Ext w w := K.Ext.refl w
    go_enter Try.func121, Try.ntmps121
    go_wp2_with fail
    rw [HE.out]
    refine bodyPost_ret (v := .bool (decide (b.1 ≤ a.2))) (by unfold results; rw [Try.results121]; go_simp) rfl ⟨rfl, ?_⟩
    repeat with_reducible refine K.Ext.setCell ?_ (by dsimp only; omega) _
    exact (by repeat' (first | with_reducible exact X0 | with_reducible refine K.Ext.setCell ?_ ?_ _ | with_reducible refine K.Ext.alloc ?_ _ | with_reducible refine K.Ext.drew ?_ | (dsimp only; omega) | omega | (simp; omega)))
  · have HE : Hid ((decide (a.1 ≤ b.2) && decide (b.1 ≤ a.2)) = false) := Z.hide (by rw [decide_eq_false h]; rfl)
    have X0 : K.Ext w w := K.Ext.refl w
    go_enter Try.func121, Try.ntmps121
    go_wp2_with fail
    rw [HE.out]
    refine bodyPost_ret (v := .bool false) (by unfold results; rw [Try.results121]; go_simp) rfl ⟨rfl, ?_⟩
    repeat with_reducible refine K.Ext.setCell ?_ (by dsimp only; omega) _
    exact (by repeat' (first | with_reducible exact X0 | with_reducible refine K.Ext.setCell ?_ ?_ _ | with_reducible refine K.Ext.alloc ?_ _ | with_reducible refine K.Ext.drew ?_ | (dsimp only; omega) | omega | (simp; omega)))
set_option maxRecDepth 100000 in
set_option maxHeartbeats 12800000 in
theorem impl_CheckValues (E : Z.Eqn) (N : ByteArray) (vs : List (Int × Int)) (u : Int) {loEL hiEL loER hiER : Nat} {pEL pER : Value} {lovs hivs : Nat} {pvs : Value} (w : World) (hmN : N.size ≤ 1048576) (hmEL : E.L.pw.length ≤ 1048576) (hnEL : E.L.nm.size ≤ 1048576) (hmER : E.R.pw.length ≤ 1048576) (hnER : E.R.nm.size ≤ 1048576) (hEL : K.ints w loEL hiEL pEL E.L.pw) (hER : K.ints w loER hiER pER E.R.pw) (hmvs : vs.length ≤ 1048576) (hvs : K.recs false K.FgR w lovs hivs pvs vs) :
    Calls Try.prog 36 #[.agg #[.int .i64 E.L.dg, .int .i64 E.L.tn, .string E.L.nm, pEL, .int .i64 E.R.dg, .int .i64 E.R.tn, .string E.R.nm, pER], .string N, pvs, .int .i64 u] w fun e w' => e = .returned (.tuple #[.bool ((Z.CheckValues E N vs u).1), .int .i64 ((Z.CheckValues E N vs u).2)]) ∧ K.Ext w w' := by
  have hEL_ := hEL
  have shEL := hEL
  obtain ⟨oEL, cEL, rfl, _⟩ := shEL
  have hER_ := hER
  have shER := hER
  obtain ⟨oER, cER, rfl, _⟩ := shER
  have hvs_ := hvs
  have shvs := hvs
  obtain ⟨ovs, cvs, rfl, _⟩ := shvs
  cases vE : Z.isEquation E
  · have HE : Hid (Z.CheckValues E N vs u = (false, 1)) := Z.hide (Z.Check_bad u (by unfold Z.checked; rw [vE]; rfl))
    have X0 : K.Ext w w := K.Ext.refl w
    go_enter Try.func36, Try.ntmps36
    go_wp2_with (go_at_call 92; refine K.call (by with_reducible rfl) (by with_reducible rfl) (impl_IsEquation E _ hmEL hnEL hmER hnER (K.ints.alloc hEL_ _) (K.ints.alloc hER_ _)) ?_; rintro e w1 ⟨rfl, x1⟩; have s1 : w.heap.size + 1 ≤ w1.heap.size := (by have h_ := x1.size; (try simp at h_); omega); have X1 := K.Ext.trans (K.Ext.alloc X0 _) x1; obtain ⟨c1_0_0, c1_0_1, c1_0_2, c1_0_3, c1_0_4, c1_0_5, c1_0_6, c1_0_7⟩ := K.c8 x1 (w.heap.size) (.int .i64 E.L.dg) (.int .i64 E.L.tn) (.string E.L.nm) (.slice oEL E.L.pw.length cEL) (.int .i64 E.R.dg) (.int .i64 E.R.tn) (.string E.R.nm) (.slice oER E.R.pw.length cER) (by go_simp); have z1_0 : w.heap.size < w1.heap.size := World.block_lt_of_cell? w1 _ c1_0_0; have d1_0 : ¬ (w.heap.size = w1.heap.size) := (by omega); have e1_0 : ¬ (w1.heap.size = w.heap.size) := (by omega); have F1_1 := K.ints.ext (K.ints.alloc hEL_ _) x1; have F2_1 := K.ints.ext (K.ints.alloc hER_ _) x1; have F3_1 := K.recs.ext (K.recs.alloc hvs_ _) x1; clear hEL_ hER_ hvs_)
    rw [HE.out]
    refine bodyPost_ret (v := .tuple #[.bool false, .int .i64 1]) (by unfold results; rw [Try.results36]; go_simp) rfl ⟨rfl, ?_⟩
    repeat with_reducible refine K.Ext.setCell ?_ (by dsimp only; omega) _
    exact (by repeat' (first | with_reducible exact X1 | with_reducible refine K.Ext.setCell ?_ ?_ _ | with_reducible refine K.Ext.alloc ?_ _ | with_reducible refine K.Ext.drew ?_ | (dsimp only; omega) | omega | (simp; omega)))
  cases vV : Z.areFigs vs
  · have HE : Hid (Z.CheckValues E N vs u = (false, 1)) := Z.hide (Z.Check_bad u (by unfold Z.checked; rw [vV]; simp))
    have X0 : K.Ext w w := K.Ext.refl w
    go_enter Try.func36, Try.ntmps36
    go_wp2_with (go_at_call 92; refine K.call (by with_reducible rfl) (by with_reducible rfl) (impl_IsEquation E _ hmEL hnEL hmER hnER (K.ints.alloc hEL_ _) (K.ints.alloc hER_ _)) ?_; rintro e w1 ⟨rfl, x1⟩; have s1 : w.heap.size + 1 ≤ w1.heap.size := (by have h_ := x1.size; (try simp at h_); omega); have X1 := K.Ext.trans (K.Ext.alloc X0 _) x1; obtain ⟨c1_0_0, c1_0_1, c1_0_2, c1_0_3, c1_0_4, c1_0_5, c1_0_6, c1_0_7⟩ := K.c8 x1 (w.heap.size) (.int .i64 E.L.dg) (.int .i64 E.L.tn) (.string E.L.nm) (.slice oEL E.L.pw.length cEL) (.int .i64 E.R.dg) (.int .i64 E.R.tn) (.string E.R.nm) (.slice oER E.R.pw.length cER) (by go_simp); have z1_0 : w.heap.size < w1.heap.size := World.block_lt_of_cell? w1 _ c1_0_0; have d1_0 : ¬ (w.heap.size = w1.heap.size) := (by omega); have e1_0 : ¬ (w1.heap.size = w.heap.size) := (by omega); have F1_1 := K.ints.ext (K.ints.alloc hEL_ _) x1; have F2_1 := K.ints.ext (K.ints.alloc hER_ _) x1; have F3_1 := K.recs.ext (K.recs.alloc hvs_ _) x1; clear hEL_ hER_ hvs_)
    go_wp2_with (go_at_call 119; refine K.call (by with_reducible rfl) (by with_reducible rfl) (areFigures_any vs _ hmvs (K.figs_of_recs (F3_1))) ?_; rintro e w2 ⟨rfl, x2⟩; have s2 : w1.heap.size ≤ w2.heap.size := (by have h_ := x2.size; (try simp at h_); omega); have X2 := K.Ext.trans (X1) x2; obtain ⟨c2_0_0, c2_0_1, c2_0_2, c2_0_3, c2_0_4, c2_0_5, c2_0_6, c2_0_7⟩ := K.c8 x2 (w.heap.size) (.int .i64 E.L.dg) (.int .i64 E.L.tn) (.string E.L.nm) (.slice oEL E.L.pw.length cEL) (.int .i64 E.R.dg) (.int .i64 E.R.tn) (.string E.R.nm) (.slice oER E.R.pw.length cER) (by go_simp); have z2_0 : w.heap.size < w2.heap.size := World.block_lt_of_cell? w2 _ c2_0_0; have d2_0 : ¬ (w.heap.size = w2.heap.size) := (by omega); have e2_0 : ¬ (w2.heap.size = w.heap.size) := (by omega); have F1_2 := K.ints.ext (F1_1) x2; have F2_2 := K.ints.ext (F2_1) x2; have F3_2 := K.recs.ext (F3_1) x2; clear c1_0_0 c1_0_1 c1_0_2 c1_0_3 c1_0_4 c1_0_5 c1_0_6 c1_0_7 z1_0 d1_0 e1_0 F1_1 F2_1 F3_1)
    rw [HE.out]
    refine bodyPost_ret (v := .tuple #[.bool false, .int .i64 1]) (by unfold results; rw [Try.results36]; go_simp) rfl ⟨rfl, ?_⟩
    repeat with_reducible refine K.Ext.setCell ?_ (by dsimp only; omega) _
    exact (by repeat' (first | with_reducible exact X2 | with_reducible refine K.Ext.setCell ?_ ?_ _ | with_reducible refine K.Ext.alloc ?_ _ | with_reducible refine K.Ext.drew ?_ | (dsimp only; omega) | omega | (simp; omega)))
  by_cases hNl : N.size = vs.length
  case neg =>
    have HE : Hid (Z.CheckValues E N vs u = (false, 1)) := Z.hide (Z.Check_bad u (by unfold Z.checked; rw [decide_eq_false hNl]; simp))
    have t1 : ((N.size : Int) != (vs.length : Int)) = true := by simp; omega
    have t2 : ¬ ((N.size : Int) = (vs.length : Int)) := by omega
    have X0 : K.Ext w w := K.Ext.refl w
    go_enter Try.func36, Try.ntmps36
    go_wp2_with (go_at_call 92; refine K.call (by with_reducible rfl) (by with_reducible rfl) (impl_IsEquation E _ hmEL hnEL hmER hnER (K.ints.alloc hEL_ _) (K.ints.alloc hER_ _)) ?_; rintro e w1 ⟨rfl, x1⟩; have s1 : w.heap.size + 1 ≤ w1.heap.size := (by have h_ := x1.size; (try simp at h_); omega); have X1 := K.Ext.trans (K.Ext.alloc X0 _) x1; obtain ⟨c1_0_0, c1_0_1, c1_0_2, c1_0_3, c1_0_4, c1_0_5, c1_0_6, c1_0_7⟩ := K.c8 x1 (w.heap.size) (.int .i64 E.L.dg) (.int .i64 E.L.tn) (.string E.L.nm) (.slice oEL E.L.pw.length cEL) (.int .i64 E.R.dg) (.int .i64 E.R.tn) (.string E.R.nm) (.slice oER E.R.pw.length cER) (by go_simp); have z1_0 : w.heap.size < w1.heap.size := World.block_lt_of_cell? w1 _ c1_0_0; have d1_0 : ¬ (w.heap.size = w1.heap.size) := (by omega); have e1_0 : ¬ (w1.heap.size = w.heap.size) := (by omega); have F1_1 := K.ints.ext (K.ints.alloc hEL_ _) x1; have F2_1 := K.ints.ext (K.ints.alloc hER_ _) x1; have F3_1 := K.recs.ext (K.recs.alloc hvs_ _) x1; clear hEL_ hER_ hvs_)
    go_wp2_with (go_at_call 119; refine K.call (by with_reducible rfl) (by with_reducible rfl) (areFigures_any vs _ hmvs (K.figs_of_recs (F3_1))) ?_; rintro e w2 ⟨rfl, x2⟩; have s2 : w1.heap.size ≤ w2.heap.size := (by have h_ := x2.size; (try simp at h_); omega); have X2 := K.Ext.trans (X1) x2; obtain ⟨c2_0_0, c2_0_1, c2_0_2, c2_0_3, c2_0_4, c2_0_5, c2_0_6, c2_0_7⟩ := K.c8 x2 (w.heap.size) (.int .i64 E.L.dg) (.int .i64 E.L.tn) (.string E.L.nm) (.slice oEL E.L.pw.length cEL) (.int .i64 E.R.dg) (.int .i64 E.R.tn) (.string E.R.nm) (.slice oER E.R.pw.length cER) (by go_simp); have z2_0 : w.heap.size < w2.heap.size := World.block_lt_of_cell? w2 _ c2_0_0; have d2_0 : ¬ (w.heap.size = w2.heap.size) := (by omega); have e2_0 : ¬ (w2.heap.size = w.heap.size) := (by omega); have F1_2 := K.ints.ext (F1_1) x2; have F2_2 := K.ints.ext (F2_1) x2; have F3_2 := K.recs.ext (F3_1) x2; clear c1_0_0 c1_0_1 c1_0_2 c1_0_3 c1_0_4 c1_0_5 c1_0_6 c1_0_7 z1_0 d1_0 e1_0 F1_1 F2_1 F3_1)
    rw [HE.out]
    refine bodyPost_ret (v := .tuple #[.bool false, .int .i64 1]) (by unfold results; rw [Try.results36]; go_simp) rfl ⟨rfl, ?_⟩
    repeat with_reducible refine K.Ext.setCell ?_ (by dsimp only; omega) _
    exact (by repeat' (first | with_reducible exact X2 | with_reducible refine K.Ext.setCell ?_ ?_ _ | with_reducible refine K.Ext.alloc ?_ _ | with_reducible refine K.Ext.drew ?_ | (dsimp only; omega) | omega | (simp; omega)))
  by_cases hN20 : N.size ≤ 20
  case neg =>
    have HE : Hid (Z.CheckValues E N vs u = (false, 1)) := Z.hide (Z.Check_bad u (by unfold Z.checked; rw [decide_eq_false hN20]; simp))
    have t1 : (20 : Int) < (N.size : Int) := by omega
    have X0 : K.Ext w w := K.Ext.refl w
    go_enter Try.func36, Try.ntmps36
    go_wp2_with (go_at_call 92; refine K.call (by with_reducible rfl) (by with_reducible rfl) (impl_IsEquation E _ hmEL hnEL hmER hnER (K.ints.alloc hEL_ _) (K.ints.alloc hER_ _)) ?_; rintro e w1 ⟨rfl, x1⟩; have s1 : w.heap.size + 1 ≤ w1.heap.size := (by have h_ := x1.size; (try simp at h_); omega); have X1 := K.Ext.trans (K.Ext.alloc X0 _) x1; obtain ⟨c1_0_0, c1_0_1, c1_0_2, c1_0_3, c1_0_4, c1_0_5, c1_0_6, c1_0_7⟩ := K.c8 x1 (w.heap.size) (.int .i64 E.L.dg) (.int .i64 E.L.tn) (.string E.L.nm) (.slice oEL E.L.pw.length cEL) (.int .i64 E.R.dg) (.int .i64 E.R.tn) (.string E.R.nm) (.slice oER E.R.pw.length cER) (by go_simp); have z1_0 : w.heap.size < w1.heap.size := World.block_lt_of_cell? w1 _ c1_0_0; have d1_0 : ¬ (w.heap.size = w1.heap.size) := (by omega); have e1_0 : ¬ (w1.heap.size = w.heap.size) := (by omega); have F1_1 := K.ints.ext (K.ints.alloc hEL_ _) x1; have F2_1 := K.ints.ext (K.ints.alloc hER_ _) x1; have F3_1 := K.recs.ext (K.recs.alloc hvs_ _) x1; clear hEL_ hER_ hvs_)
    go_wp2_with (go_at_call 119; refine K.call (by with_reducible rfl) (by with_reducible rfl) (areFigures_any vs _ hmvs (K.figs_of_recs (F3_1))) ?_; rintro e w2 ⟨rfl, x2⟩; have s2 : w1.heap.size ≤ w2.heap.size := (by have h_ := x2.size; (try simp at h_); omega); have X2 := K.Ext.trans (X1) x2; obtain ⟨c2_0_0, c2_0_1, c2_0_2, c2_0_3, c2_0_4, c2_0_5, c2_0_6, c2_0_7⟩ := K.c8 x2 (w.heap.size) (.int .i64 E.L.dg) (.int .i64 E.L.tn) (.string E.L.nm) (.slice oEL E.L.pw.length cEL) (.int .i64 E.R.dg) (.int .i64 E.R.tn) (.string E.R.nm) (.slice oER E.R.pw.length cER) (by go_simp); have z2_0 : w.heap.size < w2.heap.size := World.block_lt_of_cell? w2 _ c2_0_0; have d2_0 : ¬ (w.heap.size = w2.heap.size) := (by omega); have e2_0 : ¬ (w2.heap.size = w.heap.size) := (by omega); have F1_2 := K.ints.ext (F1_1) x2; have F2_2 := K.ints.ext (F2_1) x2; have F3_2 := K.recs.ext (F3_1) x2; clear c1_0_0 c1_0_1 c1_0_2 c1_0_3 c1_0_4 c1_0_5 c1_0_6 c1_0_7 z1_0 d1_0 e1_0 F1_1 F2_1 F3_1)
    rw [HE.out]
    refine bodyPost_ret (v := .tuple #[.bool false, .int .i64 1]) (by unfold results; rw [Try.results36]; go_simp) rfl ⟨rfl, ?_⟩
    repeat with_reducible refine K.Ext.setCell ?_ (by dsimp only; omega) _
    exact (by repeat' (first | with_reducible exact X2 | with_reducible refine K.Ext.setCell ?_ ?_ _ | with_reducible refine K.Ext.alloc ?_ _ | with_reducible refine K.Ext.drew ?_ | (dsimp only; omega) | omega | (simp; omega)))
  have hck : Z.checked E N vs = true := by unfold Z.checked; rw [vE, vV, decide_eq_true hNl, decide_eq_true hN20]; rfl
  have hN21 : ¬ ((20 : Int) < (N.size : Int)) := by omega
  by_cases hu : 0 ≤ u ∧ u ≤ 1048576
  case neg =>
    have HE : Hid (Z.CheckValues E N vs u = (false, 2)) := Z.hide (Z.Check_range hck hu)
    have hwi : (decide (0 ≤ u) && decide (u ≤ 1048576)) = false := by rw [Bool.and_eq_false_iff]; simp only [decide_eq_false_iff_not]; omega
    have HW : ∀ w : World, Calls Try.prog 114 #[.int .i64 u, .int .i64 0, .int .i64 1048576] w fun e w' => e = .returned (.bool false) ∧ w = w' := fun w => by rw [← hwi]; exact within_any _ _ _ _
    clear hwi hck
    have X0 : K.Ext w w := K.Ext.refl w
    go_enter Try.func36, Try.ntmps36
    go_wp2_with (go_at_call 92; refine K.call (by with_reducible rfl) (by with_reducible rfl) (impl_IsEquation E _ hmEL hnEL hmER hnER (K.ints.alloc hEL_ _) (K.ints.alloc hER_ _)) ?_; rintro e w1 ⟨rfl, x1⟩; have s1 : w.heap.size + 1 ≤ w1.heap.size := (by have h_ := x1.size; (try simp at h_); omega); have X1 := K.Ext.trans (K.Ext.alloc X0 _) x1; obtain ⟨c1_0_0, c1_0_1, c1_0_2, c1_0_3, c1_0_4, c1_0_5, c1_0_6, c1_0_7⟩ := K.c8 x1 (w.heap.size) (.int .i64 E.L.dg) (.int .i64 E.L.tn) (.string E.L.nm) (.slice oEL E.L.pw.length cEL) (.int .i64 E.R.dg) (.int .i64 E.R.tn) (.string E.R.nm) (.slice oER E.R.pw.length cER) (by go_simp); have z1_0 : w.heap.size < w1.heap.size := World.block_lt_of_cell? w1 _ c1_0_0; have d1_0 : ¬ (w.heap.size = w1.heap.size) := (by omega); have e1_0 : ¬ (w1.heap.size = w.heap.size) := (by omega); have F1_1 := K.ints.ext (K.ints.alloc hEL_ _) x1; have F2_1 := K.ints.ext (K.ints.alloc hER_ _) x1; have F3_1 := K.recs.ext (K.recs.alloc hvs_ _) x1; clear hEL_ hER_ hvs_)
    go_wp2_with (go_at_call 119; refine K.call (by with_reducible rfl) (by with_reducible rfl) (areFigures_any vs _ hmvs (K.figs_of_recs (F3_1))) ?_; rintro e w2 ⟨rfl, x2⟩; have s2 : w1.heap.size ≤ w2.heap.size := (by have h_ := x2.size; (try simp at h_); omega); have X2 := K.Ext.trans (X1) x2; obtain ⟨c2_0_0, c2_0_1, c2_0_2, c2_0_3, c2_0_4, c2_0_5, c2_0_6, c2_0_7⟩ := K.c8 x2 (w.heap.size) (.int .i64 E.L.dg) (.int .i64 E.L.tn) (.string E.L.nm) (.slice oEL E.L.pw.length cEL) (.int .i64 E.R.dg) (.int .i64 E.R.tn) (.string E.R.nm) (.slice oER E.R.pw.length cER) (by go_simp); have z2_0 : w.heap.size < w2.heap.size := World.block_lt_of_cell? w2 _ c2_0_0; have d2_0 : ¬ (w.heap.size = w2.heap.size) := (by omega); have e2_0 : ¬ (w2.heap.size = w.heap.size) := (by omega); have F1_2 := K.ints.ext (F1_1) x2; have F2_2 := K.ints.ext (F2_1) x2; have F3_2 := K.recs.ext (F3_1) x2; clear c1_0_0 c1_0_1 c1_0_2 c1_0_3 c1_0_4 c1_0_5 c1_0_6 c1_0_7 z1_0 d1_0 e1_0 F1_1 F2_1 F3_1)
    go_wp2_with (go_at_call 114; refine K.call (by with_reducible rfl) (by with_reducible rfl) (HW _) ?_; rintro e w_ ⟨rfl, rfl⟩)
    rw [HE.out]
    refine bodyPost_ret (v := .tuple #[.bool false, .int .i64 2]) (by unfold results; rw [Try.results36]; go_simp) rfl ⟨rfl, ?_⟩
    repeat with_reducible refine K.Ext.setCell ?_ (by dsimp only; omega) _
    exact (by repeat' (first | with_reducible exact X2 | with_reducible refine K.Ext.setCell ?_ ?_ _ | with_reducible refine K.Ext.alloc ?_ _ | with_reducible refine K.Ext.drew ?_ | (dsimp only; omega) | omega | (simp; omega)))
  have hwi : (decide (0 ≤ u) && decide (u ≤ 1048576)) = true := by rw [Bool.and_eq_true]; simp only [decide_eq_true_eq]; omega
  have HW : ∀ w : World, Calls Try.prog 114 #[.int .i64 u, .int .i64 0, .int .i64 1048576] w fun e w' => e = .returned (.bool true) ∧ w = w' := fun w => by rw [← hwi]; exact within_any _ _ _ _
  have hv10 : vs.length ≤ 1000000 := by omega
  obtain ⟨P, hP⟩ : ∃ P, P = Z.valuesFor E.L N vs := ⟨_, rfl⟩
  obtain ⟨Q, hQ⟩ : ∃ Q, Q = Z.valuesFor E.R N vs := ⟨_, rfl⟩
  have le6 := Z.isEquation_len vE
  have HP : ∀ {a b : Nat} {p v : Value} (w : World), K.recs false K.FgR w a b v vs → Calls Try.prog 120 #[.agg #[.int .i64 E.L.dg, .int .i64 E.L.tn, .string E.L.nm, p], .string N, v] w fun e w' => (∃ v', e = .returned (.tuple #[v', .bool P.2]) ∧ K.recs false K.FgR w' w.heap.size w'.heap.size v' P.1) ∧ K.Ext w w' := fun w h => by rw [hP]; exact valuesFor_any E.L N vs w (by omega) hNl hv10 h
  have HQ : ∀ {a b : Nat} {p v : Value} (w : World), K.recs false K.FgR w a b v vs → Calls Try.prog 120 #[.agg #[.int .i64 E.R.dg, .int .i64 E.R.tn, .string E.R.nm, p], .string N, v] w fun e w' => (∃ v', e = .returned (.tuple #[v', .bool Q.2]) ∧ K.recs false K.FgR w' w.heap.size w'.heap.size v' Q.1) ∧ K.Ext w w' := fun w h => by rw [hQ]; exact valuesFor_any E.R N vs w (by omega) hNl hv10 h
  have HMs : Hid ((P.2 && Q.2) = false → Z.CheckValues E N vs u = (false, 4)) := Z.hide (fun h => Z.Check_miss hck hu (by rw [← hP, ← hQ]; exact h))
  have HOk : Hid ((P.2 && Q.2) = true → Z.CheckValues E N vs u = (Z.meets (Z.lg E.L P.1) (Z.lg E.R Q.1) u, 0)) := Z.hide (fun h => by rw [hP, hQ] at h ⊢; exact Z.Check_ok hck hu h)
  have hPp : P.2 = true → P.1.length = E.L.nm.size ∧ Z.areFigs P.1 = true := fun h => by rw [hP] at h ⊢; exact Z.valuesFor_parts vV hNl h
  have hQp : Q.2 = true → Q.1.length = E.R.nm.size ∧ Z.areFigs Q.1 = true := fun h => by rw [hQ] at h ⊢; exact Z.valuesFor_parts vV hNl h
  obtain ⟨vEL, vER⟩ := Z.isEquation_parts vE
  clear hP hQ hck hwi hv10 le6
  obtain ⟨l1, b1⟩ := P
  obtain ⟨l2, b2⟩ := Q
  dsimp only at HP HQ HMs HOk hPp hQp
  cases b1
  · have HE : Hid (Z.CheckValues E N vs u = (false, 4)) := Z.hide (HMs.out rfl)
    clear hPp hQp HOk vEL vER
    have X0 : K.Ext w w := K.Ext.refl w
    go_enter Try.func36, Try.ntmps36
    go_wp2_with (go_at_call 92; refine K.call (by with_reducible rfl) (by with_reducible rfl) (impl_IsEquation E _ hmEL hnEL hmER hnER (K.ints.alloc hEL_ _) (K.ints.alloc hER_ _)) ?_; rintro e w1 ⟨rfl, x1⟩; have s1 : w.heap.size + 1 ≤ w1.heap.size := (by have h_ := x1.size; (try simp at h_); omega); have X1 := K.Ext.trans (K.Ext.alloc X0 _) x1; obtain ⟨c1_0_0, c1_0_1, c1_0_2, c1_0_3, c1_0_4, c1_0_5, c1_0_6, c1_0_7⟩ := K.c8 x1 (w.heap.size) (.int .i64 E.L.dg) (.int .i64 E.L.tn) (.string E.L.nm) (.slice oEL E.L.pw.length cEL) (.int .i64 E.R.dg) (.int .i64 E.R.tn) (.string E.R.nm) (.slice oER E.R.pw.length cER) (by go_simp); have z1_0 : w.heap.size < w1.heap.size := World.block_lt_of_cell? w1 _ c1_0_0; have d1_0 : ¬ (w.heap.size = w1.heap.size) := (by omega); have e1_0 : ¬ (w1.heap.size = w.heap.size) := (by omega); have F1_1 := K.ints.ext (K.ints.alloc hEL_ _) x1; have F2_1 := K.ints.ext (K.ints.alloc hER_ _) x1; have F3_1 := K.recs.ext (K.recs.alloc hvs_ _) x1; clear hEL_ hER_ hvs_)
    go_wp2_with (go_at_call 119; refine K.call (by with_reducible rfl) (by with_reducible rfl) (areFigures_any vs _ hmvs (K.figs_of_recs (F3_1))) ?_; rintro e w2 ⟨rfl, x2⟩; have s2 : w1.heap.size ≤ w2.heap.size := (by have h_ := x2.size; (try simp at h_); omega); have X2 := K.Ext.trans (X1) x2; obtain ⟨c2_0_0, c2_0_1, c2_0_2, c2_0_3, c2_0_4, c2_0_5, c2_0_6, c2_0_7⟩ := K.c8 x2 (w.heap.size) (.int .i64 E.L.dg) (.int .i64 E.L.tn) (.string E.L.nm) (.slice oEL E.L.pw.length cEL) (.int .i64 E.R.dg) (.int .i64 E.R.tn) (.string E.R.nm) (.slice oER E.R.pw.length cER) (by go_simp); have z2_0 : w.heap.size < w2.heap.size := World.block_lt_of_cell? w2 _ c2_0_0; have d2_0 : ¬ (w.heap.size = w2.heap.size) := (by omega); have e2_0 : ¬ (w2.heap.size = w.heap.size) := (by omega); have F1_2 := K.ints.ext (F1_1) x2; have F2_2 := K.ints.ext (F2_1) x2; have F3_2 := K.recs.ext (F3_1) x2; clear c1_0_0 c1_0_1 c1_0_2 c1_0_3 c1_0_4 c1_0_5 c1_0_6 c1_0_7 z1_0 d1_0 e1_0 F1_1 F2_1 F3_1)
    go_wp2_with (go_at_call 114; refine K.call (by with_reducible rfl) (by with_reducible rfl) (HW _) ?_; rintro e w_ ⟨rfl, rfl⟩)
    go_wp2_with (go_at_call 120; refine K.call (by with_reducible rfl) (by with_reducible rfl) (HP _ (F3_2)) ?_; rintro e w4 ⟨⟨p4, rfl, g4⟩, x4⟩; obtain ⟨o4, k4, rfl, _⟩ := K.recs.mono g4 (Nat.le_refl _) (Nat.le_refl _); have F4_4 : K.recs false K.FgR w4 (w2.heap.size) (w4.heap.size) (.slice o4 ((l1, false).1).length k4) (((l1, false).1)) := g4.mono (by simp) (Nat.le_refl _); clear g4; have s4 : w2.heap.size ≤ w4.heap.size := (by have h_ := x4.size; (try simp at h_); omega); have X4 := K.Ext.trans (X2) x4; obtain ⟨c4_0_0, c4_0_1, c4_0_2, c4_0_3, c4_0_4, c4_0_5, c4_0_6, c4_0_7⟩ := K.c8 x4 (w.heap.size) (.int .i64 E.L.dg) (.int .i64 E.L.tn) (.string E.L.nm) (.slice oEL E.L.pw.length cEL) (.int .i64 E.R.dg) (.int .i64 E.R.tn) (.string E.R.nm) (.slice oER E.R.pw.length cER) (by go_simp); have z4_0 : w.heap.size < w4.heap.size := World.block_lt_of_cell? w4 _ c4_0_0; have d4_0 : ¬ (w.heap.size = w4.heap.size) := (by omega); have e4_0 : ¬ (w4.heap.size = w.heap.size) := (by omega); have F1_4 := K.ints.ext (F1_2) x4; have F2_4 := K.ints.ext (F2_2) x4; have F3_4 := K.recs.ext (F3_2) x4; clear c2_0_0 c2_0_1 c2_0_2 c2_0_3 c2_0_4 c2_0_5 c2_0_6 c2_0_7 z2_0 d2_0 e2_0 F1_2 F2_2 F3_2)
    go_wp2_with (go_at_call 120; refine K.call (by with_reducible rfl) (by with_reducible rfl) (HQ _ (F3_4)) ?_; rintro e w5 ⟨⟨p5, rfl, g5⟩, x5⟩; obtain ⟨o5, k5, rfl, _⟩ := K.recs.mono g5 (Nat.le_refl _) (Nat.le_refl _); have F5_5 : K.recs false K.FgR w5 (w4.heap.size) (w5.heap.size) (.slice o5 ((l2, b2).1).length k5) (((l2, b2).1)) := g5.mono (by simp) (Nat.le_refl _); clear g5; have s5 : w4.heap.size ≤ w5.heap.size := (by have h_ := x5.size; (try simp at h_); omega); have X5 := K.Ext.trans (X4) x5; obtain ⟨c5_0_0, c5_0_1, c5_0_2, c5_0_3, c5_0_4, c5_0_5, c5_0_6, c5_0_7⟩ := K.c8 x5 (w.heap.size) (.int .i64 E.L.dg) (.int .i64 E.L.tn) (.string E.L.nm) (.slice oEL E.L.pw.length cEL) (.int .i64 E.R.dg) (.int .i64 E.R.tn) (.string E.R.nm) (.slice oER E.R.pw.length cER) (by go_simp); have z5_0 : w.heap.size < w5.heap.size := World.block_lt_of_cell? w5 _ c5_0_0; have d5_0 : ¬ (w.heap.size = w5.heap.size) := (by omega); have e5_0 : ¬ (w5.heap.size = w.heap.size) := (by omega); have F1_5 := K.ints.ext (F1_4) x5; have F2_5 := K.ints.ext (F2_4) x5; have F3_5 := K.recs.ext (F3_4) x5; have F4_5 := K.recs.ext (F4_4) x5; clear c4_0_0 c4_0_1 c4_0_2 c4_0_3 c4_0_4 c4_0_5 c4_0_6 c4_0_7 z4_0 d4_0 e4_0 F1_4 F2_4 F3_4 F4_4)
    rw [HE.out]
    refine bodyPost_ret (v := .tuple #[.bool false, .int .i64 4]) (by unfold results; rw [Try.results36]; go_simp) rfl ⟨rfl, ?_⟩
    repeat with_reducible refine K.Ext.setCell ?_ (by dsimp only; omega) _
    exact (by repeat' (first | with_reducible exact X5 | with_reducible refine K.Ext.setCell ?_ ?_ _ | with_reducible refine K.Ext.alloc ?_ _ | with_reducible refine K.Ext.drew ?_ | (dsimp only; omega) | omega | (simp; omega)))
  cases b2
  · have HE : Hid (Z.CheckValues E N vs u = (false, 4)) := Z.hide (HMs.out rfl)
    clear hPp hQp HOk vEL vER
    have X0 : K.Ext w w := K.Ext.refl w
    go_enter Try.func36, Try.ntmps36
    go_wp2_with (go_at_call 92; refine K.call (by with_reducible rfl) (by with_reducible rfl) (impl_IsEquation E _ hmEL hnEL hmER hnER (K.ints.alloc hEL_ _) (K.ints.alloc hER_ _)) ?_; rintro e w1 ⟨rfl, x1⟩; have s1 : w.heap.size + 1 ≤ w1.heap.size := (by have h_ := x1.size; (try simp at h_); omega); have X1 := K.Ext.trans (K.Ext.alloc X0 _) x1; obtain ⟨c1_0_0, c1_0_1, c1_0_2, c1_0_3, c1_0_4, c1_0_5, c1_0_6, c1_0_7⟩ := K.c8 x1 (w.heap.size) (.int .i64 E.L.dg) (.int .i64 E.L.tn) (.string E.L.nm) (.slice oEL E.L.pw.length cEL) (.int .i64 E.R.dg) (.int .i64 E.R.tn) (.string E.R.nm) (.slice oER E.R.pw.length cER) (by go_simp); have z1_0 : w.heap.size < w1.heap.size := World.block_lt_of_cell? w1 _ c1_0_0; have d1_0 : ¬ (w.heap.size = w1.heap.size) := (by omega); have e1_0 : ¬ (w1.heap.size = w.heap.size) := (by omega); have F1_1 := K.ints.ext (K.ints.alloc hEL_ _) x1; have F2_1 := K.ints.ext (K.ints.alloc hER_ _) x1; have F3_1 := K.recs.ext (K.recs.alloc hvs_ _) x1; clear hEL_ hER_ hvs_)
    go_wp2_with (go_at_call 119; refine K.call (by with_reducible rfl) (by with_reducible rfl) (areFigures_any vs _ hmvs (K.figs_of_recs (F3_1))) ?_; rintro e w2 ⟨rfl, x2⟩; have s2 : w1.heap.size ≤ w2.heap.size := (by have h_ := x2.size; (try simp at h_); omega); have X2 := K.Ext.trans (X1) x2; obtain ⟨c2_0_0, c2_0_1, c2_0_2, c2_0_3, c2_0_4, c2_0_5, c2_0_6, c2_0_7⟩ := K.c8 x2 (w.heap.size) (.int .i64 E.L.dg) (.int .i64 E.L.tn) (.string E.L.nm) (.slice oEL E.L.pw.length cEL) (.int .i64 E.R.dg) (.int .i64 E.R.tn) (.string E.R.nm) (.slice oER E.R.pw.length cER) (by go_simp); have z2_0 : w.heap.size < w2.heap.size := World.block_lt_of_cell? w2 _ c2_0_0; have d2_0 : ¬ (w.heap.size = w2.heap.size) := (by omega); have e2_0 : ¬ (w2.heap.size = w.heap.size) := (by omega); have F1_2 := K.ints.ext (F1_1) x2; have F2_2 := K.ints.ext (F2_1) x2; have F3_2 := K.recs.ext (F3_1) x2; clear c1_0_0 c1_0_1 c1_0_2 c1_0_3 c1_0_4 c1_0_5 c1_0_6 c1_0_7 z1_0 d1_0 e1_0 F1_1 F2_1 F3_1)
    go_wp2_with (go_at_call 114; refine K.call (by with_reducible rfl) (by with_reducible rfl) (HW _) ?_; rintro e w_ ⟨rfl, rfl⟩)
    go_wp2_with (go_at_call 120; refine K.call (by with_reducible rfl) (by with_reducible rfl) (HP _ (F3_2)) ?_; rintro e w4 ⟨⟨p4, rfl, g4⟩, x4⟩; obtain ⟨o4, k4, rfl, _⟩ := K.recs.mono g4 (Nat.le_refl _) (Nat.le_refl _); have F4_4 : K.recs false K.FgR w4 (w2.heap.size) (w4.heap.size) (.slice o4 ((l1, true).1).length k4) (((l1, true).1)) := g4.mono (by simp) (Nat.le_refl _); clear g4; have s4 : w2.heap.size ≤ w4.heap.size := (by have h_ := x4.size; (try simp at h_); omega); have X4 := K.Ext.trans (X2) x4; obtain ⟨c4_0_0, c4_0_1, c4_0_2, c4_0_3, c4_0_4, c4_0_5, c4_0_6, c4_0_7⟩ := K.c8 x4 (w.heap.size) (.int .i64 E.L.dg) (.int .i64 E.L.tn) (.string E.L.nm) (.slice oEL E.L.pw.length cEL) (.int .i64 E.R.dg) (.int .i64 E.R.tn) (.string E.R.nm) (.slice oER E.R.pw.length cER) (by go_simp); have z4_0 : w.heap.size < w4.heap.size := World.block_lt_of_cell? w4 _ c4_0_0; have d4_0 : ¬ (w.heap.size = w4.heap.size) := (by omega); have e4_0 : ¬ (w4.heap.size = w.heap.size) := (by omega); have F1_4 := K.ints.ext (F1_2) x4; have F2_4 := K.ints.ext (F2_2) x4; have F3_4 := K.recs.ext (F3_2) x4; clear c2_0_0 c2_0_1 c2_0_2 c2_0_3 c2_0_4 c2_0_5 c2_0_6 c2_0_7 z2_0 d2_0 e2_0 F1_2 F2_2 F3_2)
    go_wp2_with (go_at_call 120; refine K.call (by with_reducible rfl) (by with_reducible rfl) (HQ _ (F3_4)) ?_; rintro e w5 ⟨⟨p5, rfl, g5⟩, x5⟩; obtain ⟨o5, k5, rfl, _⟩ := K.recs.mono g5 (Nat.le_refl _) (Nat.le_refl _); have F5_5 : K.recs false K.FgR w5 (w4.heap.size) (w5.heap.size) (.slice o5 ((l2, false).1).length k5) (((l2, false).1)) := g5.mono (by simp) (Nat.le_refl _); clear g5; have s5 : w4.heap.size ≤ w5.heap.size := (by have h_ := x5.size; (try simp at h_); omega); have X5 := K.Ext.trans (X4) x5; obtain ⟨c5_0_0, c5_0_1, c5_0_2, c5_0_3, c5_0_4, c5_0_5, c5_0_6, c5_0_7⟩ := K.c8 x5 (w.heap.size) (.int .i64 E.L.dg) (.int .i64 E.L.tn) (.string E.L.nm) (.slice oEL E.L.pw.length cEL) (.int .i64 E.R.dg) (.int .i64 E.R.tn) (.string E.R.nm) (.slice oER E.R.pw.length cER) (by go_simp); have z5_0 : w.heap.size < w5.heap.size := World.block_lt_of_cell? w5 _ c5_0_0; have d5_0 : ¬ (w.heap.size = w5.heap.size) := (by omega); have e5_0 : ¬ (w5.heap.size = w.heap.size) := (by omega); have F1_5 := K.ints.ext (F1_4) x5; have F2_5 := K.ints.ext (F2_4) x5; have F3_5 := K.recs.ext (F3_4) x5; have F4_5 := K.recs.ext (F4_4) x5; clear c4_0_0 c4_0_1 c4_0_2 c4_0_3 c4_0_4 c4_0_5 c4_0_6 c4_0_7 z4_0 d4_0 e4_0 F1_4 F2_4 F3_4 F4_4)
    rw [HE.out]
    refine bodyPost_ret (v := .tuple #[.bool false, .int .i64 4]) (by unfold results; rw [Try.results36]; go_simp) rfl ⟨rfl, ?_⟩
    repeat with_reducible refine K.Ext.setCell ?_ (by dsimp only; omega) _
    exact (by repeat' (first | with_reducible exact X5 | with_reducible refine K.Ext.setCell ?_ ?_ _ | with_reducible refine K.Ext.alloc ?_ _ | with_reducible refine K.Ext.drew ?_ | (dsimp only; omega) | omega | (simp; omega)))
  obtain ⟨p1, p2⟩ := hPp rfl
  obtain ⟨q1, q2⟩ := hQp rfl
  obtain ⟨a1, a2, a3⟩ := Z.lg_bd vEL p1 p2
  obtain ⟨b1, b2, b3⟩ := Z.lg_bd vER q1 q2
  obtain ⟨X, hX⟩ : ∃ X, X = Z.lg E.L l1 := ⟨_, rfl⟩
  obtain ⟨Y, hY⟩ : ∃ Y, Y = Z.lg E.R l2 := ⟨_, rfl⟩
  have H1 : ∀ {a b c d : Nat} {p v : Value} (w : World), K.ints w a b p E.L.pw → K.recs false K.FgR w c d v l1 → Calls Try.prog 123 #[.agg #[.int .i64 E.L.dg, .int .i64 E.L.tn, .string E.L.nm, p], v] w fun e w' => e = .returned (.agg #[.int .i64 X.1, .int .i64 X.2]) ∧ K.Ext w w' := fun w h h' => by rw [hX]; exact formulaLog_any E.L l1 w vEL p1 p2 h h'
  have H2 : ∀ {a b c d : Nat} {p v : Value} (w : World), K.ints w a b p E.R.pw → K.recs false K.FgR w c d v l2 → Calls Try.prog 123 #[.agg #[.int .i64 E.R.dg, .int .i64 E.R.tn, .string E.R.nm, p], v] w fun e w' => e = .returned (.agg #[.int .i64 Y.1, .int .i64 Y.2]) ∧ K.Ext w w' := fun w h h' => by rw [hY]; exact formulaLog_any E.R l2 w vER q1 q2 h h'
  rw [← hX] at a1 a2 a3
  rw [← hY] at b1 b2 b3
  obtain ⟨S, hS⟩ : ∃ S, S = (X.1 - u, X.2 + u) := ⟨_, rfl⟩
  have HE : Hid (Z.CheckValues E N vs u = (decide (S.1 ≤ Y.2) && decide (Y.1 ≤ S.2), 0)) := Z.hide (by rw [HOk.out rfl, ← hX, ← hY, hS]; rfl)
  have HSp := Z.hide hS
  clear hX hY hS HMs HOk hPp hQp p1 p2 q1 q2 vEL vER
  have X0 : K.Ext w w := K.Ext.refl w
  go_enter Try.func36, Try.ntmps36
  go_wp2_with (go_at_call 92; refine K.call (by with_reducible rfl) (by with_reducible rfl) (impl_IsEquation E _ hmEL hnEL hmER hnER (K.ints.alloc hEL_ _) (K.ints.alloc hER_ _)) ?_; rintro e w1 ⟨rfl, x1⟩; have s1 : w.heap.size + 1 ≤ w1.heap.size := (by have h_ := x1.size; (try simp at h_); omega); have X1 := K.Ext.trans (K.Ext.alloc X0 _) x1; obtain ⟨c1_0_0, c1_0_1, c1_0_2, c1_0_3, c1_0_4, c1_0_5, c1_0_6, c1_0_7⟩ := K.c8 x1 (w.heap.size) (.int .i64 E.L.dg) (.int .i64 E.L.tn) (.string E.L.nm) (.slice oEL E.L.pw.length cEL) (.int .i64 E.R.dg) (.int .i64 E.R.tn) (.string E.R.nm) (.slice oER E.R.pw.length cER) (by go_simp); have z1_0 : w.heap.size < w1.heap.size := World.block_lt_of_cell? w1 _ c1_0_0; have d1_0 : ¬ (w.heap.size = w1.heap.size) := (by omega); have e1_0 : ¬ (w1.heap.size = w.heap.size) := (by omega); have F1_1 := K.ints.ext (K.ints.alloc hEL_ _) x1; have F2_1 := K.ints.ext (K.ints.alloc hER_ _) x1; have F3_1 := K.recs.ext (K.recs.alloc hvs_ _) x1; clear hEL_ hER_ hvs_)
  go_wp2_with (go_at_call 119; refine K.call (by with_reducible rfl) (by with_reducible rfl) (areFigures_any vs _ hmvs (K.figs_of_recs (F3_1))) ?_; rintro e w2 ⟨rfl, x2⟩; have s2 : w1.heap.size ≤ w2.heap.size := (by have h_ := x2.size; (try simp at h_); omega); have X2 := K.Ext.trans (X1) x2; obtain ⟨c2_0_0, c2_0_1, c2_0_2, c2_0_3, c2_0_4, c2_0_5, c2_0_6, c2_0_7⟩ := K.c8 x2 (w.heap.size) (.int .i64 E.L.dg) (.int .i64 E.L.tn) (.string E.L.nm) (.slice oEL E.L.pw.length cEL) (.int .i64 E.R.dg) (.int .i64 E.R.tn) (.string E.R.nm) (.slice oER E.R.pw.length cER) (by go_simp); have z2_0 : w.heap.size < w2.heap.size := World.block_lt_of_cell? w2 _ c2_0_0; have d2_0 : ¬ (w.heap.size = w2.heap.size) := (by omega); have e2_0 : ¬ (w2.heap.size = w.heap.size) := (by omega); have F1_2 := K.ints.ext (F1_1) x2; have F2_2 := K.ints.ext (F2_1) x2; have F3_2 := K.recs.ext (F3_1) x2; clear c1_0_0 c1_0_1 c1_0_2 c1_0_3 c1_0_4 c1_0_5 c1_0_6 c1_0_7 z1_0 d1_0 e1_0 F1_1 F2_1 F3_1)
  go_wp2_with (go_at_call 114; refine K.call (by with_reducible rfl) (by with_reducible rfl) (HW _) ?_; rintro e w_ ⟨rfl, rfl⟩)
  go_wp2_with (go_at_call 120; refine K.call (by with_reducible rfl) (by with_reducible rfl) (HP _ (F3_2)) ?_; rintro e w4 ⟨⟨p4, rfl, g4⟩, x4⟩; obtain ⟨o4, k4, rfl, _⟩ := K.recs.mono g4 (Nat.le_refl _) (Nat.le_refl _); have F4_4 : K.recs false K.FgR w4 (w2.heap.size) (w4.heap.size) (.slice o4 ((l1, true).1).length k4) (((l1, true).1)) := g4.mono (by simp) (Nat.le_refl _); clear g4; have s4 : w2.heap.size ≤ w4.heap.size := (by have h_ := x4.size; (try simp at h_); omega); have X4 := K.Ext.trans (X2) x4; obtain ⟨c4_0_0, c4_0_1, c4_0_2, c4_0_3, c4_0_4, c4_0_5, c4_0_6, c4_0_7⟩ := K.c8 x4 (w.heap.size) (.int .i64 E.L.dg) (.int .i64 E.L.tn) (.string E.L.nm) (.slice oEL E.L.pw.length cEL) (.int .i64 E.R.dg) (.int .i64 E.R.tn) (.string E.R.nm) (.slice oER E.R.pw.length cER) (by go_simp); have z4_0 : w.heap.size < w4.heap.size := World.block_lt_of_cell? w4 _ c4_0_0; have d4_0 : ¬ (w.heap.size = w4.heap.size) := (by omega); have e4_0 : ¬ (w4.heap.size = w.heap.size) := (by omega); have F1_4 := K.ints.ext (F1_2) x4; have F2_4 := K.ints.ext (F2_2) x4; have F3_4 := K.recs.ext (F3_2) x4; clear c2_0_0 c2_0_1 c2_0_2 c2_0_3 c2_0_4 c2_0_5 c2_0_6 c2_0_7 z2_0 d2_0 e2_0 F1_2 F2_2 F3_2)
  go_wp2_with (go_at_call 120; refine K.call (by with_reducible rfl) (by with_reducible rfl) (HQ _ (F3_4)) ?_; rintro e w5 ⟨⟨p5, rfl, g5⟩, x5⟩; obtain ⟨o5, k5, rfl, _⟩ := K.recs.mono g5 (Nat.le_refl _) (Nat.le_refl _); have F5_5 : K.recs false K.FgR w5 (w4.heap.size) (w5.heap.size) (.slice o5 ((l2, true).1).length k5) (((l2, true).1)) := g5.mono (by simp) (Nat.le_refl _); clear g5; have s5 : w4.heap.size ≤ w5.heap.size := (by have h_ := x5.size; (try simp at h_); omega); have X5 := K.Ext.trans (X4) x5; obtain ⟨c5_0_0, c5_0_1, c5_0_2, c5_0_3, c5_0_4, c5_0_5, c5_0_6, c5_0_7⟩ := K.c8 x5 (w.heap.size) (.int .i64 E.L.dg) (.int .i64 E.L.tn) (.string E.L.nm) (.slice oEL E.L.pw.length cEL) (.int .i64 E.R.dg) (.int .i64 E.R.tn) (.string E.R.nm) (.slice oER E.R.pw.length cER) (by go_simp); have z5_0 : w.heap.size < w5.heap.size := World.block_lt_of_cell? w5 _ c5_0_0; have d5_0 : ¬ (w.heap.size = w5.heap.size) := (by omega); have e5_0 : ¬ (w5.heap.size = w.heap.size) := (by omega); have F1_5 := K.ints.ext (F1_4) x5; have F2_5 := K.ints.ext (F2_4) x5; have F3_5 := K.recs.ext (F3_4) x5; have F4_5 := K.recs.ext (F4_4) x5; clear c4_0_0 c4_0_1 c4_0_2 c4_0_3 c4_0_4 c4_0_5 c4_0_6 c4_0_7 z4_0 d4_0 e4_0 F1_4 F2_4 F3_4 F4_4)
  go_wp2_with fail
  go_region_with (first | (go_at_call 123; refine K.call (by with_reducible rfl) (by with_reducible rfl) (H1 _ (show K.ints _ (loEL) (hiEL) (.slice oEL E.L.pw.length cEL) (E.L.pw) from by repeat' (first | with_reducible exact F1_5 | with_reducible refine K.ints.set ?_ _ ?_ _ | with_reducible refine K.ints.alloc ?_ _ | with_reducible refine K.ints.drew ?_ | (dsimp only; omega) | omega | (simp; done) | (simp; omega))) (show K.recs false K.FgR _ (w2.heap.size) (w4.heap.size) (.slice o4 ((l1, true).1).length k4) (((l1, true).1)) from by repeat' (first | with_reducible exact F4_5 | with_reducible refine K.recs.set (by decide) ?_ _ ?_ _ | with_reducible refine K.recs.alloc ?_ _ | with_reducible refine K.recs.drew ?_ | (dsimp only; omega) | omega | (simp; done) | (simp; omega)))) ?_; rintro e w6 ⟨rfl, x6⟩; have s6 : w5.heap.size ≤ w6.heap.size := (by have h_ := x6.size; (try simp at h_); omega); have X6 : K.Ext w w6 := K.Ext.trans (by repeat' (first | with_reducible exact X5 | with_reducible refine K.Ext.setCell ?_ ?_ _ | with_reducible refine K.Ext.alloc ?_ _ | with_reducible refine K.Ext.drew ?_ | (dsimp only; omega) | omega | (simp; omega))) x6; obtain ⟨c6_0_0, c6_0_1, c6_0_2, c6_0_3, c6_0_4, c6_0_5, c6_0_6, c6_0_7⟩ := K.c8 x6 (w.heap.size) (.int .i64 E.L.dg) (.int .i64 E.L.tn) (.string E.L.nm) (.slice oEL E.L.pw.length cEL) (.int .i64 E.R.dg) (.int .i64 E.R.tn) (.string E.R.nm) (.slice oER E.R.pw.length cER) (by go_simp); have z6_0 : w.heap.size < w6.heap.size := World.block_lt_of_cell? w6 _ c6_0_0; have d6_0 : ¬ (w.heap.size = w6.heap.size) := (by omega); have e6_0 : ¬ (w6.heap.size = w.heap.size) := (by omega); have F1_6 := K.ints.ext (show K.ints _ (loEL) (hiEL) (.slice oEL E.L.pw.length cEL) (E.L.pw) from by repeat' (first | with_reducible exact F1_5 | with_reducible refine K.ints.set ?_ _ ?_ _ | with_reducible refine K.ints.alloc ?_ _ | with_reducible refine K.ints.drew ?_ | (dsimp only; omega) | omega | (simp; done) | (simp; omega))) x6; have F2_6 := K.ints.ext (show K.ints _ (loER) (hiER) (.slice oER E.R.pw.length cER) (E.R.pw) from by repeat' (first | with_reducible exact F2_5 | with_reducible refine K.ints.set ?_ _ ?_ _ | with_reducible refine K.ints.alloc ?_ _ | with_reducible refine K.ints.drew ?_ | (dsimp only; omega) | omega | (simp; done) | (simp; omega))) x6; have F3_6 := K.recs.ext (show K.recs false K.FgR _ (lovs) (hivs) (.slice ovs vs.length cvs) (vs) from by repeat' (first | with_reducible exact F3_5 | with_reducible refine K.recs.set (by decide) ?_ _ ?_ _ | with_reducible refine K.recs.alloc ?_ _ | with_reducible refine K.recs.drew ?_ | (dsimp only; omega) | omega | (simp; done) | (simp; omega))) x6; have F4_6 := K.recs.ext (show K.recs false K.FgR _ (w2.heap.size) (w4.heap.size) (.slice o4 ((l1, true).1).length k4) (((l1, true).1)) from by repeat' (first | with_reducible exact F4_5 | with_reducible refine K.recs.set (by decide) ?_ _ ?_ _ | with_reducible refine K.recs.alloc ?_ _ | with_reducible refine K.recs.drew ?_ | (dsimp only; omega) | omega | (simp; done) | (simp; omega))) x6; have F5_6 := K.recs.ext (show K.recs false K.FgR _ (w4.heap.size) (w5.heap.size) (.slice o5 ((l2, true).1).length k5) (((l2, true).1)) from by repeat' (first | with_reducible exact F5_5 | with_reducible refine K.recs.set (by decide) ?_ _ ?_ _ | with_reducible refine K.recs.alloc ?_ _ | with_reducible refine K.recs.drew ?_ | (dsimp only; omega) | omega | (simp; done) | (simp; omega))) x6; clear c5_0_0 c5_0_1 c5_0_2 c5_0_3 c5_0_4 c5_0_5 c5_0_6 c5_0_7 z5_0 d5_0 e5_0 F1_5 F2_5 F3_5 F4_5 F5_5) | (go_at_call 122; refine K.call (by with_reducible rfl) (by with_reducible rfl) (spread_any X u _ a1 a2 hu S HSp) ?_; rintro e w7 ⟨rfl, x7⟩; have s7 : w6.heap.size ≤ w7.heap.size := (by have h_ := x7.size; (try simp at h_); omega); have X7 : K.Ext w w7 := K.Ext.trans (by repeat' (first | with_reducible exact X6 | with_reducible refine K.Ext.setCell ?_ ?_ _ | with_reducible refine K.Ext.alloc ?_ _ | with_reducible refine K.Ext.drew ?_ | (dsimp only; omega) | omega | (simp; omega))) x7; obtain ⟨c7_0_0, c7_0_1, c7_0_2, c7_0_3, c7_0_4, c7_0_5, c7_0_6, c7_0_7⟩ := K.c8 x7 (w.heap.size) (.int .i64 E.L.dg) (.int .i64 E.L.tn) (.string E.L.nm) (.slice oEL E.L.pw.length cEL) (.int .i64 E.R.dg) (.int .i64 E.R.tn) (.string E.R.nm) (.slice oER E.R.pw.length cER) (by go_simp); have z7_0 : w.heap.size < w7.heap.size := World.block_lt_of_cell? w7 _ c7_0_0; have d7_0 : ¬ (w.heap.size = w7.heap.size) := (by omega); have e7_0 : ¬ (w7.heap.size = w.heap.size) := (by omega); have F1_7 := K.ints.ext (show K.ints _ (loEL) (hiEL) (.slice oEL E.L.pw.length cEL) (E.L.pw) from by repeat' (first | with_reducible exact F1_6 | with_reducible refine K.ints.set ?_ _ ?_ _ | with_reducible refine K.ints.alloc ?_ _ | with_reducible refine K.ints.drew ?_ | (dsimp only; omega) | omega | (simp; done) | (simp; omega))) x7; have F2_7 := K.ints.ext (show K.ints _ (loER) (hiER) (.slice oER E.R.pw.length cER) (E.R.pw) from by repeat' (first | with_reducible exact F2_6 | with_reducible refine K.ints.set ?_ _ ?_ _ | with_reducible refine K.ints.alloc ?_ _ | with_reducible refine K.ints.drew ?_ | (dsimp only; omega) | omega | (simp; done) | (simp; omega))) x7; have F3_7 := K.recs.ext (show K.recs false K.FgR _ (lovs) (hivs) (.slice ovs vs.length cvs) (vs) from by repeat' (first | with_reducible exact F3_6 | with_reducible refine K.recs.set (by decide) ?_ _ ?_ _ | with_reducible refine K.recs.alloc ?_ _ | with_reducible refine K.recs.drew ?_ | (dsimp only; omega) | omega | (simp; done) | (simp; omega))) x7; have F4_7 := K.recs.ext (show K.recs false K.FgR _ (w2.heap.size) (w4.heap.size) (.slice o4 ((l1, true).1).length k4) (((l1, true).1)) from by repeat' (first | with_reducible exact F4_6 | with_reducible refine K.recs.set (by decide) ?_ _ ?_ _ | with_reducible refine K.recs.alloc ?_ _ | with_reducible refine K.recs.drew ?_ | (dsimp only; omega) | omega | (simp; done) | (simp; omega))) x7; have F5_7 := K.recs.ext (show K.recs false K.FgR _ (w4.heap.size) (w5.heap.size) (.slice o5 ((l2, true).1).length k5) (((l2, true).1)) from by repeat' (first | with_reducible exact F5_6 | with_reducible refine K.recs.set (by decide) ?_ _ ?_ _ | with_reducible refine K.recs.alloc ?_ _ | with_reducible refine K.recs.drew ?_ | (dsimp only; omega) | omega | (simp; done) | (simp; omega))) x7; clear c6_0_0 c6_0_1 c6_0_2 c6_0_3 c6_0_4 c6_0_5 c6_0_6 c6_0_7 z6_0 d6_0 e6_0 F1_6 F2_6 F3_6 F4_6 F5_6) | (go_at_call 123; refine K.call (by with_reducible rfl) (by with_reducible rfl) (H2 _ (show K.ints _ (loER) (hiER) (.slice oER E.R.pw.length cER) (E.R.pw) from by repeat' (first | with_reducible exact F2_7 | with_reducible refine K.ints.set ?_ _ ?_ _ | with_reducible refine K.ints.alloc ?_ _ | with_reducible refine K.ints.drew ?_ | (dsimp only; omega) | omega | (simp; done) | (simp; omega))) (show K.recs false K.FgR _ (w4.heap.size) (w5.heap.size) (.slice o5 ((l2, true).1).length k5) (((l2, true).1)) from by repeat' (first | with_reducible exact F5_7 | with_reducible refine K.recs.set (by decide) ?_ _ ?_ _ | with_reducible refine K.recs.alloc ?_ _ | with_reducible refine K.recs.drew ?_ | (dsimp only; omega) | omega | (simp; done) | (simp; omega)))) ?_; rintro e w8 ⟨rfl, x8⟩; have s8 : w7.heap.size ≤ w8.heap.size := (by have h_ := x8.size; (try simp at h_); omega); have X8 : K.Ext w w8 := K.Ext.trans (by repeat' (first | with_reducible exact X7 | with_reducible refine K.Ext.setCell ?_ ?_ _ | with_reducible refine K.Ext.alloc ?_ _ | with_reducible refine K.Ext.drew ?_ | (dsimp only; omega) | omega | (simp; omega))) x8; obtain ⟨c8_0_0, c8_0_1, c8_0_2, c8_0_3, c8_0_4, c8_0_5, c8_0_6, c8_0_7⟩ := K.c8 x8 (w.heap.size) (.int .i64 E.L.dg) (.int .i64 E.L.tn) (.string E.L.nm) (.slice oEL E.L.pw.length cEL) (.int .i64 E.R.dg) (.int .i64 E.R.tn) (.string E.R.nm) (.slice oER E.R.pw.length cER) (by go_simp); have z8_0 : w.heap.size < w8.heap.size := World.block_lt_of_cell? w8 _ c8_0_0; have d8_0 : ¬ (w.heap.size = w8.heap.size) := (by omega); have e8_0 : ¬ (w8.heap.size = w.heap.size) := (by omega); have F1_8 := K.ints.ext (show K.ints _ (loEL) (hiEL) (.slice oEL E.L.pw.length cEL) (E.L.pw) from by repeat' (first | with_reducible exact F1_7 | with_reducible refine K.ints.set ?_ _ ?_ _ | with_reducible refine K.ints.alloc ?_ _ | with_reducible refine K.ints.drew ?_ | (dsimp only; omega) | omega | (simp; done) | (simp; omega))) x8; have F2_8 := K.ints.ext (show K.ints _ (loER) (hiER) (.slice oER E.R.pw.length cER) (E.R.pw) from by repeat' (first | with_reducible exact F2_7 | with_reducible refine K.ints.set ?_ _ ?_ _ | with_reducible refine K.ints.alloc ?_ _ | with_reducible refine K.ints.drew ?_ | (dsimp only; omega) | omega | (simp; done) | (simp; omega))) x8; have F3_8 := K.recs.ext (show K.recs false K.FgR _ (lovs) (hivs) (.slice ovs vs.length cvs) (vs) from by repeat' (first | with_reducible exact F3_7 | with_reducible refine K.recs.set (by decide) ?_ _ ?_ _ | with_reducible refine K.recs.alloc ?_ _ | with_reducible refine K.recs.drew ?_ | (dsimp only; omega) | omega | (simp; done) | (simp; omega))) x8; have F4_8 := K.recs.ext (show K.recs false K.FgR _ (w2.heap.size) (w4.heap.size) (.slice o4 ((l1, true).1).length k4) (((l1, true).1)) from by repeat' (first | with_reducible exact F4_7 | with_reducible refine K.recs.set (by decide) ?_ _ ?_ _ | with_reducible refine K.recs.alloc ?_ _ | with_reducible refine K.recs.drew ?_ | (dsimp only; omega) | omega | (simp; done) | (simp; omega))) x8; have F5_8 := K.recs.ext (show K.recs false K.FgR _ (w4.heap.size) (w5.heap.size) (.slice o5 ((l2, true).1).length k5) (((l2, true).1)) from by repeat' (first | with_reducible exact F5_7 | with_reducible refine K.recs.set (by decide) ?_ _ ?_ _ | with_reducible refine K.recs.alloc ?_ _ | with_reducible refine K.recs.drew ?_ | (dsimp only; omega) | omega | (simp; done) | (simp; omega))) x8; clear c7_0_0 c7_0_1 c7_0_2 c7_0_3 c7_0_4 c7_0_5 c7_0_6 c7_0_7 z7_0 d7_0 e7_0 F1_7 F2_7 F3_7 F4_7 F5_7) | (go_at_call 121; refine K.call (by with_reducible rfl) (by with_reducible rfl) (meet_any S Y _) ?_; rintro e w9 ⟨rfl, x9⟩; have s9 : w8.heap.size ≤ w9.heap.size := (by have h_ := x9.size; (try simp at h_); omega); have X9 : K.Ext w w9 := K.Ext.trans (by repeat' (first | with_reducible exact X8 | with_reducible refine K.Ext.setCell ?_ ?_ _ | with_reducible refine K.Ext.alloc ?_ _ | with_reducible refine K.Ext.drew ?_ | (dsimp only; omega) | omega | (simp; omega))) x9; obtain ⟨c9_0_0, c9_0_1, c9_0_2, c9_0_3, c9_0_4, c9_0_5, c9_0_6, c9_0_7⟩ := K.c8 x9 (w.heap.size) (.int .i64 E.L.dg) (.int .i64 E.L.tn) (.string E.L.nm) (.slice oEL E.L.pw.length cEL) (.int .i64 E.R.dg) (.int .i64 E.R.tn) (.string E.R.nm) (.slice oER E.R.pw.length cER) (by go_simp); have z9_0 : w.heap.size < w9.heap.size := World.block_lt_of_cell? w9 _ c9_0_0; have d9_0 : ¬ (w.heap.size = w9.heap.size) := (by omega); have e9_0 : ¬ (w9.heap.size = w.heap.size) := (by omega); have F1_9 := K.ints.ext (show K.ints _ (loEL) (hiEL) (.slice oEL E.L.pw.length cEL) (E.L.pw) from by repeat' (first | with_reducible exact F1_8 | with_reducible refine K.ints.set ?_ _ ?_ _ | with_reducible refine K.ints.alloc ?_ _ | with_reducible refine K.ints.drew ?_ | (dsimp only; omega) | omega | (simp; done) | (simp; omega))) x9; have F2_9 := K.ints.ext (show K.ints _ (loER) (hiER) (.slice oER E.R.pw.length cER) (E.R.pw) from by repeat' (first | with_reducible exact F2_8 | with_reducible refine K.ints.set ?_ _ ?_ _ | with_reducible refine K.ints.alloc ?_ _ | with_reducible refine K.ints.drew ?_ | (dsimp only; omega) | omega | (simp; done) | (simp; omega))) x9; have F3_9 := K.recs.ext (show K.recs false K.FgR _ (lovs) (hivs) (.slice ovs vs.length cvs) (vs) from by repeat' (first | with_reducible exact F3_8 | with_reducible refine K.recs.set (by decide) ?_ _ ?_ _ | with_reducible refine K.recs.alloc ?_ _ | with_reducible refine K.recs.drew ?_ | (dsimp only; omega) | omega | (simp; done) | (simp; omega))) x9; have F4_9 := K.recs.ext (show K.recs false K.FgR _ (w2.heap.size) (w4.heap.size) (.slice o4 ((l1, true).1).length k4) (((l1, true).1)) from by repeat' (first | with_reducible exact F4_8 | with_reducible refine K.recs.set (by decide) ?_ _ ?_ _ | with_reducible refine K.recs.alloc ?_ _ | with_reducible refine K.recs.drew ?_ | (dsimp only; omega) | omega | (simp; done) | (simp; omega))) x9; have F5_9 := K.recs.ext (show K.recs false K.FgR _ (w4.heap.size) (w5.heap.size) (.slice o5 ((l2, true).1).length k5) (((l2, true).1)) from by repeat' (first | with_reducible exact F5_8 | with_reducible refine K.recs.set (by decide) ?_ _ ?_ _ | with_reducible refine K.recs.alloc ?_ _ | with_reducible refine K.recs.drew ?_ | (dsimp only; omega) | omega | (simp; done) | (simp; omega))) x9; clear c8_0_0 c8_0_1 c8_0_2 c8_0_3 c8_0_4 c8_0_5 c8_0_6 c8_0_7 z8_0 d8_0 e8_0 F1_8 F2_8 F3_8 F4_8 F5_8))
  all_goals
    go_wp2_with fail
    rw [HE.out]
    refine bodyPost_ret (v := .tuple #[.bool (decide (S.1 ≤ Y.2) && decide (Y.1 ≤ S.2)), .int .i64 0]) (by unfold results; rw [Try.results36]; go_simp) rfl ⟨rfl, ?_⟩
    repeat with_reducible refine K.Ext.setCell ?_ (by dsimp only; omega) _
    exact (by repeat' (first | with_reducible exact X9 | with_reducible refine K.Ext.setCell ?_ ?_ _ | with_reducible refine K.Ext.alloc ?_ _ | with_reducible refine K.Ext.drew ?_ | (dsimp only; omega) | omega | (simp; omega)))
set_option maxRecDepth 100000 in
set_option maxHeartbeats 12800000 in
theorem spec_CheckValues (E : Z.Eqn) (N : ByteArray) (vs : List (Int × Int)) (u : Int) {loEL hiEL loER hiER : Nat} {pEL pER : Value} {lovs hivs : Nat} {pvs : Value} (w : World) (hmN : N.size ≤ 1048576) (hmEL : E.L.pw.length ≤ 1048576) (hnEL : E.L.nm.size ≤ 1048576) (hmER : E.R.pw.length ≤ 1048576) (hnER : E.R.nm.size ≤ 1048576) (hEL : K.ints w loEL hiEL pEL E.L.pw) (hER : K.ints w loER hiER pER E.R.pw) (hmvs : vs.length ≤ 1048576) (hvs : K.recs false K.FgR w lovs hivs pvs vs) :
    Calls Try.prog 33 #[.agg #[.int .i64 E.L.dg, .int .i64 E.L.tn, .string E.L.nm, pEL, .int .i64 E.R.dg, .int .i64 E.R.tn, .string E.R.nm, pER], .string N, pvs, .int .i64 u] w fun e w' => e = .returned (.tuple #[.bool ((Z.CheckValues E N vs u).1), .int .i64 ((Z.CheckValues E N vs u).2)]) ∧ K.Ext w w' := by
  have hEL_ := hEL
  have shEL := hEL
  obtain ⟨oEL, cEL, rfl, _⟩ := shEL
  have hER_ := hER
  have shER := hER
  obtain ⟨oER, cER, rfl, _⟩ := shER
  have hvs_ := hvs
  have shvs := hvs
  obtain ⟨ovs, cvs, rfl, _⟩ := shvs
  have HV := Z.hide hvs
  cases vV : Z.areFigs vs
  · have HE : Hid (Z.CheckValues E N vs u = (false, 1)) := Z.hide (Z.Check_bad u (by unfold Z.checked; rw [vV]; simp))
    clear hvs hEL hER
    go_enter Try.func33, Try.ntmps33
    go_wp2
    go_loopw [10] (fun i wr => ∃ k : Nat, k ≤ vs.length ∧ i = .int .i64 k ∧ Hid (Z.areFigs (vs.take k) = true) ∧ Hid (K.Ext (w.alloc (.cells #[.int .i64 E.L.dg, .int .i64 E.L.tn, .string E.L.nm, .slice oEL E.L.pw.length cEL, .int .i64 E.R.dg, .int .i64 E.R.tn, .string E.R.nm, .slice oER E.R.pw.length cER] 54)) wr)) (fun i _ => vs.length - (intOf i).toNat)
    case atStart => exact ⟨0, Nat.zero_le _, rfl, Z.hide rfl, Z.hide (K.Ext.refl _)⟩
    case round =>
      obtain ⟨k, hk, rfl, HA, HX⟩ := hrel
      by_cases hlt : k < vs.length
      · obtain ⟨b, off, rfl, _, _, hc⟩ := (K.figs_of_recs HV.out).at_ (by omega)
        have HXw := Z.hide (K.Ext.trans ((K.Ext.refl w).alloc _) HX.out)
        have hc1 := HXw.out.cell_of (hc k hlt).1
        have hc2 := HXw.out.cell_of (hc k hlt).2
        have i0 : (0 : Int) ≤ (k : Int) := Int.natCast_nonneg k
        have i1 : (k : Int) < (vs.length : Int) := by omega
        have HS := Z.hide (Z.figs_succ vs k hlt)
        have HB := Z.hide (Z.figs_bad vs k hlt)
        clear hc
        generalize vs.getD k (0, 0) = f at *
        cases hf : Z.isFig f.1 f.2
        · go_wp2_with ((go_at_call 115; refine K.call (by with_reducible rfl) (by with_reducible rfl) (spec_IsFigure f.1 f.2 _) ?_; rintro e w1 ⟨rfl, hw1⟩; obtain ⟨hcw1, hfw1⟩ := hw1.facts))
          rw [HE.out]
          go_ret2
          exact ⟨rfl, K.Ext.trans HXw.out (by repeat' (first | with_reducible exact K.Ext.refl _ | with_reducible assumption | with_reducible refine K.Ext.drew ?_ | with_reducible refine K.Ext.alloc ?_ _ | with_reducible refine K.Ext.setCell ?_ ?_ _ | with_reducible refine K.Ext.trans ?_ (by with_reducible assumption) | (dsimp only; omega) | omega | exact K.Ext.refl _ | assumption | apply K.Ext.drew | refine K.Ext.alloc ?_ _ | refine K.Ext.setCell ?_ ?_ _ | (simp; done) | (simp; omega) | refine K.Ext.trans ?_ (by assumption)))⟩
        · have HF : Hid (Z.areFigs (vs.take (k + 1)) = true) := Z.hide (by rw [HS.out, HA.out, hf]; rfl)
          go_wp2_with ((go_at_call 115; refine K.call (by with_reducible rfl) (by with_reducible rfl) (spec_IsFigure f.1 f.2 _) ?_; rintro e w1 ⟨rfl, hw1⟩; obtain ⟨hcw1, hfw1⟩ := hw1.facts))
          go_roundw
          case rel => exact ⟨k + 1, by omega, by go_num, HF, Z.hide (K.Ext.trans HX.out (by repeat' (first | with_reducible exact K.Ext.refl _ | with_reducible assumption | with_reducible refine K.Ext.drew ?_ | with_reducible refine K.Ext.alloc ?_ _ | with_reducible refine K.Ext.setCell ?_ ?_ _ | with_reducible refine K.Ext.trans ?_ (by with_reducible assumption) | (dsimp only; omega) | omega | exact K.Ext.refl _ | assumption | apply K.Ext.drew | refine K.Ext.alloc ?_ _ | refine K.Ext.setCell ?_ ?_ _ | (simp; done) | (simp; omega) | refine K.Ext.trans ?_ (by assumption))))⟩
          case measure => simp [intOf]; omega
      · obtain rfl : k = vs.length := by omega
        have h_ := HA.out
        rw [List.take_length, vV] at h_
        cases h_
  cases vE : Z.isEquation E
  · have HE : Hid (Z.CheckValues E N vs u = (false, 1)) := Z.hide (Z.Check_bad u (by unfold Z.checked; rw [vE]; rfl))
    have X0 : K.Ext w w := K.Ext.refl w
    go_enter Try.func33, Try.ntmps33
    go_wp2
    go_loopw [10] (fun i wr => ∃ k : Nat, k ≤ vs.length ∧ i = .int .i64 k ∧ Hid (Z.areFigs (vs.take k) = true) ∧ Hid (K.Ext (w.alloc (.cells #[.int .i64 E.L.dg, .int .i64 E.L.tn, .string E.L.nm, .slice oEL E.L.pw.length cEL, .int .i64 E.R.dg, .int .i64 E.R.tn, .string E.R.nm, .slice oER E.R.pw.length cER] 54)) wr)) (fun i _ => vs.length - (intOf i).toNat)
    case atStart => exact ⟨0, Nat.zero_le _, rfl, Z.hide rfl, Z.hide (K.Ext.refl _)⟩
    case round =>
      obtain ⟨k, hk, rfl, HA, HX⟩ := hrel
      by_cases hlt : k < vs.length
      · obtain ⟨b, off, rfl, _, _, hc⟩ := (K.figs_of_recs HV.out).at_ (by omega)
        have HXw := Z.hide (K.Ext.trans ((K.Ext.refl w).alloc _) HX.out)
        have hc1 := HXw.out.cell_of (hc k hlt).1
        have hc2 := HXw.out.cell_of (hc k hlt).2
        have i0 : (0 : Int) ≤ (k : Int) := Int.natCast_nonneg k
        have i1 : (k : Int) < (vs.length : Int) := by omega
        have HS := Z.hide (Z.figs_succ vs k hlt)
        have HB := Z.hide (Z.figs_bad vs k hlt)
        clear hc
        generalize vs.getD k (0, 0) = f at *
        cases hf : Z.isFig f.1 f.2
        · have hq_ := HB.out hf; rw [vV] at hq_; cases hq_
        · have HF : Hid (Z.areFigs (vs.take (k + 1)) = true) := Z.hide (by rw [HS.out, HA.out, hf]; rfl)
          go_wp2_with ((go_at_call 115; refine K.call (by with_reducible rfl) (by with_reducible rfl) (spec_IsFigure f.1 f.2 _) ?_; rintro e w1 ⟨rfl, hw1⟩; obtain ⟨hcw1, hfw1⟩ := hw1.facts))
          go_roundw
          case rel => exact ⟨k + 1, by omega, by go_num, HF, Z.hide (K.Ext.trans HX.out (by repeat' (first | with_reducible exact K.Ext.refl _ | with_reducible assumption | with_reducible refine K.Ext.drew ?_ | with_reducible refine K.Ext.alloc ?_ _ | with_reducible refine K.Ext.setCell ?_ ?_ _ | with_reducible refine K.Ext.trans ?_ (by with_reducible assumption) | (dsimp only; omega) | omega | exact K.Ext.refl _ | assumption | apply K.Ext.drew | refine K.Ext.alloc ?_ _ | refine K.Ext.setCell ?_ ?_ _ | (simp; done) | (simp; omega) | refine K.Ext.trans ?_ (by assumption))))⟩
          case measure => simp [intOf]; omega
      · obtain rfl : k = vs.length := by omega
        have hx := HX.out
        have s1 : w.heap.size + 1 ≤ wr.heap.size := (by have h_ := hx.size; (try simp at h_); omega)
        have X1 := K.Ext.trans (K.Ext.alloc X0 _) hx
        obtain ⟨c1_0_0, c1_0_1, c1_0_2, c1_0_3, c1_0_4, c1_0_5, c1_0_6, c1_0_7⟩ := K.c8 hx (w.heap.size) (.int .i64 E.L.dg) (.int .i64 E.L.tn) (.string E.L.nm) (.slice oEL E.L.pw.length cEL) (.int .i64 E.R.dg) (.int .i64 E.R.tn) (.string E.R.nm) (.slice oER E.R.pw.length cER) (by go_simp)
        have z1_0 : w.heap.size < wr.heap.size := World.block_lt_of_cell? wr _ c1_0_0
        have d1_0 : ¬ (w.heap.size = wr.heap.size) := (by omega)
        have e1_0 : ¬ (wr.heap.size = w.heap.size) := (by omega)
        have F1_1 := K.ints.ext (K.ints.alloc hEL_ _) hx
        have F2_1 := K.ints.ext (K.ints.alloc hER_ _) hx
        have F3_1 := K.recs.ext (K.recs.alloc hvs_ _) hx
        clear hEL_ hER_ hvs_
        go_wp2_with (go_at_call 116; refine K.call (by with_reducible rfl) (by with_reducible rfl) (spec_IsEquation E _ hmEL hnEL hmER hnER (F1_1) (F2_1)) ?_; rintro e w2 ⟨rfl, x2⟩; have s2 : wr.heap.size ≤ w2.heap.size := (by have h_ := x2.size; (try simp at h_); omega); have X2 := K.Ext.trans (X1) x2; obtain ⟨c2_0_0, c2_0_1, c2_0_2, c2_0_3, c2_0_4, c2_0_5, c2_0_6, c2_0_7⟩ := K.c8 x2 (w.heap.size) (.int .i64 E.L.dg) (.int .i64 E.L.tn) (.string E.L.nm) (.slice oEL E.L.pw.length cEL) (.int .i64 E.R.dg) (.int .i64 E.R.tn) (.string E.R.nm) (.slice oER E.R.pw.length cER) (by go_simp); have z2_0 : w.heap.size < w2.heap.size := World.block_lt_of_cell? w2 _ c2_0_0; have d2_0 : ¬ (w.heap.size = w2.heap.size) := (by omega); have e2_0 : ¬ (w2.heap.size = w.heap.size) := (by omega); have F1_2 := K.ints.ext (F1_1) x2; have F2_2 := K.ints.ext (F2_1) x2; have F3_2 := K.recs.ext (F3_1) x2; clear c1_0_0 c1_0_1 c1_0_2 c1_0_3 c1_0_4 c1_0_5 c1_0_6 c1_0_7 z1_0 d1_0 e1_0 F1_1 F2_1 F3_1)
        rw [HE.out]
        refine bodyPost_ret (v := .tuple #[.bool false, .int .i64 1]) (by unfold results; rw [Try.results33]; go_simp) rfl ⟨rfl, ?_⟩
        repeat with_reducible refine K.Ext.setCell ?_ (by dsimp only; omega) _
        exact (by repeat' (first | with_reducible exact X2 | with_reducible refine K.Ext.setCell ?_ ?_ _ | with_reducible refine K.Ext.alloc ?_ _ | with_reducible refine K.Ext.drew ?_ | (dsimp only; omega) | omega | (simp; omega)))
  by_cases hNl : N.size = vs.length
  case neg =>
    have HE : Hid (Z.CheckValues E N vs u = (false, 1)) := Z.hide (Z.Check_bad u (by unfold Z.checked; rw [decide_eq_false hNl]; simp))
    have t1 : ((N.size : Int) != (vs.length : Int)) = true := by simp; omega
    have t2 : ¬ ((N.size : Int) = (vs.length : Int)) := by omega
    have X0 : K.Ext w w := K.Ext.refl w
    go_enter Try.func33, Try.ntmps33
    go_wp2
    go_loopw [10] (fun i wr => ∃ k : Nat, k ≤ vs.length ∧ i = .int .i64 k ∧ Hid (Z.areFigs (vs.take k) = true) ∧ Hid (K.Ext (w.alloc (.cells #[.int .i64 E.L.dg, .int .i64 E.L.tn, .string E.L.nm, .slice oEL E.L.pw.length cEL, .int .i64 E.R.dg, .int .i64 E.R.tn, .string E.R.nm, .slice oER E.R.pw.length cER] 54)) wr)) (fun i _ => vs.length - (intOf i).toNat)
    case atStart => exact ⟨0, Nat.zero_le _, rfl, Z.hide rfl, Z.hide (K.Ext.refl _)⟩
    case round =>
      obtain ⟨k, hk, rfl, HA, HX⟩ := hrel
      by_cases hlt : k < vs.length
      · obtain ⟨b, off, rfl, _, _, hc⟩ := (K.figs_of_recs HV.out).at_ (by omega)
        have HXw := Z.hide (K.Ext.trans ((K.Ext.refl w).alloc _) HX.out)
        have hc1 := HXw.out.cell_of (hc k hlt).1
        have hc2 := HXw.out.cell_of (hc k hlt).2
        have i0 : (0 : Int) ≤ (k : Int) := Int.natCast_nonneg k
        have i1 : (k : Int) < (vs.length : Int) := by omega
        have HS := Z.hide (Z.figs_succ vs k hlt)
        have HB := Z.hide (Z.figs_bad vs k hlt)
        clear hc
        generalize vs.getD k (0, 0) = f at *
        cases hf : Z.isFig f.1 f.2
        · have hq_ := HB.out hf; rw [vV] at hq_; cases hq_
        · have HF : Hid (Z.areFigs (vs.take (k + 1)) = true) := Z.hide (by rw [HS.out, HA.out, hf]; rfl)
          go_wp2_with ((go_at_call 115; refine K.call (by with_reducible rfl) (by with_reducible rfl) (spec_IsFigure f.1 f.2 _) ?_; rintro e w1 ⟨rfl, hw1⟩; obtain ⟨hcw1, hfw1⟩ := hw1.facts))
          go_roundw
          case rel => exact ⟨k + 1, by omega, by go_num, HF, Z.hide (K.Ext.trans HX.out (by repeat' (first | with_reducible exact K.Ext.refl _ | with_reducible assumption | with_reducible refine K.Ext.drew ?_ | with_reducible refine K.Ext.alloc ?_ _ | with_reducible refine K.Ext.setCell ?_ ?_ _ | with_reducible refine K.Ext.trans ?_ (by with_reducible assumption) | (dsimp only; omega) | omega | exact K.Ext.refl _ | assumption | apply K.Ext.drew | refine K.Ext.alloc ?_ _ | refine K.Ext.setCell ?_ ?_ _ | (simp; done) | (simp; omega) | refine K.Ext.trans ?_ (by assumption))))⟩
          case measure => simp [intOf]; omega
      · obtain rfl : k = vs.length := by omega
        have hx := HX.out
        have s1 : w.heap.size + 1 ≤ wr.heap.size := (by have h_ := hx.size; (try simp at h_); omega)
        have X1 := K.Ext.trans (K.Ext.alloc X0 _) hx
        obtain ⟨c1_0_0, c1_0_1, c1_0_2, c1_0_3, c1_0_4, c1_0_5, c1_0_6, c1_0_7⟩ := K.c8 hx (w.heap.size) (.int .i64 E.L.dg) (.int .i64 E.L.tn) (.string E.L.nm) (.slice oEL E.L.pw.length cEL) (.int .i64 E.R.dg) (.int .i64 E.R.tn) (.string E.R.nm) (.slice oER E.R.pw.length cER) (by go_simp)
        have z1_0 : w.heap.size < wr.heap.size := World.block_lt_of_cell? wr _ c1_0_0
        have d1_0 : ¬ (w.heap.size = wr.heap.size) := (by omega)
        have e1_0 : ¬ (wr.heap.size = w.heap.size) := (by omega)
        have F1_1 := K.ints.ext (K.ints.alloc hEL_ _) hx
        have F2_1 := K.ints.ext (K.ints.alloc hER_ _) hx
        have F3_1 := K.recs.ext (K.recs.alloc hvs_ _) hx
        clear hEL_ hER_ hvs_
        go_wp2_with (go_at_call 116; refine K.call (by with_reducible rfl) (by with_reducible rfl) (spec_IsEquation E _ hmEL hnEL hmER hnER (F1_1) (F2_1)) ?_; rintro e w2 ⟨rfl, x2⟩; have s2 : wr.heap.size ≤ w2.heap.size := (by have h_ := x2.size; (try simp at h_); omega); have X2 := K.Ext.trans (X1) x2; obtain ⟨c2_0_0, c2_0_1, c2_0_2, c2_0_3, c2_0_4, c2_0_5, c2_0_6, c2_0_7⟩ := K.c8 x2 (w.heap.size) (.int .i64 E.L.dg) (.int .i64 E.L.tn) (.string E.L.nm) (.slice oEL E.L.pw.length cEL) (.int .i64 E.R.dg) (.int .i64 E.R.tn) (.string E.R.nm) (.slice oER E.R.pw.length cER) (by go_simp); have z2_0 : w.heap.size < w2.heap.size := World.block_lt_of_cell? w2 _ c2_0_0; have d2_0 : ¬ (w.heap.size = w2.heap.size) := (by omega); have e2_0 : ¬ (w2.heap.size = w.heap.size) := (by omega); have F1_2 := K.ints.ext (F1_1) x2; have F2_2 := K.ints.ext (F2_1) x2; have F3_2 := K.recs.ext (F3_1) x2; clear c1_0_0 c1_0_1 c1_0_2 c1_0_3 c1_0_4 c1_0_5 c1_0_6 c1_0_7 z1_0 d1_0 e1_0 F1_1 F2_1 F3_1)
        rw [HE.out]
        refine bodyPost_ret (v := .tuple #[.bool false, .int .i64 1]) (by unfold results; rw [Try.results33]; go_simp) rfl ⟨rfl, ?_⟩
        repeat with_reducible refine K.Ext.setCell ?_ (by dsimp only; omega) _
        exact (by repeat' (first | with_reducible exact X2 | with_reducible refine K.Ext.setCell ?_ ?_ _ | with_reducible refine K.Ext.alloc ?_ _ | with_reducible refine K.Ext.drew ?_ | (dsimp only; omega) | omega | (simp; omega)))
  by_cases hN20 : N.size ≤ 20
  case neg =>
    have HE : Hid (Z.CheckValues E N vs u = (false, 1)) := Z.hide (Z.Check_bad u (by unfold Z.checked; rw [decide_eq_false hN20]; simp))
    have t1 : (20 : Int) < (N.size : Int) := by omega
    have X0 : K.Ext w w := K.Ext.refl w
    go_enter Try.func33, Try.ntmps33
    go_wp2
    go_loopw [10] (fun i wr => ∃ k : Nat, k ≤ vs.length ∧ i = .int .i64 k ∧ Hid (Z.areFigs (vs.take k) = true) ∧ Hid (K.Ext (w.alloc (.cells #[.int .i64 E.L.dg, .int .i64 E.L.tn, .string E.L.nm, .slice oEL E.L.pw.length cEL, .int .i64 E.R.dg, .int .i64 E.R.tn, .string E.R.nm, .slice oER E.R.pw.length cER] 54)) wr)) (fun i _ => vs.length - (intOf i).toNat)
    case atStart => exact ⟨0, Nat.zero_le _, rfl, Z.hide rfl, Z.hide (K.Ext.refl _)⟩
    case round =>
      obtain ⟨k, hk, rfl, HA, HX⟩ := hrel
      by_cases hlt : k < vs.length
      · obtain ⟨b, off, rfl, _, _, hc⟩ := (K.figs_of_recs HV.out).at_ (by omega)
        have HXw := Z.hide (K.Ext.trans ((K.Ext.refl w).alloc _) HX.out)
        have hc1 := HXw.out.cell_of (hc k hlt).1
        have hc2 := HXw.out.cell_of (hc k hlt).2
        have i0 : (0 : Int) ≤ (k : Int) := Int.natCast_nonneg k
        have i1 : (k : Int) < (vs.length : Int) := by omega
        have HS := Z.hide (Z.figs_succ vs k hlt)
        have HB := Z.hide (Z.figs_bad vs k hlt)
        clear hc
        generalize vs.getD k (0, 0) = f at *
        cases hf : Z.isFig f.1 f.2
        · have hq_ := HB.out hf; rw [vV] at hq_; cases hq_
        · have HF : Hid (Z.areFigs (vs.take (k + 1)) = true) := Z.hide (by rw [HS.out, HA.out, hf]; rfl)
          go_wp2_with ((go_at_call 115; refine K.call (by with_reducible rfl) (by with_reducible rfl) (spec_IsFigure f.1 f.2 _) ?_; rintro e w1 ⟨rfl, hw1⟩; obtain ⟨hcw1, hfw1⟩ := hw1.facts))
          go_roundw
          case rel => exact ⟨k + 1, by omega, by go_num, HF, Z.hide (K.Ext.trans HX.out (by repeat' (first | with_reducible exact K.Ext.refl _ | with_reducible assumption | with_reducible refine K.Ext.drew ?_ | with_reducible refine K.Ext.alloc ?_ _ | with_reducible refine K.Ext.setCell ?_ ?_ _ | with_reducible refine K.Ext.trans ?_ (by with_reducible assumption) | (dsimp only; omega) | omega | exact K.Ext.refl _ | assumption | apply K.Ext.drew | refine K.Ext.alloc ?_ _ | refine K.Ext.setCell ?_ ?_ _ | (simp; done) | (simp; omega) | refine K.Ext.trans ?_ (by assumption))))⟩
          case measure => simp [intOf]; omega
      · obtain rfl : k = vs.length := by omega
        have hx := HX.out
        have s1 : w.heap.size + 1 ≤ wr.heap.size := (by have h_ := hx.size; (try simp at h_); omega)
        have X1 := K.Ext.trans (K.Ext.alloc X0 _) hx
        obtain ⟨c1_0_0, c1_0_1, c1_0_2, c1_0_3, c1_0_4, c1_0_5, c1_0_6, c1_0_7⟩ := K.c8 hx (w.heap.size) (.int .i64 E.L.dg) (.int .i64 E.L.tn) (.string E.L.nm) (.slice oEL E.L.pw.length cEL) (.int .i64 E.R.dg) (.int .i64 E.R.tn) (.string E.R.nm) (.slice oER E.R.pw.length cER) (by go_simp)
        have z1_0 : w.heap.size < wr.heap.size := World.block_lt_of_cell? wr _ c1_0_0
        have d1_0 : ¬ (w.heap.size = wr.heap.size) := (by omega)
        have e1_0 : ¬ (wr.heap.size = w.heap.size) := (by omega)
        have F1_1 := K.ints.ext (K.ints.alloc hEL_ _) hx
        have F2_1 := K.ints.ext (K.ints.alloc hER_ _) hx
        have F3_1 := K.recs.ext (K.recs.alloc hvs_ _) hx
        clear hEL_ hER_ hvs_
        go_wp2_with (go_at_call 116; refine K.call (by with_reducible rfl) (by with_reducible rfl) (spec_IsEquation E _ hmEL hnEL hmER hnER (F1_1) (F2_1)) ?_; rintro e w2 ⟨rfl, x2⟩; have s2 : wr.heap.size ≤ w2.heap.size := (by have h_ := x2.size; (try simp at h_); omega); have X2 := K.Ext.trans (X1) x2; obtain ⟨c2_0_0, c2_0_1, c2_0_2, c2_0_3, c2_0_4, c2_0_5, c2_0_6, c2_0_7⟩ := K.c8 x2 (w.heap.size) (.int .i64 E.L.dg) (.int .i64 E.L.tn) (.string E.L.nm) (.slice oEL E.L.pw.length cEL) (.int .i64 E.R.dg) (.int .i64 E.R.tn) (.string E.R.nm) (.slice oER E.R.pw.length cER) (by go_simp); have z2_0 : w.heap.size < w2.heap.size := World.block_lt_of_cell? w2 _ c2_0_0; have d2_0 : ¬ (w.heap.size = w2.heap.size) := (by omega); have e2_0 : ¬ (w2.heap.size = w.heap.size) := (by omega); have F1_2 := K.ints.ext (F1_1) x2; have F2_2 := K.ints.ext (F2_1) x2; have F3_2 := K.recs.ext (F3_1) x2; clear c1_0_0 c1_0_1 c1_0_2 c1_0_3 c1_0_4 c1_0_5 c1_0_6 c1_0_7 z1_0 d1_0 e1_0 F1_1 F2_1 F3_1)
        rw [HE.out]
        refine bodyPost_ret (v := .tuple #[.bool false, .int .i64 1]) (by unfold results; rw [Try.results33]; go_simp) rfl ⟨rfl, ?_⟩
        repeat with_reducible refine K.Ext.setCell ?_ (by dsimp only; omega) _
        exact (by repeat' (first | with_reducible exact X2 | with_reducible refine K.Ext.setCell ?_ ?_ _ | with_reducible refine K.Ext.alloc ?_ _ | with_reducible refine K.Ext.drew ?_ | (dsimp only; omega) | omega | (simp; omega)))
  have hck : Z.checked E N vs = true := by unfold Z.checked; rw [vE, vV, decide_eq_true hNl, decide_eq_true hN20]; rfl
  have hN21 : ¬ ((20 : Int) < (N.size : Int)) := by omega
  by_cases hu : 0 ≤ u ∧ u ≤ 1048576
  case neg =>
    have HE : Hid (Z.CheckValues E N vs u = (false, 2)) := Z.hide (Z.Check_range hck hu)
    have hwi : (decide (0 ≤ u) && decide (u ≤ 1048576)) = false := by rw [Bool.and_eq_false_iff]; simp only [decide_eq_false_iff_not]; omega
    have HW : ∀ w : World, Calls Try.prog 112 #[.int .i64 u, .int .i64 0, .int .i64 1048576] w fun e w' => e = .returned (.bool false) ∧ w = w' := fun w => by rw [← hwi]; exact l01In_any _ _ _ _
    clear hwi hck
    have X0 : K.Ext w w := K.Ext.refl w
    go_enter Try.func33, Try.ntmps33
    go_wp2
    go_loopw [10] (fun i wr => ∃ k : Nat, k ≤ vs.length ∧ i = .int .i64 k ∧ Hid (Z.areFigs (vs.take k) = true) ∧ Hid (K.Ext (w.alloc (.cells #[.int .i64 E.L.dg, .int .i64 E.L.tn, .string E.L.nm, .slice oEL E.L.pw.length cEL, .int .i64 E.R.dg, .int .i64 E.R.tn, .string E.R.nm, .slice oER E.R.pw.length cER] 54)) wr)) (fun i _ => vs.length - (intOf i).toNat)
    case atStart => exact ⟨0, Nat.zero_le _, rfl, Z.hide rfl, Z.hide (K.Ext.refl _)⟩
    case round =>
      obtain ⟨k, hk, rfl, HA, HX⟩ := hrel
      by_cases hlt : k < vs.length
      · obtain ⟨b, off, rfl, _, _, hc⟩ := (K.figs_of_recs HV.out).at_ (by omega)
        have HXw := Z.hide (K.Ext.trans ((K.Ext.refl w).alloc _) HX.out)
        have hc1 := HXw.out.cell_of (hc k hlt).1
        have hc2 := HXw.out.cell_of (hc k hlt).2
        have i0 : (0 : Int) ≤ (k : Int) := Int.natCast_nonneg k
        have i1 : (k : Int) < (vs.length : Int) := by omega
        have HS := Z.hide (Z.figs_succ vs k hlt)
        have HB := Z.hide (Z.figs_bad vs k hlt)
        clear hc
        generalize vs.getD k (0, 0) = f at *
        cases hf : Z.isFig f.1 f.2
        · have hq_ := HB.out hf; rw [vV] at hq_; cases hq_
        · have HF : Hid (Z.areFigs (vs.take (k + 1)) = true) := Z.hide (by rw [HS.out, HA.out, hf]; rfl)
          go_wp2_with ((go_at_call 115; refine K.call (by with_reducible rfl) (by with_reducible rfl) (spec_IsFigure f.1 f.2 _) ?_; rintro e w1 ⟨rfl, hw1⟩; obtain ⟨hcw1, hfw1⟩ := hw1.facts))
          go_roundw
          case rel => exact ⟨k + 1, by omega, by go_num, HF, Z.hide (K.Ext.trans HX.out (by repeat' (first | with_reducible exact K.Ext.refl _ | with_reducible assumption | with_reducible refine K.Ext.drew ?_ | with_reducible refine K.Ext.alloc ?_ _ | with_reducible refine K.Ext.setCell ?_ ?_ _ | with_reducible refine K.Ext.trans ?_ (by with_reducible assumption) | (dsimp only; omega) | omega | exact K.Ext.refl _ | assumption | apply K.Ext.drew | refine K.Ext.alloc ?_ _ | refine K.Ext.setCell ?_ ?_ _ | (simp; done) | (simp; omega) | refine K.Ext.trans ?_ (by assumption))))⟩
          case measure => simp [intOf]; omega
      · obtain rfl : k = vs.length := by omega
        have hx := HX.out
        have s1 : w.heap.size + 1 ≤ wr.heap.size := (by have h_ := hx.size; (try simp at h_); omega)
        have X1 := K.Ext.trans (K.Ext.alloc X0 _) hx
        obtain ⟨c1_0_0, c1_0_1, c1_0_2, c1_0_3, c1_0_4, c1_0_5, c1_0_6, c1_0_7⟩ := K.c8 hx (w.heap.size) (.int .i64 E.L.dg) (.int .i64 E.L.tn) (.string E.L.nm) (.slice oEL E.L.pw.length cEL) (.int .i64 E.R.dg) (.int .i64 E.R.tn) (.string E.R.nm) (.slice oER E.R.pw.length cER) (by go_simp)
        have z1_0 : w.heap.size < wr.heap.size := World.block_lt_of_cell? wr _ c1_0_0
        have d1_0 : ¬ (w.heap.size = wr.heap.size) := (by omega)
        have e1_0 : ¬ (wr.heap.size = w.heap.size) := (by omega)
        have F1_1 := K.ints.ext (K.ints.alloc hEL_ _) hx
        have F2_1 := K.ints.ext (K.ints.alloc hER_ _) hx
        have F3_1 := K.recs.ext (K.recs.alloc hvs_ _) hx
        clear hEL_ hER_ hvs_
        go_wp2_with (go_at_call 116; refine K.call (by with_reducible rfl) (by with_reducible rfl) (spec_IsEquation E _ hmEL hnEL hmER hnER (F1_1) (F2_1)) ?_; rintro e w2 ⟨rfl, x2⟩; have s2 : wr.heap.size ≤ w2.heap.size := (by have h_ := x2.size; (try simp at h_); omega); have X2 := K.Ext.trans (X1) x2; obtain ⟨c2_0_0, c2_0_1, c2_0_2, c2_0_3, c2_0_4, c2_0_5, c2_0_6, c2_0_7⟩ := K.c8 x2 (w.heap.size) (.int .i64 E.L.dg) (.int .i64 E.L.tn) (.string E.L.nm) (.slice oEL E.L.pw.length cEL) (.int .i64 E.R.dg) (.int .i64 E.R.tn) (.string E.R.nm) (.slice oER E.R.pw.length cER) (by go_simp); have z2_0 : w.heap.size < w2.heap.size := World.block_lt_of_cell? w2 _ c2_0_0; have d2_0 : ¬ (w.heap.size = w2.heap.size) := (by omega); have e2_0 : ¬ (w2.heap.size = w.heap.size) := (by omega); have F1_2 := K.ints.ext (F1_1) x2; have F2_2 := K.ints.ext (F2_1) x2; have F3_2 := K.recs.ext (F3_1) x2; clear c1_0_0 c1_0_1 c1_0_2 c1_0_3 c1_0_4 c1_0_5 c1_0_6 c1_0_7 z1_0 d1_0 e1_0 F1_1 F2_1 F3_1)
        go_wp2_with (go_at_call 112; refine K.call (by with_reducible rfl) (by with_reducible rfl) (HW _) ?_; rintro e w_ ⟨rfl, rfl⟩)
        rw [HE.out]
        refine bodyPost_ret (v := .tuple #[.bool false, .int .i64 2]) (by unfold results; rw [Try.results33]; go_simp) rfl ⟨rfl, ?_⟩
        repeat with_reducible refine K.Ext.setCell ?_ (by dsimp only; omega) _
        exact (by repeat' (first | with_reducible exact X2 | with_reducible refine K.Ext.setCell ?_ ?_ _ | with_reducible refine K.Ext.alloc ?_ _ | with_reducible refine K.Ext.drew ?_ | (dsimp only; omega) | omega | (simp; omega)))
  have hwi : (decide (0 ≤ u) && decide (u ≤ 1048576)) = true := by rw [Bool.and_eq_true]; simp only [decide_eq_true_eq]; omega
  have HW : ∀ w : World, Calls Try.prog 112 #[.int .i64 u, .int .i64 0, .int .i64 1048576] w fun e w' => e = .returned (.bool true) ∧ w = w' := fun w => by rw [← hwi]; exact l01In_any _ _ _ _
  have hv10 : vs.length ≤ 1000000 := by omega
  obtain ⟨P, hP⟩ : ∃ P, P = Z.valuesFor E.L N vs := ⟨_, rfl⟩
  obtain ⟨Q, hQ⟩ : ∃ Q, Q = Z.valuesFor E.R N vs := ⟨_, rfl⟩
  have le6 := Z.isEquation_len vE
  have HP : ∀ {a b : Nat} {p v : Value} (w : World), K.recs false K.FgR w a b v vs → Calls Try.prog 117 #[.agg #[.int .i64 E.L.dg, .int .i64 E.L.tn, .string E.L.nm, p], .string N, v] w fun e w' => (∃ v', e = .returned (.tuple #[v', .bool P.2]) ∧ K.recs false K.FgR w' w.heap.size w'.heap.size v' P.1) ∧ K.Ext w w' := fun w h => by rw [hP]; exact l20Values_any E.L N vs w (by omega) hNl hv10 h
  have HQ : ∀ {a b : Nat} {p v : Value} (w : World), K.recs false K.FgR w a b v vs → Calls Try.prog 117 #[.agg #[.int .i64 E.R.dg, .int .i64 E.R.tn, .string E.R.nm, p], .string N, v] w fun e w' => (∃ v', e = .returned (.tuple #[v', .bool Q.2]) ∧ K.recs false K.FgR w' w.heap.size w'.heap.size v' Q.1) ∧ K.Ext w w' := fun w h => by rw [hQ]; exact l20Values_any E.R N vs w (by omega) hNl hv10 h
  have HMs : Hid ((P.2 && Q.2) = false → Z.CheckValues E N vs u = (false, 4)) := Z.hide (fun h => Z.Check_miss hck hu (by rw [← hP, ← hQ]; exact h))
  have HOk : Hid ((P.2 && Q.2) = true → Z.CheckValues E N vs u = (Z.meets (Z.lg E.L P.1) (Z.lg E.R Q.1) u, 0)) := Z.hide (fun h => by rw [hP, hQ] at h ⊢; exact Z.Check_ok hck hu h)
  have hPp : P.2 = true → P.1.length = E.L.nm.size ∧ Z.areFigs P.1 = true := fun h => by rw [hP] at h ⊢; exact Z.valuesFor_parts vV hNl h
  have hQp : Q.2 = true → Q.1.length = E.R.nm.size ∧ Z.areFigs Q.1 = true := fun h => by rw [hQ] at h ⊢; exact Z.valuesFor_parts vV hNl h
  obtain ⟨vEL, vER⟩ := Z.isEquation_parts vE
  clear hP hQ hck hwi hv10 le6
  obtain ⟨l1, b1⟩ := P
  obtain ⟨l2, b2⟩ := Q
  dsimp only at HP HQ HMs HOk hPp hQp
  cases b1
  · have HE : Hid (Z.CheckValues E N vs u = (false, 4)) := Z.hide (HMs.out rfl)
    clear hPp hQp HOk vEL vER
    have X0 : K.Ext w w := K.Ext.refl w
    go_enter Try.func33, Try.ntmps33
    go_wp2
    go_loopw [10] (fun i wr => ∃ k : Nat, k ≤ vs.length ∧ i = .int .i64 k ∧ Hid (Z.areFigs (vs.take k) = true) ∧ Hid (K.Ext (w.alloc (.cells #[.int .i64 E.L.dg, .int .i64 E.L.tn, .string E.L.nm, .slice oEL E.L.pw.length cEL, .int .i64 E.R.dg, .int .i64 E.R.tn, .string E.R.nm, .slice oER E.R.pw.length cER] 54)) wr)) (fun i _ => vs.length - (intOf i).toNat)
    case atStart => exact ⟨0, Nat.zero_le _, rfl, Z.hide rfl, Z.hide (K.Ext.refl _)⟩
    case round =>
      obtain ⟨k, hk, rfl, HA, HX⟩ := hrel
      by_cases hlt : k < vs.length
      · obtain ⟨b, off, rfl, _, _, hc⟩ := (K.figs_of_recs HV.out).at_ (by omega)
        have HXw := Z.hide (K.Ext.trans ((K.Ext.refl w).alloc _) HX.out)
        have hc1 := HXw.out.cell_of (hc k hlt).1
        have hc2 := HXw.out.cell_of (hc k hlt).2
        have i0 : (0 : Int) ≤ (k : Int) := Int.natCast_nonneg k
        have i1 : (k : Int) < (vs.length : Int) := by omega
        have HS := Z.hide (Z.figs_succ vs k hlt)
        have HB := Z.hide (Z.figs_bad vs k hlt)
        clear hc
        generalize vs.getD k (0, 0) = f at *
        cases hf : Z.isFig f.1 f.2
        · have hq_ := HB.out hf; rw [vV] at hq_; cases hq_
        · have HF : Hid (Z.areFigs (vs.take (k + 1)) = true) := Z.hide (by rw [HS.out, HA.out, hf]; rfl)
          go_wp2_with ((go_at_call 115; refine K.call (by with_reducible rfl) (by with_reducible rfl) (spec_IsFigure f.1 f.2 _) ?_; rintro e w1 ⟨rfl, hw1⟩; obtain ⟨hcw1, hfw1⟩ := hw1.facts))
          go_roundw
          case rel => exact ⟨k + 1, by omega, by go_num, HF, Z.hide (K.Ext.trans HX.out (by repeat' (first | with_reducible exact K.Ext.refl _ | with_reducible assumption | with_reducible refine K.Ext.drew ?_ | with_reducible refine K.Ext.alloc ?_ _ | with_reducible refine K.Ext.setCell ?_ ?_ _ | with_reducible refine K.Ext.trans ?_ (by with_reducible assumption) | (dsimp only; omega) | omega | exact K.Ext.refl _ | assumption | apply K.Ext.drew | refine K.Ext.alloc ?_ _ | refine K.Ext.setCell ?_ ?_ _ | (simp; done) | (simp; omega) | refine K.Ext.trans ?_ (by assumption))))⟩
          case measure => simp [intOf]; omega
      · obtain rfl : k = vs.length := by omega
        have hx := HX.out
        have s1 : w.heap.size + 1 ≤ wr.heap.size := (by have h_ := hx.size; (try simp at h_); omega)
        have X1 := K.Ext.trans (K.Ext.alloc X0 _) hx
        obtain ⟨c1_0_0, c1_0_1, c1_0_2, c1_0_3, c1_0_4, c1_0_5, c1_0_6, c1_0_7⟩ := K.c8 hx (w.heap.size) (.int .i64 E.L.dg) (.int .i64 E.L.tn) (.string E.L.nm) (.slice oEL E.L.pw.length cEL) (.int .i64 E.R.dg) (.int .i64 E.R.tn) (.string E.R.nm) (.slice oER E.R.pw.length cER) (by go_simp)
        have z1_0 : w.heap.size < wr.heap.size := World.block_lt_of_cell? wr _ c1_0_0
        have d1_0 : ¬ (w.heap.size = wr.heap.size) := (by omega)
        have e1_0 : ¬ (wr.heap.size = w.heap.size) := (by omega)
        have F1_1 := K.ints.ext (K.ints.alloc hEL_ _) hx
        have F2_1 := K.ints.ext (K.ints.alloc hER_ _) hx
        have F3_1 := K.recs.ext (K.recs.alloc hvs_ _) hx
        clear hEL_ hER_ hvs_
        go_wp2_with (go_at_call 116; refine K.call (by with_reducible rfl) (by with_reducible rfl) (spec_IsEquation E _ hmEL hnEL hmER hnER (F1_1) (F2_1)) ?_; rintro e w2 ⟨rfl, x2⟩; have s2 : wr.heap.size ≤ w2.heap.size := (by have h_ := x2.size; (try simp at h_); omega); have X2 := K.Ext.trans (X1) x2; obtain ⟨c2_0_0, c2_0_1, c2_0_2, c2_0_3, c2_0_4, c2_0_5, c2_0_6, c2_0_7⟩ := K.c8 x2 (w.heap.size) (.int .i64 E.L.dg) (.int .i64 E.L.tn) (.string E.L.nm) (.slice oEL E.L.pw.length cEL) (.int .i64 E.R.dg) (.int .i64 E.R.tn) (.string E.R.nm) (.slice oER E.R.pw.length cER) (by go_simp); have z2_0 : w.heap.size < w2.heap.size := World.block_lt_of_cell? w2 _ c2_0_0; have d2_0 : ¬ (w.heap.size = w2.heap.size) := (by omega); have e2_0 : ¬ (w2.heap.size = w.heap.size) := (by omega); have F1_2 := K.ints.ext (F1_1) x2; have F2_2 := K.ints.ext (F2_1) x2; have F3_2 := K.recs.ext (F3_1) x2; clear c1_0_0 c1_0_1 c1_0_2 c1_0_3 c1_0_4 c1_0_5 c1_0_6 c1_0_7 z1_0 d1_0 e1_0 F1_1 F2_1 F3_1)
        go_wp2_with (go_at_call 112; refine K.call (by with_reducible rfl) (by with_reducible rfl) (HW _) ?_; rintro e w_ ⟨rfl, rfl⟩)
        go_wp2_with (go_at_call 117; refine K.call (by with_reducible rfl) (by with_reducible rfl) (HP _ (F3_2)) ?_; rintro e w4 ⟨⟨p4, rfl, g4⟩, x4⟩; obtain ⟨o4, k4, rfl, _⟩ := K.recs.mono g4 (Nat.le_refl _) (Nat.le_refl _); have F4_4 : K.recs false K.FgR w4 (w2.heap.size) (w4.heap.size) (.slice o4 ((l1, false).1).length k4) (((l1, false).1)) := g4.mono (by simp) (Nat.le_refl _); clear g4; have s4 : w2.heap.size ≤ w4.heap.size := (by have h_ := x4.size; (try simp at h_); omega); have X4 := K.Ext.trans (X2) x4; obtain ⟨c4_0_0, c4_0_1, c4_0_2, c4_0_3, c4_0_4, c4_0_5, c4_0_6, c4_0_7⟩ := K.c8 x4 (w.heap.size) (.int .i64 E.L.dg) (.int .i64 E.L.tn) (.string E.L.nm) (.slice oEL E.L.pw.length cEL) (.int .i64 E.R.dg) (.int .i64 E.R.tn) (.string E.R.nm) (.slice oER E.R.pw.length cER) (by go_simp); have z4_0 : w.heap.size < w4.heap.size := World.block_lt_of_cell? w4 _ c4_0_0; have d4_0 : ¬ (w.heap.size = w4.heap.size) := (by omega); have e4_0 : ¬ (w4.heap.size = w.heap.size) := (by omega); have F1_4 := K.ints.ext (F1_2) x4; have F2_4 := K.ints.ext (F2_2) x4; have F3_4 := K.recs.ext (F3_2) x4; clear c2_0_0 c2_0_1 c2_0_2 c2_0_3 c2_0_4 c2_0_5 c2_0_6 c2_0_7 z2_0 d2_0 e2_0 F1_2 F2_2 F3_2)
        go_wp2_with (go_at_call 117; refine K.call (by with_reducible rfl) (by with_reducible rfl) (HQ _ (F3_4)) ?_; rintro e w5 ⟨⟨p5, rfl, g5⟩, x5⟩; obtain ⟨o5, k5, rfl, _⟩ := K.recs.mono g5 (Nat.le_refl _) (Nat.le_refl _); have F5_5 : K.recs false K.FgR w5 (w4.heap.size) (w5.heap.size) (.slice o5 ((l2, b2).1).length k5) (((l2, b2).1)) := g5.mono (by simp) (Nat.le_refl _); clear g5; have s5 : w4.heap.size ≤ w5.heap.size := (by have h_ := x5.size; (try simp at h_); omega); have X5 := K.Ext.trans (X4) x5; obtain ⟨c5_0_0, c5_0_1, c5_0_2, c5_0_3, c5_0_4, c5_0_5, c5_0_6, c5_0_7⟩ := K.c8 x5 (w.heap.size) (.int .i64 E.L.dg) (.int .i64 E.L.tn) (.string E.L.nm) (.slice oEL E.L.pw.length cEL) (.int .i64 E.R.dg) (.int .i64 E.R.tn) (.string E.R.nm) (.slice oER E.R.pw.length cER) (by go_simp); have z5_0 : w.heap.size < w5.heap.size := World.block_lt_of_cell? w5 _ c5_0_0; have d5_0 : ¬ (w.heap.size = w5.heap.size) := (by omega); have e5_0 : ¬ (w5.heap.size = w.heap.size) := (by omega); have F1_5 := K.ints.ext (F1_4) x5; have F2_5 := K.ints.ext (F2_4) x5; have F3_5 := K.recs.ext (F3_4) x5; have F4_5 := K.recs.ext (F4_4) x5; clear c4_0_0 c4_0_1 c4_0_2 c4_0_3 c4_0_4 c4_0_5 c4_0_6 c4_0_7 z4_0 d4_0 e4_0 F1_4 F2_4 F3_4 F4_4)
        rw [HE.out]
        refine bodyPost_ret (v := .tuple #[.bool false, .int .i64 4]) (by unfold results; rw [Try.results33]; go_simp) rfl ⟨rfl, ?_⟩
        repeat with_reducible refine K.Ext.setCell ?_ (by dsimp only; omega) _
        exact (by repeat' (first | with_reducible exact X5 | with_reducible refine K.Ext.setCell ?_ ?_ _ | with_reducible refine K.Ext.alloc ?_ _ | with_reducible refine K.Ext.drew ?_ | (dsimp only; omega) | omega | (simp; omega)))
  cases b2
  · have HE : Hid (Z.CheckValues E N vs u = (false, 4)) := Z.hide (HMs.out rfl)
    clear hPp hQp HOk vEL vER
    have X0 : K.Ext w w := K.Ext.refl w
    go_enter Try.func33, Try.ntmps33
    go_wp2
    go_loopw [10] (fun i wr => ∃ k : Nat, k ≤ vs.length ∧ i = .int .i64 k ∧ Hid (Z.areFigs (vs.take k) = true) ∧ Hid (K.Ext (w.alloc (.cells #[.int .i64 E.L.dg, .int .i64 E.L.tn, .string E.L.nm, .slice oEL E.L.pw.length cEL, .int .i64 E.R.dg, .int .i64 E.R.tn, .string E.R.nm, .slice oER E.R.pw.length cER] 54)) wr)) (fun i _ => vs.length - (intOf i).toNat)
    case atStart => exact ⟨0, Nat.zero_le _, rfl, Z.hide rfl, Z.hide (K.Ext.refl _)⟩
    case round =>
      obtain ⟨k, hk, rfl, HA, HX⟩ := hrel
      by_cases hlt : k < vs.length
      · obtain ⟨b, off, rfl, _, _, hc⟩ := (K.figs_of_recs HV.out).at_ (by omega)
        have HXw := Z.hide (K.Ext.trans ((K.Ext.refl w).alloc _) HX.out)
        have hc1 := HXw.out.cell_of (hc k hlt).1
        have hc2 := HXw.out.cell_of (hc k hlt).2
        have i0 : (0 : Int) ≤ (k : Int) := Int.natCast_nonneg k
        have i1 : (k : Int) < (vs.length : Int) := by omega
        have HS := Z.hide (Z.figs_succ vs k hlt)
        have HB := Z.hide (Z.figs_bad vs k hlt)
        clear hc
        generalize vs.getD k (0, 0) = f at *
        cases hf : Z.isFig f.1 f.2
        · have hq_ := HB.out hf; rw [vV] at hq_; cases hq_
        · have HF : Hid (Z.areFigs (vs.take (k + 1)) = true) := Z.hide (by rw [HS.out, HA.out, hf]; rfl)
          go_wp2_with ((go_at_call 115; refine K.call (by with_reducible rfl) (by with_reducible rfl) (spec_IsFigure f.1 f.2 _) ?_; rintro e w1 ⟨rfl, hw1⟩; obtain ⟨hcw1, hfw1⟩ := hw1.facts))
          go_roundw
          case rel => exact ⟨k + 1, by omega, by go_num, HF, Z.hide (K.Ext.trans HX.out (by repeat' (first | with_reducible exact K.Ext.refl _ | with_reducible assumption | with_reducible refine K.Ext.drew ?_ | with_reducible refine K.Ext.alloc ?_ _ | with_reducible refine K.Ext.setCell ?_ ?_ _ | with_reducible refine K.Ext.trans ?_ (by with_reducible assumption) | (dsimp only; omega) | omega | exact K.Ext.refl _ | assumption | apply K.Ext.drew | refine K.Ext.alloc ?_ _ | refine K.Ext.setCell ?_ ?_ _ | (simp; done) | (simp; omega) | refine K.Ext.trans ?_ (by assumption))))⟩
          case measure => simp [intOf]; omega
      · obtain rfl : k = vs.length := by omega
        have hx := HX.out
        have s1 : w.heap.size + 1 ≤ wr.heap.size := (by have h_ := hx.size; (try simp at h_); omega)
        have X1 := K.Ext.trans (K.Ext.alloc X0 _) hx
        obtain ⟨c1_0_0, c1_0_1, c1_0_2, c1_0_3, c1_0_4, c1_0_5, c1_0_6, c1_0_7⟩ := K.c8 hx (w.heap.size) (.int .i64 E.L.dg) (.int .i64 E.L.tn) (.string E.L.nm) (.slice oEL E.L.pw.length cEL) (.int .i64 E.R.dg) (.int .i64 E.R.tn) (.string E.R.nm) (.slice oER E.R.pw.length cER) (by go_simp)
        have z1_0 : w.heap.size < wr.heap.size := World.block_lt_of_cell? wr _ c1_0_0
        have d1_0 : ¬ (w.heap.size = wr.heap.size) := (by omega)
        have e1_0 : ¬ (wr.heap.size = w.heap.size) := (by omega)
        have F1_1 := K.ints.ext (K.ints.alloc hEL_ _) hx
        have F2_1 := K.ints.ext (K.ints.alloc hER_ _) hx
        have F3_1 := K.recs.ext (K.recs.alloc hvs_ _) hx
        clear hEL_ hER_ hvs_
        go_wp2_with (go_at_call 116; refine K.call (by with_reducible rfl) (by with_reducible rfl) (spec_IsEquation E _ hmEL hnEL hmER hnER (F1_1) (F2_1)) ?_; rintro e w2 ⟨rfl, x2⟩; have s2 : wr.heap.size ≤ w2.heap.size := (by have h_ := x2.size; (try simp at h_); omega); have X2 := K.Ext.trans (X1) x2; obtain ⟨c2_0_0, c2_0_1, c2_0_2, c2_0_3, c2_0_4, c2_0_5, c2_0_6, c2_0_7⟩ := K.c8 x2 (w.heap.size) (.int .i64 E.L.dg) (.int .i64 E.L.tn) (.string E.L.nm) (.slice oEL E.L.pw.length cEL) (.int .i64 E.R.dg) (.int .i64 E.R.tn) (.string E.R.nm) (.slice oER E.R.pw.length cER) (by go_simp); have z2_0 : w.heap.size < w2.heap.size := World.block_lt_of_cell? w2 _ c2_0_0; have d2_0 : ¬ (w.heap.size = w2.heap.size) := (by omega); have e2_0 : ¬ (w2.heap.size = w.heap.size) := (by omega); have F1_2 := K.ints.ext (F1_1) x2; have F2_2 := K.ints.ext (F2_1) x2; have F3_2 := K.recs.ext (F3_1) x2; clear c1_0_0 c1_0_1 c1_0_2 c1_0_3 c1_0_4 c1_0_5 c1_0_6 c1_0_7 z1_0 d1_0 e1_0 F1_1 F2_1 F3_1)
        go_wp2_with (go_at_call 112; refine K.call (by with_reducible rfl) (by with_reducible rfl) (HW _) ?_; rintro e w_ ⟨rfl, rfl⟩)
        go_wp2_with (go_at_call 117; refine K.call (by with_reducible rfl) (by with_reducible rfl) (HP _ (F3_2)) ?_; rintro e w4 ⟨⟨p4, rfl, g4⟩, x4⟩; obtain ⟨o4, k4, rfl, _⟩ := K.recs.mono g4 (Nat.le_refl _) (Nat.le_refl _); have F4_4 : K.recs false K.FgR w4 (w2.heap.size) (w4.heap.size) (.slice o4 ((l1, true).1).length k4) (((l1, true).1)) := g4.mono (by simp) (Nat.le_refl _); clear g4; have s4 : w2.heap.size ≤ w4.heap.size := (by have h_ := x4.size; (try simp at h_); omega); have X4 := K.Ext.trans (X2) x4; obtain ⟨c4_0_0, c4_0_1, c4_0_2, c4_0_3, c4_0_4, c4_0_5, c4_0_6, c4_0_7⟩ := K.c8 x4 (w.heap.size) (.int .i64 E.L.dg) (.int .i64 E.L.tn) (.string E.L.nm) (.slice oEL E.L.pw.length cEL) (.int .i64 E.R.dg) (.int .i64 E.R.tn) (.string E.R.nm) (.slice oER E.R.pw.length cER) (by go_simp); have z4_0 : w.heap.size < w4.heap.size := World.block_lt_of_cell? w4 _ c4_0_0; have d4_0 : ¬ (w.heap.size = w4.heap.size) := (by omega); have e4_0 : ¬ (w4.heap.size = w.heap.size) := (by omega); have F1_4 := K.ints.ext (F1_2) x4; have F2_4 := K.ints.ext (F2_2) x4; have F3_4 := K.recs.ext (F3_2) x4; clear c2_0_0 c2_0_1 c2_0_2 c2_0_3 c2_0_4 c2_0_5 c2_0_6 c2_0_7 z2_0 d2_0 e2_0 F1_2 F2_2 F3_2)
        go_wp2_with (go_at_call 117; refine K.call (by with_reducible rfl) (by with_reducible rfl) (HQ _ (F3_4)) ?_; rintro e w5 ⟨⟨p5, rfl, g5⟩, x5⟩; obtain ⟨o5, k5, rfl, _⟩ := K.recs.mono g5 (Nat.le_refl _) (Nat.le_refl _); have F5_5 : K.recs false K.FgR w5 (w4.heap.size) (w5.heap.size) (.slice o5 ((l2, false).1).length k5) (((l2, false).1)) := g5.mono (by simp) (Nat.le_refl _); clear g5; have s5 : w4.heap.size ≤ w5.heap.size := (by have h_ := x5.size; (try simp at h_); omega); have X5 := K.Ext.trans (X4) x5; obtain ⟨c5_0_0, c5_0_1, c5_0_2, c5_0_3, c5_0_4, c5_0_5, c5_0_6, c5_0_7⟩ := K.c8 x5 (w.heap.size) (.int .i64 E.L.dg) (.int .i64 E.L.tn) (.string E.L.nm) (.slice oEL E.L.pw.length cEL) (.int .i64 E.R.dg) (.int .i64 E.R.tn) (.string E.R.nm) (.slice oER E.R.pw.length cER) (by go_simp); have z5_0 : w.heap.size < w5.heap.size := World.block_lt_of_cell? w5 _ c5_0_0; have d5_0 : ¬ (w.heap.size = w5.heap.size) := (by omega); have e5_0 : ¬ (w5.heap.size = w.heap.size) := (by omega); have F1_5 := K.ints.ext (F1_4) x5; have F2_5 := K.ints.ext (F2_4) x5; have F3_5 := K.recs.ext (F3_4) x5; have F4_5 := K.recs.ext (F4_4) x5; clear c4_0_0 c4_0_1 c4_0_2 c4_0_3 c4_0_4 c4_0_5 c4_0_6 c4_0_7 z4_0 d4_0 e4_0 F1_4 F2_4 F3_4 F4_4)
        rw [HE.out]
        refine bodyPost_ret (v := .tuple #[.bool false, .int .i64 4]) (by unfold results; rw [Try.results33]; go_simp) rfl ⟨rfl, ?_⟩
        repeat with_reducible refine K.Ext.setCell ?_ (by dsimp only; omega) _
        exact (by repeat' (first | with_reducible exact X5 | with_reducible refine K.Ext.setCell ?_ ?_ _ | with_reducible refine K.Ext.alloc ?_ _ | with_reducible refine K.Ext.drew ?_ | (dsimp only; omega) | omega | (simp; omega)))
  obtain ⟨p1, p2⟩ := hPp rfl
  obtain ⟨q1, q2⟩ := hQp rfl
  obtain ⟨a1, a2, a3⟩ := Z.lg_bd vEL p1 p2
  obtain ⟨b1, b2, b3⟩ := Z.lg_bd vER q1 q2
  obtain ⟨X, hX⟩ : ∃ X, X = Z.lg E.L l1 := ⟨_, rfl⟩
  obtain ⟨Y, hY⟩ : ∃ Y, Y = Z.lg E.R l2 := ⟨_, rfl⟩
  have H1 : ∀ {a b c d : Nat} {p v : Value} (w : World), K.ints w a b p E.L.pw → K.recs false K.FgR w c d v l1 → Calls Try.prog 118 #[.agg #[.int .i64 E.L.dg, .int .i64 E.L.tn, .string E.L.nm, p], v] w fun e w' => e = .returned (.agg #[.int .i64 X.1, .int .i64 X.2]) ∧ K.Ext w w' := fun w h h' => by rw [hX]; exact l18Log_any E.L l1 w vEL p1 p2 h h'
  have H2 : ∀ {a b c d : Nat} {p v : Value} (w : World), K.ints w a b p E.R.pw → K.recs false K.FgR w c d v l2 → Calls Try.prog 118 #[.agg #[.int .i64 E.R.dg, .int .i64 E.R.tn, .string E.R.nm, p], v] w fun e w' => e = .returned (.agg #[.int .i64 Y.1, .int .i64 Y.2]) ∧ K.Ext w w' := fun w h h' => by rw [hY]; exact l18Log_any E.R l2 w vER q1 q2 h h'
  rw [← hX] at a1 a2 a3
  rw [← hY] at b1 b2 b3
  have HE : Hid (Z.CheckValues E N vs u = (decide (max (X.1 - u) Y.1 ≤ min (X.2 + u) Y.2), 0)) := Z.hide (by rw [HOk.out rfl, ← hX, ← hY, Z.meets_eq a3 b3 hu.1])
  have q3 : IntKind.i64.wrap (X.1 - u) = X.1 - u := IntWalk.i64_in _ (by omega)
  have q4 : IntKind.i64.wrap (X.2 + u) = X.2 + u := IntWalk.i64_in _ (by omega)
  clear hX hY HMs HOk hPp hQp p1 p2 q1 q2 vEL vER
  have X0 : K.Ext w w := K.Ext.refl w
  go_enter Try.func33, Try.ntmps33
  go_wp2
  go_loopw [10] (fun i wr => ∃ k : Nat, k ≤ vs.length ∧ i = .int .i64 k ∧ Hid (Z.areFigs (vs.take k) = true) ∧ Hid (K.Ext (w.alloc (.cells #[.int .i64 E.L.dg, .int .i64 E.L.tn, .string E.L.nm, .slice oEL E.L.pw.length cEL, .int .i64 E.R.dg, .int .i64 E.R.tn, .string E.R.nm, .slice oER E.R.pw.length cER] 54)) wr)) (fun i _ => vs.length - (intOf i).toNat)
  case atStart => exact ⟨0, Nat.zero_le _, rfl, Z.hide rfl, Z.hide (K.Ext.refl _)⟩
  case round =>
    obtain ⟨k, hk, rfl, HA, HX⟩ := hrel
    by_cases hlt : k < vs.length
    · obtain ⟨b, off, rfl, _, _, hc⟩ := (K.figs_of_recs HV.out).at_ (by omega)
      have HXw := Z.hide (K.Ext.trans ((K.Ext.refl w).alloc _) HX.out)
      have hc1 := HXw.out.cell_of (hc k hlt).1
      have hc2 := HXw.out.cell_of (hc k hlt).2
      have i0 : (0 : Int) ≤ (k : Int) := Int.natCast_nonneg k
      have i1 : (k : Int) < (vs.length : Int) := by omega
      have HS := Z.hide (Z.figs_succ vs k hlt)
      have HB := Z.hide (Z.figs_bad vs k hlt)
      clear hc
      generalize vs.getD k (0, 0) = f at *
      cases hf : Z.isFig f.1 f.2
      · have hq_ := HB.out hf; rw [vV] at hq_; cases hq_
      · have HF : Hid (Z.areFigs (vs.take (k + 1)) = true) := Z.hide (by rw [HS.out, HA.out, hf]; rfl)
        go_wp2_with ((go_at_call 115; refine K.call (by with_reducible rfl) (by with_reducible rfl) (spec_IsFigure f.1 f.2 _) ?_; rintro e w1 ⟨rfl, hw1⟩; obtain ⟨hcw1, hfw1⟩ := hw1.facts))
        go_roundw
        case rel => exact ⟨k + 1, by omega, by go_num, HF, Z.hide (K.Ext.trans HX.out (by repeat' (first | with_reducible exact K.Ext.refl _ | with_reducible assumption | with_reducible refine K.Ext.drew ?_ | with_reducible refine K.Ext.alloc ?_ _ | with_reducible refine K.Ext.setCell ?_ ?_ _ | with_reducible refine K.Ext.trans ?_ (by with_reducible assumption) | (dsimp only; omega) | omega | exact K.Ext.refl _ | assumption | apply K.Ext.drew | refine K.Ext.alloc ?_ _ | refine K.Ext.setCell ?_ ?_ _ | (simp; done) | (simp; omega) | refine K.Ext.trans ?_ (by assumption))))⟩
        case measure => simp [intOf]; omega
    · obtain rfl : k = vs.length := by omega
      have hx := HX.out
      have s1 : w.heap.size + 1 ≤ wr.heap.size := (by have h_ := hx.size; (try simp at h_); omega)
      have X1 := K.Ext.trans (K.Ext.alloc X0 _) hx
      obtain ⟨c1_0_0, c1_0_1, c1_0_2, c1_0_3, c1_0_4, c1_0_5, c1_0_6, c1_0_7⟩ := K.c8 hx (w.heap.size) (.int .i64 E.L.dg) (.int .i64 E.L.tn) (.string E.L.nm) (.slice oEL E.L.pw.length cEL) (.int .i64 E.R.dg) (.int .i64 E.R.tn) (.string E.R.nm) (.slice oER E.R.pw.length cER) (by go_simp)
      have z1_0 : w.heap.size < wr.heap.size := World.block_lt_of_cell? wr _ c1_0_0
      have d1_0 : ¬ (w.heap.size = wr.heap.size) := (by omega)
      have e1_0 : ¬ (wr.heap.size = w.heap.size) := (by omega)
      have F1_1 := K.ints.ext (K.ints.alloc hEL_ _) hx
      have F2_1 := K.ints.ext (K.ints.alloc hER_ _) hx
      have F3_1 := K.recs.ext (K.recs.alloc hvs_ _) hx
      clear hEL_ hER_ hvs_
      go_wp2_with (go_at_call 116; refine K.call (by with_reducible rfl) (by with_reducible rfl) (spec_IsEquation E _ hmEL hnEL hmER hnER (F1_1) (F2_1)) ?_; rintro e w2 ⟨rfl, x2⟩; have s2 : wr.heap.size ≤ w2.heap.size := (by have h_ := x2.size; (try simp at h_); omega); have X2 := K.Ext.trans (X1) x2; obtain ⟨c2_0_0, c2_0_1, c2_0_2, c2_0_3, c2_0_4, c2_0_5, c2_0_6, c2_0_7⟩ := K.c8 x2 (w.heap.size) (.int .i64 E.L.dg) (.int .i64 E.L.tn) (.string E.L.nm) (.slice oEL E.L.pw.length cEL) (.int .i64 E.R.dg) (.int .i64 E.R.tn) (.string E.R.nm) (.slice oER E.R.pw.length cER) (by go_simp); have z2_0 : w.heap.size < w2.heap.size := World.block_lt_of_cell? w2 _ c2_0_0; have d2_0 : ¬ (w.heap.size = w2.heap.size) := (by omega); have e2_0 : ¬ (w2.heap.size = w.heap.size) := (by omega); have F1_2 := K.ints.ext (F1_1) x2; have F2_2 := K.ints.ext (F2_1) x2; have F3_2 := K.recs.ext (F3_1) x2; clear c1_0_0 c1_0_1 c1_0_2 c1_0_3 c1_0_4 c1_0_5 c1_0_6 c1_0_7 z1_0 d1_0 e1_0 F1_1 F2_1 F3_1)
      go_wp2_with (go_at_call 112; refine K.call (by with_reducible rfl) (by with_reducible rfl) (HW _) ?_; rintro e w_ ⟨rfl, rfl⟩)
      go_wp2_with (go_at_call 117; refine K.call (by with_reducible rfl) (by with_reducible rfl) (HP _ (F3_2)) ?_; rintro e w4 ⟨⟨p4, rfl, g4⟩, x4⟩; obtain ⟨o4, k4, rfl, _⟩ := K.recs.mono g4 (Nat.le_refl _) (Nat.le_refl _); have F4_4 : K.recs false K.FgR w4 (w2.heap.size) (w4.heap.size) (.slice o4 ((l1, true).1).length k4) (((l1, true).1)) := g4.mono (by simp) (Nat.le_refl _); clear g4; have s4 : w2.heap.size ≤ w4.heap.size := (by have h_ := x4.size; (try simp at h_); omega); have X4 := K.Ext.trans (X2) x4; obtain ⟨c4_0_0, c4_0_1, c4_0_2, c4_0_3, c4_0_4, c4_0_5, c4_0_6, c4_0_7⟩ := K.c8 x4 (w.heap.size) (.int .i64 E.L.dg) (.int .i64 E.L.tn) (.string E.L.nm) (.slice oEL E.L.pw.length cEL) (.int .i64 E.R.dg) (.int .i64 E.R.tn) (.string E.R.nm) (.slice oER E.R.pw.length cER) (by go_simp); have z4_0 : w.heap.size < w4.heap.size := World.block_lt_of_cell? w4 _ c4_0_0; have d4_0 : ¬ (w.heap.size = w4.heap.size) := (by omega); have e4_0 : ¬ (w4.heap.size = w.heap.size) := (by omega); have F1_4 := K.ints.ext (F1_2) x4; have F2_4 := K.ints.ext (F2_2) x4; have F3_4 := K.recs.ext (F3_2) x4; clear c2_0_0 c2_0_1 c2_0_2 c2_0_3 c2_0_4 c2_0_5 c2_0_6 c2_0_7 z2_0 d2_0 e2_0 F1_2 F2_2 F3_2)
      go_wp2_with (go_at_call 117; refine K.call (by with_reducible rfl) (by with_reducible rfl) (HQ _ (F3_4)) ?_; rintro e w5 ⟨⟨p5, rfl, g5⟩, x5⟩; obtain ⟨o5, k5, rfl, _⟩ := K.recs.mono g5 (Nat.le_refl _) (Nat.le_refl _); have F5_5 : K.recs false K.FgR w5 (w4.heap.size) (w5.heap.size) (.slice o5 ((l2, true).1).length k5) (((l2, true).1)) := g5.mono (by simp) (Nat.le_refl _); clear g5; have s5 : w4.heap.size ≤ w5.heap.size := (by have h_ := x5.size; (try simp at h_); omega); have X5 := K.Ext.trans (X4) x5; obtain ⟨c5_0_0, c5_0_1, c5_0_2, c5_0_3, c5_0_4, c5_0_5, c5_0_6, c5_0_7⟩ := K.c8 x5 (w.heap.size) (.int .i64 E.L.dg) (.int .i64 E.L.tn) (.string E.L.nm) (.slice oEL E.L.pw.length cEL) (.int .i64 E.R.dg) (.int .i64 E.R.tn) (.string E.R.nm) (.slice oER E.R.pw.length cER) (by go_simp); have z5_0 : w.heap.size < w5.heap.size := World.block_lt_of_cell? w5 _ c5_0_0; have d5_0 : ¬ (w.heap.size = w5.heap.size) := (by omega); have e5_0 : ¬ (w5.heap.size = w.heap.size) := (by omega); have F1_5 := K.ints.ext (F1_4) x5; have F2_5 := K.ints.ext (F2_4) x5; have F3_5 := K.recs.ext (F3_4) x5; have F4_5 := K.recs.ext (F4_4) x5; clear c4_0_0 c4_0_1 c4_0_2 c4_0_3 c4_0_4 c4_0_5 c4_0_6 c4_0_7 z4_0 d4_0 e4_0 F1_4 F2_4 F3_4 F4_4)
      go_wp2_with fail
      refine K.wp_region_y (R := K.RE) 10 [0, 1, 0, 2, 0, 1, 0, 2, 2, 2] [K.SQ.any, K.SQ.any, K.SQ.any, K.SQ.is (.agg #[.int .i64 X.1, .int .i64 X.2]), K.SQ.any, K.SQ.any, K.SQ.any, K.SQ.is (.agg #[.int .i64 Y.1, .int .i64 Y.2]), K.SQ.new (w5.heap.size) (Nat.zero_le _) (.cells #[.int .i64 0, .int .i64 0] 135), K.SQ.new (w5.heap.size) (Nat.zero_le _) (.cells #[.int .i64 0, .int .i64 0] 135)] (by kernel_rfl) (by kernel_rfl) ?_
      simp only [List.take_succ_cons, List.take_zero, List.drop_succ_cons, List.drop_zero]
      apply K.y_pure
      · rfl
      · rfl
      · intro w'; go_simp; first | done | exact K.vint (IntWalk.i64_in _ (by omega)) | rfl | exact ⟨rfl, rfl⟩
      simp only [Act.put, List.setIfInBounds_toArray, List.set]
      apply K.y_held
      · rfl
      · rfl
      · intro w' hx; have hx : K.Ext _ _ := hx; have hc := hx.all.1.1; have hf := hx.all.1.2; have hc' := hx.all.2.1; have hf' := hx.all.2.2; go_simp; first | done | rfl | exact ⟨rfl, rfl⟩
      simp only [Act.put, List.setIfInBounds_toArray, List.set]
      apply K.y_pure
      · rfl
      · rfl
      · intro w'; go_simp; first | done | exact K.vint (IntWalk.i64_in _ (by omega)) | rfl | exact ⟨rfl, rfl⟩
      simp only [Act.put, List.setIfInBounds_toArray, List.set]
      apply K.y_call_is
      · rfl
      · rfl
      · rfl
      · intro w'; go_simp; first | done | rfl | exact ⟨rfl, rfl⟩
      · intro w' hx hp; have hx : K.Ext _ _ := hx; have hc := hx.all.1.1; have hf := hx.all.1.2; have hc' := hx.all.2.1; have hf' := hx.all.2.2; exact H1 _ (K.ints.ext (K.ints.drew (F1_5)) hx) (K.recs.ext (K.recs.drew (F4_5)) hx)
      intro w_3_ hx_3_
      replace hx_3_ : K.Ext _ _ := hx_3_
      simp only [Act.put, List.setIfInBounds_toArray, List.set]
      apply K.y_pure
      · rfl
      · rfl
      · intro w'; go_simp; first | done | exact K.vint (IntWalk.i64_in _ (by omega)) | rfl | exact ⟨rfl, rfl⟩
      simp only [Act.put, List.setIfInBounds_toArray, List.set]
      apply K.y_held
      · rfl
      · rfl
      · intro w' hx; have hx : K.Ext _ _ := hx; have hc := hx.all.1.1; have hf := hx.all.1.2; have hc' := hx.all.2.1; have hf' := hx.all.2.2; go_simp; first | done | rfl | exact ⟨rfl, rfl⟩
      simp only [Act.put, List.setIfInBounds_toArray, List.set]
      apply K.y_pure
      · rfl
      · rfl
      · intro w'; go_simp; first | done | exact K.vint (IntWalk.i64_in _ (by omega)) | rfl | exact ⟨rfl, rfl⟩
      simp only [Act.put, List.setIfInBounds_toArray, List.set]
      apply K.y_call_is
      · rfl
      · rfl
      · rfl
      · intro w'; go_simp; first | done | rfl | exact ⟨rfl, rfl⟩
      · intro w' hx hp; have hx : K.Ext _ _ := hx; have hc := hx.all.1.1; have hf := hx.all.1.2; have hc' := hx.all.2.1; have hf' := hx.all.2.2; exact H2 _ (K.ints.ext (K.ints.drew (F2_5)) hx) (K.recs.ext (K.recs.drew (F5_5)) hx)
      intro w_7_ hx_7_
      replace hx_7_ : K.Ext _ _ := hx_7_
      simp only [Act.put, List.setIfInBounds_toArray, List.set]
      apply K.y_new (Nat.zero_le _)
      · rfl
      · rfl
      · rfl
      · go_simp; first | done | omega
      · intro w'; go_simp; first | done | rfl | exact ⟨rfl, rfl⟩
      intro g14_8 w_8_ hx_8_ hg14_8 hb_8_ hn_8_
      replace hx_8_ : K.Ext _ _ := hx_8_
      clear hn_8_
      simp only [Act.put, List.setIfInBounds_toArray, List.set]
      apply K.y_new (Nat.zero_le _)
      · rfl
      · rfl
      · rfl
      · go_simp; first | done | omega
      · intro w'; go_simp; first | done | rfl | exact ⟨rfl, rfl⟩
      intro g14_9 w_9_ hx_9_ hg14_9 hb_9_ hn_9_
      replace hx_9_ : K.Ext _ _ := hx_9_
      have ne14_8_9 : ¬ (g14_8 = g14_9) := K.blk_ptr (hn_9_ 8 _ (by decide) rfl rfl rfl)
      have ne14_9_8 : ¬ (g14_9 = g14_8) := fun e => ne14_8_9 e.symm
      clear hn_9_
      simp only [Act.put, List.setIfInBounds_toArray, List.set]
      apply K.y_done
      intro w6 h_x
      replace h_x : K.Ext _ _ := h_x
      have x6 := hx_3_.trans (hx_7_.trans (hx_8_.trans (hx_9_.trans h_x)))
      have hb14_8 := K.Ext.block (hx_9_.trans h_x) hb_8_
      have cg14_8_0 : w6.cell? ⟨g14_8, 0, none⟩ = some (.int .i64 0) := K.cell_at hb14_8 rfl
      have fg14_8_0 : w6.frozen? ⟨g14_8, 0, none⟩ = false := K.thaw_at hb14_8
      have cg14_8_1 : w6.cell? ⟨g14_8, 1, none⟩ = some (.int .i64 0) := K.cell_at hb14_8 rfl
      have fg14_8_1 : w6.frozen? ⟨g14_8, 1, none⟩ = false := K.thaw_at hb14_8
      have hb14_9 := K.Ext.block (h_x) hb_9_
      have cg14_9_0 : w6.cell? ⟨g14_9, 0, none⟩ = some (.int .i64 0) := K.cell_at hb14_9 rfl
      have fg14_9_0 : w6.frozen? ⟨g14_9, 0, none⟩ = false := K.thaw_at hb14_9
      have cg14_9_1 : w6.cell? ⟨g14_9, 1, none⟩ = some (.int .i64 0) := K.cell_at hb14_9 rfl
      have fg14_9_1 : w6.frozen? ⟨g14_9, 1, none⟩ = false := K.thaw_at hb14_9
      clear h_x hx_3_ hx_7_ hx_8_ hx_9_
      obtain ⟨⟨hcw6, hfw6⟩, hc'w6, hf'w6⟩ := x6.all
      have s6 : w5.heap.size ≤ w6.heap.size := (by have h_ := x6.size; (try simp at h_); omega)
      have X6 := K.Ext.trans (K.Ext.drew (X5)) x6
      obtain ⟨c6_0_0, c6_0_1, c6_0_2, c6_0_3, c6_0_4, c6_0_5, c6_0_6, c6_0_7⟩ := K.c8 x6 (w.heap.size) (.int .i64 E.L.dg) (.int .i64 E.L.tn) (.string E.L.nm) (.slice oEL E.L.pw.length cEL) (.int .i64 E.R.dg) (.int .i64 E.R.tn) (.string E.R.nm) (.slice oER E.R.pw.length cER) (by go_simp)
      have z6_0 : w.heap.size < w6.heap.size := World.block_lt_of_cell? w6 _ c6_0_0
      have d6_0 : ¬ (w.heap.size = w6.heap.size) := (by omega)
      have e6_0 : ¬ (w6.heap.size = w.heap.size) := (by omega)
      have F1_6 := K.ints.ext (K.ints.drew (F1_5)) x6
      have F2_6 := K.ints.ext (K.ints.drew (F2_5)) x6
      have F3_6 := K.recs.ext (K.recs.drew (F3_5)) x6
      have F4_6 := K.recs.ext (K.recs.drew (F4_5)) x6
      have F5_6 := K.recs.ext (K.recs.drew (F5_5)) x6
      clear c5_0_0 c5_0_1 c5_0_2 c5_0_3 c5_0_4 c5_0_5 c5_0_6 c5_0_7 z5_0 d5_0 e5_0 F1_5 F2_5 F3_5 F4_5 F5_5
      have nng14_8_0 : ¬ (g14_8 = w.heap.size) := (by omega)
      have nmg14_8_0 : ¬ (w.heap.size = g14_8) := (by omega)
      have nng14_9_0 : ¬ (g14_9 = w.heap.size) := (by omega)
      have nmg14_9_0 : ¬ (w.heap.size = g14_9) := (by omega)
      go_wp2_with fail
      refine NoPanic.normal ?_
      go_wp2_with fail
      rw [HE.out]
      refine bodyPost_ret (v := .tuple #[.bool (decide (max (X.1 - u) Y.1 ≤ min (X.2 + u) Y.2)), .int .i64 0]) (by unfold results; rw [Try.results33]; go_simp) rfl ⟨rfl, ?_⟩
      repeat with_reducible refine K.Ext.setCell ?_ (by dsimp only; omega) _
      exact (by repeat' (first | with_reducible exact X6 | with_reducible refine K.Ext.setCell ?_ ?_ _ | with_reducible refine K.Ext.alloc ?_ _ | with_reducible refine K.Ext.drew ?_ | (dsimp only; omega) | omega | (simp; omega)))
end Go.Proofs.Ytphlppklhpaljaa
