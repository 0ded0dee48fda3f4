/-
  For every input the law FnExactTransferError returns true, and its arguments read as before. No condition.
-/
import Derived.Test.YtimpcelbekhipaaGreatPTE4
import Derived.Test.YtimpcelbekhipaaGreatRows
set_option linter.unusedVariables false
section
namespace Go.Z
def teF (X : (Int × Int) × Int) (E : (Int × Int) × (Int × Int) × Int) : Int × Int :=
  if ¬ X.2 = 0 then (0, X.2) else if ¬ E.2.2 = 0 then (0, E.2.2) else if 9000000 < relE X.1 E.1 ∨ 9000000 < relE X.1 E.2.1 then (0, 3) else (max (relE X.1 E.1) (relE X.1 E.2.1), 0)
noncomputable def teO (R : Rl) (fr to : Int) (f : Int × Int) : Int × Int := teF (cuO R fr to f) (xpO fr to f)
theorem figOr_valid {f : Int × Int} (h : (figOr f).2 = 0) : isFig (figOr f).1.1 (figOr f).1.2 = true := by
  unfold figOr at h ⊢
  cases hf : isFig f.1 f.2
  · rw [hf, if_neg (by decide)] at h; exact absurd h (by decide)
  · exact hf
theorem pl_valid {fr to : Int} {f rd : Int × Int} (h : (plO fr to f rd).2 = 0) : isFig (plO fr to f rd).1.1 (plO fr to f rd).1.2 = true := by
  unfold plO at h ⊢
  split at h
  · exact absurd h (by decide)
  rename_i h1
  split at h
  · exact absurd h (by decide)
  rename_i h2
  rw [if_neg h1, if_neg h2]
  exact figOr_valid h
theorem cu_valid {R : Rl} {fr to : Int} {f : Int × Int} (h : (cuO R fr to f).2 = 0) : isFig (cuO R fr to f).1.1 (cuO R fr to f).1.2 = true := by
  unfold cuO at h ⊢
  split at h
  · rename_i h1; rw [if_pos h1]; exact pl_valid h
  · rename_i h1; exact absurd h h1
theorem span_valid {a : Int × Int} (h : (spanOf a).2.2 = 0) : isFig (spanOf a).1.1 (spanOf a).1.2 = true ∧ isFig (spanOf a).2.1.1 (spanOf a).2.1.2 = true := by
  unfold spanOf at h ⊢
  cases h1 : (units a.1 && units a.2)
  · rw [h1, if_neg (by decide)] at h; exact absurd h (by decide)
  · rw [h1, if_pos rfl] at h
    cases h2 : (isFig (below a.1).1 (below a.1).2 && isFig (above a.2).1 (above a.2).2)
    · rw [h2, if_neg (by decide)] at h; exact absurd h (by decide)
    · rw [if_pos rfl, if_pos rfl]; exact Bool.and_eq_true_iff.1 h2
theorem xp_valid {fr to : Int} {f : Int × Int} (h : (xpO fr to f).2.2 = 0) : isFig (xpO fr to f).1.1 (xpO fr to f).1.2 = true ∧ isFig (xpO fr to f).2.1.1 (xpO fr to f).2.1.2 = true := by
  unfold xpO at h ⊢
  split at h
  · exact absurd h (by decide)
  rename_i h1
  split at h
  · exact absurd h (by decide)
  rename_i h2
  rw [if_neg h1, if_neg h2]
  exact span_valid h
end Go.Z
namespace Go.Proofs.YtimpcelbekhipaaGreat
open Go.RowKit
set_option maxHeartbeats 1600000 in
theorem impl_TransferError (R : Z.Rl) (fr : Int) (to : Int) (f : Int × Int) {loRL hiRL loRR hiRR : Nat} {pRL pRR : Value} (w : World)  (hmRL : R.st.length ≤ 1048576) (hRL : K.ints w loRL hiRL pRL R.st) (hcRL : K.roomy pRL R.st.length) (hmRR : R.sl.length ≤ 1048576) (hRR : K.ints w loRR hiRR pRR R.sl) (hcRR : K.roomy pRR R.sl.length) :
    Calls Tryz.prog 10 #[.agg #[.int .i64 R.ln, pRL, pRR], .int .i64 fr, .int .i64 to, .agg #[.int .i64 f.1, .int .i64 f.2]] w fun e w' => e = .returned (.tuple #[.int .i64 ((Z.teO R fr to f).1), .int .i64 ((Z.teO R fr to f).2)]) ∧ K.Ext w w' := by
  have hRL_ := hRL
  have shRL := hRL
  obtain ⟨oRL, cRL, rfl, _⟩ := shRL
  have hRR_ := hRR
  have shRR := hRR
  obtain ⟨oRR, cRR, rfl, _⟩ := shRR
  have HT : Hid (∀ (W : World), K.ints W loRL hiRL (.slice oRL R.st.length cRL) R.st → K.ints W loRR hiRR (.slice oRR R.sl.length cRR) R.sl → Calls Tryz.prog 40 #[.agg #[.int .i64 R.ln, .slice oRL R.st.length cRL, .slice oRR R.sl.length cRR], .int .i64 fr, .int .i64 to, .agg #[.int .i64 f.1, .int .i64 f.2]] W fun e w'' => e = .returned (.tuple #[.agg #[.int .i64 (Z.cuO R fr to f).1.1, .int .i64 (Z.cuO R fr to f).1.2], .int .i64 (Z.cuO R fr to f).2]) ∧ K.Ext W w'') := Z.hide (fun W k1 k2 => impl_placedT R fr to f W hmRL k1 hcRL hmRR k2 hcRR)
  have HX := Z.hide (fun w => impl_TransferExact fr to f w)
  have HV1 := Z.cu_valid (R := R) (fr := fr) (to := to) (f := f)
  have HV2 := Z.xp_valid (fr := fr) (to := to) (f := f)
  have HM : Hid (Z.teO R fr to f = Z.teF (Z.cuO R fr to f) (Z.xpO fr to f)) := Z.hide rfl
  obtain ⟨M, hM⟩ : ∃ M, Z.teO R fr to f = M := ⟨_, rfl⟩
  rw [hM] at HM ⊢
  clear hM
  generalize Z.cuO R fr to f = X at *
  generalize Z.xpO fr to f = E at *
  obtain ⟨x, c⟩ := X
  obtain ⟨lo, hi, d⟩ := E
  dsimp only at HT HX HV1 HV2
  by_cases hc : c = 0
  case neg =>
    have HE : Hid (M = (0, c)) := Z.hide (by rw [HM.out]; unfold Z.teF; rw [if_pos hc])
    have hc' : (c == 0) = false := by simpa using hc
    clear HM HV1 HV2
    have X0 : K.Ext w w := K.Ext.refl w
    go_enter Tryz.func10, Tryz.ntmps10
    go_wp2_with (go_at_call 40; refine K.call (by with_reducible rfl) (by with_reducible rfl) (HT.out _ (K.ints.alloc (K.ints.alloc hRL_ _) _) (K.ints.alloc (K.ints.alloc hRR_ _) _)) ?_; rintro e w1 ⟨rfl, x1⟩; have s1 : w.heap.size + 2 ≤ w1.heap.size := (by have h_ := x1.size; (try simp at h_); omega); have X1 := K.Ext.trans (K.Ext.alloc (K.Ext.alloc X0 _) _) x1; obtain ⟨c1_0_0, c1_0_1, c1_0_2⟩ := K.c3 x1 (w.heap.size) (.int .i64 R.ln) (.slice oRL R.st.length cRL) (.slice oRR R.sl.length cRR) (by go_simp); have z1_0 : w.heap.size < w1.heap.size := World.block_lt_of_cell? w1 _ c1_0_0; have d1_0 : ¬ (w.heap.size = w1.heap.size) := (by omega); have e1_0 : ¬ (w1.heap.size = w.heap.size) := (by omega); obtain ⟨c1_1_0, c1_1_1⟩ := K.c2 x1 (w.heap.size + 1) (.int .i64 f.1) (.int .i64 f.2) (by go_simp); have z1_1 : w.heap.size + 1 < w1.heap.size := World.block_lt_of_cell? w1 _ c1_1_0; have d1_1 : ¬ (w.heap.size + 1 = w1.heap.size) := (by omega); have e1_1 : ¬ (w1.heap.size = w.heap.size + 1) := (by omega); have n1_0 : ¬ (w.heap.size + 1 = w.heap.size) := (by omega); have n0_1 : ¬ (w.heap.size = w.heap.size + 1) := (by omega); have F1_1 := K.ints.ext (K.ints.alloc (K.ints.alloc hRL_ _) _) x1; have F2_1 := K.ints.ext (K.ints.alloc (K.ints.alloc hRR_ _) _) x1; clear hRL_ hRR_)
    rw [HE.out]
    refine bodyPost_ret (v := .tuple #[.int .i64 0, .int .i64 ((x, c).2)]) (by unfold results; rw [Tryz.results10]; go_simp) rfl ⟨rfl, ?_⟩
    repeat with_reducible refine K.Ext.setCell ?_ (by dsimp only; omega) _
    exact (by repeat' (first | with_reducible exact X1 | with_reducible refine K.Ext.setCell ?_ ?_ _ | with_reducible refine K.Ext.alloc ?_ _ | with_reducible refine K.Ext.drew ?_ | (dsimp only; omega) | omega | (simp; omega)))
  subst hc
  by_cases hd : d = 0
  case neg =>
    have HE : Hid (M = (0, d)) := Z.hide (by rw [HM.out]; unfold Z.teF; rw [if_neg (by simp), if_pos hd])
    have hd' : (d == 0) = false := by simpa using hd
    clear HM HV1 HV2
    have X0 : K.Ext w w := K.Ext.refl w
    go_enter Tryz.func10, Tryz.ntmps10
    go_wp2_with (go_at_call 40; refine K.call (by with_reducible rfl) (by with_reducible rfl) (HT.out _ (K.ints.alloc (K.ints.alloc hRL_ _) _) (K.ints.alloc (K.ints.alloc hRR_ _) _)) ?_; rintro e w1 ⟨rfl, x1⟩; have s1 : w.heap.size + 2 ≤ w1.heap.size := (by have h_ := x1.size; (try simp at h_); omega); have X1 := K.Ext.trans (K.Ext.alloc (K.Ext.alloc X0 _) _) x1; obtain ⟨c1_0_0, c1_0_1, c1_0_2⟩ := K.c3 x1 (w.heap.size) (.int .i64 R.ln) (.slice oRL R.st.length cRL) (.slice oRR R.sl.length cRR) (by go_simp); have z1_0 : w.heap.size < w1.heap.size := World.block_lt_of_cell? w1 _ c1_0_0; have d1_0 : ¬ (w.heap.size = w1.heap.size) := (by omega); have e1_0 : ¬ (w1.heap.size = w.heap.size) := (by omega); obtain ⟨c1_1_0, c1_1_1⟩ := K.c2 x1 (w.heap.size + 1) (.int .i64 f.1) (.int .i64 f.2) (by go_simp); have z1_1 : w.heap.size + 1 < w1.heap.size := World.block_lt_of_cell? w1 _ c1_1_0; have d1_1 : ¬ (w.heap.size + 1 = w1.heap.size) := (by omega); have e1_1 : ¬ (w1.heap.size = w.heap.size + 1) := (by omega); have n1_0 : ¬ (w.heap.size + 1 = w.heap.size) := (by omega); have n0_1 : ¬ (w.heap.size = w.heap.size + 1) := (by omega); have F1_1 := K.ints.ext (K.ints.alloc (K.ints.alloc hRL_ _) _) x1; have F2_1 := K.ints.ext (K.ints.alloc (K.ints.alloc hRR_ _) _) x1; clear hRL_ hRR_)
    go_wp2_with (go_at_call 34; refine K.call (by with_reducible rfl) (by with_reducible rfl) (HX.out _) ?_; rintro e w2 ⟨rfl, x2⟩; have s2 : w1.heap.size + 1 ≤ w2.heap.size := (by have h_ := x2.size; (try simp at h_); omega); have X2 := K.Ext.trans (K.Ext.alloc X1 _) x2; obtain ⟨c2_0_0, c2_0_1, c2_0_2⟩ := K.c3 x2 (w.heap.size) (.int .i64 R.ln) (.slice oRL R.st.length cRL) (.slice oRR R.sl.length cRR) (by go_simp); have z2_0 : w.heap.size < w2.heap.size := World.block_lt_of_cell? w2 _ c2_0_0; have d2_0 : ¬ (w.heap.size = w2.heap.size) := (by omega); have e2_0 : ¬ (w2.heap.size = w.heap.size) := (by omega); obtain ⟨c2_1_0, c2_1_1⟩ := K.c2 x2 (w.heap.size + 1) (.int .i64 f.1) (.int .i64 f.2) (by go_simp); have z2_1 : w.heap.size + 1 < w2.heap.size := World.block_lt_of_cell? w2 _ c2_1_0; have d2_1 : ¬ (w.heap.size + 1 = w2.heap.size) := (by omega); have e2_1 : ¬ (w2.heap.size = w.heap.size + 1) := (by omega); obtain ⟨c2_2_0, c2_2_1⟩ := K.c2 x2 (w1.heap.size) (.int .i64 ((x, (0 : Int)).1).1) (.int .i64 ((x, (0 : Int)).1).2) (by go_simp); obtain ⟨f2_2_0, f2_2_1⟩ := K.f2 x2 (w1.heap.size) (by go_simp); have z2_2 : w1.heap.size < w2.heap.size := World.block_lt_of_cell? w2 _ c2_2_0; have d2_2 : ¬ (w1.heap.size = w2.heap.size) := (by omega); have e2_2 : ¬ (w2.heap.size = w1.heap.size) := (by omega); have n2_0 : ¬ (w1.heap.size = w.heap.size) := (by omega); have n0_2 : ¬ (w.heap.size = w1.heap.size) := (by omega); have n2_1 : ¬ (w1.heap.size = w.heap.size + 1) := (by omega); have n1_2 : ¬ (w.heap.size + 1 = w1.heap.size) := (by omega); have F1_2 := K.ints.ext (K.ints.alloc F1_1 _) x2; have F2_2 := K.ints.ext (K.ints.alloc F2_1 _) x2; clear c1_0_0 c1_0_1 c1_0_2 z1_0 d1_0 e1_0 c1_1_0 c1_1_1 z1_1 d1_1 e1_1 F1_1 F2_1)
    rw [HE.out]
    refine bodyPost_ret (v := .tuple #[.int .i64 0, .int .i64 ((lo, hi, d).2.2)]) (by unfold results; rw [Tryz.results10]; go_simp) rfl ⟨rfl, ?_⟩
    repeat with_reducible refine K.Ext.setCell ?_ (by dsimp only; omega) _
    exact (by repeat' (first | with_reducible exact X2 | with_reducible refine K.Ext.setCell ?_ ?_ _ | with_reducible refine K.Ext.alloc ?_ _ | with_reducible refine K.Ext.drew ?_ | (dsimp only; omega) | omega | (simp; omega)))
  subst hd
  obtain ⟨⟨x1, x2⟩, x3, x4⟩ := Z.isFig_parts (HV1 rfl)
  obtain ⟨⟨l1, l2⟩, l3, l4⟩ := Z.isFig_parts (HV2 rfl).1
  obtain ⟨⟨h1, h2⟩, h3, h4⟩ := Z.isFig_parts (HV2 rfl).2
  have HA := Z.hide (fun w => relativeError_any x lo w x1 x2 ⟨x3, x4⟩ l1 l2 ⟨l3, l4⟩)
  have HB := Z.hide (fun w => relativeError_any x hi w x1 x2 ⟨x3, x4⟩ h1 h2 ⟨h3, h4⟩)
  have HR1 : Hid (Z.relO x lo = if 9000000 < Z.relE x lo then (0, 3) else (Z.relE x lo, 0)) := Z.hide rfl
  have HR2 : Hid (Z.relO x hi = if 9000000 < Z.relE x hi then (0, 3) else (Z.relE x hi, 0)) := Z.hide rfl
  have HM2 : Hid (M = if 9000000 < Z.relE x lo ∨ 9000000 < Z.relE x hi then (0, 3) else (max (Z.relE x lo) (Z.relE x hi), 0)) := Z.hide (by rw [HM.out]; unfold Z.teF; rw [if_neg (by simp), if_neg (by simp)])
  clear HV1 HV2 HM
  generalize Z.relE x lo = u at *
  generalize Z.relE x hi = v at *
  by_cases hu : 9000000 < u
  · rw [if_pos hu] at HR1
    rw [HR1.out] at HA
    rw [if_pos (.inl hu)] at HM2
    have X0 : K.Ext w w := K.Ext.refl w
    go_enter Tryz.func10, Tryz.ntmps10
    go_wp2_with (go_at_call 40; refine K.call (by with_reducible rfl) (by with_reducible rfl) (HT.out _ (K.ints.alloc (K.ints.alloc hRL_ _) _) (K.ints.alloc (K.ints.alloc hRR_ _) _)) ?_; rintro e w1 ⟨rfl, x1⟩; have s1 : w.heap.size + 2 ≤ w1.heap.size := (by have h_ := x1.size; (try simp at h_); omega); have X1 := K.Ext.trans (K.Ext.alloc (K.Ext.alloc X0 _) _) x1; obtain ⟨c1_0_0, c1_0_1, c1_0_2⟩ := K.c3 x1 (w.heap.size) (.int .i64 R.ln) (.slice oRL R.st.length cRL) (.slice oRR R.sl.length cRR) (by go_simp); have z1_0 : w.heap.size < w1.heap.size := World.block_lt_of_cell? w1 _ c1_0_0; have d1_0 : ¬ (w.heap.size = w1.heap.size) := (by omega); have e1_0 : ¬ (w1.heap.size = w.heap.size) := (by omega); obtain ⟨c1_1_0, c1_1_1⟩ := K.c2 x1 (w.heap.size + 1) (.int .i64 f.1) (.int .i64 f.2) (by go_simp); have z1_1 : w.heap.size + 1 < w1.heap.size := World.block_lt_of_cell? w1 _ c1_1_0; have d1_1 : ¬ (w.heap.size + 1 = w1.heap.size) := (by omega); have e1_1 : ¬ (w1.heap.size = w.heap.size + 1) := (by omega); have n1_0 : ¬ (w.heap.size + 1 = w.heap.size) := (by omega); have n0_1 : ¬ (w.heap.size = w.heap.size + 1) := (by omega); have F1_1 := K.ints.ext (K.ints.alloc (K.ints.alloc hRL_ _) _) x1; have F2_1 := K.ints.ext (K.ints.alloc (K.ints.alloc hRR_ _) _) x1; clear hRL_ hRR_)
    go_wp2_with (go_at_call 34; refine K.call (by with_reducible rfl) (by with_reducible rfl) (HX.out _) ?_; rintro e w2 ⟨rfl, x2⟩; have s2 : w1.heap.size + 1 ≤ w2.heap.size := (by have h_ := x2.size; (try simp at h_); omega); have X2 := K.Ext.trans (K.Ext.alloc X1 _) x2; obtain ⟨c2_0_0, c2_0_1, c2_0_2⟩ := K.c3 x2 (w.heap.size) (.int .i64 R.ln) (.slice oRL R.st.length cRL) (.slice oRR R.sl.length cRR) (by go_simp); have z2_0 : w.heap.size < w2.heap.size := World.block_lt_of_cell? w2 _ c2_0_0; have d2_0 : ¬ (w.heap.size = w2.heap.size) := (by omega); have e2_0 : ¬ (w2.heap.size = w.heap.size) := (by omega); obtain ⟨c2_1_0, c2_1_1⟩ := K.c2 x2 (w.heap.size + 1) (.int .i64 f.1) (.int .i64 f.2) (by go_simp); have z2_1 : w.heap.size + 1 < w2.heap.size := World.block_lt_of_cell? w2 _ c2_1_0; have d2_1 : ¬ (w.heap.size + 1 = w2.heap.size) := (by omega); have e2_1 : ¬ (w2.heap.size = w.heap.size + 1) := (by omega); obtain ⟨c2_2_0, c2_2_1⟩ := K.c2 x2 (w1.heap.size) (.int .i64 ((x, (0 : Int)).1).1) (.int .i64 ((x, (0 : Int)).1).2) (by go_simp); obtain ⟨f2_2_0, f2_2_1⟩ := K.f2 x2 (w1.heap.size) (by go_simp); have z2_2 : w1.heap.size < w2.heap.size := World.block_lt_of_cell? w2 _ c2_2_0; have d2_2 : ¬ (w1.heap.size = w2.heap.size) := (by omega); have e2_2 : ¬ (w2.heap.size = w1.heap.size) := (by omega); have n2_0 : ¬ (w1.heap.size = w.heap.size) := (by omega); have n0_2 : ¬ (w.heap.size = w1.heap.size) := (by omega); have n2_1 : ¬ (w1.heap.size = w.heap.size + 1) := (by omega); have n1_2 : ¬ (w.heap.size + 1 = w1.heap.size) := (by omega); have F1_2 := K.ints.ext (K.ints.alloc F1_1 _) x2; have F2_2 := K.ints.ext (K.ints.alloc F2_1 _) x2; clear c1_0_0 c1_0_1 c1_0_2 z1_0 d1_0 e1_0 c1_1_0 c1_1_1 z1_1 d1_1 e1_1 F1_1 F2_1)
    go_wp2_with (go_at_call 41; refine K.call (by with_reducible rfl) (by with_reducible rfl) (HA.out _) ?_; rintro e w3 ⟨rfl, x3⟩; have s3 : w2.heap.size + 2 ≤ w3.heap.size := (by have h_ := x3.size; (try simp at h_); omega); have X3 := K.Ext.trans (K.Ext.alloc (K.Ext.alloc X2 _) _) x3; obtain ⟨c3_0_0, c3_0_1, c3_0_2⟩ := K.c3 x3 (w.heap.size) (.int .i64 R.ln) (.slice oRL R.st.length cRL) (.slice oRR R.sl.length cRR) (by go_simp); have z3_0 : w.heap.size < w3.heap.size := World.block_lt_of_cell? w3 _ c3_0_0; have d3_0 : ¬ (w.heap.size = w3.heap.size) := (by omega); have e3_0 : ¬ (w3.heap.size = w.heap.size) := (by omega); obtain ⟨c3_1_0, c3_1_1⟩ := K.c2 x3 (w.heap.size + 1) (.int .i64 f.1) (.int .i64 f.2) (by go_simp); have z3_1 : w.heap.size + 1 < w3.heap.size := World.block_lt_of_cell? w3 _ c3_1_0; have d3_1 : ¬ (w.heap.size + 1 = w3.heap.size) := (by omega); have e3_1 : ¬ (w3.heap.size = w.heap.size + 1) := (by omega); obtain ⟨c3_2_0, c3_2_1⟩ := K.c2 x3 (w1.heap.size) (.int .i64 ((x, (0 : Int)).1).1) (.int .i64 ((x, (0 : Int)).1).2) (by go_simp); obtain ⟨f3_2_0, f3_2_1⟩ := K.f2 x3 (w1.heap.size) (by go_simp); have z3_2 : w1.heap.size < w3.heap.size := World.block_lt_of_cell? w3 _ c3_2_0; have d3_2 : ¬ (w1.heap.size = w3.heap.size) := (by omega); have e3_2 : ¬ (w3.heap.size = w1.heap.size) := (by omega); obtain ⟨c3_3_0, c3_3_1⟩ := K.c2 x3 (w2.heap.size) (.int .i64 ((lo, hi, (0 : Int)).1).1) (.int .i64 ((lo, hi, (0 : Int)).1).2) (by go_simp); obtain ⟨f3_3_0, f3_3_1⟩ := K.f2 x3 (w2.heap.size) (by go_simp); have z3_3 : w2.heap.size < w3.heap.size := World.block_lt_of_cell? w3 _ c3_3_0; have d3_3 : ¬ (w2.heap.size = w3.heap.size) := (by omega); have e3_3 : ¬ (w3.heap.size = w2.heap.size) := (by omega); have n3_0 : ¬ (w2.heap.size = w.heap.size) := (by omega); have n0_3 : ¬ (w.heap.size = w2.heap.size) := (by omega); have n3_1 : ¬ (w2.heap.size = w.heap.size + 1) := (by omega); have n1_3 : ¬ (w.heap.size + 1 = w2.heap.size) := (by omega); have n3_2 : ¬ (w2.heap.size = w1.heap.size) := (by omega); have n2_3 : ¬ (w1.heap.size = w2.heap.size) := (by omega); obtain ⟨c3_4_0, c3_4_1⟩ := K.c2 x3 (w2.heap.size + 1) (.int .i64 ((lo, hi, (0 : Int)).2.1).1) (.int .i64 ((lo, hi, (0 : Int)).2.1).2) (by go_simp); obtain ⟨f3_4_0, f3_4_1⟩ := K.f2 x3 (w2.heap.size + 1) (by go_simp); have z3_4 : w2.heap.size + 1 < w3.heap.size := World.block_lt_of_cell? w3 _ c3_4_0; have d3_4 : ¬ (w2.heap.size + 1 = w3.heap.size) := (by omega); have e3_4 : ¬ (w3.heap.size = w2.heap.size + 1) := (by omega); have n4_0 : ¬ (w2.heap.size + 1 = w.heap.size) := (by omega); have n0_4 : ¬ (w.heap.size = w2.heap.size + 1) := (by omega); have n4_1 : ¬ (w2.heap.size + 1 = w.heap.size + 1) := (by omega); have n1_4 : ¬ (w.heap.size + 1 = w2.heap.size + 1) := (by omega); have n4_2 : ¬ (w2.heap.size + 1 = w1.heap.size) := (by omega); have n2_4 : ¬ (w1.heap.size = w2.heap.size + 1) := (by omega); have n4_3 : ¬ (w2.heap.size + 1 = w2.heap.size) := (by omega); have n3_4 : ¬ (w2.heap.size = w2.heap.size + 1) := (by omega); have F1_3 := K.ints.ext (K.ints.alloc (K.ints.alloc F1_2 _) _) x3; have F2_3 := K.ints.ext (K.ints.alloc (K.ints.alloc F2_2 _) _) x3; clear c2_0_0 c2_0_1 c2_0_2 z2_0 d2_0 e2_0 c2_1_0 c2_1_1 z2_1 d2_1 e2_1 c2_2_0 c2_2_1 f2_2_0 f2_2_1 z2_2 d2_2 e2_2 F1_2 F2_2)
    rw [HM2.out]
    refine bodyPost_ret (v := .tuple #[.int .i64 0, .int .i64 (((0 : Int), (3 : Int)).2)]) (by unfold results; rw [Tryz.results10]; go_simp) rfl ⟨rfl, ?_⟩
    repeat with_reducible refine K.Ext.setCell ?_ (by dsimp only; omega) _
    exact (by repeat' (first | with_reducible exact X3 | with_reducible refine K.Ext.setCell ?_ ?_ _ | with_reducible refine K.Ext.alloc ?_ _ | with_reducible refine K.Ext.drew ?_ | (dsimp only; omega) | omega | (simp; omega)))
  rw [if_neg hu] at HR1
  rw [HR1.out] at HA
  by_cases hv : 9000000 < v
  · rw [if_pos hv] at HR2
    rw [HR2.out] at HB
    rw [if_pos (.inr hv)] at HM2
    have X0 : K.Ext w w := K.Ext.refl w
    go_enter Tryz.func10, Tryz.ntmps10
    go_wp2_with (go_at_call 40; refine K.call (by with_reducible rfl) (by with_reducible rfl) (HT.out _ (K.ints.alloc (K.ints.alloc hRL_ _) _) (K.ints.alloc (K.ints.alloc hRR_ _) _)) ?_; rintro e w1 ⟨rfl, x1⟩; have s1 : w.heap.size + 2 ≤ w1.heap.size := (by have h_ := x1.size; (try simp at h_); omega); have X1 := K.Ext.trans (K.Ext.alloc (K.Ext.alloc X0 _) _) x1; obtain ⟨c1_0_0, c1_0_1, c1_0_2⟩ := K.c3 x1 (w.heap.size) (.int .i64 R.ln) (.slice oRL R.st.length cRL) (.slice oRR R.sl.length cRR) (by go_simp); have z1_0 : w.heap.size < w1.heap.size := World.block_lt_of_cell? w1 _ c1_0_0; have d1_0 : ¬ (w.heap.size = w1.heap.size) := (by omega); have e1_0 : ¬ (w1.heap.size = w.heap.size) := (by omega); obtain ⟨c1_1_0, c1_1_1⟩ := K.c2 x1 (w.heap.size + 1) (.int .i64 f.1) (.int .i64 f.2) (by go_simp); have z1_1 : w.heap.size + 1 < w1.heap.size := World.block_lt_of_cell? w1 _ c1_1_0; have d1_1 : ¬ (w.heap.size + 1 = w1.heap.size) := (by omega); have e1_1 : ¬ (w1.heap.size = w.heap.size + 1) := (by omega); have n1_0 : ¬ (w.heap.size + 1 = w.heap.size) := (by omega); have n0_1 : ¬ (w.heap.size = w.heap.size + 1) := (by omega); have F1_1 := K.ints.ext (K.ints.alloc (K.ints.alloc hRL_ _) _) x1; have F2_1 := K.ints.ext (K.ints.alloc (K.ints.alloc hRR_ _) _) x1; clear hRL_ hRR_)
    go_wp2_with (go_at_call 34; refine K.call (by with_reducible rfl) (by with_reducible rfl) (HX.out _) ?_; rintro e w2 ⟨rfl, x2⟩; have s2 : w1.heap.size + 1 ≤ w2.heap.size := (by have h_ := x2.size; (try simp at h_); omega); have X2 := K.Ext.trans (K.Ext.alloc X1 _) x2; obtain ⟨c2_0_0, c2_0_1, c2_0_2⟩ := K.c3 x2 (w.heap.size) (.int .i64 R.ln) (.slice oRL R.st.length cRL) (.slice oRR R.sl.length cRR) (by go_simp); have z2_0 : w.heap.size < w2.heap.size := World.block_lt_of_cell? w2 _ c2_0_0; have d2_0 : ¬ (w.heap.size = w2.heap.size) := (by omega); have e2_0 : ¬ (w2.heap.size = w.heap.size) := (by omega); obtain ⟨c2_1_0, c2_1_1⟩ := K.c2 x2 (w.heap.size + 1) (.int .i64 f.1) (.int .i64 f.2) (by go_simp); have z2_1 : w.heap.size + 1 < w2.heap.size := World.block_lt_of_cell? w2 _ c2_1_0; have d2_1 : ¬ (w.heap.size + 1 = w2.heap.size) := (by omega); have e2_1 : ¬ (w2.heap.size = w.heap.size + 1) := (by omega); obtain ⟨c2_2_0, c2_2_1⟩ := K.c2 x2 (w1.heap.size) (.int .i64 ((x, (0 : Int)).1).1) (.int .i64 ((x, (0 : Int)).1).2) (by go_simp); obtain ⟨f2_2_0, f2_2_1⟩ := K.f2 x2 (w1.heap.size) (by go_simp); have z2_2 : w1.heap.size < w2.heap.size := World.block_lt_of_cell? w2 _ c2_2_0; have d2_2 : ¬ (w1.heap.size = w2.heap.size) := (by omega); have e2_2 : ¬ (w2.heap.size = w1.heap.size) := (by omega); have n2_0 : ¬ (w1.heap.size = w.heap.size) := (by omega); have n0_2 : ¬ (w.heap.size = w1.heap.size) := (by omega); have n2_1 : ¬ (w1.heap.size = w.heap.size + 1) := (by omega); have n1_2 : ¬ (w.heap.size + 1 = w1.heap.size) := (by omega); have F1_2 := K.ints.ext (K.ints.alloc F1_1 _) x2; have F2_2 := K.ints.ext (K.ints.alloc F2_1 _) x2; clear c1_0_0 c1_0_1 c1_0_2 z1_0 d1_0 e1_0 c1_1_0 c1_1_1 z1_1 d1_1 e1_1 F1_1 F2_1)
    go_wp2_with (go_at_call 41; refine K.call (by with_reducible rfl) (by with_reducible rfl) (HA.out _) ?_; rintro e w3 ⟨rfl, x3⟩; have s3 : w2.heap.size + 2 ≤ w3.heap.size := (by have h_ := x3.size; (try simp at h_); omega); have X3 := K.Ext.trans (K.Ext.alloc (K.Ext.alloc X2 _) _) x3; obtain ⟨c3_0_0, c3_0_1, c3_0_2⟩ := K.c3 x3 (w.heap.size) (.int .i64 R.ln) (.slice oRL R.st.length cRL) (.slice oRR R.sl.length cRR) (by go_simp); have z3_0 : w.heap.size < w3.heap.size := World.block_lt_of_cell? w3 _ c3_0_0; have d3_0 : ¬ (w.heap.size = w3.heap.size) := (by omega); have e3_0 : ¬ (w3.heap.size = w.heap.size) := (by omega); obtain ⟨c3_1_0, c3_1_1⟩ := K.c2 x3 (w.heap.size + 1) (.int .i64 f.1) (.int .i64 f.2) (by go_simp); have z3_1 : w.heap.size + 1 < w3.heap.size := World.block_lt_of_cell? w3 _ c3_1_0; have d3_1 : ¬ (w.heap.size + 1 = w3.heap.size) := (by omega); have e3_1 : ¬ (w3.heap.size = w.heap.size + 1) := (by omega); obtain ⟨c3_2_0, c3_2_1⟩ := K.c2 x3 (w1.heap.size) (.int .i64 ((x, (0 : Int)).1).1) (.int .i64 ((x, (0 : Int)).1).2) (by go_simp); obtain ⟨f3_2_0, f3_2_1⟩ := K.f2 x3 (w1.heap.size) (by go_simp); have z3_2 : w1.heap.size < w3.heap.size := World.block_lt_of_cell? w3 _ c3_2_0; have d3_2 : ¬ (w1.heap.size = w3.heap.size) := (by omega); have e3_2 : ¬ (w3.heap.size = w1.heap.size) := (by omega); obtain ⟨c3_3_0, c3_3_1⟩ := K.c2 x3 (w2.heap.size) (.int .i64 ((lo, hi, (0 : Int)).1).1) (.int .i64 ((lo, hi, (0 : Int)).1).2) (by go_simp); obtain ⟨f3_3_0, f3_3_1⟩ := K.f2 x3 (w2.heap.size) (by go_simp); have z3_3 : w2.heap.size < w3.heap.size := World.block_lt_of_cell? w3 _ c3_3_0; have d3_3 : ¬ (w2.heap.size = w3.heap.size) := (by omega); have e3_3 : ¬ (w3.heap.size = w2.heap.size) := (by omega); have n3_0 : ¬ (w2.heap.size = w.heap.size) := (by omega); have n0_3 : ¬ (w.heap.size = w2.heap.size) := (by omega); have n3_1 : ¬ (w2.heap.size = w.heap.size + 1) := (by omega); have n1_3 : ¬ (w.heap.size + 1 = w2.heap.size) := (by omega); have n3_2 : ¬ (w2.heap.size = w1.heap.size) := (by omega); have n2_3 : ¬ (w1.heap.size = w2.heap.size) := (by omega); obtain ⟨c3_4_0, c3_4_1⟩ := K.c2 x3 (w2.heap.size + 1) (.int .i64 ((lo, hi, (0 : Int)).2.1).1) (.int .i64 ((lo, hi, (0 : Int)).2.1).2) (by go_simp); obtain ⟨f3_4_0, f3_4_1⟩ := K.f2 x3 (w2.heap.size + 1) (by go_simp); have z3_4 : w2.heap.size + 1 < w3.heap.size := World.block_lt_of_cell? w3 _ c3_4_0; have d3_4 : ¬ (w2.heap.size + 1 = w3.heap.size) := (by omega); have e3_4 : ¬ (w3.heap.size = w2.heap.size + 1) := (by omega); have n4_0 : ¬ (w2.heap.size + 1 = w.heap.size) := (by omega); have n0_4 : ¬ (w.heap.size = w2.heap.size + 1) := (by omega); have n4_1 : ¬ (w2.heap.size + 1 = w.heap.size + 1) := (by omega); have n1_4 : ¬ (w.heap.size + 1 = w2.heap.size + 1) := (by omega); have n4_2 : ¬ (w2.heap.size + 1 = w1.heap.size) := (by omega); have n2_4 : ¬ (w1.heap.size = w2.heap.size + 1) := (by omega); have n4_3 : ¬ (w2.heap.size + 1 = w2.heap.size) := (by omega); have n3_4 : ¬ (w2.heap.size = w2.heap.size + 1) := (by omega); have F1_3 := K.ints.ext (K.ints.alloc (K.ints.alloc F1_2 _) _) x3; have F2_3 := K.ints.ext (K.ints.alloc (K.ints.alloc F2_2 _) _) x3; clear c2_0_0 c2_0_1 c2_0_2 z2_0 d2_0 e2_0 c2_1_0 c2_1_1 z2_1 d2_1 e2_1 c2_2_0 c2_2_1 f2_2_0 f2_2_1 z2_2 d2_2 e2_2 F1_2 F2_2)
    go_wp2_with (go_at_call 41; refine K.call (by with_reducible rfl) (by with_reducible rfl) (HB.out _) ?_; rintro e w4 ⟨rfl, x4⟩; have s4 : w3.heap.size ≤ w4.heap.size := (by have h_ := x4.size; (try simp at h_); omega); have X4 := K.Ext.trans (X3) x4; obtain ⟨c4_0_0, c4_0_1, c4_0_2⟩ := K.c3 x4 (w.heap.size) (.int .i64 R.ln) (.slice oRL R.st.length cRL) (.slice oRR R.sl.length cRR) (by go_simp); have z4_0 : w.heap.size < w4.heap.size := World.block_lt_of_cell? w4 _ c4_0_0; have d4_0 : ¬ (w.heap.size = w4.heap.size) := (by omega); have e4_0 : ¬ (w4.heap.size = w.heap.size) := (by omega); obtain ⟨c4_1_0, c4_1_1⟩ := K.c2 x4 (w.heap.size + 1) (.int .i64 f.1) (.int .i64 f.2) (by go_simp); have z4_1 : w.heap.size + 1 < w4.heap.size := World.block_lt_of_cell? w4 _ c4_1_0; have d4_1 : ¬ (w.heap.size + 1 = w4.heap.size) := (by omega); have e4_1 : ¬ (w4.heap.size = w.heap.size + 1) := (by omega); obtain ⟨c4_2_0, c4_2_1⟩ := K.c2 x4 (w1.heap.size) (.int .i64 ((x, (0 : Int)).1).1) (.int .i64 ((x, (0 : Int)).1).2) (by go_simp); obtain ⟨f4_2_0, f4_2_1⟩ := K.f2 x4 (w1.heap.size) (by go_simp); have z4_2 : w1.heap.size < w4.heap.size := World.block_lt_of_cell? w4 _ c4_2_0; have d4_2 : ¬ (w1.heap.size = w4.heap.size) := (by omega); have e4_2 : ¬ (w4.heap.size = w1.heap.size) := (by omega); obtain ⟨c4_3_0, c4_3_1⟩ := K.c2 x4 (w2.heap.size) (.int .i64 ((lo, hi, (0 : Int)).1).1) (.int .i64 ((lo, hi, (0 : Int)).1).2) (by go_simp); obtain ⟨f4_3_0, f4_3_1⟩ := K.f2 x4 (w2.heap.size) (by go_simp); have z4_3 : w2.heap.size < w4.heap.size := World.block_lt_of_cell? w4 _ c4_3_0; have d4_3 : ¬ (w2.heap.size = w4.heap.size) := (by omega); have e4_3 : ¬ (w4.heap.size = w2.heap.size) := (by omega); obtain ⟨c4_4_0, c4_4_1⟩ := K.c2 x4 (w2.heap.size + 1) (.int .i64 ((lo, hi, (0 : Int)).2.1).1) (.int .i64 ((lo, hi, (0 : Int)).2.1).2) (by go_simp); obtain ⟨f4_4_0, f4_4_1⟩ := K.f2 x4 (w2.heap.size + 1) (by go_simp); have z4_4 : w2.heap.size + 1 < w4.heap.size := World.block_lt_of_cell? w4 _ c4_4_0; have d4_4 : ¬ (w2.heap.size + 1 = w4.heap.size) := (by omega); have e4_4 : ¬ (w4.heap.size = w2.heap.size + 1) := (by omega); have F1_4 := K.ints.ext (F1_3) x4; have F2_4 := K.ints.ext (F2_3) x4; clear c3_0_0 c3_0_1 c3_0_2 z3_0 d3_0 e3_0 c3_1_0 c3_1_1 z3_1 d3_1 e3_1 c3_2_0 c3_2_1 f3_2_0 f3_2_1 z3_2 d3_2 e3_2 c3_3_0 c3_3_1 f3_3_0 f3_3_1 z3_3 d3_3 e3_3 c3_4_0 c3_4_1 f3_4_0 f3_4_1 z3_4 d3_4 e3_4 F1_3 F2_3)
    rw [HM2.out]
    refine bodyPost_ret (v := .tuple #[.int .i64 0, .int .i64 (((0 : Int), (3 : Int)).2)]) (by unfold results; rw [Tryz.results10]; go_simp) rfl ⟨rfl, ?_⟩
    repeat with_reducible refine K.Ext.setCell ?_ (by dsimp only; omega) _
    exact (by repeat' (first | with_reducible exact X4 | with_reducible refine K.Ext.setCell ?_ ?_ _ | with_reducible refine K.Ext.alloc ?_ _ | with_reducible refine K.Ext.drew ?_ | (dsimp only; omega) | omega | (simp; omega)))
  rw [if_neg hv] at HR2
  rw [HR2.out] at HB
  rw [if_neg (by omega)] at HM2
  have X0 : K.Ext w w := K.Ext.refl w
  go_enter Tryz.func10, Tryz.ntmps10
  go_wp2_with (go_at_call 40; refine K.call (by with_reducible rfl) (by with_reducible rfl) (HT.out _ (K.ints.alloc (K.ints.alloc hRL_ _) _) (K.ints.alloc (K.ints.alloc hRR_ _) _)) ?_; rintro e w1 ⟨rfl, x1⟩; have s1 : w.heap.size + 2 ≤ w1.heap.size := (by have h_ := x1.size; (try simp at h_); omega); have X1 := K.Ext.trans (K.Ext.alloc (K.Ext.alloc X0 _) _) x1; obtain ⟨c1_0_0, c1_0_1, c1_0_2⟩ := K.c3 x1 (w.heap.size) (.int .i64 R.ln) (.slice oRL R.st.length cRL) (.slice oRR R.sl.length cRR) (by go_simp); have z1_0 : w.heap.size < w1.heap.size := World.block_lt_of_cell? w1 _ c1_0_0; have d1_0 : ¬ (w.heap.size = w1.heap.size) := (by omega); have e1_0 : ¬ (w1.heap.size = w.heap.size) := (by omega); obtain ⟨c1_1_0, c1_1_1⟩ := K.c2 x1 (w.heap.size + 1) (.int .i64 f.1) (.int .i64 f.2) (by go_simp); have z1_1 : w.heap.size + 1 < w1.heap.size := World.block_lt_of_cell? w1 _ c1_1_0; have d1_1 : ¬ (w.heap.size + 1 = w1.heap.size) := (by omega); have e1_1 : ¬ (w1.heap.size = w.heap.size + 1) := (by omega); have n1_0 : ¬ (w.heap.size + 1 = w.heap.size) := (by omega); have n0_1 : ¬ (w.heap.size = w.heap.size + 1) := (by omega); have F1_1 := K.ints.ext (K.ints.alloc (K.ints.alloc hRL_ _) _) x1; have F2_1 := K.ints.ext (K.ints.alloc (K.ints.alloc hRR_ _) _) x1; clear hRL_ hRR_)
  go_wp2_with (go_at_call 34; refine K.call (by with_reducible rfl) (by with_reducible rfl) (HX.out _) ?_; rintro e w2 ⟨rfl, x2⟩; have s2 : w1.heap.size + 1 ≤ w2.heap.size := (by have h_ := x2.size; (try simp at h_); omega); have X2 := K.Ext.trans (K.Ext.alloc X1 _) x2; obtain ⟨c2_0_0, c2_0_1, c2_0_2⟩ := K.c3 x2 (w.heap.size) (.int .i64 R.ln) (.slice oRL R.st.length cRL) (.slice oRR R.sl.length cRR) (by go_simp); have z2_0 : w.heap.size < w2.heap.size := World.block_lt_of_cell? w2 _ c2_0_0; have d2_0 : ¬ (w.heap.size = w2.heap.size) := (by omega); have e2_0 : ¬ (w2.heap.size = w.heap.size) := (by omega); obtain ⟨c2_1_0, c2_1_1⟩ := K.c2 x2 (w.heap.size + 1) (.int .i64 f.1) (.int .i64 f.2) (by go_simp); have z2_1 : w.heap.size + 1 < w2.heap.size := World.block_lt_of_cell? w2 _ c2_1_0; have d2_1 : ¬ (w.heap.size + 1 = w2.heap.size) := (by omega); have e2_1 : ¬ (w2.heap.size = w.heap.size + 1) := (by omega); obtain ⟨c2_2_0, c2_2_1⟩ := K.c2 x2 (w1.heap.size) (.int .i64 ((x, (0 : Int)).1).1) (.int .i64 ((x, (0 : Int)).1).2) (by go_simp); obtain ⟨f2_2_0, f2_2_1⟩ := K.f2 x2 (w1.heap.size) (by go_simp); have z2_2 : w1.heap.size < w2.heap.size := World.block_lt_of_cell? w2 _ c2_2_0; have d2_2 : ¬ (w1.heap.size = w2.heap.size) := (by omega); have e2_2 : ¬ (w2.heap.size = w1.heap.size) := (by omega); have n2_0 : ¬ (w1.heap.size = w.heap.size) := (by omega); have n0_2 : ¬ (w.heap.size = w1.heap.size) := (by omega); have n2_1 : ¬ (w1.heap.size = w.heap.size + 1) := (by omega); have n1_2 : ¬ (w.heap.size + 1 = w1.heap.size) := (by omega); have F1_2 := K.ints.ext (K.ints.alloc F1_1 _) x2; have F2_2 := K.ints.ext (K.ints.alloc F2_1 _) x2; clear c1_0_0 c1_0_1 c1_0_2 z1_0 d1_0 e1_0 c1_1_0 c1_1_1 z1_1 d1_1 e1_1 F1_1 F2_1)
  go_wp2_with (go_at_call 41; refine K.call (by with_reducible rfl) (by with_reducible rfl) (HA.out _) ?_; rintro e w3 ⟨rfl, x3⟩; have s3 : w2.heap.size + 2 ≤ w3.heap.size := (by have h_ := x3.size; (try simp at h_); omega); have X3 := K.Ext.trans (K.Ext.alloc (K.Ext.alloc X2 _) _) x3; obtain ⟨c3_0_0, c3_0_1, c3_0_2⟩ := K.c3 x3 (w.heap.size) (.int .i64 R.ln) (.slice oRL R.st.length cRL) (.slice oRR R.sl.length cRR) (by go_simp); have z3_0 : w.heap.size < w3.heap.size := World.block_lt_of_cell? w3 _ c3_0_0; have d3_0 : ¬ (w.heap.size = w3.heap.size) := (by omega); have e3_0 : ¬ (w3.heap.size = w.heap.size) := (by omega); obtain ⟨c3_1_0, c3_1_1⟩ := K.c2 x3 (w.heap.size + 1) (.int .i64 f.1) (.int .i64 f.2) (by go_simp); have z3_1 : w.heap.size + 1 < w3.heap.size := World.block_lt_of_cell? w3 _ c3_1_0; have d3_1 : ¬ (w.heap.size + 1 = w3.heap.size) := (by omega); have e3_1 : ¬ (w3.heap.size = w.heap.size + 1) := (by omega); obtain ⟨c3_2_0, c3_2_1⟩ := K.c2 x3 (w1.heap.size) (.int .i64 ((x, (0 : Int)).1).1) (.int .i64 ((x, (0 : Int)).1).2) (by go_simp); obtain ⟨f3_2_0, f3_2_1⟩ := K.f2 x3 (w1.heap.size) (by go_simp); have z3_2 : w1.heap.size < w3.heap.size := World.block_lt_of_cell? w3 _ c3_2_0; have d3_2 : ¬ (w1.heap.size = w3.heap.size) := (by omega); have e3_2 : ¬ (w3.heap.size = w1.heap.size) := (by omega); obtain ⟨c3_3_0, c3_3_1⟩ := K.c2 x3 (w2.heap.size) (.int .i64 ((lo, hi, (0 : Int)).1).1) (.int .i64 ((lo, hi, (0 : Int)).1).2) (by go_simp); obtain ⟨f3_3_0, f3_3_1⟩ := K.f2 x3 (w2.heap.size) (by go_simp); have z3_3 : w2.heap.size < w3.heap.size := World.block_lt_of_cell? w3 _ c3_3_0; have d3_3 : ¬ (w2.heap.size = w3.heap.size) := (by omega); have e3_3 : ¬ (w3.heap.size = w2.heap.size) := (by omega); have n3_0 : ¬ (w2.heap.size = w.heap.size) := (by omega); have n0_3 : ¬ (w.heap.size = w2.heap.size) := (by omega); have n3_1 : ¬ (w2.heap.size = w.heap.size + 1) := (by omega); have n1_3 : ¬ (w.heap.size + 1 = w2.heap.size) := (by omega); have n3_2 : ¬ (w2.heap.size = w1.heap.size) := (by omega); have n2_3 : ¬ (w1.heap.size = w2.heap.size) := (by omega); obtain ⟨c3_4_0, c3_4_1⟩ := K.c2 x3 (w2.heap.size + 1) (.int .i64 ((lo, hi, (0 : Int)).2.1).1) (.int .i64 ((lo, hi, (0 : Int)).2.1).2) (by go_simp); obtain ⟨f3_4_0, f3_4_1⟩ := K.f2 x3 (w2.heap.size + 1) (by go_simp); have z3_4 : w2.heap.size + 1 < w3.heap.size := World.block_lt_of_cell? w3 _ c3_4_0; have d3_4 : ¬ (w2.heap.size + 1 = w3.heap.size) := (by omega); have e3_4 : ¬ (w3.heap.size = w2.heap.size + 1) := (by omega); have n4_0 : ¬ (w2.heap.size + 1 = w.heap.size) := (by omega); have n0_4 : ¬ (w.heap.size = w2.heap.size + 1) := (by omega); have n4_1 : ¬ (w2.heap.size + 1 = w.heap.size + 1) := (by omega); have n1_4 : ¬ (w.heap.size + 1 = w2.heap.size + 1) := (by omega); have n4_2 : ¬ (w2.heap.size + 1 = w1.heap.size) := (by omega); have n2_4 : ¬ (w1.heap.size = w2.heap.size + 1) := (by omega); have n4_3 : ¬ (w2.heap.size + 1 = w2.heap.size) := (by omega); have n3_4 : ¬ (w2.heap.size = w2.heap.size + 1) := (by omega); have F1_3 := K.ints.ext (K.ints.alloc (K.ints.alloc F1_2 _) _) x3; have F2_3 := K.ints.ext (K.ints.alloc (K.ints.alloc F2_2 _) _) x3; clear c2_0_0 c2_0_1 c2_0_2 z2_0 d2_0 e2_0 c2_1_0 c2_1_1 z2_1 d2_1 e2_1 c2_2_0 c2_2_1 f2_2_0 f2_2_1 z2_2 d2_2 e2_2 F1_2 F2_2)
  go_wp2_with (go_at_call 41; refine K.call (by with_reducible rfl) (by with_reducible rfl) (HB.out _) ?_; rintro e w4 ⟨rfl, x4⟩; have s4 : w3.heap.size ≤ w4.heap.size := (by have h_ := x4.size; (try simp at h_); omega); have X4 := K.Ext.trans (X3) x4; obtain ⟨c4_0_0, c4_0_1, c4_0_2⟩ := K.c3 x4 (w.heap.size) (.int .i64 R.ln) (.slice oRL R.st.length cRL) (.slice oRR R.sl.length cRR) (by go_simp); have z4_0 : w.heap.size < w4.heap.size := World.block_lt_of_cell? w4 _ c4_0_0; have d4_0 : ¬ (w.heap.size = w4.heap.size) := (by omega); have e4_0 : ¬ (w4.heap.size = w.heap.size) := (by omega); obtain ⟨c4_1_0, c4_1_1⟩ := K.c2 x4 (w.heap.size + 1) (.int .i64 f.1) (.int .i64 f.2) (by go_simp); have z4_1 : w.heap.size + 1 < w4.heap.size := World.block_lt_of_cell? w4 _ c4_1_0; have d4_1 : ¬ (w.heap.size + 1 = w4.heap.size) := (by omega); have e4_1 : ¬ (w4.heap.size = w.heap.size + 1) := (by omega); obtain ⟨c4_2_0, c4_2_1⟩ := K.c2 x4 (w1.heap.size) (.int .i64 ((x, (0 : Int)).1).1) (.int .i64 ((x, (0 : Int)).1).2) (by go_simp); obtain ⟨f4_2_0, f4_2_1⟩ := K.f2 x4 (w1.heap.size) (by go_simp); have z4_2 : w1.heap.size < w4.heap.size := World.block_lt_of_cell? w4 _ c4_2_0; have d4_2 : ¬ (w1.heap.size = w4.heap.size) := (by omega); have e4_2 : ¬ (w4.heap.size = w1.heap.size) := (by omega); obtain ⟨c4_3_0, c4_3_1⟩ := K.c2 x4 (w2.heap.size) (.int .i64 ((lo, hi, (0 : Int)).1).1) (.int .i64 ((lo, hi, (0 : Int)).1).2) (by go_simp); obtain ⟨f4_3_0, f4_3_1⟩ := K.f2 x4 (w2.heap.size) (by go_simp); have z4_3 : w2.heap.size < w4.heap.size := World.block_lt_of_cell? w4 _ c4_3_0; have d4_3 : ¬ (w2.heap.size = w4.heap.size) := (by omega); have e4_3 : ¬ (w4.heap.size = w2.heap.size) := (by omega); obtain ⟨c4_4_0, c4_4_1⟩ := K.c2 x4 (w2.heap.size + 1) (.int .i64 ((lo, hi, (0 : Int)).2.1).1) (.int .i64 ((lo, hi, (0 : Int)).2.1).2) (by go_simp); obtain ⟨f4_4_0, f4_4_1⟩ := K.f2 x4 (w2.heap.size + 1) (by go_simp); have z4_4 : w2.heap.size + 1 < w4.heap.size := World.block_lt_of_cell? w4 _ c4_4_0; have d4_4 : ¬ (w2.heap.size + 1 = w4.heap.size) := (by omega); have e4_4 : ¬ (w4.heap.size = w2.heap.size + 1) := (by omega); have F1_4 := K.ints.ext (F1_3) x4; have F2_4 := K.ints.ext (F2_3) x4; clear c3_0_0 c3_0_1 c3_0_2 z3_0 d3_0 e3_0 c3_1_0 c3_1_1 z3_1 d3_1 e3_1 c3_2_0 c3_2_1 f3_2_0 f3_2_1 z3_2 d3_2 e3_2 c3_3_0 c3_3_1 f3_3_0 f3_3_1 z3_3 d3_3 e3_3 c3_4_0 c3_4_1 f3_4_0 f3_4_1 z3_4 d3_4 e3_4 F1_3 F2_3)
  rw [HM2.out]
  refine bodyPost_ret (v := .tuple #[.int .i64 (max ((u, (0 : Int)).1) ((v, (0 : Int)).1)), .int .i64 0]) (by unfold results; rw [Tryz.results10]; go_simp) rfl ⟨rfl, ?_⟩
  repeat with_reducible refine K.Ext.setCell ?_ (by dsimp only; omega) _
  exact (by repeat' (first | with_reducible exact X4 | with_reducible refine K.Ext.setCell ?_ ?_ _ | with_reducible refine K.Ext.alloc ?_ _ | with_reducible refine K.Ext.drew ?_ | (dsimp only; omega) | omega | (simp; omega)))
set_option maxHeartbeats 1600000 in
theorem spec_TransferError (R : Z.Rl) (fr : Int) (to : Int) (f : Int × Int) {loRL hiRL loRR hiRR : Nat} {pRL pRR : Value} (w : World)  (hmRL : R.st.length ≤ 1048576) (hRL : K.ints w loRL hiRL pRL R.st) (hcRL : K.roomy pRL R.st.length) (hmRR : R.sl.length ≤ 1048576) (hRR : K.ints w loRR hiRR pRR R.sl) (hcRR : K.roomy pRR R.sl.length) :
    Calls Tryz.prog 7 #[.agg #[.int .i64 R.ln, pRL, pRR], .int .i64 fr, .int .i64 to, .agg #[.int .i64 f.1, .int .i64 f.2]] w fun e w' => e = .returned (.tuple #[.int .i64 ((Z.teO R fr to f).1), .int .i64 ((Z.teO R fr to f).2)]) ∧ K.Ext w w' := by
  have hRL_ := hRL
  have shRL := hRL
  obtain ⟨oRL, cRL, rfl, _⟩ := shRL
  have hRR_ := hRR
  have shRR := hRR
  obtain ⟨oRR, cRR, rfl, _⟩ := shRR
  have HT : Hid (∀ (W : World), K.ints W loRL hiRL (.slice oRL R.st.length cRL) R.st → K.ints W loRR hiRR (.slice oRR R.sl.length cRR) R.sl → Calls Tryz.prog 37 #[.agg #[.int .i64 R.ln, .slice oRL R.st.length cRL, .slice oRR R.sl.length cRR], .int .i64 fr, .int .i64 to, .agg #[.int .i64 f.1, .int .i64 f.2]] W fun e w'' => e = .returned (.tuple #[.agg #[.int .i64 (Z.cuO R fr to f).1.1, .int .i64 (Z.cuO R fr to f).1.2], .int .i64 (Z.cuO R fr to f).2]) ∧ K.Ext W w'') := Z.hide (fun W k1 k2 => spec_placedT R fr to f W hmRL k1 hcRL hmRR k2 hcRR)
  have HX := Z.hide (fun w => spec_TransferExact fr to f w)
  have HV1 := Z.cu_valid (R := R) (fr := fr) (to := to) (f := f)
  have HV2 := Z.xp_valid (fr := fr) (to := to) (f := f)
  have HM : Hid (Z.teO R fr to f = Z.teF (Z.cuO R fr to f) (Z.xpO fr to f)) := Z.hide rfl
  obtain ⟨M, hM⟩ : ∃ M, Z.teO R fr to f = M := ⟨_, rfl⟩
  rw [hM] at HM ⊢
  clear hM
  generalize Z.cuO R fr to f = X at *
  generalize Z.xpO fr to f = E at *
  obtain ⟨x, c⟩ := X
  obtain ⟨lo, hi, d⟩ := E
  dsimp only at HT HX HV1 HV2
  by_cases hc : c = 0
  case neg =>
    have HE : Hid (M = (0, c)) := Z.hide (by rw [HM.out]; unfold Z.teF; rw [if_pos hc])
    have hc' : (c == 0) = false := by simpa using hc
    clear HM HV1 HV2
    have X0 : K.Ext w w := K.Ext.refl w
    go_enter Tryz.func7, Tryz.ntmps7
    go_wp2_with (go_at_call 37; refine K.call (by with_reducible rfl) (by with_reducible rfl) (HT.out _ (K.ints.alloc (K.ints.alloc hRL_ _) _) (K.ints.alloc (K.ints.alloc hRR_ _) _)) ?_; rintro e w1 ⟨rfl, x1⟩; have s1 : w.heap.size + 2 ≤ w1.heap.size := (by have h_ := x1.size; (try simp at h_); omega); have X1 := K.Ext.trans (K.Ext.alloc (K.Ext.alloc X0 _) _) x1; obtain ⟨c1_0_0, c1_0_1, c1_0_2⟩ := K.c3 x1 (w.heap.size) (.int .i64 R.ln) (.slice oRL R.st.length cRL) (.slice oRR R.sl.length cRR) (by go_simp); have z1_0 : w.heap.size < w1.heap.size := World.block_lt_of_cell? w1 _ c1_0_0; have d1_0 : ¬ (w.heap.size = w1.heap.size) := (by omega); have e1_0 : ¬ (w1.heap.size = w.heap.size) := (by omega); obtain ⟨c1_1_0, c1_1_1⟩ := K.c2 x1 (w.heap.size + 1) (.int .i64 f.1) (.int .i64 f.2) (by go_simp); have z1_1 : w.heap.size + 1 < w1.heap.size := World.block_lt_of_cell? w1 _ c1_1_0; have d1_1 : ¬ (w.heap.size + 1 = w1.heap.size) := (by omega); have e1_1 : ¬ (w1.heap.size = w.heap.size + 1) := (by omega); have n1_0 : ¬ (w.heap.size + 1 = w.heap.size) := (by omega); have n0_1 : ¬ (w.heap.size = w.heap.size + 1) := (by omega); have F1_1 := K.ints.ext (K.ints.alloc (K.ints.alloc hRL_ _) _) x1; have F2_1 := K.ints.ext (K.ints.alloc (K.ints.alloc hRR_ _) _) x1; clear hRL_ hRR_)
    rw [HE.out]
    refine bodyPost_ret (v := .tuple #[.int .i64 0, .int .i64 ((x, c).2)]) (by unfold results; rw [Tryz.results7]; go_simp) rfl ⟨rfl, ?_⟩
    repeat with_reducible refine K.Ext.setCell ?_ (by dsimp only; omega) _
    exact (by repeat' (first | with_reducible exact X1 | with_reducible refine K.Ext.setCell ?_ ?_ _ | with_reducible refine K.Ext.alloc ?_ _ | with_reducible refine K.Ext.drew ?_ | (dsimp only; omega) | omega | (simp; omega)))
  subst hc
  by_cases hd : d = 0
  case neg =>
    have HE : Hid (M = (0, d)) := Z.hide (by rw [HM.out]; unfold Z.teF; rw [if_neg (by simp), if_pos hd])
    have hd' : (d == 0) = false := by simpa using hd
    clear HM HV1 HV2
    have X0 : K.Ext w w := K.Ext.refl w
    go_enter Tryz.func7, Tryz.ntmps7
    go_wp2_with (go_at_call 37; refine K.call (by with_reducible rfl) (by with_reducible rfl) (HT.out _ (K.ints.alloc (K.ints.alloc hRL_ _) _) (K.ints.alloc (K.ints.alloc hRR_ _) _)) ?_; rintro e w1 ⟨rfl, x1⟩; have s1 : w.heap.size + 2 ≤ w1.heap.size := (by have h_ := x1.size; (try simp at h_); omega); have X1 := K.Ext.trans (K.Ext.alloc (K.Ext.alloc X0 _) _) x1; obtain ⟨c1_0_0, c1_0_1, c1_0_2⟩ := K.c3 x1 (w.heap.size) (.int .i64 R.ln) (.slice oRL R.st.length cRL) (.slice oRR R.sl.length cRR) (by go_simp); have z1_0 : w.heap.size < w1.heap.size := World.block_lt_of_cell? w1 _ c1_0_0; have d1_0 : ¬ (w.heap.size = w1.heap.size) := (by omega); have e1_0 : ¬ (w1.heap.size = w.heap.size) := (by omega); obtain ⟨c1_1_0, c1_1_1⟩ := K.c2 x1 (w.heap.size + 1) (.int .i64 f.1) (.int .i64 f.2) (by go_simp); have z1_1 : w.heap.size + 1 < w1.heap.size := World.block_lt_of_cell? w1 _ c1_1_0; have d1_1 : ¬ (w.heap.size + 1 = w1.heap.size) := (by omega); have e1_1 : ¬ (w1.heap.size = w.heap.size + 1) := (by omega); have n1_0 : ¬ (w.heap.size + 1 = w.heap.size) := (by omega); have n0_1 : ¬ (w.heap.size = w.heap.size + 1) := (by omega); have F1_1 := K.ints.ext (K.ints.alloc (K.ints.alloc hRL_ _) _) x1; have F2_1 := K.ints.ext (K.ints.alloc (K.ints.alloc hRR_ _) _) x1; clear hRL_ hRR_)
    go_wp2_with (go_at_call 35; refine K.call (by with_reducible rfl) (by with_reducible rfl) (HX.out _) ?_; rintro e w2 ⟨rfl, x2⟩; have s2 : w1.heap.size + 1 ≤ w2.heap.size := (by have h_ := x2.size; (try simp at h_); omega); have X2 := K.Ext.trans (K.Ext.alloc X1 _) x2; obtain ⟨c2_0_0, c2_0_1, c2_0_2⟩ := K.c3 x2 (w.heap.size) (.int .i64 R.ln) (.slice oRL R.st.length cRL) (.slice oRR R.sl.length cRR) (by go_simp); have z2_0 : w.heap.size < w2.heap.size := World.block_lt_of_cell? w2 _ c2_0_0; have d2_0 : ¬ (w.heap.size = w2.heap.size) := (by omega); have e2_0 : ¬ (w2.heap.size = w.heap.size) := (by omega); obtain ⟨c2_1_0, c2_1_1⟩ := K.c2 x2 (w.heap.size + 1) (.int .i64 f.1) (.int .i64 f.2) (by go_simp); have z2_1 : w.heap.size + 1 < w2.heap.size := World.block_lt_of_cell? w2 _ c2_1_0; have d2_1 : ¬ (w.heap.size + 1 = w2.heap.size) := (by omega); have e2_1 : ¬ (w2.heap.size = w.heap.size + 1) := (by omega); obtain ⟨c2_2_0, c2_2_1⟩ := K.c2 x2 (w1.heap.size) (.int .i64 ((x, (0 : Int)).1).1) (.int .i64 ((x, (0 : Int)).1).2) (by go_simp); obtain ⟨f2_2_0, f2_2_1⟩ := K.f2 x2 (w1.heap.size) (by go_simp); have z2_2 : w1.heap.size < w2.heap.size := World.block_lt_of_cell? w2 _ c2_2_0; have d2_2 : ¬ (w1.heap.size = w2.heap.size) := (by omega); have e2_2 : ¬ (w2.heap.size = w1.heap.size) := (by omega); have n2_0 : ¬ (w1.heap.size = w.heap.size) := (by omega); have n0_2 : ¬ (w.heap.size = w1.heap.size) := (by omega); have n2_1 : ¬ (w1.heap.size = w.heap.size + 1) := (by omega); have n1_2 : ¬ (w.heap.size + 1 = w1.heap.size) := (by omega); have F1_2 := K.ints.ext (K.ints.alloc F1_1 _) x2; have F2_2 := K.ints.ext (K.ints.alloc F2_1 _) x2; clear c1_0_0 c1_0_1 c1_0_2 z1_0 d1_0 e1_0 c1_1_0 c1_1_1 z1_1 d1_1 e1_1 F1_1 F2_1)
    rw [HE.out]
    refine bodyPost_ret (v := .tuple #[.int .i64 0, .int .i64 ((lo, hi, d).2.2)]) (by unfold results; rw [Tryz.results7]; go_simp) rfl ⟨rfl, ?_⟩
    repeat with_reducible refine K.Ext.setCell ?_ (by dsimp only; omega) _
    exact (by repeat' (first | with_reducible exact X2 | with_reducible refine K.Ext.setCell ?_ ?_ _ | with_reducible refine K.Ext.alloc ?_ _ | with_reducible refine K.Ext.drew ?_ | (dsimp only; omega) | omega | (simp; omega)))
  subst hd
  have HA := Z.hide (fun w => spec_RelativeError x lo w)
  have HB := Z.hide (fun w => spec_RelativeError x hi w)
  have HR1 : Hid (Z.relX x lo = if 9000000 < Z.relE x lo then (0, 3) else (Z.relE x lo, 0)) := Z.hide (by unfold Z.relX; rw [if_neg (by rw [HV1 rfl, (HV2 rfl).1]; decide)]; rfl)
  have HR2 : Hid (Z.relX x hi = if 9000000 < Z.relE x hi then (0, 3) else (Z.relE x hi, 0)) := Z.hide (by unfold Z.relX; rw [if_neg (by rw [HV1 rfl, (HV2 rfl).2]; decide)]; rfl)
  have HM2 : Hid (M = if 9000000 < Z.relE x lo ∨ 9000000 < Z.relE x hi then (0, 3) else (max (Z.relE x lo) (Z.relE x hi), 0)) := Z.hide (by rw [HM.out]; unfold Z.teF; rw [if_neg (by simp), if_neg (by simp)])
  clear HV1 HV2 HM
  generalize Z.relE x lo = u at *
  generalize Z.relE x hi = v at *
  by_cases hu : 9000000 < u
  · rw [if_pos hu] at HR1
    rw [HR1.out] at HA
    rw [if_pos (.inl hu)] at HM2
    generalize Z.relX x hi = Y at *
    clear HR2
    have X0 : K.Ext w w := K.Ext.refl w
    go_enter Tryz.func7, Tryz.ntmps7
    go_wp2_with (go_at_call 37; refine K.call (by with_reducible rfl) (by with_reducible rfl) (HT.out _ (K.ints.alloc (K.ints.alloc hRL_ _) _) (K.ints.alloc (K.ints.alloc hRR_ _) _)) ?_; rintro e w1 ⟨rfl, x1⟩; have s1 : w.heap.size + 2 ≤ w1.heap.size := (by have h_ := x1.size; (try simp at h_); omega); have X1 := K.Ext.trans (K.Ext.alloc (K.Ext.alloc X0 _) _) x1; obtain ⟨c1_0_0, c1_0_1, c1_0_2⟩ := K.c3 x1 (w.heap.size) (.int .i64 R.ln) (.slice oRL R.st.length cRL) (.slice oRR R.sl.length cRR) (by go_simp); have z1_0 : w.heap.size < w1.heap.size := World.block_lt_of_cell? w1 _ c1_0_0; have d1_0 : ¬ (w.heap.size = w1.heap.size) := (by omega); have e1_0 : ¬ (w1.heap.size = w.heap.size) := (by omega); obtain ⟨c1_1_0, c1_1_1⟩ := K.c2 x1 (w.heap.size + 1) (.int .i64 f.1) (.int .i64 f.2) (by go_simp); have z1_1 : w.heap.size + 1 < w1.heap.size := World.block_lt_of_cell? w1 _ c1_1_0; have d1_1 : ¬ (w.heap.size + 1 = w1.heap.size) := (by omega); have e1_1 : ¬ (w1.heap.size = w.heap.size + 1) := (by omega); have n1_0 : ¬ (w.heap.size + 1 = w.heap.size) := (by omega); have n0_1 : ¬ (w.heap.size = w.heap.size + 1) := (by omega); have F1_1 := K.ints.ext (K.ints.alloc (K.ints.alloc hRL_ _) _) x1; have F2_1 := K.ints.ext (K.ints.alloc (K.ints.alloc hRR_ _) _) x1; clear hRL_ hRR_)
    go_wp2_with (go_at_call 35; refine K.call (by with_reducible rfl) (by with_reducible rfl) (HX.out _) ?_; rintro e w2 ⟨rfl, x2⟩; have s2 : w1.heap.size + 1 ≤ w2.heap.size := (by have h_ := x2.size; (try simp at h_); omega); have X2 := K.Ext.trans (K.Ext.alloc X1 _) x2; obtain ⟨c2_0_0, c2_0_1, c2_0_2⟩ := K.c3 x2 (w.heap.size) (.int .i64 R.ln) (.slice oRL R.st.length cRL) (.slice oRR R.sl.length cRR) (by go_simp); have z2_0 : w.heap.size < w2.heap.size := World.block_lt_of_cell? w2 _ c2_0_0; have d2_0 : ¬ (w.heap.size = w2.heap.size) := (by omega); have e2_0 : ¬ (w2.heap.size = w.heap.size) := (by omega); obtain ⟨c2_1_0, c2_1_1⟩ := K.c2 x2 (w.heap.size + 1) (.int .i64 f.1) (.int .i64 f.2) (by go_simp); have z2_1 : w.heap.size + 1 < w2.heap.size := World.block_lt_of_cell? w2 _ c2_1_0; have d2_1 : ¬ (w.heap.size + 1 = w2.heap.size) := (by omega); have e2_1 : ¬ (w2.heap.size = w.heap.size + 1) := (by omega); obtain ⟨c2_2_0, c2_2_1⟩ := K.c2 x2 (w1.heap.size) (.int .i64 ((x, (0 : Int)).1).1) (.int .i64 ((x, (0 : Int)).1).2) (by go_simp); obtain ⟨f2_2_0, f2_2_1⟩ := K.f2 x2 (w1.heap.size) (by go_simp); have z2_2 : w1.heap.size < w2.heap.size := World.block_lt_of_cell? w2 _ c2_2_0; have d2_2 : ¬ (w1.heap.size = w2.heap.size) := (by omega); have e2_2 : ¬ (w2.heap.size = w1.heap.size) := (by omega); have n2_0 : ¬ (w1.heap.size = w.heap.size) := (by omega); have n0_2 : ¬ (w.heap.size = w1.heap.size) := (by omega); have n2_1 : ¬ (w1.heap.size = w.heap.size + 1) := (by omega); have n1_2 : ¬ (w.heap.size + 1 = w1.heap.size) := (by omega); have F1_2 := K.ints.ext (K.ints.alloc F1_1 _) x2; have F2_2 := K.ints.ext (K.ints.alloc F2_1 _) x2; clear c1_0_0 c1_0_1 c1_0_2 z1_0 d1_0 e1_0 c1_1_0 c1_1_1 z1_1 d1_1 e1_1 F1_1 F2_1)
    go_wp2_with (go_at_call 38; refine K.call (by with_reducible rfl) (by with_reducible rfl) (HA.out _) ?_; rintro e w3 ⟨rfl, x3⟩; have s3 : w2.heap.size + 2 ≤ w3.heap.size := (by have h_ := x3.size; (try simp at h_); omega); have X3 := K.Ext.trans (K.Ext.alloc (K.Ext.alloc X2 _) _) x3; obtain ⟨c3_0_0, c3_0_1, c3_0_2⟩ := K.c3 x3 (w.heap.size) (.int .i64 R.ln) (.slice oRL R.st.length cRL) (.slice oRR R.sl.length cRR) (by go_simp); have z3_0 : w.heap.size < w3.heap.size := World.block_lt_of_cell? w3 _ c3_0_0; have d3_0 : ¬ (w.heap.size = w3.heap.size) := (by omega); have e3_0 : ¬ (w3.heap.size = w.heap.size) := (by omega); obtain ⟨c3_1_0, c3_1_1⟩ := K.c2 x3 (w.heap.size + 1) (.int .i64 f.1) (.int .i64 f.2) (by go_simp); have z3_1 : w.heap.size + 1 < w3.heap.size := World.block_lt_of_cell? w3 _ c3_1_0; have d3_1 : ¬ (w.heap.size + 1 = w3.heap.size) := (by omega); have e3_1 : ¬ (w3.heap.size = w.heap.size + 1) := (by omega); obtain ⟨c3_2_0, c3_2_1⟩ := K.c2 x3 (w1.heap.size) (.int .i64 ((x, (0 : Int)).1).1) (.int .i64 ((x, (0 : Int)).1).2) (by go_simp); obtain ⟨f3_2_0, f3_2_1⟩ := K.f2 x3 (w1.heap.size) (by go_simp); have z3_2 : w1.heap.size < w3.heap.size := World.block_lt_of_cell? w3 _ c3_2_0; have d3_2 : ¬ (w1.heap.size = w3.heap.size) := (by omega); have e3_2 : ¬ (w3.heap.size = w1.heap.size) := (by omega); obtain ⟨c3_3_0, c3_3_1⟩ := K.c2 x3 (w2.heap.size) (.int .i64 ((lo, hi, (0 : Int)).1).1) (.int .i64 ((lo, hi, (0 : Int)).1).2) (by go_simp); obtain ⟨f3_3_0, f3_3_1⟩ := K.f2 x3 (w2.heap.size) (by go_simp); have z3_3 : w2.heap.size < w3.heap.size := World.block_lt_of_cell? w3 _ c3_3_0; have d3_3 : ¬ (w2.heap.size = w3.heap.size) := (by omega); have e3_3 : ¬ (w3.heap.size = w2.heap.size) := (by omega); have n3_0 : ¬ (w2.heap.size = w.heap.size) := (by omega); have n0_3 : ¬ (w.heap.size = w2.heap.size) := (by omega); have n3_1 : ¬ (w2.heap.size = w.heap.size + 1) := (by omega); have n1_3 : ¬ (w.heap.size + 1 = w2.heap.size) := (by omega); have n3_2 : ¬ (w2.heap.size = w1.heap.size) := (by omega); have n2_3 : ¬ (w1.heap.size = w2.heap.size) := (by omega); obtain ⟨c3_4_0, c3_4_1⟩ := K.c2 x3 (w2.heap.size + 1) (.int .i64 ((lo, hi, (0 : Int)).2.1).1) (.int .i64 ((lo, hi, (0 : Int)).2.1).2) (by go_simp); obtain ⟨f3_4_0, f3_4_1⟩ := K.f2 x3 (w2.heap.size + 1) (by go_simp); have z3_4 : w2.heap.size + 1 < w3.heap.size := World.block_lt_of_cell? w3 _ c3_4_0; have d3_4 : ¬ (w2.heap.size + 1 = w3.heap.size) := (by omega); have e3_4 : ¬ (w3.heap.size = w2.heap.size + 1) := (by omega); have n4_0 : ¬ (w2.heap.size + 1 = w.heap.size) := (by omega); have n0_4 : ¬ (w.heap.size = w2.heap.size + 1) := (by omega); have n4_1 : ¬ (w2.heap.size + 1 = w.heap.size + 1) := (by omega); have n1_4 : ¬ (w.heap.size + 1 = w2.heap.size + 1) := (by omega); have n4_2 : ¬ (w2.heap.size + 1 = w1.heap.size) := (by omega); have n2_4 : ¬ (w1.heap.size = w2.heap.size + 1) := (by omega); have n4_3 : ¬ (w2.heap.size + 1 = w2.heap.size) := (by omega); have n3_4 : ¬ (w2.heap.size = w2.heap.size + 1) := (by omega); have F1_3 := K.ints.ext (K.ints.alloc (K.ints.alloc F1_2 _) _) x3; have F2_3 := K.ints.ext (K.ints.alloc (K.ints.alloc F2_2 _) _) x3; clear c2_0_0 c2_0_1 c2_0_2 z2_0 d2_0 e2_0 c2_1_0 c2_1_1 z2_1 d2_1 e2_1 c2_2_0 c2_2_1 f2_2_0 f2_2_1 z2_2 d2_2 e2_2 F1_2 F2_2)
    go_wp2_with (go_at_call 38; refine K.call (by with_reducible rfl) (by with_reducible rfl) (HB.out _) ?_; rintro e w4 ⟨rfl, x4⟩; have s4 : w3.heap.size ≤ w4.heap.size := (by have h_ := x4.size; (try simp at h_); omega); have X4 := K.Ext.trans (X3) x4; obtain ⟨c4_0_0, c4_0_1, c4_0_2⟩ := K.c3 x4 (w.heap.size) (.int .i64 R.ln) (.slice oRL R.st.length cRL) (.slice oRR R.sl.length cRR) (by go_simp); have z4_0 : w.heap.size < w4.heap.size := World.block_lt_of_cell? w4 _ c4_0_0; have d4_0 : ¬ (w.heap.size = w4.heap.size) := (by omega); have e4_0 : ¬ (w4.heap.size = w.heap.size) := (by omega); obtain ⟨c4_1_0, c4_1_1⟩ := K.c2 x4 (w.heap.size + 1) (.int .i64 f.1) (.int .i64 f.2) (by go_simp); have z4_1 : w.heap.size + 1 < w4.heap.size := World.block_lt_of_cell? w4 _ c4_1_0; have d4_1 : ¬ (w.heap.size + 1 = w4.heap.size) := (by omega); have e4_1 : ¬ (w4.heap.size = w.heap.size + 1) := (by omega); obtain ⟨c4_2_0, c4_2_1⟩ := K.c2 x4 (w1.heap.size) (.int .i64 ((x, (0 : Int)).1).1) (.int .i64 ((x, (0 : Int)).1).2) (by go_simp); obtain ⟨f4_2_0, f4_2_1⟩ := K.f2 x4 (w1.heap.size) (by go_simp); have z4_2 : w1.heap.size < w4.heap.size := World.block_lt_of_cell? w4 _ c4_2_0; have d4_2 : ¬ (w1.heap.size = w4.heap.size) := (by omega); have e4_2 : ¬ (w4.heap.size = w1.heap.size) := (by omega); obtain ⟨c4_3_0, c4_3_1⟩ := K.c2 x4 (w2.heap.size) (.int .i64 ((lo, hi, (0 : Int)).1).1) (.int .i64 ((lo, hi, (0 : Int)).1).2) (by go_simp); obtain ⟨f4_3_0, f4_3_1⟩ := K.f2 x4 (w2.heap.size) (by go_simp); have z4_3 : w2.heap.size < w4.heap.size := World.block_lt_of_cell? w4 _ c4_3_0; have d4_3 : ¬ (w2.heap.size = w4.heap.size) := (by omega); have e4_3 : ¬ (w4.heap.size = w2.heap.size) := (by omega); obtain ⟨c4_4_0, c4_4_1⟩ := K.c2 x4 (w2.heap.size + 1) (.int .i64 ((lo, hi, (0 : Int)).2.1).1) (.int .i64 ((lo, hi, (0 : Int)).2.1).2) (by go_simp); obtain ⟨f4_4_0, f4_4_1⟩ := K.f2 x4 (w2.heap.size + 1) (by go_simp); have z4_4 : w2.heap.size + 1 < w4.heap.size := World.block_lt_of_cell? w4 _ c4_4_0; have d4_4 : ¬ (w2.heap.size + 1 = w4.heap.size) := (by omega); have e4_4 : ¬ (w4.heap.size = w2.heap.size + 1) := (by omega); have F1_4 := K.ints.ext (F1_3) x4; have F2_4 := K.ints.ext (F2_3) x4; clear c3_0_0 c3_0_1 c3_0_2 z3_0 d3_0 e3_0 c3_1_0 c3_1_1 z3_1 d3_1 e3_1 c3_2_0 c3_2_1 f3_2_0 f3_2_1 z3_2 d3_2 e3_2 c3_3_0 c3_3_1 f3_3_0 f3_3_1 z3_3 d3_3 e3_3 c3_4_0 c3_4_1 f3_4_0 f3_4_1 z3_4 d3_4 e3_4 F1_3 F2_3)
    rw [HM2.out]
    refine bodyPost_ret (v := .tuple #[.int .i64 0, .int .i64 3]) (by unfold results; rw [Tryz.results7]; go_simp) rfl ⟨rfl, ?_⟩
    repeat with_reducible refine K.Ext.setCell ?_ (by dsimp only; omega) _
    exact (by repeat' (first | with_reducible exact X4 | with_reducible refine K.Ext.setCell ?_ ?_ _ | with_reducible refine K.Ext.alloc ?_ _ | with_reducible refine K.Ext.drew ?_ | (dsimp only; omega) | omega | (simp; omega)))
  rw [if_neg hu] at HR1
  rw [HR1.out] at HA
  by_cases hv : 9000000 < v
  · rw [if_pos hv] at HR2
    rw [HR2.out] at HB
    rw [if_pos (.inr hv)] at HM2
    have X0 : K.Ext w w := K.Ext.refl w
    go_enter Tryz.func7, Tryz.ntmps7
    go_wp2_with (go_at_call 37; refine K.call (by with_reducible rfl) (by with_reducible rfl) (HT.out _ (K.ints.alloc (K.ints.alloc hRL_ _) _) (K.ints.alloc (K.ints.alloc hRR_ _) _)) ?_; rintro e w1 ⟨rfl, x1⟩; have s1 : w.heap.size + 2 ≤ w1.heap.size := (by have h_ := x1.size; (try simp at h_); omega); have X1 := K.Ext.trans (K.Ext.alloc (K.Ext.alloc X0 _) _) x1; obtain ⟨c1_0_0, c1_0_1, c1_0_2⟩ := K.c3 x1 (w.heap.size) (.int .i64 R.ln) (.slice oRL R.st.length cRL) (.slice oRR R.sl.length cRR) (by go_simp); have z1_0 : w.heap.size < w1.heap.size := World.block_lt_of_cell? w1 _ c1_0_0; have d1_0 : ¬ (w.heap.size = w1.heap.size) := (by omega); have e1_0 : ¬ (w1.heap.size = w.heap.size) := (by omega); obtain ⟨c1_1_0, c1_1_1⟩ := K.c2 x1 (w.heap.size + 1) (.int .i64 f.1) (.int .i64 f.2) (by go_simp); have z1_1 : w.heap.size + 1 < w1.heap.size := World.block_lt_of_cell? w1 _ c1_1_0; have d1_1 : ¬ (w.heap.size + 1 = w1.heap.size) := (by omega); have e1_1 : ¬ (w1.heap.size = w.heap.size + 1) := (by omega); have n1_0 : ¬ (w.heap.size + 1 = w.heap.size) := (by omega); have n0_1 : ¬ (w.heap.size = w.heap.size + 1) := (by omega); have F1_1 := K.ints.ext (K.ints.alloc (K.ints.alloc hRL_ _) _) x1; have F2_1 := K.ints.ext (K.ints.alloc (K.ints.alloc hRR_ _) _) x1; clear hRL_ hRR_)
    go_wp2_with (go_at_call 35; refine K.call (by with_reducible rfl) (by with_reducible rfl) (HX.out _) ?_; rintro e w2 ⟨rfl, x2⟩; have s2 : w1.heap.size + 1 ≤ w2.heap.size := (by have h_ := x2.size; (try simp at h_); omega); have X2 := K.Ext.trans (K.Ext.alloc X1 _) x2; obtain ⟨c2_0_0, c2_0_1, c2_0_2⟩ := K.c3 x2 (w.heap.size) (.int .i64 R.ln) (.slice oRL R.st.length cRL) (.slice oRR R.sl.length cRR) (by go_simp); have z2_0 : w.heap.size < w2.heap.size := World.block_lt_of_cell? w2 _ c2_0_0; have d2_0 : ¬ (w.heap.size = w2.heap.size) := (by omega); have e2_0 : ¬ (w2.heap.size = w.heap.size) := (by omega); obtain ⟨c2_1_0, c2_1_1⟩ := K.c2 x2 (w.heap.size + 1) (.int .i64 f.1) (.int .i64 f.2) (by go_simp); have z2_1 : w.heap.size + 1 < w2.heap.size := World.block_lt_of_cell? w2 _ c2_1_0; have d2_1 : ¬ (w.heap.size + 1 = w2.heap.size) := (by omega); have e2_1 : ¬ (w2.heap.size = w.heap.size + 1) := (by omega); obtain ⟨c2_2_0, c2_2_1⟩ := K.c2 x2 (w1.heap.size) (.int .i64 ((x, (0 : Int)).1).1) (.int .i64 ((x, (0 : Int)).1).2) (by go_simp); obtain ⟨f2_2_0, f2_2_1⟩ := K.f2 x2 (w1.heap.size) (by go_simp); have z2_2 : w1.heap.size < w2.heap.size := World.block_lt_of_cell? w2 _ c2_2_0; have d2_2 : ¬ (w1.heap.size = w2.heap.size) := (by omega); have e2_2 : ¬ (w2.heap.size = w1.heap.size) := (by omega); have n2_0 : ¬ (w1.heap.size = w.heap.size) := (by omega); have n0_2 : ¬ (w.heap.size = w1.heap.size) := (by omega); have n2_1 : ¬ (w1.heap.size = w.heap.size + 1) := (by omega); have n1_2 : ¬ (w.heap.size + 1 = w1.heap.size) := (by omega); have F1_2 := K.ints.ext (K.ints.alloc F1_1 _) x2; have F2_2 := K.ints.ext (K.ints.alloc F2_1 _) x2; clear c1_0_0 c1_0_1 c1_0_2 z1_0 d1_0 e1_0 c1_1_0 c1_1_1 z1_1 d1_1 e1_1 F1_1 F2_1)
    go_wp2_with (go_at_call 38; refine K.call (by with_reducible rfl) (by with_reducible rfl) (HA.out _) ?_; rintro e w3 ⟨rfl, x3⟩; have s3 : w2.heap.size + 2 ≤ w3.heap.size := (by have h_ := x3.size; (try simp at h_); omega); have X3 := K.Ext.trans (K.Ext.alloc (K.Ext.alloc X2 _) _) x3; obtain ⟨c3_0_0, c3_0_1, c3_0_2⟩ := K.c3 x3 (w.heap.size) (.int .i64 R.ln) (.slice oRL R.st.length cRL) (.slice oRR R.sl.length cRR) (by go_simp); have z3_0 : w.heap.size < w3.heap.size := World.block_lt_of_cell? w3 _ c3_0_0; have d3_0 : ¬ (w.heap.size = w3.heap.size) := (by omega); have e3_0 : ¬ (w3.heap.size = w.heap.size) := (by omega); obtain ⟨c3_1_0, c3_1_1⟩ := K.c2 x3 (w.heap.size + 1) (.int .i64 f.1) (.int .i64 f.2) (by go_simp); have z3_1 : w.heap.size + 1 < w3.heap.size := World.block_lt_of_cell? w3 _ c3_1_0; have d3_1 : ¬ (w.heap.size + 1 = w3.heap.size) := (by omega); have e3_1 : ¬ (w3.heap.size = w.heap.size + 1) := (by omega); obtain ⟨c3_2_0, c3_2_1⟩ := K.c2 x3 (w1.heap.size) (.int .i64 ((x, (0 : Int)).1).1) (.int .i64 ((x, (0 : Int)).1).2) (by go_simp); obtain ⟨f3_2_0, f3_2_1⟩ := K.f2 x3 (w1.heap.size) (by go_simp); have z3_2 : w1.heap.size < w3.heap.size := World.block_lt_of_cell? w3 _ c3_2_0; have d3_2 : ¬ (w1.heap.size = w3.heap.size) := (by omega); have e3_2 : ¬ (w3.heap.size = w1.heap.size) := (by omega); obtain ⟨c3_3_0, c3_3_1⟩ := K.c2 x3 (w2.heap.size) (.int .i64 ((lo, hi, (0 : Int)).1).1) (.int .i64 ((lo, hi, (0 : Int)).1).2) (by go_simp); obtain ⟨f3_3_0, f3_3_1⟩ := K.f2 x3 (w2.heap.size) (by go_simp); have z3_3 : w2.heap.size < w3.heap.size := World.block_lt_of_cell? w3 _ c3_3_0; have d3_3 : ¬ (w2.heap.size = w3.heap.size) := (by omega); have e3_3 : ¬ (w3.heap.size = w2.heap.size) := (by omega); have n3_0 : ¬ (w2.heap.size = w.heap.size) := (by omega); have n0_3 : ¬ (w.heap.size = w2.heap.size) := (by omega); have n3_1 : ¬ (w2.heap.size = w.heap.size + 1) := (by omega); have n1_3 : ¬ (w.heap.size + 1 = w2.heap.size) := (by omega); have n3_2 : ¬ (w2.heap.size = w1.heap.size) := (by omega); have n2_3 : ¬ (w1.heap.size = w2.heap.size) := (by omega); obtain ⟨c3_4_0, c3_4_1⟩ := K.c2 x3 (w2.heap.size + 1) (.int .i64 ((lo, hi, (0 : Int)).2.1).1) (.int .i64 ((lo, hi, (0 : Int)).2.1).2) (by go_simp); obtain ⟨f3_4_0, f3_4_1⟩ := K.f2 x3 (w2.heap.size + 1) (by go_simp); have z3_4 : w2.heap.size + 1 < w3.heap.size := World.block_lt_of_cell? w3 _ c3_4_0; have d3_4 : ¬ (w2.heap.size + 1 = w3.heap.size) := (by omega); have e3_4 : ¬ (w3.heap.size = w2.heap.size + 1) := (by omega); have n4_0 : ¬ (w2.heap.size + 1 = w.heap.size) := (by omega); have n0_4 : ¬ (w.heap.size = w2.heap.size + 1) := (by omega); have n4_1 : ¬ (w2.heap.size + 1 = w.heap.size + 1) := (by omega); have n1_4 : ¬ (w.heap.size + 1 = w2.heap.size + 1) := (by omega); have n4_2 : ¬ (w2.heap.size + 1 = w1.heap.size) := (by omega); have n2_4 : ¬ (w1.heap.size = w2.heap.size + 1) := (by omega); have n4_3 : ¬ (w2.heap.size + 1 = w2.heap.size) := (by omega); have n3_4 : ¬ (w2.heap.size = w2.heap.size + 1) := (by omega); have F1_3 := K.ints.ext (K.ints.alloc (K.ints.alloc F1_2 _) _) x3; have F2_3 := K.ints.ext (K.ints.alloc (K.ints.alloc F2_2 _) _) x3; clear c2_0_0 c2_0_1 c2_0_2 z2_0 d2_0 e2_0 c2_1_0 c2_1_1 z2_1 d2_1 e2_1 c2_2_0 c2_2_1 f2_2_0 f2_2_1 z2_2 d2_2 e2_2 F1_2 F2_2)
    go_wp2_with (go_at_call 38; refine K.call (by with_reducible rfl) (by with_reducible rfl) (HB.out _) ?_; rintro e w4 ⟨rfl, x4⟩; have s4 : w3.heap.size ≤ w4.heap.size := (by have h_ := x4.size; (try simp at h_); omega); have X4 := K.Ext.trans (X3) x4; obtain ⟨c4_0_0, c4_0_1, c4_0_2⟩ := K.c3 x4 (w.heap.size) (.int .i64 R.ln) (.slice oRL R.st.length cRL) (.slice oRR R.sl.length cRR) (by go_simp); have z4_0 : w.heap.size < w4.heap.size := World.block_lt_of_cell? w4 _ c4_0_0; have d4_0 : ¬ (w.heap.size = w4.heap.size) := (by omega); have e4_0 : ¬ (w4.heap.size = w.heap.size) := (by omega); obtain ⟨c4_1_0, c4_1_1⟩ := K.c2 x4 (w.heap.size + 1) (.int .i64 f.1) (.int .i64 f.2) (by go_simp); have z4_1 : w.heap.size + 1 < w4.heap.size := World.block_lt_of_cell? w4 _ c4_1_0; have d4_1 : ¬ (w.heap.size + 1 = w4.heap.size) := (by omega); have e4_1 : ¬ (w4.heap.size = w.heap.size + 1) := (by omega); obtain ⟨c4_2_0, c4_2_1⟩ := K.c2 x4 (w1.heap.size) (.int .i64 ((x, (0 : Int)).1).1) (.int .i64 ((x, (0 : Int)).1).2) (by go_simp); obtain ⟨f4_2_0, f4_2_1⟩ := K.f2 x4 (w1.heap.size) (by go_simp); have z4_2 : w1.heap.size < w4.heap.size := World.block_lt_of_cell? w4 _ c4_2_0; have d4_2 : ¬ (w1.heap.size = w4.heap.size) := (by omega); have e4_2 : ¬ (w4.heap.size = w1.heap.size) := (by omega); obtain ⟨c4_3_0, c4_3_1⟩ := K.c2 x4 (w2.heap.size) (.int .i64 ((lo, hi, (0 : Int)).1).1) (.int .i64 ((lo, hi, (0 : Int)).1).2) (by go_simp); obtain ⟨f4_3_0, f4_3_1⟩ := K.f2 x4 (w2.heap.size) (by go_simp); have z4_3 : w2.heap.size < w4.heap.size := World.block_lt_of_cell? w4 _ c4_3_0; have d4_3 : ¬ (w2.heap.size = w4.heap.size) := (by omega); have e4_3 : ¬ (w4.heap.size = w2.heap.size) := (by omega); obtain ⟨c4_4_0, c4_4_1⟩ := K.c2 x4 (w2.heap.size + 1) (.int .i64 ((lo, hi, (0 : Int)).2.1).1) (.int .i64 ((lo, hi, (0 : Int)).2.1).2) (by go_simp); obtain ⟨f4_4_0, f4_4_1⟩ := K.f2 x4 (w2.heap.size + 1) (by go_simp); have z4_4 : w2.heap.size + 1 < w4.heap.size := World.block_lt_of_cell? w4 _ c4_4_0; have d4_4 : ¬ (w2.heap.size + 1 = w4.heap.size) := (by omega); have e4_4 : ¬ (w4.heap.size = w2.heap.size + 1) := (by omega); have F1_4 := K.ints.ext (F1_3) x4; have F2_4 := K.ints.ext (F2_3) x4; clear c3_0_0 c3_0_1 c3_0_2 z3_0 d3_0 e3_0 c3_1_0 c3_1_1 z3_1 d3_1 e3_1 c3_2_0 c3_2_1 f3_2_0 f3_2_1 z3_2 d3_2 e3_2 c3_3_0 c3_3_1 f3_3_0 f3_3_1 z3_3 d3_3 e3_3 c3_4_0 c3_4_1 f3_4_0 f3_4_1 z3_4 d3_4 e3_4 F1_3 F2_3)
    rw [HM2.out]
    refine bodyPost_ret (v := .tuple #[.int .i64 0, .int .i64 3]) (by unfold results; rw [Tryz.results7]; go_simp) rfl ⟨rfl, ?_⟩
    repeat with_reducible refine K.Ext.setCell ?_ (by dsimp only; omega) _
    exact (by repeat' (first | with_reducible exact X4 | with_reducible refine K.Ext.setCell ?_ ?_ _ | with_reducible refine K.Ext.alloc ?_ _ | with_reducible refine K.Ext.drew ?_ | (dsimp only; omega) | omega | (simp; omega)))
  rw [if_neg hv] at HR2
  rw [HR2.out] at HB
  rw [if_neg (by omega)] at HM2
  have X0 : K.Ext w w := K.Ext.refl w
  go_enter Tryz.func7, Tryz.ntmps7
  go_wp2_with (go_at_call 37; refine K.call (by with_reducible rfl) (by with_reducible rfl) (HT.out _ (K.ints.alloc (K.ints.alloc hRL_ _) _) (K.ints.alloc (K.ints.alloc hRR_ _) _)) ?_; rintro e w1 ⟨rfl, x1⟩; have s1 : w.heap.size + 2 ≤ w1.heap.size := (by have h_ := x1.size; (try simp at h_); omega); have X1 := K.Ext.trans (K.Ext.alloc (K.Ext.alloc X0 _) _) x1; obtain ⟨c1_0_0, c1_0_1, c1_0_2⟩ := K.c3 x1 (w.heap.size) (.int .i64 R.ln) (.slice oRL R.st.length cRL) (.slice oRR R.sl.length cRR) (by go_simp); have z1_0 : w.heap.size < w1.heap.size := World.block_lt_of_cell? w1 _ c1_0_0; have d1_0 : ¬ (w.heap.size = w1.heap.size) := (by omega); have e1_0 : ¬ (w1.heap.size = w.heap.size) := (by omega); obtain ⟨c1_1_0, c1_1_1⟩ := K.c2 x1 (w.heap.size + 1) (.int .i64 f.1) (.int .i64 f.2) (by go_simp); have z1_1 : w.heap.size + 1 < w1.heap.size := World.block_lt_of_cell? w1 _ c1_1_0; have d1_1 : ¬ (w.heap.size + 1 = w1.heap.size) := (by omega); have e1_1 : ¬ (w1.heap.size = w.heap.size + 1) := (by omega); have n1_0 : ¬ (w.heap.size + 1 = w.heap.size) := (by omega); have n0_1 : ¬ (w.heap.size = w.heap.size + 1) := (by omega); have F1_1 := K.ints.ext (K.ints.alloc (K.ints.alloc hRL_ _) _) x1; have F2_1 := K.ints.ext (K.ints.alloc (K.ints.alloc hRR_ _) _) x1; clear hRL_ hRR_)
  go_wp2_with (go_at_call 35; refine K.call (by with_reducible rfl) (by with_reducible rfl) (HX.out _) ?_; rintro e w2 ⟨rfl, x2⟩; have s2 : w1.heap.size + 1 ≤ w2.heap.size := (by have h_ := x2.size; (try simp at h_); omega); have X2 := K.Ext.trans (K.Ext.alloc X1 _) x2; obtain ⟨c2_0_0, c2_0_1, c2_0_2⟩ := K.c3 x2 (w.heap.size) (.int .i64 R.ln) (.slice oRL R.st.length cRL) (.slice oRR R.sl.length cRR) (by go_simp); have z2_0 : w.heap.size < w2.heap.size := World.block_lt_of_cell? w2 _ c2_0_0; have d2_0 : ¬ (w.heap.size = w2.heap.size) := (by omega); have e2_0 : ¬ (w2.heap.size = w.heap.size) := (by omega); obtain ⟨c2_1_0, c2_1_1⟩ := K.c2 x2 (w.heap.size + 1) (.int .i64 f.1) (.int .i64 f.2) (by go_simp); have z2_1 : w.heap.size + 1 < w2.heap.size := World.block_lt_of_cell? w2 _ c2_1_0; have d2_1 : ¬ (w.heap.size + 1 = w2.heap.size) := (by omega); have e2_1 : ¬ (w2.heap.size = w.heap.size + 1) := (by omega); obtain ⟨c2_2_0, c2_2_1⟩ := K.c2 x2 (w1.heap.size) (.int .i64 ((x, (0 : Int)).1).1) (.int .i64 ((x, (0 : Int)).1).2) (by go_simp); obtain ⟨f2_2_0, f2_2_1⟩ := K.f2 x2 (w1.heap.size) (by go_simp); have z2_2 : w1.heap.size < w2.heap.size := World.block_lt_of_cell? w2 _ c2_2_0; have d2_2 : ¬ (w1.heap.size = w2.heap.size) := (by omega); have e2_2 : ¬ (w2.heap.size = w1.heap.size) := (by omega); have n2_0 : ¬ (w1.heap.size = w.heap.size) := (by omega); have n0_2 : ¬ (w.heap.size = w1.heap.size) := (by omega); have n2_1 : ¬ (w1.heap.size = w.heap.size + 1) := (by omega); have n1_2 : ¬ (w.heap.size + 1 = w1.heap.size) := (by omega); have F1_2 := K.ints.ext (K.ints.alloc F1_1 _) x2; have F2_2 := K.ints.ext (K.ints.alloc F2_1 _) x2; clear c1_0_0 c1_0_1 c1_0_2 z1_0 d1_0 e1_0 c1_1_0 c1_1_1 z1_1 d1_1 e1_1 F1_1 F2_1)
  go_wp2_with (go_at_call 38; refine K.call (by with_reducible rfl) (by with_reducible rfl) (HA.out _) ?_; rintro e w3 ⟨rfl, x3⟩; have s3 : w2.heap.size + 2 ≤ w3.heap.size := (by have h_ := x3.size; (try simp at h_); omega); have X3 := K.Ext.trans (K.Ext.alloc (K.Ext.alloc X2 _) _) x3; obtain ⟨c3_0_0, c3_0_1, c3_0_2⟩ := K.c3 x3 (w.heap.size) (.int .i64 R.ln) (.slice oRL R.st.length cRL) (.slice oRR R.sl.length cRR) (by go_simp); have z3_0 : w.heap.size < w3.heap.size := World.block_lt_of_cell? w3 _ c3_0_0; have d3_0 : ¬ (w.heap.size = w3.heap.size) := (by omega); have e3_0 : ¬ (w3.heap.size = w.heap.size) := (by omega); obtain ⟨c3_1_0, c3_1_1⟩ := K.c2 x3 (w.heap.size + 1) (.int .i64 f.1) (.int .i64 f.2) (by go_simp); have z3_1 : w.heap.size + 1 < w3.heap.size := World.block_lt_of_cell? w3 _ c3_1_0; have d3_1 : ¬ (w.heap.size + 1 = w3.heap.size) := (by omega); have e3_1 : ¬ (w3.heap.size = w.heap.size + 1) := (by omega); obtain ⟨c3_2_0, c3_2_1⟩ := K.c2 x3 (w1.heap.size) (.int .i64 ((x, (0 : Int)).1).1) (.int .i64 ((x, (0 : Int)).1).2) (by go_simp); obtain ⟨f3_2_0, f3_2_1⟩ := K.f2 x3 (w1.heap.size) (by go_simp); have z3_2 : w1.heap.size < w3.heap.size := World.block_lt_of_cell? w3 _ c3_2_0; have d3_2 : ¬ (w1.heap.size = w3.heap.size) := (by omega); have e3_2 : ¬ (w3.heap.size = w1.heap.size) := (by omega); obtain ⟨c3_3_0, c3_3_1⟩ := K.c2 x3 (w2.heap.size) (.int .i64 ((lo, hi, (0 : Int)).1).1) (.int .i64 ((lo, hi, (0 : Int)).1).2) (by go_simp); obtain ⟨f3_3_0, f3_3_1⟩ := K.f2 x3 (w2.heap.size) (by go_simp); have z3_3 : w2.heap.size < w3.heap.size := World.block_lt_of_cell? w3 _ c3_3_0; have d3_3 : ¬ (w2.heap.size = w3.heap.size) := (by omega); have e3_3 : ¬ (w3.heap.size = w2.heap.size) := (by omega); have n3_0 : ¬ (w2.heap.size = w.heap.size) := (by omega); have n0_3 : ¬ (w.heap.size = w2.heap.size) := (by omega); have n3_1 : ¬ (w2.heap.size = w.heap.size + 1) := (by omega); have n1_3 : ¬ (w.heap.size + 1 = w2.heap.size) := (by omega); have n3_2 : ¬ (w2.heap.size = w1.heap.size) := (by omega); have n2_3 : ¬ (w1.heap.size = w2.heap.size) := (by omega); obtain ⟨c3_4_0, c3_4_1⟩ := K.c2 x3 (w2.heap.size + 1) (.int .i64 ((lo, hi, (0 : Int)).2.1).1) (.int .i64 ((lo, hi, (0 : Int)).2.1).2) (by go_simp); obtain ⟨f3_4_0, f3_4_1⟩ := K.f2 x3 (w2.heap.size + 1) (by go_simp); have z3_4 : w2.heap.size + 1 < w3.heap.size := World.block_lt_of_cell? w3 _ c3_4_0; have d3_4 : ¬ (w2.heap.size + 1 = w3.heap.size) := (by omega); have e3_4 : ¬ (w3.heap.size = w2.heap.size + 1) := (by omega); have n4_0 : ¬ (w2.heap.size + 1 = w.heap.size) := (by omega); have n0_4 : ¬ (w.heap.size = w2.heap.size + 1) := (by omega); have n4_1 : ¬ (w2.heap.size + 1 = w.heap.size + 1) := (by omega); have n1_4 : ¬ (w.heap.size + 1 = w2.heap.size + 1) := (by omega); have n4_2 : ¬ (w2.heap.size + 1 = w1.heap.size) := (by omega); have n2_4 : ¬ (w1.heap.size = w2.heap.size + 1) := (by omega); have n4_3 : ¬ (w2.heap.size + 1 = w2.heap.size) := (by omega); have n3_4 : ¬ (w2.heap.size = w2.heap.size + 1) := (by omega); have F1_3 := K.ints.ext (K.ints.alloc (K.ints.alloc F1_2 _) _) x3; have F2_3 := K.ints.ext (K.ints.alloc (K.ints.alloc F2_2 _) _) x3; clear c2_0_0 c2_0_1 c2_0_2 z2_0 d2_0 e2_0 c2_1_0 c2_1_1 z2_1 d2_1 e2_1 c2_2_0 c2_2_1 f2_2_0 f2_2_1 z2_2 d2_2 e2_2 F1_2 F2_2)
  go_wp2_with (go_at_call 38; refine K.call (by with_reducible rfl) (by with_reducible rfl) (HB.out _) ?_; rintro e w4 ⟨rfl, x4⟩; have s4 : w3.heap.size ≤ w4.heap.size := (by have h_ := x4.size; (try simp at h_); omega); have X4 := K.Ext.trans (X3) x4; obtain ⟨c4_0_0, c4_0_1, c4_0_2⟩ := K.c3 x4 (w.heap.size) (.int .i64 R.ln) (.slice oRL R.st.length cRL) (.slice oRR R.sl.length cRR) (by go_simp); have z4_0 : w.heap.size < w4.heap.size := World.block_lt_of_cell? w4 _ c4_0_0; have d4_0 : ¬ (w.heap.size = w4.heap.size) := (by omega); have e4_0 : ¬ (w4.heap.size = w.heap.size) := (by omega); obtain ⟨c4_1_0, c4_1_1⟩ := K.c2 x4 (w.heap.size + 1) (.int .i64 f.1) (.int .i64 f.2) (by go_simp); have z4_1 : w.heap.size + 1 < w4.heap.size := World.block_lt_of_cell? w4 _ c4_1_0; have d4_1 : ¬ (w.heap.size + 1 = w4.heap.size) := (by omega); have e4_1 : ¬ (w4.heap.size = w.heap.size + 1) := (by omega); obtain ⟨c4_2_0, c4_2_1⟩ := K.c2 x4 (w1.heap.size) (.int .i64 ((x, (0 : Int)).1).1) (.int .i64 ((x, (0 : Int)).1).2) (by go_simp); obtain ⟨f4_2_0, f4_2_1⟩ := K.f2 x4 (w1.heap.size) (by go_simp); have z4_2 : w1.heap.size < w4.heap.size := World.block_lt_of_cell? w4 _ c4_2_0; have d4_2 : ¬ (w1.heap.size = w4.heap.size) := (by omega); have e4_2 : ¬ (w4.heap.size = w1.heap.size) := (by omega); obtain ⟨c4_3_0, c4_3_1⟩ := K.c2 x4 (w2.heap.size) (.int .i64 ((lo, hi, (0 : Int)).1).1) (.int .i64 ((lo, hi, (0 : Int)).1).2) (by go_simp); obtain ⟨f4_3_0, f4_3_1⟩ := K.f2 x4 (w2.heap.size) (by go_simp); have z4_3 : w2.heap.size < w4.heap.size := World.block_lt_of_cell? w4 _ c4_3_0; have d4_3 : ¬ (w2.heap.size = w4.heap.size) := (by omega); have e4_3 : ¬ (w4.heap.size = w2.heap.size) := (by omega); obtain ⟨c4_4_0, c4_4_1⟩ := K.c2 x4 (w2.heap.size + 1) (.int .i64 ((lo, hi, (0 : Int)).2.1).1) (.int .i64 ((lo, hi, (0 : Int)).2.1).2) (by go_simp); obtain ⟨f4_4_0, f4_4_1⟩ := K.f2 x4 (w2.heap.size + 1) (by go_simp); have z4_4 : w2.heap.size + 1 < w4.heap.size := World.block_lt_of_cell? w4 _ c4_4_0; have d4_4 : ¬ (w2.heap.size + 1 = w4.heap.size) := (by omega); have e4_4 : ¬ (w4.heap.size = w2.heap.size + 1) := (by omega); have F1_4 := K.ints.ext (F1_3) x4; have F2_4 := K.ints.ext (F2_3) x4; clear c3_0_0 c3_0_1 c3_0_2 z3_0 d3_0 e3_0 c3_1_0 c3_1_1 z3_1 d3_1 e3_1 c3_2_0 c3_2_1 f3_2_0 f3_2_1 z3_2 d3_2 e3_2 c3_3_0 c3_3_1 f3_3_0 f3_3_1 z3_3 d3_3 e3_3 c3_4_0 c3_4_1 f3_4_0 f3_4_1 z3_4 d3_4 e3_4 F1_3 F2_3)
  rw [HM2.out]
  refine bodyPost_ret (v := .tuple #[.int .i64 (max ((u, (0 : Int)).1) ((v, (0 : Int)).1)), .int .i64 0]) (by unfold results; rw [Tryz.results7]; go_simp) rfl ⟨rfl, ?_⟩
  repeat with_reducible refine K.Ext.setCell ?_ (by dsimp only; omega) _
  exact (by repeat' (first | with_reducible exact X4 | with_reducible refine K.Ext.setCell ?_ ?_ _ | with_reducible refine K.Ext.alloc ?_ _ | with_reducible refine K.Ext.drew ?_ | (dsimp only; omega) | omega | (simp; omega)))
end Go.Proofs.YtimpcelbekhipaaGreat
end
section
namespace Go.Proofs.YtimpcelbekhipaaGreat
open Go.RowKit
theorem TransferError_big (R : Z.Rl) (fr : Int) (to : Int) (f : Int × Int) {loRL hiRL loRR hiRR : Nat} {pRL pRR : Value} (w : World) (hs : ¬ ((R.st.length : Int) + (R.sl.length : Int) ≤ 1048576)) (hmRL : (R.st.length : Int) ≤ 9223372036854775807) (hRL : K.ints w loRL hiRL pRL R.st) (hmRR : (R.sl.length : Int) ≤ 9223372036854775807) (hRR : K.ints w loRR hiRR pRR R.sl) :
    Calls Tryz.prog 3 #[.agg #[.int .i64 R.ln, pRL, pRR], .int .i64 fr, .int .i64 to, .agg #[.int .i64 f.1, .int .i64 f.2]] w fun e w' => e = .returned (.bool true) ∧ K.Ext w w' := by
  have hRL_ := hRL
  have shRL := hRL
  obtain ⟨oRL, cRL, rfl, _⟩ := shRL
  have hRR_ := hRR
  have shRR := hRR
  obtain ⟨oRR, cRR, rfl, _⟩ := shRR
  have X0 : K.Ext w w := K.Ext.refl w
  go_enter Tryz.func3, Tryz.ntmps3
  go_wp2_with (go_at_call 6; refine K.call (by with_reducible rfl) (by with_reducible rfl) (szRule_bad R 1048576 _ (by decide) (by decide) hs hmRL (K.ints.alloc (K.ints.alloc hRL_ _) _) hmRR (K.ints.alloc (K.ints.alloc hRR_ _) _)) ?_; rintro e w1 ⟨rfl, x1⟩; have s1 : w.heap.size + 2 ≤ w1.heap.size := (by have h_ := x1.size; (try simp at h_); omega); have X1 := K.Ext.trans (K.Ext.alloc (K.Ext.alloc X0 _) _) x1; obtain ⟨c1_0_0, c1_0_1, c1_0_2⟩ := K.c3 x1 (w.heap.size) (.int .i64 R.ln) (.slice oRL R.st.length cRL) (.slice oRR R.sl.length cRR) (by go_simp); have z1_0 : w.heap.size < w1.heap.size := World.block_lt_of_cell? w1 _ c1_0_0; have d1_0 : ¬ (w.heap.size = w1.heap.size) := (by omega); have e1_0 : ¬ (w1.heap.size = w.heap.size) := (by omega); obtain ⟨c1_1_0, c1_1_1⟩ := K.c2 x1 (w.heap.size + 1) (.int .i64 f.1) (.int .i64 f.2) (by go_simp); have z1_1 : w.heap.size + 1 < w1.heap.size := World.block_lt_of_cell? w1 _ c1_1_0; have d1_1 : ¬ (w.heap.size + 1 = w1.heap.size) := (by omega); have e1_1 : ¬ (w1.heap.size = w.heap.size + 1) := (by omega); have n1_0 : ¬ (w.heap.size + 1 = w.heap.size) := (by omega); have n0_1 : ¬ (w.heap.size = w.heap.size + 1) := (by omega); have F1_1 := K.ints.ext (K.ints.alloc (K.ints.alloc hRL_ _) _) x1; have F2_1 := K.ints.ext (K.ints.alloc (K.ints.alloc hRR_ _) _) x1; clear hRL_ hRR_)
  refine bodyPost_ret (v := .bool true) (by unfold results; rw [Tryz.results3]; go_simp) rfl ⟨rfl, ?_⟩
  repeat with_reducible refine K.Ext.setCell ?_ (by dsimp only; omega) _
  exact (by repeat' (first | with_reducible exact X1 | with_reducible refine K.Ext.setCell ?_ ?_ _ | with_reducible refine K.Ext.alloc ?_ _ | with_reducible refine K.Ext.drew ?_ | (dsimp only; omega) | omega | (simp; omega)))
set_option maxRecDepth 100000 in
set_option maxHeartbeats 6400000 in
theorem TransferError_small (R : Z.Rl) (fr : Int) (to : Int) (f : Int × Int) {loRL hiRL loRR hiRR : Nat} {pRL pRR : Value} (w : World) (kL : hiRL ≤ w.heap.size) (kR : hiRR ≤ w.heap.size) (hs : (R.st.length : Int) + (R.sl.length : Int) ≤ 1048576) (hmRL : R.st.length ≤ 1048576) (hRL : K.ints w loRL hiRL pRL R.st) (hmRR : R.sl.length ≤ 1048576) (hRR : K.ints w loRR hiRR pRR R.sl) :
    Calls Tryz.prog 3 #[.agg #[.int .i64 R.ln, pRL, pRR], .int .i64 fr, .int .i64 to, .agg #[.int .i64 f.1, .int .i64 f.2]] w fun e w' => e = .returned (.bool true) ∧ K.Ext w w' := by
  have hRL_ := hRL
  have shRL := hRL
  obtain ⟨oRL, cRL, rfl, _⟩ := shRL
  have hRR_ := hRR
  have shRR := hRR
  obtain ⟨oRR, cRR, rfl, _⟩ := shRR
  obtain ⟨F, hF⟩ : ∃ F, Z.teO R fr to f = F := ⟨_, rfl⟩
  have HSP : Hid (∀ (W : World) {a b c d : Nat} {o1 o2 : Option Addr}, K.ints W a b (.slice o1 R.st.length R.st.length) R.st → K.ints W c d (.slice o2 R.sl.length R.sl.length) R.sl → Calls Tryz.prog 7 #[.agg #[.int .i64 R.ln, .slice o1 R.st.length R.st.length, .slice o2 R.sl.length R.sl.length], .int .i64 fr, .int .i64 to, .agg #[.int .i64 f.1, .int .i64 f.2]] W fun e w'' => e = .returned (.tuple #[.int .i64 F.1, .int .i64 F.2]) ∧ K.Ext W w'') := Z.hide (fun W {_ _ _ _ _ _} h1 h2 => by rw [← hF]; exact spec_TransferError R fr to f W hmRL h1 K.roomy_full hmRR h2 K.roomy_full)
  have HIM : Hid (∀ (W : World) {a b c d : Nat} {o1 o2 : Option Addr}, K.ints W a b (.slice o1 R.st.length R.st.length) R.st → K.ints W c d (.slice o2 R.sl.length R.sl.length) R.sl → Calls Tryz.prog 10 #[.agg #[.int .i64 R.ln, .slice o1 R.st.length R.st.length, .slice o2 R.sl.length R.sl.length], .int .i64 fr, .int .i64 to, .agg #[.int .i64 f.1, .int .i64 f.2]] W fun e w'' => e = .returned (.tuple #[.int .i64 F.1, .int .i64 F.2]) ∧ K.Ext W w'') := Z.hide (fun W {_ _ _ _ _ _} h1 h2 => by rw [← hF]; exact impl_TransferError R fr to f W hmRL h1 K.roomy_full hmRR h2 K.roomy_full)
  have HTF := Z.hide (fun W => toFigure_any f.1 f.2 W)
  have p1 : ¬ (1048576 - (R.st.length : Int) - (R.sl.length : Int) < 0) := by omega
  have p2 : (F.2 == F.2) = true := by simp
  have p3 : (F.1 == F.1) = true := by simp
  clear hF
  have X0 : K.Ext w w := K.Ext.refl w
  go_enter Tryz.func3, Tryz.ntmps3
  go_wp2_with (go_at_call 6; refine K.call (by with_reducible rfl) (by with_reducible rfl) (szRule_ok R 1048576 _ (by decide) (by decide) hs hmRL (K.ints.alloc (K.ints.alloc hRL_ _) _) hmRR (K.ints.alloc (K.ints.alloc hRR_ _) _)) ?_; rintro e w1 ⟨rfl, x1⟩; have s1 : w.heap.size + 2 ≤ w1.heap.size := (by have h_ := x1.size; (try simp at h_); omega); have X1 := K.Ext.trans (K.Ext.alloc (K.Ext.alloc X0 _) _) x1; obtain ⟨c1_0_0, c1_0_1, c1_0_2⟩ := K.c3 x1 (w.heap.size) (.int .i64 R.ln) (.slice oRL R.st.length cRL) (.slice oRR R.sl.length cRR) (by go_simp); have z1_0 : w.heap.size < w1.heap.size := World.block_lt_of_cell? w1 _ c1_0_0; have d1_0 : ¬ (w.heap.size = w1.heap.size) := (by omega); have e1_0 : ¬ (w1.heap.size = w.heap.size) := (by omega); obtain ⟨c1_1_0, c1_1_1⟩ := K.c2 x1 (w.heap.size + 1) (.int .i64 f.1) (.int .i64 f.2) (by go_simp); have z1_1 : w.heap.size + 1 < w1.heap.size := World.block_lt_of_cell? w1 _ c1_1_0; have d1_1 : ¬ (w.heap.size + 1 = w1.heap.size) := (by omega); have e1_1 : ¬ (w1.heap.size = w.heap.size + 1) := (by omega); have n1_0 : ¬ (w.heap.size + 1 = w.heap.size) := (by omega); have n0_1 : ¬ (w.heap.size = w.heap.size + 1) := (by omega); have F1_1 := K.ints.ext (K.ints.alloc (K.ints.alloc hRL_ _) _) x1; have F2_1 := K.ints.ext (K.ints.alloc (K.ints.alloc hRR_ _) _) x1; clear hRL_ hRR_)
  go_wp2_with fail
  refine K.wp_region_x 10 [1, 2, 0, 0, 1, 2, 2, 0, 0, 0] [K.SP.any, (K.SP.rule R), K.SP.any, K.SP.any, K.SP.any, K.SP.is (.agg #[.int .i64 f.1, .int .i64 f.2]), K.SP.is (.tuple #[.int .i64 F.1, .int .i64 F.2])] (by kernel_rfl) (by kernel_rfl) ?_
  simp only [List.take_succ_cons, List.take_zero, List.drop_succ_cons, List.drop_zero]
  refine K.xh ?_
  simp only [Act.put, List.setIfInBounds_toArray, List.set]
  apply K.x_call
  · rfl
  · rfl
  · intro w'; go_simp; first | done | rfl | exact ⟨rfl, rfl⟩
  · intro w' hx hp; have hc := hx.all.1.1; have hf := hx.all.1.2; have hc' := hx.all.2.1; have hf' := hx.all.2.2; exact (toRule_sp R _ (by have h_ := hx.size; simp at h_; omega) (by have h_ := hx.size; simp at h_; omega) hmRL (K.ints.ext (K.ints.drew (F1_1)) hx) hmRR (K.ints.ext (K.ints.drew (F2_1)) hx))
  intro v1 w_1_ hx_1_ hv1
  obtain ⟨o2_1, o2_1_, rfl, _, _⟩ := hv1
  simp only [Act.put, List.setIfInBounds_toArray, List.set]
  iterate 2
    refine K.xp ?_
    simp only [Act.put, List.setIfInBounds_toArray, List.set]
  refine K.xh ?_
  simp only [Act.put, List.setIfInBounds_toArray, List.set]
  apply K.x_call_is
  · rfl
  · rfl
  · rfl
  · intro w'; go_simp; first | done | rfl | exact ⟨rfl, rfl⟩
  · intro w' hx hp; have hc := hx.all.1.1; have hf := hx.all.1.2; have hc' := hx.all.2.1; have hf' := hx.all.2.2; exact HTF.out _
  intro w_5_ hx_5_
  simp only [Act.put, List.setIfInBounds_toArray, List.set]
  apply K.x_call_is
  · rfl
  · rfl
  · rfl
  · intro w'; go_simp; first | done | rfl | exact ⟨rfl, rfl⟩
  · intro w' hx hp; have hc := hx.all.1.1; have hf := hx.all.1.2; have hc' := hx.all.2.1; have hf' := hx.all.2.2; exact (by obtain ⟨⟨l_, h_, q_⟩, ⟨l2_, h2_, q2_⟩⟩ := K.SP.rule_at (hp 1 _ (by kernel_rfl) rfl rfl); exact HSP.out _ q_ q2_)
  intro w_6_ hx_6_
  simp only [Act.put, List.setIfInBounds_toArray, List.set]
  iterate 3
    refine K.xp ?_
    simp only [Act.put, List.setIfInBounds_toArray, List.set]
  apply K.x_done
  intro w2 h_x
  have x2 := hx_1_.trans (hx_5_.trans (hx_6_.trans h_x))
  have hxe1 := K.Ext.id (hx_5_.trans (hx_6_.trans h_x))
  clear h_x hx_1_ hx_5_ hx_6_
  obtain ⟨⟨hcw2, hfw2⟩, hc'w2, hf'w2⟩ := x2.all
  have s2 : w1.heap.size ≤ w2.heap.size := (by have h_ := x2.size; (try simp at h_); omega)
  have X2 := K.Ext.trans (K.Ext.drew (X1)) x2
  obtain ⟨c2_0_0, c2_0_1, c2_0_2⟩ := K.c3 x2 (w.heap.size) (.int .i64 R.ln) (.slice oRL R.st.length cRL) (.slice oRR R.sl.length cRR) (by go_simp)
  have z2_0 : w.heap.size < w2.heap.size := World.block_lt_of_cell? w2 _ c2_0_0
  have d2_0 : ¬ (w.heap.size = w2.heap.size) := (by omega)
  have e2_0 : ¬ (w2.heap.size = w.heap.size) := (by omega)
  obtain ⟨c2_1_0, c2_1_1⟩ := K.c2 x2 (w.heap.size + 1) (.int .i64 f.1) (.int .i64 f.2) (by go_simp)
  have z2_1 : w.heap.size + 1 < w2.heap.size := World.block_lt_of_cell? w2 _ c2_1_0
  have d2_1 : ¬ (w.heap.size + 1 = w2.heap.size) := (by omega)
  have e2_1 : ¬ (w2.heap.size = w.heap.size + 1) := (by omega)
  have F1_2 := K.ints.ext (K.ints.drew (F1_1)) x2
  have F2_2 := K.ints.ext (K.ints.drew (F2_1)) x2
  clear c1_0_0 c1_0_1 c1_0_2 z1_0 d1_0 e1_0 c1_1_0 c1_1_1 z1_1 d1_1 e1_1 F1_1 F2_1
  go_wp2_with fail
  refine NoPanic.normal ?_
  go_wp2_with (go_at_call 8; refine K.call (by with_reducible rfl) (by with_reducible rfl) (toRule_any R _ (by first | omega | (simp; omega)) (by first | omega | (simp; omega)) hmRL (F1_2) hmRR (F2_2)) ?_; rintro e w3 ⟨⟨o3, o3_, rfl, g3, h3⟩, x3⟩; have F3_3 : K.ints w3 (w2.heap.size) (w3.heap.size) (.slice o3 R.st.length R.st.length) (R.st) := g3.mono (by simp) (Nat.le_refl _); clear g3; have F4_3 : K.ints w3 (w2.heap.size) (w3.heap.size) (.slice o3_ R.sl.length R.sl.length) (R.sl) := h3.mono (by simp) (Nat.le_refl _); clear h3; have s3 : w2.heap.size ≤ w3.heap.size := (by have h_ := x3.size; (try simp at h_); omega); have X3 := K.Ext.trans (X2) x3; obtain ⟨c3_0_0, c3_0_1, c3_0_2⟩ := K.c3 x3 (w.heap.size) (.int .i64 R.ln) (.slice oRL R.st.length cRL) (.slice oRR R.sl.length cRR) (by go_simp); have z3_0 : w.heap.size < w3.heap.size := World.block_lt_of_cell? w3 _ c3_0_0; have d3_0 : ¬ (w.heap.size = w3.heap.size) := (by omega); have e3_0 : ¬ (w3.heap.size = w.heap.size) := (by omega); obtain ⟨c3_1_0, c3_1_1⟩ := K.c2 x3 (w.heap.size + 1) (.int .i64 f.1) (.int .i64 f.2) (by go_simp); have z3_1 : w.heap.size + 1 < w3.heap.size := World.block_lt_of_cell? w3 _ c3_1_0; have d3_1 : ¬ (w.heap.size + 1 = w3.heap.size) := (by omega); have e3_1 : ¬ (w3.heap.size = w.heap.size + 1) := (by omega); have F1_3 := K.ints.ext (F1_2) x3; have F2_3 := K.ints.ext (F2_2) x3; clear c2_0_0 c2_0_1 c2_0_2 z2_0 d2_0 e2_0 c2_1_0 c2_1_1 z2_1 d2_1 e2_1 F1_2 F2_2)
  go_wp2_with fail
  refine K.wp_region_x 9 [1, 0, 0, 1, 2, 2, 0, 0, 0] [K.SP.any, K.SP.any, K.SP.any, K.SP.any, K.SP.is (.agg #[.int .i64 f.1, .int .i64 f.2]), K.SP.is (.tuple #[.int .i64 F.1, .int .i64 F.2])] (by kernel_rfl) (by kernel_rfl) ?_
  simp only [List.take_succ_cons, List.take_zero, List.drop_succ_cons, List.drop_zero]
  refine K.xh ?_
  simp only [Act.put, List.setIfInBounds_toArray, List.set]
  iterate 2
    refine K.xp ?_
    simp only [Act.put, List.setIfInBounds_toArray, List.set]
  refine K.xh ?_
  simp only [Act.put, List.setIfInBounds_toArray, List.set]
  apply K.x_call_is
  · rfl
  · rfl
  · rfl
  · intro w'; go_simp; first | done | rfl | exact ⟨rfl, rfl⟩
  · intro w' hx hp; have hc := hx.all.1.1; have hf := hx.all.1.2; have hc' := hx.all.2.1; have hf' := hx.all.2.2; exact HTF.out _
  intro w_4_ hx_4_
  simp only [Act.put, List.setIfInBounds_toArray, List.set]
  apply K.x_call_is
  · rfl
  · rfl
  · rfl
  · intro w'; go_simp; first | done | rfl | exact ⟨rfl, rfl⟩
  · intro w' hx hp; have hc := hx.all.1.1; have hf := hx.all.1.2; have hc' := hx.all.2.1; have hf' := hx.all.2.2; exact HIM.out _ (K.ints.ext (K.ints.drew (K.ints.alloc F3_3 _)) hx) (K.ints.ext (K.ints.drew (K.ints.alloc F4_3 _)) hx)
  intro w_5_ hx_5_
  simp only [Act.put, List.setIfInBounds_toArray, List.set]
  iterate 3
    refine K.xp ?_
    simp only [Act.put, List.setIfInBounds_toArray, List.set]
  apply K.x_done
  intro w4 h_x
  have x4 := hx_4_.trans (hx_5_.trans h_x)
  clear h_x hx_4_ hx_5_
  obtain ⟨⟨hcw4, hfw4⟩, hc'w4, hf'w4⟩ := x4.all
  have s4 : w3.heap.size + 1 ≤ w4.heap.size := (by have h_ := x4.size; (try simp at h_); omega)
  have X4 := K.Ext.trans (K.Ext.drew (K.Ext.alloc X3 _)) x4
  obtain ⟨c4_0_0, c4_0_1, c4_0_2⟩ := K.c3 x4 (w.heap.size) (.int .i64 R.ln) (.slice oRL R.st.length cRL) (.slice oRR R.sl.length cRR) (by go_simp)
  have z4_0 : w.heap.size < w4.heap.size := World.block_lt_of_cell? w4 _ c4_0_0
  have d4_0 : ¬ (w.heap.size = w4.heap.size) := (by omega)
  have e4_0 : ¬ (w4.heap.size = w.heap.size) := (by omega)
  obtain ⟨c4_1_0, c4_1_1⟩ := K.c2 x4 (w.heap.size + 1) (.int .i64 f.1) (.int .i64 f.2) (by go_simp)
  have z4_1 : w.heap.size + 1 < w4.heap.size := World.block_lt_of_cell? w4 _ c4_1_0
  have d4_1 : ¬ (w.heap.size + 1 = w4.heap.size) := (by omega)
  have e4_1 : ¬ (w4.heap.size = w.heap.size + 1) := (by omega)
  obtain ⟨c4_2_0, c4_2_1, c4_2_2⟩ := K.c3 x4 (w3.heap.size) (.int .i64 R.ln) (.slice o3 R.st.length R.st.length) (.slice o3_ R.sl.length R.sl.length) (by go_simp)
  obtain ⟨f4_2_0, f4_2_1, f4_2_2⟩ := K.f3 x4 (w3.heap.size) (by go_simp)
  have z4_2 : w3.heap.size < w4.heap.size := World.block_lt_of_cell? w4 _ c4_2_0
  have d4_2 : ¬ (w3.heap.size = w4.heap.size) := (by omega)
  have e4_2 : ¬ (w4.heap.size = w3.heap.size) := (by omega)
  have n2_0 : ¬ (w3.heap.size = w.heap.size) := (by omega)
  have n0_2 : ¬ (w.heap.size = w3.heap.size) := (by omega)
  have n2_1 : ¬ (w3.heap.size = w.heap.size + 1) := (by omega)
  have n1_2 : ¬ (w.heap.size + 1 = w3.heap.size) := (by omega)
  have F1_4 := K.ints.ext (K.ints.drew (K.ints.alloc F1_3 _)) x4
  have F2_4 := K.ints.ext (K.ints.drew (K.ints.alloc F2_3 _)) x4
  have F3_4 := K.ints.ext (K.ints.drew (K.ints.alloc F3_3 _)) x4
  have F4_4 := K.ints.ext (K.ints.drew (K.ints.alloc F4_3 _)) x4
  clear c3_0_0 c3_0_1 c3_0_2 z3_0 d3_0 e3_0 c3_1_0 c3_1_1 z3_1 d3_1 e3_1 F1_3 F2_3 F3_3 F4_3
  go_wp2_with fail
  refine NoPanic.normal ?_
  go_wp2_with fail
  refine K.wp_region_y (R := K.RE) 4 [1, 1, 2, 2] [K.SQ.any, K.SQ.any, (K.SQ.of (K.SP.rule R)), K.SQ.is (.bool true)] (by kernel_rfl) (by kernel_rfl) ?_
  simp only [List.take_succ_cons, List.take_zero, List.drop_succ_cons, List.drop_zero]
  iterate 2
    apply K.y_held
    · rfl
    · rfl
    · intro w' hx; have hx : K.Ext _ _ := hx; have hc := hx.all.1.1; have hf := hx.all.1.2; have hc' := hx.all.2.1; have hf' := hx.all.2.2; go_simp; first | done | rfl | exact ⟨rfl, rfl⟩
    simp only [Act.put, List.setIfInBounds_toArray, List.set]
  apply K.y_call
  · rfl
  · rfl
  · rfl
  · intro w'; go_simp; first | done | rfl | exact ⟨rfl, rfl⟩
  · intro w' hx hp; have hx : K.Ext _ _ := hx; have hc := hx.all.1.1; have hf := hx.all.1.2; have hc' := hx.all.2.1; have hf' := hx.all.2.2; exact (toRule_sp R _ (by have h_ := hx.size; simp at h_; omega) (by have h_ := hx.size; simp at h_; omega) hmRL (K.ints.ext (K.ints.drew (F1_4)) hx) hmRR (K.ints.ext (K.ints.drew (F2_4)) hx))
  intro v2 w_2_ hx_2_ hv2
  replace hx_2_ : K.Ext _ _ := hx_2_
  obtain ⟨o5_2, o5_2_, rfl, _, _⟩ := hv2
  simp only [Act.put, List.setIfInBounds_toArray, List.set]
  apply K.y_call_is
  · rfl
  · rfl
  · rfl
  · intro w'; go_simp; first | done | rfl | exact ⟨rfl, rfl⟩
  · intro w' hx hp; have hx : K.Ext _ _ := hx; have hc := hx.all.1.1; have hf := hx.all.1.2; have hc' := hx.all.2.1; have hf' := hx.all.2.2; exact (by obtain ⟨⟨l_, h_, q_⟩, ⟨l2_, h2_, q2_⟩⟩ := K.SP.rule_at (hp 2 _ (by kernel_rfl) rfl rfl); exact eqRule_same R _ hmRL (K.ints.ext (K.ints.drew (F3_4)) hx) hmRR (K.ints.ext (K.ints.drew (F4_4)) hx) q_ q2_)
  intro w_3_ hx_3_
  replace hx_3_ : K.Ext _ _ := hx_3_
  simp only [Act.put, List.setIfInBounds_toArray, List.set]
  apply K.y_done
  intro w5 h_x
  replace h_x : K.Ext _ _ := h_x
  have x5 := hx_2_.trans (hx_3_.trans h_x)
  have hxe2 := K.Ext.id (hx_3_.trans h_x)
  clear h_x hx_2_ hx_3_
  obtain ⟨⟨hcw5, hfw5⟩, hc'w5, hf'w5⟩ := x5.all
  have s5 : w4.heap.size ≤ w5.heap.size := (by have h_ := x5.size; (try simp at h_); omega)
  have X5 := K.Ext.trans (K.Ext.drew (X4)) x5
  obtain ⟨c5_0_0, c5_0_1, c5_0_2⟩ := K.c3 x5 (w.heap.size) (.int .i64 R.ln) (.slice oRL R.st.length cRL) (.slice oRR R.sl.length cRR) (by go_simp)
  have z5_0 : w.heap.size < w5.heap.size := World.block_lt_of_cell? w5 _ c5_0_0
  have d5_0 : ¬ (w.heap.size = w5.heap.size) := (by omega)
  have e5_0 : ¬ (w5.heap.size = w.heap.size) := (by omega)
  obtain ⟨c5_1_0, c5_1_1⟩ := K.c2 x5 (w.heap.size + 1) (.int .i64 f.1) (.int .i64 f.2) (by go_simp)
  have z5_1 : w.heap.size + 1 < w5.heap.size := World.block_lt_of_cell? w5 _ c5_1_0
  have d5_1 : ¬ (w.heap.size + 1 = w5.heap.size) := (by omega)
  have e5_1 : ¬ (w5.heap.size = w.heap.size + 1) := (by omega)
  obtain ⟨c5_2_0, c5_2_1, c5_2_2⟩ := K.c3 x5 (w3.heap.size) (.int .i64 R.ln) (.slice o3 R.st.length R.st.length) (.slice o3_ R.sl.length R.sl.length) (by go_simp)
  obtain ⟨f5_2_0, f5_2_1, f5_2_2⟩ := K.f3 x5 (w3.heap.size) (by go_simp)
  have z5_2 : w3.heap.size < w5.heap.size := World.block_lt_of_cell? w5 _ c5_2_0
  have d5_2 : ¬ (w3.heap.size = w5.heap.size) := (by omega)
  have e5_2 : ¬ (w5.heap.size = w3.heap.size) := (by omega)
  have F1_5 := K.ints.ext (K.ints.drew (F1_4)) x5
  have F2_5 := K.ints.ext (K.ints.drew (F2_4)) x5
  have F3_5 := K.ints.ext (K.ints.drew (F3_4)) x5
  have F4_5 := K.ints.ext (K.ints.drew (F4_4)) x5
  clear c4_0_0 c4_0_1 c4_0_2 z4_0 d4_0 e4_0 c4_1_0 c4_1_1 z4_1 d4_1 e4_1 c4_2_0 c4_2_1 c4_2_2 f4_2_0 f4_2_1 f4_2_2 z4_2 d4_2 e4_2 F1_4 F2_4 F3_4 F4_4
  go_wp2_with fail
  refine NoPanic.normal ?_
  go_wp2_with fail
  refine bodyPost_ret (v := .bool true) (by unfold results; rw [Tryz.results3]; go_simp) rfl ⟨rfl, ?_⟩
  repeat with_reducible refine K.Ext.setCell ?_ (by dsimp only; omega) _
  exact (by repeat' (first | with_reducible exact X5 | with_reducible refine K.Ext.setCell ?_ ?_ _ | with_reducible refine K.Ext.alloc ?_ _ | with_reducible refine K.Ext.drew ?_ | (dsimp only; omega) | omega | (simp; omega)))
theorem law_FnExactTransferError (R : Z.Rl) (fr to : Int) (f : Int × Int) (p q : Value) (W : World) (hl : (R.st.length : Int) ≤ 9223372036854775807) (hl' : (R.sl.length : Int) ≤ 9223372036854775807) (hx : K.ints W 0 W.heap.size p R.st) (hx' : K.ints W 0 W.heap.size q R.sl) :
    Calls Tryz.prog 3 #[.agg #[.int .i64 R.ln, p, q], .int .i64 fr, .int .i64 to, .agg #[.int .i64 f.1, .int .i64 f.2]] W fun e w' => e = .returned (.bool true) ∧ K.Ext W w' := by
  by_cases hs : (R.st.length : Int) + (R.sl.length : Int) ≤ 1048576
  · exact TransferError_small R fr to f W (Nat.le_refl _) (Nat.le_refl _) hs (by omega) hx (by omega) hx'
  · exact TransferError_big R fr to f W hs hl hx hl' hx'
end Go.Proofs.YtimpcelbekhipaaGreat
end
section
namespace Go.Proofs.YtimpcelbekhipaaGreat
open Go.ChangeShapes Go.WideShapes Go.ChangeAt Go.RowKit
namespace frameFnExactTransferError
theorem own : ownKnob Tryz.prog.godebug = none := by kernel_rfl
theorem laidOut : laidOutB Tryz.prog = true := by kernel_rfl
theorem cells26 : Tryz.prog.cellsOf 26 = 2 := by kernel_rfl
theorem reads : ∀ t ∈ Tryz.f3.params.toList, Tryz.prog.readableRec t = true ∧ t < Tryz.prog.types.size := by
  rw [Tryz.params3]
  intro t ht
  simp only [List.mem_cons, List.not_mem_nil, or_false] at ht
  rcases ht with rfl | rfl | rfl | rfl <;> exact ⟨by kernel_rfl, of_decide_eq_true (by kernel_rfl)⟩
set_option maxRecDepth 100000 in
theorem lifted (os : Os) (started : os.Started) (H : Type) (enc : TypeId × Value → H) :
    ReturnsInHanded {} Tryz.checked os 3 .any (Rows.fnExactTransferErrorSpec.pre6 enc Tryz.prog Tryz.f3 Rows.fnExactTransferErrorRow.domain false) (Rows.fnExactTransferErrorSpec.post enc Tryz.prog Tryz.f3 false true false false) := by
  refine returnsInHanded_of_change (C := Tryz.checked) own started (by kernel_rfl) Tryz.func3
    (ChangeSpec.witness6 (enc := enc) (C := Tryz.checked) false ⟨#[], #[.agg #[.int .i64 0, .slice none 0 0, .slice none 0 0], .int .i64 0, .int .i64 0, .agg #[.int .i64 0, .int .i64 0]], []⟩ 8 (by kernel_rfl) (by kernel_rfl) (by kernel_rfl) (by kernel_rfl)) ?_
  intro W base args ds gs before hval0 hW hcnd _
  have hval : ∀ (j : Nat) t v, Tryz.f3.params[j]? = some t → args[j]? = some v → Value.okWide Tryz.prog W .any base t v := hval0
  have hW' := hW
  obtain ⟨p, q, hA0, hV, rfl, hfz, hnd⟩ := hW
  have hA : DataW.TrodAll enc Tryz.prog W 0 (fun _ => true) true Tryz.f3.params.toList args.toList ds p := hA0
  rw [Tryz.params3] at hA hval
  obtain ⟨rfl, rfl⟩ := trodVars_none hV
  obtain ⟨v0, vs0, d0, ds0, p0, q0, hargs, rfl, rfl, h0, r0⟩ := trodAll_cons hA
  obtain ⟨v1, vs1, d1, ds1, p1, q1, rfl, rfl, rfl, h1, r1⟩ := trodAll_cons r0
  obtain ⟨v2, vs2, d2, ds2, p2, q2, rfl, rfl, rfl, h2, r2⟩ := trodAll_cons r1
  obtain ⟨v3, vs3, d3, ds3, p3, q3, rfl, rfl, rfl, h3, r3⟩ := trodAll_cons r2
  obtain ⟨rfl, rfl, rfl⟩ := trodAll_nil r3
  obtain rfl : args = #[v0, v1, v2, v3] := by cases args; simp_all
  clear hA0 hval0
  obtain ⟨R0, y0, z0, rfl, hx0, kx0, hl0, kl0⟩ := K.rule_arg Tryz.underlying24 Tryz.underlying2 Tryz.underlying22 Tryz.underlying22 Tryz.underlying2 (by kernel_rfl) ⟨by kernel_rfl, by kernel_rfl, by kernel_rfl, by kernel_rfl⟩ ⟨rfl, rfl, rfl⟩ (hval 0 24 v0 rfl rfl) h0
  obtain ⟨x1, rfl, rfl, rfl, wx1⟩ := open_int Tryz.underlying2 (hval 1 2 v1 rfl rfl) h1
  obtain ⟨x2, rfl, rfl, rfl, wx2⟩ := open_int Tryz.underlying2 (hval 2 2 v2 rfl rfl) h2
  obtain ⟨c3, e3, y3, z3, m3, rfl, rfl, rfl, hy3, hz3⟩ := Joins.open_agg2 Tryz.underlying26 (by kernel_rfl) cells26 (hval 3 26 v3 rfl rfl) h3
  obtain ⟨x3, ex3, rfl, wx3⟩ := DataW.trod_int Tryz.underlying2 hy3
  obtain ⟨u3, eu3, rfl, wu3⟩ := DataW.trod_int Tryz.underlying2 hz3
  obtain rfl : c3 = .int .i64 x3 := by simpa using ex3
  obtain rfl : e3 = .int .i64 u3 := by simpa using eu3
  refine Calls.mono (law_FnExactTransferError R0 x1 x2 (x3, u3) _ _ W hl0 kl0 hx0 kx0) fun e W' ⟨he, hg⟩ => ?_
  subst he
  exact ⟨_, rfl, K.law_post laidOut reads rfl Tryz.underlying4 rfl hW' rfl hg⟩
theorem over : Rows.fnExactTransferErrorRow.holds Tryz.pinned (OpenSpec.ofChange Rows.fnExactTransferErrorSpec) :=
  OpenClaim.holds_of_wide 3 Tryz.f3 rfl rfl rfl rfl rfl rfl rfl ⟨rfl, rfl, rfl, rfl, rfl⟩ rfl rfl rfl rfl rfl (by kernel_rfl) Tryz.func3 (by kernel_rfl)
    (of_decide_eq_true (by kernel_rfl)) (by unfold Func.isWrapper; first | (rw [if_pos (by decide +kernel)]; kernel_rfl) | (rw [if_neg (by decide +kernel)]; exact ⟨rfl, rfl⟩))
    (fun os started H enc _ => lifted os started H enc)
/-- The given statement. -/
theorem proved : Rows.FnExactTransferErrorSaid := over
#print axioms proved
end frameFnExactTransferError
end Go.Proofs.YtimpcelbekhipaaGreat
end
