/-
  For every input the law FnTransfers returns true, and its arguments read as before. No condition.
-/
import Derived.Test.YtimpcelbekhipaaGreatPTR5
import Derived.Test.YtimpcelbekhipaaGreatRows
set_option linter.unusedVariables false
section
namespace Go.Z
def teF (X : (Int × Int) × Int) (E : (Int × Int) × (Int × Int) × Int) : Int × Int :=
  if ¬ X.2 = 0 then (0, X.2) else if ¬ E.2.2 = 0 then (0, E.2.2) else if 9000000 < relE X.1 E.1 ∨ 9000000 < relE X.1 E.2.1 then (0, 3) else (max (relE X.1 E.1) (relE X.1 E.2.1), 0)
noncomputable def teO (R : Rl) (fr to : Int) (f : Int × Int) : Int × Int := teF (cuO R fr to f) (xpO fr to f)
theorem figOr_valid {f : Int × Int} (h : (figOr f).2 = 0) : isFig (figOr f).1.1 (figOr f).1.2 = true := by
  unfold figOr at h ⊢
  cases hf : isFig f.1 f.2
  · rw [hf, if_neg (by decide)] at h; exact absurd h (by decide)
  · exact hf
theorem pl_valid {fr to : Int} {f rd : Int × Int} (h : (plO fr to f rd).2 = 0) : isFig (plO fr to f rd).1.1 (plO fr to f rd).1.2 = true := by
  unfold plO at h ⊢
  split at h
  · exact absurd h (by decide)
  rename_i h1
  split at h
  · exact absurd h (by decide)
  rename_i h2
  rw [if_neg h1, if_neg h2]
  exact figOr_valid h
theorem cu_valid {R : Rl} {fr to : Int} {f : Int × Int} (h : (cuO R fr to f).2 = 0) : isFig (cuO R fr to f).1.1 (cuO R fr to f).1.2 = true := by
  unfold cuO at h ⊢
  split at h
  · rename_i h1; rw [if_pos h1]; exact pl_valid h
  · rename_i h1; exact absurd h h1
theorem span_valid {a : Int × Int} (h : (spanOf a).2.2 = 0) : isFig (spanOf a).1.1 (spanOf a).1.2 = true ∧ isFig (spanOf a).2.1.1 (spanOf a).2.1.2 = true := by
  unfold spanOf at h ⊢
  cases h1 : (units a.1 && units a.2)
  · rw [h1, if_neg (by decide)] at h; exact absurd h (by decide)
  · rw [h1, if_pos rfl] at h
    cases h2 : (isFig (below a.1).1 (below a.1).2 && isFig (above a.2).1 (above a.2).2)
    · rw [h2, if_neg (by decide)] at h; exact absurd h (by decide)
    · rw [if_pos rfl, if_pos rfl]; exact Bool.and_eq_true_iff.1 h2
theorem xp_valid {fr to : Int} {f : Int × Int} (h : (xpO fr to f).2.2 = 0) : isFig (xpO fr to f).1.1 (xpO fr to f).1.2 = true ∧ isFig (xpO fr to f).2.1.1 (xpO fr to f).2.1.2 = true := by
  unfold xpO at h ⊢
  split at h
  · exact absurd h (by decide)
  rename_i h1
  split at h
  · exact absurd h (by decide)
  rename_i h2
  rw [if_neg h1, if_neg h2]
  exact span_valid h
end Go.Z
namespace Go.Proofs.YtimpcelbekhipaaGreat
open Go.RowKit
set_option maxHeartbeats 1600000 in
theorem impl_TransferError (R : Z.Rl) (fr : Int) (to : Int) (f : Int × Int) {loRL hiRL loRR hiRR : Nat} {pRL pRR : Value} (w : World)  (hmRL : R.st.length ≤ 1048576) (hRL : K.ints w loRL hiRL pRL R.st) (hcRL : K.roomy pRL R.st.length) (hmRR : R.sl.length ≤ 1048576) (hRR : K.ints w loRR hiRR pRR R.sl) (hcRR : K.roomy pRR R.sl.length) :
    Calls Tryz.prog 10 #[.agg #[.int .i64 R.ln, pRL, pRR], .int .i64 fr, .int .i64 to, .agg #[.int .i64 f.1, .int .i64 f.2]] w fun e w' => e = .returned (.tuple #[.int .i64 ((Z.teO R fr to f).1), .int .i64 ((Z.teO R fr to f).2)]) ∧ K.Ext w w' := by
  have hRL_ := hRL
  have shRL := hRL
  obtain ⟨oRL, cRL, rfl, _⟩ := shRL
  have hRR_ := hRR
  have shRR := hRR
  obtain ⟨oRR, cRR, rfl, _⟩ := shRR
  have HT : Hid (∀ (W : World), K.ints W loRL hiRL (.slice oRL R.st.length cRL) R.st → K.ints W loRR hiRR (.slice oRR R.sl.length cRR) R.sl → Calls Tryz.prog 40 #[.agg #[.int .i64 R.ln, .slice oRL R.st.length cRL, .slice oRR R.sl.length cRR], .int .i64 fr, .int .i64 to, .agg #[.int .i64 f.1, .int .i64 f.2]] W fun e w'' => e = .returned (.tuple #[.agg #[.int .i64 (Z.cuO R fr to f).1.1, .int .i64 (Z.cuO R fr to f).1.2], .int .i64 (Z.cuO R fr to f).2]) ∧ K.Ext W w'') := Z.hide (fun W k1 k2 => impl_placedT R fr to f W hmRL k1 hcRL hmRR k2 hcRR)
  have HX := Z.hide (fun w => impl_TransferExact fr to f w)
  have HV1 := Z.cu_valid (R := R) (fr := fr) (to := to) (f := f)
  have HV2 := Z.xp_valid (fr := fr) (to := to) (f := f)
  have HM : Hid (Z.teO R fr to f = Z.teF (Z.cuO R fr to f) (Z.xpO fr to f)) := Z.hide rfl
  obtain ⟨M, hM⟩ : ∃ M, Z.teO R fr to f = M := ⟨_, rfl⟩
  rw [hM] at HM ⊢
  clear hM
  generalize Z.cuO R fr to f = X at *
  generalize Z.xpO fr to f = E at *
  obtain ⟨x, c⟩ := X
  obtain ⟨lo, hi, d⟩ := E
  dsimp only at HT HX HV1 HV2
  by_cases hc : c = 0
  case neg =>
    have HE : Hid (M = (0, c)) := Z.hide (by rw [HM.out]; unfold Z.teF; rw [if_pos hc])
    have hc' : (c == 0) = false := by simpa using hc
    clear HM HV1 HV2
    have X0 : K.Ext w w := K.Ext.refl w
    go_enter Tryz.func10, Tryz.ntmps10
    go_wp2_with (go_at_call 40; refine K.call (by with_reducible rfl) (by with_reducible rfl) (HT.out _ (K.ints.alloc (K.ints.alloc hRL_ _) _) (K.ints.alloc (K.ints.alloc hRR_ _) _)) ?_; rintro e w1 ⟨rfl, x1⟩; have s1 : w.heap.size + 2 ≤ w1.heap.size := (by have h_ := x1.size; (try simp at h_); omega); have X1 := K.Ext.trans (K.Ext.alloc (K.Ext.alloc X0 _) _) x1; obtain ⟨c1_0_0, c1_0_1, c1_0_2⟩ := K.c3 x1 (w.heap.size) (.int .i64 R.ln) (.slice oRL R.st.length cRL) (.slice oRR R.sl.length cRR) (by go_simp); have z1_0 : w.heap.size < w1.heap.size := World.block_lt_of_cell? w1 _ c1_0_0; have d1_0 : ¬ (w.heap.size = w1.heap.size) := (by omega); have e1_0 : ¬ (w1.heap.size = w.heap.size) := (by omega); obtain ⟨c1_1_0, c1_1_1⟩ := K.c2 x1 (w.heap.size + 1) (.int .i64 f.1) (.int .i64 f.2) (by go_simp); have z1_1 : w.heap.size + 1 < w1.heap.size := World.block_lt_of_cell? w1 _ c1_1_0; have d1_1 : ¬ (w.heap.size + 1 = w1.heap.size) := (by omega); have e1_1 : ¬ (w1.heap.size = w.heap.size + 1) := (by omega); have n1_0 : ¬ (w.heap.size + 1 = w.heap.size) := (by omega); have n0_1 : ¬ (w.heap.size = w.heap.size + 1) := (by omega); have F1_1 := K.ints.ext (K.ints.alloc (K.ints.alloc hRL_ _) _) x1; have F2_1 := K.ints.ext (K.ints.alloc (K.ints.alloc hRR_ _) _) x1; clear hRL_ hRR_)
    rw [HE.out]
    refine bodyPost_ret (v := .tuple #[.int .i64 0, .int .i64 ((x, c).2)]) (by unfold results; rw [Tryz.results10]; go_simp) rfl ⟨rfl, ?_⟩
    repeat with_reducible refine K.Ext.setCell ?_ (by dsimp only; omega) _
    exact (by repeat' (first | with_reducible exact X1 | with_reducible refine K.Ext.setCell ?_ ?_ _ | with_reducible refine K.Ext.alloc ?_ _ | with_reducible refine K.Ext.drew ?_ | (dsimp only; omega) | omega | (simp; omega)))
  subst hc
  by_cases hd : d = 0
  case neg =>
    have HE : Hid (M = (0, d)) := Z.hide (by rw [HM.out]; unfold Z.teF; rw [if_neg (by simp), if_pos hd])
    have hd' : (d == 0) = false := by simpa using hd
    clear HM HV1 HV2
    have X0 : K.Ext w w := K.Ext.refl w
    go_enter Tryz.func10, Tryz.ntmps10
    go_wp2_with (go_at_call 40; refine K.call (by with_reducible rfl) (by with_reducible rfl) (HT.out _ (K.ints.alloc (K.ints.alloc hRL_ _) _) (K.ints.alloc (K.ints.alloc hRR_ _) _)) ?_; rintro e w1 ⟨rfl, x1⟩; have s1 : w.heap.size + 2 ≤ w1.heap.size := (by have h_ := x1.size; (try simp at h_); omega); have X1 := K.Ext.trans (K.Ext.alloc (K.Ext.alloc X0 _) _) x1; obtain ⟨c1_0_0, c1_0_1, c1_0_2⟩ := K.c3 x1 (w.heap.size) (.int .i64 R.ln) (.slice oRL R.st.length cRL) (.slice oRR R.sl.length cRR) (by go_simp); have z1_0 : w.heap.size < w1.heap.size := World.block_lt_of_cell? w1 _ c1_0_0; have d1_0 : ¬ (w.heap.size = w1.heap.size) := (by omega); have e1_0 : ¬ (w1.heap.size = w.heap.size) := (by omega); obtain ⟨c1_1_0, c1_1_1⟩ := K.c2 x1 (w.heap.size + 1) (.int .i64 f.1) (.int .i64 f.2) (by go_simp); have z1_1 : w.heap.size + 1 < w1.heap.size := World.block_lt_of_cell? w1 _ c1_1_0; have d1_1 : ¬ (w.heap.size + 1 = w1.heap.size) := (by omega); have e1_1 : ¬ (w1.heap.size = w.heap.size + 1) := (by omega); have n1_0 : ¬ (w.heap.size + 1 = w.heap.size) := (by omega); have n0_1 : ¬ (w.heap.size = w.heap.size + 1) := (by omega); have F1_1 := K.ints.ext (K.ints.alloc (K.ints.alloc hRL_ _) _) x1; have F2_1 := K.ints.ext (K.ints.alloc (K.ints.alloc hRR_ _) _) x1; clear hRL_ hRR_)
    go_wp2_with (go_at_call 34; refine K.call (by with_reducible rfl) (by with_reducible rfl) (HX.out _) ?_; rintro e w2 ⟨rfl, x2⟩; have s2 : w1.heap.size + 1 ≤ w2.heap.size := (by have h_ := x2.size; (try simp at h_); omega); have X2 := K.Ext.trans (K.Ext.alloc X1 _) x2; obtain ⟨c2_0_0, c2_0_1, c2_0_2⟩ := K.c3 x2 (w.heap.size) (.int .i64 R.ln) (.slice oRL R.st.length cRL) (.slice oRR R.sl.length cRR) (by go_simp); have z2_0 : w.heap.size < w2.heap.size := World.block_lt_of_cell? w2 _ c2_0_0; have d2_0 : ¬ (w.heap.size = w2.heap.size) := (by omega); have e2_0 : ¬ (w2.heap.size = w.heap.size) := (by omega); obtain ⟨c2_1_0, c2_1_1⟩ := K.c2 x2 (w.heap.size + 1) (.int .i64 f.1) (.int .i64 f.2) (by go_simp); have z2_1 : w.heap.size + 1 < w2.heap.size := World.block_lt_of_cell? w2 _ c2_1_0; have d2_1 : ¬ (w.heap.size + 1 = w2.heap.size) := (by omega); have e2_1 : ¬ (w2.heap.size = w.heap.size + 1) := (by omega); obtain ⟨c2_2_0, c2_2_1⟩ := K.c2 x2 (w1.heap.size) (.int .i64 ((x, (0 : Int)).1).1) (.int .i64 ((x, (0 : Int)).1).2) (by go_simp); obtain ⟨f2_2_0, f2_2_1⟩ := K.f2 x2 (w1.heap.size) (by go_simp); have z2_2 : w1.heap.size < w2.heap.size := World.block_lt_of_cell? w2 _ c2_2_0; have d2_2 : ¬ (w1.heap.size = w2.heap.size) := (by omega); have e2_2 : ¬ (w2.heap.size = w1.heap.size) := (by omega); have n2_0 : ¬ (w1.heap.size = w.heap.size) := (by omega); have n0_2 : ¬ (w.heap.size = w1.heap.size) := (by omega); have n2_1 : ¬ (w1.heap.size = w.heap.size + 1) := (by omega); have n1_2 : ¬ (w.heap.size + 1 = w1.heap.size) := (by omega); have F1_2 := K.ints.ext (K.ints.alloc F1_1 _) x2; have F2_2 := K.ints.ext (K.ints.alloc F2_1 _) x2; clear c1_0_0 c1_0_1 c1_0_2 z1_0 d1_0 e1_0 c1_1_0 c1_1_1 z1_1 d1_1 e1_1 F1_1 F2_1)
    rw [HE.out]
    refine bodyPost_ret (v := .tuple #[.int .i64 0, .int .i64 ((lo, hi, d).2.2)]) (by unfold results; rw [Tryz.results10]; go_simp) rfl ⟨rfl, ?_⟩
    repeat with_reducible refine K.Ext.setCell ?_ (by dsimp only; omega) _
    exact (by repeat' (first | with_reducible exact X2 | with_reducible refine K.Ext.setCell ?_ ?_ _ | with_reducible refine K.Ext.alloc ?_ _ | with_reducible refine K.Ext.drew ?_ | (dsimp only; omega) | omega | (simp; omega)))
  subst hd
  obtain ⟨⟨x1, x2⟩, x3, x4⟩ := Z.isFig_parts (HV1 rfl)
  obtain ⟨⟨l1, l2⟩, l3, l4⟩ := Z.isFig_parts (HV2 rfl).1
  obtain ⟨⟨h1, h2⟩, h3, h4⟩ := Z.isFig_parts (HV2 rfl).2
  have HA := Z.hide (fun w => relativeError_any x lo w x1 x2 ⟨x3, x4⟩ l1 l2 ⟨l3, l4⟩)
  have HB := Z.hide (fun w => relativeError_any x hi w x1 x2 ⟨x3, x4⟩ h1 h2 ⟨h3, h4⟩)
  have HR1 : Hid (Z.relO x lo = if 9000000 < Z.relE x lo then (0, 3) else (Z.relE x lo, 0)) := Z.hide rfl
  have HR2 : Hid (Z.relO x hi = if 9000000 < Z.relE x hi then (0, 3) else (Z.relE x hi, 0)) := Z.hide rfl
  have HM2 : Hid (M = if 9000000 < Z.relE x lo ∨ 9000000 < Z.relE x hi then (0, 3) else (max (Z.relE x lo) (Z.relE x hi), 0)) := Z.hide (by rw [HM.out]; unfold Z.teF; rw [if_neg (by simp), if_neg (by simp)])
  clear HV1 HV2 HM
  generalize Z.relE x lo = u at *
  generalize Z.relE x hi = v at *
  by_cases hu : 9000000 < u
  · rw [if_pos hu] at HR1
    rw [HR1.out] at HA
    rw [if_pos (.inl hu)] at HM2
    have X0 : K.Ext w w := K.Ext.refl w
    go_enter Tryz.func10, Tryz.ntmps10
    go_wp2_with (go_at_call 40; refine K.call (by with_reducible rfl) (by with_reducible rfl) (HT.out _ (K.ints.alloc (K.ints.alloc hRL_ _) _) (K.ints.alloc (K.ints.alloc hRR_ _) _)) ?_; rintro e w1 ⟨rfl, x1⟩; have s1 : w.heap.size + 2 ≤ w1.heap.size := (by have h_ := x1.size; (try simp at h_); omega); have X1 := K.Ext.trans (K.Ext.alloc (K.Ext.alloc X0 _) _) x1; obtain ⟨c1_0_0, c1_0_1, c1_0_2⟩ := K.c3 x1 (w.heap.size) (.int .i64 R.ln) (.slice oRL R.st.length cRL) (.slice oRR R.sl.length cRR) (by go_simp); have z1_0 : w.heap.size < w1.heap.size := World.block_lt_of_cell? w1 _ c1_0_0; have d1_0 : ¬ (w.heap.size = w1.heap.size) := (by omega); have e1_0 : ¬ (w1.heap.size = w.heap.size) := (by omega); obtain ⟨c1_1_0, c1_1_1⟩ := K.c2 x1 (w.heap.size + 1) (.int .i64 f.1) (.int .i64 f.2) (by go_simp); have z1_1 : w.heap.size + 1 < w1.heap.size := World.block_lt_of_cell? w1 _ c1_1_0; have d1_1 : ¬ (w.heap.size + 1 = w1.heap.size) := (by omega); have e1_1 : ¬ (w1.heap.size = w.heap.size + 1) := (by omega); have n1_0 : ¬ (w.heap.size + 1 = w.heap.size) := (by omega); have n0_1 : ¬ (w.heap.size = w.heap.size + 1) := (by omega); have F1_1 := K.ints.ext (K.ints.alloc (K.ints.alloc hRL_ _) _) x1; have F2_1 := K.ints.ext (K.ints.alloc (K.ints.alloc hRR_ _) _) x1; clear hRL_ hRR_)
    go_wp2_with (go_at_call 34; refine K.call (by with_reducible rfl) (by with_reducible rfl) (HX.out _) ?_; rintro e w2 ⟨rfl, x2⟩; have s2 : w1.heap.size + 1 ≤ w2.heap.size := (by have h_ := x2.size; (try simp at h_); omega); have X2 := K.Ext.trans (K.Ext.alloc X1 _) x2; obtain ⟨c2_0_0, c2_0_1, c2_0_2⟩ := K.c3 x2 (w.heap.size) (.int .i64 R.ln) (.slice oRL R.st.length cRL) (.slice oRR R.sl.length cRR) (by go_simp); have z2_0 : w.heap.size < w2.heap.size := World.block_lt_of_cell? w2 _ c2_0_0; have d2_0 : ¬ (w.heap.size = w2.heap.size) := (by omega); have e2_0 : ¬ (w2.heap.size = w.heap.size) := (by omega); obtain ⟨c2_1_0, c2_1_1⟩ := K.c2 x2 (w.heap.size + 1) (.int .i64 f.1) (.int .i64 f.2) (by go_simp); have z2_1 : w.heap.size + 1 < w2.heap.size := World.block_lt_of_cell? w2 _ c2_1_0; have d2_1 : ¬ (w.heap.size + 1 = w2.heap.size) := (by omega); have e2_1 : ¬ (w2.heap.size = w.heap.size + 1) := (by omega); obtain ⟨c2_2_0, c2_2_1⟩ := K.c2 x2 (w1.heap.size) (.int .i64 ((x, (0 : Int)).1).1) (.int .i64 ((x, (0 : Int)).1).2) (by go_simp); obtain ⟨f2_2_0, f2_2_1⟩ := K.f2 x2 (w1.heap.size) (by go_simp); have z2_2 : w1.heap.size < w2.heap.size := World.block_lt_of_cell? w2 _ c2_2_0; have d2_2 : ¬ (w1.heap.size = w2.heap.size) := (by omega); have e2_2 : ¬ (w2.heap.size = w1.heap.size) := (by omega); have n2_0 : ¬ (w1.heap.size = w.heap.size) := (by omega); have n0_2 : ¬ (w.heap.size = w1.heap.size) := (by omega); have n2_1 : ¬ (w1.heap.size = w.heap.size + 1) := (by omega); have n1_2 : ¬ (w.heap.size + 1 = w1.heap.size) := (by omega); have F1_2 := K.ints.ext (K.ints.alloc F1_1 _) x2; have F2_2 := K.ints.ext (K.ints.alloc F2_1 _) x2; clear c1_0_0 c1_0_1 c1_0_2 z1_0 d1_0 e1_0 c1_1_0 c1_1_1 z1_1 d1_1 e1_1 F1_1 F2_1)
    go_wp2_with (go_at_call 41; refine K.call (by with_reducible rfl) (by with_reducible rfl) (HA.out _) ?_; rintro e w3 ⟨rfl, x3⟩; have s3 : w2.heap.size + 2 ≤ w3.heap.size := (by have h_ := x3.size; (try simp at h_); omega); have X3 := K.Ext.trans (K.Ext.alloc (K.Ext.alloc X2 _) _) x3; obtain ⟨c3_0_0, c3_0_1, c3_0_2⟩ := K.c3 x3 (w.heap.size) (.int .i64 R.ln) (.slice oRL R.st.length cRL) (.slice oRR R.sl.length cRR) (by go_simp); have z3_0 : w.heap.size < w3.heap.size := World.block_lt_of_cell? w3 _ c3_0_0; have d3_0 : ¬ (w.heap.size = w3.heap.size) := (by omega); have e3_0 : ¬ (w3.heap.size = w.heap.size) := (by omega); obtain ⟨c3_1_0, c3_1_1⟩ := K.c2 x3 (w.heap.size + 1) (.int .i64 f.1) (.int .i64 f.2) (by go_simp); have z3_1 : w.heap.size + 1 < w3.heap.size := World.block_lt_of_cell? w3 _ c3_1_0; have d3_1 : ¬ (w.heap.size + 1 = w3.heap.size) := (by omega); have e3_1 : ¬ (w3.heap.size = w.heap.size + 1) := (by omega); obtain ⟨c3_2_0, c3_2_1⟩ := K.c2 x3 (w1.heap.size) (.int .i64 ((x, (0 : Int)).1).1) (.int .i64 ((x, (0 : Int)).1).2) (by go_simp); obtain ⟨f3_2_0, f3_2_1⟩ := K.f2 x3 (w1.heap.size) (by go_simp); have z3_2 : w1.heap.size < w3.heap.size := World.block_lt_of_cell? w3 _ c3_2_0; have d3_2 : ¬ (w1.heap.size = w3.heap.size) := (by omega); have e3_2 : ¬ (w3.heap.size = w1.heap.size) := (by omega); obtain ⟨c3_3_0, c3_3_1⟩ := K.c2 x3 (w2.heap.size) (.int .i64 ((lo, hi, (0 : Int)).1).1) (.int .i64 ((lo, hi, (0 : Int)).1).2) (by go_simp); obtain ⟨f3_3_0, f3_3_1⟩ := K.f2 x3 (w2.heap.size) (by go_simp); have z3_3 : w2.heap.size < w3.heap.size := World.block_lt_of_cell? w3 _ c3_3_0; have d3_3 : ¬ (w2.heap.size = w3.heap.size) := (by omega); have e3_3 : ¬ (w3.heap.size = w2.heap.size) := (by omega); have n3_0 : ¬ (w2.heap.size = w.heap.size) := (by omega); have n0_3 : ¬ (w.heap.size = w2.heap.size) := (by omega); have n3_1 : ¬ (w2.heap.size = w.heap.size + 1) := (by omega); have n1_3 : ¬ (w.heap.size + 1 = w2.heap.size) := (by omega); have n3_2 : ¬ (w2.heap.size = w1.heap.size) := (by omega); have n2_3 : ¬ (w1.heap.size = w2.heap.size) := (by omega); obtain ⟨c3_4_0, c3_4_1⟩ := K.c2 x3 (w2.heap.size + 1) (.int .i64 ((lo, hi, (0 : Int)).2.1).1) (.int .i64 ((lo, hi, (0 : Int)).2.1).2) (by go_simp); obtain ⟨f3_4_0, f3_4_1⟩ := K.f2 x3 (w2.heap.size + 1) (by go_simp); have z3_4 : w2.heap.size + 1 < w3.heap.size := World.block_lt_of_cell? w3 _ c3_4_0; have d3_4 : ¬ (w2.heap.size + 1 = w3.heap.size) := (by omega); have e3_4 : ¬ (w3.heap.size = w2.heap.size + 1) := (by omega); have n4_0 : ¬ (w2.heap.size + 1 = w.heap.size) := (by omega); have n0_4 : ¬ (w.heap.size = w2.heap.size + 1) := (by omega); have n4_1 : ¬ (w2.heap.size + 1 = w.heap.size + 1) := (by omega); have n1_4 : ¬ (w.heap.size + 1 = w2.heap.size + 1) := (by omega); have n4_2 : ¬ (w2.heap.size + 1 = w1.heap.size) := (by omega); have n2_4 : ¬ (w1.heap.size = w2.heap.size + 1) := (by omega); have n4_3 : ¬ (w2.heap.size + 1 = w2.heap.size) := (by omega); have n3_4 : ¬ (w2.heap.size = w2.heap.size + 1) := (by omega); have F1_3 := K.ints.ext (K.ints.alloc (K.ints.alloc F1_2 _) _) x3; have F2_3 := K.ints.ext (K.ints.alloc (K.ints.alloc F2_2 _) _) x3; clear c2_0_0 c2_0_1 c2_0_2 z2_0 d2_0 e2_0 c2_1_0 c2_1_1 z2_1 d2_1 e2_1 c2_2_0 c2_2_1 f2_2_0 f2_2_1 z2_2 d2_2 e2_2 F1_2 F2_2)
    rw [HM2.out]
    refine bodyPost_ret (v := .tuple #[.int .i64 0, .int .i64 (((0 : Int), (3 : Int)).2)]) (by unfold results; rw [Tryz.results10]; go_simp) rfl ⟨rfl, ?_⟩
    repeat with_reducible refine K.Ext.setCell ?_ (by dsimp only; omega) _
    exact (by repeat' (first | with_reducible exact X3 | with_reducible refine K.Ext.setCell ?_ ?_ _ | with_reducible refine K.Ext.alloc ?_ _ | with_reducible refine K.Ext.drew ?_ | (dsimp only; omega) | omega | (simp; omega)))
  rw [if_neg hu] at HR1
  rw [HR1.out] at HA
  by_cases hv : 9000000 < v
  · rw [if_pos hv] at HR2
    rw [HR2.out] at HB
    rw [if_pos (.inr hv)] at HM2
    have X0 : K.Ext w w := K.Ext.refl w
    go_enter Tryz.func10, Tryz.ntmps10
    go_wp2_with (go_at_call 40; refine K.call (by with_reducible rfl) (by with_reducible rfl) (HT.out _ (K.ints.alloc (K.ints.alloc hRL_ _) _) (K.ints.alloc (K.ints.alloc hRR_ _) _)) ?_; rintro e w1 ⟨rfl, x1⟩; have s1 : w.heap.size + 2 ≤ w1.heap.size := (by have h_ := x1.size; (try simp at h_); omega); have X1 := K.Ext.trans (K.Ext.alloc (K.Ext.alloc X0 _) _) x1; obtain ⟨c1_0_0, c1_0_1, c1_0_2⟩ := K.c3 x1 (w.heap.size) (.int .i64 R.ln) (.slice oRL R.st.length cRL) (.slice oRR R.sl.length cRR) (by go_simp); have z1_0 : w.heap.size < w1.heap.size := World.block_lt_of_cell? w1 _ c1_0_0; have d1_0 : ¬ (w.heap.size = w1.heap.size) := (by omega); have e1_0 : ¬ (w1.heap.size = w.heap.size) := (by omega); obtain ⟨c1_1_0, c1_1_1⟩ := K.c2 x1 (w.heap.size + 1) (.int .i64 f.1) (.int .i64 f.2) (by go_simp); have z1_1 : w.heap.size + 1 < w1.heap.size := World.block_lt_of_cell? w1 _ c1_1_0; have d1_1 : ¬ (w.heap.size + 1 = w1.heap.size) := (by omega); have e1_1 : ¬ (w1.heap.size = w.heap.size + 1) := (by omega); have n1_0 : ¬ (w.heap.size + 1 = w.heap.size) := (by omega); have n0_1 : ¬ (w.heap.size = w.heap.size + 1) := (by omega); have F1_1 := K.ints.ext (K.ints.alloc (K.ints.alloc hRL_ _) _) x1; have F2_1 := K.ints.ext (K.ints.alloc (K.ints.alloc hRR_ _) _) x1; clear hRL_ hRR_)
    go_wp2_with (go_at_call 34; refine K.call (by with_reducible rfl) (by with_reducible rfl) (HX.out _) ?_; rintro e w2 ⟨rfl, x2⟩; have s2 : w1.heap.size + 1 ≤ w2.heap.size := (by have h_ := x2.size; (try simp at h_); omega); have X2 := K.Ext.trans (K.Ext.alloc X1 _) x2; obtain ⟨c2_0_0, c2_0_1, c2_0_2⟩ := K.c3 x2 (w.heap.size) (.int .i64 R.ln) (.slice oRL R.st.length cRL) (.slice oRR R.sl.length cRR) (by go_simp); have z2_0 : w.heap.size < w2.heap.size := World.block_lt_of_cell? w2 _ c2_0_0; have d2_0 : ¬ (w.heap.size = w2.heap.size) := (by omega); have e2_0 : ¬ (w2.heap.size = w.heap.size) := (by omega); obtain ⟨c2_1_0, c2_1_1⟩ := K.c2 x2 (w.heap.size + 1) (.int .i64 f.1) (.int .i64 f.2) (by go_simp); have z2_1 : w.heap.size + 1 < w2.heap.size := World.block_lt_of_cell? w2 _ c2_1_0; have d2_1 : ¬ (w.heap.size + 1 = w2.heap.size) := (by omega); have e2_1 : ¬ (w2.heap.size = w.heap.size + 1) := (by omega); obtain ⟨c2_2_0, c2_2_1⟩ := K.c2 x2 (w1.heap.size) (.int .i64 ((x, (0 : Int)).1).1) (.int .i64 ((x, (0 : Int)).1).2) (by go_simp); obtain ⟨f2_2_0, f2_2_1⟩ := K.f2 x2 (w1.heap.size) (by go_simp); have z2_2 : w1.heap.size < w2.heap.size := World.block_lt_of_cell? w2 _ c2_2_0; have d2_2 : ¬ (w1.heap.size = w2.heap.size) := (by omega); have e2_2 : ¬ (w2.heap.size = w1.heap.size) := (by omega); have n2_0 : ¬ (w1.heap.size = w.heap.size) := (by omega); have n0_2 : ¬ (w.heap.size = w1.heap.size) := (by omega); have n2_1 : ¬ (w1.heap.size = w.heap.size + 1) := (by omega); have n1_2 : ¬ (w.heap.size + 1 = w1.heap.size) := (by omega); have F1_2 := K.ints.ext (K.ints.alloc F1_1 _) x2; have F2_2 := K.ints.ext (K.ints.alloc F2_1 _) x2; clear c1_0_0 c1_0_1 c1_0_2 z1_0 d1_0 e1_0 c1_1_0 c1_1_1 z1_1 d1_1 e1_1 F1_1 F2_1)
    go_wp2_with (go_at_call 41; refine K.call (by with_reducible rfl) (by with_reducible rfl) (HA.out _) ?_; rintro e w3 ⟨rfl, x3⟩; have s3 : w2.heap.size + 2 ≤ w3.heap.size := (by have h_ := x3.size; (try simp at h_); omega); have X3 := K.Ext.trans (K.Ext.alloc (K.Ext.alloc X2 _) _) x3; obtain ⟨c3_0_0, c3_0_1, c3_0_2⟩ := K.c3 x3 (w.heap.size) (.int .i64 R.ln) (.slice oRL R.st.length cRL) (.slice oRR R.sl.length cRR) (by go_simp); have z3_0 : w.heap.size < w3.heap.size := World.block_lt_of_cell? w3 _ c3_0_0; have d3_0 : ¬ (w.heap.size = w3.heap.size) := (by omega); have e3_0 : ¬ (w3.heap.size = w.heap.size) := (by omega); obtain ⟨c3_1_0, c3_1_1⟩ := K.c2 x3 (w.heap.size + 1) (.int .i64 f.1) (.int .i64 f.2) (by go_simp); have z3_1 : w.heap.size + 1 < w3.heap.size := World.block_lt_of_cell? w3 _ c3_1_0; have d3_1 : ¬ (w.heap.size + 1 = w3.heap.size) := (by omega); have e3_1 : ¬ (w3.heap.size = w.heap.size + 1) := (by omega); obtain ⟨c3_2_0, c3_2_1⟩ := K.c2 x3 (w1.heap.size) (.int .i64 ((x, (0 : Int)).1).1) (.int .i64 ((x, (0 : Int)).1).2) (by go_simp); obtain ⟨f3_2_0, f3_2_1⟩ := K.f2 x3 (w1.heap.size) (by go_simp); have z3_2 : w1.heap.size < w3.heap.size := World.block_lt_of_cell? w3 _ c3_2_0; have d3_2 : ¬ (w1.heap.size = w3.heap.size) := (by omega); have e3_2 : ¬ (w3.heap.size = w1.heap.size) := (by omega); obtain ⟨c3_3_0, c3_3_1⟩ := K.c2 x3 (w2.heap.size) (.int .i64 ((lo, hi, (0 : Int)).1).1) (.int .i64 ((lo, hi, (0 : Int)).1).2) (by go_simp); obtain ⟨f3_3_0, f3_3_1⟩ := K.f2 x3 (w2.heap.size) (by go_simp); have z3_3 : w2.heap.size < w3.heap.size := World.block_lt_of_cell? w3 _ c3_3_0; have d3_3 : ¬ (w2.heap.size = w3.heap.size) := (by omega); have e3_3 : ¬ (w3.heap.size = w2.heap.size) := (by omega); have n3_0 : ¬ (w2.heap.size = w.heap.size) := (by omega); have n0_3 : ¬ (w.heap.size = w2.heap.size) := (by omega); have n3_1 : ¬ (w2.heap.size = w.heap.size + 1) := (by omega); have n1_3 : ¬ (w.heap.size + 1 = w2.heap.size) := (by omega); have n3_2 : ¬ (w2.heap.size = w1.heap.size) := (by omega); have n2_3 : ¬ (w1.heap.size = w2.heap.size) := (by omega); obtain ⟨c3_4_0, c3_4_1⟩ := K.c2 x3 (w2.heap.size + 1) (.int .i64 ((lo, hi, (0 : Int)).2.1).1) (.int .i64 ((lo, hi, (0 : Int)).2.1).2) (by go_simp); obtain ⟨f3_4_0, f3_4_1⟩ := K.f2 x3 (w2.heap.size + 1) (by go_simp); have z3_4 : w2.heap.size + 1 < w3.heap.size := World.block_lt_of_cell? w3 _ c3_4_0; have d3_4 : ¬ (w2.heap.size + 1 = w3.heap.size) := (by omega); have e3_4 : ¬ (w3.heap.size = w2.heap.size + 1) := (by omega); have n4_0 : ¬ (w2.heap.size + 1 = w.heap.size) := (by omega); have n0_4 : ¬ (w.heap.size = w2.heap.size + 1) := (by omega); have n4_1 : ¬ (w2.heap.size + 1 = w.heap.size + 1) := (by omega); have n1_4 : ¬ (w.heap.size + 1 = w2.heap.size + 1) := (by omega); have n4_2 : ¬ (w2.heap.size + 1 = w1.heap.size) := (by omega); have n2_4 : ¬ (w1.heap.size = w2.heap.size + 1) := (by omega); have n4_3 : ¬ (w2.heap.size + 1 = w2.heap.size) := (by omega); have n3_4 : ¬ (w2.heap.size = w2.heap.size + 1) := (by omega); have F1_3 := K.ints.ext (K.ints.alloc (K.ints.alloc F1_2 _) _) x3; have F2_3 := K.ints.ext (K.ints.alloc (K.ints.alloc F2_2 _) _) x3; clear c2_0_0 c2_0_1 c2_0_2 z2_0 d2_0 e2_0 c2_1_0 c2_1_1 z2_1 d2_1 e2_1 c2_2_0 c2_2_1 f2_2_0 f2_2_1 z2_2 d2_2 e2_2 F1_2 F2_2)
    go_wp2_with (go_at_call 41; refine K.call (by with_reducible rfl) (by with_reducible rfl) (HB.out _) ?_; rintro e w4 ⟨rfl, x4⟩; have s4 : w3.heap.size ≤ w4.heap.size := (by have h_ := x4.size; (try simp at h_); omega); have X4 := K.Ext.trans (X3) x4; obtain ⟨c4_0_0, c4_0_1, c4_0_2⟩ := K.c3 x4 (w.heap.size) (.int .i64 R.ln) (.slice oRL R.st.length cRL) (.slice oRR R.sl.length cRR) (by go_simp); have z4_0 : w.heap.size < w4.heap.size := World.block_lt_of_cell? w4 _ c4_0_0; have d4_0 : ¬ (w.heap.size = w4.heap.size) := (by omega); have e4_0 : ¬ (w4.heap.size = w.heap.size) := (by omega); obtain ⟨c4_1_0, c4_1_1⟩ := K.c2 x4 (w.heap.size + 1) (.int .i64 f.1) (.int .i64 f.2) (by go_simp); have z4_1 : w.heap.size + 1 < w4.heap.size := World.block_lt_of_cell? w4 _ c4_1_0; have d4_1 : ¬ (w.heap.size + 1 = w4.heap.size) := (by omega); have e4_1 : ¬ (w4.heap.size = w.heap.size + 1) := (by omega); obtain ⟨c4_2_0, c4_2_1⟩ := K.c2 x4 (w1.heap.size) (.int .i64 ((x, (0 : Int)).1).1) (.int .i64 ((x, (0 : Int)).1).2) (by go_simp); obtain ⟨f4_2_0, f4_2_1⟩ := K.f2 x4 (w1.heap.size) (by go_simp); have z4_2 : w1.heap.size < w4.heap.size := World.block_lt_of_cell? w4 _ c4_2_0; have d4_2 : ¬ (w1.heap.size = w4.heap.size) := (by omega); have e4_2 : ¬ (w4.heap.size = w1.heap.size) := (by omega); obtain ⟨c4_3_0, c4_3_1⟩ := K.c2 x4 (w2.heap.size) (.int .i64 ((lo, hi, (0 : Int)).1).1) (.int .i64 ((lo, hi, (0 : Int)).1).2) (by go_simp); obtain ⟨f4_3_0, f4_3_1⟩ := K.f2 x4 (w2.heap.size) (by go_simp); have z4_3 : w2.heap.size < w4.heap.size := World.block_lt_of_cell? w4 _ c4_3_0; have d4_3 : ¬ (w2.heap.size = w4.heap.size) := (by omega); have e4_3 : ¬ (w4.heap.size = w2.heap.size) := (by omega); obtain ⟨c4_4_0, c4_4_1⟩ := K.c2 x4 (w2.heap.size + 1) (.int .i64 ((lo, hi, (0 : Int)).2.1).1) (.int .i64 ((lo, hi, (0 : Int)).2.1).2) (by go_simp); obtain ⟨f4_4_0, f4_4_1⟩ := K.f2 x4 (w2.heap.size + 1) (by go_simp); have z4_4 : w2.heap.size + 1 < w4.heap.size := World.block_lt_of_cell? w4 _ c4_4_0; have d4_4 : ¬ (w2.heap.size + 1 = w4.heap.size) := (by omega); have e4_4 : ¬ (w4.heap.size = w2.heap.size + 1) := (by omega); have F1_4 := K.ints.ext (F1_3) x4; have F2_4 := K.ints.ext (F2_3) x4; clear c3_0_0 c3_0_1 c3_0_2 z3_0 d3_0 e3_0 c3_1_0 c3_1_1 z3_1 d3_1 e3_1 c3_2_0 c3_2_1 f3_2_0 f3_2_1 z3_2 d3_2 e3_2 c3_3_0 c3_3_1 f3_3_0 f3_3_1 z3_3 d3_3 e3_3 c3_4_0 c3_4_1 f3_4_0 f3_4_1 z3_4 d3_4 e3_4 F1_3 F2_3)
    rw [HM2.out]
    refine bodyPost_ret (v := .tuple #[.int .i64 0, .int .i64 (((0 : Int), (3 : Int)).2)]) (by unfold results; rw [Tryz.results10]; go_simp) rfl ⟨rfl, ?_⟩
    repeat with_reducible refine K.Ext.setCell ?_ (by dsimp only; omega) _
    exact (by repeat' (first | with_reducible exact X4 | with_reducible refine K.Ext.setCell ?_ ?_ _ | with_reducible refine K.Ext.alloc ?_ _ | with_reducible refine K.Ext.drew ?_ | (dsimp only; omega) | omega | (simp; omega)))
  rw [if_neg hv] at HR2
  rw [HR2.out] at HB
  rw [if_neg (by omega)] at HM2
  have X0 : K.Ext w w := K.Ext.refl w
  go_enter Tryz.func10, Tryz.ntmps10
  go_wp2_with (go_at_call 40; refine K.call (by with_reducible rfl) (by with_reducible rfl) (HT.out _ (K.ints.alloc (K.ints.alloc hRL_ _) _) (K.ints.alloc (K.ints.alloc hRR_ _) _)) ?_; rintro e w1 ⟨rfl, x1⟩; have s1 : w.heap.size + 2 ≤ w1.heap.size := (by have h_ := x1.size; (try simp at h_); omega); have X1 := K.Ext.trans (K.Ext.alloc (K.Ext.alloc X0 _) _) x1; obtain ⟨c1_0_0, c1_0_1, c1_0_2⟩ := K.c3 x1 (w.heap.size) (.int .i64 R.ln) (.slice oRL R.st.length cRL) (.slice oRR R.sl.length cRR) (by go_simp); have z1_0 : w.heap.size < w1.heap.size := World.block_lt_of_cell? w1 _ c1_0_0; have d1_0 : ¬ (w.heap.size = w1.heap.size) := (by omega); have e1_0 : ¬ (w1.heap.size = w.heap.size) := (by omega); obtain ⟨c1_1_0, c1_1_1⟩ := K.c2 x1 (w.heap.size + 1) (.int .i64 f.1) (.int .i64 f.2) (by go_simp); have z1_1 : w.heap.size + 1 < w1.heap.size := World.block_lt_of_cell? w1 _ c1_1_0; have d1_1 : ¬ (w.heap.size + 1 = w1.heap.size) := (by omega); have e1_1 : ¬ (w1.heap.size = w.heap.size + 1) := (by omega); have n1_0 : ¬ (w.heap.size + 1 = w.heap.size) := (by omega); have n0_1 : ¬ (w.heap.size = w.heap.size + 1) := (by omega); have F1_1 := K.ints.ext (K.ints.alloc (K.ints.alloc hRL_ _) _) x1; have F2_1 := K.ints.ext (K.ints.alloc (K.ints.alloc hRR_ _) _) x1; clear hRL_ hRR_)
  go_wp2_with (go_at_call 34; refine K.call (by with_reducible rfl) (by with_reducible rfl) (HX.out _) ?_; rintro e w2 ⟨rfl, x2⟩; have s2 : w1.heap.size + 1 ≤ w2.heap.size := (by have h_ := x2.size; (try simp at h_); omega); have X2 := K.Ext.trans (K.Ext.alloc X1 _) x2; obtain ⟨c2_0_0, c2_0_1, c2_0_2⟩ := K.c3 x2 (w.heap.size) (.int .i64 R.ln) (.slice oRL R.st.length cRL) (.slice oRR R.sl.length cRR) (by go_simp); have z2_0 : w.heap.size < w2.heap.size := World.block_lt_of_cell? w2 _ c2_0_0; have d2_0 : ¬ (w.heap.size = w2.heap.size) := (by omega); have e2_0 : ¬ (w2.heap.size = w.heap.size) := (by omega); obtain ⟨c2_1_0, c2_1_1⟩ := K.c2 x2 (w.heap.size + 1) (.int .i64 f.1) (.int .i64 f.2) (by go_simp); have z2_1 : w.heap.size + 1 < w2.heap.size := World.block_lt_of_cell? w2 _ c2_1_0; have d2_1 : ¬ (w.heap.size + 1 = w2.heap.size) := (by omega); have e2_1 : ¬ (w2.heap.size = w.heap.size + 1) := (by omega); obtain ⟨c2_2_0, c2_2_1⟩ := K.c2 x2 (w1.heap.size) (.int .i64 ((x, (0 : Int)).1).1) (.int .i64 ((x, (0 : Int)).1).2) (by go_simp); obtain ⟨f2_2_0, f2_2_1⟩ := K.f2 x2 (w1.heap.size) (by go_simp); have z2_2 : w1.heap.size < w2.heap.size := World.block_lt_of_cell? w2 _ c2_2_0; have d2_2 : ¬ (w1.heap.size = w2.heap.size) := (by omega); have e2_2 : ¬ (w2.heap.size = w1.heap.size) := (by omega); have n2_0 : ¬ (w1.heap.size = w.heap.size) := (by omega); have n0_2 : ¬ (w.heap.size = w1.heap.size) := (by omega); have n2_1 : ¬ (w1.heap.size = w.heap.size + 1) := (by omega); have n1_2 : ¬ (w.heap.size + 1 = w1.heap.size) := (by omega); have F1_2 := K.ints.ext (K.ints.alloc F1_1 _) x2; have F2_2 := K.ints.ext (K.ints.alloc F2_1 _) x2; clear c1_0_0 c1_0_1 c1_0_2 z1_0 d1_0 e1_0 c1_1_0 c1_1_1 z1_1 d1_1 e1_1 F1_1 F2_1)
  go_wp2_with (go_at_call 41; refine K.call (by with_reducible rfl) (by with_reducible rfl) (HA.out _) ?_; rintro e w3 ⟨rfl, x3⟩; have s3 : w2.heap.size + 2 ≤ w3.heap.size := (by have h_ := x3.size; (try simp at h_); omega); have X3 := K.Ext.trans (K.Ext.alloc (K.Ext.alloc X2 _) _) x3; obtain ⟨c3_0_0, c3_0_1, c3_0_2⟩ := K.c3 x3 (w.heap.size) (.int .i64 R.ln) (.slice oRL R.st.length cRL) (.slice oRR R.sl.length cRR) (by go_simp); have z3_0 : w.heap.size < w3.heap.size := World.block_lt_of_cell? w3 _ c3_0_0; have d3_0 : ¬ (w.heap.size = w3.heap.size) := (by omega); have e3_0 : ¬ (w3.heap.size = w.heap.size) := (by omega); obtain ⟨c3_1_0, c3_1_1⟩ := K.c2 x3 (w.heap.size + 1) (.int .i64 f.1) (.int .i64 f.2) (by go_simp); have z3_1 : w.heap.size + 1 < w3.heap.size := World.block_lt_of_cell? w3 _ c3_1_0; have d3_1 : ¬ (w.heap.size + 1 = w3.heap.size) := (by omega); have e3_1 : ¬ (w3.heap.size = w.heap.size + 1) := (by omega); obtain ⟨c3_2_0, c3_2_1⟩ := K.c2 x3 (w1.heap.size) (.int .i64 ((x, (0 : Int)).1).1) (.int .i64 ((x, (0 : Int)).1).2) (by go_simp); obtain ⟨f3_2_0, f3_2_1⟩ := K.f2 x3 (w1.heap.size) (by go_simp); have z3_2 : w1.heap.size < w3.heap.size := World.block_lt_of_cell? w3 _ c3_2_0; have d3_2 : ¬ (w1.heap.size = w3.heap.size) := (by omega); have e3_2 : ¬ (w3.heap.size = w1.heap.size) := (by omega); obtain ⟨c3_3_0, c3_3_1⟩ := K.c2 x3 (w2.heap.size) (.int .i64 ((lo, hi, (0 : Int)).1).1) (.int .i64 ((lo, hi, (0 : Int)).1).2) (by go_simp); obtain ⟨f3_3_0, f3_3_1⟩ := K.f2 x3 (w2.heap.size) (by go_simp); have z3_3 : w2.heap.size < w3.heap.size := World.block_lt_of_cell? w3 _ c3_3_0; have d3_3 : ¬ (w2.heap.size = w3.heap.size) := (by omega); have e3_3 : ¬ (w3.heap.size = w2.heap.size) := (by omega); have n3_0 : ¬ (w2.heap.size = w.heap.size) := (by omega); have n0_3 : ¬ (w.heap.size = w2.heap.size) := (by omega); have n3_1 : ¬ (w2.heap.size = w.heap.size + 1) := (by omega); have n1_3 : ¬ (w.heap.size + 1 = w2.heap.size) := (by omega); have n3_2 : ¬ (w2.heap.size = w1.heap.size) := (by omega); have n2_3 : ¬ (w1.heap.size = w2.heap.size) := (by omega); obtain ⟨c3_4_0, c3_4_1⟩ := K.c2 x3 (w2.heap.size + 1) (.int .i64 ((lo, hi, (0 : Int)).2.1).1) (.int .i64 ((lo, hi, (0 : Int)).2.1).2) (by go_simp); obtain ⟨f3_4_0, f3_4_1⟩ := K.f2 x3 (w2.heap.size + 1) (by go_simp); have z3_4 : w2.heap.size + 1 < w3.heap.size := World.block_lt_of_cell? w3 _ c3_4_0; have d3_4 : ¬ (w2.heap.size + 1 = w3.heap.size) := (by omega); have e3_4 : ¬ (w3.heap.size = w2.heap.size + 1) := (by omega); have n4_0 : ¬ (w2.heap.size + 1 = w.heap.size) := (by omega); have n0_4 : ¬ (w.heap.size = w2.heap.size + 1) := (by omega); have n4_1 : ¬ (w2.heap.size + 1 = w.heap.size + 1) := (by omega); have n1_4 : ¬ (w.heap.size + 1 = w2.heap.size + 1) := (by omega); have n4_2 : ¬ (w2.heap.size + 1 = w1.heap.size) := (by omega); have n2_4 : ¬ (w1.heap.size = w2.heap.size + 1) := (by omega); have n4_3 : ¬ (w2.heap.size + 1 = w2.heap.size) := (by omega); have n3_4 : ¬ (w2.heap.size = w2.heap.size + 1) := (by omega); have F1_3 := K.ints.ext (K.ints.alloc (K.ints.alloc F1_2 _) _) x3; have F2_3 := K.ints.ext (K.ints.alloc (K.ints.alloc F2_2 _) _) x3; clear c2_0_0 c2_0_1 c2_0_2 z2_0 d2_0 e2_0 c2_1_0 c2_1_1 z2_1 d2_1 e2_1 c2_2_0 c2_2_1 f2_2_0 f2_2_1 z2_2 d2_2 e2_2 F1_2 F2_2)
  go_wp2_with (go_at_call 41; refine K.call (by with_reducible rfl) (by with_reducible rfl) (HB.out _) ?_; rintro e w4 ⟨rfl, x4⟩; have s4 : w3.heap.size ≤ w4.heap.size := (by have h_ := x4.size; (try simp at h_); omega); have X4 := K.Ext.trans (X3) x4; obtain ⟨c4_0_0, c4_0_1, c4_0_2⟩ := K.c3 x4 (w.heap.size) (.int .i64 R.ln) (.slice oRL R.st.length cRL) (.slice oRR R.sl.length cRR) (by go_simp); have z4_0 : w.heap.size < w4.heap.size := World.block_lt_of_cell? w4 _ c4_0_0; have d4_0 : ¬ (w.heap.size = w4.heap.size) := (by omega); have e4_0 : ¬ (w4.heap.size = w.heap.size) := (by omega); obtain ⟨c4_1_0, c4_1_1⟩ := K.c2 x4 (w.heap.size + 1) (.int .i64 f.1) (.int .i64 f.2) (by go_simp); have z4_1 : w.heap.size + 1 < w4.heap.size := World.block_lt_of_cell? w4 _ c4_1_0; have d4_1 : ¬ (w.heap.size + 1 = w4.heap.size) := (by omega); have e4_1 : ¬ (w4.heap.size = w.heap.size + 1) := (by omega); obtain ⟨c4_2_0, c4_2_1⟩ := K.c2 x4 (w1.heap.size) (.int .i64 ((x, (0 : Int)).1).1) (.int .i64 ((x, (0 : Int)).1).2) (by go_simp); obtain ⟨f4_2_0, f4_2_1⟩ := K.f2 x4 (w1.heap.size) (by go_simp); have z4_2 : w1.heap.size < w4.heap.size := World.block_lt_of_cell? w4 _ c4_2_0; have d4_2 : ¬ (w1.heap.size = w4.heap.size) := (by omega); have e4_2 : ¬ (w4.heap.size = w1.heap.size) := (by omega); obtain ⟨c4_3_0, c4_3_1⟩ := K.c2 x4 (w2.heap.size) (.int .i64 ((lo, hi, (0 : Int)).1).1) (.int .i64 ((lo, hi, (0 : Int)).1).2) (by go_simp); obtain ⟨f4_3_0, f4_3_1⟩ := K.f2 x4 (w2.heap.size) (by go_simp); have z4_3 : w2.heap.size < w4.heap.size := World.block_lt_of_cell? w4 _ c4_3_0; have d4_3 : ¬ (w2.heap.size = w4.heap.size) := (by omega); have e4_3 : ¬ (w4.heap.size = w2.heap.size) := (by omega); obtain ⟨c4_4_0, c4_4_1⟩ := K.c2 x4 (w2.heap.size + 1) (.int .i64 ((lo, hi, (0 : Int)).2.1).1) (.int .i64 ((lo, hi, (0 : Int)).2.1).2) (by go_simp); obtain ⟨f4_4_0, f4_4_1⟩ := K.f2 x4 (w2.heap.size + 1) (by go_simp); have z4_4 : w2.heap.size + 1 < w4.heap.size := World.block_lt_of_cell? w4 _ c4_4_0; have d4_4 : ¬ (w2.heap.size + 1 = w4.heap.size) := (by omega); have e4_4 : ¬ (w4.heap.size = w2.heap.size + 1) := (by omega); have F1_4 := K.ints.ext (F1_3) x4; have F2_4 := K.ints.ext (F2_3) x4; clear c3_0_0 c3_0_1 c3_0_2 z3_0 d3_0 e3_0 c3_1_0 c3_1_1 z3_1 d3_1 e3_1 c3_2_0 c3_2_1 f3_2_0 f3_2_1 z3_2 d3_2 e3_2 c3_3_0 c3_3_1 f3_3_0 f3_3_1 z3_3 d3_3 e3_3 c3_4_0 c3_4_1 f3_4_0 f3_4_1 z3_4 d3_4 e3_4 F1_3 F2_3)
  rw [HM2.out]
  refine bodyPost_ret (v := .tuple #[.int .i64 (max ((u, (0 : Int)).1) ((v, (0 : Int)).1)), .int .i64 0]) (by unfold results; rw [Tryz.results10]; go_simp) rfl ⟨rfl, ?_⟩
  repeat with_reducible refine K.Ext.setCell ?_ (by dsimp only; omega) _
  exact (by repeat' (first | with_reducible exact X4 | with_reducible refine K.Ext.setCell ?_ ?_ _ | with_reducible refine K.Ext.alloc ?_ _ | with_reducible refine K.Ext.drew ?_ | (dsimp only; omega) | omega | (simp; omega)))
set_option maxHeartbeats 1600000 in
theorem spec_TransferError (R : Z.Rl) (fr : Int) (to : Int) (f : Int × Int) {loRL hiRL loRR hiRR : Nat} {pRL pRR : Value} (w : World)  (hmRL : R.st.length ≤ 1048576) (hRL : K.ints w loRL hiRL pRL R.st) (hcRL : K.roomy pRL R.st.length) (hmRR : R.sl.length ≤ 1048576) (hRR : K.ints w loRR hiRR pRR R.sl) (hcRR : K.roomy pRR R.sl.length) :
    Calls Tryz.prog 7 #[.agg #[.int .i64 R.ln, pRL, pRR], .int .i64 fr, .int .i64 to, .agg #[.int .i64 f.1, .int .i64 f.2]] w fun e w' => e = .returned (.tuple #[.int .i64 ((Z.teO R fr to f).1), .int .i64 ((Z.teO R fr to f).2)]) ∧ K.Ext w w' := by
  have hRL_ := hRL
  have shRL := hRL
  obtain ⟨oRL, cRL, rfl, _⟩ := shRL
  have hRR_ := hRR
  have shRR := hRR
  obtain ⟨oRR, cRR, rfl, _⟩ := shRR
  have HT : Hid (∀ (W : World), K.ints W loRL hiRL (.slice oRL R.st.length cRL) R.st → K.ints W loRR hiRR (.slice oRR R.sl.length cRR) R.sl → Calls Tryz.prog 37 #[.agg #[.int .i64 R.ln, .slice oRL R.st.length cRL, .slice oRR R.sl.length cRR], .int .i64 fr, .int .i64 to, .agg #[.int .i64 f.1, .int .i64 f.2]] W fun e w'' => e = .returned (.tuple #[.agg #[.int .i64 (Z.cuO R fr to f).1.1, .int .i64 (Z.cuO R fr to f).1.2], .int .i64 (Z.cuO R fr to f).2]) ∧ K.Ext W w'') := Z.hide (fun W k1 k2 => spec_placedT R fr to f W hmRL k1 hcRL hmRR k2 hcRR)
  have HX := Z.hide (fun w => spec_TransferExact fr to f w)
  have HV1 := Z.cu_valid (R := R) (fr := fr) (to := to) (f := f)
  have HV2 := Z.xp_valid (fr := fr) (to := to) (f := f)
  have HM : Hid (Z.teO R fr to f = Z.teF (Z.cuO R fr to f) (Z.xpO fr to f)) := Z.hide rfl
  obtain ⟨M, hM⟩ : ∃ M, Z.teO R fr to f = M := ⟨_, rfl⟩
  rw [hM] at HM ⊢
  clear hM
  generalize Z.cuO R fr to f = X at *
  generalize Z.xpO fr to f = E at *
  obtain ⟨x, c⟩ := X
  obtain ⟨lo, hi, d⟩ := E
  dsimp only at HT HX HV1 HV2
  by_cases hc : c = 0
  case neg =>
    have HE : Hid (M = (0, c)) := Z.hide (by rw [HM.out]; unfold Z.teF; rw [if_pos hc])
    have hc' : (c == 0) = false := by simpa using hc
    clear HM HV1 HV2
    have X0 : K.Ext w w := K.Ext.refl w
    go_enter Tryz.func7, Tryz.ntmps7
    go_wp2_with (go_at_call 37; refine K.call (by with_reducible rfl) (by with_reducible rfl) (HT.out _ (K.ints.alloc (K.ints.alloc hRL_ _) _) (K.ints.alloc (K.ints.alloc hRR_ _) _)) ?_; rintro e w1 ⟨rfl, x1⟩; have s1 : w.heap.size + 2 ≤ w1.heap.size := (by have h_ := x1.size; (try simp at h_); omega); have X1 := K.Ext.trans (K.Ext.alloc (K.Ext.alloc X0 _) _) x1; obtain ⟨c1_0_0, c1_0_1, c1_0_2⟩ := K.c3 x1 (w.heap.size) (.int .i64 R.ln) (.slice oRL R.st.length cRL) (.slice oRR R.sl.length cRR) (by go_simp); have z1_0 : w.heap.size < w1.heap.size := World.block_lt_of_cell? w1 _ c1_0_0; have d1_0 : ¬ (w.heap.size = w1.heap.size) := (by omega); have e1_0 : ¬ (w1.heap.size = w.heap.size) := (by omega); obtain ⟨c1_1_0, c1_1_1⟩ := K.c2 x1 (w.heap.size + 1) (.int .i64 f.1) (.int .i64 f.2) (by go_simp); have z1_1 : w.heap.size + 1 < w1.heap.size := World.block_lt_of_cell? w1 _ c1_1_0; have d1_1 : ¬ (w.heap.size + 1 = w1.heap.size) := (by omega); have e1_1 : ¬ (w1.heap.size = w.heap.size + 1) := (by omega); have n1_0 : ¬ (w.heap.size + 1 = w.heap.size) := (by omega); have n0_1 : ¬ (w.heap.size = w.heap.size + 1) := (by omega); have F1_1 := K.ints.ext (K.ints.alloc (K.ints.alloc hRL_ _) _) x1; have F2_1 := K.ints.ext (K.ints.alloc (K.ints.alloc hRR_ _) _) x1; clear hRL_ hRR_)
    rw [HE.out]
    refine bodyPost_ret (v := .tuple #[.int .i64 0, .int .i64 ((x, c).2)]) (by unfold results; rw [Tryz.results7]; go_simp) rfl ⟨rfl, ?_⟩
    repeat with_reducible refine K.Ext.setCell ?_ (by dsimp only; omega) _
    exact (by repeat' (first | with_reducible exact X1 | with_reducible refine K.Ext.setCell ?_ ?_ _ | with_reducible refine K.Ext.alloc ?_ _ | with_reducible refine K.Ext.drew ?_ | (dsimp only; omega) | omega | (simp; omega)))
  subst hc
  by_cases hd : d = 0
  case neg =>
    have HE : Hid (M = (0, d)) := Z.hide (by rw [HM.out]; unfold Z.teF; rw [if_neg (by simp), if_pos hd])
    have hd' : (d == 0) = false := by simpa using hd
    clear HM HV1 HV2
    have X0 : K.Ext w w := K.Ext.refl w
    go_enter Tryz.func7, Tryz.ntmps7
    go_wp2_with (go_at_call 37; refine K.call (by with_reducible rfl) (by with_reducible rfl) (HT.out _ (K.ints.alloc (K.ints.alloc hRL_ _) _) (K.ints.alloc (K.ints.alloc hRR_ _) _)) ?_; rintro e w1 ⟨rfl, x1⟩; have s1 : w.heap.size + 2 ≤ w1.heap.size := (by have h_ := x1.size; (try simp at h_); omega); have X1 := K.Ext.trans (K.Ext.alloc (K.Ext.alloc X0 _) _) x1; obtain ⟨c1_0_0, c1_0_1, c1_0_2⟩ := K.c3 x1 (w.heap.size) (.int .i64 R.ln) (.slice oRL R.st.length cRL) (.slice oRR R.sl.length cRR) (by go_simp); have z1_0 : w.heap.size < w1.heap.size := World.block_lt_of_cell? w1 _ c1_0_0; have d1_0 : ¬ (w.heap.size = w1.heap.size) := (by omega); have e1_0 : ¬ (w1.heap.size = w.heap.size) := (by omega); obtain ⟨c1_1_0, c1_1_1⟩ := K.c2 x1 (w.heap.size + 1) (.int .i64 f.1) (.int .i64 f.2) (by go_simp); have z1_1 : w.heap.size + 1 < w1.heap.size := World.block_lt_of_cell? w1 _ c1_1_0; have d1_1 : ¬ (w.heap.size + 1 = w1.heap.size) := (by omega); have e1_1 : ¬ (w1.heap.size = w.heap.size + 1) := (by omega); have n1_0 : ¬ (w.heap.size + 1 = w.heap.size) := (by omega); have n0_1 : ¬ (w.heap.size = w.heap.size + 1) := (by omega); have F1_1 := K.ints.ext (K.ints.alloc (K.ints.alloc hRL_ _) _) x1; have F2_1 := K.ints.ext (K.ints.alloc (K.ints.alloc hRR_ _) _) x1; clear hRL_ hRR_)
    go_wp2_with (go_at_call 35; refine K.call (by with_reducible rfl) (by with_reducible rfl) (HX.out _) ?_; rintro e w2 ⟨rfl, x2⟩; have s2 : w1.heap.size + 1 ≤ w2.heap.size := (by have h_ := x2.size; (try simp at h_); omega); have X2 := K.Ext.trans (K.Ext.alloc X1 _) x2; obtain ⟨c2_0_0, c2_0_1, c2_0_2⟩ := K.c3 x2 (w.heap.size) (.int .i64 R.ln) (.slice oRL R.st.length cRL) (.slice oRR R.sl.length cRR) (by go_simp); have z2_0 : w.heap.size < w2.heap.size := World.block_lt_of_cell? w2 _ c2_0_0; have d2_0 : ¬ (w.heap.size = w2.heap.size) := (by omega); have e2_0 : ¬ (w2.heap.size = w.heap.size) := (by omega); obtain ⟨c2_1_0, c2_1_1⟩ := K.c2 x2 (w.heap.size + 1) (.int .i64 f.1) (.int .i64 f.2) (by go_simp); have z2_1 : w.heap.size + 1 < w2.heap.size := World.block_lt_of_cell? w2 _ c2_1_0; have d2_1 : ¬ (w.heap.size + 1 = w2.heap.size) := (by omega); have e2_1 : ¬ (w2.heap.size = w.heap.size + 1) := (by omega); obtain ⟨c2_2_0, c2_2_1⟩ := K.c2 x2 (w1.heap.size) (.int .i64 ((x, (0 : Int)).1).1) (.int .i64 ((x, (0 : Int)).1).2) (by go_simp); obtain ⟨f2_2_0, f2_2_1⟩ := K.f2 x2 (w1.heap.size) (by go_simp); have z2_2 : w1.heap.size < w2.heap.size := World.block_lt_of_cell? w2 _ c2_2_0; have d2_2 : ¬ (w1.heap.size = w2.heap.size) := (by omega); have e2_2 : ¬ (w2.heap.size = w1.heap.size) := (by omega); have n2_0 : ¬ (w1.heap.size = w.heap.size) := (by omega); have n0_2 : ¬ (w.heap.size = w1.heap.size) := (by omega); have n2_1 : ¬ (w1.heap.size = w.heap.size + 1) := (by omega); have n1_2 : ¬ (w.heap.size + 1 = w1.heap.size) := (by omega); have F1_2 := K.ints.ext (K.ints.alloc F1_1 _) x2; have F2_2 := K.ints.ext (K.ints.alloc F2_1 _) x2; clear c1_0_0 c1_0_1 c1_0_2 z1_0 d1_0 e1_0 c1_1_0 c1_1_1 z1_1 d1_1 e1_1 F1_1 F2_1)
    rw [HE.out]
    refine bodyPost_ret (v := .tuple #[.int .i64 0, .int .i64 ((lo, hi, d).2.2)]) (by unfold results; rw [Tryz.results7]; go_simp) rfl ⟨rfl, ?_⟩
    repeat with_reducible refine K.Ext.setCell ?_ (by dsimp only; omega) _
    exact (by repeat' (first | with_reducible exact X2 | with_reducible refine K.Ext.setCell ?_ ?_ _ | with_reducible refine K.Ext.alloc ?_ _ | with_reducible refine K.Ext.drew ?_ | (dsimp only; omega) | omega | (simp; omega)))
  subst hd
  have HA := Z.hide (fun w => spec_RelativeError x lo w)
  have HB := Z.hide (fun w => spec_RelativeError x hi w)
  have HR1 : Hid (Z.relX x lo = if 9000000 < Z.relE x lo then (0, 3) else (Z.relE x lo, 0)) := Z.hide (by unfold Z.relX; rw [if_neg (by rw [HV1 rfl, (HV2 rfl).1]; decide)]; rfl)
  have HR2 : Hid (Z.relX x hi = if 9000000 < Z.relE x hi then (0, 3) else (Z.relE x hi, 0)) := Z.hide (by unfold Z.relX; rw [if_neg (by rw [HV1 rfl, (HV2 rfl).2]; decide)]; rfl)
  have HM2 : Hid (M = if 9000000 < Z.relE x lo ∨ 9000000 < Z.relE x hi then (0, 3) else (max (Z.relE x lo) (Z.relE x hi), 0)) := Z.hide (by rw [HM.out]; unfold Z.teF; rw [if_neg (by simp), if_neg (by simp)])
  clear HV1 HV2 HM
  generalize Z.relE x lo = u at *
  generalize Z.relE x hi = v at *
  by_cases hu : 9000000 < u
  · rw [if_pos hu] at HR1
    rw [HR1.out] at HA
    rw [if_pos (.inl hu)] at HM2
    generalize Z.relX x hi = Y at *
    clear HR2
    have X0 : K.Ext w w := K.Ext.refl w
    go_enter Tryz.func7, Tryz.ntmps7
    go_wp2_with (go_at_call 37; refine K.call (by with_reducible rfl) (by with_reducible rfl) (HT.out _ (K.ints.alloc (K.ints.alloc hRL_ _) _) (K.ints.alloc (K.ints.alloc hRR_ _) _)) ?_; rintro e w1 ⟨rfl, x1⟩; have s1 : w.heap.size + 2 ≤ w1.heap.size := (by have h_ := x1.size; (try simp at h_); omega); have X1 := K.Ext.trans (K.Ext.alloc (K.Ext.alloc X0 _) _) x1; obtain ⟨c1_0_0, c1_0_1, c1_0_2⟩ := K.c3 x1 (w.heap.size) (.int .i64 R.ln) (.slice oRL R.st.length cRL) (.slice oRR R.sl.length cRR) (by go_simp); have z1_0 : w.heap.size < w1.heap.size := World.block_lt_of_cell? w1 _ c1_0_0; have d1_0 : ¬ (w.heap.size = w1.heap.size) := (by omega); have e1_0 : ¬ (w1.heap.size = w.heap.size) := (by omega); obtain ⟨c1_1_0, c1_1_1⟩ := K.c2 x1 (w.heap.size + 1) (.int .i64 f.1) (.int .i64 f.2) (by go_simp); have z1_1 : w.heap.size + 1 < w1.heap.size := World.block_lt_of_cell? w1 _ c1_1_0; have d1_1 : ¬ (w.heap.size + 1 = w1.heap.size) := (by omega); have e1_1 : ¬ (w1.heap.size = w.heap.size + 1) := (by omega); have n1_0 : ¬ (w.heap.size + 1 = w.heap.size) := (by omega); have n0_1 : ¬ (w.heap.size = w.heap.size + 1) := (by omega); have F1_1 := K.ints.ext (K.ints.alloc (K.ints.alloc hRL_ _) _) x1; have F2_1 := K.ints.ext (K.ints.alloc (K.ints.alloc hRR_ _) _) x1; clear hRL_ hRR_)
    go_wp2_with (go_at_call 35; refine K.call (by with_reducible rfl) (by with_reducible rfl) (HX.out _) ?_; rintro e w2 ⟨rfl, x2⟩; have s2 : w1.heap.size + 1 ≤ w2.heap.size := (by have h_ := x2.size; (try simp at h_); omega); have X2 := K.Ext.trans (K.Ext.alloc X1 _) x2; obtain ⟨c2_0_0, c2_0_1, c2_0_2⟩ := K.c3 x2 (w.heap.size) (.int .i64 R.ln) (.slice oRL R.st.length cRL) (.slice oRR R.sl.length cRR) (by go_simp); have z2_0 : w.heap.size < w2.heap.size := World.block_lt_of_cell? w2 _ c2_0_0; have d2_0 : ¬ (w.heap.size = w2.heap.size) := (by omega); have e2_0 : ¬ (w2.heap.size = w.heap.size) := (by omega); obtain ⟨c2_1_0, c2_1_1⟩ := K.c2 x2 (w.heap.size + 1) (.int .i64 f.1) (.int .i64 f.2) (by go_simp); have z2_1 : w.heap.size + 1 < w2.heap.size := World.block_lt_of_cell? w2 _ c2_1_0; have d2_1 : ¬ (w.heap.size + 1 = w2.heap.size) := (by omega); have e2_1 : ¬ (w2.heap.size = w.heap.size + 1) := (by omega); obtain ⟨c2_2_0, c2_2_1⟩ := K.c2 x2 (w1.heap.size) (.int .i64 ((x, (0 : Int)).1).1) (.int .i64 ((x, (0 : Int)).1).2) (by go_simp); obtain ⟨f2_2_0, f2_2_1⟩ := K.f2 x2 (w1.heap.size) (by go_simp); have z2_2 : w1.heap.size < w2.heap.size := World.block_lt_of_cell? w2 _ c2_2_0; have d2_2 : ¬ (w1.heap.size = w2.heap.size) := (by omega); have e2_2 : ¬ (w2.heap.size = w1.heap.size) := (by omega); have n2_0 : ¬ (w1.heap.size = w.heap.size) := (by omega); have n0_2 : ¬ (w.heap.size = w1.heap.size) := (by omega); have n2_1 : ¬ (w1.heap.size = w.heap.size + 1) := (by omega); have n1_2 : ¬ (w.heap.size + 1 = w1.heap.size) := (by omega); have F1_2 := K.ints.ext (K.ints.alloc F1_1 _) x2; have F2_2 := K.ints.ext (K.ints.alloc F2_1 _) x2; clear c1_0_0 c1_0_1 c1_0_2 z1_0 d1_0 e1_0 c1_1_0 c1_1_1 z1_1 d1_1 e1_1 F1_1 F2_1)
    go_wp2_with (go_at_call 38; refine K.call (by with_reducible rfl) (by with_reducible rfl) (HA.out _) ?_; rintro e w3 ⟨rfl, x3⟩; have s3 : w2.heap.size + 2 ≤ w3.heap.size := (by have h_ := x3.size; (try simp at h_); omega); have X3 := K.Ext.trans (K.Ext.alloc (K.Ext.alloc X2 _) _) x3; obtain ⟨c3_0_0, c3_0_1, c3_0_2⟩ := K.c3 x3 (w.heap.size) (.int .i64 R.ln) (.slice oRL R.st.length cRL) (.slice oRR R.sl.length cRR) (by go_simp); have z3_0 : w.heap.size < w3.heap.size := World.block_lt_of_cell? w3 _ c3_0_0; have d3_0 : ¬ (w.heap.size = w3.heap.size) := (by omega); have e3_0 : ¬ (w3.heap.size = w.heap.size) := (by omega); obtain ⟨c3_1_0, c3_1_1⟩ := K.c2 x3 (w.heap.size + 1) (.int .i64 f.1) (.int .i64 f.2) (by go_simp); have z3_1 : w.heap.size + 1 < w3.heap.size := World.block_lt_of_cell? w3 _ c3_1_0; have d3_1 : ¬ (w.heap.size + 1 = w3.heap.size) := (by omega); have e3_1 : ¬ (w3.heap.size = w.heap.size + 1) := (by omega); obtain ⟨c3_2_0, c3_2_1⟩ := K.c2 x3 (w1.heap.size) (.int .i64 ((x, (0 : Int)).1).1) (.int .i64 ((x, (0 : Int)).1).2) (by go_simp); obtain ⟨f3_2_0, f3_2_1⟩ := K.f2 x3 (w1.heap.size) (by go_simp); have z3_2 : w1.heap.size < w3.heap.size := World.block_lt_of_cell? w3 _ c3_2_0; have d3_2 : ¬ (w1.heap.size = w3.heap.size) := (by omega); have e3_2 : ¬ (w3.heap.size = w1.heap.size) := (by omega); obtain ⟨c3_3_0, c3_3_1⟩ := K.c2 x3 (w2.heap.size) (.int .i64 ((lo, hi, (0 : Int)).1).1) (.int .i64 ((lo, hi, (0 : Int)).1).2) (by go_simp); obtain ⟨f3_3_0, f3_3_1⟩ := K.f2 x3 (w2.heap.size) (by go_simp); have z3_3 : w2.heap.size < w3.heap.size := World.block_lt_of_cell? w3 _ c3_3_0; have d3_3 : ¬ (w2.heap.size = w3.heap.size) := (by omega); have e3_3 : ¬ (w3.heap.size = w2.heap.size) := (by omega); have n3_0 : ¬ (w2.heap.size = w.heap.size) := (by omega); have n0_3 : ¬ (w.heap.size = w2.heap.size) := (by omega); have n3_1 : ¬ (w2.heap.size = w.heap.size + 1) := (by omega); have n1_3 : ¬ (w.heap.size + 1 = w2.heap.size) := (by omega); have n3_2 : ¬ (w2.heap.size = w1.heap.size) := (by omega); have n2_3 : ¬ (w1.heap.size = w2.heap.size) := (by omega); obtain ⟨c3_4_0, c3_4_1⟩ := K.c2 x3 (w2.heap.size + 1) (.int .i64 ((lo, hi, (0 : Int)).2.1).1) (.int .i64 ((lo, hi, (0 : Int)).2.1).2) (by go_simp); obtain ⟨f3_4_0, f3_4_1⟩ := K.f2 x3 (w2.heap.size + 1) (by go_simp); have z3_4 : w2.heap.size + 1 < w3.heap.size := World.block_lt_of_cell? w3 _ c3_4_0; have d3_4 : ¬ (w2.heap.size + 1 = w3.heap.size) := (by omega); have e3_4 : ¬ (w3.heap.size = w2.heap.size + 1) := (by omega); have n4_0 : ¬ (w2.heap.size + 1 = w.heap.size) := (by omega); have n0_4 : ¬ (w.heap.size = w2.heap.size + 1) := (by omega); have n4_1 : ¬ (w2.heap.size + 1 = w.heap.size + 1) := (by omega); have n1_4 : ¬ (w.heap.size + 1 = w2.heap.size + 1) := (by omega); have n4_2 : ¬ (w2.heap.size + 1 = w1.heap.size) := (by omega); have n2_4 : ¬ (w1.heap.size = w2.heap.size + 1) := (by omega); have n4_3 : ¬ (w2.heap.size + 1 = w2.heap.size) := (by omega); have n3_4 : ¬ (w2.heap.size = w2.heap.size + 1) := (by omega); have F1_3 := K.ints.ext (K.ints.alloc (K.ints.alloc F1_2 _) _) x3; have F2_3 := K.ints.ext (K.ints.alloc (K.ints.alloc F2_2 _) _) x3; clear c2_0_0 c2_0_1 c2_0_2 z2_0 d2_0 e2_0 c2_1_0 c2_1_1 z2_1 d2_1 e2_1 c2_2_0 c2_2_1 f2_2_0 f2_2_1 z2_2 d2_2 e2_2 F1_2 F2_2)
    go_wp2_with (go_at_call 38; refine K.call (by with_reducible rfl) (by with_reducible rfl) (HB.out _) ?_; rintro e w4 ⟨rfl, x4⟩; have s4 : w3.heap.size ≤ w4.heap.size := (by have h_ := x4.size; (try simp at h_); omega); have X4 := K.Ext.trans (X3) x4; obtain ⟨c4_0_0, c4_0_1, c4_0_2⟩ := K.c3 x4 (w.heap.size) (.int .i64 R.ln) (.slice oRL R.st.length cRL) (.slice oRR R.sl.length cRR) (by go_simp); have z4_0 : w.heap.size < w4.heap.size := World.block_lt_of_cell? w4 _ c4_0_0; have d4_0 : ¬ (w.heap.size = w4.heap.size) := (by omega); have e4_0 : ¬ (w4.heap.size = w.heap.size) := (by omega); obtain ⟨c4_1_0, c4_1_1⟩ := K.c2 x4 (w.heap.size + 1) (.int .i64 f.1) (.int .i64 f.2) (by go_simp); have z4_1 : w.heap.size + 1 < w4.heap.size := World.block_lt_of_cell? w4 _ c4_1_0; have d4_1 : ¬ (w.heap.size + 1 = w4.heap.size) := (by omega); have e4_1 : ¬ (w4.heap.size = w.heap.size + 1) := (by omega); obtain ⟨c4_2_0, c4_2_1⟩ := K.c2 x4 (w1.heap.size) (.int .i64 ((x, (0 : Int)).1).1) (.int .i64 ((x, (0 : Int)).1).2) (by go_simp); obtain ⟨f4_2_0, f4_2_1⟩ := K.f2 x4 (w1.heap.size) (by go_simp); have z4_2 : w1.heap.size < w4.heap.size := World.block_lt_of_cell? w4 _ c4_2_0; have d4_2 : ¬ (w1.heap.size = w4.heap.size) := (by omega); have e4_2 : ¬ (w4.heap.size = w1.heap.size) := (by omega); obtain ⟨c4_3_0, c4_3_1⟩ := K.c2 x4 (w2.heap.size) (.int .i64 ((lo, hi, (0 : Int)).1).1) (.int .i64 ((lo, hi, (0 : Int)).1).2) (by go_simp); obtain ⟨f4_3_0, f4_3_1⟩ := K.f2 x4 (w2.heap.size) (by go_simp); have z4_3 : w2.heap.size < w4.heap.size := World.block_lt_of_cell? w4 _ c4_3_0; have d4_3 : ¬ (w2.heap.size = w4.heap.size) := (by omega); have e4_3 : ¬ (w4.heap.size = w2.heap.size) := (by omega); obtain ⟨c4_4_0, c4_4_1⟩ := K.c2 x4 (w2.heap.size + 1) (.int .i64 ((lo, hi, (0 : Int)).2.1).1) (.int .i64 ((lo, hi, (0 : Int)).2.1).2) (by go_simp); obtain ⟨f4_4_0, f4_4_1⟩ := K.f2 x4 (w2.heap.size + 1) (by go_simp); have z4_4 : w2.heap.size + 1 < w4.heap.size := World.block_lt_of_cell? w4 _ c4_4_0; have d4_4 : ¬ (w2.heap.size + 1 = w4.heap.size) := (by omega); have e4_4 : ¬ (w4.heap.size = w2.heap.size + 1) := (by omega); have F1_4 := K.ints.ext (F1_3) x4; have F2_4 := K.ints.ext (F2_3) x4; clear c3_0_0 c3_0_1 c3_0_2 z3_0 d3_0 e3_0 c3_1_0 c3_1_1 z3_1 d3_1 e3_1 c3_2_0 c3_2_1 f3_2_0 f3_2_1 z3_2 d3_2 e3_2 c3_3_0 c3_3_1 f3_3_0 f3_3_1 z3_3 d3_3 e3_3 c3_4_0 c3_4_1 f3_4_0 f3_4_1 z3_4 d3_4 e3_4 F1_3 F2_3)
    rw [HM2.out]
    refine bodyPost_ret (v := .tuple #[.int .i64 0, .int .i64 3]) (by unfold results; rw [Tryz.results7]; go_simp) rfl ⟨rfl, ?_⟩
    repeat with_reducible refine K.Ext.setCell ?_ (by dsimp only; omega) _
    exact (by repeat' (first | with_reducible exact X4 | with_reducible refine K.Ext.setCell ?_ ?_ _ | with_reducible refine K.Ext.alloc ?_ _ | with_reducible refine K.Ext.drew ?_ | (dsimp only; omega) | omega | (simp; omega)))
  rw [if_neg hu] at HR1
  rw [HR1.out] at HA
  by_cases hv : 9000000 < v
  · rw [if_pos hv] at HR2
    rw [HR2.out] at HB
    rw [if_pos (.inr hv)] at HM2
    have X0 : K.Ext w w := K.Ext.refl w
    go_enter Tryz.func7, Tryz.ntmps7
    go_wp2_with (go_at_call 37; refine K.call (by with_reducible rfl) (by with_reducible rfl) (HT.out _ (K.ints.alloc (K.ints.alloc hRL_ _) _) (K.ints.alloc (K.ints.alloc hRR_ _) _)) ?_; rintro e w1 ⟨rfl, x1⟩; have s1 : w.heap.size + 2 ≤ w1.heap.size := (by have h_ := x1.size; (try simp at h_); omega); have X1 := K.Ext.trans (K.Ext.alloc (K.Ext.alloc X0 _) _) x1; obtain ⟨c1_0_0, c1_0_1, c1_0_2⟩ := K.c3 x1 (w.heap.size) (.int .i64 R.ln) (.slice oRL R.st.length cRL) (.slice oRR R.sl.length cRR) (by go_simp); have z1_0 : w.heap.size < w1.heap.size := World.block_lt_of_cell? w1 _ c1_0_0; have d1_0 : ¬ (w.heap.size = w1.heap.size) := (by omega); have e1_0 : ¬ (w1.heap.size = w.heap.size) := (by omega); obtain ⟨c1_1_0, c1_1_1⟩ := K.c2 x1 (w.heap.size + 1) (.int .i64 f.1) (.int .i64 f.2) (by go_simp); have z1_1 : w.heap.size + 1 < w1.heap.size := World.block_lt_of_cell? w1 _ c1_1_0; have d1_1 : ¬ (w.heap.size + 1 = w1.heap.size) := (by omega); have e1_1 : ¬ (w1.heap.size = w.heap.size + 1) := (by omega); have n1_0 : ¬ (w.heap.size + 1 = w.heap.size) := (by omega); have n0_1 : ¬ (w.heap.size = w.heap.size + 1) := (by omega); have F1_1 := K.ints.ext (K.ints.alloc (K.ints.alloc hRL_ _) _) x1; have F2_1 := K.ints.ext (K.ints.alloc (K.ints.alloc hRR_ _) _) x1; clear hRL_ hRR_)
    go_wp2_with (go_at_call 35; refine K.call (by with_reducible rfl) (by with_reducible rfl) (HX.out _) ?_; rintro e w2 ⟨rfl, x2⟩; have s2 : w1.heap.size + 1 ≤ w2.heap.size := (by have h_ := x2.size; (try simp at h_); omega); have X2 := K.Ext.trans (K.Ext.alloc X1 _) x2; obtain ⟨c2_0_0, c2_0_1, c2_0_2⟩ := K.c3 x2 (w.heap.size) (.int .i64 R.ln) (.slice oRL R.st.length cRL) (.slice oRR R.sl.length cRR) (by go_simp); have z2_0 : w.heap.size < w2.heap.size := World.block_lt_of_cell? w2 _ c2_0_0; have d2_0 : ¬ (w.heap.size = w2.heap.size) := (by omega); have e2_0 : ¬ (w2.heap.size = w.heap.size) := (by omega); obtain ⟨c2_1_0, c2_1_1⟩ := K.c2 x2 (w.heap.size + 1) (.int .i64 f.1) (.int .i64 f.2) (by go_simp); have z2_1 : w.heap.size + 1 < w2.heap.size := World.block_lt_of_cell? w2 _ c2_1_0; have d2_1 : ¬ (w.heap.size + 1 = w2.heap.size) := (by omega); have e2_1 : ¬ (w2.heap.size = w.heap.size + 1) := (by omega); obtain ⟨c2_2_0, c2_2_1⟩ := K.c2 x2 (w1.heap.size) (.int .i64 ((x, (0 : Int)).1).1) (.int .i64 ((x, (0 : Int)).1).2) (by go_simp); obtain ⟨f2_2_0, f2_2_1⟩ := K.f2 x2 (w1.heap.size) (by go_simp); have z2_2 : w1.heap.size < w2.heap.size := World.block_lt_of_cell? w2 _ c2_2_0; have d2_2 : ¬ (w1.heap.size = w2.heap.size) := (by omega); have e2_2 : ¬ (w2.heap.size = w1.heap.size) := (by omega); have n2_0 : ¬ (w1.heap.size = w.heap.size) := (by omega); have n0_2 : ¬ (w.heap.size = w1.heap.size) := (by omega); have n2_1 : ¬ (w1.heap.size = w.heap.size + 1) := (by omega); have n1_2 : ¬ (w.heap.size + 1 = w1.heap.size) := (by omega); have F1_2 := K.ints.ext (K.ints.alloc F1_1 _) x2; have F2_2 := K.ints.ext (K.ints.alloc F2_1 _) x2; clear c1_0_0 c1_0_1 c1_0_2 z1_0 d1_0 e1_0 c1_1_0 c1_1_1 z1_1 d1_1 e1_1 F1_1 F2_1)
    go_wp2_with (go_at_call 38; refine K.call (by with_reducible rfl) (by with_reducible rfl) (HA.out _) ?_; rintro e w3 ⟨rfl, x3⟩; have s3 : w2.heap.size + 2 ≤ w3.heap.size := (by have h_ := x3.size; (try simp at h_); omega); have X3 := K.Ext.trans (K.Ext.alloc (K.Ext.alloc X2 _) _) x3; obtain ⟨c3_0_0, c3_0_1, c3_0_2⟩ := K.c3 x3 (w.heap.size) (.int .i64 R.ln) (.slice oRL R.st.length cRL) (.slice oRR R.sl.length cRR) (by go_simp); have z3_0 : w.heap.size < w3.heap.size := World.block_lt_of_cell? w3 _ c3_0_0; have d3_0 : ¬ (w.heap.size = w3.heap.size) := (by omega); have e3_0 : ¬ (w3.heap.size = w.heap.size) := (by omega); obtain ⟨c3_1_0, c3_1_1⟩ := K.c2 x3 (w.heap.size + 1) (.int .i64 f.1) (.int .i64 f.2) (by go_simp); have z3_1 : w.heap.size + 1 < w3.heap.size := World.block_lt_of_cell? w3 _ c3_1_0; have d3_1 : ¬ (w.heap.size + 1 = w3.heap.size) := (by omega); have e3_1 : ¬ (w3.heap.size = w.heap.size + 1) := (by omega); obtain ⟨c3_2_0, c3_2_1⟩ := K.c2 x3 (w1.heap.size) (.int .i64 ((x, (0 : Int)).1).1) (.int .i64 ((x, (0 : Int)).1).2) (by go_simp); obtain ⟨f3_2_0, f3_2_1⟩ := K.f2 x3 (w1.heap.size) (by go_simp); have z3_2 : w1.heap.size < w3.heap.size := World.block_lt_of_cell? w3 _ c3_2_0; have d3_2 : ¬ (w1.heap.size = w3.heap.size) := (by omega); have e3_2 : ¬ (w3.heap.size = w1.heap.size) := (by omega); obtain ⟨c3_3_0, c3_3_1⟩ := K.c2 x3 (w2.heap.size) (.int .i64 ((lo, hi, (0 : Int)).1).1) (.int .i64 ((lo, hi, (0 : Int)).1).2) (by go_simp); obtain ⟨f3_3_0, f3_3_1⟩ := K.f2 x3 (w2.heap.size) (by go_simp); have z3_3 : w2.heap.size < w3.heap.size := World.block_lt_of_cell? w3 _ c3_3_0; have d3_3 : ¬ (w2.heap.size = w3.heap.size) := (by omega); have e3_3 : ¬ (w3.heap.size = w2.heap.size) := (by omega); have n3_0 : ¬ (w2.heap.size = w.heap.size) := (by omega); have n0_3 : ¬ (w.heap.size = w2.heap.size) := (by omega); have n3_1 : ¬ (w2.heap.size = w.heap.size + 1) := (by omega); have n1_3 : ¬ (w.heap.size + 1 = w2.heap.size) := (by omega); have n3_2 : ¬ (w2.heap.size = w1.heap.size) := (by omega); have n2_3 : ¬ (w1.heap.size = w2.heap.size) := (by omega); obtain ⟨c3_4_0, c3_4_1⟩ := K.c2 x3 (w2.heap.size + 1) (.int .i64 ((lo, hi, (0 : Int)).2.1).1) (.int .i64 ((lo, hi, (0 : Int)).2.1).2) (by go_simp); obtain ⟨f3_4_0, f3_4_1⟩ := K.f2 x3 (w2.heap.size + 1) (by go_simp); have z3_4 : w2.heap.size + 1 < w3.heap.size := World.block_lt_of_cell? w3 _ c3_4_0; have d3_4 : ¬ (w2.heap.size + 1 = w3.heap.size) := (by omega); have e3_4 : ¬ (w3.heap.size = w2.heap.size + 1) := (by omega); have n4_0 : ¬ (w2.heap.size + 1 = w.heap.size) := (by omega); have n0_4 : ¬ (w.heap.size = w2.heap.size + 1) := (by omega); have n4_1 : ¬ (w2.heap.size + 1 = w.heap.size + 1) := (by omega); have n1_4 : ¬ (w.heap.size + 1 = w2.heap.size + 1) := (by omega); have n4_2 : ¬ (w2.heap.size + 1 = w1.heap.size) := (by omega); have n2_4 : ¬ (w1.heap.size = w2.heap.size + 1) := (by omega); have n4_3 : ¬ (w2.heap.size + 1 = w2.heap.size) := (by omega); have n3_4 : ¬ (w2.heap.size = w2.heap.size + 1) := (by omega); have F1_3 := K.ints.ext (K.ints.alloc (K.ints.alloc F1_2 _) _) x3; have F2_3 := K.ints.ext (K.ints.alloc (K.ints.alloc F2_2 _) _) x3; clear c2_0_0 c2_0_1 c2_0_2 z2_0 d2_0 e2_0 c2_1_0 c2_1_1 z2_1 d2_1 e2_1 c2_2_0 c2_2_1 f2_2_0 f2_2_1 z2_2 d2_2 e2_2 F1_2 F2_2)
    go_wp2_with (go_at_call 38; refine K.call (by with_reducible rfl) (by with_reducible rfl) (HB.out _) ?_; rintro e w4 ⟨rfl, x4⟩; have s4 : w3.heap.size ≤ w4.heap.size := (by have h_ := x4.size; (try simp at h_); omega); have X4 := K.Ext.trans (X3) x4; obtain ⟨c4_0_0, c4_0_1, c4_0_2⟩ := K.c3 x4 (w.heap.size) (.int .i64 R.ln) (.slice oRL R.st.length cRL) (.slice oRR R.sl.length cRR) (by go_simp); have z4_0 : w.heap.size < w4.heap.size := World.block_lt_of_cell? w4 _ c4_0_0; have d4_0 : ¬ (w.heap.size = w4.heap.size) := (by omega); have e4_0 : ¬ (w4.heap.size = w.heap.size) := (by omega); obtain ⟨c4_1_0, c4_1_1⟩ := K.c2 x4 (w.heap.size + 1) (.int .i64 f.1) (.int .i64 f.2) (by go_simp); have z4_1 : w.heap.size + 1 < w4.heap.size := World.block_lt_of_cell? w4 _ c4_1_0; have d4_1 : ¬ (w.heap.size + 1 = w4.heap.size) := (by omega); have e4_1 : ¬ (w4.heap.size = w.heap.size + 1) := (by omega); obtain ⟨c4_2_0, c4_2_1⟩ := K.c2 x4 (w1.heap.size) (.int .i64 ((x, (0 : Int)).1).1) (.int .i64 ((x, (0 : Int)).1).2) (by go_simp); obtain ⟨f4_2_0, f4_2_1⟩ := K.f2 x4 (w1.heap.size) (by go_simp); have z4_2 : w1.heap.size < w4.heap.size := World.block_lt_of_cell? w4 _ c4_2_0; have d4_2 : ¬ (w1.heap.size = w4.heap.size) := (by omega); have e4_2 : ¬ (w4.heap.size = w1.heap.size) := (by omega); obtain ⟨c4_3_0, c4_3_1⟩ := K.c2 x4 (w2.heap.size) (.int .i64 ((lo, hi, (0 : Int)).1).1) (.int .i64 ((lo, hi, (0 : Int)).1).2) (by go_simp); obtain ⟨f4_3_0, f4_3_1⟩ := K.f2 x4 (w2.heap.size) (by go_simp); have z4_3 : w2.heap.size < w4.heap.size := World.block_lt_of_cell? w4 _ c4_3_0; have d4_3 : ¬ (w2.heap.size = w4.heap.size) := (by omega); have e4_3 : ¬ (w4.heap.size = w2.heap.size) := (by omega); obtain ⟨c4_4_0, c4_4_1⟩ := K.c2 x4 (w2.heap.size + 1) (.int .i64 ((lo, hi, (0 : Int)).2.1).1) (.int .i64 ((lo, hi, (0 : Int)).2.1).2) (by go_simp); obtain ⟨f4_4_0, f4_4_1⟩ := K.f2 x4 (w2.heap.size + 1) (by go_simp); have z4_4 : w2.heap.size + 1 < w4.heap.size := World.block_lt_of_cell? w4 _ c4_4_0; have d4_4 : ¬ (w2.heap.size + 1 = w4.heap.size) := (by omega); have e4_4 : ¬ (w4.heap.size = w2.heap.size + 1) := (by omega); have F1_4 := K.ints.ext (F1_3) x4; have F2_4 := K.ints.ext (F2_3) x4; clear c3_0_0 c3_0_1 c3_0_2 z3_0 d3_0 e3_0 c3_1_0 c3_1_1 z3_1 d3_1 e3_1 c3_2_0 c3_2_1 f3_2_0 f3_2_1 z3_2 d3_2 e3_2 c3_3_0 c3_3_1 f3_3_0 f3_3_1 z3_3 d3_3 e3_3 c3_4_0 c3_4_1 f3_4_0 f3_4_1 z3_4 d3_4 e3_4 F1_3 F2_3)
    rw [HM2.out]
    refine bodyPost_ret (v := .tuple #[.int .i64 0, .int .i64 3]) (by unfold results; rw [Tryz.results7]; go_simp) rfl ⟨rfl, ?_⟩
    repeat with_reducible refine K.Ext.setCell ?_ (by dsimp only; omega) _
    exact (by repeat' (first | with_reducible exact X4 | with_reducible refine K.Ext.setCell ?_ ?_ _ | with_reducible refine K.Ext.alloc ?_ _ | with_reducible refine K.Ext.drew ?_ | (dsimp only; omega) | omega | (simp; omega)))
  rw [if_neg hv] at HR2
  rw [HR2.out] at HB
  rw [if_neg (by omega)] at HM2
  have X0 : K.Ext w w := K.Ext.refl w
  go_enter Tryz.func7, Tryz.ntmps7
  go_wp2_with (go_at_call 37; refine K.call (by with_reducible rfl) (by with_reducible rfl) (HT.out _ (K.ints.alloc (K.ints.alloc hRL_ _) _) (K.ints.alloc (K.ints.alloc hRR_ _) _)) ?_; rintro e w1 ⟨rfl, x1⟩; have s1 : w.heap.size + 2 ≤ w1.heap.size := (by have h_ := x1.size; (try simp at h_); omega); have X1 := K.Ext.trans (K.Ext.alloc (K.Ext.alloc X0 _) _) x1; obtain ⟨c1_0_0, c1_0_1, c1_0_2⟩ := K.c3 x1 (w.heap.size) (.int .i64 R.ln) (.slice oRL R.st.length cRL) (.slice oRR R.sl.length cRR) (by go_simp); have z1_0 : w.heap.size < w1.heap.size := World.block_lt_of_cell? w1 _ c1_0_0; have d1_0 : ¬ (w.heap.size = w1.heap.size) := (by omega); have e1_0 : ¬ (w1.heap.size = w.heap.size) := (by omega); obtain ⟨c1_1_0, c1_1_1⟩ := K.c2 x1 (w.heap.size + 1) (.int .i64 f.1) (.int .i64 f.2) (by go_simp); have z1_1 : w.heap.size + 1 < w1.heap.size := World.block_lt_of_cell? w1 _ c1_1_0; have d1_1 : ¬ (w.heap.size + 1 = w1.heap.size) := (by omega); have e1_1 : ¬ (w1.heap.size = w.heap.size + 1) := (by omega); have n1_0 : ¬ (w.heap.size + 1 = w.heap.size) := (by omega); have n0_1 : ¬ (w.heap.size = w.heap.size + 1) := (by omega); have F1_1 := K.ints.ext (K.ints.alloc (K.ints.alloc hRL_ _) _) x1; have F2_1 := K.ints.ext (K.ints.alloc (K.ints.alloc hRR_ _) _) x1; clear hRL_ hRR_)
  go_wp2_with (go_at_call 35; refine K.call (by with_reducible rfl) (by with_reducible rfl) (HX.out _) ?_; rintro e w2 ⟨rfl, x2⟩; have s2 : w1.heap.size + 1 ≤ w2.heap.size := (by have h_ := x2.size; (try simp at h_); omega); have X2 := K.Ext.trans (K.Ext.alloc X1 _) x2; obtain ⟨c2_0_0, c2_0_1, c2_0_2⟩ := K.c3 x2 (w.heap.size) (.int .i64 R.ln) (.slice oRL R.st.length cRL) (.slice oRR R.sl.length cRR) (by go_simp); have z2_0 : w.heap.size < w2.heap.size := World.block_lt_of_cell? w2 _ c2_0_0; have d2_0 : ¬ (w.heap.size = w2.heap.size) := (by omega); have e2_0 : ¬ (w2.heap.size = w.heap.size) := (by omega); obtain ⟨c2_1_0, c2_1_1⟩ := K.c2 x2 (w.heap.size + 1) (.int .i64 f.1) (.int .i64 f.2) (by go_simp); have z2_1 : w.heap.size + 1 < w2.heap.size := World.block_lt_of_cell? w2 _ c2_1_0; have d2_1 : ¬ (w.heap.size + 1 = w2.heap.size) := (by omega); have e2_1 : ¬ (w2.heap.size = w.heap.size + 1) := (by omega); obtain ⟨c2_2_0, c2_2_1⟩ := K.c2 x2 (w1.heap.size) (.int .i64 ((x, (0 : Int)).1).1) (.int .i64 ((x, (0 : Int)).1).2) (by go_simp); obtain ⟨f2_2_0, f2_2_1⟩ := K.f2 x2 (w1.heap.size) (by go_simp); have z2_2 : w1.heap.size < w2.heap.size := World.block_lt_of_cell? w2 _ c2_2_0; have d2_2 : ¬ (w1.heap.size = w2.heap.size) := (by omega); have e2_2 : ¬ (w2.heap.size = w1.heap.size) := (by omega); have n2_0 : ¬ (w1.heap.size = w.heap.size) := (by omega); have n0_2 : ¬ (w.heap.size = w1.heap.size) := (by omega); have n2_1 : ¬ (w1.heap.size = w.heap.size + 1) := (by omega); have n1_2 : ¬ (w.heap.size + 1 = w1.heap.size) := (by omega); have F1_2 := K.ints.ext (K.ints.alloc F1_1 _) x2; have F2_2 := K.ints.ext (K.ints.alloc F2_1 _) x2; clear c1_0_0 c1_0_1 c1_0_2 z1_0 d1_0 e1_0 c1_1_0 c1_1_1 z1_1 d1_1 e1_1 F1_1 F2_1)
  go_wp2_with (go_at_call 38; refine K.call (by with_reducible rfl) (by with_reducible rfl) (HA.out _) ?_; rintro e w3 ⟨rfl, x3⟩; have s3 : w2.heap.size + 2 ≤ w3.heap.size := (by have h_ := x3.size; (try simp at h_); omega); have X3 := K.Ext.trans (K.Ext.alloc (K.Ext.alloc X2 _) _) x3; obtain ⟨c3_0_0, c3_0_1, c3_0_2⟩ := K.c3 x3 (w.heap.size) (.int .i64 R.ln) (.slice oRL R.st.length cRL) (.slice oRR R.sl.length cRR) (by go_simp); have z3_0 : w.heap.size < w3.heap.size := World.block_lt_of_cell? w3 _ c3_0_0; have d3_0 : ¬ (w.heap.size = w3.heap.size) := (by omega); have e3_0 : ¬ (w3.heap.size = w.heap.size) := (by omega); obtain ⟨c3_1_0, c3_1_1⟩ := K.c2 x3 (w.heap.size + 1) (.int .i64 f.1) (.int .i64 f.2) (by go_simp); have z3_1 : w.heap.size + 1 < w3.heap.size := World.block_lt_of_cell? w3 _ c3_1_0; have d3_1 : ¬ (w.heap.size + 1 = w3.heap.size) := (by omega); have e3_1 : ¬ (w3.heap.size = w.heap.size + 1) := (by omega); obtain ⟨c3_2_0, c3_2_1⟩ := K.c2 x3 (w1.heap.size) (.int .i64 ((x, (0 : Int)).1).1) (.int .i64 ((x, (0 : Int)).1).2) (by go_simp); obtain ⟨f3_2_0, f3_2_1⟩ := K.f2 x3 (w1.heap.size) (by go_simp); have z3_2 : w1.heap.size < w3.heap.size := World.block_lt_of_cell? w3 _ c3_2_0; have d3_2 : ¬ (w1.heap.size = w3.heap.size) := (by omega); have e3_2 : ¬ (w3.heap.size = w1.heap.size) := (by omega); obtain ⟨c3_3_0, c3_3_1⟩ := K.c2 x3 (w2.heap.size) (.int .i64 ((lo, hi, (0 : Int)).1).1) (.int .i64 ((lo, hi, (0 : Int)).1).2) (by go_simp); obtain ⟨f3_3_0, f3_3_1⟩ := K.f2 x3 (w2.heap.size) (by go_simp); have z3_3 : w2.heap.size < w3.heap.size := World.block_lt_of_cell? w3 _ c3_3_0; have d3_3 : ¬ (w2.heap.size = w3.heap.size) := (by omega); have e3_3 : ¬ (w3.heap.size = w2.heap.size) := (by omega); have n3_0 : ¬ (w2.heap.size = w.heap.size) := (by omega); have n0_3 : ¬ (w.heap.size = w2.heap.size) := (by omega); have n3_1 : ¬ (w2.heap.size = w.heap.size + 1) := (by omega); have n1_3 : ¬ (w.heap.size + 1 = w2.heap.size) := (by omega); have n3_2 : ¬ (w2.heap.size = w1.heap.size) := (by omega); have n2_3 : ¬ (w1.heap.size = w2.heap.size) := (by omega); obtain ⟨c3_4_0, c3_4_1⟩ := K.c2 x3 (w2.heap.size + 1) (.int .i64 ((lo, hi, (0 : Int)).2.1).1) (.int .i64 ((lo, hi, (0 : Int)).2.1).2) (by go_simp); obtain ⟨f3_4_0, f3_4_1⟩ := K.f2 x3 (w2.heap.size + 1) (by go_simp); have z3_4 : w2.heap.size + 1 < w3.heap.size := World.block_lt_of_cell? w3 _ c3_4_0; have d3_4 : ¬ (w2.heap.size + 1 = w3.heap.size) := (by omega); have e3_4 : ¬ (w3.heap.size = w2.heap.size + 1) := (by omega); have n4_0 : ¬ (w2.heap.size + 1 = w.heap.size) := (by omega); have n0_4 : ¬ (w.heap.size = w2.heap.size + 1) := (by omega); have n4_1 : ¬ (w2.heap.size + 1 = w.heap.size + 1) := (by omega); have n1_4 : ¬ (w.heap.size + 1 = w2.heap.size + 1) := (by omega); have n4_2 : ¬ (w2.heap.size + 1 = w1.heap.size) := (by omega); have n2_4 : ¬ (w1.heap.size = w2.heap.size + 1) := (by omega); have n4_3 : ¬ (w2.heap.size + 1 = w2.heap.size) := (by omega); have n3_4 : ¬ (w2.heap.size = w2.heap.size + 1) := (by omega); have F1_3 := K.ints.ext (K.ints.alloc (K.ints.alloc F1_2 _) _) x3; have F2_3 := K.ints.ext (K.ints.alloc (K.ints.alloc F2_2 _) _) x3; clear c2_0_0 c2_0_1 c2_0_2 z2_0 d2_0 e2_0 c2_1_0 c2_1_1 z2_1 d2_1 e2_1 c2_2_0 c2_2_1 f2_2_0 f2_2_1 z2_2 d2_2 e2_2 F1_2 F2_2)
  go_wp2_with (go_at_call 38; refine K.call (by with_reducible rfl) (by with_reducible rfl) (HB.out _) ?_; rintro e w4 ⟨rfl, x4⟩; have s4 : w3.heap.size ≤ w4.heap.size := (by have h_ := x4.size; (try simp at h_); omega); have X4 := K.Ext.trans (X3) x4; obtain ⟨c4_0_0, c4_0_1, c4_0_2⟩ := K.c3 x4 (w.heap.size) (.int .i64 R.ln) (.slice oRL R.st.length cRL) (.slice oRR R.sl.length cRR) (by go_simp); have z4_0 : w.heap.size < w4.heap.size := World.block_lt_of_cell? w4 _ c4_0_0; have d4_0 : ¬ (w.heap.size = w4.heap.size) := (by omega); have e4_0 : ¬ (w4.heap.size = w.heap.size) := (by omega); obtain ⟨c4_1_0, c4_1_1⟩ := K.c2 x4 (w.heap.size + 1) (.int .i64 f.1) (.int .i64 f.2) (by go_simp); have z4_1 : w.heap.size + 1 < w4.heap.size := World.block_lt_of_cell? w4 _ c4_1_0; have d4_1 : ¬ (w.heap.size + 1 = w4.heap.size) := (by omega); have e4_1 : ¬ (w4.heap.size = w.heap.size + 1) := (by omega); obtain ⟨c4_2_0, c4_2_1⟩ := K.c2 x4 (w1.heap.size) (.int .i64 ((x, (0 : Int)).1).1) (.int .i64 ((x, (0 : Int)).1).2) (by go_simp); obtain ⟨f4_2_0, f4_2_1⟩ := K.f2 x4 (w1.heap.size) (by go_simp); have z4_2 : w1.heap.size < w4.heap.size := World.block_lt_of_cell? w4 _ c4_2_0; have d4_2 : ¬ (w1.heap.size = w4.heap.size) := (by omega); have e4_2 : ¬ (w4.heap.size = w1.heap.size) := (by omega); obtain ⟨c4_3_0, c4_3_1⟩ := K.c2 x4 (w2.heap.size) (.int .i64 ((lo, hi, (0 : Int)).1).1) (.int .i64 ((lo, hi, (0 : Int)).1).2) (by go_simp); obtain ⟨f4_3_0, f4_3_1⟩ := K.f2 x4 (w2.heap.size) (by go_simp); have z4_3 : w2.heap.size < w4.heap.size := World.block_lt_of_cell? w4 _ c4_3_0; have d4_3 : ¬ (w2.heap.size = w4.heap.size) := (by omega); have e4_3 : ¬ (w4.heap.size = w2.heap.size) := (by omega); obtain ⟨c4_4_0, c4_4_1⟩ := K.c2 x4 (w2.heap.size + 1) (.int .i64 ((lo, hi, (0 : Int)).2.1).1) (.int .i64 ((lo, hi, (0 : Int)).2.1).2) (by go_simp); obtain ⟨f4_4_0, f4_4_1⟩ := K.f2 x4 (w2.heap.size + 1) (by go_simp); have z4_4 : w2.heap.size + 1 < w4.heap.size := World.block_lt_of_cell? w4 _ c4_4_0; have d4_4 : ¬ (w2.heap.size + 1 = w4.heap.size) := (by omega); have e4_4 : ¬ (w4.heap.size = w2.heap.size + 1) := (by omega); have F1_4 := K.ints.ext (F1_3) x4; have F2_4 := K.ints.ext (F2_3) x4; clear c3_0_0 c3_0_1 c3_0_2 z3_0 d3_0 e3_0 c3_1_0 c3_1_1 z3_1 d3_1 e3_1 c3_2_0 c3_2_1 f3_2_0 f3_2_1 z3_2 d3_2 e3_2 c3_3_0 c3_3_1 f3_3_0 f3_3_1 z3_3 d3_3 e3_3 c3_4_0 c3_4_1 f3_4_0 f3_4_1 z3_4 d3_4 e3_4 F1_3 F2_3)
  rw [HM2.out]
  refine bodyPost_ret (v := .tuple #[.int .i64 (max ((u, (0 : Int)).1) ((v, (0 : Int)).1)), .int .i64 0]) (by unfold results; rw [Tryz.results7]; go_simp) rfl ⟨rfl, ?_⟩
  repeat with_reducible refine K.Ext.setCell ?_ (by dsimp only; omega) _
  exact (by repeat' (first | with_reducible exact X4 | with_reducible refine K.Ext.setCell ?_ ?_ _ | with_reducible refine K.Ext.alloc ?_ _ | with_reducible refine K.Ext.drew ?_ | (dsimp only; omega) | omega | (simp; omega)))
end Go.Proofs.YtimpcelbekhipaaGreat
end
section
namespace Go.Z
def orO (s : Int) : Int × Int := if ordS s = 0 then (0, 2) else (ordS s, 0)
end Go.Z
namespace Go.Proofs.YtimpcelbekhipaaGreat
open Go.RowKit
theorem impl_OrderOf (s : Int)  (w : World)   :
    Calls Tryz.prog 28 #[.int .i64 s] w fun e w' => e = .returned (.tuple #[.int .i64 ((Z.orO s).1), .int .i64 ((Z.orO s).2)]) ∧ K.Ext w w' := by
  have HF := fun w => orderOf_any s w
  have HE : Hid (Z.orO s = if Z.ordS s = 0 then (0, 2) else (Z.ordS s, 0)) := Z.hide rfl
  generalize Z.ordS s = a at *
  by_cases ha : a = 0
  · subst ha
    rw [if_pos rfl] at HE
    have X0 : K.Ext w w := K.Ext.refl w
    go_enter Tryz.func28, Tryz.ntmps28
    go_wp2_with (go_at_call 58; refine K.call (by with_reducible rfl) (by with_reducible rfl) (HF _) ?_; rintro e w_ ⟨rfl, rfl⟩)
    rw [HE.out]
    refine bodyPost_ret (v := .tuple #[.int .i64 0, .int .i64 2]) (by unfold results; rw [Tryz.results28]; go_simp) rfl ⟨rfl, ?_⟩
    repeat with_reducible refine K.Ext.setCell ?_ (by dsimp only; omega) _
    exact (by repeat' (first | with_reducible exact X0 | with_reducible refine K.Ext.setCell ?_ ?_ _ | with_reducible refine K.Ext.alloc ?_ _ | with_reducible refine K.Ext.drew ?_ | (dsimp only; omega) | omega | (simp; omega)))
  · rw [if_neg ha] at HE
    have ha' : (a == 0) = false := by simpa using ha
    have X0 : K.Ext w w := K.Ext.refl w
    go_enter Tryz.func28, Tryz.ntmps28
    go_wp2_with (go_at_call 58; refine K.call (by with_reducible rfl) (by with_reducible rfl) (HF _) ?_; rintro e w_ ⟨rfl, rfl⟩)
    go_wp2_with (go_at_call 58; refine K.call (by with_reducible rfl) (by with_reducible rfl) (HF _) ?_; rintro e w_ ⟨rfl, rfl⟩)
    rw [HE.out]
    refine bodyPost_ret (v := .tuple #[.int .i64 a, .int .i64 0]) (by unfold results; rw [Tryz.results28]; go_simp) rfl ⟨rfl, ?_⟩
    repeat with_reducible refine K.Ext.setCell ?_ (by dsimp only; omega) _
    exact (by repeat' (first | with_reducible exact X0 | with_reducible refine K.Ext.setCell ?_ ?_ _ | with_reducible refine K.Ext.alloc ?_ _ | with_reducible refine K.Ext.drew ?_ | (dsimp only; omega) | omega | (simp; omega)))
theorem spec_OrderOf (s : Int)  (w : World)   :
    Calls Tryz.prog 29 #[.int .i64 s] w fun e w' => e = .returned (.tuple #[.int .i64 ((Z.orO s).1), .int .i64 ((Z.orO s).2)]) ∧ K.Ext w w' := by
  have HF := fun w => l17Order_any s w
  have HE : Hid (Z.orO s = if Z.ordS s = 0 then (0, 2) else (Z.ordS s, 0)) := Z.hide rfl
  generalize Z.ordS s = a at *
  by_cases ha : a = 0
  · subst ha
    rw [if_pos rfl] at HE
    have X0 : K.Ext w w := K.Ext.refl w
    go_enter Tryz.func29, Tryz.ntmps29
    go_wp2_with (go_at_call 59; refine K.call (by with_reducible rfl) (by with_reducible rfl) (HF _) ?_; rintro e w_ ⟨rfl, rfl⟩)
    rw [HE.out]
    refine bodyPost_ret (v := .tuple #[.int .i64 0, .int .i64 2]) (by unfold results; rw [Tryz.results29]; go_simp) rfl ⟨rfl, ?_⟩
    repeat with_reducible refine K.Ext.setCell ?_ (by dsimp only; omega) _
    exact (by repeat' (first | with_reducible exact X0 | with_reducible refine K.Ext.setCell ?_ ?_ _ | with_reducible refine K.Ext.alloc ?_ _ | with_reducible refine K.Ext.drew ?_ | (dsimp only; omega) | omega | (simp; omega)))
  · rw [if_neg ha] at HE
    have ha' : (a == 0) = false := by simpa using ha
    have X0 : K.Ext w w := K.Ext.refl w
    go_enter Tryz.func29, Tryz.ntmps29
    go_wp2_with (go_at_call 59; refine K.call (by with_reducible rfl) (by with_reducible rfl) (HF _) ?_; rintro e w_ ⟨rfl, rfl⟩)
    rw [HE.out]
    refine bodyPost_ret (v := .tuple #[.int .i64 a, .int .i64 0]) (by unfold results; rw [Tryz.results29]; go_simp) rfl ⟨rfl, ?_⟩
    repeat with_reducible refine K.Ext.setCell ?_ (by dsimp only; omega) _
    exact (by repeat' (first | with_reducible exact X0 | with_reducible refine K.Ext.setCell ?_ ?_ _ | with_reducible refine K.Ext.alloc ?_ _ | with_reducible refine K.Ext.drew ?_ | (dsimp only; omega) | omega | (simp; omega)))
end Go.Proofs.YtimpcelbekhipaaGreat
end
section
namespace Go.Z
theorem pl_digits {a b : Int} {g h : Int × Int} (k : (plO a b g h).2 = 0) : (plO a b g h).1.1 = h.1 := by
  unfold plO at k ⊢
  split at k
  · exact absurd k (by decide)
  rename_i h1
  split at k
  · exact absurd k (by decide)
  rename_i h2
  rw [if_neg h1, if_neg h2]
  unfold plc at k ⊢
  generalize tenS _ = t at *
  unfold figOr at k ⊢
  split at k
  · rename_i h3; rw [if_pos h3]
  · exact absurd k (by decide)
end Go.Z
namespace Go.Proofs.YtimpcelbekhipaaGreat
open Go.RowKit
set_option maxRecDepth 100000 in
set_option maxHeartbeats 12800000 in
theorem lawT_FnTransfers {n : Nat} {v : Value} (w : World) (HB : ∀ (R : Z.Rl) (fr to : Int) (f : Int × Int), (Z.teO R fr to f).2 = 0 → (Z.teO R fr to f).1 ≤ 3300) (h : K.byts w w.heap.size v n) :
    Calls Tryz.prog 5 #[v] w fun e w' => e = .returned (.bool true) ∧ K.Ext w w' := by
  have F0 : K.Ext w w := K.Ext.refl _
  rcases Nat.lt_or_ge 4096 n with hn | hn
  · go_enter Tryz.func5, Tryz.ntmps5
    go_wp2_with fail
    refine K.call (by with_reducible rfl) (by with_reducible rfl) (big_yes _ hn h) ?_
    rintro e w1 ⟨rfl, rfl⟩
    go_wp2_with fail
    go_ret
    exact ⟨rfl, F0⟩
  go_enter Tryz.func5, Tryz.ntmps5
  go_wp2_with fail
  refine K.call (by with_reducible rfl) (by with_reducible rfl) (big_no _ hn h) ?_
  rintro e w1 ⟨rfl, rfl⟩
  go_wp2_with fail
  refine K.call (by with_reducible rfl) (by with_reducible rfl) (DrawTransferError_any _ hn (K.Ext.size (K.bex F0)) (h.ext (K.bex F0))) ?_
  rintro e w1 ⟨⟨R, pR, qR, a, b, f, rfl, ⟨nR, mR⟩, ⟨iR, aR⟩, ⟨jR, bR⟩⟩, f1⟩
  have F1 : K.Ext w w1 := K.Ext.trans (K.bex F0) f1
  clear f1
  obtain ⟨oRS, kRS, rfl, _⟩ := id iR
  obtain ⟨oRL, kRL, rfl, _⟩ := id jR
  have IRS_1 : K.ints w1 (w.heap.size) w1.heap.size (.slice oRS R.st.length kRS) R.st := iR.mono (by simp) (Nat.le_refl _)
  have IRL_1 : K.ints w1 (w.heap.size) w1.heap.size (.slice oRL R.sl.length kRL) R.sl := jR.mono (by simp) (Nat.le_refl _)
  clear iR jR
  obtain ⟨TE, eTE⟩ : ∃ x, Z.teO R a b f = x := ⟨_, rfl⟩
  have HITE : Hid (∀ (W : World) {l1 h1 l2 h2 : Nat}, K.ints W l1 h1 (.slice oRS R.st.length kRS) R.st → K.ints W l2 h2 (.slice oRL R.sl.length kRL) R.sl → Calls Tryz.prog 10 #[.agg #[.int .i64 R.ln, .slice oRS R.st.length kRS, .slice oRL R.sl.length kRL], .int .i64 a, .int .i64 b, .agg #[.int .i64 f.1, .int .i64 f.2]] W fun e w'' => e = .returned (.tuple #[.int .i64 TE.1, .int .i64 TE.2]) ∧ K.Ext W w'') := Z.hide (fun W {_ _ _ _} k1 k2 => by rw [← eTE]; exact impl_TransferError R a b f W (by omega) k1 aR (by omega) k2 bR)
  have HSTE : Hid (∀ (W : World) {l1 h1 l2 h2 : Nat}, K.ints W l1 h1 (.slice oRS R.st.length kRS) R.st → K.ints W l2 h2 (.slice oRL R.sl.length kRL) R.sl → Calls Tryz.prog 7 #[.agg #[.int .i64 R.ln, .slice oRS R.st.length kRS, .slice oRL R.sl.length kRL], .int .i64 a, .int .i64 b, .agg #[.int .i64 f.1, .int .i64 f.2]] W fun e w'' => e = .returned (.tuple #[.int .i64 TE.1, .int .i64 TE.2]) ∧ K.Ext W w'') := Z.hide (fun W {_ _ _ _} k1 k2 => by rw [← eTE]; exact spec_TransferError R a b f W (by omega) k1 aR (by omega) k2 bR)
  obtain ⟨TF, eTF⟩ : ∃ x, Z.trO R a b f = x := ⟨_, rfl⟩
  have HITF : Hid (∀ (W : World) {l1 h1 l2 h2 : Nat}, K.ints W l1 h1 (.slice oRS R.st.length kRS) R.st → K.ints W l2 h2 (.slice oRL R.sl.length kRL) R.sl → Calls Tryz.prog 22 #[.agg #[.int .i64 R.ln, .slice oRS R.st.length kRS, .slice oRL R.sl.length kRL], .int .i64 a, .int .i64 b, .agg #[.int .i64 f.1, .int .i64 f.2]] W fun e w'' => e = .returned (.tuple #[.agg #[.int .i64 TF.1.1, .int .i64 TF.1.2], .int .i64 TF.2]) ∧ K.Ext W w'') := Z.hide (fun W {_ _ _ _} k1 k2 => by rw [← eTF]; exact impl_TransferFigure R a b f W (by omega) k1 aR (by omega) k2 bR)
  have HSTF : Hid (∀ (W : World) {l1 h1 l2 h2 : Nat}, K.ints W l1 h1 (.slice oRS R.st.length kRS) R.st → K.ints W l2 h2 (.slice oRL R.sl.length kRL) R.sl → Calls Tryz.prog 26 #[.agg #[.int .i64 R.ln, .slice oRS R.st.length kRS, .slice oRL R.sl.length kRL], .int .i64 a, .int .i64 b, .agg #[.int .i64 f.1, .int .i64 f.2]] W fun e w'' => e = .returned (.tuple #[.agg #[.int .i64 TF.1.1, .int .i64 TF.1.2], .int .i64 TF.2]) ∧ K.Ext W w'') := Z.hide (fun W {_ _ _ _} k1 k2 => by rw [← eTF]; exact spec_TransferFigure R a b f W (by omega) k1 aR (by omega) k2 bR)
  have HTB := HB R a b f
  rw [eTE] at HTB
  clear eTE eTF HB
  go_wp2_with fail
  refine K.call (by with_reducible rfl) (by with_reducible rfl) (HITE.out _ (K.bin IRS_1) (K.bin IRL_1)) ?_
  rintro e w2 ⟨rfl, f2⟩
  have F2 : K.Ext w w2 := K.Ext.trans (K.bex F1) f2
  have c2_0_0 : w2.cell? ⟨w1.heap.size, 0, none⟩ = some (.int .i64 R.ln) := f2.cell_of (by go_simp)
  have c2_0_1 : w2.cell? ⟨w1.heap.size, 1, none⟩ = some (.slice oRS R.st.length kRS) := f2.cell_of (by go_simp)
  have c2_0_2 : w2.cell? ⟨w1.heap.size, 2, none⟩ = some (.slice oRL R.sl.length kRL) := f2.cell_of (by go_simp)
  have y2_0 : w1.heap.size < w2.heap.size := World.block_lt_of_cell? w2 _ c2_0_0
  have c2_1_0 : w2.cell? ⟨w1.heap.size + 1, 0, none⟩ = some (.int .i64 f.1) := f2.cell_of (by go_simp)
  have c2_1_1 : w2.cell? ⟨w1.heap.size + 1, 1, none⟩ = some (.int .i64 f.2) := f2.cell_of (by go_simp)
  have y2_1 : w1.heap.size + 1 < w2.heap.size := World.block_lt_of_cell? w2 _ c2_1_0
  have IRS_2 := K.ints.ext (K.bin IRS_1) f2
  have IRL_2 := K.ints.ext (K.bin IRL_1) f2
  clear IRS_1 IRL_1 F1 f2
  go_wp2_with fail
  refine K.call (by with_reducible rfl) (by with_reducible rfl) (HSTE.out _ (K.bin IRS_2) (K.bin IRL_2)) ?_
  rintro e w3 ⟨rfl, f3⟩
  have F3 : K.Ext w w3 := K.Ext.trans (K.bex F2) f3
  obtain ⟨c3_0_0, c3_0_1, c3_0_2, y3_0⟩ := f3.q3 c2_0_0 c2_0_1 c2_0_2
  obtain ⟨c3_1_0, c3_1_1, y3_1⟩ := f3.q2 c2_1_0 c2_1_1
  have IRS_3 := K.ints.ext (K.bin IRS_2) f3
  have IRL_3 := K.ints.ext (K.bin IRL_2) f3
  clear c2_0_0 c2_0_1 c2_0_2 y2_0 c2_1_0 c2_1_1 y2_1 IRS_2 IRL_2 F2 f3
  go_wp2_with fail
  refine K.call (by with_reducible rfl) (by with_reducible rfl) (HITF.out _ (K.bin IRS_3) (K.bin IRL_3)) ?_
  rintro e w4 ⟨rfl, f4⟩
  have F4 : K.Ext w w4 := K.Ext.trans (K.bex F3) f4
  obtain ⟨c4_0_0, c4_0_1, c4_0_2, y4_0⟩ := f4.q3 c3_0_0 c3_0_1 c3_0_2
  obtain ⟨c4_1_0, c4_1_1, y4_1⟩ := f4.q2 c3_1_0 c3_1_1
  have IRS_4 := K.ints.ext (K.bin IRS_3) f4
  have IRL_4 := K.ints.ext (K.bin IRL_3) f4
  clear c3_0_0 c3_0_1 c3_0_2 y3_0 c3_1_0 c3_1_1 y3_1 IRS_3 IRL_3 F3 f4
  go_wp2_with fail
  refine K.call (by with_reducible rfl) (by with_reducible rfl) (HSTF.out _ (K.bin IRS_4) (K.bin IRL_4)) ?_
  rintro e w5 ⟨rfl, f5⟩
  have u5_0_1 : w1.heap.size < w4.heap.size + 1 := (by omega)
  have u5_1_1 : w1.heap.size + 1 < w4.heap.size + 1 := (by omega)
  have F5 : K.Ext w w5 := K.Ext.trans (K.bex F4) f5
  obtain ⟨c5_0_0, c5_0_1, c5_0_2, y5_0⟩ := f5.q3 c4_0_0 c4_0_1 c4_0_2
  obtain ⟨c5_1_0, c5_1_1, y5_1⟩ := f5.q2 c4_1_0 c4_1_1
  have c5_2_0 : w5.cell? ⟨w4.heap.size, 0, none⟩ = some (.int .i64 TF.1.1) := f5.cell_of (by go_simp)
  have c5_2_1 : w5.cell? ⟨w4.heap.size, 1, none⟩ = some (.int .i64 TF.1.2) := f5.cell_of (by go_simp)
  have y5_2 : w4.heap.size < w5.heap.size := World.block_lt_of_cell? w5 _ c5_2_0
  have IRS_5 := K.ints.ext (K.bin IRS_4) f5
  have IRL_5 := K.ints.ext (K.bin IRL_4) f5
  clear c4_0_0 c4_0_1 c4_0_2 y4_0 c4_1_0 c4_1_1 y4_1 IRS_4 IRL_4 F4 f5 u5_0_1 u5_1_1
  clear HITE HSTE HITF HSTF
  go_wp2_with fail
  refine K.call (by with_reducible rfl) (by with_reducible rfl) (DrawOrderOf_any _ hn (K.Ext.size (K.bex F5)) (h.ext (K.bex F5))) ?_
  rintro e w6 ⟨⟨k, rfl⟩, f6⟩
  have u6_2_1 : w4.heap.size < w5.heap.size + 1 := (by omega)
  have F6 : K.Ext w w6 := K.Ext.trans (K.bex F5) f6
  obtain ⟨c6_2_0, c6_2_1, y6_2⟩ := f6.q2 c5_2_0 c5_2_1
  have c6_3_0 : w6.cell? ⟨w5.heap.size, 0, none⟩ = some (.int .i64 TF.1.1) := f6.cell_of (by go_simp)
  have c6_3_1 : w6.cell? ⟨w5.heap.size, 1, none⟩ = some (.int .i64 TF.1.2) := f6.cell_of (by go_simp)
  have y6_3 : w5.heap.size < w6.heap.size := World.block_lt_of_cell? w6 _ c6_3_0
  clear c5_0_0 c5_0_1 c5_0_2 y5_0 c5_1_0 c5_1_1 y5_1 c5_2_0 c5_2_1 y5_2 F5 f6 u6_2_1
  have HIO := Z.hide (fun W => impl_OrderOf k W)
  have HSO := Z.hide (fun W => spec_OrderOf k W)
  generalize Z.orO k = OO at *
  go_wp2_with fail
  refine K.call (by with_reducible rfl) (by with_reducible rfl) (HIO.out _) ?_
  rintro e w7 ⟨rfl, f7⟩
  have F7 : K.Ext w w7 := K.Ext.trans (K.bex F6) f7
  obtain ⟨c7_2_0, c7_2_1, y7_2⟩ := f7.q2 c6_2_0 c6_2_1
  obtain ⟨c7_3_0, c7_3_1, y7_3⟩ := f7.q2 c6_3_0 c6_3_1
  clear c6_2_0 c6_2_1 y6_2 c6_3_0 c6_3_1 y6_3 F6 f7
  go_wp2_with fail
  refine K.call (by with_reducible rfl) (by with_reducible rfl) (HSO.out _) ?_
  rintro e w8 ⟨rfl, f8⟩
  have F8 : K.Ext w w8 := K.Ext.trans (K.bex F7) f8
  obtain ⟨c8_2_0, c8_2_1, y8_2⟩ := f8.q2 c7_2_0 c7_2_1
  obtain ⟨c8_3_0, c8_3_1, y8_3⟩ := f8.q2 c7_3_0 c7_3_1
  clear c7_2_0 c7_2_1 y7_2 c7_3_0 c7_3_1 y7_3 F7 f8
  go_wp2_with fail
  refine K.call (by with_reducible rfl) (by with_reducible rfl) (DrawPlaceTransfer_any _ hn (K.Ext.size (K.bex F8)) (h.ext (K.bex F8))) ?_
  rintro e w9 ⟨⟨a2, b2, g2, h2, rfl⟩, f9⟩
  have F9 : K.Ext w w9 := K.Ext.trans (K.bex F8) f9
  obtain ⟨c9_2_0, c9_2_1, y9_2⟩ := f9.q2 c8_2_0 c8_2_1
  obtain ⟨c9_3_0, c9_3_1, y9_3⟩ := f9.q2 c8_3_0 c8_3_1
  clear c8_2_0 c8_2_1 y8_2 c8_3_0 c8_3_1 y8_3 F8 f9
  have HIP := Z.hide (fun W => impl_PlaceTransfer a2 b2 g2 h2 W)
  have HSP := Z.hide (fun W => spec_PlaceTransfer a2 b2 g2 h2 W)
  have HPD := Z.pl_digits (a := a2) (b := b2) (g := g2) (h := h2)
  generalize Z.plO a2 b2 g2 h2 = PL at *
  go_wp2_with fail
  refine K.call (by with_reducible rfl) (by with_reducible rfl) (HIP.out _) ?_
  rintro e w10 ⟨rfl, f10⟩
  have u10_2_1 : w4.heap.size < w9.heap.size + 1 := (by omega)
  have u10_2_2 : w4.heap.size < w9.heap.size + 1 + 1 := (by omega)
  have u10_3_1 : w5.heap.size < w9.heap.size + 1 := (by omega)
  have u10_3_2 : w5.heap.size < w9.heap.size + 1 + 1 := (by omega)
  have F10 : K.Ext w w10 := K.Ext.trans (K.bex F9) f10
  obtain ⟨c10_2_0, c10_2_1, y10_2⟩ := f10.q2 c9_2_0 c9_2_1
  obtain ⟨c10_3_0, c10_3_1, y10_3⟩ := f10.q2 c9_3_0 c9_3_1
  have c10_4_0 : w10.cell? ⟨w9.heap.size, 0, none⟩ = some (.int .i64 g2.1) := f10.cell_of (by go_simp)
  have c10_4_1 : w10.cell? ⟨w9.heap.size, 1, none⟩ = some (.int .i64 g2.2) := f10.cell_of (by go_simp)
  have y10_4 : w9.heap.size < w10.heap.size := World.block_lt_of_cell? w10 _ c10_4_0
  have c10_5_0 : w10.cell? ⟨w9.heap.size + 1, 0, none⟩ = some (.int .i64 h2.1) := f10.cell_of (by go_simp)
  have c10_5_1 : w10.cell? ⟨w9.heap.size + 1, 1, none⟩ = some (.int .i64 h2.2) := f10.cell_of (by go_simp)
  have y10_5 : w9.heap.size + 1 < w10.heap.size := World.block_lt_of_cell? w10 _ c10_5_0
  clear c9_2_0 c9_2_1 y9_2 c9_3_0 c9_3_1 y9_3 F9 f10 u10_2_1 u10_2_2 u10_3_1 u10_3_2
  go_wp2_with fail
  refine K.call (by with_reducible rfl) (by with_reducible rfl) (HSP.out _) ?_
  rintro e w11 ⟨rfl, f11⟩
  have u11_2_1 : w4.heap.size < w10.heap.size + 1 := (by omega)
  have u11_3_1 : w5.heap.size < w10.heap.size + 1 := (by omega)
  have u11_4_1 : w9.heap.size < w10.heap.size + 1 := (by omega)
  have u11_5_1 : w9.heap.size + 1 < w10.heap.size + 1 := (by omega)
  have F11 : K.Ext w w11 := K.Ext.trans (K.bex F10) f11
  obtain ⟨c11_2_0, c11_2_1, y11_2⟩ := f11.q2 c10_2_0 c10_2_1
  obtain ⟨c11_3_0, c11_3_1, y11_3⟩ := f11.q2 c10_3_0 c10_3_1
  obtain ⟨c11_4_0, c11_4_1, y11_4⟩ := f11.q2 c10_4_0 c10_4_1
  obtain ⟨c11_5_0, c11_5_1, y11_5⟩ := f11.q2 c10_5_0 c10_5_1
  have c11_6_0 : w11.cell? ⟨w10.heap.size, 0, none⟩ = some (.int .i64 PL.1.1) := f11.cell_of (by go_simp)
  have c11_6_1 : w11.cell? ⟨w10.heap.size, 1, none⟩ = some (.int .i64 PL.1.2) := f11.cell_of (by go_simp)
  have y11_6 : w10.heap.size < w11.heap.size := World.block_lt_of_cell? w11 _ c11_6_0
  clear c10_2_0 c10_2_1 y10_2 c10_3_0 c10_3_1 y10_3 c10_4_0 c10_4_1 y10_4 c10_5_0 c10_5_1 y10_5 F10 f11 u11_2_1 u11_3_1 u11_4_1 u11_5_1
  go_wp2_with fail
  refine K.call (by with_reducible rfl) (by with_reducible rfl) (DrawTransferExact_any _ hn (K.Ext.size (K.bex F11)) (h.ext (K.bex F11))) ?_
  rintro e w12 ⟨⟨a3, b3, f3, rfl⟩, f12⟩
  have u12_2_1 : w4.heap.size < w11.heap.size + 1 := (by omega)
  have u12_3_1 : w5.heap.size < w11.heap.size + 1 := (by omega)
  have u12_4_1 : w9.heap.size < w11.heap.size + 1 := (by omega)
  have u12_5_1 : w9.heap.size + 1 < w11.heap.size + 1 := (by omega)
  have u12_6_1 : w10.heap.size < w11.heap.size + 1 := (by omega)
  have F12 : K.Ext w w12 := K.Ext.trans (K.bex F11) f12
  obtain ⟨c12_2_0, c12_2_1, y12_2⟩ := f12.q2 c11_2_0 c11_2_1
  obtain ⟨c12_3_0, c12_3_1, y12_3⟩ := f12.q2 c11_3_0 c11_3_1
  obtain ⟨c12_4_0, c12_4_1, y12_4⟩ := f12.q2 c11_4_0 c11_4_1
  obtain ⟨c12_5_0, c12_5_1, y12_5⟩ := f12.q2 c11_5_0 c11_5_1
  obtain ⟨c12_6_0, c12_6_1, y12_6⟩ := f12.q2 c11_6_0 c11_6_1
  have c12_7_0 : w12.cell? ⟨w11.heap.size, 0, none⟩ = some (.int .i64 PL.1.1) := f12.cell_of (by go_simp)
  have c12_7_1 : w12.cell? ⟨w11.heap.size, 1, none⟩ = some (.int .i64 PL.1.2) := f12.cell_of (by go_simp)
  have y12_7 : w11.heap.size < w12.heap.size := World.block_lt_of_cell? w12 _ c12_7_0
  clear c11_2_0 c11_2_1 y11_2 c11_3_0 c11_3_1 y11_3 c11_4_0 c11_4_1 y11_4 c11_5_0 c11_5_1 y11_5 c11_6_0 c11_6_1 y11_6 F11 f12 u12_2_1 u12_3_1 u12_4_1 u12_5_1 u12_6_1
  have HIX := Z.hide (fun W => impl_TransferExact a3 b3 f3 W)
  have HSX := Z.hide (fun W => spec_TransferExact a3 b3 f3 W)
  generalize Z.xpO a3 b3 f3 = XP at *
  go_wp2_with fail
  refine K.call (by with_reducible rfl) (by with_reducible rfl) (HIX.out _) ?_
  rintro e w13 ⟨rfl, f13⟩
  have u13_2_1 : w4.heap.size < w12.heap.size + 1 := (by omega)
  have u13_3_1 : w5.heap.size < w12.heap.size + 1 := (by omega)
  have u13_4_1 : w9.heap.size < w12.heap.size + 1 := (by omega)
  have u13_5_1 : w9.heap.size + 1 < w12.heap.size + 1 := (by omega)
  have u13_6_1 : w10.heap.size < w12.heap.size + 1 := (by omega)
  have u13_7_1 : w11.heap.size < w12.heap.size + 1 := (by omega)
  have F13 : K.Ext w w13 := K.Ext.trans (K.bex F12) f13
  obtain ⟨c13_2_0, c13_2_1, y13_2⟩ := f13.q2 c12_2_0 c12_2_1
  obtain ⟨c13_3_0, c13_3_1, y13_3⟩ := f13.q2 c12_3_0 c12_3_1
  obtain ⟨c13_4_0, c13_4_1, y13_4⟩ := f13.q2 c12_4_0 c12_4_1
  obtain ⟨c13_5_0, c13_5_1, y13_5⟩ := f13.q2 c12_5_0 c12_5_1
  obtain ⟨c13_6_0, c13_6_1, y13_6⟩ := f13.q2 c12_6_0 c12_6_1
  obtain ⟨c13_7_0, c13_7_1, y13_7⟩ := f13.q2 c12_7_0 c12_7_1
  have c13_8_0 : w13.cell? ⟨w12.heap.size, 0, none⟩ = some (.int .i64 f3.1) := f13.cell_of (by go_simp)
  have c13_8_1 : w13.cell? ⟨w12.heap.size, 1, none⟩ = some (.int .i64 f3.2) := f13.cell_of (by go_simp)
  have y13_8 : w12.heap.size < w13.heap.size := World.block_lt_of_cell? w13 _ c13_8_0
  clear c12_2_0 c12_2_1 y12_2 c12_3_0 c12_3_1 y12_3 c12_4_0 c12_4_1 y12_4 c12_5_0 c12_5_1 y12_5 c12_6_0 c12_6_1 y12_6 c12_7_0 c12_7_1 y12_7 F12 f13 u13_2_1 u13_3_1 u13_4_1 u13_5_1 u13_6_1 u13_7_1
  go_wp2_with fail
  refine K.call (by with_reducible rfl) (by with_reducible rfl) (HSX.out _) ?_
  rintro e w14 ⟨rfl, f14⟩
  have u14_2_1 : w4.heap.size < w13.heap.size + 1 := (by omega)
  have u14_2_2 : w4.heap.size < w13.heap.size + 1 + 1 := (by omega)
  have u14_3_1 : w5.heap.size < w13.heap.size + 1 := (by omega)
  have u14_3_2 : w5.heap.size < w13.heap.size + 1 + 1 := (by omega)
  have u14_4_1 : w9.heap.size < w13.heap.size + 1 := (by omega)
  have u14_4_2 : w9.heap.size < w13.heap.size + 1 + 1 := (by omega)
  have u14_5_1 : w9.heap.size + 1 < w13.heap.size + 1 := (by omega)
  have u14_5_2 : w9.heap.size + 1 < w13.heap.size + 1 + 1 := (by omega)
  have u14_6_1 : w10.heap.size < w13.heap.size + 1 := (by omega)
  have u14_6_2 : w10.heap.size < w13.heap.size + 1 + 1 := (by omega)
  have u14_7_1 : w11.heap.size < w13.heap.size + 1 := (by omega)
  have u14_7_2 : w11.heap.size < w13.heap.size + 1 + 1 := (by omega)
  have u14_8_1 : w12.heap.size < w13.heap.size + 1 := (by omega)
  have u14_8_2 : w12.heap.size < w13.heap.size + 1 + 1 := (by omega)
  have F14 : K.Ext w w14 := K.Ext.trans (K.bex F13) f14
  obtain ⟨c14_2_0, c14_2_1, y14_2⟩ := f14.q2 c13_2_0 c13_2_1
  obtain ⟨c14_3_0, c14_3_1, y14_3⟩ := f14.q2 c13_3_0 c13_3_1
  obtain ⟨c14_4_0, c14_4_1, y14_4⟩ := f14.q2 c13_4_0 c13_4_1
  obtain ⟨c14_5_0, c14_5_1, y14_5⟩ := f14.q2 c13_5_0 c13_5_1
  obtain ⟨c14_6_0, c14_6_1, y14_6⟩ := f14.q2 c13_6_0 c13_6_1
  obtain ⟨c14_7_0, c14_7_1, y14_7⟩ := f14.q2 c13_7_0 c13_7_1
  obtain ⟨c14_8_0, c14_8_1, y14_8⟩ := f14.q2 c13_8_0 c13_8_1
  have c14_9_0 : w14.cell? ⟨w13.heap.size, 0, none⟩ = some (.int .i64 XP.1.1) := f14.cell_of (by go_simp)
  have c14_9_1 : w14.cell? ⟨w13.heap.size, 1, none⟩ = some (.int .i64 XP.1.2) := f14.cell_of (by go_simp)
  have y14_9 : w13.heap.size < w14.heap.size := World.block_lt_of_cell? w14 _ c14_9_0
  have c14_10_0 : w14.cell? ⟨w13.heap.size + 1, 0, none⟩ = some (.int .i64 XP.2.1.1) := f14.cell_of (by go_simp)
  have c14_10_1 : w14.cell? ⟨w13.heap.size + 1, 1, none⟩ = some (.int .i64 XP.2.1.2) := f14.cell_of (by go_simp)
  have y14_10 : w13.heap.size + 1 < w14.heap.size := World.block_lt_of_cell? w14 _ c14_10_0
  clear c13_2_0 c13_2_1 y13_2 c13_3_0 c13_3_1 y13_3 c13_4_0 c13_4_1 y13_4 c13_5_0 c13_5_1 y13_5 c13_6_0 c13_6_1 y13_6 c13_7_0 c13_7_1 y13_7 c13_8_0 c13_8_1 y13_8 F13 f14 u14_2_1 u14_2_2 u14_3_1 u14_3_2 u14_4_1 u14_4_2 u14_5_1 u14_5_2 u14_6_1 u14_6_2 u14_7_1 u14_7_2 u14_8_1 u14_8_2
  by_cases hp : PL.2 = 0
  · have hPD := HPD hp
    by_cases ht : TE.2 = 0
    · have hTB := HTB ht
      go_wp2_with fail
      go_ret
      exact ⟨rfl, (K.bex F14)⟩
    have ht' : (TE.2 == 0) = false := by simpa using ht
    go_wp2_with fail
    go_ret
    exact ⟨rfl, (K.bex F14)⟩
  have hp' : (PL.2 == 0) = false := by simpa using hp
  by_cases ht : TE.2 = 0
  · have hTB := HTB ht
    go_wp2_with fail
    go_ret
    exact ⟨rfl, (K.bex F14)⟩
  have ht' : (TE.2 == 0) = false := by simpa using ht
  go_wp2_with fail
  go_ret
  exact ⟨rfl, (K.bex F14)⟩
end Go.Proofs.YtimpcelbekhipaaGreat
end
section
namespace Go.Z
def Ln (n : Int) : Int := (figLog (atN n)).1
def Hn (n : Int) : Int := (figLog (atN n)).2
theorem L_step (n : Int) : Ln n + 40 ≤ Ln (n + 1) ∧ Hn n + 40 ≤ Hn (n + 1) := figLog_step n
theorem L_mono {n m : Int} (h : n ≤ m) : Ln n ≤ Ln m ∧ Hn n ≤ Hn m := figLog_mono h
/-- a logarithm of digits -/
theorem log_in {d : Int} (h1 : 1000 ≤ d) (h2 : d ≤ 9999) : 0 ≤ (logOf (d * 100000)).1 ∧ (logOf (d * 100000)).1 ≤ (logOf (d * 100000)).2 ∧ (logOf (d * 100000)).2 ≤ (logOf (d * 100000)).1 + 2 ∧ (logOf (d * 100000)).2 ≤ 1048531 := by
  obtain ⟨k, hk, k1, k2, hl⟩ := logOf_at h1 h2
  have c := width k k1 k2
  have m := figLog_mono (n := d - 1000) (m := 8999) (by omega)
  have e1 : atN (d - 1000) = (d, 0) := by unfold atN; rw [Int.emod_eq_of_lt (by omega) (by omega), Int.ediv_eq_zero_of_lt (by omega) (by omega)]; exact Prod.ext (by dsimp only; omega) rfl
  have e2 : atN 8999 = (9999, 0) := rfl
  rw [e1, e2] at m
  unfold figLog at m
  have e3 : ((9999 : Int), (0 : Int)).1 * 100000 = ((9999 : Nat) : Int) * 100000 := rfl
  rw [e3, logOf_LL 9999, ends.2.2.1, ends.2.2.2] at m
  dsimp only at m
  rw [hl] at m ⊢
  dsimp only at m ⊢
  omega
theorem fig_at {f : Int × Int} (h1 : 1000 ≤ f.1) (h2 : f.1 ≤ 9999) : atN (9000 * f.2 + (f.1 - 1000)) = f := by
  rw [atN_at (by omega) (by omega)]
  exact Prod.ext (by dsimp only; omega) rfl
theorem L_fig (f : Int × Int) (h1 : 1000 ≤ f.1) (h2 : f.1 ≤ 9999) : Ln (9000 * f.2 + (f.1 - 1000)) = (logOf (f.1 * 100000)).1 + f.2 * 1048576 ∧ Hn (9000 * f.2 + (f.1 - 1000)) = (logOf (f.1 * 100000)).2 + f.2 * 1048576 := by
  unfold Ln Hn
  rw [fig_at h1 h2]
  exact ⟨rfl, rfl⟩
theorem L_at (n : Int) : Ln n = (logOf ((1000 + n % 9000) * 100000)).1 + n / 9000 * 1048576 ∧ Hn n = (logOf ((1000 + n % 9000) * 100000)).2 + n / 9000 * 1048576 := ⟨rfl, rfl⟩
theorem LH (n : Int) : Ln n ≤ Hn n ∧ Hn n ≤ Ln n + 2 := by
  obtain ⟨a, b⟩ := L_at n
  have c := log_in (d := 1000 + n % 9000) (by omega) (by omega)
  rw [a, b]; omega
theorem L_shift (n k : Int) : Ln (n + 9000 * k) = Ln n + k * 1048576 ∧ Hn (n + 9000 * k) = Hn n + k * 1048576 := by
  obtain ⟨a, b⟩ := L_at n
  obtain ⟨c, d⟩ := L_at (n + 9000 * k)
  rw [show (n + 9000 * k) % 9000 = n % 9000 by omega, show (n + 9000 * k) / 9000 = n / 9000 + k by omega] at c d
  rw [a, b, c, d]
  constructor <;> rw [Int.add_mul] <;> omega
theorem L_0 : Ln 0 = 0 ∧ Hn 0 = 1 := by
  obtain ⟨a, b⟩ := L_at 0
  have e : ((1000 + (0 : Int) % 9000) * 100000) = ((1000 : Nat) : Int) * 100000 := rfl
  rw [e, logOf_LL, ends.1, ends.2.1] at a b
  rw [a, b]; exact ⟨rfl, rfl⟩
theorem mids : LL 2000 = 315652 ∧ HH 2000 ≤ 315654 ∧ LL 4000 = 631305 ∧ HH 4000 ≤ 631307 := ⟨by kernel_rfl, Nat.le_of_ble_eq_true (by kernel_rfl), by kernel_rfl, Nat.le_of_ble_eq_true (by kernel_rfl)⟩
/-- no step is half as wide as a decade -/
theorem L_stepU (n : Int) : Hn (n + 1) ≤ Ln n + 420000 := by
  obtain ⟨a, b⟩ := L_at n
  obtain ⟨m1, m2, m3, m4⟩ := mids
  have s1 := L_shift 1000 (n / 9000)
  have s3 := L_shift 3000 (n / 9000)
  have s9 := L_shift 0 (n / 9000 + 1)
  have s0 := L_shift 0 (n / 9000)
  have e1 : Ln 1000 = ((LL 2000 : Nat) : Int) ∧ Hn 1000 = ((HH 2000 : Nat) : Int) := by
    have h := L_at 1000
    have e : ((1000 + (1000 : Int) % 9000) * 100000) = ((2000 : Nat) : Int) * 100000 := rfl
    rw [e, logOf_LL] at h
    exact ⟨by rw [h.1]; dsimp only; omega, by rw [h.2]; dsimp only; omega⟩
  have e3 : Ln 3000 = ((LL 4000 : Nat) : Int) ∧ Hn 3000 = ((HH 4000 : Nat) : Int) := by
    have h := L_at 3000
    have e : ((1000 + (3000 : Int) % 9000) * 100000) = ((4000 : Nat) : Int) * 100000 := rfl
    rw [e, logOf_LL] at h
    exact ⟨by rw [h.1]; dsimp only; omega, by rw [h.2]; dsimp only; omega⟩
  have z := L_0
  have hk : n / 9000 * 9000 + n % 9000 = n := by omega
  generalize n / 9000 = k at *
  rw [Int.add_mul] at s9
  by_cases c1 : n % 9000 < 1000
  · have u := L_mono (n := n + 1) (m := 1000 + 9000 * k) (by omega)
    have v := L_mono (n := 0 + 9000 * k) (m := n) (by omega)
    omega
  by_cases c2 : n % 9000 < 3000
  · have u := L_mono (n := n + 1) (m := 3000 + 9000 * k) (by omega)
    have v := L_mono (n := 1000 + 9000 * k) (m := n) (by omega)
    omega
  · have u := L_mono (n := n + 1) (m := 0 + 9000 * (k + 1)) (by omega)
    have v := L_mono (n := 3000 + 9000 * k) (m := n) (by omega)
    omega
/-! points -/
def kS (s t : Int) : Int := if s = 1 then t / 2 else if s = 2 then t / 3 else if s = 3 then -(t + 1) else t
theorem pt_fig {s : Int} (hs : s = 0 ∨ s = 1 ∨ s = 2 ∨ s = 3) {f : Int × Int} (h1 : 1000 ≤ f.1) (h2 : f.1 ≤ 9999) :
    (Ln (9000 * f.2 + (f.1 - 1000)) - 2 ≤ ordS s * (ptS s f + kS s f.2 * 1048576) ∧ ordS s * (ptS s f + kS s f.2 * 1048576) ≤ Hn (9000 * f.2 + (f.1 - 1000)) + 2) ∧ 0 ≤ ptS s f ∧ ptS s f ≤ 1048576 := by
  obtain ⟨e1, e2⟩ := L_fig f h1 h2
  have li := log_in h1 h2
  rw [e1, e2]
  unfold ptS posS figLog
  dsimp only
  generalize logOf (f.1 * 100000) = l at *
  rcases hs with rfl | rfl | rfl | rfl
  · rw [if_neg (by decide), if_neg (by decide), if_neg (by decide), show ordS 0 = 1 from rfl, show kS 0 f.2 = f.2 from rfl]
    dsimp only
    have a := fl2 (l.1 + 0 * 1048576 + (l.2 + 0 * 1048576))
    omega
  · rw [if_pos rfl, show ordS 1 = 2 from rfl, show kS 1 f.2 = f.2 / 2 from rfl]
    dsimp only
    have b := fl2 (l.1 + f.2 % 2 * 1048576)
    have c := cl2 (l.2 + f.2 % 2 * 1048576)
    have a := fl2 (fl (l.1 + f.2 % 2 * 1048576) 2 + cl (l.2 + f.2 % 2 * 1048576) 2)
    omega
  · rw [if_neg (by decide), if_pos rfl, show ordS 2 = 3 from rfl, show kS 2 f.2 = f.2 / 3 from rfl]
    dsimp only
    have b := fl3 (l.1 + f.2 % 3 * 1048576)
    have c := cl3 (l.2 + f.2 % 3 * 1048576)
    have a := fl2 (fl (l.1 + f.2 % 3 * 1048576) 3 + cl (l.2 + f.2 % 3 * 1048576) 3)
    omega
  · rw [if_neg (by decide), if_neg (by decide), if_pos rfl, show ordS 3 = -1 from rfl, show kS 3 f.2 = -(f.2 + 1) from rfl]
    dsimp only
    have a := fl2 (1048576 - (l.2 + 0 * 1048576) + (1048576 - (l.1 + 0 * 1048576)))
    omega
def k0 (s : Int) : Int := if s = 3 then -1 else 0
theorem pt_on {s n : Int} (hs : s = 0 ∨ s = 1 ∨ s = 2 ∨ s = 3) (h0 : 0 ≤ n) (h1 : n < 9000 * decS s) :
    Ln n - 2 ≤ ordS s * (pN s n + k0 s * 1048576) ∧ ordS s * (pN s n + k0 s * 1048576) ≤ Hn n + 2 := by
  have d := atN_digits n
  have a := (pt_fig (f := atN n) hs d.1 d.2).1
  have e : 9000 * (atN n).2 + ((atN n).1 - 1000) = n := by unfold atN; dsimp only; omega
  have k : kS s (atN n).2 = k0 s := by
    have e2 : (atN n).2 = n / 9000 := rfl
    rw [e2]
    rcases hs with rfl | rfl | rfl | rfl
    · rw [show decS 0 = 1 from rfl] at h1; show n / 9000 = 0; omega
    · rw [show decS 1 = 2 from rfl] at h1; show n / 9000 / 2 = 0; omega
    · rw [show decS 2 = 3 from rfl] at h1; show n / 9000 / 3 = 0; omega
    · rw [show decS 3 = 1 from rfl] at h1; show -(n / 9000 + 1) = -1; omega
  rw [e, k] at a
  exact a
/-- a point is between the neighbours of what is read there -/
theorem read_near {s p n : Int} (hs : s = 0 ∨ s = 1 ∨ s = 2 ∨ s = 3) (p0 : 0 ≤ p) (p1 : p ≤ 1048576) (h : IsBest (pN s) p 0 (9000 * decS s) n) :
    Ln (n - 1) - 2 ≤ ordS s * (p + k0 s * 1048576) ∧ ordS s * (p + k0 s * 1048576) ≤ Hn (n + 1) + 2 := by
  obtain ⟨n0, n1, hb⟩ := h
  obtain ⟨fa, ok⟩ := okF_of hs
  have mono := pN_mono ok
  have up : n + 1 < 9000 * decS s → ordS s * (p + k0 s * 1048576) ≤ ordS s * (pN s (n + 1) + k0 s * 1048576) := fun hm => by
    have q := hb (n + 1) (by omega) hm
    unfold nearer ab2 at q
    rcases mono with ⟨f1, m⟩ | ⟨f1, m⟩
    · have g := m n (n + 1) n0 (by omega) hm
      have : p ≤ pN s (n + 1) := by split at q <;> split at q <;> omega
      rcases ok with ⟨_, hs'⟩ | ⟨f2, _⟩
      · rcases hs' with rfl | rfl | rfl
        · show 1 * _ ≤ 1 * _; omega
        · show 2 * _ ≤ 2 * _; omega
        · show 3 * _ ≤ 3 * _; omega
      · rw [f1] at f2; cases f2
    · have g := m n (n + 1) n0 (by omega) hm
      have : pN s (n + 1) ≤ p := by split at q <;> split at q <;> omega
      rcases ok with ⟨f2, _⟩ | ⟨_, rfl⟩
      · rw [f1] at f2; cases f2
      · show -1 * _ ≤ -1 * _; omega
  have dn : 0 ≤ n - 1 → ordS s * (pN s (n - 1) + k0 s * 1048576) ≤ ordS s * (p + k0 s * 1048576) := fun hm => by
    have q := hb (n - 1) hm (by omega)
    unfold nearer ab2 at q
    rcases mono with ⟨f1, m⟩ | ⟨f1, m⟩
    · have g := m (n - 1) n hm (by omega) n1
      have : pN s (n - 1) ≤ p := by split at q <;> split at q <;> omega
      rcases ok with ⟨_, hs'⟩ | ⟨f2, _⟩
      · rcases hs' with rfl | rfl | rfl
        · show 1 * _ ≤ 1 * _; omega
        · show 2 * _ ≤ 2 * _; omega
        · show 3 * _ ≤ 3 * _; omega
      · rw [f1] at f2; cases f2
    · have g := m (n - 1) n hm (by omega) n1
      have : p ≤ pN s (n - 1) := by split at q <;> split at q <;> omega
      rcases ok with ⟨f2, _⟩ | ⟨_, rfl⟩
      · rw [f1] at f2; cases f2
      · show -1 * _ ≤ -1 * _; omega
  constructor
  · by_cases hm : 0 ≤ n - 1
    · have a := pt_on hs hm (by omega)
      have := dn hm
      omega
    · obtain rfl : n = 0 := by omega
      have a := L_mono (n := 0 - 1) (m := 0) (by omega)
      have z := L_0
      rcases hs with rfl | rfl | rfl | rfl
      · show _ ≤ 1 * (p + 0 * 1048576); omega
      · show _ ≤ 2 * (p + 0 * 1048576); omega
      · show _ ≤ 3 * (p + 0 * 1048576); omega
      · show _ ≤ -1 * (p + -1 * 1048576); omega
  · by_cases hm : n + 1 < 9000 * decS s
    · have a := pt_on hs (by omega) hm
      have := up hm
      omega
    · have z := L_0
      rcases hs with rfl | rfl | rfl | rfl
      · rw [show decS 0 = 1 from rfl] at hm n1
        obtain rfl : n = 8999 := by omega
        have a := L_shift 0 1
        show 1 * (p + 0 * 1048576) ≤ Hn (0 + 9000 * 1) + 2; omega
      · rw [show decS 1 = 2 from rfl] at hm n1
        obtain rfl : n = 17999 := by omega
        have a := L_shift 0 2
        show 2 * (p + 0 * 1048576) ≤ Hn (0 + 9000 * 2) + 2; omega
      · rw [show decS 2 = 3 from rfl] at hm n1
        obtain rfl : n = 26999 := by omega
        have a := L_shift 0 3
        show 3 * (p + 0 * 1048576) ≤ Hn (0 + 9000 * 3) + 2; omega
      · rw [show decS 3 = 1 from rfl] at hm n1
        obtain rfl : n = 8999 := by omega
        have a := L_shift 0 1
        show -1 * (p + -1 * 1048576) ≤ Hn (0 + 9000 * 1) + 2; omega
theorem best_ex (P : Int → Int) (t : Int) : ∀ k : Nat, ∃ n, IsBest P t 0 ((k : Int) + 1) n
  | 0 => ⟨0, Int.le_refl _, by omega, fun m h1 h2 => (show m = 0 by omega) ▸ nearer_refl _ _ _⟩
  | k + 1 => by
    obtain ⟨n, h1, h2, h3⟩ := best_ex P t k
    rcases nearer_total P t n ((k : Int) + 1) with h | h
    · refine ⟨n, h1, by omega, fun m m1 m2 => ?_⟩
      by_cases c : m < (k : Int) + 1
      · exact h3 m m1 c
      · obtain rfl : m = (k : Int) + 1 := by omega
        exact h
    · refine ⟨(k : Int) + 1, by omega, by omega, fun m m1 m2 => ?_⟩
      by_cases c : m < (k : Int) + 1
      · exact nearer_trans h (h3 m m1 c)
      · obtain rfl : m = (k : Int) + 1 := by omega
        exact nearer_refl _ _ _
theorem rdN_best (s t : Int) : IsBest (pN s) t 0 (9000 * decS s) (rdN s t) := by
  have d := decS_bd s
  obtain ⟨n, hn⟩ := best_ex (pN s) t (9000 * decS s - 1).toNat
  rw [show (((9000 * decS s - 1).toNat : Nat) : Int) + 1 = 9000 * decS s by omega] at hn
  rw [rdN_eq hn]
  exact hn
/-- the exact power and the point, times the order -/
theorem target {fr to : Int} (hf : fr = 0 ∨ fr = 1 ∨ fr = 2 ∨ fr = 3) (ht : to = 0 ∨ to = 1 ∨ to = 2 ∨ to = 3) {l1 l2 q : Int} (hl : l1 ≤ l2 ∧ l2 ≤ l1 + 2) (hq : l1 - 2 ≤ ordS fr * q ∧ ordS fr * q ≤ l2 + 2) :
    ((scaleD (l1, l2) (powS fr to).1 (powS fr to).2).1 - 8 ≤ ordS to * q ∧ ordS to * q ≤ (scaleD (l1, l2) (powS fr to).1 (powS fr to).2).2 + 8) ∧
      (scaleD (l1, l2) (powS fr to).1 (powS fr to).2).1 ≤ (scaleD (l1, l2) (powS fr to).1 (powS fr to).2).2 ∧ (scaleD (l1, l2) (powS fr to).1 (powS fr to).2).2 ≤ (scaleD (l1, l2) (powS fr to).1 (powS fr to).2).1 + 8 := by
  unfold scaleD cl
  have key : ∀ (a b n d : Int), ordS fr = a → ordS to = b → powS fr to = (n, d) → 0 < d → (d * b = n * a) → (d = 1 ∨ d = 2 ∨ d = 3) → (n = 1 ∨ n = 2 ∨ n = 3 ∨ n = -1 ∨ n = -2 ∨ n = -3) → (a = 1 ∨ a = 2 ∨ a = 3 ∨ a = -1) → (b = 1 ∨ b = 2 ∨ b = 3 ∨ b = -1) → (a = d ∨ (a = -1 ∧ d = 1)) →
      ((fl (min (l1 * n) (l2 * n)) d - 8 ≤ b * q ∧ b * q ≤ -(fl (-(max (l1 * n) (l2 * n))) d) + 8) ∧ fl (min (l1 * n) (l2 * n)) d ≤ -(fl (-(max (l1 * n) (l2 * n))) d) ∧ -(fl (-(max (l1 * n) (l2 * n))) d) ≤ fl (min (l1 * n) (l2 * n)) d + 8) := by
    intro a b n d ea eb _ hd e1 hd3 hn ha hb had
    rw [ea] at hq
    have s1 := fl_spec (min (l1 * n) (l2 * n)) d hd
    have s2 := fl_spec (-(max (l1 * n) (l2 * n))) d hd
    generalize fl (min (l1 * n) (l2 * n)) d = x at *
    generalize fl (-(max (l1 * n) (l2 * n))) d = y at *
    rcases ha with rfl | rfl | rfl | rfl <;> rcases hd3 with rfl | rfl | rfl <;> (try omega) <;> rcases hn with rfl | rfl | rfl | rfl | rfl | rfl <;> (try omega) <;> rcases hb with rfl | rfl | rfl | rfl <;> omega
  have hp : ∀ n d : Int, powS fr to = (n, d) → (powS fr to).1 = n ∧ (powS fr to).2 = d := fun n d h => by rw [h]; exact ⟨rfl, rfl⟩
  rcases hf with rfl | rfl | rfl | rfl <;> rcases ht with rfl | rfl | rfl | rfl <;> exact key _ _ _ _ rfl rfl rfl (by decide) (by decide) (by decide) (by decide) (by decide) (by decide) (by decide)
theorem tens_at {g t : Int} (h1 : -1048576 < g - 2097152 * t) (h2 : g - 2097152 * t < 1048576) : tenS g = t := by
  obtain ⟨t1, t2⟩ := fl_spec g 2097152 (by decide)
  unfold tenS; split <;> omega
theorem atN_shift (n k : Int) : atN (n - 9000 * k) = ((atN n).1, (atN n).2 - k) := by
  unfold atN
  rw [show (n - 9000 * k) % 9000 = n % 9000 by omega, show (n - 9000 * k) / 9000 = n / 9000 - k by omega]
theorem figOr_at {f : Int × Int} (h : (figOr f).2 = 0) : (figOr f).1 = f := by
  unfold figOr at h ⊢
  cases hf : isFig f.1 f.2
  · rw [hf, if_neg (by decide)] at h; exact absurd h (by decide)
  · rfl
/-- the figure that a transfer yields is next to the exact power -/
theorem cu_near {R : Rl} {fr to : Int} {f : Int × Int} (h : (cuO R fr to f).2 = 0) :
    (isFig f.1 f.2 = true ∧ ¬ ordS fr = 0 ∧ ¬ ordS to = 0) ∧ ∃ x, (cuO R fr to f).1 = atN x ∧ Ln (x - 1) ≤ (scaleD (figLog f) (powS fr to).1 (powS fr to).2).2 + 10 ∧ (scaleD (figLog f) (powS fr to).1 (powS fr to).2).1 ≤ Hn (x + 1) + 10 ∧
      (scaleD (figLog f) (powS fr to).1 (powS fr to).2).1 ≤ (scaleD (figLog f) (powS fr to).1 (powS fr to).2).2 ∧ (scaleD (figLog f) (powS fr to).1 (powS fr to).2).2 ≤ (scaleD (figLog f) (powS fr to).1 (powS fr to).2).1 + 8 := by
  unfold cuO at h ⊢
  by_cases c : (trO R fr to f).2 = 0
  case neg => rw [if_neg c] at h; exact absurd h c
  rw [if_pos c] at h ⊢
  unfold trO at c
  by_cases tc : tCode R fr to (isFig f.1 f.2) = 0
  case neg => rw [if_neg tc] at c; exact absurd c tc
  have e0 : (trO R fr to f).1 = trF fr to f := by unfold trO; rw [if_pos tc]
  rw [e0] at h ⊢
  clear c
  obtain ⟨⟨_, hfig⟩, of, ot⟩ := tCode_zero tc
  obtain ⟨⟨f1, f2⟩, _⟩ := isFig_parts hfig
  refine ⟨⟨hfig, of, ot⟩, ?_⟩
  have hf := ord_ne of
  have ht := ord_ne ot
  obtain ⟨pq, p0, p1⟩ := pt_fig hf f1 f2
  have bst := rdN_best to (ptS fr f)
  have near := read_near ht p0 p1 bst
  have el : figLog f = (Ln (9000 * f.2 + (f.1 - 1000)), Hn (9000 * f.2 + (f.1 - 1000))) := by unfold Ln Hn; rw [fig_at f1 f2]
  have lh := LH (9000 * f.2 + (f.1 - 1000))
  have tg := target hf ht lh pq
  rw [← el] at tg
  unfold plO at h ⊢
  by_cases cv : (isFig f.1 f.2 && isFig (trF fr to f).1 (trF fr to f).2) = false
  · rw [if_pos cv] at h; exact absurd h (by decide)
  rw [if_neg cv] at h ⊢
  have co : ¬ (ordS fr = 0 ∨ ordS to = 0) := fun h => h.elim of ot
  rw [if_neg co] at h ⊢
  unfold plc at h ⊢
  have e1 := figOr_at h
  rw [e1]
  clear h e1 cv co e0
  generalize scaleD (figLog f) (powS fr to).1 (powS fr to).2 = u at *
  obtain ⟨n, hn⟩ : ∃ n, rdN to (ptS fr f) = n := ⟨_, rfl⟩
  rw [hn] at near
  have eF : trF fr to f = atN n := by unfold trF; rw [hn]
  rw [eF]
  clear bst
  generalize ptS fr f = p at *
  generalize kS fr f.2 = k at *
  obtain ⟨J, hJ⟩ : ∃ J, ordS to * (p + k * 1048576) = ordS to * (p + k0 to * 1048576) - J * 1048576 := by
    rcases ht with rfl | rfl | rfl | rfl
    · exact ⟨-k, by show 1 * (p + k * 1048576) = 1 * (p + 0 * 1048576) - -k * 1048576; omega⟩
    · exact ⟨-2 * k, by show 2 * (p + k * 1048576) = 2 * (p + 0 * 1048576) - -2 * k * 1048576; omega⟩
    · exact ⟨-3 * k, by show 3 * (p + k * 1048576) = 3 * (p + 0 * 1048576) - -3 * k * 1048576; omega⟩
    · exact ⟨1 + k, by show -1 * (p + k * 1048576) = -1 * (p + -1 * 1048576) - (1 + k) * 1048576; omega⟩
  rw [hJ] at tg
  generalize ordS to * (p + k0 to * 1048576) = T at *
  have s1 := L_shift (n - 1) (-J)
  have s2 := L_shift (n + 1) (-J)
  have s0 := L_shift n (-J)
  rw [Int.neg_mul] at s1 s2 s0
  have e1 : n - 1 + 9000 * -J = n - 9000 * J - 1 := by omega
  have e2 : n + 1 + 9000 * -J = n - 9000 * J + 1 := by omega
  have e3 : n + 9000 * -J = n - 9000 * J := by omega
  rw [e1] at s1
  rw [e2] at s2
  rw [e3] at s0
  refine ⟨n - 9000 * J, ?_, by omega, by omega, tg.2.1, tg.2.2⟩
  rw [atN_shift]
  refine Prod.ext rfl ?_
  show tenS (gapS (atN n).1 u) = (atN n).2 - J
  have la := L_at n
  have u1 := L_stepU (n - 9000 * J)
  have u2 := L_stepU (n - 9000 * J - 1)
  rw [Int.sub_add_cancel] at u2
  have eg : gapS (atN n).1 u = u.1 + u.2 - (Ln n - (atN n).2 * 1048576) - (Hn n - (atN n).2 * 1048576) := by
    unfold gapS figLog Ln Hn figLog
    dsimp only
    omega
  refine tens_at ?_ ?_
  · rw [eg, Int.mul_sub]; have lhx := LH (n - 9000 * J); omega
  · rw [eg, Int.mul_sub]; have lhx := LH (n - 9000 * J); omega
/-! the span -/
theorem below_at' {u : Int} (h : isFig (below u).1 (below u).2 = true) : ∃ n, below u = atN n ∧ (-270000 ≤ n ∧ n ≤ 278999) ∧ Hn n ≤ u ∧ (n = 278999 ∨ u < Hn (n + 1)) := by
  have sp := firstN_spec (fun n => u < (figLog (atN n)).2) (-270000) 549000
  obtain ⟨_, p1, p2⟩ := isFig_parts h
  refine ⟨firstHigh u - 1, rfl, ?_, ?_, ?_⟩
  · have b := firstHigh_bd u
    have e : (below u).2 = (firstHigh u - 1) / 9000 := rfl
    rw [e] at p1 p2
    omega
  · have e : (below u).2 = (firstHigh u - 1) / 9000 := rfl
    rw [e] at p1
    have := sp.2.2.2 (firstHigh u - 1) (by omega) (by unfold firstHigh; omega)
    show (figLog (atN (firstHigh u - 1))).2 ≤ u
    exact Int.not_lt.1 this
  · rcases sp.2.2.1 with q | q
    · left; show firstHigh u - 1 = 278999; unfold firstHigh; rw [q]; decide
    · right; rw [Int.sub_add_cancel]; exact q
theorem above_at' {u : Int} (h : isFig (above u).1 (above u).2 = true) : ∃ n, above u = atN n ∧ (-270000 ≤ n ∧ n ≤ 278999) ∧ u ≤ Ln n ∧ (n = -270000 ∨ Ln (n - 1) < u) := by
  have sp := firstN_spec (fun n => u ≤ (figLog (atN n)).1) (-270000) 549000
  obtain ⟨_, p1, p2⟩ := isFig_parts h
  have b := firstLow_bd u
  have e : (above u).2 = firstLow u / 9000 := rfl
  rw [e] at p1 p2
  refine ⟨firstLow u, rfl, by omega, ?_, ?_⟩
  · rcases sp.2.2.1 with q | q
    · exfalso; have : firstLow u = 279000 := by unfold firstLow; rw [q]; decide
      omega
    · exact q
  · by_cases c : firstLow u = -270000
    · exact .inl c
    · right
      have := sp.2.2.2 (firstLow u - 1) (by omega) (by unfold firstLow; omega)
      exact Int.not_le.1 this
theorem span_near {u : Int × Int} (h : (spanOf u).2.2 = 0) (hu : u.1 ≤ u.2) : ∃ lo hi, (spanOf u).1 = atN lo ∧ (spanOf u).2.1 = atN hi ∧ (Hn lo ≤ u.1 ∧ u.1 < Hn (lo + 1)) ∧ Ln (hi - 1) < u.2 ∧ u.2 ≤ Ln hi := by
  unfold spanOf at h ⊢
  cases h1 : (units u.1 && units u.2)
  · rw [h1, if_neg (by decide)] at h; exact absurd h (by decide)
  rw [h1, if_pos rfl] at h
  cases h2 : (isFig (below u.1).1 (below u.1).2 && isFig (above u.2).1 (above u.2).2)
  · rw [h2, if_neg (by decide)] at h; exact absurd h (by decide)
  obtain ⟨v1, v2⟩ := Bool.and_eq_true_iff.1 h2
  obtain ⟨lo, a1, a2, a3, a4⟩ := below_at' v1
  obtain ⟨hi, b1, b2, b3, b4⟩ := above_at' v2
  refine ⟨lo, hi, by rw [if_pos rfl, if_pos rfl]; exact a1, by rw [if_pos rfl, if_pos rfl]; exact b1, ⟨a3, ?_⟩, ?_, b3⟩
  · rcases a4 with rfl | a4
    · have m := L_mono (n := hi) (m := 278999) b2.2
      have s := L_step 278999
      have l := LH 278999
      omega
    · exact a4
  · rcases b4 with rfl | b4
    · have m := L_mono (n := -270000) (m := lo) a2.1
      have s := L_step (-270000 - 1)
      have l := LH (-270000)
      rw [Int.sub_add_cancel] at s
      omega
    · exact b4
/-! errors -/
theorem cl_le {a b c : Int} (hb : 0 < b) (h : a ≤ c * b) : cl a b ≤ c := by
  obtain ⟨h1, h2⟩ := fl_spec (-a) b hb
  unfold cl
  rcases Int.lt_or_le c (-(fl (-a) b)) with k | k
  · have := Int.mul_le_mul_of_nonneg_left (show c + 1 ≤ -(fl (-a) b) by omega) (show (0 : Int) ≤ b by omega)
    rw [Int.mul_add, Int.mul_one, Int.mul_neg, Int.mul_comm b c] at this
    omega
  · exact k
theorem rel_near {x g : Int} (h1 : -3 ≤ x - g) (h2 : x - g ≤ 3) : relE (atN x) (atN g) ≤ 3000 := by
  have e1 : (atN x).1 = 1000 + x % 9000 := rfl
  have e2 : (atN x).2 = x / 9000 := rfl
  have e3 : (atN g).1 = 1000 + g % 9000 := rfl
  have e4 : (atN g).2 = g / 9000 := rfl
  unfold relE
  rw [e1, e2, e3, e4]
  rw [if_neg (by omega), if_neg (by omega)]
  have hc : x / 9000 - g / 9000 = 0 ∨ x / 9000 - g / 9000 = 1 ∨ x / 9000 - g / 9000 = -1 := by omega
  rcases hc with hc | hc | hc
  · rw [hc]
    show cl (1000000 * ab ((1000 + x % 9000) * 1 - (1000 + g % 9000) * 1)) ((1000 + g % 9000) * 1) ≤ 3000
    exact cl_le (by omega) (by unfold ab; omega)
  · rw [hc]
    show cl (1000000 * ab ((1000 + x % 9000) * 10 - (1000 + g % 9000) * 1)) ((1000 + g % 9000) * 1) ≤ 3000
    exact cl_le (by omega) (by unfold ab; omega)
  · rw [hc]
    show cl (1000000 * ab ((1000 + x % 9000) * 1 - (1000 + g % 9000) * 10)) ((1000 + g % 9000) * 10) ≤ 3000
    exact cl_le (by omega) (by unfold ab; omega)
theorem te_bound (R : Rl) (fr to : Int) (f : Int × Int) (h : (teO R fr to f).2 = 0) : (teO R fr to f).1 ≤ 3300 := by
  unfold teO teF at h ⊢
  by_cases c1 : (cuO R fr to f).2 = 0
  case neg => rw [if_pos c1] at h; exact absurd h c1
  rw [if_neg (by simpa using c1)] at h ⊢
  by_cases c2 : (xpO fr to f).2.2 = 0
  case neg => rw [if_pos c2] at h; exact absurd h c2
  rw [if_neg (by simpa using c2)] at h ⊢
  obtain ⟨⟨hf, of, ot⟩, x, ex, n1, n2, n3, n4⟩ := cu_near c1
  have ep : xpO fr to f = spanOf (scaleD (figLog f) (powS fr to).1 (powS fr to).2) := by
    unfold xpO; rw [if_neg (by rw [hf]; decide), if_neg (fun h => h.elim of ot)]
  rw [ep] at h c2 ⊢
  obtain ⟨lo, hi, e1, e2, ⟨m1, m2⟩, m3, m4⟩ := span_near c2 n3
  rw [ex, e1, e2] at h ⊢
  generalize scaleD (figLog f) (powS fr to).1 (powS fr to).2 = u at *
  have k1 : lo ≤ x + 1 := by
    rcases Int.lt_or_le (x + 1) lo with c | c
    · have a := L_mono (n := x + 1 + 1) (m := lo) (by omega)
      have b := L_step (x + 1)
      omega
    · exact c
  have k2 : x ≤ lo + 2 := by
    rcases Int.lt_or_le (lo + 2) x with c | c
    · have a := L_mono (n := lo + 1 + 1) (m := x - 1) (by omega)
      have b := L_step (lo + 1)
      have l := LH (lo + 1)
      omega
    · exact c
  have k3 : hi ≤ x + 2 := by
    rcases Int.lt_or_le (x + 2) hi with c | c
    · have a := L_mono (n := x + 1 + 1) (m := hi - 1) (by omega)
      have b := L_step (x + 1)
      have l := LH (x + 1)
      omega
    · exact c
  have k4 : x ≤ hi + 1 := by
    rcases Int.lt_or_le (hi + 1) x with c | c
    · have a := L_mono (n := hi + 1) (m := x - 1) (by omega)
      have b := L_step hi
      omega
    · exact c
  have r1 := rel_near (x := x) (g := lo) (by omega) (by omega)
  have r2 := rel_near (x := x) (g := hi) (by omega) (by omega)
  rw [if_neg (by omega)]
  show max _ _ ≤ 3300
  omega
end Go.Z
end
section
namespace Go.Proofs.YtimpcelbekhipaaGreat
open Go.RowKit
theorem law_FnTransfers {n : Nat} {v : Value} (w : World) (h : K.byts w w.heap.size v n) :
    Calls Tryz.prog 5 #[v] w fun e w' => e = .returned (.bool true) ∧ K.Ext w w' := lawT_FnTransfers w Z.te_bound h
end Go.Proofs.YtimpcelbekhipaaGreat
end
section
namespace Go.Proofs.YtimpcelbekhipaaGreat
open Go.ChangeShapes Go.WideShapes Go.ChangeAt Go.RowKit
namespace frameFnTransfers
theorem own : ownKnob Tryz.prog.godebug = none := by kernel_rfl
theorem laidOut : laidOutB Tryz.prog = true := by kernel_rfl
theorem reads : ∀ t ∈ Tryz.f5.params.toList, Tryz.prog.readableRec t = true ∧ t < Tryz.prog.types.size := by
  rw [Tryz.params5]
  intro t ht
  simp only [List.mem_cons, List.not_mem_nil, or_false] at ht
  subst ht; exact ⟨by kernel_rfl, of_decide_eq_true (by kernel_rfl)⟩
set_option maxRecDepth 100000 in
theorem lifted (os : Os) (started : os.Started) (H : Type) (enc : TypeId × Value → H) :
    ReturnsInHanded {} Tryz.checked os 5 .any (Rows.fnTransfersSpec.pre6 enc Tryz.prog Tryz.f5 Rows.fnTransfersRow.domain false) (Rows.fnTransfersSpec.post enc Tryz.prog Tryz.f5 false true false false) := by
  refine returnsInHanded_of_change (C := Tryz.checked) own started (by kernel_rfl) Tryz.func5
    (ChangeSpec.witness6 (enc := enc) (C := Tryz.checked) false ⟨#[], #[.slice none 0 0], []⟩ 8 (by kernel_rfl) (by kernel_rfl) (by kernel_rfl) (by kernel_rfl)) ?_
  intro W base args ds gs before hval0 hW hcnd _
  have hval : ∀ (j : Nat) t v, Tryz.f5.params[j]? = some t → args[j]? = some v → Value.okWide Tryz.prog W .any base t v := hval0
  have hW' := hW
  obtain ⟨p, q, hA0, hV, rfl, hfz, hnd⟩ := hW
  have hA : DataW.TrodAll enc Tryz.prog W 0 (fun _ => true) true Tryz.f5.params.toList args.toList ds p := hA0
  rw [Tryz.params5] at hA hval
  obtain ⟨rfl, rfl⟩ := trodVars_none hV
  obtain ⟨v0, vs0, d0, ds0, p0, q0, hargs, rfl, rfl, h0, r0⟩ := trodAll_cons hA
  obtain ⟨rfl, rfl, rfl⟩ := trodAll_nil r0
  obtain rfl : args = #[v0] := by cases args; simp_all
  clear hA0 hval0
  obtain ⟨a0, l0, c0, rfl⟩ := okWide_slice Tryz.underlying36 (hval 0 36 v0 rfl rfl)
  obtain ⟨fu0, hf0⟩ := h0
  obtain ⟨x0, zs0, ex0, hx0, hl0, hq0⟩ := K.recs_arg (R := K.ByR) (Q := fun s => 0 ≤ s ∧ s ≤ 255) 0 (by decide) Tryz.underlying36 (by kernel_rfl) (fun n cs y hy => K.byte_cells Tryz.underlying5 hy) hf0
  obtain rfl : Value.slice a0 l0 c0 = x0 := by simpa [Value.cells] using ex0
  refine Calls.mono (law_FnTransfers  W (K.byts_of_recs hx0 hq0)) fun e W' ⟨he, hg⟩ => ?_
  subst he
  exact ⟨_, rfl, K.law_post laidOut reads rfl Tryz.underlying4 rfl hW' rfl hg⟩
theorem over : Rows.fnTransfersRow.holds Tryz.pinned (OpenSpec.ofChange Rows.fnTransfersSpec) :=
  OpenClaim.holds_of_wide 5 Tryz.f5 rfl rfl rfl rfl rfl rfl rfl ⟨rfl, rfl, rfl, rfl, rfl⟩ rfl rfl rfl rfl rfl (by kernel_rfl) Tryz.func5 (by kernel_rfl)
    (of_decide_eq_true (by kernel_rfl)) (by unfold Func.isWrapper; first | (rw [if_pos (by decide +kernel)]; kernel_rfl) | (rw [if_neg (by decide +kernel)]; exact ⟨rfl, rfl⟩))
    (fun os started H enc _ => lifted os started H enc)
/-- The given statement. -/
theorem proved : Rows.FnTransfersSaid := over
#print axioms proved
end frameFnTransfers
end Go.Proofs.YtimpcelbekhipaaGreat
end
