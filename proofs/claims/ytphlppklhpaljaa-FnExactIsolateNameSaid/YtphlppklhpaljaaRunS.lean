/-
  STEPS one behind the other: the reference.
-/
import Derived.Test.YtphlppklhpaljaaRun
import Derived.Test.YtphlppklhpaljaaFmLaw
set_option linter.unusedVariables false
namespace Go.Z
theorem isFormula_nz {F : Fm} (h : isFormula F = true) : ∀ x ∈ F.pw, x ≠ 0 := by
  intro x hx
  obtain ⟨i, hi, rfl⟩ := List.getElem_of_mem hx
  obtain ⟨hpl, h6⟩ := isFormula_len h
  have h1 := okAt_parts (valid_at h i (by omega))
  have h2 : F.pw.getD i 0 = F.pw[i] := by simp [List.getD_eq_getElem?_getD, hi]
  rw [← h2]
  exact h1.2.2.2.1
theorem SwapSides_nz (E : Eqn) : (∀ x ∈ (SwapSides E).1.L.pw, x ≠ 0) ∧ ∀ x ∈ (SwapSides E).1.R.pw, x ≠ 0 := by
  unfold SwapSides; split
  · rename_i h
    obtain ⟨a, b⟩ := isEquation_parts h
    exact ⟨isFormula_nz b, isFormula_nz a⟩
  · exact ⟨zeroFm_nz, zeroFm_nz⟩
theorem RaiseSides_nz (E : Eqn) (n : Int) : (∀ x ∈ (RaiseSides E n).1.L.pw, x ≠ 0) ∧ ∀ x ∈ (RaiseSides E n).1.R.pw, x ≠ 0 := by
  unfold RaiseSides; split
  · split
    · exact ⟨zeroFm_nz, zeroFm_nz⟩
    · split
      · exact bothOf_nz (raised_nz _ _) (raised_nz _ _)
      · exact ⟨zeroFm_nz, zeroFm_nz⟩
  · exact ⟨zeroFm_nz, zeroFm_nz⟩
theorem stepEq_nz (E : Eqn) (s : St) : (∀ x ∈ (stepEq E s).1.L.pw, x ≠ 0) ∧ ∀ x ∈ (stepEq E s).1.R.pw, x ≠ 0 := by
  unfold stepEq; split
  · exact SwapSides_nz E
  · split
    · exact TimesFormula_nz _ _
    · exact RaiseSides_nz _ _
end Go.Z
namespace Go.K
open Go.RowKit
def SP.fmB (B : Nat) (F : Z.Fm) : SP := ⟨fun v w => ∃ p hi, v = .agg #[.int .i64 F.dg, .int .i64 F.tn, .string F.nm, p] ∧ B ≤ hi ∧ hi ≤ w.heap.size ∧ K.ints w B hi p F.pw, fun _ _ _ hx ⟨p, hi, hv, h1, hh, h⟩ => ⟨p, hi, hv, h1, Nat.le_trans hh hx.size, h.ext hx⟩⟩
def SP.eqB (B : Nat) (M : Z.Eqn) (t : Bool) : SP := ⟨fun v w => ∃ p q hi, v = .tuple #[.agg #[.int .i64 M.L.dg, .int .i64 M.L.tn, .string M.L.nm, p, .int .i64 M.R.dg, .int .i64 M.R.tn, .string M.R.nm, q], .bool t] ∧ B ≤ hi ∧ hi ≤ w.heap.size ∧ K.ints w B hi p M.L.pw ∧ K.ints w B hi q M.R.pw, fun _ _ _ hx ⟨p, q, hi, hv, h1, hh, h, h'⟩ => ⟨p, q, hi, hv, h1, Nat.le_trans hh hx.size, h.ext hx, h'.ext hx⟩⟩
/-- a slice without zeros does not lie in a block of zeros -/
theorem ints_off2 {w : World} {g lo hi n c : Nat} {o : Option Addr} {xs : List Int} {cells : Array Value} {T : TypeId} (hl : lo ≤ hi) (hb : w.heap[g]? = some (.cells cells T)) (hz : ∀ (j : Nat) (x : Int), cells[j]? = some (.int .i64 x) → x = 0) (hn : ∀ x ∈ xs, x ≠ 0)
    (h : K.ints w lo hi (.slice o n c) xs) : ∃ l r, (g < l ∨ r ≤ g) ∧ lo ≤ l ∧ r ≤ hi ∧ K.ints w l r (.slice o n c) xs := by
  by_cases hx : xs = []
  · obtain ⟨o', c', hv, hh⟩ := h
    by_cases hg : g < lo
    · exact ⟨lo, lo, .inl hg, Nat.le_refl _, hl, o', c', hv, fun h => absurd hx h⟩
    · exact ⟨lo, lo, .inr (by omega), Nat.le_refl _, hl, o', c', hv, fun h => absurd hx h⟩
  · have h0 : 0 < xs.length := List.length_pos_iff.2 hx
    obtain ⟨l, r, h1, h2, h3⟩ := ints_off hb hz hn h
    obtain ⟨o', c', hv, hh⟩ := h3
    obtain ⟨o2, c2, hv2, hh2⟩ := h
    obtain ⟨b, off, ho, a1, a2, a3⟩ := hh hx
    obtain ⟨b2, off2, ho2, e1, e2, e3⟩ := hh2 hx
    have hbb : b = b2 := by
      have := hv.symm.trans hv2
      rw [ho, ho2] at this
      simp at this
      exact this.1.1
    subst hbb
    refine ⟨b, b + 1, by omega, by omega, by omega, o', c', hv, fun _ => ⟨b, off, ho, Nat.le_refl _, by omega, a3⟩⟩
end Go.K
namespace Go.Proofs.Ytphlppklhpaljaa
open Go.RowKit
set_option maxRecDepth 100000 in
set_option maxHeartbeats 12800000 in
theorem spec_RunSteps (E : Z.Eqn) (xs : List (Z.St)) {loEL hiEL loER hiER : Nat} {pEL pER : Value} {loxs hixs : Nat} {pxs : Value} (w : World)  (hmEL : E.L.pw.length ≤ 1048576) (hnEL : E.L.nm.size ≤ 1048576) (hmER : E.R.pw.length ≤ 1048576) (hnER : E.R.nm.size ≤ 1048576) (hEL : K.ints w loEL hiEL pEL E.L.pw) (hER : K.ints w loER hiER pER E.R.pw) (hmxs : xs.length ≤ 1048576) (hxs : K.recs false K.StR w loxs hixs pxs xs) :
    Calls Try.prog 52 #[.agg #[.int .i64 E.L.dg, .int .i64 E.L.tn, .string E.L.nm, pEL, .int .i64 E.R.dg, .int .i64 E.R.tn, .string E.R.nm, pER], pxs] w fun e w' => (∃ p' q', e = .returned (.tuple #[.agg #[.int .i64 ((Z.RunSteps E xs).1.L).dg, .int .i64 ((Z.RunSteps E xs).1.L).tn, .string ((Z.RunSteps E xs).1.L).nm, p', .int .i64 ((Z.RunSteps E xs).1.R).dg, .int .i64 ((Z.RunSteps E xs).1.R).tn, .string ((Z.RunSteps E xs).1.R).nm, q'], .int .i64 ((Z.RunSteps E xs).2)]) ∧ K.ints w' w.heap.size w'.heap.size p' (Z.RunSteps E xs).1.L.pw ∧ K.ints w' w.heap.size w'.heap.size q' (Z.RunSteps E xs).1.R.pw) ∧ K.Ext w w' := by
  have hEL_ := hEL
  have shEL := hEL
  obtain ⟨oEL, cEL, rfl, _⟩ := shEL
  have hER_ := hER
  have shER := hER
  obtain ⟨oER, cER, rfl, _⟩ := shER
  have hxs_ := hxs
  have shxs := hxs
  obtain ⟨oxs, cxs, rfl, _⟩ := shxs
  obtain ⟨c, hc⟩ : ∃ c, c = Z.stCode xs := ⟨_, rfl⟩
  have HCd : ∀ {a b : Nat} {v : Value} (w : World), K.recs false K.StR w a b v xs → Calls Try.prog 131 #[v] w fun e w' => e = .returned (.int .i64 c) ∧ K.Ext w w' := fun w h => by rw [hc]; exact l21Code_any xs w hmxs h
  cases vE : Z.isEquation E
  · have HE : Hid (Z.RunSteps E xs = (Z.zeroEqn, 1)) := Z.hide (Z.RunSteps_bad xs vE)
    clear hc
    have X0 : K.Ext w w := K.Ext.refl w
    go_enter Try.func52, Try.ntmps52
    go_wp2_with (go_at_call 131; refine K.call (by with_reducible rfl) (by with_reducible rfl) (HCd _ (K.recs.alloc (K.recs.alloc hxs_ _) _)) ?_; rintro e w1 ⟨rfl, x1⟩; have s1 : w.heap.size + 2 ≤ w1.heap.size := (by have h_ := x1.size; (try simp at h_); omega); have X1 := K.Ext.trans (K.Ext.alloc (K.Ext.alloc X0 _) _) x1; obtain ⟨c1_0_0, c1_0_1, c1_0_2, c1_0_3, c1_0_4, c1_0_5, c1_0_6, c1_0_7⟩ := K.c8 x1 (w.heap.size) (.int .i64 E.L.dg) (.int .i64 E.L.tn) (.string E.L.nm) (.slice oEL E.L.pw.length cEL) (.int .i64 E.R.dg) (.int .i64 E.R.tn) (.string E.R.nm) (.slice oER E.R.pw.length cER) (by go_simp); have z1_0 : w.heap.size < w1.heap.size := World.block_lt_of_cell? w1 _ c1_0_0; have d1_0 : ¬ (w.heap.size = w1.heap.size) := (by omega); have e1_0 : ¬ (w1.heap.size = w.heap.size) := (by omega); obtain ⟨c1_1_0, c1_1_1, c1_1_2, c1_1_3, c1_1_4, c1_1_5, c1_1_6, c1_1_7⟩ := K.c8 x1 (w.heap.size + 1) (.int .i64 0) (.int .i64 0) (.string ⟨#[]⟩) (.slice none 0 0) (.int .i64 0) (.int .i64 0) (.string ⟨#[]⟩) (.slice none 0 0) (by go_simp); obtain ⟨f1_1_0, f1_1_1, f1_1_2, f1_1_3, f1_1_4, f1_1_5, f1_1_6, f1_1_7⟩ := K.f8 x1 (w.heap.size + 1) (by go_simp); have z1_1 : w.heap.size + 1 < w1.heap.size := World.block_lt_of_cell? w1 _ c1_1_0; have d1_1 : ¬ (w.heap.size + 1 = w1.heap.size) := (by omega); have e1_1 : ¬ (w1.heap.size = w.heap.size + 1) := (by omega); have n1_0 : ¬ (w.heap.size + 1 = w.heap.size) := (by omega); have n0_1 : ¬ (w.heap.size = w.heap.size + 1) := (by omega); have F1_1 := K.ints.ext (K.ints.alloc (K.ints.alloc hEL_ _) _) x1; have F2_1 := K.ints.ext (K.ints.alloc (K.ints.alloc hER_ _) _) x1; have F3_1 := K.recs.ext (K.recs.alloc (K.recs.alloc hxs_ _) _) x1; clear hEL_ hER_ hxs_)
    go_wp2_with (go_at_call 116; refine K.call (by with_reducible rfl) (by with_reducible rfl) (spec_IsEquation E _ hmEL hnEL hmER hnER (F1_1) (F2_1)) ?_; rintro e w2 ⟨rfl, x2⟩; have s2 : w1.heap.size ≤ w2.heap.size := (by have h_ := x2.size; (try simp at h_); omega); have X2 := K.Ext.trans (X1) x2; obtain ⟨c2_0_0, c2_0_1, c2_0_2, c2_0_3, c2_0_4, c2_0_5, c2_0_6, c2_0_7⟩ := K.c8 x2 (w.heap.size) (.int .i64 E.L.dg) (.int .i64 E.L.tn) (.string E.L.nm) (.slice oEL E.L.pw.length cEL) (.int .i64 E.R.dg) (.int .i64 E.R.tn) (.string E.R.nm) (.slice oER E.R.pw.length cER) (by go_simp); have z2_0 : w.heap.size < w2.heap.size := World.block_lt_of_cell? w2 _ c2_0_0; have d2_0 : ¬ (w.heap.size = w2.heap.size) := (by omega); have e2_0 : ¬ (w2.heap.size = w.heap.size) := (by omega); obtain ⟨c2_1_0, c2_1_1, c2_1_2, c2_1_3, c2_1_4, c2_1_5, c2_1_6, c2_1_7⟩ := K.c8 x2 (w.heap.size + 1) (.int .i64 0) (.int .i64 0) (.string ⟨#[]⟩) (.slice none 0 0) (.int .i64 0) (.int .i64 0) (.string ⟨#[]⟩) (.slice none 0 0) (by go_simp); obtain ⟨f2_1_0, f2_1_1, f2_1_2, f2_1_3, f2_1_4, f2_1_5, f2_1_6, f2_1_7⟩ := K.f8 x2 (w.heap.size + 1) (by go_simp); have z2_1 : w.heap.size + 1 < w2.heap.size := World.block_lt_of_cell? w2 _ c2_1_0; have d2_1 : ¬ (w.heap.size + 1 = w2.heap.size) := (by omega); have e2_1 : ¬ (w2.heap.size = w.heap.size + 1) := (by omega); have F1_2 := K.ints.ext (F1_1) x2; have F2_2 := K.ints.ext (F2_1) x2; have F3_2 := K.recs.ext (F3_1) x2; clear c1_0_0 c1_0_1 c1_0_2 c1_0_3 c1_0_4 c1_0_5 c1_0_6 c1_0_7 z1_0 d1_0 e1_0 c1_1_0 c1_1_1 c1_1_2 c1_1_3 c1_1_4 c1_1_5 c1_1_6 c1_1_7 f1_1_0 f1_1_1 f1_1_2 f1_1_3 f1_1_4 f1_1_5 f1_1_6 f1_1_7 z1_1 d1_1 e1_1 F1_1 F2_1 F3_1)
    rw [HE.out]
    refine bodyPost_ret (v := .tuple #[.agg #[.int .i64 0, .int .i64 0, .string ⟨#[]⟩, .slice none 0 0, .int .i64 0, .int .i64 0, .string ⟨#[]⟩, .slice none 0 0], .int .i64 1]) (by unfold results; rw [Try.results52]; go_simp) rfl ⟨⟨_, _, rfl, ?_, ?_⟩, ?_⟩
    · exact K.ints_nil _ _ _
    · exact K.ints_nil _ _ _
    · repeat with_reducible refine K.Ext.setCell ?_ (by dsimp only; omega) _
      exact (by repeat' (first | with_reducible exact X2 | with_reducible refine K.Ext.setCell ?_ ?_ _ | with_reducible refine K.Ext.alloc ?_ _ | with_reducible refine K.Ext.drew ?_ | (dsimp only; omega) | omega | (simp; omega)))
  by_cases hz : c = 0
  case neg =>
    have HE : Hid (Z.RunSteps E xs = (Z.zeroEqn, c)) := Z.hide (by rw [hc]; exact Z.RunSteps_code vE (by rw [← hc]; exact hz))
    clear hc
    have X0 : K.Ext w w := K.Ext.refl w
    go_enter Try.func52, Try.ntmps52
    go_wp2_with (go_at_call 131; refine K.call (by with_reducible rfl) (by with_reducible rfl) (HCd _ (show K.recs false K.StR _ (loxs) (hixs) (.slice oxs xs.length cxs) (xs) from by repeat' (first | with_reducible exact hxs_ | with_reducible refine K.recs.set (by decide) ?_ _ ?_ _ | with_reducible refine K.recs.alloc ?_ _ | with_reducible refine K.recs.drew ?_ | (dsimp only; omega) | omega | (simp; done) | (simp; omega)))) ?_; rintro e w1 ⟨rfl, x1⟩; have s1 : w.heap.size + 2 ≤ w1.heap.size := (by have h_ := x1.size; (try simp at h_); omega); have X1 : K.Ext w w1 := K.Ext.trans (by repeat' (first | with_reducible exact X0 | with_reducible refine K.Ext.setCell ?_ ?_ _ | with_reducible refine K.Ext.alloc ?_ _ | with_reducible refine K.Ext.drew ?_ | (dsimp only; omega) | omega | (simp; omega))) x1; obtain ⟨c1_0_0, c1_0_1, c1_0_2, c1_0_3, c1_0_4, c1_0_5, c1_0_6, c1_0_7⟩ := K.c8 x1 (w.heap.size) (.int .i64 E.L.dg) (.int .i64 E.L.tn) (.string E.L.nm) (.slice oEL E.L.pw.length cEL) (.int .i64 E.R.dg) (.int .i64 E.R.tn) (.string E.R.nm) (.slice oER E.R.pw.length cER) (by go_simp); have z1_0 : w.heap.size < w1.heap.size := World.block_lt_of_cell? w1 _ c1_0_0; have d1_0 : ¬ (w.heap.size = w1.heap.size) := (by omega); have e1_0 : ¬ (w1.heap.size = w.heap.size) := (by omega); obtain ⟨c1_1_0, c1_1_1, c1_1_2, c1_1_3, c1_1_4, c1_1_5, c1_1_6, c1_1_7⟩ := K.c8 x1 (w.heap.size + 1) (.int .i64 0) (.int .i64 0) (.string ⟨#[]⟩) (.slice none 0 0) (.int .i64 0) (.int .i64 0) (.string ⟨#[]⟩) (.slice none 0 0) (by go_simp); obtain ⟨f1_1_0, f1_1_1, f1_1_2, f1_1_3, f1_1_4, f1_1_5, f1_1_6, f1_1_7⟩ := K.f8 x1 (w.heap.size + 1) (by go_simp); have z1_1 : w.heap.size + 1 < w1.heap.size := World.block_lt_of_cell? w1 _ c1_1_0; have d1_1 : ¬ (w.heap.size + 1 = w1.heap.size) := (by omega); have e1_1 : ¬ (w1.heap.size = w.heap.size + 1) := (by omega); have n1_0 : ¬ (w.heap.size + 1 = w.heap.size) := (by omega); have n0_1 : ¬ (w.heap.size = w.heap.size + 1) := (by omega); have F1_1 := K.ints.ext (show K.ints _ (loEL) (hiEL) (.slice oEL E.L.pw.length cEL) (E.L.pw) from by repeat' (first | with_reducible exact hEL_ | with_reducible refine K.ints.set ?_ _ ?_ _ | with_reducible refine K.ints.alloc ?_ _ | with_reducible refine K.ints.drew ?_ | (dsimp only; omega) | omega | (simp; done) | (simp; omega))) x1; have F2_1 := K.ints.ext (show K.ints _ (loER) (hiER) (.slice oER E.R.pw.length cER) (E.R.pw) from by repeat' (first | with_reducible exact hER_ | with_reducible refine K.ints.set ?_ _ ?_ _ | with_reducible refine K.ints.alloc ?_ _ | with_reducible refine K.ints.drew ?_ | (dsimp only; omega) | omega | (simp; done) | (simp; omega))) x1; have F3_1 := K.recs.ext (show K.recs false K.StR _ (loxs) (hixs) (.slice oxs xs.length cxs) (xs) from by repeat' (first | with_reducible exact hxs_ | with_reducible refine K.recs.set (by decide) ?_ _ ?_ _ | with_reducible refine K.recs.alloc ?_ _ | with_reducible refine K.recs.drew ?_ | (dsimp only; omega) | omega | (simp; done) | (simp; omega))) x1; clear hEL_ hER_ hxs_)
    go_wp2_with (go_at_call 116; refine K.call (by with_reducible rfl) (by with_reducible rfl) (spec_IsEquation E _ hmEL hnEL hmER hnER (F1_1) (F2_1)) ?_; rintro e w2 ⟨rfl, x2⟩; have s2 : w1.heap.size ≤ w2.heap.size := (by have h_ := x2.size; (try simp at h_); omega); have X2 := K.Ext.trans (X1) x2; obtain ⟨c2_0_0, c2_0_1, c2_0_2, c2_0_3, c2_0_4, c2_0_5, c2_0_6, c2_0_7⟩ := K.c8 x2 (w.heap.size) (.int .i64 E.L.dg) (.int .i64 E.L.tn) (.string E.L.nm) (.slice oEL E.L.pw.length cEL) (.int .i64 E.R.dg) (.int .i64 E.R.tn) (.string E.R.nm) (.slice oER E.R.pw.length cER) (by go_simp); have z2_0 : w.heap.size < w2.heap.size := World.block_lt_of_cell? w2 _ c2_0_0; have d2_0 : ¬ (w.heap.size = w2.heap.size) := (by omega); have e2_0 : ¬ (w2.heap.size = w.heap.size) := (by omega); obtain ⟨c2_1_0, c2_1_1, c2_1_2, c2_1_3, c2_1_4, c2_1_5, c2_1_6, c2_1_7⟩ := K.c8 x2 (w.heap.size + 1) (.int .i64 0) (.int .i64 0) (.string ⟨#[]⟩) (.slice none 0 0) (.int .i64 0) (.int .i64 0) (.string ⟨#[]⟩) (.slice none 0 0) (by go_simp); obtain ⟨f2_1_0, f2_1_1, f2_1_2, f2_1_3, f2_1_4, f2_1_5, f2_1_6, f2_1_7⟩ := K.f8 x2 (w.heap.size + 1) (by go_simp); have z2_1 : w.heap.size + 1 < w2.heap.size := World.block_lt_of_cell? w2 _ c2_1_0; have d2_1 : ¬ (w.heap.size + 1 = w2.heap.size) := (by omega); have e2_1 : ¬ (w2.heap.size = w.heap.size + 1) := (by omega); have F1_2 := K.ints.ext (F1_1) x2; have F2_2 := K.ints.ext (F2_1) x2; have F3_2 := K.recs.ext (F3_1) x2; clear c1_0_0 c1_0_1 c1_0_2 c1_0_3 c1_0_4 c1_0_5 c1_0_6 c1_0_7 z1_0 d1_0 e1_0 c1_1_0 c1_1_1 c1_1_2 c1_1_3 c1_1_4 c1_1_5 c1_1_6 c1_1_7 f1_1_0 f1_1_1 f1_1_2 f1_1_3 f1_1_4 f1_1_5 f1_1_6 f1_1_7 z1_1 d1_1 e1_1 F1_1 F2_1 F3_1)
    rw [HE.out]
    refine bodyPost_ret (v := .tuple #[.agg #[.int .i64 0, .int .i64 0, .string ⟨#[]⟩, .slice none 0 0, .int .i64 0, .int .i64 0, .string ⟨#[]⟩, .slice none 0 0], .int .i64 c]) (by unfold results; rw [Try.results52]; go_simp) rfl ⟨⟨_, _, rfl, ?_, ?_⟩, ?_⟩
    · exact K.ints_nil _ _ _
    · exact K.ints_nil _ _ _
    · repeat with_reducible refine K.Ext.setCell ?_ (by dsimp only; omega) _
      exact (by repeat' (first | with_reducible exact X2 | with_reducible refine K.Ext.setCell ?_ ?_ _ | with_reducible refine K.Ext.alloc ?_ _ | with_reducible refine K.Ext.drew ?_ | (dsimp only; omega) | omega | (simp; omega)))
  subst hz
  replace hc := hc.symm
  have HSM : Hid (∀ A : Z.Eqn, Z.runK E xs xs.length = some A → Z.RunSteps E xs = (A, 0)) := Z.hide (fun A hr => Z.RunSteps_some vE hc hr)
  have HNO : Hid (Z.runK E xs xs.length = none → Z.RunSteps E xs = (Z.zeroEqn, 5)) := Z.hide (fun hr => Z.RunSteps_none vE hc hr)
  have HOK : Hid (∀ k A, Z.runK E xs k = some A → Z.isEquation A = true) := Z.hide (fun k A h => Z.runK_ok vE k h)
  have HVS : Hid (∀ s ∈ xs, Z.isStep s = true) := Z.hide (Z.code_valid hc)
  have HI : Hid (∀ w' : World, K.Ext w w' → Calls Try.prog 116 #[.agg #[.int .i64 E.L.dg, .int .i64 E.L.tn, .string E.L.nm, .slice oEL E.L.pw.length cEL, .int .i64 E.R.dg, .int .i64 E.R.tn, .string E.R.nm, .slice oER E.R.pw.length cER]] w' fun e w'' => e = .returned (.bool true) ∧ K.Ext w' w'') := Z.hide (fun w' hx => by have h_ := spec_IsEquation E w' hmEL hnEL hmER hnER (hEL.ext hx) (hER.ext hx); rwa [vE] at h_)
  have HA : Hid (∀ w' : World, K.Ext w w' → Calls Try.prog 131 #[.slice oxs xs.length cxs] w' fun e w'' => e = .returned (.int .i64 0) ∧ K.Ext w' w'') := Z.hide (fun w' hx => HCd w' (hxs.ext hx))
  have HOL : Hid (∀ (B : Nat) (w0 : World), B ≤ w0.heap.size → K.Ext w w0 → Calls Try.prog 135 #[.agg #[.int .i64 E.L.dg, .int .i64 E.L.tn, .string E.L.nm, .slice oEL E.L.pw.length cEL]] w0 fun e w' => ∃ v, e = .returned v ∧ K.Ext w0 w' ∧ (K.SP.fmB B E.L).p v w') := Z.hide (fun B w0 hB hx => (l18Own_any E.L w0 hmEL (hEL.ext hx)).mono fun e w' ⟨⟨p', he, ho⟩, hw⟩ => ⟨_, he, hw, p', w'.heap.size, rfl, Nat.le_trans hB hw.size, Nat.le_refl _, (K.own.ints ho).mono hB (Nat.le_refl _)⟩)
  have HOR : Hid (∀ (B : Nat) (w0 : World), B ≤ w0.heap.size → K.Ext w w0 → Calls Try.prog 135 #[.agg #[.int .i64 E.R.dg, .int .i64 E.R.tn, .string E.R.nm, .slice oER E.R.pw.length cER]] w0 fun e w' => ∃ v, e = .returned v ∧ K.Ext w0 w' ∧ (K.SP.fmB B E.R).p v w') := Z.hide (fun B w0 hB hx => (l18Own_any E.R w0 hmER (hER.ext hx)).mono fun e w' ⟨⟨p', he, ho⟩, hw⟩ => ⟨_, he, hw, p', w'.heap.size, rfl, Nat.le_trans hB hw.size, Nat.le_refl _, (K.own.ints ho).mono hB (Nat.le_refl _)⟩)
  have HNL := Z.hide (Z.isFormula_nz (Z.isEquation_parts vE).1)
  have HNR := Z.hide (Z.isFormula_nz (Z.isEquation_parts vE).2)
  have HXS := Z.hide hxs
  obtain ⟨n, hn⟩ : ∃ n, n = xs.length := ⟨_, rfl⟩
  have HN := Z.hide hn
  have hn12 : n ≤ 12 := by rw [hn]; exact Z.code_len hc
  rw [← hn] at HA ⊢
  clear hxs hEL hER hn hc vE hmxs HCd
  go_enter Try.func52, Try.ntmps52
  go_wp2_with (first | ((go_at_call 131; refine K.call (by with_reducible rfl) (by with_reducible rfl) (HA.out _ (by repeat' (first | with_reducible exact K.Ext.refl _ | with_reducible assumption | with_reducible refine K.Ext.drew ?_ | with_reducible refine K.Ext.alloc ?_ _ | with_reducible refine K.Ext.setCell ?_ ?_ _ | with_reducible refine K.Ext.trans ?_ (by with_reducible assumption) | (dsimp only; omega) | omega | exact K.Ext.refl _ | assumption | apply K.Ext.drew | refine K.Ext.alloc ?_ _ | refine K.Ext.setCell ?_ ?_ _ | (simp; done) | (simp; omega) | refine K.Ext.trans ?_ (by assumption)))) ?_; rintro e w1 ⟨rfl, hw1⟩); have X1 := K.Ext.trans (show K.Ext w _ from (by repeat' (first | with_reducible exact K.Ext.refl _ | with_reducible assumption | with_reducible refine K.Ext.drew ?_ | with_reducible refine K.Ext.alloc ?_ _ | with_reducible refine K.Ext.setCell ?_ ?_ _ | with_reducible refine K.Ext.trans ?_ (by with_reducible assumption) | (dsimp only; omega) | omega | exact K.Ext.refl _ | assumption | apply K.Ext.drew | refine K.Ext.alloc ?_ _ | refine K.Ext.setCell ?_ ?_ _ | (simp; done) | (simp; omega) | refine K.Ext.trans ?_ (by assumption)))) hw1; have c_w1_0_0 : w1.cell? ⟨w.heap.size, 0, none⟩ = some (.int .i64 (E.L.dg)) := hw1.cell_of (by go_simp); have f_w1_0_0 : w1.frozen? ⟨w.heap.size, 0, none⟩ = false := hw1.thaw_of (by go_simp) (by go_simp); have c_w1_0_1 : w1.cell? ⟨w.heap.size, 1, none⟩ = some (.int .i64 (E.L.tn)) := hw1.cell_of (by go_simp); have f_w1_0_1 : w1.frozen? ⟨w.heap.size, 1, none⟩ = false := hw1.thaw_of (by go_simp) (by go_simp); have c_w1_0_2 : w1.cell? ⟨w.heap.size, 2, none⟩ = some (.string E.L.nm) := hw1.cell_of (by go_simp); have f_w1_0_2 : w1.frozen? ⟨w.heap.size, 2, none⟩ = false := hw1.thaw_of (by go_simp) (by go_simp); have c_w1_0_3 : w1.cell? ⟨w.heap.size, 3, none⟩ = some (.slice oEL E.L.pw.length cEL) := hw1.cell_of (by go_simp); have f_w1_0_3 : w1.frozen? ⟨w.heap.size, 3, none⟩ = false := hw1.thaw_of (by go_simp) (by go_simp); have c_w1_0_4 : w1.cell? ⟨w.heap.size, 4, none⟩ = some (.int .i64 (E.R.dg)) := hw1.cell_of (by go_simp); have f_w1_0_4 : w1.frozen? ⟨w.heap.size, 4, none⟩ = false := hw1.thaw_of (by go_simp) (by go_simp); have c_w1_0_5 : w1.cell? ⟨w.heap.size, 5, none⟩ = some (.int .i64 (E.R.tn)) := hw1.cell_of (by go_simp); have f_w1_0_5 : w1.frozen? ⟨w.heap.size, 5, none⟩ = false := hw1.thaw_of (by go_simp) (by go_simp); have c_w1_0_6 : w1.cell? ⟨w.heap.size, 6, none⟩ = some (.string E.R.nm) := hw1.cell_of (by go_simp); have f_w1_0_6 : w1.frozen? ⟨w.heap.size, 6, none⟩ = false := hw1.thaw_of (by go_simp) (by go_simp); have c_w1_0_7 : w1.cell? ⟨w.heap.size, 7, none⟩ = some (.slice oER E.R.pw.length cER) := hw1.cell_of (by go_simp); have f_w1_0_7 : w1.frozen? ⟨w.heap.size, 7, none⟩ = false := hw1.thaw_of (by go_simp) (by go_simp); have c_w1_1_0 : w1.cell? ⟨w.heap.size + 1, 0, none⟩ = some (.int .i64 (0)) := hw1.cell_of (by go_simp); have f_w1_1_0 : w1.frozen? ⟨w.heap.size + 1, 0, none⟩ = false := hw1.thaw_of (by go_simp) (by go_simp); have c_w1_1_1 : w1.cell? ⟨w.heap.size + 1, 1, none⟩ = some (.int .i64 (0)) := hw1.cell_of (by go_simp); have f_w1_1_1 : w1.frozen? ⟨w.heap.size + 1, 1, none⟩ = false := hw1.thaw_of (by go_simp) (by go_simp); have c_w1_1_2 : w1.cell? ⟨w.heap.size + 1, 2, none⟩ = some (.string ⟨#[]⟩) := hw1.cell_of (by go_simp); have f_w1_1_2 : w1.frozen? ⟨w.heap.size + 1, 2, none⟩ = false := hw1.thaw_of (by go_simp) (by go_simp); have c_w1_1_3 : w1.cell? ⟨w.heap.size + 1, 3, none⟩ = some (.slice none 0 0) := hw1.cell_of (by go_simp); have f_w1_1_3 : w1.frozen? ⟨w.heap.size + 1, 3, none⟩ = false := hw1.thaw_of (by go_simp) (by go_simp); have c_w1_1_4 : w1.cell? ⟨w.heap.size + 1, 4, none⟩ = some (.int .i64 (0)) := hw1.cell_of (by go_simp); have f_w1_1_4 : w1.frozen? ⟨w.heap.size + 1, 4, none⟩ = false := hw1.thaw_of (by go_simp) (by go_simp); have c_w1_1_5 : w1.cell? ⟨w.heap.size + 1, 5, none⟩ = some (.int .i64 (0)) := hw1.cell_of (by go_simp); have f_w1_1_5 : w1.frozen? ⟨w.heap.size + 1, 5, none⟩ = false := hw1.thaw_of (by go_simp) (by go_simp); have c_w1_1_6 : w1.cell? ⟨w.heap.size + 1, 6, none⟩ = some (.string ⟨#[]⟩) := hw1.cell_of (by go_simp); have f_w1_1_6 : w1.frozen? ⟨w.heap.size + 1, 6, none⟩ = false := hw1.thaw_of (by go_simp) (by go_simp); have c_w1_1_7 : w1.cell? ⟨w.heap.size + 1, 7, none⟩ = some (.slice none 0 0) := hw1.cell_of (by go_simp); have f_w1_1_7 : w1.frozen? ⟨w.heap.size + 1, 7, none⟩ = false := hw1.thaw_of (by go_simp) (by go_simp); have z1 := hw1.size; simp at z1) | ((go_at_call 116; refine K.call (by with_reducible rfl) (by with_reducible rfl) (HI.out _ (by repeat' (first | with_reducible exact K.Ext.refl _ | with_reducible assumption | with_reducible refine K.Ext.drew ?_ | with_reducible refine K.Ext.alloc ?_ _ | with_reducible refine K.Ext.setCell ?_ ?_ _ | with_reducible refine K.Ext.trans ?_ (by with_reducible assumption) | (dsimp only; omega) | omega | exact K.Ext.refl _ | assumption | apply K.Ext.drew | refine K.Ext.alloc ?_ _ | refine K.Ext.setCell ?_ ?_ _ | (simp; done) | (simp; omega) | refine K.Ext.trans ?_ (by assumption)))) ?_; rintro e w2 ⟨rfl, hw2⟩); have X2 := X1.trans hw2; have c_w2_0_0 : w2.cell? ⟨w.heap.size, 0, none⟩ = some (.int .i64 (E.L.dg)) := hw2.cell_of (by go_simp); have f_w2_0_0 : w2.frozen? ⟨w.heap.size, 0, none⟩ = false := hw2.thaw_of (by go_simp) (by go_simp); have c_w2_0_1 : w2.cell? ⟨w.heap.size, 1, none⟩ = some (.int .i64 (E.L.tn)) := hw2.cell_of (by go_simp); have f_w2_0_1 : w2.frozen? ⟨w.heap.size, 1, none⟩ = false := hw2.thaw_of (by go_simp) (by go_simp); have c_w2_0_2 : w2.cell? ⟨w.heap.size, 2, none⟩ = some (.string E.L.nm) := hw2.cell_of (by go_simp); have f_w2_0_2 : w2.frozen? ⟨w.heap.size, 2, none⟩ = false := hw2.thaw_of (by go_simp) (by go_simp); have c_w2_0_3 : w2.cell? ⟨w.heap.size, 3, none⟩ = some (.slice oEL E.L.pw.length cEL) := hw2.cell_of (by go_simp); have f_w2_0_3 : w2.frozen? ⟨w.heap.size, 3, none⟩ = false := hw2.thaw_of (by go_simp) (by go_simp); have c_w2_0_4 : w2.cell? ⟨w.heap.size, 4, none⟩ = some (.int .i64 (E.R.dg)) := hw2.cell_of (by go_simp); have f_w2_0_4 : w2.frozen? ⟨w.heap.size, 4, none⟩ = false := hw2.thaw_of (by go_simp) (by go_simp); have c_w2_0_5 : w2.cell? ⟨w.heap.size, 5, none⟩ = some (.int .i64 (E.R.tn)) := hw2.cell_of (by go_simp); have f_w2_0_5 : w2.frozen? ⟨w.heap.size, 5, none⟩ = false := hw2.thaw_of (by go_simp) (by go_simp); have c_w2_0_6 : w2.cell? ⟨w.heap.size, 6, none⟩ = some (.string E.R.nm) := hw2.cell_of (by go_simp); have f_w2_0_6 : w2.frozen? ⟨w.heap.size, 6, none⟩ = false := hw2.thaw_of (by go_simp) (by go_simp); have c_w2_0_7 : w2.cell? ⟨w.heap.size, 7, none⟩ = some (.slice oER E.R.pw.length cER) := hw2.cell_of (by go_simp); have f_w2_0_7 : w2.frozen? ⟨w.heap.size, 7, none⟩ = false := hw2.thaw_of (by go_simp) (by go_simp); have c_w2_1_0 : w2.cell? ⟨w.heap.size + 1, 0, none⟩ = some (.int .i64 (0)) := hw2.cell_of (by go_simp); have f_w2_1_0 : w2.frozen? ⟨w.heap.size + 1, 0, none⟩ = false := hw2.thaw_of (by go_simp) (by go_simp); have c_w2_1_1 : w2.cell? ⟨w.heap.size + 1, 1, none⟩ = some (.int .i64 (0)) := hw2.cell_of (by go_simp); have f_w2_1_1 : w2.frozen? ⟨w.heap.size + 1, 1, none⟩ = false := hw2.thaw_of (by go_simp) (by go_simp); have c_w2_1_2 : w2.cell? ⟨w.heap.size + 1, 2, none⟩ = some (.string ⟨#[]⟩) := hw2.cell_of (by go_simp); have f_w2_1_2 : w2.frozen? ⟨w.heap.size + 1, 2, none⟩ = false := hw2.thaw_of (by go_simp) (by go_simp); have c_w2_1_3 : w2.cell? ⟨w.heap.size + 1, 3, none⟩ = some (.slice none 0 0) := hw2.cell_of (by go_simp); have f_w2_1_3 : w2.frozen? ⟨w.heap.size + 1, 3, none⟩ = false := hw2.thaw_of (by go_simp) (by go_simp); have c_w2_1_4 : w2.cell? ⟨w.heap.size + 1, 4, none⟩ = some (.int .i64 (0)) := hw2.cell_of (by go_simp); have f_w2_1_4 : w2.frozen? ⟨w.heap.size + 1, 4, none⟩ = false := hw2.thaw_of (by go_simp) (by go_simp); have c_w2_1_5 : w2.cell? ⟨w.heap.size + 1, 5, none⟩ = some (.int .i64 (0)) := hw2.cell_of (by go_simp); have f_w2_1_5 : w2.frozen? ⟨w.heap.size + 1, 5, none⟩ = false := hw2.thaw_of (by go_simp) (by go_simp); have c_w2_1_6 : w2.cell? ⟨w.heap.size + 1, 6, none⟩ = some (.string ⟨#[]⟩) := hw2.cell_of (by go_simp); have f_w2_1_6 : w2.frozen? ⟨w.heap.size + 1, 6, none⟩ = false := hw2.thaw_of (by go_simp) (by go_simp); have c_w2_1_7 : w2.cell? ⟨w.heap.size + 1, 7, none⟩ = some (.slice none 0 0) := hw2.cell_of (by go_simp); have f_w2_1_7 : w2.frozen? ⟨w.heap.size + 1, 7, none⟩ = false := hw2.thaw_of (by go_simp) (by go_simp); have z2 := hw2.size))
  have HX2 := Z.hide X2
  have B4 := Z.hide (show w2.heap[w.heap.size + 1]? = some (.cells #[.int .i64 0, .int .i64 0, .string ⟨#[]⟩, .slice none 0 0, .int .i64 0, .int .i64 0, .string ⟨#[]⟩, .slice none 0 0] 54) from hw2.block (hw1.block (K.block_new (by simp))))
  refine K.wp_region_x 8 [0, 1, 2, 0, 1, 2, 0, 2] [K.SP.any, K.SP.any, (K.SP.fmB w2.heap.size E.L), K.SP.any, K.SP.any, (K.SP.fmB w2.heap.size E.R), K.SP.any, K.SP.new (w2.heap.size) (.cells #[.int .i64 0, .int .i64 0, .string ⟨#[]⟩, .slice none 0 0, .int .i64 0, .int .i64 0, .string ⟨#[]⟩, .slice none 0 0] 54)] (by kernel_rfl) (by kernel_rfl) ?_
  simp only [List.take_succ_cons, List.take_zero, List.drop_succ_cons, List.drop_zero]
  apply K.x_pure
  · rfl
  · rfl
  · intro w'; go_simp; first | done | exact K.vint (IntWalk.i64_in _ (by omega)) | rfl | exact ⟨rfl, rfl⟩
  simp only [Act.put, List.setIfInBounds_toArray, List.set]
  apply K.x_held
  · rfl
  · rfl
  · intro w' hx; have hc := hx.all.1.1; have hf := hx.all.1.2; have hc' := hx.all.2.1; have hf' := hx.all.2.2; go_simp; first | done | rfl | exact ⟨rfl, rfl⟩
  simp only [Act.put, List.setIfInBounds_toArray, List.set]
  apply K.x_call
  · rfl
  · rfl
  · intro w'; go_simp; first | done | rfl | exact ⟨rfl, rfl⟩
  · intro w' hx hp; have hc := hx.all.1.1; have hf := hx.all.1.2; have hc' := hx.all.2.1; have hf' := hx.all.2.2; exact HOL.out _ _ (by have h_ := hx.size; simp at h_; omega) (K.Ext.trans HX2.out.drew hx)
  intro v2 w_2_ hx_2_ hv2
  obtain ⟨p2_, hi2_, rfl, hb2_, hh2_, hp2_⟩ := hv2; obtain ⟨o2_, c2_, rfl, _⟩ := K.ints.mono hp2_ (Nat.le_refl _) (Nat.le_refl _)
  simp only [Act.put, List.setIfInBounds_toArray, List.set]
  apply K.x_pure
  · rfl
  · rfl
  · intro w'; go_simp; first | done | exact K.vint (IntWalk.i64_in _ (by omega)) | rfl | exact ⟨rfl, rfl⟩
  simp only [Act.put, List.setIfInBounds_toArray, List.set]
  apply K.x_held
  · rfl
  · rfl
  · intro w' hx; have hc := hx.all.1.1; have hf := hx.all.1.2; have hc' := hx.all.2.1; have hf' := hx.all.2.2; go_simp; first | done | rfl | exact ⟨rfl, rfl⟩
  simp only [Act.put, List.setIfInBounds_toArray, List.set]
  apply K.x_call
  · rfl
  · rfl
  · intro w'; go_simp; first | done | rfl | exact ⟨rfl, rfl⟩
  · intro w' hx hp; have hc := hx.all.1.1; have hf := hx.all.1.2; have hc' := hx.all.2.1; have hf' := hx.all.2.2; exact HOR.out _ _ (by have h_ := hx.size; simp at h_; omega) (K.Ext.trans HX2.out.drew hx)
  intro v5 w_5_ hx_5_ hv5
  obtain ⟨p5_, hi5_, rfl, hb5_, hh5_, hp5_⟩ := hv5; obtain ⟨o5_, c5_, rfl, _⟩ := K.ints.mono hp5_ (Nat.le_refl _) (Nat.le_refl _)
  simp only [Act.put, List.setIfInBounds_toArray, List.set]
  apply K.x_pure
  · rfl
  · rfl
  · intro w'; go_simp; first | done | exact K.vint (IntWalk.i64_in _ (by omega)) | rfl | exact ⟨rfl, rfl⟩
  simp only [Act.put, List.setIfInBounds_toArray, List.set]
  apply K.x_new
  · rfl
  · rfl
  · rfl
  · go_simp; first | done | omega
  · intro w'; go_simp; first | done | rfl | exact ⟨rfl, rfl⟩
  intro g6_7 w_7_ hx_7_ hg6_7 hb_7_
  simp only [Act.put, List.setIfInBounds_toArray, List.set]
  apply K.x_done
  intro w3 h_x
  have hx3 := hx_2_.trans (hx_5_.trans (hx_7_.trans h_x))
  have hb6_7 := K.Ext.block (h_x) hb_7_
  have cg6_7_0 : w3.cell? ⟨g6_7, 0, none⟩ = some (.int .i64 0) := K.cell_at hb6_7 rfl
  have fg6_7_0 : w3.frozen? ⟨g6_7, 0, none⟩ = false := K.thaw_at hb6_7
  have cg6_7_1 : w3.cell? ⟨g6_7, 1, none⟩ = some (.int .i64 0) := K.cell_at hb6_7 rfl
  have fg6_7_1 : w3.frozen? ⟨g6_7, 1, none⟩ = false := K.thaw_at hb6_7
  have cg6_7_2 : w3.cell? ⟨g6_7, 2, none⟩ = some (.string ⟨#[]⟩) := K.cell_at hb6_7 rfl
  have fg6_7_2 : w3.frozen? ⟨g6_7, 2, none⟩ = false := K.thaw_at hb6_7
  have cg6_7_3 : w3.cell? ⟨g6_7, 3, none⟩ = some (.slice none 0 0) := K.cell_at hb6_7 rfl
  have fg6_7_3 : w3.frozen? ⟨g6_7, 3, none⟩ = false := K.thaw_at hb6_7
  have cg6_7_4 : w3.cell? ⟨g6_7, 4, none⟩ = some (.int .i64 0) := K.cell_at hb6_7 rfl
  have fg6_7_4 : w3.frozen? ⟨g6_7, 4, none⟩ = false := K.thaw_at hb6_7
  have cg6_7_5 : w3.cell? ⟨g6_7, 5, none⟩ = some (.int .i64 0) := K.cell_at hb6_7 rfl
  have fg6_7_5 : w3.frozen? ⟨g6_7, 5, none⟩ = false := K.thaw_at hb6_7
  have cg6_7_6 : w3.cell? ⟨g6_7, 6, none⟩ = some (.string ⟨#[]⟩) := K.cell_at hb6_7 rfl
  have fg6_7_6 : w3.frozen? ⟨g6_7, 6, none⟩ = false := K.thaw_at hb6_7
  have cg6_7_7 : w3.cell? ⟨g6_7, 7, none⟩ = some (.slice none 0 0) := K.cell_at hb6_7 rfl
  have fg6_7_7 : w3.frozen? ⟨g6_7, 7, none⟩ = false := K.thaw_at hb6_7
  have hxe2 := K.Ext.id (hx_5_.trans (hx_7_.trans h_x))
  have hxe5 := K.Ext.id (hx_7_.trans h_x)
  clear h_x hx_2_ hx_5_ hx_7_
  obtain ⟨⟨hcw3, hfw3⟩, hc'w3, hf'w3⟩ := hx3.all
  obtain ⟨l2, r2, n2, m2, M2, G2⟩ := K.ints_off2 hb2_ hb6_7 K.zero_eqn HNL.out (hp2_.ext hxe2)
  obtain ⟨l5, r5, n5, m5, M5, G5⟩ := K.ints_off2 hb5_ hb6_7 K.zero_eqn HNR.out (hp5_.ext hxe5)
  have s2_ := hxe2.size
  have s5_ := hxe5.size
  have D4 := Z.hide (K.Ext.block_of (K.Ext.block_of B4.out (K.Ext.refl _).drew) hx3)
  have HX3 := Z.hide (K.Ext.trans HX2.out.drew hx3)
  have ly := World.block_lt_of_cell? w3 _ cg6_7_0
  go_wp2_with fail
  refine NoPanic.normal ?_
  clear B4 HX2 hw1 hw2 X1 X2 HI HA HOL HOR
  go_wp2
  go_loopw [8] (fun i wr => ∃ k : Nat, k ≤ n ∧ i = .int .i64 k ∧ Hid (∃ (A : Z.Eqn) (p q : Value), Z.runK E xs k = some A ∧ wr.heap[g6_7]? = some (.cells #[.int .i64 A.L.dg, .int .i64 A.L.tn, .string A.L.nm, p, .int .i64 A.R.dg, .int .i64 A.R.tn, .string A.R.nm, q] 54) ∧ K.ints wr (w.heap.size + 2) wr.heap.size p A.L.pw ∧ K.ints wr (w.heap.size + 2) wr.heap.size q A.R.pw) ∧ Hid (wr.heap[w.heap.size + 1]? = some (.cells #[.int .i64 0, .int .i64 0, .string ⟨#[]⟩, .slice none 0 0, .int .i64 0, .int .i64 0, .string ⟨#[]⟩, .slice none 0 0] 54)) ∧ Hid (K.Ext w wr)) (fun i _ => n - (intOf i).toNat)
  case atStart =>
    refine ⟨0, Nat.zero_le _, rfl, Z.hide ⟨E, .slice o2_ E.L.pw.length c2_, .slice o5_ E.R.pw.length c5_, rfl, K.block_set8 hb6_7, ?_, ?_⟩, Z.hide ?_, Z.hide ?_⟩
    · refine K.ints.mono (lo := l2) (hi := r2) ?_ (by omega) (by simp; omega)
      iterate 8 with_reducible refine K.ints.set ?_ _ (by dsimp only; exact n2) _
      exact G2
    · refine K.ints.mono (lo := l5) (hi := r5) ?_ (by omega) (by simp; omega)
      iterate 8 with_reducible refine K.ints.set ?_ _ (by dsimp only; exact n5) _
      exact G5
    · iterate 8 with_reducible refine Eq.trans (K.set_block (by dsimp only; omega)) ?_
      exact D4.out
    · iterate 8 with_reducible refine K.Ext.setCell ?_ (by dsimp only; omega) _
      exact HX3.out
  case round =>
    obtain ⟨k, hk, rfl, HS, HB, HX⟩ := hrel
    clear G2 G5 HX3 D4
    obtain ⟨A, p, q, hr, hbl, hp, hq⟩ := HS.out
    clear HS
    obtain ⟨o, c, rfl, _⟩ := K.ints.mono hp (Nat.le_refl _) (Nat.le_refl _)
    obtain ⟨o', c', rfl, _⟩ := K.ints.mono hq (Nat.le_refl _) (Nat.le_refl _)
    have HP := Z.hide hp
    have HQ := Z.hide hq
    have HR := Z.hide hr
    have HBL := Z.hide hbl
    have lwg : g6_7 < wr.heap.size := (Array.getElem?_eq_some_iff.1 hbl).1
    clear hp hq hr hbl
    have k0 : (0 : Int) ≤ (k : Int) := Int.natCast_nonneg k
    by_cases hlt : k < n
    · have k1 : (k : Int) < (n : Int) := by omega
      have hkx : k < xs.length := by rw [← HN.out]; exact hlt
      obtain ⟨b, off, rfl, _, _, hc, _⟩ := K.recs_at HXS.out (by omega)
      have hc0 : wr.cell? ⟨b, off + k * 3, none⟩ = some (.int .i64 (xs[k]'hkx).kd) := HX.out.cell_of (hc k hkx 0 (by decide))
      have hc1 : wr.cell? ⟨b, off + k * 3 + 1, none⟩ = some (.int .u8 (xs[k]'hkx).nm) := HX.out.cell_of (hc k hkx 1 (by decide))
      have hc2 : wr.cell? ⟨b, off + k * 3 + 2, none⟩ = some (.int .i64 (xs[k]'hkx).pw) := HX.out.cell_of (hc k hkx 2 (by decide))
      have hstep := HVS.out _ (List.getElem_mem hkx)
      obtain ⟨s, hs⟩ : ∃ s, s = xs[k]'hkx := ⟨_, rfl⟩
      have HG : Hid (xs.getD k Z.zeroSt = s) := Z.hide (by rw [hs]; exact Z.getD_at xs k _ hkx)
      rw [← hs] at hc0 hc1 hc2 hstep
      have le := Z.isEquation_le (HOK.out k A HR.out)
      obtain ⟨M, hM⟩ : ∃ M, M = Z.stepEq A s := ⟨_, rfl⟩
      have HM := Z.hide hM
      have HNZ : Hid ((∀ x ∈ M.1.L.pw, x ≠ 0) ∧ ∀ x ∈ M.1.R.pw, x ≠ 0) := Z.hide (by rw [hM]; exact Z.stepEq_nz A s)
      have HCall : Hid (∀ {a b c d : Nat} {p q : Value} (B : Nat) (w : World), B ≤ w.heap.size → K.ints w a b p A.L.pw → K.ints w c d q A.R.pw → Calls Try.prog 136 #[.agg #[.int .i64 A.L.dg, .int .i64 A.L.tn, .string A.L.nm, p, .int .i64 A.R.dg, .int .i64 A.R.tn, .string A.R.nm, q], .agg #[.int .i64 s.kd, .int .u8 s.nm, .int .i64 s.pw]] w fun e w' => ∃ v, e = .returned v ∧ K.Ext w w' ∧ (K.SP.eqB B M.1 (M.2 == 0)).p v w') := Z.hide (fun B w hB h h' => by
        rw [hM]; exact (l21Apply_any A s w hstep le.1 le.2.1 le.2.2.1 le.2.2.2 h h').mono fun e w' ⟨⟨p', q', he, g1, g2⟩, hw⟩ => ⟨_, he, hw, p', q', w'.heap.size, rfl, Nat.le_trans hB hw.size, Nat.le_refl _, g1.mono hB (Nat.le_refl _), g2.mono hB (Nat.le_refl _)⟩)
      have lbw : b < wr.heap.size := World.block_lt_of_cell? wr _ hc0
      have b1_c0 : wr.cell? ⟨g6_7, 0, none⟩ = some (.int .i64 (A.L.dg)) := K.cell_at HBL.out rfl; have b1_f0 : wr.frozen? ⟨g6_7, 0, none⟩ = false := K.thaw_at HBL.out; have b1_c1 : wr.cell? ⟨g6_7, 1, none⟩ = some (.int .i64 (A.L.tn)) := K.cell_at HBL.out rfl; have b1_f1 : wr.frozen? ⟨g6_7, 1, none⟩ = false := K.thaw_at HBL.out; have b1_c2 : wr.cell? ⟨g6_7, 2, none⟩ = some (.string A.L.nm) := K.cell_at HBL.out rfl; have b1_f2 : wr.frozen? ⟨g6_7, 2, none⟩ = false := K.thaw_at HBL.out; have b1_c3 : wr.cell? ⟨g6_7, 3, none⟩ = some (.slice o A.L.pw.length c) := K.cell_at HBL.out rfl; have b1_f3 : wr.frozen? ⟨g6_7, 3, none⟩ = false := K.thaw_at HBL.out; have b1_c4 : wr.cell? ⟨g6_7, 4, none⟩ = some (.int .i64 (A.R.dg)) := K.cell_at HBL.out rfl; have b1_f4 : wr.frozen? ⟨g6_7, 4, none⟩ = false := K.thaw_at HBL.out; have b1_c5 : wr.cell? ⟨g6_7, 5, none⟩ = some (.int .i64 (A.R.tn)) := K.cell_at HBL.out rfl; have b1_f5 : wr.frozen? ⟨g6_7, 5, none⟩ = false := K.thaw_at HBL.out; have b1_c6 : wr.cell? ⟨g6_7, 6, none⟩ = some (.string A.R.nm) := K.cell_at HBL.out rfl; have b1_f6 : wr.frozen? ⟨g6_7, 6, none⟩ = false := K.thaw_at HBL.out; have b1_c7 : wr.cell? ⟨g6_7, 7, none⟩ = some (.slice o' A.R.pw.length c') := K.cell_at HBL.out rfl; have b1_f7 : wr.frozen? ⟨g6_7, 7, none⟩ = false := K.thaw_at HBL.out
      clear hc hs hM hstep le
      obtain ⟨d, nm, t⟩ := s
      dsimp only at hc0 hc1 hc2 HCall
      by_cases hz : M.2 = 0
      · have hz' : (M.2 == 0) = true := by simp [hz]
        rw [hz'] at HCall
        have HRk : Hid (Z.runK E xs (k + 1) = some M.1) := Z.hide (by have h_ := Z.runK_step HR.out (by rw [HG.out, ← HM.out]; exact hz); rwa [HG.out, ← HM.out] at h_)
        clear hz hz'
        go_wp2_with fail
        refine K.wp_region_x 10 [1, 0, 0, 0, 1, 2, 0, 0, 0, 2] [K.SP.any, K.SP.any, K.SP.any, K.SP.any, K.SP.any, (K.SP.eqB wr.heap.size M.1 true), K.SP.any, K.SP.any, K.SP.any, K.SP.new (wr.heap.size) (.cells #[.int .i64 0, .int .i64 0, .string ⟨#[]⟩, .slice none 0 0, .int .i64 0, .int .i64 0, .string ⟨#[]⟩, .slice none 0 0] 54)] (by kernel_rfl) (by kernel_rfl) ?_
        simp only [List.take_succ_cons, List.take_zero, List.drop_succ_cons, List.drop_zero]
        apply K.x_held
        · rfl
        · rfl
        · intro w' hx; have hc := hx.all.1.1; have hf := hx.all.1.2; have hc' := hx.all.2.1; have hf' := hx.all.2.2; go_simp; first | done | rfl | exact ⟨rfl, rfl⟩
        simp only [Act.put, List.setIfInBounds_toArray, List.set]
        iterate 3
          apply K.x_pure
          · rfl
          · rfl
          · intro w'; go_simp; first | done | exact K.vint (IntWalk.i64_in _ (by omega)) | rfl | exact ⟨rfl, rfl⟩
          simp only [Act.put, List.setIfInBounds_toArray, List.set]
        apply K.x_held
        · rfl
        · rfl
        · intro w' hx; have hc := hx.all.1.1; have hf := hx.all.1.2; have hc' := hx.all.2.1; have hf' := hx.all.2.2; go_simp; first | done | rfl | exact ⟨rfl, rfl⟩
        simp only [Act.put, List.setIfInBounds_toArray, List.set]
        apply K.x_call
        · rfl
        · rfl
        · intro w'; go_simp; first | done | rfl | exact ⟨rfl, rfl⟩
        · intro w' hx hp; have hc := hx.all.1.1; have hf := hx.all.1.2; have hc' := hx.all.2.1; have hf' := hx.all.2.2; exact HCall.out _ _ (by have h_ := hx.size; simp at h_; omega) (K.ints.ext HP.out.drew hx) (K.ints.ext HQ.out.drew hx)
        intro v5 w_5_ hx_5_ hv5
        obtain ⟨p5_, q5_, hi5_, rfl, hb5_, hh5_, hp5_, hq5_⟩ := hv5; obtain ⟨o5_, c5_, rfl, _⟩ := K.ints.mono hp5_ (Nat.le_refl _) (Nat.le_refl _); obtain ⟨o6_, c6_, rfl, _⟩ := K.ints.mono hq5_ (Nat.le_refl _) (Nat.le_refl _)
        simp only [Act.put, List.setIfInBounds_toArray, List.set]
        iterate 3
          apply K.x_pure
          · rfl
          · rfl
          · intro w'; go_simp; first | done | exact K.vint (IntWalk.i64_in _ (by omega)) | rfl | exact ⟨rfl, rfl⟩
          simp only [Act.put, List.setIfInBounds_toArray, List.set]
        apply K.x_new
        · rfl
        · rfl
        · rfl
        · go_simp; first | done | omega
        · intro w'; go_simp; first | done | rfl | exact ⟨rfl, rfl⟩
        intro g10_9 w_9_ hx_9_ hg10_9 hb_9_
        simp only [Act.put, List.setIfInBounds_toArray, List.set]
        apply K.x_done
        intro w6 h_x
        have hx6 := hx_5_.trans (hx_9_.trans h_x)
        have hb10_9 := K.Ext.block (h_x) hb_9_
        have cg10_9_0 : w6.cell? ⟨g10_9, 0, none⟩ = some (.int .i64 0) := K.cell_at hb10_9 rfl
        have fg10_9_0 : w6.frozen? ⟨g10_9, 0, none⟩ = false := K.thaw_at hb10_9
        have cg10_9_1 : w6.cell? ⟨g10_9, 1, none⟩ = some (.int .i64 0) := K.cell_at hb10_9 rfl
        have fg10_9_1 : w6.frozen? ⟨g10_9, 1, none⟩ = false := K.thaw_at hb10_9
        have cg10_9_2 : w6.cell? ⟨g10_9, 2, none⟩ = some (.string ⟨#[]⟩) := K.cell_at hb10_9 rfl
        have fg10_9_2 : w6.frozen? ⟨g10_9, 2, none⟩ = false := K.thaw_at hb10_9
        have cg10_9_3 : w6.cell? ⟨g10_9, 3, none⟩ = some (.slice none 0 0) := K.cell_at hb10_9 rfl
        have fg10_9_3 : w6.frozen? ⟨g10_9, 3, none⟩ = false := K.thaw_at hb10_9
        have cg10_9_4 : w6.cell? ⟨g10_9, 4, none⟩ = some (.int .i64 0) := K.cell_at hb10_9 rfl
        have fg10_9_4 : w6.frozen? ⟨g10_9, 4, none⟩ = false := K.thaw_at hb10_9
        have cg10_9_5 : w6.cell? ⟨g10_9, 5, none⟩ = some (.int .i64 0) := K.cell_at hb10_9 rfl
        have fg10_9_5 : w6.frozen? ⟨g10_9, 5, none⟩ = false := K.thaw_at hb10_9
        have cg10_9_6 : w6.cell? ⟨g10_9, 6, none⟩ = some (.string ⟨#[]⟩) := K.cell_at hb10_9 rfl
        have fg10_9_6 : w6.frozen? ⟨g10_9, 6, none⟩ = false := K.thaw_at hb10_9
        have cg10_9_7 : w6.cell? ⟨g10_9, 7, none⟩ = some (.slice none 0 0) := K.cell_at hb10_9 rfl
        have fg10_9_7 : w6.frozen? ⟨g10_9, 7, none⟩ = false := K.thaw_at hb10_9
        have hxe5 := K.Ext.id (hx_9_.trans h_x)
        clear h_x hx_5_ hx_9_
        obtain ⟨⟨hcw6, hfw6⟩, hc'w6, hf'w6⟩ := hx6.all
        obtain ⟨l5, r5, n5, m5, M5, G5⟩ := K.ints_off2 hb5_ hb10_9 K.zero_eqn HNZ.out.1 (hp5_.ext hxe5)
        obtain ⟨l6, r6, n6, m6, M6, G6⟩ := K.ints_off2 hb5_ hb10_9 K.zero_eqn HNZ.out.2 (hq5_.ext hxe5)
        have s5_ := hxe5.size
        have D0 := Z.hide (K.Ext.block_of (K.Ext.block_of HBL.out (K.Ext.refl _).drew) hx6)
        have D1 := Z.hide (K.Ext.block_of (K.Ext.block_of HB.out (K.Ext.refl _).drew) hx6)
        have HX6 := Z.hide (K.Ext.trans HX.out.drew hx6)
        have gne : ¬ (g6_7 = g10_9) := by omega
        have gne' : ¬ (g10_9 = g6_7) := by omega
        have b2_c0 : w6.cell? ⟨g6_7, 0, none⟩ = some (.int .i64 (A.L.dg)) := K.cell_at D0.out rfl; have b2_f0 : w6.frozen? ⟨g6_7, 0, none⟩ = false := K.thaw_at D0.out; have b2_c1 : w6.cell? ⟨g6_7, 1, none⟩ = some (.int .i64 (A.L.tn)) := K.cell_at D0.out rfl; have b2_f1 : w6.frozen? ⟨g6_7, 1, none⟩ = false := K.thaw_at D0.out; have b2_c2 : w6.cell? ⟨g6_7, 2, none⟩ = some (.string A.L.nm) := K.cell_at D0.out rfl; have b2_f2 : w6.frozen? ⟨g6_7, 2, none⟩ = false := K.thaw_at D0.out; have b2_c3 : w6.cell? ⟨g6_7, 3, none⟩ = some (.slice o A.L.pw.length c) := K.cell_at D0.out rfl; have b2_f3 : w6.frozen? ⟨g6_7, 3, none⟩ = false := K.thaw_at D0.out; have b2_c4 : w6.cell? ⟨g6_7, 4, none⟩ = some (.int .i64 (A.R.dg)) := K.cell_at D0.out rfl; have b2_f4 : w6.frozen? ⟨g6_7, 4, none⟩ = false := K.thaw_at D0.out; have b2_c5 : w6.cell? ⟨g6_7, 5, none⟩ = some (.int .i64 (A.R.tn)) := K.cell_at D0.out rfl; have b2_f5 : w6.frozen? ⟨g6_7, 5, none⟩ = false := K.thaw_at D0.out; have b2_c6 : w6.cell? ⟨g6_7, 6, none⟩ = some (.string A.R.nm) := K.cell_at D0.out rfl; have b2_f6 : w6.frozen? ⟨g6_7, 6, none⟩ = false := K.thaw_at D0.out; have b2_c7 : w6.cell? ⟨g6_7, 7, none⟩ = some (.slice o' A.R.pw.length c') := K.cell_at D0.out rfl; have b2_f7 : w6.frozen? ⟨g6_7, 7, none⟩ = false := K.thaw_at D0.out
        go_wp2_with fail
        refine NoPanic.normal ?_
        go_wp2
        go_roundw
        case rel =>
          refine ⟨k + 1, by omega, by go_num, Z.hide ⟨M.1, .slice o5_ M.1.L.pw.length c5_, .slice o6_ M.1.R.pw.length c6_, HRk.out, K.block_set8 (T := 54) (a0 := .int .i64 A.L.dg) (a1 := .int .i64 A.L.tn) (a2 := .string A.L.nm) (a3 := .slice o A.L.pw.length c) (a4 := .int .i64 A.R.dg) (a5 := .int .i64 A.R.tn) (a6 := .string A.R.nm) (a7 := .slice o' A.R.pw.length c') ?_, ?_, ?_⟩, Z.hide ?_, Z.hide ?_⟩
          · iterate 8 with_reducible refine Eq.trans (K.set_block (by dsimp only; omega)) ?_
            exact D0.out
          · refine K.ints.mono (lo := l5) (hi := r5) ?_ (by omega) (by simp; omega)
            iterate 8 with_reducible refine K.ints.set ?_ _ (.inl (by dsimp only; omega)) _
            iterate 8 with_reducible refine K.ints.set ?_ _ (by dsimp only; exact n5) _
            exact G5
          · refine K.ints.mono (lo := l6) (hi := r6) ?_ (by omega) (by simp; omega)
            iterate 8 with_reducible refine K.ints.set ?_ _ (.inl (by dsimp only; omega)) _
            iterate 8 with_reducible refine K.ints.set ?_ _ (by dsimp only; exact n6) _
            exact G6
          · iterate 16 with_reducible refine Eq.trans (K.set_block (by dsimp only; omega)) ?_
            exact D1.out
          · iterate 16 with_reducible refine K.Ext.setCell ?_ (by dsimp only; omega) _
            exact HX6.out
        case measure => simp [intOf]; omega
      · have hz' : (M.2 == 0) = false := by simp [hz]
        rw [hz'] at HCall
        have HE : Hid (Z.RunSteps E xs = (Z.zeroEqn, 5)) := Z.hide (HNO.out (Z.runK_fail hkx HR.out (by rw [HG.out, ← HM.out]; exact hz)))
        clear hz hz'
        go_wp2_with fail
        refine K.wp_region_x 10 [1, 0, 0, 0, 1, 2, 0, 0, 0, 2] [K.SP.any, K.SP.any, K.SP.any, K.SP.any, K.SP.any, (K.SP.eqB wr.heap.size M.1 false), K.SP.any, K.SP.any, K.SP.any, K.SP.new (wr.heap.size) (.cells #[.int .i64 0, .int .i64 0, .string ⟨#[]⟩, .slice none 0 0, .int .i64 0, .int .i64 0, .string ⟨#[]⟩, .slice none 0 0] 54)] (by kernel_rfl) (by kernel_rfl) ?_
        simp only [List.take_succ_cons, List.take_zero, List.drop_succ_cons, List.drop_zero]
        apply K.x_held
        · rfl
        · rfl
        · intro w' hx; have hc := hx.all.1.1; have hf := hx.all.1.2; have hc' := hx.all.2.1; have hf' := hx.all.2.2; go_simp; first | done | rfl | exact ⟨rfl, rfl⟩
        simp only [Act.put, List.setIfInBounds_toArray, List.set]
        iterate 3
          apply K.x_pure
          · rfl
          · rfl
          · intro w'; go_simp; first | done | exact K.vint (IntWalk.i64_in _ (by omega)) | rfl | exact ⟨rfl, rfl⟩
          simp only [Act.put, List.setIfInBounds_toArray, List.set]
        apply K.x_held
        · rfl
        · rfl
        · intro w' hx; have hc := hx.all.1.1; have hf := hx.all.1.2; have hc' := hx.all.2.1; have hf' := hx.all.2.2; go_simp; first | done | rfl | exact ⟨rfl, rfl⟩
        simp only [Act.put, List.setIfInBounds_toArray, List.set]
        apply K.x_call
        · rfl
        · rfl
        · intro w'; go_simp; first | done | rfl | exact ⟨rfl, rfl⟩
        · intro w' hx hp; have hc := hx.all.1.1; have hf := hx.all.1.2; have hc' := hx.all.2.1; have hf' := hx.all.2.2; exact HCall.out _ _ (by have h_ := hx.size; simp at h_; omega) (K.ints.ext HP.out.drew hx) (K.ints.ext HQ.out.drew hx)
        intro v5 w_5_ hx_5_ hv5
        obtain ⟨p5_, q5_, hi5_, rfl, hb5_, hh5_, hp5_, hq5_⟩ := hv5; obtain ⟨o5_, c5_, rfl, _⟩ := K.ints.mono hp5_ (Nat.le_refl _) (Nat.le_refl _); obtain ⟨o6_, c6_, rfl, _⟩ := K.ints.mono hq5_ (Nat.le_refl _) (Nat.le_refl _)
        simp only [Act.put, List.setIfInBounds_toArray, List.set]
        iterate 3
          apply K.x_pure
          · rfl
          · rfl
          · intro w'; go_simp; first | done | exact K.vint (IntWalk.i64_in _ (by omega)) | rfl | exact ⟨rfl, rfl⟩
          simp only [Act.put, List.setIfInBounds_toArray, List.set]
        apply K.x_new
        · rfl
        · rfl
        · rfl
        · go_simp; first | done | omega
        · intro w'; go_simp; first | done | rfl | exact ⟨rfl, rfl⟩
        intro g10_9 w_9_ hx_9_ hg10_9 hb_9_
        simp only [Act.put, List.setIfInBounds_toArray, List.set]
        apply K.x_done
        intro w6 h_x
        have hx6 := hx_5_.trans (hx_9_.trans h_x)
        have hb10_9 := K.Ext.block (h_x) hb_9_
        have cg10_9_0 : w6.cell? ⟨g10_9, 0, none⟩ = some (.int .i64 0) := K.cell_at hb10_9 rfl
        have fg10_9_0 : w6.frozen? ⟨g10_9, 0, none⟩ = false := K.thaw_at hb10_9
        have cg10_9_1 : w6.cell? ⟨g10_9, 1, none⟩ = some (.int .i64 0) := K.cell_at hb10_9 rfl
        have fg10_9_1 : w6.frozen? ⟨g10_9, 1, none⟩ = false := K.thaw_at hb10_9
        have cg10_9_2 : w6.cell? ⟨g10_9, 2, none⟩ = some (.string ⟨#[]⟩) := K.cell_at hb10_9 rfl
        have fg10_9_2 : w6.frozen? ⟨g10_9, 2, none⟩ = false := K.thaw_at hb10_9
        have cg10_9_3 : w6.cell? ⟨g10_9, 3, none⟩ = some (.slice none 0 0) := K.cell_at hb10_9 rfl
        have fg10_9_3 : w6.frozen? ⟨g10_9, 3, none⟩ = false := K.thaw_at hb10_9
        have cg10_9_4 : w6.cell? ⟨g10_9, 4, none⟩ = some (.int .i64 0) := K.cell_at hb10_9 rfl
        have fg10_9_4 : w6.frozen? ⟨g10_9, 4, none⟩ = false := K.thaw_at hb10_9
        have cg10_9_5 : w6.cell? ⟨g10_9, 5, none⟩ = some (.int .i64 0) := K.cell_at hb10_9 rfl
        have fg10_9_5 : w6.frozen? ⟨g10_9, 5, none⟩ = false := K.thaw_at hb10_9
        have cg10_9_6 : w6.cell? ⟨g10_9, 6, none⟩ = some (.string ⟨#[]⟩) := K.cell_at hb10_9 rfl
        have fg10_9_6 : w6.frozen? ⟨g10_9, 6, none⟩ = false := K.thaw_at hb10_9
        have cg10_9_7 : w6.cell? ⟨g10_9, 7, none⟩ = some (.slice none 0 0) := K.cell_at hb10_9 rfl
        have fg10_9_7 : w6.frozen? ⟨g10_9, 7, none⟩ = false := K.thaw_at hb10_9
        have hxe5 := K.Ext.id (hx_9_.trans h_x)
        clear h_x hx_5_ hx_9_
        obtain ⟨⟨hcw6, hfw6⟩, hc'w6, hf'w6⟩ := hx6.all
        have D1 := Z.hide (K.Ext.block_of (K.Ext.block_of HB.out (K.Ext.refl _).drew) hx6)
        have HX6 := Z.hide (K.Ext.trans HX.out.drew hx6)
        have gne : ¬ (w.heap.size + 1 = g10_9) := by omega
        have gne' : ¬ (g10_9 = w.heap.size + 1) := by omega
        have b3_c0 : w6.cell? ⟨w.heap.size + 1, 0, none⟩ = some (.int .i64 (0)) := K.cell_at D1.out rfl; have b3_f0 : w6.frozen? ⟨w.heap.size + 1, 0, none⟩ = false := K.thaw_at D1.out; have b3_c1 : w6.cell? ⟨w.heap.size + 1, 1, none⟩ = some (.int .i64 (0)) := K.cell_at D1.out rfl; have b3_f1 : w6.frozen? ⟨w.heap.size + 1, 1, none⟩ = false := K.thaw_at D1.out; have b3_c2 : w6.cell? ⟨w.heap.size + 1, 2, none⟩ = some (.string ⟨#[]⟩) := K.cell_at D1.out rfl; have b3_f2 : w6.frozen? ⟨w.heap.size + 1, 2, none⟩ = false := K.thaw_at D1.out; have b3_c3 : w6.cell? ⟨w.heap.size + 1, 3, none⟩ = some (.slice none 0 0) := K.cell_at D1.out rfl; have b3_f3 : w6.frozen? ⟨w.heap.size + 1, 3, none⟩ = false := K.thaw_at D1.out; have b3_c4 : w6.cell? ⟨w.heap.size + 1, 4, none⟩ = some (.int .i64 (0)) := K.cell_at D1.out rfl; have b3_f4 : w6.frozen? ⟨w.heap.size + 1, 4, none⟩ = false := K.thaw_at D1.out; have b3_c5 : w6.cell? ⟨w.heap.size + 1, 5, none⟩ = some (.int .i64 (0)) := K.cell_at D1.out rfl; have b3_f5 : w6.frozen? ⟨w.heap.size + 1, 5, none⟩ = false := K.thaw_at D1.out; have b3_c6 : w6.cell? ⟨w.heap.size + 1, 6, none⟩ = some (.string ⟨#[]⟩) := K.cell_at D1.out rfl; have b3_f6 : w6.frozen? ⟨w.heap.size + 1, 6, none⟩ = false := K.thaw_at D1.out; have b3_c7 : w6.cell? ⟨w.heap.size + 1, 7, none⟩ = some (.slice none 0 0) := K.cell_at D1.out rfl; have b3_f7 : w6.frozen? ⟨w.heap.size + 1, 7, none⟩ = false := K.thaw_at D1.out
        go_wp2_with fail
        refine NoPanic.normal ?_
        go_wp2
        rw [HE.out]
        refine bodyPost_ret (v := .tuple #[.agg #[.int .i64 0, .int .i64 0, .string ⟨#[]⟩, .slice none 0 0, .int .i64 0, .int .i64 0, .string ⟨#[]⟩, .slice none 0 0], .int .i64 5]) (by unfold results; rw [Try.results52]; go_simp) rfl ⟨⟨_, _, rfl, K.ints_nil _ _ _, K.ints_nil _ _ _⟩, ?_⟩
        iterate 16 with_reducible refine K.Ext.setCell ?_ (by dsimp only; omega) _
        exact HX6.out
    · obtain rfl : k = n := by omega
      have HE : Hid (Z.RunSteps E xs = (A, 0)) := Z.hide (HSM.out A (by rw [← HN.out]; exact HR.out))
      have n3 : ¬ (w.heap.size + 1 = g6_7) := by omega
      have n4 : ¬ (g6_7 = w.heap.size + 1) := by omega
      have b4_c0 : wr.cell? ⟨g6_7, 0, none⟩ = some (.int .i64 (A.L.dg)) := K.cell_at HBL.out rfl; have b4_f0 : wr.frozen? ⟨g6_7, 0, none⟩ = false := K.thaw_at HBL.out; have b4_c1 : wr.cell? ⟨g6_7, 1, none⟩ = some (.int .i64 (A.L.tn)) := K.cell_at HBL.out rfl; have b4_f1 : wr.frozen? ⟨g6_7, 1, none⟩ = false := K.thaw_at HBL.out; have b4_c2 : wr.cell? ⟨g6_7, 2, none⟩ = some (.string A.L.nm) := K.cell_at HBL.out rfl; have b4_f2 : wr.frozen? ⟨g6_7, 2, none⟩ = false := K.thaw_at HBL.out; have b4_c3 : wr.cell? ⟨g6_7, 3, none⟩ = some (.slice o A.L.pw.length c) := K.cell_at HBL.out rfl; have b4_f3 : wr.frozen? ⟨g6_7, 3, none⟩ = false := K.thaw_at HBL.out; have b4_c4 : wr.cell? ⟨g6_7, 4, none⟩ = some (.int .i64 (A.R.dg)) := K.cell_at HBL.out rfl; have b4_f4 : wr.frozen? ⟨g6_7, 4, none⟩ = false := K.thaw_at HBL.out; have b4_c5 : wr.cell? ⟨g6_7, 5, none⟩ = some (.int .i64 (A.R.tn)) := K.cell_at HBL.out rfl; have b4_f5 : wr.frozen? ⟨g6_7, 5, none⟩ = false := K.thaw_at HBL.out; have b4_c6 : wr.cell? ⟨g6_7, 6, none⟩ = some (.string A.R.nm) := K.cell_at HBL.out rfl; have b4_f6 : wr.frozen? ⟨g6_7, 6, none⟩ = false := K.thaw_at HBL.out; have b4_c7 : wr.cell? ⟨g6_7, 7, none⟩ = some (.slice o' A.R.pw.length c') := K.cell_at HBL.out rfl; have b4_f7 : wr.frozen? ⟨g6_7, 7, none⟩ = false := K.thaw_at HBL.out
      have b5_c0 : wr.cell? ⟨w.heap.size + 1, 0, none⟩ = some (.int .i64 (0)) := K.cell_at HB.out rfl; have b5_f0 : wr.frozen? ⟨w.heap.size + 1, 0, none⟩ = false := K.thaw_at HB.out; have b5_c1 : wr.cell? ⟨w.heap.size + 1, 1, none⟩ = some (.int .i64 (0)) := K.cell_at HB.out rfl; have b5_f1 : wr.frozen? ⟨w.heap.size + 1, 1, none⟩ = false := K.thaw_at HB.out; have b5_c2 : wr.cell? ⟨w.heap.size + 1, 2, none⟩ = some (.string ⟨#[]⟩) := K.cell_at HB.out rfl; have b5_f2 : wr.frozen? ⟨w.heap.size + 1, 2, none⟩ = false := K.thaw_at HB.out; have b5_c3 : wr.cell? ⟨w.heap.size + 1, 3, none⟩ = some (.slice none 0 0) := K.cell_at HB.out rfl; have b5_f3 : wr.frozen? ⟨w.heap.size + 1, 3, none⟩ = false := K.thaw_at HB.out; have b5_c4 : wr.cell? ⟨w.heap.size + 1, 4, none⟩ = some (.int .i64 (0)) := K.cell_at HB.out rfl; have b5_f4 : wr.frozen? ⟨w.heap.size + 1, 4, none⟩ = false := K.thaw_at HB.out; have b5_c5 : wr.cell? ⟨w.heap.size + 1, 5, none⟩ = some (.int .i64 (0)) := K.cell_at HB.out rfl; have b5_f5 : wr.frozen? ⟨w.heap.size + 1, 5, none⟩ = false := K.thaw_at HB.out; have b5_c6 : wr.cell? ⟨w.heap.size + 1, 6, none⟩ = some (.string ⟨#[]⟩) := K.cell_at HB.out rfl; have b5_f6 : wr.frozen? ⟨w.heap.size + 1, 6, none⟩ = false := K.thaw_at HB.out; have b5_c7 : wr.cell? ⟨w.heap.size + 1, 7, none⟩ = some (.slice none 0 0) := K.cell_at HB.out rfl; have b5_f7 : wr.frozen? ⟨w.heap.size + 1, 7, none⟩ = false := K.thaw_at HB.out
      go_wp2
      rw [HE.out]
      refine bodyPost_ret (v := .tuple #[.agg #[.int .i64 A.L.dg, .int .i64 A.L.tn, .string A.L.nm, .slice o A.L.pw.length c, .int .i64 A.R.dg, .int .i64 A.R.tn, .string A.R.nm, .slice o' A.R.pw.length c'], .int .i64 0]) (by unfold results; rw [Try.results52]; go_simp) rfl ⟨⟨_, _, rfl, ?_, ?_⟩, ?_⟩
      · refine K.ints.mono (lo := w.heap.size + 2) (hi := wr.heap.size) ?_ (by omega) (by simp)
        iterate 8 with_reducible refine K.ints.set ?_ _ (.inl (by dsimp only; omega)) _
        exact HP.out
      · refine K.ints.mono (lo := w.heap.size + 2) (hi := wr.heap.size) ?_ (by omega) (by simp)
        iterate 8 with_reducible refine K.ints.set ?_ _ (.inl (by dsimp only; omega)) _
        exact HQ.out
      · iterate 8 with_reducible refine K.Ext.setCell ?_ (by dsimp only; omega) _
        exact HX.out
end Go.Proofs.Ytphlppklhpaljaa
