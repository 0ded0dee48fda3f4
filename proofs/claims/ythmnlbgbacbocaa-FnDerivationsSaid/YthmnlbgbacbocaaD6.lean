/-
  For every input the law FnDerivations returns true, and its arguments read as before. No condition.
-/
import Derived.Test.YthmnlbgbacbocaaD5
import Derived.Deep.DrawnRows
import Derived.StillTactics
import Derived.WalkSpells
import Derived.Test.YthmnlbgbacbocaaRows
set_option linter.unusedVariables false
section
namespace Go.Z
theorem mkB_letters (f : Nat → Int) (n : Nat) (hn : n ≤ 26) : ∀ x ∈ (mkB f n).map (fun b => (b.toNat : Int)), 97 ≤ x ∧ x < 97 + (n : Int) := by
  induction n with
  | zero => intro x hx; simp [mkB] at hx
  | succ n ih =>
    intro x hx
    have ih' := ih (by omega)
    unfold mkB at hx
    rw [List.map_append, List.mem_append] at hx
    rcases hx with hx | hx
    · have := ih' x hx; omega
    · split at hx
      · simp at hx
      · simp only [List.map_cons, List.map_nil, List.mem_singleton] at hx
        have e : ((97 + n).toUInt8).toNat = 97 + n := by simp [Nat.toUInt8]; omega
        rw [hx, e]; omega
/-- the exponents of what is made are those that were told -/
theorem expo_mk (f : Nat → Int) (n : Nat) (hn : n ≤ 26) (c : Int) : expo ((mkB f n).map (fun b => (b.toNat : Int))) (mkP f n) c = if 97 ≤ c ∧ c < 97 + (n : Int) then f (c - 97).toNat else 0 := by
  induction n with
  | zero => rw [if_neg (by omega)]; rfl
  | succ n ih =>
    have ih' := ih (by omega)
    have hl := mk_len f n
    unfold mkB mkP
    by_cases h0 : f n = 0
    · rw [if_pos h0, if_pos h0, List.append_nil, List.append_nil, ih']
      by_cases h1 : 97 ≤ c ∧ c < 97 + (n : Int)
      · rw [if_pos h1, if_pos (by omega)]
      · rw [if_neg h1]
        by_cases h2 : 97 ≤ c ∧ c < 97 + ((n + 1 : Nat) : Int)
        · have e : (c - 97).toNat = n := by omega
          rw [if_pos h2, e, h0]
        · rw [if_neg h2]
    · rw [if_neg h0, if_neg h0, List.map_append, List.map_cons, List.map_nil]
      have e : (((97 + n).toUInt8).toNat : Int) = 97 + (n : Int) := by
        have : ((97 + n).toUInt8).toNat = 97 + n := by simp [Nat.toUInt8]; omega
        omega
      rw [e, expo_snoc _ _ _ (by rw [List.length_map]; exact hl) (fun hx => by have := mkB_letters f n (by omega) _ hx; omega), ih']
      by_cases h1 : 97 + (n : Int) = c
      · have e2 : (c - 97).toNat = n := by omega
        rw [if_pos h1, if_pos (by omega), e2]
      · rw [if_neg h1]
        by_cases h2 : 97 ≤ c ∧ c < 97 + (n : Int)
        · rw [if_pos h2, if_pos (by omega)]
        · rw [if_neg h2, if_neg (by omega)]
theorem bs_made (d t : Int) (f : Nat → Int) (n : Nat) : bs (made d t f n).nm = (mkB f n).map (fun b => (b.toNat : Int)) := by
  simp [made, bs]
theorem expo_made (d t : Int) (f : Nat → Int) (c : Int) : expo (bs (made d t f 26).nm) (made d t f 26).pw c = if 97 ≤ c ∧ c ≤ 122 then f (c - 97).toNat else 0 := by
  rw [bs_made]
  have h := expo_mk f 26 (Nat.le_refl _) c
  show expo _ (mkP f 26) c = _
  rw [h]
  by_cases h1 : 97 ≤ c ∧ c ≤ 122
  · rw [if_pos h1, if_pos (by omega)]
  · rw [if_neg h1, if_neg (by omega)]
/-- the exponent of a letter in a formula -/
def ex (F : Fm) (c : Int) : Int := expo (bs F.nm) F.pw c
theorem ex_out {F : Fm} (h : isFormula F = true) {c : Int} (hc : ¬ (97 ≤ c ∧ c ≤ 122)) : ex F c = 0 := by
  unfold ex
  apply expo_none
  intro hm
  obtain ⟨i, hi, he⟩ := List.getElem_of_mem hm
  rw [bs_length] at hi
  have h1 := okAt_parts (valid_at h i hi)
  have h2 : (bs F.nm).getD i 0 = c := by rw [← he]; simp [List.getD_eq_getElem?_getD, bs_length, hi]
  rw [h2] at h1
  exact hc ⟨h1.1, h1.2.1⟩
theorem madeOr_ex {d t : Int} {f : Nat → Int} (h : (madeOr d t f).2 = 0) (c : Int) : ex (madeOr d t f).1 c = if 97 ≤ c ∧ c ≤ 122 then f (c - 97).toNat else 0 := by
  unfold madeOr at h ⊢
  split at h
  · rename_i h1; rw [if_pos h1]; exact expo_made d t f c
  · simp at h
theorem multiplied_ex {F G : Fm} (hF : isFormula F = true) (hG : isFormula G = true) (h : (multiplied F G).2 = 0) (c : Int) : ex (multiplied F G).1 c = ex F c + ex G c := by
  unfold multiplied at h ⊢
  split at h
  · rename_i h1
    rw [if_pos h1, madeOr_ex h c]
    by_cases hc : 97 ≤ c ∧ c ≤ 122
    · rw [if_pos hc]
      have e : (97 : Int) + ((c - 97).toNat : Int) = c := by omega
      unfold sumF ex; rw [e]
    · rw [if_neg hc, ex_out hF hc, ex_out hG hc]; rfl
  · rename_i h1; exact absurd h h1
theorem stepFm_ex (m t c : Int) (hm : 0 ≤ m ∧ m ≤ 255) : ex (stepFm m t) c = if c = m then t else 0 := by
  have e : bs (stepFm m t).nm = [m] := by
    have h1 : (UInt8.ofNat m.toNat).toNat = m.toNat := by simp; omega
    simp only [stepFm, bs, List.map_cons, List.map_nil]
    rw [h1]; congr 1; omega
  unfold ex
  rw [e]
  show expo [m] [t] c = _
  simp only [expo]
  by_cases h : c = m
  · rw [if_pos h.symm, if_pos h]
  · rw [if_neg (fun e => h e.symm), if_neg h]
theorem times_ex {E : Eqn} {m t : Int} (hm : 0 ≤ m ∧ m ≤ 255) (h : (TimesFormula E (stepFm m t)).2 = 0) (c : Int) :
    ex (TimesFormula E (stepFm m t)).1.L c = ex E.L c + (if c = m then t else 0) ∧ ex (TimesFormula E (stepFm m t)).1.R c = ex E.R c + (if c = m then t else 0) := by
  unfold TimesFormula at h ⊢
  split at h
  · rename_i h1
    rw [if_pos h1]
    rw [Bool.and_eq_true] at h1
    obtain ⟨hE, hF⟩ := h1
    obtain ⟨hL, hR⟩ := isEquation_parts hE
    unfold bothOf at h ⊢
    split at h
    · rename_i h2
      split at h
      · rename_i h3
        rw [if_pos h2, if_pos h3]
        exact ⟨by rw [multiplied_ex hL hF h2 c, stepFm_ex m t c hm], by rw [multiplied_ex hR hF h3 c, stepFm_ex m t c hm]⟩
      · rename_i h3; exact absurd h h3
    · rename_i h2; exact absurd h h2
  · simp at h
end Go.Z
end
section
namespace Go.Z
/-- one step more of a run -/
def runS (r : Option Eqn) (s : St) : Option Eqn := match r with
  | none => none
  | some A => if (stepEq A s).2 = 0 then some (stepEq A s).1 else none
def runL (E : Eqn) (l : List St) : Option Eqn := l.foldl runS (some E)
theorem runL_snoc (E : Eqn) (l : List St) (s : St) : runL E (l ++ [s]) = runS (runL E l) s := by simp [runL]
theorem runK_take (E : Eqn) (l : List St) (k : Nat) (hk : k ≤ l.length) : runK E l k = runL E (l.take k) := by
  induction k with
  | zero => simp [runK, runL]
  | succ k ih =>
    have hk' : k < l.length := by omega
    rw [List.take_succ_eq_append_getElem hk', runL_snoc, ← ih (by omega)]
    simp only [runK]
    have e : l.getD k zeroSt = l[k] := by simp [List.getD_eq_getElem?_getD, hk']
    rw [e]
    cases runK E l k <;> rfl
theorem runK_all (E : Eqn) (l : List St) : runK E l l.length = runL E l := by rw [runK_take E l l.length (Nat.le_refl _), List.take_length]
/-- the exponent of a letter of a formula is its power -/
theorem ex_at {F : Fm} (h : isFormula F = true) (k : Nat) (hk : k < F.nm.size) : ex F ((bs F.nm).getD k 0) = F.pw.getD k 0 := by
  have hl := (isFormula_len h).1
  unfold ex
  have h1 : ∀ (n : Nat), n ≤ F.nm.size → k < n → expo ((bs F.nm).take n) (F.pw.take n) ((bs F.nm).getD k 0) = F.pw.getD k 0 := by
    intro n
    induction n with
    | zero => intro _ h; omega
    | succ n ih =>
      intro hn hkn
      have b1 : n < (bs F.nm).length := by rw [bs_length]; omega
      have b2 : n < F.pw.length := by omega
      rw [List.take_succ_eq_append_getElem b1, List.take_succ_eq_append_getElem b2]
      have e1 : (bs F.nm)[n] = (bs F.nm).getD n 0 := by simp [List.getD_eq_getElem?_getD, b1]
      have e2 : F.pw[n] = F.pw.getD n 0 := by simp [List.getD_eq_getElem?_getD, b2]
      rw [e1, e2, expo_snoc _ _ _ (by simp [bs_length, hl]) (fresh_at h n (by omega))]
      by_cases hkn' : k = n
      · subst hkn'; rw [if_pos rfl]
      · have := rising h n (by omega) k (by omega)
        rw [if_neg (by omega), ih (by omega) (by omega)]
  have h2 := h1 F.nm.size (Nat.le_refl _) hk
  rwa [List.take_of_length_le (by rw [bs_length]; exact Nat.le_refl _), List.take_of_length_le (by omega)] at h2
end Go.Z
end
section
namespace Go.Z
theorem self_step {F : Fm} (h : isFormula F = true) : ∀ n : Nat, n ≤ 26 → ∃ j, j ≤ F.nm.size ∧ (∀ i, i < j → (bs F.nm).getD i 0 < 97 + (n : Int)) ∧ (∀ i, j ≤ i → i < F.nm.size → 97 + (n : Int) ≤ (bs F.nm).getD i 0) ∧
    mkB (fun i => ex F (97 + (i : Int))) n = F.nm.data.toList.take j ∧ mkP (fun i => ex F (97 + (i : Int))) n = F.pw.take j
  | 0, _ => ⟨0, Nat.zero_le _, fun i hi => by omega, fun i _ hi => by have := (okAt_parts (valid_at h i hi)).1; omega, by simp [mkB], by simp [mkP]⟩
  | n + 1, hn => by
    obtain ⟨j, j1, j2, j3, j4, j5⟩ := self_step h n (by omega)
    have hl := (isFormula_len h).1
    by_cases hj : j < F.nm.size ∧ (bs F.nm).getD j 0 = 97 + (n : Int)
    · obtain ⟨hj, he⟩ := hj
      have hx : ex F (97 + (n : Int)) = F.pw.getD j 0 := by rw [← he]; exact ex_at h j hj
      have hz : F.pw.getD j 0 ≠ 0 := (okAt_parts (valid_at h j hj)).2.2.2.1
      refine ⟨j + 1, hj, fun i hi => ?_, fun i hi hi' => ?_, ?_, ?_⟩
      · by_cases h1 : i < j
        · have := j2 i h1; omega
        · obtain rfl : i = j := by omega
          omega
      · have := rising h i hi' j (by omega); omega
      · have hb : j < F.nm.data.toList.length := by rw [Array.length_toList]; exact hj
        unfold mkB
        rw [j4, if_neg (by rw [hx]; exact hz), List.take_succ_eq_append_getElem hb]
        congr 1
        have e1 : ((F.nm.data.toList[j]'hb).toNat : Int) = 97 + (n : Int) := by
          rw [← he]
          unfold bs
          simp [List.getD_eq_getElem?_getD, hj]
        have e2 : F.nm.data.toList[j]'hb = (97 + n).toUInt8 := by
          apply UInt8.toNat_inj.1
          rw [Nat.toUInt8, UInt8.toNat_ofNat']
          omega
        rw [e2]
      · have hb : j < F.pw.length := by omega
        unfold mkP
        rw [j5, if_neg (by rw [hx]; exact hz), List.take_succ_eq_append_getElem hb, hx]
        simp [List.getD_eq_getElem?_getD, hb]
    · have hx : ex F (97 + (n : Int)) = 0 := by
        unfold ex
        apply expo_none
        intro hm
        obtain ⟨i, hi, he⟩ := List.getElem_of_mem hm
        rw [bs_length] at hi
        have he' : (bs F.nm).getD i 0 = 97 + (n : Int) := by simp [List.getD_eq_getElem?_getD, bs_length, hi, he]
        by_cases h1 : i < j
        · have := j2 i h1; omega
        · by_cases h2 : i = j
          · subst h2; exact hj ⟨hi, he'⟩
          · have h3 := j3 j (Nat.le_refl _) (by omega)
            have h4 := rising h i hi j (by omega)
            omega
      refine ⟨j, j1, fun i hi => ?_, fun i hi hi' => ?_, ?_, ?_⟩
      · have := j2 i hi; omega
      · have h3 := j3 i hi hi'
        by_cases h2 : i = j
        · subst h2
          have : (bs F.nm).getD i 0 ≠ 97 + (n : Int) := fun e => hj ⟨hi', e⟩
          omega
        · have h4 := rising h i hi' j (by omega)
          have h5 := j3 j (Nat.le_refl _) (by omega)
          omega
      · unfold mkB; rw [j4, if_pos hx]; simp
      · unfold mkP; rw [j5, if_pos hx]; simp
theorem made_self {F : Fm} (h : isFormula F = true) : made F.dg F.tn (fun i => ex F (97 + (i : Int))) 26 = F := by
  obtain ⟨j, j1, j2, j3, j4, j5⟩ := self_step h 26 (Nat.le_refl _)
  have hl := (isFormula_len h).1
  have hj : j = F.nm.size := by
    by_cases h1 : j < F.nm.size
    · have h2 := j3 j (Nat.le_refl _) h1
      have h3 := (okAt_parts (valid_at h j h1)).2.1
      omega
    · omega
  unfold made
  rw [j4, j5, hj]
  have e1 : F.nm.data.toList.take F.nm.size = F.nm.data.toList := List.take_of_length_le (by rw [Array.length_toList]; exact Nat.le_refl _)
  have e2 : F.pw.take F.nm.size = F.pw := List.take_of_length_le (by omega)
  rw [e1, e2]
end Go.Z
end
section
namespace Go.Z
theorem raised_ex {R : Fm} {n : Int} (h : (raised R n).2 = 0) (i : Nat) (hi : i < 26) : ex (raised R n).1 (97 + (i : Int)) = n * ex R (97 + (i : Int)) := by
  unfold raised at *
  split
  · rename_i h1
    rw [if_pos h1] at h
    rw [madeOr_ex h, if_pos (by omega)]
    have : (97 + (i : Int) - 97).toNat = i := by omega
    rw [this]; rfl
  · rename_i h1; rw [if_neg h1] at h; exact absurd h h1
end Go.Z
end
section
namespace Go.Proofs.Ythmnlbgbacbocaa
open Go.RowKit
attribute [local go_sem ↓] Go.wp_at_zero Go.wp_at_succ
end Go.Proofs.Ythmnlbgbacbocaa
end
section
namespace Go.Proofs.Ythmnlbgbacbocaa
open Go.RowKit
set_option maxHeartbeats 1600000 in
theorem l01Same_any (xs ys : List Int) {lo hi lo' hi' : Nat} {v v' : Value} (w : World) (hm : xs.length ≤ 1048576) (hm' : ys.length ≤ 1048576) (h : K.ints w lo hi v xs) (h' : K.ints w lo' hi' v' ys) :
    Calls Try.prog 190 #[v, v'] w fun e w' => e = .returned (.bool (xs == ys)) ∧ K.Ext w w' := by
  have g1 := h
  obtain ⟨o, cap, rfl, _⟩ := g1
  have g2 := h'
  obtain ⟨o', cap', rfl, _⟩ := g2
  by_cases hl : xs.length = ys.length
  · have HH := Z.hide h
    have HH' := Z.hide h'
    obtain ⟨n, hn⟩ : ∃ n, n = xs.length := ⟨_, rfl⟩
    have hn' : n = ys.length := by omega
    have HN := Z.hide hn
    have HN' := Z.hide hn'
    rw [← hn, ← hn']
    rw [← hn] at hm
    clear h h' hl hn hn' hm'
    go_enter Try.func190, Try.ntmps190
    go_wp2
    go_loopw [5] (fun i wr => ∃ k : Nat, k ≤ n ∧ i = .int .i64 k ∧ Hid (xs.take k = ys.take k) ∧ Hid (K.Ext w wr)) (fun i _ => n - (intOf i).toNat)
    case atStart => exact ⟨0, Nat.zero_le _, rfl, Z.hide rfl, Z.hide (K.Ext.refl _)⟩
    case round =>
      obtain ⟨k, hk, rfl, HT, HX⟩ := hrel
      by_cases hlt : k < n
      · obtain ⟨b, off, ho, _, _, hc⟩ := K.ints_at (n := xs.length) (c := cap) (o := o) (by have h_ := HH.out; exact h_) (by rw [← HN.out]; omega)
        obtain ⟨b', off', ho', _, _, hc'⟩ := K.ints_at (n := ys.length) (c := cap') (o := o') (by have h_ := HH'.out; exact h_) (by rw [← HN'.out]; omega)
        subst ho
        subst ho'
        have hck := HX.out.cell_of (hc k (by rw [← HN.out]; exact hlt))
        have hck' := HX.out.cell_of (hc' k (by rw [← HN'.out]; exact hlt))
        have i0 : (0 : Int) ≤ (k : Int) := Int.natCast_nonneg k
        have i1 : (k : Int) < (n : Int) := by omega
        have HS : Hid (xs.getD k 0 = ys.getD k 0 → xs.take (k + 1) = ys.take (k + 1)) := Z.hide (fun he => by rw [Z.take_succ_get xs k (by rw [← HN.out]; exact hlt), Z.take_succ_get ys k (by rw [← HN'.out]; exact hlt), HT.out, he])
        have HBd : Hid (¬ xs.getD k 0 = ys.getD k 0 → (xs == ys) = false) := Z.hide (fun he => by rw [beq_eq_false_iff_ne]; intro h0; exact he (by rw [h0]))
        clear hc hc'
        generalize xs.getD k 0 = x at *
        generalize ys.getD k 0 = y at *
        by_cases hxy : x = y
        · have HS2 := Z.hide (HS.out hxy)
          subst hxy
          go_wp2_with fail
          refine K.wp_region_ext (by kernel_rfl) (by kernel_rfl) ?_
          apply K.qcons
          · rfl
          · intro w' hw'; have hc := hw'.all.1.1; have hf := hw'.all.1.2; have hc' := hw'.all.2.1; have hf' := hw'.all.2.2; unfold Oper.quietAt; go_simp; first | done | rfl | exact ⟨rfl, rfl⟩
          simp only [Act.put, List.setIfInBounds_toArray, List.set]
          apply K.qcons
          · rfl
          · intro w' hw'; have hc := hw'.all.1.1; have hf := hw'.all.1.2; have hc' := hw'.all.2.1; have hf' := hw'.all.2.2; unfold Oper.quietAt; go_simp; first | done | rfl | exact ⟨rfl, rfl⟩
          simp only [Act.put, List.setIfInBounds_toArray, List.set]
          apply K.qcons
          · rfl
          · intro w' hw'; have hc := hw'.all.1.1; have hf := hw'.all.1.2; have hc' := hw'.all.2.1; have hf' := hw'.all.2.2; unfold Oper.quietAt; go_simp; first | done | rfl | exact ⟨rfl, rfl⟩
          simp only [Act.put, List.setIfInBounds_toArray, List.set]
          apply K.qcons
          · rfl
          · intro w' hw'; have hc := hw'.all.1.1; have hf := hw'.all.1.2; have hc' := hw'.all.2.1; have hf' := hw'.all.2.2; unfold Oper.quietAt; go_simp; first | done | rfl | exact ⟨rfl, rfl⟩
          simp only [Act.put, List.setIfInBounds_toArray, List.set]
          apply K.qcons
          · rfl
          · intro w' hw'; have hc := hw'.all.1.1; have hf := hw'.all.1.2; have hc' := hw'.all.2.1; have hf' := hw'.all.2.2; unfold Oper.quietAt; go_simp; first | done | rfl | exact ⟨rfl, rfl⟩
          simp only [Act.put, List.setIfInBounds_toArray, List.set]
          apply K.qcons
          · rfl
          · intro w' hw'; have hc := hw'.all.1.1; have hf := hw'.all.1.2; have hc' := hw'.all.2.1; have hf' := hw'.all.2.2; unfold Oper.quietAt; go_simp; first | done | rfl | exact ⟨rfl, rfl⟩
          simp only [Act.put, List.setIfInBounds_toArray, List.set]
          apply K.qcons
          · rfl
          · intro w' hw'; have hc := hw'.all.1.1; have hf := hw'.all.1.2; have hc' := hw'.all.2.1; have hf' := hw'.all.2.2; unfold Oper.quietAt; go_simp; first | done | rfl | exact ⟨rfl, rfl⟩
          simp only [Act.put, List.setIfInBounds_toArray, List.set]
          apply K.qcons
          · rfl
          · intro w' hw'; have hc := hw'.all.1.1; have hf := hw'.all.1.2; have hc' := hw'.all.2.1; have hf' := hw'.all.2.2; unfold Oper.quietAt; go_simp; first | done | rfl | exact ⟨rfl, rfl⟩
          simp only [Act.put, List.setIfInBounds_toArray, List.set]
          apply K.qcons
          · rfl
          · intro w' hw'; have hc := hw'.all.1.1; have hf := hw'.all.1.2; have hc' := hw'.all.2.1; have hf' := hw'.all.2.2; unfold Oper.quietAt; go_simp; first | done | exact K.vint (IntWalk.i64_in _ (by omega)) | rfl | exact ⟨rfl, rfl⟩
          simp only [Act.put, List.setIfInBounds_toArray, List.set]
          refine wpQuiet_nil ?_
          intro w1 hx1
          obtain ⟨⟨hcw1, hfw1⟩, hc'w1, hf'w1⟩ := hx1.all
          go_wp2
          go_roundw
          case rel => exact ⟨k + 1, by omega, by go_num, HS2, Z.hide (HX.out.trans (by first | exact hx1 | exact hx1.drew))⟩
          case measure => simp [intOf]; omega
        · have HF := Z.hide (HBd.out hxy)
          have hq : (x == y) = false := by simpa using hxy
          have hq2 : (x != y) = true := by simpa using hxy
          go_wp2_with fail
          refine K.wp_region_ext (by kernel_rfl) (by kernel_rfl) ?_
          apply K.qcons
          · rfl
          · intro w' hw'; have hc := hw'.all.1.1; have hf := hw'.all.1.2; have hc' := hw'.all.2.1; have hf' := hw'.all.2.2; unfold Oper.quietAt; go_simp; first | done | rfl | exact ⟨rfl, rfl⟩
          simp only [Act.put, List.setIfInBounds_toArray, List.set]
          apply K.qcons
          · rfl
          · intro w' hw'; have hc := hw'.all.1.1; have hf := hw'.all.1.2; have hc' := hw'.all.2.1; have hf' := hw'.all.2.2; unfold Oper.quietAt; go_simp; first | done | rfl | exact ⟨rfl, rfl⟩
          simp only [Act.put, List.setIfInBounds_toArray, List.set]
          apply K.qcons
          · rfl
          · intro w' hw'; have hc := hw'.all.1.1; have hf := hw'.all.1.2; have hc' := hw'.all.2.1; have hf' := hw'.all.2.2; unfold Oper.quietAt; go_simp; first | done | rfl | exact ⟨rfl, rfl⟩
          simp only [Act.put, List.setIfInBounds_toArray, List.set]
          apply K.qcons
          · rfl
          · intro w' hw'; have hc := hw'.all.1.1; have hf := hw'.all.1.2; have hc' := hw'.all.2.1; have hf' := hw'.all.2.2; unfold Oper.quietAt; go_simp; first | done | rfl | exact ⟨rfl, rfl⟩
          simp only [Act.put, List.setIfInBounds_toArray, List.set]
          apply K.qcons
          · rfl
          · intro w' hw'; have hc := hw'.all.1.1; have hf := hw'.all.1.2; have hc' := hw'.all.2.1; have hf' := hw'.all.2.2; unfold Oper.quietAt; go_simp; first | done | rfl | exact ⟨rfl, rfl⟩
          simp only [Act.put, List.setIfInBounds_toArray, List.set]
          apply K.qcons
          · rfl
          · intro w' hw'; have hc := hw'.all.1.1; have hf := hw'.all.1.2; have hc' := hw'.all.2.1; have hf' := hw'.all.2.2; unfold Oper.quietAt; go_simp; first | done | rfl | exact ⟨rfl, rfl⟩
          simp only [Act.put, List.setIfInBounds_toArray, List.set]
          apply K.qcons
          · rfl
          · intro w' hw'; have hc := hw'.all.1.1; have hf := hw'.all.1.2; have hc' := hw'.all.2.1; have hf' := hw'.all.2.2; unfold Oper.quietAt; go_simp; first | done | rfl | exact ⟨rfl, rfl⟩
          simp only [Act.put, List.setIfInBounds_toArray, List.set]
          apply K.qcons
          · rfl
          · intro w' hw'; have hc := hw'.all.1.1; have hf := hw'.all.1.2; have hc' := hw'.all.2.1; have hf' := hw'.all.2.2; unfold Oper.quietAt; go_simp; first | done | rfl | exact ⟨rfl, rfl⟩
          simp only [Act.put, List.setIfInBounds_toArray, List.set]
          apply K.qcons
          · rfl
          · intro w' hw'; have hc := hw'.all.1.1; have hf := hw'.all.1.2; have hc' := hw'.all.2.1; have hf' := hw'.all.2.2; unfold Oper.quietAt; go_simp; first | done | exact K.vint (IntWalk.i64_in _ (by omega)) | rfl | exact ⟨rfl, rfl⟩
          simp only [Act.put, List.setIfInBounds_toArray, List.set]
          refine wpQuiet_nil ?_
          intro w1 hx1
          obtain ⟨⟨hcw1, hfw1⟩, hc'w1, hf'w1⟩ := hx1.all
          go_wp2
          go_ret
          exact ⟨K.rb (by rw [HF.out]), HX.out.trans (by first | exact hx1 | exact hx1.drew)⟩
      · obtain rfl : k = n := by omega
        have HF : Hid ((xs == ys) = true) := Z.hide (by
          have h_ := HT.out
          rw [HN.out, List.take_length, ← HN.out, HN'.out, List.take_length] at h_
          rw [h_]; simp)
        go_wp2
        go_ret
        exact ⟨K.rb (by rw [HF.out]), HX.out⟩
  · have HF : Hid ((xs == ys) = false) := Z.hide (by rw [beq_eq_false_iff_ne]; intro h0; exact hl (by rw [h0]))
    have hq : ((xs.length : Int) == (ys.length : Int)) = false := by simp; omega
    have hq2 : ((xs.length : Int) != (ys.length : Int)) = true := by simp; omega
    have hq3 : (xs.length == ys.length) = false := by simpa using hl
    go_enter Try.func190, Try.ntmps190
    go_wp2
    go_ret
    exact ⟨K.rb (by rw [HF.out]), K.Ext.refl _⟩
set_option maxHeartbeats 1600000 in
theorem Equal_any (xs ys : List Int) {lo hi lo' hi' : Nat} {v v' : Value} (w : World) (hm : xs.length ≤ 1048576) (hm' : ys.length ≤ 1048576) (h : K.ints w lo hi v xs) (h' : K.ints w lo' hi' v' ys) :
    Calls Try.prog 99 #[v, v'] w fun e w' => e = .returned (.bool (xs == ys)) ∧ K.Ext w w' := by
  have g1 := h
  obtain ⟨o, cap, rfl, _⟩ := g1
  have g2 := h'
  obtain ⟨o', cap', rfl, _⟩ := g2
  by_cases hl : xs.length = ys.length
  · have HH := Z.hide h
    have HH' := Z.hide h'
    obtain ⟨n, hn⟩ : ∃ n, n = xs.length := ⟨_, rfl⟩
    have hn' : n = ys.length := by omega
    have HN := Z.hide hn
    have HN' := Z.hide hn'
    rw [← hn, ← hn']
    rw [← hn] at hm
    clear h h' hl hn hn' hm'
    go_enter Try.func99, Try.ntmps99
    go_wp2
    go_loopw [13] (fun i wr => ∃ k : Nat, k ≤ n ∧ i = .int .i64 k ∧ Hid (xs.take k = ys.take k) ∧ Hid (K.Ext w wr)) (fun i _ => n - (intOf i).toNat)
    case atStart => exact ⟨0, Nat.zero_le _, rfl, Z.hide rfl, Z.hide (K.Ext.refl _)⟩
    case round =>
      obtain ⟨k, hk, rfl, HT, HX⟩ := hrel
      by_cases hlt : k < n
      · obtain ⟨b, off, ho, _, _, hc⟩ := K.ints_at (n := xs.length) (c := cap) (o := o) (by have h_ := HH.out; exact h_) (by rw [← HN.out]; omega)
        obtain ⟨b', off', ho', _, _, hc'⟩ := K.ints_at (n := ys.length) (c := cap') (o := o') (by have h_ := HH'.out; exact h_) (by rw [← HN'.out]; omega)
        subst ho
        subst ho'
        have hck := HX.out.cell_of (hc k (by rw [← HN.out]; exact hlt))
        have hck' := HX.out.cell_of (hc' k (by rw [← HN'.out]; exact hlt))
        have i0 : (0 : Int) ≤ (k : Int) := Int.natCast_nonneg k
        have i1 : (k : Int) < (n : Int) := by omega
        have HS : Hid (xs.getD k 0 = ys.getD k 0 → xs.take (k + 1) = ys.take (k + 1)) := Z.hide (fun he => by rw [Z.take_succ_get xs k (by rw [← HN.out]; exact hlt), Z.take_succ_get ys k (by rw [← HN'.out]; exact hlt), HT.out, he])
        have HBd : Hid (¬ xs.getD k 0 = ys.getD k 0 → (xs == ys) = false) := Z.hide (fun he => by rw [beq_eq_false_iff_ne]; intro h0; exact he (by rw [h0]))
        clear hc hc'
        generalize xs.getD k 0 = x at *
        generalize ys.getD k 0 = y at *
        by_cases hxy : x = y
        · have HS2 := Z.hide (HS.out hxy)
          subst hxy
          go_wp2_with fail
          refine K.wp_region_ext (by kernel_rfl) (by kernel_rfl) ?_
          apply K.qcons
          · rfl
          · intro w' hw'; have hc := hw'.all.1.1; have hf := hw'.all.1.2; have hc' := hw'.all.2.1; have hf' := hw'.all.2.2; unfold Oper.quietAt; go_simp; first | done | rfl | exact ⟨rfl, rfl⟩
          simp only [Act.put, List.setIfInBounds_toArray, List.set]
          apply K.qcons
          · rfl
          · intro w' hw'; have hc := hw'.all.1.1; have hf := hw'.all.1.2; have hc' := hw'.all.2.1; have hf' := hw'.all.2.2; unfold Oper.quietAt; go_simp; first | done | rfl | exact ⟨rfl, rfl⟩
          simp only [Act.put, List.setIfInBounds_toArray, List.set]
          apply K.qcons
          · rfl
          · intro w' hw'; have hc := hw'.all.1.1; have hf := hw'.all.1.2; have hc' := hw'.all.2.1; have hf' := hw'.all.2.2; unfold Oper.quietAt; go_simp; first | done | rfl | exact ⟨rfl, rfl⟩
          simp only [Act.put, List.setIfInBounds_toArray, List.set]
          apply K.qcons
          · rfl
          · intro w' hw'; have hc := hw'.all.1.1; have hf := hw'.all.1.2; have hc' := hw'.all.2.1; have hf' := hw'.all.2.2; unfold Oper.quietAt; go_simp; first | done | rfl | exact ⟨rfl, rfl⟩
          simp only [Act.put, List.setIfInBounds_toArray, List.set]
          apply K.qcons
          · rfl
          · intro w' hw'; have hc := hw'.all.1.1; have hf := hw'.all.1.2; have hc' := hw'.all.2.1; have hf' := hw'.all.2.2; unfold Oper.quietAt; go_simp; first | done | rfl | exact ⟨rfl, rfl⟩
          simp only [Act.put, List.setIfInBounds_toArray, List.set]
          apply K.qcons
          · rfl
          · intro w' hw'; have hc := hw'.all.1.1; have hf := hw'.all.1.2; have hc' := hw'.all.2.1; have hf' := hw'.all.2.2; unfold Oper.quietAt; go_simp; first | done | rfl | exact ⟨rfl, rfl⟩
          simp only [Act.put, List.setIfInBounds_toArray, List.set]
          apply K.qcons
          · rfl
          · intro w' hw'; have hc := hw'.all.1.1; have hf := hw'.all.1.2; have hc' := hw'.all.2.1; have hf' := hw'.all.2.2; unfold Oper.quietAt; go_simp; first | done | rfl | exact ⟨rfl, rfl⟩
          simp only [Act.put, List.setIfInBounds_toArray, List.set]
          apply K.qcons
          · rfl
          · intro w' hw'; have hc := hw'.all.1.1; have hf := hw'.all.1.2; have hc' := hw'.all.2.1; have hf' := hw'.all.2.2; unfold Oper.quietAt; go_simp; first | done | rfl | exact ⟨rfl, rfl⟩
          simp only [Act.put, List.setIfInBounds_toArray, List.set]
          apply K.qcons
          · rfl
          · intro w' hw'; have hc := hw'.all.1.1; have hf := hw'.all.1.2; have hc' := hw'.all.2.1; have hf' := hw'.all.2.2; unfold Oper.quietAt; go_simp; first | done | exact K.vint (IntWalk.i64_in _ (by omega)) | rfl | exact ⟨rfl, rfl⟩
          simp only [Act.put, List.setIfInBounds_toArray, List.set]
          refine wpQuiet_nil ?_
          intro w1 hx1
          obtain ⟨⟨hcw1, hfw1⟩, hc'w1, hf'w1⟩ := hx1.all
          go_wp2
          go_roundw
          case rel => exact ⟨k + 1, by omega, by go_num, HS2, Z.hide (HX.out.trans (by first | exact hx1 | exact hx1.drew))⟩
          case measure => simp [intOf]; omega
        · have HF := Z.hide (HBd.out hxy)
          have hq : (x == y) = false := by simpa using hxy
          have hq2 : (x != y) = true := by simpa using hxy
          go_wp2_with fail
          refine K.wp_region_ext (by kernel_rfl) (by kernel_rfl) ?_
          apply K.qcons
          · rfl
          · intro w' hw'; have hc := hw'.all.1.1; have hf := hw'.all.1.2; have hc' := hw'.all.2.1; have hf' := hw'.all.2.2; unfold Oper.quietAt; go_simp; first | done | rfl | exact ⟨rfl, rfl⟩
          simp only [Act.put, List.setIfInBounds_toArray, List.set]
          apply K.qcons
          · rfl
          · intro w' hw'; have hc := hw'.all.1.1; have hf := hw'.all.1.2; have hc' := hw'.all.2.1; have hf' := hw'.all.2.2; unfold Oper.quietAt; go_simp; first | done | rfl | exact ⟨rfl, rfl⟩
          simp only [Act.put, List.setIfInBounds_toArray, List.set]
          apply K.qcons
          · rfl
          · intro w' hw'; have hc := hw'.all.1.1; have hf := hw'.all.1.2; have hc' := hw'.all.2.1; have hf' := hw'.all.2.2; unfold Oper.quietAt; go_simp; first | done | rfl | exact ⟨rfl, rfl⟩
          simp only [Act.put, List.setIfInBounds_toArray, List.set]
          apply K.qcons
          · rfl
          · intro w' hw'; have hc := hw'.all.1.1; have hf := hw'.all.1.2; have hc' := hw'.all.2.1; have hf' := hw'.all.2.2; unfold Oper.quietAt; go_simp; first | done | rfl | exact ⟨rfl, rfl⟩
          simp only [Act.put, List.setIfInBounds_toArray, List.set]
          apply K.qcons
          · rfl
          · intro w' hw'; have hc := hw'.all.1.1; have hf := hw'.all.1.2; have hc' := hw'.all.2.1; have hf' := hw'.all.2.2; unfold Oper.quietAt; go_simp; first | done | rfl | exact ⟨rfl, rfl⟩
          simp only [Act.put, List.setIfInBounds_toArray, List.set]
          apply K.qcons
          · rfl
          · intro w' hw'; have hc := hw'.all.1.1; have hf := hw'.all.1.2; have hc' := hw'.all.2.1; have hf' := hw'.all.2.2; unfold Oper.quietAt; go_simp; first | done | rfl | exact ⟨rfl, rfl⟩
          simp only [Act.put, List.setIfInBounds_toArray, List.set]
          apply K.qcons
          · rfl
          · intro w' hw'; have hc := hw'.all.1.1; have hf := hw'.all.1.2; have hc' := hw'.all.2.1; have hf' := hw'.all.2.2; unfold Oper.quietAt; go_simp; first | done | rfl | exact ⟨rfl, rfl⟩
          simp only [Act.put, List.setIfInBounds_toArray, List.set]
          apply K.qcons
          · rfl
          · intro w' hw'; have hc := hw'.all.1.1; have hf := hw'.all.1.2; have hc' := hw'.all.2.1; have hf' := hw'.all.2.2; unfold Oper.quietAt; go_simp; first | done | rfl | exact ⟨rfl, rfl⟩
          simp only [Act.put, List.setIfInBounds_toArray, List.set]
          apply K.qcons
          · rfl
          · intro w' hw'; have hc := hw'.all.1.1; have hf := hw'.all.1.2; have hc' := hw'.all.2.1; have hf' := hw'.all.2.2; unfold Oper.quietAt; go_simp; first | done | exact K.vint (IntWalk.i64_in _ (by omega)) | rfl | exact ⟨rfl, rfl⟩
          simp only [Act.put, List.setIfInBounds_toArray, List.set]
          refine wpQuiet_nil ?_
          intro w1 hx1
          obtain ⟨⟨hcw1, hfw1⟩, hc'w1, hf'w1⟩ := hx1.all
          go_wp2
          go_ret
          exact ⟨K.rb (by rw [HF.out]), HX.out.trans (by first | exact hx1 | exact hx1.drew)⟩
      · obtain rfl : k = n := by omega
        have HF : Hid ((xs == ys) = true) := Z.hide (by
          have h_ := HT.out
          rw [HN.out, List.take_length, ← HN.out, HN'.out, List.take_length] at h_
          rw [h_]; simp)
        go_wp2
        go_ret
        exact ⟨K.rb (by rw [HF.out]), HX.out⟩
  · have HF : Hid ((xs == ys) = false) := Z.hide (by rw [beq_eq_false_iff_ne]; intro h0; exact hl (by rw [h0]))
    have hq : ((xs.length : Int) == (ys.length : Int)) = false := by simp; omega
    have hq2 : ((xs.length : Int) != (ys.length : Int)) = true := by simp; omega
    have hq3 : (xs.length == ys.length) = false := by simpa using hl
    go_enter Try.func99, Try.ntmps99
    go_wp2
    go_ret
    exact ⟨K.rb (by rw [HF.out]), K.Ext.refl _⟩
end Go.Proofs.Ythmnlbgbacbocaa
end
section
namespace Go.Proofs.Ythmnlbgbacbocaa
open Go.RowKit
theorem eqFig_run (d t d' t' : Int) (w : World) : (binOp .eql 30 (.agg #[.int .i64 d, .int .i64 t]) (.agg #[.int .i64 d', .int .i64 t'])).run Try.prog w = .ok (.bool (d == d' && t == t')) w := by
  have u3 := Try.underlying2
  have hS : Try.prog.underlying 30 = some (.struct (Try.prog.fieldsOf 30)) := by kernel_rfl
  have hp : Try.prog.stoodInHeld 30 = false := by kernel_rfl
  rw [run_eql_struct, show (10000 : Nat) = 9999 + 1 from rfl, run_equalIn_agg w 9999 30 _ _ hS hp]
  simp only [Program.fieldsOf, Try.underlying30]
  go_simp
  by_cases h1 : d = d' <;> by_cases h2 : t = t' <;> simp [h1, h2]
end Go.Proofs.Ythmnlbgbacbocaa
end
section
namespace Go.Z
def sameFm (F G : Fm) : Bool := (F.dg == G.dg && F.tn == G.tn) && (F.nm.toList == G.nm.toList) && (F.pw == G.pw)
def IsDerivation (E : Eqn) (l : List St) (G : Eqn) : Bool × Int := if isEquation G then (if (RunSteps E l).2 = 0 then (sameFm (RunSteps E l).1.L G.L && sameFm (RunSteps E l).1.R G.R, 0) else (false, (RunSteps E l).2)) else (false, 1)
end Go.Z
namespace Go.Proofs.Ythmnlbgbacbocaa
open Go.RowKit
set_option maxHeartbeats 3200000 in
theorem sameFormula_any (F : Z.Fm) (G : Z.Fm) {loF hiF : Nat} {pF : Value} {loG hiG : Nat} {pG : Value} (w : World)  (hmF : F.pw.length ≤ 1048576) (hnF : F.nm.size ≤ 1048576) (hF : K.ints w loF hiF pF F.pw) (hmG : G.pw.length ≤ 1048576) (hnG : G.nm.size ≤ 1048576) (hG : K.ints w loG hiG pG G.pw) :
    Calls Try.prog 154 #[.agg #[.int .i64 F.dg, .int .i64 F.tn, .string F.nm, pF], .agg #[.int .i64 G.dg, .int .i64 G.tn, .string G.nm, pG]] w fun e w' => e = .returned (.bool (Z.sameFm F G)) ∧ K.Ext w w' := by
  have hF_ := hF
  have shF := hF
  obtain ⟨oF, cF, rfl, _⟩ := shF
  have hG_ := hG
  have shG := hG
  obtain ⟨oG, cG, rfl, _⟩ := shG
  cases v1 : (F.dg == G.dg && F.tn == G.tn)
  · have hq : ∀ w : World, (binOp .eql 30 (.agg #[.int .i64 F.dg, .int .i64 F.tn]) (.agg #[.int .i64 G.dg, .int .i64 G.tn])).run Try.prog w = .ok (.bool false) w := fun w => by rw [eqFig_run, v1]
    have HE : Hid (Z.sameFm F G = false) := Z.hide (by unfold Z.sameFm; rw [v1]; rfl)
    clear v1
    have X0 : K.Ext w w := K.Ext.refl w
    go_enter Try.func154, Try.ntmps154
    go_wp2_with fail
    rw [HE.out]
    refine bodyPost_ret (v := .bool false) (by unfold results; rw [Try.results154]; go_simp) rfl ⟨rfl, ?_⟩
    repeat with_reducible refine K.Ext.setCell ?_ (by dsimp only; omega) _
    exact (by repeat' (first | with_reducible exact X0 | with_reducible refine K.Ext.setCell ?_ ?_ _ | with_reducible refine K.Ext.alloc ?_ _ | with_reducible refine K.Ext.drew ?_ | (dsimp only; omega) | omega | (simp; omega)))
  have hq : ∀ w : World, (binOp .eql 30 (.agg #[.int .i64 F.dg, .int .i64 F.tn]) (.agg #[.int .i64 G.dg, .int .i64 G.tn])).run Try.prog w = .ok (.bool true) w := fun w => by rw [eqFig_run, v1]
  cases v2 : (F.nm.toList == G.nm.toList)
  · have HE : Hid (Z.sameFm F G = false) := Z.hide (by unfold Z.sameFm; rw [v1, v2]; rfl)
    have v3 : ¬ (F.nm.toList = G.nm.toList) := by simpa using v2
    have v4 : ¬ (F.nm = G.nm) := fun h => v3 (by rw [h])
    clear v1
    have X0 : K.Ext w w := K.Ext.refl w
    go_enter Try.func154, Try.ntmps154
    go_wp2_with fail
    rw [HE.out]
    refine bodyPost_ret (v := .bool false) (by unfold results; rw [Try.results154]; go_simp) rfl ⟨rfl, ?_⟩
    repeat with_reducible refine K.Ext.setCell ?_ (by dsimp only; omega) _
    exact (by repeat' (first | with_reducible exact X0 | with_reducible refine K.Ext.setCell ?_ ?_ _ | with_reducible refine K.Ext.alloc ?_ _ | with_reducible refine K.Ext.drew ?_ | (dsimp only; omega) | omega | (simp; omega)))
  have HE : Hid (Z.sameFm F G = (F.pw == G.pw)) := Z.hide (by unfold Z.sameFm; rw [v1, v2]; rfl)
  have v3 : F.nm.toList = G.nm.toList := by simpa using v2
  clear v1
  have X0 : K.Ext w w := K.Ext.refl w
  go_enter Try.func154, Try.ntmps154
  go_wp2_with (go_at_call 99; refine K.call (by with_reducible rfl) (by with_reducible rfl) (Equal_any F.pw G.pw _ hmF hmG (K.ints.alloc (K.ints.alloc hF_ _) _) (K.ints.alloc (K.ints.alloc hG_ _) _)) ?_; rintro e w1 ⟨rfl, x1⟩; have s1 : w.heap.size + 2 ≤ w1.heap.size := (by have h_ := x1.size; (try simp at h_); omega); have X1 := K.Ext.trans (K.Ext.alloc (K.Ext.alloc X0 _) _) x1; obtain ⟨c1_0_0, c1_0_1, c1_0_2, c1_0_3⟩ := K.c4 x1 (w.heap.size) (.int .i64 F.dg) (.int .i64 F.tn) (.string F.nm) (.slice oF F.pw.length cF) (by go_simp); have z1_0 : w.heap.size < w1.heap.size := World.block_lt_of_cell? w1 _ c1_0_0; have d1_0 : ¬ (w.heap.size = w1.heap.size) := (by omega); have e1_0 : ¬ (w1.heap.size = w.heap.size) := (by omega); obtain ⟨c1_1_0, c1_1_1, c1_1_2, c1_1_3⟩ := K.c4 x1 (w.heap.size + 1) (.int .i64 G.dg) (.int .i64 G.tn) (.string G.nm) (.slice oG G.pw.length cG) (by go_simp); have z1_1 : w.heap.size + 1 < w1.heap.size := World.block_lt_of_cell? w1 _ c1_1_0; have d1_1 : ¬ (w.heap.size + 1 = w1.heap.size) := (by omega); have e1_1 : ¬ (w1.heap.size = w.heap.size + 1) := (by omega); have n1_0 : ¬ (w.heap.size + 1 = w.heap.size) := (by omega); have n0_1 : ¬ (w.heap.size = w.heap.size + 1) := (by omega); have F1_1 := K.ints.ext (K.ints.alloc (K.ints.alloc hF_ _) _) x1; have F2_1 := K.ints.ext (K.ints.alloc (K.ints.alloc hG_ _) _) x1; clear hF_ hG_)
  rw [HE.out]
  refine bodyPost_ret (v := .bool ((F.pw == G.pw))) (by unfold results; rw [Try.results154]; go_simp) rfl ⟨rfl, ?_⟩
  repeat with_reducible refine K.Ext.setCell ?_ (by dsimp only; omega) _
  exact (by repeat' (first | with_reducible exact X1 | with_reducible refine K.Ext.setCell ?_ ?_ _ | with_reducible refine K.Ext.alloc ?_ _ | with_reducible refine K.Ext.drew ?_ | (dsimp only; omega) | omega | (simp; omega)))
set_option maxHeartbeats 3200000 in
theorem l21Same_any (F : Z.Fm) (G : Z.Fm) {loF hiF : Nat} {pF : Value} {loG hiG : Nat} {pG : Value} (w : World)  (hmF : F.pw.length ≤ 1048576) (hnF : F.nm.size ≤ 1048576) (hF : K.ints w loF hiF pF F.pw) (hmG : G.pw.length ≤ 1048576) (hnG : G.nm.size ≤ 1048576) (hG : K.ints w loG hiG pG G.pw) :
    Calls Try.prog 155 #[.agg #[.int .i64 F.dg, .int .i64 F.tn, .string F.nm, pF], .agg #[.int .i64 G.dg, .int .i64 G.tn, .string G.nm, pG]] w fun e w' => e = .returned (.bool (Z.sameFm F G)) ∧ K.Ext w w' := by
  have hF_ := hF
  have shF := hF
  obtain ⟨oF, cF, rfl, _⟩ := shF
  have hG_ := hG
  have shG := hG
  obtain ⟨oG, cG, rfl, _⟩ := shG
  cases v1 : (F.dg == G.dg && F.tn == G.tn)
  · have hq : ∀ w : World, (binOp .eql 30 (.agg #[.int .i64 F.dg, .int .i64 F.tn]) (.agg #[.int .i64 G.dg, .int .i64 G.tn])).run Try.prog w = .ok (.bool false) w := fun w => by rw [eqFig_run, v1]
    have HE : Hid (Z.sameFm F G = false) := Z.hide (by unfold Z.sameFm; rw [v1]; rfl)
    clear v1
    have X0 : K.Ext w w := K.Ext.refl w
    go_enter Try.func155, Try.ntmps155
    go_wp2_with fail
    rw [HE.out]
    refine bodyPost_ret (v := .bool false) (by unfold results; rw [Try.results155]; go_simp) rfl ⟨rfl, ?_⟩
    repeat with_reducible refine K.Ext.setCell ?_ (by dsimp only; omega) _
    exact (by repeat' (first | with_reducible exact X0 | with_reducible refine K.Ext.setCell ?_ ?_ _ | with_reducible refine K.Ext.alloc ?_ _ | with_reducible refine K.Ext.drew ?_ | (dsimp only; omega) | omega | (simp; omega)))
  have hq : ∀ w : World, (binOp .eql 30 (.agg #[.int .i64 F.dg, .int .i64 F.tn]) (.agg #[.int .i64 G.dg, .int .i64 G.tn])).run Try.prog w = .ok (.bool true) w := fun w => by rw [eqFig_run, v1]
  cases v2 : (F.nm.toList == G.nm.toList)
  · have HE : Hid (Z.sameFm F G = false) := Z.hide (by unfold Z.sameFm; rw [v1, v2]; rfl)
    have v3 : ¬ (F.nm.toList = G.nm.toList) := by simpa using v2
    have v4 : ¬ (F.nm = G.nm) := fun h => v3 (by rw [h])
    clear v1
    have X0 : K.Ext w w := K.Ext.refl w
    go_enter Try.func155, Try.ntmps155
    go_wp2_with fail
    rw [HE.out]
    refine bodyPost_ret (v := .bool false) (by unfold results; rw [Try.results155]; go_simp) rfl ⟨rfl, ?_⟩
    repeat with_reducible refine K.Ext.setCell ?_ (by dsimp only; omega) _
    exact (by repeat' (first | with_reducible exact X0 | with_reducible refine K.Ext.setCell ?_ ?_ _ | with_reducible refine K.Ext.alloc ?_ _ | with_reducible refine K.Ext.drew ?_ | (dsimp only; omega) | omega | (simp; omega)))
  have HE : Hid (Z.sameFm F G = (F.pw == G.pw)) := Z.hide (by unfold Z.sameFm; rw [v1, v2]; rfl)
  have v3 : F.nm.toList = G.nm.toList := by simpa using v2
  clear v1
  have X0 : K.Ext w w := K.Ext.refl w
  go_enter Try.func155, Try.ntmps155
  go_wp2_with (go_at_call 190; refine K.call (by with_reducible rfl) (by with_reducible rfl) (l01Same_any F.pw G.pw _ hmF hmG (K.ints.alloc (K.ints.alloc hF_ _) _) (K.ints.alloc (K.ints.alloc hG_ _) _)) ?_; rintro e w1 ⟨rfl, x1⟩; have s1 : w.heap.size + 2 ≤ w1.heap.size := (by have h_ := x1.size; (try simp at h_); omega); have X1 := K.Ext.trans (K.Ext.alloc (K.Ext.alloc X0 _) _) x1; obtain ⟨c1_0_0, c1_0_1, c1_0_2, c1_0_3⟩ := K.c4 x1 (w.heap.size) (.int .i64 F.dg) (.int .i64 F.tn) (.string F.nm) (.slice oF F.pw.length cF) (by go_simp); have z1_0 : w.heap.size < w1.heap.size := World.block_lt_of_cell? w1 _ c1_0_0; have d1_0 : ¬ (w.heap.size = w1.heap.size) := (by omega); have e1_0 : ¬ (w1.heap.size = w.heap.size) := (by omega); obtain ⟨c1_1_0, c1_1_1, c1_1_2, c1_1_3⟩ := K.c4 x1 (w.heap.size + 1) (.int .i64 G.dg) (.int .i64 G.tn) (.string G.nm) (.slice oG G.pw.length cG) (by go_simp); have z1_1 : w.heap.size + 1 < w1.heap.size := World.block_lt_of_cell? w1 _ c1_1_0; have d1_1 : ¬ (w.heap.size + 1 = w1.heap.size) := (by omega); have e1_1 : ¬ (w1.heap.size = w.heap.size + 1) := (by omega); have n1_0 : ¬ (w.heap.size + 1 = w.heap.size) := (by omega); have n0_1 : ¬ (w.heap.size = w.heap.size + 1) := (by omega); have F1_1 := K.ints.ext (K.ints.alloc (K.ints.alloc hF_ _) _) x1; have F2_1 := K.ints.ext (K.ints.alloc (K.ints.alloc hG_ _) _) x1; clear hF_ hG_)
  rw [HE.out]
  refine bodyPost_ret (v := .bool ((F.pw == G.pw))) (by unfold results; rw [Try.results155]; go_simp) rfl ⟨rfl, ?_⟩
  repeat with_reducible refine K.Ext.setCell ?_ (by dsimp only; omega) _
  exact (by repeat' (first | with_reducible exact X1 | with_reducible refine K.Ext.setCell ?_ ?_ _ | with_reducible refine K.Ext.alloc ?_ _ | with_reducible refine K.Ext.drew ?_ | (dsimp only; omega) | omega | (simp; omega)))
set_option maxHeartbeats 6400000 in
theorem impl_IsDerivation (E : Z.Eqn) (xs : List (Z.St)) (G : Z.Eqn) {loEL hiEL loER hiER : Nat} {pEL pER : Value} {loxs hixs : Nat} {pxs : Value} {loGL hiGL loGR hiGR : Nat} {pGL pGR : Value} (w : World)  (hmEL : E.L.pw.length ≤ 1048576) (hnEL : E.L.nm.size ≤ 1048576) (hmER : E.R.pw.length ≤ 1048576) (hnER : E.R.nm.size ≤ 1048576) (hEL : K.ints w loEL hiEL pEL E.L.pw) (hER : K.ints w loER hiER pER E.R.pw) (hmxs : xs.length ≤ 1048576) (hxs : K.recs false K.StR w loxs hixs pxs xs) (hmGL : G.L.pw.length ≤ 1048576) (hnGL : G.L.nm.size ≤ 1048576) (hmGR : G.R.pw.length ≤ 1048576) (hnGR : G.R.nm.size ≤ 1048576) (hGL : K.ints w loGL hiGL pGL G.L.pw) (hGR : K.ints w loGR hiGR pGR G.R.pw) :
    Calls Try.prog 78 #[.agg #[.int .i64 E.L.dg, .int .i64 E.L.tn, .string E.L.nm, pEL, .int .i64 E.R.dg, .int .i64 E.R.tn, .string E.R.nm, pER], pxs, .agg #[.int .i64 G.L.dg, .int .i64 G.L.tn, .string G.L.nm, pGL, .int .i64 G.R.dg, .int .i64 G.R.tn, .string G.R.nm, pGR]] w fun e w' => e = .returned (.tuple #[.bool ((Z.IsDerivation E xs G).1), .int .i64 ((Z.IsDerivation E xs G).2)]) ∧ K.Ext w w' := by
  have hEL_ := hEL
  have shEL := hEL
  obtain ⟨oEL, cEL, rfl, _⟩ := shEL
  have hER_ := hER
  have shER := hER
  obtain ⟨oER, cER, rfl, _⟩ := shER
  have hxs_ := hxs
  have shxs := hxs
  obtain ⟨oxs, cxs, rfl, _⟩ := shxs
  have hGL_ := hGL
  have shGL := hGL
  obtain ⟨oGL, cGL, rfl, _⟩ := shGL
  have hGR_ := hGR
  have shGR := hGR
  obtain ⟨oGR, cGR, rfl, _⟩ := shGR
  cases vG : Z.isEquation G
  · have HE : Hid (Z.IsDerivation E xs G = (false, 1)) := Z.hide (by unfold Z.IsDerivation; rw [vG]; rfl)
    have X0 : K.Ext w w := K.Ext.refl w
    go_enter Try.func78, Try.ntmps78
    go_wp2_with (go_at_call 47; refine K.call (by with_reducible rfl) (by with_reducible rfl) (impl_IsEquation G _ hmGL hnGL hmGR hnGR (K.ints.alloc (K.ints.alloc hGL_ _) _) (K.ints.alloc (K.ints.alloc hGR_ _) _)) ?_; rintro e w1 ⟨rfl, x1⟩; have s1 : w.heap.size + 2 ≤ w1.heap.size := (by have h_ := x1.size; (try simp at h_); omega); have X1 := K.Ext.trans (K.Ext.alloc (K.Ext.alloc X0 _) _) x1; obtain ⟨c1_0_0, c1_0_1, c1_0_2, c1_0_3, c1_0_4, c1_0_5, c1_0_6, c1_0_7⟩ := K.c8 x1 (w.heap.size) (.int .i64 E.L.dg) (.int .i64 E.L.tn) (.string E.L.nm) (.slice oEL E.L.pw.length cEL) (.int .i64 E.R.dg) (.int .i64 E.R.tn) (.string E.R.nm) (.slice oER E.R.pw.length cER) (by go_simp); have z1_0 : w.heap.size < w1.heap.size := World.block_lt_of_cell? w1 _ c1_0_0; have d1_0 : ¬ (w.heap.size = w1.heap.size) := (by omega); have e1_0 : ¬ (w1.heap.size = w.heap.size) := (by omega); obtain ⟨c1_1_0, c1_1_1, c1_1_2, c1_1_3, c1_1_4, c1_1_5, c1_1_6, c1_1_7⟩ := K.c8 x1 (w.heap.size + 1) (.int .i64 G.L.dg) (.int .i64 G.L.tn) (.string G.L.nm) (.slice oGL G.L.pw.length cGL) (.int .i64 G.R.dg) (.int .i64 G.R.tn) (.string G.R.nm) (.slice oGR G.R.pw.length cGR) (by go_simp); have z1_1 : w.heap.size + 1 < w1.heap.size := World.block_lt_of_cell? w1 _ c1_1_0; have d1_1 : ¬ (w.heap.size + 1 = w1.heap.size) := (by omega); have e1_1 : ¬ (w1.heap.size = w.heap.size + 1) := (by omega); have n1_0 : ¬ (w.heap.size + 1 = w.heap.size) := (by omega); have n0_1 : ¬ (w.heap.size = w.heap.size + 1) := (by omega); have F1_1 := K.ints.ext (K.ints.alloc (K.ints.alloc hEL_ _) _) x1; have F2_1 := K.ints.ext (K.ints.alloc (K.ints.alloc hER_ _) _) x1; have F3_1 := K.recs.ext (K.recs.alloc (K.recs.alloc hxs_ _) _) x1; have F4_1 := K.ints.ext (K.ints.alloc (K.ints.alloc hGL_ _) _) x1; have F5_1 := K.ints.ext (K.ints.alloc (K.ints.alloc hGR_ _) _) x1; clear hEL_ hER_ hxs_ hGL_ hGR_)
    rw [HE.out]
    refine bodyPost_ret (v := .tuple #[.bool false, .int .i64 1]) (by unfold results; rw [Try.results78]; go_simp) rfl ⟨rfl, ?_⟩
    repeat with_reducible refine K.Ext.setCell ?_ (by dsimp only; omega) _
    exact (by repeat' (first | with_reducible exact X1 | with_reducible refine K.Ext.setCell ?_ ?_ _ | with_reducible refine K.Ext.alloc ?_ _ | with_reducible refine K.Ext.drew ?_ | (dsimp only; omega) | omega | (simp; omega)))
  obtain ⟨M, hM⟩ : ∃ M, M = Z.RunSteps E xs := ⟨_, rfl⟩
  have HR : ∀ {a b c d x y : Nat} {p q v : Value} (w : World), K.ints w a b p E.L.pw → K.ints w c d q E.R.pw → K.recs false K.StR w x y v xs → Calls Try.prog 72 #[.agg #[.int .i64 E.L.dg, .int .i64 E.L.tn, .string E.L.nm, p, .int .i64 E.R.dg, .int .i64 E.R.tn, .string E.R.nm, q], v] w fun e w' => (∃ p' q' m, e = .returned (.tuple #[.agg #[.int .i64 M.1.L.dg, .int .i64 M.1.L.tn, .string M.1.L.nm, p', .int .i64 M.1.R.dg, .int .i64 M.1.R.tn, .string M.1.R.nm, q'], .int .i64 M.2]) ∧ w.heap.size ≤ m ∧ m ≤ w'.heap.size ∧ K.own w' w.heap.size m p' M.1.L.pw ∧ K.own w' m w'.heap.size q' M.1.R.pw) ∧ K.Ext w w' := fun w h h' h'' => by
    rw [hM]; exact impl_RunSteps E xs w hmEL hnEL hmER hnER h h' hmxs h''
  have HD : Hid (Z.IsDerivation E xs G = if M.2 = 0 then (Z.sameFm M.1.L G.L && Z.sameFm M.1.R G.R, 0) else (false, M.2)) := Z.hide (by unfold Z.IsDerivation; rw [vG, ← hM]; rfl)
  by_cases hz : M.2 = 0
  case neg =>
    have HE : Hid (Z.IsDerivation E xs G = (false, M.2)) := Z.hide (by rw [HD.out, if_neg hz])
    clear hM HD
    have X0 : K.Ext w w := K.Ext.refl w
    go_enter Try.func78, Try.ntmps78
    go_wp2_with (go_at_call 47; refine K.call (by with_reducible rfl) (by with_reducible rfl) (impl_IsEquation G _ hmGL hnGL hmGR hnGR (K.ints.alloc (K.ints.alloc hGL_ _) _) (K.ints.alloc (K.ints.alloc hGR_ _) _)) ?_; rintro e w1 ⟨rfl, x1⟩; have s1 : w.heap.size + 2 ≤ w1.heap.size := (by have h_ := x1.size; (try simp at h_); omega); have X1 := K.Ext.trans (K.Ext.alloc (K.Ext.alloc X0 _) _) x1; obtain ⟨c1_0_0, c1_0_1, c1_0_2, c1_0_3, c1_0_4, c1_0_5, c1_0_6, c1_0_7⟩ := K.c8 x1 (w.heap.size) (.int .i64 E.L.dg) (.int .i64 E.L.tn) (.string E.L.nm) (.slice oEL E.L.pw.length cEL) (.int .i64 E.R.dg) (.int .i64 E.R.tn) (.string E.R.nm) (.slice oER E.R.pw.length cER) (by go_simp); have z1_0 : w.heap.size < w1.heap.size := World.block_lt_of_cell? w1 _ c1_0_0; have d1_0 : ¬ (w.heap.size = w1.heap.size) := (by omega); have e1_0 : ¬ (w1.heap.size = w.heap.size) := (by omega); obtain ⟨c1_1_0, c1_1_1, c1_1_2, c1_1_3, c1_1_4, c1_1_5, c1_1_6, c1_1_7⟩ := K.c8 x1 (w.heap.size + 1) (.int .i64 G.L.dg) (.int .i64 G.L.tn) (.string G.L.nm) (.slice oGL G.L.pw.length cGL) (.int .i64 G.R.dg) (.int .i64 G.R.tn) (.string G.R.nm) (.slice oGR G.R.pw.length cGR) (by go_simp); have z1_1 : w.heap.size + 1 < w1.heap.size := World.block_lt_of_cell? w1 _ c1_1_0; have d1_1 : ¬ (w.heap.size + 1 = w1.heap.size) := (by omega); have e1_1 : ¬ (w1.heap.size = w.heap.size + 1) := (by omega); have n1_0 : ¬ (w.heap.size + 1 = w.heap.size) := (by omega); have n0_1 : ¬ (w.heap.size = w.heap.size + 1) := (by omega); have F1_1 := K.ints.ext (K.ints.alloc (K.ints.alloc hEL_ _) _) x1; have F2_1 := K.ints.ext (K.ints.alloc (K.ints.alloc hER_ _) _) x1; have F3_1 := K.recs.ext (K.recs.alloc (K.recs.alloc hxs_ _) _) x1; have F4_1 := K.ints.ext (K.ints.alloc (K.ints.alloc hGL_ _) _) x1; have F5_1 := K.ints.ext (K.ints.alloc (K.ints.alloc hGR_ _) _) x1; clear hEL_ hER_ hxs_ hGL_ hGR_)
    go_wp2_with (go_at_call 72; refine K.call (by with_reducible rfl) (by with_reducible rfl) (HR _ (F1_1) (F2_1) (F3_1)) ?_; rintro e w2 ⟨⟨p2, q2, b2, rfl, m2, m2_, g2, g2_⟩, x2⟩; obtain ⟨o2, k2, rfl, _⟩ := K.own.ints g2; obtain ⟨o2_, k2_, rfl, _⟩ := K.own.ints g2_; have F6_2 : K.own w2 (w1.heap.size) (b2) (.slice o2 M.1.L.pw.length k2) (M.1.L.pw) := g2.mono (by simp) (Nat.le_refl _); have F7_2 : K.own w2 (b2) (w2.heap.size) (.slice o2_ M.1.R.pw.length k2_) (M.1.R.pw) := g2_; (try simp at m2); clear g2 g2_; have s2 : w1.heap.size ≤ w2.heap.size := (by have h_ := x2.size; (try simp at h_); omega); have X2 := K.Ext.trans (X1) x2; obtain ⟨c2_0_0, c2_0_1, c2_0_2, c2_0_3, c2_0_4, c2_0_5, c2_0_6, c2_0_7⟩ := K.c8 x2 (w.heap.size) (.int .i64 E.L.dg) (.int .i64 E.L.tn) (.string E.L.nm) (.slice oEL E.L.pw.length cEL) (.int .i64 E.R.dg) (.int .i64 E.R.tn) (.string E.R.nm) (.slice oER E.R.pw.length cER) (by go_simp); have z2_0 : w.heap.size < w2.heap.size := World.block_lt_of_cell? w2 _ c2_0_0; have d2_0 : ¬ (w.heap.size = w2.heap.size) := (by omega); have e2_0 : ¬ (w2.heap.size = w.heap.size) := (by omega); obtain ⟨c2_1_0, c2_1_1, c2_1_2, c2_1_3, c2_1_4, c2_1_5, c2_1_6, c2_1_7⟩ := K.c8 x2 (w.heap.size + 1) (.int .i64 G.L.dg) (.int .i64 G.L.tn) (.string G.L.nm) (.slice oGL G.L.pw.length cGL) (.int .i64 G.R.dg) (.int .i64 G.R.tn) (.string G.R.nm) (.slice oGR G.R.pw.length cGR) (by go_simp); have z2_1 : w.heap.size + 1 < w2.heap.size := World.block_lt_of_cell? w2 _ c2_1_0; have d2_1 : ¬ (w.heap.size + 1 = w2.heap.size) := (by omega); have e2_1 : ¬ (w2.heap.size = w.heap.size + 1) := (by omega); have F1_2 := K.ints.ext (F1_1) x2; have F2_2 := K.ints.ext (F2_1) x2; have F3_2 := K.recs.ext (F3_1) x2; have F4_2 := K.ints.ext (F4_1) x2; have F5_2 := K.ints.ext (F5_1) x2; clear c1_0_0 c1_0_1 c1_0_2 c1_0_3 c1_0_4 c1_0_5 c1_0_6 c1_0_7 z1_0 d1_0 e1_0 c1_1_0 c1_1_1 c1_1_2 c1_1_3 c1_1_4 c1_1_5 c1_1_6 c1_1_7 z1_1 d1_1 e1_1 F1_1 F2_1 F3_1 F4_1 F5_1)
    rw [HE.out]
    refine bodyPost_ret (v := .tuple #[.bool false, .int .i64 M.2]) (by unfold results; rw [Try.results78]; go_simp) rfl ⟨rfl, ?_⟩
    repeat with_reducible refine K.Ext.setCell ?_ (by dsimp only; omega) _
    exact (by repeat' (first | with_reducible exact X2 | with_reducible refine K.Ext.setCell ?_ ?_ _ | with_reducible refine K.Ext.alloc ?_ _ | with_reducible refine K.Ext.drew ?_ | (dsimp only; omega) | omega | (simp; omega)))
  have hle : M.1.L.pw.length ≤ 1048576 ∧ M.1.L.nm.size ≤ 1048576 ∧ M.1.R.pw.length ≤ 1048576 ∧ M.1.R.nm.size ≤ 1048576 := by rw [hM]; exact Z.isEquation_le (Z.RunSteps_ok (by rw [← hM]; exact hz))
  obtain ⟨le1, le2, le3, le4⟩ := hle
  rw [if_pos hz] at HD
  clear hM
  cases v1 : Z.sameFm M.1.L G.L
  · have HE : Hid (Z.IsDerivation E xs G = (false, 0)) := Z.hide (by rw [HD.out, v1]; rfl)
    have HS : ∀ {a b c d : Nat} {p q : Value} (w : World), K.ints w a b p M.1.L.pw → K.ints w c d q G.L.pw → Calls Try.prog 154 #[.agg #[.int .i64 M.1.L.dg, .int .i64 M.1.L.tn, .string M.1.L.nm, p], .agg #[.int .i64 G.L.dg, .int .i64 G.L.tn, .string G.L.nm, q]] w fun e w' => e = .returned (.bool false) ∧ K.Ext w w' := fun w h h' => by rw [← v1]; exact sameFormula_any M.1.L G.L w le1 le2 h hmGL hnGL h'
    clear HD v1
    have X0 : K.Ext w w := K.Ext.refl w
    go_enter Try.func78, Try.ntmps78
    go_wp2_with (go_at_call 47; refine K.call (by with_reducible rfl) (by with_reducible rfl) (impl_IsEquation G _ hmGL hnGL hmGR hnGR (K.ints.alloc (K.ints.alloc hGL_ _) _) (K.ints.alloc (K.ints.alloc hGR_ _) _)) ?_; rintro e w1 ⟨rfl, x1⟩; have s1 : w.heap.size + 2 ≤ w1.heap.size := (by have h_ := x1.size; (try simp at h_); omega); have X1 := K.Ext.trans (K.Ext.alloc (K.Ext.alloc X0 _) _) x1; obtain ⟨c1_0_0, c1_0_1, c1_0_2, c1_0_3, c1_0_4, c1_0_5, c1_0_6, c1_0_7⟩ := K.c8 x1 (w.heap.size) (.int .i64 E.L.dg) (.int .i64 E.L.tn) (.string E.L.nm) (.slice oEL E.L.pw.length cEL) (.int .i64 E.R.dg) (.int .i64 E.R.tn) (.string E.R.nm) (.slice oER E.R.pw.length cER) (by go_simp); have z1_0 : w.heap.size < w1.heap.size := World.block_lt_of_cell? w1 _ c1_0_0; have d1_0 : ¬ (w.heap.size = w1.heap.size) := (by omega); have e1_0 : ¬ (w1.heap.size = w.heap.size) := (by omega); obtain ⟨c1_1_0, c1_1_1, c1_1_2, c1_1_3, c1_1_4, c1_1_5, c1_1_6, c1_1_7⟩ := K.c8 x1 (w.heap.size + 1) (.int .i64 G.L.dg) (.int .i64 G.L.tn) (.string G.L.nm) (.slice oGL G.L.pw.length cGL) (.int .i64 G.R.dg) (.int .i64 G.R.tn) (.string G.R.nm) (.slice oGR G.R.pw.length cGR) (by go_simp); have z1_1 : w.heap.size + 1 < w1.heap.size := World.block_lt_of_cell? w1 _ c1_1_0; have d1_1 : ¬ (w.heap.size + 1 = w1.heap.size) := (by omega); have e1_1 : ¬ (w1.heap.size = w.heap.size + 1) := (by omega); have n1_0 : ¬ (w.heap.size + 1 = w.heap.size) := (by omega); have n0_1 : ¬ (w.heap.size = w.heap.size + 1) := (by omega); have F1_1 := K.ints.ext (K.ints.alloc (K.ints.alloc hEL_ _) _) x1; have F2_1 := K.ints.ext (K.ints.alloc (K.ints.alloc hER_ _) _) x1; have F3_1 := K.recs.ext (K.recs.alloc (K.recs.alloc hxs_ _) _) x1; have F4_1 := K.ints.ext (K.ints.alloc (K.ints.alloc hGL_ _) _) x1; have F5_1 := K.ints.ext (K.ints.alloc (K.ints.alloc hGR_ _) _) x1; clear hEL_ hER_ hxs_ hGL_ hGR_)
    go_wp2_with (go_at_call 72; refine K.call (by with_reducible rfl) (by with_reducible rfl) (HR _ (F1_1) (F2_1) (F3_1)) ?_; rintro e w2 ⟨⟨p2, q2, b2, rfl, m2, m2_, g2, g2_⟩, x2⟩; obtain ⟨o2, k2, rfl, _⟩ := K.own.ints g2; obtain ⟨o2_, k2_, rfl, _⟩ := K.own.ints g2_; have F6_2 : K.own w2 (w1.heap.size) (b2) (.slice o2 M.1.L.pw.length k2) (M.1.L.pw) := g2.mono (by simp) (Nat.le_refl _); have F7_2 : K.own w2 (b2) (w2.heap.size) (.slice o2_ M.1.R.pw.length k2_) (M.1.R.pw) := g2_; (try simp at m2); clear g2 g2_; have s2 : w1.heap.size ≤ w2.heap.size := (by have h_ := x2.size; (try simp at h_); omega); have X2 := K.Ext.trans (X1) x2; obtain ⟨c2_0_0, c2_0_1, c2_0_2, c2_0_3, c2_0_4, c2_0_5, c2_0_6, c2_0_7⟩ := K.c8 x2 (w.heap.size) (.int .i64 E.L.dg) (.int .i64 E.L.tn) (.string E.L.nm) (.slice oEL E.L.pw.length cEL) (.int .i64 E.R.dg) (.int .i64 E.R.tn) (.string E.R.nm) (.slice oER E.R.pw.length cER) (by go_simp); have z2_0 : w.heap.size < w2.heap.size := World.block_lt_of_cell? w2 _ c2_0_0; have d2_0 : ¬ (w.heap.size = w2.heap.size) := (by omega); have e2_0 : ¬ (w2.heap.size = w.heap.size) := (by omega); obtain ⟨c2_1_0, c2_1_1, c2_1_2, c2_1_3, c2_1_4, c2_1_5, c2_1_6, c2_1_7⟩ := K.c8 x2 (w.heap.size + 1) (.int .i64 G.L.dg) (.int .i64 G.L.tn) (.string G.L.nm) (.slice oGL G.L.pw.length cGL) (.int .i64 G.R.dg) (.int .i64 G.R.tn) (.string G.R.nm) (.slice oGR G.R.pw.length cGR) (by go_simp); have z2_1 : w.heap.size + 1 < w2.heap.size := World.block_lt_of_cell? w2 _ c2_1_0; have d2_1 : ¬ (w.heap.size + 1 = w2.heap.size) := (by omega); have e2_1 : ¬ (w2.heap.size = w.heap.size + 1) := (by omega); have F1_2 := K.ints.ext (F1_1) x2; have F2_2 := K.ints.ext (F2_1) x2; have F3_2 := K.recs.ext (F3_1) x2; have F4_2 := K.ints.ext (F4_1) x2; have F5_2 := K.ints.ext (F5_1) x2; clear c1_0_0 c1_0_1 c1_0_2 c1_0_3 c1_0_4 c1_0_5 c1_0_6 c1_0_7 z1_0 d1_0 e1_0 c1_1_0 c1_1_1 c1_1_2 c1_1_3 c1_1_4 c1_1_5 c1_1_6 c1_1_7 z1_1 d1_1 e1_1 F1_1 F2_1 F3_1 F4_1 F5_1)
    go_wp2_with (go_at_call 154; refine K.call (by with_reducible rfl) (by with_reducible rfl) (HS _ (K.own.ints (K.own.alloc F6_2 _)) (K.ints.alloc F4_2 _)) ?_; rintro e w3 ⟨rfl, x3⟩; have s3 : w2.heap.size + 1 ≤ w3.heap.size := (by have h_ := x3.size; (try simp at h_); omega); have X3 := K.Ext.trans (K.Ext.alloc X2 _) x3; obtain ⟨c3_0_0, c3_0_1, c3_0_2, c3_0_3, c3_0_4, c3_0_5, c3_0_6, c3_0_7⟩ := K.c8 x3 (w.heap.size) (.int .i64 E.L.dg) (.int .i64 E.L.tn) (.string E.L.nm) (.slice oEL E.L.pw.length cEL) (.int .i64 E.R.dg) (.int .i64 E.R.tn) (.string E.R.nm) (.slice oER E.R.pw.length cER) (by go_simp); have z3_0 : w.heap.size < w3.heap.size := World.block_lt_of_cell? w3 _ c3_0_0; have d3_0 : ¬ (w.heap.size = w3.heap.size) := (by omega); have e3_0 : ¬ (w3.heap.size = w.heap.size) := (by omega); obtain ⟨c3_1_0, c3_1_1, c3_1_2, c3_1_3, c3_1_4, c3_1_5, c3_1_6, c3_1_7⟩ := K.c8 x3 (w.heap.size + 1) (.int .i64 G.L.dg) (.int .i64 G.L.tn) (.string G.L.nm) (.slice oGL G.L.pw.length cGL) (.int .i64 G.R.dg) (.int .i64 G.R.tn) (.string G.R.nm) (.slice oGR G.R.pw.length cGR) (by go_simp); have z3_1 : w.heap.size + 1 < w3.heap.size := World.block_lt_of_cell? w3 _ c3_1_0; have d3_1 : ¬ (w.heap.size + 1 = w3.heap.size) := (by omega); have e3_1 : ¬ (w3.heap.size = w.heap.size + 1) := (by omega); obtain ⟨c3_2_0, c3_2_1, c3_2_2, c3_2_3, c3_2_4, c3_2_5, c3_2_6, c3_2_7⟩ := K.c8 x3 (w2.heap.size) (.int .i64 M.1.L.dg) (.int .i64 M.1.L.tn) (.string M.1.L.nm) (.slice o2 M.1.L.pw.length k2) (.int .i64 M.1.R.dg) (.int .i64 M.1.R.tn) (.string M.1.R.nm) (.slice o2_ M.1.R.pw.length k2_) (by go_simp); obtain ⟨f3_2_0, f3_2_1, f3_2_2, f3_2_3, f3_2_4, f3_2_5, f3_2_6, f3_2_7⟩ := K.f8 x3 (w2.heap.size) (by go_simp); have z3_2 : w2.heap.size < w3.heap.size := World.block_lt_of_cell? w3 _ c3_2_0; have d3_2 : ¬ (w2.heap.size = w3.heap.size) := (by omega); have e3_2 : ¬ (w3.heap.size = w2.heap.size) := (by omega); have n2_0 : ¬ (w2.heap.size = w.heap.size) := (by omega); have n0_2 : ¬ (w.heap.size = w2.heap.size) := (by omega); have n2_1 : ¬ (w2.heap.size = w.heap.size + 1) := (by omega); have n1_2 : ¬ (w.heap.size + 1 = w2.heap.size) := (by omega); have F1_3 := K.ints.ext (K.ints.alloc F1_2 _) x3; have F2_3 := K.ints.ext (K.ints.alloc F2_2 _) x3; have F3_3 := K.recs.ext (K.recs.alloc F3_2 _) x3; have F4_3 := K.ints.ext (K.ints.alloc F4_2 _) x3; have F5_3 := K.ints.ext (K.ints.alloc F5_2 _) x3; have F6_3 := K.own.ext (K.own.alloc F6_2 _) x3; have F7_3 := K.own.ext (K.own.alloc F7_2 _) x3; clear c2_0_0 c2_0_1 c2_0_2 c2_0_3 c2_0_4 c2_0_5 c2_0_6 c2_0_7 z2_0 d2_0 e2_0 c2_1_0 c2_1_1 c2_1_2 c2_1_3 c2_1_4 c2_1_5 c2_1_6 c2_1_7 z2_1 d2_1 e2_1 F1_2 F2_2 F3_2 F4_2 F5_2 F6_2 F7_2)
    rw [HE.out]
    refine bodyPost_ret (v := .tuple #[.bool false, .int .i64 0]) (by unfold results; rw [Try.results78]; go_simp) rfl ⟨rfl, ?_⟩
    repeat with_reducible refine K.Ext.setCell ?_ (by dsimp only; omega) _
    exact (by repeat' (first | with_reducible exact X3 | with_reducible refine K.Ext.setCell ?_ ?_ _ | with_reducible refine K.Ext.alloc ?_ _ | with_reducible refine K.Ext.drew ?_ | (dsimp only; omega) | omega | (simp; omega)))
  · have HE : Hid (Z.IsDerivation E xs G = (Z.sameFm M.1.R G.R, 0)) := Z.hide (by rw [HD.out, v1]; rfl)
    have HS : ∀ {a b c d : Nat} {p q : Value} (w : World), K.ints w a b p M.1.L.pw → K.ints w c d q G.L.pw → Calls Try.prog 154 #[.agg #[.int .i64 M.1.L.dg, .int .i64 M.1.L.tn, .string M.1.L.nm, p], .agg #[.int .i64 G.L.dg, .int .i64 G.L.tn, .string G.L.nm, q]] w fun e w' => e = .returned (.bool true) ∧ K.Ext w w' := fun w h h' => by rw [← v1]; exact sameFormula_any M.1.L G.L w le1 le2 h hmGL hnGL h'
    clear HD v1
    have X0 : K.Ext w w := K.Ext.refl w
    go_enter Try.func78, Try.ntmps78
    go_wp2_with (go_at_call 47; refine K.call (by with_reducible rfl) (by with_reducible rfl) (impl_IsEquation G _ hmGL hnGL hmGR hnGR (K.ints.alloc (K.ints.alloc hGL_ _) _) (K.ints.alloc (K.ints.alloc hGR_ _) _)) ?_; rintro e w1 ⟨rfl, x1⟩; have s1 : w.heap.size + 2 ≤ w1.heap.size := (by have h_ := x1.size; (try simp at h_); omega); have X1 := K.Ext.trans (K.Ext.alloc (K.Ext.alloc X0 _) _) x1; obtain ⟨c1_0_0, c1_0_1, c1_0_2, c1_0_3, c1_0_4, c1_0_5, c1_0_6, c1_0_7⟩ := K.c8 x1 (w.heap.size) (.int .i64 E.L.dg) (.int .i64 E.L.tn) (.string E.L.nm) (.slice oEL E.L.pw.length cEL) (.int .i64 E.R.dg) (.int .i64 E.R.tn) (.string E.R.nm) (.slice oER E.R.pw.length cER) (by go_simp); have z1_0 : w.heap.size < w1.heap.size := World.block_lt_of_cell? w1 _ c1_0_0; have d1_0 : ¬ (w.heap.size = w1.heap.size) := (by omega); have e1_0 : ¬ (w1.heap.size = w.heap.size) := (by omega); obtain ⟨c1_1_0, c1_1_1, c1_1_2, c1_1_3, c1_1_4, c1_1_5, c1_1_6, c1_1_7⟩ := K.c8 x1 (w.heap.size + 1) (.int .i64 G.L.dg) (.int .i64 G.L.tn) (.string G.L.nm) (.slice oGL G.L.pw.length cGL) (.int .i64 G.R.dg) (.int .i64 G.R.tn) (.string G.R.nm) (.slice oGR G.R.pw.length cGR) (by go_simp); have z1_1 : w.heap.size + 1 < w1.heap.size := World.block_lt_of_cell? w1 _ c1_1_0; have d1_1 : ¬ (w.heap.size + 1 = w1.heap.size) := (by omega); have e1_1 : ¬ (w1.heap.size = w.heap.size + 1) := (by omega); have n1_0 : ¬ (w.heap.size + 1 = w.heap.size) := (by omega); have n0_1 : ¬ (w.heap.size = w.heap.size + 1) := (by omega); have F1_1 := K.ints.ext (K.ints.alloc (K.ints.alloc hEL_ _) _) x1; have F2_1 := K.ints.ext (K.ints.alloc (K.ints.alloc hER_ _) _) x1; have F3_1 := K.recs.ext (K.recs.alloc (K.recs.alloc hxs_ _) _) x1; have F4_1 := K.ints.ext (K.ints.alloc (K.ints.alloc hGL_ _) _) x1; have F5_1 := K.ints.ext (K.ints.alloc (K.ints.alloc hGR_ _) _) x1; clear hEL_ hER_ hxs_ hGL_ hGR_)
    go_wp2_with (go_at_call 72; refine K.call (by with_reducible rfl) (by with_reducible rfl) (HR _ (F1_1) (F2_1) (F3_1)) ?_; rintro e w2 ⟨⟨p2, q2, b2, rfl, m2, m2_, g2, g2_⟩, x2⟩; obtain ⟨o2, k2, rfl, _⟩ := K.own.ints g2; obtain ⟨o2_, k2_, rfl, _⟩ := K.own.ints g2_; have F6_2 : K.own w2 (w1.heap.size) (b2) (.slice o2 M.1.L.pw.length k2) (M.1.L.pw) := g2.mono (by simp) (Nat.le_refl _); have F7_2 : K.own w2 (b2) (w2.heap.size) (.slice o2_ M.1.R.pw.length k2_) (M.1.R.pw) := g2_; (try simp at m2); clear g2 g2_; have s2 : w1.heap.size ≤ w2.heap.size := (by have h_ := x2.size; (try simp at h_); omega); have X2 := K.Ext.trans (X1) x2; obtain ⟨c2_0_0, c2_0_1, c2_0_2, c2_0_3, c2_0_4, c2_0_5, c2_0_6, c2_0_7⟩ := K.c8 x2 (w.heap.size) (.int .i64 E.L.dg) (.int .i64 E.L.tn) (.string E.L.nm) (.slice oEL E.L.pw.length cEL) (.int .i64 E.R.dg) (.int .i64 E.R.tn) (.string E.R.nm) (.slice oER E.R.pw.length cER) (by go_simp); have z2_0 : w.heap.size < w2.heap.size := World.block_lt_of_cell? w2 _ c2_0_0; have d2_0 : ¬ (w.heap.size = w2.heap.size) := (by omega); have e2_0 : ¬ (w2.heap.size = w.heap.size) := (by omega); obtain ⟨c2_1_0, c2_1_1, c2_1_2, c2_1_3, c2_1_4, c2_1_5, c2_1_6, c2_1_7⟩ := K.c8 x2 (w.heap.size + 1) (.int .i64 G.L.dg) (.int .i64 G.L.tn) (.string G.L.nm) (.slice oGL G.L.pw.length cGL) (.int .i64 G.R.dg) (.int .i64 G.R.tn) (.string G.R.nm) (.slice oGR G.R.pw.length cGR) (by go_simp); have z2_1 : w.heap.size + 1 < w2.heap.size := World.block_lt_of_cell? w2 _ c2_1_0; have d2_1 : ¬ (w.heap.size + 1 = w2.heap.size) := (by omega); have e2_1 : ¬ (w2.heap.size = w.heap.size + 1) := (by omega); have F1_2 := K.ints.ext (F1_1) x2; have F2_2 := K.ints.ext (F2_1) x2; have F3_2 := K.recs.ext (F3_1) x2; have F4_2 := K.ints.ext (F4_1) x2; have F5_2 := K.ints.ext (F5_1) x2; clear c1_0_0 c1_0_1 c1_0_2 c1_0_3 c1_0_4 c1_0_5 c1_0_6 c1_0_7 z1_0 d1_0 e1_0 c1_1_0 c1_1_1 c1_1_2 c1_1_3 c1_1_4 c1_1_5 c1_1_6 c1_1_7 z1_1 d1_1 e1_1 F1_1 F2_1 F3_1 F4_1 F5_1)
    go_wp2_with (go_at_call 154; refine K.call (by with_reducible rfl) (by with_reducible rfl) (HS _ (K.own.ints (K.own.alloc F6_2 _)) (K.ints.alloc F4_2 _)) ?_; rintro e w3 ⟨rfl, x3⟩; have s3 : w2.heap.size + 1 ≤ w3.heap.size := (by have h_ := x3.size; (try simp at h_); omega); have X3 := K.Ext.trans (K.Ext.alloc X2 _) x3; obtain ⟨c3_0_0, c3_0_1, c3_0_2, c3_0_3, c3_0_4, c3_0_5, c3_0_6, c3_0_7⟩ := K.c8 x3 (w.heap.size) (.int .i64 E.L.dg) (.int .i64 E.L.tn) (.string E.L.nm) (.slice oEL E.L.pw.length cEL) (.int .i64 E.R.dg) (.int .i64 E.R.tn) (.string E.R.nm) (.slice oER E.R.pw.length cER) (by go_simp); have z3_0 : w.heap.size < w3.heap.size := World.block_lt_of_cell? w3 _ c3_0_0; have d3_0 : ¬ (w.heap.size = w3.heap.size) := (by omega); have e3_0 : ¬ (w3.heap.size = w.heap.size) := (by omega); obtain ⟨c3_1_0, c3_1_1, c3_1_2, c3_1_3, c3_1_4, c3_1_5, c3_1_6, c3_1_7⟩ := K.c8 x3 (w.heap.size + 1) (.int .i64 G.L.dg) (.int .i64 G.L.tn) (.string G.L.nm) (.slice oGL G.L.pw.length cGL) (.int .i64 G.R.dg) (.int .i64 G.R.tn) (.string G.R.nm) (.slice oGR G.R.pw.length cGR) (by go_simp); have z3_1 : w.heap.size + 1 < w3.heap.size := World.block_lt_of_cell? w3 _ c3_1_0; have d3_1 : ¬ (w.heap.size + 1 = w3.heap.size) := (by omega); have e3_1 : ¬ (w3.heap.size = w.heap.size + 1) := (by omega); obtain ⟨c3_2_0, c3_2_1, c3_2_2, c3_2_3, c3_2_4, c3_2_5, c3_2_6, c3_2_7⟩ := K.c8 x3 (w2.heap.size) (.int .i64 M.1.L.dg) (.int .i64 M.1.L.tn) (.string M.1.L.nm) (.slice o2 M.1.L.pw.length k2) (.int .i64 M.1.R.dg) (.int .i64 M.1.R.tn) (.string M.1.R.nm) (.slice o2_ M.1.R.pw.length k2_) (by go_simp); obtain ⟨f3_2_0, f3_2_1, f3_2_2, f3_2_3, f3_2_4, f3_2_5, f3_2_6, f3_2_7⟩ := K.f8 x3 (w2.heap.size) (by go_simp); have z3_2 : w2.heap.size < w3.heap.size := World.block_lt_of_cell? w3 _ c3_2_0; have d3_2 : ¬ (w2.heap.size = w3.heap.size) := (by omega); have e3_2 : ¬ (w3.heap.size = w2.heap.size) := (by omega); have n2_0 : ¬ (w2.heap.size = w.heap.size) := (by omega); have n0_2 : ¬ (w.heap.size = w2.heap.size) := (by omega); have n2_1 : ¬ (w2.heap.size = w.heap.size + 1) := (by omega); have n1_2 : ¬ (w.heap.size + 1 = w2.heap.size) := (by omega); have F1_3 := K.ints.ext (K.ints.alloc F1_2 _) x3; have F2_3 := K.ints.ext (K.ints.alloc F2_2 _) x3; have F3_3 := K.recs.ext (K.recs.alloc F3_2 _) x3; have F4_3 := K.ints.ext (K.ints.alloc F4_2 _) x3; have F5_3 := K.ints.ext (K.ints.alloc F5_2 _) x3; have F6_3 := K.own.ext (K.own.alloc F6_2 _) x3; have F7_3 := K.own.ext (K.own.alloc F7_2 _) x3; clear c2_0_0 c2_0_1 c2_0_2 c2_0_3 c2_0_4 c2_0_5 c2_0_6 c2_0_7 z2_0 d2_0 e2_0 c2_1_0 c2_1_1 c2_1_2 c2_1_3 c2_1_4 c2_1_5 c2_1_6 c2_1_7 z2_1 d2_1 e2_1 F1_2 F2_2 F3_2 F4_2 F5_2 F6_2 F7_2)
    go_wp2_with (go_at_call 154; refine K.call (by with_reducible rfl) (by with_reducible rfl) (sameFormula_any M.1.R G.R _ le3 le4 (K.own.ints (F7_3)) hmGR hnGR (F5_3)) ?_; rintro e w4 ⟨rfl, x4⟩; have s4 : w3.heap.size ≤ w4.heap.size := (by have h_ := x4.size; (try simp at h_); omega); have X4 := K.Ext.trans (X3) x4; obtain ⟨c4_0_0, c4_0_1, c4_0_2, c4_0_3, c4_0_4, c4_0_5, c4_0_6, c4_0_7⟩ := K.c8 x4 (w.heap.size) (.int .i64 E.L.dg) (.int .i64 E.L.tn) (.string E.L.nm) (.slice oEL E.L.pw.length cEL) (.int .i64 E.R.dg) (.int .i64 E.R.tn) (.string E.R.nm) (.slice oER E.R.pw.length cER) (by go_simp); have z4_0 : w.heap.size < w4.heap.size := World.block_lt_of_cell? w4 _ c4_0_0; have d4_0 : ¬ (w.heap.size = w4.heap.size) := (by omega); have e4_0 : ¬ (w4.heap.size = w.heap.size) := (by omega); obtain ⟨c4_1_0, c4_1_1, c4_1_2, c4_1_3, c4_1_4, c4_1_5, c4_1_6, c4_1_7⟩ := K.c8 x4 (w.heap.size + 1) (.int .i64 G.L.dg) (.int .i64 G.L.tn) (.string G.L.nm) (.slice oGL G.L.pw.length cGL) (.int .i64 G.R.dg) (.int .i64 G.R.tn) (.string G.R.nm) (.slice oGR G.R.pw.length cGR) (by go_simp); have z4_1 : w.heap.size + 1 < w4.heap.size := World.block_lt_of_cell? w4 _ c4_1_0; have d4_1 : ¬ (w.heap.size + 1 = w4.heap.size) := (by omega); have e4_1 : ¬ (w4.heap.size = w.heap.size + 1) := (by omega); obtain ⟨c4_2_0, c4_2_1, c4_2_2, c4_2_3, c4_2_4, c4_2_5, c4_2_6, c4_2_7⟩ := K.c8 x4 (w2.heap.size) (.int .i64 M.1.L.dg) (.int .i64 M.1.L.tn) (.string M.1.L.nm) (.slice o2 M.1.L.pw.length k2) (.int .i64 M.1.R.dg) (.int .i64 M.1.R.tn) (.string M.1.R.nm) (.slice o2_ M.1.R.pw.length k2_) (by go_simp); obtain ⟨f4_2_0, f4_2_1, f4_2_2, f4_2_3, f4_2_4, f4_2_5, f4_2_6, f4_2_7⟩ := K.f8 x4 (w2.heap.size) (by go_simp); have z4_2 : w2.heap.size < w4.heap.size := World.block_lt_of_cell? w4 _ c4_2_0; have d4_2 : ¬ (w2.heap.size = w4.heap.size) := (by omega); have e4_2 : ¬ (w4.heap.size = w2.heap.size) := (by omega); have F1_4 := K.ints.ext (F1_3) x4; have F2_4 := K.ints.ext (F2_3) x4; have F3_4 := K.recs.ext (F3_3) x4; have F4_4 := K.ints.ext (F4_3) x4; have F5_4 := K.ints.ext (F5_3) x4; have F6_4 := K.own.ext (F6_3) x4; have F7_4 := K.own.ext (F7_3) x4; clear c3_0_0 c3_0_1 c3_0_2 c3_0_3 c3_0_4 c3_0_5 c3_0_6 c3_0_7 z3_0 d3_0 e3_0 c3_1_0 c3_1_1 c3_1_2 c3_1_3 c3_1_4 c3_1_5 c3_1_6 c3_1_7 z3_1 d3_1 e3_1 c3_2_0 c3_2_1 c3_2_2 c3_2_3 c3_2_4 c3_2_5 c3_2_6 c3_2_7 f3_2_0 f3_2_1 f3_2_2 f3_2_3 f3_2_4 f3_2_5 f3_2_6 f3_2_7 z3_2 d3_2 e3_2 F1_3 F2_3 F3_3 F4_3 F5_3 F6_3 F7_3)
    rw [HE.out]
    refine bodyPost_ret (v := .tuple #[.bool (Z.sameFm M.1.R G.R), .int .i64 0]) (by unfold results; rw [Try.results78]; go_simp) rfl ⟨rfl, ?_⟩
    repeat with_reducible refine K.Ext.setCell ?_ (by dsimp only; omega) _
    exact (by repeat' (first | with_reducible exact X4 | with_reducible refine K.Ext.setCell ?_ ?_ _ | with_reducible refine K.Ext.alloc ?_ _ | with_reducible refine K.Ext.drew ?_ | (dsimp only; omega) | omega | (simp; omega)))
set_option maxHeartbeats 6400000 in
theorem spec_IsDerivation (E : Z.Eqn) (xs : List (Z.St)) (G : Z.Eqn) {loEL hiEL loER hiER : Nat} {pEL pER : Value} {loxs hixs : Nat} {pxs : Value} {loGL hiGL loGR hiGR : Nat} {pGL pGR : Value} (w : World)  (hmEL : E.L.pw.length ≤ 1048576) (hnEL : E.L.nm.size ≤ 1048576) (hmER : E.R.pw.length ≤ 1048576) (hnER : E.R.nm.size ≤ 1048576) (hEL : K.ints w loEL hiEL pEL E.L.pw) (hER : K.ints w loER hiER pER E.R.pw) (hmxs : xs.length ≤ 1048576) (hxs : K.recs false K.StR w loxs hixs pxs xs) (hmGL : G.L.pw.length ≤ 1048576) (hnGL : G.L.nm.size ≤ 1048576) (hmGR : G.R.pw.length ≤ 1048576) (hnGR : G.R.nm.size ≤ 1048576) (hGL : K.ints w loGL hiGL pGL G.L.pw) (hGR : K.ints w loGR hiGR pGR G.R.pw) :
    Calls Try.prog 79 #[.agg #[.int .i64 E.L.dg, .int .i64 E.L.tn, .string E.L.nm, pEL, .int .i64 E.R.dg, .int .i64 E.R.tn, .string E.R.nm, pER], pxs, .agg #[.int .i64 G.L.dg, .int .i64 G.L.tn, .string G.L.nm, pGL, .int .i64 G.R.dg, .int .i64 G.R.tn, .string G.R.nm, pGR]] w fun e w' => e = .returned (.tuple #[.bool ((Z.IsDerivation E xs G).1), .int .i64 ((Z.IsDerivation E xs G).2)]) ∧ K.Ext w w' := by
  have hEL_ := hEL
  have shEL := hEL
  obtain ⟨oEL, cEL, rfl, _⟩ := shEL
  have hER_ := hER
  have shER := hER
  obtain ⟨oER, cER, rfl, _⟩ := shER
  have hxs_ := hxs
  have shxs := hxs
  obtain ⟨oxs, cxs, rfl, _⟩ := shxs
  have hGL_ := hGL
  have shGL := hGL
  obtain ⟨oGL, cGL, rfl, _⟩ := shGL
  have hGR_ := hGR
  have shGR := hGR
  obtain ⟨oGR, cGR, rfl, _⟩ := shGR
  obtain ⟨c, hc⟩ : ∃ c, c = Z.stCode xs := ⟨_, rfl⟩
  have HCd : ∀ {a b : Nat} {v : Value} (w : World), K.recs false K.StR w a b v xs → Calls Try.prog 150 #[v] w fun e w' => e = .returned (.int .i64 c) ∧ K.Ext w w' := fun w h => by rw [hc]; exact l21Code_any xs w hmxs h
  cases vE : Z.isEquation E
  · have HE : Hid (Z.IsDerivation E xs G = (false, 1)) := Z.hide (by unfold Z.IsDerivation; rw [Z.RunSteps_bad xs vE]; split <;> rfl)
    clear hc
    have X0 : K.Ext w w := K.Ext.refl w
    go_enter Try.func79, Try.ntmps79
    go_wp2_with (go_at_call 150; refine K.call (by with_reducible rfl) (by with_reducible rfl) (HCd _ (K.recs.alloc (K.recs.alloc hxs_ _) _)) ?_; rintro e w1 ⟨rfl, x1⟩; have s1 : w.heap.size + 2 ≤ w1.heap.size := (by have h_ := x1.size; (try simp at h_); omega); have X1 := K.Ext.trans (K.Ext.alloc (K.Ext.alloc X0 _) _) x1; obtain ⟨c1_0_0, c1_0_1, c1_0_2, c1_0_3, c1_0_4, c1_0_5, c1_0_6, c1_0_7⟩ := K.c8 x1 (w.heap.size) (.int .i64 E.L.dg) (.int .i64 E.L.tn) (.string E.L.nm) (.slice oEL E.L.pw.length cEL) (.int .i64 E.R.dg) (.int .i64 E.R.tn) (.string E.R.nm) (.slice oER E.R.pw.length cER) (by go_simp); have z1_0 : w.heap.size < w1.heap.size := World.block_lt_of_cell? w1 _ c1_0_0; have d1_0 : ¬ (w.heap.size = w1.heap.size) := (by omega); have e1_0 : ¬ (w1.heap.size = w.heap.size) := (by omega); obtain ⟨c1_1_0, c1_1_1, c1_1_2, c1_1_3, c1_1_4, c1_1_5, c1_1_6, c1_1_7⟩ := K.c8 x1 (w.heap.size + 1) (.int .i64 G.L.dg) (.int .i64 G.L.tn) (.string G.L.nm) (.slice oGL G.L.pw.length cGL) (.int .i64 G.R.dg) (.int .i64 G.R.tn) (.string G.R.nm) (.slice oGR G.R.pw.length cGR) (by go_simp); have z1_1 : w.heap.size + 1 < w1.heap.size := World.block_lt_of_cell? w1 _ c1_1_0; have d1_1 : ¬ (w.heap.size + 1 = w1.heap.size) := (by omega); have e1_1 : ¬ (w1.heap.size = w.heap.size + 1) := (by omega); have n1_0 : ¬ (w.heap.size + 1 = w.heap.size) := (by omega); have n0_1 : ¬ (w.heap.size = w.heap.size + 1) := (by omega); have F1_1 := K.ints.ext (K.ints.alloc (K.ints.alloc hEL_ _) _) x1; have F2_1 := K.ints.ext (K.ints.alloc (K.ints.alloc hER_ _) _) x1; have F3_1 := K.recs.ext (K.recs.alloc (K.recs.alloc hxs_ _) _) x1; have F4_1 := K.ints.ext (K.ints.alloc (K.ints.alloc hGL_ _) _) x1; have F5_1 := K.ints.ext (K.ints.alloc (K.ints.alloc hGR_ _) _) x1; clear hEL_ hER_ hxs_ hGL_ hGR_)
    go_wp2_with (go_at_call 116; refine K.call (by with_reducible rfl) (by with_reducible rfl) (spec_IsEquation E _ hmEL hnEL hmER hnER (F1_1) (F2_1)) ?_; rintro e w2 ⟨rfl, x2⟩; have s2 : w1.heap.size ≤ w2.heap.size := (by have h_ := x2.size; (try simp at h_); omega); have X2 := K.Ext.trans (X1) x2; obtain ⟨c2_0_0, c2_0_1, c2_0_2, c2_0_3, c2_0_4, c2_0_5, c2_0_6, c2_0_7⟩ := K.c8 x2 (w.heap.size) (.int .i64 E.L.dg) (.int .i64 E.L.tn) (.string E.L.nm) (.slice oEL E.L.pw.length cEL) (.int .i64 E.R.dg) (.int .i64 E.R.tn) (.string E.R.nm) (.slice oER E.R.pw.length cER) (by go_simp); have z2_0 : w.heap.size < w2.heap.size := World.block_lt_of_cell? w2 _ c2_0_0; have d2_0 : ¬ (w.heap.size = w2.heap.size) := (by omega); have e2_0 : ¬ (w2.heap.size = w.heap.size) := (by omega); obtain ⟨c2_1_0, c2_1_1, c2_1_2, c2_1_3, c2_1_4, c2_1_5, c2_1_6, c2_1_7⟩ := K.c8 x2 (w.heap.size + 1) (.int .i64 G.L.dg) (.int .i64 G.L.tn) (.string G.L.nm) (.slice oGL G.L.pw.length cGL) (.int .i64 G.R.dg) (.int .i64 G.R.tn) (.string G.R.nm) (.slice oGR G.R.pw.length cGR) (by go_simp); have z2_1 : w.heap.size + 1 < w2.heap.size := World.block_lt_of_cell? w2 _ c2_1_0; have d2_1 : ¬ (w.heap.size + 1 = w2.heap.size) := (by omega); have e2_1 : ¬ (w2.heap.size = w.heap.size + 1) := (by omega); have F1_2 := K.ints.ext (F1_1) x2; have F2_2 := K.ints.ext (F2_1) x2; have F3_2 := K.recs.ext (F3_1) x2; have F4_2 := K.ints.ext (F4_1) x2; have F5_2 := K.ints.ext (F5_1) x2; clear c1_0_0 c1_0_1 c1_0_2 c1_0_3 c1_0_4 c1_0_5 c1_0_6 c1_0_7 z1_0 d1_0 e1_0 c1_1_0 c1_1_1 c1_1_2 c1_1_3 c1_1_4 c1_1_5 c1_1_6 c1_1_7 z1_1 d1_1 e1_1 F1_1 F2_1 F3_1 F4_1 F5_1)
    rw [HE.out]
    refine bodyPost_ret (v := .tuple #[.bool false, .int .i64 1]) (by unfold results; rw [Try.results79]; go_simp) rfl ⟨rfl, ?_⟩
    repeat with_reducible refine K.Ext.setCell ?_ (by dsimp only; omega) _
    exact (by repeat' (first | with_reducible exact X2 | with_reducible refine K.Ext.setCell ?_ ?_ _ | with_reducible refine K.Ext.alloc ?_ _ | with_reducible refine K.Ext.drew ?_ | (dsimp only; omega) | omega | (simp; omega)))
  cases vG : Z.isEquation G
  · have HE : Hid (Z.IsDerivation E xs G = (false, 1)) := Z.hide (by unfold Z.IsDerivation; rw [vG]; rfl)
    clear hc
    have X0 : K.Ext w w := K.Ext.refl w
    go_enter Try.func79, Try.ntmps79
    go_wp2_with (go_at_call 150; refine K.call (by with_reducible rfl) (by with_reducible rfl) (HCd _ (K.recs.alloc (K.recs.alloc hxs_ _) _)) ?_; rintro e w1 ⟨rfl, x1⟩; have s1 : w.heap.size + 2 ≤ w1.heap.size := (by have h_ := x1.size; (try simp at h_); omega); have X1 := K.Ext.trans (K.Ext.alloc (K.Ext.alloc X0 _) _) x1; obtain ⟨c1_0_0, c1_0_1, c1_0_2, c1_0_3, c1_0_4, c1_0_5, c1_0_6, c1_0_7⟩ := K.c8 x1 (w.heap.size) (.int .i64 E.L.dg) (.int .i64 E.L.tn) (.string E.L.nm) (.slice oEL E.L.pw.length cEL) (.int .i64 E.R.dg) (.int .i64 E.R.tn) (.string E.R.nm) (.slice oER E.R.pw.length cER) (by go_simp); have z1_0 : w.heap.size < w1.heap.size := World.block_lt_of_cell? w1 _ c1_0_0; have d1_0 : ¬ (w.heap.size = w1.heap.size) := (by omega); have e1_0 : ¬ (w1.heap.size = w.heap.size) := (by omega); obtain ⟨c1_1_0, c1_1_1, c1_1_2, c1_1_3, c1_1_4, c1_1_5, c1_1_6, c1_1_7⟩ := K.c8 x1 (w.heap.size + 1) (.int .i64 G.L.dg) (.int .i64 G.L.tn) (.string G.L.nm) (.slice oGL G.L.pw.length cGL) (.int .i64 G.R.dg) (.int .i64 G.R.tn) (.string G.R.nm) (.slice oGR G.R.pw.length cGR) (by go_simp); have z1_1 : w.heap.size + 1 < w1.heap.size := World.block_lt_of_cell? w1 _ c1_1_0; have d1_1 : ¬ (w.heap.size + 1 = w1.heap.size) := (by omega); have e1_1 : ¬ (w1.heap.size = w.heap.size + 1) := (by omega); have n1_0 : ¬ (w.heap.size + 1 = w.heap.size) := (by omega); have n0_1 : ¬ (w.heap.size = w.heap.size + 1) := (by omega); have F1_1 := K.ints.ext (K.ints.alloc (K.ints.alloc hEL_ _) _) x1; have F2_1 := K.ints.ext (K.ints.alloc (K.ints.alloc hER_ _) _) x1; have F3_1 := K.recs.ext (K.recs.alloc (K.recs.alloc hxs_ _) _) x1; have F4_1 := K.ints.ext (K.ints.alloc (K.ints.alloc hGL_ _) _) x1; have F5_1 := K.ints.ext (K.ints.alloc (K.ints.alloc hGR_ _) _) x1; clear hEL_ hER_ hxs_ hGL_ hGR_)
    go_wp2_with (go_at_call 116; refine K.call (by with_reducible rfl) (by with_reducible rfl) (spec_IsEquation E _ hmEL hnEL hmER hnER (F1_1) (F2_1)) ?_; rintro e w2 ⟨rfl, x2⟩; have s2 : w1.heap.size ≤ w2.heap.size := (by have h_ := x2.size; (try simp at h_); omega); have X2 := K.Ext.trans (X1) x2; obtain ⟨c2_0_0, c2_0_1, c2_0_2, c2_0_3, c2_0_4, c2_0_5, c2_0_6, c2_0_7⟩ := K.c8 x2 (w.heap.size) (.int .i64 E.L.dg) (.int .i64 E.L.tn) (.string E.L.nm) (.slice oEL E.L.pw.length cEL) (.int .i64 E.R.dg) (.int .i64 E.R.tn) (.string E.R.nm) (.slice oER E.R.pw.length cER) (by go_simp); have z2_0 : w.heap.size < w2.heap.size := World.block_lt_of_cell? w2 _ c2_0_0; have d2_0 : ¬ (w.heap.size = w2.heap.size) := (by omega); have e2_0 : ¬ (w2.heap.size = w.heap.size) := (by omega); obtain ⟨c2_1_0, c2_1_1, c2_1_2, c2_1_3, c2_1_4, c2_1_5, c2_1_6, c2_1_7⟩ := K.c8 x2 (w.heap.size + 1) (.int .i64 G.L.dg) (.int .i64 G.L.tn) (.string G.L.nm) (.slice oGL G.L.pw.length cGL) (.int .i64 G.R.dg) (.int .i64 G.R.tn) (.string G.R.nm) (.slice oGR G.R.pw.length cGR) (by go_simp); have z2_1 : w.heap.size + 1 < w2.heap.size := World.block_lt_of_cell? w2 _ c2_1_0; have d2_1 : ¬ (w.heap.size + 1 = w2.heap.size) := (by omega); have e2_1 : ¬ (w2.heap.size = w.heap.size + 1) := (by omega); have F1_2 := K.ints.ext (F1_1) x2; have F2_2 := K.ints.ext (F2_1) x2; have F3_2 := K.recs.ext (F3_1) x2; have F4_2 := K.ints.ext (F4_1) x2; have F5_2 := K.ints.ext (F5_1) x2; clear c1_0_0 c1_0_1 c1_0_2 c1_0_3 c1_0_4 c1_0_5 c1_0_6 c1_0_7 z1_0 d1_0 e1_0 c1_1_0 c1_1_1 c1_1_2 c1_1_3 c1_1_4 c1_1_5 c1_1_6 c1_1_7 z1_1 d1_1 e1_1 F1_1 F2_1 F3_1 F4_1 F5_1)
    go_wp2_with (go_at_call 116; refine K.call (by with_reducible rfl) (by with_reducible rfl) (spec_IsEquation G _ hmGL hnGL hmGR hnGR (F4_2) (F5_2)) ?_; rintro e w3 ⟨rfl, x3⟩; have s3 : w2.heap.size ≤ w3.heap.size := (by have h_ := x3.size; (try simp at h_); omega); have X3 := K.Ext.trans (X2) x3; obtain ⟨c3_0_0, c3_0_1, c3_0_2, c3_0_3, c3_0_4, c3_0_5, c3_0_6, c3_0_7⟩ := K.c8 x3 (w.heap.size) (.int .i64 E.L.dg) (.int .i64 E.L.tn) (.string E.L.nm) (.slice oEL E.L.pw.length cEL) (.int .i64 E.R.dg) (.int .i64 E.R.tn) (.string E.R.nm) (.slice oER E.R.pw.length cER) (by go_simp); have z3_0 : w.heap.size < w3.heap.size := World.block_lt_of_cell? w3 _ c3_0_0; have d3_0 : ¬ (w.heap.size = w3.heap.size) := (by omega); have e3_0 : ¬ (w3.heap.size = w.heap.size) := (by omega); obtain ⟨c3_1_0, c3_1_1, c3_1_2, c3_1_3, c3_1_4, c3_1_5, c3_1_6, c3_1_7⟩ := K.c8 x3 (w.heap.size + 1) (.int .i64 G.L.dg) (.int .i64 G.L.tn) (.string G.L.nm) (.slice oGL G.L.pw.length cGL) (.int .i64 G.R.dg) (.int .i64 G.R.tn) (.string G.R.nm) (.slice oGR G.R.pw.length cGR) (by go_simp); have z3_1 : w.heap.size + 1 < w3.heap.size := World.block_lt_of_cell? w3 _ c3_1_0; have d3_1 : ¬ (w.heap.size + 1 = w3.heap.size) := (by omega); have e3_1 : ¬ (w3.heap.size = w.heap.size + 1) := (by omega); have F1_3 := K.ints.ext (F1_2) x3; have F2_3 := K.ints.ext (F2_2) x3; have F3_3 := K.recs.ext (F3_2) x3; have F4_3 := K.ints.ext (F4_2) x3; have F5_3 := K.ints.ext (F5_2) x3; clear c2_0_0 c2_0_1 c2_0_2 c2_0_3 c2_0_4 c2_0_5 c2_0_6 c2_0_7 z2_0 d2_0 e2_0 c2_1_0 c2_1_1 c2_1_2 c2_1_3 c2_1_4 c2_1_5 c2_1_6 c2_1_7 z2_1 d2_1 e2_1 F1_2 F2_2 F3_2 F4_2 F5_2)
    rw [HE.out]
    refine bodyPost_ret (v := .tuple #[.bool false, .int .i64 1]) (by unfold results; rw [Try.results79]; go_simp) rfl ⟨rfl, ?_⟩
    repeat with_reducible refine K.Ext.setCell ?_ (by dsimp only; omega) _
    exact (by repeat' (first | with_reducible exact X3 | with_reducible refine K.Ext.setCell ?_ ?_ _ | with_reducible refine K.Ext.alloc ?_ _ | with_reducible refine K.Ext.drew ?_ | (dsimp only; omega) | omega | (simp; omega)))
  by_cases hz0 : c = 0
  case neg =>
    have HE : Hid (Z.IsDerivation E xs G = (false, c)) := Z.hide (by have h1 := Z.RunSteps_code (l := xs) vE (by rw [← hc]; exact hz0); unfold Z.IsDerivation; rw [vG, h1, if_pos rfl, if_neg (by rw [← hc]; exact hz0), hc])
    clear hc
    have X0 : K.Ext w w := K.Ext.refl w
    go_enter Try.func79, Try.ntmps79
    go_wp2_with (go_at_call 150; refine K.call (by with_reducible rfl) (by with_reducible rfl) (HCd _ (K.recs.alloc (K.recs.alloc hxs_ _) _)) ?_; rintro e w1 ⟨rfl, x1⟩; have s1 : w.heap.size + 2 ≤ w1.heap.size := (by have h_ := x1.size; (try simp at h_); omega); have X1 := K.Ext.trans (K.Ext.alloc (K.Ext.alloc X0 _) _) x1; obtain ⟨c1_0_0, c1_0_1, c1_0_2, c1_0_3, c1_0_4, c1_0_5, c1_0_6, c1_0_7⟩ := K.c8 x1 (w.heap.size) (.int .i64 E.L.dg) (.int .i64 E.L.tn) (.string E.L.nm) (.slice oEL E.L.pw.length cEL) (.int .i64 E.R.dg) (.int .i64 E.R.tn) (.string E.R.nm) (.slice oER E.R.pw.length cER) (by go_simp); have z1_0 : w.heap.size < w1.heap.size := World.block_lt_of_cell? w1 _ c1_0_0; have d1_0 : ¬ (w.heap.size = w1.heap.size) := (by omega); have e1_0 : ¬ (w1.heap.size = w.heap.size) := (by omega); obtain ⟨c1_1_0, c1_1_1, c1_1_2, c1_1_3, c1_1_4, c1_1_5, c1_1_6, c1_1_7⟩ := K.c8 x1 (w.heap.size + 1) (.int .i64 G.L.dg) (.int .i64 G.L.tn) (.string G.L.nm) (.slice oGL G.L.pw.length cGL) (.int .i64 G.R.dg) (.int .i64 G.R.tn) (.string G.R.nm) (.slice oGR G.R.pw.length cGR) (by go_simp); have z1_1 : w.heap.size + 1 < w1.heap.size := World.block_lt_of_cell? w1 _ c1_1_0; have d1_1 : ¬ (w.heap.size + 1 = w1.heap.size) := (by omega); have e1_1 : ¬ (w1.heap.size = w.heap.size + 1) := (by omega); have n1_0 : ¬ (w.heap.size + 1 = w.heap.size) := (by omega); have n0_1 : ¬ (w.heap.size = w.heap.size + 1) := (by omega); have F1_1 := K.ints.ext (K.ints.alloc (K.ints.alloc hEL_ _) _) x1; have F2_1 := K.ints.ext (K.ints.alloc (K.ints.alloc hER_ _) _) x1; have F3_1 := K.recs.ext (K.recs.alloc (K.recs.alloc hxs_ _) _) x1; have F4_1 := K.ints.ext (K.ints.alloc (K.ints.alloc hGL_ _) _) x1; have F5_1 := K.ints.ext (K.ints.alloc (K.ints.alloc hGR_ _) _) x1; clear hEL_ hER_ hxs_ hGL_ hGR_)
    go_wp2_with (go_at_call 116; refine K.call (by with_reducible rfl) (by with_reducible rfl) (spec_IsEquation E _ hmEL hnEL hmER hnER (F1_1) (F2_1)) ?_; rintro e w2 ⟨rfl, x2⟩; have s2 : w1.heap.size ≤ w2.heap.size := (by have h_ := x2.size; (try simp at h_); omega); have X2 := K.Ext.trans (X1) x2; obtain ⟨c2_0_0, c2_0_1, c2_0_2, c2_0_3, c2_0_4, c2_0_5, c2_0_6, c2_0_7⟩ := K.c8 x2 (w.heap.size) (.int .i64 E.L.dg) (.int .i64 E.L.tn) (.string E.L.nm) (.slice oEL E.L.pw.length cEL) (.int .i64 E.R.dg) (.int .i64 E.R.tn) (.string E.R.nm) (.slice oER E.R.pw.length cER) (by go_simp); have z2_0 : w.heap.size < w2.heap.size := World.block_lt_of_cell? w2 _ c2_0_0; have d2_0 : ¬ (w.heap.size = w2.heap.size) := (by omega); have e2_0 : ¬ (w2.heap.size = w.heap.size) := (by omega); obtain ⟨c2_1_0, c2_1_1, c2_1_2, c2_1_3, c2_1_4, c2_1_5, c2_1_6, c2_1_7⟩ := K.c8 x2 (w.heap.size + 1) (.int .i64 G.L.dg) (.int .i64 G.L.tn) (.string G.L.nm) (.slice oGL G.L.pw.length cGL) (.int .i64 G.R.dg) (.int .i64 G.R.tn) (.string G.R.nm) (.slice oGR G.R.pw.length cGR) (by go_simp); have z2_1 : w.heap.size + 1 < w2.heap.size := World.block_lt_of_cell? w2 _ c2_1_0; have d2_1 : ¬ (w.heap.size + 1 = w2.heap.size) := (by omega); have e2_1 : ¬ (w2.heap.size = w.heap.size + 1) := (by omega); have F1_2 := K.ints.ext (F1_1) x2; have F2_2 := K.ints.ext (F2_1) x2; have F3_2 := K.recs.ext (F3_1) x2; have F4_2 := K.ints.ext (F4_1) x2; have F5_2 := K.ints.ext (F5_1) x2; clear c1_0_0 c1_0_1 c1_0_2 c1_0_3 c1_0_4 c1_0_5 c1_0_6 c1_0_7 z1_0 d1_0 e1_0 c1_1_0 c1_1_1 c1_1_2 c1_1_3 c1_1_4 c1_1_5 c1_1_6 c1_1_7 z1_1 d1_1 e1_1 F1_1 F2_1 F3_1 F4_1 F5_1)
    go_wp2_with (go_at_call 116; refine K.call (by with_reducible rfl) (by with_reducible rfl) (spec_IsEquation G _ hmGL hnGL hmGR hnGR (F4_2) (F5_2)) ?_; rintro e w3 ⟨rfl, x3⟩; have s3 : w2.heap.size ≤ w3.heap.size := (by have h_ := x3.size; (try simp at h_); omega); have X3 := K.Ext.trans (X2) x3; obtain ⟨c3_0_0, c3_0_1, c3_0_2, c3_0_3, c3_0_4, c3_0_5, c3_0_6, c3_0_7⟩ := K.c8 x3 (w.heap.size) (.int .i64 E.L.dg) (.int .i64 E.L.tn) (.string E.L.nm) (.slice oEL E.L.pw.length cEL) (.int .i64 E.R.dg) (.int .i64 E.R.tn) (.string E.R.nm) (.slice oER E.R.pw.length cER) (by go_simp); have z3_0 : w.heap.size < w3.heap.size := World.block_lt_of_cell? w3 _ c3_0_0; have d3_0 : ¬ (w.heap.size = w3.heap.size) := (by omega); have e3_0 : ¬ (w3.heap.size = w.heap.size) := (by omega); obtain ⟨c3_1_0, c3_1_1, c3_1_2, c3_1_3, c3_1_4, c3_1_5, c3_1_6, c3_1_7⟩ := K.c8 x3 (w.heap.size + 1) (.int .i64 G.L.dg) (.int .i64 G.L.tn) (.string G.L.nm) (.slice oGL G.L.pw.length cGL) (.int .i64 G.R.dg) (.int .i64 G.R.tn) (.string G.R.nm) (.slice oGR G.R.pw.length cGR) (by go_simp); have z3_1 : w.heap.size + 1 < w3.heap.size := World.block_lt_of_cell? w3 _ c3_1_0; have d3_1 : ¬ (w.heap.size + 1 = w3.heap.size) := (by omega); have e3_1 : ¬ (w3.heap.size = w.heap.size + 1) := (by omega); have F1_3 := K.ints.ext (F1_2) x3; have F2_3 := K.ints.ext (F2_2) x3; have F3_3 := K.recs.ext (F3_2) x3; have F4_3 := K.ints.ext (F4_2) x3; have F5_3 := K.ints.ext (F5_2) x3; clear c2_0_0 c2_0_1 c2_0_2 c2_0_3 c2_0_4 c2_0_5 c2_0_6 c2_0_7 z2_0 d2_0 e2_0 c2_1_0 c2_1_1 c2_1_2 c2_1_3 c2_1_4 c2_1_5 c2_1_6 c2_1_7 z2_1 d2_1 e2_1 F1_2 F2_2 F3_2 F4_2 F5_2)
    rw [HE.out]
    refine bodyPost_ret (v := .tuple #[.bool false, .int .i64 c]) (by unfold results; rw [Try.results79]; go_simp) rfl ⟨rfl, ?_⟩
    repeat with_reducible refine K.Ext.setCell ?_ (by dsimp only; omega) _
    exact (by repeat' (first | with_reducible exact X3 | with_reducible refine K.Ext.setCell ?_ ?_ _ | with_reducible refine K.Ext.alloc ?_ _ | with_reducible refine K.Ext.drew ?_ | (dsimp only; omega) | omega | (simp; omega)))
  subst hz0
  clear hc
  obtain ⟨M, hM⟩ : ∃ M, M = Z.RunSteps E xs := ⟨_, rfl⟩
  have HR : ∀ {a b c d x y : Nat} {p q v : Value} (w : World), K.ints w a b p E.L.pw → K.ints w c d q E.R.pw → K.recs false K.StR w x y v xs → Calls Try.prog 73 #[.agg #[.int .i64 E.L.dg, .int .i64 E.L.tn, .string E.L.nm, p, .int .i64 E.R.dg, .int .i64 E.R.tn, .string E.R.nm, q], v] w fun e w' => (∃ p' q', e = .returned (.tuple #[.agg #[.int .i64 M.1.L.dg, .int .i64 M.1.L.tn, .string M.1.L.nm, p', .int .i64 M.1.R.dg, .int .i64 M.1.R.tn, .string M.1.R.nm, q'], .int .i64 M.2]) ∧ K.ints w' w.heap.size w'.heap.size p' M.1.L.pw ∧ K.ints w' w.heap.size w'.heap.size q' M.1.R.pw) ∧ K.Ext w w' := fun w h h' h'' => by
    rw [hM]; exact spec_RunSteps E xs w hmEL hnEL hmER hnER h h' hmxs h''
  have HD : Hid (Z.IsDerivation E xs G = if M.2 = 0 then (Z.sameFm M.1.L G.L && Z.sameFm M.1.R G.R, 0) else (false, M.2)) := Z.hide (by unfold Z.IsDerivation; rw [vG, ← hM]; rfl)
  by_cases hz : M.2 = 0
  case neg =>
    have HE : Hid (Z.IsDerivation E xs G = (false, M.2)) := Z.hide (by rw [HD.out, if_neg hz])
    clear hM HD
    have X0 : K.Ext w w := K.Ext.refl w
    go_enter Try.func79, Try.ntmps79
    go_wp2_with (go_at_call 150; refine K.call (by with_reducible rfl) (by with_reducible rfl) (HCd _ (K.recs.alloc (K.recs.alloc hxs_ _) _)) ?_; rintro e w1 ⟨rfl, x1⟩; have s1 : w.heap.size + 2 ≤ w1.heap.size := (by have h_ := x1.size; (try simp at h_); omega); have X1 := K.Ext.trans (K.Ext.alloc (K.Ext.alloc X0 _) _) x1; obtain ⟨c1_0_0, c1_0_1, c1_0_2, c1_0_3, c1_0_4, c1_0_5, c1_0_6, c1_0_7⟩ := K.c8 x1 (w.heap.size) (.int .i64 E.L.dg) (.int .i64 E.L.tn) (.string E.L.nm) (.slice oEL E.L.pw.length cEL) (.int .i64 E.R.dg) (.int .i64 E.R.tn) (.string E.R.nm) (.slice oER E.R.pw.length cER) (by go_simp); have z1_0 : w.heap.size < w1.heap.size := World.block_lt_of_cell? w1 _ c1_0_0; have d1_0 : ¬ (w.heap.size = w1.heap.size) := (by omega); have e1_0 : ¬ (w1.heap.size = w.heap.size) := (by omega); obtain ⟨c1_1_0, c1_1_1, c1_1_2, c1_1_3, c1_1_4, c1_1_5, c1_1_6, c1_1_7⟩ := K.c8 x1 (w.heap.size + 1) (.int .i64 G.L.dg) (.int .i64 G.L.tn) (.string G.L.nm) (.slice oGL G.L.pw.length cGL) (.int .i64 G.R.dg) (.int .i64 G.R.tn) (.string G.R.nm) (.slice oGR G.R.pw.length cGR) (by go_simp); have z1_1 : w.heap.size + 1 < w1.heap.size := World.block_lt_of_cell? w1 _ c1_1_0; have d1_1 : ¬ (w.heap.size + 1 = w1.heap.size) := (by omega); have e1_1 : ¬ (w1.heap.size = w.heap.size + 1) := (by omega); have n1_0 : ¬ (w.heap.size + 1 = w.heap.size) := (by omega); have n0_1 : ¬ (w.heap.size = w.heap.size + 1) := (by omega); have F1_1 := K.ints.ext (K.ints.alloc (K.ints.alloc hEL_ _) _) x1; have F2_1 := K.ints.ext (K.ints.alloc (K.ints.alloc hER_ _) _) x1; have F3_1 := K.recs.ext (K.recs.alloc (K.recs.alloc hxs_ _) _) x1; have F4_1 := K.ints.ext (K.ints.alloc (K.ints.alloc hGL_ _) _) x1; have F5_1 := K.ints.ext (K.ints.alloc (K.ints.alloc hGR_ _) _) x1; clear hEL_ hER_ hxs_ hGL_ hGR_)
    go_wp2_with (go_at_call 116; refine K.call (by with_reducible rfl) (by with_reducible rfl) (spec_IsEquation E _ hmEL hnEL hmER hnER (F1_1) (F2_1)) ?_; rintro e w2 ⟨rfl, x2⟩; have s2 : w1.heap.size ≤ w2.heap.size := (by have h_ := x2.size; (try simp at h_); omega); have X2 := K.Ext.trans (X1) x2; obtain ⟨c2_0_0, c2_0_1, c2_0_2, c2_0_3, c2_0_4, c2_0_5, c2_0_6, c2_0_7⟩ := K.c8 x2 (w.heap.size) (.int .i64 E.L.dg) (.int .i64 E.L.tn) (.string E.L.nm) (.slice oEL E.L.pw.length cEL) (.int .i64 E.R.dg) (.int .i64 E.R.tn) (.string E.R.nm) (.slice oER E.R.pw.length cER) (by go_simp); have z2_0 : w.heap.size < w2.heap.size := World.block_lt_of_cell? w2 _ c2_0_0; have d2_0 : ¬ (w.heap.size = w2.heap.size) := (by omega); have e2_0 : ¬ (w2.heap.size = w.heap.size) := (by omega); obtain ⟨c2_1_0, c2_1_1, c2_1_2, c2_1_3, c2_1_4, c2_1_5, c2_1_6, c2_1_7⟩ := K.c8 x2 (w.heap.size + 1) (.int .i64 G.L.dg) (.int .i64 G.L.tn) (.string G.L.nm) (.slice oGL G.L.pw.length cGL) (.int .i64 G.R.dg) (.int .i64 G.R.tn) (.string G.R.nm) (.slice oGR G.R.pw.length cGR) (by go_simp); have z2_1 : w.heap.size + 1 < w2.heap.size := World.block_lt_of_cell? w2 _ c2_1_0; have d2_1 : ¬ (w.heap.size + 1 = w2.heap.size) := (by omega); have e2_1 : ¬ (w2.heap.size = w.heap.size + 1) := (by omega); have F1_2 := K.ints.ext (F1_1) x2; have F2_2 := K.ints.ext (F2_1) x2; have F3_2 := K.recs.ext (F3_1) x2; have F4_2 := K.ints.ext (F4_1) x2; have F5_2 := K.ints.ext (F5_1) x2; clear c1_0_0 c1_0_1 c1_0_2 c1_0_3 c1_0_4 c1_0_5 c1_0_6 c1_0_7 z1_0 d1_0 e1_0 c1_1_0 c1_1_1 c1_1_2 c1_1_3 c1_1_4 c1_1_5 c1_1_6 c1_1_7 z1_1 d1_1 e1_1 F1_1 F2_1 F3_1 F4_1 F5_1)
    go_wp2_with (go_at_call 116; refine K.call (by with_reducible rfl) (by with_reducible rfl) (spec_IsEquation G _ hmGL hnGL hmGR hnGR (F4_2) (F5_2)) ?_; rintro e w3 ⟨rfl, x3⟩; have s3 : w2.heap.size ≤ w3.heap.size := (by have h_ := x3.size; (try simp at h_); omega); have X3 := K.Ext.trans (X2) x3; obtain ⟨c3_0_0, c3_0_1, c3_0_2, c3_0_3, c3_0_4, c3_0_5, c3_0_6, c3_0_7⟩ := K.c8 x3 (w.heap.size) (.int .i64 E.L.dg) (.int .i64 E.L.tn) (.string E.L.nm) (.slice oEL E.L.pw.length cEL) (.int .i64 E.R.dg) (.int .i64 E.R.tn) (.string E.R.nm) (.slice oER E.R.pw.length cER) (by go_simp); have z3_0 : w.heap.size < w3.heap.size := World.block_lt_of_cell? w3 _ c3_0_0; have d3_0 : ¬ (w.heap.size = w3.heap.size) := (by omega); have e3_0 : ¬ (w3.heap.size = w.heap.size) := (by omega); obtain ⟨c3_1_0, c3_1_1, c3_1_2, c3_1_3, c3_1_4, c3_1_5, c3_1_6, c3_1_7⟩ := K.c8 x3 (w.heap.size + 1) (.int .i64 G.L.dg) (.int .i64 G.L.tn) (.string G.L.nm) (.slice oGL G.L.pw.length cGL) (.int .i64 G.R.dg) (.int .i64 G.R.tn) (.string G.R.nm) (.slice oGR G.R.pw.length cGR) (by go_simp); have z3_1 : w.heap.size + 1 < w3.heap.size := World.block_lt_of_cell? w3 _ c3_1_0; have d3_1 : ¬ (w.heap.size + 1 = w3.heap.size) := (by omega); have e3_1 : ¬ (w3.heap.size = w.heap.size + 1) := (by omega); have F1_3 := K.ints.ext (F1_2) x3; have F2_3 := K.ints.ext (F2_2) x3; have F3_3 := K.recs.ext (F3_2) x3; have F4_3 := K.ints.ext (F4_2) x3; have F5_3 := K.ints.ext (F5_2) x3; clear c2_0_0 c2_0_1 c2_0_2 c2_0_3 c2_0_4 c2_0_5 c2_0_6 c2_0_7 z2_0 d2_0 e2_0 c2_1_0 c2_1_1 c2_1_2 c2_1_3 c2_1_4 c2_1_5 c2_1_6 c2_1_7 z2_1 d2_1 e2_1 F1_2 F2_2 F3_2 F4_2 F5_2)
    go_wp2_with (go_at_call 73; refine K.call (by with_reducible rfl) (by with_reducible rfl) (HR _ (F1_3) (F2_3) (F3_3)) ?_; rintro e w4 ⟨⟨p4, q4, rfl, g4, g4_⟩, x4⟩; obtain ⟨o4, k4, rfl, _⟩ := K.ints.mono g4 (Nat.le_refl _) (Nat.le_refl _); obtain ⟨o4_, k4_, rfl, _⟩ := K.ints.mono g4_ (Nat.le_refl _) (Nat.le_refl _); have F6_4 : K.ints w4 (w3.heap.size) (w4.heap.size) (.slice o4 M.1.L.pw.length k4) (M.1.L.pw) := g4.mono (by simp) (Nat.le_refl _); have F7_4 : K.ints w4 (w3.heap.size) (w4.heap.size) (.slice o4_ M.1.R.pw.length k4_) (M.1.R.pw) := g4_.mono (by simp) (Nat.le_refl _); clear g4 g4_; have s4 : w3.heap.size ≤ w4.heap.size := (by have h_ := x4.size; (try simp at h_); omega); have X4 := K.Ext.trans (X3) x4; obtain ⟨c4_0_0, c4_0_1, c4_0_2, c4_0_3, c4_0_4, c4_0_5, c4_0_6, c4_0_7⟩ := K.c8 x4 (w.heap.size) (.int .i64 E.L.dg) (.int .i64 E.L.tn) (.string E.L.nm) (.slice oEL E.L.pw.length cEL) (.int .i64 E.R.dg) (.int .i64 E.R.tn) (.string E.R.nm) (.slice oER E.R.pw.length cER) (by go_simp); have z4_0 : w.heap.size < w4.heap.size := World.block_lt_of_cell? w4 _ c4_0_0; have d4_0 : ¬ (w.heap.size = w4.heap.size) := (by omega); have e4_0 : ¬ (w4.heap.size = w.heap.size) := (by omega); obtain ⟨c4_1_0, c4_1_1, c4_1_2, c4_1_3, c4_1_4, c4_1_5, c4_1_6, c4_1_7⟩ := K.c8 x4 (w.heap.size + 1) (.int .i64 G.L.dg) (.int .i64 G.L.tn) (.string G.L.nm) (.slice oGL G.L.pw.length cGL) (.int .i64 G.R.dg) (.int .i64 G.R.tn) (.string G.R.nm) (.slice oGR G.R.pw.length cGR) (by go_simp); have z4_1 : w.heap.size + 1 < w4.heap.size := World.block_lt_of_cell? w4 _ c4_1_0; have d4_1 : ¬ (w.heap.size + 1 = w4.heap.size) := (by omega); have e4_1 : ¬ (w4.heap.size = w.heap.size + 1) := (by omega); have F1_4 := K.ints.ext (F1_3) x4; have F2_4 := K.ints.ext (F2_3) x4; have F3_4 := K.recs.ext (F3_3) x4; have F4_4 := K.ints.ext (F4_3) x4; have F5_4 := K.ints.ext (F5_3) x4; clear c3_0_0 c3_0_1 c3_0_2 c3_0_3 c3_0_4 c3_0_5 c3_0_6 c3_0_7 z3_0 d3_0 e3_0 c3_1_0 c3_1_1 c3_1_2 c3_1_3 c3_1_4 c3_1_5 c3_1_6 c3_1_7 z3_1 d3_1 e3_1 F1_3 F2_3 F3_3 F4_3 F5_3)
    rw [HE.out]
    refine bodyPost_ret (v := .tuple #[.bool false, .int .i64 M.2]) (by unfold results; rw [Try.results79]; go_simp) rfl ⟨rfl, ?_⟩
    repeat with_reducible refine K.Ext.setCell ?_ (by dsimp only; omega) _
    exact (by repeat' (first | with_reducible exact X4 | with_reducible refine K.Ext.setCell ?_ ?_ _ | with_reducible refine K.Ext.alloc ?_ _ | with_reducible refine K.Ext.drew ?_ | (dsimp only; omega) | omega | (simp; omega)))
  have hle : M.1.L.pw.length ≤ 1048576 ∧ M.1.L.nm.size ≤ 1048576 ∧ M.1.R.pw.length ≤ 1048576 ∧ M.1.R.nm.size ≤ 1048576 := by rw [hM]; exact Z.isEquation_le (Z.RunSteps_ok (by rw [← hM]; exact hz))
  obtain ⟨le1, le2, le3, le4⟩ := hle
  rw [if_pos hz] at HD
  clear hM
  cases v1 : Z.sameFm M.1.L G.L
  · have HE : Hid (Z.IsDerivation E xs G = (false, 0)) := Z.hide (by rw [HD.out, v1]; rfl)
    have HS : ∀ {a b c d : Nat} {p q : Value} (w : World), K.ints w a b p M.1.L.pw → K.ints w c d q G.L.pw → Calls Try.prog 155 #[.agg #[.int .i64 M.1.L.dg, .int .i64 M.1.L.tn, .string M.1.L.nm, p], .agg #[.int .i64 G.L.dg, .int .i64 G.L.tn, .string G.L.nm, q]] w fun e w' => e = .returned (.bool false) ∧ K.Ext w w' := fun w h h' => by rw [← v1]; exact l21Same_any M.1.L G.L w le1 le2 h hmGL hnGL h'
    clear HD v1
    have X0 : K.Ext w w := K.Ext.refl w
    go_enter Try.func79, Try.ntmps79
    go_wp2_with (go_at_call 150; refine K.call (by with_reducible rfl) (by with_reducible rfl) (HCd _ (K.recs.alloc (K.recs.alloc hxs_ _) _)) ?_; rintro e w1 ⟨rfl, x1⟩; have s1 : w.heap.size + 2 ≤ w1.heap.size := (by have h_ := x1.size; (try simp at h_); omega); have X1 := K.Ext.trans (K.Ext.alloc (K.Ext.alloc X0 _) _) x1; obtain ⟨c1_0_0, c1_0_1, c1_0_2, c1_0_3, c1_0_4, c1_0_5, c1_0_6, c1_0_7⟩ := K.c8 x1 (w.heap.size) (.int .i64 E.L.dg) (.int .i64 E.L.tn) (.string E.L.nm) (.slice oEL E.L.pw.length cEL) (.int .i64 E.R.dg) (.int .i64 E.R.tn) (.string E.R.nm) (.slice oER E.R.pw.length cER) (by go_simp); have z1_0 : w.heap.size < w1.heap.size := World.block_lt_of_cell? w1 _ c1_0_0; have d1_0 : ¬ (w.heap.size = w1.heap.size) := (by omega); have e1_0 : ¬ (w1.heap.size = w.heap.size) := (by omega); obtain ⟨c1_1_0, c1_1_1, c1_1_2, c1_1_3, c1_1_4, c1_1_5, c1_1_6, c1_1_7⟩ := K.c8 x1 (w.heap.size + 1) (.int .i64 G.L.dg) (.int .i64 G.L.tn) (.string G.L.nm) (.slice oGL G.L.pw.length cGL) (.int .i64 G.R.dg) (.int .i64 G.R.tn) (.string G.R.nm) (.slice oGR G.R.pw.length cGR) (by go_simp); have z1_1 : w.heap.size + 1 < w1.heap.size := World.block_lt_of_cell? w1 _ c1_1_0; have d1_1 : ¬ (w.heap.size + 1 = w1.heap.size) := (by omega); have e1_1 : ¬ (w1.heap.size = w.heap.size + 1) := (by omega); have n1_0 : ¬ (w.heap.size + 1 = w.heap.size) := (by omega); have n0_1 : ¬ (w.heap.size = w.heap.size + 1) := (by omega); have F1_1 := K.ints.ext (K.ints.alloc (K.ints.alloc hEL_ _) _) x1; have F2_1 := K.ints.ext (K.ints.alloc (K.ints.alloc hER_ _) _) x1; have F3_1 := K.recs.ext (K.recs.alloc (K.recs.alloc hxs_ _) _) x1; have F4_1 := K.ints.ext (K.ints.alloc (K.ints.alloc hGL_ _) _) x1; have F5_1 := K.ints.ext (K.ints.alloc (K.ints.alloc hGR_ _) _) x1; clear hEL_ hER_ hxs_ hGL_ hGR_)
    go_wp2_with (go_at_call 116; refine K.call (by with_reducible rfl) (by with_reducible rfl) (spec_IsEquation E _ hmEL hnEL hmER hnER (F1_1) (F2_1)) ?_; rintro e w2 ⟨rfl, x2⟩; have s2 : w1.heap.size ≤ w2.heap.size := (by have h_ := x2.size; (try simp at h_); omega); have X2 := K.Ext.trans (X1) x2; obtain ⟨c2_0_0, c2_0_1, c2_0_2, c2_0_3, c2_0_4, c2_0_5, c2_0_6, c2_0_7⟩ := K.c8 x2 (w.heap.size) (.int .i64 E.L.dg) (.int .i64 E.L.tn) (.string E.L.nm) (.slice oEL E.L.pw.length cEL) (.int .i64 E.R.dg) (.int .i64 E.R.tn) (.string E.R.nm) (.slice oER E.R.pw.length cER) (by go_simp); have z2_0 : w.heap.size < w2.heap.size := World.block_lt_of_cell? w2 _ c2_0_0; have d2_0 : ¬ (w.heap.size = w2.heap.size) := (by omega); have e2_0 : ¬ (w2.heap.size = w.heap.size) := (by omega); obtain ⟨c2_1_0, c2_1_1, c2_1_2, c2_1_3, c2_1_4, c2_1_5, c2_1_6, c2_1_7⟩ := K.c8 x2 (w.heap.size + 1) (.int .i64 G.L.dg) (.int .i64 G.L.tn) (.string G.L.nm) (.slice oGL G.L.pw.length cGL) (.int .i64 G.R.dg) (.int .i64 G.R.tn) (.string G.R.nm) (.slice oGR G.R.pw.length cGR) (by go_simp); have z2_1 : w.heap.size + 1 < w2.heap.size := World.block_lt_of_cell? w2 _ c2_1_0; have d2_1 : ¬ (w.heap.size + 1 = w2.heap.size) := (by omega); have e2_1 : ¬ (w2.heap.size = w.heap.size + 1) := (by omega); have F1_2 := K.ints.ext (F1_1) x2; have F2_2 := K.ints.ext (F2_1) x2; have F3_2 := K.recs.ext (F3_1) x2; have F4_2 := K.ints.ext (F4_1) x2; have F5_2 := K.ints.ext (F5_1) x2; clear c1_0_0 c1_0_1 c1_0_2 c1_0_3 c1_0_4 c1_0_5 c1_0_6 c1_0_7 z1_0 d1_0 e1_0 c1_1_0 c1_1_1 c1_1_2 c1_1_3 c1_1_4 c1_1_5 c1_1_6 c1_1_7 z1_1 d1_1 e1_1 F1_1 F2_1 F3_1 F4_1 F5_1)
    go_wp2_with (go_at_call 116; refine K.call (by with_reducible rfl) (by with_reducible rfl) (spec_IsEquation G _ hmGL hnGL hmGR hnGR (F4_2) (F5_2)) ?_; rintro e w3 ⟨rfl, x3⟩; have s3 : w2.heap.size ≤ w3.heap.size := (by have h_ := x3.size; (try simp at h_); omega); have X3 := K.Ext.trans (X2) x3; obtain ⟨c3_0_0, c3_0_1, c3_0_2, c3_0_3, c3_0_4, c3_0_5, c3_0_6, c3_0_7⟩ := K.c8 x3 (w.heap.size) (.int .i64 E.L.dg) (.int .i64 E.L.tn) (.string E.L.nm) (.slice oEL E.L.pw.length cEL) (.int .i64 E.R.dg) (.int .i64 E.R.tn) (.string E.R.nm) (.slice oER E.R.pw.length cER) (by go_simp); have z3_0 : w.heap.size < w3.heap.size := World.block_lt_of_cell? w3 _ c3_0_0; have d3_0 : ¬ (w.heap.size = w3.heap.size) := (by omega); have e3_0 : ¬ (w3.heap.size = w.heap.size) := (by omega); obtain ⟨c3_1_0, c3_1_1, c3_1_2, c3_1_3, c3_1_4, c3_1_5, c3_1_6, c3_1_7⟩ := K.c8 x3 (w.heap.size + 1) (.int .i64 G.L.dg) (.int .i64 G.L.tn) (.string G.L.nm) (.slice oGL G.L.pw.length cGL) (.int .i64 G.R.dg) (.int .i64 G.R.tn) (.string G.R.nm) (.slice oGR G.R.pw.length cGR) (by go_simp); have z3_1 : w.heap.size + 1 < w3.heap.size := World.block_lt_of_cell? w3 _ c3_1_0; have d3_1 : ¬ (w.heap.size + 1 = w3.heap.size) := (by omega); have e3_1 : ¬ (w3.heap.size = w.heap.size + 1) := (by omega); have F1_3 := K.ints.ext (F1_2) x3; have F2_3 := K.ints.ext (F2_2) x3; have F3_3 := K.recs.ext (F3_2) x3; have F4_3 := K.ints.ext (F4_2) x3; have F5_3 := K.ints.ext (F5_2) x3; clear c2_0_0 c2_0_1 c2_0_2 c2_0_3 c2_0_4 c2_0_5 c2_0_6 c2_0_7 z2_0 d2_0 e2_0 c2_1_0 c2_1_1 c2_1_2 c2_1_3 c2_1_4 c2_1_5 c2_1_6 c2_1_7 z2_1 d2_1 e2_1 F1_2 F2_2 F3_2 F4_2 F5_2)
    go_wp2_with (go_at_call 73; refine K.call (by with_reducible rfl) (by with_reducible rfl) (HR _ (F1_3) (F2_3) (F3_3)) ?_; rintro e w4 ⟨⟨p4, q4, rfl, g4, g4_⟩, x4⟩; obtain ⟨o4, k4, rfl, _⟩ := K.ints.mono g4 (Nat.le_refl _) (Nat.le_refl _); obtain ⟨o4_, k4_, rfl, _⟩ := K.ints.mono g4_ (Nat.le_refl _) (Nat.le_refl _); have F6_4 : K.ints w4 (w3.heap.size) (w4.heap.size) (.slice o4 M.1.L.pw.length k4) (M.1.L.pw) := g4.mono (by simp) (Nat.le_refl _); have F7_4 : K.ints w4 (w3.heap.size) (w4.heap.size) (.slice o4_ M.1.R.pw.length k4_) (M.1.R.pw) := g4_.mono (by simp) (Nat.le_refl _); clear g4 g4_; have s4 : w3.heap.size ≤ w4.heap.size := (by have h_ := x4.size; (try simp at h_); omega); have X4 := K.Ext.trans (X3) x4; obtain ⟨c4_0_0, c4_0_1, c4_0_2, c4_0_3, c4_0_4, c4_0_5, c4_0_6, c4_0_7⟩ := K.c8 x4 (w.heap.size) (.int .i64 E.L.dg) (.int .i64 E.L.tn) (.string E.L.nm) (.slice oEL E.L.pw.length cEL) (.int .i64 E.R.dg) (.int .i64 E.R.tn) (.string E.R.nm) (.slice oER E.R.pw.length cER) (by go_simp); have z4_0 : w.heap.size < w4.heap.size := World.block_lt_of_cell? w4 _ c4_0_0; have d4_0 : ¬ (w.heap.size = w4.heap.size) := (by omega); have e4_0 : ¬ (w4.heap.size = w.heap.size) := (by omega); obtain ⟨c4_1_0, c4_1_1, c4_1_2, c4_1_3, c4_1_4, c4_1_5, c4_1_6, c4_1_7⟩ := K.c8 x4 (w.heap.size + 1) (.int .i64 G.L.dg) (.int .i64 G.L.tn) (.string G.L.nm) (.slice oGL G.L.pw.length cGL) (.int .i64 G.R.dg) (.int .i64 G.R.tn) (.string G.R.nm) (.slice oGR G.R.pw.length cGR) (by go_simp); have z4_1 : w.heap.size + 1 < w4.heap.size := World.block_lt_of_cell? w4 _ c4_1_0; have d4_1 : ¬ (w.heap.size + 1 = w4.heap.size) := (by omega); have e4_1 : ¬ (w4.heap.size = w.heap.size + 1) := (by omega); have F1_4 := K.ints.ext (F1_3) x4; have F2_4 := K.ints.ext (F2_3) x4; have F3_4 := K.recs.ext (F3_3) x4; have F4_4 := K.ints.ext (F4_3) x4; have F5_4 := K.ints.ext (F5_3) x4; clear c3_0_0 c3_0_1 c3_0_2 c3_0_3 c3_0_4 c3_0_5 c3_0_6 c3_0_7 z3_0 d3_0 e3_0 c3_1_0 c3_1_1 c3_1_2 c3_1_3 c3_1_4 c3_1_5 c3_1_6 c3_1_7 z3_1 d3_1 e3_1 F1_3 F2_3 F3_3 F4_3 F5_3)
    go_wp2_with (go_at_call 155; refine K.call (by with_reducible rfl) (by with_reducible rfl) (HS _ (K.ints.alloc F6_4 _) (K.ints.alloc F4_4 _)) ?_; rintro e w5 ⟨rfl, x5⟩; have s5 : w4.heap.size + 1 ≤ w5.heap.size := (by have h_ := x5.size; (try simp at h_); omega); have X5 := K.Ext.trans (K.Ext.alloc X4 _) x5; obtain ⟨c5_0_0, c5_0_1, c5_0_2, c5_0_3, c5_0_4, c5_0_5, c5_0_6, c5_0_7⟩ := K.c8 x5 (w.heap.size) (.int .i64 E.L.dg) (.int .i64 E.L.tn) (.string E.L.nm) (.slice oEL E.L.pw.length cEL) (.int .i64 E.R.dg) (.int .i64 E.R.tn) (.string E.R.nm) (.slice oER E.R.pw.length cER) (by go_simp); have z5_0 : w.heap.size < w5.heap.size := World.block_lt_of_cell? w5 _ c5_0_0; have d5_0 : ¬ (w.heap.size = w5.heap.size) := (by omega); have e5_0 : ¬ (w5.heap.size = w.heap.size) := (by omega); obtain ⟨c5_1_0, c5_1_1, c5_1_2, c5_1_3, c5_1_4, c5_1_5, c5_1_6, c5_1_7⟩ := K.c8 x5 (w.heap.size + 1) (.int .i64 G.L.dg) (.int .i64 G.L.tn) (.string G.L.nm) (.slice oGL G.L.pw.length cGL) (.int .i64 G.R.dg) (.int .i64 G.R.tn) (.string G.R.nm) (.slice oGR G.R.pw.length cGR) (by go_simp); have z5_1 : w.heap.size + 1 < w5.heap.size := World.block_lt_of_cell? w5 _ c5_1_0; have d5_1 : ¬ (w.heap.size + 1 = w5.heap.size) := (by omega); have e5_1 : ¬ (w5.heap.size = w.heap.size + 1) := (by omega); obtain ⟨c5_2_0, c5_2_1, c5_2_2, c5_2_3, c5_2_4, c5_2_5, c5_2_6, c5_2_7⟩ := K.c8 x5 (w4.heap.size) (.int .i64 M.1.L.dg) (.int .i64 M.1.L.tn) (.string M.1.L.nm) (.slice o4 M.1.L.pw.length k4) (.int .i64 M.1.R.dg) (.int .i64 M.1.R.tn) (.string M.1.R.nm) (.slice o4_ M.1.R.pw.length k4_) (by go_simp); obtain ⟨f5_2_0, f5_2_1, f5_2_2, f5_2_3, f5_2_4, f5_2_5, f5_2_6, f5_2_7⟩ := K.f8 x5 (w4.heap.size) (by go_simp); have z5_2 : w4.heap.size < w5.heap.size := World.block_lt_of_cell? w5 _ c5_2_0; have d5_2 : ¬ (w4.heap.size = w5.heap.size) := (by omega); have e5_2 : ¬ (w5.heap.size = w4.heap.size) := (by omega); have n2_0 : ¬ (w4.heap.size = w.heap.size) := (by omega); have n0_2 : ¬ (w.heap.size = w4.heap.size) := (by omega); have n2_1 : ¬ (w4.heap.size = w.heap.size + 1) := (by omega); have n1_2 : ¬ (w.heap.size + 1 = w4.heap.size) := (by omega); have F1_5 := K.ints.ext (K.ints.alloc F1_4 _) x5; have F2_5 := K.ints.ext (K.ints.alloc F2_4 _) x5; have F3_5 := K.recs.ext (K.recs.alloc F3_4 _) x5; have F4_5 := K.ints.ext (K.ints.alloc F4_4 _) x5; have F5_5 := K.ints.ext (K.ints.alloc F5_4 _) x5; have F6_5 := K.ints.ext (K.ints.alloc F6_4 _) x5; have F7_5 := K.ints.ext (K.ints.alloc F7_4 _) x5; clear c4_0_0 c4_0_1 c4_0_2 c4_0_3 c4_0_4 c4_0_5 c4_0_6 c4_0_7 z4_0 d4_0 e4_0 c4_1_0 c4_1_1 c4_1_2 c4_1_3 c4_1_4 c4_1_5 c4_1_6 c4_1_7 z4_1 d4_1 e4_1 F1_4 F2_4 F3_4 F4_4 F5_4 F6_4 F7_4)
    rw [HE.out]
    refine bodyPost_ret (v := .tuple #[.bool false, .int .i64 0]) (by unfold results; rw [Try.results79]; go_simp) rfl ⟨rfl, ?_⟩
    repeat with_reducible refine K.Ext.setCell ?_ (by dsimp only; omega) _
    exact (by repeat' (first | with_reducible exact X5 | with_reducible refine K.Ext.setCell ?_ ?_ _ | with_reducible refine K.Ext.alloc ?_ _ | with_reducible refine K.Ext.drew ?_ | (dsimp only; omega) | omega | (simp; omega)))
  · have HE : Hid (Z.IsDerivation E xs G = (Z.sameFm M.1.R G.R, 0)) := Z.hide (by rw [HD.out, v1]; rfl)
    have HS : ∀ {a b c d : Nat} {p q : Value} (w : World), K.ints w a b p M.1.L.pw → K.ints w c d q G.L.pw → Calls Try.prog 155 #[.agg #[.int .i64 M.1.L.dg, .int .i64 M.1.L.tn, .string M.1.L.nm, p], .agg #[.int .i64 G.L.dg, .int .i64 G.L.tn, .string G.L.nm, q]] w fun e w' => e = .returned (.bool true) ∧ K.Ext w w' := fun w h h' => by rw [← v1]; exact l21Same_any M.1.L G.L w le1 le2 h hmGL hnGL h'
    clear HD v1
    have X0 : K.Ext w w := K.Ext.refl w
    go_enter Try.func79, Try.ntmps79
    go_wp2_with (go_at_call 150; refine K.call (by with_reducible rfl) (by with_reducible rfl) (HCd _ (K.recs.alloc (K.recs.alloc hxs_ _) _)) ?_; rintro e w1 ⟨rfl, x1⟩; have s1 : w.heap.size + 2 ≤ w1.heap.size := (by have h_ := x1.size; (try simp at h_); omega); have X1 := K.Ext.trans (K.Ext.alloc (K.Ext.alloc X0 _) _) x1; obtain ⟨c1_0_0, c1_0_1, c1_0_2, c1_0_3, c1_0_4, c1_0_5, c1_0_6, c1_0_7⟩ := K.c8 x1 (w.heap.size) (.int .i64 E.L.dg) (.int .i64 E.L.tn) (.string E.L.nm) (.slice oEL E.L.pw.length cEL) (.int .i64 E.R.dg) (.int .i64 E.R.tn) (.string E.R.nm) (.slice oER E.R.pw.length cER) (by go_simp); have z1_0 : w.heap.size < w1.heap.size := World.block_lt_of_cell? w1 _ c1_0_0; have d1_0 : ¬ (w.heap.size = w1.heap.size) := (by omega); have e1_0 : ¬ (w1.heap.size = w.heap.size) := (by omega); obtain ⟨c1_1_0, c1_1_1, c1_1_2, c1_1_3, c1_1_4, c1_1_5, c1_1_6, c1_1_7⟩ := K.c8 x1 (w.heap.size + 1) (.int .i64 G.L.dg) (.int .i64 G.L.tn) (.string G.L.nm) (.slice oGL G.L.pw.length cGL) (.int .i64 G.R.dg) (.int .i64 G.R.tn) (.string G.R.nm) (.slice oGR G.R.pw.length cGR) (by go_simp); have z1_1 : w.heap.size + 1 < w1.heap.size := World.block_lt_of_cell? w1 _ c1_1_0; have d1_1 : ¬ (w.heap.size + 1 = w1.heap.size) := (by omega); have e1_1 : ¬ (w1.heap.size = w.heap.size + 1) := (by omega); have n1_0 : ¬ (w.heap.size + 1 = w.heap.size) := (by omega); have n0_1 : ¬ (w.heap.size = w.heap.size + 1) := (by omega); have F1_1 := K.ints.ext (K.ints.alloc (K.ints.alloc hEL_ _) _) x1; have F2_1 := K.ints.ext (K.ints.alloc (K.ints.alloc hER_ _) _) x1; have F3_1 := K.recs.ext (K.recs.alloc (K.recs.alloc hxs_ _) _) x1; have F4_1 := K.ints.ext (K.ints.alloc (K.ints.alloc hGL_ _) _) x1; have F5_1 := K.ints.ext (K.ints.alloc (K.ints.alloc hGR_ _) _) x1; clear hEL_ hER_ hxs_ hGL_ hGR_)
    go_wp2_with (go_at_call 116; refine K.call (by with_reducible rfl) (by with_reducible rfl) (spec_IsEquation E _ hmEL hnEL hmER hnER (F1_1) (F2_1)) ?_; rintro e w2 ⟨rfl, x2⟩; have s2 : w1.heap.size ≤ w2.heap.size := (by have h_ := x2.size; (try simp at h_); omega); have X2 := K.Ext.trans (X1) x2; obtain ⟨c2_0_0, c2_0_1, c2_0_2, c2_0_3, c2_0_4, c2_0_5, c2_0_6, c2_0_7⟩ := K.c8 x2 (w.heap.size) (.int .i64 E.L.dg) (.int .i64 E.L.tn) (.string E.L.nm) (.slice oEL E.L.pw.length cEL) (.int .i64 E.R.dg) (.int .i64 E.R.tn) (.string E.R.nm) (.slice oER E.R.pw.length cER) (by go_simp); have z2_0 : w.heap.size < w2.heap.size := World.block_lt_of_cell? w2 _ c2_0_0; have d2_0 : ¬ (w.heap.size = w2.heap.size) := (by omega); have e2_0 : ¬ (w2.heap.size = w.heap.size) := (by omega); obtain ⟨c2_1_0, c2_1_1, c2_1_2, c2_1_3, c2_1_4, c2_1_5, c2_1_6, c2_1_7⟩ := K.c8 x2 (w.heap.size + 1) (.int .i64 G.L.dg) (.int .i64 G.L.tn) (.string G.L.nm) (.slice oGL G.L.pw.length cGL) (.int .i64 G.R.dg) (.int .i64 G.R.tn) (.string G.R.nm) (.slice oGR G.R.pw.length cGR) (by go_simp); have z2_1 : w.heap.size + 1 < w2.heap.size := World.block_lt_of_cell? w2 _ c2_1_0; have d2_1 : ¬ (w.heap.size + 1 = w2.heap.size) := (by omega); have e2_1 : ¬ (w2.heap.size = w.heap.size + 1) := (by omega); have F1_2 := K.ints.ext (F1_1) x2; have F2_2 := K.ints.ext (F2_1) x2; have F3_2 := K.recs.ext (F3_1) x2; have F4_2 := K.ints.ext (F4_1) x2; have F5_2 := K.ints.ext (F5_1) x2; clear c1_0_0 c1_0_1 c1_0_2 c1_0_3 c1_0_4 c1_0_5 c1_0_6 c1_0_7 z1_0 d1_0 e1_0 c1_1_0 c1_1_1 c1_1_2 c1_1_3 c1_1_4 c1_1_5 c1_1_6 c1_1_7 z1_1 d1_1 e1_1 F1_1 F2_1 F3_1 F4_1 F5_1)
    go_wp2_with (go_at_call 116; refine K.call (by with_reducible rfl) (by with_reducible rfl) (spec_IsEquation G _ hmGL hnGL hmGR hnGR (F4_2) (F5_2)) ?_; rintro e w3 ⟨rfl, x3⟩; have s3 : w2.heap.size ≤ w3.heap.size := (by have h_ := x3.size; (try simp at h_); omega); have X3 := K.Ext.trans (X2) x3; obtain ⟨c3_0_0, c3_0_1, c3_0_2, c3_0_3, c3_0_4, c3_0_5, c3_0_6, c3_0_7⟩ := K.c8 x3 (w.heap.size) (.int .i64 E.L.dg) (.int .i64 E.L.tn) (.string E.L.nm) (.slice oEL E.L.pw.length cEL) (.int .i64 E.R.dg) (.int .i64 E.R.tn) (.string E.R.nm) (.slice oER E.R.pw.length cER) (by go_simp); have z3_0 : w.heap.size < w3.heap.size := World.block_lt_of_cell? w3 _ c3_0_0; have d3_0 : ¬ (w.heap.size = w3.heap.size) := (by omega); have e3_0 : ¬ (w3.heap.size = w.heap.size) := (by omega); obtain ⟨c3_1_0, c3_1_1, c3_1_2, c3_1_3, c3_1_4, c3_1_5, c3_1_6, c3_1_7⟩ := K.c8 x3 (w.heap.size + 1) (.int .i64 G.L.dg) (.int .i64 G.L.tn) (.string G.L.nm) (.slice oGL G.L.pw.length cGL) (.int .i64 G.R.dg) (.int .i64 G.R.tn) (.string G.R.nm) (.slice oGR G.R.pw.length cGR) (by go_simp); have z3_1 : w.heap.size + 1 < w3.heap.size := World.block_lt_of_cell? w3 _ c3_1_0; have d3_1 : ¬ (w.heap.size + 1 = w3.heap.size) := (by omega); have e3_1 : ¬ (w3.heap.size = w.heap.size + 1) := (by omega); have F1_3 := K.ints.ext (F1_2) x3; have F2_3 := K.ints.ext (F2_2) x3; have F3_3 := K.recs.ext (F3_2) x3; have F4_3 := K.ints.ext (F4_2) x3; have F5_3 := K.ints.ext (F5_2) x3; clear c2_0_0 c2_0_1 c2_0_2 c2_0_3 c2_0_4 c2_0_5 c2_0_6 c2_0_7 z2_0 d2_0 e2_0 c2_1_0 c2_1_1 c2_1_2 c2_1_3 c2_1_4 c2_1_5 c2_1_6 c2_1_7 z2_1 d2_1 e2_1 F1_2 F2_2 F3_2 F4_2 F5_2)
    go_wp2_with (go_at_call 73; refine K.call (by with_reducible rfl) (by with_reducible rfl) (HR _ (F1_3) (F2_3) (F3_3)) ?_; rintro e w4 ⟨⟨p4, q4, rfl, g4, g4_⟩, x4⟩; obtain ⟨o4, k4, rfl, _⟩ := K.ints.mono g4 (Nat.le_refl _) (Nat.le_refl _); obtain ⟨o4_, k4_, rfl, _⟩ := K.ints.mono g4_ (Nat.le_refl _) (Nat.le_refl _); have F6_4 : K.ints w4 (w3.heap.size) (w4.heap.size) (.slice o4 M.1.L.pw.length k4) (M.1.L.pw) := g4.mono (by simp) (Nat.le_refl _); have F7_4 : K.ints w4 (w3.heap.size) (w4.heap.size) (.slice o4_ M.1.R.pw.length k4_) (M.1.R.pw) := g4_.mono (by simp) (Nat.le_refl _); clear g4 g4_; have s4 : w3.heap.size ≤ w4.heap.size := (by have h_ := x4.size; (try simp at h_); omega); have X4 := K.Ext.trans (X3) x4; obtain ⟨c4_0_0, c4_0_1, c4_0_2, c4_0_3, c4_0_4, c4_0_5, c4_0_6, c4_0_7⟩ := K.c8 x4 (w.heap.size) (.int .i64 E.L.dg) (.int .i64 E.L.tn) (.string E.L.nm) (.slice oEL E.L.pw.length cEL) (.int .i64 E.R.dg) (.int .i64 E.R.tn) (.string E.R.nm) (.slice oER E.R.pw.length cER) (by go_simp); have z4_0 : w.heap.size < w4.heap.size := World.block_lt_of_cell? w4 _ c4_0_0; have d4_0 : ¬ (w.heap.size = w4.heap.size) := (by omega); have e4_0 : ¬ (w4.heap.size = w.heap.size) := (by omega); obtain ⟨c4_1_0, c4_1_1, c4_1_2, c4_1_3, c4_1_4, c4_1_5, c4_1_6, c4_1_7⟩ := K.c8 x4 (w.heap.size + 1) (.int .i64 G.L.dg) (.int .i64 G.L.tn) (.string G.L.nm) (.slice oGL G.L.pw.length cGL) (.int .i64 G.R.dg) (.int .i64 G.R.tn) (.string G.R.nm) (.slice oGR G.R.pw.length cGR) (by go_simp); have z4_1 : w.heap.size + 1 < w4.heap.size := World.block_lt_of_cell? w4 _ c4_1_0; have d4_1 : ¬ (w.heap.size + 1 = w4.heap.size) := (by omega); have e4_1 : ¬ (w4.heap.size = w.heap.size + 1) := (by omega); have F1_4 := K.ints.ext (F1_3) x4; have F2_4 := K.ints.ext (F2_3) x4; have F3_4 := K.recs.ext (F3_3) x4; have F4_4 := K.ints.ext (F4_3) x4; have F5_4 := K.ints.ext (F5_3) x4; clear c3_0_0 c3_0_1 c3_0_2 c3_0_3 c3_0_4 c3_0_5 c3_0_6 c3_0_7 z3_0 d3_0 e3_0 c3_1_0 c3_1_1 c3_1_2 c3_1_3 c3_1_4 c3_1_5 c3_1_6 c3_1_7 z3_1 d3_1 e3_1 F1_3 F2_3 F3_3 F4_3 F5_3)
    go_wp2_with (go_at_call 155; refine K.call (by with_reducible rfl) (by with_reducible rfl) (HS _ (K.ints.alloc F6_4 _) (K.ints.alloc F4_4 _)) ?_; rintro e w5 ⟨rfl, x5⟩; have s5 : w4.heap.size + 1 ≤ w5.heap.size := (by have h_ := x5.size; (try simp at h_); omega); have X5 := K.Ext.trans (K.Ext.alloc X4 _) x5; obtain ⟨c5_0_0, c5_0_1, c5_0_2, c5_0_3, c5_0_4, c5_0_5, c5_0_6, c5_0_7⟩ := K.c8 x5 (w.heap.size) (.int .i64 E.L.dg) (.int .i64 E.L.tn) (.string E.L.nm) (.slice oEL E.L.pw.length cEL) (.int .i64 E.R.dg) (.int .i64 E.R.tn) (.string E.R.nm) (.slice oER E.R.pw.length cER) (by go_simp); have z5_0 : w.heap.size < w5.heap.size := World.block_lt_of_cell? w5 _ c5_0_0; have d5_0 : ¬ (w.heap.size = w5.heap.size) := (by omega); have e5_0 : ¬ (w5.heap.size = w.heap.size) := (by omega); obtain ⟨c5_1_0, c5_1_1, c5_1_2, c5_1_3, c5_1_4, c5_1_5, c5_1_6, c5_1_7⟩ := K.c8 x5 (w.heap.size + 1) (.int .i64 G.L.dg) (.int .i64 G.L.tn) (.string G.L.nm) (.slice oGL G.L.pw.length cGL) (.int .i64 G.R.dg) (.int .i64 G.R.tn) (.string G.R.nm) (.slice oGR G.R.pw.length cGR) (by go_simp); have z5_1 : w.heap.size + 1 < w5.heap.size := World.block_lt_of_cell? w5 _ c5_1_0; have d5_1 : ¬ (w.heap.size + 1 = w5.heap.size) := (by omega); have e5_1 : ¬ (w5.heap.size = w.heap.size + 1) := (by omega); obtain ⟨c5_2_0, c5_2_1, c5_2_2, c5_2_3, c5_2_4, c5_2_5, c5_2_6, c5_2_7⟩ := K.c8 x5 (w4.heap.size) (.int .i64 M.1.L.dg) (.int .i64 M.1.L.tn) (.string M.1.L.nm) (.slice o4 M.1.L.pw.length k4) (.int .i64 M.1.R.dg) (.int .i64 M.1.R.tn) (.string M.1.R.nm) (.slice o4_ M.1.R.pw.length k4_) (by go_simp); obtain ⟨f5_2_0, f5_2_1, f5_2_2, f5_2_3, f5_2_4, f5_2_5, f5_2_6, f5_2_7⟩ := K.f8 x5 (w4.heap.size) (by go_simp); have z5_2 : w4.heap.size < w5.heap.size := World.block_lt_of_cell? w5 _ c5_2_0; have d5_2 : ¬ (w4.heap.size = w5.heap.size) := (by omega); have e5_2 : ¬ (w5.heap.size = w4.heap.size) := (by omega); have n2_0 : ¬ (w4.heap.size = w.heap.size) := (by omega); have n0_2 : ¬ (w.heap.size = w4.heap.size) := (by omega); have n2_1 : ¬ (w4.heap.size = w.heap.size + 1) := (by omega); have n1_2 : ¬ (w.heap.size + 1 = w4.heap.size) := (by omega); have F1_5 := K.ints.ext (K.ints.alloc F1_4 _) x5; have F2_5 := K.ints.ext (K.ints.alloc F2_4 _) x5; have F3_5 := K.recs.ext (K.recs.alloc F3_4 _) x5; have F4_5 := K.ints.ext (K.ints.alloc F4_4 _) x5; have F5_5 := K.ints.ext (K.ints.alloc F5_4 _) x5; have F6_5 := K.ints.ext (K.ints.alloc F6_4 _) x5; have F7_5 := K.ints.ext (K.ints.alloc F7_4 _) x5; clear c4_0_0 c4_0_1 c4_0_2 c4_0_3 c4_0_4 c4_0_5 c4_0_6 c4_0_7 z4_0 d4_0 e4_0 c4_1_0 c4_1_1 c4_1_2 c4_1_3 c4_1_4 c4_1_5 c4_1_6 c4_1_7 z4_1 d4_1 e4_1 F1_4 F2_4 F3_4 F4_4 F5_4 F6_4 F7_4)
    go_wp2_with (go_at_call 155; refine K.call (by with_reducible rfl) (by with_reducible rfl) (l21Same_any M.1.R G.R _ le3 le4 (F7_5) hmGR hnGR (F5_5)) ?_; rintro e w6 ⟨rfl, x6⟩; have s6 : w5.heap.size ≤ w6.heap.size := (by have h_ := x6.size; (try simp at h_); omega); have X6 := K.Ext.trans (X5) x6; obtain ⟨c6_0_0, c6_0_1, c6_0_2, c6_0_3, c6_0_4, c6_0_5, c6_0_6, c6_0_7⟩ := K.c8 x6 (w.heap.size) (.int .i64 E.L.dg) (.int .i64 E.L.tn) (.string E.L.nm) (.slice oEL E.L.pw.length cEL) (.int .i64 E.R.dg) (.int .i64 E.R.tn) (.string E.R.nm) (.slice oER E.R.pw.length cER) (by go_simp); have z6_0 : w.heap.size < w6.heap.size := World.block_lt_of_cell? w6 _ c6_0_0; have d6_0 : ¬ (w.heap.size = w6.heap.size) := (by omega); have e6_0 : ¬ (w6.heap.size = w.heap.size) := (by omega); obtain ⟨c6_1_0, c6_1_1, c6_1_2, c6_1_3, c6_1_4, c6_1_5, c6_1_6, c6_1_7⟩ := K.c8 x6 (w.heap.size + 1) (.int .i64 G.L.dg) (.int .i64 G.L.tn) (.string G.L.nm) (.slice oGL G.L.pw.length cGL) (.int .i64 G.R.dg) (.int .i64 G.R.tn) (.string G.R.nm) (.slice oGR G.R.pw.length cGR) (by go_simp); have z6_1 : w.heap.size + 1 < w6.heap.size := World.block_lt_of_cell? w6 _ c6_1_0; have d6_1 : ¬ (w.heap.size + 1 = w6.heap.size) := (by omega); have e6_1 : ¬ (w6.heap.size = w.heap.size + 1) := (by omega); obtain ⟨c6_2_0, c6_2_1, c6_2_2, c6_2_3, c6_2_4, c6_2_5, c6_2_6, c6_2_7⟩ := K.c8 x6 (w4.heap.size) (.int .i64 M.1.L.dg) (.int .i64 M.1.L.tn) (.string M.1.L.nm) (.slice o4 M.1.L.pw.length k4) (.int .i64 M.1.R.dg) (.int .i64 M.1.R.tn) (.string M.1.R.nm) (.slice o4_ M.1.R.pw.length k4_) (by go_simp); obtain ⟨f6_2_0, f6_2_1, f6_2_2, f6_2_3, f6_2_4, f6_2_5, f6_2_6, f6_2_7⟩ := K.f8 x6 (w4.heap.size) (by go_simp); have z6_2 : w4.heap.size < w6.heap.size := World.block_lt_of_cell? w6 _ c6_2_0; have d6_2 : ¬ (w4.heap.size = w6.heap.size) := (by omega); have e6_2 : ¬ (w6.heap.size = w4.heap.size) := (by omega); have F1_6 := K.ints.ext (F1_5) x6; have F2_6 := K.ints.ext (F2_5) x6; have F3_6 := K.recs.ext (F3_5) x6; have F4_6 := K.ints.ext (F4_5) x6; have F5_6 := K.ints.ext (F5_5) x6; have F6_6 := K.ints.ext (F6_5) x6; have F7_6 := K.ints.ext (F7_5) x6; clear c5_0_0 c5_0_1 c5_0_2 c5_0_3 c5_0_4 c5_0_5 c5_0_6 c5_0_7 z5_0 d5_0 e5_0 c5_1_0 c5_1_1 c5_1_2 c5_1_3 c5_1_4 c5_1_5 c5_1_6 c5_1_7 z5_1 d5_1 e5_1 c5_2_0 c5_2_1 c5_2_2 c5_2_3 c5_2_4 c5_2_5 c5_2_6 c5_2_7 f5_2_0 f5_2_1 f5_2_2 f5_2_3 f5_2_4 f5_2_5 f5_2_6 f5_2_7 z5_2 d5_2 e5_2 F1_5 F2_5 F3_5 F4_5 F5_5 F6_5 F7_5)
    rw [HE.out]
    refine bodyPost_ret (v := .tuple #[.bool (Z.sameFm M.1.R G.R), .int .i64 0]) (by unfold results; rw [Try.results79]; go_simp) rfl ⟨rfl, ?_⟩
    repeat with_reducible refine K.Ext.setCell ?_ (by dsimp only; omega) _
    exact (by repeat' (first | with_reducible exact X6 | with_reducible refine K.Ext.setCell ?_ ?_ _ | with_reducible refine K.Ext.alloc ?_ _ | with_reducible refine K.Ext.drew ?_ | (dsimp only; omega) | omega | (simp; omega)))
end Go.Proofs.Ythmnlbgbacbocaa
end
section
namespace Go.Z
/-- the same exponents of a to z on both sides -/
def sameX (A B : Eqn) : Prop := ∀ i : Nat, i < 26 → ex A.L (97 + (i : Int)) = ex B.L (97 + (i : Int)) ∧ ex A.R (97 + (i : Int)) = ex B.R (97 + (i : Int))
theorem swap_eq {E : Eqn} (h : (SwapSides E).2 = 0) : (SwapSides E).1 = ⟨E.R, E.L⟩ := by
  unfold SwapSides at h ⊢
  cases hE : isEquation E
  · rw [hE] at h; simp at h
  · rfl
theorem raise_ex {E : Eqn} {n : Int} (h : (RaiseSides E n).2 = 0) (i : Nat) (hi : i < 26) :
    ex (RaiseSides E n).1.L (97 + (i : Int)) = n * ex E.L (97 + (i : Int)) ∧ ex (RaiseSides E n).1.R (97 + (i : Int)) = n * ex E.R (97 + (i : Int)) := by
  unfold RaiseSides at h ⊢
  by_cases h1 : isEquation E = true
  · rw [if_pos h1] at h ⊢
    by_cases h4 : n = 0
    · rw [if_pos h4] at h; simp at h
    · rw [if_neg h4] at h ⊢
      by_cases h5 : pow3 n = true
      · rw [if_pos h5] at h ⊢
        unfold bothOf at h ⊢
        by_cases h2 : (raised E.L n).2 = 0
        · by_cases h3 : (raised E.R n).2 = 0
          · rw [if_pos h2, if_pos h3]
            exact ⟨raised_ex h2 i hi, raised_ex h3 i hi⟩
          · rw [if_pos h2, if_neg h3] at h; exact absurd h h3
        · rw [if_neg h2] at h; exact absurd h h2
      · rw [if_neg h5] at h; simp at h
  · rw [if_neg h1] at h; simp at h
theorem undo_step {A C : Eqn} {s : St} (hs : isStep s = true) (hb : isBad s = false) (hA : (stepEq A s).2 = 0) (hx : sameX C (stepEq A s).1) (hC : (stepEq C (undoSt s)).2 = 0) :
    sameX (stepEq C (undoSt s)).1 A := by
  obtain ⟨d, m, t⟩ := s
  intro i hi
  have hxi := hx i hi
  rcases step_kinds hs with rfl | rfl | rfl
  · have e : undoSt ⟨0, m, t⟩ = ⟨0, m, t⟩ := by unfold undoSt; rfl
    rw [e] at hC ⊢
    rw [stepEq_0] at hA hC hxi ⊢
    rw [swap_eq hA] at hxi
    rw [swap_eq hC]
    exact ⟨hxi.2, hxi.1⟩
  · have hm : 0 ≤ m ∧ m ≤ 255 := by
      unfold isStep at hs
      simp at hs
      omega
    have e : undoSt ⟨1, m, t⟩ = ⟨1, m, -t⟩ := by unfold undoSt; rfl
    rw [e] at hC ⊢
    rw [stepEq_1] at hA hC hxi ⊢
    have h1 := times_ex hm hA (97 + (i : Int))
    have h2 := times_ex hm hC (97 + (i : Int))
    rw [h1.1, h1.2] at hxi
    rw [h2.1, h2.2, hxi.1, hxi.2]
    split <;> omega
  · have ht : t = 1 ∨ t = -1 := by
      unfold isBad at hb
      simp at hb
      by_cases h1 : t = 1
      · exact .inl h1
      · exact .inr (hb h1)
    have e : undoSt ⟨2, m, t⟩ = ⟨2, m, t⟩ := by unfold undoSt; rfl
    rw [e] at hC ⊢
    rw [stepEq_2] at hA hC hxi ⊢
    have h1 := raise_ex hA i hi
    have h2 := raise_ex hC i hi
    rw [h1.1, h1.2] at hxi
    rw [h2.1, h2.2, hxi.1, hxi.2]
    rcases ht with rfl | rfl <;> omega
theorem runL_cons (E : Eqn) (s : St) (l : List St) : runL E (s :: l) = if (stepEq E s).2 = 0 then runL (stepEq E s).1 l else none := by
  have hn : ∀ l : List St, l.foldl runS none = none := fun l => by induction l with
    | nil => rfl
    | cons s l ih => exact ih
  show (s :: l).foldl runS (some E) = _
  rw [List.foldl_cons]
  simp only [runS]
  split
  · rfl
  · exact hn l
theorem undo_run : ∀ (r : List St) (E A C D : Eqn), (∀ s ∈ r, isStep s = true ∧ isBad s = false) → runL E r.reverse = some A → sameX C A → runL C (r.map undoSt) = some D → sameX D E
  | [], E, A, C, D, _, h1, h2, h3 => by
    simp only [List.reverse_nil, runL, List.foldl_nil, List.map_nil, Option.some.injEq] at h1 h3
    subst h1 h3
    exact h2
  | s :: r, E, A, C, D, hs, h1, h2, h3 => by
    rw [List.reverse_cons, runL_snoc] at h1
    cases hA : runL E r.reverse with
    | none => rw [hA] at h1; simp [runS] at h1
    | some A0 =>
      rw [hA] at h1
      simp only [runS] at h1
      split at h1
      · rename_i h4
        simp only [Option.some.injEq] at h1
        subst h1
        rw [List.map_cons, runL_cons] at h3
        split at h3
        · rename_i h5
          have hh := hs s (by simp)
          exact undo_run r E A0 _ D (fun t ht => hs t (List.mem_cons_of_mem _ ht)) hA (undo_step hh.1 hh.2 h4 h2 h5) h3
        · cases h3
      · cases h1
theorem sameX_names {A B : Eqn} (hA : isEquation A = true) (hB : isEquation B = true) (h : sameX A B) : A.L.nm = B.L.nm ∧ A.L.pw = B.L.pw ∧ A.R.nm = B.R.nm ∧ A.R.pw = B.R.pw := by
  have key : ∀ {F G : Fm}, isFormula F = true → isFormula G = true → (∀ i : Nat, i < 26 → ex F (97 + (i : Int)) = ex G (97 + (i : Int))) → F.nm = G.nm ∧ F.pw = G.pw := fun {F G} hF hG he => by
    have e1 := made_self hF
    have e2 := made_self hG
    have e3 : made F.dg F.tn (fun i => ex F (97 + (i : Int))) 26 = made F.dg F.tn (fun i => ex G (97 + (i : Int))) 26 := made_congr he
    have n1 : F.nm = (made F.dg F.tn (fun i => ex G (97 + (i : Int))) 26).nm := by rw [← e3, e1]
    have n2 : F.pw = (made F.dg F.tn (fun i => ex G (97 + (i : Int))) 26).pw := by rw [← e3, e1]
    have m1 : G.nm = (made G.dg G.tn (fun i => ex G (97 + (i : Int))) 26).nm := by rw [e2]
    have m2 : G.pw = (made G.dg G.tn (fun i => ex G (97 + (i : Int))) 26).pw := by rw [e2]
    exact ⟨by rw [n1, m1]; rfl, by rw [n2, m2]; rfl⟩
  obtain ⟨a1, a2⟩ := isEquation_parts hA
  obtain ⟨b1, b2⟩ := isEquation_parts hB
  obtain ⟨k1, k2⟩ := key a1 b1 (fun i hi => (h i hi).1)
  obtain ⟨k3, k4⟩ := key a2 b2 (fun i hi => (h i hi).2)
  exact ⟨k1, k2, k3, k4⟩
theorem Run_parts {E : Eqn} {l : List St} (h : (RunSteps E l).2 = 0) : isEquation E = true ∧ stCode l = 0 ∧ runL E l = some (RunSteps E l).1 := by
  unfold RunSteps at h ⊢
  cases hE : isEquation E
  · rw [hE] at h; simp at h
  · rw [hE] at h
    simp only [if_true] at h ⊢
    by_cases hc : stCode l = 0
    · rw [if_pos hc] at h ⊢
      rw [runK_all] at h ⊢
      cases hr : runL E l with
      | none => rw [hr] at h; simp [ranOr] at h
      | some A => exact ⟨trivial, hc, rfl⟩
    · rw [if_neg hc] at h; exact absurd h hc
theorem Run_code {E : Eqn} {l : List St} (hE : isEquation E = true) (hc : stCode l = 0) : (RunSteps E l).2 = 0 ∨ (RunSteps E l).2 = 5 := by
  unfold RunSteps
  rw [hE]
  simp only [if_true]
  rw [if_pos hc]
  cases runK E l l.length with
  | none => exact .inr rfl
  | some A => exact .inl rfl
theorem undo_valid {l : List St} (hc : stCode l = 0) : stCode (l.reverse.map undoSt) = 0 := by
  have h1 := code_valid hc
  have h2 := code_len hc
  unfold stCode
  have ha : allSt (l.reverse.map undoSt) = true := by
    unfold allSt
    rw [List.all_eq_true]
    intro t ht
    obtain ⟨s, hs, rfl⟩ := List.mem_map.1 ht
    have hv := h1 s (List.mem_reverse.1 hs)
    obtain ⟨d, m, t⟩ := s
    unfold undoSt
    split
    · rename_i h3
      simp only at h3
      subst h3
      unfold isStep at hv ⊢
      simp at hv ⊢
      omega
    · exact hv
  rw [ha, if_pos rfl, if_pos (by simp; omega)]
theorem der_law {E : Eqn} {l : List St} (h : (RunSteps E l).2 = 0) : IsDerivation E l (RunSteps E l).1 = (true, 0) := by
  have hG := RunSteps_ok h
  unfold IsDerivation
  rw [hG]
  simp only [if_true]
  rw [if_pos h]
  simp [sameFm]
theorem undo_code {E : Eqn} {l : List St} (h : (RunSteps E l).2 = 0) : (UndoSteps l).2 = 0 ∨ (UndoSteps l).2 = 5 := by
  obtain ⟨_, hc, _⟩ := Run_parts h
  unfold UndoSteps
  rw [if_pos hc]
  split
  · exact .inl rfl
  · exact .inr rfl
theorem undo_law {E : Eqn} {l : List St} (h : (RunSteps E l).2 = 0) (hu : (UndoSteps l).2 = 0) :
    ((RunSteps (RunSteps E l).1 (UndoSteps l).1).2 = 0 ∨ (RunSteps (RunSteps E l).1 (UndoSteps l).1).2 = 5) ∧ (UndoSteps l).1.length ≤ 12 ∧
    ((RunSteps (RunSteps E l).1 (UndoSteps l).1).2 = 0 → (RunSteps (RunSteps E l).1 (UndoSteps l).1).1.L.nm = E.L.nm ∧ (RunSteps (RunSteps E l).1 (UndoSteps l).1).1.L.pw = E.L.pw ∧ (RunSteps (RunSteps E l).1 (UndoSteps l).1).1.R.nm = E.R.nm ∧ (RunSteps (RunSteps E l).1 (UndoSteps l).1).1.R.pw = E.R.pw) := by
  obtain ⟨hE, hc, hr⟩ := Run_parts h
  have hn : noBad l = true ∧ (UndoSteps l).1 = l.reverse.map undoSt := by
    unfold UndoSteps at hu ⊢
    rw [if_pos hc] at hu ⊢
    cases hb : noBad l
    · rw [hb] at hu; simp at hu
    · exact ⟨rfl, rfl⟩
  obtain ⟨hb, he⟩ := hn
  rw [he]
  have hx := RunSteps_ok h
  refine ⟨Run_code hx (undo_valid hc), by have := code_len hc; simpa using this, fun h7 => ?_⟩
  obtain ⟨_, _, hr2⟩ := Run_parts h7
  have hv : ∀ s ∈ l.reverse, isStep s = true ∧ isBad s = false := fun s hs => by
    have hs' := List.mem_reverse.1 hs
    refine ⟨code_valid hc s hs', ?_⟩
    unfold noBad at hb
    rw [List.all_eq_true] at hb
    have := hb s hs'
    simpa using this
  have key := undo_run l.reverse E _ _ _ hv (by rw [List.reverse_reverse]; exact hr) (fun i _ => ⟨rfl, rfl⟩) hr2
  exact sameX_names (RunSteps_ok h7) hE key
end Go.Z
end
section
namespace Go.K
open Go.RowKit
theorem st_alloc {W : World} {g : Nat} {d m t : Int} {T : TypeId} (hg : g = W.heap.size) : K.recs true K.StR (W.alloc (.cells #[.int .i64 d, .int .u8 m, .int .i64 t] T)) g (g + 1) (.slice (some ⟨g, 0, none⟩) 1 1) [⟨d, m, t⟩] := by
  have hb := block_new (o := .cells #[.int .i64 d, .int .u8 m, .int .i64 t] T) hg
  refine ⟨_, 1, rfl, fun _ => ⟨g, 0, rfl, Nat.le_refl _, Nat.lt_succ_self _, fun i hi j hj => ?_, fun _ i j hi hj => thaw_at hb⟩⟩
  obtain rfl : i = 0 := by simpa using hi
  have hj3 : j < 3 := hj
  have e0 : 0 + 0 * K.StR.n + j = j := by simp
  rw [e0]
  match j, hj3 with
  | 0, _ => exact cell_at hb rfl
  | 1, _ => exact cell_at hb rfl
  | 2, _ => exact cell_at hb rfl
end Go.K
namespace Go.Proofs.Ythmnlbgbacbocaa
open Go.RowKit
set_option maxHeartbeats 3200000 in
theorem spec_ApplyStep (E : Z.Eqn) (s : Z.St) {loEL hiEL loER hiER : Nat} {pEL pER : Value} (w : World)  (hmEL : E.L.pw.length ≤ 1048576) (hnEL : E.L.nm.size ≤ 1048576) (hmER : E.R.pw.length ≤ 1048576) (hnER : E.R.nm.size ≤ 1048576) (hEL : K.ints w loEL hiEL pEL E.L.pw) (hER : K.ints w loER hiER pER E.R.pw) :
    Calls Try.prog 76 #[.agg #[.int .i64 E.L.dg, .int .i64 E.L.tn, .string E.L.nm, pEL, .int .i64 E.R.dg, .int .i64 E.R.tn, .string E.R.nm, pER], .agg #[.int .i64 s.kd, .int .u8 s.nm, .int .i64 s.pw]] w fun e w' => (∃ p' q', e = .returned (.tuple #[.agg #[.int .i64 ((Z.ApplyStep E s).1.L).dg, .int .i64 ((Z.ApplyStep E s).1.L).tn, .string ((Z.ApplyStep E s).1.L).nm, p', .int .i64 ((Z.ApplyStep E s).1.R).dg, .int .i64 ((Z.ApplyStep E s).1.R).tn, .string ((Z.ApplyStep E s).1.R).nm, q'], .int .i64 ((Z.ApplyStep E s).2)]) ∧ K.ints w' w.heap.size w'.heap.size p' (Z.ApplyStep E s).1.L.pw ∧ K.ints w' w.heap.size w'.heap.size q' (Z.ApplyStep E s).1.R.pw) ∧ K.Ext w w' := by
  have hEL_ := hEL
  have shEL := hEL
  obtain ⟨oEL, cEL, rfl, _⟩ := shEL
  have hER_ := hER
  have shER := hER
  obtain ⟨oER, cER, rfl, _⟩ := shER
  obtain ⟨M, hM⟩ : ∃ M, M = Z.RunSteps E [s] := ⟨_, rfl⟩
  have HE : Hid (Z.ApplyStep E s = M) := Z.hide (by unfold Z.ApplyStep; rw [← hM])
  have HR : ∀ {a b c d x y : Nat} {p q v : Value} (w : World), K.ints w a b p E.L.pw → K.ints w c d q E.R.pw → K.recs false K.StR w x y v [⟨s.kd, s.nm, s.pw⟩] → Calls Try.prog 73 #[.agg #[.int .i64 E.L.dg, .int .i64 E.L.tn, .string E.L.nm, p, .int .i64 E.R.dg, .int .i64 E.R.tn, .string E.R.nm, q], v] w fun e w' => (∃ p' q', e = .returned (.tuple #[.agg #[.int .i64 M.1.L.dg, .int .i64 M.1.L.tn, .string M.1.L.nm, p', .int .i64 M.1.R.dg, .int .i64 M.1.R.tn, .string M.1.R.nm, q'], .int .i64 M.2]) ∧ K.ints w' w.heap.size w'.heap.size p' M.1.L.pw ∧ K.ints w' w.heap.size w'.heap.size q' M.1.R.pw) ∧ K.Ext w w' := fun w h h' h'' => by
    rw [hM]; exact spec_RunSteps E [s] w hmEL hnEL hmER hnER h h' (by simp) h''
  clear hM
  have X0 : K.Ext w w := K.Ext.refl w
  go_enter Try.func76, Try.ntmps76
  go_wp2_with (go_at_call 73; refine K.call (by with_reducible rfl) (by with_reducible rfl) (HR _ (K.ints.alloc (K.ints.alloc (K.ints.alloc (K.ints.alloc hEL_ _) _) _) _) (K.ints.alloc (K.ints.alloc (K.ints.alloc (K.ints.alloc hER_ _) _) _) _) (K.recs.plain (show K.recs true K.StR _ (w.heap.size + 1 + 1 + 1) (w.heap.size + 1 + 1 + 1 + 1) (.slice (some ⟨w.heap.size + 1 + 1 + 1, 0, none⟩) 1 1) ([⟨s.kd, s.nm, s.pw⟩]) from by repeat' (first | with_reducible refine K.recs.set (by decide) ?_ _ ?_ _ | with_reducible refine K.st_alloc ?_ | with_reducible refine K.recs.alloc ?_ _ | with_reducible refine K.recs.drew ?_ | (dsimp only; omega) | omega | (simp; done) | (simp; omega))))) ?_; rintro e w1 ⟨⟨p1, q1, rfl, g1, g1_⟩, x1⟩; obtain ⟨o1, k1, rfl, _⟩ := K.ints.mono g1 (Nat.le_refl _) (Nat.le_refl _); obtain ⟨o1_, k1_, rfl, _⟩ := K.ints.mono g1_ (Nat.le_refl _) (Nat.le_refl _); have F4_1 : K.ints w1 (w.heap.size + 4) (w1.heap.size) (.slice o1 M.1.L.pw.length k1) (M.1.L.pw) := g1.mono (by simp) (Nat.le_refl _); have F5_1 : K.ints w1 (w.heap.size + 4) (w1.heap.size) (.slice o1_ M.1.R.pw.length k1_) (M.1.R.pw) := g1_.mono (by simp) (Nat.le_refl _); clear g1 g1_; have s1 : w.heap.size + 4 ≤ w1.heap.size := (by have h_ := x1.size; (try simp at h_); omega); have X1 := K.Ext.trans (K.Ext.alloc (K.Ext.alloc (K.Ext.alloc (K.Ext.alloc X0 _) _) _) _) x1; obtain ⟨c1_0_0, c1_0_1, c1_0_2, c1_0_3, c1_0_4, c1_0_5, c1_0_6, c1_0_7⟩ := K.c8 x1 (w.heap.size) (.int .i64 E.L.dg) (.int .i64 E.L.tn) (.string E.L.nm) (.slice oEL E.L.pw.length cEL) (.int .i64 E.R.dg) (.int .i64 E.R.tn) (.string E.R.nm) (.slice oER E.R.pw.length cER) (by go_simp); have z1_0 : w.heap.size < w1.heap.size := World.block_lt_of_cell? w1 _ c1_0_0; have d1_0 : ¬ (w.heap.size = w1.heap.size) := (by omega); have e1_0 : ¬ (w1.heap.size = w.heap.size) := (by omega); obtain ⟨c1_1_0, c1_1_1, c1_1_2⟩ := K.c3 x1 (w.heap.size + 1) (.int .i64 s.kd) (.int .u8 s.nm) (.int .i64 s.pw) (by go_simp); have z1_1 : w.heap.size + 1 < w1.heap.size := World.block_lt_of_cell? w1 _ c1_1_0; have d1_1 : ¬ (w.heap.size + 1 = w1.heap.size) := (by omega); have e1_1 : ¬ (w1.heap.size = w.heap.size + 1) := (by omega); have n1_0 : ¬ (w.heap.size + 1 = w.heap.size) := (by omega); have n0_1 : ¬ (w.heap.size = w.heap.size + 1) := (by omega); obtain ⟨c1_2_0, c1_2_1, c1_2_2, c1_2_3, c1_2_4, c1_2_5, c1_2_6, c1_2_7⟩ := K.c8 x1 (w.heap.size + 1 + 1) (.int .i64 0) (.int .i64 0) (.string ⟨#[]⟩) (.slice none 0 0) (.int .i64 0) (.int .i64 0) (.string ⟨#[]⟩) (.slice none 0 0) (by go_simp); obtain ⟨f1_2_0, f1_2_1, f1_2_2, f1_2_3, f1_2_4, f1_2_5, f1_2_6, f1_2_7⟩ := K.f8 x1 (w.heap.size + 1 + 1) (by go_simp); have z1_2 : w.heap.size + 1 + 1 < w1.heap.size := World.block_lt_of_cell? w1 _ c1_2_0; have d1_2 : ¬ (w.heap.size + 1 + 1 = w1.heap.size) := (by omega); have e1_2 : ¬ (w1.heap.size = w.heap.size + 1 + 1) := (by omega); have n2_0 : ¬ (w.heap.size + 1 + 1 = w.heap.size) := (by omega); have n0_2 : ¬ (w.heap.size = w.heap.size + 1 + 1) := (by omega); have n2_1 : ¬ (w.heap.size + 1 + 1 = w.heap.size + 1) := (by omega); have n1_2 : ¬ (w.heap.size + 1 = w.heap.size + 1 + 1) := (by omega); have F1_1 := K.ints.ext (K.ints.alloc (K.ints.alloc (K.ints.alloc (K.ints.alloc hEL_ _) _) _) _) x1; have F2_1 := K.ints.ext (K.ints.alloc (K.ints.alloc (K.ints.alloc (K.ints.alloc hER_ _) _) _) _) x1; have F3_1 := K.recs.ext (show K.recs true K.StR _ (w.heap.size + 1 + 1 + 1) (w.heap.size + 1 + 1 + 1 + 1) (.slice (some ⟨w.heap.size + 1 + 1 + 1, 0, none⟩) 1 1) ([⟨s.kd, s.nm, s.pw⟩]) from by repeat' (first | with_reducible refine K.recs.set (by decide) ?_ _ ?_ _ | with_reducible refine K.st_alloc ?_ | with_reducible refine K.recs.alloc ?_ _ | with_reducible refine K.recs.drew ?_ | (dsimp only; omega) | omega | (simp; done) | (simp; omega))) x1; clear hEL_ hER_)
  rw [HE.out]
  refine bodyPost_ret (v := .tuple #[.agg #[.int .i64 M.1.L.dg, .int .i64 M.1.L.tn, .string M.1.L.nm, .slice o1 M.1.L.pw.length k1, .int .i64 M.1.R.dg, .int .i64 M.1.R.tn, .string M.1.R.nm, .slice o1_ M.1.R.pw.length k1_], .int .i64 M.2]) (by unfold results; rw [Try.results76]; go_simp) rfl ⟨⟨_, _, rfl, ?_, ?_⟩, ?_⟩
  · refine K.ints.mono (lo := w.heap.size + 4) (hi := w1.heap.size) ?_ (by first | omega | (simp; done) | (simp; omega)) (by first | omega | (simp; done) | (simp; omega))
    repeat' (first | with_reducible exact F4_1 | with_reducible refine K.ints.set ?_ _ ?_ _ | with_reducible refine K.ints.alloc ?_ _ | with_reducible refine K.ints.drew ?_ | (dsimp only; omega) | omega | (simp; done) | (simp; omega))
  · refine K.ints.mono (lo := w.heap.size + 4) (hi := w1.heap.size) ?_ (by first | omega | (simp; done) | (simp; omega)) (by first | omega | (simp; done) | (simp; omega))
    repeat' (first | with_reducible exact F5_1 | with_reducible refine K.ints.set ?_ _ ?_ _ | with_reducible refine K.ints.alloc ?_ _ | with_reducible refine K.ints.drew ?_ | (dsimp only; omega) | omega | (simp; done) | (simp; omega))
  · repeat with_reducible refine K.Ext.setCell ?_ (by dsimp only; omega) _
    exact (by repeat' (first | with_reducible exact X1 | with_reducible refine K.Ext.setCell ?_ ?_ _ | with_reducible refine K.Ext.alloc ?_ _ | with_reducible refine K.Ext.drew ?_ | (dsimp only; omega) | omega | (simp; omega)))
end Go.Proofs.Ythmnlbgbacbocaa
end
section
namespace Go.Proofs.Ythmnlbgbacbocaa
open Go.RowKit
theorem impl_RunN (E : Z.Eqn) (xs : List Z.St) {r : Z.Eqn × Int} (hr : Z.RunSteps E xs = r) {l1 r1 l2 r2 l3 r3 : Nat} {p q v : Value} (w : World) (hm : E.L.pw.length ≤ 1048576) (hn : E.L.nm.size ≤ 1048576) (hm' : E.R.pw.length ≤ 1048576) (hn' : E.R.nm.size ≤ 1048576) (h : K.ints w l1 r1 p E.L.pw) (h' : K.ints w l2 r2 q E.R.pw) (hx : xs.length ≤ 1048576) (hxs : K.recs false K.StR w l3 r3 v xs) :
    Calls Try.prog 72 #[.agg #[.int .i64 E.L.dg, .int .i64 E.L.tn, .string E.L.nm, p, .int .i64 E.R.dg, .int .i64 E.R.tn, .string E.R.nm, q], v] w fun e w' => (∃ p' q' m, e = .returned (.tuple #[.agg #[.int .i64 r.1.L.dg, .int .i64 r.1.L.tn, .string r.1.L.nm, p', .int .i64 r.1.R.dg, .int .i64 r.1.R.tn, .string r.1.R.nm, q'], .int .i64 r.2]) ∧ w.heap.size ≤ m ∧ m ≤ w'.heap.size ∧ K.own w' w.heap.size m p' r.1.L.pw ∧ K.own w' m w'.heap.size q' r.1.R.pw) ∧ K.Ext w w' := by subst hr; exact impl_RunSteps E xs w hm hn hm' hn' h h' hx hxs
set_option maxRecDepth 100000 in
set_option maxHeartbeats 12800000 in
theorem law_FnDerivations {n : Nat} {v : Value} (w : World) (h : K.byts w w.heap.size v n) :
    Calls Try.prog 8 #[v] w fun e w' => e = .returned (.bool true) ∧ K.Ext w w' := by
  have F0 : K.Ext w w := K.Ext.refl _
  rcases Nat.lt_or_ge 4096 n with hn | hn
  · go_enter Try.func8, Try.ntmps8
    go_wp2_with fail
    refine K.call (by with_reducible rfl) (by with_reducible rfl) (big_yes _ hn h) ?_
    rintro e w1 ⟨rfl, rfl⟩
    go_wp2_with fail
    go_ret
    exact ⟨rfl, F0⟩
  go_enter Try.func8, Try.ntmps8
  go_wp2_with fail
  refine K.call (by with_reducible rfl) (by with_reducible rfl) (big_no _ hn h) ?_
  rintro e w1 ⟨rfl, rfl⟩
  go_wp2_with fail
  refine K.call (by with_reducible rfl) (by with_reducible rfl) (DrawRunSteps_any _ hn (K.Ext.size (K.bex F0)) (h.ext (K.bex F0))) ?_
  rintro e w1 ⟨⟨E, pE, qE, vX, xs, rfl, ⟨a1, a2⟩, ⟨a3, a4⟩, hE1, hE2, ⟨a5, a6⟩, hX⟩, f1⟩
  obtain ⟨oEL, kEL, rfl, _⟩ := id (hE1)
  have IEL_1 : K.ints w1 0 w1.heap.size (.slice oEL E.L.pw.length kEL) E.L.pw := (hE1).mono (Nat.zero_le _) (by omega)
  obtain ⟨oER, kER, rfl, _⟩ := id (hE2)
  have IER_1 : K.ints w1 0 w1.heap.size (.slice oER E.R.pw.length kER) E.R.pw := (hE2).mono (Nat.zero_le _) (by omega)
  obtain ⟨oX, kX, rfl, _⟩ := id (hX)
  have IX_1 : K.recs false K.StR w1 0 w1.heap.size (.slice oX xs.length kX) xs := K.recs.mono (hX) (Nat.zero_le _) (by omega)
  have F1 : K.Ext w w1 := K.Ext.trans (K.bex F0) f1
  clear f1
  go_wp2_with fail
  refine K.call (by with_reducible rfl) (by with_reducible rfl) (impl_RunSteps E xs _ (by omega) (by omega) (by omega) (by omega) (K.bin IEL_1) (K.bin IER_1) (by omega) (K.bre IX_1)) ?_
  rintro e w2 ⟨⟨pR, qR, mR, rfl, uR, vR, hR, jR⟩, f2⟩
  have JRL := K.own.ints hR
  obtain ⟨oRL, kRL, rfl, _⟩ := id (JRL)
  have IRL_2 : K.ints w2 0 w2.heap.size (.slice oRL ((Z.RunSteps E xs).1.L).pw.length kRL) ((Z.RunSteps E xs).1.L).pw := (JRL).mono (Nat.zero_le _) (by omega)
  have JRR := K.own.ints jR
  obtain ⟨oRR, kRR, rfl, _⟩ := id (JRR)
  have IRR_2 : K.ints w2 0 w2.heap.size (.slice oRR ((Z.RunSteps E xs).1.R).pw.length kRR) ((Z.RunSteps E xs).1.R).pw := (JRR).mono (Nat.zero_le _) (by omega)
  have F2 : K.Ext w w2 := K.Ext.trans (K.bex F1) f2
  have c2_0_0 : w2.cell? ⟨w1.heap.size, 0, none⟩ = some (.int .i64 E.L.dg) := f2.cell_of (by go_simp)
  have c2_0_1 : w2.cell? ⟨w1.heap.size, 1, none⟩ = some (.int .i64 E.L.tn) := f2.cell_of (by go_simp)
  have c2_0_2 : w2.cell? ⟨w1.heap.size, 2, none⟩ = some (.string E.L.nm) := f2.cell_of (by go_simp)
  have c2_0_3 : w2.cell? ⟨w1.heap.size, 3, none⟩ = some (.slice oEL E.L.pw.length kEL) := f2.cell_of (by go_simp)
  have c2_0_4 : w2.cell? ⟨w1.heap.size, 4, none⟩ = some (.int .i64 E.R.dg) := f2.cell_of (by go_simp)
  have c2_0_5 : w2.cell? ⟨w1.heap.size, 5, none⟩ = some (.int .i64 E.R.tn) := f2.cell_of (by go_simp)
  have c2_0_6 : w2.cell? ⟨w1.heap.size, 6, none⟩ = some (.string E.R.nm) := f2.cell_of (by go_simp)
  have c2_0_7 : w2.cell? ⟨w1.heap.size, 7, none⟩ = some (.slice oER E.R.pw.length kER) := f2.cell_of (by go_simp)
  have y2_0 : w1.heap.size < w2.heap.size := World.block_lt_of_cell? w2 _ c2_0_0
  have IEL_2 := K.ints.ext (K.bin IEL_1) f2
  have IER_2 := K.ints.ext (K.bin IER_1) f2
  have IX_2 := K.recs.ext (K.bre IX_1) f2
  clear IEL_1 IER_1 IX_1 F1 f2
  go_wp2_with fail
  refine K.call (by with_reducible rfl) (by with_reducible rfl) (spec_RunSteps E xs _ (by omega) (by omega) (by omega) (by omega) (K.bin IEL_2) (K.bin IER_2) (by omega) (K.bre IX_2)) ?_
  rintro e w3 ⟨⟨pY, qY, rfl, hY, jY⟩, f3⟩
  obtain ⟨oYL, kYL, rfl, _⟩ := id (hY)
  have IYL_3 : K.ints w3 0 w3.heap.size (.slice oYL ((Z.RunSteps E xs).1.L).pw.length kYL) ((Z.RunSteps E xs).1.L).pw := (hY).mono (Nat.zero_le _) (by omega)
  obtain ⟨oYR, kYR, rfl, _⟩ := id (jY)
  have IYR_3 : K.ints w3 0 w3.heap.size (.slice oYR ((Z.RunSteps E xs).1.R).pw.length kYR) ((Z.RunSteps E xs).1.R).pw := (jY).mono (Nat.zero_le _) (by omega)
  have u3_0_1 : w1.heap.size < w2.heap.size + 1 := (by omega)
  have F3 : K.Ext w w3 := K.Ext.trans (K.bex F2) f3
  obtain ⟨c3_0_0, c3_0_1, c3_0_2, c3_0_3, c3_0_4, c3_0_5, c3_0_6, c3_0_7, y3_0⟩ := f3.q8 c2_0_0 c2_0_1 c2_0_2 c2_0_3 c2_0_4 c2_0_5 c2_0_6 c2_0_7
  have c3_1_0 : w3.cell? ⟨w2.heap.size, 0, none⟩ = some (.int .i64 ((Z.RunSteps E xs).1.L).dg) := f3.cell_of (by go_simp)
  have c3_1_1 : w3.cell? ⟨w2.heap.size, 1, none⟩ = some (.int .i64 ((Z.RunSteps E xs).1.L).tn) := f3.cell_of (by go_simp)
  have c3_1_2 : w3.cell? ⟨w2.heap.size, 2, none⟩ = some (.string ((Z.RunSteps E xs).1.L).nm) := f3.cell_of (by go_simp)
  have c3_1_3 : w3.cell? ⟨w2.heap.size, 3, none⟩ = some (.slice oRL ((Z.RunSteps E xs).1.L).pw.length kRL) := f3.cell_of (by go_simp)
  have c3_1_4 : w3.cell? ⟨w2.heap.size, 4, none⟩ = some (.int .i64 ((Z.RunSteps E xs).1.R).dg) := f3.cell_of (by go_simp)
  have c3_1_5 : w3.cell? ⟨w2.heap.size, 5, none⟩ = some (.int .i64 ((Z.RunSteps E xs).1.R).tn) := f3.cell_of (by go_simp)
  have c3_1_6 : w3.cell? ⟨w2.heap.size, 6, none⟩ = some (.string ((Z.RunSteps E xs).1.R).nm) := f3.cell_of (by go_simp)
  have c3_1_7 : w3.cell? ⟨w2.heap.size, 7, none⟩ = some (.slice oRR ((Z.RunSteps E xs).1.R).pw.length kRR) := f3.cell_of (by go_simp)
  have y3_1 : w2.heap.size < w3.heap.size := World.block_lt_of_cell? w3 _ c3_1_0
  have IEL_3 := K.ints.ext (K.bin IEL_2) f3
  have IER_3 := K.ints.ext (K.bin IER_2) f3
  have IX_3 := K.recs.ext (K.bre IX_2) f3
  have IRL_3 := K.ints.ext (K.bin IRL_2) f3
  have IRR_3 := K.ints.ext (K.bin IRR_2) f3
  clear c2_0_0 c2_0_1 c2_0_2 c2_0_3 c2_0_4 c2_0_5 c2_0_6 c2_0_7 y2_0 IEL_2 IER_2 IX_2 IRL_2 IRR_2 F2 f3 u3_0_1
  go_wp2_with fail
  refine K.call (by with_reducible rfl) (by with_reducible rfl) (DrawApplyStep_any _ hn (K.Ext.size (K.bex F3)) (h.ext (K.bex F3))) ?_
  rintro e w4 ⟨⟨A, pA, qA, s, rfl, ⟨b1, b2⟩, ⟨b3, b4⟩, hA1, hA2, b5, b6⟩, f4⟩
  obtain ⟨oAL, kAL, rfl, _⟩ := id (hA1)
  have IAL_4 : K.ints w4 0 w4.heap.size (.slice oAL A.L.pw.length kAL) A.L.pw := (hA1).mono (Nat.zero_le _) (by omega)
  obtain ⟨oAR, kAR, rfl, _⟩ := id (hA2)
  have IAR_4 : K.ints w4 0 w4.heap.size (.slice oAR A.R.pw.length kAR) A.R.pw := (hA2).mono (Nat.zero_le _) (by omega)
  have u4_0_1 : w1.heap.size < w3.heap.size + 1 := (by omega)
  have u4_1_1 : w2.heap.size < w3.heap.size + 1 := (by omega)
  have F4 : K.Ext w w4 := K.Ext.trans (K.bex F3) f4
  obtain ⟨c4_0_0, c4_0_1, c4_0_2, c4_0_3, c4_0_4, c4_0_5, c4_0_6, c4_0_7, y4_0⟩ := f4.q8 c3_0_0 c3_0_1 c3_0_2 c3_0_3 c3_0_4 c3_0_5 c3_0_6 c3_0_7
  obtain ⟨c4_1_0, c4_1_1, c4_1_2, c4_1_3, c4_1_4, c4_1_5, c4_1_6, c4_1_7, y4_1⟩ := f4.q8 c3_1_0 c3_1_1 c3_1_2 c3_1_3 c3_1_4 c3_1_5 c3_1_6 c3_1_7
  have c4_2_0 : w4.cell? ⟨w3.heap.size, 0, none⟩ = some (.int .i64 ((Z.RunSteps E xs).1.L).dg) := f4.cell_of (by go_simp)
  have c4_2_1 : w4.cell? ⟨w3.heap.size, 1, none⟩ = some (.int .i64 ((Z.RunSteps E xs).1.L).tn) := f4.cell_of (by go_simp)
  have c4_2_2 : w4.cell? ⟨w3.heap.size, 2, none⟩ = some (.string ((Z.RunSteps E xs).1.L).nm) := f4.cell_of (by go_simp)
  have c4_2_3 : w4.cell? ⟨w3.heap.size, 3, none⟩ = some (.slice oYL ((Z.RunSteps E xs).1.L).pw.length kYL) := f4.cell_of (by go_simp)
  have c4_2_4 : w4.cell? ⟨w3.heap.size, 4, none⟩ = some (.int .i64 ((Z.RunSteps E xs).1.R).dg) := f4.cell_of (by go_simp)
  have c4_2_5 : w4.cell? ⟨w3.heap.size, 5, none⟩ = some (.int .i64 ((Z.RunSteps E xs).1.R).tn) := f4.cell_of (by go_simp)
  have c4_2_6 : w4.cell? ⟨w3.heap.size, 6, none⟩ = some (.string ((Z.RunSteps E xs).1.R).nm) := f4.cell_of (by go_simp)
  have c4_2_7 : w4.cell? ⟨w3.heap.size, 7, none⟩ = some (.slice oYR ((Z.RunSteps E xs).1.R).pw.length kYR) := f4.cell_of (by go_simp)
  have y4_2 : w3.heap.size < w4.heap.size := World.block_lt_of_cell? w4 _ c4_2_0
  have IEL_4 := K.ints.ext (K.bin IEL_3) f4
  have IER_4 := K.ints.ext (K.bin IER_3) f4
  have IX_4 := K.recs.ext (K.bre IX_3) f4
  have IRL_4 := K.ints.ext (K.bin IRL_3) f4
  have IRR_4 := K.ints.ext (K.bin IRR_3) f4
  have IYL_4 := K.ints.ext (K.bin IYL_3) f4
  have IYR_4 := K.ints.ext (K.bin IYR_3) f4
  clear c3_0_0 c3_0_1 c3_0_2 c3_0_3 c3_0_4 c3_0_5 c3_0_6 c3_0_7 y3_0 c3_1_0 c3_1_1 c3_1_2 c3_1_3 c3_1_4 c3_1_5 c3_1_6 c3_1_7 y3_1 IEL_3 IER_3 IX_3 IRL_3 IRR_3 IYL_3 IYR_3 F3 f4 u4_0_1 u4_1_1
  go_wp2_with fail
  refine K.call (by with_reducible rfl) (by with_reducible rfl) (impl_ApplyStep A s _ (by omega) (by omega) (by omega) (by omega) (K.bin IAL_4) (K.bin IAR_4)) ?_
  rintro e w5 ⟨⟨pS, qS, mS, rfl, uS, vS, hS, jS⟩, f5⟩
  have JSL := K.own.ints hS
  obtain ⟨oSL, kSL, rfl, _⟩ := id (JSL)
  have ISL_5 : K.ints w5 0 w5.heap.size (.slice oSL ((Z.ApplyStep A s).1.L).pw.length kSL) ((Z.ApplyStep A s).1.L).pw := (JSL).mono (Nat.zero_le _) (by omega)
  have JSR := K.own.ints jS
  obtain ⟨oSR, kSR, rfl, _⟩ := id (JSR)
  have ISR_5 : K.ints w5 0 w5.heap.size (.slice oSR ((Z.ApplyStep A s).1.R).pw.length kSR) ((Z.ApplyStep A s).1.R).pw := (JSR).mono (Nat.zero_le _) (by omega)
  have u5_0_1 : w1.heap.size < w4.heap.size + 1 := (by omega)
  have u5_0_2 : w1.heap.size < w4.heap.size + 1 + 1 := (by omega)
  have u5_1_1 : w2.heap.size < w4.heap.size + 1 := (by omega)
  have u5_1_2 : w2.heap.size < w4.heap.size + 1 + 1 := (by omega)
  have u5_2_1 : w3.heap.size < w4.heap.size + 1 := (by omega)
  have u5_2_2 : w3.heap.size < w4.heap.size + 1 + 1 := (by omega)
  have F5 : K.Ext w w5 := K.Ext.trans (K.bex F4) f5
  obtain ⟨c5_0_0, c5_0_1, c5_0_2, c5_0_3, c5_0_4, c5_0_5, c5_0_6, c5_0_7, y5_0⟩ := f5.q8 c4_0_0 c4_0_1 c4_0_2 c4_0_3 c4_0_4 c4_0_5 c4_0_6 c4_0_7
  obtain ⟨c5_1_0, c5_1_1, c5_1_2, c5_1_3, c5_1_4, c5_1_5, c5_1_6, c5_1_7, y5_1⟩ := f5.q8 c4_1_0 c4_1_1 c4_1_2 c4_1_3 c4_1_4 c4_1_5 c4_1_6 c4_1_7
  obtain ⟨c5_2_0, c5_2_1, c5_2_2, c5_2_3, c5_2_4, c5_2_5, c5_2_6, c5_2_7, y5_2⟩ := f5.q8 c4_2_0 c4_2_1 c4_2_2 c4_2_3 c4_2_4 c4_2_5 c4_2_6 c4_2_7
  have c5_3_0 : w5.cell? ⟨w4.heap.size, 0, none⟩ = some (.int .i64 A.L.dg) := f5.cell_of (by go_simp)
  have c5_3_1 : w5.cell? ⟨w4.heap.size, 1, none⟩ = some (.int .i64 A.L.tn) := f5.cell_of (by go_simp)
  have c5_3_2 : w5.cell? ⟨w4.heap.size, 2, none⟩ = some (.string A.L.nm) := f5.cell_of (by go_simp)
  have c5_3_3 : w5.cell? ⟨w4.heap.size, 3, none⟩ = some (.slice oAL A.L.pw.length kAL) := f5.cell_of (by go_simp)
  have c5_3_4 : w5.cell? ⟨w4.heap.size, 4, none⟩ = some (.int .i64 A.R.dg) := f5.cell_of (by go_simp)
  have c5_3_5 : w5.cell? ⟨w4.heap.size, 5, none⟩ = some (.int .i64 A.R.tn) := f5.cell_of (by go_simp)
  have c5_3_6 : w5.cell? ⟨w4.heap.size, 6, none⟩ = some (.string A.R.nm) := f5.cell_of (by go_simp)
  have c5_3_7 : w5.cell? ⟨w4.heap.size, 7, none⟩ = some (.slice oAR A.R.pw.length kAR) := f5.cell_of (by go_simp)
  have y5_3 : w4.heap.size < w5.heap.size := World.block_lt_of_cell? w5 _ c5_3_0
  have c5_4_0 : w5.cell? ⟨w4.heap.size + 1, 0, none⟩ = some (.int .i64 s.kd) := f5.cell_of (by go_simp)
  have c5_4_1 : w5.cell? ⟨w4.heap.size + 1, 1, none⟩ = some (.int .u8 s.nm) := f5.cell_of (by go_simp)
  have c5_4_2 : w5.cell? ⟨w4.heap.size + 1, 2, none⟩ = some (.int .i64 s.pw) := f5.cell_of (by go_simp)
  have y5_4 : w4.heap.size + 1 < w5.heap.size := World.block_lt_of_cell? w5 _ c5_4_0
  have IEL_5 := K.ints.ext (K.bin IEL_4) f5
  have IER_5 := K.ints.ext (K.bin IER_4) f5
  have IX_5 := K.recs.ext (K.bre IX_4) f5
  have IRL_5 := K.ints.ext (K.bin IRL_4) f5
  have IRR_5 := K.ints.ext (K.bin IRR_4) f5
  have IYL_5 := K.ints.ext (K.bin IYL_4) f5
  have IYR_5 := K.ints.ext (K.bin IYR_4) f5
  have IAL_5 := K.ints.ext (K.bin IAL_4) f5
  have IAR_5 := K.ints.ext (K.bin IAR_4) f5
  clear c4_0_0 c4_0_1 c4_0_2 c4_0_3 c4_0_4 c4_0_5 c4_0_6 c4_0_7 y4_0 c4_1_0 c4_1_1 c4_1_2 c4_1_3 c4_1_4 c4_1_5 c4_1_6 c4_1_7 y4_1 c4_2_0 c4_2_1 c4_2_2 c4_2_3 c4_2_4 c4_2_5 c4_2_6 c4_2_7 y4_2 IEL_4 IER_4 IX_4 IRL_4 IRR_4 IYL_4 IYR_4 IAL_4 IAR_4 F4 f5 u5_0_1 u5_0_2 u5_1_1 u5_1_2 u5_2_1 u5_2_2
  go_wp2_with fail
  refine K.call (by with_reducible rfl) (by with_reducible rfl) (spec_ApplyStep A s _ (by omega) (by omega) (by omega) (by omega) (K.bin IAL_5) (K.bin IAR_5)) ?_
  rintro e w6 ⟨⟨pV, qV, rfl, hV, jV⟩, f6⟩
  obtain ⟨oVL, kVL, rfl, _⟩ := id (hV)
  have IVL_6 : K.ints w6 0 w6.heap.size (.slice oVL ((Z.ApplyStep A s).1.L).pw.length kVL) ((Z.ApplyStep A s).1.L).pw := (hV).mono (Nat.zero_le _) (by omega)
  obtain ⟨oVR, kVR, rfl, _⟩ := id (jV)
  have IVR_6 : K.ints w6 0 w6.heap.size (.slice oVR ((Z.ApplyStep A s).1.R).pw.length kVR) ((Z.ApplyStep A s).1.R).pw := (jV).mono (Nat.zero_le _) (by omega)
  have u6_0_1 : w1.heap.size < w5.heap.size + 1 := (by omega)
  have u6_1_1 : w2.heap.size < w5.heap.size + 1 := (by omega)
  have u6_2_1 : w3.heap.size < w5.heap.size + 1 := (by omega)
  have u6_3_1 : w4.heap.size < w5.heap.size + 1 := (by omega)
  have u6_4_1 : w4.heap.size + 1 < w5.heap.size + 1 := (by omega)
  have F6 : K.Ext w w6 := K.Ext.trans (K.bex F5) f6
  obtain ⟨c6_0_0, c6_0_1, c6_0_2, c6_0_3, c6_0_4, c6_0_5, c6_0_6, c6_0_7, y6_0⟩ := f6.q8 c5_0_0 c5_0_1 c5_0_2 c5_0_3 c5_0_4 c5_0_5 c5_0_6 c5_0_7
  obtain ⟨c6_1_0, c6_1_1, c6_1_2, c6_1_3, c6_1_4, c6_1_5, c6_1_6, c6_1_7, y6_1⟩ := f6.q8 c5_1_0 c5_1_1 c5_1_2 c5_1_3 c5_1_4 c5_1_5 c5_1_6 c5_1_7
  obtain ⟨c6_2_0, c6_2_1, c6_2_2, c6_2_3, c6_2_4, c6_2_5, c6_2_6, c6_2_7, y6_2⟩ := f6.q8 c5_2_0 c5_2_1 c5_2_2 c5_2_3 c5_2_4 c5_2_5 c5_2_6 c5_2_7
  obtain ⟨c6_3_0, c6_3_1, c6_3_2, c6_3_3, c6_3_4, c6_3_5, c6_3_6, c6_3_7, y6_3⟩ := f6.q8 c5_3_0 c5_3_1 c5_3_2 c5_3_3 c5_3_4 c5_3_5 c5_3_6 c5_3_7
  obtain ⟨c6_4_0, c6_4_1, c6_4_2, y6_4⟩ := f6.q3 c5_4_0 c5_4_1 c5_4_2
  have c6_5_0 : w6.cell? ⟨w5.heap.size, 0, none⟩ = some (.int .i64 ((Z.ApplyStep A s).1.L).dg) := f6.cell_of (by go_simp)
  have c6_5_1 : w6.cell? ⟨w5.heap.size, 1, none⟩ = some (.int .i64 ((Z.ApplyStep A s).1.L).tn) := f6.cell_of (by go_simp)
  have c6_5_2 : w6.cell? ⟨w5.heap.size, 2, none⟩ = some (.string ((Z.ApplyStep A s).1.L).nm) := f6.cell_of (by go_simp)
  have c6_5_3 : w6.cell? ⟨w5.heap.size, 3, none⟩ = some (.slice oSL ((Z.ApplyStep A s).1.L).pw.length kSL) := f6.cell_of (by go_simp)
  have c6_5_4 : w6.cell? ⟨w5.heap.size, 4, none⟩ = some (.int .i64 ((Z.ApplyStep A s).1.R).dg) := f6.cell_of (by go_simp)
  have c6_5_5 : w6.cell? ⟨w5.heap.size, 5, none⟩ = some (.int .i64 ((Z.ApplyStep A s).1.R).tn) := f6.cell_of (by go_simp)
  have c6_5_6 : w6.cell? ⟨w5.heap.size, 6, none⟩ = some (.string ((Z.ApplyStep A s).1.R).nm) := f6.cell_of (by go_simp)
  have c6_5_7 : w6.cell? ⟨w5.heap.size, 7, none⟩ = some (.slice oSR ((Z.ApplyStep A s).1.R).pw.length kSR) := f6.cell_of (by go_simp)
  have y6_5 : w5.heap.size < w6.heap.size := World.block_lt_of_cell? w6 _ c6_5_0
  have IEL_6 := K.ints.ext (K.bin IEL_5) f6
  have IER_6 := K.ints.ext (K.bin IER_5) f6
  have IX_6 := K.recs.ext (K.bre IX_5) f6
  have IRL_6 := K.ints.ext (K.bin IRL_5) f6
  have IRR_6 := K.ints.ext (K.bin IRR_5) f6
  have IYL_6 := K.ints.ext (K.bin IYL_5) f6
  have IYR_6 := K.ints.ext (K.bin IYR_5) f6
  have IAL_6 := K.ints.ext (K.bin IAL_5) f6
  have IAR_6 := K.ints.ext (K.bin IAR_5) f6
  have ISL_6 := K.ints.ext (K.bin ISL_5) f6
  have ISR_6 := K.ints.ext (K.bin ISR_5) f6
  clear c5_0_0 c5_0_1 c5_0_2 c5_0_3 c5_0_4 c5_0_5 c5_0_6 c5_0_7 y5_0 c5_1_0 c5_1_1 c5_1_2 c5_1_3 c5_1_4 c5_1_5 c5_1_6 c5_1_7 y5_1 c5_2_0 c5_2_1 c5_2_2 c5_2_3 c5_2_4 c5_2_5 c5_2_6 c5_2_7 y5_2 c5_3_0 c5_3_1 c5_3_2 c5_3_3 c5_3_4 c5_3_5 c5_3_6 c5_3_7 y5_3 c5_4_0 c5_4_1 c5_4_2 y5_4 IEL_5 IER_5 IX_5 IRL_5 IRR_5 IYL_5 IYR_5 IAL_5 IAR_5 ISL_5 ISR_5 F5 f6 u6_0_1 u6_1_1 u6_2_1 u6_3_1 u6_4_1
  go_wp2_with fail
  refine K.call (by with_reducible rfl) (by with_reducible rfl) (DrawIsDerivation_any _ hn (K.Ext.size (K.bex F6)) (h.ext (K.bex F6))) ?_
  rintro e w7 ⟨⟨C, pC, qC, vT, ts, G, pG, qG, rfl, ⟨c1, c2⟩, ⟨c3, c4⟩, hC1, hC2, ⟨c5, c6⟩, hT, ⟨g1, g2⟩, ⟨g3, g4⟩, hG1, hG2⟩, f7⟩
  obtain ⟨oCL, kCL, rfl, _⟩ := id (hC1)
  have ICL_7 : K.ints w7 0 w7.heap.size (.slice oCL C.L.pw.length kCL) C.L.pw := (hC1).mono (Nat.zero_le _) (by omega)
  obtain ⟨oCR, kCR, rfl, _⟩ := id (hC2)
  have ICR_7 : K.ints w7 0 w7.heap.size (.slice oCR C.R.pw.length kCR) C.R.pw := (hC2).mono (Nat.zero_le _) (by omega)
  obtain ⟨oT, kT, rfl, _⟩ := id (hT)
  have IT_7 : K.recs false K.StR w7 0 w7.heap.size (.slice oT ts.length kT) ts := K.recs.mono (hT) (Nat.zero_le _) (by omega)
  obtain ⟨oGL, kGL, rfl, _⟩ := id (hG1)
  have IGL_7 : K.ints w7 0 w7.heap.size (.slice oGL G.L.pw.length kGL) G.L.pw := (hG1).mono (Nat.zero_le _) (by omega)
  obtain ⟨oGR, kGR, rfl, _⟩ := id (hG2)
  have IGR_7 : K.ints w7 0 w7.heap.size (.slice oGR G.R.pw.length kGR) G.R.pw := (hG2).mono (Nat.zero_le _) (by omega)
  have u7_0_1 : w1.heap.size < w6.heap.size + 1 := (by omega)
  have u7_1_1 : w2.heap.size < w6.heap.size + 1 := (by omega)
  have u7_2_1 : w3.heap.size < w6.heap.size + 1 := (by omega)
  have u7_5_1 : w5.heap.size < w6.heap.size + 1 := (by omega)
  have F7 : K.Ext w w7 := K.Ext.trans (K.bex F6) f7
  obtain ⟨c7_0_0, c7_0_1, c7_0_2, c7_0_3, c7_0_4, c7_0_5, c7_0_6, c7_0_7, y7_0⟩ := f7.q8 c6_0_0 c6_0_1 c6_0_2 c6_0_3 c6_0_4 c6_0_5 c6_0_6 c6_0_7
  obtain ⟨c7_1_0, c7_1_1, c7_1_2, c7_1_3, c7_1_4, c7_1_5, c7_1_6, c7_1_7, y7_1⟩ := f7.q8 c6_1_0 c6_1_1 c6_1_2 c6_1_3 c6_1_4 c6_1_5 c6_1_6 c6_1_7
  obtain ⟨c7_2_0, c7_2_1, c7_2_2, c7_2_3, c7_2_4, c7_2_5, c7_2_6, c7_2_7, y7_2⟩ := f7.q8 c6_2_0 c6_2_1 c6_2_2 c6_2_3 c6_2_4 c6_2_5 c6_2_6 c6_2_7
  obtain ⟨c7_5_0, c7_5_1, c7_5_2, c7_5_3, c7_5_4, c7_5_5, c7_5_6, c7_5_7, y7_5⟩ := f7.q8 c6_5_0 c6_5_1 c6_5_2 c6_5_3 c6_5_4 c6_5_5 c6_5_6 c6_5_7
  have c7_6_0 : w7.cell? ⟨w6.heap.size, 0, none⟩ = some (.int .i64 ((Z.ApplyStep A s).1.L).dg) := f7.cell_of (by go_simp)
  have c7_6_1 : w7.cell? ⟨w6.heap.size, 1, none⟩ = some (.int .i64 ((Z.ApplyStep A s).1.L).tn) := f7.cell_of (by go_simp)
  have c7_6_2 : w7.cell? ⟨w6.heap.size, 2, none⟩ = some (.string ((Z.ApplyStep A s).1.L).nm) := f7.cell_of (by go_simp)
  have c7_6_3 : w7.cell? ⟨w6.heap.size, 3, none⟩ = some (.slice oVL ((Z.ApplyStep A s).1.L).pw.length kVL) := f7.cell_of (by go_simp)
  have c7_6_4 : w7.cell? ⟨w6.heap.size, 4, none⟩ = some (.int .i64 ((Z.ApplyStep A s).1.R).dg) := f7.cell_of (by go_simp)
  have c7_6_5 : w7.cell? ⟨w6.heap.size, 5, none⟩ = some (.int .i64 ((Z.ApplyStep A s).1.R).tn) := f7.cell_of (by go_simp)
  have c7_6_6 : w7.cell? ⟨w6.heap.size, 6, none⟩ = some (.string ((Z.ApplyStep A s).1.R).nm) := f7.cell_of (by go_simp)
  have c7_6_7 : w7.cell? ⟨w6.heap.size, 7, none⟩ = some (.slice oVR ((Z.ApplyStep A s).1.R).pw.length kVR) := f7.cell_of (by go_simp)
  have y7_6 : w6.heap.size < w7.heap.size := World.block_lt_of_cell? w7 _ c7_6_0
  have IEL_7 := K.ints.ext (K.bin IEL_6) f7
  have IER_7 := K.ints.ext (K.bin IER_6) f7
  have IX_7 := K.recs.ext (K.bre IX_6) f7
  have IRL_7 := K.ints.ext (K.bin IRL_6) f7
  have IRR_7 := K.ints.ext (K.bin IRR_6) f7
  have IYL_7 := K.ints.ext (K.bin IYL_6) f7
  have IYR_7 := K.ints.ext (K.bin IYR_6) f7
  have ISL_7 := K.ints.ext (K.bin ISL_6) f7
  have ISR_7 := K.ints.ext (K.bin ISR_6) f7
  have IVL_7 := K.ints.ext (K.bin IVL_6) f7
  have IVR_7 := K.ints.ext (K.bin IVR_6) f7
  clear c6_0_0 c6_0_1 c6_0_2 c6_0_3 c6_0_4 c6_0_5 c6_0_6 c6_0_7 y6_0 c6_1_0 c6_1_1 c6_1_2 c6_1_3 c6_1_4 c6_1_5 c6_1_6 c6_1_7 y6_1 c6_2_0 c6_2_1 c6_2_2 c6_2_3 c6_2_4 c6_2_5 c6_2_6 c6_2_7 y6_2 c6_3_0 c6_3_1 c6_3_2 c6_3_3 c6_3_4 c6_3_5 c6_3_6 c6_3_7 y6_3 c6_4_0 c6_4_1 c6_4_2 y6_4 c6_5_0 c6_5_1 c6_5_2 c6_5_3 c6_5_4 c6_5_5 c6_5_6 c6_5_7 y6_5 IEL_6 IER_6 IX_6 IRL_6 IRR_6 IYL_6 IYR_6 ISL_6 ISR_6 IVL_6 IVR_6 F6 f7 u7_0_1 u7_1_1 u7_2_1 u7_5_1
  go_wp2_with fail
  refine K.call (by with_reducible rfl) (by with_reducible rfl) (impl_IsDerivation C ts G _ (by omega) (by omega) (by omega) (by omega) (K.bin ICL_7) (K.bin ICR_7) (by omega) (K.bre IT_7) (by omega) (by omega) (by omega) (by omega) (K.bin IGL_7) (K.bin IGR_7)) ?_
  rintro e w8 ⟨rfl, f8⟩
  have u8_0_1 : w1.heap.size < w7.heap.size + 1 := (by omega)
  have u8_0_2 : w1.heap.size < w7.heap.size + 1 + 1 := (by omega)
  have u8_1_1 : w2.heap.size < w7.heap.size + 1 := (by omega)
  have u8_1_2 : w2.heap.size < w7.heap.size + 1 + 1 := (by omega)
  have u8_2_1 : w3.heap.size < w7.heap.size + 1 := (by omega)
  have u8_2_2 : w3.heap.size < w7.heap.size + 1 + 1 := (by omega)
  have u8_5_1 : w5.heap.size < w7.heap.size + 1 := (by omega)
  have u8_5_2 : w5.heap.size < w7.heap.size + 1 + 1 := (by omega)
  have u8_6_1 : w6.heap.size < w7.heap.size + 1 := (by omega)
  have u8_6_2 : w6.heap.size < w7.heap.size + 1 + 1 := (by omega)
  have F8 : K.Ext w w8 := K.Ext.trans (K.bex F7) f8
  obtain ⟨c8_0_0, c8_0_1, c8_0_2, c8_0_3, c8_0_4, c8_0_5, c8_0_6, c8_0_7, y8_0⟩ := f8.q8 c7_0_0 c7_0_1 c7_0_2 c7_0_3 c7_0_4 c7_0_5 c7_0_6 c7_0_7
  obtain ⟨c8_1_0, c8_1_1, c8_1_2, c8_1_3, c8_1_4, c8_1_5, c8_1_6, c8_1_7, y8_1⟩ := f8.q8 c7_1_0 c7_1_1 c7_1_2 c7_1_3 c7_1_4 c7_1_5 c7_1_6 c7_1_7
  obtain ⟨c8_2_0, c8_2_1, c8_2_2, c8_2_3, c8_2_4, c8_2_5, c8_2_6, c8_2_7, y8_2⟩ := f8.q8 c7_2_0 c7_2_1 c7_2_2 c7_2_3 c7_2_4 c7_2_5 c7_2_6 c7_2_7
  obtain ⟨c8_5_0, c8_5_1, c8_5_2, c8_5_3, c8_5_4, c8_5_5, c8_5_6, c8_5_7, y8_5⟩ := f8.q8 c7_5_0 c7_5_1 c7_5_2 c7_5_3 c7_5_4 c7_5_5 c7_5_6 c7_5_7
  obtain ⟨c8_6_0, c8_6_1, c8_6_2, c8_6_3, c8_6_4, c8_6_5, c8_6_6, c8_6_7, y8_6⟩ := f8.q8 c7_6_0 c7_6_1 c7_6_2 c7_6_3 c7_6_4 c7_6_5 c7_6_6 c7_6_7
  have c8_7_0 : w8.cell? ⟨w7.heap.size, 0, none⟩ = some (.int .i64 C.L.dg) := f8.cell_of (by go_simp)
  have c8_7_1 : w8.cell? ⟨w7.heap.size, 1, none⟩ = some (.int .i64 C.L.tn) := f8.cell_of (by go_simp)
  have c8_7_2 : w8.cell? ⟨w7.heap.size, 2, none⟩ = some (.string C.L.nm) := f8.cell_of (by go_simp)
  have c8_7_3 : w8.cell? ⟨w7.heap.size, 3, none⟩ = some (.slice oCL C.L.pw.length kCL) := f8.cell_of (by go_simp)
  have c8_7_4 : w8.cell? ⟨w7.heap.size, 4, none⟩ = some (.int .i64 C.R.dg) := f8.cell_of (by go_simp)
  have c8_7_5 : w8.cell? ⟨w7.heap.size, 5, none⟩ = some (.int .i64 C.R.tn) := f8.cell_of (by go_simp)
  have c8_7_6 : w8.cell? ⟨w7.heap.size, 6, none⟩ = some (.string C.R.nm) := f8.cell_of (by go_simp)
  have c8_7_7 : w8.cell? ⟨w7.heap.size, 7, none⟩ = some (.slice oCR C.R.pw.length kCR) := f8.cell_of (by go_simp)
  have y8_7 : w7.heap.size < w8.heap.size := World.block_lt_of_cell? w8 _ c8_7_0
  have c8_8_0 : w8.cell? ⟨w7.heap.size + 1, 0, none⟩ = some (.int .i64 G.L.dg) := f8.cell_of (by go_simp)
  have c8_8_1 : w8.cell? ⟨w7.heap.size + 1, 1, none⟩ = some (.int .i64 G.L.tn) := f8.cell_of (by go_simp)
  have c8_8_2 : w8.cell? ⟨w7.heap.size + 1, 2, none⟩ = some (.string G.L.nm) := f8.cell_of (by go_simp)
  have c8_8_3 : w8.cell? ⟨w7.heap.size + 1, 3, none⟩ = some (.slice oGL G.L.pw.length kGL) := f8.cell_of (by go_simp)
  have c8_8_4 : w8.cell? ⟨w7.heap.size + 1, 4, none⟩ = some (.int .i64 G.R.dg) := f8.cell_of (by go_simp)
  have c8_8_5 : w8.cell? ⟨w7.heap.size + 1, 5, none⟩ = some (.int .i64 G.R.tn) := f8.cell_of (by go_simp)
  have c8_8_6 : w8.cell? ⟨w7.heap.size + 1, 6, none⟩ = some (.string G.R.nm) := f8.cell_of (by go_simp)
  have c8_8_7 : w8.cell? ⟨w7.heap.size + 1, 7, none⟩ = some (.slice oGR G.R.pw.length kGR) := f8.cell_of (by go_simp)
  have y8_8 : w7.heap.size + 1 < w8.heap.size := World.block_lt_of_cell? w8 _ c8_8_0
  have IEL_8 := K.ints.ext (K.bin IEL_7) f8
  have IER_8 := K.ints.ext (K.bin IER_7) f8
  have IX_8 := K.recs.ext (K.bre IX_7) f8
  have IRL_8 := K.ints.ext (K.bin IRL_7) f8
  have IRR_8 := K.ints.ext (K.bin IRR_7) f8
  have IYL_8 := K.ints.ext (K.bin IYL_7) f8
  have IYR_8 := K.ints.ext (K.bin IYR_7) f8
  have ISL_8 := K.ints.ext (K.bin ISL_7) f8
  have ISR_8 := K.ints.ext (K.bin ISR_7) f8
  have IVL_8 := K.ints.ext (K.bin IVL_7) f8
  have IVR_8 := K.ints.ext (K.bin IVR_7) f8
  have ICL_8 := K.ints.ext (K.bin ICL_7) f8
  have ICR_8 := K.ints.ext (K.bin ICR_7) f8
  have IT_8 := K.recs.ext (K.bre IT_7) f8
  have IGL_8 := K.ints.ext (K.bin IGL_7) f8
  have IGR_8 := K.ints.ext (K.bin IGR_7) f8
  clear c7_0_0 c7_0_1 c7_0_2 c7_0_3 c7_0_4 c7_0_5 c7_0_6 c7_0_7 y7_0 c7_1_0 c7_1_1 c7_1_2 c7_1_3 c7_1_4 c7_1_5 c7_1_6 c7_1_7 y7_1 c7_2_0 c7_2_1 c7_2_2 c7_2_3 c7_2_4 c7_2_5 c7_2_6 c7_2_7 y7_2 c7_5_0 c7_5_1 c7_5_2 c7_5_3 c7_5_4 c7_5_5 c7_5_6 c7_5_7 y7_5 c7_6_0 c7_6_1 c7_6_2 c7_6_3 c7_6_4 c7_6_5 c7_6_6 c7_6_7 y7_6 IEL_7 IER_7 IX_7 IRL_7 IRR_7 IYL_7 IYR_7 ISL_7 ISR_7 IVL_7 IVR_7 ICL_7 ICR_7 IT_7 IGL_7 IGR_7 F7 f8 u8_0_1 u8_0_2 u8_1_1 u8_1_2 u8_2_1 u8_2_2 u8_5_1 u8_5_2 u8_6_1 u8_6_2
  go_wp2_with fail
  refine K.call (by with_reducible rfl) (by with_reducible rfl) (spec_IsDerivation C ts G _ (by omega) (by omega) (by omega) (by omega) (K.bin ICL_8) (K.bin ICR_8) (by omega) (K.bre IT_8) (by omega) (by omega) (by omega) (by omega) (K.bin IGL_8) (K.bin IGR_8)) ?_
  rintro e w9 ⟨rfl, f9⟩
  have F9 : K.Ext w w9 := K.Ext.trans (K.bex F8) f9
  obtain ⟨c9_0_0, c9_0_1, c9_0_2, c9_0_3, c9_0_4, c9_0_5, c9_0_6, c9_0_7, y9_0⟩ := f9.q8 c8_0_0 c8_0_1 c8_0_2 c8_0_3 c8_0_4 c8_0_5 c8_0_6 c8_0_7
  obtain ⟨c9_1_0, c9_1_1, c9_1_2, c9_1_3, c9_1_4, c9_1_5, c9_1_6, c9_1_7, y9_1⟩ := f9.q8 c8_1_0 c8_1_1 c8_1_2 c8_1_3 c8_1_4 c8_1_5 c8_1_6 c8_1_7
  obtain ⟨c9_2_0, c9_2_1, c9_2_2, c9_2_3, c9_2_4, c9_2_5, c9_2_6, c9_2_7, y9_2⟩ := f9.q8 c8_2_0 c8_2_1 c8_2_2 c8_2_3 c8_2_4 c8_2_5 c8_2_6 c8_2_7
  obtain ⟨c9_5_0, c9_5_1, c9_5_2, c9_5_3, c9_5_4, c9_5_5, c9_5_6, c9_5_7, y9_5⟩ := f9.q8 c8_5_0 c8_5_1 c8_5_2 c8_5_3 c8_5_4 c8_5_5 c8_5_6 c8_5_7
  obtain ⟨c9_6_0, c9_6_1, c9_6_2, c9_6_3, c9_6_4, c9_6_5, c9_6_6, c9_6_7, y9_6⟩ := f9.q8 c8_6_0 c8_6_1 c8_6_2 c8_6_3 c8_6_4 c8_6_5 c8_6_6 c8_6_7
  obtain ⟨c9_7_0, c9_7_1, c9_7_2, c9_7_3, c9_7_4, c9_7_5, c9_7_6, c9_7_7, y9_7⟩ := f9.q8 c8_7_0 c8_7_1 c8_7_2 c8_7_3 c8_7_4 c8_7_5 c8_7_6 c8_7_7
  obtain ⟨c9_8_0, c9_8_1, c9_8_2, c9_8_3, c9_8_4, c9_8_5, c9_8_6, c9_8_7, y9_8⟩ := f9.q8 c8_8_0 c8_8_1 c8_8_2 c8_8_3 c8_8_4 c8_8_5 c8_8_6 c8_8_7
  have IEL_9 := K.ints.ext (K.bin IEL_8) f9
  have IER_9 := K.ints.ext (K.bin IER_8) f9
  have IX_9 := K.recs.ext (K.bre IX_8) f9
  have IRL_9 := K.ints.ext (K.bin IRL_8) f9
  have IRR_9 := K.ints.ext (K.bin IRR_8) f9
  have IYL_9 := K.ints.ext (K.bin IYL_8) f9
  have IYR_9 := K.ints.ext (K.bin IYR_8) f9
  have ISL_9 := K.ints.ext (K.bin ISL_8) f9
  have ISR_9 := K.ints.ext (K.bin ISR_8) f9
  have IVL_9 := K.ints.ext (K.bin IVL_8) f9
  have IVR_9 := K.ints.ext (K.bin IVR_8) f9
  have ICL_9 := K.ints.ext (K.bin ICL_8) f9
  have ICR_9 := K.ints.ext (K.bin ICR_8) f9
  have IT_9 := K.recs.ext (K.bre IT_8) f9
  have IGL_9 := K.ints.ext (K.bin IGL_8) f9
  have IGR_9 := K.ints.ext (K.bin IGR_8) f9
  clear c8_0_0 c8_0_1 c8_0_2 c8_0_3 c8_0_4 c8_0_5 c8_0_6 c8_0_7 y8_0 c8_1_0 c8_1_1 c8_1_2 c8_1_3 c8_1_4 c8_1_5 c8_1_6 c8_1_7 y8_1 c8_2_0 c8_2_1 c8_2_2 c8_2_3 c8_2_4 c8_2_5 c8_2_6 c8_2_7 y8_2 c8_5_0 c8_5_1 c8_5_2 c8_5_3 c8_5_4 c8_5_5 c8_5_6 c8_5_7 y8_5 c8_6_0 c8_6_1 c8_6_2 c8_6_3 c8_6_4 c8_6_5 c8_6_6 c8_6_7 y8_6 c8_7_0 c8_7_1 c8_7_2 c8_7_3 c8_7_4 c8_7_5 c8_7_6 c8_7_7 y8_7 c8_8_0 c8_8_1 c8_8_2 c8_8_3 c8_8_4 c8_8_5 c8_8_6 c8_8_7 y8_8 IEL_8 IER_8 IX_8 IRL_8 IRR_8 IYL_8 IYR_8 ISL_8 ISR_8 IVL_8 IVR_8 ICL_8 ICR_8 IT_8 IGL_8 IGR_8 F8 f9
  obtain ⟨m1, m2⟩ := Z.RunSteps_le E xs
  obtain ⟨m3, m4⟩ := Z.RunSteps_nm E xs
  obtain ⟨s1, s2⟩ := Z.ApplyStep_le A s
  go_wp2_with fail
  refine K.call (by with_reducible rfl) (by with_reducible rfl) (likeEquations_same (Z.RunSteps E xs).1 _ _ _ _ _ m1 m2 (K.bin IRL_9) (K.bin IRR_9) (K.bin IYL_9) (K.bin IYR_9)) ?_
  rintro e w10 ⟨rfl, f10⟩
  have F10 : K.Ext w w10 := K.Ext.trans (K.bex F9) f10
  obtain ⟨c10_0_0, c10_0_1, c10_0_2, c10_0_3, c10_0_4, c10_0_5, c10_0_6, c10_0_7, y10_0⟩ := f10.q8 c9_0_0 c9_0_1 c9_0_2 c9_0_3 c9_0_4 c9_0_5 c9_0_6 c9_0_7
  obtain ⟨c10_1_0, c10_1_1, c10_1_2, c10_1_3, c10_1_4, c10_1_5, c10_1_6, c10_1_7, y10_1⟩ := f10.q8 c9_1_0 c9_1_1 c9_1_2 c9_1_3 c9_1_4 c9_1_5 c9_1_6 c9_1_7
  obtain ⟨c10_2_0, c10_2_1, c10_2_2, c10_2_3, c10_2_4, c10_2_5, c10_2_6, c10_2_7, y10_2⟩ := f10.q8 c9_2_0 c9_2_1 c9_2_2 c9_2_3 c9_2_4 c9_2_5 c9_2_6 c9_2_7
  obtain ⟨c10_5_0, c10_5_1, c10_5_2, c10_5_3, c10_5_4, c10_5_5, c10_5_6, c10_5_7, y10_5⟩ := f10.q8 c9_5_0 c9_5_1 c9_5_2 c9_5_3 c9_5_4 c9_5_5 c9_5_6 c9_5_7
  obtain ⟨c10_6_0, c10_6_1, c10_6_2, c10_6_3, c10_6_4, c10_6_5, c10_6_6, c10_6_7, y10_6⟩ := f10.q8 c9_6_0 c9_6_1 c9_6_2 c9_6_3 c9_6_4 c9_6_5 c9_6_6 c9_6_7
  have IEL_10 := K.ints.ext (K.bin IEL_9) f10
  have IER_10 := K.ints.ext (K.bin IER_9) f10
  have IX_10 := K.recs.ext (K.bre IX_9) f10
  have IRL_10 := K.ints.ext (K.bin IRL_9) f10
  have IRR_10 := K.ints.ext (K.bin IRR_9) f10
  have IYL_10 := K.ints.ext (K.bin IYL_9) f10
  have IYR_10 := K.ints.ext (K.bin IYR_9) f10
  have ISL_10 := K.ints.ext (K.bin ISL_9) f10
  have ISR_10 := K.ints.ext (K.bin ISR_9) f10
  have IVL_10 := K.ints.ext (K.bin IVL_9) f10
  have IVR_10 := K.ints.ext (K.bin IVR_9) f10
  clear c9_0_0 c9_0_1 c9_0_2 c9_0_3 c9_0_4 c9_0_5 c9_0_6 c9_0_7 y9_0 c9_1_0 c9_1_1 c9_1_2 c9_1_3 c9_1_4 c9_1_5 c9_1_6 c9_1_7 y9_1 c9_2_0 c9_2_1 c9_2_2 c9_2_3 c9_2_4 c9_2_5 c9_2_6 c9_2_7 y9_2 c9_5_0 c9_5_1 c9_5_2 c9_5_3 c9_5_4 c9_5_5 c9_5_6 c9_5_7 y9_5 c9_6_0 c9_6_1 c9_6_2 c9_6_3 c9_6_4 c9_6_5 c9_6_6 c9_6_7 y9_6 c9_7_0 c9_7_1 c9_7_2 c9_7_3 c9_7_4 c9_7_5 c9_7_6 c9_7_7 y9_7 c9_8_0 c9_8_1 c9_8_2 c9_8_3 c9_8_4 c9_8_5 c9_8_6 c9_8_7 y9_8 IEL_9 IER_9 IX_9 IRL_9 IRR_9 IYL_9 IYR_9 ISL_9 ISR_9 IVL_9 IVR_9 F9 f10
  go_wp2_with fail
  refine K.call (by with_reducible rfl) (by with_reducible rfl) (likeEquations_same (Z.ApplyStep A s).1 _ _ _ _ _ s1 s2 (K.bin ISL_10) (K.bin ISR_10) (K.bin IVL_10) (K.bin IVR_10)) ?_
  rintro e w11 ⟨rfl, f11⟩
  have F11 : K.Ext w w11 := K.Ext.trans (K.bex F10) f11
  obtain ⟨c11_0_0, c11_0_1, c11_0_2, c11_0_3, c11_0_4, c11_0_5, c11_0_6, c11_0_7, y11_0⟩ := f11.q8 c10_0_0 c10_0_1 c10_0_2 c10_0_3 c10_0_4 c10_0_5 c10_0_6 c10_0_7
  obtain ⟨c11_1_0, c11_1_1, c11_1_2, c11_1_3, c11_1_4, c11_1_5, c11_1_6, c11_1_7, y11_1⟩ := f11.q8 c10_1_0 c10_1_1 c10_1_2 c10_1_3 c10_1_4 c10_1_5 c10_1_6 c10_1_7
  obtain ⟨c11_5_0, c11_5_1, c11_5_2, c11_5_3, c11_5_4, c11_5_5, c11_5_6, c11_5_7, y11_5⟩ := f11.q8 c10_5_0 c10_5_1 c10_5_2 c10_5_3 c10_5_4 c10_5_5 c10_5_6 c10_5_7
  obtain ⟨c11_6_0, c11_6_1, c11_6_2, c11_6_3, c11_6_4, c11_6_5, c11_6_6, c11_6_7, y11_6⟩ := f11.q8 c10_6_0 c10_6_1 c10_6_2 c10_6_3 c10_6_4 c10_6_5 c10_6_6 c10_6_7
  have IEL_11 := K.ints.ext (K.bin IEL_10) f11
  have IER_11 := K.ints.ext (K.bin IER_10) f11
  have IX_11 := K.recs.ext (K.bre IX_10) f11
  have IRL_11 := K.ints.ext (K.bin IRL_10) f11
  have IRR_11 := K.ints.ext (K.bin IRR_10) f11
  have ISL_11 := K.ints.ext (K.bin ISL_10) f11
  have ISR_11 := K.ints.ext (K.bin ISR_10) f11
  have IVL_11 := K.ints.ext (K.bin IVL_10) f11
  have IVR_11 := K.ints.ext (K.bin IVR_10) f11
  clear c10_0_0 c10_0_1 c10_0_2 c10_0_3 c10_0_4 c10_0_5 c10_0_6 c10_0_7 y10_0 c10_1_0 c10_1_1 c10_1_2 c10_1_3 c10_1_4 c10_1_5 c10_1_6 c10_1_7 y10_1 c10_2_0 c10_2_1 c10_2_2 c10_2_3 c10_2_4 c10_2_5 c10_2_6 c10_2_7 y10_2 c10_5_0 c10_5_1 c10_5_2 c10_5_3 c10_5_4 c10_5_5 c10_5_6 c10_5_7 y10_5 c10_6_0 c10_6_1 c10_6_2 c10_6_3 c10_6_4 c10_6_5 c10_6_6 c10_6_7 y10_6 IEL_10 IER_10 IX_10 IRL_10 IRR_10 ISL_10 ISR_10 IVL_10 IVR_10 F10 f11
  by_cases hb : (Z.RunSteps E xs).2 = 0
  · have hd := Z.der_law hb
    go_wp2_with fail
    refine K.call (by with_reducible rfl) (by with_reducible rfl) (impl_IsDerivation E xs (Z.RunSteps E xs).1 _ (by omega) (by omega) (by omega) (by omega) (K.bin IEL_11) (K.bin IER_11) (by omega) (K.bre IX_11) m1 m3 m2 m4 (K.bin IRL_11) (K.bin IRR_11)) ?_
    rintro e w12 ⟨rfl, f12⟩
    have F12 : K.Ext w w12 := K.Ext.trans (K.bex F11) f12
    obtain ⟨c12_0_0, c12_0_1, c12_0_2, c12_0_3, c12_0_4, c12_0_5, c12_0_6, c12_0_7, y12_0⟩ := f12.q8 c11_0_0 c11_0_1 c11_0_2 c11_0_3 c11_0_4 c11_0_5 c11_0_6 c11_0_7
    obtain ⟨c12_1_0, c12_1_1, c12_1_2, c12_1_3, c12_1_4, c12_1_5, c12_1_6, c12_1_7, y12_1⟩ := f12.q8 c11_1_0 c11_1_1 c11_1_2 c11_1_3 c11_1_4 c11_1_5 c11_1_6 c11_1_7
    have IEL_12 := K.ints.ext (K.bin IEL_11) f12
    have IER_12 := K.ints.ext (K.bin IER_11) f12
    have IX_12 := K.recs.ext (K.bre IX_11) f12
    have IRL_12 := K.ints.ext (K.bin IRL_11) f12
    have IRR_12 := K.ints.ext (K.bin IRR_11) f12
    clear c11_0_0 c11_0_1 c11_0_2 c11_0_3 c11_0_4 c11_0_5 c11_0_6 c11_0_7 y11_0 c11_1_0 c11_1_1 c11_1_2 c11_1_3 c11_1_4 c11_1_5 c11_1_6 c11_1_7 y11_1 c11_5_0 c11_5_1 c11_5_2 c11_5_3 c11_5_4 c11_5_5 c11_5_6 c11_5_7 y11_5 c11_6_0 c11_6_1 c11_6_2 c11_6_3 c11_6_4 c11_6_5 c11_6_6 c11_6_7 y11_6 IEL_11 IER_11 IX_11 IRL_11 IRR_11 F11 f12
    have hu12 := Z.UndoSteps_le xs (by omega)
    go_wp2_with fail
    refine K.call (by with_reducible rfl) (by with_reducible rfl) (impl_UndoSteps xs _ (by omega) (K.bre IX_12)) ?_
    rintro e w13 ⟨⟨vU, rfl, hU⟩, f13⟩
    obtain ⟨oU, kU, rfl, _⟩ := id (K.recs.plain hU)
    have IU_13 : K.recs false K.StR w13 0 w13.heap.size (.slice oU ((Z.UndoSteps xs).1).length kU) ((Z.UndoSteps xs).1) := K.recs.mono (K.recs.plain hU) (Nat.zero_le _) (by omega)
    have F13 : K.Ext w w13 := K.Ext.trans (K.bex F12) f13
    obtain ⟨c13_0_0, c13_0_1, c13_0_2, c13_0_3, c13_0_4, c13_0_5, c13_0_6, c13_0_7, y13_0⟩ := f13.q8 c12_0_0 c12_0_1 c12_0_2 c12_0_3 c12_0_4 c12_0_5 c12_0_6 c12_0_7
    obtain ⟨c13_1_0, c13_1_1, c13_1_2, c13_1_3, c13_1_4, c13_1_5, c13_1_6, c13_1_7, y13_1⟩ := f13.q8 c12_1_0 c12_1_1 c12_1_2 c12_1_3 c12_1_4 c12_1_5 c12_1_6 c12_1_7
    have IEL_13 := K.ints.ext (K.bin IEL_12) f13
    have IER_13 := K.ints.ext (K.bin IER_12) f13
    have IX_13 := K.recs.ext (K.bre IX_12) f13
    have IRL_13 := K.ints.ext (K.bin IRL_12) f13
    have IRR_13 := K.ints.ext (K.bin IRR_12) f13
    clear c12_0_0 c12_0_1 c12_0_2 c12_0_3 c12_0_4 c12_0_5 c12_0_6 c12_0_7 y12_0 c12_1_0 c12_1_1 c12_1_2 c12_1_3 c12_1_4 c12_1_5 c12_1_6 c12_1_7 y12_1 IEL_12 IER_12 IX_12 IRL_12 IRR_12 F12 f13
    rcases Z.undo_code hb with h6 | h6
    · obtain ⟨h7, hul, hback⟩ := Z.undo_law hb h6
      obtain ⟨r, hr⟩ : ∃ r, Z.RunSteps (Z.RunSteps E xs).1 (Z.UndoSteps xs).1 = r := ⟨_, rfl⟩
      rw [hr] at h7 hback
      go_wp2_with fail
      refine K.call (by with_reducible rfl) (by with_reducible rfl) (impl_RunN (Z.RunSteps E xs).1 (Z.UndoSteps xs).1 hr _ m1 m3 m2 m4 (K.bin IRL_13) (K.bin IRR_13) hu12 (K.bre IU_13)) ?_
      rintro e w14 ⟨⟨pK, qK, mK, rfl, uK, vK, hK, jK⟩, f14⟩
      have JKL := K.own.ints hK
      obtain ⟨oKL, kKL, rfl, _⟩ := id (JKL)
      have IKL_14 : K.ints w14 0 w14.heap.size (.slice oKL r.1.L.pw.length kKL) r.1.L.pw := (JKL).mono (Nat.zero_le _) (by omega)
      have JKR := K.own.ints jK
      obtain ⟨oKR, kKR, rfl, _⟩ := id (JKR)
      have IKR_14 : K.ints w14 0 w14.heap.size (.slice oKR r.1.R.pw.length kKR) r.1.R.pw := (JKR).mono (Nat.zero_le _) (by omega)
      have F14 : K.Ext w w14 := K.Ext.trans (K.bex F13) f14
      obtain ⟨c14_0_0, c14_0_1, c14_0_2, c14_0_3, c14_0_4, c14_0_5, c14_0_6, c14_0_7, y14_0⟩ := f14.q8 c13_0_0 c13_0_1 c13_0_2 c13_0_3 c13_0_4 c13_0_5 c13_0_6 c13_0_7
      obtain ⟨c14_1_0, c14_1_1, c14_1_2, c14_1_3, c14_1_4, c14_1_5, c14_1_6, c14_1_7, y14_1⟩ := f14.q8 c13_1_0 c13_1_1 c13_1_2 c13_1_3 c13_1_4 c13_1_5 c13_1_6 c13_1_7
      have IEL_14 := K.ints.ext (K.bin IEL_13) f14
      have IER_14 := K.ints.ext (K.bin IER_13) f14
      have IRL_14 := K.ints.ext (K.bin IRL_13) f14
      have IRR_14 := K.ints.ext (K.bin IRR_13) f14
      have IU_14 := K.recs.ext (K.bre IU_13) f14
      clear c13_0_0 c13_0_1 c13_0_2 c13_0_3 c13_0_4 c13_0_5 c13_0_6 c13_0_7 y13_0 c13_1_0 c13_1_1 c13_1_2 c13_1_3 c13_1_4 c13_1_5 c13_1_6 c13_1_7 y13_1 IEL_13 IER_13 IRL_13 IRR_13 IU_13 F13 f14
      clear hr
      rcases h7 with h7 | h7
      · obtain ⟨k1, k2, k3, k4⟩ := hback h7
        rw [k2] at IKL_14
        rw [k4] at IKR_14
        go_wp2_with fail
        refine K.call (by with_reducible rfl) (by with_reducible rfl) (likeInts_same E.L.pw _ _ _ _ _ _ _ (by omega) (K.bin IKL_14) (K.bin IEL_14)) ?_
        rintro e w15 ⟨rfl, f15⟩
        have u15_0_1 : w1.heap.size < w14.heap.size + 1 := (by omega)
        have F15 : K.Ext w w15 := K.Ext.trans (K.bex F14) f15
        obtain ⟨c15_0_0, c15_0_1, c15_0_2, c15_0_3, c15_0_4, c15_0_5, c15_0_6, c15_0_7, y15_0⟩ := f15.q8 c14_0_0 c14_0_1 c14_0_2 c14_0_3 c14_0_4 c14_0_5 c14_0_6 c14_0_7
        have c15_9_0 : w15.cell? ⟨w14.heap.size, 0, none⟩ = some (.int .i64 r.1.L.dg) := f15.cell_of (by go_simp)
        have c15_9_1 : w15.cell? ⟨w14.heap.size, 1, none⟩ = some (.int .i64 r.1.L.tn) := f15.cell_of (by go_simp)
        have c15_9_2 : w15.cell? ⟨w14.heap.size, 2, none⟩ = some (.string r.1.L.nm) := f15.cell_of (by go_simp)
        have c15_9_3 : w15.cell? ⟨w14.heap.size, 3, none⟩ = some (.slice oKL r.1.L.pw.length kKL) := f15.cell_of (by go_simp)
        have c15_9_4 : w15.cell? ⟨w14.heap.size, 4, none⟩ = some (.int .i64 r.1.R.dg) := f15.cell_of (by go_simp)
        have c15_9_5 : w15.cell? ⟨w14.heap.size, 5, none⟩ = some (.int .i64 r.1.R.tn) := f15.cell_of (by go_simp)
        have c15_9_6 : w15.cell? ⟨w14.heap.size, 6, none⟩ = some (.string r.1.R.nm) := f15.cell_of (by go_simp)
        have c15_9_7 : w15.cell? ⟨w14.heap.size, 7, none⟩ = some (.slice oKR r.1.R.pw.length kKR) := f15.cell_of (by go_simp)
        have y15_9 : w14.heap.size < w15.heap.size := World.block_lt_of_cell? w15 _ c15_9_0
        have IEL_15 := K.ints.ext (K.bin IEL_14) f15
        have IER_15 := K.ints.ext (K.bin IER_14) f15
        have IKL_15 := K.ints.ext (K.bin IKL_14) f15
        have IKR_15 := K.ints.ext (K.bin IKR_14) f15
        clear c14_0_0 c14_0_1 c14_0_2 c14_0_3 c14_0_4 c14_0_5 c14_0_6 c14_0_7 y14_0 c14_1_0 c14_1_1 c14_1_2 c14_1_3 c14_1_4 c14_1_5 c14_1_6 c14_1_7 y14_1 IEL_14 IER_14 IKL_14 IKR_14 F14 f15 u15_0_1
        go_wp2_with fail
        refine K.call (by with_reducible rfl) (by with_reducible rfl) (likeInts_same E.R.pw _ _ _ _ _ _ _ (by omega) (K.bin IKR_15) (K.bin IER_15)) ?_
        rintro e w16 ⟨rfl, f16⟩
        have F16 : K.Ext w w16 := K.Ext.trans (K.bex F15) f16
        obtain ⟨c16_0_0, c16_0_1, c16_0_2, c16_0_3, c16_0_4, c16_0_5, c16_0_6, c16_0_7, y16_0⟩ := f16.q8 c15_0_0 c15_0_1 c15_0_2 c15_0_3 c15_0_4 c15_0_5 c15_0_6 c15_0_7
        obtain ⟨c16_9_0, c16_9_1, c16_9_2, c16_9_3, c16_9_4, c16_9_5, c16_9_6, c16_9_7, y16_9⟩ := f16.q8 c15_9_0 c15_9_1 c15_9_2 c15_9_3 c15_9_4 c15_9_5 c15_9_6 c15_9_7
        have IEL_16 := K.ints.ext (K.bin IEL_15) f16
        have IER_16 := K.ints.ext (K.bin IER_15) f16
        have IKL_16 := K.ints.ext (K.bin IKL_15) f16
        have IKR_16 := K.ints.ext (K.bin IKR_15) f16
        clear c15_0_0 c15_0_1 c15_0_2 c15_0_3 c15_0_4 c15_0_5 c15_0_6 c15_0_7 y15_0 c15_9_0 c15_9_1 c15_9_2 c15_9_3 c15_9_4 c15_9_5 c15_9_6 c15_9_7 y15_9 IEL_15 IER_15 IKL_15 IKR_15 F15 f16
        go_wp2_with fail
        go_ret
        exact ⟨rfl, (K.bex F16)⟩
      go_wp2_with fail
      go_ret
      exact ⟨rfl, (K.bex F14)⟩
    go_wp2_with fail
    go_ret
    exact ⟨rfl, (K.bex F13)⟩
  go_wp2_with fail
  go_ret
  exact ⟨rfl, (K.bex F11)⟩
end Go.Proofs.Ythmnlbgbacbocaa
end
section
namespace Go.Proofs.Ythmnlbgbacbocaa
open Go.ChangeShapes Go.WideShapes Go.ChangeAt Go.RowKit
namespace frameFnDerivations
theorem own : ownKnob Try.prog.godebug = none := by kernel_rfl
theorem laidOut : laidOutB Try.prog = true := by kernel_rfl
theorem reads : ∀ t ∈ Try.f8.params.toList, Try.prog.readableRec t = true ∧ t < Try.prog.types.size := by
  rw [Try.params8]
  intro t ht
  simp only [List.mem_cons, List.not_mem_nil, or_false] at ht
  subst ht; exact ⟨by kernel_rfl, of_decide_eq_true (by kernel_rfl)⟩
set_option maxRecDepth 100000 in
theorem lifted (os : Os) (started : os.Started) (H : Type) (enc : TypeId × Value → H) :
    ReturnsInHanded {} Try.checked os 8 .any (Rows.fnDerivationsSpec.pre6 enc Try.prog Try.f8 Rows.fnDerivationsRow.domain false) (Rows.fnDerivationsSpec.post enc Try.prog Try.f8 false true false false) := by
  refine returnsInHanded_of_change (C := Try.checked) own started (by kernel_rfl) Try.func8
    (ChangeSpec.witness6 (enc := enc) (C := Try.checked) false ⟨#[], #[.slice none 0 0], []⟩ 8 (by kernel_rfl) (by kernel_rfl) (by kernel_rfl) (by kernel_rfl)) ?_
  intro W base args ds gs before hval0 hW hcnd _
  have hval : ∀ (j : Nat) t v, Try.f8.params[j]? = some t → args[j]? = some v → Value.okWide Try.prog W .any base t v := hval0
  have hW' := hW
  obtain ⟨p, q, hA0, hV, rfl, hfz, hnd⟩ := hW
  have hA : DataW.TrodAll enc Try.prog W 0 (fun _ => true) true Try.f8.params.toList args.toList ds p := hA0
  rw [Try.params8] at hA hval
  obtain ⟨rfl, rfl⟩ := trodVars_none hV
  obtain ⟨v0, vs0, d0, ds0, p0, q0, hargs, rfl, rfl, h0, r0⟩ := trodAll_cons hA
  obtain ⟨rfl, rfl, rfl⟩ := trodAll_nil r0
  obtain rfl : args = #[v0] := by cases args; simp_all
  clear hA0 hval0
  obtain ⟨a0, l0, c0, rfl⟩ := okWide_slice Try.underlying22 (hval 0 22 v0 rfl rfl)
  obtain ⟨fu0, hf0⟩ := h0
  obtain ⟨x0, zs0, ex0, hx0, hl0, hq0⟩ := K.recs_arg (R := K.ByR) (Q := fun s => 0 ≤ s ∧ s ≤ 255) 0 (by decide) Try.underlying22 (by kernel_rfl) (fun n cs y hy => K.byte_cells Try.underlying5 hy) hf0
  obtain rfl : Value.slice a0 l0 c0 = x0 := by simpa [Value.cells] using ex0
  refine Calls.mono (law_FnDerivations  W (K.byts_of_recs hx0 hq0)) fun e W' ⟨he, hg⟩ => ?_
  subst he
  exact ⟨_, rfl, K.law_post laidOut reads rfl Try.underlying4 rfl hW' rfl hg⟩
theorem over : Rows.fnDerivationsRow.holds Try.pinned (OpenSpec.ofChange Rows.fnDerivationsSpec) :=
  OpenClaim.holds_of_wide 8 Try.f8 rfl rfl rfl rfl rfl rfl rfl ⟨rfl, rfl, rfl, rfl, rfl⟩ rfl rfl rfl rfl rfl (by kernel_rfl) Try.func8 (by kernel_rfl)
    (of_decide_eq_true (by kernel_rfl)) (by unfold Func.isWrapper; first | (rw [if_pos (by decide +kernel)]; kernel_rfl) | (rw [if_neg (by decide +kernel)]; exact ⟨rfl, rfl⟩))
    (fun os started H enc _ => lifted os started H enc)
/-- The given statement. -/
theorem proved : Rows.FnDerivationsSaid := over
#print axioms proved
end frameFnDerivations
end Go.Proofs.Ythmnlbgbacbocaa
end
