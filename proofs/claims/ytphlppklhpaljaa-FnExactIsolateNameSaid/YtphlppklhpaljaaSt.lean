/-
  STEPS: what is asked of them, both sides.
-/
import Derived.Test.YtphlppklhpaljaaBase
import Derived.Test.YtphlppklhpaljaaMake2
set_option linter.unusedVariables false
namespace Go.Proofs.Ytphlppklhpaljaa
open Go.RowKit
theorem eqStep_run (d m t d' m' t' : Int) (w : World) : (binOp .eql 69 (.agg #[.int .i64 d, .int .u8 m, .int .i64 t]) (.agg #[.int .i64 d', .int .u8 m', .int .i64 t'])).run Try.prog w = .ok (.bool (d == d' && (m == m' && t == t'))) w := by
  have u3 := Try.underlying2
  have u4 := Try.underlying5
  have hS : Try.prog.underlying 69 = some (.struct (Try.prog.fieldsOf 69)) := by kernel_rfl
  have hp : Try.prog.stoodInHeld 69 = false := by kernel_rfl
  rw [run_eql_struct, show (10000 : Nat) = 9999 + 1 from rfl, run_equalIn_agg w 9999 69 _ _ hS hp]
  simp only [Program.fieldsOf, Try.underlying69]
  go_simp
  by_cases h1 : d = d' <;> by_cases h2 : m = m' <;> by_cases h3 : t = t' <;> simp [h1, h2, h3]
set_option maxHeartbeats 3200000 in
theorem isStep_any (s : Z.St) (w : World) :
    Calls Try.prog 128 #[.agg #[.int .i64 s.kd, .int .u8 s.nm, .int .i64 s.pw]] w fun e w' => e = .returned (.bool (Z.isStep s)) ∧ K.Ext w w' := by
  obtain ⟨d, m, t⟩ := s
  dsimp only
  by_cases h0 : d = 0
  · subst h0
    have HE : Hid (Z.isStep ⟨0, m, t⟩ = (m == 0 && t == 0)) := Z.hide (by simp [Z.isStep])
    have hq := fun (w : World) => eqStep_run 0 m t 0 0 0 w
    go_enter Try.func128, Try.ntmps128
    go_wp2
    go_ret
    exact ⟨K.rb (by rw [HE.out]; (try simp)), (by repeat' (first | with_reducible exact K.Ext.refl _ | with_reducible assumption | with_reducible refine K.Ext.drew ?_ | with_reducible refine K.Ext.alloc ?_ _ | with_reducible refine K.Ext.setCell ?_ ?_ _ | with_reducible refine K.Ext.trans ?_ (by with_reducible assumption) | (dsimp only; omega) | omega | exact K.Ext.refl _ | assumption | apply K.Ext.drew | refine K.Ext.alloc ?_ _ | refine K.Ext.setCell ?_ ?_ _ | (simp; done) | (simp; omega) | refine K.Ext.trans ?_ (by assumption)))⟩
  · by_cases h1 : d = 1
    · subst h1
      have HE : Hid (Z.isStep ⟨1, m, t⟩ = (decide (97 ≤ m) && decide (m ≤ 122) && !(t == 0) && (decide (-6 ≤ t) && decide (t ≤ 6)))) := Z.hide (by simp [Z.isStep])
      clear h0
      by_cases a1 : 97 ≤ m
      · by_cases a2 : m ≤ 122
        · by_cases a3 : t = 0
          · subst a3
            go_enter Try.func128, Try.ntmps128
            go_wp2
            go_ret
            exact ⟨K.rb (by rw [HE.out]; (try simp)), (by repeat' (first | with_reducible exact K.Ext.refl _ | with_reducible assumption | with_reducible refine K.Ext.drew ?_ | with_reducible refine K.Ext.alloc ?_ _ | with_reducible refine K.Ext.setCell ?_ ?_ _ | with_reducible refine K.Ext.trans ?_ (by with_reducible assumption) | (dsimp only; omega) | omega | exact K.Ext.refl _ | assumption | apply K.Ext.drew | refine K.Ext.alloc ?_ _ | refine K.Ext.setCell ?_ ?_ _ | (simp; done) | (simp; omega) | refine K.Ext.trans ?_ (by assumption)))⟩
          · have a4 : (t == 0) = false := by simpa using a3
            go_enter Try.func128, Try.ntmps128
            go_wp2_with (go_at_call 114; refine K.call (by with_reducible rfl) (by with_reducible rfl) (within_any _ _ _ _) ?_; rintro e w' ⟨rfl, rfl⟩)
            go_ret
            exact ⟨K.rb (by rw [HE.out, a4]; simp [a1, a2, a3]), (by repeat' (first | with_reducible exact K.Ext.refl _ | with_reducible assumption | with_reducible refine K.Ext.drew ?_ | with_reducible refine K.Ext.alloc ?_ _ | with_reducible refine K.Ext.setCell ?_ ?_ _ | with_reducible refine K.Ext.trans ?_ (by with_reducible assumption) | (dsimp only; omega) | omega | exact K.Ext.refl _ | assumption | apply K.Ext.drew | refine K.Ext.alloc ?_ _ | refine K.Ext.setCell ?_ ?_ _ | (simp; done) | (simp; omega) | refine K.Ext.trans ?_ (by assumption)))⟩
        · go_enter Try.func128, Try.ntmps128
          go_wp2
          go_ret
          exact ⟨K.rb (by rw [HE.out, decide_eq_false (show ¬ m ≤ 122 by omega)]; simp), (by repeat' (first | with_reducible exact K.Ext.refl _ | with_reducible assumption | with_reducible refine K.Ext.drew ?_ | with_reducible refine K.Ext.alloc ?_ _ | with_reducible refine K.Ext.setCell ?_ ?_ _ | with_reducible refine K.Ext.trans ?_ (by with_reducible assumption) | (dsimp only; omega) | omega | exact K.Ext.refl _ | assumption | apply K.Ext.drew | refine K.Ext.alloc ?_ _ | refine K.Ext.setCell ?_ ?_ _ | (simp; done) | (simp; omega) | refine K.Ext.trans ?_ (by assumption)))⟩
      · go_enter Try.func128, Try.ntmps128
        go_wp2
        go_ret
        exact ⟨K.rb (by rw [HE.out, decide_eq_false (show ¬ 97 ≤ m by omega)]; simp), (by repeat' (first | with_reducible exact K.Ext.refl _ | with_reducible assumption | with_reducible refine K.Ext.drew ?_ | with_reducible refine K.Ext.alloc ?_ _ | with_reducible refine K.Ext.setCell ?_ ?_ _ | with_reducible refine K.Ext.trans ?_ (by with_reducible assumption) | (dsimp only; omega) | omega | exact K.Ext.refl _ | assumption | apply K.Ext.drew | refine K.Ext.alloc ?_ _ | refine K.Ext.setCell ?_ ?_ _ | (simp; done) | (simp; omega) | refine K.Ext.trans ?_ (by assumption)))⟩
    · by_cases h2 : d = 2
      · subst h2
        have HE : Hid (Z.isStep ⟨2, m, t⟩ = (m == 0 && !(t == 0) && (decide (-3 ≤ t) && decide (t ≤ 3)))) := Z.hide (by simp [Z.isStep])
        clear h0 h1
        by_cases a1 : m = 0
        · subst a1
          by_cases a3 : t = 0
          · subst a3
            go_enter Try.func128, Try.ntmps128
            go_wp2
            go_ret
            exact ⟨K.rb (by rw [HE.out]; (try simp)), (by repeat' (first | with_reducible exact K.Ext.refl _ | with_reducible assumption | with_reducible refine K.Ext.drew ?_ | with_reducible refine K.Ext.alloc ?_ _ | with_reducible refine K.Ext.setCell ?_ ?_ _ | with_reducible refine K.Ext.trans ?_ (by with_reducible assumption) | (dsimp only; omega) | omega | exact K.Ext.refl _ | assumption | apply K.Ext.drew | refine K.Ext.alloc ?_ _ | refine K.Ext.setCell ?_ ?_ _ | (simp; done) | (simp; omega) | refine K.Ext.trans ?_ (by assumption)))⟩
          · have a4 : (t == 0) = false := by simpa using a3
            go_enter Try.func128, Try.ntmps128
            go_wp2_with (go_at_call 114; refine K.call (by with_reducible rfl) (by with_reducible rfl) (within_any _ _ _ _) ?_; rintro e w' ⟨rfl, rfl⟩)
            go_ret
            exact ⟨K.rb (by rw [HE.out, a4]; simp [a3]), (by repeat' (first | with_reducible exact K.Ext.refl _ | with_reducible assumption | with_reducible refine K.Ext.drew ?_ | with_reducible refine K.Ext.alloc ?_ _ | with_reducible refine K.Ext.setCell ?_ ?_ _ | with_reducible refine K.Ext.trans ?_ (by with_reducible assumption) | (dsimp only; omega) | omega | exact K.Ext.refl _ | assumption | apply K.Ext.drew | refine K.Ext.alloc ?_ _ | refine K.Ext.setCell ?_ ?_ _ | (simp; done) | (simp; omega) | refine K.Ext.trans ?_ (by assumption)))⟩
        · go_enter Try.func128, Try.ntmps128
          go_wp2
          go_ret
          exact ⟨K.rb (by rw [HE.out]; simp [a1]), (by repeat' (first | with_reducible exact K.Ext.refl _ | with_reducible assumption | with_reducible refine K.Ext.drew ?_ | with_reducible refine K.Ext.alloc ?_ _ | with_reducible refine K.Ext.setCell ?_ ?_ _ | with_reducible refine K.Ext.trans ?_ (by with_reducible assumption) | (dsimp only; omega) | omega | exact K.Ext.refl _ | assumption | apply K.Ext.drew | refine K.Ext.alloc ?_ _ | refine K.Ext.setCell ?_ ?_ _ | (simp; done) | (simp; omega) | refine K.Ext.trans ?_ (by assumption)))⟩
      · have HE : Hid (Z.isStep ⟨d, m, t⟩ = false) := Z.hide (by simp [Z.isStep, h0, h1, h2])
        go_enter Try.func128, Try.ntmps128
        go_wp2
        go_ret
        exact ⟨K.rb (by rw [HE.out]), (by repeat' (first | with_reducible exact K.Ext.refl _ | with_reducible assumption | with_reducible refine K.Ext.drew ?_ | with_reducible refine K.Ext.alloc ?_ _ | with_reducible refine K.Ext.setCell ?_ ?_ _ | with_reducible refine K.Ext.trans ?_ (by with_reducible assumption) | (dsimp only; omega) | omega | exact K.Ext.refl _ | assumption | apply K.Ext.drew | refine K.Ext.alloc ?_ _ | refine K.Ext.setCell ?_ ?_ _ | (simp; done) | (simp; omega) | refine K.Ext.trans ?_ (by assumption)))⟩
set_option maxHeartbeats 3200000 in
theorem l21Is_any (s : Z.St) (w : World) :
    Calls Try.prog 190 #[.agg #[.int .i64 s.kd, .int .u8 s.nm, .int .i64 s.pw]] w fun e w' => e = .returned (.bool (Z.isStep s)) ∧ K.Ext w w' := by
  obtain ⟨d, m, t⟩ := s
  dsimp only
  by_cases h0 : d = 0
  · subst h0
    have HE : Hid (Z.isStep ⟨0, m, t⟩ = (m == 0 && t == 0)) := Z.hide (by simp [Z.isStep])
    by_cases a1 : m = 0
    · subst a1
      go_enter Try.func190, Try.ntmps190
      go_wp2
      go_ret
      exact ⟨K.rb (by rw [HE.out]; (try simp)), (by repeat' (first | with_reducible exact K.Ext.refl _ | with_reducible assumption | with_reducible refine K.Ext.drew ?_ | with_reducible refine K.Ext.alloc ?_ _ | with_reducible refine K.Ext.setCell ?_ ?_ _ | with_reducible refine K.Ext.trans ?_ (by with_reducible assumption) | (dsimp only; omega) | omega | exact K.Ext.refl _ | assumption | apply K.Ext.drew | refine K.Ext.alloc ?_ _ | refine K.Ext.setCell ?_ ?_ _ | (simp; done) | (simp; omega) | refine K.Ext.trans ?_ (by assumption)))⟩
    · go_enter Try.func190, Try.ntmps190
      go_wp2
      go_ret
      exact ⟨K.rb (by rw [HE.out]; simp [a1]), (by repeat' (first | with_reducible exact K.Ext.refl _ | with_reducible assumption | with_reducible refine K.Ext.drew ?_ | with_reducible refine K.Ext.alloc ?_ _ | with_reducible refine K.Ext.setCell ?_ ?_ _ | with_reducible refine K.Ext.trans ?_ (by with_reducible assumption) | (dsimp only; omega) | omega | exact K.Ext.refl _ | assumption | apply K.Ext.drew | refine K.Ext.alloc ?_ _ | refine K.Ext.setCell ?_ ?_ _ | (simp; done) | (simp; omega) | refine K.Ext.trans ?_ (by assumption)))⟩
  · by_cases h1 : d = 1
    · subst h1
      have HE : Hid (Z.isStep ⟨1, m, t⟩ = (decide (97 ≤ m) && decide (m ≤ 122) && !(t == 0) && (decide (-6 ≤ t) && decide (t ≤ 6)))) := Z.hide (by simp [Z.isStep])
      clear h0
      by_cases a1 : 97 ≤ m
      · by_cases a2 : m ≤ 122
        · by_cases a3 : t = 0
          · subst a3
            go_enter Try.func190, Try.ntmps190
            go_wp2
            go_ret
            exact ⟨K.rb (by rw [HE.out]; (try simp)), (by repeat' (first | with_reducible exact K.Ext.refl _ | with_reducible assumption | with_reducible refine K.Ext.drew ?_ | with_reducible refine K.Ext.alloc ?_ _ | with_reducible refine K.Ext.setCell ?_ ?_ _ | with_reducible refine K.Ext.trans ?_ (by with_reducible assumption) | (dsimp only; omega) | omega | exact K.Ext.refl _ | assumption | apply K.Ext.drew | refine K.Ext.alloc ?_ _ | refine K.Ext.setCell ?_ ?_ _ | (simp; done) | (simp; omega) | refine K.Ext.trans ?_ (by assumption)))⟩
          · have a4 : (t == 0) = false := by simpa using a3
            go_enter Try.func190, Try.ntmps190
            go_wp2_with (go_at_call 112; refine K.call (by with_reducible rfl) (by with_reducible rfl) (l01In_any _ _ _ _) ?_; rintro e w' ⟨rfl, rfl⟩)
            go_ret
            exact ⟨K.rb (by rw [HE.out, a4]; simp [a1, a2, a3]), (by repeat' (first | with_reducible exact K.Ext.refl _ | with_reducible assumption | with_reducible refine K.Ext.drew ?_ | with_reducible refine K.Ext.alloc ?_ _ | with_reducible refine K.Ext.setCell ?_ ?_ _ | with_reducible refine K.Ext.trans ?_ (by with_reducible assumption) | (dsimp only; omega) | omega | exact K.Ext.refl _ | assumption | apply K.Ext.drew | refine K.Ext.alloc ?_ _ | refine K.Ext.setCell ?_ ?_ _ | (simp; done) | (simp; omega) | refine K.Ext.trans ?_ (by assumption)))⟩
        · go_enter Try.func190, Try.ntmps190
          go_wp2
          go_ret
          exact ⟨K.rb (by rw [HE.out, decide_eq_false (show ¬ m ≤ 122 by omega)]; simp), (by repeat' (first | with_reducible exact K.Ext.refl _ | with_reducible assumption | with_reducible refine K.Ext.drew ?_ | with_reducible refine K.Ext.alloc ?_ _ | with_reducible refine K.Ext.setCell ?_ ?_ _ | with_reducible refine K.Ext.trans ?_ (by with_reducible assumption) | (dsimp only; omega) | omega | exact K.Ext.refl _ | assumption | apply K.Ext.drew | refine K.Ext.alloc ?_ _ | refine K.Ext.setCell ?_ ?_ _ | (simp; done) | (simp; omega) | refine K.Ext.trans ?_ (by assumption)))⟩
      · go_enter Try.func190, Try.ntmps190
        go_wp2
        go_ret
        exact ⟨K.rb (by rw [HE.out, decide_eq_false (show ¬ 97 ≤ m by omega)]; simp), (by repeat' (first | with_reducible exact K.Ext.refl _ | with_reducible assumption | with_reducible refine K.Ext.drew ?_ | with_reducible refine K.Ext.alloc ?_ _ | with_reducible refine K.Ext.setCell ?_ ?_ _ | with_reducible refine K.Ext.trans ?_ (by with_reducible assumption) | (dsimp only; omega) | omega | exact K.Ext.refl _ | assumption | apply K.Ext.drew | refine K.Ext.alloc ?_ _ | refine K.Ext.setCell ?_ ?_ _ | (simp; done) | (simp; omega) | refine K.Ext.trans ?_ (by assumption)))⟩
    · by_cases h2 : d = 2
      · subst h2
        have HE : Hid (Z.isStep ⟨2, m, t⟩ = (m == 0 && !(t == 0) && (decide (-3 ≤ t) && decide (t ≤ 3)))) := Z.hide (by simp [Z.isStep])
        clear h0 h1
        by_cases a1 : m = 0
        · subst a1
          by_cases a3 : t = 0
          · subst a3
            go_enter Try.func190, Try.ntmps190
            go_wp2
            go_ret
            exact ⟨K.rb (by rw [HE.out]; (try simp)), (by repeat' (first | with_reducible exact K.Ext.refl _ | with_reducible assumption | with_reducible refine K.Ext.drew ?_ | with_reducible refine K.Ext.alloc ?_ _ | with_reducible refine K.Ext.setCell ?_ ?_ _ | with_reducible refine K.Ext.trans ?_ (by with_reducible assumption) | (dsimp only; omega) | omega | exact K.Ext.refl _ | assumption | apply K.Ext.drew | refine K.Ext.alloc ?_ _ | refine K.Ext.setCell ?_ ?_ _ | (simp; done) | (simp; omega) | refine K.Ext.trans ?_ (by assumption)))⟩
          · have a4 : (t == 0) = false := by simpa using a3
            go_enter Try.func190, Try.ntmps190
            go_wp2_with (go_at_call 112; refine K.call (by with_reducible rfl) (by with_reducible rfl) (l01In_any _ _ _ _) ?_; rintro e w' ⟨rfl, rfl⟩)
            go_ret
            exact ⟨K.rb (by rw [HE.out, a4]; simp [a3]), (by repeat' (first | with_reducible exact K.Ext.refl _ | with_reducible assumption | with_reducible refine K.Ext.drew ?_ | with_reducible refine K.Ext.alloc ?_ _ | with_reducible refine K.Ext.setCell ?_ ?_ _ | with_reducible refine K.Ext.trans ?_ (by with_reducible assumption) | (dsimp only; omega) | omega | exact K.Ext.refl _ | assumption | apply K.Ext.drew | refine K.Ext.alloc ?_ _ | refine K.Ext.setCell ?_ ?_ _ | (simp; done) | (simp; omega) | refine K.Ext.trans ?_ (by assumption)))⟩
        · go_enter Try.func190, Try.ntmps190
          go_wp2
          go_ret
          exact ⟨K.rb (by rw [HE.out]; simp [a1]), (by repeat' (first | with_reducible exact K.Ext.refl _ | with_reducible assumption | with_reducible refine K.Ext.drew ?_ | with_reducible refine K.Ext.alloc ?_ _ | with_reducible refine K.Ext.setCell ?_ ?_ _ | with_reducible refine K.Ext.trans ?_ (by with_reducible assumption) | (dsimp only; omega) | omega | exact K.Ext.refl _ | assumption | apply K.Ext.drew | refine K.Ext.alloc ?_ _ | refine K.Ext.setCell ?_ ?_ _ | (simp; done) | (simp; omega) | refine K.Ext.trans ?_ (by assumption)))⟩
      · have HE : Hid (Z.isStep ⟨d, m, t⟩ = false) := Z.hide (by simp [Z.isStep, h0, h1, h2])
        go_enter Try.func190, Try.ntmps190
        go_wp2
        go_ret
        exact ⟨K.rb (by rw [HE.out]), (by repeat' (first | with_reducible exact K.Ext.refl _ | with_reducible assumption | with_reducible refine K.Ext.drew ?_ | with_reducible refine K.Ext.alloc ?_ _ | with_reducible refine K.Ext.setCell ?_ ?_ _ | with_reducible refine K.Ext.trans ?_ (by with_reducible assumption) | (dsimp only; omega) | omega | exact K.Ext.refl _ | assumption | apply K.Ext.drew | refine K.Ext.alloc ?_ _ | refine K.Ext.setCell ?_ ?_ _ | (simp; done) | (simp; omega) | refine K.Ext.trans ?_ (by assumption)))⟩
theorem allSteps1_any (s : Z.St) (w : World) :
    Calls Try.prog 194 #[.agg #[.int .i64 s.kd, .int .u8 s.nm, .int .i64 s.pw]] w fun e w' => e = .returned (.bool (!Z.isStep s)) ∧ K.Ext w w' := by
  go_enter Try.func194, Try.ntmps194
  go_wp2_with ((go_at_call 128; refine K.call (by with_reducible rfl) (by with_reducible rfl) (isStep_any s _) ?_; rintro e w1 ⟨rfl, hw1⟩; obtain ⟨hcw1, hfw1⟩ := hw1.facts))
  go_ret
  exact ⟨rfl, (by repeat' (first | with_reducible exact K.Ext.refl _ | with_reducible assumption | with_reducible refine K.Ext.drew ?_ | with_reducible refine K.Ext.alloc ?_ _ | with_reducible refine K.Ext.setCell ?_ ?_ _ | with_reducible refine K.Ext.trans ?_ (by with_reducible assumption) | (dsimp only; omega) | omega | exact K.Ext.refl _ | assumption | apply K.Ext.drew | refine K.Ext.alloc ?_ _ | refine K.Ext.setCell ?_ ?_ _ | (simp; done) | (simp; omega) | refine K.Ext.trans ?_ (by assumption)))⟩
set_option maxHeartbeats 1600000 in
theorem IndexFunc_steps (xs : List Z.St) {lo hi : Nat} {v : Value} (w : World) (hm : xs.length ≤ 1048576) (h : K.recs false K.StR w lo hi v xs) :
    Calls Try.prog 221 #[v, .func (.func 194) #[] #[]] w fun e w' => (∃ r : Int, e = .returned (.int .i64 r) ∧ ((Z.allSt xs = true ∧ r = -1) ∨ (Z.allSt xs = false ∧ 0 ≤ r))) ∧ K.Ext w w' := by
  have h1 := h
  obtain ⟨o, cap, rfl, _⟩ := h1
  have HH := Z.hide h
  clear h
  have hg : ∀ (args : Array Value) (w' : World), (callFunc 194 args).run Try.prog w' = .ok (.enter 194 args) w' := by
    intro args w'; go_simp
  go_enter Try.func221, Try.ntmps221
  go_wp2
  go_loopw [8] (fun i wr => ∃ k : Nat, k ≤ xs.length ∧ i = .int .i64 k ∧ Hid (Z.allSt (xs.take k) = true) ∧ Hid (K.Ext w wr)) (fun i _ => xs.length - (intOf i).toNat)
  case atStart => exact ⟨0, Nat.zero_le _, rfl, Z.hide rfl, Z.hide (K.Ext.refl _)⟩
  case round =>
    obtain ⟨k, hk, rfl, HP, HX⟩ := hrel
    by_cases hlt : k < xs.length
    · obtain ⟨b, off, rfl, _, _, hc, _⟩ := K.recs_at HH.out (by omega)
      have hc0 : wr.cell? ⟨b, off + k * 3, none⟩ = some (.int .i64 (xs[k]'hlt).kd) := HX.out.cell_of (hc k hlt 0 (by decide))
      have hc1 : wr.cell? ⟨b, off + k * 3 + 1, none⟩ = some (.int .u8 (xs[k]'hlt).nm) := HX.out.cell_of (hc k hlt 1 (by decide))
      have hc2 : wr.cell? ⟨b, off + k * 3 + 2, none⟩ = some (.int .i64 (xs[k]'hlt).pw) := HX.out.cell_of (hc k hlt 2 (by decide))
      have HS := Z.hide (Z.allSt_succ xs k hlt)
      have HB := Z.hide (Z.allSt_bad xs k hlt)
      have i0 : (0 : Int) ≤ (k : Int) := Int.natCast_nonneg k
      have i1 : (k : Int) < (xs.length : Int) := by omega
      clear hc
      generalize (xs[k]'hlt) = s at *
      cases h1 : Z.isStep s
      · go_wp2_with (refine K.call (by with_reducible rfl) (by with_reducible rfl) (allSteps1_any s _) ?_; rintro e w1 ⟨rfl, hw1⟩)
        go_ret
        exact ⟨⟨_, rfl, (.inr ⟨HB.out h1, by omega⟩)⟩, HX.out.trans hw1⟩
      · go_wp2_with (refine K.call (by with_reducible rfl) (by with_reducible rfl) (allSteps1_any s _) ?_; rintro e w1 ⟨rfl, hw1⟩)
        go_roundw
        case rel => exact ⟨k + 1, by omega, by go_num, Z.hide (by rw [HS.out, HP.out, h1]; rfl), Z.hide (HX.out.trans hw1)⟩
        case measure => simp [intOf]; omega
    · obtain rfl : k = xs.length := by omega
      have HF : Hid (Z.allSt xs = true) := Z.hide (by have := HP.out; rwa [List.take_length] at this)
      go_wp2
      go_ret
      exact ⟨⟨_, rfl, .inl ⟨HF.out, rfl⟩⟩, HX.out⟩
theorem ContainsFunc_steps (xs : List Z.St) {lo hi : Nat} {v : Value} (w : World) (hm : xs.length ≤ 1048576) (h : K.recs false K.StR w lo hi v xs) :
    Calls Try.prog 193 #[v, .func (.func 194) #[] #[]] w fun e w' => e = .returned (.bool (!Z.allSt xs)) ∧ K.Ext w w' := by
  go_enter Try.func193, Try.ntmps193
  go_wp2_with ((go_at_call 221; refine K.call (by with_reducible rfl) (by with_reducible rfl) (IndexFunc_steps xs _ hm h) ?_; rintro e w1 ⟨⟨r, rfl, hr⟩, hw1⟩))
  go_ret
  refine ⟨K.rb ?_, hw1⟩
  rcases hr with ⟨h1, rfl⟩ | ⟨h1, h2⟩
  · rw [h1]; rfl
  · rw [h1]; simpa using h2
theorem allSteps_any (xs : List Z.St) {lo hi : Nat} {v : Value} (w : World) (hm : xs.length ≤ 1048576) (h : K.recs false K.StR w lo hi v xs) :
    Calls Try.prog 137 #[v] w fun e w' => e = .returned (.bool (Z.allSt xs)) ∧ K.Ext w w' := by
  go_enter Try.func137, Try.ntmps137
  go_wp2_with ((go_at_call 193; refine K.call (by with_reducible rfl) (by with_reducible rfl) (ContainsFunc_steps xs _ hm h) ?_; rintro e w1 ⟨rfl, hw1⟩; obtain ⟨hcw1, hfw1⟩ := hw1.facts))
  go_ret
  exact ⟨K.rb (by simp), hw1⟩
set_option maxHeartbeats 1600000 in
theorem l21Code_any (xs : List Z.St) {lo hi : Nat} {v : Value} (w : World) (hm : xs.length ≤ 1048576) (h : K.recs false K.StR w lo hi v xs) :
    Calls Try.prog 131 #[v] w fun e w' => e = .returned (.int .i64 (Z.stCode xs)) ∧ K.Ext w w' := by
  have h1 := h
  obtain ⟨o, cap, rfl, _⟩ := h1
  have HH := Z.hide h
  clear h
  go_enter Try.func131, Try.ntmps131
  go_wp2
  go_loopw [3] (fun i wr => ∃ k : Nat, k ≤ xs.length ∧ i = .int .i64 k ∧ Hid (Z.allSt (xs.take k) = true) ∧ Hid (K.Ext w wr)) (fun i _ => xs.length - (intOf i).toNat)
  case atStart => exact ⟨0, Nat.zero_le _, rfl, Z.hide rfl, Z.hide (K.Ext.refl _)⟩
  case round =>
    obtain ⟨k, hk, rfl, HP, HX⟩ := hrel
    by_cases hlt : k < xs.length
    · obtain ⟨b, off, rfl, _, _, hc, _⟩ := K.recs_at HH.out (by omega)
      have hc0 : wr.cell? ⟨b, off + k * 3, none⟩ = some (.int .i64 (xs[k]'hlt).kd) := HX.out.cell_of (hc k hlt 0 (by decide))
      have hc1 : wr.cell? ⟨b, off + k * 3 + 1, none⟩ = some (.int .u8 (xs[k]'hlt).nm) := HX.out.cell_of (hc k hlt 1 (by decide))
      have hc2 : wr.cell? ⟨b, off + k * 3 + 2, none⟩ = some (.int .i64 (xs[k]'hlt).pw) := HX.out.cell_of (hc k hlt 2 (by decide))
      have HS := Z.hide (Z.allSt_succ xs k hlt)
      have HB := Z.hide (Z.allSt_bad xs k hlt)
      have i0 : (0 : Int) ≤ (k : Int) := Int.natCast_nonneg k
      have i1 : (k : Int) < (xs.length : Int) := by omega
      clear hc
      generalize (xs[k]'hlt) = s at *
      cases h1 : Z.isStep s
      · have HF := Z.hide (HB.out h1)
        go_wp2_with ((go_at_call 190; refine K.call (by with_reducible rfl) (by with_reducible rfl) (l21Is_any s _) ?_; rintro e w1 ⟨rfl, hw1⟩; obtain ⟨hcw1, hfw1⟩ := hw1.facts))
        go_ret
        exact ⟨K.ri (by simp [Z.stCode, HF.out]), HX.out.trans hw1⟩
      · go_wp2_with ((go_at_call 190; refine K.call (by with_reducible rfl) (by with_reducible rfl) (l21Is_any s _) ?_; rintro e w1 ⟨rfl, hw1⟩; obtain ⟨hcw1, hfw1⟩ := hw1.facts))
        go_roundw
        case rel => exact ⟨k + 1, by omega, by go_num, Z.hide (by rw [HS.out, HP.out, h1]; rfl), Z.hide (HX.out.trans hw1)⟩
        case measure => simp [intOf]; omega
    · obtain rfl : k = xs.length := by omega
      have HF : Hid (Z.allSt xs = true) := Z.hide (by have := HP.out; rwa [List.take_length] at this)
      by_cases hl : (xs.length : Int) ≤ 12
      · have hl' : ¬ (12 < (xs.length : Int)) := by omega
        go_wp2
        go_ret
        exact ⟨K.ri (by simp [Z.stCode, HF.out, hl]), HX.out⟩
      · have hl' : 12 < (xs.length : Int) := by omega
        go_wp2
        go_ret
        exact ⟨K.ri (by simp [Z.stCode, HF.out, hl]), HX.out⟩
end Go.Proofs.Ytphlppklhpaljaa
