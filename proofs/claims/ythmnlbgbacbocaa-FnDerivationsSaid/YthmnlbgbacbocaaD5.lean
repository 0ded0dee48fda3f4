/-
  Part 5 of the texts of this claim: contracts of functions and plain mathematics.
-/
import Derived.Test.YthmnlbgbacbocaaD4
set_option linter.unusedVariables false
section
namespace Go.Z
def undoSt (s : St) : St := if s.kd = 1 then ⟨s.kd, s.nm, -s.pw⟩ else s
def isBad (s : St) : Bool := s.kd == 2 && !(s.pw == 1) && !(s.pw == -1)
def noBad (l : List St) : Bool := l.all (fun s => !isBad s)
def UndoSteps (l : List St) : List St × Int := if stCode l = 0 then (if noBad l then (l.reverse.map undoSt, 0) else ([], 5)) else ([], stCode l)
theorem noBad_snoc (l : List St) (s : St) : noBad (l ++ [s]) = (noBad l && (true && !isBad s)) := by simp [noBad]
theorem noBad_rev (l : List St) : noBad l.reverse = noBad l := by simp [noBad]
theorem code_valid {l : List St} (h : stCode l = 0) : ∀ s ∈ l, isStep s = true := by
  unfold stCode at h
  split at h
  · rename_i h1; unfold allSt at h1; rw [List.all_eq_true] at h1; exact h1
  · simp at h
theorem code_len {l : List St} (h : stCode l = 0) : l.length ≤ 12 := by
  unfold stCode at h
  split at h
  · split at h
    · omega
    · simp at h
  · simp at h
theorem step_cases {d m t : Int} (h : isStep ⟨d, m, t⟩ = true) : (d = 0 ∧ m = 0 ∧ t = 0) ∨ (d = 1 ∧ -6 ≤ t ∧ t ≤ 6) ∨ (d = 2 ∧ m = 0 ∧ -3 ≤ t ∧ t ≤ 3) := by
  unfold isStep at h
  split at h
  · left; rename_i h0; simp at h; exact ⟨h0, h.1, h.2⟩
  · split at h
    · right; left; rename_i h1; simp at h; exact ⟨h1, by omega, by omega⟩
    · split at h
      · right; right; rename_i h2; simp at h; exact ⟨h2, by omega, by omega, by omega⟩
      · simp at h
theorem rev_take (xs : List St) (k j : Nat) (hj : j < xs.length) (h : k + j + 1 = xs.length) : xs.reverse.take (k + 1) = xs.reverse.take k ++ [xs[j]] := by
  have hk : k < xs.reverse.length := by simp; omega
  rw [List.take_succ_eq_append_getElem hk, List.getElem_reverse]
  have e : xs.length - 1 - k = j := by omega
  simp only [e]
theorem undo_bad {l : List St} (hc : stCode l = 0) {s : St} (hs : s ∈ l) (hb : isBad s = true) : UndoSteps l = ([], 5) := by
  have : noBad l = false := by unfold noBad; rw [List.all_eq_false]; exact ⟨s, hs, by simp [hb]⟩
  unfold UndoSteps; rw [if_pos hc, this]; rfl
theorem undo_good {l : List St} (hc : stCode l = 0) (h : noBad l.reverse = true) : UndoSteps l = (l.reverse.map undoSt, 0) := by
  rw [noBad_rev] at h
  unfold UndoSteps; rw [if_pos hc, h]; rfl
theorem UndoSteps_le (l : List St) (h : l.length ≤ 1048576) : (UndoSteps l).1.length ≤ 1048576 := by
  unfold UndoSteps; split
  · split
    · simpa using h
    · simp
  · simp
end Go.Z
namespace Go.K
open Go.RowKit
theorem row_lit3 {w : World} {B g : Nat} {e : TypeId} (hg : g = w.heap.size) (hB : B ≤ g) : (w.alloc (.cells #[] e)).ownsRow B e 3 (.slice (some ⟨g, 0, none⟩) 0 0) 0 [] := by
  subst hg; exact World.ownsRow_lit w #[] 0 hB (by decide) rfl
end Go.K
namespace Go.Proofs.Ythmnlbgbacbocaa
open Go.RowKit
theorem checkSteps_any (xs : List Z.St) {lo hi : Nat} {v : Value} (w : World) (hm : xs.length ≤ 1048576) (h : K.recs false K.StR w lo hi v xs) :
    Calls Try.prog 156 #[v] w fun e w' => e = .returned (.int .i64 (Z.stCode xs)) ∧ K.Ext w w' := by
  have h1 := h
  obtain ⟨o, cap, rfl, _⟩ := h1
  cases ha : Z.allSt xs
  · have HE : Hid (Z.stCode xs = 1) := Z.hide (by simp [Z.stCode, ha])
    go_enter Try.func156, Try.ntmps156
    go_wp2_with ((go_at_call 148; refine K.call (by with_reducible rfl) (by with_reducible rfl) (allSteps_any xs _ hm h) ?_; rintro e w1 ⟨rfl, hw1⟩; obtain ⟨hcw1, hfw1⟩ := hw1.facts))
    go_ret
    exact ⟨K.ri (by rw [HE.out]), hw1⟩
  · by_cases hl : (xs.length : Int) ≤ 12
    · have HE : Hid (Z.stCode xs = 0) := Z.hide (by simp [Z.stCode, ha, hl])
      have hl' : ¬ (12 < (xs.length : Int)) := by omega
      go_enter Try.func156, Try.ntmps156
      go_wp2_with ((go_at_call 148; refine K.call (by with_reducible rfl) (by with_reducible rfl) (allSteps_any xs _ hm h) ?_; rintro e w1 ⟨rfl, hw1⟩; obtain ⟨hcw1, hfw1⟩ := hw1.facts))
      go_ret
      exact ⟨K.ri (by rw [HE.out]), hw1⟩
    · have HE : Hid (Z.stCode xs = 3) := Z.hide (by simp [Z.stCode, ha, hl])
      have hl' : 12 < (xs.length : Int) := by omega
      go_enter Try.func156, Try.ntmps156
      go_wp2_with ((go_at_call 148; refine K.call (by with_reducible rfl) (by with_reducible rfl) (allSteps_any xs _ hm h) ?_; rintro e w1 ⟨rfl, hw1⟩; obtain ⟨hcw1, hfw1⟩ := hw1.facts))
      go_ret
      exact ⟨K.ri (by rw [HE.out]), hw1⟩
set_option maxRecDepth 100000 in
set_option maxHeartbeats 6400000 in
theorem impl_UndoSteps (xs : List Z.St) {lo hi : Nat} {v : Value} (w : World) (hm : xs.length ≤ 1048576) (h : K.recs false K.StR w lo hi v xs) :
    Calls Try.prog 80 #[v] w fun e w' => (∃ v', e = .returned (.tuple #[v', .int .i64 (Z.UndoSteps xs).2]) ∧ K.recs true K.StR w' w.heap.size w'.heap.size v' (Z.UndoSteps xs).1) ∧ K.Ext w w' := by
  have h1 := h
  obtain ⟨o, cap, rfl, _⟩ := h1
  have HH := Z.hide h
  by_cases hc : Z.stCode xs = 0
  · have HK : ∀ w' : World, K.Ext w w' → Calls Try.prog 156 #[.slice o xs.length cap] w' fun e w'' => e = .returned (.int .i64 0) ∧ K.Ext w' w'' := fun w' hx => by have h_ := checkSteps_any xs w' hm (HH.out.ext hx); rwa [hc] at h_
    have HV := Z.hide (Z.code_valid hc)
    have HC0 := Z.hide hc
    obtain ⟨it0, hi0, hz0, hz1, hz2⟩ := info_parts info_step
    obtain ⟨n, hn⟩ : ∃ n, n = xs.length := ⟨_, rfl⟩
    have HN := Z.hide hn
    rw [← hn] at HK hm ⊢
    have hn12 : n ≤ 12 := by rw [hn]; exact Z.code_len hc
    clear h hc hn
    go_enter Try.func80, Try.ntmps80
    go_wp2_with ((go_at_call 156; refine K.call (by with_reducible rfl) (by with_reducible rfl) (HK _ (K.Ext.refl _)) ?_; rintro e w1 ⟨rfl, hw1⟩))
    have HX1 := Z.hide hw1
    have lw1 := hw1.size
    clear HK hw1
    go_loopw [5, 6] (fun out i wr => ∃ k : Nat, k ≤ n ∧ i = (if k < n then .int .i64 ((n - 1 - k : Nat) : Int) else .int .i64 (-1)) ∧ Hid (Z.noBad (xs.reverse.take k) = true) ∧ Hid (wr.ownsRow w.heap.size 98 3 out k (K.StR.cells ((xs.reverse.take k).map Z.undoSt))) ∧ Hid (K.Ext w wr)) (fun _ i _ => (intOf i + 1).toNat)
    case atStart => exact ⟨0, Nat.zero_le _, by split <;> exact K.vint (by omega), Z.hide rfl, Z.hide (K.row_lit3 (by simp) (by omega)), Z.hide (HX1.out.alloc _)⟩
    case round =>
      obtain ⟨k, hk, rfl, HB, HO, HX⟩ := hrel
      by_cases hlt : k < n
      · rw [if_pos hlt]
        obtain ⟨j, hj⟩ : ∃ j : Nat, j = n - 1 - k := ⟨_, rfl⟩
        rw [← hj]
        have hjn : j < xs.length := by rw [← HN.out]; omega
        obtain ⟨b, off, rfl, _, _, hc, _⟩ := K.recs_at HH.out (by omega)
        have hc0 : wr.cell? ⟨b, off + j * 3, none⟩ = some (.int .i64 (xs[j]'hjn).kd) := HX.out.cell_of (hc j hjn 0 (by decide))
        have hc1 : wr.cell? ⟨b, off + j * 3 + 1, none⟩ = some (.int .u8 (xs[j]'hjn).nm) := HX.out.cell_of (hc j hjn 1 (by decide))
        have hc2 : wr.cell? ⟨b, off + j * 3 + 2, none⟩ = some (.int .i64 (xs[j]'hjn).pw) := HX.out.cell_of (hc j hjn 2 (by decide))
        have hv := HV.out (xs[j]'hjn) (List.getElem_mem hjn)
        have HT : Hid (xs.reverse.take (k + 1) = xs.reverse.take k ++ [xs[j]'hjn]) := Z.hide (Z.rev_take xs k j hjn (by rw [← HN.out]; omega))
        have HBd : Hid (Z.isBad (xs[j]'hjn) = true → Z.UndoSteps xs = ([], 5)) := Z.hide (fun hb => Z.undo_bad HC0.out (List.getElem_mem hjn) hb)
        have j0 : (0 : Int) ≤ (j : Int) := Int.natCast_nonneg j
        have j1 : (j : Int) < (n : Int) := by omega
        have lbw : wr.heap.size ≠ b := by have := World.block_lt_of_cell? wr _ hc0; simp only at this; omega
        have lw := HX.out.size
        have hj1 : j + k + 1 ≤ n := by omega
        have hj2 : n ≤ j + k + 1 := by omega
        clear hc hj
        obtain ⟨s, hs⟩ : ∃ s, s = (xs[j]'hjn) := ⟨_, rfl⟩
        rw [← hs] at hc0 hc1 hc2 hv HT HBd
        clear hs
        obtain ⟨d, m, t0⟩ := s
        dsimp only at hc0 hc1 hc2
        rcases Z.step_cases hv with ⟨rfl, rfl, rfl⟩ | ⟨rfl, t1, t2⟩ | ⟨rfl, rfl, t1, t2⟩
        · have HBs : Hid ((true && !Z.isBad ⟨0, 0, 0⟩) = true) := Z.hide rfl
          have HC : Hid (Z.undoSt ⟨0, 0, 0⟩ = ⟨0, 0, 0⟩) := Z.hide (by rfl)
          go_wp2_with ((at_builtin; refine wpList_append_lies _ rfl _ _ _ rfl (w.heap.size) 98 it0 _ 3 24 Try.underlying93 hi0 hz0 hz1 hz2 rfl (by omega) u5 k _ rfl ((HO.out.alloc _).alloc _) ⟨wr.heap.size + 1, 0, none⟩ 1 1 [.int .i64 0, .int .u8 0, .int .i64 0] rfl rfl (World.news_of_block (cs := #[.int .i64 0, .int .u8 0, .int .i64 0]) (t := 98) (fr := (0, 0)) (K.block_new (by simp))) (by simp [Value.oneCell']) (by omega) (by unfold maxLen; omega) (by omega) (by simp; omega) (wr.heap.size + 1 + 1) (by simp) ?_; intro g2 gcap2 w2 hown2 hgrow2 hat2 hlt3; have HR2 : Hid (∀ g, u5.ownBlock = some g → w.heap.size ≤ g) := Z.hide (fun g hg => (HO.out.lt g hg).1); have HP2 := Z.hide hown2; have HX2 : Hid (K.Ext w w2) := Z.hide ((((HX.out.alloc _).alloc _).below.grown hgrow2 (by simp; omega) (fun g hg => by have := HR2.out g hg; omega))); clear hown2 hgrow2 hat2))
          go_roundw
          case rel => exact ⟨k + 1, by omega, by split <;> exact K.vint (by omega), Z.hide (by rw [HT.out, Z.noBad_snoc, HB.out]; exact HBs.out), Z.hide (by rw [HT.out, List.map_append, List.map_singleton, K.Rec.cells_snoc, HC.out]; exact HP2.out), HX2⟩
          case measure => first | (simp [intOf]; done) | (simp [intOf]; omega)
        · have HBs : Hid ((true && !Z.isBad ⟨1, m, t0⟩) = true) := Z.hide rfl
          clear hv
          have HC : Hid (Z.undoSt ⟨1, m, t0⟩ = ⟨1, m, -t0⟩) := Z.hide (by rfl)
          go_wp2_with ((at_builtin; refine wpList_append_lies _ rfl _ _ _ rfl (w.heap.size) 98 it0 _ 3 24 Try.underlying93 hi0 hz0 hz1 hz2 rfl (by omega) u5 k _ rfl ((HO.out.alloc _).alloc _) ⟨wr.heap.size + 1, 0, none⟩ 1 1 [.int .i64 1, .int .u8 m, .int .i64 (-t0)] rfl rfl (World.news_of_block (cs := #[.int .i64 1, .int .u8 m, .int .i64 (-t0)]) (t := 98) (fr := (0, 0)) (K.block_new (by simp))) (by simp [Value.oneCell']) (by omega) (by unfold maxLen; omega) (by omega) (by simp; omega) (wr.heap.size + 1 + 1) (by simp) ?_; intro g2 gcap2 w2 hown2 hgrow2 hat2 hlt3; have HR2 : Hid (∀ g, u5.ownBlock = some g → w.heap.size ≤ g) := Z.hide (fun g hg => (HO.out.lt g hg).1); have HP2 := Z.hide hown2; have HX2 : Hid (K.Ext w w2) := Z.hide ((((HX.out.alloc _).alloc _).below.grown hgrow2 (by simp; omega) (fun g hg => by have := HR2.out g hg; omega))); clear hown2 hgrow2 hat2))
          go_roundw
          case rel => exact ⟨k + 1, by omega, by split <;> exact K.vint (by omega), Z.hide (by rw [HT.out, Z.noBad_snoc, HB.out]; exact HBs.out), Z.hide (by rw [HT.out, List.map_append, List.map_singleton, K.Rec.cells_snoc, HC.out]; exact HP2.out), HX2⟩
          case measure => first | (simp [intOf]; done) | (simp [intOf]; omega)
        · clear hv
          by_cases p1 : t0 = 1
          · subst p1
            have HBs : Hid ((true && !Z.isBad ⟨2, 0, 1⟩) = true) := Z.hide rfl
            have HC : Hid (Z.undoSt ⟨2, 0, 1⟩ = ⟨2, 0, 1⟩) := Z.hide (by rfl)
            go_wp2_with ((at_builtin; refine wpList_append_lies _ rfl _ _ _ rfl (w.heap.size) 98 it0 _ 3 24 Try.underlying93 hi0 hz0 hz1 hz2 rfl (by omega) u5 k _ rfl ((HO.out.alloc _).alloc _) ⟨wr.heap.size + 1, 0, none⟩ 1 1 [.int .i64 2, .int .u8 0, .int .i64 1] rfl rfl (World.news_of_block (cs := #[.int .i64 2, .int .u8 0, .int .i64 1]) (t := 98) (fr := (0, 0)) (K.block_new (by simp))) (by simp [Value.oneCell']) (by omega) (by unfold maxLen; omega) (by omega) (by simp; omega) (wr.heap.size + 1 + 1) (by simp) ?_; intro g2 gcap2 w2 hown2 hgrow2 hat2 hlt3; have HR2 : Hid (∀ g, u5.ownBlock = some g → w.heap.size ≤ g) := Z.hide (fun g hg => (HO.out.lt g hg).1); have HP2 := Z.hide hown2; have HX2 : Hid (K.Ext w w2) := Z.hide ((((HX.out.alloc _).alloc _).below.grown hgrow2 (by simp; omega) (fun g hg => by have := HR2.out g hg; omega))); clear hown2 hgrow2 hat2))
            go_roundw
            case rel => exact ⟨k + 1, by omega, by split <;> exact K.vint (by omega), Z.hide (by rw [HT.out, Z.noBad_snoc, HB.out]; exact HBs.out), Z.hide (by rw [HT.out, List.map_append, List.map_singleton, K.Rec.cells_snoc, HC.out]; exact HP2.out), HX2⟩
            case measure => first | (simp [intOf]; done) | (simp [intOf]; omega)
          · by_cases p2 : t0 = -1
            · subst p2
              have HBs : Hid ((true && !Z.isBad ⟨2, 0, -1⟩) = true) := Z.hide rfl
              have HC : Hid (Z.undoSt ⟨2, 0, -1⟩ = ⟨2, 0, -1⟩) := Z.hide (by rfl)
              go_wp2_with ((at_builtin; refine wpList_append_lies _ rfl _ _ _ rfl (w.heap.size) 98 it0 _ 3 24 Try.underlying93 hi0 hz0 hz1 hz2 rfl (by omega) u5 k _ rfl ((HO.out.alloc _).alloc _) ⟨wr.heap.size + 1, 0, none⟩ 1 1 [.int .i64 2, .int .u8 0, .int .i64 (-1)] rfl rfl (World.news_of_block (cs := #[.int .i64 2, .int .u8 0, .int .i64 (-1)]) (t := 98) (fr := (0, 0)) (K.block_new (by simp))) (by simp [Value.oneCell']) (by omega) (by unfold maxLen; omega) (by omega) (by simp; omega) (wr.heap.size + 1 + 1) (by simp) ?_; intro g2 gcap2 w2 hown2 hgrow2 hat2 hlt3; have HR2 : Hid (∀ g, u5.ownBlock = some g → w.heap.size ≤ g) := Z.hide (fun g hg => (HO.out.lt g hg).1); have HP2 := Z.hide hown2; have HX2 : Hid (K.Ext w w2) := Z.hide ((((HX.out.alloc _).alloc _).below.grown hgrow2 (by simp; omega) (fun g hg => by have := HR2.out g hg; omega))); clear hown2 hgrow2 hat2))
              go_roundw
              case rel => exact ⟨k + 1, by omega, by split <;> exact K.vint (by omega), Z.hide (by rw [HT.out, Z.noBad_snoc, HB.out]; exact HBs.out), Z.hide (by rw [HT.out, List.map_append, List.map_singleton, K.Rec.cells_snoc, HC.out]; exact HP2.out), HX2⟩
              case measure => first | (simp [intOf]; done) | (simp [intOf]; omega)
            · have HE : Hid (Z.UndoSteps xs = ([], 5)) := Z.hide (HBd.out (by simp [Z.isBad, p1, p2]))
              have q1 : (t0 == 1) = false := by simpa using p1
              have q2 : (t0 == -1) = false := by simpa using p2
              have q3 : (t0 != 1) = true := by simpa using p1
              have q4 : (t0 != -1) = true := by simpa using p2
              go_wp2_with (fail)
              rw [HE.out]
              go_ret2
              exact ⟨⟨_, rfl, K.recs_nil _ _ _⟩, (by repeat' (first | with_reducible exact K.Ext.refl _ | with_reducible assumption | with_reducible refine K.Ext.drew ?_ | with_reducible refine K.Ext.alloc ?_ _ | with_reducible refine K.Ext.setCell ?_ ?_ _ | with_reducible refine K.Ext.trans ?_ (by with_reducible assumption) | (dsimp only; omega) | omega | exact K.Ext.refl _ | assumption | apply K.Ext.drew | refine K.Ext.alloc ?_ _ | refine K.Ext.setCell ?_ ?_ _ | (simp; done) | (simp; omega) | refine K.Ext.trans ?_ (by assumption)))⟩
      · rw [if_neg hlt]
        obtain rfl : k = n := by omega
        have HF : Hid (Z.UndoSteps xs = (xs.reverse.map Z.undoSt, 0)) := Z.hide (Z.undo_good HC0.out (by have h_ := HB.out; rwa [List.take_of_length_le (by rw [List.length_reverse, ← HN.out]; exact Nat.le_refl _)] at h_))
        have HO2 : Hid (wr.ownsRow w.heap.size 98 3 u5 k (K.StR.cells (xs.reverse.map Z.undoSt))) := Z.hide (by have h_ := HO.out; rwa [List.take_of_length_le (by rw [List.length_reverse, ← HN.out]; exact Nat.le_refl _)] at h_)
        clear HO HB
        go_wp2
        rw [HF.out]
        go_ret2
        exact ⟨⟨_, rfl,  (K.recs_of_row HO2.out (by decide))⟩, HX.out⟩
  · have HK : ∀ w' : World, K.Ext w w' → Calls Try.prog 156 #[.slice o xs.length cap] w' fun e w'' => e = .returned (.int .i64 (Z.stCode xs)) ∧ K.Ext w' w'' := fun w' hx => checkSteps_any xs w' hm (HH.out.ext hx)
    have HE : Hid (Z.UndoSteps xs = ([], Z.stCode xs)) := Z.hide (by unfold Z.UndoSteps; rw [if_neg hc])
    clear h
    generalize Z.stCode xs = c at *
    go_enter Try.func80, Try.ntmps80
    go_wp2_with ((go_at_call 156; refine K.call (by with_reducible rfl) (by with_reducible rfl) (HK _ (K.Ext.refl _)) ?_; rintro e w1 ⟨rfl, hw1⟩))
    rw [HE.out]
    go_ret2
    exact ⟨⟨_, rfl, K.recs_nil _ _ _⟩, hw1⟩
end Go.Proofs.Ythmnlbgbacbocaa
end
section
namespace Go.Z
theorem RunSteps_bad {E : Eqn} (l : List St) (h : isEquation E = false) : RunSteps E l = (zeroEqn, 1) := by unfold RunSteps; rw [h]; rfl
theorem RunSteps_code {E : Eqn} {l : List St} (h : isEquation E = true) (hc : ¬ stCode l = 0) : RunSteps E l = (zeroEqn, stCode l) := by unfold RunSteps; rw [if_pos h, if_neg hc]
theorem RunSteps_some {E A : Eqn} {l : List St} (h : isEquation E = true) (hc : stCode l = 0) (hr : runK E l l.length = some A) : RunSteps E l = (A, 0) := by unfold RunSteps; rw [if_pos h, if_pos hc, hr]; rfl
theorem RunSteps_none {E : Eqn} {l : List St} (h : isEquation E = true) (hc : stCode l = 0) (hr : runK E l l.length = none) : RunSteps E l = (zeroEqn, 5) := by unfold RunSteps; rw [if_pos h, if_pos hc, hr]; rfl
theorem getD_at {α : Type} (xs : List α) (k : Nat) (d : α) (h : k < xs.length) : xs.getD k d = xs[k] := by simp [List.getD_eq_getElem?_getD, h]
end Go.Z
namespace Go.Proofs.Ythmnlbgbacbocaa
open Go.RowKit
set_option maxRecDepth 100000 in
set_option maxHeartbeats 12800000 in
theorem impl_RunSteps (E : Z.Eqn) (xs : List (Z.St)) {loEL hiEL loER hiER : Nat} {pEL pER : Value} {loxs hixs : Nat} {pxs : Value} (w : World)  (hmEL : E.L.pw.length ≤ 1048576) (hnEL : E.L.nm.size ≤ 1048576) (hmER : E.R.pw.length ≤ 1048576) (hnER : E.R.nm.size ≤ 1048576) (hEL : K.ints w loEL hiEL pEL E.L.pw) (hER : K.ints w loER hiER pER E.R.pw) (hmxs : xs.length ≤ 1048576) (hxs : K.recs false K.StR w loxs hixs pxs xs) :
    Calls Try.prog 72 #[.agg #[.int .i64 E.L.dg, .int .i64 E.L.tn, .string E.L.nm, pEL, .int .i64 E.R.dg, .int .i64 E.R.tn, .string E.R.nm, pER], pxs] w fun e w' => (∃ p' q' m, e = .returned (.tuple #[.agg #[.int .i64 ((Z.RunSteps E xs).1.L).dg, .int .i64 ((Z.RunSteps E xs).1.L).tn, .string ((Z.RunSteps E xs).1.L).nm, p', .int .i64 ((Z.RunSteps E xs).1.R).dg, .int .i64 ((Z.RunSteps E xs).1.R).tn, .string ((Z.RunSteps E xs).1.R).nm, q'], .int .i64 ((Z.RunSteps E xs).2)]) ∧ w.heap.size ≤ m ∧ m ≤ w'.heap.size ∧ K.own w' w.heap.size m p' (Z.RunSteps E xs).1.L.pw ∧ K.own w' m w'.heap.size q' (Z.RunSteps E xs).1.R.pw) ∧ K.Ext w w' := by
  have hEL_ := hEL
  have shEL := hEL
  obtain ⟨oEL, cEL, rfl, _⟩ := shEL
  have hER_ := hER
  have shER := hER
  obtain ⟨oER, cER, rfl, _⟩ := shER
  have hxs_ := hxs
  have shxs := hxs
  obtain ⟨oxs, cxs, rfl, _⟩ := shxs
  cases vE : Z.isEquation E
  · have HE : Hid (Z.RunSteps E xs = (Z.zeroEqn, 1)) := Z.hide (Z.RunSteps_bad xs vE)
    have X0 : K.Ext w w := K.Ext.refl w
    go_enter Try.func72, Try.ntmps72
    go_wp2_with (go_at_call 47; refine K.call (by with_reducible rfl) (by with_reducible rfl) (impl_IsEquation E _ hmEL hnEL hmER hnER (K.ints.alloc (K.ints.alloc hEL_ _) _) (K.ints.alloc (K.ints.alloc hER_ _) _)) ?_; rintro e w1 ⟨rfl, x1⟩; have s1 : w.heap.size + 2 ≤ w1.heap.size := (by have h_ := x1.size; (try simp at h_); omega); have X1 := K.Ext.trans (K.Ext.alloc (K.Ext.alloc X0 _) _) x1; obtain ⟨c1_0_0, c1_0_1, c1_0_2, c1_0_3, c1_0_4, c1_0_5, c1_0_6, c1_0_7⟩ := K.c8 x1 (w.heap.size) (.int .i64 E.L.dg) (.int .i64 E.L.tn) (.string E.L.nm) (.slice oEL E.L.pw.length cEL) (.int .i64 E.R.dg) (.int .i64 E.R.tn) (.string E.R.nm) (.slice oER E.R.pw.length cER) (by go_simp); have z1_0 : w.heap.size < w1.heap.size := World.block_lt_of_cell? w1 _ c1_0_0; have d1_0 : ¬ (w.heap.size = w1.heap.size) := (by omega); have e1_0 : ¬ (w1.heap.size = w.heap.size) := (by omega); obtain ⟨c1_1_0, c1_1_1, c1_1_2, c1_1_3, c1_1_4, c1_1_5, c1_1_6, c1_1_7⟩ := K.c8 x1 (w.heap.size + 1) (.int .i64 0) (.int .i64 0) (.string ⟨#[]⟩) (.slice none 0 0) (.int .i64 0) (.int .i64 0) (.string ⟨#[]⟩) (.slice none 0 0) (by go_simp); obtain ⟨f1_1_0, f1_1_1, f1_1_2, f1_1_3, f1_1_4, f1_1_5, f1_1_6, f1_1_7⟩ := K.f8 x1 (w.heap.size + 1) (by go_simp); have z1_1 : w.heap.size + 1 < w1.heap.size := World.block_lt_of_cell? w1 _ c1_1_0; have d1_1 : ¬ (w.heap.size + 1 = w1.heap.size) := (by omega); have e1_1 : ¬ (w1.heap.size = w.heap.size + 1) := (by omega); have n1_0 : ¬ (w.heap.size + 1 = w.heap.size) := (by omega); have n0_1 : ¬ (w.heap.size = w.heap.size + 1) := (by omega); have F1_1 := K.ints.ext (K.ints.alloc (K.ints.alloc hEL_ _) _) x1; have F2_1 := K.ints.ext (K.ints.alloc (K.ints.alloc hER_ _) _) x1; have F3_1 := K.recs.ext (K.recs.alloc (K.recs.alloc hxs_ _) _) x1; clear hEL_ hER_ hxs_)
    rw [HE.out]
    refine bodyPost_ret (v := .tuple #[.agg #[.int .i64 0, .int .i64 0, .string ⟨#[]⟩, .slice none 0 0, .int .i64 0, .int .i64 0, .string ⟨#[]⟩, .slice none 0 0], .int .i64 1]) (by unfold results; rw [Try.results72]; go_simp) rfl ⟨⟨_, _, w.heap.size, rfl, ?_, ?_, ?_, ?_⟩, ?_⟩
    · first | omega | (simp; done) | (simp; omega)
    · first | omega | (simp; done) | (simp; omega)
    · exact K.own_nil _ _ _
    · exact K.own_nil _ _ _
    · repeat with_reducible refine K.Ext.setCell ?_ (by dsimp only; omega) _
      exact (by repeat' (first | with_reducible exact X1 | with_reducible refine K.Ext.setCell ?_ ?_ _ | with_reducible refine K.Ext.alloc ?_ _ | with_reducible refine K.Ext.drew ?_ | (dsimp only; omega) | omega | (simp; omega)))
  cases vA : Z.allSt xs
  · have HE : Hid (Z.RunSteps E xs = (Z.zeroEqn, 1)) := Z.hide (by rw [Z.RunSteps_code vE (by simp [Z.stCode, vA])]; simp [Z.stCode, vA])
    have X0 : K.Ext w w := K.Ext.refl w
    go_enter Try.func72, Try.ntmps72
    go_wp2_with (go_at_call 47; refine K.call (by with_reducible rfl) (by with_reducible rfl) (impl_IsEquation E _ hmEL hnEL hmER hnER (show K.ints _ (loEL) (hiEL) (.slice oEL E.L.pw.length cEL) (E.L.pw) from by repeat' (first | with_reducible exact hEL_ | with_reducible refine K.ints.set ?_ _ ?_ _ | with_reducible refine K.ints.alloc ?_ _ | with_reducible refine K.ints.drew ?_ | (dsimp only; omega) | omega | (simp; done) | (simp; omega))) (show K.ints _ (loER) (hiER) (.slice oER E.R.pw.length cER) (E.R.pw) from by repeat' (first | with_reducible exact hER_ | with_reducible refine K.ints.set ?_ _ ?_ _ | with_reducible refine K.ints.alloc ?_ _ | with_reducible refine K.ints.drew ?_ | (dsimp only; omega) | omega | (simp; done) | (simp; omega)))) ?_; rintro e w1 ⟨rfl, x1⟩; have s1 : w.heap.size + 2 ≤ w1.heap.size := (by have h_ := x1.size; (try simp at h_); omega); have X1 : K.Ext w w1 := K.Ext.trans (by repeat' (first | with_reducible exact X0 | with_reducible refine K.Ext.setCell ?_ ?_ _ | with_reducible refine K.Ext.alloc ?_ _ | with_reducible refine K.Ext.drew ?_ | (dsimp only; omega) | omega | (simp; omega))) x1; obtain ⟨c1_0_0, c1_0_1, c1_0_2, c1_0_3, c1_0_4, c1_0_5, c1_0_6, c1_0_7⟩ := K.c8 x1 (w.heap.size) (.int .i64 E.L.dg) (.int .i64 E.L.tn) (.string E.L.nm) (.slice oEL E.L.pw.length cEL) (.int .i64 E.R.dg) (.int .i64 E.R.tn) (.string E.R.nm) (.slice oER E.R.pw.length cER) (by go_simp); have z1_0 : w.heap.size < w1.heap.size := World.block_lt_of_cell? w1 _ c1_0_0; have d1_0 : ¬ (w.heap.size = w1.heap.size) := (by omega); have e1_0 : ¬ (w1.heap.size = w.heap.size) := (by omega); obtain ⟨c1_1_0, c1_1_1, c1_1_2, c1_1_3, c1_1_4, c1_1_5, c1_1_6, c1_1_7⟩ := K.c8 x1 (w.heap.size + 1) (.int .i64 0) (.int .i64 0) (.string ⟨#[]⟩) (.slice none 0 0) (.int .i64 0) (.int .i64 0) (.string ⟨#[]⟩) (.slice none 0 0) (by go_simp); obtain ⟨f1_1_0, f1_1_1, f1_1_2, f1_1_3, f1_1_4, f1_1_5, f1_1_6, f1_1_7⟩ := K.f8 x1 (w.heap.size + 1) (by go_simp); have z1_1 : w.heap.size + 1 < w1.heap.size := World.block_lt_of_cell? w1 _ c1_1_0; have d1_1 : ¬ (w.heap.size + 1 = w1.heap.size) := (by omega); have e1_1 : ¬ (w1.heap.size = w.heap.size + 1) := (by omega); have n1_0 : ¬ (w.heap.size + 1 = w.heap.size) := (by omega); have n0_1 : ¬ (w.heap.size = w.heap.size + 1) := (by omega); have F1_1 := K.ints.ext (show K.ints _ (loEL) (hiEL) (.slice oEL E.L.pw.length cEL) (E.L.pw) from by repeat' (first | with_reducible exact hEL_ | with_reducible refine K.ints.set ?_ _ ?_ _ | with_reducible refine K.ints.alloc ?_ _ | with_reducible refine K.ints.drew ?_ | (dsimp only; omega) | omega | (simp; done) | (simp; omega))) x1; have F2_1 := K.ints.ext (show K.ints _ (loER) (hiER) (.slice oER E.R.pw.length cER) (E.R.pw) from by repeat' (first | with_reducible exact hER_ | with_reducible refine K.ints.set ?_ _ ?_ _ | with_reducible refine K.ints.alloc ?_ _ | with_reducible refine K.ints.drew ?_ | (dsimp only; omega) | omega | (simp; done) | (simp; omega))) x1; have F3_1 := K.recs.ext (show K.recs false K.StR _ (loxs) (hixs) (.slice oxs xs.length cxs) (xs) from by repeat' (first | with_reducible exact hxs_ | with_reducible refine K.recs.set (by decide) ?_ _ ?_ _ | with_reducible refine K.recs.alloc ?_ _ | with_reducible refine K.recs.drew ?_ | (dsimp only; omega) | omega | (simp; done) | (simp; omega))) x1; clear hEL_ hER_ hxs_)
    go_wp2_with (go_at_call 148; refine K.call (by with_reducible rfl) (by with_reducible rfl) (allSteps_any xs _ hmxs (F3_1)) ?_; rintro e w2 ⟨rfl, x2⟩; have s2 : w1.heap.size ≤ w2.heap.size := (by have h_ := x2.size; (try simp at h_); omega); have X2 := K.Ext.trans (X1) x2; obtain ⟨c2_0_0, c2_0_1, c2_0_2, c2_0_3, c2_0_4, c2_0_5, c2_0_6, c2_0_7⟩ := K.c8 x2 (w.heap.size) (.int .i64 E.L.dg) (.int .i64 E.L.tn) (.string E.L.nm) (.slice oEL E.L.pw.length cEL) (.int .i64 E.R.dg) (.int .i64 E.R.tn) (.string E.R.nm) (.slice oER E.R.pw.length cER) (by go_simp); have z2_0 : w.heap.size < w2.heap.size := World.block_lt_of_cell? w2 _ c2_0_0; have d2_0 : ¬ (w.heap.size = w2.heap.size) := (by omega); have e2_0 : ¬ (w2.heap.size = w.heap.size) := (by omega); obtain ⟨c2_1_0, c2_1_1, c2_1_2, c2_1_3, c2_1_4, c2_1_5, c2_1_6, c2_1_7⟩ := K.c8 x2 (w.heap.size + 1) (.int .i64 0) (.int .i64 0) (.string ⟨#[]⟩) (.slice none 0 0) (.int .i64 0) (.int .i64 0) (.string ⟨#[]⟩) (.slice none 0 0) (by go_simp); obtain ⟨f2_1_0, f2_1_1, f2_1_2, f2_1_3, f2_1_4, f2_1_5, f2_1_6, f2_1_7⟩ := K.f8 x2 (w.heap.size + 1) (by go_simp); have z2_1 : w.heap.size + 1 < w2.heap.size := World.block_lt_of_cell? w2 _ c2_1_0; have d2_1 : ¬ (w.heap.size + 1 = w2.heap.size) := (by omega); have e2_1 : ¬ (w2.heap.size = w.heap.size + 1) := (by omega); have F1_2 := K.ints.ext (F1_1) x2; have F2_2 := K.ints.ext (F2_1) x2; have F3_2 := K.recs.ext (F3_1) x2; clear c1_0_0 c1_0_1 c1_0_2 c1_0_3 c1_0_4 c1_0_5 c1_0_6 c1_0_7 z1_0 d1_0 e1_0 c1_1_0 c1_1_1 c1_1_2 c1_1_3 c1_1_4 c1_1_5 c1_1_6 c1_1_7 f1_1_0 f1_1_1 f1_1_2 f1_1_3 f1_1_4 f1_1_5 f1_1_6 f1_1_7 z1_1 d1_1 e1_1 F1_1 F2_1 F3_1)
    rw [HE.out]
    refine bodyPost_ret (v := .tuple #[.agg #[.int .i64 0, .int .i64 0, .string ⟨#[]⟩, .slice none 0 0, .int .i64 0, .int .i64 0, .string ⟨#[]⟩, .slice none 0 0], .int .i64 1]) (by unfold results; rw [Try.results72]; go_simp) rfl ⟨⟨_, _, w.heap.size, rfl, ?_, ?_, ?_, ?_⟩, ?_⟩
    · first | omega | (simp; done) | (simp; omega)
    · first | omega | (simp; done) | (simp; omega)
    · exact K.own_nil _ _ _
    · exact K.own_nil _ _ _
    · repeat with_reducible refine K.Ext.setCell ?_ (by dsimp only; omega) _
      exact (by repeat' (first | with_reducible exact X2 | with_reducible refine K.Ext.setCell ?_ ?_ _ | with_reducible refine K.Ext.alloc ?_ _ | with_reducible refine K.Ext.drew ?_ | (dsimp only; omega) | omega | (simp; omega)))
  by_cases hl : 12 < (xs.length : Int)
  · have HE : Hid (Z.RunSteps E xs = (Z.zeroEqn, 3)) := Z.hide (by have h1 : Z.stCode xs = 3 := (by simp [Z.stCode, vA]; omega); rw [Z.RunSteps_code vE (by rw [h1]; decide), h1])
    have X0 : K.Ext w w := K.Ext.refl w
    go_enter Try.func72, Try.ntmps72
    go_wp2_with (go_at_call 47; refine K.call (by with_reducible rfl) (by with_reducible rfl) (impl_IsEquation E _ hmEL hnEL hmER hnER (show K.ints _ (loEL) (hiEL) (.slice oEL E.L.pw.length cEL) (E.L.pw) from by repeat' (first | with_reducible exact hEL_ | with_reducible refine K.ints.set ?_ _ ?_ _ | with_reducible refine K.ints.alloc ?_ _ | with_reducible refine K.ints.drew ?_ | (dsimp only; omega) | omega | (simp; done) | (simp; omega))) (show K.ints _ (loER) (hiER) (.slice oER E.R.pw.length cER) (E.R.pw) from by repeat' (first | with_reducible exact hER_ | with_reducible refine K.ints.set ?_ _ ?_ _ | with_reducible refine K.ints.alloc ?_ _ | with_reducible refine K.ints.drew ?_ | (dsimp only; omega) | omega | (simp; done) | (simp; omega)))) ?_; rintro e w1 ⟨rfl, x1⟩; have s1 : w.heap.size + 2 ≤ w1.heap.size := (by have h_ := x1.size; (try simp at h_); omega); have X1 : K.Ext w w1 := K.Ext.trans (by repeat' (first | with_reducible exact X0 | with_reducible refine K.Ext.setCell ?_ ?_ _ | with_reducible refine K.Ext.alloc ?_ _ | with_reducible refine K.Ext.drew ?_ | (dsimp only; omega) | omega | (simp; omega))) x1; obtain ⟨c1_0_0, c1_0_1, c1_0_2, c1_0_3, c1_0_4, c1_0_5, c1_0_6, c1_0_7⟩ := K.c8 x1 (w.heap.size) (.int .i64 E.L.dg) (.int .i64 E.L.tn) (.string E.L.nm) (.slice oEL E.L.pw.length cEL) (.int .i64 E.R.dg) (.int .i64 E.R.tn) (.string E.R.nm) (.slice oER E.R.pw.length cER) (by go_simp); have z1_0 : w.heap.size < w1.heap.size := World.block_lt_of_cell? w1 _ c1_0_0; have d1_0 : ¬ (w.heap.size = w1.heap.size) := (by omega); have e1_0 : ¬ (w1.heap.size = w.heap.size) := (by omega); obtain ⟨c1_1_0, c1_1_1, c1_1_2, c1_1_3, c1_1_4, c1_1_5, c1_1_6, c1_1_7⟩ := K.c8 x1 (w.heap.size + 1) (.int .i64 0) (.int .i64 0) (.string ⟨#[]⟩) (.slice none 0 0) (.int .i64 0) (.int .i64 0) (.string ⟨#[]⟩) (.slice none 0 0) (by go_simp); obtain ⟨f1_1_0, f1_1_1, f1_1_2, f1_1_3, f1_1_4, f1_1_5, f1_1_6, f1_1_7⟩ := K.f8 x1 (w.heap.size + 1) (by go_simp); have z1_1 : w.heap.size + 1 < w1.heap.size := World.block_lt_of_cell? w1 _ c1_1_0; have d1_1 : ¬ (w.heap.size + 1 = w1.heap.size) := (by omega); have e1_1 : ¬ (w1.heap.size = w.heap.size + 1) := (by omega); have n1_0 : ¬ (w.heap.size + 1 = w.heap.size) := (by omega); have n0_1 : ¬ (w.heap.size = w.heap.size + 1) := (by omega); have F1_1 := K.ints.ext (show K.ints _ (loEL) (hiEL) (.slice oEL E.L.pw.length cEL) (E.L.pw) from by repeat' (first | with_reducible exact hEL_ | with_reducible refine K.ints.set ?_ _ ?_ _ | with_reducible refine K.ints.alloc ?_ _ | with_reducible refine K.ints.drew ?_ | (dsimp only; omega) | omega | (simp; done) | (simp; omega))) x1; have F2_1 := K.ints.ext (show K.ints _ (loER) (hiER) (.slice oER E.R.pw.length cER) (E.R.pw) from by repeat' (first | with_reducible exact hER_ | with_reducible refine K.ints.set ?_ _ ?_ _ | with_reducible refine K.ints.alloc ?_ _ | with_reducible refine K.ints.drew ?_ | (dsimp only; omega) | omega | (simp; done) | (simp; omega))) x1; have F3_1 := K.recs.ext (show K.recs false K.StR _ (loxs) (hixs) (.slice oxs xs.length cxs) (xs) from by repeat' (first | with_reducible exact hxs_ | with_reducible refine K.recs.set (by decide) ?_ _ ?_ _ | with_reducible refine K.recs.alloc ?_ _ | with_reducible refine K.recs.drew ?_ | (dsimp only; omega) | omega | (simp; done) | (simp; omega))) x1; clear hEL_ hER_ hxs_)
    go_wp2_with (go_at_call 148; refine K.call (by with_reducible rfl) (by with_reducible rfl) (allSteps_any xs _ hmxs (F3_1)) ?_; rintro e w2 ⟨rfl, x2⟩; have s2 : w1.heap.size ≤ w2.heap.size := (by have h_ := x2.size; (try simp at h_); omega); have X2 := K.Ext.trans (X1) x2; obtain ⟨c2_0_0, c2_0_1, c2_0_2, c2_0_3, c2_0_4, c2_0_5, c2_0_6, c2_0_7⟩ := K.c8 x2 (w.heap.size) (.int .i64 E.L.dg) (.int .i64 E.L.tn) (.string E.L.nm) (.slice oEL E.L.pw.length cEL) (.int .i64 E.R.dg) (.int .i64 E.R.tn) (.string E.R.nm) (.slice oER E.R.pw.length cER) (by go_simp); have z2_0 : w.heap.size < w2.heap.size := World.block_lt_of_cell? w2 _ c2_0_0; have d2_0 : ¬ (w.heap.size = w2.heap.size) := (by omega); have e2_0 : ¬ (w2.heap.size = w.heap.size) := (by omega); obtain ⟨c2_1_0, c2_1_1, c2_1_2, c2_1_3, c2_1_4, c2_1_5, c2_1_6, c2_1_7⟩ := K.c8 x2 (w.heap.size + 1) (.int .i64 0) (.int .i64 0) (.string ⟨#[]⟩) (.slice none 0 0) (.int .i64 0) (.int .i64 0) (.string ⟨#[]⟩) (.slice none 0 0) (by go_simp); obtain ⟨f2_1_0, f2_1_1, f2_1_2, f2_1_3, f2_1_4, f2_1_5, f2_1_6, f2_1_7⟩ := K.f8 x2 (w.heap.size + 1) (by go_simp); have z2_1 : w.heap.size + 1 < w2.heap.size := World.block_lt_of_cell? w2 _ c2_1_0; have d2_1 : ¬ (w.heap.size + 1 = w2.heap.size) := (by omega); have e2_1 : ¬ (w2.heap.size = w.heap.size + 1) := (by omega); have F1_2 := K.ints.ext (F1_1) x2; have F2_2 := K.ints.ext (F2_1) x2; have F3_2 := K.recs.ext (F3_1) x2; clear c1_0_0 c1_0_1 c1_0_2 c1_0_3 c1_0_4 c1_0_5 c1_0_6 c1_0_7 z1_0 d1_0 e1_0 c1_1_0 c1_1_1 c1_1_2 c1_1_3 c1_1_4 c1_1_5 c1_1_6 c1_1_7 f1_1_0 f1_1_1 f1_1_2 f1_1_3 f1_1_4 f1_1_5 f1_1_6 f1_1_7 z1_1 d1_1 e1_1 F1_1 F2_1 F3_1)
    rw [HE.out]
    refine bodyPost_ret (v := .tuple #[.agg #[.int .i64 0, .int .i64 0, .string ⟨#[]⟩, .slice none 0 0, .int .i64 0, .int .i64 0, .string ⟨#[]⟩, .slice none 0 0], .int .i64 3]) (by unfold results; rw [Try.results72]; go_simp) rfl ⟨⟨_, _, w.heap.size, rfl, ?_, ?_, ?_, ?_⟩, ?_⟩
    · first | omega | (simp; done) | (simp; omega)
    · first | omega | (simp; done) | (simp; omega)
    · exact K.own_nil _ _ _
    · exact K.own_nil _ _ _
    · repeat with_reducible refine K.Ext.setCell ?_ (by dsimp only; omega) _
      exact (by repeat' (first | with_reducible exact X2 | with_reducible refine K.Ext.setCell ?_ ?_ _ | with_reducible refine K.Ext.alloc ?_ _ | with_reducible refine K.Ext.drew ?_ | (dsimp only; omega) | omega | (simp; omega)))
  have hc : Z.stCode xs = 0 := by unfold Z.stCode; rw [vA, if_pos rfl, if_pos (by omega)]
  have HSM : Hid (∀ A : Z.Eqn, Z.runK E xs xs.length = some A → Z.RunSteps E xs = (A, 0)) := Z.hide (fun A hr => Z.RunSteps_some vE hc hr)
  have HNO : Hid (Z.runK E xs xs.length = none → Z.RunSteps E xs = (Z.zeroEqn, 5)) := Z.hide (fun hr => Z.RunSteps_none vE hc hr)
  have HOK : Hid (∀ k A, Z.runK E xs k = some A → Z.isEquation A = true) := Z.hide (fun k A h => Z.runK_ok vE k h)
  have HVS : Hid (∀ s ∈ xs, Z.isStep s = true) := Z.hide (by unfold Z.allSt at vA; rwa [List.all_eq_true] at vA)
  have HI : Hid (∀ w' : World, K.Ext w w' → Calls Try.prog 47 #[.agg #[.int .i64 E.L.dg, .int .i64 E.L.tn, .string E.L.nm, .slice oEL E.L.pw.length cEL, .int .i64 E.R.dg, .int .i64 E.R.tn, .string E.R.nm, .slice oER E.R.pw.length cER]] w' fun e w'' => e = .returned (.bool true) ∧ K.Ext w' w'') := Z.hide (fun w' hx => by have h_ := impl_IsEquation E w' hmEL hnEL hmER hnER (hEL.ext hx) (hER.ext hx); rwa [vE] at h_)
  have HA : Hid (∀ w' : World, K.Ext w w' → Calls Try.prog 148 #[.slice oxs xs.length cxs] w' fun e w'' => e = .returned (.bool true) ∧ K.Ext w' w'') := Z.hide (fun w' hx => by have h_ := allSteps_any xs w' hmxs (hxs.ext hx); rwa [vA] at h_)
  have HO : Hid (∀ w0 : World, K.Ext w w0 → Calls Try.prog 118 #[.agg #[.int .i64 E.L.dg, .int .i64 E.L.tn, .string E.L.nm, .slice oEL E.L.pw.length cEL, .int .i64 E.R.dg, .int .i64 E.R.tn, .string E.R.nm, .slice oER E.R.pw.length cER]] w0 fun e w' => (∃ p' q' m, e = .returned (.agg #[.int .i64 E.L.dg, .int .i64 E.L.tn, .string E.L.nm, p', .int .i64 E.R.dg, .int .i64 E.R.tn, .string E.R.nm, q']) ∧ w0.heap.size ≤ m ∧ m ≤ w'.heap.size ∧ K.own w' w0.heap.size m p' E.L.pw ∧ K.own w' m w'.heap.size q' E.R.pw) ∧ K.Ext w0 w') := Z.hide (fun w' hx => ownEquation_any E w' hmEL hmER (hEL.ext hx) (hER.ext hx))
  have HXS := Z.hide hxs
  obtain ⟨n, hn⟩ : ∃ n, n = xs.length := ⟨_, rfl⟩
  have HN := Z.hide hn
  rw [← hn] at HA hl ⊢
  clear hxs hEL hER hn hc vA vE hmxs
  go_enter Try.func72, Try.ntmps72
  go_wp2_with (first | ((go_at_call 47; refine K.call (by with_reducible rfl) (by with_reducible rfl) (HI.out _ (by repeat' (first | with_reducible exact K.Ext.refl _ | with_reducible assumption | with_reducible refine K.Ext.drew ?_ | with_reducible refine K.Ext.alloc ?_ _ | with_reducible refine K.Ext.setCell ?_ ?_ _ | with_reducible refine K.Ext.trans ?_ (by with_reducible assumption) | (dsimp only; omega) | omega | exact K.Ext.refl _ | assumption | apply K.Ext.drew | refine K.Ext.alloc ?_ _ | refine K.Ext.setCell ?_ ?_ _ | (simp; done) | (simp; omega) | refine K.Ext.trans ?_ (by assumption)))) ?_; rintro e w1 ⟨rfl, hw1⟩); have X1 := K.Ext.trans (show K.Ext w _ from (by repeat' (first | with_reducible exact K.Ext.refl _ | with_reducible assumption | with_reducible refine K.Ext.drew ?_ | with_reducible refine K.Ext.alloc ?_ _ | with_reducible refine K.Ext.setCell ?_ ?_ _ | with_reducible refine K.Ext.trans ?_ (by with_reducible assumption) | (dsimp only; omega) | omega | exact K.Ext.refl _ | assumption | apply K.Ext.drew | refine K.Ext.alloc ?_ _ | refine K.Ext.setCell ?_ ?_ _ | (simp; done) | (simp; omega) | refine K.Ext.trans ?_ (by assumption)))) hw1; have c_w1_0_0 : w1.cell? ⟨w.heap.size, 0, none⟩ = some (.int .i64 (E.L.dg)) := hw1.cell_of (by go_simp); have f_w1_0_0 : w1.frozen? ⟨w.heap.size, 0, none⟩ = false := hw1.thaw_of (by go_simp) (by go_simp); have c_w1_0_1 : w1.cell? ⟨w.heap.size, 1, none⟩ = some (.int .i64 (E.L.tn)) := hw1.cell_of (by go_simp); have f_w1_0_1 : w1.frozen? ⟨w.heap.size, 1, none⟩ = false := hw1.thaw_of (by go_simp) (by go_simp); have c_w1_0_2 : w1.cell? ⟨w.heap.size, 2, none⟩ = some (.string E.L.nm) := hw1.cell_of (by go_simp); have f_w1_0_2 : w1.frozen? ⟨w.heap.size, 2, none⟩ = false := hw1.thaw_of (by go_simp) (by go_simp); have c_w1_0_3 : w1.cell? ⟨w.heap.size, 3, none⟩ = some (.slice oEL E.L.pw.length cEL) := hw1.cell_of (by go_simp); have f_w1_0_3 : w1.frozen? ⟨w.heap.size, 3, none⟩ = false := hw1.thaw_of (by go_simp) (by go_simp); have c_w1_0_4 : w1.cell? ⟨w.heap.size, 4, none⟩ = some (.int .i64 (E.R.dg)) := hw1.cell_of (by go_simp); have f_w1_0_4 : w1.frozen? ⟨w.heap.size, 4, none⟩ = false := hw1.thaw_of (by go_simp) (by go_simp); have c_w1_0_5 : w1.cell? ⟨w.heap.size, 5, none⟩ = some (.int .i64 (E.R.tn)) := hw1.cell_of (by go_simp); have f_w1_0_5 : w1.frozen? ⟨w.heap.size, 5, none⟩ = false := hw1.thaw_of (by go_simp) (by go_simp); have c_w1_0_6 : w1.cell? ⟨w.heap.size, 6, none⟩ = some (.string E.R.nm) := hw1.cell_of (by go_simp); have f_w1_0_6 : w1.frozen? ⟨w.heap.size, 6, none⟩ = false := hw1.thaw_of (by go_simp) (by go_simp); have c_w1_0_7 : w1.cell? ⟨w.heap.size, 7, none⟩ = some (.slice oER E.R.pw.length cER) := hw1.cell_of (by go_simp); have f_w1_0_7 : w1.frozen? ⟨w.heap.size, 7, none⟩ = false := hw1.thaw_of (by go_simp) (by go_simp); have c_w1_1_0 : w1.cell? ⟨w.heap.size + 1, 0, none⟩ = some (.int .i64 (0)) := hw1.cell_of (by go_simp); have f_w1_1_0 : w1.frozen? ⟨w.heap.size + 1, 0, none⟩ = false := hw1.thaw_of (by go_simp) (by go_simp); have c_w1_1_1 : w1.cell? ⟨w.heap.size + 1, 1, none⟩ = some (.int .i64 (0)) := hw1.cell_of (by go_simp); have f_w1_1_1 : w1.frozen? ⟨w.heap.size + 1, 1, none⟩ = false := hw1.thaw_of (by go_simp) (by go_simp); have c_w1_1_2 : w1.cell? ⟨w.heap.size + 1, 2, none⟩ = some (.string ⟨#[]⟩) := hw1.cell_of (by go_simp); have f_w1_1_2 : w1.frozen? ⟨w.heap.size + 1, 2, none⟩ = false := hw1.thaw_of (by go_simp) (by go_simp); have c_w1_1_3 : w1.cell? ⟨w.heap.size + 1, 3, none⟩ = some (.slice none 0 0) := hw1.cell_of (by go_simp); have f_w1_1_3 : w1.frozen? ⟨w.heap.size + 1, 3, none⟩ = false := hw1.thaw_of (by go_simp) (by go_simp); have c_w1_1_4 : w1.cell? ⟨w.heap.size + 1, 4, none⟩ = some (.int .i64 (0)) := hw1.cell_of (by go_simp); have f_w1_1_4 : w1.frozen? ⟨w.heap.size + 1, 4, none⟩ = false := hw1.thaw_of (by go_simp) (by go_simp); have c_w1_1_5 : w1.cell? ⟨w.heap.size + 1, 5, none⟩ = some (.int .i64 (0)) := hw1.cell_of (by go_simp); have f_w1_1_5 : w1.frozen? ⟨w.heap.size + 1, 5, none⟩ = false := hw1.thaw_of (by go_simp) (by go_simp); have c_w1_1_6 : w1.cell? ⟨w.heap.size + 1, 6, none⟩ = some (.string ⟨#[]⟩) := hw1.cell_of (by go_simp); have f_w1_1_6 : w1.frozen? ⟨w.heap.size + 1, 6, none⟩ = false := hw1.thaw_of (by go_simp) (by go_simp); have c_w1_1_7 : w1.cell? ⟨w.heap.size + 1, 7, none⟩ = some (.slice none 0 0) := hw1.cell_of (by go_simp); have f_w1_1_7 : w1.frozen? ⟨w.heap.size + 1, 7, none⟩ = false := hw1.thaw_of (by go_simp) (by go_simp); have z1 := hw1.size; simp at z1) | ((go_at_call 148; refine K.call (by with_reducible rfl) (by with_reducible rfl) (HA.out _ (by repeat' (first | with_reducible exact K.Ext.refl _ | with_reducible assumption | with_reducible refine K.Ext.drew ?_ | with_reducible refine K.Ext.alloc ?_ _ | with_reducible refine K.Ext.setCell ?_ ?_ _ | with_reducible refine K.Ext.trans ?_ (by with_reducible assumption) | (dsimp only; omega) | omega | exact K.Ext.refl _ | assumption | apply K.Ext.drew | refine K.Ext.alloc ?_ _ | refine K.Ext.setCell ?_ ?_ _ | (simp; done) | (simp; omega) | refine K.Ext.trans ?_ (by assumption)))) ?_; rintro e w2 ⟨rfl, hw2⟩); have X2 := X1.trans hw2; have c_w2_0_0 : w2.cell? ⟨w.heap.size, 0, none⟩ = some (.int .i64 (E.L.dg)) := hw2.cell_of (by go_simp); have f_w2_0_0 : w2.frozen? ⟨w.heap.size, 0, none⟩ = false := hw2.thaw_of (by go_simp) (by go_simp); have c_w2_0_1 : w2.cell? ⟨w.heap.size, 1, none⟩ = some (.int .i64 (E.L.tn)) := hw2.cell_of (by go_simp); have f_w2_0_1 : w2.frozen? ⟨w.heap.size, 1, none⟩ = false := hw2.thaw_of (by go_simp) (by go_simp); have c_w2_0_2 : w2.cell? ⟨w.heap.size, 2, none⟩ = some (.string E.L.nm) := hw2.cell_of (by go_simp); have f_w2_0_2 : w2.frozen? ⟨w.heap.size, 2, none⟩ = false := hw2.thaw_of (by go_simp) (by go_simp); have c_w2_0_3 : w2.cell? ⟨w.heap.size, 3, none⟩ = some (.slice oEL E.L.pw.length cEL) := hw2.cell_of (by go_simp); have f_w2_0_3 : w2.frozen? ⟨w.heap.size, 3, none⟩ = false := hw2.thaw_of (by go_simp) (by go_simp); have c_w2_0_4 : w2.cell? ⟨w.heap.size, 4, none⟩ = some (.int .i64 (E.R.dg)) := hw2.cell_of (by go_simp); have f_w2_0_4 : w2.frozen? ⟨w.heap.size, 4, none⟩ = false := hw2.thaw_of (by go_simp) (by go_simp); have c_w2_0_5 : w2.cell? ⟨w.heap.size, 5, none⟩ = some (.int .i64 (E.R.tn)) := hw2.cell_of (by go_simp); have f_w2_0_5 : w2.frozen? ⟨w.heap.size, 5, none⟩ = false := hw2.thaw_of (by go_simp) (by go_simp); have c_w2_0_6 : w2.cell? ⟨w.heap.size, 6, none⟩ = some (.string E.R.nm) := hw2.cell_of (by go_simp); have f_w2_0_6 : w2.frozen? ⟨w.heap.size, 6, none⟩ = false := hw2.thaw_of (by go_simp) (by go_simp); have c_w2_0_7 : w2.cell? ⟨w.heap.size, 7, none⟩ = some (.slice oER E.R.pw.length cER) := hw2.cell_of (by go_simp); have f_w2_0_7 : w2.frozen? ⟨w.heap.size, 7, none⟩ = false := hw2.thaw_of (by go_simp) (by go_simp); have c_w2_1_0 : w2.cell? ⟨w.heap.size + 1, 0, none⟩ = some (.int .i64 (0)) := hw2.cell_of (by go_simp); have f_w2_1_0 : w2.frozen? ⟨w.heap.size + 1, 0, none⟩ = false := hw2.thaw_of (by go_simp) (by go_simp); have c_w2_1_1 : w2.cell? ⟨w.heap.size + 1, 1, none⟩ = some (.int .i64 (0)) := hw2.cell_of (by go_simp); have f_w2_1_1 : w2.frozen? ⟨w.heap.size + 1, 1, none⟩ = false := hw2.thaw_of (by go_simp) (by go_simp); have c_w2_1_2 : w2.cell? ⟨w.heap.size + 1, 2, none⟩ = some (.string ⟨#[]⟩) := hw2.cell_of (by go_simp); have f_w2_1_2 : w2.frozen? ⟨w.heap.size + 1, 2, none⟩ = false := hw2.thaw_of (by go_simp) (by go_simp); have c_w2_1_3 : w2.cell? ⟨w.heap.size + 1, 3, none⟩ = some (.slice none 0 0) := hw2.cell_of (by go_simp); have f_w2_1_3 : w2.frozen? ⟨w.heap.size + 1, 3, none⟩ = false := hw2.thaw_of (by go_simp) (by go_simp); have c_w2_1_4 : w2.cell? ⟨w.heap.size + 1, 4, none⟩ = some (.int .i64 (0)) := hw2.cell_of (by go_simp); have f_w2_1_4 : w2.frozen? ⟨w.heap.size + 1, 4, none⟩ = false := hw2.thaw_of (by go_simp) (by go_simp); have c_w2_1_5 : w2.cell? ⟨w.heap.size + 1, 5, none⟩ = some (.int .i64 (0)) := hw2.cell_of (by go_simp); have f_w2_1_5 : w2.frozen? ⟨w.heap.size + 1, 5, none⟩ = false := hw2.thaw_of (by go_simp) (by go_simp); have c_w2_1_6 : w2.cell? ⟨w.heap.size + 1, 6, none⟩ = some (.string ⟨#[]⟩) := hw2.cell_of (by go_simp); have f_w2_1_6 : w2.frozen? ⟨w.heap.size + 1, 6, none⟩ = false := hw2.thaw_of (by go_simp) (by go_simp); have c_w2_1_7 : w2.cell? ⟨w.heap.size + 1, 7, none⟩ = some (.slice none 0 0) := hw2.cell_of (by go_simp); have f_w2_1_7 : w2.frozen? ⟨w.heap.size + 1, 7, none⟩ = false := hw2.thaw_of (by go_simp) (by go_simp); have z2 := hw2.size) | ((go_at_call 118; refine K.call (by with_reducible rfl) (by with_reducible rfl) (HO.out _ (by repeat' (first | with_reducible exact K.Ext.refl _ | with_reducible assumption | with_reducible refine K.Ext.drew ?_ | with_reducible refine K.Ext.alloc ?_ _ | with_reducible refine K.Ext.setCell ?_ ?_ _ | with_reducible refine K.Ext.trans ?_ (by with_reducible assumption) | (dsimp only; omega) | omega | exact K.Ext.refl _ | assumption | apply K.Ext.drew | refine K.Ext.alloc ?_ _ | refine K.Ext.setCell ?_ ?_ _ | (simp; done) | (simp; omega) | refine K.Ext.trans ?_ (by assumption)))) ?_; rintro e w3 ⟨⟨p3, q3, b3, rfl, l3, l3', g3, g3'⟩, hw3⟩; obtain ⟨o3, c3, rfl, _⟩ := K.own.ints g3; obtain ⟨o4, c4, rfl, _⟩ := K.own.ints g3')))
  have z3 := hw3.size
  have X3 := X2.trans hw3
  have B4 := Z.hide (show w3.heap[w.heap.size + 1]? = some (.cells #[.int .i64 0, .int .i64 0, .string ⟨#[]⟩, .slice none 0 0, .int .i64 0, .int .i64 0, .string ⟨#[]⟩, .slice none 0 0] 57) from K.Ext.block_of (K.Ext.block_of (K.Ext.block_of (K.block_new (by simp)) hw1) hw2) hw3)
  have G3 := Z.hide (g3.mono (show w.heap.size + 2 ≤ w2.heap.size by omega) (Nat.le_refl _))
  have G3' := Z.hide g3'
  have HX3 := Z.hide X3
  have hb3 : w.heap.size + 2 ≤ b3 := by omega
  clear g3 g3' hw1 hw2 hw3 X1 X2 X3 HI HA HO
  go_loopw [30] (fun i wr => ∃ k : Nat, k ≤ n ∧ i = .int .i64 k ∧ Hid (∃ (A : Z.Eqn) (p q : Value) (m : Nat), Z.runK E xs k = some A ∧ wr.heap[w3.heap.size]? = some (.cells #[.int .i64 A.L.dg, .int .i64 A.L.tn, .string A.L.nm, p, .int .i64 A.R.dg, .int .i64 A.R.tn, .string A.R.nm, q] 57) ∧ w.heap.size + 2 ≤ m ∧ m ≤ wr.heap.size ∧ K.own wr (w.heap.size + 2) m p A.L.pw ∧ K.own wr m wr.heap.size q A.R.pw) ∧ Hid (wr.heap[w.heap.size + 1]? = some (.cells #[.int .i64 0, .int .i64 0, .string ⟨#[]⟩, .slice none 0 0, .int .i64 0, .int .i64 0, .string ⟨#[]⟩, .slice none 0 0] 57)) ∧ Hid (K.Ext w wr)) (fun i _ => n - (intOf i).toNat)
  case atStart => exact ⟨0, Nat.zero_le _, rfl, Z.hide ⟨E, _, _, b3, rfl, K.block_new rfl, hb3, by simp; omega, G3.out.alloc _, (G3'.out.alloc _).mono (Nat.le_refl _) (by simp)⟩, Z.hide (K.Ext.block_of B4.out ((K.Ext.refl _).alloc _)), Z.hide (HX3.out.alloc _)⟩
  case round =>
    obtain ⟨k, hk, rfl, HS, HB, HX⟩ := hrel
    clear G3 G3' HX3 B4
    obtain ⟨A, p, q, m, hr, hbl, hm1, hm2, hp, hq⟩ := HS.out
    clear HS
    have hp' := hp
    obtain ⟨o, c, rfl, _⟩ := K.own.ints hp'
    have hq' := hq
    obtain ⟨o', c', rfl, _⟩ := K.own.ints hq'
    have HP := Z.hide hp
    have HQ := Z.hide hq
    have HR := Z.hide hr
    have HBL := Z.hide hbl
    have lw3 : w3.heap.size < wr.heap.size := (Array.getElem?_eq_some_iff.1 hbl).1
    clear hp hq hp' hq' hr hbl
    have k0 : (0 : Int) ≤ (k : Int) := Int.natCast_nonneg k
    by_cases hlt : k < n
    · have k1 : (k : Int) < (n : Int) := by omega
      have hkx : k < xs.length := by rw [← HN.out]; exact hlt
      obtain ⟨b, off, rfl, _, _, hc, _⟩ := K.recs_at HXS.out (by omega)
      have hc0 : wr.cell? ⟨b, off + k * 3, none⟩ = some (.int .i64 (xs[k]'hkx).kd) := HX.out.cell_of (hc k hkx 0 (by decide))
      have hc1 : wr.cell? ⟨b, off + k * 3 + 1, none⟩ = some (.int .u8 (xs[k]'hkx).nm) := HX.out.cell_of (hc k hkx 1 (by decide))
      have hc2 : wr.cell? ⟨b, off + k * 3 + 2, none⟩ = some (.int .i64 (xs[k]'hkx).pw) := HX.out.cell_of (hc k hkx 2 (by decide))
      have hstep := HVS.out _ (List.getElem_mem hkx)
      obtain ⟨s, hs⟩ : ∃ s, s = xs[k]'hkx := ⟨_, rfl⟩
      have HG : Hid (xs.getD k Z.zeroSt = s) := Z.hide (by rw [hs]; exact Z.getD_at xs k _ hkx)
      rw [← hs] at hc0 hc1 hc2 hstep
      have le := Z.isEquation_le (HOK.out k A HR.out)
      obtain ⟨M, hM⟩ : ∃ M, M = Z.stepEq A s := ⟨_, rfl⟩
      have HM := Z.hide hM
      have HCall : Hid (∀ {a b c d : Nat} {p q : Value} (w : World), K.ints w a b p A.L.pw → K.ints w c d q A.R.pw → Calls Try.prog 149 #[.agg #[.int .i64 A.L.dg, .int .i64 A.L.tn, .string A.L.nm, p, .int .i64 A.R.dg, .int .i64 A.R.tn, .string A.R.nm, q], .agg #[.int .i64 s.kd, .int .u8 s.nm, .int .i64 s.pw]] w fun e w' => (∃ p' q' m, e = .returned (.tuple #[.agg #[.int .i64 M.1.L.dg, .int .i64 M.1.L.tn, .string M.1.L.nm, p', .int .i64 M.1.R.dg, .int .i64 M.1.R.tn, .string M.1.R.nm, q'], .bool (M.2 == 0)]) ∧ w.heap.size ≤ m ∧ m ≤ w'.heap.size ∧ K.own w' w.heap.size m p' M.1.L.pw ∧ K.own w' m w'.heap.size q' M.1.R.pw) ∧ K.Ext w w') := Z.hide (fun w h h' => by rw [hM]; exact stepped_any A s w hstep le.1 le.2.1 le.2.2.1 le.2.2.2 h h')
      have lbw : b < wr.heap.size := World.block_lt_of_cell? wr _ hc0
      have n1 : ¬ (b = wr.heap.size) := by omega
      have n2 : ¬ (w3.heap.size = wr.heap.size) := by omega
      have n3 : ¬ (w.heap.size + 1 = wr.heap.size) := by omega
      have b1_c0 : wr.cell? ⟨w3.heap.size, 0, none⟩ = some (.int .i64 (A.L.dg)) := K.cell_at HBL.out rfl; have b1_f0 : wr.frozen? ⟨w3.heap.size, 0, none⟩ = false := K.thaw_at HBL.out; have b1_c1 : wr.cell? ⟨w3.heap.size, 1, none⟩ = some (.int .i64 (A.L.tn)) := K.cell_at HBL.out rfl; have b1_f1 : wr.frozen? ⟨w3.heap.size, 1, none⟩ = false := K.thaw_at HBL.out; have b1_c2 : wr.cell? ⟨w3.heap.size, 2, none⟩ = some (.string A.L.nm) := K.cell_at HBL.out rfl; have b1_f2 : wr.frozen? ⟨w3.heap.size, 2, none⟩ = false := K.thaw_at HBL.out; have b1_c3 : wr.cell? ⟨w3.heap.size, 3, none⟩ = some (.slice o A.L.pw.length c) := K.cell_at HBL.out rfl; have b1_f3 : wr.frozen? ⟨w3.heap.size, 3, none⟩ = false := K.thaw_at HBL.out; have b1_c4 : wr.cell? ⟨w3.heap.size, 4, none⟩ = some (.int .i64 (A.R.dg)) := K.cell_at HBL.out rfl; have b1_f4 : wr.frozen? ⟨w3.heap.size, 4, none⟩ = false := K.thaw_at HBL.out; have b1_c5 : wr.cell? ⟨w3.heap.size, 5, none⟩ = some (.int .i64 (A.R.tn)) := K.cell_at HBL.out rfl; have b1_f5 : wr.frozen? ⟨w3.heap.size, 5, none⟩ = false := K.thaw_at HBL.out; have b1_c6 : wr.cell? ⟨w3.heap.size, 6, none⟩ = some (.string A.R.nm) := K.cell_at HBL.out rfl; have b1_f6 : wr.frozen? ⟨w3.heap.size, 6, none⟩ = false := K.thaw_at HBL.out; have b1_c7 : wr.cell? ⟨w3.heap.size, 7, none⟩ = some (.slice o' A.R.pw.length c') := K.cell_at HBL.out rfl; have b1_f7 : wr.frozen? ⟨w3.heap.size, 7, none⟩ = false := K.thaw_at HBL.out
      clear hc hs hM hstep le
      obtain ⟨d, nm, t⟩ := s
      dsimp only at hc0 hc1 hc2 HCall
      by_cases hz : M.2 = 0
      · have hz' : (M.2 == 0) = true := by simp [hz]
        rw [hz'] at HCall
        have HRk : Hid (Z.runK E xs (k + 1) = some M.1) := Z.hide (by have h_ := Z.runK_step HR.out (by rw [HG.out, ← HM.out]; exact hz); rwa [HG.out, ← HM.out] at h_)
        clear hz hz'
        go_wp2_with ((go_at_call 149; refine K.call (by with_reducible rfl) (by with_reducible rfl) (HCall.out _ (K.own.ints (HP.out.alloc _)) (K.own.ints (HQ.out.alloc _))) ?_; rintro e w6 ⟨⟨p6, q6, m6, rfl, l6, l6', g6, g6'⟩, hw6⟩; obtain ⟨o6, c6, rfl, _⟩ := K.own.ints g6; obtain ⟨o7, c7, rfl, _⟩ := K.own.ints g6'; have s6 := hw6.size; simp at s6 l6; have D0 := Z.hide (show w6.heap[w3.heap.size]? = some (.cells #[.int .i64 A.L.dg, .int .i64 A.L.tn, .string A.L.nm, .slice o A.L.pw.length c, .int .i64 A.R.dg, .int .i64 A.R.tn, .string A.R.nm, .slice o' A.R.pw.length c'] 57) from K.Ext.block_of (K.Ext.block_of HBL.out ((K.Ext.refl _).alloc _)) hw6); have D1 := Z.hide (show w6.heap[w.heap.size + 1]? = some (.cells #[.int .i64 0, .int .i64 0, .string ⟨#[]⟩, .slice none 0 0, .int .i64 0, .int .i64 0, .string ⟨#[]⟩, .slice none 0 0] 57) from K.Ext.block_of (K.Ext.block_of HB.out ((K.Ext.refl _).alloc _)) hw6); have m1 : ¬ (w3.heap.size = w6.heap.size) := (by omega); have m2 : ¬ (w.heap.size + 1 = w6.heap.size) := (by omega); have y1 : w3.heap.size < w6.heap.size := (by omega); have y2 : w.heap.size + 1 < w6.heap.size := (by omega); have b2_c0 : w6.cell? ⟨w3.heap.size, 0, none⟩ = some (.int .i64 (A.L.dg)) := K.cell_at D0.out rfl; have b2_f0 : w6.frozen? ⟨w3.heap.size, 0, none⟩ = false := K.thaw_at D0.out; have b2_c1 : w6.cell? ⟨w3.heap.size, 1, none⟩ = some (.int .i64 (A.L.tn)) := K.cell_at D0.out rfl; have b2_f1 : w6.frozen? ⟨w3.heap.size, 1, none⟩ = false := K.thaw_at D0.out; have b2_c2 : w6.cell? ⟨w3.heap.size, 2, none⟩ = some (.string A.L.nm) := K.cell_at D0.out rfl; have b2_f2 : w6.frozen? ⟨w3.heap.size, 2, none⟩ = false := K.thaw_at D0.out; have b2_c3 : w6.cell? ⟨w3.heap.size, 3, none⟩ = some (.slice o A.L.pw.length c) := K.cell_at D0.out rfl; have b2_f3 : w6.frozen? ⟨w3.heap.size, 3, none⟩ = false := K.thaw_at D0.out; have b2_c4 : w6.cell? ⟨w3.heap.size, 4, none⟩ = some (.int .i64 (A.R.dg)) := K.cell_at D0.out rfl; have b2_f4 : w6.frozen? ⟨w3.heap.size, 4, none⟩ = false := K.thaw_at D0.out; have b2_c5 : w6.cell? ⟨w3.heap.size, 5, none⟩ = some (.int .i64 (A.R.tn)) := K.cell_at D0.out rfl; have b2_f5 : w6.frozen? ⟨w3.heap.size, 5, none⟩ = false := K.thaw_at D0.out; have b2_c6 : w6.cell? ⟨w3.heap.size, 6, none⟩ = some (.string A.R.nm) := K.cell_at D0.out rfl; have b2_f6 : w6.frozen? ⟨w3.heap.size, 6, none⟩ = false := K.thaw_at D0.out; have b2_c7 : w6.cell? ⟨w3.heap.size, 7, none⟩ = some (.slice o' A.R.pw.length c') := K.cell_at D0.out rfl; have b2_f7 : w6.frozen? ⟨w3.heap.size, 7, none⟩ = false := K.thaw_at D0.out))
        go_roundw
        case rel =>
          refine ⟨k + 1, by omega, by go_num, Z.hide ⟨M.1, .slice o6 M.1.L.pw.length c6, .slice o7 M.1.R.pw.length c7, m6, HRk.out, ?_, by omega, by simp; omega, ?_, ?_⟩, Z.hide ?_, Z.hide ?_⟩
          · refine K.Ext.block_of ?_ (K.Ext.alloc (K.Ext.refl _) _)
            exact K.block_set8 D0.out
          · refine K.own.mono (lo := wr.heap.size + 1) (hi := m6) ?_ (by omega) (Nat.le_refl _)
            with_reducible refine K.own.alloc ?_ _
            iterate 8 with_reducible refine K.own.set ?_ _ (.inl (by dsimp only; omega)) _
            exact g6.mono (by simp) (Nat.le_refl _)
          · refine K.own.mono (lo := m6) (hi := w6.heap.size) ?_ (Nat.le_refl _) (by simp)
            with_reducible refine K.own.alloc ?_ _
            iterate 8 with_reducible refine K.own.set ?_ _ (.inl (by dsimp only; omega)) _
            exact g6'
          · refine K.Ext.block_of ?_ (K.Ext.alloc (K.Ext.refl _) _)
            iterate 8 with_reducible refine Eq.trans (K.set_block (by dsimp only; omega)) ?_
            exact D1.out
          · with_reducible refine K.Ext.alloc ?_ _
            iterate 8 with_reducible refine K.Ext.setCell ?_ (by dsimp only; omega) _
            exact K.Ext.trans (HX.out.alloc _) hw6
        case measure => simp [intOf]; omega
      · have hz' : (M.2 == 0) = false := by simp [hz]
        rw [hz'] at HCall
        have HE : Hid (Z.RunSteps E xs = (Z.zeroEqn, 5)) := Z.hide (HNO.out (Z.runK_fail hkx HR.out (by rw [HG.out, ← HM.out]; exact hz)))
        clear hz hz'
        go_wp2_with ((go_at_call 149; refine K.call (by with_reducible rfl) (by with_reducible rfl) (HCall.out _ (K.own.ints (HP.out.alloc _)) (K.own.ints (HQ.out.alloc _))) ?_; rintro e w6 ⟨⟨p6, q6, m6, rfl, l6, l6', g6, g6'⟩, hw6⟩; obtain ⟨o6, c6, rfl, _⟩ := K.own.ints g6; obtain ⟨o7, c7, rfl, _⟩ := K.own.ints g6'; have s6 := hw6.size; simp at s6 l6; have D1 := Z.hide (show w6.heap[w.heap.size + 1]? = some (.cells #[.int .i64 0, .int .i64 0, .string ⟨#[]⟩, .slice none 0 0, .int .i64 0, .int .i64 0, .string ⟨#[]⟩, .slice none 0 0] 57) from K.Ext.block_of (K.Ext.block_of HB.out ((K.Ext.refl _).alloc _)) hw6); have m2 : ¬ (w.heap.size + 1 = w6.heap.size) := (by omega); have y2 : w.heap.size + 1 < w6.heap.size := (by omega); have b3_c0 : w6.cell? ⟨w.heap.size + 1, 0, none⟩ = some (.int .i64 (0)) := K.cell_at D1.out rfl; have b3_f0 : w6.frozen? ⟨w.heap.size + 1, 0, none⟩ = false := K.thaw_at D1.out; have b3_c1 : w6.cell? ⟨w.heap.size + 1, 1, none⟩ = some (.int .i64 (0)) := K.cell_at D1.out rfl; have b3_f1 : w6.frozen? ⟨w.heap.size + 1, 1, none⟩ = false := K.thaw_at D1.out; have b3_c2 : w6.cell? ⟨w.heap.size + 1, 2, none⟩ = some (.string ⟨#[]⟩) := K.cell_at D1.out rfl; have b3_f2 : w6.frozen? ⟨w.heap.size + 1, 2, none⟩ = false := K.thaw_at D1.out; have b3_c3 : w6.cell? ⟨w.heap.size + 1, 3, none⟩ = some (.slice none 0 0) := K.cell_at D1.out rfl; have b3_f3 : w6.frozen? ⟨w.heap.size + 1, 3, none⟩ = false := K.thaw_at D1.out; have b3_c4 : w6.cell? ⟨w.heap.size + 1, 4, none⟩ = some (.int .i64 (0)) := K.cell_at D1.out rfl; have b3_f4 : w6.frozen? ⟨w.heap.size + 1, 4, none⟩ = false := K.thaw_at D1.out; have b3_c5 : w6.cell? ⟨w.heap.size + 1, 5, none⟩ = some (.int .i64 (0)) := K.cell_at D1.out rfl; have b3_f5 : w6.frozen? ⟨w.heap.size + 1, 5, none⟩ = false := K.thaw_at D1.out; have b3_c6 : w6.cell? ⟨w.heap.size + 1, 6, none⟩ = some (.string ⟨#[]⟩) := K.cell_at D1.out rfl; have b3_f6 : w6.frozen? ⟨w.heap.size + 1, 6, none⟩ = false := K.thaw_at D1.out; have b3_c7 : w6.cell? ⟨w.heap.size + 1, 7, none⟩ = some (.slice none 0 0) := K.cell_at D1.out rfl; have b3_f7 : w6.frozen? ⟨w.heap.size + 1, 7, none⟩ = false := K.thaw_at D1.out))
        rw [HE.out]
        refine bodyPost_ret (v := .tuple #[.agg #[.int .i64 0, .int .i64 0, .string ⟨#[]⟩, .slice none 0 0, .int .i64 0, .int .i64 0, .string ⟨#[]⟩, .slice none 0 0], .int .i64 5]) (by unfold results; rw [Try.results72]; go_simp) rfl ⟨⟨_, _, w.heap.size, rfl, Nat.le_refl _, by simp; omega, K.own_nil _ _ _, K.own_nil _ _ _⟩, ?_⟩
        with_reducible refine K.Ext.alloc ?_ _
        iterate 8 with_reducible refine K.Ext.setCell ?_ (by dsimp only; omega) _
        exact K.Ext.trans (HX.out.alloc _) hw6
    · obtain rfl : k = n := by omega
      have HE : Hid (Z.RunSteps E xs = (A, 0)) := Z.hide (HSM.out A (by rw [← HN.out]; exact HR.out))
      have n3 : ¬ (w.heap.size + 1 = w3.heap.size) := by omega
      have n4 : ¬ (w3.heap.size = w.heap.size + 1) := by omega
      have b4_c0 : wr.cell? ⟨w3.heap.size, 0, none⟩ = some (.int .i64 (A.L.dg)) := K.cell_at HBL.out rfl; have b4_f0 : wr.frozen? ⟨w3.heap.size, 0, none⟩ = false := K.thaw_at HBL.out; have b4_c1 : wr.cell? ⟨w3.heap.size, 1, none⟩ = some (.int .i64 (A.L.tn)) := K.cell_at HBL.out rfl; have b4_f1 : wr.frozen? ⟨w3.heap.size, 1, none⟩ = false := K.thaw_at HBL.out; have b4_c2 : wr.cell? ⟨w3.heap.size, 2, none⟩ = some (.string A.L.nm) := K.cell_at HBL.out rfl; have b4_f2 : wr.frozen? ⟨w3.heap.size, 2, none⟩ = false := K.thaw_at HBL.out; have b4_c3 : wr.cell? ⟨w3.heap.size, 3, none⟩ = some (.slice o A.L.pw.length c) := K.cell_at HBL.out rfl; have b4_f3 : wr.frozen? ⟨w3.heap.size, 3, none⟩ = false := K.thaw_at HBL.out; have b4_c4 : wr.cell? ⟨w3.heap.size, 4, none⟩ = some (.int .i64 (A.R.dg)) := K.cell_at HBL.out rfl; have b4_f4 : wr.frozen? ⟨w3.heap.size, 4, none⟩ = false := K.thaw_at HBL.out; have b4_c5 : wr.cell? ⟨w3.heap.size, 5, none⟩ = some (.int .i64 (A.R.tn)) := K.cell_at HBL.out rfl; have b4_f5 : wr.frozen? ⟨w3.heap.size, 5, none⟩ = false := K.thaw_at HBL.out; have b4_c6 : wr.cell? ⟨w3.heap.size, 6, none⟩ = some (.string A.R.nm) := K.cell_at HBL.out rfl; have b4_f6 : wr.frozen? ⟨w3.heap.size, 6, none⟩ = false := K.thaw_at HBL.out; have b4_c7 : wr.cell? ⟨w3.heap.size, 7, none⟩ = some (.slice o' A.R.pw.length c') := K.cell_at HBL.out rfl; have b4_f7 : wr.frozen? ⟨w3.heap.size, 7, none⟩ = false := K.thaw_at HBL.out
      have b5_c0 : wr.cell? ⟨w.heap.size + 1, 0, none⟩ = some (.int .i64 (0)) := K.cell_at HB.out rfl; have b5_f0 : wr.frozen? ⟨w.heap.size + 1, 0, none⟩ = false := K.thaw_at HB.out; have b5_c1 : wr.cell? ⟨w.heap.size + 1, 1, none⟩ = some (.int .i64 (0)) := K.cell_at HB.out rfl; have b5_f1 : wr.frozen? ⟨w.heap.size + 1, 1, none⟩ = false := K.thaw_at HB.out; have b5_c2 : wr.cell? ⟨w.heap.size + 1, 2, none⟩ = some (.string ⟨#[]⟩) := K.cell_at HB.out rfl; have b5_f2 : wr.frozen? ⟨w.heap.size + 1, 2, none⟩ = false := K.thaw_at HB.out; have b5_c3 : wr.cell? ⟨w.heap.size + 1, 3, none⟩ = some (.slice none 0 0) := K.cell_at HB.out rfl; have b5_f3 : wr.frozen? ⟨w.heap.size + 1, 3, none⟩ = false := K.thaw_at HB.out; have b5_c4 : wr.cell? ⟨w.heap.size + 1, 4, none⟩ = some (.int .i64 (0)) := K.cell_at HB.out rfl; have b5_f4 : wr.frozen? ⟨w.heap.size + 1, 4, none⟩ = false := K.thaw_at HB.out; have b5_c5 : wr.cell? ⟨w.heap.size + 1, 5, none⟩ = some (.int .i64 (0)) := K.cell_at HB.out rfl; have b5_f5 : wr.frozen? ⟨w.heap.size + 1, 5, none⟩ = false := K.thaw_at HB.out; have b5_c6 : wr.cell? ⟨w.heap.size + 1, 6, none⟩ = some (.string ⟨#[]⟩) := K.cell_at HB.out rfl; have b5_f6 : wr.frozen? ⟨w.heap.size + 1, 6, none⟩ = false := K.thaw_at HB.out; have b5_c7 : wr.cell? ⟨w.heap.size + 1, 7, none⟩ = some (.slice none 0 0) := K.cell_at HB.out rfl; have b5_f7 : wr.frozen? ⟨w.heap.size + 1, 7, none⟩ = false := K.thaw_at HB.out
      go_wp2
      rw [HE.out]
      refine bodyPost_ret (v := .tuple #[.agg #[.int .i64 A.L.dg, .int .i64 A.L.tn, .string A.L.nm, .slice o A.L.pw.length c, .int .i64 A.R.dg, .int .i64 A.R.tn, .string A.R.nm, .slice o' A.R.pw.length c'], .int .i64 0]) (by unfold results; rw [Try.results72]; go_simp) rfl ⟨⟨_, _, m, rfl, ?_, ?_, ?_, ?_⟩, ?_⟩
      · omega
      · simp; omega
      · refine K.own.mono (lo := w.heap.size + 2) (hi := m) ?_ (by omega) (Nat.le_refl _)
        iterate 8 with_reducible refine K.own.set ?_ _ (.inl (by dsimp only; omega)) _
        exact HP.out
      · refine K.own.mono (lo := m) (hi := wr.heap.size) ?_ (Nat.le_refl _) (by simp)
        iterate 8 with_reducible refine K.own.set ?_ _ (.inl (by dsimp only; omega)) _
        exact HQ.out
      · iterate 8 with_reducible refine K.Ext.setCell ?_ (by dsimp only; omega) _
        exact HX.out
set_option maxHeartbeats 3200000 in
theorem impl_ApplyStep (E : Z.Eqn) (s : Z.St) {loEL hiEL loER hiER : Nat} {pEL pER : Value} (w : World)  (hmEL : E.L.pw.length ≤ 1048576) (hnEL : E.L.nm.size ≤ 1048576) (hmER : E.R.pw.length ≤ 1048576) (hnER : E.R.nm.size ≤ 1048576) (hEL : K.ints w loEL hiEL pEL E.L.pw) (hER : K.ints w loER hiER pER E.R.pw) :
    Calls Try.prog 75 #[.agg #[.int .i64 E.L.dg, .int .i64 E.L.tn, .string E.L.nm, pEL, .int .i64 E.R.dg, .int .i64 E.R.tn, .string E.R.nm, pER], .agg #[.int .i64 s.kd, .int .u8 s.nm, .int .i64 s.pw]] w fun e w' => (∃ p' q' m, e = .returned (.tuple #[.agg #[.int .i64 ((Z.ApplyStep E s).1.L).dg, .int .i64 ((Z.ApplyStep E s).1.L).tn, .string ((Z.ApplyStep E s).1.L).nm, p', .int .i64 ((Z.ApplyStep E s).1.R).dg, .int .i64 ((Z.ApplyStep E s).1.R).tn, .string ((Z.ApplyStep E s).1.R).nm, q'], .int .i64 ((Z.ApplyStep E s).2)]) ∧ w.heap.size ≤ m ∧ m ≤ w'.heap.size ∧ K.own w' w.heap.size m p' (Z.ApplyStep E s).1.L.pw ∧ K.own w' m w'.heap.size q' (Z.ApplyStep E s).1.R.pw) ∧ K.Ext w w' := by
  have hEL_ := hEL
  have shEL := hEL
  obtain ⟨oEL, cEL, rfl, _⟩ := shEL
  have hER_ := hER
  have shER := hER
  obtain ⟨oER, cER, rfl, _⟩ := shER
  cases vE : Z.isEquation E
  · have HE : Hid (Z.ApplyStep E s = (Z.zeroEqn, 1)) := Z.hide (by rw [Z.ApplyStep_eq, vE]; rfl)
    have X0 : K.Ext w w := K.Ext.refl w
    go_enter Try.func75, Try.ntmps75
    go_wp2_with (go_at_call 47; refine K.call (by with_reducible rfl) (by with_reducible rfl) (impl_IsEquation E _ hmEL hnEL hmER hnER (K.ints.alloc (K.ints.alloc (K.ints.alloc hEL_ _) _) _) (K.ints.alloc (K.ints.alloc (K.ints.alloc hER_ _) _) _)) ?_; rintro e w1 ⟨rfl, x1⟩; have s1 : w.heap.size + 3 ≤ w1.heap.size := (by have h_ := x1.size; (try simp at h_); omega); have X1 := K.Ext.trans (K.Ext.alloc (K.Ext.alloc (K.Ext.alloc X0 _) _) _) x1; obtain ⟨c1_0_0, c1_0_1, c1_0_2, c1_0_3, c1_0_4, c1_0_5, c1_0_6, c1_0_7⟩ := K.c8 x1 (w.heap.size) (.int .i64 E.L.dg) (.int .i64 E.L.tn) (.string E.L.nm) (.slice oEL E.L.pw.length cEL) (.int .i64 E.R.dg) (.int .i64 E.R.tn) (.string E.R.nm) (.slice oER E.R.pw.length cER) (by go_simp); have z1_0 : w.heap.size < w1.heap.size := World.block_lt_of_cell? w1 _ c1_0_0; have d1_0 : ¬ (w.heap.size = w1.heap.size) := (by omega); have e1_0 : ¬ (w1.heap.size = w.heap.size) := (by omega); obtain ⟨c1_1_0, c1_1_1, c1_1_2⟩ := K.c3 x1 (w.heap.size + 1) (.int .i64 s.kd) (.int .u8 s.nm) (.int .i64 s.pw) (by go_simp); have z1_1 : w.heap.size + 1 < w1.heap.size := World.block_lt_of_cell? w1 _ c1_1_0; have d1_1 : ¬ (w.heap.size + 1 = w1.heap.size) := (by omega); have e1_1 : ¬ (w1.heap.size = w.heap.size + 1) := (by omega); have n1_0 : ¬ (w.heap.size + 1 = w.heap.size) := (by omega); have n0_1 : ¬ (w.heap.size = w.heap.size + 1) := (by omega); obtain ⟨c1_2_0, c1_2_1, c1_2_2, c1_2_3, c1_2_4, c1_2_5, c1_2_6, c1_2_7⟩ := K.c8 x1 (w.heap.size + 1 + 1) (.int .i64 0) (.int .i64 0) (.string ⟨#[]⟩) (.slice none 0 0) (.int .i64 0) (.int .i64 0) (.string ⟨#[]⟩) (.slice none 0 0) (by go_simp); obtain ⟨f1_2_0, f1_2_1, f1_2_2, f1_2_3, f1_2_4, f1_2_5, f1_2_6, f1_2_7⟩ := K.f8 x1 (w.heap.size + 1 + 1) (by go_simp); have z1_2 : w.heap.size + 1 + 1 < w1.heap.size := World.block_lt_of_cell? w1 _ c1_2_0; have d1_2 : ¬ (w.heap.size + 1 + 1 = w1.heap.size) := (by omega); have e1_2 : ¬ (w1.heap.size = w.heap.size + 1 + 1) := (by omega); have n2_0 : ¬ (w.heap.size + 1 + 1 = w.heap.size) := (by omega); have n0_2 : ¬ (w.heap.size = w.heap.size + 1 + 1) := (by omega); have n2_1 : ¬ (w.heap.size + 1 + 1 = w.heap.size + 1) := (by omega); have n1_2 : ¬ (w.heap.size + 1 = w.heap.size + 1 + 1) := (by omega); have F1_1 := K.ints.ext (K.ints.alloc (K.ints.alloc (K.ints.alloc hEL_ _) _) _) x1; have F2_1 := K.ints.ext (K.ints.alloc (K.ints.alloc (K.ints.alloc hER_ _) _) _) x1; clear hEL_ hER_)
    rw [HE.out]
    refine bodyPost_ret (v := .tuple #[.agg #[.int .i64 0, .int .i64 0, .string ⟨#[]⟩, .slice none 0 0, .int .i64 0, .int .i64 0, .string ⟨#[]⟩, .slice none 0 0], .int .i64 1]) (by unfold results; rw [Try.results75]; go_simp) rfl ⟨⟨_, _, w.heap.size, rfl, ?_, ?_, ?_, ?_⟩, ?_⟩
    · first | omega | (simp; done) | (simp; omega)
    · first | omega | (simp; done) | (simp; omega)
    · exact K.own_nil _ _ _
    · exact K.own_nil _ _ _
    · repeat with_reducible refine K.Ext.setCell ?_ (by dsimp only; omega) _
      exact (by repeat' (first | with_reducible exact X1 | with_reducible refine K.Ext.setCell ?_ ?_ _ | with_reducible refine K.Ext.alloc ?_ _ | with_reducible refine K.Ext.drew ?_ | (dsimp only; omega) | omega | (simp; omega)))
  cases vS : Z.isStep s
  · have HE : Hid (Z.ApplyStep E s = (Z.zeroEqn, 1)) := Z.hide (by rw [Z.ApplyStep_eq, vE, vS]; rfl)
    have X0 : K.Ext w w := K.Ext.refl w
    go_enter Try.func75, Try.ntmps75
    go_wp2_with (go_at_call 47; refine K.call (by with_reducible rfl) (by with_reducible rfl) (impl_IsEquation E _ hmEL hnEL hmER hnER (show K.ints _ (loEL) (hiEL) (.slice oEL E.L.pw.length cEL) (E.L.pw) from by repeat' (first | with_reducible exact hEL_ | with_reducible refine K.ints.set ?_ _ ?_ _ | with_reducible refine K.ints.alloc ?_ _ | with_reducible refine K.ints.drew ?_ | (dsimp only; omega) | omega | (simp; done) | (simp; omega))) (show K.ints _ (loER) (hiER) (.slice oER E.R.pw.length cER) (E.R.pw) from by repeat' (first | with_reducible exact hER_ | with_reducible refine K.ints.set ?_ _ ?_ _ | with_reducible refine K.ints.alloc ?_ _ | with_reducible refine K.ints.drew ?_ | (dsimp only; omega) | omega | (simp; done) | (simp; omega)))) ?_; rintro e w1 ⟨rfl, x1⟩; have s1 : w.heap.size + 3 ≤ w1.heap.size := (by have h_ := x1.size; (try simp at h_); omega); have X1 : K.Ext w w1 := K.Ext.trans (by repeat' (first | with_reducible exact X0 | with_reducible refine K.Ext.setCell ?_ ?_ _ | with_reducible refine K.Ext.alloc ?_ _ | with_reducible refine K.Ext.drew ?_ | (dsimp only; omega) | omega | (simp; omega))) x1; obtain ⟨c1_0_0, c1_0_1, c1_0_2, c1_0_3, c1_0_4, c1_0_5, c1_0_6, c1_0_7⟩ := K.c8 x1 (w.heap.size) (.int .i64 E.L.dg) (.int .i64 E.L.tn) (.string E.L.nm) (.slice oEL E.L.pw.length cEL) (.int .i64 E.R.dg) (.int .i64 E.R.tn) (.string E.R.nm) (.slice oER E.R.pw.length cER) (by go_simp); have z1_0 : w.heap.size < w1.heap.size := World.block_lt_of_cell? w1 _ c1_0_0; have d1_0 : ¬ (w.heap.size = w1.heap.size) := (by omega); have e1_0 : ¬ (w1.heap.size = w.heap.size) := (by omega); obtain ⟨c1_1_0, c1_1_1, c1_1_2⟩ := K.c3 x1 (w.heap.size + 1) (.int .i64 s.kd) (.int .u8 s.nm) (.int .i64 s.pw) (by go_simp); have z1_1 : w.heap.size + 1 < w1.heap.size := World.block_lt_of_cell? w1 _ c1_1_0; have d1_1 : ¬ (w.heap.size + 1 = w1.heap.size) := (by omega); have e1_1 : ¬ (w1.heap.size = w.heap.size + 1) := (by omega); have n1_0 : ¬ (w.heap.size + 1 = w.heap.size) := (by omega); have n0_1 : ¬ (w.heap.size = w.heap.size + 1) := (by omega); obtain ⟨c1_2_0, c1_2_1, c1_2_2, c1_2_3, c1_2_4, c1_2_5, c1_2_6, c1_2_7⟩ := K.c8 x1 (w.heap.size + 1 + 1) (.int .i64 0) (.int .i64 0) (.string ⟨#[]⟩) (.slice none 0 0) (.int .i64 0) (.int .i64 0) (.string ⟨#[]⟩) (.slice none 0 0) (by go_simp); obtain ⟨f1_2_0, f1_2_1, f1_2_2, f1_2_3, f1_2_4, f1_2_5, f1_2_6, f1_2_7⟩ := K.f8 x1 (w.heap.size + 1 + 1) (by go_simp); have z1_2 : w.heap.size + 1 + 1 < w1.heap.size := World.block_lt_of_cell? w1 _ c1_2_0; have d1_2 : ¬ (w.heap.size + 1 + 1 = w1.heap.size) := (by omega); have e1_2 : ¬ (w1.heap.size = w.heap.size + 1 + 1) := (by omega); have n2_0 : ¬ (w.heap.size + 1 + 1 = w.heap.size) := (by omega); have n0_2 : ¬ (w.heap.size = w.heap.size + 1 + 1) := (by omega); have n2_1 : ¬ (w.heap.size + 1 + 1 = w.heap.size + 1) := (by omega); have n1_2 : ¬ (w.heap.size + 1 = w.heap.size + 1 + 1) := (by omega); have F1_1 := K.ints.ext (show K.ints _ (loEL) (hiEL) (.slice oEL E.L.pw.length cEL) (E.L.pw) from by repeat' (first | with_reducible exact hEL_ | with_reducible refine K.ints.set ?_ _ ?_ _ | with_reducible refine K.ints.alloc ?_ _ | with_reducible refine K.ints.drew ?_ | (dsimp only; omega) | omega | (simp; done) | (simp; omega))) x1; have F2_1 := K.ints.ext (show K.ints _ (loER) (hiER) (.slice oER E.R.pw.length cER) (E.R.pw) from by repeat' (first | with_reducible exact hER_ | with_reducible refine K.ints.set ?_ _ ?_ _ | with_reducible refine K.ints.alloc ?_ _ | with_reducible refine K.ints.drew ?_ | (dsimp only; omega) | omega | (simp; done) | (simp; omega))) x1; clear hEL_ hER_)
    go_wp2_with (go_at_call 153; refine K.call (by with_reducible rfl) (by with_reducible rfl) (isStep_any s _) ?_; rintro e w2 ⟨rfl, x2⟩; have s2 : w1.heap.size ≤ w2.heap.size := (by have h_ := x2.size; (try simp at h_); omega); have X2 := K.Ext.trans (X1) x2; obtain ⟨c2_0_0, c2_0_1, c2_0_2, c2_0_3, c2_0_4, c2_0_5, c2_0_6, c2_0_7⟩ := K.c8 x2 (w.heap.size) (.int .i64 E.L.dg) (.int .i64 E.L.tn) (.string E.L.nm) (.slice oEL E.L.pw.length cEL) (.int .i64 E.R.dg) (.int .i64 E.R.tn) (.string E.R.nm) (.slice oER E.R.pw.length cER) (by go_simp); have z2_0 : w.heap.size < w2.heap.size := World.block_lt_of_cell? w2 _ c2_0_0; have d2_0 : ¬ (w.heap.size = w2.heap.size) := (by omega); have e2_0 : ¬ (w2.heap.size = w.heap.size) := (by omega); obtain ⟨c2_1_0, c2_1_1, c2_1_2⟩ := K.c3 x2 (w.heap.size + 1) (.int .i64 s.kd) (.int .u8 s.nm) (.int .i64 s.pw) (by go_simp); have z2_1 : w.heap.size + 1 < w2.heap.size := World.block_lt_of_cell? w2 _ c2_1_0; have d2_1 : ¬ (w.heap.size + 1 = w2.heap.size) := (by omega); have e2_1 : ¬ (w2.heap.size = w.heap.size + 1) := (by omega); obtain ⟨c2_2_0, c2_2_1, c2_2_2, c2_2_3, c2_2_4, c2_2_5, c2_2_6, c2_2_7⟩ := K.c8 x2 (w.heap.size + 1 + 1) (.int .i64 0) (.int .i64 0) (.string ⟨#[]⟩) (.slice none 0 0) (.int .i64 0) (.int .i64 0) (.string ⟨#[]⟩) (.slice none 0 0) (by go_simp); obtain ⟨f2_2_0, f2_2_1, f2_2_2, f2_2_3, f2_2_4, f2_2_5, f2_2_6, f2_2_7⟩ := K.f8 x2 (w.heap.size + 1 + 1) (by go_simp); have z2_2 : w.heap.size + 1 + 1 < w2.heap.size := World.block_lt_of_cell? w2 _ c2_2_0; have d2_2 : ¬ (w.heap.size + 1 + 1 = w2.heap.size) := (by omega); have e2_2 : ¬ (w2.heap.size = w.heap.size + 1 + 1) := (by omega); have F1_2 := K.ints.ext (F1_1) x2; have F2_2 := K.ints.ext (F2_1) x2; clear c1_0_0 c1_0_1 c1_0_2 c1_0_3 c1_0_4 c1_0_5 c1_0_6 c1_0_7 z1_0 d1_0 e1_0 c1_1_0 c1_1_1 c1_1_2 z1_1 d1_1 e1_1 c1_2_0 c1_2_1 c1_2_2 c1_2_3 c1_2_4 c1_2_5 c1_2_6 c1_2_7 f1_2_0 f1_2_1 f1_2_2 f1_2_3 f1_2_4 f1_2_5 f1_2_6 f1_2_7 z1_2 d1_2 e1_2 F1_1 F2_1)
    rw [HE.out]
    refine bodyPost_ret (v := .tuple #[.agg #[.int .i64 0, .int .i64 0, .string ⟨#[]⟩, .slice none 0 0, .int .i64 0, .int .i64 0, .string ⟨#[]⟩, .slice none 0 0], .int .i64 1]) (by unfold results; rw [Try.results75]; go_simp) rfl ⟨⟨_, _, w.heap.size, rfl, ?_, ?_, ?_, ?_⟩, ?_⟩
    · first | omega | (simp; done) | (simp; omega)
    · first | omega | (simp; done) | (simp; omega)
    · exact K.own_nil _ _ _
    · exact K.own_nil _ _ _
    · repeat with_reducible refine K.Ext.setCell ?_ (by dsimp only; omega) _
      exact (by repeat' (first | with_reducible exact X2 | with_reducible refine K.Ext.setCell ?_ ?_ _ | with_reducible refine K.Ext.alloc ?_ _ | with_reducible refine K.Ext.drew ?_ | (dsimp only; omega) | omega | (simp; omega)))
  obtain ⟨M, hM⟩ : ∃ M, M = Z.stepEq E s := ⟨_, rfl⟩
  have HS : ∀ {a b c d : Nat} {p q : Value} (w : World), K.ints w a b p E.L.pw → K.ints w c d q E.R.pw → Calls Try.prog 149 #[.agg #[.int .i64 E.L.dg, .int .i64 E.L.tn, .string E.L.nm, p, .int .i64 E.R.dg, .int .i64 E.R.tn, .string E.R.nm, q], .agg #[.int .i64 s.kd, .int .u8 s.nm, .int .i64 s.pw]] w fun e w' => (∃ p' q' m, e = .returned (.tuple #[.agg #[.int .i64 M.1.L.dg, .int .i64 M.1.L.tn, .string M.1.L.nm, p', .int .i64 M.1.R.dg, .int .i64 M.1.R.tn, .string M.1.R.nm, q'], .bool (M.2 == 0)]) ∧ w.heap.size ≤ m ∧ m ≤ w'.heap.size ∧ K.own w' w.heap.size m p' M.1.L.pw ∧ K.own w' m w'.heap.size q' M.1.R.pw) ∧ K.Ext w w' := fun w h h' => by rw [hM]; exact stepped_any E s w vS hmEL hnEL hmER hnER h h'
  have HAE := Z.hide (Z.ApplyStep_eq E s)
  rw [vE, vS, ← hM] at HAE
  clear hM
  by_cases hz : M.2 = 0
  · have HE : Hid (Z.ApplyStep E s = (M.1, 0)) := Z.hide (by rw [HAE.out]; simp [hz])
    have hz' : (M.2 == 0) = true := by simp [hz]
    rw [hz'] at HS
    clear HAE
    have X0 : K.Ext w w := K.Ext.refl w
    go_enter Try.func75, Try.ntmps75
    go_wp2_with (go_at_call 47; refine K.call (by with_reducible rfl) (by with_reducible rfl) (impl_IsEquation E _ hmEL hnEL hmER hnER (show K.ints _ (loEL) (hiEL) (.slice oEL E.L.pw.length cEL) (E.L.pw) from by repeat' (first | with_reducible exact hEL_ | with_reducible refine K.ints.set ?_ _ ?_ _ | with_reducible refine K.ints.alloc ?_ _ | with_reducible refine K.ints.drew ?_ | (dsimp only; omega) | omega | (simp; done) | (simp; omega))) (show K.ints _ (loER) (hiER) (.slice oER E.R.pw.length cER) (E.R.pw) from by repeat' (first | with_reducible exact hER_ | with_reducible refine K.ints.set ?_ _ ?_ _ | with_reducible refine K.ints.alloc ?_ _ | with_reducible refine K.ints.drew ?_ | (dsimp only; omega) | omega | (simp; done) | (simp; omega)))) ?_; rintro e w1 ⟨rfl, x1⟩; have s1 : w.heap.size + 3 ≤ w1.heap.size := (by have h_ := x1.size; (try simp at h_); omega); have X1 : K.Ext w w1 := K.Ext.trans (by repeat' (first | with_reducible exact X0 | with_reducible refine K.Ext.setCell ?_ ?_ _ | with_reducible refine K.Ext.alloc ?_ _ | with_reducible refine K.Ext.drew ?_ | (dsimp only; omega) | omega | (simp; omega))) x1; obtain ⟨c1_0_0, c1_0_1, c1_0_2, c1_0_3, c1_0_4, c1_0_5, c1_0_6, c1_0_7⟩ := K.c8 x1 (w.heap.size) (.int .i64 E.L.dg) (.int .i64 E.L.tn) (.string E.L.nm) (.slice oEL E.L.pw.length cEL) (.int .i64 E.R.dg) (.int .i64 E.R.tn) (.string E.R.nm) (.slice oER E.R.pw.length cER) (by go_simp); have z1_0 : w.heap.size < w1.heap.size := World.block_lt_of_cell? w1 _ c1_0_0; have d1_0 : ¬ (w.heap.size = w1.heap.size) := (by omega); have e1_0 : ¬ (w1.heap.size = w.heap.size) := (by omega); obtain ⟨c1_1_0, c1_1_1, c1_1_2⟩ := K.c3 x1 (w.heap.size + 1) (.int .i64 s.kd) (.int .u8 s.nm) (.int .i64 s.pw) (by go_simp); have z1_1 : w.heap.size + 1 < w1.heap.size := World.block_lt_of_cell? w1 _ c1_1_0; have d1_1 : ¬ (w.heap.size + 1 = w1.heap.size) := (by omega); have e1_1 : ¬ (w1.heap.size = w.heap.size + 1) := (by omega); have n1_0 : ¬ (w.heap.size + 1 = w.heap.size) := (by omega); have n0_1 : ¬ (w.heap.size = w.heap.size + 1) := (by omega); obtain ⟨c1_2_0, c1_2_1, c1_2_2, c1_2_3, c1_2_4, c1_2_5, c1_2_6, c1_2_7⟩ := K.c8 x1 (w.heap.size + 1 + 1) (.int .i64 0) (.int .i64 0) (.string ⟨#[]⟩) (.slice none 0 0) (.int .i64 0) (.int .i64 0) (.string ⟨#[]⟩) (.slice none 0 0) (by go_simp); obtain ⟨f1_2_0, f1_2_1, f1_2_2, f1_2_3, f1_2_4, f1_2_5, f1_2_6, f1_2_7⟩ := K.f8 x1 (w.heap.size + 1 + 1) (by go_simp); have z1_2 : w.heap.size + 1 + 1 < w1.heap.size := World.block_lt_of_cell? w1 _ c1_2_0; have d1_2 : ¬ (w.heap.size + 1 + 1 = w1.heap.size) := (by omega); have e1_2 : ¬ (w1.heap.size = w.heap.size + 1 + 1) := (by omega); have n2_0 : ¬ (w.heap.size + 1 + 1 = w.heap.size) := (by omega); have n0_2 : ¬ (w.heap.size = w.heap.size + 1 + 1) := (by omega); have n2_1 : ¬ (w.heap.size + 1 + 1 = w.heap.size + 1) := (by omega); have n1_2 : ¬ (w.heap.size + 1 = w.heap.size + 1 + 1) := (by omega); have F1_1 := K.ints.ext (show K.ints _ (loEL) (hiEL) (.slice oEL E.L.pw.length cEL) (E.L.pw) from by repeat' (first | with_reducible exact hEL_ | with_reducible refine K.ints.set ?_ _ ?_ _ | with_reducible refine K.ints.alloc ?_ _ | with_reducible refine K.ints.drew ?_ | (dsimp only; omega) | omega | (simp; done) | (simp; omega))) x1; have F2_1 := K.ints.ext (show K.ints _ (loER) (hiER) (.slice oER E.R.pw.length cER) (E.R.pw) from by repeat' (first | with_reducible exact hER_ | with_reducible refine K.ints.set ?_ _ ?_ _ | with_reducible refine K.ints.alloc ?_ _ | with_reducible refine K.ints.drew ?_ | (dsimp only; omega) | omega | (simp; done) | (simp; omega))) x1; clear hEL_ hER_)
    go_wp2_with (go_at_call 153; refine K.call (by with_reducible rfl) (by with_reducible rfl) (isStep_any s _) ?_; rintro e w2 ⟨rfl, x2⟩; have s2 : w1.heap.size ≤ w2.heap.size := (by have h_ := x2.size; (try simp at h_); omega); have X2 := K.Ext.trans (X1) x2; obtain ⟨c2_0_0, c2_0_1, c2_0_2, c2_0_3, c2_0_4, c2_0_5, c2_0_6, c2_0_7⟩ := K.c8 x2 (w.heap.size) (.int .i64 E.L.dg) (.int .i64 E.L.tn) (.string E.L.nm) (.slice oEL E.L.pw.length cEL) (.int .i64 E.R.dg) (.int .i64 E.R.tn) (.string E.R.nm) (.slice oER E.R.pw.length cER) (by go_simp); have z2_0 : w.heap.size < w2.heap.size := World.block_lt_of_cell? w2 _ c2_0_0; have d2_0 : ¬ (w.heap.size = w2.heap.size) := (by omega); have e2_0 : ¬ (w2.heap.size = w.heap.size) := (by omega); obtain ⟨c2_1_0, c2_1_1, c2_1_2⟩ := K.c3 x2 (w.heap.size + 1) (.int .i64 s.kd) (.int .u8 s.nm) (.int .i64 s.pw) (by go_simp); have z2_1 : w.heap.size + 1 < w2.heap.size := World.block_lt_of_cell? w2 _ c2_1_0; have d2_1 : ¬ (w.heap.size + 1 = w2.heap.size) := (by omega); have e2_1 : ¬ (w2.heap.size = w.heap.size + 1) := (by omega); obtain ⟨c2_2_0, c2_2_1, c2_2_2, c2_2_3, c2_2_4, c2_2_5, c2_2_6, c2_2_7⟩ := K.c8 x2 (w.heap.size + 1 + 1) (.int .i64 0) (.int .i64 0) (.string ⟨#[]⟩) (.slice none 0 0) (.int .i64 0) (.int .i64 0) (.string ⟨#[]⟩) (.slice none 0 0) (by go_simp); obtain ⟨f2_2_0, f2_2_1, f2_2_2, f2_2_3, f2_2_4, f2_2_5, f2_2_6, f2_2_7⟩ := K.f8 x2 (w.heap.size + 1 + 1) (by go_simp); have z2_2 : w.heap.size + 1 + 1 < w2.heap.size := World.block_lt_of_cell? w2 _ c2_2_0; have d2_2 : ¬ (w.heap.size + 1 + 1 = w2.heap.size) := (by omega); have e2_2 : ¬ (w2.heap.size = w.heap.size + 1 + 1) := (by omega); have F1_2 := K.ints.ext (F1_1) x2; have F2_2 := K.ints.ext (F2_1) x2; clear c1_0_0 c1_0_1 c1_0_2 c1_0_3 c1_0_4 c1_0_5 c1_0_6 c1_0_7 z1_0 d1_0 e1_0 c1_1_0 c1_1_1 c1_1_2 z1_1 d1_1 e1_1 c1_2_0 c1_2_1 c1_2_2 c1_2_3 c1_2_4 c1_2_5 c1_2_6 c1_2_7 f1_2_0 f1_2_1 f1_2_2 f1_2_3 f1_2_4 f1_2_5 f1_2_6 f1_2_7 z1_2 d1_2 e1_2 F1_1 F2_1)
    go_wp2_with (go_at_call 149; refine K.call (by with_reducible rfl) (by with_reducible rfl) (HS _ (F1_2) (F2_2)) ?_; rintro e w3 ⟨⟨p3, q3, b3, rfl, m3, m3_, g3, g3_⟩, x3⟩; obtain ⟨o3, k3, rfl, _⟩ := K.own.ints g3; obtain ⟨o3_, k3_, rfl, _⟩ := K.own.ints g3_; have F3_3 : K.own w3 (w2.heap.size) (b3) (.slice o3 ((M.1, true).1).L.pw.length k3) (((M.1, true).1).L.pw) := g3.mono (by simp) (Nat.le_refl _); have F4_3 : K.own w3 (b3) (w3.heap.size) (.slice o3_ ((M.1, true).1).R.pw.length k3_) (((M.1, true).1).R.pw) := g3_; (try simp at m3); clear g3 g3_; have s3 : w2.heap.size ≤ w3.heap.size := (by have h_ := x3.size; (try simp at h_); omega); have X3 := K.Ext.trans (X2) x3; obtain ⟨c3_0_0, c3_0_1, c3_0_2, c3_0_3, c3_0_4, c3_0_5, c3_0_6, c3_0_7⟩ := K.c8 x3 (w.heap.size) (.int .i64 E.L.dg) (.int .i64 E.L.tn) (.string E.L.nm) (.slice oEL E.L.pw.length cEL) (.int .i64 E.R.dg) (.int .i64 E.R.tn) (.string E.R.nm) (.slice oER E.R.pw.length cER) (by go_simp); have z3_0 : w.heap.size < w3.heap.size := World.block_lt_of_cell? w3 _ c3_0_0; have d3_0 : ¬ (w.heap.size = w3.heap.size) := (by omega); have e3_0 : ¬ (w3.heap.size = w.heap.size) := (by omega); obtain ⟨c3_1_0, c3_1_1, c3_1_2⟩ := K.c3 x3 (w.heap.size + 1) (.int .i64 s.kd) (.int .u8 s.nm) (.int .i64 s.pw) (by go_simp); have z3_1 : w.heap.size + 1 < w3.heap.size := World.block_lt_of_cell? w3 _ c3_1_0; have d3_1 : ¬ (w.heap.size + 1 = w3.heap.size) := (by omega); have e3_1 : ¬ (w3.heap.size = w.heap.size + 1) := (by omega); obtain ⟨c3_2_0, c3_2_1, c3_2_2, c3_2_3, c3_2_4, c3_2_5, c3_2_6, c3_2_7⟩ := K.c8 x3 (w.heap.size + 1 + 1) (.int .i64 0) (.int .i64 0) (.string ⟨#[]⟩) (.slice none 0 0) (.int .i64 0) (.int .i64 0) (.string ⟨#[]⟩) (.slice none 0 0) (by go_simp); obtain ⟨f3_2_0, f3_2_1, f3_2_2, f3_2_3, f3_2_4, f3_2_5, f3_2_6, f3_2_7⟩ := K.f8 x3 (w.heap.size + 1 + 1) (by go_simp); have z3_2 : w.heap.size + 1 + 1 < w3.heap.size := World.block_lt_of_cell? w3 _ c3_2_0; have d3_2 : ¬ (w.heap.size + 1 + 1 = w3.heap.size) := (by omega); have e3_2 : ¬ (w3.heap.size = w.heap.size + 1 + 1) := (by omega); have F1_3 := K.ints.ext (F1_2) x3; have F2_3 := K.ints.ext (F2_2) x3; clear c2_0_0 c2_0_1 c2_0_2 c2_0_3 c2_0_4 c2_0_5 c2_0_6 c2_0_7 z2_0 d2_0 e2_0 c2_1_0 c2_1_1 c2_1_2 z2_1 d2_1 e2_1 c2_2_0 c2_2_1 c2_2_2 c2_2_3 c2_2_4 c2_2_5 c2_2_6 c2_2_7 f2_2_0 f2_2_1 f2_2_2 f2_2_3 f2_2_4 f2_2_5 f2_2_6 f2_2_7 z2_2 d2_2 e2_2 F1_2 F2_2)
    rw [HE.out]
    refine bodyPost_ret (v := .tuple #[.agg #[.int .i64 ((M.1, true).1).L.dg, .int .i64 ((M.1, true).1).L.tn, .string ((M.1, true).1).L.nm, .slice o3 ((M.1, true).1).L.pw.length k3, .int .i64 ((M.1, true).1).R.dg, .int .i64 ((M.1, true).1).R.tn, .string ((M.1, true).1).R.nm, .slice o3_ ((M.1, true).1).R.pw.length k3_], .int .i64 0]) (by unfold results; rw [Try.results75]; go_simp) rfl ⟨⟨_, _, b3, rfl, ?_, ?_, ?_, ?_⟩, ?_⟩
    · first | omega | (simp; done) | (simp; omega)
    · first | omega | (simp; done) | (simp; omega)
    · refine K.own.mono (lo := w2.heap.size) (hi := b3) ?_ (by first | omega | (simp; done) | (simp; omega)) (by first | omega | (simp; done) | (simp; omega))
      repeat' (first | with_reducible exact F3_3 | with_reducible refine K.own.set ?_ _ ?_ _ | with_reducible refine K.own.alloc ?_ _ | with_reducible refine K.own.drew ?_ | (dsimp only; omega) | omega | (simp; done) | (simp; omega))
    · refine K.own.mono (lo := b3) (hi := w3.heap.size) ?_ (by first | omega | (simp; done) | (simp; omega)) (by first | omega | (simp; done) | (simp; omega))
      repeat' (first | with_reducible exact F4_3 | with_reducible refine K.own.set ?_ _ ?_ _ | with_reducible refine K.own.alloc ?_ _ | with_reducible refine K.own.drew ?_ | (dsimp only; omega) | omega | (simp; done) | (simp; omega))
    · repeat with_reducible refine K.Ext.setCell ?_ (by dsimp only; omega) _
      exact (by repeat' (first | with_reducible exact X3 | with_reducible refine K.Ext.setCell ?_ ?_ _ | with_reducible refine K.Ext.alloc ?_ _ | with_reducible refine K.Ext.drew ?_ | (dsimp only; omega) | omega | (simp; omega)))
  · have HE : Hid (Z.ApplyStep E s = (Z.zeroEqn, 5)) := Z.hide (by rw [HAE.out]; simp [hz])
    have hz' : (M.2 == 0) = false := by simp [hz]
    rw [hz'] at HS
    clear HAE
    have X0 : K.Ext w w := K.Ext.refl w
    go_enter Try.func75, Try.ntmps75
    go_wp2_with (go_at_call 47; refine K.call (by with_reducible rfl) (by with_reducible rfl) (impl_IsEquation E _ hmEL hnEL hmER hnER (show K.ints _ (loEL) (hiEL) (.slice oEL E.L.pw.length cEL) (E.L.pw) from by repeat' (first | with_reducible exact hEL_ | with_reducible refine K.ints.set ?_ _ ?_ _ | with_reducible refine K.ints.alloc ?_ _ | with_reducible refine K.ints.drew ?_ | (dsimp only; omega) | omega | (simp; done) | (simp; omega))) (show K.ints _ (loER) (hiER) (.slice oER E.R.pw.length cER) (E.R.pw) from by repeat' (first | with_reducible exact hER_ | with_reducible refine K.ints.set ?_ _ ?_ _ | with_reducible refine K.ints.alloc ?_ _ | with_reducible refine K.ints.drew ?_ | (dsimp only; omega) | omega | (simp; done) | (simp; omega)))) ?_; rintro e w1 ⟨rfl, x1⟩; have s1 : w.heap.size + 3 ≤ w1.heap.size := (by have h_ := x1.size; (try simp at h_); omega); have X1 : K.Ext w w1 := K.Ext.trans (by repeat' (first | with_reducible exact X0 | with_reducible refine K.Ext.setCell ?_ ?_ _ | with_reducible refine K.Ext.alloc ?_ _ | with_reducible refine K.Ext.drew ?_ | (dsimp only; omega) | omega | (simp; omega))) x1; obtain ⟨c1_0_0, c1_0_1, c1_0_2, c1_0_3, c1_0_4, c1_0_5, c1_0_6, c1_0_7⟩ := K.c8 x1 (w.heap.size) (.int .i64 E.L.dg) (.int .i64 E.L.tn) (.string E.L.nm) (.slice oEL E.L.pw.length cEL) (.int .i64 E.R.dg) (.int .i64 E.R.tn) (.string E.R.nm) (.slice oER E.R.pw.length cER) (by go_simp); have z1_0 : w.heap.size < w1.heap.size := World.block_lt_of_cell? w1 _ c1_0_0; have d1_0 : ¬ (w.heap.size = w1.heap.size) := (by omega); have e1_0 : ¬ (w1.heap.size = w.heap.size) := (by omega); obtain ⟨c1_1_0, c1_1_1, c1_1_2⟩ := K.c3 x1 (w.heap.size + 1) (.int .i64 s.kd) (.int .u8 s.nm) (.int .i64 s.pw) (by go_simp); have z1_1 : w.heap.size + 1 < w1.heap.size := World.block_lt_of_cell? w1 _ c1_1_0; have d1_1 : ¬ (w.heap.size + 1 = w1.heap.size) := (by omega); have e1_1 : ¬ (w1.heap.size = w.heap.size + 1) := (by omega); have n1_0 : ¬ (w.heap.size + 1 = w.heap.size) := (by omega); have n0_1 : ¬ (w.heap.size = w.heap.size + 1) := (by omega); obtain ⟨c1_2_0, c1_2_1, c1_2_2, c1_2_3, c1_2_4, c1_2_5, c1_2_6, c1_2_7⟩ := K.c8 x1 (w.heap.size + 1 + 1) (.int .i64 0) (.int .i64 0) (.string ⟨#[]⟩) (.slice none 0 0) (.int .i64 0) (.int .i64 0) (.string ⟨#[]⟩) (.slice none 0 0) (by go_simp); obtain ⟨f1_2_0, f1_2_1, f1_2_2, f1_2_3, f1_2_4, f1_2_5, f1_2_6, f1_2_7⟩ := K.f8 x1 (w.heap.size + 1 + 1) (by go_simp); have z1_2 : w.heap.size + 1 + 1 < w1.heap.size := World.block_lt_of_cell? w1 _ c1_2_0; have d1_2 : ¬ (w.heap.size + 1 + 1 = w1.heap.size) := (by omega); have e1_2 : ¬ (w1.heap.size = w.heap.size + 1 + 1) := (by omega); have n2_0 : ¬ (w.heap.size + 1 + 1 = w.heap.size) := (by omega); have n0_2 : ¬ (w.heap.size = w.heap.size + 1 + 1) := (by omega); have n2_1 : ¬ (w.heap.size + 1 + 1 = w.heap.size + 1) := (by omega); have n1_2 : ¬ (w.heap.size + 1 = w.heap.size + 1 + 1) := (by omega); have F1_1 := K.ints.ext (show K.ints _ (loEL) (hiEL) (.slice oEL E.L.pw.length cEL) (E.L.pw) from by repeat' (first | with_reducible exact hEL_ | with_reducible refine K.ints.set ?_ _ ?_ _ | with_reducible refine K.ints.alloc ?_ _ | with_reducible refine K.ints.drew ?_ | (dsimp only; omega) | omega | (simp; done) | (simp; omega))) x1; have F2_1 := K.ints.ext (show K.ints _ (loER) (hiER) (.slice oER E.R.pw.length cER) (E.R.pw) from by repeat' (first | with_reducible exact hER_ | with_reducible refine K.ints.set ?_ _ ?_ _ | with_reducible refine K.ints.alloc ?_ _ | with_reducible refine K.ints.drew ?_ | (dsimp only; omega) | omega | (simp; done) | (simp; omega))) x1; clear hEL_ hER_)
    go_wp2_with (go_at_call 153; refine K.call (by with_reducible rfl) (by with_reducible rfl) (isStep_any s _) ?_; rintro e w2 ⟨rfl, x2⟩; have s2 : w1.heap.size ≤ w2.heap.size := (by have h_ := x2.size; (try simp at h_); omega); have X2 := K.Ext.trans (X1) x2; obtain ⟨c2_0_0, c2_0_1, c2_0_2, c2_0_3, c2_0_4, c2_0_5, c2_0_6, c2_0_7⟩ := K.c8 x2 (w.heap.size) (.int .i64 E.L.dg) (.int .i64 E.L.tn) (.string E.L.nm) (.slice oEL E.L.pw.length cEL) (.int .i64 E.R.dg) (.int .i64 E.R.tn) (.string E.R.nm) (.slice oER E.R.pw.length cER) (by go_simp); have z2_0 : w.heap.size < w2.heap.size := World.block_lt_of_cell? w2 _ c2_0_0; have d2_0 : ¬ (w.heap.size = w2.heap.size) := (by omega); have e2_0 : ¬ (w2.heap.size = w.heap.size) := (by omega); obtain ⟨c2_1_0, c2_1_1, c2_1_2⟩ := K.c3 x2 (w.heap.size + 1) (.int .i64 s.kd) (.int .u8 s.nm) (.int .i64 s.pw) (by go_simp); have z2_1 : w.heap.size + 1 < w2.heap.size := World.block_lt_of_cell? w2 _ c2_1_0; have d2_1 : ¬ (w.heap.size + 1 = w2.heap.size) := (by omega); have e2_1 : ¬ (w2.heap.size = w.heap.size + 1) := (by omega); obtain ⟨c2_2_0, c2_2_1, c2_2_2, c2_2_3, c2_2_4, c2_2_5, c2_2_6, c2_2_7⟩ := K.c8 x2 (w.heap.size + 1 + 1) (.int .i64 0) (.int .i64 0) (.string ⟨#[]⟩) (.slice none 0 0) (.int .i64 0) (.int .i64 0) (.string ⟨#[]⟩) (.slice none 0 0) (by go_simp); obtain ⟨f2_2_0, f2_2_1, f2_2_2, f2_2_3, f2_2_4, f2_2_5, f2_2_6, f2_2_7⟩ := K.f8 x2 (w.heap.size + 1 + 1) (by go_simp); have z2_2 : w.heap.size + 1 + 1 < w2.heap.size := World.block_lt_of_cell? w2 _ c2_2_0; have d2_2 : ¬ (w.heap.size + 1 + 1 = w2.heap.size) := (by omega); have e2_2 : ¬ (w2.heap.size = w.heap.size + 1 + 1) := (by omega); have F1_2 := K.ints.ext (F1_1) x2; have F2_2 := K.ints.ext (F2_1) x2; clear c1_0_0 c1_0_1 c1_0_2 c1_0_3 c1_0_4 c1_0_5 c1_0_6 c1_0_7 z1_0 d1_0 e1_0 c1_1_0 c1_1_1 c1_1_2 z1_1 d1_1 e1_1 c1_2_0 c1_2_1 c1_2_2 c1_2_3 c1_2_4 c1_2_5 c1_2_6 c1_2_7 f1_2_0 f1_2_1 f1_2_2 f1_2_3 f1_2_4 f1_2_5 f1_2_6 f1_2_7 z1_2 d1_2 e1_2 F1_1 F2_1)
    go_wp2_with (go_at_call 149; refine K.call (by with_reducible rfl) (by with_reducible rfl) (HS _ (F1_2) (F2_2)) ?_; rintro e w3 ⟨⟨p3, q3, b3, rfl, m3, m3_, g3, g3_⟩, x3⟩; obtain ⟨o3, k3, rfl, _⟩ := K.own.ints g3; obtain ⟨o3_, k3_, rfl, _⟩ := K.own.ints g3_; have F3_3 : K.own w3 (w2.heap.size) (b3) (.slice o3 ((M.1, false).1).L.pw.length k3) (((M.1, false).1).L.pw) := g3.mono (by simp) (Nat.le_refl _); have F4_3 : K.own w3 (b3) (w3.heap.size) (.slice o3_ ((M.1, false).1).R.pw.length k3_) (((M.1, false).1).R.pw) := g3_; (try simp at m3); clear g3 g3_; have s3 : w2.heap.size ≤ w3.heap.size := (by have h_ := x3.size; (try simp at h_); omega); have X3 := K.Ext.trans (X2) x3; obtain ⟨c3_0_0, c3_0_1, c3_0_2, c3_0_3, c3_0_4, c3_0_5, c3_0_6, c3_0_7⟩ := K.c8 x3 (w.heap.size) (.int .i64 E.L.dg) (.int .i64 E.L.tn) (.string E.L.nm) (.slice oEL E.L.pw.length cEL) (.int .i64 E.R.dg) (.int .i64 E.R.tn) (.string E.R.nm) (.slice oER E.R.pw.length cER) (by go_simp); have z3_0 : w.heap.size < w3.heap.size := World.block_lt_of_cell? w3 _ c3_0_0; have d3_0 : ¬ (w.heap.size = w3.heap.size) := (by omega); have e3_0 : ¬ (w3.heap.size = w.heap.size) := (by omega); obtain ⟨c3_1_0, c3_1_1, c3_1_2⟩ := K.c3 x3 (w.heap.size + 1) (.int .i64 s.kd) (.int .u8 s.nm) (.int .i64 s.pw) (by go_simp); have z3_1 : w.heap.size + 1 < w3.heap.size := World.block_lt_of_cell? w3 _ c3_1_0; have d3_1 : ¬ (w.heap.size + 1 = w3.heap.size) := (by omega); have e3_1 : ¬ (w3.heap.size = w.heap.size + 1) := (by omega); obtain ⟨c3_2_0, c3_2_1, c3_2_2, c3_2_3, c3_2_4, c3_2_5, c3_2_6, c3_2_7⟩ := K.c8 x3 (w.heap.size + 1 + 1) (.int .i64 0) (.int .i64 0) (.string ⟨#[]⟩) (.slice none 0 0) (.int .i64 0) (.int .i64 0) (.string ⟨#[]⟩) (.slice none 0 0) (by go_simp); obtain ⟨f3_2_0, f3_2_1, f3_2_2, f3_2_3, f3_2_4, f3_2_5, f3_2_6, f3_2_7⟩ := K.f8 x3 (w.heap.size + 1 + 1) (by go_simp); have z3_2 : w.heap.size + 1 + 1 < w3.heap.size := World.block_lt_of_cell? w3 _ c3_2_0; have d3_2 : ¬ (w.heap.size + 1 + 1 = w3.heap.size) := (by omega); have e3_2 : ¬ (w3.heap.size = w.heap.size + 1 + 1) := (by omega); have F1_3 := K.ints.ext (F1_2) x3; have F2_3 := K.ints.ext (F2_2) x3; clear c2_0_0 c2_0_1 c2_0_2 c2_0_3 c2_0_4 c2_0_5 c2_0_6 c2_0_7 z2_0 d2_0 e2_0 c2_1_0 c2_1_1 c2_1_2 z2_1 d2_1 e2_1 c2_2_0 c2_2_1 c2_2_2 c2_2_3 c2_2_4 c2_2_5 c2_2_6 c2_2_7 f2_2_0 f2_2_1 f2_2_2 f2_2_3 f2_2_4 f2_2_5 f2_2_6 f2_2_7 z2_2 d2_2 e2_2 F1_2 F2_2)
    rw [HE.out]
    refine bodyPost_ret (v := .tuple #[.agg #[.int .i64 0, .int .i64 0, .string ⟨#[]⟩, .slice none 0 0, .int .i64 0, .int .i64 0, .string ⟨#[]⟩, .slice none 0 0], .int .i64 5]) (by unfold results; rw [Try.results75]; go_simp) rfl ⟨⟨_, _, w.heap.size, rfl, ?_, ?_, ?_, ?_⟩, ?_⟩
    · first | omega | (simp; done) | (simp; omega)
    · first | omega | (simp; done) | (simp; omega)
    · exact K.own_nil _ _ _
    · exact K.own_nil _ _ _
    · repeat with_reducible refine K.Ext.setCell ?_ (by dsimp only; omega) _
      exact (by repeat' (first | with_reducible exact X3 | with_reducible refine K.Ext.setCell ?_ ?_ _ | with_reducible refine K.Ext.alloc ?_ _ | with_reducible refine K.Ext.drew ?_ | (dsimp only; omega) | omega | (simp; omega)))
end Go.Proofs.Ythmnlbgbacbocaa
end
section
namespace Go.K
open Go Go.RowKit
/-- A slice of numbers, none of them 0, does not lie in a block that holds no other number than 0. -/
theorem ints_off {w : World} {g lo hi n c : Nat} {o : Option Addr} {xs : List Int} {cells : Array Value} {T : TypeId} (hb : w.heap[g]? = some (.cells cells T)) (hz : ∀ (j : Nat) (x : Int), cells[j]? = some (.int .i64 x) → x = 0) (hn : ∀ x ∈ xs, x ≠ 0)
    (h : K.ints w lo hi (.slice o n c) xs) : ∃ l r, (g < l ∨ r ≤ g) ∧ r ≤ hi ∧ K.ints w l r (.slice o n c) xs := by
  obtain ⟨o', c', hv, hh⟩ := h
  by_cases hx : xs = []
  · exact ⟨0, 0, by omega, by omega, o', c', hv, fun h => absurd hx h⟩
  · obtain ⟨b, off, ho, h1, h2, h3⟩ := hh hx
    have h0 : 0 < xs.length := List.length_pos_iff.2 hx
    have hc := h3 0 h0
    refine ⟨b, b + 1, ?_, by omega, o', c', hv, fun _ => ⟨b, off, ho, Nat.le_refl _, by omega, h3⟩⟩
    by_cases hg : b = g
    · exfalso
      subst hg
      unfold World.cell? at hc
      simp only [hb] at hc
      have h5 := hz off (xs.getD 0 0) (by simpa using hc)
      refine hn (xs.getD 0 0) ?_ h5
      simp [List.getD_eq_getElem?_getD, h0]
    · omega
theorem zero_eqn : ∀ (j : Nat) (x : Int), (#[Value.int .i64 0, .int .i64 0, .string ⟨#[]⟩, .slice none 0 0, .int .i64 0, .int .i64 0, .string ⟨#[]⟩, .slice none 0 0] : Array Value)[j]? = some (.int .i64 x) → x = 0 := by
  intro j x h
  match j, h with
  | 0, h => simpa using h.symm
  | 1, h => simpa using h.symm
  | 2, h => simp at h
  | 3, h => simp at h
  | 4, h => simpa using h.symm
  | 5, h => simpa using h.symm
  | 6, h => simp at h
  | 7, h => simp at h
  | j + 8, h => simp at h
end Go.K
namespace Go.Proofs.Ythmnlbgbacbocaa
open Go.RowKit
end Go.Proofs.Ythmnlbgbacbocaa
end
section
namespace Go.Z
theorem isFormula_nz {F : Fm} (h : isFormula F = true) : ∀ x ∈ F.pw, x ≠ 0 := by
  intro x hx
  obtain ⟨i, hi, rfl⟩ := List.getElem_of_mem hx
  obtain ⟨hpl, h6⟩ := isFormula_len h
  have h1 := okAt_parts (valid_at h i (by omega))
  have h2 : F.pw.getD i 0 = F.pw[i] := by simp [List.getD_eq_getElem?_getD, hi]
  rw [← h2]
  exact h1.2.2.2.1
theorem SwapSides_nz (E : Eqn) : (∀ x ∈ (SwapSides E).1.L.pw, x ≠ 0) ∧ ∀ x ∈ (SwapSides E).1.R.pw, x ≠ 0 := by
  unfold SwapSides; split
  · rename_i h
    obtain ⟨a, b⟩ := isEquation_parts h
    exact ⟨isFormula_nz b, isFormula_nz a⟩
  · exact ⟨zeroFm_nz, zeroFm_nz⟩
theorem RaiseSides_nz (E : Eqn) (n : Int) : (∀ x ∈ (RaiseSides E n).1.L.pw, x ≠ 0) ∧ ∀ x ∈ (RaiseSides E n).1.R.pw, x ≠ 0 := by
  unfold RaiseSides; split
  · split
    · exact ⟨zeroFm_nz, zeroFm_nz⟩
    · split
      · exact bothOf_nz (raised_nz _ _) (raised_nz _ _)
      · exact ⟨zeroFm_nz, zeroFm_nz⟩
  · exact ⟨zeroFm_nz, zeroFm_nz⟩
theorem stepEq_nz (E : Eqn) (s : St) : (∀ x ∈ (stepEq E s).1.L.pw, x ≠ 0) ∧ ∀ x ∈ (stepEq E s).1.R.pw, x ≠ 0 := by
  unfold stepEq; split
  · exact SwapSides_nz E
  · split
    · exact TimesFormula_nz _ _
    · exact RaiseSides_nz _ _
end Go.Z
namespace Go.K
open Go.RowKit
def SP.fmB (B : Nat) (F : Z.Fm) : SP := ⟨fun v w => ∃ p hi, v = .agg #[.int .i64 F.dg, .int .i64 F.tn, .string F.nm, p] ∧ B ≤ hi ∧ hi ≤ w.heap.size ∧ K.ints w B hi p F.pw, fun _ _ _ hx ⟨p, hi, hv, h1, hh, h⟩ => ⟨p, hi, hv, h1, Nat.le_trans hh hx.size, h.ext hx⟩⟩
def SP.eqB (B : Nat) (M : Z.Eqn) (t : Bool) : SP := ⟨fun v w => ∃ p q hi, v = .tuple #[.agg #[.int .i64 M.L.dg, .int .i64 M.L.tn, .string M.L.nm, p, .int .i64 M.R.dg, .int .i64 M.R.tn, .string M.R.nm, q], .bool t] ∧ B ≤ hi ∧ hi ≤ w.heap.size ∧ K.ints w B hi p M.L.pw ∧ K.ints w B hi q M.R.pw, fun _ _ _ hx ⟨p, q, hi, hv, h1, hh, h, h'⟩ => ⟨p, q, hi, hv, h1, Nat.le_trans hh hx.size, h.ext hx, h'.ext hx⟩⟩
/-- a slice without zeros does not lie in a block of zeros -/
theorem ints_off2 {w : World} {g lo hi n c : Nat} {o : Option Addr} {xs : List Int} {cells : Array Value} {T : TypeId} (hl : lo ≤ hi) (hb : w.heap[g]? = some (.cells cells T)) (hz : ∀ (j : Nat) (x : Int), cells[j]? = some (.int .i64 x) → x = 0) (hn : ∀ x ∈ xs, x ≠ 0)
    (h : K.ints w lo hi (.slice o n c) xs) : ∃ l r, (g < l ∨ r ≤ g) ∧ lo ≤ l ∧ r ≤ hi ∧ K.ints w l r (.slice o n c) xs := by
  by_cases hx : xs = []
  · obtain ⟨o', c', hv, hh⟩ := h
    by_cases hg : g < lo
    · exact ⟨lo, lo, .inl hg, Nat.le_refl _, hl, o', c', hv, fun h => absurd hx h⟩
    · exact ⟨lo, lo, .inr (by omega), Nat.le_refl _, hl, o', c', hv, fun h => absurd hx h⟩
  · have h0 : 0 < xs.length := List.length_pos_iff.2 hx
    obtain ⟨l, r, h1, h2, h3⟩ := ints_off hb hz hn h
    obtain ⟨o', c', hv, hh⟩ := h3
    obtain ⟨o2, c2, hv2, hh2⟩ := h
    obtain ⟨b, off, ho, a1, a2, a3⟩ := hh hx
    obtain ⟨b2, off2, ho2, e1, e2, e3⟩ := hh2 hx
    have hbb : b = b2 := by
      have := hv.symm.trans hv2
      rw [ho, ho2] at this
      simp at this
      exact this.1.1
    subst hbb
    refine ⟨b, b + 1, by omega, by omega, by omega, o', c', hv, fun _ => ⟨b, off, ho, Nat.le_refl _, by omega, a3⟩⟩
end Go.K
namespace Go.Proofs.Ythmnlbgbacbocaa
open Go.RowKit
set_option maxRecDepth 100000 in
set_option maxHeartbeats 12800000 in
theorem spec_RunSteps (E : Z.Eqn) (xs : List (Z.St)) {loEL hiEL loER hiER : Nat} {pEL pER : Value} {loxs hixs : Nat} {pxs : Value} (w : World)  (hmEL : E.L.pw.length ≤ 1048576) (hnEL : E.L.nm.size ≤ 1048576) (hmER : E.R.pw.length ≤ 1048576) (hnER : E.R.nm.size ≤ 1048576) (hEL : K.ints w loEL hiEL pEL E.L.pw) (hER : K.ints w loER hiER pER E.R.pw) (hmxs : xs.length ≤ 1048576) (hxs : K.recs false K.StR w loxs hixs pxs xs) :
    Calls Try.prog 73 #[.agg #[.int .i64 E.L.dg, .int .i64 E.L.tn, .string E.L.nm, pEL, .int .i64 E.R.dg, .int .i64 E.R.tn, .string E.R.nm, pER], pxs] w fun e w' => (∃ p' q', e = .returned (.tuple #[.agg #[.int .i64 ((Z.RunSteps E xs).1.L).dg, .int .i64 ((Z.RunSteps E xs).1.L).tn, .string ((Z.RunSteps E xs).1.L).nm, p', .int .i64 ((Z.RunSteps E xs).1.R).dg, .int .i64 ((Z.RunSteps E xs).1.R).tn, .string ((Z.RunSteps E xs).1.R).nm, q'], .int .i64 ((Z.RunSteps E xs).2)]) ∧ K.ints w' w.heap.size w'.heap.size p' (Z.RunSteps E xs).1.L.pw ∧ K.ints w' w.heap.size w'.heap.size q' (Z.RunSteps E xs).1.R.pw) ∧ K.Ext w w' := by
  have hEL_ := hEL
  have shEL := hEL
  obtain ⟨oEL, cEL, rfl, _⟩ := shEL
  have hER_ := hER
  have shER := hER
  obtain ⟨oER, cER, rfl, _⟩ := shER
  have hxs_ := hxs
  have shxs := hxs
  obtain ⟨oxs, cxs, rfl, _⟩ := shxs
  obtain ⟨c, hc⟩ : ∃ c, c = Z.stCode xs := ⟨_, rfl⟩
  have HCd : ∀ {a b : Nat} {v : Value} (w : World), K.recs false K.StR w a b v xs → Calls Try.prog 150 #[v] w fun e w' => e = .returned (.int .i64 c) ∧ K.Ext w w' := fun w h => by rw [hc]; exact l21Code_any xs w hmxs h
  cases vE : Z.isEquation E
  · have HE : Hid (Z.RunSteps E xs = (Z.zeroEqn, 1)) := Z.hide (Z.RunSteps_bad xs vE)
    clear hc
    have X0 : K.Ext w w := K.Ext.refl w
    go_enter Try.func73, Try.ntmps73
    go_wp2_with (go_at_call 150; refine K.call (by with_reducible rfl) (by with_reducible rfl) (HCd _ (K.recs.alloc (K.recs.alloc hxs_ _) _)) ?_; rintro e w1 ⟨rfl, x1⟩; have s1 : w.heap.size + 2 ≤ w1.heap.size := (by have h_ := x1.size; (try simp at h_); omega); have X1 := K.Ext.trans (K.Ext.alloc (K.Ext.alloc X0 _) _) x1; obtain ⟨c1_0_0, c1_0_1, c1_0_2, c1_0_3, c1_0_4, c1_0_5, c1_0_6, c1_0_7⟩ := K.c8 x1 (w.heap.size) (.int .i64 E.L.dg) (.int .i64 E.L.tn) (.string E.L.nm) (.slice oEL E.L.pw.length cEL) (.int .i64 E.R.dg) (.int .i64 E.R.tn) (.string E.R.nm) (.slice oER E.R.pw.length cER) (by go_simp); have z1_0 : w.heap.size < w1.heap.size := World.block_lt_of_cell? w1 _ c1_0_0; have d1_0 : ¬ (w.heap.size = w1.heap.size) := (by omega); have e1_0 : ¬ (w1.heap.size = w.heap.size) := (by omega); obtain ⟨c1_1_0, c1_1_1, c1_1_2, c1_1_3, c1_1_4, c1_1_5, c1_1_6, c1_1_7⟩ := K.c8 x1 (w.heap.size + 1) (.int .i64 0) (.int .i64 0) (.string ⟨#[]⟩) (.slice none 0 0) (.int .i64 0) (.int .i64 0) (.string ⟨#[]⟩) (.slice none 0 0) (by go_simp); obtain ⟨f1_1_0, f1_1_1, f1_1_2, f1_1_3, f1_1_4, f1_1_5, f1_1_6, f1_1_7⟩ := K.f8 x1 (w.heap.size + 1) (by go_simp); have z1_1 : w.heap.size + 1 < w1.heap.size := World.block_lt_of_cell? w1 _ c1_1_0; have d1_1 : ¬ (w.heap.size + 1 = w1.heap.size) := (by omega); have e1_1 : ¬ (w1.heap.size = w.heap.size + 1) := (by omega); have n1_0 : ¬ (w.heap.size + 1 = w.heap.size) := (by omega); have n0_1 : ¬ (w.heap.size = w.heap.size + 1) := (by omega); have F1_1 := K.ints.ext (K.ints.alloc (K.ints.alloc hEL_ _) _) x1; have F2_1 := K.ints.ext (K.ints.alloc (K.ints.alloc hER_ _) _) x1; have F3_1 := K.recs.ext (K.recs.alloc (K.recs.alloc hxs_ _) _) x1; clear hEL_ hER_ hxs_)
    go_wp2_with (go_at_call 116; refine K.call (by with_reducible rfl) (by with_reducible rfl) (spec_IsEquation E _ hmEL hnEL hmER hnER (F1_1) (F2_1)) ?_; rintro e w2 ⟨rfl, x2⟩; have s2 : w1.heap.size ≤ w2.heap.size := (by have h_ := x2.size; (try simp at h_); omega); have X2 := K.Ext.trans (X1) x2; obtain ⟨c2_0_0, c2_0_1, c2_0_2, c2_0_3, c2_0_4, c2_0_5, c2_0_6, c2_0_7⟩ := K.c8 x2 (w.heap.size) (.int .i64 E.L.dg) (.int .i64 E.L.tn) (.string E.L.nm) (.slice oEL E.L.pw.length cEL) (.int .i64 E.R.dg) (.int .i64 E.R.tn) (.string E.R.nm) (.slice oER E.R.pw.length cER) (by go_simp); have z2_0 : w.heap.size < w2.heap.size := World.block_lt_of_cell? w2 _ c2_0_0; have d2_0 : ¬ (w.heap.size = w2.heap.size) := (by omega); have e2_0 : ¬ (w2.heap.size = w.heap.size) := (by omega); obtain ⟨c2_1_0, c2_1_1, c2_1_2, c2_1_3, c2_1_4, c2_1_5, c2_1_6, c2_1_7⟩ := K.c8 x2 (w.heap.size + 1) (.int .i64 0) (.int .i64 0) (.string ⟨#[]⟩) (.slice none 0 0) (.int .i64 0) (.int .i64 0) (.string ⟨#[]⟩) (.slice none 0 0) (by go_simp); obtain ⟨f2_1_0, f2_1_1, f2_1_2, f2_1_3, f2_1_4, f2_1_5, f2_1_6, f2_1_7⟩ := K.f8 x2 (w.heap.size + 1) (by go_simp); have z2_1 : w.heap.size + 1 < w2.heap.size := World.block_lt_of_cell? w2 _ c2_1_0; have d2_1 : ¬ (w.heap.size + 1 = w2.heap.size) := (by omega); have e2_1 : ¬ (w2.heap.size = w.heap.size + 1) := (by omega); have F1_2 := K.ints.ext (F1_1) x2; have F2_2 := K.ints.ext (F2_1) x2; have F3_2 := K.recs.ext (F3_1) x2; clear c1_0_0 c1_0_1 c1_0_2 c1_0_3 c1_0_4 c1_0_5 c1_0_6 c1_0_7 z1_0 d1_0 e1_0 c1_1_0 c1_1_1 c1_1_2 c1_1_3 c1_1_4 c1_1_5 c1_1_6 c1_1_7 f1_1_0 f1_1_1 f1_1_2 f1_1_3 f1_1_4 f1_1_5 f1_1_6 f1_1_7 z1_1 d1_1 e1_1 F1_1 F2_1 F3_1)
    rw [HE.out]
    refine bodyPost_ret (v := .tuple #[.agg #[.int .i64 0, .int .i64 0, .string ⟨#[]⟩, .slice none 0 0, .int .i64 0, .int .i64 0, .string ⟨#[]⟩, .slice none 0 0], .int .i64 1]) (by unfold results; rw [Try.results73]; go_simp) rfl ⟨⟨_, _, rfl, ?_, ?_⟩, ?_⟩
    · exact K.ints_nil _ _ _
    · exact K.ints_nil _ _ _
    · repeat with_reducible refine K.Ext.setCell ?_ (by dsimp only; omega) _
      exact (by repeat' (first | with_reducible exact X2 | with_reducible refine K.Ext.setCell ?_ ?_ _ | with_reducible refine K.Ext.alloc ?_ _ | with_reducible refine K.Ext.drew ?_ | (dsimp only; omega) | omega | (simp; omega)))
  by_cases hz : c = 0
  case neg =>
    have HE : Hid (Z.RunSteps E xs = (Z.zeroEqn, c)) := Z.hide (by rw [hc]; exact Z.RunSteps_code vE (by rw [← hc]; exact hz))
    clear hc
    have X0 : K.Ext w w := K.Ext.refl w
    go_enter Try.func73, Try.ntmps73
    go_wp2_with (go_at_call 150; refine K.call (by with_reducible rfl) (by with_reducible rfl) (HCd _ (show K.recs false K.StR _ (loxs) (hixs) (.slice oxs xs.length cxs) (xs) from by repeat' (first | with_reducible exact hxs_ | with_reducible refine K.recs.set (by decide) ?_ _ ?_ _ | with_reducible refine K.recs.alloc ?_ _ | with_reducible refine K.recs.drew ?_ | (dsimp only; omega) | omega | (simp; done) | (simp; omega)))) ?_; rintro e w1 ⟨rfl, x1⟩; have s1 : w.heap.size + 2 ≤ w1.heap.size := (by have h_ := x1.size; (try simp at h_); omega); have X1 : K.Ext w w1 := K.Ext.trans (by repeat' (first | with_reducible exact X0 | with_reducible refine K.Ext.setCell ?_ ?_ _ | with_reducible refine K.Ext.alloc ?_ _ | with_reducible refine K.Ext.drew ?_ | (dsimp only; omega) | omega | (simp; omega))) x1; obtain ⟨c1_0_0, c1_0_1, c1_0_2, c1_0_3, c1_0_4, c1_0_5, c1_0_6, c1_0_7⟩ := K.c8 x1 (w.heap.size) (.int .i64 E.L.dg) (.int .i64 E.L.tn) (.string E.L.nm) (.slice oEL E.L.pw.length cEL) (.int .i64 E.R.dg) (.int .i64 E.R.tn) (.string E.R.nm) (.slice oER E.R.pw.length cER) (by go_simp); have z1_0 : w.heap.size < w1.heap.size := World.block_lt_of_cell? w1 _ c1_0_0; have d1_0 : ¬ (w.heap.size = w1.heap.size) := (by omega); have e1_0 : ¬ (w1.heap.size = w.heap.size) := (by omega); obtain ⟨c1_1_0, c1_1_1, c1_1_2, c1_1_3, c1_1_4, c1_1_5, c1_1_6, c1_1_7⟩ := K.c8 x1 (w.heap.size + 1) (.int .i64 0) (.int .i64 0) (.string ⟨#[]⟩) (.slice none 0 0) (.int .i64 0) (.int .i64 0) (.string ⟨#[]⟩) (.slice none 0 0) (by go_simp); obtain ⟨f1_1_0, f1_1_1, f1_1_2, f1_1_3, f1_1_4, f1_1_5, f1_1_6, f1_1_7⟩ := K.f8 x1 (w.heap.size + 1) (by go_simp); have z1_1 : w.heap.size + 1 < w1.heap.size := World.block_lt_of_cell? w1 _ c1_1_0; have d1_1 : ¬ (w.heap.size + 1 = w1.heap.size) := (by omega); have e1_1 : ¬ (w1.heap.size = w.heap.size + 1) := (by omega); have n1_0 : ¬ (w.heap.size + 1 = w.heap.size) := (by omega); have n0_1 : ¬ (w.heap.size = w.heap.size + 1) := (by omega); have F1_1 := K.ints.ext (show K.ints _ (loEL) (hiEL) (.slice oEL E.L.pw.length cEL) (E.L.pw) from by repeat' (first | with_reducible exact hEL_ | with_reducible refine K.ints.set ?_ _ ?_ _ | with_reducible refine K.ints.alloc ?_ _ | with_reducible refine K.ints.drew ?_ | (dsimp only; omega) | omega | (simp; done) | (simp; omega))) x1; have F2_1 := K.ints.ext (show K.ints _ (loER) (hiER) (.slice oER E.R.pw.length cER) (E.R.pw) from by repeat' (first | with_reducible exact hER_ | with_reducible refine K.ints.set ?_ _ ?_ _ | with_reducible refine K.ints.alloc ?_ _ | with_reducible refine K.ints.drew ?_ | (dsimp only; omega) | omega | (simp; done) | (simp; omega))) x1; have F3_1 := K.recs.ext (show K.recs false K.StR _ (loxs) (hixs) (.slice oxs xs.length cxs) (xs) from by repeat' (first | with_reducible exact hxs_ | with_reducible refine K.recs.set (by decide) ?_ _ ?_ _ | with_reducible refine K.recs.alloc ?_ _ | with_reducible refine K.recs.drew ?_ | (dsimp only; omega) | omega | (simp; done) | (simp; omega))) x1; clear hEL_ hER_ hxs_)
    go_wp2_with (go_at_call 116; refine K.call (by with_reducible rfl) (by with_reducible rfl) (spec_IsEquation E _ hmEL hnEL hmER hnER (F1_1) (F2_1)) ?_; rintro e w2 ⟨rfl, x2⟩; have s2 : w1.heap.size ≤ w2.heap.size := (by have h_ := x2.size; (try simp at h_); omega); have X2 := K.Ext.trans (X1) x2; obtain ⟨c2_0_0, c2_0_1, c2_0_2, c2_0_3, c2_0_4, c2_0_5, c2_0_6, c2_0_7⟩ := K.c8 x2 (w.heap.size) (.int .i64 E.L.dg) (.int .i64 E.L.tn) (.string E.L.nm) (.slice oEL E.L.pw.length cEL) (.int .i64 E.R.dg) (.int .i64 E.R.tn) (.string E.R.nm) (.slice oER E.R.pw.length cER) (by go_simp); have z2_0 : w.heap.size < w2.heap.size := World.block_lt_of_cell? w2 _ c2_0_0; have d2_0 : ¬ (w.heap.size = w2.heap.size) := (by omega); have e2_0 : ¬ (w2.heap.size = w.heap.size) := (by omega); obtain ⟨c2_1_0, c2_1_1, c2_1_2, c2_1_3, c2_1_4, c2_1_5, c2_1_6, c2_1_7⟩ := K.c8 x2 (w.heap.size + 1) (.int .i64 0) (.int .i64 0) (.string ⟨#[]⟩) (.slice none 0 0) (.int .i64 0) (.int .i64 0) (.string ⟨#[]⟩) (.slice none 0 0) (by go_simp); obtain ⟨f2_1_0, f2_1_1, f2_1_2, f2_1_3, f2_1_4, f2_1_5, f2_1_6, f2_1_7⟩ := K.f8 x2 (w.heap.size + 1) (by go_simp); have z2_1 : w.heap.size + 1 < w2.heap.size := World.block_lt_of_cell? w2 _ c2_1_0; have d2_1 : ¬ (w.heap.size + 1 = w2.heap.size) := (by omega); have e2_1 : ¬ (w2.heap.size = w.heap.size + 1) := (by omega); have F1_2 := K.ints.ext (F1_1) x2; have F2_2 := K.ints.ext (F2_1) x2; have F3_2 := K.recs.ext (F3_1) x2; clear c1_0_0 c1_0_1 c1_0_2 c1_0_3 c1_0_4 c1_0_5 c1_0_6 c1_0_7 z1_0 d1_0 e1_0 c1_1_0 c1_1_1 c1_1_2 c1_1_3 c1_1_4 c1_1_5 c1_1_6 c1_1_7 f1_1_0 f1_1_1 f1_1_2 f1_1_3 f1_1_4 f1_1_5 f1_1_6 f1_1_7 z1_1 d1_1 e1_1 F1_1 F2_1 F3_1)
    rw [HE.out]
    refine bodyPost_ret (v := .tuple #[.agg #[.int .i64 0, .int .i64 0, .string ⟨#[]⟩, .slice none 0 0, .int .i64 0, .int .i64 0, .string ⟨#[]⟩, .slice none 0 0], .int .i64 c]) (by unfold results; rw [Try.results73]; go_simp) rfl ⟨⟨_, _, rfl, ?_, ?_⟩, ?_⟩
    · exact K.ints_nil _ _ _
    · exact K.ints_nil _ _ _
    · repeat with_reducible refine K.Ext.setCell ?_ (by dsimp only; omega) _
      exact (by repeat' (first | with_reducible exact X2 | with_reducible refine K.Ext.setCell ?_ ?_ _ | with_reducible refine K.Ext.alloc ?_ _ | with_reducible refine K.Ext.drew ?_ | (dsimp only; omega) | omega | (simp; omega)))
  subst hz
  replace hc := hc.symm
  have HSM : Hid (∀ A : Z.Eqn, Z.runK E xs xs.length = some A → Z.RunSteps E xs = (A, 0)) := Z.hide (fun A hr => Z.RunSteps_some vE hc hr)
  have HNO : Hid (Z.runK E xs xs.length = none → Z.RunSteps E xs = (Z.zeroEqn, 5)) := Z.hide (fun hr => Z.RunSteps_none vE hc hr)
  have HOK : Hid (∀ k A, Z.runK E xs k = some A → Z.isEquation A = true) := Z.hide (fun k A h => Z.runK_ok vE k h)
  have HVS : Hid (∀ s ∈ xs, Z.isStep s = true) := Z.hide (Z.code_valid hc)
  have HI : Hid (∀ w' : World, K.Ext w w' → Calls Try.prog 116 #[.agg #[.int .i64 E.L.dg, .int .i64 E.L.tn, .string E.L.nm, .slice oEL E.L.pw.length cEL, .int .i64 E.R.dg, .int .i64 E.R.tn, .string E.R.nm, .slice oER E.R.pw.length cER]] w' fun e w'' => e = .returned (.bool true) ∧ K.Ext w' w'') := Z.hide (fun w' hx => by have h_ := spec_IsEquation E w' hmEL hnEL hmER hnER (hEL.ext hx) (hER.ext hx); rwa [vE] at h_)
  have HA : Hid (∀ w' : World, K.Ext w w' → Calls Try.prog 150 #[.slice oxs xs.length cxs] w' fun e w'' => e = .returned (.int .i64 0) ∧ K.Ext w' w'') := Z.hide (fun w' hx => HCd w' (hxs.ext hx))
  have HOL : Hid (∀ (B : Nat) (w0 : World), B ≤ w0.heap.size → K.Ext w w0 → Calls Try.prog 119 #[.agg #[.int .i64 E.L.dg, .int .i64 E.L.tn, .string E.L.nm, .slice oEL E.L.pw.length cEL]] w0 fun e w' => ∃ v, e = .returned v ∧ K.Ext w0 w' ∧ (K.SP.fmB B E.L).p v w') := Z.hide (fun B w0 hB hx => (l18Own_any E.L w0 hmEL (hEL.ext hx)).mono fun e w' ⟨⟨p', he, ho⟩, hw⟩ => ⟨_, he, hw, p', w'.heap.size, rfl, Nat.le_trans hB hw.size, Nat.le_refl _, (K.own.ints ho).mono hB (Nat.le_refl _)⟩)
  have HOR : Hid (∀ (B : Nat) (w0 : World), B ≤ w0.heap.size → K.Ext w w0 → Calls Try.prog 119 #[.agg #[.int .i64 E.R.dg, .int .i64 E.R.tn, .string E.R.nm, .slice oER E.R.pw.length cER]] w0 fun e w' => ∃ v, e = .returned v ∧ K.Ext w0 w' ∧ (K.SP.fmB B E.R).p v w') := Z.hide (fun B w0 hB hx => (l18Own_any E.R w0 hmER (hER.ext hx)).mono fun e w' ⟨⟨p', he, ho⟩, hw⟩ => ⟨_, he, hw, p', w'.heap.size, rfl, Nat.le_trans hB hw.size, Nat.le_refl _, (K.own.ints ho).mono hB (Nat.le_refl _)⟩)
  have HNL := Z.hide (Z.isFormula_nz (Z.isEquation_parts vE).1)
  have HNR := Z.hide (Z.isFormula_nz (Z.isEquation_parts vE).2)
  have HXS := Z.hide hxs
  obtain ⟨n, hn⟩ : ∃ n, n = xs.length := ⟨_, rfl⟩
  have HN := Z.hide hn
  have hn12 : n ≤ 12 := by rw [hn]; exact Z.code_len hc
  rw [← hn] at HA ⊢
  clear hxs hEL hER hn hc vE hmxs HCd
  go_enter Try.func73, Try.ntmps73
  go_wp2_with (first | ((go_at_call 150; refine K.call (by with_reducible rfl) (by with_reducible rfl) (HA.out _ (by repeat' (first | with_reducible exact K.Ext.refl _ | with_reducible assumption | with_reducible refine K.Ext.drew ?_ | with_reducible refine K.Ext.alloc ?_ _ | with_reducible refine K.Ext.setCell ?_ ?_ _ | with_reducible refine K.Ext.trans ?_ (by with_reducible assumption) | (dsimp only; omega) | omega | exact K.Ext.refl _ | assumption | apply K.Ext.drew | refine K.Ext.alloc ?_ _ | refine K.Ext.setCell ?_ ?_ _ | (simp; done) | (simp; omega) | refine K.Ext.trans ?_ (by assumption)))) ?_; rintro e w1 ⟨rfl, hw1⟩); have X1 := K.Ext.trans (show K.Ext w _ from (by repeat' (first | with_reducible exact K.Ext.refl _ | with_reducible assumption | with_reducible refine K.Ext.drew ?_ | with_reducible refine K.Ext.alloc ?_ _ | with_reducible refine K.Ext.setCell ?_ ?_ _ | with_reducible refine K.Ext.trans ?_ (by with_reducible assumption) | (dsimp only; omega) | omega | exact K.Ext.refl _ | assumption | apply K.Ext.drew | refine K.Ext.alloc ?_ _ | refine K.Ext.setCell ?_ ?_ _ | (simp; done) | (simp; omega) | refine K.Ext.trans ?_ (by assumption)))) hw1; have c_w1_0_0 : w1.cell? ⟨w.heap.size, 0, none⟩ = some (.int .i64 (E.L.dg)) := hw1.cell_of (by go_simp); have f_w1_0_0 : w1.frozen? ⟨w.heap.size, 0, none⟩ = false := hw1.thaw_of (by go_simp) (by go_simp); have c_w1_0_1 : w1.cell? ⟨w.heap.size, 1, none⟩ = some (.int .i64 (E.L.tn)) := hw1.cell_of (by go_simp); have f_w1_0_1 : w1.frozen? ⟨w.heap.size, 1, none⟩ = false := hw1.thaw_of (by go_simp) (by go_simp); have c_w1_0_2 : w1.cell? ⟨w.heap.size, 2, none⟩ = some (.string E.L.nm) := hw1.cell_of (by go_simp); have f_w1_0_2 : w1.frozen? ⟨w.heap.size, 2, none⟩ = false := hw1.thaw_of (by go_simp) (by go_simp); have c_w1_0_3 : w1.cell? ⟨w.heap.size, 3, none⟩ = some (.slice oEL E.L.pw.length cEL) := hw1.cell_of (by go_simp); have f_w1_0_3 : w1.frozen? ⟨w.heap.size, 3, none⟩ = false := hw1.thaw_of (by go_simp) (by go_simp); have c_w1_0_4 : w1.cell? ⟨w.heap.size, 4, none⟩ = some (.int .i64 (E.R.dg)) := hw1.cell_of (by go_simp); have f_w1_0_4 : w1.frozen? ⟨w.heap.size, 4, none⟩ = false := hw1.thaw_of (by go_simp) (by go_simp); have c_w1_0_5 : w1.cell? ⟨w.heap.size, 5, none⟩ = some (.int .i64 (E.R.tn)) := hw1.cell_of (by go_simp); have f_w1_0_5 : w1.frozen? ⟨w.heap.size, 5, none⟩ = false := hw1.thaw_of (by go_simp) (by go_simp); have c_w1_0_6 : w1.cell? ⟨w.heap.size, 6, none⟩ = some (.string E.R.nm) := hw1.cell_of (by go_simp); have f_w1_0_6 : w1.frozen? ⟨w.heap.size, 6, none⟩ = false := hw1.thaw_of (by go_simp) (by go_simp); have c_w1_0_7 : w1.cell? ⟨w.heap.size, 7, none⟩ = some (.slice oER E.R.pw.length cER) := hw1.cell_of (by go_simp); have f_w1_0_7 : w1.frozen? ⟨w.heap.size, 7, none⟩ = false := hw1.thaw_of (by go_simp) (by go_simp); have c_w1_1_0 : w1.cell? ⟨w.heap.size + 1, 0, none⟩ = some (.int .i64 (0)) := hw1.cell_of (by go_simp); have f_w1_1_0 : w1.frozen? ⟨w.heap.size + 1, 0, none⟩ = false := hw1.thaw_of (by go_simp) (by go_simp); have c_w1_1_1 : w1.cell? ⟨w.heap.size + 1, 1, none⟩ = some (.int .i64 (0)) := hw1.cell_of (by go_simp); have f_w1_1_1 : w1.frozen? ⟨w.heap.size + 1, 1, none⟩ = false := hw1.thaw_of (by go_simp) (by go_simp); have c_w1_1_2 : w1.cell? ⟨w.heap.size + 1, 2, none⟩ = some (.string ⟨#[]⟩) := hw1.cell_of (by go_simp); have f_w1_1_2 : w1.frozen? ⟨w.heap.size + 1, 2, none⟩ = false := hw1.thaw_of (by go_simp) (by go_simp); have c_w1_1_3 : w1.cell? ⟨w.heap.size + 1, 3, none⟩ = some (.slice none 0 0) := hw1.cell_of (by go_simp); have f_w1_1_3 : w1.frozen? ⟨w.heap.size + 1, 3, none⟩ = false := hw1.thaw_of (by go_simp) (by go_simp); have c_w1_1_4 : w1.cell? ⟨w.heap.size + 1, 4, none⟩ = some (.int .i64 (0)) := hw1.cell_of (by go_simp); have f_w1_1_4 : w1.frozen? ⟨w.heap.size + 1, 4, none⟩ = false := hw1.thaw_of (by go_simp) (by go_simp); have c_w1_1_5 : w1.cell? ⟨w.heap.size + 1, 5, none⟩ = some (.int .i64 (0)) := hw1.cell_of (by go_simp); have f_w1_1_5 : w1.frozen? ⟨w.heap.size + 1, 5, none⟩ = false := hw1.thaw_of (by go_simp) (by go_simp); have c_w1_1_6 : w1.cell? ⟨w.heap.size + 1, 6, none⟩ = some (.string ⟨#[]⟩) := hw1.cell_of (by go_simp); have f_w1_1_6 : w1.frozen? ⟨w.heap.size + 1, 6, none⟩ = false := hw1.thaw_of (by go_simp) (by go_simp); have c_w1_1_7 : w1.cell? ⟨w.heap.size + 1, 7, none⟩ = some (.slice none 0 0) := hw1.cell_of (by go_simp); have f_w1_1_7 : w1.frozen? ⟨w.heap.size + 1, 7, none⟩ = false := hw1.thaw_of (by go_simp) (by go_simp); have z1 := hw1.size; simp at z1) | ((go_at_call 116; refine K.call (by with_reducible rfl) (by with_reducible rfl) (HI.out _ (by repeat' (first | with_reducible exact K.Ext.refl _ | with_reducible assumption | with_reducible refine K.Ext.drew ?_ | with_reducible refine K.Ext.alloc ?_ _ | with_reducible refine K.Ext.setCell ?_ ?_ _ | with_reducible refine K.Ext.trans ?_ (by with_reducible assumption) | (dsimp only; omega) | omega | exact K.Ext.refl _ | assumption | apply K.Ext.drew | refine K.Ext.alloc ?_ _ | refine K.Ext.setCell ?_ ?_ _ | (simp; done) | (simp; omega) | refine K.Ext.trans ?_ (by assumption)))) ?_; rintro e w2 ⟨rfl, hw2⟩); have X2 := X1.trans hw2; have c_w2_0_0 : w2.cell? ⟨w.heap.size, 0, none⟩ = some (.int .i64 (E.L.dg)) := hw2.cell_of (by go_simp); have f_w2_0_0 : w2.frozen? ⟨w.heap.size, 0, none⟩ = false := hw2.thaw_of (by go_simp) (by go_simp); have c_w2_0_1 : w2.cell? ⟨w.heap.size, 1, none⟩ = some (.int .i64 (E.L.tn)) := hw2.cell_of (by go_simp); have f_w2_0_1 : w2.frozen? ⟨w.heap.size, 1, none⟩ = false := hw2.thaw_of (by go_simp) (by go_simp); have c_w2_0_2 : w2.cell? ⟨w.heap.size, 2, none⟩ = some (.string E.L.nm) := hw2.cell_of (by go_simp); have f_w2_0_2 : w2.frozen? ⟨w.heap.size, 2, none⟩ = false := hw2.thaw_of (by go_simp) (by go_simp); have c_w2_0_3 : w2.cell? ⟨w.heap.size, 3, none⟩ = some (.slice oEL E.L.pw.length cEL) := hw2.cell_of (by go_simp); have f_w2_0_3 : w2.frozen? ⟨w.heap.size, 3, none⟩ = false := hw2.thaw_of (by go_simp) (by go_simp); have c_w2_0_4 : w2.cell? ⟨w.heap.size, 4, none⟩ = some (.int .i64 (E.R.dg)) := hw2.cell_of (by go_simp); have f_w2_0_4 : w2.frozen? ⟨w.heap.size, 4, none⟩ = false := hw2.thaw_of (by go_simp) (by go_simp); have c_w2_0_5 : w2.cell? ⟨w.heap.size, 5, none⟩ = some (.int .i64 (E.R.tn)) := hw2.cell_of (by go_simp); have f_w2_0_5 : w2.frozen? ⟨w.heap.size, 5, none⟩ = false := hw2.thaw_of (by go_simp) (by go_simp); have c_w2_0_6 : w2.cell? ⟨w.heap.size, 6, none⟩ = some (.string E.R.nm) := hw2.cell_of (by go_simp); have f_w2_0_6 : w2.frozen? ⟨w.heap.size, 6, none⟩ = false := hw2.thaw_of (by go_simp) (by go_simp); have c_w2_0_7 : w2.cell? ⟨w.heap.size, 7, none⟩ = some (.slice oER E.R.pw.length cER) := hw2.cell_of (by go_simp); have f_w2_0_7 : w2.frozen? ⟨w.heap.size, 7, none⟩ = false := hw2.thaw_of (by go_simp) (by go_simp); have c_w2_1_0 : w2.cell? ⟨w.heap.size + 1, 0, none⟩ = some (.int .i64 (0)) := hw2.cell_of (by go_simp); have f_w2_1_0 : w2.frozen? ⟨w.heap.size + 1, 0, none⟩ = false := hw2.thaw_of (by go_simp) (by go_simp); have c_w2_1_1 : w2.cell? ⟨w.heap.size + 1, 1, none⟩ = some (.int .i64 (0)) := hw2.cell_of (by go_simp); have f_w2_1_1 : w2.frozen? ⟨w.heap.size + 1, 1, none⟩ = false := hw2.thaw_of (by go_simp) (by go_simp); have c_w2_1_2 : w2.cell? ⟨w.heap.size + 1, 2, none⟩ = some (.string ⟨#[]⟩) := hw2.cell_of (by go_simp); have f_w2_1_2 : w2.frozen? ⟨w.heap.size + 1, 2, none⟩ = false := hw2.thaw_of (by go_simp) (by go_simp); have c_w2_1_3 : w2.cell? ⟨w.heap.size + 1, 3, none⟩ = some (.slice none 0 0) := hw2.cell_of (by go_simp); have f_w2_1_3 : w2.frozen? ⟨w.heap.size + 1, 3, none⟩ = false := hw2.thaw_of (by go_simp) (by go_simp); have c_w2_1_4 : w2.cell? ⟨w.heap.size + 1, 4, none⟩ = some (.int .i64 (0)) := hw2.cell_of (by go_simp); have f_w2_1_4 : w2.frozen? ⟨w.heap.size + 1, 4, none⟩ = false := hw2.thaw_of (by go_simp) (by go_simp); have c_w2_1_5 : w2.cell? ⟨w.heap.size + 1, 5, none⟩ = some (.int .i64 (0)) := hw2.cell_of (by go_simp); have f_w2_1_5 : w2.frozen? ⟨w.heap.size + 1, 5, none⟩ = false := hw2.thaw_of (by go_simp) (by go_simp); have c_w2_1_6 : w2.cell? ⟨w.heap.size + 1, 6, none⟩ = some (.string ⟨#[]⟩) := hw2.cell_of (by go_simp); have f_w2_1_6 : w2.frozen? ⟨w.heap.size + 1, 6, none⟩ = false := hw2.thaw_of (by go_simp) (by go_simp); have c_w2_1_7 : w2.cell? ⟨w.heap.size + 1, 7, none⟩ = some (.slice none 0 0) := hw2.cell_of (by go_simp); have f_w2_1_7 : w2.frozen? ⟨w.heap.size + 1, 7, none⟩ = false := hw2.thaw_of (by go_simp) (by go_simp); have z2 := hw2.size))
  have HX2 := Z.hide X2
  have B4 := Z.hide (show w2.heap[w.heap.size + 1]? = some (.cells #[.int .i64 0, .int .i64 0, .string ⟨#[]⟩, .slice none 0 0, .int .i64 0, .int .i64 0, .string ⟨#[]⟩, .slice none 0 0] 57) from hw2.block (hw1.block (K.block_new (by simp))))
  refine K.wp_region_x 8 [0, 1, 2, 0, 1, 2, 0, 2] [K.SP.any, K.SP.any, (K.SP.fmB w2.heap.size E.L), K.SP.any, K.SP.any, (K.SP.fmB w2.heap.size E.R), K.SP.any, K.SP.new (w2.heap.size) (.cells #[.int .i64 0, .int .i64 0, .string ⟨#[]⟩, .slice none 0 0, .int .i64 0, .int .i64 0, .string ⟨#[]⟩, .slice none 0 0] 57)] (by kernel_rfl) (by kernel_rfl) ?_
  simp only [List.take_succ_cons, List.take_zero, List.drop_succ_cons, List.drop_zero]
  apply K.x_pure
  · rfl
  · rfl
  · intro w'; go_simp; first | done | exact K.vint (IntWalk.i64_in _ (by omega)) | rfl | exact ⟨rfl, rfl⟩
  simp only [Act.put, List.setIfInBounds_toArray, List.set]
  apply K.x_held
  · rfl
  · rfl
  · intro w' hx; have hc := hx.all.1.1; have hf := hx.all.1.2; have hc' := hx.all.2.1; have hf' := hx.all.2.2; go_simp; first | done | rfl | exact ⟨rfl, rfl⟩
  simp only [Act.put, List.setIfInBounds_toArray, List.set]
  apply K.x_call
  · rfl
  · rfl
  · intro w'; go_simp; first | done | rfl | exact ⟨rfl, rfl⟩
  · intro w' hx hp; have hc := hx.all.1.1; have hf := hx.all.1.2; have hc' := hx.all.2.1; have hf' := hx.all.2.2; exact HOL.out _ _ (by have h_ := hx.size; simp at h_; omega) (K.Ext.trans HX2.out.drew hx)
  intro v2 w_2_ hx_2_ hv2
  obtain ⟨p2_, hi2_, rfl, hb2_, hh2_, hp2_⟩ := hv2; obtain ⟨o2_, c2_, rfl, _⟩ := K.ints.mono hp2_ (Nat.le_refl _) (Nat.le_refl _)
  simp only [Act.put, List.setIfInBounds_toArray, List.set]
  apply K.x_pure
  · rfl
  · rfl
  · intro w'; go_simp; first | done | exact K.vint (IntWalk.i64_in _ (by omega)) | rfl | exact ⟨rfl, rfl⟩
  simp only [Act.put, List.setIfInBounds_toArray, List.set]
  apply K.x_held
  · rfl
  · rfl
  · intro w' hx; have hc := hx.all.1.1; have hf := hx.all.1.2; have hc' := hx.all.2.1; have hf' := hx.all.2.2; go_simp; first | done | rfl | exact ⟨rfl, rfl⟩
  simp only [Act.put, List.setIfInBounds_toArray, List.set]
  apply K.x_call
  · rfl
  · rfl
  · intro w'; go_simp; first | done | rfl | exact ⟨rfl, rfl⟩
  · intro w' hx hp; have hc := hx.all.1.1; have hf := hx.all.1.2; have hc' := hx.all.2.1; have hf' := hx.all.2.2; exact HOR.out _ _ (by have h_ := hx.size; simp at h_; omega) (K.Ext.trans HX2.out.drew hx)
  intro v5 w_5_ hx_5_ hv5
  obtain ⟨p5_, hi5_, rfl, hb5_, hh5_, hp5_⟩ := hv5; obtain ⟨o5_, c5_, rfl, _⟩ := K.ints.mono hp5_ (Nat.le_refl _) (Nat.le_refl _)
  simp only [Act.put, List.setIfInBounds_toArray, List.set]
  apply K.x_pure
  · rfl
  · rfl
  · intro w'; go_simp; first | done | exact K.vint (IntWalk.i64_in _ (by omega)) | rfl | exact ⟨rfl, rfl⟩
  simp only [Act.put, List.setIfInBounds_toArray, List.set]
  apply K.x_new
  · rfl
  · rfl
  · rfl
  · go_simp; first | done | omega
  · intro w'; go_simp; first | done | rfl | exact ⟨rfl, rfl⟩
  intro g6_7 w_7_ hx_7_ hg6_7 hb_7_
  simp only [Act.put, List.setIfInBounds_toArray, List.set]
  apply K.x_done
  intro w3 h_x
  have hx3 := hx_2_.trans (hx_5_.trans (hx_7_.trans h_x))
  have hb6_7 := K.Ext.block (h_x) hb_7_
  have cg6_7_0 : w3.cell? ⟨g6_7, 0, none⟩ = some (.int .i64 0) := K.cell_at hb6_7 rfl
  have fg6_7_0 : w3.frozen? ⟨g6_7, 0, none⟩ = false := K.thaw_at hb6_7
  have cg6_7_1 : w3.cell? ⟨g6_7, 1, none⟩ = some (.int .i64 0) := K.cell_at hb6_7 rfl
  have fg6_7_1 : w3.frozen? ⟨g6_7, 1, none⟩ = false := K.thaw_at hb6_7
  have cg6_7_2 : w3.cell? ⟨g6_7, 2, none⟩ = some (.string ⟨#[]⟩) := K.cell_at hb6_7 rfl
  have fg6_7_2 : w3.frozen? ⟨g6_7, 2, none⟩ = false := K.thaw_at hb6_7
  have cg6_7_3 : w3.cell? ⟨g6_7, 3, none⟩ = some (.slice none 0 0) := K.cell_at hb6_7 rfl
  have fg6_7_3 : w3.frozen? ⟨g6_7, 3, none⟩ = false := K.thaw_at hb6_7
  have cg6_7_4 : w3.cell? ⟨g6_7, 4, none⟩ = some (.int .i64 0) := K.cell_at hb6_7 rfl
  have fg6_7_4 : w3.frozen? ⟨g6_7, 4, none⟩ = false := K.thaw_at hb6_7
  have cg6_7_5 : w3.cell? ⟨g6_7, 5, none⟩ = some (.int .i64 0) := K.cell_at hb6_7 rfl
  have fg6_7_5 : w3.frozen? ⟨g6_7, 5, none⟩ = false := K.thaw_at hb6_7
  have cg6_7_6 : w3.cell? ⟨g6_7, 6, none⟩ = some (.string ⟨#[]⟩) := K.cell_at hb6_7 rfl
  have fg6_7_6 : w3.frozen? ⟨g6_7, 6, none⟩ = false := K.thaw_at hb6_7
  have cg6_7_7 : w3.cell? ⟨g6_7, 7, none⟩ = some (.slice none 0 0) := K.cell_at hb6_7 rfl
  have fg6_7_7 : w3.frozen? ⟨g6_7, 7, none⟩ = false := K.thaw_at hb6_7
  have hxe2 := K.Ext.id (hx_5_.trans (hx_7_.trans h_x))
  have hxe5 := K.Ext.id (hx_7_.trans h_x)
  clear h_x hx_2_ hx_5_ hx_7_
  obtain ⟨⟨hcw3, hfw3⟩, hc'w3, hf'w3⟩ := hx3.all
  obtain ⟨l2, r2, n2, m2, M2, G2⟩ := K.ints_off2 hb2_ hb6_7 K.zero_eqn HNL.out (hp2_.ext hxe2)
  obtain ⟨l5, r5, n5, m5, M5, G5⟩ := K.ints_off2 hb5_ hb6_7 K.zero_eqn HNR.out (hp5_.ext hxe5)
  have s2_ := hxe2.size
  have s5_ := hxe5.size
  have D4 := Z.hide (K.Ext.block_of (K.Ext.block_of B4.out (K.Ext.refl _).drew) hx3)
  have HX3 := Z.hide (K.Ext.trans HX2.out.drew hx3)
  have ly := World.block_lt_of_cell? w3 _ cg6_7_0
  go_wp2_with fail
  refine NoPanic.normal ?_
  clear B4 HX2 hw1 hw2 X1 X2 HI HA HOL HOR
  go_wp2
  go_loopw [8] (fun i wr => ∃ k : Nat, k ≤ n ∧ i = .int .i64 k ∧ Hid (∃ (A : Z.Eqn) (p q : Value), Z.runK E xs k = some A ∧ wr.heap[g6_7]? = some (.cells #[.int .i64 A.L.dg, .int .i64 A.L.tn, .string A.L.nm, p, .int .i64 A.R.dg, .int .i64 A.R.tn, .string A.R.nm, q] 57) ∧ K.ints wr (w.heap.size + 2) wr.heap.size p A.L.pw ∧ K.ints wr (w.heap.size + 2) wr.heap.size q A.R.pw) ∧ Hid (wr.heap[w.heap.size + 1]? = some (.cells #[.int .i64 0, .int .i64 0, .string ⟨#[]⟩, .slice none 0 0, .int .i64 0, .int .i64 0, .string ⟨#[]⟩, .slice none 0 0] 57)) ∧ Hid (K.Ext w wr)) (fun i _ => n - (intOf i).toNat)
  case atStart =>
    refine ⟨0, Nat.zero_le _, rfl, Z.hide ⟨E, .slice o2_ E.L.pw.length c2_, .slice o5_ E.R.pw.length c5_, rfl, K.block_set8 hb6_7, ?_, ?_⟩, Z.hide ?_, Z.hide ?_⟩
    · refine K.ints.mono (lo := l2) (hi := r2) ?_ (by omega) (by simp; omega)
      iterate 8 with_reducible refine K.ints.set ?_ _ (by dsimp only; exact n2) _
      exact G2
    · refine K.ints.mono (lo := l5) (hi := r5) ?_ (by omega) (by simp; omega)
      iterate 8 with_reducible refine K.ints.set ?_ _ (by dsimp only; exact n5) _
      exact G5
    · iterate 8 with_reducible refine Eq.trans (K.set_block (by dsimp only; omega)) ?_
      exact D4.out
    · iterate 8 with_reducible refine K.Ext.setCell ?_ (by dsimp only; omega) _
      exact HX3.out
  case round =>
    obtain ⟨k, hk, rfl, HS, HB, HX⟩ := hrel
    clear G2 G5 HX3 D4
    obtain ⟨A, p, q, hr, hbl, hp, hq⟩ := HS.out
    clear HS
    obtain ⟨o, c, rfl, _⟩ := K.ints.mono hp (Nat.le_refl _) (Nat.le_refl _)
    obtain ⟨o', c', rfl, _⟩ := K.ints.mono hq (Nat.le_refl _) (Nat.le_refl _)
    have HP := Z.hide hp
    have HQ := Z.hide hq
    have HR := Z.hide hr
    have HBL := Z.hide hbl
    have lwg : g6_7 < wr.heap.size := (Array.getElem?_eq_some_iff.1 hbl).1
    clear hp hq hr hbl
    have k0 : (0 : Int) ≤ (k : Int) := Int.natCast_nonneg k
    by_cases hlt : k < n
    · have k1 : (k : Int) < (n : Int) := by omega
      have hkx : k < xs.length := by rw [← HN.out]; exact hlt
      obtain ⟨b, off, rfl, _, _, hc, _⟩ := K.recs_at HXS.out (by omega)
      have hc0 : wr.cell? ⟨b, off + k * 3, none⟩ = some (.int .i64 (xs[k]'hkx).kd) := HX.out.cell_of (hc k hkx 0 (by decide))
      have hc1 : wr.cell? ⟨b, off + k * 3 + 1, none⟩ = some (.int .u8 (xs[k]'hkx).nm) := HX.out.cell_of (hc k hkx 1 (by decide))
      have hc2 : wr.cell? ⟨b, off + k * 3 + 2, none⟩ = some (.int .i64 (xs[k]'hkx).pw) := HX.out.cell_of (hc k hkx 2 (by decide))
      have hstep := HVS.out _ (List.getElem_mem hkx)
      obtain ⟨s, hs⟩ : ∃ s, s = xs[k]'hkx := ⟨_, rfl⟩
      have HG : Hid (xs.getD k Z.zeroSt = s) := Z.hide (by rw [hs]; exact Z.getD_at xs k _ hkx)
      rw [← hs] at hc0 hc1 hc2 hstep
      have le := Z.isEquation_le (HOK.out k A HR.out)
      obtain ⟨M, hM⟩ : ∃ M, M = Z.stepEq A s := ⟨_, rfl⟩
      have HM := Z.hide hM
      have HNZ : Hid ((∀ x ∈ M.1.L.pw, x ≠ 0) ∧ ∀ x ∈ M.1.R.pw, x ≠ 0) := Z.hide (by rw [hM]; exact Z.stepEq_nz A s)
      have HCall : Hid (∀ {a b c d : Nat} {p q : Value} (B : Nat) (w : World), B ≤ w.heap.size → K.ints w a b p A.L.pw → K.ints w c d q A.R.pw → Calls Try.prog 151 #[.agg #[.int .i64 A.L.dg, .int .i64 A.L.tn, .string A.L.nm, p, .int .i64 A.R.dg, .int .i64 A.R.tn, .string A.R.nm, q], .agg #[.int .i64 s.kd, .int .u8 s.nm, .int .i64 s.pw]] w fun e w' => ∃ v, e = .returned v ∧ K.Ext w w' ∧ (K.SP.eqB B M.1 (M.2 == 0)).p v w') := Z.hide (fun B w hB h h' => by
        rw [hM]; exact (l21Apply_any A s w hstep le.1 le.2.1 le.2.2.1 le.2.2.2 h h').mono fun e w' ⟨⟨p', q', he, g1, g2⟩, hw⟩ => ⟨_, he, hw, p', q', w'.heap.size, rfl, Nat.le_trans hB hw.size, Nat.le_refl _, g1.mono hB (Nat.le_refl _), g2.mono hB (Nat.le_refl _)⟩)
      have lbw : b < wr.heap.size := World.block_lt_of_cell? wr _ hc0
      have b1_c0 : wr.cell? ⟨g6_7, 0, none⟩ = some (.int .i64 (A.L.dg)) := K.cell_at HBL.out rfl; have b1_f0 : wr.frozen? ⟨g6_7, 0, none⟩ = false := K.thaw_at HBL.out; have b1_c1 : wr.cell? ⟨g6_7, 1, none⟩ = some (.int .i64 (A.L.tn)) := K.cell_at HBL.out rfl; have b1_f1 : wr.frozen? ⟨g6_7, 1, none⟩ = false := K.thaw_at HBL.out; have b1_c2 : wr.cell? ⟨g6_7, 2, none⟩ = some (.string A.L.nm) := K.cell_at HBL.out rfl; have b1_f2 : wr.frozen? ⟨g6_7, 2, none⟩ = false := K.thaw_at HBL.out; have b1_c3 : wr.cell? ⟨g6_7, 3, none⟩ = some (.slice o A.L.pw.length c) := K.cell_at HBL.out rfl; have b1_f3 : wr.frozen? ⟨g6_7, 3, none⟩ = false := K.thaw_at HBL.out; have b1_c4 : wr.cell? ⟨g6_7, 4, none⟩ = some (.int .i64 (A.R.dg)) := K.cell_at HBL.out rfl; have b1_f4 : wr.frozen? ⟨g6_7, 4, none⟩ = false := K.thaw_at HBL.out; have b1_c5 : wr.cell? ⟨g6_7, 5, none⟩ = some (.int .i64 (A.R.tn)) := K.cell_at HBL.out rfl; have b1_f5 : wr.frozen? ⟨g6_7, 5, none⟩ = false := K.thaw_at HBL.out; have b1_c6 : wr.cell? ⟨g6_7, 6, none⟩ = some (.string A.R.nm) := K.cell_at HBL.out rfl; have b1_f6 : wr.frozen? ⟨g6_7, 6, none⟩ = false := K.thaw_at HBL.out; have b1_c7 : wr.cell? ⟨g6_7, 7, none⟩ = some (.slice o' A.R.pw.length c') := K.cell_at HBL.out rfl; have b1_f7 : wr.frozen? ⟨g6_7, 7, none⟩ = false := K.thaw_at HBL.out
      clear hc hs hM hstep le
      obtain ⟨d, nm, t⟩ := s
      dsimp only at hc0 hc1 hc2 HCall
      by_cases hz : M.2 = 0
      · have hz' : (M.2 == 0) = true := by simp [hz]
        rw [hz'] at HCall
        have HRk : Hid (Z.runK E xs (k + 1) = some M.1) := Z.hide (by have h_ := Z.runK_step HR.out (by rw [HG.out, ← HM.out]; exact hz); rwa [HG.out, ← HM.out] at h_)
        clear hz hz'
        go_wp2_with fail
        refine K.wp_region_x 10 [1, 0, 0, 0, 1, 2, 0, 0, 0, 2] [K.SP.any, K.SP.any, K.SP.any, K.SP.any, K.SP.any, (K.SP.eqB wr.heap.size M.1 true), K.SP.any, K.SP.any, K.SP.any, K.SP.new (wr.heap.size) (.cells #[.int .i64 0, .int .i64 0, .string ⟨#[]⟩, .slice none 0 0, .int .i64 0, .int .i64 0, .string ⟨#[]⟩, .slice none 0 0] 57)] (by kernel_rfl) (by kernel_rfl) ?_
        simp only [List.take_succ_cons, List.take_zero, List.drop_succ_cons, List.drop_zero]
        apply K.x_held
        · rfl
        · rfl
        · intro w' hx; have hc := hx.all.1.1; have hf := hx.all.1.2; have hc' := hx.all.2.1; have hf' := hx.all.2.2; go_simp; first | done | rfl | exact ⟨rfl, rfl⟩
        simp only [Act.put, List.setIfInBounds_toArray, List.set]
        iterate 3
          apply K.x_pure
          · rfl
          · rfl
          · intro w'; go_simp; first | done | exact K.vint (IntWalk.i64_in _ (by omega)) | rfl | exact ⟨rfl, rfl⟩
          simp only [Act.put, List.setIfInBounds_toArray, List.set]
        apply K.x_held
        · rfl
        · rfl
        · intro w' hx; have hc := hx.all.1.1; have hf := hx.all.1.2; have hc' := hx.all.2.1; have hf' := hx.all.2.2; go_simp; first | done | rfl | exact ⟨rfl, rfl⟩
        simp only [Act.put, List.setIfInBounds_toArray, List.set]
        apply K.x_call
        · rfl
        · rfl
        · intro w'; go_simp; first | done | rfl | exact ⟨rfl, rfl⟩
        · intro w' hx hp; have hc := hx.all.1.1; have hf := hx.all.1.2; have hc' := hx.all.2.1; have hf' := hx.all.2.2; exact HCall.out _ _ (by have h_ := hx.size; simp at h_; omega) (K.ints.ext HP.out.drew hx) (K.ints.ext HQ.out.drew hx)
        intro v5 w_5_ hx_5_ hv5
        obtain ⟨p5_, q5_, hi5_, rfl, hb5_, hh5_, hp5_, hq5_⟩ := hv5; obtain ⟨o5_, c5_, rfl, _⟩ := K.ints.mono hp5_ (Nat.le_refl _) (Nat.le_refl _); obtain ⟨o6_, c6_, rfl, _⟩ := K.ints.mono hq5_ (Nat.le_refl _) (Nat.le_refl _)
        simp only [Act.put, List.setIfInBounds_toArray, List.set]
        iterate 3
          apply K.x_pure
          · rfl
          · rfl
          · intro w'; go_simp; first | done | exact K.vint (IntWalk.i64_in _ (by omega)) | rfl | exact ⟨rfl, rfl⟩
          simp only [Act.put, List.setIfInBounds_toArray, List.set]
        apply K.x_new
        · rfl
        · rfl
        · rfl
        · go_simp; first | done | omega
        · intro w'; go_simp; first | done | rfl | exact ⟨rfl, rfl⟩
        intro g10_9 w_9_ hx_9_ hg10_9 hb_9_
        simp only [Act.put, List.setIfInBounds_toArray, List.set]
        apply K.x_done
        intro w6 h_x
        have hx6 := hx_5_.trans (hx_9_.trans h_x)
        have hb10_9 := K.Ext.block (h_x) hb_9_
        have cg10_9_0 : w6.cell? ⟨g10_9, 0, none⟩ = some (.int .i64 0) := K.cell_at hb10_9 rfl
        have fg10_9_0 : w6.frozen? ⟨g10_9, 0, none⟩ = false := K.thaw_at hb10_9
        have cg10_9_1 : w6.cell? ⟨g10_9, 1, none⟩ = some (.int .i64 0) := K.cell_at hb10_9 rfl
        have fg10_9_1 : w6.frozen? ⟨g10_9, 1, none⟩ = false := K.thaw_at hb10_9
        have cg10_9_2 : w6.cell? ⟨g10_9, 2, none⟩ = some (.string ⟨#[]⟩) := K.cell_at hb10_9 rfl
        have fg10_9_2 : w6.frozen? ⟨g10_9, 2, none⟩ = false := K.thaw_at hb10_9
        have cg10_9_3 : w6.cell? ⟨g10_9, 3, none⟩ = some (.slice none 0 0) := K.cell_at hb10_9 rfl
        have fg10_9_3 : w6.frozen? ⟨g10_9, 3, none⟩ = false := K.thaw_at hb10_9
        have cg10_9_4 : w6.cell? ⟨g10_9, 4, none⟩ = some (.int .i64 0) := K.cell_at hb10_9 rfl
        have fg10_9_4 : w6.frozen? ⟨g10_9, 4, none⟩ = false := K.thaw_at hb10_9
        have cg10_9_5 : w6.cell? ⟨g10_9, 5, none⟩ = some (.int .i64 0) := K.cell_at hb10_9 rfl
        have fg10_9_5 : w6.frozen? ⟨g10_9, 5, none⟩ = false := K.thaw_at hb10_9
        have cg10_9_6 : w6.cell? ⟨g10_9, 6, none⟩ = some (.string ⟨#[]⟩) := K.cell_at hb10_9 rfl
        have fg10_9_6 : w6.frozen? ⟨g10_9, 6, none⟩ = false := K.thaw_at hb10_9
        have cg10_9_7 : w6.cell? ⟨g10_9, 7, none⟩ = some (.slice none 0 0) := K.cell_at hb10_9 rfl
        have fg10_9_7 : w6.frozen? ⟨g10_9, 7, none⟩ = false := K.thaw_at hb10_9
        have hxe5 := K.Ext.id (hx_9_.trans h_x)
        clear h_x hx_5_ hx_9_
        obtain ⟨⟨hcw6, hfw6⟩, hc'w6, hf'w6⟩ := hx6.all
        obtain ⟨l5, r5, n5, m5, M5, G5⟩ := K.ints_off2 hb5_ hb10_9 K.zero_eqn HNZ.out.1 (hp5_.ext hxe5)
        obtain ⟨l6, r6, n6, m6, M6, G6⟩ := K.ints_off2 hb5_ hb10_9 K.zero_eqn HNZ.out.2 (hq5_.ext hxe5)
        have s5_ := hxe5.size
        have D0 := Z.hide (K.Ext.block_of (K.Ext.block_of HBL.out (K.Ext.refl _).drew) hx6)
        have D1 := Z.hide (K.Ext.block_of (K.Ext.block_of HB.out (K.Ext.refl _).drew) hx6)
        have HX6 := Z.hide (K.Ext.trans HX.out.drew hx6)
        have gne : ¬ (g6_7 = g10_9) := by omega
        have gne' : ¬ (g10_9 = g6_7) := by omega
        have b2_c0 : w6.cell? ⟨g6_7, 0, none⟩ = some (.int .i64 (A.L.dg)) := K.cell_at D0.out rfl; have b2_f0 : w6.frozen? ⟨g6_7, 0, none⟩ = false := K.thaw_at D0.out; have b2_c1 : w6.cell? ⟨g6_7, 1, none⟩ = some (.int .i64 (A.L.tn)) := K.cell_at D0.out rfl; have b2_f1 : w6.frozen? ⟨g6_7, 1, none⟩ = false := K.thaw_at D0.out; have b2_c2 : w6.cell? ⟨g6_7, 2, none⟩ = some (.string A.L.nm) := K.cell_at D0.out rfl; have b2_f2 : w6.frozen? ⟨g6_7, 2, none⟩ = false := K.thaw_at D0.out; have b2_c3 : w6.cell? ⟨g6_7, 3, none⟩ = some (.slice o A.L.pw.length c) := K.cell_at D0.out rfl; have b2_f3 : w6.frozen? ⟨g6_7, 3, none⟩ = false := K.thaw_at D0.out; have b2_c4 : w6.cell? ⟨g6_7, 4, none⟩ = some (.int .i64 (A.R.dg)) := K.cell_at D0.out rfl; have b2_f4 : w6.frozen? ⟨g6_7, 4, none⟩ = false := K.thaw_at D0.out; have b2_c5 : w6.cell? ⟨g6_7, 5, none⟩ = some (.int .i64 (A.R.tn)) := K.cell_at D0.out rfl; have b2_f5 : w6.frozen? ⟨g6_7, 5, none⟩ = false := K.thaw_at D0.out; have b2_c6 : w6.cell? ⟨g6_7, 6, none⟩ = some (.string A.R.nm) := K.cell_at D0.out rfl; have b2_f6 : w6.frozen? ⟨g6_7, 6, none⟩ = false := K.thaw_at D0.out; have b2_c7 : w6.cell? ⟨g6_7, 7, none⟩ = some (.slice o' A.R.pw.length c') := K.cell_at D0.out rfl; have b2_f7 : w6.frozen? ⟨g6_7, 7, none⟩ = false := K.thaw_at D0.out
        go_wp2_with fail
        refine NoPanic.normal ?_
        go_wp2
        go_roundw
        case rel =>
          refine ⟨k + 1, by omega, by go_num, Z.hide ⟨M.1, .slice o5_ M.1.L.pw.length c5_, .slice o6_ M.1.R.pw.length c6_, HRk.out, K.block_set8 (T := 57) (a0 := .int .i64 A.L.dg) (a1 := .int .i64 A.L.tn) (a2 := .string A.L.nm) (a3 := .slice o A.L.pw.length c) (a4 := .int .i64 A.R.dg) (a5 := .int .i64 A.R.tn) (a6 := .string A.R.nm) (a7 := .slice o' A.R.pw.length c') ?_, ?_, ?_⟩, Z.hide ?_, Z.hide ?_⟩
          · iterate 8 with_reducible refine Eq.trans (K.set_block (by dsimp only; omega)) ?_
            exact D0.out
          · refine K.ints.mono (lo := l5) (hi := r5) ?_ (by omega) (by simp; omega)
            iterate 8 with_reducible refine K.ints.set ?_ _ (.inl (by dsimp only; omega)) _
            iterate 8 with_reducible refine K.ints.set ?_ _ (by dsimp only; exact n5) _
            exact G5
          · refine K.ints.mono (lo := l6) (hi := r6) ?_ (by omega) (by simp; omega)
            iterate 8 with_reducible refine K.ints.set ?_ _ (.inl (by dsimp only; omega)) _
            iterate 8 with_reducible refine K.ints.set ?_ _ (by dsimp only; exact n6) _
            exact G6
          · iterate 16 with_reducible refine Eq.trans (K.set_block (by dsimp only; omega)) ?_
            exact D1.out
          · iterate 16 with_reducible refine K.Ext.setCell ?_ (by dsimp only; omega) _
            exact HX6.out
        case measure => simp [intOf]; omega
      · have hz' : (M.2 == 0) = false := by simp [hz]
        rw [hz'] at HCall
        have HE : Hid (Z.RunSteps E xs = (Z.zeroEqn, 5)) := Z.hide (HNO.out (Z.runK_fail hkx HR.out (by rw [HG.out, ← HM.out]; exact hz)))
        clear hz hz'
        go_wp2_with fail
        refine K.wp_region_x 10 [1, 0, 0, 0, 1, 2, 0, 0, 0, 2] [K.SP.any, K.SP.any, K.SP.any, K.SP.any, K.SP.any, (K.SP.eqB wr.heap.size M.1 false), K.SP.any, K.SP.any, K.SP.any, K.SP.new (wr.heap.size) (.cells #[.int .i64 0, .int .i64 0, .string ⟨#[]⟩, .slice none 0 0, .int .i64 0, .int .i64 0, .string ⟨#[]⟩, .slice none 0 0] 57)] (by kernel_rfl) (by kernel_rfl) ?_
        simp only [List.take_succ_cons, List.take_zero, List.drop_succ_cons, List.drop_zero]
        apply K.x_held
        · rfl
        · rfl
        · intro w' hx; have hc := hx.all.1.1; have hf := hx.all.1.2; have hc' := hx.all.2.1; have hf' := hx.all.2.2; go_simp; first | done | rfl | exact ⟨rfl, rfl⟩
        simp only [Act.put, List.setIfInBounds_toArray, List.set]
        iterate 3
          apply K.x_pure
          · rfl
          · rfl
          · intro w'; go_simp; first | done | exact K.vint (IntWalk.i64_in _ (by omega)) | rfl | exact ⟨rfl, rfl⟩
          simp only [Act.put, List.setIfInBounds_toArray, List.set]
        apply K.x_held
        · rfl
        · rfl
        · intro w' hx; have hc := hx.all.1.1; have hf := hx.all.1.2; have hc' := hx.all.2.1; have hf' := hx.all.2.2; go_simp; first | done | rfl | exact ⟨rfl, rfl⟩
        simp only [Act.put, List.setIfInBounds_toArray, List.set]
        apply K.x_call
        · rfl
        · rfl
        · intro w'; go_simp; first | done | rfl | exact ⟨rfl, rfl⟩
        · intro w' hx hp; have hc := hx.all.1.1; have hf := hx.all.1.2; have hc' := hx.all.2.1; have hf' := hx.all.2.2; exact HCall.out _ _ (by have h_ := hx.size; simp at h_; omega) (K.ints.ext HP.out.drew hx) (K.ints.ext HQ.out.drew hx)
        intro v5 w_5_ hx_5_ hv5
        obtain ⟨p5_, q5_, hi5_, rfl, hb5_, hh5_, hp5_, hq5_⟩ := hv5; obtain ⟨o5_, c5_, rfl, _⟩ := K.ints.mono hp5_ (Nat.le_refl _) (Nat.le_refl _); obtain ⟨o6_, c6_, rfl, _⟩ := K.ints.mono hq5_ (Nat.le_refl _) (Nat.le_refl _)
        simp only [Act.put, List.setIfInBounds_toArray, List.set]
        iterate 3
          apply K.x_pure
          · rfl
          · rfl
          · intro w'; go_simp; first | done | exact K.vint (IntWalk.i64_in _ (by omega)) | rfl | exact ⟨rfl, rfl⟩
          simp only [Act.put, List.setIfInBounds_toArray, List.set]
        apply K.x_new
        · rfl
        · rfl
        · rfl
        · go_simp; first | done | omega
        · intro w'; go_simp; first | done | rfl | exact ⟨rfl, rfl⟩
        intro g10_9 w_9_ hx_9_ hg10_9 hb_9_
        simp only [Act.put, List.setIfInBounds_toArray, List.set]
        apply K.x_done
        intro w6 h_x
        have hx6 := hx_5_.trans (hx_9_.trans h_x)
        have hb10_9 := K.Ext.block (h_x) hb_9_
        have cg10_9_0 : w6.cell? ⟨g10_9, 0, none⟩ = some (.int .i64 0) := K.cell_at hb10_9 rfl
        have fg10_9_0 : w6.frozen? ⟨g10_9, 0, none⟩ = false := K.thaw_at hb10_9
        have cg10_9_1 : w6.cell? ⟨g10_9, 1, none⟩ = some (.int .i64 0) := K.cell_at hb10_9 rfl
        have fg10_9_1 : w6.frozen? ⟨g10_9, 1, none⟩ = false := K.thaw_at hb10_9
        have cg10_9_2 : w6.cell? ⟨g10_9, 2, none⟩ = some (.string ⟨#[]⟩) := K.cell_at hb10_9 rfl
        have fg10_9_2 : w6.frozen? ⟨g10_9, 2, none⟩ = false := K.thaw_at hb10_9
        have cg10_9_3 : w6.cell? ⟨g10_9, 3, none⟩ = some (.slice none 0 0) := K.cell_at hb10_9 rfl
        have fg10_9_3 : w6.frozen? ⟨g10_9, 3, none⟩ = false := K.thaw_at hb10_9
        have cg10_9_4 : w6.cell? ⟨g10_9, 4, none⟩ = some (.int .i64 0) := K.cell_at hb10_9 rfl
        have fg10_9_4 : w6.frozen? ⟨g10_9, 4, none⟩ = false := K.thaw_at hb10_9
        have cg10_9_5 : w6.cell? ⟨g10_9, 5, none⟩ = some (.int .i64 0) := K.cell_at hb10_9 rfl
        have fg10_9_5 : w6.frozen? ⟨g10_9, 5, none⟩ = false := K.thaw_at hb10_9
        have cg10_9_6 : w6.cell? ⟨g10_9, 6, none⟩ = some (.string ⟨#[]⟩) := K.cell_at hb10_9 rfl
        have fg10_9_6 : w6.frozen? ⟨g10_9, 6, none⟩ = false := K.thaw_at hb10_9
        have cg10_9_7 : w6.cell? ⟨g10_9, 7, none⟩ = some (.slice none 0 0) := K.cell_at hb10_9 rfl
        have fg10_9_7 : w6.frozen? ⟨g10_9, 7, none⟩ = false := K.thaw_at hb10_9
        have hxe5 := K.Ext.id (hx_9_.trans h_x)
        clear h_x hx_5_ hx_9_
        obtain ⟨⟨hcw6, hfw6⟩, hc'w6, hf'w6⟩ := hx6.all
        have D1 := Z.hide (K.Ext.block_of (K.Ext.block_of HB.out (K.Ext.refl _).drew) hx6)
        have HX6 := Z.hide (K.Ext.trans HX.out.drew hx6)
        have gne : ¬ (w.heap.size + 1 = g10_9) := by omega
        have gne' : ¬ (g10_9 = w.heap.size + 1) := by omega
        have b3_c0 : w6.cell? ⟨w.heap.size + 1, 0, none⟩ = some (.int .i64 (0)) := K.cell_at D1.out rfl; have b3_f0 : w6.frozen? ⟨w.heap.size + 1, 0, none⟩ = false := K.thaw_at D1.out; have b3_c1 : w6.cell? ⟨w.heap.size + 1, 1, none⟩ = some (.int .i64 (0)) := K.cell_at D1.out rfl; have b3_f1 : w6.frozen? ⟨w.heap.size + 1, 1, none⟩ = false := K.thaw_at D1.out; have b3_c2 : w6.cell? ⟨w.heap.size + 1, 2, none⟩ = some (.string ⟨#[]⟩) := K.cell_at D1.out rfl; have b3_f2 : w6.frozen? ⟨w.heap.size + 1, 2, none⟩ = false := K.thaw_at D1.out; have b3_c3 : w6.cell? ⟨w.heap.size + 1, 3, none⟩ = some (.slice none 0 0) := K.cell_at D1.out rfl; have b3_f3 : w6.frozen? ⟨w.heap.size + 1, 3, none⟩ = false := K.thaw_at D1.out; have b3_c4 : w6.cell? ⟨w.heap.size + 1, 4, none⟩ = some (.int .i64 (0)) := K.cell_at D1.out rfl; have b3_f4 : w6.frozen? ⟨w.heap.size + 1, 4, none⟩ = false := K.thaw_at D1.out; have b3_c5 : w6.cell? ⟨w.heap.size + 1, 5, none⟩ = some (.int .i64 (0)) := K.cell_at D1.out rfl; have b3_f5 : w6.frozen? ⟨w.heap.size + 1, 5, none⟩ = false := K.thaw_at D1.out; have b3_c6 : w6.cell? ⟨w.heap.size + 1, 6, none⟩ = some (.string ⟨#[]⟩) := K.cell_at D1.out rfl; have b3_f6 : w6.frozen? ⟨w.heap.size + 1, 6, none⟩ = false := K.thaw_at D1.out; have b3_c7 : w6.cell? ⟨w.heap.size + 1, 7, none⟩ = some (.slice none 0 0) := K.cell_at D1.out rfl; have b3_f7 : w6.frozen? ⟨w.heap.size + 1, 7, none⟩ = false := K.thaw_at D1.out
        go_wp2_with fail
        refine NoPanic.normal ?_
        go_wp2
        rw [HE.out]
        refine bodyPost_ret (v := .tuple #[.agg #[.int .i64 0, .int .i64 0, .string ⟨#[]⟩, .slice none 0 0, .int .i64 0, .int .i64 0, .string ⟨#[]⟩, .slice none 0 0], .int .i64 5]) (by unfold results; rw [Try.results73]; go_simp) rfl ⟨⟨_, _, rfl, K.ints_nil _ _ _, K.ints_nil _ _ _⟩, ?_⟩
        iterate 16 with_reducible refine K.Ext.setCell ?_ (by dsimp only; omega) _
        exact HX6.out
    · obtain rfl : k = n := by omega
      have HE : Hid (Z.RunSteps E xs = (A, 0)) := Z.hide (HSM.out A (by rw [← HN.out]; exact HR.out))
      have n3 : ¬ (w.heap.size + 1 = g6_7) := by omega
      have n4 : ¬ (g6_7 = w.heap.size + 1) := by omega
      have b4_c0 : wr.cell? ⟨g6_7, 0, none⟩ = some (.int .i64 (A.L.dg)) := K.cell_at HBL.out rfl; have b4_f0 : wr.frozen? ⟨g6_7, 0, none⟩ = false := K.thaw_at HBL.out; have b4_c1 : wr.cell? ⟨g6_7, 1, none⟩ = some (.int .i64 (A.L.tn)) := K.cell_at HBL.out rfl; have b4_f1 : wr.frozen? ⟨g6_7, 1, none⟩ = false := K.thaw_at HBL.out; have b4_c2 : wr.cell? ⟨g6_7, 2, none⟩ = some (.string A.L.nm) := K.cell_at HBL.out rfl; have b4_f2 : wr.frozen? ⟨g6_7, 2, none⟩ = false := K.thaw_at HBL.out; have b4_c3 : wr.cell? ⟨g6_7, 3, none⟩ = some (.slice o A.L.pw.length c) := K.cell_at HBL.out rfl; have b4_f3 : wr.frozen? ⟨g6_7, 3, none⟩ = false := K.thaw_at HBL.out; have b4_c4 : wr.cell? ⟨g6_7, 4, none⟩ = some (.int .i64 (A.R.dg)) := K.cell_at HBL.out rfl; have b4_f4 : wr.frozen? ⟨g6_7, 4, none⟩ = false := K.thaw_at HBL.out; have b4_c5 : wr.cell? ⟨g6_7, 5, none⟩ = some (.int .i64 (A.R.tn)) := K.cell_at HBL.out rfl; have b4_f5 : wr.frozen? ⟨g6_7, 5, none⟩ = false := K.thaw_at HBL.out; have b4_c6 : wr.cell? ⟨g6_7, 6, none⟩ = some (.string A.R.nm) := K.cell_at HBL.out rfl; have b4_f6 : wr.frozen? ⟨g6_7, 6, none⟩ = false := K.thaw_at HBL.out; have b4_c7 : wr.cell? ⟨g6_7, 7, none⟩ = some (.slice o' A.R.pw.length c') := K.cell_at HBL.out rfl; have b4_f7 : wr.frozen? ⟨g6_7, 7, none⟩ = false := K.thaw_at HBL.out
      have b5_c0 : wr.cell? ⟨w.heap.size + 1, 0, none⟩ = some (.int .i64 (0)) := K.cell_at HB.out rfl; have b5_f0 : wr.frozen? ⟨w.heap.size + 1, 0, none⟩ = false := K.thaw_at HB.out; have b5_c1 : wr.cell? ⟨w.heap.size + 1, 1, none⟩ = some (.int .i64 (0)) := K.cell_at HB.out rfl; have b5_f1 : wr.frozen? ⟨w.heap.size + 1, 1, none⟩ = false := K.thaw_at HB.out; have b5_c2 : wr.cell? ⟨w.heap.size + 1, 2, none⟩ = some (.string ⟨#[]⟩) := K.cell_at HB.out rfl; have b5_f2 : wr.frozen? ⟨w.heap.size + 1, 2, none⟩ = false := K.thaw_at HB.out; have b5_c3 : wr.cell? ⟨w.heap.size + 1, 3, none⟩ = some (.slice none 0 0) := K.cell_at HB.out rfl; have b5_f3 : wr.frozen? ⟨w.heap.size + 1, 3, none⟩ = false := K.thaw_at HB.out; have b5_c4 : wr.cell? ⟨w.heap.size + 1, 4, none⟩ = some (.int .i64 (0)) := K.cell_at HB.out rfl; have b5_f4 : wr.frozen? ⟨w.heap.size + 1, 4, none⟩ = false := K.thaw_at HB.out; have b5_c5 : wr.cell? ⟨w.heap.size + 1, 5, none⟩ = some (.int .i64 (0)) := K.cell_at HB.out rfl; have b5_f5 : wr.frozen? ⟨w.heap.size + 1, 5, none⟩ = false := K.thaw_at HB.out; have b5_c6 : wr.cell? ⟨w.heap.size + 1, 6, none⟩ = some (.string ⟨#[]⟩) := K.cell_at HB.out rfl; have b5_f6 : wr.frozen? ⟨w.heap.size + 1, 6, none⟩ = false := K.thaw_at HB.out; have b5_c7 : wr.cell? ⟨w.heap.size + 1, 7, none⟩ = some (.slice none 0 0) := K.cell_at HB.out rfl; have b5_f7 : wr.frozen? ⟨w.heap.size + 1, 7, none⟩ = false := K.thaw_at HB.out
      go_wp2
      rw [HE.out]
      refine bodyPost_ret (v := .tuple #[.agg #[.int .i64 A.L.dg, .int .i64 A.L.tn, .string A.L.nm, .slice o A.L.pw.length c, .int .i64 A.R.dg, .int .i64 A.R.tn, .string A.R.nm, .slice o' A.R.pw.length c'], .int .i64 0]) (by unfold results; rw [Try.results73]; go_simp) rfl ⟨⟨_, _, rfl, ?_, ?_⟩, ?_⟩
      · refine K.ints.mono (lo := w.heap.size + 2) (hi := wr.heap.size) ?_ (by omega) (by simp)
        iterate 8 with_reducible refine K.ints.set ?_ _ (.inl (by dsimp only; omega)) _
        exact HP.out
      · refine K.ints.mono (lo := w.heap.size + 2) (hi := wr.heap.size) ?_ (by omega) (by simp)
        iterate 8 with_reducible refine K.ints.set ?_ _ (.inl (by dsimp only; omega)) _
        exact HQ.out
      · iterate 8 with_reducible refine K.Ext.setCell ?_ (by dsimp only; omega) _
        exact HX.out
end Go.Proofs.Ythmnlbgbacbocaa
end
section
namespace Go.K
open Go.RowKit
theorem Far.below2 {lo hi B : Nat} {W w w' : World} (h : Far lo hi W w) (hb : Below B w w') (hB : W.heap.size ≤ B) : Far lo hi W w' :=
  ⟨hb.os.trans h.os, hb.tape.trans h.tape, hb.output.trans h.output, Nat.le_trans h.size hb.size, fun k hk ho => (hb.block k (Nat.lt_of_lt_of_le hk hB)).trans (h.block k hk ho)⟩
theorem below_new2 {B : Nat} {w w' : World} {o : Obj} {b : Option Nat} (hg : (w.alloc o).grownBy w' b) (hB : B ≤ w.heap.size) (hr : ∀ g, b = some g → B ≤ g) : Below B w w' :=
  (((Ext.refl w).alloc o).below.mono hB).grown hg (by simp; omega) hr
end Go.K
namespace Go.Z
theorem zeroEqn_nm : zeroEqn.L.nm.size ≤ 1048576 ∧ zeroEqn.R.nm.size ≤ 1048576 := ⟨zeroFm_le.2, zeroFm_le.2⟩
theorem RunSteps_nm (E : Eqn) (l : List St) : (RunSteps E l).1.L.nm.size ≤ 1048576 ∧ (RunSteps E l).1.R.nm.size ≤ 1048576 := by
  unfold RunSteps; split
  · rename_i hE
    split
    · cases hr : runK E l l.length with
      | none => exact zeroEqn_nm
      | some A => have := isEquation_le (runK_ok hE _ hr); exact ⟨this.2.1, this.2.2.2⟩
    · exact zeroEqn_nm
  · exact zeroEqn_nm
end Go.Z
namespace Go.Proofs.Ythmnlbgbacbocaa
open Go.RowKit
set_option maxRecDepth 100000 in
set_option maxHeartbeats 12800000 in
theorem l21DrawStep_any (g : Nat) (w : World) (h : K.Src 164 w g) :
    Calls Try.prog 152 #[.pointer (some ⟨g, 0, none⟩)] w fun e w' => (∃ s : Z.St, e = .returned (.agg #[.int .i64 s.kd, .int .u8 s.nm, .int .i64 s.pw]) ∧ 0 ≤ s.nm ∧ s.nm ≤ 255) ∧ K.Src 164 w' g ∧ K.Far g (g + 1) w w' := by
  have lg := h.lt
  have F0 : K.Far g (g + 1) w w := K.Far.refl _ _ _
  go_enter Try.func152, Try.ntmps152
  go_wp2_with fail
  refine K.call (by with_reducible rfl) (by with_reducible rfl) (l01Next_any g (4) _ (K.bsr h)) ?_
  rintro e w1 ⟨⟨n, rfl, n0, n1, n2⟩, s1, f1⟩
  have z1 := f1.size
  (try simp at z1)
  have F1 : K.Far g (g + 1) w w1 := K.Far.trans (K.bfa F0) f1
  have c1_0_0 : w1.cell? ⟨w.heap.size, 0, none⟩ = some (.int .i64 0) := f1.cell_of (by go_simp) (by (try dsimp only); omega)
  have d1_0_0 : w1.frozen? ⟨w.heap.size, 0, none⟩ = false := f1.thaw_of (by go_simp) (by go_simp) (by (try dsimp only); omega)
  have c1_0_1 : w1.cell? ⟨w.heap.size, 1, none⟩ = some (.int .u8 0) := f1.cell_of (by go_simp) (by (try dsimp only); omega)
  have d1_0_1 : w1.frozen? ⟨w.heap.size, 1, none⟩ = false := f1.thaw_of (by go_simp) (by go_simp) (by (try dsimp only); omega)
  have c1_0_2 : w1.cell? ⟨w.heap.size, 2, none⟩ = some (.int .i64 0) := f1.cell_of (by go_simp) (by (try dsimp only); omega)
  have d1_0_2 : w1.frozen? ⟨w.heap.size, 2, none⟩ = false := f1.thaw_of (by go_simp) (by go_simp) (by (try dsimp only); omega)
  have y1_0 : w.heap.size < w1.heap.size := World.block_lt_of_cell? w1 _ c1_0_0
  have c1_1_0 : w1.cell? ⟨w.heap.size + 1, 0, none⟩ = some (.int .i64 0) := f1.cell_of (by go_simp) (by (try dsimp only); omega)
  have d1_1_0 : w1.frozen? ⟨w.heap.size + 1, 0, none⟩ = false := f1.thaw_of (by go_simp) (by go_simp) (by (try dsimp only); omega)
  have c1_1_1 : w1.cell? ⟨w.heap.size + 1, 1, none⟩ = some (.int .u8 0) := f1.cell_of (by go_simp) (by (try dsimp only); omega)
  have d1_1_1 : w1.frozen? ⟨w.heap.size + 1, 1, none⟩ = false := f1.thaw_of (by go_simp) (by go_simp) (by (try dsimp only); omega)
  have c1_1_2 : w1.cell? ⟨w.heap.size + 1, 2, none⟩ = some (.int .i64 0) := f1.cell_of (by go_simp) (by (try dsimp only); omega)
  have d1_1_2 : w1.frozen? ⟨w.heap.size + 1, 2, none⟩ = false := f1.thaw_of (by go_simp) (by go_simp) (by (try dsimp only); omega)
  have y1_1 : w.heap.size + 1 < w1.heap.size := World.block_lt_of_cell? w1 _ c1_1_0
  by_cases n0_ : n = 0
  · subst n0_
    have LIT : K.ints (w1.alloc (.cells #[.int .i64 (1), .int .i64 (-1), .int .i64 (2), .int .i64 (-2)] 2)) w1.heap.size (w1.heap.size + 1) (.slice (some ⟨w1.heap.size, 0, none⟩) 4 4) [1, -1, 2, -2] := K.ints_lit (W := w1) (T := 2) (n := 4) (cs := #[.int .i64 (1), .int .i64 (-1), .int .i64 (2), .int .i64 (-2)]) [1, -1, 2, -2] rfl rfl rfl
    go_wp2_with fail
    go_region_held3 (fun w' => True) (exact trivial) (first | (go_at_call 83; refine K.call (by with_reducible rfl) (by with_reducible rfl) (l01Next_any g (8) _ (K.bsr s1)) ?_; rintro e w2 ⟨⟨y, rfl, y0, y1, y2⟩, s2, f2⟩; have z2 := f2.size; (try simp at z2); have F2 : K.Far g (g + 1) w w2 := K.Far.trans (K.bfa F1) f2; obtain ⟨c2_0_0, c2_0_1, c2_0_2, d2_0_0, d2_0_1, d2_0_2, y2_0⟩ := f2.p3 c1_0_0 c1_0_1 c1_0_2 d1_0_0 d1_0_1 d1_0_2; obtain ⟨c2_1_0, c2_1_1, c2_1_2, d2_1_0, d2_1_1, d2_1_2, y2_1⟩ := f2.p3 c1_1_0 c1_1_1 c1_1_2 d1_1_0 d1_1_1 d1_1_2; obtain ⟨k, rfl⟩ : ∃ k : Nat, y = (k : Int) := ⟨y.toNat, (by omega)⟩; have hk : k < 8 := (by omega); have i1 : (k : Int) < 8 := (by omega); have i0 : (0 : Int) ≤ (k : Int) := (by omega)) | (go_at_call 108; refine K.call (by with_reducible rfl) (by with_reducible rfl) (l01Pick_any g [1, -1, 2, -2] _ (K.bsr s2) (by simp) (by simp) (.inr (by omega)) (K.ints_lit (W := w2) (T := 2) (n := 4) (cs := #[.int .i64 (1), .int .i64 (-1), .int .i64 (2), .int .i64 (-2)]) [1, -1, 2, -2] rfl rfl rfl)) ?_; rintro e w3 ⟨⟨x, hx, rfl⟩, s3, f3⟩; have z3 := f3.size; (try simp at z3); have F3 : K.Far g (g + 1) w w3 := K.Far.trans (K.bfa F2) f3; have u3_0_1 : w.heap.size < w2.heap.size + 1 := (by omega); have u3_1_1 : w.heap.size + 1 < w2.heap.size + 1 := (by omega); obtain ⟨c3_0_0, c3_0_1, c3_0_2, d3_0_0, d3_0_1, d3_0_2, y3_0⟩ := f3.p3 c2_0_0 c2_0_1 c2_0_2 d2_0_0 d2_0_1 d2_0_2; obtain ⟨c3_1_0, c3_1_1, c3_1_2, d3_1_0, d3_1_1, d3_1_2, y3_1⟩ := f3.p3 c2_1_0 c2_1_1 c2_1_2 d2_1_0 d2_1_1 d2_1_2) | (go_at_call 108; refine K.call (by with_reducible rfl) (by with_reducible rfl) (l01Pick_any g [1, -1, 2, -2] _ (K.bsr s2) (by simp) (by simp) (.inr (by omega)) (K.ints.far (show K.ints _ w1.heap.size (w1.heap.size + 1) (.slice (some ⟨w1.heap.size, 0, none⟩) 4 4) [1, -1, 2, -2] from by with_reducible repeat' (first | exact LIT | refine K.ints.drew ?_)) f2 (.inr (by omega)))) ?_; rintro e w3 ⟨⟨x, hx, rfl⟩, s3, f3⟩; have z3 := f3.size; (try simp at z3); have F3 : K.Far g (g + 1) w w3 := K.Far.trans (K.bfa F2) f3; have u3_0_1 : w.heap.size < w2.heap.size + 1 := (by omega); have u3_1_1 : w.heap.size + 1 < w2.heap.size + 1 := (by omega); obtain ⟨c3_0_0, c3_0_1, c3_0_2, d3_0_0, d3_0_1, d3_0_2, y3_0⟩ := f3.p3 c2_0_0 c2_0_1 c2_0_2 d2_0_0 d2_0_1 d2_0_2; obtain ⟨c3_1_0, c3_1_1, c3_1_2, d3_1_0, d3_1_1, d3_1_2, y3_1⟩ := f3.p3 c2_1_0 c2_1_1 c2_1_2 d2_1_0 d2_1_1 d2_1_2))
    all_goals
      go_wp2_with fail
      refine K.call (by with_reducible rfl) (by with_reducible rfl) (l01Next_any g (40) _ (K.bsr s3)) ?_
      rintro e w4 ⟨⟨m, rfl, m0, m1, m2⟩, s4, f4⟩
      have z4 := f4.size
      (try simp at z4)
      have F4 : K.Far g (g + 1) w w4 := K.Far.trans (K.bfa F3) f4
      have c4_0_0 : w4.cell? ⟨w.heap.size, 0, none⟩ = some (.int .i64 0) := f4.cell_of (by go_simp) (by (try dsimp only); omega)
      have d4_0_0 : w4.frozen? ⟨w.heap.size, 0, none⟩ = false := f4.thaw_of (by go_simp) (by go_simp) (by (try dsimp only); omega)
      have c4_0_1 : w4.cell? ⟨w.heap.size, 1, none⟩ = some (.int .u8 0) := f4.cell_of (by go_simp) (by (try dsimp only); omega)
      have d4_0_1 : w4.frozen? ⟨w.heap.size, 1, none⟩ = false := f4.thaw_of (by go_simp) (by go_simp) (by (try dsimp only); omega)
      have c4_0_2 : w4.cell? ⟨w.heap.size, 2, none⟩ = some (.int .i64 0) := f4.cell_of (by go_simp) (by (try dsimp only); omega)
      have d4_0_2 : w4.frozen? ⟨w.heap.size, 2, none⟩ = false := f4.thaw_of (by go_simp) (by go_simp) (by (try dsimp only); omega)
      have y4_0 : w.heap.size < w4.heap.size := World.block_lt_of_cell? w4 _ c4_0_0
      have c4_1_0 : w4.cell? ⟨w.heap.size + 1, 0, none⟩ = some (.int .i64 (1)) := f4.cell_of (by go_simp) (by (try dsimp only); omega)
      have d4_1_0 : w4.frozen? ⟨w.heap.size + 1, 0, none⟩ = false := f4.thaw_of (by go_simp) (by go_simp) (by (try dsimp only); omega)
      have c4_1_1 : w4.cell? ⟨w.heap.size + 1, 1, none⟩ = some (.int .u8 (((((⟨#[97, 98, 99, 100, 101, 102, 121, 122]⟩ : ByteArray)[k]'(by show k < 8; exact hk)).toNat : Nat) : Int))) := f4.cell_of (by go_simp) (by (try dsimp only); omega)
      have d4_1_1 : w4.frozen? ⟨w.heap.size + 1, 1, none⟩ = false := f4.thaw_of (by go_simp) (by go_simp) (by (try dsimp only); omega)
      have c4_1_2 : w4.cell? ⟨w.heap.size + 1, 2, none⟩ = some (.int .i64 (x)) := f4.cell_of (by go_simp) (by (try dsimp only); omega)
      have d4_1_2 : w4.frozen? ⟨w.heap.size + 1, 2, none⟩ = false := f4.thaw_of (by go_simp) (by go_simp) (by (try dsimp only); omega)
      have y4_1 : w.heap.size + 1 < w4.heap.size := World.block_lt_of_cell? w4 _ c4_1_0
      by_cases m0_ : m = 0
      · subst m0_
        go_wp2_with fail
        refine K.call (by with_reducible rfl) (by with_reducible rfl) (l01Next_any g (5) _ (K.bsr s4)) ?_
        rintro e w5 ⟨⟨r, rfl, r0, r1, r2⟩, s5, f5⟩
        have z5 := f5.size
        (try simp at z5)
        have F5 : K.Far g (g + 1) w w5 := K.Far.trans (K.bfa F4) f5
        obtain ⟨c5_0_0, c5_0_1, c5_0_2, d5_0_0, d5_0_1, d5_0_2, y5_0⟩ := f5.p3 c4_0_0 c4_0_1 c4_0_2 d4_0_0 d4_0_1 d4_0_2
        obtain ⟨c5_1_0, c5_1_1, c5_1_2, d5_1_0, d5_1_1, d5_1_2, y5_1⟩ := f5.p3 c4_1_0 c4_1_1 c4_1_2 d4_1_0 d4_1_1 d4_1_2
        have qr : IntKind.i64.wrap (r - 1) = r - 1 := IntWalk.i64_in _ (by omega)
        go_wp2_with fail
        refine bodyPost_ret (v := .agg #[.int .i64 (r - 1), .int .u8 (((((⟨#[97, 98, 99, 100, 101, 102, 121, 122]⟩ : ByteArray)[k]'(by show k < 8; exact hk)).toNat : Nat) : Int)), .int .i64 (x)]) (by unfold results; rw [Try.results152]; go_simp) rfl ⟨⟨⟨r - 1, ((((⟨#[97, 98, 99, 100, 101, 102, 121, 122]⟩ : ByteArray)[k]'(by show k < 8; exact hk)).toNat : Nat) : Int), x⟩, rfl, (by dsimp only; omega), by have := ((⟨#[97, 98, 99, 100, 101, 102, 121, 122]⟩ : ByteArray)[k]'(by show k < 8; exact hk)).toNat_lt; dsimp only; omega⟩, (K.bsr s5), (K.bfa F5)⟩
      by_cases m1_ : m = 1
      · subst m1_
        go_wp2_with fail
        refine K.call (by with_reducible rfl) (by with_reducible rfl) (l01Pick_any g [0, 3, 4, 6, 7, -7] _ (K.bsr s4) (by simp) (by simp) (.inr (by omega)) (K.ints_lit (W := w4) (T := 2) (n := 6) (cs := #[.int .i64 (0), .int .i64 (3), .int .i64 (4), .int .i64 (6), .int .i64 (7), .int .i64 (-7)]) [0, 3, 4, 6, 7, -7] rfl rfl rfl)) ?_
        rintro e w5 ⟨⟨r, hr, rfl⟩, s5, f5⟩
        have z5 := f5.size
        (try simp at z5)
        have F5 : K.Far g (g + 1) w w5 := K.Far.trans (K.bfa F4) f5
        have u5_0_1 : w.heap.size < w4.heap.size + 1 := (by omega)
        have u5_1_1 : w.heap.size + 1 < w4.heap.size + 1 := (by omega)
        obtain ⟨c5_0_0, c5_0_1, c5_0_2, d5_0_0, d5_0_1, d5_0_2, y5_0⟩ := f5.p3 c4_0_0 c4_0_1 c4_0_2 d4_0_0 d4_0_1 d4_0_2
        obtain ⟨c5_1_0, c5_1_1, c5_1_2, d5_1_0, d5_1_1, d5_1_2, y5_1⟩ := f5.p3 c4_1_0 c4_1_1 c4_1_2 d4_1_0 d4_1_1 d4_1_2
        simp only [List.mem_cons, List.not_mem_nil, or_false] at hr
        go_wp2_with fail
        refine bodyPost_ret (v := .agg #[.int .i64 (1), .int .u8 (((((⟨#[97, 98, 99, 100, 101, 102, 121, 122]⟩ : ByteArray)[k]'(by show k < 8; exact hk)).toNat : Nat) : Int)), .int .i64 (r)]) (by unfold results; rw [Try.results152]; go_simp) rfl ⟨⟨⟨1, ((((⟨#[97, 98, 99, 100, 101, 102, 121, 122]⟩ : ByteArray)[k]'(by show k < 8; exact hk)).toNat : Nat) : Int), r⟩, rfl, (by dsimp only; omega), by have := ((⟨#[97, 98, 99, 100, 101, 102, 121, 122]⟩ : ByteArray)[k]'(by show k < 8; exact hk)).toNat_lt; dsimp only; omega⟩, (K.bsr s5), (K.bfa F5)⟩
      go_wp2_with fail
      refine bodyPost_ret (v := .agg #[.int .i64 (1), .int .u8 (((((⟨#[97, 98, 99, 100, 101, 102, 121, 122]⟩ : ByteArray)[k]'(by show k < 8; exact hk)).toNat : Nat) : Int)), .int .i64 (x)]) (by unfold results; rw [Try.results152]; go_simp) rfl ⟨⟨⟨1, ((((⟨#[97, 98, 99, 100, 101, 102, 121, 122]⟩ : ByteArray)[k]'(by show k < 8; exact hk)).toNat : Nat) : Int), x⟩, rfl, (by dsimp only; omega), by have := ((⟨#[97, 98, 99, 100, 101, 102, 121, 122]⟩ : ByteArray)[k]'(by show k < 8; exact hk)).toNat_lt; dsimp only; omega⟩, (K.bsr s4), (K.bfa F4)⟩
  by_cases n1_ : n = 1
  · subst n1_
    have LIT : K.ints (w1.alloc (.cells #[.int .i64 (1), .int .i64 (-1), .int .i64 (2), .int .i64 (-2)] 2)) w1.heap.size (w1.heap.size + 1) (.slice (some ⟨w1.heap.size, 0, none⟩) 4 4) [1, -1, 2, -2] := K.ints_lit (W := w1) (T := 2) (n := 4) (cs := #[.int .i64 (1), .int .i64 (-1), .int .i64 (2), .int .i64 (-2)]) [1, -1, 2, -2] rfl rfl rfl
    go_wp2_with fail
    go_region_held3 (fun w' => True) (exact trivial) (first | (go_at_call 83; refine K.call (by with_reducible rfl) (by with_reducible rfl) (l01Next_any g (8) _ (K.bsr s1)) ?_; rintro e w2 ⟨⟨y, rfl, y0, y1, y2⟩, s2, f2⟩; have z2 := f2.size; (try simp at z2); have F2 : K.Far g (g + 1) w w2 := K.Far.trans (K.bfa F1) f2; obtain ⟨c2_0_0, c2_0_1, c2_0_2, d2_0_0, d2_0_1, d2_0_2, y2_0⟩ := f2.p3 c1_0_0 c1_0_1 c1_0_2 d1_0_0 d1_0_1 d1_0_2; obtain ⟨c2_1_0, c2_1_1, c2_1_2, d2_1_0, d2_1_1, d2_1_2, y2_1⟩ := f2.p3 c1_1_0 c1_1_1 c1_1_2 d1_1_0 d1_1_1 d1_1_2; obtain ⟨k, rfl⟩ : ∃ k : Nat, y = (k : Int) := ⟨y.toNat, (by omega)⟩; have hk : k < 8 := (by omega); have i1 : (k : Int) < 8 := (by omega); have i0 : (0 : Int) ≤ (k : Int) := (by omega)) | (go_at_call 108; refine K.call (by with_reducible rfl) (by with_reducible rfl) (l01Pick_any g [1, -1, 2, -2] _ (K.bsr s2) (by simp) (by simp) (.inr (by omega)) (K.ints_lit (W := w2) (T := 2) (n := 4) (cs := #[.int .i64 (1), .int .i64 (-1), .int .i64 (2), .int .i64 (-2)]) [1, -1, 2, -2] rfl rfl rfl)) ?_; rintro e w3 ⟨⟨x, hx, rfl⟩, s3, f3⟩; have z3 := f3.size; (try simp at z3); have F3 : K.Far g (g + 1) w w3 := K.Far.trans (K.bfa F2) f3; have u3_0_1 : w.heap.size < w2.heap.size + 1 := (by omega); have u3_1_1 : w.heap.size + 1 < w2.heap.size + 1 := (by omega); obtain ⟨c3_0_0, c3_0_1, c3_0_2, d3_0_0, d3_0_1, d3_0_2, y3_0⟩ := f3.p3 c2_0_0 c2_0_1 c2_0_2 d2_0_0 d2_0_1 d2_0_2; obtain ⟨c3_1_0, c3_1_1, c3_1_2, d3_1_0, d3_1_1, d3_1_2, y3_1⟩ := f3.p3 c2_1_0 c2_1_1 c2_1_2 d2_1_0 d2_1_1 d2_1_2) | (go_at_call 108; refine K.call (by with_reducible rfl) (by with_reducible rfl) (l01Pick_any g [1, -1, 2, -2] _ (K.bsr s2) (by simp) (by simp) (.inr (by omega)) (K.ints.far (show K.ints _ w1.heap.size (w1.heap.size + 1) (.slice (some ⟨w1.heap.size, 0, none⟩) 4 4) [1, -1, 2, -2] from by with_reducible repeat' (first | exact LIT | refine K.ints.drew ?_)) f2 (.inr (by omega)))) ?_; rintro e w3 ⟨⟨x, hx, rfl⟩, s3, f3⟩; have z3 := f3.size; (try simp at z3); have F3 : K.Far g (g + 1) w w3 := K.Far.trans (K.bfa F2) f3; have u3_0_1 : w.heap.size < w2.heap.size + 1 := (by omega); have u3_1_1 : w.heap.size + 1 < w2.heap.size + 1 := (by omega); obtain ⟨c3_0_0, c3_0_1, c3_0_2, d3_0_0, d3_0_1, d3_0_2, y3_0⟩ := f3.p3 c2_0_0 c2_0_1 c2_0_2 d2_0_0 d2_0_1 d2_0_2; obtain ⟨c3_1_0, c3_1_1, c3_1_2, d3_1_0, d3_1_1, d3_1_2, y3_1⟩ := f3.p3 c2_1_0 c2_1_1 c2_1_2 d2_1_0 d2_1_1 d2_1_2))
    all_goals
      go_wp2_with fail
      refine K.call (by with_reducible rfl) (by with_reducible rfl) (l01Next_any g (40) _ (K.bsr s3)) ?_
      rintro e w4 ⟨⟨m, rfl, m0, m1, m2⟩, s4, f4⟩
      have z4 := f4.size
      (try simp at z4)
      have F4 : K.Far g (g + 1) w w4 := K.Far.trans (K.bfa F3) f4
      have c4_0_0 : w4.cell? ⟨w.heap.size, 0, none⟩ = some (.int .i64 0) := f4.cell_of (by go_simp) (by (try dsimp only); omega)
      have d4_0_0 : w4.frozen? ⟨w.heap.size, 0, none⟩ = false := f4.thaw_of (by go_simp) (by go_simp) (by (try dsimp only); omega)
      have c4_0_1 : w4.cell? ⟨w.heap.size, 1, none⟩ = some (.int .u8 0) := f4.cell_of (by go_simp) (by (try dsimp only); omega)
      have d4_0_1 : w4.frozen? ⟨w.heap.size, 1, none⟩ = false := f4.thaw_of (by go_simp) (by go_simp) (by (try dsimp only); omega)
      have c4_0_2 : w4.cell? ⟨w.heap.size, 2, none⟩ = some (.int .i64 0) := f4.cell_of (by go_simp) (by (try dsimp only); omega)
      have d4_0_2 : w4.frozen? ⟨w.heap.size, 2, none⟩ = false := f4.thaw_of (by go_simp) (by go_simp) (by (try dsimp only); omega)
      have y4_0 : w.heap.size < w4.heap.size := World.block_lt_of_cell? w4 _ c4_0_0
      have c4_1_0 : w4.cell? ⟨w.heap.size + 1, 0, none⟩ = some (.int .i64 (1)) := f4.cell_of (by go_simp) (by (try dsimp only); omega)
      have d4_1_0 : w4.frozen? ⟨w.heap.size + 1, 0, none⟩ = false := f4.thaw_of (by go_simp) (by go_simp) (by (try dsimp only); omega)
      have c4_1_1 : w4.cell? ⟨w.heap.size + 1, 1, none⟩ = some (.int .u8 (((((⟨#[97, 98, 99, 100, 101, 102, 121, 122]⟩ : ByteArray)[k]'(by show k < 8; exact hk)).toNat : Nat) : Int))) := f4.cell_of (by go_simp) (by (try dsimp only); omega)
      have d4_1_1 : w4.frozen? ⟨w.heap.size + 1, 1, none⟩ = false := f4.thaw_of (by go_simp) (by go_simp) (by (try dsimp only); omega)
      have c4_1_2 : w4.cell? ⟨w.heap.size + 1, 2, none⟩ = some (.int .i64 (x)) := f4.cell_of (by go_simp) (by (try dsimp only); omega)
      have d4_1_2 : w4.frozen? ⟨w.heap.size + 1, 2, none⟩ = false := f4.thaw_of (by go_simp) (by go_simp) (by (try dsimp only); omega)
      have y4_1 : w.heap.size + 1 < w4.heap.size := World.block_lt_of_cell? w4 _ c4_1_0
      by_cases m0_ : m = 0
      · subst m0_
        go_wp2_with fail
        refine K.call (by with_reducible rfl) (by with_reducible rfl) (l01Next_any g (5) _ (K.bsr s4)) ?_
        rintro e w5 ⟨⟨r, rfl, r0, r1, r2⟩, s5, f5⟩
        have z5 := f5.size
        (try simp at z5)
        have F5 : K.Far g (g + 1) w w5 := K.Far.trans (K.bfa F4) f5
        obtain ⟨c5_0_0, c5_0_1, c5_0_2, d5_0_0, d5_0_1, d5_0_2, y5_0⟩ := f5.p3 c4_0_0 c4_0_1 c4_0_2 d4_0_0 d4_0_1 d4_0_2
        obtain ⟨c5_1_0, c5_1_1, c5_1_2, d5_1_0, d5_1_1, d5_1_2, y5_1⟩ := f5.p3 c4_1_0 c4_1_1 c4_1_2 d4_1_0 d4_1_1 d4_1_2
        have qr : IntKind.i64.wrap (r - 1) = r - 1 := IntWalk.i64_in _ (by omega)
        go_wp2_with fail
        refine bodyPost_ret (v := .agg #[.int .i64 (r - 1), .int .u8 (((((⟨#[97, 98, 99, 100, 101, 102, 121, 122]⟩ : ByteArray)[k]'(by show k < 8; exact hk)).toNat : Nat) : Int)), .int .i64 (x)]) (by unfold results; rw [Try.results152]; go_simp) rfl ⟨⟨⟨r - 1, ((((⟨#[97, 98, 99, 100, 101, 102, 121, 122]⟩ : ByteArray)[k]'(by show k < 8; exact hk)).toNat : Nat) : Int), x⟩, rfl, (by dsimp only; omega), by have := ((⟨#[97, 98, 99, 100, 101, 102, 121, 122]⟩ : ByteArray)[k]'(by show k < 8; exact hk)).toNat_lt; dsimp only; omega⟩, (K.bsr s5), (K.bfa F5)⟩
      by_cases m1_ : m = 1
      · subst m1_
        go_wp2_with fail
        refine K.call (by with_reducible rfl) (by with_reducible rfl) (l01Pick_any g [0, 3, 4, 6, 7, -7] _ (K.bsr s4) (by simp) (by simp) (.inr (by omega)) (K.ints_lit (W := w4) (T := 2) (n := 6) (cs := #[.int .i64 (0), .int .i64 (3), .int .i64 (4), .int .i64 (6), .int .i64 (7), .int .i64 (-7)]) [0, 3, 4, 6, 7, -7] rfl rfl rfl)) ?_
        rintro e w5 ⟨⟨r, hr, rfl⟩, s5, f5⟩
        have z5 := f5.size
        (try simp at z5)
        have F5 : K.Far g (g + 1) w w5 := K.Far.trans (K.bfa F4) f5
        have u5_0_1 : w.heap.size < w4.heap.size + 1 := (by omega)
        have u5_1_1 : w.heap.size + 1 < w4.heap.size + 1 := (by omega)
        obtain ⟨c5_0_0, c5_0_1, c5_0_2, d5_0_0, d5_0_1, d5_0_2, y5_0⟩ := f5.p3 c4_0_0 c4_0_1 c4_0_2 d4_0_0 d4_0_1 d4_0_2
        obtain ⟨c5_1_0, c5_1_1, c5_1_2, d5_1_0, d5_1_1, d5_1_2, y5_1⟩ := f5.p3 c4_1_0 c4_1_1 c4_1_2 d4_1_0 d4_1_1 d4_1_2
        simp only [List.mem_cons, List.not_mem_nil, or_false] at hr
        go_wp2_with fail
        refine bodyPost_ret (v := .agg #[.int .i64 (1), .int .u8 (((((⟨#[97, 98, 99, 100, 101, 102, 121, 122]⟩ : ByteArray)[k]'(by show k < 8; exact hk)).toNat : Nat) : Int)), .int .i64 (r)]) (by unfold results; rw [Try.results152]; go_simp) rfl ⟨⟨⟨1, ((((⟨#[97, 98, 99, 100, 101, 102, 121, 122]⟩ : ByteArray)[k]'(by show k < 8; exact hk)).toNat : Nat) : Int), r⟩, rfl, (by dsimp only; omega), by have := ((⟨#[97, 98, 99, 100, 101, 102, 121, 122]⟩ : ByteArray)[k]'(by show k < 8; exact hk)).toNat_lt; dsimp only; omega⟩, (K.bsr s5), (K.bfa F5)⟩
      go_wp2_with fail
      refine bodyPost_ret (v := .agg #[.int .i64 (1), .int .u8 (((((⟨#[97, 98, 99, 100, 101, 102, 121, 122]⟩ : ByteArray)[k]'(by show k < 8; exact hk)).toNat : Nat) : Int)), .int .i64 (x)]) (by unfold results; rw [Try.results152]; go_simp) rfl ⟨⟨⟨1, ((((⟨#[97, 98, 99, 100, 101, 102, 121, 122]⟩ : ByteArray)[k]'(by show k < 8; exact hk)).toNat : Nat) : Int), x⟩, rfl, (by dsimp only; omega), by have := ((⟨#[97, 98, 99, 100, 101, 102, 121, 122]⟩ : ByteArray)[k]'(by show k < 8; exact hk)).toNat_lt; dsimp only; omega⟩, (K.bsr s4), (K.bfa F4)⟩
  by_cases n2_ : n = 2
  · subst n2_
    go_wp2_with fail
    refine K.call (by with_reducible rfl) (by with_reducible rfl) (l01Pick_any g [-1, -1, 2, 1] _ (K.bsr s1) (by simp) (by simp) (.inr (by omega)) (K.ints_lit (W := w1) (T := 2) (n := 4) (cs := #[.int .i64 (-1), .int .i64 (-1), .int .i64 (2), .int .i64 (1)]) [-1, -1, 2, 1] rfl rfl rfl)) ?_
    rintro e w2 ⟨⟨x, hx, rfl⟩, s2, f2⟩
    have z2 := f2.size
    (try simp at z2)
    have F2 : K.Far g (g + 1) w w2 := K.Far.trans (K.bfa F1) f2
    have u2_0_1 : w.heap.size < w1.heap.size + 1 := (by omega)
    have u2_1_1 : w.heap.size + 1 < w1.heap.size + 1 := (by omega)
    obtain ⟨c2_0_0, c2_0_1, c2_0_2, d2_0_0, d2_0_1, d2_0_2, y2_0⟩ := f2.p3 c1_0_0 c1_0_1 c1_0_2 d1_0_0 d1_0_1 d1_0_2
    obtain ⟨c2_1_0, c2_1_1, c2_1_2, d2_1_0, d2_1_1, d2_1_2, y2_1⟩ := f2.p3 c1_1_0 c1_1_1 c1_1_2 d1_1_0 d1_1_1 d1_1_2
    simp only [List.mem_cons, List.not_mem_nil, or_false] at hx
    go_wp2_with fail
    refine K.call (by with_reducible rfl) (by with_reducible rfl) (l01Next_any g (40) _ (K.bsr s2)) ?_
    rintro e w3 ⟨⟨m, rfl, m0, m1, m2⟩, s3, f3⟩
    have z3 := f3.size
    (try simp at z3)
    have F3 : K.Far g (g + 1) w w3 := K.Far.trans (K.bfa F2) f3
    have c3_0_0 : w3.cell? ⟨w.heap.size, 0, none⟩ = some (.int .i64 0) := f3.cell_of (by go_simp) (by (try dsimp only); omega)
    have d3_0_0 : w3.frozen? ⟨w.heap.size, 0, none⟩ = false := f3.thaw_of (by go_simp) (by go_simp) (by (try dsimp only); omega)
    have c3_0_1 : w3.cell? ⟨w.heap.size, 1, none⟩ = some (.int .u8 0) := f3.cell_of (by go_simp) (by (try dsimp only); omega)
    have d3_0_1 : w3.frozen? ⟨w.heap.size, 1, none⟩ = false := f3.thaw_of (by go_simp) (by go_simp) (by (try dsimp only); omega)
    have c3_0_2 : w3.cell? ⟨w.heap.size, 2, none⟩ = some (.int .i64 0) := f3.cell_of (by go_simp) (by (try dsimp only); omega)
    have d3_0_2 : w3.frozen? ⟨w.heap.size, 2, none⟩ = false := f3.thaw_of (by go_simp) (by go_simp) (by (try dsimp only); omega)
    have y3_0 : w.heap.size < w3.heap.size := World.block_lt_of_cell? w3 _ c3_0_0
    have c3_1_0 : w3.cell? ⟨w.heap.size + 1, 0, none⟩ = some (.int .i64 2) := f3.cell_of (by go_simp) (by (try dsimp only); omega)
    have d3_1_0 : w3.frozen? ⟨w.heap.size + 1, 0, none⟩ = false := f3.thaw_of (by go_simp) (by go_simp) (by (try dsimp only); omega)
    have c3_1_1 : w3.cell? ⟨w.heap.size + 1, 1, none⟩ = some (.int .u8 0) := f3.cell_of (by go_simp) (by (try dsimp only); omega)
    have d3_1_1 : w3.frozen? ⟨w.heap.size + 1, 1, none⟩ = false := f3.thaw_of (by go_simp) (by go_simp) (by (try dsimp only); omega)
    have c3_1_2 : w3.cell? ⟨w.heap.size + 1, 2, none⟩ = some (.int .i64 x) := f3.cell_of (by go_simp) (by (try dsimp only); omega)
    have d3_1_2 : w3.frozen? ⟨w.heap.size + 1, 2, none⟩ = false := f3.thaw_of (by go_simp) (by go_simp) (by (try dsimp only); omega)
    have y3_1 : w.heap.size + 1 < w3.heap.size := World.block_lt_of_cell? w3 _ c3_1_0
    by_cases m0_ : m = 0
    · subst m0_
      go_wp2_with fail
      refine K.call (by with_reducible rfl) (by with_reducible rfl) (l01Next_any g (5) _ (K.bsr s3)) ?_
      rintro e w4 ⟨⟨r, rfl, r0, r1, r2⟩, s4, f4⟩
      have z4 := f4.size
      (try simp at z4)
      have F4 : K.Far g (g + 1) w w4 := K.Far.trans (K.bfa F3) f4
      obtain ⟨c4_0_0, c4_0_1, c4_0_2, d4_0_0, d4_0_1, d4_0_2, y4_0⟩ := f4.p3 c3_0_0 c3_0_1 c3_0_2 d3_0_0 d3_0_1 d3_0_2
      obtain ⟨c4_1_0, c4_1_1, c4_1_2, d4_1_0, d4_1_1, d4_1_2, y4_1⟩ := f4.p3 c3_1_0 c3_1_1 c3_1_2 d3_1_0 d3_1_1 d3_1_2
      have qr : IntKind.i64.wrap (r - 1) = r - 1 := IntWalk.i64_in _ (by omega)
      go_wp2_with fail
      refine bodyPost_ret (v := .agg #[.int .i64 (r - 1), .int .u8 (0), .int .i64 (x)]) (by unfold results; rw [Try.results152]; go_simp) rfl ⟨⟨⟨r - 1, 0, x⟩, rfl, (by dsimp only; omega), (by dsimp only; omega)⟩, (K.bsr s4), (K.bfa F4)⟩
    by_cases m1_ : m = 1
    · subst m1_
      go_wp2_with fail
      refine K.call (by with_reducible rfl) (by with_reducible rfl) (l01Pick_any g [0, 3, 4, 6, 7, -7] _ (K.bsr s3) (by simp) (by simp) (.inr (by omega)) (K.ints_lit (W := w3) (T := 2) (n := 6) (cs := #[.int .i64 (0), .int .i64 (3), .int .i64 (4), .int .i64 (6), .int .i64 (7), .int .i64 (-7)]) [0, 3, 4, 6, 7, -7] rfl rfl rfl)) ?_
      rintro e w4 ⟨⟨r, hr, rfl⟩, s4, f4⟩
      have z4 := f4.size
      (try simp at z4)
      have F4 : K.Far g (g + 1) w w4 := K.Far.trans (K.bfa F3) f4
      have u4_0_1 : w.heap.size < w3.heap.size + 1 := (by omega)
      have u4_1_1 : w.heap.size + 1 < w3.heap.size + 1 := (by omega)
      obtain ⟨c4_0_0, c4_0_1, c4_0_2, d4_0_0, d4_0_1, d4_0_2, y4_0⟩ := f4.p3 c3_0_0 c3_0_1 c3_0_2 d3_0_0 d3_0_1 d3_0_2
      obtain ⟨c4_1_0, c4_1_1, c4_1_2, d4_1_0, d4_1_1, d4_1_2, y4_1⟩ := f4.p3 c3_1_0 c3_1_1 c3_1_2 d3_1_0 d3_1_1 d3_1_2
      simp only [List.mem_cons, List.not_mem_nil, or_false] at hr
      go_wp2_with fail
      refine bodyPost_ret (v := .agg #[.int .i64 (2), .int .u8 (0), .int .i64 (r)]) (by unfold results; rw [Try.results152]; go_simp) rfl ⟨⟨⟨2, 0, r⟩, rfl, (by dsimp only; omega), (by dsimp only; omega)⟩, (K.bsr s4), (K.bfa F4)⟩
    go_wp2_with fail
    refine bodyPost_ret (v := .agg #[.int .i64 (2), .int .u8 (0), .int .i64 (x)]) (by unfold results; rw [Try.results152]; go_simp) rfl ⟨⟨⟨2, 0, x⟩, rfl, (by dsimp only; omega), (by dsimp only; omega)⟩, (K.bsr s3), (K.bfa F3)⟩
  go_wp2_with fail
  refine K.call (by with_reducible rfl) (by with_reducible rfl) (l01Next_any g (40) _ (K.bsr s1)) ?_
  rintro e w2 ⟨⟨m, rfl, m0, m1, m2⟩, s2, f2⟩
  have z2 := f2.size
  (try simp at z2)
  have F2 : K.Far g (g + 1) w w2 := K.Far.trans (K.bfa F1) f2
  obtain ⟨c2_0_0, c2_0_1, c2_0_2, d2_0_0, d2_0_1, d2_0_2, y2_0⟩ := f2.p3 c1_0_0 c1_0_1 c1_0_2 d1_0_0 d1_0_1 d1_0_2
  obtain ⟨c2_1_0, c2_1_1, c2_1_2, d2_1_0, d2_1_1, d2_1_2, y2_1⟩ := f2.p3 c1_1_0 c1_1_1 c1_1_2 d1_1_0 d1_1_1 d1_1_2
  by_cases m0_ : m = 0
  · subst m0_
    go_wp2_with fail
    refine K.call (by with_reducible rfl) (by with_reducible rfl) (l01Next_any g (5) _ (K.bsr s2)) ?_
    rintro e w3 ⟨⟨r, rfl, r0, r1, r2⟩, s3, f3⟩
    have z3 := f3.size
    (try simp at z3)
    have F3 : K.Far g (g + 1) w w3 := K.Far.trans (K.bfa F2) f3
    obtain ⟨c3_0_0, c3_0_1, c3_0_2, d3_0_0, d3_0_1, d3_0_2, y3_0⟩ := f3.p3 c2_0_0 c2_0_1 c2_0_2 d2_0_0 d2_0_1 d2_0_2
    obtain ⟨c3_1_0, c3_1_1, c3_1_2, d3_1_0, d3_1_1, d3_1_2, y3_1⟩ := f3.p3 c2_1_0 c2_1_1 c2_1_2 d2_1_0 d2_1_1 d2_1_2
    have qr : IntKind.i64.wrap (r - 1) = r - 1 := IntWalk.i64_in _ (by omega)
    go_wp2_with fail
    refine bodyPost_ret (v := .agg #[.int .i64 (r - 1), .int .u8 (0), .int .i64 (0)]) (by unfold results; rw [Try.results152]; go_simp) rfl ⟨⟨⟨r - 1, 0, 0⟩, rfl, (by dsimp only; omega), (by dsimp only; omega)⟩, (K.bsr s3), (K.bfa F3)⟩
  by_cases m1_ : m = 1
  · subst m1_
    go_wp2_with fail
    refine K.call (by with_reducible rfl) (by with_reducible rfl) (l01Pick_any g [0, 3, 4, 6, 7, -7] _ (K.bsr s2) (by simp) (by simp) (.inr (by omega)) (K.ints_lit (W := w2) (T := 2) (n := 6) (cs := #[.int .i64 (0), .int .i64 (3), .int .i64 (4), .int .i64 (6), .int .i64 (7), .int .i64 (-7)]) [0, 3, 4, 6, 7, -7] rfl rfl rfl)) ?_
    rintro e w3 ⟨⟨r, hr, rfl⟩, s3, f3⟩
    have z3 := f3.size
    (try simp at z3)
    have F3 : K.Far g (g + 1) w w3 := K.Far.trans (K.bfa F2) f3
    have u3_0_1 : w.heap.size < w2.heap.size + 1 := (by omega)
    have u3_1_1 : w.heap.size + 1 < w2.heap.size + 1 := (by omega)
    obtain ⟨c3_0_0, c3_0_1, c3_0_2, d3_0_0, d3_0_1, d3_0_2, y3_0⟩ := f3.p3 c2_0_0 c2_0_1 c2_0_2 d2_0_0 d2_0_1 d2_0_2
    obtain ⟨c3_1_0, c3_1_1, c3_1_2, d3_1_0, d3_1_1, d3_1_2, y3_1⟩ := f3.p3 c2_1_0 c2_1_1 c2_1_2 d2_1_0 d2_1_1 d2_1_2
    simp only [List.mem_cons, List.not_mem_nil, or_false] at hr
    go_wp2_with fail
    refine bodyPost_ret (v := .agg #[.int .i64 (0), .int .u8 (0), .int .i64 (r)]) (by unfold results; rw [Try.results152]; go_simp) rfl ⟨⟨⟨0, 0, r⟩, rfl, (by dsimp only; omega), (by dsimp only; omega)⟩, (K.bsr s3), (K.bfa F3)⟩
  go_wp2_with fail
  refine bodyPost_ret (v := .agg #[.int .i64 (0), .int .u8 (0), .int .i64 (0)]) (by unfold results; rw [Try.results152]; go_simp) rfl ⟨⟨⟨0, 0, 0⟩, rfl, (by dsimp only; omega), (by dsimp only; omega)⟩, (K.bsr s2), (K.bfa F2)⟩
set_option maxRecDepth 100000 in
set_option maxHeartbeats 12800000 in
theorem l21Draw_any (g : Nat) (w : World) (h : K.Src 164 w g) :
    Calls Try.prog 147 #[.pointer (some ⟨g, 0, none⟩)] w fun e w' => (∃ (v : Value) (xs : List Z.St), e = .returned v ∧ (xs.length ≤ 13 ∧ ∀ s ∈ xs, 0 ≤ s.nm ∧ s.nm ≤ 255) ∧ K.recs false K.StR w' w.heap.size w'.heap.size v xs) ∧ K.Src 164 w' g ∧ K.Far g (g + 1) w w' := by
  have lg := h.lt
  have F0 : K.Far g (g + 1) w w := K.Far.refl _ _ _
  obtain ⟨it0, hi0, hz0, hz1, hz2⟩ := info_parts info_step
  go_enter Try.func147, Try.ntmps147
  go_wp2_with fail
  refine K.call (by with_reducible rfl) (by with_reducible rfl) (l01Next_any g (6) _ (K.bsr h)) ?_
  rintro e w1 ⟨⟨n, rfl, n0, n1, n2⟩, s1, f1⟩
  have z1 := f1.size
  (try simp at z1)
  have F1 : K.Far g (g + 1) w w1 := K.Far.trans (K.bfa F0) f1
  have R1 : w1.ownsRow (w.heap.size) 98 3 (.slice (some ⟨w.heap.size, 0, none⟩) 0 0) 0 [] := K.row_far (K.row_lit0 rfl (Nat.le_refl _)) f1 (by omega)
  obtain ⟨n, rfl⟩ : ∃ j : Nat, n = (j : Int) := ⟨n.toNat, by omega⟩
  go_wp2_with fail
  go_loopw [3, 4] (fun u x wr => ∃ (ps : List Z.St) (j : Nat), x = .int .i64 j ∧ ps.length + j ≤ 6 ∧ Hid (wr.ownsRow (w.heap.size) 98 3 u ps.length (K.StR.cells ps)) ∧ Hid (∀ s ∈ ps, 0 ≤ (s : Z.St).nm ∧ s.nm ≤ 255) ∧ Hid (K.Src 164 wr g) ∧ w.heap.size < wr.heap.size ∧ Hid (K.Far g (g + 1) w wr)) (fun _ x _ => (intOf x).toNat)
  case atStart => exact ⟨[], n, rfl, by simp; omega, Z.hide R1, Z.hide (by simp), Z.hide s1, by omega, Z.hide F1⟩
  case round =>
    rename World => wa
    obtain ⟨ps, j, rfl, hj, HO, HP, HS, lz, HX⟩ := hrel
    have sr := HS.out
    have FR := HX.out
    clear R1 s1 F1 f1
    by_cases hpos : 0 < j
    · obtain ⟨j, rfl⟩ : ∃ q, j = q + 1 := ⟨j - 1, by omega⟩
      have i1 : (0 : Int) < ((j + 1 : Nat) : Int) := by omega
      go_wp2_with fail
      refine K.call (by with_reducible rfl) (by with_reducible rfl) (l21DrawStep_any g _ (K.bsr sr)) ?_
      rintro e w2 ⟨⟨s, rfl, s0, s1⟩, s2, f2⟩
      have z2 := f2.size
      (try simp at z2)
      have F2 : K.Far g (g + 1) w w2 := K.Far.trans (K.bfa FR) f2
      have HO2 := Z.hide (K.row_far HO.out f2 (by omega))
      go_wp2_with (at_builtin; refine wpList_append_lies _ rfl _ _ _ rfl (w.heap.size) 98 it0 _ 3 24 Try.underlying93 hi0 hz0 hz1 hz2 rfl (by omega) u3 ps.length _ rfl (HO2.out.alloc _) ⟨w2.heap.size, 0, none⟩ 1 1 [.int .i64 s.kd, .int .u8 s.nm, .int .i64 s.pw] rfl rfl (World.news_of_block (cs := #[.int .i64 s.kd, .int .u8 s.nm, .int .i64 s.pw]) (t := 98) (fr := (0, 0)) (K.block_new (by simp))) (by simp [Value.oneCell']) (by omega) (by unfold maxLen; omega) (by first | omega | (simp; omega)) (by first | omega | (simp; omega)) (w2.heap.size + 1) (by simp) ?_; intro g2 gcap2 w7 hown7 hgrow7 hat7 hlt7; have HB7 : Hid (Below (w.heap.size) w2 w7) := Z.hide (K.below_new2 hgrow7 (by omega) (fun g hg => (HO2.out.lt g hg).1)); have HP7 := Z.hide hown7)
      clear hown7 hgrow7 hat7
      go_roundw
      case rel => exact ⟨ps ++ [s], j, by go_num, by simp; omega, Z.hide (by rw [K.Rec.cells_snoc, List.length_append]; exact HP7.out), Z.hide (fun t ht => by rcases List.mem_append.1 ht with h1 | h1; exact HP.out t h1; rw [List.mem_singleton.1 h1]; exact ⟨s0, s1⟩), Z.hide (s2.below HB7.out (by omega)), Nat.lt_of_lt_of_le (by omega) HB7.out.size, Z.hide (K.Far.below2 F2 HB7.out (by omega))⟩
      case measure => first | (simp [intOf]; done) | (simp [intOf]; omega)
    · obtain rfl : j = 0 := by omega
      go_wp2_with fail
      refine K.call (by with_reducible rfl) (by with_reducible rfl) (l01Next_any g (40) _ (K.bsr sr)) ?_
      rintro e w4 ⟨⟨r, rfl, r0, r1, r2⟩, s4, f4⟩
      have z4 := f4.size
      (try simp at z4)
      have F4 : K.Far g (g + 1) w w4 := K.Far.trans (K.bfa FR) f4
      have HO4 := Z.hide (K.row_far HO.out f4 (by omega))
      by_cases hr : r = 0
      · subst hr
        clear HO HS HX sr FR f4
        go_wp2_with fail
        go_loopw [3] (fun u wr => ∃ (ps : List Z.St), ps.length ≤ 13 ∧ Hid (wr.ownsRow (w.heap.size) 98 3 u ps.length (K.StR.cells ps)) ∧ Hid (∀ s ∈ ps, 0 ≤ (s : Z.St).nm ∧ s.nm ≤ 255) ∧ Hid (K.Src 164 wr g) ∧ w.heap.size < wr.heap.size ∧ Hid (K.Far g (g + 1) w wr)) (fun u _ => 13 - (match u with | .slice _ n _ => n | _ => 0))
        case atStart => exact ⟨ps, by omega, Z.hide HO4.out, Z.hide HP.out, Z.hide s4, by omega, Z.hide F4⟩
        case round =>
          clear s4 F4 HO4 HP
          rename World => wb
          obtain ⟨ps, hj, HO, HP, HS, lz, HX⟩ := hrel
          have sr := HS.out
          have FR := HX.out
          have hsh : ∃ o c, u3 = .slice o ps.length c := by rcases HO.out.2 with ⟨h1, h2⟩ | ⟨_, _, _, h1, _⟩; exact ⟨none, 0, by rw [h1, h2]⟩; exact ⟨_, _, h1⟩
          obtain ⟨oU, cU, rfl⟩ := hsh
          have p0 : (0 : Int) ≤ (ps.length : Int) := Int.natCast_nonneg _
          go_wp2_with fail
          refine K.call (by with_reducible rfl) (by with_reducible rfl) (l01Next_any g (2) _ (K.bsr sr)) ?_
          rintro e w6 ⟨⟨x, rfl, x0, x1, x2⟩, s6, f6⟩
          have z6 := f6.size
          (try simp at z6)
          have F6 : K.Far g (g + 1) w w6 := K.Far.trans (K.bfa FR) f6
          have HO6 := Z.hide (K.row_far HO.out f6 (by omega))
          have qx : IntKind.i64.wrap (12 + x) = 12 + x := IntWalk.i64_in _ (by omega)
          by_cases hx : (ps.length : Int) < 12 + x
          · skip
            go_wp2_with (at_builtin; refine wpList_append_lies _ rfl _ _ _ rfl (w.heap.size) 98 it0 _ 3 24 Try.underlying93 hi0 hz0 hz1 hz2 rfl (by omega) (.slice oU ps.length cU) ps.length _ rfl (HO6.out.alloc _) ⟨w6.heap.size, 0, none⟩ 1 1 [.int .i64 0, .int .u8 0, .int .i64 0] rfl rfl (World.news_of_block (cs := #[.int .i64 0, .int .u8 0, .int .i64 0]) (t := 98) (fr := (0, 0)) (K.block_new (by simp))) (by simp [Value.oneCell']) (by omega) (by unfold maxLen; omega) (by first | omega | (simp; omega)) (by first | omega | (simp; omega)) (w6.heap.size + 1) (by simp) ?_; intro g2 gcap2 w7 hown7 hgrow7 hat7 hlt7; have HB7 : Hid (Below (w.heap.size) w6 w7) := Z.hide (K.below_new2 hgrow7 (by omega) (fun g hg => (HO6.out.lt g hg).1)); have HP7 := Z.hide hown7)
            clear hown7 hgrow7 hat7
            go_roundw
            case rel => exact ⟨ps ++ [⟨0, 0, 0⟩], by simp; omega, Z.hide (by rw [K.Rec.cells_snoc, List.length_append]; exact HP7.out), Z.hide (fun t ht => by rcases List.mem_append.1 ht with h1 | h1; exact HP.out t h1; rw [List.mem_singleton.1 h1]; exact ⟨by decide, by decide⟩), Z.hide (s6.below HB7.out (by omega)), Nat.lt_of_lt_of_le (by omega) HB7.out.size, Z.hide (K.Far.below2 F6 HB7.out (by omega))⟩
            case measure => first | (simp; done) | (simp; omega)
          go_wp2_with fail
          refine bodyPost_ret (v := .slice oU ps.length cU) (by unfold results; rw [Try.results147]; go_simp) rfl ⟨⟨_, ps, rfl, ⟨by omega, HP.out⟩, K.recs.mono (K.recs.plain (K.recs_of_row HO6.out (by decide))) (by omega) (Nat.le_refl _)⟩, s6, F6⟩
      go_wp2_with fail
      refine bodyPost_ret (v := u3) (by unfold results; rw [Try.results147]; go_simp) rfl ⟨⟨_, ps, rfl, ⟨by omega, HP.out⟩, K.recs.mono (K.recs.plain (K.recs_of_row HO4.out (by decide))) (by omega) (Nat.le_refl _)⟩, s4, F4⟩
set_option maxRecDepth 100000 in
set_option maxHeartbeats 12800000 in
theorem DrawApplyStep_any {hi n : Nat} {v : Value} (w : World) (hn : n ≤ 4096) (hh : hi ≤ w.heap.size) (h : K.byts w hi v n) :
    Calls Try.prog 74 #[v] w fun e w' => (∃ (E : Z.Eqn) (p q : Value) (s : Z.St), e = .returned (.tuple #[.agg #[.int .i64 E.L.dg, .int .i64 E.L.tn, .string E.L.nm, p, .int .i64 E.R.dg, .int .i64 E.R.tn, .string E.R.nm, q], .agg #[.int .i64 s.kd, .int .u8 s.nm, .int .i64 s.pw]]) ∧ (E.L.nm.size ≤ 7 ∧ E.L.pw.length ≤ 6) ∧ (E.R.nm.size ≤ 7 ∧ E.R.pw.length ≤ 6) ∧ K.ints w' w.heap.size w'.heap.size p E.L.pw ∧ K.ints w' w.heap.size w'.heap.size q E.R.pw ∧ 0 ≤ s.nm ∧ s.nm ≤ 255) ∧ K.Ext w w' := by
  have F0 : K.Ext w w := K.Ext.refl _
  go_enter Try.func74, Try.ntmps74
  go_wp2_with fail
  refine K.call (by with_reducible rfl) (by with_reducible rfl) (l01From_at (w.heap.size + 1 + 1) _ (by simp) hn (by omega) (h.ext (K.bex F0))) ?_
  rintro e w1 ⟨⟨rfl, s1⟩, f1⟩
  have z1 := f1.size
  (try simp at z1)
  have F1 : K.Ext w w1 := K.Ext.trans (K.bex F0) f1
  have c1_0_0 : w1.cell? ⟨w.heap.size, 0, none⟩ = some (.int .i64 0) := f1.cell_of (by go_simp)
  have d1_0_0 : w1.frozen? ⟨w.heap.size, 0, none⟩ = false := f1.thaw_of (by go_simp) (by go_simp)
  have c1_0_1 : w1.cell? ⟨w.heap.size, 1, none⟩ = some (.int .i64 0) := f1.cell_of (by go_simp)
  have d1_0_1 : w1.frozen? ⟨w.heap.size, 1, none⟩ = false := f1.thaw_of (by go_simp) (by go_simp)
  have c1_0_2 : w1.cell? ⟨w.heap.size, 2, none⟩ = some (.string ⟨#[]⟩) := f1.cell_of (by go_simp)
  have d1_0_2 : w1.frozen? ⟨w.heap.size, 2, none⟩ = false := f1.thaw_of (by go_simp) (by go_simp)
  have c1_0_3 : w1.cell? ⟨w.heap.size, 3, none⟩ = some (.slice none 0 0) := f1.cell_of (by go_simp)
  have d1_0_3 : w1.frozen? ⟨w.heap.size, 3, none⟩ = false := f1.thaw_of (by go_simp) (by go_simp)
  have c1_0_4 : w1.cell? ⟨w.heap.size, 4, none⟩ = some (.int .i64 0) := f1.cell_of (by go_simp)
  have d1_0_4 : w1.frozen? ⟨w.heap.size, 4, none⟩ = false := f1.thaw_of (by go_simp) (by go_simp)
  have c1_0_5 : w1.cell? ⟨w.heap.size, 5, none⟩ = some (.int .i64 0) := f1.cell_of (by go_simp)
  have d1_0_5 : w1.frozen? ⟨w.heap.size, 5, none⟩ = false := f1.thaw_of (by go_simp) (by go_simp)
  have c1_0_6 : w1.cell? ⟨w.heap.size, 6, none⟩ = some (.string ⟨#[]⟩) := f1.cell_of (by go_simp)
  have d1_0_6 : w1.frozen? ⟨w.heap.size, 6, none⟩ = false := f1.thaw_of (by go_simp) (by go_simp)
  have c1_0_7 : w1.cell? ⟨w.heap.size, 7, none⟩ = some (.slice none 0 0) := f1.cell_of (by go_simp)
  have d1_0_7 : w1.frozen? ⟨w.heap.size, 7, none⟩ = false := f1.thaw_of (by go_simp) (by go_simp)
  have y1_0 : w.heap.size < w1.heap.size := World.block_lt_of_cell? w1 _ c1_0_0
  have c1_1_0 : w1.cell? ⟨w.heap.size + 1, 0, none⟩ = some (.int .i64 0) := f1.cell_of (by go_simp)
  have d1_1_0 : w1.frozen? ⟨w.heap.size + 1, 0, none⟩ = false := f1.thaw_of (by go_simp) (by go_simp)
  have c1_1_1 : w1.cell? ⟨w.heap.size + 1, 1, none⟩ = some (.int .u8 0) := f1.cell_of (by go_simp)
  have d1_1_1 : w1.frozen? ⟨w.heap.size + 1, 1, none⟩ = false := f1.thaw_of (by go_simp) (by go_simp)
  have c1_1_2 : w1.cell? ⟨w.heap.size + 1, 2, none⟩ = some (.int .i64 0) := f1.cell_of (by go_simp)
  have d1_1_2 : w1.frozen? ⟨w.heap.size + 1, 2, none⟩ = false := f1.thaw_of (by go_simp) (by go_simp)
  have y1_1 : w.heap.size + 1 < w1.heap.size := World.block_lt_of_cell? w1 _ c1_1_0
  have lg := s1.lt
  go_wp2_with fail
  refine K.call (by with_reducible rfl) (by with_reducible rfl) (l20Draw_any (w.heap.size + 1 + 1) _ (K.bsr s1)) ?_
  rintro e w2 ⟨⟨E, pE, qE, rfl, ⟨hnE, hmE⟩, ⟨jnE, jmE⟩, hiE, jiE⟩, s2, f2⟩
  have z2 := f2.size
  (try simp at z2)
  have F2 : K.Ext w w2 := K.Far.ext (K.bex F1) f2 (by omega)
  obtain ⟨c2_0_0, c2_0_1, c2_0_2, c2_0_3, c2_0_4, c2_0_5, c2_0_6, c2_0_7, d2_0_0, d2_0_1, d2_0_2, d2_0_3, d2_0_4, d2_0_5, d2_0_6, d2_0_7, y2_0⟩ := f2.p8 c1_0_0 c1_0_1 c1_0_2 c1_0_3 c1_0_4 c1_0_5 c1_0_6 c1_0_7 d1_0_0 d1_0_1 d1_0_2 d1_0_3 d1_0_4 d1_0_5 d1_0_6 d1_0_7
  obtain ⟨c2_1_0, c2_1_1, c2_1_2, d2_1_0, d2_1_1, d2_1_2, y2_1⟩ := f2.p3 c1_1_0 c1_1_1 c1_1_2 d1_1_0 d1_1_1 d1_1_2
  obtain ⟨oEL, kEL, rfl, _⟩ := id hiE
  obtain ⟨oER, kER, rfl, _⟩ := id jiE
  have IEL_2 : K.ints w2 (w1.heap.size) w2.heap.size (.slice oEL E.L.pw.length kEL) E.L.pw := hiE.mono (by simp) (Nat.le_refl _)
  have IER_2 : K.ints w2 (w1.heap.size) w2.heap.size (.slice oER E.R.pw.length kER) E.R.pw := jiE.mono (by simp) (Nat.le_refl _)
  clear hiE jiE
  have uh_0_1 : w.heap.size < w2.heap.size + 1 := (by omega)
  have uh_1_1 : w.heap.size + 1 < w2.heap.size + 1 := (by omega)
  go_wp2_with fail
  have ne0_2 : ¬ (w.heap.size = w2.heap.size) := (by omega)
  have nf0_2 : ¬ (w2.heap.size = w.heap.size) := (by omega)
  have ne1_2 : ¬ (w.heap.size + 1 = w2.heap.size) := (by omega)
  have nf1_2 : ¬ (w2.heap.size = w.heap.size + 1) := (by omega)
  go_region_held3 (fun w' => w'.cell? ⟨w2.heap.size, 0, none⟩ = some (.int .i64 E.L.dg) ∧ w'.cell? ⟨w2.heap.size, 1, none⟩ = some (.int .i64 E.L.tn) ∧ w'.cell? ⟨w2.heap.size, 2, none⟩ = some (.string E.L.nm) ∧ w'.cell? ⟨w2.heap.size, 3, none⟩ = some (.slice oEL E.L.pw.length kEL) ∧ w'.cell? ⟨w2.heap.size, 4, none⟩ = some (.int .i64 E.R.dg) ∧ w'.cell? ⟨w2.heap.size, 5, none⟩ = some (.int .i64 E.R.tn) ∧ w'.cell? ⟨w2.heap.size, 6, none⟩ = some (.string E.R.nm) ∧ w'.cell? ⟨w2.heap.size, 7, none⟩ = some (.slice oER E.R.pw.length kER)) ((repeat' apply And.intro) <;> go_simp) ((go_at_call 152; refine K.call (by with_reducible rfl) (by with_reducible rfl) (l21DrawStep_any (w.heap.size + 1 + 1) _ (K.bsr s2)) ?_; rintro e w3 ⟨⟨s, rfl, c0, c1⟩, s3, f3⟩; have z3 := f3.size; (try simp at z3); have F3 : K.Ext w w3 := K.Far.ext (K.bex F2) f3 (by omega); have u3_0_1 : w.heap.size < w2.heap.size + 1 := (by omega); have u3_1_1 : w.heap.size + 1 < w2.heap.size + 1 := (by omega); obtain ⟨c3_0_0, c3_0_1, c3_0_2, c3_0_3, c3_0_4, c3_0_5, c3_0_6, c3_0_7, d3_0_0, d3_0_1, d3_0_2, d3_0_3, d3_0_4, d3_0_5, d3_0_6, d3_0_7, y3_0⟩ := f3.p8 c2_0_0 c2_0_1 c2_0_2 c2_0_3 c2_0_4 c2_0_5 c2_0_6 c2_0_7 d2_0_0 d2_0_1 d2_0_2 d2_0_3 d2_0_4 d2_0_5 d2_0_6 d2_0_7; obtain ⟨c3_1_0, c3_1_1, c3_1_2, d3_1_0, d3_1_1, d3_1_2, y3_1⟩ := f3.p3 c2_1_0 c2_1_1 c2_1_2 d2_1_0 d2_1_1 d2_1_2; have c3_2_0 : w3.cell? ⟨w2.heap.size, 0, none⟩ = some (.int .i64 E.L.dg) := f3.cell_of (by go_simp) (by (try dsimp only); omega); have d3_2_0 : w3.frozen? ⟨w2.heap.size, 0, none⟩ = false := f3.thaw_of (by go_simp) (by go_simp) (by (try dsimp only); omega); have c3_2_1 : w3.cell? ⟨w2.heap.size, 1, none⟩ = some (.int .i64 E.L.tn) := f3.cell_of (by go_simp) (by (try dsimp only); omega); have d3_2_1 : w3.frozen? ⟨w2.heap.size, 1, none⟩ = false := f3.thaw_of (by go_simp) (by go_simp) (by (try dsimp only); omega); have c3_2_2 : w3.cell? ⟨w2.heap.size, 2, none⟩ = some (.string E.L.nm) := f3.cell_of (by go_simp) (by (try dsimp only); omega); have d3_2_2 : w3.frozen? ⟨w2.heap.size, 2, none⟩ = false := f3.thaw_of (by go_simp) (by go_simp) (by (try dsimp only); omega); have c3_2_3 : w3.cell? ⟨w2.heap.size, 3, none⟩ = some (.slice oEL E.L.pw.length kEL) := f3.cell_of (by go_simp) (by (try dsimp only); omega); have d3_2_3 : w3.frozen? ⟨w2.heap.size, 3, none⟩ = false := f3.thaw_of (by go_simp) (by go_simp) (by (try dsimp only); omega); have c3_2_4 : w3.cell? ⟨w2.heap.size, 4, none⟩ = some (.int .i64 E.R.dg) := f3.cell_of (by go_simp) (by (try dsimp only); omega); have d3_2_4 : w3.frozen? ⟨w2.heap.size, 4, none⟩ = false := f3.thaw_of (by go_simp) (by go_simp) (by (try dsimp only); omega); have c3_2_5 : w3.cell? ⟨w2.heap.size, 5, none⟩ = some (.int .i64 E.R.tn) := f3.cell_of (by go_simp) (by (try dsimp only); omega); have d3_2_5 : w3.frozen? ⟨w2.heap.size, 5, none⟩ = false := f3.thaw_of (by go_simp) (by go_simp) (by (try dsimp only); omega); have c3_2_6 : w3.cell? ⟨w2.heap.size, 6, none⟩ = some (.string E.R.nm) := f3.cell_of (by go_simp) (by (try dsimp only); omega); have d3_2_6 : w3.frozen? ⟨w2.heap.size, 6, none⟩ = false := f3.thaw_of (by go_simp) (by go_simp) (by (try dsimp only); omega); have c3_2_7 : w3.cell? ⟨w2.heap.size, 7, none⟩ = some (.slice oER E.R.pw.length kER) := f3.cell_of (by go_simp) (by (try dsimp only); omega); have d3_2_7 : w3.frozen? ⟨w2.heap.size, 7, none⟩ = false := f3.thaw_of (by go_simp) (by go_simp) (by (try dsimp only); omega); have y3_2 : w2.heap.size < w3.heap.size := World.block_lt_of_cell? w3 _ c3_2_0; have IEL_3 := K.ints.far (K.bin IEL_2) f3 (by first | exact .inl (by omega) | exact .inr (by omega)); have IER_3 := K.ints.far (K.bin IER_2) f3 (by first | exact .inl (by omega) | exact .inr (by omega))))
  go_wp2_with fail
  all_goals refine bodyPost_ret (v := .tuple #[.agg #[.int .i64 E.L.dg, .int .i64 E.L.tn, .string E.L.nm, .slice oEL E.L.pw.length kEL, .int .i64 E.R.dg, .int .i64 E.R.tn, .string E.R.nm, .slice oER E.R.pw.length kER], .agg #[.int .i64 s.kd, .int .u8 s.nm, .int .i64 s.pw]]) (by unfold results; rw [Try.results74]; go_simp) rfl ⟨⟨E, _, _, s, rfl, ⟨hnE, hmE⟩, ⟨jnE, jmE⟩, K.ints.mono (K.bin IEL_3) (by omega) (by first | omega | (simp; done) | (simp; omega)), K.ints.mono (K.bin IER_3) (by omega) (by first | omega | (simp; done) | (simp; omega)), c0, c1⟩, (K.bex F3)⟩
set_option maxRecDepth 100000 in
set_option maxHeartbeats 12800000 in
theorem DrawRunSteps_any {hi n : Nat} {v : Value} (w : World) (hn : n ≤ 4096) (hh : hi ≤ w.heap.size) (h : K.byts w hi v n) :
    Calls Try.prog 71 #[v] w fun e w' => (∃ (E : Z.Eqn) (p q v : Value) (xs : List Z.St), e = .returned (.tuple #[.agg #[.int .i64 E.L.dg, .int .i64 E.L.tn, .string E.L.nm, p, .int .i64 E.R.dg, .int .i64 E.R.tn, .string E.R.nm, q], v]) ∧ (E.L.nm.size ≤ 7 ∧ E.L.pw.length ≤ 6) ∧ (E.R.nm.size ≤ 7 ∧ E.R.pw.length ≤ 6) ∧ K.ints w' w.heap.size w'.heap.size p E.L.pw ∧ K.ints w' w.heap.size w'.heap.size q E.R.pw ∧ (xs.length ≤ 13 ∧ ∀ s ∈ xs, 0 ≤ (s : Z.St).nm ∧ s.nm ≤ 255) ∧ K.recs false K.StR w' w.heap.size w'.heap.size v xs) ∧ K.Ext w w' := by
  have F0 : K.Ext w w := K.Ext.refl _
  go_enter Try.func71, Try.ntmps71
  go_wp2_with fail
  refine K.call (by with_reducible rfl) (by with_reducible rfl) (l01From_at (w.heap.size + 1) _ (by simp) hn (by omega) (h.ext (K.bex F0))) ?_
  rintro e w1 ⟨⟨rfl, s1⟩, f1⟩
  have z1 := f1.size
  (try simp at z1)
  have F1 : K.Ext w w1 := K.Ext.trans (K.bex F0) f1
  have c1_0_0 : w1.cell? ⟨w.heap.size, 0, none⟩ = some (.int .i64 0) := f1.cell_of (by go_simp)
  have d1_0_0 : w1.frozen? ⟨w.heap.size, 0, none⟩ = false := f1.thaw_of (by go_simp) (by go_simp)
  have c1_0_1 : w1.cell? ⟨w.heap.size, 1, none⟩ = some (.int .i64 0) := f1.cell_of (by go_simp)
  have d1_0_1 : w1.frozen? ⟨w.heap.size, 1, none⟩ = false := f1.thaw_of (by go_simp) (by go_simp)
  have c1_0_2 : w1.cell? ⟨w.heap.size, 2, none⟩ = some (.string ⟨#[]⟩) := f1.cell_of (by go_simp)
  have d1_0_2 : w1.frozen? ⟨w.heap.size, 2, none⟩ = false := f1.thaw_of (by go_simp) (by go_simp)
  have c1_0_3 : w1.cell? ⟨w.heap.size, 3, none⟩ = some (.slice none 0 0) := f1.cell_of (by go_simp)
  have d1_0_3 : w1.frozen? ⟨w.heap.size, 3, none⟩ = false := f1.thaw_of (by go_simp) (by go_simp)
  have c1_0_4 : w1.cell? ⟨w.heap.size, 4, none⟩ = some (.int .i64 0) := f1.cell_of (by go_simp)
  have d1_0_4 : w1.frozen? ⟨w.heap.size, 4, none⟩ = false := f1.thaw_of (by go_simp) (by go_simp)
  have c1_0_5 : w1.cell? ⟨w.heap.size, 5, none⟩ = some (.int .i64 0) := f1.cell_of (by go_simp)
  have d1_0_5 : w1.frozen? ⟨w.heap.size, 5, none⟩ = false := f1.thaw_of (by go_simp) (by go_simp)
  have c1_0_6 : w1.cell? ⟨w.heap.size, 6, none⟩ = some (.string ⟨#[]⟩) := f1.cell_of (by go_simp)
  have d1_0_6 : w1.frozen? ⟨w.heap.size, 6, none⟩ = false := f1.thaw_of (by go_simp) (by go_simp)
  have c1_0_7 : w1.cell? ⟨w.heap.size, 7, none⟩ = some (.slice none 0 0) := f1.cell_of (by go_simp)
  have d1_0_7 : w1.frozen? ⟨w.heap.size, 7, none⟩ = false := f1.thaw_of (by go_simp) (by go_simp)
  have y1_0 : w.heap.size < w1.heap.size := World.block_lt_of_cell? w1 _ c1_0_0
  have lg := s1.lt
  go_wp2_with fail
  refine K.call (by with_reducible rfl) (by with_reducible rfl) (l20Draw_any (w.heap.size + 1) _ (K.bsr s1)) ?_
  rintro e w2 ⟨⟨E, pE, qE, rfl, ⟨hnE, hmE⟩, ⟨jnE, jmE⟩, hiE, jiE⟩, s2, f2⟩
  have z2 := f2.size
  (try simp at z2)
  have F2 : K.Ext w w2 := K.Far.ext (K.bex F1) f2 (by omega)
  obtain ⟨c2_0_0, c2_0_1, c2_0_2, c2_0_3, c2_0_4, c2_0_5, c2_0_6, c2_0_7, d2_0_0, d2_0_1, d2_0_2, d2_0_3, d2_0_4, d2_0_5, d2_0_6, d2_0_7, y2_0⟩ := f2.p8 c1_0_0 c1_0_1 c1_0_2 c1_0_3 c1_0_4 c1_0_5 c1_0_6 c1_0_7 d1_0_0 d1_0_1 d1_0_2 d1_0_3 d1_0_4 d1_0_5 d1_0_6 d1_0_7
  obtain ⟨oEL, kEL, rfl, _⟩ := id hiE
  obtain ⟨oER, kER, rfl, _⟩ := id jiE
  have IEL_2 : K.ints w2 (w1.heap.size) w2.heap.size (.slice oEL E.L.pw.length kEL) E.L.pw := hiE.mono (by simp) (Nat.le_refl _)
  have IER_2 : K.ints w2 (w1.heap.size) w2.heap.size (.slice oER E.R.pw.length kER) E.R.pw := jiE.mono (by simp) (Nat.le_refl _)
  clear hiE jiE
  have uh_0_1 : w.heap.size < w2.heap.size + 1 := (by omega)
  go_wp2_with fail
  have ne0_1 : ¬ (w.heap.size = w2.heap.size) := (by omega)
  have nf0_1 : ¬ (w2.heap.size = w.heap.size) := (by omega)
  go_region_held3 (fun w' => w'.cell? ⟨w2.heap.size, 0, none⟩ = some (.int .i64 E.L.dg) ∧ w'.cell? ⟨w2.heap.size, 1, none⟩ = some (.int .i64 E.L.tn) ∧ w'.cell? ⟨w2.heap.size, 2, none⟩ = some (.string E.L.nm) ∧ w'.cell? ⟨w2.heap.size, 3, none⟩ = some (.slice oEL E.L.pw.length kEL) ∧ w'.cell? ⟨w2.heap.size, 4, none⟩ = some (.int .i64 E.R.dg) ∧ w'.cell? ⟨w2.heap.size, 5, none⟩ = some (.int .i64 E.R.tn) ∧ w'.cell? ⟨w2.heap.size, 6, none⟩ = some (.string E.R.nm) ∧ w'.cell? ⟨w2.heap.size, 7, none⟩ = some (.slice oER E.R.pw.length kER)) ((repeat' apply And.intro) <;> go_simp) ((go_at_call 147; refine K.call (by with_reducible rfl) (by with_reducible rfl) (l21Draw_any (w.heap.size + 1) _ (K.bsr s2)) ?_; rintro e w3 ⟨⟨v, xs, rfl, hxs, hX⟩, s3, f3⟩; have z3 := f3.size; (try simp at z3); have F3 : K.Ext w w3 := K.Far.ext (K.bex F2) f3 (by omega); have u3_0_1 : w.heap.size < w2.heap.size + 1 := (by omega); obtain ⟨c3_0_0, c3_0_1, c3_0_2, c3_0_3, c3_0_4, c3_0_5, c3_0_6, c3_0_7, d3_0_0, d3_0_1, d3_0_2, d3_0_3, d3_0_4, d3_0_5, d3_0_6, d3_0_7, y3_0⟩ := f3.p8 c2_0_0 c2_0_1 c2_0_2 c2_0_3 c2_0_4 c2_0_5 c2_0_6 c2_0_7 d2_0_0 d2_0_1 d2_0_2 d2_0_3 d2_0_4 d2_0_5 d2_0_6 d2_0_7; have c3_1_0 : w3.cell? ⟨w2.heap.size, 0, none⟩ = some (.int .i64 E.L.dg) := f3.cell_of (by go_simp) (by (try dsimp only); omega); have d3_1_0 : w3.frozen? ⟨w2.heap.size, 0, none⟩ = false := f3.thaw_of (by go_simp) (by go_simp) (by (try dsimp only); omega); have c3_1_1 : w3.cell? ⟨w2.heap.size, 1, none⟩ = some (.int .i64 E.L.tn) := f3.cell_of (by go_simp) (by (try dsimp only); omega); have d3_1_1 : w3.frozen? ⟨w2.heap.size, 1, none⟩ = false := f3.thaw_of (by go_simp) (by go_simp) (by (try dsimp only); omega); have c3_1_2 : w3.cell? ⟨w2.heap.size, 2, none⟩ = some (.string E.L.nm) := f3.cell_of (by go_simp) (by (try dsimp only); omega); have d3_1_2 : w3.frozen? ⟨w2.heap.size, 2, none⟩ = false := f3.thaw_of (by go_simp) (by go_simp) (by (try dsimp only); omega); have c3_1_3 : w3.cell? ⟨w2.heap.size, 3, none⟩ = some (.slice oEL E.L.pw.length kEL) := f3.cell_of (by go_simp) (by (try dsimp only); omega); have d3_1_3 : w3.frozen? ⟨w2.heap.size, 3, none⟩ = false := f3.thaw_of (by go_simp) (by go_simp) (by (try dsimp only); omega); have c3_1_4 : w3.cell? ⟨w2.heap.size, 4, none⟩ = some (.int .i64 E.R.dg) := f3.cell_of (by go_simp) (by (try dsimp only); omega); have d3_1_4 : w3.frozen? ⟨w2.heap.size, 4, none⟩ = false := f3.thaw_of (by go_simp) (by go_simp) (by (try dsimp only); omega); have c3_1_5 : w3.cell? ⟨w2.heap.size, 5, none⟩ = some (.int .i64 E.R.tn) := f3.cell_of (by go_simp) (by (try dsimp only); omega); have d3_1_5 : w3.frozen? ⟨w2.heap.size, 5, none⟩ = false := f3.thaw_of (by go_simp) (by go_simp) (by (try dsimp only); omega); have c3_1_6 : w3.cell? ⟨w2.heap.size, 6, none⟩ = some (.string E.R.nm) := f3.cell_of (by go_simp) (by (try dsimp only); omega); have d3_1_6 : w3.frozen? ⟨w2.heap.size, 6, none⟩ = false := f3.thaw_of (by go_simp) (by go_simp) (by (try dsimp only); omega); have c3_1_7 : w3.cell? ⟨w2.heap.size, 7, none⟩ = some (.slice oER E.R.pw.length kER) := f3.cell_of (by go_simp) (by (try dsimp only); omega); have d3_1_7 : w3.frozen? ⟨w2.heap.size, 7, none⟩ = false := f3.thaw_of (by go_simp) (by go_simp) (by (try dsimp only); omega); have y3_1 : w2.heap.size < w3.heap.size := World.block_lt_of_cell? w3 _ c3_1_0; have IEL_3 := K.ints.far (K.bin IEL_2) f3 (by first | exact .inl (by omega) | exact .inr (by omega)); have IER_3 := K.ints.far (K.bin IER_2) f3 (by first | exact .inl (by omega) | exact .inr (by omega)); obtain ⟨oX, kX, rfl, _⟩ := id hX; have IX_3 : K.recs false K.StR w3 (w2.heap.size + 1) w3.heap.size (.slice oX xs.length kX) xs := K.recs.mono hX (by simp) (Nat.le_refl _); clear hX))
  go_wp2_with fail
  all_goals refine bodyPost_ret (v := .tuple #[.agg #[.int .i64 E.L.dg, .int .i64 E.L.tn, .string E.L.nm, .slice oEL E.L.pw.length kEL, .int .i64 E.R.dg, .int .i64 E.R.tn, .string E.R.nm, .slice oER E.R.pw.length kER], .slice oX xs.length kX]) (by unfold results; rw [Try.results71]; go_simp) rfl ⟨⟨E, _, _, _, xs, rfl, ⟨hnE, hmE⟩, ⟨jnE, jmE⟩, K.ints.mono (K.bin IEL_3) (by omega) (by first | omega | (simp; done) | (simp; omega)), K.ints.mono (K.bin IER_3) (by omega) (by first | omega | (simp; done) | (simp; omega)), hxs, K.recs.mono (K.bre IX_3) (by omega) (by first | omega | (simp; done) | (simp; omega))⟩, (K.bex F3)⟩
end Go.Proofs.Ythmnlbgbacbocaa
end
section
namespace Go.Proofs.Ythmnlbgbacbocaa
open Go.RowKit
set_option maxRecDepth 100000 in
set_option maxHeartbeats 12800000 in
theorem DrawIsDerivation_any {hi n : Nat} {v : Value} (w : World) (hn : n ≤ 4096) (hh : hi ≤ w.heap.size) (h : K.byts w hi v n) :
    Calls Try.prog 77 #[v] w fun e w' => (∃ (E : Z.Eqn) (p q v : Value) (xs : List Z.St) (G : Z.Eqn) (p2 q2 : Value), e = .returned (.tuple #[.agg #[.int .i64 E.L.dg, .int .i64 E.L.tn, .string E.L.nm, p, .int .i64 E.R.dg, .int .i64 E.R.tn, .string E.R.nm, q], v, .agg #[.int .i64 G.L.dg, .int .i64 G.L.tn, .string G.L.nm, p2, .int .i64 G.R.dg, .int .i64 G.R.tn, .string G.R.nm, q2]]) ∧ (E.L.nm.size ≤ 7 ∧ E.L.pw.length ≤ 6) ∧ (E.R.nm.size ≤ 7 ∧ E.R.pw.length ≤ 6) ∧ K.ints w' w.heap.size w'.heap.size p E.L.pw ∧ K.ints w' w.heap.size w'.heap.size q E.R.pw ∧ (xs.length ≤ 13 ∧ ∀ s ∈ xs, 0 ≤ (s : Z.St).nm ∧ s.nm ≤ 255) ∧ K.recs false K.StR w' w.heap.size w'.heap.size v xs ∧ (G.L.nm.size ≤ 1048576 ∧ G.L.pw.length ≤ 1048576) ∧ (G.R.nm.size ≤ 1048576 ∧ G.R.pw.length ≤ 1048576) ∧ K.ints w' w.heap.size w'.heap.size p2 G.L.pw ∧ K.ints w' w.heap.size w'.heap.size q2 G.R.pw) ∧ K.Ext w w' := by
  have F0 : K.Ext w w := K.Ext.refl _
  go_enter Try.func77, Try.ntmps77
  go_wp2_with fail
  refine K.call (by with_reducible rfl) (by with_reducible rfl) (l01From_at (w.heap.size + 1 + 1) _ (by simp) hn (by omega) (h.ext (K.bex F0))) ?_
  rintro e w1 ⟨⟨rfl, s1⟩, f1⟩
  have z1 := f1.size
  (try simp at z1)
  have F1 : K.Ext w w1 := K.Ext.trans (K.bex F0) f1
  have c1_0_0 : w1.cell? ⟨w.heap.size, 0, none⟩ = some (.int .i64 0) := f1.cell_of (by go_simp)
  have d1_0_0 : w1.frozen? ⟨w.heap.size, 0, none⟩ = false := f1.thaw_of (by go_simp) (by go_simp)
  have c1_0_1 : w1.cell? ⟨w.heap.size, 1, none⟩ = some (.int .i64 0) := f1.cell_of (by go_simp)
  have d1_0_1 : w1.frozen? ⟨w.heap.size, 1, none⟩ = false := f1.thaw_of (by go_simp) (by go_simp)
  have c1_0_2 : w1.cell? ⟨w.heap.size, 2, none⟩ = some (.string ⟨#[]⟩) := f1.cell_of (by go_simp)
  have d1_0_2 : w1.frozen? ⟨w.heap.size, 2, none⟩ = false := f1.thaw_of (by go_simp) (by go_simp)
  have c1_0_3 : w1.cell? ⟨w.heap.size, 3, none⟩ = some (.slice none 0 0) := f1.cell_of (by go_simp)
  have d1_0_3 : w1.frozen? ⟨w.heap.size, 3, none⟩ = false := f1.thaw_of (by go_simp) (by go_simp)
  have c1_0_4 : w1.cell? ⟨w.heap.size, 4, none⟩ = some (.int .i64 0) := f1.cell_of (by go_simp)
  have d1_0_4 : w1.frozen? ⟨w.heap.size, 4, none⟩ = false := f1.thaw_of (by go_simp) (by go_simp)
  have c1_0_5 : w1.cell? ⟨w.heap.size, 5, none⟩ = some (.int .i64 0) := f1.cell_of (by go_simp)
  have d1_0_5 : w1.frozen? ⟨w.heap.size, 5, none⟩ = false := f1.thaw_of (by go_simp) (by go_simp)
  have c1_0_6 : w1.cell? ⟨w.heap.size, 6, none⟩ = some (.string ⟨#[]⟩) := f1.cell_of (by go_simp)
  have d1_0_6 : w1.frozen? ⟨w.heap.size, 6, none⟩ = false := f1.thaw_of (by go_simp) (by go_simp)
  have c1_0_7 : w1.cell? ⟨w.heap.size, 7, none⟩ = some (.slice none 0 0) := f1.cell_of (by go_simp)
  have d1_0_7 : w1.frozen? ⟨w.heap.size, 7, none⟩ = false := f1.thaw_of (by go_simp) (by go_simp)
  have y1_0 : w.heap.size < w1.heap.size := World.block_lt_of_cell? w1 _ c1_0_0
  have c1_1_0 : w1.cell? ⟨w.heap.size + 1, 0, none⟩ = some (.int .i64 0) := f1.cell_of (by go_simp)
  have d1_1_0 : w1.frozen? ⟨w.heap.size + 1, 0, none⟩ = false := f1.thaw_of (by go_simp) (by go_simp)
  have c1_1_1 : w1.cell? ⟨w.heap.size + 1, 1, none⟩ = some (.int .i64 0) := f1.cell_of (by go_simp)
  have d1_1_1 : w1.frozen? ⟨w.heap.size + 1, 1, none⟩ = false := f1.thaw_of (by go_simp) (by go_simp)
  have c1_1_2 : w1.cell? ⟨w.heap.size + 1, 2, none⟩ = some (.string ⟨#[]⟩) := f1.cell_of (by go_simp)
  have d1_1_2 : w1.frozen? ⟨w.heap.size + 1, 2, none⟩ = false := f1.thaw_of (by go_simp) (by go_simp)
  have c1_1_3 : w1.cell? ⟨w.heap.size + 1, 3, none⟩ = some (.slice none 0 0) := f1.cell_of (by go_simp)
  have d1_1_3 : w1.frozen? ⟨w.heap.size + 1, 3, none⟩ = false := f1.thaw_of (by go_simp) (by go_simp)
  have c1_1_4 : w1.cell? ⟨w.heap.size + 1, 4, none⟩ = some (.int .i64 0) := f1.cell_of (by go_simp)
  have d1_1_4 : w1.frozen? ⟨w.heap.size + 1, 4, none⟩ = false := f1.thaw_of (by go_simp) (by go_simp)
  have c1_1_5 : w1.cell? ⟨w.heap.size + 1, 5, none⟩ = some (.int .i64 0) := f1.cell_of (by go_simp)
  have d1_1_5 : w1.frozen? ⟨w.heap.size + 1, 5, none⟩ = false := f1.thaw_of (by go_simp) (by go_simp)
  have c1_1_6 : w1.cell? ⟨w.heap.size + 1, 6, none⟩ = some (.string ⟨#[]⟩) := f1.cell_of (by go_simp)
  have d1_1_6 : w1.frozen? ⟨w.heap.size + 1, 6, none⟩ = false := f1.thaw_of (by go_simp) (by go_simp)
  have c1_1_7 : w1.cell? ⟨w.heap.size + 1, 7, none⟩ = some (.slice none 0 0) := f1.cell_of (by go_simp)
  have d1_1_7 : w1.frozen? ⟨w.heap.size + 1, 7, none⟩ = false := f1.thaw_of (by go_simp) (by go_simp)
  have y1_1 : w.heap.size + 1 < w1.heap.size := World.block_lt_of_cell? w1 _ c1_1_0
  have lg := s1.lt
  go_wp2_with fail
  refine K.call (by with_reducible rfl) (by with_reducible rfl) (DrawRunSteps_any _ hn (Nat.le_trans hh (K.Ext.size (K.bex F1))) (h.ext (K.bex F1))) ?_
  rintro e w2 ⟨⟨E, p, q, v, xs, rfl, ⟨hnE, hmE⟩, ⟨jnE, jmE⟩, hiE, jiE, hxs, hX⟩, f2⟩
  have s2 := K.Src.ext (K.bsr s1) f2
  have z2 := f2.size
  (try simp at z2)
  have F2 : K.Ext w w2 := K.Ext.trans (K.bex F1) f2
  obtain ⟨c2_0_0, c2_0_1, c2_0_2, c2_0_3, c2_0_4, c2_0_5, c2_0_6, c2_0_7, d2_0_0, d2_0_1, d2_0_2, d2_0_3, d2_0_4, d2_0_5, d2_0_6, d2_0_7, y2_0⟩ := f2.p8 c1_0_0 c1_0_1 c1_0_2 c1_0_3 c1_0_4 c1_0_5 c1_0_6 c1_0_7 d1_0_0 d1_0_1 d1_0_2 d1_0_3 d1_0_4 d1_0_5 d1_0_6 d1_0_7
  obtain ⟨c2_1_0, c2_1_1, c2_1_2, c2_1_3, c2_1_4, c2_1_5, c2_1_6, c2_1_7, d2_1_0, d2_1_1, d2_1_2, d2_1_3, d2_1_4, d2_1_5, d2_1_6, d2_1_7, y2_1⟩ := f2.p8 c1_1_0 c1_1_1 c1_1_2 c1_1_3 c1_1_4 c1_1_5 c1_1_6 c1_1_7 d1_1_0 d1_1_1 d1_1_2 d1_1_3 d1_1_4 d1_1_5 d1_1_6 d1_1_7
  obtain ⟨oEL, kEL, rfl, _⟩ := id (hiE)
  have IEL_2 : K.ints w2 (w1.heap.size) w2.heap.size (.slice oEL E.L.pw.length kEL) E.L.pw := K.ints.mono (hiE) (by simp) (by omega)
  obtain ⟨oER, kER, rfl, _⟩ := id (jiE)
  have IER_2 : K.ints w2 (w1.heap.size) w2.heap.size (.slice oER E.R.pw.length kER) E.R.pw := K.ints.mono (jiE) (by simp) (by omega)
  obtain ⟨oX, kX, rfl, _⟩ := id hX
  have IX_2 : K.recs false K.StR w2 (w1.heap.size) w2.heap.size (.slice oX xs.length kX) xs := K.recs.mono hX (by simp) (Nat.le_refl _)
  clear hX
  go_wp2_with fail
  refine K.call (by with_reducible rfl) (by with_reducible rfl) (spec_RunSteps E xs _ (by omega) (by omega) (by omega) (by omega) (K.bin IEL_2) (K.bin IER_2) (by omega) (K.bre IX_2)) ?_
  rintro e w3 ⟨⟨pG, qG, rfl, hG, jG⟩, f3⟩
  have s3 := K.Src.ext (K.bsr s2) f3
  have z3 := f3.size
  (try simp at z3)
  have F3 : K.Ext w w3 := K.Ext.trans (K.bex F2) f3
  have u3_0_1 : w.heap.size < w2.heap.size + 1 := (by omega)
  have u3_1_1 : w.heap.size + 1 < w2.heap.size + 1 := (by omega)
  obtain ⟨c3_0_0, c3_0_1, c3_0_2, c3_0_3, c3_0_4, c3_0_5, c3_0_6, c3_0_7, d3_0_0, d3_0_1, d3_0_2, d3_0_3, d3_0_4, d3_0_5, d3_0_6, d3_0_7, y3_0⟩ := f3.p8 c2_0_0 c2_0_1 c2_0_2 c2_0_3 c2_0_4 c2_0_5 c2_0_6 c2_0_7 d2_0_0 d2_0_1 d2_0_2 d2_0_3 d2_0_4 d2_0_5 d2_0_6 d2_0_7
  obtain ⟨c3_1_0, c3_1_1, c3_1_2, c3_1_3, c3_1_4, c3_1_5, c3_1_6, c3_1_7, d3_1_0, d3_1_1, d3_1_2, d3_1_3, d3_1_4, d3_1_5, d3_1_6, d3_1_7, y3_1⟩ := f3.p8 c2_1_0 c2_1_1 c2_1_2 c2_1_3 c2_1_4 c2_1_5 c2_1_6 c2_1_7 d2_1_0 d2_1_1 d2_1_2 d2_1_3 d2_1_4 d2_1_5 d2_1_6 d2_1_7
  have c3_2_0 : w3.cell? ⟨w2.heap.size, 0, none⟩ = some (.int .i64 E.L.dg) := f3.cell_of (by go_simp)
  have d3_2_0 : w3.frozen? ⟨w2.heap.size, 0, none⟩ = false := f3.thaw_of (by go_simp) (by go_simp)
  have c3_2_1 : w3.cell? ⟨w2.heap.size, 1, none⟩ = some (.int .i64 E.L.tn) := f3.cell_of (by go_simp)
  have d3_2_1 : w3.frozen? ⟨w2.heap.size, 1, none⟩ = false := f3.thaw_of (by go_simp) (by go_simp)
  have c3_2_2 : w3.cell? ⟨w2.heap.size, 2, none⟩ = some (.string E.L.nm) := f3.cell_of (by go_simp)
  have d3_2_2 : w3.frozen? ⟨w2.heap.size, 2, none⟩ = false := f3.thaw_of (by go_simp) (by go_simp)
  have c3_2_3 : w3.cell? ⟨w2.heap.size, 3, none⟩ = some (.slice oEL E.L.pw.length kEL) := f3.cell_of (by go_simp)
  have d3_2_3 : w3.frozen? ⟨w2.heap.size, 3, none⟩ = false := f3.thaw_of (by go_simp) (by go_simp)
  have c3_2_4 : w3.cell? ⟨w2.heap.size, 4, none⟩ = some (.int .i64 E.R.dg) := f3.cell_of (by go_simp)
  have d3_2_4 : w3.frozen? ⟨w2.heap.size, 4, none⟩ = false := f3.thaw_of (by go_simp) (by go_simp)
  have c3_2_5 : w3.cell? ⟨w2.heap.size, 5, none⟩ = some (.int .i64 E.R.tn) := f3.cell_of (by go_simp)
  have d3_2_5 : w3.frozen? ⟨w2.heap.size, 5, none⟩ = false := f3.thaw_of (by go_simp) (by go_simp)
  have c3_2_6 : w3.cell? ⟨w2.heap.size, 6, none⟩ = some (.string E.R.nm) := f3.cell_of (by go_simp)
  have d3_2_6 : w3.frozen? ⟨w2.heap.size, 6, none⟩ = false := f3.thaw_of (by go_simp) (by go_simp)
  have c3_2_7 : w3.cell? ⟨w2.heap.size, 7, none⟩ = some (.slice oER E.R.pw.length kER) := f3.cell_of (by go_simp)
  have d3_2_7 : w3.frozen? ⟨w2.heap.size, 7, none⟩ = false := f3.thaw_of (by go_simp) (by go_simp)
  have y3_2 : w2.heap.size < w3.heap.size := World.block_lt_of_cell? w3 _ c3_2_0
  have IEL_3 := K.ints.ext (K.bin IEL_2) f3
  have IER_3 := K.ints.ext (K.bin IER_2) f3
  have IX_3 := K.recs.ext (K.bre IX_2) f3
  obtain ⟨oGL, kGL, rfl, _⟩ := id (hG)
  have IGL_3 : K.ints w3 (w2.heap.size + 1) w3.heap.size (.slice oGL ((Z.RunSteps E xs).1.L).pw.length kGL) ((Z.RunSteps E xs).1.L).pw := K.ints.mono (hG) (by simp) (by omega)
  obtain ⟨oGR, kGR, rfl, _⟩ := id (jG)
  have IGR_3 : K.ints w3 (w2.heap.size + 1) w3.heap.size (.slice oGR ((Z.RunSteps E xs).1.R).pw.length kGR) ((Z.RunSteps E xs).1.R).pw := K.ints.mono (jG) (by simp) (by omega)
  obtain ⟨M1, M2⟩ := Z.RunSteps_le E xs
  obtain ⟨M3, M4⟩ := Z.RunSteps_nm E xs
  by_cases hb : (Z.RunSteps E xs).2 = 0
  · skip
    go_wp2_with fail
    refine K.call (by with_reducible rfl) (by with_reducible rfl) (l01Next_any (w.heap.size + 1 + 1) (4) _ (K.bsr s3)) ?_
    rintro e w4 ⟨⟨m, rfl, m0, m1, m2⟩, s4, f4⟩
    have z4 := f4.size
    (try simp at z4)
    have F4 : K.Ext w w4 := K.Far.ext (K.bex F3) f4 (by omega)
    have u4_0_1 : w.heap.size < w3.heap.size + 1 := (by omega)
    have u4_1_1 : w.heap.size + 1 < w3.heap.size + 1 := (by omega)
    have u4_2_1 : w2.heap.size < w3.heap.size + 1 := (by omega)
    obtain ⟨c4_0_0, c4_0_1, c4_0_2, c4_0_3, c4_0_4, c4_0_5, c4_0_6, c4_0_7, d4_0_0, d4_0_1, d4_0_2, d4_0_3, d4_0_4, d4_0_5, d4_0_6, d4_0_7, y4_0⟩ := f4.p8 c3_0_0 c3_0_1 c3_0_2 c3_0_3 c3_0_4 c3_0_5 c3_0_6 c3_0_7 d3_0_0 d3_0_1 d3_0_2 d3_0_3 d3_0_4 d3_0_5 d3_0_6 d3_0_7
    obtain ⟨c4_1_0, c4_1_1, c4_1_2, c4_1_3, c4_1_4, c4_1_5, c4_1_6, c4_1_7, d4_1_0, d4_1_1, d4_1_2, d4_1_3, d4_1_4, d4_1_5, d4_1_6, d4_1_7, y4_1⟩ := f4.p8 c3_1_0 c3_1_1 c3_1_2 c3_1_3 c3_1_4 c3_1_5 c3_1_6 c3_1_7 d3_1_0 d3_1_1 d3_1_2 d3_1_3 d3_1_4 d3_1_5 d3_1_6 d3_1_7
    obtain ⟨c4_2_0, c4_2_1, c4_2_2, c4_2_3, c4_2_4, c4_2_5, c4_2_6, c4_2_7, d4_2_0, d4_2_1, d4_2_2, d4_2_3, d4_2_4, d4_2_5, d4_2_6, d4_2_7, y4_2⟩ := f4.p8 c3_2_0 c3_2_1 c3_2_2 c3_2_3 c3_2_4 c3_2_5 c3_2_6 c3_2_7 d3_2_0 d3_2_1 d3_2_2 d3_2_3 d3_2_4 d3_2_5 d3_2_6 d3_2_7
    have c4_3_0 : w4.cell? ⟨w3.heap.size, 0, none⟩ = some (.int .i64 ((Z.RunSteps E xs).1.L).dg) := f4.cell_of (by go_simp) (by (try dsimp only); omega)
    have d4_3_0 : w4.frozen? ⟨w3.heap.size, 0, none⟩ = false := f4.thaw_of (by go_simp) (by go_simp) (by (try dsimp only); omega)
    have c4_3_1 : w4.cell? ⟨w3.heap.size, 1, none⟩ = some (.int .i64 ((Z.RunSteps E xs).1.L).tn) := f4.cell_of (by go_simp) (by (try dsimp only); omega)
    have d4_3_1 : w4.frozen? ⟨w3.heap.size, 1, none⟩ = false := f4.thaw_of (by go_simp) (by go_simp) (by (try dsimp only); omega)
    have c4_3_2 : w4.cell? ⟨w3.heap.size, 2, none⟩ = some (.string ((Z.RunSteps E xs).1.L).nm) := f4.cell_of (by go_simp) (by (try dsimp only); omega)
    have d4_3_2 : w4.frozen? ⟨w3.heap.size, 2, none⟩ = false := f4.thaw_of (by go_simp) (by go_simp) (by (try dsimp only); omega)
    have c4_3_3 : w4.cell? ⟨w3.heap.size, 3, none⟩ = some (.slice oGL ((Z.RunSteps E xs).1.L).pw.length kGL) := f4.cell_of (by go_simp) (by (try dsimp only); omega)
    have d4_3_3 : w4.frozen? ⟨w3.heap.size, 3, none⟩ = false := f4.thaw_of (by go_simp) (by go_simp) (by (try dsimp only); omega)
    have c4_3_4 : w4.cell? ⟨w3.heap.size, 4, none⟩ = some (.int .i64 ((Z.RunSteps E xs).1.R).dg) := f4.cell_of (by go_simp) (by (try dsimp only); omega)
    have d4_3_4 : w4.frozen? ⟨w3.heap.size, 4, none⟩ = false := f4.thaw_of (by go_simp) (by go_simp) (by (try dsimp only); omega)
    have c4_3_5 : w4.cell? ⟨w3.heap.size, 5, none⟩ = some (.int .i64 ((Z.RunSteps E xs).1.R).tn) := f4.cell_of (by go_simp) (by (try dsimp only); omega)
    have d4_3_5 : w4.frozen? ⟨w3.heap.size, 5, none⟩ = false := f4.thaw_of (by go_simp) (by go_simp) (by (try dsimp only); omega)
    have c4_3_6 : w4.cell? ⟨w3.heap.size, 6, none⟩ = some (.string ((Z.RunSteps E xs).1.R).nm) := f4.cell_of (by go_simp) (by (try dsimp only); omega)
    have d4_3_6 : w4.frozen? ⟨w3.heap.size, 6, none⟩ = false := f4.thaw_of (by go_simp) (by go_simp) (by (try dsimp only); omega)
    have c4_3_7 : w4.cell? ⟨w3.heap.size, 7, none⟩ = some (.slice oGR ((Z.RunSteps E xs).1.R).pw.length kGR) := f4.cell_of (by go_simp) (by (try dsimp only); omega)
    have d4_3_7 : w4.frozen? ⟨w3.heap.size, 7, none⟩ = false := f4.thaw_of (by go_simp) (by go_simp) (by (try dsimp only); omega)
    have y4_3 : w3.heap.size < w4.heap.size := World.block_lt_of_cell? w4 _ c4_3_0
    have IEL_4 := K.ints.far (K.bin IEL_3) f4 (by first | exact .inl (by omega) | exact .inr (by omega))
    have IER_4 := K.ints.far (K.bin IER_3) f4 (by first | exact .inl (by omega) | exact .inr (by omega))
    have IX_4 := K.recs.far (by decide) (K.bre IX_3) f4 (by first | exact .inl (by omega) | exact .inr (by omega))
    have IGL_4 := K.ints.far (K.bin IGL_3) f4 (by first | exact .inl (by omega) | exact .inr (by omega))
    have IGR_4 := K.ints.far (K.bin IGR_3) f4 (by first | exact .inl (by omega) | exact .inr (by omega))
    by_cases m0_ : m = 0
    · subst m0_
      go_wp2_with fail
      refine K.call (by with_reducible rfl) (by with_reducible rfl) (l20Draw_any (w.heap.size + 1 + 1) _ (K.bsr s4)) ?_
      rintro e w5 ⟨⟨H, pH, qH, rfl, ⟨hnH, hmH⟩, ⟨jnH, jmH⟩, hiH, jiH⟩, s5, f5⟩
      have z5 := f5.size
      (try simp at z5)
      have F5 : K.Ext w w5 := K.Far.ext (K.bex F4) f5 (by omega)
      obtain ⟨c5_0_0, c5_0_1, c5_0_2, c5_0_3, c5_0_4, c5_0_5, c5_0_6, c5_0_7, d5_0_0, d5_0_1, d5_0_2, d5_0_3, d5_0_4, d5_0_5, d5_0_6, d5_0_7, y5_0⟩ := f5.p8 c4_0_0 c4_0_1 c4_0_2 c4_0_3 c4_0_4 c4_0_5 c4_0_6 c4_0_7 d4_0_0 d4_0_1 d4_0_2 d4_0_3 d4_0_4 d4_0_5 d4_0_6 d4_0_7
      obtain ⟨c5_1_0, c5_1_1, c5_1_2, c5_1_3, c5_1_4, c5_1_5, c5_1_6, c5_1_7, d5_1_0, d5_1_1, d5_1_2, d5_1_3, d5_1_4, d5_1_5, d5_1_6, d5_1_7, y5_1⟩ := f5.p8 c4_1_0 c4_1_1 c4_1_2 c4_1_3 c4_1_4 c4_1_5 c4_1_6 c4_1_7 d4_1_0 d4_1_1 d4_1_2 d4_1_3 d4_1_4 d4_1_5 d4_1_6 d4_1_7
      obtain ⟨c5_2_0, c5_2_1, c5_2_2, c5_2_3, c5_2_4, c5_2_5, c5_2_6, c5_2_7, d5_2_0, d5_2_1, d5_2_2, d5_2_3, d5_2_4, d5_2_5, d5_2_6, d5_2_7, y5_2⟩ := f5.p8 c4_2_0 c4_2_1 c4_2_2 c4_2_3 c4_2_4 c4_2_5 c4_2_6 c4_2_7 d4_2_0 d4_2_1 d4_2_2 d4_2_3 d4_2_4 d4_2_5 d4_2_6 d4_2_7
      obtain ⟨c5_3_0, c5_3_1, c5_3_2, c5_3_3, c5_3_4, c5_3_5, c5_3_6, c5_3_7, d5_3_0, d5_3_1, d5_3_2, d5_3_3, d5_3_4, d5_3_5, d5_3_6, d5_3_7, y5_3⟩ := f5.p8 c4_3_0 c4_3_1 c4_3_2 c4_3_3 c4_3_4 c4_3_5 c4_3_6 c4_3_7 d4_3_0 d4_3_1 d4_3_2 d4_3_3 d4_3_4 d4_3_5 d4_3_6 d4_3_7
      have IEL_5 := K.ints.far (K.bin IEL_4) f5 (by first | exact .inl (by omega) | exact .inr (by omega))
      have IER_5 := K.ints.far (K.bin IER_4) f5 (by first | exact .inl (by omega) | exact .inr (by omega))
      have IX_5 := K.recs.far (by decide) (K.bre IX_4) f5 (by first | exact .inl (by omega) | exact .inr (by omega))
      have IGL_5 := K.ints.far (K.bin IGL_4) f5 (by first | exact .inl (by omega) | exact .inr (by omega))
      have IGR_5 := K.ints.far (K.bin IGR_4) f5 (by first | exact .inl (by omega) | exact .inr (by omega))
      obtain ⟨oHL, kHL, rfl, _⟩ := id hiH
      obtain ⟨oHR, kHR, rfl, _⟩ := id jiH
      have IHL_5 : K.ints w5 (w4.heap.size) w5.heap.size (.slice oHL H.L.pw.length kHL) H.L.pw := hiH.mono (by simp) (Nat.le_refl _)
      have IHR_5 : K.ints w5 (w4.heap.size) w5.heap.size (.slice oHR H.R.pw.length kHR) H.R.pw := jiH.mono (by simp) (Nat.le_refl _)
      clear hiH jiH
      have ne0_2 : ¬ (w.heap.size = w2.heap.size) := (by omega)
      have nf0_2 : ¬ (w2.heap.size = w.heap.size) := (by omega)
      have ne0_3 : ¬ (w.heap.size = w3.heap.size) := (by omega)
      have nf0_3 : ¬ (w3.heap.size = w.heap.size) := (by omega)
      have ne1_2 : ¬ (w.heap.size + 1 = w2.heap.size) := (by omega)
      have nf1_2 : ¬ (w2.heap.size = w.heap.size + 1) := (by omega)
      have ne1_3 : ¬ (w.heap.size + 1 = w3.heap.size) := (by omega)
      have nf1_3 : ¬ (w3.heap.size = w.heap.size + 1) := (by omega)
      go_wp2_with fail
      go_region
      all_goals go_wp2_with fail
      all_goals refine bodyPost_ret (v := .tuple #[.agg #[.int .i64 E.L.dg, .int .i64 E.L.tn, .string E.L.nm, .slice oEL E.L.pw.length kEL, .int .i64 E.R.dg, .int .i64 E.R.tn, .string E.R.nm, .slice oER E.R.pw.length kER], .slice oX xs.length kX, .agg #[.int .i64 H.L.dg, .int .i64 H.L.tn, .string H.L.nm, .slice oHL H.L.pw.length kHL, .int .i64 H.R.dg, .int .i64 H.R.tn, .string H.R.nm, .slice oHR H.R.pw.length kHR]]) (by unfold results; rw [Try.results77]; go_simp) rfl ⟨⟨E, _, _, _, xs, H, _, _, rfl, ⟨hnE, hmE⟩, ⟨jnE, jmE⟩, K.ints.mono (K.bin IEL_5) (by omega) (by first | omega | (simp; done) | (simp; omega)), K.ints.mono (K.bin IER_5) (by omega) (by first | omega | (simp; done) | (simp; omega)), hxs, K.recs.mono (K.bre IX_5) (by omega) (by first | omega | (simp; done) | (simp; omega)), ⟨by omega, by omega⟩, ⟨by omega, by omega⟩, K.ints.mono (K.bin IHL_5) (by omega) (by first | omega | (simp; done) | (simp; omega)), K.ints.mono (K.bin IHR_5) (by omega) (by first | omega | (simp; done) | (simp; omega))⟩, (K.bex F5)⟩
    have m0' : (m == 0) = false := by simpa using m0_
    have ne0_2 : ¬ (w.heap.size = w2.heap.size) := (by omega)
    have nf0_2 : ¬ (w2.heap.size = w.heap.size) := (by omega)
    have ne0_3 : ¬ (w.heap.size = w3.heap.size) := (by omega)
    have nf0_3 : ¬ (w3.heap.size = w.heap.size) := (by omega)
    have ne1_2 : ¬ (w.heap.size + 1 = w2.heap.size) := (by omega)
    have nf1_2 : ¬ (w2.heap.size = w.heap.size + 1) := (by omega)
    have ne1_3 : ¬ (w.heap.size + 1 = w3.heap.size) := (by omega)
    have nf1_3 : ¬ (w3.heap.size = w.heap.size + 1) := (by omega)
    go_wp2_with fail
    go_region
    all_goals go_wp2_with fail
    all_goals refine bodyPost_ret (v := .tuple #[.agg #[.int .i64 E.L.dg, .int .i64 E.L.tn, .string E.L.nm, .slice oEL E.L.pw.length kEL, .int .i64 E.R.dg, .int .i64 E.R.tn, .string E.R.nm, .slice oER E.R.pw.length kER], .slice oX xs.length kX, .agg #[.int .i64 ((Z.RunSteps E xs).1.L).dg, .int .i64 ((Z.RunSteps E xs).1.L).tn, .string ((Z.RunSteps E xs).1.L).nm, .slice oGL ((Z.RunSteps E xs).1.L).pw.length kGL, .int .i64 ((Z.RunSteps E xs).1.R).dg, .int .i64 ((Z.RunSteps E xs).1.R).tn, .string ((Z.RunSteps E xs).1.R).nm, .slice oGR ((Z.RunSteps E xs).1.R).pw.length kGR]]) (by unfold results; rw [Try.results77]; go_simp) rfl ⟨⟨E, _, _, _, xs, (Z.RunSteps E xs).1, _, _, rfl, ⟨hnE, hmE⟩, ⟨jnE, jmE⟩, K.ints.mono (K.bin IEL_4) (by omega) (by first | omega | (simp; done) | (simp; omega)), K.ints.mono (K.bin IER_4) (by omega) (by first | omega | (simp; done) | (simp; omega)), hxs, K.recs.mono (K.bre IX_4) (by omega) (by first | omega | (simp; done) | (simp; omega)), ⟨M3, M1⟩, ⟨M4, M2⟩, K.ints.mono (K.bin IGL_4) (by omega) (by first | omega | (simp; done) | (simp; omega)), K.ints.mono (K.bin IGR_4) (by omega) (by first | omega | (simp; done) | (simp; omega))⟩, (K.bex F4)⟩
  have hb' : ((Z.RunSteps E xs).2 == 0) = false := by simpa using hb
  go_wp2_with fail
  refine K.call (by with_reducible rfl) (by with_reducible rfl) (l20Draw_any (w.heap.size + 1 + 1) _ (K.bsr s3)) ?_
  rintro e w4 ⟨⟨H, pH, qH, rfl, ⟨hnH, hmH⟩, ⟨jnH, jmH⟩, hiH, jiH⟩, s4, f4⟩
  have z4 := f4.size
  (try simp at z4)
  have F4 : K.Ext w w4 := K.Far.ext (K.bex F3) f4 (by omega)
  have u4_0_1 : w.heap.size < w3.heap.size + 1 := (by omega)
  have u4_1_1 : w.heap.size + 1 < w3.heap.size + 1 := (by omega)
  have u4_2_1 : w2.heap.size < w3.heap.size + 1 := (by omega)
  obtain ⟨c4_0_0, c4_0_1, c4_0_2, c4_0_3, c4_0_4, c4_0_5, c4_0_6, c4_0_7, d4_0_0, d4_0_1, d4_0_2, d4_0_3, d4_0_4, d4_0_5, d4_0_6, d4_0_7, y4_0⟩ := f4.p8 c3_0_0 c3_0_1 c3_0_2 c3_0_3 c3_0_4 c3_0_5 c3_0_6 c3_0_7 d3_0_0 d3_0_1 d3_0_2 d3_0_3 d3_0_4 d3_0_5 d3_0_6 d3_0_7
  obtain ⟨c4_1_0, c4_1_1, c4_1_2, c4_1_3, c4_1_4, c4_1_5, c4_1_6, c4_1_7, d4_1_0, d4_1_1, d4_1_2, d4_1_3, d4_1_4, d4_1_5, d4_1_6, d4_1_7, y4_1⟩ := f4.p8 c3_1_0 c3_1_1 c3_1_2 c3_1_3 c3_1_4 c3_1_5 c3_1_6 c3_1_7 d3_1_0 d3_1_1 d3_1_2 d3_1_3 d3_1_4 d3_1_5 d3_1_6 d3_1_7
  obtain ⟨c4_2_0, c4_2_1, c4_2_2, c4_2_3, c4_2_4, c4_2_5, c4_2_6, c4_2_7, d4_2_0, d4_2_1, d4_2_2, d4_2_3, d4_2_4, d4_2_5, d4_2_6, d4_2_7, y4_2⟩ := f4.p8 c3_2_0 c3_2_1 c3_2_2 c3_2_3 c3_2_4 c3_2_5 c3_2_6 c3_2_7 d3_2_0 d3_2_1 d3_2_2 d3_2_3 d3_2_4 d3_2_5 d3_2_6 d3_2_7
  have c4_3_0 : w4.cell? ⟨w3.heap.size, 0, none⟩ = some (.int .i64 ((Z.RunSteps E xs).1.L).dg) := f4.cell_of (by go_simp) (by (try dsimp only); omega)
  have d4_3_0 : w4.frozen? ⟨w3.heap.size, 0, none⟩ = false := f4.thaw_of (by go_simp) (by go_simp) (by (try dsimp only); omega)
  have c4_3_1 : w4.cell? ⟨w3.heap.size, 1, none⟩ = some (.int .i64 ((Z.RunSteps E xs).1.L).tn) := f4.cell_of (by go_simp) (by (try dsimp only); omega)
  have d4_3_1 : w4.frozen? ⟨w3.heap.size, 1, none⟩ = false := f4.thaw_of (by go_simp) (by go_simp) (by (try dsimp only); omega)
  have c4_3_2 : w4.cell? ⟨w3.heap.size, 2, none⟩ = some (.string ((Z.RunSteps E xs).1.L).nm) := f4.cell_of (by go_simp) (by (try dsimp only); omega)
  have d4_3_2 : w4.frozen? ⟨w3.heap.size, 2, none⟩ = false := f4.thaw_of (by go_simp) (by go_simp) (by (try dsimp only); omega)
  have c4_3_3 : w4.cell? ⟨w3.heap.size, 3, none⟩ = some (.slice oGL ((Z.RunSteps E xs).1.L).pw.length kGL) := f4.cell_of (by go_simp) (by (try dsimp only); omega)
  have d4_3_3 : w4.frozen? ⟨w3.heap.size, 3, none⟩ = false := f4.thaw_of (by go_simp) (by go_simp) (by (try dsimp only); omega)
  have c4_3_4 : w4.cell? ⟨w3.heap.size, 4, none⟩ = some (.int .i64 ((Z.RunSteps E xs).1.R).dg) := f4.cell_of (by go_simp) (by (try dsimp only); omega)
  have d4_3_4 : w4.frozen? ⟨w3.heap.size, 4, none⟩ = false := f4.thaw_of (by go_simp) (by go_simp) (by (try dsimp only); omega)
  have c4_3_5 : w4.cell? ⟨w3.heap.size, 5, none⟩ = some (.int .i64 ((Z.RunSteps E xs).1.R).tn) := f4.cell_of (by go_simp) (by (try dsimp only); omega)
  have d4_3_5 : w4.frozen? ⟨w3.heap.size, 5, none⟩ = false := f4.thaw_of (by go_simp) (by go_simp) (by (try dsimp only); omega)
  have c4_3_6 : w4.cell? ⟨w3.heap.size, 6, none⟩ = some (.string ((Z.RunSteps E xs).1.R).nm) := f4.cell_of (by go_simp) (by (try dsimp only); omega)
  have d4_3_6 : w4.frozen? ⟨w3.heap.size, 6, none⟩ = false := f4.thaw_of (by go_simp) (by go_simp) (by (try dsimp only); omega)
  have c4_3_7 : w4.cell? ⟨w3.heap.size, 7, none⟩ = some (.slice oGR ((Z.RunSteps E xs).1.R).pw.length kGR) := f4.cell_of (by go_simp) (by (try dsimp only); omega)
  have d4_3_7 : w4.frozen? ⟨w3.heap.size, 7, none⟩ = false := f4.thaw_of (by go_simp) (by go_simp) (by (try dsimp only); omega)
  have y4_3 : w3.heap.size < w4.heap.size := World.block_lt_of_cell? w4 _ c4_3_0
  have IEL_4 := K.ints.far (K.bin IEL_3) f4 (by first | exact .inl (by omega) | exact .inr (by omega))
  have IER_4 := K.ints.far (K.bin IER_3) f4 (by first | exact .inl (by omega) | exact .inr (by omega))
  have IX_4 := K.recs.far (by decide) (K.bre IX_3) f4 (by first | exact .inl (by omega) | exact .inr (by omega))
  have IGL_4 := K.ints.far (K.bin IGL_3) f4 (by first | exact .inl (by omega) | exact .inr (by omega))
  have IGR_4 := K.ints.far (K.bin IGR_3) f4 (by first | exact .inl (by omega) | exact .inr (by omega))
  obtain ⟨oHL, kHL, rfl, _⟩ := id hiH
  obtain ⟨oHR, kHR, rfl, _⟩ := id jiH
  have IHL_4 : K.ints w4 (w3.heap.size + 1) w4.heap.size (.slice oHL H.L.pw.length kHL) H.L.pw := hiH.mono (by simp) (Nat.le_refl _)
  have IHR_4 : K.ints w4 (w3.heap.size + 1) w4.heap.size (.slice oHR H.R.pw.length kHR) H.R.pw := jiH.mono (by simp) (Nat.le_refl _)
  clear hiH jiH
  have ne0_2 : ¬ (w.heap.size = w2.heap.size) := (by omega)
  have nf0_2 : ¬ (w2.heap.size = w.heap.size) := (by omega)
  have ne0_3 : ¬ (w.heap.size = w3.heap.size) := (by omega)
  have nf0_3 : ¬ (w3.heap.size = w.heap.size) := (by omega)
  have ne1_2 : ¬ (w.heap.size + 1 = w2.heap.size) := (by omega)
  have nf1_2 : ¬ (w2.heap.size = w.heap.size + 1) := (by omega)
  have ne1_3 : ¬ (w.heap.size + 1 = w3.heap.size) := (by omega)
  have nf1_3 : ¬ (w3.heap.size = w.heap.size + 1) := (by omega)
  go_wp2_with fail
  go_region
  all_goals go_wp2_with fail
  all_goals refine bodyPost_ret (v := .tuple #[.agg #[.int .i64 E.L.dg, .int .i64 E.L.tn, .string E.L.nm, .slice oEL E.L.pw.length kEL, .int .i64 E.R.dg, .int .i64 E.R.tn, .string E.R.nm, .slice oER E.R.pw.length kER], .slice oX xs.length kX, .agg #[.int .i64 H.L.dg, .int .i64 H.L.tn, .string H.L.nm, .slice oHL H.L.pw.length kHL, .int .i64 H.R.dg, .int .i64 H.R.tn, .string H.R.nm, .slice oHR H.R.pw.length kHR]]) (by unfold results; rw [Try.results77]; go_simp) rfl ⟨⟨E, _, _, _, xs, H, _, _, rfl, ⟨hnE, hmE⟩, ⟨jnE, jmE⟩, K.ints.mono (K.bin IEL_4) (by omega) (by first | omega | (simp; done) | (simp; omega)), K.ints.mono (K.bin IER_4) (by omega) (by first | omega | (simp; done) | (simp; omega)), hxs, K.recs.mono (K.bre IX_4) (by omega) (by first | omega | (simp; done) | (simp; omega)), ⟨by omega, by omega⟩, ⟨by omega, by omega⟩, K.ints.mono (K.bin IHL_4) (by omega) (by first | omega | (simp; done) | (simp; omega)), K.ints.mono (K.bin IHR_4) (by omega) (by first | omega | (simp; done) | (simp; omega))⟩, (K.bex F4)⟩
end Go.Proofs.Ythmnlbgbacbocaa
end
section
namespace Go.K
open Go Go.ChangeShapes Go.WideShapes Go.ChangeAt Go.RowKit Go.Deep
variable {H : Type} {enc : TypeId × Value → H} {P : Program} {w : World} {base : Nat} {spare : Nat → Bool} {held : Bool}
/-- a byte: one cell -/
def ByR : Rec Int := ⟨1, fun x _ => .int .u8 x⟩
theorem byte_cells {e : TypeId} {fuel : Nat} {cs : List Value} {x : DataW H × List MemPlace} (hi : P.underlying e = some (.int .u8))
    (h : DataW.trod enc P w base spare held fuel e cs = some x) : ∃ s : Int, (0 ≤ s ∧ s ≤ 255) ∧ cs = (List.range ByR.n).map (ByR.cell s) := by
  obtain ⟨i, ei, _, wi⟩ := DataW.trod_int hi h
  exact ⟨i, byte_wf wi, ei⟩
theorem byts_of_recs {v : Value} {xs : List Int} (h : recs false ByR w 0 w.heap.size v xs) (hq : ∀ s ∈ xs, 0 ≤ s ∧ s ≤ 255) : byts w w.heap.size v xs.length := by
  have g := h
  obtain ⟨o, cap, rfl, _⟩ := g
  refine ⟨o, cap, rfl, fun hn => ?_⟩
  obtain ⟨b, off, ho, _, hb, hc, _⟩ := recs_at h hn
  refine ⟨b, off, ho, hb, fun i hi => ?_⟩
  obtain ⟨q0, q1⟩ := hq _ (List.getElem_mem hi)
  refine ⟨xs[i], q0, q1, ?_⟩
  have e := hc i hi 0 (by decide)
  have hn1 : ByR.n = 1 := rfl
  rw [hn1, Nat.mul_one, Nat.add_zero] at e
  exact e
end Go.K
namespace Go.Proofs.Ythmnlbgbacbocaa
open Go.RowKit
theorem big_no {n hi : Nat} {v : Value} (w : World) (hn : n ≤ 4096) (h : K.byts w hi v n) :
    Calls Try.prog 9 #[v] w fun e w' => e = .returned (.bool false) ∧ w = w' := by
  obtain ⟨o, cap, rfl, _⟩ := h
  have i1 : ¬ ((4096 : Int) < (n : Int)) := by omega
  go_enter Try.func9, Try.ntmps9
  go_wp2_with fail
  go_ret
  exact ⟨rfl, rfl⟩
theorem big_yes {n hi : Nat} {v : Value} (w : World) (hn : 4096 < n) (h : K.byts w hi v n) :
    Calls Try.prog 9 #[v] w fun e w' => e = .returned (.bool true) ∧ w = w' := by
  obtain ⟨o, cap, rfl, _⟩ := h
  have i1 : (4096 : Int) < (n : Int) := by omega
  go_enter Try.func9, Try.ntmps9
  go_wp2_with fail
  go_ret
  exact ⟨rfl, rfl⟩
end Go.Proofs.Ythmnlbgbacbocaa
end
section
namespace Go.Proofs.Ythmnlbgbacbocaa
open Go.RowKit
set_option maxHeartbeats 400000 in
theorem likeInts_same (xs : List Int) (lo hi lo' hi' : Nat) (v v' : Value) (w : World) (hm : xs.length ≤ 1048576) (h : K.ints w lo hi v xs) (h' : K.ints w lo' hi' v' xs) :
    Calls Try.prog 19 #[v, v'] w fun e w' => e = .returned (.bool true) ∧ K.Ext w w' := by
  obtain ⟨o, cap, rfl, h⟩ := h
  obtain ⟨o', cap', rfl, h'⟩ := h'
  go_enter Try.func19, Try.ntmps19
  go_wp2
  go_loopw [5] (fun i wr => ∃ k : Nat, k ≤ xs.length ∧ i = .int .i64 k ∧ Hid (K.Ext w wr)) (fun i _ => xs.length - (intOf i).toNat)
  case atStart => exact ⟨0, Nat.zero_le _, rfl, Z.hide (K.Ext.refl _)⟩
  case round =>
    obtain ⟨k, hk, rfl, HX⟩ := hrel
    by_cases hlt : k < xs.length
    · obtain ⟨b, off, rfl, _, _, hc⟩ := h (by intro h0; simp [h0] at hlt)
      obtain ⟨b', off', rfl, _, _, hc'⟩ := h' (by intro h0; simp [h0] at hlt)
      have hck := HX.out.cell_of (hc k hlt)
      have hck' := HX.out.cell_of (hc' k hlt)
      clear hc hc' h h'
      generalize xs.getD k 0 = x at *
      have i0 : (0 : Int) ≤ (k : Int) := Int.natCast_nonneg k
      have i1 : (k : Int) < (xs.length : Int) := by omega
      go_wp2_with fail
      refine K.wp_region_ext (by kernel_rfl) (by kernel_rfl) ?_
      apply K.qcons
      · rfl
      · intro w' hw'; have hc := hw'.all.1.1; have hf := hw'.all.1.2; have hc' := hw'.all.2.1; have hf' := hw'.all.2.2; unfold Oper.quietAt; go_simp; first | done | rfl | exact ⟨rfl, rfl⟩
      simp only [Act.put, List.setIfInBounds_toArray, List.set]
      apply K.qcons
      · rfl
      · intro w' hw'; have hc := hw'.all.1.1; have hf := hw'.all.1.2; have hc' := hw'.all.2.1; have hf' := hw'.all.2.2; unfold Oper.quietAt; go_simp; first | done | rfl | exact ⟨rfl, rfl⟩
      simp only [Act.put, List.setIfInBounds_toArray, List.set]
      apply K.qcons
      · rfl
      · intro w' hw'; have hc := hw'.all.1.1; have hf := hw'.all.1.2; have hc' := hw'.all.2.1; have hf' := hw'.all.2.2; unfold Oper.quietAt; go_simp; first | done | rfl | exact ⟨rfl, rfl⟩
      simp only [Act.put, List.setIfInBounds_toArray, List.set]
      apply K.qcons
      · rfl
      · intro w' hw'; have hc := hw'.all.1.1; have hf := hw'.all.1.2; have hc' := hw'.all.2.1; have hf' := hw'.all.2.2; unfold Oper.quietAt; go_simp; first | done | rfl | exact ⟨rfl, rfl⟩
      simp only [Act.put, List.setIfInBounds_toArray, List.set]
      apply K.qcons
      · rfl
      · intro w' hw'; have hc := hw'.all.1.1; have hf := hw'.all.1.2; have hc' := hw'.all.2.1; have hf' := hw'.all.2.2; unfold Oper.quietAt; go_simp; first | done | rfl | exact ⟨rfl, rfl⟩
      simp only [Act.put, List.setIfInBounds_toArray, List.set]
      apply K.qcons
      · rfl
      · intro w' hw'; have hc := hw'.all.1.1; have hf := hw'.all.1.2; have hc' := hw'.all.2.1; have hf' := hw'.all.2.2; unfold Oper.quietAt; go_simp; first | done | rfl | exact ⟨rfl, rfl⟩
      simp only [Act.put, List.setIfInBounds_toArray, List.set]
      apply K.qcons
      · rfl
      · intro w' hw'; have hc := hw'.all.1.1; have hf := hw'.all.1.2; have hc' := hw'.all.2.1; have hf' := hw'.all.2.2; unfold Oper.quietAt; go_simp; first | done | rfl | exact ⟨rfl, rfl⟩
      simp only [Act.put, List.setIfInBounds_toArray, List.set]
      apply K.qcons
      · rfl
      · intro w' hw'; have hc := hw'.all.1.1; have hf := hw'.all.1.2; have hc' := hw'.all.2.1; have hf' := hw'.all.2.2; unfold Oper.quietAt; go_simp; first | done | rfl | exact ⟨rfl, rfl⟩
      simp only [Act.put, List.setIfInBounds_toArray, List.set]
      apply K.qcons
      · rfl
      · intro w' hw'; have hc := hw'.all.1.1; have hf := hw'.all.1.2; have hc' := hw'.all.2.1; have hf' := hw'.all.2.2; unfold Oper.quietAt; go_simp; first | done | exact K.vint (IntWalk.i64_in _ (by omega)) | rfl | exact ⟨rfl, rfl⟩
      simp only [Act.put, List.setIfInBounds_toArray, List.set]
      refine wpQuiet_nil ?_
      intro w1 hx1
      obtain ⟨⟨hcw1, hfw1⟩, hc'w1, hf'w1⟩ := hx1.all
      go_wp2
      go_roundw
      case rel => exact ⟨k + 1, by omega, by go_num, Z.hide (HX.out.trans (by first | exact hx1 | exact hx1.drew))⟩
      case measure => simp [intOf]; omega
    · obtain rfl : k = xs.length := by omega
      go_wp2
      go_ret
      exact ⟨rfl, HX.out⟩
set_option maxHeartbeats 1600000 in
theorem likeFormulas_same (F : Z.Fm) (lo hi lo' hi' : Nat) (p p' : Value) (w : World) (hm : F.pw.length ≤ 1048576) (h : K.ints w lo hi p F.pw) (h' : K.ints w lo' hi' p' F.pw) :
    Calls Try.prog 32 #[.agg #[.int .i64 F.dg, .int .i64 F.tn, .string F.nm, p], .agg #[.int .i64 F.dg, .int .i64 F.tn, .string F.nm, p']] w fun e w' => e = .returned (.bool true) ∧ K.Ext w w' := by
  have h1 := h
  obtain ⟨o, cap, rfl, _⟩ := h1
  have h1' := h'
  obtain ⟨o', cap', rfl, _⟩ := h1'
  go_enter Try.func32, Try.ntmps32
  go_wp2_with (go_at_call 19; refine K.call (by with_reducible rfl) (by with_reducible rfl) (likeInts_same F.pw _ _ _ _ _ _ _ hm (h.ext (by repeat' (first | with_reducible exact K.Ext.refl _ | with_reducible assumption | with_reducible refine K.Ext.drew ?_ | with_reducible refine K.Ext.alloc ?_ _ | with_reducible refine K.Ext.setCell ?_ ?_ _ | with_reducible refine K.Ext.trans ?_ (by with_reducible assumption) | (dsimp only; omega) | omega | exact K.Ext.refl _ | assumption | apply K.Ext.drew | refine K.Ext.alloc ?_ _ | refine K.Ext.setCell ?_ ?_ _ | (simp; done) | (simp; omega) | refine K.Ext.trans ?_ (by assumption)))) (h'.ext (by repeat' (first | with_reducible exact K.Ext.refl _ | with_reducible assumption | with_reducible refine K.Ext.drew ?_ | with_reducible refine K.Ext.alloc ?_ _ | with_reducible refine K.Ext.setCell ?_ ?_ _ | with_reducible refine K.Ext.trans ?_ (by with_reducible assumption) | (dsimp only; omega) | omega | exact K.Ext.refl _ | assumption | apply K.Ext.drew | refine K.Ext.alloc ?_ _ | refine K.Ext.setCell ?_ ?_ _ | (simp; done) | (simp; omega) | refine K.Ext.trans ?_ (by assumption))))) ?_; rintro e w1 ⟨rfl, hw1⟩; obtain ⟨hcw1, hfw1⟩ := hw1.facts)
  go_ret
  exact ⟨rfl, (by repeat' (first | with_reducible exact K.Ext.refl _ | with_reducible assumption | with_reducible refine K.Ext.drew ?_ | with_reducible refine K.Ext.alloc ?_ _ | with_reducible refine K.Ext.setCell ?_ ?_ _ | with_reducible refine K.Ext.trans ?_ (by with_reducible assumption) | (dsimp only; omega) | omega | exact K.Ext.refl _ | assumption | apply K.Ext.drew | refine K.Ext.alloc ?_ _ | refine K.Ext.setCell ?_ ?_ _ | (simp; done) | (simp; omega) | refine K.Ext.trans ?_ (by assumption)))⟩
set_option maxHeartbeats 1600000 in
theorem likeEquations_same (E : Z.Eqn) (p q p' q' : Value) {l1 l2 l3 l4 r1 r2 r3 r4 : Nat} (w : World) (hm : E.L.pw.length ≤ 1048576) (hm' : E.R.pw.length ≤ 1048576) (h1 : K.ints w l1 r1 p E.L.pw) (h2 : K.ints w l2 r2 q E.R.pw) (h3 : K.ints w l3 r3 p' E.L.pw) (h4 : K.ints w l4 r4 q' E.R.pw) :
    Calls Try.prog 46 #[.agg #[.int .i64 E.L.dg, .int .i64 E.L.tn, .string E.L.nm, p, .int .i64 E.R.dg, .int .i64 E.R.tn, .string E.R.nm, q], .agg #[.int .i64 E.L.dg, .int .i64 E.L.tn, .string E.L.nm, p', .int .i64 E.R.dg, .int .i64 E.R.tn, .string E.R.nm, q']] w fun e w' => e = .returned (.bool true) ∧ K.Ext w w' := by
  have g1 := h1
  obtain ⟨o1, c1, rfl, _⟩ := g1
  have g2 := h2
  obtain ⟨o2, c2, rfl, _⟩ := g2
  have g3 := h3
  obtain ⟨o3, c3, rfl, _⟩ := g3
  have g4 := h4
  obtain ⟨o4, c4, rfl, _⟩ := g4
  go_enter Try.func46, Try.ntmps46
  go_wp2_with (first | ((go_at_call 32; refine K.call (by with_reducible rfl) (by with_reducible rfl) (likeFormulas_same E.L _ _ _ _ _ _ _ hm (h1.ext (by repeat' (first | with_reducible exact K.Ext.refl _ | with_reducible assumption | with_reducible refine K.Ext.drew ?_ | with_reducible refine K.Ext.alloc ?_ _ | with_reducible refine K.Ext.setCell ?_ ?_ _ | with_reducible refine K.Ext.trans ?_ (by with_reducible assumption) | (dsimp only; omega) | omega | exact K.Ext.refl _ | assumption | apply K.Ext.drew | refine K.Ext.alloc ?_ _ | refine K.Ext.setCell ?_ ?_ _ | (simp; done) | (simp; omega) | refine K.Ext.trans ?_ (by assumption)))) (h3.ext (by repeat' (first | with_reducible exact K.Ext.refl _ | with_reducible assumption | with_reducible refine K.Ext.drew ?_ | with_reducible refine K.Ext.alloc ?_ _ | with_reducible refine K.Ext.setCell ?_ ?_ _ | with_reducible refine K.Ext.trans ?_ (by with_reducible assumption) | (dsimp only; omega) | omega | exact K.Ext.refl _ | assumption | apply K.Ext.drew | refine K.Ext.alloc ?_ _ | refine K.Ext.setCell ?_ ?_ _ | (simp; done) | (simp; omega) | refine K.Ext.trans ?_ (by assumption))))) ?_; rintro e w1 ⟨rfl, hw1⟩; obtain ⟨hcw1, hfw1⟩ := hw1.facts); have c_w1_0_0 : w1.cell? ⟨w.heap.size, 0, none⟩ = some (.int .i64 (E.L.dg)) := hw1.cell_of (by go_simp); have f_w1_0_0 : w1.frozen? ⟨w.heap.size, 0, none⟩ = false := hw1.thaw_of (by go_simp) (by go_simp); have c_w1_0_1 : w1.cell? ⟨w.heap.size, 1, none⟩ = some (.int .i64 (E.L.tn)) := hw1.cell_of (by go_simp); have f_w1_0_1 : w1.frozen? ⟨w.heap.size, 1, none⟩ = false := hw1.thaw_of (by go_simp) (by go_simp); have c_w1_0_2 : w1.cell? ⟨w.heap.size, 2, none⟩ = some (.string E.L.nm) := hw1.cell_of (by go_simp); have f_w1_0_2 : w1.frozen? ⟨w.heap.size, 2, none⟩ = false := hw1.thaw_of (by go_simp) (by go_simp); have c_w1_0_3 : w1.cell? ⟨w.heap.size, 3, none⟩ = some (.slice o1 E.L.pw.length c1) := hw1.cell_of (by go_simp); have f_w1_0_3 : w1.frozen? ⟨w.heap.size, 3, none⟩ = false := hw1.thaw_of (by go_simp) (by go_simp); have c_w1_0_4 : w1.cell? ⟨w.heap.size, 4, none⟩ = some (.int .i64 (E.R.dg)) := hw1.cell_of (by go_simp); have f_w1_0_4 : w1.frozen? ⟨w.heap.size, 4, none⟩ = false := hw1.thaw_of (by go_simp) (by go_simp); have c_w1_0_5 : w1.cell? ⟨w.heap.size, 5, none⟩ = some (.int .i64 (E.R.tn)) := hw1.cell_of (by go_simp); have f_w1_0_5 : w1.frozen? ⟨w.heap.size, 5, none⟩ = false := hw1.thaw_of (by go_simp) (by go_simp); have c_w1_0_6 : w1.cell? ⟨w.heap.size, 6, none⟩ = some (.string E.R.nm) := hw1.cell_of (by go_simp); have f_w1_0_6 : w1.frozen? ⟨w.heap.size, 6, none⟩ = false := hw1.thaw_of (by go_simp) (by go_simp); have c_w1_0_7 : w1.cell? ⟨w.heap.size, 7, none⟩ = some (.slice o2 E.R.pw.length c2) := hw1.cell_of (by go_simp); have f_w1_0_7 : w1.frozen? ⟨w.heap.size, 7, none⟩ = false := hw1.thaw_of (by go_simp) (by go_simp); have c_w1_1_0 : w1.cell? ⟨w.heap.size + 1, 0, none⟩ = some (.int .i64 (E.L.dg)) := hw1.cell_of (by go_simp); have f_w1_1_0 : w1.frozen? ⟨w.heap.size + 1, 0, none⟩ = false := hw1.thaw_of (by go_simp) (by go_simp); have c_w1_1_1 : w1.cell? ⟨w.heap.size + 1, 1, none⟩ = some (.int .i64 (E.L.tn)) := hw1.cell_of (by go_simp); have f_w1_1_1 : w1.frozen? ⟨w.heap.size + 1, 1, none⟩ = false := hw1.thaw_of (by go_simp) (by go_simp); have c_w1_1_2 : w1.cell? ⟨w.heap.size + 1, 2, none⟩ = some (.string E.L.nm) := hw1.cell_of (by go_simp); have f_w1_1_2 : w1.frozen? ⟨w.heap.size + 1, 2, none⟩ = false := hw1.thaw_of (by go_simp) (by go_simp); have c_w1_1_3 : w1.cell? ⟨w.heap.size + 1, 3, none⟩ = some (.slice o3 E.L.pw.length c3) := hw1.cell_of (by go_simp); have f_w1_1_3 : w1.frozen? ⟨w.heap.size + 1, 3, none⟩ = false := hw1.thaw_of (by go_simp) (by go_simp); have c_w1_1_4 : w1.cell? ⟨w.heap.size + 1, 4, none⟩ = some (.int .i64 (E.R.dg)) := hw1.cell_of (by go_simp); have f_w1_1_4 : w1.frozen? ⟨w.heap.size + 1, 4, none⟩ = false := hw1.thaw_of (by go_simp) (by go_simp); have c_w1_1_5 : w1.cell? ⟨w.heap.size + 1, 5, none⟩ = some (.int .i64 (E.R.tn)) := hw1.cell_of (by go_simp); have f_w1_1_5 : w1.frozen? ⟨w.heap.size + 1, 5, none⟩ = false := hw1.thaw_of (by go_simp) (by go_simp); have c_w1_1_6 : w1.cell? ⟨w.heap.size + 1, 6, none⟩ = some (.string E.R.nm) := hw1.cell_of (by go_simp); have f_w1_1_6 : w1.frozen? ⟨w.heap.size + 1, 6, none⟩ = false := hw1.thaw_of (by go_simp) (by go_simp); have c_w1_1_7 : w1.cell? ⟨w.heap.size + 1, 7, none⟩ = some (.slice o4 E.R.pw.length c4) := hw1.cell_of (by go_simp); have f_w1_1_7 : w1.frozen? ⟨w.heap.size + 1, 7, none⟩ = false := hw1.thaw_of (by go_simp) (by go_simp)) | (go_at_call 32; refine K.call (by with_reducible rfl) (by with_reducible rfl) (likeFormulas_same E.R _ _ _ _ _ _ _ hm' (h2.ext (by repeat' (first | with_reducible exact K.Ext.refl _ | with_reducible assumption | with_reducible refine K.Ext.drew ?_ | with_reducible refine K.Ext.alloc ?_ _ | with_reducible refine K.Ext.setCell ?_ ?_ _ | with_reducible refine K.Ext.trans ?_ (by with_reducible assumption) | (dsimp only; omega) | omega | exact K.Ext.refl _ | assumption | apply K.Ext.drew | refine K.Ext.alloc ?_ _ | refine K.Ext.setCell ?_ ?_ _ | (simp; done) | (simp; omega) | refine K.Ext.trans ?_ (by assumption)))) (h4.ext (by repeat' (first | with_reducible exact K.Ext.refl _ | with_reducible assumption | with_reducible refine K.Ext.drew ?_ | with_reducible refine K.Ext.alloc ?_ _ | with_reducible refine K.Ext.setCell ?_ ?_ _ | with_reducible refine K.Ext.trans ?_ (by with_reducible assumption) | (dsimp only; omega) | omega | exact K.Ext.refl _ | assumption | apply K.Ext.drew | refine K.Ext.alloc ?_ _ | refine K.Ext.setCell ?_ ?_ _ | (simp; done) | (simp; omega) | refine K.Ext.trans ?_ (by assumption))))) ?_; rintro e w2 ⟨rfl, hw2⟩; obtain ⟨hcw2, hfw2⟩ := hw2.facts))
  go_ret
  exact ⟨rfl, (by repeat' (first | with_reducible exact K.Ext.refl _ | with_reducible assumption | with_reducible refine K.Ext.drew ?_ | with_reducible refine K.Ext.alloc ?_ _ | with_reducible refine K.Ext.setCell ?_ ?_ _ | with_reducible refine K.Ext.trans ?_ (by with_reducible assumption) | (dsimp only; omega) | omega | exact K.Ext.refl _ | assumption | apply K.Ext.drew | refine K.Ext.alloc ?_ _ | refine K.Ext.setCell ?_ ?_ _ | (simp; done) | (simp; omega) | refine K.Ext.trans ?_ (by assumption)))⟩
end Go.Proofs.Ythmnlbgbacbocaa
end
