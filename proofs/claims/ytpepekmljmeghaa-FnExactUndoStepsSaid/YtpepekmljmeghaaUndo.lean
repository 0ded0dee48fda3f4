/-
  STEPS undone, both sides.
-/
import Derived.Test.YtpepekmljmeghaaStL
set_option linter.unusedVariables false
namespace Go.Z
def undoSt (s : St) : St := if s.kd = 1 then ⟨s.kd, s.nm, -s.pw⟩ else s
def isBad (s : St) : Bool := s.kd == 2 && !(s.pw == 1) && !(s.pw == -1)
def noBad (l : List St) : Bool := l.all (fun s => !isBad s)
def UndoSteps (l : List St) : List St × Int := if stCode l = 0 then (if noBad l then (l.reverse.map undoSt, 0) else ([], 5)) else ([], stCode l)
theorem noBad_snoc (l : List St) (s : St) : noBad (l ++ [s]) = (noBad l && (true && !isBad s)) := by simp [noBad]
theorem noBad_rev (l : List St) : noBad l.reverse = noBad l := by simp [noBad]
theorem code_valid {l : List St} (h : stCode l = 0) : ∀ s ∈ l, isStep s = true := by
  unfold stCode at h
  split at h
  · rename_i h1; unfold allSt at h1; rw [List.all_eq_true] at h1; exact h1
  · simp at h
theorem code_len {l : List St} (h : stCode l = 0) : l.length ≤ 12 := by
  unfold stCode at h
  split at h
  · split at h
    · omega
    · simp at h
  · simp at h
theorem step_cases {d m t : Int} (h : isStep ⟨d, m, t⟩ = true) : (d = 0 ∧ m = 0 ∧ t = 0) ∨ (d = 1 ∧ -6 ≤ t ∧ t ≤ 6) ∨ (d = 2 ∧ m = 0 ∧ -3 ≤ t ∧ t ≤ 3) := by
  unfold isStep at h
  split at h
  · left; rename_i h0; simp at h; exact ⟨h0, h.1, h.2⟩
  · split at h
    · right; left; rename_i h1; simp at h; exact ⟨h1, by omega, by omega⟩
    · split at h
      · right; right; rename_i h2; simp at h; exact ⟨h2, by omega, by omega, by omega⟩
      · simp at h
theorem rev_take (xs : List St) (k j : Nat) (hj : j < xs.length) (h : k + j + 1 = xs.length) : xs.reverse.take (k + 1) = xs.reverse.take k ++ [xs[j]] := by
  have hk : k < xs.reverse.length := by simp; omega
  rw [List.take_succ_eq_append_getElem hk, List.getElem_reverse]
  have e : xs.length - 1 - k = j := by omega
  simp only [e]
theorem undo_bad {l : List St} (hc : stCode l = 0) {s : St} (hs : s ∈ l) (hb : isBad s = true) : UndoSteps l = ([], 5) := by
  have : noBad l = false := by unfold noBad; rw [List.all_eq_false]; exact ⟨s, hs, by simp [hb]⟩
  unfold UndoSteps; rw [if_pos hc, this]; rfl
theorem undo_good {l : List St} (hc : stCode l = 0) (h : noBad l.reverse = true) : UndoSteps l = (l.reverse.map undoSt, 0) := by
  rw [noBad_rev] at h
  unfold UndoSteps; rw [if_pos hc, h]; rfl
theorem UndoSteps_le (l : List St) (h : l.length ≤ 1048576) : (UndoSteps l).1.length ≤ 1048576 := by
  unfold UndoSteps; split
  · split
    · simpa using h
    · simp
  · simp
end Go.Z
namespace Go.K
open Go.RowKit
theorem row_lit3 {w : World} {B g : Nat} {e : TypeId} (hg : g = w.heap.size) (hB : B ≤ g) : (w.alloc (.cells #[] e)).ownsRow B e 3 (.slice (some ⟨g, 0, none⟩) 0 0) 0 [] := by
  subst hg; exact World.ownsRow_lit w #[] 0 hB (by decide) rfl
end Go.K
namespace Go.Proofs.Ytpepekmljmeghaa
open Go.RowKit
theorem checkSteps_any (xs : List Z.St) {lo hi : Nat} {v : Value} (w : World) (hm : xs.length ≤ 1048576) (h : K.recs false K.StR w lo hi v xs) :
    Calls Try.prog 81 #[v] w fun e w' => e = .returned (.int .i64 (Z.stCode xs)) ∧ K.Ext w w' := by
  have h1 := h
  obtain ⟨o, cap, rfl, _⟩ := h1
  cases ha : Z.allSt xs
  · have HE : Hid (Z.stCode xs = 1) := Z.hide (by simp [Z.stCode, ha])
    go_enter Try.func81, Try.ntmps81
    go_wp2_with ((go_at_call 71; refine K.call (by with_reducible rfl) (by with_reducible rfl) (allSteps_any xs _ hm h) ?_; rintro e w1 ⟨rfl, hw1⟩; obtain ⟨hcw1, hfw1⟩ := hw1.facts))
    go_ret
    exact ⟨K.ri (by rw [HE.out]), hw1⟩
  · by_cases hl : (xs.length : Int) ≤ 12
    · have HE : Hid (Z.stCode xs = 0) := Z.hide (by simp [Z.stCode, ha, hl])
      have hl' : ¬ (12 < (xs.length : Int)) := by omega
      go_enter Try.func81, Try.ntmps81
      go_wp2_with ((go_at_call 71; refine K.call (by with_reducible rfl) (by with_reducible rfl) (allSteps_any xs _ hm h) ?_; rintro e w1 ⟨rfl, hw1⟩; obtain ⟨hcw1, hfw1⟩ := hw1.facts))
      go_ret
      exact ⟨K.ri (by rw [HE.out]), hw1⟩
    · have HE : Hid (Z.stCode xs = 3) := Z.hide (by simp [Z.stCode, ha, hl])
      have hl' : 12 < (xs.length : Int) := by omega
      go_enter Try.func81, Try.ntmps81
      go_wp2_with ((go_at_call 71; refine K.call (by with_reducible rfl) (by with_reducible rfl) (allSteps_any xs _ hm h) ?_; rintro e w1 ⟨rfl, hw1⟩; obtain ⟨hcw1, hfw1⟩ := hw1.facts))
      go_ret
      exact ⟨K.ri (by rw [HE.out]), hw1⟩
set_option maxRecDepth 100000 in
set_option maxHeartbeats 6400000 in
theorem spec_UndoSteps (xs : List Z.St) {lo hi : Nat} {v : Value} (w : World) (hm : xs.length ≤ 1048576) (h : K.recs false K.StR w lo hi v xs) :
    Calls Try.prog 42 #[v] w fun e w' => (∃ v', e = .returned (.tuple #[v', .int .i64 (Z.UndoSteps xs).2]) ∧ K.recs false K.StR w' w.heap.size w'.heap.size v' (Z.UndoSteps xs).1) ∧ K.Ext w w' := by
  have h1 := h
  obtain ⟨o, cap, rfl, _⟩ := h1
  have HH := Z.hide h
  by_cases hc : Z.stCode xs = 0
  · have HK : ∀ w' : World, K.Ext w w' → Calls Try.prog 69 #[.slice o xs.length cap] w' fun e w'' => e = .returned (.int .i64 0) ∧ K.Ext w' w'' := fun w' hx => by have h_ := l21Code_any xs w' hm (HH.out.ext hx); rwa [hc] at h_
    have HV := Z.hide (Z.code_valid hc)
    have HC0 := Z.hide hc
    obtain ⟨it0, hi0, hz0, hz1, hz2⟩ := info_parts info_step
    obtain ⟨n, hn⟩ : ∃ n, n = xs.length := ⟨_, rfl⟩
    have HN := Z.hide hn
    rw [← hn] at HK hm ⊢
    have hn12 : n ≤ 12 := by rw [hn]; exact Z.code_len hc
    clear h hc hn
    go_enter Try.func42, Try.ntmps42
    go_wp2_with ((go_at_call 69; refine K.call (by with_reducible rfl) (by with_reducible rfl) (HK _ (K.Ext.refl _)) ?_; rintro e w1 ⟨rfl, hw1⟩))
    have HX1 := Z.hide hw1
    have lw1 := hw1.size
    clear HK hw1
    go_loopw [5, 6] (fun out i wr => ∃ k : Nat, k ≤ n ∧ i = (if k < n then .int .i64 ((n - 1 - k : Nat) : Int) else .int .i64 (-1)) ∧ Hid (Z.noBad (xs.reverse.take k) = true) ∧ Hid (wr.ownsRow w.heap.size 87 3 out k (K.StR.cells ((xs.reverse.take k).map Z.undoSt))) ∧ Hid (K.Ext w wr)) (fun _ i _ => (intOf i + 1).toNat)
    case atStart => exact ⟨0, Nat.zero_le _, by split <;> exact K.vint (by omega), Z.hide rfl, Z.hide (K.row_lit3 (by simp) (by omega)), Z.hide (HX1.out.alloc _)⟩
    case round =>
      obtain ⟨k, hk, rfl, HB, HO, HX⟩ := hrel
      by_cases hlt : k < n
      · rw [if_pos hlt]
        obtain ⟨j, hj⟩ : ∃ j : Nat, j = n - 1 - k := ⟨_, rfl⟩
        rw [← hj]
        have hjn : j < xs.length := by rw [← HN.out]; omega
        obtain ⟨b, off, rfl, _, _, hc, _⟩ := K.recs_at HH.out (by omega)
        have hc0 : wr.cell? ⟨b, off + j * 3, none⟩ = some (.int .i64 (xs[j]'hjn).kd) := HX.out.cell_of (hc j hjn 0 (by decide))
        have hc1 : wr.cell? ⟨b, off + j * 3 + 1, none⟩ = some (.int .u8 (xs[j]'hjn).nm) := HX.out.cell_of (hc j hjn 1 (by decide))
        have hc2 : wr.cell? ⟨b, off + j * 3 + 2, none⟩ = some (.int .i64 (xs[j]'hjn).pw) := HX.out.cell_of (hc j hjn 2 (by decide))
        have hv := HV.out (xs[j]'hjn) (List.getElem_mem hjn)
        have HT : Hid (xs.reverse.take (k + 1) = xs.reverse.take k ++ [xs[j]'hjn]) := Z.hide (Z.rev_take xs k j hjn (by rw [← HN.out]; omega))
        have HBd : Hid (Z.isBad (xs[j]'hjn) = true → Z.UndoSteps xs = ([], 5)) := Z.hide (fun hb => Z.undo_bad HC0.out (List.getElem_mem hjn) hb)
        have j0 : (0 : Int) ≤ (j : Int) := Int.natCast_nonneg j
        have j1 : (j : Int) < (n : Int) := by omega
        have lbw : wr.heap.size ≠ b := by have := World.block_lt_of_cell? wr _ hc0; simp only at this; omega
        have lw := HX.out.size
        have hj1 : j + k + 1 ≤ n := by omega
        have hj2 : n ≤ j + k + 1 := by omega
        clear hc hj
        obtain ⟨s, hs⟩ : ∃ s, s = (xs[j]'hjn) := ⟨_, rfl⟩
        rw [← hs] at hc0 hc1 hc2 hv HT HBd
        clear hs
        obtain ⟨d, m, t0⟩ := s
        dsimp only at hc0 hc1 hc2
        rcases Z.step_cases hv with ⟨rfl, rfl, rfl⟩ | ⟨rfl, t1, t2⟩ | ⟨rfl, rfl, t1, t2⟩
        · have HBs : Hid ((true && !Z.isBad ⟨0, 0, 0⟩) = true) := Z.hide rfl
          have HC : Hid (Z.undoSt ⟨0, 0, 0⟩ = ⟨0, 0, 0⟩) := Z.hide (by rfl)
          go_wp2_with ((at_builtin; refine wpList_append_lies _ rfl _ _ _ rfl (w.heap.size) 87 it0 _ 3 24 Try.underlying32 hi0 hz0 hz1 hz2 rfl (by omega) u5 k _ rfl ((HO.out.alloc _).alloc _) ⟨wr.heap.size + 1, 0, none⟩ 1 1 [.int .i64 0, .int .u8 0, .int .i64 0] rfl rfl (World.news_of_block (cs := #[.int .i64 0, .int .u8 0, .int .i64 0]) (t := 87) (fr := (0, 0)) (K.block_new (by simp))) (by simp [Value.oneCell']) (by omega) (by unfold maxLen; omega) (by omega) (by simp; omega) (wr.heap.size + 1 + 1) (by simp) ?_; intro g2 gcap2 w2 hown2 hgrow2 hat2 hlt3; have HR2 : Hid (∀ g, u5.ownBlock = some g → w.heap.size ≤ g) := Z.hide (fun g hg => (HO.out.lt g hg).1); have HP2 := Z.hide hown2; have HX2 : Hid (K.Ext w w2) := Z.hide ((((HX.out.alloc _).alloc _).below.grown hgrow2 (by simp; omega) (fun g hg => by have := HR2.out g hg; omega))); clear hown2 hgrow2 hat2))
          go_roundw
          case rel => exact ⟨k + 1, by omega, by split <;> exact K.vint (by omega), Z.hide (by rw [HT.out, Z.noBad_snoc, HB.out]; exact HBs.out), Z.hide (by rw [HT.out, List.map_append, List.map_singleton, K.Rec.cells_snoc, HC.out]; exact HP2.out), HX2⟩
          case measure => first | (simp [intOf]; done) | (simp [intOf]; omega)
        · have HBs : Hid ((true && !Z.isBad ⟨1, m, t0⟩) = true) := Z.hide rfl
          clear hv
          have HC : Hid (Z.undoSt ⟨1, m, t0⟩ = ⟨1, m, -t0⟩) := Z.hide (by rfl)
          go_wp2_with ((at_builtin; refine wpList_append_lies _ rfl _ _ _ rfl (w.heap.size) 87 it0 _ 3 24 Try.underlying32 hi0 hz0 hz1 hz2 rfl (by omega) u5 k _ rfl ((HO.out.alloc _).alloc _) ⟨wr.heap.size + 1, 0, none⟩ 1 1 [.int .i64 1, .int .u8 m, .int .i64 (-t0)] rfl rfl (World.news_of_block (cs := #[.int .i64 1, .int .u8 m, .int .i64 (-t0)]) (t := 87) (fr := (0, 0)) (K.block_new (by simp))) (by simp [Value.oneCell']) (by omega) (by unfold maxLen; omega) (by omega) (by simp; omega) (wr.heap.size + 1 + 1) (by simp) ?_; intro g2 gcap2 w2 hown2 hgrow2 hat2 hlt3; have HR2 : Hid (∀ g, u5.ownBlock = some g → w.heap.size ≤ g) := Z.hide (fun g hg => (HO.out.lt g hg).1); have HP2 := Z.hide hown2; have HX2 : Hid (K.Ext w w2) := Z.hide ((((HX.out.alloc _).alloc _).below.grown hgrow2 (by simp; omega) (fun g hg => by have := HR2.out g hg; omega))); clear hown2 hgrow2 hat2))
          go_roundw
          case rel => exact ⟨k + 1, by omega, by split <;> exact K.vint (by omega), Z.hide (by rw [HT.out, Z.noBad_snoc, HB.out]; exact HBs.out), Z.hide (by rw [HT.out, List.map_append, List.map_singleton, K.Rec.cells_snoc, HC.out]; exact HP2.out), HX2⟩
          case measure => first | (simp [intOf]; done) | (simp [intOf]; omega)
        · clear hv
          by_cases p1 : t0 = 1
          · subst p1
            have HBs : Hid ((true && !Z.isBad ⟨2, 0, 1⟩) = true) := Z.hide rfl
            have HAB : Hid (∀ w : World, Calls Try.prog 80 #[.int .i64 1] w fun e w' => e = .returned (.int .i64 1) ∧ w = w') := Z.hide (fun w => l01Abs_any 1 w (by omega) (by omega))
            have HC : Hid (Z.undoSt ⟨2, 0, 1⟩ = ⟨2, 0, 1⟩) := Z.hide (by rfl)
            go_wp2_with (first | (go_at_call 80; refine K.call (by with_reducible rfl) (by with_reducible rfl) (HAB.out _) ?_; rintro e w' ⟨rfl, rfl⟩) | (at_builtin; refine wpList_append_lies _ rfl _ _ _ rfl (w.heap.size) 87 it0 _ 3 24 Try.underlying32 hi0 hz0 hz1 hz2 rfl (by omega) u5 k _ rfl ((HO.out.alloc _).alloc _) ⟨wr.heap.size + 1, 0, none⟩ 1 1 [.int .i64 2, .int .u8 0, .int .i64 1] rfl rfl (World.news_of_block (cs := #[.int .i64 2, .int .u8 0, .int .i64 1]) (t := 87) (fr := (0, 0)) (K.block_new (by simp))) (by simp [Value.oneCell']) (by omega) (by unfold maxLen; omega) (by omega) (by simp; omega) (wr.heap.size + 1 + 1) (by simp) ?_; intro g2 gcap2 w2 hown2 hgrow2 hat2 hlt3; have HR2 : Hid (∀ g, u5.ownBlock = some g → w.heap.size ≤ g) := Z.hide (fun g hg => (HO.out.lt g hg).1); have HP2 := Z.hide hown2; have HX2 : Hid (K.Ext w w2) := Z.hide ((((HX.out.alloc _).alloc _).below.grown hgrow2 (by simp; omega) (fun g hg => by have := HR2.out g hg; omega))); clear hown2 hgrow2 hat2))
            go_roundw
            case rel => exact ⟨k + 1, by omega, by split <;> exact K.vint (by omega), Z.hide (by rw [HT.out, Z.noBad_snoc, HB.out]; exact HBs.out), Z.hide (by rw [HT.out, List.map_append, List.map_singleton, K.Rec.cells_snoc, HC.out]; exact HP2.out), HX2⟩
            case measure => first | (simp [intOf]; done) | (simp [intOf]; omega)
          · by_cases p2 : t0 = -1
            · subst p2
              have HBs : Hid ((true && !Z.isBad ⟨2, 0, -1⟩) = true) := Z.hide rfl
              have HAB : Hid (∀ w : World, Calls Try.prog 80 #[.int .i64 (-1)] w fun e w' => e = .returned (.int .i64 1) ∧ w = w') := Z.hide (fun w => l01Abs_any (-1) w (by omega) (by omega))
              have HC : Hid (Z.undoSt ⟨2, 0, -1⟩ = ⟨2, 0, -1⟩) := Z.hide (by rfl)
              go_wp2_with (first | (go_at_call 80; refine K.call (by with_reducible rfl) (by with_reducible rfl) (HAB.out _) ?_; rintro e w' ⟨rfl, rfl⟩) | (at_builtin; refine wpList_append_lies _ rfl _ _ _ rfl (w.heap.size) 87 it0 _ 3 24 Try.underlying32 hi0 hz0 hz1 hz2 rfl (by omega) u5 k _ rfl ((HO.out.alloc _).alloc _) ⟨wr.heap.size + 1, 0, none⟩ 1 1 [.int .i64 2, .int .u8 0, .int .i64 (-1)] rfl rfl (World.news_of_block (cs := #[.int .i64 2, .int .u8 0, .int .i64 (-1)]) (t := 87) (fr := (0, 0)) (K.block_new (by simp))) (by simp [Value.oneCell']) (by omega) (by unfold maxLen; omega) (by omega) (by simp; omega) (wr.heap.size + 1 + 1) (by simp) ?_; intro g2 gcap2 w2 hown2 hgrow2 hat2 hlt3; have HR2 : Hid (∀ g, u5.ownBlock = some g → w.heap.size ≤ g) := Z.hide (fun g hg => (HO.out.lt g hg).1); have HP2 := Z.hide hown2; have HX2 : Hid (K.Ext w w2) := Z.hide ((((HX.out.alloc _).alloc _).below.grown hgrow2 (by simp; omega) (fun g hg => by have := HR2.out g hg; omega))); clear hown2 hgrow2 hat2))
              go_roundw
              case rel => exact ⟨k + 1, by omega, by split <;> exact K.vint (by omega), Z.hide (by rw [HT.out, Z.noBad_snoc, HB.out]; exact HBs.out), Z.hide (by rw [HT.out, List.map_append, List.map_singleton, K.Rec.cells_snoc, HC.out]; exact HP2.out), HX2⟩
              case measure => first | (simp [intOf]; done) | (simp [intOf]; omega)
            · have HE : Hid (Z.UndoSteps xs = ([], 5)) := Z.hide (HBd.out (by simp [Z.isBad, p1, p2]))
              obtain ⟨u, hu⟩ : ∃ u, u = Z.ab t0 := ⟨_, rfl⟩
              have hu1 : ¬ u = 1 := by rw [hu]; unfold Z.ab; omega
              have HAB : Hid (∀ w : World, Calls Try.prog 80 #[.int .i64 t0] w fun e w' => e = .returned (.int .i64 u) ∧ w = w') := Z.hide (fun w => by rw [hu]; exact l01Abs_any t0 w (by omega) (by omega))
              clear hu
              go_wp2_with ((go_at_call 80; refine K.call (by with_reducible rfl) (by with_reducible rfl) (HAB.out _) ?_; rintro e w' ⟨rfl, rfl⟩))
              rw [HE.out]
              go_ret2
              exact ⟨⟨_, rfl, K.recs_nil _ _ _⟩, (by repeat' (first | with_reducible exact K.Ext.refl _ | with_reducible assumption | with_reducible refine K.Ext.drew ?_ | with_reducible refine K.Ext.alloc ?_ _ | with_reducible refine K.Ext.setCell ?_ ?_ _ | with_reducible refine K.Ext.trans ?_ (by with_reducible assumption) | (dsimp only; omega) | omega | exact K.Ext.refl _ | assumption | apply K.Ext.drew | refine K.Ext.alloc ?_ _ | refine K.Ext.setCell ?_ ?_ _ | (simp; done) | (simp; omega) | refine K.Ext.trans ?_ (by assumption)))⟩
      · rw [if_neg hlt]
        obtain rfl : k = n := by omega
        have HF : Hid (Z.UndoSteps xs = (xs.reverse.map Z.undoSt, 0)) := Z.hide (Z.undo_good HC0.out (by have h_ := HB.out; rwa [List.take_of_length_le (by rw [List.length_reverse, ← HN.out]; exact Nat.le_refl _)] at h_))
        have HO2 : Hid (wr.ownsRow w.heap.size 87 3 u5 k (K.StR.cells (xs.reverse.map Z.undoSt))) := Z.hide (by have h_ := HO.out; rwa [List.take_of_length_le (by rw [List.length_reverse, ← HN.out]; exact Nat.le_refl _)] at h_)
        clear HO HB
        go_wp2
        rw [HF.out]
        go_ret2
        exact ⟨⟨_, rfl, K.recs.plain (K.recs_of_row HO2.out (by decide))⟩, HX.out⟩
  · have HK : ∀ w' : World, K.Ext w w' → Calls Try.prog 69 #[.slice o xs.length cap] w' fun e w'' => e = .returned (.int .i64 (Z.stCode xs)) ∧ K.Ext w' w'' := fun w' hx => l21Code_any xs w' hm (HH.out.ext hx)
    have HE : Hid (Z.UndoSteps xs = ([], Z.stCode xs)) := Z.hide (by unfold Z.UndoSteps; rw [if_neg hc])
    clear h
    generalize Z.stCode xs = c at *
    go_enter Try.func42, Try.ntmps42
    go_wp2_with ((go_at_call 69; refine K.call (by with_reducible rfl) (by with_reducible rfl) (HK _ (K.Ext.refl _)) ?_; rintro e w1 ⟨rfl, hw1⟩))
    rw [HE.out]
    go_ret2
    exact ⟨⟨_, rfl, K.recs_nil _ _ _⟩, hw1⟩
set_option maxRecDepth 100000 in
set_option maxHeartbeats 6400000 in
theorem impl_UndoSteps (xs : List Z.St) {lo hi : Nat} {v : Value} (w : World) (hm : xs.length ≤ 1048576) (h : K.recs false K.StR w lo hi v xs) :
    Calls Try.prog 43 #[v] w fun e w' => (∃ v', e = .returned (.tuple #[v', .int .i64 (Z.UndoSteps xs).2]) ∧ K.recs true K.StR w' w.heap.size w'.heap.size v' (Z.UndoSteps xs).1) ∧ K.Ext w w' := by
  have h1 := h
  obtain ⟨o, cap, rfl, _⟩ := h1
  have HH := Z.hide h
  by_cases hc : Z.stCode xs = 0
  · have HK : ∀ w' : World, K.Ext w w' → Calls Try.prog 81 #[.slice o xs.length cap] w' fun e w'' => e = .returned (.int .i64 0) ∧ K.Ext w' w'' := fun w' hx => by have h_ := checkSteps_any xs w' hm (HH.out.ext hx); rwa [hc] at h_
    have HV := Z.hide (Z.code_valid hc)
    have HC0 := Z.hide hc
    obtain ⟨it0, hi0, hz0, hz1, hz2⟩ := info_parts info_step
    obtain ⟨n, hn⟩ : ∃ n, n = xs.length := ⟨_, rfl⟩
    have HN := Z.hide hn
    rw [← hn] at HK hm ⊢
    have hn12 : n ≤ 12 := by rw [hn]; exact Z.code_len hc
    clear h hc hn
    go_enter Try.func43, Try.ntmps43
    go_wp2_with ((go_at_call 81; refine K.call (by with_reducible rfl) (by with_reducible rfl) (HK _ (K.Ext.refl _)) ?_; rintro e w1 ⟨rfl, hw1⟩))
    have HX1 := Z.hide hw1
    have lw1 := hw1.size
    clear HK hw1
    go_loopw [5, 6] (fun out i wr => ∃ k : Nat, k ≤ n ∧ i = (if k < n then .int .i64 ((n - 1 - k : Nat) : Int) else .int .i64 (-1)) ∧ Hid (Z.noBad (xs.reverse.take k) = true) ∧ Hid (wr.ownsRow w.heap.size 87 3 out k (K.StR.cells ((xs.reverse.take k).map Z.undoSt))) ∧ Hid (K.Ext w wr)) (fun _ i _ => (intOf i + 1).toNat)
    case atStart => exact ⟨0, Nat.zero_le _, by split <;> exact K.vint (by omega), Z.hide rfl, Z.hide (K.row_lit3 (by simp) (by omega)), Z.hide (HX1.out.alloc _)⟩
    case round =>
      obtain ⟨k, hk, rfl, HB, HO, HX⟩ := hrel
      by_cases hlt : k < n
      · rw [if_pos hlt]
        obtain ⟨j, hj⟩ : ∃ j : Nat, j = n - 1 - k := ⟨_, rfl⟩
        rw [← hj]
        have hjn : j < xs.length := by rw [← HN.out]; omega
        obtain ⟨b, off, rfl, _, _, hc, _⟩ := K.recs_at HH.out (by omega)
        have hc0 : wr.cell? ⟨b, off + j * 3, none⟩ = some (.int .i64 (xs[j]'hjn).kd) := HX.out.cell_of (hc j hjn 0 (by decide))
        have hc1 : wr.cell? ⟨b, off + j * 3 + 1, none⟩ = some (.int .u8 (xs[j]'hjn).nm) := HX.out.cell_of (hc j hjn 1 (by decide))
        have hc2 : wr.cell? ⟨b, off + j * 3 + 2, none⟩ = some (.int .i64 (xs[j]'hjn).pw) := HX.out.cell_of (hc j hjn 2 (by decide))
        have hv := HV.out (xs[j]'hjn) (List.getElem_mem hjn)
        have HT : Hid (xs.reverse.take (k + 1) = xs.reverse.take k ++ [xs[j]'hjn]) := Z.hide (Z.rev_take xs k j hjn (by rw [← HN.out]; omega))
        have HBd : Hid (Z.isBad (xs[j]'hjn) = true → Z.UndoSteps xs = ([], 5)) := Z.hide (fun hb => Z.undo_bad HC0.out (List.getElem_mem hjn) hb)
        have j0 : (0 : Int) ≤ (j : Int) := Int.natCast_nonneg j
        have j1 : (j : Int) < (n : Int) := by omega
        have lbw : wr.heap.size ≠ b := by have := World.block_lt_of_cell? wr _ hc0; simp only at this; omega
        have lw := HX.out.size
        have hj1 : j + k + 1 ≤ n := by omega
        have hj2 : n ≤ j + k + 1 := by omega
        clear hc hj
        obtain ⟨s, hs⟩ : ∃ s, s = (xs[j]'hjn) := ⟨_, rfl⟩
        rw [← hs] at hc0 hc1 hc2 hv HT HBd
        clear hs
        obtain ⟨d, m, t0⟩ := s
        dsimp only at hc0 hc1 hc2
        rcases Z.step_cases hv with ⟨rfl, rfl, rfl⟩ | ⟨rfl, t1, t2⟩ | ⟨rfl, rfl, t1, t2⟩
        · have HBs : Hid ((true && !Z.isBad ⟨0, 0, 0⟩) = true) := Z.hide rfl
          have HC : Hid (Z.undoSt ⟨0, 0, 0⟩ = ⟨0, 0, 0⟩) := Z.hide (by rfl)
          go_wp2_with ((at_builtin; refine wpList_append_lies _ rfl _ _ _ rfl (w.heap.size) 87 it0 _ 3 24 Try.underlying32 hi0 hz0 hz1 hz2 rfl (by omega) u5 k _ rfl ((HO.out.alloc _).alloc _) ⟨wr.heap.size + 1, 0, none⟩ 1 1 [.int .i64 0, .int .u8 0, .int .i64 0] rfl rfl (World.news_of_block (cs := #[.int .i64 0, .int .u8 0, .int .i64 0]) (t := 87) (fr := (0, 0)) (K.block_new (by simp))) (by simp [Value.oneCell']) (by omega) (by unfold maxLen; omega) (by omega) (by simp; omega) (wr.heap.size + 1 + 1) (by simp) ?_; intro g2 gcap2 w2 hown2 hgrow2 hat2 hlt3; have HR2 : Hid (∀ g, u5.ownBlock = some g → w.heap.size ≤ g) := Z.hide (fun g hg => (HO.out.lt g hg).1); have HP2 := Z.hide hown2; have HX2 : Hid (K.Ext w w2) := Z.hide ((((HX.out.alloc _).alloc _).below.grown hgrow2 (by simp; omega) (fun g hg => by have := HR2.out g hg; omega))); clear hown2 hgrow2 hat2))
          go_roundw
          case rel => exact ⟨k + 1, by omega, by split <;> exact K.vint (by omega), Z.hide (by rw [HT.out, Z.noBad_snoc, HB.out]; exact HBs.out), Z.hide (by rw [HT.out, List.map_append, List.map_singleton, K.Rec.cells_snoc, HC.out]; exact HP2.out), HX2⟩
          case measure => first | (simp [intOf]; done) | (simp [intOf]; omega)
        · have HBs : Hid ((true && !Z.isBad ⟨1, m, t0⟩) = true) := Z.hide rfl
          clear hv
          have HC : Hid (Z.undoSt ⟨1, m, t0⟩ = ⟨1, m, -t0⟩) := Z.hide (by rfl)
          go_wp2_with ((at_builtin; refine wpList_append_lies _ rfl _ _ _ rfl (w.heap.size) 87 it0 _ 3 24 Try.underlying32 hi0 hz0 hz1 hz2 rfl (by omega) u5 k _ rfl ((HO.out.alloc _).alloc _) ⟨wr.heap.size + 1, 0, none⟩ 1 1 [.int .i64 1, .int .u8 m, .int .i64 (-t0)] rfl rfl (World.news_of_block (cs := #[.int .i64 1, .int .u8 m, .int .i64 (-t0)]) (t := 87) (fr := (0, 0)) (K.block_new (by simp))) (by simp [Value.oneCell']) (by omega) (by unfold maxLen; omega) (by omega) (by simp; omega) (wr.heap.size + 1 + 1) (by simp) ?_; intro g2 gcap2 w2 hown2 hgrow2 hat2 hlt3; have HR2 : Hid (∀ g, u5.ownBlock = some g → w.heap.size ≤ g) := Z.hide (fun g hg => (HO.out.lt g hg).1); have HP2 := Z.hide hown2; have HX2 : Hid (K.Ext w w2) := Z.hide ((((HX.out.alloc _).alloc _).below.grown hgrow2 (by simp; omega) (fun g hg => by have := HR2.out g hg; omega))); clear hown2 hgrow2 hat2))
          go_roundw
          case rel => exact ⟨k + 1, by omega, by split <;> exact K.vint (by omega), Z.hide (by rw [HT.out, Z.noBad_snoc, HB.out]; exact HBs.out), Z.hide (by rw [HT.out, List.map_append, List.map_singleton, K.Rec.cells_snoc, HC.out]; exact HP2.out), HX2⟩
          case measure => first | (simp [intOf]; done) | (simp [intOf]; omega)
        · clear hv
          by_cases p1 : t0 = 1
          · subst p1
            have HBs : Hid ((true && !Z.isBad ⟨2, 0, 1⟩) = true) := Z.hide rfl
            have HC : Hid (Z.undoSt ⟨2, 0, 1⟩ = ⟨2, 0, 1⟩) := Z.hide (by rfl)
            go_wp2_with ((at_builtin; refine wpList_append_lies _ rfl _ _ _ rfl (w.heap.size) 87 it0 _ 3 24 Try.underlying32 hi0 hz0 hz1 hz2 rfl (by omega) u5 k _ rfl ((HO.out.alloc _).alloc _) ⟨wr.heap.size + 1, 0, none⟩ 1 1 [.int .i64 2, .int .u8 0, .int .i64 1] rfl rfl (World.news_of_block (cs := #[.int .i64 2, .int .u8 0, .int .i64 1]) (t := 87) (fr := (0, 0)) (K.block_new (by simp))) (by simp [Value.oneCell']) (by omega) (by unfold maxLen; omega) (by omega) (by simp; omega) (wr.heap.size + 1 + 1) (by simp) ?_; intro g2 gcap2 w2 hown2 hgrow2 hat2 hlt3; have HR2 : Hid (∀ g, u5.ownBlock = some g → w.heap.size ≤ g) := Z.hide (fun g hg => (HO.out.lt g hg).1); have HP2 := Z.hide hown2; have HX2 : Hid (K.Ext w w2) := Z.hide ((((HX.out.alloc _).alloc _).below.grown hgrow2 (by simp; omega) (fun g hg => by have := HR2.out g hg; omega))); clear hown2 hgrow2 hat2))
            go_roundw
            case rel => exact ⟨k + 1, by omega, by split <;> exact K.vint (by omega), Z.hide (by rw [HT.out, Z.noBad_snoc, HB.out]; exact HBs.out), Z.hide (by rw [HT.out, List.map_append, List.map_singleton, K.Rec.cells_snoc, HC.out]; exact HP2.out), HX2⟩
            case measure => first | (simp [intOf]; done) | (simp [intOf]; omega)
          · by_cases p2 : t0 = -1
            · subst p2
              have HBs : Hid ((true && !Z.isBad ⟨2, 0, -1⟩) = true) := Z.hide rfl
              have HC : Hid (Z.undoSt ⟨2, 0, -1⟩ = ⟨2, 0, -1⟩) := Z.hide (by rfl)
              go_wp2_with ((at_builtin; refine wpList_append_lies _ rfl _ _ _ rfl (w.heap.size) 87 it0 _ 3 24 Try.underlying32 hi0 hz0 hz1 hz2 rfl (by omega) u5 k _ rfl ((HO.out.alloc _).alloc _) ⟨wr.heap.size + 1, 0, none⟩ 1 1 [.int .i64 2, .int .u8 0, .int .i64 (-1)] rfl rfl (World.news_of_block (cs := #[.int .i64 2, .int .u8 0, .int .i64 (-1)]) (t := 87) (fr := (0, 0)) (K.block_new (by simp))) (by simp [Value.oneCell']) (by omega) (by unfold maxLen; omega) (by omega) (by simp; omega) (wr.heap.size + 1 + 1) (by simp) ?_; intro g2 gcap2 w2 hown2 hgrow2 hat2 hlt3; have HR2 : Hid (∀ g, u5.ownBlock = some g → w.heap.size ≤ g) := Z.hide (fun g hg => (HO.out.lt g hg).1); have HP2 := Z.hide hown2; have HX2 : Hid (K.Ext w w2) := Z.hide ((((HX.out.alloc _).alloc _).below.grown hgrow2 (by simp; omega) (fun g hg => by have := HR2.out g hg; omega))); clear hown2 hgrow2 hat2))
              go_roundw
              case rel => exact ⟨k + 1, by omega, by split <;> exact K.vint (by omega), Z.hide (by rw [HT.out, Z.noBad_snoc, HB.out]; exact HBs.out), Z.hide (by rw [HT.out, List.map_append, List.map_singleton, K.Rec.cells_snoc, HC.out]; exact HP2.out), HX2⟩
              case measure => first | (simp [intOf]; done) | (simp [intOf]; omega)
            · have HE : Hid (Z.UndoSteps xs = ([], 5)) := Z.hide (HBd.out (by simp [Z.isBad, p1, p2]))
              have q1 : (t0 == 1) = false := by simpa using p1
              have q2 : (t0 == -1) = false := by simpa using p2
              have q3 : (t0 != 1) = true := by simpa using p1
              have q4 : (t0 != -1) = true := by simpa using p2
              go_wp2_with (fail)
              rw [HE.out]
              go_ret2
              exact ⟨⟨_, rfl, K.recs_nil _ _ _⟩, (by repeat' (first | with_reducible exact K.Ext.refl _ | with_reducible assumption | with_reducible refine K.Ext.drew ?_ | with_reducible refine K.Ext.alloc ?_ _ | with_reducible refine K.Ext.setCell ?_ ?_ _ | with_reducible refine K.Ext.trans ?_ (by with_reducible assumption) | (dsimp only; omega) | omega | exact K.Ext.refl _ | assumption | apply K.Ext.drew | refine K.Ext.alloc ?_ _ | refine K.Ext.setCell ?_ ?_ _ | (simp; done) | (simp; omega) | refine K.Ext.trans ?_ (by assumption)))⟩
      · rw [if_neg hlt]
        obtain rfl : k = n := by omega
        have HF : Hid (Z.UndoSteps xs = (xs.reverse.map Z.undoSt, 0)) := Z.hide (Z.undo_good HC0.out (by have h_ := HB.out; rwa [List.take_of_length_le (by rw [List.length_reverse, ← HN.out]; exact Nat.le_refl _)] at h_))
        have HO2 : Hid (wr.ownsRow w.heap.size 87 3 u5 k (K.StR.cells (xs.reverse.map Z.undoSt))) := Z.hide (by have h_ := HO.out; rwa [List.take_of_length_le (by rw [List.length_reverse, ← HN.out]; exact Nat.le_refl _)] at h_)
        clear HO HB
        go_wp2
        rw [HF.out]
        go_ret2
        exact ⟨⟨_, rfl,  (K.recs_of_row HO2.out (by decide))⟩, HX.out⟩
  · have HK : ∀ w' : World, K.Ext w w' → Calls Try.prog 81 #[.slice o xs.length cap] w' fun e w'' => e = .returned (.int .i64 (Z.stCode xs)) ∧ K.Ext w' w'' := fun w' hx => checkSteps_any xs w' hm (HH.out.ext hx)
    have HE : Hid (Z.UndoSteps xs = ([], Z.stCode xs)) := Z.hide (by unfold Z.UndoSteps; rw [if_neg hc])
    clear h
    generalize Z.stCode xs = c at *
    go_enter Try.func43, Try.ntmps43
    go_wp2_with ((go_at_call 81; refine K.call (by with_reducible rfl) (by with_reducible rfl) (HK _ (K.Ext.refl _)) ?_; rintro e w1 ⟨rfl, hw1⟩))
    rw [HE.out]
    go_ret2
    exact ⟨⟨_, rfl, K.recs_nil _ _ _⟩, hw1⟩
end Go.Proofs.Ytpepekmljmeghaa
