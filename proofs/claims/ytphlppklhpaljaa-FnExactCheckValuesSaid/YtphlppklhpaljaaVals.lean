/-
  VALUES of the letters of a formula, both sides.
-/
import Derived.Test.YtphlppklhpaljaaLog4
import Derived.Test.YtphlppklhpaljaaFgL
import Derived.Test.YtphlppklhpaljaaUndo
set_option linter.unusedVariables false
namespace Go.Z
def ixOf (names : List Int) (c : Int) : Nat := names.findIdx (fun x => x == c)
theorem ixOf_le (names : List Int) (c : Int) : ixOf names c ≤ names.length := List.findIdx_le_length
theorem ixOf_cons (x : Int) (l : List Int) (c : Int) : ixOf (x :: l) c = if x = c then 0 else ixOf l c + 1 := by
  unfold ixOf; rw [List.findIdx_cons]
  by_cases h : x = c
  · simp [h]
  · have : (x == c) = false := by simpa using h
    simp [h, this]
theorem ixOf_step (l : List Int) (c : Int) (j : Nat) (h : j < l.length) (hj : j ≤ ixOf l c) (hn : ¬ l.getD j 0 = c) : j + 1 ≤ ixOf l c := by
  induction l generalizing j with
  | nil => simp at h
  | cons x l ih =>
    rw [ixOf_cons] at hj ⊢
    cases j with
    | zero => rw [if_neg (by simpa using hn)]; omega
    | succ j =>
      split at hj
      · omega
      · rename_i hx; rw [if_neg hx]; have := ih j (by simpa using h) (by omega) (by simpa using hn); omega
theorem ixOf_hit (l : List Int) (c : Int) (j : Nat) (h : j < l.length) (hj : j ≤ ixOf l c) (hn : l.getD j 0 = c) : ixOf l c = j := by
  induction l generalizing j with
  | nil => simp at h
  | cons x l ih =>
    rw [ixOf_cons] at hj ⊢
    cases j with
    | zero => rw [if_pos (by simpa using hn)]
    | succ j =>
      split at hj
      · omega
      · rename_i hx; rw [if_neg hx]; have := ih j (by simpa using h) (by omega) (by simpa using hn); omega
theorem index_find (l : List UInt8) (c : UInt8) : (Lib.indexByte l c = -1 ∧ ixOf (l.map (fun b => (b.toNat : Int))) c.toNat = l.length) ∨ ∃ k : Nat, k < l.length ∧ Lib.indexByte l c = k ∧ ixOf (l.map (fun b => (b.toNat : Int))) c.toNat = k := by
  induction l with
  | nil => left; exact ⟨rfl, rfl⟩
  | cons b l ih =>
    rw [List.map_cons, ixOf_cons]
    by_cases hb : b = c
    · right; subst hb; exact ⟨0, by simp, by simp [Lib.indexByte], by simp⟩
    · have hbc : (b == c) = false := by simpa using hb
      have hbn : ¬ ((b.toNat : Int) = (c.toNat : Int)) := fun h => hb (UInt8.toNat_inj.1 (by omega))
      rw [if_neg hbn]
      rcases ih with ⟨h1, h2⟩ | ⟨k, hk, h1, h2⟩
      · left; refine ⟨by simp [Lib.indexByte, hbc, h1], by rw [h2]; simp⟩
      · right
        refine ⟨k + 1, by simpa using hk, ?_, by rw [h2]⟩
        have : ¬ ((k : Int) = -1) := by omega
        simp [Lib.indexByte, hbc, h1, this]
/-- the values of the first k letters -/
def valuesK (nm names : List Int) (vs : List (Int × Int)) : Nat → Option (List (Int × Int))
  | 0 => some []
  | k + 1 => match valuesK nm names vs k with
    | none => none
    | some l => if ixOf names (nm.getD k 0) < names.length then some (l ++ [vs.getD (ixOf names (nm.getD k 0)) (0, 0)]) else none
def valsOr (r : Option (List (Int × Int))) : List (Int × Int) × Bool := match r with
  | some l => (l, true)
  | none => ([], false)
def valuesFor (F : Fm) (N : ByteArray) (vs : List (Int × Int)) : List (Int × Int) × Bool := valsOr (valuesK (bs F.nm) (bs N) vs F.nm.size)
theorem valuesK_none {nm names : List Int} {vs : List (Int × Int)} {k : Nat} (h : valuesK nm names vs k = none) (n : Nat) : valuesK nm names vs (k + n) = none := by
  induction n with
  | zero => exact h
  | succ n ih => rw [← Nat.add_assoc]; simp only [valuesK]; rw [ih]
theorem valuesK_miss {nm names : List Int} {vs : List (Int × Int)} {k n : Nat} {l : List (Int × Int)} (hk : k < n) (h : valuesK nm names vs k = some l) (hm : ¬ ixOf names (nm.getD k 0) < names.length) : valuesK nm names vs n = none := by
  have h1 : valuesK nm names vs (k + 1) = none := by simp only [valuesK]; rw [h]; simp only [if_neg hm]
  have h2 := valuesK_none h1 (n - (k + 1))
  rwa [show k + 1 + (n - (k + 1)) = n from by omega] at h2
theorem valuesK_step {nm names : List Int} {vs : List (Int × Int)} {k j : Nat} {l : List (Int × Int)} (h : valuesK nm names vs k = some l) (hj : j < names.length) (hi : ixOf names (nm.getD k 0) = j) : valuesK nm names vs (k + 1) = some (l ++ [vs.getD j (0, 0)]) := by
  simp only [valuesK]; rw [h]; simp only [hi, if_pos hj]
theorem valuesK_parts {nm names : List Int} {vs : List (Int × Int)} (hv : areFigs vs = true) (hl : names.length = vs.length) (k : Nat) {l : List (Int × Int)} (h : valuesK nm names vs k = some l) : l.length = k ∧ areFigs l = true := by
  induction k generalizing l with
  | zero => simp only [valuesK, Option.some.injEq] at h; subst h; exact ⟨rfl, rfl⟩
  | succ k ih =>
    simp only [valuesK] at h
    split at h
    · cases h
    · rename_i l' hl'
      split at h
      · rename_i hj
        simp only [Option.some.injEq] at h
        subst h
        obtain ⟨a, b⟩ := ih hl'
        refine ⟨by simp [a], ?_⟩
        have h2 := areFigs_at hv _ (by rw [← hl]; exact hj)
        unfold areFigs at b ⊢
        rw [List.all_append, b]
        simpa using h2
      · cases h
theorem valuesFor_some {F : Fm} {N : ByteArray} {vs l : List (Int × Int)} (h : valuesK (bs F.nm) (bs N) vs F.nm.size = some l) : valuesFor F N vs = (l, true) := by unfold valuesFor; rw [h]; rfl
theorem valuesFor_none {F : Fm} {N : ByteArray} {vs : List (Int × Int)} (h : valuesK (bs F.nm) (bs N) vs F.nm.size = none) : valuesFor F N vs = ([], false) := by unfold valuesFor; rw [h]; rfl
end Go.Z
namespace Go.K
open Go.RowKit
theorem row_lit2 {w : World} {B g : Nat} {e : TypeId} (hg : g = w.heap.size) (hB : B ≤ g) : (w.alloc (.cells #[] e)).ownsRow B e 2 (.slice (some ⟨g, 0, none⟩) 0 0) 0 [] := by
  subst hg; exact World.ownsRow_lit w #[] 0 hB (by decide) rfl
end Go.K
namespace Go.Proofs.Ytphlppklhpaljaa
open Go.RowKit
set_option maxRecDepth 100000 in
set_option maxHeartbeats 3200000 in
theorem valuesFor_any (F : Z.Fm) (N : ByteArray) (vs : List (Int × Int)) {lo hi : Nat} {p v : Value} (w : World) (hn : F.nm.size ≤ 1000000) (hN : N.size = vs.length) (hm : vs.length ≤ 1000000) (h : K.recs false K.FgR w lo hi v vs) :
    Calls Try.prog 120 #[.agg #[.int .i64 F.dg, .int .i64 F.tn, .string F.nm, p], .string N, v] w fun e w' => (∃ v', e = .returned (.tuple #[v', .bool (Z.valuesFor F N vs).2]) ∧ K.recs false K.FgR w' w.heap.size w'.heap.size v' (Z.valuesFor F N vs).1) ∧ K.Ext w w' := by
  have h1 := h
  obtain ⟨o, cap, rfl, _⟩ := h1
  have HV := Z.hide h
  obtain ⟨it0, hi0, hz0, hz1, hz2⟩ := info_parts info_fig
  have HNL : Hid ((Z.bs N).length = vs.length) := Z.hide (by rw [Z.bs_length]; exact hN)
  clear h
  go_enter Try.func120, Try.ntmps120
  go_wp2
  go_loopw [8, 15] (fun out i wr => ∃ k : Nat, k ≤ F.nm.size ∧ i = .int .i64 k ∧ Hid (∃ l, Z.valuesK (Z.bs F.nm) (Z.bs N) vs k = some l ∧ wr.ownsRow (w.heap.size + 1) 32 2 out k (K.FgR.cells l)) ∧ Hid (K.Ext (w.alloc (.cells #[.int .i64 F.dg, .int .i64 F.tn, .string F.nm, p] 34)) wr)) (fun _ i _ => F.nm.size - (intOf i).toNat)
  case atStart => exact ⟨0, Nat.zero_le _, rfl, Z.hide ⟨[], rfl, K.row_lit2 (by simp) (by omega)⟩, Z.hide ((K.Ext.refl _).alloc _)⟩
  case round =>
    obtain ⟨k, hk, rfl, HS, HX⟩ := hrel
    obtain ⟨l, hl, ho⟩ := HS.out
    have HL := Z.hide hl
    have HO := Z.hide ho
    clear HS hl ho
    have k0 : (0 : Int) ≤ (k : Int) := Int.natCast_nonneg k
    have c2 : wr.cell? ⟨w.heap.size, 2, none⟩ = some (.string F.nm) := HX.out.cell_of (by go_simp)
    have HX0 : Hid (K.Ext w wr) := Z.hide (K.Ext.trans ((K.Ext.refl w).alloc _) HX.out)
    have lw := HX.out.size
    simp at lw
    by_cases hlt : k < F.nm.size
    · have k1 : (k : Int) < (F.nm.size : Int) := by omega
      have hb := Z.bs_get F.nm k hlt
      have e8 : ((((F.nm[k]'hlt).toNat : Nat) : Int)).toNat.toUInt8 = F.nm[k]'hlt := by simp
      have ebs : Z.bs N = N.data.toList.map (fun b => (b.toNat : Int)) := rfl
      rcases Z.index_find N.data.toList (F.nm[k]'hlt) with ⟨h1, h2⟩ | ⟨j, hj, h1, h2⟩
      · have HC : Hid (∀ w : World, Calls Try.prog 180 #[.string N, .int .u8 (((F.nm[k]'hlt).toNat : Nat) : Int)] w fun e w' => e = .returned (.int .i64 (-1)) ∧ w = w') := Z.hide (fun w => by have h_ := IndexByte_any N (((F.nm[k]'hlt).toNat : Nat) : Int) w; rwa [e8, h1] at h_)
        have HE : Hid (Z.valuesFor F N vs = ([], false)) := Z.hide (Z.valuesFor_none (Z.valuesK_miss hlt HL.out (by rw [← hb, ebs, h2]; simp)))
        clear h1 h2 hb e8 ebs hi0 hz0 hz1 hz2
        go_wp2_with ((go_at_call 180; refine K.call (by with_reducible rfl) (by with_reducible rfl) (HC.out _) ?_; rintro e w' ⟨rfl, rfl⟩))
        rw [HE.out]
        go_ret2
        exact ⟨⟨_, rfl, K.recs_nil _ _ _⟩, HX0.out⟩
      · have HC : Hid (∀ w : World, Calls Try.prog 180 #[.string N, .int .u8 (((F.nm[k]'hlt).toNat : Nat) : Int)] w fun e w' => e = .returned (.int .i64 j) ∧ w = w') := Z.hide (fun w => by have h_ := IndexByte_any N (((F.nm[k]'hlt).toNat : Nat) : Int) w; rwa [e8, h1] at h_)
        have hjN : j < N.size := by rw [Array.length_toList] at hj; exact hj
        have hjv : j < vs.length := by omega
        have HT : Hid (Z.valuesK (Z.bs F.nm) (Z.bs N) vs (k + 1) = some (l ++ [vs.getD j (0, 0)])) := Z.hide (Z.valuesK_step HL.out (by rw [Z.bs_length]; exact hjN) (by rw [← hb, ebs, h2]))
        obtain ⟨b, off, rfl, _, _, hc, _⟩ := K.recs_at HV.out (by omega)
        have eg : vs[j]'hjv = vs.getD j (0, 0) := by simp [List.getD_eq_getElem?_getD, hjv]
        have v0 : wr.cell? ⟨b, off + j * 2, none⟩ = some (.int .i64 (vs.getD j (0, 0)).1) := by rw [← eg]; exact HX0.out.cell_of (hc j hjv 0 (by decide))
        have v1 : wr.cell? ⟨b, off + j * 2 + 1, none⟩ = some (.int .i64 (vs.getD j (0, 0)).2) := by rw [← eg]; exact HX0.out.cell_of (hc j hjv 1 (by decide))
        have j0 : (0 : Int) ≤ (j : Int) := Int.natCast_nonneg j
        have j1 : (j : Int) < (vs.length : Int) := by omega
        have lb : b < wr.heap.size := World.block_lt_of_cell? wr _ v0
        have n1 : ¬ (b = wr.heap.size) := by omega
        clear h1 h2 hb e8 ebs hc eg hj
        generalize vs.getD j (0, 0) = f at *
        obtain ⟨f1, f2⟩ := f
        dsimp only at v0 v1
        go_wp2_with (first | (go_at_call 180; refine K.call (by with_reducible rfl) (by with_reducible rfl) (HC.out _) ?_; rintro e w' ⟨rfl, rfl⟩) | (at_builtin; refine wpList_append_lies _ rfl _ _ _ rfl (w.heap.size + 1) 32 it0 _ 2 16 Try.underlying56 hi0 hz0 hz1 hz2 rfl (by omega) u8 k _ rfl (HO.out.alloc _) ⟨wr.heap.size, 0, none⟩ 1 1 [.int .i64 f1, .int .i64 f2] rfl rfl (World.news_of_block (cs := #[.int .i64 f1, .int .i64 f2]) (t := 32) (fr := (0, 0)) (K.block_new (by simp))) (by simp [Value.oneCell']) (by omega) (by unfold maxLen; omega) (by first | omega | (simp; omega)) (by first | omega | (simp; omega)) (wr.heap.size + 1) (by simp) ?_; intro g2 gcap2 w2 hown2 hgrow2 hat2 hlt3; have HR2 : Hid (∀ g, u8.ownBlock = some g → w.heap.size + 1 ≤ g) := Z.hide (fun g hg => (HO.out.lt g hg).1); have HP2 := Z.hide hown2))
        have HX2 : Hid (K.Ext (w.alloc (.cells #[.int .i64 F.dg, .int .i64 F.tn, .string F.nm, p] 34)) w2) := Z.hide ((HX.out.alloc _).below.grown hgrow2 (by simp; omega) (fun g hg => by have := HR2.out g hg; simp; omega))
        clear hown2 hgrow2 hat2
        go_roundw
        case rel => exact ⟨k + 1, by omega, by go_num, Z.hide ⟨_, HT.out, by rw [K.Rec.cells_snoc]; exact HP2.out⟩, HX2⟩
        case measure => first | (simp [intOf]; done) | (simp [intOf]; omega)
    · obtain rfl : k = F.nm.size := by omega
      have HF : Hid (Z.valuesFor F N vs = (l, true)) := Z.hide (Z.valuesFor_some HL.out)
      have HR := Z.hide (K.recs.plain ((K.recs_of_row HO.out (by decide)).mono (show w.heap.size ≤ w.heap.size + 1 by omega) (Nat.le_refl _)))
      clear HO HL
      go_wp2
      rw [HF.out]
      go_ret2
      exact ⟨⟨_, rfl, HR.out⟩, HX0.out⟩
set_option maxRecDepth 100000 in
set_option maxHeartbeats 6400000 in
theorem l20Values_any (F : Z.Fm) (N : ByteArray) (vs : List (Int × Int)) {lo hi : Nat} {p v : Value} (w : World) (hn : F.nm.size ≤ 1000000) (hN : N.size = vs.length) (hm : vs.length ≤ 1000000) (h : K.recs false K.FgR w lo hi v vs) :
    Calls Try.prog 117 #[.agg #[.int .i64 F.dg, .int .i64 F.tn, .string F.nm, p], .string N, v] w fun e w' => (∃ v', e = .returned (.tuple #[v', .bool (Z.valuesFor F N vs).2]) ∧ K.recs false K.FgR w' w.heap.size w'.heap.size v' (Z.valuesFor F N vs).1) ∧ K.Ext w w' := by
  have h1 := h
  obtain ⟨o, cap, rfl, _⟩ := h1
  have HV := Z.hide h
  obtain ⟨it0, hi0, hz0, hz1, hz2⟩ := info_parts info_fig
  have HNL : Hid ((Z.bs N).length = N.size) := Z.hide (Z.bs_length N)
  clear h
  go_enter Try.func117, Try.ntmps117
  go_wp2
  go_loopw [8, 9] (fun out i wr => ∃ k : Nat, k ≤ F.nm.size ∧ i = .int .i64 k ∧ Hid (∃ l, Z.valuesK (Z.bs F.nm) (Z.bs N) vs k = some l ∧ wr.ownsRow (w.heap.size + 1) 32 2 out k (K.FgR.cells l)) ∧ Hid (K.Ext (w.alloc (.cells #[.int .i64 F.dg, .int .i64 F.tn, .string F.nm, p] 34)) wr)) (fun _ i _ => F.nm.size - (intOf i).toNat)
  case atStart => exact ⟨0, Nat.zero_le _, rfl, Z.hide ⟨[], rfl, K.row_lit2 (by simp) (by omega)⟩, Z.hide ((K.Ext.refl _).alloc _)⟩
  case round =>
    obtain ⟨k, hk, rfl, HS, HX⟩ := hrel
    obtain ⟨wo, rfl⟩ : ∃ wo : World, wo = wr := ⟨_, rfl⟩
    obtain ⟨l, hl, ho⟩ := HS.out
    have HL := Z.hide hl
    have HO := Z.hide ho
    clear HS hl ho
    have k0 : (0 : Int) ≤ (k : Int) := Int.natCast_nonneg k
    have c2 : wo.cell? ⟨w.heap.size, 2, none⟩ = some (.string F.nm) := HX.out.cell_of (by go_simp)
    by_cases hlt : k < F.nm.size
    · have k1 : (k : Int) < (F.nm.size : Int) := by omega
      have HB := Z.hide (Z.bs_get F.nm k hlt)
      go_wp2
      go_loopw [10] (fun jj wr => ∃ j : Nat, j ≤ N.size ∧ jj = .int .i64 j ∧ Hid (j ≤ Z.ixOf (Z.bs N) ((Z.bs F.nm).getD k 0)) ∧ Hid (K.Ext wo wr)) (fun jj _ => N.size - (intOf jj).toNat)
      case atStart => exact ⟨0, Nat.zero_le _, rfl, Z.hide (Nat.zero_le _), Z.hide (K.Ext.refl _)⟩
      case round =>
        obtain ⟨j, hj, rfl, HJ, HXj⟩ := hrel
        have j0 : (0 : Int) ≤ (j : Int) := Int.natCast_nonneg j
        have c3 : wr.cell? ⟨w.heap.size, 2, none⟩ = some (.string F.nm) := HXj.out.cell_of c2
        by_cases hjn : j < N.size
        · have j1 : (j : Int) < (N.size : Int) := by omega
          have HBN := Z.hide (Z.bs_get N j hjn)
          have hjv0 : j < vs.length := by omega
          have dj : decide (j < vs.length) = true := decide_eq_true hjv0
          by_cases he : ((N[j]'hjn).toNat : Int) = ((F.nm[k]'hlt).toNat : Int)
          · have t1 : ((((N[j]'hjn).toNat : Nat) : Int) != (((F.nm[k]'hlt).toNat : Nat) : Int)) = false := by simp [he]
            have HI : Hid (Z.ixOf (Z.bs N) ((Z.bs F.nm).getD k 0) = j) := Z.hide (Z.ixOf_hit _ _ j (by rw [HNL.out]; exact hjn) HJ.out (by rw [← HBN.out, ← HB.out]; exact he))
            have HT : Hid (Z.valuesK (Z.bs F.nm) (Z.bs N) vs (k + 1) = some (l ++ [vs.getD j (0, 0)])) := Z.hide (Z.valuesK_step HL.out (by rw [HNL.out]; exact hjn) HI.out)
            clear he HBN HI HJ
            go_wp2_with fail
            refine K.wp_region_x 14 [0, 0, 0, 0, 0, 0, 0, 0, 0, 1, 0, 0, 0, 0] [] (by kernel_rfl) (by kernel_rfl) ?_
            simp only [List.take_succ_cons, List.take_zero, List.drop_succ_cons, List.drop_zero]
            iterate 9
              apply K.x_pure
              · rfl
              · rfl
              · intro w'; go_simp; first | done | exact K.vint (IntWalk.i64_in _ (by omega)) | rfl | exact ⟨rfl, rfl⟩
              simp only [Act.put, List.setIfInBounds_toArray, List.set]
            apply K.x_held
            · rfl
            · rfl
            · intro w' hx; have hc := hx.all.1.1; have hf := hx.all.1.2; have hc' := hx.all.2.1; have hf' := hx.all.2.2; go_simp; first | done | rfl | exact ⟨rfl, rfl⟩
            simp only [Act.put, List.setIfInBounds_toArray, List.set]
            iterate 4
              apply K.x_pure
              · rfl
              · rfl
              · intro w'; go_simp; first | done | exact K.vint (IntWalk.i64_in _ (by omega)) | rfl | exact ⟨rfl, rfl⟩
              simp only [Act.put, List.setIfInBounds_toArray, List.set]
            apply K.x_done
            intro w6 h_x
            have hx6 := K.Ext.id h_x
            clear h_x
            obtain ⟨⟨hcw6, hfw6⟩, hc'w6, hf'w6⟩ := hx6.all
            refine wpList_nil ?_
            refine NoPanic.normal ?_
            have hjv : j < vs.length := by omega
            have HX1 : Hid (K.Ext (w.alloc (.cells #[.int .i64 F.dg, .int .i64 F.tn, .string F.nm, p] 34)) w6) := Z.hide (K.Ext.trans (HX.out.trans HXj.out.drew) hx6)
            have HX0 : Hid (K.Ext w w6) := Z.hide (K.Ext.trans ((K.Ext.refl w).alloc _) HX1.out)
            have HO6 := Z.hide (K.row_ext (K.row_ext HO.out HXj.out).drew hx6)
            obtain ⟨b, off, rfl, _, _, hc, _⟩ := K.recs_at HV.out (by omega)
            have eg : vs[j]'hjv = vs.getD j (0, 0) := by simp [List.getD_eq_getElem?_getD, hjv]
            have v0 : w6.cell? ⟨b, off + j * 2, none⟩ = some (.int .i64 (vs.getD j (0, 0)).1) := by rw [← eg]; exact HX0.out.cell_of (hc j hjv 0 (by decide))
            have v1 : w6.cell? ⟨b, off + j * 2 + 1, none⟩ = some (.int .i64 (vs.getD j (0, 0)).2) := by rw [← eg]; exact HX0.out.cell_of (hc j hjv 1 (by decide))
            have j2 : (j : Int) < (vs.length : Int) := by omega
            have lb : b < w6.heap.size := World.block_lt_of_cell? w6 _ v0
            have n1 : ¬ (b = w6.heap.size) := by omega
            have lw := HX1.out.size
            simp at lw
            have jne : ((j : Int) == (N.size : Int)) = false := by simp; omega
            clear hc eg HXj hx6
            generalize vs.getD j (0, 0) = f at *
            obtain ⟨f1, f2⟩ := f
            dsimp only at v0 v1
            go_wp2_with ((at_builtin; refine wpList_append_lies _ rfl _ _ _ rfl (w.heap.size + 1) 32 it0 _ 2 16 Try.underlying56 hi0 hz0 hz1 hz2 rfl (by omega) u8 k _ rfl (HO6.out.alloc _) ⟨w6.heap.size, 0, none⟩ 1 1 [.int .i64 f1, .int .i64 f2] rfl rfl (World.news_of_block (cs := #[.int .i64 f1, .int .i64 f2]) (t := 32) (fr := (0, 0)) (K.block_new (by simp))) (by simp [Value.oneCell']) (by omega) (by unfold maxLen; omega) (by first | omega | (simp; omega)) (by first | omega | (simp; omega)) (w6.heap.size + 1) (by simp) ?_; intro g2 gcap2 w2 hown2 hgrow2 hat2 hlt3; have HR2 : Hid (∀ g, u8.ownBlock = some g → w.heap.size + 1 ≤ g) := Z.hide (fun g hg => (HO6.out.lt g hg).1); have HP2 := Z.hide hown2))
            have HX2 : Hid (K.Ext (w.alloc (.cells #[.int .i64 F.dg, .int .i64 F.tn, .string F.nm, p] 34)) w2) := Z.hide ((HX1.out.alloc _).below.grown hgrow2 (by simp; omega) (fun g hg => by have := HR2.out g hg; simp; omega))
            clear hown2 hgrow2 hat2
            go_roundw
            case rel => exact ⟨k + 1, by omega, by go_num, Z.hide ⟨_, HT.out, by rw [K.Rec.cells_snoc]; exact HP2.out⟩, HX2⟩
            case measure => first | (simp [intOf]; done) | (simp [intOf]; omega)
          · have t1 : ((((N[j]'hjn).toNat : Nat) : Int) != (((F.nm[k]'hlt).toNat : Nat) : Int)) = true := by simpa using he
            have HJ2 : Hid (j + 1 ≤ Z.ixOf (Z.bs N) ((Z.bs F.nm).getD k 0)) := Z.hide (Z.ixOf_step _ _ j (by rw [HNL.out]; exact hjn) HJ.out (by rw [← HBN.out, ← HB.out]; exact he))
            clear HBN HJ
            go_wp2_with fail
            refine K.wp_region_x 14 [0, 0, 0, 0, 0, 0, 0, 0, 0, 1, 0, 0, 0, 0] [] (by kernel_rfl) (by kernel_rfl) ?_
            simp only [List.take_succ_cons, List.take_zero, List.drop_succ_cons, List.drop_zero]
            iterate 9
              apply K.x_pure
              · rfl
              · rfl
              · intro w'; go_simp; first | done | exact K.vint (IntWalk.i64_in _ (by omega)) | rfl | exact ⟨rfl, rfl⟩
              simp only [Act.put, List.setIfInBounds_toArray, List.set]
            apply K.x_held
            · rfl
            · rfl
            · intro w' hx; have hc := hx.all.1.1; have hf := hx.all.1.2; have hc' := hx.all.2.1; have hf' := hx.all.2.2; go_simp; first | done | rfl | exact ⟨rfl, rfl⟩
            simp only [Act.put, List.setIfInBounds_toArray, List.set]
            iterate 4
              apply K.x_pure
              · rfl
              · rfl
              · intro w'; go_simp; first | done | exact K.vint (IntWalk.i64_in _ (by omega)) | rfl | exact ⟨rfl, rfl⟩
              simp only [Act.put, List.setIfInBounds_toArray, List.set]
            apply K.x_done
            intro w6 h_x
            have hx6 := K.Ext.id h_x
            clear h_x
            obtain ⟨⟨hcw6, hfw6⟩, hc'w6, hf'w6⟩ := hx6.all
            refine wpList_nil ?_
            refine NoPanic.normal ?_
            go_wp2
            go_roundw
            case rel => exact ⟨j + 1, by omega, by go_num, HJ2, Z.hide (K.Ext.trans HXj.out.drew hx6)⟩
            case measure => simp [intOf]; omega
        · obtain rfl : j = N.size := by omega
          have HI : Hid (Z.ixOf (Z.bs N) ((Z.bs F.nm).getD k 0) = N.size) := Z.hide (Nat.le_antisymm (by have h_ := Z.ixOf_le (Z.bs N) ((Z.bs F.nm).getD k 0); rwa [HNL.out] at h_) HJ.out)
          have HE : Hid (Z.valuesFor F N vs = ([], false)) := Z.hide (Z.valuesFor_none (Z.valuesK_miss hlt HL.out (by rw [HI.out, HNL.out]; omega)))
          have HX0 : Hid (K.Ext w wr) := Z.hide (K.Ext.trans (K.Ext.trans ((K.Ext.refl w).alloc _) HX.out) HXj.out)
          clear HI HJ
          go_wp2_with fail
          refine K.wp_region_x 14 [0, 0, 0, 0, 0, 0, 0, 0, 0, 1, 0, 0, 0, 0] [] (by kernel_rfl) (by kernel_rfl) ?_
          simp only [List.take_succ_cons, List.take_zero, List.drop_succ_cons, List.drop_zero]
          iterate 5
            apply K.x_pure
            · rfl
            · rfl
            · intro w'; go_simp; first | done | exact K.vint (IntWalk.i64_in _ (by omega)) | rfl | exact ⟨rfl, rfl⟩
            simp only [Act.put, List.setIfInBounds_toArray, List.set]
          iterate 8
            refine K.x_skip (by rfl) ?_
            simp only [Act.put, List.setIfInBounds_toArray, List.set]
          apply K.x_pure
          · rfl
          · rfl
          · intro w'; go_simp; first | done | exact K.vint (IntWalk.i64_in _ (by omega)) | rfl | exact ⟨rfl, rfl⟩
          simp only [Act.put, List.setIfInBounds_toArray, List.set]
          apply K.x_done
          intro w6 h_x
          have hx6 := K.Ext.id h_x
          clear h_x
          obtain ⟨⟨hcw6, hfw6⟩, hc'w6, hf'w6⟩ := hx6.all
          refine wpList_nil ?_
          refine NoPanic.normal ?_
          go_wp2
          rw [HE.out]
          go_ret2
          exact ⟨⟨_, rfl, K.recs_nil _ _ _⟩, K.Ext.trans HX0.out.drew hx6⟩
    · obtain rfl : k = F.nm.size := by omega
      have HF : Hid (Z.valuesFor F N vs = (l, true)) := Z.hide (Z.valuesFor_some HL.out)
      have HR := Z.hide (K.recs.plain ((K.recs_of_row HO.out (by decide)).mono (show w.heap.size ≤ w.heap.size + 1 by omega) (Nat.le_refl _)))
      have HX0 : Hid (K.Ext w wo) := Z.hide (K.Ext.trans ((K.Ext.refl w).alloc _) HX.out)
      clear HO HL
      go_wp2
      rw [HF.out]
      go_ret2
      exact ⟨⟨_, rfl, HR.out⟩, HX0.out⟩
end Go.Proofs.Ytphlppklhpaljaa
