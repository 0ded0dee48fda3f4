/-
  FORMULAS (chapter 18), both sides: exponents.
-/
import Derived.Test.YthmnlbgbacbocaaFm2
import Derived.Lib.Strings
import Derived.Lib.Slices
import Derived.Lib.Walk
import Derived.Lib.Bytealg
set_option linter.unusedVariables false
namespace Go.Proofs.Ythmnlbgbacbocaa
open Go.RowKit
set_option maxHeartbeats 1600000 in
theorem l18Exponent_any (F : Z.Fm) (c : Int) (lo hi : Nat) (p : Value) (w : World) (hl : F.pw.length = F.nm.size) (hm : F.nm.size ≤ 1000000) (h : K.ints w lo hi p F.pw) :
    Calls Try.prog 107 #[.agg #[.int .i64 F.dg, .int .i64 F.tn, .string F.nm, p], .int .u8 c] w fun e w' => e = .returned (.int .i64 (Z.expo (Z.bs F.nm) F.pw c)) ∧ K.Ext w w' := by
  have h1 := h
  obtain ⟨o, cap, rfl, hh⟩ := h1
  have HL := Z.hide hl
  clear hl h
  go_enter Try.func107, Try.ntmps107
  go_wp2
  go_loop [5] (fun i => ∃ k : Nat, k ≤ F.nm.size ∧ i = .int .i64 k ∧ Hid (Z.expo (Z.bs F.nm) F.pw c = Z.expo ((Z.bs F.nm).drop k) (F.pw.drop k) c)) (fun i => F.nm.size - (intOf i).toNat)
  case atStart => exact ⟨0, Nat.zero_le _, rfl, Z.hide rfl⟩
  case round =>
    obtain ⟨k, hk, rfl, HE⟩ := hrel
    by_cases hlt : k < F.nm.size
    · have hlp : k < F.pw.length := by rw [HL.out]; exact hlt
      obtain ⟨b, off, rfl, _, _, hc⟩ := hh (by intro h0; simp [h0] at hlp)
      have HX := Z.hide (Z.expo_drop (Z.bs F.nm) F.pw c k (by rw [Z.bs_length]; exact hlt) hlp)
      have lb : b < w.heap.size := World.block_lt_of_cell? w _ (hc k hlp)
      have hck := hc k hlp
      have HB := Z.hide (Z.bs_get F.nm k hlt)
      clear hh hc
      by_cases he : ((F.nm[k]'hlt).toNat : Int) = c
      · rw [HB.out] at he
        have he' := Z.hide he
        have he2 : ((F.nm[k]'hlt).toNat : Int) = c := by rw [HB.out]; exact he
        clear he
        generalize hx : F.pw.getD k 0 = x at *
        have HQ := Z.hide hx
        clear hx
        go_wp2
        go_ret
        exact ⟨K.ri (by rw [HE.out, HX.out, if_pos he'.out]), (by repeat' (first | with_reducible exact K.Ext.refl _ | with_reducible assumption | with_reducible refine K.Ext.drew ?_ | with_reducible refine K.Ext.alloc ?_ _ | with_reducible refine K.Ext.setCell ?_ ?_ _ | with_reducible refine K.Ext.trans ?_ (by with_reducible assumption) | (dsimp only; omega) | omega | exact K.Ext.refl _ | assumption | apply K.Ext.drew | refine K.Ext.alloc ?_ _ | refine K.Ext.setCell ?_ ?_ _ | (simp; done) | (simp; omega) | refine K.Ext.trans ?_ (by assumption)))⟩
      · have he' : Hid (¬ (Z.bs F.nm).getD k 0 = c) := Z.hide (by rw [← HB.out]; exact he)
        go_wp2
        go_round
        case rel => exact ⟨k + 1, by omega, by go_num, Z.hide (by rw [HE.out, HX.out, if_neg he'.out])⟩
        case measure => simp [intOf]; omega
    · obtain rfl : k = F.nm.size := by omega
      have HX := Z.hide (Z.expo_end (Z.bs F.nm) F.pw c F.nm.size (by rw [Z.bs_length]; exact Nat.le_refl _))
      clear hh
      go_wp2
      go_ret
      exact ⟨K.ri (by rw [HE.out, HX.out]), (by repeat' (first | with_reducible exact K.Ext.refl _ | with_reducible assumption | with_reducible refine K.Ext.drew ?_ | with_reducible refine K.Ext.alloc ?_ _ | with_reducible refine K.Ext.setCell ?_ ?_ _ | with_reducible refine K.Ext.trans ?_ (by with_reducible assumption) | (dsimp only; omega) | omega | exact K.Ext.refl _ | assumption | apply K.Ext.drew | refine K.Ext.alloc ?_ _ | refine K.Ext.setCell ?_ ?_ _ | (simp; done) | (simp; omega) | refine K.Ext.trans ?_ (by assumption)))⟩
set_option maxHeartbeats 1000000 in
set_option maxRecDepth 100000 in
theorem sl_IndexByte (s : ByteArray) (c : Int) (w : World) :
    Calls Try.prog 195 #[.string s, .int .u8 c] w fun e w' => e = .returned (.int .i64 (Lib.indexByte s.data.toList c.toNat.toUInt8)) ∧ w = w' := by
  go_enter Try.func195, Try.ntmps195
  go_wp2
  rw [run_callFunc_extern Try.func207 (by kernel_rfl) (by kernel_rfl) (by kernel_rfl) (e := Extern.BytealgIndexByte.indexByte) (by kernel_rfl), Lib.run_indexByteString]
  simp only [Result.andThen]
  rw [Oper.upon_value]
  go_wp2
  go_ret
  exact ⟨rfl, rfl⟩
theorem IndexByte_any (s : ByteArray) (c : Int) (w : World) :
    Calls Try.prog 168 #[.string s, .int .u8 c] w fun e w' => e = .returned (.int .i64 (Lib.indexByte s.data.toList c.toNat.toUInt8)) ∧ w = w' := by
  go_enter Try.func168, Try.ntmps168
  go_wp2_with (go_at_call 195; refine K.call (by with_reducible rfl) (by with_reducible rfl) (sl_IndexByte _ _ _) ?_; rintro e w' ⟨rfl, rfl⟩)
  go_ret
  exact ⟨rfl, rfl⟩
set_option maxHeartbeats 1600000 in
theorem exponentOf_any (F : Z.Fm) (c : Int) (lo hi : Nat) (p : Value) (w : World) (hl : F.pw.length = F.nm.size) (hm : F.nm.size ≤ 1000000) (hc0 : 0 ≤ c) (hc1 : c ≤ 255) (h : K.ints w lo hi p F.pw) :
    Calls Try.prog 106 #[.agg #[.int .i64 F.dg, .int .i64 F.tn, .string F.nm, p], .int .u8 c] w fun e w' => e = .returned (.int .i64 (Z.expo (Z.bs F.nm) F.pw c)) ∧ K.Ext w w' := by
  have h1 := h
  obtain ⟨o, cap, rfl, hh⟩ := h1
  have hcc : ((c.toNat.toUInt8).toNat : Int) = c := by simp [Nat.toUInt8]; omega
  have hsz : F.nm.data.toList.length = F.nm.size := by rw [Array.length_toList]; rfl
  rcases Z.expo_index F.nm.data.toList F.pw c.toNat.toUInt8 (by rw [hsz, hl]) with ⟨h1, h2⟩ | ⟨k, hk, h1, h2⟩
  · have HE : Hid (Z.expo (Z.bs F.nm) F.pw c = 0) := Z.hide (by rw [← hcc]; exact h2)
    clear h2 hh h hcc hsz
    go_enter Try.func106, Try.ntmps106
    go_wp2_with (go_at_call 168; refine K.call (by with_reducible rfl) (by with_reducible rfl) (IndexByte_any _ _ _) ?_; rintro e w' ⟨rfl, rfl⟩)
    go_ret
    exact ⟨K.ri HE.out.symm, (by repeat' (first | with_reducible exact K.Ext.refl _ | with_reducible assumption | with_reducible refine K.Ext.drew ?_ | with_reducible refine K.Ext.alloc ?_ _ | with_reducible refine K.Ext.setCell ?_ ?_ _ | with_reducible refine K.Ext.trans ?_ (by with_reducible assumption) | (dsimp only; omega) | omega | exact K.Ext.refl _ | assumption | apply K.Ext.drew | refine K.Ext.alloc ?_ _ | refine K.Ext.setCell ?_ ?_ _ | (simp; done) | (simp; omega) | refine K.Ext.trans ?_ (by assumption)))⟩
  · have HE : Hid (Z.expo (Z.bs F.nm) F.pw c = F.pw.getD k 0) := Z.hide (by rw [← hcc]; exact h2)
    have hlp : k < F.pw.length := by rw [hl, ← hsz]; exact hk
    obtain ⟨b, off, rfl, _, _, hc⟩ := hh (by intro h0; simp [h0] at hlp)
    have hck := hc k hlp
    have lb : b < w.heap.size := World.block_lt_of_cell? w _ hck
    clear h2 hh h hcc hsz hl hk hc
    generalize F.pw.getD k 0 = x at *
    go_enter Try.func106, Try.ntmps106
    go_wp2_with (go_at_call 168; refine K.call (by with_reducible rfl) (by with_reducible rfl) (IndexByte_any _ _ _) ?_; rintro e w' ⟨rfl, rfl⟩)
    go_ret
    exact ⟨K.ri HE.out.symm, (by repeat' (first | with_reducible exact K.Ext.refl _ | with_reducible assumption | with_reducible refine K.Ext.drew ?_ | with_reducible refine K.Ext.alloc ?_ _ | with_reducible refine K.Ext.setCell ?_ ?_ _ | with_reducible refine K.Ext.trans ?_ (by with_reducible assumption) | (dsimp only; omega) | omega | exact K.Ext.refl _ | assumption | apply K.Ext.drew | refine K.Ext.alloc ?_ _ | refine K.Ext.setCell ?_ ?_ _ | (simp; done) | (simp; omega) | refine K.Ext.trans ?_ (by assumption)))⟩
end Go.Proofs.Ythmnlbgbacbocaa
