/-
  FORMULAS made of exponents, the tool.
-/
import Derived.Test.YthmnlbgbacbocaaMake2
import Derived.Test.YthmnlbgbacbocaaBase
import Derived.Test.YthmnlbgbacbocaaFm5
import Derived.OneCell
import Derived.Lib.SmallJoins
import Derived.Deep.AppendLies
set_option linter.unusedVariables false
namespace Go.K
open Go.RowKit
theorem set_block {w : World} {k : Nat} {a : Addr} {v : Value} (hne : k ≠ a.block) : (w.setCell a v).heap[k]? = w.heap[k]? := Below.heap_setCell _ _ _ _ hne
theorem push_str {S T : ByteArray} {l : List UInt8} {c : UInt8} (hS : S = ⟨l.toArray⟩) (hT : T = ⟨#[c]⟩) : S ++ T = ⟨(l ++ [c]).toArray⟩ := by
  subst hS hT
  apply ByteArray.ext
  rw [ByteArray.data_append]
  simp
end Go.K
namespace Go.Proofs.Ythmnlbgbacbocaa
open Go.RowKit
set_option maxRecDepth 100000 in
set_option maxHeartbeats 3200000 in
theorem madeOf_any (d t : Int) (f : Nat → Int) (g : Nat) (a1 a2 : Value) (w : World) (hg : ∀ (args : Array Value) (w' : World), (callFunc g args).run Try.prog w' = .ok (.enter g args) w')
    (hf : ∀ (i : Nat) (w' : World), i < 26 → K.Ext w w' → Calls Try.prog g #[.int .u8 (97 + (i : Int)), a1, a2] w' fun e w'' => e = .returned (.int .i64 (f i)) ∧ K.Ext w' w'') :
    Calls Try.prog 163 #[.agg #[.int .i64 d, .int .i64 t], .func (.func g) #[] #[a1, a2]] w fun e w' => (∃ p', e = .returned (.tuple #[.agg #[.int .i64 ((Z.madeOr d t f).1).dg, .int .i64 ((Z.madeOr d t f).1).tn, .string ((Z.madeOr d t f).1).nm, p'], .int .i64 (Z.madeOr d t f).2]) ∧ K.own w' w.heap.size w'.heap.size p' (Z.madeOr d t f).1.pw) ∧ K.Ext w w' := by
  have HF := Z.hide hf
  clear hf
  have I64 := Z.hide info_int
  go_enter Try.func163, Try.ntmps163
  go_wp2
  go_loopw [7] (fun nm wr => ∃ k : Nat, k ≤ 26 ∧ nm = .int .u8 (97 + (k : Int)) ∧ Hid (∃ pv, wr.heap[w.heap.size + 1 + 1]? = some (.cells #[.int .i64 d, .int .i64 t, .string ⟨(Z.mkB f k).toArray⟩, pv] 32) ∧ wr.ownsRow (w.heap.size + 3) 2 1 pv (Z.mkP f k).length ((Z.mkP f k).map (Value.int .i64))) ∧ Hid (K.Ext w wr) ∧ Hid (wr.heap[w.heap.size + 1]? = some (.cells #[.int .i64 0, .int .i64 0, .string ⟨#[]⟩, .slice none 0 0] 32))) (fun nm _ => 123 - (intOf nm).toNat)
  case atStart =>
    exact ⟨0, Nat.zero_le _, rfl, Z.hide ⟨_, K.block_new (by simp), World.ownsRow_nil _ _ _ _⟩, Z.hide (by repeat' (first | with_reducible exact K.Ext.refl _ | with_reducible assumption | with_reducible refine K.Ext.drew ?_ | with_reducible refine K.Ext.alloc ?_ _ | with_reducible refine K.Ext.setCell ?_ ?_ _ | with_reducible refine K.Ext.trans ?_ (by with_reducible assumption) | (dsimp only; omega) | omega | exact K.Ext.refl _ | assumption | apply K.Ext.drew | refine K.Ext.alloc ?_ _ | refine K.Ext.setCell ?_ ?_ _ | (simp; done) | (simp; omega) | refine K.Ext.trans ?_ (by assumption))), Z.hide (((K.Ext.refl _).alloc _).block (K.block_new (by simp)))⟩
  case round =>
    obtain ⟨k, hk, rfl, HO, HX, B1⟩ := hrel
    obtain ⟨pv, hb2, hrow⟩ := HO.out
    have B2 := Z.hide hb2
    have HP := Z.hide hrow
    clear hb2 hrow HO
    have k0 : (0 : Int) ≤ (k : Int) := Int.natCast_nonneg k
    by_cases hlt : k < 26
    · have k1 : (k : Int) < 26 := by omega
      have k2 : 97 + (k : Int) ≤ 122 := by omega
      have q1 : IntKind.u8.wrap (97 + (k : Int) + 1) = 97 + (k : Int) + 1 := IntWalk.u8_in _ (by omega)
      obtain ⟨S, HS⟩ : ∃ S : ByteArray, S = ⟨(Z.mkB f k).toArray⟩ := ⟨_, rfl⟩
      obtain ⟨T, HT⟩ : ∃ T : ByteArray, Hid (T = ⟨#[UInt8.ofNat (97 + (k : Int)).toNat]⟩) := ⟨_, Z.hide rfl⟩
      rw [← HS] at B2
      have HS' := Z.hide HS
      clear HS
      have ln := Z.hide (Z.mkP_le f k)
      by_cases hz : f k = 0
      · have e1 : Hid (Z.mkB f (k + 1) = Z.mkB f k) := Z.hide (by simp [Z.mkB, hz])
        have e2' : Hid (Z.mkP f (k + 1) = Z.mkP f k) := Z.hide (by simp [Z.mkP, hz])
        go_wp2_with (refine K.call (by with_reducible rfl) (by with_reducible rfl) (HF.out k wr hlt HX.out) ?_; rintro e w1 ⟨rfl, hx1⟩; have C2 := Z.hide (K.Ext.block_of B2.out hx1); have C1 := Z.hide (K.Ext.block_of B1.out hx1); have HX1 : Hid (K.Ext w w1) := Z.hide (HX.out.trans hx1); have HP1 := Z.hide (K.row_ext HP.out hx1); have lw : w.heap.size + 1 + 1 < w1.heap.size := (Array.getElem?_eq_some_iff.1 C2.out).1; have d2 : w1.cell? ⟨w.heap.size + 1 + 1, 2, none⟩ = some (.string S) := K.cell_at C2.out rfl; have d3 : w1.cell? ⟨w.heap.size + 1 + 1, 3, none⟩ = some pv := K.cell_at C2.out rfl; have e2 : w1.frozen? ⟨w.heap.size + 1 + 1, 2, none⟩ = false := K.thaw_at C2.out; have e3 : w1.frozen? ⟨w.heap.size + 1 + 1, 3, none⟩ = false := K.thaw_at C2.out; have hcv : (convert 22 9 (.slice (some ⟨w1.heap.size, 0, none⟩) 1 1)).run Try.prog (w1.alloc (.cells #[.int .u8 (97 + (k : Int))] 5)) = .ok (.string T) (w1.alloc (.cells #[.int .u8 (97 + (k : Int))] 5)) := (by rw [HT.out]; exact K.byte_str Try.underlying22 Try.underlying5 Try.underlying9 (by omega) (by omega) (K.block_new rfl)))
        go_roundw
        case rel => exact ⟨k + 1, by omega, by go_num, Z.hide ⟨pv, by rw [e1.out, ← HS'.out]; exact C2.out, by rw [e2'.out]; exact HP1.out⟩, HX1, C1⟩
        case measure => simp [intOf]; omega
      · have E1 := Z.hide (show Z.mkB f (k + 1) = Z.mkB f k ++ [UInt8.ofNat (97 + (k : Int)).toNat] by have h_ : (97 + (k : Int)).toNat = 97 + k := (by omega); rw [h_]; simp [Z.mkB, hz])
        have E2 := Z.hide (show Z.mkP f (k + 1) = Z.mkP f k ++ [f k] by simp [Z.mkP, hz])
        obtain ⟨np, hnp⟩ : ∃ np, np = (Z.mkP f k).length := ⟨_, rfl⟩
        have ln' : np ≤ k := by rw [hnp]; exact ln.out
        have hsz : ¬ (9223372036854775807 < S.size + T.size) := by
          have h1 : S.size = (Z.mkB f k).length := by rw [HS'.out]; rfl
          have h2 : T.size = 1 := by rw [HT.out]; rfl
          have h3 := Z.mk_len f k
          have h4 := ln.out
          omega
        obtain ⟨it0, hi0, hz0, hz1, hz2⟩ := info_parts I64.out
        have HPn := Z.hide hnp
        rw [← hnp] at HP
        clear hnp
        obtain ⟨x, hx⟩ : ∃ x, x = f k := ⟨_, rfl⟩
        have HK : ∀ w' : World, K.Ext w w' → Calls Try.prog g #[.int .u8 (97 + (k : Int)), a1, a2] w' fun e w'' => e = .returned (.int .i64 x) ∧ K.Ext w' w'' := fun w' h' => by rw [hx]; exact HF.out k w' hlt h'
        rw [← hx] at hz E2
        have HKh := Z.hide HK
        clear HK hx
        go_wp2_with (first | (refine K.call (by with_reducible rfl) (by with_reducible rfl) (HKh.out wr HX.out) ?_; rintro e w1 ⟨rfl, hx1⟩; have C2 := Z.hide (K.Ext.block_of B2.out hx1); have C1 := Z.hide (K.Ext.block_of B1.out hx1); have HX1 : Hid (K.Ext w w1) := Z.hide (HX.out.trans hx1); have HP1 := Z.hide (K.row_ext HP.out hx1); have lw : w.heap.size + 1 + 1 < w1.heap.size := (Array.getElem?_eq_some_iff.1 C2.out).1; have d2 : w1.cell? ⟨w.heap.size + 1 + 1, 2, none⟩ = some (.string S) := K.cell_at C2.out rfl; have d3 : w1.cell? ⟨w.heap.size + 1 + 1, 3, none⟩ = some pv := K.cell_at C2.out rfl; have e2 : w1.frozen? ⟨w.heap.size + 1 + 1, 2, none⟩ = false := K.thaw_at C2.out; have e3 : w1.frozen? ⟨w.heap.size + 1 + 1, 3, none⟩ = false := K.thaw_at C2.out; have hcv : (convert 22 9 (.slice (some ⟨w1.heap.size, 0, none⟩) 1 1)).run Try.prog (w1.alloc (.cells #[.int .u8 (97 + (k : Int))] 5)) = .ok (.string T) (w1.alloc (.cells #[.int .u8 (97 + (k : Int))] 5)) := (by rw [HT.out]; exact K.byte_str Try.underlying22 Try.underlying5 Try.underlying9 (by omega) (by omega) (K.block_new rfl))) | (at_builtin; refine wpList_append_lies _ rfl _ _ _ rfl (w.heap.size + 3) 2 it0 _ 1 8 Try.underlying24 hi0 hz0 hz1 hz2 rfl (by omega) pv np _ rfl (((ownsRow_setCell_other HP1.out (fun e => by have := (HP1.out.lt _ e).1; dsimp only at this; omega) _).alloc _).alloc _) ⟨w1.heap.size + 1, 0, none⟩ 1 1 [.int .i64 x] rfl rfl (World.news_of_block (cs := #[.int .i64 x]) (t := 2) (fr := (0, 0)) (K.block_new (by simp))) (by simp [Value.oneCell']) (by omega) (by unfold maxLen; omega) (by omega) (by simp; omega) (w1.heap.size + 1 + 1) (by simp) ?_; intro g2 gcap2 w2 hown2 hgrow2 hat2 hlt3; have HR2 : Hid (∀ g, pv.ownBlock = some g → w.heap.size + 3 ≤ g) := Z.hide (fun g hg => (HP1.out.lt g hg).1); have HP2 := Z.hide hown2; have HX2 : Hid (K.Ext w w2) := Z.hide ((((HX1.out.setCell (by dsimp only; omega) _).alloc _).alloc _).below.grown hgrow2 (by simp; omega) (fun g hg => by have := HR2.out g hg; omega)); have D2 : Hid (w2.heap[w.heap.size + 1 + 1]? = some (.cells #[.int .i64 d, .int .i64 t, .string (S ++ T), pv] 32)) := Z.hide (K.grown_block hgrow2 (K.Ext.block_of (Joins.block_setCell C2.out _) (((K.Ext.refl _).alloc _).alloc _)) (fun e => by have := HR2.out _ e.symm; omega)); have D1 : Hid (w2.heap[w.heap.size + 1]? = some (.cells #[.int .i64 0, .int .i64 0, .string ⟨#[]⟩, .slice none 0 0] 32)) := Z.hide (K.grown_block hgrow2 (K.Ext.block_of ((K.set_block (by dsimp only; omega)).trans C1.out) (((K.Ext.refl _).alloc _).alloc _)) (fun e => by have := HR2.out _ e.symm; omega)); have d3' : w2.cell? ⟨w.heap.size + 1 + 1, 3, none⟩ = some pv := K.cell_at D2.out rfl; have e3' : w2.frozen? ⟨w.heap.size + 1 + 1, 3, none⟩ = false := K.thaw_at D2.out; have lg2 := (HP2.out.lt g2 rfl).1; clear hown2 hgrow2 hat2))
        go_roundw
        case rel =>
          refine ⟨k + 1, by omega, by go_num, Z.hide ⟨.slice (some ⟨g2, 0, none⟩) (np + 1) gcap2, ?_, ?_⟩, Z.hide (HX2.out.setCell (by dsimp only; omega) _), Z.hide ((K.set_block (by dsimp only; omega)).trans D1.out)⟩
          · rw [E1.out, ← K.push_str HS'.out HT.out]; exact Joins.block_setCell D2.out _
          · rw [E2.out, List.map_append, List.map_singleton, List.length_append, List.length_singleton, ← HPn.out]; exact ownsRow_setCell_other HP2.out (by simp [Value.ownBlock]; omega) _
        case measure => simp [intOf]; omega
    · obtain rfl : k = 26 := by omega
      have c20 : wr.cell? ⟨w.heap.size + 1 + 1, 0, none⟩ = some (.int .i64 d) := K.cell_at B2.out rfl
      have c21 : wr.cell? ⟨w.heap.size + 1 + 1, 1, none⟩ = some (.int .i64 t) := K.cell_at B2.out rfl
      have c22 : wr.cell? ⟨w.heap.size + 1 + 1, 2, none⟩ = some (.string ⟨(Z.mkB f 26).toArray⟩) := K.cell_at B2.out rfl
      have HO := Z.hide (K.own_of_row HP.out)
      have hs := HO.out
      obtain ⟨os, cs, rfl, _⟩ := hs
      have c23 : wr.cell? ⟨w.heap.size + 1 + 1, 3, none⟩ = some (.slice os (Z.mkP f 26).length cs) := K.cell_at B2.out rfl
      have lb2 : w.heap.size + 1 + 1 < wr.heap.size := (Array.getElem?_eq_some_iff.1 B2.out).1
      have hle := Z.made_le d t f
      have HI : Calls Try.prog 33 #[.agg #[.int .i64 d, .int .i64 t, .string ⟨(Z.mkB f 26).toArray⟩, .slice os (Z.mkP f 26).length cs]] wr fun e w' => e = .returned (.bool (Z.isFormula (Z.made d t f 26))) ∧ K.Ext wr w' := impl_IsFormula (Z.made d t f 26) wr hle.1 hle.2 (K.own.ints HO.out)
      cases hv : Z.isFormula (Z.made d t f 26)
      · have HE : Hid (Z.madeOr d t f = (Z.zeroFm, 3)) := Z.hide (by unfold Z.madeOr; rw [hv]; rfl)
        rw [hv] at HI
        clear hle
        go_wp2_with (go_at_call 33; refine K.call (by with_reducible rfl) (by with_reducible rfl) HI ?_; rintro e w3 ⟨rfl, hx3⟩; have D1 := Z.hide (K.Ext.block_of B1.out hx3); have D2 := Z.hide (K.Ext.block_of B2.out hx3); have HO3 := Z.hide (K.own.ext HO.out hx3); have ls := hx3.size; have r0 : w3.cell? ⟨w.heap.size + 1, 0, none⟩ = some (.int .i64 0) := K.cell_at D1.out rfl; have t0 : w3.frozen? ⟨w.heap.size + 1, 0, none⟩ = false := K.thaw_at D1.out; have r1 : w3.cell? ⟨w.heap.size + 1, 1, none⟩ = some (.int .i64 0) := K.cell_at D1.out rfl; have t1 : w3.frozen? ⟨w.heap.size + 1, 1, none⟩ = false := K.thaw_at D1.out; have r2 : w3.cell? ⟨w.heap.size + 1, 2, none⟩ = some (.string ⟨#[]⟩) := K.cell_at D1.out rfl; have t2 : w3.frozen? ⟨w.heap.size + 1, 2, none⟩ = false := K.thaw_at D1.out; have r3 : w3.cell? ⟨w.heap.size + 1, 3, none⟩ = some (.slice none 0 0) := K.cell_at D1.out rfl; have t3 : w3.frozen? ⟨w.heap.size + 1, 3, none⟩ = false := K.thaw_at D1.out; have v0 : w3.cell? ⟨w.heap.size + 1 + 1, 0, none⟩ = some (.int .i64 d) := K.cell_at D2.out rfl; have v1 : w3.cell? ⟨w.heap.size + 1 + 1, 1, none⟩ = some (.int .i64 t) := K.cell_at D2.out rfl; have v2 : w3.cell? ⟨w.heap.size + 1 + 1, 2, none⟩ = some (.string ⟨(Z.mkB f 26).toArray⟩) := K.cell_at D2.out rfl; have v3 : w3.cell? ⟨w.heap.size + 1 + 1, 3, none⟩ = some (.slice os (Z.mkP f 26).length cs) := K.cell_at D2.out rfl)
        rw [HE.out]
        refine bodyPost_ret (v := .tuple #[.agg #[.int .i64 0, .int .i64 0, .string ⟨#[]⟩, .slice none 0 0], .int .i64 3]) (by unfold results; rw [Try.results163]; go_simp) rfl ⟨⟨_, rfl, K.own_nil _ _ _⟩, ?_⟩
        repeat with_reducible refine K.Ext.setCell ?_ (by dsimp only; omega) _
        exact HX.out.trans hx3
      · have HE : Hid (Z.madeOr d t f = (Z.made d t f 26, 0)) := Z.hide (by unfold Z.madeOr; rw [hv]; rfl)
        rw [hv] at HI
        clear hle
        go_wp2_with (go_at_call 33; refine K.call (by with_reducible rfl) (by with_reducible rfl) HI ?_; rintro e w3 ⟨rfl, hx3⟩; have D1 := Z.hide (K.Ext.block_of B1.out hx3); have D2 := Z.hide (K.Ext.block_of B2.out hx3); have HO3 := Z.hide (K.own.ext HO.out hx3); have ls := hx3.size; have r0 : w3.cell? ⟨w.heap.size + 1, 0, none⟩ = some (.int .i64 0) := K.cell_at D1.out rfl; have t0 : w3.frozen? ⟨w.heap.size + 1, 0, none⟩ = false := K.thaw_at D1.out; have r1 : w3.cell? ⟨w.heap.size + 1, 1, none⟩ = some (.int .i64 0) := K.cell_at D1.out rfl; have t1 : w3.frozen? ⟨w.heap.size + 1, 1, none⟩ = false := K.thaw_at D1.out; have r2 : w3.cell? ⟨w.heap.size + 1, 2, none⟩ = some (.string ⟨#[]⟩) := K.cell_at D1.out rfl; have t2 : w3.frozen? ⟨w.heap.size + 1, 2, none⟩ = false := K.thaw_at D1.out; have r3 : w3.cell? ⟨w.heap.size + 1, 3, none⟩ = some (.slice none 0 0) := K.cell_at D1.out rfl; have t3 : w3.frozen? ⟨w.heap.size + 1, 3, none⟩ = false := K.thaw_at D1.out; have v0 : w3.cell? ⟨w.heap.size + 1 + 1, 0, none⟩ = some (.int .i64 d) := K.cell_at D2.out rfl; have v1 : w3.cell? ⟨w.heap.size + 1 + 1, 1, none⟩ = some (.int .i64 t) := K.cell_at D2.out rfl; have v2 : w3.cell? ⟨w.heap.size + 1 + 1, 2, none⟩ = some (.string ⟨(Z.mkB f 26).toArray⟩) := K.cell_at D2.out rfl; have v3 : w3.cell? ⟨w.heap.size + 1 + 1, 3, none⟩ = some (.slice os (Z.mkP f 26).length cs) := K.cell_at D2.out rfl)
        rw [HE.out]
        refine bodyPost_ret (v := .tuple #[.agg #[.int .i64 d, .int .i64 t, .string ⟨(Z.mkB f 26).toArray⟩, .slice os (Z.mkP f 26).length cs], .int .i64 0]) (by unfold results; rw [Try.results163]; go_simp) rfl ⟨⟨_, rfl, ?_⟩, ?_⟩
        · refine K.own.mono (lo := w.heap.size + 3) (hi := wr.heap.size) ?_ (by omega) (by simp; omega)
          repeat with_reducible refine K.own.set ?_ _ (.inl (by dsimp only; omega)) _
          exact HO3.out
        · repeat with_reducible refine K.Ext.setCell ?_ (by dsimp only; omega) _
          exact HX.out.trans hx3
end Go.Proofs.Ythmnlbgbacbocaa
