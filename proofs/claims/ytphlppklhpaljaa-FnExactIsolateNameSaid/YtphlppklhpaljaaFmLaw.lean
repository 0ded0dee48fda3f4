/-
  FORMULAS AND EQUATIONS in the laws' drawn regions.
-/
import Derived.Test.YtphlppklhpaljaaEqn
import Derived.Test.YtphlppklhpaljaaBase
import Derived.Deep.RegionHeld3
set_option linter.unusedVariables false
namespace Go.K
open Go Go.RowKit
/-- It reads as this formula. -/
def SP.fm (F : Z.Fm) : SP := ⟨fun v w => ∃ p lo hi, v = .agg #[.int .i64 F.dg, .int .i64 F.tn, .string F.nm, p] ∧ K.ints w lo hi p F.pw, fun _ _ _ hx ⟨p, lo, hi, hv, h⟩ => ⟨p, lo, hi, hv, h.ext hx⟩⟩
def SP.eqn (E : Z.Eqn) : SP := ⟨fun v w => ∃ p q lo hi, v = .agg #[.int .i64 E.L.dg, .int .i64 E.L.tn, .string E.L.nm, p, .int .i64 E.R.dg, .int .i64 E.R.tn, .string E.R.nm, q] ∧ K.ints w lo hi p E.L.pw ∧ K.ints w lo hi q E.R.pw, fun _ _ _ hx ⟨p, q, lo, hi, hv, h, h'⟩ => ⟨p, q, lo, hi, hv, h.ext hx, h'.ext hx⟩⟩
theorem SP.fm_at {F : Z.Fm} {d t : Int} {nm : ByteArray} {p : Value} {w : World} (h : (SP.fm F).p (.agg #[.int .i64 d, .int .i64 t, .string nm, p]) w) : ∃ lo hi, K.ints w lo hi p F.pw := by
  obtain ⟨p', lo, hi, hv, h⟩ := h
  simp only [Value.agg.injEq, Array.mk.injEq, List.cons.injEq, and_true] at hv
  obtain ⟨_, _, _, rfl⟩ := hv
  exact ⟨lo, hi, h⟩
/-- It is this result: a formula (in memory from B on), and a code. -/
def SP.fmT (B : Nat) (r : Z.Fm × Int) : SP := ⟨fun v w => ∃ p hi, v = .tuple #[.agg #[.int .i64 r.1.dg, .int .i64 r.1.tn, .string r.1.nm, p], .int .i64 r.2] ∧ hi ≤ w.heap.size ∧ K.ints w B hi p r.1.pw, fun _ _ _ hx ⟨p, hi, hv, hh, h⟩ => ⟨p, hi, hv, Nat.le_trans hh hx.size, h.ext hx⟩⟩
def SP.eqnT (B : Nat) (r : Z.Eqn × Int) : SP := ⟨fun v w => ∃ p q hi, v = .tuple #[.agg #[.int .i64 r.1.L.dg, .int .i64 r.1.L.tn, .string r.1.L.nm, p, .int .i64 r.1.R.dg, .int .i64 r.1.R.tn, .string r.1.R.nm, q], .int .i64 r.2] ∧ hi ≤ w.heap.size ∧ K.ints w B hi p r.1.L.pw ∧ K.ints w B hi q r.1.R.pw, fun _ _ _ hx ⟨p, q, hi, hv, hh, h, h'⟩ => ⟨p, q, hi, hv, Nat.le_trans hh hx.size, h.ext hx, h'.ext hx⟩⟩
theorem SP.fmT_of {P : Program} {f : FuncId} {args : Array Value} {r : Z.Fm × Int} {B : Nat} {w : World} (hB : B ≤ w.heap.size)
    (h : Calls P f args w fun e w' => (∃ p', e = .returned (.tuple #[.agg #[.int .i64 r.1.dg, .int .i64 r.1.tn, .string r.1.nm, p'], .int .i64 r.2]) ∧ K.ints w' w.heap.size w'.heap.size p' r.1.pw) ∧ K.Ext w w') : Calls P f args w fun e w' => ∃ v, e = .returned v ∧ K.Ext w w' ∧ (SP.fmT B r).p v w' :=
  h.mono fun e w' ⟨⟨p', he, ho⟩, hx⟩ => ⟨_, he, hx, p', w'.heap.size, rfl, Nat.le_refl _, ho.mono hB (Nat.le_refl _)⟩
theorem SP.fmT_of_own {P : Program} {f : FuncId} {args : Array Value} {r : Z.Fm × Int} {B : Nat} {w : World} (hB : B ≤ w.heap.size)
    (h : Calls P f args w fun e w' => (∃ p', e = .returned (.tuple #[.agg #[.int .i64 r.1.dg, .int .i64 r.1.tn, .string r.1.nm, p'], .int .i64 r.2]) ∧ K.own w' w.heap.size w'.heap.size p' r.1.pw) ∧ K.Ext w w') : Calls P f args w fun e w' => ∃ v, e = .returned v ∧ K.Ext w w' ∧ (SP.fmT B r).p v w' :=
  h.mono fun e w' ⟨⟨p', he, ho⟩, hx⟩ => ⟨_, he, hx, p', w'.heap.size, rfl, Nat.le_refl _, ho.ints.mono hB (Nat.le_refl _)⟩
theorem SP.eqnT_of {P : Program} {f : FuncId} {args : Array Value} {r : Z.Eqn × Int} {B : Nat} {w : World} (hB : B ≤ w.heap.size)
    (h : Calls P f args w fun e w' => (∃ p' q', e = .returned (.tuple #[.agg #[.int .i64 r.1.L.dg, .int .i64 r.1.L.tn, .string r.1.L.nm, p', .int .i64 r.1.R.dg, .int .i64 r.1.R.tn, .string r.1.R.nm, q'], .int .i64 r.2]) ∧ K.ints w' w.heap.size w'.heap.size p' r.1.L.pw ∧ K.ints w' w.heap.size w'.heap.size q' r.1.R.pw) ∧ K.Ext w w') : Calls P f args w fun e w' => ∃ v, e = .returned v ∧ K.Ext w w' ∧ (SP.eqnT B r).p v w' :=
  h.mono fun e w' ⟨⟨p', q', he, ho, ho'⟩, hx⟩ => ⟨_, he, hx, p', q', w'.heap.size, rfl, Nat.le_refl _, ho.mono hB (Nat.le_refl _), ho'.mono hB (Nat.le_refl _)⟩
theorem SP.eqnT_of_own {P : Program} {f : FuncId} {args : Array Value} {r : Z.Eqn × Int} {B : Nat} {w : World} (hB : B ≤ w.heap.size)
    (h : Calls P f args w fun e w' => (∃ p' q' m, e = .returned (.tuple #[.agg #[.int .i64 r.1.L.dg, .int .i64 r.1.L.tn, .string r.1.L.nm, p', .int .i64 r.1.R.dg, .int .i64 r.1.R.tn, .string r.1.R.nm, q'], .int .i64 r.2]) ∧ w.heap.size ≤ m ∧ m ≤ w'.heap.size ∧ K.own w' w.heap.size m p' r.1.L.pw ∧ K.own w' m w'.heap.size q' r.1.R.pw) ∧ K.Ext w w') : Calls P f args w fun e w' => ∃ v, e = .returned v ∧ K.Ext w w' ∧ (SP.eqnT B r).p v w' :=
  h.mono fun e w' ⟨⟨p', q', m, he, h1, h2, ho, ho'⟩, hx⟩ => ⟨_, he, hx, p', q', w'.heap.size, rfl, Nat.le_refl _, ho.ints.mono hB h2, ho'.ints.mono (Nat.le_trans hB h1) (Nat.le_refl _)⟩
/-- A slice of numbers, none of them 0, does not lie in a block that holds no other number than 0. -/
theorem ints_off {w : World} {g lo hi n c : Nat} {o : Option Addr} {xs : List Int} {cells : Array Value} {T : TypeId} (hb : w.heap[g]? = some (.cells cells T)) (hz : ∀ (j : Nat) (x : Int), cells[j]? = some (.int .i64 x) → x = 0) (hn : ∀ x ∈ xs, x ≠ 0)
    (h : K.ints w lo hi (.slice o n c) xs) : ∃ l r, (g < l ∨ r ≤ g) ∧ r ≤ hi ∧ K.ints w l r (.slice o n c) xs := by
  obtain ⟨o', c', hv, hh⟩ := h
  by_cases hx : xs = []
  · exact ⟨0, 0, by omega, by omega, o', c', hv, fun h => absurd hx h⟩
  · obtain ⟨b, off, ho, h1, h2, h3⟩ := hh hx
    have h0 : 0 < xs.length := List.length_pos_iff.2 hx
    have hc := h3 0 h0
    refine ⟨b, b + 1, ?_, by omega, o', c', hv, fun _ => ⟨b, off, ho, Nat.le_refl _, by omega, h3⟩⟩
    by_cases hg : b = g
    · exfalso
      subst hg
      unfold World.cell? at hc
      simp only [hb] at hc
      have h5 := hz off (xs.getD 0 0) (by simpa using hc)
      refine hn (xs.getD 0 0) ?_ h5
      simp [List.getD_eq_getElem?_getD, h0]
    · omega
theorem zero_fm : ∀ (j : Nat) (x : Int), (#[Value.int .i64 0, .int .i64 0, .string ⟨#[]⟩, .slice none 0 0] : Array Value)[j]? = some (.int .i64 x) → x = 0 := by
  intro j x h
  match j, h with
  | 0, h => simpa using h.symm
  | 1, h => simpa using h.symm
  | 2, h => simp at h
  | 3, h => simp at h
  | j + 4, h => simp at h
theorem zero_eqn : ∀ (j : Nat) (x : Int), (#[Value.int .i64 0, .int .i64 0, .string ⟨#[]⟩, .slice none 0 0, .int .i64 0, .int .i64 0, .string ⟨#[]⟩, .slice none 0 0] : Array Value)[j]? = some (.int .i64 x) → x = 0 := by
  intro j x h
  match j, h with
  | 0, h => simpa using h.symm
  | 1, h => simpa using h.symm
  | 2, h => simp at h
  | 3, h => simp at h
  | 4, h => simpa using h.symm
  | 5, h => simpa using h.symm
  | 6, h => simp at h
  | 7, h => simp at h
  | j + 8, h => simp at h
theorem SP.eqn_at {E : Z.Eqn} {d t d' t' : Int} {nm nm' : ByteArray} {p q : Value} {w : World} (h : (SP.eqn E).p (.agg #[.int .i64 d, .int .i64 t, .string nm, p, .int .i64 d', .int .i64 t', .string nm', q]) w) : ∃ lo hi, K.ints w lo hi p E.L.pw ∧ K.ints w lo hi q E.R.pw := by
  obtain ⟨p', q', lo, hi, hv, h, h'⟩ := h
  simp only [Value.agg.injEq, Array.mk.injEq, List.cons.injEq, and_true] at hv
  obtain ⟨_, _, _, rfl, _, _, _, rfl⟩ := hv
  exact ⟨lo, hi, h, h'⟩
end Go.K
namespace Go.Proofs.Ytphlppklhpaljaa
open Go.RowKit
theorem toFormula_sp (F : Z.Fm) (lo hi : Nat) (p : Value) (w : World) (hm : F.pw.length ≤ 1048576) (h : K.ints w lo hi p F.pw) :
    Calls Try.prog 18 #[.agg #[.int .i64 F.dg, .int .i64 F.tn, .string F.nm, p]] w fun e w' => ∃ v, e = .returned v ∧ K.Ext w w' ∧ (K.SP.fm F).p v w' :=
  (toFormula_any F lo hi p w hm h).mono fun e w' ⟨⟨p', he, ho⟩, hx⟩ => ⟨_, he, hx, p', _, _, rfl, ho.ints⟩
theorem toEquation_sp (E : Z.Eqn) {lo hi lo' hi' : Nat} (p q : Value) (w : World) (hm : E.L.pw.length ≤ 1048576) (hm' : E.R.pw.length ≤ 1048576) (h : K.ints w lo hi p E.L.pw) (h' : K.ints w lo' hi' q E.R.pw) :
    Calls Try.prog 34 #[.agg #[.int .i64 E.L.dg, .int .i64 E.L.tn, .string E.L.nm, p, .int .i64 E.R.dg, .int .i64 E.R.tn, .string E.R.nm, q]] w fun e w' => ∃ v, e = .returned v ∧ K.Ext w w' ∧ (K.SP.eqn E).p v w' :=
  (toEquation_any E lo hi lo' hi' p q w hm hm' h h').mono fun e w' ⟨⟨p', q', m, he, h1, h2, ho, ho'⟩, hx⟩ => ⟨_, he, hx, p', q', w.heap.size, w'.heap.size, rfl, (ho.mono (Nat.le_refl _) h2).ints, (ho'.mono h1 (Nat.le_refl _)).ints⟩
end Go.Proofs.Ytphlppklhpaljaa
