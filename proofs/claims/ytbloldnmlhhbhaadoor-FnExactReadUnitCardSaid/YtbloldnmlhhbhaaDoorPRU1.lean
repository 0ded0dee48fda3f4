/-
  Part 1 of the texts of this claim: contracts of functions and plain mathematics.
-/
import Derived.Below
import Derived.BigQuiet
import Derived.Carry
import Derived.ChangeSame
import Derived.ChangeSlices
import Derived.Deep.AppendLies
import Derived.Deep.Fields
import Derived.Deep.QuietTactic
import Derived.Deep.RegionHeld3
import Derived.Deep.Slices
import Derived.Deep.Strs
import Derived.Laws.IdiomStrings
import Derived.Laws.StructEq
import Derived.Lib.Bytealg
import Derived.Lib.SmallJoins
import Derived.OpenShut
import Derived.Orders
import Derived.OwnWalk
import Derived.ProofKit
import Derived.Test.YtbloldnmlhhbhaaDoorProg
import Derived.WalkKit
import Derived.Lib.Atoi
import Derived.Lib.ItoaNum
import Derived.Lib.ParseIntB
import Derived.Lib.CountLaws
import Derived.Lib.IndexBytes
import Derived.Lib.Split
import Derived.Lib.SplitLaws
import Derived.Lib.Join
import Derived.Deep.DrawnRows
import Derived.Laws.Pointers
import Derived.StillTactics
import Derived.WalkSpells
set_option linter.unusedVariables false
section
/- PLAIN MATHEMATICS, no program in sight: the whole numbers' floor and ceiling, a nearest quotient, points. -/
namespace Go.Z
open Go.RowKit
theorem hide {p : Prop} (h : p) : Hid p := h
/-! ### Quotients -/
def fl (a b : Int) : Int := a.fdiv b
def cl (a b : Int) : Int := -(fl (-a) b)
/-- the nearest integer to a / b for b greater than 0 -/
def nr (a b : Int) : Int := fl (2 * a + b) (2 * b)
def place (n : Int) : Bool := decide (-100000 ≤ n) && decide (n ≤ 100000)
end Go.Z
/- SMALL HELPERS for the walks' ends; no function of the program in sight. -/
namespace Go.K
open Go.RowKit
theorem vint {k : IntKind} {a b : Int} (h : a = b) : Value.int k a = Value.int k b := by rw [h]
theorem rb {a b : Bool} (h : a = b) : Ending.returned (.bool a) = .returned (.bool b) := by rw [h]
/-- Nothing that was there has changed; there may be new blocks. -/
def Ext (W w : World) : Prop := Below W.heap.size W w
theorem Ext.of {W w : World} (h : Below W.heap.size W w) : Ext W w := h
theorem Ext.below {W w : World} (h : Ext W w) : Below W.heap.size W w := h
theorem Ext.refl (W : World) : Ext W W := Below.refl _ _
theorem Ext.id {W w : World} (h : Ext W w) : Ext W w := h
theorem Ext.size {W w : World} (h : Ext W w) : W.heap.size ≤ w.heap.size := h.below.size
theorem Ext.trans {a b c : World} (h : Ext a b) (k : Ext b c) : Ext a c := h.below.trans (k.below.mono h.size)
theorem Ext.drew {W w : World} (h : Ext W w) : Ext W w.drew := h.below.drew
theorem Ext.drewN {W w : World} (h : Ext W w) (n : Nat) : Ext W (w.drewN n) := ⟨h.below.os, h.below.tape, h.below.output, h.below.size, h.below.block⟩
theorem Ext.alloc {W w : World} (h : Ext W w) (o : Obj) : Ext W (w.alloc o) := h.below.alloc h.size o
theorem Ext.setCell {W w : World} (h : Ext W w) {p : Addr} (hp : W.heap.size ≤ p.block) (u : Value) : Ext W (w.setCell p u) := h.below.setCell hp u
theorem Ext.cell {W w : World} (h : Ext W w) {p : Addr} (hp : p.block < W.heap.size) : w.cell? p = W.cell? p := h.below.cell hp
theorem Ext.frozen {W w : World} (h : Ext W w) {p : Addr} (hp : p.block < W.heap.size) : w.frozen? p = W.frozen? p := h.below.frozen hp
theorem World.lt_of_cell {W : World} {p : Addr} (h : (W.cell? p).isSome = true) : p.block < W.heap.size := by
  obtain ⟨v, hv⟩ := Option.isSome_iff_exists.1 h
  exact World.block_lt_of_cell? W p hv
theorem Ext.facts {W w1 : World} (hb : Ext W w1) : (∀ b o, b < W.heap.size → w1.cell? ⟨b, o, none⟩ = W.cell? ⟨b, o, none⟩) ∧ (∀ b o, b < W.heap.size → w1.frozen? ⟨b, o, none⟩ = W.frozen? ⟨b, o, none⟩) :=
  ⟨fun b o h => hb.cell (p := ⟨b, o, none⟩) h, fun b o h => hb.frozen (p := ⟨b, o, none⟩) h⟩
theorem Ext.facts' {W w1 : World} (hb : Ext W w1) : (∀ p, (W.cell? p).isSome = true → w1.cell? p = W.cell? p) ∧ (∀ p, (W.cell? p).isSome = true → w1.frozen? p = W.frozen? p) :=
  ⟨fun p h => hb.cell (World.lt_of_cell h), fun p h => hb.frozen (World.lt_of_cell h)⟩
theorem Ext.all {W w1 : World} (hb : Ext W w1) : ((∀ b o, b < W.heap.size → w1.cell? ⟨b, o, none⟩ = W.cell? ⟨b, o, none⟩) ∧ (∀ b o, b < W.heap.size → w1.frozen? ⟨b, o, none⟩ = W.frozen? ⟨b, o, none⟩)) ∧
    (∀ p, (W.cell? p).isSome = true → w1.cell? p = W.cell? p) ∧ (∀ p, (W.cell? p).isSome = true → w1.frozen? p = W.frozen? p) := ⟨hb.facts, hb.facts'⟩
theorem Ext.cell_of {W w : World} (h : Ext W w) {p : Addr} {v : Value} (hv : W.cell? p = some v) : w.cell? p = some v := by rw [h.facts'.1 p (by rw [hv]; rfl), hv]
theorem Ext.thaw_of {W w : World} (h : Ext W w) {p : Addr} (hv : (W.cell? p).isSome = true) (hf : W.frozen? p = false) : w.frozen? p = false := by rw [h.facts'.2 p hv, hf]
/-- A region that draws its order, each of whose operations yields ONE value and at most makes new memory: one walk, in the order of the text. -/
theorem wp_region_ext {P : Program} {id : Nat} {Q : Exit → Act → World → Prop} {a : Act} {w : World} {l : List Oper} (hm : P.follows .mixedOrders = true) (hB : Region.lexB .any l.toArray = true)
    (h : wpQuiet P l.toArray (Ext w) (fun a' => ∀ w', Ext w w' → Q .normal a' w') l a) : (Code.region id l.toArray true).wp P Q a w :=
  wp_region_quiet (C := Ext w) hm hB (Ext.refl w).drew (by simpa using h)
theorem qcons {P : Program} {ops : Array Oper} {C : World → Prop} {Q : Act → Prop} {a : Act} {o : Oper} {rest : List Oper} {v : Value} (hw : Region.wanted o (yielded ops a.tmps) = true)
    (h1 : ∀ w, C w → o.quietAt P a C w v) (h2 : wpQuiet P ops C Q rest (a.put o.dst v)) : wpQuiet P ops C Q (o :: rest) a :=
  BigFrame.wpQuiet_want hw fun _ hK => ⟨v, h1, hK _ h2⟩
/-- A callee by its contract: the arguments and the world are held against the contract's first. -/
theorem call {P : Program} {f : FuncId} {args args' : Array Value} {w w0 : World} {Q Q' : Ending → World → Prop} (ha : args' = args) (hw : w0 = w) (h : Calls P f args w0 Q) (hm : ∀ e w', Q e w' → Q' e w') : Calls P f args' w Q' := by
  subst ha; subst hw; exact h.mono hm
end Go.K
/- THE NUMBERS' CONTRACTS (chapter 1, both sides): within, quotients. -/
namespace Go.Proofs.YtbloldnmlhhbhaaDoor
open Go.RowKit
theorem within_any (n lo hi : Int) (w : World) :
    Calls Tryd.prog 78 #[.int .i64 n, .int .i64 lo, .int .i64 hi] w fun e w' => e = .returned (.bool (decide (lo ≤ n) && decide (n ≤ hi))) ∧ w = w' := by
  go_enter Tryd.func78, Tryd.ntmps78
  go_wp2
  all_goals (go_ret; exact ⟨K.rb (by simp only [← Bool.decide_and, decide_eq_decide, Bool.false_eq, decide_eq_false_iff_not]; first | omega | simp_all), rfl⟩)
theorem l01In_any (n lo hi : Int) (w : World) :
    Calls Tryd.prog 82 #[.int .i64 n, .int .i64 lo, .int .i64 hi] w fun e w' => e = .returned (.bool (decide (lo ≤ n) && decide (n ≤ hi))) ∧ w = w' := by
  go_enter Tryd.func82, Tryd.ntmps82
  go_wp2
  all_goals (go_ret; exact ⟨K.rb (by simp only [← Bool.decide_and, decide_eq_decide, Bool.false_eq, decide_eq_false_iff_not]; first | omega | simp_all), rfl⟩)
end Go.Proofs.YtbloldnmlhhbhaaDoor
/- PLAIN MATHEMATICS: lists of int64s, units. -/
namespace Go.Z
def marks (k : Int) (n : Nat) : List Int := (List.range n).map (fun (i : Nat) => k + (i : Int))
theorem marks_length (k : Int) (n : Nat) : (marks k n).length = n := by simp [marks]
theorem marks_get (k : Int) (n i : Nat) (h : i < n) : (marks k n).getD i 0 = k + i := by simp [marks, List.getD_eq_getElem?_getD, h]
def in9 (n : Int) : Bool := decide (-9 ≤ n) && decide (n ≤ 9)
def isUnit (u : List Int) : Bool := u.all in9 && u.length == 4
theorem all_take_succ {f : Int → Bool} (l : List Int) (k : Nat) (h : k < l.length) : (l.take (k + 1)).all f = ((l.take k).all f && f (l.getD k 0)) := by
  rw [List.take_succ_eq_append_getElem h, List.all_append]; simp [List.getD_eq_getElem?_getD, h]
theorem all_bad {f : Int → Bool} (l : List Int) (k : Nat) (h : k < l.length) (hb : f (l.getD k 0) = false) : l.all f = false := by
  rw [List.all_eq_false]
  exact ⟨l[k], List.getElem_mem h, by simpa [List.getD_eq_getElem?_getD, h] using hb⟩
theorem take_set_eq (xs ys : List Int) (k : Nat) (hl : ys.length = xs.length) (hk : k < xs.length) (h : ys.take k = xs.take k) : (ys.set k (xs.getD k 0)).take (k + 1) = xs.take (k + 1) := by
  apply List.ext_getElem?
  intro i
  have hi := congrArg (fun l => l[i]?) h
  simp only [List.getElem?_take, List.getElem?_set] at hi ⊢
  by_cases h1 : i < k
  · simp [h1, Nat.lt_succ_of_lt h1, show k ≠ i by omega] at hi ⊢
    exact hi
  · by_cases h2 : i = k
    · subst h2
      simp [hl, hk, List.getD_eq_getElem?_getD]
    · simp [show ¬ i < k + 1 by omega]
def allIn (u : List Int) : Bool := u.all in9
theorem nat_beq4 (n : Nat) : ((n : Int) == 4) = (true && n == 4) := by rw [Bool.eq_iff_iff]; simp; omega
end Go.Z
/- PLAIN MATHEMATICS: figures, formulas. -/
namespace Go.Z
structure Fm where
  dg : Int
  tn : Int
  nm : ByteArray
  pw : List Int
def isFig (d t : Int) : Bool := (decide (1000 ≤ d) && decide (d ≤ 9999)) && (decide (-30 ≤ t) && decide (t ≤ 30))
/-- a string's bytes, as numbers -/
def bs (s : ByteArray) : List Int := s.data.toList.map (fun b => (b.toNat : Int))
theorem bs_get (s : ByteArray) (k : Nat) (h : k < s.size) : ((s[k]'h).toNat : Int) = (bs s).getD k 0 := by
  have h' : k < s.data.size := h
  unfold bs
  rw [List.getD_eq_getElem?_getD, List.getElem?_map, Array.getElem?_toList, Array.getElem?_eq_getElem h']
  rfl
/-- the exponent of a letter -/
def expo : List Int → List Int → Int → Int
  | n :: ns, p :: ps, c => if n = c then p else expo ns ps c
  | _, _, _ => 0
/-- what a valid formula asks of one letter and its exponent -/
def okAt (ns ps : List Int) (i : Nat) : Bool :=
  !decide (ns.getD i 0 < 97) && !decide (122 < ns.getD i 0) && !(decide (0 < i) && decide (ns.getD i 0 ≤ ns.getD (i - 1) 0)) && !(ps.getD i 0 == 0) && (decide (-6 ≤ ps.getD i 0) && decide (ps.getD i 0 ≤ 6))
def isFormula (F : Fm) : Bool :=
  isFig F.dg F.tn && decide (F.nm.size ≤ 6) && (F.pw.length == F.nm.size) && (List.range F.nm.size).all (okAt (bs F.nm) F.pw)
end Go.Z
/- PLAIN MATHEMATICS: what is asked of formulas and equations. -/
namespace Go.Z
theorem isFormula_len {F : Fm} (h : isFormula F = true) : F.pw.length = F.nm.size ∧ F.nm.size ≤ 6 := by
  simp only [isFormula, Bool.and_eq_true, beq_iff_eq, decide_eq_true_eq] at h
  exact ⟨h.1.2, h.1.1.2⟩
end Go.Z
/- SLICES OF int64: how a value reads as a list, and how that stays; no function of the program in sight. -/
namespace Go.K
open Go.RowKit
/-- All blocks but those from lo to hi are as they were; there may be new ones. -/
structure Far (lo hi : Nat) (w w' : World) : Prop where
  os : w'.os = w.os
  tape : w'.tape = w.tape
  output : w'.output = w.output
  size : w.heap.size ≤ w'.heap.size
  block : ∀ k, k < w.heap.size → (k < lo ∨ hi ≤ k) → w'.heap[k]? = w.heap[k]?
theorem Far.refl (lo hi : Nat) (w : World) : Far lo hi w w := ⟨rfl, rfl, rfl, Nat.le_refl _, fun _ _ _ => rfl⟩
theorem Far.trans {lo hi : Nat} {a b c : World} (h : Far lo hi a b) (k : Far lo hi b c) : Far lo hi a c :=
  ⟨k.os.trans h.os, k.tape.trans h.tape, k.output.trans h.output, Nat.le_trans h.size k.size, fun i hi ho => (k.block i (Nat.lt_of_lt_of_le hi h.size) ho).trans (h.block i hi ho)⟩
theorem Far.of_ext {lo hi : Nat} {w w' : World} (h : Ext w w') : Far lo hi w w' := ⟨h.below.os, h.below.tape, h.below.output, h.size, fun k hk _ => h.below.block k hk⟩
/-- Behind a start W: what is written is new memory. -/
theorem Far.ext {lo hi : Nat} {W w w' : World} (hx : Ext W w) (h : Far lo hi w w') (hl : W.heap.size ≤ lo) : Ext W w' :=
  hx.below.trans ⟨h.os, h.tape, h.output, h.size, fun k hk => h.block k (Nat.lt_of_lt_of_le hk hx.size) (.inl (by omega))⟩
theorem Far.cell {lo hi : Nat} {w w' : World} (h : Far lo hi w w') {p : Addr} (hp : p.block < w.heap.size) (ho : p.block < lo ∨ hi ≤ p.block) : w'.cell? p = w.cell? p :=
  World.cell?_of_block (h.block _ hp ho)
theorem Far.frozen {lo hi : Nat} {w w' : World} (h : Far lo hi w w') {p : Addr} (hp : p.block < w.heap.size) (ho : p.block < lo ∨ hi ≤ p.block) : w'.frozen? p = w.frozen? p :=
  World.frozen?_of_block (h.block _ hp ho)
theorem Far.setCell {lo hi : Nat} {W w : World} (h : Far lo hi W w) {p : Addr} (h1 : lo ≤ p.block) (h2 : p.block < hi) (u : Value) : Far lo hi W (w.setCell p u) :=
  h.trans ⟨rfl, rfl, rfl, by simp [World.setCell], fun k hk ho => Below.heap_setCell _ _ _ _ (by omega)⟩
theorem Far.cell_of {lo hi : Nat} {w w' : World} (h : Far lo hi w w') {p : Addr} {v : Value} (hv : w.cell? p = some v) (ho : p.block < lo ∨ hi ≤ p.block) : w'.cell? p = some v := by
  rw [h.cell (World.block_lt_of_cell? w _ hv) ho, hv]
theorem Far.thaw_of {lo hi : Nat} {w w' : World} (h : Far lo hi w w') {p : Addr} (hv : (w.cell? p).isSome = true) (hf : w.frozen? p = false) (ho : p.block < lo ∨ hi ≤ p.block) : w'.frozen? p = false := by
  rw [h.frozen (World.lt_of_cell hv) ho, hf]
/-- several cells at once -/
theorem c1 {W w : World} (x : Ext W w) (g : Nat) (v0 : Value) (h : W.cell? ⟨g, 0, none⟩ = some v0) : w.cell? ⟨g, 0, none⟩ = some v0 := by
  have h0 := h
  exact x.cell_of h0
theorem f1 {W w : World} (x : Ext W w) (g : Nat) (h : ((W.cell? ⟨g, 0, none⟩).isSome = true ∧ W.frozen? ⟨g, 0, none⟩ = false)) : w.frozen? ⟨g, 0, none⟩ = false := by
  have h0 := h
  exact x.thaw_of h0.1 h0.2
theorem r1 {lo hi : Nat} {W w : World} (x : Far lo hi W w) (g : Nat) (v0 : Value) (h : W.cell? ⟨g, 0, none⟩ = some v0) (ho : g < lo ∨ hi ≤ g) : w.cell? ⟨g, 0, none⟩ = some v0 := by
  have h0 := h
  exact x.cell_of h0 ho
theorem c2 {W w : World} (x : Ext W w) (g : Nat) (v0 v1 : Value) (h : W.cell? ⟨g, 0, none⟩ = some v0 ∧ W.cell? ⟨g, 1, none⟩ = some v1) : w.cell? ⟨g, 0, none⟩ = some v0 ∧ w.cell? ⟨g, 1, none⟩ = some v1 := by
  obtain ⟨h0, h1⟩ := h
  exact ⟨x.cell_of h0, x.cell_of h1⟩
theorem f2 {W w : World} (x : Ext W w) (g : Nat) (h : ((W.cell? ⟨g, 0, none⟩).isSome = true ∧ W.frozen? ⟨g, 0, none⟩ = false) ∧ ((W.cell? ⟨g, 1, none⟩).isSome = true ∧ W.frozen? ⟨g, 1, none⟩ = false)) : w.frozen? ⟨g, 0, none⟩ = false ∧ w.frozen? ⟨g, 1, none⟩ = false := by
  obtain ⟨h0, h1⟩ := h
  exact ⟨x.thaw_of h0.1 h0.2, x.thaw_of h1.1 h1.2⟩
theorem c3 {W w : World} (x : Ext W w) (g : Nat) (v0 v1 v2 : Value) (h : W.cell? ⟨g, 0, none⟩ = some v0 ∧ W.cell? ⟨g, 1, none⟩ = some v1 ∧ W.cell? ⟨g, 2, none⟩ = some v2) : w.cell? ⟨g, 0, none⟩ = some v0 ∧ w.cell? ⟨g, 1, none⟩ = some v1 ∧ w.cell? ⟨g, 2, none⟩ = some v2 := by
  obtain ⟨h0, h1, h2⟩ := h
  exact ⟨x.cell_of h0, x.cell_of h1, x.cell_of h2⟩
theorem f3 {W w : World} (x : Ext W w) (g : Nat) (h : ((W.cell? ⟨g, 0, none⟩).isSome = true ∧ W.frozen? ⟨g, 0, none⟩ = false) ∧ ((W.cell? ⟨g, 1, none⟩).isSome = true ∧ W.frozen? ⟨g, 1, none⟩ = false) ∧ ((W.cell? ⟨g, 2, none⟩).isSome = true ∧ W.frozen? ⟨g, 2, none⟩ = false)) : w.frozen? ⟨g, 0, none⟩ = false ∧ w.frozen? ⟨g, 1, none⟩ = false ∧ w.frozen? ⟨g, 2, none⟩ = false := by
  obtain ⟨h0, h1, h2⟩ := h
  exact ⟨x.thaw_of h0.1 h0.2, x.thaw_of h1.1 h1.2, x.thaw_of h2.1 h2.2⟩
theorem c4 {W w : World} (x : Ext W w) (g : Nat) (v0 v1 v2 v3 : Value) (h : W.cell? ⟨g, 0, none⟩ = some v0 ∧ W.cell? ⟨g, 1, none⟩ = some v1 ∧ W.cell? ⟨g, 2, none⟩ = some v2 ∧ W.cell? ⟨g, 3, none⟩ = some v3) : w.cell? ⟨g, 0, none⟩ = some v0 ∧ w.cell? ⟨g, 1, none⟩ = some v1 ∧ w.cell? ⟨g, 2, none⟩ = some v2 ∧ w.cell? ⟨g, 3, none⟩ = some v3 := by
  obtain ⟨h0, h1, h2, h3⟩ := h
  exact ⟨x.cell_of h0, x.cell_of h1, x.cell_of h2, x.cell_of h3⟩
theorem f4 {W w : World} (x : Ext W w) (g : Nat) (h : ((W.cell? ⟨g, 0, none⟩).isSome = true ∧ W.frozen? ⟨g, 0, none⟩ = false) ∧ ((W.cell? ⟨g, 1, none⟩).isSome = true ∧ W.frozen? ⟨g, 1, none⟩ = false) ∧ ((W.cell? ⟨g, 2, none⟩).isSome = true ∧ W.frozen? ⟨g, 2, none⟩ = false) ∧ ((W.cell? ⟨g, 3, none⟩).isSome = true ∧ W.frozen? ⟨g, 3, none⟩ = false)) : w.frozen? ⟨g, 0, none⟩ = false ∧ w.frozen? ⟨g, 1, none⟩ = false ∧ w.frozen? ⟨g, 2, none⟩ = false ∧ w.frozen? ⟨g, 3, none⟩ = false := by
  obtain ⟨h0, h1, h2, h3⟩ := h
  exact ⟨x.thaw_of h0.1 h0.2, x.thaw_of h1.1 h1.2, x.thaw_of h2.1 h2.2, x.thaw_of h3.1 h3.2⟩
theorem f8 {W w : World} (x : Ext W w) (g : Nat) (h : ((W.cell? ⟨g, 0, none⟩).isSome = true ∧ W.frozen? ⟨g, 0, none⟩ = false) ∧ ((W.cell? ⟨g, 1, none⟩).isSome = true ∧ W.frozen? ⟨g, 1, none⟩ = false) ∧ ((W.cell? ⟨g, 2, none⟩).isSome = true ∧ W.frozen? ⟨g, 2, none⟩ = false) ∧ ((W.cell? ⟨g, 3, none⟩).isSome = true ∧ W.frozen? ⟨g, 3, none⟩ = false) ∧ ((W.cell? ⟨g, 4, none⟩).isSome = true ∧ W.frozen? ⟨g, 4, none⟩ = false) ∧ ((W.cell? ⟨g, 5, none⟩).isSome = true ∧ W.frozen? ⟨g, 5, none⟩ = false) ∧ ((W.cell? ⟨g, 6, none⟩).isSome = true ∧ W.frozen? ⟨g, 6, none⟩ = false) ∧ ((W.cell? ⟨g, 7, none⟩).isSome = true ∧ W.frozen? ⟨g, 7, none⟩ = false)) : w.frozen? ⟨g, 0, none⟩ = false ∧ w.frozen? ⟨g, 1, none⟩ = false ∧ w.frozen? ⟨g, 2, none⟩ = false ∧ w.frozen? ⟨g, 3, none⟩ = false ∧ w.frozen? ⟨g, 4, none⟩ = false ∧ w.frozen? ⟨g, 5, none⟩ = false ∧ w.frozen? ⟨g, 6, none⟩ = false ∧ w.frozen? ⟨g, 7, none⟩ = false := by
  obtain ⟨h0, h1, h2, h3, h4, h5, h6, h7⟩ := h
  exact ⟨x.thaw_of h0.1 h0.2, x.thaw_of h1.1 h1.2, x.thaw_of h2.1 h2.2, x.thaw_of h3.1 h3.2, x.thaw_of h4.1 h4.2, x.thaw_of h5.1 h5.2, x.thaw_of h6.1 h6.2, x.thaw_of h7.1 h7.2⟩
/-- The value reads as the list; its cells, if any, lie in a block from lo to hi. -/
def ints (w : World) (lo hi : Nat) (v : Value) (xs : List Int) : Prop :=
  ∃ o cap, v = .slice o xs.length cap ∧ (xs ≠ [] → ∃ b off, o = some ⟨b, off, none⟩ ∧ lo ≤ b ∧ b < hi ∧ ∀ i, i < xs.length → w.cell? ⟨b, off + i, none⟩ = some (.int .i64 (xs.getD i 0)))
/-- .. and may be written. -/
def own (w : World) (lo hi : Nat) (v : Value) (xs : List Int) : Prop :=
  ∃ o cap, v = .slice o xs.length cap ∧ (xs ≠ [] → ∃ b off, o = some ⟨b, off, none⟩ ∧ lo ≤ b ∧ b < hi ∧ (∀ i, i < xs.length → w.cell? ⟨b, off + i, none⟩ = some (.int .i64 (xs.getD i 0))) ∧ (∀ i, i < xs.length → w.frozen? ⟨b, off + i, none⟩ = false))
theorem own.ints {w : World} {lo hi : Nat} {v : Value} {xs : List Int} (h : own w lo hi v xs) : ints w lo hi v xs := by
  obtain ⟨o, cap, rfl, h⟩ := h
  exact ⟨o, cap, rfl, fun hx => by obtain ⟨b, off, rfl, h1, h2, h3, _⟩ := h hx; exact ⟨b, off, rfl, h1, h2, h3⟩⟩
theorem ints.ext {w w' : World} {lo hi : Nat} {v : Value} {xs : List Int} (h : K.ints w lo hi v xs) (hx : Ext w w') : K.ints w' lo hi v xs := by
  obtain ⟨o, cap, rfl, h⟩ := h
  exact ⟨o, cap, rfl, fun hn => by obtain ⟨b, off, rfl, h1, h2, h3⟩ := h hn; exact ⟨b, off, rfl, h1, h2, fun i hi => hx.cell_of (h3 i hi)⟩⟩
theorem own.ext {w w' : World} {lo hi : Nat} {v : Value} {xs : List Int} (h : own w lo hi v xs) (hx : Ext w w') : own w' lo hi v xs := by
  obtain ⟨o, cap, rfl, h⟩ := h
  exact ⟨o, cap, rfl, fun hn => by
    obtain ⟨b, off, rfl, h1, h2, h3, h4⟩ := h hn
    exact ⟨b, off, rfl, h1, h2, fun i hi => hx.cell_of (h3 i hi), fun i hi => hx.thaw_of (by rw [h3 i hi]; rfl) (h4 i hi)⟩⟩
theorem ints.mono {w : World} {lo hi lo' hi' : Nat} {v : Value} {xs : List Int} (h : K.ints w lo hi v xs) (h1 : lo' ≤ lo) (h2 : hi ≤ hi') : K.ints w lo' hi' v xs := by
  obtain ⟨o, cap, rfl, h⟩ := h
  exact ⟨o, cap, rfl, fun hn => by obtain ⟨b, off, rfl, h1, h2, h3⟩ := h hn; exact ⟨b, off, rfl, by omega, by omega, h3⟩⟩
theorem own.mono {w : World} {lo hi lo' hi' : Nat} {v : Value} {xs : List Int} (h : own w lo hi v xs) (h1 : lo' ≤ lo) (h2 : hi ≤ hi') : own w lo' hi' v xs := by
  obtain ⟨o, cap, rfl, h⟩ := h
  exact ⟨o, cap, rfl, fun hn => by obtain ⟨b, off, rfl, h1, h2, h3⟩ := h hn; exact ⟨b, off, rfl, by omega, by omega, h3⟩⟩
theorem ints.far {w w' : World} {lo hi lo' hi' : Nat} {v : Value} {xs : List Int} (h : K.ints w lo hi v xs) (hf : Far lo' hi' w w') (hd : hi ≤ lo' ∨ hi' ≤ lo) : K.ints w' lo hi v xs := by
  obtain ⟨o, cap, rfl, h⟩ := h
  exact ⟨o, cap, rfl, fun hn => by
    obtain ⟨b, off, rfl, h1, h2, h3⟩ := h hn
    exact ⟨b, off, rfl, h1, h2, fun i hi => by rw [hf.cell (p := ⟨b, off + i, none⟩) (World.block_lt_of_cell? w _ (h3 i hi)) (by show b < _ ∨ _ ≤ b; omega)]; exact h3 i hi⟩⟩
theorem own.far {w w' : World} {lo hi lo' hi' : Nat} {v : Value} {xs : List Int} (h : own w lo hi v xs) (hf : Far lo' hi' w w') (hd : hi ≤ lo' ∨ hi' ≤ lo) : own w' lo hi v xs := by
  obtain ⟨o, cap, rfl, h⟩ := h
  exact ⟨o, cap, rfl, fun hn => by
    obtain ⟨b, off, rfl, h1, h2, h3, h4⟩ := h hn
    exact ⟨b, off, rfl, h1, h2, fun i hi => by rw [hf.cell (p := ⟨b, off + i, none⟩) (World.block_lt_of_cell? w _ (h3 i hi)) (by show b < _ ∨ _ ≤ b; omega)]; exact h3 i hi,
      fun i hi => by rw [hf.frozen (p := ⟨b, off + i, none⟩) (World.block_lt_of_cell? w _ (h3 i hi)) (by show b < _ ∨ _ ≤ b; omega)]; exact h4 i hi⟩⟩
theorem own_nil (w : World) (lo hi : Nat) : own w lo hi (.slice none 0 0) [] := ⟨none, 0, rfl, fun h => absurd rfl h⟩
theorem own.alloc {w : World} {lo hi : Nat} {v : Value} {xs : List Int} (h : own w lo hi v xs) (o : Obj) : own (w.alloc o) lo hi v xs := h.ext ((Ext.refl w).alloc o)
theorem own.drew {w : World} {lo hi : Nat} {v : Value} {xs : List Int} (h : own w lo hi v xs) : own w.drew lo hi v xs := h.ext (Ext.refl w).drew
theorem ints.alloc {w : World} {lo hi : Nat} {v : Value} {xs : List Int} (h : K.ints w lo hi v xs) (o : Obj) : K.ints (w.alloc o) lo hi v xs := h.ext ((Ext.refl w).alloc o)
theorem ints.drew {w : World} {lo hi : Nat} {v : Value} {xs : List Int} (h : K.ints w lo hi v xs) : K.ints w.drew lo hi v xs := h.ext (Ext.refl w).drew
theorem own.set {w : World} {lo hi : Nat} {v : Value} {xs : List Int} (h : own w lo hi v xs) (p : Addr) (hp : p.block < lo ∨ hi ≤ p.block) (u : Value) : own (w.setCell p u) lo hi v xs :=
  h.far ((Far.refl p.block (p.block + 1) w).setCell (Nat.le_refl _) (Nat.lt_succ_self _) u) (by omega)
theorem ints.set {w : World} {lo hi : Nat} {v : Value} {xs : List Int} (h : K.ints w lo hi v xs) (p : Addr) (hp : p.block < lo ∨ hi ≤ p.block) (u : Value) : K.ints (w.setCell p u) lo hi v xs :=
  h.far ((Far.refl p.block (p.block + 1) w).setCell (Nat.le_refl _) (Nat.lt_succ_self _) u) (by omega)
theorem row_set {w : World} {b off n k : Nat} {ys : List Int} {x : Int} (hl : ys.length = n) (hk : k < n) (hc : ∀ i, i < n → w.cell? ⟨b, off + i, none⟩ = some (.int .i64 (ys.getD i 0))) :
    ∀ i, i < n → (w.setCell ⟨b, off + k, none⟩ (.int .i64 x)).cell? ⟨b, off + i, none⟩ = some (.int .i64 ((ys.set k x).getD i 0)) := by
  intro i hi
  by_cases h : k = i
  · subst h
    rw [_root_.Go.World.cell?_setCell_same w _ _ (hc k hi)]
    simp [hl, hi]
  · rw [World.cell?_setCell_other (w := w) (a := ⟨b, off + k, none⟩) (b := ⟨b, off + i, none⟩) (h := by simp [h]), hc i hi]
    simp [List.getD_eq_getElem?_getD, List.getElem?_set, h]
end Go.K
/- PLAIN MATHEMATICS: equations. -/
namespace Go.Z
structure Eqn where
  L : Fm
  R : Fm
end Go.Z
namespace Go.K
theorem Far.mono {lo hi lo' hi' : Nat} {a b : World} (h : Far lo hi a b) (h1 : lo' ≤ lo) (h2 : hi ≤ hi') : Far lo' hi' a b := ⟨h.os, h.tape, h.output, h.size, fun k hk ho => h.block k hk (by omega)⟩
end Go.K
/- PLAIN MATHEMATICS: sides swapped; powers split off; letters solved for. -/
namespace Go.Z
def zeroFm : Fm := ⟨0, 0, ⟨#[]⟩, []⟩
def fig1 (F : Fm) : Bool := F.dg == 1000 && F.tn == 0
def solved (E : Eqn) (c : Int) : Bool := fig1 E.L && ((E.L.nm.size : Int) == 1) && (expo (bs E.L.nm) E.L.pw c == 1) && (expo (bs E.R.nm) E.R.pw c == 0)
theorem toList_data (a : ByteArray) : a.toList = a.data.toList := by
  simp [ByteArray.toList_eq]
end Go.Z
/- PLAIN MATHEMATICS: figures: a fraction rounded to four digits. -/
namespace Go.Z
def dn : Nat → Int → Int → Int → Int × Int
  | 0, _, d, t => (d, t)
  | k + 1, n, d, t => if 10000 * d ≤ n then dn k n (10 * d) (t + 1) else (d, t)
def up : Nat → Int → Int → Int → Int × Int
  | 0, n, _, t => (n, t)
  | k + 1, n, d, t => if n < 1000 * d then up k (10 * n) d (t - 1) else (n, t)
def ten : Nat → Int
  | 0 => 1
  | k + 1 => 10 * ten k
def fin (n d t : Int) : Int × Int := if nr n d = 10000 then (1000, t + 1) else (nr n d, t)
def round (n d t : Int) : Int × Int := fin (up 12 n (dn 12 n d (t + 3)).1 (dn 12 n d (t + 3)).2).1 (dn 12 n d (t + 3)).1 (up 12 n (dn 12 n d (t + 3)).1 (dn 12 n d (t + 3)).2).2
end Go.Z
/- REGIONS THAT DRAW THEIR ORDER: one walk, in the order of the text, serves every order, also where an operation's value is not known beforehand (a new address; a call that hands back new memory).   kind 0: the operation touches no memory; kind 1: it yields one value in every world of the class; kind 2: its value and world are told by a closed predicate V. Behind the first m operations (the head) the rest (the tail) runs in the text's order. -/
namespace Go.K
open Go
def edge (o : Oper) (j : Nat) : Bool := o.after.any fun e => Region.binds .any e && e.on == j
theorem edge_iff {o : Oper} {j : Nat} : edge o j = true ↔ ∃ e ∈ o.after, Region.binds .any e = true ∧ e.on = j := by
  unfold edge
  rw [Array.any_eq_true']
  simp only [Bool.and_eq_true, beq_iff_eq]
section acts
theorem slot_put (a : Act) (d : Option Tmp) (v : Value) (t : Tmp) :
    (a.put d v).tmps[t]? = if d = some t then (if t < a.tmps.size then some v else none) else a.tmps[t]? := by
  cases d with
  | none => simp [Act.put]
  | some d =>
    by_cases h : d = t
    · subst h; simp [Act.put, Array.getElem?_setIfInBounds]
    · simp [Act.put, Array.getElem?_setIfInBounds_ne h, h]
theorem size_put (a : Act) (d : Option Tmp) (v : Value) : (a.put d v).tmps.size = a.tmps.size := by
  cases d <;> simp [Act.put]
def dstOf (ops : Array Oper) (i : Nat) : Option Tmp := (ops[i]?).bind (·.dst)
def runs (ops : Array Oper) (s : Nat → Option Value) : List Nat → Act → Act
  | [], a => a
  | i :: E, a => runs ops s E (a.put (dstOf ops i) ((s i).getD undef))
variable {ops : Array Oper}
theorem runs_append (s : Nat → Option Value) (E : List Nat) (i : Nat) (a : Act) : runs ops s (E ++ [i]) a = (runs ops s E a).put (dstOf ops i) ((s i).getD undef) := by
  induction E generalizing a with
  | nil => rfl
  | cons j E ih => exact ih _
theorem runs_congr {s s' : Nat → Option Value} {E : List Nat} (h : ∀ i ∈ E, s i = s' i) (a : Act) : runs ops s E a = runs ops s' E a := by
  induction E generalizing a with
  | nil => rfl
  | cons j E ih =>
    simp only [runs, h j (by simp)]
    exact ih (fun i hi => h i (by simp [hi])) _
theorem slot_runs_none {s : Nat → Option Value} {E : List Nat} {t : Tmp} (h : ∀ j ∈ E, dstOf ops j ≠ some t) (a : Act) : (runs ops s E a).tmps[t]? = a.tmps[t]? := by
  induction E generalizing a with
  | nil => rfl
  | cons j E ih =>
    simp only [runs]
    rw [ih (fun i hi => h i (by simp [hi])), slot_put, if_neg (h j (by simp))]
theorem slot_runs_some {s : Nat → Option Value} {E : List Nat} {t : Tmp} {j : Nat} (hj : j ∈ E) (hd : dstOf ops j = some t) (hu : ∀ i ∈ E, dstOf ops i = some t → i = j) (a : Act) :
    (runs ops s E a).tmps[t]? = if t < a.tmps.size then some ((s j).getD undef) else none := by
  induction E generalizing a with
  | nil => cases hj
  | cons i E ih =>
    simp only [runs]
    by_cases hE : j ∈ E
    · rw [ih hE (fun k hk => hu k (by simp [hk])), size_put]
    · have hij : i = j := by
        rcases List.mem_cons.1 hj with h | h
        · exact h.symm
        · exact absurd h hE
      subst hij
      rw [slot_runs_none (fun k hk hkd => hE (by rw [← hu k (by simp [hk]) hkd]; exact hk)), slot_put, if_pos hd]
/-- Two frames that look alike to an operation. -/
def Agree (ops : Array Oper) (o : Oper) (a b : Act) : Prop := ∀ t ∈ o.looksAt ops, a.tmps[t]? = b.tmps[t]?
theorem Agree.exec {o : Oper} {a b : Act} (h : Agree ops o a b) (hs : ∀ cs b, o.op ≠ .select cs b) : execOp a.eval o = execOp b.eval o :=
  execOp_congr o hs fun x hx => by
    cases x with
    | tmp t =>
      have ht := h t (List.mem_append_left _ (List.mem_filterMap.2 ⟨.tmp t, by simpa using hx, rfl⟩))
      simp only [Act.eval, Array.getD_eq_getD_getElem?, ht]
    | _ => rfl
theorem Agree.wanted {o : Oper} {a b : Act} (h : Agree ops o a b) : Region.wanted o (yielded ops a.tmps) = Region.wanted o (yielded ops b.tmps) := by
  unfold Region.wanted
  cases hg : o.guard with
  | none => rfl
  | some gw =>
    obtain ⟨g, want⟩ := gw
    have hy : yielded ops a.tmps g = yielded ops b.tmps g := by
      unfold yielded
      cases ht : (ops[g]?).bind (·.dst) with
      | none => rfl
      | some t =>
        have := h t (List.mem_append_right _ (by simp [hg, ht]))
        simp only [Option.bind_some, this]
    simp only [hy]
end acts
def upd (s : Nat → Option Value) (k : Nat) (v : Option Value) : Nat → Option Value := fun j => if j = k then v else s j
theorem upd_same (s : Nat → Option Value) (k : Nat) (v : Option Value) : upd s k v k = v := by simp [upd]
theorem upd_ne (s : Nat → Option Value) {k j : Nat} (v : Option Value) (h : j ≠ k) : upd s k v j = s j := by simp [upd, h]
section walk
variable (P : Program) (ops : Array Oper) (C : World → Prop) (R : World → World → Prop) (W : World) (V : Nat → Value → World → Prop) (kind : Nat → Nat) (T : Act → World → Prop)
def Gives (k : Nat) (w : World) : Result Next → Prop
  | .ok (.value v) w' => C w' ∧ R w w' ∧ V k v w'
  | .ok .skip w' => C w' ∧ R w w' ∧ V k undef w'
  | .ok (.enter f args) w' => Calls P f args w' fun e w'' => ∃ v, e = .returned v ∧ C w'' ∧ R w w'' ∧ V k v w''
  | _ => False
def Walk : Nat → List Oper → (Nat → Option Value) → Act → World → Prop
  | _, [], _, a, w => ∀ w', C w' → R w w' → T a w'
  | k, o :: rest, s, a, w =>
    if Region.wanted o (yielded ops a.tmps) then
      if kind k = 2 then
        (∀ w', C w' → R W w' → (∀ j v, edge o j = true → kind j = 2 → s j = some v → V j v w') → Gives P C R V k w' ((execOp a.eval o).run P w')) ∧
        ∀ v w', C w' → R w w' → V k v w' → Walk (k + 1) rest (upd s k (some v)) (a.put o.dst v) w'
      else ∃ v, (∀ w', (kind k = 1 → C w' ∧ R W w') → (execOp a.eval o).run P w' = .ok (.value v) w') ∧ Walk (k + 1) rest (upd s k (some v)) (a.put o.dst v) w
    else Walk (k + 1) rest (upd s k none) (a.put o.dst undef) w
end walk
section steps
variable {P : Program} {ops : Array Oper} {C : World → Prop} {R : World → World → Prop} {W : World} {V : Nat → Value → World → Prop} {kind : Nat → Nat} {T : Act → World → Prop}
  {k : Nat} {o : Oper} {rest : List Oper} {s : Nat → Option Value} {a : Act} {w : World}
theorem Walk.skip (hw : Region.wanted o (yielded ops a.tmps) = false) (h : Walk P ops C R W V kind T (k + 1) rest (upd s k none) (a.put o.dst undef) w) : Walk P ops C R W V kind T k (o :: rest) s a w := by
  unfold Walk; rw [if_neg (by rw [hw]; exact Bool.false_ne_true)]; exact h
theorem Walk.pure {v : Value} (hw : Region.wanted o (yielded ops a.tmps) = true) (hk : kind k = 0) (h1 : ∀ w', (execOp a.eval o).run P w' = .ok (.value v) w')
    (h : Walk P ops C R W V kind T (k + 1) rest (upd s k (some v)) (a.put o.dst v) w) : Walk P ops C R W V kind T k (o :: rest) s a w := by
  unfold Walk; rw [if_pos hw, if_neg (by omega)]; exact ⟨v, fun w' _ => h1 w', h⟩
theorem Walk.held {v : Value} (hw : Region.wanted o (yielded ops a.tmps) = true) (hk : kind k = 1) (h1 : ∀ w', C w' → R W w' → (execOp a.eval o).run P w' = .ok (.value v) w')
    (h : Walk P ops C R W V kind T (k + 1) rest (upd s k (some v)) (a.put o.dst v) w) : Walk P ops C R W V kind T k (o :: rest) s a w := by
  unfold Walk; rw [if_pos hw, if_neg (by omega)]; exact ⟨v, fun w' h => h1 w' (h hk).1 (h hk).2, h⟩
theorem Walk.told (hw : Region.wanted o (yielded ops a.tmps) = true) (hk : kind k = 2)
    (h1 : ∀ w', C w' → R W w' → (∀ j v, edge o j = true → kind j = 2 → s j = some v → V j v w') → Gives P C R V k w' ((execOp a.eval o).run P w'))
    (h : ∀ v w', C w' → R w w' → V k v w' → Walk P ops C R W V kind T (k + 1) rest (upd s k (some v)) (a.put o.dst v) w') : Walk P ops C R W V kind T k (o :: rest) s a w := by
  unfold Walk; rw [if_pos hw, if_pos hk]; exact ⟨h1, h⟩
theorem Walk.done (h : ∀ w', C w' → R w w' → T a w') : Walk P ops C R W V kind T k [] s a w := by unfold Walk; exact h
theorem Walk.mono (hRt : ∀ a b c, R a b → R b c → R a c) : ∀ (l : List Oper) (k : Nat) (s : Nat → Option Value) (a : Act) (w w1 : World), R w w1 →
    Walk P ops C R W V kind T k l s a w → Walk P ops C R W V kind T k l s a w1 := by
  intro l
  induction l with
  | nil => intro k s a w w1 hr h; unfold Walk at *; exact fun w' hc hr' => h w' hc (hRt _ _ _ hr hr')
  | cons o l ih =>
    intro k s a w w1 hr h
    unfold Walk at h ⊢
    split
    · rename_i hw
      rw [if_pos hw] at h
      split
      · rename_i hk
        rw [if_pos hk] at h
        exact ⟨h.1, fun v w' hc hr' hv => h.2 v w' hc (hRt _ _ _ hr hr') hv⟩
      · rename_i hk
        rw [if_neg hk] at h
        obtain ⟨v, h1, h2⟩ := h
        exact ⟨v, h1, ih _ _ _ _ _ hr h2⟩
    · rename_i hw
      rw [if_neg hw] at h
      exact ih _ _ _ _ _ hr h
end steps
theorem nodup_lt : ∀ (m : Nat) (E : List Nat), E.Nodup → (∀ j ∈ E, j < m) → E.length ≤ m ∧ (E.length = m → ∀ i, i < m → i ∈ E) := by
  intro m
  induction m with
  | zero =>
    intro E _ h
    cases E with
    | nil => exact ⟨Nat.le_refl _, fun _ i hi => absurd hi (by omega)⟩
    | cons x E => exact absurd (h x (by simp)) (by omega)
  | succ m ih =>
    intro E hn h
    by_cases hm : m ∈ E
    · have h1 := ih (E.erase m) (hn.erase m) (fun j hj => by
        have := (hn.mem_erase_iff.1 hj)
        have := h j this.2
        omega)
      rw [List.length_erase_of_mem hm] at h1
      have hp := List.length_pos_of_mem hm
      refine ⟨by omega, fun hl i hi => ?_⟩
      by_cases him : i = m
      · subst him; exact hm
      · exact List.mem_of_mem_erase (h1.2 (by omega) i (by omega))
    · have h1 := ih E hn (fun j hj => by
        have := h j hj
        have : j ≠ m := fun e => hm (e ▸ hj)
        omega)
      exact ⟨by omega, fun hl => by omega⟩
structure Fits (ops : Array Oper) (m : Nat) (kind : Nat → Nat) : Prop where
  le : m ≤ ops.size
  sel : ∀ (j : Nat) (o : Oper) cs b, ops[j]? = some o → o.op ≠ .select cs b
  back : ∀ i o, ops[i]? = some o → ∀ j, edge o j = true → j < i
  dst : ∀ i j t, i < m → j < m → dstOf ops i = some t → dstOf ops j = some t → i = j
  looks : ∀ i o j t, ops[i]? = some o → i < m → j < m → dstOf ops j = some t → t ∈ o.looksAt ops → edge o j = true
  pure : ∀ i oi j oj, i < m → kind i = 0 → ops[i]? = some oi → ops[j]? = some oj → j ≠ i → edge oj i = false → edge oi j = false → oi.apart ops oj = true
  tail : ∀ t o, m ≤ t → ops[t]? = some o → ∀ i, i < m → kind i ≠ 0 → edge o i = true
  seq : ∀ t o, m ≤ t → ops[t]? = some o → ∀ j, m ≤ j → j < t → edge o j = true
section main
variable {P : Program} {ops : Array Oper} {C : World → Prop} {R : World → World → Prop} {W : World} {V : Nat → Value → World → Prop} {kind : Nat → Nat} {m : Nat} {a0 : Act}
  {Q : Exit → Act → World → Prop}
theorem agree_lex (F : Fits ops m kind) {E : List Nat} {s s' : Nat → Option Value} {k : Nat} {o : Oper} (ho : ops[k]? = some o) (hk : k < m) (hE : ∀ j ∈ E, j < m)
    (hcl : ∀ j, edge o j = true → j ∈ E) (hs : ∀ j, j < k → j ∈ E → s' j = s j) : Agree ops o (runs ops s' (List.range k) a0) (runs ops s E a0) := by
  intro t ht
  by_cases hj : ∃ j, j < m ∧ dstOf ops j = some t
  · obtain ⟨j, hjm, hjd⟩ := hj
    have he := F.looks k o j t ho hk hjm hjd ht
    have hjk := F.back k o ho j he
    have hjE := hcl j he
    rw [slot_runs_some (List.mem_range.2 hjk) hjd (fun i hi hd => F.dst i j t (by have := List.mem_range.1 hi; omega) hjm hd hjd),
      slot_runs_some hjE hjd (fun i hi hd => F.dst i j t (hE i hi) hjm hd hjd), hs j hjk hjE]
  · rw [slot_runs_none (fun j hj' hd => hj ⟨j, by have := List.mem_range.1 hj'; omega, hd⟩), slot_runs_none (fun j hj' hd => hj ⟨j, hE j hj', hd⟩)]
def Recd (P : Program) (ops : Array Oper) (W : World) (kind : Nat → Nat) (s : Nat → Option Value) (a : Act) (k : Nat) (o : Oper) : Prop :=
  (Region.wanted o (yielded ops a.tmps) = true ∧ ∃ v, s k = some v ∧ (kind k ≠ 2 → (execOp a.eval o).run P W = .ok (.value v) W)) ∨ (Region.wanted o (yielded ops a.tmps) = false ∧ s k = none)
structure Inv (P : Program) (ops : Array Oper) (C : World → Prop) (R : World → World → Prop) (W : World) (V : Nat → Value → World → Prop) (kind : Nat → Nat) (m : Nat) (a0 : Act)
    (E : List Nat) (s : Nat → Option Value) (w : World) : Prop where
  nodup : E.Nodup
  lt : ∀ j ∈ E, j < m
  cl : ∀ j ∈ E, ∀ o, ops[j]? = some o → ∀ k, edge o k = true → k ∈ E
  hC : C w
  hR : R W w
  facts : ∀ j ∈ E, ∀ v, kind j = 2 → s j = some v → V j v w
  recd : ∀ j ∈ E, ∀ o, ops[j]? = some o → Recd P ops W kind s (runs ops s E a0) j o
/-- An operation of the head can be carried out as soon as what it waits for has been. -/
theorem ready_runs (F : Fits ops m kind) (hRr : ∀ a, R a a) (hRt : ∀ a b c, R a b → R b c → R a c) (hV : ∀ i v a b, R a b → V i v a → V i v b) (hCW : C W) {T : Act → World → Prop}
    (hW : Walk P ops C R W V kind T 0 (ops.toList.take m) (fun _ => none) a0 W) {E : List Nat} {s : Nat → Option Value} {w : World} (I : Inv P ops C R W V kind m a0 E s w) :
    ∀ k, k ≤ m → ∃ s' w', ((∀ j, j < k → j ∈ E) → w' = w) ∧ C w' ∧ R w w' ∧ (∀ j, j < k → j ∈ E → s' j = s j) ∧ (∀ j, j < k → ∀ v, kind j = 2 → s' j = some v → V j v w') ∧
      Walk P ops C R W V kind T k ((ops.toList.take m).drop k) s' (runs ops s' (List.range k) a0) w' := by
  intro k
  induction k with
  | zero =>
    intro _
    exact ⟨fun _ => none, w, fun _ => rfl, I.hC, hRr _, fun j hj => absurd hj (by omega), fun j hj => absurd hj (by omega), by simpa [runs] using Walk.mono hRt _ _ _ _ _ _ I.hR hW⟩
  | succ k ih =>
    intro hk
    obtain ⟨s', w', hww, hc, hr, hs, hf, hwalk⟩ := ih (by omega)
    have hww' : (∀ j, j < k + 1 → j ∈ E) → w' = w := fun h => hww fun j hj => h j (by omega)
    have hlt : k < ops.size := by have := F.le; omega
    have ho : ops[k]? = some ops[k] := by simp [hlt]
    have hdrop : (ops.toList.take m).drop k = ops[k] :: (ops.toList.take m).drop (k + 1) := by
      rw [List.drop_eq_getElem_cons (by simp; omega)]
      simp
    rw [hdrop] at hwalk
    generalize hok : ops[k] = o at *
    have hput : ∀ v : Option Value, runs ops (upd s' k v) (List.range (k + 1)) a0 = (runs ops s' (List.range k) a0).put o.dst (v.getD undef) := fun v => by
      rw [List.range_succ, runs_append, upd_same, runs_congr (s' := s') (fun i hi => upd_ne _ _ (by have := List.mem_range.1 hi; omega))]
      simp [dstOf, ho]
    have hsE : ∀ v : Option Value, (k ∈ E → v = s k) → ∀ j, j < k + 1 → j ∈ E → upd s' k v j = s j := fun v hv j hj hjE => by
      by_cases hjk : j = k
      · subst hjk; rw [upd_same]; exact hv hjE
      · rw [upd_ne _ _ hjk]; exact hs j (by omega) hjE
    have hfV : ∀ (v : Option Value) (w2 : World), R w' w2 → (∀ x, kind k = 2 → v = some x → V k x w2) → ∀ j, j < k + 1 → ∀ x, kind j = 2 → upd s' k v j = some x → V j x w2 := fun v w2 hr2 hv j hj x hkj hx => by
      by_cases hjk : j = k
      · subst hjk; rw [upd_same] at hx; exact hv x hkj hx
      · rw [upd_ne _ _ hjk] at hx; exact hV _ _ _ _ hr2 (hf j (by omega) x hkj hx)
    -- what the record says, if k has been carried out
    have hag : k ∈ E → Agree ops o (runs ops s' (List.range k) a0) (runs ops s E a0) := fun hkE =>
      agree_lex F ho (by omega) I.lt (fun j hj => I.cl k hkE o ho j hj) hs
    unfold Walk at hwalk
    by_cases hw : Region.wanted o (yielded ops (runs ops s' (List.range k) a0).tmps) = true
    · rw [if_pos hw] at hwalk
      by_cases hk2 : kind k = 2
      · rw [if_pos hk2] at hwalk
        by_cases hkE : k ∈ E
        · rcases I.recd k hkE o ho with ⟨_, v, hv, _⟩ | ⟨hn, _⟩
          · have hVk : V k v w' := hV _ _ _ _ hr (I.facts k hkE v hk2 hv)
            refine ⟨upd s' k (some v), w', hww', hc, hr, hsE _ (fun _ => hv.symm), hfV _ _ (hRr _) (fun x _ hx => by cases hx; exact hVk), ?_⟩
            rw [hput]; exact hwalk.2 v w' hc (hRr _) hVk
          · rw [(hag hkE).wanted, hn] at hw; cases hw
        · have hg := hwalk.1 w' hc (hRt _ _ _ I.hR hr) (fun j v he hk hv => hf j (F.back k o ho j he) v hk hv)
          have hex : ∃ v w2, C w2 ∧ R w' w2 ∧ V k v w2 := by
            generalize (execOp (runs ops s' (List.range k) a0).eval o).run P w' = r at hg
            cases r with
            | ok n w2 =>
              cases n <;> simp only [Gives] at hg
              case value v => exact ⟨v, w2, hg⟩
              case skip => exact ⟨undef, w2, hg⟩
              case enter f args =>
                obtain ⟨e, w3, fr, ⟨v, _, hv⟩, _⟩ := hg []
                exact ⟨v, w3, hv⟩
            | halt h w2 => exact hg.elim
          obtain ⟨v, w2, hc2, hr2, hv2⟩ := hex
          refine ⟨upd s' k (some v), w2, fun h => absurd (h k (by omega)) hkE, hc2, hRt _ _ _ hr hr2, hsE _ (fun h => absurd h hkE), hfV _ _ hr2 (fun x _ hx => by cases hx; exact hv2), ?_⟩
          rw [hput]; exact hwalk.2 v w2 hc2 hr2 hv2
      · rw [if_neg hk2] at hwalk
        obtain ⟨v, h1, h2⟩ := hwalk
        refine ⟨upd s' k (some v), w', hww', hc, hr, hsE _ (fun hkE => ?_), hfV _ _ (hRr _) (fun x h => absurd h hk2), by rw [hput]; exact h2⟩
        rcases I.recd k hkE o ho with ⟨_, v', hv', hrun⟩ | ⟨hn, _⟩
        · have h3 := hrun hk2
          have h4 := h1 W (fun _ => ⟨hCW, hRr _⟩)
          rw [(hag hkE).exec (fun cs b => F.sel k o cs b ho), h3] at h4
          cases h4; exact hv'.symm
        · rw [(hag hkE).wanted, hn] at hw; cases hw
    · rw [if_neg hw] at hwalk
      refine ⟨upd s' k none, w', hww', hc, hr, hsE _ (fun hkE => ?_), hfV _ _ (hRr _) (fun x _ hx => by cases hx), by rw [hput]; exact hwalk⟩
      rcases I.recd k hkE o ho with ⟨hy, _⟩ | ⟨_, hn⟩
      · rw [(hag hkE).wanted, hy] at hw; exact absurd rfl hw
      · exact hn.symm
/-- What the operation i yields now. -/
def Now (P : Program) (ops : Array Oper) (C : World → Prop) (R : World → World → Prop) (W : World) (V : Nat → Value → World → Prop) (kind : Nat → Nat) (i : Nat) (o : Oper) (a : Act) (w : World) : Prop :=
  Region.wanted o (yielded ops a.tmps) = false ∨
  (Region.wanted o (yielded ops a.tmps) = true ∧ kind i = 2 ∧ Gives P C R V i w ((execOp a.eval o).run P w)) ∨
  (Region.wanted o (yielded ops a.tmps) = true ∧ kind i ≠ 2 ∧ ∃ v, ∀ w', (kind i = 1 → C w' ∧ R W w') → (execOp a.eval o).run P w' = .ok (.value v) w')
theorem now_of (F : Fits ops m kind) (hRr : ∀ a, R a a) (hRt : ∀ a b c, R a b → R b c → R a c) (hV : ∀ i v a b, R a b → V i v a → V i v b) (hCW : C W) {T : Act → World → Prop}
    (hW : Walk P ops C R W V kind T 0 (ops.toList.take m) (fun _ => none) a0 W) {E : List Nat} {s : Nat → Option Value} {w : World} (I : Inv P ops C R W V kind m a0 E s w)
    {i : Nat} {o : Oper} (ho : ops[i]? = some o) (hi : i < m) (he : ∀ j, edge o j = true → j ∈ E) : Now P ops C R W V kind i o (runs ops s E a0) w := by
  obtain ⟨s', w', _, hc, hr, hs, hf, hwalk⟩ := ready_runs F hRr hRt hV hCW hW I i (by omega)
  have hlt : i < ops.size := by have := F.le; omega
  have hdrop : (ops.toList.take m).drop i = ops[i] :: (ops.toList.take m).drop (i + 1) := by
    rw [List.drop_eq_getElem_cons (by simp; omega)]
    simp
  have hoe : ops[i] = o := by simpa [hlt] using ho
  rw [hdrop, hoe] at hwalk
  have hag := agree_lex (a0 := a0) F ho hi I.lt he hs
  unfold Walk at hwalk
  unfold Now
  rw [← hag.wanted, ← hag.exec (fun cs b => F.sel i o cs b ho)]
  by_cases hw : Region.wanted o (yielded ops (runs ops s' (List.range i) a0).tmps) = true
  · rw [if_pos hw] at hwalk
    by_cases hk2 : kind i = 2
    · rw [if_pos hk2] at hwalk
      exact .inr (.inl ⟨hw, hk2, hwalk.1 w I.hC I.hR (fun j v hj hk hv => I.facts j (he j hj) v hk (by rw [← hs j (F.back i o ho j hj) (he j hj)]; exact hv))⟩)
    · rw [if_neg hk2] at hwalk
      obtain ⟨v, h1, _⟩ := hwalk
      exact .inr (.inr ⟨hw, hk2, v, h1⟩)
  · exact .inl (by simpa using hw)
theorem Inv.snoc (F : Fits ops m kind) (hRt : ∀ a b c, R a b → R b c → R a c) (hV : ∀ i v a b, R a b → V i v a → V i v b) {E : List Nat} {s : Nat → Option Value} {w w2 : World}
    (I : Inv P ops C R W V kind m a0 E s w) {i : Nat} {o : Oper} (ho : ops[i]? = some o) (hi : i < m) (hiE : i ∉ E) (he : ∀ j, edge o j = true → j ∈ E) (v : Option Value)
    (hc : C w2) (hr : R w w2) (hv : ∀ x, kind i = 2 → v = some x → V i x w2)
    (hrec : (Region.wanted o (yielded ops (runs ops s E a0).tmps) = true ∧ ∃ x, v = some x ∧ (kind i ≠ 2 → (execOp (runs ops s E a0).eval o).run P W = .ok (.value x) W)) ∨
      (Region.wanted o (yielded ops (runs ops s E a0).tmps) = false ∧ v = none)) :
    Inv P ops C R W V kind m a0 (E ++ [i]) (upd s i v) w2 ∧ runs ops (upd s i v) (E ++ [i]) a0 = (runs ops s E a0).put o.dst (v.getD undef) := by
  have hact : runs ops (upd s i v) (E ++ [i]) a0 = (runs ops s E a0).put o.dst (v.getD undef) := by
    rw [runs_append, upd_same, runs_congr (s' := s) (fun j hj => upd_ne _ _ (fun e : j = i => hiE (e ▸ hj)))]
    simp [dstOf, ho]
  have hdi : dstOf ops i = o.dst := by simp [dstOf, ho]
  have hag : ∀ j ok, (j ∈ E ∨ j = i) → ops[j]? = some ok → Agree ops ok (runs ops s E a0) ((runs ops s E a0).put o.dst (v.getD undef)) := fun j ok hj hok t ht => by
    rw [slot_put]
    by_cases hd : o.dst = some t
    · have hed := F.looks j ok i t hok (by rcases hj with h | h; exact I.lt j h; omega) hi (hdi.trans hd) ht
      rcases hj with h | h
      · exact absurd (I.cl j h ok hok i hed) hiE
      · subst h; exact absurd (F.back j ok hok j hed) (by omega)
    · rw [if_neg hd]
  have hmem : ∀ j, j ∈ E ++ [i] ↔ j ∈ E ∨ j = i := fun j => by simp
  refine ⟨⟨?_, ?_, ?_, hc, hRt _ _ _ I.hR hr, ?_, ?_⟩, hact⟩
  · exact List.nodup_append.2 ⟨I.nodup, by simp, fun a ha b hb e => by simp at hb; subst hb; subst e; exact hiE ha⟩
  · intro j hj
    rcases (hmem j).1 hj with h | h
    · exact I.lt j h
    · omega
  · intro j hj ok hok k hk
    rw [hmem]
    rcases (hmem j).1 hj with h | h
    · exact .inl (I.cl j h ok hok k hk)
    · subst h
      rw [ho] at hok; cases hok
      exact .inl (he k hk)
  · intro j hj x hk hx
    rcases (hmem j).1 hj with h | h
    · rw [upd_ne _ _ (fun e : j = i => hiE (e ▸ h))] at hx
      exact hV _ _ _ _ hr (I.facts j h x hk hx)
    · subst h
      rw [upd_same] at hx
      exact hv x hk hx
  · intro j hj ok hok
    rw [hact]
    unfold Recd
    rw [← (hag j ok ((hmem j).1 hj) hok).wanted, ← (hag j ok ((hmem j).1 hj) hok).exec (fun cs b => F.sel j ok cs b hok)]
    rcases (hmem j).1 hj with h | h
    · rw [upd_ne _ _ (fun e : j = i => hiE (e ▸ h))]
      exact I.recd j h ok hok
    · subst h
      rw [ho] at hok; cases hok
      rw [upd_same]
      exact hrec
/-- The array of what has been carried out. -/
def Lists (ops : Array Oper) (L : Array Bool) (E : List Nat) : Prop := L.size = ops.size ∧ ∀ j, L.getD j false = true ↔ j ∈ E
theorem Lists.set {L : Array Bool} {E : List Nat} (h : Lists ops L E) {i : Nat} (hi : i < ops.size) : Lists ops (L.setIfInBounds i true) (E ++ [i]) := by
  refine ⟨by simp [h.1], fun j => ?_⟩
  by_cases hij : i = j
  · subst hij
    simp [h.1, hi]
  · rw [getD_set_ne false hij, h.2 j]
    simp; omega
theorem Lists.not {L : Array Bool} {E : List Nat} (h : Lists ops L E) {j : Nat} (hj : L.getD j true = false) : j ∉ E := fun hE => by
  have h1 := (h.2 j).2 hE
  rcases Nat.lt_or_ge j L.size with h' | h'
  · simp [h'] at hj h1; rw [h1] at hj; cases hj
  · simp [Array.getElem?_eq_none h'] at h1
theorem Lists.false {L : Array Bool} {E : List Nat} (h : Lists ops L E) {j : Nat} (hj : j < ops.size) (hE : j ∉ E) : L.getD j true = false := by
  have hjL : j < L.size := by rw [h.1]; exact hj
  cases hb : L.getD j true with
  | false => rfl
  | true =>
    exfalso
    exact hE ((h.2 j).1 (by simp [hjL] at hb ⊢; exact hb))
theorem Lists.ready {L : Array Bool} {E : List Nat} (h : Lists ops L E) {i : Nat} : i ∈ Region.ready .any ops L ↔ i ∉ E ∧ ∃ o, ops[i]? = some o ∧ ∀ j, edge o j = true → j ∈ E := by
  rw [mem_ready]
  constructor
  · rintro ⟨h0, o, ho, he⟩
    exact ⟨h.not h0, o, ho, fun j hj => by
      obtain ⟨e, hm, hb, rfl⟩ := edge_iff.1 hj
      exact (h.2 _).1 (he e hm hb)⟩
  · rintro ⟨hE, o, ho, he⟩
    exact ⟨h.false (Array.getElem?_eq_some_iff.1 ho).1 hE, o, ho, fun e hm hb => (h.2 _).2 (he _ (edge_iff.2 ⟨e, hm, hb, rfl⟩))⟩
/-- The tail: one order alone. -/
theorem tail_any (F : Fits ops m kind) : ∀ (fuel k : Nat) (L : Array Bool) (E : List Nat) (a : Act) (w : World), m ≤ k → k ≤ ops.size → ops.size ≤ fuel + k → Lists ops L E → (∀ j, j ∈ E ↔ j < k) →
    wpList P ops Q (ops.toList.drop k) a w → wpAny P .any ops Q fuel L a w := by
  intro fuel
  induction fuel with
  | zero =>
    intro k L E a w hmk hk hf hL hE h
    obtain rfl : k = ops.size := by omega
    rw [List.drop_eq_nil_of_le (by simp)] at h
    refine ⟨List.eq_nil_iff_forall_not_mem.2 fun i hi => ?_, h⟩
    obtain ⟨h1, o, ho, _⟩ := hL.ready.1 hi
    exact h1 ((hE i).2 (Array.getElem?_eq_some_iff.1 ho).1)
  | succ fuel ih =>
    intro k L E a w hmk hk hf hL hE h
    refine ⟨fun hn => ?_, fun i hi => ?_⟩
    · rcases Nat.lt_or_ge k ops.size with hlt | hge
      · exfalso
        have : k ∈ Region.ready .any ops L := hL.ready.2 ⟨fun h' => absurd ((hE k).1 h') (by omega), ops[k], by simp [hlt], fun j hj => (hE j).2 (F.back k ops[k] (by simp [hlt]) j hj)⟩
        rw [hn] at this; cases this
      · rw [List.drop_eq_nil_of_le (by simp; omega)] at h
        exact h
    · obtain ⟨h1, o, ho, he⟩ := hL.ready.1 hi
      have hilt : i < ops.size := (Array.getElem?_eq_some_iff.1 ho).1
      have hik : i = k := by
        rcases Nat.lt_trichotomy i k with h' | h' | h'
        · exact absurd ((hE i).2 h') h1
        · exact h'
        · exact absurd ((hE k).1 (he k (F.seq i o (by omega) ho k hmk h'))) (by omega)
      subst hik
      have hoe : ops[i] = o := by simpa [hilt] using ho
      rw [List.drop_eq_getElem_cons (by simpa using hilt)] at h
      simp only [Array.getElem_toList, hoe] at h
      have hset := hL.set hilt
      have hE' : ∀ j, j ∈ E ++ [i] ↔ j < i + 1 := fun j => by simp [hE j]; omega
      have hnext : ∀ a w, wpList P ops Q (ops.toList.drop (i + 1)) a w → wpAny P .any ops Q fuel (L.setIfInBounds i true) a w := fun a w => ih (i + 1) _ _ a w (by omega) (by omega) (by omega) hset hE'
      unfold wpOp
      rw [ho]
      unfold wpList at h
      dsimp only
      split
      · rename_i hw
        rw [if_pos hw] at h
        rcases h with h | h
        · exact .inl (Oper.wp_mono hnext h)
        · exact .inr h
      · rename_i hw
        rw [if_neg hw] at h
        exact hnext _ _ h
theorem runs_defers (s : Nat → Option Value) (E : List Nat) (a : Act) : (runs ops s E a).defers = a.defers := by
  induction E generalizing a with
  | nil => rfl
  | cons j E ih => simp only [runs, ih]; cases dstOf ops j <;> rfl
/-- Whatever the order was: the frame at the end is the one of the text's order. -/
theorem runs_all (F : Fits ops m kind) {E : List Nat} (hlt : ∀ j ∈ E, j < m) (hall : ∀ i, i < m → i ∈ E) {s s' : Nat → Option Value} (hs : ∀ j, j < m → s' j = s j) :
    runs ops s E a0 = runs ops s' (List.range m) a0 := by
  have ht : (runs ops s E a0).tmps = (runs ops s' (List.range m) a0).tmps := by
    apply Array.ext'
    apply List.ext_getElem?
    intro t
    rw [Array.getElem?_toList, Array.getElem?_toList]
    by_cases hj : ∃ j, j < m ∧ dstOf ops j = some t
    · obtain ⟨j, hjm, hjd⟩ := hj
      rw [slot_runs_some (hall j hjm) hjd (fun i hi hd => F.dst i j t (hlt i hi) hjm hd hjd),
        slot_runs_some (List.mem_range.2 hjm) hjd (fun i hi hd => F.dst i j t (List.mem_range.1 hi) hjm hd hjd), hs j hjm]
    · rw [slot_runs_none (fun j hj' hd => hj ⟨j, hlt j hj', hd⟩), slot_runs_none (fun j hj' hd => hj ⟨j, List.mem_range.1 hj', hd⟩)]
  have hd : (runs ops s E a0).defers = (runs ops s' (List.range m) a0).defers := by rw [runs_defers, runs_defers]
  generalize runs ops s E a0 = x at *
  generalize runs ops s' (List.range m) a0 = y at *
  cases x; cases y
  simp only at ht hd
  rw [ht, hd]
theorem head_any (F : Fits ops m kind) (hRr : ∀ a, R a a) (hRt : ∀ a b c, R a b → R b c → R a c) (hV : ∀ i v a b, R a b → V i v a → V i v b) (hCW : C W)
    (hQ : ∀ c a a' w, Q (.panic c) a w → Q (.panic c) a' w)
    (hW : Walk P ops C R W V kind (fun a w => wpList P ops Q (ops.toList.drop m) a w) 0 (ops.toList.take m) (fun _ => none) a0 W) :
    ∀ (fuel : Nat) (E : List Nat) (s : Nat → Option Value) (w : World) (L : Array Bool), Inv P ops C R W V kind m a0 E s w → Lists ops L E → ops.size ≤ fuel + E.length →
      wpAny P .any ops Q fuel L (runs ops s E a0) w := by
  have hend : ∀ (fuel : Nat) (E : List Nat) (s : Nat → Option Value) (w : World) (L : Array Bool), Inv P ops C R W V kind m a0 E s w → Lists ops L E → ops.size ≤ fuel + E.length →
      (∀ i, i < m → i ∈ E) → wpAny P .any ops Q fuel L (runs ops s E a0) w := by
    intro fuel E s w L I hL hf hall
    obtain ⟨s', w', hww, hc, hr, hs, hfa, hwalk⟩ := ready_runs F hRr hRt hV hCW hW I m (Nat.le_refl _)
    obtain rfl := hww hall
    have hlen := (nodup_lt m E I.nodup I.lt).1
    rw [show (ops.toList.take m).drop m = [] from List.drop_eq_nil_of_le (by simp; omega)] at hwalk
    unfold Walk at hwalk
    rw [runs_all F I.lt hall (fun j hj => hs j hj (hall j hj))]
    exact tail_any F fuel m L E _ _ (Nat.le_refl _) F.le (by omega) hL (fun j => ⟨fun h => I.lt j h, fun h => hall j h⟩) (hwalk w' I.hC (hRr _))
  intro fuel
  induction fuel with
  | zero =>
    intro E s w L I hL hf
    have hn := nodup_lt m E I.nodup I.lt
    exact hend 0 E s w L I hL hf (hn.2 (by have := F.le; omega))
  | succ fuel ih =>
    intro E s w L I hL hf
    by_cases hall : ∀ i, i < m → i ∈ E
    · exact hend _ E s w L I hL hf hall
    · -- the first that is left waits for nothing more
      have hex : ∃ i, i < m ∧ i ∉ E ∧ ∀ j, j < i → j ∈ E := by
        have : ∀ n, n ≤ m → (∀ j, j < n → j ∈ E) ∨ ∃ i, i < m ∧ i ∉ E ∧ ∀ j, j < i → j ∈ E := by
          intro n
          induction n with
          | zero => exact fun _ => .inl fun j hj => absurd hj (by omega)
          | succ n ih2 =>
            intro hn
            rcases ih2 (by omega) with h | h
            · by_cases hnE : n ∈ E
              · exact .inl fun j hj => by
                  by_cases hjn : j = n
                  · subst hjn; exact hnE
                  · exact h j (by omega)
              · exact .inr ⟨n, by omega, hnE, h⟩
            · exact .inr h
        rcases this m (Nat.le_refl _) with h | h
        · exact absurd h hall
        · exact h
      obtain ⟨i0, hi0, hi0E, hi0p⟩ := hex
      have hi0lt : i0 < ops.size := by have := F.le; omega
      have hi0r : i0 ∈ Region.ready .any ops L := hL.ready.2 ⟨hi0E, ops[i0], by simp [hi0lt], fun j hj => hi0p j (F.back i0 ops[i0] (by simp [hi0lt]) j hj)⟩
      have hNow : ∀ {i : Nat} {o : Oper}, ops[i]? = some o → i < m → (∀ j, edge o j = true → j ∈ E) → Now P ops C R W V kind i o (runs ops s E a0) w :=
        fun ho hi he => now_of F hRr hRt hV hCW hW I ho hi he
      by_cases hp : ∃ i o, i < m ∧ i ∉ E ∧ ops[i]? = some o ∧ (∀ j, edge o j = true → j ∈ E) ∧ kind i = 0
      · obtain ⟨i, o, hi, hiE, ho, he, hk⟩ := hp
        have hilt : i < ops.size := (Array.getElem?_eq_some_iff.1 ho).1
        have key : ∀ v : Option Value, (Yields P ops o (v.getD undef) (runs ops s E a0)) →
            ((Region.wanted o (yielded ops (runs ops s E a0).tmps) = true ∧ ∃ x, v = some x ∧ (kind i ≠ 2 → (execOp (runs ops s E a0).eval o).run P W = .ok (.value x) W)) ∨
              (Region.wanted o (yielded ops (runs ops s E a0).tmps) = false ∧ v = none)) → wpAny P .any ops Q (fuel + 1) L (runs ops s E a0) w := fun v hy hrec => by
          obtain ⟨I', hact⟩ := I.snoc F hRt hV ho hi hiE he v I.hC (hRr _) (fun x h => absurd h (by omega)) hrec
          refine wpAny_first ho (fun j oj cs b hj => F.sel j oj cs b hj) (fun c a w h => hQ c _ _ w h) fuel L _ w ?_ (hL.ready.2 ⟨hiE, o, ho, he⟩) hy ?_
          · intro j oj hj hji hjL hno
            have hjE := hL.not hjL
            refine F.pure i o j oj hi hk ho hj hji ?_ ?_
            · cases hed : edge oj i with
              | false => rfl
              | true =>
                obtain ⟨e, hm, hb, hon⟩ := edge_iff.1 hed
                exact absurd hon (hno e hm hb)
            · cases hed : edge o j with
              | false => rfl
              | true => exact absurd (he j hed) hjE
          · rw [← hact]
            exact ih _ _ _ _ I' (hL.set hilt) (by simp; omega)
        rcases hNow ho hi he with hw | ⟨_, hk2, _⟩ | ⟨hw, _, v, hv⟩
        · exact key none (.inr ⟨hw, rfl⟩) (.inr ⟨hw, rfl⟩)
        · omega
        · exact key (some v) (.inl ⟨hw, fun w' => hv w' (fun h => absurd h (by omega))⟩) (.inl ⟨hw, v, rfl, fun _ => hv W (fun h => absurd h (by omega))⟩)
      · refine ⟨fun hn => (by rw [hn] at hi0r; cases hi0r), fun i hir => ?_⟩
        obtain ⟨hiE, o, ho, he⟩ := hL.ready.1 hir
        have hilt : i < ops.size := (Array.getElem?_eq_some_iff.1 ho).1
        have hk0 : kind i0 ≠ 0 := fun h => hp ⟨i0, ops[i0], hi0, hi0E, by simp [hi0lt], fun j hj => hi0p j (F.back i0 ops[i0] (by simp [hi0lt]) j hj), h⟩
        have him : i < m := by
          rcases Nat.lt_or_ge i m with h | h
          · exact h
          · exact absurd (he i0 (F.tail i o h ho i0 hi0 hk0)) hi0E
        have hgo : ∀ (v : Option Value) (w2 : World), C w2 → R w w2 → (∀ x, kind i = 2 → v = some x → V i x w2) →
            ((Region.wanted o (yielded ops (runs ops s E a0).tmps) = true ∧ ∃ x, v = some x ∧ (kind i ≠ 2 → (execOp (runs ops s E a0).eval o).run P W = .ok (.value x) W)) ∨
              (Region.wanted o (yielded ops (runs ops s E a0).tmps) = false ∧ v = none)) →
            wpAny P .any ops Q fuel (L.setIfInBounds i true) ((runs ops s E a0).put o.dst (v.getD undef)) w2 := fun v w2 hc hr hv hrec => by
          obtain ⟨I', hact⟩ := I.snoc F hRt hV ho him hiE he v hc hr hv hrec
          rw [← hact]
          exact ih _ _ _ _ I' (hL.set hilt) (by simp; omega)
        unfold wpOp
        rw [ho]
        dsimp only
        rcases hNow ho him he with hw | ⟨hw, hk2, hg⟩ | ⟨hw, hkn, v, hv⟩
        · rw [if_neg (by rw [hw]; exact Bool.false_ne_true)]
          exact hgo none w I.hC (hRr _) (fun x _ h => by cases h) (.inr ⟨hw, rfl⟩)
        · rw [if_pos hw]
          refine .inl ?_
          have hgo2 : ∀ v w2, C w2 → R w w2 → V i v w2 → wpAny P .any ops Q fuel (L.setIfInBounds i true) ((runs ops s E a0).put o.dst v) w2 := fun v w2 hc hr hv =>
            hgo (some v) w2 hc hr (fun x _ h => by cases h; exact hv) (.inl ⟨hw, v, rfl, fun h => absurd hk2 h⟩)
          unfold Oper.wp
          generalize (execOp (runs ops s E a0).eval o).run P w = r at hg
          cases r with
          | ok n w2 =>
            cases n <;> simp only [Gives] at hg
            case value v => exact hgo2 v w2 hg.1 hg.2.1 hg.2.2
            case skip => exact hgo2 undef w2 hg.1 hg.2.1 hg.2.2
            case enter f args =>
              refine Calls.mono hg ?_
              rintro e w3 ⟨v, rfl, hc, hr, hv⟩
              exact hgo2 v w3 hc hr hv
          | halt h w2 => exact hg.elim
        · rw [if_pos hw]
          refine .inl ?_
          have hcl : kind i = 1 → C w ∧ R W w := fun _ => ⟨I.hC, I.hR⟩
          unfold Oper.wp
          rw [hv w hcl]
          exact hgo (some v) w I.hC (hRr _) (fun x h => absurd h hkn) (.inl ⟨hw, v, rfl, fun _ => hv W (fun _ => ⟨hCW, hRr _⟩)⟩)
end main
/-- The conditions, as a reckoning over the text. -/
def okAt (l : List Oper) (m : Nat) (kind : Nat → Nat) (i : Nat) (oi : Oper) : Bool :=
  ((oi.after.all (fun e => !Region.binds .any e || decide (e.on < i)) &&
  (decide (m ≤ i) || ((List.range m).all fun j =>
    (j == i || match dstOf l.toArray i with | none => true | some t => dstOf l.toArray j != some t) &&
    (match dstOf l.toArray j with | none => true | some t => !(oi.looksAt l.toArray).contains t || edge oi j)))) &&
  (decide (m ≤ i) || kind i != 0 || (List.range l.length).all fun j => j == i || match l[j]? with
    | none => true
    | some oj => edge oj i || edge oi j || oi.apart l.toArray oj)) &&
  (decide (i < m) || (List.range i).all fun j => (if j < m then kind j == 0 else false) || edge oi j)
def ordB (l : List Oper) (m : Nat) (kind : Nat → Nat) : Bool :=
  (decide (m ≤ l.length) &&
  l.all (fun o => match o.op with | .select .. => false | _ => true)) &&
  (List.range l.length).all fun i => match l[i]? with
    | none => true
    | some oi => okAt l m kind i oi
theorem fits_of {l : List Oper} {m : Nat} {kind : Nat → Nat} (h : ordB l m kind = true) : Fits l.toArray m kind := by
  unfold ordB at h
  simp only [Bool.and_eq_true, decide_eq_true_eq, List.all_eq_true, List.mem_range] at h
  obtain ⟨⟨hle, hsel⟩, hall⟩ := h
  have get : ∀ (i : Nat) (o : Oper), l.toArray[i]? = some o → l[i]? = some o ∧ i < l.length := fun i o ho => by
    have h1 : l[i]? = some o := by simpa using ho
    exact ⟨h1, (List.getElem?_eq_some_iff.1 h1).1⟩
  have main : ∀ (i : Nat) (o : Oper), l.toArray[i]? = some o → ((_ = true ∧ _ = true) ∧ _ = true) ∧ _ = true := fun i o ho => by
    have h1 := hall i (get i o ho).2
    rw [(get i o ho).1] at h1
    have h2 : okAt l m kind i o = true := h1
    unfold okAt at h2
    simpa only [Bool.and_eq_true] using h2
  have lt : ∀ (i : Nat), i < m → ∃ o, l.toArray[i]? = some o := fun i hi => ⟨l[i]'(by omega), by simp⟩
  refine ⟨by simpa using hle, ?_, ?_, ?_, ?_, ?_, ?_, ?_⟩
  · intro j o cs b ho heq
    have := hsel o (List.mem_of_getElem? (get j o ho).1)
    simp [heq] at this
  · intro i o ho j he
    obtain ⟨e, hm, hb, rfl⟩ := edge_iff.1 he
    have h1 := (main i o ho).1.1.1
    have h2 := Array.all_eq_true_iff_forall_mem.1 h1 e hm
    simpa [hb] using h2
  · intro i j t hi hj hdi hdj
    obtain ⟨o, ho⟩ := lt i hi
    have h1 := (main i o ho).1.1.2
    simp only [Bool.or_eq_true, decide_eq_true_eq, List.all_eq_true, List.mem_range, Bool.and_eq_true] at h1
    rcases h1 with h1 | h1
    · omega
    · have h2 := (h1 j hj).1
      rw [hdi] at h2
      simp only [beq_iff_eq, bne_iff_ne, hdj, ne_eq, not_true_eq_false, or_false] at h2
      exact h2.symm
  · intro i o j t ho hi hj hd ht
    have h1 := (main i o ho).1.1.2
    simp only [Bool.or_eq_true, decide_eq_true_eq, List.all_eq_true, List.mem_range, Bool.and_eq_true] at h1
    rcases h1 with h1 | h1
    · omega
    · have h2 := (h1 j hj).2
      rw [hd] at h2
      simp only [Bool.or_eq_true, Bool.not_eq_true', List.contains_eq_mem, decide_eq_false_iff_not] at h2
      exact h2.resolve_left (fun h => h ht)
  · intro i oi j oj hi hk hoi hoj hji h1 h2
    have h3 := (main i oi hoi).1.2
    simp only [Bool.or_eq_true, decide_eq_true_eq, List.all_eq_true, List.mem_range, bne_iff_ne, ne_eq, hk, not_true_eq_false, or_false, beq_iff_eq] at h3
    rcases h3 with h3 | h3
    · omega
    · have h4 := (h3 j (get j oj hoj).2).resolve_left hji
      rw [(get j oj hoj).1] at h4
      simpa [h1, h2] using h4
  · intro t o ht ho i hi hk
    have h1 := (main t o ho).2
    simp only [Bool.or_eq_true, decide_eq_true_eq, List.all_eq_true, List.mem_range] at h1
    rcases h1 with h1 | h1
    · omega
    · have h2 := h1 i (by omega)
      simpa [hi, hk] using h2
  · intro t o ht ho j hj hjt
    have h1 := (main t o ho).2
    simp only [Bool.or_eq_true, decide_eq_true_eq, List.all_eq_true, List.mem_range] at h1
    rcases h1 with h1 | h1
    · omega
    · have h2 := h1 j hjt
      simpa [show ¬ j < m by omega] using h2
/-- A REGION THAT DRAWS ITS ORDER: its head in the order of the text, each told value under its closed predicate; then its tail. -/
theorem wp_region_ord {P : Program} {id : Nat} {Q : Exit → Act → World → Prop} {a : Act} {w : World} {l : List Oper} (m : Nat) (ks : List Nat) (C : World → Prop) (R : World → World → Prop)
    (V : Nat → Value → World → Prop) (hm : P.follows .mixedOrders = true) (hB : ordB l m (fun i => ks.getD i 0) = true) (hRr : ∀ a, R a a) (hRt : ∀ a b c, R a b → R b c → R a c)
    (hV : ∀ i v a b, R a b → V i v a → V i v b) (hQ : ∀ c a a' w, Q (.panic c) a w → Q (.panic c) a' w) (hC : C w.drew)
    (h : Walk P l.toArray C R w.drew V (fun i => ks.getD i 0) (fun a w => wpList P l.toArray Q (l.drop m) a w) 0 (l.take m) (fun _ => none) a w.drew) : (Code.region id l.toArray true).wp P Q a w := by
  refine wp_region_any hm ?_
  have hF := fits_of hB
  refine head_any (a0 := a) hF hRr hRt hV hC hQ (by simpa using h) l.toArray.size [] (fun _ => none) w.drew _ ⟨by simp, by simp, by simp, hC, hRr _, by simp, by simp⟩ ⟨by simp, fun j => ?_⟩ (by simp)
  simp [Array.getElem?_replicate]
  split <;> simp
end Go.K
/- DRAWN REGIONS whose operations change nothing that was there ('Ext'): the steps of the walk. -/
namespace Go.K
open Go Go.RowKit
/-- A closed predicate on a value, which new memory does not turn. -/
structure SP where
  p : Value → World → Prop
  st : ∀ v a b, Ext a b → p v a → p v b
def SP.any : SP := ⟨fun _ _ => True, fun _ _ _ _ _ => trivial⟩
/-- It is this value. -/
def SP.is (c : Value) : SP := ⟨fun v _ => v = c, fun _ _ _ _ h => h⟩
/-- It points to a new block that holds this. -/
def NewAt (B : Nat) (o : Obj) (v : Value) (w : World) : Prop := ∃ h, v = .pointer (some ⟨h, 0, none⟩) ∧ B ≤ h ∧ w.heap[h]? = some o
theorem Ext.block {W w : World} (h : Ext W w) {k : Nat} {o : Obj} (hk : W.heap[k]? = some o) : w.heap[k]? = some o := by
  have hlt : k < W.heap.size := (Array.getElem?_eq_some_iff.1 hk).1
  rw [h.below.block k hlt, hk]
def SP.new (B : Nat) (o : Obj) : SP := ⟨NewAt B o, fun _ _ _ hx ⟨h, hv, hB, hb⟩ => ⟨h, hv, hB, hx.block hb⟩⟩
def vals (vs : List SP) (i : Nat) (v : Value) (w : World) : Prop := (vs.getD i SP.any).p v w
/-- (a structure: so no step evaluates the rest of the walk) -/
structure WalkX (P : Program) (ops : Array Oper) (W : World) (ks : List Nat) (vs : List SP) (T : Act → World → Prop) (k : Nat) (l : List Oper) (s : Nat → Option Value) (a : Act) (w : World) : Prop where
  out : Walk P ops (fun _ => True) Ext W (vals vs) (fun i => ks.getD i 0) T k l s a w
theorem wp_region_x {P : Program} {id : Nat} {Q : Exit → Act → World → Prop} {a : Act} {w : World} {l : List Oper} (m : Nat) (ks : List Nat) (vs : List SP)
    (hm : P.follows .mixedOrders = true) (hB : ordB l m (fun i => ks.getD i 0) = true)
    (h : WalkX P l.toArray w.drew ks vs (fun a w => wpList P l.toArray (NoPanic Q) (l.drop m) a w) 0 (l.take m) (fun _ => none) a w.drew) : (Code.region id l.toArray true).wp P Q a w :=
  wp_region_noPanic (wp_region_ord m ks (fun _ => True) Ext (vals vs) hm hB Ext.refl (fun _ _ _ h k => h.trans k) (fun i v a b hx hv => (vs.getD i SP.any).st v a b hx hv) (fun _ _ _ _ h => h) trivial h.out)
section steps
variable {P : Program} {ops : Array Oper} {W : World} {ks : List Nat} {vs : List SP} {T : Act → World → Prop} {k : Nat} {o : Oper} {rest : List Oper} {s : Nat → Option Value} {a : Act} {w : World}
theorem x_skip (hw : Region.wanted o (yielded ops a.tmps) = false) (h : WalkX P ops W ks vs T (k + 1) rest (upd s k none) (a.put o.dst undef) w) : WalkX P ops W ks vs T k (o :: rest) s a w := ⟨Walk.skip hw h.out⟩
theorem x_pure {v : Value} (hw : Region.wanted o (yielded ops a.tmps) = true) (hk : ks.getD k 0 = 0) (h1 : ∀ w', (execOp a.eval o).run P w' = .ok (.value v) w')
    (h : WalkX P ops W ks vs T (k + 1) rest (upd s k (some v)) (a.put o.dst v) w) : WalkX P ops W ks vs T k (o :: rest) s a w := ⟨Walk.pure hw hk h1 h.out⟩
theorem x_held {v : Value} (hw : Region.wanted o (yielded ops a.tmps) = true) (hk : ks.getD k 0 = 1) (h1 : ∀ w', Ext W w' → (execOp a.eval o).run P w' = .ok (.value v) w')
    (h : WalkX P ops W ks vs T (k + 1) rest (upd s k (some v)) (a.put o.dst v) w) : WalkX P ops W ks vs T k (o :: rest) s a w := ⟨Walk.held hw hk (fun w' _ hx => h1 w' hx) h.out⟩
/-- A call. -/
theorem x_call {f : FuncId} {args : Array Value} (hw : Region.wanted o (yielded ops a.tmps) = true) (hk : ks.getD k 0 = 2) (hrun : ∀ w', (execOp a.eval o).run P w' = .ok (.enter f args) w')
    (hcall : ∀ w', Ext W w' → (∀ j v, edge o j = true → ks.getD j 0 = 2 → s j = some v → vals vs j v w') → Calls P f args w' fun e w'' => ∃ v, e = .returned v ∧ Ext w' w'' ∧ vals vs k v w'')
    (h : ∀ v w', Ext w w' → vals vs k v w' → WalkX P ops W ks vs T (k + 1) rest (upd s k (some v)) (a.put o.dst v) w') : WalkX P ops W ks vs T k (o :: rest) s a w :=
  ⟨Walk.told hw hk (fun w' _ hx hp => by rw [hrun]; exact (hcall w' hx hp).mono fun e w'' ⟨v, he, hx', hv⟩ => ⟨v, he, trivial, hx', hv⟩) (fun v w' _ hx hv => (h v w' hx hv).out)⟩
/-- A call whose value is known. -/
theorem x_call_is {f : FuncId} {args : Array Value} {c : Value} (hw : Region.wanted o (yielded ops a.tmps) = true) (hk : ks.getD k 0 = 2) (hvs : vs.getD k SP.any = SP.is c) (hrun : ∀ w', (execOp a.eval o).run P w' = .ok (.enter f args) w')
    (hcall : ∀ w', Ext W w' → (∀ j v, edge o j = true → ks.getD j 0 = 2 → s j = some v → vals vs j v w') → Calls P f args w' fun e w'' => e = .returned c ∧ Ext w' w'')
    (h : ∀ w', Ext w w' → WalkX P ops W ks vs T (k + 1) rest (upd s k (some c)) (a.put o.dst c) w') : WalkX P ops W ks vs T k (o :: rest) s a w :=
  x_call hw hk hrun (fun w' hx hp => (hcall w' hx hp).mono fun e w'' ⟨he, hx'⟩ => ⟨c, he, hx', by unfold vals; rw [hvs]; rfl⟩)
    (fun v w' hx hv => by unfold vals at hv; rw [hvs] at hv; obtain rfl : v = c := hv; exact h w' hx)
theorem cell_at {w : World} {g i : Nat} {c : Array Value} {t : TypeId} {v : Value} (h : w.heap[g]? = some (.cells c t)) (hi : c[i]? = some v) : w.cell? ⟨g, i, none⟩ = some v := by
  unfold World.cell?; simp only [h]; simpa using hi
theorem thaw_at {w : World} {g i : Nat} {c : Array Value} {t : TypeId} (h : w.heap[g]? = some (.cells c t)) : w.frozen? ⟨g, i, none⟩ = false := by
  unfold World.frozen?; simp only [h]; simp
theorem x_done (h : ∀ w', Ext w w' → T a w') : WalkX P ops W ks vs T k [] s a w := ⟨Walk.done fun w' _ hx => h w' hx⟩
end steps
end Go.K
/- DRAWN REGIONS, two steps more: a new row of one byte; an operation whose value is known where it is carried out. -/
namespace Go.K
open Go Go.RowKit
def NewSl (B : Nat) (o : Obj) (v : Value) (w : World) : Prop := ∃ h, v = .slice (some ⟨h, 0, none⟩) 1 1 ∧ B ≤ h ∧ w.heap[h]? = some o
def SP.sl (B : Nat) (o : Obj) : SP := ⟨NewSl B o, fun _ _ _ hx ⟨h, hv, hB, hb⟩ => ⟨h, hv, hB, hx.block hb⟩⟩
theorem SP.sl_at {B g : Nat} {o : Obj} {w : World} (h : (SP.sl B o).p (.slice (some ⟨g, 0, none⟩) 1 1) w) : w.heap[g]? = some o := by
  obtain ⟨h, hv, _, hb⟩ := h
  simp only [Value.slice.injEq, Option.some.injEq, Addr.mk.injEq, and_true] at hv
  rw [hv]; exact hb
section steps
variable {P : Program} {ops : Array Oper} {W : World} {ks : List Nat} {vs : List SP} {T : Act → World → Prop} {k : Nat} {o : Oper} {rest : List Oper} {s : Nat → Option Value} {a : Act} {w : World}
theorem x_newsl {B : Nat} {ob : Obj} (hw : Region.wanted o (yielded ops a.tmps) = true) (hk : ks.getD k 0 = 2) (hvs : vs.getD k SP.any = SP.sl B ob) (hB : B ≤ W.heap.size)
    (hrun : ∀ w', (execOp a.eval o).run P w' = .ok (.value (.slice (some ⟨w'.heap.size, 0, none⟩) 1 1)) (w'.alloc ob))
    (h : ∀ g w', Ext w w' → B ≤ g → w'.heap[g]? = some ob → WalkX P ops W ks vs T (k + 1) rest (upd s k (some (.slice (some ⟨g, 0, none⟩) 1 1))) (a.put o.dst (.slice (some ⟨g, 0, none⟩) 1 1)) w') :
    WalkX P ops W ks vs T k (o :: rest) s a w :=
  ⟨Walk.told hw hk (fun w' _ hx hp => by
      rw [hrun]
      refine ⟨trivial, (Ext.refl _).alloc _, ?_⟩
      unfold vals; rw [hvs]
      exact ⟨w'.heap.size, rfl, Nat.le_trans hB hx.size, by show (w'.heap.push ob)[w'.heap.size]? = some ob; simp⟩)
    (fun v w' _ hx hv => by unfold vals at hv; rw [hvs] at hv; obtain ⟨g, rfl, hB, hb⟩ := hv; exact (h g w' hx hB hb).out)⟩
theorem x_op_is {c : Value} (hw : Region.wanted o (yielded ops a.tmps) = true) (hk : ks.getD k 0 = 2) (hvs : vs.getD k SP.any = SP.is c)
    (hrun : ∀ w', Ext W w' → (∀ j v, edge o j = true → ks.getD j 0 = 2 → s j = some v → vals vs j v w') → (execOp a.eval o).run P w' = .ok (.value c) w')
    (h : ∀ w', Ext w w' → WalkX P ops W ks vs T (k + 1) rest (upd s k (some c)) (a.put o.dst c) w') : WalkX P ops W ks vs T k (o :: rest) s a w :=
  ⟨Walk.told hw hk (fun w' _ hx hp => by rw [hrun w' hx hp]; exact ⟨trivial, Ext.refl _, by unfold vals; rw [hvs]; rfl⟩)
    (fun v w' _ hx hv => by unfold vals at hv; rw [hvs] at hv; obtain rfl : v = c := hv; exact (h w' hx).out)⟩
end steps
/-- one byte as a string -/
theorem byte_str {P : Program} {w : World} {src dst e t : TypeId} {g : Nat} {c : Int} {fr : Nat × Nat} (hs : P.underlying src = some (.slice e)) (he : P.underlying e = some (.int .u8)) (hd : P.underlying dst = some .string)
    (h0 : 0 ≤ c) (h1 : c ≤ 255) (hb : w.heap[g]? = some (.cells #[.int .u8 c] t fr)) : (convert src dst (.slice (some ⟨g, 0, none⟩) 1 1)).run P w = .ok (.string ⟨#[UInt8.ofNat c.toNat]⟩) w := by
  have := run_convert_bytes_back (P := P) w src dst e ⟨g, 0, none⟩ 1 [UInt8.ofNat c.toNat] hs he hd (fun j hj => by
    have hj0 : j = 0 := by simp at hj; omega
    subst hj0
    have : w.cell? ((⟨g, 0, none⟩ : Addr).add 0) = some (.int .u8 c) := by
      rw [WideShapes.add_plain]; unfold World.cell?; simp only [hb]; rfl
    rw [this]
    simp
    omega)
  simpa using this
end Go.K
/- PLAIN MATHEMATICS: formulas made of exponents of a to z. -/
namespace Go.Z
def mkP (f : Nat → Int) : Nat → List Int
  | 0 => []
  | k + 1 => mkP f k ++ (if f k = 0 then [] else [f k])
def mkB (f : Nat → Int) : Nat → List UInt8
  | 0 => []
  | k + 1 => mkB f k ++ (if f k = 0 then [] else [(97 + k).toUInt8])
def made (d t : Int) (f : Nat → Int) (n : Nat) : Fm := ⟨d, t, ⟨(mkB f n).toArray⟩, mkP f n⟩
/-- a valid formula's letters rise -/
theorem valid_at {F : Fm} (h : isFormula F = true) (i : Nat) (hi : i < F.nm.size) : okAt (bs F.nm) F.pw i = true := by
  simp only [isFormula, Bool.and_eq_true, List.all_eq_true] at h
  exact h.2 i (List.mem_range.2 hi)
end Go.Z
/- PLAIN MATHEMATICS: a formula without a letter; made formulas that may be invalid. -/
namespace Go.Z
def withF (F : Fm) (c : Int) (i : Nat) : Int := if 97 + (i : Int) = c then 0 else expo (bs F.nm) F.pw (97 + (i : Int))
def without (F : Fm) (c : Int) : Fm := made F.dg F.tn (withF F c) 26
end Go.Z
/- PLAIN MATHEMATICS: a valid formula without a letter is valid. -/
namespace Go.Z
end Go.Z
/- SLICES OF RECORDS: how a value reads as a list of records; no function of the program in sight. -/
namespace Go.K
open Go.RowKit
/-- how a record of n cells lies in memory -/
structure Rec (α : Type) where
  n : Nat
  cell : α → Nat → Value
/-- The value reads as the list of records; they lie in a block from lo to hi; 'fr': and may be written. -/
def recs {α : Type} (fr : Bool) (R : Rec α) (w : World) (lo hi : Nat) (v : Value) (xs : List α) : Prop :=
  ∃ o cap, v = .slice o xs.length cap ∧ (xs ≠ [] → ∃ b off, o = some ⟨b, off, none⟩ ∧ lo ≤ b ∧ b < hi ∧ (∀ i (h : i < xs.length) j, j < R.n → w.cell? ⟨b, off + i * R.n + j, none⟩ = some (R.cell xs[i] j)) ∧ (fr = true → ∀ i j, i < xs.length → j < R.n → w.frozen? ⟨b, off + i * R.n + j, none⟩ = false))
section
variable {α : Type} {fr : Bool} {R : Rec α} {w w' : World} {lo hi lo' hi' : Nat} {v : Value} {xs : List α}
theorem recs.plain (h : recs fr R w lo hi v xs) : recs false R w lo hi v xs := by
  obtain ⟨o, cap, rfl, h⟩ := h
  exact ⟨o, cap, rfl, fun hx => by obtain ⟨b, off, rfl, h1, h2, h3, _⟩ := h hx; exact ⟨b, off, rfl, h1, h2, h3, fun h => by cases h⟩⟩
theorem recs.ext (h : recs fr R w lo hi v xs) (hx : Ext w w') : recs fr R w' lo hi v xs := by
  obtain ⟨o, cap, rfl, h⟩ := h
  exact ⟨o, cap, rfl, fun hn => by
    obtain ⟨b, off, rfl, h1, h2, h3, h4⟩ := h hn
    exact ⟨b, off, rfl, h1, h2, fun i hi j hj => hx.cell_of (h3 i hi j hj), fun hf i j hi hj => hx.thaw_of (by rw [h3 i hi j hj]; rfl) (h4 hf i j hi hj)⟩⟩
theorem recs.mono (h : recs fr R w lo hi v xs) (h1 : lo' ≤ lo) (h2 : hi ≤ hi') : recs fr R w lo' hi' v xs := by
  obtain ⟨o, cap, rfl, h⟩ := h
  exact ⟨o, cap, rfl, fun hn => by obtain ⟨b, off, rfl, h1, h2, h3⟩ := h hn; exact ⟨b, off, rfl, by omega, by omega, h3⟩⟩
theorem recs.far (hR : 0 < R.n) (h : recs fr R w lo hi v xs) (hf : Far lo' hi' w w') (hd : hi ≤ lo' ∨ hi' ≤ lo) : recs fr R w' lo hi v xs := by
  obtain ⟨o, cap, rfl, h⟩ := h
  exact ⟨o, cap, rfl, fun hn => by
    obtain ⟨b, off, rfl, h1, h2, h3, h4⟩ := h hn
    have hb : b < w.heap.size := World.block_lt_of_cell? w _ (h3 0 (List.length_pos_iff.2 hn) 0 hR)
    exact ⟨b, off, rfl, h1, h2, fun i hi j hj => by rw [hf.cell (p := ⟨b, off + i * R.n + j, none⟩) hb (by show b < _ ∨ _ ≤ b; omega)]; exact h3 i hi j hj,
      fun hh i j hi hj => by rw [hf.frozen (p := ⟨b, off + i * R.n + j, none⟩) hb (by show b < _ ∨ _ ≤ b; omega)]; exact h4 hh i j hi hj⟩⟩
theorem recs.alloc (h : recs fr R w lo hi v xs) (o : Obj) : recs fr R (w.alloc o) lo hi v xs := h.ext ((Ext.refl w).alloc o)
theorem recs.drew (h : recs fr R w lo hi v xs) : recs fr R w.drew lo hi v xs := h.ext (Ext.refl w).drew
theorem recs.set (hR : 0 < R.n) (h : recs fr R w lo hi v xs) (p : Addr) (hp : p.block < lo ∨ hi ≤ p.block) (u : Value) : recs fr R (w.setCell p u) lo hi v xs :=
  h.far hR ((Far.refl p.block (p.block + 1) w).setCell (Nat.le_refl _) (Nat.lt_succ_self _) u) (by omega)
/-- all cells, in order -/
def Rec.cells (R : Rec α) (xs : List α) : List Value := xs.flatMap (fun x => (List.range R.n).map (R.cell x))
end
end Go.K
/- PLAIN MATHEMATICS: steps of a derivation. -/
namespace Go.Z
structure St where
  kd : Int
  nm : Int
  pw : Int
end Go.Z
namespace Go.K
end Go.K
/- THE FRAME OF A LAW: what a row asks beyond the walk: the arguments read as before, nothing old has changed, the result is true. No function of the program in sight. -/
namespace Go.K
open Go Go.ChangeShapes Go.WideShapes Go.ChangeAt Go.RowKit
theorem trodAll_later {H : Type} {enc : TypeId × Value → H} {P : Program} (hl : laidOutB P = true) {W W' : World} (hx : Ext W W') :
    ∀ (ts : List TypeId), (∀ t ∈ ts, P.readableRec t = true ∧ t < P.types.size) → ∀ (vs : List Value) (ds : List (DataW H)) (ps : List MemPlace),
      DataW.TrodAll enc P W 0 (fun _ => true) true ts vs ds ps → (∀ x ∈ ps, x.block < W.heap.size) → DataW.TrodAll enc P W' 0 (fun b => decide (b < W.heap.size)) true ts vs ds ps := by
  intro ts
  induction ts with
  | nil =>
    intro _ vs ds ps h _
    obtain ⟨rfl, rfl, rfl⟩ := trodAll_nil h
    exact trodAll_mk0
  | cons t ts ih =>
    intro hr vs ds ps h hlt
    obtain ⟨v, vs', d, ds', p, q, rfl, rfl, rfl, h1, h2⟩ := trodAll_cons h
    exact trodAll_cons_mk (Below.trod hl (hr t (by simp)).1 (hr t (by simp)).2 h1 hx.below (fun x hxp => hlt x (by simp [hxp])))
      (ih (fun u hu => hr u (by simp [hu])) vs' ds' q h2 (fun x hxq => hlt x (by simp [hxq])))
/-- A law's post: it returned true and at most made new memory. -/
theorem law_post {H : Type} {enc : TypeId × Value → H} {P : Program} {f : Func} {s : ChangeSpec} {W W' : World} {args : Array Value} {ds gs : List (DataW H)} {before : List MemPlace} {tb : TypeId}
    (hl : laidOutB P = true) (hr : ∀ t ∈ f.params.toList, P.readableRec t = true ∧ t < P.types.size) (hres : f.resultTypes = #[tb]) (htb : P.underlying tb = some .bool) (hvars : s.vars = [])
    (hW : DataW.Whole enc P f.params.toList s.vars false W args.toList ds gs before)
    (hfn : s.fn H (ds ++ gs) = { results := [.lit (.bool true)], args := ds }) (hx : Ext W W') : s.post enc P f false true false false W args (.bool true) W' := by
  have hW' := hW
  obtain ⟨p, q, hA, hV, rfl, hfz, hnd⟩ := hW
  rw [hvars] at hV
  obtain ⟨rfl, rfl⟩ := trodVars_none hV
  have hlt : ∀ x ∈ p, x.block < W.heap.size := fun x hxp => hW'.lt x (by simp [hxp])
  refine ⟨ds, [], p ++ [], [], p, [], hW', ?_, ?_, ?_, hx.below.frame _, fun h => by cases h⟩
  · rw [hfn, hres]
    exact trodAll_cons_mk (shut_bool htb true) trodAll_mk0
  · rw [hfn]
    exact trodAll_later hl hx _ hr _ _ _ hA hlt
  · rw [hvars, hfn]
    simp [DataW.TrodVars]
end Go.K
/- THE FRAME OF A LAW: formulas and equations as arguments. No function of the program in sight. -/
namespace Go.K
open Go Go.ChangeShapes Go.WideShapes Go.ChangeAt Go.RowKit Go.Deep
variable {H : Type} {enc : TypeId × Value → H} {P : Program} {w : World} {base : Nat} {spare : Nat → Bool} {held : Bool}
end Go.K
/- THE FRAME OF A LAW: slices of records as arguments. No function of the program in sight. -/
namespace Go.K
open Go Go.ChangeShapes Go.WideShapes Go.ChangeAt Go.RowKit Go.Deep
variable {H : Type} {enc : TypeId × Value → H} {P : Program} {w : World} {base : Nat} {spare : Nat → Bool} {held : Bool}
end Go.K
end
section
namespace Go.Z
/-- a string out of bytes -/
def str (l : List UInt8) : ByteArray := ⟨l.toArray⟩
theorem str_bytes (l : List UInt8) : (str l).data.toList = l := by simp [str]
theorem str_inj {a b : List UInt8} (h : str a = str b) : a = b := by
  rw [← str_bytes a, h, str_bytes]
theorem str_list (s : ByteArray) : str s.data.toList = s := by cases s; simp [str]
theorem str_size (l : List UInt8) : (str l).size = l.length := by simp [str, ByteArray.size]
theorem bytes_length (s : ByteArray) : s.data.toList.length = s.size := by rw [Array.length_toList]; rfl
theorem str_append (a b : List UInt8) : str a ++ str b = str (a ++ b) := by
  apply ByteArray.ext
  rw [ByteArray.data_append]
  simp [str]
theorem append_bytes (a b : ByteArray) : (a ++ b).data.toList = a.data.toList ++ b.data.toList := by
  rw [ByteArray.data_append]; simp
/-- a number in decimal -/
def dec (n : Int) : ByteArray := str (Lib.itoa n)
theorem digit_of {u : Nat} (h : u < 10) : Lib.digitVal (UInt8.ofNat (48 + u)) = some u := by
  have e : (UInt8.ofNat (48 + u)).toNat = 48 + u := by simp; omega
  unfold Lib.digitVal
  rw [e, if_pos (by omega)]
  congr 1; omega
theorem decFrom_append : ∀ (a b : List UInt8) (n : Nat), Lib.decFrom n (a ++ b) = (Lib.decFrom n a).bind fun m => Lib.decFrom m b
  | [], b, n => by simp [Lib.decFrom]
  | x :: a, b, n => by
    simp only [List.cons_append, Lib.decFrom]
    cases Lib.digitVal x with
    | none => rfl
    | some d => exact decFrom_append a b _
theorem decFrom_digits (u : Nat) : Lib.decFrom 0 (Lib.decDigits u) = some u := by
  induction u using Nat.strongRecOn with
  | _ u ih =>
    by_cases h : u < 10
    · rw [Lib.decDigits_one h]
      simp only [Lib.decFrom, digit_of h]
      simp
    · rw [Lib.decDigits, dif_neg h, decFrom_append, ih (u / 10) (by omega)]
      simp only [Option.bind_some, Lib.decFrom, digit_of (Nat.mod_lt u (by decide : 0 < 10))]
      congr 1; omega
theorem decDigits_digit (u : Nat) : ∀ b ∈ Lib.decDigits u, 48 ≤ b.toNat ∧ b.toNat ≤ 57 := by
  induction u using Nat.strongRecOn with
  | _ u ih =>
    intro b hb
    have e : ∀ k, k < 10 → (UInt8.ofNat (48 + k)).toNat = 48 + k := fun k hk => by simp; omega
    by_cases h : u < 10
    · rw [Lib.decDigits_one h] at hb
      obtain rfl : b = UInt8.ofNat (48 + u) := by simpa using hb
      rw [e u h]; omega
    · rw [Lib.decDigits, dif_neg h] at hb
      rcases List.mem_append.1 hb with hb | hb
      · exact ih (u / 10) (by omega) b hb
      · obtain rfl : b = UInt8.ofNat (48 + u % 10) := by simpa using hb
        rw [e _ (Nat.mod_lt _ (by decide))]
        have := Nat.mod_lt u (by decide : 0 < 10)
        omega
theorem nDigits_le : ∀ (k u : Nat), u < 10 ^ (k + 1) → Lib.nDigits u ≤ k + 1
  | 0, u, h => by rw [Lib.nDigits_small (by simpa using h)]; exact Nat.le_refl _
  | k + 1, u, h => by
    by_cases h10 : u < 10
    · rw [Lib.nDigits_small h10]; omega
    · rw [Lib.nDigits_big h10]
      have := nDigits_le k (u / 10) (by rw [Nat.pow_succ] at h; omega)
      omega
theorem decDigits_ne (u : Nat) : Lib.decDigits u ≠ [] := by
  have := Lib.decDigits_length u
  have h1 := Lib.nDigits_pos u
  intro h
  rw [h] at this
  simp at this; omega
theorem decDigits_le {u k : Nat} (h : u < 10 ^ (k + 1)) : (Lib.decDigits u).length ≤ k + 1 := by rw [Lib.decDigits_length]; exact nDigits_le k u h
theorem itoa_nat (u : Nat) : Lib.itoa (u : Int) = Lib.decDigits u := by
  unfold Lib.itoa
  rw [if_neg (by omega)]; simp
theorem itoa_neg {u : Nat} (h : 0 < u) : Lib.itoa (-(u : Int)) = 45 :: Lib.decDigits u := by
  unfold Lib.itoa
  rw [if_pos (by omega)]; simp
theorem int_cases (n : Int) : (∃ u : Nat, n = u) ∨ ∃ u : Nat, 0 < u ∧ n = -(u : Int) := by
  rcases Int.lt_or_le n 0 with h | h
  · exact .inr ⟨n.natAbs, by omega, by omega⟩
  · exact .inl ⟨n.toNat, by omega⟩
theorem itoa_byte (n : Int) : ∀ b ∈ Lib.itoa n, b = 45 ∨ (48 ≤ b.toNat ∧ b.toNat ≤ 57) := by
  rcases int_cases n with ⟨u, rfl⟩ | ⟨u, hu, rfl⟩
  · rw [itoa_nat]; exact fun b hb => .inr (decDigits_digit u b hb)
  · rw [itoa_neg hu]
    intro b hb
    rcases List.mem_cons.1 hb with h | h
    · exact .inl h
    · exact .inr (decDigits_digit u b h)
theorem itoa_len {n : Int} (h : -9223372036854775808 ≤ n) (h' : n ≤ 9223372036854775807) : 1 ≤ (Lib.itoa n).length ∧ (Lib.itoa n).length ≤ 20 := by
  have key : ∀ u : Nat, u ≤ 9223372036854775808 → 1 ≤ (Lib.decDigits u).length ∧ (Lib.decDigits u).length ≤ 19 := fun u hu =>
    ⟨List.length_pos_iff.2 (decDigits_ne u), decDigits_le (k := 18) (by omega)⟩
  rcases int_cases n with ⟨u, rfl⟩ | ⟨u, hu, rfl⟩
  · rw [itoa_nat]; have := key u (by omega); omega
  · rw [itoa_neg hu]; have := key u (by omega); simp only [List.length_cons]; omega
theorem dec_size {n : Int} (h : -9223372036854775808 ≤ n) (h' : n ≤ 9223372036854775807) : 1 ≤ (dec n).size ∧ (dec n).size ≤ 20 := by
  unfold dec; rw [str_size]; exact itoa_len h h'
theorem decFrom_ge : ∀ (l : List UInt8) (a u : Nat), Lib.decFrom a l = some u → a ≤ u
  | [], a, u, h => by simp only [Lib.decFrom, Option.some.injEq] at h; omega
  | c :: l, a, u, h => by
    simp only [Lib.decFrom] at h
    cases hc : Lib.digitVal c with
    | none => rw [hc] at h; cases h
    | some d => rw [hc] at h; have := decFrom_ge l _ u h; omega
theorem parseUintM_of : ∀ (l : List UInt8) (M a u : Nat), M < 18446744073709551616 → Lib.decFrom a l = some u → u ≤ M → Lib.parseUintM M a l = .ok u
  | [], M, a, u, hM, h, hu => by simp only [Lib.decFrom, Option.some.injEq] at h; rw [h]; rfl
  | c :: l, M, a, u, hM, h, hu => by
    simp only [Lib.decFrom] at h
    cases hc : Lib.digitVal c with
    | none => rw [hc] at h; cases h
    | some d =>
      rw [hc] at h
      have hd : (48 ≤ c.toNat ∧ c.toNat ≤ 57) ∧ c.toNat - 48 = d := by
        unfold Lib.digitVal at hc
        split at hc
        · exact ⟨by assumption, Option.some.inj hc⟩
        · cases hc
      have hge := decFrom_ge l _ u h
      simp only [Lib.parseUintM]
      rw [if_pos hd.1, if_neg (by omega), hd.2, if_neg (by omega)]
      exact parseUintM_of l M _ u hM h hu
theorem parse_digits (u : Nat) (h : u < 18446744073709551616) : Lib.parseUintB 64 (Lib.decDigits u) = .ok u := by
  unfold Lib.parseUintB
  rw [if_neg (decDigits_ne u)]
  exact parseUintM_of _ _ 0 u (by decide) (decFrom_digits u) (by omega)
/-- what is written in decimal is read again -/
theorem parse_itoa {n : Int} (h : -9223372036854775808 ≤ n) (h' : n ≤ 9223372036854775807) : Lib.parseIntB 64 (Lib.itoa n) = .ok n := by
  rcases int_cases n with ⟨u, rfl⟩ | ⟨u, hu, rfl⟩
  · rw [itoa_nat]
    obtain ⟨c, r, hc⟩ := List.exists_cons_of_ne_nil (decDigits_ne u)
    have hd := decDigits_digit u c (by rw [hc]; simp)
    have hp := parse_digits u (by omega)
    rw [hc] at hp ⊢
    unfold Lib.parseIntB
    simp only
    rw [if_neg (by omega), hp]
    simp only
    rw [if_neg (by have : ¬ (2 ^ (64 - 1) ≤ u) := by omega
                   exact fun x => this x.2), if_neg (fun x => by omega), if_neg (by omega)]
  · rw [itoa_neg hu]
    have hp := parse_digits u (by omega)
    unfold Lib.parseIntB
    simp only
    rw [if_pos (.inr (by decide)), hp]
    simp only
    rw [if_neg (fun x => x.1 (by decide)), if_neg (by have : ¬ (2 ^ (64 - 1) < u) := by omega
                                                      exact fun x => this x.2), if_pos (by decide)]
/-- the reference's reading of a number of at most thirteen digits -/
def value (l : List UInt8) : Int × Bool :=
  if 1 ≤ l.length ∧ l.length ≤ 13 then
    match Lib.decFrom 0 l with
    | some u => ((u : Int), decide (Lib.decDigits u = l))
    | none => (0, false)
  else (0, false)
def signed (l : List UInt8) : Int × Bool :=
  if l.head? = some 45 then (-(value l.tail).1, (value l.tail).2 && decide (0 < (value l.tail).1)) else value l
theorem value_bound (l : List UInt8) : 0 ≤ (value l).1 ∧ (value l).1 < 10000000000000 := by
  unfold value
  split
  · rename_i hl
    split
    · rename_i u hu
      have := Lib.decFrom_lt l 0 u hu
      have h13 : 10 ^ l.length ≤ 10 ^ 13 := Nat.pow_le_pow_right (by decide) hl.2
      have : u < 10 ^ 13 := by omega
      exact ⟨Int.natCast_nonneg _, by simp only; omega⟩
    · simp
  · simp
theorem value_digits {u : Nat} (h : u < 10000000000000) : value (Lib.decDigits u) = ((u : Int), true) := by
  unfold value
  rw [if_pos ⟨List.length_pos_iff.2 (decDigits_ne u), decDigits_le (k := 12) (by omega)⟩, decFrom_digits]
  simp
theorem signed_itoa {n : Int} (h : -10000000000000 < n) (h' : n < 10000000000000) : signed (Lib.itoa n) = (n, true) := by
  rcases int_cases n with ⟨u, rfl⟩ | ⟨u, hu, rfl⟩
  · rw [itoa_nat]
    unfold signed
    rw [if_neg (fun e => ?_), value_digits (by omega)]
    have := decDigits_digit u 45 (List.mem_of_mem_head? e)
    simp at this
  · rw [itoa_neg hu]
    unfold signed
    rw [if_pos (by simp)]
    have hv := value_digits (u := u) (by omega)
    simp only [List.tail_cons, hv]
    simp [hu]
end Go.Z
end
section
namespace Go.Z
def joinB (c : UInt8) : List (List UInt8) → List UInt8
  | [] => []
  | [p] => p
  | p :: q :: r => p ++ c :: joinB c (q :: r)
/-- the pieces between the bytes c -/
def splitC (c : UInt8) : List UInt8 → List (List UInt8)
  | [] => [[]]
  | b :: l => if b = c then [] :: splitC c l else
    match splitC c l with
    | [] => [[b]]
    | p :: r => (b :: p) :: r
theorem splitC_ne (c : UInt8) : ∀ l, splitC c l ≠ []
  | [] => by simp [splitC]
  | b :: l => by
    unfold splitC
    split
    · simp
    · split <;> simp
theorem splitC_len (c : UInt8) : ∀ l, (splitC c l).length ≤ l.length + 1
  | [] => by simp [splitC]
  | b :: l => by
    have := splitC_len c l
    unfold splitC
    split
    · simp; omega
    · split
      · simp
      · rename_i p r h; rw [h] at this; simp at this ⊢; omega
theorem splitC_piece {c : UInt8} : ∀ {l : List UInt8}, c ∉ l → splitC c l = [l]
  | [], _ => rfl
  | b :: l, h => by
    have h1 : ¬ (b = c) := fun e => h (by rw [e]; exact List.mem_cons_self ..)
    have ih := splitC_piece (c := c) (l := l) (fun x => h (List.mem_cons_of_mem _ x))
    unfold splitC
    rw [if_neg h1, ih]
theorem splitC_cut {c : UInt8} (t : List UInt8) : ∀ {l : List UInt8}, c ∉ l → splitC c (l ++ c :: t) = l :: splitC c t
  | [], _ => by simp [splitC]
  | b :: l, h => by
    have h1 : ¬ (b = c) := fun e => h (by rw [e]; exact List.mem_cons_self ..)
    have ih := splitC_cut (c := c) t (l := l) (fun x => h (List.mem_cons_of_mem _ x))
    simp only [List.cons_append]
    rw [splitC, if_neg h1, ih]
theorem splitC_join {c : UInt8} : ∀ {ps : List (List UInt8)}, ps ≠ [] → (∀ p ∈ ps, c ∉ p) → splitC c (joinB c ps) = ps
  | [], h, _ => absurd rfl h
  | [p], _, h => splitC_piece (h p (by simp))
  | p :: q :: r, _, h => by
    unfold joinB
    rw [splitC_cut _ (h p (by simp)), splitC_join (by simp) (fun x hx => h x (List.mem_cons_of_mem _ hx))]
/-- the first place of a byte -/
theorem index_hit {c : UInt8} (t : List UInt8) : ∀ {l : List UInt8}, c ∉ l → Lib.index (l ++ c :: t) [c] = l.length
  | [], _ => by simp [Lib.index, List.isPrefixOf]
  | b :: l, h => by
    have h1 : ¬ (c = b) := fun e => h (by rw [e]; exact List.mem_cons_self ..)
    have ih := index_hit (c := c) t (l := l) (fun x => h (List.mem_cons_of_mem _ x))
    simp only [List.cons_append]
    unfold Lib.index
    rw [ih]
    have h2 : ([c].isPrefixOf (b :: (l ++ c :: t))) = false := by simp [List.isPrefixOf, h1]
    rw [h2]
    have h3 : (((l.length : Nat) : Int) == -1) = false := by rw [beq_eq_false_iff_ne]; omega
    rw [h3]
    simp
theorem index_miss {c : UInt8} : ∀ {l : List UInt8}, c ∉ l → Lib.index l [c] = -1
  | [], _ => by simp [Lib.index]
  | b :: l, h => by
    have h1 : ¬ (c = b) := fun e => h (by rw [e]; exact List.mem_cons_self ..)
    have ih := index_miss (c := c) (l := l) (fun x => h (List.mem_cons_of_mem _ x))
    unfold Lib.index
    rw [ih]
    have h2 : ([c].isPrefixOf (b :: l)) = false := by simp [List.isPrefixOf, h1]
    rw [h2]
    simp
theorem cut_at (c : UInt8) (l : List UInt8) : c ∉ l ∨ ∃ a t, l = a ++ c :: t ∧ c ∉ a := by
  induction l with
  | nil => exact .inl (by simp)
  | cons b l ih =>
    by_cases hb : b = c
    · exact .inr ⟨[], l, by simp [hb], by simp⟩
    · rcases ih with h | ⟨a, t, rfl, h⟩
      · exact .inl (by simp only [List.mem_cons, not_or]; exact ⟨fun e => hb e.symm, h⟩)
      · exact .inr ⟨b :: a, t, rfl, by simp only [List.mem_cons, not_or]; exact ⟨fun e => hb e.symm, h⟩⟩
theorem cut_hit {c : UInt8} {a t : List UInt8} (h : c ∉ a) : Lib.cut (a ++ c :: t) [c] = (a, t, true) := by
  unfold Lib.cut
  rw [index_hit t h, if_pos (by omega)]
  simp
theorem cut_miss {c : UInt8} {l : List UInt8} (h : c ∉ l) : Lib.cut l [c] = (l, [], false) := by
  unfold Lib.cut
  rw [index_miss h, if_neg (by decide)]
theorem splitK_C (c : UInt8) : ∀ (fuel : Nat) (l : List UInt8), l.length < fuel → Lib.splitK [c] 0 (Lib.countFrom [c] fuel l) l = splitC c l
  | 0, l, h => absurd h (by omega)
  | fuel + 1, l, h => by
    unfold Lib.countFrom
    rcases cut_at c l with hm | ⟨a, t, rfl, ha⟩
    · rw [index_miss hm, splitC_piece hm]; simp [Lib.splitK]
    · have h1 : ((Lib.index (a ++ c :: t) [c]) == -1) = false := by rw [index_hit t ha, beq_eq_false_iff_ne]; omega
      rw [h1, splitC_cut t ha]
      simp only [Bool.false_eq_true, if_false]
      rw [Nat.add_comm 1]
      unfold Lib.splitK
      rw [h1]
      simp only [Bool.false_eq_true, if_false]
      rw [index_hit t ha]
      have e1 : (a ++ c :: t).drop ((((a.length : Nat) : Int)).toNat + [c].length) = t := by simp
      have e2 : (a ++ c :: t).take ((((a.length : Nat) : Int)).toNat + 0) = a := by simp
      rw [e1, e2, splitK_C c fuel t (by simp at h; omega)]
theorem split_C (c : UInt8) (l : List UInt8) : Lib.split l [c] = splitC c l := splitK_C c (l.length + 1) l (Nat.lt_succ_self _)
end Go.Z
end
section
namespace Go.Proofs.YtbloldnmlhhbhaaDoor
open Go.RowKit
theorem info_int : (Tryd.prog.info? 2).map (fun i => (i.zero, i.size, i.bytes)) = some (some (.int .i64 0), 1, 8) := by kernel_rfl
set_option maxHeartbeats 400000 in
theorem eqInt64S_same (xs : List Int) (lo hi lo' hi' : Nat) (v v' : Value) (w : World) (hm : xs.length ≤ 1048576) (h : K.ints w lo hi v xs) (h' : K.ints w lo' hi' v' xs) :
    Calls Tryd.prog 24 #[v, v'] w fun e w' => e = .returned (.bool true) ∧ K.Ext w w' := by
  obtain ⟨o, cap, rfl, h⟩ := h
  obtain ⟨o', cap', rfl, h'⟩ := h'
  go_enter Tryd.func24, Tryd.ntmps24
  go_wp2
  go_loopw [5] (fun i wr => ∃ k : Nat, k ≤ xs.length ∧ i = .int .i64 k ∧ Hid (K.Ext w wr)) (fun i _ => xs.length - (intOf i).toNat)
  case atStart => exact ⟨0, Nat.zero_le _, rfl, Z.hide (K.Ext.refl _)⟩
  case round =>
    obtain ⟨k, hk, rfl, HX⟩ := hrel
    by_cases hlt : k < xs.length
    · obtain ⟨b, off, rfl, _, _, hc⟩ := h (by intro h0; simp [h0] at hlt)
      obtain ⟨b', off', rfl, _, _, hc'⟩ := h' (by intro h0; simp [h0] at hlt)
      have hck := HX.out.cell_of (hc k hlt)
      have hck' := HX.out.cell_of (hc' k hlt)
      clear hc hc' h h'
      generalize xs.getD k 0 = x at *
      have i0 : (0 : Int) ≤ (k : Int) := Int.natCast_nonneg k
      have i1 : (k : Int) < (xs.length : Int) := by omega
      go_wp2_with fail
      refine K.wp_region_ext (by kernel_rfl) (by kernel_rfl) ?_
      apply K.qcons
      · rfl
      · intro w' hw'; have hc := hw'.all.1.1; have hf := hw'.all.1.2; have hc' := hw'.all.2.1; have hf' := hw'.all.2.2; unfold Oper.quietAt; go_simp; first | done | rfl | exact ⟨rfl, rfl⟩
      simp only [Act.put, List.setIfInBounds_toArray, List.set]
      apply K.qcons
      · rfl
      · intro w' hw'; have hc := hw'.all.1.1; have hf := hw'.all.1.2; have hc' := hw'.all.2.1; have hf' := hw'.all.2.2; unfold Oper.quietAt; go_simp; first | done | rfl | exact ⟨rfl, rfl⟩
      simp only [Act.put, List.setIfInBounds_toArray, List.set]
      apply K.qcons
      · rfl
      · intro w' hw'; have hc := hw'.all.1.1; have hf := hw'.all.1.2; have hc' := hw'.all.2.1; have hf' := hw'.all.2.2; unfold Oper.quietAt; go_simp; first | done | rfl | exact ⟨rfl, rfl⟩
      simp only [Act.put, List.setIfInBounds_toArray, List.set]
      apply K.qcons
      · rfl
      · intro w' hw'; have hc := hw'.all.1.1; have hf := hw'.all.1.2; have hc' := hw'.all.2.1; have hf' := hw'.all.2.2; unfold Oper.quietAt; go_simp; first | done | rfl | exact ⟨rfl, rfl⟩
      simp only [Act.put, List.setIfInBounds_toArray, List.set]
      apply K.qcons
      · rfl
      · intro w' hw'; have hc := hw'.all.1.1; have hf := hw'.all.1.2; have hc' := hw'.all.2.1; have hf' := hw'.all.2.2; unfold Oper.quietAt; go_simp; first | done | rfl | exact ⟨rfl, rfl⟩
      simp only [Act.put, List.setIfInBounds_toArray, List.set]
      apply K.qcons
      · rfl
      · intro w' hw'; have hc := hw'.all.1.1; have hf := hw'.all.1.2; have hc' := hw'.all.2.1; have hf' := hw'.all.2.2; unfold Oper.quietAt; go_simp; first | done | rfl | exact ⟨rfl, rfl⟩
      simp only [Act.put, List.setIfInBounds_toArray, List.set]
      apply K.qcons
      · rfl
      · intro w' hw'; have hc := hw'.all.1.1; have hf := hw'.all.1.2; have hc' := hw'.all.2.1; have hf' := hw'.all.2.2; unfold Oper.quietAt; go_simp; first | done | rfl | exact ⟨rfl, rfl⟩
      simp only [Act.put, List.setIfInBounds_toArray, List.set]
      apply K.qcons
      · rfl
      · intro w' hw'; have hc := hw'.all.1.1; have hf := hw'.all.1.2; have hc' := hw'.all.2.1; have hf' := hw'.all.2.2; unfold Oper.quietAt; go_simp; first | done | rfl | exact ⟨rfl, rfl⟩
      simp only [Act.put, List.setIfInBounds_toArray, List.set]
      apply K.qcons
      · rfl
      · intro w' hw'; have hc := hw'.all.1.1; have hf := hw'.all.1.2; have hc' := hw'.all.2.1; have hf' := hw'.all.2.2; unfold Oper.quietAt; go_simp; first | done | exact K.vint (IntWalk.i64_in _ (by omega)) | rfl | exact ⟨rfl, rfl⟩
      simp only [Act.put, List.setIfInBounds_toArray, List.set]
      refine wpQuiet_nil ?_
      intro w1 hx1
      obtain ⟨⟨hcw1, hfw1⟩, hc'w1, hf'w1⟩ := hx1.all
      go_wp2
      go_roundw
      case rel => exact ⟨k + 1, by omega, by go_num, Z.hide (HX.out.trans (by first | exact hx1 | exact hx1.drew))⟩
      case measure => simp [intOf]; omega
    · obtain rfl : k = xs.length := by omega
      go_wp2
      go_ret
      exact ⟨rfl, HX.out⟩
set_option maxHeartbeats 400000 in
theorem markInt64S_any (xs : List Int) (lo hi : Nat) (v : Value) (s : Int) (w : World) (hm : xs.length ≤ 1048576) (h0 : 0 ≤ s) (h1 : s ≤ 1000000000000000000) (h : K.own w lo hi v xs) :
    Calls Tryd.prog 36 #[v, .int .i64 s] w fun e w' => (e = .returned (.int .i64 (s + xs.length)) ∧ K.own w' lo hi v (Z.marks s xs.length)) ∧ K.Far lo hi w w' := by
  obtain ⟨o, cap, rfl, h⟩ := h
  go_enter Tryd.func36, Tryd.ntmps36
  go_wp2
  go_loopw [1, 5] (fun j i wr => ∃ k : Nat, k ≤ xs.length ∧ i = .int .i64 k ∧ j = .int .i64 (s + k) ∧ Hid (K.Far lo hi w wr) ∧
      Hid (∀ b off, o = some ⟨b, off, none⟩ → ∃ ys : List Int, ys.length = xs.length ∧ ys.take k = (Z.marks s xs.length).take k ∧ (∀ i, i < xs.length → wr.cell? ⟨b, off + i, none⟩ = some (.int .i64 (ys.getD i 0))) ∧ (∀ i, i < xs.length → wr.frozen? ⟨b, off + i, none⟩ = false))) (fun _ i _ => xs.length - (intOf i).toNat)
  case atStart => exact ⟨0, Nat.zero_le _, rfl, by simp, Z.hide (K.Far.refl _ _ _), Z.hide (fun b off ho => by
      by_cases hn : xs = []
      · subst hn; exact ⟨[], rfl, rfl, fun i hi => absurd hi (by simp), fun i hi => absurd hi (by simp)⟩
      · obtain ⟨b', off', ho', _, _, hc, hf⟩ := h hn
        rw [ho'] at ho
        obtain ⟨rfl, rfl⟩ : b' = b ∧ off' = off := by simpa using ho
        exact ⟨xs, rfl, rfl, hc, hf⟩)⟩
  case round =>
    obtain ⟨k, hk, rfl, rfl, HX, HY⟩ := hrel
    by_cases hlt : k < xs.length
    · obtain ⟨b, off, rfl, hb1, hb2, _, _⟩ := h (by intro h0; simp [h0] at hlt)
      obtain ⟨ys, hy1, hy2, hc, hf⟩ := HY.out b off rfl
      have hck := hc k hlt
      have hfk := hf k hlt
      have HS := Z.hide (K.row_set (x := s + k) hy1 hlt hc)
      have HT := Z.hide (Z.take_set_eq (Z.marks s xs.length) ys k (by rw [hy1, Z.marks_length]) (by rw [Z.marks_length]; exact hlt) hy2)
      have HL := Z.hide hy1
      have HF := Z.hide hf
      have HB := Z.hide (And.intro hb1 hb2)
      clear hc hf hy1 hy2 h hb1 hb2
      generalize ys.getD k 0 = y at *
      go_wp2
      go_roundw
      case rel => exact ⟨k + 1, by omega, by go_num, by go_num, Z.hide (HX.out.setCell HB.out.1 HB.out.2 _), Z.hide (fun b' off' ho => by
          obtain ⟨rfl, rfl⟩ : b = b' ∧ off = off' := by simpa using ho
          exact ⟨ys.set k (s + k), by simpa using HL.out, by have := HT.out; rwa [Z.marks_get _ _ _ hlt] at this, HS.out, fun i hi => by rw [World.frozen?_setCell]; exact HF.out i hi⟩)⟩
      case measure => simp [intOf]; omega
    · obtain rfl : k = xs.length := by omega
      have HO : Hid (K.own wr lo hi (.slice o xs.length cap) (Z.marks s xs.length)) := by
        refine ⟨o, cap, by rw [Z.marks_length], fun hn => ?_⟩
        have hn' : xs ≠ [] := by intro h0; subst h0; exact hn rfl
        obtain ⟨b, off, rfl, hb1, hb2, _, _⟩ := h hn'
        obtain ⟨ys, hy1, hy2, hc, hf⟩ := HY.out b off rfl
        obtain rfl : ys = Z.marks s xs.length := by
          rw [← List.take_length (l := ys), hy1, hy2, List.take_of_length_le (by rw [Z.marks_length]; exact Nat.le_refl _)]
        exact ⟨b, off, rfl, hb1, hb2, by rw [Z.marks_length]; exact hc, by rw [Z.marks_length]; exact hf⟩
      clear h
      go_wp2
      go_ret
      exact ⟨⟨rfl, HO.out⟩, HX.out⟩
set_option maxHeartbeats 400000 in
theorem heldInt64S_any (n : Nat) (lo hi : Nat) (v : Value) (s : Int) (w : World) (hm : n ≤ 1048576) (h0 : 0 ≤ s) (h1 : s ≤ 1000000000000000000) (h : K.ints w lo hi v (Z.marks s n)) :
    Calls Tryd.prog 37 #[v, .int .i64 s] w fun e w' => e = .returned (.int .i64 (s + n)) ∧ w = w' := by
  obtain ⟨o, cap, rfl, h⟩ := h
  rw [Z.marks_length]
  go_enter Tryd.func37, Tryd.ntmps37
  go_wp2
  go_loop [1, 5] (fun j i => ∃ k : Nat, k ≤ n ∧ i = .int .i64 k ∧ j = .int .i64 (s + k)) (fun _ i => n - (intOf i).toNat)
  case atStart => exact ⟨0, Nat.zero_le _, rfl, by simp⟩
  case round =>
    obtain ⟨k, hk, rfl, rfl⟩ := hrel
    by_cases hlt : k < n
    · obtain ⟨b, off, rfl, _, _, hc⟩ := h (by intro h0; have := congrArg List.length h0; rw [Z.marks_length] at this; simp at this; omega)
      have hck := hc k (by rw [Z.marks_length]; exact hlt)
      rw [Z.marks_get _ _ _ hlt] at hck
      clear hc h
      go_wp2
      go_round
      case rel => exact ⟨k + 1, by omega, by go_num, by go_num⟩
      case measure => simp [intOf]; omega
    · obtain rfl : k = n := by omega
      clear h
      go_wp2
      go_ret
      exact ⟨rfl, rfl⟩
end Go.Proofs.YtbloldnmlhhbhaaDoor
end
section
namespace Go.K
open Go.RowKit
theorem u8_in {m : Nat} (h : m < 26) : IntKind.u8.wrap (97 + (m : Int) - 97) = (m : Int) := by
  simp [IntKind.wrap, IntKind.bits, IntKind.signed]
  omega
theorem row_ext {w w' : World} {base : Nat} {e : TypeId} {size n : Nat} {v : Value} {xs : List Value} (h : w.ownsRow base e size v n xs) (hx : Ext w w') : w'.ownsRow base e size v n xs :=
  ⟨h.1, h.2.imp id (fun ⟨g, cap, cur, hv, hb, hg, r⟩ => ⟨g, cap, cur, hv, hb, hx.block hg, r⟩)⟩
end Go.K
namespace Go.Proofs.YtbloldnmlhhbhaaDoor
open Go.RowKit
end Go.Proofs.YtbloldnmlhhbhaaDoor
end
section
namespace Go.K
open Go.RowKit
theorem block_new {w : World} {g : Nat} {o : Obj} (hg : g = w.heap.size) : (w.alloc o).heap[g]? = some o := by subst hg; exact heap_alloc_new w o
end Go.K
namespace Go.Proofs.YtbloldnmlhhbhaaDoor
open Go.RowKit
end Go.Proofs.YtbloldnmlhhbhaaDoor
end
section
namespace Go.Z
theorem joinB_snoc' (c : UInt8) (p : List UInt8) : ∀ {ps : List (List UInt8)}, ps ≠ [] → joinB c (ps ++ [p]) = joinB c ps ++ c :: p
  | [], h => absurd rfl h
  | [q], _ => by simp [joinB]
  | q :: r :: t, _ => by
    have := joinB_snoc' c p (ps := r :: t) (by simp)
    simp only [List.cons_append, joinB, List.append_assoc] at this ⊢
    rw [this]
theorem joinB_ne {c : UInt8} : ∀ {ps : List (List UInt8)}, ps ≠ [] → (∀ p ∈ ps, p ≠ []) → joinB c ps ≠ []
  | [], h, _ => absurd rfl h
  | [q], _, h => by simpa [joinB] using h
  | q :: r :: t, _, _ => by simp [joinB]
def baseB (k : Nat) : UInt8 := [109, 103, 115, 65].getD k 0
theorem base_ext {k : Nat} (h : k < 4) : (⟨#[109, 103, 115, 65]⟩ : ByteArray).extract k (k + 1) = str [baseB k] := by
  match k, h with
  | 0, _ => rfl
  | 1, _ => rfl
  | 2, _ => rfl
  | 3, _ => rfl
/-- a base unit with its exponent -/
def uPart (k : Nat) (n : Int) : List UInt8 := baseB k :: (if n == 1 then [] else Lib.itoa n)
def uParts (u : List Int) : Nat → List (List UInt8)
  | 0 => []
  | k + 1 => if u.getD k 0 == 0 then uParts u k else uParts u k ++ [uPart k (u.getD k 0)]
theorem uParts_ne (u : List Int) : ∀ k, ∀ p ∈ uParts u k, p ≠ []
  | 0, p, hp => by cases hp
  | k + 1, p, hp => by
    unfold uParts at hp
    split at hp
    · exact uParts_ne u k p hp
    · rcases List.mem_append.1 hp with h | h
      · exact uParts_ne u k p h
      · obtain rfl := List.mem_singleton.1 h
        simp [uPart]
theorem uParts_len (u : List Int) : ∀ k, (uParts u k).length ≤ k
  | 0 => by simp [uParts]
  | k + 1 => by
    have := uParts_len u k
    unfold uParts
    split
    · omega
    · simp; omega
theorem uPart_len {k : Nat} {n : Int} (h : -1000000 ≤ n) (h' : n ≤ 1000000) : (uPart k n).length ≤ 21 := by
  have := (itoa_len (n := n) (by omega) (by omega)).2
  unfold uPart
  split <;> simp <;> omega
theorem uJoin_len (u : List Int) (h : ∀ k, -1000000 ≤ u.getD k 0 ∧ u.getD k 0 ≤ 1000000) : ∀ k, (joinB 46 (uParts u k)).length ≤ 22 * k
  | 0 => by simp [uParts, joinB]
  | k + 1 => by
    have ih := uJoin_len u h k
    have hl := uPart_len (k := k) (h k).1 (h k).2
    unfold uParts
    split
    · omega
    · by_cases hp : uParts u k = []
      · rw [hp]; simp only [List.nil_append, joinB]; omega
      · rw [joinB_snoc' _ _ hp, List.length_append, List.length_cons]; omega
def unitText (u : List Int) : ByteArray := if uParts u 4 = [] then str [49] else str (joinB 46 (uParts u 4))
theorem intercalate_join (c : UInt8) : ∀ ps : List (List UInt8), Lib.join ps [c] = joinB c ps
  | [] => rfl
  | [p] => by simp [Lib.join, joinB, List.intercalate]
  | p :: q :: r => by
    have ih := intercalate_join c (q :: r)
    unfold Lib.join at ih ⊢
    unfold joinB
    rw [← ih]
    simp [List.intercalate, List.intersperse]
theorem uPart_one {k : Nat} {n : Int} (h : (n == 1) = true) : uPart k n = [baseB k] := by unfold uPart; rw [if_pos h]
theorem uPart_other {k : Nat} {n : Int} (h : (n == 1) = false) : uPart k n = baseB k :: Lib.itoa n := by unfold uPart; rw [if_neg (by rw [h]; exact Bool.false_ne_true)]
/-- one step of the text -/
theorem uText_zero {u : List Int} {k : Nat} (h : (u.getD k 0 == 0) = true) : uParts u (k + 1) = uParts u k := by rw [uParts, if_pos h]
theorem uText_next {u : List Int} {k : Nat} (h : (u.getD k 0 == 0) = false) : uParts u (k + 1) = uParts u k ++ [uPart k (u.getD k 0)] := by rw [uParts, if_neg (by rw [h]; exact Bool.false_ne_true)]
theorem uStr_first {u : List Int} {k : Nat} {S : ByteArray} (h : (u.getD k 0 == 0) = false) (hS : S = str (joinB 46 (uParts u k))) (hp : uParts u k = []) :
    str (joinB 46 (uParts u (k + 1))) = if u.getD k 0 == 1 then S ++ str [baseB k] else S ++ str [baseB k] ++ dec (u.getD k 0) := by
  rw [uText_next h, hS, hp]
  unfold dec
  split
  · rename_i h1; rw [str_append, uPart_one h1]; rfl
  · rename_i h1; rw [str_append, str_append, uPart_other (by simpa only [Bool.not_eq_true] using h1)]; rfl
theorem uStr_more {u : List Int} {k : Nat} {S : ByteArray} (h : (u.getD k 0 == 0) = false) (hS : S = str (joinB 46 (uParts u k))) (hp : uParts u k ≠ []) :
    str (joinB 46 (uParts u (k + 1))) = if u.getD k 0 == 1 then S ++ ⟨#[46]⟩ ++ str [baseB k] else S ++ ⟨#[46]⟩ ++ str [baseB k] ++ dec (u.getD k 0) := by
  rw [uText_next h, hS, joinB_snoc' _ _ hp]
  have e : (⟨#[46]⟩ : ByteArray) = str [46] := rfl
  unfold dec
  rw [e]
  split
  · rename_i h1; rw [str_append, str_append, uPart_one h1]; simp
  · rename_i h1; rw [str_append, str_append, str_append, uPart_other (by simpa only [Bool.not_eq_true] using h1)]; simp
theorem uStr_empty {u : List Int} {k : Nat} {S : ByteArray} (hS : S = str (joinB 46 (uParts u k))) : S.toList.isEmpty = decide (uParts u k = []) := by
  rw [ByteArray.toList_eq, hS, str_bytes]
  by_cases h : uParts u k = []
  · rw [h]; simp [joinB]
  · rw [decide_eq_false h]
    have := joinB_ne (c := 46) h (uParts_ne u k)
    simpa using this
end Go.Z
end
section
namespace Go.K
open Go.RowKit
theorem app_news1 {c : World} {g : Nat} {x : Value} (h : c.cell? ⟨g, 0, none⟩ = some x) : ∀ j u, [x][j]? = some u → c.cell? ((⟨g, 0, none⟩ : Addr).add j) = some u := fun j u hu => by
  cases j with
  | zero => rw [WideShapes.add_plain, Nat.add_zero, h]; simpa using hu
  | succ j => simp at hu
/-- one element, onto a row of one's own -/
theorem step_app1 {P : Program} {w : World} {ops : Array Oper} {o : Oper} {a : Act} {K : Act → World → Prop} {Q : Exit → Act → World → Prop} {E : Prop} (s x : Operand) (t : TypeId) (hgd : o.guard = none)
    (ho : o.op = .call { callee := .builtin .append, args := #[s, x], argTypes := #[t, t] })
    (base : Nat) (e : TypeId) (i : TypeInfo) (z : Value) (bytes : Nat) (ht : P.underlying t = some (.slice e)) (hi : P.info? e = some i) (hz : i.zero = some z) (hsize : i.size = 1) (hby : i.bytes = bytes)
    (v : Value) (n : Nat) (xs : List Value) (hs : a.eval s = v) (hown : w.ownsRow base e 1 v n xs) (hzs : z.cells.size = 1)
    (b : Nat) (X : Value) (hx : a.eval x = .slice (some ⟨b, 0, none⟩) 1 1) (hc : w.cell? ⟨b, 0, none⟩ = some X) (h1 : X.oneCell' = true)
    (h63 : n + 1 ≤ maxLen) (hbytes : (n + 1) * bytes ≤ 140737488355328) (hbase : base ≤ w.heap.size)
    (h : ∀ g cap w', w'.ownsRow base e 1 (.slice (some ⟨g, 0, none⟩) (n + 1) cap) (n + 1) (xs ++ [X]) → w.grownBy w' v.ownBlock → g < w'.heap.size → K (a.put o.dst (.slice (some ⟨g, 0, none⟩) (n + 1) cap)) w') :
    if Region.wanted o (yielded ops a.tmps) = true then Oper.wp P o a w K Q else E := by
  obtain ⟨v', w', hr, h2, h3, _, _⟩ := run_append_own_at (P := P) w base t o.type e i z 1 bytes ht hi hz hsize hby hzs (by decide) v n xs hown ⟨b, 0, none⟩ 1 1 [X] rfl (app_news1 hc) (by simpa using h1) h63 hbytes hbase
  obtain ⟨g, cap, rfl, _, hlt⟩ := h2.form (by omega)
  rw [if_pos (by simp [Region.wanted, hgd])]
  unfold Oper.wp execOp
  simp only [ho, resolve, invoke, builtin, Sem.run_bind, Sem.run_pure, Result.andThen_ok, List.map_toArray, List.map_cons, List.map_nil, hs, hx, hr]
  exact h g cap w' h2 h3 hlt
end Go.K
end
section
namespace Go.Proofs.YtbloldnmlhhbhaaDoor
open Go.RowKit
set_option maxHeartbeats 400000 in
theorem spec_IsUnit (xs : List Int) (lo hi : Nat) (v : Value) (w : World) (hm : xs.length ≤ 1048576) (h : K.ints w lo hi v xs) :
    Calls Tryd.prog 57 #[v] w fun e w' => e = .returned (.bool (Z.isUnit xs)) ∧ w = w' := by
  obtain ⟨o, cap, rfl, h⟩ := h
  go_enter Tryd.func57, Tryd.ntmps57
  go_wp2
  go_loop [3] (fun i => ∃ k : Nat, k ≤ xs.length ∧ i = .int .i64 k ∧ Hid ((xs.take k).all Z.in9 = true)) (fun i => xs.length - (intOf i).toNat)
  case atStart => exact ⟨0, Nat.zero_le _, rfl, Z.hide rfl⟩
  case round =>
    obtain ⟨k, hk, rfl, HP⟩ := hrel
    by_cases hlt : k < xs.length
    · obtain ⟨b, off, rfl, _, _, hc⟩ := h (by intro h0; simp [h0] at hlt)
      have hck := hc k hlt
      have HS := Z.hide (Z.all_take_succ (f := Z.in9) xs k hlt)
      have HB := Z.hide (Z.all_bad (f := Z.in9) xs k hlt)
      clear hc h
      generalize xs.getD k 0 = x at *
      cases h1 : (decide (-9 ≤ x) && decide (x ≤ 9))
      · go_wp2_with (go_at_call 82; refine K.call (by with_reducible rfl) (by with_reducible rfl) (l01In_any _ _ _ _) ?_; rintro e w' ⟨rfl, rfl⟩)
        go_ret
        exact ⟨K.rb (by rw [Z.isUnit, HB.out h1]; rfl), rfl⟩
      · go_wp2_with (go_at_call 82; refine K.call (by with_reducible rfl) (by with_reducible rfl) (l01In_any _ _ _ _) ?_; rintro e w' ⟨rfl, rfl⟩)
        go_round
        case rel => exact ⟨k + 1, by omega, by go_num, Z.hide (by rw [HS.out, HP.out]; exact h1)⟩
        case measure => simp [intOf]; omega
    · obtain rfl : k = xs.length := by omega
      rw [List.take_length] at HP
      clear h
      go_wp2
      go_ret
      exact ⟨K.rb (by rw [Z.isUnit, HP.out]; exact Z.nat_beq4 _), rfl⟩
theorem IsUnit1_any (n : Int) (w : World) :
    Calls Tryd.prog 91 #[.int .i64 n] w fun e w' => e = .returned (.bool (!Z.in9 n)) ∧ w = w' := by
  go_enter Tryd.func91, Tryd.ntmps91
  go_wp2_with (go_at_call 78; refine K.call (by with_reducible rfl) (by with_reducible rfl) (within_any _ _ _ _) ?_; rintro e w' ⟨rfl, rfl⟩)
  go_ret
  exact ⟨K.rb (by simp [Z.in9]), rfl⟩
set_option maxHeartbeats 400000 in
theorem IndexFunc_IsUnit1 (xs : List Int) (lo hi : Nat) (v : Value) (w : World) (hm : xs.length ≤ 1048576) (h : K.ints w lo hi v xs) :
    Calls Tryd.prog 106 #[v, .func (.func 91) #[] #[]] w fun e w' => (∃ r : Int, e = .returned (.int .i64 r) ∧ ((Z.allIn xs = true ∧ r = -1) ∨ (Z.allIn xs = false ∧ 0 ≤ r))) ∧ w = w' := by
  obtain ⟨o, cap, rfl, h⟩ := h
  go_enter Tryd.func106, Tryd.ntmps106
  go_wp2
  go_loop [8] (fun i => ∃ k : Nat, k ≤ xs.length ∧ i = .int .i64 k ∧ Hid ((xs.take k).all Z.in9 = true)) (fun i => xs.length - (intOf i).toNat)
  case atStart => exact ⟨0, Nat.zero_le _, rfl, Z.hide rfl⟩
  case round =>
    obtain ⟨k, hk, rfl, HP⟩ := hrel
    by_cases hlt : k < xs.length
    · obtain ⟨b, off, rfl, _, _, hc⟩ := h (by intro h0; simp [h0] at hlt)
      have hck := hc k hlt
      have HS := Z.hide (Z.all_take_succ (f := Z.in9) xs k hlt)
      have HB := Z.hide (Z.all_bad (f := Z.in9) xs k hlt)
      clear hc h
      generalize xs.getD k 0 = x at *
      cases h1 : Z.in9 x
      · go_wp2_with (refine Calls.mono (IsUnit1_any _ _) ?_; rintro e w' ⟨rfl, rfl⟩)
        go_ret
        exact ⟨⟨_, rfl, (.inr ⟨HB.out h1, by omega⟩)⟩, rfl⟩
      · go_wp2_with (refine Calls.mono (IsUnit1_any _ _) ?_; rintro e w' ⟨rfl, rfl⟩)
        go_round
        case rel => exact ⟨k + 1, by omega, by go_num, Z.hide (by rw [HS.out, HP.out]; exact h1)⟩
        case measure => simp [intOf]; omega
    · obtain rfl : k = xs.length := by omega
      rw [List.take_length] at HP
      clear h
      go_wp2
      go_ret
      exact ⟨⟨_, rfl, (.inl ⟨HP.out, rfl⟩)⟩, rfl⟩
theorem ContainsFunc_IsUnit1 (xs : List Int) (lo hi : Nat) (v : Value) (w : World) (hm : xs.length ≤ 1048576) (h : K.ints w lo hi v xs) :
    Calls Tryd.prog 90 #[v, .func (.func 91) #[] #[]] w fun e w' => e = .returned (.bool (!Z.allIn xs)) ∧ w = w' := by
  go_enter Tryd.func90, Tryd.ntmps90
  go_wp2_with (go_at_call 106; refine Calls.mono (IndexFunc_IsUnit1 xs lo hi v _ hm h) ?_; rintro e w' ⟨⟨r, rfl, hr⟩, rfl⟩)
  rcases hr with ⟨h1, rfl⟩ | ⟨h1, h2⟩
  · go_ret
    exact ⟨K.rb (by rw [h1]; rfl), rfl⟩
  · go_ret
    exact ⟨K.rb (by rw [h1]; simpa using h2), rfl⟩
theorem impl_IsUnit (xs : List Int) (lo hi : Nat) (v : Value) (w : World) (hm : xs.length ≤ 1048576) (h : K.ints w lo hi v xs) :
    Calls Tryd.prog 59 #[v] w fun e w' => e = .returned (.bool (Z.isUnit xs)) ∧ w = w' := by
  have h' := h
  obtain ⟨o, cap, rfl, _⟩ := h'
  by_cases h4 : xs.length = 4
  · have h4' : ((xs.length : Int) == 4) = true := by simp; omega
    have H4 := Z.hide h4
    clear h4
    go_enter Tryd.func59, Tryd.ntmps59
    go_wp2_with (go_at_call 90; refine Calls.mono (ContainsFunc_IsUnit1 xs lo hi _ _ hm h) ?_; rintro e w' ⟨rfl, rfl⟩)
    go_ret
    exact ⟨K.rb (by simp [Z.isUnit, Z.allIn, H4.out]), rfl⟩
  · have h4' : ((xs.length : Int) == 4) = false := by simp; omega
    go_enter Tryd.func59, Tryd.ntmps59
    go_wp2_with fail
    go_ret
    exact ⟨K.rb (by simp [Z.isUnit, h4]), rfl⟩
end Go.Proofs.YtbloldnmlhhbhaaDoor
end
section
namespace Go.Proofs.YtbloldnmlhhbhaaDoor
open Go.RowKit
attribute [local go_sem ↓] Go.wp_at_zero Go.wp_at_succ
end Go.Proofs.YtbloldnmlhhbhaaDoor
end
section
namespace Go.Proofs.YtbloldnmlhhbhaaDoor
open Go.RowKit
attribute [local go_sem ↓] Go.wp_at_zero Go.wp_at_succ
end Go.Proofs.YtbloldnmlhhbhaaDoor
end
