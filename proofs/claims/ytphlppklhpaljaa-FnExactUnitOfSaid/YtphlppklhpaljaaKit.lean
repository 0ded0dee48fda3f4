/-
  SMALL HELPERS for the walks' ends; no function of the program in sight.
-/
import Derived.WalkKit
import Derived.Deep.QuietTactic
import Derived.BigQuiet
set_option linter.unusedVariables false
namespace Go.K
open Go.RowKit
theorem ri {k : IntKind} {a b : Int} (h : a = b) : Ending.returned (.int k a) = .returned (.int k b) := by rw [h]
theorem vint {k : IntKind} {a b : Int} (h : a = b) : Value.int k a = Value.int k b := by rw [h]
theorem rb {a b : Bool} (h : a = b) : Ending.returned (.bool a) = .returned (.bool b) := by rw [h]
theorem rii {k l : IntKind} {a b c d : Int} (h : a = b) (g : c = d) : Ending.returned (.tuple #[.int k a, .int l c]) = .returned (.tuple #[.int k b, .int l d]) := by rw [h, g]
theorem riii {k l m : IntKind} {a b c d e f : Int} (h : a = b) (g : c = d) (i : e = f) : Ending.returned (.tuple #[.int k a, .int l c, .int m e]) = .returned (.tuple #[.int k b, .int l d, .int m f]) := by rw [h, g, i]
theorem rbi {l : IntKind} {a b : Bool} {c d : Int} (h : a = b) (g : c = d) : Ending.returned (.tuple #[.bool a, .int l c]) = .returned (.tuple #[.bool b, .int l d]) := by rw [h, g]
/-- Nothing that was there has changed; there may be new blocks. -/
def Ext (W w : World) : Prop := Below W.heap.size W w
theorem Ext.of {W w : World} (h : Below W.heap.size W w) : Ext W w := h
theorem Ext.below {W w : World} (h : Ext W w) : Below W.heap.size W w := h
theorem Ext.refl (W : World) : Ext W W := Below.refl _ _
theorem Ext.id {W w : World} (h : Ext W w) : Ext W w := h
theorem Ext.size {W w : World} (h : Ext W w) : W.heap.size ≤ w.heap.size := h.below.size
theorem Ext.trans {a b c : World} (h : Ext a b) (k : Ext b c) : Ext a c := h.below.trans (k.below.mono h.size)
theorem Ext.drew {W w : World} (h : Ext W w) : Ext W w.drew := h.below.drew
theorem Ext.drewN {W w : World} (h : Ext W w) (n : Nat) : Ext W (w.drewN n) := ⟨h.below.os, h.below.tape, h.below.output, h.below.size, h.below.block⟩
theorem Ext.alloc {W w : World} (h : Ext W w) (o : Obj) : Ext W (w.alloc o) := h.below.alloc h.size o
theorem Ext.setCell {W w : World} (h : Ext W w) {p : Addr} (hp : W.heap.size ≤ p.block) (u : Value) : Ext W (w.setCell p u) := h.below.setCell hp u
theorem Ext.cell {W w : World} (h : Ext W w) {p : Addr} (hp : p.block < W.heap.size) : w.cell? p = W.cell? p := h.below.cell hp
theorem Ext.frozen {W w : World} (h : Ext W w) {p : Addr} (hp : p.block < W.heap.size) : w.frozen? p = W.frozen? p := h.below.frozen hp
theorem World.lt_of_cell {W : World} {p : Addr} (h : (W.cell? p).isSome = true) : p.block < W.heap.size := by
  obtain ⟨v, hv⟩ := Option.isSome_iff_exists.1 h
  exact World.block_lt_of_cell? W p hv
theorem Ext.facts {W w1 : World} (hb : Ext W w1) : (∀ b o, b < W.heap.size → w1.cell? ⟨b, o, none⟩ = W.cell? ⟨b, o, none⟩) ∧ (∀ b o, b < W.heap.size → w1.frozen? ⟨b, o, none⟩ = W.frozen? ⟨b, o, none⟩) :=
  ⟨fun b o h => hb.cell (p := ⟨b, o, none⟩) h, fun b o h => hb.frozen (p := ⟨b, o, none⟩) h⟩
theorem Ext.facts' {W w1 : World} (hb : Ext W w1) : (∀ p, (W.cell? p).isSome = true → w1.cell? p = W.cell? p) ∧ (∀ p, (W.cell? p).isSome = true → w1.frozen? p = W.frozen? p) :=
  ⟨fun p h => hb.cell (World.lt_of_cell h), fun p h => hb.frozen (World.lt_of_cell h)⟩
theorem Ext.all {W w1 : World} (hb : Ext W w1) : ((∀ b o, b < W.heap.size → w1.cell? ⟨b, o, none⟩ = W.cell? ⟨b, o, none⟩) ∧ (∀ b o, b < W.heap.size → w1.frozen? ⟨b, o, none⟩ = W.frozen? ⟨b, o, none⟩)) ∧
    (∀ p, (W.cell? p).isSome = true → w1.cell? p = W.cell? p) ∧ (∀ p, (W.cell? p).isSome = true → w1.frozen? p = W.frozen? p) := ⟨hb.facts, hb.facts'⟩
theorem Ext.cell_of {W w : World} (h : Ext W w) {p : Addr} {v : Value} (hv : W.cell? p = some v) : w.cell? p = some v := by rw [h.facts'.1 p (by rw [hv]; rfl), hv]
theorem Ext.thaw_of {W w : World} (h : Ext W w) {p : Addr} (hv : (W.cell? p).isSome = true) (hf : W.frozen? p = false) : w.frozen? p = false := by rw [h.facts'.2 p hv, hf]
/-- A region that draws its order, each of whose operations yields ONE value and at most makes new memory: one walk, in the order of the text. -/
theorem wp_region_ext {P : Program} {id : Nat} {Q : Exit → Act → World → Prop} {a : Act} {w : World} {l : List Oper} (hm : P.follows .mixedOrders = true) (hB : Region.lexB .any l.toArray = true)
    (h : wpQuiet P l.toArray (Ext w) (fun a' => ∀ w', Ext w w' → Q .normal a' w') l a) : (Code.region id l.toArray true).wp P Q a w :=
  wp_region_quiet (C := Ext w) hm hB (Ext.refl w).drew (by simpa using h)
theorem qcons {P : Program} {ops : Array Oper} {C : World → Prop} {Q : Act → Prop} {a : Act} {o : Oper} {rest : List Oper} {v : Value} (hw : Region.wanted o (yielded ops a.tmps) = true)
    (h1 : ∀ w, C w → o.quietAt P a C w v) (h2 : wpQuiet P ops C Q rest (a.put o.dst v)) : wpQuiet P ops C Q (o :: rest) a :=
  BigFrame.wpQuiet_want hw fun _ hK => ⟨v, h1, hK _ h2⟩
theorem ext_call {P : Program} {f : FuncId} {args : Array Value} {W w : World} {v : Value} (hw : Ext W w) (h : Calls P f args w fun e w' => e = .returned v ∧ Ext w w') :
    Calls P f args w fun e w' => e = .returned v ∧ Ext W w' :=
  h.mono fun _ _ ⟨he, hb⟩ => ⟨he, hw.trans hb⟩
theorem ext_same {P : Program} {f : FuncId} {args : Array Value} {W w : World} {v : Value} (hw : Ext W w) (h : Calls P f args w fun e w' => e = .returned v ∧ w = w') :
    Calls P f args w fun e w' => e = .returned v ∧ Ext W w' :=
  h.mono fun _ _ ⟨he, hb⟩ => ⟨he, hb ▸ hw⟩
/-- A callee by its contract: the arguments and the world are held against the contract's first. -/
theorem call {P : Program} {f : FuncId} {args args' : Array Value} {w w0 : World} {Q Q' : Ending → World → Prop} (ha : args' = args) (hw : w0 = w) (h : Calls P f args w0 Q) (hm : ∀ e w', Q e w' → Q' e w') : Calls P f args' w Q' := by
  subst ha; subst hw; exact h.mono hm
end Go.K
