/-
  DRAWN REGIONS whose operations change nothing that was there ('Ext'): the steps of the walk.
-/
import Derived.Test.YtphlppklhpaljaaOrd
import Derived.Test.YtphlppklhpaljaaKit
import Derived.Deep.RegionHeld3
set_option linter.unusedVariables false
namespace Go.K
open Go Go.RowKit

/-- A closed predicate on a value, which new memory does not turn. -/
structure SP where
  p : Value → World → Prop
  st : ∀ v a b, Ext a b → p v a → p v b
def SP.any : SP := ⟨fun _ _ => True, fun _ _ _ _ _ => trivial⟩
/-- It is this value. -/
def SP.is (c : Value) : SP := ⟨fun v _ => v = c, fun _ _ _ _ h => h⟩
/-- It points to a new block that holds this. -/
def NewAt (B : Nat) (o : Obj) (v : Value) (w : World) : Prop := ∃ h, v = .pointer (some ⟨h, 0, none⟩) ∧ B ≤ h ∧ w.heap[h]? = some o
theorem Ext.block {W w : World} (h : Ext W w) {k : Nat} {o : Obj} (hk : W.heap[k]? = some o) : w.heap[k]? = some o := by
  have hlt : k < W.heap.size := (Array.getElem?_eq_some_iff.1 hk).1
  rw [h.below.block k hlt, hk]
def SP.new (B : Nat) (o : Obj) : SP := ⟨NewAt B o, fun _ _ _ hx ⟨h, hv, hB, hb⟩ => ⟨h, hv, hB, hx.block hb⟩⟩
def vals (vs : List SP) (i : Nat) (v : Value) (w : World) : Prop := (vs.getD i SP.any).p v w

/-- (a structure: so no step evaluates the rest of the walk) -/
structure WalkX (P : Program) (ops : Array Oper) (W : World) (ks : List Nat) (vs : List SP) (T : Act → World → Prop) (k : Nat) (l : List Oper) (s : Nat → Option Value) (a : Act) (w : World) : Prop where
  out : Walk P ops (fun _ => True) Ext W (vals vs) (fun i => ks.getD i 0) T k l s a w

theorem wp_region_x {P : Program} {id : Nat} {Q : Exit → Act → World → Prop} {a : Act} {w : World} {l : List Oper} (m : Nat) (ks : List Nat) (vs : List SP)
    (hm : P.follows .mixedOrders = true) (hB : ordB l m (fun i => ks.getD i 0) = true)
    (h : WalkX P l.toArray w.drew ks vs (fun a w => wpList P l.toArray (NoPanic Q) (l.drop m) a w) 0 (l.take m) (fun _ => none) a w.drew) : (Code.region id l.toArray true).wp P Q a w :=
  wp_region_noPanic (wp_region_ord m ks (fun _ => True) Ext (vals vs) hm hB Ext.refl (fun _ _ _ h k => h.trans k) (fun i v a b hx hv => (vs.getD i SP.any).st v a b hx hv) (fun _ _ _ _ h => h) trivial h.out)

section steps
variable {P : Program} {ops : Array Oper} {W : World} {ks : List Nat} {vs : List SP} {T : Act → World → Prop} {k : Nat} {o : Oper} {rest : List Oper} {s : Nat → Option Value} {a : Act} {w : World}
theorem x_skip (hw : Region.wanted o (yielded ops a.tmps) = false) (h : WalkX P ops W ks vs T (k + 1) rest (upd s k none) (a.put o.dst undef) w) : WalkX P ops W ks vs T k (o :: rest) s a w := ⟨Walk.skip hw h.out⟩
theorem x_pure {v : Value} (hw : Region.wanted o (yielded ops a.tmps) = true) (hk : ks.getD k 0 = 0) (h1 : ∀ w', (execOp a.eval o).run P w' = .ok (.value v) w')
    (h : WalkX P ops W ks vs T (k + 1) rest (upd s k (some v)) (a.put o.dst v) w) : WalkX P ops W ks vs T k (o :: rest) s a w := ⟨Walk.pure hw hk h1 h.out⟩
theorem x_held {v : Value} (hw : Region.wanted o (yielded ops a.tmps) = true) (hk : ks.getD k 0 = 1) (h1 : ∀ w', Ext W w' → (execOp a.eval o).run P w' = .ok (.value v) w')
    (h : WalkX P ops W ks vs T (k + 1) rest (upd s k (some v)) (a.put o.dst v) w) : WalkX P ops W ks vs T k (o :: rest) s a w := ⟨Walk.held hw hk (fun w' _ hx => h1 w' hx) h.out⟩
/-- A call. -/
theorem x_call {f : FuncId} {args : Array Value} (hw : Region.wanted o (yielded ops a.tmps) = true) (hk : ks.getD k 0 = 2) (hrun : ∀ w', (execOp a.eval o).run P w' = .ok (.enter f args) w')
    (hcall : ∀ w', Ext W w' → (∀ j v, edge o j = true → ks.getD j 0 = 2 → s j = some v → vals vs j v w') → Calls P f args w' fun e w'' => ∃ v, e = .returned v ∧ Ext w' w'' ∧ vals vs k v w'')
    (h : ∀ v w', Ext w w' → vals vs k v w' → WalkX P ops W ks vs T (k + 1) rest (upd s k (some v)) (a.put o.dst v) w') : WalkX P ops W ks vs T k (o :: rest) s a w :=
  ⟨Walk.told hw hk (fun w' _ hx hp => by rw [hrun]; exact (hcall w' hx hp).mono fun e w'' ⟨v, he, hx', hv⟩ => ⟨v, he, trivial, hx', hv⟩) (fun v w' _ hx hv => (h v w' hx hv).out)⟩
/-- A call whose value is known. -/
theorem x_call_is {f : FuncId} {args : Array Value} {c : Value} (hw : Region.wanted o (yielded ops a.tmps) = true) (hk : ks.getD k 0 = 2) (hvs : vs.getD k SP.any = SP.is c) (hrun : ∀ w', (execOp a.eval o).run P w' = .ok (.enter f args) w')
    (hcall : ∀ w', Ext W w' → (∀ j v, edge o j = true → ks.getD j 0 = 2 → s j = some v → vals vs j v w') → Calls P f args w' fun e w'' => e = .returned c ∧ Ext w' w'')
    (h : ∀ w', Ext w w' → WalkX P ops W ks vs T (k + 1) rest (upd s k (some c)) (a.put o.dst c) w') : WalkX P ops W ks vs T k (o :: rest) s a w :=
  x_call hw hk hrun (fun w' hx hp => (hcall w' hx hp).mono fun e w'' ⟨he, hx'⟩ => ⟨c, he, hx', by unfold vals; rw [hvs]; rfl⟩)
    (fun v w' hx hv => by unfold vals at hv; rw [hvs] at hv; obtain rfl : v = c := hv; exact h w' hx)
/-- A new variable. -/
theorem x_new {B : Nat} {ob : Obj} (hw : Region.wanted o (yielded ops a.tmps) = true) (hk : ks.getD k 0 = 2) (hvs : vs.getD k SP.any = SP.new B ob) (hB : B ≤ W.heap.size)
    (hrun : ∀ w', (execOp a.eval o).run P w' = .ok (.value (.pointer (some ⟨w'.heap.size, 0, none⟩))) (w'.alloc ob))
    (h : ∀ g w', Ext w w' → B ≤ g → w'.heap[g]? = some ob → WalkX P ops W ks vs T (k + 1) rest (upd s k (some (.pointer (some ⟨g, 0, none⟩)))) (a.put o.dst (.pointer (some ⟨g, 0, none⟩))) w') :
    WalkX P ops W ks vs T k (o :: rest) s a w :=
  ⟨Walk.told hw hk (fun w' _ hx hp => by
      rw [hrun]
      refine ⟨trivial, (Ext.refl _).alloc _, ?_⟩
      unfold vals; rw [hvs]
      exact ⟨w'.heap.size, rfl, Nat.le_trans hB hx.size, by show (w'.heap.push ob)[w'.heap.size]? = some ob; simp⟩)
    (fun v w' _ hx hv => by unfold vals at hv; rw [hvs] at hv; obtain ⟨g, rfl, hB, hb⟩ := hv; exact (h g w' hx hB hb).out)⟩
theorem cell_at {w : World} {g i : Nat} {c : Array Value} {t : TypeId} {v : Value} (h : w.heap[g]? = some (.cells c t)) (hi : c[i]? = some v) : w.cell? ⟨g, i, none⟩ = some v := by
  unfold World.cell?; simp only [h]; simpa using hi
theorem thaw_at {w : World} {g i : Nat} {c : Array Value} {t : TypeId} (h : w.heap[g]? = some (.cells c t)) : w.frozen? ⟨g, i, none⟩ = false := by
  unfold World.frozen?; simp only [h]; simp
theorem same_ext {f : FuncId} {args : Array Value} {w : World} {v : Value} (h : Calls P f args w fun e w' => e = .returned v ∧ w = w') : Calls P f args w fun e w' => e = .returned v ∧ Ext w w' :=
  h.mono fun _ _ ⟨he, hw⟩ => ⟨he, hw ▸ Ext.refl _⟩
theorem x_done (h : ∀ w', Ext w w' → T a w') : WalkX P ops W ks vs T k [] s a w := ⟨Walk.done fun w' _ hx => h w' hx⟩
end steps
end Go.K
