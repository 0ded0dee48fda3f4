/-
  DRAWN REGIONS once more: several new variables, each apart from the others; a relation between worlds of one's own (calls that change one block).
-/
import Derived.Test.YtphlppklhpaljaaOrd2
import Derived.Test.YtphlppklhpaljaaMake2
set_option linter.unusedVariables false
namespace Go.K
open Go Go.RowKit
/-- What the operations of a region may do to the world; blocks from B on stay. -/
structure Rel where
  r : World → World → Prop
  re : ∀ a, r a a
  tr : ∀ a b c, r a b → r b c → r a c
  ext : ∀ a b, Ext a b → r a b
  sz : ∀ a b, r a b → a.heap.size ≤ b.heap.size
  B : Nat
  keep : ∀ a b k o, r a b → B ≤ k → a.heap[k]? = some o → b.heap[k]? = some o
def RE : Rel := ⟨Ext, Ext.refl, fun _ _ _ h k => h.trans k, fun _ _ h => h, fun _ _ h => h.size, 0, fun _ _ _ _ h _ hk => h.block hk⟩
/-- the block that a value points to -/
def blk : Value → Option Nat
  | .pointer (some a) => some a.block
  | .slice (some a) _ _ => some a.block
  | _ => none
/-- A predicate on a value that stays; nw: the value is a new block's. -/
structure SQ (R : Rel) where
  p : Value → World → Prop
  st : ∀ v a b, R.r a b → p v a → p v b
  nw : Bool
  lt : nw = true → ∀ v w, p v w → ∃ g, blk v = some g ∧ g < w.heap.size
def SQ.any {R : Rel} : SQ R := ⟨fun _ _ => True, fun _ _ _ _ _ => trivial, false, fun h => by cases h⟩
def SQ.is {R : Rel} (c : Value) : SQ R := ⟨fun v _ => v = c, fun _ _ _ _ h => h, false, fun h => by cases h⟩
def SQ.of (s : SP) : SQ RE := ⟨s.p, s.st, false, fun h => by cases h⟩
def SQ.of' {R : Rel} (p : Value → World → Prop) (st : ∀ v a b, R.r a b → p v a → p v b) : SQ R := ⟨p, st, false, fun h => by cases h⟩
def NewB (B : Nat) (f : Nat → Value) (o : Obj) (v : Value) (w : World) : Prop := ∃ h, v = f h ∧ B ≤ h ∧ w.heap[h]? = some o
def ptrAt (h : Nat) : Value := .pointer (some ⟨h, 0, none⟩)
def slAt (n : Nat) (h : Nat) : Value := .slice (some ⟨h, 0, none⟩) n n
def SQ.newB {R : Rel} (B : Nat) (f : Nat → Value) (hf : ∀ h, blk (f h) = some h) (hB : R.B ≤ B) (o : Obj) : SQ R :=
  ⟨NewB B f o, fun _ _ _ hx ⟨h, hv, hb, hk⟩ => ⟨h, hv, hb, R.keep _ _ _ _ hx (by omega) hk⟩, true, fun _ v w ⟨h, hv, _, hk⟩ => ⟨h, by rw [hv]; exact hf h, (Array.getElem?_eq_some_iff.1 hk).1⟩⟩
def SQ.new {R : Rel} (B : Nat) (hB : R.B ≤ B) (o : Obj) : SQ R := SQ.newB B ptrAt (fun _ => rfl) hB o
def SQ.sl {R : Rel} (n B : Nat) (hB : R.B ≤ B) (o : Obj) : SQ R := SQ.newB B (slAt n) (fun _ => rfl) hB o
variable {R : Rel}
def qvals (vs : List (SQ R)) (i : Nat) (v : Value) (w : World) : Prop := (vs.getD i SQ.any).p v w
def qD (vs : List (SQ R)) (i j : Nat) (u v : Value) : Prop := (vs.getD i SQ.any).nw = true → (vs.getD j SQ.any).nw = true → blk u ≠ blk v
theorem qApart (vs : List (SQ R)) {k : Nat} (h : (vs.getD k SQ.any).nw = false) (w : World) (v : Value) : K2.Apart (qvals vs) (qD vs) k w v :=
  fun j u _ _ => ⟨fun _ h2 => absurd (h.symm.trans h2) (by decide), fun h1 _ => absurd (h.symm.trans h1) (by decide)⟩
theorem qApart_new (vs : List (SQ R)) {k : Nat} {w : World} {v : Value} (hv : blk v = some w.heap.size) : K2.Apart (qvals vs) (qD vs) k w v := by
  intro j u hj hu
  have key : (vs.getD j SQ.any).nw = true → blk u ≠ blk v := fun h1 => by
    obtain ⟨g, hg, hl⟩ := (vs.getD j SQ.any).lt h1 u w hu
    rw [hg, hv]
    intro e
    cases e
    omega
  exact ⟨fun h1 _ => key h1, fun _ h2 => fun e => key h2 e.symm⟩
/-- (a structure: so no step evaluates the rest of the walk) -/
structure WalkY (P : Program) (ops : Array Oper) (W : World) (ks : List Nat) (vs : List (SQ R)) (T : Act → World → Prop) (k : Nat) (l : List Oper) (s : Nat → Option Value) (a : Act) (w : World) : Prop where
  out : K2.Walk P ops (fun _ => True) R.r W (qvals vs) (qD vs) (fun i => ks.getD i 0) T k l s a w
theorem wp_region_y {P : Program} {id : Nat} {Q : Exit → Act → World → Prop} {a : Act} {w : World} {l : List Oper} (m : Nat) (ks : List Nat) (vs : List (SQ R))
    (hm : P.follows .mixedOrders = true) (hB : K2.ordB l m (fun i => ks.getD i 0) = true)
    (h : WalkY P l.toArray w.drew ks vs (fun a w => wpList P l.toArray (NoPanic Q) (l.drop m) a w) 0 (l.take m) (fun _ => none) a w.drew) : (Code.region id l.toArray true).wp P Q a w :=
  wp_region_noPanic (K2.wp_region_ord m ks (fun _ => True) R.r (qvals vs) (qD vs) hm hB R.re R.tr (fun i v a b hx hv => (vs.getD i SQ.any).st v a b hx hv) (fun _ _ _ _ h => h) trivial h.out)
section steps
variable {P : Program} {ops : Array Oper} {W : World} {ks : List Nat} {vs : List (SQ R)} {T : Act → World → Prop} {k : Nat} {o : Oper} {rest : List Oper} {s : Nat → Option Value} {a : Act} {w : World}
theorem y_skip (hw : Region.wanted o (yielded ops a.tmps) = false) (h : WalkY P ops W ks vs T (k + 1) rest (upd s k none) (a.put o.dst undef) w) : WalkY P ops W ks vs T k (o :: rest) s a w := ⟨K2.Walk.skip hw h.out⟩
theorem y_pure {v : Value} (hw : Region.wanted o (yielded ops a.tmps) = true) (hk : ks.getD k 0 = 0) (h1 : ∀ w', (execOp a.eval o).run P w' = .ok (.value v) w')
    (h : WalkY P ops W ks vs T (k + 1) rest (upd s k (some v)) (a.put o.dst v) w) : WalkY P ops W ks vs T k (o :: rest) s a w := ⟨K2.Walk.pure hw hk h1 h.out⟩
theorem y_held {v : Value} (hw : Region.wanted o (yielded ops a.tmps) = true) (hk : ks.getD k 0 = 1) (h1 : ∀ w', R.r W w' → (execOp a.eval o).run P w' = .ok (.value v) w')
    (h : WalkY P ops W ks vs T (k + 1) rest (upd s k (some v)) (a.put o.dst v) w) : WalkY P ops W ks vs T k (o :: rest) s a w := ⟨K2.Walk.held hw hk (fun w' _ hx => h1 w' hx) h.out⟩
/-- A call. -/
theorem y_call {f : FuncId} {args : Array Value} (hw : Region.wanted o (yielded ops a.tmps) = true) (hk : ks.getD k 0 = 2) (hn : (vs.getD k SQ.any).nw = false) (hrun : ∀ w', (execOp a.eval o).run P w' = .ok (.enter f args) w')
    (hcall : ∀ w', R.r W w' → (∀ j v, edge o j = true → ks.getD j 0 = 2 → s j = some v → qvals vs j v w') → Calls P f args w' fun e w'' => ∃ v, e = .returned v ∧ R.r w' w'' ∧ qvals vs k v w'')
    (h : ∀ v w', R.r w w' → qvals vs k v w' → WalkY P ops W ks vs T (k + 1) rest (upd s k (some v)) (a.put o.dst v) w') : WalkY P ops W ks vs T k (o :: rest) s a w :=
  ⟨K2.Walk.told hw hk (fun w' _ hx hp => by rw [hrun]; exact (hcall w' hx hp).mono fun e w'' ⟨v, he, hx', hv⟩ => ⟨v, he, trivial, hx', hv, qApart vs hn _ _⟩) (fun v w' _ hx hv _ => (h v w' hx hv).out)⟩
/-- A call whose value is known. -/
theorem y_call_is {f : FuncId} {args : Array Value} {c : Value} (hw : Region.wanted o (yielded ops a.tmps) = true) (hk : ks.getD k 0 = 2) (hvs : vs.getD k SQ.any = SQ.is c) (hrun : ∀ w', (execOp a.eval o).run P w' = .ok (.enter f args) w')
    (hcall : ∀ w', R.r W w' → (∀ j v, edge o j = true → ks.getD j 0 = 2 → s j = some v → qvals vs j v w') → Calls P f args w' fun e w'' => e = .returned c ∧ R.r w' w'')
    (h : ∀ w', R.r w w' → WalkY P ops W ks vs T (k + 1) rest (upd s k (some c)) (a.put o.dst c) w') : WalkY P ops W ks vs T k (o :: rest) s a w :=
  y_call hw hk (by rw [hvs]; rfl) hrun (fun w' hx hp => (hcall w' hx hp).mono fun e w'' ⟨he, hx'⟩ => ⟨c, he, hx', by unfold qvals; rw [hvs]; rfl⟩)
    (fun v w' hx hv => by unfold qvals at hv; rw [hvs] at hv; obtain rfl : v = c := hv; exact h w' hx)
/-- A new block. -/
theorem y_newB {B : Nat} {f : Nat → Value} {hf : ∀ h, blk (f h) = some h} {hR : R.B ≤ B} {ob : Obj} (hw : Region.wanted o (yielded ops a.tmps) = true) (hk : ks.getD k 0 = 2) (hvs : vs.getD k SQ.any = SQ.newB B f hf hR ob) (hB : B ≤ W.heap.size)
    (hrun : ∀ w', (execOp a.eval o).run P w' = .ok (.value (f w'.heap.size)) (w'.alloc ob))
    (h : ∀ g w', R.r w w' → B ≤ g → w'.heap[g]? = some ob → (∀ j u, j < k → ks.getD j 0 = 2 → s j = some u → (vs.getD j SQ.any).nw = true → blk u ≠ some g) → WalkY P ops W ks vs T (k + 1) rest (upd s k (some (f g))) (a.put o.dst (f g)) w') :
    WalkY P ops W ks vs T k (o :: rest) s a w :=
  ⟨K2.Walk.told hw hk (fun w' _ hx hp => by
      rw [hrun]
      refine ⟨trivial, R.ext _ _ ((Ext.refl _).alloc _), ?_, qApart_new vs (hf _)⟩
      unfold qvals; rw [hvs]
      exact ⟨w'.heap.size, rfl, Nat.le_trans hB (R.sz _ _ hx), by show (w'.heap.push ob)[w'.heap.size]? = some ob; simp⟩)
    (fun v w' _ hx hv hd => by
      unfold qvals at hv; rw [hvs] at hv; obtain ⟨g, rfl, hB, hb⟩ := hv
      exact (h g w' hx hB hb (fun j u hj hkj hu hn => by
        have h1 := hd j u hj hkj hu hn (by rw [hvs]; rfl)
        rwa [hf g] at h1)).out)⟩
theorem y_new {B : Nat} {ob : Obj} (hR : R.B ≤ B) (hw : Region.wanted o (yielded ops a.tmps) = true) (hk : ks.getD k 0 = 2) (hvs : vs.getD k SQ.any = SQ.new B hR ob) (hB : B ≤ W.heap.size)
    (hrun : ∀ w', (execOp a.eval o).run P w' = .ok (.value (.pointer (some ⟨w'.heap.size, 0, none⟩))) (w'.alloc ob))
    (h : ∀ g w', R.r w w' → B ≤ g → w'.heap[g]? = some ob → (∀ j u, j < k → ks.getD j 0 = 2 → s j = some u → (vs.getD j SQ.any).nw = true → blk u ≠ some g) → WalkY P ops W ks vs T (k + 1) rest (upd s k (some (.pointer (some ⟨g, 0, none⟩)))) (a.put o.dst (.pointer (some ⟨g, 0, none⟩))) w') :
    WalkY P ops W ks vs T k (o :: rest) s a w := y_newB (f := ptrAt) (hf := fun _ => rfl) hw hk hvs hB hrun h
theorem y_newsl {n B : Nat} {ob : Obj} (hR : R.B ≤ B) (hw : Region.wanted o (yielded ops a.tmps) = true) (hk : ks.getD k 0 = 2) (hvs : vs.getD k SQ.any = SQ.sl n B hR ob) (hB : B ≤ W.heap.size)
    (hrun : ∀ w', (execOp a.eval o).run P w' = .ok (.value (.slice (some ⟨w'.heap.size, 0, none⟩) n n)) (w'.alloc ob))
    (h : ∀ g w', R.r w w' → B ≤ g → w'.heap[g]? = some ob → (∀ j u, j < k → ks.getD j 0 = 2 → s j = some u → (vs.getD j SQ.any).nw = true → blk u ≠ some g) → WalkY P ops W ks vs T (k + 1) rest (upd s k (some (.slice (some ⟨g, 0, none⟩) n n))) (a.put o.dst (.slice (some ⟨g, 0, none⟩) n n)) w') :
    WalkY P ops W ks vs T k (o :: rest) s a w := y_newB (f := slAt n) (hf := fun _ => rfl) hw hk hvs hB hrun h
theorem y_op_is {c : Value} (hw : Region.wanted o (yielded ops a.tmps) = true) (hk : ks.getD k 0 = 2) (hvs : vs.getD k SQ.any = SQ.is c)
    (hrun : ∀ w', R.r W w' → (∀ j v, edge o j = true → ks.getD j 0 = 2 → s j = some v → qvals vs j v w') → (execOp a.eval o).run P w' = .ok (.value c) w')
    (h : ∀ w', R.r w w' → WalkY P ops W ks vs T (k + 1) rest (upd s k (some c)) (a.put o.dst c) w') : WalkY P ops W ks vs T k (o :: rest) s a w :=
  ⟨K2.Walk.told hw hk (fun w' _ hx hp => by rw [hrun w' hx hp]; exact ⟨trivial, R.re _, by unfold qvals; rw [hvs]; rfl, qApart vs (by rw [hvs]; rfl) _ _⟩)
    (fun v w' _ hx hv _ => by unfold qvals at hv; rw [hvs] at hv; obtain rfl : v = c := hv; exact (h w' hx).out)⟩
theorem y_done (h : ∀ w', R.r w w' → T a w') : WalkY P ops W ks vs T k [] s a w := ⟨K2.Walk.done fun w' _ hx => h w' hx⟩
end steps
theorem blk_ptr {g h : Nat} (e : blk (.pointer (some ⟨g, 0, none⟩)) ≠ some h) : ¬ (g = h) := fun x => e (by rw [x]; rfl)
theorem blk_sl {g h n m : Nat} (e : blk (.slice (some ⟨g, 0, none⟩) n m) ≠ some h) : ¬ (g = h) := fun x => e (by rw [x]; rfl)
end Go.K
