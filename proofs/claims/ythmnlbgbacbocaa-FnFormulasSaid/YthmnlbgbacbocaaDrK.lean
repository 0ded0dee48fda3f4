/-
  DRAWS: common ground.
-/
import Derived.Test.YthmnlbgbacbocaaSrc
set_option linter.unusedVariables false
namespace Go.K
open Go.RowKit
theorem ints_lit {W w : World} {T : TypeId} {n : Nat} {cs : Array Value} (xs : List Int) (hl : xs.length = n) (hc : cs = (xs.map (Value.int .i64)).toArray) (hw : w = W.alloc (.cells cs T)) :
    K.ints w W.heap.size (W.heap.size + 1) (.slice (some ⟨W.heap.size, 0, none⟩) n n) xs := by
  subst hl hc hw
  have hb := block_new (w := W) (o := .cells (xs.map (Value.int .i64)).toArray T) rfl
  refine ⟨_, _, rfl, fun hn => ⟨W.heap.size, 0, rfl, Nat.le_refl _, Nat.lt_succ_self _, fun i hi => ?_⟩⟩
  rw [Nat.zero_add]
  exact cell_at hb (by simp [List.getD_eq_getElem?_getD, hi])
theorem Far.alloc {lo hi : Nat} {W w : World} (h : Far lo hi W w) (o : Obj) : Far lo hi W (w.alloc o) := h.trans (Far.of_ext ((Ext.refl _).alloc o))
theorem Far.drew {lo hi : Nat} {W w : World} (h : Far lo hi W w) : Far lo hi W w.drew := h.trans (Far.of_ext (Ext.refl _).drew)
theorem Far.setNew {lo hi : Nat} {W w : World} (h : Far lo hi W w) {p : Addr} (hp : W.heap.size ≤ p.block) (u : Value) : Far lo hi W (w.setCell p u) := by
  have h2 := (Far.refl p.block (p.block + 1) w).setCell (p := p) (Nat.le_refl _) (Nat.lt_succ_self _) u
  exact ⟨h2.os.trans h.os, h2.tape.trans h.tape, h2.output.trans h.output, Nat.le_trans h.size h2.size, fun k hk ho => (h2.block k (Nat.lt_of_lt_of_le hk h.size) (by omega)).trans (h.block k hk ho)⟩
theorem Src.alloc {T : TypeId} {w : World} {g : Nat} (h : Src T w g) (o : Obj) : Src T (w.alloc o) g := h.ext ((Ext.refl w).alloc o)
theorem Src.drew {T : TypeId} {w : World} {g : Nat} (h : Src T w g) : Src T w.drew g := h.ext ((Ext.refl w).drew)
theorem Src.setOther {T : TypeId} {w : World} {g : Nat} (h : Src T w g) {p : Addr} (hp : g < p.block) (u : Value) : Src T (w.setCell p u) g := by
  obtain ⟨v, n, a, s, h1, h2, h3, h4, h5, h6, hb⟩ := h
  exact ⟨v, n, a, s, h1.far ((Far.refl p.block (p.block + 1) w).setCell (Nat.le_refl _) (Nat.lt_succ_self _) u) (Nat.le_of_lt hp), h2, h3, h4, h5, h6, (Below.heap_setCell _ _ _ _ (Nat.ne_of_lt hp)).trans hb⟩
theorem row_far {lo hi : Nat} {w w' : World} {base : Nat} {e : TypeId} {size n : Nat} {v : Value} {xs : List Value} (h : w.ownsRow base e size v n xs) (hf : Far lo hi w w') (hd : hi ≤ base) : w'.ownsRow base e size v n xs :=
  ⟨h.1, h.2.imp id (fun ⟨g, cap, cur, hv, hb, hg, r⟩ => ⟨g, cap, cur, hv, hb, (hf.block g (Array.getElem?_eq_some_iff.1 hg).1 (.inr (Nat.le_trans hd hb))).trans hg, r⟩)⟩
theorem Src.below {T : TypeId} {w w' : World} {g B : Nat} (h : Src T w g) (hb : Below B w w') (hg : g < B) : Src T w' g := by
  obtain ⟨v, n, a, s, ⟨o, cap, hv, hc⟩, h2, h3, h4, h5, h6, hk⟩ := h
  refine ⟨v, n, a, s, ⟨o, cap, hv, fun hn => ?_⟩, h2, h3, h4, h5, h6, (hb.block g hg).trans hk⟩
  obtain ⟨b, off, ho, hbg, hcc⟩ := hc hn
  refine ⟨b, off, ho, hbg, fun i hi => ?_⟩
  obtain ⟨x, x0, x1, hx⟩ := hcc i hi
  exact ⟨x, x0, x1, (World.cell?_of_block (hb.block b (Nat.lt_trans hbg hg))).trans hx⟩
theorem below_cell {B : Nat} {w w' : World} (hb : Below B w w') {p : Addr} {v : Value} (h : w.cell? p = some v) (hp : p.block < B) : w'.cell? p = some v := (World.cell?_of_block (hb.block _ hp)).trans h
theorem below_thaw {B : Nat} {w w' : World} (hb : Below B w w') {p : Addr} (h : w.frozen? p = false) (hp : p.block < B) : w'.frozen? p = false := (World.frozen?_of_block (hb.block _ hp)).trans h
/-- what a record's append does to the blocks before the row's -/
theorem below_app {B : Nat} {w w' : World} {o : Obj} {u : Value} {b : Option Nat} (hg : (w.alloc o).grownBy w' b) (hB : B ≤ w.heap.size) (hr : ∀ g, b = some g → B ≤ g) : Below B w w' :=
  (((Ext.refl w).alloc o).below.mono hB).grown hg (by simp; omega) hr
theorem row_lit0 {w : World} {B g s : Nat} {e : TypeId} (hg : g = w.heap.size) (hB : B ≤ g) : (w.alloc (.cells #[] e)).ownsRow B e s (.slice (some ⟨g, 0, none⟩) 0 0) 0 [] := by
  subst hg; exact World.ownsRow_lit w #[] 0 hB (by decide) (by simp)
end Go.K
namespace Go.Proofs.Ythmnlbgbacbocaa
open Go.RowKit
theorem l01From_at (g : Nat) {hi n : Nat} {v : Value} (w : World) (hg : g = w.heap.size) (hn : n ≤ 4096) (hh : hi ≤ g) (h : K.byts w hi v n) :
    Calls Try.prog 81 #[v] w fun e w' => (e = .returned (.pointer (some ⟨g, 0, none⟩)) ∧ K.Src 164 w' g) ∧ K.Ext w w' := by
  subst hg; exact l01From_any w hn hh h
end Go.Proofs.Ythmnlbgbacbocaa
