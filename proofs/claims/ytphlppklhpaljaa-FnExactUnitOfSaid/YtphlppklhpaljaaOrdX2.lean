/-
  DRAWN REGIONS, two steps more: a new row of one byte; an operation whose value is known where it is carried out.
-/
import Derived.Test.YtphlppklhpaljaaOrdX
import Derived.Laws.IdiomStrings
set_option linter.unusedVariables false
namespace Go.K
open Go Go.RowKit
def NewSl (B : Nat) (o : Obj) (v : Value) (w : World) : Prop := ∃ h, v = .slice (some ⟨h, 0, none⟩) 1 1 ∧ B ≤ h ∧ w.heap[h]? = some o
def SP.sl (B : Nat) (o : Obj) : SP := ⟨NewSl B o, fun _ _ _ hx ⟨h, hv, hB, hb⟩ => ⟨h, hv, hB, hx.block hb⟩⟩
theorem SP.sl_at {B g : Nat} {o : Obj} {w : World} (h : (SP.sl B o).p (.slice (some ⟨g, 0, none⟩) 1 1) w) : w.heap[g]? = some o := by
  obtain ⟨h, hv, _, hb⟩ := h
  simp only [Value.slice.injEq, Option.some.injEq, Addr.mk.injEq, and_true] at hv
  rw [hv]; exact hb
section steps
variable {P : Program} {ops : Array Oper} {W : World} {ks : List Nat} {vs : List SP} {T : Act → World → Prop} {k : Nat} {o : Oper} {rest : List Oper} {s : Nat → Option Value} {a : Act} {w : World}
theorem x_newsl {B : Nat} {ob : Obj} (hw : Region.wanted o (yielded ops a.tmps) = true) (hk : ks.getD k 0 = 2) (hvs : vs.getD k SP.any = SP.sl B ob) (hB : B ≤ W.heap.size)
    (hrun : ∀ w', (execOp a.eval o).run P w' = .ok (.value (.slice (some ⟨w'.heap.size, 0, none⟩) 1 1)) (w'.alloc ob))
    (h : ∀ g w', Ext w w' → B ≤ g → w'.heap[g]? = some ob → WalkX P ops W ks vs T (k + 1) rest (upd s k (some (.slice (some ⟨g, 0, none⟩) 1 1))) (a.put o.dst (.slice (some ⟨g, 0, none⟩) 1 1)) w') :
    WalkX P ops W ks vs T k (o :: rest) s a w :=
  ⟨Walk.told hw hk (fun w' _ hx hp => by
      rw [hrun]
      refine ⟨trivial, (Ext.refl _).alloc _, ?_⟩
      unfold vals; rw [hvs]
      exact ⟨w'.heap.size, rfl, Nat.le_trans hB hx.size, by show (w'.heap.push ob)[w'.heap.size]? = some ob; simp⟩)
    (fun v w' _ hx hv => by unfold vals at hv; rw [hvs] at hv; obtain ⟨g, rfl, hB, hb⟩ := hv; exact (h g w' hx hB hb).out)⟩
theorem x_op_is {c : Value} (hw : Region.wanted o (yielded ops a.tmps) = true) (hk : ks.getD k 0 = 2) (hvs : vs.getD k SP.any = SP.is c)
    (hrun : ∀ w', Ext W w' → (∀ j v, edge o j = true → ks.getD j 0 = 2 → s j = some v → vals vs j v w') → (execOp a.eval o).run P w' = .ok (.value c) w')
    (h : ∀ w', Ext w w' → WalkX P ops W ks vs T (k + 1) rest (upd s k (some c)) (a.put o.dst c) w') : WalkX P ops W ks vs T k (o :: rest) s a w :=
  ⟨Walk.told hw hk (fun w' _ hx hp => by rw [hrun w' hx hp]; exact ⟨trivial, Ext.refl _, by unfold vals; rw [hvs]; rfl⟩)
    (fun v w' _ hx hv => by unfold vals at hv; rw [hvs] at hv; obtain rfl : v = c := hv; exact (h w' hx).out)⟩
end steps
/-- one byte as a string -/
theorem byte_str {P : Program} {w : World} {src dst e t : TypeId} {g : Nat} {c : Int} {fr : Nat × Nat} (hs : P.underlying src = some (.slice e)) (he : P.underlying e = some (.int .u8)) (hd : P.underlying dst = some .string)
    (h0 : 0 ≤ c) (h1 : c ≤ 255) (hb : w.heap[g]? = some (.cells #[.int .u8 c] t fr)) : (convert src dst (.slice (some ⟨g, 0, none⟩) 1 1)).run P w = .ok (.string ⟨#[UInt8.ofNat c.toNat]⟩) w := by
  have := run_convert_bytes_back (P := P) w src dst e ⟨g, 0, none⟩ 1 [UInt8.ofNat c.toNat] hs he hd (fun j hj => by
    have hj0 : j = 0 := by simp at hj; omega
    subst hj0
    have : w.cell? ((⟨g, 0, none⟩ : Addr).add 0) = some (.int .u8 c) := by
      rw [WideShapes.add_plain]; unfold World.cell?; simp only [hb]; rfl
    rw [this]
    simp
    omega)
  simpa using this
end Go.K
