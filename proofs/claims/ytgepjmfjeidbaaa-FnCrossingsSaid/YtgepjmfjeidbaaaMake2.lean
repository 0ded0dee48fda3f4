/-
  FORMULAS made of exponents, the reference: the formula with given exponents.
-/
import Derived.Test.YtgepjmfjeidbaaaMake
set_option linter.unusedVariables false
namespace Go.K
open Go.RowKit
theorem row_ne {w : World} {base base' : Nat} {e e' : TypeId} {size size' n n' : Nat} {v v' : Value} {xs xs' : List Value} (h : w.ownsRow base e size v n xs) (h' : w.ownsRow base' e' size' v' n' xs') (hne : e ≠ e') :
    v'.ownBlock = none ∨ v'.ownBlock ≠ v.ownBlock := by
  rcases h'.2 with ⟨rfl, _⟩ | ⟨g', cap', cur', rfl, _, hg', _⟩
  · exact .inl rfl
  · right
    rcases h.2 with ⟨rfl, _⟩ | ⟨g, cap, cur, rfl, _, hg, _⟩
    · simp [Value.ownBlock]
    · intro he
      simp only [Value.ownBlock, Option.some.injEq] at he
      subst he
      rw [hg] at hg'
      simp at hg'
      exact hne hg'.2
theorem row_str {P : Program} {w : World} {base : Nat} {e : TypeId} {v : Value} {n : Nat} {l : List UInt8} {src dst e' : TypeId} (h : w.ownsRow base e 1 v n (l.map (fun b => Value.int .u8 (b.toNat : Int)))) (hs : P.underlying src = some (.slice e')) (he : P.underlying e' = some (.int .u8)) (hd : P.underlying dst = some .string) :
    (convert src dst v).run P w = .ok (.string ⟨l.toArray⟩) w := by
  have hn : l.length = n := by simpa using h.1
  have h0 := h
  rcases h0.2 with ⟨rfl, rfl⟩ | ⟨g, cap, cur, rfl, _, _, _⟩
  · obtain rfl : l = [] := List.eq_nil_of_length_eq_zero hn
    exact run_convert_bytes_nil w src e' hs he 0 0 dst hd
  · subst hn
    refine run_convert_bytes_back w src dst e' ⟨g, 0, none⟩ cap l hs he hd (fun j hj => ?_)
    rw [WideShapes.add_plain, Nat.zero_add, h.cellAt j (by omega)]
    simp [hj]
theorem row_lit {w : World} {B g : Nat} {e : TypeId} (hg : g = w.heap.size) (hB : B ≤ g) : (w.alloc (.cells #[] e)).ownsRow B e 1 (.slice (some ⟨g, 0, none⟩) 0 0) 0 [] := by
  subst hg; exact World.ownsRow_lit w #[] 0 hB (by decide) rfl
theorem block_new {w : World} {g : Nat} {o : Obj} (hg : g = w.heap.size) : (w.alloc o).heap[g]? = some o := by subst hg; exact heap_alloc_new w o
theorem own_new {w : World} {B g : Nat} {x : Int} {T : TypeId} (h : w.heap[g]? = some (.cells #[.int .i64 x] T)) (hB : B ≤ g) : K.own w B w.heap.size (.slice (some ⟨g, 0, none⟩) 1 1) [x] := by
  refine ⟨_, 1, rfl, fun _ => ⟨g, 0, rfl, hB, (Array.getElem?_eq_some_iff.1 h).1, fun i hi => ?_, fun i hi => thaw_at h⟩⟩
  obtain rfl : i = 0 := by simpa using hi
  exact cell_at h rfl
theorem own_alloc {W : World} {g : Nat} {x : Int} {T : TypeId} (hg : g = W.heap.size) : K.own (W.alloc (.cells #[.int .i64 x] T)) g (g + 1) (.slice (some ⟨g, 0, none⟩) 1 1) [x] := by
  refine (own_new (block_new hg) (Nat.le_refl _)).mono (Nat.le_refl _) ?_
  simp [hg]
theorem Ext.block_of {W w : World} {k : Nat} {o : Obj} (hk : W.heap[k]? = some o) (h : Ext W w) : w.heap[k]? = some o := h.block hk
theorem grown_block {w w' : World} {row : Option Nat} {k : Nat} {o : Obj} (hg : w.grownBy w' row) (hk : w.heap[k]? = some o) (hne : some k ≠ row) : w'.heap[k]? = some o := by
  rw [hg.block k (Array.getElem?_eq_some_iff.1 hk).1 hne, hk]
end Go.K
namespace Go.Proofs.Ytgepjmfjeidbaaa
open Go.RowKit
end Go.Proofs.Ytgepjmfjeidbaaa
