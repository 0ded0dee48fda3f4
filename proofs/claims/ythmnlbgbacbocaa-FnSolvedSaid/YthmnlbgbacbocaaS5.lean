/-
  Part 5 of the texts of this claim: contracts of functions and plain mathematics.
-/
import Derived.Test.YthmnlbgbacbocaaS4
set_option linter.unusedVariables false
section
namespace Go.K2
open Go Go.K
section walk
variable (P : Program) (ops : Array Oper) (C : World → Prop) (R : World → World → Prop) (W : World) (V : Nat → Value → World → Prop) (D : Nat → Nat → Value → Value → Prop) (kind : Nat → Nat) (T : Act → World → Prop)
/-- what is new is apart from what there is -/
def Apart (k : Nat) (w : World) (v : Value) : Prop := ∀ j u, j ≠ k → V j u w → D j k u v ∧ D k j v u
def Gives (k : Nat) (w : World) : Result Next → Prop
  | .ok (.value v) w' => C w' ∧ R w w' ∧ V k v w' ∧ Apart V D k w v
  | .ok .skip w' => C w' ∧ R w w' ∧ V k undef w' ∧ Apart V D k w undef
  | .ok (.enter f args) w' => Calls P f args w' fun e w'' => ∃ v, e = .returned v ∧ C w'' ∧ R w w'' ∧ V k v w'' ∧ Apart V D k w v
  | _ => False
def Walk : Nat → List Oper → (Nat → Option Value) → Act → World → Prop
  | _, [], _, a, w => ∀ w', C w' → R w w' → T a w'
  | k, o :: rest, s, a, w =>
    if Region.wanted o (yielded ops a.tmps) then
      if kind k = 2 then
        (∀ w', C w' → R W w' → (∀ j v, edge o j = true → kind j = 2 → s j = some v → V j v w') → Gives P C R V D k w' ((execOp a.eval o).run P w')) ∧
        ∀ v w', C w' → R w w' → V k v w' → (∀ j u, j < k → kind j = 2 → s j = some u → D j k u v) → Walk (k + 1) rest (upd s k (some v)) (a.put o.dst v) w'
      else ∃ v, (∀ w', (kind k = 1 → C w' ∧ R W w') → (execOp a.eval o).run P w' = .ok (.value v) w') ∧ Walk (k + 1) rest (upd s k (some v)) (a.put o.dst v) w
    else Walk (k + 1) rest (upd s k none) (a.put o.dst undef) w
end walk
section steps
variable {P : Program} {ops : Array Oper} {C : World → Prop} {R : World → World → Prop} {W : World} {V : Nat → Value → World → Prop} {D : Nat → Nat → Value → Value → Prop} {kind : Nat → Nat} {T : Act → World → Prop}
  {k : Nat} {o : Oper} {rest : List Oper} {s : Nat → Option Value} {a : Act} {w : World}
theorem Walk.skip (hw : Region.wanted o (yielded ops a.tmps) = false) (h : Walk P ops C R W V D kind T (k + 1) rest (upd s k none) (a.put o.dst undef) w) : Walk P ops C R W V D kind T k (o :: rest) s a w := by
  unfold Walk; rw [if_neg (by rw [hw]; exact Bool.false_ne_true)]; exact h
theorem Walk.pure {v : Value} (hw : Region.wanted o (yielded ops a.tmps) = true) (hk : kind k = 0) (h1 : ∀ w', (execOp a.eval o).run P w' = .ok (.value v) w')
    (h : Walk P ops C R W V D kind T (k + 1) rest (upd s k (some v)) (a.put o.dst v) w) : Walk P ops C R W V D kind T k (o :: rest) s a w := by
  unfold Walk; rw [if_pos hw, if_neg (by omega)]; exact ⟨v, fun w' _ => h1 w', h⟩
theorem Walk.held {v : Value} (hw : Region.wanted o (yielded ops a.tmps) = true) (hk : kind k = 1) (h1 : ∀ w', C w' → R W w' → (execOp a.eval o).run P w' = .ok (.value v) w')
    (h : Walk P ops C R W V D kind T (k + 1) rest (upd s k (some v)) (a.put o.dst v) w) : Walk P ops C R W V D kind T k (o :: rest) s a w := by
  unfold Walk; rw [if_pos hw, if_neg (by omega)]; exact ⟨v, fun w' h => h1 w' (h hk).1 (h hk).2, h⟩
theorem Walk.told (hw : Region.wanted o (yielded ops a.tmps) = true) (hk : kind k = 2)
    (h1 : ∀ w', C w' → R W w' → (∀ j v, edge o j = true → kind j = 2 → s j = some v → V j v w') → Gives P C R V D k w' ((execOp a.eval o).run P w'))
    (h : ∀ v w', C w' → R w w' → V k v w' → (∀ j u, j < k → kind j = 2 → s j = some u → D j k u v) → Walk P ops C R W V D kind T (k + 1) rest (upd s k (some v)) (a.put o.dst v) w') : Walk P ops C R W V D kind T k (o :: rest) s a w := by
  unfold Walk; rw [if_pos hw, if_pos hk]; exact ⟨h1, h⟩
theorem Walk.done (h : ∀ w', C w' → R w w' → T a w') : Walk P ops C R W V D kind T k [] s a w := by unfold Walk; exact h
theorem Walk.mono (hRt : ∀ a b c, R a b → R b c → R a c) : ∀ (l : List Oper) (k : Nat) (s : Nat → Option Value) (a : Act) (w w1 : World), R w w1 →
    Walk P ops C R W V D kind T k l s a w → Walk P ops C R W V D kind T k l s a w1 := by
  intro l
  induction l with
  | nil => intro k s a w w1 hr h; unfold Walk at *; exact fun w' hc hr' => h w' hc (hRt _ _ _ hr hr')
  | cons o l ih =>
    intro k s a w w1 hr h
    unfold Walk at h ⊢
    split
    · rename_i hw
      rw [if_pos hw] at h
      split
      · rename_i hk
        rw [if_pos hk] at h
        exact ⟨h.1, fun v w' hc hr' hv hd => h.2 v w' hc (hRt _ _ _ hr hr') hv hd⟩
      · rename_i hk
        rw [if_neg hk] at h
        obtain ⟨v, h1, h2⟩ := h
        exact ⟨v, h1, ih _ _ _ _ _ hr h2⟩
    · rename_i hw
      rw [if_neg hw] at h
      exact ih _ _ _ _ _ hr h
end steps
structure Fits (ops : Array Oper) (m : Nat) (kind : Nat → Nat) : Prop where
  le : m ≤ ops.size
  sel : ∀ (j : Nat) (o : Oper) cs b, ops[j]? = some o → o.op ≠ .select cs b
  back : ∀ i o, ops[i]? = some o → ∀ j, edge o j = true → j < i
  dst : ∀ i j t, i < m → j < m → dstOf ops i = some t → dstOf ops j = some t → i = j
  looks : ∀ i o j t, ops[i]? = some o → i < m → j < m → dstOf ops j = some t → t ∈ o.looksAt ops → edge o j = true
  pure : ∀ i oi j oj, i < m → kind i = 0 → ops[i]? = some oi → ops[j]? = some oj → j ≠ i → edge oj i = false → edge oi j = false → oi.apart ops oj = true
  tail : ∀ t o, m ≤ t → ops[t]? = some o → ∀ i, i < m → kind i ≠ 0 → edge o i = true ∨ ∃ k ok, edge o k = true ∧ ops[k]? = some ok ∧ edge ok i = true
  seq : ∀ t o, m ≤ t → ops[t]? = some o → ∀ j, m ≤ j → j < t → edge o j = true
section main
variable {P : Program} {ops : Array Oper} {C : World → Prop} {R : World → World → Prop} {W : World} {V : Nat → Value → World → Prop} {D : Nat → Nat → Value → Value → Prop} {kind : Nat → Nat} {m : Nat} {a0 : Act}
  {Q : Exit → Act → World → Prop}
theorem agree_lex (F : Fits ops m kind) {E : List Nat} {s s' : Nat → Option Value} {k : Nat} {o : Oper} (ho : ops[k]? = some o) (hk : k < m) (hE : ∀ j ∈ E, j < m)
    (hcl : ∀ j, edge o j = true → j ∈ E) (hs : ∀ j, j < k → j ∈ E → s' j = s j) : Agree ops o (runs ops s' (List.range k) a0) (runs ops s E a0) := by
  intro t ht
  by_cases hj : ∃ j, j < m ∧ dstOf ops j = some t
  · obtain ⟨j, hjm, hjd⟩ := hj
    have he := F.looks k o j t ho hk hjm hjd ht
    have hjk := F.back k o ho j he
    have hjE := hcl j he
    rw [slot_runs_some (List.mem_range.2 hjk) hjd (fun i hi hd => F.dst i j t (by have := List.mem_range.1 hi; omega) hjm hd hjd),
      slot_runs_some hjE hjd (fun i hi hd => F.dst i j t (hE i hi) hjm hd hjd), hs j hjk hjE]
  · rw [slot_runs_none (fun j hj' hd => hj ⟨j, by have := List.mem_range.1 hj'; omega, hd⟩), slot_runs_none (fun j hj' hd => hj ⟨j, hE j hj', hd⟩)]
def Recd (P : Program) (ops : Array Oper) (W : World) (kind : Nat → Nat) (s : Nat → Option Value) (a : Act) (k : Nat) (o : Oper) : Prop :=
  (Region.wanted o (yielded ops a.tmps) = true ∧ ∃ v, s k = some v ∧ (kind k ≠ 2 → (execOp a.eval o).run P W = .ok (.value v) W)) ∨ (Region.wanted o (yielded ops a.tmps) = false ∧ s k = none)
structure Inv (P : Program) (ops : Array Oper) (C : World → Prop) (R : World → World → Prop) (W : World) (V : Nat → Value → World → Prop) (D : Nat → Nat → Value → Value → Prop) (kind : Nat → Nat) (m : Nat) (a0 : Act)
    (E : List Nat) (s : Nat → Option Value) (w : World) : Prop where
  nodup : E.Nodup
  lt : ∀ j ∈ E, j < m
  cl : ∀ j ∈ E, ∀ o, ops[j]? = some o → ∀ k, edge o k = true → k ∈ E
  hC : C w
  hR : R W w
  facts : ∀ j ∈ E, ∀ v, kind j = 2 → s j = some v → V j v w
  recd : ∀ j ∈ E, ∀ o, ops[j]? = some o → Recd P ops W kind s (runs ops s E a0) j o
  pair : ∀ i ∈ E, ∀ j ∈ E, i ≠ j → kind i = 2 → kind j = 2 → ∀ u v, s i = some u → s j = some v → D i j u v
/-- An operation of the head can be carried out as soon as what it waits for has been. -/
theorem ready_runs (F : Fits ops m kind) (hRr : ∀ a, R a a) (hRt : ∀ a b c, R a b → R b c → R a c) (hV : ∀ i v a b, R a b → V i v a → V i v b) (hCW : C W) {T : Act → World → Prop}
    (hW : Walk P ops C R W V D kind T 0 (ops.toList.take m) (fun _ => none) a0 W) {E : List Nat} {s : Nat → Option Value} {w : World} (I : Inv P ops C R W V D kind m a0 E s w) :
    ∀ k, k ≤ m → ∃ s' w', ((∀ j, j < k → j ∈ E) → w' = w) ∧ C w' ∧ R w w' ∧ (∀ j, j < k → j ∈ E → s' j = s j) ∧ (∀ j, j < k → ∀ v, kind j = 2 → s' j = some v → V j v w') ∧
      ((∀ i j, i < k → j < k → i ≠ j → kind i = 2 → kind j = 2 → ∀ u v, s' i = some u → s' j = some v → D i j u v) ∧
        (∀ i j, i < k → j ∈ E → i ≠ j → kind i = 2 → kind j = 2 → ∀ u v, s' i = some u → s j = some v → D i j u v ∧ D j i v u)) ∧
      Walk P ops C R W V D kind T k ((ops.toList.take m).drop k) s' (runs ops s' (List.range k) a0) w' := by
  intro k
  induction k with
  | zero =>
    intro _
    exact ⟨fun _ => none, w, fun _ => rfl, I.hC, hRr _, fun j hj => absurd hj (by omega), fun j hj => absurd hj (by omega), ⟨fun i j hi => absurd hi (by omega), fun i j hi => absurd hi (by omega)⟩, by simpa [runs] using Walk.mono hRt _ _ _ _ _ _ I.hR hW⟩
  | succ k ih =>
    intro hk
    obtain ⟨s', w', hww, hc, hr, hs, hf, ⟨hp1, hp2⟩, hwalk⟩ := ih (by omega)
    have hww' : (∀ j, j < k + 1 → j ∈ E) → w' = w := fun h => hww fun j hj => h j (by omega)
    have hlt : k < ops.size := by have := F.le; omega
    have ho : ops[k]? = some ops[k] := by simp [hlt]
    have hdrop : (ops.toList.take m).drop k = ops[k] :: (ops.toList.take m).drop (k + 1) := by
      rw [List.drop_eq_getElem_cons (by simp; omega)]
      simp
    rw [hdrop] at hwalk
    generalize hok : ops[k] = o at *
    have hput : ∀ v : Option Value, runs ops (upd s' k v) (List.range (k + 1)) a0 = (runs ops s' (List.range k) a0).put o.dst (v.getD undef) := fun v => by
      rw [List.range_succ, runs_append, upd_same, runs_congr (s' := s') (fun i hi => upd_ne _ _ (by have := List.mem_range.1 hi; omega))]
      simp [dstOf, ho]
    have hsE : ∀ v : Option Value, (k ∈ E → v = s k) → ∀ j, j < k + 1 → j ∈ E → upd s' k v j = s j := fun v hv j hj hjE => by
      by_cases hjk : j = k
      · subst hjk; rw [upd_same]; exact hv hjE
      · rw [upd_ne _ _ hjk]; exact hs j (by omega) hjE
    have hfV : ∀ (v : Option Value) (w2 : World), R w' w2 → (∀ x, kind k = 2 → v = some x → V k x w2) → ∀ j, j < k + 1 → ∀ x, kind j = 2 → upd s' k v j = some x → V j x w2 := fun v w2 hr2 hv j hj x hkj hx => by
      by_cases hjk : j = k
      · subst hjk; rw [upd_same] at hx; exact hv x hkj hx
      · rw [upd_ne _ _ hjk] at hx; exact hV _ _ _ _ hr2 (hf j (by omega) x hkj hx)
    -- the pairs, with what k yields
    have hpp : ∀ (v : Option Value), (∀ x, kind k = 2 → v = some x → (∀ i, i < k → kind i = 2 → ∀ u, s' i = some u → D i k u x ∧ D k i x u) ∧ (∀ j, j ∈ E → k ≠ j → kind j = 2 → ∀ u, s j = some u → D k j x u ∧ D j k u x)) →
        (∀ i j, i < k + 1 → j < k + 1 → i ≠ j → kind i = 2 → kind j = 2 → ∀ u x, upd s' k v i = some u → upd s' k v j = some x → D i j u x) ∧
        (∀ i j, i < k + 1 → j ∈ E → i ≠ j → kind i = 2 → kind j = 2 → ∀ u x, upd s' k v i = some u → s j = some x → D i j u x ∧ D j i x u) := fun v hv => by
      refine ⟨fun i j hi hj hij hki hkj u x hu hx => ?_, fun i j hi hj hij hki hkj u x hu hx => ?_⟩
      · by_cases hik : i = k
        · subst hik
          rw [upd_same] at hu
          rw [upd_ne _ _ (fun e : j = i => hij e.symm)] at hx
          exact ((hv u hki hu).1 j (by omega) hkj x hx).2
        · rw [upd_ne _ _ hik] at hu
          by_cases hjk : j = k
          · subst hjk
            rw [upd_same] at hx
            exact ((hv x hkj hx).1 i (by omega) hki u hu).1
          · rw [upd_ne _ _ hjk] at hx
            exact hp1 i j (by omega) (by omega) hij hki hkj u x hu hx
      · by_cases hik : i = k
        · subst hik
          rw [upd_same] at hu
          exact (hv u hki hu).2 j hj hij hkj x hx
        · rw [upd_ne _ _ hik] at hu
          exact hp2 i j (by omega) hj hij hki hkj u x hu hx
    -- what the record says, if k has been carried out
    have hag : k ∈ E → Agree ops o (runs ops s' (List.range k) a0) (runs ops s E a0) := fun hkE =>
      agree_lex F ho (by omega) I.lt (fun j hj => I.cl k hkE o ho j hj) hs
    unfold Walk at hwalk
    by_cases hw : Region.wanted o (yielded ops (runs ops s' (List.range k) a0).tmps) = true
    · rw [if_pos hw] at hwalk
      by_cases hk2 : kind k = 2
      · rw [if_pos hk2] at hwalk
        by_cases hkE : k ∈ E
        · rcases I.recd k hkE o ho with ⟨_, v, hv, _⟩ | ⟨hn, _⟩
          · have hVk : V k v w' := hV _ _ _ _ hr (I.facts k hkE v hk2 hv)
            refine ⟨upd s' k (some v), w', hww', hc, hr, hsE _ (fun _ => hv.symm), hfV _ _ (hRr _) (fun x _ hx => by cases hx; exact hVk), hpp _ (fun x _ hx => ?_), ?_⟩
            · cases hx
              exact ⟨fun i hi hki u hu => hp2 i k hi hkE (by omega) hki hk2 u v hu hv, fun j hj hkj hkj2 u hu => ⟨I.pair k hkE j hj hkj hk2 hkj2 v u hv hu, I.pair j hj k hkE (fun e => hkj e.symm) hkj2 hk2 u v hu hv⟩⟩
            · rw [hput]; exact hwalk.2 v w' hc (hRr _) hVk (fun j u hj hkj hu => (hp2 j k hj hkE (by omega) hkj hk2 u v hu hv).1)
          · rw [(hag hkE).wanted, hn] at hw; cases hw
        · have hg := hwalk.1 w' hc (hRt _ _ _ I.hR hr) (fun j v he hk hv => hf j (F.back k o ho j he) v hk hv)
          have hex : ∃ v w2, C w2 ∧ R w' w2 ∧ V k v w2 ∧ Apart V D k w' v := by
            generalize (execOp (runs ops s' (List.range k) a0).eval o).run P w' = r at hg
            cases r with
            | ok n w2 =>
              cases n <;> simp only [Gives] at hg
              case value v => exact ⟨v, w2, hg⟩
              case skip => exact ⟨undef, w2, hg⟩
              case enter f args =>
                obtain ⟨e, w3, fr, ⟨v, _, hv⟩, _⟩ := hg []
                exact ⟨v, w3, hv⟩
            | halt h w2 => exact hg.elim
          obtain ⟨v, w2, hc2, hr2, hv2, hap⟩ := hex
          refine ⟨upd s' k (some v), w2, fun h => absurd (h k (by omega)) hkE, hc2, hRt _ _ _ hr hr2, hsE _ (fun h => absurd h hkE), hfV _ _ hr2 (fun x _ hx => by cases hx; exact hv2), hpp _ (fun x _ hx => ?_), ?_⟩
          · cases hx
            exact ⟨fun i hi hki u hu => hap i u (by omega) (hf i hi u hki hu), fun j hj hkj hkj2 u hu => (hap j u (fun e => hkj e.symm) (hV _ _ _ _ hr (I.facts j hj u hkj2 hu))).symm⟩
          · rw [hput]; exact hwalk.2 v w2 hc2 hr2 hv2 (fun j u hj hkj hu => (hap j u (by omega) (hf j hj u hkj hu)).1)
      · rw [if_neg hk2] at hwalk
        obtain ⟨v, h1, h2⟩ := hwalk
        refine ⟨upd s' k (some v), w', hww', hc, hr, hsE _ (fun hkE => ?_), hfV _ _ (hRr _) (fun x h => absurd h hk2), hpp _ (fun x h => absurd h hk2), by rw [hput]; exact h2⟩
        rcases I.recd k hkE o ho with ⟨_, v', hv', hrun⟩ | ⟨hn, _⟩
        · have h3 := hrun hk2
          have h4 := h1 W (fun _ => ⟨hCW, hRr _⟩)
          rw [(hag hkE).exec (fun cs b => F.sel k o cs b ho), h3] at h4
          cases h4; exact hv'.symm
        · rw [(hag hkE).wanted, hn] at hw; cases hw
    · rw [if_neg hw] at hwalk
      refine ⟨upd s' k none, w', hww', hc, hr, hsE _ (fun hkE => ?_), hfV _ _ (hRr _) (fun x _ hx => by cases hx), hpp _ (fun x _ hx => by cases hx), by rw [hput]; exact hwalk⟩
      rcases I.recd k hkE o ho with ⟨hy, _⟩ | ⟨_, hn⟩
      · rw [(hag hkE).wanted, hy] at hw; exact absurd rfl hw
      · exact hn.symm
/-- What the operation i yields now. -/
def Now (P : Program) (ops : Array Oper) (C : World → Prop) (R : World → World → Prop) (W : World) (V : Nat → Value → World → Prop) (D : Nat → Nat → Value → Value → Prop) (kind : Nat → Nat) (i : Nat) (o : Oper) (a : Act) (w : World) : Prop :=
  Region.wanted o (yielded ops a.tmps) = false ∨
  (Region.wanted o (yielded ops a.tmps) = true ∧ kind i = 2 ∧ Gives P C R V D i w ((execOp a.eval o).run P w)) ∨
  (Region.wanted o (yielded ops a.tmps) = true ∧ kind i ≠ 2 ∧ ∃ v, ∀ w', (kind i = 1 → C w' ∧ R W w') → (execOp a.eval o).run P w' = .ok (.value v) w')
theorem now_of (F : Fits ops m kind) (hRr : ∀ a, R a a) (hRt : ∀ a b c, R a b → R b c → R a c) (hV : ∀ i v a b, R a b → V i v a → V i v b) (hCW : C W) {T : Act → World → Prop}
    (hW : Walk P ops C R W V D kind T 0 (ops.toList.take m) (fun _ => none) a0 W) {E : List Nat} {s : Nat → Option Value} {w : World} (I : Inv P ops C R W V D kind m a0 E s w)
    {i : Nat} {o : Oper} (ho : ops[i]? = some o) (hi : i < m) (he : ∀ j, edge o j = true → j ∈ E) : Now P ops C R W V D kind i o (runs ops s E a0) w := by
  obtain ⟨s', w', _, hc, hr, hs, hf, _, hwalk⟩ := ready_runs F hRr hRt hV hCW hW I i (by omega)
  have hlt : i < ops.size := by have := F.le; omega
  have hdrop : (ops.toList.take m).drop i = ops[i] :: (ops.toList.take m).drop (i + 1) := by
    rw [List.drop_eq_getElem_cons (by simp; omega)]
    simp
  have hoe : ops[i] = o := by simpa [hlt] using ho
  rw [hdrop, hoe] at hwalk
  have hag := agree_lex (a0 := a0) F ho hi I.lt he hs
  unfold Walk at hwalk
  unfold Now
  rw [← hag.wanted, ← hag.exec (fun cs b => F.sel i o cs b ho)]
  by_cases hw : Region.wanted o (yielded ops (runs ops s' (List.range i) a0).tmps) = true
  · rw [if_pos hw] at hwalk
    by_cases hk2 : kind i = 2
    · rw [if_pos hk2] at hwalk
      exact .inr (.inl ⟨hw, hk2, hwalk.1 w I.hC I.hR (fun j v hj hk hv => I.facts j (he j hj) v hk (by rw [← hs j (F.back i o ho j hj) (he j hj)]; exact hv))⟩)
    · rw [if_neg hk2] at hwalk
      obtain ⟨v, h1, _⟩ := hwalk
      exact .inr (.inr ⟨hw, hk2, v, h1⟩)
  · exact .inl (by simpa using hw)
theorem Inv.snoc (F : Fits ops m kind) (hRt : ∀ a b c, R a b → R b c → R a c) (hV : ∀ i v a b, R a b → V i v a → V i v b) {E : List Nat} {s : Nat → Option Value} {w w2 : World}
    (I : Inv P ops C R W V D kind m a0 E s w) {i : Nat} {o : Oper} (ho : ops[i]? = some o) (hi : i < m) (hiE : i ∉ E) (he : ∀ j, edge o j = true → j ∈ E) (v : Option Value)
    (hc : C w2) (hr : R w w2) (hv : ∀ x, kind i = 2 → v = some x → V i x w2) (hd : ∀ x, kind i = 2 → v = some x → Apart V D i w x)
    (hrec : (Region.wanted o (yielded ops (runs ops s E a0).tmps) = true ∧ ∃ x, v = some x ∧ (kind i ≠ 2 → (execOp (runs ops s E a0).eval o).run P W = .ok (.value x) W)) ∨
      (Region.wanted o (yielded ops (runs ops s E a0).tmps) = false ∧ v = none)) :
    Inv P ops C R W V D kind m a0 (E ++ [i]) (upd s i v) w2 ∧ runs ops (upd s i v) (E ++ [i]) a0 = (runs ops s E a0).put o.dst (v.getD undef) := by
  have hact : runs ops (upd s i v) (E ++ [i]) a0 = (runs ops s E a0).put o.dst (v.getD undef) := by
    rw [runs_append, upd_same, runs_congr (s' := s) (fun j hj => upd_ne _ _ (fun e : j = i => hiE (e ▸ hj)))]
    simp [dstOf, ho]
  have hdi : dstOf ops i = o.dst := by simp [dstOf, ho]
  have hag : ∀ j ok, (j ∈ E ∨ j = i) → ops[j]? = some ok → Agree ops ok (runs ops s E a0) ((runs ops s E a0).put o.dst (v.getD undef)) := fun j ok hj hok t ht => by
    rw [slot_put]
    by_cases hd : o.dst = some t
    · have hed := F.looks j ok i t hok (by rcases hj with h | h; exact I.lt j h; omega) hi (hdi.trans hd) ht
      rcases hj with h | h
      · exact absurd (I.cl j h ok hok i hed) hiE
      · subst h; exact absurd (F.back j ok hok j hed) (by omega)
    · rw [if_neg hd]
  have hmem : ∀ j, j ∈ E ++ [i] ↔ j ∈ E ∨ j = i := fun j => by simp
  refine ⟨⟨?_, ?_, ?_, hc, hRt _ _ _ I.hR hr, ?_, ?_, ?_⟩, hact⟩
  · exact List.nodup_append.2 ⟨I.nodup, by simp, fun a ha b hb e => by simp at hb; subst hb; subst e; exact hiE ha⟩
  · intro j hj
    rcases (hmem j).1 hj with h | h
    · exact I.lt j h
    · omega
  · intro j hj ok hok k hk
    rw [hmem]
    rcases (hmem j).1 hj with h | h
    · exact .inl (I.cl j h ok hok k hk)
    · subst h
      rw [ho] at hok; cases hok
      exact .inl (he k hk)
  · intro j hj x hk hx
    rcases (hmem j).1 hj with h | h
    · rw [upd_ne _ _ (fun e : j = i => hiE (e ▸ h))] at hx
      exact hV _ _ _ _ hr (I.facts j h x hk hx)
    · subst h
      rw [upd_same] at hx
      exact hv x hk hx
  · intro j hj ok hok
    rw [hact]
    unfold Recd
    rw [← (hag j ok ((hmem j).1 hj) hok).wanted, ← (hag j ok ((hmem j).1 hj) hok).exec (fun cs b => F.sel j ok cs b hok)]
    rcases (hmem j).1 hj with h | h
    · rw [upd_ne _ _ (fun e : j = i => hiE (e ▸ h))]
      exact I.recd j h ok hok
    · subst h
      rw [ho] at hok; cases hok
      rw [upd_same]
      exact hrec
  · intro j hj j' hj' hne hkj hkj' u x hu hx
    rcases (hmem j).1 hj with h | h <;> rcases (hmem j').1 hj' with h' | h'
    · rw [upd_ne _ _ (fun e : j = i => hiE (e ▸ h))] at hu
      rw [upd_ne _ _ (fun e : j' = i => hiE (e ▸ h'))] at hx
      exact I.pair j h j' h' hne hkj hkj' u x hu hx
    · subst h'
      rw [upd_ne _ _ hne] at hu
      rw [upd_same] at hx
      exact (hd x hkj' hx j u hne (I.facts j h u hkj hu)).1
    · subst h
      rw [upd_same] at hu
      rw [upd_ne _ _ (fun e : j' = j => hne e.symm)] at hx
      exact (hd u hkj hu j' x (fun e => hne e.symm) (I.facts j' h' x hkj' hx)).2
    · omega
/-- The array of what has been carried out. -/
def Lists (ops : Array Oper) (L : Array Bool) (E : List Nat) : Prop := L.size = ops.size ∧ ∀ j, L.getD j false = true ↔ j ∈ E
theorem Lists.set {L : Array Bool} {E : List Nat} (h : Lists ops L E) {i : Nat} (hi : i < ops.size) : Lists ops (L.setIfInBounds i true) (E ++ [i]) := by
  refine ⟨by simp [h.1], fun j => ?_⟩
  by_cases hij : i = j
  · subst hij
    simp [h.1, hi]
  · rw [getD_set_ne false hij, h.2 j]
    simp; omega
theorem Lists.not {L : Array Bool} {E : List Nat} (h : Lists ops L E) {j : Nat} (hj : L.getD j true = false) : j ∉ E := fun hE => by
  have h1 := (h.2 j).2 hE
  rcases Nat.lt_or_ge j L.size with h' | h'
  · simp [h'] at hj h1; rw [h1] at hj; cases hj
  · simp [Array.getElem?_eq_none h'] at h1
theorem Lists.false {L : Array Bool} {E : List Nat} (h : Lists ops L E) {j : Nat} (hj : j < ops.size) (hE : j ∉ E) : L.getD j true = false := by
  have hjL : j < L.size := by rw [h.1]; exact hj
  cases hb : L.getD j true with
  | false => rfl
  | true =>
    exfalso
    exact hE ((h.2 j).1 (by simp [hjL] at hb ⊢; exact hb))
theorem Lists.ready {L : Array Bool} {E : List Nat} (h : Lists ops L E) {i : Nat} : i ∈ Region.ready .any ops L ↔ i ∉ E ∧ ∃ o, ops[i]? = some o ∧ ∀ j, edge o j = true → j ∈ E := by
  rw [mem_ready]
  constructor
  · rintro ⟨h0, o, ho, he⟩
    exact ⟨h.not h0, o, ho, fun j hj => by
      obtain ⟨e, hm, hb, rfl⟩ := edge_iff.1 hj
      exact (h.2 _).1 (he e hm hb)⟩
  · rintro ⟨hE, o, ho, he⟩
    exact ⟨h.false (Array.getElem?_eq_some_iff.1 ho).1 hE, o, ho, fun e hm hb => (h.2 _).2 (he _ (edge_iff.2 ⟨e, hm, hb, rfl⟩))⟩
/-- The tail: one order alone. -/
theorem tail_any (F : Fits ops m kind) : ∀ (fuel k : Nat) (L : Array Bool) (E : List Nat) (a : Act) (w : World), m ≤ k → k ≤ ops.size → ops.size ≤ fuel + k → Lists ops L E → (∀ j, j ∈ E ↔ j < k) →
    wpList P ops Q (ops.toList.drop k) a w → wpAny P .any ops Q fuel L a w := by
  intro fuel
  induction fuel with
  | zero =>
    intro k L E a w hmk hk hf hL hE h
    obtain rfl : k = ops.size := by omega
    rw [List.drop_eq_nil_of_le (by simp)] at h
    refine ⟨List.eq_nil_iff_forall_not_mem.2 fun i hi => ?_, h⟩
    obtain ⟨h1, o, ho, _⟩ := hL.ready.1 hi
    exact h1 ((hE i).2 (Array.getElem?_eq_some_iff.1 ho).1)
  | succ fuel ih =>
    intro k L E a w hmk hk hf hL hE h
    refine ⟨fun hn => ?_, fun i hi => ?_⟩
    · rcases Nat.lt_or_ge k ops.size with hlt | hge
      · exfalso
        have : k ∈ Region.ready .any ops L := hL.ready.2 ⟨fun h' => absurd ((hE k).1 h') (by omega), ops[k], by simp [hlt], fun j hj => (hE j).2 (F.back k ops[k] (by simp [hlt]) j hj)⟩
        rw [hn] at this; cases this
      · rw [List.drop_eq_nil_of_le (by simp; omega)] at h
        exact h
    · obtain ⟨h1, o, ho, he⟩ := hL.ready.1 hi
      have hilt : i < ops.size := (Array.getElem?_eq_some_iff.1 ho).1
      have hik : i = k := by
        rcases Nat.lt_trichotomy i k with h' | h' | h'
        · exact absurd ((hE i).2 h') h1
        · exact h'
        · exact absurd ((hE k).1 (he k (F.seq i o (by omega) ho k hmk h'))) (by omega)
      subst hik
      have hoe : ops[i] = o := by simpa [hilt] using ho
      rw [List.drop_eq_getElem_cons (by simpa using hilt)] at h
      simp only [Array.getElem_toList, hoe] at h
      have hset := hL.set hilt
      have hE' : ∀ j, j ∈ E ++ [i] ↔ j < i + 1 := fun j => by simp [hE j]; omega
      have hnext : ∀ a w, wpList P ops Q (ops.toList.drop (i + 1)) a w → wpAny P .any ops Q fuel (L.setIfInBounds i true) a w := fun a w => ih (i + 1) _ _ a w (by omega) (by omega) (by omega) hset hE'
      unfold wpOp
      rw [ho]
      unfold wpList at h
      dsimp only
      split
      · rename_i hw
        rw [if_pos hw] at h
        rcases h with h | h
        · exact .inl (Oper.wp_mono hnext h)
        · exact .inr h
      · rename_i hw
        rw [if_neg hw] at h
        exact hnext _ _ h
theorem runs_defers (s : Nat → Option Value) (E : List Nat) (a : Act) : (runs ops s E a).defers = a.defers := by
  induction E generalizing a with
  | nil => rfl
  | cons j E ih => simp only [runs, ih]; cases dstOf ops j <;> rfl
/-- Whatever the order was: the frame at the end is the one of the text's order. -/
theorem runs_all (F : Fits ops m kind) {E : List Nat} (hlt : ∀ j ∈ E, j < m) (hall : ∀ i, i < m → i ∈ E) {s s' : Nat → Option Value} (hs : ∀ j, j < m → s' j = s j) :
    runs ops s E a0 = runs ops s' (List.range m) a0 := by
  have ht : (runs ops s E a0).tmps = (runs ops s' (List.range m) a0).tmps := by
    apply Array.ext'
    apply List.ext_getElem?
    intro t
    rw [Array.getElem?_toList, Array.getElem?_toList]
    by_cases hj : ∃ j, j < m ∧ dstOf ops j = some t
    · obtain ⟨j, hjm, hjd⟩ := hj
      rw [slot_runs_some (hall j hjm) hjd (fun i hi hd => F.dst i j t (hlt i hi) hjm hd hjd),
        slot_runs_some (List.mem_range.2 hjm) hjd (fun i hi hd => F.dst i j t (List.mem_range.1 hi) hjm hd hjd), hs j hjm]
    · rw [slot_runs_none (fun j hj' hd => hj ⟨j, hlt j hj', hd⟩), slot_runs_none (fun j hj' hd => hj ⟨j, List.mem_range.1 hj', hd⟩)]
  have hd : (runs ops s E a0).defers = (runs ops s' (List.range m) a0).defers := by rw [runs_defers, runs_defers]
  generalize runs ops s E a0 = x at *
  generalize runs ops s' (List.range m) a0 = y at *
  cases x; cases y
  simp only at ht hd
  rw [ht, hd]
theorem head_any (F : Fits ops m kind) (hRr : ∀ a, R a a) (hRt : ∀ a b c, R a b → R b c → R a c) (hV : ∀ i v a b, R a b → V i v a → V i v b) (hCW : C W)
    (hQ : ∀ c a a' w, Q (.panic c) a w → Q (.panic c) a' w)
    (hW : Walk P ops C R W V D kind (fun a w => wpList P ops Q (ops.toList.drop m) a w) 0 (ops.toList.take m) (fun _ => none) a0 W) :
    ∀ (fuel : Nat) (E : List Nat) (s : Nat → Option Value) (w : World) (L : Array Bool), Inv P ops C R W V D kind m a0 E s w → Lists ops L E → ops.size ≤ fuel + E.length →
      wpAny P .any ops Q fuel L (runs ops s E a0) w := by
  have hend : ∀ (fuel : Nat) (E : List Nat) (s : Nat → Option Value) (w : World) (L : Array Bool), Inv P ops C R W V D kind m a0 E s w → Lists ops L E → ops.size ≤ fuel + E.length →
      (∀ i, i < m → i ∈ E) → wpAny P .any ops Q fuel L (runs ops s E a0) w := by
    intro fuel E s w L I hL hf hall
    obtain ⟨s', w', hww, hc, hr, hs, hfa, _, hwalk⟩ := ready_runs F hRr hRt hV hCW hW I m (Nat.le_refl _)
    obtain rfl := hww hall
    have hlen := (nodup_lt m E I.nodup I.lt).1
    rw [show (ops.toList.take m).drop m = [] from List.drop_eq_nil_of_le (by simp; omega)] at hwalk
    unfold Walk at hwalk
    rw [runs_all F I.lt hall (fun j hj => hs j hj (hall j hj))]
    exact tail_any F fuel m L E _ _ (Nat.le_refl _) F.le (by omega) hL (fun j => ⟨fun h => I.lt j h, fun h => hall j h⟩) (hwalk w' I.hC (hRr _))
  intro fuel
  induction fuel with
  | zero =>
    intro E s w L I hL hf
    have hn := nodup_lt m E I.nodup I.lt
    exact hend 0 E s w L I hL hf (hn.2 (by have := F.le; omega))
  | succ fuel ih =>
    intro E s w L I hL hf
    by_cases hall : ∀ i, i < m → i ∈ E
    · exact hend _ E s w L I hL hf hall
    · -- the first that is left waits for nothing more
      have hex : ∃ i, i < m ∧ i ∉ E ∧ ∀ j, j < i → j ∈ E := by
        have : ∀ n, n ≤ m → (∀ j, j < n → j ∈ E) ∨ ∃ i, i < m ∧ i ∉ E ∧ ∀ j, j < i → j ∈ E := by
          intro n
          induction n with
          | zero => exact fun _ => .inl fun j hj => absurd hj (by omega)
          | succ n ih2 =>
            intro hn
            rcases ih2 (by omega) with h | h
            · by_cases hnE : n ∈ E
              · exact .inl fun j hj => by
                  by_cases hjn : j = n
                  · subst hjn; exact hnE
                  · exact h j (by omega)
              · exact .inr ⟨n, by omega, hnE, h⟩
            · exact .inr h
        rcases this m (Nat.le_refl _) with h | h
        · exact absurd h hall
        · exact h
      obtain ⟨i0, hi0, hi0E, hi0p⟩ := hex
      have hi0lt : i0 < ops.size := by have := F.le; omega
      have hi0r : i0 ∈ Region.ready .any ops L := hL.ready.2 ⟨hi0E, ops[i0], by simp [hi0lt], fun j hj => hi0p j (F.back i0 ops[i0] (by simp [hi0lt]) j hj)⟩
      have hNow : ∀ {i : Nat} {o : Oper}, ops[i]? = some o → i < m → (∀ j, edge o j = true → j ∈ E) → Now P ops C R W V D kind i o (runs ops s E a0) w :=
        fun ho hi he => now_of F hRr hRt hV hCW hW I ho hi he
      by_cases hp : ∃ i o, i < m ∧ i ∉ E ∧ ops[i]? = some o ∧ (∀ j, edge o j = true → j ∈ E) ∧ kind i = 0
      · obtain ⟨i, o, hi, hiE, ho, he, hk⟩ := hp
        have hilt : i < ops.size := (Array.getElem?_eq_some_iff.1 ho).1
        have key : ∀ v : Option Value, (Yields P ops o (v.getD undef) (runs ops s E a0)) →
            ((Region.wanted o (yielded ops (runs ops s E a0).tmps) = true ∧ ∃ x, v = some x ∧ (kind i ≠ 2 → (execOp (runs ops s E a0).eval o).run P W = .ok (.value x) W)) ∨
              (Region.wanted o (yielded ops (runs ops s E a0).tmps) = false ∧ v = none)) → wpAny P .any ops Q (fuel + 1) L (runs ops s E a0) w := fun v hy hrec => by
          obtain ⟨I', hact⟩ := I.snoc F hRt hV ho hi hiE he v I.hC (hRr _) (fun x h => absurd h (by omega)) (fun x h => absurd h (by omega)) hrec
          refine wpAny_first ho (fun j oj cs b hj => F.sel j oj cs b hj) (fun c a w h => hQ c _ _ w h) fuel L _ w ?_ (hL.ready.2 ⟨hiE, o, ho, he⟩) hy ?_
          · intro j oj hj hji hjL hno
            have hjE := hL.not hjL
            refine F.pure i o j oj hi hk ho hj hji ?_ ?_
            · cases hed : edge oj i with
              | false => rfl
              | true =>
                obtain ⟨e, hm, hb, hon⟩ := edge_iff.1 hed
                exact absurd hon (hno e hm hb)
            · cases hed : edge o j with
              | false => rfl
              | true => exact absurd (he j hed) hjE
          · rw [← hact]
            exact ih _ _ _ _ I' (hL.set hilt) (by simp; omega)
        rcases hNow ho hi he with hw | ⟨_, hk2, _⟩ | ⟨hw, _, v, hv⟩
        · exact key none (.inr ⟨hw, rfl⟩) (.inr ⟨hw, rfl⟩)
        · omega
        · exact key (some v) (.inl ⟨hw, fun w' => hv w' (fun h => absurd h (by omega))⟩) (.inl ⟨hw, v, rfl, fun _ => hv W (fun h => absurd h (by omega))⟩)
      · refine ⟨fun hn => (by rw [hn] at hi0r; cases hi0r), fun i hir => ?_⟩
        obtain ⟨hiE, o, ho, he⟩ := hL.ready.1 hir
        have hilt : i < ops.size := (Array.getElem?_eq_some_iff.1 ho).1
        have hk0 : kind i0 ≠ 0 := fun h => hp ⟨i0, ops[i0], hi0, hi0E, by simp [hi0lt], fun j hj => hi0p j (F.back i0 ops[i0] (by simp [hi0lt]) j hj), h⟩
        have him : i < m := by
          rcases Nat.lt_or_ge i m with h | h
          · exact h
          · rcases F.tail i o h ho i0 hi0 hk0 with h1 | ⟨k1, ok1, h1, h2, h3⟩
            · exact absurd (he i0 h1) hi0E
            · exact absurd (I.cl k1 (he k1 h1) ok1 h2 i0 h3) hi0E
        have hgo : ∀ (v : Option Value) (w2 : World), C w2 → R w w2 → (∀ x, kind i = 2 → v = some x → V i x w2) → (∀ x, kind i = 2 → v = some x → Apart V D i w x) →
            ((Region.wanted o (yielded ops (runs ops s E a0).tmps) = true ∧ ∃ x, v = some x ∧ (kind i ≠ 2 → (execOp (runs ops s E a0).eval o).run P W = .ok (.value x) W)) ∨
              (Region.wanted o (yielded ops (runs ops s E a0).tmps) = false ∧ v = none)) →
            wpAny P .any ops Q fuel (L.setIfInBounds i true) ((runs ops s E a0).put o.dst (v.getD undef)) w2 := fun v w2 hc hr hv hd hrec => by
          obtain ⟨I', hact⟩ := I.snoc F hRt hV ho him hiE he v hc hr hv hd hrec
          rw [← hact]
          exact ih _ _ _ _ I' (hL.set hilt) (by simp; omega)
        unfold wpOp
        rw [ho]
        dsimp only
        rcases hNow ho him he with hw | ⟨hw, hk2, hg⟩ | ⟨hw, hkn, v, hv⟩
        · rw [if_neg (by rw [hw]; exact Bool.false_ne_true)]
          exact hgo none w I.hC (hRr _) (fun x _ h => by cases h) (fun x _ h => by cases h) (.inr ⟨hw, rfl⟩)
        · rw [if_pos hw]
          refine .inl ?_
          have hgo2 : ∀ v w2, C w2 → R w w2 → V i v w2 → Apart V D i w v → wpAny P .any ops Q fuel (L.setIfInBounds i true) ((runs ops s E a0).put o.dst v) w2 := fun v w2 hc hr hv hd =>
            hgo (some v) w2 hc hr (fun x _ h => by cases h; exact hv) (fun x _ h => by cases h; exact hd) (.inl ⟨hw, v, rfl, fun h => absurd hk2 h⟩)
          unfold Oper.wp
          generalize (execOp (runs ops s E a0).eval o).run P w = r at hg
          cases r with
          | ok n w2 =>
            cases n <;> simp only [Gives] at hg
            case value v => exact hgo2 v w2 hg.1 hg.2.1 hg.2.2.1 hg.2.2.2
            case skip => exact hgo2 undef w2 hg.1 hg.2.1 hg.2.2.1 hg.2.2.2
            case enter f args =>
              refine Calls.mono hg ?_
              rintro e w3 ⟨v, rfl, hc, hr, hv, hd⟩
              exact hgo2 v w3 hc hr hv hd
          | halt h w2 => exact hg.elim
        · rw [if_pos hw]
          refine .inl ?_
          have hcl : kind i = 1 → C w ∧ R W w := fun _ => ⟨I.hC, I.hR⟩
          unfold Oper.wp
          rw [hv w hcl]
          exact hgo (some v) w I.hC (hRr _) (fun x h => absurd h hkn) (fun x h => absurd h hkn) (.inl ⟨hw, v, rfl, fun _ => hv W (fun _ => ⟨hCW, hRr _⟩)⟩)
end main
/-- an operation that is waited for waits for j -/
def far (l : List Oper) (i : Nat) (oi : Oper) (j : Nat) : Bool := (List.range i).any fun k => edge oi k && match l[k]? with
  | some ok => edge ok j
  | none => false
def okAt (l : List Oper) (m : Nat) (kind : Nat → Nat) (i : Nat) (oi : Oper) : Bool :=
  ((oi.after.all (fun e => !Region.binds .any e || decide (e.on < i)) &&
  (decide (m ≤ i) || ((List.range m).all fun j =>
    (j == i || match dstOf l.toArray i with | none => true | some t => dstOf l.toArray j != some t) &&
    (match dstOf l.toArray j with | none => true | some t => !(oi.looksAt l.toArray).contains t || edge oi j)))) &&
  (decide (m ≤ i) || kind i != 0 || (List.range l.length).all fun j => j == i || match l[j]? with
    | none => true
    | some oj => edge oj i || edge oi j || oi.apart l.toArray oj)) &&
  (decide (i < m) || (List.range i).all fun j => (if j < m then kind j == 0 || far l i oi j else false) || edge oi j)
def ordB (l : List Oper) (m : Nat) (kind : Nat → Nat) : Bool :=
  (decide (m ≤ l.length) &&
  l.all (fun o => match o.op with | .select .. => false | _ => true)) &&
  (List.range l.length).all fun i => match l[i]? with
    | none => true
    | some oi => okAt l m kind i oi
theorem fits_of {l : List Oper} {m : Nat} {kind : Nat → Nat} (h : ordB l m kind = true) : Fits l.toArray m kind := by
  unfold ordB at h
  simp only [Bool.and_eq_true, decide_eq_true_eq, List.all_eq_true, List.mem_range] at h
  obtain ⟨⟨hle, hsel⟩, hall⟩ := h
  have get : ∀ (i : Nat) (o : Oper), l.toArray[i]? = some o → l[i]? = some o ∧ i < l.length := fun i o ho => by
    have h1 : l[i]? = some o := by simpa using ho
    exact ⟨h1, (List.getElem?_eq_some_iff.1 h1).1⟩
  have main : ∀ (i : Nat) (o : Oper), l.toArray[i]? = some o → ((_ = true ∧ _ = true) ∧ _ = true) ∧ _ = true := fun i o ho => by
    have h1 := hall i (get i o ho).2
    rw [(get i o ho).1] at h1
    have h2 : okAt l m kind i o = true := h1
    unfold okAt at h2
    simpa only [Bool.and_eq_true] using h2
  have lt : ∀ (i : Nat), i < m → ∃ o, l.toArray[i]? = some o := fun i hi => ⟨l[i]'(by omega), by simp⟩
  refine ⟨by simpa using hle, ?_, ?_, ?_, ?_, ?_, ?_, ?_⟩
  · intro j o cs b ho heq
    have := hsel o (List.mem_of_getElem? (get j o ho).1)
    simp [heq] at this
  · intro i o ho j he
    obtain ⟨e, hm, hb, rfl⟩ := edge_iff.1 he
    have h1 := (main i o ho).1.1.1
    have h2 := Array.all_eq_true_iff_forall_mem.1 h1 e hm
    simpa [hb] using h2
  · intro i j t hi hj hdi hdj
    obtain ⟨o, ho⟩ := lt i hi
    have h1 := (main i o ho).1.1.2
    simp only [Bool.or_eq_true, decide_eq_true_eq, List.all_eq_true, List.mem_range, Bool.and_eq_true] at h1
    rcases h1 with h1 | h1
    · omega
    · have h2 := (h1 j hj).1
      rw [hdi] at h2
      simp only [beq_iff_eq, bne_iff_ne, hdj, ne_eq, not_true_eq_false, or_false] at h2
      exact h2.symm
  · intro i o j t ho hi hj hd ht
    have h1 := (main i o ho).1.1.2
    simp only [Bool.or_eq_true, decide_eq_true_eq, List.all_eq_true, List.mem_range, Bool.and_eq_true] at h1
    rcases h1 with h1 | h1
    · omega
    · have h2 := (h1 j hj).2
      rw [hd] at h2
      simp only [Bool.or_eq_true, Bool.not_eq_true', List.contains_eq_mem, decide_eq_false_iff_not] at h2
      exact h2.resolve_left (fun h => h ht)
  · intro i oi j oj hi hk hoi hoj hji h1 h2
    have h3 := (main i oi hoi).1.2
    simp only [Bool.or_eq_true, decide_eq_true_eq, List.all_eq_true, List.mem_range, bne_iff_ne, ne_eq, hk, not_true_eq_false, or_false, beq_iff_eq] at h3
    rcases h3 with h3 | h3
    · omega
    · have h4 := (h3 j (get j oj hoj).2).resolve_left hji
      rw [(get j oj hoj).1] at h4
      simpa [h1, h2] using h4
  · intro t o ht ho i hi hk
    have h1 := (main t o ho).2
    simp only [Bool.or_eq_true, decide_eq_true_eq, List.all_eq_true, List.mem_range] at h1
    rcases h1 with h1 | h1
    · omega
    · have h2 := h1 i (by omega)
      simp only [hi, if_true, Bool.or_eq_true, beq_iff_eq, hk, false_or] at h2
      rcases h2 with h2 | h2
      · right
        unfold far at h2
        rw [List.any_eq_true] at h2
        obtain ⟨k, hk1, hk2⟩ := h2
        rw [Bool.and_eq_true] at hk2
        obtain ⟨hk2, hk3⟩ := hk2
        cases hlk : l[k]? with
        | none => rw [hlk] at hk3; cases hk3
        | some ok => rw [hlk] at hk3; exact ⟨k, ok, hk2, by simpa using hlk, hk3⟩
      · exact .inl h2
  · intro t o ht ho j hj hjt
    have h1 := (main t o ho).2
    simp only [Bool.or_eq_true, decide_eq_true_eq, List.all_eq_true, List.mem_range] at h1
    rcases h1 with h1 | h1
    · omega
    · have h2 := h1 j hjt
      simpa [show ¬ j < m by omega] using h2
/-- A REGION THAT DRAWS ITS ORDER: its head in the order of the text, each told value under its closed predicate; then its tail. -/
theorem wp_region_ord {P : Program} {id : Nat} {Q : Exit → Act → World → Prop} {a : Act} {w : World} {l : List Oper} (m : Nat) (ks : List Nat) (C : World → Prop) (R : World → World → Prop)
    (V : Nat → Value → World → Prop) (D : Nat → Nat → Value → Value → Prop) (hm : P.follows .mixedOrders = true) (hB : ordB l m (fun i => ks.getD i 0) = true) (hRr : ∀ a, R a a) (hRt : ∀ a b c, R a b → R b c → R a c)
    (hV : ∀ i v a b, R a b → V i v a → V i v b) (hQ : ∀ c a a' w, Q (.panic c) a w → Q (.panic c) a' w) (hC : C w.drew)
    (h : Walk P l.toArray C R w.drew V D (fun i => ks.getD i 0) (fun a w => wpList P l.toArray Q (l.drop m) a w) 0 (l.take m) (fun _ => none) a w.drew) : (Code.region id l.toArray true).wp P Q a w := by
  refine wp_region_any hm ?_
  have hF := fits_of hB
  refine head_any (a0 := a) hF hRr hRt hV hC hQ (by simpa using h) l.toArray.size [] (fun _ => none) w.drew _ ⟨by simp, by simp, by simp, hC, hRr _, by simp, by simp, by simp⟩ ⟨by simp, fun j => ?_⟩ (by simp)
  simp [Array.getElem?_replicate]
  split <;> simp
end Go.K2
end
section
namespace Go.K
open Go Go.RowKit
/-- What the operations of a region may do to the world; blocks from B on stay. -/
structure Rel where
  r : World → World → Prop
  re : ∀ a, r a a
  tr : ∀ a b c, r a b → r b c → r a c
  ext : ∀ a b, Ext a b → r a b
  sz : ∀ a b, r a b → a.heap.size ≤ b.heap.size
  B : Nat
  keep : ∀ a b k o, r a b → B ≤ k → a.heap[k]? = some o → b.heap[k]? = some o
def RE : Rel := ⟨Ext, Ext.refl, fun _ _ _ h k => h.trans k, fun _ _ h => h, fun _ _ h => h.size, 0, fun _ _ _ _ h _ hk => h.block hk⟩
/-- the block that a value points to -/
def blk : Value → Option Nat
  | .pointer (some a) => some a.block
  | .slice (some a) _ _ => some a.block
  | _ => none
/-- A predicate on a value that stays; nw: the value is a new block's. -/
structure SQ (R : Rel) where
  p : Value → World → Prop
  st : ∀ v a b, R.r a b → p v a → p v b
  nw : Bool
  lt : nw = true → ∀ v w, p v w → ∃ g, blk v = some g ∧ g < w.heap.size
def SQ.any {R : Rel} : SQ R := ⟨fun _ _ => True, fun _ _ _ _ _ => trivial, false, fun h => by cases h⟩
def SQ.is {R : Rel} (c : Value) : SQ R := ⟨fun v _ => v = c, fun _ _ _ _ h => h, false, fun h => by cases h⟩
def SQ.of (s : SP) : SQ RE := ⟨s.p, s.st, false, fun h => by cases h⟩
def NewB (B : Nat) (f : Nat → Value) (o : Obj) (v : Value) (w : World) : Prop := ∃ h, v = f h ∧ B ≤ h ∧ w.heap[h]? = some o
def ptrAt (h : Nat) : Value := .pointer (some ⟨h, 0, none⟩)
def slAt (n : Nat) (h : Nat) : Value := .slice (some ⟨h, 0, none⟩) n n
def SQ.newB {R : Rel} (B : Nat) (f : Nat → Value) (hf : ∀ h, blk (f h) = some h) (hB : R.B ≤ B) (o : Obj) : SQ R :=
  ⟨NewB B f o, fun _ _ _ hx ⟨h, hv, hb, hk⟩ => ⟨h, hv, hb, R.keep _ _ _ _ hx (by omega) hk⟩, true, fun _ v w ⟨h, hv, _, hk⟩ => ⟨h, by rw [hv]; exact hf h, (Array.getElem?_eq_some_iff.1 hk).1⟩⟩
def SQ.new {R : Rel} (B : Nat) (hB : R.B ≤ B) (o : Obj) : SQ R := SQ.newB B ptrAt (fun _ => rfl) hB o
def SQ.sl {R : Rel} (n B : Nat) (hB : R.B ≤ B) (o : Obj) : SQ R := SQ.newB B (slAt n) (fun _ => rfl) hB o
variable {R : Rel}
def qvals (vs : List (SQ R)) (i : Nat) (v : Value) (w : World) : Prop := (vs.getD i SQ.any).p v w
def qD (vs : List (SQ R)) (i j : Nat) (u v : Value) : Prop := (vs.getD i SQ.any).nw = true → (vs.getD j SQ.any).nw = true → blk u ≠ blk v
theorem qApart (vs : List (SQ R)) {k : Nat} (h : (vs.getD k SQ.any).nw = false) (w : World) (v : Value) : K2.Apart (qvals vs) (qD vs) k w v :=
  fun j u _ _ => ⟨fun _ h2 => absurd (h.symm.trans h2) (by decide), fun h1 _ => absurd (h.symm.trans h1) (by decide)⟩
theorem qApart_new (vs : List (SQ R)) {k : Nat} {w : World} {v : Value} (hv : blk v = some w.heap.size) : K2.Apart (qvals vs) (qD vs) k w v := by
  intro j u hj hu
  have key : (vs.getD j SQ.any).nw = true → blk u ≠ blk v := fun h1 => by
    obtain ⟨g, hg, hl⟩ := (vs.getD j SQ.any).lt h1 u w hu
    rw [hg, hv]
    intro e
    cases e
    omega
  exact ⟨fun h1 _ => key h1, fun _ h2 => fun e => key h2 e.symm⟩
/-- (a structure: so no step evaluates the rest of the walk) -/
structure WalkY (P : Program) (ops : Array Oper) (W : World) (ks : List Nat) (vs : List (SQ R)) (T : Act → World → Prop) (k : Nat) (l : List Oper) (s : Nat → Option Value) (a : Act) (w : World) : Prop where
  out : K2.Walk P ops (fun _ => True) R.r W (qvals vs) (qD vs) (fun i => ks.getD i 0) T k l s a w
theorem wp_region_y {P : Program} {id : Nat} {Q : Exit → Act → World → Prop} {a : Act} {w : World} {l : List Oper} (m : Nat) (ks : List Nat) (vs : List (SQ R))
    (hm : P.follows .mixedOrders = true) (hB : K2.ordB l m (fun i => ks.getD i 0) = true)
    (h : WalkY P l.toArray w.drew ks vs (fun a w => wpList P l.toArray (NoPanic Q) (l.drop m) a w) 0 (l.take m) (fun _ => none) a w.drew) : (Code.region id l.toArray true).wp P Q a w :=
  wp_region_noPanic (K2.wp_region_ord m ks (fun _ => True) R.r (qvals vs) (qD vs) hm hB R.re R.tr (fun i v a b hx hv => (vs.getD i SQ.any).st v a b hx hv) (fun _ _ _ _ h => h) trivial h.out)
section steps
variable {P : Program} {ops : Array Oper} {W : World} {ks : List Nat} {vs : List (SQ R)} {T : Act → World → Prop} {k : Nat} {o : Oper} {rest : List Oper} {s : Nat → Option Value} {a : Act} {w : World}
theorem y_pure {v : Value} (hw : Region.wanted o (yielded ops a.tmps) = true) (hk : ks.getD k 0 = 0) (h1 : ∀ w', (execOp a.eval o).run P w' = .ok (.value v) w')
    (h : WalkY P ops W ks vs T (k + 1) rest (upd s k (some v)) (a.put o.dst v) w) : WalkY P ops W ks vs T k (o :: rest) s a w := ⟨K2.Walk.pure hw hk h1 h.out⟩
theorem y_held {v : Value} (hw : Region.wanted o (yielded ops a.tmps) = true) (hk : ks.getD k 0 = 1) (h1 : ∀ w', R.r W w' → (execOp a.eval o).run P w' = .ok (.value v) w')
    (h : WalkY P ops W ks vs T (k + 1) rest (upd s k (some v)) (a.put o.dst v) w) : WalkY P ops W ks vs T k (o :: rest) s a w := ⟨K2.Walk.held hw hk (fun w' _ hx => h1 w' hx) h.out⟩
/-- A call. -/
theorem y_call {f : FuncId} {args : Array Value} (hw : Region.wanted o (yielded ops a.tmps) = true) (hk : ks.getD k 0 = 2) (hn : (vs.getD k SQ.any).nw = false) (hrun : ∀ w', (execOp a.eval o).run P w' = .ok (.enter f args) w')
    (hcall : ∀ w', R.r W w' → (∀ j v, edge o j = true → ks.getD j 0 = 2 → s j = some v → qvals vs j v w') → Calls P f args w' fun e w'' => ∃ v, e = .returned v ∧ R.r w' w'' ∧ qvals vs k v w'')
    (h : ∀ v w', R.r w w' → qvals vs k v w' → WalkY P ops W ks vs T (k + 1) rest (upd s k (some v)) (a.put o.dst v) w') : WalkY P ops W ks vs T k (o :: rest) s a w :=
  ⟨K2.Walk.told hw hk (fun w' _ hx hp => by rw [hrun]; exact (hcall w' hx hp).mono fun e w'' ⟨v, he, hx', hv⟩ => ⟨v, he, trivial, hx', hv, qApart vs hn _ _⟩) (fun v w' _ hx hv _ => (h v w' hx hv).out)⟩
/-- A call whose value is known. -/
theorem y_call_is {f : FuncId} {args : Array Value} {c : Value} (hw : Region.wanted o (yielded ops a.tmps) = true) (hk : ks.getD k 0 = 2) (hvs : vs.getD k SQ.any = SQ.is c) (hrun : ∀ w', (execOp a.eval o).run P w' = .ok (.enter f args) w')
    (hcall : ∀ w', R.r W w' → (∀ j v, edge o j = true → ks.getD j 0 = 2 → s j = some v → qvals vs j v w') → Calls P f args w' fun e w'' => e = .returned c ∧ R.r w' w'')
    (h : ∀ w', R.r w w' → WalkY P ops W ks vs T (k + 1) rest (upd s k (some c)) (a.put o.dst c) w') : WalkY P ops W ks vs T k (o :: rest) s a w :=
  y_call hw hk (by rw [hvs]; rfl) hrun (fun w' hx hp => (hcall w' hx hp).mono fun e w'' ⟨he, hx'⟩ => ⟨c, he, hx', by unfold qvals; rw [hvs]; rfl⟩)
    (fun v w' hx hv => by unfold qvals at hv; rw [hvs] at hv; obtain rfl : v = c := hv; exact h w' hx)
/-- A new block. -/
theorem y_newB {B : Nat} {f : Nat → Value} {hf : ∀ h, blk (f h) = some h} {hR : R.B ≤ B} {ob : Obj} (hw : Region.wanted o (yielded ops a.tmps) = true) (hk : ks.getD k 0 = 2) (hvs : vs.getD k SQ.any = SQ.newB B f hf hR ob) (hB : B ≤ W.heap.size)
    (hrun : ∀ w', (execOp a.eval o).run P w' = .ok (.value (f w'.heap.size)) (w'.alloc ob))
    (h : ∀ g w', R.r w w' → B ≤ g → w'.heap[g]? = some ob → (∀ j u, j < k → ks.getD j 0 = 2 → s j = some u → (vs.getD j SQ.any).nw = true → blk u ≠ some g) → WalkY P ops W ks vs T (k + 1) rest (upd s k (some (f g))) (a.put o.dst (f g)) w') :
    WalkY P ops W ks vs T k (o :: rest) s a w :=
  ⟨K2.Walk.told hw hk (fun w' _ hx hp => by
      rw [hrun]
      refine ⟨trivial, R.ext _ _ ((Ext.refl _).alloc _), ?_, qApart_new vs (hf _)⟩
      unfold qvals; rw [hvs]
      exact ⟨w'.heap.size, rfl, Nat.le_trans hB (R.sz _ _ hx), by show (w'.heap.push ob)[w'.heap.size]? = some ob; simp⟩)
    (fun v w' _ hx hv hd => by
      unfold qvals at hv; rw [hvs] at hv; obtain ⟨g, rfl, hB, hb⟩ := hv
      exact (h g w' hx hB hb (fun j u hj hkj hu hn => by
        have h1 := hd j u hj hkj hu hn (by rw [hvs]; rfl)
        rwa [hf g] at h1)).out)⟩
theorem y_new {B : Nat} {ob : Obj} (hR : R.B ≤ B) (hw : Region.wanted o (yielded ops a.tmps) = true) (hk : ks.getD k 0 = 2) (hvs : vs.getD k SQ.any = SQ.new B hR ob) (hB : B ≤ W.heap.size)
    (hrun : ∀ w', (execOp a.eval o).run P w' = .ok (.value (.pointer (some ⟨w'.heap.size, 0, none⟩))) (w'.alloc ob))
    (h : ∀ g w', R.r w w' → B ≤ g → w'.heap[g]? = some ob → (∀ j u, j < k → ks.getD j 0 = 2 → s j = some u → (vs.getD j SQ.any).nw = true → blk u ≠ some g) → WalkY P ops W ks vs T (k + 1) rest (upd s k (some (.pointer (some ⟨g, 0, none⟩)))) (a.put o.dst (.pointer (some ⟨g, 0, none⟩))) w') :
    WalkY P ops W ks vs T k (o :: rest) s a w := y_newB (f := ptrAt) (hf := fun _ => rfl) hw hk hvs hB hrun h
theorem y_done (h : ∀ w', R.r w w' → T a w') : WalkY P ops W ks vs T k [] s a w := ⟨K2.Walk.done fun w' _ hx => h w' hx⟩
end steps
theorem blk_ptr {g h : Nat} (e : blk (.pointer (some ⟨g, 0, none⟩)) ≠ some h) : ¬ (g = h) := fun x => e (by rw [x]; rfl)
end Go.K
end
section
namespace Go.Z
theorem it_le (x : Int) (h1 : 100000000 ≤ x) (h2 : x < 1000000000) (k : Nat) : (itL x k).2 < (itH x k).2 ∨ ((itL x k).2 = (itH x k).2 ∧ (itL x k).1 ≤ (itH x k).1) := by
  induction k with
  | zero => right; exact ⟨rfl, Int.le_refl _⟩
  | succ k ih =>
    have a := itL_bd h1 h2 k
    have b := itH_bd h1 h2 k
    simp only [itL, itH]
    generalize itL x k = p at *
    generalize itH x k = q at *
    obtain ⟨x1, n⟩ := p
    obtain ⟨y1, m⟩ := q
    dsimp only at ih a b ⊢
    have eL : (stepL (x1, n)).2 = 2 * n ∨ (stepL (x1, n)).2 = 2 * n + 1 := by unfold stepL; split <;> dsimp only <;> omega
    have eH : (stepH (y1, m)).2 = 2 * m ∨ (stepH (y1, m)).2 = 2 * m + 1 := by unfold stepH; split <;> dsimp only <;> omega
    rcases ih with h | ⟨h, hx⟩
    · left; omega
    · subst h
      have hm : x1 * x1 ≤ y1 * y1 := Int.mul_le_mul hx hx (by omega) (by omega)
      obtain ⟨s1, s2⟩ := fl_spec (x1 * x1) 100000000 (by decide)
      obtain ⟨t1, t2⟩ := fl_spec (-(y1 * y1)) 100000000 (by decide)
      have hc : cl (y1 * y1) 100000000 = -fl (-(y1 * y1)) 100000000 := rfl
      unfold stepL stepH
      dsimp only
      rw [hc]
      generalize fl (x1 * x1) 100000000 = X at *
      generalize fl (-(y1 * y1)) 100000000 = Y at *
      have hXY : X ≤ -Y := by omega
      by_cases c1 : 1000000000 ≤ X
      · rw [if_pos c1, if_pos (by omega)]
        right
        refine ⟨rfl, ?_⟩
        dsimp only
        obtain ⟨u1, u2⟩ := fl_spec X 10 (by decide)
        obtain ⟨v1, v2⟩ := fl_spec (-(-Y)) 10 (by decide)
        have hd : cl (-Y) 10 = -fl (-(-Y)) 10 := rfl
        rw [hd]
        omega
      · rw [if_neg c1]
        by_cases c2 : 1000000000 ≤ -Y
        · rw [if_pos c2]; left; dsimp only; omega
        · rw [if_neg c2]; right; exact ⟨rfl, hXY⟩
theorem figLog_le {f : Int × Int} (h : isFig f.1 f.2 = true) : (figLog f).1 ≤ (figLog f).2 := by
  simp only [isFig, Bool.and_eq_true, decide_eq_true_eq] at h
  have h1 := it_le (f.1 * 100000) (by omega) (by omega) 20
  unfold figLog logOf logN
  dsimp only
  rcases h1 with h1 | ⟨h1, _⟩ <;> omega
theorem logK_le {f : Int × Int} {vs : List (Int × Int)} {ps : List Int} (hf : isFig f.1 f.2 = true) (k : Nat) : (logK f vs ps k).1 ≤ (logK f vs ps k).2 := by
  induction k with
  | zero => exact figLog_le hf
  | succ k ih =>
    simp only [logK, sumI, scale1]
    have h1 : min ((figLog (vs.getD k (0, 0))).1 * ps.getD k 0) ((figLog (vs.getD k (0, 0))).2 * ps.getD k 0) ≤ max ((figLog (vs.getD k (0, 0))).1 * ps.getD k 0) ((figLog (vs.getD k (0, 0))).2 * ps.getD k 0) := by omega
    omega
/-- the logarithm of a formula -/
def lg (F : Fm) (l : List (Int × Int)) : Int × Int := logK (F.dg, F.tn) l F.pw l.length
theorem lg_bd {F : Fm} {l : List (Int × Int)} (hF : isFormula F = true) (hl : l.length = F.nm.size) (hv : areFigs l = true) : (-2000000000 ≤ (lg F l).1 ∧ (lg F l).1 ≤ 2000000000) ∧ (-2000000000 ≤ (lg F l).2 ∧ (lg F l).2 ≤ 2000000000) ∧ (lg F l).1 ≤ (lg F l).2 := by
  have h6 := (isFormula_len hF).2
  have hf : isFig F.dg F.tn = true := by simp only [isFormula, Bool.and_eq_true] at hF; exact hF.1.1.1
  have hps : ∀ i, i < l.length → -6 ≤ F.pw.getD i 0 ∧ F.pw.getD i 0 ≤ 6 := fun i hi => by
    have := okAt_parts (valid_at hF i (by omega))
    exact ⟨this.2.2.2.2.1, this.2.2.2.2.2⟩
  obtain ⟨⟨a, b⟩, c, d⟩ := logK_bd (f := (F.dg, F.tn)) (ps := F.pw) hf (areFigs_at hv) hps l.length (Nat.le_refl _)
  have e := logK_le (f := (F.dg, F.tn)) (vs := l) (ps := F.pw) hf l.length
  unfold lg
  exact ⟨⟨by omega, by omega⟩, ⟨by omega, by omega⟩, e⟩
def meets (a b : Int × Int) (u : Int) : Bool := decide (a.1 - u ≤ b.2) && decide (b.1 ≤ a.2 + u)
theorem meets_eq {a b : Int × Int} {u : Int} (ha : a.1 ≤ a.2) (hb : b.1 ≤ b.2) (hu : 0 ≤ u) : meets a b u = decide (max (a.1 - u) b.1 ≤ min (a.2 + u) b.2) := by
  unfold meets
  rw [Bool.eq_iff_iff, Bool.and_eq_true]
  simp only [decide_eq_true_eq]
  omega
def checked (E : Eqn) (N : ByteArray) (vs : List (Int × Int)) : Bool := isEquation E && areFigs vs && (decide (N.size = vs.length) && decide (N.size ≤ 20))
def CheckValues (E : Eqn) (N : ByteArray) (vs : List (Int × Int)) (u : Int) : Bool × Int :=
  if checked E N vs then (if 0 ≤ u ∧ u ≤ 1048576 then (if (valuesFor E.L N vs).2 && (valuesFor E.R N vs).2 then (meets (lg E.L (valuesFor E.L N vs).1) (lg E.R (valuesFor E.R N vs).1) u, 0) else (false, 4)) else (false, 2)) else (false, 1)
theorem valuesFor_parts {F : Fm} {N : ByteArray} {vs : List (Int × Int)} (hv : areFigs vs = true) (hl : N.size = vs.length) (h : (valuesFor F N vs).2 = true) : (valuesFor F N vs).1.length = F.nm.size ∧ areFigs (valuesFor F N vs).1 = true := by
  cases hk : valuesK (bs F.nm) (bs N) vs F.nm.size with
  | none => rw [valuesFor_none hk] at h; cases h
  | some l => rw [valuesFor_some hk]; exact valuesK_parts hv (by rw [bs_length]; exact hl) _ hk
theorem Check_bad {E : Eqn} {N : ByteArray} {vs : List (Int × Int)} (u : Int) (h : checked E N vs = false) : CheckValues E N vs u = (false, 1) := by unfold CheckValues; rw [h]; rfl
theorem Check_range {E : Eqn} {N : ByteArray} {vs : List (Int × Int)} {u : Int} (h : checked E N vs = true) (hu : ¬ (0 ≤ u ∧ u ≤ 1048576)) : CheckValues E N vs u = (false, 2) := by unfold CheckValues; rw [if_pos h, if_neg hu]
theorem Check_miss {E : Eqn} {N : ByteArray} {vs : List (Int × Int)} {u : Int} (h : checked E N vs = true) (hu : 0 ≤ u ∧ u ≤ 1048576) (hm : ((valuesFor E.L N vs).2 && (valuesFor E.R N vs).2) = false) : CheckValues E N vs u = (false, 4) := by unfold CheckValues; rw [if_pos h, if_pos hu, hm]; rfl
theorem Check_ok {E : Eqn} {N : ByteArray} {vs : List (Int × Int)} {u : Int} (h : checked E N vs = true) (hu : 0 ≤ u ∧ u ≤ 1048576) (hm : ((valuesFor E.L N vs).2 && (valuesFor E.R N vs).2) = true) : CheckValues E N vs u = (meets (lg E.L (valuesFor E.L N vs).1) (lg E.R (valuesFor E.R N vs).1) u, 0) := by unfold CheckValues; rw [if_pos h, if_pos hu, if_pos hm]
end Go.Z
namespace Go.Proofs.Ythmnlbgbacbocaa
open Go.RowKit
set_option maxHeartbeats 1600000 in
theorem spread_any (a : Int × Int) (u : Int)  (w : World) (h1 : -2000000000 ≤ a.1 ∧ a.1 ≤ 2000000000) (h2 : -2000000000 ≤ a.2 ∧ a.2 ≤ 2000000000) (hu : 0 ≤ u ∧ u ≤ 1048576) (S : Int × Int) (hS : Hid (S = (a.1 - u, a.2 + u)))  :
    Calls Try.prog 144 #[.agg #[.int .i64 a.1, .int .i64 a.2], .int .i64 u] w fun e w' => e = .returned (.agg #[.int .i64 S.1, .int .i64 S.2]) ∧ K.Ext w w' := by
  have q1 : IntKind.i64.wrap (a.1 - u) = a.1 - u := IntWalk.i64_in _ (by omega)
  have q2 : IntKind.i64.wrap (a.2 + u) = a.2 + u := IntWalk.i64_in _ (by omega)
  have X0 : K.Ext w w := K.Ext.refl w
  go_enter Try.func144, Try.ntmps144
  go_wp2_with fail
  rw [hS.out]
  refine bodyPost_ret (v := .agg #[.int .i64 (a.1 - u), .int .i64 (a.2 + u)]) (by unfold results; rw [Try.results144]; go_simp) rfl ⟨rfl, ?_⟩
  repeat with_reducible refine K.Ext.setCell ?_ (by dsimp only; omega) _
  exact (by repeat' (first | with_reducible exact X0 | with_reducible refine K.Ext.setCell ?_ ?_ _ | with_reducible refine K.Ext.alloc ?_ _ | with_reducible refine K.Ext.drew ?_ | (dsimp only; omega) | omega | (simp; omega)))
set_option maxHeartbeats 1600000 in
theorem meet_any (a : Int × Int) (b : Int × Int)  (w : World)   :
    Calls Try.prog 143 #[.agg #[.int .i64 a.1, .int .i64 a.2], .agg #[.int .i64 b.1, .int .i64 b.2]] w fun e w' => e = .returned (.bool (decide (a.1 ≤ b.2) && decide (b.1 ≤ a.2))) ∧ K.Ext w w' := by
  by_cases h : a.1 ≤ b.2
  · have HE : Hid ((decide (a.1 ≤ b.2) && decide (b.1 ≤ a.2)) = decide (b.1 ≤ a.2)) := Z.hide (by rw [decide_eq_true h]; rfl)
    have X0 : K.Ext w w := K.Ext.refl w
    go_enter Try.func143, Try.ntmps143
    go_wp2_with fail
    rw [HE.out]
    refine bodyPost_ret (v := .bool (decide (b.1 ≤ a.2))) (by unfold results; rw [Try.results143]; go_simp) rfl ⟨rfl, ?_⟩
    repeat with_reducible refine K.Ext.setCell ?_ (by dsimp only; omega) _
    exact (by repeat' (first | with_reducible exact X0 | with_reducible refine K.Ext.setCell ?_ ?_ _ | with_reducible refine K.Ext.alloc ?_ _ | with_reducible refine K.Ext.drew ?_ | (dsimp only; omega) | omega | (simp; omega)))
  · have HE : Hid ((decide (a.1 ≤ b.2) && decide (b.1 ≤ a.2)) = false) := Z.hide (by rw [decide_eq_false h]; rfl)
    have X0 : K.Ext w w := K.Ext.refl w
    go_enter Try.func143, Try.ntmps143
    go_wp2_with fail
    rw [HE.out]
    refine bodyPost_ret (v := .bool false) (by unfold results; rw [Try.results143]; go_simp) rfl ⟨rfl, ?_⟩
    repeat with_reducible refine K.Ext.setCell ?_ (by dsimp only; omega) _
    exact (by repeat' (first | with_reducible exact X0 | with_reducible refine K.Ext.setCell ?_ ?_ _ | with_reducible refine K.Ext.alloc ?_ _ | with_reducible refine K.Ext.drew ?_ | (dsimp only; omega) | omega | (simp; omega)))
set_option maxRecDepth 100000 in
set_option maxHeartbeats 12800000 in
theorem impl_CheckValues (E : Z.Eqn) (N : ByteArray) (vs : List (Int × Int)) (u : Int) {loEL hiEL loER hiER : Nat} {pEL pER : Value} {lovs hivs : Nat} {pvs : Value} (w : World) (hmN : N.size ≤ 1048576) (hmEL : E.L.pw.length ≤ 1048576) (hnEL : E.L.nm.size ≤ 1048576) (hmER : E.R.pw.length ≤ 1048576) (hnER : E.R.nm.size ≤ 1048576) (hEL : K.ints w loEL hiEL pEL E.L.pw) (hER : K.ints w loER hiER pER E.R.pw) (hmvs : vs.length ≤ 1048576) (hvs : K.recs false K.FgR w lovs hivs pvs vs) :
    Calls Try.prog 69 #[.agg #[.int .i64 E.L.dg, .int .i64 E.L.tn, .string E.L.nm, pEL, .int .i64 E.R.dg, .int .i64 E.R.tn, .string E.R.nm, pER], .string N, pvs, .int .i64 u] w fun e w' => e = .returned (.tuple #[.bool ((Z.CheckValues E N vs u).1), .int .i64 ((Z.CheckValues E N vs u).2)]) ∧ K.Ext w w' := by
  have hEL_ := hEL
  have shEL := hEL
  obtain ⟨oEL, cEL, rfl, _⟩ := shEL
  have hER_ := hER
  have shER := hER
  obtain ⟨oER, cER, rfl, _⟩ := shER
  have hvs_ := hvs
  have shvs := hvs
  obtain ⟨ovs, cvs, rfl, _⟩ := shvs
  cases vE : Z.isEquation E
  · have HE : Hid (Z.CheckValues E N vs u = (false, 1)) := Z.hide (Z.Check_bad u (by unfold Z.checked; rw [vE]; rfl))
    have X0 : K.Ext w w := K.Ext.refl w
    go_enter Try.func69, Try.ntmps69
    go_wp2_with (go_at_call 47; refine K.call (by with_reducible rfl) (by with_reducible rfl) (impl_IsEquation E _ hmEL hnEL hmER hnER (K.ints.alloc hEL_ _) (K.ints.alloc hER_ _)) ?_; rintro e w1 ⟨rfl, x1⟩; have s1 : w.heap.size + 1 ≤ w1.heap.size := (by have h_ := x1.size; (try simp at h_); omega); have X1 := K.Ext.trans (K.Ext.alloc X0 _) x1; obtain ⟨c1_0_0, c1_0_1, c1_0_2, c1_0_3, c1_0_4, c1_0_5, c1_0_6, c1_0_7⟩ := K.c8 x1 (w.heap.size) (.int .i64 E.L.dg) (.int .i64 E.L.tn) (.string E.L.nm) (.slice oEL E.L.pw.length cEL) (.int .i64 E.R.dg) (.int .i64 E.R.tn) (.string E.R.nm) (.slice oER E.R.pw.length cER) (by go_simp); have z1_0 : w.heap.size < w1.heap.size := World.block_lt_of_cell? w1 _ c1_0_0; have d1_0 : ¬ (w.heap.size = w1.heap.size) := (by omega); have e1_0 : ¬ (w1.heap.size = w.heap.size) := (by omega); have F1_1 := K.ints.ext (K.ints.alloc hEL_ _) x1; have F2_1 := K.ints.ext (K.ints.alloc hER_ _) x1; have F3_1 := K.recs.ext (K.recs.alloc hvs_ _) x1; clear hEL_ hER_ hvs_)
    rw [HE.out]
    refine bodyPost_ret (v := .tuple #[.bool false, .int .i64 1]) (by unfold results; rw [Try.results69]; go_simp) rfl ⟨rfl, ?_⟩
    repeat with_reducible refine K.Ext.setCell ?_ (by dsimp only; omega) _
    exact (by repeat' (first | with_reducible exact X1 | with_reducible refine K.Ext.setCell ?_ ?_ _ | with_reducible refine K.Ext.alloc ?_ _ | with_reducible refine K.Ext.drew ?_ | (dsimp only; omega) | omega | (simp; omega)))
  cases vV : Z.areFigs vs
  · have HE : Hid (Z.CheckValues E N vs u = (false, 1)) := Z.hide (Z.Check_bad u (by unfold Z.checked; rw [vV]; simp))
    have X0 : K.Ext w w := K.Ext.refl w
    go_enter Try.func69, Try.ntmps69
    go_wp2_with (go_at_call 47; refine K.call (by with_reducible rfl) (by with_reducible rfl) (impl_IsEquation E _ hmEL hnEL hmER hnER (K.ints.alloc hEL_ _) (K.ints.alloc hER_ _)) ?_; rintro e w1 ⟨rfl, x1⟩; have s1 : w.heap.size + 1 ≤ w1.heap.size := (by have h_ := x1.size; (try simp at h_); omega); have X1 := K.Ext.trans (K.Ext.alloc X0 _) x1; obtain ⟨c1_0_0, c1_0_1, c1_0_2, c1_0_3, c1_0_4, c1_0_5, c1_0_6, c1_0_7⟩ := K.c8 x1 (w.heap.size) (.int .i64 E.L.dg) (.int .i64 E.L.tn) (.string E.L.nm) (.slice oEL E.L.pw.length cEL) (.int .i64 E.R.dg) (.int .i64 E.R.tn) (.string E.R.nm) (.slice oER E.R.pw.length cER) (by go_simp); have z1_0 : w.heap.size < w1.heap.size := World.block_lt_of_cell? w1 _ c1_0_0; have d1_0 : ¬ (w.heap.size = w1.heap.size) := (by omega); have e1_0 : ¬ (w1.heap.size = w.heap.size) := (by omega); have F1_1 := K.ints.ext (K.ints.alloc hEL_ _) x1; have F2_1 := K.ints.ext (K.ints.alloc hER_ _) x1; have F3_1 := K.recs.ext (K.recs.alloc hvs_ _) x1; clear hEL_ hER_ hvs_)
    go_wp2_with (go_at_call 141; refine K.call (by with_reducible rfl) (by with_reducible rfl) (areFigures_any vs _ hmvs (K.figs_of_recs (F3_1))) ?_; rintro e w2 ⟨rfl, x2⟩; have s2 : w1.heap.size ≤ w2.heap.size := (by have h_ := x2.size; (try simp at h_); omega); have X2 := K.Ext.trans (X1) x2; obtain ⟨c2_0_0, c2_0_1, c2_0_2, c2_0_3, c2_0_4, c2_0_5, c2_0_6, c2_0_7⟩ := K.c8 x2 (w.heap.size) (.int .i64 E.L.dg) (.int .i64 E.L.tn) (.string E.L.nm) (.slice oEL E.L.pw.length cEL) (.int .i64 E.R.dg) (.int .i64 E.R.tn) (.string E.R.nm) (.slice oER E.R.pw.length cER) (by go_simp); have z2_0 : w.heap.size < w2.heap.size := World.block_lt_of_cell? w2 _ c2_0_0; have d2_0 : ¬ (w.heap.size = w2.heap.size) := (by omega); have e2_0 : ¬ (w2.heap.size = w.heap.size) := (by omega); have F1_2 := K.ints.ext (F1_1) x2; have F2_2 := K.ints.ext (F2_1) x2; have F3_2 := K.recs.ext (F3_1) x2; clear c1_0_0 c1_0_1 c1_0_2 c1_0_3 c1_0_4 c1_0_5 c1_0_6 c1_0_7 z1_0 d1_0 e1_0 F1_1 F2_1 F3_1)
    rw [HE.out]
    refine bodyPost_ret (v := .tuple #[.bool false, .int .i64 1]) (by unfold results; rw [Try.results69]; go_simp) rfl ⟨rfl, ?_⟩
    repeat with_reducible refine K.Ext.setCell ?_ (by dsimp only; omega) _
    exact (by repeat' (first | with_reducible exact X2 | with_reducible refine K.Ext.setCell ?_ ?_ _ | with_reducible refine K.Ext.alloc ?_ _ | with_reducible refine K.Ext.drew ?_ | (dsimp only; omega) | omega | (simp; omega)))
  by_cases hNl : N.size = vs.length
  case neg =>
    have HE : Hid (Z.CheckValues E N vs u = (false, 1)) := Z.hide (Z.Check_bad u (by unfold Z.checked; rw [decide_eq_false hNl]; simp))
    have t1 : ((N.size : Int) != (vs.length : Int)) = true := by simp; omega
    have t2 : ¬ ((N.size : Int) = (vs.length : Int)) := by omega
    have X0 : K.Ext w w := K.Ext.refl w
    go_enter Try.func69, Try.ntmps69
    go_wp2_with (go_at_call 47; refine K.call (by with_reducible rfl) (by with_reducible rfl) (impl_IsEquation E _ hmEL hnEL hmER hnER (K.ints.alloc hEL_ _) (K.ints.alloc hER_ _)) ?_; rintro e w1 ⟨rfl, x1⟩; have s1 : w.heap.size + 1 ≤ w1.heap.size := (by have h_ := x1.size; (try simp at h_); omega); have X1 := K.Ext.trans (K.Ext.alloc X0 _) x1; obtain ⟨c1_0_0, c1_0_1, c1_0_2, c1_0_3, c1_0_4, c1_0_5, c1_0_6, c1_0_7⟩ := K.c8 x1 (w.heap.size) (.int .i64 E.L.dg) (.int .i64 E.L.tn) (.string E.L.nm) (.slice oEL E.L.pw.length cEL) (.int .i64 E.R.dg) (.int .i64 E.R.tn) (.string E.R.nm) (.slice oER E.R.pw.length cER) (by go_simp); have z1_0 : w.heap.size < w1.heap.size := World.block_lt_of_cell? w1 _ c1_0_0; have d1_0 : ¬ (w.heap.size = w1.heap.size) := (by omega); have e1_0 : ¬ (w1.heap.size = w.heap.size) := (by omega); have F1_1 := K.ints.ext (K.ints.alloc hEL_ _) x1; have F2_1 := K.ints.ext (K.ints.alloc hER_ _) x1; have F3_1 := K.recs.ext (K.recs.alloc hvs_ _) x1; clear hEL_ hER_ hvs_)
    go_wp2_with (go_at_call 141; refine K.call (by with_reducible rfl) (by with_reducible rfl) (areFigures_any vs _ hmvs (K.figs_of_recs (F3_1))) ?_; rintro e w2 ⟨rfl, x2⟩; have s2 : w1.heap.size ≤ w2.heap.size := (by have h_ := x2.size; (try simp at h_); omega); have X2 := K.Ext.trans (X1) x2; obtain ⟨c2_0_0, c2_0_1, c2_0_2, c2_0_3, c2_0_4, c2_0_5, c2_0_6, c2_0_7⟩ := K.c8 x2 (w.heap.size) (.int .i64 E.L.dg) (.int .i64 E.L.tn) (.string E.L.nm) (.slice oEL E.L.pw.length cEL) (.int .i64 E.R.dg) (.int .i64 E.R.tn) (.string E.R.nm) (.slice oER E.R.pw.length cER) (by go_simp); have z2_0 : w.heap.size < w2.heap.size := World.block_lt_of_cell? w2 _ c2_0_0; have d2_0 : ¬ (w.heap.size = w2.heap.size) := (by omega); have e2_0 : ¬ (w2.heap.size = w.heap.size) := (by omega); have F1_2 := K.ints.ext (F1_1) x2; have F2_2 := K.ints.ext (F2_1) x2; have F3_2 := K.recs.ext (F3_1) x2; clear c1_0_0 c1_0_1 c1_0_2 c1_0_3 c1_0_4 c1_0_5 c1_0_6 c1_0_7 z1_0 d1_0 e1_0 F1_1 F2_1 F3_1)
    rw [HE.out]
    refine bodyPost_ret (v := .tuple #[.bool false, .int .i64 1]) (by unfold results; rw [Try.results69]; go_simp) rfl ⟨rfl, ?_⟩
    repeat with_reducible refine K.Ext.setCell ?_ (by dsimp only; omega) _
    exact (by repeat' (first | with_reducible exact X2 | with_reducible refine K.Ext.setCell ?_ ?_ _ | with_reducible refine K.Ext.alloc ?_ _ | with_reducible refine K.Ext.drew ?_ | (dsimp only; omega) | omega | (simp; omega)))
  by_cases hN20 : N.size ≤ 20
  case neg =>
    have HE : Hid (Z.CheckValues E N vs u = (false, 1)) := Z.hide (Z.Check_bad u (by unfold Z.checked; rw [decide_eq_false hN20]; simp))
    have t1 : (20 : Int) < (N.size : Int) := by omega
    have X0 : K.Ext w w := K.Ext.refl w
    go_enter Try.func69, Try.ntmps69
    go_wp2_with (go_at_call 47; refine K.call (by with_reducible rfl) (by with_reducible rfl) (impl_IsEquation E _ hmEL hnEL hmER hnER (K.ints.alloc hEL_ _) (K.ints.alloc hER_ _)) ?_; rintro e w1 ⟨rfl, x1⟩; have s1 : w.heap.size + 1 ≤ w1.heap.size := (by have h_ := x1.size; (try simp at h_); omega); have X1 := K.Ext.trans (K.Ext.alloc X0 _) x1; obtain ⟨c1_0_0, c1_0_1, c1_0_2, c1_0_3, c1_0_4, c1_0_5, c1_0_6, c1_0_7⟩ := K.c8 x1 (w.heap.size) (.int .i64 E.L.dg) (.int .i64 E.L.tn) (.string E.L.nm) (.slice oEL E.L.pw.length cEL) (.int .i64 E.R.dg) (.int .i64 E.R.tn) (.string E.R.nm) (.slice oER E.R.pw.length cER) (by go_simp); have z1_0 : w.heap.size < w1.heap.size := World.block_lt_of_cell? w1 _ c1_0_0; have d1_0 : ¬ (w.heap.size = w1.heap.size) := (by omega); have e1_0 : ¬ (w1.heap.size = w.heap.size) := (by omega); have F1_1 := K.ints.ext (K.ints.alloc hEL_ _) x1; have F2_1 := K.ints.ext (K.ints.alloc hER_ _) x1; have F3_1 := K.recs.ext (K.recs.alloc hvs_ _) x1; clear hEL_ hER_ hvs_)
    go_wp2_with (go_at_call 141; refine K.call (by with_reducible rfl) (by with_reducible rfl) (areFigures_any vs _ hmvs (K.figs_of_recs (F3_1))) ?_; rintro e w2 ⟨rfl, x2⟩; have s2 : w1.heap.size ≤ w2.heap.size := (by have h_ := x2.size; (try simp at h_); omega); have X2 := K.Ext.trans (X1) x2; obtain ⟨c2_0_0, c2_0_1, c2_0_2, c2_0_3, c2_0_4, c2_0_5, c2_0_6, c2_0_7⟩ := K.c8 x2 (w.heap.size) (.int .i64 E.L.dg) (.int .i64 E.L.tn) (.string E.L.nm) (.slice oEL E.L.pw.length cEL) (.int .i64 E.R.dg) (.int .i64 E.R.tn) (.string E.R.nm) (.slice oER E.R.pw.length cER) (by go_simp); have z2_0 : w.heap.size < w2.heap.size := World.block_lt_of_cell? w2 _ c2_0_0; have d2_0 : ¬ (w.heap.size = w2.heap.size) := (by omega); have e2_0 : ¬ (w2.heap.size = w.heap.size) := (by omega); have F1_2 := K.ints.ext (F1_1) x2; have F2_2 := K.ints.ext (F2_1) x2; have F3_2 := K.recs.ext (F3_1) x2; clear c1_0_0 c1_0_1 c1_0_2 c1_0_3 c1_0_4 c1_0_5 c1_0_6 c1_0_7 z1_0 d1_0 e1_0 F1_1 F2_1 F3_1)
    rw [HE.out]
    refine bodyPost_ret (v := .tuple #[.bool false, .int .i64 1]) (by unfold results; rw [Try.results69]; go_simp) rfl ⟨rfl, ?_⟩
    repeat with_reducible refine K.Ext.setCell ?_ (by dsimp only; omega) _
    exact (by repeat' (first | with_reducible exact X2 | with_reducible refine K.Ext.setCell ?_ ?_ _ | with_reducible refine K.Ext.alloc ?_ _ | with_reducible refine K.Ext.drew ?_ | (dsimp only; omega) | omega | (simp; omega)))
  have hck : Z.checked E N vs = true := by unfold Z.checked; rw [vE, vV, decide_eq_true hNl, decide_eq_true hN20]; rfl
  have hN21 : ¬ ((20 : Int) < (N.size : Int)) := by omega
  by_cases hu : 0 ≤ u ∧ u ≤ 1048576
  case neg =>
    have HE : Hid (Z.CheckValues E N vs u = (false, 2)) := Z.hide (Z.Check_range hck hu)
    have hwi : (decide (0 ≤ u) && decide (u ≤ 1048576)) = false := by rw [Bool.and_eq_false_iff]; simp only [decide_eq_false_iff_not]; omega
    have HW : ∀ w : World, Calls Try.prog 95 #[.int .i64 u, .int .i64 0, .int .i64 1048576] w fun e w' => e = .returned (.bool false) ∧ w = w' := fun w => by rw [← hwi]; exact within_any _ _ _ _
    clear hwi hck
    have X0 : K.Ext w w := K.Ext.refl w
    go_enter Try.func69, Try.ntmps69
    go_wp2_with (go_at_call 47; refine K.call (by with_reducible rfl) (by with_reducible rfl) (impl_IsEquation E _ hmEL hnEL hmER hnER (K.ints.alloc hEL_ _) (K.ints.alloc hER_ _)) ?_; rintro e w1 ⟨rfl, x1⟩; have s1 : w.heap.size + 1 ≤ w1.heap.size := (by have h_ := x1.size; (try simp at h_); omega); have X1 := K.Ext.trans (K.Ext.alloc X0 _) x1; obtain ⟨c1_0_0, c1_0_1, c1_0_2, c1_0_3, c1_0_4, c1_0_5, c1_0_6, c1_0_7⟩ := K.c8 x1 (w.heap.size) (.int .i64 E.L.dg) (.int .i64 E.L.tn) (.string E.L.nm) (.slice oEL E.L.pw.length cEL) (.int .i64 E.R.dg) (.int .i64 E.R.tn) (.string E.R.nm) (.slice oER E.R.pw.length cER) (by go_simp); have z1_0 : w.heap.size < w1.heap.size := World.block_lt_of_cell? w1 _ c1_0_0; have d1_0 : ¬ (w.heap.size = w1.heap.size) := (by omega); have e1_0 : ¬ (w1.heap.size = w.heap.size) := (by omega); have F1_1 := K.ints.ext (K.ints.alloc hEL_ _) x1; have F2_1 := K.ints.ext (K.ints.alloc hER_ _) x1; have F3_1 := K.recs.ext (K.recs.alloc hvs_ _) x1; clear hEL_ hER_ hvs_)
    go_wp2_with (go_at_call 141; refine K.call (by with_reducible rfl) (by with_reducible rfl) (areFigures_any vs _ hmvs (K.figs_of_recs (F3_1))) ?_; rintro e w2 ⟨rfl, x2⟩; have s2 : w1.heap.size ≤ w2.heap.size := (by have h_ := x2.size; (try simp at h_); omega); have X2 := K.Ext.trans (X1) x2; obtain ⟨c2_0_0, c2_0_1, c2_0_2, c2_0_3, c2_0_4, c2_0_5, c2_0_6, c2_0_7⟩ := K.c8 x2 (w.heap.size) (.int .i64 E.L.dg) (.int .i64 E.L.tn) (.string E.L.nm) (.slice oEL E.L.pw.length cEL) (.int .i64 E.R.dg) (.int .i64 E.R.tn) (.string E.R.nm) (.slice oER E.R.pw.length cER) (by go_simp); have z2_0 : w.heap.size < w2.heap.size := World.block_lt_of_cell? w2 _ c2_0_0; have d2_0 : ¬ (w.heap.size = w2.heap.size) := (by omega); have e2_0 : ¬ (w2.heap.size = w.heap.size) := (by omega); have F1_2 := K.ints.ext (F1_1) x2; have F2_2 := K.ints.ext (F2_1) x2; have F3_2 := K.recs.ext (F3_1) x2; clear c1_0_0 c1_0_1 c1_0_2 c1_0_3 c1_0_4 c1_0_5 c1_0_6 c1_0_7 z1_0 d1_0 e1_0 F1_1 F2_1 F3_1)
    go_wp2_with (go_at_call 95; refine K.call (by with_reducible rfl) (by with_reducible rfl) (HW _) ?_; rintro e w_ ⟨rfl, rfl⟩)
    rw [HE.out]
    refine bodyPost_ret (v := .tuple #[.bool false, .int .i64 2]) (by unfold results; rw [Try.results69]; go_simp) rfl ⟨rfl, ?_⟩
    repeat with_reducible refine K.Ext.setCell ?_ (by dsimp only; omega) _
    exact (by repeat' (first | with_reducible exact X2 | with_reducible refine K.Ext.setCell ?_ ?_ _ | with_reducible refine K.Ext.alloc ?_ _ | with_reducible refine K.Ext.drew ?_ | (dsimp only; omega) | omega | (simp; omega)))
  have hwi : (decide (0 ≤ u) && decide (u ≤ 1048576)) = true := by rw [Bool.and_eq_true]; simp only [decide_eq_true_eq]; omega
  have HW : ∀ w : World, Calls Try.prog 95 #[.int .i64 u, .int .i64 0, .int .i64 1048576] w fun e w' => e = .returned (.bool true) ∧ w = w' := fun w => by rw [← hwi]; exact within_any _ _ _ _
  have hv10 : vs.length ≤ 1000000 := by omega
  obtain ⟨P, hP⟩ : ∃ P, P = Z.valuesFor E.L N vs := ⟨_, rfl⟩
  obtain ⟨Q, hQ⟩ : ∃ Q, Q = Z.valuesFor E.R N vs := ⟨_, rfl⟩
  have le6 := Z.isEquation_len vE
  have HP : ∀ {a b : Nat} {p v : Value} (w : World), K.recs false K.FgR w a b v vs → Calls Try.prog 142 #[.agg #[.int .i64 E.L.dg, .int .i64 E.L.tn, .string E.L.nm, p], .string N, v] w fun e w' => (∃ v', e = .returned (.tuple #[v', .bool P.2]) ∧ K.recs false K.FgR w' w.heap.size w'.heap.size v' P.1) ∧ K.Ext w w' := fun w h => by rw [hP]; exact valuesFor_any E.L N vs w (by omega) hNl hv10 h
  have HQ : ∀ {a b : Nat} {p v : Value} (w : World), K.recs false K.FgR w a b v vs → Calls Try.prog 142 #[.agg #[.int .i64 E.R.dg, .int .i64 E.R.tn, .string E.R.nm, p], .string N, v] w fun e w' => (∃ v', e = .returned (.tuple #[v', .bool Q.2]) ∧ K.recs false K.FgR w' w.heap.size w'.heap.size v' Q.1) ∧ K.Ext w w' := fun w h => by rw [hQ]; exact valuesFor_any E.R N vs w (by omega) hNl hv10 h
  have HMs : Hid ((P.2 && Q.2) = false → Z.CheckValues E N vs u = (false, 4)) := Z.hide (fun h => Z.Check_miss hck hu (by rw [← hP, ← hQ]; exact h))
  have HOk : Hid ((P.2 && Q.2) = true → Z.CheckValues E N vs u = (Z.meets (Z.lg E.L P.1) (Z.lg E.R Q.1) u, 0)) := Z.hide (fun h => by rw [hP, hQ] at h ⊢; exact Z.Check_ok hck hu h)
  have hPp : P.2 = true → P.1.length = E.L.nm.size ∧ Z.areFigs P.1 = true := fun h => by rw [hP] at h ⊢; exact Z.valuesFor_parts vV hNl h
  have hQp : Q.2 = true → Q.1.length = E.R.nm.size ∧ Z.areFigs Q.1 = true := fun h => by rw [hQ] at h ⊢; exact Z.valuesFor_parts vV hNl h
  obtain ⟨vEL, vER⟩ := Z.isEquation_parts vE
  clear hP hQ hck hwi hv10 le6
  obtain ⟨l1, b1⟩ := P
  obtain ⟨l2, b2⟩ := Q
  dsimp only at HP HQ HMs HOk hPp hQp
  cases b1
  · have HE : Hid (Z.CheckValues E N vs u = (false, 4)) := Z.hide (HMs.out rfl)
    clear hPp hQp HOk vEL vER
    have X0 : K.Ext w w := K.Ext.refl w
    go_enter Try.func69, Try.ntmps69
    go_wp2_with (go_at_call 47; refine K.call (by with_reducible rfl) (by with_reducible rfl) (impl_IsEquation E _ hmEL hnEL hmER hnER (K.ints.alloc hEL_ _) (K.ints.alloc hER_ _)) ?_; rintro e w1 ⟨rfl, x1⟩; have s1 : w.heap.size + 1 ≤ w1.heap.size := (by have h_ := x1.size; (try simp at h_); omega); have X1 := K.Ext.trans (K.Ext.alloc X0 _) x1; obtain ⟨c1_0_0, c1_0_1, c1_0_2, c1_0_3, c1_0_4, c1_0_5, c1_0_6, c1_0_7⟩ := K.c8 x1 (w.heap.size) (.int .i64 E.L.dg) (.int .i64 E.L.tn) (.string E.L.nm) (.slice oEL E.L.pw.length cEL) (.int .i64 E.R.dg) (.int .i64 E.R.tn) (.string E.R.nm) (.slice oER E.R.pw.length cER) (by go_simp); have z1_0 : w.heap.size < w1.heap.size := World.block_lt_of_cell? w1 _ c1_0_0; have d1_0 : ¬ (w.heap.size = w1.heap.size) := (by omega); have e1_0 : ¬ (w1.heap.size = w.heap.size) := (by omega); have F1_1 := K.ints.ext (K.ints.alloc hEL_ _) x1; have F2_1 := K.ints.ext (K.ints.alloc hER_ _) x1; have F3_1 := K.recs.ext (K.recs.alloc hvs_ _) x1; clear hEL_ hER_ hvs_)
    go_wp2_with (go_at_call 141; refine K.call (by with_reducible rfl) (by with_reducible rfl) (areFigures_any vs _ hmvs (K.figs_of_recs (F3_1))) ?_; rintro e w2 ⟨rfl, x2⟩; have s2 : w1.heap.size ≤ w2.heap.size := (by have h_ := x2.size; (try simp at h_); omega); have X2 := K.Ext.trans (X1) x2; obtain ⟨c2_0_0, c2_0_1, c2_0_2, c2_0_3, c2_0_4, c2_0_5, c2_0_6, c2_0_7⟩ := K.c8 x2 (w.heap.size) (.int .i64 E.L.dg) (.int .i64 E.L.tn) (.string E.L.nm) (.slice oEL E.L.pw.length cEL) (.int .i64 E.R.dg) (.int .i64 E.R.tn) (.string E.R.nm) (.slice oER E.R.pw.length cER) (by go_simp); have z2_0 : w.heap.size < w2.heap.size := World.block_lt_of_cell? w2 _ c2_0_0; have d2_0 : ¬ (w.heap.size = w2.heap.size) := (by omega); have e2_0 : ¬ (w2.heap.size = w.heap.size) := (by omega); have F1_2 := K.ints.ext (F1_1) x2; have F2_2 := K.ints.ext (F2_1) x2; have F3_2 := K.recs.ext (F3_1) x2; clear c1_0_0 c1_0_1 c1_0_2 c1_0_3 c1_0_4 c1_0_5 c1_0_6 c1_0_7 z1_0 d1_0 e1_0 F1_1 F2_1 F3_1)
    go_wp2_with (go_at_call 95; refine K.call (by with_reducible rfl) (by with_reducible rfl) (HW _) ?_; rintro e w_ ⟨rfl, rfl⟩)
    go_wp2_with (go_at_call 142; refine K.call (by with_reducible rfl) (by with_reducible rfl) (HP _ (F3_2)) ?_; rintro e w4 ⟨⟨p4, rfl, g4⟩, x4⟩; obtain ⟨o4, k4, rfl, _⟩ := K.recs.mono g4 (Nat.le_refl _) (Nat.le_refl _); have F4_4 : K.recs false K.FgR w4 (w2.heap.size) (w4.heap.size) (.slice o4 ((l1, false).1).length k4) (((l1, false).1)) := g4.mono (by simp) (Nat.le_refl _); clear g4; have s4 : w2.heap.size ≤ w4.heap.size := (by have h_ := x4.size; (try simp at h_); omega); have X4 := K.Ext.trans (X2) x4; obtain ⟨c4_0_0, c4_0_1, c4_0_2, c4_0_3, c4_0_4, c4_0_5, c4_0_6, c4_0_7⟩ := K.c8 x4 (w.heap.size) (.int .i64 E.L.dg) (.int .i64 E.L.tn) (.string E.L.nm) (.slice oEL E.L.pw.length cEL) (.int .i64 E.R.dg) (.int .i64 E.R.tn) (.string E.R.nm) (.slice oER E.R.pw.length cER) (by go_simp); have z4_0 : w.heap.size < w4.heap.size := World.block_lt_of_cell? w4 _ c4_0_0; have d4_0 : ¬ (w.heap.size = w4.heap.size) := (by omega); have e4_0 : ¬ (w4.heap.size = w.heap.size) := (by omega); have F1_4 := K.ints.ext (F1_2) x4; have F2_4 := K.ints.ext (F2_2) x4; have F3_4 := K.recs.ext (F3_2) x4; clear c2_0_0 c2_0_1 c2_0_2 c2_0_3 c2_0_4 c2_0_5 c2_0_6 c2_0_7 z2_0 d2_0 e2_0 F1_2 F2_2 F3_2)
    go_wp2_with (go_at_call 142; refine K.call (by with_reducible rfl) (by with_reducible rfl) (HQ _ (F3_4)) ?_; rintro e w5 ⟨⟨p5, rfl, g5⟩, x5⟩; obtain ⟨o5, k5, rfl, _⟩ := K.recs.mono g5 (Nat.le_refl _) (Nat.le_refl _); have F5_5 : K.recs false K.FgR w5 (w4.heap.size) (w5.heap.size) (.slice o5 ((l2, b2).1).length k5) (((l2, b2).1)) := g5.mono (by simp) (Nat.le_refl _); clear g5; have s5 : w4.heap.size ≤ w5.heap.size := (by have h_ := x5.size; (try simp at h_); omega); have X5 := K.Ext.trans (X4) x5; obtain ⟨c5_0_0, c5_0_1, c5_0_2, c5_0_3, c5_0_4, c5_0_5, c5_0_6, c5_0_7⟩ := K.c8 x5 (w.heap.size) (.int .i64 E.L.dg) (.int .i64 E.L.tn) (.string E.L.nm) (.slice oEL E.L.pw.length cEL) (.int .i64 E.R.dg) (.int .i64 E.R.tn) (.string E.R.nm) (.slice oER E.R.pw.length cER) (by go_simp); have z5_0 : w.heap.size < w5.heap.size := World.block_lt_of_cell? w5 _ c5_0_0; have d5_0 : ¬ (w.heap.size = w5.heap.size) := (by omega); have e5_0 : ¬ (w5.heap.size = w.heap.size) := (by omega); have F1_5 := K.ints.ext (F1_4) x5; have F2_5 := K.ints.ext (F2_4) x5; have F3_5 := K.recs.ext (F3_4) x5; have F4_5 := K.recs.ext (F4_4) x5; clear c4_0_0 c4_0_1 c4_0_2 c4_0_3 c4_0_4 c4_0_5 c4_0_6 c4_0_7 z4_0 d4_0 e4_0 F1_4 F2_4 F3_4 F4_4)
    rw [HE.out]
    refine bodyPost_ret (v := .tuple #[.bool false, .int .i64 4]) (by unfold results; rw [Try.results69]; go_simp) rfl ⟨rfl, ?_⟩
    repeat with_reducible refine K.Ext.setCell ?_ (by dsimp only; omega) _
    exact (by repeat' (first | with_reducible exact X5 | with_reducible refine K.Ext.setCell ?_ ?_ _ | with_reducible refine K.Ext.alloc ?_ _ | with_reducible refine K.Ext.drew ?_ | (dsimp only; omega) | omega | (simp; omega)))
  cases b2
  · have HE : Hid (Z.CheckValues E N vs u = (false, 4)) := Z.hide (HMs.out rfl)
    clear hPp hQp HOk vEL vER
    have X0 : K.Ext w w := K.Ext.refl w
    go_enter Try.func69, Try.ntmps69
    go_wp2_with (go_at_call 47; refine K.call (by with_reducible rfl) (by with_reducible rfl) (impl_IsEquation E _ hmEL hnEL hmER hnER (K.ints.alloc hEL_ _) (K.ints.alloc hER_ _)) ?_; rintro e w1 ⟨rfl, x1⟩; have s1 : w.heap.size + 1 ≤ w1.heap.size := (by have h_ := x1.size; (try simp at h_); omega); have X1 := K.Ext.trans (K.Ext.alloc X0 _) x1; obtain ⟨c1_0_0, c1_0_1, c1_0_2, c1_0_3, c1_0_4, c1_0_5, c1_0_6, c1_0_7⟩ := K.c8 x1 (w.heap.size) (.int .i64 E.L.dg) (.int .i64 E.L.tn) (.string E.L.nm) (.slice oEL E.L.pw.length cEL) (.int .i64 E.R.dg) (.int .i64 E.R.tn) (.string E.R.nm) (.slice oER E.R.pw.length cER) (by go_simp); have z1_0 : w.heap.size < w1.heap.size := World.block_lt_of_cell? w1 _ c1_0_0; have d1_0 : ¬ (w.heap.size = w1.heap.size) := (by omega); have e1_0 : ¬ (w1.heap.size = w.heap.size) := (by omega); have F1_1 := K.ints.ext (K.ints.alloc hEL_ _) x1; have F2_1 := K.ints.ext (K.ints.alloc hER_ _) x1; have F3_1 := K.recs.ext (K.recs.alloc hvs_ _) x1; clear hEL_ hER_ hvs_)
    go_wp2_with (go_at_call 141; refine K.call (by with_reducible rfl) (by with_reducible rfl) (areFigures_any vs _ hmvs (K.figs_of_recs (F3_1))) ?_; rintro e w2 ⟨rfl, x2⟩; have s2 : w1.heap.size ≤ w2.heap.size := (by have h_ := x2.size; (try simp at h_); omega); have X2 := K.Ext.trans (X1) x2; obtain ⟨c2_0_0, c2_0_1, c2_0_2, c2_0_3, c2_0_4, c2_0_5, c2_0_6, c2_0_7⟩ := K.c8 x2 (w.heap.size) (.int .i64 E.L.dg) (.int .i64 E.L.tn) (.string E.L.nm) (.slice oEL E.L.pw.length cEL) (.int .i64 E.R.dg) (.int .i64 E.R.tn) (.string E.R.nm) (.slice oER E.R.pw.length cER) (by go_simp); have z2_0 : w.heap.size < w2.heap.size := World.block_lt_of_cell? w2 _ c2_0_0; have d2_0 : ¬ (w.heap.size = w2.heap.size) := (by omega); have e2_0 : ¬ (w2.heap.size = w.heap.size) := (by omega); have F1_2 := K.ints.ext (F1_1) x2; have F2_2 := K.ints.ext (F2_1) x2; have F3_2 := K.recs.ext (F3_1) x2; clear c1_0_0 c1_0_1 c1_0_2 c1_0_3 c1_0_4 c1_0_5 c1_0_6 c1_0_7 z1_0 d1_0 e1_0 F1_1 F2_1 F3_1)
    go_wp2_with (go_at_call 95; refine K.call (by with_reducible rfl) (by with_reducible rfl) (HW _) ?_; rintro e w_ ⟨rfl, rfl⟩)
    go_wp2_with (go_at_call 142; refine K.call (by with_reducible rfl) (by with_reducible rfl) (HP _ (F3_2)) ?_; rintro e w4 ⟨⟨p4, rfl, g4⟩, x4⟩; obtain ⟨o4, k4, rfl, _⟩ := K.recs.mono g4 (Nat.le_refl _) (Nat.le_refl _); have F4_4 : K.recs false K.FgR w4 (w2.heap.size) (w4.heap.size) (.slice o4 ((l1, true).1).length k4) (((l1, true).1)) := g4.mono (by simp) (Nat.le_refl _); clear g4; have s4 : w2.heap.size ≤ w4.heap.size := (by have h_ := x4.size; (try simp at h_); omega); have X4 := K.Ext.trans (X2) x4; obtain ⟨c4_0_0, c4_0_1, c4_0_2, c4_0_3, c4_0_4, c4_0_5, c4_0_6, c4_0_7⟩ := K.c8 x4 (w.heap.size) (.int .i64 E.L.dg) (.int .i64 E.L.tn) (.string E.L.nm) (.slice oEL E.L.pw.length cEL) (.int .i64 E.R.dg) (.int .i64 E.R.tn) (.string E.R.nm) (.slice oER E.R.pw.length cER) (by go_simp); have z4_0 : w.heap.size < w4.heap.size := World.block_lt_of_cell? w4 _ c4_0_0; have d4_0 : ¬ (w.heap.size = w4.heap.size) := (by omega); have e4_0 : ¬ (w4.heap.size = w.heap.size) := (by omega); have F1_4 := K.ints.ext (F1_2) x4; have F2_4 := K.ints.ext (F2_2) x4; have F3_4 := K.recs.ext (F3_2) x4; clear c2_0_0 c2_0_1 c2_0_2 c2_0_3 c2_0_4 c2_0_5 c2_0_6 c2_0_7 z2_0 d2_0 e2_0 F1_2 F2_2 F3_2)
    go_wp2_with (go_at_call 142; refine K.call (by with_reducible rfl) (by with_reducible rfl) (HQ _ (F3_4)) ?_; rintro e w5 ⟨⟨p5, rfl, g5⟩, x5⟩; obtain ⟨o5, k5, rfl, _⟩ := K.recs.mono g5 (Nat.le_refl _) (Nat.le_refl _); have F5_5 : K.recs false K.FgR w5 (w4.heap.size) (w5.heap.size) (.slice o5 ((l2, false).1).length k5) (((l2, false).1)) := g5.mono (by simp) (Nat.le_refl _); clear g5; have s5 : w4.heap.size ≤ w5.heap.size := (by have h_ := x5.size; (try simp at h_); omega); have X5 := K.Ext.trans (X4) x5; obtain ⟨c5_0_0, c5_0_1, c5_0_2, c5_0_3, c5_0_4, c5_0_5, c5_0_6, c5_0_7⟩ := K.c8 x5 (w.heap.size) (.int .i64 E.L.dg) (.int .i64 E.L.tn) (.string E.L.nm) (.slice oEL E.L.pw.length cEL) (.int .i64 E.R.dg) (.int .i64 E.R.tn) (.string E.R.nm) (.slice oER E.R.pw.length cER) (by go_simp); have z5_0 : w.heap.size < w5.heap.size := World.block_lt_of_cell? w5 _ c5_0_0; have d5_0 : ¬ (w.heap.size = w5.heap.size) := (by omega); have e5_0 : ¬ (w5.heap.size = w.heap.size) := (by omega); have F1_5 := K.ints.ext (F1_4) x5; have F2_5 := K.ints.ext (F2_4) x5; have F3_5 := K.recs.ext (F3_4) x5; have F4_5 := K.recs.ext (F4_4) x5; clear c4_0_0 c4_0_1 c4_0_2 c4_0_3 c4_0_4 c4_0_5 c4_0_6 c4_0_7 z4_0 d4_0 e4_0 F1_4 F2_4 F3_4 F4_4)
    rw [HE.out]
    refine bodyPost_ret (v := .tuple #[.bool false, .int .i64 4]) (by unfold results; rw [Try.results69]; go_simp) rfl ⟨rfl, ?_⟩
    repeat with_reducible refine K.Ext.setCell ?_ (by dsimp only; omega) _
    exact (by repeat' (first | with_reducible exact X5 | with_reducible refine K.Ext.setCell ?_ ?_ _ | with_reducible refine K.Ext.alloc ?_ _ | with_reducible refine K.Ext.drew ?_ | (dsimp only; omega) | omega | (simp; omega)))
  obtain ⟨p1, p2⟩ := hPp rfl
  obtain ⟨q1, q2⟩ := hQp rfl
  obtain ⟨a1, a2, a3⟩ := Z.lg_bd vEL p1 p2
  obtain ⟨b1, b2, b3⟩ := Z.lg_bd vER q1 q2
  obtain ⟨X, hX⟩ : ∃ X, X = Z.lg E.L l1 := ⟨_, rfl⟩
  obtain ⟨Y, hY⟩ : ∃ Y, Y = Z.lg E.R l2 := ⟨_, rfl⟩
  have H1 : ∀ {a b c d : Nat} {p v : Value} (w : World), K.ints w a b p E.L.pw → K.recs false K.FgR w c d v l1 → Calls Try.prog 125 #[.agg #[.int .i64 E.L.dg, .int .i64 E.L.tn, .string E.L.nm, p], v] w fun e w' => e = .returned (.agg #[.int .i64 X.1, .int .i64 X.2]) ∧ K.Ext w w' := fun w h h' => by rw [hX]; exact formulaLog_any E.L l1 w vEL p1 p2 h h'
  have H2 : ∀ {a b c d : Nat} {p v : Value} (w : World), K.ints w a b p E.R.pw → K.recs false K.FgR w c d v l2 → Calls Try.prog 125 #[.agg #[.int .i64 E.R.dg, .int .i64 E.R.tn, .string E.R.nm, p], v] w fun e w' => e = .returned (.agg #[.int .i64 Y.1, .int .i64 Y.2]) ∧ K.Ext w w' := fun w h h' => by rw [hY]; exact formulaLog_any E.R l2 w vER q1 q2 h h'
  rw [← hX] at a1 a2 a3
  rw [← hY] at b1 b2 b3
  obtain ⟨S, hS⟩ : ∃ S, S = (X.1 - u, X.2 + u) := ⟨_, rfl⟩
  have HE : Hid (Z.CheckValues E N vs u = (decide (S.1 ≤ Y.2) && decide (Y.1 ≤ S.2), 0)) := Z.hide (by rw [HOk.out rfl, ← hX, ← hY, hS]; rfl)
  have HSp := Z.hide hS
  clear hX hY hS HMs HOk hPp hQp p1 p2 q1 q2 vEL vER
  have X0 : K.Ext w w := K.Ext.refl w
  go_enter Try.func69, Try.ntmps69
  go_wp2_with (go_at_call 47; refine K.call (by with_reducible rfl) (by with_reducible rfl) (impl_IsEquation E _ hmEL hnEL hmER hnER (K.ints.alloc hEL_ _) (K.ints.alloc hER_ _)) ?_; rintro e w1 ⟨rfl, x1⟩; have s1 : w.heap.size + 1 ≤ w1.heap.size := (by have h_ := x1.size; (try simp at h_); omega); have X1 := K.Ext.trans (K.Ext.alloc X0 _) x1; obtain ⟨c1_0_0, c1_0_1, c1_0_2, c1_0_3, c1_0_4, c1_0_5, c1_0_6, c1_0_7⟩ := K.c8 x1 (w.heap.size) (.int .i64 E.L.dg) (.int .i64 E.L.tn) (.string E.L.nm) (.slice oEL E.L.pw.length cEL) (.int .i64 E.R.dg) (.int .i64 E.R.tn) (.string E.R.nm) (.slice oER E.R.pw.length cER) (by go_simp); have z1_0 : w.heap.size < w1.heap.size := World.block_lt_of_cell? w1 _ c1_0_0; have d1_0 : ¬ (w.heap.size = w1.heap.size) := (by omega); have e1_0 : ¬ (w1.heap.size = w.heap.size) := (by omega); have F1_1 := K.ints.ext (K.ints.alloc hEL_ _) x1; have F2_1 := K.ints.ext (K.ints.alloc hER_ _) x1; have F3_1 := K.recs.ext (K.recs.alloc hvs_ _) x1; clear hEL_ hER_ hvs_)
  go_wp2_with (go_at_call 141; refine K.call (by with_reducible rfl) (by with_reducible rfl) (areFigures_any vs _ hmvs (K.figs_of_recs (F3_1))) ?_; rintro e w2 ⟨rfl, x2⟩; have s2 : w1.heap.size ≤ w2.heap.size := (by have h_ := x2.size; (try simp at h_); omega); have X2 := K.Ext.trans (X1) x2; obtain ⟨c2_0_0, c2_0_1, c2_0_2, c2_0_3, c2_0_4, c2_0_5, c2_0_6, c2_0_7⟩ := K.c8 x2 (w.heap.size) (.int .i64 E.L.dg) (.int .i64 E.L.tn) (.string E.L.nm) (.slice oEL E.L.pw.length cEL) (.int .i64 E.R.dg) (.int .i64 E.R.tn) (.string E.R.nm) (.slice oER E.R.pw.length cER) (by go_simp); have z2_0 : w.heap.size < w2.heap.size := World.block_lt_of_cell? w2 _ c2_0_0; have d2_0 : ¬ (w.heap.size = w2.heap.size) := (by omega); have e2_0 : ¬ (w2.heap.size = w.heap.size) := (by omega); have F1_2 := K.ints.ext (F1_1) x2; have F2_2 := K.ints.ext (F2_1) x2; have F3_2 := K.recs.ext (F3_1) x2; clear c1_0_0 c1_0_1 c1_0_2 c1_0_3 c1_0_4 c1_0_5 c1_0_6 c1_0_7 z1_0 d1_0 e1_0 F1_1 F2_1 F3_1)
  go_wp2_with (go_at_call 95; refine K.call (by with_reducible rfl) (by with_reducible rfl) (HW _) ?_; rintro e w_ ⟨rfl, rfl⟩)
  go_wp2_with (go_at_call 142; refine K.call (by with_reducible rfl) (by with_reducible rfl) (HP _ (F3_2)) ?_; rintro e w4 ⟨⟨p4, rfl, g4⟩, x4⟩; obtain ⟨o4, k4, rfl, _⟩ := K.recs.mono g4 (Nat.le_refl _) (Nat.le_refl _); have F4_4 : K.recs false K.FgR w4 (w2.heap.size) (w4.heap.size) (.slice o4 ((l1, true).1).length k4) (((l1, true).1)) := g4.mono (by simp) (Nat.le_refl _); clear g4; have s4 : w2.heap.size ≤ w4.heap.size := (by have h_ := x4.size; (try simp at h_); omega); have X4 := K.Ext.trans (X2) x4; obtain ⟨c4_0_0, c4_0_1, c4_0_2, c4_0_3, c4_0_4, c4_0_5, c4_0_6, c4_0_7⟩ := K.c8 x4 (w.heap.size) (.int .i64 E.L.dg) (.int .i64 E.L.tn) (.string E.L.nm) (.slice oEL E.L.pw.length cEL) (.int .i64 E.R.dg) (.int .i64 E.R.tn) (.string E.R.nm) (.slice oER E.R.pw.length cER) (by go_simp); have z4_0 : w.heap.size < w4.heap.size := World.block_lt_of_cell? w4 _ c4_0_0; have d4_0 : ¬ (w.heap.size = w4.heap.size) := (by omega); have e4_0 : ¬ (w4.heap.size = w.heap.size) := (by omega); have F1_4 := K.ints.ext (F1_2) x4; have F2_4 := K.ints.ext (F2_2) x4; have F3_4 := K.recs.ext (F3_2) x4; clear c2_0_0 c2_0_1 c2_0_2 c2_0_3 c2_0_4 c2_0_5 c2_0_6 c2_0_7 z2_0 d2_0 e2_0 F1_2 F2_2 F3_2)
  go_wp2_with (go_at_call 142; refine K.call (by with_reducible rfl) (by with_reducible rfl) (HQ _ (F3_4)) ?_; rintro e w5 ⟨⟨p5, rfl, g5⟩, x5⟩; obtain ⟨o5, k5, rfl, _⟩ := K.recs.mono g5 (Nat.le_refl _) (Nat.le_refl _); have F5_5 : K.recs false K.FgR w5 (w4.heap.size) (w5.heap.size) (.slice o5 ((l2, true).1).length k5) (((l2, true).1)) := g5.mono (by simp) (Nat.le_refl _); clear g5; have s5 : w4.heap.size ≤ w5.heap.size := (by have h_ := x5.size; (try simp at h_); omega); have X5 := K.Ext.trans (X4) x5; obtain ⟨c5_0_0, c5_0_1, c5_0_2, c5_0_3, c5_0_4, c5_0_5, c5_0_6, c5_0_7⟩ := K.c8 x5 (w.heap.size) (.int .i64 E.L.dg) (.int .i64 E.L.tn) (.string E.L.nm) (.slice oEL E.L.pw.length cEL) (.int .i64 E.R.dg) (.int .i64 E.R.tn) (.string E.R.nm) (.slice oER E.R.pw.length cER) (by go_simp); have z5_0 : w.heap.size < w5.heap.size := World.block_lt_of_cell? w5 _ c5_0_0; have d5_0 : ¬ (w.heap.size = w5.heap.size) := (by omega); have e5_0 : ¬ (w5.heap.size = w.heap.size) := (by omega); have F1_5 := K.ints.ext (F1_4) x5; have F2_5 := K.ints.ext (F2_4) x5; have F3_5 := K.recs.ext (F3_4) x5; have F4_5 := K.recs.ext (F4_4) x5; clear c4_0_0 c4_0_1 c4_0_2 c4_0_3 c4_0_4 c4_0_5 c4_0_6 c4_0_7 z4_0 d4_0 e4_0 F1_4 F2_4 F3_4 F4_4)
  go_wp2_with fail
  go_region_with (first | (go_at_call 125; refine K.call (by with_reducible rfl) (by with_reducible rfl) (H1 _ (show K.ints _ (loEL) (hiEL) (.slice oEL E.L.pw.length cEL) (E.L.pw) from by repeat' (first | with_reducible exact F1_5 | with_reducible refine K.ints.set ?_ _ ?_ _ | with_reducible refine K.ints.alloc ?_ _ | with_reducible refine K.ints.drew ?_ | (dsimp only; omega) | omega | (simp; done) | (simp; omega))) (show K.recs false K.FgR _ (w2.heap.size) (w4.heap.size) (.slice o4 ((l1, true).1).length k4) (((l1, true).1)) from by repeat' (first | with_reducible exact F4_5 | with_reducible refine K.recs.set (by decide) ?_ _ ?_ _ | with_reducible refine K.recs.alloc ?_ _ | with_reducible refine K.recs.drew ?_ | (dsimp only; omega) | omega | (simp; done) | (simp; omega)))) ?_; rintro e w6 ⟨rfl, x6⟩; have s6 : w5.heap.size ≤ w6.heap.size := (by have h_ := x6.size; (try simp at h_); omega); have X6 : K.Ext w w6 := K.Ext.trans (by repeat' (first | with_reducible exact X5 | with_reducible refine K.Ext.setCell ?_ ?_ _ | with_reducible refine K.Ext.alloc ?_ _ | with_reducible refine K.Ext.drew ?_ | (dsimp only; omega) | omega | (simp; omega))) x6; obtain ⟨c6_0_0, c6_0_1, c6_0_2, c6_0_3, c6_0_4, c6_0_5, c6_0_6, c6_0_7⟩ := K.c8 x6 (w.heap.size) (.int .i64 E.L.dg) (.int .i64 E.L.tn) (.string E.L.nm) (.slice oEL E.L.pw.length cEL) (.int .i64 E.R.dg) (.int .i64 E.R.tn) (.string E.R.nm) (.slice oER E.R.pw.length cER) (by go_simp); have z6_0 : w.heap.size < w6.heap.size := World.block_lt_of_cell? w6 _ c6_0_0; have d6_0 : ¬ (w.heap.size = w6.heap.size) := (by omega); have e6_0 : ¬ (w6.heap.size = w.heap.size) := (by omega); have F1_6 := K.ints.ext (show K.ints _ (loEL) (hiEL) (.slice oEL E.L.pw.length cEL) (E.L.pw) from by repeat' (first | with_reducible exact F1_5 | with_reducible refine K.ints.set ?_ _ ?_ _ | with_reducible refine K.ints.alloc ?_ _ | with_reducible refine K.ints.drew ?_ | (dsimp only; omega) | omega | (simp; done) | (simp; omega))) x6; have F2_6 := K.ints.ext (show K.ints _ (loER) (hiER) (.slice oER E.R.pw.length cER) (E.R.pw) from by repeat' (first | with_reducible exact F2_5 | with_reducible refine K.ints.set ?_ _ ?_ _ | with_reducible refine K.ints.alloc ?_ _ | with_reducible refine K.ints.drew ?_ | (dsimp only; omega) | omega | (simp; done) | (simp; omega))) x6; have F3_6 := K.recs.ext (show K.recs false K.FgR _ (lovs) (hivs) (.slice ovs vs.length cvs) (vs) from by repeat' (first | with_reducible exact F3_5 | with_reducible refine K.recs.set (by decide) ?_ _ ?_ _ | with_reducible refine K.recs.alloc ?_ _ | with_reducible refine K.recs.drew ?_ | (dsimp only; omega) | omega | (simp; done) | (simp; omega))) x6; have F4_6 := K.recs.ext (show K.recs false K.FgR _ (w2.heap.size) (w4.heap.size) (.slice o4 ((l1, true).1).length k4) (((l1, true).1)) from by repeat' (first | with_reducible exact F4_5 | with_reducible refine K.recs.set (by decide) ?_ _ ?_ _ | with_reducible refine K.recs.alloc ?_ _ | with_reducible refine K.recs.drew ?_ | (dsimp only; omega) | omega | (simp; done) | (simp; omega))) x6; have F5_6 := K.recs.ext (show K.recs false K.FgR _ (w4.heap.size) (w5.heap.size) (.slice o5 ((l2, true).1).length k5) (((l2, true).1)) from by repeat' (first | with_reducible exact F5_5 | with_reducible refine K.recs.set (by decide) ?_ _ ?_ _ | with_reducible refine K.recs.alloc ?_ _ | with_reducible refine K.recs.drew ?_ | (dsimp only; omega) | omega | (simp; done) | (simp; omega))) x6; clear c5_0_0 c5_0_1 c5_0_2 c5_0_3 c5_0_4 c5_0_5 c5_0_6 c5_0_7 z5_0 d5_0 e5_0 F1_5 F2_5 F3_5 F4_5 F5_5) | (go_at_call 144; refine K.call (by with_reducible rfl) (by with_reducible rfl) (spread_any X u _ a1 a2 hu S HSp) ?_; rintro e w7 ⟨rfl, x7⟩; have s7 : w6.heap.size ≤ w7.heap.size := (by have h_ := x7.size; (try simp at h_); omega); have X7 : K.Ext w w7 := K.Ext.trans (by repeat' (first | with_reducible exact X6 | with_reducible refine K.Ext.setCell ?_ ?_ _ | with_reducible refine K.Ext.alloc ?_ _ | with_reducible refine K.Ext.drew ?_ | (dsimp only; omega) | omega | (simp; omega))) x7; obtain ⟨c7_0_0, c7_0_1, c7_0_2, c7_0_3, c7_0_4, c7_0_5, c7_0_6, c7_0_7⟩ := K.c8 x7 (w.heap.size) (.int .i64 E.L.dg) (.int .i64 E.L.tn) (.string E.L.nm) (.slice oEL E.L.pw.length cEL) (.int .i64 E.R.dg) (.int .i64 E.R.tn) (.string E.R.nm) (.slice oER E.R.pw.length cER) (by go_simp); have z7_0 : w.heap.size < w7.heap.size := World.block_lt_of_cell? w7 _ c7_0_0; have d7_0 : ¬ (w.heap.size = w7.heap.size) := (by omega); have e7_0 : ¬ (w7.heap.size = w.heap.size) := (by omega); have F1_7 := K.ints.ext (show K.ints _ (loEL) (hiEL) (.slice oEL E.L.pw.length cEL) (E.L.pw) from by repeat' (first | with_reducible exact F1_6 | with_reducible refine K.ints.set ?_ _ ?_ _ | with_reducible refine K.ints.alloc ?_ _ | with_reducible refine K.ints.drew ?_ | (dsimp only; omega) | omega | (simp; done) | (simp; omega))) x7; have F2_7 := K.ints.ext (show K.ints _ (loER) (hiER) (.slice oER E.R.pw.length cER) (E.R.pw) from by repeat' (first | with_reducible exact F2_6 | with_reducible refine K.ints.set ?_ _ ?_ _ | with_reducible refine K.ints.alloc ?_ _ | with_reducible refine K.ints.drew ?_ | (dsimp only; omega) | omega | (simp; done) | (simp; omega))) x7; have F3_7 := K.recs.ext (show K.recs false K.FgR _ (lovs) (hivs) (.slice ovs vs.length cvs) (vs) from by repeat' (first | with_reducible exact F3_6 | with_reducible refine K.recs.set (by decide) ?_ _ ?_ _ | with_reducible refine K.recs.alloc ?_ _ | with_reducible refine K.recs.drew ?_ | (dsimp only; omega) | omega | (simp; done) | (simp; omega))) x7; have F4_7 := K.recs.ext (show K.recs false K.FgR _ (w2.heap.size) (w4.heap.size) (.slice o4 ((l1, true).1).length k4) (((l1, true).1)) from by repeat' (first | with_reducible exact F4_6 | with_reducible refine K.recs.set (by decide) ?_ _ ?_ _ | with_reducible refine K.recs.alloc ?_ _ | with_reducible refine K.recs.drew ?_ | (dsimp only; omega) | omega | (simp; done) | (simp; omega))) x7; have F5_7 := K.recs.ext (show K.recs false K.FgR _ (w4.heap.size) (w5.heap.size) (.slice o5 ((l2, true).1).length k5) (((l2, true).1)) from by repeat' (first | with_reducible exact F5_6 | with_reducible refine K.recs.set (by decide) ?_ _ ?_ _ | with_reducible refine K.recs.alloc ?_ _ | with_reducible refine K.recs.drew ?_ | (dsimp only; omega) | omega | (simp; done) | (simp; omega))) x7; clear c6_0_0 c6_0_1 c6_0_2 c6_0_3 c6_0_4 c6_0_5 c6_0_6 c6_0_7 z6_0 d6_0 e6_0 F1_6 F2_6 F3_6 F4_6 F5_6) | (go_at_call 125; refine K.call (by with_reducible rfl) (by with_reducible rfl) (H2 _ (show K.ints _ (loER) (hiER) (.slice oER E.R.pw.length cER) (E.R.pw) from by repeat' (first | with_reducible exact F2_7 | with_reducible refine K.ints.set ?_ _ ?_ _ | with_reducible refine K.ints.alloc ?_ _ | with_reducible refine K.ints.drew ?_ | (dsimp only; omega) | omega | (simp; done) | (simp; omega))) (show K.recs false K.FgR _ (w4.heap.size) (w5.heap.size) (.slice o5 ((l2, true).1).length k5) (((l2, true).1)) from by repeat' (first | with_reducible exact F5_7 | with_reducible refine K.recs.set (by decide) ?_ _ ?_ _ | with_reducible refine K.recs.alloc ?_ _ | with_reducible refine K.recs.drew ?_ | (dsimp only; omega) | omega | (simp; done) | (simp; omega)))) ?_; rintro e w8 ⟨rfl, x8⟩; have s8 : w7.heap.size ≤ w8.heap.size := (by have h_ := x8.size; (try simp at h_); omega); have X8 : K.Ext w w8 := K.Ext.trans (by repeat' (first | with_reducible exact X7 | with_reducible refine K.Ext.setCell ?_ ?_ _ | with_reducible refine K.Ext.alloc ?_ _ | with_reducible refine K.Ext.drew ?_ | (dsimp only; omega) | omega | (simp; omega))) x8; obtain ⟨c8_0_0, c8_0_1, c8_0_2, c8_0_3, c8_0_4, c8_0_5, c8_0_6, c8_0_7⟩ := K.c8 x8 (w.heap.size) (.int .i64 E.L.dg) (.int .i64 E.L.tn) (.string E.L.nm) (.slice oEL E.L.pw.length cEL) (.int .i64 E.R.dg) (.int .i64 E.R.tn) (.string E.R.nm) (.slice oER E.R.pw.length cER) (by go_simp); have z8_0 : w.heap.size < w8.heap.size := World.block_lt_of_cell? w8 _ c8_0_0; have d8_0 : ¬ (w.heap.size = w8.heap.size) := (by omega); have e8_0 : ¬ (w8.heap.size = w.heap.size) := (by omega); have F1_8 := K.ints.ext (show K.ints _ (loEL) (hiEL) (.slice oEL E.L.pw.length cEL) (E.L.pw) from by repeat' (first | with_reducible exact F1_7 | with_reducible refine K.ints.set ?_ _ ?_ _ | with_reducible refine K.ints.alloc ?_ _ | with_reducible refine K.ints.drew ?_ | (dsimp only; omega) | omega | (simp; done) | (simp; omega))) x8; have F2_8 := K.ints.ext (show K.ints _ (loER) (hiER) (.slice oER E.R.pw.length cER) (E.R.pw) from by repeat' (first | with_reducible exact F2_7 | with_reducible refine K.ints.set ?_ _ ?_ _ | with_reducible refine K.ints.alloc ?_ _ | with_reducible refine K.ints.drew ?_ | (dsimp only; omega) | omega | (simp; done) | (simp; omega))) x8; have F3_8 := K.recs.ext (show K.recs false K.FgR _ (lovs) (hivs) (.slice ovs vs.length cvs) (vs) from by repeat' (first | with_reducible exact F3_7 | with_reducible refine K.recs.set (by decide) ?_ _ ?_ _ | with_reducible refine K.recs.alloc ?_ _ | with_reducible refine K.recs.drew ?_ | (dsimp only; omega) | omega | (simp; done) | (simp; omega))) x8; have F4_8 := K.recs.ext (show K.recs false K.FgR _ (w2.heap.size) (w4.heap.size) (.slice o4 ((l1, true).1).length k4) (((l1, true).1)) from by repeat' (first | with_reducible exact F4_7 | with_reducible refine K.recs.set (by decide) ?_ _ ?_ _ | with_reducible refine K.recs.alloc ?_ _ | with_reducible refine K.recs.drew ?_ | (dsimp only; omega) | omega | (simp; done) | (simp; omega))) x8; have F5_8 := K.recs.ext (show K.recs false K.FgR _ (w4.heap.size) (w5.heap.size) (.slice o5 ((l2, true).1).length k5) (((l2, true).1)) from by repeat' (first | with_reducible exact F5_7 | with_reducible refine K.recs.set (by decide) ?_ _ ?_ _ | with_reducible refine K.recs.alloc ?_ _ | with_reducible refine K.recs.drew ?_ | (dsimp only; omega) | omega | (simp; done) | (simp; omega))) x8; clear c7_0_0 c7_0_1 c7_0_2 c7_0_3 c7_0_4 c7_0_5 c7_0_6 c7_0_7 z7_0 d7_0 e7_0 F1_7 F2_7 F3_7 F4_7 F5_7) | (go_at_call 143; refine K.call (by with_reducible rfl) (by with_reducible rfl) (meet_any S Y _) ?_; rintro e w9 ⟨rfl, x9⟩; have s9 : w8.heap.size ≤ w9.heap.size := (by have h_ := x9.size; (try simp at h_); omega); have X9 : K.Ext w w9 := K.Ext.trans (by repeat' (first | with_reducible exact X8 | with_reducible refine K.Ext.setCell ?_ ?_ _ | with_reducible refine K.Ext.alloc ?_ _ | with_reducible refine K.Ext.drew ?_ | (dsimp only; omega) | omega | (simp; omega))) x9; obtain ⟨c9_0_0, c9_0_1, c9_0_2, c9_0_3, c9_0_4, c9_0_5, c9_0_6, c9_0_7⟩ := K.c8 x9 (w.heap.size) (.int .i64 E.L.dg) (.int .i64 E.L.tn) (.string E.L.nm) (.slice oEL E.L.pw.length cEL) (.int .i64 E.R.dg) (.int .i64 E.R.tn) (.string E.R.nm) (.slice oER E.R.pw.length cER) (by go_simp); have z9_0 : w.heap.size < w9.heap.size := World.block_lt_of_cell? w9 _ c9_0_0; have d9_0 : ¬ (w.heap.size = w9.heap.size) := (by omega); have e9_0 : ¬ (w9.heap.size = w.heap.size) := (by omega); have F1_9 := K.ints.ext (show K.ints _ (loEL) (hiEL) (.slice oEL E.L.pw.length cEL) (E.L.pw) from by repeat' (first | with_reducible exact F1_8 | with_reducible refine K.ints.set ?_ _ ?_ _ | with_reducible refine K.ints.alloc ?_ _ | with_reducible refine K.ints.drew ?_ | (dsimp only; omega) | omega | (simp; done) | (simp; omega))) x9; have F2_9 := K.ints.ext (show K.ints _ (loER) (hiER) (.slice oER E.R.pw.length cER) (E.R.pw) from by repeat' (first | with_reducible exact F2_8 | with_reducible refine K.ints.set ?_ _ ?_ _ | with_reducible refine K.ints.alloc ?_ _ | with_reducible refine K.ints.drew ?_ | (dsimp only; omega) | omega | (simp; done) | (simp; omega))) x9; have F3_9 := K.recs.ext (show K.recs false K.FgR _ (lovs) (hivs) (.slice ovs vs.length cvs) (vs) from by repeat' (first | with_reducible exact F3_8 | with_reducible refine K.recs.set (by decide) ?_ _ ?_ _ | with_reducible refine K.recs.alloc ?_ _ | with_reducible refine K.recs.drew ?_ | (dsimp only; omega) | omega | (simp; done) | (simp; omega))) x9; have F4_9 := K.recs.ext (show K.recs false K.FgR _ (w2.heap.size) (w4.heap.size) (.slice o4 ((l1, true).1).length k4) (((l1, true).1)) from by repeat' (first | with_reducible exact F4_8 | with_reducible refine K.recs.set (by decide) ?_ _ ?_ _ | with_reducible refine K.recs.alloc ?_ _ | with_reducible refine K.recs.drew ?_ | (dsimp only; omega) | omega | (simp; done) | (simp; omega))) x9; have F5_9 := K.recs.ext (show K.recs false K.FgR _ (w4.heap.size) (w5.heap.size) (.slice o5 ((l2, true).1).length k5) (((l2, true).1)) from by repeat' (first | with_reducible exact F5_8 | with_reducible refine K.recs.set (by decide) ?_ _ ?_ _ | with_reducible refine K.recs.alloc ?_ _ | with_reducible refine K.recs.drew ?_ | (dsimp only; omega) | omega | (simp; done) | (simp; omega))) x9; clear c8_0_0 c8_0_1 c8_0_2 c8_0_3 c8_0_4 c8_0_5 c8_0_6 c8_0_7 z8_0 d8_0 e8_0 F1_8 F2_8 F3_8 F4_8 F5_8))
  all_goals
    go_wp2_with fail
    rw [HE.out]
    refine bodyPost_ret (v := .tuple #[.bool (decide (S.1 ≤ Y.2) && decide (Y.1 ≤ S.2)), .int .i64 0]) (by unfold results; rw [Try.results69]; go_simp) rfl ⟨rfl, ?_⟩
    repeat with_reducible refine K.Ext.setCell ?_ (by dsimp only; omega) _
    exact (by repeat' (first | with_reducible exact X9 | with_reducible refine K.Ext.setCell ?_ ?_ _ | with_reducible refine K.Ext.alloc ?_ _ | with_reducible refine K.Ext.drew ?_ | (dsimp only; omega) | omega | (simp; omega)))
set_option maxRecDepth 100000 in
set_option maxHeartbeats 12800000 in
theorem spec_CheckValues (E : Z.Eqn) (N : ByteArray) (vs : List (Int × Int)) (u : Int) {loEL hiEL loER hiER : Nat} {pEL pER : Value} {lovs hivs : Nat} {pvs : Value} (w : World) (hmN : N.size ≤ 1048576) (hmEL : E.L.pw.length ≤ 1048576) (hnEL : E.L.nm.size ≤ 1048576) (hmER : E.R.pw.length ≤ 1048576) (hnER : E.R.nm.size ≤ 1048576) (hEL : K.ints w loEL hiEL pEL E.L.pw) (hER : K.ints w loER hiER pER E.R.pw) (hmvs : vs.length ≤ 1048576) (hvs : K.recs false K.FgR w lovs hivs pvs vs) :
    Calls Try.prog 70 #[.agg #[.int .i64 E.L.dg, .int .i64 E.L.tn, .string E.L.nm, pEL, .int .i64 E.R.dg, .int .i64 E.R.tn, .string E.R.nm, pER], .string N, pvs, .int .i64 u] w fun e w' => e = .returned (.tuple #[.bool ((Z.CheckValues E N vs u).1), .int .i64 ((Z.CheckValues E N vs u).2)]) ∧ K.Ext w w' := by
  have hEL_ := hEL
  have shEL := hEL
  obtain ⟨oEL, cEL, rfl, _⟩ := shEL
  have hER_ := hER
  have shER := hER
  obtain ⟨oER, cER, rfl, _⟩ := shER
  have hvs_ := hvs
  have shvs := hvs
  obtain ⟨ovs, cvs, rfl, _⟩ := shvs
  have HV := Z.hide hvs
  cases vV : Z.areFigs vs
  · have HE : Hid (Z.CheckValues E N vs u = (false, 1)) := Z.hide (Z.Check_bad u (by unfold Z.checked; rw [vV]; simp))
    clear hvs hEL hER
    go_enter Try.func70, Try.ntmps70
    go_wp2
    go_loopw [10] (fun i wr => ∃ k : Nat, k ≤ vs.length ∧ i = .int .i64 k ∧ Hid (Z.areFigs (vs.take k) = true) ∧ Hid (K.Ext (w.alloc (.cells #[.int .i64 E.L.dg, .int .i64 E.L.tn, .string E.L.nm, .slice oEL E.L.pw.length cEL, .int .i64 E.R.dg, .int .i64 E.R.tn, .string E.R.nm, .slice oER E.R.pw.length cER] 57)) wr)) (fun i _ => vs.length - (intOf i).toNat)
    case atStart => exact ⟨0, Nat.zero_le _, rfl, Z.hide rfl, Z.hide (K.Ext.refl _)⟩
    case round =>
      obtain ⟨k, hk, rfl, HA, HX⟩ := hrel
      by_cases hlt : k < vs.length
      · obtain ⟨b, off, rfl, _, _, hc⟩ := (K.figs_of_recs HV.out).at_ (by omega)
        have HXw := Z.hide (K.Ext.trans ((K.Ext.refl w).alloc _) HX.out)
        have hc1 := HXw.out.cell_of (hc k hlt).1
        have hc2 := HXw.out.cell_of (hc k hlt).2
        have i0 : (0 : Int) ≤ (k : Int) := Int.natCast_nonneg k
        have i1 : (k : Int) < (vs.length : Int) := by omega
        have HS := Z.hide (Z.figs_succ vs k hlt)
        have HB := Z.hide (Z.figs_bad vs k hlt)
        clear hc
        generalize vs.getD k (0, 0) = f at *
        cases hf : Z.isFig f.1 f.2
        · go_wp2_with ((go_at_call 145; refine K.call (by with_reducible rfl) (by with_reducible rfl) (spec_IsFigure f.1 f.2 _) ?_; rintro e w1 ⟨rfl, hw1⟩; obtain ⟨hcw1, hfw1⟩ := hw1.facts))
          rw [HE.out]
          go_ret2
          exact ⟨rfl, K.Ext.trans HXw.out (by repeat' (first | with_reducible exact K.Ext.refl _ | with_reducible assumption | with_reducible refine K.Ext.drew ?_ | with_reducible refine K.Ext.alloc ?_ _ | with_reducible refine K.Ext.setCell ?_ ?_ _ | with_reducible refine K.Ext.trans ?_ (by with_reducible assumption) | (dsimp only; omega) | omega | exact K.Ext.refl _ | assumption | apply K.Ext.drew | refine K.Ext.alloc ?_ _ | refine K.Ext.setCell ?_ ?_ _ | (simp; done) | (simp; omega) | refine K.Ext.trans ?_ (by assumption)))⟩
        · have HF : Hid (Z.areFigs (vs.take (k + 1)) = true) := Z.hide (by rw [HS.out, HA.out, hf]; rfl)
          go_wp2_with ((go_at_call 145; refine K.call (by with_reducible rfl) (by with_reducible rfl) (spec_IsFigure f.1 f.2 _) ?_; rintro e w1 ⟨rfl, hw1⟩; obtain ⟨hcw1, hfw1⟩ := hw1.facts))
          go_roundw
          case rel => exact ⟨k + 1, by omega, by go_num, HF, Z.hide (K.Ext.trans HX.out (by repeat' (first | with_reducible exact K.Ext.refl _ | with_reducible assumption | with_reducible refine K.Ext.drew ?_ | with_reducible refine K.Ext.alloc ?_ _ | with_reducible refine K.Ext.setCell ?_ ?_ _ | with_reducible refine K.Ext.trans ?_ (by with_reducible assumption) | (dsimp only; omega) | omega | exact K.Ext.refl _ | assumption | apply K.Ext.drew | refine K.Ext.alloc ?_ _ | refine K.Ext.setCell ?_ ?_ _ | (simp; done) | (simp; omega) | refine K.Ext.trans ?_ (by assumption))))⟩
          case measure => simp [intOf]; omega
      · obtain rfl : k = vs.length := by omega
        have h_ := HA.out
        rw [List.take_length, vV] at h_
        cases h_
  cases vE : Z.isEquation E
  · have HE : Hid (Z.CheckValues E N vs u = (false, 1)) := Z.hide (Z.Check_bad u (by unfold Z.checked; rw [vE]; rfl))
    have X0 : K.Ext w w := K.Ext.refl w
    go_enter Try.func70, Try.ntmps70
    go_wp2
    go_loopw [10] (fun i wr => ∃ k : Nat, k ≤ vs.length ∧ i = .int .i64 k ∧ Hid (Z.areFigs (vs.take k) = true) ∧ Hid (K.Ext (w.alloc (.cells #[.int .i64 E.L.dg, .int .i64 E.L.tn, .string E.L.nm, .slice oEL E.L.pw.length cEL, .int .i64 E.R.dg, .int .i64 E.R.tn, .string E.R.nm, .slice oER E.R.pw.length cER] 57)) wr)) (fun i _ => vs.length - (intOf i).toNat)
    case atStart => exact ⟨0, Nat.zero_le _, rfl, Z.hide rfl, Z.hide (K.Ext.refl _)⟩
    case round =>
      obtain ⟨k, hk, rfl, HA, HX⟩ := hrel
      by_cases hlt : k < vs.length
      · obtain ⟨b, off, rfl, _, _, hc⟩ := (K.figs_of_recs HV.out).at_ (by omega)
        have HXw := Z.hide (K.Ext.trans ((K.Ext.refl w).alloc _) HX.out)
        have hc1 := HXw.out.cell_of (hc k hlt).1
        have hc2 := HXw.out.cell_of (hc k hlt).2
        have i0 : (0 : Int) ≤ (k : Int) := Int.natCast_nonneg k
        have i1 : (k : Int) < (vs.length : Int) := by omega
        have HS := Z.hide (Z.figs_succ vs k hlt)
        have HB := Z.hide (Z.figs_bad vs k hlt)
        clear hc
        generalize vs.getD k (0, 0) = f at *
        cases hf : Z.isFig f.1 f.2
        · have hq_ := HB.out hf; rw [vV] at hq_; cases hq_
        · have HF : Hid (Z.areFigs (vs.take (k + 1)) = true) := Z.hide (by rw [HS.out, HA.out, hf]; rfl)
          go_wp2_with ((go_at_call 145; refine K.call (by with_reducible rfl) (by with_reducible rfl) (spec_IsFigure f.1 f.2 _) ?_; rintro e w1 ⟨rfl, hw1⟩; obtain ⟨hcw1, hfw1⟩ := hw1.facts))
          go_roundw
          case rel => exact ⟨k + 1, by omega, by go_num, HF, Z.hide (K.Ext.trans HX.out (by repeat' (first | with_reducible exact K.Ext.refl _ | with_reducible assumption | with_reducible refine K.Ext.drew ?_ | with_reducible refine K.Ext.alloc ?_ _ | with_reducible refine K.Ext.setCell ?_ ?_ _ | with_reducible refine K.Ext.trans ?_ (by with_reducible assumption) | (dsimp only; omega) | omega | exact K.Ext.refl _ | assumption | apply K.Ext.drew | refine K.Ext.alloc ?_ _ | refine K.Ext.setCell ?_ ?_ _ | (simp; done) | (simp; omega) | refine K.Ext.trans ?_ (by assumption))))⟩
          case measure => simp [intOf]; omega
      · obtain rfl : k = vs.length := by omega
        have hx := HX.out
        have s1 : w.heap.size + 1 ≤ wr.heap.size := (by have h_ := hx.size; (try simp at h_); omega)
        have X1 := K.Ext.trans (K.Ext.alloc X0 _) hx
        obtain ⟨c1_0_0, c1_0_1, c1_0_2, c1_0_3, c1_0_4, c1_0_5, c1_0_6, c1_0_7⟩ := K.c8 hx (w.heap.size) (.int .i64 E.L.dg) (.int .i64 E.L.tn) (.string E.L.nm) (.slice oEL E.L.pw.length cEL) (.int .i64 E.R.dg) (.int .i64 E.R.tn) (.string E.R.nm) (.slice oER E.R.pw.length cER) (by go_simp)
        have z1_0 : w.heap.size < wr.heap.size := World.block_lt_of_cell? wr _ c1_0_0
        have d1_0 : ¬ (w.heap.size = wr.heap.size) := (by omega)
        have e1_0 : ¬ (wr.heap.size = w.heap.size) := (by omega)
        have F1_1 := K.ints.ext (K.ints.alloc hEL_ _) hx
        have F2_1 := K.ints.ext (K.ints.alloc hER_ _) hx
        have F3_1 := K.recs.ext (K.recs.alloc hvs_ _) hx
        clear hEL_ hER_ hvs_
        go_wp2_with (go_at_call 116; refine K.call (by with_reducible rfl) (by with_reducible rfl) (spec_IsEquation E _ hmEL hnEL hmER hnER (F1_1) (F2_1)) ?_; rintro e w2 ⟨rfl, x2⟩; have s2 : wr.heap.size ≤ w2.heap.size := (by have h_ := x2.size; (try simp at h_); omega); have X2 := K.Ext.trans (X1) x2; obtain ⟨c2_0_0, c2_0_1, c2_0_2, c2_0_3, c2_0_4, c2_0_5, c2_0_6, c2_0_7⟩ := K.c8 x2 (w.heap.size) (.int .i64 E.L.dg) (.int .i64 E.L.tn) (.string E.L.nm) (.slice oEL E.L.pw.length cEL) (.int .i64 E.R.dg) (.int .i64 E.R.tn) (.string E.R.nm) (.slice oER E.R.pw.length cER) (by go_simp); have z2_0 : w.heap.size < w2.heap.size := World.block_lt_of_cell? w2 _ c2_0_0; have d2_0 : ¬ (w.heap.size = w2.heap.size) := (by omega); have e2_0 : ¬ (w2.heap.size = w.heap.size) := (by omega); have F1_2 := K.ints.ext (F1_1) x2; have F2_2 := K.ints.ext (F2_1) x2; have F3_2 := K.recs.ext (F3_1) x2; clear c1_0_0 c1_0_1 c1_0_2 c1_0_3 c1_0_4 c1_0_5 c1_0_6 c1_0_7 z1_0 d1_0 e1_0 F1_1 F2_1 F3_1)
        rw [HE.out]
        refine bodyPost_ret (v := .tuple #[.bool false, .int .i64 1]) (by unfold results; rw [Try.results70]; go_simp) rfl ⟨rfl, ?_⟩
        repeat with_reducible refine K.Ext.setCell ?_ (by dsimp only; omega) _
        exact (by repeat' (first | with_reducible exact X2 | with_reducible refine K.Ext.setCell ?_ ?_ _ | with_reducible refine K.Ext.alloc ?_ _ | with_reducible refine K.Ext.drew ?_ | (dsimp only; omega) | omega | (simp; omega)))
  by_cases hNl : N.size = vs.length
  case neg =>
    have HE : Hid (Z.CheckValues E N vs u = (false, 1)) := Z.hide (Z.Check_bad u (by unfold Z.checked; rw [decide_eq_false hNl]; simp))
    have t1 : ((N.size : Int) != (vs.length : Int)) = true := by simp; omega
    have t2 : ¬ ((N.size : Int) = (vs.length : Int)) := by omega
    have X0 : K.Ext w w := K.Ext.refl w
    go_enter Try.func70, Try.ntmps70
    go_wp2
    go_loopw [10] (fun i wr => ∃ k : Nat, k ≤ vs.length ∧ i = .int .i64 k ∧ Hid (Z.areFigs (vs.take k) = true) ∧ Hid (K.Ext (w.alloc (.cells #[.int .i64 E.L.dg, .int .i64 E.L.tn, .string E.L.nm, .slice oEL E.L.pw.length cEL, .int .i64 E.R.dg, .int .i64 E.R.tn, .string E.R.nm, .slice oER E.R.pw.length cER] 57)) wr)) (fun i _ => vs.length - (intOf i).toNat)
    case atStart => exact ⟨0, Nat.zero_le _, rfl, Z.hide rfl, Z.hide (K.Ext.refl _)⟩
    case round =>
      obtain ⟨k, hk, rfl, HA, HX⟩ := hrel
      by_cases hlt : k < vs.length
      · obtain ⟨b, off, rfl, _, _, hc⟩ := (K.figs_of_recs HV.out).at_ (by omega)
        have HXw := Z.hide (K.Ext.trans ((K.Ext.refl w).alloc _) HX.out)
        have hc1 := HXw.out.cell_of (hc k hlt).1
        have hc2 := HXw.out.cell_of (hc k hlt).2
        have i0 : (0 : Int) ≤ (k : Int) := Int.natCast_nonneg k
        have i1 : (k : Int) < (vs.length : Int) := by omega
        have HS := Z.hide (Z.figs_succ vs k hlt)
        have HB := Z.hide (Z.figs_bad vs k hlt)
        clear hc
        generalize vs.getD k (0, 0) = f at *
        cases hf : Z.isFig f.1 f.2
        · have hq_ := HB.out hf; rw [vV] at hq_; cases hq_
        · have HF : Hid (Z.areFigs (vs.take (k + 1)) = true) := Z.hide (by rw [HS.out, HA.out, hf]; rfl)
          go_wp2_with ((go_at_call 145; refine K.call (by with_reducible rfl) (by with_reducible rfl) (spec_IsFigure f.1 f.2 _) ?_; rintro e w1 ⟨rfl, hw1⟩; obtain ⟨hcw1, hfw1⟩ := hw1.facts))
          go_roundw
          case rel => exact ⟨k + 1, by omega, by go_num, HF, Z.hide (K.Ext.trans HX.out (by repeat' (first | with_reducible exact K.Ext.refl _ | with_reducible assumption | with_reducible refine K.Ext.drew ?_ | with_reducible refine K.Ext.alloc ?_ _ | with_reducible refine K.Ext.setCell ?_ ?_ _ | with_reducible refine K.Ext.trans ?_ (by with_reducible assumption) | (dsimp only; omega) | omega | exact K.Ext.refl _ | assumption | apply K.Ext.drew | refine K.Ext.alloc ?_ _ | refine K.Ext.setCell ?_ ?_ _ | (simp; done) | (simp; omega) | refine K.Ext.trans ?_ (by assumption))))⟩
          case measure => simp [intOf]; omega
      · obtain rfl : k = vs.length := by omega
        have hx := HX.out
        have s1 : w.heap.size + 1 ≤ wr.heap.size := (by have h_ := hx.size; (try simp at h_); omega)
        have X1 := K.Ext.trans (K.Ext.alloc X0 _) hx
        obtain ⟨c1_0_0, c1_0_1, c1_0_2, c1_0_3, c1_0_4, c1_0_5, c1_0_6, c1_0_7⟩ := K.c8 hx (w.heap.size) (.int .i64 E.L.dg) (.int .i64 E.L.tn) (.string E.L.nm) (.slice oEL E.L.pw.length cEL) (.int .i64 E.R.dg) (.int .i64 E.R.tn) (.string E.R.nm) (.slice oER E.R.pw.length cER) (by go_simp)
        have z1_0 : w.heap.size < wr.heap.size := World.block_lt_of_cell? wr _ c1_0_0
        have d1_0 : ¬ (w.heap.size = wr.heap.size) := (by omega)
        have e1_0 : ¬ (wr.heap.size = w.heap.size) := (by omega)
        have F1_1 := K.ints.ext (K.ints.alloc hEL_ _) hx
        have F2_1 := K.ints.ext (K.ints.alloc hER_ _) hx
        have F3_1 := K.recs.ext (K.recs.alloc hvs_ _) hx
        clear hEL_ hER_ hvs_
        go_wp2_with (go_at_call 116; refine K.call (by with_reducible rfl) (by with_reducible rfl) (spec_IsEquation E _ hmEL hnEL hmER hnER (F1_1) (F2_1)) ?_; rintro e w2 ⟨rfl, x2⟩; have s2 : wr.heap.size ≤ w2.heap.size := (by have h_ := x2.size; (try simp at h_); omega); have X2 := K.Ext.trans (X1) x2; obtain ⟨c2_0_0, c2_0_1, c2_0_2, c2_0_3, c2_0_4, c2_0_5, c2_0_6, c2_0_7⟩ := K.c8 x2 (w.heap.size) (.int .i64 E.L.dg) (.int .i64 E.L.tn) (.string E.L.nm) (.slice oEL E.L.pw.length cEL) (.int .i64 E.R.dg) (.int .i64 E.R.tn) (.string E.R.nm) (.slice oER E.R.pw.length cER) (by go_simp); have z2_0 : w.heap.size < w2.heap.size := World.block_lt_of_cell? w2 _ c2_0_0; have d2_0 : ¬ (w.heap.size = w2.heap.size) := (by omega); have e2_0 : ¬ (w2.heap.size = w.heap.size) := (by omega); have F1_2 := K.ints.ext (F1_1) x2; have F2_2 := K.ints.ext (F2_1) x2; have F3_2 := K.recs.ext (F3_1) x2; clear c1_0_0 c1_0_1 c1_0_2 c1_0_3 c1_0_4 c1_0_5 c1_0_6 c1_0_7 z1_0 d1_0 e1_0 F1_1 F2_1 F3_1)
        rw [HE.out]
        refine bodyPost_ret (v := .tuple #[.bool false, .int .i64 1]) (by unfold results; rw [Try.results70]; go_simp) rfl ⟨rfl, ?_⟩
        repeat with_reducible refine K.Ext.setCell ?_ (by dsimp only; omega) _
        exact (by repeat' (first | with_reducible exact X2 | with_reducible refine K.Ext.setCell ?_ ?_ _ | with_reducible refine K.Ext.alloc ?_ _ | with_reducible refine K.Ext.drew ?_ | (dsimp only; omega) | omega | (simp; omega)))
  by_cases hN20 : N.size ≤ 20
  case neg =>
    have HE : Hid (Z.CheckValues E N vs u = (false, 1)) := Z.hide (Z.Check_bad u (by unfold Z.checked; rw [decide_eq_false hN20]; simp))
    have t1 : (20 : Int) < (N.size : Int) := by omega
    have X0 : K.Ext w w := K.Ext.refl w
    go_enter Try.func70, Try.ntmps70
    go_wp2
    go_loopw [10] (fun i wr => ∃ k : Nat, k ≤ vs.length ∧ i = .int .i64 k ∧ Hid (Z.areFigs (vs.take k) = true) ∧ Hid (K.Ext (w.alloc (.cells #[.int .i64 E.L.dg, .int .i64 E.L.tn, .string E.L.nm, .slice oEL E.L.pw.length cEL, .int .i64 E.R.dg, .int .i64 E.R.tn, .string E.R.nm, .slice oER E.R.pw.length cER] 57)) wr)) (fun i _ => vs.length - (intOf i).toNat)
    case atStart => exact ⟨0, Nat.zero_le _, rfl, Z.hide rfl, Z.hide (K.Ext.refl _)⟩
    case round =>
      obtain ⟨k, hk, rfl, HA, HX⟩ := hrel
      by_cases hlt : k < vs.length
      · obtain ⟨b, off, rfl, _, _, hc⟩ := (K.figs_of_recs HV.out).at_ (by omega)
        have HXw := Z.hide (K.Ext.trans ((K.Ext.refl w).alloc _) HX.out)
        have hc1 := HXw.out.cell_of (hc k hlt).1
        have hc2 := HXw.out.cell_of (hc k hlt).2
        have i0 : (0 : Int) ≤ (k : Int) := Int.natCast_nonneg k
        have i1 : (k : Int) < (vs.length : Int) := by omega
        have HS := Z.hide (Z.figs_succ vs k hlt)
        have HB := Z.hide (Z.figs_bad vs k hlt)
        clear hc
        generalize vs.getD k (0, 0) = f at *
        cases hf : Z.isFig f.1 f.2
        · have hq_ := HB.out hf; rw [vV] at hq_; cases hq_
        · have HF : Hid (Z.areFigs (vs.take (k + 1)) = true) := Z.hide (by rw [HS.out, HA.out, hf]; rfl)
          go_wp2_with ((go_at_call 145; refine K.call (by with_reducible rfl) (by with_reducible rfl) (spec_IsFigure f.1 f.2 _) ?_; rintro e w1 ⟨rfl, hw1⟩; obtain ⟨hcw1, hfw1⟩ := hw1.facts))
          go_roundw
          case rel => exact ⟨k + 1, by omega, by go_num, HF, Z.hide (K.Ext.trans HX.out (by repeat' (first | with_reducible exact K.Ext.refl _ | with_reducible assumption | with_reducible refine K.Ext.drew ?_ | with_reducible refine K.Ext.alloc ?_ _ | with_reducible refine K.Ext.setCell ?_ ?_ _ | with_reducible refine K.Ext.trans ?_ (by with_reducible assumption) | (dsimp only; omega) | omega | exact K.Ext.refl _ | assumption | apply K.Ext.drew | refine K.Ext.alloc ?_ _ | refine K.Ext.setCell ?_ ?_ _ | (simp; done) | (simp; omega) | refine K.Ext.trans ?_ (by assumption))))⟩
          case measure => simp [intOf]; omega
      · obtain rfl : k = vs.length := by omega
        have hx := HX.out
        have s1 : w.heap.size + 1 ≤ wr.heap.size := (by have h_ := hx.size; (try simp at h_); omega)
        have X1 := K.Ext.trans (K.Ext.alloc X0 _) hx
        obtain ⟨c1_0_0, c1_0_1, c1_0_2, c1_0_3, c1_0_4, c1_0_5, c1_0_6, c1_0_7⟩ := K.c8 hx (w.heap.size) (.int .i64 E.L.dg) (.int .i64 E.L.tn) (.string E.L.nm) (.slice oEL E.L.pw.length cEL) (.int .i64 E.R.dg) (.int .i64 E.R.tn) (.string E.R.nm) (.slice oER E.R.pw.length cER) (by go_simp)
        have z1_0 : w.heap.size < wr.heap.size := World.block_lt_of_cell? wr _ c1_0_0
        have d1_0 : ¬ (w.heap.size = wr.heap.size) := (by omega)
        have e1_0 : ¬ (wr.heap.size = w.heap.size) := (by omega)
        have F1_1 := K.ints.ext (K.ints.alloc hEL_ _) hx
        have F2_1 := K.ints.ext (K.ints.alloc hER_ _) hx
        have F3_1 := K.recs.ext (K.recs.alloc hvs_ _) hx
        clear hEL_ hER_ hvs_
        go_wp2_with (go_at_call 116; refine K.call (by with_reducible rfl) (by with_reducible rfl) (spec_IsEquation E _ hmEL hnEL hmER hnER (F1_1) (F2_1)) ?_; rintro e w2 ⟨rfl, x2⟩; have s2 : wr.heap.size ≤ w2.heap.size := (by have h_ := x2.size; (try simp at h_); omega); have X2 := K.Ext.trans (X1) x2; obtain ⟨c2_0_0, c2_0_1, c2_0_2, c2_0_3, c2_0_4, c2_0_5, c2_0_6, c2_0_7⟩ := K.c8 x2 (w.heap.size) (.int .i64 E.L.dg) (.int .i64 E.L.tn) (.string E.L.nm) (.slice oEL E.L.pw.length cEL) (.int .i64 E.R.dg) (.int .i64 E.R.tn) (.string E.R.nm) (.slice oER E.R.pw.length cER) (by go_simp); have z2_0 : w.heap.size < w2.heap.size := World.block_lt_of_cell? w2 _ c2_0_0; have d2_0 : ¬ (w.heap.size = w2.heap.size) := (by omega); have e2_0 : ¬ (w2.heap.size = w.heap.size) := (by omega); have F1_2 := K.ints.ext (F1_1) x2; have F2_2 := K.ints.ext (F2_1) x2; have F3_2 := K.recs.ext (F3_1) x2; clear c1_0_0 c1_0_1 c1_0_2 c1_0_3 c1_0_4 c1_0_5 c1_0_6 c1_0_7 z1_0 d1_0 e1_0 F1_1 F2_1 F3_1)
        rw [HE.out]
        refine bodyPost_ret (v := .tuple #[.bool false, .int .i64 1]) (by unfold results; rw [Try.results70]; go_simp) rfl ⟨rfl, ?_⟩
        repeat with_reducible refine K.Ext.setCell ?_ (by dsimp only; omega) _
        exact (by repeat' (first | with_reducible exact X2 | with_reducible refine K.Ext.setCell ?_ ?_ _ | with_reducible refine K.Ext.alloc ?_ _ | with_reducible refine K.Ext.drew ?_ | (dsimp only; omega) | omega | (simp; omega)))
  have hck : Z.checked E N vs = true := by unfold Z.checked; rw [vE, vV, decide_eq_true hNl, decide_eq_true hN20]; rfl
  have hN21 : ¬ ((20 : Int) < (N.size : Int)) := by omega
  by_cases hu : 0 ≤ u ∧ u ≤ 1048576
  case neg =>
    have HE : Hid (Z.CheckValues E N vs u = (false, 2)) := Z.hide (Z.Check_range hck hu)
    have hwi : (decide (0 ≤ u) && decide (u ≤ 1048576)) = false := by rw [Bool.and_eq_false_iff]; simp only [decide_eq_false_iff_not]; omega
    have HW : ∀ w : World, Calls Try.prog 96 #[.int .i64 u, .int .i64 0, .int .i64 1048576] w fun e w' => e = .returned (.bool false) ∧ w = w' := fun w => by rw [← hwi]; exact l01In_any _ _ _ _
    clear hwi hck
    have X0 : K.Ext w w := K.Ext.refl w
    go_enter Try.func70, Try.ntmps70
    go_wp2
    go_loopw [10] (fun i wr => ∃ k : Nat, k ≤ vs.length ∧ i = .int .i64 k ∧ Hid (Z.areFigs (vs.take k) = true) ∧ Hid (K.Ext (w.alloc (.cells #[.int .i64 E.L.dg, .int .i64 E.L.tn, .string E.L.nm, .slice oEL E.L.pw.length cEL, .int .i64 E.R.dg, .int .i64 E.R.tn, .string E.R.nm, .slice oER E.R.pw.length cER] 57)) wr)) (fun i _ => vs.length - (intOf i).toNat)
    case atStart => exact ⟨0, Nat.zero_le _, rfl, Z.hide rfl, Z.hide (K.Ext.refl _)⟩
    case round =>
      obtain ⟨k, hk, rfl, HA, HX⟩ := hrel
      by_cases hlt : k < vs.length
      · obtain ⟨b, off, rfl, _, _, hc⟩ := (K.figs_of_recs HV.out).at_ (by omega)
        have HXw := Z.hide (K.Ext.trans ((K.Ext.refl w).alloc _) HX.out)
        have hc1 := HXw.out.cell_of (hc k hlt).1
        have hc2 := HXw.out.cell_of (hc k hlt).2
        have i0 : (0 : Int) ≤ (k : Int) := Int.natCast_nonneg k
        have i1 : (k : Int) < (vs.length : Int) := by omega
        have HS := Z.hide (Z.figs_succ vs k hlt)
        have HB := Z.hide (Z.figs_bad vs k hlt)
        clear hc
        generalize vs.getD k (0, 0) = f at *
        cases hf : Z.isFig f.1 f.2
        · have hq_ := HB.out hf; rw [vV] at hq_; cases hq_
        · have HF : Hid (Z.areFigs (vs.take (k + 1)) = true) := Z.hide (by rw [HS.out, HA.out, hf]; rfl)
          go_wp2_with ((go_at_call 145; refine K.call (by with_reducible rfl) (by with_reducible rfl) (spec_IsFigure f.1 f.2 _) ?_; rintro e w1 ⟨rfl, hw1⟩; obtain ⟨hcw1, hfw1⟩ := hw1.facts))
          go_roundw
          case rel => exact ⟨k + 1, by omega, by go_num, HF, Z.hide (K.Ext.trans HX.out (by repeat' (first | with_reducible exact K.Ext.refl _ | with_reducible assumption | with_reducible refine K.Ext.drew ?_ | with_reducible refine K.Ext.alloc ?_ _ | with_reducible refine K.Ext.setCell ?_ ?_ _ | with_reducible refine K.Ext.trans ?_ (by with_reducible assumption) | (dsimp only; omega) | omega | exact K.Ext.refl _ | assumption | apply K.Ext.drew | refine K.Ext.alloc ?_ _ | refine K.Ext.setCell ?_ ?_ _ | (simp; done) | (simp; omega) | refine K.Ext.trans ?_ (by assumption))))⟩
          case measure => simp [intOf]; omega
      · obtain rfl : k = vs.length := by omega
        have hx := HX.out
        have s1 : w.heap.size + 1 ≤ wr.heap.size := (by have h_ := hx.size; (try simp at h_); omega)
        have X1 := K.Ext.trans (K.Ext.alloc X0 _) hx
        obtain ⟨c1_0_0, c1_0_1, c1_0_2, c1_0_3, c1_0_4, c1_0_5, c1_0_6, c1_0_7⟩ := K.c8 hx (w.heap.size) (.int .i64 E.L.dg) (.int .i64 E.L.tn) (.string E.L.nm) (.slice oEL E.L.pw.length cEL) (.int .i64 E.R.dg) (.int .i64 E.R.tn) (.string E.R.nm) (.slice oER E.R.pw.length cER) (by go_simp)
        have z1_0 : w.heap.size < wr.heap.size := World.block_lt_of_cell? wr _ c1_0_0
        have d1_0 : ¬ (w.heap.size = wr.heap.size) := (by omega)
        have e1_0 : ¬ (wr.heap.size = w.heap.size) := (by omega)
        have F1_1 := K.ints.ext (K.ints.alloc hEL_ _) hx
        have F2_1 := K.ints.ext (K.ints.alloc hER_ _) hx
        have F3_1 := K.recs.ext (K.recs.alloc hvs_ _) hx
        clear hEL_ hER_ hvs_
        go_wp2_with (go_at_call 116; refine K.call (by with_reducible rfl) (by with_reducible rfl) (spec_IsEquation E _ hmEL hnEL hmER hnER (F1_1) (F2_1)) ?_; rintro e w2 ⟨rfl, x2⟩; have s2 : wr.heap.size ≤ w2.heap.size := (by have h_ := x2.size; (try simp at h_); omega); have X2 := K.Ext.trans (X1) x2; obtain ⟨c2_0_0, c2_0_1, c2_0_2, c2_0_3, c2_0_4, c2_0_5, c2_0_6, c2_0_7⟩ := K.c8 x2 (w.heap.size) (.int .i64 E.L.dg) (.int .i64 E.L.tn) (.string E.L.nm) (.slice oEL E.L.pw.length cEL) (.int .i64 E.R.dg) (.int .i64 E.R.tn) (.string E.R.nm) (.slice oER E.R.pw.length cER) (by go_simp); have z2_0 : w.heap.size < w2.heap.size := World.block_lt_of_cell? w2 _ c2_0_0; have d2_0 : ¬ (w.heap.size = w2.heap.size) := (by omega); have e2_0 : ¬ (w2.heap.size = w.heap.size) := (by omega); have F1_2 := K.ints.ext (F1_1) x2; have F2_2 := K.ints.ext (F2_1) x2; have F3_2 := K.recs.ext (F3_1) x2; clear c1_0_0 c1_0_1 c1_0_2 c1_0_3 c1_0_4 c1_0_5 c1_0_6 c1_0_7 z1_0 d1_0 e1_0 F1_1 F2_1 F3_1)
        go_wp2_with (go_at_call 96; refine K.call (by with_reducible rfl) (by with_reducible rfl) (HW _) ?_; rintro e w_ ⟨rfl, rfl⟩)
        rw [HE.out]
        refine bodyPost_ret (v := .tuple #[.bool false, .int .i64 2]) (by unfold results; rw [Try.results70]; go_simp) rfl ⟨rfl, ?_⟩
        repeat with_reducible refine K.Ext.setCell ?_ (by dsimp only; omega) _
        exact (by repeat' (first | with_reducible exact X2 | with_reducible refine K.Ext.setCell ?_ ?_ _ | with_reducible refine K.Ext.alloc ?_ _ | with_reducible refine K.Ext.drew ?_ | (dsimp only; omega) | omega | (simp; omega)))
  have hwi : (decide (0 ≤ u) && decide (u ≤ 1048576)) = true := by rw [Bool.and_eq_true]; simp only [decide_eq_true_eq]; omega
  have HW : ∀ w : World, Calls Try.prog 96 #[.int .i64 u, .int .i64 0, .int .i64 1048576] w fun e w' => e = .returned (.bool true) ∧ w = w' := fun w => by rw [← hwi]; exact l01In_any _ _ _ _
  have hv10 : vs.length ≤ 1000000 := by omega
  obtain ⟨P, hP⟩ : ∃ P, P = Z.valuesFor E.L N vs := ⟨_, rfl⟩
  obtain ⟨Q, hQ⟩ : ∃ Q, Q = Z.valuesFor E.R N vs := ⟨_, rfl⟩
  have le6 := Z.isEquation_len vE
  have HP : ∀ {a b : Nat} {p v : Value} (w : World), K.recs false K.FgR w a b v vs → Calls Try.prog 146 #[.agg #[.int .i64 E.L.dg, .int .i64 E.L.tn, .string E.L.nm, p], .string N, v] w fun e w' => (∃ v', e = .returned (.tuple #[v', .bool P.2]) ∧ K.recs false K.FgR w' w.heap.size w'.heap.size v' P.1) ∧ K.Ext w w' := fun w h => by rw [hP]; exact l20Values_any E.L N vs w (by omega) hNl hv10 h
  have HQ : ∀ {a b : Nat} {p v : Value} (w : World), K.recs false K.FgR w a b v vs → Calls Try.prog 146 #[.agg #[.int .i64 E.R.dg, .int .i64 E.R.tn, .string E.R.nm, p], .string N, v] w fun e w' => (∃ v', e = .returned (.tuple #[v', .bool Q.2]) ∧ K.recs false K.FgR w' w.heap.size w'.heap.size v' Q.1) ∧ K.Ext w w' := fun w h => by rw [hQ]; exact l20Values_any E.R N vs w (by omega) hNl hv10 h
  have HMs : Hid ((P.2 && Q.2) = false → Z.CheckValues E N vs u = (false, 4)) := Z.hide (fun h => Z.Check_miss hck hu (by rw [← hP, ← hQ]; exact h))
  have HOk : Hid ((P.2 && Q.2) = true → Z.CheckValues E N vs u = (Z.meets (Z.lg E.L P.1) (Z.lg E.R Q.1) u, 0)) := Z.hide (fun h => by rw [hP, hQ] at h ⊢; exact Z.Check_ok hck hu h)
  have hPp : P.2 = true → P.1.length = E.L.nm.size ∧ Z.areFigs P.1 = true := fun h => by rw [hP] at h ⊢; exact Z.valuesFor_parts vV hNl h
  have hQp : Q.2 = true → Q.1.length = E.R.nm.size ∧ Z.areFigs Q.1 = true := fun h => by rw [hQ] at h ⊢; exact Z.valuesFor_parts vV hNl h
  obtain ⟨vEL, vER⟩ := Z.isEquation_parts vE
  clear hP hQ hck hwi hv10 le6
  obtain ⟨l1, b1⟩ := P
  obtain ⟨l2, b2⟩ := Q
  dsimp only at HP HQ HMs HOk hPp hQp
  cases b1
  · have HE : Hid (Z.CheckValues E N vs u = (false, 4)) := Z.hide (HMs.out rfl)
    clear hPp hQp HOk vEL vER
    have X0 : K.Ext w w := K.Ext.refl w
    go_enter Try.func70, Try.ntmps70
    go_wp2
    go_loopw [10] (fun i wr => ∃ k : Nat, k ≤ vs.length ∧ i = .int .i64 k ∧ Hid (Z.areFigs (vs.take k) = true) ∧ Hid (K.Ext (w.alloc (.cells #[.int .i64 E.L.dg, .int .i64 E.L.tn, .string E.L.nm, .slice oEL E.L.pw.length cEL, .int .i64 E.R.dg, .int .i64 E.R.tn, .string E.R.nm, .slice oER E.R.pw.length cER] 57)) wr)) (fun i _ => vs.length - (intOf i).toNat)
    case atStart => exact ⟨0, Nat.zero_le _, rfl, Z.hide rfl, Z.hide (K.Ext.refl _)⟩
    case round =>
      obtain ⟨k, hk, rfl, HA, HX⟩ := hrel
      by_cases hlt : k < vs.length
      · obtain ⟨b, off, rfl, _, _, hc⟩ := (K.figs_of_recs HV.out).at_ (by omega)
        have HXw := Z.hide (K.Ext.trans ((K.Ext.refl w).alloc _) HX.out)
        have hc1 := HXw.out.cell_of (hc k hlt).1
        have hc2 := HXw.out.cell_of (hc k hlt).2
        have i0 : (0 : Int) ≤ (k : Int) := Int.natCast_nonneg k
        have i1 : (k : Int) < (vs.length : Int) := by omega
        have HS := Z.hide (Z.figs_succ vs k hlt)
        have HB := Z.hide (Z.figs_bad vs k hlt)
        clear hc
        generalize vs.getD k (0, 0) = f at *
        cases hf : Z.isFig f.1 f.2
        · have hq_ := HB.out hf; rw [vV] at hq_; cases hq_
        · have HF : Hid (Z.areFigs (vs.take (k + 1)) = true) := Z.hide (by rw [HS.out, HA.out, hf]; rfl)
          go_wp2_with ((go_at_call 145; refine K.call (by with_reducible rfl) (by with_reducible rfl) (spec_IsFigure f.1 f.2 _) ?_; rintro e w1 ⟨rfl, hw1⟩; obtain ⟨hcw1, hfw1⟩ := hw1.facts))
          go_roundw
          case rel => exact ⟨k + 1, by omega, by go_num, HF, Z.hide (K.Ext.trans HX.out (by repeat' (first | with_reducible exact K.Ext.refl _ | with_reducible assumption | with_reducible refine K.Ext.drew ?_ | with_reducible refine K.Ext.alloc ?_ _ | with_reducible refine K.Ext.setCell ?_ ?_ _ | with_reducible refine K.Ext.trans ?_ (by with_reducible assumption) | (dsimp only; omega) | omega | exact K.Ext.refl _ | assumption | apply K.Ext.drew | refine K.Ext.alloc ?_ _ | refine K.Ext.setCell ?_ ?_ _ | (simp; done) | (simp; omega) | refine K.Ext.trans ?_ (by assumption))))⟩
          case measure => simp [intOf]; omega
      · obtain rfl : k = vs.length := by omega
        have hx := HX.out
        have s1 : w.heap.size + 1 ≤ wr.heap.size := (by have h_ := hx.size; (try simp at h_); omega)
        have X1 := K.Ext.trans (K.Ext.alloc X0 _) hx
        obtain ⟨c1_0_0, c1_0_1, c1_0_2, c1_0_3, c1_0_4, c1_0_5, c1_0_6, c1_0_7⟩ := K.c8 hx (w.heap.size) (.int .i64 E.L.dg) (.int .i64 E.L.tn) (.string E.L.nm) (.slice oEL E.L.pw.length cEL) (.int .i64 E.R.dg) (.int .i64 E.R.tn) (.string E.R.nm) (.slice oER E.R.pw.length cER) (by go_simp)
        have z1_0 : w.heap.size < wr.heap.size := World.block_lt_of_cell? wr _ c1_0_0
        have d1_0 : ¬ (w.heap.size = wr.heap.size) := (by omega)
        have e1_0 : ¬ (wr.heap.size = w.heap.size) := (by omega)
        have F1_1 := K.ints.ext (K.ints.alloc hEL_ _) hx
        have F2_1 := K.ints.ext (K.ints.alloc hER_ _) hx
        have F3_1 := K.recs.ext (K.recs.alloc hvs_ _) hx
        clear hEL_ hER_ hvs_
        go_wp2_with (go_at_call 116; refine K.call (by with_reducible rfl) (by with_reducible rfl) (spec_IsEquation E _ hmEL hnEL hmER hnER (F1_1) (F2_1)) ?_; rintro e w2 ⟨rfl, x2⟩; have s2 : wr.heap.size ≤ w2.heap.size := (by have h_ := x2.size; (try simp at h_); omega); have X2 := K.Ext.trans (X1) x2; obtain ⟨c2_0_0, c2_0_1, c2_0_2, c2_0_3, c2_0_4, c2_0_5, c2_0_6, c2_0_7⟩ := K.c8 x2 (w.heap.size) (.int .i64 E.L.dg) (.int .i64 E.L.tn) (.string E.L.nm) (.slice oEL E.L.pw.length cEL) (.int .i64 E.R.dg) (.int .i64 E.R.tn) (.string E.R.nm) (.slice oER E.R.pw.length cER) (by go_simp); have z2_0 : w.heap.size < w2.heap.size := World.block_lt_of_cell? w2 _ c2_0_0; have d2_0 : ¬ (w.heap.size = w2.heap.size) := (by omega); have e2_0 : ¬ (w2.heap.size = w.heap.size) := (by omega); have F1_2 := K.ints.ext (F1_1) x2; have F2_2 := K.ints.ext (F2_1) x2; have F3_2 := K.recs.ext (F3_1) x2; clear c1_0_0 c1_0_1 c1_0_2 c1_0_3 c1_0_4 c1_0_5 c1_0_6 c1_0_7 z1_0 d1_0 e1_0 F1_1 F2_1 F3_1)
        go_wp2_with (go_at_call 96; refine K.call (by with_reducible rfl) (by with_reducible rfl) (HW _) ?_; rintro e w_ ⟨rfl, rfl⟩)
        go_wp2_with (go_at_call 146; refine K.call (by with_reducible rfl) (by with_reducible rfl) (HP _ (F3_2)) ?_; rintro e w4 ⟨⟨p4, rfl, g4⟩, x4⟩; obtain ⟨o4, k4, rfl, _⟩ := K.recs.mono g4 (Nat.le_refl _) (Nat.le_refl _); have F4_4 : K.recs false K.FgR w4 (w2.heap.size) (w4.heap.size) (.slice o4 ((l1, false).1).length k4) (((l1, false).1)) := g4.mono (by simp) (Nat.le_refl _); clear g4; have s4 : w2.heap.size ≤ w4.heap.size := (by have h_ := x4.size; (try simp at h_); omega); have X4 := K.Ext.trans (X2) x4; obtain ⟨c4_0_0, c4_0_1, c4_0_2, c4_0_3, c4_0_4, c4_0_5, c4_0_6, c4_0_7⟩ := K.c8 x4 (w.heap.size) (.int .i64 E.L.dg) (.int .i64 E.L.tn) (.string E.L.nm) (.slice oEL E.L.pw.length cEL) (.int .i64 E.R.dg) (.int .i64 E.R.tn) (.string E.R.nm) (.slice oER E.R.pw.length cER) (by go_simp); have z4_0 : w.heap.size < w4.heap.size := World.block_lt_of_cell? w4 _ c4_0_0; have d4_0 : ¬ (w.heap.size = w4.heap.size) := (by omega); have e4_0 : ¬ (w4.heap.size = w.heap.size) := (by omega); have F1_4 := K.ints.ext (F1_2) x4; have F2_4 := K.ints.ext (F2_2) x4; have F3_4 := K.recs.ext (F3_2) x4; clear c2_0_0 c2_0_1 c2_0_2 c2_0_3 c2_0_4 c2_0_5 c2_0_6 c2_0_7 z2_0 d2_0 e2_0 F1_2 F2_2 F3_2)
        go_wp2_with (go_at_call 146; refine K.call (by with_reducible rfl) (by with_reducible rfl) (HQ _ (F3_4)) ?_; rintro e w5 ⟨⟨p5, rfl, g5⟩, x5⟩; obtain ⟨o5, k5, rfl, _⟩ := K.recs.mono g5 (Nat.le_refl _) (Nat.le_refl _); have F5_5 : K.recs false K.FgR w5 (w4.heap.size) (w5.heap.size) (.slice o5 ((l2, b2).1).length k5) (((l2, b2).1)) := g5.mono (by simp) (Nat.le_refl _); clear g5; have s5 : w4.heap.size ≤ w5.heap.size := (by have h_ := x5.size; (try simp at h_); omega); have X5 := K.Ext.trans (X4) x5; obtain ⟨c5_0_0, c5_0_1, c5_0_2, c5_0_3, c5_0_4, c5_0_5, c5_0_6, c5_0_7⟩ := K.c8 x5 (w.heap.size) (.int .i64 E.L.dg) (.int .i64 E.L.tn) (.string E.L.nm) (.slice oEL E.L.pw.length cEL) (.int .i64 E.R.dg) (.int .i64 E.R.tn) (.string E.R.nm) (.slice oER E.R.pw.length cER) (by go_simp); have z5_0 : w.heap.size < w5.heap.size := World.block_lt_of_cell? w5 _ c5_0_0; have d5_0 : ¬ (w.heap.size = w5.heap.size) := (by omega); have e5_0 : ¬ (w5.heap.size = w.heap.size) := (by omega); have F1_5 := K.ints.ext (F1_4) x5; have F2_5 := K.ints.ext (F2_4) x5; have F3_5 := K.recs.ext (F3_4) x5; have F4_5 := K.recs.ext (F4_4) x5; clear c4_0_0 c4_0_1 c4_0_2 c4_0_3 c4_0_4 c4_0_5 c4_0_6 c4_0_7 z4_0 d4_0 e4_0 F1_4 F2_4 F3_4 F4_4)
        rw [HE.out]
        refine bodyPost_ret (v := .tuple #[.bool false, .int .i64 4]) (by unfold results; rw [Try.results70]; go_simp) rfl ⟨rfl, ?_⟩
        repeat with_reducible refine K.Ext.setCell ?_ (by dsimp only; omega) _
        exact (by repeat' (first | with_reducible exact X5 | with_reducible refine K.Ext.setCell ?_ ?_ _ | with_reducible refine K.Ext.alloc ?_ _ | with_reducible refine K.Ext.drew ?_ | (dsimp only; omega) | omega | (simp; omega)))
  cases b2
  · have HE : Hid (Z.CheckValues E N vs u = (false, 4)) := Z.hide (HMs.out rfl)
    clear hPp hQp HOk vEL vER
    have X0 : K.Ext w w := K.Ext.refl w
    go_enter Try.func70, Try.ntmps70
    go_wp2
    go_loopw [10] (fun i wr => ∃ k : Nat, k ≤ vs.length ∧ i = .int .i64 k ∧ Hid (Z.areFigs (vs.take k) = true) ∧ Hid (K.Ext (w.alloc (.cells #[.int .i64 E.L.dg, .int .i64 E.L.tn, .string E.L.nm, .slice oEL E.L.pw.length cEL, .int .i64 E.R.dg, .int .i64 E.R.tn, .string E.R.nm, .slice oER E.R.pw.length cER] 57)) wr)) (fun i _ => vs.length - (intOf i).toNat)
    case atStart => exact ⟨0, Nat.zero_le _, rfl, Z.hide rfl, Z.hide (K.Ext.refl _)⟩
    case round =>
      obtain ⟨k, hk, rfl, HA, HX⟩ := hrel
      by_cases hlt : k < vs.length
      · obtain ⟨b, off, rfl, _, _, hc⟩ := (K.figs_of_recs HV.out).at_ (by omega)
        have HXw := Z.hide (K.Ext.trans ((K.Ext.refl w).alloc _) HX.out)
        have hc1 := HXw.out.cell_of (hc k hlt).1
        have hc2 := HXw.out.cell_of (hc k hlt).2
        have i0 : (0 : Int) ≤ (k : Int) := Int.natCast_nonneg k
        have i1 : (k : Int) < (vs.length : Int) := by omega
        have HS := Z.hide (Z.figs_succ vs k hlt)
        have HB := Z.hide (Z.figs_bad vs k hlt)
        clear hc
        generalize vs.getD k (0, 0) = f at *
        cases hf : Z.isFig f.1 f.2
        · have hq_ := HB.out hf; rw [vV] at hq_; cases hq_
        · have HF : Hid (Z.areFigs (vs.take (k + 1)) = true) := Z.hide (by rw [HS.out, HA.out, hf]; rfl)
          go_wp2_with ((go_at_call 145; refine K.call (by with_reducible rfl) (by with_reducible rfl) (spec_IsFigure f.1 f.2 _) ?_; rintro e w1 ⟨rfl, hw1⟩; obtain ⟨hcw1, hfw1⟩ := hw1.facts))
          go_roundw
          case rel => exact ⟨k + 1, by omega, by go_num, HF, Z.hide (K.Ext.trans HX.out (by repeat' (first | with_reducible exact K.Ext.refl _ | with_reducible assumption | with_reducible refine K.Ext.drew ?_ | with_reducible refine K.Ext.alloc ?_ _ | with_reducible refine K.Ext.setCell ?_ ?_ _ | with_reducible refine K.Ext.trans ?_ (by with_reducible assumption) | (dsimp only; omega) | omega | exact K.Ext.refl _ | assumption | apply K.Ext.drew | refine K.Ext.alloc ?_ _ | refine K.Ext.setCell ?_ ?_ _ | (simp; done) | (simp; omega) | refine K.Ext.trans ?_ (by assumption))))⟩
          case measure => simp [intOf]; omega
      · obtain rfl : k = vs.length := by omega
        have hx := HX.out
        have s1 : w.heap.size + 1 ≤ wr.heap.size := (by have h_ := hx.size; (try simp at h_); omega)
        have X1 := K.Ext.trans (K.Ext.alloc X0 _) hx
        obtain ⟨c1_0_0, c1_0_1, c1_0_2, c1_0_3, c1_0_4, c1_0_5, c1_0_6, c1_0_7⟩ := K.c8 hx (w.heap.size) (.int .i64 E.L.dg) (.int .i64 E.L.tn) (.string E.L.nm) (.slice oEL E.L.pw.length cEL) (.int .i64 E.R.dg) (.int .i64 E.R.tn) (.string E.R.nm) (.slice oER E.R.pw.length cER) (by go_simp)
        have z1_0 : w.heap.size < wr.heap.size := World.block_lt_of_cell? wr _ c1_0_0
        have d1_0 : ¬ (w.heap.size = wr.heap.size) := (by omega)
        have e1_0 : ¬ (wr.heap.size = w.heap.size) := (by omega)
        have F1_1 := K.ints.ext (K.ints.alloc hEL_ _) hx
        have F2_1 := K.ints.ext (K.ints.alloc hER_ _) hx
        have F3_1 := K.recs.ext (K.recs.alloc hvs_ _) hx
        clear hEL_ hER_ hvs_
        go_wp2_with (go_at_call 116; refine K.call (by with_reducible rfl) (by with_reducible rfl) (spec_IsEquation E _ hmEL hnEL hmER hnER (F1_1) (F2_1)) ?_; rintro e w2 ⟨rfl, x2⟩; have s2 : wr.heap.size ≤ w2.heap.size := (by have h_ := x2.size; (try simp at h_); omega); have X2 := K.Ext.trans (X1) x2; obtain ⟨c2_0_0, c2_0_1, c2_0_2, c2_0_3, c2_0_4, c2_0_5, c2_0_6, c2_0_7⟩ := K.c8 x2 (w.heap.size) (.int .i64 E.L.dg) (.int .i64 E.L.tn) (.string E.L.nm) (.slice oEL E.L.pw.length cEL) (.int .i64 E.R.dg) (.int .i64 E.R.tn) (.string E.R.nm) (.slice oER E.R.pw.length cER) (by go_simp); have z2_0 : w.heap.size < w2.heap.size := World.block_lt_of_cell? w2 _ c2_0_0; have d2_0 : ¬ (w.heap.size = w2.heap.size) := (by omega); have e2_0 : ¬ (w2.heap.size = w.heap.size) := (by omega); have F1_2 := K.ints.ext (F1_1) x2; have F2_2 := K.ints.ext (F2_1) x2; have F3_2 := K.recs.ext (F3_1) x2; clear c1_0_0 c1_0_1 c1_0_2 c1_0_3 c1_0_4 c1_0_5 c1_0_6 c1_0_7 z1_0 d1_0 e1_0 F1_1 F2_1 F3_1)
        go_wp2_with (go_at_call 96; refine K.call (by with_reducible rfl) (by with_reducible rfl) (HW _) ?_; rintro e w_ ⟨rfl, rfl⟩)
        go_wp2_with (go_at_call 146; refine K.call (by with_reducible rfl) (by with_reducible rfl) (HP _ (F3_2)) ?_; rintro e w4 ⟨⟨p4, rfl, g4⟩, x4⟩; obtain ⟨o4, k4, rfl, _⟩ := K.recs.mono g4 (Nat.le_refl _) (Nat.le_refl _); have F4_4 : K.recs false K.FgR w4 (w2.heap.size) (w4.heap.size) (.slice o4 ((l1, true).1).length k4) (((l1, true).1)) := g4.mono (by simp) (Nat.le_refl _); clear g4; have s4 : w2.heap.size ≤ w4.heap.size := (by have h_ := x4.size; (try simp at h_); omega); have X4 := K.Ext.trans (X2) x4; obtain ⟨c4_0_0, c4_0_1, c4_0_2, c4_0_3, c4_0_4, c4_0_5, c4_0_6, c4_0_7⟩ := K.c8 x4 (w.heap.size) (.int .i64 E.L.dg) (.int .i64 E.L.tn) (.string E.L.nm) (.slice oEL E.L.pw.length cEL) (.int .i64 E.R.dg) (.int .i64 E.R.tn) (.string E.R.nm) (.slice oER E.R.pw.length cER) (by go_simp); have z4_0 : w.heap.size < w4.heap.size := World.block_lt_of_cell? w4 _ c4_0_0; have d4_0 : ¬ (w.heap.size = w4.heap.size) := (by omega); have e4_0 : ¬ (w4.heap.size = w.heap.size) := (by omega); have F1_4 := K.ints.ext (F1_2) x4; have F2_4 := K.ints.ext (F2_2) x4; have F3_4 := K.recs.ext (F3_2) x4; clear c2_0_0 c2_0_1 c2_0_2 c2_0_3 c2_0_4 c2_0_5 c2_0_6 c2_0_7 z2_0 d2_0 e2_0 F1_2 F2_2 F3_2)
        go_wp2_with (go_at_call 146; refine K.call (by with_reducible rfl) (by with_reducible rfl) (HQ _ (F3_4)) ?_; rintro e w5 ⟨⟨p5, rfl, g5⟩, x5⟩; obtain ⟨o5, k5, rfl, _⟩ := K.recs.mono g5 (Nat.le_refl _) (Nat.le_refl _); have F5_5 : K.recs false K.FgR w5 (w4.heap.size) (w5.heap.size) (.slice o5 ((l2, false).1).length k5) (((l2, false).1)) := g5.mono (by simp) (Nat.le_refl _); clear g5; have s5 : w4.heap.size ≤ w5.heap.size := (by have h_ := x5.size; (try simp at h_); omega); have X5 := K.Ext.trans (X4) x5; obtain ⟨c5_0_0, c5_0_1, c5_0_2, c5_0_3, c5_0_4, c5_0_5, c5_0_6, c5_0_7⟩ := K.c8 x5 (w.heap.size) (.int .i64 E.L.dg) (.int .i64 E.L.tn) (.string E.L.nm) (.slice oEL E.L.pw.length cEL) (.int .i64 E.R.dg) (.int .i64 E.R.tn) (.string E.R.nm) (.slice oER E.R.pw.length cER) (by go_simp); have z5_0 : w.heap.size < w5.heap.size := World.block_lt_of_cell? w5 _ c5_0_0; have d5_0 : ¬ (w.heap.size = w5.heap.size) := (by omega); have e5_0 : ¬ (w5.heap.size = w.heap.size) := (by omega); have F1_5 := K.ints.ext (F1_4) x5; have F2_5 := K.ints.ext (F2_4) x5; have F3_5 := K.recs.ext (F3_4) x5; have F4_5 := K.recs.ext (F4_4) x5; clear c4_0_0 c4_0_1 c4_0_2 c4_0_3 c4_0_4 c4_0_5 c4_0_6 c4_0_7 z4_0 d4_0 e4_0 F1_4 F2_4 F3_4 F4_4)
        rw [HE.out]
        refine bodyPost_ret (v := .tuple #[.bool false, .int .i64 4]) (by unfold results; rw [Try.results70]; go_simp) rfl ⟨rfl, ?_⟩
        repeat with_reducible refine K.Ext.setCell ?_ (by dsimp only; omega) _
        exact (by repeat' (first | with_reducible exact X5 | with_reducible refine K.Ext.setCell ?_ ?_ _ | with_reducible refine K.Ext.alloc ?_ _ | with_reducible refine K.Ext.drew ?_ | (dsimp only; omega) | omega | (simp; omega)))
  obtain ⟨p1, p2⟩ := hPp rfl
  obtain ⟨q1, q2⟩ := hQp rfl
  obtain ⟨a1, a2, a3⟩ := Z.lg_bd vEL p1 p2
  obtain ⟨b1, b2, b3⟩ := Z.lg_bd vER q1 q2
  obtain ⟨X, hX⟩ : ∃ X, X = Z.lg E.L l1 := ⟨_, rfl⟩
  obtain ⟨Y, hY⟩ : ∃ Y, Y = Z.lg E.R l2 := ⟨_, rfl⟩
  have H1 : ∀ {a b c d : Nat} {p v : Value} (w : World), K.ints w a b p E.L.pw → K.recs false K.FgR w c d v l1 → Calls Try.prog 127 #[.agg #[.int .i64 E.L.dg, .int .i64 E.L.tn, .string E.L.nm, p], v] w fun e w' => e = .returned (.agg #[.int .i64 X.1, .int .i64 X.2]) ∧ K.Ext w w' := fun w h h' => by rw [hX]; exact l18Log_any E.L l1 w vEL p1 p2 h h'
  have H2 : ∀ {a b c d : Nat} {p v : Value} (w : World), K.ints w a b p E.R.pw → K.recs false K.FgR w c d v l2 → Calls Try.prog 127 #[.agg #[.int .i64 E.R.dg, .int .i64 E.R.tn, .string E.R.nm, p], v] w fun e w' => e = .returned (.agg #[.int .i64 Y.1, .int .i64 Y.2]) ∧ K.Ext w w' := fun w h h' => by rw [hY]; exact l18Log_any E.R l2 w vER q1 q2 h h'
  rw [← hX] at a1 a2 a3
  rw [← hY] at b1 b2 b3
  have HE : Hid (Z.CheckValues E N vs u = (decide (max (X.1 - u) Y.1 ≤ min (X.2 + u) Y.2), 0)) := Z.hide (by rw [HOk.out rfl, ← hX, ← hY, Z.meets_eq a3 b3 hu.1])
  have q3 : IntKind.i64.wrap (X.1 - u) = X.1 - u := IntWalk.i64_in _ (by omega)
  have q4 : IntKind.i64.wrap (X.2 + u) = X.2 + u := IntWalk.i64_in _ (by omega)
  clear hX hY HMs HOk hPp hQp p1 p2 q1 q2 vEL vER
  have X0 : K.Ext w w := K.Ext.refl w
  go_enter Try.func70, Try.ntmps70
  go_wp2
  go_loopw [10] (fun i wr => ∃ k : Nat, k ≤ vs.length ∧ i = .int .i64 k ∧ Hid (Z.areFigs (vs.take k) = true) ∧ Hid (K.Ext (w.alloc (.cells #[.int .i64 E.L.dg, .int .i64 E.L.tn, .string E.L.nm, .slice oEL E.L.pw.length cEL, .int .i64 E.R.dg, .int .i64 E.R.tn, .string E.R.nm, .slice oER E.R.pw.length cER] 57)) wr)) (fun i _ => vs.length - (intOf i).toNat)
  case atStart => exact ⟨0, Nat.zero_le _, rfl, Z.hide rfl, Z.hide (K.Ext.refl _)⟩
  case round =>
    obtain ⟨k, hk, rfl, HA, HX⟩ := hrel
    by_cases hlt : k < vs.length
    · obtain ⟨b, off, rfl, _, _, hc⟩ := (K.figs_of_recs HV.out).at_ (by omega)
      have HXw := Z.hide (K.Ext.trans ((K.Ext.refl w).alloc _) HX.out)
      have hc1 := HXw.out.cell_of (hc k hlt).1
      have hc2 := HXw.out.cell_of (hc k hlt).2
      have i0 : (0 : Int) ≤ (k : Int) := Int.natCast_nonneg k
      have i1 : (k : Int) < (vs.length : Int) := by omega
      have HS := Z.hide (Z.figs_succ vs k hlt)
      have HB := Z.hide (Z.figs_bad vs k hlt)
      clear hc
      generalize vs.getD k (0, 0) = f at *
      cases hf : Z.isFig f.1 f.2
      · have hq_ := HB.out hf; rw [vV] at hq_; cases hq_
      · have HF : Hid (Z.areFigs (vs.take (k + 1)) = true) := Z.hide (by rw [HS.out, HA.out, hf]; rfl)
        go_wp2_with ((go_at_call 145; refine K.call (by with_reducible rfl) (by with_reducible rfl) (spec_IsFigure f.1 f.2 _) ?_; rintro e w1 ⟨rfl, hw1⟩; obtain ⟨hcw1, hfw1⟩ := hw1.facts))
        go_roundw
        case rel => exact ⟨k + 1, by omega, by go_num, HF, Z.hide (K.Ext.trans HX.out (by repeat' (first | with_reducible exact K.Ext.refl _ | with_reducible assumption | with_reducible refine K.Ext.drew ?_ | with_reducible refine K.Ext.alloc ?_ _ | with_reducible refine K.Ext.setCell ?_ ?_ _ | with_reducible refine K.Ext.trans ?_ (by with_reducible assumption) | (dsimp only; omega) | omega | exact K.Ext.refl _ | assumption | apply K.Ext.drew | refine K.Ext.alloc ?_ _ | refine K.Ext.setCell ?_ ?_ _ | (simp; done) | (simp; omega) | refine K.Ext.trans ?_ (by assumption))))⟩
        case measure => simp [intOf]; omega
    · obtain rfl : k = vs.length := by omega
      have hx := HX.out
      have s1 : w.heap.size + 1 ≤ wr.heap.size := (by have h_ := hx.size; (try simp at h_); omega)
      have X1 := K.Ext.trans (K.Ext.alloc X0 _) hx
      obtain ⟨c1_0_0, c1_0_1, c1_0_2, c1_0_3, c1_0_4, c1_0_5, c1_0_6, c1_0_7⟩ := K.c8 hx (w.heap.size) (.int .i64 E.L.dg) (.int .i64 E.L.tn) (.string E.L.nm) (.slice oEL E.L.pw.length cEL) (.int .i64 E.R.dg) (.int .i64 E.R.tn) (.string E.R.nm) (.slice oER E.R.pw.length cER) (by go_simp)
      have z1_0 : w.heap.size < wr.heap.size := World.block_lt_of_cell? wr _ c1_0_0
      have d1_0 : ¬ (w.heap.size = wr.heap.size) := (by omega)
      have e1_0 : ¬ (wr.heap.size = w.heap.size) := (by omega)
      have F1_1 := K.ints.ext (K.ints.alloc hEL_ _) hx
      have F2_1 := K.ints.ext (K.ints.alloc hER_ _) hx
      have F3_1 := K.recs.ext (K.recs.alloc hvs_ _) hx
      clear hEL_ hER_ hvs_
      go_wp2_with (go_at_call 116; refine K.call (by with_reducible rfl) (by with_reducible rfl) (spec_IsEquation E _ hmEL hnEL hmER hnER (F1_1) (F2_1)) ?_; rintro e w2 ⟨rfl, x2⟩; have s2 : wr.heap.size ≤ w2.heap.size := (by have h_ := x2.size; (try simp at h_); omega); have X2 := K.Ext.trans (X1) x2; obtain ⟨c2_0_0, c2_0_1, c2_0_2, c2_0_3, c2_0_4, c2_0_5, c2_0_6, c2_0_7⟩ := K.c8 x2 (w.heap.size) (.int .i64 E.L.dg) (.int .i64 E.L.tn) (.string E.L.nm) (.slice oEL E.L.pw.length cEL) (.int .i64 E.R.dg) (.int .i64 E.R.tn) (.string E.R.nm) (.slice oER E.R.pw.length cER) (by go_simp); have z2_0 : w.heap.size < w2.heap.size := World.block_lt_of_cell? w2 _ c2_0_0; have d2_0 : ¬ (w.heap.size = w2.heap.size) := (by omega); have e2_0 : ¬ (w2.heap.size = w.heap.size) := (by omega); have F1_2 := K.ints.ext (F1_1) x2; have F2_2 := K.ints.ext (F2_1) x2; have F3_2 := K.recs.ext (F3_1) x2; clear c1_0_0 c1_0_1 c1_0_2 c1_0_3 c1_0_4 c1_0_5 c1_0_6 c1_0_7 z1_0 d1_0 e1_0 F1_1 F2_1 F3_1)
      go_wp2_with (go_at_call 96; refine K.call (by with_reducible rfl) (by with_reducible rfl) (HW _) ?_; rintro e w_ ⟨rfl, rfl⟩)
      go_wp2_with (go_at_call 146; refine K.call (by with_reducible rfl) (by with_reducible rfl) (HP _ (F3_2)) ?_; rintro e w4 ⟨⟨p4, rfl, g4⟩, x4⟩; obtain ⟨o4, k4, rfl, _⟩ := K.recs.mono g4 (Nat.le_refl _) (Nat.le_refl _); have F4_4 : K.recs false K.FgR w4 (w2.heap.size) (w4.heap.size) (.slice o4 ((l1, true).1).length k4) (((l1, true).1)) := g4.mono (by simp) (Nat.le_refl _); clear g4; have s4 : w2.heap.size ≤ w4.heap.size := (by have h_ := x4.size; (try simp at h_); omega); have X4 := K.Ext.trans (X2) x4; obtain ⟨c4_0_0, c4_0_1, c4_0_2, c4_0_3, c4_0_4, c4_0_5, c4_0_6, c4_0_7⟩ := K.c8 x4 (w.heap.size) (.int .i64 E.L.dg) (.int .i64 E.L.tn) (.string E.L.nm) (.slice oEL E.L.pw.length cEL) (.int .i64 E.R.dg) (.int .i64 E.R.tn) (.string E.R.nm) (.slice oER E.R.pw.length cER) (by go_simp); have z4_0 : w.heap.size < w4.heap.size := World.block_lt_of_cell? w4 _ c4_0_0; have d4_0 : ¬ (w.heap.size = w4.heap.size) := (by omega); have e4_0 : ¬ (w4.heap.size = w.heap.size) := (by omega); have F1_4 := K.ints.ext (F1_2) x4; have F2_4 := K.ints.ext (F2_2) x4; have F3_4 := K.recs.ext (F3_2) x4; clear c2_0_0 c2_0_1 c2_0_2 c2_0_3 c2_0_4 c2_0_5 c2_0_6 c2_0_7 z2_0 d2_0 e2_0 F1_2 F2_2 F3_2)
      go_wp2_with (go_at_call 146; refine K.call (by with_reducible rfl) (by with_reducible rfl) (HQ _ (F3_4)) ?_; rintro e w5 ⟨⟨p5, rfl, g5⟩, x5⟩; obtain ⟨o5, k5, rfl, _⟩ := K.recs.mono g5 (Nat.le_refl _) (Nat.le_refl _); have F5_5 : K.recs false K.FgR w5 (w4.heap.size) (w5.heap.size) (.slice o5 ((l2, true).1).length k5) (((l2, true).1)) := g5.mono (by simp) (Nat.le_refl _); clear g5; have s5 : w4.heap.size ≤ w5.heap.size := (by have h_ := x5.size; (try simp at h_); omega); have X5 := K.Ext.trans (X4) x5; obtain ⟨c5_0_0, c5_0_1, c5_0_2, c5_0_3, c5_0_4, c5_0_5, c5_0_6, c5_0_7⟩ := K.c8 x5 (w.heap.size) (.int .i64 E.L.dg) (.int .i64 E.L.tn) (.string E.L.nm) (.slice oEL E.L.pw.length cEL) (.int .i64 E.R.dg) (.int .i64 E.R.tn) (.string E.R.nm) (.slice oER E.R.pw.length cER) (by go_simp); have z5_0 : w.heap.size < w5.heap.size := World.block_lt_of_cell? w5 _ c5_0_0; have d5_0 : ¬ (w.heap.size = w5.heap.size) := (by omega); have e5_0 : ¬ (w5.heap.size = w.heap.size) := (by omega); have F1_5 := K.ints.ext (F1_4) x5; have F2_5 := K.ints.ext (F2_4) x5; have F3_5 := K.recs.ext (F3_4) x5; have F4_5 := K.recs.ext (F4_4) x5; clear c4_0_0 c4_0_1 c4_0_2 c4_0_3 c4_0_4 c4_0_5 c4_0_6 c4_0_7 z4_0 d4_0 e4_0 F1_4 F2_4 F3_4 F4_4)
      go_wp2_with fail
      refine K.wp_region_y (R := K.RE) 10 [0, 1, 0, 2, 0, 1, 0, 2, 2, 2] [K.SQ.any, K.SQ.any, K.SQ.any, K.SQ.is (.agg #[.int .i64 X.1, .int .i64 X.2]), K.SQ.any, K.SQ.any, K.SQ.any, K.SQ.is (.agg #[.int .i64 Y.1, .int .i64 Y.2]), K.SQ.new (w5.heap.size) (Nat.zero_le _) (.cells #[.int .i64 0, .int .i64 0] 73), K.SQ.new (w5.heap.size) (Nat.zero_le _) (.cells #[.int .i64 0, .int .i64 0] 73)] (by kernel_rfl) (by kernel_rfl) ?_
      simp only [List.take_succ_cons, List.take_zero, List.drop_succ_cons, List.drop_zero]
      apply K.y_pure
      · rfl
      · rfl
      · intro w'; go_simp; first | done | exact K.vint (IntWalk.i64_in _ (by omega)) | rfl | exact ⟨rfl, rfl⟩
      simp only [Act.put, List.setIfInBounds_toArray, List.set]
      apply K.y_held
      · rfl
      · rfl
      · intro w' hx; have hx : K.Ext _ _ := hx; have hc := hx.all.1.1; have hf := hx.all.1.2; have hc' := hx.all.2.1; have hf' := hx.all.2.2; go_simp; first | done | rfl | exact ⟨rfl, rfl⟩
      simp only [Act.put, List.setIfInBounds_toArray, List.set]
      apply K.y_pure
      · rfl
      · rfl
      · intro w'; go_simp; first | done | exact K.vint (IntWalk.i64_in _ (by omega)) | rfl | exact ⟨rfl, rfl⟩
      simp only [Act.put, List.setIfInBounds_toArray, List.set]
      apply K.y_call_is
      · rfl
      · rfl
      · rfl
      · intro w'; go_simp; first | done | rfl | exact ⟨rfl, rfl⟩
      · intro w' hx hp; have hx : K.Ext _ _ := hx; have hc := hx.all.1.1; have hf := hx.all.1.2; have hc' := hx.all.2.1; have hf' := hx.all.2.2; exact H1 _ (K.ints.ext (K.ints.drew (F1_5)) hx) (K.recs.ext (K.recs.drew (F4_5)) hx)
      intro w_3_ hx_3_
      replace hx_3_ : K.Ext _ _ := hx_3_
      simp only [Act.put, List.setIfInBounds_toArray, List.set]
      apply K.y_pure
      · rfl
      · rfl
      · intro w'; go_simp; first | done | exact K.vint (IntWalk.i64_in _ (by omega)) | rfl | exact ⟨rfl, rfl⟩
      simp only [Act.put, List.setIfInBounds_toArray, List.set]
      apply K.y_held
      · rfl
      · rfl
      · intro w' hx; have hx : K.Ext _ _ := hx; have hc := hx.all.1.1; have hf := hx.all.1.2; have hc' := hx.all.2.1; have hf' := hx.all.2.2; go_simp; first | done | rfl | exact ⟨rfl, rfl⟩
      simp only [Act.put, List.setIfInBounds_toArray, List.set]
      apply K.y_pure
      · rfl
      · rfl
      · intro w'; go_simp; first | done | exact K.vint (IntWalk.i64_in _ (by omega)) | rfl | exact ⟨rfl, rfl⟩
      simp only [Act.put, List.setIfInBounds_toArray, List.set]
      apply K.y_call_is
      · rfl
      · rfl
      · rfl
      · intro w'; go_simp; first | done | rfl | exact ⟨rfl, rfl⟩
      · intro w' hx hp; have hx : K.Ext _ _ := hx; have hc := hx.all.1.1; have hf := hx.all.1.2; have hc' := hx.all.2.1; have hf' := hx.all.2.2; exact H2 _ (K.ints.ext (K.ints.drew (F2_5)) hx) (K.recs.ext (K.recs.drew (F5_5)) hx)
      intro w_7_ hx_7_
      replace hx_7_ : K.Ext _ _ := hx_7_
      simp only [Act.put, List.setIfInBounds_toArray, List.set]
      apply K.y_new (Nat.zero_le _)
      · rfl
      · rfl
      · rfl
      · go_simp; first | done | omega
      · intro w'; go_simp; first | done | rfl | exact ⟨rfl, rfl⟩
      intro g14_8 w_8_ hx_8_ hg14_8 hb_8_ hn_8_
      replace hx_8_ : K.Ext _ _ := hx_8_
      clear hn_8_
      simp only [Act.put, List.setIfInBounds_toArray, List.set]
      apply K.y_new (Nat.zero_le _)
      · rfl
      · rfl
      · rfl
      · go_simp; first | done | omega
      · intro w'; go_simp; first | done | rfl | exact ⟨rfl, rfl⟩
      intro g14_9 w_9_ hx_9_ hg14_9 hb_9_ hn_9_
      replace hx_9_ : K.Ext _ _ := hx_9_
      have ne14_8_9 : ¬ (g14_8 = g14_9) := K.blk_ptr (hn_9_ 8 _ (by decide) rfl rfl rfl)
      have ne14_9_8 : ¬ (g14_9 = g14_8) := fun e => ne14_8_9 e.symm
      clear hn_9_
      simp only [Act.put, List.setIfInBounds_toArray, List.set]
      apply K.y_done
      intro w6 h_x
      replace h_x : K.Ext _ _ := h_x
      have x6 := hx_3_.trans (hx_7_.trans (hx_8_.trans (hx_9_.trans h_x)))
      have hb14_8 := K.Ext.block (hx_9_.trans h_x) hb_8_
      have cg14_8_0 : w6.cell? ⟨g14_8, 0, none⟩ = some (.int .i64 0) := K.cell_at hb14_8 rfl
      have fg14_8_0 : w6.frozen? ⟨g14_8, 0, none⟩ = false := K.thaw_at hb14_8
      have cg14_8_1 : w6.cell? ⟨g14_8, 1, none⟩ = some (.int .i64 0) := K.cell_at hb14_8 rfl
      have fg14_8_1 : w6.frozen? ⟨g14_8, 1, none⟩ = false := K.thaw_at hb14_8
      have hb14_9 := K.Ext.block (h_x) hb_9_
      have cg14_9_0 : w6.cell? ⟨g14_9, 0, none⟩ = some (.int .i64 0) := K.cell_at hb14_9 rfl
      have fg14_9_0 : w6.frozen? ⟨g14_9, 0, none⟩ = false := K.thaw_at hb14_9
      have cg14_9_1 : w6.cell? ⟨g14_9, 1, none⟩ = some (.int .i64 0) := K.cell_at hb14_9 rfl
      have fg14_9_1 : w6.frozen? ⟨g14_9, 1, none⟩ = false := K.thaw_at hb14_9
      clear h_x hx_3_ hx_7_ hx_8_ hx_9_
      obtain ⟨⟨hcw6, hfw6⟩, hc'w6, hf'w6⟩ := x6.all
      have s6 : w5.heap.size ≤ w6.heap.size := (by have h_ := x6.size; (try simp at h_); omega)
      have X6 := K.Ext.trans (K.Ext.drew (X5)) x6
      obtain ⟨c6_0_0, c6_0_1, c6_0_2, c6_0_3, c6_0_4, c6_0_5, c6_0_6, c6_0_7⟩ := K.c8 x6 (w.heap.size) (.int .i64 E.L.dg) (.int .i64 E.L.tn) (.string E.L.nm) (.slice oEL E.L.pw.length cEL) (.int .i64 E.R.dg) (.int .i64 E.R.tn) (.string E.R.nm) (.slice oER E.R.pw.length cER) (by go_simp)
      have z6_0 : w.heap.size < w6.heap.size := World.block_lt_of_cell? w6 _ c6_0_0
      have d6_0 : ¬ (w.heap.size = w6.heap.size) := (by omega)
      have e6_0 : ¬ (w6.heap.size = w.heap.size) := (by omega)
      have F1_6 := K.ints.ext (K.ints.drew (F1_5)) x6
      have F2_6 := K.ints.ext (K.ints.drew (F2_5)) x6
      have F3_6 := K.recs.ext (K.recs.drew (F3_5)) x6
      have F4_6 := K.recs.ext (K.recs.drew (F4_5)) x6
      have F5_6 := K.recs.ext (K.recs.drew (F5_5)) x6
      clear c5_0_0 c5_0_1 c5_0_2 c5_0_3 c5_0_4 c5_0_5 c5_0_6 c5_0_7 z5_0 d5_0 e5_0 F1_5 F2_5 F3_5 F4_5 F5_5
      have nng14_8_0 : ¬ (g14_8 = w.heap.size) := (by omega)
      have nmg14_8_0 : ¬ (w.heap.size = g14_8) := (by omega)
      have nng14_9_0 : ¬ (g14_9 = w.heap.size) := (by omega)
      have nmg14_9_0 : ¬ (w.heap.size = g14_9) := (by omega)
      go_wp2_with fail
      refine NoPanic.normal ?_
      go_wp2_with fail
      rw [HE.out]
      refine bodyPost_ret (v := .tuple #[.bool (decide (max (X.1 - u) Y.1 ≤ min (X.2 + u) Y.2)), .int .i64 0]) (by unfold results; rw [Try.results70]; go_simp) rfl ⟨rfl, ?_⟩
      repeat with_reducible refine K.Ext.setCell ?_ (by dsimp only; omega) _
      exact (by repeat' (first | with_reducible exact X6 | with_reducible refine K.Ext.setCell ?_ ?_ _ | with_reducible refine K.Ext.alloc ?_ _ | with_reducible refine K.Ext.drew ?_ | (dsimp only; omega) | omega | (simp; omega)))
end Go.Proofs.Ythmnlbgbacbocaa
end
section
namespace Go.Proofs.Ythmnlbgbacbocaa
open Go.RowKit
set_option maxRecDepth 100000 in
set_option maxHeartbeats 12800000 in
theorem spec_PowerFormula (F : Z.Fm) (n : Int) {lo hi : Nat} {p : Value} (w : World) (hm : F.pw.length ≤ 1048576) (hn : F.nm.size ≤ 1048576) (h : K.ints w lo hi p F.pw) :
    Calls Try.prog 31 #[.agg #[.int .i64 F.dg, .int .i64 F.tn, .string F.nm, p], .int .i64 n] w fun e w' => (∃ p', e = .returned (.tuple #[.agg #[.int .i64 ((Z.PowerFormula F n).1).dg, .int .i64 ((Z.PowerFormula F n).1).tn, .string ((Z.PowerFormula F n).1).nm, p'], .int .i64 (Z.PowerFormula F n).2]) ∧ K.ints w' w.heap.size w'.heap.size p' (Z.PowerFormula F n).1.pw) ∧ K.Ext w w' := by
  have g1 := h
  obtain ⟨o, cap, rfl, _⟩ := g1
  cases hF : Z.isFormula F
  · have HE : Hid (Z.PowerFormula F n = (Z.zeroFm, 1)) := Z.hide (by unfold Z.PowerFormula; rw [hF]; rfl)
    go_enter Try.func31, Try.ntmps31
    go_wp2_with (((go_at_call 91; refine K.call (by with_reducible rfl) (by with_reducible rfl) (spec_IsFormula F _ hm hn (h.ext (by repeat' (first | with_reducible exact K.Ext.refl _ | with_reducible assumption | with_reducible refine K.Ext.drew ?_ | with_reducible refine K.Ext.alloc ?_ _ | with_reducible refine K.Ext.setCell ?_ ?_ _ | with_reducible refine K.Ext.trans ?_ (by with_reducible assumption) | (dsimp only; omega) | omega | exact K.Ext.refl _ | assumption | apply K.Ext.drew | refine K.Ext.alloc ?_ _ | refine K.Ext.setCell ?_ ?_ _ | (simp; done) | (simp; omega) | refine K.Ext.trans ?_ (by assumption))))) ?_; rintro e w1 ⟨rfl, hw1⟩; obtain ⟨hcw1, hfw1⟩ := hw1.facts); have c_w1_0_0 : w1.cell? ⟨w.heap.size, 0, none⟩ = some (.int .i64 (F.dg)) := hw1.cell_of (by go_simp); have f_w1_0_0 : w1.frozen? ⟨w.heap.size, 0, none⟩ = false := hw1.thaw_of (by go_simp) (by go_simp); have c_w1_0_1 : w1.cell? ⟨w.heap.size, 1, none⟩ = some (.int .i64 (F.tn)) := hw1.cell_of (by go_simp); have f_w1_0_1 : w1.frozen? ⟨w.heap.size, 1, none⟩ = false := hw1.thaw_of (by go_simp) (by go_simp); have c_w1_0_2 : w1.cell? ⟨w.heap.size, 2, none⟩ = some (.string F.nm) := hw1.cell_of (by go_simp); have f_w1_0_2 : w1.frozen? ⟨w.heap.size, 2, none⟩ = false := hw1.thaw_of (by go_simp) (by go_simp); have c_w1_0_3 : w1.cell? ⟨w.heap.size, 3, none⟩ = some (.slice o F.pw.length cap) := hw1.cell_of (by go_simp); have f_w1_0_3 : w1.frozen? ⟨w.heap.size, 3, none⟩ = false := hw1.thaw_of (by go_simp) (by go_simp); have c_w1_1_0 : w1.cell? ⟨w.heap.size + 1, 0, none⟩ = some (.int .i64 (0)) := hw1.cell_of (by go_simp); have f_w1_1_0 : w1.frozen? ⟨w.heap.size + 1, 0, none⟩ = false := hw1.thaw_of (by go_simp) (by go_simp); have c_w1_1_1 : w1.cell? ⟨w.heap.size + 1, 1, none⟩ = some (.int .i64 (0)) := hw1.cell_of (by go_simp); have f_w1_1_1 : w1.frozen? ⟨w.heap.size + 1, 1, none⟩ = false := hw1.thaw_of (by go_simp) (by go_simp); have c_w1_1_2 : w1.cell? ⟨w.heap.size + 1, 2, none⟩ = some (.string ⟨#[]⟩) := hw1.cell_of (by go_simp); have f_w1_1_2 : w1.frozen? ⟨w.heap.size + 1, 2, none⟩ = false := hw1.thaw_of (by go_simp) (by go_simp); have c_w1_1_3 : w1.cell? ⟨w.heap.size + 1, 3, none⟩ = some (.slice none 0 0) := hw1.cell_of (by go_simp); have f_w1_1_3 : w1.frozen? ⟨w.heap.size + 1, 3, none⟩ = false := hw1.thaw_of (by go_simp) (by go_simp)))
    rw [HE.out]
    refine bodyPost_ret (v := .tuple #[.agg #[.int .i64 0, .int .i64 0, .string ⟨#[]⟩, .slice none 0 0], .int .i64 1]) (by unfold results; rw [Try.results31]; go_simp) rfl ⟨⟨_, rfl, K.ints_nil _ _ _⟩, ?_⟩
    repeat with_reducible refine K.Ext.setCell ?_ (by dsimp only; omega) _
    exact (by repeat' (first | with_reducible exact K.Ext.refl _ | with_reducible assumption | with_reducible refine K.Ext.drew ?_ | with_reducible refine K.Ext.alloc ?_ _ | with_reducible refine K.Ext.setCell ?_ ?_ _ | with_reducible refine K.Ext.trans ?_ (by with_reducible assumption) | (dsimp only; omega) | omega | exact K.Ext.refl _ | assumption | apply K.Ext.drew | refine K.Ext.alloc ?_ _ | refine K.Ext.setCell ?_ ?_ _ | (simp; done) | (simp; omega) | refine K.Ext.trans ?_ (by assumption)))
  · cases h3 : Z.pow3 n
    · have HE : Hid (Z.PowerFormula F n = (Z.zeroFm, 2)) := Z.hide (by unfold Z.PowerFormula; rw [hF, h3]; rfl)
      have H3 : ∀ w : World, Calls Try.prog 96 #[.int .i64 n, .int .i64 (-3), .int .i64 3] w fun e w' => e = .returned (.bool false) ∧ w = w' := fun w => by
        have h_ := l01In_any n (-3) 3 w
        rwa [show (decide (-3 ≤ n) && decide (n ≤ 3)) = false from h3] at h_
      have H3' := Z.hide H3
      clear h3 H3
      go_enter Try.func31, Try.ntmps31
      go_wp2_with (first | ((go_at_call 91; refine K.call (by with_reducible rfl) (by with_reducible rfl) (spec_IsFormula F _ hm hn (h.ext (by repeat' (first | with_reducible exact K.Ext.refl _ | with_reducible assumption | with_reducible refine K.Ext.drew ?_ | with_reducible refine K.Ext.alloc ?_ _ | with_reducible refine K.Ext.setCell ?_ ?_ _ | with_reducible refine K.Ext.trans ?_ (by with_reducible assumption) | (dsimp only; omega) | omega | exact K.Ext.refl _ | assumption | apply K.Ext.drew | refine K.Ext.alloc ?_ _ | refine K.Ext.setCell ?_ ?_ _ | (simp; done) | (simp; omega) | refine K.Ext.trans ?_ (by assumption))))) ?_; rintro e w1 ⟨rfl, hw1⟩; obtain ⟨hcw1, hfw1⟩ := hw1.facts); have c_w1_0_0 : w1.cell? ⟨w.heap.size, 0, none⟩ = some (.int .i64 (F.dg)) := hw1.cell_of (by go_simp); have f_w1_0_0 : w1.frozen? ⟨w.heap.size, 0, none⟩ = false := hw1.thaw_of (by go_simp) (by go_simp); have c_w1_0_1 : w1.cell? ⟨w.heap.size, 1, none⟩ = some (.int .i64 (F.tn)) := hw1.cell_of (by go_simp); have f_w1_0_1 : w1.frozen? ⟨w.heap.size, 1, none⟩ = false := hw1.thaw_of (by go_simp) (by go_simp); have c_w1_0_2 : w1.cell? ⟨w.heap.size, 2, none⟩ = some (.string F.nm) := hw1.cell_of (by go_simp); have f_w1_0_2 : w1.frozen? ⟨w.heap.size, 2, none⟩ = false := hw1.thaw_of (by go_simp) (by go_simp); have c_w1_0_3 : w1.cell? ⟨w.heap.size, 3, none⟩ = some (.slice o F.pw.length cap) := hw1.cell_of (by go_simp); have f_w1_0_3 : w1.frozen? ⟨w.heap.size, 3, none⟩ = false := hw1.thaw_of (by go_simp) (by go_simp); have c_w1_1_0 : w1.cell? ⟨w.heap.size + 1, 0, none⟩ = some (.int .i64 (0)) := hw1.cell_of (by go_simp); have f_w1_1_0 : w1.frozen? ⟨w.heap.size + 1, 0, none⟩ = false := hw1.thaw_of (by go_simp) (by go_simp); have c_w1_1_1 : w1.cell? ⟨w.heap.size + 1, 1, none⟩ = some (.int .i64 (0)) := hw1.cell_of (by go_simp); have f_w1_1_1 : w1.frozen? ⟨w.heap.size + 1, 1, none⟩ = false := hw1.thaw_of (by go_simp) (by go_simp); have c_w1_1_2 : w1.cell? ⟨w.heap.size + 1, 2, none⟩ = some (.string ⟨#[]⟩) := hw1.cell_of (by go_simp); have f_w1_1_2 : w1.frozen? ⟨w.heap.size + 1, 2, none⟩ = false := hw1.thaw_of (by go_simp) (by go_simp); have c_w1_1_3 : w1.cell? ⟨w.heap.size + 1, 3, none⟩ = some (.slice none 0 0) := hw1.cell_of (by go_simp); have f_w1_1_3 : w1.frozen? ⟨w.heap.size + 1, 3, none⟩ = false := hw1.thaw_of (by go_simp) (by go_simp)) | (go_at_call 96; refine K.call (by with_reducible rfl) (by with_reducible rfl) (H3'.out _) ?_; rintro e w' ⟨rfl, rfl⟩))
      rw [HE.out]
      refine bodyPost_ret (v := .tuple #[.agg #[.int .i64 0, .int .i64 0, .string ⟨#[]⟩, .slice none 0 0], .int .i64 2]) (by unfold results; rw [Try.results31]; go_simp) rfl ⟨⟨_, rfl, K.ints_nil _ _ _⟩, ?_⟩
      repeat with_reducible refine K.Ext.setCell ?_ (by dsimp only; omega) _
      exact (by repeat' (first | with_reducible exact K.Ext.refl _ | with_reducible assumption | with_reducible refine K.Ext.drew ?_ | with_reducible refine K.Ext.alloc ?_ _ | with_reducible refine K.Ext.setCell ?_ ?_ _ | with_reducible refine K.Ext.trans ?_ (by with_reducible assumption) | (dsimp only; omega) | omega | exact K.Ext.refl _ | assumption | apply K.Ext.drew | refine K.Ext.alloc ?_ _ | refine K.Ext.setCell ?_ ?_ _ | (simp; done) | (simp; omega) | refine K.Ext.trans ?_ (by assumption)))
    · obtain ⟨n1, n2⟩ : -3 ≤ n ∧ n ≤ 3 := by simp only [Z.pow3, Bool.and_eq_true, decide_eq_true_eq] at h3; exact h3
      have HP : Hid (Z.PowerFormula F n = Z.raised F n) := Z.hide (Z.PowerFormula_eq hF ⟨n1, n2⟩)
      have H3 : ∀ w : World, Calls Try.prog 96 #[.int .i64 n, .int .i64 (-3), .int .i64 3] w fun e w' => e = .returned (.bool true) ∧ w = w' := fun w => by
        have h_ := l01In_any n (-3) 3 w
        rwa [show (decide (-3 ≤ n) && decide (n ≤ 3)) = true from h3] at h_
      have H3' := Z.hide H3
      obtain ⟨m, hmn⟩ : ∃ m : Nat, m = n.natAbs := ⟨_, rfl⟩
      have hm3 : m ≤ 3 := by omega
      have HAB : Hid (∀ w : World, Calls Try.prog 110 #[.int .i64 n] w fun e w' => e = .returned (.int .i64 (m : Int)) ∧ w = w') := Z.hide (fun w => by rw [hmn]; exact l01Abs_any n w (by omega) (by omega))
      obtain ⟨g, hgd⟩ : ∃ g, g = decide (0 < n) := ⟨_, rfl⟩
      have HM := Z.hide hmn
      have HD := Z.hide hgd
      have HF := Z.hide hF
      have HH := Z.hide h
      clear h3 H3 hmn hgd
      go_enter Try.func31, Try.ntmps31
      go_wp2_with (first | ((go_at_call 91; refine K.call (by with_reducible rfl) (by with_reducible rfl) (spec_IsFormula F _ hm hn (h.ext (by repeat' (first | with_reducible exact K.Ext.refl _ | with_reducible assumption | with_reducible refine K.Ext.drew ?_ | with_reducible refine K.Ext.alloc ?_ _ | with_reducible refine K.Ext.setCell ?_ ?_ _ | with_reducible refine K.Ext.trans ?_ (by with_reducible assumption) | (dsimp only; omega) | omega | exact K.Ext.refl _ | assumption | apply K.Ext.drew | refine K.Ext.alloc ?_ _ | refine K.Ext.setCell ?_ ?_ _ | (simp; done) | (simp; omega) | refine K.Ext.trans ?_ (by assumption))))) ?_; rintro e w1 ⟨rfl, hw1⟩; obtain ⟨hcw1, hfw1⟩ := hw1.facts); have c_w1_0_0 : w1.cell? ⟨w.heap.size, 0, none⟩ = some (.int .i64 (F.dg)) := hw1.cell_of (by go_simp); have f_w1_0_0 : w1.frozen? ⟨w.heap.size, 0, none⟩ = false := hw1.thaw_of (by go_simp) (by go_simp); have c_w1_0_1 : w1.cell? ⟨w.heap.size, 1, none⟩ = some (.int .i64 (F.tn)) := hw1.cell_of (by go_simp); have f_w1_0_1 : w1.frozen? ⟨w.heap.size, 1, none⟩ = false := hw1.thaw_of (by go_simp) (by go_simp); have c_w1_0_2 : w1.cell? ⟨w.heap.size, 2, none⟩ = some (.string F.nm) := hw1.cell_of (by go_simp); have f_w1_0_2 : w1.frozen? ⟨w.heap.size, 2, none⟩ = false := hw1.thaw_of (by go_simp) (by go_simp); have c_w1_0_3 : w1.cell? ⟨w.heap.size, 3, none⟩ = some (.slice o F.pw.length cap) := hw1.cell_of (by go_simp); have f_w1_0_3 : w1.frozen? ⟨w.heap.size, 3, none⟩ = false := hw1.thaw_of (by go_simp) (by go_simp); have c_w1_1_0 : w1.cell? ⟨w.heap.size + 1, 0, none⟩ = some (.int .i64 (0)) := hw1.cell_of (by go_simp); have f_w1_1_0 : w1.frozen? ⟨w.heap.size + 1, 0, none⟩ = false := hw1.thaw_of (by go_simp) (by go_simp); have c_w1_1_1 : w1.cell? ⟨w.heap.size + 1, 1, none⟩ = some (.int .i64 (0)) := hw1.cell_of (by go_simp); have f_w1_1_1 : w1.frozen? ⟨w.heap.size + 1, 1, none⟩ = false := hw1.thaw_of (by go_simp) (by go_simp); have c_w1_1_2 : w1.cell? ⟨w.heap.size + 1, 2, none⟩ = some (.string ⟨#[]⟩) := hw1.cell_of (by go_simp); have f_w1_1_2 : w1.frozen? ⟨w.heap.size + 1, 2, none⟩ = false := hw1.thaw_of (by go_simp) (by go_simp); have c_w1_1_3 : w1.cell? ⟨w.heap.size + 1, 3, none⟩ = some (.slice none 0 0) := hw1.cell_of (by go_simp); have f_w1_1_3 : w1.frozen? ⟨w.heap.size + 1, 3, none⟩ = false := hw1.thaw_of (by go_simp) (by go_simp)) | (go_at_call 96; refine K.call (by with_reducible rfl) (by with_reducible rfl) (H3'.out _) ?_; rintro e w' ⟨rfl, rfl⟩))
      have s1 : w.heap.size + 2 ≤ w1.heap.size := by have h_ := hw1.size; simp at h_; omega
      have B0 : w1.heap[w.heap.size]? = some (.cells #[.int .i64 F.dg, .int .i64 F.tn, .string F.nm, .slice o F.pw.length cap] 32) := K.Ext.block_of (((K.Ext.refl _).alloc _).block (K.block_new rfl)) hw1
      have B1 : w1.heap[w.heap.size + 1]? = some (.cells #[.int .i64 0, .int .i64 0, .string ⟨#[]⟩, .slice none 0 0] 32) := K.Ext.block_of (K.block_new (by simp)) hw1
      have R0 := Z.hide B0
      have R1 := Z.hide B1
      have HX1 : Hid (K.Ext w w1) := Z.hide (by repeat' (first | with_reducible exact K.Ext.refl _ | with_reducible assumption | with_reducible refine K.Ext.drew ?_ | with_reducible refine K.Ext.alloc ?_ _ | with_reducible refine K.Ext.setCell ?_ ?_ _ | with_reducible refine K.Ext.trans ?_ (by with_reducible assumption) | (dsimp only; omega) | omega | exact K.Ext.refl _ | assumption | apply K.Ext.drew | refine K.Ext.alloc ?_ _ | refine K.Ext.setCell ?_ ?_ _ | (simp; done) | (simp; omega) | refine K.Ext.trans ?_ (by assumption)))
      clear B0 B1 hF h
      go_loopw [7] (fun i wr => ∃ k : Nat, k ≤ m ∧ i = .int .i64 k ∧ Hid ((Z.powK g (F.dg, F.tn) k).2 = 0) ∧ Hid (wr.heap[w.heap.size]? = some (.cells #[.int .i64 F.dg, .int .i64 F.tn, .string F.nm, .slice o F.pw.length cap] 32)) ∧ Hid (wr.heap[w.heap.size + 1]? = some (.cells #[.int .i64 0, .int .i64 0, .string ⟨#[]⟩, .slice none 0 0] 32)) ∧ Hid (wr.heap[w1.heap.size]? = some (.cells #[.int .i64 (Z.powK g (F.dg, F.tn) k).1.1, .int .i64 (Z.powK g (F.dg, F.tn) k).1.2] 30)) ∧ Hid (K.Ext w wr)) (fun i _ => m - (intOf i).toNat)
      case atStart =>
        refine ⟨0, Nat.zero_le _, rfl, Z.hide rfl, Z.hide ?_, Z.hide ?_, Z.hide ?_, Z.hide (by repeat' (first | with_reducible exact K.Ext.refl _ | with_reducible assumption | with_reducible refine K.Ext.drew ?_ | with_reducible refine K.Ext.alloc ?_ _ | with_reducible refine K.Ext.setCell ?_ ?_ _ | with_reducible refine K.Ext.trans ?_ (by with_reducible assumption) | (dsimp only; omega) | omega | exact K.Ext.refl _ | assumption | apply K.Ext.drew | refine K.Ext.alloc ?_ _ | refine K.Ext.setCell ?_ ?_ _ | (simp; done) | (simp; omega) | refine K.Ext.trans ?_ (by assumption)))⟩
        · exact K.Ext.block_of R0.out (by repeat' (first | with_reducible exact K.Ext.refl _ | with_reducible assumption | with_reducible refine K.Ext.drew ?_ | with_reducible refine K.Ext.alloc ?_ _ | with_reducible refine K.Ext.setCell ?_ ?_ _ | with_reducible refine K.Ext.trans ?_ (by with_reducible assumption) | (dsimp only; omega) | omega | exact K.Ext.refl _ | assumption | apply K.Ext.drew | refine K.Ext.alloc ?_ _ | refine K.Ext.setCell ?_ ?_ _ | (simp; done) | (simp; omega) | refine K.Ext.trans ?_ (by assumption)))
        · exact K.Ext.block_of R1.out (by repeat' (first | with_reducible exact K.Ext.refl _ | with_reducible assumption | with_reducible refine K.Ext.drew ?_ | with_reducible refine K.Ext.alloc ?_ _ | with_reducible refine K.Ext.setCell ?_ ?_ _ | with_reducible refine K.Ext.trans ?_ (by with_reducible assumption) | (dsimp only; omega) | omega | exact K.Ext.refl _ | assumption | apply K.Ext.drew | refine K.Ext.alloc ?_ _ | refine K.Ext.setCell ?_ ?_ _ | (simp; done) | (simp; omega) | refine K.Ext.trans ?_ (by assumption)))
        · exact K.block_new rfl
      case round =>
        obtain ⟨k, hk, rfl, HZ, C0, C1, C3, HX⟩ := hrel
        clear R0 R1 HX1 hw1
        have k0 : (0 : Int) ≤ (k : Int) := Int.natCast_nonneg k
        have d0 : wr.cell? ⟨w.heap.size, 0, none⟩ = some (.int .i64 F.dg) := K.cell_at C0.out rfl
        have d1 : wr.cell? ⟨w.heap.size, 1, none⟩ = some (.int .i64 F.tn) := K.cell_at C0.out rfl
        have e0 : wr.cell? ⟨w1.heap.size, 0, none⟩ = some (.int .i64 (Z.powK g (F.dg, F.tn) k).1.1) := K.cell_at C3.out rfl
        have e1 : wr.cell? ⟨w1.heap.size, 1, none⟩ = some (.int .i64 (Z.powK g (F.dg, F.tn) k).1.2) := K.cell_at C3.out rfl
        have lw : w1.heap.size < wr.heap.size := (Array.getElem?_eq_some_iff.1 C3.out).1
        have m0 : (m : Int) = n ∨ (m : Int) = -n := by have := HM.out; omega
        by_cases hlt : k < m
        · have k1 : (k : Int) < (m : Int) := by omega
          obtain ⟨x, hx⟩ : ∃ x, x = (Z.powK g (F.dg, F.tn) k).1 := ⟨_, rfl⟩
          rw [← hx] at e0 e1
          obtain ⟨q, hq⟩ : ∃ q, q = Z.MultiplyFigures x (F.dg, F.tn) := ⟨_, rfl⟩
          have HQ : Hid (∀ w' : World, Calls Try.prog 101 #[.agg #[.int .i64 x.1, .int .i64 x.2], .agg #[.int .i64 F.dg, .int .i64 F.tn]] w' fun e w'' => e = .returned (.tuple #[.agg #[.int .i64 q.1.1, .int .i64 q.1.2], .int .i64 q.2]) ∧ K.Ext w' w'') := Z.hide (fun w' => by rw [hq]; exact spec_MultiplyFigures x (F.dg, F.tn) w')
          obtain ⟨r, hr⟩ : ∃ r, r = Z.pw1 g x (F.dg, F.tn) := ⟨_, rfl⟩
          have HS : Hid (Z.powK g (F.dg, F.tn) (k + 1) = r) := Z.hide (by rw [Z.powK_succ _ _ _ HZ.out, hr, hx])
          have HEb : Hid (¬ r.2 = 0 → Z.PowerFormula F n = (Z.zeroFm, r.2)) := Z.hide (fun hz => by
            have h1 := Z.powK_stop g (F.dg, F.tn) (k + 1) (by rw [HS.out]; exact hz) m (by omega)
            rw [HP.out]
            unfold Z.raised
            rw [← HM.out, ← HD.out, h1, HS.out, if_neg hz])
          have hgn : g = decide (0 < n) := HD.out
          by_cases hp : 0 < n
          · obtain rfl : g = true := by rw [hgn]; simpa using hp
            obtain rfl : q = r := by rw [hq, hr]; rfl
            clear hgn hx hq hr
            by_cases hz : q.2 = 0
            · have HZ2 : Hid ((Z.powK true (F.dg, F.tn) (k + 1)).2 = 0) := Z.hide (by rw [HS.out]; exact hz)
              go_wp2_with (first | (go_at_call 110; refine K.call (by with_reducible rfl) (by with_reducible rfl) (HAB.out _) ?_; rintro e w' ⟨rfl, rfl⟩) | ((go_at_call 101; refine K.call (by with_reducible rfl) (by with_reducible rfl) (HQ.out _) ?_; rintro e w2 ⟨rfl, hw2⟩; have D0 := Z.hide (K.Ext.block_of C0.out hw2); have D1 := Z.hide (K.Ext.block_of C1.out hw2); have D3 := Z.hide (K.Ext.block_of C3.out hw2); have HX2 : Hid (K.Ext w w2) := Z.hide (HX.out.trans hw2); have lw2 := hw2.size; have b1_c0 : w2.cell? ⟨w1.heap.size, 0, none⟩ = some (.int .i64 (_)) := K.cell_at D3.out rfl; have b1_f0 : w2.frozen? ⟨w1.heap.size, 0, none⟩ = false := K.thaw_at D3.out; have b1_c1 : w2.cell? ⟨w1.heap.size, 1, none⟩ = some (.int .i64 (_)) := K.cell_at D3.out rfl; have b1_f1 : w2.frozen? ⟨w1.heap.size, 1, none⟩ = false := K.thaw_at D3.out; have n1 : ¬ (w1.heap.size = w2.heap.size) := (by omega); have y1 : w1.heap.size < w2.heap.size := (by omega); have y2 : w.heap.size < w2.heap.size := (by omega); have n2 : ¬ (w2.heap.size = w1.heap.size) := (by omega))))
              go_roundw
              case rel =>
                refine ⟨k + 1, by omega, by go_num, HZ2, Z.hide ?_, Z.hide ?_, Z.hide ?_, Z.hide ?_⟩
                · refine K.Ext.block_of ?_ ((K.Ext.refl _).alloc _)
                  iterate 2 with_reducible refine Eq.trans (K.set_block (by dsimp only; omega)) ?_
                  exact D0.out
                · refine K.Ext.block_of ?_ ((K.Ext.refl _).alloc _)
                  iterate 2 with_reducible refine Eq.trans (K.set_block (by dsimp only; omega)) ?_
                  exact D1.out
                · rw [HS.out]
                  exact K.Ext.block_of (Joins.block_setCell (Joins.block_setCell D3.out _) _) ((K.Ext.refl _).alloc _)
                · with_reducible refine K.Ext.alloc ?_ _
                  iterate 2 with_reducible refine K.Ext.setCell ?_ (by dsimp only; omega) _
                  exact HX2.out
              case measure => simp [intOf]; omega
            · have HE : Hid (Z.PowerFormula F n = (Z.zeroFm, q.2)) := Z.hide (HEb.out hz)
              go_wp2_with (first | (go_at_call 110; refine K.call (by with_reducible rfl) (by with_reducible rfl) (HAB.out _) ?_; rintro e w' ⟨rfl, rfl⟩) | ((go_at_call 101; refine K.call (by with_reducible rfl) (by with_reducible rfl) (HQ.out _) ?_; rintro e w2 ⟨rfl, hw2⟩; have D1 := Z.hide (K.Ext.block_of C1.out hw2); have HX2 : Hid (K.Ext w w2) := Z.hide (HX.out.trans hw2); have lw2 := hw2.size; have b2_c0 : w2.cell? ⟨w.heap.size + 1, 0, none⟩ = some (.int .i64 (0)) := K.cell_at D1.out rfl; have b2_f0 : w2.frozen? ⟨w.heap.size + 1, 0, none⟩ = false := K.thaw_at D1.out; have b2_c1 : w2.cell? ⟨w.heap.size + 1, 1, none⟩ = some (.int .i64 (0)) := K.cell_at D1.out rfl; have b2_f1 : w2.frozen? ⟨w.heap.size + 1, 1, none⟩ = false := K.thaw_at D1.out; have b2_c2 : w2.cell? ⟨w.heap.size + 1, 2, none⟩ = some (.string ⟨#[]⟩) := K.cell_at D1.out rfl; have b2_f2 : w2.frozen? ⟨w.heap.size + 1, 2, none⟩ = false := K.thaw_at D1.out; have b2_c3 : w2.cell? ⟨w.heap.size + 1, 3, none⟩ = some (.slice none 0 0) := K.cell_at D1.out rfl; have b2_f3 : w2.frozen? ⟨w.heap.size + 1, 3, none⟩ = false := K.thaw_at D1.out; have n1 : ¬ (w.heap.size + 1 = w2.heap.size) := (by omega); have y1 : w.heap.size + 1 < w2.heap.size := (by omega); have n2 : ¬ (w2.heap.size = w.heap.size + 1) := (by omega))))
              rw [HE.out]
              refine bodyPost_ret (v := .tuple #[.agg #[.int .i64 0, .int .i64 0, .string ⟨#[]⟩, .slice none 0 0], .int .i64 q.2]) (by unfold results; rw [Try.results31]; go_simp) rfl ⟨⟨_, rfl, K.ints_nil _ _ _⟩, ?_⟩
              repeat' (first | with_reducible refine K.Ext.setCell ?_ ?_ _ | with_reducible refine K.Ext.alloc ?_ _ | (dsimp only; omega))
              exact HX2.out
          · obtain rfl : g = false := by rw [hgn]; simpa using hp
            have hneg : n < 0 := by omega
            have HR : Hid (∀ w' : World, Calls Try.prog 111 #[.agg #[.int .i64 x.1, .int .i64 x.2], .agg #[.int .i64 F.dg, .int .i64 F.tn]] w' fun e w'' => e = .returned (.tuple #[.agg #[.int .i64 r.1.1, .int .i64 r.1.2], .int .i64 r.2]) ∧ K.Ext w' w'') := Z.hide (fun w' => by rw [hr]; exact spec_DivideFigures x (F.dg, F.tn) w')
            clear hgn hx hq hr
            by_cases hz : r.2 = 0
            · have HZ2 : Hid ((Z.powK false (F.dg, F.tn) (k + 1)).2 = 0) := Z.hide (by rw [HS.out]; exact hz)
              go_wp2_with (first | (go_at_call 110; refine K.call (by with_reducible rfl) (by with_reducible rfl) (HAB.out _) ?_; rintro e w' ⟨rfl, rfl⟩) | ((go_at_call 101; refine K.call (by with_reducible rfl) (by with_reducible rfl) (HQ.out _) ?_; rintro e w2 ⟨rfl, hw2⟩; have D0 := Z.hide (K.Ext.block_of C0.out hw2); have D1 := Z.hide (K.Ext.block_of C1.out hw2); have D3 := Z.hide (K.Ext.block_of C3.out hw2); have HX2 : Hid (K.Ext w w2) := Z.hide (HX.out.trans hw2); have lw2 := hw2.size; have f0 := hw2.cell_of e0; have f1 := hw2.cell_of e1; have b3_c0 : w2.cell? ⟨w.heap.size, 0, none⟩ = some (.int .i64 (F.dg)) := K.cell_at D0.out rfl; have b3_f0 : w2.frozen? ⟨w.heap.size, 0, none⟩ = false := K.thaw_at D0.out; have b3_c1 : w2.cell? ⟨w.heap.size, 1, none⟩ = some (.int .i64 (F.tn)) := K.cell_at D0.out rfl; have b3_f1 : w2.frozen? ⟨w.heap.size, 1, none⟩ = false := K.thaw_at D0.out; have n1 : ¬ (w1.heap.size = w2.heap.size) := (by omega); have y1 : w1.heap.size < w2.heap.size := (by omega); have y2 : w.heap.size < w2.heap.size := (by omega); have n2 : ¬ (w2.heap.size = w1.heap.size) := (by omega); have n3 : ¬ (w.heap.size = w2.heap.size) := (by omega))) | ((go_at_call 111; refine K.call (by with_reducible rfl) (by with_reducible rfl) (HR.out _) ?_; rintro e w3 ⟨rfl, hw3⟩; have lw3 : w2.heap.size < w3.heap.size := (by have h_ := hw3.size; simp at h_; omega); have E0 := Z.hide (K.Ext.block_of (K.Ext.block_of D0.out ((K.Ext.refl _).alloc _)) hw3); have E1 := Z.hide (K.Ext.block_of (K.Ext.block_of D1.out ((K.Ext.refl _).alloc _)) hw3); have E3 := Z.hide (K.Ext.block_of (K.Ext.block_of D3.out ((K.Ext.refl _).alloc _)) hw3); have HX3 : Hid (K.Ext w w3) := Z.hide (K.Ext.trans (K.Ext.alloc HX2.out _) hw3); have E4 : Hid (w3.heap[w2.heap.size]? = some (.cells #[.int .i64 q.1.1, .int .i64 q.1.2] 30)) := Z.hide (K.Ext.block_of (K.block_new rfl) hw3); have b4_c0 : w3.cell? ⟨w1.heap.size, 0, none⟩ = some (.int .i64 (_)) := K.cell_at E3.out rfl; have b4_f0 : w3.frozen? ⟨w1.heap.size, 0, none⟩ = false := K.thaw_at E3.out; have b4_c1 : w3.cell? ⟨w1.heap.size, 1, none⟩ = some (.int .i64 (_)) := K.cell_at E3.out rfl; have b4_f1 : w3.frozen? ⟨w1.heap.size, 1, none⟩ = false := K.thaw_at E3.out; have b5_c0 : w3.cell? ⟨w2.heap.size, 0, none⟩ = some (.int .i64 (_)) := K.cell_at E4.out rfl; have b5_f0 : w3.frozen? ⟨w2.heap.size, 0, none⟩ = false := K.thaw_at E4.out; have b5_c1 : w3.cell? ⟨w2.heap.size, 1, none⟩ = some (.int .i64 (_)) := K.cell_at E4.out rfl; have b5_f1 : w3.frozen? ⟨w2.heap.size, 1, none⟩ = false := K.thaw_at E4.out)))
              go_roundw
              case rel =>
                refine ⟨k + 1, by omega, by go_num, HZ2, Z.hide ?_, Z.hide ?_, Z.hide ?_, Z.hide ?_⟩
                · iterate 4 with_reducible refine Eq.trans (K.set_block (by dsimp only; omega)) ?_
                  exact E0.out
                · iterate 4 with_reducible refine Eq.trans (K.set_block (by dsimp only; omega)) ?_
                  exact E1.out
                · rw [HS.out]
                  have E5 : ((w3.setCell ⟨w2.heap.size, 0, none⟩ (.int .i64 r.1.1)).setCell ⟨w2.heap.size, 1, none⟩ (.int .i64 r.1.2)).heap[w1.heap.size]? = some (.cells #[.int .i64 (Z.powK false (F.dg, F.tn) k).1.1, .int .i64 (Z.powK false (F.dg, F.tn) k).1.2] 30) := by
                    iterate 2 with_reducible refine Eq.trans (K.set_block (by dsimp only; omega)) ?_
                    exact E3.out
                  exact Joins.block_setCell (Joins.block_setCell E5 _) _
                · repeat with_reducible refine K.Ext.setCell ?_ (by dsimp only; omega) _
                  exact HX3.out
              case measure => simp [intOf]; omega
            · have HE : Hid (Z.PowerFormula F n = (Z.zeroFm, r.2)) := Z.hide (HEb.out hz)
              go_wp2_with (first | (go_at_call 110; refine K.call (by with_reducible rfl) (by with_reducible rfl) (HAB.out _) ?_; rintro e w' ⟨rfl, rfl⟩) | ((go_at_call 101; refine K.call (by with_reducible rfl) (by with_reducible rfl) (HQ.out _) ?_; rintro e w2 ⟨rfl, hw2⟩; have D0 := Z.hide (K.Ext.block_of C0.out hw2); have D1 := Z.hide (K.Ext.block_of C1.out hw2); have D3 := Z.hide (K.Ext.block_of C3.out hw2); have HX2 : Hid (K.Ext w w2) := Z.hide (HX.out.trans hw2); have lw2 := hw2.size; have f0 := hw2.cell_of e0; have f1 := hw2.cell_of e1; have b6_c0 : w2.cell? ⟨w.heap.size, 0, none⟩ = some (.int .i64 (F.dg)) := K.cell_at D0.out rfl; have b6_f0 : w2.frozen? ⟨w.heap.size, 0, none⟩ = false := K.thaw_at D0.out; have b6_c1 : w2.cell? ⟨w.heap.size, 1, none⟩ = some (.int .i64 (F.tn)) := K.cell_at D0.out rfl; have b6_f1 : w2.frozen? ⟨w.heap.size, 1, none⟩ = false := K.thaw_at D0.out; have n1 : ¬ (w1.heap.size = w2.heap.size) := (by omega); have y1 : w1.heap.size < w2.heap.size := (by omega); have y2 : w.heap.size < w2.heap.size := (by omega); have n2 : ¬ (w2.heap.size = w1.heap.size) := (by omega); have n3 : ¬ (w.heap.size = w2.heap.size) := (by omega))) | ((go_at_call 111; refine K.call (by with_reducible rfl) (by with_reducible rfl) (HR.out _) ?_; rintro e w3 ⟨rfl, hw3⟩; have lw3 : w2.heap.size < w3.heap.size := (by have h_ := hw3.size; simp at h_; omega); have E1 := Z.hide (K.Ext.block_of (K.Ext.block_of D1.out ((K.Ext.refl _).alloc _)) hw3); have HX3 : Hid (K.Ext w w3) := Z.hide (K.Ext.trans (K.Ext.alloc HX2.out _) hw3); have E4 : Hid (w3.heap[w2.heap.size]? = some (.cells #[.int .i64 q.1.1, .int .i64 q.1.2] 30)) := Z.hide (K.Ext.block_of (K.block_new rfl) hw3); have b7_c0 : w3.cell? ⟨w.heap.size + 1, 0, none⟩ = some (.int .i64 (0)) := K.cell_at E1.out rfl; have b7_f0 : w3.frozen? ⟨w.heap.size + 1, 0, none⟩ = false := K.thaw_at E1.out; have b7_c1 : w3.cell? ⟨w.heap.size + 1, 1, none⟩ = some (.int .i64 (0)) := K.cell_at E1.out rfl; have b7_f1 : w3.frozen? ⟨w.heap.size + 1, 1, none⟩ = false := K.thaw_at E1.out; have b7_c2 : w3.cell? ⟨w.heap.size + 1, 2, none⟩ = some (.string ⟨#[]⟩) := K.cell_at E1.out rfl; have b7_f2 : w3.frozen? ⟨w.heap.size + 1, 2, none⟩ = false := K.thaw_at E1.out; have b7_c3 : w3.cell? ⟨w.heap.size + 1, 3, none⟩ = some (.slice none 0 0) := K.cell_at E1.out rfl; have b7_f3 : w3.frozen? ⟨w.heap.size + 1, 3, none⟩ = false := K.thaw_at E1.out; have b8_c0 : w3.cell? ⟨w2.heap.size, 0, none⟩ = some (.int .i64 (_)) := K.cell_at E4.out rfl; have b8_f0 : w3.frozen? ⟨w2.heap.size, 0, none⟩ = false := K.thaw_at E4.out; have b8_c1 : w3.cell? ⟨w2.heap.size, 1, none⟩ = some (.int .i64 (_)) := K.cell_at E4.out rfl; have b8_f1 : w3.frozen? ⟨w2.heap.size, 1, none⟩ = false := K.thaw_at E4.out; have n4 : ¬ (w.heap.size + 1 = w2.heap.size) := (by omega); have n5 : ¬ (w2.heap.size = w.heap.size + 1) := (by omega))))
              rw [HE.out]
              refine bodyPost_ret (v := .tuple #[.agg #[.int .i64 0, .int .i64 0, .string ⟨#[]⟩, .slice none 0 0], .int .i64 r.2]) (by unfold results; rw [Try.results31]; go_simp) rfl ⟨⟨_, rfl, K.ints_nil _ _ _⟩, ?_⟩
              repeat' (first | with_reducible refine K.Ext.setCell ?_ ?_ _ | with_reducible refine K.Ext.alloc ?_ _ | (dsimp only; omega))
              exact HX3.out
        · obtain rfl : k = m := by omega
          obtain ⟨wo, rfl⟩ : ∃ wo : World, wo = wr := ⟨_, rfl⟩
          obtain ⟨r, hr⟩ : ∃ r, r = (Z.powK g (F.dg, F.tn) k).1 := ⟨_, rfl⟩
          rw [← hr] at e0 e1
          have C3' : Hid (wo.heap[w1.heap.size]? = some (.cells #[.int .i64 r.1, .int .i64 r.2] 30)) := Z.hide (by rw [hr]; exact C3.out)
          have HZm := HZ.out
          have HE : Hid (Z.PowerFormula F n = Z.fmOr (Z.made r.1 r.2 (Z.powF F n) 26)) := Z.hide (by
            rw [HP.out]
            unfold Z.raised
            rw [← HM.out, ← HD.out, if_pos HZm, ← hr]; rfl)
          clear hr HZm C3
          have HK : ∀ w' : World, K.Ext w w' → Calls Try.prog 102 #[.agg #[.int .i64 F.dg, .int .i64 F.tn, .string F.nm, .slice o F.pw.length cap]] w' fun e w'' => (∃ v', e = .returned v' ∧ K.own w'' w'.heap.size w''.heap.size v' (Z.allOf F)) ∧ K.Ext w' w'' := fun w' hx => l18All_any F w' HF.out (K.ints.ext HH.out hx)
          have HKh := Z.hide HK
          clear HK
          have b9_c0 : wo.cell? ⟨w.heap.size, 0, none⟩ = some (.int .i64 (F.dg)) := K.cell_at C0.out rfl; have b9_f0 : wo.frozen? ⟨w.heap.size, 0, none⟩ = false := K.thaw_at C0.out; have b9_c1 : wo.cell? ⟨w.heap.size, 1, none⟩ = some (.int .i64 (F.tn)) := K.cell_at C0.out rfl; have b9_f1 : wo.frozen? ⟨w.heap.size, 1, none⟩ = false := K.thaw_at C0.out; have b9_c2 : wo.cell? ⟨w.heap.size, 2, none⟩ = some (.string F.nm) := K.cell_at C0.out rfl; have b9_f2 : wo.frozen? ⟨w.heap.size, 2, none⟩ = false := K.thaw_at C0.out; have b9_c3 : wo.cell? ⟨w.heap.size, 3, none⟩ = some (.slice o F.pw.length cap) := K.cell_at C0.out rfl; have b9_f3 : wo.frozen? ⟨w.heap.size, 3, none⟩ = false := K.thaw_at C0.out
          go_wp2_with (first | (go_at_call 110; refine K.call (by with_reducible rfl) (by with_reducible rfl) (HAB.out _) ?_; rintro e w' ⟨rfl, rfl⟩) | ((go_at_call 102; refine K.call (by with_reducible rfl) (by with_reducible rfl) (HKh.out _ HX.out) ?_; rintro e w4 ⟨⟨v4, rfl, hv4⟩, hw4⟩; have s4 := hv4; obtain ⟨o4, c4, rfl, _⟩ := s4; rw [Z.allOf_length] at hv4; have HA := Z.hide hv4; have D1 := Z.hide (K.Ext.block_of C1.out hw4); have D3 := Z.hide (K.Ext.block_of C3'.out hw4); have HX4 : Hid (K.Ext w w4) := Z.hide (HX.out.trans hw4); have lw4 := hw4.size; clear hw4 hv4)))
          rw [Z.allOf_length]
          go_loopw [11] (fun i wr => ∃ j : Nat, j ≤ 26 ∧ i = .int .i64 j ∧ Hid (K.own wr wo.heap.size w4.heap.size (.slice o4 26 c4) (Z.powL F n j)) ∧ Hid (K.Ext w wr) ∧ Hid (wr.heap[w.heap.size + 1]? = some (.cells #[.int .i64 0, .int .i64 0, .string ⟨#[]⟩, .slice none 0 0] 32)) ∧ Hid (wr.heap[w1.heap.size]? = some (.cells #[.int .i64 r.1, .int .i64 r.2] 30)) ∧ w4.heap.size ≤ wr.heap.size) (fun i _ => 26 - (intOf i).toNat)
          case atStart => exact ⟨0, Nat.zero_le _, rfl, Z.hide (by rw [Z.powL_zero]; exact HA.out), HX4, D1, D3, Nat.le_refl _⟩
          case round =>
            obtain ⟨j, hj, rfl, HA1, HX5, E1, E3, lw5⟩ := hrel
            clear HA HX4 D1 D3
            have j0 : (0 : Int) ≤ (j : Int) := Int.natCast_nonneg j
            by_cases hlt2 : j < 26
            · have j1 : (j : Int) < 26 := by omega
              obtain ⟨b, off, rfl, b1, b2, bc, bf⟩ := K.own_at HA1.out (by rw [Z.powL_length]; decide)
              have hca := bc j (by rw [Z.powL_length]; exact hlt2)
              have hfa := bf j (by rw [Z.powL_length]; exact hlt2)
              rw [Z.powL_get _ _ _ _ hlt2, if_neg (Nat.lt_irrefl j)] at hca
              obtain ⟨x1, x2⟩ := Z.expo_6 HF.out (97 + (j : Int))
              have HS : Hid (Z.powL F n (j + 1) = (Z.powL F n j).set j (n * Z.expo (Z.bs F.nm) F.pw (97 + (j : Int)))) := Z.hide (Z.powL_succ F n j hlt2)
              have HL := Z.hide (Z.powL_length F n j)
              clear bc bf
              generalize Z.expo (Z.bs F.nm) F.pw (97 + (j : Int)) = x at *
              obtain ⟨m1, m2⟩ := Z.mul_bd n x 3 6 n1 n2 x1 x2
              have q1 : IntKind.i64.wrap (n * x) = n * x := IntWalk.i64_in _ (by omega)
              have HT := Z.hide (K.own_setAt (x := n * x) (k := j) (by rw [HL.out]; exact hlt2) HA1.out)
              have HXT : Hid (K.Ext w (wr.setCell ⟨b, off + j, none⟩ (.int .i64 (n * x)))) := Z.hide (K.Ext.setCell HX5.out (by dsimp only; omega) _)
              have G1 : Hid ((wr.setCell ⟨b, off + j, none⟩ (.int .i64 (n * x))).heap[w.heap.size + 1]? = some (.cells #[.int .i64 0, .int .i64 0, .string ⟨#[]⟩, .slice none 0 0] 32)) := Z.hide ((K.set_block (by dsimp only; omega)).trans E1.out)
              have G3 : Hid ((wr.setCell ⟨b, off + j, none⟩ (.int .i64 (n * x))).heap[w1.heap.size]? = some (.cells #[.int .i64 r.1, .int .i64 r.2] 30)) := Z.hide ((K.set_block (by dsimp only; omega)).trans E3.out)
              clear m1 m2
              go_wp2
              go_roundw
              case rel => exact ⟨j + 1, by omega, by go_num, Z.hide (by rw [HS.out]; exact HT.out), HXT, G1, G3, by simp; omega⟩
              case measure => simp [intOf]; omega
            · obtain rfl : j = 26 := by omega
              have f0 : wr.cell? ⟨w1.heap.size, 0, none⟩ = some (.int .i64 r.1) := K.cell_at E3.out rfl
              have f1 : wr.cell? ⟨w1.heap.size, 1, none⟩ = some (.int .i64 r.2) := K.cell_at E3.out rfl
              obtain ⟨M, HMM⟩ : ∃ M, M = Z.made r.1 r.2 (Z.powF F n) 26 := ⟨_, rfl⟩
              have HK : Calls Try.prog 104 #[.agg #[.int .i64 r.1, .int .i64 r.2], .slice o4 26 c4] wr fun e w' => (∃ p', e = .returned (.agg #[.int .i64 M.dg, .int .i64 M.tn, .string M.nm, p']) ∧ K.own w' wr.heap.size w'.heap.size p' M.pw) ∧ K.Ext wr w' := by
                have hk := l18Make_any r.1 r.2 (Z.powL F n 26) wr (Z.powL_length F n 26) (K.own.ints HA1.out)
                rw [Z.powL_made] at hk
                rw [HMM]
                exact hk
              have hle : M.pw.length ≤ 1048576 ∧ M.nm.size ≤ 1048576 := by rw [HMM]; exact Z.made_le _ _ _
              have HL := Z.hide hle
              rw [← HMM] at HE
              clear HMM hle HA1
              obtain ⟨N, HN⟩ : ∃ N, N = Z.fmOr M := ⟨_, rfl⟩
              have HR : ∀ {lo hi : Nat} {p : Value} (w : World), K.ints w lo hi p M.pw → Calls Try.prog 103 #[.agg #[.int .i64 M.dg, .int .i64 M.tn, .string M.nm, p]] w fun e w' => (∃ p', e = .returned (.tuple #[.agg #[.int .i64 N.1.dg, .int .i64 N.1.tn, .string N.1.nm, p'], .int .i64 N.2]) ∧ K.ints w' lo hi p' N.1.pw) ∧ K.Ext w w' := fun w hh => by rw [HN]; exact l18Result_any M w HL.out.1 HL.out.2 hh
              rw [← HN] at HE
              clear HN
              go_wp2_with (first | ((go_at_call 104; refine K.call (by with_reducible rfl) (by with_reducible rfl) (HK) ?_; rintro e w6 ⟨⟨p6, rfl, hp6⟩, hw6⟩; have E2 := Z.hide (K.Ext.block_of E1.out hw6); have hp7 := hp6; obtain ⟨o6, c6, rfl, _⟩ := hp7)) | ((go_at_call 103; refine K.call (by with_reducible rfl) (by with_reducible rfl) (HR _ (K.own.ints hp6)) ?_; rintro e w7 ⟨⟨p7, rfl, hp7⟩, hw7⟩; have hp8 := hp7; obtain ⟨o7, c7, rfl, _⟩ := hp8; have G2 := Z.hide (K.Ext.block_of E2.out hw7); have lw2 : w.heap.size + 1 < w7.heap.size := (Array.getElem?_eq_some_iff.1 G2.out).1; have b10_c0 : w7.cell? ⟨w.heap.size + 1, 0, none⟩ = some (.int .i64 (0)) := K.cell_at G2.out rfl; have b10_f0 : w7.frozen? ⟨w.heap.size + 1, 0, none⟩ = false := K.thaw_at G2.out; have b10_c1 : w7.cell? ⟨w.heap.size + 1, 1, none⟩ = some (.int .i64 (0)) := K.cell_at G2.out rfl; have b10_f1 : w7.frozen? ⟨w.heap.size + 1, 1, none⟩ = false := K.thaw_at G2.out; have b10_c2 : w7.cell? ⟨w.heap.size + 1, 2, none⟩ = some (.string ⟨#[]⟩) := K.cell_at G2.out rfl; have b10_f2 : w7.frozen? ⟨w.heap.size + 1, 2, none⟩ = false := K.thaw_at G2.out; have b10_c3 : w7.cell? ⟨w.heap.size + 1, 3, none⟩ = some (.slice none 0 0) := K.cell_at G2.out rfl; have b10_f3 : w7.frozen? ⟨w.heap.size + 1, 3, none⟩ = false := K.thaw_at G2.out)))
              rw [HE.out]
              have z8 := HX5.out.size
              have z9 := hw6.size
              have z10 := hw7.size
              have z11 : w.heap.size + 1 < wr.heap.size := (Array.getElem?_eq_some_iff.1 E1.out).1
              refine bodyPost_ret (v := .tuple #[.agg #[.int .i64 N.1.dg, .int .i64 N.1.tn, .string N.1.nm, .slice o7 N.1.pw.length c7], .int .i64 N.2]) (by unfold results; rw [Try.results31]; go_simp) rfl ⟨⟨_, rfl, ?_⟩, ?_⟩
              · refine K.ints.mono (lo := wr.heap.size) (hi := w6.heap.size) ?_ (by omega) (by simp; omega)
                repeat with_reducible refine K.ints.set ?_ _ (.inl (by dsimp only; omega)) _
                exact hp7
              · repeat with_reducible refine K.Ext.setCell ?_ (by dsimp only; omega) _
                exact K.Ext.trans HX5.out (K.Ext.trans hw6 hw7)
end Go.Proofs.Ythmnlbgbacbocaa
end
section
namespace Go.Proofs.Ythmnlbgbacbocaa
open Go.RowKit
set_option maxHeartbeats 3200000 in
theorem quotient_any (E : Z.Eqn) {loEL hiEL loER hiER : Nat} {pEL pER : Value} (w : World) (hf : Z.isEquation E = true) (hEL : K.ints w loEL hiEL pEL E.L.pw) (hER : K.ints w loER hiER pER E.R.pw) :
    Calls Try.prog 121 #[.agg #[.int .i64 E.L.dg, .int .i64 E.L.tn, .string E.L.nm, pEL, .int .i64 E.R.dg, .int .i64 E.R.tn, .string E.R.nm, pER]] w fun e w' => (∃ p', e = .returned (.tuple #[.agg #[.int .i64 ((Z.quotient E).1).dg, .int .i64 ((Z.quotient E).1).tn, .string ((Z.quotient E).1).nm, p'], .int .i64 ((Z.quotient E).2)]) ∧ K.own w' w.heap.size w'.heap.size p' (Z.quotient E).1.pw) ∧ K.Ext w w' := by
  have hEL_ := hEL
  have shEL := hEL
  obtain ⟨oEL, cEL, rfl, _⟩ := shEL
  have hER_ := hER
  have shER := hER
  obtain ⟨oER, cER, rfl, _⟩ := shER
  obtain ⟨hL, hR⟩ := Z.isEquation_parts hf
  obtain ⟨r, hr⟩ : ∃ r, r = Z.raised E.R (-1) := ⟨_, rfl⟩
  have HR : ∀ {lo hi : Nat} {p : Value} (w : World), K.ints w lo hi p E.R.pw → Calls Try.prog 109 #[.agg #[.int .i64 E.R.dg, .int .i64 E.R.tn, .string E.R.nm, p], .int .i64 (-1)] w fun e w' => (∃ p', e = .returned (.tuple #[.agg #[.int .i64 r.1.dg, .int .i64 r.1.tn, .string r.1.nm, p'], .int .i64 r.2]) ∧ K.own w' w.heap.size w'.heap.size p' r.1.pw) ∧ K.Ext w w' := fun w h => by rw [hr]; exact raised_any E.R (-1) w hR ⟨by decide, by decide⟩ h
  by_cases hz : r.2 = 0
  · obtain ⟨M, hM⟩ : ∃ M, M = Z.multiplied E.L r.1 := ⟨_, rfl⟩
    have HE : Hid (Z.quotient E = M) := Z.hide (by unfold Z.quotient; rw [← hr, if_pos hz, hM])
    have hG : Z.isFormula r.1 = true := by rw [hr]; exact Z.raised_ok (by rw [← hr]; exact hz)
    have HM : ∀ {lo hi lo' hi' : Nat} {p q : Value} (w : World), K.ints w lo hi p E.L.pw → K.ints w lo' hi' q r.1.pw → Calls Try.prog 100 #[.agg #[.int .i64 E.L.dg, .int .i64 E.L.tn, .string E.L.nm, p], .agg #[.int .i64 r.1.dg, .int .i64 r.1.tn, .string r.1.nm, q]] w fun e w' => (∃ p', e = .returned (.tuple #[.agg #[.int .i64 M.1.dg, .int .i64 M.1.tn, .string M.1.nm, p'], .int .i64 M.2]) ∧ K.own w' w.heap.size w'.heap.size p' M.1.pw) ∧ K.Ext w w' := fun w h h' => by rw [hM]; exact multiplied_any E.L r.1 w hL hG h h'
    clear hr hM hL hR hf hG
    have X0 : K.Ext w w := K.Ext.refl w
    go_enter Try.func121, Try.ntmps121
    go_wp2_with (go_at_call 109; refine K.call (by with_reducible rfl) (by with_reducible rfl) (HR _ (K.ints.alloc (K.ints.alloc hER_ _) _)) ?_; rintro e w1 ⟨⟨p1, rfl, g1⟩, x1⟩; obtain ⟨o1, k1, rfl, _⟩ := K.own.ints g1; have F3_1 : K.own w1 (w.heap.size + 2) (w1.heap.size) (.slice o1 r.1.pw.length k1) (r.1.pw) := g1.mono (by simp) (Nat.le_refl _); clear g1; have s1 : w.heap.size + 2 ≤ w1.heap.size := (by have h_ := x1.size; (try simp at h_); omega); have X1 := K.Ext.trans (K.Ext.alloc (K.Ext.alloc X0 _) _) x1; obtain ⟨c1_0_0, c1_0_1, c1_0_2, c1_0_3, c1_0_4, c1_0_5, c1_0_6, c1_0_7⟩ := K.c8 x1 (w.heap.size) (.int .i64 E.L.dg) (.int .i64 E.L.tn) (.string E.L.nm) (.slice oEL E.L.pw.length cEL) (.int .i64 E.R.dg) (.int .i64 E.R.tn) (.string E.R.nm) (.slice oER E.R.pw.length cER) (by go_simp); have z1_0 : w.heap.size < w1.heap.size := World.block_lt_of_cell? w1 _ c1_0_0; have d1_0 : ¬ (w.heap.size = w1.heap.size) := (by omega); have e1_0 : ¬ (w1.heap.size = w.heap.size) := (by omega); obtain ⟨c1_1_0, c1_1_1, c1_1_2, c1_1_3⟩ := K.c4 x1 (w.heap.size + 1) (.int .i64 0) (.int .i64 0) (.string ⟨#[]⟩) (.slice none 0 0) (by go_simp); obtain ⟨f1_1_0, f1_1_1, f1_1_2, f1_1_3⟩ := K.f4 x1 (w.heap.size + 1) (by go_simp); have z1_1 : w.heap.size + 1 < w1.heap.size := World.block_lt_of_cell? w1 _ c1_1_0; have d1_1 : ¬ (w.heap.size + 1 = w1.heap.size) := (by omega); have e1_1 : ¬ (w1.heap.size = w.heap.size + 1) := (by omega); have n1_0 : ¬ (w.heap.size + 1 = w.heap.size) := (by omega); have n0_1 : ¬ (w.heap.size = w.heap.size + 1) := (by omega); have F1_1 := K.ints.ext (K.ints.alloc (K.ints.alloc hEL_ _) _) x1; have F2_1 := K.ints.ext (K.ints.alloc (K.ints.alloc hER_ _) _) x1; clear hEL_ hER_)
    go_wp2_with (go_at_call 100; refine K.call (by with_reducible rfl) (by with_reducible rfl) (HM _ (K.ints.alloc F1_1 _) (K.own.ints (K.own.alloc F3_1 _))) ?_; rintro e w2 ⟨⟨p2, rfl, g2⟩, x2⟩; obtain ⟨o2, k2, rfl, _⟩ := K.own.ints g2; have F4_2 : K.own w2 (w1.heap.size + 1) (w2.heap.size) (.slice o2 M.1.pw.length k2) (M.1.pw) := g2.mono (by simp) (Nat.le_refl _); clear g2; have s2 : w1.heap.size + 1 ≤ w2.heap.size := (by have h_ := x2.size; (try simp at h_); omega); have X2 := K.Ext.trans (K.Ext.alloc X1 _) x2; obtain ⟨c2_0_0, c2_0_1, c2_0_2, c2_0_3, c2_0_4, c2_0_5, c2_0_6, c2_0_7⟩ := K.c8 x2 (w.heap.size) (.int .i64 E.L.dg) (.int .i64 E.L.tn) (.string E.L.nm) (.slice oEL E.L.pw.length cEL) (.int .i64 E.R.dg) (.int .i64 E.R.tn) (.string E.R.nm) (.slice oER E.R.pw.length cER) (by go_simp); have z2_0 : w.heap.size < w2.heap.size := World.block_lt_of_cell? w2 _ c2_0_0; have d2_0 : ¬ (w.heap.size = w2.heap.size) := (by omega); have e2_0 : ¬ (w2.heap.size = w.heap.size) := (by omega); obtain ⟨c2_1_0, c2_1_1, c2_1_2, c2_1_3⟩ := K.c4 x2 (w.heap.size + 1) (.int .i64 0) (.int .i64 0) (.string ⟨#[]⟩) (.slice none 0 0) (by go_simp); obtain ⟨f2_1_0, f2_1_1, f2_1_2, f2_1_3⟩ := K.f4 x2 (w.heap.size + 1) (by go_simp); have z2_1 : w.heap.size + 1 < w2.heap.size := World.block_lt_of_cell? w2 _ c2_1_0; have d2_1 : ¬ (w.heap.size + 1 = w2.heap.size) := (by omega); have e2_1 : ¬ (w2.heap.size = w.heap.size + 1) := (by omega); obtain ⟨c2_2_0, c2_2_1, c2_2_2, c2_2_3⟩ := K.c4 x2 (w1.heap.size) (.int .i64 r.1.dg) (.int .i64 r.1.tn) (.string r.1.nm) (.slice o1 r.1.pw.length k1) (by go_simp); obtain ⟨f2_2_0, f2_2_1, f2_2_2, f2_2_3⟩ := K.f4 x2 (w1.heap.size) (by go_simp); have z2_2 : w1.heap.size < w2.heap.size := World.block_lt_of_cell? w2 _ c2_2_0; have d2_2 : ¬ (w1.heap.size = w2.heap.size) := (by omega); have e2_2 : ¬ (w2.heap.size = w1.heap.size) := (by omega); have n2_0 : ¬ (w1.heap.size = w.heap.size) := (by omega); have n0_2 : ¬ (w.heap.size = w1.heap.size) := (by omega); have n2_1 : ¬ (w1.heap.size = w.heap.size + 1) := (by omega); have n1_2 : ¬ (w.heap.size + 1 = w1.heap.size) := (by omega); have F1_2 := K.ints.ext (K.ints.alloc F1_1 _) x2; have F2_2 := K.ints.ext (K.ints.alloc F2_1 _) x2; have F3_2 := K.own.ext (K.own.alloc F3_1 _) x2; clear c1_0_0 c1_0_1 c1_0_2 c1_0_3 c1_0_4 c1_0_5 c1_0_6 c1_0_7 z1_0 d1_0 e1_0 c1_1_0 c1_1_1 c1_1_2 c1_1_3 f1_1_0 f1_1_1 f1_1_2 f1_1_3 z1_1 d1_1 e1_1 F1_1 F2_1 F3_1)
    rw [HE.out]
    refine bodyPost_ret (v := .tuple #[.agg #[.int .i64 M.1.dg, .int .i64 M.1.tn, .string M.1.nm, .slice o2 M.1.pw.length k2], .int .i64 M.2]) (by unfold results; rw [Try.results121]; go_simp) rfl ⟨⟨_, rfl, ?_⟩, ?_⟩
    · refine K.own.mono (lo := w1.heap.size + 1) (hi := w2.heap.size) ?_ (by first | omega | (simp; done) | (simp; omega)) (by first | omega | (simp; done) | (simp; omega))
      repeat' (first | with_reducible exact F4_2 | with_reducible refine K.own.set ?_ _ ?_ _ | with_reducible refine K.own.alloc ?_ _ | with_reducible refine K.own.drew ?_ | (dsimp only; omega) | omega | (simp; done) | (simp; omega))
    · repeat with_reducible refine K.Ext.setCell ?_ (by dsimp only; omega) _
      exact (by repeat' (first | with_reducible exact X2 | with_reducible refine K.Ext.setCell ?_ ?_ _ | with_reducible refine K.Ext.alloc ?_ _ | with_reducible refine K.Ext.drew ?_ | (dsimp only; omega) | omega | (simp; omega)))
  · have HE : Hid (Z.quotient E = (Z.zeroFm, r.2)) := Z.hide (by unfold Z.quotient; rw [← hr, if_neg hz])
    clear hr hL hR hf
    have X0 : K.Ext w w := K.Ext.refl w
    go_enter Try.func121, Try.ntmps121
    go_wp2_with (go_at_call 109; refine K.call (by with_reducible rfl) (by with_reducible rfl) (HR _ (show K.ints _ (loER) (hiER) (.slice oER E.R.pw.length cER) (E.R.pw) from by repeat' (first | with_reducible exact hER_ | with_reducible refine K.ints.set ?_ _ ?_ _ | with_reducible refine K.ints.alloc ?_ _ | with_reducible refine K.ints.drew ?_ | (dsimp only; omega) | omega | (simp; done) | (simp; omega)))) ?_; rintro e w1 ⟨⟨p1, rfl, g1⟩, x1⟩; obtain ⟨o1, k1, rfl, _⟩ := K.own.ints g1; have F3_1 : K.own w1 (w.heap.size + 2) (w1.heap.size) (.slice o1 r.1.pw.length k1) (r.1.pw) := g1.mono (by simp) (Nat.le_refl _); clear g1; have s1 : w.heap.size + 2 ≤ w1.heap.size := (by have h_ := x1.size; (try simp at h_); omega); have X1 : K.Ext w w1 := K.Ext.trans (by repeat' (first | with_reducible exact X0 | with_reducible refine K.Ext.setCell ?_ ?_ _ | with_reducible refine K.Ext.alloc ?_ _ | with_reducible refine K.Ext.drew ?_ | (dsimp only; omega) | omega | (simp; omega))) x1; obtain ⟨c1_0_0, c1_0_1, c1_0_2, c1_0_3, c1_0_4, c1_0_5, c1_0_6, c1_0_7⟩ := K.c8 x1 (w.heap.size) (.int .i64 E.L.dg) (.int .i64 E.L.tn) (.string E.L.nm) (.slice oEL E.L.pw.length cEL) (.int .i64 E.R.dg) (.int .i64 E.R.tn) (.string E.R.nm) (.slice oER E.R.pw.length cER) (by go_simp); have z1_0 : w.heap.size < w1.heap.size := World.block_lt_of_cell? w1 _ c1_0_0; have d1_0 : ¬ (w.heap.size = w1.heap.size) := (by omega); have e1_0 : ¬ (w1.heap.size = w.heap.size) := (by omega); obtain ⟨c1_1_0, c1_1_1, c1_1_2, c1_1_3⟩ := K.c4 x1 (w.heap.size + 1) (.int .i64 0) (.int .i64 0) (.string ⟨#[]⟩) (.slice none 0 0) (by go_simp); obtain ⟨f1_1_0, f1_1_1, f1_1_2, f1_1_3⟩ := K.f4 x1 (w.heap.size + 1) (by go_simp); have z1_1 : w.heap.size + 1 < w1.heap.size := World.block_lt_of_cell? w1 _ c1_1_0; have d1_1 : ¬ (w.heap.size + 1 = w1.heap.size) := (by omega); have e1_1 : ¬ (w1.heap.size = w.heap.size + 1) := (by omega); have n1_0 : ¬ (w.heap.size + 1 = w.heap.size) := (by omega); have n0_1 : ¬ (w.heap.size = w.heap.size + 1) := (by omega); have F1_1 := K.ints.ext (show K.ints _ (loEL) (hiEL) (.slice oEL E.L.pw.length cEL) (E.L.pw) from by repeat' (first | with_reducible exact hEL_ | with_reducible refine K.ints.set ?_ _ ?_ _ | with_reducible refine K.ints.alloc ?_ _ | with_reducible refine K.ints.drew ?_ | (dsimp only; omega) | omega | (simp; done) | (simp; omega))) x1; have F2_1 := K.ints.ext (show K.ints _ (loER) (hiER) (.slice oER E.R.pw.length cER) (E.R.pw) from by repeat' (first | with_reducible exact hER_ | with_reducible refine K.ints.set ?_ _ ?_ _ | with_reducible refine K.ints.alloc ?_ _ | with_reducible refine K.ints.drew ?_ | (dsimp only; omega) | omega | (simp; done) | (simp; omega))) x1; clear hEL_ hER_)
    rw [HE.out]
    refine bodyPost_ret (v := .tuple #[.agg #[.int .i64 0, .int .i64 0, .string ⟨#[]⟩, .slice none 0 0], .int .i64 r.2]) (by unfold results; rw [Try.results121]; go_simp) rfl ⟨⟨_, rfl, ?_⟩, ?_⟩
    · exact K.own_nil _ _ _
    · repeat with_reducible refine K.Ext.setCell ?_ (by dsimp only; omega) _
      exact (by repeat' (first | with_reducible exact X1 | with_reducible refine K.Ext.setCell ?_ ?_ _ | with_reducible refine K.Ext.alloc ?_ _ | with_reducible refine K.Ext.drew ?_ | (dsimp only; omega) | omega | (simp; omega)))
set_option maxHeartbeats 3200000 in
theorem impl_QuotientFormula (E : Z.Eqn) {loEL hiEL loER hiER : Nat} {pEL pER : Value} (w : World)  (hmEL : E.L.pw.length ≤ 1048576) (hnEL : E.L.nm.size ≤ 1048576) (hmER : E.R.pw.length ≤ 1048576) (hnER : E.R.nm.size ≤ 1048576) (hEL : K.ints w loEL hiEL pEL E.L.pw) (hER : K.ints w loER hiER pER E.R.pw) :
    Calls Try.prog 44 #[.agg #[.int .i64 E.L.dg, .int .i64 E.L.tn, .string E.L.nm, pEL, .int .i64 E.R.dg, .int .i64 E.R.tn, .string E.R.nm, pER]] w fun e w' => (∃ p', e = .returned (.tuple #[.agg #[.int .i64 ((Z.QuotientFormula E).1).dg, .int .i64 ((Z.QuotientFormula E).1).tn, .string ((Z.QuotientFormula E).1).nm, p'], .int .i64 ((Z.QuotientFormula E).2)]) ∧ K.own w' w.heap.size w'.heap.size p' (Z.QuotientFormula E).1.pw) ∧ K.Ext w w' := by
  have hEL_ := hEL
  have shEL := hEL
  obtain ⟨oEL, cEL, rfl, _⟩ := shEL
  have hER_ := hER
  have shER := hER
  obtain ⟨oER, cER, rfl, _⟩ := shER
  cases hf : Z.isEquation E
  · have HE : Hid (Z.QuotientFormula E = (Z.zeroFm, 1)) := Z.hide (by unfold Z.QuotientFormula; rw [hf]; rfl)
    have X0 : K.Ext w w := K.Ext.refl w
    go_enter Try.func44, Try.ntmps44
    go_wp2_with (go_at_call 47; refine K.call (by with_reducible rfl) (by with_reducible rfl) (impl_IsEquation E _ hmEL hnEL hmER hnER (K.ints.alloc (K.ints.alloc hEL_ _) _) (K.ints.alloc (K.ints.alloc hER_ _) _)) ?_; rintro e w1 ⟨rfl, x1⟩; have s1 : w.heap.size + 2 ≤ w1.heap.size := (by have h_ := x1.size; (try simp at h_); omega); have X1 := K.Ext.trans (K.Ext.alloc (K.Ext.alloc X0 _) _) x1; obtain ⟨c1_0_0, c1_0_1, c1_0_2, c1_0_3, c1_0_4, c1_0_5, c1_0_6, c1_0_7⟩ := K.c8 x1 (w.heap.size) (.int .i64 E.L.dg) (.int .i64 E.L.tn) (.string E.L.nm) (.slice oEL E.L.pw.length cEL) (.int .i64 E.R.dg) (.int .i64 E.R.tn) (.string E.R.nm) (.slice oER E.R.pw.length cER) (by go_simp); have z1_0 : w.heap.size < w1.heap.size := World.block_lt_of_cell? w1 _ c1_0_0; have d1_0 : ¬ (w.heap.size = w1.heap.size) := (by omega); have e1_0 : ¬ (w1.heap.size = w.heap.size) := (by omega); obtain ⟨c1_1_0, c1_1_1, c1_1_2, c1_1_3⟩ := K.c4 x1 (w.heap.size + 1) (.int .i64 0) (.int .i64 0) (.string ⟨#[]⟩) (.slice none 0 0) (by go_simp); obtain ⟨f1_1_0, f1_1_1, f1_1_2, f1_1_3⟩ := K.f4 x1 (w.heap.size + 1) (by go_simp); have z1_1 : w.heap.size + 1 < w1.heap.size := World.block_lt_of_cell? w1 _ c1_1_0; have d1_1 : ¬ (w.heap.size + 1 = w1.heap.size) := (by omega); have e1_1 : ¬ (w1.heap.size = w.heap.size + 1) := (by omega); have n1_0 : ¬ (w.heap.size + 1 = w.heap.size) := (by omega); have n0_1 : ¬ (w.heap.size = w.heap.size + 1) := (by omega); have F1_1 := K.ints.ext (K.ints.alloc (K.ints.alloc hEL_ _) _) x1; have F2_1 := K.ints.ext (K.ints.alloc (K.ints.alloc hER_ _) _) x1; clear hEL_ hER_)
    rw [HE.out]
    refine bodyPost_ret (v := .tuple #[.agg #[.int .i64 0, .int .i64 0, .string ⟨#[]⟩, .slice none 0 0], .int .i64 1]) (by unfold results; rw [Try.results44]; go_simp) rfl ⟨⟨_, rfl, ?_⟩, ?_⟩
    · exact K.own_nil _ _ _
    · repeat with_reducible refine K.Ext.setCell ?_ (by dsimp only; omega) _
      exact (by repeat' (first | with_reducible exact X1 | with_reducible refine K.Ext.setCell ?_ ?_ _ | with_reducible refine K.Ext.alloc ?_ _ | with_reducible refine K.Ext.drew ?_ | (dsimp only; omega) | omega | (simp; omega)))
  · obtain ⟨M, hM⟩ : ∃ M, M = Z.quotient E := ⟨_, rfl⟩
    have HE : Hid (Z.QuotientFormula E = M) := Z.hide (by unfold Z.QuotientFormula; rw [hf, hM]; rfl)
    have HM : ∀ {a b c d : Nat} {p q : Value} (w : World), K.ints w a b p E.L.pw → K.ints w c d q E.R.pw → Calls Try.prog 121 #[.agg #[.int .i64 E.L.dg, .int .i64 E.L.tn, .string E.L.nm, p, .int .i64 E.R.dg, .int .i64 E.R.tn, .string E.R.nm, q]] w fun e w' => (∃ p', e = .returned (.tuple #[.agg #[.int .i64 M.1.dg, .int .i64 M.1.tn, .string M.1.nm, p'], .int .i64 M.2]) ∧ K.own w' w.heap.size w'.heap.size p' M.1.pw) ∧ K.Ext w w' := fun w h h' => by rw [hM]; exact quotient_any E w hf h h'
    clear hM
    have X0 : K.Ext w w := K.Ext.refl w
    go_enter Try.func44, Try.ntmps44
    go_wp2_with (go_at_call 47; refine K.call (by with_reducible rfl) (by with_reducible rfl) (impl_IsEquation E _ hmEL hnEL hmER hnER (show K.ints _ (loEL) (hiEL) (.slice oEL E.L.pw.length cEL) (E.L.pw) from by repeat' (first | with_reducible exact hEL_ | with_reducible refine K.ints.set ?_ _ ?_ _ | with_reducible refine K.ints.alloc ?_ _ | with_reducible refine K.ints.drew ?_ | (dsimp only; omega) | omega | (simp; done) | (simp; omega))) (show K.ints _ (loER) (hiER) (.slice oER E.R.pw.length cER) (E.R.pw) from by repeat' (first | with_reducible exact hER_ | with_reducible refine K.ints.set ?_ _ ?_ _ | with_reducible refine K.ints.alloc ?_ _ | with_reducible refine K.ints.drew ?_ | (dsimp only; omega) | omega | (simp; done) | (simp; omega)))) ?_; rintro e w1 ⟨rfl, x1⟩; have s1 : w.heap.size + 2 ≤ w1.heap.size := (by have h_ := x1.size; (try simp at h_); omega); have X1 : K.Ext w w1 := K.Ext.trans (by repeat' (first | with_reducible exact X0 | with_reducible refine K.Ext.setCell ?_ ?_ _ | with_reducible refine K.Ext.alloc ?_ _ | with_reducible refine K.Ext.drew ?_ | (dsimp only; omega) | omega | (simp; omega))) x1; obtain ⟨c1_0_0, c1_0_1, c1_0_2, c1_0_3, c1_0_4, c1_0_5, c1_0_6, c1_0_7⟩ := K.c8 x1 (w.heap.size) (.int .i64 E.L.dg) (.int .i64 E.L.tn) (.string E.L.nm) (.slice oEL E.L.pw.length cEL) (.int .i64 E.R.dg) (.int .i64 E.R.tn) (.string E.R.nm) (.slice oER E.R.pw.length cER) (by go_simp); have z1_0 : w.heap.size < w1.heap.size := World.block_lt_of_cell? w1 _ c1_0_0; have d1_0 : ¬ (w.heap.size = w1.heap.size) := (by omega); have e1_0 : ¬ (w1.heap.size = w.heap.size) := (by omega); obtain ⟨c1_1_0, c1_1_1, c1_1_2, c1_1_3⟩ := K.c4 x1 (w.heap.size + 1) (.int .i64 0) (.int .i64 0) (.string ⟨#[]⟩) (.slice none 0 0) (by go_simp); obtain ⟨f1_1_0, f1_1_1, f1_1_2, f1_1_3⟩ := K.f4 x1 (w.heap.size + 1) (by go_simp); have z1_1 : w.heap.size + 1 < w1.heap.size := World.block_lt_of_cell? w1 _ c1_1_0; have d1_1 : ¬ (w.heap.size + 1 = w1.heap.size) := (by omega); have e1_1 : ¬ (w1.heap.size = w.heap.size + 1) := (by omega); have n1_0 : ¬ (w.heap.size + 1 = w.heap.size) := (by omega); have n0_1 : ¬ (w.heap.size = w.heap.size + 1) := (by omega); have F1_1 := K.ints.ext (show K.ints _ (loEL) (hiEL) (.slice oEL E.L.pw.length cEL) (E.L.pw) from by repeat' (first | with_reducible exact hEL_ | with_reducible refine K.ints.set ?_ _ ?_ _ | with_reducible refine K.ints.alloc ?_ _ | with_reducible refine K.ints.drew ?_ | (dsimp only; omega) | omega | (simp; done) | (simp; omega))) x1; have F2_1 := K.ints.ext (show K.ints _ (loER) (hiER) (.slice oER E.R.pw.length cER) (E.R.pw) from by repeat' (first | with_reducible exact hER_ | with_reducible refine K.ints.set ?_ _ ?_ _ | with_reducible refine K.ints.alloc ?_ _ | with_reducible refine K.ints.drew ?_ | (dsimp only; omega) | omega | (simp; done) | (simp; omega))) x1; clear hEL_ hER_)
    go_wp2_with (go_at_call 121; refine K.call (by with_reducible rfl) (by with_reducible rfl) (HM _ (F1_1) (F2_1)) ?_; rintro e w2 ⟨⟨p2, rfl, g2⟩, x2⟩; obtain ⟨o2, k2, rfl, _⟩ := K.own.ints g2; have F3_2 : K.own w2 (w1.heap.size) (w2.heap.size) (.slice o2 M.1.pw.length k2) (M.1.pw) := g2.mono (by simp) (Nat.le_refl _); clear g2; have s2 : w1.heap.size ≤ w2.heap.size := (by have h_ := x2.size; (try simp at h_); omega); have X2 := K.Ext.trans (X1) x2; obtain ⟨c2_0_0, c2_0_1, c2_0_2, c2_0_3, c2_0_4, c2_0_5, c2_0_6, c2_0_7⟩ := K.c8 x2 (w.heap.size) (.int .i64 E.L.dg) (.int .i64 E.L.tn) (.string E.L.nm) (.slice oEL E.L.pw.length cEL) (.int .i64 E.R.dg) (.int .i64 E.R.tn) (.string E.R.nm) (.slice oER E.R.pw.length cER) (by go_simp); have z2_0 : w.heap.size < w2.heap.size := World.block_lt_of_cell? w2 _ c2_0_0; have d2_0 : ¬ (w.heap.size = w2.heap.size) := (by omega); have e2_0 : ¬ (w2.heap.size = w.heap.size) := (by omega); obtain ⟨c2_1_0, c2_1_1, c2_1_2, c2_1_3⟩ := K.c4 x2 (w.heap.size + 1) (.int .i64 0) (.int .i64 0) (.string ⟨#[]⟩) (.slice none 0 0) (by go_simp); obtain ⟨f2_1_0, f2_1_1, f2_1_2, f2_1_3⟩ := K.f4 x2 (w.heap.size + 1) (by go_simp); have z2_1 : w.heap.size + 1 < w2.heap.size := World.block_lt_of_cell? w2 _ c2_1_0; have d2_1 : ¬ (w.heap.size + 1 = w2.heap.size) := (by omega); have e2_1 : ¬ (w2.heap.size = w.heap.size + 1) := (by omega); have F1_2 := K.ints.ext (F1_1) x2; have F2_2 := K.ints.ext (F2_1) x2; clear c1_0_0 c1_0_1 c1_0_2 c1_0_3 c1_0_4 c1_0_5 c1_0_6 c1_0_7 z1_0 d1_0 e1_0 c1_1_0 c1_1_1 c1_1_2 c1_1_3 f1_1_0 f1_1_1 f1_1_2 f1_1_3 z1_1 d1_1 e1_1 F1_1 F2_1)
    rw [HE.out]
    refine bodyPost_ret (v := .tuple #[.agg #[.int .i64 M.1.dg, .int .i64 M.1.tn, .string M.1.nm, .slice o2 M.1.pw.length k2], .int .i64 M.2]) (by unfold results; rw [Try.results44]; go_simp) rfl ⟨⟨_, rfl, ?_⟩, ?_⟩
    · refine K.own.mono (lo := w1.heap.size) (hi := w2.heap.size) ?_ (by first | omega | (simp; done) | (simp; omega)) (by first | omega | (simp; done) | (simp; omega))
      repeat' (first | with_reducible exact F3_2 | with_reducible refine K.own.set ?_ _ ?_ _ | with_reducible refine K.own.alloc ?_ _ | with_reducible refine K.own.drew ?_ | (dsimp only; omega) | omega | (simp; done) | (simp; omega))
    · repeat with_reducible refine K.Ext.setCell ?_ (by dsimp only; omega) _
      exact (by repeat' (first | with_reducible exact X2 | with_reducible refine K.Ext.setCell ?_ ?_ _ | with_reducible refine K.Ext.alloc ?_ _ | with_reducible refine K.Ext.drew ?_ | (dsimp only; omega) | omega | (simp; omega)))
end Go.Proofs.Ythmnlbgbacbocaa
end
section
namespace Go.Proofs.Ythmnlbgbacbocaa
open Go.RowKit
set_option maxHeartbeats 3200000 in
theorem l20Quotient_any (E : Z.Eqn) {loEL hiEL loER hiER : Nat} {pEL pER : Value} (w : World) (hf : Z.isEquation E = true) (hmEL : E.L.pw.length ≤ 1048576) (hnEL : E.L.nm.size ≤ 1048576) (hmER : E.R.pw.length ≤ 1048576) (hnER : E.R.nm.size ≤ 1048576) (hEL : K.ints w loEL hiEL pEL E.L.pw) (hER : K.ints w loER hiER pER E.R.pw) :
    Calls Try.prog 122 #[.agg #[.int .i64 E.L.dg, .int .i64 E.L.tn, .string E.L.nm, pEL, .int .i64 E.R.dg, .int .i64 E.R.tn, .string E.R.nm, pER]] w fun e w' => (∃ p', e = .returned (.tuple #[.agg #[.int .i64 ((Z.quotient E).1).dg, .int .i64 ((Z.quotient E).1).tn, .string ((Z.quotient E).1).nm, p'], .int .i64 ((Z.quotient E).2)]) ∧ K.ints w' w.heap.size w'.heap.size p' (Z.quotient E).1.pw) ∧ K.Ext w w' := by
  have hEL_ := hEL
  have shEL := hEL
  obtain ⟨oEL, cEL, rfl, _⟩ := shEL
  have hER_ := hER
  have shER := hER
  obtain ⟨oER, cER, rfl, _⟩ := shER
  obtain ⟨hL, hR⟩ := Z.isEquation_parts hf
  obtain ⟨r, hr⟩ : ∃ r, r = Z.raised E.R (-1) := ⟨_, rfl⟩
  have HR : ∀ {lo hi : Nat} {p : Value} (w : World), K.ints w lo hi p E.R.pw → Calls Try.prog 31 #[.agg #[.int .i64 E.R.dg, .int .i64 E.R.tn, .string E.R.nm, p], .int .i64 (-1)] w fun e w' => (∃ p', e = .returned (.tuple #[.agg #[.int .i64 r.1.dg, .int .i64 r.1.tn, .string r.1.nm, p'], .int .i64 r.2]) ∧ K.ints w' w.heap.size w'.heap.size p' r.1.pw) ∧ K.Ext w w' := fun w h => by rw [hr, ← Z.PowerFormula_eq hR (n := -1) ⟨by decide, by decide⟩]; exact spec_PowerFormula E.R (-1) w hmER hnER h
  by_cases hz : r.2 = 0
  · obtain ⟨M, hM⟩ : ∃ M, M = Z.multiplied E.L r.1 := ⟨_, rfl⟩
    have HE : Hid (Z.quotient E = M) := Z.hide (by unfold Z.quotient; rw [← hr, if_pos hz, hM])
    have hG : Z.isFormula r.1 = true := by rw [hr]; exact Z.raised_ok (by rw [← hr]; exact hz)
    have hle : r.1.pw.length ≤ 1048576 ∧ r.1.nm.size ≤ 1048576 := by rw [hr]; exact Z.raised_le _ _
    have HM : ∀ {lo hi lo' hi' : Nat} {p q : Value} (w : World), K.ints w lo hi p E.L.pw → K.ints w lo' hi' q r.1.pw → Calls Try.prog 25 #[.agg #[.int .i64 E.L.dg, .int .i64 E.L.tn, .string E.L.nm, p], .agg #[.int .i64 r.1.dg, .int .i64 r.1.tn, .string r.1.nm, q]] w fun e w' => (∃ p', e = .returned (.tuple #[.agg #[.int .i64 M.1.dg, .int .i64 M.1.tn, .string M.1.nm, p'], .int .i64 M.2]) ∧ K.ints w' w.heap.size w'.heap.size p' M.1.pw) ∧ K.Ext w w' := fun w h h' => by rw [hM, ← Z.MultiplyFormulas_eq hL hG]; exact spec_MultiplyFormulas E.L r.1 w hmEL hnEL h hle.1 hle.2 h'
    clear hr hM hL hR hf hG hle
    have X0 : K.Ext w w := K.Ext.refl w
    go_enter Try.func122, Try.ntmps122
    go_wp2_with (go_at_call 31; refine K.call (by with_reducible rfl) (by with_reducible rfl) (HR _ (K.ints.alloc (K.ints.alloc hER_ _) _)) ?_; rintro e w1 ⟨⟨p1, rfl, g1⟩, x1⟩; obtain ⟨o1, k1, rfl, _⟩ := K.ints.mono g1 (Nat.le_refl _) (Nat.le_refl _); have F3_1 : K.ints w1 (w.heap.size + 2) (w1.heap.size) (.slice o1 r.1.pw.length k1) (r.1.pw) := g1.mono (by simp) (Nat.le_refl _); clear g1; have s1 : w.heap.size + 2 ≤ w1.heap.size := (by have h_ := x1.size; (try simp at h_); omega); have X1 := K.Ext.trans (K.Ext.alloc (K.Ext.alloc X0 _) _) x1; obtain ⟨c1_0_0, c1_0_1, c1_0_2, c1_0_3, c1_0_4, c1_0_5, c1_0_6, c1_0_7⟩ := K.c8 x1 (w.heap.size) (.int .i64 E.L.dg) (.int .i64 E.L.tn) (.string E.L.nm) (.slice oEL E.L.pw.length cEL) (.int .i64 E.R.dg) (.int .i64 E.R.tn) (.string E.R.nm) (.slice oER E.R.pw.length cER) (by go_simp); have z1_0 : w.heap.size < w1.heap.size := World.block_lt_of_cell? w1 _ c1_0_0; have d1_0 : ¬ (w.heap.size = w1.heap.size) := (by omega); have e1_0 : ¬ (w1.heap.size = w.heap.size) := (by omega); obtain ⟨c1_1_0, c1_1_1, c1_1_2, c1_1_3⟩ := K.c4 x1 (w.heap.size + 1) (.int .i64 0) (.int .i64 0) (.string ⟨#[]⟩) (.slice none 0 0) (by go_simp); obtain ⟨f1_1_0, f1_1_1, f1_1_2, f1_1_3⟩ := K.f4 x1 (w.heap.size + 1) (by go_simp); have z1_1 : w.heap.size + 1 < w1.heap.size := World.block_lt_of_cell? w1 _ c1_1_0; have d1_1 : ¬ (w.heap.size + 1 = w1.heap.size) := (by omega); have e1_1 : ¬ (w1.heap.size = w.heap.size + 1) := (by omega); have n1_0 : ¬ (w.heap.size + 1 = w.heap.size) := (by omega); have n0_1 : ¬ (w.heap.size = w.heap.size + 1) := (by omega); have F1_1 := K.ints.ext (K.ints.alloc (K.ints.alloc hEL_ _) _) x1; have F2_1 := K.ints.ext (K.ints.alloc (K.ints.alloc hER_ _) _) x1; clear hEL_ hER_)
    go_wp2_with (go_at_call 25; refine K.call (by with_reducible rfl) (by with_reducible rfl) (HM _ (K.ints.alloc F1_1 _) (K.ints.alloc F3_1 _)) ?_; rintro e w2 ⟨⟨p2, rfl, g2⟩, x2⟩; obtain ⟨o2, k2, rfl, _⟩ := K.ints.mono g2 (Nat.le_refl _) (Nat.le_refl _); have F4_2 : K.ints w2 (w1.heap.size + 1) (w2.heap.size) (.slice o2 M.1.pw.length k2) (M.1.pw) := g2.mono (by simp) (Nat.le_refl _); clear g2; have s2 : w1.heap.size + 1 ≤ w2.heap.size := (by have h_ := x2.size; (try simp at h_); omega); have X2 := K.Ext.trans (K.Ext.alloc X1 _) x2; obtain ⟨c2_0_0, c2_0_1, c2_0_2, c2_0_3, c2_0_4, c2_0_5, c2_0_6, c2_0_7⟩ := K.c8 x2 (w.heap.size) (.int .i64 E.L.dg) (.int .i64 E.L.tn) (.string E.L.nm) (.slice oEL E.L.pw.length cEL) (.int .i64 E.R.dg) (.int .i64 E.R.tn) (.string E.R.nm) (.slice oER E.R.pw.length cER) (by go_simp); have z2_0 : w.heap.size < w2.heap.size := World.block_lt_of_cell? w2 _ c2_0_0; have d2_0 : ¬ (w.heap.size = w2.heap.size) := (by omega); have e2_0 : ¬ (w2.heap.size = w.heap.size) := (by omega); obtain ⟨c2_1_0, c2_1_1, c2_1_2, c2_1_3⟩ := K.c4 x2 (w.heap.size + 1) (.int .i64 0) (.int .i64 0) (.string ⟨#[]⟩) (.slice none 0 0) (by go_simp); obtain ⟨f2_1_0, f2_1_1, f2_1_2, f2_1_3⟩ := K.f4 x2 (w.heap.size + 1) (by go_simp); have z2_1 : w.heap.size + 1 < w2.heap.size := World.block_lt_of_cell? w2 _ c2_1_0; have d2_1 : ¬ (w.heap.size + 1 = w2.heap.size) := (by omega); have e2_1 : ¬ (w2.heap.size = w.heap.size + 1) := (by omega); obtain ⟨c2_2_0, c2_2_1, c2_2_2, c2_2_3⟩ := K.c4 x2 (w1.heap.size) (.int .i64 r.1.dg) (.int .i64 r.1.tn) (.string r.1.nm) (.slice o1 r.1.pw.length k1) (by go_simp); obtain ⟨f2_2_0, f2_2_1, f2_2_2, f2_2_3⟩ := K.f4 x2 (w1.heap.size) (by go_simp); have z2_2 : w1.heap.size < w2.heap.size := World.block_lt_of_cell? w2 _ c2_2_0; have d2_2 : ¬ (w1.heap.size = w2.heap.size) := (by omega); have e2_2 : ¬ (w2.heap.size = w1.heap.size) := (by omega); have n2_0 : ¬ (w1.heap.size = w.heap.size) := (by omega); have n0_2 : ¬ (w.heap.size = w1.heap.size) := (by omega); have n2_1 : ¬ (w1.heap.size = w.heap.size + 1) := (by omega); have n1_2 : ¬ (w.heap.size + 1 = w1.heap.size) := (by omega); have F1_2 := K.ints.ext (K.ints.alloc F1_1 _) x2; have F2_2 := K.ints.ext (K.ints.alloc F2_1 _) x2; have F3_2 := K.ints.ext (K.ints.alloc F3_1 _) x2; clear c1_0_0 c1_0_1 c1_0_2 c1_0_3 c1_0_4 c1_0_5 c1_0_6 c1_0_7 z1_0 d1_0 e1_0 c1_1_0 c1_1_1 c1_1_2 c1_1_3 f1_1_0 f1_1_1 f1_1_2 f1_1_3 z1_1 d1_1 e1_1 F1_1 F2_1 F3_1)
    rw [HE.out]
    refine bodyPost_ret (v := .tuple #[.agg #[.int .i64 M.1.dg, .int .i64 M.1.tn, .string M.1.nm, .slice o2 M.1.pw.length k2], .int .i64 M.2]) (by unfold results; rw [Try.results122]; go_simp) rfl ⟨⟨_, rfl, ?_⟩, ?_⟩
    · refine K.ints.mono (lo := w1.heap.size + 1) (hi := w2.heap.size) ?_ (by first | omega | (simp; done) | (simp; omega)) (by first | omega | (simp; done) | (simp; omega))
      repeat' (first | with_reducible exact F4_2 | with_reducible refine K.ints.set ?_ _ ?_ _ | with_reducible refine K.ints.alloc ?_ _ | with_reducible refine K.ints.drew ?_ | (dsimp only; omega) | omega | (simp; done) | (simp; omega))
    · repeat with_reducible refine K.Ext.setCell ?_ (by dsimp only; omega) _
      exact (by repeat' (first | with_reducible exact X2 | with_reducible refine K.Ext.setCell ?_ ?_ _ | with_reducible refine K.Ext.alloc ?_ _ | with_reducible refine K.Ext.drew ?_ | (dsimp only; omega) | omega | (simp; omega)))
  · have HE : Hid (Z.quotient E = (Z.zeroFm, r.2)) := Z.hide (by unfold Z.quotient; rw [← hr, if_neg hz])
    clear hr hL hR hf
    have X0 : K.Ext w w := K.Ext.refl w
    go_enter Try.func122, Try.ntmps122
    go_wp2_with (go_at_call 31; refine K.call (by with_reducible rfl) (by with_reducible rfl) (HR _ (show K.ints _ (loER) (hiER) (.slice oER E.R.pw.length cER) (E.R.pw) from by repeat' (first | with_reducible exact hER_ | with_reducible refine K.ints.set ?_ _ ?_ _ | with_reducible refine K.ints.alloc ?_ _ | with_reducible refine K.ints.drew ?_ | (dsimp only; omega) | omega | (simp; done) | (simp; omega)))) ?_; rintro e w1 ⟨⟨p1, rfl, g1⟩, x1⟩; obtain ⟨o1, k1, rfl, _⟩ := K.ints.mono g1 (Nat.le_refl _) (Nat.le_refl _); have F3_1 : K.ints w1 (w.heap.size + 2) (w1.heap.size) (.slice o1 r.1.pw.length k1) (r.1.pw) := g1.mono (by simp) (Nat.le_refl _); clear g1; have s1 : w.heap.size + 2 ≤ w1.heap.size := (by have h_ := x1.size; (try simp at h_); omega); have X1 : K.Ext w w1 := K.Ext.trans (by repeat' (first | with_reducible exact X0 | with_reducible refine K.Ext.setCell ?_ ?_ _ | with_reducible refine K.Ext.alloc ?_ _ | with_reducible refine K.Ext.drew ?_ | (dsimp only; omega) | omega | (simp; omega))) x1; obtain ⟨c1_0_0, c1_0_1, c1_0_2, c1_0_3, c1_0_4, c1_0_5, c1_0_6, c1_0_7⟩ := K.c8 x1 (w.heap.size) (.int .i64 E.L.dg) (.int .i64 E.L.tn) (.string E.L.nm) (.slice oEL E.L.pw.length cEL) (.int .i64 E.R.dg) (.int .i64 E.R.tn) (.string E.R.nm) (.slice oER E.R.pw.length cER) (by go_simp); have z1_0 : w.heap.size < w1.heap.size := World.block_lt_of_cell? w1 _ c1_0_0; have d1_0 : ¬ (w.heap.size = w1.heap.size) := (by omega); have e1_0 : ¬ (w1.heap.size = w.heap.size) := (by omega); obtain ⟨c1_1_0, c1_1_1, c1_1_2, c1_1_3⟩ := K.c4 x1 (w.heap.size + 1) (.int .i64 0) (.int .i64 0) (.string ⟨#[]⟩) (.slice none 0 0) (by go_simp); obtain ⟨f1_1_0, f1_1_1, f1_1_2, f1_1_3⟩ := K.f4 x1 (w.heap.size + 1) (by go_simp); have z1_1 : w.heap.size + 1 < w1.heap.size := World.block_lt_of_cell? w1 _ c1_1_0; have d1_1 : ¬ (w.heap.size + 1 = w1.heap.size) := (by omega); have e1_1 : ¬ (w1.heap.size = w.heap.size + 1) := (by omega); have n1_0 : ¬ (w.heap.size + 1 = w.heap.size) := (by omega); have n0_1 : ¬ (w.heap.size = w.heap.size + 1) := (by omega); have F1_1 := K.ints.ext (show K.ints _ (loEL) (hiEL) (.slice oEL E.L.pw.length cEL) (E.L.pw) from by repeat' (first | with_reducible exact hEL_ | with_reducible refine K.ints.set ?_ _ ?_ _ | with_reducible refine K.ints.alloc ?_ _ | with_reducible refine K.ints.drew ?_ | (dsimp only; omega) | omega | (simp; done) | (simp; omega))) x1; have F2_1 := K.ints.ext (show K.ints _ (loER) (hiER) (.slice oER E.R.pw.length cER) (E.R.pw) from by repeat' (first | with_reducible exact hER_ | with_reducible refine K.ints.set ?_ _ ?_ _ | with_reducible refine K.ints.alloc ?_ _ | with_reducible refine K.ints.drew ?_ | (dsimp only; omega) | omega | (simp; done) | (simp; omega))) x1; clear hEL_ hER_)
    rw [HE.out]
    refine bodyPost_ret (v := .tuple #[.agg #[.int .i64 0, .int .i64 0, .string ⟨#[]⟩, .slice none 0 0], .int .i64 r.2]) (by unfold results; rw [Try.results122]; go_simp) rfl ⟨⟨_, rfl, ?_⟩, ?_⟩
    · exact K.ints_nil _ _ _
    · repeat with_reducible refine K.Ext.setCell ?_ (by dsimp only; omega) _
      exact (by repeat' (first | with_reducible exact X1 | with_reducible refine K.Ext.setCell ?_ ?_ _ | with_reducible refine K.Ext.alloc ?_ _ | with_reducible refine K.Ext.drew ?_ | (dsimp only; omega) | omega | (simp; omega)))
end Go.Proofs.Ythmnlbgbacbocaa
end
section
namespace Go.Z
/-- a letter alone is a power, the code known -/
def solveP (P : Fm × Int) (c : Int) : Eqn × Int := if P.2 = 0 then (⟨⟨1000, 0, ⟨#[UInt8.ofNat c.toNat]⟩, [1]⟩, P.1⟩, 0) else (zeroEqn, P.2)
def solveQ (q : Fm) (n c : Int) : Eqn × Int := if n = 0 then (zeroEqn, 4) else if n = 1 ∨ n = -1 then solveP (raised (without q c) (-n)) c else (zeroEqn, 5)
def SolveFor (E : Eqn) (c : Int) : Eqn × Int :=
  if (QuotientFormula E).2 = 0 then solveQ (QuotientFormula E).1 (expo (bs (QuotientFormula E).1.nm) (QuotientFormula E).1.pw c) c else (zeroEqn, (QuotientFormula E).2)
theorem QuotientFormula_ok {E : Eqn} (h : (QuotientFormula E).2 = 0) : isFormula (QuotientFormula E).1 = true := by
  unfold QuotientFormula at h ⊢; split at h
  · rename_i hz; rw [if_pos hz]; exact quotient_ok h
  · simp at h
theorem solveP_le {P : Fm × Int} (c : Int) (hP : P.1.pw.length ≤ 1048576) : (solveP P c).1.L.pw.length ≤ 1048576 ∧ (solveP P c).1.R.pw.length ≤ 1048576 := by
  unfold solveP; split
  · exact ⟨by simp, hP⟩
  · exact ⟨zeroFm_le.1, zeroFm_le.1⟩
theorem SolveFor_le (E : Eqn) (c : Int) : (SolveFor E c).1.L.pw.length ≤ 1048576 ∧ (SolveFor E c).1.R.pw.length ≤ 1048576 := by
  unfold SolveFor; split
  · unfold solveQ; split
    · exact ⟨zeroFm_le.1, zeroFm_le.1⟩
    · split
      · exact solveP_le c (raised_le _ _).1
      · exact ⟨zeroFm_le.1, zeroFm_le.1⟩
  · exact ⟨zeroFm_le.1, zeroFm_le.1⟩
end Go.Z
end
section
namespace Go.Z
theorem dn_step {k : Nat} {n d t : Int} (h : 10000 * d ≤ n) : dn (k + 1) n d t = dn k n (10 * d) (t + 1) := by simp only [dn]; rw [if_pos h]
theorem isFig_iff (d t : Int) : isFig d t = true ↔ (1000 ≤ d ∧ d ≤ 9999) ∧ -30 ≤ t ∧ t ≤ 30 := by simp [isFig]
theorem figure_one {d t : Int} (h : isFig d t = true) : MultiplyFigures (d, t) (1000, 0) = ((d, t), 0) := by
  have hb := (isFig_iff d t).1 h
  have h1 : isFig 1000 0 = true := by decide
  have e1 : dn 12 (d * 1000) 1 (t + 0 - 6 + 3) = (1000, t) := by
    rw [show (12 : Nat) = 9 + 1 + 1 + 1 from rfl, dn_step (by omega), dn_step (by omega), dn_step (by omega), dn_end (by omega)]
    refine Prod.ext ?_ ?_
    · dsimp only; omega
    · dsimp only; omega
  have e2 : up 12 (d * 1000) 1000 t = (d * 1000, t) := up_end (by omega)
  have e3 : nr (d * 1000) 1000 = d := by
    unfold nr fl
    have : (2 * (d * 1000) + 1000) = 1000 + d * (2 * 1000) := by omega
    rw [this, Int.add_mul_fdiv_right _ _ (by decide)]
    have : (1000 : Int).fdiv (2 * 1000) = 0 := by decide
    omega
  have e4 : round (d * 1000) 1 (t + 0 - 6) = (d, t) := by
    unfold round
    rw [e1]
    dsimp only
    rw [e2]
    unfold fin
    dsimp only
    rw [e3, if_neg (by omega)]
  unfold MultiplyFigures
  dsimp only
  rw [h, h1, e4]
  unfold figOr
  dsimp only
  rw [h]; rfl
set_option maxHeartbeats 800000 in
theorem split_law {F : Fm} {c : Int} (hc : 0 ≤ c ∧ c ≤ 255) (h : (SplitPower F c).2.2 = 0) :
    isFormula F = true ∧ MultiplyFormulas (SplitPower F c).1 (stepFm c (SplitPower F c).2.1) = (F, 0) ∧ ExponentOf (SplitPower F c).1 c = (0, 0) := by
  have hF : isFormula F = true := by
    unfold SplitPower at h
    cases hF : isFormula F
    · rw [hF] at h; simp at h
    · rfl
  have hx : expo (bs F.nm) F.pw c ≠ 0 := by
    intro h0
    unfold SplitPower at h
    rw [hF, if_pos rfl, if_pos h0] at h
    simp at h
  have hx' : ex F c ≠ 0 := hx
  have e : SplitPower F c = (without F c, ex F c, 0) := by
    unfold SplitPower
    rw [hF, if_pos rfl, if_neg hx]; rfl
  have hl := ex_letter hF hx'
  have hb := ex_bd hF c
  rw [e]
  dsimp only
  have hw := without_ok hF c
  have exw : ∀ x : Int, ex (without F c) x = if 97 ≤ x ∧ x ≤ 122 then (if x = c then 0 else ex F x) else 0 := fun x => by
    show expo (bs (made F.dg F.tn (withF F c) 26).nm) (made F.dg F.tn (withF F c) 26).pw x = _
    rw [expo_made]
    by_cases h1 : 97 ≤ x ∧ x ≤ 122
    · rw [if_pos h1, if_pos h1]
      unfold withF
      have : 97 + ((x - 97).toNat : Int) = x := by omega
      rw [this]; rfl
    · rw [if_neg h1, if_neg h1]
  have hs : isFormula (stepFm c (ex F c)) = true := by
    have hbn : bs (stepFm c (ex F c)).nm = [c] := by
      have h1 : (UInt8.ofNat c.toNat).toNat = c.toNat := by simp; omega
      simp only [stepFm, bs, List.map_cons, List.map_nil]
      rw [h1]; congr 1; omega
    have hsz : (stepFm c (ex F c)).nm.size = 1 := rfl
    unfold isFormula
    rw [hsz, hbn]
    have h2 : List.range 1 = [0] := rfl
    rw [h2]
    have hd : decide (-6 ≤ ex F c) = true := by simpa using hb.1
    have hd2 : decide (ex F c ≤ 6) = true := by simpa using hb.2
    have ho : okAt [c] [ex F c] 0 = true := by
      unfold okAt
      simp [hx', hb.1, hb.2]
      omega
    show (isFig 1000 0 && decide ((1 : Nat) ≤ 6) && ([ex F c].length == 1) && [0].all (okAt [c] [ex F c])) = true
    simp [ho]
    decide
  have hm : multiplied (without F c) (stepFm c (ex F c)) = (F, 0) := by
    unfold multiplied
    have hfig : isFig F.dg F.tn = true := by
      unfold isFormula at hF
      simp only [Bool.and_eq_true] at hF
      exact hF.1.1.1
    have a1 : (without F c).dg = F.dg := by simp only [without, made]
    have a2 : (without F c).tn = F.tn := by simp only [without, made]
    have a3 : (stepFm c (ex F c)).dg = 1000 := by simp only [stepFm]
    have a4 : (stepFm c (ex F c)).tn = 0 := by simp only [stepFm]
    rw [a1, a2, a3, a4, figure_one hfig]
    dsimp only
    rw [if_pos rfl]
    have e2 : made F.dg F.tn (sumF (without F c) (stepFm c (ex F c))) 26 = F := by
      conv => rhs; rw [← made_self hF]
      apply made_congr
      intro i hi
      show ex (without F c) (97 + (i : Int)) + ex (stepFm c (ex F c)) (97 + (i : Int)) = ex F (97 + (i : Int))
      rw [exw, stepFm_ex _ _ _ hc, if_pos (by omega)]
      by_cases h1 : 97 + (i : Int) = c
      · rw [if_pos h1, if_pos h1, h1]; omega
      · rw [if_neg h1, if_neg h1]; omega
    unfold madeOr
    rw [e2, if_pos hF]
  refine ⟨hF, ?_, ?_⟩
  · unfold MultiplyFormulas
    rw [hw, hs]
    exact hm
  · unfold ExponentOf
    rw [hw, if_pos rfl]
    have := exw c
    rw [if_pos hl, if_pos rfl] at this
    show (ex (without F c) c, (0 : Int)) = (0, 0)
    rw [this]
theorem SolveFor_nm (E : Eqn) (c : Int) : (SolveFor E c).1.L.nm.size ≤ 1048576 ∧ (SolveFor E c).1.R.nm.size ≤ 1048576 := by
  have hz : zeroEqn.L.nm.size ≤ 1048576 ∧ zeroEqn.R.nm.size ≤ 1048576 := ⟨zeroFm_le.2, zeroFm_le.2⟩
  unfold SolveFor; split
  · unfold solveQ; split
    · exact hz
    · split
      · unfold solveP; split
        · exact ⟨by show (1 : Nat) ≤ 1048576; decide, (raised_le _ _).2⟩
        · exact hz
      · exact hz
  · exact hz
theorem more_law {E : Eqn} {N : ByteArray} {vs : List (Int × Int)} {u : Int} (h : (CheckValues E N vs u).2 = 0) (hu : u < 1048576) :
    (CheckValues E N vs (u + 1)).2 = 0 ∧ ((CheckValues E N vs u).1 = true → (CheckValues E N vs (u + 1)).1 = true) := by
  unfold CheckValues at h ⊢
  by_cases h1 : checked E N vs = true
  · rw [if_pos h1] at h ⊢
    rw [if_pos h1]
    by_cases h2 : 0 ≤ u ∧ u ≤ 1048576
    · rw [if_pos h2] at h ⊢
      rw [if_pos (by omega)]
      by_cases h3 : ((valuesFor E.L N vs).2 && (valuesFor E.R N vs).2) = true
      · rw [if_pos h3] at h ⊢
        rw [if_pos h3]
        refine ⟨rfl, fun hm => ?_⟩
        dsimp only at hm ⊢
        unfold meets at hm ⊢
        simp only [Bool.and_eq_true, decide_eq_true_eq] at hm ⊢
        omega
      · rw [if_neg h3] at h; simp at h
    · rw [if_neg h2] at h; simp at h
  · rw [if_neg h1] at h; simp at h
theorem solved_law {E : Eqn} {c : Int} (hc : 0 ≤ c ∧ c ≤ 255) (h : (SolveFor E c).2 = 0) : IsSolvedFor (SolveFor E c).1 c = (true, 0) := by
  unfold SolveFor at h ⊢
  by_cases h1 : (QuotientFormula E).2 = 0
  · rw [if_pos h1] at h ⊢
    have hq := QuotientFormula_ok h1
    generalize (QuotientFormula E).1 = q at *
    obtain ⟨n, hn⟩ : ∃ n, n = expo (bs q.nm) q.pw c := ⟨_, rfl⟩
    rw [← hn] at h ⊢
    unfold solveQ at h ⊢
    by_cases h2 : n = 0
    · rw [if_pos h2] at h; simp at h
    · rw [if_neg h2] at h ⊢
      by_cases h3 : n = 1 ∨ n = -1
      · rw [if_pos h3] at h ⊢
        unfold solveP at h ⊢
        by_cases h4 : (raised (without q c) (-n)).2 = 0
        · rw [if_pos h4] at h ⊢
          dsimp only
          have hx : ex q c ≠ 0 := by
            show expo (bs q.nm) q.pw c ≠ 0
            rw [← hn]; exact h2
          have hl := ex_letter hq hx
          have hR := raised_ok h4
          have hbn : bs (⟨#[UInt8.ofNat c.toNat]⟩ : ByteArray) = [c] := by
            have h1 : (UInt8.ofNat c.toNat).toNat = c.toNat := by simp; omega
            simp only [bs, List.map_cons, List.map_nil]
            rw [h1]; congr 1; omega
          have hL : isFormula ⟨1000, 0, ⟨#[UInt8.ofNat c.toNat]⟩, [1]⟩ = true := by
            unfold isFormula
            have ho : okAt [c] [1] 0 = true := by
              unfold okAt
              simp
              omega
            show (isFig 1000 0 && decide ((1 : Nat) ≤ 6) && (([1] : List Int).length == 1) && (List.range 1).all (okAt (bs (⟨#[UInt8.ofNat c.toNat]⟩ : ByteArray)) [1])) = true
            rw [hbn]
            have h2 : List.range 1 = [0] := rfl
            rw [h2]
            simp [ho]
            decide
          have hxr : ex (raised (without q c) (-n)).1 c = 0 := by
            obtain ⟨i, hi⟩ : ∃ i : Nat, c = 97 + (i : Int) := ⟨(c - 97).toNat, by omega⟩
            have := raised_ex h4 i (by omega)
            rw [← hi] at this
            rw [this]
            have e0 : ex (without q c) c = 0 := by
              show expo (bs (made q.dg q.tn (withF q c) 26).nm) (made q.dg q.tn (withF q c) 26).pw c = 0
              rw [expo_made, if_pos hl]
              unfold withF
              rw [if_pos (by omega)]
            rw [e0]; omega
          unfold IsSolvedFor
          have hE : isEquation ⟨⟨1000, 0, ⟨#[UInt8.ofNat c.toNat]⟩, [1]⟩, (raised (without q c) (-n)).1⟩ = true := by
            unfold isEquation; rw [hL, hR]; rfl
          rw [if_pos hE]
          have hs : solved ⟨⟨1000, 0, ⟨#[UInt8.ofNat c.toNat]⟩, [1]⟩, (raised (without q c) (-n)).1⟩ c = true := by
            unfold solved
            dsimp only
            rw [hbn]
            have : expo (bs (raised (without q c) (-n)).1.nm) (raised (without q c) (-n)).1.pw c = 0 := hxr
            rw [this]
            simp [fig1, expo]
            rfl
          rw [hs]
        · rw [if_neg h4] at h; exact absurd h h4
      · rw [if_neg h3] at h; simp at h
  · rw [if_neg h1] at h; exact absurd h h1
end Go.Z
end
