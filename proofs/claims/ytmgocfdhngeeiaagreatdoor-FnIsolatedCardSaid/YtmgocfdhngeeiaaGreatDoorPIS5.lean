/-
  Part 5 of the texts of this claim: contracts of functions and plain mathematics.
-/
import Derived.Test.YtmgocfdhngeeiaaGreatDoorPIS4
import Derived.Lib.Atoi
import Derived.Lib.ItoaNum
import Derived.Lib.ParseIntB
import Derived.Lib.CountLaws
import Derived.Lib.IndexBytes
import Derived.Lib.Split
import Derived.Lib.SplitLaws
import Derived.Lib.Join
import Derived.Deep.DrawnRows
import Derived.StillTactics
import Derived.WalkSpells
set_option linter.unusedVariables false
section
namespace Go.K
open Go Go.RowKit
/-- What the operations of a region may do to the world; blocks from B on stay. -/
structure Rel where
  r : World → World → Prop
  re : ∀ a, r a a
  tr : ∀ a b c, r a b → r b c → r a c
  ext : ∀ a b, Ext a b → r a b
  sz : ∀ a b, r a b → a.heap.size ≤ b.heap.size
  B : Nat
  keep : ∀ a b k o, r a b → B ≤ k → a.heap[k]? = some o → b.heap[k]? = some o
def RE : Rel := ⟨Ext, Ext.refl, fun _ _ _ h k => h.trans k, fun _ _ h => h, fun _ _ h => h.size, 0, fun _ _ _ _ h _ hk => h.block hk⟩
/-- the block that a value points to -/
def blk : Value → Option Nat
  | .pointer (some a) => some a.block
  | .slice (some a) _ _ => some a.block
  | _ => none
/-- A predicate on a value that stays; nw: the value is a new block's. -/
structure SQ (R : Rel) where
  p : Value → World → Prop
  st : ∀ v a b, R.r a b → p v a → p v b
  nw : Bool
  lt : nw = true → ∀ v w, p v w → ∃ g, blk v = some g ∧ g < w.heap.size
def SQ.any {R : Rel} : SQ R := ⟨fun _ _ => True, fun _ _ _ _ _ => trivial, false, fun h => by cases h⟩
def SQ.is {R : Rel} (c : Value) : SQ R := ⟨fun v _ => v = c, fun _ _ _ _ h => h, false, fun h => by cases h⟩
def SQ.of (s : SP) : SQ RE := ⟨s.p, s.st, false, fun h => by cases h⟩
def SQ.of' {R : Rel} (p : Value → World → Prop) (st : ∀ v a b, R.r a b → p v a → p v b) : SQ R := ⟨p, st, false, fun h => by cases h⟩
def NewB (B : Nat) (f : Nat → Value) (o : Obj) (v : Value) (w : World) : Prop := ∃ h, v = f h ∧ B ≤ h ∧ w.heap[h]? = some o
def ptrAt (h : Nat) : Value := .pointer (some ⟨h, 0, none⟩)
def slAt (n : Nat) (h : Nat) : Value := .slice (some ⟨h, 0, none⟩) n n
def SQ.newB {R : Rel} (B : Nat) (f : Nat → Value) (hf : ∀ h, blk (f h) = some h) (hB : R.B ≤ B) (o : Obj) : SQ R :=
  ⟨NewB B f o, fun _ _ _ hx ⟨h, hv, hb, hk⟩ => ⟨h, hv, hb, R.keep _ _ _ _ hx (by omega) hk⟩, true, fun _ v w ⟨h, hv, _, hk⟩ => ⟨h, by rw [hv]; exact hf h, (Array.getElem?_eq_some_iff.1 hk).1⟩⟩
def SQ.new {R : Rel} (B : Nat) (hB : R.B ≤ B) (o : Obj) : SQ R := SQ.newB B ptrAt (fun _ => rfl) hB o
def SQ.sl {R : Rel} (n B : Nat) (hB : R.B ≤ B) (o : Obj) : SQ R := SQ.newB B (slAt n) (fun _ => rfl) hB o
variable {R : Rel}
def qvals (vs : List (SQ R)) (i : Nat) (v : Value) (w : World) : Prop := (vs.getD i SQ.any).p v w
def qD (vs : List (SQ R)) (i j : Nat) (u v : Value) : Prop := (vs.getD i SQ.any).nw = true → (vs.getD j SQ.any).nw = true → blk u ≠ blk v
theorem qApart (vs : List (SQ R)) {k : Nat} (h : (vs.getD k SQ.any).nw = false) (w : World) (v : Value) : K2.Apart (qvals vs) (qD vs) k w v :=
  fun j u _ _ => ⟨fun _ h2 => absurd (h.symm.trans h2) (by decide), fun h1 _ => absurd (h.symm.trans h1) (by decide)⟩
theorem qApart_new (vs : List (SQ R)) {k : Nat} {w : World} {v : Value} (hv : blk v = some w.heap.size) : K2.Apart (qvals vs) (qD vs) k w v := by
  intro j u hj hu
  have key : (vs.getD j SQ.any).nw = true → blk u ≠ blk v := fun h1 => by
    obtain ⟨g, hg, hl⟩ := (vs.getD j SQ.any).lt h1 u w hu
    rw [hg, hv]
    intro e
    cases e
    omega
  exact ⟨fun h1 _ => key h1, fun _ h2 => fun e => key h2 e.symm⟩
/-- (a structure: so no step evaluates the rest of the walk) -/
structure WalkY (P : Program) (ops : Array Oper) (W : World) (ks : List Nat) (vs : List (SQ R)) (T : Act → World → Prop) (k : Nat) (l : List Oper) (s : Nat → Option Value) (a : Act) (w : World) : Prop where
  out : K2.Walk P ops (fun _ => True) R.r W (qvals vs) (qD vs) (fun i => ks.getD i 0) T k l s a w
theorem wp_region_y {P : Program} {id : Nat} {Q : Exit → Act → World → Prop} {a : Act} {w : World} {l : List Oper} (m : Nat) (ks : List Nat) (vs : List (SQ R))
    (hm : P.follows .mixedOrders = true) (hB : K2.ordB l m (fun i => ks.getD i 0) = true)
    (h : WalkY P l.toArray w.drew ks vs (fun a w => wpList P l.toArray (NoPanic Q) (l.drop m) a w) 0 (l.take m) (fun _ => none) a w.drew) : (Code.region id l.toArray true).wp P Q a w :=
  wp_region_noPanic (K2.wp_region_ord m ks (fun _ => True) R.r (qvals vs) (qD vs) hm hB R.re R.tr (fun i v a b hx hv => (vs.getD i SQ.any).st v a b hx hv) (fun _ _ _ _ h => h) trivial h.out)
section steps
variable {P : Program} {ops : Array Oper} {W : World} {ks : List Nat} {vs : List (SQ R)} {T : Act → World → Prop} {k : Nat} {o : Oper} {rest : List Oper} {s : Nat → Option Value} {a : Act} {w : World}
theorem y_skip (hw : Region.wanted o (yielded ops a.tmps) = false) (h : WalkY P ops W ks vs T (k + 1) rest (upd s k none) (a.put o.dst undef) w) : WalkY P ops W ks vs T k (o :: rest) s a w := ⟨K2.Walk.skip hw h.out⟩
theorem y_pure {v : Value} (hw : Region.wanted o (yielded ops a.tmps) = true) (hk : ks.getD k 0 = 0) (h1 : ∀ w', (execOp a.eval o).run P w' = .ok (.value v) w')
    (h : WalkY P ops W ks vs T (k + 1) rest (upd s k (some v)) (a.put o.dst v) w) : WalkY P ops W ks vs T k (o :: rest) s a w := ⟨K2.Walk.pure hw hk h1 h.out⟩
theorem y_held {v : Value} (hw : Region.wanted o (yielded ops a.tmps) = true) (hk : ks.getD k 0 = 1) (h1 : ∀ w', R.r W w' → (execOp a.eval o).run P w' = .ok (.value v) w')
    (h : WalkY P ops W ks vs T (k + 1) rest (upd s k (some v)) (a.put o.dst v) w) : WalkY P ops W ks vs T k (o :: rest) s a w := ⟨K2.Walk.held hw hk (fun w' _ hx => h1 w' hx) h.out⟩
/-- A call. -/
theorem y_call {f : FuncId} {args : Array Value} (hw : Region.wanted o (yielded ops a.tmps) = true) (hk : ks.getD k 0 = 2) (hn : (vs.getD k SQ.any).nw = false) (hrun : ∀ w', (execOp a.eval o).run P w' = .ok (.enter f args) w')
    (hcall : ∀ w', R.r W w' → (∀ j v, edge o j = true → ks.getD j 0 = 2 → s j = some v → qvals vs j v w') → Calls P f args w' fun e w'' => ∃ v, e = .returned v ∧ R.r w' w'' ∧ qvals vs k v w'')
    (h : ∀ v w', R.r w w' → qvals vs k v w' → WalkY P ops W ks vs T (k + 1) rest (upd s k (some v)) (a.put o.dst v) w') : WalkY P ops W ks vs T k (o :: rest) s a w :=
  ⟨K2.Walk.told hw hk (fun w' _ hx hp => by rw [hrun]; exact (hcall w' hx hp).mono fun e w'' ⟨v, he, hx', hv⟩ => ⟨v, he, trivial, hx', hv, qApart vs hn _ _⟩) (fun v w' _ hx hv _ => (h v w' hx hv).out)⟩
/-- A call whose value is known. -/
theorem y_call_is {f : FuncId} {args : Array Value} {c : Value} (hw : Region.wanted o (yielded ops a.tmps) = true) (hk : ks.getD k 0 = 2) (hvs : vs.getD k SQ.any = SQ.is c) (hrun : ∀ w', (execOp a.eval o).run P w' = .ok (.enter f args) w')
    (hcall : ∀ w', R.r W w' → (∀ j v, edge o j = true → ks.getD j 0 = 2 → s j = some v → qvals vs j v w') → Calls P f args w' fun e w'' => e = .returned c ∧ R.r w' w'')
    (h : ∀ w', R.r w w' → WalkY P ops W ks vs T (k + 1) rest (upd s k (some c)) (a.put o.dst c) w') : WalkY P ops W ks vs T k (o :: rest) s a w :=
  y_call hw hk (by rw [hvs]; rfl) hrun (fun w' hx hp => (hcall w' hx hp).mono fun e w'' ⟨he, hx'⟩ => ⟨c, he, hx', by unfold qvals; rw [hvs]; rfl⟩)
    (fun v w' hx hv => by unfold qvals at hv; rw [hvs] at hv; obtain rfl : v = c := hv; exact h w' hx)
/-- A new block. -/
theorem y_newB {B : Nat} {f : Nat → Value} {hf : ∀ h, blk (f h) = some h} {hR : R.B ≤ B} {ob : Obj} (hw : Region.wanted o (yielded ops a.tmps) = true) (hk : ks.getD k 0 = 2) (hvs : vs.getD k SQ.any = SQ.newB B f hf hR ob) (hB : B ≤ W.heap.size)
    (hrun : ∀ w', (execOp a.eval o).run P w' = .ok (.value (f w'.heap.size)) (w'.alloc ob))
    (h : ∀ g w', R.r w w' → B ≤ g → w'.heap[g]? = some ob → (∀ j u, j < k → ks.getD j 0 = 2 → s j = some u → (vs.getD j SQ.any).nw = true → blk u ≠ some g) → WalkY P ops W ks vs T (k + 1) rest (upd s k (some (f g))) (a.put o.dst (f g)) w') :
    WalkY P ops W ks vs T k (o :: rest) s a w :=
  ⟨K2.Walk.told hw hk (fun w' _ hx hp => by
      rw [hrun]
      refine ⟨trivial, R.ext _ _ ((Ext.refl _).alloc _), ?_, qApart_new vs (hf _)⟩
      unfold qvals; rw [hvs]
      exact ⟨w'.heap.size, rfl, Nat.le_trans hB (R.sz _ _ hx), by show (w'.heap.push ob)[w'.heap.size]? = some ob; simp⟩)
    (fun v w' _ hx hv hd => by
      unfold qvals at hv; rw [hvs] at hv; obtain ⟨g, rfl, hB, hb⟩ := hv
      exact (h g w' hx hB hb (fun j u hj hkj hu hn => by
        have h1 := hd j u hj hkj hu hn (by rw [hvs]; rfl)
        rwa [hf g] at h1)).out)⟩
theorem y_newsl {n B : Nat} {ob : Obj} (hR : R.B ≤ B) (hw : Region.wanted o (yielded ops a.tmps) = true) (hk : ks.getD k 0 = 2) (hvs : vs.getD k SQ.any = SQ.sl n B hR ob) (hB : B ≤ W.heap.size)
    (hrun : ∀ w', (execOp a.eval o).run P w' = .ok (.value (.slice (some ⟨w'.heap.size, 0, none⟩) n n)) (w'.alloc ob))
    (h : ∀ g w', R.r w w' → B ≤ g → w'.heap[g]? = some ob → (∀ j u, j < k → ks.getD j 0 = 2 → s j = some u → (vs.getD j SQ.any).nw = true → blk u ≠ some g) → WalkY P ops W ks vs T (k + 1) rest (upd s k (some (.slice (some ⟨g, 0, none⟩) n n))) (a.put o.dst (.slice (some ⟨g, 0, none⟩) n n)) w') :
    WalkY P ops W ks vs T k (o :: rest) s a w := y_newB (f := slAt n) (hf := fun _ => rfl) hw hk hvs hB hrun h
theorem y_done (h : ∀ w', R.r w w' → T a w') : WalkY P ops W ks vs T k [] s a w := ⟨K2.Walk.done fun w' _ hx => h w' hx⟩
end steps
end Go.K
end
section
namespace Go.Z
/-- a string out of bytes -/
def str (l : List UInt8) : ByteArray := ⟨l.toArray⟩
theorem str_bytes (l : List UInt8) : (str l).data.toList = l := by simp [str]
theorem str_inj {a b : List UInt8} (h : str a = str b) : a = b := by
  rw [← str_bytes a, h, str_bytes]
theorem str_list (s : ByteArray) : str s.data.toList = s := by cases s; simp [str]
theorem str_size (l : List UInt8) : (str l).size = l.length := by simp [str, ByteArray.size]
theorem bytes_length (s : ByteArray) : s.data.toList.length = s.size := by rw [Array.length_toList]; rfl
theorem str_append (a b : List UInt8) : str a ++ str b = str (a ++ b) := by
  apply ByteArray.ext
  rw [ByteArray.data_append]
  simp [str]
theorem append_bytes (a b : ByteArray) : (a ++ b).data.toList = a.data.toList ++ b.data.toList := by
  rw [ByteArray.data_append]; simp
/-- a number in decimal -/
def dec (n : Int) : ByteArray := str (Lib.itoa n)
theorem digit_of {u : Nat} (h : u < 10) : Lib.digitVal (UInt8.ofNat (48 + u)) = some u := by
  have e : (UInt8.ofNat (48 + u)).toNat = 48 + u := by simp; omega
  unfold Lib.digitVal
  rw [e, if_pos (by omega)]
  congr 1; omega
theorem decFrom_append : ∀ (a b : List UInt8) (n : Nat), Lib.decFrom n (a ++ b) = (Lib.decFrom n a).bind fun m => Lib.decFrom m b
  | [], b, n => by simp [Lib.decFrom]
  | x :: a, b, n => by
    simp only [List.cons_append, Lib.decFrom]
    cases Lib.digitVal x with
    | none => rfl
    | some d => exact decFrom_append a b _
theorem decFrom_digits (u : Nat) : Lib.decFrom 0 (Lib.decDigits u) = some u := by
  induction u using Nat.strongRecOn with
  | _ u ih =>
    by_cases h : u < 10
    · rw [Lib.decDigits_one h]
      simp only [Lib.decFrom, digit_of h]
      simp
    · rw [Lib.decDigits, dif_neg h, decFrom_append, ih (u / 10) (by omega)]
      simp only [Option.bind_some, Lib.decFrom, digit_of (Nat.mod_lt u (by decide : 0 < 10))]
      congr 1; omega
theorem decDigits_digit (u : Nat) : ∀ b ∈ Lib.decDigits u, 48 ≤ b.toNat ∧ b.toNat ≤ 57 := by
  induction u using Nat.strongRecOn with
  | _ u ih =>
    intro b hb
    have e : ∀ k, k < 10 → (UInt8.ofNat (48 + k)).toNat = 48 + k := fun k hk => by simp; omega
    by_cases h : u < 10
    · rw [Lib.decDigits_one h] at hb
      obtain rfl : b = UInt8.ofNat (48 + u) := by simpa using hb
      rw [e u h]; omega
    · rw [Lib.decDigits, dif_neg h] at hb
      rcases List.mem_append.1 hb with hb | hb
      · exact ih (u / 10) (by omega) b hb
      · obtain rfl : b = UInt8.ofNat (48 + u % 10) := by simpa using hb
        rw [e _ (Nat.mod_lt _ (by decide))]
        have := Nat.mod_lt u (by decide : 0 < 10)
        omega
theorem nDigits_le : ∀ (k u : Nat), u < 10 ^ (k + 1) → Lib.nDigits u ≤ k + 1
  | 0, u, h => by rw [Lib.nDigits_small (by simpa using h)]; exact Nat.le_refl _
  | k + 1, u, h => by
    by_cases h10 : u < 10
    · rw [Lib.nDigits_small h10]; omega
    · rw [Lib.nDigits_big h10]
      have := nDigits_le k (u / 10) (by rw [Nat.pow_succ] at h; omega)
      omega
theorem decDigits_ne (u : Nat) : Lib.decDigits u ≠ [] := by
  have := Lib.decDigits_length u
  have h1 := Lib.nDigits_pos u
  intro h
  rw [h] at this
  simp at this; omega
theorem decDigits_le {u k : Nat} (h : u < 10 ^ (k + 1)) : (Lib.decDigits u).length ≤ k + 1 := by rw [Lib.decDigits_length]; exact nDigits_le k u h
theorem itoa_nat (u : Nat) : Lib.itoa (u : Int) = Lib.decDigits u := by
  unfold Lib.itoa
  rw [if_neg (by omega)]; simp
theorem itoa_neg {u : Nat} (h : 0 < u) : Lib.itoa (-(u : Int)) = 45 :: Lib.decDigits u := by
  unfold Lib.itoa
  rw [if_pos (by omega)]; simp
theorem int_cases (n : Int) : (∃ u : Nat, n = u) ∨ ∃ u : Nat, 0 < u ∧ n = -(u : Int) := by
  rcases Int.lt_or_le n 0 with h | h
  · exact .inr ⟨n.natAbs, by omega, by omega⟩
  · exact .inl ⟨n.toNat, by omega⟩
theorem itoa_byte (n : Int) : ∀ b ∈ Lib.itoa n, b = 45 ∨ (48 ≤ b.toNat ∧ b.toNat ≤ 57) := by
  rcases int_cases n with ⟨u, rfl⟩ | ⟨u, hu, rfl⟩
  · rw [itoa_nat]; exact fun b hb => .inr (decDigits_digit u b hb)
  · rw [itoa_neg hu]
    intro b hb
    rcases List.mem_cons.1 hb with h | h
    · exact .inl h
    · exact .inr (decDigits_digit u b h)
theorem itoa_len {n : Int} (h : -9223372036854775808 ≤ n) (h' : n ≤ 9223372036854775807) : 1 ≤ (Lib.itoa n).length ∧ (Lib.itoa n).length ≤ 20 := by
  have key : ∀ u : Nat, u ≤ 9223372036854775808 → 1 ≤ (Lib.decDigits u).length ∧ (Lib.decDigits u).length ≤ 19 := fun u hu =>
    ⟨List.length_pos_iff.2 (decDigits_ne u), decDigits_le (k := 18) (by omega)⟩
  rcases int_cases n with ⟨u, rfl⟩ | ⟨u, hu, rfl⟩
  · rw [itoa_nat]; have := key u (by omega); omega
  · rw [itoa_neg hu]; have := key u (by omega); simp only [List.length_cons]; omega
theorem dec_size {n : Int} (h : -9223372036854775808 ≤ n) (h' : n ≤ 9223372036854775807) : 1 ≤ (dec n).size ∧ (dec n).size ≤ 20 := by
  unfold dec; rw [str_size]; exact itoa_len h h'
theorem decFrom_ge : ∀ (l : List UInt8) (a u : Nat), Lib.decFrom a l = some u → a ≤ u
  | [], a, u, h => by simp only [Lib.decFrom, Option.some.injEq] at h; omega
  | c :: l, a, u, h => by
    simp only [Lib.decFrom] at h
    cases hc : Lib.digitVal c with
    | none => rw [hc] at h; cases h
    | some d => rw [hc] at h; have := decFrom_ge l _ u h; omega
theorem parseUintM_of : ∀ (l : List UInt8) (M a u : Nat), M < 18446744073709551616 → Lib.decFrom a l = some u → u ≤ M → Lib.parseUintM M a l = .ok u
  | [], M, a, u, hM, h, hu => by simp only [Lib.decFrom, Option.some.injEq] at h; rw [h]; rfl
  | c :: l, M, a, u, hM, h, hu => by
    simp only [Lib.decFrom] at h
    cases hc : Lib.digitVal c with
    | none => rw [hc] at h; cases h
    | some d =>
      rw [hc] at h
      have hd : (48 ≤ c.toNat ∧ c.toNat ≤ 57) ∧ c.toNat - 48 = d := by
        unfold Lib.digitVal at hc
        split at hc
        · exact ⟨by assumption, Option.some.inj hc⟩
        · cases hc
      have hge := decFrom_ge l _ u h
      simp only [Lib.parseUintM]
      rw [if_pos hd.1, if_neg (by omega), hd.2, if_neg (by omega)]
      exact parseUintM_of l M _ u hM h hu
theorem parse_digits (u : Nat) (h : u < 18446744073709551616) : Lib.parseUintB 64 (Lib.decDigits u) = .ok u := by
  unfold Lib.parseUintB
  rw [if_neg (decDigits_ne u)]
  exact parseUintM_of _ _ 0 u (by decide) (decFrom_digits u) (by omega)
/-- what is written in decimal is read again -/
theorem parse_itoa {n : Int} (h : -9223372036854775808 ≤ n) (h' : n ≤ 9223372036854775807) : Lib.parseIntB 64 (Lib.itoa n) = .ok n := by
  rcases int_cases n with ⟨u, rfl⟩ | ⟨u, hu, rfl⟩
  · rw [itoa_nat]
    obtain ⟨c, r, hc⟩ := List.exists_cons_of_ne_nil (decDigits_ne u)
    have hd := decDigits_digit u c (by rw [hc]; simp)
    have hp := parse_digits u (by omega)
    rw [hc] at hp ⊢
    unfold Lib.parseIntB
    simp only
    rw [if_neg (by omega), hp]
    simp only
    rw [if_neg (by have : ¬ (2 ^ (64 - 1) ≤ u) := by omega
                   exact fun x => this x.2), if_neg (fun x => by omega), if_neg (by omega)]
  · rw [itoa_neg hu]
    have hp := parse_digits u (by omega)
    unfold Lib.parseIntB
    simp only
    rw [if_pos (.inr (by decide)), hp]
    simp only
    rw [if_neg (fun x => x.1 (by decide)), if_neg (by have : ¬ (2 ^ (64 - 1) < u) := by omega
                                                      exact fun x => this x.2), if_pos (by decide)]
/-- the reference's reading of a number of at most thirteen digits -/
def value (l : List UInt8) : Int × Bool :=
  if 1 ≤ l.length ∧ l.length ≤ 13 then
    match Lib.decFrom 0 l with
    | some u => ((u : Int), decide (Lib.decDigits u = l))
    | none => (0, false)
  else (0, false)
def signed (l : List UInt8) : Int × Bool :=
  if l.head? = some 45 then (-(value l.tail).1, (value l.tail).2 && decide (0 < (value l.tail).1)) else value l
theorem value_bound (l : List UInt8) : 0 ≤ (value l).1 ∧ (value l).1 < 10000000000000 := by
  unfold value
  split
  · rename_i hl
    split
    · rename_i u hu
      have := Lib.decFrom_lt l 0 u hu
      have h13 : 10 ^ l.length ≤ 10 ^ 13 := Nat.pow_le_pow_right (by decide) hl.2
      have : u < 10 ^ 13 := by omega
      exact ⟨Int.natCast_nonneg _, by simp only; omega⟩
    · simp
  · simp
theorem value_digits {u : Nat} (h : u < 10000000000000) : value (Lib.decDigits u) = ((u : Int), true) := by
  unfold value
  rw [if_pos ⟨List.length_pos_iff.2 (decDigits_ne u), decDigits_le (k := 12) (by omega)⟩, decFrom_digits]
  simp
theorem signed_itoa {n : Int} (h : -10000000000000 < n) (h' : n < 10000000000000) : signed (Lib.itoa n) = (n, true) := by
  rcases int_cases n with ⟨u, rfl⟩ | ⟨u, hu, rfl⟩
  · rw [itoa_nat]
    unfold signed
    rw [if_neg (fun e => ?_), value_digits (by omega)]
    have := decDigits_digit u 45 (List.mem_of_mem_head? e)
    simp at this
  · rw [itoa_neg hu]
    unfold signed
    rw [if_pos (by simp)]
    have hv := value_digits (u := u) (by omega)
    simp only [List.tail_cons, hv]
    simp [hu]
end Go.Z
end
section
namespace Go.Z
def joinB (c : UInt8) : List (List UInt8) → List UInt8
  | [] => []
  | [p] => p
  | p :: q :: r => p ++ c :: joinB c (q :: r)
/-- the pieces between the bytes c -/
def splitC (c : UInt8) : List UInt8 → List (List UInt8)
  | [] => [[]]
  | b :: l => if b = c then [] :: splitC c l else
    match splitC c l with
    | [] => [[b]]
    | p :: r => (b :: p) :: r
theorem splitC_ne (c : UInt8) : ∀ l, splitC c l ≠ []
  | [] => by simp [splitC]
  | b :: l => by
    unfold splitC
    split
    · simp
    · split <;> simp
theorem splitC_len (c : UInt8) : ∀ l, (splitC c l).length ≤ l.length + 1
  | [] => by simp [splitC]
  | b :: l => by
    have := splitC_len c l
    unfold splitC
    split
    · simp; omega
    · split
      · simp
      · rename_i p r h; rw [h] at this; simp at this ⊢; omega
theorem splitC_piece {c : UInt8} : ∀ {l : List UInt8}, c ∉ l → splitC c l = [l]
  | [], _ => rfl
  | b :: l, h => by
    have h1 : ¬ (b = c) := fun e => h (by rw [e]; exact List.mem_cons_self ..)
    have ih := splitC_piece (c := c) (l := l) (fun x => h (List.mem_cons_of_mem _ x))
    unfold splitC
    rw [if_neg h1, ih]
theorem splitC_cut {c : UInt8} (t : List UInt8) : ∀ {l : List UInt8}, c ∉ l → splitC c (l ++ c :: t) = l :: splitC c t
  | [], _ => by simp [splitC]
  | b :: l, h => by
    have h1 : ¬ (b = c) := fun e => h (by rw [e]; exact List.mem_cons_self ..)
    have ih := splitC_cut (c := c) t (l := l) (fun x => h (List.mem_cons_of_mem _ x))
    simp only [List.cons_append]
    rw [splitC, if_neg h1, ih]
theorem splitC_join {c : UInt8} : ∀ {ps : List (List UInt8)}, ps ≠ [] → (∀ p ∈ ps, c ∉ p) → splitC c (joinB c ps) = ps
  | [], h, _ => absurd rfl h
  | [p], _, h => splitC_piece (h p (by simp))
  | p :: q :: r, _, h => by
    unfold joinB
    rw [splitC_cut _ (h p (by simp)), splitC_join (by simp) (fun x hx => h x (List.mem_cons_of_mem _ hx))]
theorem join_splitC (c : UInt8) : ∀ l, joinB c (splitC c l) = l
  | [] => rfl
  | b :: l => by
    have ih := join_splitC c l
    have hn := splitC_ne c l
    unfold splitC
    split
    · rename_i h
      cases hs : splitC c l with
      | nil => exact absurd hs hn
      | cons p r => rw [hs] at ih; unfold joinB; rw [ih, h]; rfl
    · split
      · rename_i h; exact absurd h hn
      · rename_i p r h
        rw [h] at ih
        cases r with
        | nil => simp only [joinB] at ih ⊢; rw [ih]
        | cons q r => simp only [joinB, List.cons_append] at ih ⊢; rw [ih]
/-- the first place of a byte -/
theorem index_hit {c : UInt8} (t : List UInt8) : ∀ {l : List UInt8}, c ∉ l → Lib.index (l ++ c :: t) [c] = l.length
  | [], _ => by simp [Lib.index, List.isPrefixOf]
  | b :: l, h => by
    have h1 : ¬ (c = b) := fun e => h (by rw [e]; exact List.mem_cons_self ..)
    have ih := index_hit (c := c) t (l := l) (fun x => h (List.mem_cons_of_mem _ x))
    simp only [List.cons_append]
    unfold Lib.index
    rw [ih]
    have h2 : ([c].isPrefixOf (b :: (l ++ c :: t))) = false := by simp [List.isPrefixOf, h1]
    rw [h2]
    have h3 : (((l.length : Nat) : Int) == -1) = false := by rw [beq_eq_false_iff_ne]; omega
    rw [h3]
    simp
theorem index_miss {c : UInt8} : ∀ {l : List UInt8}, c ∉ l → Lib.index l [c] = -1
  | [], _ => by simp [Lib.index]
  | b :: l, h => by
    have h1 : ¬ (c = b) := fun e => h (by rw [e]; exact List.mem_cons_self ..)
    have ih := index_miss (c := c) (l := l) (fun x => h (List.mem_cons_of_mem _ x))
    unfold Lib.index
    rw [ih]
    have h2 : ([c].isPrefixOf (b :: l)) = false := by simp [List.isPrefixOf, h1]
    rw [h2]
    simp
theorem cut_at (c : UInt8) (l : List UInt8) : c ∉ l ∨ ∃ a t, l = a ++ c :: t ∧ c ∉ a := by
  induction l with
  | nil => exact .inl (by simp)
  | cons b l ih =>
    by_cases hb : b = c
    · exact .inr ⟨[], l, by simp [hb], by simp⟩
    · rcases ih with h | ⟨a, t, rfl, h⟩
      · exact .inl (by simp only [List.mem_cons, not_or]; exact ⟨fun e => hb e.symm, h⟩)
      · exact .inr ⟨b :: a, t, rfl, by simp only [List.mem_cons, not_or]; exact ⟨fun e => hb e.symm, h⟩⟩
theorem cut_hit {c : UInt8} {a t : List UInt8} (h : c ∉ a) : Lib.cut (a ++ c :: t) [c] = (a, t, true) := by
  unfold Lib.cut
  rw [index_hit t h, if_pos (by omega)]
  simp
theorem cut_miss {c : UInt8} {l : List UInt8} (h : c ∉ l) : Lib.cut l [c] = (l, [], false) := by
  unfold Lib.cut
  rw [index_miss h, if_neg (by decide)]
theorem splitK_C (c : UInt8) : ∀ (fuel : Nat) (l : List UInt8), l.length < fuel → Lib.splitK [c] 0 (Lib.countFrom [c] fuel l) l = splitC c l
  | 0, l, h => absurd h (by omega)
  | fuel + 1, l, h => by
    unfold Lib.countFrom
    rcases cut_at c l with hm | ⟨a, t, rfl, ha⟩
    · rw [index_miss hm, splitC_piece hm]; simp [Lib.splitK]
    · have h1 : ((Lib.index (a ++ c :: t) [c]) == -1) = false := by rw [index_hit t ha, beq_eq_false_iff_ne]; omega
      rw [h1, splitC_cut t ha]
      simp only [Bool.false_eq_true, if_false]
      rw [Nat.add_comm 1]
      unfold Lib.splitK
      rw [h1]
      simp only [Bool.false_eq_true, if_false]
      rw [index_hit t ha]
      have e1 : (a ++ c :: t).drop ((((a.length : Nat) : Int)).toNat + [c].length) = t := by simp
      have e2 : (a ++ c :: t).take ((((a.length : Nat) : Int)).toNat + 0) = a := by simp
      rw [e1, e2, splitK_C c fuel t (by simp at h; omega)]
theorem split_C (c : UInt8) (l : List UInt8) : Lib.split l [c] = splitC c l := splitK_C c (l.length + 1) l (Nat.lt_succ_self _)
end Go.Z
end
section
namespace Go.Z
theorem joinB_snoc' (c : UInt8) (p : List UInt8) : ∀ {ps : List (List UInt8)}, ps ≠ [] → joinB c (ps ++ [p]) = joinB c ps ++ c :: p
  | [], h => absurd rfl h
  | [q], _ => by simp [joinB]
  | q :: r :: t, _ => by
    have := joinB_snoc' c p (ps := r :: t) (by simp)
    simp only [List.cons_append, joinB, List.append_assoc] at this ⊢
    rw [this]
theorem joinB_ne {c : UInt8} : ∀ {ps : List (List UInt8)}, ps ≠ [] → (∀ p ∈ ps, p ≠ []) → joinB c ps ≠ []
  | [], h, _ => absurd rfl h
  | [q], _, h => by simpa [joinB] using h
  | q :: r :: t, _, _ => by simp [joinB]
def baseB (k : Nat) : UInt8 := [109, 103, 115, 65].getD k 0
/-- a base unit with its exponent -/
def uPart (k : Nat) (n : Int) : List UInt8 := baseB k :: (if n == 1 then [] else Lib.itoa n)
def uParts (u : List Int) : Nat → List (List UInt8)
  | 0 => []
  | k + 1 => if u.getD k 0 == 0 then uParts u k else uParts u k ++ [uPart k (u.getD k 0)]
def unitText (u : List Int) : ByteArray := if uParts u 4 = [] then str [49] else str (joinB 46 (uParts u 4))
theorem intercalate_join (c : UInt8) : ∀ ps : List (List UInt8), Lib.join ps [c] = joinB c ps
  | [] => rfl
  | [p] => by simp [Lib.join, joinB, List.intercalate]
  | p :: q :: r => by
    have ih := intercalate_join c (q :: r)
    unfold Lib.join at ih ⊢
    unfold joinB
    rw [← ih]
    simp [List.intercalate, List.intersperse]
end Go.Z
end
section
namespace Go.Z
def stepText (s : St) : List UInt8 := if s.kd = 0 then [119] else if s.kd = 1 then 120 :: UInt8.ofNat s.nm.toNat :: Lib.itoa s.pw else 114 :: Lib.itoa s.pw
def stTexts (l : List St) (k : Nat) : List (List UInt8) := (l.take k).map stepText
def stepsText (l : List St) : ByteArray := str (joinB 32 (stTexts l l.length))
def StepsText (l : List St) : ByteArray × Int := if stCode l = 0 then (stepsText l, 0) else (⟨#[]⟩, stCode l)
theorem stepText_0 (m t : Int) : str (stepText ⟨0, m, t⟩) = ⟨#[119]⟩ := rfl
theorem stepText_1 (m t : Int) : str (stepText ⟨1, m, t⟩) = ⟨#[120]⟩ ++ ⟨#[UInt8.ofNat m.toNat]⟩ ++ dec t := by
  unfold dec
  show str (120 :: UInt8.ofNat m.toNat :: Lib.itoa t) = str [120] ++ str [UInt8.ofNat m.toNat] ++ str (Lib.itoa t)
  rw [str_append, str_append]; rfl
theorem stepText_2 (m t : Int) : str (stepText ⟨2, m, t⟩) = ⟨#[114]⟩ ++ dec t := by
  unfold dec
  show str (114 :: Lib.itoa t) = str [114] ++ str (Lib.itoa t)
  rw [str_append]; rfl
theorem step_kinds3 {s : St} (h : isStep s = true) : (∃ m t, s = ⟨0, m, t⟩) ∨ (∃ m t, s = ⟨1, m, t⟩ ∧ 0 ≤ m ∧ m ≤ 255 ∧ -6 ≤ t ∧ t ≤ 6) ∨ (∃ t, s = ⟨2, 0, t⟩ ∧ -6 ≤ t ∧ t ≤ 6) := by
  obtain ⟨d, m, t⟩ := s
  unfold isStep at h
  dsimp only at h
  split at h
  · rename_i h0; left; exact ⟨m, t, by rw [h0]⟩
  · split at h
    · rename_i h1; right; left; simp at h; exact ⟨m, t, by rw [h1], by omega, by omega, by omega, by omega⟩
    · split at h
      · rename_i h2; right; right; simp at h; exact ⟨t, by rw [h2, h.1.1], by omega, by omega⟩
      · simp at h
theorem stepText_len {s : St} (h : isStep s = true) : (stepText s).length ≤ 22 := by
  rcases step_kinds3 h with ⟨m, t, rfl⟩ | ⟨m, t, rfl, _, _, h1, h2⟩ | ⟨t, rfl, h1, h2⟩
  · simp [stepText]
  · have := (itoa_len (n := t) (by omega) (by omega)).2
    show (120 :: UInt8.ofNat m.toNat :: Lib.itoa t).length ≤ 22
    simp; omega
  · have := (itoa_len (n := t) (by omega) (by omega)).2
    show (114 :: Lib.itoa t).length ≤ 22
    simp; omega
theorem stTexts_succ {l : List St} {k : Nat} (h : k < l.length) : stTexts l (k + 1) = stTexts l k ++ [stepText l[k]] := by
  unfold stTexts
  rw [List.take_succ_eq_append_getElem h, List.map_append, List.map_singleton]
theorem stTexts_length {l : List St} {k : Nat} (h : k ≤ l.length) : (stTexts l k).length = k := by
  unfold stTexts; rw [List.length_map, List.length_take]; omega
theorem stJoin_len {l : List St} (h : ∀ s ∈ l, isStep s = true) : ∀ k, k ≤ l.length → (joinB 32 (stTexts l k)).length ≤ 23 * k
  | 0, _ => by simp [stTexts, joinB]
  | k + 1, hk => by
    have ih := stJoin_len h k (by omega)
    have hl := stepText_len (h l[k] (List.getElem_mem (by omega)))
    rw [stTexts_succ (by omega)]
    by_cases hp : stTexts l k = []
    · rw [hp]; simp only [List.nil_append, joinB]; omega
    · rw [joinB_snoc' _ _ hp, List.length_append, List.length_cons]; omega
theorem stStr_first {l : List St} (h : 0 < l.length) : str (joinB 32 (stTexts l (0 + 1))) = str (stepText l[0]) := by
  rw [stTexts_succ h]; simp [stTexts, joinB]
theorem stStr_more {l : List St} {k : Nat} {S : ByteArray} (h : k < l.length) (h0 : 0 < k) (hS : S = str (joinB 32 (stTexts l k))) :
    str (joinB 32 (stTexts l (k + 1))) = S ++ ⟨#[32]⟩ ++ str (stepText l[k]) := by
  have hp : stTexts l k ≠ [] := by
    intro e
    have := stTexts_length (l := l) (k := k) (by omega)
    rw [e] at this; simp at this; omega
  rw [stTexts_succ h, joinB_snoc' _ _ hp, hS]
  show _ = str _ ++ str [32] ++ str _
  rw [str_append, str_append]; simp
end Go.Z
end
section
namespace Go.K
open Go Go.ChangeShapes Go.WideShapes Go.ChangeAt Go.RowKit Go.Deep
variable {H : Type} {enc : TypeId × Value → H} {P : Program} {w : World} {base : Nat} {spare : Nat → Bool} {held : Bool}
/-- a byte: one cell -/
def ByR : Rec Int := ⟨1, fun x _ => .int .u8 x⟩
theorem byte_cells {e : TypeId} {fuel : Nat} {cs : List Value} {x : DataW H × List MemPlace} (hi : P.underlying e = some (.int .u8))
    (h : DataW.trod enc P w base spare held fuel e cs = some x) : ∃ s : Int, (0 ≤ s ∧ s ≤ 255) ∧ cs = (List.range ByR.n).map (ByR.cell s) := by
  obtain ⟨i, ei, _, wi⟩ := DataW.trod_int hi h
  exact ⟨i, byte_wf wi, ei⟩
theorem byts_of_recs {v : Value} {xs : List Int} (h : recs false ByR w 0 w.heap.size v xs) (hq : ∀ s ∈ xs, 0 ≤ s ∧ s ≤ 255) : byts w w.heap.size v xs.length := by
  have g := h
  obtain ⟨o, cap, rfl, _⟩ := g
  refine ⟨o, cap, rfl, fun hn => ?_⟩
  obtain ⟨b, off, ho, _, hb, hc, _⟩ := recs_at h hn
  refine ⟨b, off, ho, hb, fun i hi => ?_⟩
  obtain ⟨q0, q1⟩ := hq _ (List.getElem_mem hi)
  refine ⟨xs[i], q0, q1, ?_⟩
  have e := hc i hi 0 (by decide)
  have hn1 : ByR.n = 1 := rfl
  rw [hn1, Nat.mul_one, Nat.add_zero] at e
  exact e
end Go.K
namespace Go.Proofs.YtmgocfdhngeeiaaGreatDoor
open Go.RowKit
theorem big_no {n hi : Nat} {v : Value} (w : World) (hn : n ≤ 4096) (h : K.byts w hi v n) :
    Calls Tryz.prog 5 #[v] w fun e w' => e = .returned (.bool false) ∧ w = w' := by
  obtain ⟨o, cap, rfl, _⟩ := h
  have i1 : ¬ ((4096 : Int) < (n : Int)) := by omega
  go_enter Tryz.func5, Tryz.ntmps5
  go_wp2_with fail
  go_ret
  exact ⟨rfl, rfl⟩
theorem big_yes {n hi : Nat} {v : Value} (w : World) (hn : 4096 < n) (h : K.byts w hi v n) :
    Calls Tryz.prog 5 #[v] w fun e w' => e = .returned (.bool true) ∧ w = w' := by
  obtain ⟨o, cap, rfl, _⟩ := h
  have i1 : (4096 : Int) < (n : Int) := by omega
  go_enter Tryz.func5, Tryz.ntmps5
  go_wp2_with fail
  go_ret
  exact ⟨rfl, rfl⟩
end Go.Proofs.YtmgocfdhngeeiaaGreatDoor
end
section
namespace Go.Proofs.YtmgocfdhngeeiaaGreatDoor
open Go.RowKit
set_option maxHeartbeats 400000 in
theorem likeInts_same (xs : List Int) (lo hi lo' hi' : Nat) (v v' : Value) (w : World) (hm : xs.length ≤ 1048576) (h : K.ints w lo hi v xs) (h' : K.ints w lo' hi' v' xs) :
    Calls Tryz.prog 18 #[v, v'] w fun e w' => e = .returned (.bool true) ∧ K.Ext w w' := by
  obtain ⟨o, cap, rfl, h⟩ := h
  obtain ⟨o', cap', rfl, h'⟩ := h'
  go_enter Tryz.func18, Tryz.ntmps18
  go_wp2
  go_loopw [5] (fun i wr => ∃ k : Nat, k ≤ xs.length ∧ i = .int .i64 k ∧ Hid (K.Ext w wr)) (fun i _ => xs.length - (intOf i).toNat)
  case atStart => exact ⟨0, Nat.zero_le _, rfl, Z.hide (K.Ext.refl _)⟩
  case round =>
    obtain ⟨k, hk, rfl, HX⟩ := hrel
    by_cases hlt : k < xs.length
    · obtain ⟨b, off, rfl, _, _, hc⟩ := h (by intro h0; simp [h0] at hlt)
      obtain ⟨b', off', rfl, _, _, hc'⟩ := h' (by intro h0; simp [h0] at hlt)
      have hck := HX.out.cell_of (hc k hlt)
      have hck' := HX.out.cell_of (hc' k hlt)
      clear hc hc' h h'
      generalize xs.getD k 0 = x at *
      have i0 : (0 : Int) ≤ (k : Int) := Int.natCast_nonneg k
      have i1 : (k : Int) < (xs.length : Int) := by omega
      go_wp2_with fail
      refine K.wp_region_ext (by kernel_rfl) (by kernel_rfl) ?_
      apply K.qcons
      · rfl
      · intro w' hw'; have hc := hw'.all.1.1; have hf := hw'.all.1.2; have hc' := hw'.all.2.1; have hf' := hw'.all.2.2; unfold Oper.quietAt; go_simp; first | done | rfl | exact ⟨rfl, rfl⟩
      simp only [Act.put, List.setIfInBounds_toArray, List.set]
      apply K.qcons
      · rfl
      · intro w' hw'; have hc := hw'.all.1.1; have hf := hw'.all.1.2; have hc' := hw'.all.2.1; have hf' := hw'.all.2.2; unfold Oper.quietAt; go_simp; first | done | rfl | exact ⟨rfl, rfl⟩
      simp only [Act.put, List.setIfInBounds_toArray, List.set]
      apply K.qcons
      · rfl
      · intro w' hw'; have hc := hw'.all.1.1; have hf := hw'.all.1.2; have hc' := hw'.all.2.1; have hf' := hw'.all.2.2; unfold Oper.quietAt; go_simp; first | done | rfl | exact ⟨rfl, rfl⟩
      simp only [Act.put, List.setIfInBounds_toArray, List.set]
      apply K.qcons
      · rfl
      · intro w' hw'; have hc := hw'.all.1.1; have hf := hw'.all.1.2; have hc' := hw'.all.2.1; have hf' := hw'.all.2.2; unfold Oper.quietAt; go_simp; first | done | rfl | exact ⟨rfl, rfl⟩
      simp only [Act.put, List.setIfInBounds_toArray, List.set]
      apply K.qcons
      · rfl
      · intro w' hw'; have hc := hw'.all.1.1; have hf := hw'.all.1.2; have hc' := hw'.all.2.1; have hf' := hw'.all.2.2; unfold Oper.quietAt; go_simp; first | done | rfl | exact ⟨rfl, rfl⟩
      simp only [Act.put, List.setIfInBounds_toArray, List.set]
      apply K.qcons
      · rfl
      · intro w' hw'; have hc := hw'.all.1.1; have hf := hw'.all.1.2; have hc' := hw'.all.2.1; have hf' := hw'.all.2.2; unfold Oper.quietAt; go_simp; first | done | rfl | exact ⟨rfl, rfl⟩
      simp only [Act.put, List.setIfInBounds_toArray, List.set]
      apply K.qcons
      · rfl
      · intro w' hw'; have hc := hw'.all.1.1; have hf := hw'.all.1.2; have hc' := hw'.all.2.1; have hf' := hw'.all.2.2; unfold Oper.quietAt; go_simp; first | done | rfl | exact ⟨rfl, rfl⟩
      simp only [Act.put, List.setIfInBounds_toArray, List.set]
      apply K.qcons
      · rfl
      · intro w' hw'; have hc := hw'.all.1.1; have hf := hw'.all.1.2; have hc' := hw'.all.2.1; have hf' := hw'.all.2.2; unfold Oper.quietAt; go_simp; first | done | rfl | exact ⟨rfl, rfl⟩
      simp only [Act.put, List.setIfInBounds_toArray, List.set]
      apply K.qcons
      · rfl
      · intro w' hw'; have hc := hw'.all.1.1; have hf := hw'.all.1.2; have hc' := hw'.all.2.1; have hf' := hw'.all.2.2; unfold Oper.quietAt; go_simp; first | done | exact K.vint (IntWalk.i64_in _ (by omega)) | rfl | exact ⟨rfl, rfl⟩
      simp only [Act.put, List.setIfInBounds_toArray, List.set]
      refine wpQuiet_nil ?_
      intro w1 hx1
      obtain ⟨⟨hcw1, hfw1⟩, hc'w1, hf'w1⟩ := hx1.all
      go_wp2
      go_roundw
      case rel => exact ⟨k + 1, by omega, by go_num, Z.hide (HX.out.trans (by first | exact hx1 | exact hx1.drew))⟩
      case measure => simp [intOf]; omega
    · obtain rfl : k = xs.length := by omega
      go_wp2
      go_ret
      exact ⟨rfl, HX.out⟩
end Go.Proofs.YtmgocfdhngeeiaaGreatDoor
end
section
namespace Go.Proofs.YtmgocfdhngeeiaaGreatDoor
open Go.RowKit
set_option maxHeartbeats 1600000 in
theorem likeSteps_same (xs : List Z.St) (lo hi lo' hi' : Nat) (v v' : Value) (w : World) (hm : xs.length ≤ 1048576) (h : K.recs false K.StR w lo hi v xs) (h' : K.recs false K.StR w lo' hi' v' xs) :
    Calls Tryz.prog 31 #[v, v'] w fun e w' => e = .returned (.bool true) ∧ K.Ext w w' := by
  obtain ⟨o, cap, rfl, _⟩ := id h
  obtain ⟨o', cap', rfl, _⟩ := id h'
  have HH := Z.hide h
  have HH' := Z.hide h'
  clear h h'
  go_enter Tryz.func31, Tryz.ntmps31
  go_wp2
  go_loopw [5] (fun i wr => ∃ k : Nat, k ≤ xs.length ∧ i = .int .i64 k ∧ Hid (K.Ext w wr)) (fun i _ => xs.length - (intOf i).toNat)
  case atStart => exact ⟨0, Nat.zero_le _, rfl, Z.hide (K.Ext.refl _)⟩
  case round =>
    obtain ⟨k, hk, rfl, HX⟩ := hrel
    by_cases hlt : k < xs.length
    · obtain ⟨b, off, rfl, _, _, hc, _⟩ := K.recs_at HH.out (by omega)
      obtain ⟨b', off', rfl, _, _, hc', _⟩ := K.recs_at HH'.out (by omega)
      have hc0 : wr.cell? ⟨b, off + k * 3, none⟩ = some (.int .i64 (xs[k]'hlt).kd) := HX.out.cell_of (hc k hlt 0 (by decide))
      have hc1 : wr.cell? ⟨b, off + k * 3 + 1, none⟩ = some (.int .u8 (xs[k]'hlt).nm) := HX.out.cell_of (hc k hlt 1 (by decide))
      have hc2 : wr.cell? ⟨b, off + k * 3 + 2, none⟩ = some (.int .i64 (xs[k]'hlt).pw) := HX.out.cell_of (hc k hlt 2 (by decide))
      have hd0 : wr.cell? ⟨b', off' + k * 3, none⟩ = some (.int .i64 (xs[k]'hlt).kd) := HX.out.cell_of (hc' k hlt 0 (by decide))
      have hd1 : wr.cell? ⟨b', off' + k * 3 + 1, none⟩ = some (.int .u8 (xs[k]'hlt).nm) := HX.out.cell_of (hc' k hlt 1 (by decide))
      have hd2 : wr.cell? ⟨b', off' + k * 3 + 2, none⟩ = some (.int .i64 (xs[k]'hlt).pw) := HX.out.cell_of (hc' k hlt 2 (by decide))
      clear hc hc'
      generalize (xs[k]'hlt) = x at *
      obtain ⟨d, m, t⟩ := x
      dsimp only at hc0 hc1 hc2 hd0 hd1 hd2
      have i0 : (0 : Int) ≤ (k : Int) := Int.natCast_nonneg k
      have i1 : (k : Int) < (xs.length : Int) := by omega
      have HX0 := HX
      go_wp2_with fail
      refine K.wp_region_ext (by kernel_rfl) (by kernel_rfl) ?_
      iterate 3
        apply K.qcons
        · rfl
        · intro w' hw'; unfold Oper.quietAt; go_simp; first | done | rfl | exact ⟨rfl, rfl⟩
        simp only [Act.put, List.setIfInBounds_toArray, List.set]
      apply K.qcons
      · rfl
      · intro w' hw'
        have e0 := hw'.cell_of hc0
        have e1 := hw'.cell_of hc1
        have e2 := hw'.cell_of hc2
        unfold Oper.quietAt
        go_simp
        first | done | rfl | exact ⟨rfl, rfl⟩
      simp only [Act.put, List.setIfInBounds_toArray, List.set]
      iterate 3
        apply K.qcons
        · rfl
        · intro w' hw'; unfold Oper.quietAt; go_simp; first | done | rfl | exact ⟨rfl, rfl⟩
        simp only [Act.put, List.setIfInBounds_toArray, List.set]
      apply K.qcons
      · rfl
      · intro w' hw'
        have e0 := hw'.cell_of hd0
        have e1 := hw'.cell_of hd1
        have e2 := hw'.cell_of hd2
        unfold Oper.quietAt
        go_simp
        first | done | rfl | exact ⟨rfl, rfl⟩
      simp only [Act.put, List.setIfInBounds_toArray, List.set]
      apply K.qcons
      · rfl
      · intro w' hw'; unfold Oper.quietAt; go_simp; first | done | rfl | exact ⟨rfl, rfl⟩
      simp only [Act.put, List.setIfInBounds_toArray, List.set]
      refine wpQuiet_nil ?_
      intro w1 hx1
      go_wp2
      go_roundw
      case rel => exact ⟨k + 1, by omega, by go_num, Z.hide (HX.out.trans (by first | exact hx1 | exact hx1.drew))⟩
      case measure => simp [intOf]; omega
    · obtain rfl : k = xs.length := by omega
      go_wp2
      go_ret
      exact ⟨rfl, HX.out⟩
end Go.Proofs.YtmgocfdhngeeiaaGreatDoor
end
section
namespace Go.Z
theorem mkB_letters (f : Nat → Int) (n : Nat) (hn : n ≤ 26) : ∀ x ∈ (mkB f n).map (fun b => (b.toNat : Int)), 97 ≤ x ∧ x < 97 + (n : Int) := by
  induction n with
  | zero => intro x hx; simp [mkB] at hx
  | succ n ih =>
    intro x hx
    have ih' := ih (by omega)
    unfold mkB at hx
    rw [List.map_append, List.mem_append] at hx
    rcases hx with hx | hx
    · have := ih' x hx; omega
    · split at hx
      · simp at hx
      · simp only [List.map_cons, List.map_nil, List.mem_singleton] at hx
        have e : ((97 + n).toUInt8).toNat = 97 + n := by simp [Nat.toUInt8]; omega
        rw [hx, e]; omega
/-- the exponents of what is made are those that were told -/
theorem expo_mk (f : Nat → Int) (n : Nat) (hn : n ≤ 26) (c : Int) : expo ((mkB f n).map (fun b => (b.toNat : Int))) (mkP f n) c = if 97 ≤ c ∧ c < 97 + (n : Int) then f (c - 97).toNat else 0 := by
  induction n with
  | zero => rw [if_neg (by omega)]; rfl
  | succ n ih =>
    have ih' := ih (by omega)
    have hl := mk_len f n
    unfold mkB mkP
    by_cases h0 : f n = 0
    · rw [if_pos h0, if_pos h0, List.append_nil, List.append_nil, ih']
      by_cases h1 : 97 ≤ c ∧ c < 97 + (n : Int)
      · rw [if_pos h1, if_pos (by omega)]
      · rw [if_neg h1]
        by_cases h2 : 97 ≤ c ∧ c < 97 + ((n + 1 : Nat) : Int)
        · have e : (c - 97).toNat = n := by omega
          rw [if_pos h2, e, h0]
        · rw [if_neg h2]
    · rw [if_neg h0, if_neg h0, List.map_append, List.map_cons, List.map_nil]
      have e : (((97 + n).toUInt8).toNat : Int) = 97 + (n : Int) := by
        have : ((97 + n).toUInt8).toNat = 97 + n := by simp [Nat.toUInt8]; omega
        omega
      rw [e, expo_snoc _ _ _ (by rw [List.length_map]; exact hl) (fun hx => by have := mkB_letters f n (by omega) _ hx; omega), ih']
      by_cases h1 : 97 + (n : Int) = c
      · have e2 : (c - 97).toNat = n := by omega
        rw [if_pos h1, if_pos (by omega), e2]
      · rw [if_neg h1]
        by_cases h2 : 97 ≤ c ∧ c < 97 + (n : Int)
        · rw [if_pos h2, if_pos (by omega)]
        · rw [if_neg h2, if_neg (by omega)]
theorem bs_made (d t : Int) (f : Nat → Int) (n : Nat) : bs (made d t f n).nm = (mkB f n).map (fun b => (b.toNat : Int)) := by
  simp [made, bs]
theorem expo_made (d t : Int) (f : Nat → Int) (c : Int) : expo (bs (made d t f 26).nm) (made d t f 26).pw c = if 97 ≤ c ∧ c ≤ 122 then f (c - 97).toNat else 0 := by
  rw [bs_made]
  have h := expo_mk f 26 (Nat.le_refl _) c
  show expo _ (mkP f 26) c = _
  rw [h]
  by_cases h1 : 97 ≤ c ∧ c ≤ 122
  · rw [if_pos h1, if_pos (by omega)]
  · rw [if_neg h1, if_neg (by omega)]
/-- the exponent of a letter in a formula -/
def ex (F : Fm) (c : Int) : Int := expo (bs F.nm) F.pw c
theorem ex_out {F : Fm} (h : isFormula F = true) {c : Int} (hc : ¬ (97 ≤ c ∧ c ≤ 122)) : ex F c = 0 := by
  unfold ex
  apply expo_none
  intro hm
  obtain ⟨i, hi, he⟩ := List.getElem_of_mem hm
  rw [bs_length] at hi
  have h1 := okAt_parts (valid_at h i hi)
  have h2 : (bs F.nm).getD i 0 = c := by rw [← he]; simp [List.getD_eq_getElem?_getD, bs_length, hi]
  rw [h2] at h1
  exact hc ⟨h1.1, h1.2.1⟩
theorem madeOr_ex {d t : Int} {f : Nat → Int} (h : (madeOr d t f).2 = 0) (c : Int) : ex (madeOr d t f).1 c = if 97 ≤ c ∧ c ≤ 122 then f (c - 97).toNat else 0 := by
  unfold madeOr at h ⊢
  split at h
  · rename_i h1; rw [if_pos h1]; exact expo_made d t f c
  · simp at h
theorem multiplied_ex {F G : Fm} (hF : isFormula F = true) (hG : isFormula G = true) (h : (multiplied F G).2 = 0) (c : Int) : ex (multiplied F G).1 c = ex F c + ex G c := by
  unfold multiplied at h ⊢
  split at h
  · rename_i h1
    rw [if_pos h1, madeOr_ex h c]
    by_cases hc : 97 ≤ c ∧ c ≤ 122
    · rw [if_pos hc]
      have e : (97 : Int) + ((c - 97).toNat : Int) = c := by omega
      unfold sumF ex; rw [e]
    · rw [if_neg hc, ex_out hF hc, ex_out hG hc]; rfl
  · rename_i h1; exact absurd h h1
theorem stepFm_ex (m t c : Int) (hm : 0 ≤ m ∧ m ≤ 255) : ex (stepFm m t) c = if c = m then t else 0 := by
  have e : bs (stepFm m t).nm = [m] := by
    have h1 : (UInt8.ofNat m.toNat).toNat = m.toNat := by simp; omega
    simp only [stepFm, bs, List.map_cons, List.map_nil]
    rw [h1]; congr 1; omega
  unfold ex
  rw [e]
  show expo [m] [t] c = _
  simp only [expo]
  by_cases h : c = m
  · rw [if_pos h.symm, if_pos h]
  · rw [if_neg (fun e => h e.symm), if_neg h]
theorem times_ex {E : Eqn} {m t : Int} (hm : 0 ≤ m ∧ m ≤ 255) (h : (TimesFormula E (stepFm m t)).2 = 0) (c : Int) :
    ex (TimesFormula E (stepFm m t)).1.L c = ex E.L c + (if c = m then t else 0) ∧ ex (TimesFormula E (stepFm m t)).1.R c = ex E.R c + (if c = m then t else 0) := by
  unfold TimesFormula at h ⊢
  split at h
  · rename_i h1
    rw [if_pos h1]
    rw [Bool.and_eq_true] at h1
    obtain ⟨hE, hF⟩ := h1
    obtain ⟨hL, hR⟩ := isEquation_parts hE
    unfold bothOf at h ⊢
    split at h
    · rename_i h2
      split at h
      · rename_i h3
        rw [if_pos h2, if_pos h3]
        exact ⟨by rw [multiplied_ex hL hF h2 c, stepFm_ex m t c hm], by rw [multiplied_ex hR hF h3 c, stepFm_ex m t c hm]⟩
      · rename_i h3; exact absurd h h3
    · rename_i h2; exact absurd h h2
  · simp at h
end Go.Z
end
section
namespace Go.Z
/-- one step more of a run -/
def runS (r : Option Eqn) (s : St) : Option Eqn := match r with
  | none => none
  | some A => if (stepEq A s).2 = 0 then some (stepEq A s).1 else none
def runL (E : Eqn) (l : List St) : Option Eqn := l.foldl runS (some E)
theorem runL_snoc (E : Eqn) (l : List St) (s : St) : runL E (l ++ [s]) = runS (runL E l) s := by simp [runL]
theorem runL_none {E : Eqn} {l : List St} (h : runL E l = none) (m : List St) : runL E (l ++ m) = none := by
  unfold runL at h ⊢
  rw [List.foldl_append, h]
  induction m with
  | nil => rfl
  | cons s m ih => exact ih
theorem runK_take (E : Eqn) (l : List St) (k : Nat) (hk : k ≤ l.length) : runK E l k = runL E (l.take k) := by
  induction k with
  | zero => simp [runK, runL]
  | succ k ih =>
    have hk' : k < l.length := by omega
    rw [List.take_succ_eq_append_getElem hk', runL_snoc, ← ih (by omega)]
    simp only [runK]
    have e : l.getD k zeroSt = l[k] := by simp [List.getD_eq_getElem?_getD, hk']
    rw [e]
    cases runK E l k <;> rfl
theorem runK_all (E : Eqn) (l : List St) : runK E l l.length = runL E l := by rw [runK_take E l l.length (Nat.le_refl _), List.take_length]
/-- the steps for the letters on the left, but c -/
def isoK (ns ps : List Int) (c : Int) : Nat → List St
  | 0 => []
  | k + 1 => if ns.getD k 0 = c then isoK ns ps c k else isoK ns ps c k ++ [⟨1, ns.getD k 0, -(ps.getD k 0)⟩]
def isoA (E : Eqn) (c : Int) : List St := isoK (bs E.L.nm) E.L.pw c E.L.nm.size
def isoB (E : Eqn) (c : Int) : List St := if ex E.R c = 0 then isoA E c else isoA E c ++ [⟨1, c, -(ex E.R c)⟩]
def isoN (E : Eqn) (c : Int) : Int := ex E.L c - ex E.R c
def isoC (E : Eqn) (c : Int) : List St := if isoN E c = -1 then isoB E c ++ [⟨2, 0, -1⟩] else isoB E c
def IsolateName (E : Eqn) (c : Int) : List St × Int :=
  if isEquation E then (if ex E.L c = 0 then ([], 4) else if (RunSteps E (isoB E c)).2 = 0 then (if isoN E c = 0 then ([], 4) else if isoN E c = 1 ∨ isoN E c = -1 then (if (RunSteps E (isoC E c)).2 = 0 then (isoC E c, 0) else ([], 5)) else ([], 5)) else ([], 5)) else ([], 1)
theorem isoK_len (ns ps : List Int) (c : Int) (k : Nat) : (isoK ns ps c k).length ≤ k := by
  induction k with
  | zero => simp [isoK]
  | succ k ih =>
    unfold isoK
    split
    · omega
    · rw [List.length_append, List.length_singleton]; omega
theorem isoK_all {F : Fm} (h : isFormula F = true) (c : Int) (k : Nat) (hk : k ≤ F.nm.size) : allSt (isoK (bs F.nm) F.pw c k) = true := by
  induction k with
  | zero => rfl
  | succ k ih =>
    have ih' := ih (by omega)
    obtain ⟨a1, a2, _, a4, a5, a6⟩ := okAt_parts (valid_at h k (by omega))
    unfold isoK
    generalize (bs F.nm).getD k 0 = a at *
    generalize F.pw.getD k 0 = p at *
    split
    · exact ih'
    · unfold allSt at ih' ⊢
      rw [List.all_append, ih']
      simp [isStep, a1, a2]
      omega
theorem ex_bd {F : Fm} (h : isFormula F = true) (c : Int) : -6 ≤ ex F c ∧ ex F c ≤ 6 := by
  unfold ex
  exact expo_bd (fun j hj => by rw [bs_length] at hj; have := okAt_parts (valid_at h j hj); exact ⟨this.2.2.2.2.1, this.2.2.2.2.2⟩) c
theorem ex_letter {F : Fm} (h : isFormula F = true) {c : Int} (hc : ex F c ≠ 0) : 97 ≤ c ∧ c ≤ 122 := by
  by_cases h1 : 97 ≤ c ∧ c ≤ 122
  · exact h1
  · exact absurd (ex_out h h1) hc
theorem isoB_parts {E : Eqn} (h : isEquation E = true) {c : Int} (hc : ex E.L c ≠ 0) : allSt (isoB E c) = true ∧ (isoB E c).length ≤ 7 := by
  obtain ⟨hL, hR⟩ := isEquation_parts h
  have a := isoK_all hL c E.L.nm.size (Nat.le_refl _)
  have b := isoK_len (bs E.L.nm) E.L.pw c E.L.nm.size
  have l6 := (isFormula_len hL).2
  obtain ⟨c1, c2⟩ := ex_letter hL hc
  obtain ⟨r1, r2⟩ := ex_bd hR c
  unfold isoB isoA
  split
  · exact ⟨a, by omega⟩
  · rename_i h0
    refine ⟨?_, by simp; omega⟩
    unfold allSt at a ⊢
    rw [List.all_append, a]
    simp [isStep, c1, c2]
    omega
theorem isoC_parts {E : Eqn} (h : isEquation E = true) {c : Int} (hc : ex E.L c ≠ 0) : allSt (isoC E c) = true ∧ (isoC E c).length ≤ 8 := by
  obtain ⟨a, b⟩ := isoB_parts h hc
  unfold isoC
  split
  · refine ⟨?_, by simp; omega⟩
    unfold allSt at a ⊢
    rw [List.all_append, a]
    decide
  · exact ⟨a, by omega⟩
theorem RunSteps_runL {E : Eqn} {l : List St} (h : isEquation E = true) (ha : allSt l = true) (hl : l.length ≤ 12) : RunSteps E l = ranOr (runL E l) := by
  have hc : stCode l = 0 := by unfold stCode; rw [ha]; simp; omega
  unfold RunSteps
  rw [if_pos h, if_pos hc, runK_all]
theorem runL_ok {E : Eqn} (h : isEquation E = true) (l : List St) {A : Eqn} (hr : runL E l = some A) : isEquation A = true := by
  rw [← runK_all] at hr
  exact runK_ok h _ hr
theorem ranOr_some (A : Eqn) : (ranOr (some A)).2 = 0 := rfl
theorem ranOr_none : ¬ (ranOr none).2 = 0 := by decide
/-- what is not yet undone keeps its exponents -/
theorem isoK_keeps {E : Eqn} (h : isEquation E = true) (c : Int) (k : Nat) (hk : k ≤ E.L.nm.size) {A : Eqn} (hr : runL E (isoK (bs E.L.nm) E.L.pw c k) = some A) (x : Int) (hx : x = c ∨ ∃ j, k ≤ j ∧ j < E.L.nm.size ∧ x = (bs E.L.nm).getD j 0) :
    ex A.L x = ex E.L x ∧ ex A.R x = ex E.R x := by
  obtain ⟨hL, hR⟩ := isEquation_parts h
  induction k generalizing A with
  | zero => simp only [isoK, runL, List.foldl_nil, Option.some.injEq] at hr; rw [← hr]; exact ⟨rfl, rfl⟩
  | succ k ih =>
    unfold isoK at hr
    have hx' : x = c ∨ ∃ j, k ≤ j ∧ j < E.L.nm.size ∧ x = (bs E.L.nm).getD j 0 := by
      rcases hx with hx | ⟨j, h1, h2, h3⟩
      · exact .inl hx
      · exact .inr ⟨j, by omega, h2, h3⟩
    split at hr
    · exact ih (by omega) hr hx'
    · rename_i hne
      rw [runL_snoc] at hr
      cases hB : runL E (isoK (bs E.L.nm) E.L.pw c k) with
      | none => rw [hB] at hr; cases hr
      | some B =>
        rw [hB] at hr
        have hk0 := ih (by omega) hB hx'
        simp only [runS] at hr
        by_cases h0 : (stepEq B ⟨1, (bs E.L.nm).getD k 0, -(E.L.pw.getD k 0)⟩).2 = 0
        · rw [if_pos h0] at hr
          simp only [Option.some.injEq] at hr
          obtain ⟨a1, a2, _⟩ := okAt_parts (valid_at hL k (by omega))
          have ht := times_ex (E := B) (m := (bs E.L.nm).getD k 0) (t := -(E.L.pw.getD k 0)) ⟨by omega, by omega⟩ h0 x
          have hr' : (TimesFormula B (stepFm ((bs E.L.nm).getD k 0) (-(E.L.pw.getD k 0)))).1 = A := hr
          rw [hr'] at ht
          have hxk : ¬ (x = (bs E.L.nm).getD k 0) := by
            rcases hx with hx | ⟨j, h1, h2, h3⟩
            · rw [hx]; exact fun e => hne e.symm
            · have := rising hL j h2 k (by omega)
              omega
          rw [if_neg hxk, Int.add_zero, Int.add_zero] at ht
          exact ⟨ht.1.trans hk0.1, ht.2.trans hk0.2⟩
        · rw [if_neg h0] at hr; cases hr
/-- the exponent of a letter of a formula is its power -/
theorem ex_at {F : Fm} (h : isFormula F = true) (k : Nat) (hk : k < F.nm.size) : ex F ((bs F.nm).getD k 0) = F.pw.getD k 0 := by
  have hl := (isFormula_len h).1
  unfold ex
  have h1 : ∀ (n : Nat), n ≤ F.nm.size → k < n → expo ((bs F.nm).take n) (F.pw.take n) ((bs F.nm).getD k 0) = F.pw.getD k 0 := by
    intro n
    induction n with
    | zero => intro _ h; omega
    | succ n ih =>
      intro hn hkn
      have b1 : n < (bs F.nm).length := by rw [bs_length]; omega
      have b2 : n < F.pw.length := by omega
      rw [List.take_succ_eq_append_getElem b1, List.take_succ_eq_append_getElem b2]
      have e1 : (bs F.nm)[n] = (bs F.nm).getD n 0 := by simp [List.getD_eq_getElem?_getD, b1]
      have e2 : F.pw[n] = F.pw.getD n 0 := by simp [List.getD_eq_getElem?_getD, b2]
      rw [e1, e2, expo_snoc _ _ _ (by simp [bs_length, hl]) (fresh_at h n (by omega))]
      by_cases hkn' : k = n
      · subst hkn'; rw [if_pos rfl]
      · have := rising h n (by omega) k (by omega)
        rw [if_neg (by omega), ih (by omega) (by omega)]
  have h2 := h1 F.nm.size (Nat.le_refl _) hk
  rwa [List.take_of_length_le (by rw [bs_length]; exact Nat.le_refl _), List.take_of_length_le (by omega)] at h2
theorem iso_bad {E : Eqn} (h : isEquation E = false) (c : Int) : IsolateName E c = ([], 1) := by unfold IsolateName; rw [h]; rfl
theorem iso_none {E : Eqn} (h : isEquation E = true) {c : Int} (hc : ex E.L c = 0) : IsolateName E c = ([], 4) := by unfold IsolateName; rw [if_pos h, if_pos hc]
theorem iso_fail {E : Eqn} (h : isEquation E = true) {c : Int} (hc : ex E.L c ≠ 0) (hr : runL E (isoB E c) = none) : IsolateName E c = ([], 5) := by
  obtain ⟨a, b⟩ := isoB_parts h hc
  unfold IsolateName
  rw [if_pos h, if_neg hc, RunSteps_runL h a (by omega), hr, if_neg ranOr_none]
theorem iso_zero {E : Eqn} (h : isEquation E = true) {c : Int} (hc : ex E.L c ≠ 0) {A : Eqn} (hr : runL E (isoB E c) = some A) (hn : isoN E c = 0) : IsolateName E c = ([], 4) := by
  obtain ⟨a, b⟩ := isoB_parts h hc
  unfold IsolateName
  rw [if_pos h, if_neg hc, RunSteps_runL h a (by omega), hr, if_pos (ranOr_some A), if_pos hn]
theorem iso_other {E : Eqn} (h : isEquation E = true) {c : Int} (hc : ex E.L c ≠ 0) {A : Eqn} (hr : runL E (isoB E c) = some A) (h0 : isoN E c ≠ 0) (h1 : isoN E c ≠ 1) (h2 : isoN E c ≠ -1) : IsolateName E c = ([], 5) := by
  obtain ⟨a, b⟩ := isoB_parts h hc
  unfold IsolateName
  rw [if_pos h, if_neg hc, RunSteps_runL h a (by omega), hr, if_pos (ranOr_some A), if_neg h0, if_neg (by omega)]
theorem iso_one {E : Eqn} (h : isEquation E = true) {c : Int} (hc : ex E.L c ≠ 0) {A : Eqn} (hr : runL E (isoB E c) = some A) (hn : isoN E c = 1) : IsolateName E c = (isoB E c, 0) := by
  obtain ⟨a, b⟩ := isoB_parts h hc
  have e : isoC E c = isoB E c := by unfold isoC; rw [if_neg (by omega)]
  unfold IsolateName
  rw [e, RunSteps_runL h a (by omega), hr, if_pos h, if_neg hc, if_pos (ranOr_some A), if_neg (by omega), if_pos (by omega), if_pos (ranOr_some A)]
theorem iso_neg {E : Eqn} (h : isEquation E = true) {c : Int} (hc : ex E.L c ≠ 0) {A : Eqn} (hr : runL E (isoB E c) = some A) (hn : isoN E c = -1) : IsolateName E c = if (stepEq A ⟨2, 0, -1⟩).2 = 0 then (isoB E c ++ [⟨2, 0, -1⟩], 0) else ([], 5) := by
  obtain ⟨a, b⟩ := isoB_parts h hc
  obtain ⟨a', b'⟩ := isoC_parts h hc
  have e : isoC E c = isoB E c ++ [⟨2, 0, -1⟩] := by unfold isoC; rw [if_pos hn]
  unfold IsolateName
  rw [if_pos h, if_neg hc, RunSteps_runL h a (by omega), hr, if_pos (ranOr_some A), if_neg (by omega), if_pos (by omega), RunSteps_runL h a' (by omega), e, runL_snoc, hr]
  by_cases h0 : (stepEq A ⟨2, 0, -1⟩).2 = 0
  · have e2 : runS (some A) ⟨2, 0, -1⟩ = some (stepEq A ⟨2, 0, -1⟩).1 := by simp only [runS]; rw [if_pos h0]
    rw [e2, if_pos (ranOr_some _), if_pos h0]
  · have e2 : runS (some A) ⟨2, 0, -1⟩ = none := by simp only [runS]; rw [if_neg h0]
    rw [e2, if_neg ranOr_none, if_neg h0]
/-- behind the letters' own steps: the letter c, on the left and on the right -/
theorem iso_last {E : Eqn} (h : isEquation E = true) {c : Int} (hc : ex E.L c ≠ 0) {A : Eqn} (hr : runL E (isoA E c) = some A) : (ex A.L c = ex E.L c ∧ ex A.R c = ex E.R c) ∧ (ex E.R c = 0 → runL E (isoB E c) = some A ∧ ex A.L c = isoN E c) ∧
    (ex E.R c ≠ 0 → runL E (isoB E c) = runS (some A) ⟨1, c, -(ex E.R c)⟩ ∧ ∀ B, runS (some A) ⟨1, c, -(ex E.R c)⟩ = some B → ex B.L c = isoN E c) := by
  have hk := isoK_keeps h c E.L.nm.size (Nat.le_refl _) hr c (.inl rfl)
  obtain ⟨c1, c2⟩ := ex_letter (isEquation_parts h).1 hc
  refine ⟨hk, fun h0 => ?_, fun h0 => ?_⟩
  · have e : isoB E c = isoA E c := by unfold isoB; rw [if_pos h0]
    rw [e]
    exact ⟨hr, by unfold isoN; rw [hk.1, h0]; omega⟩
  · have e : isoB E c = isoA E c ++ [⟨1, c, -(ex E.R c)⟩] := by unfold isoB; rw [if_neg h0]
    rw [e, runL_snoc, hr]
    refine ⟨rfl, fun B hB => ?_⟩
    simp only [runS] at hB
    by_cases h1 : (stepEq A ⟨1, c, -(ex E.R c)⟩).2 = 0
    · rw [if_pos h1] at hB
      simp only [Option.some.injEq] at hB
      have hB' : (TimesFormula A (stepFm c (-(ex E.R c)))).1 = B := hB
      have ht := (times_ex (E := A) (m := c) (t := -(ex E.R c)) ⟨by omega, by omega⟩ h1 c).1
      rw [hB', if_pos rfl, hk.1] at ht
      unfold isoN
      omega
    · rw [if_neg h1] at hB; cases hB
end Go.Z
end
section
namespace Go.Z
theorem self_step {F : Fm} (h : isFormula F = true) : ∀ n : Nat, n ≤ 26 → ∃ j, j ≤ F.nm.size ∧ (∀ i, i < j → (bs F.nm).getD i 0 < 97 + (n : Int)) ∧ (∀ i, j ≤ i → i < F.nm.size → 97 + (n : Int) ≤ (bs F.nm).getD i 0) ∧
    mkB (fun i => ex F (97 + (i : Int))) n = F.nm.data.toList.take j ∧ mkP (fun i => ex F (97 + (i : Int))) n = F.pw.take j
  | 0, _ => ⟨0, Nat.zero_le _, fun i hi => by omega, fun i _ hi => by have := (okAt_parts (valid_at h i hi)).1; omega, by simp [mkB], by simp [mkP]⟩
  | n + 1, hn => by
    obtain ⟨j, j1, j2, j3, j4, j5⟩ := self_step h n (by omega)
    have hl := (isFormula_len h).1
    by_cases hj : j < F.nm.size ∧ (bs F.nm).getD j 0 = 97 + (n : Int)
    · obtain ⟨hj, he⟩ := hj
      have hx : ex F (97 + (n : Int)) = F.pw.getD j 0 := by rw [← he]; exact ex_at h j hj
      have hz : F.pw.getD j 0 ≠ 0 := (okAt_parts (valid_at h j hj)).2.2.2.1
      refine ⟨j + 1, hj, fun i hi => ?_, fun i hi hi' => ?_, ?_, ?_⟩
      · by_cases h1 : i < j
        · have := j2 i h1; omega
        · obtain rfl : i = j := by omega
          omega
      · have := rising h i hi' j (by omega); omega
      · have hb : j < F.nm.data.toList.length := by rw [Array.length_toList]; exact hj
        unfold mkB
        rw [j4, if_neg (by rw [hx]; exact hz), List.take_succ_eq_append_getElem hb]
        congr 1
        have e1 : ((F.nm.data.toList[j]'hb).toNat : Int) = 97 + (n : Int) := by
          rw [← he]
          unfold bs
          simp [List.getD_eq_getElem?_getD, hj]
        have e2 : F.nm.data.toList[j]'hb = (97 + n).toUInt8 := by
          apply UInt8.toNat_inj.1
          rw [Nat.toUInt8, UInt8.toNat_ofNat']
          omega
        rw [e2]
      · have hb : j < F.pw.length := by omega
        unfold mkP
        rw [j5, if_neg (by rw [hx]; exact hz), List.take_succ_eq_append_getElem hb, hx]
        simp [List.getD_eq_getElem?_getD, hb]
    · have hx : ex F (97 + (n : Int)) = 0 := by
        unfold ex
        apply expo_none
        intro hm
        obtain ⟨i, hi, he⟩ := List.getElem_of_mem hm
        rw [bs_length] at hi
        have he' : (bs F.nm).getD i 0 = 97 + (n : Int) := by simp [List.getD_eq_getElem?_getD, bs_length, hi, he]
        by_cases h1 : i < j
        · have := j2 i h1; omega
        · by_cases h2 : i = j
          · subst h2; exact hj ⟨hi, he'⟩
          · have h3 := j3 j (Nat.le_refl _) (by omega)
            have h4 := rising h i hi j (by omega)
            omega
      refine ⟨j, j1, fun i hi => ?_, fun i hi hi' => ?_, ?_, ?_⟩
      · have := j2 i hi; omega
      · have h3 := j3 i hi hi'
        by_cases h2 : i = j
        · subst h2
          have : (bs F.nm).getD i 0 ≠ 97 + (n : Int) := fun e => hj ⟨hi', e⟩
          omega
        · have h4 := rising h i hi' j (by omega)
          have h5 := j3 j (Nat.le_refl _) (by omega)
          omega
      · unfold mkB; rw [j4, if_pos hx]; simp
      · unfold mkP; rw [j5, if_pos hx]; simp
theorem made_self {F : Fm} (h : isFormula F = true) : made F.dg F.tn (fun i => ex F (97 + (i : Int))) 26 = F := by
  obtain ⟨j, j1, j2, j3, j4, j5⟩ := self_step h 26 (Nat.le_refl _)
  have hl := (isFormula_len h).1
  have hj : j = F.nm.size := by
    by_cases h1 : j < F.nm.size
    · have h2 := j3 j (Nat.le_refl _) h1
      have h3 := (okAt_parts (valid_at h j h1)).2.1
      omega
    · omega
  unfold made
  rw [j4, j5, hj]
  have e1 : F.nm.data.toList.take F.nm.size = F.nm.data.toList := List.take_of_length_le (by rw [Array.length_toList]; exact Nat.le_refl _)
  have e2 : F.pw.take F.nm.size = F.pw := List.take_of_length_le (by omega)
  rw [e1, e2]
end Go.Z
end
section
namespace Go.Z
theorem raised_ex {R : Fm} {n : Int} (h : (raised R n).2 = 0) (i : Nat) (hi : i < 26) : ex (raised R n).1 (97 + (i : Int)) = n * ex R (97 + (i : Int)) := by
  unfold raised at *
  split
  · rename_i h1
    rw [if_pos h1] at h
    rw [madeOr_ex h, if_pos (by omega)]
    have : (97 + (i : Int) - 97).toNat = i := by omega
    rw [this]; rfl
  · rename_i h1; rw [if_neg h1] at h; exact absurd h h1
end Go.Z
end
section
namespace Go.Proofs.YtmgocfdhngeeiaaGreatDoor
open Go.RowKit
attribute [local go_sem ↓] Go.wp_at_zero Go.wp_at_succ
end Go.Proofs.YtmgocfdhngeeiaaGreatDoor
end
section
namespace Go.Z
theorem raise_ex {E : Eqn} {n : Int} (h : (RaiseSides E n).2 = 0) (i : Nat) (hi : i < 26) :
    ex (RaiseSides E n).1.L (97 + (i : Int)) = n * ex E.L (97 + (i : Int)) ∧ ex (RaiseSides E n).1.R (97 + (i : Int)) = n * ex E.R (97 + (i : Int)) := by
  unfold RaiseSides at h ⊢
  by_cases h1 : isEquation E = true
  · rw [if_pos h1] at h ⊢
    by_cases h4 : n = 0
    · rw [if_pos h4] at h; simp at h
    · rw [if_neg h4] at h ⊢
      by_cases h5 : pow3 n = true
      · rw [if_pos h5] at h ⊢
        unfold bothOf at h ⊢
        by_cases h2 : (raised E.L n).2 = 0
        · by_cases h3 : (raised E.R n).2 = 0
          · rw [if_pos h2, if_pos h3]
            exact ⟨raised_ex h2 i hi, raised_ex h3 i hi⟩
          · rw [if_pos h2, if_neg h3] at h; exact absurd h h3
        · rw [if_neg h2] at h; exact absurd h h2
      · rw [if_neg h5] at h; simp at h
  · rw [if_neg h1] at h; simp at h
end Go.Z
end
section
namespace Go.Z
theorem ExponentOf_ok {F : Fm} (h : isFormula F = true) (c : Int) : ExponentOf F c = (ex F c, 0) := by unfold ExponentOf; rw [h]; rfl
end Go.Z
end
section
namespace Go.Z
theorem ex_zero {F : Fm} (h : isFormula F = true) {x : Int} (hx : ∀ j, j < F.nm.size → x ≠ (bs F.nm).getD j 0) : ex F x = 0 := by
  have hl := (isFormula_len h).1
  unfold ex
  have h1 : ∀ (n : Nat), n ≤ F.nm.size → expo ((bs F.nm).take n) (F.pw.take n) x = 0 := by
    intro n
    induction n with
    | zero => intro _; simp [expo]
    | succ n ih =>
      intro hn
      have b1 : n < (bs F.nm).length := by rw [bs_length]; omega
      have b2 : n < F.pw.length := by omega
      rw [List.take_succ_eq_append_getElem b1, List.take_succ_eq_append_getElem b2]
      have e1 : (bs F.nm)[n] = (bs F.nm).getD n 0 := by simp [List.getD_eq_getElem?_getD, b1]
      have e2 : F.pw[n] = F.pw.getD n 0 := by simp [List.getD_eq_getElem?_getD, b2]
      rw [e1, e2, expo_snoc _ _ _ (by simp [bs_length, hl]) (fresh_at h n (by omega)), if_neg (fun e => hx n (by omega) e.symm), ih (by omega)]
  have h2 := h1 F.nm.size (Nat.le_refl _)
  rwa [List.take_of_length_le (by rw [bs_length]; exact Nat.le_refl _), List.take_of_length_le (by omega)] at h2
/-- what has been undone, and what is no letter of the left side -/
theorem isoK_gone {E : Eqn} (h : isEquation E = true) (c : Int) (k : Nat) (hk : k ≤ E.L.nm.size) {A : Eqn} (hr : runL E (isoK (bs E.L.nm) E.L.pw c k) = some A) :
    (∀ j, j < k → (bs E.L.nm).getD j 0 ≠ c → ex A.L ((bs E.L.nm).getD j 0) = 0) ∧ ∀ x, (∀ j, j < E.L.nm.size → x ≠ (bs E.L.nm).getD j 0) → ex A.L x = ex E.L x := by
  obtain ⟨hL, hR⟩ := isEquation_parts h
  induction k generalizing A with
  | zero => simp only [isoK, runL, List.foldl_nil, Option.some.injEq] at hr; rw [← hr]; exact ⟨fun j hj => by omega, fun _ _ => rfl⟩
  | succ k ih =>
    have hr0 := hr
    unfold isoK at hr
    split at hr
    · rename_i he
      obtain ⟨i1, i2⟩ := ih (by omega) hr
      refine ⟨fun j hj hne => ?_, i2⟩
      by_cases hjk : j = k
      · subst hjk; exact absurd he hne
      · exact i1 j (by omega) hne
    · rename_i hne
      rw [runL_snoc] at hr
      cases hB : runL E (isoK (bs E.L.nm) E.L.pw c k) with
      | none => rw [hB] at hr; cases hr
      | some B =>
        rw [hB] at hr
        obtain ⟨i1, i2⟩ := ih (by omega) hB
        simp only [runS] at hr
        by_cases h0 : (stepEq B ⟨1, (bs E.L.nm).getD k 0, -(E.L.pw.getD k 0)⟩).2 = 0
        · rw [if_pos h0] at hr
          simp only [Option.some.injEq] at hr
          obtain ⟨a1, a2, _⟩ := okAt_parts (valid_at hL k (by omega))
          have ht := fun x => (times_ex (E := B) (m := (bs E.L.nm).getD k 0) (t := -(E.L.pw.getD k 0)) ⟨by omega, by omega⟩ h0 x).1
          have hr' : (TimesFormula B (stepFm ((bs E.L.nm).getD k 0) (-(E.L.pw.getD k 0)))).1 = A := hr
          rw [hr'] at ht
          refine ⟨fun j hj hnc => ?_, fun x hx => ?_⟩
          · rw [ht]
            by_cases hjk : j = k
            · subst hjk
              have hk0 := (isoK_keeps h c j (by omega) hB ((bs E.L.nm).getD j 0) (.inr ⟨j, Nat.le_refl _, by omega, rfl⟩)).1
              rw [if_pos rfl, hk0, ex_at hL j (by omega)]; omega
            · have hlt := rising hL k (by omega) j (by omega)
              rw [if_neg (by omega), i1 j (by omega) hnc]; rfl
          · rw [ht, if_neg (hx k (by omega)), i2 x hx]; omega
        · rw [if_neg h0] at hr; cases hr
theorem isoA_zero {E : Eqn} (h : isEquation E = true) (c : Int) {A : Eqn} (hr : runL E (isoA E c) = some A) (x : Int) (hx : x ≠ c) : ex A.L x = 0 := by
  obtain ⟨g1, g2⟩ := isoK_gone h c E.L.nm.size (Nat.le_refl _) hr
  by_cases hm : ∃ j, j < E.L.nm.size ∧ x = (bs E.L.nm).getD j 0
  · obtain ⟨j, hj, rfl⟩ := hm
    exact g1 j hj hx
  · have hn : ∀ j, j < E.L.nm.size → x ≠ (bs E.L.nm).getD j 0 := fun j hj e => hm ⟨j, hj, e⟩
    rw [g2 x hn, ex_zero (isEquation_parts h).1 hn]
theorem isoB_ex {E : Eqn} (h : isEquation E = true) {c : Int} (hc : ex E.L c ≠ 0) {B : Eqn} (hr : runL E (isoB E c) = some B) : (∀ x, x ≠ c → ex B.L x = 0) ∧ ex B.L c = isoN E c ∧ ex B.R c = 0 := by
  obtain ⟨c1, c2⟩ := ex_letter (isEquation_parts h).1 hc
  by_cases h0 : ex E.R c = 0
  · have e : isoB E c = isoA E c := by unfold isoB; rw [if_pos h0]
    rw [e] at hr
    obtain ⟨hk, h2, _⟩ := iso_last h hc hr
    exact ⟨fun x hx => isoA_zero h c hr x hx, (h2 h0).2, by rw [hk.2, h0]⟩
  · have e : isoB E c = isoA E c ++ [⟨1, c, -(ex E.R c)⟩] := by unfold isoB; rw [if_neg h0]
    cases hA : runL E (isoA E c) with
    | none => rw [e, runL_none hA] at hr; cases hr
    | some A =>
      obtain ⟨hk, _, h3⟩ := iso_last h hc hA
      obtain ⟨h4, h5⟩ := h3 h0
      rw [h4] at hr
      refine ⟨fun x hx => ?_, h5 B hr, ?_⟩
      all_goals
        simp only [runS] at hr
        by_cases h1 : (stepEq A ⟨1, c, -(ex E.R c)⟩).2 = 0
        · rw [if_pos h1] at hr
          simp only [Option.some.injEq] at hr
          have hB' : (TimesFormula A (stepFm c (-(ex E.R c)))).1 = B := hr
          first
            | (have ht := (times_ex (E := A) (m := c) (t := -(ex E.R c)) ⟨by omega, by omega⟩ h1 x).1
               rw [hB', if_neg hx, isoA_zero h c hA x hx] at ht
               exact ht)
            | (have ht := (times_ex (E := A) (m := c) (t := -(ex E.R c)) ⟨by omega, by omega⟩ h1 c).2
               rw [hB', if_pos rfl, hk.2] at ht
               omega)
        · rw [if_neg h1] at hr; cases hr
theorem one_letter : ∀ i0, i0 < 26 → mkP (fun i => if i = i0 then 1 else 0) 26 = [1] ∧ mkB (fun i => if i = i0 then 1 else 0) 26 = [(97 + i0).toUInt8] := by decide
theorem alone {F : Fm} (h : isFormula F = true) {c : Int} (hc : 97 ≤ c ∧ c ≤ 122) (h1 : ex F c = 1) (h0 : ∀ x, x ≠ c → ex F x = 0) : F.nm = ⟨#[UInt8.ofNat c.toNat]⟩ ∧ F.pw = [1] := by
  obtain ⟨i0, rfl⟩ : ∃ i0 : Nat, c = 97 + (i0 : Int) := ⟨(c - 97).toNat, by omega⟩
  have e := made_self h
  have e2 : made F.dg F.tn (fun i => ex F (97 + (i : Int))) 26 = made F.dg F.tn (fun i => if i = i0 then 1 else 0) 26 := made_congr fun i hi => by
    show ex F (97 + (i : Int)) = if i = i0 then 1 else 0
    split
    · rename_i hi'; subst hi'; exact h1
    · rename_i hi'; exact h0 _ (by omega)
  obtain ⟨k1, k2⟩ := one_letter i0 (by omega)
  have n1 : F.nm = (made F.dg F.tn (fun i => if i = i0 then 1 else 0) 26).nm := by rw [← e2, e]
  have n2 : F.pw = (made F.dg F.tn (fun i => if i = i0 then 1 else 0) 26).pw := by rw [← e2, e]
  rw [n1, n2]
  refine ⟨?_, k1⟩
  show (⟨(mkB _ 26).toArray⟩ : ByteArray) = _
  rw [k2]
  have : (97 + (i0 : Int)).toNat = 97 + i0 := by omega
  rw [this]
theorem isolated_law {E : Eqn} {c : Int} (h : (IsolateName E c).2 = 0) :
    ∃ A, RunSteps E (IsolateName E c).1 = (A, 0) ∧ isEquation A = true ∧ A.L.nm = ⟨#[UInt8.ofNat c.toNat]⟩ ∧ A.L.pw = [1] ∧ ExponentOf A.R c = (0, 0) := by
  cases hE : isEquation E
  · rw [iso_bad hE] at h; cases h
  by_cases hc : ex E.L c = 0
  · rw [iso_none hE hc] at h; cases h
  have hlet := ex_letter (isEquation_parts hE).1 hc
  cases hr : runL E (isoB E c) with
  | none => rw [iso_fail hE hc hr] at h; cases h
  | some B =>
    obtain ⟨b0, b1, b2⟩ := isoB_ex hE hc hr
    have hB := runL_ok hE _ hr
    by_cases n0 : isoN E c = 0
    · rw [iso_zero hE hc hr n0] at h; cases h
    by_cases n1 : isoN E c = 1
    · rw [iso_one hE hc hr n1]
      obtain ⟨a, b⟩ := isoB_parts hE hc
      obtain ⟨f1, f2⟩ := alone (isEquation_parts hB).1 hlet (by rw [b1, n1]) b0
      refine ⟨B, ?_, hB, f1, f2, ?_⟩
      · show RunSteps E (isoB E c) = _
        rw [RunSteps_runL hE a (by omega), hr]; rfl
      · rw [ExponentOf_ok (isEquation_parts hB).2, b2]
    by_cases n2 : isoN E c = -1
    · rw [iso_neg hE hc hr n2] at h ⊢
      by_cases h0 : (stepEq B ⟨2, 0, -1⟩).2 = 0
      · rw [if_pos h0] at h ⊢
        obtain ⟨a, b⟩ := isoC_parts hE hc
        have e : isoC E c = isoB E c ++ [⟨2, 0, -1⟩] := by unfold isoC; rw [if_pos n2]
        rw [e] at a b
        have hA : runL E (isoB E c ++ [⟨2, 0, -1⟩]) = some (stepEq B ⟨2, 0, -1⟩).1 := by
          rw [runL_snoc, hr]; simp only [runS]; rw [if_pos h0]
        have hAe := runL_ok hE _ hA
        have hx : ∀ i : Nat, i < 26 → ex (stepEq B ⟨2, 0, -1⟩).1.L (97 + (i : Int)) = -1 * ex B.L (97 + (i : Int)) ∧ ex (stepEq B ⟨2, 0, -1⟩).1.R (97 + (i : Int)) = -1 * ex B.R (97 + (i : Int)) := fun i hi => raise_ex (E := B) (n := -1) h0 i hi
        generalize (stepEq B ⟨2, 0, -1⟩).1 = A at *
        have hxc := hx (c - 97).toNat (by omega)
        rw [show (97 + ((c - 97).toNat : Int)) = c by omega, b1, b2, n2] at hxc
        obtain ⟨f1, f2⟩ := alone (isEquation_parts hAe).1 hlet (by rw [hxc.1]; rfl) (fun x hxn => by
          by_cases hl : 97 ≤ x ∧ x ≤ 122
          · have h_ := (hx (x - 97).toNat (by omega)).1
            rw [show (97 + ((x - 97).toNat : Int)) = x by omega, b0 x hxn] at h_
            exact h_
          · exact ex_out (isEquation_parts hAe).1 hl)
        refine ⟨A, ?_, hAe, f1, f2, ?_⟩
        · show RunSteps E (isoB E c ++ [⟨2, 0, -1⟩]) = _
          rw [RunSteps_runL hE a (by omega), hA]; rfl
        · rw [ExponentOf_ok (isEquation_parts hAe).2, hxc.2]; rfl
      · rw [if_neg h0] at h; cases h
    · rw [iso_other hE hc hr n0 n1 n2] at h; cases h
end Go.Z
end
section
namespace Go.K
open Go.RowKit
theorem ints.grown {w w' : World} {lo hi : Nat} {v : Value} {xs : List Int} {row : Option Nat} (h : K.ints w lo hi v xs) (hg : w.grownBy w' row) (hne : ∀ k, row = some k → k < lo ∨ hi ≤ k) : K.ints w' lo hi v xs := by
  obtain ⟨o, cap, rfl, h⟩ := h
  exact ⟨o, cap, rfl, fun hn => by
    obtain ⟨b, off, rfl, h1, h2, h3⟩ := h hn
    refine ⟨b, off, rfl, h1, h2, fun i hi => ?_⟩
    rw [hg.cell_far _ (World.block_lt_of_cell? w _ (h3 i hi)) (fun e => by have := hne b e.symm; omega)]
    exact h3 i hi⟩
end Go.K
namespace Go.Proofs.YtmgocfdhngeeiaaGreatDoor
open Go.RowKit
theorem of_Q {Q : Prop} (h : Q ∧ True) : Q := h.1
set_option maxRecDepth 100000 in
set_option maxHeartbeats 12800000 in
theorem isoDo_any (A : Z.Eqn) (s : Z.St) (M : Z.Eqn × Int) (L : List Z.St) (a b B ll gr cr : Nat) {l r l' r' : Nat} {o o' : Option Addr} {c c' : Nat} (W w : World) (hM : M = Z.stepEq A s) (hs : Z.isStep s = true) (h1 : A.L.pw.length ≤ 1048576) (h2 : A.L.nm.size ≤ 1048576) (h3 : A.R.pw.length ≤ 1048576) (h4 : A.R.nm.size ≤ 1048576)
    (HA : w.heap[a]? = some (.cells #[.int .i64 A.L.dg, .int .i64 A.L.tn, .string A.L.nm, .slice o A.L.pw.length c, .int .i64 A.R.dg, .int .i64 A.R.tn, .string A.R.nm, .slice o' A.R.pw.length c'] 44)) (HB : w.heap[b]? = some (.cells #[.slice (some ⟨gr, 0, none⟩) ll cr] 47)) (hab : a ≠ b)
    (h : K.ints w l r (.slice o A.L.pw.length c) A.L.pw) (h' : K.ints w l' r' (.slice o' A.R.pw.length c') A.R.pw)
    (HR : w.ownsRow B 89 3 (.slice (some ⟨gr, 0, none⟩) ll cr) ll (K.StR.cells L)) (hl : ll ≤ 100) (ng : gr ≠ a) (ng' : gr ≠ b) (hX : K.Ext W w) (hWa : W.heap.size ≤ a) (hWb : W.heap.size ≤ b) (hWB : W.heap.size ≤ B) :
    Calls Tryz.prog 68 #[.agg #[.int .i64 s.kd, .int .u8 s.nm, .int .i64 s.pw], .pointer (some ⟨a, 0, none⟩), .pointer (some ⟨b, 0, none⟩)] w fun e w' => e = .returned (.bool (M.2 == 0)) ∧
      (∃ oa ca ob cb g' c' m, w'.heap[a]? = some (.cells #[.int .i64 M.1.L.dg, .int .i64 M.1.L.tn, .string M.1.L.nm, .slice oa M.1.L.pw.length ca, .int .i64 M.1.R.dg, .int .i64 M.1.R.tn, .string M.1.R.nm, .slice ob M.1.R.pw.length cb] 44) ∧ w'.heap[b]? = some (.cells #[.slice (some ⟨g', 0, none⟩) (ll + 1) c'] 47) ∧
        w'.ownsRow B 89 3 (.slice (some ⟨g', 0, none⟩) (ll + 1) c') (ll + 1) (K.StR.cells (L ++ [s])) ∧ K.ints w' w.heap.size m (.slice oa M.1.L.pw.length ca) M.1.L.pw ∧ K.ints w' w.heap.size m (.slice ob M.1.R.pw.length cb) M.1.R.pw ∧ g' ≠ a ∧ g' ≠ b) ∧
      K.Ext W w' ∧ (∀ k ob, k < B → k ≠ a → k ≠ b → w.heap[k]? = some ob → w'.heap[k]? = some ob) := by
  have HS : Hid (∀ (w : World) {x y x' y' : Nat} {p q : Value}, K.ints w x y p A.L.pw → K.ints w x' y' q A.R.pw → Calls Tryz.prog 69 #[.agg #[.int .i64 A.L.dg, .int .i64 A.L.tn, .string A.L.nm, p, .int .i64 A.R.dg, .int .i64 A.R.tn, .string A.R.nm, q], .agg #[.int .i64 s.kd, .int .u8 s.nm, .int .i64 s.pw]] w fun e w' => (∃ p' q' m, e = .returned (.tuple #[.agg #[.int .i64 M.1.L.dg, .int .i64 M.1.L.tn, .string M.1.L.nm, p', .int .i64 M.1.R.dg, .int .i64 M.1.R.tn, .string M.1.R.nm, q'], .bool (M.2 == 0)]) ∧ w.heap.size ≤ m ∧ m ≤ w'.heap.size ∧ K.own w' w.heap.size m p' M.1.L.pw ∧ K.own w' m w'.heap.size q' M.1.R.pw) ∧ K.Ext w w') := Z.hide (fun w => fun h h' => by rw [hM]; exact stepped_any A s w hs h1 h2 h3 h4 h h')
  obtain ⟨it0, hi0, hz0, hz1, hz2⟩ := info_parts info_step
  have lgr := HR.lt gr rfl
  have HHA := Z.hide HA
  have HHB := Z.hide HB
  have HHR := Z.hide HR
  have HHL := Z.hide h
  have HHL' := Z.hide h'
  obtain ⟨R, hR⟩ : ∃ R, R = (M.2 == 0) := ⟨_, rfl⟩
  rw [← hR] at HS ⊢
  have la : a < w.heap.size := (Array.getElem?_eq_some_iff.1 HA).1
  have lb : b < w.heap.size := (Array.getElem?_eq_some_iff.1 HB).1
  have na : ¬ (a = w.heap.size) := by omega
  have nb : ¬ (b = w.heap.size) := by omega
  obtain ⟨b1_c0, b1_c1, b1_c2, b1_c3, b1_c4, b1_c5, b1_c6, b1_c7, b1_f0, b1_f1, b1_f2, b1_f3, b1_f4, b1_f5, b1_f6, b1_f7⟩ := K.bk8 (w := w) (a) (.int .i64 (A.L.dg)) (.int .i64 (A.L.tn)) (.string A.L.nm) (.slice o A.L.pw.length c) (.int .i64 (A.R.dg)) (.int .i64 (A.R.tn)) (.string A.R.nm) (.slice o' A.R.pw.length c') (HHA.out)
  have x0 : w.cell? ⟨b, 0, none⟩ = some (.slice (some ⟨gr, 0, none⟩) ll cr) := K.cell_at HB rfl
  have xf : w.frozen? ⟨b, 0, none⟩ = false := K.thaw_at HB
  obtain ⟨d, nm, t⟩ := s
  clear hM hs hR HA HB HR h h' h1 h2 h3 h4
  dsimp only at HS ⊢
  go_enter Tryz.func68, Tryz.ntmps68
  go_wp2_with (first | ((go_at_call 69; refine K.call (by with_reducible rfl) (by with_reducible rfl) (HS.out _ (HHL.out.alloc _) (HHL'.out.alloc _)) ?_; rintro e w6 ⟨⟨p6, q6, m6, rfl, l6, l6', g6, g6'⟩, hw6⟩; obtain ⟨o6, c6, rfl, _⟩ := K.own.ints g6; obtain ⟨o7, c7, rfl, _⟩ := K.own.ints g6'); have s6 := hw6.size; simp at s6 l6; have D0 := Z.hide (show w6.heap[a]? = some (.cells #[.int .i64 A.L.dg, .int .i64 A.L.tn, .string A.L.nm, .slice o A.L.pw.length c, .int .i64 A.R.dg, .int .i64 A.R.tn, .string A.R.nm, .slice o' A.R.pw.length c'] 44) from K.Ext.block_of (K.Ext.block_of HHA.out ((K.Ext.refl _).alloc _)) hw6); have D1 := Z.hide (show w6.heap[b]? = some (.cells #[.slice (some ⟨gr, 0, none⟩) ll cr] 47) from K.Ext.block_of (K.Ext.block_of HHB.out ((K.Ext.refl _).alloc _)) hw6); have D2 := Z.hide (show w6.heap[w.heap.size]? = some (.cells #[.int .i64 d, .int .u8 nm, .int .i64 t] 89) from K.Ext.block_of (K.block_new rfl) hw6); have R6 := Z.hide (K.row_ext (HHR.out.alloc _) hw6); have X6 := Z.hide ((hX.alloc _).trans hw6); have HK6 : Hid (∀ k ob, w.heap[k]? = some ob → w6.heap[k]? = some ob) := Z.hide (fun k ob h_ => K.Ext.block_of (K.Ext.block_of h_ ((K.Ext.refl _).alloc _)) hw6); have G6 := Z.hide g6.ints; have G6' := Z.hide g6'.ints; obtain ⟨b2_c0, b2_c1, b2_c2, b2_c3, b2_c4, b2_c5, b2_c6, b2_c7, b2_f0, b2_f1, b2_f2, b2_f3, b2_f4, b2_f5, b2_f6, b2_f7⟩ := K.bk8 (w := w6) (a) (.int .i64 (A.L.dg)) (.int .i64 (A.L.tn)) (.string A.L.nm) (.slice o A.L.pw.length c) (.int .i64 (A.R.dg)) (.int .i64 (A.R.tn)) (.string A.R.nm) (.slice o' A.R.pw.length c') (D0.out); have x1 : w6.cell? ⟨b, 0, none⟩ = some (.slice (some ⟨gr, 0, none⟩) ll cr) := K.cell_at D1.out rfl; have x1f : w6.frozen? ⟨b, 0, none⟩ = false := K.thaw_at D1.out; have y0 : w6.cell? ⟨w.heap.size, 0, none⟩ = some (.int .i64 d) := K.cell_at D2.out rfl; have y1 : w6.cell? ⟨w.heap.size, 1, none⟩ = some (.int .u8 nm) := K.cell_at D2.out rfl; have y2 : w6.cell? ⟨w.heap.size, 2, none⟩ = some (.int .i64 t) := K.cell_at D2.out rfl; have e1 : ¬ (a = w6.heap.size) := (by omega); have e2 : ¬ (b = w6.heap.size) := (by omega); have e3 : ¬ (w.heap.size = w6.heap.size) := (by omega); have la6 : a < w6.heap.size := (by omega); have lb6 : b < w6.heap.size := (by omega); have ls6 : w.heap.size < w6.heap.size := (by omega); clear g6 g6' hw6) | (at_builtin; refine of_Q ?_))
  refine ⟨?_, trivial⟩
  refine wpList_append_lies _ rfl _ _ _ rfl B 89 it0 _ 3 24 Tryz.underlying47 hi0 hz0 hz1 hz2 rfl (by omega) (.slice (some ⟨gr, 0, none⟩) ll cr) ll _ rfl ((R6.out.alloc _).alloc _) ⟨w6.heap.size + 1, 0, none⟩ 1 1 [.int .i64 d, .int .u8 nm, .int .i64 t] rfl rfl (World.news_of_block (cs := #[.int .i64 d, .int .u8 nm, .int .i64 t]) (t := 89) (fr := (0, 0)) (K.block_new (by simp))) (by simp [Value.oneCell']) (by omega) (by unfold maxLen; omega) (by omega) (by simp; omega) (w6.heap.size + 1 + 1) (by simp) ?_
  intro g7 cr7 w7 hown7 hgrow7 hat7 hlt7
  have s7 := hgrow7.size
  simp at s7
  have hgr7 : gr = g7 ∨ g7 = w6.heap.size + 1 + 1 := (by rcases hat7 with h_ | h_; (left; simpa [Value.ownBlock] using h_); (right; exact h_))
  have HG7 := Z.hide hgrow7
  have HO7 := Z.hide hown7
  have E0 := Z.hide (K.grown_block hgrow7 (((K.Ext.refl _).alloc _).alloc _ |>.block D0.out) (fun h_ => ng (by simp [Value.ownBlock] at h_; exact h_.symm)))
  have E1 := Z.hide (K.grown_block hgrow7 (((K.Ext.refl _).alloc _).alloc _ |>.block D1.out) (fun h_ => ng' (by simp [Value.ownBlock] at h_; exact h_.symm)))
  have E2 := Z.hide (K.grown_block (k := w6.heap.size) hgrow7 (((K.Ext.refl _).alloc _).block (K.block_new rfl)) (fun h_ => by simp [Value.ownBlock] at h_; omega))
  clear hown7 hgrow7 hat7
  obtain ⟨b3_c0, b3_c1, b3_c2, b3_c3, b3_c4, b3_c5, b3_c6, b3_c7, b3_f0, b3_f1, b3_f2, b3_f3, b3_f4, b3_f5, b3_f6, b3_f7⟩ := K.bk8 (w := w7) (a) (.int .i64 (A.L.dg)) (.int .i64 (A.L.tn)) (.string A.L.nm) (.slice o A.L.pw.length c) (.int .i64 (A.R.dg)) (.int .i64 (A.R.tn)) (.string A.R.nm) (.slice o' A.R.pw.length c') (E0.out)
  have u1 : w7.cell? ⟨b, 0, none⟩ = some (.slice (some ⟨gr, 0, none⟩) ll cr) := K.cell_at E1.out rfl
  have u1f : w7.frozen? ⟨b, 0, none⟩ = false := K.thaw_at E1.out
  obtain ⟨b4_c0, b4_c1, b4_c2, b4_c3, b4_c4, b4_c5, b4_c6, b4_c7, b4_f0, b4_f1, b4_f2, b4_f3, b4_f4, b4_f5, b4_f6, b4_f7⟩ := K.bk8 (w := w7) (w6.heap.size) (.int .i64 (M.1.L.dg)) (.int .i64 (M.1.L.tn)) (.string M.1.L.nm) (.slice o6 M.1.L.pw.length c6) (.int .i64 (M.1.R.dg)) (.int .i64 (M.1.R.tn)) (.string M.1.R.nm) (.slice o7 M.1.R.pw.length c7) (E2.out)
  have f1 : ¬ (a = w6.heap.size) := (by omega)
  have f2 : ¬ (b = w6.heap.size) := (by omega)
  have f3 : ¬ (w6.heap.size = b) := (by omega)
  have f4 : a < w7.heap.size := (by omega)
  have f5 : b < w7.heap.size := (by omega)
  have f6 : w6.heap.size < w7.heap.size := (by omega)
  have f7 : ¬ (a = b) := hab
  have f8 : ¬ (b = a) := fun h_ => hab h_.symm
  go_wp2_with fail
  have lgr1 := lgr.1
  have lgr2 := lgr.2
  have a7 : a ≠ g7 := by rcases hgr7 with h_ | h_ <;> omega
  have b7 : b ≠ g7 := by rcases hgr7 with h_ | h_ <;> omega
  have nrow : ∀ k, (Value.slice (some ⟨gr, 0, none⟩) ll cr).ownBlock = some k → k = gr := fun k h_ => by simp [Value.ownBlock] at h_; exact h_.symm
  refine bodyPost_ret (v := .bool R) (by unfold results; rw [Tryz.results68]; go_simp) rfl ⟨rfl, ⟨o6, c6, o7, c7, g7, cr7, w6.heap.size, ?_, ?_, ?_, ?_, ?_, a7.symm, b7.symm⟩, ?_, ?_⟩
  · exact K.block_set8 ((K.set_block (by dsimp only; omega)).trans E0.out)
  · iterate 8 with_reducible refine Eq.trans (K.set_block (by dsimp only; omega)) ?_
    exact Joins.block_setCell E1.out _
  · rw [K.Rec.cells_snoc]
    iterate 8 with_reducible refine ownsRow_setCell_other ?_ (by simp [Value.ownBlock]; omega) _
    exact ownsRow_setCell_other HO7.out (by simp [Value.ownBlock]; omega) _
  · iterate 9 with_reducible refine K.ints.set ?_ _ (by dsimp only; omega) _
    exact (((G6.out.mono (by simp) l6').alloc _).alloc _).grown HG7.out (fun k h_ => by have := nrow k h_; omega)
  · iterate 9 with_reducible refine K.ints.set ?_ _ (by dsimp only; omega) _
    exact (((G6'.out.mono (by omega) (Nat.le_refl _)).alloc _).alloc _).grown HG7.out (fun k h_ => by have := nrow k h_; omega)
  · iterate 9 with_reducible refine K.Ext.setCell ?_ (by dsimp only; omega) _
    exact ((X6.out.alloc _).alloc _).below.grown HG7.out (by have := X6.out.size; simp; omega) (fun k h_ => by have := nrow k h_; omega)
  · intro k ob k1 k2 k3 k4
    iterate 9 with_reducible refine Eq.trans (K.set_block (by dsimp only; omega)) ?_
    exact K.grown_block HG7.out (((K.Ext.refl _).alloc _).alloc _ |>.block (HK6.out k ob k4)) (fun h_ => by have := nrow k h_.symm; omega)
/-- how far the tool has come: the equation in one block, the steps in another -/
def IsoSt (E : Z.Eqn) (p q : Value) (a b B : Nat) (A : Z.Eqn) (L : List Z.St) (W w : World) : Prop :=
  ∃ oa ca ob cb g cr l r l' r', w.heap[a]? = some (.cells #[.int .i64 A.L.dg, .int .i64 A.L.tn, .string A.L.nm, .slice oa A.L.pw.length ca, .int .i64 A.R.dg, .int .i64 A.R.tn, .string A.R.nm, .slice ob A.R.pw.length cb] 44) ∧ w.heap[b]? = some (.cells #[.slice (some ⟨g, 0, none⟩) L.length cr] 47) ∧
    w.ownsRow B 89 3 (.slice (some ⟨g, 0, none⟩) L.length cr) L.length (K.StR.cells L) ∧ K.ints w l r (.slice oa A.L.pw.length ca) A.L.pw ∧ K.ints w l' r' (.slice ob A.R.pw.length cb) A.R.pw ∧ g ≠ a ∧ g ≠ b ∧ K.Ext W w ∧ w.heap[W.heap.size]? = some (.cells #[.int .i64 E.L.dg, .int .i64 E.L.tn, .string E.L.nm, p, .int .i64 E.R.dg, .int .i64 E.R.tn, .string E.R.nm, q] 44)
theorem IsoSt.ext {E : Z.Eqn} {p q : Value} {a b B : Nat} {A : Z.Eqn} {L : List Z.St} {W w w' : World} (h : IsoSt E p q a b B A L W w) (hx : K.Ext w w') : IsoSt E p q a b B A L W w' := by
  obtain ⟨oa, ca, ob, cb, g, cr, l, r, l', r', h1, h2, h3, h4, h5, h6, h7, h8, h9⟩ := h
  exact ⟨oa, ca, ob, cb, g, cr, l, r, l', r', K.Ext.block_of h1 hx, K.Ext.block_of h2 hx, K.row_ext h3 hx, h4.ext hx, h5.ext hx, h6, h7, h8.trans hx, K.Ext.block_of h9 hx⟩
theorem isoDo_st (E : Z.Eqn) (p q : Value) (a b B : Nat) (A : Z.Eqn) (L : List Z.St) (s : Z.St) (W w : World) (hs : Z.isStep s = true) (hA : Z.isEquation A = true) (h : IsoSt E p q a b B A L W w) (hl : L.length ≤ 100) (hab : a ≠ b) (ha : W.heap.size < a) (hb : W.heap.size < b) (hB : W.heap.size < B) :
    Calls Tryz.prog 68 #[.agg #[.int .i64 s.kd, .int .u8 s.nm, .int .i64 s.pw], .pointer (some ⟨a, 0, none⟩), .pointer (some ⟨b, 0, none⟩)] w fun e w' => e = .returned (.bool ((Z.stepEq A s).2 == 0)) ∧ IsoSt E p q a b B (Z.stepEq A s).1 (L ++ [s]) W w' := by
  obtain ⟨oa, ca, ob, cb, g, cr, l, r, l', r', h1, h2, h3, h4, h5, h6, h7, h8, h9⟩ := h
  have le := Z.isEquation_le hA
  refine (isoDo_any A s _ L a b B L.length g cr W w rfl hs le.1 le.2.1 le.2.2.1 le.2.2.2 h1 h2 hab h4 h5 h3 hl h6 h7 h8 (by omega) (by omega) (by omega)).mono ?_
  rintro e w' ⟨rfl, ⟨oa', ca', ob', cb', g', c', m, k1, k2, k3, k4, k5, k6, k7⟩, k8, k9⟩
  have ln : (L ++ [s]).length = L.length + 1 := by simp
  exact ⟨rfl, oa', ca', ob', cb', g', c', _, _, _, _, k1, by rw [ln]; exact k2, by rw [ln]; exact k3, k4, k5, k6, k7, k8, k9 _ _ hB (by omega) (by omega) h9⟩
end Go.Proofs.YtmgocfdhngeeiaaGreatDoor
end
section
namespace Go.Z
theorem isoK_eq {ns ps : List Int} {c : Int} {k : Nat} {y : Int} (hy : y = ns.getD k 0) (h : y = c) : isoK ns ps c (k + 1) = isoK ns ps c k := by
  have h' : ns.getD k 0 = c := by rw [← hy]; exact h
  simp only [isoK]; rw [if_pos h']
theorem isoK_ne {ns ps : List Int} {c : Int} {k : Nat} {y : Int} (hy : y = ns.getD k 0) (h : ¬ y = c) : isoK ns ps c (k + 1) = isoK ns ps c k ++ [⟨1, y, -(ps.getD k 0)⟩] := by
  have h' : ¬ ns.getD k 0 = c := by rw [← hy]; exact h
  simp only [isoK]; rw [if_neg h', hy]
end Go.Z
namespace Go.Proofs.YtmgocfdhngeeiaaGreatDoor
open Go.RowKit
set_option maxRecDepth 100000 in
set_option maxHeartbeats 25600000 in
theorem spec_IsolateName (E : Z.Eqn) (c : Int) {l1 r1 l2 r2 : Nat} {p q : Value} (w : World) (hm : E.L.pw.length ≤ 1048576) (hn : E.L.nm.size ≤ 1048576) (hm' : E.R.pw.length ≤ 1048576) (hn' : E.R.nm.size ≤ 1048576) (h : K.ints w l1 r1 p E.L.pw) (h' : K.ints w l2 r2 q E.R.pw) (hb : 0 ≤ c ∧ c ≤ 255) :
    Calls Tryz.prog 21 #[.agg #[.int .i64 E.L.dg, .int .i64 E.L.tn, .string E.L.nm, p, .int .i64 E.R.dg, .int .i64 E.R.tn, .string E.R.nm, q], .int .u8 c] w fun e w' => (∃ v', e = .returned (.tuple #[v', .int .i64 (Z.IsolateName E c).2]) ∧ K.recs true K.StR w' w.heap.size w'.heap.size v' (Z.IsolateName E c).1) ∧ K.Ext w w' := by
  obtain ⟨M, hM⟩ : ∃ M, M = Z.IsolateName E c := ⟨_, rfl⟩
  rw [← hM]
  have g1 := h
  obtain ⟨o1, c1, rfl, _⟩ := g1
  have g2 := h'
  obtain ⟨o2, c2, rfl, _⟩ := g2
  have HHL := Z.hide h
  have HHR := Z.hide h'
  cases vE : Z.isEquation E
  · have HE : Hid (M = ([], 1)) := Z.hide (by rw [hM]; exact Z.iso_bad vE c)
    have HI : Hid (∀ w' : World, K.Ext w w' → Calls Tryz.prog 70 #[.agg #[.int .i64 E.L.dg, .int .i64 E.L.tn, .string E.L.nm, .slice o1 E.L.pw.length c1, .int .i64 E.R.dg, .int .i64 E.R.tn, .string E.R.nm, .slice o2 E.R.pw.length c2]] w' fun e w'' => e = .returned (.bool false) ∧ K.Ext w' w'') := Z.hide (fun w' hx => by have h_ := spec_IsEquation E w' hm hn hm' hn' (HHL.out.ext hx) (HHR.out.ext hx); rwa [vE] at h_)
    clear hM h h'
    go_enter Tryz.func21, Tryz.ntmps21
    go_wp2_with ((go_at_call 70; refine K.call (by with_reducible rfl) (by with_reducible rfl) (HI.out _ K.bel) ?_; rintro e w1 ⟨rfl, hw1⟩))
    rw [HE.out]
    go_ret2
    exact ⟨⟨_, rfl, K.recs_nil _ _ _⟩, K.bel⟩
  have HI : Hid (∀ w' : World, K.Ext w w' → Calls Tryz.prog 70 #[.agg #[.int .i64 E.L.dg, .int .i64 E.L.tn, .string E.L.nm, .slice o1 E.L.pw.length c1, .int .i64 E.R.dg, .int .i64 E.R.tn, .string E.R.nm, .slice o2 E.R.pw.length c2]] w' fun e w'' => e = .returned (.bool true) ∧ K.Ext w' w'') := Z.hide (fun w' hx => by have h_ := spec_IsEquation E w' hm hn hm' hn' (HHL.out.ext hx) (HHR.out.ext hx); rwa [vE] at h_)
  obtain ⟨vL, vR⟩ := Z.isEquation_parts vE
  have lL := Z.isFormula_len vL
  have lR := Z.isFormula_len vR
  obtain ⟨n, hnn⟩ : ∃ n, n = Z.ex E.L c := ⟨_, rfl⟩
  obtain ⟨m, hmm⟩ : ∃ m, m = Z.ex E.R c := ⟨_, rfl⟩
  have nb := Z.ex_bd vL c
  have mb := Z.ex_bd vR c
  rw [← hnn] at nb
  rw [← hmm] at mb
  have HXL : Hid (∀ w' : World, K.Ext w w' → Calls Tryz.prog 71 #[.agg #[.int .i64 E.L.dg, .int .i64 E.L.tn, .string E.L.nm, .slice o1 E.L.pw.length c1], .int .u8 c] w' fun e w'' => e = .returned (.int .i64 n) ∧ K.Ext w' w'') := Z.hide (fun w' hx => by rw [hnn]; exact l18Exponent_any E.L c _ _ _ w' lL.1 (by omega) (HHL.out.ext hx))
  have HXR : Hid (∀ w' : World, K.Ext w w' → Calls Tryz.prog 71 #[.agg #[.int .i64 E.R.dg, .int .i64 E.R.tn, .string E.R.nm, .slice o2 E.R.pw.length c2], .int .u8 c] w' fun e w'' => e = .returned (.int .i64 m) ∧ K.Ext w' w'') := Z.hide (fun w' hx => by rw [hmm]; exact l18Exponent_any E.R c _ _ _ w' lR.1 (by omega) (HHR.out.ext hx))
  by_cases hc0 : n = 0
  · have HE : Hid (M = ([], 4)) := Z.hide (by rw [hM]; exact Z.iso_none vE (by rw [← hnn]; exact hc0))
    subst hc0
    clear hM h h' hnn hmm lL lR vL vR vE
    go_enter Tryz.func21, Tryz.ntmps21
    go_wp2_with (first | ((go_at_call 70; refine K.call (by with_reducible rfl) (by with_reducible rfl) (HI.out _ K.bel) ?_; rintro e w1 ⟨rfl, hw1⟩); have X1 := K.Ext.trans (show K.Ext w _ from K.bel) hw1; obtain ⟨c_w1_0_0, c_w1_0_1, c_w1_0_2, c_w1_0_3, c_w1_0_4, c_w1_0_5, c_w1_0_6, c_w1_0_7, f_w1_0_0, f_w1_0_1, f_w1_0_2, f_w1_0_3, f_w1_0_4, f_w1_0_5, f_w1_0_6, f_w1_0_7⟩ := K.kp8 hw1 (w.heap.size) (.int .i64 (E.L.dg)) (.int .i64 (E.L.tn)) (.string E.L.nm) (.slice o1 E.L.pw.length c1) (.int .i64 (E.R.dg)) (.int .i64 (E.R.tn)) (.string E.R.nm) (.slice o2 E.R.pw.length c2); have z1 := hw1.size; simp at z1) | ((go_at_call 71; refine K.call (by with_reducible rfl) (by with_reducible rfl) (HXL.out _ X1) ?_; rintro e w2 ⟨rfl, hw2⟩)))
    rw [HE.out]
    go_ret2
    exact ⟨⟨_, rfl, K.recs_nil _ _ _⟩, X1.trans hw2⟩
  have hce : Z.ex E.L c ≠ 0 := by rw [← hnn]; exact hc0
  have hc0b : (n == 0) = false := by simpa using hc0
  have HRS : Hid (∀ (l : List Z.St) (R : Z.Eqn × Int), Z.RunSteps E l = R → l.length ≤ 100 → ∀ {x y : Nat} {v : Value} (w' : World), K.Ext w w' → K.recs false K.StR w' x y v l → Calls Tryz.prog 72 #[.agg #[.int .i64 E.L.dg, .int .i64 E.L.tn, .string E.L.nm, .slice o1 E.L.pw.length c1, .int .i64 E.R.dg, .int .i64 E.R.tn, .string E.R.nm, .slice o2 E.R.pw.length c2], v] w' fun e w'' => (∃ oa na ka ob nb kb, e = .returned (.tuple #[.agg #[.int .i64 R.1.L.dg, .int .i64 R.1.L.tn, .string R.1.L.nm, .slice oa na ka, .int .i64 R.1.R.dg, .int .i64 R.1.R.tn, .string R.1.R.nm, .slice ob nb kb], .int .i64 R.2])) ∧ K.Ext w' w'') := Z.hide (fun l R hR hl x y v w' hx hv => by
    rw [← hR]
    exact (spec_RunSteps E l w' hm hn hm' hn' (HHL.out.ext hx) (HHR.out.ext hx) (by omega) hv).mono fun e w'' ⟨⟨p', q', he, h1_, h2_⟩, hw⟩ => by
      obtain ⟨oa, ka, rfl, _⟩ := h1_
      obtain ⟨ob, kb, rfl, _⟩ := h2_
      exact ⟨⟨oa, _, ka, ob, _, kb, he⟩, hw⟩)
  obtain ⟨it0, hi0, hz0, hz1, hz2⟩ := info_parts info_step
  obtain ⟨N, hN⟩ : ∃ N, N = E.L.nm.size := ⟨_, rfl⟩
  have HN := Z.hide hN
  have HL6 : Hid (∀ k, k ≤ N → (Z.isoK (Z.bs E.L.nm) E.L.pw c k).length ≤ 6) := Z.hide (fun k hk => by have := Z.isoK_len (Z.bs E.L.nm) E.L.pw c k; omega)
  have HVA : Hid (∀ k, k < N → -6 ≤ E.L.pw.getD k 0 ∧ E.L.pw.getD k 0 ≤ 6) := Z.hide (fun k hk => by have := Z.okAt_parts (Z.valid_at vL k (by omega)); exact ⟨this.2.2.2.2.1, this.2.2.2.2.2⟩)
  have HMD := Z.hide hM
  have HVE := Z.hide vE
  have HCE := Z.hide hce
  have HNN := Z.hide hnn
  have HMM := Z.hide hmm
  have N6 : N ≤ 6 := by omega
  have HPL : Hid (E.L.pw.length = N) := Z.hide (by omega)
  clear hM h h' vE vL vR lL lR hce hnn hmm hN hm hn hm' hn'
  go_enter Tryz.func21, Tryz.ntmps21
  go_wp2_with (first | ((go_at_call 70; refine K.call (by with_reducible rfl) (by with_reducible rfl) (HI.out _ K.bel) ?_; rintro e w1 ⟨rfl, hw1⟩); have X1 := K.Ext.trans (show K.Ext w _ from K.bel) hw1; obtain ⟨c_w1_0_0, c_w1_0_1, c_w1_0_2, c_w1_0_3, c_w1_0_4, c_w1_0_5, c_w1_0_6, c_w1_0_7, f_w1_0_0, f_w1_0_1, f_w1_0_2, f_w1_0_3, f_w1_0_4, f_w1_0_5, f_w1_0_6, f_w1_0_7⟩ := K.kp8 hw1 (w.heap.size) (.int .i64 (E.L.dg)) (.int .i64 (E.L.tn)) (.string E.L.nm) (.slice o1 E.L.pw.length c1) (.int .i64 (E.R.dg)) (.int .i64 (E.R.tn)) (.string E.R.nm) (.slice o2 E.R.pw.length c2); have z1 := hw1.size; simp at z1) | ((go_at_call 71; refine K.call (by with_reducible rfl) (by with_reducible rfl) (HXL.out _ X1) ?_; rintro e w2 ⟨rfl, hw2⟩); have X2 := X1.trans hw2; obtain ⟨c_w2_0_0, c_w2_0_1, c_w2_0_2, c_w2_0_3, c_w2_0_4, c_w2_0_5, c_w2_0_6, c_w2_0_7, f_w2_0_0, f_w2_0_1, f_w2_0_2, f_w2_0_3, f_w2_0_4, f_w2_0_5, f_w2_0_6, f_w2_0_7⟩ := K.kp8 hw2 (w.heap.size) (.int .i64 (E.L.dg)) (.int .i64 (E.L.tn)) (.string E.L.nm) (.slice o1 E.L.pw.length c1) (.int .i64 (E.R.dg)) (.int .i64 (E.R.tn)) (.string E.R.nm) (.slice o2 E.R.pw.length c2); have z2 := hw2.size))
  have HX2 := Z.hide X2
  have B2 := Z.hide (show w2.heap[w.heap.size]? = some (.cells #[.int .i64 E.L.dg, .int .i64 E.L.tn, .string E.L.nm, .slice o1 E.L.pw.length c1, .int .i64 E.R.dg, .int .i64 E.R.tn, .string E.R.nm, .slice o2 E.R.pw.length c2] 44) from hw2.block (hw1.block (K.block_new rfl)))
  clear hw1 hw2 X1 X2 HI
  go_loopw [6, 7] (fun out i wr => ∃ k : Nat, k ≤ N ∧ i = .int .i64 k ∧ Hid (wr.ownsRow w2.heap.size 89 3 out (Z.isoK (Z.bs E.L.nm) E.L.pw c k).length (K.StR.cells (Z.isoK (Z.bs E.L.nm) E.L.pw c k))) ∧ Hid (wr.heap[w.heap.size]? = some (.cells #[.int .i64 E.L.dg, .int .i64 E.L.tn, .string E.L.nm, .slice o1 E.L.pw.length c1, .int .i64 E.R.dg, .int .i64 E.R.tn, .string E.R.nm, .slice o2 E.R.pw.length c2] 44)) ∧ (w2.heap.size + 1 ≤ wr.heap.size ∧ Hid (K.Ext w wr))) (fun _ i _ => N - (intOf i).toNat)
  case atStart => exact ⟨0, Nat.zero_le _, rfl, Z.hide (K.row_lit3 rfl (Nat.le_refl _)), Z.hide (K.Ext.block_of B2.out ((K.Ext.refl _).alloc _)), by simp, Z.hide (HX2.out.alloc _)⟩
  case round =>
    obtain ⟨k, hk, rfl, HO, HB, lz, HX⟩ := hrel
    have k0 : (0 : Int) ≤ (k : Int) := Int.natCast_nonneg k
    obtain ⟨b1_c0, b1_c1, b1_c2, b1_c3, b1_c4, b1_c5, b1_c6, b1_c7, b1_f0, b1_f1, b1_f2, b1_f3, b1_f4, b1_f5, b1_f6, b1_f7⟩ := K.bk8 (w := wr) (w.heap.size) (.int .i64 (E.L.dg)) (.int .i64 (E.L.tn)) (.string E.L.nm) (.slice o1 E.L.pw.length c1) (.int .i64 (E.R.dg)) (.int .i64 (E.R.tn)) (.string E.R.nm) (.slice o2 E.R.pw.length c2) (HB.out)
    have hNn : (E.L.nm.size : Int) = (N : Int) := by rw [HN.out]
    have lw := HX.out.size
    have lb : w.heap.size < wr.heap.size := World.block_lt_of_cell? wr _ b1_c0
    have nw0 : ¬ (w.heap.size = wr.heap.size) := by omega
    by_cases hlt : k < N
    · have k1 : (k : Int) < (N : Int) := by omega
      have hkn : k < E.L.nm.size := by rw [← HN.out]; exact hlt
      obtain ⟨y, hy⟩ : ∃ y : Int, y = ((E.L.nm[k]'hkn).toNat : Int) := ⟨_, rfl⟩
      have HY : Hid (y = (Z.bs E.L.nm).getD k 0) := Z.hide (by rw [hy]; exact Z.bs_get E.L.nm k hkn)
      have hy' := hy.symm
      clear hy
      by_cases hyc : y = c
      · have HT := Z.hide (Z.isoK_eq (ps := E.L.pw) HY.out hyc)
        go_wp2
        go_roundw
        case rel => exact ⟨k + 1, by omega, by go_num, Z.hide (by rw [HT.out]; exact HO.out), HB, lz, HX⟩
        case measure => first | (simp [intOf]; done) | (simp [intOf]; omega)
      · have HT := Z.hide (Z.isoK_ne (ps := E.L.pw) HY.out hyc)
        obtain ⟨v1, v2⟩ := HVA.out k hlt
        obtain ⟨o_, c_, he_, hh⟩ := HHL.out
        obtain ⟨b, off, hoo, _, _, hc⟩ := hh (by intro h0; have := HPL.out; rw [h0] at this; simp at this; omega)
        obtain rfl : o1 = some ⟨b, off, none⟩ := by simp at he_; rw [he_.1]; exact hoo
        have hck := HX.out.cell_of (hc k (by rw [HPL.out]; exact hlt))
        have lbw : b < w.heap.size := World.block_lt_of_cell? w _ (hc k (by rw [HPL.out]; exact hlt))
        have hpl : (E.L.pw.length : Int) = (N : Int) := by rw [HPL.out]
        obtain ⟨lk, hlk⟩ : ∃ lk, lk = (Z.isoK (Z.bs E.L.nm) E.L.pw c k).length := ⟨_, rfl⟩
        have HLK := Z.hide hlk
        have lk6 : lk ≤ 6 := by rw [hlk]; exact HL6.out k hk
        have HO' : Hid (wr.ownsRow w2.heap.size 89 3 u6 lk (K.StR.cells (Z.isoK (Z.bs E.L.nm) E.L.pw c k))) := Z.hide (by rw [hlk]; exact HO.out)
        have HA : Hid (∀ g, u6.ownBlock = some g → w2.heap.size ≤ g) := Z.hide (fun g hg => (HO'.out.lt g hg).1)
        have ag : u6.ownBlock ≠ some b := fun he => by have := HA.out b he; omega
        have ag' : u6.ownBlock ≠ some w.heap.size := fun he => by have := HA.out w.heap.size he; omega
        have lr : b < wr.heap.size := by omega
        clear hc hh hlk he_ hoo HO HA
        generalize E.L.pw.getD k 0 = x at *
        have q1 : IntKind.i64.wrap (-x) = -x := IntWalk.i64_in _ (by omega)
        go_wp2_with fail
        go_region_held3 (fun w' => w'.cell? ⟨w.heap.size, 2, none⟩ = some (.string E.L.nm) ∧ w'.cell? ⟨w.heap.size, 3, none⟩ = some (.slice (some ⟨b, off, none⟩) E.L.pw.length c1) ∧ w'.cell? ⟨b, off + k, none⟩ = some (.int .i64 x))
          (first | go_keep | (go_split_ands; exact ⟨(hgrow.cell_far _ (by simp; omega) (Ne.symm ag')).trans (by assumption), (hgrow.cell_far _ (by simp; omega) (Ne.symm ag')).trans (by assumption), (hgrow.cell_far _ (by simp; omega) (Ne.symm ag)).trans (by assumption)⟩))
          ((refine step_append_lies _ (by rfl) _ _ _ (by rfl) w2.heap.size 89 it0 _ 3 24 Tryz.underlying47 hi0 hz0 hz1 hz2 rfl (by omega) u6 lk _ (by rfl) ((HO'.out.alloc _).drew) ⟨wr.heap.size, 0, none⟩ 1 1 [.int .i64 1, .int .u8 y, .int .i64 (-x)] (by rfl) (by rfl) (World.news_of_block (cs := #[.int .i64 1, .int .u8 y, .int .i64 (-x)]) (t := 89) (fr := (0, 0)) (heap_alloc_new wr _)) (by simp [Value.oneCell']) (by omega) (by unfold maxLen; omega) (by omega) (by simp; omega) (wr.heap.size + 1) (by simp) ?_; intro gg gcap w1 hown1 hgrow hat hlt))
        have HO1 := Z.hide hown1
        have HX1 : Hid (K.Ext w w1) := Z.hide (((HX.out.alloc _).drew.below.grown hgrow (by simp; omega) (fun g hg => by first | exact Nat.le_trans (by omega) (HO'.out.lt g hg).1 | skip)))
        have HB1 : Hid (w1.heap[w.heap.size]? = some (.cells #[.int .i64 E.L.dg, .int .i64 E.L.tn, .string E.L.nm, .slice (some ⟨b, off, none⟩) E.L.pw.length c1, .int .i64 E.R.dg, .int .i64 E.R.tn, .string E.R.nm, .slice o2 E.R.pw.length c2] 44)) := Z.hide (K.grown_block hgrow (((K.Ext.refl _).alloc _).drew.block HB.out) (Ne.symm ag'))
        have lz1 : w2.heap.size + 1 ≤ w1.heap.size := by have h_ := hgrow.size; simp at h_; omega
        clear hown1 hgrow hat
        go_wp2
        go_roundw
        case rel => exact ⟨k + 1, by omega, by go_num, Z.hide (by rw [HT.out, K.Rec.cells_snoc, List.length_append, List.length_singleton, ← HLK.out]; exact HO1.out), HB1, lz1, HX1⟩
        case measure => first | (simp [intOf]; done) | (simp [intOf]; omega)
    · obtain rfl : k = N := by omega
      obtain ⟨L, hL⟩ : ∃ L, L = Z.isoA E c := ⟨_, rfl⟩
      have hLk : Z.isoK (Z.bs E.L.nm) E.L.pw c k = L := by rw [hL, HN.out]; rfl
      rw [hLk] at HO
      have L6 : L.length ≤ 6 := by rw [← hLk]; exact HL6.out k (Nat.le_refl _)
      have HLA := Z.hide hL
      obtain ⟨ll, hll⟩ : ∃ ll, ll = L.length := ⟨_, rfl⟩
      have HLL := Z.hide hll
      rw [← hll] at HO L6
      have Xwr := HX.out
      clear hL hLk hll HHL HHR HVA HL6 HX2 B2
      have AG0 : u6.ownBlock ≠ some w.heap.size := fun he => by have := (HO.out.lt _ he).1; omega
      by_cases hm0 : m = 0
      · skip
        have HIB : Hid (Z.isoB E c = L) := Z.hide (by unfold Z.isoB; rw [if_pos (by rw [← HMM.out]; exact hm0), ← HLA.out])
        have HIN : Hid (Z.isoN E c = n) := Z.hide (by unfold Z.isoN; rw [← HNN.out, ← HMM.out, hm0]; omega)
        have d12 : -12 ≤ n ∧ n ≤ 12 := by omega
        obtain ⟨RB, hRB⟩ : ∃ R, R = Z.RunSteps E L := ⟨_, rfl⟩
        have HPB : Hid (Z.allSt L = true ∧ L.length ≤ 7) := Z.hide (by have h_ := Z.isoB_parts HVE.out HCE.out; rwa [HIB.out] at h_)
        have HRB : Hid (RB = Z.ranOr (Z.runL E (Z.isoB E c))) := Z.hide (by rw [hRB, HIB.out]; exact Z.RunSteps_runL HVE.out HPB.out.1 (by have := HPB.out.2; omega))
        have HB1 : Hid (∀ {x y : Nat} {v : Value} (w' : World), K.Ext w w' → K.recs false K.StR w' x y v L → Calls Tryz.prog 72 #[.agg #[.int .i64 E.L.dg, .int .i64 E.L.tn, .string E.L.nm, .slice o1 E.L.pw.length c1, .int .i64 E.R.dg, .int .i64 E.R.tn, .string E.R.nm, .slice o2 E.R.pw.length c2], v] w' fun e w'' => (∃ oa na ka ob nb kb, e = .returned (.tuple #[.agg #[.int .i64 RB.1.L.dg, .int .i64 RB.1.L.tn, .string RB.1.L.nm, .slice oa na ka, .int .i64 RB.1.R.dg, .int .i64 RB.1.R.tn, .string RB.1.R.nm, .slice ob nb kb], .int .i64 RB.2])) ∧ K.Ext w' w'') := Z.hide (fun w' hx hv => HRS.out L RB hRB.symm (by have := HPB.out.2; omega) w' hx hv)
        clear hRB HPB
        cases hr : Z.runL E (Z.isoB E c) with
        | none =>
          have HE : Hid (M = ([], 5)) := Z.hide (by rw [HMD.out]; exact Z.iso_fail HVE.out HCE.out hr)
          have hcode : ¬ (RB.2 = 0) := by rw [HRB.out, hr]; exact Z.ranOr_none
          clear hr
          go_wp2_with (first | ((go_at_call 71; refine K.call (by with_reducible rfl) (by with_reducible rfl) (HXL.out _ Xwr) ?_; rintro e w3 ⟨rfl, hw3⟩); have X3 := K.Ext.trans Xwr hw3; have R3 := K.row_ext HO.out hw3; have B3 := K.Ext.block_of HB.out hw3; obtain ⟨b2_c0, b2_c1, b2_c2, b2_c3, b2_c4, b2_c5, b2_c6, b2_c7, b2_f0, b2_f1, b2_f2, b2_f3, b2_f4, b2_f5, b2_f6, b2_f7⟩ := K.bk8 (w := w3) (w.heap.size) (.int .i64 (E.L.dg)) (.int .i64 (E.L.tn)) (.string E.L.nm) (.slice o1 E.L.pw.length c1) (.int .i64 (E.R.dg)) (.int .i64 (E.R.tn)) (.string E.R.nm) (.slice o2 E.R.pw.length c2) (B3); have z3 := hw3.size; (try simp at z3); have y3 : w.heap.size < w3.heap.size := (by omega); have v3 : ¬ (w.heap.size = w3.heap.size) := (by omega)) | ((go_at_call 71; refine K.call (by with_reducible rfl) (by with_reducible rfl) (HXR.out _ X3) ?_; rintro e w4 ⟨rfl, hw4⟩); have X4 := K.Ext.trans X3 hw4; have R4 := K.row_ext R3 hw4; have B4 := K.Ext.block_of B3 hw4; obtain ⟨b3_c0, b3_c1, b3_c2, b3_c3, b3_c4, b3_c5, b3_c6, b3_c7, b3_f0, b3_f1, b3_f2, b3_f3, b3_f4, b3_f5, b3_f6, b3_f7⟩ := K.bk8 (w := w4) (w.heap.size) (.int .i64 (E.L.dg)) (.int .i64 (E.L.tn)) (.string E.L.nm) (.slice o1 E.L.pw.length c1) (.int .i64 (E.R.dg)) (.int .i64 (E.R.tn)) (.string E.R.nm) (.slice o2 E.R.pw.length c2) (B4); have z4 := hw4.size; (try simp at z4); have y4 : w.heap.size < w4.heap.size := (by omega); have v4 : ¬ (w.heap.size = w4.heap.size) := (by omega)))
          go_wp2_with (first | ((go_at_call 72; refine K.call (by with_reducible rfl) (by with_reducible rfl) (HB1.out _ X4 (K.recs.plain (K.recs_of_row R4 (by decide)))) ?_; rintro e w5 ⟨⟨oa5, na5, ka5, ob5, nb5, kb5, rfl⟩, hw5⟩); have X5 := K.Ext.trans X4 hw5; have R5 := K.row_ext R4 hw5; have B5 := K.Ext.block_of B4 hw5; obtain ⟨b4_c0, b4_c1, b4_c2, b4_c3, b4_c4, b4_c5, b4_c6, b4_c7, b4_f0, b4_f1, b4_f2, b4_f3, b4_f4, b4_f5, b4_f6, b4_f7⟩ := K.bk8 (w := w5) (w.heap.size) (.int .i64 (E.L.dg)) (.int .i64 (E.L.tn)) (.string E.L.nm) (.slice o1 E.L.pw.length c1) (.int .i64 (E.R.dg)) (.int .i64 (E.R.tn)) (.string E.R.nm) (.slice o2 E.R.pw.length c2) (B5); have z5 := hw5.size; (try simp at z5); have y5 : w.heap.size < w5.heap.size := (by omega); have v5 : ¬ (w.heap.size = w5.heap.size) := (by omega)))
          rw [HE.out]
          go_ret2
          exact ⟨⟨_, rfl, K.recs_nil _ _ _⟩, K.bel⟩
        | some B =>
          have hcode : RB.2 = 0 := by rw [HRB.out, hr]; rfl
          have HRL := Z.hide hr
          clear hr
          by_cases d0 : n = 0
          · exact absurd d0 hc0
          by_cases d1 : n = 1
          · have HE : Hid (M = (L, 0)) := Z.hide (by rw [HMD.out, ← HIB.out]; exact Z.iso_one HVE.out HCE.out HRL.out (by rw [HIN.out]; exact d1))
            subst d1
            have HAB : ∀ w : World, Calls Tryz.prog 73 #[.int .i64 1] w fun e w' => e = .returned (.int .i64 1) ∧ w = w' := fun w => l01Abs_any 1 w (by decide) (by decide)
            go_wp2_with (first | ((go_at_call 71; refine K.call (by with_reducible rfl) (by with_reducible rfl) (HXL.out _ Xwr) ?_; rintro e w3 ⟨rfl, hw3⟩); have X3 := K.Ext.trans Xwr hw3; have R3 := K.row_ext HO.out hw3; have B3 := K.Ext.block_of HB.out hw3; obtain ⟨b5_c0, b5_c1, b5_c2, b5_c3, b5_c4, b5_c5, b5_c6, b5_c7, b5_f0, b5_f1, b5_f2, b5_f3, b5_f4, b5_f5, b5_f6, b5_f7⟩ := K.bk8 (w := w3) (w.heap.size) (.int .i64 (E.L.dg)) (.int .i64 (E.L.tn)) (.string E.L.nm) (.slice o1 E.L.pw.length c1) (.int .i64 (E.R.dg)) (.int .i64 (E.R.tn)) (.string E.R.nm) (.slice o2 E.R.pw.length c2) (B3); have z3 := hw3.size; (try simp at z3); have y3 : w.heap.size < w3.heap.size := (by omega); have v3 : ¬ (w.heap.size = w3.heap.size) := (by omega)) | ((go_at_call 71; refine K.call (by with_reducible rfl) (by with_reducible rfl) (HXR.out _ X3) ?_; rintro e w4 ⟨rfl, hw4⟩); have X4 := K.Ext.trans X3 hw4; have R4 := K.row_ext R3 hw4; have B4 := K.Ext.block_of B3 hw4; obtain ⟨b6_c0, b6_c1, b6_c2, b6_c3, b6_c4, b6_c5, b6_c6, b6_c7, b6_f0, b6_f1, b6_f2, b6_f3, b6_f4, b6_f5, b6_f6, b6_f7⟩ := K.bk8 (w := w4) (w.heap.size) (.int .i64 (E.L.dg)) (.int .i64 (E.L.tn)) (.string E.L.nm) (.slice o1 E.L.pw.length c1) (.int .i64 (E.R.dg)) (.int .i64 (E.R.tn)) (.string E.R.nm) (.slice o2 E.R.pw.length c2) (B4); have z4 := hw4.size; (try simp at z4); have y4 : w.heap.size < w4.heap.size := (by omega); have v4 : ¬ (w.heap.size = w4.heap.size) := (by omega)))
            go_wp2_with (first | ((go_at_call 72; refine K.call (by with_reducible rfl) (by with_reducible rfl) (HB1.out _ X4 (K.recs.plain (K.recs_of_row R4 (by decide)))) ?_; rintro e w5 ⟨⟨oa5, na5, ka5, ob5, nb5, kb5, rfl⟩, hw5⟩); have X5 := K.Ext.trans X4 hw5; have R5 := K.row_ext R4 hw5; have B5 := K.Ext.block_of B4 hw5; obtain ⟨b7_c0, b7_c1, b7_c2, b7_c3, b7_c4, b7_c5, b7_c6, b7_c7, b7_f0, b7_f1, b7_f2, b7_f3, b7_f4, b7_f5, b7_f6, b7_f7⟩ := K.bk8 (w := w5) (w.heap.size) (.int .i64 (E.L.dg)) (.int .i64 (E.L.tn)) (.string E.L.nm) (.slice o1 E.L.pw.length c1) (.int .i64 (E.R.dg)) (.int .i64 (E.R.tn)) (.string E.R.nm) (.slice o2 E.R.pw.length c2) (B5); have z5 := hw5.size; (try simp at z5); have y5 : w.heap.size < w5.heap.size := (by omega); have v5 : ¬ (w.heap.size = w5.heap.size) := (by omega)))
            go_wp2_with (go_at_call 73; refine K.call (by with_reducible rfl) (by with_reducible rfl) (HAB _) ?_; rintro e w' ⟨rfl, rfl⟩)
            go_wp2_with (first | ((go_at_call 72; refine K.call (by with_reducible rfl) (by with_reducible rfl) (HB1.out _ (X5.alloc _) (K.recs.plain (K.recs_of_row (R5.alloc _) (by decide)))) ?_; rintro e w6 ⟨⟨oa6, na6, ka6, ob6, nb6, kb6, rfl⟩, hw6⟩); have X6 := K.Ext.trans (X5.alloc _) hw6; have R6 := K.row_ext (R5.alloc _) hw6; have B6 := K.Ext.block_of (K.Ext.block_of B5 ((K.Ext.refl _).alloc _)) hw6; obtain ⟨b8_c0, b8_c1, b8_c2, b8_c3, b8_c4, b8_c5, b8_c6, b8_c7, b8_f0, b8_f1, b8_f2, b8_f3, b8_f4, b8_f5, b8_f6, b8_f7⟩ := K.bk8 (w := w6) (w.heap.size) (.int .i64 (E.L.dg)) (.int .i64 (E.L.tn)) (.string E.L.nm) (.slice o1 E.L.pw.length c1) (.int .i64 (E.R.dg)) (.int .i64 (E.R.tn)) (.string E.R.nm) (.slice o2 E.R.pw.length c2) (B6); have z6 := hw6.size; (try simp at z6); have y6 : w.heap.size < w6.heap.size := (by omega); have v6 : ¬ (w.heap.size = w6.heap.size) := (by omega)))
            rw [HE.out]
            go_ret2
            exact ⟨⟨_, rfl, (K.recs_of_row (R6.alloc _) (by decide)).mono (by omega) (by simp)⟩, X6.alloc _⟩
          by_cases d2 : n = -1
          · have HM1 : Hid (M = if (Z.stepEq B ⟨2, 0, -1⟩).2 = 0 then (L ++ [⟨2, 0, -1⟩], 0) else ([], 5)) := Z.hide (by rw [HMD.out, ← HIB.out]; exact Z.iso_neg HVE.out HCE.out HRL.out (by rw [HIN.out]; exact d2))
            obtain ⟨RC, hRC⟩ : ∃ R, R = Z.RunSteps E (L ++ [⟨2, 0, -1⟩]) := ⟨_, rfl⟩
            have HPC : Hid (Z.allSt (L ++ [⟨2, 0, -1⟩]) = true ∧ (L ++ [⟨2, 0, -1⟩] : List Z.St).length ≤ 8) := Z.hide (by have h_ := Z.isoC_parts HVE.out HCE.out; unfold Z.isoC at h_; rwa [if_pos (by rw [HIN.out]; exact d2), HIB.out] at h_)
            have hRC2 : RC = Z.ranOr (Z.runS (some B) ⟨2, 0, -1⟩) := by rw [hRC, Z.RunSteps_runL HVE.out HPC.out.1 (by have := HPC.out.2; omega), Z.runL_snoc, ← HIB.out, HRL.out]
            have HC1 : Hid (∀ {x y : Nat} {v : Value} (w' : World), K.Ext w w' → K.recs false K.StR w' x y v (L ++ [⟨2, 0, -1⟩]) → Calls Tryz.prog 72 #[.agg #[.int .i64 E.L.dg, .int .i64 E.L.tn, .string E.L.nm, .slice o1 E.L.pw.length c1, .int .i64 E.R.dg, .int .i64 E.R.tn, .string E.R.nm, .slice o2 E.R.pw.length c2], v] w' fun e w'' => (∃ oa na ka ob nb kb, e = .returned (.tuple #[.agg #[.int .i64 RC.1.L.dg, .int .i64 RC.1.L.tn, .string RC.1.L.nm, .slice oa na ka, .int .i64 RC.1.R.dg, .int .i64 RC.1.R.tn, .string RC.1.R.nm, .slice ob nb kb], .int .i64 RC.2])) ∧ K.Ext w' w'') := Z.hide (fun w' hx hv => HRS.out (L ++ [⟨2, 0, -1⟩]) RC hRC.symm (by have := HPC.out.2; omega) w' hx hv)
            clear hRC HPC
            subst d2
            have HAB : ∀ w : World, Calls Tryz.prog 73 #[.int .i64 (-1)] w fun e w' => e = .returned (.int .i64 1) ∧ w = w' := fun w => l01Abs_any (-1) w (by decide) (by decide)
            by_cases hz : (Z.stepEq B ⟨2, 0, -1⟩).2 = 0
            · have HE : Hid (M = (L ++ [⟨2, 0, -1⟩], 0)) := Z.hide (by rw [HM1.out, if_pos hz])
              have hcode2 : RC.2 = 0 := by rw [hRC2]; simp only [Z.runS]; rw [if_pos hz]; rfl
              clear hRC2 hz HM1
              go_wp2_with (first | ((go_at_call 71; refine K.call (by with_reducible rfl) (by with_reducible rfl) (HXL.out _ Xwr) ?_; rintro e w3 ⟨rfl, hw3⟩); have X3 := K.Ext.trans Xwr hw3; have R3 := K.row_ext HO.out hw3; have B3 := K.Ext.block_of HB.out hw3; obtain ⟨b9_c0, b9_c1, b9_c2, b9_c3, b9_c4, b9_c5, b9_c6, b9_c7, b9_f0, b9_f1, b9_f2, b9_f3, b9_f4, b9_f5, b9_f6, b9_f7⟩ := K.bk8 (w := w3) (w.heap.size) (.int .i64 (E.L.dg)) (.int .i64 (E.L.tn)) (.string E.L.nm) (.slice o1 E.L.pw.length c1) (.int .i64 (E.R.dg)) (.int .i64 (E.R.tn)) (.string E.R.nm) (.slice o2 E.R.pw.length c2) (B3); have z3 := hw3.size; (try simp at z3); have y3 : w.heap.size < w3.heap.size := (by omega); have v3 : ¬ (w.heap.size = w3.heap.size) := (by omega)) | ((go_at_call 71; refine K.call (by with_reducible rfl) (by with_reducible rfl) (HXR.out _ X3) ?_; rintro e w4 ⟨rfl, hw4⟩); have X4 := K.Ext.trans X3 hw4; have R4 := K.row_ext R3 hw4; have B4 := K.Ext.block_of B3 hw4; obtain ⟨b10_c0, b10_c1, b10_c2, b10_c3, b10_c4, b10_c5, b10_c6, b10_c7, b10_f0, b10_f1, b10_f2, b10_f3, b10_f4, b10_f5, b10_f6, b10_f7⟩ := K.bk8 (w := w4) (w.heap.size) (.int .i64 (E.L.dg)) (.int .i64 (E.L.tn)) (.string E.L.nm) (.slice o1 E.L.pw.length c1) (.int .i64 (E.R.dg)) (.int .i64 (E.R.tn)) (.string E.R.nm) (.slice o2 E.R.pw.length c2) (B4); have z4 := hw4.size; (try simp at z4); have y4 : w.heap.size < w4.heap.size := (by omega); have v4 : ¬ (w.heap.size = w4.heap.size) := (by omega)))
              go_wp2_with (first | ((go_at_call 72; refine K.call (by with_reducible rfl) (by with_reducible rfl) (HB1.out _ X4 (K.recs.plain (K.recs_of_row R4 (by decide)))) ?_; rintro e w5 ⟨⟨oa5, na5, ka5, ob5, nb5, kb5, rfl⟩, hw5⟩); have X5 := K.Ext.trans X4 hw5; have R5 := K.row_ext R4 hw5; have B5 := K.Ext.block_of B4 hw5; obtain ⟨b11_c0, b11_c1, b11_c2, b11_c3, b11_c4, b11_c5, b11_c6, b11_c7, b11_f0, b11_f1, b11_f2, b11_f3, b11_f4, b11_f5, b11_f6, b11_f7⟩ := K.bk8 (w := w5) (w.heap.size) (.int .i64 (E.L.dg)) (.int .i64 (E.L.tn)) (.string E.L.nm) (.slice o1 E.L.pw.length c1) (.int .i64 (E.R.dg)) (.int .i64 (E.R.tn)) (.string E.R.nm) (.slice o2 E.R.pw.length c2) (B5); have z5 := hw5.size; (try simp at z5); have y5 : w.heap.size < w5.heap.size := (by omega); have v5 : ¬ (w.heap.size = w5.heap.size) := (by omega)))
              have AG5 : ((u6) : Value).ownBlock ≠ some w.heap.size := fun he => by have := (R5.lt _ he).1; omega
              have R5' := R5.alloc (.cells #[.int .i64 RB.1.L.dg, .int .i64 RB.1.L.tn, .string RB.1.L.nm, .slice oa5 na5 ka5, .int .i64 RB.1.R.dg, .int .i64 RB.1.R.tn, .string RB.1.R.nm, .slice ob5 nb5 kb5] 44)
              have X5' := X5.alloc (.cells #[.int .i64 RB.1.L.dg, .int .i64 RB.1.L.tn, .string RB.1.L.nm, .slice oa5 na5 ka5, .int .i64 RB.1.R.dg, .int .i64 RB.1.R.tn, .string RB.1.R.nm, .slice ob5 nb5 kb5] 44)
              have B5' := K.Ext.block_of B5 ((K.Ext.refl _).alloc (.cells #[.int .i64 RB.1.L.dg, .int .i64 RB.1.L.tn, .string RB.1.L.nm, .slice oa5 na5 ka5, .int .i64 RB.1.R.dg, .int .i64 RB.1.R.tn, .string RB.1.R.nm, .slice ob5 nb5 kb5] 44))
              go_wp2_with (first | (go_at_call 73; refine K.call (by with_reducible rfl) (by with_reducible rfl) (HAB _) ?_; rintro e w' ⟨rfl, rfl⟩) | (at_builtin; refine wpList_append_lies _ rfl _ _ _ rfl (w2.heap.size) 89 it0 _ 3 24 Tryz.underlying47 hi0 hz0 hz1 hz2 rfl (by omega) (u6) (ll) _ rfl (R5'.alloc _) ⟨w5.heap.size + 1, 0, none⟩ 1 1 [.int .i64 (2), .int .u8 (0), .int .i64 (-1)] rfl rfl (World.news_of_block (cs := #[.int .i64 (2), .int .u8 (0), .int .i64 (-1)]) (t := 89) (fr := (0, 0)) (K.block_new (by simp))) (by simp [Value.oneCell']) (by omega) (by unfold maxLen; omega) (by omega) (by simp; omega) (w5.heap.size + 1 + 1) (by simp) ?_; intro gD gcD wD hownD hgrowD hatD hltD; have HRD : Hid (∀ g, ((u6) : Value).ownBlock = some g → w2.heap.size ≤ g) := Z.hide (fun g hg => (R5'.lt g hg).1); have HPD := Z.hide hownD; have qD := HPD.out.lt gD rfl; have HXD : Hid (K.Ext w wD) := Z.hide ((X5'.alloc _).below.grown hgrowD (by simp; omega) (fun g hg => by have := HRD.out g hg; omega)); have HBD := Z.hide (K.grown_block hgrowD (((K.Ext.refl _).alloc _).block B5') (Ne.symm AG5)); clear hownD hgrowD hatD; obtain ⟨b12_c0, b12_c1, b12_c2, b12_c3, b12_c4, b12_c5, b12_c6, b12_c7, b12_f0, b12_f1, b12_f2, b12_f3, b12_f4, b12_f5, b12_f6, b12_f7⟩ := K.bk8 (w := wD) (w.heap.size) (.int .i64 (E.L.dg)) (.int .i64 (E.L.tn)) (.string E.L.nm) (.slice o1 E.L.pw.length c1) (.int .i64 (E.R.dg)) (.int .i64 (E.R.tn)) (.string E.R.nm) (.slice o2 E.R.pw.length c2) (HBD.out); have zD := HXD.out.size; have yD : w.heap.size < wD.heap.size := (Array.getElem?_eq_some_iff.1 HBD.out).1))
              have RD : wD.ownsRow w2.heap.size 89 3 (.slice (some ⟨gD, 0, none⟩) (ll + 1) gcD) (ll + 1) (K.StR.cells (L ++ [⟨2, 0, -1⟩])) := by rw [K.Rec.cells_snoc]; exact HPD.out
              go_wp2_with (first | ((go_at_call 72; refine K.call (by with_reducible rfl) (by with_reducible rfl) (HC1.out _ HXD.out (K.recs.plain (K.recs_of_row RD (by decide)))) ?_; rintro e w6 ⟨⟨oa6, na6, ka6, ob6, nb6, kb6, rfl⟩, hw6⟩); have X6 := K.Ext.trans HXD.out hw6; have R6 := K.row_ext RD hw6; have B6 := K.Ext.block_of HBD.out hw6; obtain ⟨b13_c0, b13_c1, b13_c2, b13_c3, b13_c4, b13_c5, b13_c6, b13_c7, b13_f0, b13_f1, b13_f2, b13_f3, b13_f4, b13_f5, b13_f6, b13_f7⟩ := K.bk8 (w := w6) (w.heap.size) (.int .i64 (E.L.dg)) (.int .i64 (E.L.tn)) (.string E.L.nm) (.slice o1 E.L.pw.length c1) (.int .i64 (E.R.dg)) (.int .i64 (E.R.tn)) (.string E.R.nm) (.slice o2 E.R.pw.length c2) (B6); have z6 := hw6.size; (try simp at z6); have y6 : w.heap.size < w6.heap.size := (by omega); have v6 : ¬ (w.heap.size = w6.heap.size) := (by omega)))
              rw [HE.out]
              go_ret2
              exact ⟨⟨_, rfl, (K.recs_of_row (R6.alloc _) (by decide)).mono (by omega) (by simp)⟩, X6.alloc _⟩
            · have HE : Hid (M = ([], 5)) := Z.hide (by rw [HM1.out, if_neg hz])
              have hcode2 : ¬ (RC.2 = 0) := by rw [hRC2]; simp only [Z.runS]; rw [if_neg hz]; exact Z.ranOr_none
              clear hRC2 hz HM1
              go_wp2_with (first | ((go_at_call 71; refine K.call (by with_reducible rfl) (by with_reducible rfl) (HXL.out _ Xwr) ?_; rintro e w3 ⟨rfl, hw3⟩); have X3 := K.Ext.trans Xwr hw3; have R3 := K.row_ext HO.out hw3; have B3 := K.Ext.block_of HB.out hw3; obtain ⟨b14_c0, b14_c1, b14_c2, b14_c3, b14_c4, b14_c5, b14_c6, b14_c7, b14_f0, b14_f1, b14_f2, b14_f3, b14_f4, b14_f5, b14_f6, b14_f7⟩ := K.bk8 (w := w3) (w.heap.size) (.int .i64 (E.L.dg)) (.int .i64 (E.L.tn)) (.string E.L.nm) (.slice o1 E.L.pw.length c1) (.int .i64 (E.R.dg)) (.int .i64 (E.R.tn)) (.string E.R.nm) (.slice o2 E.R.pw.length c2) (B3); have z3 := hw3.size; (try simp at z3); have y3 : w.heap.size < w3.heap.size := (by omega); have v3 : ¬ (w.heap.size = w3.heap.size) := (by omega)) | ((go_at_call 71; refine K.call (by with_reducible rfl) (by with_reducible rfl) (HXR.out _ X3) ?_; rintro e w4 ⟨rfl, hw4⟩); have X4 := K.Ext.trans X3 hw4; have R4 := K.row_ext R3 hw4; have B4 := K.Ext.block_of B3 hw4; obtain ⟨b15_c0, b15_c1, b15_c2, b15_c3, b15_c4, b15_c5, b15_c6, b15_c7, b15_f0, b15_f1, b15_f2, b15_f3, b15_f4, b15_f5, b15_f6, b15_f7⟩ := K.bk8 (w := w4) (w.heap.size) (.int .i64 (E.L.dg)) (.int .i64 (E.L.tn)) (.string E.L.nm) (.slice o1 E.L.pw.length c1) (.int .i64 (E.R.dg)) (.int .i64 (E.R.tn)) (.string E.R.nm) (.slice o2 E.R.pw.length c2) (B4); have z4 := hw4.size; (try simp at z4); have y4 : w.heap.size < w4.heap.size := (by omega); have v4 : ¬ (w.heap.size = w4.heap.size) := (by omega)))
              go_wp2_with (first | ((go_at_call 72; refine K.call (by with_reducible rfl) (by with_reducible rfl) (HB1.out _ X4 (K.recs.plain (K.recs_of_row R4 (by decide)))) ?_; rintro e w5 ⟨⟨oa5, na5, ka5, ob5, nb5, kb5, rfl⟩, hw5⟩); have X5 := K.Ext.trans X4 hw5; have R5 := K.row_ext R4 hw5; have B5 := K.Ext.block_of B4 hw5; obtain ⟨b16_c0, b16_c1, b16_c2, b16_c3, b16_c4, b16_c5, b16_c6, b16_c7, b16_f0, b16_f1, b16_f2, b16_f3, b16_f4, b16_f5, b16_f6, b16_f7⟩ := K.bk8 (w := w5) (w.heap.size) (.int .i64 (E.L.dg)) (.int .i64 (E.L.tn)) (.string E.L.nm) (.slice o1 E.L.pw.length c1) (.int .i64 (E.R.dg)) (.int .i64 (E.R.tn)) (.string E.R.nm) (.slice o2 E.R.pw.length c2) (B5); have z5 := hw5.size; (try simp at z5); have y5 : w.heap.size < w5.heap.size := (by omega); have v5 : ¬ (w.heap.size = w5.heap.size) := (by omega)))
              have AG5 : ((u6) : Value).ownBlock ≠ some w.heap.size := fun he => by have := (R5.lt _ he).1; omega
              have R5' := R5.alloc (.cells #[.int .i64 RB.1.L.dg, .int .i64 RB.1.L.tn, .string RB.1.L.nm, .slice oa5 na5 ka5, .int .i64 RB.1.R.dg, .int .i64 RB.1.R.tn, .string RB.1.R.nm, .slice ob5 nb5 kb5] 44)
              have X5' := X5.alloc (.cells #[.int .i64 RB.1.L.dg, .int .i64 RB.1.L.tn, .string RB.1.L.nm, .slice oa5 na5 ka5, .int .i64 RB.1.R.dg, .int .i64 RB.1.R.tn, .string RB.1.R.nm, .slice ob5 nb5 kb5] 44)
              have B5' := K.Ext.block_of B5 ((K.Ext.refl _).alloc (.cells #[.int .i64 RB.1.L.dg, .int .i64 RB.1.L.tn, .string RB.1.L.nm, .slice oa5 na5 ka5, .int .i64 RB.1.R.dg, .int .i64 RB.1.R.tn, .string RB.1.R.nm, .slice ob5 nb5 kb5] 44))
              go_wp2_with (first | (go_at_call 73; refine K.call (by with_reducible rfl) (by with_reducible rfl) (HAB _) ?_; rintro e w' ⟨rfl, rfl⟩) | (at_builtin; refine wpList_append_lies _ rfl _ _ _ rfl (w2.heap.size) 89 it0 _ 3 24 Tryz.underlying47 hi0 hz0 hz1 hz2 rfl (by omega) (u6) (ll) _ rfl (R5'.alloc _) ⟨w5.heap.size + 1, 0, none⟩ 1 1 [.int .i64 (2), .int .u8 (0), .int .i64 (-1)] rfl rfl (World.news_of_block (cs := #[.int .i64 (2), .int .u8 (0), .int .i64 (-1)]) (t := 89) (fr := (0, 0)) (K.block_new (by simp))) (by simp [Value.oneCell']) (by omega) (by unfold maxLen; omega) (by omega) (by simp; omega) (w5.heap.size + 1 + 1) (by simp) ?_; intro gD gcD wD hownD hgrowD hatD hltD; have HRD : Hid (∀ g, ((u6) : Value).ownBlock = some g → w2.heap.size ≤ g) := Z.hide (fun g hg => (R5'.lt g hg).1); have HPD := Z.hide hownD; have qD := HPD.out.lt gD rfl; have HXD : Hid (K.Ext w wD) := Z.hide ((X5'.alloc _).below.grown hgrowD (by simp; omega) (fun g hg => by have := HRD.out g hg; omega)); have HBD := Z.hide (K.grown_block hgrowD (((K.Ext.refl _).alloc _).block B5') (Ne.symm AG5)); clear hownD hgrowD hatD; obtain ⟨b17_c0, b17_c1, b17_c2, b17_c3, b17_c4, b17_c5, b17_c6, b17_c7, b17_f0, b17_f1, b17_f2, b17_f3, b17_f4, b17_f5, b17_f6, b17_f7⟩ := K.bk8 (w := wD) (w.heap.size) (.int .i64 (E.L.dg)) (.int .i64 (E.L.tn)) (.string E.L.nm) (.slice o1 E.L.pw.length c1) (.int .i64 (E.R.dg)) (.int .i64 (E.R.tn)) (.string E.R.nm) (.slice o2 E.R.pw.length c2) (HBD.out); have zD := HXD.out.size; have yD : w.heap.size < wD.heap.size := (Array.getElem?_eq_some_iff.1 HBD.out).1))
              have RD : wD.ownsRow w2.heap.size 89 3 (.slice (some ⟨gD, 0, none⟩) (ll + 1) gcD) (ll + 1) (K.StR.cells (L ++ [⟨2, 0, -1⟩])) := by rw [K.Rec.cells_snoc]; exact HPD.out
              go_wp2_with (first | ((go_at_call 72; refine K.call (by with_reducible rfl) (by with_reducible rfl) (HC1.out _ HXD.out (K.recs.plain (K.recs_of_row RD (by decide)))) ?_; rintro e w6 ⟨⟨oa6, na6, ka6, ob6, nb6, kb6, rfl⟩, hw6⟩); have X6 := K.Ext.trans HXD.out hw6; have R6 := K.row_ext RD hw6; have B6 := K.Ext.block_of HBD.out hw6; obtain ⟨b18_c0, b18_c1, b18_c2, b18_c3, b18_c4, b18_c5, b18_c6, b18_c7, b18_f0, b18_f1, b18_f2, b18_f3, b18_f4, b18_f5, b18_f6, b18_f7⟩ := K.bk8 (w := w6) (w.heap.size) (.int .i64 (E.L.dg)) (.int .i64 (E.L.tn)) (.string E.L.nm) (.slice o1 E.L.pw.length c1) (.int .i64 (E.R.dg)) (.int .i64 (E.R.tn)) (.string E.R.nm) (.slice o2 E.R.pw.length c2) (B6); have z6 := hw6.size; (try simp at z6); have y6 : w.heap.size < w6.heap.size := (by omega); have v6 : ¬ (w.heap.size = w6.heap.size) := (by omega)))
              rw [HE.out]
              go_ret2
              exact ⟨⟨_, rfl, K.recs_nil _ _ _⟩, K.bel⟩
          · have HE : Hid (M = ([], 5)) := Z.hide (by rw [HMD.out]; exact Z.iso_other HVE.out HCE.out HRL.out (by rw [HIN.out]; exact d0) (by rw [HIN.out]; exact d1) (by rw [HIN.out]; exact d2))
            obtain ⟨u, hu⟩ : ∃ u, u = Z.ab n := ⟨_, rfl⟩
            have hu1 : ¬ u = 1 := by rw [hu]; unfold Z.ab; omega
            have HAB : ∀ w : World, Calls Tryz.prog 73 #[.int .i64 n] w fun e w' => e = .returned (.int .i64 u) ∧ w = w' := fun w => by rw [hu]; exact l01Abs_any n w (by omega) (by omega)
            clear hu
            go_wp2_with (first | ((go_at_call 71; refine K.call (by with_reducible rfl) (by with_reducible rfl) (HXL.out _ Xwr) ?_; rintro e w3 ⟨rfl, hw3⟩); have X3 := K.Ext.trans Xwr hw3; have R3 := K.row_ext HO.out hw3; have B3 := K.Ext.block_of HB.out hw3; obtain ⟨b19_c0, b19_c1, b19_c2, b19_c3, b19_c4, b19_c5, b19_c6, b19_c7, b19_f0, b19_f1, b19_f2, b19_f3, b19_f4, b19_f5, b19_f6, b19_f7⟩ := K.bk8 (w := w3) (w.heap.size) (.int .i64 (E.L.dg)) (.int .i64 (E.L.tn)) (.string E.L.nm) (.slice o1 E.L.pw.length c1) (.int .i64 (E.R.dg)) (.int .i64 (E.R.tn)) (.string E.R.nm) (.slice o2 E.R.pw.length c2) (B3); have z3 := hw3.size; (try simp at z3); have y3 : w.heap.size < w3.heap.size := (by omega); have v3 : ¬ (w.heap.size = w3.heap.size) := (by omega)) | ((go_at_call 71; refine K.call (by with_reducible rfl) (by with_reducible rfl) (HXR.out _ X3) ?_; rintro e w4 ⟨rfl, hw4⟩); have X4 := K.Ext.trans X3 hw4; have R4 := K.row_ext R3 hw4; have B4 := K.Ext.block_of B3 hw4; obtain ⟨b20_c0, b20_c1, b20_c2, b20_c3, b20_c4, b20_c5, b20_c6, b20_c7, b20_f0, b20_f1, b20_f2, b20_f3, b20_f4, b20_f5, b20_f6, b20_f7⟩ := K.bk8 (w := w4) (w.heap.size) (.int .i64 (E.L.dg)) (.int .i64 (E.L.tn)) (.string E.L.nm) (.slice o1 E.L.pw.length c1) (.int .i64 (E.R.dg)) (.int .i64 (E.R.tn)) (.string E.R.nm) (.slice o2 E.R.pw.length c2) (B4); have z4 := hw4.size; (try simp at z4); have y4 : w.heap.size < w4.heap.size := (by omega); have v4 : ¬ (w.heap.size = w4.heap.size) := (by omega)))
            go_wp2_with (first | ((go_at_call 72; refine K.call (by with_reducible rfl) (by with_reducible rfl) (HB1.out _ X4 (K.recs.plain (K.recs_of_row R4 (by decide)))) ?_; rintro e w5 ⟨⟨oa5, na5, ka5, ob5, nb5, kb5, rfl⟩, hw5⟩); have X5 := K.Ext.trans X4 hw5; have R5 := K.row_ext R4 hw5; have B5 := K.Ext.block_of B4 hw5; obtain ⟨b21_c0, b21_c1, b21_c2, b21_c3, b21_c4, b21_c5, b21_c6, b21_c7, b21_f0, b21_f1, b21_f2, b21_f3, b21_f4, b21_f5, b21_f6, b21_f7⟩ := K.bk8 (w := w5) (w.heap.size) (.int .i64 (E.L.dg)) (.int .i64 (E.L.tn)) (.string E.L.nm) (.slice o1 E.L.pw.length c1) (.int .i64 (E.R.dg)) (.int .i64 (E.R.tn)) (.string E.R.nm) (.slice o2 E.R.pw.length c2) (B5); have z5 := hw5.size; (try simp at z5); have y5 : w.heap.size < w5.heap.size := (by omega); have v5 : ¬ (w.heap.size = w5.heap.size) := (by omega)))
            go_wp2_with (go_at_call 73; refine K.call (by with_reducible rfl) (by with_reducible rfl) (HAB _) ?_; rintro e w' ⟨rfl, rfl⟩)
            rw [HE.out]
            go_ret2
            exact ⟨⟨_, rfl, K.recs_nil _ _ _⟩, K.bel⟩
      · skip
        have HIB : Hid (Z.isoB E c = (L ++ [⟨1, c, -m⟩] : List Z.St)) := Z.hide (by unfold Z.isoB; rw [if_neg (by rw [← HMM.out]; exact hm0), ← HLA.out, ← HMM.out])
        obtain ⟨d, hd⟩ : ∃ d, d = n - m := ⟨_, rfl⟩
        have q1 : IntKind.i64.wrap (-m) = -m := IntWalk.i64_in _ (by omega)
        have q2 : IntKind.i64.wrap (n - m) = d := by rw [hd]; exact IntWalk.i64_in _ (by omega)
        have d12 : -12 ≤ d ∧ d ≤ 12 := by omega
        have HIN : Hid (Z.isoN E c = d) := Z.hide (by unfold Z.isoN; rw [← HNN.out, ← HMM.out, hd])
        clear hd
        obtain ⟨RB, hRB⟩ : ∃ R, R = Z.RunSteps E (L ++ [⟨1, c, -m⟩] : List Z.St) := ⟨_, rfl⟩
        have HPB : Hid (Z.allSt (L ++ [⟨1, c, -m⟩] : List Z.St) = true ∧ (L ++ [⟨1, c, -m⟩] : List Z.St).length ≤ 7) := Z.hide (by have h_ := Z.isoB_parts HVE.out HCE.out; rwa [HIB.out] at h_)
        have HRB : Hid (RB = Z.ranOr (Z.runL E (Z.isoB E c))) := Z.hide (by rw [hRB, HIB.out]; exact Z.RunSteps_runL HVE.out HPB.out.1 (by have := HPB.out.2; omega))
        have HB1 : Hid (∀ {x y : Nat} {v : Value} (w' : World), K.Ext w w' → K.recs false K.StR w' x y v (L ++ [⟨1, c, -m⟩] : List Z.St) → Calls Tryz.prog 72 #[.agg #[.int .i64 E.L.dg, .int .i64 E.L.tn, .string E.L.nm, .slice o1 E.L.pw.length c1, .int .i64 E.R.dg, .int .i64 E.R.tn, .string E.R.nm, .slice o2 E.R.pw.length c2], v] w' fun e w'' => (∃ oa na ka ob nb kb, e = .returned (.tuple #[.agg #[.int .i64 RB.1.L.dg, .int .i64 RB.1.L.tn, .string RB.1.L.nm, .slice oa na ka, .int .i64 RB.1.R.dg, .int .i64 RB.1.R.tn, .string RB.1.R.nm, .slice ob nb kb], .int .i64 RB.2])) ∧ K.Ext w' w'') := Z.hide (fun w' hx hv => HRS.out (L ++ [⟨1, c, -m⟩] : List Z.St) RB hRB.symm (by have := HPB.out.2; omega) w' hx hv)
        clear hRB HPB
        cases hr : Z.runL E (Z.isoB E c) with
        | none =>
          have HE : Hid (M = ([], 5)) := Z.hide (by rw [HMD.out]; exact Z.iso_fail HVE.out HCE.out hr)
          have hcode : ¬ (RB.2 = 0) := by rw [HRB.out, hr]; exact Z.ranOr_none
          clear hr
          go_wp2_with (first | ((go_at_call 71; refine K.call (by with_reducible rfl) (by with_reducible rfl) (HXL.out _ Xwr) ?_; rintro e w3 ⟨rfl, hw3⟩); have X3 := K.Ext.trans Xwr hw3; have R3 := K.row_ext HO.out hw3; have B3 := K.Ext.block_of HB.out hw3; obtain ⟨b22_c0, b22_c1, b22_c2, b22_c3, b22_c4, b22_c5, b22_c6, b22_c7, b22_f0, b22_f1, b22_f2, b22_f3, b22_f4, b22_f5, b22_f6, b22_f7⟩ := K.bk8 (w := w3) (w.heap.size) (.int .i64 (E.L.dg)) (.int .i64 (E.L.tn)) (.string E.L.nm) (.slice o1 E.L.pw.length c1) (.int .i64 (E.R.dg)) (.int .i64 (E.R.tn)) (.string E.R.nm) (.slice o2 E.R.pw.length c2) (B3); have z3 := hw3.size; (try simp at z3); have y3 : w.heap.size < w3.heap.size := (by omega); have v3 : ¬ (w.heap.size = w3.heap.size) := (by omega)) | ((go_at_call 71; refine K.call (by with_reducible rfl) (by with_reducible rfl) (HXR.out _ X3) ?_; rintro e w4 ⟨rfl, hw4⟩); have X4 := K.Ext.trans X3 hw4; have R4 := K.row_ext R3 hw4; have B4 := K.Ext.block_of B3 hw4; obtain ⟨b23_c0, b23_c1, b23_c2, b23_c3, b23_c4, b23_c5, b23_c6, b23_c7, b23_f0, b23_f1, b23_f2, b23_f3, b23_f4, b23_f5, b23_f6, b23_f7⟩ := K.bk8 (w := w4) (w.heap.size) (.int .i64 (E.L.dg)) (.int .i64 (E.L.tn)) (.string E.L.nm) (.slice o1 E.L.pw.length c1) (.int .i64 (E.R.dg)) (.int .i64 (E.R.tn)) (.string E.R.nm) (.slice o2 E.R.pw.length c2) (B4); have z4 := hw4.size; (try simp at z4); have y4 : w.heap.size < w4.heap.size := (by omega); have v4 : ¬ (w.heap.size = w4.heap.size) := (by omega)) | (at_builtin; refine wpList_append_lies _ rfl _ _ _ rfl (w2.heap.size) 89 it0 _ 3 24 Tryz.underlying47 hi0 hz0 hz1 hz2 rfl (by omega) (u6) (ll) _ rfl (R4.alloc _) ⟨w4.heap.size, 0, none⟩ 1 1 [.int .i64 (1), .int .u8 (c), .int .i64 (-m)] rfl rfl (World.news_of_block (cs := #[.int .i64 (1), .int .u8 (c), .int .i64 (-m)]) (t := 89) (fr := (0, 0)) (K.block_new (by simp))) (by simp [Value.oneCell']) (by omega) (by unfold maxLen; omega) (by omega) (by simp; omega) (w4.heap.size + 1) (by simp) ?_; intro gA gcA wA hownA hgrowA hatA hltA; have HRA : Hid (∀ g, ((u6) : Value).ownBlock = some g → w2.heap.size ≤ g) := Z.hide (fun g hg => (R4.lt g hg).1); have HPA := Z.hide hownA; have qA := HPA.out.lt gA rfl; have HXA : Hid (K.Ext w wA) := Z.hide ((X4.alloc _).below.grown hgrowA (by simp; omega) (fun g hg => by have := HRA.out g hg; omega)); have HBA := Z.hide (K.grown_block hgrowA (((K.Ext.refl _).alloc _).block B4) (Ne.symm AG0)); clear hownA hgrowA hatA; obtain ⟨b24_c0, b24_c1, b24_c2, b24_c3, b24_c4, b24_c5, b24_c6, b24_c7, b24_f0, b24_f1, b24_f2, b24_f3, b24_f4, b24_f5, b24_f6, b24_f7⟩ := K.bk8 (w := wA) (w.heap.size) (.int .i64 (E.L.dg)) (.int .i64 (E.L.tn)) (.string E.L.nm) (.slice o1 E.L.pw.length c1) (.int .i64 (E.R.dg)) (.int .i64 (E.R.tn)) (.string E.R.nm) (.slice o2 E.R.pw.length c2) (HBA.out); have zA := HXA.out.size; have yA : w.heap.size < wA.heap.size := (Array.getElem?_eq_some_iff.1 HBA.out).1))
          have RA : wA.ownsRow w2.heap.size 89 3 (.slice (some ⟨gA, 0, none⟩) (ll + 1) gcA) (ll + 1) (K.StR.cells (L ++ [⟨1, c, -m⟩] : List Z.St)) := by rw [K.Rec.cells_snoc]; exact HPA.out
          go_wp2_with (first | ((go_at_call 72; refine K.call (by with_reducible rfl) (by with_reducible rfl) (HB1.out _ HXA.out (K.recs.plain (K.recs_of_row RA (by decide)))) ?_; rintro e w5 ⟨⟨oa5, na5, ka5, ob5, nb5, kb5, rfl⟩, hw5⟩); have X5 := K.Ext.trans HXA.out hw5; have R5 := K.row_ext RA hw5; have B5 := K.Ext.block_of HBA.out hw5; obtain ⟨b25_c0, b25_c1, b25_c2, b25_c3, b25_c4, b25_c5, b25_c6, b25_c7, b25_f0, b25_f1, b25_f2, b25_f3, b25_f4, b25_f5, b25_f6, b25_f7⟩ := K.bk8 (w := w5) (w.heap.size) (.int .i64 (E.L.dg)) (.int .i64 (E.L.tn)) (.string E.L.nm) (.slice o1 E.L.pw.length c1) (.int .i64 (E.R.dg)) (.int .i64 (E.R.tn)) (.string E.R.nm) (.slice o2 E.R.pw.length c2) (B5); have z5 := hw5.size; (try simp at z5); have y5 : w.heap.size < w5.heap.size := (by omega); have v5 : ¬ (w.heap.size = w5.heap.size) := (by omega)))
          rw [HE.out]
          go_ret2
          exact ⟨⟨_, rfl, K.recs_nil _ _ _⟩, K.bel⟩
        | some B =>
          have hcode : RB.2 = 0 := by rw [HRB.out, hr]; rfl
          have HRL := Z.hide hr
          clear hr
          by_cases d0 : d = 0
          · have HE : Hid (M = ([], 4)) := Z.hide (by rw [HMD.out]; exact Z.iso_zero HVE.out HCE.out HRL.out (by rw [HIN.out]; exact d0))
            go_wp2_with (first | ((go_at_call 71; refine K.call (by with_reducible rfl) (by with_reducible rfl) (HXL.out _ Xwr) ?_; rintro e w3 ⟨rfl, hw3⟩); have X3 := K.Ext.trans Xwr hw3; have R3 := K.row_ext HO.out hw3; have B3 := K.Ext.block_of HB.out hw3; obtain ⟨b26_c0, b26_c1, b26_c2, b26_c3, b26_c4, b26_c5, b26_c6, b26_c7, b26_f0, b26_f1, b26_f2, b26_f3, b26_f4, b26_f5, b26_f6, b26_f7⟩ := K.bk8 (w := w3) (w.heap.size) (.int .i64 (E.L.dg)) (.int .i64 (E.L.tn)) (.string E.L.nm) (.slice o1 E.L.pw.length c1) (.int .i64 (E.R.dg)) (.int .i64 (E.R.tn)) (.string E.R.nm) (.slice o2 E.R.pw.length c2) (B3); have z3 := hw3.size; (try simp at z3); have y3 : w.heap.size < w3.heap.size := (by omega); have v3 : ¬ (w.heap.size = w3.heap.size) := (by omega)) | ((go_at_call 71; refine K.call (by with_reducible rfl) (by with_reducible rfl) (HXR.out _ X3) ?_; rintro e w4 ⟨rfl, hw4⟩); have X4 := K.Ext.trans X3 hw4; have R4 := K.row_ext R3 hw4; have B4 := K.Ext.block_of B3 hw4; obtain ⟨b27_c0, b27_c1, b27_c2, b27_c3, b27_c4, b27_c5, b27_c6, b27_c7, b27_f0, b27_f1, b27_f2, b27_f3, b27_f4, b27_f5, b27_f6, b27_f7⟩ := K.bk8 (w := w4) (w.heap.size) (.int .i64 (E.L.dg)) (.int .i64 (E.L.tn)) (.string E.L.nm) (.slice o1 E.L.pw.length c1) (.int .i64 (E.R.dg)) (.int .i64 (E.R.tn)) (.string E.R.nm) (.slice o2 E.R.pw.length c2) (B4); have z4 := hw4.size; (try simp at z4); have y4 : w.heap.size < w4.heap.size := (by omega); have v4 : ¬ (w.heap.size = w4.heap.size) := (by omega)) | (at_builtin; refine wpList_append_lies _ rfl _ _ _ rfl (w2.heap.size) 89 it0 _ 3 24 Tryz.underlying47 hi0 hz0 hz1 hz2 rfl (by omega) (u6) (ll) _ rfl (R4.alloc _) ⟨w4.heap.size, 0, none⟩ 1 1 [.int .i64 (1), .int .u8 (c), .int .i64 (-m)] rfl rfl (World.news_of_block (cs := #[.int .i64 (1), .int .u8 (c), .int .i64 (-m)]) (t := 89) (fr := (0, 0)) (K.block_new (by simp))) (by simp [Value.oneCell']) (by omega) (by unfold maxLen; omega) (by omega) (by simp; omega) (w4.heap.size + 1) (by simp) ?_; intro gA gcA wA hownA hgrowA hatA hltA; have HRA : Hid (∀ g, ((u6) : Value).ownBlock = some g → w2.heap.size ≤ g) := Z.hide (fun g hg => (R4.lt g hg).1); have HPA := Z.hide hownA; have qA := HPA.out.lt gA rfl; have HXA : Hid (K.Ext w wA) := Z.hide ((X4.alloc _).below.grown hgrowA (by simp; omega) (fun g hg => by have := HRA.out g hg; omega)); have HBA := Z.hide (K.grown_block hgrowA (((K.Ext.refl _).alloc _).block B4) (Ne.symm AG0)); clear hownA hgrowA hatA; obtain ⟨b28_c0, b28_c1, b28_c2, b28_c3, b28_c4, b28_c5, b28_c6, b28_c7, b28_f0, b28_f1, b28_f2, b28_f3, b28_f4, b28_f5, b28_f6, b28_f7⟩ := K.bk8 (w := wA) (w.heap.size) (.int .i64 (E.L.dg)) (.int .i64 (E.L.tn)) (.string E.L.nm) (.slice o1 E.L.pw.length c1) (.int .i64 (E.R.dg)) (.int .i64 (E.R.tn)) (.string E.R.nm) (.slice o2 E.R.pw.length c2) (HBA.out); have zA := HXA.out.size; have yA : w.heap.size < wA.heap.size := (Array.getElem?_eq_some_iff.1 HBA.out).1))
            have RA : wA.ownsRow w2.heap.size 89 3 (.slice (some ⟨gA, 0, none⟩) (ll + 1) gcA) (ll + 1) (K.StR.cells (L ++ [⟨1, c, -m⟩] : List Z.St)) := by rw [K.Rec.cells_snoc]; exact HPA.out
            go_wp2_with (first | ((go_at_call 72; refine K.call (by with_reducible rfl) (by with_reducible rfl) (HB1.out _ HXA.out (K.recs.plain (K.recs_of_row RA (by decide)))) ?_; rintro e w5 ⟨⟨oa5, na5, ka5, ob5, nb5, kb5, rfl⟩, hw5⟩); have X5 := K.Ext.trans HXA.out hw5; have R5 := K.row_ext RA hw5; have B5 := K.Ext.block_of HBA.out hw5; obtain ⟨b29_c0, b29_c1, b29_c2, b29_c3, b29_c4, b29_c5, b29_c6, b29_c7, b29_f0, b29_f1, b29_f2, b29_f3, b29_f4, b29_f5, b29_f6, b29_f7⟩ := K.bk8 (w := w5) (w.heap.size) (.int .i64 (E.L.dg)) (.int .i64 (E.L.tn)) (.string E.L.nm) (.slice o1 E.L.pw.length c1) (.int .i64 (E.R.dg)) (.int .i64 (E.R.tn)) (.string E.R.nm) (.slice o2 E.R.pw.length c2) (B5); have z5 := hw5.size; (try simp at z5); have y5 : w.heap.size < w5.heap.size := (by omega); have v5 : ¬ (w.heap.size = w5.heap.size) := (by omega)))
            rw [HE.out]
            go_ret2
            exact ⟨⟨_, rfl, K.recs_nil _ _ _⟩, K.bel⟩
          by_cases d1 : d = 1
          · have HE : Hid (M = ((L ++ [⟨1, c, -m⟩] : List Z.St), 0)) := Z.hide (by rw [HMD.out, ← HIB.out]; exact Z.iso_one HVE.out HCE.out HRL.out (by rw [HIN.out]; exact d1))
            subst d1
            have HAB : ∀ w : World, Calls Tryz.prog 73 #[.int .i64 1] w fun e w' => e = .returned (.int .i64 1) ∧ w = w' := fun w => l01Abs_any 1 w (by decide) (by decide)
            go_wp2_with (first | ((go_at_call 71; refine K.call (by with_reducible rfl) (by with_reducible rfl) (HXL.out _ Xwr) ?_; rintro e w3 ⟨rfl, hw3⟩); have X3 := K.Ext.trans Xwr hw3; have R3 := K.row_ext HO.out hw3; have B3 := K.Ext.block_of HB.out hw3; obtain ⟨b30_c0, b30_c1, b30_c2, b30_c3, b30_c4, b30_c5, b30_c6, b30_c7, b30_f0, b30_f1, b30_f2, b30_f3, b30_f4, b30_f5, b30_f6, b30_f7⟩ := K.bk8 (w := w3) (w.heap.size) (.int .i64 (E.L.dg)) (.int .i64 (E.L.tn)) (.string E.L.nm) (.slice o1 E.L.pw.length c1) (.int .i64 (E.R.dg)) (.int .i64 (E.R.tn)) (.string E.R.nm) (.slice o2 E.R.pw.length c2) (B3); have z3 := hw3.size; (try simp at z3); have y3 : w.heap.size < w3.heap.size := (by omega); have v3 : ¬ (w.heap.size = w3.heap.size) := (by omega)) | ((go_at_call 71; refine K.call (by with_reducible rfl) (by with_reducible rfl) (HXR.out _ X3) ?_; rintro e w4 ⟨rfl, hw4⟩); have X4 := K.Ext.trans X3 hw4; have R4 := K.row_ext R3 hw4; have B4 := K.Ext.block_of B3 hw4; obtain ⟨b31_c0, b31_c1, b31_c2, b31_c3, b31_c4, b31_c5, b31_c6, b31_c7, b31_f0, b31_f1, b31_f2, b31_f3, b31_f4, b31_f5, b31_f6, b31_f7⟩ := K.bk8 (w := w4) (w.heap.size) (.int .i64 (E.L.dg)) (.int .i64 (E.L.tn)) (.string E.L.nm) (.slice o1 E.L.pw.length c1) (.int .i64 (E.R.dg)) (.int .i64 (E.R.tn)) (.string E.R.nm) (.slice o2 E.R.pw.length c2) (B4); have z4 := hw4.size; (try simp at z4); have y4 : w.heap.size < w4.heap.size := (by omega); have v4 : ¬ (w.heap.size = w4.heap.size) := (by omega)) | (at_builtin; refine wpList_append_lies _ rfl _ _ _ rfl (w2.heap.size) 89 it0 _ 3 24 Tryz.underlying47 hi0 hz0 hz1 hz2 rfl (by omega) (u6) (ll) _ rfl (R4.alloc _) ⟨w4.heap.size, 0, none⟩ 1 1 [.int .i64 (1), .int .u8 (c), .int .i64 (-m)] rfl rfl (World.news_of_block (cs := #[.int .i64 (1), .int .u8 (c), .int .i64 (-m)]) (t := 89) (fr := (0, 0)) (K.block_new (by simp))) (by simp [Value.oneCell']) (by omega) (by unfold maxLen; omega) (by omega) (by simp; omega) (w4.heap.size + 1) (by simp) ?_; intro gA gcA wA hownA hgrowA hatA hltA; have HRA : Hid (∀ g, ((u6) : Value).ownBlock = some g → w2.heap.size ≤ g) := Z.hide (fun g hg => (R4.lt g hg).1); have HPA := Z.hide hownA; have qA := HPA.out.lt gA rfl; have HXA : Hid (K.Ext w wA) := Z.hide ((X4.alloc _).below.grown hgrowA (by simp; omega) (fun g hg => by have := HRA.out g hg; omega)); have HBA := Z.hide (K.grown_block hgrowA (((K.Ext.refl _).alloc _).block B4) (Ne.symm AG0)); clear hownA hgrowA hatA; obtain ⟨b32_c0, b32_c1, b32_c2, b32_c3, b32_c4, b32_c5, b32_c6, b32_c7, b32_f0, b32_f1, b32_f2, b32_f3, b32_f4, b32_f5, b32_f6, b32_f7⟩ := K.bk8 (w := wA) (w.heap.size) (.int .i64 (E.L.dg)) (.int .i64 (E.L.tn)) (.string E.L.nm) (.slice o1 E.L.pw.length c1) (.int .i64 (E.R.dg)) (.int .i64 (E.R.tn)) (.string E.R.nm) (.slice o2 E.R.pw.length c2) (HBA.out); have zA := HXA.out.size; have yA : w.heap.size < wA.heap.size := (Array.getElem?_eq_some_iff.1 HBA.out).1))
            have RA : wA.ownsRow w2.heap.size 89 3 (.slice (some ⟨gA, 0, none⟩) (ll + 1) gcA) (ll + 1) (K.StR.cells (L ++ [⟨1, c, -m⟩] : List Z.St)) := by rw [K.Rec.cells_snoc]; exact HPA.out
            go_wp2_with (first | ((go_at_call 72; refine K.call (by with_reducible rfl) (by with_reducible rfl) (HB1.out _ HXA.out (K.recs.plain (K.recs_of_row RA (by decide)))) ?_; rintro e w5 ⟨⟨oa5, na5, ka5, ob5, nb5, kb5, rfl⟩, hw5⟩); have X5 := K.Ext.trans HXA.out hw5; have R5 := K.row_ext RA hw5; have B5 := K.Ext.block_of HBA.out hw5; obtain ⟨b33_c0, b33_c1, b33_c2, b33_c3, b33_c4, b33_c5, b33_c6, b33_c7, b33_f0, b33_f1, b33_f2, b33_f3, b33_f4, b33_f5, b33_f6, b33_f7⟩ := K.bk8 (w := w5) (w.heap.size) (.int .i64 (E.L.dg)) (.int .i64 (E.L.tn)) (.string E.L.nm) (.slice o1 E.L.pw.length c1) (.int .i64 (E.R.dg)) (.int .i64 (E.R.tn)) (.string E.R.nm) (.slice o2 E.R.pw.length c2) (B5); have z5 := hw5.size; (try simp at z5); have y5 : w.heap.size < w5.heap.size := (by omega); have v5 : ¬ (w.heap.size = w5.heap.size) := (by omega)))
            go_wp2_with (go_at_call 73; refine K.call (by with_reducible rfl) (by with_reducible rfl) (HAB _) ?_; rintro e w' ⟨rfl, rfl⟩)
            go_wp2_with (first | ((go_at_call 72; refine K.call (by with_reducible rfl) (by with_reducible rfl) (HB1.out _ (X5.alloc _) (K.recs.plain (K.recs_of_row (R5.alloc _) (by decide)))) ?_; rintro e w6 ⟨⟨oa6, na6, ka6, ob6, nb6, kb6, rfl⟩, hw6⟩); have X6 := K.Ext.trans (X5.alloc _) hw6; have R6 := K.row_ext (R5.alloc _) hw6; have B6 := K.Ext.block_of (K.Ext.block_of B5 ((K.Ext.refl _).alloc _)) hw6; obtain ⟨b34_c0, b34_c1, b34_c2, b34_c3, b34_c4, b34_c5, b34_c6, b34_c7, b34_f0, b34_f1, b34_f2, b34_f3, b34_f4, b34_f5, b34_f6, b34_f7⟩ := K.bk8 (w := w6) (w.heap.size) (.int .i64 (E.L.dg)) (.int .i64 (E.L.tn)) (.string E.L.nm) (.slice o1 E.L.pw.length c1) (.int .i64 (E.R.dg)) (.int .i64 (E.R.tn)) (.string E.R.nm) (.slice o2 E.R.pw.length c2) (B6); have z6 := hw6.size; (try simp at z6); have y6 : w.heap.size < w6.heap.size := (by omega); have v6 : ¬ (w.heap.size = w6.heap.size) := (by omega)))
            rw [HE.out]
            go_ret2
            exact ⟨⟨_, rfl, (K.recs_of_row (R6.alloc _) (by decide)).mono (by omega) (by simp)⟩, X6.alloc _⟩
          by_cases d2 : d = -1
          · have HM1 : Hid (M = if (Z.stepEq B ⟨2, 0, -1⟩).2 = 0 then ((L ++ [⟨1, c, -m⟩] : List Z.St) ++ [⟨2, 0, -1⟩], 0) else ([], 5)) := Z.hide (by rw [HMD.out, ← HIB.out]; exact Z.iso_neg HVE.out HCE.out HRL.out (by rw [HIN.out]; exact d2))
            obtain ⟨RC, hRC⟩ : ∃ R, R = Z.RunSteps E ((L ++ [⟨1, c, -m⟩] : List Z.St) ++ [⟨2, 0, -1⟩]) := ⟨_, rfl⟩
            have HPC : Hid (Z.allSt ((L ++ [⟨1, c, -m⟩] : List Z.St) ++ [⟨2, 0, -1⟩]) = true ∧ ((L ++ [⟨1, c, -m⟩] : List Z.St) ++ [⟨2, 0, -1⟩] : List Z.St).length ≤ 8) := Z.hide (by have h_ := Z.isoC_parts HVE.out HCE.out; unfold Z.isoC at h_; rwa [if_pos (by rw [HIN.out]; exact d2), HIB.out] at h_)
            have hRC2 : RC = Z.ranOr (Z.runS (some B) ⟨2, 0, -1⟩) := by rw [hRC, Z.RunSteps_runL HVE.out HPC.out.1 (by have := HPC.out.2; omega), Z.runL_snoc, ← HIB.out, HRL.out]
            have HC1 : Hid (∀ {x y : Nat} {v : Value} (w' : World), K.Ext w w' → K.recs false K.StR w' x y v ((L ++ [⟨1, c, -m⟩] : List Z.St) ++ [⟨2, 0, -1⟩]) → Calls Tryz.prog 72 #[.agg #[.int .i64 E.L.dg, .int .i64 E.L.tn, .string E.L.nm, .slice o1 E.L.pw.length c1, .int .i64 E.R.dg, .int .i64 E.R.tn, .string E.R.nm, .slice o2 E.R.pw.length c2], v] w' fun e w'' => (∃ oa na ka ob nb kb, e = .returned (.tuple #[.agg #[.int .i64 RC.1.L.dg, .int .i64 RC.1.L.tn, .string RC.1.L.nm, .slice oa na ka, .int .i64 RC.1.R.dg, .int .i64 RC.1.R.tn, .string RC.1.R.nm, .slice ob nb kb], .int .i64 RC.2])) ∧ K.Ext w' w'') := Z.hide (fun w' hx hv => HRS.out ((L ++ [⟨1, c, -m⟩] : List Z.St) ++ [⟨2, 0, -1⟩]) RC hRC.symm (by have := HPC.out.2; omega) w' hx hv)
            clear hRC HPC
            subst d2
            have HAB : ∀ w : World, Calls Tryz.prog 73 #[.int .i64 (-1)] w fun e w' => e = .returned (.int .i64 1) ∧ w = w' := fun w => l01Abs_any (-1) w (by decide) (by decide)
            by_cases hz : (Z.stepEq B ⟨2, 0, -1⟩).2 = 0
            · have HE : Hid (M = ((L ++ [⟨1, c, -m⟩] : List Z.St) ++ [⟨2, 0, -1⟩], 0)) := Z.hide (by rw [HM1.out, if_pos hz])
              have hcode2 : RC.2 = 0 := by rw [hRC2]; simp only [Z.runS]; rw [if_pos hz]; rfl
              clear hRC2 hz HM1
              go_wp2_with (first | ((go_at_call 71; refine K.call (by with_reducible rfl) (by with_reducible rfl) (HXL.out _ Xwr) ?_; rintro e w3 ⟨rfl, hw3⟩); have X3 := K.Ext.trans Xwr hw3; have R3 := K.row_ext HO.out hw3; have B3 := K.Ext.block_of HB.out hw3; obtain ⟨b35_c0, b35_c1, b35_c2, b35_c3, b35_c4, b35_c5, b35_c6, b35_c7, b35_f0, b35_f1, b35_f2, b35_f3, b35_f4, b35_f5, b35_f6, b35_f7⟩ := K.bk8 (w := w3) (w.heap.size) (.int .i64 (E.L.dg)) (.int .i64 (E.L.tn)) (.string E.L.nm) (.slice o1 E.L.pw.length c1) (.int .i64 (E.R.dg)) (.int .i64 (E.R.tn)) (.string E.R.nm) (.slice o2 E.R.pw.length c2) (B3); have z3 := hw3.size; (try simp at z3); have y3 : w.heap.size < w3.heap.size := (by omega); have v3 : ¬ (w.heap.size = w3.heap.size) := (by omega)) | ((go_at_call 71; refine K.call (by with_reducible rfl) (by with_reducible rfl) (HXR.out _ X3) ?_; rintro e w4 ⟨rfl, hw4⟩); have X4 := K.Ext.trans X3 hw4; have R4 := K.row_ext R3 hw4; have B4 := K.Ext.block_of B3 hw4; obtain ⟨b36_c0, b36_c1, b36_c2, b36_c3, b36_c4, b36_c5, b36_c6, b36_c7, b36_f0, b36_f1, b36_f2, b36_f3, b36_f4, b36_f5, b36_f6, b36_f7⟩ := K.bk8 (w := w4) (w.heap.size) (.int .i64 (E.L.dg)) (.int .i64 (E.L.tn)) (.string E.L.nm) (.slice o1 E.L.pw.length c1) (.int .i64 (E.R.dg)) (.int .i64 (E.R.tn)) (.string E.R.nm) (.slice o2 E.R.pw.length c2) (B4); have z4 := hw4.size; (try simp at z4); have y4 : w.heap.size < w4.heap.size := (by omega); have v4 : ¬ (w.heap.size = w4.heap.size) := (by omega)) | (at_builtin; refine wpList_append_lies _ rfl _ _ _ rfl (w2.heap.size) 89 it0 _ 3 24 Tryz.underlying47 hi0 hz0 hz1 hz2 rfl (by omega) (u6) (ll) _ rfl (R4.alloc _) ⟨w4.heap.size, 0, none⟩ 1 1 [.int .i64 (1), .int .u8 (c), .int .i64 (-m)] rfl rfl (World.news_of_block (cs := #[.int .i64 (1), .int .u8 (c), .int .i64 (-m)]) (t := 89) (fr := (0, 0)) (K.block_new (by simp))) (by simp [Value.oneCell']) (by omega) (by unfold maxLen; omega) (by omega) (by simp; omega) (w4.heap.size + 1) (by simp) ?_; intro gA gcA wA hownA hgrowA hatA hltA; have HRA : Hid (∀ g, ((u6) : Value).ownBlock = some g → w2.heap.size ≤ g) := Z.hide (fun g hg => (R4.lt g hg).1); have HPA := Z.hide hownA; have qA := HPA.out.lt gA rfl; have HXA : Hid (K.Ext w wA) := Z.hide ((X4.alloc _).below.grown hgrowA (by simp; omega) (fun g hg => by have := HRA.out g hg; omega)); have HBA := Z.hide (K.grown_block hgrowA (((K.Ext.refl _).alloc _).block B4) (Ne.symm AG0)); clear hownA hgrowA hatA; obtain ⟨b37_c0, b37_c1, b37_c2, b37_c3, b37_c4, b37_c5, b37_c6, b37_c7, b37_f0, b37_f1, b37_f2, b37_f3, b37_f4, b37_f5, b37_f6, b37_f7⟩ := K.bk8 (w := wA) (w.heap.size) (.int .i64 (E.L.dg)) (.int .i64 (E.L.tn)) (.string E.L.nm) (.slice o1 E.L.pw.length c1) (.int .i64 (E.R.dg)) (.int .i64 (E.R.tn)) (.string E.R.nm) (.slice o2 E.R.pw.length c2) (HBA.out); have zA := HXA.out.size; have yA : w.heap.size < wA.heap.size := (Array.getElem?_eq_some_iff.1 HBA.out).1))
              have RA : wA.ownsRow w2.heap.size 89 3 (.slice (some ⟨gA, 0, none⟩) (ll + 1) gcA) (ll + 1) (K.StR.cells (L ++ [⟨1, c, -m⟩] : List Z.St)) := by rw [K.Rec.cells_snoc]; exact HPA.out
              go_wp2_with (first | ((go_at_call 72; refine K.call (by with_reducible rfl) (by with_reducible rfl) (HB1.out _ HXA.out (K.recs.plain (K.recs_of_row RA (by decide)))) ?_; rintro e w5 ⟨⟨oa5, na5, ka5, ob5, nb5, kb5, rfl⟩, hw5⟩); have X5 := K.Ext.trans HXA.out hw5; have R5 := K.row_ext RA hw5; have B5 := K.Ext.block_of HBA.out hw5; obtain ⟨b38_c0, b38_c1, b38_c2, b38_c3, b38_c4, b38_c5, b38_c6, b38_c7, b38_f0, b38_f1, b38_f2, b38_f3, b38_f4, b38_f5, b38_f6, b38_f7⟩ := K.bk8 (w := w5) (w.heap.size) (.int .i64 (E.L.dg)) (.int .i64 (E.L.tn)) (.string E.L.nm) (.slice o1 E.L.pw.length c1) (.int .i64 (E.R.dg)) (.int .i64 (E.R.tn)) (.string E.R.nm) (.slice o2 E.R.pw.length c2) (B5); have z5 := hw5.size; (try simp at z5); have y5 : w.heap.size < w5.heap.size := (by omega); have v5 : ¬ (w.heap.size = w5.heap.size) := (by omega)))
              have AG5 : ((.slice (some ⟨gA, 0, none⟩) (ll + 1) gcA) : Value).ownBlock ≠ some w.heap.size := fun he => by have := (R5.lt _ he).1; omega
              have R5' := R5.alloc (.cells #[.int .i64 RB.1.L.dg, .int .i64 RB.1.L.tn, .string RB.1.L.nm, .slice oa5 na5 ka5, .int .i64 RB.1.R.dg, .int .i64 RB.1.R.tn, .string RB.1.R.nm, .slice ob5 nb5 kb5] 44)
              have X5' := X5.alloc (.cells #[.int .i64 RB.1.L.dg, .int .i64 RB.1.L.tn, .string RB.1.L.nm, .slice oa5 na5 ka5, .int .i64 RB.1.R.dg, .int .i64 RB.1.R.tn, .string RB.1.R.nm, .slice ob5 nb5 kb5] 44)
              have B5' := K.Ext.block_of B5 ((K.Ext.refl _).alloc (.cells #[.int .i64 RB.1.L.dg, .int .i64 RB.1.L.tn, .string RB.1.L.nm, .slice oa5 na5 ka5, .int .i64 RB.1.R.dg, .int .i64 RB.1.R.tn, .string RB.1.R.nm, .slice ob5 nb5 kb5] 44))
              go_wp2_with (first | (go_at_call 73; refine K.call (by with_reducible rfl) (by with_reducible rfl) (HAB _) ?_; rintro e w' ⟨rfl, rfl⟩) | (at_builtin; refine wpList_append_lies _ rfl _ _ _ rfl (w2.heap.size) 89 it0 _ 3 24 Tryz.underlying47 hi0 hz0 hz1 hz2 rfl (by omega) (.slice (some ⟨gA, 0, none⟩) (ll + 1) gcA) (ll + 1) _ rfl (R5'.alloc _) ⟨w5.heap.size + 1, 0, none⟩ 1 1 [.int .i64 (2), .int .u8 (0), .int .i64 (-1)] rfl rfl (World.news_of_block (cs := #[.int .i64 (2), .int .u8 (0), .int .i64 (-1)]) (t := 89) (fr := (0, 0)) (K.block_new (by simp))) (by simp [Value.oneCell']) (by omega) (by unfold maxLen; omega) (by omega) (by simp; omega) (w5.heap.size + 1 + 1) (by simp) ?_; intro gD gcD wD hownD hgrowD hatD hltD; have HRD : Hid (∀ g, ((.slice (some ⟨gA, 0, none⟩) (ll + 1) gcA) : Value).ownBlock = some g → w2.heap.size ≤ g) := Z.hide (fun g hg => (R5'.lt g hg).1); have HPD := Z.hide hownD; have qD := HPD.out.lt gD rfl; have HXD : Hid (K.Ext w wD) := Z.hide ((X5'.alloc _).below.grown hgrowD (by simp; omega) (fun g hg => by have := HRD.out g hg; omega)); have HBD := Z.hide (K.grown_block hgrowD (((K.Ext.refl _).alloc _).block B5') (Ne.symm AG5)); clear hownD hgrowD hatD; obtain ⟨b39_c0, b39_c1, b39_c2, b39_c3, b39_c4, b39_c5, b39_c6, b39_c7, b39_f0, b39_f1, b39_f2, b39_f3, b39_f4, b39_f5, b39_f6, b39_f7⟩ := K.bk8 (w := wD) (w.heap.size) (.int .i64 (E.L.dg)) (.int .i64 (E.L.tn)) (.string E.L.nm) (.slice o1 E.L.pw.length c1) (.int .i64 (E.R.dg)) (.int .i64 (E.R.tn)) (.string E.R.nm) (.slice o2 E.R.pw.length c2) (HBD.out); have zD := HXD.out.size; have yD : w.heap.size < wD.heap.size := (Array.getElem?_eq_some_iff.1 HBD.out).1))
              have RD : wD.ownsRow w2.heap.size 89 3 (.slice (some ⟨gD, 0, none⟩) (ll + 1 + 1) gcD) (ll + 1 + 1) (K.StR.cells ((L ++ [⟨1, c, -m⟩] : List Z.St) ++ [⟨2, 0, -1⟩])) := by rw [K.Rec.cells_snoc]; exact HPD.out
              go_wp2_with (first | ((go_at_call 72; refine K.call (by with_reducible rfl) (by with_reducible rfl) (HC1.out _ HXD.out (K.recs.plain (K.recs_of_row RD (by decide)))) ?_; rintro e w6 ⟨⟨oa6, na6, ka6, ob6, nb6, kb6, rfl⟩, hw6⟩); have X6 := K.Ext.trans HXD.out hw6; have R6 := K.row_ext RD hw6; have B6 := K.Ext.block_of HBD.out hw6; obtain ⟨b40_c0, b40_c1, b40_c2, b40_c3, b40_c4, b40_c5, b40_c6, b40_c7, b40_f0, b40_f1, b40_f2, b40_f3, b40_f4, b40_f5, b40_f6, b40_f7⟩ := K.bk8 (w := w6) (w.heap.size) (.int .i64 (E.L.dg)) (.int .i64 (E.L.tn)) (.string E.L.nm) (.slice o1 E.L.pw.length c1) (.int .i64 (E.R.dg)) (.int .i64 (E.R.tn)) (.string E.R.nm) (.slice o2 E.R.pw.length c2) (B6); have z6 := hw6.size; (try simp at z6); have y6 : w.heap.size < w6.heap.size := (by omega); have v6 : ¬ (w.heap.size = w6.heap.size) := (by omega)))
              rw [HE.out]
              go_ret2
              exact ⟨⟨_, rfl, (K.recs_of_row (R6.alloc _) (by decide)).mono (by omega) (by simp)⟩, X6.alloc _⟩
            · have HE : Hid (M = ([], 5)) := Z.hide (by rw [HM1.out, if_neg hz])
              have hcode2 : ¬ (RC.2 = 0) := by rw [hRC2]; simp only [Z.runS]; rw [if_neg hz]; exact Z.ranOr_none
              clear hRC2 hz HM1
              go_wp2_with (first | ((go_at_call 71; refine K.call (by with_reducible rfl) (by with_reducible rfl) (HXL.out _ Xwr) ?_; rintro e w3 ⟨rfl, hw3⟩); have X3 := K.Ext.trans Xwr hw3; have R3 := K.row_ext HO.out hw3; have B3 := K.Ext.block_of HB.out hw3; obtain ⟨b41_c0, b41_c1, b41_c2, b41_c3, b41_c4, b41_c5, b41_c6, b41_c7, b41_f0, b41_f1, b41_f2, b41_f3, b41_f4, b41_f5, b41_f6, b41_f7⟩ := K.bk8 (w := w3) (w.heap.size) (.int .i64 (E.L.dg)) (.int .i64 (E.L.tn)) (.string E.L.nm) (.slice o1 E.L.pw.length c1) (.int .i64 (E.R.dg)) (.int .i64 (E.R.tn)) (.string E.R.nm) (.slice o2 E.R.pw.length c2) (B3); have z3 := hw3.size; (try simp at z3); have y3 : w.heap.size < w3.heap.size := (by omega); have v3 : ¬ (w.heap.size = w3.heap.size) := (by omega)) | ((go_at_call 71; refine K.call (by with_reducible rfl) (by with_reducible rfl) (HXR.out _ X3) ?_; rintro e w4 ⟨rfl, hw4⟩); have X4 := K.Ext.trans X3 hw4; have R4 := K.row_ext R3 hw4; have B4 := K.Ext.block_of B3 hw4; obtain ⟨b42_c0, b42_c1, b42_c2, b42_c3, b42_c4, b42_c5, b42_c6, b42_c7, b42_f0, b42_f1, b42_f2, b42_f3, b42_f4, b42_f5, b42_f6, b42_f7⟩ := K.bk8 (w := w4) (w.heap.size) (.int .i64 (E.L.dg)) (.int .i64 (E.L.tn)) (.string E.L.nm) (.slice o1 E.L.pw.length c1) (.int .i64 (E.R.dg)) (.int .i64 (E.R.tn)) (.string E.R.nm) (.slice o2 E.R.pw.length c2) (B4); have z4 := hw4.size; (try simp at z4); have y4 : w.heap.size < w4.heap.size := (by omega); have v4 : ¬ (w.heap.size = w4.heap.size) := (by omega)) | (at_builtin; refine wpList_append_lies _ rfl _ _ _ rfl (w2.heap.size) 89 it0 _ 3 24 Tryz.underlying47 hi0 hz0 hz1 hz2 rfl (by omega) (u6) (ll) _ rfl (R4.alloc _) ⟨w4.heap.size, 0, none⟩ 1 1 [.int .i64 (1), .int .u8 (c), .int .i64 (-m)] rfl rfl (World.news_of_block (cs := #[.int .i64 (1), .int .u8 (c), .int .i64 (-m)]) (t := 89) (fr := (0, 0)) (K.block_new (by simp))) (by simp [Value.oneCell']) (by omega) (by unfold maxLen; omega) (by omega) (by simp; omega) (w4.heap.size + 1) (by simp) ?_; intro gA gcA wA hownA hgrowA hatA hltA; have HRA : Hid (∀ g, ((u6) : Value).ownBlock = some g → w2.heap.size ≤ g) := Z.hide (fun g hg => (R4.lt g hg).1); have HPA := Z.hide hownA; have qA := HPA.out.lt gA rfl; have HXA : Hid (K.Ext w wA) := Z.hide ((X4.alloc _).below.grown hgrowA (by simp; omega) (fun g hg => by have := HRA.out g hg; omega)); have HBA := Z.hide (K.grown_block hgrowA (((K.Ext.refl _).alloc _).block B4) (Ne.symm AG0)); clear hownA hgrowA hatA; obtain ⟨b43_c0, b43_c1, b43_c2, b43_c3, b43_c4, b43_c5, b43_c6, b43_c7, b43_f0, b43_f1, b43_f2, b43_f3, b43_f4, b43_f5, b43_f6, b43_f7⟩ := K.bk8 (w := wA) (w.heap.size) (.int .i64 (E.L.dg)) (.int .i64 (E.L.tn)) (.string E.L.nm) (.slice o1 E.L.pw.length c1) (.int .i64 (E.R.dg)) (.int .i64 (E.R.tn)) (.string E.R.nm) (.slice o2 E.R.pw.length c2) (HBA.out); have zA := HXA.out.size; have yA : w.heap.size < wA.heap.size := (Array.getElem?_eq_some_iff.1 HBA.out).1))
              have RA : wA.ownsRow w2.heap.size 89 3 (.slice (some ⟨gA, 0, none⟩) (ll + 1) gcA) (ll + 1) (K.StR.cells (L ++ [⟨1, c, -m⟩] : List Z.St)) := by rw [K.Rec.cells_snoc]; exact HPA.out
              go_wp2_with (first | ((go_at_call 72; refine K.call (by with_reducible rfl) (by with_reducible rfl) (HB1.out _ HXA.out (K.recs.plain (K.recs_of_row RA (by decide)))) ?_; rintro e w5 ⟨⟨oa5, na5, ka5, ob5, nb5, kb5, rfl⟩, hw5⟩); have X5 := K.Ext.trans HXA.out hw5; have R5 := K.row_ext RA hw5; have B5 := K.Ext.block_of HBA.out hw5; obtain ⟨b44_c0, b44_c1, b44_c2, b44_c3, b44_c4, b44_c5, b44_c6, b44_c7, b44_f0, b44_f1, b44_f2, b44_f3, b44_f4, b44_f5, b44_f6, b44_f7⟩ := K.bk8 (w := w5) (w.heap.size) (.int .i64 (E.L.dg)) (.int .i64 (E.L.tn)) (.string E.L.nm) (.slice o1 E.L.pw.length c1) (.int .i64 (E.R.dg)) (.int .i64 (E.R.tn)) (.string E.R.nm) (.slice o2 E.R.pw.length c2) (B5); have z5 := hw5.size; (try simp at z5); have y5 : w.heap.size < w5.heap.size := (by omega); have v5 : ¬ (w.heap.size = w5.heap.size) := (by omega)))
              have AG5 : ((.slice (some ⟨gA, 0, none⟩) (ll + 1) gcA) : Value).ownBlock ≠ some w.heap.size := fun he => by have := (R5.lt _ he).1; omega
              have R5' := R5.alloc (.cells #[.int .i64 RB.1.L.dg, .int .i64 RB.1.L.tn, .string RB.1.L.nm, .slice oa5 na5 ka5, .int .i64 RB.1.R.dg, .int .i64 RB.1.R.tn, .string RB.1.R.nm, .slice ob5 nb5 kb5] 44)
              have X5' := X5.alloc (.cells #[.int .i64 RB.1.L.dg, .int .i64 RB.1.L.tn, .string RB.1.L.nm, .slice oa5 na5 ka5, .int .i64 RB.1.R.dg, .int .i64 RB.1.R.tn, .string RB.1.R.nm, .slice ob5 nb5 kb5] 44)
              have B5' := K.Ext.block_of B5 ((K.Ext.refl _).alloc (.cells #[.int .i64 RB.1.L.dg, .int .i64 RB.1.L.tn, .string RB.1.L.nm, .slice oa5 na5 ka5, .int .i64 RB.1.R.dg, .int .i64 RB.1.R.tn, .string RB.1.R.nm, .slice ob5 nb5 kb5] 44))
              go_wp2_with (first | (go_at_call 73; refine K.call (by with_reducible rfl) (by with_reducible rfl) (HAB _) ?_; rintro e w' ⟨rfl, rfl⟩) | (at_builtin; refine wpList_append_lies _ rfl _ _ _ rfl (w2.heap.size) 89 it0 _ 3 24 Tryz.underlying47 hi0 hz0 hz1 hz2 rfl (by omega) (.slice (some ⟨gA, 0, none⟩) (ll + 1) gcA) (ll + 1) _ rfl (R5'.alloc _) ⟨w5.heap.size + 1, 0, none⟩ 1 1 [.int .i64 (2), .int .u8 (0), .int .i64 (-1)] rfl rfl (World.news_of_block (cs := #[.int .i64 (2), .int .u8 (0), .int .i64 (-1)]) (t := 89) (fr := (0, 0)) (K.block_new (by simp))) (by simp [Value.oneCell']) (by omega) (by unfold maxLen; omega) (by omega) (by simp; omega) (w5.heap.size + 1 + 1) (by simp) ?_; intro gD gcD wD hownD hgrowD hatD hltD; have HRD : Hid (∀ g, ((.slice (some ⟨gA, 0, none⟩) (ll + 1) gcA) : Value).ownBlock = some g → w2.heap.size ≤ g) := Z.hide (fun g hg => (R5'.lt g hg).1); have HPD := Z.hide hownD; have qD := HPD.out.lt gD rfl; have HXD : Hid (K.Ext w wD) := Z.hide ((X5'.alloc _).below.grown hgrowD (by simp; omega) (fun g hg => by have := HRD.out g hg; omega)); have HBD := Z.hide (K.grown_block hgrowD (((K.Ext.refl _).alloc _).block B5') (Ne.symm AG5)); clear hownD hgrowD hatD; obtain ⟨b45_c0, b45_c1, b45_c2, b45_c3, b45_c4, b45_c5, b45_c6, b45_c7, b45_f0, b45_f1, b45_f2, b45_f3, b45_f4, b45_f5, b45_f6, b45_f7⟩ := K.bk8 (w := wD) (w.heap.size) (.int .i64 (E.L.dg)) (.int .i64 (E.L.tn)) (.string E.L.nm) (.slice o1 E.L.pw.length c1) (.int .i64 (E.R.dg)) (.int .i64 (E.R.tn)) (.string E.R.nm) (.slice o2 E.R.pw.length c2) (HBD.out); have zD := HXD.out.size; have yD : w.heap.size < wD.heap.size := (Array.getElem?_eq_some_iff.1 HBD.out).1))
              have RD : wD.ownsRow w2.heap.size 89 3 (.slice (some ⟨gD, 0, none⟩) (ll + 1 + 1) gcD) (ll + 1 + 1) (K.StR.cells ((L ++ [⟨1, c, -m⟩] : List Z.St) ++ [⟨2, 0, -1⟩])) := by rw [K.Rec.cells_snoc]; exact HPD.out
              go_wp2_with (first | ((go_at_call 72; refine K.call (by with_reducible rfl) (by with_reducible rfl) (HC1.out _ HXD.out (K.recs.plain (K.recs_of_row RD (by decide)))) ?_; rintro e w6 ⟨⟨oa6, na6, ka6, ob6, nb6, kb6, rfl⟩, hw6⟩); have X6 := K.Ext.trans HXD.out hw6; have R6 := K.row_ext RD hw6; have B6 := K.Ext.block_of HBD.out hw6; obtain ⟨b46_c0, b46_c1, b46_c2, b46_c3, b46_c4, b46_c5, b46_c6, b46_c7, b46_f0, b46_f1, b46_f2, b46_f3, b46_f4, b46_f5, b46_f6, b46_f7⟩ := K.bk8 (w := w6) (w.heap.size) (.int .i64 (E.L.dg)) (.int .i64 (E.L.tn)) (.string E.L.nm) (.slice o1 E.L.pw.length c1) (.int .i64 (E.R.dg)) (.int .i64 (E.R.tn)) (.string E.R.nm) (.slice o2 E.R.pw.length c2) (B6); have z6 := hw6.size; (try simp at z6); have y6 : w.heap.size < w6.heap.size := (by omega); have v6 : ¬ (w.heap.size = w6.heap.size) := (by omega)))
              rw [HE.out]
              go_ret2
              exact ⟨⟨_, rfl, K.recs_nil _ _ _⟩, K.bel⟩
          · have HE : Hid (M = ([], 5)) := Z.hide (by rw [HMD.out]; exact Z.iso_other HVE.out HCE.out HRL.out (by rw [HIN.out]; exact d0) (by rw [HIN.out]; exact d1) (by rw [HIN.out]; exact d2))
            obtain ⟨u, hu⟩ : ∃ u, u = Z.ab d := ⟨_, rfl⟩
            have hu1 : ¬ u = 1 := by rw [hu]; unfold Z.ab; omega
            have HAB : ∀ w : World, Calls Tryz.prog 73 #[.int .i64 d] w fun e w' => e = .returned (.int .i64 u) ∧ w = w' := fun w => by rw [hu]; exact l01Abs_any d w (by omega) (by omega)
            clear hu
            go_wp2_with (first | ((go_at_call 71; refine K.call (by with_reducible rfl) (by with_reducible rfl) (HXL.out _ Xwr) ?_; rintro e w3 ⟨rfl, hw3⟩); have X3 := K.Ext.trans Xwr hw3; have R3 := K.row_ext HO.out hw3; have B3 := K.Ext.block_of HB.out hw3; obtain ⟨b47_c0, b47_c1, b47_c2, b47_c3, b47_c4, b47_c5, b47_c6, b47_c7, b47_f0, b47_f1, b47_f2, b47_f3, b47_f4, b47_f5, b47_f6, b47_f7⟩ := K.bk8 (w := w3) (w.heap.size) (.int .i64 (E.L.dg)) (.int .i64 (E.L.tn)) (.string E.L.nm) (.slice o1 E.L.pw.length c1) (.int .i64 (E.R.dg)) (.int .i64 (E.R.tn)) (.string E.R.nm) (.slice o2 E.R.pw.length c2) (B3); have z3 := hw3.size; (try simp at z3); have y3 : w.heap.size < w3.heap.size := (by omega); have v3 : ¬ (w.heap.size = w3.heap.size) := (by omega)) | ((go_at_call 71; refine K.call (by with_reducible rfl) (by with_reducible rfl) (HXR.out _ X3) ?_; rintro e w4 ⟨rfl, hw4⟩); have X4 := K.Ext.trans X3 hw4; have R4 := K.row_ext R3 hw4; have B4 := K.Ext.block_of B3 hw4; obtain ⟨b48_c0, b48_c1, b48_c2, b48_c3, b48_c4, b48_c5, b48_c6, b48_c7, b48_f0, b48_f1, b48_f2, b48_f3, b48_f4, b48_f5, b48_f6, b48_f7⟩ := K.bk8 (w := w4) (w.heap.size) (.int .i64 (E.L.dg)) (.int .i64 (E.L.tn)) (.string E.L.nm) (.slice o1 E.L.pw.length c1) (.int .i64 (E.R.dg)) (.int .i64 (E.R.tn)) (.string E.R.nm) (.slice o2 E.R.pw.length c2) (B4); have z4 := hw4.size; (try simp at z4); have y4 : w.heap.size < w4.heap.size := (by omega); have v4 : ¬ (w.heap.size = w4.heap.size) := (by omega)) | (at_builtin; refine wpList_append_lies _ rfl _ _ _ rfl (w2.heap.size) 89 it0 _ 3 24 Tryz.underlying47 hi0 hz0 hz1 hz2 rfl (by omega) (u6) (ll) _ rfl (R4.alloc _) ⟨w4.heap.size, 0, none⟩ 1 1 [.int .i64 (1), .int .u8 (c), .int .i64 (-m)] rfl rfl (World.news_of_block (cs := #[.int .i64 (1), .int .u8 (c), .int .i64 (-m)]) (t := 89) (fr := (0, 0)) (K.block_new (by simp))) (by simp [Value.oneCell']) (by omega) (by unfold maxLen; omega) (by omega) (by simp; omega) (w4.heap.size + 1) (by simp) ?_; intro gA gcA wA hownA hgrowA hatA hltA; have HRA : Hid (∀ g, ((u6) : Value).ownBlock = some g → w2.heap.size ≤ g) := Z.hide (fun g hg => (R4.lt g hg).1); have HPA := Z.hide hownA; have qA := HPA.out.lt gA rfl; have HXA : Hid (K.Ext w wA) := Z.hide ((X4.alloc _).below.grown hgrowA (by simp; omega) (fun g hg => by have := HRA.out g hg; omega)); have HBA := Z.hide (K.grown_block hgrowA (((K.Ext.refl _).alloc _).block B4) (Ne.symm AG0)); clear hownA hgrowA hatA; obtain ⟨b49_c0, b49_c1, b49_c2, b49_c3, b49_c4, b49_c5, b49_c6, b49_c7, b49_f0, b49_f1, b49_f2, b49_f3, b49_f4, b49_f5, b49_f6, b49_f7⟩ := K.bk8 (w := wA) (w.heap.size) (.int .i64 (E.L.dg)) (.int .i64 (E.L.tn)) (.string E.L.nm) (.slice o1 E.L.pw.length c1) (.int .i64 (E.R.dg)) (.int .i64 (E.R.tn)) (.string E.R.nm) (.slice o2 E.R.pw.length c2) (HBA.out); have zA := HXA.out.size; have yA : w.heap.size < wA.heap.size := (Array.getElem?_eq_some_iff.1 HBA.out).1))
            have RA : wA.ownsRow w2.heap.size 89 3 (.slice (some ⟨gA, 0, none⟩) (ll + 1) gcA) (ll + 1) (K.StR.cells (L ++ [⟨1, c, -m⟩] : List Z.St)) := by rw [K.Rec.cells_snoc]; exact HPA.out
            go_wp2_with (first | ((go_at_call 72; refine K.call (by with_reducible rfl) (by with_reducible rfl) (HB1.out _ HXA.out (K.recs.plain (K.recs_of_row RA (by decide)))) ?_; rintro e w5 ⟨⟨oa5, na5, ka5, ob5, nb5, kb5, rfl⟩, hw5⟩); have X5 := K.Ext.trans HXA.out hw5; have R5 := K.row_ext RA hw5; have B5 := K.Ext.block_of HBA.out hw5; obtain ⟨b50_c0, b50_c1, b50_c2, b50_c3, b50_c4, b50_c5, b50_c6, b50_c7, b50_f0, b50_f1, b50_f2, b50_f3, b50_f4, b50_f5, b50_f6, b50_f7⟩ := K.bk8 (w := w5) (w.heap.size) (.int .i64 (E.L.dg)) (.int .i64 (E.L.tn)) (.string E.L.nm) (.slice o1 E.L.pw.length c1) (.int .i64 (E.R.dg)) (.int .i64 (E.R.tn)) (.string E.R.nm) (.slice o2 E.R.pw.length c2) (B5); have z5 := hw5.size; (try simp at z5); have y5 : w.heap.size < w5.heap.size := (by omega); have v5 : ¬ (w.heap.size = w5.heap.size) := (by omega)))
            go_wp2_with (go_at_call 73; refine K.call (by with_reducible rfl) (by with_reducible rfl) (HAB _) ?_; rintro e w' ⟨rfl, rfl⟩)
            rw [HE.out]
            go_ret2
            exact ⟨⟨_, rfl, K.recs_nil _ _ _⟩, K.bel⟩
end Go.Proofs.YtmgocfdhngeeiaaGreatDoor
end
section
namespace Go.Z
theorem isoK_pre (ns ps : List Int) (c : Int) (j k : Nat) : ∃ m, isoK ns ps c (k + j) = isoK ns ps c k ++ m := by
  induction j with
  | zero => exact ⟨[], by simp⟩
  | succ j ih =>
    obtain ⟨m, hm⟩ := ih
    rw [← Nat.add_assoc]
    simp only [isoK]
    split
    · exact ⟨m, hm⟩
    · exact ⟨m ++ [⟨1, ns.getD (k + j) 0, -(ps.getD (k + j) 0)⟩], by rw [hm, List.append_assoc]⟩
theorem isoK_bad {E : Eqn} {c : Int} (h : isEquation E = true) (hc : ex E.L c ≠ 0) {k : Nat} (hk : k ≤ E.L.nm.size) (hr : runL E (isoK (bs E.L.nm) E.L.pw c k) = none) : IsolateName E c = ([], 5) := by
  refine iso_fail h hc ?_
  obtain ⟨m, hm⟩ := isoK_pre (bs E.L.nm) E.L.pw c (E.L.nm.size - k) k
  rw [show k + (E.L.nm.size - k) = E.L.nm.size by omega] at hm
  unfold isoB isoA
  split
  · rw [hm]; exact runL_none hr m
  · rw [hm, List.append_assoc]; exact runL_none hr _
theorem runS_ok {A : Eqn} {s : St} (h : (stepEq A s).2 = 0) : runS (some A) s = some (stepEq A s).1 := by simp only [runS]; rw [if_pos h]
theorem runS_bad {A : Eqn} {s : St} (h : ¬ (stepEq A s).2 = 0) : runS (some A) s = none := by simp only [runS]; rw [if_neg h]
end Go.Z
namespace Go.Proofs.YtmgocfdhngeeiaaGreatDoor
open Go.RowKit
set_option maxRecDepth 100000 in
set_option maxHeartbeats 25600000 in
theorem impl_IsolateName (E : Z.Eqn) (c : Int) {l1 r1 l2 r2 : Nat} {p q : Value} (w : World) (hm : E.L.pw.length ≤ 1048576) (hn : E.L.nm.size ≤ 1048576) (hm' : E.R.pw.length ≤ 1048576) (hn' : E.R.nm.size ≤ 1048576) (h : K.ints w l1 r1 p E.L.pw) (h' : K.ints w l2 r2 q E.R.pw) (hb : 0 ≤ c ∧ c ≤ 255) :
    Calls Tryz.prog 20 #[.agg #[.int .i64 E.L.dg, .int .i64 E.L.tn, .string E.L.nm, p, .int .i64 E.R.dg, .int .i64 E.R.tn, .string E.R.nm, q], .int .u8 c] w fun e w' => (∃ v', e = .returned (.tuple #[v', .int .i64 (Z.IsolateName E c).2]) ∧ K.recs true K.StR w' w.heap.size w'.heap.size v' (Z.IsolateName E c).1) ∧ K.Ext w w' := by
  obtain ⟨M, hM⟩ : ∃ M, M = Z.IsolateName E c := ⟨_, rfl⟩
  rw [← hM]
  have g1 := h
  obtain ⟨o1, c1, rfl, _⟩ := g1
  have g2 := h'
  obtain ⟨o2, c2, rfl, _⟩ := g2
  have HHL := Z.hide h
  have HHR := Z.hide h'
  cases vE : Z.isEquation E
  · have HE : Hid (M = ([], 1)) := Z.hide (by rw [hM]; exact Z.iso_bad vE c)
    have HI : Hid (∀ w' : World, K.Ext w w' → Calls Tryz.prog 66 #[.agg #[.int .i64 E.L.dg, .int .i64 E.L.tn, .string E.L.nm, .slice o1 E.L.pw.length c1, .int .i64 E.R.dg, .int .i64 E.R.tn, .string E.R.nm, .slice o2 E.R.pw.length c2]] w' fun e w'' => e = .returned (.bool false) ∧ K.Ext w' w'') := Z.hide (fun w' hx => by have h_ := impl_IsEquation E w' hm hn hm' hn' (HHL.out.ext hx) (HHR.out.ext hx); rwa [vE] at h_)
    clear hM h h'
    go_enter Tryz.func20, Tryz.ntmps20
    go_wp2_with ((go_at_call 66; refine K.call (by with_reducible rfl) (by with_reducible rfl) (HI.out _ K.bel) ?_; rintro e w1 ⟨rfl, hw1⟩))
    rw [HE.out]
    go_ret2
    exact ⟨⟨_, rfl, K.recs_nil _ _ _⟩, K.bel⟩
  have HI : Hid (∀ w' : World, K.Ext w w' → Calls Tryz.prog 66 #[.agg #[.int .i64 E.L.dg, .int .i64 E.L.tn, .string E.L.nm, .slice o1 E.L.pw.length c1, .int .i64 E.R.dg, .int .i64 E.R.tn, .string E.R.nm, .slice o2 E.R.pw.length c2]] w' fun e w'' => e = .returned (.bool true) ∧ K.Ext w' w'') := Z.hide (fun w' hx => by have h_ := impl_IsEquation E w' hm hn hm' hn' (HHL.out.ext hx) (HHR.out.ext hx); rwa [vE] at h_)
  obtain ⟨vL, vR⟩ := Z.isEquation_parts vE
  have lL := Z.isFormula_len vL
  have lR := Z.isFormula_len vR
  obtain ⟨n, hnn⟩ : ∃ n, n = Z.ex E.L c := ⟨_, rfl⟩
  obtain ⟨m, hmm⟩ : ∃ m, m = Z.ex E.R c := ⟨_, rfl⟩
  have nb := Z.ex_bd vL c
  have mb := Z.ex_bd vR c
  rw [← hnn] at nb
  rw [← hmm] at mb
  have HXL : Hid (∀ w' : World, K.Ext w w' → Calls Tryz.prog 67 #[.agg #[.int .i64 E.L.dg, .int .i64 E.L.tn, .string E.L.nm, .slice o1 E.L.pw.length c1], .int .u8 c] w' fun e w'' => e = .returned (.int .i64 n) ∧ K.Ext w' w'') := Z.hide (fun w' hx => by rw [hnn]; exact exponentOf_any E.L c _ _ _ w' lL.1 (by omega) hb.1 hb.2 (HHL.out.ext hx))
  by_cases hc0 : n = 0
  · have HE : Hid (M = ([], 4)) := Z.hide (by rw [hM]; exact Z.iso_none vE (by rw [← hnn]; exact hc0))
    subst hc0
    clear hM h h' hnn hmm lL lR vL vR vE
    go_enter Tryz.func20, Tryz.ntmps20
    go_wp2_with (first | ((go_at_call 66; refine K.call (by with_reducible rfl) (by with_reducible rfl) (HI.out _ K.bel) ?_; rintro e w1 ⟨rfl, hw1⟩); have X1 := K.Ext.trans (show K.Ext w _ from K.bel) hw1; obtain ⟨c_w1_0_0, c_w1_0_1, c_w1_0_2, c_w1_0_3, c_w1_0_4, c_w1_0_5, c_w1_0_6, c_w1_0_7, f_w1_0_0, f_w1_0_1, f_w1_0_2, f_w1_0_3, f_w1_0_4, f_w1_0_5, f_w1_0_6, f_w1_0_7⟩ := K.kp8 hw1 (w.heap.size) (.int .i64 (E.L.dg)) (.int .i64 (E.L.tn)) (.string E.L.nm) (.slice o1 E.L.pw.length c1) (.int .i64 (E.R.dg)) (.int .i64 (E.R.tn)) (.string E.R.nm) (.slice o2 E.R.pw.length c2); have z1 := hw1.size; simp at z1) | ((go_at_call 67; refine K.call (by with_reducible rfl) (by with_reducible rfl) (HXL.out _ X1) ?_; rintro e w2 ⟨rfl, hw2⟩)))
    rw [HE.out]
    go_ret2
    exact ⟨⟨_, rfl, K.recs_nil _ _ _⟩, X1.trans hw2⟩
  have hce : Z.ex E.L c ≠ 0 := by rw [← hnn]; exact hc0
  have hc0b : (n == 0) = false := by simpa using hc0
  have hmf : ∀ (fn : Fn) (first cap : Array Value) (w : World), (Instr.makeFunc fn first cap).run Tryz.prog w = .ok (.func fn first cap) w := fun _ _ _ _ => rfl
  have hg : ∀ (args : Array Value) (w' : World), (callFunc 68 args).run Tryz.prog w' = .ok (.enter 68 args) w' := by
    intro args w'; go_simp
  obtain ⟨N, hN⟩ : ∃ N, N = E.L.nm.size := ⟨_, rfl⟩
  have HN := Z.hide hN
  have HL6 : Hid (∀ k, k ≤ N → (Z.isoK (Z.bs E.L.nm) E.L.pw c k).length ≤ 6) := Z.hide (fun k hk => by have := Z.isoK_len (Z.bs E.L.nm) E.L.pw c k; omega)
  have HVA : Hid (∀ k, k < N → (97 ≤ (Z.bs E.L.nm).getD k 0 ∧ (Z.bs E.L.nm).getD k 0 ≤ 122) ∧ E.L.pw.getD k 0 ≠ 0 ∧ -6 ≤ E.L.pw.getD k 0 ∧ E.L.pw.getD k 0 ≤ 6) := Z.hide (fun k hk => by have := Z.okAt_parts (Z.valid_at vL k (by omega)); exact ⟨⟨this.1, this.2.1⟩, this.2.2.2.1, this.2.2.2.2.1, this.2.2.2.2.2⟩)
  have HMD := Z.hide hM
  have HVE := Z.hide vE
  have HVL := Z.hide vL
  have HCE := Z.hide hce
  have HCL := Z.hide (Z.ex_letter vL hce)
  have HNN := Z.hide hnn
  have HMM := Z.hide hmm
  have N6 : N ≤ 6 := by omega
  have hNn : (E.L.nm.size : Int) = (N : Int) := by rw [HN.out]
  clear hM h h' vE vL vR lL lR hce hnn hmm hN hm hn hm' hn'
  go_enter Tryz.func20, Tryz.ntmps20
  go_wp2_with (first | ((go_at_call 66; refine K.call (by with_reducible rfl) (by with_reducible rfl) (HI.out _ K.bel) ?_; rintro e w1 ⟨rfl, hw1⟩); have X1 := K.Ext.trans (show K.Ext w _ from K.bel) hw1; obtain ⟨c_w1_0_0, c_w1_0_1, c_w1_0_2, c_w1_0_3, c_w1_0_4, c_w1_0_5, c_w1_0_6, c_w1_0_7, f_w1_0_0, f_w1_0_1, f_w1_0_2, f_w1_0_3, f_w1_0_4, f_w1_0_5, f_w1_0_6, f_w1_0_7⟩ := K.kp8 hw1 (w.heap.size) (.int .i64 (E.L.dg)) (.int .i64 (E.L.tn)) (.string E.L.nm) (.slice o1 E.L.pw.length c1) (.int .i64 (E.R.dg)) (.int .i64 (E.R.tn)) (.string E.R.nm) (.slice o2 E.R.pw.length c2); have z1 := hw1.size; simp at z1) | ((go_at_call 67; refine K.call (by with_reducible rfl) (by with_reducible rfl) (HXL.out _ X1) ?_; rintro e w2 ⟨rfl, hw2⟩); have X2 := X1.trans hw2; obtain ⟨c_w2_0_0, c_w2_0_1, c_w2_0_2, c_w2_0_3, c_w2_0_4, c_w2_0_5, c_w2_0_6, c_w2_0_7, f_w2_0_0, f_w2_0_1, f_w2_0_2, f_w2_0_3, f_w2_0_4, f_w2_0_5, f_w2_0_6, f_w2_0_7⟩ := K.kp8 hw2 (w.heap.size) (.int .i64 (E.L.dg)) (.int .i64 (E.L.tn)) (.string E.L.nm) (.slice o1 E.L.pw.length c1) (.int .i64 (E.R.dg)) (.int .i64 (E.R.tn)) (.string E.R.nm) (.slice o2 E.R.pw.length c2); have z2 := hw2.size; have z3 : w.heap.size < w2.heap.size := (by omega); have z4 : ¬ (w.heap.size = w2.heap.size) := (by omega); have z5 : ¬ (w.heap.size = w2.heap.size + 1) := (by omega); have z6 : ¬ (w.heap.size = w2.heap.size + 1 + 1) := (by omega); have hload : ∀ x y z, (((w2.alloc x).alloc y).alloc z).cell? ⟨w.heap.size, 2, none⟩ = some (.string E.L.nm) := fun x y z => (show K.Ext w2 _ from (((K.Ext.refl w2).alloc x).alloc y).alloc z).cell_of c_w2_0_2))
  have HX2 := Z.hide X2
  have B2 := Z.hide (show w2.heap[w.heap.size]? = some (.cells #[.int .i64 E.L.dg, .int .i64 E.L.tn, .string E.L.nm, .slice o1 E.L.pw.length c1, .int .i64 E.R.dg, .int .i64 E.R.tn, .string E.R.nm, .slice o2 E.R.pw.length c2] 44) from hw2.block (hw1.block (K.block_new rfl)))
  obtain ⟨a, ha⟩ : ∃ a, a = w2.heap.size + 1 + 1 := ⟨_, rfl⟩
  obtain ⟨b, hb_⟩ : ∃ b, b = w2.heap.size + 1 := ⟨_, rfl⟩
  clear hw1 hw2 X1 X2 HI HXL
  go_loopw [27] (fun i wr => ∃ k : Nat, k ≤ N ∧ i = .int .i64 k ∧ Hid (∃ A, Z.runL E (Z.isoK (Z.bs E.L.nm) E.L.pw c k) = some A ∧ IsoSt E (.slice o1 E.L.pw.length c1) (.slice o2 E.R.pw.length c2) (w2.heap.size + 1 + 1) (w2.heap.size + 1) w2.heap.size A (Z.isoK (Z.bs E.L.nm) E.L.pw c k) w wr)) (fun i _ => N - (intOf i).toNat)
  case atStart =>
    exact ⟨0, Nat.zero_le _, rfl, Z.hide ⟨E, rfl, o1, c1, o2, c2, w2.heap.size, 0, l1, r1, l2, r2, K.block_new (by simp), ((K.Ext.refl _).alloc _).block (K.block_new (by simp)), K.row_ext (K.row_lit3 rfl (Nat.le_refl _)) (((K.Ext.refl _).alloc _).alloc _), HHL.out.ext (((HX2.out.alloc _).alloc _).alloc _), HHR.out.ext (((HX2.out.alloc _).alloc _).alloc _), by omega, by omega, ((HX2.out.alloc _).alloc _).alloc _, K.Ext.block_of B2.out ((((K.Ext.refl _).alloc _).alloc _).alloc _)⟩⟩
  case round =>
    obtain ⟨k, hk, rfl, HS⟩ := hrel
    obtain ⟨A, hr, st⟩ := HS.out
    clear HS hc0b
    have HR := Z.hide hr
    have HST := Z.hide st
    obtain ⟨oa, ca, ob, cb, g, cr, x1, y1, x2, y2, s1, s2, s3, s4, s5, s6, s7, s8, s9⟩ := st
    have HA := Z.hide s1
    have HB := Z.hide s2
    have HE8 := Z.hide s9
    have HI4 := Z.hide s4
    have HI5 := Z.hide s5
    have HX := Z.hide s8
    clear hr s1 s2 s3 s4 s5 s8 s9
    have k0 : (0 : Int) ≤ (k : Int) := Int.natCast_nonneg k
    obtain ⟨b1_c0, b1_c1, b1_c2, b1_c3, b1_c4, b1_c5, b1_c6, b1_c7, b1_f0, b1_f1, b1_f2, b1_f3, b1_f4, b1_f5, b1_f6, b1_f7⟩ := K.bk8 (w := wr) (w2.heap.size + 1 + 1) (.int .i64 (A.L.dg)) (.int .i64 (A.L.tn)) (.string A.L.nm) (.slice oa A.L.pw.length ca) (.int .i64 (A.R.dg)) (.int .i64 (A.R.tn)) (.string A.R.nm) (.slice ob A.R.pw.length cb) (HA.out)
    obtain ⟨b2_c0, b2_c1, b2_c2, b2_c3, b2_c4, b2_c5, b2_c6, b2_c7, b2_f0, b2_f1, b2_f2, b2_f3, b2_f4, b2_f5, b2_f6, b2_f7⟩ := K.bk8 (w := wr) (w.heap.size) (.int .i64 (E.L.dg)) (.int .i64 (E.L.tn)) (.string E.L.nm) (.slice o1 E.L.pw.length c1) (.int .i64 (E.R.dg)) (.int .i64 (E.R.tn)) (.string E.R.nm) (.slice o2 E.R.pw.length c2) (HE8.out)
    have lwr : w2.heap.size + 1 + 1 < wr.heap.size := (Array.getElem?_eq_some_iff.1 HA.out).1
    have HAE : Hid (Z.isEquation A = true) := Z.hide (Z.runL_ok HVE.out _ HR.out)
    by_cases hlt : k < N
    · have k1 : (k : Int) < (N : Int) := by omega
      have hkn : k < E.L.nm.size := by rw [← HN.out]; exact hlt
      obtain ⟨y, hy⟩ : ∃ y : Int, y = ((E.L.nm[k]'hkn).toNat : Int) := ⟨_, rfl⟩
      have HY : Hid (y = (Z.bs E.L.nm).getD k 0) := Z.hide (by rw [hy]; exact Z.bs_get E.L.nm k hkn)
      have hy' := hy.symm
      clear hy
      by_cases hyc : y = c
      · have HT := Z.hide (Z.isoK_eq (ps := E.L.pw) HY.out hyc)
        go_wp2
        go_roundw
        case rel => exact ⟨k + 1, by omega, by go_num, Z.hide ⟨A, by rw [HT.out]; exact HR.out, by rw [HT.out]; exact HST.out⟩⟩
        case measure => first | (simp [intOf]; done) | (simp [intOf]; omega)
      · have HT := Z.hide (Z.isoK_ne (ps := E.L.pw) HY.out hyc)
        obtain ⟨⟨y1_, y2_⟩, v0, v1, v2⟩ := HVA.out k hlt
        rw [← HY.out] at y1_ y2_
        obtain ⟨x, hx⟩ : ∃ x, x = E.L.pw.getD k 0 := ⟨_, rfl⟩
        rw [← hx] at v0 v1 v2
        have HXP := Z.hide hx
        have q1 : IntKind.i64.wrap (-x) = -x := IntWalk.i64_in _ (by omega)
        have HXE : Hid (Z.expo (Z.bs A.L.nm) A.L.pw y = x) := Z.hide (by
          have h1 := (Z.isoK_keeps HVE.out c k (by rw [← HN.out]; exact hk) HR.out y (.inr ⟨k, Nat.le_refl _, by rw [← HN.out]; exact hlt, HY.out⟩)).1
          have h2 := Z.ex_at HVL.out k (by rw [← HN.out]; exact hlt)
          rw [← HY.out, ← HXP.out] at h2
          exact h1.trans h2)
        have HC1 : Hid (∀ w' : World, K.Ext wr w' → Calls Tryz.prog 67 #[.agg #[.int .i64 A.L.dg, .int .i64 A.L.tn, .string A.L.nm, .slice oa A.L.pw.length ca], .int .u8 y] w' fun e w'' => e = .returned (.int .i64 x) ∧ K.Ext w' w'') := Z.hide (fun w' hx => by
          have l_ := Z.isFormula_len (Z.isEquation_parts HAE.out).1
          have h_ := exponentOf_any A.L y _ _ _ w' l_.1 (by omega) (by omega) (by omega) (HI4.out.ext hx)
          rwa [HXE.out] at h_)
        obtain ⟨R, hR⟩ : ∃ R, R = Z.stepEq A ⟨1, y, -x⟩ := ⟨_, rfl⟩
        have HRR := Z.hide hR
        have HSP : Hid (Z.isStep ⟨1, y, -x⟩ = true) := Z.hide (by simp [Z.isStep]; omega)
        have HC2 : Hid (∀ w' : World, K.Ext wr w' → Calls Tryz.prog 68 #[.agg #[.int .i64 1, .int .u8 y, .int .i64 (-x)], .pointer (some ⟨w2.heap.size + 1 + 1, 0, none⟩), .pointer (some ⟨w2.heap.size + 1, 0, none⟩)] w' fun e w'' => e = .returned (.bool (R.2 == 0)) ∧ IsoSt E (.slice o1 E.L.pw.length c1) (.slice o2 E.R.pw.length c2) (w2.heap.size + 1 + 1) (w2.heap.size + 1) w2.heap.size R.1 (Z.isoK (Z.bs E.L.nm) E.L.pw c k ++ [⟨1, y, -x⟩]) w w'') := Z.hide (fun w' hx => by
          rw [hR]
          exact isoDo_st E _ _ _ _ _ A _ ⟨1, y, -x⟩ w w' HSP.out HAE.out (HST.out.ext hx) (by have := HL6.out k hk; omega) (by omega) (by omega) (by omega) (by omega))
        clear hx hR
        by_cases hz : R.2 = 0
        · have HT2 : Hid (Z.runL E (Z.isoK (Z.bs E.L.nm) E.L.pw c (k + 1)) = some R.1) := Z.hide (by rw [HT.out, ← HXP.out, Z.runL_snoc, HR.out, HRR.out]; exact Z.runS_ok (by rw [← HRR.out]; exact hz))
          have hz' : (R.2 == 0) = true := by simp [hz]
          rw [hz'] at HC2
          clear hz hz'
          go_wp2_with (first | ((go_at_call 67; refine K.call (by with_reducible rfl) (by with_reducible rfl) (HC1.out _ K.bel) ?_; rintro e w5 ⟨rfl, hw5⟩); have HX5 := Z.hide (show K.Ext wr w5 from K.Ext.trans (by first | exact K.Ext.refl _ | exact K.bel) hw5)) | (refine K.call (by with_reducible rfl) (by with_reducible rfl) (HC2.out _ (by first | exact HX5.out | exact K.bel)) ?_; rintro e w6 ⟨rfl, S6⟩; have HS6 := Z.hide S6; clear S6))
          go_roundw
          case rel => exact ⟨k + 1, by omega, by go_num, Z.hide ⟨R.1, HT2.out, by rw [HT.out, ← HXP.out]; exact HS6.out⟩⟩
          case measure => first | (simp [intOf]; done) | (simp [intOf]; omega)
        · have HE : Hid (M = ([], 5)) := Z.hide (by
            rw [HMD.out]
            refine Z.isoK_bad HVE.out HCE.out (k := k + 1) (by rw [← HN.out]; omega) ?_
            rw [HT.out, ← HXP.out, Z.runL_snoc, HR.out]
            exact Z.runS_bad (by rw [← HRR.out]; exact hz))
          have hz' : (R.2 == 0) = false := by simp [hz]
          rw [hz'] at HC2
          clear hz hz'
          go_wp2_with (first | ((go_at_call 67; refine K.call (by with_reducible rfl) (by with_reducible rfl) (HC1.out _ K.bel) ?_; rintro e w5 ⟨rfl, hw5⟩); have HX5 := Z.hide (show K.Ext wr w5 from K.Ext.trans (by first | exact K.Ext.refl _ | exact K.bel) hw5)) | (refine K.call (by with_reducible rfl) (by with_reducible rfl) (HC2.out _ (by first | exact HX5.out | exact K.bel)) ?_; rintro e w6 ⟨rfl, S6⟩; have HS6 := Z.hide S6; clear S6))
          obtain ⟨_, _, _, _, _, _, _, _, _, _, _, _, _, _, _, _, _, X6, _⟩ := HS6.out
          rw [HE.out]
          go_ret2
          exact ⟨⟨_, rfl, K.recs_nil _ _ _⟩, X6⟩
    · obtain rfl : k = N := by omega
      have hLk : Z.isoK (Z.bs E.L.nm) E.L.pw c k = Z.isoA E c := by rw [HN.out]; rfl
      have L6 := HL6.out k (Nat.le_refl _)
      rw [hLk] at HR HST HB L6
      have HLS := Z.hide (Z.iso_last HVE.out HCE.out HR.out)
      obtain ⟨L, hL⟩ : ∃ L, L = Z.isoA E c := ⟨_, rfl⟩
      have HLA := Z.hide hL
      rw [← hL] at HST HB L6
      clear hL hLk HL6 HVA HHL HHR HX2 B2 hlt
      have HCM : Hid (∀ w' : World, K.Ext wr w' → Calls Tryz.prog 67 #[.agg #[.int .i64 A.R.dg, .int .i64 A.R.tn, .string A.R.nm, .slice ob A.R.pw.length cb], .int .u8 c] w' fun e w'' => e = .returned (.int .i64 m) ∧ K.Ext w' w'') := Z.hide (fun w' hx => by
        have l_ := Z.isFormula_len (Z.isEquation_parts HAE.out).2
        have h_ := exponentOf_any A.R c _ _ _ w' l_.1 (by omega) (by omega) (by omega) (HI5.out.ext hx)
        have e_ : Z.expo (Z.bs A.R.nm) A.R.pw c = m := by rw [HMM.out]; exact HLS.out.1.2
        rwa [e_] at h_)
      obtain ⟨d, hd⟩ : ∃ d, d = Z.isoN E c := ⟨_, rfl⟩
      have HD := Z.hide hd
      have d12 : -12 ≤ d ∧ d ≤ 12 := by rw [hd]; unfold Z.isoN; rw [← HNN.out, ← HMM.out]; omega
      clear hd
      by_cases hm0 : m = 0
      · have HZ := (HLS.out.2.1 (by rw [← HMM.out]; exact hm0))
        have HBR := Z.hide HZ.1
        have HBN := Z.hide HZ.2
        clear HZ
        obtain ⟨LB, hLB⟩ : ∃ LB, LB = Z.isoB E c := ⟨_, rfl⟩
        have HLB := Z.hide hLB
        have hll : L = LB := by rw [hLB, HLA.out]; unfold Z.isoB; rw [if_pos (by rw [← HMM.out]; exact hm0)]
        rw [hll] at HST HB L6
        clear hll hLB HLS
        have LB7 : LB.length ≤ 7 := by omega
        subst hm0
        go_wp2_with ((go_at_call 67; refine K.call (by with_reducible rfl) (by with_reducible rfl) (HCM.out _ K.bel) ?_; rintro e w7 ⟨rfl, hw7⟩); have S7 := HST.out.ext hw7; have HS7 := Z.hide S7; obtain ⟨oa7, ca7, ob7, cb7, g7, cr7, l7, r7, i7, j7, s1_, s2_, s3_, s4_, s5_, s6_, s7_, s8_, s9_⟩ := S7; have HA7 := Z.hide s1_; have HB7 := Z.hide s2_; have HO7 := Z.hide s3_; have HI7 := Z.hide s4_; have HX7 := Z.hide s8_; clear s1_ s2_ s3_ s4_ s5_ s6_ s7_ s8_ s9_; obtain ⟨b3_c0, b3_c1, b3_c2, b3_c3, b3_c4, b3_c5, b3_c6, b3_c7, b3_f0, b3_f1, b3_f2, b3_f3, b3_f4, b3_f5, b3_f6, b3_f7⟩ := K.bk8 (w := w7) (w2.heap.size + 1 + 1) (.int .i64 (A.L.dg)) (.int .i64 (A.L.tn)) (.string A.L.nm) (.slice oa7 A.L.pw.length ca7) (.int .i64 (A.R.dg)) (.int .i64 (A.R.tn)) (.string A.R.nm) (.slice ob7 A.R.pw.length cb7) (HA7.out))
        have HBE := HAE
        obtain ⟨B, rfl⟩ : ∃ B, B = A := ⟨_, rfl⟩
        have HCD : Hid (∀ w' : World, K.Ext w7 w' → Calls Tryz.prog 67 #[.agg #[.int .i64 B.L.dg, .int .i64 B.L.tn, .string B.L.nm, .slice oa7 B.L.pw.length ca7], .int .u8 c] w' fun e w'' => e = .returned (.int .i64 d) ∧ K.Ext w' w'') := Z.hide (fun w' hx => by
          have l_ := Z.isFormula_len (Z.isEquation_parts HBE.out).1
          have h_ := exponentOf_any B.L c _ _ _ w' l_.1 (by omega) (by omega) (by omega) (HI7.out.ext hx)
          have e_ : Z.expo (Z.bs B.L.nm) B.L.pw c = d := by rw [HD.out]; exact HBN.out
          rwa [e_] at h_)
        have lw7 : w2.heap.size + 1 + 1 < w7.heap.size := (Array.getElem?_eq_some_iff.1 HA7.out).1
        by_cases d0 : d = 0
        · have HE : Hid (M = ([], 4)) := Z.hide (by rw [HMD.out]; exact Z.iso_zero HVE.out HCE.out HBR.out (by rw [← HD.out]; exact d0))
          subst d0
          go_wp2_with ((go_at_call 67; refine K.call (by with_reducible rfl) (by with_reducible rfl) (HCD.out _ K.bel) ?_; rintro e w8 ⟨rfl, hw8⟩); have X8 := Z.hide (HX7.out.trans hw8); have c8 : w8.cell? ⟨w2.heap.size + 1, 0, none⟩ = some (.slice (some ⟨g7, 0, none⟩) LB.length cr7) := hw8.cell_of (K.cell_at HB7.out rfl); have R8 := Z.hide (K.row_ext HO7.out hw8))
          rw [HE.out]
          go_ret2
          exact ⟨⟨_, rfl, K.recs_nil _ _ _⟩, X8.out⟩
        by_cases d1 : d = 1
        · have HE : Hid (M = (LB, 0)) := Z.hide (by rw [HMD.out, HLB.out]; exact Z.iso_one HVE.out HCE.out HBR.out (by rw [← HD.out]; exact d1))
          subst d1
          go_wp2_with ((go_at_call 67; refine K.call (by with_reducible rfl) (by with_reducible rfl) (HCD.out _ K.bel) ?_; rintro e w8 ⟨rfl, hw8⟩); have X8 := Z.hide (HX7.out.trans hw8); have c8 : w8.cell? ⟨w2.heap.size + 1, 0, none⟩ = some (.slice (some ⟨g7, 0, none⟩) LB.length cr7) := hw8.cell_of (K.cell_at HB7.out rfl); have R8 := Z.hide (K.row_ext HO7.out hw8))
          rw [HE.out]
          go_ret2
          exact ⟨⟨_, rfl, (K.recs_of_row R8.out (by decide)).mono (by omega) (Nat.le_refl _)⟩, X8.out⟩
        by_cases d2 : d = -1
        · have HIV : Hid (Z.IsolateName E c = if (Z.stepEq B ⟨2, 0, -1⟩).2 = 0 then (LB ++ [⟨2, 0, -1⟩], 0) else ([], 5)) := Z.hide (by rw [HLB.out]; exact Z.iso_neg HVE.out HCE.out HBR.out (by rw [← HD.out]; exact d2))
          subst d2
          obtain ⟨T, hT⟩ : ∃ T, T = Z.stepEq B ⟨2, 0, -1⟩ := ⟨_, rfl⟩
          have HC3 : Hid (∀ w' : World, K.Ext w7 w' → Calls Tryz.prog 68 #[.agg #[.int .i64 2, .int .u8 0, .int .i64 (-1)], .pointer (some ⟨w2.heap.size + 1 + 1, 0, none⟩), .pointer (some ⟨w2.heap.size + 1, 0, none⟩)] w' fun e w'' => e = .returned (.bool (T.2 == 0)) ∧ IsoSt E (.slice o1 E.L.pw.length c1) (.slice o2 E.R.pw.length c2) (w2.heap.size + 1 + 1) (w2.heap.size + 1) w2.heap.size T.1 (LB ++ [⟨2, 0, -1⟩]) w w'') := Z.hide (fun w' hx => by
            rw [hT]
            exact isoDo_st E _ _ _ _ _ B _ ⟨2, 0, -1⟩ w w' (by decide) HBE.out (HS7.out.ext hx) (by omega) (by omega) (by omega) (by omega) (by omega))
          rw [← hT] at HIV
          clear hT
          by_cases hz : T.2 = 0
          · have HE : Hid (M = (LB ++ [⟨2, 0, -1⟩], 0)) := Z.hide (by rw [HMD.out, HIV.out, if_pos hz])
            have hz' : (T.2 == 0) = true := by simp [hz]
            rw [hz'] at HC3
            clear hz hz' HIV
            go_wp2_with (first | ((go_at_call 67; refine K.call (by with_reducible rfl) (by with_reducible rfl) (HCD.out _ K.bel) ?_; rintro e w8 ⟨rfl, hw8⟩); have X8 := Z.hide (HX7.out.trans hw8); have c8 : w8.cell? ⟨w2.heap.size + 1, 0, none⟩ = some (.slice (some ⟨g7, 0, none⟩) LB.length cr7) := hw8.cell_of (K.cell_at HB7.out rfl); have R8 := Z.hide (K.row_ext HO7.out hw8); have X78 := Z.hide (show K.Ext w7 w8 from hw8)) | (refine K.call (by with_reducible rfl) (by with_reducible rfl) (HC3.out _ (by first | exact X78.out | exact K.bel)) ?_; rintro e w9 ⟨rfl, S9⟩; obtain ⟨oa9, ca9, ob9, cb9, g9, cr9, l9, r9, i9, j9, s1_, s2_, s3_, s4_, s5_, s6_, s7_, s8_, s9_⟩ := S9; have HA9 := Z.hide s1_; have HB9 := Z.hide s2_; have HO9 := Z.hide s3_; have HI9 := Z.hide s4_; have HX9 := Z.hide s8_; clear s1_ s2_ s3_ s4_ s5_ s6_ s7_ s8_ s9_; have c9 : w9.cell? ⟨w2.heap.size + 1, 0, none⟩ = some (.slice (some ⟨g9, 0, none⟩) (LB ++ [⟨2, 0, -1⟩] : List Z.St).length cr9) := K.cell_at HB9.out rfl))
            rw [HE.out]
            go_ret2
            have R9 := HO9.out
            have ln : (LB ++ [⟨2, 0, -1⟩] : List Z.St).length = LB.length + 1 := by simp
            rw [ln] at R9
            exact ⟨⟨_, rfl, (K.recs_of_row R9 (by decide)).mono (by omega) (Nat.le_refl _)⟩, HX9.out⟩
          · have HE : Hid (M = ([], 5)) := Z.hide (by rw [HMD.out, HIV.out, if_neg hz])
            have hz' : (T.2 == 0) = false := by simp [hz]
            rw [hz'] at HC3
            clear hz hz' HIV
            go_wp2_with (first | ((go_at_call 67; refine K.call (by with_reducible rfl) (by with_reducible rfl) (HCD.out _ K.bel) ?_; rintro e w8 ⟨rfl, hw8⟩); have X8 := Z.hide (HX7.out.trans hw8); have c8 : w8.cell? ⟨w2.heap.size + 1, 0, none⟩ = some (.slice (some ⟨g7, 0, none⟩) LB.length cr7) := hw8.cell_of (K.cell_at HB7.out rfl); have R8 := Z.hide (K.row_ext HO7.out hw8); have X78 := Z.hide (show K.Ext w7 w8 from hw8)) | (refine K.call (by with_reducible rfl) (by with_reducible rfl) (HC3.out _ (by first | exact X78.out | exact K.bel)) ?_; rintro e w9 ⟨rfl, S9⟩; obtain ⟨oa9, ca9, ob9, cb9, g9, cr9, l9, r9, i9, j9, s1_, s2_, s3_, s4_, s5_, s6_, s7_, s8_, s9_⟩ := S9; have HA9 := Z.hide s1_; have HB9 := Z.hide s2_; have HO9 := Z.hide s3_; have HI9 := Z.hide s4_; have HX9 := Z.hide s8_; clear s1_ s2_ s3_ s4_ s5_ s6_ s7_ s8_ s9_; have c9 : w9.cell? ⟨w2.heap.size + 1, 0, none⟩ = some (.slice (some ⟨g9, 0, none⟩) (LB ++ [⟨2, 0, -1⟩] : List Z.St).length cr9) := K.cell_at HB9.out rfl))
            rw [HE.out]
            go_ret2
            exact ⟨⟨_, rfl, K.recs_nil _ _ _⟩, HX9.out⟩
        · have HE : Hid (M = ([], 5)) := Z.hide (by rw [HMD.out]; exact Z.iso_other HVE.out HCE.out HBR.out (by rw [← HD.out]; exact d0) (by rw [← HD.out]; exact d1) (by rw [← HD.out]; exact d2))
          go_wp2_with ((go_at_call 67; refine K.call (by with_reducible rfl) (by with_reducible rfl) (HCD.out _ K.bel) ?_; rintro e w8 ⟨rfl, hw8⟩); have X8 := Z.hide (HX7.out.trans hw8); have c8 : w8.cell? ⟨w2.heap.size + 1, 0, none⟩ = some (.slice (some ⟨g7, 0, none⟩) LB.length cr7) := hw8.cell_of (K.cell_at HB7.out rfl); have R8 := Z.hide (K.row_ext HO7.out hw8))
          rw [HE.out]
          go_ret2
          exact ⟨⟨_, rfl, K.recs_nil _ _ _⟩, X8.out⟩
      · have HZ := (HLS.out.2.2 (by rw [← HMM.out]; exact hm0))
        rw [← HMM.out] at HZ
        obtain ⟨R, hR⟩ : ∃ R, R = Z.stepEq A ⟨1, c, -m⟩ := ⟨_, rfl⟩
        have HRR := Z.hide hR
        have HZ1 := Z.hide HZ.1
        have HZ2 := Z.hide HZ.2
        clear HZ
        have q2 : IntKind.i64.wrap (-m) = -m := IntWalk.i64_in _ (by omega)
        have hm0b : (m == 0) = false := by simpa using hm0
        have hcl := HCL.out
        have HSP : Hid (Z.isStep ⟨1, c, -m⟩ = true) := Z.hide (by simp [Z.isStep]; omega)
        have HC2 : Hid (∀ w' : World, K.Ext wr w' → Calls Tryz.prog 68 #[.agg #[.int .i64 1, .int .u8 c, .int .i64 (-m)], .pointer (some ⟨w2.heap.size + 1 + 1, 0, none⟩), .pointer (some ⟨w2.heap.size + 1, 0, none⟩)] w' fun e w'' => e = .returned (.bool (R.2 == 0)) ∧ IsoSt E (.slice o1 E.L.pw.length c1) (.slice o2 E.R.pw.length c2) (w2.heap.size + 1 + 1) (w2.heap.size + 1) w2.heap.size R.1 (L ++ [⟨1, c, -m⟩]) w w'') := Z.hide (fun w' hx => by
          rw [hR]
          exact isoDo_st E _ _ _ _ _ A _ ⟨1, c, -m⟩ w w' HSP.out HAE.out (HST.out.ext hx) (by omega) (by omega) (by omega) (by omega) (by omega))
        clear hR
        by_cases hz : R.2 = 0
        · have HR1 : Hid (Z.runS (some A) ⟨1, c, -m⟩ = some R.1) := Z.hide (by rw [HRR.out]; exact Z.runS_ok (by rw [← HRR.out]; exact hz))
          have HBN := Z.hide (HZ2.out R.1 HR1.out)
          have HBR : Hid (Z.runL E (Z.isoB E c) = some R.1) := Z.hide (by rw [HZ1.out]; exact HR1.out)
          have HBE : Hid (Z.isEquation R.1 = true) := Z.hide (Z.runL_ok HVE.out _ HBR.out)
          obtain ⟨LB, hLB⟩ : ∃ LB, LB = Z.isoB E c := ⟨_, rfl⟩
          have HLB := Z.hide hLB
          have hll : L ++ [⟨1, c, -m⟩] = LB := by rw [hLB, HLA.out]; unfold Z.isoB; rw [if_neg (by rw [← HMM.out]; exact hm0), ← HMM.out]
          have LB7 : LB.length ≤ 7 := by rw [← hll]; simp; omega
          rw [hll] at HC2
          have hz' : (R.2 == 0) = true := by simp [hz]
          rw [hz'] at HC2
          obtain ⟨B, hB⟩ : ∃ B, B = R.1 := ⟨_, rfl⟩
          rw [← hB] at HC2 HBR HBE HBN
          clear hz hz' hll hLB HLS hB HR1 HZ1 HZ2 HRR
          go_wp2_with (first | ((go_at_call 67; refine K.call (by with_reducible rfl) (by with_reducible rfl) (HCM.out _ K.bel) ?_; rintro e w5 ⟨rfl, hw5⟩); have X5 := Z.hide (show K.Ext wr w5 from K.Ext.trans (by first | exact K.Ext.refl _ | exact K.bel) hw5)) | (refine K.call (by with_reducible rfl) (by with_reducible rfl) (HC2.out _ (by first | exact X5.out | exact K.bel)) ?_; rintro e w7 ⟨rfl, S7⟩; have HS7 := Z.hide S7; obtain ⟨oa7, ca7, ob7, cb7, g7, cr7, l7, r7, i7, j7, s1_, s2_, s3_, s4_, s5_, s6_, s7_, s8_, s9_⟩ := S7; have HA7 := Z.hide s1_; have HB7 := Z.hide s2_; have HO7 := Z.hide s3_; have HI7 := Z.hide s4_; have HX7 := Z.hide s8_; clear s1_ s2_ s3_ s4_ s5_ s6_ s7_ s8_ s9_; obtain ⟨b4_c0, b4_c1, b4_c2, b4_c3, b4_c4, b4_c5, b4_c6, b4_c7, b4_f0, b4_f1, b4_f2, b4_f3, b4_f4, b4_f5, b4_f6, b4_f7⟩ := K.bk8 (w := w7) (w2.heap.size + 1 + 1) (.int .i64 (B.L.dg)) (.int .i64 (B.L.tn)) (.string B.L.nm) (.slice oa7 B.L.pw.length ca7) (.int .i64 (B.R.dg)) (.int .i64 (B.R.tn)) (.string B.R.nm) (.slice ob7 B.R.pw.length cb7) (HA7.out)))
          have HCD : Hid (∀ w' : World, K.Ext w7 w' → Calls Tryz.prog 67 #[.agg #[.int .i64 B.L.dg, .int .i64 B.L.tn, .string B.L.nm, .slice oa7 B.L.pw.length ca7], .int .u8 c] w' fun e w'' => e = .returned (.int .i64 d) ∧ K.Ext w' w'') := Z.hide (fun w' hx => by
            have l_ := Z.isFormula_len (Z.isEquation_parts HBE.out).1
            have h_ := exponentOf_any B.L c _ _ _ w' l_.1 (by omega) (by omega) (by omega) (HI7.out.ext hx)
            have e_ : Z.expo (Z.bs B.L.nm) B.L.pw c = d := by rw [HD.out]; exact HBN.out
            rwa [e_] at h_)
          have lw7 : w2.heap.size + 1 + 1 < w7.heap.size := (Array.getElem?_eq_some_iff.1 HA7.out).1
          by_cases d0 : d = 0
          · have HE : Hid (M = ([], 4)) := Z.hide (by rw [HMD.out]; exact Z.iso_zero HVE.out HCE.out HBR.out (by rw [← HD.out]; exact d0))
            subst d0
            go_wp2_with ((go_at_call 67; refine K.call (by with_reducible rfl) (by with_reducible rfl) (HCD.out _ K.bel) ?_; rintro e w8 ⟨rfl, hw8⟩); have X8 := Z.hide (HX7.out.trans hw8); have c8 : w8.cell? ⟨w2.heap.size + 1, 0, none⟩ = some (.slice (some ⟨g7, 0, none⟩) LB.length cr7) := hw8.cell_of (K.cell_at HB7.out rfl); have R8 := Z.hide (K.row_ext HO7.out hw8))
            rw [HE.out]
            go_ret2
            exact ⟨⟨_, rfl, K.recs_nil _ _ _⟩, X8.out⟩
          by_cases d1 : d = 1
          · have HE : Hid (M = (LB, 0)) := Z.hide (by rw [HMD.out, HLB.out]; exact Z.iso_one HVE.out HCE.out HBR.out (by rw [← HD.out]; exact d1))
            subst d1
            go_wp2_with ((go_at_call 67; refine K.call (by with_reducible rfl) (by with_reducible rfl) (HCD.out _ K.bel) ?_; rintro e w8 ⟨rfl, hw8⟩); have X8 := Z.hide (HX7.out.trans hw8); have c8 : w8.cell? ⟨w2.heap.size + 1, 0, none⟩ = some (.slice (some ⟨g7, 0, none⟩) LB.length cr7) := hw8.cell_of (K.cell_at HB7.out rfl); have R8 := Z.hide (K.row_ext HO7.out hw8))
            rw [HE.out]
            go_ret2
            exact ⟨⟨_, rfl, (K.recs_of_row R8.out (by decide)).mono (by omega) (Nat.le_refl _)⟩, X8.out⟩
          by_cases d2 : d = -1
          · have HIV : Hid (Z.IsolateName E c = if (Z.stepEq B ⟨2, 0, -1⟩).2 = 0 then (LB ++ [⟨2, 0, -1⟩], 0) else ([], 5)) := Z.hide (by rw [HLB.out]; exact Z.iso_neg HVE.out HCE.out HBR.out (by rw [← HD.out]; exact d2))
            subst d2
            obtain ⟨T, hT⟩ : ∃ T, T = Z.stepEq B ⟨2, 0, -1⟩ := ⟨_, rfl⟩
            have HC3 : Hid (∀ w' : World, K.Ext w7 w' → Calls Tryz.prog 68 #[.agg #[.int .i64 2, .int .u8 0, .int .i64 (-1)], .pointer (some ⟨w2.heap.size + 1 + 1, 0, none⟩), .pointer (some ⟨w2.heap.size + 1, 0, none⟩)] w' fun e w'' => e = .returned (.bool (T.2 == 0)) ∧ IsoSt E (.slice o1 E.L.pw.length c1) (.slice o2 E.R.pw.length c2) (w2.heap.size + 1 + 1) (w2.heap.size + 1) w2.heap.size T.1 (LB ++ [⟨2, 0, -1⟩]) w w'') := Z.hide (fun w' hx => by
              rw [hT]
              exact isoDo_st E _ _ _ _ _ B _ ⟨2, 0, -1⟩ w w' (by decide) HBE.out (HS7.out.ext hx) (by omega) (by omega) (by omega) (by omega) (by omega))
            rw [← hT] at HIV
            clear hT
            by_cases hz : T.2 = 0
            · have HE : Hid (M = (LB ++ [⟨2, 0, -1⟩], 0)) := Z.hide (by rw [HMD.out, HIV.out, if_pos hz])
              have hz' : (T.2 == 0) = true := by simp [hz]
              rw [hz'] at HC3
              clear hz hz' HIV
              go_wp2_with (first | ((go_at_call 67; refine K.call (by with_reducible rfl) (by with_reducible rfl) (HCD.out _ K.bel) ?_; rintro e w8 ⟨rfl, hw8⟩); have X8 := Z.hide (HX7.out.trans hw8); have c8 : w8.cell? ⟨w2.heap.size + 1, 0, none⟩ = some (.slice (some ⟨g7, 0, none⟩) LB.length cr7) := hw8.cell_of (K.cell_at HB7.out rfl); have R8 := Z.hide (K.row_ext HO7.out hw8); have X78 := Z.hide (show K.Ext w7 w8 from hw8)) | (refine K.call (by with_reducible rfl) (by with_reducible rfl) (HC3.out _ (by first | exact X78.out | exact K.bel)) ?_; rintro e w9 ⟨rfl, S9⟩; obtain ⟨oa9, ca9, ob9, cb9, g9, cr9, l9, r9, i9, j9, s1_, s2_, s3_, s4_, s5_, s6_, s7_, s8_, s9_⟩ := S9; have HA9 := Z.hide s1_; have HB9 := Z.hide s2_; have HO9 := Z.hide s3_; have HI9 := Z.hide s4_; have HX9 := Z.hide s8_; clear s1_ s2_ s3_ s4_ s5_ s6_ s7_ s8_ s9_; have c9 : w9.cell? ⟨w2.heap.size + 1, 0, none⟩ = some (.slice (some ⟨g9, 0, none⟩) (LB ++ [⟨2, 0, -1⟩] : List Z.St).length cr9) := K.cell_at HB9.out rfl))
              rw [HE.out]
              go_ret2
              have R9 := HO9.out
              have ln : (LB ++ [⟨2, 0, -1⟩] : List Z.St).length = LB.length + 1 := by simp
              rw [ln] at R9
              exact ⟨⟨_, rfl, (K.recs_of_row R9 (by decide)).mono (by omega) (Nat.le_refl _)⟩, HX9.out⟩
            · have HE : Hid (M = ([], 5)) := Z.hide (by rw [HMD.out, HIV.out, if_neg hz])
              have hz' : (T.2 == 0) = false := by simp [hz]
              rw [hz'] at HC3
              clear hz hz' HIV
              go_wp2_with (first | ((go_at_call 67; refine K.call (by with_reducible rfl) (by with_reducible rfl) (HCD.out _ K.bel) ?_; rintro e w8 ⟨rfl, hw8⟩); have X8 := Z.hide (HX7.out.trans hw8); have c8 : w8.cell? ⟨w2.heap.size + 1, 0, none⟩ = some (.slice (some ⟨g7, 0, none⟩) LB.length cr7) := hw8.cell_of (K.cell_at HB7.out rfl); have R8 := Z.hide (K.row_ext HO7.out hw8); have X78 := Z.hide (show K.Ext w7 w8 from hw8)) | (refine K.call (by with_reducible rfl) (by with_reducible rfl) (HC3.out _ (by first | exact X78.out | exact K.bel)) ?_; rintro e w9 ⟨rfl, S9⟩; obtain ⟨oa9, ca9, ob9, cb9, g9, cr9, l9, r9, i9, j9, s1_, s2_, s3_, s4_, s5_, s6_, s7_, s8_, s9_⟩ := S9; have HA9 := Z.hide s1_; have HB9 := Z.hide s2_; have HO9 := Z.hide s3_; have HI9 := Z.hide s4_; have HX9 := Z.hide s8_; clear s1_ s2_ s3_ s4_ s5_ s6_ s7_ s8_ s9_; have c9 : w9.cell? ⟨w2.heap.size + 1, 0, none⟩ = some (.slice (some ⟨g9, 0, none⟩) (LB ++ [⟨2, 0, -1⟩] : List Z.St).length cr9) := K.cell_at HB9.out rfl))
              rw [HE.out]
              go_ret2
              exact ⟨⟨_, rfl, K.recs_nil _ _ _⟩, HX9.out⟩
          · have HE : Hid (M = ([], 5)) := Z.hide (by rw [HMD.out]; exact Z.iso_other HVE.out HCE.out HBR.out (by rw [← HD.out]; exact d0) (by rw [← HD.out]; exact d1) (by rw [← HD.out]; exact d2))
            go_wp2_with ((go_at_call 67; refine K.call (by with_reducible rfl) (by with_reducible rfl) (HCD.out _ K.bel) ?_; rintro e w8 ⟨rfl, hw8⟩); have X8 := Z.hide (HX7.out.trans hw8); have c8 : w8.cell? ⟨w2.heap.size + 1, 0, none⟩ = some (.slice (some ⟨g7, 0, none⟩) LB.length cr7) := hw8.cell_of (K.cell_at HB7.out rfl); have R8 := Z.hide (K.row_ext HO7.out hw8))
            rw [HE.out]
            go_ret2
            exact ⟨⟨_, rfl, K.recs_nil _ _ _⟩, X8.out⟩
        · have HE : Hid (M = ([], 5)) := Z.hide (by rw [HMD.out]; exact Z.iso_fail HVE.out HCE.out (by rw [HZ1.out]; exact Z.runS_bad (by rw [← HRR.out]; exact hz)))
          have hz' : (R.2 == 0) = false := by simp [hz]
          rw [hz'] at HC2
          clear hz hz' HLS HZ1 HZ2 HRR
          go_wp2_with (first | ((go_at_call 67; refine K.call (by with_reducible rfl) (by with_reducible rfl) (HCM.out _ K.bel) ?_; rintro e w5 ⟨rfl, hw5⟩); have X5 := Z.hide (show K.Ext wr w5 from K.Ext.trans (by first | exact K.Ext.refl _ | exact K.bel) hw5)) | (refine K.call (by with_reducible rfl) (by with_reducible rfl) (HC2.out _ (by first | exact X5.out | exact K.bel)) ?_; rintro e w7 ⟨rfl, S7⟩; have HS7 := Z.hide S7))
          obtain ⟨_, _, _, _, _, _, _, _, _, _, _, _, _, _, _, _, _, X7, _⟩ := HS7.out
          rw [HE.out]
          go_ret2
          exact ⟨⟨_, rfl, K.recs_nil _ _ _⟩, X7⟩
end Go.Proofs.YtmgocfdhngeeiaaGreatDoor
end
section
namespace Go.Z
theorem IsolateName_le (E : Eqn) (c : Int) : (IsolateName E c).1.length ≤ 1048576 := by
  unfold IsolateName
  split
  · rename_i h
    split
    · simp
    · rename_i hc
      have := (isoC_parts h hc).2
      split
      · split
        · simp
        · split
          · split
            · show (isoC E c).length ≤ 1048576
              omega
            · simp
          · simp
      · simp
  · simp
end Go.Z
namespace Go.Proofs.YtmgocfdhngeeiaaGreatDoor
open Go.RowKit
end Go.Proofs.YtmgocfdhngeeiaaGreatDoor
end
section
namespace Go.Proofs.YtmgocfdhngeeiaaGreatDoor
open Go.RowKit
attribute [local go_sem ↓] Go.wp_at_zero Go.wp_at_succ
end Go.Proofs.YtmgocfdhngeeiaaGreatDoor
end
