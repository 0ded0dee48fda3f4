/-
  PLAIN MATHEMATICS: figures, formulas.
-/
import Derived.Test.YtphlppklhpaljaaZUnits
import Derived.Lib.Bytealg
set_option linter.unusedVariables false
namespace Go.Z
structure Fm where
  dg : Int
  tn : Int
  nm : ByteArray
  pw : List Int
def isFig (d t : Int) : Bool := (decide (1000 ≤ d) && decide (d ≤ 9999)) && (decide (-30 ≤ t) && decide (t ≤ 30))
/-- a string's bytes, as numbers -/
def bs (s : ByteArray) : List Int := s.data.toList.map (fun b => (b.toNat : Int))
theorem bs_length (s : ByteArray) : (bs s).length = s.size := by unfold bs; rw [List.length_map, Array.length_toList]; rfl
theorem bs_get (s : ByteArray) (k : Nat) (h : k < s.size) : ((s[k]'h).toNat : Int) = (bs s).getD k 0 := by
  have h' : k < s.data.size := h
  unfold bs
  rw [List.getD_eq_getElem?_getD, List.getElem?_map, Array.getElem?_toList, Array.getElem?_eq_getElem h']
  rfl
theorem bs_lo (s : ByteArray) (k : Nat) : 0 ≤ (bs s).getD k 0 ∧ (bs s).getD k 0 ≤ 255 := by
  simp only [bs, List.getD_eq_getElem?_getD, List.getElem?_map]
  cases s.data.toList[k]? with
  | none => simp
  | some b => simp; have := b.toNat_lt; omega
/-- the exponent of a letter -/
def expo : List Int → List Int → Int → Int
  | n :: ns, p :: ps, c => if n = c then p else expo ns ps c
  | _, _, _ => 0
theorem expo_drop (ns ps : List Int) (c : Int) (k : Nat) (h : k < ns.length) (h' : k < ps.length) :
    expo (ns.drop k) (ps.drop k) c = if ns.getD k 0 = c then ps.getD k 0 else expo (ns.drop (k + 1)) (ps.drop (k + 1)) c := by
  rw [List.drop_eq_getElem_cons h, List.drop_eq_getElem_cons h']
  simp [expo, List.getD_eq_getElem?_getD, h, h']
theorem expo_end (ns ps : List Int) (c : Int) (k : Nat) (h : ns.length ≤ k) : expo (ns.drop k) (ps.drop k) c = 0 := by
  rw [List.drop_eq_nil_of_le h]; rfl
theorem expo_index (l : List UInt8) (ps : List Int) (c : UInt8) (hl : l.length = ps.length) :
    (Lib.indexByte l c = -1 ∧ expo (l.map (fun b => (b.toNat : Int))) ps c.toNat = 0) ∨
    ∃ k : Nat, k < l.length ∧ Lib.indexByte l c = k ∧ expo (l.map (fun b => (b.toNat : Int))) ps c.toNat = ps.getD k 0 := by
  induction l generalizing ps with
  | nil => exact .inl ⟨rfl, rfl⟩
  | cons b l ih =>
    match ps, hl with
    | p :: ps, hl =>
      have hl' : l.length = ps.length := by simpa using hl
      by_cases hb : b = c
      · right; subst hb; exact ⟨0, by simp, by simp [Lib.indexByte], by simp [expo]⟩
      · have hn : ¬ ((b.toNat : Int) = c.toNat) := fun h => hb (UInt8.toNat_inj.1 (by omega))
        rcases ih ps hl' with ⟨h1, h2⟩ | ⟨k, hk, h1, h2⟩
        · left; refine ⟨by simp [Lib.indexByte, hb, h1], ?_⟩
          simp only [List.map_cons, expo, if_neg hn, h2]
        · right; refine ⟨k + 1, by simpa using hk, ?_, ?_⟩
          · have : ¬ ((k : Int) = -1) := by omega
            simp [Lib.indexByte, hb, h1, this]
          · simp only [List.map_cons, expo, if_neg hn, h2]; rfl
/-- what a valid formula asks of one letter and its exponent -/
def okAt (ns ps : List Int) (i : Nat) : Bool :=
  !decide (ns.getD i 0 < 97) && !decide (122 < ns.getD i 0) && !(decide (0 < i) && decide (ns.getD i 0 ≤ ns.getD (i - 1) 0)) && !(ps.getD i 0 == 0) && (decide (-6 ≤ ps.getD i 0) && decide (ps.getD i 0 ≤ 6))
def isFormula (F : Fm) : Bool :=
  isFig F.dg F.tn && decide (F.nm.size ≤ 6) && (F.pw.length == F.nm.size) && (List.range F.nm.size).all (okAt (bs F.nm) F.pw)
theorem range_all_succ (f : Nat → Bool) (k : Nat) : (List.range (k + 1)).all f = ((List.range k).all f && f k) := by
  rw [List.range_succ, List.all_append]; simp
theorem range_all_bad (f : Nat → Bool) (n k : Nat) (h : k < n) (hb : f k = false) : (List.range n).all f = false := by
  rw [List.all_eq_false]; exact ⟨k, List.mem_range.2 h, by simp [hb]⟩
theorem okAt_of {ns ps : List Int} {k : Nat} {n m x : Int} (hn : n = ns.getD k 0) (hm : 0 < k → m = ns.getD (k - 1) 0) (hx : ps.getD k 0 = x) :
    okAt ns ps k = (!decide (n < 97) && !decide (122 < n) && !(decide (0 < k) && decide (n ≤ m)) && !(x == 0) && (decide (-6 ≤ x) && decide (x ≤ 6))) := by
  subst hn; subst hx
  unfold okAt
  by_cases h : 0 < k
  · rw [← hm h]
  · rw [decide_eq_false h]; simp
end Go.Z
