/-
  PLAIN MATHEMATICS: sides swapped; powers split off; letters solved for.
-/
import Derived.Test.YtphlppklhpaljaaZFm2
import Derived.Test.YtphlppklhpaljaaEqn0
import Derived.Laws.StructEq
set_option linter.unusedVariables false
namespace Go.Z
def zeroFm : Fm := ⟨0, 0, ⟨#[]⟩, []⟩
def SwapSides (E : Eqn) : Eqn × Int := if isEquation E then (⟨E.R, E.L⟩, 0) else (⟨zeroFm, zeroFm⟩, 1)
theorem SwapSides_le (E : Eqn) (hm : E.L.pw.length ≤ 1048576) (hn : E.L.nm.size ≤ 1048576) (hm' : E.R.pw.length ≤ 1048576) (hn' : E.R.nm.size ≤ 1048576) : (SwapSides E).1.L.pw.length ≤ 1048576 ∧ (SwapSides E).1.R.pw.length ≤ 1048576 := by
  unfold SwapSides; split
  · exact ⟨hm', hm⟩
  · exact ⟨by simp [zeroFm], by simp [zeroFm]⟩
def fig1 (F : Fm) : Bool := F.dg == 1000 && F.tn == 0
def solved (E : Eqn) (c : Int) : Bool := fig1 E.L && ((E.L.nm.size : Int) == 1) && (expo (bs E.L.nm) E.L.pw c == 1) && (expo (bs E.R.nm) E.R.pw c == 0)
def IsSolvedFor (E : Eqn) (c : Int) : Bool × Int := if isEquation E then (solved E c, 0) else (false, 1)
theorem isEquation_len {E : Eqn} (h : isEquation E = true) : (E.L.pw.length = E.L.nm.size ∧ E.L.nm.size ≤ 6) ∧ (E.R.pw.length = E.R.nm.size ∧ E.R.nm.size ≤ 6) := by
  unfold isEquation at h
  rw [Bool.and_eq_true] at h
  exact ⟨isFormula_len h.1, isFormula_len h.2⟩
theorem toList_data (a : ByteArray) : a.toList = a.data.toList := by
  simp [ByteArray.toList_eq]
/-- one letter: the names are it, if its exponent is not 0 -/
theorem one_name (F : Fm) (c : Int) (h0 : 0 ≤ c) (h1 : c ≤ 255) (hl : F.pw.length = F.nm.size) :
    ((F.nm.toList == [UInt8.ofNat c.toNat]) && (expo (bs F.nm) F.pw c == 1)) = (((F.nm.size : Int) == 1) && (expo (bs F.nm) F.pw c == 1)) := by
  obtain ⟨dg, tn, ⟨⟨l⟩⟩, pw⟩ := F
  simp only [toList_data] at hl ⊢
  match l, hl with
  | [], hl =>
    have hp : pw = [] := List.eq_nil_of_length_eq_zero (by simpa [ByteArray.size] using hl)
    subst hp
    simp [bs, expo]
  | [b], hl =>
    have hb : (b.toNat : Int) = c ↔ b = UInt8.ofNat c.toNat := by
      constructor
      · intro h
        apply UInt8.toNat_inj.1
        simp
        omega
      · intro h
        rw [h]
        simp
        omega
    match pw, hl with
    | [p], _ =>
      by_cases hc : b = UInt8.ofNat c.toNat
      · subst hc
        simp [ByteArray.size]
      · have hn : ¬ ((b.toNat : Int) = c) := fun h => hc (hb.1 h)
        simp [bs, expo, hn]
  | b :: b' :: l, hl =>
    simp [ByteArray.size]
    omega
end Go.Z
