/-
  DERIVED. GIVEN WITH THE SEED: THE CARDS: each row of YtbloldnmlhhbhaaDoorRows.lean that lists a variable, with what it lists TIED to the program's text (the seventh form; the later family's looks); each row that meets fmt, with fmt's text TOLD by the authors' own Lean function (tested against real Go, not proved from fmt's source: count such statements apart). THE CARD IS WHAT COUNTS. Prove the row's statement (the work); the ties are given (YtbloldnmlhhbhaaDoorTie.lean); close each card by the builder's one call (the guide's Derived/Test/ToyasCard.lean, 'card_holds'). Laid BY PROGRAM, IN A SANDBOX (cutbox-door.mjs). By AI agents, Wed Nov 11 2026. No macro, syntax, notation, axiom, sorry.
-/
import Derived.Test.YtbloldnmlhhbhaaDoorRows
import GoSem.ClaimSeven
namespace Go.Proofs.YtbloldnmlhhbhaaDoor
namespace Rows

/-- THE TIED CARD OF 'laws.FnFormulaTexts'. -/
def fnFormulaTextsCard : Claim7 := { stood := { row := fnFormulaTextsRow, standIns := [], harness := (true, "5994d1e7bd599455b96896a94f943db1722d97f54e231277e27704cd6001907e"), looks := true }, kinds := [], alts := [], laidByText := true, laidKinds := [.data, .data, .data, .data, .sentinel, .sentinel, .pinned], laidTests := true, laidLooks := .later }
def FnFormulaTextsCardSaid : Prop := Claim7.holds Tryd.pinned (.plain (OpenSpec.ofChange fnFormulaTextsSpec)) fnFormulaTextsCard

/-- THE TIED CARD OF 'laws.FnExactFormulaText'. -/
def fnExactFormulaTextCard : Claim7 := { stood := { row := fnExactFormulaTextRow, standIns := [], harness := (true, "5994d1e7bd599455b96896a94f943db1722d97f54e231277e27704cd6001907e"), looks := true }, kinds := [], alts := [], laidByText := true, laidKinds := [.data, .data, .data], laidTests := true, laidLooks := .later }
def FnExactFormulaTextCardSaid : Prop := Claim7.holds Tryd.pinned (.plain (OpenSpec.ofChange fnExactFormulaTextSpec)) fnExactFormulaTextCard

/-- THE TIED CARD OF 'laws.FnExactUnitText'. -/
def fnExactUnitTextCard : Claim7 := { stood := { row := fnExactUnitTextRow, standIns := [], harness := (true, "5994d1e7bd599455b96896a94f943db1722d97f54e231277e27704cd6001907e"), looks := true }, kinds := [], alts := [], laidByText := true, laidKinds := [.data, .data, .data], laidTests := true, laidLooks := .later }
def FnExactUnitTextCardSaid : Prop := Claim7.holds Tryd.pinned (.plain (OpenSpec.ofChange fnExactUnitTextSpec)) fnExactUnitTextCard

/-- THE TIED CARD OF 'laws.FnExactStepsText'. -/
def fnExactStepsTextCard : Claim7 := { stood := { row := fnExactStepsTextRow, standIns := [], harness := (true, "5994d1e7bd599455b96896a94f943db1722d97f54e231277e27704cd6001907e"), looks := true }, kinds := [], alts := [], laidByText := true, laidKinds := [.data, .data, .data], laidTests := true, laidLooks := .later }
def FnExactStepsTextCardSaid : Prop := Claim7.holds Tryd.pinned (.plain (OpenSpec.ofChange fnExactStepsTextSpec)) fnExactStepsTextCard

/-- THE TIED CARD OF 'laws.FnExactReadSteps'. -/
def fnExactReadStepsCard : Claim7 := { stood := { row := fnExactReadStepsRow, standIns := [], harness := (true, "5994d1e7bd599455b96896a94f943db1722d97f54e231277e27704cd6001907e"), looks := true }, kinds := [], alts := [], laidByText := true, laidKinds := [.data, .data, .data, .data, .sentinel, .sentinel, .pinned], laidTests := true, laidLooks := .later }
def FnExactReadStepsCardSaid : Prop := Claim7.holds Tryd.pinned (.plain (OpenSpec.ofChange fnExactReadStepsSpec)) fnExactReadStepsCard

/-- THE TIED CARD OF 'laws.FnExactReadUnit'. -/
def fnExactReadUnitCard : Claim7 := { stood := { row := fnExactReadUnitRow, standIns := [], harness := (true, "5994d1e7bd599455b96896a94f943db1722d97f54e231277e27704cd6001907e"), looks := true }, kinds := [], alts := [], laidByText := true, laidKinds := [.data, .data, .data, .data, .sentinel, .sentinel, .pinned], laidTests := true, laidLooks := .later }
def FnExactReadUnitCardSaid : Prop := Claim7.holds Tryd.pinned (.plain (OpenSpec.ofChange fnExactReadUnitSpec)) fnExactReadUnitCard

/-- THE TIED CARD OF 'laws.FnExactReadFormula'. -/
def fnExactReadFormulaCard : Claim7 := { stood := { row := fnExactReadFormulaRow, standIns := [], harness := (true, "5994d1e7bd599455b96896a94f943db1722d97f54e231277e27704cd6001907e"), looks := true }, kinds := [], alts := [], laidByText := true, laidKinds := [.data, .data, .data, .data, .sentinel, .sentinel, .pinned], laidTests := true, laidLooks := .later }
def FnExactReadFormulaCardSaid : Prop := Claim7.holds Tryd.pinned (.plain (OpenSpec.ofChange fnExactReadFormulaSpec)) fnExactReadFormulaCard

/-- THE SECOND FORM's CARD OF 'laws.FnFormulaTexts'. -/
def fnFormulaTextsUptoCard : Claim7 := { stood := { row := fnFormulaTextsUptoRow, standIns := [], harness := (true, "5994d1e7bd599455b96896a94f943db1722d97f54e231277e27704cd6001907e"), looks := true }, kinds := [], alts := [], laidByText := true, laidKinds := [.data, .data, .data, .data, .sentinel, .sentinel, .pinned], laidTests := true, laidLooks := .later }
def FnFormulaTextsUptoCardSaid : Prop := Claim7.holds Tryd.pinned (.plain (OpenSpec.upto fnFormulaTextsSpec)) fnFormulaTextsUptoCard

/-- THE SECOND FORM's CARD OF 'laws.FnExactFormulaText'. -/
def fnExactFormulaTextUptoCard : Claim7 := { stood := { row := fnExactFormulaTextUptoRow, standIns := [], harness := (true, "5994d1e7bd599455b96896a94f943db1722d97f54e231277e27704cd6001907e"), looks := true }, kinds := [], alts := [], laidByText := true, laidKinds := [.data, .data, .data], laidTests := true, laidLooks := .later }
def FnExactFormulaTextUptoCardSaid : Prop := Claim7.holds Tryd.pinned (.plain (OpenSpec.upto fnExactFormulaTextSpec)) fnExactFormulaTextUptoCard

/-- THE SECOND FORM's CARD OF 'laws.FnExactUnitText'. -/
def fnExactUnitTextUptoCard : Claim7 := { stood := { row := fnExactUnitTextUptoRow, standIns := [], harness := (true, "5994d1e7bd599455b96896a94f943db1722d97f54e231277e27704cd6001907e"), looks := true }, kinds := [], alts := [], laidByText := true, laidKinds := [.data, .data, .data], laidTests := true, laidLooks := .later }
def FnExactUnitTextUptoCardSaid : Prop := Claim7.holds Tryd.pinned (.plain (OpenSpec.upto fnExactUnitTextSpec)) fnExactUnitTextUptoCard

/-- THE SECOND FORM's CARD OF 'laws.FnExactStepsText'. -/
def fnExactStepsTextUptoCard : Claim7 := { stood := { row := fnExactStepsTextUptoRow, standIns := [], harness := (true, "5994d1e7bd599455b96896a94f943db1722d97f54e231277e27704cd6001907e"), looks := true }, kinds := [], alts := [], laidByText := true, laidKinds := [.data, .data, .data], laidTests := true, laidLooks := .later }
def FnExactStepsTextUptoCardSaid : Prop := Claim7.holds Tryd.pinned (.plain (OpenSpec.upto fnExactStepsTextSpec)) fnExactStepsTextUptoCard

/-- THE SECOND FORM's CARD OF 'laws.FnExactReadSteps'. -/
def fnExactReadStepsUptoCard : Claim7 := { stood := { row := fnExactReadStepsUptoRow, standIns := [], harness := (true, "5994d1e7bd599455b96896a94f943db1722d97f54e231277e27704cd6001907e"), looks := true }, kinds := [], alts := [], laidByText := true, laidKinds := [.data, .data, .data, .data, .sentinel, .sentinel, .pinned], laidTests := true, laidLooks := .later }
def FnExactReadStepsUptoCardSaid : Prop := Claim7.holds Tryd.pinned (.plain (OpenSpec.upto fnExactReadStepsSpec)) fnExactReadStepsUptoCard

/-- THE SECOND FORM's CARD OF 'laws.FnExactReadUnit'. -/
def fnExactReadUnitUptoCard : Claim7 := { stood := { row := fnExactReadUnitUptoRow, standIns := [], harness := (true, "5994d1e7bd599455b96896a94f943db1722d97f54e231277e27704cd6001907e"), looks := true }, kinds := [], alts := [], laidByText := true, laidKinds := [.data, .data, .data, .data, .sentinel, .sentinel, .pinned], laidTests := true, laidLooks := .later }
def FnExactReadUnitUptoCardSaid : Prop := Claim7.holds Tryd.pinned (.plain (OpenSpec.upto fnExactReadUnitSpec)) fnExactReadUnitUptoCard

/-- THE SECOND FORM's CARD OF 'laws.FnExactReadFormula'. -/
def fnExactReadFormulaUptoCard : Claim7 := { stood := { row := fnExactReadFormulaUptoRow, standIns := [], harness := (true, "5994d1e7bd599455b96896a94f943db1722d97f54e231277e27704cd6001907e"), looks := true }, kinds := [], alts := [], laidByText := true, laidKinds := [.data, .data, .data, .data, .sentinel, .sentinel, .pinned], laidTests := true, laidLooks := .later }
def FnExactReadFormulaUptoCardSaid : Prop := Claim7.holds Tryd.pinned (.plain (OpenSpec.upto fnExactReadFormulaSpec)) fnExactReadFormulaUptoCard
end Rows
end Go.Proofs.YtbloldnmlhhbhaaDoor
