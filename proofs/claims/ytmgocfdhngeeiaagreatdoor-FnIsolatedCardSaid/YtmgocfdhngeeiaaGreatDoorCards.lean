/-
  DERIVED. GIVEN WITH THE SEED: THE CARDS: each row of YtmgocfdhngeeiaaGreatDoorRows.lean that lists a variable, with what it lists TIED to the program's text (the seventh form; the later family's looks); each row that meets fmt, with fmt's text TOLD by the authors' own Lean function (tested against real Go, not proved from fmt's source: count such statements apart). THE CARD IS WHAT COUNTS. Prove the row's statement (the work); the ties are given (YtmgocfdhngeeiaaGreatDoorTie.lean); close each card by the builder's one call (the guide's Derived/Test/ToyasCard.lean, 'card_holds'). Laid BY PROGRAM, IN A SANDBOX (cutbox-door.mjs). By AI agents, Wed Nov 11 2026. No macro, syntax, notation, axiom, sorry.
-/
import Derived.Test.YtmgocfdhngeeiaaGreatDoorRows
import GoSem.ClaimSeven
namespace Go.Proofs.YtmgocfdhngeeiaaGreatDoor
namespace Rows

/-- THE TIED CARD OF 'laws.FnUnitTexts'. -/
def fnUnitTextsCard : Claim7 := { stood := { row := fnUnitTextsRow, standIns := [], harness := (true, "f2299ed8b04b7a5fde3e701b9ff4bb3c4bd21a2369699a61f714b16d4cb8541d"), looks := true }, kinds := [], alts := [], laidByText := true, laidKinds := [.data, .data, .data, .data, .sentinel, .sentinel, .pinned], laidTests := true, laidLooks := .later }
def FnUnitTextsCardSaid : Prop := Claim7.holds Tryz.pinned (.plain (OpenSpec.ofChange fnUnitTextsSpec)) fnUnitTextsCard

/-- THE TIED CARD OF 'laws.FnIsolated'. -/
def fnIsolatedCard : Claim7 := { stood := { row := fnIsolatedRow, standIns := [], harness := (true, "f2299ed8b04b7a5fde3e701b9ff4bb3c4bd21a2369699a61f714b16d4cb8541d"), looks := true }, kinds := [], alts := [], laidByText := true, laidKinds := [.data, .data, .data, .data, .sentinel, .sentinel, .pinned], laidTests := true, laidLooks := .later }
def FnIsolatedCardSaid : Prop := Claim7.holds Tryz.pinned (.plain (OpenSpec.ofChange fnIsolatedSpec)) fnIsolatedCard

/-- THE SECOND FORM's CARD OF 'laws.FnUnitTexts'. -/
def fnUnitTextsUptoCard : Claim7 := { stood := { row := fnUnitTextsUptoRow, standIns := [], harness := (true, "f2299ed8b04b7a5fde3e701b9ff4bb3c4bd21a2369699a61f714b16d4cb8541d"), looks := true }, kinds := [], alts := [], laidByText := true, laidKinds := [.data, .data, .data, .data, .sentinel, .sentinel, .pinned], laidTests := true, laidLooks := .later }
def FnUnitTextsUptoCardSaid : Prop := Claim7.holds Tryz.pinned (.plain (OpenSpec.upto fnUnitTextsSpec)) fnUnitTextsUptoCard

/-- THE SECOND FORM's CARD OF 'laws.FnIsolated'. -/
def fnIsolatedUptoCard : Claim7 := { stood := { row := fnIsolatedUptoRow, standIns := [], harness := (true, "f2299ed8b04b7a5fde3e701b9ff4bb3c4bd21a2369699a61f714b16d4cb8541d"), looks := true }, kinds := [], alts := [], laidByText := true, laidKinds := [.data, .data, .data, .data, .sentinel, .sentinel, .pinned], laidTests := true, laidLooks := .later }
def FnIsolatedUptoCardSaid : Prop := Claim7.holds Tryz.pinned (.plain (OpenSpec.upto fnIsolatedSpec)) fnIsolatedUptoCard
end Rows
end Go.Proofs.YtmgocfdhngeeiaaGreatDoor
