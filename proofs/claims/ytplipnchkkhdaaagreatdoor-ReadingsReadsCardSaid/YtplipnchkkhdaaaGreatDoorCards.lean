/-
  DERIVED. GIVEN WITH THE SEED: THE CARDS: each row of YtplipnchkkhdaaaGreatDoorRows.lean that lists a variable, with what it lists TIED to the program's text (the seventh form; the later family's looks); each row that meets fmt, with fmt's text TOLD by the authors' own Lean function (tested against real Go, not proved from fmt's source: count such statements apart). THE CARD IS WHAT COUNTS. Prove the row's statement (the work); the ties are given (YtplipnchkkhdaaaGreatDoorTie.lean); close each card by the builder's one call (the guide's Derived/Test/ToyasCard.lean, 'card_holds'). Laid BY PROGRAM, IN A SANDBOX (cutbox-door.mjs). By AI agents, Wed Nov 11 2026. No macro, syntax, notation, axiom, sorry.
-/
import Derived.Test.YtplipnchkkhdaaaGreatDoorRows
import GoSem.ClaimSeven
namespace Go.Proofs.YtplipnchkkhdaaaGreatDoor
namespace Rows

/-- THE TIED CARD OF 'abugidalaw33.ReadingsExamples'. -/
def readingsExamplesCard : Claim7 := { stood := { row := readingsExamplesRow, standIns := [], harness := (true, "e79026cdffbb08e34171b055e2a4bbb4b40a4332183a49d8a6aee1dd8080438f"), looks := true }, kinds := [], alts := [], laidByText := true, laidKinds := [.data, .data, .data, .data, .sentinel, .sentinel, .data, .pinned], laidTests := true, laidLooks := .later }
def ReadingsExamplesCardSaid : Prop := Claim7.holds Tryz.pinned (.plain (OpenSpec.ofChange readingsExamplesSpec)) readingsExamplesCard

/-- THE TIED CARD OF 'abugidalaw33.ReadingsTexts'. -/
def readingsTextsCard : Claim7 := { stood := { row := readingsTextsRow, standIns := [], harness := (true, "e79026cdffbb08e34171b055e2a4bbb4b40a4332183a49d8a6aee1dd8080438f"), looks := true }, kinds := [], alts := [], laidByText := true, laidKinds := [.data, .data, .data, .data, .sentinel, .sentinel, .data, .pinned], laidTests := true, laidLooks := .later }
def ReadingsTextsCardSaid : Prop := Claim7.holds Tryz.pinned (.plain (OpenSpec.ofChange readingsTextsSpec)) readingsTextsCard

/-- THE TIED CARD OF 'abugidalaw33.ReadingsRules'. -/
def readingsRulesCard : Claim7 := { stood := { row := readingsRulesRow, standIns := [], harness := (true, "e79026cdffbb08e34171b055e2a4bbb4b40a4332183a49d8a6aee1dd8080438f"), looks := true }, kinds := [], alts := [], laidByText := true, laidKinds := [.data, .data, .data, .data, .sentinel, .sentinel, .data, .pinned], laidTests := true, laidLooks := .later }
def ReadingsRulesCardSaid : Prop := Claim7.holds Tryz.pinned (.plain (OpenSpec.ofChange readingsRulesSpec)) readingsRulesCard

/-- THE TIED CARD OF 'abugidalaw33.ReadingsParse'. -/
def readingsParseCard : Claim7 := { stood := { row := readingsParseRow, standIns := [], harness := (true, "e79026cdffbb08e34171b055e2a4bbb4b40a4332183a49d8a6aee1dd8080438f"), looks := true }, kinds := [], alts := [], laidByText := true, laidKinds := [.data, .data, .data, .data, .sentinel, .sentinel, .data, .pinned], laidTests := true, laidLooks := .later }
def ReadingsParseCardSaid : Prop := Claim7.holds Tryz.pinned (.plain (OpenSpec.ofChange readingsParseSpec)) readingsParseCard

/-- THE TIED CARD OF 'abugidalaw33.ReadingsReads'. -/
def readingsReadsCard : Claim7 := { stood := { row := readingsReadsRow, standIns := [], harness := (true, "e79026cdffbb08e34171b055e2a4bbb4b40a4332183a49d8a6aee1dd8080438f"), looks := true }, kinds := [], alts := [], laidByText := true, laidKinds := [.data, .data, .data, .data, .sentinel, .sentinel, .data, .pinned], laidTests := true, laidLooks := .later }
def ReadingsReadsCardSaid : Prop := Claim7.holds Tryz.pinned (.plain (OpenSpec.ofChange readingsReadsSpec)) readingsReadsCard

/-- THE TIED CARD OF 'abugidalaw33.ReadingsBack'. -/
def readingsBackCard : Claim7 := { stood := { row := readingsBackRow, standIns := [], harness := (true, "e79026cdffbb08e34171b055e2a4bbb4b40a4332183a49d8a6aee1dd8080438f"), looks := true }, kinds := [], alts := [], laidByText := true, laidKinds := [.data, .data, .data, .data, .sentinel, .sentinel, .data, .pinned], laidTests := true, laidLooks := .later }
def ReadingsBackCardSaid : Prop := Claim7.holds Tryz.pinned (.plain (OpenSpec.ofChange readingsBackSpec)) readingsBackCard

/-- THE TIED CARD OF 'abugidalaw33.ReadingsLimits'. -/
def readingsLimitsCard : Claim7 := { stood := { row := readingsLimitsRow, standIns := [], harness := (true, "e79026cdffbb08e34171b055e2a4bbb4b40a4332183a49d8a6aee1dd8080438f"), looks := true }, kinds := [], alts := [], laidByText := true, laidKinds := [.data, .data, .data, .data, .sentinel, .sentinel, .data, .pinned], laidTests := true, laidLooks := .later }
def ReadingsLimitsCardSaid : Prop := Claim7.holds Tryz.pinned (.plain (OpenSpec.ofChange readingsLimitsSpec)) readingsLimitsCard

/-- THE SECOND FORM's CARD OF 'abugidalaw33.ReadingsExamples'. -/
def readingsExamplesUptoCard : Claim7 := { stood := { row := readingsExamplesUptoRow, standIns := [], harness := (true, "e79026cdffbb08e34171b055e2a4bbb4b40a4332183a49d8a6aee1dd8080438f"), looks := true }, kinds := [], alts := [], laidByText := true, laidKinds := [.data, .data, .data, .data, .sentinel, .sentinel, .data, .pinned], laidTests := true, laidLooks := .later }
def ReadingsExamplesUptoCardSaid : Prop := Claim7.holds Tryz.pinned (.plain (OpenSpec.upto readingsExamplesSpec)) readingsExamplesUptoCard

/-- THE SECOND FORM's CARD OF 'abugidalaw33.ReadingsTexts'. -/
def readingsTextsUptoCard : Claim7 := { stood := { row := readingsTextsUptoRow, standIns := [], harness := (true, "e79026cdffbb08e34171b055e2a4bbb4b40a4332183a49d8a6aee1dd8080438f"), looks := true }, kinds := [], alts := [], laidByText := true, laidKinds := [.data, .data, .data, .data, .sentinel, .sentinel, .data, .pinned], laidTests := true, laidLooks := .later }
def ReadingsTextsUptoCardSaid : Prop := Claim7.holds Tryz.pinned (.plain (OpenSpec.upto readingsTextsSpec)) readingsTextsUptoCard

/-- THE SECOND FORM's CARD OF 'abugidalaw33.ReadingsRules'. -/
def readingsRulesUptoCard : Claim7 := { stood := { row := readingsRulesUptoRow, standIns := [], harness := (true, "e79026cdffbb08e34171b055e2a4bbb4b40a4332183a49d8a6aee1dd8080438f"), looks := true }, kinds := [], alts := [], laidByText := true, laidKinds := [.data, .data, .data, .data, .sentinel, .sentinel, .data, .pinned], laidTests := true, laidLooks := .later }
def ReadingsRulesUptoCardSaid : Prop := Claim7.holds Tryz.pinned (.plain (OpenSpec.upto readingsRulesSpec)) readingsRulesUptoCard

/-- THE SECOND FORM's CARD OF 'abugidalaw33.ReadingsParse'. -/
def readingsParseUptoCard : Claim7 := { stood := { row := readingsParseUptoRow, standIns := [], harness := (true, "e79026cdffbb08e34171b055e2a4bbb4b40a4332183a49d8a6aee1dd8080438f"), looks := true }, kinds := [], alts := [], laidByText := true, laidKinds := [.data, .data, .data, .data, .sentinel, .sentinel, .data, .pinned], laidTests := true, laidLooks := .later }
def ReadingsParseUptoCardSaid : Prop := Claim7.holds Tryz.pinned (.plain (OpenSpec.upto readingsParseSpec)) readingsParseUptoCard

/-- THE SECOND FORM's CARD OF 'abugidalaw33.ReadingsReads'. -/
def readingsReadsUptoCard : Claim7 := { stood := { row := readingsReadsUptoRow, standIns := [], harness := (true, "e79026cdffbb08e34171b055e2a4bbb4b40a4332183a49d8a6aee1dd8080438f"), looks := true }, kinds := [], alts := [], laidByText := true, laidKinds := [.data, .data, .data, .data, .sentinel, .sentinel, .data, .pinned], laidTests := true, laidLooks := .later }
def ReadingsReadsUptoCardSaid : Prop := Claim7.holds Tryz.pinned (.plain (OpenSpec.upto readingsReadsSpec)) readingsReadsUptoCard

/-- THE SECOND FORM's CARD OF 'abugidalaw33.ReadingsBack'. -/
def readingsBackUptoCard : Claim7 := { stood := { row := readingsBackUptoRow, standIns := [], harness := (true, "e79026cdffbb08e34171b055e2a4bbb4b40a4332183a49d8a6aee1dd8080438f"), looks := true }, kinds := [], alts := [], laidByText := true, laidKinds := [.data, .data, .data, .data, .sentinel, .sentinel, .data, .pinned], laidTests := true, laidLooks := .later }
def ReadingsBackUptoCardSaid : Prop := Claim7.holds Tryz.pinned (.plain (OpenSpec.upto readingsBackSpec)) readingsBackUptoCard

/-- THE SECOND FORM's CARD OF 'abugidalaw33.ReadingsLimits'. -/
def readingsLimitsUptoCard : Claim7 := { stood := { row := readingsLimitsUptoRow, standIns := [], harness := (true, "e79026cdffbb08e34171b055e2a4bbb4b40a4332183a49d8a6aee1dd8080438f"), looks := true }, kinds := [], alts := [], laidByText := true, laidKinds := [.data, .data, .data, .data, .sentinel, .sentinel, .data, .pinned], laidTests := true, laidLooks := .later }
def ReadingsLimitsUptoCardSaid : Prop := Claim7.holds Tryz.pinned (.plain (OpenSpec.upto readingsLimitsSpec)) readingsLimitsUptoCard
end Rows
end Go.Proofs.YtplipnchkkhdaaaGreatDoor
