/-
  DERIVED. GIVEN WITH THE SEED: THE CARDS: each row of YtppnecgeboonbaaGreatDoorRows.lean that lists a variable, with what it lists TIED to the program's text (the seventh form; the later family's looks); each row that meets fmt, with fmt's text TOLD by the authors' own Lean function (tested against real Go, not proved from fmt's source: count such statements apart). THE CARD IS WHAT COUNTS. Prove the row's statement (the work); the ties are given (YtppnecgeboonbaaGreatDoorTie.lean); close each card by the builder's one call (the guide's Derived/Test/ToyasCard.lean, 'card_holds'). Laid BY PROGRAM, IN A SANDBOX (cutbox-door.mjs). By AI agents, Wed Nov 11 2026. No macro, syntax, notation, axiom, sorry.
-/
import Derived.Test.YtppnecgeboonbaaGreatDoorRows
import GoSem.ClaimSeven
namespace Go.Proofs.YtppnecgeboonbaaGreatDoor
namespace Rows

/-- THE TIED CARD OF 'abugidalaw22.FlagsExamples'. -/
def flagsExamplesCard : Claim7 := { stood := { row := flagsExamplesRow, standIns := [], harness := (true, "d9dc34c75e6888d4cc05b5709567abfe39a746b7a4d0319fd5d5154c09d46d6b"), looks := true }, kinds := [], alts := [], laidByText := true, laidKinds := [.data, .data, .data, .data, .pinned], laidTests := true, laidLooks := .later }
def FlagsExamplesCardSaid : Prop := Claim7.holds Tryz.pinned (.plain (OpenSpec.ofChange flagsExamplesSpec)) flagsExamplesCard

/-- THE TIED CARD OF 'abugidalaw22.FlagsNames'. -/
def flagsNamesCard : Claim7 := { stood := { row := flagsNamesRow, standIns := [], harness := (true, "d9dc34c75e6888d4cc05b5709567abfe39a746b7a4d0319fd5d5154c09d46d6b"), looks := true }, kinds := [], alts := [], laidByText := true, laidKinds := [.data, .data, .data, .data, .pinned], laidTests := true, laidLooks := .later }
def FlagsNamesCardSaid : Prop := Claim7.holds Tryz.pinned (.plain (OpenSpec.ofChange flagsNamesSpec)) flagsNamesCard

/-- THE TIED CARD OF 'abugidalaw22.FlagsLegal'. -/
def flagsLegalCard : Claim7 := { stood := { row := flagsLegalRow, standIns := [], harness := (true, "d9dc34c75e6888d4cc05b5709567abfe39a746b7a4d0319fd5d5154c09d46d6b"), looks := true }, kinds := [], alts := [], laidByText := true, laidKinds := [.data, .data, .data, .data, .pinned], laidTests := true, laidLooks := .later }
def FlagsLegalCardSaid : Prop := Claim7.holds Tryz.pinned (.plain (OpenSpec.ofChange flagsLegalSpec)) flagsLegalCard

/-- THE TIED CARD OF 'abugidalaw22.FlagsClear'. -/
def flagsClearCard : Claim7 := { stood := { row := flagsClearRow, standIns := [], harness := (true, "d9dc34c75e6888d4cc05b5709567abfe39a746b7a4d0319fd5d5154c09d46d6b"), looks := true }, kinds := [], alts := [], laidByText := true, laidKinds := [.data, .data, .data, .data, .pinned], laidTests := true, laidLooks := .later }
def FlagsClearCardSaid : Prop := Claim7.holds Tryz.pinned (.plain (OpenSpec.ofChange flagsClearSpec)) flagsClearCard

/-- THE TIED CARD OF 'abugidalaw22.FlagsStrip'. -/
def flagsStripCard : Claim7 := { stood := { row := flagsStripRow, standIns := [], harness := (true, "d9dc34c75e6888d4cc05b5709567abfe39a746b7a4d0319fd5d5154c09d46d6b"), looks := true }, kinds := [], alts := [], laidByText := true, laidKinds := [.data, .data, .data, .data, .pinned], laidTests := true, laidLooks := .later }
def FlagsStripCardSaid : Prop := Claim7.holds Tryz.pinned (.plain (OpenSpec.ofChange flagsStripSpec)) flagsStripCard

/-- THE TIED CARD OF 'abugidalaw22.FlagsEliminate'. -/
def flagsEliminateCard : Claim7 := { stood := { row := flagsEliminateRow, standIns := [], harness := (true, "d9dc34c75e6888d4cc05b5709567abfe39a746b7a4d0319fd5d5154c09d46d6b"), looks := true }, kinds := [], alts := [], laidByText := true, laidKinds := [.data, .data, .data, .data, .pinned], laidTests := true, laidLooks := .later }
def FlagsEliminateCardSaid : Prop := Claim7.holds Tryz.pinned (.plain (OpenSpec.ofChange flagsEliminateSpec)) flagsEliminateCard

/-- THE TIED CARD OF 'abugidalaw22.FlagsWords'. -/
def flagsWordsCard : Claim7 := { stood := { row := flagsWordsRow, standIns := [], harness := (true, "d9dc34c75e6888d4cc05b5709567abfe39a746b7a4d0319fd5d5154c09d46d6b"), looks := true }, kinds := [], alts := [], laidByText := true, laidKinds := [.data, .data, .data, .data, .pinned], laidTests := true, laidLooks := .later }
def FlagsWordsCardSaid : Prop := Claim7.holds Tryz.pinned (.plain (OpenSpec.ofChange flagsWordsSpec)) flagsWordsCard

/-- THE TIED CARD OF 'abugidalaw22.FlagsAgain'. -/
def flagsAgainCard : Claim7 := { stood := { row := flagsAgainRow, standIns := [], harness := (true, "d9dc34c75e6888d4cc05b5709567abfe39a746b7a4d0319fd5d5154c09d46d6b"), looks := true }, kinds := [], alts := [], laidByText := true, laidKinds := [.data, .data, .data, .data, .pinned], laidTests := true, laidLooks := .later }
def FlagsAgainCardSaid : Prop := Claim7.holds Tryz.pinned (.plain (OpenSpec.ofChange flagsAgainSpec)) flagsAgainCard

/-- THE SECOND FORM's CARD OF 'abugidalaw22.FlagsExamples'. -/
def flagsExamplesUptoCard : Claim7 := { stood := { row := flagsExamplesUptoRow, standIns := [], harness := (true, "d9dc34c75e6888d4cc05b5709567abfe39a746b7a4d0319fd5d5154c09d46d6b"), looks := true }, kinds := [], alts := [], laidByText := true, laidKinds := [.data, .data, .data, .data, .pinned], laidTests := true, laidLooks := .later }
def FlagsExamplesUptoCardSaid : Prop := Claim7.holds Tryz.pinned (.plain (OpenSpec.upto flagsExamplesSpec)) flagsExamplesUptoCard

/-- THE SECOND FORM's CARD OF 'abugidalaw22.FlagsNames'. -/
def flagsNamesUptoCard : Claim7 := { stood := { row := flagsNamesUptoRow, standIns := [], harness := (true, "d9dc34c75e6888d4cc05b5709567abfe39a746b7a4d0319fd5d5154c09d46d6b"), looks := true }, kinds := [], alts := [], laidByText := true, laidKinds := [.data, .data, .data, .data, .pinned], laidTests := true, laidLooks := .later }
def FlagsNamesUptoCardSaid : Prop := Claim7.holds Tryz.pinned (.plain (OpenSpec.upto flagsNamesSpec)) flagsNamesUptoCard

/-- THE SECOND FORM's CARD OF 'abugidalaw22.FlagsLegal'. -/
def flagsLegalUptoCard : Claim7 := { stood := { row := flagsLegalUptoRow, standIns := [], harness := (true, "d9dc34c75e6888d4cc05b5709567abfe39a746b7a4d0319fd5d5154c09d46d6b"), looks := true }, kinds := [], alts := [], laidByText := true, laidKinds := [.data, .data, .data, .data, .pinned], laidTests := true, laidLooks := .later }
def FlagsLegalUptoCardSaid : Prop := Claim7.holds Tryz.pinned (.plain (OpenSpec.upto flagsLegalSpec)) flagsLegalUptoCard

/-- THE SECOND FORM's CARD OF 'abugidalaw22.FlagsClear'. -/
def flagsClearUptoCard : Claim7 := { stood := { row := flagsClearUptoRow, standIns := [], harness := (true, "d9dc34c75e6888d4cc05b5709567abfe39a746b7a4d0319fd5d5154c09d46d6b"), looks := true }, kinds := [], alts := [], laidByText := true, laidKinds := [.data, .data, .data, .data, .pinned], laidTests := true, laidLooks := .later }
def FlagsClearUptoCardSaid : Prop := Claim7.holds Tryz.pinned (.plain (OpenSpec.upto flagsClearSpec)) flagsClearUptoCard

/-- THE SECOND FORM's CARD OF 'abugidalaw22.FlagsStrip'. -/
def flagsStripUptoCard : Claim7 := { stood := { row := flagsStripUptoRow, standIns := [], harness := (true, "d9dc34c75e6888d4cc05b5709567abfe39a746b7a4d0319fd5d5154c09d46d6b"), looks := true }, kinds := [], alts := [], laidByText := true, laidKinds := [.data, .data, .data, .data, .pinned], laidTests := true, laidLooks := .later }
def FlagsStripUptoCardSaid : Prop := Claim7.holds Tryz.pinned (.plain (OpenSpec.upto flagsStripSpec)) flagsStripUptoCard

/-- THE SECOND FORM's CARD OF 'abugidalaw22.FlagsEliminate'. -/
def flagsEliminateUptoCard : Claim7 := { stood := { row := flagsEliminateUptoRow, standIns := [], harness := (true, "d9dc34c75e6888d4cc05b5709567abfe39a746b7a4d0319fd5d5154c09d46d6b"), looks := true }, kinds := [], alts := [], laidByText := true, laidKinds := [.data, .data, .data, .data, .pinned], laidTests := true, laidLooks := .later }
def FlagsEliminateUptoCardSaid : Prop := Claim7.holds Tryz.pinned (.plain (OpenSpec.upto flagsEliminateSpec)) flagsEliminateUptoCard

/-- THE SECOND FORM's CARD OF 'abugidalaw22.FlagsWords'. -/
def flagsWordsUptoCard : Claim7 := { stood := { row := flagsWordsUptoRow, standIns := [], harness := (true, "d9dc34c75e6888d4cc05b5709567abfe39a746b7a4d0319fd5d5154c09d46d6b"), looks := true }, kinds := [], alts := [], laidByText := true, laidKinds := [.data, .data, .data, .data, .pinned], laidTests := true, laidLooks := .later }
def FlagsWordsUptoCardSaid : Prop := Claim7.holds Tryz.pinned (.plain (OpenSpec.upto flagsWordsSpec)) flagsWordsUptoCard

/-- THE SECOND FORM's CARD OF 'abugidalaw22.FlagsAgain'. -/
def flagsAgainUptoCard : Claim7 := { stood := { row := flagsAgainUptoRow, standIns := [], harness := (true, "d9dc34c75e6888d4cc05b5709567abfe39a746b7a4d0319fd5d5154c09d46d6b"), looks := true }, kinds := [], alts := [], laidByText := true, laidKinds := [.data, .data, .data, .data, .pinned], laidTests := true, laidLooks := .later }
def FlagsAgainUptoCardSaid : Prop := Claim7.holds Tryz.pinned (.plain (OpenSpec.upto flagsAgainSpec)) flagsAgainUptoCard
end Rows
end Go.Proofs.YtppnecgeboonbaaGreatDoor
