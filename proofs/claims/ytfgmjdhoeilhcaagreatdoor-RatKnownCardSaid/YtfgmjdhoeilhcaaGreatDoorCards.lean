/-
  DERIVED. GIVEN WITH THE SEED: THE CARDS: each row of YtfgmjdhoeilhcaaGreatDoorRows.lean that lists a variable, with what it lists TIED to the program's text (the seventh form; the later family's looks); each row that meets fmt, with fmt's text TOLD by the authors' own Lean function (tested against real Go, not proved from fmt's source: count such statements apart). THE CARD IS WHAT COUNTS. Prove the row's statement (the work); the ties are given (YtfgmjdhoeilhcaaGreatDoorTie.lean); close each card by the builder's one call (the guide's Derived/Test/ToyasCard.lean, 'card_holds'). Laid BY PROGRAM, IN A SANDBOX (cutbox-door.mjs). By AI agents, Wed Nov 11 2026. No macro, syntax, notation, axiom, sorry.
-/
import Derived.Test.YtfgmjdhoeilhcaaGreatDoorRows
import GoSem.ClaimSeven
namespace Go.Proofs.YtfgmjdhoeilhcaaGreatDoor
namespace Rows

/-- THE TIED CARD OF 'abugidalaw03.RatValid'. -/
def ratValidCard : Claim7 := { stood := { row := ratValidRow, standIns := [], harness := (true, "4aaa3847da70386c6ed5a7bff6b3747fae746f4dfad5bc5b8bdb49a301f8618f"), looks := true }, kinds := [], alts := [], laidByText := true, laidKinds := [.data, .data, .data, .data, .pinned], laidTests := true, laidLooks := .later }
def RatValidCardSaid : Prop := Claim7.holds Tryz.pinned (.plain (OpenSpec.ofChange ratValidSpec)) ratValidCard

/-- THE TIED CARD OF 'abugidalaw03.RatMakes'. -/
def ratMakesCard : Claim7 := { stood := { row := ratMakesRow, standIns := [], harness := (true, "4aaa3847da70386c6ed5a7bff6b3747fae746f4dfad5bc5b8bdb49a301f8618f"), looks := true }, kinds := [], alts := [], laidByText := true, laidKinds := [.data, .data, .data, .data, .pinned], laidTests := true, laidLooks := .later }
def RatMakesCardSaid : Prop := Claim7.holds Tryz.pinned (.plain (OpenSpec.ofChange ratMakesSpec)) ratMakesCard

/-- THE TIED CARD OF 'abugidalaw03.RatOrders'. -/
def ratOrdersCard : Claim7 := { stood := { row := ratOrdersRow, standIns := [], harness := (true, "4aaa3847da70386c6ed5a7bff6b3747fae746f4dfad5bc5b8bdb49a301f8618f"), looks := true }, kinds := [], alts := [], laidByText := true, laidKinds := [.data, .data, .data, .data, .pinned], laidTests := true, laidLooks := .later }
def RatOrdersCardSaid : Prop := Claim7.holds Tryz.pinned (.plain (OpenSpec.ofChange ratOrdersSpec)) ratOrdersCard

/-- THE TIED CARD OF 'abugidalaw03.RatComputes'. -/
def ratComputesCard : Claim7 := { stood := { row := ratComputesRow, standIns := [], harness := (true, "4aaa3847da70386c6ed5a7bff6b3747fae746f4dfad5bc5b8bdb49a301f8618f"), looks := true }, kinds := [], alts := [], laidByText := true, laidKinds := [.data, .data, .data, .data, .pinned], laidTests := true, laidLooks := .later }
def RatComputesCardSaid : Prop := Claim7.holds Tryz.pinned (.plain (OpenSpec.ofChange ratComputesSpec)) ratComputesCard

/-- THE TIED CARD OF 'abugidalaw03.RatNative'. -/
def ratNativeCard : Claim7 := { stood := { row := ratNativeRow, standIns := [], harness := (true, "4aaa3847da70386c6ed5a7bff6b3747fae746f4dfad5bc5b8bdb49a301f8618f"), looks := true }, kinds := [], alts := [], laidByText := true, laidKinds := [.data, .data, .data, .data, .pinned], laidTests := true, laidLooks := .later }
def RatNativeCardSaid : Prop := Claim7.holds Tryz.pinned (.plain (OpenSpec.ofChange ratNativeSpec)) ratNativeCard

/-- THE TIED CARD OF 'abugidalaw03.RatField'. -/
def ratFieldCard : Claim7 := { stood := { row := ratFieldRow, standIns := [], harness := (true, "4aaa3847da70386c6ed5a7bff6b3747fae746f4dfad5bc5b8bdb49a301f8618f"), looks := true }, kinds := [], alts := [], laidByText := true, laidKinds := [.data, .data, .data, .data, .pinned], laidTests := true, laidLooks := .later }
def RatFieldCardSaid : Prop := Claim7.holds Tryz.pinned (.plain (OpenSpec.ofChange ratFieldSpec)) ratFieldCard

/-- THE TIED CARD OF 'abugidalaw03.RatKnown'. -/
def ratKnownCard : Claim7 := { stood := { row := ratKnownRow, standIns := [], harness := (true, "4aaa3847da70386c6ed5a7bff6b3747fae746f4dfad5bc5b8bdb49a301f8618f"), looks := true }, kinds := [], alts := [], laidByText := true, laidKinds := [.data, .data, .data, .data, .pinned], laidTests := true, laidLooks := .later }
def RatKnownCardSaid : Prop := Claim7.holds Tryz.pinned (.plain (OpenSpec.ofChange ratKnownSpec)) ratKnownCard

/-- THE SECOND FORM's CARD OF 'abugidalaw03.RatValid'. -/
def ratValidUptoCard : Claim7 := { stood := { row := ratValidUptoRow, standIns := [], harness := (true, "4aaa3847da70386c6ed5a7bff6b3747fae746f4dfad5bc5b8bdb49a301f8618f"), looks := true }, kinds := [], alts := [], laidByText := true, laidKinds := [.data, .data, .data, .data, .pinned], laidTests := true, laidLooks := .later }
def RatValidUptoCardSaid : Prop := Claim7.holds Tryz.pinned (.plain (OpenSpec.upto ratValidSpec)) ratValidUptoCard

/-- THE SECOND FORM's CARD OF 'abugidalaw03.RatMakes'. -/
def ratMakesUptoCard : Claim7 := { stood := { row := ratMakesUptoRow, standIns := [], harness := (true, "4aaa3847da70386c6ed5a7bff6b3747fae746f4dfad5bc5b8bdb49a301f8618f"), looks := true }, kinds := [], alts := [], laidByText := true, laidKinds := [.data, .data, .data, .data, .pinned], laidTests := true, laidLooks := .later }
def RatMakesUptoCardSaid : Prop := Claim7.holds Tryz.pinned (.plain (OpenSpec.upto ratMakesSpec)) ratMakesUptoCard

/-- THE SECOND FORM's CARD OF 'abugidalaw03.RatOrders'. -/
def ratOrdersUptoCard : Claim7 := { stood := { row := ratOrdersUptoRow, standIns := [], harness := (true, "4aaa3847da70386c6ed5a7bff6b3747fae746f4dfad5bc5b8bdb49a301f8618f"), looks := true }, kinds := [], alts := [], laidByText := true, laidKinds := [.data, .data, .data, .data, .pinned], laidTests := true, laidLooks := .later }
def RatOrdersUptoCardSaid : Prop := Claim7.holds Tryz.pinned (.plain (OpenSpec.upto ratOrdersSpec)) ratOrdersUptoCard

/-- THE SECOND FORM's CARD OF 'abugidalaw03.RatComputes'. -/
def ratComputesUptoCard : Claim7 := { stood := { row := ratComputesUptoRow, standIns := [], harness := (true, "4aaa3847da70386c6ed5a7bff6b3747fae746f4dfad5bc5b8bdb49a301f8618f"), looks := true }, kinds := [], alts := [], laidByText := true, laidKinds := [.data, .data, .data, .data, .pinned], laidTests := true, laidLooks := .later }
def RatComputesUptoCardSaid : Prop := Claim7.holds Tryz.pinned (.plain (OpenSpec.upto ratComputesSpec)) ratComputesUptoCard

/-- THE SECOND FORM's CARD OF 'abugidalaw03.RatNative'. -/
def ratNativeUptoCard : Claim7 := { stood := { row := ratNativeUptoRow, standIns := [], harness := (true, "4aaa3847da70386c6ed5a7bff6b3747fae746f4dfad5bc5b8bdb49a301f8618f"), looks := true }, kinds := [], alts := [], laidByText := true, laidKinds := [.data, .data, .data, .data, .pinned], laidTests := true, laidLooks := .later }
def RatNativeUptoCardSaid : Prop := Claim7.holds Tryz.pinned (.plain (OpenSpec.upto ratNativeSpec)) ratNativeUptoCard

/-- THE SECOND FORM's CARD OF 'abugidalaw03.RatField'. -/
def ratFieldUptoCard : Claim7 := { stood := { row := ratFieldUptoRow, standIns := [], harness := (true, "4aaa3847da70386c6ed5a7bff6b3747fae746f4dfad5bc5b8bdb49a301f8618f"), looks := true }, kinds := [], alts := [], laidByText := true, laidKinds := [.data, .data, .data, .data, .pinned], laidTests := true, laidLooks := .later }
def RatFieldUptoCardSaid : Prop := Claim7.holds Tryz.pinned (.plain (OpenSpec.upto ratFieldSpec)) ratFieldUptoCard

/-- THE SECOND FORM's CARD OF 'abugidalaw03.RatKnown'. -/
def ratKnownUptoCard : Claim7 := { stood := { row := ratKnownUptoRow, standIns := [], harness := (true, "4aaa3847da70386c6ed5a7bff6b3747fae746f4dfad5bc5b8bdb49a301f8618f"), looks := true }, kinds := [], alts := [], laidByText := true, laidKinds := [.data, .data, .data, .data, .pinned], laidTests := true, laidLooks := .later }
def RatKnownUptoCardSaid : Prop := Claim7.holds Tryz.pinned (.plain (OpenSpec.upto ratKnownSpec)) ratKnownUptoCard
end Rows
end Go.Proofs.YtfgmjdhoeilhcaaGreatDoor
