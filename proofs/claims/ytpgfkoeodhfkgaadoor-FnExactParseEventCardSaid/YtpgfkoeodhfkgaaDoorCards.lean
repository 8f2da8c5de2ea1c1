/-
  DERIVED. GIVEN WITH THE SEED: THE CARDS: each row of YtpgfkoeodhfkgaaDoorRows.lean that lists a variable, with what it lists TIED to the program's text (the seventh form; the later family's looks); each row that meets fmt, with fmt's text TOLD by the authors' own Lean function (tested against real Go, not proved from fmt's source: count such statements apart). THE CARD IS WHAT COUNTS. Prove the row's statement (the work); the ties are given (YtpgfkoeodhfkgaaDoorTie.lean); close each card by the builder's one call (the guide's Derived/Test/ToyasCard.lean, 'card_holds'). Laid BY PROGRAM, IN A SANDBOX (cutbox-door.mjs). By AI agents, Wed Nov 11 2026. No macro, syntax, notation, axiom, sorry.
-/
import Derived.Test.YtpgfkoeodhfkgaaDoorRows
import GoSem.ClaimSeven
namespace Go.Proofs.YtpgfkoeodhfkgaaDoor
namespace Rows

/-- THE TIED CARD OF 'laws.FnExactFormatEntries'. -/
def fnExactFormatEntriesCard : Claim7 := { stood := { row := fnExactFormatEntriesRow, standIns := [], harness := (true, "04a46361756db0c9432b0472dc365dcf107720a0b46d4329014c0bd9cf6f8cf6"), looks := true }, kinds := [], alts := [], laidByText := true, laidKinds := [.data, .data, .data], laidTests := true, laidLooks := .later }
def FnExactFormatEntriesCardSaid : Prop := Claim7.holds Tryd.pinned (.plain (OpenSpec.ofChange fnExactFormatEntriesSpec)) fnExactFormatEntriesCard

/-- THE TIED CARD OF 'laws.FnExactFormatEvent'. -/
def fnExactFormatEventCard : Claim7 := { stood := { row := fnExactFormatEventRow, standIns := [], harness := (true, "04a46361756db0c9432b0472dc365dcf107720a0b46d4329014c0bd9cf6f8cf6"), looks := true }, kinds := [], alts := [], laidByText := true, laidKinds := [.data, .data, .data, .data], laidTests := true, laidLooks := .later }
def FnExactFormatEventCardSaid : Prop := Claim7.holds Tryd.pinned (.plain (OpenSpec.ofChange fnExactFormatEventSpec)) fnExactFormatEventCard

/-- THE TIED CARD OF 'laws.FnExactFormatBook'. -/
def fnExactFormatBookCard : Claim7 := { stood := { row := fnExactFormatBookRow, standIns := [], harness := (true, "04a46361756db0c9432b0472dc365dcf107720a0b46d4329014c0bd9cf6f8cf6"), looks := true }, kinds := [], alts := [], laidByText := true, laidKinds := [.data, .data, .data, .data], laidTests := true, laidLooks := .later }
def FnExactFormatBookCardSaid : Prop := Claim7.holds Tryd.pinned (.plain (OpenSpec.ofChange fnExactFormatBookSpec)) fnExactFormatBookCard

/-- THE TIED CARD OF 'laws.FnFormatEntries'. -/
def fnFormatEntriesCard : Claim7 := { stood := { row := fnFormatEntriesRow, standIns := [], harness := (true, "04a46361756db0c9432b0472dc365dcf107720a0b46d4329014c0bd9cf6f8cf6"), looks := true }, kinds := [], alts := [], laidByText := true, laidKinds := [.data, .data, .data, .data, .sentinel, .sentinel, .pinned], laidTests := true, laidLooks := .later }
def FnFormatEntriesCardSaid : Prop := Claim7.holds Tryd.pinned (.plain (OpenSpec.ofChange fnFormatEntriesSpec)) fnFormatEntriesCard

/-- THE TIED CARD OF 'laws.FnExactParseEntries'. -/
def fnExactParseEntriesCard : Claim7 := { stood := { row := fnExactParseEntriesRow, standIns := [], harness := (true, "04a46361756db0c9432b0472dc365dcf107720a0b46d4329014c0bd9cf6f8cf6"), looks := true }, kinds := [], alts := [], laidByText := true, laidKinds := [.data, .data, .data, .data, .sentinel, .sentinel, .pinned], laidTests := true, laidLooks := .later }
def FnExactParseEntriesCardSaid : Prop := Claim7.holds Tryd.pinned (.plain (OpenSpec.ofChange fnExactParseEntriesSpec)) fnExactParseEntriesCard

/-- THE TIED CARD OF 'laws.FnParseEntries'. -/
def fnParseEntriesCard : Claim7 := { stood := { row := fnParseEntriesRow, standIns := [], harness := (true, "04a46361756db0c9432b0472dc365dcf107720a0b46d4329014c0bd9cf6f8cf6"), looks := true }, kinds := [], alts := [], laidByText := true, laidKinds := [.data, .data, .data, .data, .sentinel, .sentinel, .pinned], laidTests := true, laidLooks := .later }
def FnParseEntriesCardSaid : Prop := Claim7.holds Tryd.pinned (.plain (OpenSpec.ofChange fnParseEntriesSpec)) fnParseEntriesCard

/-- THE TIED CARD OF 'laws.FnExactParseEvent'. -/
def fnExactParseEventCard : Claim7 := { stood := { row := fnExactParseEventRow, standIns := [], harness := (true, "04a46361756db0c9432b0472dc365dcf107720a0b46d4329014c0bd9cf6f8cf6"), looks := true }, kinds := [], alts := [], laidByText := true, laidKinds := [.data, .data, .data, .data, .sentinel, .sentinel, .data, .pinned], laidTests := true, laidLooks := .later }
def FnExactParseEventCardSaid : Prop := Claim7.holds Tryd.pinned (.plain (OpenSpec.ofChange fnExactParseEventSpec)) fnExactParseEventCard

/-- THE TIED CARD OF 'laws.FnExactRecoverBook'. -/
def fnExactRecoverBookCard : Claim7 := { stood := { row := fnExactRecoverBookRow, standIns := [], harness := (true, "04a46361756db0c9432b0472dc365dcf107720a0b46d4329014c0bd9cf6f8cf6"), looks := true }, kinds := [], alts := [], laidByText := true, laidKinds := [.data, .data, .data, .data, .sentinel, .sentinel, .data, .pinned], laidTests := true, laidLooks := .later }
def FnExactRecoverBookCardSaid : Prop := Claim7.holds Tryd.pinned (.plain (OpenSpec.ofChange fnExactRecoverBookSpec)) fnExactRecoverBookCard

/-- THE SECOND FORM's CARD OF 'laws.FnExactFormatEntries'. -/
def fnExactFormatEntriesUptoCard : Claim7 := { stood := { row := fnExactFormatEntriesUptoRow, standIns := [], harness := (true, "04a46361756db0c9432b0472dc365dcf107720a0b46d4329014c0bd9cf6f8cf6"), looks := true }, kinds := [], alts := [], laidByText := true, laidKinds := [.data, .data, .data], laidTests := true, laidLooks := .later }
def FnExactFormatEntriesUptoCardSaid : Prop := Claim7.holds Tryd.pinned (.plain (OpenSpec.upto fnExactFormatEntriesSpec)) fnExactFormatEntriesUptoCard

/-- THE SECOND FORM's CARD OF 'laws.FnExactFormatEvent'. -/
def fnExactFormatEventUptoCard : Claim7 := { stood := { row := fnExactFormatEventUptoRow, standIns := [], harness := (true, "04a46361756db0c9432b0472dc365dcf107720a0b46d4329014c0bd9cf6f8cf6"), looks := true }, kinds := [], alts := [], laidByText := true, laidKinds := [.data, .data, .data, .data], laidTests := true, laidLooks := .later }
def FnExactFormatEventUptoCardSaid : Prop := Claim7.holds Tryd.pinned (.plain (OpenSpec.upto fnExactFormatEventSpec)) fnExactFormatEventUptoCard

/-- THE SECOND FORM's CARD OF 'laws.FnExactFormatBook'. -/
def fnExactFormatBookUptoCard : Claim7 := { stood := { row := fnExactFormatBookUptoRow, standIns := [], harness := (true, "04a46361756db0c9432b0472dc365dcf107720a0b46d4329014c0bd9cf6f8cf6"), looks := true }, kinds := [], alts := [], laidByText := true, laidKinds := [.data, .data, .data, .data], laidTests := true, laidLooks := .later }
def FnExactFormatBookUptoCardSaid : Prop := Claim7.holds Tryd.pinned (.plain (OpenSpec.upto fnExactFormatBookSpec)) fnExactFormatBookUptoCard

/-- THE SECOND FORM's CARD OF 'laws.FnFormatEntries'. -/
def fnFormatEntriesUptoCard : Claim7 := { stood := { row := fnFormatEntriesUptoRow, standIns := [], harness := (true, "04a46361756db0c9432b0472dc365dcf107720a0b46d4329014c0bd9cf6f8cf6"), looks := true }, kinds := [], alts := [], laidByText := true, laidKinds := [.data, .data, .data, .data, .sentinel, .sentinel, .pinned], laidTests := true, laidLooks := .later }
def FnFormatEntriesUptoCardSaid : Prop := Claim7.holds Tryd.pinned (.plain (OpenSpec.upto fnFormatEntriesSpec)) fnFormatEntriesUptoCard

/-- THE SECOND FORM's CARD OF 'laws.FnExactParseEntries'. -/
def fnExactParseEntriesUptoCard : Claim7 := { stood := { row := fnExactParseEntriesUptoRow, standIns := [], harness := (true, "04a46361756db0c9432b0472dc365dcf107720a0b46d4329014c0bd9cf6f8cf6"), looks := true }, kinds := [], alts := [], laidByText := true, laidKinds := [.data, .data, .data, .data, .sentinel, .sentinel, .pinned], laidTests := true, laidLooks := .later }
def FnExactParseEntriesUptoCardSaid : Prop := Claim7.holds Tryd.pinned (.plain (OpenSpec.upto fnExactParseEntriesSpec)) fnExactParseEntriesUptoCard

/-- THE SECOND FORM's CARD OF 'laws.FnParseEntries'. -/
def fnParseEntriesUptoCard : Claim7 := { stood := { row := fnParseEntriesUptoRow, standIns := [], harness := (true, "04a46361756db0c9432b0472dc365dcf107720a0b46d4329014c0bd9cf6f8cf6"), looks := true }, kinds := [], alts := [], laidByText := true, laidKinds := [.data, .data, .data, .data, .sentinel, .sentinel, .pinned], laidTests := true, laidLooks := .later }
def FnParseEntriesUptoCardSaid : Prop := Claim7.holds Tryd.pinned (.plain (OpenSpec.upto fnParseEntriesSpec)) fnParseEntriesUptoCard

/-- THE SECOND FORM's CARD OF 'laws.FnExactParseEvent'. -/
def fnExactParseEventUptoCard : Claim7 := { stood := { row := fnExactParseEventUptoRow, standIns := [], harness := (true, "04a46361756db0c9432b0472dc365dcf107720a0b46d4329014c0bd9cf6f8cf6"), looks := true }, kinds := [], alts := [], laidByText := true, laidKinds := [.data, .data, .data, .data, .sentinel, .sentinel, .data, .pinned], laidTests := true, laidLooks := .later }
def FnExactParseEventUptoCardSaid : Prop := Claim7.holds Tryd.pinned (.plain (OpenSpec.upto fnExactParseEventSpec)) fnExactParseEventUptoCard

/-- THE SECOND FORM's CARD OF 'laws.FnExactRecoverBook'. -/
def fnExactRecoverBookUptoCard : Claim7 := { stood := { row := fnExactRecoverBookUptoRow, standIns := [], harness := (true, "04a46361756db0c9432b0472dc365dcf107720a0b46d4329014c0bd9cf6f8cf6"), looks := true }, kinds := [], alts := [], laidByText := true, laidKinds := [.data, .data, .data, .data, .sentinel, .sentinel, .data, .pinned], laidTests := true, laidLooks := .later }
def FnExactRecoverBookUptoCardSaid : Prop := Claim7.holds Tryd.pinned (.plain (OpenSpec.upto fnExactRecoverBookSpec)) fnExactRecoverBookUptoCard
end Rows
end Go.Proofs.YtpgfkoeodhfkgaaDoor
