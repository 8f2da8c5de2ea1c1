/-
  DERIVED. GIVEN WITH THE SEED: THE CARDS: each row of YtmnmbjnhhhdegaaGreatDoorRows.lean that lists a variable, with what it lists TIED to the program's text (the seventh form; the later family's looks); each row that meets fmt, with fmt's text TOLD by the authors' own Lean function (tested against real Go, not proved from fmt's source: count such statements apart). THE CARD IS WHAT COUNTS. Prove the row's statement (the work); the ties are given (YtmnmbjnhhhdegaaGreatDoorTie.lean); close each card by the builder's one call (the guide's Derived/Test/ToyasCard.lean, 'card_holds'). Laid BY PROGRAM, IN A SANDBOX (cutbox-door.mjs). By AI agents, Wed Nov 11 2026. No macro, syntax, notation, axiom, sorry.
-/
import Derived.Test.YtmnmbjnhhhdegaaGreatDoorRows
import GoSem.ClaimSeven
namespace Go.Proofs.YtmnmbjnhhhdegaaGreatDoor
namespace Rows

/-- THE TIED CARD OF 'laws.FnParseEvent'. -/
def fnParseEventCard : Claim7 := { stood := { row := fnParseEventRow, standIns := [], harness := (true, "e049a441d682d41057a3467e14c90d83e28340cefbb2ca631565a6a154310e44"), looks := true }, kinds := [], alts := [], laidByText := true, laidKinds := [.data, .data, .data, .data, .sentinel, .sentinel, .data, .pinned], laidTests := true, laidLooks := .later }
def FnParseEventCardSaid : Prop := Claim7.holds Tryz.pinned (.plain (OpenSpec.ofChange fnParseEventSpec)) fnParseEventCard

/-- THE TIED CARD OF 'laws.FnRecoverBook'. -/
def fnRecoverBookCard : Claim7 := { stood := { row := fnRecoverBookRow, standIns := [], harness := (true, "e049a441d682d41057a3467e14c90d83e28340cefbb2ca631565a6a154310e44"), looks := true }, kinds := [], alts := [], laidByText := true, laidKinds := [.data, .data, .data, .data, .sentinel, .sentinel, .data, .pinned], laidTests := true, laidLooks := .later }
def FnRecoverBookCardSaid : Prop := Claim7.holds Tryz.pinned (.plain (OpenSpec.ofChange fnRecoverBookSpec)) fnRecoverBookCard

/-- THE TIED CARD OF 'laws.FnFormatEventSame'. -/
def fnFormatEventSameCard : Claim7 := { stood := { row := fnFormatEventSameRow, standIns := [], harness := (true, "e049a441d682d41057a3467e14c90d83e28340cefbb2ca631565a6a154310e44"), looks := true }, kinds := [], alts := [], laidByText := true, laidKinds := [.data, .data, .data, .data, .sentinel, .sentinel, .data, .pinned], laidTests := true, laidLooks := .later }
def FnFormatEventSameCardSaid : Prop := Claim7.holds Tryz.pinned (.plain (OpenSpec.ofChange fnFormatEventSameSpec)) fnFormatEventSameCard

/-- THE TIED CARD OF 'laws.FnFormatBook'. -/
def fnFormatBookCard : Claim7 := { stood := { row := fnFormatBookRow, standIns := [], harness := (true, "e049a441d682d41057a3467e14c90d83e28340cefbb2ca631565a6a154310e44"), looks := true }, kinds := [], alts := [], laidByText := true, laidKinds := [.data, .data, .data, .data, .sentinel, .sentinel, .data, .pinned], laidTests := true, laidLooks := .later }
def FnFormatBookCardSaid : Prop := Claim7.holds Tryz.pinned (.plain (OpenSpec.ofChange fnFormatBookSpec)) fnFormatBookCard

/-- THE TIED CARD OF 'laws.FnFormatBookCrash'. -/
def fnFormatBookCrashCard : Claim7 := { stood := { row := fnFormatBookCrashRow, standIns := [], harness := (true, "e049a441d682d41057a3467e14c90d83e28340cefbb2ca631565a6a154310e44"), looks := true }, kinds := [], alts := [], laidByText := true, laidKinds := [.data, .data, .data, .data, .sentinel, .sentinel, .data, .pinned], laidTests := true, laidLooks := .later }
def FnFormatBookCrashCardSaid : Prop := Claim7.holds Tryz.pinned (.plain (OpenSpec.ofChange fnFormatBookCrashSpec)) fnFormatBookCrashCard

/-- THE TIED CARD OF 'laws.FnEntriesOfText'. -/
def fnEntriesOfTextCard : Claim7 := { stood := { row := fnEntriesOfTextRow, standIns := [], harness := (true, "e049a441d682d41057a3467e14c90d83e28340cefbb2ca631565a6a154310e44"), looks := true }, kinds := [], alts := [], laidByText := true, laidKinds := [.data, .data, .data, .data, .sentinel, .sentinel, .pinned], laidTests := true, laidLooks := .later }
def FnEntriesOfTextCardSaid : Prop := Claim7.holds Tryz.pinned (.plain (OpenSpec.ofChange fnEntriesOfTextSpec)) fnEntriesOfTextCard

/-- THE TIED CARD OF 'laws.FnRunDeskBox'. -/
def fnRunDeskBoxCard : Claim7 := { stood := { row := fnRunDeskBoxRow, standIns := [], harness := (true, "e049a441d682d41057a3467e14c90d83e28340cefbb2ca631565a6a154310e44"), looks := true }, kinds := [], alts := [], laidByText := true, laidKinds := [.data, .data, .data, .data, .sentinel, .sentinel, .data, .pinned], laidTests := true, laidLooks := .later }
def FnRunDeskBoxCardSaid : Prop := Claim7.holds Tryz.pinned (.plain (OpenSpec.ofChange fnRunDeskBoxSpec)) fnRunDeskBoxCard

/-- THE TIED CARD OF 'laws.FnExactRunDesk'. -/
def fnExactRunDeskCard : Claim7 := { stood := { row := fnExactRunDeskRow, standIns := [], harness := (true, "e049a441d682d41057a3467e14c90d83e28340cefbb2ca631565a6a154310e44"), looks := true }, kinds := [], alts := [], laidByText := true, laidKinds := [.data, .data, .data, .data, .sentinel, .sentinel, .data, .pinned], laidTests := true, laidLooks := .later }
def FnExactRunDeskCardSaid : Prop := Claim7.holds Tryz.pinned (.plain (OpenSpec.ofChange fnExactRunDeskSpec)) fnExactRunDeskCard

/-- THE TIED CARD OF 'laws.FnRunDesk'. -/
def fnRunDeskCard : Claim7 := { stood := { row := fnRunDeskRow, standIns := [], harness := (true, "e049a441d682d41057a3467e14c90d83e28340cefbb2ca631565a6a154310e44"), looks := true }, kinds := [], alts := [], laidByText := true, laidKinds := [.data, .data, .data, .data, .sentinel, .sentinel, .data, .pinned], laidTests := true, laidLooks := .later }
def FnRunDeskCardSaid : Prop := Claim7.holds Tryz.pinned (.plain (OpenSpec.ofChange fnRunDeskSpec)) fnRunDeskCard

/-- THE SECOND FORM's CARD OF 'laws.FnParseEvent'. -/
def fnParseEventUptoCard : Claim7 := { stood := { row := fnParseEventUptoRow, standIns := [], harness := (true, "e049a441d682d41057a3467e14c90d83e28340cefbb2ca631565a6a154310e44"), looks := true }, kinds := [], alts := [], laidByText := true, laidKinds := [.data, .data, .data, .data, .sentinel, .sentinel, .data, .pinned], laidTests := true, laidLooks := .later }
def FnParseEventUptoCardSaid : Prop := Claim7.holds Tryz.pinned (.plain (OpenSpec.upto fnParseEventSpec)) fnParseEventUptoCard

/-- THE SECOND FORM's CARD OF 'laws.FnRecoverBook'. -/
def fnRecoverBookUptoCard : Claim7 := { stood := { row := fnRecoverBookUptoRow, standIns := [], harness := (true, "e049a441d682d41057a3467e14c90d83e28340cefbb2ca631565a6a154310e44"), looks := true }, kinds := [], alts := [], laidByText := true, laidKinds := [.data, .data, .data, .data, .sentinel, .sentinel, .data, .pinned], laidTests := true, laidLooks := .later }
def FnRecoverBookUptoCardSaid : Prop := Claim7.holds Tryz.pinned (.plain (OpenSpec.upto fnRecoverBookSpec)) fnRecoverBookUptoCard

/-- THE SECOND FORM's CARD OF 'laws.FnFormatEventSame'. -/
def fnFormatEventSameUptoCard : Claim7 := { stood := { row := fnFormatEventSameUptoRow, standIns := [], harness := (true, "e049a441d682d41057a3467e14c90d83e28340cefbb2ca631565a6a154310e44"), looks := true }, kinds := [], alts := [], laidByText := true, laidKinds := [.data, .data, .data, .data, .sentinel, .sentinel, .data, .pinned], laidTests := true, laidLooks := .later }
def FnFormatEventSameUptoCardSaid : Prop := Claim7.holds Tryz.pinned (.plain (OpenSpec.upto fnFormatEventSameSpec)) fnFormatEventSameUptoCard

/-- THE SECOND FORM's CARD OF 'laws.FnFormatBook'. -/
def fnFormatBookUptoCard : Claim7 := { stood := { row := fnFormatBookUptoRow, standIns := [], harness := (true, "e049a441d682d41057a3467e14c90d83e28340cefbb2ca631565a6a154310e44"), looks := true }, kinds := [], alts := [], laidByText := true, laidKinds := [.data, .data, .data, .data, .sentinel, .sentinel, .data, .pinned], laidTests := true, laidLooks := .later }
def FnFormatBookUptoCardSaid : Prop := Claim7.holds Tryz.pinned (.plain (OpenSpec.upto fnFormatBookSpec)) fnFormatBookUptoCard

/-- THE SECOND FORM's CARD OF 'laws.FnFormatBookCrash'. -/
def fnFormatBookCrashUptoCard : Claim7 := { stood := { row := fnFormatBookCrashUptoRow, standIns := [], harness := (true, "e049a441d682d41057a3467e14c90d83e28340cefbb2ca631565a6a154310e44"), looks := true }, kinds := [], alts := [], laidByText := true, laidKinds := [.data, .data, .data, .data, .sentinel, .sentinel, .data, .pinned], laidTests := true, laidLooks := .later }
def FnFormatBookCrashUptoCardSaid : Prop := Claim7.holds Tryz.pinned (.plain (OpenSpec.upto fnFormatBookCrashSpec)) fnFormatBookCrashUptoCard

/-- THE SECOND FORM's CARD OF 'laws.FnEntriesOfText'. -/
def fnEntriesOfTextUptoCard : Claim7 := { stood := { row := fnEntriesOfTextUptoRow, standIns := [], harness := (true, "e049a441d682d41057a3467e14c90d83e28340cefbb2ca631565a6a154310e44"), looks := true }, kinds := [], alts := [], laidByText := true, laidKinds := [.data, .data, .data, .data, .sentinel, .sentinel, .pinned], laidTests := true, laidLooks := .later }
def FnEntriesOfTextUptoCardSaid : Prop := Claim7.holds Tryz.pinned (.plain (OpenSpec.upto fnEntriesOfTextSpec)) fnEntriesOfTextUptoCard

/-- THE SECOND FORM's CARD OF 'laws.FnRunDeskBox'. -/
def fnRunDeskBoxUptoCard : Claim7 := { stood := { row := fnRunDeskBoxUptoRow, standIns := [], harness := (true, "e049a441d682d41057a3467e14c90d83e28340cefbb2ca631565a6a154310e44"), looks := true }, kinds := [], alts := [], laidByText := true, laidKinds := [.data, .data, .data, .data, .sentinel, .sentinel, .data, .pinned], laidTests := true, laidLooks := .later }
def FnRunDeskBoxUptoCardSaid : Prop := Claim7.holds Tryz.pinned (.plain (OpenSpec.upto fnRunDeskBoxSpec)) fnRunDeskBoxUptoCard

/-- THE SECOND FORM's CARD OF 'laws.FnExactRunDesk'. -/
def fnExactRunDeskUptoCard : Claim7 := { stood := { row := fnExactRunDeskUptoRow, standIns := [], harness := (true, "e049a441d682d41057a3467e14c90d83e28340cefbb2ca631565a6a154310e44"), looks := true }, kinds := [], alts := [], laidByText := true, laidKinds := [.data, .data, .data, .data, .sentinel, .sentinel, .data, .pinned], laidTests := true, laidLooks := .later }
def FnExactRunDeskUptoCardSaid : Prop := Claim7.holds Tryz.pinned (.plain (OpenSpec.upto fnExactRunDeskSpec)) fnExactRunDeskUptoCard

/-- THE SECOND FORM's CARD OF 'laws.FnRunDesk'. -/
def fnRunDeskUptoCard : Claim7 := { stood := { row := fnRunDeskUptoRow, standIns := [], harness := (true, "e049a441d682d41057a3467e14c90d83e28340cefbb2ca631565a6a154310e44"), looks := true }, kinds := [], alts := [], laidByText := true, laidKinds := [.data, .data, .data, .data, .sentinel, .sentinel, .data, .pinned], laidTests := true, laidLooks := .later }
def FnRunDeskUptoCardSaid : Prop := Claim7.holds Tryz.pinned (.plain (OpenSpec.upto fnRunDeskSpec)) fnRunDeskUptoCard
end Rows
end Go.Proofs.YtmnmbjnhhhdegaaGreatDoor
