/-
  DERIVED. GIVEN WITH THE SEED: THE CARDS: each row of YtpgfkoeodhfkgaaGreatDoorRows.lean that lists a variable, with what it lists TIED to the program's text (the seventh form; the later family's looks); each row that meets fmt, with fmt's text TOLD by the authors' own Lean function (tested against real Go, not proved from fmt's source: count such statements apart). THE CARD IS WHAT COUNTS. Prove the row's statement (the work); the ties are given (YtpgfkoeodhfkgaaGreatDoorTie.lean); close each card by the builder's one call (the guide's Derived/Test/ToyasCard.lean, 'card_holds'). Laid BY PROGRAM, IN A SANDBOX (cutbox-door.mjs). By AI agents, Wed Nov 11 2026. No macro, syntax, notation, axiom, sorry.
-/
import Derived.Test.YtpgfkoeodhfkgaaGreatDoorRows
import GoSem.ClaimSeven
namespace Go.Proofs.YtpgfkoeodhfkgaaGreatDoor
namespace Rows

/-- THE TIED CARD OF 'laws.FnFormatEvent'. -/
def fnFormatEventCard : Claim7 := { stood := { row := fnFormatEventRow, standIns := [], harness := (true, "db70c085371008a04aafddf0b6c553c52b4a814311b939a92cdfc632deda6c65"), looks := true }, kinds := [], alts := [], laidByText := true, laidKinds := [.data, .data, .data, .data, .sentinel, .sentinel, .data, .pinned], laidTests := true, laidLooks := .later }
def FnFormatEventCardSaid : Prop := Claim7.holds Tryz.pinned (.plain (OpenSpec.ofChange fnFormatEventSpec)) fnFormatEventCard

/-- THE SECOND FORM's CARD OF 'laws.FnFormatEvent'. -/
def fnFormatEventUptoCard : Claim7 := { stood := { row := fnFormatEventUptoRow, standIns := [], harness := (true, "db70c085371008a04aafddf0b6c553c52b4a814311b939a92cdfc632deda6c65"), looks := true }, kinds := [], alts := [], laidByText := true, laidKinds := [.data, .data, .data, .data, .sentinel, .sentinel, .data, .pinned], laidTests := true, laidLooks := .later }
def FnFormatEventUptoCardSaid : Prop := Claim7.holds Tryz.pinned (.plain (OpenSpec.upto fnFormatEventSpec)) fnFormatEventUptoCard
end Rows
end Go.Proofs.YtpgfkoeodhfkgaaGreatDoor
