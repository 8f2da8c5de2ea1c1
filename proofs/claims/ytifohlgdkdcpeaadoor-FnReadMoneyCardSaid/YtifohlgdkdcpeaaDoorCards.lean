/-
  DERIVED. GIVEN WITH THE SEED: THE CARDS: each row of YtifohlgdkdcpeaaDoorRows.lean that lists a variable, with what it lists TIED to the program's text (the seventh form; the later family's looks); each row that meets fmt, with fmt's text TOLD by the authors' own Lean function (tested against real Go, not proved from fmt's source: count such statements apart). THE CARD IS WHAT COUNTS. Prove the row's statement (the work); the ties are given (YtifohlgdkdcpeaaDoorTie.lean); close each card by the builder's one call (the guide's Derived/Test/ToyasCard.lean, 'card_holds'). Laid BY PROGRAM, IN A SANDBOX (cutbox-door.mjs). By AI agents, Wed Nov 11 2026. No macro, syntax, notation, axiom, sorry.
-/
import Derived.Test.YtifohlgdkdcpeaaDoorRows
import GoSem.ClaimSeven
namespace Go.Proofs.YtifohlgdkdcpeaaDoor
namespace Rows

/-- THE TIED CARD OF 'laws.FnReadMoney'. -/
def fnReadMoneyCard : Claim7 := { stood := { row := fnReadMoneyRow, standIns := [], harness := (true, "a7fb56824c8edb50160f8e3ae3f5ae22a15e4e290933d76f6eebc355254fd1be"), looks := false }, kinds := [], alts := [], laidByText := true, laidKinds := [.data, .data, .data], laidTests := true, laidLooks := .later }
def FnReadMoneyCardSaid : Prop := Claim7.holds Tryd.pinned (.plain (OpenSpec.ofChange fnReadMoneySpec)) fnReadMoneyCard

/-- THE SECOND FORM's CARD OF 'laws.FnReadMoney'. -/
def fnReadMoneyUptoCard : Claim7 := { stood := { row := fnReadMoneyUptoRow, standIns := [], harness := (true, "a7fb56824c8edb50160f8e3ae3f5ae22a15e4e290933d76f6eebc355254fd1be"), looks := false }, kinds := [], alts := [], laidByText := true, laidKinds := [.data, .data, .data], laidTests := true, laidLooks := .later }
def FnReadMoneyUptoCardSaid : Prop := Claim7.holds Tryd.pinned (.plain (OpenSpec.upto fnReadMoneySpec)) fnReadMoneyUptoCard
end Rows
end Go.Proofs.YtifohlgdkdcpeaaDoor
