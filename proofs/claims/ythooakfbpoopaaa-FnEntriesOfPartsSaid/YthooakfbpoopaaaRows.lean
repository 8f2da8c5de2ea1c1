/-
  No cell of these rows narrows 'for every input' (looked for: loops, veiled, ifaces, maps, wideKeys, modest, calm, conditions, laid).
  DERIVED. THE GIVEN ROWS OF THIS SEAT. 9 by the template 'for every input the law returns true; each argument reads behind the call as it read before'; 0 by the template 'total and deterministic' (their statements: YthooakfbpoopaaaTotals.lean).
  GIVEN WITH THE SEED: the statements are not yours to turn. If you find one false, say at which input.
  Laid BY PROGRAM, IN A SANDBOX (cutbox-rows.mjs): the forced cells as the released guide's own fill.sh prints them over the translation 600e47e929de4cd6… (all of the seat's roots in one cut). By AI agents, Wed Nov 11 2026. No macro, syntax, notation, axiom, sorry.
-/
import Derived.Test.YthooakfbpoopaaaChecked
import GoSem.Claim
import GoSem.ClaimJoined
import GoSem.ClaimMapViews
import Derived.JoinedTies
import Derived.KernelRfl
namespace Go.Proofs.Ythooakfbpoopaaa
/- THE CELL 'sum', in the pinned program and in every row, IS THE sha256 OF THE DUMP (.gsa) THAT YthooakfbpoopaaaProg.lean LOADS. Nothing in Lean hashes anything: it is a label: what it is worth is what the hold of that sum in a sandbox is worth. -/
noncomputable def Try.pinned : Pinned := { name := "ythooakfbpoopaaa", sum := "600e47e929de4cd60677512c8c0f1b374103a9476ce557adb7a516d01279e1ec", checked := Try.checked }
namespace Rows
def none {H : Type} : Left H := { results := [], args := [] }

/-- 'laws.FnApplyEvent': WHATEVER THE INPUT: true; the input reads as it did. -/
def fnApplyEventSpec : ChangeSpec := { name := "fnApplyEvent", fn := fun _ => fun
  | [d] => { results := [.lit (.bool true)], args := [d] }
  | _ => none }
def fnApplyEventRow : OpenClaim := { program := "ythooakfbpoopaaa", sum := "600e47e929de4cd60677512c8c0f1b374103a9476ce557adb7a516d01279e1ec", func := "loop.example/savingsclub/laws.FnApplyEvent", spec := "fnApplyEvent", unfollowed := true, recurses := true, apart := false }
def FnApplyEventSaid : Prop := fnApplyEventRow.holds Try.pinned (OpenSpec.ofChange fnApplyEventSpec)

/-- ITS FALSE NEIGHBOUR: 'it returns false'. Refute it at one input. -/
def fnApplyEventWrong : ChangeSpec := { name := "fnApplyEvent", fn := fun _ => fun
  | [d] => { results := [.lit (.bool false)], args := [d] }
  | _ => none }
def FnApplyEventWrongFalsely : Prop := fnApplyEventRow.holds Try.pinned (OpenSpec.ofChange fnApplyEventWrong)

/-- 'laws.FnApplyEventBox': WHATEVER THE INPUT: true; the input reads as it did. -/
def fnApplyEventBoxSpec : ChangeSpec := { name := "fnApplyEventBox", fn := fun _ => fun
  | [d] => { results := [.lit (.bool true)], args := [d] }
  | _ => none }
def fnApplyEventBoxRow : OpenClaim := { program := "ythooakfbpoopaaa", sum := "600e47e929de4cd60677512c8c0f1b374103a9476ce557adb7a516d01279e1ec", func := "loop.example/savingsclub/laws.FnApplyEventBox", spec := "fnApplyEventBox", unfollowed := true, recurses := true, apart := false }
def FnApplyEventBoxSaid : Prop := fnApplyEventBoxRow.holds Try.pinned (OpenSpec.ofChange fnApplyEventBoxSpec)

/-- ITS FALSE NEIGHBOUR: 'it returns false'. Refute it at one input. -/
def fnApplyEventBoxWrong : ChangeSpec := { name := "fnApplyEventBox", fn := fun _ => fun
  | [d] => { results := [.lit (.bool false)], args := [d] }
  | _ => none }
def FnApplyEventBoxWrongFalsely : Prop := fnApplyEventBoxRow.holds Try.pinned (OpenSpec.ofChange fnApplyEventBoxWrong)

/-- 'laws.FnApplyEventLend': WHATEVER THE INPUT: true; the input reads as it did. -/
def fnApplyEventLendSpec : ChangeSpec := { name := "fnApplyEventLend", fn := fun _ => fun
  | [d] => { results := [.lit (.bool true)], args := [d] }
  | _ => none }
def fnApplyEventLendRow : OpenClaim := { program := "ythooakfbpoopaaa", sum := "600e47e929de4cd60677512c8c0f1b374103a9476ce557adb7a516d01279e1ec", func := "loop.example/savingsclub/laws.FnApplyEventLend", spec := "fnApplyEventLend", unfollowed := true, recurses := true, apart := false }
def FnApplyEventLendSaid : Prop := fnApplyEventLendRow.holds Try.pinned (OpenSpec.ofChange fnApplyEventLendSpec)

/-- ITS FALSE NEIGHBOUR: 'it returns false'. Refute it at one input. -/
def fnApplyEventLendWrong : ChangeSpec := { name := "fnApplyEventLend", fn := fun _ => fun
  | [d] => { results := [.lit (.bool false)], args := [d] }
  | _ => none }
def FnApplyEventLendWrongFalsely : Prop := fnApplyEventLendRow.holds Try.pinned (OpenSpec.ofChange fnApplyEventLendWrong)

/-- 'laws.FnApplyEventShare': WHATEVER THE INPUT: true; the input reads as it did. -/
def fnApplyEventShareSpec : ChangeSpec := { name := "fnApplyEventShare", fn := fun _ => fun
  | [d] => { results := [.lit (.bool true)], args := [d] }
  | _ => none }
def fnApplyEventShareRow : OpenClaim := { program := "ythooakfbpoopaaa", sum := "600e47e929de4cd60677512c8c0f1b374103a9476ce557adb7a516d01279e1ec", func := "loop.example/savingsclub/laws.FnApplyEventShare", spec := "fnApplyEventShare", unfollowed := true, recurses := true, apart := false }
def FnApplyEventShareSaid : Prop := fnApplyEventShareRow.holds Try.pinned (OpenSpec.ofChange fnApplyEventShareSpec)

/-- ITS FALSE NEIGHBOUR: 'it returns false'. Refute it at one input. -/
def fnApplyEventShareWrong : ChangeSpec := { name := "fnApplyEventShare", fn := fun _ => fun
  | [d] => { results := [.lit (.bool false)], args := [d] }
  | _ => none }
def FnApplyEventShareWrongFalsely : Prop := fnApplyEventShareRow.holds Try.pinned (OpenSpec.ofChange fnApplyEventShareWrong)

/-- 'laws.FnApplyEventFail': WHATEVER THE INPUT: true; the input reads as it did. -/
def fnApplyEventFailSpec : ChangeSpec := { name := "fnApplyEventFail", fn := fun _ => fun
  | [d] => { results := [.lit (.bool true)], args := [d] }
  | _ => none }
def fnApplyEventFailRow : OpenClaim := { program := "ythooakfbpoopaaa", sum := "600e47e929de4cd60677512c8c0f1b374103a9476ce557adb7a516d01279e1ec", func := "loop.example/savingsclub/laws.FnApplyEventFail", spec := "fnApplyEventFail", unfollowed := true, recurses := true, apart := false }
def FnApplyEventFailSaid : Prop := fnApplyEventFailRow.holds Try.pinned (OpenSpec.ofChange fnApplyEventFailSpec)

/-- ITS FALSE NEIGHBOUR: 'it returns false'. Refute it at one input. -/
def fnApplyEventFailWrong : ChangeSpec := { name := "fnApplyEventFail", fn := fun _ => fun
  | [d] => { results := [.lit (.bool false)], args := [d] }
  | _ => none }
def FnApplyEventFailWrongFalsely : Prop := fnApplyEventFailRow.holds Try.pinned (OpenSpec.ofChange fnApplyEventFailWrong)

/-- 'laws.FnRunBook': WHATEVER THE INPUT: true; the input reads as it did. -/
def fnRunBookSpec : ChangeSpec := { name := "fnRunBook", fn := fun _ => fun
  | [d] => { results := [.lit (.bool true)], args := [d] }
  | _ => none }
def fnRunBookRow : OpenClaim := { program := "ythooakfbpoopaaa", sum := "600e47e929de4cd60677512c8c0f1b374103a9476ce557adb7a516d01279e1ec", func := "loop.example/savingsclub/laws.FnRunBook", spec := "fnRunBook", unfollowed := true, recurses := true, apart := false }
def FnRunBookSaid : Prop := fnRunBookRow.holds Try.pinned (OpenSpec.ofChange fnRunBookSpec)

/-- ITS FALSE NEIGHBOUR: 'it returns false'. Refute it at one input. -/
def fnRunBookWrong : ChangeSpec := { name := "fnRunBook", fn := fun _ => fun
  | [d] => { results := [.lit (.bool false)], args := [d] }
  | _ => none }
def FnRunBookWrongFalsely : Prop := fnRunBookRow.holds Try.pinned (OpenSpec.ofChange fnRunBookWrong)

/-- 'laws.FnRunBookBox': WHATEVER THE INPUT: true; the input reads as it did. -/
def fnRunBookBoxSpec : ChangeSpec := { name := "fnRunBookBox", fn := fun _ => fun
  | [d] => { results := [.lit (.bool true)], args := [d] }
  | _ => none }
def fnRunBookBoxRow : OpenClaim := { program := "ythooakfbpoopaaa", sum := "600e47e929de4cd60677512c8c0f1b374103a9476ce557adb7a516d01279e1ec", func := "loop.example/savingsclub/laws.FnRunBookBox", spec := "fnRunBookBox", unfollowed := true, recurses := true, apart := false }
def FnRunBookBoxSaid : Prop := fnRunBookBoxRow.holds Try.pinned (OpenSpec.ofChange fnRunBookBoxSpec)

/-- ITS FALSE NEIGHBOUR: 'it returns false'. Refute it at one input. -/
def fnRunBookBoxWrong : ChangeSpec := { name := "fnRunBookBox", fn := fun _ => fun
  | [d] => { results := [.lit (.bool false)], args := [d] }
  | _ => none }
def FnRunBookBoxWrongFalsely : Prop := fnRunBookBoxRow.holds Try.pinned (OpenSpec.ofChange fnRunBookBoxWrong)

/-- 'laws.FnEntriesOfParts': WHATEVER THE INPUT: true; the input reads as it did. -/
def fnEntriesOfPartsSpec : ChangeSpec := { name := "fnEntriesOfParts", fn := fun _ => fun
  | [d] => { results := [.lit (.bool true)], args := [d] }
  | _ => none }
def fnEntriesOfPartsRow : OpenClaim := { program := "ythooakfbpoopaaa", sum := "600e47e929de4cd60677512c8c0f1b374103a9476ce557adb7a516d01279e1ec", func := "loop.example/savingsclub/laws.FnEntriesOfParts", spec := "fnEntriesOfParts", unfollowed := true, recurses := true, apart := false }
def FnEntriesOfPartsSaid : Prop := fnEntriesOfPartsRow.holds Try.pinned (OpenSpec.ofChange fnEntriesOfPartsSpec)

/-- ITS FALSE NEIGHBOUR: 'it returns false'. Refute it at one input. -/
def fnEntriesOfPartsWrong : ChangeSpec := { name := "fnEntriesOfParts", fn := fun _ => fun
  | [d] => { results := [.lit (.bool false)], args := [d] }
  | _ => none }
def FnEntriesOfPartsWrongFalsely : Prop := fnEntriesOfPartsRow.holds Try.pinned (OpenSpec.ofChange fnEntriesOfPartsWrong)

/-- 'laws.FnEntriesOf': WHATEVER THE INPUT: true; the input reads as it did. -/
def fnEntriesOfSpec : ChangeSpec := { name := "fnEntriesOf", fn := fun _ => fun
  | [d] => { results := [.lit (.bool true)], args := [d] }
  | _ => none }
def fnEntriesOfRow : OpenClaim := { program := "ythooakfbpoopaaa", sum := "600e47e929de4cd60677512c8c0f1b374103a9476ce557adb7a516d01279e1ec", func := "loop.example/savingsclub/laws.FnEntriesOf", spec := "fnEntriesOf", unfollowed := true, recurses := true, apart := false }
def FnEntriesOfSaid : Prop := fnEntriesOfRow.holds Try.pinned (OpenSpec.ofChange fnEntriesOfSpec)

/-- ITS FALSE NEIGHBOUR: 'it returns false'. Refute it at one input. -/
def fnEntriesOfWrong : ChangeSpec := { name := "fnEntriesOf", fn := fun _ => fun
  | [d] => { results := [.lit (.bool false)], args := [d] }
  | _ => none }
def FnEntriesOfWrongFalsely : Prop := fnEntriesOfRow.holds Try.pinned (OpenSpec.ofChange fnEntriesOfWrong)

/- THE SECOND FORM. 'bulk': how many values and letters a reading holds, each counted each time it is reached (what is shared counts as often as it is met; a slice's spare places count too). A statement '..UptoSaid' is the law's where the arguments, and the package variables that the reading takes, are together of bulk at most 1048576: NARROWER than '..Said'. Prove '..Said' where nothing that the law and all that it calls make is longer than what came in: it says more and counts as full. Else prove '..UptoSaid'. A law counts once. -/
mutual
def uptoBulk {H : Type} : DataW H → Nat
  | .lit (.string bytes) => bytes.length + 1
  | .lit _ => 1
  | .nil => 1
  | .ptr d => uptoBulk d + 1
  | .slice elems spare => uptoBulkAll elems + uptoBulkAll spare + 1
  | .agg parts => uptoBulkAll parts + 1
  | .iface _ d => uptoBulk d + 1
  | .map entries => uptoBulkEntries entries + 1
  | .held _ => 1
def uptoBulkAll {H : Type} : List (DataW H) → Nat
  | [] => 0
  | d :: r => uptoBulk d + uptoBulkAll r
def uptoBulkEntries {H : Type} : List (Lit × DataW H) → Nat
  | [] => 0
  | x :: r => uptoBulkEntry x + uptoBulkEntries r
def uptoBulkEntry {H : Type} : Lit × DataW H → Nat
  | (.string bytes, d) => bytes.length + uptoBulk d + 1
  | (_, d) => uptoBulk d + 1
 end
def uptoSmall : (H : Type) → List (DataW H) → Bool := fun _ ds => decide (uptoBulkAll ds ≤ 1048576)
def OpenSpec.upto (s : _root_.Go.ChangeSpec) : _root_.Go.OpenSpec := { _root_.Go.OpenSpec.ofChange s with cond := some uptoSmall }

/-- 'laws.FnApplyEvent', WHERE WHAT IT READS IS OF BULK AT MOST 1048576: true; the input reads as it did. -/
def fnApplyEventUptoRow : OpenClaim := { program := "ythooakfbpoopaaa", sum := "600e47e929de4cd60677512c8c0f1b374103a9476ce557adb7a516d01279e1ec", func := "loop.example/savingsclub/laws.FnApplyEvent", spec := "fnApplyEvent", unfollowed := true, recurses := true, apart := false, narrowed := true }
def FnApplyEventUptoSaid : Prop := fnApplyEventUptoRow.holds Try.pinned (OpenSpec.upto fnApplyEventSpec)

/-- 'laws.FnApplyEventBox', WHERE WHAT IT READS IS OF BULK AT MOST 1048576: true; the input reads as it did. -/
def fnApplyEventBoxUptoRow : OpenClaim := { program := "ythooakfbpoopaaa", sum := "600e47e929de4cd60677512c8c0f1b374103a9476ce557adb7a516d01279e1ec", func := "loop.example/savingsclub/laws.FnApplyEventBox", spec := "fnApplyEventBox", unfollowed := true, recurses := true, apart := false, narrowed := true }
def FnApplyEventBoxUptoSaid : Prop := fnApplyEventBoxUptoRow.holds Try.pinned (OpenSpec.upto fnApplyEventBoxSpec)

/-- 'laws.FnApplyEventLend', WHERE WHAT IT READS IS OF BULK AT MOST 1048576: true; the input reads as it did. -/
def fnApplyEventLendUptoRow : OpenClaim := { program := "ythooakfbpoopaaa", sum := "600e47e929de4cd60677512c8c0f1b374103a9476ce557adb7a516d01279e1ec", func := "loop.example/savingsclub/laws.FnApplyEventLend", spec := "fnApplyEventLend", unfollowed := true, recurses := true, apart := false, narrowed := true }
def FnApplyEventLendUptoSaid : Prop := fnApplyEventLendUptoRow.holds Try.pinned (OpenSpec.upto fnApplyEventLendSpec)

/-- 'laws.FnApplyEventShare', WHERE WHAT IT READS IS OF BULK AT MOST 1048576: true; the input reads as it did. -/
def fnApplyEventShareUptoRow : OpenClaim := { program := "ythooakfbpoopaaa", sum := "600e47e929de4cd60677512c8c0f1b374103a9476ce557adb7a516d01279e1ec", func := "loop.example/savingsclub/laws.FnApplyEventShare", spec := "fnApplyEventShare", unfollowed := true, recurses := true, apart := false, narrowed := true }
def FnApplyEventShareUptoSaid : Prop := fnApplyEventShareUptoRow.holds Try.pinned (OpenSpec.upto fnApplyEventShareSpec)

/-- 'laws.FnApplyEventFail', WHERE WHAT IT READS IS OF BULK AT MOST 1048576: true; the input reads as it did. -/
def fnApplyEventFailUptoRow : OpenClaim := { program := "ythooakfbpoopaaa", sum := "600e47e929de4cd60677512c8c0f1b374103a9476ce557adb7a516d01279e1ec", func := "loop.example/savingsclub/laws.FnApplyEventFail", spec := "fnApplyEventFail", unfollowed := true, recurses := true, apart := false, narrowed := true }
def FnApplyEventFailUptoSaid : Prop := fnApplyEventFailUptoRow.holds Try.pinned (OpenSpec.upto fnApplyEventFailSpec)

/-- 'laws.FnRunBook', WHERE WHAT IT READS IS OF BULK AT MOST 1048576: true; the input reads as it did. -/
def fnRunBookUptoRow : OpenClaim := { program := "ythooakfbpoopaaa", sum := "600e47e929de4cd60677512c8c0f1b374103a9476ce557adb7a516d01279e1ec", func := "loop.example/savingsclub/laws.FnRunBook", spec := "fnRunBook", unfollowed := true, recurses := true, apart := false, narrowed := true }
def FnRunBookUptoSaid : Prop := fnRunBookUptoRow.holds Try.pinned (OpenSpec.upto fnRunBookSpec)

/-- 'laws.FnRunBookBox', WHERE WHAT IT READS IS OF BULK AT MOST 1048576: true; the input reads as it did. -/
def fnRunBookBoxUptoRow : OpenClaim := { program := "ythooakfbpoopaaa", sum := "600e47e929de4cd60677512c8c0f1b374103a9476ce557adb7a516d01279e1ec", func := "loop.example/savingsclub/laws.FnRunBookBox", spec := "fnRunBookBox", unfollowed := true, recurses := true, apart := false, narrowed := true }
def FnRunBookBoxUptoSaid : Prop := fnRunBookBoxUptoRow.holds Try.pinned (OpenSpec.upto fnRunBookBoxSpec)

/-- 'laws.FnEntriesOfParts', WHERE WHAT IT READS IS OF BULK AT MOST 1048576: true; the input reads as it did. -/
def fnEntriesOfPartsUptoRow : OpenClaim := { program := "ythooakfbpoopaaa", sum := "600e47e929de4cd60677512c8c0f1b374103a9476ce557adb7a516d01279e1ec", func := "loop.example/savingsclub/laws.FnEntriesOfParts", spec := "fnEntriesOfParts", unfollowed := true, recurses := true, apart := false, narrowed := true }
def FnEntriesOfPartsUptoSaid : Prop := fnEntriesOfPartsUptoRow.holds Try.pinned (OpenSpec.upto fnEntriesOfPartsSpec)

/-- 'laws.FnEntriesOf', WHERE WHAT IT READS IS OF BULK AT MOST 1048576: true; the input reads as it did. -/
def fnEntriesOfUptoRow : OpenClaim := { program := "ythooakfbpoopaaa", sum := "600e47e929de4cd60677512c8c0f1b374103a9476ce557adb7a516d01279e1ec", func := "loop.example/savingsclub/laws.FnEntriesOf", spec := "fnEntriesOf", unfollowed := true, recurses := true, apart := false, narrowed := true }
def FnEntriesOfUptoSaid : Prop := fnEntriesOfUptoRow.holds Try.pinned (OpenSpec.upto fnEntriesOfSpec)

end Rows
end Go.Proofs.Ythooakfbpoopaaa
