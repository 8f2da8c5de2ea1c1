/-
  NARROWER THAN 'FOR EVERY INPUT', by the rows' own cells (each row's printed sentence says how): FnExactLeastOpeners: loops.
  DERIVED. THE GIVEN ROWS OF THIS SEAT. 5 by the template 'for every input the law returns true; each argument reads behind the call as it read before'; 0 by the template 'total and deterministic' (their statements: YtifohlgdkdcpeaaTotals.lean).
  GIVEN WITH THE SEED: the statements are not yours to turn. If you find one false, say at which input.
  Laid BY PROGRAM, IN A SANDBOX (cutbox-rows.mjs): the forced cells as the released guide's own fill.sh prints them over the translation 83c7346489729911… (all of the seat's roots in one cut). By AI agents, Wed Nov 11 2026. No macro, syntax, notation, axiom, sorry.
-/
import Derived.Test.YtifohlgdkdcpeaaChecked
import GoSem.Claim
import GoSem.ClaimJoined
import GoSem.ClaimMapViews
import Derived.JoinedTies
import Derived.KernelRfl
namespace Go.Proofs.Ytifohlgdkdcpeaa
/- THE CELL 'sum', in the pinned program and in every row, IS THE sha256 OF THE DUMP (.gsa) THAT YtifohlgdkdcpeaaProg.lean LOADS. Nothing in Lean hashes anything: it is a label: what it is worth is what the hold of that sum in a sandbox is worth. -/
noncomputable def Try.pinned : Pinned := { name := "ytifohlgdkdcpeaa", sum := "83c73464897299110f092b786a4cd061c8714cb4a42e0e837c22b15633c92d7a", checked := Try.checked }
namespace Rows
def none {H : Type} : Left H := { results := [], args := [] }

/-- 'laws.FnBidNetsNone': WHATEVER THE INPUT: true; the input reads as it did. -/
def fnBidNetsNoneSpec : ChangeSpec := { name := "fnBidNetsNone", fn := fun _ => fun
  | [d] => { results := [.lit (.bool true)], args := [d] }
  | _ => none }
def fnBidNetsNoneRow : OpenClaim := { program := "ytifohlgdkdcpeaa", sum := "83c73464897299110f092b786a4cd061c8714cb4a42e0e837c22b15633c92d7a", func := "loop.example/savingsclub/laws.FnBidNetsNone", spec := "fnBidNetsNone", apart := false }
def FnBidNetsNoneSaid : Prop := fnBidNetsNoneRow.holds Try.pinned (OpenSpec.ofChange fnBidNetsNoneSpec)

/-- ITS FALSE NEIGHBOUR: 'it returns false'. Refute it at one input. -/
def fnBidNetsNoneWrong : ChangeSpec := { name := "fnBidNetsNone", fn := fun _ => fun
  | [d] => { results := [.lit (.bool false)], args := [d] }
  | _ => none }
def FnBidNetsNoneWrongFalsely : Prop := fnBidNetsNoneRow.holds Try.pinned (OpenSpec.ofChange fnBidNetsNoneWrong)

/-- 'laws.FnExactMergeLoans': WHATEVER THE INPUT: true; the input reads as it did. -/
def fnExactMergeLoansSpec : ChangeSpec := { name := "fnExactMergeLoans", fn := fun _ => fun
  | [d1, d2] => { results := [.lit (.bool true)], args := [d1, d2] }
  | _ => none }
def fnExactMergeLoansRow : OpenClaim := { program := "ytifohlgdkdcpeaa", sum := "83c73464897299110f092b786a4cd061c8714cb4a42e0e837c22b15633c92d7a", func := "loop.example/savingsclub/laws.FnExactMergeLoans", spec := "fnExactMergeLoans", unfollowed := true, recurses := true, apart := false }
def FnExactMergeLoansSaid : Prop := fnExactMergeLoansRow.holds Try.pinned (OpenSpec.ofChange fnExactMergeLoansSpec)

/-- ITS FALSE NEIGHBOUR: 'it returns false'. Refute it at one input. -/
def fnExactMergeLoansWrong : ChangeSpec := { name := "fnExactMergeLoans", fn := fun _ => fun
  | [d1, d2] => { results := [.lit (.bool false)], args := [d1, d2] }
  | _ => none }
def FnExactMergeLoansWrongFalsely : Prop := fnExactMergeLoansRow.holds Try.pinned (OpenSpec.ofChange fnExactMergeLoansWrong)

/-- 'laws.FnMostLoan': WHATEVER THE INPUT: true; the input reads as it did. -/
def fnMostLoanSpec : ChangeSpec := { name := "fnMostLoan", fn := fun _ => fun
  | [d] => { results := [.lit (.bool true)], args := [d] }
  | _ => none }
def fnMostLoanRow : OpenClaim := { program := "ytifohlgdkdcpeaa", sum := "83c73464897299110f092b786a4cd061c8714cb4a42e0e837c22b15633c92d7a", func := "loop.example/savingsclub/laws.FnMostLoan", spec := "fnMostLoan", apart := false }
def FnMostLoanSaid : Prop := fnMostLoanRow.holds Try.pinned (OpenSpec.ofChange fnMostLoanSpec)

/-- ITS FALSE NEIGHBOUR: 'it returns false'. Refute it at one input. -/
def fnMostLoanWrong : ChangeSpec := { name := "fnMostLoan", fn := fun _ => fun
  | [d] => { results := [.lit (.bool false)], args := [d] }
  | _ => none }
def FnMostLoanWrongFalsely : Prop := fnMostLoanRow.holds Try.pinned (OpenSpec.ofChange fnMostLoanWrong)

/-- 'laws.FnExactMostLoan': WHATEVER THE INPUT: true; the input reads as it did. -/
def fnExactMostLoanSpec : ChangeSpec := { name := "fnExactMostLoan", fn := fun _ => fun
  | [d1, d2, d3] => { results := [.lit (.bool true)], args := [d1, d2, d3] }
  | _ => none }
def fnExactMostLoanRow : OpenClaim := { program := "ytifohlgdkdcpeaa", sum := "83c73464897299110f092b786a4cd061c8714cb4a42e0e837c22b15633c92d7a", func := "loop.example/savingsclub/laws.FnExactMostLoan", spec := "fnExactMostLoan", apart := false }
def FnExactMostLoanSaid : Prop := fnExactMostLoanRow.holds Try.pinned (OpenSpec.ofChange fnExactMostLoanSpec)

/-- ITS FALSE NEIGHBOUR: 'it returns false'. Refute it at one input. -/
def fnExactMostLoanWrong : ChangeSpec := { name := "fnExactMostLoan", fn := fun _ => fun
  | [d1, d2, d3] => { results := [.lit (.bool false)], args := [d1, d2, d3] }
  | _ => none }
def FnExactMostLoanWrongFalsely : Prop := fnExactMostLoanRow.holds Try.pinned (OpenSpec.ofChange fnExactMostLoanWrong)

/-- 'laws.FnExactLeastOpeners': WHATEVER THE INPUT: true; the input reads as it did. -/
def fnExactLeastOpenersSpec : ChangeSpec := { name := "fnExactLeastOpeners", fn := fun _ => fun
  | [d] => { results := [.lit (.bool true)], args := [d] }
  | _ => none }
def fnExactLeastOpenersRow : OpenClaim := { program := "ytifohlgdkdcpeaa", sum := "83c73464897299110f092b786a4cd061c8714cb4a42e0e837c22b15633c92d7a", func := "loop.example/savingsclub/laws.FnExactLeastOpeners", spec := "fnExactLeastOpeners", recurses := true, loops := true, apart := false }
def FnExactLeastOpenersSaid : Prop := fnExactLeastOpenersRow.holds Try.pinned (OpenSpec.ofChange fnExactLeastOpenersSpec)

/-- ITS FALSE NEIGHBOUR: 'it returns false'. Refute it at one input. -/
def fnExactLeastOpenersWrong : ChangeSpec := { name := "fnExactLeastOpeners", fn := fun _ => fun
  | [d] => { results := [.lit (.bool false)], args := [d] }
  | _ => none }
def FnExactLeastOpenersWrongFalsely : Prop := fnExactLeastOpenersRow.holds Try.pinned (OpenSpec.ofChange fnExactLeastOpenersWrong)

/- THE SECOND FORM. 'bulk': how many values and letters a reading holds, each counted each time it is reached (what is shared counts as often as it is met; a slice's spare places count too). A statement '..UptoSaid' is the law's where the arguments, and the package variables that the reading takes, are together of bulk at most 1048576: NARROWER than '..Said'. Prove '..Said' where nothing that the law and all that it calls make is longer than what came in: it says more and counts as full. Else prove '..UptoSaid'. A law counts once. -/
mutual
def uptoBulk {H : Type} : DataW H → Nat
  | .lit (.string bytes) => bytes.length + 1
  | .lit _ => 1
  | .nil => 1
  | .ptr d => uptoBulk d + 1
  | .slice elems spare => uptoBulkAll elems + uptoBulkAll spare + 1
  | .agg parts => uptoBulkAll parts + 1
  | .iface _ d => uptoBulk d + 1
  | .map entries => uptoBulkEntries entries + 1
  | .held _ => 1
def uptoBulkAll {H : Type} : List (DataW H) → Nat
  | [] => 0
  | d :: r => uptoBulk d + uptoBulkAll r
def uptoBulkEntries {H : Type} : List (Lit × DataW H) → Nat
  | [] => 0
  | x :: r => uptoBulkEntry x + uptoBulkEntries r
def uptoBulkEntry {H : Type} : Lit × DataW H → Nat
  | (.string bytes, d) => bytes.length + uptoBulk d + 1
  | (_, d) => uptoBulk d + 1
 end
def uptoSmall : (H : Type) → List (DataW H) → Bool := fun _ ds => decide (uptoBulkAll ds ≤ 1048576)
def OpenSpec.upto (s : _root_.Go.ChangeSpec) : _root_.Go.OpenSpec := { _root_.Go.OpenSpec.ofChange s with cond := some uptoSmall }

/-- 'laws.FnBidNetsNone', WHERE WHAT IT READS IS OF BULK AT MOST 1048576: true; the input reads as it did. -/
def fnBidNetsNoneUptoRow : OpenClaim := { program := "ytifohlgdkdcpeaa", sum := "83c73464897299110f092b786a4cd061c8714cb4a42e0e837c22b15633c92d7a", func := "loop.example/savingsclub/laws.FnBidNetsNone", spec := "fnBidNetsNone", apart := false, narrowed := true }
def FnBidNetsNoneUptoSaid : Prop := fnBidNetsNoneUptoRow.holds Try.pinned (OpenSpec.upto fnBidNetsNoneSpec)

/-- 'laws.FnExactMergeLoans', WHERE WHAT IT READS IS OF BULK AT MOST 1048576: true; the input reads as it did. -/
def fnExactMergeLoansUptoRow : OpenClaim := { program := "ytifohlgdkdcpeaa", sum := "83c73464897299110f092b786a4cd061c8714cb4a42e0e837c22b15633c92d7a", func := "loop.example/savingsclub/laws.FnExactMergeLoans", spec := "fnExactMergeLoans", unfollowed := true, recurses := true, apart := false, narrowed := true }
def FnExactMergeLoansUptoSaid : Prop := fnExactMergeLoansUptoRow.holds Try.pinned (OpenSpec.upto fnExactMergeLoansSpec)

/-- 'laws.FnMostLoan', WHERE WHAT IT READS IS OF BULK AT MOST 1048576: true; the input reads as it did. -/
def fnMostLoanUptoRow : OpenClaim := { program := "ytifohlgdkdcpeaa", sum := "83c73464897299110f092b786a4cd061c8714cb4a42e0e837c22b15633c92d7a", func := "loop.example/savingsclub/laws.FnMostLoan", spec := "fnMostLoan", apart := false, narrowed := true }
def FnMostLoanUptoSaid : Prop := fnMostLoanUptoRow.holds Try.pinned (OpenSpec.upto fnMostLoanSpec)

/-- 'laws.FnExactMostLoan', WHERE WHAT IT READS IS OF BULK AT MOST 1048576: true; the input reads as it did. -/
def fnExactMostLoanUptoRow : OpenClaim := { program := "ytifohlgdkdcpeaa", sum := "83c73464897299110f092b786a4cd061c8714cb4a42e0e837c22b15633c92d7a", func := "loop.example/savingsclub/laws.FnExactMostLoan", spec := "fnExactMostLoan", apart := false, narrowed := true }
def FnExactMostLoanUptoSaid : Prop := fnExactMostLoanUptoRow.holds Try.pinned (OpenSpec.upto fnExactMostLoanSpec)

/-- 'laws.FnExactLeastOpeners', WHERE WHAT IT READS IS OF BULK AT MOST 1048576: true; the input reads as it did. -/
def fnExactLeastOpenersUptoRow : OpenClaim := { program := "ytifohlgdkdcpeaa", sum := "83c73464897299110f092b786a4cd061c8714cb4a42e0e837c22b15633c92d7a", func := "loop.example/savingsclub/laws.FnExactLeastOpeners", spec := "fnExactLeastOpeners", recurses := true, loops := true, apart := false, narrowed := true }
def FnExactLeastOpenersUptoSaid : Prop := fnExactLeastOpenersUptoRow.holds Try.pinned (OpenSpec.upto fnExactLeastOpenersSpec)

end Rows
end Go.Proofs.Ytifohlgdkdcpeaa
