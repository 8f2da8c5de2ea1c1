-- printed by pp.py, a program of this session's own, out of the translation; not the kit's print
import Derived.Test.YtifohlgdkdcpeaaPFnExactMostLoanx10
namespace Go.Proofs.Ytifohlgdkdcpeaa.PFnExactMostLoan
open Go.RowKit Go.Proofs.YtifohlgdkdcpeaaW.PrintWords Go.Proofs.YtifohlgdkdcpeaaW.PrintLast
set_option linter.unusedVariables false
def W47 (x : S47) : Prop := (Lit.int .i64 x.f0).wf = true ∧ (Lit.int .i64 x.f1).wf = true ∧ (x.f2.length ≤ maxLen ∧ ∀ y ∈ x.f2, (Lit.int .i64 y).wf = true)
/-- THE ONE PURE STATEMENT of laws_FnExactMostLoan: yours. -/
def laws_FnExactMostLoan.Pure : Prop := ∀ (l0 : List Int) (l1 : List (S47)) (a2_0 : Int) (a2_1 : Int) (l2_2 : List Int), (l0.length ≤ maxLen ∧ ∀ y ∈ l0, (Lit.int .i64 y).wf = true) → (l1.length ≤ maxLen ∧ ∀ y ∈ l1, W47 y) → W47 ⟨a2_0, a2_1, l2_2⟩ → ∃ k, laws_FnExactMostLoan.f k l0 l1 a2_0 a2_1 l2_2 = some true
end Go.Proofs.Ytifohlgdkdcpeaa.PFnExactMostLoan
