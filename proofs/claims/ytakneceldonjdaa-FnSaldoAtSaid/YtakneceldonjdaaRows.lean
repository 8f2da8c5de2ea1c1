/-
  No cell of these rows narrows 'for every input' (looked for: loops, veiled, ifaces, maps, wideKeys, modest, calm, conditions, laid).
  DERIVED. THE GIVEN ROWS OF THIS SEAT. 12 by the template 'for every input the law returns true; each argument reads behind the call as it read before'; 0 by the template 'total and deterministic' (their statements: YtakneceldonjdaaTotals.lean).
  GIVEN WITH THE SEED: the statements are not yours to turn. If you find one false, say at which input.
  Laid BY PROGRAM, IN A SANDBOX (cutbox-rows.mjs): the forced cells as the released guide's own fill.sh prints them over the translation 3e065ee5c0e73354… (all of the seat's roots in one cut). By AI agents, Wed Nov 11 2026. No macro, syntax, notation, axiom, sorry.
-/
import Derived.Test.YtakneceldonjdaaChecked
import GoSem.Claim
import GoSem.ClaimJoined
import GoSem.ClaimMapViews
import Derived.JoinedTies
import Derived.KernelRfl
namespace Go.Proofs.Ytakneceldonjdaa
/- THE CELL 'sum', in the pinned program and in every row, IS THE sha256 OF THE DUMP (.gsa) THAT YtakneceldonjdaaProg.lean LOADS. Nothing in Lean hashes anything: it is a label: what it is worth is what the hold of that sum in a sandbox is worth. -/
noncomputable def Try.pinned : Pinned := { name := "ytakneceldonjdaa", sum := "3e065ee5c0e733548cd2d875558c1a931b216a54e059e3d1ae76ba4095228628", checked := Try.checked }
namespace Rows
def none {H : Type} : Left H := { results := [], args := [] }

/-- 'laws.FnSaldoAt': WHATEVER THE INPUT: true; the input reads as it did. -/
def fnSaldoAtSpec : ChangeSpec := { name := "fnSaldoAt", fn := fun _ => fun
  | [d] => { results := [.lit (.bool true)], args := [d] }
  | _ => none }
def fnSaldoAtRow : OpenClaim := { program := "ytakneceldonjdaa", sum := "3e065ee5c0e733548cd2d875558c1a931b216a54e059e3d1ae76ba4095228628", func := "loop.example/savingsclub/laws.FnSaldoAt", spec := "fnSaldoAt", unfollowed := true, recurses := true, apart := false }
def FnSaldoAtSaid : Prop := fnSaldoAtRow.holds Try.pinned (OpenSpec.ofChange fnSaldoAtSpec)

/-- ITS FALSE NEIGHBOUR: 'it returns false'. Refute it at one input. -/
def fnSaldoAtWrong : ChangeSpec := { name := "fnSaldoAt", fn := fun _ => fun
  | [d] => { results := [.lit (.bool false)], args := [d] }
  | _ => none }
def FnSaldoAtWrongFalsely : Prop := fnSaldoAtRow.holds Try.pinned (OpenSpec.ofChange fnSaldoAtWrong)

/-- 'laws.FnWrongShare': WHATEVER THE INPUT: true; the input reads as it did. -/
def fnWrongShareSpec : ChangeSpec := { name := "fnWrongShare", fn := fun _ => fun
  | [d] => { results := [.lit (.bool true)], args := [d] }
  | _ => none }
def fnWrongShareRow : OpenClaim := { program := "ytakneceldonjdaa", sum := "3e065ee5c0e733548cd2d875558c1a931b216a54e059e3d1ae76ba4095228628", func := "loop.example/savingsclub/laws.FnWrongShare", spec := "fnWrongShare", unfollowed := true, recurses := true, apart := false }
def FnWrongShareSaid : Prop := fnWrongShareRow.holds Try.pinned (OpenSpec.ofChange fnWrongShareSpec)

/-- ITS FALSE NEIGHBOUR: 'it returns false'. Refute it at one input. -/
def fnWrongShareWrong : ChangeSpec := { name := "fnWrongShare", fn := fun _ => fun
  | [d] => { results := [.lit (.bool false)], args := [d] }
  | _ => none }
def FnWrongShareWrongFalsely : Prop := fnWrongShareRow.holds Try.pinned (OpenSpec.ofChange fnWrongShareWrong)

/-- 'laws.FnCascade': WHATEVER THE INPUT: true; the input reads as it did. -/
def fnCascadeSpec : ChangeSpec := { name := "fnCascade", fn := fun _ => fun
  | [d] => { results := [.lit (.bool true)], args := [d] }
  | _ => none }
def fnCascadeRow : OpenClaim := { program := "ytakneceldonjdaa", sum := "3e065ee5c0e733548cd2d875558c1a931b216a54e059e3d1ae76ba4095228628", func := "loop.example/savingsclub/laws.FnCascade", spec := "fnCascade", apart := false }
def FnCascadeSaid : Prop := fnCascadeRow.holds Try.pinned (OpenSpec.ofChange fnCascadeSpec)

/-- ITS FALSE NEIGHBOUR: 'it returns false'. Refute it at one input. -/
def fnCascadeWrong : ChangeSpec := { name := "fnCascade", fn := fun _ => fun
  | [d] => { results := [.lit (.bool false)], args := [d] }
  | _ => none }
def FnCascadeWrongFalsely : Prop := fnCascadeRow.holds Try.pinned (OpenSpec.ofChange fnCascadeWrong)

/-- 'laws.FnSafeLoansCascade': WHATEVER THE INPUT: true; the input reads as it did. -/
def fnSafeLoansCascadeSpec : ChangeSpec := { name := "fnSafeLoansCascade", fn := fun _ => fun
  | [d] => { results := [.lit (.bool true)], args := [d] }
  | _ => none }
def fnSafeLoansCascadeRow : OpenClaim := { program := "ytakneceldonjdaa", sum := "3e065ee5c0e733548cd2d875558c1a931b216a54e059e3d1ae76ba4095228628", func := "loop.example/savingsclub/laws.FnSafeLoansCascade", spec := "fnSafeLoansCascade", apart := false }
def FnSafeLoansCascadeSaid : Prop := fnSafeLoansCascadeRow.holds Try.pinned (OpenSpec.ofChange fnSafeLoansCascadeSpec)

/-- ITS FALSE NEIGHBOUR: 'it returns false'. Refute it at one input. -/
def fnSafeLoansCascadeWrong : ChangeSpec := { name := "fnSafeLoansCascade", fn := fun _ => fun
  | [d] => { results := [.lit (.bool false)], args := [d] }
  | _ => none }
def FnSafeLoansCascadeWrongFalsely : Prop := fnSafeLoansCascadeRow.holds Try.pinned (OpenSpec.ofChange fnSafeLoansCascadeWrong)

/-- 'laws.FnByDay': WHATEVER THE INPUT: true; the input reads as it did. -/
def fnByDaySpec : ChangeSpec := { name := "fnByDay", fn := fun _ => fun
  | [d] => { results := [.lit (.bool true)], args := [d] }
  | _ => none }
def fnByDayRow : OpenClaim := { program := "ytakneceldonjdaa", sum := "3e065ee5c0e733548cd2d875558c1a931b216a54e059e3d1ae76ba4095228628", func := "loop.example/savingsclub/laws.FnByDay", spec := "fnByDay", unfollowed := true, recurses := true, apart := false }
def FnByDaySaid : Prop := fnByDayRow.holds Try.pinned (OpenSpec.ofChange fnByDaySpec)

/-- ITS FALSE NEIGHBOUR: 'it returns false'. Refute it at one input. -/
def fnByDayWrong : ChangeSpec := { name := "fnByDay", fn := fun _ => fun
  | [d] => { results := [.lit (.bool false)], args := [d] }
  | _ => none }
def FnByDayWrongFalsely : Prop := fnByDayRow.holds Try.pinned (OpenSpec.ofChange fnByDayWrong)

/-- 'laws.FnRepairBook': WHATEVER THE INPUT: true; the input reads as it did. -/
def fnRepairBookSpec : ChangeSpec := { name := "fnRepairBook", fn := fun _ => fun
  | [d] => { results := [.lit (.bool true)], args := [d] }
  | _ => none }
def fnRepairBookRow : OpenClaim := { program := "ytakneceldonjdaa", sum := "3e065ee5c0e733548cd2d875558c1a931b216a54e059e3d1ae76ba4095228628", func := "loop.example/savingsclub/laws.FnRepairBook", spec := "fnRepairBook", recurses := true, apart := false }
def FnRepairBookSaid : Prop := fnRepairBookRow.holds Try.pinned (OpenSpec.ofChange fnRepairBookSpec)

/-- ITS FALSE NEIGHBOUR: 'it returns false'. Refute it at one input. -/
def fnRepairBookWrong : ChangeSpec := { name := "fnRepairBook", fn := fun _ => fun
  | [d] => { results := [.lit (.bool false)], args := [d] }
  | _ => none }
def FnRepairBookWrongFalsely : Prop := fnRepairBookRow.holds Try.pinned (OpenSpec.ofChange fnRepairBookWrong)

/-- 'laws.FnExplainBooks': WHATEVER THE INPUT: true; the input reads as it did. -/
def fnExplainBooksSpec : ChangeSpec := { name := "fnExplainBooks", fn := fun _ => fun
  | [d] => { results := [.lit (.bool true)], args := [d] }
  | _ => none }
def fnExplainBooksRow : OpenClaim := { program := "ytakneceldonjdaa", sum := "3e065ee5c0e733548cd2d875558c1a931b216a54e059e3d1ae76ba4095228628", func := "loop.example/savingsclub/laws.FnExplainBooks", spec := "fnExplainBooks", unfollowed := true, recurses := true, apart := false }
def FnExplainBooksSaid : Prop := fnExplainBooksRow.holds Try.pinned (OpenSpec.ofChange fnExplainBooksSpec)

/-- ITS FALSE NEIGHBOUR: 'it returns false'. Refute it at one input. -/
def fnExplainBooksWrong : ChangeSpec := { name := "fnExplainBooks", fn := fun _ => fun
  | [d] => { results := [.lit (.bool false)], args := [d] }
  | _ => none }
def FnExplainBooksWrongFalsely : Prop := fnExplainBooksRow.holds Try.pinned (OpenSpec.ofChange fnExplainBooksWrong)

/-- 'laws.FnExplainBooksRepair': WHATEVER THE INPUT: true; the input reads as it did. -/
def fnExplainBooksRepairSpec : ChangeSpec := { name := "fnExplainBooksRepair", fn := fun _ => fun
  | [d] => { results := [.lit (.bool true)], args := [d] }
  | _ => none }
def fnExplainBooksRepairRow : OpenClaim := { program := "ytakneceldonjdaa", sum := "3e065ee5c0e733548cd2d875558c1a931b216a54e059e3d1ae76ba4095228628", func := "loop.example/savingsclub/laws.FnExplainBooksRepair", spec := "fnExplainBooksRepair", unfollowed := true, recurses := true, apart := false }
def FnExplainBooksRepairSaid : Prop := fnExplainBooksRepairRow.holds Try.pinned (OpenSpec.ofChange fnExplainBooksRepairSpec)

/-- ITS FALSE NEIGHBOUR: 'it returns false'. Refute it at one input. -/
def fnExplainBooksRepairWrong : ChangeSpec := { name := "fnExplainBooksRepair", fn := fun _ => fun
  | [d] => { results := [.lit (.bool false)], args := [d] }
  | _ => none }
def FnExplainBooksRepairWrongFalsely : Prop := fnExplainBooksRepairRow.holds Try.pinned (OpenSpec.ofChange fnExplainBooksRepairWrong)

/-- 'laws.FnValidClub': WHATEVER THE INPUT: true; the input reads as it did. -/
def fnValidClubSpec : ChangeSpec := { name := "fnValidClub", fn := fun _ => fun
  | [d] => { results := [.lit (.bool true)], args := [d] }
  | _ => none }
def fnValidClubRow : OpenClaim := { program := "ytakneceldonjdaa", sum := "3e065ee5c0e733548cd2d875558c1a931b216a54e059e3d1ae76ba4095228628", func := "loop.example/savingsclub/laws.FnValidClub", spec := "fnValidClub", apart := false }
def FnValidClubSaid : Prop := fnValidClubRow.holds Try.pinned (OpenSpec.ofChange fnValidClubSpec)

/-- ITS FALSE NEIGHBOUR: 'it returns false'. Refute it at one input. -/
def fnValidClubWrong : ChangeSpec := { name := "fnValidClub", fn := fun _ => fun
  | [d] => { results := [.lit (.bool false)], args := [d] }
  | _ => none }
def FnValidClubWrongFalsely : Prop := fnValidClubRow.holds Try.pinned (OpenSpec.ofChange fnValidClubWrong)

/-- 'laws.FnOwnOf': WHATEVER THE INPUT: true; the input reads as it did. -/
def fnOwnOfSpec : ChangeSpec := { name := "fnOwnOf", fn := fun _ => fun
  | [d] => { results := [.lit (.bool true)], args := [d] }
  | _ => none }
def fnOwnOfRow : OpenClaim := { program := "ytakneceldonjdaa", sum := "3e065ee5c0e733548cd2d875558c1a931b216a54e059e3d1ae76ba4095228628", func := "loop.example/savingsclub/laws.FnOwnOf", spec := "fnOwnOf", apart := false }
def FnOwnOfSaid : Prop := fnOwnOfRow.holds Try.pinned (OpenSpec.ofChange fnOwnOfSpec)

/-- ITS FALSE NEIGHBOUR: 'it returns false'. Refute it at one input. -/
def fnOwnOfWrong : ChangeSpec := { name := "fnOwnOf", fn := fun _ => fun
  | [d] => { results := [.lit (.bool false)], args := [d] }
  | _ => none }
def FnOwnOfWrongFalsely : Prop := fnOwnOfRow.holds Try.pinned (OpenSpec.ofChange fnOwnOfWrong)

/-- 'laws.FnByRisk': WHATEVER THE INPUT: true; the input reads as it did. -/
def fnByRiskSpec : ChangeSpec := { name := "fnByRisk", fn := fun _ => fun
  | [d] => { results := [.lit (.bool true)], args := [d] }
  | _ => none }
def fnByRiskRow : OpenClaim := { program := "ytakneceldonjdaa", sum := "3e065ee5c0e733548cd2d875558c1a931b216a54e059e3d1ae76ba4095228628", func := "loop.example/savingsclub/laws.FnByRisk", spec := "fnByRisk", unfollowed := true, recurses := true, apart := false }
def FnByRiskSaid : Prop := fnByRiskRow.holds Try.pinned (OpenSpec.ofChange fnByRiskSpec)

/-- ITS FALSE NEIGHBOUR: 'it returns false'. Refute it at one input. -/
def fnByRiskWrong : ChangeSpec := { name := "fnByRisk", fn := fun _ => fun
  | [d] => { results := [.lit (.bool false)], args := [d] }
  | _ => none }
def FnByRiskWrongFalsely : Prop := fnByRiskRow.holds Try.pinned (OpenSpec.ofChange fnByRiskWrong)

/-- 'laws.FnDealLock': WHATEVER THE INPUT: true; the input reads as it did. -/
def fnDealLockSpec : ChangeSpec := { name := "fnDealLock", fn := fun _ => fun
  | [d] => { results := [.lit (.bool true)], args := [d] }
  | _ => none }
def fnDealLockRow : OpenClaim := { program := "ytakneceldonjdaa", sum := "3e065ee5c0e733548cd2d875558c1a931b216a54e059e3d1ae76ba4095228628", func := "loop.example/savingsclub/laws.FnDealLock", spec := "fnDealLock", unfollowed := true, recurses := true, apart := false }
def FnDealLockSaid : Prop := fnDealLockRow.holds Try.pinned (OpenSpec.ofChange fnDealLockSpec)

/-- ITS FALSE NEIGHBOUR: 'it returns false'. Refute it at one input. -/
def fnDealLockWrong : ChangeSpec := { name := "fnDealLock", fn := fun _ => fun
  | [d] => { results := [.lit (.bool false)], args := [d] }
  | _ => none }
def FnDealLockWrongFalsely : Prop := fnDealLockRow.holds Try.pinned (OpenSpec.ofChange fnDealLockWrong)

/- THE SECOND FORM. 'bulk': how many values and letters a reading holds, each counted each time it is reached (what is shared counts as often as it is met; a slice's spare places count too). A statement '..UptoSaid' is the law's where the arguments, and the package variables that the reading takes, are together of bulk at most 1048576: NARROWER than '..Said'. Prove '..Said' where nothing that the law and all that it calls make is longer than what came in: it says more and counts as full. Else prove '..UptoSaid'. A law counts once. -/
mutual
def uptoBulk {H : Type} : DataW H → Nat
  | .lit (.string bytes) => bytes.length + 1
  | .lit _ => 1
  | .nil => 1
  | .ptr d => uptoBulk d + 1
  | .slice elems spare => uptoBulkAll elems + uptoBulkAll spare + 1
  | .agg parts => uptoBulkAll parts + 1
  | .iface _ d => uptoBulk d + 1
  | .map entries => uptoBulkEntries entries + 1
  | .held _ => 1
def uptoBulkAll {H : Type} : List (DataW H) → Nat
  | [] => 0
  | d :: r => uptoBulk d + uptoBulkAll r
def uptoBulkEntries {H : Type} : List (Lit × DataW H) → Nat
  | [] => 0
  | x :: r => uptoBulkEntry x + uptoBulkEntries r
def uptoBulkEntry {H : Type} : Lit × DataW H → Nat
  | (.string bytes, d) => bytes.length + uptoBulk d + 1
  | (_, d) => uptoBulk d + 1
 end
def uptoSmall : (H : Type) → List (DataW H) → Bool := fun _ ds => decide (uptoBulkAll ds ≤ 1048576)
def OpenSpec.upto (s : _root_.Go.ChangeSpec) : _root_.Go.OpenSpec := { _root_.Go.OpenSpec.ofChange s with cond := some uptoSmall }

/-- 'laws.FnSaldoAt', WHERE WHAT IT READS IS OF BULK AT MOST 1048576: true; the input reads as it did. -/
def fnSaldoAtUptoRow : OpenClaim := { program := "ytakneceldonjdaa", sum := "3e065ee5c0e733548cd2d875558c1a931b216a54e059e3d1ae76ba4095228628", func := "loop.example/savingsclub/laws.FnSaldoAt", spec := "fnSaldoAt", unfollowed := true, recurses := true, apart := false, narrowed := true }
def FnSaldoAtUptoSaid : Prop := fnSaldoAtUptoRow.holds Try.pinned (OpenSpec.upto fnSaldoAtSpec)

/-- 'laws.FnWrongShare', WHERE WHAT IT READS IS OF BULK AT MOST 1048576: true; the input reads as it did. -/
def fnWrongShareUptoRow : OpenClaim := { program := "ytakneceldonjdaa", sum := "3e065ee5c0e733548cd2d875558c1a931b216a54e059e3d1ae76ba4095228628", func := "loop.example/savingsclub/laws.FnWrongShare", spec := "fnWrongShare", unfollowed := true, recurses := true, apart := false, narrowed := true }
def FnWrongShareUptoSaid : Prop := fnWrongShareUptoRow.holds Try.pinned (OpenSpec.upto fnWrongShareSpec)

/-- 'laws.FnCascade', WHERE WHAT IT READS IS OF BULK AT MOST 1048576: true; the input reads as it did. -/
def fnCascadeUptoRow : OpenClaim := { program := "ytakneceldonjdaa", sum := "3e065ee5c0e733548cd2d875558c1a931b216a54e059e3d1ae76ba4095228628", func := "loop.example/savingsclub/laws.FnCascade", spec := "fnCascade", apart := false, narrowed := true }
def FnCascadeUptoSaid : Prop := fnCascadeUptoRow.holds Try.pinned (OpenSpec.upto fnCascadeSpec)

/-- 'laws.FnSafeLoansCascade', WHERE WHAT IT READS IS OF BULK AT MOST 1048576: true; the input reads as it did. -/
def fnSafeLoansCascadeUptoRow : OpenClaim := { program := "ytakneceldonjdaa", sum := "3e065ee5c0e733548cd2d875558c1a931b216a54e059e3d1ae76ba4095228628", func := "loop.example/savingsclub/laws.FnSafeLoansCascade", spec := "fnSafeLoansCascade", apart := false, narrowed := true }
def FnSafeLoansCascadeUptoSaid : Prop := fnSafeLoansCascadeUptoRow.holds Try.pinned (OpenSpec.upto fnSafeLoansCascadeSpec)

/-- 'laws.FnByDay', WHERE WHAT IT READS IS OF BULK AT MOST 1048576: true; the input reads as it did. -/
def fnByDayUptoRow : OpenClaim := { program := "ytakneceldonjdaa", sum := "3e065ee5c0e733548cd2d875558c1a931b216a54e059e3d1ae76ba4095228628", func := "loop.example/savingsclub/laws.FnByDay", spec := "fnByDay", unfollowed := true, recurses := true, apart := false, narrowed := true }
def FnByDayUptoSaid : Prop := fnByDayUptoRow.holds Try.pinned (OpenSpec.upto fnByDaySpec)

/-- 'laws.FnRepairBook', WHERE WHAT IT READS IS OF BULK AT MOST 1048576: true; the input reads as it did. -/
def fnRepairBookUptoRow : OpenClaim := { program := "ytakneceldonjdaa", sum := "3e065ee5c0e733548cd2d875558c1a931b216a54e059e3d1ae76ba4095228628", func := "loop.example/savingsclub/laws.FnRepairBook", spec := "fnRepairBook", recurses := true, apart := false, narrowed := true }
def FnRepairBookUptoSaid : Prop := fnRepairBookUptoRow.holds Try.pinned (OpenSpec.upto fnRepairBookSpec)

/-- 'laws.FnExplainBooks', WHERE WHAT IT READS IS OF BULK AT MOST 1048576: true; the input reads as it did. -/
def fnExplainBooksUptoRow : OpenClaim := { program := "ytakneceldonjdaa", sum := "3e065ee5c0e733548cd2d875558c1a931b216a54e059e3d1ae76ba4095228628", func := "loop.example/savingsclub/laws.FnExplainBooks", spec := "fnExplainBooks", unfollowed := true, recurses := true, apart := false, narrowed := true }
def FnExplainBooksUptoSaid : Prop := fnExplainBooksUptoRow.holds Try.pinned (OpenSpec.upto fnExplainBooksSpec)

/-- 'laws.FnExplainBooksRepair', WHERE WHAT IT READS IS OF BULK AT MOST 1048576: true; the input reads as it did. -/
def fnExplainBooksRepairUptoRow : OpenClaim := { program := "ytakneceldonjdaa", sum := "3e065ee5c0e733548cd2d875558c1a931b216a54e059e3d1ae76ba4095228628", func := "loop.example/savingsclub/laws.FnExplainBooksRepair", spec := "fnExplainBooksRepair", unfollowed := true, recurses := true, apart := false, narrowed := true }
def FnExplainBooksRepairUptoSaid : Prop := fnExplainBooksRepairUptoRow.holds Try.pinned (OpenSpec.upto fnExplainBooksRepairSpec)

/-- 'laws.FnValidClub', WHERE WHAT IT READS IS OF BULK AT MOST 1048576: true; the input reads as it did. -/
def fnValidClubUptoRow : OpenClaim := { program := "ytakneceldonjdaa", sum := "3e065ee5c0e733548cd2d875558c1a931b216a54e059e3d1ae76ba4095228628", func := "loop.example/savingsclub/laws.FnValidClub", spec := "fnValidClub", apart := false, narrowed := true }
def FnValidClubUptoSaid : Prop := fnValidClubUptoRow.holds Try.pinned (OpenSpec.upto fnValidClubSpec)

/-- 'laws.FnOwnOf', WHERE WHAT IT READS IS OF BULK AT MOST 1048576: true; the input reads as it did. -/
def fnOwnOfUptoRow : OpenClaim := { program := "ytakneceldonjdaa", sum := "3e065ee5c0e733548cd2d875558c1a931b216a54e059e3d1ae76ba4095228628", func := "loop.example/savingsclub/laws.FnOwnOf", spec := "fnOwnOf", apart := false, narrowed := true }
def FnOwnOfUptoSaid : Prop := fnOwnOfUptoRow.holds Try.pinned (OpenSpec.upto fnOwnOfSpec)

/-- 'laws.FnByRisk', WHERE WHAT IT READS IS OF BULK AT MOST 1048576: true; the input reads as it did. -/
def fnByRiskUptoRow : OpenClaim := { program := "ytakneceldonjdaa", sum := "3e065ee5c0e733548cd2d875558c1a931b216a54e059e3d1ae76ba4095228628", func := "loop.example/savingsclub/laws.FnByRisk", spec := "fnByRisk", unfollowed := true, recurses := true, apart := false, narrowed := true }
def FnByRiskUptoSaid : Prop := fnByRiskUptoRow.holds Try.pinned (OpenSpec.upto fnByRiskSpec)

/-- 'laws.FnDealLock', WHERE WHAT IT READS IS OF BULK AT MOST 1048576: true; the input reads as it did. -/
def fnDealLockUptoRow : OpenClaim := { program := "ytakneceldonjdaa", sum := "3e065ee5c0e733548cd2d875558c1a931b216a54e059e3d1ae76ba4095228628", func := "loop.example/savingsclub/laws.FnDealLock", spec := "fnDealLock", unfollowed := true, recurses := true, apart := false, narrowed := true }
def FnDealLockUptoSaid : Prop := fnDealLockUptoRow.holds Try.pinned (OpenSpec.upto fnDealLockSpec)

end Rows
end Go.Proofs.Ytakneceldonjdaa
