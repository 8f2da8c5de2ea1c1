/-
  NARROWER THAN 'FOR EVERY INPUT', by the rows' own cells (each row's printed sentence says how): FnExactOpenLock: loops.
  DERIVED. THE GIVEN ROWS OF THIS SEAT. 8 by the template 'for every input the law returns true; each argument reads behind the call as it read before'; 0 by the template 'total and deterministic' (their statements: YtggofaadaepdkaaTotals.lean).
  GIVEN WITH THE SEED: the statements are not yours to turn. If you find one false, say at which input.
  Laid BY PROGRAM, IN A SANDBOX (cutbox-rows.mjs): the forced cells as the released guide's own fill.sh prints them over the translation d5bcdb62ad98834f… (all of the seat's roots in one cut). By AI agents, Wed Nov 11 2026. No macro, syntax, notation, axiom, sorry.
-/
import Derived.Test.YtggofaadaepdkaaChecked
import GoSem.Claim
import GoSem.ClaimJoined
import GoSem.ClaimMapViews
import Derived.JoinedTies
import Derived.KernelRfl
namespace Go.Proofs.Ytggofaadaepdkaa
/- THE CELL 'sum', in the pinned program and in every row, IS THE sha256 OF THE DUMP (.gsa) THAT YtggofaadaepdkaaProg.lean LOADS. Nothing in Lean hashes anything: it is a label: what it is worth is what the hold of that sum in a sandbox is worth. -/
noncomputable def Try.pinned : Pinned := { name := "ytggofaadaepdkaa", sum := "d5bcdb62ad98834fb28ee92153659f21e756d9c41b33d0030bc690323dd0a270", checked := Try.checked }
namespace Rows
def none {H : Type} : Left H := { results := [], args := [] }

/-- 'laws.FnExactByDay': WHATEVER THE INPUT: true; the input reads as it did. -/
def fnExactByDaySpec : ChangeSpec := { name := "fnExactByDay", fn := fun _ => fun
  | [d] => { results := [.lit (.bool true)], args := [d] }
  | _ => none }
def fnExactByDayRow : OpenClaim := { program := "ytggofaadaepdkaa", sum := "d5bcdb62ad98834fb28ee92153659f21e756d9c41b33d0030bc690323dd0a270", func := "loop.example/savingsclub/laws.FnExactByDay", spec := "fnExactByDay", unfollowed := true, recurses := true, apart := false }
def FnExactByDaySaid : Prop := fnExactByDayRow.holds Try.pinned (OpenSpec.ofChange fnExactByDaySpec)

/-- ITS FALSE NEIGHBOUR: 'it returns false'. Refute it at one input. -/
def fnExactByDayWrong : ChangeSpec := { name := "fnExactByDay", fn := fun _ => fun
  | [d] => { results := [.lit (.bool false)], args := [d] }
  | _ => none }
def FnExactByDayWrongFalsely : Prop := fnExactByDayRow.holds Try.pinned (OpenSpec.ofChange fnExactByDayWrong)

/-- 'laws.FnExactCascade': WHATEVER THE INPUT: true; the input reads as it did. -/
def fnExactCascadeSpec : ChangeSpec := { name := "fnExactCascade", fn := fun _ => fun
  | [d1, d2, d3] => { results := [.lit (.bool true)], args := [d1, d2, d3] }
  | _ => none }
def fnExactCascadeRow : OpenClaim := { program := "ytggofaadaepdkaa", sum := "d5bcdb62ad98834fb28ee92153659f21e756d9c41b33d0030bc690323dd0a270", func := "loop.example/savingsclub/laws.FnExactCascade", spec := "fnExactCascade", apart := false }
def FnExactCascadeSaid : Prop := fnExactCascadeRow.holds Try.pinned (OpenSpec.ofChange fnExactCascadeSpec)

/-- ITS FALSE NEIGHBOUR: 'it returns false'. Refute it at one input. -/
def fnExactCascadeWrong : ChangeSpec := { name := "fnExactCascade", fn := fun _ => fun
  | [d1, d2, d3] => { results := [.lit (.bool false)], args := [d1, d2, d3] }
  | _ => none }
def FnExactCascadeWrongFalsely : Prop := fnExactCascadeRow.holds Try.pinned (OpenSpec.ofChange fnExactCascadeWrong)

/-- 'laws.FnExactOpenLock': WHATEVER THE INPUT: true; the input reads as it did. -/
def fnExactOpenLockSpec : ChangeSpec := { name := "fnExactOpenLock", fn := fun _ => fun
  | [d1, d2, d3] => { results := [.lit (.bool true)], args := [d1, d2, d3] }
  | _ => none }
def fnExactOpenLockRow : OpenClaim := { program := "ytggofaadaepdkaa", sum := "d5bcdb62ad98834fb28ee92153659f21e756d9c41b33d0030bc690323dd0a270", func := "loop.example/savingsclub/laws.FnExactOpenLock", spec := "fnExactOpenLock", unfollowed := true, recurses := true, loops := true, apart := false }
def FnExactOpenLockSaid : Prop := fnExactOpenLockRow.holds Try.pinned (OpenSpec.ofChange fnExactOpenLockSpec)

/-- ITS FALSE NEIGHBOUR: 'it returns false'. Refute it at one input. -/
def fnExactOpenLockWrong : ChangeSpec := { name := "fnExactOpenLock", fn := fun _ => fun
  | [d1, d2, d3] => { results := [.lit (.bool false)], args := [d1, d2, d3] }
  | _ => none }
def FnExactOpenLockWrongFalsely : Prop := fnExactOpenLockRow.holds Try.pinned (OpenSpec.ofChange fnExactOpenLockWrong)

/-- 'laws.FnExactExplainBooks': WHATEVER THE INPUT: true; the input reads as it did. -/
def fnExactExplainBooksSpec : ChangeSpec := { name := "fnExactExplainBooks", fn := fun _ => fun
  | [d1, d2] => { results := [.lit (.bool true)], args := [d1, d2] }
  | _ => none }
def fnExactExplainBooksRow : OpenClaim := { program := "ytggofaadaepdkaa", sum := "d5bcdb62ad98834fb28ee92153659f21e756d9c41b33d0030bc690323dd0a270", func := "loop.example/savingsclub/laws.FnExactExplainBooks", spec := "fnExactExplainBooks", unfollowed := true, recurses := true, apart := false }
def FnExactExplainBooksSaid : Prop := fnExactExplainBooksRow.holds Try.pinned (OpenSpec.ofChange fnExactExplainBooksSpec)

/-- ITS FALSE NEIGHBOUR: 'it returns false'. Refute it at one input. -/
def fnExactExplainBooksWrong : ChangeSpec := { name := "fnExactExplainBooks", fn := fun _ => fun
  | [d1, d2] => { results := [.lit (.bool false)], args := [d1, d2] }
  | _ => none }
def FnExactExplainBooksWrongFalsely : Prop := fnExactExplainBooksRow.holds Try.pinned (OpenSpec.ofChange fnExactExplainBooksWrong)

/-- 'laws.FnExactByRisk': WHATEVER THE INPUT: true; the input reads as it did. -/
def fnExactByRiskSpec : ChangeSpec := { name := "fnExactByRisk", fn := fun _ => fun
  | [d1, d2] => { results := [.lit (.bool true)], args := [d1, d2] }
  | _ => none }
def fnExactByRiskRow : OpenClaim := { program := "ytggofaadaepdkaa", sum := "d5bcdb62ad98834fb28ee92153659f21e756d9c41b33d0030bc690323dd0a270", func := "loop.example/savingsclub/laws.FnExactByRisk", spec := "fnExactByRisk", unfollowed := true, recurses := true, apart := false }
def FnExactByRiskSaid : Prop := fnExactByRiskRow.holds Try.pinned (OpenSpec.ofChange fnExactByRiskSpec)

/-- ITS FALSE NEIGHBOUR: 'it returns false'. Refute it at one input. -/
def fnExactByRiskWrong : ChangeSpec := { name := "fnExactByRisk", fn := fun _ => fun
  | [d1, d2] => { results := [.lit (.bool false)], args := [d1, d2] }
  | _ => none }
def FnExactByRiskWrongFalsely : Prop := fnExactByRiskRow.holds Try.pinned (OpenSpec.ofChange fnExactByRiskWrong)

/-- 'laws.FnOpenLock': WHATEVER THE INPUT: true; the input reads as it did. -/
def fnOpenLockSpec : ChangeSpec := { name := "fnOpenLock", fn := fun _ => fun
  | [d] => { results := [.lit (.bool true)], args := [d] }
  | _ => none }
def fnOpenLockRow : OpenClaim := { program := "ytggofaadaepdkaa", sum := "d5bcdb62ad98834fb28ee92153659f21e756d9c41b33d0030bc690323dd0a270", func := "loop.example/savingsclub/laws.FnOpenLock", spec := "fnOpenLock", unfollowed := true, recurses := true, apart := false }
def FnOpenLockSaid : Prop := fnOpenLockRow.holds Try.pinned (OpenSpec.ofChange fnOpenLockSpec)

/-- ITS FALSE NEIGHBOUR: 'it returns false'. Refute it at one input. -/
def fnOpenLockWrong : ChangeSpec := { name := "fnOpenLock", fn := fun _ => fun
  | [d] => { results := [.lit (.bool false)], args := [d] }
  | _ => none }
def FnOpenLockWrongFalsely : Prop := fnOpenLockRow.holds Try.pinned (OpenSpec.ofChange fnOpenLockWrong)

/-- 'laws.FnExactApplyEvent': WHATEVER THE INPUT: true; the input reads as it did. -/
def fnExactApplyEventSpec : ChangeSpec := { name := "fnExactApplyEvent", fn := fun _ => fun
  | [d1, d2] => { results := [.lit (.bool true)], args := [d1, d2] }
  | _ => none }
def fnExactApplyEventRow : OpenClaim := { program := "ytggofaadaepdkaa", sum := "d5bcdb62ad98834fb28ee92153659f21e756d9c41b33d0030bc690323dd0a270", func := "loop.example/savingsclub/laws.FnExactApplyEvent", spec := "fnExactApplyEvent", unfollowed := true, recurses := true, apart := false }
def FnExactApplyEventSaid : Prop := fnExactApplyEventRow.holds Try.pinned (OpenSpec.ofChange fnExactApplyEventSpec)

/-- ITS FALSE NEIGHBOUR: 'it returns false'. Refute it at one input. -/
def fnExactApplyEventWrong : ChangeSpec := { name := "fnExactApplyEvent", fn := fun _ => fun
  | [d1, d2] => { results := [.lit (.bool false)], args := [d1, d2] }
  | _ => none }
def FnExactApplyEventWrongFalsely : Prop := fnExactApplyEventRow.holds Try.pinned (OpenSpec.ofChange fnExactApplyEventWrong)

/-- 'laws.FnExactRunBook': WHATEVER THE INPUT: true; the input reads as it did. -/
def fnExactRunBookSpec : ChangeSpec := { name := "fnExactRunBook", fn := fun _ => fun
  | [d1, d2] => { results := [.lit (.bool true)], args := [d1, d2] }
  | _ => none }
def fnExactRunBookRow : OpenClaim := { program := "ytggofaadaepdkaa", sum := "d5bcdb62ad98834fb28ee92153659f21e756d9c41b33d0030bc690323dd0a270", func := "loop.example/savingsclub/laws.FnExactRunBook", spec := "fnExactRunBook", unfollowed := true, recurses := true, apart := false }
def FnExactRunBookSaid : Prop := fnExactRunBookRow.holds Try.pinned (OpenSpec.ofChange fnExactRunBookSpec)

/-- ITS FALSE NEIGHBOUR: 'it returns false'. Refute it at one input. -/
def fnExactRunBookWrong : ChangeSpec := { name := "fnExactRunBook", fn := fun _ => fun
  | [d1, d2] => { results := [.lit (.bool false)], args := [d1, d2] }
  | _ => none }
def FnExactRunBookWrongFalsely : Prop := fnExactRunBookRow.holds Try.pinned (OpenSpec.ofChange fnExactRunBookWrong)

/- THE SECOND FORM. 'bulk': how many values and letters a reading holds, each counted each time it is reached (what is shared counts as often as it is met; a slice's spare places count too). A statement '..UptoSaid' is the law's where the arguments, and the package variables that the reading takes, are together of bulk at most 1048576: NARROWER than '..Said'. Prove '..Said' where nothing that the law and all that it calls make is longer than what came in: it says more and counts as full. Else prove '..UptoSaid'. A law counts once. -/
mutual
def uptoBulk {H : Type} : DataW H → Nat
  | .lit (.string bytes) => bytes.length + 1
  | .lit _ => 1
  | .nil => 1
  | .ptr d => uptoBulk d + 1
  | .slice elems spare => uptoBulkAll elems + uptoBulkAll spare + 1
  | .agg parts => uptoBulkAll parts + 1
  | .iface _ d => uptoBulk d + 1
  | .map entries => uptoBulkEntries entries + 1
  | .held _ => 1
def uptoBulkAll {H : Type} : List (DataW H) → Nat
  | [] => 0
  | d :: r => uptoBulk d + uptoBulkAll r
def uptoBulkEntries {H : Type} : List (Lit × DataW H) → Nat
  | [] => 0
  | x :: r => uptoBulkEntry x + uptoBulkEntries r
def uptoBulkEntry {H : Type} : Lit × DataW H → Nat
  | (.string bytes, d) => bytes.length + uptoBulk d + 1
  | (_, d) => uptoBulk d + 1
 end
def uptoSmall : (H : Type) → List (DataW H) → Bool := fun _ ds => decide (uptoBulkAll ds ≤ 1048576)
def OpenSpec.upto (s : _root_.Go.ChangeSpec) : _root_.Go.OpenSpec := { _root_.Go.OpenSpec.ofChange s with cond := some uptoSmall }

/-- 'laws.FnExactByDay', WHERE WHAT IT READS IS OF BULK AT MOST 1048576: true; the input reads as it did. -/
def fnExactByDayUptoRow : OpenClaim := { program := "ytggofaadaepdkaa", sum := "d5bcdb62ad98834fb28ee92153659f21e756d9c41b33d0030bc690323dd0a270", func := "loop.example/savingsclub/laws.FnExactByDay", spec := "fnExactByDay", unfollowed := true, recurses := true, apart := false, narrowed := true }
def FnExactByDayUptoSaid : Prop := fnExactByDayUptoRow.holds Try.pinned (OpenSpec.upto fnExactByDaySpec)

/-- 'laws.FnExactCascade', WHERE WHAT IT READS IS OF BULK AT MOST 1048576: true; the input reads as it did. -/
def fnExactCascadeUptoRow : OpenClaim := { program := "ytggofaadaepdkaa", sum := "d5bcdb62ad98834fb28ee92153659f21e756d9c41b33d0030bc690323dd0a270", func := "loop.example/savingsclub/laws.FnExactCascade", spec := "fnExactCascade", apart := false, narrowed := true }
def FnExactCascadeUptoSaid : Prop := fnExactCascadeUptoRow.holds Try.pinned (OpenSpec.upto fnExactCascadeSpec)

/-- 'laws.FnExactOpenLock', WHERE WHAT IT READS IS OF BULK AT MOST 1048576: true; the input reads as it did. -/
def fnExactOpenLockUptoRow : OpenClaim := { program := "ytggofaadaepdkaa", sum := "d5bcdb62ad98834fb28ee92153659f21e756d9c41b33d0030bc690323dd0a270", func := "loop.example/savingsclub/laws.FnExactOpenLock", spec := "fnExactOpenLock", unfollowed := true, recurses := true, loops := true, apart := false, narrowed := true }
def FnExactOpenLockUptoSaid : Prop := fnExactOpenLockUptoRow.holds Try.pinned (OpenSpec.upto fnExactOpenLockSpec)

/-- 'laws.FnExactExplainBooks', WHERE WHAT IT READS IS OF BULK AT MOST 1048576: true; the input reads as it did. -/
def fnExactExplainBooksUptoRow : OpenClaim := { program := "ytggofaadaepdkaa", sum := "d5bcdb62ad98834fb28ee92153659f21e756d9c41b33d0030bc690323dd0a270", func := "loop.example/savingsclub/laws.FnExactExplainBooks", spec := "fnExactExplainBooks", unfollowed := true, recurses := true, apart := false, narrowed := true }
def FnExactExplainBooksUptoSaid : Prop := fnExactExplainBooksUptoRow.holds Try.pinned (OpenSpec.upto fnExactExplainBooksSpec)

/-- 'laws.FnExactByRisk', WHERE WHAT IT READS IS OF BULK AT MOST 1048576: true; the input reads as it did. -/
def fnExactByRiskUptoRow : OpenClaim := { program := "ytggofaadaepdkaa", sum := "d5bcdb62ad98834fb28ee92153659f21e756d9c41b33d0030bc690323dd0a270", func := "loop.example/savingsclub/laws.FnExactByRisk", spec := "fnExactByRisk", unfollowed := true, recurses := true, apart := false, narrowed := true }
def FnExactByRiskUptoSaid : Prop := fnExactByRiskUptoRow.holds Try.pinned (OpenSpec.upto fnExactByRiskSpec)

/-- 'laws.FnOpenLock', WHERE WHAT IT READS IS OF BULK AT MOST 1048576: true; the input reads as it did. -/
def fnOpenLockUptoRow : OpenClaim := { program := "ytggofaadaepdkaa", sum := "d5bcdb62ad98834fb28ee92153659f21e756d9c41b33d0030bc690323dd0a270", func := "loop.example/savingsclub/laws.FnOpenLock", spec := "fnOpenLock", unfollowed := true, recurses := true, apart := false, narrowed := true }
def FnOpenLockUptoSaid : Prop := fnOpenLockUptoRow.holds Try.pinned (OpenSpec.upto fnOpenLockSpec)

/-- 'laws.FnExactApplyEvent', WHERE WHAT IT READS IS OF BULK AT MOST 1048576: true; the input reads as it did. -/
def fnExactApplyEventUptoRow : OpenClaim := { program := "ytggofaadaepdkaa", sum := "d5bcdb62ad98834fb28ee92153659f21e756d9c41b33d0030bc690323dd0a270", func := "loop.example/savingsclub/laws.FnExactApplyEvent", spec := "fnExactApplyEvent", unfollowed := true, recurses := true, apart := false, narrowed := true }
def FnExactApplyEventUptoSaid : Prop := fnExactApplyEventUptoRow.holds Try.pinned (OpenSpec.upto fnExactApplyEventSpec)

/-- 'laws.FnExactRunBook', WHERE WHAT IT READS IS OF BULK AT MOST 1048576: true; the input reads as it did. -/
def fnExactRunBookUptoRow : OpenClaim := { program := "ytggofaadaepdkaa", sum := "d5bcdb62ad98834fb28ee92153659f21e756d9c41b33d0030bc690323dd0a270", func := "loop.example/savingsclub/laws.FnExactRunBook", spec := "fnExactRunBook", unfollowed := true, recurses := true, apart := false, narrowed := true }
def FnExactRunBookUptoSaid : Prop := fnExactRunBookUptoRow.holds Try.pinned (OpenSpec.upto fnExactRunBookSpec)

end Rows
end Go.Proofs.Ytggofaadaepdkaa
