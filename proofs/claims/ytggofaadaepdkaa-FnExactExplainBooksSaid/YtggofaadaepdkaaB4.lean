import Derived.Test.YtggofaadaepdkaaB3
/- FnExactExplainBooks: functions, gone through by the small machine. No condition. -/
set_option linter.unusedVariables false
set_option linter.unusedSimpArgs false
section
open Go Go.Refl Go.Proofs
set_option maxRecDepth 1000000
set_option maxHeartbeats 0
set_option linter.unusedVariables false
namespace Go.Proofs.YtggofaadaepdkaaG
abbrev spec_ByDay.ps : List Pm := [.arg (.v (.slice (.pair (.int .i64) (.pair (.int .i64) (.pair (.int .i64) (.int .i64))))))]
abbrev spec_ByDay.res : List M := [(.own (.pair (.int .i64) (.pair (.int .i64) (.pair (.int .i64) (.int .i64)))) 100)]
noncomputable def spec_ByDay.C : Cfg := { tb := tb, tab := fun n f => Refl.look [(61, { params := spec_validEntries.ps, res := spec_validEntries.res, run := spec_validEntries n }), (62, { params := spec_byDay.ps, res := spec_byDay.res, run := spec_byDay n })] f }
noncomputable def spec_ByDay.A : Ann := { joins := [], loops := [], ids := [(1, [(4, [])])], pids := [], nroots := 72 }
noncomputable def spec_ByDay (n : Nat) (x : List (Int × Int × Int × Int)) : Option (List (Int × Int × Int × Int)) := evalF spec_ByDay.C spec_ByDay.A Try.f12 spec_ByDay.ps spec_ByDay.res n x
noncomputable def spec_ByDay.K0 (_ : Nat) : Kont (List (Int × Int × Int × Int)) := finK spec_ByDay.C (Func.results Try.f12).toList spec_ByDay.ps spec_ByDay.res
theorem spec_ByDay.eq (n : Nat) (x0 : List (Int × Int × Int × Int)) : spec_ByDay n x0 = ((spec_validEntries n x0).bind fun y0 => (if (!y0) = true then some ([]) else ((spec_byDay n x0).bind fun y1 => some (y1)))) := by kernel_rfl
theorem spec_ByDay.call : Callable Try.prog 12 := ⟨Try.f12, Try.func12, by kernel_rfl, by kernel_rfl⟩
theorem spec_ByDay.ok (n : Nat) : FC Try.prog 12 { params := spec_ByDay.ps, res := spec_ByDay.res, run := spec_ByDay n } :=
  evalF_ok (C := spec_ByDay.C) ⟨tb_ok, fun n _ _ h => tabOk (l := [(61, { params := spec_validEntries.ps, res := spec_validEntries.res, run := spec_validEntries n }), (62, { params := spec_byDay.ps, res := spec_byDay.res, run := spec_byDay n })]) (all_cons ⟨spec_validEntries.ok n, spec_validEntries.call⟩ (all_cons ⟨spec_byDay.ok n, spec_byDay.call⟩ (all_nil))) h, mixed⟩ spec_ByDay.A Try.func12 spec_ByDay.ps spec_ByDay.res n
end Go.Proofs.YtggofaadaepdkaaG
end
section
open Go Go.Refl Go.Proofs
set_option maxRecDepth 1000000
set_option maxHeartbeats 0
set_option linter.unusedVariables false
namespace Go.Proofs.YtggofaadaepdkaaG
abbrev laws_heldEntryS.ps : List Pm := [.arg (.v (.slice (.pair (.int .i64) (.pair (.int .i64) (.pair (.int .i64) (.int .i64)))))), .arg (.v (.int .i64))]
abbrev laws_heldEntryS.res : List M := [.v (.int .i64)]
noncomputable def laws_heldEntryS.C : Cfg := { tb := tb, tab := fun n f => Refl.look [] f }
noncomputable def laws_heldEntryS.A : Ann := { joins := [], loops := [(2, { live := [0, 1, 5], base := 49 })], ids := [], pids := [], nroots := 113 }
noncomputable def laws_heldEntryS (n : Nat) (x : List (Int × Int × Int × Int) × Int) : Option (Int) := evalF laws_heldEntryS.C laws_heldEntryS.A Try.f17 laws_heldEntryS.ps laws_heldEntryS.res n x
noncomputable def laws_heldEntryS.K0 (_ : Nat) : Kont (Int) := finK laws_heldEntryS.C (Func.results Try.f17).toList laws_heldEntryS.ps laws_heldEntryS.res
noncomputable def laws_heldEntryS.K1 (n : Nat) : Kont (Int) := seqK (fun s' k => evalC laws_heldEntryS.C laws_heldEntryS.A n (codeAt Try.f17 [1, 1]) (cutAt laws_heldEntryS.A.joins (codeAt Try.f17 [1, 1]) s') k) (laws_heldEntryS.K0 n)
noncomputable def laws_heldEntryS.K2 (n : Nat) : Kont (Int) := blockK 0 (laws_heldEntryS.K1 n)
noncomputable def laws_heldEntryS.l2 (n m2 : Nat) (x0 : List (Int × Int × Int × Int)) (x1 : Int) (x5 : Int) : Option (Int) := loopE (cutAt laws_heldEntryS.A.loops (codeAt Try.f17 [1, 0, 1, 0, 0])) (fun s k => evalC laws_heldEntryS.C laws_heldEntryS.A n (codeAt Try.f17 [1, 0, 1, 0, 0]) s k) m2 (St.of 49 113 [(0, .val (.slice (.pair (.int .i64) (.pair (.int .i64) (.pair (.int .i64) (.int .i64))))) x0), (1, .val (.int .i64) x1), (5, .val (.int .i64) x5)] [] []) (laws_heldEntryS.K2 n)
theorem laws_heldEntryS.eq (n : Nat) (x0 : List (Int × Int × Int × Int)) (x1 : Int) : laws_heldEntryS n (x0, x1) = laws_heldEntryS.l2 n n (x0) (x1) (0) := by kernel_rfl
theorem laws_heldEntryS.l2_zero (n : Nat) (x0 : List (Int × Int × Int × Int)) (x1 : Int) (x5 : Int) : laws_heldEntryS.l2 n 0 x0 x1 x5 = none := by kernel_rfl
theorem laws_heldEntryS.l2_succ (n m2 : Nat) (x0 : List (Int × Int × Int × Int)) (x1 : Int) (x5 : Int) : laws_heldEntryS.l2 n (m2 + 1) x0 x1 x5 = (if x5 < (↑(List.length x0) : Int) then (if 0 ≤ x5 then (if x5 < (↑(List.length x0) : Int) then (if Prod.fst (List.getD x0 (Int.toNat x5) (0, 0, 0, 0)) = x1 then (if 0 ≤ x5 then (if x5 < (↑(List.length x0) : Int) then (if Prod.fst (Prod.snd (List.getD x0 (Int.toNat x5) (0, 0, 0, 0))) = Go.RowKit.wrap64 (x1 + 1) then (if 0 ≤ x5 then (if x5 < (↑(List.length x0) : Int) then (if Prod.fst (Prod.snd (Prod.snd (List.getD x0 (Int.toNat x5) (0, 0, 0, 0)))) = Go.RowKit.wrap64 (Go.RowKit.wrap64 (x1 + 1) + 1) then (if 0 ≤ x5 then (if x5 < (↑(List.length x0) : Int) then (if Prod.snd (Prod.snd (Prod.snd (List.getD x0 (Int.toNat x5) (0, 0, 0, 0)))) = Go.RowKit.wrap64 (Go.RowKit.wrap64 (Go.RowKit.wrap64 (x1 + 1) + 1) + 1) then laws_heldEntryS.l2 n m2 (x0) (Go.RowKit.wrap64 (Go.RowKit.wrap64 (Go.RowKit.wrap64 (Go.RowKit.wrap64 (x1 + 1) + 1) + 1) + 1)) (Go.RowKit.wrap64 (x5 + 1)) else some ((-1))) else none) else none) else some ((-1))) else none) else none) else some ((-1))) else none) else none) else some ((-1))) else none) else none) else some (x1)) := by kernel_rfl
theorem laws_heldEntryS.call : Callable Try.prog 17 := ⟨Try.f17, Try.func17, by kernel_rfl, by kernel_rfl⟩
theorem laws_heldEntryS.ok (n : Nat) : FC Try.prog 17 { params := laws_heldEntryS.ps, res := laws_heldEntryS.res, run := laws_heldEntryS n } :=
  evalF_ok (C := laws_heldEntryS.C) ⟨tb_ok, fun n _ _ h => tabOk (l := []) (all_nil) h, mixed⟩ laws_heldEntryS.A Try.func17 laws_heldEntryS.ps laws_heldEntryS.res n
end Go.Proofs.YtggofaadaepdkaaG
end
section
open Go Go.Refl Go.Proofs
set_option maxRecDepth 1000000
set_option maxHeartbeats 0
set_option linter.unusedVariables false
namespace Go.Proofs.YtggofaadaepdkaaG
abbrev laws_FnExactByDay.ps : List Pm := [.arg (.v (.slice (.pair (.int .i64) (.pair (.int .i64) (.pair (.int .i64) (.int .i64))))))]
abbrev laws_FnExactByDay.res : List M := [.v .bool]
noncomputable def laws_FnExactByDay.C : Cfg := { tb := tb, tab := fun n f => Refl.look [(11, { params := laws_szEntryS.ps, res := laws_szEntryS.res, run := laws_szEntryS n }), (13, { params := laws_toEntryS.ps, res := laws_toEntryS.res, run := laws_toEntryS n }), (12, { params := spec_ByDay.ps, res := spec_ByDay.res, run := spec_ByDay n }), (14, { params := impl_ByDay.ps, res := impl_ByDay.res, run := impl_ByDay n }), (15, { params := laws_eqEntryS.ps, res := laws_eqEntryS.res, run := laws_eqEntryS n }), (16, { params := laws_markEntryS.ps, res := laws_markEntryS.res, run := laws_markEntryS n }), (17, { params := laws_heldEntryS.ps, res := laws_heldEntryS.res, run := laws_heldEntryS n })] f }
noncomputable def laws_FnExactByDay.A : Ann := { joins := [], loops := [], ids := [(2, [(13, [])]), (8, [(25, [])]), (10, [(30, [])]), (13, [(34, [])]), (14, [(40, [])]), (17, [(45, [])]), (19, [(48, [])]), (25, [(59, [])]), (28, [(63, [])])], pids := [], nroots := 133 }
noncomputable def laws_FnExactByDay (n : Nat) (x : List (Int × Int × Int × Int)) : Option (Bool) := evalF laws_FnExactByDay.C laws_FnExactByDay.A Try.f3 laws_FnExactByDay.ps laws_FnExactByDay.res n x
noncomputable def laws_FnExactByDay.K0 (_ : Nat) : Kont (Bool) := finK laws_FnExactByDay.C (Func.results Try.f3).toList laws_FnExactByDay.ps laws_FnExactByDay.res
theorem laws_FnExactByDay.eq (n : Nat) (x0 : List (Int × Int × Int × Int)) : laws_FnExactByDay n x0 = ((laws_szEntryS n (x0, 1048576)).bind fun y0 => (if y0 < 0 then some (Bool.true) else ((laws_toEntryS n x0).bind fun y1 => ((spec_ByDay n y1).bind fun y2 => ((laws_toEntryS n x0).bind fun y3 => ((impl_ByDay n y3).bind fun y4 => ((laws_eqEntryS n (y4, y2)).bind fun y5 => (if (!y5) = true then some (Bool.false) else ((laws_toEntryS n x0).bind fun y6 => ((laws_eqEntryS n (y3, y6)).bind fun y7 => (if (!y7) = true then some (Bool.false) else ((laws_markEntryS n (y3, 1)).bind fun y8 => (if Prod.fst y8 < 0 then some (Bool.false) else ((laws_eqEntryS n (y4, y2)).bind fun y9 => (if (!y9) = true then some (Bool.false) else ((laws_markEntryS n (y4, 1)).bind fun y10 => ((laws_heldEntryS n (Prod.snd y10, 1)).bind fun y11 => (if y11 < 0 then some (Bool.false) else (if y11 = Prod.fst y10 then ((laws_toEntryS n x0).bind fun y12 => ((impl_ByDay n y12).bind fun y13 => ((laws_eqEntryS n (y13, y2)).bind fun y14 => (if (!y14) = true then some (Bool.false) else ((laws_heldEntryS n (Prod.snd y10, 1)).bind fun y15 => (if y15 < 0 then some (Bool.false) else (if y15 = Prod.fst y10 then some (Bool.true) else some (Bool.false)))))))) else some (Bool.false)))))))))))))))))))) := by kernel_rfl
theorem laws_FnExactByDay.call : Callable Try.prog 3 := ⟨Try.f3, Try.func3, by kernel_rfl, by kernel_rfl⟩
theorem laws_FnExactByDay.ok (n : Nat) : FC Try.prog 3 { params := laws_FnExactByDay.ps, res := laws_FnExactByDay.res, run := laws_FnExactByDay n } :=
  evalF_ok (C := laws_FnExactByDay.C) ⟨tb_ok, fun n _ _ h => tabOk (l := [(11, { params := laws_szEntryS.ps, res := laws_szEntryS.res, run := laws_szEntryS n }), (13, { params := laws_toEntryS.ps, res := laws_toEntryS.res, run := laws_toEntryS n }), (12, { params := spec_ByDay.ps, res := spec_ByDay.res, run := spec_ByDay n }), (14, { params := impl_ByDay.ps, res := impl_ByDay.res, run := impl_ByDay n }), (15, { params := laws_eqEntryS.ps, res := laws_eqEntryS.res, run := laws_eqEntryS n }), (16, { params := laws_markEntryS.ps, res := laws_markEntryS.res, run := laws_markEntryS n }), (17, { params := laws_heldEntryS.ps, res := laws_heldEntryS.res, run := laws_heldEntryS n })]) (all_cons ⟨laws_szEntryS.ok n, laws_szEntryS.call⟩ (all_cons ⟨laws_toEntryS.ok n, laws_toEntryS.call⟩ (all_cons ⟨spec_ByDay.ok n, spec_ByDay.call⟩ (all_cons ⟨impl_ByDay.ok n, impl_ByDay.call⟩ (all_cons ⟨laws_eqEntryS.ok n, laws_eqEntryS.call⟩ (all_cons ⟨laws_markEntryS.ok n, laws_markEntryS.call⟩ (all_cons ⟨laws_heldEntryS.ok n, laws_heldEntryS.call⟩ (all_nil)))))))) h, mixed⟩ laws_FnExactByDay.A Try.func3 laws_FnExactByDay.ps laws_FnExactByDay.res n
end Go.Proofs.YtggofaadaepdkaaG
end
