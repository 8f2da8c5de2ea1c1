import Derived.Test.YtpgfkoeodhfkgaaGreatDoorB3
/- FnFormatEvent: functions, gone through by the small machine. No condition. -/
set_option linter.unusedVariables false
set_option linter.unusedSimpArgs false
section
open Go Go.Refl Go.Proofs
set_option maxRecDepth 1000000
set_option maxHeartbeats 0
set_option linter.unusedVariables false
namespace Go.Proofs.YtpgfkoeodhfkgaaGreatDoorG
abbrev laws_FnFormatEvent.ps : List Pm := [.arg (.v (.slice (.int .u8)))]
abbrev laws_FnFormatEvent.res : List M := [.v .bool]
noncomputable def laws_FnFormatEvent.C : Cfg := { tb := tb, tab := fun n f => Refl.look [(4, (spec_DrawFormatEvent.sg n)), (5, (impl_FormatEvent.sg n)), (6, (spec_FormatEvent.sg n)), (7, (impl_ParseEvent.sg n))] f, gl := [g0, g2, g5, g6], ar := ar, bld := bld, pts := pts }
noncomputable def laws_FnFormatEvent.A : Ann := { joins := [(6, { live := [3, 4, 21], base := 45 })], loops := [], ids := [(3, [(11, [])]), (4, [(13, [])]), (5, [(16, [])]), (6, [(24, [])]), (7, [(28, [])]), (8, [(34, [])])], pids := [], nroots := 109 }
noncomputable def laws_FnFormatEvent (n : Nat) (x : List Int) : Option (Bool) := evalF laws_FnFormatEvent.C laws_FnFormatEvent.A Tryz.f3 laws_FnFormatEvent.ps laws_FnFormatEvent.res n x
noncomputable def laws_FnFormatEvent.K0 (_ : Nat) : Kont (Bool) := finK laws_FnFormatEvent.C (Func.results Tryz.f3).toList laws_FnFormatEvent.ps laws_FnFormatEvent.res
noncomputable def laws_FnFormatEvent.K1 (n : Nat) : Kont (Bool) := seqK (fun s' k => joinE laws_FnFormatEvent.A.joins (codeAt Tryz.f3 [1, 1, 1, 1, 1]) (fun s'' => evalC laws_FnFormatEvent.C laws_FnFormatEvent.A n (codeAt Tryz.f3 [1, 1, 1, 1, 1]) s'' k) s') (laws_FnFormatEvent.K0 n)
noncomputable def laws_FnFormatEvent.j6 (n : Nat) (x4 : ByteArray) (x21 : Bool) (r45_0 r45_1 : Int) (r45_2 r45_3 : Int) (r45_4 : List Int) (r45_5 r45_6 : Int) : Option (Bool) := holdF (fun s => evalC laws_FnFormatEvent.C laws_FnFormatEvent.A n (codeAt Tryz.f3 [1, 1, 1, 1, 0, 1]) s (laws_FnFormatEvent.K1 n)) (St.of 45 109 [(3, .ptr 45 0 0), (4, .val .str x4), (21, .val .bool x21)] [(45, .box 27 [.val (.int .i64) r45_0, .val (.int .i64) r45_1, .val (.int .i64) r45_2, .val (.int .i64) r45_3, .val (.slice (.int .i64)) r45_4, .val (.int .i64) r45_5, .val (.int .i64) r45_6])] [])
theorem laws_FnFormatEvent.eq (n : Nat) (x0 : List Int) : laws_FnFormatEvent n x0 = (if (↑(List.length x0) : Int) > 1048576 then some (Bool.true) else ((spec_DrawFormatEvent n x0).bind fun y0 => ((impl_FormatEvent n (y0.1, y0.2.1, y0.2.2.1, y0.2.2.2.1, y0.2.2.2.2.1, y0.2.2.2.2.2.1, y0.2.2.2.2.2.2)).bind fun y1 => ((spec_FormatEvent n (y0.1, y0.2.1, y0.2.2.1, y0.2.2.2.1, y0.2.2.2.2.1, y0.2.2.2.2.2.1, y0.2.2.2.2.2.2)).bind fun y2 => (if y1 = y2 then laws_FnFormatEvent.j6 n (y1) (Decidable.decide (y1 = { data := #[] })) y0.1 y0.2.1 y0.2.2.1 y0.2.2.2.1 y0.2.2.2.2.1 y0.2.2.2.2.2.1 y0.2.2.2.2.2.2 else laws_FnFormatEvent.j6 n (y1) (Bool.true) y0.1 y0.2.1 y0.2.2.1 y0.2.2.2.1 y0.2.2.2.2.1 y0.2.2.2.2.2.1 y0.2.2.2.2.2.2))))) := by kernel_rfl
theorem laws_FnFormatEvent.j6_eq (n : Nat) (x4 : ByteArray) (x21 : Bool) (r45_0 r45_1 : Int) (r45_2 r45_3 : Int) (r45_4 : List Int) (r45_5 r45_6 : Int) : laws_FnFormatEvent.j6 n x4 x21 r45_0 r45_1 r45_2 r45_3 r45_4 r45_5 r45_6 = (if (x21) = true then ((spec_FormatEvent n (r45_0, r45_1, r45_2, r45_3, r45_4, r45_5, r45_6)).bind fun y3 => some (Decidable.decide (x4 = y3))) else ((impl_ParseEvent n x4).bind fun y4 => (if y4.2 = Bool.true then ((impl_FormatEvent n (y4.1.1, y4.1.2.1, y4.1.2.2.1, y4.1.2.2.2.1, y4.1.2.2.2.2.1, y4.1.2.2.2.2.2.1, y4.1.2.2.2.2.2.2)).bind fun y5 => (if y5 = x4 then some (Decidable.decide (y4.1.1 = r45_0)) else some (Bool.false))) else some (Bool.false)))) := (holdF_eq _ _).trans (by kernel_rfl)
noncomputable abbrev laws_FnFormatEvent.sg (n : Nat) : Sig := { params := laws_FnFormatEvent.ps, res := laws_FnFormatEvent.res, run := laws_FnFormatEvent n }
theorem laws_FnFormatEvent.call : Callable Tryz.prog 3 := ⟨Tryz.f3, Tryz.func3, by kernel_rfl, by kernel_rfl⟩
theorem laws_FnFormatEvent.ok (n : Nat) : FC Tryz.prog [g0, g2, g5, g6] 3 (laws_FnFormatEvent.sg n) :=
  evalF_ok (C := laws_FnFormatEvent.C) ⟨tb_ok, fun n _ _ h => tabOk (l := [(4, (spec_DrawFormatEvent.sg n)), (5, (impl_FormatEvent.sg n)), (6, (spec_FormatEvent.sg n)), (7, (impl_ParseEvent.sg n))]) (all_cons ⟨(.mono (gl := []) (gl' := [g0, g2, g5, g6]) (all_nil) (spec_DrawFormatEvent.ok n)), spec_DrawFormatEvent.call⟩ (all_cons ⟨(.mono (gl := [g0, g2]) (gl' := [g0, g2, g5, g6]) (all_cons (.head _) (all_cons (.tail _ (.head _)) (all_nil))) (impl_FormatEvent.ok n)), impl_FormatEvent.call⟩ (all_cons ⟨(.mono (gl := []) (gl' := [g0, g2, g5, g6]) (all_nil) (spec_FormatEvent.ok n)), spec_FormatEvent.call⟩ (all_cons ⟨impl_ParseEvent.ok n, impl_ParseEvent.call⟩ (all_nil))))) h, mixed, ar_ok, bld_ok, pts_ok⟩ laws_FnFormatEvent.A Tryz.func3 laws_FnFormatEvent.ps laws_FnFormatEvent.res n
end Go.Proofs.YtpgfkoeodhfkgaaGreatDoorG
end
