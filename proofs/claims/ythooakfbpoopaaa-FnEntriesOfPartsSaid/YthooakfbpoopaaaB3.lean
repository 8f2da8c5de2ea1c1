import Derived.Test.YthooakfbpoopaaaProg
import Derived.Test.YthooakfbpoopaaaB2
/- FnEntriesOfParts: functions, gone through by the small machine. No condition. -/
set_option linter.unusedVariables false
set_option linter.unusedSimpArgs false
section
open Go Go.Refl Go.Proofs
set_option maxRecDepth 1000000
set_option maxHeartbeats 0
set_option linter.unusedVariables false
namespace Go.Proofs.YthooakfbpoopaaaG
noncomputable def tb : List (Nat × TI) := [(2, { ty := (.int .i64), eqOk := true }),
  (3, { ty := (.int .i64), eqOk := true }),
  (4, { ty := .bool, eqOk := true }),
  (5, { ty := (.int .u8), eqOk := true }),
  (6, { ty := (.int .u8), eqOk := true }),
  (7, { ty := (.pair (.int .i64) (.pair (.int .i64) (.pair .bool (.int .u8)))), offs := [0, 1, 2, 3], szs := [1, 1, 1, 1], eqOk := true }),
  (8, { ty := (.pair (.int .i64) (.pair (.int .i64) (.pair .bool (.int .u8)))), offs := [0, 1, 2, 3], szs := [1, 1, 1, 1], eqOk := true }),
  (9, { ty := .str, eqOk := true }),
  (10, { ty := .str, eqOk := true }),
  (11, { ty := .str, eqOk := true }),
  (12, { ty := (.int .u64), eqOk := true }),
  (13, { ty := (.pair .str (.int .u64)), offs := [0, 1], szs := [1, 1] }),
  (14, { ty := (.pair .str (.int .u64)), offs := [0, 1], szs := [1, 1] }),
  (21, { ty := (.int .i32), eqOk := true }),
  (22, { ty := (.slice (.int .u8)), elem := 5 }),
  (23, { ty := (.slice (.int .i64)), elem := 3 }),
  (24, { ty := (.slice (.pair (.int .i64) (.pair (.int .i64) (.slice (.int .i64))))), elem := 45 }),
  (25, { ty := (.pair (.slice (.int .i64)) (.pair (.slice (.pair (.int .i64) (.pair (.int .i64) (.slice (.int .i64))))) (.pair (.int .i64) (.pair (.int .i64) (.int .i64))))), offs := [0, 1, 2, 3, 4], szs := [1, 1, 1, 1, 1] }),
  (26, { ty := (.pair (.slice (.int .i64)) (.pair (.slice (.pair (.int .i64) (.pair (.int .i64) (.slice (.int .i64))))) (.pair (.int .i64) (.pair (.int .i64) (.int .i64))))), offs := [0, 1, 2, 3, 4], szs := [1, 1, 1, 1, 1] }),
  (27, { ty := (.pair (.int .i64) (.int .i64)), offs := [0, 1], szs := [1, 1], eqOk := true }),
  (28, { ty := (.pair (.int .i64) (.int .i64)), offs := [0, 1], szs := [1, 1], eqOk := true }),
  (29, { ty := (.pair (.int .i64) (.pair (.int .i64) (.pair (.int .i64) (.pair (.int .i64) (.pair (.slice (.int .i64)) (.pair (.int .i64) (.int .i64))))))), offs := [0, 1, 2, 3, 4, 5], szs := [1, 1, 1, 1, 1, 2] }),
  (30, { ty := (.pair (.int .i64) (.pair (.int .i64) (.pair (.int .i64) (.pair (.int .i64) (.pair (.slice (.int .i64)) (.pair (.int .i64) (.int .i64))))))), offs := [0, 1, 2, 3, 4, 5], szs := [1, 1, 1, 1, 1, 2] }),
  (44, { ty := (.pair (.int .i64) (.pair (.int .i64) (.slice (.int .i64)))), offs := [0, 1, 2], szs := [1, 1, 1] }),
  (45, { ty := (.pair (.int .i64) (.pair (.int .i64) (.slice (.int .i64)))), offs := [0, 1, 2], szs := [1, 1, 1] }),
  (46, { ty := (.slice (.pair (.int .i64) (.pair (.int .i64) (.pair (.int .i64) (.pair (.int .i64) (.pair (.slice (.int .i64)) (.pair (.int .i64) (.int .i64)))))))), elem := 30 }),
  (52, { ty := (.slice (.pair (.int .i64) (.pair (.int .i64) (.pair (.int .i64) (.int .i64))))), elem := 77 }),
  (76, { ty := (.pair (.int .i64) (.pair (.int .i64) (.pair (.int .i64) (.int .i64)))), offs := [0, 1, 2, 3], szs := [1, 1, 1, 1], eqOk := true }),
  (77, { ty := (.pair (.int .i64) (.pair (.int .i64) (.pair (.int .i64) (.int .i64)))), offs := [0, 1, 2, 3], szs := [1, 1, 1, 1], eqOk := true }),
  (78, { ty := (.pair (.slice (.int .u8)) (.int .i64)), offs := [0, 1], szs := [1, 1] }),
  (79, { ty := (.pair (.slice (.int .u8)) (.int .i64)), offs := [0, 1], szs := [1, 1] }),
  (105, { ty := (.slice .bool), elem := 4 }),
  (117, { ty := (.int .u32), eqOk := true }),
  (118, { ty := (.int .u8), eqOk := true }),
  (119, { ty := (.int .u8), eqOk := true }),
  (122, { ty := (.int .i32), eqOk := true }),
  (123, { ty := (.int .i32), eqOk := true })]
theorem t2 : TOk Try.prog tb 2 { ty := (.int .i64), eqOk := true } := .of (by kernel_rfl) (by kernel_rfl) (by show _ = _; kernel_rfl) (fun h => eqOk_int)
theorem t3 : TOk Try.prog tb 3 { ty := (.int .i64), eqOk := true } := .of (by kernel_rfl) (by kernel_rfl) (by show _ = _; kernel_rfl) (fun h => eqOk_int)
theorem t4 : TOk Try.prog tb 4 { ty := .bool, eqOk := true } := .of (by kernel_rfl) (by kernel_rfl) (by show _ = _; kernel_rfl) (fun h => eqOk_bool (by kernel_rfl))
theorem t5 : TOk Try.prog tb 5 { ty := (.int .u8), eqOk := true } := .of (by kernel_rfl) (by kernel_rfl) (by show _ = _; kernel_rfl) (fun h => eqOk_int)
theorem t6 : TOk Try.prog tb 6 { ty := (.int .u8), eqOk := true } := .of (by kernel_rfl) (by kernel_rfl) (by show _ = _; kernel_rfl) (fun h => eqOk_int)
theorem t7 : TOk Try.prog tb 7 { ty := (.pair (.int .i64) (.pair (.int .i64) (.pair .bool (.int .u8)))), offs := [0, 1, 2, 3], szs := [1, 1, 1, 1], eqOk := true } := .of (by kernel_rfl) (by kernel_rfl) (descOk_struct rfl (by kernel_rfl)) (fun h => eqOk_struct rfl (by kernel_rfl) (by kernel_rfl))
theorem t8 : TOk Try.prog tb 8 { ty := (.pair (.int .i64) (.pair (.int .i64) (.pair .bool (.int .u8)))), offs := [0, 1, 2, 3], szs := [1, 1, 1, 1], eqOk := true } := .of (by kernel_rfl) (by kernel_rfl) (descOk_struct rfl (by kernel_rfl)) (fun h => eqOk_struct rfl (by kernel_rfl) (by kernel_rfl))
theorem t9 : TOk Try.prog tb 9 { ty := .str, eqOk := true } := .of (by kernel_rfl) (by kernel_rfl) (by show _ = _; kernel_rfl) (fun h => eqOk_str)
theorem t10 : TOk Try.prog tb 10 { ty := .str, eqOk := true } := .of (by kernel_rfl) (by kernel_rfl) (by show _ = _; kernel_rfl) (fun h => eqOk_str)
theorem t11 : TOk Try.prog tb 11 { ty := .str, eqOk := true } := .of (by kernel_rfl) (by kernel_rfl) (by show _ = _; kernel_rfl) (fun h => eqOk_str)
theorem t12 : TOk Try.prog tb 12 { ty := (.int .u64), eqOk := true } := .of (by kernel_rfl) (by kernel_rfl) (by show _ = _; kernel_rfl) (fun h => eqOk_int)
theorem t13 : TOk Try.prog tb 13 { ty := (.pair .str (.int .u64)), offs := [0, 1], szs := [1, 1] } := .of (by kernel_rfl) (by kernel_rfl) (descOk_struct rfl (by kernel_rfl)) (fun h => by cases h)
theorem t14 : TOk Try.prog tb 14 { ty := (.pair .str (.int .u64)), offs := [0, 1], szs := [1, 1] } := .of (by kernel_rfl) (by kernel_rfl) (descOk_struct rfl (by kernel_rfl)) (fun h => by cases h)
theorem t21 : TOk Try.prog tb 21 { ty := (.int .i32), eqOk := true } := .of (by kernel_rfl) (by kernel_rfl) (by show _ = _; kernel_rfl) (fun h => eqOk_int)
theorem t22 : TOk Try.prog tb 22 { ty := (.slice (.int .u8)), elem := 5 } := .of (by kernel_rfl) (by kernel_rfl) (⟨by kernel_rfl, { ty := (.int .u8), eqOk := true }, by kernel_rfl, by kernel_rfl⟩) (fun h => by cases h)
theorem t23 : TOk Try.prog tb 23 { ty := (.slice (.int .i64)), elem := 3 } := .of (by kernel_rfl) (by kernel_rfl) (⟨by kernel_rfl, { ty := (.int .i64), eqOk := true }, by kernel_rfl, by kernel_rfl⟩) (fun h => by cases h)
theorem t24 : TOk Try.prog tb 24 { ty := (.slice (.pair (.int .i64) (.pair (.int .i64) (.slice (.int .i64))))), elem := 45 } := .of (by kernel_rfl) (by kernel_rfl) (⟨by kernel_rfl, { ty := (.pair (.int .i64) (.pair (.int .i64) (.slice (.int .i64)))), offs := [0, 1, 2], szs := [1, 1, 1] }, by kernel_rfl, by kernel_rfl⟩) (fun h => by cases h)
theorem t25 : TOk Try.prog tb 25 { ty := (.pair (.slice (.int .i64)) (.pair (.slice (.pair (.int .i64) (.pair (.int .i64) (.slice (.int .i64))))) (.pair (.int .i64) (.pair (.int .i64) (.int .i64))))), offs := [0, 1, 2, 3, 4], szs := [1, 1, 1, 1, 1] } := .of (by kernel_rfl) (by kernel_rfl) (descOk_struct rfl (by kernel_rfl)) (fun h => by cases h)
theorem t26 : TOk Try.prog tb 26 { ty := (.pair (.slice (.int .i64)) (.pair (.slice (.pair (.int .i64) (.pair (.int .i64) (.slice (.int .i64))))) (.pair (.int .i64) (.pair (.int .i64) (.int .i64))))), offs := [0, 1, 2, 3, 4], szs := [1, 1, 1, 1, 1] } := .of (by kernel_rfl) (by kernel_rfl) (descOk_struct rfl (by kernel_rfl)) (fun h => by cases h)
theorem t27 : TOk Try.prog tb 27 { ty := (.pair (.int .i64) (.int .i64)), offs := [0, 1], szs := [1, 1], eqOk := true } := .of (by kernel_rfl) (by kernel_rfl) (descOk_struct rfl (by kernel_rfl)) (fun h => eqOk_struct rfl (by kernel_rfl) (by kernel_rfl))
theorem t28 : TOk Try.prog tb 28 { ty := (.pair (.int .i64) (.int .i64)), offs := [0, 1], szs := [1, 1], eqOk := true } := .of (by kernel_rfl) (by kernel_rfl) (descOk_struct rfl (by kernel_rfl)) (fun h => eqOk_struct rfl (by kernel_rfl) (by kernel_rfl))
theorem t29 : TOk Try.prog tb 29 { ty := (.pair (.int .i64) (.pair (.int .i64) (.pair (.int .i64) (.pair (.int .i64) (.pair (.slice (.int .i64)) (.pair (.int .i64) (.int .i64))))))), offs := [0, 1, 2, 3, 4, 5], szs := [1, 1, 1, 1, 1, 2] } := .of (by kernel_rfl) (by kernel_rfl) (descOk_struct rfl (by kernel_rfl)) (fun h => by cases h)
theorem t30 : TOk Try.prog tb 30 { ty := (.pair (.int .i64) (.pair (.int .i64) (.pair (.int .i64) (.pair (.int .i64) (.pair (.slice (.int .i64)) (.pair (.int .i64) (.int .i64))))))), offs := [0, 1, 2, 3, 4, 5], szs := [1, 1, 1, 1, 1, 2] } := .of (by kernel_rfl) (by kernel_rfl) (descOk_struct rfl (by kernel_rfl)) (fun h => by cases h)
theorem t44 : TOk Try.prog tb 44 { ty := (.pair (.int .i64) (.pair (.int .i64) (.slice (.int .i64)))), offs := [0, 1, 2], szs := [1, 1, 1] } := .of (by kernel_rfl) (by kernel_rfl) (descOk_struct rfl (by kernel_rfl)) (fun h => by cases h)
theorem t45 : TOk Try.prog tb 45 { ty := (.pair (.int .i64) (.pair (.int .i64) (.slice (.int .i64)))), offs := [0, 1, 2], szs := [1, 1, 1] } := .of (by kernel_rfl) (by kernel_rfl) (descOk_struct rfl (by kernel_rfl)) (fun h => by cases h)
theorem t46 : TOk Try.prog tb 46 { ty := (.slice (.pair (.int .i64) (.pair (.int .i64) (.pair (.int .i64) (.pair (.int .i64) (.pair (.slice (.int .i64)) (.pair (.int .i64) (.int .i64)))))))), elem := 30 } := .of (by kernel_rfl) (by kernel_rfl) (⟨by kernel_rfl, { ty := (.pair (.int .i64) (.pair (.int .i64) (.pair (.int .i64) (.pair (.int .i64) (.pair (.slice (.int .i64)) (.pair (.int .i64) (.int .i64))))))), offs := [0, 1, 2, 3, 4, 5], szs := [1, 1, 1, 1, 1, 2] }, by kernel_rfl, by kernel_rfl⟩) (fun h => by cases h)
theorem t52 : TOk Try.prog tb 52 { ty := (.slice (.pair (.int .i64) (.pair (.int .i64) (.pair (.int .i64) (.int .i64))))), elem := 77 } := .of (by kernel_rfl) (by kernel_rfl) (⟨by kernel_rfl, { ty := (.pair (.int .i64) (.pair (.int .i64) (.pair (.int .i64) (.int .i64)))), offs := [0, 1, 2, 3], szs := [1, 1, 1, 1], eqOk := true }, by kernel_rfl, by kernel_rfl⟩) (fun h => by cases h)
theorem t76 : TOk Try.prog tb 76 { ty := (.pair (.int .i64) (.pair (.int .i64) (.pair (.int .i64) (.int .i64)))), offs := [0, 1, 2, 3], szs := [1, 1, 1, 1], eqOk := true } := .of (by kernel_rfl) (by kernel_rfl) (descOk_struct rfl (by kernel_rfl)) (fun h => eqOk_struct rfl (by kernel_rfl) (by kernel_rfl))
theorem t77 : TOk Try.prog tb 77 { ty := (.pair (.int .i64) (.pair (.int .i64) (.pair (.int .i64) (.int .i64)))), offs := [0, 1, 2, 3], szs := [1, 1, 1, 1], eqOk := true } := .of (by kernel_rfl) (by kernel_rfl) (descOk_struct rfl (by kernel_rfl)) (fun h => eqOk_struct rfl (by kernel_rfl) (by kernel_rfl))
theorem t78 : TOk Try.prog tb 78 { ty := (.pair (.slice (.int .u8)) (.int .i64)), offs := [0, 1], szs := [1, 1] } := .of (by kernel_rfl) (by kernel_rfl) (descOk_struct rfl (by kernel_rfl)) (fun h => by cases h)
theorem t79 : TOk Try.prog tb 79 { ty := (.pair (.slice (.int .u8)) (.int .i64)), offs := [0, 1], szs := [1, 1] } := .of (by kernel_rfl) (by kernel_rfl) (descOk_struct rfl (by kernel_rfl)) (fun h => by cases h)
theorem t105 : TOk Try.prog tb 105 { ty := (.slice .bool), elem := 4 } := .of (by kernel_rfl) (by kernel_rfl) (⟨by kernel_rfl, { ty := .bool, eqOk := true }, by kernel_rfl, by kernel_rfl⟩) (fun h => by cases h)
theorem t117 : TOk Try.prog tb 117 { ty := (.int .u32), eqOk := true } := .of (by kernel_rfl) (by kernel_rfl) (by show _ = _; kernel_rfl) (fun h => eqOk_int)
theorem t118 : TOk Try.prog tb 118 { ty := (.int .u8), eqOk := true } := .of (by kernel_rfl) (by kernel_rfl) (by show _ = _; kernel_rfl) (fun h => eqOk_int)
theorem t119 : TOk Try.prog tb 119 { ty := (.int .u8), eqOk := true } := .of (by kernel_rfl) (by kernel_rfl) (by show _ = _; kernel_rfl) (fun h => eqOk_int)
theorem t122 : TOk Try.prog tb 122 { ty := (.int .i32), eqOk := true } := .of (by kernel_rfl) (by kernel_rfl) (by show _ = _; kernel_rfl) (fun h => eqOk_int)
theorem t123 : TOk Try.prog tb 123 { ty := (.int .i32), eqOk := true } := .of (by kernel_rfl) (by kernel_rfl) (by show _ = _; kernel_rfl) (fun h => eqOk_int)
theorem mixed : Try.prog.follows .mixedOrders = true := by kernel_rfl
theorem tb_ok : CfgTb Try.prog tb := tbOk (all_cons t2 (all_cons t3 (all_cons t4 (all_cons t5 (all_cons t6 (all_cons t7 (all_cons t8 (all_cons t9 (all_cons t10 (all_cons t11 (all_cons t12 (all_cons t13 (all_cons t14 (all_cons t21 (all_cons t22 (all_cons t23 (all_cons t24 (all_cons t25 (all_cons t26 (all_cons t27 (all_cons t28 (all_cons t29 (all_cons t30 (all_cons t44 (all_cons t45 (all_cons t46 (all_cons t52 (all_cons t76 (all_cons t77 (all_cons t78 (all_cons t79 (all_cons t105 (all_cons t117 (all_cons t118 (all_cons t119 (all_cons t122 (all_cons t123 (all_nil))))))))))))))))))))))))))))))))))))))
end Go.Proofs.YthooakfbpoopaaaG
end
section
open Go Go.Refl Go.Proofs
set_option maxRecDepth 1000000
set_option maxHeartbeats 0
set_option linter.unusedVariables false
namespace Go.Proofs.YthooakfbpoopaaaG
abbrev spec_newReader.ps : List Pm := [.arg (.v (.slice (.int .u8)))]
abbrev spec_newReader.res : List M := [.bx 79 (.v (.pair (.slice (.int .u8)) (.int .i64)))]
noncomputable def spec_newReader.C : Cfg := { tb := tb, tab := fun n f => Refl.look [] f }
noncomputable def spec_newReader.A : Ann := { joins := [], loops := [], ids := [], pids := [], nroots := 75 }
noncomputable def spec_newReader (n : Nat) (x : List Int) : Option (List Int × Int) := evalF spec_newReader.C spec_newReader.A Try.f33 spec_newReader.ps spec_newReader.res n x
noncomputable def spec_newReader.K0 (_ : Nat) : Kont (List Int × Int) := finK spec_newReader.C (Func.results Try.f33).toList spec_newReader.ps spec_newReader.res
theorem spec_newReader.eq (n : Nat) (x0 : List Int) : spec_newReader n x0 = (if (↑(List.length x0) : Int) > 2000 then (if 2000 ≤ (↑(List.length x0) : Int) then some ((List.take (Int.toNat 2000) x0, 0)) else none) else some ((x0, 0))) := by kernel_rfl
theorem spec_newReader.call : Callable Try.prog 33 := ⟨Try.f33, Try.func33, by kernel_rfl, by kernel_rfl⟩
theorem spec_newReader.ok (n : Nat) : FC Try.prog 33 { params := spec_newReader.ps, res := spec_newReader.res, run := spec_newReader n } :=
  evalF_ok (C := spec_newReader.C) ⟨tb_ok, fun n _ _ h => tabOk (l := []) (all_nil) h, mixed⟩ spec_newReader.A Try.func33 spec_newReader.ps spec_newReader.res n
end Go.Proofs.YthooakfbpoopaaaG
end
section
open Go Go.Refl Go.Proofs
set_option maxRecDepth 1000000
set_option maxHeartbeats 0
set_option linter.unusedVariables false
namespace Go.Proofs.YthooakfbpoopaaaG
abbrev spec_reader_pick.ps : List Pm := [.box 79 (.v (.pair (.slice (.int .u8)) (.int .i64))), .arg (.v (.int .i64))]
abbrev spec_reader_pick.res : List M := [.v (.int .i64)]
noncomputable def spec_reader_pick.C : Cfg := { tb := tb, tab := fun n f => Refl.look [] f }
noncomputable def spec_reader_pick.A : Ann := { joins := [], loops := [], ids := [], pids := [], nroots := 163 }
noncomputable def spec_reader_pick (n : Nat) (x : (List Int × Int) × Int) : Option (Int × List Int × Int) := evalF spec_reader_pick.C spec_reader_pick.A Try.f37 spec_reader_pick.ps spec_reader_pick.res n x
noncomputable def spec_reader_pick.K0 (_ : Nat) : Kont (Int × List Int × Int) := finK spec_reader_pick.C (Func.results Try.f37).toList spec_reader_pick.ps spec_reader_pick.res
theorem spec_reader_pick.eq (n : Nat) (x0 : List Int × Int) (x1 : Int) : spec_reader_pick n (x0, x1) = (if x1 < 1 then some ((0, Prod.fst x0, Go.RowKit.wrap64 (Prod.snd x0 + 1))) else (if (↑(List.length (Prod.fst x0)) : Int) = 0 then some ((0, Prod.fst x0, Go.RowKit.wrap64 (Prod.snd x0 + 1))) else (if Go.RowKit.wrap64 (Go.RowKit.wrap64 (Prod.snd x0 + 1) - 1) < (↑(List.length (Prod.fst x0)) : Int) then (if 0 ≤ Go.RowKit.wrap64 (Go.RowKit.wrap64 (Prod.snd x0 + 1) - 1) then (if Go.RowKit.wrap64 (Go.RowKit.wrap64 (Prod.snd x0 + 1) - 1) < (↑(List.length (Prod.fst x0)) : Int) then (if x1 = 0 then none else some ((Int.tmod (Go.RowKit.wrap64 (List.getD (Prod.fst x0) (Int.toNat (Go.RowKit.wrap64 (Go.RowKit.wrap64 (Prod.snd x0 + 1) - 1))) 0)) x1, Prod.fst x0, Go.RowKit.wrap64 (Prod.snd x0 + 1)))) else none) else none) else (if (↑(List.length (Prod.fst x0)) : Int) = 0 then none else (if 0 ≤ Int.tmod (Go.RowKit.wrap64 (Go.RowKit.wrap64 (Prod.snd x0 + 1) - 1)) (↑(List.length (Prod.fst x0)) : Int) then (if Int.tmod (Go.RowKit.wrap64 (Go.RowKit.wrap64 (Prod.snd x0 + 1) - 1)) (↑(List.length (Prod.fst x0)) : Int) < (↑(List.length (Prod.fst x0)) : Int) then (if (↑(List.length (Prod.fst x0)) : Int) = 0 then none else (if 0 ≤ Int.tmod (Go.RowKit.wrap64 (Go.RowKit.wrap64 (Go.RowKit.wrap64 (Go.RowKit.wrap64 (Prod.snd x0 + 1) - 1) * 7) + 3)) (↑(List.length (Prod.fst x0)) : Int) then (if Int.tmod (Go.RowKit.wrap64 (Go.RowKit.wrap64 (Go.RowKit.wrap64 (Go.RowKit.wrap64 (Prod.snd x0 + 1) - 1) * 7) + 3)) (↑(List.length (Prod.fst x0)) : Int) < (↑(List.length (Prod.fst x0)) : Int) then (if (↑(List.length (Prod.fst x0)) : Int) = 0 then none else (if x1 = 0 then none else some ((Int.tmod (Go.IntKind.wrap Go.IntKind.i64 (↑(BitVec.toNat (BitVec.ofInt (Go.IntKind.bits Go.IntKind.i64) (Go.RowKit.wrap64 (Go.RowKit.wrap64 (Go.RowKit.wrap64 (Go.RowKit.wrap64 (Go.RowKit.wrap64 (List.getD (Prod.fst x0) (Int.toNat (Int.tmod (Go.RowKit.wrap64 (Go.RowKit.wrap64 (Prod.snd x0 + 1) - 1)) (↑(List.length (Prod.fst x0)) : Int))) 0) * 131) + Go.RowKit.wrap64 (Go.RowKit.wrap64 (List.getD (Prod.fst x0) (Int.toNat (Int.tmod (Go.RowKit.wrap64 (Go.RowKit.wrap64 (Go.RowKit.wrap64 (Go.RowKit.wrap64 (Prod.snd x0 + 1) - 1) * 7) + 3)) (↑(List.length (Prod.fst x0)) : Int))) 0) * 1117)) + Go.RowKit.wrap64 (Go.RowKit.wrap64 (Go.RowKit.wrap64 (Prod.snd x0 + 1) - 1) * 29)) + Go.RowKit.wrap64 (Go.RowKit.wrap64 (Int.tdiv (Go.RowKit.wrap64 (Go.RowKit.wrap64 (Prod.snd x0 + 1) - 1)) (↑(List.length (Prod.fst x0)) : Int)) * 53))) ^^^ BitVec.ofInt (Go.IntKind.bits Go.IntKind.i64) (Go.RowKit.wrap64 (Int.tdiv (Go.RowKit.wrap64 (Go.RowKit.wrap64 (Go.RowKit.wrap64 (Go.RowKit.wrap64 (Go.RowKit.wrap64 (List.getD (Prod.fst x0) (Int.toNat (Int.tmod (Go.RowKit.wrap64 (Go.RowKit.wrap64 (Prod.snd x0 + 1) - 1)) (↑(List.length (Prod.fst x0)) : Int))) 0) * 131) + Go.RowKit.wrap64 (Go.RowKit.wrap64 (List.getD (Prod.fst x0) (Int.toNat (Int.tmod (Go.RowKit.wrap64 (Go.RowKit.wrap64 (Go.RowKit.wrap64 (Go.RowKit.wrap64 (Prod.snd x0 + 1) - 1) * 7) + 3)) (↑(List.length (Prod.fst x0)) : Int))) 0) * 1117)) + Go.RowKit.wrap64 (Go.RowKit.wrap64 (Go.RowKit.wrap64 (Prod.snd x0 + 1) - 1) * 29)) + Go.RowKit.wrap64 (Go.RowKit.wrap64 (Int.tdiv (Go.RowKit.wrap64 (Go.RowKit.wrap64 (Prod.snd x0 + 1) - 1)) (↑(List.length (Prod.fst x0)) : Int)) * 53))) 64)))) : Int)) x1, Prod.fst x0, Go.RowKit.wrap64 (Prod.snd x0 + 1))))) else none) else none)) else none) else none))))) := by kernel_rfl
theorem spec_reader_pick.call : Callable Try.prog 37 := ⟨Try.f37, Try.func37, by kernel_rfl, by kernel_rfl⟩
theorem spec_reader_pick.ok (n : Nat) : FC Try.prog 37 { params := spec_reader_pick.ps, res := spec_reader_pick.res, run := spec_reader_pick n } :=
  evalF_ok (C := spec_reader_pick.C) ⟨tb_ok, fun n _ _ h => tabOk (l := []) (all_nil) h, mixed⟩ spec_reader_pick.A Try.func37 spec_reader_pick.ps spec_reader_pick.res n
end Go.Proofs.YthooakfbpoopaaaG
end
section
open Go Go.Refl Go.Proofs
set_option maxRecDepth 1000000
set_option maxHeartbeats 0
set_option linter.unusedVariables false
namespace Go.Proofs.YthooakfbpoopaaaG
abbrev spec_reader_one.ps : List Pm := [.box 79 (.v (.pair (.slice (.int .u8)) (.int .i64))), .arg (.v (.slice (.int .i64)))]
abbrev spec_reader_one.res : List M := [.v (.int .i64)]
noncomputable def spec_reader_one.C : Cfg := { tb := tb, tab := fun n f => Refl.look [(37, { params := spec_reader_pick.ps, res := spec_reader_pick.res, run := spec_reader_pick n })] f }
noncomputable def spec_reader_one.A : Ann := { joins := [], loops := [], ids := [(1, [(9, [])])], pids := [], nroots := 76 }
noncomputable def spec_reader_one (n : Nat) (x : (List Int × Int) × List Int) : Option (Int × List Int × Int) := evalF spec_reader_one.C spec_reader_one.A Try.f38 spec_reader_one.ps spec_reader_one.res n x
noncomputable def spec_reader_one.K0 (_ : Nat) : Kont (Int × List Int × Int) := finK spec_reader_one.C (Func.results Try.f38).toList spec_reader_one.ps spec_reader_one.res
theorem spec_reader_one.eq (n : Nat) (x0 : List Int × Int) (x1 : List Int) : spec_reader_one n (x0, x1) = ((spec_reader_pick n ((Prod.fst x0, Prod.snd x0), (↑(List.length x1) : Int))).bind fun y0 => (if 0 ≤ Prod.fst y0 then (if Prod.fst y0 < (↑(List.length x1) : Int) then some ((List.getD x1 (Int.toNat (Prod.fst y0)) 0, Prod.fst (Prod.snd y0), Prod.snd (Prod.snd y0))) else none) else none)) := by kernel_rfl
theorem spec_reader_one.call : Callable Try.prog 38 := ⟨Try.f38, Try.func38, by kernel_rfl, by kernel_rfl⟩
theorem spec_reader_one.ok (n : Nat) : FC Try.prog 38 { params := spec_reader_one.ps, res := spec_reader_one.res, run := spec_reader_one n } :=
  evalF_ok (C := spec_reader_one.C) ⟨tb_ok, fun n _ _ h => tabOk (l := [(37, { params := spec_reader_pick.ps, res := spec_reader_pick.res, run := spec_reader_pick n })]) (all_cons ⟨spec_reader_pick.ok n, spec_reader_pick.call⟩ (all_nil)) h, mixed⟩ spec_reader_one.A Try.func38 spec_reader_one.ps spec_reader_one.res n
end Go.Proofs.YthooakfbpoopaaaG
end
section
open Go Go.Refl Go.Proofs
set_option maxRecDepth 1000000
set_option maxHeartbeats 0
set_option linter.unusedVariables false
namespace Go.Proofs.YthooakfbpoopaaaG
abbrev spec_inRange.ps : List Pm := [.arg (.v (.int .i64)), .arg (.v (.int .i64)), .arg (.v (.int .i64))]
abbrev spec_inRange.res : List M := [.v .bool]
noncomputable def spec_inRange.C : Cfg := { tb := tb, tab := fun n f => Refl.look [] f }
noncomputable def spec_inRange.A : Ann := { joins := [], loops := [], ids := [], pids := [], nroots := 79 }
noncomputable def spec_inRange (n : Nat) (x : Int × Int × Int) : Option (Bool) := evalF spec_inRange.C spec_inRange.A Try.f63 spec_inRange.ps spec_inRange.res n x
noncomputable def spec_inRange.K0 (_ : Nat) : Kont (Bool) := finK spec_inRange.C (Func.results Try.f63).toList spec_inRange.ps spec_inRange.res
theorem spec_inRange.eq (n : Nat) (x0 : Int) (x1 : Int) (x2 : Int) : spec_inRange n (x0, x1, x2) = (if x1 ≤ x0 then some (Decidable.decide (x0 ≤ x2)) else some (Bool.false)) := by kernel_rfl
theorem spec_inRange.call : Callable Try.prog 63 := ⟨Try.f63, Try.func63, by kernel_rfl, by kernel_rfl⟩
theorem spec_inRange.ok (n : Nat) : FC Try.prog 63 { params := spec_inRange.ps, res := spec_inRange.res, run := spec_inRange n } :=
  evalF_ok (C := spec_inRange.C) ⟨tb_ok, fun n _ _ h => tabOk (l := []) (all_nil) h, mixed⟩ spec_inRange.A Try.func63 spec_inRange.ps spec_inRange.res n
end Go.Proofs.YthooakfbpoopaaaG
end
section
open Go Go.Refl Go.Proofs
set_option maxRecDepth 1000000
set_option maxHeartbeats 0
set_option linter.unusedVariables false
namespace Go.Proofs.YthooakfbpoopaaaG
abbrev spec_NewClub.ps : List Pm := [.arg (.v (.int .i64))]
abbrev spec_NewClub.res : List M := [.v (.pair (.slice (.int .i64)) (.pair (.slice (.pair (.int .i64) (.pair (.int .i64) (.slice (.int .i64))))) (.pair (.int .i64) (.pair (.int .i64) (.int .i64)))))]
noncomputable def spec_NewClub.C : Cfg := { tb := tb, tab := fun n f => Refl.look [(63, { params := spec_inRange.ps, res := spec_inRange.res, run := spec_inRange n })] f }
noncomputable def spec_NewClub.A : Ann := { joins := [], loops := [], ids := [(1, [(4, [])])], pids := [], nroots := 74 }
noncomputable def spec_NewClub (n : Nat) (x : Int) : Option (List Int × List (Int × Int × List Int) × Int × Int × Int) := evalF spec_NewClub.C spec_NewClub.A Try.f90 spec_NewClub.ps spec_NewClub.res n x
noncomputable def spec_NewClub.K0 (_ : Nat) : Kont (List Int × List (Int × Int × List Int) × Int × Int × Int) := finK spec_NewClub.C (Func.results Try.f90).toList spec_NewClub.ps spec_NewClub.res
theorem spec_NewClub.eq (n : Nat) (x0 : Int) : spec_NewClub n x0 = ((spec_inRange n (x0, 1, 12)).bind fun y0 => (if (!y0) = true then some (([], [], 0, 0, 0)) else (if 0 ≤ x0 then (if x0 ≤ x0 then (if x0 ≤ (↑Go.Refl.maxN : Int) then some ((List.replicate (Int.toNat x0) 0, [], 0, 0, 0)) else none) else none) else none))) := by kernel_rfl
theorem spec_NewClub.call : Callable Try.prog 90 := ⟨Try.f90, Try.func90, by kernel_rfl, by kernel_rfl⟩
theorem spec_NewClub.ok (n : Nat) : FC Try.prog 90 { params := spec_NewClub.ps, res := spec_NewClub.res, run := spec_NewClub n } :=
  evalF_ok (C := spec_NewClub.C) ⟨tb_ok, fun n _ _ h => tabOk (l := [(63, { params := spec_inRange.ps, res := spec_inRange.res, run := spec_inRange n })]) (all_cons ⟨spec_inRange.ok n, spec_inRange.call⟩ (all_nil)) h, mixed⟩ spec_NewClub.A Try.func90 spec_NewClub.ps spec_NewClub.res n
end Go.Proofs.YthooakfbpoopaaaG
end
section
open Go Go.Refl Go.Proofs
set_option maxRecDepth 1000000
set_option maxHeartbeats 0
set_option linter.unusedVariables false
namespace Go.Proofs.YthooakfbpoopaaaG
abbrev spec_firstClub.ps : List Pm := [.box 79 (.v (.pair (.slice (.int .u8)) (.int .i64)))]
abbrev spec_firstClub.res : List M := [.v (.pair (.slice (.int .i64)) (.pair (.slice (.pair (.int .i64) (.pair (.int .i64) (.slice (.int .i64))))) (.pair (.int .i64) (.pair (.int .i64) (.int .i64)))))]
noncomputable def spec_firstClub.C : Cfg := { tb := tb, tab := fun n f => Refl.look [(38, { params := spec_reader_one.ps, res := spec_reader_one.res, run := spec_reader_one n }), (90, { params := spec_NewClub.ps, res := spec_NewClub.res, run := spec_NewClub n })] f }
noncomputable def spec_firstClub.A : Ann := { joins := [], loops := [], ids := [(1, [(4, []), (5, []), (6, [])])], pids := [], nroots := 71 }
noncomputable def spec_firstClub (n : Nat) (x : List Int × Int) : Option ((List Int × List (Int × Int × List Int) × Int × Int × Int) × List Int × Int) := evalF spec_firstClub.C spec_firstClub.A Try.f59 spec_firstClub.ps spec_firstClub.res n x
noncomputable def spec_firstClub.K0 (_ : Nat) : Kont ((List Int × List (Int × Int × List Int) × Int × Int × Int) × List Int × Int) := finK spec_firstClub.C (Func.results Try.f59).toList spec_firstClub.ps spec_firstClub.res
theorem spec_firstClub.eq (n : Nat) (x0 : List Int × Int) : spec_firstClub n x0 = ((spec_reader_one n ((Prod.fst x0, Prod.snd x0), List.set (List.set (List.set (List.set (List.set (List.replicate 5 0) 0 3) 1 4) 2 2) 3 5) 4 1)).bind fun y0 => ((spec_NewClub n (Prod.fst y0)).bind fun y1 => some (((Prod.fst y1, Prod.fst (Prod.snd y1), Prod.fst (Prod.snd (Prod.snd y1)), Prod.fst (Prod.snd (Prod.snd (Prod.snd y1))), Prod.snd (Prod.snd (Prod.snd (Prod.snd y1)))), Prod.fst (Prod.snd y0), Prod.snd (Prod.snd y0))))) := by kernel_rfl
theorem spec_firstClub.call : Callable Try.prog 59 := ⟨Try.f59, Try.func59, by kernel_rfl, by kernel_rfl⟩
theorem spec_firstClub.ok (n : Nat) : FC Try.prog 59 { params := spec_firstClub.ps, res := spec_firstClub.res, run := spec_firstClub n } :=
  evalF_ok (C := spec_firstClub.C) ⟨tb_ok, fun n _ _ h => tabOk (l := [(38, { params := spec_reader_one.ps, res := spec_reader_one.res, run := spec_reader_one n }), (90, { params := spec_NewClub.ps, res := spec_NewClub.res, run := spec_NewClub n })]) (all_cons ⟨spec_reader_one.ok n, spec_reader_one.call⟩ (all_cons ⟨spec_NewClub.ok n, spec_NewClub.call⟩ (all_nil))) h, mixed⟩ spec_firstClub.A Try.func59 spec_firstClub.ps spec_firstClub.res n
end Go.Proofs.YthooakfbpoopaaaG
end
section
open Go Go.Refl Go.Proofs
set_option maxRecDepth 1000000
set_option maxHeartbeats 0
set_option linter.unusedVariables false
namespace Go.Proofs.YthooakfbpoopaaaG
abbrev spec_someRate.ps : List Pm := [.box 79 (.v (.pair (.slice (.int .u8)) (.int .i64)))]
abbrev spec_someRate.res : List M := [.v (.pair (.int .i64) (.int .i64))]
noncomputable def spec_someRate.C : Cfg := { tb := tb, tab := fun n f => Refl.look [(37, { params := spec_reader_pick.ps, res := spec_reader_pick.res, run := spec_reader_pick n }), (38, { params := spec_reader_one.ps, res := spec_reader_one.res, run := spec_reader_one n })] f }
noncomputable def spec_someRate.A : Ann := { joins := [], loops := [], ids := [(1, [(6, []), (8, []), (9, [])]), (2, [(17, []), (20, []), (21, [])])], pids := [], nroots := 88 }
noncomputable def spec_someRate (n : Nat) (x : List Int × Int) : Option ((Int × Int) × List Int × Int) := evalF spec_someRate.C spec_someRate.A Try.f66 spec_someRate.ps spec_someRate.res n x
noncomputable def spec_someRate.K0 (_ : Nat) : Kont ((Int × Int) × List Int × Int) := finK spec_someRate.C (Func.results Try.f66).toList spec_someRate.ps spec_someRate.res
theorem spec_someRate.eq (n : Nat) (x0 : List Int × Int) : spec_someRate n x0 = ((spec_reader_pick n ((Prod.fst x0, Prod.snd x0), 50)).bind fun y0 => ((spec_reader_one n ((Prod.fst (Prod.snd y0), Prod.snd (Prod.snd y0)), List.set (List.set (List.set (List.set (List.set (List.set (List.set (List.set (List.set (List.replicate 9 0) 0 100) 1 12) 2 2) 3 4) 4 1000) 5 8) 6 1) 7 365) 8 (Go.RowKit.wrap64 (1 + Prod.fst y0)))).bind fun y1 => ((spec_reader_pick n ((Prod.fst (Prod.snd y1), Prod.snd (Prod.snd y1)), Go.RowKit.wrap64 (Prod.fst y1 + 1))).bind fun y2 => ((spec_reader_one n ((Prod.fst (Prod.snd y2), Prod.snd (Prod.snd y2)), List.set (List.set (List.set (List.set (List.set (List.set (List.replicate 6 0) 0 1) 1 0) 2 (Go.Refl.mn 5 (Prod.fst y1))) 3 (Prod.fst y1)) 4 (Prod.fst y2)) 5 (Go.Refl.mn 3 (Prod.fst y1)))).bind fun y3 => some (((Prod.fst y3, Prod.fst y1), Prod.fst (Prod.snd y3), Prod.snd (Prod.snd y3))))))) := by kernel_rfl
theorem spec_someRate.call : Callable Try.prog 66 := ⟨Try.f66, Try.func66, by kernel_rfl, by kernel_rfl⟩
theorem spec_someRate.ok (n : Nat) : FC Try.prog 66 { params := spec_someRate.ps, res := spec_someRate.res, run := spec_someRate n } :=
  evalF_ok (C := spec_someRate.C) ⟨tb_ok, fun n _ _ h => tabOk (l := [(37, { params := spec_reader_pick.ps, res := spec_reader_pick.res, run := spec_reader_pick n }), (38, { params := spec_reader_one.ps, res := spec_reader_one.res, run := spec_reader_one n })]) (all_cons ⟨spec_reader_pick.ok n, spec_reader_pick.call⟩ (all_cons ⟨spec_reader_one.ok n, spec_reader_one.call⟩ (all_nil))) h, mixed⟩ spec_someRate.A Try.func66 spec_someRate.ps spec_someRate.res n
end Go.Proofs.YthooakfbpoopaaaG
end
section
open Go Go.Refl Go.Proofs
set_option maxRecDepth 1000000
set_option maxHeartbeats 0
set_option linter.unusedVariables false
namespace Go.Proofs.YthooakfbpoopaaaG
abbrev spec_someEvent.ps : List Pm := [.box 79 (.v (.pair (.slice (.int .u8)) (.int .i64))), .arg (.v (.pair (.slice (.int .i64)) (.pair (.slice (.pair (.int .i64) (.pair (.int .i64) (.slice (.int .i64))))) (.pair (.int .i64) (.pair (.int .i64) (.int .i64))))))]
abbrev spec_someEvent.res : List M := [.v (.pair (.int .i64) (.pair (.int .i64) (.pair (.int .i64) (.pair (.int .i64) (.pair (.slice (.int .i64)) (.pair (.int .i64) (.int .i64)))))))]
noncomputable def spec_someEvent.C : Cfg := { tb := tb, tab := fun n f => Refl.look [(37, { params := spec_reader_pick.ps, res := spec_reader_pick.res, run := spec_reader_pick n }), (38, { params := spec_reader_one.ps, res := spec_reader_one.res, run := spec_reader_one n }), (66, { params := spec_someRate.ps, res := spec_someRate.res, run := spec_someRate n })] f }
noncomputable def spec_someEvent.A : Ann := { joins := [(11, { live := [0, 3, 4, 5, 6, 17, 34], base := 125 }), (20, { live := [0, 3, 4, 6, 17, 67], base := 125 }), (29, { live := [0, 4, 6], base := 125 })], loops := [(13, { live := [0, 4, 5, 6, 7, 8], base := 125, growB := [(7, 4, 153, (.int .i64), 3)] })], ids := [(0, [(3, [])]), (2, [(15, [])]), (3, [(17, [])]), (7, [(31, [])]), (11, [(44, [])]), (15, [(57, [])]), (16, [(63, [])]), (21, [(78, [])]), (22, [(94, []), (96, []), (97, []), (100, []), (101, []), (102, [])]), (24, [(107, [])]), (26, [(112, [])]), (29, [(120, []), (122, []), (123, [])])], pids := [], nroots := 189 }
noncomputable def spec_someEvent (n : Nat) (x : (List Int × Int) × List Int × List (Int × Int × List Int) × Int × Int × Int) : Option ((Int × Int × Int × Int × List Int × Int × Int) × List Int × Int) := evalF spec_someEvent.C spec_someEvent.A Try.f36 spec_someEvent.ps spec_someEvent.res n x
noncomputable def spec_someEvent.K0 (_ : Nat) : Kont ((Int × Int × Int × Int × List Int × Int × Int) × List Int × Int) := finK spec_someEvent.C (Func.results Try.f36).toList spec_someEvent.ps spec_someEvent.res
noncomputable def spec_someEvent.K1 (n : Nat) : Kont ((Int × Int × Int × Int × List Int × Int × Int) × List Int × Int) := seqK (fun s' k => evalC spec_someEvent.C spec_someEvent.A n (codeAt Try.f36 [1, 1, 1, 1]) (cutAt spec_someEvent.A.joins (codeAt Try.f36 [1, 1, 1, 1]) s') k) (spec_someEvent.K0 n)
noncomputable def spec_someEvent.K2 (n : Nat) : Kont ((Int × Int × Int × Int × List Int × Int × Int) × List Int × Int) := blockK 0 (spec_someEvent.K1 n)
noncomputable def spec_someEvent.K3 (n : Nat) : Kont ((Int × Int × Int × Int × List Int × Int × Int) × List Int × Int) := seqK (fun s' k => evalC spec_someEvent.C spec_someEvent.A n (codeAt Try.f36 [1, 1, 1, 0, 1, 0, 1, 1, 1, 1, 1, 0, 1, 1]) (cutAt spec_someEvent.A.joins (codeAt Try.f36 [1, 1, 1, 0, 1, 0, 1, 1, 1, 1, 1, 0, 1, 1]) s') k) (spec_someEvent.K2 n)
noncomputable def spec_someEvent.K4 (n : Nat) : Kont ((Int × Int × Int × Int × List Int × Int × Int) × List Int × Int) := blockK 1 (spec_someEvent.K3 n)
noncomputable def spec_someEvent.j11 (n : Nat) (x3 : List (List Int × List (Int × Int × List Int) × Int × Int × Int)) (x5 : Int) (x6 : Int) (x17 : Int) (x34 : Bool) (r0_0 : List Int) (r0_1 : Int) (r125_0 : Int) (r125_1 : Int) (r125_2 : Int) (r125_3 : Int) (r125_5 : Int) (r125_6 : Int) : Option ((Int × Int × Int × Int × List Int × Int × Int) × List Int × Int) := evalC spec_someEvent.C spec_someEvent.A n (codeAt Try.f36 [1, 1, 1, 0, 1, 0, 1, 1, 1, 1, 1]) (St.of 125 189 [(0, .ptr 0 0 0), (3, .vptr (.pair (.slice (.int .i64)) (.pair (.slice (.pair (.int .i64) (.pair (.int .i64) (.slice (.int .i64))))) (.pair (.int .i64) (.pair (.int .i64) (.int .i64))))) x3 0 0), (4, .ptr 125 0 0), (5, .val (.int .i64) x5), (6, .val (.int .i64) x6), (17, .val (.int .i64) x17), (34, .val .bool x34)] [(0, .box 79 [.val (.slice (.int .u8)) r0_0, .val (.int .i64) r0_1]), (125, .box 30 [.val (.int .i64) r125_0, .val (.int .i64) r125_1, .val (.int .i64) r125_2, .val (.int .i64) r125_3, .nils, .val (.int .i64) r125_5, .val (.int .i64) r125_6])] [0]) (spec_someEvent.K2 n)
noncomputable def spec_someEvent.l13 (n m13 : Nat) (x5 : Int) (x6 : Int) (x8 : Int) (r0_0 : List Int) (r0_1 : Int) (r125_0 : Int) (r125_1 : Int) (r125_2 : Int) (r125_3 : Int) (r125_5 : Int) (r125_6 : Int) (r126_0 : Int) (r126_1 : Int) (r126_2 : Int) (r126_3 : Int) (r126_5 : Int) (r126_6 : Int) (r127 : List Int) : Option ((Int × Int × Int × Int × List Int × Int × Int) × List Int × Int) := loopE (cutAt spec_someEvent.A.loops (codeAt Try.f36 [1, 1, 1, 0, 1, 0, 1, 1, 1, 1, 1, 0, 1, 0, 1, 0, 0])) (fun s k => evalC spec_someEvent.C spec_someEvent.A n (codeAt Try.f36 [1, 1, 1, 0, 1, 0, 1, 1, 1, 1, 1, 0, 1, 0, 1, 0, 0]) s k) m13 (St.of 125 189 [(0, .ptr 0 0 0), (4, .ptr 125 0 0), (5, .val (.int .i64) x5), (6, .val (.int .i64) x6), (7, .ptr 126 0 0), (8, .val (.int .i64) x8)] [(0, .box 79 [.val (.slice (.int .u8)) r0_0, .val (.int .i64) r0_1]), (125, .box 30 [.val (.int .i64) r125_0, .val (.int .i64) r125_1, .val (.int .i64) r125_2, .val (.int .i64) r125_3, .nils, .val (.int .i64) r125_5, .val (.int .i64) r125_6]), (126, .box 30 [.val (.int .i64) r126_0, .val (.int .i64) r126_1, .val (.int .i64) r126_2, .val (.int .i64) r126_3, .own 127, .val (.int .i64) r126_5, .val (.int .i64) r126_6]), (127, .row (.int .i64) 3 r127)] [0]) (spec_someEvent.K4 n)
noncomputable def spec_someEvent.j20 (n : Nat) (x3 : List (List Int × List (Int × Int × List Int) × Int × Int × Int)) (x6 : Int) (x17 : Int) (x67 : Bool) (r0_0 : List Int) (r0_1 : Int) (r125_0 : Int) (r125_1 : Int) (r125_2 : Int) (r125_3 : Int) (r125_5 : Int) (r125_6 : Int) : Option ((Int × Int × Int × Int × List Int × Int × Int) × List Int × Int) := evalC spec_someEvent.C spec_someEvent.A n (codeAt Try.f36 [1, 1, 1, 0, 1, 0, 1, 1, 1, 1, 1, 1, 1]) (St.of 125 189 [(0, .ptr 0 0 0), (3, .vptr (.pair (.slice (.int .i64)) (.pair (.slice (.pair (.int .i64) (.pair (.int .i64) (.slice (.int .i64))))) (.pair (.int .i64) (.pair (.int .i64) (.int .i64))))) x3 0 0), (4, .ptr 125 0 0), (6, .val (.int .i64) x6), (17, .val (.int .i64) x17), (67, .val .bool x67)] [(0, .box 79 [.val (.slice (.int .u8)) r0_0, .val (.int .i64) r0_1]), (125, .box 30 [.val (.int .i64) r125_0, .val (.int .i64) r125_1, .val (.int .i64) r125_2, .val (.int .i64) r125_3, .nils, .val (.int .i64) r125_5, .val (.int .i64) r125_6])] [0]) (spec_someEvent.K2 n)
noncomputable def spec_someEvent.j29 (n : Nat) (x6 : Int) (r0_0 : List Int) (r0_1 : Int) (r125_0 : Int) (r125_1 : Int) (r125_2 : Int) (r125_3 : Int) (r125_5 : Int) (r125_6 : Int) : Option ((Int × Int × Int × Int × List Int × Int × Int) × List Int × Int) := evalC spec_someEvent.C spec_someEvent.A n (codeAt Try.f36 [1, 1, 1, 1]) (St.of 125 189 [(0, .ptr 0 0 0), (4, .ptr 125 0 0), (6, .val (.int .i64) x6)] [(0, .box 79 [.val (.slice (.int .u8)) r0_0, .val (.int .i64) r0_1]), (125, .box 30 [.val (.int .i64) r125_0, .val (.int .i64) r125_1, .val (.int .i64) r125_2, .val (.int .i64) r125_3, .nils, .val (.int .i64) r125_5, .val (.int .i64) r125_6])] [0]) (spec_someEvent.K0 n)
theorem spec_someEvent.eq (n : Nat) (x0 : List Int × Int) (x1 : List Int × List (Int × Int × List Int) × Int × Int × Int) : spec_someEvent n (x0, x1) = ((spec_reader_pick n ((Prod.fst x0, Prod.snd x0), (↑(List.length (Prod.fst x1)) : Int))).bind fun y0 => ((spec_reader_pick n ((Prod.fst (Prod.snd y0), Prod.snd (Prod.snd y0)), 12)).bind fun y1 => (if Prod.fst y1 = 0 then some (((0, 0, 0, 0, [], 0, 0), Prod.fst (Prod.snd y1), Prod.snd (Prod.snd y1))) else (if Prod.fst y1 = 1 then (if 0 ≤ Prod.fst y0 then (if Prod.fst y0 < (↑(List.length (Prod.fst x1)) : Int) then ((spec_reader_pick n ((Prod.fst (Prod.snd y1), Prod.snd (Prod.snd y1)), Go.Refl.mx (List.getD (Prod.fst x1) (Int.toNat (Prod.fst y0)) 0) 1)).bind fun y2 => some (((2, Prod.fst y0, Go.RowKit.wrap64 (1 + Prod.fst y2), 0, [], 0, 0), Prod.fst (Prod.snd y2), Prod.snd (Prod.snd y2)))) else none) else none) else (if Prod.fst y1 = 2 then spec_someEvent.j11 n ([x1]) ((↑(List.length (Prod.fst x1)) : Int)) (Prod.fst y0) (Prod.fst y1) (Decidable.decide (Prod.fst y1 = 2)) (Prod.fst (Prod.snd y1)) (Prod.snd (Prod.snd y1)) (0) (0) (0) (0) (0) (0) else (if Prod.fst y1 = 3 then spec_someEvent.j11 n ([x1]) ((↑(List.length (Prod.fst x1)) : Int)) (Prod.fst y0) (Prod.fst y1) (Decidable.decide (Prod.fst y1 = 3)) (Prod.fst (Prod.snd y1)) (Prod.snd (Prod.snd y1)) (0) (0) (0) (0) (0) (0) else spec_someEvent.j11 n ([x1]) ((↑(List.length (Prod.fst x1)) : Int)) (Prod.fst y0) (Prod.fst y1) (Decidable.decide (Prod.fst y1 = 4)) (Prod.fst (Prod.snd y1)) (Prod.snd (Prod.snd y1)) (0) (0) (0) (0) (0) (0))))))) := by kernel_rfl
theorem spec_someEvent.j11_eq (n : Nat) (x3 : List (List Int × List (Int × Int × List Int) × Int × Int × Int)) (x5 : Int) (x6 : Int) (x17 : Int) (x34 : Bool) (r0_0 : List Int) (r0_1 : Int) (r125_0 : Int) (r125_1 : Int) (r125_2 : Int) (r125_3 : Int) (r125_5 : Int) (r125_6 : Int) : spec_someEvent.j11 n x3 x5 x6 x17 x34 r0_0 r0_1 r125_0 r125_1 r125_2 r125_3 r125_5 r125_6 = (if (x34) = true then ((spec_reader_pick n ((r0_0, r0_1), Go.Refl.mn (Go.Refl.mx (Prod.fst (Prod.snd (Prod.snd (List.getD x3 0 ([], [], 0, 0, 0))))) 1) 150)).bind fun y3 => spec_someEvent.l13 n n (x5) (x6) (0) (Prod.fst (Prod.snd y3)) (Prod.snd (Prod.snd y3)) (r125_0) (r125_1) (r125_2) (r125_3) (r125_5) (r125_6) (3) (x6) (Go.RowKit.wrap64 (1 + Prod.fst y3)) (0) (0) (0) ([])) else (if x17 = 5 then spec_someEvent.j20 n (x3) (x6) (x17) (Decidable.decide (x17 = 5)) (r0_0) (r0_1) (r125_0) (r125_1) (r125_2) (r125_3) (r125_5) (r125_6) else spec_someEvent.j20 n (x3) (x6) (x17) (Decidable.decide (x17 = 6)) (r0_0) (r0_1) (r125_0) (r125_1) (r125_2) (r125_3) (r125_5) (r125_6))) := by kernel_rfl
theorem spec_someEvent.l13_zero (n : Nat) (x5 : Int) (x6 : Int) (x8 : Int) (r0_0 : List Int) (r0_1 : Int) (r125_0 : Int) (r125_1 : Int) (r125_2 : Int) (r125_3 : Int) (r125_5 : Int) (r125_6 : Int) (r126_0 : Int) (r126_1 : Int) (r126_2 : Int) (r126_3 : Int) (r126_5 : Int) (r126_6 : Int) (r127 : List Int) : spec_someEvent.l13 n 0 x5 x6 x8 r0_0 r0_1 r125_0 r125_1 r125_2 r125_3 r125_5 r125_6 r126_0 r126_1 r126_2 r126_3 r126_5 r126_6 r127 = none := by kernel_rfl
theorem spec_someEvent.l13_succ (n m13 : Nat) (x5 : Int) (x6 : Int) (x8 : Int) (r0_0 : List Int) (r0_1 : Int) (r125_0 : Int) (r125_1 : Int) (r125_2 : Int) (r125_3 : Int) (r125_5 : Int) (r125_6 : Int) (r126_0 : Int) (r126_1 : Int) (r126_2 : Int) (r126_3 : Int) (r126_5 : Int) (r126_6 : Int) (r127 : List Int) : spec_someEvent.l13 n (m13 + 1) x5 x6 x8 r0_0 r0_1 r125_0 r125_1 r125_2 r125_3 r125_5 r125_6 r126_0 r126_1 r126_2 r126_3 r126_5 r126_6 r127 = (if x8 < x5 then (if x8 = x6 then spec_someEvent.l13 n m13 (x5) (x6) (Go.RowKit.wrap64 (x8 + 1)) (r0_0) (r0_1) (r125_0) (r125_1) (r125_2) (r125_3) (r125_5) (r125_6) (r126_0) (r126_1) (r126_2) (r126_3) (r126_5) (r126_6) (r127) else ((spec_reader_pick n ((r0_0, r0_1), 2)).bind fun y4 => (if Prod.fst y4 = 0 then (if List.length r127 + List.length (List.set (List.replicate (1 : Nat) (0 : Int)) (0 : Nat) x8) ≤ Go.Refl.maxN then spec_someEvent.l13 n m13 (x5) (x6) (Go.RowKit.wrap64 (x8 + 1)) (Prod.fst (Prod.snd y4)) (Prod.snd (Prod.snd y4)) (r125_0) (r125_1) (r125_2) (r125_3) (r125_5) (r125_6) (r126_0) (r126_1) (r126_2) (r126_3) (r126_5) (r126_6) (r127 ++ List.set (List.replicate 1 0) 0 x8) else none) else spec_someEvent.l13 n m13 (x5) (x6) (Go.RowKit.wrap64 (x8 + 1)) (Prod.fst (Prod.snd y4)) (Prod.snd (Prod.snd y4)) (r125_0) (r125_1) (r125_2) (r125_3) (r125_5) (r125_6) (r126_0) (r126_1) (r126_2) (r126_3) (r126_5) (r126_6) (r127)))) else some (((r126_0, r126_1, r126_2, r126_3, r127, r126_5, r126_6), r0_0, r0_1))) := by kernel_rfl
theorem spec_someEvent.j20_eq (n : Nat) (x3 : List (List Int × List (Int × Int × List Int) × Int × Int × Int)) (x6 : Int) (x17 : Int) (x67 : Bool) (r0_0 : List Int) (r0_1 : Int) (r125_0 : Int) (r125_1 : Int) (r125_2 : Int) (r125_3 : Int) (r125_5 : Int) (r125_6 : Int) : spec_someEvent.j20 n x3 x6 x17 x67 r0_0 r0_1 r125_0 r125_1 r125_2 r125_3 r125_5 r125_6 = (if (x67) = true then (if (↑(List.length (Prod.fst (Prod.snd (List.getD x3 (0 : Nat) ([], [], (0 : Int), (0 : Int), (0 : Int)))))) : Int) > 0 then ((spec_reader_pick n ((r0_0, r0_1), (↑(List.length (Prod.fst (Prod.snd (List.getD x3 (0 : Nat) ([], [], (0 : Int), (0 : Int), (0 : Int)))))) : Int))).bind fun y5 => (if 0 ≤ Prod.fst y5 then (if Prod.fst y5 < (↑(List.length (Prod.fst (Prod.snd (List.getD x3 (0 : Nat) ([], [], (0 : Int), (0 : Int), (0 : Int)))))) : Int) then (if 0 ≤ Prod.fst y5 then (if Prod.fst y5 < (↑(List.length (Prod.fst (Prod.snd (List.getD x3 (0 : Nat) ([], [], (0 : Int), (0 : Int), (0 : Int)))))) : Int) then ((spec_reader_pick n ((Prod.fst (Prod.snd y5), Prod.snd (Prod.snd y5)), Prod.fst (Prod.snd (List.getD (Prod.fst (Prod.snd (List.getD x3 0 ([], [], 0, 0, 0)))) (Int.toNat (Prod.fst y5)) (0, 0, []))))).bind fun y6 => ((spec_reader_one n ((Prod.fst (Prod.snd y6), Prod.snd (Prod.snd y6)), List.set (List.set (List.replicate 2 0) 0 (Prod.fst (Prod.snd (List.getD (Prod.fst (Prod.snd (List.getD x3 0 ([], [], 0, 0, 0)))) (Int.toNat (Prod.fst y5)) (0, 0, []))))) 1 (Go.RowKit.wrap64 (1 + Prod.fst y6)))).bind fun y7 => ((spec_reader_pick n ((Prod.fst (Prod.snd y7), Prod.snd (Prod.snd y7)), 30)).bind fun y8 => ((spec_reader_one n ((Prod.fst (Prod.snd y8), Prod.snd (Prod.snd y8)), List.set (List.set (List.set (List.replicate 3 0) 0 0) 1 5) 2 (Prod.fst y8))).bind fun y9 => some (((4, Prod.fst y5, Prod.fst y7, Prod.fst y9, [], 0, 0), Prod.fst (Prod.snd y9), Prod.snd (Prod.snd y9))))))) else none) else none) else none) else none)) else spec_someEvent.j29 n (x6) (r0_0) (r0_1) (r125_0) (r125_1) (r125_2) (r125_3) (r125_5) (r125_6)) else (if x17 = 7 then ((spec_someRate n (r0_0, r0_1)).bind fun y10 => some (((6, 0, 0, 0, [], Prod.fst (Prod.fst y10), Prod.snd (Prod.fst y10)), Prod.fst (Prod.snd y10), Prod.snd (Prod.snd y10)))) else (if x17 = 8 then ((spec_reader_pick n ((r0_0, r0_1), 2)).bind fun y11 => (if Prod.fst y11 = 0 then some (((5, x6, 0, 0, [], 0, 0), Prod.fst (Prod.snd y11), Prod.snd (Prod.snd y11))) else some (((7, 0, 0, 0, [], 0, 0), Prod.fst (Prod.snd y11), Prod.snd (Prod.snd y11))))) else spec_someEvent.j29 n (x6) (r0_0) (r0_1) (r125_0) (r125_1) (r125_2) (r125_3) (r125_5) (r125_6)))) := by kernel_rfl
theorem spec_someEvent.j29_eq (n : Nat) (x6 : Int) (r0_0 : List Int) (r0_1 : Int) (r125_0 : Int) (r125_1 : Int) (r125_2 : Int) (r125_3 : Int) (r125_5 : Int) (r125_6 : Int) : spec_someEvent.j29 n x6 r0_0 r0_1 r125_0 r125_1 r125_2 r125_3 r125_5 r125_6 = ((spec_reader_pick n ((r0_0, r0_1), 250)).bind fun y12 => ((spec_reader_one n ((Prod.fst (Prod.snd y12), Prod.snd (Prod.snd y12)), List.set (List.set (List.set (List.set (List.replicate 4 0) 0 100) 1 250) 2 (Go.RowKit.wrap64 (1 + Prod.fst y12))) 3 1000)).bind fun y13 => some (((1, x6, Prod.fst y13, 0, [], 0, 0), Prod.fst (Prod.snd y13), Prod.snd (Prod.snd y13))))) := by kernel_rfl
theorem spec_someEvent.call : Callable Try.prog 36 := ⟨Try.f36, Try.func36, by kernel_rfl, by kernel_rfl⟩
theorem spec_someEvent.ok (n : Nat) : FC Try.prog 36 { params := spec_someEvent.ps, res := spec_someEvent.res, run := spec_someEvent n } :=
  evalF_ok (C := spec_someEvent.C) ⟨tb_ok, fun n _ _ h => tabOk (l := [(37, { params := spec_reader_pick.ps, res := spec_reader_pick.res, run := spec_reader_pick n }), (38, { params := spec_reader_one.ps, res := spec_reader_one.res, run := spec_reader_one n }), (66, { params := spec_someRate.ps, res := spec_someRate.res, run := spec_someRate n })]) (all_cons ⟨spec_reader_pick.ok n, spec_reader_pick.call⟩ (all_cons ⟨spec_reader_one.ok n, spec_reader_one.call⟩ (all_cons ⟨spec_someRate.ok n, spec_someRate.call⟩ (all_nil)))) h, mixed⟩ spec_someEvent.A Try.func36 spec_someEvent.ps spec_someEvent.res n
end Go.Proofs.YthooakfbpoopaaaG
end
section
open Go Go.Refl Go.Proofs
set_option maxRecDepth 1000000
set_option maxHeartbeats 0
set_option linter.unusedVariables false
namespace Go.Proofs.YthooakfbpoopaaaG
abbrev spec_copyInts.ps : List Pm := [.arg (.v (.slice (.int .i64)))]
abbrev spec_copyInts.res : List M := [(.own (.int .i64) 3)]
noncomputable def spec_copyInts.C : Cfg := { tb := tb, tab := fun n f => Refl.look [] f }
noncomputable def spec_copyInts.A : Ann := { joins := [], loops := [], ids := [], pids := [], nroots := 70 }
noncomputable def spec_copyInts (n : Nat) (x : List Int) : Option (List Int) := evalF spec_copyInts.C spec_copyInts.A Try.f77 spec_copyInts.ps spec_copyInts.res n x
noncomputable def spec_copyInts.K0 (_ : Nat) : Kont (List Int) := finK spec_copyInts.C (Func.results Try.f77).toList spec_copyInts.ps spec_copyInts.res
theorem spec_copyInts.eq (n : Nat) (x0 : List Int) : spec_copyInts n x0 = (if List.length (List.replicate (0 : Nat) (0 : Int)) + List.length x0 ≤ Go.Refl.maxN then some (List.replicate 0 0 ++ x0) else none) := by kernel_rfl
theorem spec_copyInts.call : Callable Try.prog 77 := ⟨Try.f77, Try.func77, by kernel_rfl, by kernel_rfl⟩
theorem spec_copyInts.ok (n : Nat) : FC Try.prog 77 { params := spec_copyInts.ps, res := spec_copyInts.res, run := spec_copyInts n } :=
  evalF_ok (C := spec_copyInts.C) ⟨tb_ok, fun n _ _ h => tabOk (l := []) (all_nil) h, mixed⟩ spec_copyInts.A Try.func77 spec_copyInts.ps spec_copyInts.res n
end Go.Proofs.YthooakfbpoopaaaG
end
section
open Go Go.Refl Go.Proofs
set_option maxRecDepth 1000000
set_option maxHeartbeats 0
set_option linter.unusedVariables false
namespace Go.Proofs.YthooakfbpoopaaaG
abbrev spec_copyLoans.ps : List Pm := [.arg (.v (.slice (.pair (.int .i64) (.pair (.int .i64) (.slice (.int .i64))))))]
abbrev spec_copyLoans.res : List M := [(.own (.pair (.int .i64) (.pair (.int .i64) (.slice (.int .i64)))) 45)]
noncomputable def spec_copyLoans.C : Cfg := { tb := tb, tab := fun n f => Refl.look [(77, { params := spec_copyInts.ps, res := [.v (.slice (.int .i64))], run := spec_copyInts n })] f }
noncomputable def spec_copyLoans.A : Ann := { joins := [], loops := [(3, { live := [0, 3, 4], base := 33 })], ids := [(5, [(28, []), (30, [])])], pids := [], nroots := 97 }
noncomputable def spec_copyLoans (n : Nat) (x : List (Int × Int × List Int)) : Option (List (Int × Int × List Int)) := evalF spec_copyLoans.C spec_copyLoans.A Try.f99 spec_copyLoans.ps spec_copyLoans.res n x
noncomputable def spec_copyLoans.K0 (_ : Nat) : Kont (List (Int × Int × List Int)) := finK spec_copyLoans.C (Func.results Try.f99).toList spec_copyLoans.ps spec_copyLoans.res
noncomputable def spec_copyLoans.K1 (n : Nat) : Kont (List (Int × Int × List Int)) := seqK (fun s' k => evalC spec_copyLoans.C spec_copyLoans.A n (codeAt Try.f99 [1, 1, 1]) (cutAt spec_copyLoans.A.joins (codeAt Try.f99 [1, 1, 1]) s') k) (spec_copyLoans.K0 n)
noncomputable def spec_copyLoans.K2 (n : Nat) : Kont (List (Int × Int × List Int)) := blockK 0 (spec_copyLoans.K1 n)
noncomputable def spec_copyLoans.l3 (n m3 : Nat) (x0 : List (Int × Int × List Int)) (x4 : Int) (r33 : List (Int × Int × List Int)) : Option (List (Int × Int × List Int)) := loopE (cutAt spec_copyLoans.A.loops (codeAt Try.f99 [1, 1, 0, 1, 0, 0])) (fun s k => evalC spec_copyLoans.C spec_copyLoans.A n (codeAt Try.f99 [1, 1, 0, 1, 0, 0]) s k) m3 (St.of 33 97 [(0, .val (.slice (.pair (.int .i64) (.pair (.int .i64) (.slice (.int .i64))))) x0), (3, .own 33), (4, .val (.int .i64) x4)] [(33, .row (.pair (.int .i64) (.pair (.int .i64) (.slice (.int .i64)))) 45 r33)] []) (spec_copyLoans.K2 n)
theorem spec_copyLoans.eq (n : Nat) (x0 : List (Int × Int × List Int)) : spec_copyLoans n x0 = spec_copyLoans.l3 n n (x0) (0) (List.replicate 0 (0, 0, [])) := by kernel_rfl
theorem spec_copyLoans.l3_zero (n : Nat) (x0 : List (Int × Int × List Int)) (x4 : Int) (r33 : List (Int × Int × List Int)) : spec_copyLoans.l3 n 0 x0 x4 r33 = none := by kernel_rfl
theorem spec_copyLoans.l3_succ (n m3 : Nat) (x0 : List (Int × Int × List Int)) (x4 : Int) (r33 : List (Int × Int × List Int)) : spec_copyLoans.l3 n (m3 + 1) x0 x4 r33 = (if x4 < (↑(List.length x0) : Int) then (if 0 ≤ x4 then (if x4 < (↑(List.length x0) : Int) then (if 0 ≤ x4 then (if x4 < (↑(List.length x0) : Int) then (if 0 ≤ x4 then (if x4 < (↑(List.length x0) : Int) then ((spec_copyInts n (Prod.snd (Prod.snd (List.getD x0 (Int.toNat x4) (0, 0, []))))).bind fun y0 => (if List.length r33 + List.length (List.set (List.replicate (1 : Nat) ((0 : Int), (0 : Int), [])) (0 : Nat) (Prod.fst (List.getD x0 (Int.toNat x4) ((0 : Int), (0 : Int), [])), Prod.fst (Prod.snd (List.getD x0 (Int.toNat x4) ((0 : Int), (0 : Int), []))), y0)) ≤ Go.Refl.maxN then spec_copyLoans.l3 n m3 (x0) (Go.RowKit.wrap64 (x4 + 1)) (r33 ++ List.set (List.replicate 1 (0, 0, [])) 0 (Prod.fst (List.getD x0 (Int.toNat x4) (0, 0, [])), Prod.fst (Prod.snd (List.getD x0 (Int.toNat x4) (0, 0, []))), y0)) else none)) else none) else none) else none) else none) else none) else none) else some (r33)) := by kernel_rfl
theorem spec_copyLoans.call : Callable Try.prog 99 := ⟨Try.f99, Try.func99, by kernel_rfl, by kernel_rfl⟩
theorem spec_copyLoans.ok (n : Nat) : FC Try.prog 99 { params := spec_copyLoans.ps, res := spec_copyLoans.res, run := spec_copyLoans n } :=
  evalF_ok (C := spec_copyLoans.C) ⟨tb_ok, fun n _ _ h => tabOk (l := [(77, { params := spec_copyInts.ps, res := [.v (.slice (.int .i64))], run := spec_copyInts n })]) (all_cons ⟨FC.weak (.cons (.own _ _) .nil) HEq.rfl (spec_copyInts.ok n), spec_copyInts.call⟩ (all_nil)) h, mixed⟩ spec_copyLoans.A Try.func99 spec_copyLoans.ps spec_copyLoans.res n
end Go.Proofs.YthooakfbpoopaaaG
end
section
open Go Go.Refl Go.Proofs
set_option maxRecDepth 1000000
set_option maxHeartbeats 0
set_option linter.unusedVariables false
namespace Go.Proofs.YthooakfbpoopaaaG
abbrev spec_copyClub.ps : List Pm := [.arg (.v (.pair (.slice (.int .i64)) (.pair (.slice (.pair (.int .i64) (.pair (.int .i64) (.slice (.int .i64))))) (.pair (.int .i64) (.pair (.int .i64) (.int .i64))))))]
abbrev spec_copyClub.res : List M := [(.pr (.own (.int .i64) 3) (.pr (.own (.pair (.int .i64) (.pair (.int .i64) (.slice (.int .i64)))) 45) (.v (.pair (.int .i64) (.pair (.int .i64) (.int .i64))))))]
noncomputable def spec_copyClub.C : Cfg := { tb := tb, tab := fun n f => Refl.look [(77, { params := spec_copyInts.ps, res := spec_copyInts.res, run := spec_copyInts n }), (99, { params := spec_copyLoans.ps, res := spec_copyLoans.res, run := spec_copyLoans n })] f }
noncomputable def spec_copyClub.A : Ann := { joins := [], loops := [], ids := [], pids := [], nroots := 78 }
noncomputable def spec_copyClub (n : Nat) (x : List Int × List (Int × Int × List Int) × Int × Int × Int) : Option (List Int × List (Int × Int × List Int) × Int × Int × Int) := evalF spec_copyClub.C spec_copyClub.A Try.f74 spec_copyClub.ps spec_copyClub.res n x
noncomputable def spec_copyClub.K0 (_ : Nat) : Kont (List Int × List (Int × Int × List Int) × Int × Int × Int) := finK spec_copyClub.C (Func.results Try.f74).toList spec_copyClub.ps spec_copyClub.res
theorem spec_copyClub.eq (n : Nat) (x0 : List Int × List (Int × Int × List Int) × Int × Int × Int) : spec_copyClub n x0 = ((spec_copyInts n (Prod.fst x0)).bind fun y0 => ((spec_copyLoans n (Prod.fst (Prod.snd x0))).bind fun y1 => some ((y0, y1, Prod.fst (Prod.snd (Prod.snd x0)), Prod.fst (Prod.snd (Prod.snd (Prod.snd x0))), Prod.snd (Prod.snd (Prod.snd (Prod.snd x0))))))) := by kernel_rfl
theorem spec_copyClub.call : Callable Try.prog 74 := ⟨Try.f74, Try.func74, by kernel_rfl, by kernel_rfl⟩
theorem spec_copyClub.ok (n : Nat) : FC Try.prog 74 { params := spec_copyClub.ps, res := spec_copyClub.res, run := spec_copyClub n } :=
  evalF_ok (C := spec_copyClub.C) ⟨tb_ok, fun n _ _ h => tabOk (l := [(77, { params := spec_copyInts.ps, res := spec_copyInts.res, run := spec_copyInts n }), (99, { params := spec_copyLoans.ps, res := spec_copyLoans.res, run := spec_copyLoans n })]) (all_cons ⟨spec_copyInts.ok n, spec_copyInts.call⟩ (all_cons ⟨spec_copyLoans.ok n, spec_copyLoans.call⟩ (all_nil))) h, mixed⟩ spec_copyClub.A Try.func74 spec_copyClub.ps spec_copyClub.res n
end Go.Proofs.YthooakfbpoopaaaG
end
section
open Go Go.Refl Go.Proofs
set_option maxRecDepth 1000000
set_option maxHeartbeats 0
set_option linter.unusedVariables false
namespace Go.Proofs.YthooakfbpoopaaaG
abbrev spec_allIn.ps : List Pm := [.arg (.v (.slice (.int .i64))), .arg (.v (.int .i64)), .arg (.v (.int .i64))]
abbrev spec_allIn.res : List M := [.v .bool]
noncomputable def spec_allIn.C : Cfg := { tb := tb, tab := fun n f => Refl.look [(63, { params := spec_inRange.ps, res := spec_inRange.res, run := spec_inRange n })] f }
noncomputable def spec_allIn.A : Ann := { joins := [], loops := [(2, { live := [0, 1, 2, 7], base := 22 })], ids := [(4, [(20, [])])], pids := [], nroots := 86 }
noncomputable def spec_allIn (n : Nat) (x : List Int × Int × Int) : Option (Bool) := evalF spec_allIn.C spec_allIn.A Try.f91 spec_allIn.ps spec_allIn.res n x
noncomputable def spec_allIn.K0 (_ : Nat) : Kont (Bool) := finK spec_allIn.C (Func.results Try.f91).toList spec_allIn.ps spec_allIn.res
noncomputable def spec_allIn.K1 (n : Nat) : Kont (Bool) := seqK (fun s' k => evalC spec_allIn.C spec_allIn.A n (codeAt Try.f91 [1, 1]) (cutAt spec_allIn.A.joins (codeAt Try.f91 [1, 1]) s') k) (spec_allIn.K0 n)
noncomputable def spec_allIn.K2 (n : Nat) : Kont (Bool) := blockK 0 (spec_allIn.K1 n)
noncomputable def spec_allIn.l2 (n m2 : Nat) (x0 : List Int) (x1 : Int) (x2 : Int) (x7 : Int) : Option (Bool) := loopE (cutAt spec_allIn.A.loops (codeAt Try.f91 [1, 0, 1, 0, 0])) (fun s k => evalC spec_allIn.C spec_allIn.A n (codeAt Try.f91 [1, 0, 1, 0, 0]) s k) m2 (St.of 22 86 [(0, .val (.slice (.int .i64)) x0), (1, .val (.int .i64) x1), (2, .val (.int .i64) x2), (7, .val (.int .i64) x7)] [] []) (spec_allIn.K2 n)
theorem spec_allIn.eq (n : Nat) (x0 : List Int) (x1 : Int) (x2 : Int) : spec_allIn n (x0, x1, x2) = spec_allIn.l2 n n (x0) (x1) (x2) (0) := by kernel_rfl
theorem spec_allIn.l2_zero (n : Nat) (x0 : List Int) (x1 : Int) (x2 : Int) (x7 : Int) : spec_allIn.l2 n 0 x0 x1 x2 x7 = none := by kernel_rfl
theorem spec_allIn.l2_succ (n m2 : Nat) (x0 : List Int) (x1 : Int) (x2 : Int) (x7 : Int) : spec_allIn.l2 n (m2 + 1) x0 x1 x2 x7 = (if x7 < (↑(List.length x0) : Int) then (if 0 ≤ x7 then (if x7 < (↑(List.length x0) : Int) then ((spec_inRange n (List.getD x0 (Int.toNat x7) 0, x1, x2)).bind fun y0 => (if (!y0) = true then some (Bool.false) else spec_allIn.l2 n m2 (x0) (x1) (x2) (Go.RowKit.wrap64 (x7 + 1)))) else none) else none) else some (Bool.true)) := by kernel_rfl
theorem spec_allIn.call : Callable Try.prog 91 := ⟨Try.f91, Try.func91, by kernel_rfl, by kernel_rfl⟩
theorem spec_allIn.ok (n : Nat) : FC Try.prog 91 { params := spec_allIn.ps, res := spec_allIn.res, run := spec_allIn n } :=
  evalF_ok (C := spec_allIn.C) ⟨tb_ok, fun n _ _ h => tabOk (l := [(63, { params := spec_inRange.ps, res := spec_inRange.res, run := spec_inRange n })]) (all_cons ⟨spec_inRange.ok n, spec_inRange.call⟩ (all_nil)) h, mixed⟩ spec_allIn.A Try.func91 spec_allIn.ps spec_allIn.res n
end Go.Proofs.YthooakfbpoopaaaG
end
section
open Go Go.Refl Go.Proofs
set_option maxRecDepth 1000000
set_option maxHeartbeats 0
set_option linter.unusedVariables false
namespace Go.Proofs.YthooakfbpoopaaaG
abbrev spec_validStakes.ps : List Pm := [.arg (.v (.slice (.int .i64)))]
abbrev spec_validStakes.res : List M := [.v .bool]
noncomputable def spec_validStakes.C : Cfg := { tb := tb, tab := fun n f => Refl.look [(63, { params := spec_inRange.ps, res := spec_inRange.res, run := spec_inRange n }), (91, { params := spec_allIn.ps, res := spec_allIn.res, run := spec_allIn n })] f }
noncomputable def spec_validStakes.A : Ann := { joins := [], loops := [], ids := [(1, [(5, []), (8, [])])], pids := [], nroots := 74 }
noncomputable def spec_validStakes (n : Nat) (x : List Int) : Option (Bool) := evalF spec_validStakes.C spec_validStakes.A Try.f60 spec_validStakes.ps spec_validStakes.res n x
noncomputable def spec_validStakes.K0 (_ : Nat) : Kont (Bool) := finK spec_validStakes.C (Func.results Try.f60).toList spec_validStakes.ps spec_validStakes.res
theorem spec_validStakes.eq (n : Nat) (x0 : List Int) : spec_validStakes n x0 = ((spec_inRange n ((↑(List.length x0) : Int), 1, 12)).bind fun y0 => (if y0 = Bool.true then ((spec_allIn n (x0, 0, 100000)).bind fun y1 => some (y1)) else some (Bool.false))) := by kernel_rfl
theorem spec_validStakes.call : Callable Try.prog 60 := ⟨Try.f60, Try.func60, by kernel_rfl, by kernel_rfl⟩
theorem spec_validStakes.ok (n : Nat) : FC Try.prog 60 { params := spec_validStakes.ps, res := spec_validStakes.res, run := spec_validStakes n } :=
  evalF_ok (C := spec_validStakes.C) ⟨tb_ok, fun n _ _ h => tabOk (l := [(63, { params := spec_inRange.ps, res := spec_inRange.res, run := spec_inRange n }), (91, { params := spec_allIn.ps, res := spec_allIn.res, run := spec_allIn n })]) (all_cons ⟨spec_inRange.ok n, spec_inRange.call⟩ (all_cons ⟨spec_allIn.ok n, spec_allIn.call⟩ (all_nil))) h, mixed⟩ spec_validStakes.A Try.func60 spec_validStakes.ps spec_validStakes.res n
end Go.Proofs.YthooakfbpoopaaaG
end
section
open Go Go.Refl Go.Proofs
set_option maxRecDepth 1000000
set_option maxHeartbeats 0
set_option linter.unusedVariables false
namespace Go.Proofs.YthooakfbpoopaaaG
abbrev spec_split.ps : List Pm := [.arg (.v (.int .i64)), .arg (.v (.int .i64))]
abbrev spec_split.res : List M := [(.own (.int .i64) 3)]
noncomputable def spec_split.C : Cfg := { tb := tb, tab := fun n f => Refl.look [] f }
noncomputable def spec_split.A : Ann := { joins := [], loops := [(3, { live := [0, 1, 5, 6], base := 29 })], ids := [(8, [(26, [])])], pids := [], nroots := 93 }
noncomputable def spec_split (n : Nat) (x : Int × Int) : Option (List Int) := evalF spec_split.C spec_split.A Try.f104 spec_split.ps spec_split.res n x
noncomputable def spec_split.K0 (_ : Nat) : Kont (List Int) := finK spec_split.C (Func.results Try.f104).toList spec_split.ps spec_split.res
noncomputable def spec_split.K1 (n : Nat) : Kont (List Int) := seqK (fun s' k => evalC spec_split.C spec_split.A n (codeAt Try.f104 [1, 1, 1]) (cutAt spec_split.A.joins (codeAt Try.f104 [1, 1, 1]) s') k) (spec_split.K0 n)
noncomputable def spec_split.K2 (n : Nat) : Kont (List Int) := blockK 0 (spec_split.K1 n)
noncomputable def spec_split.l3 (n m3 : Nat) (x0 : Int) (x1 : Int) (x6 : Int) (r29 : List Int) : Option (List Int) := loopE (cutAt spec_split.A.loops (codeAt Try.f104 [1, 1, 0, 1, 0, 0])) (fun s k => evalC spec_split.C spec_split.A n (codeAt Try.f104 [1, 1, 0, 1, 0, 0]) s k) m3 (St.of 29 93 [(0, .val (.int .i64) x0), (1, .val (.int .i64) x1), (5, .own 29), (6, .val (.int .i64) x6)] [(29, .row (.int .i64) 3 r29)] []) (spec_split.K2 n)
theorem spec_split.eq (n : Nat) (x0 : Int) (x1 : Int) : spec_split n (x0, x1) = spec_split.l3 n n (x0) (x1) (0) (List.replicate 0 0) := by kernel_rfl
theorem spec_split.l3_zero (n : Nat) (x0 : Int) (x1 : Int) (x6 : Int) (r29 : List Int) : spec_split.l3 n 0 x0 x1 x6 r29 = none := by kernel_rfl
theorem spec_split.l3_succ (n m3 : Nat) (x0 : Int) (x1 : Int) (x6 : Int) (r29 : List Int) : spec_split.l3 n (m3 + 1) x0 x1 x6 r29 = (if x6 < x1 then (if x1 = 0 then none else (if x1 = 0 then none else (if x6 < Int.tmod x0 x1 then (if List.length r29 + List.length (List.set (List.replicate (1 : Nat) (0 : Int)) (0 : Nat) (Go.RowKit.wrap64 (Go.RowKit.wrap64 (Int.tdiv x0 x1) + (1 : Int)))) ≤ Go.Refl.maxN then spec_split.l3 n m3 (x0) (x1) (Go.RowKit.wrap64 (x6 + 1)) (r29 ++ List.set (List.replicate 1 0) 0 (Go.RowKit.wrap64 (Go.RowKit.wrap64 (Int.tdiv x0 x1) + 1))) else none) else (if List.length r29 + List.length (List.set (List.replicate (1 : Nat) (0 : Int)) (0 : Nat) (Go.RowKit.wrap64 (Int.tdiv x0 x1))) ≤ Go.Refl.maxN then spec_split.l3 n m3 (x0) (x1) (Go.RowKit.wrap64 (x6 + 1)) (r29 ++ List.set (List.replicate 1 0) 0 (Go.RowKit.wrap64 (Int.tdiv x0 x1))) else none)))) else some (r29)) := by kernel_rfl
theorem spec_split.call : Callable Try.prog 104 := ⟨Try.f104, Try.func104, by kernel_rfl, by kernel_rfl⟩
theorem spec_split.ok (n : Nat) : FC Try.prog 104 { params := spec_split.ps, res := spec_split.res, run := spec_split n } :=
  evalF_ok (C := spec_split.C) ⟨tb_ok, fun n _ _ h => tabOk (l := []) (all_nil) h, mixed⟩ spec_split.A Try.func104 spec_split.ps spec_split.res n
end Go.Proofs.YthooakfbpoopaaaG
end
section
open Go Go.Refl Go.Proofs
set_option maxRecDepth 1000000
set_option maxHeartbeats 0
set_option linter.unusedVariables false
namespace Go.Proofs.YthooakfbpoopaaaG
abbrev spec_exposures.ps : List Pm := [.arg (.v (.slice (.pair (.int .i64) (.pair (.int .i64) (.slice (.int .i64)))))), .arg (.v (.int .i64))]
abbrev spec_exposures.res : List M := [(.own (.int .i64) 3)]
noncomputable def spec_exposures.C : Cfg := { tb := tb, tab := fun n f => Refl.look [(104, { params := spec_split.ps, res := spec_split.res, run := spec_split n })] f }
noncomputable def spec_exposures.A : Ann := { joins := [], loops := [(3, { live := [0, 5, 6], base := 62 }), (7, { live := [0, 5, 6, 7, 8], base := 62 })], ids := [], pids := [], nroots := 126 }
noncomputable def spec_exposures (n : Nat) (x : List (Int × Int × List Int) × Int) : Option (List Int) := evalF spec_exposures.C spec_exposures.A Try.f112 spec_exposures.ps spec_exposures.res n x
noncomputable def spec_exposures.K0 (_ : Nat) : Kont (List Int) := finK spec_exposures.C (Func.results Try.f112).toList spec_exposures.ps spec_exposures.res
noncomputable def spec_exposures.K1 (n : Nat) : Kont (List Int) := seqK (fun s' k => evalC spec_exposures.C spec_exposures.A n (codeAt Try.f112 [1, 1, 1]) (cutAt spec_exposures.A.joins (codeAt Try.f112 [1, 1, 1]) s') k) (spec_exposures.K0 n)
noncomputable def spec_exposures.K2 (n : Nat) : Kont (List Int) := blockK 0 (spec_exposures.K1 n)
noncomputable def spec_exposures.K3 (n m3 : Nat) : Kont (List Int) := loopK (cutAt spec_exposures.A.loops (codeAt Try.f112 [1, 1, 0, 1, 0, 0])) (fun s k => evalC spec_exposures.C spec_exposures.A n (codeAt Try.f112 [1, 1, 0, 1, 0, 0]) s k) m3 (spec_exposures.K2 n)
noncomputable def spec_exposures.K4 (n m3 : Nat) : Kont (List Int) := seqK (fun s' k => evalC spec_exposures.C spec_exposures.A n (codeAt Try.f112 [1, 1, 0, 1, 0, 0, 1, 1]) (cutAt spec_exposures.A.joins (codeAt Try.f112 [1, 1, 0, 1, 0, 0, 1, 1]) s') k) (spec_exposures.K3 n m3)
noncomputable def spec_exposures.K5 (n m3 : Nat) : Kont (List Int) := blockK 1 (spec_exposures.K4 n m3)
noncomputable def spec_exposures.K6 (n m3 : Nat) : Kont (List Int) := blockK 2 (spec_exposures.K5 n m3)
noncomputable def spec_exposures.l3 (n m3 : Nat) (x0 : List (Int × Int × List Int)) (x6 : Int) (r62 : List Int) : Option (List Int) := loopE (cutAt spec_exposures.A.loops (codeAt Try.f112 [1, 1, 0, 1, 0, 0])) (fun s k => evalC spec_exposures.C spec_exposures.A n (codeAt Try.f112 [1, 1, 0, 1, 0, 0]) s k) m3 (St.of 62 126 [(0, .val (.slice (.pair (.int .i64) (.pair (.int .i64) (.slice (.int .i64))))) x0), (5, .own 62), (6, .val (.int .i64) x6)] [(62, .row (.int .i64) 3 r62)] []) (spec_exposures.K2 n)
noncomputable def spec_exposures.l7 (n m3 m7 : Nat) (x0 : List (Int × Int × List Int)) (x6 : Int) (x8 : Int) (r62 : List Int) (r63 : List Int) : Option (List Int) := loopE (cutAt spec_exposures.A.loops (codeAt Try.f112 [1, 1, 0, 1, 0, 0, 1, 0, 0, 1, 1, 0, 0])) (fun s k => evalC spec_exposures.C spec_exposures.A n (codeAt Try.f112 [1, 1, 0, 1, 0, 0, 1, 0, 0, 1, 1, 0, 0]) s k) m7 (St.of 62 126 [(0, .val (.slice (.pair (.int .i64) (.pair (.int .i64) (.slice (.int .i64))))) x0), (5, .own 62), (6, .val (.int .i64) x6), (7, .own 63), (8, .val (.int .i64) x8)] [(62, .row (.int .i64) 3 r62), (63, .row (.int .i64) 3 r63)] []) (spec_exposures.K6 n m3)
theorem spec_exposures.eq (n : Nat) (x0 : List (Int × Int × List Int)) (x1 : Int) : spec_exposures n (x0, x1) = (if 0 ≤ x1 then (if x1 ≤ x1 then (if x1 ≤ (↑Go.Refl.maxN : Int) then spec_exposures.l3 n n (x0) (0) (List.replicate (Int.toNat x1) 0) else none) else none) else none) := by kernel_rfl
theorem spec_exposures.l3_zero (n : Nat) (x0 : List (Int × Int × List Int)) (x6 : Int) (r62 : List Int) : spec_exposures.l3 n 0 x0 x6 r62 = none := by kernel_rfl
theorem spec_exposures.l3_succ (n m3 : Nat) (x0 : List (Int × Int × List Int)) (x6 : Int) (r62 : List Int) : spec_exposures.l3 n (m3 + 1) x0 x6 r62 = (if x6 < (↑(List.length x0) : Int) then (if 0 ≤ x6 then (if x6 < (↑(List.length x0) : Int) then (if 0 ≤ x6 then (if x6 < (↑(List.length x0) : Int) then ((spec_split n (Prod.fst (Prod.snd (List.getD x0 (Int.toNat x6) (0, 0, []))), (↑(List.length (Prod.snd (Prod.snd (List.getD x0 (Int.toNat x6) ((0 : Int), (0 : Int), []))))) : Int))).bind fun y0 => spec_exposures.l7 n m3 n (x0) (x6) (0) (r62) (y0)) else none) else none) else none) else none) else some (r62)) := by kernel_rfl
theorem spec_exposures.l7_zero (n m3 : Nat) (x0 : List (Int × Int × List Int)) (x6 : Int) (x8 : Int) (r62 : List Int) (r63 : List Int) : spec_exposures.l7 n m3 0 x0 x6 x8 r62 r63 = none := by kernel_rfl
theorem spec_exposures.l7_succ (n m3 m7 : Nat) (x0 : List (Int × Int × List Int)) (x6 : Int) (x8 : Int) (r62 : List Int) (r63 : List Int) : spec_exposures.l7 n m3 (m7 + 1) x0 x6 x8 r62 r63 = (if x8 < (↑(List.length r63) : Int) then (if 0 ≤ x6 then (if x6 < (↑(List.length x0) : Int) then (if 0 ≤ x8 then (if x8 < (↑(List.length (Prod.snd (Prod.snd (List.getD x0 (Int.toNat x6) ((0 : Int), (0 : Int), []))))) : Int) then (if 0 ≤ x6 then (if x6 < (↑(List.length x0) : Int) then (if 0 ≤ x8 then (if x8 < (↑(List.length (Prod.snd (Prod.snd (List.getD x0 (Int.toNat x6) ((0 : Int), (0 : Int), []))))) : Int) then (if 0 ≤ List.getD (Prod.snd (Prod.snd (List.getD x0 (Int.toNat x6) (0, 0, [])))) (Int.toNat x8) 0 then (if List.getD (Prod.snd (Prod.snd (List.getD x0 (Int.toNat x6) (0, 0, [])))) (Int.toNat x8) 0 < (↑(List.length r62) : Int) then (if 0 ≤ x8 then (if x8 < (↑(List.length r63) : Int) then (if 0 ≤ List.getD (Prod.snd (Prod.snd (List.getD x0 (Int.toNat x6) (0, 0, [])))) (Int.toNat x8) 0 then (if List.getD (Prod.snd (Prod.snd (List.getD x0 (Int.toNat x6) (0, 0, [])))) (Int.toNat x8) 0 < (↑(List.length r62) : Int) then spec_exposures.l7 n m3 m7 (x0) (x6) (Go.RowKit.wrap64 (x8 + 1)) (List.set r62 (Int.toNat (List.getD (Prod.snd (Prod.snd (List.getD x0 (Int.toNat x6) (0, 0, [])))) (Int.toNat x8) 0)) (Go.RowKit.wrap64 (List.getD r62 (Int.toNat (List.getD (Prod.snd (Prod.snd (List.getD x0 (Int.toNat x6) (0, 0, [])))) (Int.toNat x8) 0)) 0 + List.getD r63 (Int.toNat x8) 0))) (r63) else none) else none) else none) else none) else none) else none) else none) else none) else none) else none) else none) else none) else none) else none) else spec_exposures.l3 n m3 (x0) (Go.RowKit.wrap64 (x6 + 1)) (r62)) := by kernel_rfl
theorem spec_exposures.call : Callable Try.prog 112 := ⟨Try.f112, Try.func112, by kernel_rfl, by kernel_rfl⟩
theorem spec_exposures.ok (n : Nat) : FC Try.prog 112 { params := spec_exposures.ps, res := spec_exposures.res, run := spec_exposures n } :=
  evalF_ok (C := spec_exposures.C) ⟨tb_ok, fun n _ _ h => tabOk (l := [(104, { params := spec_split.ps, res := spec_split.res, run := spec_split n })]) (all_cons ⟨spec_split.ok n, spec_split.call⟩ (all_nil)) h, mixed⟩ spec_exposures.A Try.func112 spec_exposures.ps spec_exposures.res n
end Go.Proofs.YthooakfbpoopaaaG
end
section
open Go Go.Refl Go.Proofs
set_option maxRecDepth 1000000
set_option maxHeartbeats 0
set_option linter.unusedVariables false
namespace Go.Proofs.YthooakfbpoopaaaG
abbrev spec_free.ps : List Pm := [.arg (.v (.slice (.int .i64))), .arg (.v (.slice (.pair (.int .i64) (.pair (.int .i64) (.slice (.int .i64))))))]
abbrev spec_free.res : List M := [(.own (.int .i64) 3)]
noncomputable def spec_free.C : Cfg := { tb := tb, tab := fun n f => Refl.look [(112, { params := spec_exposures.ps, res := spec_exposures.res, run := spec_exposures n })] f }
noncomputable def spec_free.A : Ann := { joins := [], loops := [(3, { live := [0, 5, 6], base := 30 })], ids := [], pids := [], nroots := 94 }
noncomputable def spec_free (n : Nat) (x : List Int × List (Int × Int × List Int)) : Option (List Int) := evalF spec_free.C spec_free.A Try.f109 spec_free.ps spec_free.res n x
noncomputable def spec_free.K0 (_ : Nat) : Kont (List Int) := finK spec_free.C (Func.results Try.f109).toList spec_free.ps spec_free.res
noncomputable def spec_free.K1 (n : Nat) : Kont (List Int) := seqK (fun s' k => evalC spec_free.C spec_free.A n (codeAt Try.f109 [1, 1, 1]) (cutAt spec_free.A.joins (codeAt Try.f109 [1, 1, 1]) s') k) (spec_free.K0 n)
noncomputable def spec_free.K2 (n : Nat) : Kont (List Int) := blockK 0 (spec_free.K1 n)
noncomputable def spec_free.l3 (n m3 : Nat) (x0 : List Int) (x6 : Int) (r30 : List Int) : Option (List Int) := loopE (cutAt spec_free.A.loops (codeAt Try.f109 [1, 1, 0, 1, 0, 0])) (fun s k => evalC spec_free.C spec_free.A n (codeAt Try.f109 [1, 1, 0, 1, 0, 0]) s k) m3 (St.of 30 94 [(0, .val (.slice (.int .i64)) x0), (5, .own 30), (6, .val (.int .i64) x6)] [(30, .row (.int .i64) 3 r30)] []) (spec_free.K2 n)
theorem spec_free.eq (n : Nat) (x0 : List Int) (x1 : List (Int × Int × List Int)) : spec_free n (x0, x1) = ((spec_exposures n (x1, (↑(List.length x0) : Int))).bind fun y0 => spec_free.l3 n n (x0) (0) (y0)) := by kernel_rfl
theorem spec_free.l3_zero (n : Nat) (x0 : List Int) (x6 : Int) (r30 : List Int) : spec_free.l3 n 0 x0 x6 r30 = none := by kernel_rfl
theorem spec_free.l3_succ (n m3 : Nat) (x0 : List Int) (x6 : Int) (r30 : List Int) : spec_free.l3 n (m3 + 1) x0 x6 r30 = (if x6 < (↑(List.length r30) : Int) then (if 0 ≤ x6 then (if x6 < (↑(List.length x0) : Int) then (if 0 ≤ x6 then (if x6 < (↑(List.length r30) : Int) then (if 0 ≤ x6 then (if x6 < (↑(List.length r30) : Int) then spec_free.l3 n m3 (x0) (Go.RowKit.wrap64 (x6 + 1)) (List.set r30 (Int.toNat x6) (Go.RowKit.wrap64 (List.getD x0 (Int.toNat x6) 0 - List.getD r30 (Int.toNat x6) 0))) else none) else none) else none) else none) else none) else none) else some (r30)) := by kernel_rfl
theorem spec_free.call : Callable Try.prog 109 := ⟨Try.f109, Try.func109, by kernel_rfl, by kernel_rfl⟩
theorem spec_free.ok (n : Nat) : FC Try.prog 109 { params := spec_free.ps, res := spec_free.res, run := spec_free n } :=
  evalF_ok (C := spec_free.C) ⟨tb_ok, fun n _ _ h => tabOk (l := [(112, { params := spec_exposures.ps, res := spec_exposures.res, run := spec_exposures n })]) (all_cons ⟨spec_exposures.ok n, spec_exposures.call⟩ (all_nil)) h, mixed⟩ spec_free.A Try.func109 spec_free.ps spec_free.res n
end Go.Proofs.YthooakfbpoopaaaG
end
section
open Go Go.Refl Go.Proofs
set_option maxRecDepth 1000000
set_option maxHeartbeats 0
set_option linter.unusedVariables false
namespace Go.Proofs.YthooakfbpoopaaaG
abbrev spec_safe.ps : List Pm := [.arg (.v (.slice (.int .i64))), .arg (.v (.slice (.pair (.int .i64) (.pair (.int .i64) (.slice (.int .i64))))))]
abbrev spec_safe.res : List M := [.v .bool]
noncomputable def spec_safe.C : Cfg := { tb := tb, tab := fun n f => Refl.look [(109, { params := spec_free.ps, res := spec_free.res, run := spec_free n }), (91, { params := spec_allIn.ps, res := spec_allIn.res, run := spec_allIn n })] f }
noncomputable def spec_safe.A : Ann := { joins := [], loops := [], ids := [(1, [(8, [])])], pids := [], nroots := 73 }
noncomputable def spec_safe (n : Nat) (x : List Int × List (Int × Int × List Int)) : Option (Bool) := evalF spec_safe.C spec_safe.A Try.f100 spec_safe.ps spec_safe.res n x
noncomputable def spec_safe.K0 (_ : Nat) : Kont (Bool) := finK spec_safe.C (Func.results Try.f100).toList spec_safe.ps spec_safe.res
theorem spec_safe.eq (n : Nat) (x0 : List Int) (x1 : List (Int × Int × List Int)) : spec_safe n (x0, x1) = ((spec_free n (x0, x1)).bind fun y0 => ((spec_allIn n (y0, 0, 100000)).bind fun y1 => some (y1))) := by kernel_rfl
theorem spec_safe.call : Callable Try.prog 100 := ⟨Try.f100, Try.func100, by kernel_rfl, by kernel_rfl⟩
theorem spec_safe.ok (n : Nat) : FC Try.prog 100 { params := spec_safe.ps, res := spec_safe.res, run := spec_safe n } :=
  evalF_ok (C := spec_safe.C) ⟨tb_ok, fun n _ _ h => tabOk (l := [(109, { params := spec_free.ps, res := spec_free.res, run := spec_free n }), (91, { params := spec_allIn.ps, res := spec_allIn.res, run := spec_allIn n })]) (all_cons ⟨spec_free.ok n, spec_free.call⟩ (all_cons ⟨spec_allIn.ok n, spec_allIn.call⟩ (all_nil))) h, mixed⟩ spec_safe.A Try.func100 spec_safe.ps spec_safe.res n
end Go.Proofs.YthooakfbpoopaaaG
end
section
open Go Go.Refl Go.Proofs
set_option maxRecDepth 1000000
set_option maxHeartbeats 0
set_option linter.unusedVariables false
namespace Go.Proofs.YthooakfbpoopaaaG
abbrev spec_moveMoney.ps : List Pm := [.arg (.pr (.own (.int .i64) 3) (.pr (.own (.pair (.int .i64) (.pair (.int .i64) (.slice (.int .i64)))) 45) (.v (.pair (.int .i64) (.pair (.int .i64) (.int .i64)))))), .arg (.v (.pair (.int .i64) (.pair (.int .i64) (.pair (.int .i64) (.pair (.int .i64) (.pair (.slice (.int .i64)) (.pair (.int .i64) (.int .i64))))))))]
abbrev spec_moveMoney.res : List M := [(.pr (.own (.int .i64) 3) (.pr (.own (.pair (.int .i64) (.pair (.int .i64) (.slice (.int .i64)))) 45) (.v (.pair (.int .i64) (.pair (.int .i64) (.int .i64)))))), .v .bool]
noncomputable def spec_moveMoney.C : Cfg := { tb := tb, tab := fun n f => Refl.look [(63, { params := spec_inRange.ps, res := spec_inRange.res, run := spec_inRange n }), (60, { params := spec_validStakes.ps, res := spec_validStakes.res, run := spec_validStakes n }), (100, { params := spec_safe.ps, res := spec_safe.res, run := spec_safe n })] f }
noncomputable def spec_moveMoney.A : Ann := { joins := [], loops := [], ids := [(1, [(13, []), (18, [])]), (8, [(50, []), (59, [])])], pids := [(0, [118, 119])], nroots := 126 }
noncomputable def spec_moveMoney (n : Nat) (x : (List Int × List (Int × Int × List Int) × Int × Int × Int) × Int × Int × Int × Int × List Int × Int × Int) : Option ((List Int × List (Int × Int × List Int) × Int × Int × Int) × Bool) := evalF spec_moveMoney.C spec_moveMoney.A Try.f75 spec_moveMoney.ps spec_moveMoney.res n x
noncomputable def spec_moveMoney.K0 (_ : Nat) : Kont ((List Int × List (Int × Int × List Int) × Int × Int × Int) × Bool) := finK spec_moveMoney.C (Func.results Try.f75).toList spec_moveMoney.ps spec_moveMoney.res
theorem spec_moveMoney.eq (n : Nat) (x0 : List Int × List (Int × Int × List Int) × Int × Int × Int) (x1 : Int × Int × Int × Int × List Int × Int × Int) : spec_moveMoney n (x0, x1) = ((spec_inRange n (Prod.fst (Prod.snd x1), 0, Go.RowKit.wrap64 ((↑(List.length (Prod.fst x0)) : Int) - 1))).bind fun y0 => (if (!y0) = Bool.true then some (((Prod.fst x0, Prod.fst (Prod.snd x0), Prod.fst (Prod.snd (Prod.snd x0)), Prod.fst (Prod.snd (Prod.snd (Prod.snd x0))), Prod.snd (Prod.snd (Prod.snd (Prod.snd x0)))), Bool.false)) else ((spec_inRange n (Prod.fst (Prod.snd (Prod.snd x1)), 1, 100000)).bind fun y1 => (if (!y1) = true then some (((Prod.fst x0, Prod.fst (Prod.snd x0), Prod.fst (Prod.snd (Prod.snd x0)), Prod.fst (Prod.snd (Prod.snd (Prod.snd x0))), Prod.snd (Prod.snd (Prod.snd (Prod.snd x0)))), Bool.false)) else (if Prod.fst x1 = 2 then (if 0 ≤ Prod.fst (Prod.snd x1) then (if Prod.fst (Prod.snd x1) < (↑(List.length (Prod.fst x0)) : Int) then (if 0 ≤ Prod.fst (Prod.snd x1) then (if Prod.fst (Prod.snd x1) < (↑(List.length (Prod.fst x0)) : Int) then ((spec_validStakes n (List.set (Prod.fst x0) (Int.toNat (Prod.fst (Prod.snd x1))) (Go.RowKit.wrap64 (List.getD (Prod.fst x0) (Int.toNat (Prod.fst (Prod.snd x1))) 0 + Go.RowKit.wrap64 (0 - Prod.fst (Prod.snd (Prod.snd x1))))))).bind fun y2 => (if y2 = Bool.true then (if Go.RowKit.wrap64 (0 - Prod.fst (Prod.snd (Prod.snd x1))) > 0 then some (((List.set (Prod.fst x0) (Int.toNat (Prod.fst (Prod.snd x1))) (Go.RowKit.wrap64 (List.getD (Prod.fst x0) (Int.toNat (Prod.fst (Prod.snd x1))) 0 + Go.RowKit.wrap64 (0 - Prod.fst (Prod.snd (Prod.snd x1))))), Prod.fst (Prod.snd x0), Go.RowKit.wrap64 (Prod.fst (Prod.snd (Prod.snd x0)) + Go.RowKit.wrap64 (0 - Prod.fst (Prod.snd (Prod.snd x1)))), Prod.fst (Prod.snd (Prod.snd (Prod.snd x0))), Prod.snd (Prod.snd (Prod.snd (Prod.snd x0)))), Bool.true)) else ((spec_safe n (List.set (Prod.fst x0) (Int.toNat (Prod.fst (Prod.snd x1))) (Go.RowKit.wrap64 (List.getD (Prod.fst x0) (Int.toNat (Prod.fst (Prod.snd x1))) 0 + Go.RowKit.wrap64 (0 - Prod.fst (Prod.snd (Prod.snd x1))))), Prod.fst (Prod.snd x0))).bind fun y3 => some (((List.set (Prod.fst x0) (Int.toNat (Prod.fst (Prod.snd x1))) (Go.RowKit.wrap64 (List.getD (Prod.fst x0) (Int.toNat (Prod.fst (Prod.snd x1))) 0 + Go.RowKit.wrap64 (0 - Prod.fst (Prod.snd (Prod.snd x1))))), Prod.fst (Prod.snd x0), Go.RowKit.wrap64 (Prod.fst (Prod.snd (Prod.snd x0)) + Go.RowKit.wrap64 (0 - Prod.fst (Prod.snd (Prod.snd x1)))), Prod.fst (Prod.snd (Prod.snd (Prod.snd x0))), Prod.snd (Prod.snd (Prod.snd (Prod.snd x0)))), y3)))) else some (((List.set (Prod.fst x0) (Int.toNat (Prod.fst (Prod.snd x1))) (Go.RowKit.wrap64 (List.getD (Prod.fst x0) (Int.toNat (Prod.fst (Prod.snd x1))) 0 + Go.RowKit.wrap64 (0 - Prod.fst (Prod.snd (Prod.snd x1))))), Prod.fst (Prod.snd x0), Go.RowKit.wrap64 (Prod.fst (Prod.snd (Prod.snd x0)) + Go.RowKit.wrap64 (0 - Prod.fst (Prod.snd (Prod.snd x1)))), Prod.fst (Prod.snd (Prod.snd (Prod.snd x0))), Prod.snd (Prod.snd (Prod.snd (Prod.snd x0)))), Bool.false)))) else none) else none) else none) else none) else (if 0 ≤ Prod.fst (Prod.snd x1) then (if Prod.fst (Prod.snd x1) < (↑(List.length (Prod.fst x0)) : Int) then (if 0 ≤ Prod.fst (Prod.snd x1) then (if Prod.fst (Prod.snd x1) < (↑(List.length (Prod.fst x0)) : Int) then ((spec_validStakes n (List.set (Prod.fst x0) (Int.toNat (Prod.fst (Prod.snd x1))) (Go.RowKit.wrap64 (List.getD (Prod.fst x0) (Int.toNat (Prod.fst (Prod.snd x1))) 0 + Prod.fst (Prod.snd (Prod.snd x1)))))).bind fun y4 => (if y4 = Bool.true then (if Prod.fst (Prod.snd (Prod.snd x1)) > 0 then some (((List.set (Prod.fst x0) (Int.toNat (Prod.fst (Prod.snd x1))) (Go.RowKit.wrap64 (List.getD (Prod.fst x0) (Int.toNat (Prod.fst (Prod.snd x1))) 0 + Prod.fst (Prod.snd (Prod.snd x1)))), Prod.fst (Prod.snd x0), Go.RowKit.wrap64 (Prod.fst (Prod.snd (Prod.snd x0)) + Prod.fst (Prod.snd (Prod.snd x1))), Prod.fst (Prod.snd (Prod.snd (Prod.snd x0))), Prod.snd (Prod.snd (Prod.snd (Prod.snd x0)))), Bool.true)) else ((spec_safe n (List.set (Prod.fst x0) (Int.toNat (Prod.fst (Prod.snd x1))) (Go.RowKit.wrap64 (List.getD (Prod.fst x0) (Int.toNat (Prod.fst (Prod.snd x1))) 0 + Prod.fst (Prod.snd (Prod.snd x1)))), Prod.fst (Prod.snd x0))).bind fun y5 => some (((List.set (Prod.fst x0) (Int.toNat (Prod.fst (Prod.snd x1))) (Go.RowKit.wrap64 (List.getD (Prod.fst x0) (Int.toNat (Prod.fst (Prod.snd x1))) 0 + Prod.fst (Prod.snd (Prod.snd x1)))), Prod.fst (Prod.snd x0), Go.RowKit.wrap64 (Prod.fst (Prod.snd (Prod.snd x0)) + Prod.fst (Prod.snd (Prod.snd x1))), Prod.fst (Prod.snd (Prod.snd (Prod.snd x0))), Prod.snd (Prod.snd (Prod.snd (Prod.snd x0)))), y5)))) else some (((List.set (Prod.fst x0) (Int.toNat (Prod.fst (Prod.snd x1))) (Go.RowKit.wrap64 (List.getD (Prod.fst x0) (Int.toNat (Prod.fst (Prod.snd x1))) 0 + Prod.fst (Prod.snd (Prod.snd x1)))), Prod.fst (Prod.snd x0), Go.RowKit.wrap64 (Prod.fst (Prod.snd (Prod.snd x0)) + Prod.fst (Prod.snd (Prod.snd x1))), Prod.fst (Prod.snd (Prod.snd (Prod.snd x0))), Prod.snd (Prod.snd (Prod.snd (Prod.snd x0)))), Bool.false)))) else none) else none) else none) else none)))))) := by kernel_rfl
theorem spec_moveMoney.call : Callable Try.prog 75 := ⟨Try.f75, Try.func75, by kernel_rfl, by kernel_rfl⟩
theorem spec_moveMoney.ok (n : Nat) : FC Try.prog 75 { params := spec_moveMoney.ps, res := spec_moveMoney.res, run := spec_moveMoney n } :=
  evalF_ok (C := spec_moveMoney.C) ⟨tb_ok, fun n _ _ h => tabOk (l := [(63, { params := spec_inRange.ps, res := spec_inRange.res, run := spec_inRange n }), (60, { params := spec_validStakes.ps, res := spec_validStakes.res, run := spec_validStakes n }), (100, { params := spec_safe.ps, res := spec_safe.res, run := spec_safe n })]) (all_cons ⟨spec_inRange.ok n, spec_inRange.call⟩ (all_cons ⟨spec_validStakes.ok n, spec_validStakes.call⟩ (all_cons ⟨spec_safe.ok n, spec_safe.call⟩ (all_nil)))) h, mixed⟩ spec_moveMoney.A Try.func75 spec_moveMoney.ps spec_moveMoney.res n
end Go.Proofs.YthooakfbpoopaaaG
end
section
open Go Go.Refl Go.Proofs
set_option maxRecDepth 1000000
set_option maxHeartbeats 0
set_option linter.unusedVariables false
namespace Go.Proofs.YthooakfbpoopaaaG
abbrev spec_placeIn.ps : List Pm := [.arg (.v (.slice (.int .i64))), .arg (.v (.int .i64))]
abbrev spec_placeIn.res : List M := [.v (.int .i64)]
noncomputable def spec_placeIn.C : Cfg := { tb := tb, tab := fun n f => Refl.look [] f }
noncomputable def spec_placeIn.A : Ann := { joins := [], loops := [(2, { live := [0, 1, 5], base := 19 })], ids := [], pids := [], nroots := 83 }
noncomputable def spec_placeIn (n : Nat) (x : List Int × Int) : Option (Int) := evalF spec_placeIn.C spec_placeIn.A Try.f93 spec_placeIn.ps spec_placeIn.res n x
noncomputable def spec_placeIn.K0 (_ : Nat) : Kont (Int) := finK spec_placeIn.C (Func.results Try.f93).toList spec_placeIn.ps spec_placeIn.res
noncomputable def spec_placeIn.K1 (n : Nat) : Kont (Int) := seqK (fun s' k => evalC spec_placeIn.C spec_placeIn.A n (codeAt Try.f93 [1, 1]) (cutAt spec_placeIn.A.joins (codeAt Try.f93 [1, 1]) s') k) (spec_placeIn.K0 n)
noncomputable def spec_placeIn.K2 (n : Nat) : Kont (Int) := blockK 0 (spec_placeIn.K1 n)
noncomputable def spec_placeIn.l2 (n m2 : Nat) (x0 : List Int) (x1 : Int) (x5 : Int) : Option (Int) := loopE (cutAt spec_placeIn.A.loops (codeAt Try.f93 [1, 0, 1, 0, 0])) (fun s k => evalC spec_placeIn.C spec_placeIn.A n (codeAt Try.f93 [1, 0, 1, 0, 0]) s k) m2 (St.of 19 83 [(0, .val (.slice (.int .i64)) x0), (1, .val (.int .i64) x1), (5, .val (.int .i64) x5)] [] []) (spec_placeIn.K2 n)
theorem spec_placeIn.eq (n : Nat) (x0 : List Int) (x1 : Int) : spec_placeIn n (x0, x1) = spec_placeIn.l2 n n (x0) (x1) (0) := by kernel_rfl
theorem spec_placeIn.l2_zero (n : Nat) (x0 : List Int) (x1 : Int) (x5 : Int) : spec_placeIn.l2 n 0 x0 x1 x5 = none := by kernel_rfl
theorem spec_placeIn.l2_succ (n m2 : Nat) (x0 : List Int) (x1 : Int) (x5 : Int) : spec_placeIn.l2 n (m2 + 1) x0 x1 x5 = (if x5 < (↑(List.length x0) : Int) then (if 0 ≤ x5 then (if x5 < (↑(List.length x0) : Int) then (if List.getD x0 (Int.toNat x5) 0 = x1 then some (x5) else spec_placeIn.l2 n m2 (x0) (x1) (Go.RowKit.wrap64 (x5 + 1))) else none) else none) else some ((-1))) := by kernel_rfl
theorem spec_placeIn.call : Callable Try.prog 93 := ⟨Try.f93, Try.func93, by kernel_rfl, by kernel_rfl⟩
theorem spec_placeIn.ok (n : Nat) : FC Try.prog 93 { params := spec_placeIn.ps, res := spec_placeIn.res, run := spec_placeIn n } :=
  evalF_ok (C := spec_placeIn.C) ⟨tb_ok, fun n _ _ h => tabOk (l := []) (all_nil) h, mixed⟩ spec_placeIn.A Try.func93 spec_placeIn.ps spec_placeIn.res n
end Go.Proofs.YthooakfbpoopaaaG
end
section
open Go Go.Refl Go.Proofs
set_option maxRecDepth 1000000
set_option maxHeartbeats 0
set_option linter.unusedVariables false
namespace Go.Proofs.YthooakfbpoopaaaG
abbrev spec_validMembers.ps : List Pm := [.arg (.v (.slice (.int .i64))), .arg (.v (.int .i64))]
abbrev spec_validMembers.res : List M := [.v .bool]
noncomputable def spec_validMembers.C : Cfg := { tb := tb, tab := fun n f => Refl.look [(63, { params := spec_inRange.ps, res := spec_inRange.res, run := spec_inRange n }), (93, { params := spec_placeIn.ps, res := spec_placeIn.res, run := spec_placeIn n })] f }
noncomputable def spec_validMembers.A : Ann := { joins := [], loops := [(2, { live := [0, 1, 5], base := 31 })], ids := [(4, [(18, []), (28, [])])], pids := [], nroots := 95 }
noncomputable def spec_validMembers (n : Nat) (x : List Int × Int) : Option (Bool) := evalF spec_validMembers.C spec_validMembers.A Try.f92 spec_validMembers.ps spec_validMembers.res n x
noncomputable def spec_validMembers.K0 (_ : Nat) : Kont (Bool) := finK spec_validMembers.C (Func.results Try.f92).toList spec_validMembers.ps spec_validMembers.res
noncomputable def spec_validMembers.K1 (n : Nat) : Kont (Bool) := seqK (fun s' k => evalC spec_validMembers.C spec_validMembers.A n (codeAt Try.f92 [1, 1]) (cutAt spec_validMembers.A.joins (codeAt Try.f92 [1, 1]) s') k) (spec_validMembers.K0 n)
noncomputable def spec_validMembers.K2 (n : Nat) : Kont (Bool) := blockK 0 (spec_validMembers.K1 n)
noncomputable def spec_validMembers.l2 (n m2 : Nat) (x0 : List Int) (x1 : Int) (x5 : Int) : Option (Bool) := loopE (cutAt spec_validMembers.A.loops (codeAt Try.f92 [1, 0, 1, 0, 0])) (fun s k => evalC spec_validMembers.C spec_validMembers.A n (codeAt Try.f92 [1, 0, 1, 0, 0]) s k) m2 (St.of 31 95 [(0, .val (.slice (.int .i64)) x0), (1, .val (.int .i64) x1), (5, .val (.int .i64) x5)] [] []) (spec_validMembers.K2 n)
theorem spec_validMembers.eq (n : Nat) (x0 : List Int) (x1 : Int) : spec_validMembers n (x0, x1) = spec_validMembers.l2 n n (x0) (x1) (0) := by kernel_rfl
theorem spec_validMembers.l2_zero (n : Nat) (x0 : List Int) (x1 : Int) (x5 : Int) : spec_validMembers.l2 n 0 x0 x1 x5 = none := by kernel_rfl
theorem spec_validMembers.l2_succ (n m2 : Nat) (x0 : List Int) (x1 : Int) (x5 : Int) : spec_validMembers.l2 n (m2 + 1) x0 x1 x5 = (if x5 < (↑(List.length x0) : Int) then (if 0 ≤ x5 then (if x5 < (↑(List.length x0) : Int) then ((spec_inRange n (List.getD x0 (Int.toNat x5) 0, 0, Go.RowKit.wrap64 (x1 - 1))).bind fun y0 => (if (!y0) = Bool.true then some (Bool.false) else (if 0 ≤ x5 then (if x5 ≤ (↑(List.length x0) : Int) then (if 0 ≤ x5 then (if x5 < (↑(List.length x0) : Int) then ((spec_placeIn n (List.take (Int.toNat x5) x0, List.getD x0 (Int.toNat x5) 0)).bind fun y1 => (if y1 ≥ 0 then some (Bool.false) else spec_validMembers.l2 n m2 (x0) (x1) (Go.RowKit.wrap64 (x5 + 1)))) else none) else none) else none) else none))) else none) else none) else some (Bool.true)) := by kernel_rfl
theorem spec_validMembers.call : Callable Try.prog 92 := ⟨Try.f92, Try.func92, by kernel_rfl, by kernel_rfl⟩
theorem spec_validMembers.ok (n : Nat) : FC Try.prog 92 { params := spec_validMembers.ps, res := spec_validMembers.res, run := spec_validMembers n } :=
  evalF_ok (C := spec_validMembers.C) ⟨tb_ok, fun n _ _ h => tabOk (l := [(63, { params := spec_inRange.ps, res := spec_inRange.res, run := spec_inRange n }), (93, { params := spec_placeIn.ps, res := spec_placeIn.res, run := spec_placeIn n })]) (all_cons ⟨spec_inRange.ok n, spec_inRange.call⟩ (all_cons ⟨spec_placeIn.ok n, spec_placeIn.call⟩ (all_nil))) h, mixed⟩ spec_validMembers.A Try.func92 spec_validMembers.ps spec_validMembers.res n
end Go.Proofs.YthooakfbpoopaaaG
end
section
open Go Go.Refl Go.Proofs
set_option maxRecDepth 1000000
set_option maxHeartbeats 0
set_option linter.unusedVariables false
namespace Go.Proofs.YthooakfbpoopaaaG
abbrev spec_validLoans.ps : List Pm := [.arg (.v (.slice (.pair (.int .i64) (.pair (.int .i64) (.slice (.int .i64)))))), .arg (.v (.int .i64))]
abbrev spec_validLoans.res : List M := [.v .bool]
noncomputable def spec_validLoans.C : Cfg := { tb := tb, tab := fun n f => Refl.look [(63, { params := spec_inRange.ps, res := spec_inRange.res, run := spec_inRange n }), (92, { params := spec_validMembers.ps, res := spec_validMembers.res, run := spec_validMembers n }), (93, { params := spec_placeIn.ps, res := spec_placeIn.res, run := spec_placeIn n })] f }
noncomputable def spec_validLoans.A : Ann := { joins := [], loops := [(2, { live := [0, 1, 5], base := 57 })], ids := [(5, [(21, []), (26, []), (39, []), (47, [])]), (7, [(55, [])])], pids := [], nroots := 121 }
noncomputable def spec_validLoans (n : Nat) (x : List (Int × Int × List Int) × Int) : Option (Bool) := evalF spec_validLoans.C spec_validLoans.A Try.f61 spec_validLoans.ps spec_validLoans.res n x
noncomputable def spec_validLoans.K0 (_ : Nat) : Kont (Bool) := finK spec_validLoans.C (Func.results Try.f61).toList spec_validLoans.ps spec_validLoans.res
noncomputable def spec_validLoans.K1 (n : Nat) : Kont (Bool) := seqK (fun s' k => evalC spec_validLoans.C spec_validLoans.A n (codeAt Try.f61 [1, 1]) (cutAt spec_validLoans.A.joins (codeAt Try.f61 [1, 1]) s') k) (spec_validLoans.K0 n)
noncomputable def spec_validLoans.K2 (n : Nat) : Kont (Bool) := blockK 0 (spec_validLoans.K1 n)
noncomputable def spec_validLoans.l2 (n m2 : Nat) (x0 : List (Int × Int × List Int)) (x1 : Int) (x5 : Int) : Option (Bool) := loopE (cutAt spec_validLoans.A.loops (codeAt Try.f61 [1, 0, 1, 0, 0])) (fun s k => evalC spec_validLoans.C spec_validLoans.A n (codeAt Try.f61 [1, 0, 1, 0, 0]) s k) m2 (St.of 57 121 [(0, .val (.slice (.pair (.int .i64) (.pair (.int .i64) (.slice (.int .i64))))) x0), (1, .val (.int .i64) x1), (5, .val (.int .i64) x5)] [] []) (spec_validLoans.K2 n)
theorem spec_validLoans.eq (n : Nat) (x0 : List (Int × Int × List Int)) (x1 : Int) : spec_validLoans n (x0, x1) = spec_validLoans.l2 n n (x0) (x1) (0) := by kernel_rfl
theorem spec_validLoans.l2_zero (n : Nat) (x0 : List (Int × Int × List Int)) (x1 : Int) (x5 : Int) : spec_validLoans.l2 n 0 x0 x1 x5 = none := by kernel_rfl
theorem spec_validLoans.l2_succ (n m2 : Nat) (x0 : List (Int × Int × List Int)) (x1 : Int) (x5 : Int) : spec_validLoans.l2 n (m2 + 1) x0 x1 x5 = (if x5 < (↑(List.length x0) : Int) then (if 0 ≤ x5 then (if x5 < (↑(List.length x0) : Int) then ((spec_inRange n (Prod.fst (List.getD x0 (Int.toNat x5) (0, 0, [])), 0, Go.RowKit.wrap64 (x1 - 1))).bind fun y0 => (if (!y0) = Bool.true then some (Bool.false) else ((spec_inRange n (Prod.fst (Prod.snd (List.getD x0 (Int.toNat x5) (0, 0, []))), 1, 100000)).bind fun y1 => (if (!y1) = Bool.true then some (Bool.false) else (if (↑(List.length (Prod.snd (Prod.snd (List.getD x0 (Int.toNat x5) ((0 : Int), (0 : Int), []))))) : Int) = 0 then some (Bool.false) else ((spec_validMembers n (Prod.snd (Prod.snd (List.getD x0 (Int.toNat x5) (0, 0, []))), x1)).bind fun y2 => (if (!y2) = Bool.true then some (Bool.false) else ((spec_placeIn n (Prod.snd (Prod.snd (List.getD x0 (Int.toNat x5) (0, 0, []))), Prod.fst (List.getD x0 (Int.toNat x5) (0, 0, [])))).bind fun y3 => (if y3 ≥ 0 then some (Bool.false) else spec_validLoans.l2 n m2 (x0) (x1) (Go.RowKit.wrap64 (x5 + 1))))))))))) else none) else none) else (if (↑(List.length x0) : Int) ≤ 16 then ((spec_inRange n (x1, 1, 12)).bind fun y4 => some (y4)) else some (Bool.false))) := by kernel_rfl
theorem spec_validLoans.call : Callable Try.prog 61 := ⟨Try.f61, Try.func61, by kernel_rfl, by kernel_rfl⟩
theorem spec_validLoans.ok (n : Nat) : FC Try.prog 61 { params := spec_validLoans.ps, res := spec_validLoans.res, run := spec_validLoans n } :=
  evalF_ok (C := spec_validLoans.C) ⟨tb_ok, fun n _ _ h => tabOk (l := [(63, { params := spec_inRange.ps, res := spec_inRange.res, run := spec_inRange n }), (92, { params := spec_validMembers.ps, res := spec_validMembers.res, run := spec_validMembers n }), (93, { params := spec_placeIn.ps, res := spec_placeIn.res, run := spec_placeIn n })]) (all_cons ⟨spec_inRange.ok n, spec_inRange.call⟩ (all_cons ⟨spec_validMembers.ok n, spec_validMembers.call⟩ (all_cons ⟨spec_placeIn.ok n, spec_placeIn.call⟩ (all_nil)))) h, mixed⟩ spec_validLoans.A Try.func61 spec_validLoans.ps spec_validLoans.res n
end Go.Proofs.YthooakfbpoopaaaG
end
section
open Go Go.Refl Go.Proofs
set_option maxRecDepth 1000000
set_option maxHeartbeats 0
set_option linter.unusedVariables false
namespace Go.Proofs.YthooakfbpoopaaaG
abbrev spec_lend.ps : List Pm := [.arg (.pr (.own (.int .i64) 3) (.pr (.own (.pair (.int .i64) (.pair (.int .i64) (.slice (.int .i64)))) 45) (.v (.pair (.int .i64) (.pair (.int .i64) (.int .i64)))))), .arg (.v (.pair (.int .i64) (.pair (.int .i64) (.slice (.int .i64)))))]
abbrev spec_lend.res : List M := [(.pr (.own (.int .i64) 3) (.pr (.own (.pair (.int .i64) (.pair (.int .i64) (.slice (.int .i64)))) 45) (.v (.pair (.int .i64) (.pair (.int .i64) (.int .i64)))))), .v .bool]
noncomputable def spec_lend.C : Cfg := { tb := tb, tab := fun n f => Refl.look [(61, { params := spec_validLoans.ps, res := spec_validLoans.res, run := spec_validLoans n }), (100, { params := spec_safe.ps, res := spec_safe.res, run := spec_safe n })] f }
noncomputable def spec_lend.A : Ann := { joins := [], loops := [], ids := [(1, [(9, [])]), (2, [(17, []), (24, [])])], pids := [(0, [91, 92])], nroots := 99 }
noncomputable def spec_lend (n : Nat) (x : (List Int × List (Int × Int × List Int) × Int × Int × Int) × Int × Int × List Int) : Option ((List Int × List (Int × Int × List Int) × Int × Int × Int) × Bool) := evalF spec_lend.C spec_lend.A Try.f76 spec_lend.ps spec_lend.res n x
noncomputable def spec_lend.K0 (_ : Nat) : Kont ((List Int × List (Int × Int × List Int) × Int × Int × Int) × Bool) := finK spec_lend.C (Func.results Try.f76).toList spec_lend.ps spec_lend.res
theorem spec_lend.eq (n : Nat) (x0 : List Int × List (Int × Int × List Int) × Int × Int × Int) (x1 : Int × Int × List Int) : spec_lend n (x0, x1) = (if List.length (Prod.fst (Prod.snd x0)) + List.length (List.set (List.replicate (1 : Nat) ((0 : Int), (0 : Int), [])) (0 : Nat) (Prod.fst x1, Prod.fst (Prod.snd x1), Prod.snd (Prod.snd x1))) ≤ Go.Refl.maxN then ((spec_validLoans n (Prod.fst (Prod.snd x0) ++ List.set (List.replicate 1 (0, 0, [])) 0 (Prod.fst x1, Prod.fst (Prod.snd x1), Prod.snd (Prod.snd x1)), (↑(List.length (Prod.fst x0)) : Int))).bind fun y0 => (if (!y0) = Bool.true then some (((Prod.fst x0, Prod.fst (Prod.snd x0) ++ List.set (List.replicate 1 (0, 0, [])) 0 (Prod.fst x1, Prod.fst (Prod.snd x1), Prod.snd (Prod.snd x1)), Prod.fst (Prod.snd (Prod.snd x0)), Prod.fst (Prod.snd (Prod.snd (Prod.snd x0))), Prod.snd (Prod.snd (Prod.snd (Prod.snd x0)))), Bool.false)) else ((spec_safe n (Prod.fst x0, Prod.fst (Prod.snd x0) ++ List.set (List.replicate 1 (0, 0, [])) 0 (Prod.fst x1, Prod.fst (Prod.snd x1), Prod.snd (Prod.snd x1)))).bind fun y1 => (if (!y1) = true then some (((Prod.fst x0, Prod.fst (Prod.snd x0) ++ List.set (List.replicate 1 (0, 0, [])) 0 (Prod.fst x1, Prod.fst (Prod.snd x1), Prod.snd (Prod.snd x1)), Prod.fst (Prod.snd (Prod.snd x0)), Prod.fst (Prod.snd (Prod.snd (Prod.snd x0))), Prod.snd (Prod.snd (Prod.snd (Prod.snd x0)))), Bool.false)) else some (((Prod.fst x0, Prod.fst (Prod.snd x0) ++ List.set (List.replicate 1 (0, 0, [])) 0 (Prod.fst x1, Prod.fst (Prod.snd x1), Prod.snd (Prod.snd x1)), Go.RowKit.wrap64 (Prod.fst (Prod.snd (Prod.snd x0)) - Prod.fst (Prod.snd x1)), Prod.fst (Prod.snd (Prod.snd (Prod.snd x0))), Prod.snd (Prod.snd (Prod.snd (Prod.snd x0)))), Bool.true)))))) else none) := by kernel_rfl
theorem spec_lend.call : Callable Try.prog 76 := ⟨Try.f76, Try.func76, by kernel_rfl, by kernel_rfl⟩
theorem spec_lend.ok (n : Nat) : FC Try.prog 76 { params := spec_lend.ps, res := spec_lend.res, run := spec_lend n } :=
  evalF_ok (C := spec_lend.C) ⟨tb_ok, fun n _ _ h => tabOk (l := [(61, { params := spec_validLoans.ps, res := spec_validLoans.res, run := spec_validLoans n }), (100, { params := spec_safe.ps, res := spec_safe.res, run := spec_safe n })]) (all_cons ⟨spec_validLoans.ok n, spec_validLoans.call⟩ (all_cons ⟨spec_safe.ok n, spec_safe.call⟩ (all_nil))) h, mixed⟩ spec_lend.A Try.func76 spec_lend.ps spec_lend.res n
end Go.Proofs.YthooakfbpoopaaaG
end
section
open Go Go.Refl Go.Proofs
set_option maxRecDepth 1000000
set_option maxHeartbeats 0
set_option linter.unusedVariables false
namespace Go.Proofs.YthooakfbpoopaaaG
abbrev spec_repay.ps : List Pm := [.arg (.pr (.own (.int .i64) 3) (.pr (.own (.pair (.int .i64) (.pair (.int .i64) (.slice (.int .i64)))) 45) (.v (.pair (.int .i64) (.pair (.int .i64) (.int .i64)))))), .arg (.v (.pair (.int .i64) (.pair (.int .i64) (.pair (.int .i64) (.pair (.int .i64) (.pair (.slice (.int .i64)) (.pair (.int .i64) (.int .i64))))))))]
abbrev spec_repay.res : List M := [(.pr (.own (.int .i64) 3) (.pr (.own (.pair (.int .i64) (.pair (.int .i64) (.slice (.int .i64)))) 45) (.v (.pair (.int .i64) (.pair (.int .i64) (.int .i64)))))), .v .bool]
noncomputable def spec_repay.C : Cfg := { tb := tb, tab := fun n f => Refl.look [(63, { params := spec_inRange.ps, res := spec_inRange.res, run := spec_inRange n })] f }
noncomputable def spec_repay.A : Ann := { joins := [], loops := [], ids := [(1, [(12, []), (24, []), (30, [])])], pids := [(0, [143, 144])], nroots := 151 }
noncomputable def spec_repay (n : Nat) (x : (List Int × List (Int × Int × List Int) × Int × Int × Int) × Int × Int × Int × Int × List Int × Int × Int) : Option ((List Int × List (Int × Int × List Int) × Int × Int × Int) × Bool) := evalF spec_repay.C spec_repay.A Try.f78 spec_repay.ps spec_repay.res n x
noncomputable def spec_repay.K0 (_ : Nat) : Kont ((List Int × List (Int × Int × List Int) × Int × Int × Int) × Bool) := finK spec_repay.C (Func.results Try.f78).toList spec_repay.ps spec_repay.res
theorem spec_repay.eq (n : Nat) (x0 : List Int × List (Int × Int × List Int) × Int × Int × Int) (x1 : Int × Int × Int × Int × List Int × Int × Int) : spec_repay n (x0, x1) = ((spec_inRange n (Prod.fst (Prod.snd x1), 0, Go.RowKit.wrap64 ((↑(List.length (Prod.fst (Prod.snd x0))) : Int) - 1))).bind fun y0 => (if (!y0) = Bool.true then some (((Prod.fst x0, Prod.fst (Prod.snd x0), Prod.fst (Prod.snd (Prod.snd x0)), Prod.fst (Prod.snd (Prod.snd (Prod.snd x0))), Prod.snd (Prod.snd (Prod.snd (Prod.snd x0)))), Bool.false)) else (if 0 ≤ Prod.fst (Prod.snd x1) then (if Prod.fst (Prod.snd x1) < (↑(List.length (Prod.fst (Prod.snd x0))) : Int) then ((spec_inRange n (Prod.fst (Prod.snd (Prod.snd x1)), 1, Prod.fst (Prod.snd (List.getD (Prod.fst (Prod.snd x0)) (Int.toNat (Prod.fst (Prod.snd x1))) (0, 0, []))))).bind fun y1 => (if (!y1) = Bool.true then some (((Prod.fst x0, Prod.fst (Prod.snd x0), Prod.fst (Prod.snd (Prod.snd x0)), Prod.fst (Prod.snd (Prod.snd (Prod.snd x0))), Prod.snd (Prod.snd (Prod.snd (Prod.snd x0)))), Bool.false)) else ((spec_inRange n (Prod.fst (Prod.snd (Prod.snd (Prod.snd x1))), 0, 100000)).bind fun y2 => (if (!y2) = true then some (((Prod.fst x0, Prod.fst (Prod.snd x0), Prod.fst (Prod.snd (Prod.snd x0)), Prod.fst (Prod.snd (Prod.snd (Prod.snd x0))), Prod.snd (Prod.snd (Prod.snd (Prod.snd x0)))), Bool.false)) else (if 0 ≤ Prod.fst (Prod.snd x1) then (if Prod.fst (Prod.snd x1) < (↑(List.length (Prod.fst (Prod.snd x0))) : Int) then (if 0 ≤ Prod.fst (Prod.snd x1) then (if Prod.fst (Prod.snd x1) < (↑(List.length (Prod.fst (Prod.snd x0))) : Int) then (if 0 ≤ Prod.fst (Prod.snd x1) then (if Prod.fst (Prod.snd x1) < (↑(List.length (List.set (Prod.fst (Prod.snd x0)) (Int.toNat (Prod.fst (Prod.snd x1))) (Prod.fst (List.getD (Prod.fst (Prod.snd x0)) (Int.toNat (Prod.fst (Prod.snd x1))) ((0 : Int), (0 : Int), [])), Go.RowKit.wrap64 (Prod.fst (Prod.snd (List.getD (Prod.fst (Prod.snd x0)) (Int.toNat (Prod.fst (Prod.snd x1))) ((0 : Int), (0 : Int), []))) - Prod.fst (Prod.snd (Prod.snd x1))), Prod.snd (Prod.snd (List.getD (Prod.fst (Prod.snd x0)) (Int.toNat (Prod.fst (Prod.snd x1))) ((0 : Int), (0 : Int), [])))))) : Int) then (if Prod.fst (Prod.snd (List.getD (List.set (Prod.fst (Prod.snd x0)) (Int.toNat (Prod.fst (Prod.snd x1))) (Prod.fst (List.getD (Prod.fst (Prod.snd x0)) (Int.toNat (Prod.fst (Prod.snd x1))) (0, 0, [])), Go.RowKit.wrap64 (Prod.fst (Prod.snd (List.getD (Prod.fst (Prod.snd x0)) (Int.toNat (Prod.fst (Prod.snd x1))) (0, 0, []))) - Prod.fst (Prod.snd (Prod.snd x1))), Prod.snd (Prod.snd (List.getD (Prod.fst (Prod.snd x0)) (Int.toNat (Prod.fst (Prod.snd x1))) (0, 0, []))))) (Int.toNat (Prod.fst (Prod.snd x1))) (0, 0, []))) = 0 then (if 0 ≤ Prod.fst (Prod.snd x1) then (if Prod.fst (Prod.snd x1) ≤ (↑(List.length (List.set (Prod.fst (Prod.snd x0)) (Int.toNat (Prod.fst (Prod.snd x1))) (Prod.fst (List.getD (Prod.fst (Prod.snd x0)) (Int.toNat (Prod.fst (Prod.snd x1))) ((0 : Int), (0 : Int), [])), Go.RowKit.wrap64 (Prod.fst (Prod.snd (List.getD (Prod.fst (Prod.snd x0)) (Int.toNat (Prod.fst (Prod.snd x1))) ((0 : Int), (0 : Int), []))) - Prod.fst (Prod.snd (Prod.snd x1))), Prod.snd (Prod.snd (List.getD (Prod.fst (Prod.snd x0)) (Int.toNat (Prod.fst (Prod.snd x1))) ((0 : Int), (0 : Int), [])))))) : Int) then (if 0 ≤ Go.RowKit.wrap64 (Prod.fst (Prod.snd x1) + 1) then (if Go.RowKit.wrap64 (Prod.fst (Prod.snd x1) + 1) ≤ (↑(List.length (List.set (Prod.fst (Prod.snd x0)) (Int.toNat (Prod.fst (Prod.snd x1))) (Prod.fst (List.getD (Prod.fst (Prod.snd x0)) (Int.toNat (Prod.fst (Prod.snd x1))) ((0 : Int), (0 : Int), [])), Go.RowKit.wrap64 (Prod.fst (Prod.snd (List.getD (Prod.fst (Prod.snd x0)) (Int.toNat (Prod.fst (Prod.snd x1))) ((0 : Int), (0 : Int), []))) - Prod.fst (Prod.snd (Prod.snd x1))), Prod.snd (Prod.snd (List.getD (Prod.fst (Prod.snd x0)) (Int.toNat (Prod.fst (Prod.snd x1))) ((0 : Int), (0 : Int), [])))))) : Int) then (if Int.toNat (Prod.fst (Prod.snd x1)) - 0 + List.length (List.take (List.length (List.set (Prod.fst (Prod.snd x0)) (Int.toNat (Prod.fst (Prod.snd x1))) (Prod.fst (List.getD (Prod.fst (Prod.snd x0)) (Int.toNat (Prod.fst (Prod.snd x1))) ((0 : Int), (0 : Int), [])), Go.RowKit.wrap64 (Prod.fst (Prod.snd (List.getD (Prod.fst (Prod.snd x0)) (Int.toNat (Prod.fst (Prod.snd x1))) ((0 : Int), (0 : Int), []))) - Prod.fst (Prod.snd (Prod.snd x1))), Prod.snd (Prod.snd (List.getD (Prod.fst (Prod.snd x0)) (Int.toNat (Prod.fst (Prod.snd x1))) ((0 : Int), (0 : Int), []))))) - Int.toNat (Go.RowKit.wrap64 (Prod.fst (Prod.snd x1) + (1 : Int)))) (List.drop (Int.toNat (Go.RowKit.wrap64 (Prod.fst (Prod.snd x1) + (1 : Int)))) (List.set (Prod.fst (Prod.snd x0)) (Int.toNat (Prod.fst (Prod.snd x1))) (Prod.fst (List.getD (Prod.fst (Prod.snd x0)) (Int.toNat (Prod.fst (Prod.snd x1))) ((0 : Int), (0 : Int), [])), Go.RowKit.wrap64 (Prod.fst (Prod.snd (List.getD (Prod.fst (Prod.snd x0)) (Int.toNat (Prod.fst (Prod.snd x1))) ((0 : Int), (0 : Int), []))) - Prod.fst (Prod.snd (Prod.snd x1))), Prod.snd (Prod.snd (List.getD (Prod.fst (Prod.snd x0)) (Int.toNat (Prod.fst (Prod.snd x1))) ((0 : Int), (0 : Int), []))))))) ≤ Go.Refl.maxN then some (((Prod.fst x0, List.take (Int.toNat (Prod.fst (Prod.snd x1)) - 0) (List.set (Prod.fst (Prod.snd x0)) (Int.toNat (Prod.fst (Prod.snd x1))) (Prod.fst (List.getD (Prod.fst (Prod.snd x0)) (Int.toNat (Prod.fst (Prod.snd x1))) (0, 0, [])), Go.RowKit.wrap64 (Prod.fst (Prod.snd (List.getD (Prod.fst (Prod.snd x0)) (Int.toNat (Prod.fst (Prod.snd x1))) (0, 0, []))) - Prod.fst (Prod.snd (Prod.snd x1))), Prod.snd (Prod.snd (List.getD (Prod.fst (Prod.snd x0)) (Int.toNat (Prod.fst (Prod.snd x1))) (0, 0, []))))) ++ List.take (List.length (List.set (Prod.fst (Prod.snd x0)) (Int.toNat (Prod.fst (Prod.snd x1))) (Prod.fst (List.getD (Prod.fst (Prod.snd x0)) (Int.toNat (Prod.fst (Prod.snd x1))) ((0 : Int), (0 : Int), [])), Go.RowKit.wrap64 (Prod.fst (Prod.snd (List.getD (Prod.fst (Prod.snd x0)) (Int.toNat (Prod.fst (Prod.snd x1))) ((0 : Int), (0 : Int), []))) - Prod.fst (Prod.snd (Prod.snd x1))), Prod.snd (Prod.snd (List.getD (Prod.fst (Prod.snd x0)) (Int.toNat (Prod.fst (Prod.snd x1))) ((0 : Int), (0 : Int), []))))) - Int.toNat (Go.RowKit.wrap64 (Prod.fst (Prod.snd x1) + 1))) (List.drop (Int.toNat (Go.RowKit.wrap64 (Prod.fst (Prod.snd x1) + 1))) (List.set (Prod.fst (Prod.snd x0)) (Int.toNat (Prod.fst (Prod.snd x1))) (Prod.fst (List.getD (Prod.fst (Prod.snd x0)) (Int.toNat (Prod.fst (Prod.snd x1))) (0, 0, [])), Go.RowKit.wrap64 (Prod.fst (Prod.snd (List.getD (Prod.fst (Prod.snd x0)) (Int.toNat (Prod.fst (Prod.snd x1))) (0, 0, []))) - Prod.fst (Prod.snd (Prod.snd x1))), Prod.snd (Prod.snd (List.getD (Prod.fst (Prod.snd x0)) (Int.toNat (Prod.fst (Prod.snd x1))) (0, 0, [])))))), Go.RowKit.wrap64 (Go.RowKit.wrap64 (Prod.fst (Prod.snd (Prod.snd x0)) + Prod.fst (Prod.snd (Prod.snd x1))) + Prod.fst (Prod.snd (Prod.snd (Prod.snd x1)))), Go.RowKit.wrap64 (Prod.fst (Prod.snd (Prod.snd (Prod.snd x0))) + Prod.fst (Prod.snd (Prod.snd (Prod.snd x1)))), Prod.snd (Prod.snd (Prod.snd (Prod.snd x0)))), Bool.true)) else none) else none) else none) else none) else none) else some (((Prod.fst x0, List.set (Prod.fst (Prod.snd x0)) (Int.toNat (Prod.fst (Prod.snd x1))) (Prod.fst (List.getD (Prod.fst (Prod.snd x0)) (Int.toNat (Prod.fst (Prod.snd x1))) (0, 0, [])), Go.RowKit.wrap64 (Prod.fst (Prod.snd (List.getD (Prod.fst (Prod.snd x0)) (Int.toNat (Prod.fst (Prod.snd x1))) (0, 0, []))) - Prod.fst (Prod.snd (Prod.snd x1))), Prod.snd (Prod.snd (List.getD (Prod.fst (Prod.snd x0)) (Int.toNat (Prod.fst (Prod.snd x1))) (0, 0, [])))), Go.RowKit.wrap64 (Go.RowKit.wrap64 (Prod.fst (Prod.snd (Prod.snd x0)) + Prod.fst (Prod.snd (Prod.snd x1))) + Prod.fst (Prod.snd (Prod.snd (Prod.snd x1)))), Go.RowKit.wrap64 (Prod.fst (Prod.snd (Prod.snd (Prod.snd x0))) + Prod.fst (Prod.snd (Prod.snd (Prod.snd x1)))), Prod.snd (Prod.snd (Prod.snd (Prod.snd x0)))), Bool.true))) else none) else none) else none) else none) else none) else none))))) else none) else none))) := by kernel_rfl
theorem spec_repay.call : Callable Try.prog 78 := ⟨Try.f78, Try.func78, by kernel_rfl, by kernel_rfl⟩
theorem spec_repay.ok (n : Nat) : FC Try.prog 78 { params := spec_repay.ps, res := spec_repay.res, run := spec_repay n } :=
  evalF_ok (C := spec_repay.C) ⟨tb_ok, fun n _ _ h => tabOk (l := [(63, { params := spec_inRange.ps, res := spec_inRange.res, run := spec_inRange n })]) (all_cons ⟨spec_inRange.ok n, spec_inRange.call⟩ (all_nil)) h, mixed⟩ spec_repay.A Try.func78 spec_repay.ps spec_repay.res n
end Go.Proofs.YthooakfbpoopaaaG
end
section
open Go Go.Refl Go.Proofs
set_option maxRecDepth 1000000
set_option maxHeartbeats 0
set_option linter.unusedVariables false
namespace Go.Proofs.YthooakfbpoopaaaG
abbrev spec_fail.ps : List Pm := [.arg (.v (.slice (.int .i64))), .arg (.v (.pair (.int .i64) (.pair (.int .i64) (.slice (.int .i64)))))]
abbrev spec_fail.res : List M := [(.own (.int .i64) 3), .v (.int .i64), (.own (.int .i64) 3)]
noncomputable def spec_fail.C : Cfg := { tb := tb, tab := fun n f => Refl.look [(77, { params := spec_copyInts.ps, res := spec_copyInts.res, run := spec_copyInts n }), (104, { params := spec_split.ps, res := spec_split.res, run := spec_split n })] f }
noncomputable def spec_fail.A : Ann := { joins := [], loops := [(8, { live := [3, 7, 8, 10, 11, 12], base := 95 })], ids := [(15, [(90, [])])], pids := [], nroots := 159 }
noncomputable def spec_fail (n : Nat) (x : List Int × Int × Int × List Int) : Option (List Int × Int × List Int) := evalF spec_fail.C spec_fail.A Try.f110 spec_fail.ps spec_fail.res n x
noncomputable def spec_fail.K0 (_ : Nat) : Kont (List Int × Int × List Int) := finK spec_fail.C (Func.results Try.f110).toList spec_fail.ps spec_fail.res
noncomputable def spec_fail.K1 (n : Nat) : Kont (List Int × Int × List Int) := seqK (fun s' k => evalC spec_fail.C spec_fail.A n (codeAt Try.f110 [1, 1, 1, 1, 1, 1, 1, 1]) (cutAt spec_fail.A.joins (codeAt Try.f110 [1, 1, 1, 1, 1, 1, 1, 1]) s') k) (spec_fail.K0 n)
noncomputable def spec_fail.K2 (n : Nat) : Kont (List Int × Int × List Int) := blockK 0 (spec_fail.K1 n)
noncomputable def spec_fail.l8 (n m8 : Nat) (x11 : Int) (x12 : Int) (r95_0 : Int) (r95_1 : Int) (r95_2 : List Int) (r96 : List Int) (r97 : List Int) (r98 : List Int) : Option (List Int × Int × List Int) := loopE (cutAt spec_fail.A.loops (codeAt Try.f110 [1, 1, 1, 1, 1, 1, 1, 0, 1, 0, 0])) (fun s k => evalC spec_fail.C spec_fail.A n (codeAt Try.f110 [1, 1, 1, 1, 1, 1, 1, 0, 1, 0, 0]) s k) m8 (St.of 95 159 [(3, .ptr 95 0 0), (7, .own 96), (8, .own 97), (10, .own 98), (11, .val (.int .i64) x11), (12, .val (.int .i64) x12)] [(95, .box 45 [.val (.int .i64) r95_0, .val (.int .i64) r95_1, .val (.slice (.int .i64)) r95_2]), (96, .row (.int .i64) 3 r96), (97, .row (.int .i64) 3 r97), (98, .row (.int .i64) 3 r98)] []) (spec_fail.K2 n)
theorem spec_fail.eq (n : Nat) (x0 : List Int) (x1 : Int × Int × List Int) : spec_fail n (x0, x1) = ((spec_copyInts n x0).bind fun y0 => (if 0 ≤ Prod.fst x1 then (if Prod.fst x1 < (↑(List.length y0) : Int) then (if 0 ≤ Prod.fst x1 then (if Prod.fst x1 < (↑(List.length y0) : Int) then (if 0 ≤ Prod.fst x1 then (if Prod.fst x1 < (↑(List.length y0) : Int) then ((spec_split n (Go.RowKit.wrap64 (Prod.fst (Prod.snd x1) - Go.Refl.mn (List.getD y0 (Int.toNat (Prod.fst x1)) 0) (Prod.fst (Prod.snd x1))), (↑(List.length (Prod.snd (Prod.snd x1))) : Int))).bind fun y1 => spec_fail.l8 n n (0) (0) (Prod.fst x1) (Prod.fst (Prod.snd x1)) (Prod.snd (Prod.snd x1)) (List.set y0 (Int.toNat (Prod.fst x1)) (Go.RowKit.wrap64 (List.getD y0 (Int.toNat (Prod.fst x1)) 0 - Go.Refl.mn (List.getD y0 (Int.toNat (Prod.fst x1)) 0) (Prod.fst (Prod.snd x1))))) (List.replicate 0 0) (y1)) else none) else none) else none) else none) else none) else none)) := by kernel_rfl
theorem spec_fail.l8_zero (n : Nat) (x11 : Int) (x12 : Int) (r95_0 : Int) (r95_1 : Int) (r95_2 : List Int) (r96 : List Int) (r97 : List Int) (r98 : List Int) : spec_fail.l8 n 0 x11 x12 r95_0 r95_1 r95_2 r96 r97 r98 = none := by kernel_rfl
theorem spec_fail.l8_succ (n m8 : Nat) (x11 : Int) (x12 : Int) (r95_0 : Int) (r95_1 : Int) (r95_2 : List Int) (r96 : List Int) (r97 : List Int) (r98 : List Int) : spec_fail.l8 n (m8 + 1) x11 x12 r95_0 r95_1 r95_2 r96 r97 r98 = (if x12 < (↑(List.length r98) : Int) then (if 0 ≤ x12 then (if x12 < (↑(List.length r95_2) : Int) then (if 0 ≤ List.getD r95_2 (Int.toNat x12) 0 then (if List.getD r95_2 (Int.toNat x12) 0 < (↑(List.length r96) : Int) then (if 0 ≤ x12 then (if x12 < (↑(List.length r98) : Int) then (if 0 ≤ List.getD r95_2 (Int.toNat x12) 0 then (if List.getD r95_2 (Int.toNat x12) 0 < (↑(List.length r96) : Int) then (if 0 ≤ List.getD r95_2 (Int.toNat x12) 0 then (if List.getD r95_2 (Int.toNat x12) 0 < (↑(List.length r96) : Int) then (if 0 ≤ x12 then (if x12 < (↑(List.length r98) : Int) then (if 0 ≤ x12 then (if x12 < (↑(List.length r98) : Int) then (if Go.Refl.mn (List.getD r96 (Int.toNat (List.getD r95_2 (Int.toNat x12) 0)) 0) (List.getD r98 (Int.toNat x12) 0) < List.getD r98 (Int.toNat x12) 0 then (if List.length r97 + List.length (List.set (List.replicate (1 : Nat) (0 : Int)) (0 : Nat) (List.getD r95_2 (Int.toNat x12) (0 : Int))) ≤ Go.Refl.maxN then spec_fail.l8 n m8 (Go.RowKit.wrap64 (Go.RowKit.wrap64 (x11 + List.getD r98 (Int.toNat x12) 0) - Go.Refl.mn (List.getD r96 (Int.toNat (List.getD r95_2 (Int.toNat x12) 0)) 0) (List.getD r98 (Int.toNat x12) 0))) (Go.RowKit.wrap64 (x12 + 1)) (r95_0) (r95_1) (r95_2) (List.set r96 (Int.toNat (List.getD r95_2 (Int.toNat x12) 0)) (Go.RowKit.wrap64 (List.getD r96 (Int.toNat (List.getD r95_2 (Int.toNat x12) 0)) 0 - Go.Refl.mn (List.getD r96 (Int.toNat (List.getD r95_2 (Int.toNat x12) 0)) 0) (List.getD r98 (Int.toNat x12) 0)))) (r97 ++ List.set (List.replicate 1 0) 0 (List.getD r95_2 (Int.toNat x12) 0)) (r98) else none) else spec_fail.l8 n m8 (Go.RowKit.wrap64 (Go.RowKit.wrap64 (x11 + List.getD r98 (Int.toNat x12) 0) - Go.Refl.mn (List.getD r96 (Int.toNat (List.getD r95_2 (Int.toNat x12) 0)) 0) (List.getD r98 (Int.toNat x12) 0))) (Go.RowKit.wrap64 (x12 + 1)) (r95_0) (r95_1) (r95_2) (List.set r96 (Int.toNat (List.getD r95_2 (Int.toNat x12) 0)) (Go.RowKit.wrap64 (List.getD r96 (Int.toNat (List.getD r95_2 (Int.toNat x12) 0)) 0 - Go.Refl.mn (List.getD r96 (Int.toNat (List.getD r95_2 (Int.toNat x12) 0)) 0) (List.getD r98 (Int.toNat x12) 0)))) (r97) (r98)) else none) else none) else none) else none) else none) else none) else none) else none) else none) else none) else none) else none) else none) else none) else some ((r96, x11, r97))) := by kernel_rfl
theorem spec_fail.call : Callable Try.prog 110 := ⟨Try.f110, Try.func110, by kernel_rfl, by kernel_rfl⟩
theorem spec_fail.ok (n : Nat) : FC Try.prog 110 { params := spec_fail.ps, res := spec_fail.res, run := spec_fail n } :=
  evalF_ok (C := spec_fail.C) ⟨tb_ok, fun n _ _ h => tabOk (l := [(77, { params := spec_copyInts.ps, res := spec_copyInts.res, run := spec_copyInts n }), (104, { params := spec_split.ps, res := spec_split.res, run := spec_split n })]) (all_cons ⟨spec_copyInts.ok n, spec_copyInts.call⟩ (all_cons ⟨spec_split.ok n, spec_split.call⟩ (all_nil))) h, mixed⟩ spec_fail.A Try.func110 spec_fail.ps spec_fail.res n
end Go.Proofs.YthooakfbpoopaaaG
end
section
open Go Go.Refl Go.Proofs
set_option maxRecDepth 1000000
set_option maxHeartbeats 0
set_option linter.unusedVariables false
namespace Go.Proofs.YthooakfbpoopaaaG
abbrev spec_cascade.ps : List Pm := [.arg (.own (.int .i64) 3), .arg (.v (.slice (.pair (.int .i64) (.pair (.int .i64) (.slice (.int .i64)))))), .arg (.v (.int .i64))]
abbrev spec_cascade.res : List M := [(.own (.int .i64) 3), .v (.int .i64), (.own (.int .i64) 3)]
noncomputable def spec_cascade.C : Cfg := { tb := tb, tab := fun n f => Refl.look [(110, { params := spec_fail.ps, res := spec_fail.res, run := spec_fail n }), (93, { params := spec_placeIn.ps, res := spec_placeIn.res, run := spec_placeIn n })] f }
noncomputable def spec_cascade.A : Ann := { joins := [], loops := [(5, { live := [0, 1, 9, 10, 11, 12], base := 91 }), (8, { live := [0, 1, 9, 10, 11, 12, 13], base := 91 }), (16, { live := [0, 1, 9, 10, 11, 12, 13, 16, 17], base := 91 })], ids := [(1, [(19, [19])]), (12, [(60, [123, 124])]), (18, [(79, [])]), (19, [(86, [])])], pids := [], nroots := 155 }
noncomputable def spec_cascade (n : Nat) (x : List Int × List (Int × Int × List Int) × Int) : Option (List Int × Int × List Int) := evalF spec_cascade.C spec_cascade.A Try.f101 spec_cascade.ps spec_cascade.res n x
noncomputable def spec_cascade.K0 (_ : Nat) : Kont (List Int × Int × List Int) := finK spec_cascade.C (Func.results Try.f101).toList spec_cascade.ps spec_cascade.res
noncomputable def spec_cascade.K1 (n : Nat) : Kont (List Int × Int × List Int) := seqK (fun s' k => evalC spec_cascade.C spec_cascade.A n (codeAt Try.f101 [1, 1, 1, 1, 1]) (cutAt spec_cascade.A.joins (codeAt Try.f101 [1, 1, 1, 1, 1]) s') k) (spec_cascade.K0 n)
noncomputable def spec_cascade.K2 (n : Nat) : Kont (List Int × Int × List Int) := blockK 0 (spec_cascade.K1 n)
noncomputable def spec_cascade.K3 (n m5 : Nat) : Kont (List Int × Int × List Int) := loopK (cutAt spec_cascade.A.loops (codeAt Try.f101 [1, 1, 1, 1, 0, 1, 0, 0])) (fun s k => evalC spec_cascade.C spec_cascade.A n (codeAt Try.f101 [1, 1, 1, 1, 0, 1, 0, 0]) s k) m5 (spec_cascade.K2 n)
noncomputable def spec_cascade.K4 (n m5 : Nat) : Kont (List Int × Int × List Int) := seqK (fun s' k => evalC spec_cascade.C spec_cascade.A n (codeAt Try.f101 [1, 1, 1, 1, 0, 1, 0, 0, 1, 1]) (cutAt spec_cascade.A.joins (codeAt Try.f101 [1, 1, 1, 1, 0, 1, 0, 0, 1, 1]) s') k) (spec_cascade.K3 n m5)
noncomputable def spec_cascade.K5 (n m5 : Nat) : Kont (List Int × Int × List Int) := blockK 1 (spec_cascade.K4 n m5)
noncomputable def spec_cascade.K6 (n m5 : Nat) : Kont (List Int × Int × List Int) := blockK 2 (spec_cascade.K5 n m5)
noncomputable def spec_cascade.K7 (n m5 m8 : Nat) : Kont (List Int × Int × List Int) := loopK (cutAt spec_cascade.A.loops (codeAt Try.f101 [1, 1, 1, 1, 0, 1, 0, 0, 1, 0, 0, 1, 0, 0])) (fun s k => evalC spec_cascade.C spec_cascade.A n (codeAt Try.f101 [1, 1, 1, 1, 0, 1, 0, 0, 1, 0, 0, 1, 0, 0]) s k) m8 (spec_cascade.K6 n m5)
noncomputable def spec_cascade.K8 (n m5 m8 : Nat) : Kont (List Int × Int × List Int) := seqK (fun s' k => evalC spec_cascade.C spec_cascade.A n (codeAt Try.f101 [1, 1, 1, 1, 0, 1, 0, 0, 1, 0, 0, 1, 0, 0, 1, 1]) (cutAt spec_cascade.A.joins (codeAt Try.f101 [1, 1, 1, 1, 0, 1, 0, 0, 1, 0, 0, 1, 0, 0, 1, 1]) s') k) (spec_cascade.K7 n m5 m8)
noncomputable def spec_cascade.K9 (n m5 m8 : Nat) : Kont (List Int × Int × List Int) := blockK 3 (spec_cascade.K8 n m5 m8)
noncomputable def spec_cascade.K10 (n m5 m8 : Nat) : Kont (List Int × Int × List Int) := blockK 4 (spec_cascade.K9 n m5 m8)
noncomputable def spec_cascade.l5 (n m5 : Nat) (x1 : List (Int × Int × List Int)) (x10 : Int) (x12 : Int) (r91 : List Int) (r92 : List Int) (r93 : List Bool) : Option (List Int × Int × List Int) := loopE (cutAt spec_cascade.A.loops (codeAt Try.f101 [1, 1, 1, 1, 0, 1, 0, 0])) (fun s k => evalC spec_cascade.C spec_cascade.A n (codeAt Try.f101 [1, 1, 1, 1, 0, 1, 0, 0]) s k) m5 (St.of 91 155 [(0, .own 91), (1, .val (.slice (.pair (.int .i64) (.pair (.int .i64) (.slice (.int .i64))))) x1), (9, .own 92), (10, .val (.int .i64) x10), (11, .own 93), (12, .val (.int .i64) x12)] [(91, .row (.int .i64) 3 r91), (92, .row (.int .i64) 3 r92), (93, .row .bool 4 r93)] []) (spec_cascade.K2 n)
noncomputable def spec_cascade.l8 (n m5 m8 : Nat) (x1 : List (Int × Int × List Int)) (x10 : Int) (x12 : Int) (x13 : Int) (r91 : List Int) (r92 : List Int) (r93 : List Bool) : Option (List Int × Int × List Int) := loopE (cutAt spec_cascade.A.loops (codeAt Try.f101 [1, 1, 1, 1, 0, 1, 0, 0, 1, 0, 0, 1, 0, 0])) (fun s k => evalC spec_cascade.C spec_cascade.A n (codeAt Try.f101 [1, 1, 1, 1, 0, 1, 0, 0, 1, 0, 0, 1, 0, 0]) s k) m8 (St.of 91 155 [(0, .own 91), (1, .val (.slice (.pair (.int .i64) (.pair (.int .i64) (.slice (.int .i64))))) x1), (9, .own 92), (10, .val (.int .i64) x10), (11, .own 93), (12, .val (.int .i64) x12), (13, .val (.int .i64) x13)] [(91, .row (.int .i64) 3 r91), (92, .row (.int .i64) 3 r92), (93, .row .bool 4 r93)] []) (spec_cascade.K6 n m5)
noncomputable def spec_cascade.l16 (n m5 m8 m16 : Nat) (x1 : List (Int × Int × List Int)) (x10 : Int) (x12 : Int) (x13 : Int) (x17 : Int) (r91 : List Int) (r92 : List Int) (r93 : List Bool) (r94 : List Int) : Option (List Int × Int × List Int) := loopE (cutAt spec_cascade.A.loops (codeAt Try.f101 [1, 1, 1, 1, 0, 1, 0, 0, 1, 0, 0, 1, 0, 0, 1, 0, 0, 1, 1, 1, 1, 1, 1, 0, 0])) (fun s k => evalC spec_cascade.C spec_cascade.A n (codeAt Try.f101 [1, 1, 1, 1, 0, 1, 0, 0, 1, 0, 0, 1, 0, 0, 1, 0, 0, 1, 1, 1, 1, 1, 1, 0, 0]) s k) m16 (St.of 91 155 [(0, .own 91), (1, .val (.slice (.pair (.int .i64) (.pair (.int .i64) (.slice (.int .i64))))) x1), (9, .own 92), (10, .val (.int .i64) x10), (11, .own 93), (12, .val (.int .i64) x12), (13, .val (.int .i64) x13), (16, .own 94), (17, .val (.int .i64) x17)] [(91, .row (.int .i64) 3 r91), (92, .row (.int .i64) 3 r92), (93, .row .bool 4 r93), (94, .row (.int .i64) 3 r94)] []) (spec_cascade.K10 n m5 m8)
theorem spec_cascade.eq (n : Nat) (x0 : List Int) (x1 : List (Int × Int × List Int)) (x2 : Int) : spec_cascade n (x0, x1, x2) = (if 0 ≤ (↑(List.length x1) : Int) then (if (↑(List.length x1) : Int) ≤ (↑(List.length x1) : Int) then (if (↑(List.length x1) : Int) ≤ (↑Go.Refl.maxN : Int) then spec_cascade.l5 n n (x1) (0) (0) (x0) (List.set (List.replicate 1 0) 0 x2) (List.replicate (Int.toNat (↑(List.length x1) : Int)) Bool.false) else none) else none) else none) := by kernel_rfl
theorem spec_cascade.l5_zero (n : Nat) (x1 : List (Int × Int × List Int)) (x10 : Int) (x12 : Int) (r91 : List Int) (r92 : List Int) (r93 : List Bool) : spec_cascade.l5 n 0 x1 x10 x12 r91 r92 r93 = none := by kernel_rfl
theorem spec_cascade.l5_succ (n m5 : Nat) (x1 : List (Int × Int × List Int)) (x10 : Int) (x12 : Int) (r91 : List Int) (r92 : List Int) (r93 : List Bool) : spec_cascade.l5 n (m5 + 1) x1 x10 x12 r91 r92 r93 = (if x12 < (↑(List.length r92) : Int) then spec_cascade.l8 n m5 n (x1) (x10) (x12) (0) (r91) (r92) (r93) else some ((r91, x10, r92))) := by kernel_rfl
theorem spec_cascade.l8_zero (n m5 : Nat) (x1 : List (Int × Int × List Int)) (x10 : Int) (x12 : Int) (x13 : Int) (r91 : List Int) (r92 : List Int) (r93 : List Bool) : spec_cascade.l8 n m5 0 x1 x10 x12 x13 r91 r92 r93 = none := by kernel_rfl
theorem spec_cascade.l8_succ (n m5 m8 : Nat) (x1 : List (Int × Int × List Int)) (x10 : Int) (x12 : Int) (x13 : Int) (r91 : List Int) (r92 : List Int) (r93 : List Bool) : spec_cascade.l8 n m5 (m8 + 1) x1 x10 x12 x13 r91 r92 r93 = (if x13 < (↑(List.length x1) : Int) then (if 0 ≤ x13 then (if x13 < (↑(List.length r93) : Int) then (if List.getD r93 (Int.toNat x13) Bool.false = Bool.true then spec_cascade.l8 n m5 m8 (x1) (x10) (x12) (Go.RowKit.wrap64 (x13 + 1)) (r91) (r92) (r93) else (if 0 ≤ x13 then (if x13 < (↑(List.length x1) : Int) then (if 0 ≤ x12 then (if x12 < (↑(List.length r92) : Int) then (if Prod.fst (List.getD x1 (Int.toNat x13) (0, 0, [])) = List.getD r92 (Int.toNat x12) 0 then (if 0 ≤ x13 then (if x13 < (↑(List.length r93) : Int) then (if 0 ≤ x13 then (if x13 < (↑(List.length x1) : Int) then ((spec_fail n (r91, List.getD x1 (Int.toNat x13) (0, 0, []))).bind fun y2 => spec_cascade.l16 n m5 m8 n (x1) (Go.RowKit.wrap64 (x10 + Prod.fst (Prod.snd y2))) (x12) (x13) (0) (Prod.fst y2) (r92) (List.set r93 (Int.toNat x13) Bool.true) (Prod.snd (Prod.snd y2))) else none) else none) else none) else none) else spec_cascade.l8 n m5 m8 (x1) (x10) (x12) (Go.RowKit.wrap64 (x13 + 1)) (r91) (r92) (r93)) else none) else none) else none) else none)) else none) else none) else spec_cascade.l5 n m5 (x1) (x10) (Go.RowKit.wrap64 (x12 + 1)) (r91) (r92) (r93)) := by kernel_rfl
theorem spec_cascade.l16_zero (n m5 m8 : Nat) (x1 : List (Int × Int × List Int)) (x10 : Int) (x12 : Int) (x13 : Int) (x17 : Int) (r91 : List Int) (r92 : List Int) (r93 : List Bool) (r94 : List Int) : spec_cascade.l16 n m5 m8 0 x1 x10 x12 x13 x17 r91 r92 r93 r94 = none := by kernel_rfl
theorem spec_cascade.l16_succ (n m5 m8 m16 : Nat) (x1 : List (Int × Int × List Int)) (x10 : Int) (x12 : Int) (x13 : Int) (x17 : Int) (r91 : List Int) (r92 : List Int) (r93 : List Bool) (r94 : List Int) : spec_cascade.l16 n m5 m8 (m16 + 1) x1 x10 x12 x13 x17 r91 r92 r93 r94 = (if x17 < (↑(List.length r94) : Int) then (if 0 ≤ x17 then (if x17 < (↑(List.length r94) : Int) then ((spec_placeIn n (r92, List.getD r94 (Int.toNat x17) 0)).bind fun y3 => (if y3 < 0 then (if 0 ≤ x17 then (if x17 < (↑(List.length r94) : Int) then (if List.length r92 + List.length (List.set (List.replicate (1 : Nat) (0 : Int)) (0 : Nat) (List.getD r94 (Int.toNat x17) (0 : Int))) ≤ Go.Refl.maxN then spec_cascade.l16 n m5 m8 m16 (x1) (x10) (x12) (x13) (Go.RowKit.wrap64 (x17 + 1)) (r91) (r92 ++ List.set (List.replicate 1 0) 0 (List.getD r94 (Int.toNat x17) 0)) (r93) (r94) else none) else none) else none) else spec_cascade.l16 n m5 m8 m16 (x1) (x10) (x12) (x13) (Go.RowKit.wrap64 (x17 + 1)) (r91) (r92) (r93) (r94))) else none) else none) else spec_cascade.l8 n m5 m8 (x1) (x10) (x12) (Go.RowKit.wrap64 (x13 + 1)) (r91) (r92) (r93)) := by kernel_rfl
theorem spec_cascade.call : Callable Try.prog 101 := ⟨Try.f101, Try.func101, by kernel_rfl, by kernel_rfl⟩
theorem spec_cascade.ok (n : Nat) : FC Try.prog 101 { params := spec_cascade.ps, res := spec_cascade.res, run := spec_cascade n } :=
  evalF_ok (C := spec_cascade.C) ⟨tb_ok, fun n _ _ h => tabOk (l := [(110, { params := spec_fail.ps, res := spec_fail.res, run := spec_fail n }), (93, { params := spec_placeIn.ps, res := spec_placeIn.res, run := spec_placeIn n })]) (all_cons ⟨spec_fail.ok n, spec_fail.call⟩ (all_cons ⟨spec_placeIn.ok n, spec_placeIn.call⟩ (all_nil))) h, mixed⟩ spec_cascade.A Try.func101 spec_cascade.ps spec_cascade.res n
end Go.Proofs.YthooakfbpoopaaaG
end
section
open Go Go.Refl Go.Proofs
set_option maxRecDepth 1000000
set_option maxHeartbeats 0
set_option linter.unusedVariables false
namespace Go.Proofs.YthooakfbpoopaaaG
abbrev spec_failing.ps : List Pm := [.arg (.pr (.own (.int .i64) 3) (.pr (.own (.pair (.int .i64) (.pair (.int .i64) (.slice (.int .i64)))) 45) (.v (.pair (.int .i64) (.pair (.int .i64) (.int .i64)))))), .arg (.v (.int .i64))]
abbrev spec_failing.res : List M := [(.pr (.own (.int .i64) 3) (.pr (.own (.pair (.int .i64) (.pair (.int .i64) (.slice (.int .i64)))) 45) (.v (.pair (.int .i64) (.pair (.int .i64) (.int .i64)))))), .v .bool]
noncomputable def spec_failing.C : Cfg := { tb := tb, tab := fun n f => Refl.look [(63, { params := spec_inRange.ps, res := spec_inRange.res, run := spec_inRange n }), (101, { params := spec_cascade.ps, res := spec_cascade.res, run := spec_cascade n }), (93, { params := spec_placeIn.ps, res := spec_placeIn.res, run := spec_placeIn n })] f }
noncomputable def spec_failing.A : Ann := { joins := [], loops := [(6, { live := [2, 4, 6, 7, 8, 9, 10], base := 64 })], ids := [(1, [(16, [])]), (3, [(25, [97, 98])]), (8, [(44, [])]), (9, [(52, [])])], pids := [(0, [120, 121])], nroots := 128 }
noncomputable def spec_failing (n : Nat) (x : (List Int × List (Int × Int × List Int) × Int × Int × Int) × Int) : Option ((List Int × List (Int × Int × List Int) × Int × Int × Int) × Bool) := evalF spec_failing.C spec_failing.A Try.f79 spec_failing.ps spec_failing.res n x
noncomputable def spec_failing.K0 (_ : Nat) : Kont ((List Int × List (Int × Int × List Int) × Int × Int × Int) × Bool) := finK spec_failing.C (Func.results Try.f79).toList spec_failing.ps spec_failing.res
noncomputable def spec_failing.K1 (n : Nat) : Kont ((List Int × List (Int × Int × List Int) × Int × Int × Int) × Bool) := seqK (fun s' k => evalC spec_failing.C spec_failing.A n (codeAt Try.f79 [1, 1, 1, 1, 1]) (cutAt spec_failing.A.joins (codeAt Try.f79 [1, 1, 1, 1, 1]) s') k) (spec_failing.K0 n)
noncomputable def spec_failing.K2 (n : Nat) : Kont ((List Int × List (Int × Int × List Int) × Int × Int × Int) × Bool) := blockK 0 (spec_failing.K1 n)
noncomputable def spec_failing.l6 (n m6 : Nat) (x7 : Int) (x10 : Int) (r64_2 : Int) (r64_3 : Int) (r64_4 : Int) (r65_2 : Int) (r65_3 : Int) (r65_4 : Int) (r66 : List Int) (r67 : List Int) (r68 : List (Int × Int × List Int)) (r69 : List (Int × Int × List Int)) : Option ((List Int × List (Int × Int × List Int) × Int × Int × Int) × Bool) := loopE (cutAt spec_failing.A.loops (codeAt Try.f79 [1, 1, 1, 1, 0, 1, 0, 0])) (fun s k => evalC spec_failing.C spec_failing.A n (codeAt Try.f79 [1, 1, 1, 1, 0, 1, 0, 0]) s k) m6 (St.of 64 128 [(2, .ptr 64 0 0), (4, .ptr 65 0 0), (6, .own 66), (7, .val (.int .i64) x7), (8, .own 67), (9, .own 68), (10, .val (.int .i64) x10)] [(64, .box 26 [.undef, .own 69, .val (.int .i64) r64_2, .val (.int .i64) r64_3, .val (.int .i64) r64_4]), (65, .box 26 [.nils, .nils, .val (.int .i64) r65_2, .val (.int .i64) r65_3, .val (.int .i64) r65_4]), (66, .row (.int .i64) 3 r66), (67, .row (.int .i64) 3 r67), (68, .row (.pair (.int .i64) (.pair (.int .i64) (.slice (.int .i64)))) 45 r68), (69, .row (.pair (.int .i64) (.pair (.int .i64) (.slice (.int .i64)))) 45 r69)] []) (spec_failing.K2 n)
theorem spec_failing.eq (n : Nat) (x0 : List Int × List (Int × Int × List Int) × Int × Int × Int) (x1 : Int) : spec_failing n (x0, x1) = ((spec_inRange n (x1, 0, Go.RowKit.wrap64 ((↑(List.length (Prod.fst x0)) : Int) - 1))).bind fun y0 => (if (!y0) = true then some (((Prod.fst x0, Prod.fst (Prod.snd x0), Prod.fst (Prod.snd (Prod.snd x0)), Prod.fst (Prod.snd (Prod.snd (Prod.snd x0))), Prod.snd (Prod.snd (Prod.snd (Prod.snd x0)))), Bool.false)) else ((spec_cascade n (Prod.fst x0, Prod.fst (Prod.snd x0), x1)).bind fun y3 => spec_failing.l6 n n (Prod.fst (Prod.snd y3)) (0) (Prod.fst (Prod.snd (Prod.snd x0))) (Prod.fst (Prod.snd (Prod.snd (Prod.snd x0)))) (Prod.snd (Prod.snd (Prod.snd (Prod.snd x0)))) (0) (0) (0) (Prod.fst y3) (Prod.snd (Prod.snd y3)) (List.replicate 0 (0, 0, [])) (Prod.fst (Prod.snd x0))))) := by kernel_rfl
theorem spec_failing.l6_zero (n : Nat) (x7 : Int) (x10 : Int) (r64_2 : Int) (r64_3 : Int) (r64_4 : Int) (r65_2 : Int) (r65_3 : Int) (r65_4 : Int) (r66 : List Int) (r67 : List Int) (r68 : List (Int × Int × List Int)) (r69 : List (Int × Int × List Int)) : spec_failing.l6 n 0 x7 x10 r64_2 r64_3 r64_4 r65_2 r65_3 r65_4 r66 r67 r68 r69 = none := by kernel_rfl
theorem spec_failing.l6_succ (n m6 : Nat) (x7 : Int) (x10 : Int) (r64_2 : Int) (r64_3 : Int) (r64_4 : Int) (r65_2 : Int) (r65_3 : Int) (r65_4 : Int) (r66 : List Int) (r67 : List Int) (r68 : List (Int × Int × List Int)) (r69 : List (Int × Int × List Int)) : spec_failing.l6 n (m6 + 1) x7 x10 r64_2 r64_3 r64_4 r65_2 r65_3 r65_4 r66 r67 r68 r69 = (if x10 < (↑(List.length r69) : Int) then (if 0 ≤ x10 then (if x10 < (↑(List.length r69) : Int) then ((spec_placeIn n (r67, Prod.fst (List.getD r69 (Int.toNat x10) (0, 0, [])))).bind fun y4 => (if y4 < 0 then (if 0 ≤ x10 then (if x10 < (↑(List.length r69) : Int) then (if List.length r68 + List.length (List.set (List.replicate (1 : Nat) ((0 : Int), (0 : Int), [])) (0 : Nat) (List.getD r69 (Int.toNat x10) ((0 : Int), (0 : Int), []))) ≤ Go.Refl.maxN then spec_failing.l6 n m6 (x7) (Go.RowKit.wrap64 (x10 + 1)) (r64_2) (r64_3) (r64_4) (r65_2) (r65_3) (r65_4) (r66) (r67) (r68 ++ List.set (List.replicate 1 (0, 0, [])) 0 (List.getD r69 (Int.toNat x10) (0, 0, []))) (r69) else none) else none) else none) else spec_failing.l6 n m6 (x7) (Go.RowKit.wrap64 (x10 + 1)) (r64_2) (r64_3) (r64_4) (r65_2) (r65_3) (r65_4) (r66) (r67) (r68) (r69))) else none) else none) else some (((r66, r68, r64_2, Go.RowKit.wrap64 (r64_3 - x7), r64_4), Bool.true))) := by kernel_rfl
theorem spec_failing.call : Callable Try.prog 79 := ⟨Try.f79, Try.func79, by kernel_rfl, by kernel_rfl⟩
theorem spec_failing.ok (n : Nat) : FC Try.prog 79 { params := spec_failing.ps, res := spec_failing.res, run := spec_failing n } :=
  evalF_ok (C := spec_failing.C) ⟨tb_ok, fun n _ _ h => tabOk (l := [(63, { params := spec_inRange.ps, res := spec_inRange.res, run := spec_inRange n }), (101, { params := spec_cascade.ps, res := spec_cascade.res, run := spec_cascade n }), (93, { params := spec_placeIn.ps, res := spec_placeIn.res, run := spec_placeIn n })]) (all_cons ⟨spec_inRange.ok n, spec_inRange.call⟩ (all_cons ⟨spec_cascade.ok n, spec_cascade.call⟩ (all_cons ⟨spec_placeIn.ok n, spec_placeIn.call⟩ (all_nil)))) h, mixed⟩ spec_failing.A Try.func79 spec_failing.ps spec_failing.res n
end Go.Proofs.YthooakfbpoopaaaG
end
section
open Go Go.Refl Go.Proofs
set_option maxRecDepth 1000000
set_option maxHeartbeats 0
set_option linter.unusedVariables false
namespace Go.Proofs.YthooakfbpoopaaaG
abbrev spec_validRate.ps : List Pm := [.arg (.v (.pair (.int .i64) (.int .i64)))]
abbrev spec_validRate.res : List M := [.v .bool]
noncomputable def spec_validRate.C : Cfg := { tb := tb, tab := fun n f => Refl.look [(63, { params := spec_inRange.ps, res := spec_inRange.res, run := spec_inRange n })] f }
noncomputable def spec_validRate.A : Ann := { joins := [], loops := [], ids := [(1, [(5, []), (11, [])])], pids := [], nroots := 77 }
noncomputable def spec_validRate (n : Nat) (x : Int × Int) : Option (Bool) := evalF spec_validRate.C spec_validRate.A Try.f102 spec_validRate.ps spec_validRate.res n x
noncomputable def spec_validRate.K0 (_ : Nat) : Kont (Bool) := finK spec_validRate.C (Func.results Try.f102).toList spec_validRate.ps spec_validRate.res
theorem spec_validRate.eq (n : Nat) (x0 : Int × Int) : spec_validRate n x0 = ((spec_inRange n (Prod.snd x0, 1, 1000)).bind fun y0 => (if y0 = Bool.true then ((spec_inRange n (Prod.fst x0, 0, Prod.snd x0)).bind fun y1 => some (y1)) else some (Bool.false))) := by kernel_rfl
theorem spec_validRate.call : Callable Try.prog 102 := ⟨Try.f102, Try.func102, by kernel_rfl, by kernel_rfl⟩
theorem spec_validRate.ok (n : Nat) : FC Try.prog 102 { params := spec_validRate.ps, res := spec_validRate.res, run := spec_validRate n } :=
  evalF_ok (C := spec_validRate.C) ⟨tb_ok, fun n _ _ h => tabOk (l := [(63, { params := spec_inRange.ps, res := spec_inRange.res, run := spec_inRange n })]) (all_cons ⟨spec_inRange.ok n, spec_inRange.call⟩ (all_nil)) h, mixed⟩ spec_validRate.A Try.func102 spec_validRate.ps spec_validRate.res n
end Go.Proofs.YthooakfbpoopaaaG
end
section
open Go Go.Refl Go.Proofs
set_option maxRecDepth 1000000
set_option maxHeartbeats 0
set_option linter.unusedVariables false
namespace Go.Proofs.YthooakfbpoopaaaG
abbrev spec_near.ps : List Pm := [.arg (.v (.int .i64)), .arg (.v (.pair (.int .i64) (.int .i64)))]
abbrev spec_near.res : List M := [.v (.int .i64)]
noncomputable def spec_near.C : Cfg := { tb := tb, tab := fun n f => Refl.look [] f }
noncomputable def spec_near.A : Ann := { joins := [], loops := [], ids := [], pids := [], nroots := 81 }
noncomputable def spec_near (n : Nat) (x : Int × Int × Int) : Option (Int) := evalF spec_near.C spec_near.A Try.f111 spec_near.ps spec_near.res n x
noncomputable def spec_near.K0 (_ : Nat) : Kont (Int) := finK spec_near.C (Func.results Try.f111).toList spec_near.ps spec_near.res
theorem spec_near.eq (n : Nat) (x0 : Int) (x1 : Int × Int) : spec_near n (x0, x1) = (if Go.RowKit.wrap64 (2 * Prod.snd x1) = 0 then none else some (Go.RowKit.wrap64 (Int.tdiv (Go.RowKit.wrap64 (Go.RowKit.wrap64 (Go.RowKit.wrap64 (2 * x0) * Prod.fst x1) + Prod.snd x1)) (Go.RowKit.wrap64 (2 * Prod.snd x1))))) := by kernel_rfl
theorem spec_near.call : Callable Try.prog 111 := ⟨Try.f111, Try.func111, by kernel_rfl, by kernel_rfl⟩
theorem spec_near.ok (n : Nat) : FC Try.prog 111 { params := spec_near.ps, res := spec_near.res, run := spec_near n } :=
  evalF_ok (C := spec_near.C) ⟨tb_ok, fun n _ _ h => tabOk (l := []) (all_nil) h, mixed⟩ spec_near.A Try.func111 spec_near.ps spec_near.res n
end Go.Proofs.YthooakfbpoopaaaG
end
section
open Go Go.Refl Go.Proofs
set_option maxRecDepth 1000000
set_option maxHeartbeats 0
set_option linter.unusedVariables false
namespace Go.Proofs.YthooakfbpoopaaaG
abbrev spec_even.ps : List Pm := [.arg (.v (.int .i64)), .arg (.v (.pair (.int .i64) (.int .i64)))]
abbrev spec_even.res : List M := [.v (.int .i64)]
noncomputable def spec_even.C : Cfg := { tb := tb, tab := fun n f => Refl.look [(111, { params := spec_near.ps, res := spec_near.res, run := spec_near n })] f }
noncomputable def spec_even.A : Ann := { joins := [], loops := [], ids := [(1, [(8, [])])], pids := [], nroots := 102 }
noncomputable def spec_even (n : Nat) (x : Int × Int × Int) : Option (Int) := evalF spec_even.C spec_even.A Try.f103 spec_even.ps spec_even.res n x
noncomputable def spec_even.K0 (_ : Nat) : Kont (Int) := finK spec_even.C (Func.results Try.f103).toList spec_even.ps spec_even.res
theorem spec_even.eq (n : Nat) (x0 : Int) (x1 : Int × Int) : spec_even n (x0, x1) = ((spec_near n (x0, Prod.fst x1, Prod.snd x1)).bind fun y0 => (if Prod.snd x1 = 0 then none else (if Int.tmod (Go.RowKit.wrap64 (Go.RowKit.wrap64 (2 * x0) * Prod.fst x1)) (Prod.snd x1) = 0 then (if Prod.snd x1 = 0 then none else (if Int.tmod (Go.RowKit.wrap64 (Int.tdiv (Go.RowKit.wrap64 (Go.RowKit.wrap64 (2 * x0) * Prod.fst x1)) (Prod.snd x1))) 2 = 1 then (if Int.tmod y0 2 = 1 then some (Go.RowKit.wrap64 (y0 - 1)) else some (y0)) else some (y0))) else some (y0)))) := by kernel_rfl
theorem spec_even.call : Callable Try.prog 103 := ⟨Try.f103, Try.func103, by kernel_rfl, by kernel_rfl⟩
theorem spec_even.ok (n : Nat) : FC Try.prog 103 { params := spec_even.ps, res := spec_even.res, run := spec_even n } :=
  evalF_ok (C := spec_even.C) ⟨tb_ok, fun n _ _ h => tabOk (l := [(111, { params := spec_near.ps, res := spec_near.res, run := spec_near n })]) (all_cons ⟨spec_near.ok n, spec_near.call⟩ (all_nil)) h, mixed⟩ spec_even.A Try.func103 spec_even.ps spec_even.res n
end Go.Proofs.YthooakfbpoopaaaG
end
section
open Go Go.Refl Go.Proofs
set_option maxRecDepth 1000000
set_option maxHeartbeats 0
set_option linter.unusedVariables false
namespace Go.Proofs.YthooakfbpoopaaaG
abbrev spec_night.ps : List Pm := [.arg (.pr (.own (.int .i64) 3) (.pr (.own (.pair (.int .i64) (.pair (.int .i64) (.slice (.int .i64)))) 45) (.v (.pair (.int .i64) (.pair (.int .i64) (.int .i64)))))), .arg (.v (.pair (.int .i64) (.int .i64)))]
abbrev spec_night.res : List M := [(.pr (.own (.int .i64) 3) (.pr (.own (.pair (.int .i64) (.pair (.int .i64) (.slice (.int .i64)))) 45) (.v (.pair (.int .i64) (.pair (.int .i64) (.int .i64)))))), .v .bool]
noncomputable def spec_night.C : Cfg := { tb := tb, tab := fun n f => Refl.look [(102, { params := spec_validRate.ps, res := spec_validRate.res, run := spec_validRate n }), (103, { params := spec_even.ps, res := spec_even.res, run := spec_even n })] f }
noncomputable def spec_night.A : Ann := { joins := [], loops := [(4, { live := [2, 3, 4, 6], base := 50 })], ids := [(1, [(9, [])]), (6, [(26, [])])], pids := [(0, [106, 107])], nroots := 114 }
noncomputable def spec_night (n : Nat) (x : (List Int × List (Int × Int × List Int) × Int × Int × Int) × Int × Int) : Option ((List Int × List (Int × Int × List Int) × Int × Int × Int) × Bool) := evalF spec_night.C spec_night.A Try.f80 spec_night.ps spec_night.res n x
noncomputable def spec_night.K0 (_ : Nat) : Kont ((List Int × List (Int × Int × List Int) × Int × Int × Int) × Bool) := finK spec_night.C (Func.results Try.f80).toList spec_night.ps spec_night.res
noncomputable def spec_night.K1 (n : Nat) : Kont ((List Int × List (Int × Int × List Int) × Int × Int × Int) × Bool) := seqK (fun s' k => evalC spec_night.C spec_night.A n (codeAt Try.f80 [1, 1, 1]) (cutAt spec_night.A.joins (codeAt Try.f80 [1, 1, 1]) s') k) (spec_night.K0 n)
noncomputable def spec_night.K2 (n : Nat) : Kont ((List Int × List (Int × Int × List Int) × Int × Int × Int) × Bool) := blockK 0 (spec_night.K1 n)
noncomputable def spec_night.l4 (n m4 : Nat) (x6 : Int) (r50_2 : Int) (r50_3 : Int) (r50_4 : Int) (r51_0 : Int) (r51_1 : Int) (r52_2 : Int) (r52_3 : Int) (r52_4 : Int) (r53 : List Int) (r54 : List (Int × Int × List Int)) : Option ((List Int × List (Int × Int × List Int) × Int × Int × Int) × Bool) := loopE (cutAt spec_night.A.loops (codeAt Try.f80 [1, 1, 0, 1, 0, 0])) (fun s k => evalC spec_night.C spec_night.A n (codeAt Try.f80 [1, 1, 0, 1, 0, 0]) s k) m4 (St.of 50 114 [(2, .ptr 50 0 0), (3, .ptr 51 0 0), (4, .ptr 52 0 0), (6, .val (.int .i64) x6)] [(50, .box 26 [.own 53, .own 54, .val (.int .i64) r50_2, .val (.int .i64) r50_3, .val (.int .i64) r50_4]), (51, .box 28 [.val (.int .i64) r51_0, .val (.int .i64) r51_1]), (52, .box 26 [.nils, .nils, .val (.int .i64) r52_2, .val (.int .i64) r52_3, .val (.int .i64) r52_4]), (53, .row (.int .i64) 3 r53), (54, .row (.pair (.int .i64) (.pair (.int .i64) (.slice (.int .i64)))) 45 r54)] []) (spec_night.K2 n)
theorem spec_night.eq (n : Nat) (x0 : List Int × List (Int × Int × List Int) × Int × Int × Int) (x1 : Int × Int) : spec_night n (x0, x1) = ((spec_validRate n (Prod.fst x1, Prod.snd x1)).bind fun y0 => (if (!y0) = true then some (((Prod.fst x0, Prod.fst (Prod.snd x0), Prod.fst (Prod.snd (Prod.snd x0)), Prod.fst (Prod.snd (Prod.snd (Prod.snd x0))), Prod.snd (Prod.snd (Prod.snd (Prod.snd x0)))), Bool.false)) else spec_night.l4 n n (0) (Prod.fst (Prod.snd (Prod.snd x0))) (Prod.fst (Prod.snd (Prod.snd (Prod.snd x0)))) (Prod.snd (Prod.snd (Prod.snd (Prod.snd x0)))) (Prod.fst x1) (Prod.snd x1) (0) (0) (0) (Prod.fst x0) (Prod.fst (Prod.snd x0)))) := by kernel_rfl
theorem spec_night.l4_zero (n : Nat) (x6 : Int) (r50_2 : Int) (r50_3 : Int) (r50_4 : Int) (r51_0 : Int) (r51_1 : Int) (r52_2 : Int) (r52_3 : Int) (r52_4 : Int) (r53 : List Int) (r54 : List (Int × Int × List Int)) : spec_night.l4 n 0 x6 r50_2 r50_3 r50_4 r51_0 r51_1 r52_2 r52_3 r52_4 r53 r54 = none := by kernel_rfl
theorem spec_night.l4_succ (n m4 : Nat) (x6 : Int) (r50_2 : Int) (r50_3 : Int) (r50_4 : Int) (r51_0 : Int) (r51_1 : Int) (r52_2 : Int) (r52_3 : Int) (r52_4 : Int) (r53 : List Int) (r54 : List (Int × Int × List Int)) : spec_night.l4 n (m4 + 1) x6 r50_2 r50_3 r50_4 r51_0 r51_1 r52_2 r52_3 r52_4 r53 r54 = (if x6 < (↑(List.length r54) : Int) then (if 0 ≤ x6 then (if x6 < (↑(List.length r54) : Int) then ((spec_even n (Prod.fst (Prod.snd (List.getD r54 (Int.toNat x6) (0, 0, []))), r51_0, r51_1)).bind fun y1 => (if 0 ≤ x6 then (if x6 < (↑(List.length r54) : Int) then (if 0 ≤ x6 then (if x6 < (↑(List.length r54) : Int) then spec_night.l4 n m4 (Go.RowKit.wrap64 (x6 + 1)) (r50_2) (Go.RowKit.wrap64 (r50_3 + y1)) (r50_4) (r51_0) (r51_1) (r52_2) (r52_3) (r52_4) (r53) (List.set r54 (Int.toNat x6) (Prod.fst (List.getD r54 (Int.toNat x6) (0, 0, [])), Go.RowKit.wrap64 (Prod.fst (Prod.snd (List.getD r54 (Int.toNat x6) (0, 0, []))) + y1), Prod.snd (Prod.snd (List.getD r54 (Int.toNat x6) (0, 0, []))))) else none) else none) else none) else none)) else none) else none) else some (((r53, r54, r50_2, r50_3, Go.RowKit.wrap64 (r50_4 + 1)), Bool.true))) := by kernel_rfl
theorem spec_night.call : Callable Try.prog 80 := ⟨Try.f80, Try.func80, by kernel_rfl, by kernel_rfl⟩
theorem spec_night.ok (n : Nat) : FC Try.prog 80 { params := spec_night.ps, res := spec_night.res, run := spec_night n } :=
  evalF_ok (C := spec_night.C) ⟨tb_ok, fun n _ _ h => tabOk (l := [(102, { params := spec_validRate.ps, res := spec_validRate.res, run := spec_validRate n }), (103, { params := spec_even.ps, res := spec_even.res, run := spec_even n })]) (all_cons ⟨spec_validRate.ok n, spec_validRate.call⟩ (all_cons ⟨spec_even.ok n, spec_even.call⟩ (all_nil))) h, mixed⟩ spec_night.A Try.func80 spec_night.ps spec_night.res n
end Go.Proofs.YthooakfbpoopaaaG
end
section
open Go Go.Refl Go.Proofs
set_option maxRecDepth 1000000
set_option maxHeartbeats 0
set_option linter.unusedVariables false
namespace Go.Proofs.YthooakfbpoopaaaG
abbrev spec_sharing.ps : List Pm := [.arg (.pr (.own (.int .i64) 3) (.pr (.own (.pair (.int .i64) (.pair (.int .i64) (.slice (.int .i64)))) 45) (.v (.pair (.int .i64) (.pair (.int .i64) (.int .i64))))))]
abbrev spec_sharing.res : List M := [(.pr (.own (.int .i64) 3) (.pr (.own (.pair (.int .i64) (.pair (.int .i64) (.slice (.int .i64)))) 45) (.v (.pair (.int .i64) (.pair (.int .i64) (.int .i64)))))), .v .bool]
noncomputable def spec_sharing.C : Cfg := { tb := tb, tab := fun n f => Refl.look [(104, { params := spec_split.ps, res := spec_split.res, run := spec_split n })] f }
noncomputable def spec_sharing.A : Ann := { joins := [], loops := [(5, { live := [1, 2, 4, 5], base := 38 })], ids := [], pids := [(0, [94, 95])], nroots := 102 }
noncomputable def spec_sharing (n : Nat) (x : List Int × List (Int × Int × List Int) × Int × Int × Int) : Option ((List Int × List (Int × Int × List Int) × Int × Int × Int) × Bool) := evalF spec_sharing.C spec_sharing.A Try.f81 spec_sharing.ps spec_sharing.res n x
noncomputable def spec_sharing.K0 (_ : Nat) : Kont ((List Int × List (Int × Int × List Int) × Int × Int × Int) × Bool) := finK spec_sharing.C (Func.results Try.f81).toList spec_sharing.ps spec_sharing.res
noncomputable def spec_sharing.K1 (n : Nat) : Kont ((List Int × List (Int × Int × List Int) × Int × Int × Int) × Bool) := seqK (fun s' k => evalC spec_sharing.C spec_sharing.A n (codeAt Try.f81 [1, 1, 1, 1]) (cutAt spec_sharing.A.joins (codeAt Try.f81 [1, 1, 1, 1]) s') k) (spec_sharing.K0 n)
noncomputable def spec_sharing.K2 (n : Nat) : Kont ((List Int × List (Int × Int × List Int) × Int × Int × Int) × Bool) := blockK 0 (spec_sharing.K1 n)
noncomputable def spec_sharing.l5 (n m5 : Nat) (x5 : Int) (r38_2 : Int) (r38_3 : Int) (r38_4 : Int) (r39_2 : Int) (r39_3 : Int) (r39_4 : Int) (r40 : List Int) (r41 : List Int) (r42 : List (Int × Int × List Int)) : Option ((List Int × List (Int × Int × List Int) × Int × Int × Int) × Bool) := loopE (cutAt spec_sharing.A.loops (codeAt Try.f81 [1, 1, 1, 0, 1, 0, 0])) (fun s k => evalC spec_sharing.C spec_sharing.A n (codeAt Try.f81 [1, 1, 1, 0, 1, 0, 0]) s k) m5 (St.of 38 102 [(1, .ptr 38 0 0), (2, .ptr 39 0 0), (4, .own 40), (5, .val (.int .i64) x5)] [(38, .box 26 [.own 41, .own 42, .val (.int .i64) r38_2, .val (.int .i64) r38_3, .val (.int .i64) r38_4]), (39, .box 26 [.nils, .nils, .val (.int .i64) r39_2, .val (.int .i64) r39_3, .val (.int .i64) r39_4]), (40, .row (.int .i64) 3 r40), (41, .row (.int .i64) 3 r41), (42, .row (.pair (.int .i64) (.pair (.int .i64) (.slice (.int .i64)))) 45 r42)] []) (spec_sharing.K2 n)
theorem spec_sharing.eq (n : Nat) (x0 : List Int × List (Int × Int × List Int) × Int × Int × Int) : spec_sharing n x0 = (if Prod.fst (Prod.snd (Prod.snd (Prod.snd x0))) < 0 then some (((Prod.fst x0, Prod.fst (Prod.snd x0), Prod.fst (Prod.snd (Prod.snd x0)), Prod.fst (Prod.snd (Prod.snd (Prod.snd x0))), Prod.snd (Prod.snd (Prod.snd (Prod.snd x0)))), Bool.false)) else ((spec_split n (Prod.fst (Prod.snd (Prod.snd (Prod.snd x0))), (↑(List.length (Prod.fst x0)) : Int))).bind fun y0 => spec_sharing.l5 n n (0) (Prod.fst (Prod.snd (Prod.snd x0))) (Prod.fst (Prod.snd (Prod.snd (Prod.snd x0)))) (Prod.snd (Prod.snd (Prod.snd (Prod.snd x0)))) (0) (0) (0) (y0) (Prod.fst x0) (Prod.fst (Prod.snd x0)))) := by kernel_rfl
theorem spec_sharing.l5_zero (n : Nat) (x5 : Int) (r38_2 : Int) (r38_3 : Int) (r38_4 : Int) (r39_2 : Int) (r39_3 : Int) (r39_4 : Int) (r40 : List Int) (r41 : List Int) (r42 : List (Int × Int × List Int)) : spec_sharing.l5 n 0 x5 r38_2 r38_3 r38_4 r39_2 r39_3 r39_4 r40 r41 r42 = none := by kernel_rfl
theorem spec_sharing.l5_succ (n m5 : Nat) (x5 : Int) (r38_2 : Int) (r38_3 : Int) (r38_4 : Int) (r39_2 : Int) (r39_3 : Int) (r39_4 : Int) (r40 : List Int) (r41 : List Int) (r42 : List (Int × Int × List Int)) : spec_sharing.l5 n (m5 + 1) x5 r38_2 r38_3 r38_4 r39_2 r39_3 r39_4 r40 r41 r42 = (if x5 < (↑(List.length r40) : Int) then (if 0 ≤ x5 then (if x5 < (↑(List.length r41) : Int) then (if 0 ≤ x5 then (if x5 < (↑(List.length r40) : Int) then (if 0 ≤ x5 then (if x5 < (↑(List.length r41) : Int) then spec_sharing.l5 n m5 (Go.RowKit.wrap64 (x5 + 1)) (r38_2) (r38_3) (r38_4) (r39_2) (r39_3) (r39_4) (r40) (List.set r41 (Int.toNat x5) (Go.RowKit.wrap64 (List.getD r41 (Int.toNat x5) 0 + List.getD r40 (Int.toNat x5) 0))) (r42) else none) else none) else none) else none) else none) else none) else some (((r41, r42, r38_2, 0, r38_4), Bool.true))) := by kernel_rfl
theorem spec_sharing.call : Callable Try.prog 81 := ⟨Try.f81, Try.func81, by kernel_rfl, by kernel_rfl⟩
theorem spec_sharing.ok (n : Nat) : FC Try.prog 81 { params := spec_sharing.ps, res := spec_sharing.res, run := spec_sharing n } :=
  evalF_ok (C := spec_sharing.C) ⟨tb_ok, fun n _ _ h => tabOk (l := [(104, { params := spec_split.ps, res := spec_split.res, run := spec_split n })]) (all_cons ⟨spec_split.ok n, spec_split.call⟩ (all_nil)) h, mixed⟩ spec_sharing.A Try.func81 spec_sharing.ps spec_sharing.res n
end Go.Proofs.YthooakfbpoopaaaG
end
section
open Go Go.Refl Go.Proofs
set_option maxRecDepth 1000000
set_option maxHeartbeats 0
set_option linter.unusedVariables false
namespace Go.Proofs.YthooakfbpoopaaaG
abbrev spec_validAmount.ps : List Pm := [.arg (.v (.int .i64))]
abbrev spec_validAmount.res : List M := [.v .bool]
noncomputable def spec_validAmount.C : Cfg := { tb := tb, tab := fun n f => Refl.look [(63, { params := spec_inRange.ps, res := spec_inRange.res, run := spec_inRange n })] f }
noncomputable def spec_validAmount.A : Ann := { joins := [], loops := [], ids := [(1, [(4, [])])], pids := [], nroots := 69 }
noncomputable def spec_validAmount (n : Nat) (x : Int) : Option (Bool) := evalF spec_validAmount.C spec_validAmount.A Try.f62 spec_validAmount.ps spec_validAmount.res n x
noncomputable def spec_validAmount.K0 (_ : Nat) : Kont (Bool) := finK spec_validAmount.C (Func.results Try.f62).toList spec_validAmount.ps spec_validAmount.res
theorem spec_validAmount.eq (n : Nat) (x0 : Int) : spec_validAmount n x0 = ((spec_inRange n (x0, 0, 1000000)).bind fun y0 => some (y0)) := by kernel_rfl
theorem spec_validAmount.call : Callable Try.prog 62 := ⟨Try.f62, Try.func62, by kernel_rfl, by kernel_rfl⟩
theorem spec_validAmount.ok (n : Nat) : FC Try.prog 62 { params := spec_validAmount.ps, res := spec_validAmount.res, run := spec_validAmount n } :=
  evalF_ok (C := spec_validAmount.C) ⟨tb_ok, fun n _ _ h => tabOk (l := [(63, { params := spec_inRange.ps, res := spec_inRange.res, run := spec_inRange n })]) (all_cons ⟨spec_inRange.ok n, spec_inRange.call⟩ (all_nil)) h, mixed⟩ spec_validAmount.A Try.func62 spec_validAmount.ps spec_validAmount.res n
end Go.Proofs.YthooakfbpoopaaaG
end
section
open Go Go.Refl Go.Proofs
set_option maxRecDepth 1000000
set_option maxHeartbeats 0
set_option linter.unusedVariables false
namespace Go.Proofs.YthooakfbpoopaaaG
abbrev spec_lent.ps : List Pm := [.arg (.v (.slice (.pair (.int .i64) (.pair (.int .i64) (.slice (.int .i64))))))]
abbrev spec_lent.res : List M := [.v (.int .i64)]
noncomputable def spec_lent.C : Cfg := { tb := tb, tab := fun n f => Refl.look [] f }
noncomputable def spec_lent.A : Ann := { joins := [], loops := [(3, { live := [0, 3, 4], base := 19 })], ids := [], pids := [], nroots := 83 }
noncomputable def spec_lent (n : Nat) (x : List (Int × Int × List Int)) : Option (Int) := evalF spec_lent.C spec_lent.A Try.f64 spec_lent.ps spec_lent.res n x
noncomputable def spec_lent.K0 (_ : Nat) : Kont (Int) := finK spec_lent.C (Func.results Try.f64).toList spec_lent.ps spec_lent.res
noncomputable def spec_lent.K1 (n : Nat) : Kont (Int) := seqK (fun s' k => evalC spec_lent.C spec_lent.A n (codeAt Try.f64 [1, 1, 1]) (cutAt spec_lent.A.joins (codeAt Try.f64 [1, 1, 1]) s') k) (spec_lent.K0 n)
noncomputable def spec_lent.K2 (n : Nat) : Kont (Int) := blockK 0 (spec_lent.K1 n)
noncomputable def spec_lent.l3 (n m3 : Nat) (x0 : List (Int × Int × List Int)) (x3 : Int) (x4 : Int) : Option (Int) := loopE (cutAt spec_lent.A.loops (codeAt Try.f64 [1, 1, 0, 1, 0, 0])) (fun s k => evalC spec_lent.C spec_lent.A n (codeAt Try.f64 [1, 1, 0, 1, 0, 0]) s k) m3 (St.of 19 83 [(0, .val (.slice (.pair (.int .i64) (.pair (.int .i64) (.slice (.int .i64))))) x0), (3, .val (.int .i64) x3), (4, .val (.int .i64) x4)] [] []) (spec_lent.K2 n)
theorem spec_lent.eq (n : Nat) (x0 : List (Int × Int × List Int)) : spec_lent n x0 = spec_lent.l3 n n (x0) (0) (0) := by kernel_rfl
theorem spec_lent.l3_zero (n : Nat) (x0 : List (Int × Int × List Int)) (x3 : Int) (x4 : Int) : spec_lent.l3 n 0 x0 x3 x4 = none := by kernel_rfl
theorem spec_lent.l3_succ (n m3 : Nat) (x0 : List (Int × Int × List Int)) (x3 : Int) (x4 : Int) : spec_lent.l3 n (m3 + 1) x0 x3 x4 = (if x4 < (↑(List.length x0) : Int) then (if 0 ≤ x4 then (if x4 < (↑(List.length x0) : Int) then spec_lent.l3 n m3 (x0) (Go.RowKit.wrap64 (x3 + Prod.fst (Prod.snd (List.getD x0 (Int.toNat x4) (0, 0, []))))) (Go.RowKit.wrap64 (x4 + 1)) else none) else none) else some (x3)) := by kernel_rfl
theorem spec_lent.call : Callable Try.prog 64 := ⟨Try.f64, Try.func64, by kernel_rfl, by kernel_rfl⟩
theorem spec_lent.ok (n : Nat) : FC Try.prog 64 { params := spec_lent.ps, res := spec_lent.res, run := spec_lent n } :=
  evalF_ok (C := spec_lent.C) ⟨tb_ok, fun n _ _ h => tabOk (l := []) (all_nil) h, mixed⟩ spec_lent.A Try.func64 spec_lent.ps spec_lent.res n
end Go.Proofs.YthooakfbpoopaaaG
end
section
open Go Go.Refl Go.Proofs
set_option maxRecDepth 1000000
set_option maxHeartbeats 0
set_option linter.unusedVariables false
namespace Go.Proofs.YthooakfbpoopaaaG
abbrev spec_total.ps : List Pm := [.arg (.v (.slice (.int .i64)))]
abbrev spec_total.res : List M := [.v (.int .i64)]
noncomputable def spec_total.C : Cfg := { tb := tb, tab := fun n f => Refl.look [] f }
noncomputable def spec_total.A : Ann := { joins := [], loops := [(3, { live := [0, 3, 4], base := 18 })], ids := [], pids := [], nroots := 82 }
noncomputable def spec_total (n : Nat) (x : List Int) : Option (Int) := evalF spec_total.C spec_total.A Try.f65 spec_total.ps spec_total.res n x
noncomputable def spec_total.K0 (_ : Nat) : Kont (Int) := finK spec_total.C (Func.results Try.f65).toList spec_total.ps spec_total.res
noncomputable def spec_total.K1 (n : Nat) : Kont (Int) := seqK (fun s' k => evalC spec_total.C spec_total.A n (codeAt Try.f65 [1, 1, 1]) (cutAt spec_total.A.joins (codeAt Try.f65 [1, 1, 1]) s') k) (spec_total.K0 n)
noncomputable def spec_total.K2 (n : Nat) : Kont (Int) := blockK 0 (spec_total.K1 n)
noncomputable def spec_total.l3 (n m3 : Nat) (x0 : List Int) (x3 : Int) (x4 : Int) : Option (Int) := loopE (cutAt spec_total.A.loops (codeAt Try.f65 [1, 1, 0, 1, 0, 0])) (fun s k => evalC spec_total.C spec_total.A n (codeAt Try.f65 [1, 1, 0, 1, 0, 0]) s k) m3 (St.of 18 82 [(0, .val (.slice (.int .i64)) x0), (3, .val (.int .i64) x3), (4, .val (.int .i64) x4)] [] []) (spec_total.K2 n)
theorem spec_total.eq (n : Nat) (x0 : List Int) : spec_total n x0 = spec_total.l3 n n (x0) (0) (0) := by kernel_rfl
theorem spec_total.l3_zero (n : Nat) (x0 : List Int) (x3 : Int) (x4 : Int) : spec_total.l3 n 0 x0 x3 x4 = none := by kernel_rfl
theorem spec_total.l3_succ (n m3 : Nat) (x0 : List Int) (x3 : Int) (x4 : Int) : spec_total.l3 n (m3 + 1) x0 x3 x4 = (if x4 < (↑(List.length x0) : Int) then (if 0 ≤ x4 then (if x4 < (↑(List.length x0) : Int) then spec_total.l3 n m3 (x0) (Go.RowKit.wrap64 (x3 + List.getD x0 (Int.toNat x4) 0)) (Go.RowKit.wrap64 (x4 + 1)) else none) else none) else some (x3)) := by kernel_rfl
theorem spec_total.call : Callable Try.prog 65 := ⟨Try.f65, Try.func65, by kernel_rfl, by kernel_rfl⟩
theorem spec_total.ok (n : Nat) : FC Try.prog 65 { params := spec_total.ps, res := spec_total.res, run := spec_total n } :=
  evalF_ok (C := spec_total.C) ⟨tb_ok, fun n _ _ h => tabOk (l := []) (all_nil) h, mixed⟩ spec_total.A Try.func65 spec_total.ps spec_total.res n
end Go.Proofs.YthooakfbpoopaaaG
end
section
open Go Go.Refl Go.Proofs
set_option maxRecDepth 1000000
set_option maxHeartbeats 0
set_option linter.unusedVariables false
namespace Go.Proofs.YthooakfbpoopaaaG
abbrev spec_validClub.ps : List Pm := [.arg (.v (.pair (.slice (.int .i64)) (.pair (.slice (.pair (.int .i64) (.pair (.int .i64) (.slice (.int .i64))))) (.pair (.int .i64) (.pair (.int .i64) (.int .i64))))))]
abbrev spec_validClub.res : List M := [.v .bool]
noncomputable def spec_validClub.C : Cfg := { tb := tb, tab := fun n f => Refl.look [(60, { params := spec_validStakes.ps, res := spec_validStakes.res, run := spec_validStakes n }), (61, { params := spec_validLoans.ps, res := spec_validLoans.res, run := spec_validLoans n }), (62, { params := spec_validAmount.ps, res := spec_validAmount.res, run := spec_validAmount n }), (63, { params := spec_inRange.ps, res := spec_inRange.res, run := spec_inRange n }), (64, { params := spec_lent.ps, res := spec_lent.res, run := spec_lent n }), (65, { params := spec_total.ps, res := spec_total.res, run := spec_total n })] f }
noncomputable def spec_validClub.A : Ann := { joins := [], loops := [], ids := [(1, [(5, []), (13, []), (19, []), (25, []), (31, [])]), (3, [(38, []), (42, [])])], pids := [], nroots := 111 }
noncomputable def spec_validClub (n : Nat) (x : List Int × List (Int × Int × List Int) × Int × Int × Int) : Option (Bool) := evalF spec_validClub.C spec_validClub.A Try.f35 spec_validClub.ps spec_validClub.res n x
noncomputable def spec_validClub.K0 (_ : Nat) : Kont (Bool) := finK spec_validClub.C (Func.results Try.f35).toList spec_validClub.ps spec_validClub.res
theorem spec_validClub.eq (n : Nat) (x0 : List Int × List (Int × Int × List Int) × Int × Int × Int) : spec_validClub n x0 = ((spec_validStakes n (Prod.fst x0)).bind fun y0 => (if (!y0) = Bool.true then some (Bool.false) else ((spec_validLoans n (Prod.fst (Prod.snd x0), (↑(List.length (Prod.fst x0)) : Int))).bind fun y1 => (if (!y1) = Bool.true then some (Bool.false) else ((spec_validAmount n (Prod.fst (Prod.snd (Prod.snd x0)))).bind fun y2 => (if (!y2) = Bool.true then some (Bool.false) else ((spec_inRange n (Prod.fst (Prod.snd (Prod.snd (Prod.snd x0))), (-1000000), 1000000)).bind fun y3 => (if (!y3) = Bool.true then some (Bool.false) else ((spec_inRange n (Prod.snd (Prod.snd (Prod.snd (Prod.snd x0))), 0, 999)).bind fun y4 => (if (!y4) = true then some (Bool.false) else ((spec_lent n (Prod.fst (Prod.snd x0))).bind fun y5 => ((spec_total n (Prod.fst x0)).bind fun y6 => some (Decidable.decide (Go.RowKit.wrap64 (Prod.fst (Prod.snd (Prod.snd x0)) + y5) = Go.RowKit.wrap64 (y6 + Prod.fst (Prod.snd (Prod.snd (Prod.snd x0)))))))))))))))))) := by kernel_rfl
theorem spec_validClub.call : Callable Try.prog 35 := ⟨Try.f35, Try.func35, by kernel_rfl, by kernel_rfl⟩
theorem spec_validClub.ok (n : Nat) : FC Try.prog 35 { params := spec_validClub.ps, res := spec_validClub.res, run := spec_validClub n } :=
  evalF_ok (C := spec_validClub.C) ⟨tb_ok, fun n _ _ h => tabOk (l := [(60, { params := spec_validStakes.ps, res := spec_validStakes.res, run := spec_validStakes n }), (61, { params := spec_validLoans.ps, res := spec_validLoans.res, run := spec_validLoans n }), (62, { params := spec_validAmount.ps, res := spec_validAmount.res, run := spec_validAmount n }), (63, { params := spec_inRange.ps, res := spec_inRange.res, run := spec_inRange n }), (64, { params := spec_lent.ps, res := spec_lent.res, run := spec_lent n }), (65, { params := spec_total.ps, res := spec_total.res, run := spec_total n })]) (all_cons ⟨spec_validStakes.ok n, spec_validStakes.call⟩ (all_cons ⟨spec_validLoans.ok n, spec_validLoans.call⟩ (all_cons ⟨spec_validAmount.ok n, spec_validAmount.call⟩ (all_cons ⟨spec_inRange.ok n, spec_inRange.call⟩ (all_cons ⟨spec_lent.ok n, spec_lent.call⟩ (all_cons ⟨spec_total.ok n, spec_total.call⟩ (all_nil))))))) h, mixed⟩ spec_validClub.A Try.func35 spec_validClub.ps spec_validClub.res n
end Go.Proofs.YthooakfbpoopaaaG
end
section
open Go Go.Refl Go.Proofs
set_option maxRecDepth 1000000
set_option maxHeartbeats 0
set_option linter.unusedVariables false
namespace Go.Proofs.YthooakfbpoopaaaG
abbrev spec_applyEvent.ps : List Pm := [.arg (.v (.pair (.slice (.int .i64)) (.pair (.slice (.pair (.int .i64) (.pair (.int .i64) (.slice (.int .i64))))) (.pair (.int .i64) (.pair (.int .i64) (.int .i64)))))), .arg (.v (.pair (.int .i64) (.pair (.int .i64) (.pair (.int .i64) (.pair (.int .i64) (.pair (.slice (.int .i64)) (.pair (.int .i64) (.int .i64))))))))]
abbrev spec_applyEvent.res : List M := [.v (.pair (.slice (.int .i64)) (.pair (.slice (.pair (.int .i64) (.pair (.int .i64) (.slice (.int .i64))))) (.pair (.int .i64) (.pair (.int .i64) (.int .i64))))), .v .bool]
noncomputable def spec_applyEvent.C : Cfg := { tb := tb, tab := fun n f => Refl.look [(74, { params := spec_copyClub.ps, res := spec_copyClub.res, run := spec_copyClub n }), (75, { params := spec_moveMoney.ps, res := spec_moveMoney.res, run := spec_moveMoney n }), (77, { params := spec_copyInts.ps, res := [.v (.slice (.int .i64))], run := spec_copyInts n }), (76, { params := spec_lend.ps, res := spec_lend.res, run := spec_lend n }), (78, { params := spec_repay.ps, res := spec_repay.res, run := spec_repay n }), (79, { params := spec_failing.ps, res := spec_failing.res, run := spec_failing n }), (80, { params := spec_night.ps, res := spec_night.res, run := spec_night n }), (81, { params := spec_sharing.ps, res := spec_sharing.res, run := spec_sharing n }), (35, { params := spec_validClub.ps, res := spec_validClub.res, run := spec_validClub n })] f }
noncomputable def spec_applyEvent.A : Ann := { joins := [], loops := [], ids := [(1, [(9, [117, 118])]), (5, [(16, [])]), (20, [(80, [])]), (9, [(25, [121, 122])]), (11, [(38, []), (40, [126, 127])]), (13, [(48, [130, 131])]), (15, [(57, [134, 135])]), (17, [(66, [138, 139])]), (19, [(73, [142, 143])])], pids := [], nroots := 149 }
noncomputable def spec_applyEvent (n : Nat) (x : (List Int × List (Int × Int × List Int) × Int × Int × Int) × Int × Int × Int × Int × List Int × Int × Int) : Option ((List Int × List (Int × Int × List Int) × Int × Int × Int) × Bool) := evalF spec_applyEvent.C spec_applyEvent.A Try.f41 spec_applyEvent.ps spec_applyEvent.res n x
noncomputable def spec_applyEvent.K0 (_ : Nat) : Kont ((List Int × List (Int × Int × List Int) × Int × Int × Int) × Bool) := finK spec_applyEvent.C (Func.results Try.f41).toList spec_applyEvent.ps spec_applyEvent.res
theorem spec_applyEvent.eq (n : Nat) (x0 : List Int × List (Int × Int × List Int) × Int × Int × Int) (x1 : Int × Int × Int × Int × List Int × Int × Int) : spec_applyEvent n (x0, x1) = ((spec_copyClub n (Prod.fst x0, Prod.fst (Prod.snd x0), Prod.fst (Prod.snd (Prod.snd x0)), Prod.fst (Prod.snd (Prod.snd (Prod.snd x0))), Prod.snd (Prod.snd (Prod.snd (Prod.snd x0))))).bind fun y2 => (if Prod.fst x1 = 0 then (if List.length (Prod.fst y2) + List.length (List.set (List.replicate (1 : Nat) (0 : Int)) (0 : Nat) (0 : Int)) ≤ Go.Refl.maxN then ((spec_validClub n (Prod.fst y2 ++ List.set (List.replicate 1 0) 0 0, Prod.fst (Prod.snd y2), Prod.fst (Prod.snd (Prod.snd y2)), Prod.fst (Prod.snd (Prod.snd (Prod.snd y2))), Prod.snd (Prod.snd (Prod.snd (Prod.snd y2))))).bind fun y3 => (if (!y3) = true then some ((([], [], 0, 0, 0), Bool.false)) else some (((Prod.fst y2 ++ List.set (List.replicate 1 0) 0 0, Prod.fst (Prod.snd y2), Prod.fst (Prod.snd (Prod.snd y2)), Prod.fst (Prod.snd (Prod.snd (Prod.snd y2))), Prod.snd (Prod.snd (Prod.snd (Prod.snd y2)))), Bool.true)))) else none) else (if Prod.fst x1 = 1 then (if Prod.fst x1 = 1 then ((spec_moveMoney n ((Prod.fst y2, Prod.fst (Prod.snd y2), Prod.fst (Prod.snd (Prod.snd y2)), Prod.fst (Prod.snd (Prod.snd (Prod.snd y2))), Prod.snd (Prod.snd (Prod.snd (Prod.snd y2)))), Prod.fst x1, Prod.fst (Prod.snd x1), Prod.fst (Prod.snd (Prod.snd x1)), Prod.fst (Prod.snd (Prod.snd (Prod.snd x1))), Prod.fst (Prod.snd (Prod.snd (Prod.snd (Prod.snd x1)))), Prod.fst (Prod.snd (Prod.snd (Prod.snd (Prod.snd (Prod.snd x1))))), Prod.snd (Prod.snd (Prod.snd (Prod.snd (Prod.snd (Prod.snd x1))))))).bind fun y6 => (if (!Prod.snd y6) = Bool.true then some ((([], [], 0, 0, 0), Bool.false)) else ((spec_validClub n (Prod.fst (Prod.fst y6), Prod.fst (Prod.snd (Prod.fst y6)), Prod.fst (Prod.snd (Prod.snd (Prod.fst y6))), Prod.fst (Prod.snd (Prod.snd (Prod.snd (Prod.fst y6)))), Prod.snd (Prod.snd (Prod.snd (Prod.snd (Prod.fst y6)))))).bind fun y7 => (if (!y7) = true then some ((([], [], 0, 0, 0), Bool.false)) else some (((Prod.fst (Prod.fst y6), Prod.fst (Prod.snd (Prod.fst y6)), Prod.fst (Prod.snd (Prod.snd (Prod.fst y6))), Prod.fst (Prod.snd (Prod.snd (Prod.snd (Prod.fst y6)))), Prod.snd (Prod.snd (Prod.snd (Prod.snd (Prod.fst y6))))), Bool.true)))))) else (if Prod.fst x1 = 3 then ((spec_copyInts n (Prod.fst (Prod.snd (Prod.snd (Prod.snd (Prod.snd x1)))))).bind fun y8 => ((spec_lend n ((Prod.fst y2, Prod.fst (Prod.snd y2), Prod.fst (Prod.snd (Prod.snd y2)), Prod.fst (Prod.snd (Prod.snd (Prod.snd y2))), Prod.snd (Prod.snd (Prod.snd (Prod.snd y2)))), Prod.fst (Prod.snd x1), Prod.fst (Prod.snd (Prod.snd x1)), y8)).bind fun y11 => (if (!Prod.snd y11) = Bool.true then some ((([], [], 0, 0, 0), Bool.false)) else ((spec_validClub n (Prod.fst (Prod.fst y11), Prod.fst (Prod.snd (Prod.fst y11)), Prod.fst (Prod.snd (Prod.snd (Prod.fst y11))), Prod.fst (Prod.snd (Prod.snd (Prod.snd (Prod.fst y11)))), Prod.snd (Prod.snd (Prod.snd (Prod.snd (Prod.fst y11)))))).bind fun y12 => (if (!y12) = true then some ((([], [], 0, 0, 0), Bool.false)) else some (((Prod.fst (Prod.fst y11), Prod.fst (Prod.snd (Prod.fst y11)), Prod.fst (Prod.snd (Prod.snd (Prod.fst y11))), Prod.fst (Prod.snd (Prod.snd (Prod.snd (Prod.fst y11)))), Prod.snd (Prod.snd (Prod.snd (Prod.snd (Prod.fst y11))))), Bool.true))))))) else (if Prod.fst x1 = 4 then ((spec_repay n ((Prod.fst y2, Prod.fst (Prod.snd y2), Prod.fst (Prod.snd (Prod.snd y2)), Prod.fst (Prod.snd (Prod.snd (Prod.snd y2))), Prod.snd (Prod.snd (Prod.snd (Prod.snd y2)))), Prod.fst x1, Prod.fst (Prod.snd x1), Prod.fst (Prod.snd (Prod.snd x1)), Prod.fst (Prod.snd (Prod.snd (Prod.snd x1))), Prod.fst (Prod.snd (Prod.snd (Prod.snd (Prod.snd x1)))), Prod.fst (Prod.snd (Prod.snd (Prod.snd (Prod.snd (Prod.snd x1))))), Prod.snd (Prod.snd (Prod.snd (Prod.snd (Prod.snd (Prod.snd x1))))))).bind fun y15 => (if (!Prod.snd y15) = Bool.true then some ((([], [], 0, 0, 0), Bool.false)) else ((spec_validClub n (Prod.fst (Prod.fst y15), Prod.fst (Prod.snd (Prod.fst y15)), Prod.fst (Prod.snd (Prod.snd (Prod.fst y15))), Prod.fst (Prod.snd (Prod.snd (Prod.snd (Prod.fst y15)))), Prod.snd (Prod.snd (Prod.snd (Prod.snd (Prod.fst y15)))))).bind fun y16 => (if (!y16) = true then some ((([], [], 0, 0, 0), Bool.false)) else some (((Prod.fst (Prod.fst y15), Prod.fst (Prod.snd (Prod.fst y15)), Prod.fst (Prod.snd (Prod.snd (Prod.fst y15))), Prod.fst (Prod.snd (Prod.snd (Prod.snd (Prod.fst y15)))), Prod.snd (Prod.snd (Prod.snd (Prod.snd (Prod.fst y15))))), Bool.true)))))) else (if Prod.fst x1 = 5 then ((spec_failing n ((Prod.fst y2, Prod.fst (Prod.snd y2), Prod.fst (Prod.snd (Prod.snd y2)), Prod.fst (Prod.snd (Prod.snd (Prod.snd y2))), Prod.snd (Prod.snd (Prod.snd (Prod.snd y2)))), Prod.fst (Prod.snd x1))).bind fun y19 => (if (!Prod.snd y19) = Bool.true then some ((([], [], 0, 0, 0), Bool.false)) else ((spec_validClub n (Prod.fst (Prod.fst y19), Prod.fst (Prod.snd (Prod.fst y19)), Prod.fst (Prod.snd (Prod.snd (Prod.fst y19))), Prod.fst (Prod.snd (Prod.snd (Prod.snd (Prod.fst y19)))), Prod.snd (Prod.snd (Prod.snd (Prod.snd (Prod.fst y19)))))).bind fun y20 => (if (!y20) = true then some ((([], [], 0, 0, 0), Bool.false)) else some (((Prod.fst (Prod.fst y19), Prod.fst (Prod.snd (Prod.fst y19)), Prod.fst (Prod.snd (Prod.snd (Prod.fst y19))), Prod.fst (Prod.snd (Prod.snd (Prod.snd (Prod.fst y19)))), Prod.snd (Prod.snd (Prod.snd (Prod.snd (Prod.fst y19))))), Bool.true)))))) else (if Prod.fst x1 = 6 then ((spec_night n ((Prod.fst y2, Prod.fst (Prod.snd y2), Prod.fst (Prod.snd (Prod.snd y2)), Prod.fst (Prod.snd (Prod.snd (Prod.snd y2))), Prod.snd (Prod.snd (Prod.snd (Prod.snd y2)))), Prod.fst (Prod.snd (Prod.snd (Prod.snd (Prod.snd (Prod.snd x1))))), Prod.snd (Prod.snd (Prod.snd (Prod.snd (Prod.snd (Prod.snd x1))))))).bind fun y23 => (if (!Prod.snd y23) = Bool.true then some ((([], [], 0, 0, 0), Bool.false)) else ((spec_validClub n (Prod.fst (Prod.fst y23), Prod.fst (Prod.snd (Prod.fst y23)), Prod.fst (Prod.snd (Prod.snd (Prod.fst y23))), Prod.fst (Prod.snd (Prod.snd (Prod.snd (Prod.fst y23)))), Prod.snd (Prod.snd (Prod.snd (Prod.snd (Prod.fst y23)))))).bind fun y24 => (if (!y24) = true then some ((([], [], 0, 0, 0), Bool.false)) else some (((Prod.fst (Prod.fst y23), Prod.fst (Prod.snd (Prod.fst y23)), Prod.fst (Prod.snd (Prod.snd (Prod.fst y23))), Prod.fst (Prod.snd (Prod.snd (Prod.snd (Prod.fst y23)))), Prod.snd (Prod.snd (Prod.snd (Prod.snd (Prod.fst y23))))), Bool.true)))))) else (if Prod.fst x1 = 7 then ((spec_sharing n (Prod.fst y2, Prod.fst (Prod.snd y2), Prod.fst (Prod.snd (Prod.snd y2)), Prod.fst (Prod.snd (Prod.snd (Prod.snd y2))), Prod.snd (Prod.snd (Prod.snd (Prod.snd y2))))).bind fun y27 => (if (!Prod.snd y27) = Bool.true then some ((([], [], 0, 0, 0), Bool.false)) else ((spec_validClub n (Prod.fst (Prod.fst y27), Prod.fst (Prod.snd (Prod.fst y27)), Prod.fst (Prod.snd (Prod.snd (Prod.fst y27))), Prod.fst (Prod.snd (Prod.snd (Prod.snd (Prod.fst y27)))), Prod.snd (Prod.snd (Prod.snd (Prod.snd (Prod.fst y27)))))).bind fun y28 => (if (!y28) = true then some ((([], [], 0, 0, 0), Bool.false)) else some (((Prod.fst (Prod.fst y27), Prod.fst (Prod.snd (Prod.fst y27)), Prod.fst (Prod.snd (Prod.snd (Prod.fst y27))), Prod.fst (Prod.snd (Prod.snd (Prod.snd (Prod.fst y27)))), Prod.snd (Prod.snd (Prod.snd (Prod.snd (Prod.fst y27))))), Bool.true)))))) else some ((([], [], 0, 0, 0), Bool.false)))))))) else (if Prod.fst x1 = 2 then ((spec_moveMoney n ((Prod.fst y2, Prod.fst (Prod.snd y2), Prod.fst (Prod.snd (Prod.snd y2)), Prod.fst (Prod.snd (Prod.snd (Prod.snd y2))), Prod.snd (Prod.snd (Prod.snd (Prod.snd y2)))), Prod.fst x1, Prod.fst (Prod.snd x1), Prod.fst (Prod.snd (Prod.snd x1)), Prod.fst (Prod.snd (Prod.snd (Prod.snd x1))), Prod.fst (Prod.snd (Prod.snd (Prod.snd (Prod.snd x1)))), Prod.fst (Prod.snd (Prod.snd (Prod.snd (Prod.snd (Prod.snd x1))))), Prod.snd (Prod.snd (Prod.snd (Prod.snd (Prod.snd (Prod.snd x1))))))).bind fun y29 => (if (!Prod.snd y29) = Bool.true then some ((([], [], 0, 0, 0), Bool.false)) else ((spec_validClub n (Prod.fst (Prod.fst y29), Prod.fst (Prod.snd (Prod.fst y29)), Prod.fst (Prod.snd (Prod.snd (Prod.fst y29))), Prod.fst (Prod.snd (Prod.snd (Prod.snd (Prod.fst y29)))), Prod.snd (Prod.snd (Prod.snd (Prod.snd (Prod.fst y29)))))).bind fun y30 => (if (!y30) = true then some ((([], [], 0, 0, 0), Bool.false)) else some (((Prod.fst (Prod.fst y29), Prod.fst (Prod.snd (Prod.fst y29)), Prod.fst (Prod.snd (Prod.snd (Prod.fst y29))), Prod.fst (Prod.snd (Prod.snd (Prod.snd (Prod.fst y29)))), Prod.snd (Prod.snd (Prod.snd (Prod.snd (Prod.fst y29))))), Bool.true)))))) else (if Prod.fst x1 = 3 then ((spec_copyInts n (Prod.fst (Prod.snd (Prod.snd (Prod.snd (Prod.snd x1)))))).bind fun y31 => ((spec_lend n ((Prod.fst y2, Prod.fst (Prod.snd y2), Prod.fst (Prod.snd (Prod.snd y2)), Prod.fst (Prod.snd (Prod.snd (Prod.snd y2))), Prod.snd (Prod.snd (Prod.snd (Prod.snd y2)))), Prod.fst (Prod.snd x1), Prod.fst (Prod.snd (Prod.snd x1)), y31)).bind fun y32 => (if (!Prod.snd y32) = Bool.true then some ((([], [], 0, 0, 0), Bool.false)) else ((spec_validClub n (Prod.fst (Prod.fst y32), Prod.fst (Prod.snd (Prod.fst y32)), Prod.fst (Prod.snd (Prod.snd (Prod.fst y32))), Prod.fst (Prod.snd (Prod.snd (Prod.snd (Prod.fst y32)))), Prod.snd (Prod.snd (Prod.snd (Prod.snd (Prod.fst y32)))))).bind fun y33 => (if (!y33) = true then some ((([], [], 0, 0, 0), Bool.false)) else some (((Prod.fst (Prod.fst y32), Prod.fst (Prod.snd (Prod.fst y32)), Prod.fst (Prod.snd (Prod.snd (Prod.fst y32))), Prod.fst (Prod.snd (Prod.snd (Prod.snd (Prod.fst y32)))), Prod.snd (Prod.snd (Prod.snd (Prod.snd (Prod.fst y32))))), Bool.true))))))) else (if Prod.fst x1 = 4 then ((spec_repay n ((Prod.fst y2, Prod.fst (Prod.snd y2), Prod.fst (Prod.snd (Prod.snd y2)), Prod.fst (Prod.snd (Prod.snd (Prod.snd y2))), Prod.snd (Prod.snd (Prod.snd (Prod.snd y2)))), Prod.fst x1, Prod.fst (Prod.snd x1), Prod.fst (Prod.snd (Prod.snd x1)), Prod.fst (Prod.snd (Prod.snd (Prod.snd x1))), Prod.fst (Prod.snd (Prod.snd (Prod.snd (Prod.snd x1)))), Prod.fst (Prod.snd (Prod.snd (Prod.snd (Prod.snd (Prod.snd x1))))), Prod.snd (Prod.snd (Prod.snd (Prod.snd (Prod.snd (Prod.snd x1))))))).bind fun y34 => (if (!Prod.snd y34) = Bool.true then some ((([], [], 0, 0, 0), Bool.false)) else ((spec_validClub n (Prod.fst (Prod.fst y34), Prod.fst (Prod.snd (Prod.fst y34)), Prod.fst (Prod.snd (Prod.snd (Prod.fst y34))), Prod.fst (Prod.snd (Prod.snd (Prod.snd (Prod.fst y34)))), Prod.snd (Prod.snd (Prod.snd (Prod.snd (Prod.fst y34)))))).bind fun y35 => (if (!y35) = true then some ((([], [], 0, 0, 0), Bool.false)) else some (((Prod.fst (Prod.fst y34), Prod.fst (Prod.snd (Prod.fst y34)), Prod.fst (Prod.snd (Prod.snd (Prod.fst y34))), Prod.fst (Prod.snd (Prod.snd (Prod.snd (Prod.fst y34)))), Prod.snd (Prod.snd (Prod.snd (Prod.snd (Prod.fst y34))))), Bool.true)))))) else (if Prod.fst x1 = 5 then ((spec_failing n ((Prod.fst y2, Prod.fst (Prod.snd y2), Prod.fst (Prod.snd (Prod.snd y2)), Prod.fst (Prod.snd (Prod.snd (Prod.snd y2))), Prod.snd (Prod.snd (Prod.snd (Prod.snd y2)))), Prod.fst (Prod.snd x1))).bind fun y36 => (if (!Prod.snd y36) = Bool.true then some ((([], [], 0, 0, 0), Bool.false)) else ((spec_validClub n (Prod.fst (Prod.fst y36), Prod.fst (Prod.snd (Prod.fst y36)), Prod.fst (Prod.snd (Prod.snd (Prod.fst y36))), Prod.fst (Prod.snd (Prod.snd (Prod.snd (Prod.fst y36)))), Prod.snd (Prod.snd (Prod.snd (Prod.snd (Prod.fst y36)))))).bind fun y37 => (if (!y37) = true then some ((([], [], 0, 0, 0), Bool.false)) else some (((Prod.fst (Prod.fst y36), Prod.fst (Prod.snd (Prod.fst y36)), Prod.fst (Prod.snd (Prod.snd (Prod.fst y36))), Prod.fst (Prod.snd (Prod.snd (Prod.snd (Prod.fst y36)))), Prod.snd (Prod.snd (Prod.snd (Prod.snd (Prod.fst y36))))), Bool.true)))))) else (if Prod.fst x1 = 6 then ((spec_night n ((Prod.fst y2, Prod.fst (Prod.snd y2), Prod.fst (Prod.snd (Prod.snd y2)), Prod.fst (Prod.snd (Prod.snd (Prod.snd y2))), Prod.snd (Prod.snd (Prod.snd (Prod.snd y2)))), Prod.fst (Prod.snd (Prod.snd (Prod.snd (Prod.snd (Prod.snd x1))))), Prod.snd (Prod.snd (Prod.snd (Prod.snd (Prod.snd (Prod.snd x1))))))).bind fun y38 => (if (!Prod.snd y38) = Bool.true then some ((([], [], 0, 0, 0), Bool.false)) else ((spec_validClub n (Prod.fst (Prod.fst y38), Prod.fst (Prod.snd (Prod.fst y38)), Prod.fst (Prod.snd (Prod.snd (Prod.fst y38))), Prod.fst (Prod.snd (Prod.snd (Prod.snd (Prod.fst y38)))), Prod.snd (Prod.snd (Prod.snd (Prod.snd (Prod.fst y38)))))).bind fun y39 => (if (!y39) = true then some ((([], [], 0, 0, 0), Bool.false)) else some (((Prod.fst (Prod.fst y38), Prod.fst (Prod.snd (Prod.fst y38)), Prod.fst (Prod.snd (Prod.snd (Prod.fst y38))), Prod.fst (Prod.snd (Prod.snd (Prod.snd (Prod.fst y38)))), Prod.snd (Prod.snd (Prod.snd (Prod.snd (Prod.fst y38))))), Bool.true)))))) else (if Prod.fst x1 = 7 then ((spec_sharing n (Prod.fst y2, Prod.fst (Prod.snd y2), Prod.fst (Prod.snd (Prod.snd y2)), Prod.fst (Prod.snd (Prod.snd (Prod.snd y2))), Prod.snd (Prod.snd (Prod.snd (Prod.snd y2))))).bind fun y40 => (if (!Prod.snd y40) = Bool.true then some ((([], [], 0, 0, 0), Bool.false)) else ((spec_validClub n (Prod.fst (Prod.fst y40), Prod.fst (Prod.snd (Prod.fst y40)), Prod.fst (Prod.snd (Prod.snd (Prod.fst y40))), Prod.fst (Prod.snd (Prod.snd (Prod.snd (Prod.fst y40)))), Prod.snd (Prod.snd (Prod.snd (Prod.snd (Prod.fst y40)))))).bind fun y41 => (if (!y41) = true then some ((([], [], 0, 0, 0), Bool.false)) else some (((Prod.fst (Prod.fst y40), Prod.fst (Prod.snd (Prod.fst y40)), Prod.fst (Prod.snd (Prod.snd (Prod.fst y40))), Prod.fst (Prod.snd (Prod.snd (Prod.snd (Prod.fst y40)))), Prod.snd (Prod.snd (Prod.snd (Prod.snd (Prod.fst y40))))), Bool.true)))))) else some ((([], [], 0, 0, 0), Bool.false))))))))))) := by kernel_rfl
theorem spec_applyEvent.call : Callable Try.prog 41 := ⟨Try.f41, Try.func41, by kernel_rfl, by kernel_rfl⟩
theorem spec_applyEvent.ok (n : Nat) : FC Try.prog 41 { params := spec_applyEvent.ps, res := spec_applyEvent.res, run := spec_applyEvent n } :=
  evalF_ok (C := spec_applyEvent.C) ⟨tb_ok, fun n _ _ h => tabOk (l := [(74, { params := spec_copyClub.ps, res := spec_copyClub.res, run := spec_copyClub n }), (75, { params := spec_moveMoney.ps, res := spec_moveMoney.res, run := spec_moveMoney n }), (77, { params := spec_copyInts.ps, res := [.v (.slice (.int .i64))], run := spec_copyInts n }), (76, { params := spec_lend.ps, res := spec_lend.res, run := spec_lend n }), (78, { params := spec_repay.ps, res := spec_repay.res, run := spec_repay n }), (79, { params := spec_failing.ps, res := spec_failing.res, run := spec_failing n }), (80, { params := spec_night.ps, res := spec_night.res, run := spec_night n }), (81, { params := spec_sharing.ps, res := spec_sharing.res, run := spec_sharing n }), (35, { params := spec_validClub.ps, res := spec_validClub.res, run := spec_validClub n })]) (all_cons ⟨spec_copyClub.ok n, spec_copyClub.call⟩ (all_cons ⟨spec_moveMoney.ok n, spec_moveMoney.call⟩ (all_cons ⟨FC.weak (.cons (.own _ _) .nil) HEq.rfl (spec_copyInts.ok n), spec_copyInts.call⟩ (all_cons ⟨spec_lend.ok n, spec_lend.call⟩ (all_cons ⟨spec_repay.ok n, spec_repay.call⟩ (all_cons ⟨spec_failing.ok n, spec_failing.call⟩ (all_cons ⟨spec_night.ok n, spec_night.call⟩ (all_cons ⟨spec_sharing.ok n, spec_sharing.call⟩ (all_cons ⟨spec_validClub.ok n, spec_validClub.call⟩ (all_nil)))))))))) h, mixed⟩ spec_applyEvent.A Try.func41 spec_applyEvent.ps spec_applyEvent.res n
end Go.Proofs.YthooakfbpoopaaaG
end
section
open Go Go.Refl Go.Proofs
set_option maxRecDepth 1000000
set_option maxHeartbeats 0
set_option linter.unusedVariables false
namespace Go.Proofs.YthooakfbpoopaaaG
abbrev spec_someBook.ps : List Pm := [.box 79 (.v (.pair (.slice (.int .u8)) (.int .i64))), .arg (.v (.pair (.slice (.int .i64)) (.pair (.slice (.pair (.int .i64) (.pair (.int .i64) (.slice (.int .i64))))) (.pair (.int .i64) (.pair (.int .i64) (.int .i64))))))]
abbrev spec_someBook.res : List M := [(.own (.pair (.int .i64) (.pair (.int .i64) (.pair (.int .i64) (.pair (.int .i64) (.pair (.slice (.int .i64)) (.pair (.int .i64) (.int .i64))))))) 30), .v (.pair (.slice (.int .i64)) (.pair (.slice (.pair (.int .i64) (.pair (.int .i64) (.slice (.int .i64))))) (.pair (.int .i64) (.pair (.int .i64) (.int .i64)))))]
noncomputable def spec_someBook.C : Cfg := { tb := tb, tab := fun n f => Refl.look [(38, { params := spec_reader_one.ps, res := spec_reader_one.res, run := spec_reader_one n }), (36, { params := spec_someEvent.ps, res := spec_someEvent.res, run := spec_someEvent n }), (41, { params := spec_applyEvent.ps, res := spec_applyEvent.res, run := spec_applyEvent n })] f }
noncomputable def spec_someBook.A : Ann := { joins := [], loops := [(3, { live := [0, 3, 5, 6, 7], base := 36 })], ids := [(2, [(13, []), (14, [])]), (5, [(21, [])]), (6, [(25, [])]), (9, [(32, [])])], pids := [], nroots := 100 }
noncomputable def spec_someBook (n : Nat) (x : (List Int × Int) × List Int × List (Int × Int × List Int) × Int × Int × Int) : Option (List (Int × Int × Int × Int × List Int × Int × Int) × (List Int × List (Int × Int × List Int) × Int × Int × Int) × List Int × Int) := evalF spec_someBook.C spec_someBook.A Try.f58 spec_someBook.ps spec_someBook.res n x
noncomputable def spec_someBook.K0 (_ : Nat) : Kont (List (Int × Int × Int × Int × List Int × Int × Int) × (List Int × List (Int × Int × List Int) × Int × Int × Int) × List Int × Int) := finK spec_someBook.C (Func.results Try.f58).toList spec_someBook.ps spec_someBook.res
noncomputable def spec_someBook.K1 (n : Nat) : Kont (List (Int × Int × Int × Int × List Int × Int × Int) × (List Int × List (Int × Int × List Int) × Int × Int × Int) × List Int × Int) := seqK (fun s' k => evalC spec_someBook.C spec_someBook.A n (codeAt Try.f58 [1, 1, 1]) (cutAt spec_someBook.A.joins (codeAt Try.f58 [1, 1, 1]) s') k) (spec_someBook.K0 n)
noncomputable def spec_someBook.K2 (n : Nat) : Kont (List (Int × Int × Int × Int × List Int × Int × Int) × (List Int × List (Int × Int × List Int) × Int × Int × Int) × List Int × Int) := blockK 0 (spec_someBook.K1 n)
noncomputable def spec_someBook.l3 (n m3 : Nat) (x7 : Int) (r0_0 : List Int) (r0_1 : Int) (r36_0 : List Int) (r36_1 : List (Int × Int × List Int)) (r36_2 : Int) (r36_3 : Int) (r36_4 : Int) (r37_2 : Int) (r37_3 : Int) (r37_4 : Int) (r38 : List (Int × Int × Int × Int × List Int × Int × Int)) : Option (List (Int × Int × Int × Int × List Int × Int × Int) × (List Int × List (Int × Int × List Int) × Int × Int × Int) × List Int × Int) := loopE (cutAt spec_someBook.A.loops (codeAt Try.f58 [1, 1, 0, 1, 0, 0])) (fun s k => evalC spec_someBook.C spec_someBook.A n (codeAt Try.f58 [1, 1, 0, 1, 0, 0]) s k) m3 (St.of 36 100 [(0, .ptr 0 0 0), (3, .ptr 36 0 0), (5, .ptr 37 0 0), (6, .own 38), (7, .val (.int .i64) x7)] [(0, .box 79 [.val (.slice (.int .u8)) r0_0, .val (.int .i64) r0_1]), (36, .box 26 [.val (.slice (.int .i64)) r36_0, .val (.slice (.pair (.int .i64) (.pair (.int .i64) (.slice (.int .i64))))) r36_1, .val (.int .i64) r36_2, .val (.int .i64) r36_3, .val (.int .i64) r36_4]), (37, .box 26 [.nils, .nils, .val (.int .i64) r37_2, .val (.int .i64) r37_3, .val (.int .i64) r37_4]), (38, .row (.pair (.int .i64) (.pair (.int .i64) (.pair (.int .i64) (.pair (.int .i64) (.pair (.slice (.int .i64)) (.pair (.int .i64) (.int .i64))))))) 30 r38)] [0]) (spec_someBook.K2 n)
theorem spec_someBook.eq (n : Nat) (x0 : List Int × Int) (x1 : List Int × List (Int × Int × List Int) × Int × Int × Int) : spec_someBook n (x0, x1) = ((spec_reader_one n ((Prod.fst x0, Prod.snd x0), List.set (List.set (List.set (List.set (List.set (List.set (List.replicate 6 0) 0 8) 1 12) 2 5) 3 18) 4 0) 5 2)).bind fun y0 => spec_someBook.l3 n n (Prod.fst y0) (Prod.fst (Prod.snd y0)) (Prod.snd (Prod.snd y0)) (Prod.fst x1) (Prod.fst (Prod.snd x1)) (Prod.fst (Prod.snd (Prod.snd x1))) (Prod.fst (Prod.snd (Prod.snd (Prod.snd x1)))) (Prod.snd (Prod.snd (Prod.snd (Prod.snd x1)))) (0) (0) (0) (List.replicate 0 (0, 0, 0, 0, [], 0, 0))) := by kernel_rfl
theorem spec_someBook.l3_zero (n : Nat) (x7 : Int) (r0_0 : List Int) (r0_1 : Int) (r36_0 : List Int) (r36_1 : List (Int × Int × List Int)) (r36_2 : Int) (r36_3 : Int) (r36_4 : Int) (r37_2 : Int) (r37_3 : Int) (r37_4 : Int) (r38 : List (Int × Int × Int × Int × List Int × Int × Int)) : spec_someBook.l3 n 0 x7 r0_0 r0_1 r36_0 r36_1 r36_2 r36_3 r36_4 r37_2 r37_3 r37_4 r38 = none := by kernel_rfl
theorem spec_someBook.l3_succ (n m3 : Nat) (x7 : Int) (r0_0 : List Int) (r0_1 : Int) (r36_0 : List Int) (r36_1 : List (Int × Int × List Int)) (r36_2 : Int) (r36_3 : Int) (r36_4 : Int) (r37_2 : Int) (r37_3 : Int) (r37_4 : Int) (r38 : List (Int × Int × Int × Int × List Int × Int × Int)) : spec_someBook.l3 n (m3 + 1) x7 r0_0 r0_1 r36_0 r36_1 r36_2 r36_3 r36_4 r37_2 r37_3 r37_4 r38 = (if x7 > 0 then ((spec_someEvent n ((r0_0, r0_1), r36_0, r36_1, r36_2, r36_3, r36_4)).bind fun y1 => ((spec_applyEvent n ((r36_0, r36_1, r36_2, r36_3, r36_4), Prod.fst (Prod.fst y1), Prod.fst (Prod.snd (Prod.fst y1)), Prod.fst (Prod.snd (Prod.snd (Prod.fst y1))), Prod.fst (Prod.snd (Prod.snd (Prod.snd (Prod.fst y1)))), Prod.fst (Prod.snd (Prod.snd (Prod.snd (Prod.snd (Prod.fst y1))))), Prod.fst (Prod.snd (Prod.snd (Prod.snd (Prod.snd (Prod.snd (Prod.fst y1)))))), Prod.snd (Prod.snd (Prod.snd (Prod.snd (Prod.snd (Prod.snd (Prod.fst y1)))))))).bind fun y2 => (if (Prod.snd y2) = true then (if List.length r38 + List.length (List.set (List.replicate (1 : Nat) ((0 : Int), (0 : Int), (0 : Int), (0 : Int), [], (0 : Int), (0 : Int))) (0 : Nat) (Prod.fst (Prod.fst y1), Prod.fst (Prod.snd (Prod.fst y1)), Prod.fst (Prod.snd (Prod.snd (Prod.fst y1))), Prod.fst (Prod.snd (Prod.snd (Prod.snd (Prod.fst y1)))), Prod.fst (Prod.snd (Prod.snd (Prod.snd (Prod.snd (Prod.fst y1))))), Prod.fst (Prod.snd (Prod.snd (Prod.snd (Prod.snd (Prod.snd (Prod.fst y1)))))), Prod.snd (Prod.snd (Prod.snd (Prod.snd (Prod.snd (Prod.snd (Prod.fst y1)))))))) ≤ Go.Refl.maxN then spec_someBook.l3 n m3 (Go.RowKit.wrap64 (x7 - 1)) (Prod.fst (Prod.snd y1)) (Prod.snd (Prod.snd y1)) (Prod.fst (Prod.fst y2)) (Prod.fst (Prod.snd (Prod.fst y2))) (Prod.fst (Prod.snd (Prod.snd (Prod.fst y2)))) (Prod.fst (Prod.snd (Prod.snd (Prod.snd (Prod.fst y2))))) (Prod.snd (Prod.snd (Prod.snd (Prod.snd (Prod.fst y2))))) (r37_2) (r37_3) (r37_4) (r38 ++ List.set (List.replicate 1 (0, 0, 0, 0, [], 0, 0)) 0 (Prod.fst (Prod.fst y1), Prod.fst (Prod.snd (Prod.fst y1)), Prod.fst (Prod.snd (Prod.snd (Prod.fst y1))), Prod.fst (Prod.snd (Prod.snd (Prod.snd (Prod.fst y1)))), Prod.fst (Prod.snd (Prod.snd (Prod.snd (Prod.snd (Prod.fst y1))))), Prod.fst (Prod.snd (Prod.snd (Prod.snd (Prod.snd (Prod.snd (Prod.fst y1)))))), Prod.snd (Prod.snd (Prod.snd (Prod.snd (Prod.snd (Prod.snd (Prod.fst y1)))))))) else none) else spec_someBook.l3 n m3 (Go.RowKit.wrap64 (x7 - 1)) (Prod.fst (Prod.snd y1)) (Prod.snd (Prod.snd y1)) (r36_0) (r36_1) (r36_2) (r36_3) (r36_4) (r37_2) (r37_3) (r37_4) (r38)))) else some ((r38, (r36_0, r36_1, r36_2, r36_3, r36_4), r0_0, r0_1))) := by kernel_rfl
theorem spec_someBook.call : Callable Try.prog 58 := ⟨Try.f58, Try.func58, by kernel_rfl, by kernel_rfl⟩
theorem spec_someBook.ok (n : Nat) : FC Try.prog 58 { params := spec_someBook.ps, res := spec_someBook.res, run := spec_someBook n } :=
  evalF_ok (C := spec_someBook.C) ⟨tb_ok, fun n _ _ h => tabOk (l := [(38, { params := spec_reader_one.ps, res := spec_reader_one.res, run := spec_reader_one n }), (36, { params := spec_someEvent.ps, res := spec_someEvent.res, run := spec_someEvent n }), (41, { params := spec_applyEvent.ps, res := spec_applyEvent.res, run := spec_applyEvent n })]) (all_cons ⟨spec_reader_one.ok n, spec_reader_one.call⟩ (all_cons ⟨spec_someEvent.ok n, spec_someEvent.call⟩ (all_cons ⟨spec_applyEvent.ok n, spec_applyEvent.call⟩ (all_nil)))) h, mixed⟩ spec_someBook.A Try.func58 spec_someBook.ps spec_someBook.res n
end Go.Proofs.YthooakfbpoopaaaG
end
section
open Go Go.Refl Go.Proofs
set_option maxRecDepth 1000000
set_option maxHeartbeats 0
set_option linter.unusedVariables false
namespace Go.Proofs.YthooakfbpoopaaaG
abbrev spec_anyBook.ps : List Pm := [.box 79 (.v (.pair (.slice (.int .u8)) (.int .i64)))]
abbrev spec_anyBook.res : List M := [.v (.pair (.slice (.int .i64)) (.pair (.slice (.pair (.int .i64) (.pair (.int .i64) (.slice (.int .i64))))) (.pair (.int .i64) (.pair (.int .i64) (.int .i64))))), .v (.slice (.pair (.int .i64) (.pair (.int .i64) (.pair (.int .i64) (.pair (.int .i64) (.pair (.slice (.int .i64)) (.pair (.int .i64) (.int .i64))))))))]
noncomputable def spec_anyBook.C : Cfg := { tb := tb, tab := fun n f => Refl.look [(59, { params := spec_firstClub.ps, res := spec_firstClub.res, run := spec_firstClub n }), (58, { params := spec_someBook.ps, res := spec_someBook.res, run := spec_someBook n }), (37, { params := spec_reader_pick.ps, res := spec_reader_pick.res, run := spec_reader_pick n }), (38, { params := spec_reader_one.ps, res := spec_reader_one.res, run := spec_reader_one n })] f }
noncomputable def spec_anyBook.A : Ann := { joins := [], loops := [], ids := [(1, [(8, [])]), (4, [(19, [])]), (8, [(30, []), (32, []), (33, [])]), (10, [(42, []), (44, []), (45, [])])], pids := [], nroots := 114 }
noncomputable def spec_anyBook (n : Nat) (x : List Int × Int) : Option ((List Int × List (Int × Int × List Int) × Int × Int × Int) × List (Int × Int × Int × Int × List Int × Int × Int) × List Int × Int) := evalF spec_anyBook.C spec_anyBook.A Try.f52 spec_anyBook.ps spec_anyBook.res n x
noncomputable def spec_anyBook.K0 (_ : Nat) : Kont ((List Int × List (Int × Int × List Int) × Int × Int × Int) × List (Int × Int × Int × Int × List Int × Int × Int) × List Int × Int) := finK spec_anyBook.C (Func.results Try.f52).toList spec_anyBook.ps spec_anyBook.res
theorem spec_anyBook.eq (n : Nat) (x0 : List Int × Int) : spec_anyBook n x0 = ((spec_firstClub n (Prod.fst x0, Prod.snd x0)).bind fun y0 => ((spec_someBook n ((Prod.fst (Prod.snd y0), Prod.snd (Prod.snd y0)), Prod.fst (Prod.fst y0), Prod.fst (Prod.snd (Prod.fst y0)), Prod.fst (Prod.snd (Prod.snd (Prod.fst y0))), Prod.fst (Prod.snd (Prod.snd (Prod.snd (Prod.fst y0)))), Prod.snd (Prod.snd (Prod.snd (Prod.snd (Prod.fst y0)))))).bind fun y1 => (if (↑(List.length (Prod.fst y1)) : Int) > 1 then ((spec_reader_pick n ((Prod.fst (Prod.snd (Prod.snd y1)), Prod.snd (Prod.snd (Prod.snd y1))), 10)).bind fun y2 => (if Prod.fst y2 = 0 then (if 1 ≤ (↑(List.length (Prod.fst y1)) : Int) then some (((Prod.fst (Prod.fst y0), Prod.fst (Prod.snd (Prod.fst y0)), Prod.fst (Prod.snd (Prod.snd (Prod.fst y0))), Prod.fst (Prod.snd (Prod.snd (Prod.snd (Prod.fst y0)))), Prod.snd (Prod.snd (Prod.snd (Prod.snd (Prod.fst y0))))), List.take (List.length (Prod.fst y1) - Int.toNat 1) (List.drop (Int.toNat 1) (Prod.fst y1)), Prod.fst (Prod.snd y2), Prod.snd (Prod.snd y2))) else none) else (if Prod.fst y2 = 1 then ((spec_reader_pick n ((Prod.fst (Prod.snd y2), Prod.snd (Prod.snd y2)), (↑(List.length (Prod.fst y1)) : Int))).bind fun y3 => ((spec_reader_one n ((Prod.fst (Prod.snd y3), Prod.snd (Prod.snd y3)), List.set (List.set (List.set (List.replicate 3 0) 0 (-1)) 1 100) 2 1)).bind fun y4 => (if 0 ≤ Prod.fst y3 then (if Prod.fst y3 < (↑(List.length (Prod.fst y1)) : Int) then some (((Prod.fst (Prod.fst y0), Prod.fst (Prod.snd (Prod.fst y0)), Prod.fst (Prod.snd (Prod.snd (Prod.fst y0))), Prod.fst (Prod.snd (Prod.snd (Prod.snd (Prod.fst y0)))), Prod.snd (Prod.snd (Prod.snd (Prod.snd (Prod.fst y0))))), List.set (Prod.fst y1) (Int.toNat (Prod.fst y3)) (Prod.fst (List.getD (Prod.fst y1) (Int.toNat (Prod.fst y3)) (0, 0, 0, 0, [], 0, 0)), Prod.fst y4, Prod.snd (Prod.snd (List.getD (Prod.fst y1) (Int.toNat (Prod.fst y3)) (0, 0, 0, 0, [], 0, 0)))), Prod.fst (Prod.snd y4), Prod.snd (Prod.snd y4))) else none) else none))) else (if Prod.fst y2 = 2 then ((spec_reader_pick n ((Prod.fst (Prod.snd y2), Prod.snd (Prod.snd y2)), (↑(List.length (Prod.fst y1)) : Int))).bind fun y5 => ((spec_reader_one n ((Prod.fst (Prod.snd y5), Prod.snd (Prod.snd y5)), List.set (List.set (List.set (List.replicate 3 0) 0 (-1)) 1 1000001) 2 3)).bind fun y6 => (if 0 ≤ Prod.fst y5 then (if Prod.fst y5 < (↑(List.length (Prod.fst y1)) : Int) then some (((Prod.fst (Prod.fst y0), Prod.fst (Prod.snd (Prod.fst y0)), Prod.fst (Prod.snd (Prod.snd (Prod.fst y0))), Prod.fst (Prod.snd (Prod.snd (Prod.snd (Prod.fst y0)))), Prod.snd (Prod.snd (Prod.snd (Prod.snd (Prod.fst y0))))), List.set (Prod.fst y1) (Int.toNat (Prod.fst y5)) (Prod.fst (List.getD (Prod.fst y1) (Int.toNat (Prod.fst y5)) (0, 0, 0, 0, [], 0, 0)), Prod.fst (Prod.snd (List.getD (Prod.fst y1) (Int.toNat (Prod.fst y5)) (0, 0, 0, 0, [], 0, 0))), Prod.fst y6, Prod.snd (Prod.snd (Prod.snd (List.getD (Prod.fst y1) (Int.toNat (Prod.fst y5)) (0, 0, 0, 0, [], 0, 0))))), Prod.fst (Prod.snd y6), Prod.snd (Prod.snd y6))) else none) else none))) else some (((Prod.fst (Prod.fst y0), Prod.fst (Prod.snd (Prod.fst y0)), Prod.fst (Prod.snd (Prod.snd (Prod.fst y0))), Prod.fst (Prod.snd (Prod.snd (Prod.snd (Prod.fst y0)))), Prod.snd (Prod.snd (Prod.snd (Prod.snd (Prod.fst y0))))), Prod.fst y1, Prod.fst (Prod.snd y2), Prod.snd (Prod.snd y2))))))) else some (((Prod.fst (Prod.fst y0), Prod.fst (Prod.snd (Prod.fst y0)), Prod.fst (Prod.snd (Prod.snd (Prod.fst y0))), Prod.fst (Prod.snd (Prod.snd (Prod.snd (Prod.fst y0)))), Prod.snd (Prod.snd (Prod.snd (Prod.snd (Prod.fst y0))))), Prod.fst y1, Prod.fst (Prod.snd (Prod.snd y1)), Prod.snd (Prod.snd (Prod.snd y1))))))) := by kernel_rfl
theorem spec_anyBook.call : Callable Try.prog 52 := ⟨Try.f52, Try.func52, by kernel_rfl, by kernel_rfl⟩
theorem spec_anyBook.ok (n : Nat) : FC Try.prog 52 { params := spec_anyBook.ps, res := spec_anyBook.res, run := spec_anyBook n } :=
  evalF_ok (C := spec_anyBook.C) ⟨tb_ok, fun n _ _ h => tabOk (l := [(59, { params := spec_firstClub.ps, res := spec_firstClub.res, run := spec_firstClub n }), (58, { params := spec_someBook.ps, res := spec_someBook.res, run := spec_someBook n }), (37, { params := spec_reader_pick.ps, res := spec_reader_pick.res, run := spec_reader_pick n }), (38, { params := spec_reader_one.ps, res := spec_reader_one.res, run := spec_reader_one n })]) (all_cons ⟨spec_firstClub.ok n, spec_firstClub.call⟩ (all_cons ⟨spec_someBook.ok n, spec_someBook.call⟩ (all_cons ⟨spec_reader_pick.ok n, spec_reader_pick.call⟩ (all_cons ⟨spec_reader_one.ok n, spec_reader_one.call⟩ (all_nil))))) h, mixed⟩ spec_anyBook.A Try.func52 spec_anyBook.ps spec_anyBook.res n
end Go.Proofs.YthooakfbpoopaaaG
end
section
open Go Go.Refl Go.Proofs
set_option maxRecDepth 1000000
set_option maxHeartbeats 0
set_option linter.unusedVariables false
namespace Go.Proofs.YthooakfbpoopaaaG
abbrev spec_DrawEntriesOf.ps : List Pm := [.arg (.v (.slice (.int .u8)))]
abbrev spec_DrawEntriesOf.res : List M := [.v (.pair (.slice (.int .i64)) (.pair (.slice (.pair (.int .i64) (.pair (.int .i64) (.slice (.int .i64))))) (.pair (.int .i64) (.pair (.int .i64) (.int .i64))))), .v (.slice (.pair (.int .i64) (.pair (.int .i64) (.pair (.int .i64) (.pair (.int .i64) (.pair (.slice (.int .i64)) (.pair (.int .i64) (.int .i64))))))))]
noncomputable def spec_DrawEntriesOf.C : Cfg := { tb := tb, tab := fun n f => Refl.look [(33, { params := spec_newReader.ps, res := spec_newReader.res, run := spec_newReader n }), (52, { params := spec_anyBook.ps, res := spec_anyBook.res, run := spec_anyBook n })] f }
noncomputable def spec_DrawEntriesOf.A : Ann := { joins := [], loops := [], ids := [(1, [(6, [])])], pids := [], nroots := 73 }
noncomputable def spec_DrawEntriesOf (n : Nat) (x : List Int) : Option ((List Int × List (Int × Int × List Int) × Int × Int × Int) × List (Int × Int × Int × Int × List Int × Int × Int)) := evalF spec_DrawEntriesOf.C spec_DrawEntriesOf.A Try.f27 spec_DrawEntriesOf.ps spec_DrawEntriesOf.res n x
noncomputable def spec_DrawEntriesOf.K0 (_ : Nat) : Kont ((List Int × List (Int × Int × List Int) × Int × Int × Int) × List (Int × Int × Int × Int × List Int × Int × Int)) := finK spec_DrawEntriesOf.C (Func.results Try.f27).toList spec_DrawEntriesOf.ps spec_DrawEntriesOf.res
theorem spec_DrawEntriesOf.eq (n : Nat) (x0 : List Int) : spec_DrawEntriesOf n x0 = ((spec_newReader n x0).bind fun y0 => ((spec_anyBook n (Prod.fst y0, Prod.snd y0)).bind fun y1 => some (((Prod.fst (Prod.fst y1), Prod.fst (Prod.snd (Prod.fst y1)), Prod.fst (Prod.snd (Prod.snd (Prod.fst y1))), Prod.fst (Prod.snd (Prod.snd (Prod.snd (Prod.fst y1)))), Prod.snd (Prod.snd (Prod.snd (Prod.snd (Prod.fst y1))))), Prod.fst (Prod.snd y1))))) := by kernel_rfl
theorem spec_DrawEntriesOf.call : Callable Try.prog 27 := ⟨Try.f27, Try.func27, by kernel_rfl, by kernel_rfl⟩
theorem spec_DrawEntriesOf.ok (n : Nat) : FC Try.prog 27 { params := spec_DrawEntriesOf.ps, res := spec_DrawEntriesOf.res, run := spec_DrawEntriesOf n } :=
  evalF_ok (C := spec_DrawEntriesOf.C) ⟨tb_ok, fun n _ _ h => tabOk (l := [(33, { params := spec_newReader.ps, res := spec_newReader.res, run := spec_newReader n }), (52, { params := spec_anyBook.ps, res := spec_anyBook.res, run := spec_anyBook n })]) (all_cons ⟨spec_newReader.ok n, spec_newReader.call⟩ (all_cons ⟨spec_anyBook.ok n, spec_anyBook.call⟩ (all_nil))) h, mixed⟩ spec_DrawEntriesOf.A Try.func27 spec_DrawEntriesOf.ps spec_DrawEntriesOf.res n
end Go.Proofs.YthooakfbpoopaaaG
end
section
open Go Go.Refl Go.Proofs
set_option maxRecDepth 1000000
set_option maxHeartbeats 0
set_option linter.unusedVariables false
namespace Go.Proofs.YthooakfbpoopaaaG
abbrev impl_allWithin.ps : List Pm := [.arg (.v (.slice (.int .i64))), .arg (.v (.int .i64)), .arg (.v (.int .i64))]
abbrev impl_allWithin.res : List M := [.v .bool]
noncomputable def impl_allWithin.C : Cfg := { tb := tb, tab := fun n f => Refl.look [] f }
noncomputable def impl_allWithin.A : Ann := { joins := [], loops := [(2, { live := [1, 2, 9, 10, 11], base := 24 })], ids := [], pids := [], nroots := 88 }
noncomputable def impl_allWithin (n : Nat) (x : List Int × Int × Int) : Option (Bool) := evalF impl_allWithin.C impl_allWithin.A Try.f82 impl_allWithin.ps impl_allWithin.res n x
noncomputable def impl_allWithin.K0 (_ : Nat) : Kont (Bool) := finK impl_allWithin.C (Func.results Try.f82).toList impl_allWithin.ps impl_allWithin.res
noncomputable def impl_allWithin.K1 (n : Nat) : Kont (Bool) := seqK (fun s' k => evalC impl_allWithin.C impl_allWithin.A n (codeAt Try.f82 [1, 1]) (cutAt impl_allWithin.A.joins (codeAt Try.f82 [1, 1]) s') k) (impl_allWithin.K0 n)
noncomputable def impl_allWithin.K2 (n : Nat) : Kont (Bool) := blockK 0 (impl_allWithin.K1 n)
noncomputable def impl_allWithin.l2 (n m2 : Nat) (x1 : Int) (x2 : Int) (x9 : List Int) (x10 : Int) (x11 : Int) : Option (Bool) := loopE (cutAt impl_allWithin.A.loops (codeAt Try.f82 [1, 0, 1, 0, 0])) (fun s k => evalC impl_allWithin.C impl_allWithin.A n (codeAt Try.f82 [1, 0, 1, 0, 0]) s k) m2 (St.of 24 88 [(1, .val (.int .i64) x1), (2, .val (.int .i64) x2), (9, .val (.slice (.int .i64)) x9), (10, .val (.int .i64) x10), (11, .val (.int .i64) x11)] [] []) (impl_allWithin.K2 n)
theorem impl_allWithin.eq (n : Nat) (x0 : List Int) (x1 : Int) (x2 : Int) : impl_allWithin n (x0, x1, x2) = impl_allWithin.l2 n n (x1) (x2) (x0) ((↑(List.length x0) : Int)) (0) := by kernel_rfl
theorem impl_allWithin.l2_zero (n : Nat) (x1 : Int) (x2 : Int) (x9 : List Int) (x10 : Int) (x11 : Int) : impl_allWithin.l2 n 0 x1 x2 x9 x10 x11 = none := by kernel_rfl
theorem impl_allWithin.l2_succ (n m2 : Nat) (x1 : Int) (x2 : Int) (x9 : List Int) (x10 : Int) (x11 : Int) : impl_allWithin.l2 n (m2 + 1) x1 x2 x9 x10 x11 = (if x11 < x10 then (if 0 ≤ x11 then (if x11 < (↑(List.length x9) : Int) then (if List.getD x9 (Int.toNat x11) 0 < x1 then some (Bool.false) else (if List.getD x9 (Int.toNat x11) 0 > x2 then some (Bool.false) else impl_allWithin.l2 n m2 (x1) (x2) (x9) (x10) (Go.RowKit.wrap64 (x11 + 1)))) else none) else none) else some (Bool.true)) := by kernel_rfl
theorem impl_allWithin.call : Callable Try.prog 82 := ⟨Try.f82, Try.func82, by kernel_rfl, by kernel_rfl⟩
theorem impl_allWithin.ok (n : Nat) : FC Try.prog 82 { params := impl_allWithin.ps, res := impl_allWithin.res, run := impl_allWithin n } :=
  evalF_ok (C := impl_allWithin.C) ⟨tb_ok, fun n _ _ h => tabOk (l := []) (all_nil) h, mixed⟩ impl_allWithin.A Try.func82 impl_allWithin.ps impl_allWithin.res n
end Go.Proofs.YthooakfbpoopaaaG
end
section
open Go Go.Refl Go.Proofs
set_option maxRecDepth 1000000
set_option maxHeartbeats 0
set_option linter.unusedVariables false
namespace Go.Proofs.YthooakfbpoopaaaG
abbrev impl_validStakes.ps : List Pm := [.arg (.v (.slice (.int .i64)))]
abbrev impl_validStakes.res : List M := [.v .bool]
noncomputable def impl_validStakes.C : Cfg := { tb := tb, tab := fun n f => Refl.look [(82, { params := impl_allWithin.ps, res := impl_allWithin.res, run := impl_allWithin n })] f }
noncomputable def impl_validStakes.A : Ann := { joins := [], loops := [], ids := [(1, [(13, [])])], pids := [], nroots := 79 }
noncomputable def impl_validStakes (n : Nat) (x : List Int) : Option (Bool) := evalF impl_validStakes.C impl_validStakes.A Try.f43 impl_validStakes.ps impl_validStakes.res n x
noncomputable def impl_validStakes.K0 (_ : Nat) : Kont (Bool) := finK impl_validStakes.C (Func.results Try.f43).toList impl_validStakes.ps impl_validStakes.res
theorem impl_validStakes.eq (n : Nat) (x0 : List Int) : impl_validStakes n x0 = (if (↑(List.length x0) : Int) ≥ 1 then (if (↑(List.length x0) : Int) ≤ 12 then ((impl_allWithin n (x0, 0, 100000)).bind fun y0 => some (y0)) else some (Bool.false)) else some (Bool.false)) := by kernel_rfl
theorem impl_validStakes.call : Callable Try.prog 43 := ⟨Try.f43, Try.func43, by kernel_rfl, by kernel_rfl⟩
theorem impl_validStakes.ok (n : Nat) : FC Try.prog 43 { params := impl_validStakes.ps, res := impl_validStakes.res, run := impl_validStakes n } :=
  evalF_ok (C := impl_validStakes.C) ⟨tb_ok, fun n _ _ h => tabOk (l := [(82, { params := impl_allWithin.ps, res := impl_allWithin.res, run := impl_allWithin n })]) (all_cons ⟨impl_allWithin.ok n, impl_allWithin.call⟩ (all_nil)) h, mixed⟩ impl_validStakes.A Try.func43 impl_validStakes.ps impl_validStakes.res n
end Go.Proofs.YthooakfbpoopaaaG
end
section
open Go Go.Refl Go.Proofs
set_option maxRecDepth 1000000
set_option maxHeartbeats 0
set_option linter.unusedVariables false
namespace Go.Proofs.YthooakfbpoopaaaG
abbrev impl_differentBelow.ps : List Pm := [.arg (.v (.slice (.int .i64))), .arg (.v (.int .i64))]
abbrev impl_differentBelow.res : List M := [.v .bool]
noncomputable def impl_differentBelow.C : Cfg := { tb := tb, tab := fun n f => Refl.look [] f }
noncomputable def impl_differentBelow.A : Ann := { joins := [], loops := [(5, { live := [1, 5, 14, 15, 16], base := 37 })], ids := [], pids := [], nroots := 101 }
noncomputable def impl_differentBelow (n : Nat) (x : List Int × Int) : Option (Bool) := evalF impl_differentBelow.C impl_differentBelow.A Try.f83 impl_differentBelow.ps impl_differentBelow.res n x
noncomputable def impl_differentBelow.K0 (_ : Nat) : Kont (Bool) := finK impl_differentBelow.C (Func.results Try.f83).toList impl_differentBelow.ps impl_differentBelow.res
noncomputable def impl_differentBelow.K1 (n : Nat) : Kont (Bool) := seqK (fun s' k => evalC impl_differentBelow.C impl_differentBelow.A n (codeAt Try.f83 [1, 1, 1, 1]) (cutAt impl_differentBelow.A.joins (codeAt Try.f83 [1, 1, 1, 1]) s') k) (impl_differentBelow.K0 n)
noncomputable def impl_differentBelow.K2 (n : Nat) : Kont (Bool) := blockK 0 (impl_differentBelow.K1 n)
noncomputable def impl_differentBelow.l5 (n m5 : Nat) (x1 : Int) (x14 : List Int) (x15 : Int) (x16 : Int) (r37 : List Bool) : Option (Bool) := loopE (cutAt impl_differentBelow.A.loops (codeAt Try.f83 [1, 1, 1, 0, 1, 0, 0])) (fun s k => evalC impl_differentBelow.C impl_differentBelow.A n (codeAt Try.f83 [1, 1, 1, 0, 1, 0, 0]) s k) m5 (St.of 37 101 [(1, .val (.int .i64) x1), (5, .own 37), (14, .val (.slice (.int .i64)) x14), (15, .val (.int .i64) x15), (16, .val (.int .i64) x16)] [(37, .row .bool 4 r37)] []) (impl_differentBelow.K2 n)
theorem impl_differentBelow.eq (n : Nat) (x0 : List Int) (x1 : Int) : impl_differentBelow n (x0, x1) = (if (↑(List.length x0) : Int) > x1 then some (Bool.false) else (if 0 ≤ x1 then (if x1 ≤ x1 then (if x1 ≤ (↑Go.Refl.maxN : Int) then impl_differentBelow.l5 n n (x1) (x0) ((↑(List.length x0) : Int)) (0) (List.replicate (Int.toNat x1) Bool.false) else none) else none) else none)) := by kernel_rfl
theorem impl_differentBelow.l5_zero (n : Nat) (x1 : Int) (x14 : List Int) (x15 : Int) (x16 : Int) (r37 : List Bool) : impl_differentBelow.l5 n 0 x1 x14 x15 x16 r37 = none := by kernel_rfl
theorem impl_differentBelow.l5_succ (n m5 : Nat) (x1 : Int) (x14 : List Int) (x15 : Int) (x16 : Int) (r37 : List Bool) : impl_differentBelow.l5 n (m5 + 1) x1 x14 x15 x16 r37 = (if x16 < x15 then (if 0 ≤ x16 then (if x16 < (↑(List.length x14) : Int) then (if List.getD x14 (Int.toNat x16) 0 < 0 then some (Bool.false) else (if List.getD x14 (Int.toNat x16) 0 ≥ x1 then some (Bool.false) else (if 0 ≤ List.getD x14 (Int.toNat x16) 0 then (if List.getD x14 (Int.toNat x16) 0 < (↑(List.length r37) : Int) then (if (List.getD r37 (Int.toNat (List.getD x14 (Int.toNat x16) 0)) Bool.false) = true then some (Bool.false) else (if 0 ≤ List.getD x14 (Int.toNat x16) 0 then (if List.getD x14 (Int.toNat x16) 0 < (↑(List.length r37) : Int) then impl_differentBelow.l5 n m5 (x1) (x14) (x15) (Go.RowKit.wrap64 (x16 + 1)) (List.set r37 (Int.toNat (List.getD x14 (Int.toNat x16) 0)) Bool.true) else none) else none)) else none) else none))) else none) else none) else some (Bool.true)) := by kernel_rfl
theorem impl_differentBelow.call : Callable Try.prog 83 := ⟨Try.f83, Try.func83, by kernel_rfl, by kernel_rfl⟩
theorem impl_differentBelow.ok (n : Nat) : FC Try.prog 83 { params := impl_differentBelow.ps, res := impl_differentBelow.res, run := impl_differentBelow n } :=
  evalF_ok (C := impl_differentBelow.C) ⟨tb_ok, fun n _ _ h => tabOk (l := []) (all_nil) h, mixed⟩ impl_differentBelow.A Try.func83 impl_differentBelow.ps impl_differentBelow.res n
end Go.Proofs.YthooakfbpoopaaaG
end
section
open Go Go.Refl Go.Proofs
set_option maxRecDepth 1000000
set_option maxHeartbeats 0
set_option linter.unusedVariables false
namespace Go.Proofs.YthooakfbpoopaaaG
abbrev slices_Index_int.ps : List Pm := [.arg (.v (.slice (.int .i64))), .arg (.v (.int .i64))]
abbrev slices_Index_int.res : List M := [.v (.int .i64)]
noncomputable def slices_Index_int.C : Cfg := { tb := tb, tab := fun n f => Refl.look [] f }
noncomputable def slices_Index_int.A : Ann := { joins := [], loops := [(2, { live := [0, 1, 7, 8], base := 19 })], ids := [], pids := [], nroots := 83 }
noncomputable def slices_Index_int (n : Nat) (x : List Int × Int) : Option (Int) := evalF slices_Index_int.C slices_Index_int.A Try.f86 slices_Index_int.ps slices_Index_int.res n x
noncomputable def slices_Index_int.K0 (_ : Nat) : Kont (Int) := finK slices_Index_int.C (Func.results Try.f86).toList slices_Index_int.ps slices_Index_int.res
noncomputable def slices_Index_int.K1 (n : Nat) : Kont (Int) := seqK (fun s' k => evalC slices_Index_int.C slices_Index_int.A n (codeAt Try.f86 [1, 1]) (cutAt slices_Index_int.A.joins (codeAt Try.f86 [1, 1]) s') k) (slices_Index_int.K0 n)
noncomputable def slices_Index_int.K2 (n : Nat) : Kont (Int) := blockK 0 (slices_Index_int.K1 n)
noncomputable def slices_Index_int.l2 (n m2 : Nat) (x0 : List Int) (x1 : Int) (x7 : Int) (x8 : Int) : Option (Int) := loopE (cutAt slices_Index_int.A.loops (codeAt Try.f86 [1, 0, 1, 0, 0])) (fun s k => evalC slices_Index_int.C slices_Index_int.A n (codeAt Try.f86 [1, 0, 1, 0, 0]) s k) m2 (St.of 19 83 [(0, .val (.slice (.int .i64)) x0), (1, .val (.int .i64) x1), (7, .val (.int .i64) x7), (8, .val (.int .i64) x8)] [] []) (slices_Index_int.K2 n)
theorem slices_Index_int.eq (n : Nat) (x0 : List Int) (x1 : Int) : slices_Index_int n (x0, x1) = slices_Index_int.l2 n n (x0) (x1) ((↑(List.length x0) : Int)) (0) := by kernel_rfl
theorem slices_Index_int.l2_zero (n : Nat) (x0 : List Int) (x1 : Int) (x7 : Int) (x8 : Int) : slices_Index_int.l2 n 0 x0 x1 x7 x8 = none := by kernel_rfl
theorem slices_Index_int.l2_succ (n m2 : Nat) (x0 : List Int) (x1 : Int) (x7 : Int) (x8 : Int) : slices_Index_int.l2 n (m2 + 1) x0 x1 x7 x8 = (if x8 < x7 then (if 0 ≤ x8 then (if x8 < (↑(List.length x0) : Int) then (if x1 = List.getD x0 (Int.toNat x8) 0 then some (x8) else slices_Index_int.l2 n m2 (x0) (x1) (x7) (Go.RowKit.wrap64 (x8 + 1))) else none) else none) else some ((-1))) := by kernel_rfl
theorem slices_Index_int.call : Callable Try.prog 86 := ⟨Try.f86, Try.func86, by kernel_rfl, by kernel_rfl⟩
theorem slices_Index_int.ok (n : Nat) : FC Try.prog 86 { params := slices_Index_int.ps, res := slices_Index_int.res, run := slices_Index_int n } :=
  evalF_ok (C := slices_Index_int.C) ⟨tb_ok, fun n _ _ h => tabOk (l := []) (all_nil) h, mixed⟩ slices_Index_int.A Try.func86 slices_Index_int.ps slices_Index_int.res n
end Go.Proofs.YthooakfbpoopaaaG
end
section
open Go Go.Refl Go.Proofs
set_option maxRecDepth 1000000
set_option maxHeartbeats 0
set_option linter.unusedVariables false
namespace Go.Proofs.YthooakfbpoopaaaG
abbrev slices_Contains_int.ps : List Pm := [.arg (.v (.slice (.int .i64))), .arg (.v (.int .i64))]
abbrev slices_Contains_int.res : List M := [.v .bool]
noncomputable def slices_Contains_int.C : Cfg := { tb := tb, tab := fun n f => Refl.look [(86, { params := slices_Index_int.ps, res := slices_Index_int.res, run := slices_Index_int n })] f }
noncomputable def slices_Contains_int.A : Ann := { joins := [], loops := [], ids := [(1, [(7, [])])], pids := [], nroots := 73 }
noncomputable def slices_Contains_int (n : Nat) (x : List Int × Int) : Option (Bool) := evalF slices_Contains_int.C slices_Contains_int.A Try.f51 slices_Contains_int.ps slices_Contains_int.res n x
noncomputable def slices_Contains_int.K0 (_ : Nat) : Kont (Bool) := finK slices_Contains_int.C (Func.results Try.f51).toList slices_Contains_int.ps slices_Contains_int.res
theorem slices_Contains_int.eq (n : Nat) (x0 : List Int) (x1 : Int) : slices_Contains_int n (x0, x1) = ((slices_Index_int n (x0, x1)).bind fun y0 => some (Decidable.decide (y0 ≥ 0))) := by kernel_rfl
theorem slices_Contains_int.call : Callable Try.prog 51 := ⟨Try.f51, Try.func51, by kernel_rfl, by kernel_rfl⟩
theorem slices_Contains_int.ok (n : Nat) : FC Try.prog 51 { params := slices_Contains_int.ps, res := slices_Contains_int.res, run := slices_Contains_int n } :=
  evalF_ok (C := slices_Contains_int.C) ⟨tb_ok, fun n _ _ h => tabOk (l := [(86, { params := slices_Index_int.ps, res := slices_Index_int.res, run := slices_Index_int n })]) (all_cons ⟨slices_Index_int.ok n, slices_Index_int.call⟩ (all_nil)) h, mixed⟩ slices_Contains_int.A Try.func51 slices_Contains_int.ps slices_Contains_int.res n
end Go.Proofs.YthooakfbpoopaaaG
end
section
open Go Go.Refl Go.Proofs
set_option maxRecDepth 1000000
set_option maxHeartbeats 0
set_option linter.unusedVariables false
namespace Go.Proofs.YthooakfbpoopaaaG
abbrev impl_ValidLoans.ps : List Pm := [.arg (.v (.slice (.pair (.int .i64) (.pair (.int .i64) (.slice (.int .i64)))))), .arg (.v (.int .i64))]
abbrev impl_ValidLoans.res : List M := [.v .bool]
noncomputable def impl_ValidLoans.C : Cfg := { tb := tb, tab := fun n f => Refl.look [(83, { params := impl_differentBelow.ps, res := impl_differentBelow.res, run := impl_differentBelow n }), (51, { params := slices_Contains_int.ps, res := slices_Contains_int.res, run := slices_Contains_int n })] f }
noncomputable def impl_ValidLoans.A : Ann := { joins := [], loops := [(4, { live := [1, 18, 19, 20], base := 62 })], ids := [(8, [(51, []), (59, [])])], pids := [], nroots := 126 }
noncomputable def impl_ValidLoans (n : Nat) (x : List (Int × Int × List Int) × Int) : Option (Bool) := evalF impl_ValidLoans.C impl_ValidLoans.A Try.f44 impl_ValidLoans.ps impl_ValidLoans.res n x
noncomputable def impl_ValidLoans.K0 (_ : Nat) : Kont (Bool) := finK impl_ValidLoans.C (Func.results Try.f44).toList impl_ValidLoans.ps impl_ValidLoans.res
noncomputable def impl_ValidLoans.K1 (n : Nat) : Kont (Bool) := seqK (fun s' k => evalC impl_ValidLoans.C impl_ValidLoans.A n (codeAt Try.f44 [1, 1, 1]) (cutAt impl_ValidLoans.A.joins (codeAt Try.f44 [1, 1, 1]) s') k) (impl_ValidLoans.K0 n)
noncomputable def impl_ValidLoans.K2 (n : Nat) : Kont (Bool) := blockK 0 (impl_ValidLoans.K1 n)
noncomputable def impl_ValidLoans.l4 (n m4 : Nat) (x1 : Int) (x18 : List (Int × Int × List Int)) (x19 : Int) (x20 : Int) : Option (Bool) := loopE (cutAt impl_ValidLoans.A.loops (codeAt Try.f44 [1, 1, 0, 1, 0, 0])) (fun s k => evalC impl_ValidLoans.C impl_ValidLoans.A n (codeAt Try.f44 [1, 1, 0, 1, 0, 0]) s k) m4 (St.of 62 126 [(1, .val (.int .i64) x1), (18, .val (.slice (.pair (.int .i64) (.pair (.int .i64) (.slice (.int .i64))))) x18), (19, .val (.int .i64) x19), (20, .val (.int .i64) x20)] [] []) (impl_ValidLoans.K2 n)
theorem impl_ValidLoans.eq (n : Nat) (x0 : List (Int × Int × List Int)) (x1 : Int) : impl_ValidLoans n (x0, x1) = (if (↑(List.length x0) : Int) > 16 then some (Bool.false) else (if x1 < 1 then some (Bool.false) else (if x1 > 12 then some (Bool.false) else impl_ValidLoans.l4 n n (x1) (x0) ((↑(List.length x0) : Int)) (0)))) := by kernel_rfl
theorem impl_ValidLoans.l4_zero (n : Nat) (x1 : Int) (x18 : List (Int × Int × List Int)) (x19 : Int) (x20 : Int) : impl_ValidLoans.l4 n 0 x1 x18 x19 x20 = none := by kernel_rfl
theorem impl_ValidLoans.l4_succ (n m4 : Nat) (x1 : Int) (x18 : List (Int × Int × List Int)) (x19 : Int) (x20 : Int) : impl_ValidLoans.l4 n (m4 + 1) x1 x18 x19 x20 = (if x20 < x19 then (if 0 ≤ x20 then (if x20 < (↑(List.length x18) : Int) then (if Prod.fst (List.getD x18 (Int.toNat x20) (0, 0, [])) < 0 then some (Bool.false) else (if Prod.fst (List.getD x18 (Int.toNat x20) (0, 0, [])) ≥ x1 then some (Bool.false) else (if Prod.fst (Prod.snd (List.getD x18 (Int.toNat x20) (0, 0, []))) < 1 then some (Bool.false) else (if Prod.fst (Prod.snd (List.getD x18 (Int.toNat x20) (0, 0, []))) > 100000 then some (Bool.false) else (if (↑(List.length (Prod.snd (Prod.snd (List.getD x18 (Int.toNat x20) ((0 : Int), (0 : Int), []))))) : Int) < 1 then some (Bool.false) else ((impl_differentBelow n (Prod.snd (Prod.snd (List.getD x18 (Int.toNat x20) (0, 0, []))), x1)).bind fun y0 => (if (!y0) = Bool.true then some (Bool.false) else ((slices_Contains_int n (Prod.snd (Prod.snd (List.getD x18 (Int.toNat x20) (0, 0, []))), Prod.fst (List.getD x18 (Int.toNat x20) (0, 0, [])))).bind fun y1 => (if (y1) = true then some (Bool.false) else impl_ValidLoans.l4 n m4 (x1) (x18) (x19) (Go.RowKit.wrap64 (x20 + 1))))))))))) else none) else none) else some (Bool.true)) := by kernel_rfl
theorem impl_ValidLoans.call : Callable Try.prog 44 := ⟨Try.f44, Try.func44, by kernel_rfl, by kernel_rfl⟩
theorem impl_ValidLoans.ok (n : Nat) : FC Try.prog 44 { params := impl_ValidLoans.ps, res := impl_ValidLoans.res, run := impl_ValidLoans n } :=
  evalF_ok (C := impl_ValidLoans.C) ⟨tb_ok, fun n _ _ h => tabOk (l := [(83, { params := impl_differentBelow.ps, res := impl_differentBelow.res, run := impl_differentBelow n }), (51, { params := slices_Contains_int.ps, res := slices_Contains_int.res, run := slices_Contains_int n })]) (all_cons ⟨impl_differentBelow.ok n, impl_differentBelow.call⟩ (all_cons ⟨slices_Contains_int.ok n, slices_Contains_int.call⟩ (all_nil))) h, mixed⟩ impl_ValidLoans.A Try.func44 impl_ValidLoans.ps impl_ValidLoans.res n
end Go.Proofs.YthooakfbpoopaaaG
end
section
open Go Go.Refl Go.Proofs
set_option maxRecDepth 1000000
set_option maxHeartbeats 0
set_option linter.unusedVariables false
namespace Go.Proofs.YthooakfbpoopaaaG
abbrev impl_loansOf.ps : List Pm := [.arg (.v (.slice (.pair (.int .i64) (.pair (.int .i64) (.slice (.int .i64))))))]
abbrev impl_loansOf.res : List M := [.v (.int .i64)]
noncomputable def impl_loansOf.C : Cfg := { tb := tb, tab := fun n f => Refl.look [] f }
noncomputable def impl_loansOf.A : Ann := { joins := [], loops := [(3, { live := [3, 6, 7, 8], base := 18 })], ids := [], pids := [], nroots := 82 }
noncomputable def impl_loansOf (n : Nat) (x : List (Int × Int × List Int)) : Option (Int) := evalF impl_loansOf.C impl_loansOf.A Try.f45 impl_loansOf.ps impl_loansOf.res n x
noncomputable def impl_loansOf.K0 (_ : Nat) : Kont (Int) := finK impl_loansOf.C (Func.results Try.f45).toList impl_loansOf.ps impl_loansOf.res
noncomputable def impl_loansOf.K1 (n : Nat) : Kont (Int) := seqK (fun s' k => evalC impl_loansOf.C impl_loansOf.A n (codeAt Try.f45 [1, 1, 1]) (cutAt impl_loansOf.A.joins (codeAt Try.f45 [1, 1, 1]) s') k) (impl_loansOf.K0 n)
noncomputable def impl_loansOf.K2 (n : Nat) : Kont (Int) := blockK 0 (impl_loansOf.K1 n)
noncomputable def impl_loansOf.l3 (n m3 : Nat) (x3 : Int) (x6 : List (Int × Int × List Int)) (x7 : Int) (x8 : Int) : Option (Int) := loopE (cutAt impl_loansOf.A.loops (codeAt Try.f45 [1, 1, 0, 1, 0, 0])) (fun s k => evalC impl_loansOf.C impl_loansOf.A n (codeAt Try.f45 [1, 1, 0, 1, 0, 0]) s k) m3 (St.of 18 82 [(3, .val (.int .i64) x3), (6, .val (.slice (.pair (.int .i64) (.pair (.int .i64) (.slice (.int .i64))))) x6), (7, .val (.int .i64) x7), (8, .val (.int .i64) x8)] [] []) (impl_loansOf.K2 n)
theorem impl_loansOf.eq (n : Nat) (x0 : List (Int × Int × List Int)) : impl_loansOf n x0 = impl_loansOf.l3 n n (0) (x0) ((↑(List.length x0) : Int)) (0) := by kernel_rfl
theorem impl_loansOf.l3_zero (n : Nat) (x3 : Int) (x6 : List (Int × Int × List Int)) (x7 : Int) (x8 : Int) : impl_loansOf.l3 n 0 x3 x6 x7 x8 = none := by kernel_rfl
theorem impl_loansOf.l3_succ (n m3 : Nat) (x3 : Int) (x6 : List (Int × Int × List Int)) (x7 : Int) (x8 : Int) : impl_loansOf.l3 n (m3 + 1) x3 x6 x7 x8 = (if x8 < x7 then (if 0 ≤ x8 then (if x8 < (↑(List.length x6) : Int) then impl_loansOf.l3 n m3 (Go.RowKit.wrap64 (x3 + Prod.fst (Prod.snd (List.getD x6 (Int.toNat x8) (0, 0, []))))) (x6) (x7) (Go.RowKit.wrap64 (x8 + 1)) else none) else none) else some (x3)) := by kernel_rfl
theorem impl_loansOf.call : Callable Try.prog 45 := ⟨Try.f45, Try.func45, by kernel_rfl, by kernel_rfl⟩
theorem impl_loansOf.ok (n : Nat) : FC Try.prog 45 { params := impl_loansOf.ps, res := impl_loansOf.res, run := impl_loansOf n } :=
  evalF_ok (C := impl_loansOf.C) ⟨tb_ok, fun n _ _ h => tabOk (l := []) (all_nil) h, mixed⟩ impl_loansOf.A Try.func45 impl_loansOf.ps impl_loansOf.res n
end Go.Proofs.YthooakfbpoopaaaG
end
section
open Go Go.Refl Go.Proofs
set_option maxRecDepth 1000000
set_option maxHeartbeats 0
set_option linter.unusedVariables false
namespace Go.Proofs.YthooakfbpoopaaaG
abbrev impl_sumOf.ps : List Pm := [.arg (.v (.slice (.int .i64)))]
abbrev impl_sumOf.res : List M := [.v (.int .i64)]
noncomputable def impl_sumOf.C : Cfg := { tb := tb, tab := fun n f => Refl.look [] f }
noncomputable def impl_sumOf.A : Ann := { joins := [], loops := [(3, { live := [3, 6, 7, 8], base := 17 })], ids := [], pids := [], nroots := 81 }
noncomputable def impl_sumOf (n : Nat) (x : List Int) : Option (Int) := evalF impl_sumOf.C impl_sumOf.A Try.f46 impl_sumOf.ps impl_sumOf.res n x
noncomputable def impl_sumOf.K0 (_ : Nat) : Kont (Int) := finK impl_sumOf.C (Func.results Try.f46).toList impl_sumOf.ps impl_sumOf.res
noncomputable def impl_sumOf.K1 (n : Nat) : Kont (Int) := seqK (fun s' k => evalC impl_sumOf.C impl_sumOf.A n (codeAt Try.f46 [1, 1, 1]) (cutAt impl_sumOf.A.joins (codeAt Try.f46 [1, 1, 1]) s') k) (impl_sumOf.K0 n)
noncomputable def impl_sumOf.K2 (n : Nat) : Kont (Int) := blockK 0 (impl_sumOf.K1 n)
noncomputable def impl_sumOf.l3 (n m3 : Nat) (x3 : Int) (x6 : List Int) (x7 : Int) (x8 : Int) : Option (Int) := loopE (cutAt impl_sumOf.A.loops (codeAt Try.f46 [1, 1, 0, 1, 0, 0])) (fun s k => evalC impl_sumOf.C impl_sumOf.A n (codeAt Try.f46 [1, 1, 0, 1, 0, 0]) s k) m3 (St.of 17 81 [(3, .val (.int .i64) x3), (6, .val (.slice (.int .i64)) x6), (7, .val (.int .i64) x7), (8, .val (.int .i64) x8)] [] []) (impl_sumOf.K2 n)
theorem impl_sumOf.eq (n : Nat) (x0 : List Int) : impl_sumOf n x0 = impl_sumOf.l3 n n (0) (x0) ((↑(List.length x0) : Int)) (0) := by kernel_rfl
theorem impl_sumOf.l3_zero (n : Nat) (x3 : Int) (x6 : List Int) (x7 : Int) (x8 : Int) : impl_sumOf.l3 n 0 x3 x6 x7 x8 = none := by kernel_rfl
theorem impl_sumOf.l3_succ (n m3 : Nat) (x3 : Int) (x6 : List Int) (x7 : Int) (x8 : Int) : impl_sumOf.l3 n (m3 + 1) x3 x6 x7 x8 = (if x8 < x7 then (if 0 ≤ x8 then (if x8 < (↑(List.length x6) : Int) then impl_sumOf.l3 n m3 (Go.RowKit.wrap64 (x3 + List.getD x6 (Int.toNat x8) 0)) (x6) (x7) (Go.RowKit.wrap64 (x8 + 1)) else none) else none) else some (x3)) := by kernel_rfl
theorem impl_sumOf.call : Callable Try.prog 46 := ⟨Try.f46, Try.func46, by kernel_rfl, by kernel_rfl⟩
theorem impl_sumOf.ok (n : Nat) : FC Try.prog 46 { params := impl_sumOf.ps, res := impl_sumOf.res, run := impl_sumOf n } :=
  evalF_ok (C := impl_sumOf.C) ⟨tb_ok, fun n _ _ h => tabOk (l := []) (all_nil) h, mixed⟩ impl_sumOf.A Try.func46 impl_sumOf.ps impl_sumOf.res n
end Go.Proofs.YthooakfbpoopaaaG
end
section
open Go Go.Refl Go.Proofs
set_option maxRecDepth 1000000
set_option maxHeartbeats 0
set_option linter.unusedVariables false
namespace Go.Proofs.YthooakfbpoopaaaG
abbrev impl_ValidClub.ps : List Pm := [.arg (.v (.pair (.slice (.int .i64)) (.pair (.slice (.pair (.int .i64) (.pair (.int .i64) (.slice (.int .i64))))) (.pair (.int .i64) (.pair (.int .i64) (.int .i64))))))]
abbrev impl_ValidClub.res : List M := [.v .bool]
noncomputable def impl_ValidClub.C : Cfg := { tb := tb, tab := fun n f => Refl.look [(43, { params := impl_validStakes.ps, res := impl_validStakes.res, run := impl_validStakes n }), (44, { params := impl_ValidLoans.ps, res := impl_ValidLoans.res, run := impl_ValidLoans n }), (45, { params := impl_loansOf.ps, res := impl_loansOf.res, run := impl_loansOf n }), (46, { params := impl_sumOf.ps, res := impl_sumOf.res, run := impl_sumOf n })] f }
noncomputable def impl_ValidClub.A : Ann := { joins := [], loops := [], ids := [(1, [(5, []), (13, [])]), (5, [(47, []), (51, [])])], pids := [], nroots := 121 }
noncomputable def impl_ValidClub (n : Nat) (x : List Int × List (Int × Int × List Int) × Int × Int × Int) : Option (Bool) := evalF impl_ValidClub.C impl_ValidClub.A Try.f16 impl_ValidClub.ps impl_ValidClub.res n x
noncomputable def impl_ValidClub.K0 (_ : Nat) : Kont (Bool) := finK impl_ValidClub.C (Func.results Try.f16).toList impl_ValidClub.ps impl_ValidClub.res
theorem impl_ValidClub.eq (n : Nat) (x0 : List Int × List (Int × Int × List Int) × Int × Int × Int) : impl_ValidClub n x0 = ((impl_validStakes n (Prod.fst x0)).bind fun y0 => (if (!y0) = Bool.true then some (Bool.false) else ((impl_ValidLoans n (Prod.fst (Prod.snd x0), (↑(List.length (Prod.fst x0)) : Int))).bind fun y1 => (if (!y1) = true then some (Bool.false) else (if Prod.fst (Prod.snd (Prod.snd x0)) < 0 then some (Bool.false) else (if Prod.fst (Prod.snd (Prod.snd x0)) > 1000000 then some (Bool.false) else (if Prod.fst (Prod.snd (Prod.snd (Prod.snd x0))) < (-1000000) then some (Bool.false) else (if Prod.fst (Prod.snd (Prod.snd (Prod.snd x0))) > 1000000 then some (Bool.false) else (if Prod.snd (Prod.snd (Prod.snd (Prod.snd x0))) ≥ 0 then (if Prod.snd (Prod.snd (Prod.snd (Prod.snd x0))) ≤ 999 then ((impl_loansOf n (Prod.fst (Prod.snd x0))).bind fun y2 => ((impl_sumOf n (Prod.fst x0)).bind fun y3 => some (Decidable.decide (Go.RowKit.wrap64 (Prod.fst (Prod.snd (Prod.snd x0)) + y2) = Go.RowKit.wrap64 (y3 + Prod.fst (Prod.snd (Prod.snd (Prod.snd x0)))))))) else some (Bool.false)) else some (Bool.false)))))))))) := by kernel_rfl
theorem impl_ValidClub.call : Callable Try.prog 16 := ⟨Try.f16, Try.func16, by kernel_rfl, by kernel_rfl⟩
theorem impl_ValidClub.ok (n : Nat) : FC Try.prog 16 { params := impl_ValidClub.ps, res := impl_ValidClub.res, run := impl_ValidClub n } :=
  evalF_ok (C := impl_ValidClub.C) ⟨tb_ok, fun n _ _ h => tabOk (l := [(43, { params := impl_validStakes.ps, res := impl_validStakes.res, run := impl_validStakes n }), (44, { params := impl_ValidLoans.ps, res := impl_ValidLoans.res, run := impl_ValidLoans n }), (45, { params := impl_loansOf.ps, res := impl_loansOf.res, run := impl_loansOf n }), (46, { params := impl_sumOf.ps, res := impl_sumOf.res, run := impl_sumOf n })]) (all_cons ⟨impl_validStakes.ok n, impl_validStakes.call⟩ (all_cons ⟨impl_ValidLoans.ok n, impl_ValidLoans.call⟩ (all_cons ⟨impl_loansOf.ok n, impl_loansOf.call⟩ (all_cons ⟨impl_sumOf.ok n, impl_sumOf.call⟩ (all_nil))))) h, mixed⟩ impl_ValidClub.A Try.func16 impl_ValidClub.ps impl_ValidClub.res n
end Go.Proofs.YthooakfbpoopaaaG
end
section
open Go Go.Refl Go.Proofs
set_option maxRecDepth 1000000
set_option maxHeartbeats 0
set_option linter.unusedVariables false
namespace Go.Proofs.YthooakfbpoopaaaG
abbrev slices_Clone_int.ps : List Pm := [.arg (.v (.slice (.int .i64)))]
abbrev slices_Clone_int.res : List M := [(.own (.int .i64) 3)]
noncomputable def slices_Clone_int.C : Cfg := { tb := tb, tab := fun n f => Refl.look [] f }
noncomputable def slices_Clone_int.A : Ann := { joins := [], loops := [], ids := [], pids := [], nroots := 72 }
noncomputable def slices_Clone_int (n : Nat) (x : List Int) : Option (List Int) := evalF slices_Clone_int.C slices_Clone_int.A Try.f49 slices_Clone_int.ps slices_Clone_int.res n x
noncomputable def slices_Clone_int.K0 (_ : Nat) : Kont (List Int) := finK slices_Clone_int.C (Func.results Try.f49).toList slices_Clone_int.ps slices_Clone_int.res
theorem slices_Clone_int.eq (n : Nat) (x0 : List Int) : slices_Clone_int n x0 = (if Int.toNat (↑(List.length x0) : Int) = 0 then Go.Refl.both (some ([])) ((if List.length (List.replicate (0 : Nat) (0 : Int)) + List.length x0 ≤ Go.Refl.maxN then some (List.replicate 0 0 ++ x0) else none)) else (if List.length (List.replicate (0 : Nat) (0 : Int)) + List.length x0 ≤ Go.Refl.maxN then some (List.replicate 0 0 ++ x0) else none)) := by kernel_rfl
theorem slices_Clone_int.call : Callable Try.prog 49 := ⟨Try.f49, Try.func49, by kernel_rfl, by kernel_rfl⟩
theorem slices_Clone_int.ok (n : Nat) : FC Try.prog 49 { params := slices_Clone_int.ps, res := slices_Clone_int.res, run := slices_Clone_int n } :=
  evalF_ok (C := slices_Clone_int.C) ⟨tb_ok, fun n _ _ h => tabOk (l := []) (all_nil) h, mixed⟩ slices_Clone_int.A Try.func49 slices_Clone_int.ps slices_Clone_int.res n
end Go.Proofs.YthooakfbpoopaaaG
end
section
open Go Go.Refl Go.Proofs
set_option maxRecDepth 1000000
set_option maxHeartbeats 0
set_option linter.unusedVariables false
namespace Go.Proofs.YthooakfbpoopaaaG
abbrev impl_copyLoans.ps : List Pm := [.arg (.v (.slice (.pair (.int .i64) (.pair (.int .i64) (.slice (.int .i64))))))]
abbrev impl_copyLoans.res : List M := [(.own (.pair (.int .i64) (.pair (.int .i64) (.slice (.int .i64)))) 45)]
noncomputable def impl_copyLoans.C : Cfg := { tb := tb, tab := fun n f => Refl.look [(49, { params := slices_Clone_int.ps, res := [.v (.slice (.int .i64))], run := slices_Clone_int n })] f }
noncomputable def impl_copyLoans.A : Ann := { joins := [], loops := [(3, { live := [3, 6, 7, 8], base := 22, grow := [(3, 41, (.pair (.int .i64) (.pair (.int .i64) (.slice (.int .i64)))), 45)] })], ids := [(5, [(14, [])]), (6, [(18, [])])], pids := [], nroots := 86 }
noncomputable def impl_copyLoans (n : Nat) (x : List (Int × Int × List Int)) : Option (List (Int × Int × List Int)) := evalF impl_copyLoans.C impl_copyLoans.A Try.f67 impl_copyLoans.ps impl_copyLoans.res n x
noncomputable def impl_copyLoans.K0 (_ : Nat) : Kont (List (Int × Int × List Int)) := finK impl_copyLoans.C (Func.results Try.f67).toList impl_copyLoans.ps impl_copyLoans.res
noncomputable def impl_copyLoans.K1 (n : Nat) : Kont (List (Int × Int × List Int)) := seqK (fun s' k => evalC impl_copyLoans.C impl_copyLoans.A n (codeAt Try.f67 [1, 1, 1]) (cutAt impl_copyLoans.A.joins (codeAt Try.f67 [1, 1, 1]) s') k) (impl_copyLoans.K0 n)
noncomputable def impl_copyLoans.K2 (n : Nat) : Kont (List (Int × Int × List Int)) := blockK 0 (impl_copyLoans.K1 n)
noncomputable def impl_copyLoans.l3 (n m3 : Nat) (x6 : List (Int × Int × List Int)) (x7 : Int) (x8 : Int) (r22 : List (Int × Int × List Int)) : Option (List (Int × Int × List Int)) := loopE (cutAt impl_copyLoans.A.loops (codeAt Try.f67 [1, 1, 0, 1, 0, 0])) (fun s k => evalC impl_copyLoans.C impl_copyLoans.A n (codeAt Try.f67 [1, 1, 0, 1, 0, 0]) s k) m3 (St.of 22 86 [(3, .own 22), (6, .val (.slice (.pair (.int .i64) (.pair (.int .i64) (.slice (.int .i64))))) x6), (7, .val (.int .i64) x7), (8, .val (.int .i64) x8)] [(22, .row (.pair (.int .i64) (.pair (.int .i64) (.slice (.int .i64)))) 45 r22)] []) (impl_copyLoans.K2 n)
theorem impl_copyLoans.eq (n : Nat) (x0 : List (Int × Int × List Int)) : impl_copyLoans n x0 = impl_copyLoans.l3 n n (x0) ((↑(List.length x0) : Int)) (0) ([]) := by kernel_rfl
theorem impl_copyLoans.l3_zero (n : Nat) (x6 : List (Int × Int × List Int)) (x7 : Int) (x8 : Int) (r22 : List (Int × Int × List Int)) : impl_copyLoans.l3 n 0 x6 x7 x8 r22 = none := by kernel_rfl
theorem impl_copyLoans.l3_succ (n m3 : Nat) (x6 : List (Int × Int × List Int)) (x7 : Int) (x8 : Int) (r22 : List (Int × Int × List Int)) : impl_copyLoans.l3 n (m3 + 1) x6 x7 x8 r22 = (if x8 < x7 then (if 0 ≤ x8 then (if x8 < (↑(List.length x6) : Int) then ((slices_Clone_int n (Prod.snd (Prod.snd (List.getD x6 (Int.toNat x8) (0, 0, []))))).bind fun y0 => (if List.length r22 + List.length (List.set (List.replicate (1 : Nat) ((0 : Int), (0 : Int), [])) (0 : Nat) (Prod.fst (List.getD x6 (Int.toNat x8) ((0 : Int), (0 : Int), [])), Prod.fst (Prod.snd (List.getD x6 (Int.toNat x8) ((0 : Int), (0 : Int), []))), y0)) ≤ Go.Refl.maxN then impl_copyLoans.l3 n m3 (x6) (x7) (Go.RowKit.wrap64 (x8 + 1)) (r22 ++ List.set (List.replicate 1 (0, 0, [])) 0 (Prod.fst (List.getD x6 (Int.toNat x8) (0, 0, [])), Prod.fst (Prod.snd (List.getD x6 (Int.toNat x8) (0, 0, []))), y0)) else none)) else none) else none) else some (r22)) := by kernel_rfl
theorem impl_copyLoans.call : Callable Try.prog 67 := ⟨Try.f67, Try.func67, by kernel_rfl, by kernel_rfl⟩
theorem impl_copyLoans.ok (n : Nat) : FC Try.prog 67 { params := impl_copyLoans.ps, res := impl_copyLoans.res, run := impl_copyLoans n } :=
  evalF_ok (C := impl_copyLoans.C) ⟨tb_ok, fun n _ _ h => tabOk (l := [(49, { params := slices_Clone_int.ps, res := [.v (.slice (.int .i64))], run := slices_Clone_int n })]) (all_cons ⟨FC.weak (.cons (.own _ _) .nil) HEq.rfl (slices_Clone_int.ok n), slices_Clone_int.call⟩ (all_nil)) h, mixed⟩ impl_copyLoans.A Try.func67 impl_copyLoans.ps impl_copyLoans.res n
end Go.Proofs.YthooakfbpoopaaaG
end
section
open Go Go.Refl Go.Proofs
set_option maxRecDepth 1000000
set_option maxHeartbeats 0
set_option linter.unusedVariables false
namespace Go.Proofs.YthooakfbpoopaaaG
abbrev impl_copyClub.ps : List Pm := [.arg (.v (.pair (.slice (.int .i64)) (.pair (.slice (.pair (.int .i64) (.pair (.int .i64) (.slice (.int .i64))))) (.pair (.int .i64) (.pair (.int .i64) (.int .i64))))))]
abbrev impl_copyClub.res : List M := [(.pr (.own (.int .i64) 3) (.pr (.own (.pair (.int .i64) (.pair (.int .i64) (.slice (.int .i64)))) 45) (.v (.pair (.int .i64) (.pair (.int .i64) (.int .i64))))))]
noncomputable def impl_copyClub.C : Cfg := { tb := tb, tab := fun n f => Refl.look [(49, { params := slices_Clone_int.ps, res := slices_Clone_int.res, run := slices_Clone_int n }), (67, { params := impl_copyLoans.ps, res := impl_copyLoans.res, run := impl_copyLoans n })] f }
noncomputable def impl_copyClub.A : Ann := { joins := [], loops := [], ids := [], pids := [], nroots := 76 }
noncomputable def impl_copyClub (n : Nat) (x : List Int × List (Int × Int × List Int) × Int × Int × Int) : Option (List Int × List (Int × Int × List Int) × Int × Int × Int) := evalF impl_copyClub.C impl_copyClub.A Try.f39 impl_copyClub.ps impl_copyClub.res n x
noncomputable def impl_copyClub.K0 (_ : Nat) : Kont (List Int × List (Int × Int × List Int) × Int × Int × Int) := finK impl_copyClub.C (Func.results Try.f39).toList impl_copyClub.ps impl_copyClub.res
theorem impl_copyClub.eq (n : Nat) (x0 : List Int × List (Int × Int × List Int) × Int × Int × Int) : impl_copyClub n x0 = ((slices_Clone_int n (Prod.fst x0)).bind fun y0 => ((impl_copyLoans n (Prod.fst (Prod.snd x0))).bind fun y1 => some ((y0, y1, Prod.fst (Prod.snd (Prod.snd x0)), Prod.fst (Prod.snd (Prod.snd (Prod.snd x0))), Prod.snd (Prod.snd (Prod.snd (Prod.snd x0))))))) := by kernel_rfl
theorem impl_copyClub.call : Callable Try.prog 39 := ⟨Try.f39, Try.func39, by kernel_rfl, by kernel_rfl⟩
theorem impl_copyClub.ok (n : Nat) : FC Try.prog 39 { params := impl_copyClub.ps, res := impl_copyClub.res, run := impl_copyClub n } :=
  evalF_ok (C := impl_copyClub.C) ⟨tb_ok, fun n _ _ h => tabOk (l := [(49, { params := slices_Clone_int.ps, res := slices_Clone_int.res, run := slices_Clone_int n }), (67, { params := impl_copyLoans.ps, res := impl_copyLoans.res, run := impl_copyLoans n })]) (all_cons ⟨slices_Clone_int.ok n, slices_Clone_int.call⟩ (all_cons ⟨impl_copyLoans.ok n, impl_copyLoans.call⟩ (all_nil))) h, mixed⟩ impl_copyClub.A Try.func39 impl_copyClub.ps impl_copyClub.res n
end Go.Proofs.YthooakfbpoopaaaG
end
section
open Go Go.Refl Go.Proofs
set_option maxRecDepth 1000000
set_option maxHeartbeats 0
set_option linter.unusedVariables false
namespace Go.Proofs.YthooakfbpoopaaaG
abbrev impl_Club_moveMoney.ps : List Pm := [.box 26 (.pr (.own (.int .i64) 3) (.pr (.own (.pair (.int .i64) (.pair (.int .i64) (.slice (.int .i64)))) 45) (.v (.pair (.int .i64) (.pair (.int .i64) (.int .i64)))))), .arg (.v (.pair (.int .i64) (.pair (.int .i64) (.pair (.int .i64) (.pair (.int .i64) (.pair (.slice (.int .i64)) (.pair (.int .i64) (.int .i64)))))))), .arg (.v (.int .i64))]
abbrev impl_Club_moveMoney.res : List M := [.v .bool]
noncomputable def impl_Club_moveMoney.C : Cfg := { tb := tb, tab := fun n f => Refl.look [] f }
noncomputable def impl_Club_moveMoney.A : Ann := { joins := [], loops := [], ids := [], pids := [(0, [111, 112])], nroots := 119 }
noncomputable def impl_Club_moveMoney (n : Nat) (x : (List Int × List (Int × Int × List Int) × Int × Int × Int) × (Int × Int × Int × Int × List Int × Int × Int) × Int) : Option (Bool × List Int × List (Int × Int × List Int) × Int × Int × Int) := evalF impl_Club_moveMoney.C impl_Club_moveMoney.A Try.f68 impl_Club_moveMoney.ps impl_Club_moveMoney.res n x
noncomputable def impl_Club_moveMoney.K0 (_ : Nat) : Kont (Bool × List Int × List (Int × Int × List Int) × Int × Int × Int) := finK impl_Club_moveMoney.C (Func.results Try.f68).toList impl_Club_moveMoney.ps impl_Club_moveMoney.res
theorem impl_Club_moveMoney.eq (n : Nat) (x0 : List Int × List (Int × Int × List Int) × Int × Int × Int) (x1 : Int × Int × Int × Int × List Int × Int × Int) (x2 : Int) : impl_Club_moveMoney n (x0, x1, x2) = (if Prod.fst (Prod.snd x1) < 0 then some ((Bool.false, Prod.fst x0, Prod.fst (Prod.snd x0), Prod.fst (Prod.snd (Prod.snd x0)), Prod.fst (Prod.snd (Prod.snd (Prod.snd x0))), Prod.snd (Prod.snd (Prod.snd (Prod.snd x0))))) else (if Prod.fst (Prod.snd x1) ≥ (↑(List.length (Prod.fst x0)) : Int) then some ((Bool.false, Prod.fst x0, Prod.fst (Prod.snd x0), Prod.fst (Prod.snd (Prod.snd x0)), Prod.fst (Prod.snd (Prod.snd (Prod.snd x0))), Prod.snd (Prod.snd (Prod.snd (Prod.snd x0))))) else (if Prod.fst (Prod.snd (Prod.snd x1)) < 1 then some ((Bool.false, Prod.fst x0, Prod.fst (Prod.snd x0), Prod.fst (Prod.snd (Prod.snd x0)), Prod.fst (Prod.snd (Prod.snd (Prod.snd x0))), Prod.snd (Prod.snd (Prod.snd (Prod.snd x0))))) else (if Prod.fst (Prod.snd (Prod.snd x1)) > 100000 then some ((Bool.false, Prod.fst x0, Prod.fst (Prod.snd x0), Prod.fst (Prod.snd (Prod.snd x0)), Prod.fst (Prod.snd (Prod.snd (Prod.snd x0))), Prod.snd (Prod.snd (Prod.snd (Prod.snd x0))))) else (if 0 ≤ Prod.fst (Prod.snd x1) then (if Prod.fst (Prod.snd x1) < (↑(List.length (Prod.fst x0)) : Int) then (if 0 ≤ Prod.fst (Prod.snd x1) then (if Prod.fst (Prod.snd x1) < (↑(List.length (Prod.fst x0)) : Int) then some ((Bool.true, List.set (Prod.fst x0) (Int.toNat (Prod.fst (Prod.snd x1))) (Go.RowKit.wrap64 (List.getD (Prod.fst x0) (Int.toNat (Prod.fst (Prod.snd x1))) 0 + Go.RowKit.wrap64 (x2 * Prod.fst (Prod.snd (Prod.snd x1))))), Prod.fst (Prod.snd x0), Go.RowKit.wrap64 (Prod.fst (Prod.snd (Prod.snd x0)) + Go.RowKit.wrap64 (x2 * Prod.fst (Prod.snd (Prod.snd x1)))), Prod.fst (Prod.snd (Prod.snd (Prod.snd x0))), Prod.snd (Prod.snd (Prod.snd (Prod.snd x0))))) else none) else none) else none) else none))))) := by kernel_rfl
theorem impl_Club_moveMoney.call : Callable Try.prog 68 := ⟨Try.f68, Try.func68, by kernel_rfl, by kernel_rfl⟩
theorem impl_Club_moveMoney.ok (n : Nat) : FC Try.prog 68 { params := impl_Club_moveMoney.ps, res := impl_Club_moveMoney.res, run := impl_Club_moveMoney n } :=
  evalF_ok (C := impl_Club_moveMoney.C) ⟨tb_ok, fun n _ _ h => tabOk (l := []) (all_nil) h, mixed⟩ impl_Club_moveMoney.A Try.func68 impl_Club_moveMoney.ps impl_Club_moveMoney.res n
end Go.Proofs.YthooakfbpoopaaaG
end
section
open Go Go.Refl Go.Proofs
set_option maxRecDepth 1000000
set_option maxHeartbeats 0
set_option linter.unusedVariables false
namespace Go.Proofs.YthooakfbpoopaaaG
abbrev impl_SplitEven.ps : List Pm := [.arg (.v (.int .i64)), .arg (.v (.int .i64))]
abbrev impl_SplitEven.res : List M := [(.own (.int .i64) 3)]
noncomputable def impl_SplitEven.C : Cfg := { tb := tb, tab := fun n f => Refl.look [] f }
noncomputable def impl_SplitEven.A : Ann := { joins := [], loops := [(5, { live := [0, 1, 5, 24, 25], base := 47 })], ids := [], pids := [], nroots := 111 }
noncomputable def impl_SplitEven (n : Nat) (x : Int × Int) : Option (List Int) := evalF impl_SplitEven.C impl_SplitEven.A Try.f19 impl_SplitEven.ps impl_SplitEven.res n x
noncomputable def impl_SplitEven.K0 (_ : Nat) : Kont (List Int) := finK impl_SplitEven.C (Func.results Try.f19).toList impl_SplitEven.ps impl_SplitEven.res
noncomputable def impl_SplitEven.K1 (n : Nat) : Kont (List Int) := seqK (fun s' k => evalC impl_SplitEven.C impl_SplitEven.A n (codeAt Try.f19 [1, 1, 1, 1]) (cutAt impl_SplitEven.A.joins (codeAt Try.f19 [1, 1, 1, 1]) s') k) (impl_SplitEven.K0 n)
noncomputable def impl_SplitEven.K2 (n : Nat) : Kont (List Int) := blockK 0 (impl_SplitEven.K1 n)
noncomputable def impl_SplitEven.l5 (n m5 : Nat) (x0 : Int) (x1 : Int) (x24 : Int) (x25 : Int) (r47 : List Int) : Option (List Int) := loopE (cutAt impl_SplitEven.A.loops (codeAt Try.f19 [1, 1, 1, 0, 1, 0, 0])) (fun s k => evalC impl_SplitEven.C impl_SplitEven.A n (codeAt Try.f19 [1, 1, 1, 0, 1, 0, 0]) s k) m5 (St.of 47 111 [(0, .val (.int .i64) x0), (1, .val (.int .i64) x1), (5, .own 47), (24, .val (.int .i64) x24), (25, .val (.int .i64) x25)] [(47, .row (.int .i64) 3 r47)] []) (impl_SplitEven.K2 n)
theorem impl_SplitEven.eq (n : Nat) (x0 : Int) (x1 : Int) : impl_SplitEven n (x0, x1) = (if x0 < 0 then some ([]) else (if x0 > 1000000 then some ([]) else (if x1 < 1 then some ([]) else (if x1 > 12 then some ([]) else (if 0 ≤ x1 then (if x1 ≤ x1 then (if x1 ≤ (↑Go.Refl.maxN : Int) then impl_SplitEven.l5 n n (x0) (x1) ((↑(List.length (List.replicate (Int.toNat x1) (0 : Int))) : Int)) (0) (List.replicate (Int.toNat x1) 0) else none) else none) else none))))) := by kernel_rfl
theorem impl_SplitEven.l5_zero (n : Nat) (x0 : Int) (x1 : Int) (x24 : Int) (x25 : Int) (r47 : List Int) : impl_SplitEven.l5 n 0 x0 x1 x24 x25 r47 = none := by kernel_rfl
theorem impl_SplitEven.l5_succ (n m5 : Nat) (x0 : Int) (x1 : Int) (x24 : Int) (x25 : Int) (r47 : List Int) : impl_SplitEven.l5 n (m5 + 1) x0 x1 x24 x25 r47 = (if x25 < x24 then (if x1 = 0 then none else (if 0 ≤ x25 then (if x25 < (↑(List.length r47) : Int) then (if x1 = 0 then none else (if x25 < Int.tmod x0 x1 then (if 0 ≤ x25 then (if x25 < (↑(List.length (List.set r47 (Int.toNat x25) (Go.RowKit.wrap64 (Int.tdiv x0 x1)))) : Int) then (if 0 ≤ x25 then (if x25 < (↑(List.length (List.set r47 (Int.toNat x25) (Go.RowKit.wrap64 (Int.tdiv x0 x1)))) : Int) then impl_SplitEven.l5 n m5 (x0) (x1) (x24) (Go.RowKit.wrap64 (x25 + 1)) (List.set (List.set r47 (Int.toNat x25) (Go.RowKit.wrap64 (Int.tdiv x0 x1))) (Int.toNat x25) (Go.RowKit.wrap64 (List.getD (List.set r47 (Int.toNat x25) (Go.RowKit.wrap64 (Int.tdiv x0 x1))) (Int.toNat x25) 0 + 1))) else none) else none) else none) else none) else impl_SplitEven.l5 n m5 (x0) (x1) (x24) (Go.RowKit.wrap64 (x25 + 1)) (List.set r47 (Int.toNat x25) (Go.RowKit.wrap64 (Int.tdiv x0 x1))))) else none) else none)) else some (r47)) := by kernel_rfl
theorem impl_SplitEven.call : Callable Try.prog 19 := ⟨Try.f19, Try.func19, by kernel_rfl, by kernel_rfl⟩
theorem impl_SplitEven.ok (n : Nat) : FC Try.prog 19 { params := impl_SplitEven.ps, res := impl_SplitEven.res, run := impl_SplitEven n } :=
  evalF_ok (C := impl_SplitEven.C) ⟨tb_ok, fun n _ _ h => tabOk (l := []) (all_nil) h, mixed⟩ impl_SplitEven.A Try.func19 impl_SplitEven.ps impl_SplitEven.res n
end Go.Proofs.YthooakfbpoopaaaG
end
section
open Go Go.Refl Go.Proofs
set_option maxRecDepth 1000000
set_option maxHeartbeats 0
set_option linter.unusedVariables false
namespace Go.Proofs.YthooakfbpoopaaaG
abbrev impl_ExposureOf.ps : List Pm := [.arg (.v (.slice (.pair (.int .i64) (.pair (.int .i64) (.slice (.int .i64)))))), .arg (.v (.int .i64))]
abbrev impl_ExposureOf.res : List M := [(.own (.int .i64) 3)]
noncomputable def impl_ExposureOf.C : Cfg := { tb := tb, tab := fun n f => Refl.look [(44, { params := impl_ValidLoans.ps, res := impl_ValidLoans.res, run := impl_ValidLoans n }), (19, { params := impl_SplitEven.ps, res := impl_SplitEven.res, run := impl_SplitEven n })] f }
noncomputable def impl_ExposureOf.A : Ann := { joins := [], loops := [(5, { live := [5, 16, 17, 18], base := 48 }), (8, { live := [5, 7, 16, 17, 18, 27, 28, 29], base := 48 })], ids := [(1, [(12, [])])], pids := [], nroots := 112 }
noncomputable def impl_ExposureOf (n : Nat) (x : List (Int × Int × List Int) × Int) : Option (List Int) := evalF impl_ExposureOf.C impl_ExposureOf.A Try.f84 impl_ExposureOf.ps impl_ExposureOf.res n x
noncomputable def impl_ExposureOf.K0 (_ : Nat) : Kont (List Int) := finK impl_ExposureOf.C (Func.results Try.f84).toList impl_ExposureOf.ps impl_ExposureOf.res
noncomputable def impl_ExposureOf.K1 (n : Nat) : Kont (List Int) := seqK (fun s' k => evalC impl_ExposureOf.C impl_ExposureOf.A n (codeAt Try.f84 [1, 1, 1, 1]) (cutAt impl_ExposureOf.A.joins (codeAt Try.f84 [1, 1, 1, 1]) s') k) (impl_ExposureOf.K0 n)
noncomputable def impl_ExposureOf.K2 (n : Nat) : Kont (List Int) := blockK 0 (impl_ExposureOf.K1 n)
noncomputable def impl_ExposureOf.K3 (n m5 : Nat) : Kont (List Int) := loopK (cutAt impl_ExposureOf.A.loops (codeAt Try.f84 [1, 1, 1, 0, 1, 0, 0])) (fun s k => evalC impl_ExposureOf.C impl_ExposureOf.A n (codeAt Try.f84 [1, 1, 1, 0, 1, 0, 0]) s k) m5 (impl_ExposureOf.K2 n)
noncomputable def impl_ExposureOf.K4 (n m5 : Nat) : Kont (List Int) := seqK (fun s' k => evalC impl_ExposureOf.C impl_ExposureOf.A n (codeAt Try.f84 [1, 1, 1, 0, 1, 0, 0, 1, 1, 1]) (cutAt impl_ExposureOf.A.joins (codeAt Try.f84 [1, 1, 1, 0, 1, 0, 0, 1, 1, 1]) s') k) (impl_ExposureOf.K3 n m5)
noncomputable def impl_ExposureOf.K5 (n m5 : Nat) : Kont (List Int) := blockK 1 (impl_ExposureOf.K4 n m5)
noncomputable def impl_ExposureOf.K6 (n m5 : Nat) : Kont (List Int) := blockK 2 (impl_ExposureOf.K5 n m5)
noncomputable def impl_ExposureOf.l5 (n m5 : Nat) (x16 : List (Int × Int × List Int)) (x17 : Int) (x18 : Int) (r48 : List Int) : Option (List Int) := loopE (cutAt impl_ExposureOf.A.loops (codeAt Try.f84 [1, 1, 1, 0, 1, 0, 0])) (fun s k => evalC impl_ExposureOf.C impl_ExposureOf.A n (codeAt Try.f84 [1, 1, 1, 0, 1, 0, 0]) s k) m5 (St.of 48 112 [(5, .own 48), (16, .val (.slice (.pair (.int .i64) (.pair (.int .i64) (.slice (.int .i64))))) x16), (17, .val (.int .i64) x17), (18, .val (.int .i64) x18)] [(48, .row (.int .i64) 3 r48)] []) (impl_ExposureOf.K2 n)
noncomputable def impl_ExposureOf.l8 (n m5 m8 : Nat) (x16 : List (Int × Int × List Int)) (x17 : Int) (x18 : Int) (x28 : Int) (x29 : Int) (r48 : List Int) (r49_0 : Int) (r49_1 : Int) (r49_2 : List Int) (r50 : List Int) : Option (List Int) := loopE (cutAt impl_ExposureOf.A.loops (codeAt Try.f84 [1, 1, 1, 0, 1, 0, 0, 1, 1, 0, 0, 1, 1, 0, 0])) (fun s k => evalC impl_ExposureOf.C impl_ExposureOf.A n (codeAt Try.f84 [1, 1, 1, 0, 1, 0, 0, 1, 1, 0, 0, 1, 1, 0, 0]) s k) m8 (St.of 48 112 [(5, .own 48), (7, .ptr 49 0 0), (16, .val (.slice (.pair (.int .i64) (.pair (.int .i64) (.slice (.int .i64))))) x16), (17, .val (.int .i64) x17), (18, .val (.int .i64) x18), (27, .own 50), (28, .val (.int .i64) x28), (29, .val (.int .i64) x29)] [(48, .row (.int .i64) 3 r48), (49, .box 45 [.val (.int .i64) r49_0, .val (.int .i64) r49_1, .val (.slice (.int .i64)) r49_2]), (50, .row (.int .i64) 3 r50)] []) (impl_ExposureOf.K6 n m5)
theorem impl_ExposureOf.eq (n : Nat) (x0 : List (Int × Int × List Int)) (x1 : Int) : impl_ExposureOf n (x0, x1) = ((impl_ValidLoans n (x0, x1)).bind fun y0 => (if (!y0) = true then some ([]) else (if 0 ≤ x1 then (if x1 ≤ x1 then (if x1 ≤ (↑Go.Refl.maxN : Int) then impl_ExposureOf.l5 n n (x0) ((↑(List.length x0) : Int)) (0) (List.replicate (Int.toNat x1) 0) else none) else none) else none))) := by kernel_rfl
theorem impl_ExposureOf.l5_zero (n : Nat) (x16 : List (Int × Int × List Int)) (x17 : Int) (x18 : Int) (r48 : List Int) : impl_ExposureOf.l5 n 0 x16 x17 x18 r48 = none := by kernel_rfl
theorem impl_ExposureOf.l5_succ (n m5 : Nat) (x16 : List (Int × Int × List Int)) (x17 : Int) (x18 : Int) (r48 : List Int) : impl_ExposureOf.l5 n (m5 + 1) x16 x17 x18 r48 = (if x18 < x17 then (if 0 ≤ x18 then (if x18 < (↑(List.length x16) : Int) then ((impl_SplitEven n (Prod.fst (Prod.snd (List.getD x16 (Int.toNat x18) (0, 0, []))), (↑(List.length (Prod.snd (Prod.snd (List.getD x16 (Int.toNat x18) ((0 : Int), (0 : Int), []))))) : Int))).bind fun y1 => impl_ExposureOf.l8 n m5 n (x16) (x17) (x18) ((↑(List.length y1) : Int)) (0) (r48) (Prod.fst (List.getD x16 (Int.toNat x18) (0, 0, []))) (Prod.fst (Prod.snd (List.getD x16 (Int.toNat x18) (0, 0, [])))) (Prod.snd (Prod.snd (List.getD x16 (Int.toNat x18) (0, 0, [])))) (y1)) else none) else none) else some (r48)) := by kernel_rfl
theorem impl_ExposureOf.l8_zero (n m5 : Nat) (x16 : List (Int × Int × List Int)) (x17 : Int) (x18 : Int) (x28 : Int) (x29 : Int) (r48 : List Int) (r49_0 : Int) (r49_1 : Int) (r49_2 : List Int) (r50 : List Int) : impl_ExposureOf.l8 n m5 0 x16 x17 x18 x28 x29 r48 r49_0 r49_1 r49_2 r50 = none := by kernel_rfl
theorem impl_ExposureOf.l8_succ (n m5 m8 : Nat) (x16 : List (Int × Int × List Int)) (x17 : Int) (x18 : Int) (x28 : Int) (x29 : Int) (r48 : List Int) (r49_0 : Int) (r49_1 : Int) (r49_2 : List Int) (r50 : List Int) : impl_ExposureOf.l8 n m5 (m8 + 1) x16 x17 x18 x28 x29 r48 r49_0 r49_1 r49_2 r50 = (if x29 < x28 then (if 0 ≤ x29 then (if x29 < (↑(List.length r50) : Int) then (if 0 ≤ x29 then (if x29 < (↑(List.length r49_2) : Int) then (if 0 ≤ List.getD r49_2 (Int.toNat x29) 0 then (if List.getD r49_2 (Int.toNat x29) 0 < (↑(List.length r48) : Int) then (if 0 ≤ List.getD r49_2 (Int.toNat x29) 0 then (if List.getD r49_2 (Int.toNat x29) 0 < (↑(List.length r48) : Int) then impl_ExposureOf.l8 n m5 m8 (x16) (x17) (x18) (x28) (Go.RowKit.wrap64 (x29 + 1)) (List.set r48 (Int.toNat (List.getD r49_2 (Int.toNat x29) 0)) (Go.RowKit.wrap64 (List.getD r48 (Int.toNat (List.getD r49_2 (Int.toNat x29) 0)) 0 + List.getD r50 (Int.toNat x29) 0))) (r49_0) (r49_1) (r49_2) (r50) else none) else none) else none) else none) else none) else none) else none) else none) else impl_ExposureOf.l5 n m5 (x16) (x17) (Go.RowKit.wrap64 (x18 + 1)) (r48)) := by kernel_rfl
theorem impl_ExposureOf.call : Callable Try.prog 84 := ⟨Try.f84, Try.func84, by kernel_rfl, by kernel_rfl⟩
theorem impl_ExposureOf.ok (n : Nat) : FC Try.prog 84 { params := impl_ExposureOf.ps, res := impl_ExposureOf.res, run := impl_ExposureOf n } :=
  evalF_ok (C := impl_ExposureOf.C) ⟨tb_ok, fun n _ _ h => tabOk (l := [(44, { params := impl_ValidLoans.ps, res := impl_ValidLoans.res, run := impl_ValidLoans n }), (19, { params := impl_SplitEven.ps, res := impl_SplitEven.res, run := impl_SplitEven n })]) (all_cons ⟨impl_ValidLoans.ok n, impl_ValidLoans.call⟩ (all_cons ⟨impl_SplitEven.ok n, impl_SplitEven.call⟩ (all_nil))) h, mixed⟩ impl_ExposureOf.A Try.func84 impl_ExposureOf.ps impl_ExposureOf.res n
end Go.Proofs.YthooakfbpoopaaaG
end
section
open Go Go.Refl Go.Proofs
set_option maxRecDepth 1000000
set_option maxHeartbeats 0
set_option linter.unusedVariables false
namespace Go.Proofs.YthooakfbpoopaaaG
abbrev impl_FreeStakes.ps : List Pm := [.arg (.v (.slice (.int .i64))), .arg (.v (.slice (.pair (.int .i64) (.pair (.int .i64) (.slice (.int .i64))))))]
abbrev impl_FreeStakes.res : List M := [(.own (.int .i64) 3)]
noncomputable def impl_FreeStakes.C : Cfg := { tb := tb, tab := fun n f => Refl.look [(43, { params := impl_validStakes.ps, res := impl_validStakes.res, run := impl_validStakes n }), (84, { params := impl_ExposureOf.ps, res := impl_ExposureOf.res, run := impl_ExposureOf n })] f }
noncomputable def impl_FreeStakes.A : Ann := { joins := [], loops := [(5, { live := [0, 5, 14, 15, 16], base := 32, grow := [(5, 53, (.int .i64), 3)] })], ids := [(1, [(9, [])]), (7, [(28, [])])], pids := [], nroots := 96 }
noncomputable def impl_FreeStakes (n : Nat) (x : List Int × List (Int × Int × List Int)) : Option (List Int) := evalF impl_FreeStakes.C impl_FreeStakes.A Try.f47 impl_FreeStakes.ps impl_FreeStakes.res n x
noncomputable def impl_FreeStakes.K0 (_ : Nat) : Kont (List Int) := finK impl_FreeStakes.C (Func.results Try.f47).toList impl_FreeStakes.ps impl_FreeStakes.res
noncomputable def impl_FreeStakes.K1 (n : Nat) : Kont (List Int) := seqK (fun s' k => evalC impl_FreeStakes.C impl_FreeStakes.A n (codeAt Try.f47 [1, 1, 1, 1]) (cutAt impl_FreeStakes.A.joins (codeAt Try.f47 [1, 1, 1, 1]) s') k) (impl_FreeStakes.K0 n)
noncomputable def impl_FreeStakes.K2 (n : Nat) : Kont (List Int) := blockK 0 (impl_FreeStakes.K1 n)
noncomputable def impl_FreeStakes.l5 (n m5 : Nat) (x0 : List Int) (x15 : Int) (x16 : Int) (r32 : List Int) (r33 : List Int) : Option (List Int) := loopE (cutAt impl_FreeStakes.A.loops (codeAt Try.f47 [1, 1, 1, 0, 1, 0, 0])) (fun s k => evalC impl_FreeStakes.C impl_FreeStakes.A n (codeAt Try.f47 [1, 1, 1, 0, 1, 0, 0]) s k) m5 (St.of 32 96 [(0, .val (.slice (.int .i64)) x0), (5, .own 32), (14, .own 33), (15, .val (.int .i64) x15), (16, .val (.int .i64) x16)] [(32, .row (.int .i64) 3 r32), (33, .row (.int .i64) 3 r33)] []) (impl_FreeStakes.K2 n)
theorem impl_FreeStakes.eq (n : Nat) (x0 : List Int) (x1 : List (Int × Int × List Int)) : impl_FreeStakes n (x0, x1) = ((impl_validStakes n x0).bind fun y0 => (if (!y0) = true then some ([]) else ((impl_ExposureOf n (x1, (↑(List.length x0) : Int))).bind fun y1 => impl_FreeStakes.l5 n n (x0) ((↑(List.length y1) : Int)) (0) ([]) (y1)))) := by kernel_rfl
theorem impl_FreeStakes.l5_zero (n : Nat) (x0 : List Int) (x15 : Int) (x16 : Int) (r32 : List Int) (r33 : List Int) : impl_FreeStakes.l5 n 0 x0 x15 x16 r32 r33 = none := by kernel_rfl
theorem impl_FreeStakes.l5_succ (n m5 : Nat) (x0 : List Int) (x15 : Int) (x16 : Int) (r32 : List Int) (r33 : List Int) : impl_FreeStakes.l5 n (m5 + 1) x0 x15 x16 r32 r33 = (if x16 < x15 then (if 0 ≤ x16 then (if x16 < (↑(List.length r33) : Int) then (if 0 ≤ x16 then (if x16 < (↑(List.length x0) : Int) then (if List.length r32 + List.length (List.set (List.replicate (1 : Nat) (0 : Int)) (0 : Nat) (Go.RowKit.wrap64 (List.getD x0 (Int.toNat x16) (0 : Int) - List.getD r33 (Int.toNat x16) (0 : Int)))) ≤ Go.Refl.maxN then impl_FreeStakes.l5 n m5 (x0) (x15) (Go.RowKit.wrap64 (x16 + 1)) (r32 ++ List.set (List.replicate 1 0) 0 (Go.RowKit.wrap64 (List.getD x0 (Int.toNat x16) 0 - List.getD r33 (Int.toNat x16) 0))) (r33) else none) else none) else none) else none) else none) else some (r32)) := by kernel_rfl
theorem impl_FreeStakes.call : Callable Try.prog 47 := ⟨Try.f47, Try.func47, by kernel_rfl, by kernel_rfl⟩
theorem impl_FreeStakes.ok (n : Nat) : FC Try.prog 47 { params := impl_FreeStakes.ps, res := impl_FreeStakes.res, run := impl_FreeStakes n } :=
  evalF_ok (C := impl_FreeStakes.C) ⟨tb_ok, fun n _ _ h => tabOk (l := [(43, { params := impl_validStakes.ps, res := impl_validStakes.res, run := impl_validStakes n }), (84, { params := impl_ExposureOf.ps, res := impl_ExposureOf.res, run := impl_ExposureOf n })]) (all_cons ⟨impl_validStakes.ok n, impl_validStakes.call⟩ (all_cons ⟨impl_ExposureOf.ok n, impl_ExposureOf.call⟩ (all_nil))) h, mixed⟩ impl_FreeStakes.A Try.func47 impl_FreeStakes.ps impl_FreeStakes.res n
end Go.Proofs.YthooakfbpoopaaaG
end
section
open Go Go.Refl Go.Proofs
set_option maxRecDepth 1000000
set_option maxHeartbeats 0
set_option linter.unusedVariables false
namespace Go.Proofs.YthooakfbpoopaaaG
abbrev slices_Min_int.ps : List Pm := [.arg (.v (.slice (.int .i64)))]
abbrev slices_Min_int.res : List M := [.v (.int .i64)]
noncomputable def slices_Min_int.C : Cfg := { tb := tb, tab := fun n f => Refl.look [] f }
noncomputable def slices_Min_int.A : Ann := { joins := [], loops := [(5, { live := [0, 3, 4], base := 25 })], ids := [], pids := [], nroots := 89 }
noncomputable def slices_Min_int (n : Nat) (x : List Int) : Option (Int) := evalF slices_Min_int.C slices_Min_int.A Try.f48 slices_Min_int.ps slices_Min_int.res n x
noncomputable def slices_Min_int.K0 (_ : Nat) : Kont (Int) := finK slices_Min_int.C (Func.results Try.f48).toList slices_Min_int.ps slices_Min_int.res
noncomputable def slices_Min_int.K1 (n : Nat) : Kont (Int) := seqK (fun s' k => evalC slices_Min_int.C slices_Min_int.A n (codeAt Try.f48 [1, 1, 1, 1]) (cutAt slices_Min_int.A.joins (codeAt Try.f48 [1, 1, 1, 1]) s') k) (slices_Min_int.K0 n)
noncomputable def slices_Min_int.K2 (n : Nat) : Kont (Int) := blockK 0 (slices_Min_int.K1 n)
noncomputable def slices_Min_int.l5 (n m5 : Nat) (x0 : List Int) (x3 : Int) (x4 : Int) : Option (Int) := loopE (cutAt slices_Min_int.A.loops (codeAt Try.f48 [1, 1, 1, 0, 1, 0, 0])) (fun s k => evalC slices_Min_int.C slices_Min_int.A n (codeAt Try.f48 [1, 1, 1, 0, 1, 0, 0]) s k) m5 (St.of 25 89 [(0, .val (.slice (.int .i64)) x0), (3, .val (.int .i64) x3), (4, .val (.int .i64) x4)] [] []) (slices_Min_int.K2 n)
theorem slices_Min_int.eq (n : Nat) (x0 : List Int) : slices_Min_int n x0 = (if (↑(List.length x0) : Int) < 1 then none else (if 0 < (↑(List.length x0) : Int) then slices_Min_int.l5 n n (x0) (List.getD x0 0 0) (1) else none)) := by kernel_rfl
theorem slices_Min_int.l5_zero (n : Nat) (x0 : List Int) (x3 : Int) (x4 : Int) : slices_Min_int.l5 n 0 x0 x3 x4 = none := by kernel_rfl
theorem slices_Min_int.l5_succ (n m5 : Nat) (x0 : List Int) (x3 : Int) (x4 : Int) : slices_Min_int.l5 n (m5 + 1) x0 x3 x4 = (if x4 < (↑(List.length x0) : Int) then (if 0 ≤ x4 then (if x4 < (↑(List.length x0) : Int) then slices_Min_int.l5 n m5 (x0) (Go.Refl.mn x3 (List.getD x0 (Int.toNat x4) 0)) (Go.RowKit.wrap64 (x4 + 1)) else none) else none) else some (x3)) := by kernel_rfl
theorem slices_Min_int.call : Callable Try.prog 48 := ⟨Try.f48, Try.func48, by kernel_rfl, by kernel_rfl⟩
theorem slices_Min_int.ok (n : Nat) : FC Try.prog 48 { params := slices_Min_int.ps, res := slices_Min_int.res, run := slices_Min_int n } :=
  evalF_ok (C := slices_Min_int.C) ⟨tb_ok, fun n _ _ h => tabOk (l := []) (all_nil) h, mixed⟩ slices_Min_int.A Try.func48 slices_Min_int.ps slices_Min_int.res n
end Go.Proofs.YthooakfbpoopaaaG
end
section
open Go Go.Refl Go.Proofs
set_option maxRecDepth 1000000
set_option maxHeartbeats 0
set_option linter.unusedVariables false
namespace Go.Proofs.YthooakfbpoopaaaG
abbrev impl_SafeLoans.ps : List Pm := [.arg (.v (.slice (.int .i64))), .arg (.v (.slice (.pair (.int .i64) (.pair (.int .i64) (.slice (.int .i64))))))]
abbrev impl_SafeLoans.res : List M := [.v .bool]
noncomputable def impl_SafeLoans.C : Cfg := { tb := tb, tab := fun n f => Refl.look [(47, { params := impl_FreeStakes.ps, res := impl_FreeStakes.res, run := impl_FreeStakes n }), (48, { params := slices_Min_int.ps, res := slices_Min_int.res, run := slices_Min_int n })] f }
noncomputable def impl_SafeLoans.A : Ann := { joins := [], loops := [], ids := [(2, [(14, [])])], pids := [], nroots := 81 }
noncomputable def impl_SafeLoans (n : Nat) (x : List Int × List (Int × Int × List Int)) : Option (Bool) := evalF impl_SafeLoans.C impl_SafeLoans.A Try.f17 impl_SafeLoans.ps impl_SafeLoans.res n x
noncomputable def impl_SafeLoans.K0 (_ : Nat) : Kont (Bool) := finK impl_SafeLoans.C (Func.results Try.f17).toList impl_SafeLoans.ps impl_SafeLoans.res
theorem impl_SafeLoans.eq (n : Nat) (x0 : List Int) (x1 : List (Int × Int × List Int)) : impl_SafeLoans n (x0, x1) = ((impl_FreeStakes n (x0, x1)).bind fun y0 => (if (↑(List.length y0) : Int) > 0 then ((slices_Min_int n y0).bind fun y1 => some (Decidable.decide (y1 ≥ 0))) else some (Bool.false))) := by kernel_rfl
theorem impl_SafeLoans.call : Callable Try.prog 17 := ⟨Try.f17, Try.func17, by kernel_rfl, by kernel_rfl⟩
theorem impl_SafeLoans.ok (n : Nat) : FC Try.prog 17 { params := impl_SafeLoans.ps, res := impl_SafeLoans.res, run := impl_SafeLoans n } :=
  evalF_ok (C := impl_SafeLoans.C) ⟨tb_ok, fun n _ _ h => tabOk (l := [(47, { params := impl_FreeStakes.ps, res := impl_FreeStakes.res, run := impl_FreeStakes n }), (48, { params := slices_Min_int.ps, res := slices_Min_int.res, run := slices_Min_int n })]) (all_cons ⟨impl_FreeStakes.ok n, impl_FreeStakes.call⟩ (all_cons ⟨slices_Min_int.ok n, slices_Min_int.call⟩ (all_nil))) h, mixed⟩ impl_SafeLoans.A Try.func17 impl_SafeLoans.ps impl_SafeLoans.res n
end Go.Proofs.YthooakfbpoopaaaG
end
section
open Go Go.Refl Go.Proofs
set_option maxRecDepth 1000000
set_option maxHeartbeats 0
set_option linter.unusedVariables false
namespace Go.Proofs.YthooakfbpoopaaaG
abbrev impl_Club_lend.ps : List Pm := [.box 26 (.pr (.own (.int .i64) 3) (.pr (.own (.pair (.int .i64) (.pair (.int .i64) (.slice (.int .i64)))) 45) (.v (.pair (.int .i64) (.pair (.int .i64) (.int .i64)))))), .arg (.v (.pair (.int .i64) (.pair (.int .i64) (.pair (.int .i64) (.pair (.int .i64) (.pair (.slice (.int .i64)) (.pair (.int .i64) (.int .i64))))))))]
abbrev impl_Club_lend.res : List M := [.v .bool]
noncomputable def impl_Club_lend.C : Cfg := { tb := tb, tab := fun n f => Refl.look [(49, { params := slices_Clone_int.ps, res := [.v (.slice (.int .i64))], run := slices_Clone_int n }), (17, { params := impl_SafeLoans.ps, res := impl_SafeLoans.res, run := impl_SafeLoans n })] f }
noncomputable def impl_Club_lend.A : Ann := { joins := [], loops := [], ids := [(1, [(16, []), (18, [])]), (2, [(30, [])])], pids := [(0, [97, 98])], nroots := 105 }
noncomputable def impl_Club_lend (n : Nat) (x : (List Int × List (Int × Int × List Int) × Int × Int × Int) × Int × Int × Int × Int × List Int × Int × Int) : Option (Bool × List Int × List (Int × Int × List Int) × Int × Int × Int) := evalF impl_Club_lend.C impl_Club_lend.A Try.f69 impl_Club_lend.ps impl_Club_lend.res n x
noncomputable def impl_Club_lend.K0 (_ : Nat) : Kont (Bool × List Int × List (Int × Int × List Int) × Int × Int × Int) := finK impl_Club_lend.C (Func.results Try.f69).toList impl_Club_lend.ps impl_Club_lend.res
theorem impl_Club_lend.eq (n : Nat) (x0 : List Int × List (Int × Int × List Int) × Int × Int × Int) (x1 : Int × Int × Int × Int × List Int × Int × Int) : impl_Club_lend n (x0, x1) = ((slices_Clone_int n (Prod.fst (Prod.snd (Prod.snd (Prod.snd (Prod.snd x1)))))).bind fun y0 => (if List.length (Prod.fst (Prod.snd x0)) + List.length (List.set (List.replicate (1 : Nat) ((0 : Int), (0 : Int), [])) (0 : Nat) (Prod.fst (Prod.snd x1), Prod.fst (Prod.snd (Prod.snd x1)), y0)) ≤ Go.Refl.maxN then ((impl_SafeLoans n (Prod.fst x0, Prod.fst (Prod.snd x0) ++ List.set (List.replicate 1 (0, 0, [])) 0 (Prod.fst (Prod.snd x1), Prod.fst (Prod.snd (Prod.snd x1)), y0))).bind fun y1 => (if (!y1) = true then some ((Bool.false, Prod.fst x0, Prod.fst (Prod.snd x0) ++ List.set (List.replicate 1 (0, 0, [])) 0 (Prod.fst (Prod.snd x1), Prod.fst (Prod.snd (Prod.snd x1)), y0), Prod.fst (Prod.snd (Prod.snd x0)), Prod.fst (Prod.snd (Prod.snd (Prod.snd x0))), Prod.snd (Prod.snd (Prod.snd (Prod.snd x0))))) else some ((Bool.true, Prod.fst x0, Prod.fst (Prod.snd x0) ++ List.set (List.replicate 1 (0, 0, [])) 0 (Prod.fst (Prod.snd x1), Prod.fst (Prod.snd (Prod.snd x1)), y0), Go.RowKit.wrap64 (Prod.fst (Prod.snd (Prod.snd x0)) - Prod.fst (Prod.snd (Prod.snd x1))), Prod.fst (Prod.snd (Prod.snd (Prod.snd x0))), Prod.snd (Prod.snd (Prod.snd (Prod.snd x0))))))) else none)) := by kernel_rfl
theorem impl_Club_lend.call : Callable Try.prog 69 := ⟨Try.f69, Try.func69, by kernel_rfl, by kernel_rfl⟩
theorem impl_Club_lend.ok (n : Nat) : FC Try.prog 69 { params := impl_Club_lend.ps, res := impl_Club_lend.res, run := impl_Club_lend n } :=
  evalF_ok (C := impl_Club_lend.C) ⟨tb_ok, fun n _ _ h => tabOk (l := [(49, { params := slices_Clone_int.ps, res := [.v (.slice (.int .i64))], run := slices_Clone_int n }), (17, { params := impl_SafeLoans.ps, res := impl_SafeLoans.res, run := impl_SafeLoans n })]) (all_cons ⟨FC.weak (.cons (.own _ _) .nil) HEq.rfl (slices_Clone_int.ok n), slices_Clone_int.call⟩ (all_cons ⟨impl_SafeLoans.ok n, impl_SafeLoans.call⟩ (all_nil))) h, mixed⟩ impl_Club_lend.A Try.func69 impl_Club_lend.ps impl_Club_lend.res n
end Go.Proofs.YthooakfbpoopaaaG
end
section
open Go Go.Refl Go.Proofs
set_option maxRecDepth 1000000
set_option maxHeartbeats 0
set_option linter.unusedVariables false
namespace Go.Proofs.YthooakfbpoopaaaG
abbrev slices_Delete_Loan.ps : List Pm := [.arg (.own (.pair (.int .i64) (.pair (.int .i64) (.slice (.int .i64)))) 45), .arg (.v (.int .i64)), .arg (.v (.int .i64))]
abbrev slices_Delete_Loan.res : List M := [(.own (.pair (.int .i64) (.pair (.int .i64) (.slice (.int .i64)))) 45)]
noncomputable def slices_Delete_Loan.C : Cfg := { tb := tb, tab := fun n f => Refl.look [] f }
noncomputable def slices_Delete_Loan.A : Ann := { joins := [], loops := [], ids := [(5, [(26, [])])], pids := [], nroots := 97 }
noncomputable def slices_Delete_Loan (n : Nat) (x : List (Int × Int × List Int) × Int × Int) : Option (List (Int × Int × List Int)) := evalF slices_Delete_Loan.C slices_Delete_Loan.A Try.f106 slices_Delete_Loan.ps slices_Delete_Loan.res n x
noncomputable def slices_Delete_Loan.K0 (_ : Nat) : Kont (List (Int × Int × List Int)) := finK slices_Delete_Loan.C (Func.results Try.f106).toList slices_Delete_Loan.ps slices_Delete_Loan.res
theorem slices_Delete_Loan.eq (n : Nat) (x0 : List (Int × Int × List Int)) (x1 : Int) (x2 : Int) : slices_Delete_Loan n (x0, x1, x2) = (if 0 ≤ x1 then (if x1 ≤ x2 then (if x2 ≤ (↑(List.length x0) : Int) then (if (↑(List.length x0) : Int) ≤ (↑(List.length x0) : Int) then (if x1 = x2 then some (x0) else (if 0 ≤ x1 then (if x1 ≤ (↑(List.length x0) : Int) then (if 0 ≤ x2 then (if x2 ≤ (↑(List.length x0) : Int) then (if 0 < List.length x0 then (if Int.toNat x1 - 0 + List.length (List.take (List.length x0 - Int.toNat x2) (List.drop (Int.toNat x2) x0)) ≤ List.length x0 then (if 0 ≤ (↑(Int.toNat x1 - 0 + List.length (List.take (List.length x0 - Int.toNat x2) (List.drop (Int.toNat x2) x0))) : Int) then (if (↑(Int.toNat x1 - 0 + List.length (List.take (List.length x0 - Int.toNat x2) (List.drop (Int.toNat x2) x0))) : Int) ≤ (↑(List.length x0) : Int) then (if (↑(List.length x0) : Int) ≤ (↑(List.length (List.take (Int.toNat x1 - (0 : Nat)) x0 ++ List.take (List.length x0 - Int.toNat x2) (List.drop (Int.toNat x2) x0) ++ List.drop (Int.toNat x1 - (0 : Nat) + List.length (List.take (List.length x0 - Int.toNat x2) (List.drop (Int.toNat x2) x0))) x0) - 0) : Int) then some (List.take (Int.toNat x1 - 0 + List.length (List.take (List.length x0 - Int.toNat x2) (List.drop (Int.toNat x2) x0))) (List.take (0 + Int.toNat (↑(Int.toNat x1 - 0 + List.length (List.take (List.length x0 - Int.toNat x2) (List.drop (Int.toNat x2) x0))) : Int)) (List.take (Int.toNat x1 - 0) x0 ++ List.take (List.length x0 - Int.toNat x2) (List.drop (Int.toNat x2) x0) ++ List.drop (Int.toNat x1 - 0 + List.length (List.take (List.length x0 - Int.toNat x2) (List.drop (Int.toNat x2) x0))) x0) ++ List.replicate (Int.toNat (↑(List.length x0) : Int) - Int.toNat (↑(Int.toNat x1 - 0 + List.length (List.take (List.length x0 - Int.toNat x2) (List.drop (Int.toNat x2) x0))) : Int)) (0, 0, []) ++ List.drop (0 + Int.toNat (↑(Int.toNat x1 - 0 + List.length (List.take (List.length x0 - Int.toNat x2) (List.drop (Int.toNat x2) x0))) : Int) + (Int.toNat (↑(List.length x0) : Int) - Int.toNat (↑(Int.toNat x1 - 0 + List.length (List.take (List.length x0 - Int.toNat x2) (List.drop (Int.toNat x2) x0))) : Int))) (List.take (Int.toNat x1 - 0) x0 ++ List.take (List.length x0 - Int.toNat x2) (List.drop (Int.toNat x2) x0) ++ List.drop (Int.toNat x1 - 0 + List.length (List.take (List.length x0 - Int.toNat x2) (List.drop (Int.toNat x2) x0))) x0))) else none) else none) else none) else none) else none) else none) else none) else none) else none)) else none) else none) else none) else none) := by kernel_rfl
theorem slices_Delete_Loan.call : Callable Try.prog 106 := ⟨Try.f106, Try.func106, by kernel_rfl, by kernel_rfl⟩
theorem slices_Delete_Loan.ok (n : Nat) : FC Try.prog 106 { params := slices_Delete_Loan.ps, res := slices_Delete_Loan.res, run := slices_Delete_Loan n } :=
  evalF_ok (C := slices_Delete_Loan.C) ⟨tb_ok, fun n _ _ h => tabOk (l := []) (all_nil) h, mixed⟩ slices_Delete_Loan.A Try.func106 slices_Delete_Loan.ps slices_Delete_Loan.res n
end Go.Proofs.YthooakfbpoopaaaG
end
section
open Go Go.Refl Go.Proofs
set_option maxRecDepth 1000000
set_option maxHeartbeats 0
set_option linter.unusedVariables false
namespace Go.Proofs.YthooakfbpoopaaaG
abbrev impl_PayLoan.ps : List Pm := [.arg (.v (.slice (.pair (.int .i64) (.pair (.int .i64) (.slice (.int .i64)))))), .arg (.v (.int .i64)), .arg (.v (.int .i64)), .arg (.v (.int .i64))]
abbrev impl_PayLoan.res : List M := [(.own (.pair (.int .i64) (.pair (.int .i64) (.slice (.int .i64)))) 45)]
noncomputable def impl_PayLoan.C : Cfg := { tb := tb, tab := fun n f => Refl.look [(44, { params := impl_ValidLoans.ps, res := impl_ValidLoans.res, run := impl_ValidLoans n }), (67, { params := impl_copyLoans.ps, res := impl_copyLoans.res, run := impl_copyLoans n }), (106, { params := slices_Delete_Loan.ps, res := slices_Delete_Loan.res, run := slices_Delete_Loan n })] f }
noncomputable def impl_PayLoan.A : Ann := { joins := [], loops := [], ids := [(1, [(12, [])])], pids := [], nroots := 124 }
noncomputable def impl_PayLoan (n : Nat) (x : List (Int × Int × List Int) × Int × Int × Int) : Option (List (Int × Int × List Int)) := evalF impl_PayLoan.C impl_PayLoan.A Try.f94 impl_PayLoan.ps impl_PayLoan.res n x
noncomputable def impl_PayLoan.K0 (_ : Nat) : Kont (List (Int × Int × List Int)) := finK impl_PayLoan.C (Func.results Try.f94).toList impl_PayLoan.ps impl_PayLoan.res
theorem impl_PayLoan.eq (n : Nat) (x0 : List (Int × Int × List Int)) (x1 : Int) (x2 : Int) (x3 : Int) : impl_PayLoan n (x0, x1, x2, x3) = ((impl_ValidLoans n (x0, x1)).bind fun y0 => (if (!y0) = Bool.true then some ([]) else (if x2 < 0 then some ([]) else (if x2 ≥ (↑(List.length x0) : Int) then some ([]) else (if x3 < 1 then some ([]) else (if 0 ≤ x2 then (if x2 < (↑(List.length x0) : Int) then (if x3 > Prod.fst (Prod.snd (List.getD x0 (Int.toNat x2) (0, 0, []))) then some ([]) else ((impl_copyLoans n x0).bind fun y1 => (if 0 ≤ x2 then (if x2 < (↑(List.length y1) : Int) then (if 0 ≤ x2 then (if x2 < (↑(List.length y1) : Int) then (if 0 ≤ x2 then (if x2 < (↑(List.length (List.set y1 (Int.toNat x2) (Prod.fst (List.getD y1 (Int.toNat x2) ((0 : Int), (0 : Int), [])), Go.RowKit.wrap64 (Prod.fst (Prod.snd (List.getD y1 (Int.toNat x2) ((0 : Int), (0 : Int), []))) - x3), Prod.snd (Prod.snd (List.getD y1 (Int.toNat x2) ((0 : Int), (0 : Int), [])))))) : Int) then (if Prod.fst (Prod.snd (List.getD (List.set y1 (Int.toNat x2) (Prod.fst (List.getD y1 (Int.toNat x2) (0, 0, [])), Go.RowKit.wrap64 (Prod.fst (Prod.snd (List.getD y1 (Int.toNat x2) (0, 0, []))) - x3), Prod.snd (Prod.snd (List.getD y1 (Int.toNat x2) (0, 0, []))))) (Int.toNat x2) (0, 0, []))) = 0 then ((slices_Delete_Loan n (List.set y1 (Int.toNat x2) (Prod.fst (List.getD y1 (Int.toNat x2) (0, 0, [])), Go.RowKit.wrap64 (Prod.fst (Prod.snd (List.getD y1 (Int.toNat x2) (0, 0, []))) - x3), Prod.snd (Prod.snd (List.getD y1 (Int.toNat x2) (0, 0, [])))), x2, Go.RowKit.wrap64 (x2 + 1))).bind fun y2 => some (y2)) else some (List.set y1 (Int.toNat x2) (Prod.fst (List.getD y1 (Int.toNat x2) (0, 0, [])), Go.RowKit.wrap64 (Prod.fst (Prod.snd (List.getD y1 (Int.toNat x2) (0, 0, []))) - x3), Prod.snd (Prod.snd (List.getD y1 (Int.toNat x2) (0, 0, [])))))) else none) else none) else none) else none) else none) else none))) else none) else none)))))) := by kernel_rfl
theorem impl_PayLoan.call : Callable Try.prog 94 := ⟨Try.f94, Try.func94, by kernel_rfl, by kernel_rfl⟩
theorem impl_PayLoan.ok (n : Nat) : FC Try.prog 94 { params := impl_PayLoan.ps, res := impl_PayLoan.res, run := impl_PayLoan n } :=
  evalF_ok (C := impl_PayLoan.C) ⟨tb_ok, fun n _ _ h => tabOk (l := [(44, { params := impl_ValidLoans.ps, res := impl_ValidLoans.res, run := impl_ValidLoans n }), (67, { params := impl_copyLoans.ps, res := impl_copyLoans.res, run := impl_copyLoans n }), (106, { params := slices_Delete_Loan.ps, res := slices_Delete_Loan.res, run := slices_Delete_Loan n })]) (all_cons ⟨impl_ValidLoans.ok n, impl_ValidLoans.call⟩ (all_cons ⟨impl_copyLoans.ok n, impl_copyLoans.call⟩ (all_cons ⟨slices_Delete_Loan.ok n, slices_Delete_Loan.call⟩ (all_nil)))) h, mixed⟩ impl_PayLoan.A Try.func94 impl_PayLoan.ps impl_PayLoan.res n
end Go.Proofs.YthooakfbpoopaaaG
end
section
open Go Go.Refl Go.Proofs
set_option maxRecDepth 1000000
set_option maxHeartbeats 0
set_option linter.unusedVariables false
namespace Go.Proofs.YthooakfbpoopaaaG
abbrev impl_Club_repay.ps : List Pm := [.box 26 (.pr (.own (.int .i64) 3) (.pr (.own (.pair (.int .i64) (.pair (.int .i64) (.slice (.int .i64)))) 45) (.v (.pair (.int .i64) (.pair (.int .i64) (.int .i64)))))), .arg (.v (.pair (.int .i64) (.pair (.int .i64) (.pair (.int .i64) (.pair (.int .i64) (.pair (.slice (.int .i64)) (.pair (.int .i64) (.int .i64))))))))]
abbrev impl_Club_repay.res : List M := [.v .bool]
noncomputable def impl_Club_repay.C : Cfg := { tb := tb, tab := fun n f => Refl.look [(94, { params := impl_PayLoan.ps, res := impl_PayLoan.res, run := impl_PayLoan n })] f }
noncomputable def impl_Club_repay.A : Ann := { joins := [], loops := [], ids := [], pids := [(0, [139, 140])], nroots := 147 }
noncomputable def impl_Club_repay (n : Nat) (x : (List Int × List (Int × Int × List Int) × Int × Int × Int) × Int × Int × Int × Int × List Int × Int × Int) : Option (Bool × List Int × List (Int × Int × List Int) × Int × Int × Int) := evalF impl_Club_repay.C impl_Club_repay.A Try.f70 impl_Club_repay.ps impl_Club_repay.res n x
noncomputable def impl_Club_repay.K0 (_ : Nat) : Kont (Bool × List Int × List (Int × Int × List Int) × Int × Int × Int) := finK impl_Club_repay.C (Func.results Try.f70).toList impl_Club_repay.ps impl_Club_repay.res
theorem impl_Club_repay.eq (n : Nat) (x0 : List Int × List (Int × Int × List Int) × Int × Int × Int) (x1 : Int × Int × Int × Int × List Int × Int × Int) : impl_Club_repay n (x0, x1) = (if Prod.fst (Prod.snd x1) < 0 then some ((Bool.false, Prod.fst x0, Prod.fst (Prod.snd x0), Prod.fst (Prod.snd (Prod.snd x0)), Prod.fst (Prod.snd (Prod.snd (Prod.snd x0))), Prod.snd (Prod.snd (Prod.snd (Prod.snd x0))))) else (if Prod.fst (Prod.snd x1) ≥ (↑(List.length (Prod.fst (Prod.snd x0))) : Int) then some ((Bool.false, Prod.fst x0, Prod.fst (Prod.snd x0), Prod.fst (Prod.snd (Prod.snd x0)), Prod.fst (Prod.snd (Prod.snd (Prod.snd x0))), Prod.snd (Prod.snd (Prod.snd (Prod.snd x0))))) else (if Prod.fst (Prod.snd (Prod.snd (Prod.snd x1))) < 0 then some ((Bool.false, Prod.fst x0, Prod.fst (Prod.snd x0), Prod.fst (Prod.snd (Prod.snd x0)), Prod.fst (Prod.snd (Prod.snd (Prod.snd x0))), Prod.snd (Prod.snd (Prod.snd (Prod.snd x0))))) else (if Prod.fst (Prod.snd (Prod.snd (Prod.snd x1))) > 100000 then some ((Bool.false, Prod.fst x0, Prod.fst (Prod.snd x0), Prod.fst (Prod.snd (Prod.snd x0)), Prod.fst (Prod.snd (Prod.snd (Prod.snd x0))), Prod.snd (Prod.snd (Prod.snd (Prod.snd x0))))) else (if Prod.fst (Prod.snd (Prod.snd x1)) < 1 then some ((Bool.false, Prod.fst x0, Prod.fst (Prod.snd x0), Prod.fst (Prod.snd (Prod.snd x0)), Prod.fst (Prod.snd (Prod.snd (Prod.snd x0))), Prod.snd (Prod.snd (Prod.snd (Prod.snd x0))))) else (if 0 ≤ Prod.fst (Prod.snd x1) then (if Prod.fst (Prod.snd x1) < (↑(List.length (Prod.fst (Prod.snd x0))) : Int) then (if Prod.fst (Prod.snd (Prod.snd x1)) > Prod.fst (Prod.snd (List.getD (Prod.fst (Prod.snd x0)) (Int.toNat (Prod.fst (Prod.snd x1))) (0, 0, []))) then some ((Bool.false, Prod.fst x0, Prod.fst (Prod.snd x0), Prod.fst (Prod.snd (Prod.snd x0)), Prod.fst (Prod.snd (Prod.snd (Prod.snd x0))), Prod.snd (Prod.snd (Prod.snd (Prod.snd x0))))) else ((impl_PayLoan n (Prod.fst (Prod.snd x0), (↑(List.length (Prod.fst x0)) : Int), Prod.fst (Prod.snd x1), Prod.fst (Prod.snd (Prod.snd x1)))).bind fun y0 => some ((Bool.true, Prod.fst x0, y0, Go.RowKit.wrap64 (Prod.fst (Prod.snd (Prod.snd x0)) + Go.RowKit.wrap64 (Prod.fst (Prod.snd (Prod.snd x1)) + Prod.fst (Prod.snd (Prod.snd (Prod.snd x1))))), Go.RowKit.wrap64 (Prod.fst (Prod.snd (Prod.snd (Prod.snd x0))) + Prod.fst (Prod.snd (Prod.snd (Prod.snd x1)))), Prod.snd (Prod.snd (Prod.snd (Prod.snd x0))))))) else none) else none)))))) := by kernel_rfl
theorem impl_Club_repay.call : Callable Try.prog 70 := ⟨Try.f70, Try.func70, by kernel_rfl, by kernel_rfl⟩
theorem impl_Club_repay.ok (n : Nat) : FC Try.prog 70 { params := impl_Club_repay.ps, res := impl_Club_repay.res, run := impl_Club_repay n } :=
  evalF_ok (C := impl_Club_repay.C) ⟨tb_ok, fun n _ _ h => tabOk (l := [(94, { params := impl_PayLoan.ps, res := impl_PayLoan.res, run := impl_PayLoan n })]) (all_cons ⟨impl_PayLoan.ok n, impl_PayLoan.call⟩ (all_nil)) h, mixed⟩ impl_Club_repay.A Try.func70 impl_Club_repay.ps impl_Club_repay.res n
end Go.Proofs.YthooakfbpoopaaaG
end
section
open Go Go.Refl Go.Proofs
set_option maxRecDepth 1000000
set_option maxHeartbeats 0
set_option linter.unusedVariables false
namespace Go.Proofs.YthooakfbpoopaaaG
abbrev impl_takeFrom.ps : List Pm := [.inout (.int .i64) 3, .arg (.v (.int .i64)), .arg (.v (.int .i64))]
abbrev impl_takeFrom.res : List M := [.v (.int .i64)]
noncomputable def impl_takeFrom.C : Cfg := { tb := tb, tab := fun n f => Refl.look [] f }
noncomputable def impl_takeFrom.A : Ann := { joins := [], loops := [], ids := [], pids := [], nroots := 88 }
noncomputable def impl_takeFrom (n : Nat) (x : List Int × Int × Int) : Option (Int × List Int) := evalF impl_takeFrom.C impl_takeFrom.A Try.f85 impl_takeFrom.ps impl_takeFrom.res n x
noncomputable def impl_takeFrom.K0 (_ : Nat) : Kont (Int × List Int) := finK impl_takeFrom.C (Func.results Try.f85).toList impl_takeFrom.ps impl_takeFrom.res
theorem impl_takeFrom.eq (n : Nat) (x0 : List Int) (x1 : Int) (x2 : Int) : impl_takeFrom n (x0, x1, x2) = (if 0 ≤ x1 then (if x1 < (↑(List.length x0) : Int) then (if 0 ≤ x1 then (if x1 < (↑(List.length x0) : Int) then (if 0 ≤ x1 then (if x1 < (↑(List.length x0) : Int) then some ((Go.RowKit.wrap64 (x2 - Go.Refl.mn (List.getD x0 (Int.toNat x1) 0) x2), List.set x0 (Int.toNat x1) (Go.RowKit.wrap64 (List.getD x0 (Int.toNat x1) 0 - Go.Refl.mn (List.getD x0 (Int.toNat x1) 0) x2)))) else none) else none) else none) else none) else none) else none) := by kernel_rfl
theorem impl_takeFrom.call : Callable Try.prog 85 := ⟨Try.f85, Try.func85, by kernel_rfl, by kernel_rfl⟩
theorem impl_takeFrom.ok (n : Nat) : FC Try.prog 85 { params := impl_takeFrom.ps, res := impl_takeFrom.res, run := impl_takeFrom n } :=
  evalF_ok (C := impl_takeFrom.C) ⟨tb_ok, fun n _ _ h => tabOk (l := []) (all_nil) h, mixed⟩ impl_takeFrom.A Try.func85 impl_takeFrom.ps impl_takeFrom.res n
end Go.Proofs.YthooakfbpoopaaaG
end
