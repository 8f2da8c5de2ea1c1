import Derived.Test.YtifohlgdkdcpeaaDoorProg
import Derived.Test.YtifohlgdkdcpeaaDoorB2
/- FnReadMoney: functions, gone through by the small machine. No condition. -/
set_option linter.unusedVariables false
set_option linter.unusedSimpArgs false
section
set_option linter.unusedVariables false
namespace Go.Proofs
open Go Go.Shelf Go.RowKit Go.Refl
def Tryd.laysM171_ren : Go.Shelf.Ren := ⟨fun | 171 => 14 | 243 => 18 | 246 => 19 | 283 => 20 | 284 => 21 | 285 => 22 | 286 => 23 | 129 => 25 | 317 => 24 | 318 => 26 | 319 => 27 | 320 => 28 | 337 => 29 | 338 => 30 | n => n, fun | 3 => 3 | 9 => 9 | 2 => 2 | 4 => 4 | 171 => 39 | 0 => 0 | 53 => 40 | 37 => 22 | 5 => 5 | 173 => 43 | 212 => 46 | 51 => 47 | 20 => 20 | 213 => 48 | 46 => 50 | 232 => 53 | 233 => 54 | n => n, fun | 17 => 0 | 18 => 1 | 19 => 2 | n => n⟩
theorem Tryd.laysM171 : Go.Proofs.LaysM.n171 Tryd.prog Tryd.laysM171_ren := {
  mixed := by kernel_rfl
  f129 := Tryd.func25.trans (congrArg some (by kernel_rfl))
  f171 := Tryd.func14.trans (congrArg some (by kernel_rfl))
  f243 := Tryd.func18.trans (congrArg some (by kernel_rfl))
  f246 := Tryd.func19.trans (congrArg some (by kernel_rfl))
  f283 := Tryd.func20.trans (congrArg some (by kernel_rfl))
  f284 := Tryd.func21.trans (congrArg some (by kernel_rfl))
  f285 := Tryd.func22.trans (congrArg some (by kernel_rfl))
  f286 := Tryd.func23.trans (congrArg some (by kernel_rfl))
  f317 := Tryd.func24.trans (congrArg some (by kernel_rfl))
  f318 := Tryd.func26.trans (congrArg some (by kernel_rfl))
  f319 := Tryd.func27.trans (congrArg some (by kernel_rfl))
  f320 := Tryd.func28.trans (congrArg some (by kernel_rfl))
  f337 := Tryd.func29.trans (congrArg some (by kernel_rfl))
  f338 := Tryd.func30.trans (congrArg some (by kernel_rfl))
  t0 := Tryd.underlying0
  a0 := Tryd.isAgg0
  z0 := Tryd.sizeOf0
  v0 := Tryd.zeroValue0
  t2 := Tryd.underlying2
  a2 := Tryd.isAgg2
  z2 := Tryd.sizeOf2
  v2 := Tryd.zeroValue2
  t3 := Tryd.underlying3
  a3 := Tryd.isAgg3
  z3 := Tryd.sizeOf3
  v3 := Tryd.zeroValue3
  t4 := Tryd.underlying4
  a4 := Tryd.isAgg4
  z4 := Tryd.sizeOf4
  v4 := Tryd.zeroValue4
  t5 := Tryd.underlying5
  a5 := Tryd.isAgg5
  z5 := Tryd.sizeOf5
  v5 := Tryd.zeroValue5
  t9 := Tryd.underlying9
  a9 := Tryd.isAgg9
  z9 := Tryd.sizeOf9
  v9 := Tryd.zeroValue9
  t20 := Tryd.underlying20
  a20 := Tryd.isAgg20
  z20 := Tryd.sizeOf20
  v20 := Tryd.zeroValue20
  t37 := Tryd.underlying22
  a37 := Tryd.isAgg22
  z37 := Tryd.sizeOf22
  v37 := Tryd.zeroValue22
  t46 := Tryd.underlying50
  a46 := Tryd.isAgg50
  z46 := Tryd.sizeOf50
  v46 := Tryd.zeroValue50
  t51 := Tryd.underlying47
  a51 := Tryd.isAgg47
  z51 := Tryd.sizeOf47
  v51 := Tryd.zeroValue47
  t53 := Tryd.underlying40
  a53 := Tryd.isAgg40
  z53 := Tryd.sizeOf40
  v53 := Tryd.zeroValue40
  t171 := Tryd.underlying39
  a171 := Tryd.isAgg39
  z171 := Tryd.sizeOf39
  v171 := Tryd.zeroValue39
  t173 := Tryd.underlying43
  a173 := Tryd.isAgg43
  z173 := Tryd.sizeOf43
  v173 := Tryd.zeroValue43
  t212 := Tryd.underlying46
  a212 := Tryd.isAgg46
  z212 := Tryd.sizeOf46
  v212 := Tryd.zeroValue46
  t213 := Tryd.underlying48
  a213 := Tryd.isAgg48
  z213 := Tryd.sizeOf48
  t232 := Tryd.underlying53
  a232 := Tryd.isAgg53
  z232 := Tryd.sizeOf53
  v232 := Tryd.zeroValue53
  t233 := Tryd.underlying54
  a233 := Tryd.isAgg54
  z233 := Tryd.sizeOf54
  v233 := Tryd.zeroValue54
  g17 := by kernel_rfl
  g18 := by kernel_rfl
  g19 := by kernel_rfl
  i0 := by kernel_rfl
  i2 := by kernel_rfl
  i3 := by kernel_rfl
  i4 := by kernel_rfl
  i5 := by kernel_rfl
  i9 := by kernel_rfl
  i20 := by kernel_rfl
  i37 := by kernel_rfl
  i46 := by kernel_rfl
  i51 := by kernel_rfl
  i53 := by kernel_rfl
  i171 := by kernel_rfl
  i173 := by kernel_rfl
  i212 := by kernel_rfl
  i232 := by kernel_rfl
  i233 := by kernel_rfl
  m17 := by kernel_rfl
  m18 := by kernel_rfl
  m19 := by kernel_rfl }
end Go.Proofs
end
section
open Go Go.Refl Go.Proofs
set_option maxRecDepth 1000000
set_option maxHeartbeats 0
set_option linter.unusedVariables false
namespace Go.Proofs.YtifohlgdkdcpeaaDoorG
noncomputable def ar : List (Nat × AI) := [(39, { n := 24, E := 5, e := (.int .u8) }), (46, { n := 20, E := 40, e := (.int .u64) }), (53, { n := 32, E := 5, e := (.int .u8) }), (54, { n := 64, E := 5, e := (.int .u8) })]
noncomputable def bld : List (Nat × Nat) := []
theorem ar39 : AOk Tryd.prog 39 { n := 24, E := 5, e := (.int .u8) } := .of (by kernel_rfl) (by kernel_rfl) (by kernel_rfl) (by kernel_rfl) rfl
theorem ar46 : AOk Tryd.prog 46 { n := 20, E := 40, e := (.int .u64) } := .of (by kernel_rfl) (by kernel_rfl) (by kernel_rfl) (by kernel_rfl) rfl
theorem ar53 : AOk Tryd.prog 53 { n := 32, E := 5, e := (.int .u8) } := .of (by kernel_rfl) (by kernel_rfl) (by kernel_rfl) (by kernel_rfl) rfl
theorem ar54 : AOk Tryd.prog 54 { n := 64, E := 5, e := (.int .u8) } := .of (by kernel_rfl) (by kernel_rfl) (by kernel_rfl) (by kernel_rfl) rfl
theorem ar_ok : ∀ T ai, Refl.look ar T = some ai → AOk Tryd.prog T ai := arOk (all_cons ar39 (all_cons ar46 (all_cons ar53 (all_cons ar54 (all_nil)))))
theorem bld_ok : ∀ T E, Refl.look bld T = some E → BOk Tryd.prog T := bldOk (all_nil)
noncomputable def pts : List Nat := [15, 16, 17, 27, 65]
theorem pts_ok : ∀ T, pts.contains T = true → ∃ e, Tryd.prog.underlying T = some (.pointer e) := fun T h => ptsOk (all_cons ⟨57, by kernel_rfl⟩ (all_cons ⟨60, by kernel_rfl⟩ (all_cons ⟨69, by kernel_rfl⟩ (all_cons ⟨33, by kernel_rfl⟩ (all_cons ⟨5, by kernel_rfl⟩ (all_nil)))))) (List.contains_iff_mem.1 h)
noncomputable def g0 : Nat × GItem := (0, .row ⟨.int .u64, Lib.pow10Tab⟩)
noncomputable def tb : List (Nat × TI) := [(2, { ty := (.int .i64), eqOk := true }),
  (3, { ty := (.int .i64), eqOk := true }),
  (4, { ty := .bool, eqOk := true }),
  (5, { ty := (.int .u8), eqOk := true }),
  (6, { ty := (.int .u8), eqOk := true }),
  (7, { ty := (.pair (.int .i64) (.pair (.int .i64) (.pair .bool (.int .u8)))), offs := [0, 1, 2, 3], szs := [1, 1, 1, 1], eqOk := true }),
  (8, { ty := (.pair (.int .i64) (.pair (.int .i64) (.pair .bool (.int .u8)))), offs := [0, 1, 2, 3], szs := [1, 1, 1, 1], eqOk := true }),
  (9, { ty := .str, eqOk := true }),
  (10, { ty := .str, eqOk := true }),
  (11, { ty := .str, eqOk := true }),
  (12, { ty := (.int .u64), eqOk := true }),
  (13, { ty := (.pair .str (.int .u64)), offs := [0, 1], szs := [1, 1] }),
  (14, { ty := (.pair .str (.int .u64)), offs := [0, 1], szs := [1, 1] }),
  (21, { ty := (.int .i32), eqOk := true }),
  (22, { ty := (.slice (.int .u8)), elem := 5 }),
  (32, { ty := (.pair (.slice (.int .u8)) (.int .i64)), offs := [0, 1], szs := [1, 1] }),
  (33, { ty := (.pair (.slice (.int .u8)) (.int .i64)), offs := [0, 1], szs := [1, 1] }),
  (35, { ty := (.slice (.int .i64)), elem := 3 }),
  (37, { ty := (.slice .str), elem := 9 }),
  (40, { ty := (.int .u64), eqOk := true }),
  (47, { ty := (.int .u32), eqOk := true }),
  (50, { ty := (.int .u64), eqOk := true }),
  (62, { ty := (.int .u8), eqOk := true }),
  (63, { ty := (.int .u8), eqOk := true }),
  (66, { ty := (.int .i32), eqOk := true }),
  (67, { ty := (.int .i32), eqOk := true })]
theorem t2 : TOk Tryd.prog tb 2 { ty := (.int .i64), eqOk := true } := .of (by kernel_rfl) (by kernel_rfl) (by show _ = _; kernel_rfl) (fun h => eqOk_int)
theorem t3 : TOk Tryd.prog tb 3 { ty := (.int .i64), eqOk := true } := .of (by kernel_rfl) (by kernel_rfl) (by show _ = _; kernel_rfl) (fun h => eqOk_int)
theorem t4 : TOk Tryd.prog tb 4 { ty := .bool, eqOk := true } := .of (by kernel_rfl) (by kernel_rfl) (by show _ = _; kernel_rfl) (fun h => eqOk_bool (by kernel_rfl))
theorem t5 : TOk Tryd.prog tb 5 { ty := (.int .u8), eqOk := true } := .of (by kernel_rfl) (by kernel_rfl) (by show _ = _; kernel_rfl) (fun h => eqOk_int)
theorem t6 : TOk Tryd.prog tb 6 { ty := (.int .u8), eqOk := true } := .of (by kernel_rfl) (by kernel_rfl) (by show _ = _; kernel_rfl) (fun h => eqOk_int)
theorem t7 : TOk Tryd.prog tb 7 { ty := (.pair (.int .i64) (.pair (.int .i64) (.pair .bool (.int .u8)))), offs := [0, 1, 2, 3], szs := [1, 1, 1, 1], eqOk := true } := .of (by kernel_rfl) (by kernel_rfl) (descOk_struct rfl (by kernel_rfl)) (fun h => eqOk_struct rfl (by kernel_rfl) (by kernel_rfl))
theorem t8 : TOk Tryd.prog tb 8 { ty := (.pair (.int .i64) (.pair (.int .i64) (.pair .bool (.int .u8)))), offs := [0, 1, 2, 3], szs := [1, 1, 1, 1], eqOk := true } := .of (by kernel_rfl) (by kernel_rfl) (descOk_struct rfl (by kernel_rfl)) (fun h => eqOk_struct rfl (by kernel_rfl) (by kernel_rfl))
theorem t9 : TOk Tryd.prog tb 9 { ty := .str, eqOk := true } := .of (by kernel_rfl) (by kernel_rfl) (by show _ = _; kernel_rfl) (fun h => eqOk_str)
theorem t10 : TOk Tryd.prog tb 10 { ty := .str, eqOk := true } := .of (by kernel_rfl) (by kernel_rfl) (by show _ = _; kernel_rfl) (fun h => eqOk_str)
theorem t11 : TOk Tryd.prog tb 11 { ty := .str, eqOk := true } := .of (by kernel_rfl) (by kernel_rfl) (by show _ = _; kernel_rfl) (fun h => eqOk_str)
theorem t12 : TOk Tryd.prog tb 12 { ty := (.int .u64), eqOk := true } := .of (by kernel_rfl) (by kernel_rfl) (by show _ = _; kernel_rfl) (fun h => eqOk_int)
theorem t13 : TOk Tryd.prog tb 13 { ty := (.pair .str (.int .u64)), offs := [0, 1], szs := [1, 1] } := .of (by kernel_rfl) (by kernel_rfl) (descOk_struct rfl (by kernel_rfl)) (fun h => by cases h)
theorem t14 : TOk Tryd.prog tb 14 { ty := (.pair .str (.int .u64)), offs := [0, 1], szs := [1, 1] } := .of (by kernel_rfl) (by kernel_rfl) (descOk_struct rfl (by kernel_rfl)) (fun h => by cases h)
theorem t21 : TOk Tryd.prog tb 21 { ty := (.int .i32), eqOk := true } := .of (by kernel_rfl) (by kernel_rfl) (by show _ = _; kernel_rfl) (fun h => eqOk_int)
theorem t22 : TOk Tryd.prog tb 22 { ty := (.slice (.int .u8)), elem := 5 } := .of (by kernel_rfl) (by kernel_rfl) (⟨by kernel_rfl, { ty := (.int .u8), eqOk := true }, by kernel_rfl, by kernel_rfl⟩) (fun h => by cases h)
theorem t32 : TOk Tryd.prog tb 32 { ty := (.pair (.slice (.int .u8)) (.int .i64)), offs := [0, 1], szs := [1, 1] } := .of (by kernel_rfl) (by kernel_rfl) (descOk_struct rfl (by kernel_rfl)) (fun h => by cases h)
theorem t33 : TOk Tryd.prog tb 33 { ty := (.pair (.slice (.int .u8)) (.int .i64)), offs := [0, 1], szs := [1, 1] } := .of (by kernel_rfl) (by kernel_rfl) (descOk_struct rfl (by kernel_rfl)) (fun h => by cases h)
theorem t35 : TOk Tryd.prog tb 35 { ty := (.slice (.int .i64)), elem := 3 } := .of (by kernel_rfl) (by kernel_rfl) (⟨by kernel_rfl, { ty := (.int .i64), eqOk := true }, by kernel_rfl, by kernel_rfl⟩) (fun h => by cases h)
theorem t37 : TOk Tryd.prog tb 37 { ty := (.slice .str), elem := 9 } := .of (by kernel_rfl) (by kernel_rfl) (⟨by kernel_rfl, { ty := .str, eqOk := true }, by kernel_rfl, by kernel_rfl⟩) (fun h => by cases h)
theorem t40 : TOk Tryd.prog tb 40 { ty := (.int .u64), eqOk := true } := .of (by kernel_rfl) (by kernel_rfl) (by show _ = _; kernel_rfl) (fun h => eqOk_int)
theorem t47 : TOk Tryd.prog tb 47 { ty := (.int .u32), eqOk := true } := .of (by kernel_rfl) (by kernel_rfl) (by show _ = _; kernel_rfl) (fun h => eqOk_int)
theorem t50 : TOk Tryd.prog tb 50 { ty := (.int .u64), eqOk := true } := .of (by kernel_rfl) (by kernel_rfl) (by show _ = _; kernel_rfl) (fun h => eqOk_int)
theorem t62 : TOk Tryd.prog tb 62 { ty := (.int .u8), eqOk := true } := .of (by kernel_rfl) (by kernel_rfl) (by show _ = _; kernel_rfl) (fun h => eqOk_int)
theorem t63 : TOk Tryd.prog tb 63 { ty := (.int .u8), eqOk := true } := .of (by kernel_rfl) (by kernel_rfl) (by show _ = _; kernel_rfl) (fun h => eqOk_int)
theorem t66 : TOk Tryd.prog tb 66 { ty := (.int .i32), eqOk := true } := .of (by kernel_rfl) (by kernel_rfl) (by show _ = _; kernel_rfl) (fun h => eqOk_int)
theorem t67 : TOk Tryd.prog tb 67 { ty := (.int .i32), eqOk := true } := .of (by kernel_rfl) (by kernel_rfl) (by show _ = _; kernel_rfl) (fun h => eqOk_int)
theorem mixed : Tryd.prog.follows .mixedOrders = true := by kernel_rfl
theorem tb_ok : CfgTb Tryd.prog tb := tbOk (all_cons t2 (all_cons t3 (all_cons t4 (all_cons t5 (all_cons t6 (all_cons t7 (all_cons t8 (all_cons t9 (all_cons t10 (all_cons t11 (all_cons t12 (all_cons t13 (all_cons t14 (all_cons t21 (all_cons t22 (all_cons t32 (all_cons t33 (all_cons t35 (all_cons t37 (all_cons t40 (all_cons t47 (all_cons t50 (all_cons t62 (all_cons t63 (all_cons t66 (all_cons t67 (all_nil)))))))))))))))))))))))))))
end Go.Proofs.YtifohlgdkdcpeaaDoorG
end
section
open Go Go.Refl Go.Proofs
set_option maxRecDepth 1000000
set_option maxHeartbeats 0
set_option linter.unusedVariables false
namespace Go.Proofs.YtifohlgdkdcpeaaDoorG
abbrev strconv_Itoa.ps : List Pm := itPs
abbrev strconv_Itoa.res : List M := itRes
noncomputable def strconv_Itoa (n : Nat) : Int → Option ByteArray := itRun
theorem strconv_Itoa.call : Callable Tryd.prog 14 := ⟨Tryd.f14, Tryd.func14, by kernel_rfl, by kernel_rfl⟩
theorem strconv_Itoa.ok (n : Nat) : FC Tryd.prog [g0] 14 { params := strconv_Itoa.ps, res := strconv_Itoa.res, run := strconv_Itoa n } := it_FC Tryd.laysM171 (.head _) (by kernel_rfl)
end Go.Proofs.YtifohlgdkdcpeaaDoorG
end
section
open Go Go.Refl Go.Proofs
set_option maxRecDepth 1000000
set_option maxHeartbeats 0
set_option linter.unusedVariables false
namespace Go.Proofs.YtifohlgdkdcpeaaDoorG
abbrev impl_ShowMoney.ps : List Pm := [.arg (.v (.int .i64))]
abbrev impl_ShowMoney.res : List M := [.v .str]
noncomputable def impl_ShowMoney.C : Cfg := { tb := tb, tab := fun n f => Refl.look [(14, { params := strconv_Itoa.ps, res := strconv_Itoa.res, run := strconv_Itoa n })] f, gl := [g0], ar := ar, bld := bld, pts := pts }
noncomputable def impl_ShowMoney.A : Ann := { joins := [], loops := [], ids := [(3, [(12, [])]), (6, [(20, [])])], pids := [], nroots := 88 }
noncomputable def impl_ShowMoney (n : Nat) (x : Int) : Option (ByteArray) := evalF impl_ShowMoney.C impl_ShowMoney.A Tryd.f7 impl_ShowMoney.ps impl_ShowMoney.res n x
noncomputable def impl_ShowMoney.K0 (_ : Nat) : Kont (ByteArray) := finK impl_ShowMoney.C (Func.results Tryd.f7).toList impl_ShowMoney.ps impl_ShowMoney.res
theorem impl_ShowMoney.eq (n : Nat) (x0 : Int) : impl_ShowMoney n x0 = (if x0 < 0 then some ({ data := #[] }) else (if x0 > 1000000 then some ({ data := #[] }) else ((strconv_Itoa n (Int.tmod x0 100)).bind fun y0 => (if (↑(ByteArray.size y0) : Int) < 2 then (if ByteArray.size { data := #[(48 : UInt8)] } + ByteArray.size y0 ≤ Go.Refl.maxN then ((strconv_Itoa n (Go.RowKit.wrap64 (Int.tdiv x0 100))).bind fun y1 => (if ByteArray.size y1 + ByteArray.size { data := #[(46 : UInt8)] } ≤ Go.Refl.maxN then (if ByteArray.size (y1 ++ { data := #[(46 : UInt8)] }) + ByteArray.size ({ data := #[(48 : UInt8)] } ++ y0) ≤ Go.Refl.maxN then some (y1 ++ { data := #[(46 : UInt8)] } ++ ({ data := #[(48 : UInt8)] } ++ y0)) else none) else none)) else none) else ((strconv_Itoa n (Go.RowKit.wrap64 (Int.tdiv x0 100))).bind fun y2 => (if ByteArray.size y2 + ByteArray.size { data := #[(46 : UInt8)] } ≤ Go.Refl.maxN then (if ByteArray.size (y2 ++ { data := #[(46 : UInt8)] }) + ByteArray.size y0 ≤ Go.Refl.maxN then some (y2 ++ { data := #[(46 : UInt8)] } ++ y0) else none) else none)))))) := by kernel_rfl
theorem impl_ShowMoney.call : Callable Tryd.prog 7 := ⟨Tryd.f7, Tryd.func7, by kernel_rfl, by kernel_rfl⟩
theorem impl_ShowMoney.ok (n : Nat) : FC Tryd.prog [g0] 7 { params := impl_ShowMoney.ps, res := impl_ShowMoney.res, run := impl_ShowMoney n } :=
  evalF_ok (C := impl_ShowMoney.C) ⟨tb_ok, fun n _ _ h => tabOk (l := [(14, { params := strconv_Itoa.ps, res := strconv_Itoa.res, run := strconv_Itoa n })]) (all_cons ⟨strconv_Itoa.ok n, strconv_Itoa.call⟩ (all_nil)) h, mixed, ar_ok, bld_ok, pts_ok⟩ impl_ShowMoney.A Tryd.func7 impl_ShowMoney.ps impl_ShowMoney.res n
end Go.Proofs.YtifohlgdkdcpeaaDoorG
end
section
open Go Go.Refl Go.Proofs
set_option maxRecDepth 1000000
set_option maxHeartbeats 0
set_option linter.unusedVariables false
namespace Go.Proofs.YtifohlgdkdcpeaaDoorG
abbrev impl_ReadMoney.ps : List Pm := [.arg (.v .str)]
abbrev impl_ReadMoney.res : List M := [.v (.int .i64)]
noncomputable def impl_ReadMoney.C : Cfg := { tb := tb, tab := fun n f => Refl.look [(7, { params := impl_ShowMoney.ps, res := impl_ShowMoney.res, run := impl_ShowMoney n })] f, gl := [g0], ar := ar, bld := bld, pts := pts }
noncomputable def impl_ReadMoney.A : Ann := { joins := [], loops := [(5, { live := [0, 3, 22, 23], base := 55 })], ids := [(12, [(51, [])])], pids := [], nroots := 119 }
noncomputable def impl_ReadMoney (n : Nat) (x : ByteArray) : Option (Int) := evalF impl_ReadMoney.C impl_ReadMoney.A Tryd.f5 impl_ReadMoney.ps impl_ReadMoney.res n x
noncomputable def impl_ReadMoney.K0 (_ : Nat) : Kont (Int) := finK impl_ReadMoney.C (Func.results Tryd.f5).toList impl_ReadMoney.ps impl_ReadMoney.res
noncomputable def impl_ReadMoney.K1 (n : Nat) : Kont (Int) := seqK (fun s' k => evalC impl_ReadMoney.C impl_ReadMoney.A n (codeAt Tryd.f5 [1, 1, 1, 1]) (cutAt impl_ReadMoney.A.joins (codeAt Tryd.f5 [1, 1, 1, 1]) s') k) (impl_ReadMoney.K0 n)
noncomputable def impl_ReadMoney.K2 (n : Nat) : Kont (Int) := blockK 0 (impl_ReadMoney.K1 n)
noncomputable def impl_ReadMoney.l5 (n m5 : Nat) (x0 : ByteArray) (x3 : Int) (x22 : Int) (x23 : Int) : Option (Int) := loopE (cutAt impl_ReadMoney.A.loops (codeAt Tryd.f5 [1, 1, 1, 0, 1, 0, 0])) (fun s k => evalC impl_ReadMoney.C impl_ReadMoney.A n (codeAt Tryd.f5 [1, 1, 1, 0, 1, 0, 0]) s k) m5 (St.of 55 119 [(0, .val .str x0), (3, .val (.int .i64) x3), (22, .val (.int .i64) x22), (23, .val (.int .i64) x23)] [] []) (impl_ReadMoney.K2 n)
theorem impl_ReadMoney.eq (n : Nat) (x0 : ByteArray) : impl_ReadMoney n x0 = (if (↑(ByteArray.size x0) : Int) < 4 then some ((-1)) else (if (↑(ByteArray.size x0) : Int) > 8 then some ((-1)) else (if 0 ≤ Go.RowKit.wrap64 ((↑(ByteArray.size x0) : Int) - 3) then (if Go.RowKit.wrap64 ((↑(ByteArray.size x0) : Int) - 3) < (↑(ByteArray.size x0) : Int) then (if (↑(UInt8.toNat (List.getD (Array.toList (ByteArray.data x0)) (Int.toNat (Go.RowKit.wrap64 ((↑(ByteArray.size x0) : Int) - 3))) (0 : UInt8))) : Int) = 46 then impl_ReadMoney.l5 n n (x0) (0) ((↑(ByteArray.size x0) : Int)) (0) else some ((-1))) else none) else none))) := by kernel_rfl
theorem impl_ReadMoney.l5_zero (n : Nat) (x0 : ByteArray) (x3 : Int) (x22 : Int) (x23 : Int) : impl_ReadMoney.l5 n 0 x0 x3 x22 x23 = none := by kernel_rfl
theorem impl_ReadMoney.l5_succ (n m5 : Nat) (x0 : ByteArray) (x3 : Int) (x22 : Int) (x23 : Int) : impl_ReadMoney.l5 n (m5 + 1) x0 x3 x22 x23 = (if x23 < x22 then (if x23 = Go.RowKit.wrap64 ((↑(ByteArray.size x0) : Int) - 3) then impl_ReadMoney.l5 n m5 (x0) (x3) (x22) (Go.RowKit.wrap64 (x23 + 1)) else (if 0 ≤ x23 then (if x23 < (↑(ByteArray.size x0) : Int) then (if (↑(UInt8.toNat (List.getD (Array.toList (ByteArray.data x0)) (Int.toNat x23) (0 : UInt8))) : Int) < 48 then some ((-1)) else (if 0 ≤ x23 then (if x23 < (↑(ByteArray.size x0) : Int) then (if (↑(UInt8.toNat (List.getD (Array.toList (ByteArray.data x0)) (Int.toNat x23) (0 : UInt8))) : Int) > 57 then some ((-1)) else (if 0 ≤ x23 then (if x23 < (↑(ByteArray.size x0) : Int) then impl_ReadMoney.l5 n m5 (x0) (Go.RowKit.wrap64 (Go.RowKit.wrap64 (x3 * 10) + Go.RowKit.wrap64 (((↑(UInt8.toNat (List.getD (Array.toList (ByteArray.data x0)) (Int.toNat x23) (0 : UInt8))) : Int) - 48) % 256))) (x22) (Go.RowKit.wrap64 (x23 + 1)) else none) else none)) else none) else none)) else none) else none)) else ((impl_ShowMoney n x3).bind fun y0 => (if y0 = x0 then some (x3) else some ((-1))))) := by kernel_rfl
theorem impl_ReadMoney.call : Callable Tryd.prog 5 := ⟨Tryd.f5, Tryd.func5, by kernel_rfl, by kernel_rfl⟩
theorem impl_ReadMoney.ok (n : Nat) : FC Tryd.prog [g0] 5 { params := impl_ReadMoney.ps, res := impl_ReadMoney.res, run := impl_ReadMoney n } :=
  evalF_ok (C := impl_ReadMoney.C) ⟨tb_ok, fun n _ _ h => tabOk (l := [(7, { params := impl_ShowMoney.ps, res := impl_ShowMoney.res, run := impl_ShowMoney n })]) (all_cons ⟨impl_ShowMoney.ok n, impl_ShowMoney.call⟩ (all_nil)) h, mixed, ar_ok, bld_ok, pts_ok⟩ impl_ReadMoney.A Tryd.func5 impl_ReadMoney.ps impl_ReadMoney.res n
end Go.Proofs.YtifohlgdkdcpeaaDoorG
end
section
open Go Go.Refl Go.Proofs
set_option maxRecDepth 1000000
set_option maxHeartbeats 0
set_option linter.unusedVariables false
namespace Go.Proofs.YtifohlgdkdcpeaaDoorG
abbrev spec_newReader.ps : List Pm := [.arg (.v (.slice (.int .u8)))]
abbrev spec_newReader.res : List M := [.bx 33 (.v (.pair (.slice (.int .u8)) (.int .i64)))]
noncomputable def spec_newReader.C : Cfg := { tb := tb, tab := fun n f => Refl.look [] f, gl := [], ar := ar, bld := bld, pts := pts }
noncomputable def spec_newReader.A : Ann := { joins := [], loops := [], ids := [], pids := [], nroots := 75 }
noncomputable def spec_newReader (n : Nat) (x : List Int) : Option (List Int × Int) := evalF spec_newReader.C spec_newReader.A Tryd.f8 spec_newReader.ps spec_newReader.res n x
noncomputable def spec_newReader.K0 (_ : Nat) : Kont (List Int × Int) := finK spec_newReader.C (Func.results Tryd.f8).toList spec_newReader.ps spec_newReader.res
theorem spec_newReader.eq (n : Nat) (x0 : List Int) : spec_newReader n x0 = (if (↑(List.length x0) : Int) > 2000 then (if 2000 ≤ (↑(List.length x0) : Int) then some ((List.take (Int.toNat 2000) x0, 0)) else none) else some ((x0, 0))) := by kernel_rfl
theorem spec_newReader.call : Callable Tryd.prog 8 := ⟨Tryd.f8, Tryd.func8, by kernel_rfl, by kernel_rfl⟩
theorem spec_newReader.ok (n : Nat) : FC Tryd.prog [] 8 { params := spec_newReader.ps, res := spec_newReader.res, run := spec_newReader n } :=
  evalF_ok (C := spec_newReader.C) ⟨tb_ok, fun n _ _ h => tabOk (l := []) (all_nil) h, mixed, ar_ok, bld_ok, pts_ok⟩ spec_newReader.A Tryd.func8 spec_newReader.ps spec_newReader.res n
end Go.Proofs.YtifohlgdkdcpeaaDoorG
end
section
open Go Go.Refl Go.Proofs
set_option maxRecDepth 1000000
set_option maxHeartbeats 0
set_option linter.unusedVariables false
namespace Go.Proofs.YtifohlgdkdcpeaaDoorG
abbrev spec_reader_pick.ps : List Pm := [.box 33 (.v (.pair (.slice (.int .u8)) (.int .i64))), .arg (.v (.int .i64))]
abbrev spec_reader_pick.res : List M := [.v (.int .i64)]
noncomputable def spec_reader_pick.C : Cfg := { tb := tb, tab := fun n f => Refl.look [] f, gl := [], ar := ar, bld := bld, pts := pts }
noncomputable def spec_reader_pick.A : Ann := { joins := [], loops := [], ids := [], pids := [], nroots := 163 }
noncomputable def spec_reader_pick (n : Nat) (x : (List Int × Int) × Int) : Option (Int × List Int × Int) := evalF spec_reader_pick.C spec_reader_pick.A Tryd.f11 spec_reader_pick.ps spec_reader_pick.res n x
noncomputable def spec_reader_pick.K0 (_ : Nat) : Kont (Int × List Int × Int) := finK spec_reader_pick.C (Func.results Tryd.f11).toList spec_reader_pick.ps spec_reader_pick.res
theorem spec_reader_pick.eq (n : Nat) (x0 : List Int × Int) (x1 : Int) : spec_reader_pick n (x0, x1) = (if x1 < 1 then some ((0, Prod.fst x0, Go.RowKit.wrap64 (Prod.snd x0 + 1))) else (if (↑(List.length (Prod.fst x0)) : Int) = 0 then some ((0, Prod.fst x0, Go.RowKit.wrap64 (Prod.snd x0 + 1))) else (if Go.RowKit.wrap64 (Go.RowKit.wrap64 (Prod.snd x0 + 1) - 1) < (↑(List.length (Prod.fst x0)) : Int) then (if 0 ≤ Go.RowKit.wrap64 (Go.RowKit.wrap64 (Prod.snd x0 + 1) - 1) then (if Go.RowKit.wrap64 (Go.RowKit.wrap64 (Prod.snd x0 + 1) - 1) < (↑(List.length (Prod.fst x0)) : Int) then (if x1 = 0 then none else some ((Int.tmod (Go.RowKit.wrap64 (List.getD (Prod.fst x0) (Int.toNat (Go.RowKit.wrap64 (Go.RowKit.wrap64 (Prod.snd x0 + 1) - 1))) 0)) x1, Prod.fst x0, Go.RowKit.wrap64 (Prod.snd x0 + 1)))) else none) else none) else (if (↑(List.length (Prod.fst x0)) : Int) = 0 then none else (if 0 ≤ Int.tmod (Go.RowKit.wrap64 (Go.RowKit.wrap64 (Prod.snd x0 + 1) - 1)) (↑(List.length (Prod.fst x0)) : Int) then (if Int.tmod (Go.RowKit.wrap64 (Go.RowKit.wrap64 (Prod.snd x0 + 1) - 1)) (↑(List.length (Prod.fst x0)) : Int) < (↑(List.length (Prod.fst x0)) : Int) then (if (↑(List.length (Prod.fst x0)) : Int) = 0 then none else (if 0 ≤ Int.tmod (Go.RowKit.wrap64 (Go.RowKit.wrap64 (Go.RowKit.wrap64 (Go.RowKit.wrap64 (Prod.snd x0 + 1) - 1) * 7) + 3)) (↑(List.length (Prod.fst x0)) : Int) then (if Int.tmod (Go.RowKit.wrap64 (Go.RowKit.wrap64 (Go.RowKit.wrap64 (Go.RowKit.wrap64 (Prod.snd x0 + 1) - 1) * 7) + 3)) (↑(List.length (Prod.fst x0)) : Int) < (↑(List.length (Prod.fst x0)) : Int) then (if (↑(List.length (Prod.fst x0)) : Int) = 0 then none else (if x1 = 0 then none else some ((Int.tmod (Go.IntKind.wrap Go.IntKind.i64 (↑(BitVec.toNat (BitVec.ofInt (Go.IntKind.bits Go.IntKind.i64) (Go.RowKit.wrap64 (Go.RowKit.wrap64 (Go.RowKit.wrap64 (Go.RowKit.wrap64 (Go.RowKit.wrap64 (List.getD (Prod.fst x0) (Int.toNat (Int.tmod (Go.RowKit.wrap64 (Go.RowKit.wrap64 (Prod.snd x0 + 1) - 1)) (↑(List.length (Prod.fst x0)) : Int))) 0) * 131) + Go.RowKit.wrap64 (Go.RowKit.wrap64 (List.getD (Prod.fst x0) (Int.toNat (Int.tmod (Go.RowKit.wrap64 (Go.RowKit.wrap64 (Go.RowKit.wrap64 (Go.RowKit.wrap64 (Prod.snd x0 + 1) - 1) * 7) + 3)) (↑(List.length (Prod.fst x0)) : Int))) 0) * 1117)) + Go.RowKit.wrap64 (Go.RowKit.wrap64 (Go.RowKit.wrap64 (Prod.snd x0 + 1) - 1) * 29)) + Go.RowKit.wrap64 (Go.RowKit.wrap64 (Int.tdiv (Go.RowKit.wrap64 (Go.RowKit.wrap64 (Prod.snd x0 + 1) - 1)) (↑(List.length (Prod.fst x0)) : Int)) * 53))) ^^^ BitVec.ofInt (Go.IntKind.bits Go.IntKind.i64) (Go.RowKit.wrap64 (Int.tdiv (Go.RowKit.wrap64 (Go.RowKit.wrap64 (Go.RowKit.wrap64 (Go.RowKit.wrap64 (Go.RowKit.wrap64 (List.getD (Prod.fst x0) (Int.toNat (Int.tmod (Go.RowKit.wrap64 (Go.RowKit.wrap64 (Prod.snd x0 + 1) - 1)) (↑(List.length (Prod.fst x0)) : Int))) 0) * 131) + Go.RowKit.wrap64 (Go.RowKit.wrap64 (List.getD (Prod.fst x0) (Int.toNat (Int.tmod (Go.RowKit.wrap64 (Go.RowKit.wrap64 (Go.RowKit.wrap64 (Go.RowKit.wrap64 (Prod.snd x0 + 1) - 1) * 7) + 3)) (↑(List.length (Prod.fst x0)) : Int))) 0) * 1117)) + Go.RowKit.wrap64 (Go.RowKit.wrap64 (Go.RowKit.wrap64 (Prod.snd x0 + 1) - 1) * 29)) + Go.RowKit.wrap64 (Go.RowKit.wrap64 (Int.tdiv (Go.RowKit.wrap64 (Go.RowKit.wrap64 (Prod.snd x0 + 1) - 1)) (↑(List.length (Prod.fst x0)) : Int)) * 53))) 64)))) : Int)) x1, Prod.fst x0, Go.RowKit.wrap64 (Prod.snd x0 + 1))))) else none) else none)) else none) else none))))) := by kernel_rfl
theorem spec_reader_pick.call : Callable Tryd.prog 11 := ⟨Tryd.f11, Tryd.func11, by kernel_rfl, by kernel_rfl⟩
theorem spec_reader_pick.ok (n : Nat) : FC Tryd.prog [] 11 { params := spec_reader_pick.ps, res := spec_reader_pick.res, run := spec_reader_pick n } :=
  evalF_ok (C := spec_reader_pick.C) ⟨tb_ok, fun n _ _ h => tabOk (l := []) (all_nil) h, mixed, ar_ok, bld_ok, pts_ok⟩ spec_reader_pick.A Tryd.func11 spec_reader_pick.ps spec_reader_pick.res n
end Go.Proofs.YtifohlgdkdcpeaaDoorG
end
section
open Go Go.Refl Go.Proofs
set_option maxRecDepth 1000000
set_option maxHeartbeats 0
set_option linter.unusedVariables false
namespace Go.Proofs.YtifohlgdkdcpeaaDoorG
abbrev spec_reader_one.ps : List Pm := [.box 33 (.v (.pair (.slice (.int .u8)) (.int .i64))), .arg (.v (.slice (.int .i64)))]
abbrev spec_reader_one.res : List M := [.v (.int .i64)]
noncomputable def spec_reader_one.C : Cfg := { tb := tb, tab := fun n f => Refl.look [(11, { params := spec_reader_pick.ps, res := spec_reader_pick.res, run := spec_reader_pick n })] f, gl := [], ar := ar, bld := bld, pts := pts }
noncomputable def spec_reader_one.A : Ann := { joins := [], loops := [], ids := [(1, [(9, [])])], pids := [], nroots := 76 }
noncomputable def spec_reader_one (n : Nat) (x : (List Int × Int) × List Int) : Option (Int × List Int × Int) := evalF spec_reader_one.C spec_reader_one.A Tryd.f16 spec_reader_one.ps spec_reader_one.res n x
noncomputable def spec_reader_one.K0 (_ : Nat) : Kont (Int × List Int × Int) := finK spec_reader_one.C (Func.results Tryd.f16).toList spec_reader_one.ps spec_reader_one.res
theorem spec_reader_one.eq (n : Nat) (x0 : List Int × Int) (x1 : List Int) : spec_reader_one n (x0, x1) = ((spec_reader_pick n ((Prod.fst x0, Prod.snd x0), (↑(List.length x1) : Int))).bind fun y0 => (if 0 ≤ Prod.fst y0 then (if Prod.fst y0 < (↑(List.length x1) : Int) then some ((List.getD x1 (Int.toNat (Prod.fst y0)) 0, Prod.fst (Prod.snd y0), Prod.snd (Prod.snd y0))) else none) else none)) := by kernel_rfl
theorem spec_reader_one.call : Callable Tryd.prog 16 := ⟨Tryd.f16, Tryd.func16, by kernel_rfl, by kernel_rfl⟩
theorem spec_reader_one.ok (n : Nat) : FC Tryd.prog [] 16 { params := spec_reader_one.ps, res := spec_reader_one.res, run := spec_reader_one n } :=
  evalF_ok (C := spec_reader_one.C) ⟨tb_ok, fun n _ _ h => tabOk (l := [(11, { params := spec_reader_pick.ps, res := spec_reader_pick.res, run := spec_reader_pick n })]) (all_cons ⟨spec_reader_pick.ok n, spec_reader_pick.call⟩ (all_nil)) h, mixed, ar_ok, bld_ok, pts_ok⟩ spec_reader_one.A Tryd.func16 spec_reader_one.ps spec_reader_one.res n
end Go.Proofs.YtifohlgdkdcpeaaDoorG
end
section
open Go Go.Refl Go.Proofs
set_option maxRecDepth 1000000
set_option maxHeartbeats 0
set_option linter.unusedVariables false
namespace Go.Proofs.YtifohlgdkdcpeaaDoorG
abbrev spec_anAmount.ps : List Pm := [.box 33 (.v (.pair (.slice (.int .u8)) (.int .i64)))]
abbrev spec_anAmount.res : List M := [.v (.int .i64)]
noncomputable def spec_anAmount.C : Cfg := { tb := tb, tab := fun n f => Refl.look [(11, { params := spec_reader_pick.ps, res := spec_reader_pick.res, run := spec_reader_pick n }), (16, { params := spec_reader_one.ps, res := spec_reader_one.res, run := spec_reader_one n })] f, gl := [], ar := ar, bld := bld, pts := pts }
noncomputable def spec_anAmount.A : Ann := { joins := [], loops := [], ids := [(1, [(5, []), (8, []), (9, []), (10, [])])], pids := [], nroots := 75 }
noncomputable def spec_anAmount (n : Nat) (x : List Int × Int) : Option (Int × List Int × Int) := evalF spec_anAmount.C spec_anAmount.A Tryd.f10 spec_anAmount.ps spec_anAmount.res n x
noncomputable def spec_anAmount.K0 (_ : Nat) : Kont (Int × List Int × Int) := finK spec_anAmount.C (Func.results Tryd.f10).toList spec_anAmount.ps spec_anAmount.res
theorem spec_anAmount.eq (n : Nat) (x0 : List Int × Int) : spec_anAmount n x0 = ((spec_reader_pick n ((Prod.fst x0, Prod.snd x0), 200)).bind fun y0 => ((spec_reader_pick n ((Prod.fst (Prod.snd y0), Prod.snd (Prod.snd y0)), 250)).bind fun y1 => ((spec_reader_one n ((Prod.fst (Prod.snd y1), Prod.snd (Prod.snd y1)), List.set (List.set (List.set (List.set (List.set (List.set (List.set (List.set (List.set (List.set (List.set (List.set (List.replicate 12 0) 0 1000) 1 (Go.RowKit.wrap64 (10 * Prod.fst y0))) 2 (Prod.fst y1)) 3 0) 4 12345) 5 1000000) 6 999999) 7 (-1)) 8 1000001) 9 25) 10 90909) 11 50)).bind fun y2 => some ((Prod.fst y2, Prod.fst (Prod.snd y2), Prod.snd (Prod.snd y2)))))) := by kernel_rfl
theorem spec_anAmount.call : Callable Tryd.prog 10 := ⟨Tryd.f10, Tryd.func10, by kernel_rfl, by kernel_rfl⟩
theorem spec_anAmount.ok (n : Nat) : FC Tryd.prog [] 10 { params := spec_anAmount.ps, res := spec_anAmount.res, run := spec_anAmount n } :=
  evalF_ok (C := spec_anAmount.C) ⟨tb_ok, fun n _ _ h => tabOk (l := [(11, { params := spec_reader_pick.ps, res := spec_reader_pick.res, run := spec_reader_pick n }), (16, { params := spec_reader_one.ps, res := spec_reader_one.res, run := spec_reader_one n })]) (all_cons ⟨spec_reader_pick.ok n, spec_reader_pick.call⟩ (all_cons ⟨spec_reader_one.ok n, spec_reader_one.call⟩ (all_nil))) h, mixed, ar_ok, bld_ok, pts_ok⟩ spec_anAmount.A Tryd.func10 spec_anAmount.ps spec_anAmount.res n
end Go.Proofs.YtifohlgdkdcpeaaDoorG
end
section
open Go Go.Refl Go.Proofs
set_option maxRecDepth 1000000
set_option maxHeartbeats 0
set_option linter.unusedVariables false
namespace Go.Proofs.YtifohlgdkdcpeaaDoorG
abbrev spec_number.ps : List Pm := [.arg (.v (.int .i64))]
abbrev spec_number.res : List M := [.v .str]
noncomputable def spec_number.C (self : pdens spec_number.ps → Option (dens (spec_number.res ++ outs spec_number.ps))) : Cfg := { tb := tb, tab := fun n f => Refl.look [(15, { params := spec_number.ps, res := spec_number.res, run := self })] f, gl := [], ar := ar, bld := bld, pts := pts }
noncomputable def spec_number.A : Ann := { joins := [], loops := [], ids := [(3, [(11, []), (14, [])])], pids := [], nroots := 80 }
noncomputable def spec_number.S (self : Int → Option ByteArray) (n : Nat) (x : Int) : Option (ByteArray) := evalF (spec_number.C self) spec_number.A Tryd.f15 spec_number.ps spec_number.res n x
noncomputable def spec_number (n : Nat) : Int → Option (ByteArray) := Nat.rec (fun _ => none) (fun n self => spec_number.S self n) n
theorem spec_number.zero (x : Int) : spec_number 0 x = none := rfl
theorem spec_number.succ (n : Nat) (x : Int) : spec_number (n + 1) x = spec_number.S (spec_number n) n x := by kernel_rfl
noncomputable def spec_number.K0 (self : Int → Option ByteArray) (_ : Nat) : Kont (ByteArray) := finK (spec_number.C self) (Func.results Tryd.f15).toList spec_number.ps spec_number.res
theorem spec_number.eq (self : Int → Option ByteArray) (n : Nat) (x0 : Int) : spec_number.S self n x0 = (if x0 < 10 then (if 0 ≤ x0 then (if x0 ≤ Go.RowKit.wrap64 (x0 + 1) then (if Go.RowKit.wrap64 (x0 + 1) ≤ (↑(ByteArray.size { data := #[(48 : UInt8), (49 : UInt8), (50 : UInt8), (51 : UInt8), (52 : UInt8), (53 : UInt8), (54 : UInt8), (55 : UInt8), (56 : UInt8), (57 : UInt8)] }) : Int) then some (ByteArray.extract { data := #[(48 : UInt8), (49 : UInt8), (50 : UInt8), (51 : UInt8), (52 : UInt8), (53 : UInt8), (54 : UInt8), (55 : UInt8), (56 : UInt8), (57 : UInt8)] } (Int.toNat x0) (Int.toNat (Go.RowKit.wrap64 (x0 + 1)))) else none) else none) else none) else ((self (Go.RowKit.wrap64 (Int.tdiv x0 10))).bind fun y0 => ((self (Int.tmod x0 10)).bind fun y1 => (if ByteArray.size y0 + ByteArray.size y1 ≤ Go.Refl.maxN then some (y0 ++ y1) else none)))) := by kernel_rfl
theorem spec_number.call : Callable Tryd.prog 15 := ⟨Tryd.f15, Tryd.func15, by kernel_rfl, by kernel_rfl⟩
theorem spec_number.okS {self : pdens spec_number.ps → Option (dens (spec_number.res ++ outs spec_number.ps))} (hs : FC Tryd.prog [] 15 { params := spec_number.ps, res := spec_number.res, run := self }) (n : Nat) : FC Tryd.prog [] 15 { params := spec_number.ps, res := spec_number.res, run := spec_number.S self n } :=
  evalF_ok (C := spec_number.C self) ⟨tb_ok, fun n _ _ h => tabOk (l := [(15, { params := spec_number.ps, res := spec_number.res, run := self })]) (all_cons ⟨hs, spec_number.call⟩ (all_nil)) h, mixed, ar_ok, bld_ok, pts_ok⟩ spec_number.A Tryd.func15 spec_number.ps spec_number.res n
theorem spec_number.ok : (n : Nat) → FC Tryd.prog [] 15 { params := spec_number.ps, res := spec_number.res, run := spec_number n }
  | 0 => fun _ _ h => by cases h
  | n + 1 => spec_number.okS (spec_number.ok n) n
end Go.Proofs.YtifohlgdkdcpeaaDoorG
end
section
open Go Go.Refl Go.Proofs
set_option maxRecDepth 1000000
set_option maxHeartbeats 0
set_option linter.unusedVariables false
namespace Go.Proofs.YtifohlgdkdcpeaaDoorG
abbrev spec_money.ps : List Pm := [.arg (.v (.int .i64))]
abbrev spec_money.res : List M := [.v .str]
noncomputable def spec_money.C : Cfg := { tb := tb, tab := fun n f => Refl.look [(15, { params := spec_number.ps, res := spec_number.res, run := spec_number n })] f, gl := [], ar := ar, bld := bld, pts := pts }
noncomputable def spec_money.A : Ann := { joins := [], loops := [], ids := [(1, [(5, []), (10, []), (14, [])])], pids := [], nroots := 80 }
noncomputable def spec_money (n : Nat) (x : Int) : Option (ByteArray) := evalF spec_money.C spec_money.A Tryd.f9 spec_money.ps spec_money.res n x
noncomputable def spec_money.K0 (_ : Nat) : Kont (ByteArray) := finK spec_money.C (Func.results Tryd.f9).toList spec_money.ps spec_money.res
theorem spec_money.eq (n : Nat) (x0 : Int) : spec_money n x0 = ((spec_number n (Go.RowKit.wrap64 (Int.tdiv x0 100))).bind fun y0 => (if ByteArray.size y0 + ByteArray.size { data := #[(46 : UInt8)] } ≤ Go.Refl.maxN then ((spec_number n (Int.tmod (Go.RowKit.wrap64 (Int.tdiv x0 10)) 10)).bind fun y1 => (if ByteArray.size (y0 ++ { data := #[(46 : UInt8)] }) + ByteArray.size y1 ≤ Go.Refl.maxN then ((spec_number n (Int.tmod x0 10)).bind fun y2 => (if ByteArray.size (y0 ++ { data := #[(46 : UInt8)] } ++ y1) + ByteArray.size y2 ≤ Go.Refl.maxN then some (y0 ++ { data := #[(46 : UInt8)] } ++ y1 ++ y2) else none)) else none)) else none)) := by kernel_rfl
theorem spec_money.call : Callable Tryd.prog 9 := ⟨Tryd.f9, Tryd.func9, by kernel_rfl, by kernel_rfl⟩
theorem spec_money.ok (n : Nat) : FC Tryd.prog [] 9 { params := spec_money.ps, res := spec_money.res, run := spec_money n } :=
  evalF_ok (C := spec_money.C) ⟨tb_ok, fun n _ _ h => tabOk (l := [(15, { params := spec_number.ps, res := spec_number.res, run := spec_number n })]) (all_cons ⟨spec_number.ok n, spec_number.call⟩ (all_nil)) h, mixed, ar_ok, bld_ok, pts_ok⟩ spec_money.A Tryd.func9 spec_money.ps spec_money.res n
end Go.Proofs.YtifohlgdkdcpeaaDoorG
end
section
open Go Go.Refl Go.Proofs
set_option maxRecDepth 1000000
set_option maxHeartbeats 0
set_option linter.unusedVariables false
namespace Go.Proofs.YtifohlgdkdcpeaaDoorG
abbrev spec_reader_of.ps : List Pm := [.box 33 (.v (.pair (.slice (.int .u8)) (.int .i64))), .arg (.v (.slice .str))]
abbrev spec_reader_of.res : List M := [.v .str]
noncomputable def spec_reader_of.C : Cfg := { tb := tb, tab := fun n f => Refl.look [(11, { params := spec_reader_pick.ps, res := spec_reader_pick.res, run := spec_reader_pick n })] f, gl := [], ar := ar, bld := bld, pts := pts }
noncomputable def spec_reader_of.A : Ann := { joins := [], loops := [], ids := [(1, [(9, [])])], pids := [], nroots := 76 }
noncomputable def spec_reader_of (n : Nat) (x : (List Int × Int) × List ByteArray) : Option (ByteArray × List Int × Int) := evalF spec_reader_of.C spec_reader_of.A Tryd.f17 spec_reader_of.ps spec_reader_of.res n x
noncomputable def spec_reader_of.K0 (_ : Nat) : Kont (ByteArray × List Int × Int) := finK spec_reader_of.C (Func.results Tryd.f17).toList spec_reader_of.ps spec_reader_of.res
theorem spec_reader_of.eq (n : Nat) (x0 : List Int × Int) (x1 : List ByteArray) : spec_reader_of n (x0, x1) = ((spec_reader_pick n ((Prod.fst x0, Prod.snd x0), (↑(List.length x1) : Int))).bind fun y0 => (if 0 ≤ Prod.fst y0 then (if Prod.fst y0 < (↑(List.length x1) : Int) then some ((List.getD x1 (Int.toNat (Prod.fst y0)) ByteArray.empty, Prod.fst (Prod.snd y0), Prod.snd (Prod.snd y0))) else none) else none)) := by kernel_rfl
theorem spec_reader_of.call : Callable Tryd.prog 17 := ⟨Tryd.f17, Tryd.func17, by kernel_rfl, by kernel_rfl⟩
theorem spec_reader_of.ok (n : Nat) : FC Tryd.prog [] 17 { params := spec_reader_of.ps, res := spec_reader_of.res, run := spec_reader_of n } :=
  evalF_ok (C := spec_reader_of.C) ⟨tb_ok, fun n _ _ h => tabOk (l := [(11, { params := spec_reader_pick.ps, res := spec_reader_pick.res, run := spec_reader_pick n })]) (all_cons ⟨spec_reader_pick.ok n, spec_reader_pick.call⟩ (all_nil)) h, mixed, ar_ok, bld_ok, pts_ok⟩ spec_reader_of.A Tryd.func17 spec_reader_of.ps spec_reader_of.res n
end Go.Proofs.YtifohlgdkdcpeaaDoorG
end
section
open Go Go.Refl Go.Proofs
set_option maxRecDepth 1000000
set_option maxHeartbeats 0
set_option linter.unusedVariables false
namespace Go.Proofs.YtifohlgdkdcpeaaDoorG
abbrev spec_mutate.ps : List Pm := [.box 33 (.v (.pair (.slice (.int .u8)) (.int .i64))), .arg (.v .str)]
abbrev spec_mutate.res : List M := [.v .str]
noncomputable def spec_mutate.C : Cfg := { tb := tb, tab := fun n f => Refl.look [(11, { params := spec_reader_pick.ps, res := spec_reader_pick.res, run := spec_reader_pick n }), (17, { params := spec_reader_of.ps, res := spec_reader_of.res, run := spec_reader_of n })] f, gl := [], ar := ar, bld := bld, pts := pts }
noncomputable def spec_mutate.A : Ann := { joins := [(5, { live := [0, 1, 5, 12, 13], base := 45 })], loops := [], ids := [(1, [(9, [777777]), (10, [])]), (2, [(12, [])]), (6, [(24, []), (25, []), (29, [777777])]), (10, [(41, []), (42, [])])], pids := [], nroots := 109 }
noncomputable def spec_mutate (n : Nat) (x : (List Int × Int) × ByteArray) : Option (ByteArray × List Int × Int) := evalF spec_mutate.C spec_mutate.A Tryd.f12 spec_mutate.ps spec_mutate.res n x
noncomputable def spec_mutate.K0 (_ : Nat) : Kont (ByteArray × List Int × Int) := finK spec_mutate.C (Func.results Tryd.f12).toList spec_mutate.ps spec_mutate.res
noncomputable def spec_mutate.K1 (n : Nat) : Kont (ByteArray × List Int × Int) := seqK (fun s' k => evalC spec_mutate.C spec_mutate.A n (codeAt Tryd.f12 [1, 1, 1]) (cutAt spec_mutate.A.joins (codeAt Tryd.f12 [1, 1, 1]) s') k) (spec_mutate.K0 n)
noncomputable def spec_mutate.K2 (n : Nat) : Kont (ByteArray × List Int × Int) := blockK 0 (spec_mutate.K1 n)
noncomputable def spec_mutate.j5 (n : Nat) (x1 : ByteArray) (x5 : Int) (x12 : Int) (x13 : Bool) (r0_0 : List Int) (r0_1 : Int) : Option (ByteArray × List Int × Int) := evalC spec_mutate.C spec_mutate.A n (codeAt Tryd.f12 [1, 1, 0, 1, 0, 1]) (St.of 45 109 [(0, .ptr 0 0 0), (1, .val .str x1), (5, .val (.int .i64) x5), (12, .val (.int .i64) x12), (13, .val .bool x13)] [(0, .box 33 [.val (.slice (.int .u8)) r0_0, .val (.int .i64) r0_1])] [0]) (spec_mutate.K2 n)
theorem spec_mutate.eq (n : Nat) (x0 : List Int × Int) (x1 : ByteArray) : spec_mutate n (x0, x1) = ((Go.Refl.veilO (Go.RowKit.wrap64 ((↑(ByteArray.size x1) : Int) + 1))).bind fun y0 => ((spec_reader_pick n ((Prod.fst x0, Prod.snd x0), y0)).bind fun y1 => ((spec_reader_pick n ((Prod.fst (Prod.snd y1), Prod.snd (Prod.snd y1)), 5)).bind fun y2 => (if Prod.fst y2 = 0 then spec_mutate.j5 n (x1) (Prod.fst y1) (Prod.fst y2) (Decidable.decide (Prod.fst y2 = 0)) (Prod.fst (Prod.snd y2)) (Prod.snd (Prod.snd y2)) else spec_mutate.j5 n (x1) (Prod.fst y1) (Prod.fst y2) (Decidable.decide (Prod.fst y2 = 1)) (Prod.fst (Prod.snd y2)) (Prod.snd (Prod.snd y2)))))) := by kernel_rfl
theorem spec_mutate.j5_eq (n : Nat) (x1 : ByteArray) (x5 : Int) (x12 : Int) (x13 : Bool) (r0_0 : List Int) (r0_1 : Int) : spec_mutate.j5 n x1 x5 x12 x13 r0_0 r0_1 = (if (x13) = true then (if x5 < (↑(ByteArray.size x1) : Int) then (if 0 ≤ x5 then (if x5 ≤ (↑(ByteArray.size x1) : Int) then ((spec_reader_of n ((r0_0, r0_1), List.set (List.set (List.set (List.set (List.set (List.set (List.set (List.replicate 7 ByteArray.empty) 0 { data := #[(48 : UInt8)] }) 1 { data := #[(49 : UInt8)] }) 2 { data := #[(32 : UInt8)] }) 3 { data := #[(46 : UInt8)] }) 4 { data := #[(115 : UInt8)] }) 5 { data := #[(10 : UInt8)] }) 6 { data := #[(57 : UInt8)] })).bind fun y3 => (if ByteArray.size (ByteArray.extract x1 0 (Int.toNat x5)) + ByteArray.size (Prod.fst y3) ≤ Go.Refl.maxN then ((Go.Refl.veilO (Go.RowKit.wrap64 (x5 + 1))).bind fun y4 => (if 0 ≤ y4 then (if y4 ≤ (↑(ByteArray.size x1) : Int) then (if ByteArray.size (ByteArray.extract x1 0 (Int.toNat x5) ++ Prod.fst y3) + ByteArray.size (ByteArray.extract x1 (Int.toNat y4) (ByteArray.size x1)) ≤ Go.Refl.maxN then some ((ByteArray.extract x1 0 (Int.toNat x5) ++ Prod.fst y3 ++ ByteArray.extract x1 (Int.toNat y4) (ByteArray.size x1), Prod.fst (Prod.snd y3), Prod.snd (Prod.snd y3))) else none) else none) else none)) else none)) else none) else none) else some ((x1, r0_0, r0_1))) else (if x12 = 2 then (if 0 ≤ x5 then (if x5 ≤ (↑(ByteArray.size x1) : Int) then some ((ByteArray.extract x1 0 (Int.toNat x5), r0_0, r0_1)) else none) else none) else (if x12 = 3 then ((spec_reader_of n ((r0_0, r0_1), List.set (List.set (List.set (List.set (List.replicate 4 ByteArray.empty) 0 { data := #[(48 : UInt8)] }) 1 { data := #[(32 : UInt8)] }) 2 { data := #[(10 : UInt8)] }) 3 { data := #[(120 : UInt8)] })).bind fun y5 => (if ByteArray.size x1 + ByteArray.size (Prod.fst y5) ≤ Go.Refl.maxN then some ((x1 ++ Prod.fst y5, Prod.fst (Prod.snd y5), Prod.snd (Prod.snd y5))) else none)) else some ((x1, r0_0, r0_1))))) := by kernel_rfl
theorem spec_mutate.call : Callable Tryd.prog 12 := ⟨Tryd.f12, Tryd.func12, by kernel_rfl, by kernel_rfl⟩
theorem spec_mutate.ok (n : Nat) : FC Tryd.prog [] 12 { params := spec_mutate.ps, res := spec_mutate.res, run := spec_mutate n } :=
  evalF_ok (C := spec_mutate.C) ⟨tb_ok, fun n _ _ h => tabOk (l := [(11, { params := spec_reader_pick.ps, res := spec_reader_pick.res, run := spec_reader_pick n }), (17, { params := spec_reader_of.ps, res := spec_reader_of.res, run := spec_reader_of n })]) (all_cons ⟨spec_reader_pick.ok n, spec_reader_pick.call⟩ (all_cons ⟨spec_reader_of.ok n, spec_reader_of.call⟩ (all_nil))) h, mixed, ar_ok, bld_ok, pts_ok⟩ spec_mutate.A Tryd.func12 spec_mutate.ps spec_mutate.res n
end Go.Proofs.YtifohlgdkdcpeaaDoorG
end
section
open Go Go.Refl Go.Proofs
set_option maxRecDepth 1000000
set_option maxHeartbeats 0
set_option linter.unusedVariables false
namespace Go.Proofs.YtifohlgdkdcpeaaDoorG
abbrev spec_DrawReadMoney.ps : List Pm := [.arg (.v (.slice (.int .u8)))]
abbrev spec_DrawReadMoney.res : List M := [.v .str]
noncomputable def spec_DrawReadMoney.C : Cfg := { tb := tb, tab := fun n f => Refl.look [(8, { params := spec_newReader.ps, res := spec_newReader.res, run := spec_newReader n }), (10, { params := spec_anAmount.ps, res := spec_anAmount.res, run := spec_anAmount n }), (9, { params := spec_money.ps, res := spec_money.res, run := spec_money n }), (11, { params := spec_reader_pick.ps, res := spec_reader_pick.res, run := spec_reader_pick n }), (12, { params := spec_mutate.ps, res := spec_mutate.res, run := spec_mutate n })] f, gl := [], ar := ar, bld := bld, pts := pts }
noncomputable def spec_DrawReadMoney.A : Ann := { joins := [], loops := [], ids := [(2, [(8, []), (10, [])]), (3, [(12, [])]), (4, [(16, [])])], pids := [], nroots := 82 }
noncomputable def spec_DrawReadMoney (n : Nat) (x : List Int) : Option (ByteArray) := evalF spec_DrawReadMoney.C spec_DrawReadMoney.A Tryd.f4 spec_DrawReadMoney.ps spec_DrawReadMoney.res n x
noncomputable def spec_DrawReadMoney.K0 (_ : Nat) : Kont (ByteArray) := finK spec_DrawReadMoney.C (Func.results Tryd.f4).toList spec_DrawReadMoney.ps spec_DrawReadMoney.res
theorem spec_DrawReadMoney.eq (n : Nat) (x0 : List Int) : spec_DrawReadMoney n x0 = ((spec_newReader n x0).bind fun y0 => ((spec_anAmount n (Prod.fst y0, Prod.snd y0)).bind fun y1 => ((spec_money n (Go.Refl.mx (Prod.fst y1) 0)).bind fun y2 => ((spec_reader_pick n ((Prod.fst (Prod.snd y1), Prod.snd (Prod.snd y1)), 3)).bind fun y3 => (if Prod.fst y3 = 0 then ((spec_mutate n ((Prod.fst (Prod.snd y3), Prod.snd (Prod.snd y3)), y2)).bind fun y4 => some (Prod.fst y4)) else some (y2)))))) := by kernel_rfl
theorem spec_DrawReadMoney.call : Callable Tryd.prog 4 := ⟨Tryd.f4, Tryd.func4, by kernel_rfl, by kernel_rfl⟩
theorem spec_DrawReadMoney.ok (n : Nat) : FC Tryd.prog [] 4 { params := spec_DrawReadMoney.ps, res := spec_DrawReadMoney.res, run := spec_DrawReadMoney n } :=
  evalF_ok (C := spec_DrawReadMoney.C) ⟨tb_ok, fun n _ _ h => tabOk (l := [(8, { params := spec_newReader.ps, res := spec_newReader.res, run := spec_newReader n }), (10, { params := spec_anAmount.ps, res := spec_anAmount.res, run := spec_anAmount n }), (9, { params := spec_money.ps, res := spec_money.res, run := spec_money n }), (11, { params := spec_reader_pick.ps, res := spec_reader_pick.res, run := spec_reader_pick n }), (12, { params := spec_mutate.ps, res := spec_mutate.res, run := spec_mutate n })]) (all_cons ⟨spec_newReader.ok n, spec_newReader.call⟩ (all_cons ⟨spec_anAmount.ok n, spec_anAmount.call⟩ (all_cons ⟨spec_money.ok n, spec_money.call⟩ (all_cons ⟨spec_reader_pick.ok n, spec_reader_pick.call⟩ (all_cons ⟨spec_mutate.ok n, spec_mutate.call⟩ (all_nil)))))) h, mixed, ar_ok, bld_ok, pts_ok⟩ spec_DrawReadMoney.A Tryd.func4 spec_DrawReadMoney.ps spec_DrawReadMoney.res n
end Go.Proofs.YtifohlgdkdcpeaaDoorG
end
section
open Go Go.Refl Go.Proofs
set_option maxRecDepth 1000000
set_option maxHeartbeats 0
set_option linter.unusedVariables false
namespace Go.Proofs.YtifohlgdkdcpeaaDoorG
abbrev spec_readMoney.ps : List Pm := [.arg (.v .str)]
abbrev spec_readMoney.res : List M := [.v (.int .i64)]
noncomputable def spec_readMoney.C : Cfg := { tb := tb, tab := fun n f => Refl.look [] f, gl := [], ar := ar, bld := bld, pts := pts }
noncomputable def spec_readMoney.A : Ann := { joins := [], loops := [(5, { live := [0, 3, 4], base := 63 })], ids := [], pids := [], nroots := 127 }
noncomputable def spec_readMoney (n : Nat) (x : ByteArray) : Option (Int) := evalF spec_readMoney.C spec_readMoney.A Tryd.f13 spec_readMoney.ps spec_readMoney.res n x
noncomputable def spec_readMoney.K0 (_ : Nat) : Kont (Int) := finK spec_readMoney.C (Func.results Tryd.f13).toList spec_readMoney.ps spec_readMoney.res
noncomputable def spec_readMoney.K1 (n : Nat) : Kont (Int) := seqK (fun s' k => evalC spec_readMoney.C spec_readMoney.A n (codeAt Tryd.f13 [1, 1, 1, 1]) (cutAt spec_readMoney.A.joins (codeAt Tryd.f13 [1, 1, 1, 1]) s') k) (spec_readMoney.K0 n)
noncomputable def spec_readMoney.K2 (n : Nat) : Kont (Int) := blockK 0 (spec_readMoney.K1 n)
noncomputable def spec_readMoney.l5 (n m5 : Nat) (x0 : ByteArray) (x3 : Int) (x4 : Int) : Option (Int) := loopE (cutAt spec_readMoney.A.loops (codeAt Tryd.f13 [1, 1, 1, 0, 1, 0, 0])) (fun s k => evalC spec_readMoney.C spec_readMoney.A n (codeAt Tryd.f13 [1, 1, 1, 0, 1, 0, 0]) s k) m5 (St.of 63 127 [(0, .val .str x0), (3, .val (.int .i64) x3), (4, .val (.int .i64) x4)] [] []) (spec_readMoney.K2 n)
theorem spec_readMoney.eq (n : Nat) (x0 : ByteArray) : spec_readMoney n x0 = (if (↑(ByteArray.size x0) : Int) < 4 then some ((-1)) else (if (↑(ByteArray.size x0) : Int) > 10 then some ((-1)) else (if 0 ≤ Go.RowKit.wrap64 ((↑(ByteArray.size x0) : Int) - 3) then (if Go.RowKit.wrap64 ((↑(ByteArray.size x0) : Int) - 3) < (↑(ByteArray.size x0) : Int) then (if (↑(UInt8.toNat (List.getD (Array.toList (ByteArray.data x0)) (Int.toNat (Go.RowKit.wrap64 ((↑(ByteArray.size x0) : Int) - 3))) (0 : UInt8))) : Int) = 46 then (if 0 < (↑(ByteArray.size x0) : Int) then (if (↑(UInt8.toNat (List.getD (Array.toList (ByteArray.data x0)) (Int.toNat 0) (0 : UInt8))) : Int) = 48 then (if (↑(ByteArray.size x0) : Int) > 4 then some ((-1)) else spec_readMoney.l5 n n (x0) (0) (0)) else spec_readMoney.l5 n n (x0) (0) (0)) else none) else some ((-1))) else none) else none))) := by kernel_rfl
theorem spec_readMoney.l5_zero (n : Nat) (x0 : ByteArray) (x3 : Int) (x4 : Int) : spec_readMoney.l5 n 0 x0 x3 x4 = none := by kernel_rfl
theorem spec_readMoney.l5_succ (n m5 : Nat) (x0 : ByteArray) (x3 : Int) (x4 : Int) : spec_readMoney.l5 n (m5 + 1) x0 x3 x4 = (if x4 < (↑(ByteArray.size x0) : Int) then (if x4 = Go.RowKit.wrap64 ((↑(ByteArray.size x0) : Int) - 3) then spec_readMoney.l5 n m5 (x0) (x3) (Go.RowKit.wrap64 (x4 + 1)) else (if 0 ≤ x4 then (if x4 < (↑(ByteArray.size x0) : Int) then (if (↑(UInt8.toNat (List.getD (Array.toList (ByteArray.data x0)) (Int.toNat x4) (0 : UInt8))) : Int) < 48 then some ((-1)) else (if 0 ≤ x4 then (if x4 < (↑(ByteArray.size x0) : Int) then (if (↑(UInt8.toNat (List.getD (Array.toList (ByteArray.data x0)) (Int.toNat x4) (0 : UInt8))) : Int) > 57 then some ((-1)) else (if 0 ≤ x4 then (if x4 < (↑(ByteArray.size x0) : Int) then spec_readMoney.l5 n m5 (x0) (Go.RowKit.wrap64 (Go.RowKit.wrap64 (10 * x3) + Go.RowKit.wrap64 (((↑(UInt8.toNat (List.getD (Array.toList (ByteArray.data x0)) (Int.toNat x4) (0 : UInt8))) : Int) - 48) % 256))) (Go.RowKit.wrap64 (x4 + 1)) else none) else none)) else none) else none)) else none) else none)) else (if x3 > 1000000 then some ((-1)) else some (x3))) := by kernel_rfl
theorem spec_readMoney.call : Callable Tryd.prog 13 := ⟨Tryd.f13, Tryd.func13, by kernel_rfl, by kernel_rfl⟩
theorem spec_readMoney.ok (n : Nat) : FC Tryd.prog [] 13 { params := spec_readMoney.ps, res := spec_readMoney.res, run := spec_readMoney n } :=
  evalF_ok (C := spec_readMoney.C) ⟨tb_ok, fun n _ _ h => tabOk (l := []) (all_nil) h, mixed, ar_ok, bld_ok, pts_ok⟩ spec_readMoney.A Tryd.func13 spec_readMoney.ps spec_readMoney.res n
end Go.Proofs.YtifohlgdkdcpeaaDoorG
end
section
open Go Go.Refl Go.Proofs
set_option maxRecDepth 1000000
set_option maxHeartbeats 0
set_option linter.unusedVariables false
namespace Go.Proofs.YtifohlgdkdcpeaaDoorG
abbrev spec_ReadMoney.ps : List Pm := [.arg (.v .str)]
abbrev spec_ReadMoney.res : List M := [.v (.int .i64)]
noncomputable def spec_ReadMoney.C : Cfg := { tb := tb, tab := fun n f => Refl.look [(13, { params := spec_readMoney.ps, res := spec_readMoney.res, run := spec_readMoney n })] f, gl := [], ar := ar, bld := bld, pts := pts }
noncomputable def spec_ReadMoney.A : Ann := { joins := [], loops := [], ids := [(1, [(4, [])])], pids := [], nroots := 69 }
noncomputable def spec_ReadMoney (n : Nat) (x : ByteArray) : Option (Int) := evalF spec_ReadMoney.C spec_ReadMoney.A Tryd.f6 spec_ReadMoney.ps spec_ReadMoney.res n x
noncomputable def spec_ReadMoney.K0 (_ : Nat) : Kont (Int) := finK spec_ReadMoney.C (Func.results Tryd.f6).toList spec_ReadMoney.ps spec_ReadMoney.res
theorem spec_ReadMoney.eq (n : Nat) (x0 : ByteArray) : spec_ReadMoney n x0 = ((spec_readMoney n x0).bind fun y0 => some (y0)) := by kernel_rfl
theorem spec_ReadMoney.call : Callable Tryd.prog 6 := ⟨Tryd.f6, Tryd.func6, by kernel_rfl, by kernel_rfl⟩
theorem spec_ReadMoney.ok (n : Nat) : FC Tryd.prog [] 6 { params := spec_ReadMoney.ps, res := spec_ReadMoney.res, run := spec_ReadMoney n } :=
  evalF_ok (C := spec_ReadMoney.C) ⟨tb_ok, fun n _ _ h => tabOk (l := [(13, { params := spec_readMoney.ps, res := spec_readMoney.res, run := spec_readMoney n })]) (all_cons ⟨spec_readMoney.ok n, spec_readMoney.call⟩ (all_nil)) h, mixed, ar_ok, bld_ok, pts_ok⟩ spec_ReadMoney.A Tryd.func6 spec_ReadMoney.ps spec_ReadMoney.res n
end Go.Proofs.YtifohlgdkdcpeaaDoorG
end
section
open Go Go.Refl Go.Proofs
set_option maxRecDepth 1000000
set_option maxHeartbeats 0
set_option linter.unusedVariables false
namespace Go.Proofs.YtifohlgdkdcpeaaDoorG
abbrev laws_FnReadMoney.ps : List Pm := [.arg (.v (.slice (.int .u8)))]
abbrev laws_FnReadMoney.res : List M := [.v .bool]
noncomputable def laws_FnReadMoney.C : Cfg := { tb := tb, tab := fun n f => Refl.look [(4, { params := spec_DrawReadMoney.ps, res := spec_DrawReadMoney.res, run := spec_DrawReadMoney n }), (5, { params := impl_ReadMoney.ps, res := impl_ReadMoney.res, run := impl_ReadMoney n }), (6, { params := spec_ReadMoney.ps, res := spec_ReadMoney.res, run := spec_ReadMoney n }), (7, { params := impl_ShowMoney.ps, res := impl_ShowMoney.res, run := impl_ShowMoney n })] f, gl := [g0], ar := ar, bld := bld, pts := pts }
noncomputable def laws_FnReadMoney.A : Ann := { joins := [], loops := [], ids := [(3, [(9, [])]), (4, [(11, [])]), (5, [(14, [])]), (6, [(22, [])]), (7, [(25, [])])], pids := [], nroots := 92 }
noncomputable def laws_FnReadMoney (n : Nat) (x : List Int) : Option (Bool) := evalF laws_FnReadMoney.C laws_FnReadMoney.A Tryd.f3 laws_FnReadMoney.ps laws_FnReadMoney.res n x
noncomputable def laws_FnReadMoney.K0 (_ : Nat) : Kont (Bool) := finK laws_FnReadMoney.C (Func.results Tryd.f3).toList laws_FnReadMoney.ps laws_FnReadMoney.res
theorem laws_FnReadMoney.eq (n : Nat) (x0 : List Int) : laws_FnReadMoney n x0 = (if (↑(List.length x0) : Int) > 1048576 then some (Bool.true) else ((spec_DrawReadMoney n x0).bind fun y0 => ((impl_ReadMoney n y0).bind fun y1 => ((spec_ReadMoney n y0).bind fun y2 => (if y1 = y2 then (if y1 < 0 then ((spec_ReadMoney n y0).bind fun y3 => some (Decidable.decide (y1 = y3))) else ((impl_ShowMoney n y1).bind fun y4 => some (Decidable.decide (y4 = y0)))) else ((spec_ReadMoney n y0).bind fun y5 => some (Decidable.decide (y1 = y5)))))))) := by kernel_rfl
theorem laws_FnReadMoney.call : Callable Tryd.prog 3 := ⟨Tryd.f3, Tryd.func3, by kernel_rfl, by kernel_rfl⟩
theorem laws_FnReadMoney.ok (n : Nat) : FC Tryd.prog [g0] 3 { params := laws_FnReadMoney.ps, res := laws_FnReadMoney.res, run := laws_FnReadMoney n } :=
  evalF_ok (C := laws_FnReadMoney.C) ⟨tb_ok, fun n _ _ h => tabOk (l := [(4, { params := spec_DrawReadMoney.ps, res := spec_DrawReadMoney.res, run := spec_DrawReadMoney n }), (5, { params := impl_ReadMoney.ps, res := impl_ReadMoney.res, run := impl_ReadMoney n }), (6, { params := spec_ReadMoney.ps, res := spec_ReadMoney.res, run := spec_ReadMoney n }), (7, { params := impl_ShowMoney.ps, res := impl_ShowMoney.res, run := impl_ShowMoney n })]) (all_cons ⟨(.mono (gl := []) (gl' := [g0]) (all_nil) (spec_DrawReadMoney.ok n)), spec_DrawReadMoney.call⟩ (all_cons ⟨impl_ReadMoney.ok n, impl_ReadMoney.call⟩ (all_cons ⟨(.mono (gl := []) (gl' := [g0]) (all_nil) (spec_ReadMoney.ok n)), spec_ReadMoney.call⟩ (all_cons ⟨impl_ShowMoney.ok n, impl_ShowMoney.call⟩ (all_nil))))) h, mixed, ar_ok, bld_ok, pts_ok⟩ laws_FnReadMoney.A Tryd.func3 laws_FnReadMoney.ps laws_FnReadMoney.res n
end Go.Proofs.YtifohlgdkdcpeaaDoorG
end
