import Derived.Test.YtpgfkoeodhfkgaaDoorProg
import Derived.Test.YtpgfkoeodhfkgaaDoorB2
/- FnExactFormatBook: functions, gone through by the small machine. No condition. -/
set_option linter.unusedVariables false
set_option linter.unusedSimpArgs false
section
set_option linter.unusedVariables false
namespace Go.Proofs
open Go Go.Shelf Go.RowKit Go.Refl
set_option maxHeartbeats 2000000 in
set_option maxRecDepth 100000 in
theorem Tryd.cc : CcOk Tryd.prog 80 71 := by
  intro b p v w hbk hp
  have X1 : (Tryd.prog.info? 71).map (·.size) = some 2 := by kernel_rfl
  have X2 : liesAt Tryd.prog Tryd.prog.depth 71 (2 / Tryd.prog.cellsOf 71) 0 71 1 = true := by kernel_rfl
  obtain ⟨j, hj, hjs⟩ := Option.map_eq_some_iff.1 X1
  have u72 := run_underlying (P := Tryd.prog) Tryd.underlying71
  have u70 := run_underlying (P := Tryd.prog) Tryd.underlying69
  have u164 := run_underlying (P := Tryd.prog) Tryd.underlying117
  rcases hp with rfl | rfl
  · have h0 : w.cell? ⟨b, 0, none⟩ = some (.pointer none) := by rw [Lib.cell_of_heap hbk]; rfl
    have hsh : w.shape? b = some (71, 2) := by simp [World.shape?, hbk]
    have hfz : w.frozen? ⟨b, 0, none⟩ = false := Lib.frozen_of_heap hbk 0
    suffices hs : Calls Tryd.prog 80 #[.pointer (some ⟨b, 0, none⟩)] w fun e w' => e = .returned (.tuple #[]) ∧ w' = w.setCell ⟨b, 0, none⟩ (.pointer (some ⟨b, 0, none⟩)) by
      refine hs.mono ?_
      rintro e w' ⟨rfl, rfl⟩
      exact ⟨rfl, by simp [World.setCell, Array.getElem?_modify, hbk], evol_set w b 0 _, by simp [World.setCell]⟩
    go_enter Tryd.func80, Tryd.ntmps80
    go_wp2
    rw [Lib.run_to_unsafe w ⟨b, 0, none⟩ Tryd.underlying69 Tryd.underlying117 hj (by rw [hjs]; decide) hsh (Nat.zero_lt_succ 1)]
    simp only [Result.andThen]
    rw [Oper.upon_value]
    go_wp2
    rw [run_callFunc_extern Tryd.func100 (by kernel_rfl) (by kernel_rfl) (by kernel_rfl) (e := Extern.AbiNoEscape.same) (by kernel_rfl)]
    rw [Lib.run_noEscape]
    simp only [Result.andThen]
    rw [Oper.upon_value]
    go_wp2
    rw [Lib.run_from_unsafe w ⟨b, 0, none⟩ Tryd.underlying117 Tryd.underlying69 hj hsh X2]
    simp only [Result.andThen]
    rw [Oper.upon_value]
    go_wp2
    go_end0
    exact ⟨rfl, rfl⟩
  · have h0 : w.cell? ⟨b, 0, none⟩ = some (.pointer (some ⟨b, 0, none⟩)) := by rw [Lib.cell_of_heap hbk]; rfl
    suffices hs : Calls Tryd.prog 80 #[.pointer (some ⟨b, 0, none⟩)] w fun e w' => e = .returned (.tuple #[]) ∧ w' = w by
      refine hs.mono ?_
      rintro e w' ⟨rfl, rfl⟩
      exact ⟨rfl, hbk, ⟨rfl, rfl, rfl, Nat.le_refl _, fun _ _ _ => rfl⟩, rfl⟩
    go_enter Tryd.func80, Tryd.ntmps80
    go_wp2
    rw [Lib.run_neq_ptr_same w _ Tryd.underlying69 hj]
    go_wp2
    go_end0
    exact ⟨rfl, rfl⟩
def Tryd.lays169_ren : Go.Shelf.Ren := ⟨fun | 169 => 49 | n => n, fun | 70 => 69 | 9 => 9 | 0 => 0 | 72 => 71 | 37 => 49 | 127 => 104 | 3 => 3 | 5 => 5 | n => n, fun | n => n⟩
theorem Tryd.lays169 : Go.Proofs.Lays.n169 Tryd.prog Tryd.lays169_ren := {
  mixed := by kernel_rfl
  f169 := Tryd.func49.trans (congrArg some (by kernel_rfl))
  t0 := Tryd.underlying0
  a0 := Tryd.isAgg0
  z0 := Tryd.sizeOf0
  v0 := Tryd.zeroValue0
  t3 := Tryd.underlying3
  a3 := Tryd.isAgg3
  z3 := Tryd.sizeOf3
  v3 := Tryd.zeroValue3
  t9 := Tryd.underlying9
  a9 := Tryd.isAgg9
  z9 := Tryd.sizeOf9
  v9 := Tryd.zeroValue9
  t37 := Tryd.underlying49
  a37 := Tryd.isAgg49
  z37 := Tryd.sizeOf49
  v37 := Tryd.zeroValue49
  t70 := Tryd.underlying69
  a70 := Tryd.isAgg69
  z70 := Tryd.sizeOf69
  v70 := Tryd.zeroValue69
  t72 := Tryd.underlying71
  a72 := Tryd.isAgg71
  z72 := Tryd.sizeOf71
  v72 := Tryd.zeroValue71
  t127 := Tryd.underlying104
  a127 := Tryd.isAgg104
  z127 := Tryd.sizeOf104
  v127 := Tryd.zeroValue104 }
theorem Tryd.Builder_Extra_169 : Builder.Extra Tryd.prog Tryd.lays169_ren := {
  sizeBuilder := by kernel_rfl
  liesBuilder := by kernel_rfl
  t5 := Tryd.underlying5
  a5 := Tryd.isAgg5
  z5 := Tryd.sizeOf5
  v5 := Tryd.zeroValue5
  infoByte := by kernel_rfl
  cellsByte := by kernel_rfl
  sizeByte := by kernel_rfl
  neB5 := by decide }
def Tryd.laysM171_ren : Go.Shelf.Ren := ⟨fun | 171 => 47 | 243 => 81 | 246 => 101 | 283 => 111 | 284 => 112 | 285 => 113 | 286 => 114 | 129 => 128 | 317 => 127 | 318 => 129 | 319 => 130 | 320 => 131 | 337 => 137 | 338 => 138 | n => n, fun | 3 => 3 | 9 => 9 | 2 => 2 | 4 => 4 | 171 => 125 | 0 => 0 | 53 => 126 | 37 => 49 | 5 => 5 | 173 => 129 | 212 => 141 | 51 => 142 | 20 => 20 | 213 => 143 | 46 => 139 | 232 => 162 | 233 => 163 | n => n, fun | 17 => 2 | 18 => 7 | 19 => 8 | n => n⟩
theorem Tryd.laysM171 : Go.Proofs.LaysM.n171 Tryd.prog Tryd.laysM171_ren := {
  mixed := by kernel_rfl
  f129 := Tryd.func128.trans (congrArg some (by kernel_rfl))
  f171 := Tryd.func47.trans (congrArg some (by kernel_rfl))
  f243 := Tryd.func81.trans (congrArg some (by kernel_rfl))
  f246 := Tryd.func101.trans (congrArg some (by kernel_rfl))
  f283 := Tryd.func111.trans (congrArg some (by kernel_rfl))
  f284 := Tryd.func112.trans (congrArg some (by kernel_rfl))
  f285 := Tryd.func113.trans (congrArg some (by kernel_rfl))
  f286 := Tryd.func114.trans (congrArg some (by kernel_rfl))
  f317 := Tryd.func127.trans (congrArg some (by kernel_rfl))
  f318 := Tryd.func129.trans (congrArg some (by kernel_rfl))
  f319 := Tryd.func130.trans (congrArg some (by kernel_rfl))
  f320 := Tryd.func131.trans (congrArg some (by kernel_rfl))
  f337 := Tryd.func137.trans (congrArg some (by kernel_rfl))
  f338 := Tryd.func138.trans (congrArg some (by kernel_rfl))
  t0 := Tryd.underlying0
  a0 := Tryd.isAgg0
  z0 := Tryd.sizeOf0
  v0 := Tryd.zeroValue0
  t2 := Tryd.underlying2
  a2 := Tryd.isAgg2
  z2 := Tryd.sizeOf2
  v2 := Tryd.zeroValue2
  t3 := Tryd.underlying3
  a3 := Tryd.isAgg3
  z3 := Tryd.sizeOf3
  v3 := Tryd.zeroValue3
  t4 := Tryd.underlying4
  a4 := Tryd.isAgg4
  z4 := Tryd.sizeOf4
  v4 := Tryd.zeroValue4
  t5 := Tryd.underlying5
  a5 := Tryd.isAgg5
  z5 := Tryd.sizeOf5
  v5 := Tryd.zeroValue5
  t9 := Tryd.underlying9
  a9 := Tryd.isAgg9
  z9 := Tryd.sizeOf9
  v9 := Tryd.zeroValue9
  t20 := Tryd.underlying20
  a20 := Tryd.isAgg20
  z20 := Tryd.sizeOf20
  v20 := Tryd.zeroValue20
  t37 := Tryd.underlying49
  a37 := Tryd.isAgg49
  z37 := Tryd.sizeOf49
  v37 := Tryd.zeroValue49
  t46 := Tryd.underlying139
  a46 := Tryd.isAgg139
  z46 := Tryd.sizeOf139
  v46 := Tryd.zeroValue139
  t51 := Tryd.underlying142
  a51 := Tryd.isAgg142
  z51 := Tryd.sizeOf142
  v51 := Tryd.zeroValue142
  t53 := Tryd.underlying126
  a53 := Tryd.isAgg126
  z53 := Tryd.sizeOf126
  v53 := Tryd.zeroValue126
  t171 := Tryd.underlying125
  a171 := Tryd.isAgg125
  z171 := Tryd.sizeOf125
  v171 := Tryd.zeroValue125
  t173 := Tryd.underlying129
  a173 := Tryd.isAgg129
  z173 := Tryd.sizeOf129
  v173 := Tryd.zeroValue129
  t212 := Tryd.underlying141
  a212 := Tryd.isAgg141
  z212 := Tryd.sizeOf141
  v212 := Tryd.zeroValue141
  t213 := Tryd.underlying143
  a213 := Tryd.isAgg143
  z213 := Tryd.sizeOf143
  t232 := Tryd.underlying162
  a232 := Tryd.isAgg162
  z232 := Tryd.sizeOf162
  v232 := Tryd.zeroValue162
  t233 := Tryd.underlying163
  a233 := Tryd.isAgg163
  z233 := Tryd.sizeOf163
  v233 := Tryd.zeroValue163
  g17 := by kernel_rfl
  g18 := by kernel_rfl
  g19 := by kernel_rfl
  i0 := by kernel_rfl
  i2 := by kernel_rfl
  i3 := by kernel_rfl
  i4 := by kernel_rfl
  i5 := by kernel_rfl
  i9 := by kernel_rfl
  i20 := by kernel_rfl
  i37 := by kernel_rfl
  i46 := by kernel_rfl
  i51 := by kernel_rfl
  i53 := by kernel_rfl
  i171 := by kernel_rfl
  i173 := by kernel_rfl
  i212 := by kernel_rfl
  i232 := by kernel_rfl
  i233 := by kernel_rfl
  m17 := by kernel_rfl
  m18 := by kernel_rfl
  m19 := by kernel_rfl }
def Tryd.ws_ren : Go.Shelf.Ren := ⟨fun | 166 => 46 | 240 => 80 | n => n, fun | 70 => 69 | 9 => 9 | 0 => 0 | 72 => 71 | 37 => 49 | 127 => 104 | 3 => 3 | 5 => 5 | 75 => 73 | n => n, fun | n => n⟩
theorem Tryd.wsL : WsL Tryd.prog Tryd.ws_ren := {
  mixed := by kernel_rfl
  f166 := Tryd.func46.trans (congrArg some (by kernel_rfl))
  e240 := enters_of Tryd.func80 (by kernel_rfl) rfl
  cc := Tryd.cc
  t0 := Tryd.underlying0
  a0 := Tryd.isAgg0
  z0 := Tryd.sizeOf0
  v0 := Tryd.zeroValue0
  t3 := Tryd.underlying3
  a3 := Tryd.isAgg3
  z3 := Tryd.sizeOf3
  v3 := Tryd.zeroValue3
  t9 := Tryd.underlying9
  a9 := Tryd.isAgg9
  z9 := Tryd.sizeOf9
  v9 := Tryd.zeroValue9
  t37 := Tryd.underlying49
  a37 := Tryd.isAgg49
  z37 := Tryd.sizeOf49
  v37 := Tryd.zeroValue49
  t70 := Tryd.underlying69
  a70 := Tryd.isAgg69
  z70 := Tryd.sizeOf69
  v70 := Tryd.zeroValue69
  t72 := Tryd.underlying71
  a72 := Tryd.isAgg71
  z72 := Tryd.sizeOf71
  v72 := Tryd.zeroValue71 }
theorem Tryd.wsX : Builder.Extra Tryd.prog Tryd.ws_ren := {
  sizeBuilder := by kernel_rfl
  liesBuilder := by kernel_rfl
  t5 := Tryd.underlying5
  a5 := Tryd.isAgg5
  z5 := Tryd.sizeOf5
  v5 := Tryd.zeroValue5
  infoByte := by kernel_rfl
  cellsByte := by kernel_rfl
  sizeByte := by kernel_rfl
  neB5 := by decide }
end Go.Proofs
end
section
open Go Go.Refl Go.Proofs
set_option maxRecDepth 1000000
set_option maxHeartbeats 0
set_option linter.unusedVariables false
namespace Go.Proofs.YtpgfkoeodhfkgaaDoorG
noncomputable def ar : List (Nat × AI) := [(84, { n := 8, E := 9, e := .str }), (125, { n := 24, E := 5, e := (.int .u8) }), (141, { n := 20, E := 126, e := (.int .u64) }), (162, { n := 32, E := 5, e := (.int .u8) }), (163, { n := 64, E := 5, e := (.int .u8) })]
noncomputable def bld : List (Nat × Nat) := [(70, 5), (71, 5)]
theorem ar84 : AOk Tryd.prog 84 { n := 8, E := 9, e := .str } := .of (by kernel_rfl) (by kernel_rfl) (by kernel_rfl) (by kernel_rfl) rfl
theorem ar125 : AOk Tryd.prog 125 { n := 24, E := 5, e := (.int .u8) } := .of (by kernel_rfl) (by kernel_rfl) (by kernel_rfl) (by kernel_rfl) rfl
theorem ar141 : AOk Tryd.prog 141 { n := 20, E := 126, e := (.int .u64) } := .of (by kernel_rfl) (by kernel_rfl) (by kernel_rfl) (by kernel_rfl) rfl
theorem ar162 : AOk Tryd.prog 162 { n := 32, E := 5, e := (.int .u8) } := .of (by kernel_rfl) (by kernel_rfl) (by kernel_rfl) (by kernel_rfl) rfl
theorem ar163 : AOk Tryd.prog 163 { n := 64, E := 5, e := (.int .u8) } := .of (by kernel_rfl) (by kernel_rfl) (by kernel_rfl) (by kernel_rfl) rfl
theorem bld70 : BOk Tryd.prog 70 := .of (by kernel_rfl) (by kernel_rfl)
theorem bld71 : BOk Tryd.prog 71 := .of (by kernel_rfl) (by kernel_rfl)
theorem ar_ok : ∀ T ai, Refl.look ar T = some ai → AOk Tryd.prog T ai := arOk (all_cons ar84 (all_cons ar125 (all_cons ar141 (all_cons ar162 (all_cons ar163 (all_nil))))))
theorem bld_ok : ∀ T E, Refl.look bld T = some E → BOk Tryd.prog T := bldOk (all_cons bld70 (all_cons bld71 (all_nil)))
noncomputable def g0 : Nat × GItem := (0, .row ⟨.str, [⟨#[106, 111, 105, 110]⟩, ⟨#[115, 97, 118, 101]⟩, ⟨#[116, 97, 107, 101]⟩, ⟨#[108, 101, 110, 100]⟩, ⟨#[114, 101, 112, 97, 121]⟩, ⟨#[102, 97, 105, 108]⟩, ⟨#[110, 105, 103, 104, 116]⟩, ⟨#[115, 104, 97, 114, 101]⟩]⟩)
noncomputable def g2 : Nat × GItem := (2, .row ⟨.int .u64, Lib.pow10Tab⟩)
noncomputable def g3 : Nat × GItem := (3, .iface)
noncomputable def g4 : Nat × GItem := (4, .iface)
noncomputable def tb : List (Nat × TI) := [(2, { ty := (.int .i64), eqOk := true }),
  (3, { ty := (.int .i64), eqOk := true }),
  (4, { ty := .bool, eqOk := true }),
  (5, { ty := (.int .u8), eqOk := true }),
  (6, { ty := (.int .u8), eqOk := true }),
  (7, { ty := (.pair (.int .i64) (.pair (.int .i64) (.pair .bool (.int .u8)))), offs := [0, 1, 2, 3], szs := [1, 1, 1, 1], eqOk := true }),
  (8, { ty := (.pair (.int .i64) (.pair (.int .i64) (.pair .bool (.int .u8)))), offs := [0, 1, 2, 3], szs := [1, 1, 1, 1], eqOk := true }),
  (9, { ty := .str, eqOk := true }),
  (10, { ty := .str, eqOk := true }),
  (11, { ty := .str, eqOk := true }),
  (12, { ty := (.int .u64), eqOk := true }),
  (13, { ty := (.pair .str (.int .u64)), offs := [0, 1], szs := [1, 1] }),
  (14, { ty := (.pair .str (.int .u64)), offs := [0, 1], szs := [1, 1] }),
  (21, { ty := (.int .i32), eqOk := true }),
  (22, { ty := (.slice (.pair (.int .i64) (.pair (.int .i64) (.pair (.int .i64) (.int .i64))))), elem := 68 }),
  (25, { ty := (.slice (.pair (.int .i64) (.pair (.int .i64) (.pair (.int .i64) (.int .i64))))), elem := 66 }),
  (29, { ty := (.slice (.int .i64)), elem := 3 }),
  (30, { ty := (.pair (.int .i64) (.int .i64)), offs := [0, 1], szs := [1, 1], eqOk := true }),
  (31, { ty := (.pair (.int .i64) (.int .i64)), offs := [0, 1], szs := [1, 1], eqOk := true }),
  (32, { ty := (.pair (.int .i64) (.pair (.int .i64) (.pair (.int .i64) (.pair (.int .i64) (.pair (.slice (.int .i64)) (.pair (.int .i64) (.int .i64))))))), offs := [0, 1, 2, 3, 4, 5], szs := [1, 1, 1, 1, 1, 2] }),
  (33, { ty := (.pair (.int .i64) (.pair (.int .i64) (.pair (.int .i64) (.pair (.int .i64) (.pair (.slice (.int .i64)) (.pair (.int .i64) (.int .i64))))))), offs := [0, 1, 2, 3, 4, 5], szs := [1, 1, 1, 1, 1, 2] }),
  (36, { ty := (.pair (.int .i64) (.int .i64)), offs := [0, 1], szs := [1, 1], eqOk := true }),
  (37, { ty := (.pair (.int .i64) (.pair (.int .i64) (.pair (.int .i64) (.pair (.int .i64) (.pair (.slice (.int .i64)) (.pair (.int .i64) (.int .i64))))))), offs := [0, 1, 2, 3, 4, 5], szs := [1, 1, 1, 1, 1, 2] }),
  (38, { ty := (.pair (.int .i64) (.pair (.int .i64) (.pair (.int .i64) (.pair (.int .i64) (.pair (.slice (.int .i64)) (.pair (.int .i64) (.int .i64))))))), offs := [0, 1, 2, 3, 4, 5], szs := [1, 1, 1, 1, 1, 2] }),
  (42, { ty := (.slice (.pair (.int .i64) (.pair (.int .i64) (.pair (.int .i64) (.pair (.int .i64) (.pair (.slice (.int .i64)) (.pair (.int .i64) (.int .i64)))))))), elem := 33 }),
  (45, { ty := (.slice (.pair (.int .i64) (.pair (.int .i64) (.pair (.int .i64) (.pair (.int .i64) (.pair (.slice (.int .i64)) (.pair (.int .i64) (.int .i64)))))))), elem := 38 }),
  (49, { ty := (.slice (.int .u8)), elem := 5 }),
  (65, { ty := (.pair (.int .i64) (.pair (.int .i64) (.pair (.int .i64) (.int .i64)))), offs := [0, 1, 2, 3], szs := [1, 1, 1, 1], eqOk := true }),
  (66, { ty := (.pair (.int .i64) (.pair (.int .i64) (.pair (.int .i64) (.int .i64)))), offs := [0, 1, 2, 3], szs := [1, 1, 1, 1], eqOk := true }),
  (68, { ty := (.pair (.int .i64) (.pair (.int .i64) (.pair (.int .i64) (.int .i64)))), offs := [0, 1, 2, 3], szs := [1, 1, 1, 1], eqOk := true }),
  (72, { ty := .err }),
  (73, { ty := .err }),
  (94, { ty := (.slice .str), elem := 9 }),
  (110, { ty := (.pair (.slice (.int .u8)) (.int .i64)), offs := [0, 1], szs := [1, 1] }),
  (111, { ty := (.pair (.slice (.int .u8)) (.int .i64)), offs := [0, 1], szs := [1, 1] }),
  (126, { ty := (.int .u64), eqOk := true }),
  (133, { ty := (.int .i64), eqOk := true }),
  (139, { ty := (.int .u64), eqOk := true }),
  (142, { ty := (.int .u32), eqOk := true }),
  (148, { ty := (.pair .str (.pair .str .err)), offs := [0, 1, 2], szs := [1, 1, 1] }),
  (149, { ty := (.pair .str (.pair .str .err)), offs := [0, 1, 2], szs := [1, 1, 1] }),
  (155, { ty := (.pair (.int .u8) (.int .u8)), offs := [0, 1], szs := [1, 1], eqOk := true }),
  (156, { ty := (.pair (.int .u8) (.int .u8)), offs := [0, 1], szs := [1, 1], eqOk := true }),
  (170, { ty := (.int .u8), eqOk := true }),
  (171, { ty := (.int .u8), eqOk := true }),
  (173, { ty := (.int .i32), eqOk := true }),
  (174, { ty := (.int .i32), eqOk := true })]
theorem t2 : TOk Tryd.prog tb 2 { ty := (.int .i64), eqOk := true } := .of (by kernel_rfl) (by kernel_rfl) (by show _ = _; kernel_rfl) (fun h => eqOk_int)
theorem t3 : TOk Tryd.prog tb 3 { ty := (.int .i64), eqOk := true } := .of (by kernel_rfl) (by kernel_rfl) (by show _ = _; kernel_rfl) (fun h => eqOk_int)
theorem t4 : TOk Tryd.prog tb 4 { ty := .bool, eqOk := true } := .of (by kernel_rfl) (by kernel_rfl) (by show _ = _; kernel_rfl) (fun h => eqOk_bool (by kernel_rfl))
theorem t5 : TOk Tryd.prog tb 5 { ty := (.int .u8), eqOk := true } := .of (by kernel_rfl) (by kernel_rfl) (by show _ = _; kernel_rfl) (fun h => eqOk_int)
theorem t6 : TOk Tryd.prog tb 6 { ty := (.int .u8), eqOk := true } := .of (by kernel_rfl) (by kernel_rfl) (by show _ = _; kernel_rfl) (fun h => eqOk_int)
theorem t7 : TOk Tryd.prog tb 7 { ty := (.pair (.int .i64) (.pair (.int .i64) (.pair .bool (.int .u8)))), offs := [0, 1, 2, 3], szs := [1, 1, 1, 1], eqOk := true } := .of (by kernel_rfl) (by kernel_rfl) (descOk_struct rfl (by kernel_rfl)) (fun h => eqOk_struct rfl (by kernel_rfl) (by kernel_rfl))
theorem t8 : TOk Tryd.prog tb 8 { ty := (.pair (.int .i64) (.pair (.int .i64) (.pair .bool (.int .u8)))), offs := [0, 1, 2, 3], szs := [1, 1, 1, 1], eqOk := true } := .of (by kernel_rfl) (by kernel_rfl) (descOk_struct rfl (by kernel_rfl)) (fun h => eqOk_struct rfl (by kernel_rfl) (by kernel_rfl))
theorem t9 : TOk Tryd.prog tb 9 { ty := .str, eqOk := true } := .of (by kernel_rfl) (by kernel_rfl) (by show _ = _; kernel_rfl) (fun h => eqOk_str)
theorem t10 : TOk Tryd.prog tb 10 { ty := .str, eqOk := true } := .of (by kernel_rfl) (by kernel_rfl) (by show _ = _; kernel_rfl) (fun h => eqOk_str)
theorem t11 : TOk Tryd.prog tb 11 { ty := .str, eqOk := true } := .of (by kernel_rfl) (by kernel_rfl) (by show _ = _; kernel_rfl) (fun h => eqOk_str)
theorem t12 : TOk Tryd.prog tb 12 { ty := (.int .u64), eqOk := true } := .of (by kernel_rfl) (by kernel_rfl) (by show _ = _; kernel_rfl) (fun h => eqOk_int)
theorem t13 : TOk Tryd.prog tb 13 { ty := (.pair .str (.int .u64)), offs := [0, 1], szs := [1, 1] } := .of (by kernel_rfl) (by kernel_rfl) (descOk_struct rfl (by kernel_rfl)) (fun h => by cases h)
theorem t14 : TOk Tryd.prog tb 14 { ty := (.pair .str (.int .u64)), offs := [0, 1], szs := [1, 1] } := .of (by kernel_rfl) (by kernel_rfl) (descOk_struct rfl (by kernel_rfl)) (fun h => by cases h)
theorem t21 : TOk Tryd.prog tb 21 { ty := (.int .i32), eqOk := true } := .of (by kernel_rfl) (by kernel_rfl) (by show _ = _; kernel_rfl) (fun h => eqOk_int)
theorem t22 : TOk Tryd.prog tb 22 { ty := (.slice (.pair (.int .i64) (.pair (.int .i64) (.pair (.int .i64) (.int .i64))))), elem := 68 } := .of (by kernel_rfl) (by kernel_rfl) (⟨by kernel_rfl, { ty := (.pair (.int .i64) (.pair (.int .i64) (.pair (.int .i64) (.int .i64)))), offs := [0, 1, 2, 3], szs := [1, 1, 1, 1], eqOk := true }, by kernel_rfl, by kernel_rfl⟩) (fun h => by cases h)
theorem t25 : TOk Tryd.prog tb 25 { ty := (.slice (.pair (.int .i64) (.pair (.int .i64) (.pair (.int .i64) (.int .i64))))), elem := 66 } := .of (by kernel_rfl) (by kernel_rfl) (⟨by kernel_rfl, { ty := (.pair (.int .i64) (.pair (.int .i64) (.pair (.int .i64) (.int .i64)))), offs := [0, 1, 2, 3], szs := [1, 1, 1, 1], eqOk := true }, by kernel_rfl, by kernel_rfl⟩) (fun h => by cases h)
theorem t29 : TOk Tryd.prog tb 29 { ty := (.slice (.int .i64)), elem := 3 } := .of (by kernel_rfl) (by kernel_rfl) (⟨by kernel_rfl, { ty := (.int .i64), eqOk := true }, by kernel_rfl, by kernel_rfl⟩) (fun h => by cases h)
theorem t30 : TOk Tryd.prog tb 30 { ty := (.pair (.int .i64) (.int .i64)), offs := [0, 1], szs := [1, 1], eqOk := true } := .of (by kernel_rfl) (by kernel_rfl) (descOk_struct rfl (by kernel_rfl)) (fun h => eqOk_struct rfl (by kernel_rfl) (by kernel_rfl))
theorem t31 : TOk Tryd.prog tb 31 { ty := (.pair (.int .i64) (.int .i64)), offs := [0, 1], szs := [1, 1], eqOk := true } := .of (by kernel_rfl) (by kernel_rfl) (descOk_struct rfl (by kernel_rfl)) (fun h => eqOk_struct rfl (by kernel_rfl) (by kernel_rfl))
theorem t32 : TOk Tryd.prog tb 32 { ty := (.pair (.int .i64) (.pair (.int .i64) (.pair (.int .i64) (.pair (.int .i64) (.pair (.slice (.int .i64)) (.pair (.int .i64) (.int .i64))))))), offs := [0, 1, 2, 3, 4, 5], szs := [1, 1, 1, 1, 1, 2] } := .of (by kernel_rfl) (by kernel_rfl) (descOk_struct rfl (by kernel_rfl)) (fun h => by cases h)
theorem t33 : TOk Tryd.prog tb 33 { ty := (.pair (.int .i64) (.pair (.int .i64) (.pair (.int .i64) (.pair (.int .i64) (.pair (.slice (.int .i64)) (.pair (.int .i64) (.int .i64))))))), offs := [0, 1, 2, 3, 4, 5], szs := [1, 1, 1, 1, 1, 2] } := .of (by kernel_rfl) (by kernel_rfl) (descOk_struct rfl (by kernel_rfl)) (fun h => by cases h)
theorem t36 : TOk Tryd.prog tb 36 { ty := (.pair (.int .i64) (.int .i64)), offs := [0, 1], szs := [1, 1], eqOk := true } := .of (by kernel_rfl) (by kernel_rfl) (descOk_struct rfl (by kernel_rfl)) (fun h => eqOk_struct rfl (by kernel_rfl) (by kernel_rfl))
theorem t37 : TOk Tryd.prog tb 37 { ty := (.pair (.int .i64) (.pair (.int .i64) (.pair (.int .i64) (.pair (.int .i64) (.pair (.slice (.int .i64)) (.pair (.int .i64) (.int .i64))))))), offs := [0, 1, 2, 3, 4, 5], szs := [1, 1, 1, 1, 1, 2] } := .of (by kernel_rfl) (by kernel_rfl) (descOk_struct rfl (by kernel_rfl)) (fun h => by cases h)
theorem t38 : TOk Tryd.prog tb 38 { ty := (.pair (.int .i64) (.pair (.int .i64) (.pair (.int .i64) (.pair (.int .i64) (.pair (.slice (.int .i64)) (.pair (.int .i64) (.int .i64))))))), offs := [0, 1, 2, 3, 4, 5], szs := [1, 1, 1, 1, 1, 2] } := .of (by kernel_rfl) (by kernel_rfl) (descOk_struct rfl (by kernel_rfl)) (fun h => by cases h)
theorem t42 : TOk Tryd.prog tb 42 { ty := (.slice (.pair (.int .i64) (.pair (.int .i64) (.pair (.int .i64) (.pair (.int .i64) (.pair (.slice (.int .i64)) (.pair (.int .i64) (.int .i64)))))))), elem := 33 } := .of (by kernel_rfl) (by kernel_rfl) (⟨by kernel_rfl, { ty := (.pair (.int .i64) (.pair (.int .i64) (.pair (.int .i64) (.pair (.int .i64) (.pair (.slice (.int .i64)) (.pair (.int .i64) (.int .i64))))))), offs := [0, 1, 2, 3, 4, 5], szs := [1, 1, 1, 1, 1, 2] }, by kernel_rfl, by kernel_rfl⟩) (fun h => by cases h)
theorem t45 : TOk Tryd.prog tb 45 { ty := (.slice (.pair (.int .i64) (.pair (.int .i64) (.pair (.int .i64) (.pair (.int .i64) (.pair (.slice (.int .i64)) (.pair (.int .i64) (.int .i64)))))))), elem := 38 } := .of (by kernel_rfl) (by kernel_rfl) (⟨by kernel_rfl, { ty := (.pair (.int .i64) (.pair (.int .i64) (.pair (.int .i64) (.pair (.int .i64) (.pair (.slice (.int .i64)) (.pair (.int .i64) (.int .i64))))))), offs := [0, 1, 2, 3, 4, 5], szs := [1, 1, 1, 1, 1, 2] }, by kernel_rfl, by kernel_rfl⟩) (fun h => by cases h)
theorem t49 : TOk Tryd.prog tb 49 { ty := (.slice (.int .u8)), elem := 5 } := .of (by kernel_rfl) (by kernel_rfl) (⟨by kernel_rfl, { ty := (.int .u8), eqOk := true }, by kernel_rfl, by kernel_rfl⟩) (fun h => by cases h)
theorem t65 : TOk Tryd.prog tb 65 { ty := (.pair (.int .i64) (.pair (.int .i64) (.pair (.int .i64) (.int .i64)))), offs := [0, 1, 2, 3], szs := [1, 1, 1, 1], eqOk := true } := .of (by kernel_rfl) (by kernel_rfl) (descOk_struct rfl (by kernel_rfl)) (fun h => eqOk_struct rfl (by kernel_rfl) (by kernel_rfl))
theorem t66 : TOk Tryd.prog tb 66 { ty := (.pair (.int .i64) (.pair (.int .i64) (.pair (.int .i64) (.int .i64)))), offs := [0, 1, 2, 3], szs := [1, 1, 1, 1], eqOk := true } := .of (by kernel_rfl) (by kernel_rfl) (descOk_struct rfl (by kernel_rfl)) (fun h => eqOk_struct rfl (by kernel_rfl) (by kernel_rfl))
theorem t68 : TOk Tryd.prog tb 68 { ty := (.pair (.int .i64) (.pair (.int .i64) (.pair (.int .i64) (.int .i64)))), offs := [0, 1, 2, 3], szs := [1, 1, 1, 1], eqOk := true } := .of (by kernel_rfl) (by kernel_rfl) (descOk_struct rfl (by kernel_rfl)) (fun h => eqOk_struct rfl (by kernel_rfl) (by kernel_rfl))
theorem t72 : TOk Tryd.prog tb 72 { ty := .err } := .of (by kernel_rfl) (by kernel_rfl) (by show _ = _; kernel_rfl) (fun h => by cases h)
theorem t73 : TOk Tryd.prog tb 73 { ty := .err } := .of (by kernel_rfl) (by kernel_rfl) (by show _ = _; kernel_rfl) (fun h => by cases h)
theorem t94 : TOk Tryd.prog tb 94 { ty := (.slice .str), elem := 9 } := .of (by kernel_rfl) (by kernel_rfl) (⟨by kernel_rfl, { ty := .str, eqOk := true }, by kernel_rfl, by kernel_rfl⟩) (fun h => by cases h)
theorem t110 : TOk Tryd.prog tb 110 { ty := (.pair (.slice (.int .u8)) (.int .i64)), offs := [0, 1], szs := [1, 1] } := .of (by kernel_rfl) (by kernel_rfl) (descOk_struct rfl (by kernel_rfl)) (fun h => by cases h)
theorem t111 : TOk Tryd.prog tb 111 { ty := (.pair (.slice (.int .u8)) (.int .i64)), offs := [0, 1], szs := [1, 1] } := .of (by kernel_rfl) (by kernel_rfl) (descOk_struct rfl (by kernel_rfl)) (fun h => by cases h)
theorem t126 : TOk Tryd.prog tb 126 { ty := (.int .u64), eqOk := true } := .of (by kernel_rfl) (by kernel_rfl) (by show _ = _; kernel_rfl) (fun h => eqOk_int)
theorem t133 : TOk Tryd.prog tb 133 { ty := (.int .i64), eqOk := true } := .of (by kernel_rfl) (by kernel_rfl) (by show _ = _; kernel_rfl) (fun h => eqOk_int)
theorem t139 : TOk Tryd.prog tb 139 { ty := (.int .u64), eqOk := true } := .of (by kernel_rfl) (by kernel_rfl) (by show _ = _; kernel_rfl) (fun h => eqOk_int)
theorem t142 : TOk Tryd.prog tb 142 { ty := (.int .u32), eqOk := true } := .of (by kernel_rfl) (by kernel_rfl) (by show _ = _; kernel_rfl) (fun h => eqOk_int)
theorem t148 : TOk Tryd.prog tb 148 { ty := (.pair .str (.pair .str .err)), offs := [0, 1, 2], szs := [1, 1, 1] } := .of (by kernel_rfl) (by kernel_rfl) (descOk_struct rfl (by kernel_rfl)) (fun h => by cases h)
theorem t149 : TOk Tryd.prog tb 149 { ty := (.pair .str (.pair .str .err)), offs := [0, 1, 2], szs := [1, 1, 1] } := .of (by kernel_rfl) (by kernel_rfl) (descOk_struct rfl (by kernel_rfl)) (fun h => by cases h)
theorem t155 : TOk Tryd.prog tb 155 { ty := (.pair (.int .u8) (.int .u8)), offs := [0, 1], szs := [1, 1], eqOk := true } := .of (by kernel_rfl) (by kernel_rfl) (descOk_struct rfl (by kernel_rfl)) (fun h => eqOk_struct rfl (by kernel_rfl) (by kernel_rfl))
theorem t156 : TOk Tryd.prog tb 156 { ty := (.pair (.int .u8) (.int .u8)), offs := [0, 1], szs := [1, 1], eqOk := true } := .of (by kernel_rfl) (by kernel_rfl) (descOk_struct rfl (by kernel_rfl)) (fun h => eqOk_struct rfl (by kernel_rfl) (by kernel_rfl))
theorem t170 : TOk Tryd.prog tb 170 { ty := (.int .u8), eqOk := true } := .of (by kernel_rfl) (by kernel_rfl) (by show _ = _; kernel_rfl) (fun h => eqOk_int)
theorem t171 : TOk Tryd.prog tb 171 { ty := (.int .u8), eqOk := true } := .of (by kernel_rfl) (by kernel_rfl) (by show _ = _; kernel_rfl) (fun h => eqOk_int)
theorem t173 : TOk Tryd.prog tb 173 { ty := (.int .i32), eqOk := true } := .of (by kernel_rfl) (by kernel_rfl) (by show _ = _; kernel_rfl) (fun h => eqOk_int)
theorem t174 : TOk Tryd.prog tb 174 { ty := (.int .i32), eqOk := true } := .of (by kernel_rfl) (by kernel_rfl) (by show _ = _; kernel_rfl) (fun h => eqOk_int)
theorem mixed : Tryd.prog.follows .mixedOrders = true := by kernel_rfl
theorem tb_ok : CfgTb Tryd.prog tb := tbOk (all_cons t2 (all_cons t3 (all_cons t4 (all_cons t5 (all_cons t6 (all_cons t7 (all_cons t8 (all_cons t9 (all_cons t10 (all_cons t11 (all_cons t12 (all_cons t13 (all_cons t14 (all_cons t21 (all_cons t22 (all_cons t25 (all_cons t29 (all_cons t30 (all_cons t31 (all_cons t32 (all_cons t33 (all_cons t36 (all_cons t37 (all_cons t38 (all_cons t42 (all_cons t45 (all_cons t49 (all_cons t65 (all_cons t66 (all_cons t68 (all_cons t72 (all_cons t73 (all_cons t94 (all_cons t110 (all_cons t111 (all_cons t126 (all_cons t133 (all_cons t139 (all_cons t142 (all_cons t148 (all_cons t149 (all_cons t155 (all_cons t156 (all_cons t170 (all_cons t171 (all_cons t173 (all_cons t174 (all_nil))))))))))))))))))))))))))))))))))))))))))))))))
end Go.Proofs.YtpgfkoeodhfkgaaDoorG
end
section
open Go Go.Refl Go.Proofs
set_option maxRecDepth 1000000
set_option maxHeartbeats 0
set_option linter.unusedVariables false
namespace Go.Proofs.YtpgfkoeodhfkgaaDoorG
abbrev strconv_Itoa.ps : List Pm := itPs
abbrev strconv_Itoa.res : List M := itRes
noncomputable def strconv_Itoa (n : Nat) : Int → Option ByteArray := itRun
theorem strconv_Itoa.call : Callable Tryd.prog 47 := ⟨Tryd.f47, Tryd.func47, by kernel_rfl, by kernel_rfl⟩
theorem strconv_Itoa.ok (n : Nat) : FC Tryd.prog [g2] 47 { params := strconv_Itoa.ps, res := strconv_Itoa.res, run := strconv_Itoa n } := it_FC Tryd.laysM171 (.head _) (by kernel_rfl)
end Go.Proofs.YtpgfkoeodhfkgaaDoorG
end
section
open Go Go.Refl Go.Proofs
set_option maxRecDepth 1000000
set_option maxHeartbeats 0
set_option linter.unusedVariables false
namespace Go.Proofs.YtpgfkoeodhfkgaaDoorG
abbrev impl_ValidRate.ps : List Pm := [.arg (.v (.pair (.int .i64) (.int .i64)))]
abbrev impl_ValidRate.res : List M := [.v .bool]
noncomputable def impl_ValidRate.C : Cfg := { tb := tb, tab := fun n f => Refl.look [] f, gl := [], ar := ar, bld := bld }
noncomputable def impl_ValidRate.A : Ann := { joins := [], loops := [], ids := [], pids := [], nroots := 87 }
noncomputable def impl_ValidRate (n : Nat) (x : Int × Int) : Option (Bool) := evalF impl_ValidRate.C impl_ValidRate.A Tryd.f86 impl_ValidRate.ps impl_ValidRate.res n x
noncomputable def impl_ValidRate.K0 (_ : Nat) : Kont (Bool) := finK impl_ValidRate.C (Func.results Tryd.f86).toList impl_ValidRate.ps impl_ValidRate.res
theorem impl_ValidRate.eq (n : Nat) (x0 : Int × Int) : impl_ValidRate n x0 = (if Prod.snd x0 ≥ 1 then (if Prod.snd x0 ≤ 1000 then (if Prod.fst x0 ≥ 0 then some (Decidable.decide (Prod.fst x0 ≤ Prod.snd x0)) else some (Bool.false)) else some (Bool.false)) else some (Bool.false)) := by kernel_rfl
theorem impl_ValidRate.call : Callable Tryd.prog 86 := ⟨Tryd.f86, Tryd.func86, by kernel_rfl, by kernel_rfl⟩
theorem impl_ValidRate.ok (n : Nat) : FC Tryd.prog [] 86 { params := impl_ValidRate.ps, res := impl_ValidRate.res, run := impl_ValidRate n } :=
  evalF_ok (C := impl_ValidRate.C) ⟨tb_ok, fun n _ _ h => tabOk (l := []) (all_nil) h, mixed, ar_ok, bld_ok⟩ impl_ValidRate.A Tryd.func86 impl_ValidRate.ps impl_ValidRate.res n
end Go.Proofs.YtpgfkoeodhfkgaaDoorG
end
section
open Go Go.Refl Go.Proofs
set_option maxRecDepth 1000000
set_option maxHeartbeats 0
set_option linter.unusedVariables false
namespace Go.Proofs.YtpgfkoeodhfkgaaDoorG
abbrev strings_Builder_WriteString.ps : List Pm := wsPs 71 5
abbrev strings_Builder_WriteString.res : List M := wsRes
noncomputable def strings_Builder_WriteString (n : Nat) : List Int × ByteArray → Option (Int × Bool × List Int) := wsRun
theorem strings_Builder_WriteString.call : Callable Tryd.prog 46 := ⟨Tryd.f46, Tryd.func46, by kernel_rfl, by kernel_rfl⟩
theorem strings_Builder_WriteString.ok (n : Nat) : FC Tryd.prog [] 46 { params := strings_Builder_WriteString.ps, res := strings_Builder_WriteString.res, run := strings_Builder_WriteString n } := ws_FC Tryd.wsL Tryd.wsX
end Go.Proofs.YtpgfkoeodhfkgaaDoorG
end
section
open Go Go.Refl Go.Proofs
set_option maxRecDepth 1000000
set_option maxHeartbeats 0
set_option linter.unusedVariables false
namespace Go.Proofs.YtpgfkoeodhfkgaaDoorG
abbrev strings_Builder_String.ps : List Pm := stPs 71 5
abbrev strings_Builder_String.res : List M := stRes
noncomputable def strings_Builder_String (n : Nat) : List Int → Option ByteArray := stRun
theorem strings_Builder_String.call : Callable Tryd.prog 49 := ⟨Tryd.f49, Tryd.func49, by kernel_rfl, by kernel_rfl⟩
theorem strings_Builder_String.ok (n : Nat) : FC Tryd.prog [] 49 { params := strings_Builder_String.ps, res := strings_Builder_String.res, run := strings_Builder_String n } := st_FC Tryd.lays169 Tryd.Builder_Extra_169
end Go.Proofs.YtpgfkoeodhfkgaaDoorG
end
section
open Go Go.Refl Go.Proofs
set_option maxRecDepth 1000000
set_option maxHeartbeats 0
set_option linter.unusedVariables false
namespace Go.Proofs.YtpgfkoeodhfkgaaDoorG
abbrev impl_showMembers.ps : List Pm := [.arg (.v (.slice (.int .i64)))]
abbrev impl_showMembers.res : List M := [.v .str, .v .bool]
noncomputable def impl_showMembers.C : Cfg := { tb := tb, tab := fun n f => Refl.look [(47, { params := strconv_Itoa.ps, res := strconv_Itoa.res, run := strconv_Itoa n }), (46, { params := strings_Builder_WriteString.ps, res := strings_Builder_WriteString.res, run := strings_Builder_WriteString n }), (49, { params := strings_Builder_String.ps, res := strings_Builder_String.res, run := strings_Builder_String n })] f, gl := [g2], ar := ar, bld := bld }
noncomputable def impl_showMembers.A : Ann := { joins := [], loops := [(3, { live := [4, 7, 8, 9], base := 25 })], ids := [(1, [(4, [4, 40])]), (7, [(20, []), (22, [22])]), (9, [(24, [])])], pids := [], nroots := 89 }
noncomputable def impl_showMembers (n : Nat) (x : List Int) : Option (ByteArray × Bool) := evalF impl_showMembers.C impl_showMembers.A Tryd.f87 impl_showMembers.ps impl_showMembers.res n x
noncomputable def impl_showMembers.K0 (_ : Nat) : Kont (ByteArray × Bool) := finK impl_showMembers.C (Func.results Tryd.f87).toList impl_showMembers.ps impl_showMembers.res
noncomputable def impl_showMembers.K1 (n : Nat) : Kont (ByteArray × Bool) := seqK (fun s' k => evalC impl_showMembers.C impl_showMembers.A n (codeAt Tryd.f87 [1, 1, 1]) (cutAt impl_showMembers.A.joins (codeAt Tryd.f87 [1, 1, 1]) s') k) (impl_showMembers.K0 n)
noncomputable def impl_showMembers.K2 (n : Nat) : Kont (ByteArray × Bool) := blockK 0 (impl_showMembers.K1 n)
noncomputable def impl_showMembers.l3 (n m3 : Nat) (x7 : List Int) (x8 : Int) (x9 : Int) (r26 : List Int) : Option (ByteArray × Bool) := loopE (cutAt impl_showMembers.A.loops (codeAt Tryd.f87 [1, 1, 0, 1, 0, 0])) (fun s k => evalC impl_showMembers.C impl_showMembers.A n (codeAt Tryd.f87 [1, 1, 0, 1, 0, 0]) s k) m3 (St.of 25 89 [(4, .ptr 25 0 0), (7, .val (.slice (.int .i64)) x7), (8, .val (.int .i64) x8), (9, .val (.int .i64) x9)] [(25, .box 71 [.optr 25, .own 26]), (26, .row (.int .u8) 5 r26)] []) (impl_showMembers.K2 n)
theorem impl_showMembers.eq (n : Nat) (x0 : List Int) : impl_showMembers n x0 = impl_showMembers.l3 n n (x0) ((↑(List.length x0) : Int)) (0) ([]) := by kernel_rfl
theorem impl_showMembers.l3_zero (n : Nat) (x7 : List Int) (x8 : Int) (x9 : Int) (r26 : List Int) : impl_showMembers.l3 n 0 x7 x8 x9 r26 = none := by kernel_rfl
theorem impl_showMembers.l3_succ (n m3 : Nat) (x7 : List Int) (x8 : Int) (x9 : Int) (r26 : List Int) : impl_showMembers.l3 n (m3 + 1) x7 x8 x9 r26 = (if x9 < x8 then (if 0 ≤ x9 then (if x9 < (↑(List.length x7) : Int) then (if List.getD x7 (Int.toNat x9) 0 < 0 then some (({ data := #[] }, Bool.false)) else (if List.getD x7 (Int.toNat x9) 0 > 99 then some (({ data := #[] }, Bool.false)) else ((strconv_Itoa n (List.getD x7 (Int.toNat x9) 0)).bind fun y0 => (if ByteArray.size { data := #[(32 : UInt8)] } + ByteArray.size y0 ≤ Go.Refl.maxN then ((strings_Builder_WriteString n (r26, { data := #[(32 : UInt8)] } ++ y0)).bind fun y1 => impl_showMembers.l3 n m3 (x7) (x8) (Go.RowKit.wrap64 (x9 + 1)) (Prod.snd (Prod.snd y1))) else none)))) else none) else none) else ((strings_Builder_String n r26).bind fun y2 => some ((y2, Bool.true)))) := by kernel_rfl
theorem impl_showMembers.call : Callable Tryd.prog 87 := ⟨Tryd.f87, Tryd.func87, by kernel_rfl, by kernel_rfl⟩
theorem impl_showMembers.ok (n : Nat) : FC Tryd.prog [g2] 87 { params := impl_showMembers.ps, res := impl_showMembers.res, run := impl_showMembers n } :=
  evalF_ok (C := impl_showMembers.C) ⟨tb_ok, fun n _ _ h => tabOk (l := [(47, { params := strconv_Itoa.ps, res := strconv_Itoa.res, run := strconv_Itoa n }), (46, { params := strings_Builder_WriteString.ps, res := strings_Builder_WriteString.res, run := strings_Builder_WriteString n }), (49, { params := strings_Builder_String.ps, res := strings_Builder_String.res, run := strings_Builder_String n })]) (all_cons ⟨strconv_Itoa.ok n, strconv_Itoa.call⟩ (all_cons ⟨(.mono (gl := []) (gl' := [g2]) (all_nil) (strings_Builder_WriteString.ok n)), strings_Builder_WriteString.call⟩ (all_cons ⟨(.mono (gl := []) (gl' := [g2]) (all_nil) (strings_Builder_String.ok n)), strings_Builder_String.call⟩ (all_nil)))) h, mixed, ar_ok, bld_ok⟩ impl_showMembers.A Tryd.func87 impl_showMembers.ps impl_showMembers.res n
end Go.Proofs.YtpgfkoeodhfkgaaDoorG
end
section
open Go Go.Refl Go.Proofs
set_option maxRecDepth 1000000
set_option maxHeartbeats 0
set_option linter.unusedVariables false
namespace Go.Proofs.YtpgfkoeodhfkgaaDoorG
abbrev impl_ShowMoney.ps : List Pm := [.arg (.v (.int .i64))]
abbrev impl_ShowMoney.res : List M := [.v .str]
noncomputable def impl_ShowMoney.C : Cfg := { tb := tb, tab := fun n f => Refl.look [(47, { params := strconv_Itoa.ps, res := strconv_Itoa.res, run := strconv_Itoa n })] f, gl := [g2], ar := ar, bld := bld }
noncomputable def impl_ShowMoney.A : Ann := { joins := [], loops := [], ids := [(3, [(12, [])]), (6, [(20, [])])], pids := [], nroots := 88 }
noncomputable def impl_ShowMoney (n : Nat) (x : Int) : Option (ByteArray) := evalF impl_ShowMoney.C impl_ShowMoney.A Tryd.f48 impl_ShowMoney.ps impl_ShowMoney.res n x
noncomputable def impl_ShowMoney.K0 (_ : Nat) : Kont (ByteArray) := finK impl_ShowMoney.C (Func.results Tryd.f48).toList impl_ShowMoney.ps impl_ShowMoney.res
theorem impl_ShowMoney.eq (n : Nat) (x0 : Int) : impl_ShowMoney n x0 = (if x0 < 0 then some ({ data := #[] }) else (if x0 > 1000000 then some ({ data := #[] }) else ((strconv_Itoa n (Int.tmod x0 100)).bind fun y0 => (if (↑(ByteArray.size y0) : Int) < 2 then (if ByteArray.size { data := #[(48 : UInt8)] } + ByteArray.size y0 ≤ Go.Refl.maxN then ((strconv_Itoa n (Go.RowKit.wrap64 (Int.tdiv x0 100))).bind fun y1 => (if ByteArray.size y1 + ByteArray.size { data := #[(46 : UInt8)] } ≤ Go.Refl.maxN then (if ByteArray.size (y1 ++ { data := #[(46 : UInt8)] }) + ByteArray.size ({ data := #[(48 : UInt8)] } ++ y0) ≤ Go.Refl.maxN then some (y1 ++ { data := #[(46 : UInt8)] } ++ ({ data := #[(48 : UInt8)] } ++ y0)) else none) else none)) else none) else ((strconv_Itoa n (Go.RowKit.wrap64 (Int.tdiv x0 100))).bind fun y2 => (if ByteArray.size y2 + ByteArray.size { data := #[(46 : UInt8)] } ≤ Go.Refl.maxN then (if ByteArray.size (y2 ++ { data := #[(46 : UInt8)] }) + ByteArray.size y0 ≤ Go.Refl.maxN then some (y2 ++ { data := #[(46 : UInt8)] } ++ y0) else none) else none)))))) := by kernel_rfl
theorem impl_ShowMoney.call : Callable Tryd.prog 48 := ⟨Tryd.f48, Tryd.func48, by kernel_rfl, by kernel_rfl⟩
theorem impl_ShowMoney.ok (n : Nat) : FC Tryd.prog [g2] 48 { params := impl_ShowMoney.ps, res := impl_ShowMoney.res, run := impl_ShowMoney n } :=
  evalF_ok (C := impl_ShowMoney.C) ⟨tb_ok, fun n _ _ h => tabOk (l := [(47, { params := strconv_Itoa.ps, res := strconv_Itoa.res, run := strconv_Itoa n })]) (all_cons ⟨strconv_Itoa.ok n, strconv_Itoa.call⟩ (all_nil)) h, mixed, ar_ok, bld_ok⟩ impl_ShowMoney.A Tryd.func48 impl_ShowMoney.ps impl_ShowMoney.res n
end Go.Proofs.YtpgfkoeodhfkgaaDoorG
end
section
open Go Go.Refl Go.Proofs
set_option maxRecDepth 1000000
set_option maxHeartbeats 0
set_option linter.unusedVariables false
namespace Go.Proofs.YtpgfkoeodhfkgaaDoorG
abbrev impl_showAmounts.ps : List Pm := [.arg (.v (.slice (.int .i64)))]
abbrev impl_showAmounts.res : List M := [.v .str, .v .bool]
noncomputable def impl_showAmounts.C : Cfg := { tb := tb, tab := fun n f => Refl.look [(48, { params := impl_ShowMoney.ps, res := impl_ShowMoney.res, run := impl_ShowMoney n })] f, gl := [g2], ar := ar, bld := bld }
noncomputable def impl_showAmounts.A : Ann := { joins := [], loops := [(3, { live := [4, 8, 9, 10], base := 24 })], ids := [(5, [(15, [])])], pids := [], nroots := 88 }
noncomputable def impl_showAmounts (n : Nat) (x : List Int) : Option (ByteArray × Bool) := evalF impl_showAmounts.C impl_showAmounts.A Tryd.f88 impl_showAmounts.ps impl_showAmounts.res n x
noncomputable def impl_showAmounts.K0 (_ : Nat) : Kont (ByteArray × Bool) := finK impl_showAmounts.C (Func.results Tryd.f88).toList impl_showAmounts.ps impl_showAmounts.res
noncomputable def impl_showAmounts.K1 (n : Nat) : Kont (ByteArray × Bool) := seqK (fun s' k => evalC impl_showAmounts.C impl_showAmounts.A n (codeAt Tryd.f88 [1, 1, 1]) (cutAt impl_showAmounts.A.joins (codeAt Tryd.f88 [1, 1, 1]) s') k) (impl_showAmounts.K0 n)
noncomputable def impl_showAmounts.K2 (n : Nat) : Kont (ByteArray × Bool) := blockK 0 (impl_showAmounts.K1 n)
noncomputable def impl_showAmounts.l3 (n m3 : Nat) (x4 : ByteArray) (x8 : List Int) (x9 : Int) (x10 : Int) : Option (ByteArray × Bool) := loopE (cutAt impl_showAmounts.A.loops (codeAt Tryd.f88 [1, 1, 0, 1, 0, 0])) (fun s k => evalC impl_showAmounts.C impl_showAmounts.A n (codeAt Tryd.f88 [1, 1, 0, 1, 0, 0]) s k) m3 (St.of 24 88 [(4, .val .str x4), (8, .val (.slice (.int .i64)) x8), (9, .val (.int .i64) x9), (10, .val (.int .i64) x10)] [] []) (impl_showAmounts.K2 n)
theorem impl_showAmounts.eq (n : Nat) (x0 : List Int) : impl_showAmounts n x0 = impl_showAmounts.l3 n n ({ data := #[] }) (x0) ((↑(List.length x0) : Int)) (0) := by kernel_rfl
theorem impl_showAmounts.l3_zero (n : Nat) (x4 : ByteArray) (x8 : List Int) (x9 : Int) (x10 : Int) : impl_showAmounts.l3 n 0 x4 x8 x9 x10 = none := by kernel_rfl
theorem impl_showAmounts.l3_succ (n m3 : Nat) (x4 : ByteArray) (x8 : List Int) (x9 : Int) (x10 : Int) : impl_showAmounts.l3 n (m3 + 1) x4 x8 x9 x10 = (if x10 < x9 then (if 0 ≤ x10 then (if x10 < (↑(List.length x8) : Int) then ((impl_ShowMoney n (List.getD x8 (Int.toNat x10) 0)).bind fun y0 => (if y0 = { data := #[] } then some (({ data := #[] }, Bool.false)) else (if ByteArray.size { data := #[(32 : UInt8)] } + ByteArray.size y0 ≤ Go.Refl.maxN then (if ByteArray.size x4 + ByteArray.size ({ data := #[(32 : UInt8)] } ++ y0) ≤ Go.Refl.maxN then impl_showAmounts.l3 n m3 (x4 ++ ({ data := #[(32 : UInt8)] } ++ y0)) (x8) (x9) (Go.RowKit.wrap64 (x10 + 1)) else none) else none))) else none) else none) else some ((x4, Bool.true))) := by kernel_rfl
theorem impl_showAmounts.call : Callable Tryd.prog 88 := ⟨Tryd.f88, Tryd.func88, by kernel_rfl, by kernel_rfl⟩
theorem impl_showAmounts.ok (n : Nat) : FC Tryd.prog [g2] 88 { params := impl_showAmounts.ps, res := impl_showAmounts.res, run := impl_showAmounts n } :=
  evalF_ok (C := impl_showAmounts.C) ⟨tb_ok, fun n _ _ h => tabOk (l := [(48, { params := impl_ShowMoney.ps, res := impl_ShowMoney.res, run := impl_ShowMoney n })]) (all_cons ⟨impl_ShowMoney.ok n, impl_ShowMoney.call⟩ (all_nil)) h, mixed, ar_ok, bld_ok⟩ impl_showAmounts.A Tryd.func88 impl_showAmounts.ps impl_showAmounts.res n
end Go.Proofs.YtpgfkoeodhfkgaaDoorG
end
section
open Go Go.Refl Go.Proofs
set_option maxRecDepth 1000000
set_option maxHeartbeats 0
set_option linter.unusedVariables false
namespace Go.Proofs.YtpgfkoeodhfkgaaDoorG
abbrev impl_showDetails.ps : List Pm := [.arg (.v (.pair (.int .i64) (.pair (.int .i64) (.pair (.int .i64) (.pair (.int .i64) (.pair (.slice (.int .i64)) (.pair (.int .i64) (.int .i64))))))))]
abbrev impl_showDetails.res : List M := [.v .str, .v .bool]
noncomputable def impl_showDetails.C : Cfg := { tb := tb, tab := fun n f => Refl.look [(47, { params := strconv_Itoa.ps, res := strconv_Itoa.res, run := strconv_Itoa n }), (86, { params := impl_ValidRate.ps, res := impl_ValidRate.res, run := impl_ValidRate n }), (87, { params := impl_showMembers.ps, res := impl_showMembers.res, run := impl_showMembers n }), (88, { params := impl_showAmounts.ps, res := impl_showAmounts.res, run := impl_showAmounts n })] f, gl := [g2], ar := ar, bld := bld }
noncomputable def impl_showDetails.A : Ann := { joins := [], loops := [], ids := [(6, [(22, []), (28, []), (32, [])]), (7, [(36, []), (37, [])]), (10, [(48, []), (49, [])]), (13, [(59, []), (60, [])]), (16, [(80, [])])], pids := [], nroots := 166 }
noncomputable def impl_showDetails (n : Nat) (x : Int × Int × Int × Int × List Int × Int × Int) : Option (ByteArray × Bool) := evalF impl_showDetails.C impl_showDetails.A Tryd.f55 impl_showDetails.ps impl_showDetails.res n x
noncomputable def impl_showDetails.K0 (_ : Nat) : Kont (ByteArray × Bool) := finK impl_showDetails.C (Func.results Tryd.f55).toList impl_showDetails.ps impl_showDetails.res
theorem impl_showDetails.eq (n : Nat) (x0 : Int × Int × Int × Int × List Int × Int × Int) : impl_showDetails n x0 = (if Prod.fst x0 = 0 then (if Prod.fst x0 = 0 then some (({ data := #[] }, Bool.true)) else (if Prod.fst x0 = 6 then ((strconv_Itoa n (Prod.fst (Prod.snd (Prod.snd (Prod.snd (Prod.snd (Prod.snd x0))))))).bind fun y0 => (if ByteArray.size { data := #[(32 : UInt8)] } + ByteArray.size y0 ≤ Go.Refl.maxN then (if ByteArray.size ({ data := #[(32 : UInt8)] } ++ y0) + ByteArray.size { data := #[(32 : UInt8)] } ≤ Go.Refl.maxN then ((strconv_Itoa n (Prod.snd (Prod.snd (Prod.snd (Prod.snd (Prod.snd (Prod.snd x0))))))).bind fun y1 => (if ByteArray.size ({ data := #[(32 : UInt8)] } ++ y0 ++ { data := #[(32 : UInt8)] }) + ByteArray.size y1 ≤ Go.Refl.maxN then ((impl_ValidRate n (Prod.fst (Prod.snd (Prod.snd (Prod.snd (Prod.snd (Prod.snd x0))))), Prod.snd (Prod.snd (Prod.snd (Prod.snd (Prod.snd (Prod.snd x0))))))).bind fun y2 => some (({ data := #[(32 : UInt8)] } ++ y0 ++ { data := #[(32 : UInt8)] } ++ y1, y2))) else none)) else none) else none)) else ((impl_showMembers n (List.set (List.replicate 1 0) 0 (Prod.fst (Prod.snd x0)))).bind fun y3 => (if Prod.fst x0 = 5 then some ((Prod.fst y3, Prod.snd y3)) else ((impl_showAmounts n (List.set (List.replicate 1 0) 0 (Prod.fst (Prod.snd (Prod.snd x0))))).bind fun y4 => (if Prod.fst x0 = 4 then ((impl_showAmounts n (List.set (List.replicate 1 0) 0 (Prod.fst (Prod.snd (Prod.snd (Prod.snd x0)))))).bind fun y5 => (if ByteArray.size (Prod.fst y3) + ByteArray.size (Prod.fst y4) ≤ Go.Refl.maxN then (if ByteArray.size (Prod.fst y3 ++ Prod.fst y4) + ByteArray.size (Prod.fst y5) ≤ Go.Refl.maxN then (if Prod.snd y3 = Bool.true then (if Prod.snd y4 = Bool.true then some ((Prod.fst y3 ++ Prod.fst y4 ++ Prod.fst y5, Prod.snd y5)) else some ((Prod.fst y3 ++ Prod.fst y4 ++ Prod.fst y5, Bool.false))) else some ((Prod.fst y3 ++ Prod.fst y4 ++ Prod.fst y5, Bool.false))) else none) else none)) else (if Prod.fst x0 = 3 then ((impl_showMembers n (Prod.fst (Prod.snd (Prod.snd (Prod.snd (Prod.snd x0)))))).bind fun y6 => (if ByteArray.size (Prod.fst y3) + ByteArray.size (Prod.fst y4) ≤ Go.Refl.maxN then (if ByteArray.size (Prod.fst y3 ++ Prod.fst y4) + ByteArray.size (Prod.fst y6) ≤ Go.Refl.maxN then (if Prod.snd y3 = Bool.true then (if Prod.snd y4 = Bool.true then some ((Prod.fst y3 ++ Prod.fst y4 ++ Prod.fst y6, Prod.snd y6)) else some ((Prod.fst y3 ++ Prod.fst y4 ++ Prod.fst y6, Bool.false))) else some ((Prod.fst y3 ++ Prod.fst y4 ++ Prod.fst y6, Bool.false))) else none) else none)) else (if ByteArray.size (Prod.fst y3) + ByteArray.size (Prod.fst y4) ≤ Go.Refl.maxN then (if Prod.snd y3 = Bool.true then some ((Prod.fst y3 ++ Prod.fst y4, Prod.snd y4)) else some ((Prod.fst y3 ++ Prod.fst y4, Bool.false))) else none)))))))) else (if Prod.fst x0 = 7 then some (({ data := #[] }, Bool.true)) else (if Prod.fst x0 = 6 then ((strconv_Itoa n (Prod.fst (Prod.snd (Prod.snd (Prod.snd (Prod.snd (Prod.snd x0))))))).bind fun y7 => (if ByteArray.size { data := #[(32 : UInt8)] } + ByteArray.size y7 ≤ Go.Refl.maxN then (if ByteArray.size ({ data := #[(32 : UInt8)] } ++ y7) + ByteArray.size { data := #[(32 : UInt8)] } ≤ Go.Refl.maxN then ((strconv_Itoa n (Prod.snd (Prod.snd (Prod.snd (Prod.snd (Prod.snd (Prod.snd x0))))))).bind fun y8 => (if ByteArray.size ({ data := #[(32 : UInt8)] } ++ y7 ++ { data := #[(32 : UInt8)] }) + ByteArray.size y8 ≤ Go.Refl.maxN then ((impl_ValidRate n (Prod.fst (Prod.snd (Prod.snd (Prod.snd (Prod.snd (Prod.snd x0))))), Prod.snd (Prod.snd (Prod.snd (Prod.snd (Prod.snd (Prod.snd x0))))))).bind fun y9 => some (({ data := #[(32 : UInt8)] } ++ y7 ++ { data := #[(32 : UInt8)] } ++ y8, y9))) else none)) else none) else none)) else ((impl_showMembers n (List.set (List.replicate 1 0) 0 (Prod.fst (Prod.snd x0)))).bind fun y10 => (if Prod.fst x0 = 5 then some ((Prod.fst y10, Prod.snd y10)) else ((impl_showAmounts n (List.set (List.replicate 1 0) 0 (Prod.fst (Prod.snd (Prod.snd x0))))).bind fun y11 => (if Prod.fst x0 = 4 then ((impl_showAmounts n (List.set (List.replicate 1 0) 0 (Prod.fst (Prod.snd (Prod.snd (Prod.snd x0)))))).bind fun y12 => (if ByteArray.size (Prod.fst y10) + ByteArray.size (Prod.fst y11) ≤ Go.Refl.maxN then (if ByteArray.size (Prod.fst y10 ++ Prod.fst y11) + ByteArray.size (Prod.fst y12) ≤ Go.Refl.maxN then (if Prod.snd y10 = Bool.true then (if Prod.snd y11 = Bool.true then some ((Prod.fst y10 ++ Prod.fst y11 ++ Prod.fst y12, Prod.snd y12)) else some ((Prod.fst y10 ++ Prod.fst y11 ++ Prod.fst y12, Bool.false))) else some ((Prod.fst y10 ++ Prod.fst y11 ++ Prod.fst y12, Bool.false))) else none) else none)) else (if Prod.fst x0 = 3 then ((impl_showMembers n (Prod.fst (Prod.snd (Prod.snd (Prod.snd (Prod.snd x0)))))).bind fun y13 => (if ByteArray.size (Prod.fst y10) + ByteArray.size (Prod.fst y11) ≤ Go.Refl.maxN then (if ByteArray.size (Prod.fst y10 ++ Prod.fst y11) + ByteArray.size (Prod.fst y13) ≤ Go.Refl.maxN then (if Prod.snd y10 = Bool.true then (if Prod.snd y11 = Bool.true then some ((Prod.fst y10 ++ Prod.fst y11 ++ Prod.fst y13, Prod.snd y13)) else some ((Prod.fst y10 ++ Prod.fst y11 ++ Prod.fst y13, Bool.false))) else some ((Prod.fst y10 ++ Prod.fst y11 ++ Prod.fst y13, Bool.false))) else none) else none)) else (if ByteArray.size (Prod.fst y10) + ByteArray.size (Prod.fst y11) ≤ Go.Refl.maxN then (if Prod.snd y10 = Bool.true then some ((Prod.fst y10 ++ Prod.fst y11, Prod.snd y11)) else some ((Prod.fst y10 ++ Prod.fst y11, Bool.false))) else none))))))))) := by kernel_rfl
theorem impl_showDetails.call : Callable Tryd.prog 55 := ⟨Tryd.f55, Tryd.func55, by kernel_rfl, by kernel_rfl⟩
theorem impl_showDetails.ok (n : Nat) : FC Tryd.prog [g2] 55 { params := impl_showDetails.ps, res := impl_showDetails.res, run := impl_showDetails n } :=
  evalF_ok (C := impl_showDetails.C) ⟨tb_ok, fun n _ _ h => tabOk (l := [(47, { params := strconv_Itoa.ps, res := strconv_Itoa.res, run := strconv_Itoa n }), (86, { params := impl_ValidRate.ps, res := impl_ValidRate.res, run := impl_ValidRate n }), (87, { params := impl_showMembers.ps, res := impl_showMembers.res, run := impl_showMembers n }), (88, { params := impl_showAmounts.ps, res := impl_showAmounts.res, run := impl_showAmounts n })]) (all_cons ⟨strconv_Itoa.ok n, strconv_Itoa.call⟩ (all_cons ⟨(.mono (gl := []) (gl' := [g2]) (all_nil) (impl_ValidRate.ok n)), impl_ValidRate.call⟩ (all_cons ⟨impl_showMembers.ok n, impl_showMembers.call⟩ (all_cons ⟨impl_showAmounts.ok n, impl_showAmounts.call⟩ (all_nil))))) h, mixed, ar_ok, bld_ok⟩ impl_showDetails.A Tryd.func55 impl_showDetails.ps impl_showDetails.res n
end Go.Proofs.YtpgfkoeodhfkgaaDoorG
end
section
open Go Go.Refl Go.Proofs
set_option maxRecDepth 1000000
set_option maxHeartbeats 0
set_option linter.unusedVariables false
namespace Go.Proofs.YtpgfkoeodhfkgaaDoorG
abbrev impl_FormatEvent.ps : List Pm := [.arg (.v (.pair (.int .i64) (.pair (.int .i64) (.pair (.int .i64) (.pair (.int .i64) (.pair (.slice (.int .i64)) (.pair (.int .i64) (.int .i64))))))))]
abbrev impl_FormatEvent.res : List M := [.v .str]
noncomputable def impl_FormatEvent.C : Cfg := { tb := tb, tab := fun n f => Refl.look [(55, { params := impl_showDetails.ps, res := impl_showDetails.res, run := impl_showDetails n })] f, gl := [g0, g2], ar := ar, bld := bld }
noncomputable def impl_FormatEvent.A : Ann := { joins := [], loops := [], ids := [(3, [(15, [])])], pids := [], nroots := 90 }
noncomputable def impl_FormatEvent (n : Nat) (x : Int × Int × Int × Int × List Int × Int × Int) : Option (ByteArray) := evalF impl_FormatEvent.C impl_FormatEvent.A Tryd.f19 impl_FormatEvent.ps impl_FormatEvent.res n x
noncomputable def impl_FormatEvent.K0 (_ : Nat) : Kont (ByteArray) := finK impl_FormatEvent.C (Func.results Tryd.f19).toList impl_FormatEvent.ps impl_FormatEvent.res
theorem impl_FormatEvent.eq (n : Nat) (x0 : Int × Int × Int × Int × List Int × Int × Int) : impl_FormatEvent n x0 = (if Prod.fst x0 < 0 then some ({ data := #[] }) else (if Prod.fst x0 > 7 then some ({ data := #[] }) else ((impl_showDetails n (Prod.fst x0, Prod.fst (Prod.snd x0), Prod.fst (Prod.snd (Prod.snd x0)), Prod.fst (Prod.snd (Prod.snd (Prod.snd x0))), Prod.fst (Prod.snd (Prod.snd (Prod.snd (Prod.snd x0)))), Prod.fst (Prod.snd (Prod.snd (Prod.snd (Prod.snd (Prod.snd x0))))), Prod.snd (Prod.snd (Prod.snd (Prod.snd (Prod.snd (Prod.snd x0))))))).bind fun y0 => (if (!Prod.snd y0) = true then some ({ data := #[] }) else (if 0 ≤ Prod.fst x0 then (if Prod.fst x0 < (↑8 : Int) then (if ByteArray.size (List.getD [{ data := #[(106 : UInt8), (111 : UInt8), (105 : UInt8), (110 : UInt8)] }, { data := #[(115 : UInt8), (97 : UInt8), (118 : UInt8), (101 : UInt8)] }, { data := #[(116 : UInt8), (97 : UInt8), (107 : UInt8), (101 : UInt8)] }, { data := #[(108 : UInt8), (101 : UInt8), (110 : UInt8), (100 : UInt8)] }, { data := #[(114 : UInt8), (101 : UInt8), (112 : UInt8), (97 : UInt8), (121 : UInt8)] }, { data := #[(102 : UInt8), (97 : UInt8), (105 : UInt8), (108 : UInt8)] }, { data := #[(110 : UInt8), (105 : UInt8), (103 : UInt8), (104 : UInt8), (116 : UInt8)] }, { data := #[(115 : UInt8), (104 : UInt8), (97 : UInt8), (114 : UInt8), (101 : UInt8)] }] (Int.toNat (Prod.fst x0)) ByteArray.empty) + ByteArray.size (Prod.fst y0) ≤ Go.Refl.maxN then some (List.getD [{ data := #[(106 : UInt8), (111 : UInt8), (105 : UInt8), (110 : UInt8)] }, { data := #[(115 : UInt8), (97 : UInt8), (118 : UInt8), (101 : UInt8)] }, { data := #[(116 : UInt8), (97 : UInt8), (107 : UInt8), (101 : UInt8)] }, { data := #[(108 : UInt8), (101 : UInt8), (110 : UInt8), (100 : UInt8)] }, { data := #[(114 : UInt8), (101 : UInt8), (112 : UInt8), (97 : UInt8), (121 : UInt8)] }, { data := #[(102 : UInt8), (97 : UInt8), (105 : UInt8), (108 : UInt8)] }, { data := #[(110 : UInt8), (105 : UInt8), (103 : UInt8), (104 : UInt8), (116 : UInt8)] }, { data := #[(115 : UInt8), (104 : UInt8), (97 : UInt8), (114 : UInt8), (101 : UInt8)] }] (Int.toNat (Prod.fst x0)) ByteArray.empty ++ Prod.fst y0) else none) else none) else none))))) := by kernel_rfl
theorem impl_FormatEvent.call : Callable Tryd.prog 19 := ⟨Tryd.f19, Tryd.func19, by kernel_rfl, by kernel_rfl⟩
theorem impl_FormatEvent.ok (n : Nat) : FC Tryd.prog [g0, g2] 19 { params := impl_FormatEvent.ps, res := impl_FormatEvent.res, run := impl_FormatEvent n } :=
  evalF_ok (C := impl_FormatEvent.C) ⟨tb_ok, fun n _ _ h => tabOk (l := [(55, { params := impl_showDetails.ps, res := impl_showDetails.res, run := impl_showDetails n })]) (all_cons ⟨(.mono (gl := [g2]) (gl' := [g0, g2]) (all_cons (.tail _ (.head _)) (all_nil)) (impl_showDetails.ok n)), impl_showDetails.call⟩ (all_nil)) h, mixed, ar_ok, bld_ok⟩ impl_FormatEvent.A Tryd.func19 impl_FormatEvent.ps impl_FormatEvent.res n
end Go.Proofs.YtpgfkoeodhfkgaaDoorG
end
section
open Go Go.Refl Go.Proofs
set_option maxRecDepth 1000000
set_option maxHeartbeats 0
set_option linter.unusedVariables false
namespace Go.Proofs.YtpgfkoeodhfkgaaDoorG
abbrev impl_FormatBook.ps : List Pm := [.arg (.v (.slice (.pair (.int .i64) (.pair (.int .i64) (.pair (.int .i64) (.pair (.int .i64) (.pair (.slice (.int .i64)) (.pair (.int .i64) (.int .i64)))))))))]
abbrev impl_FormatBook.res : List M := [.v .str]
noncomputable def impl_FormatBook.C : Cfg := { tb := tb, tab := fun n f => Refl.look [(19, { params := impl_FormatEvent.ps, res := impl_FormatEvent.res, run := impl_FormatEvent n }), (46, { params := strings_Builder_WriteString.ps, res := strings_Builder_WriteString.res, run := strings_Builder_WriteString n }), (49, { params := strings_Builder_String.ps, res := strings_Builder_String.res, run := strings_Builder_String n })] f, gl := [g0, g2], ar := ar, bld := bld }
noncomputable def impl_FormatBook.A : Ann := { joins := [], loops := [(5, { live := [3, 10, 11, 12], base := 25 })], ids := [(3, [(3, [3, 40])]), (7, [(17, [])]), (10, [(22, [22])]), (12, [(24, [])])], pids := [], nroots := 89 }
noncomputable def impl_FormatBook (n : Nat) (x : List (Int × Int × Int × Int × List Int × Int × Int)) : Option (ByteArray) := evalF impl_FormatBook.C impl_FormatBook.A Tryd.f24 impl_FormatBook.ps impl_FormatBook.res n x
noncomputable def impl_FormatBook.K0 (_ : Nat) : Kont (ByteArray) := finK impl_FormatBook.C (Func.results Tryd.f24).toList impl_FormatBook.ps impl_FormatBook.res
noncomputable def impl_FormatBook.K1 (n : Nat) : Kont (ByteArray) := seqK (fun s' k => evalC impl_FormatBook.C impl_FormatBook.A n (codeAt Tryd.f24 [1, 1, 1, 1]) (cutAt impl_FormatBook.A.joins (codeAt Tryd.f24 [1, 1, 1, 1]) s') k) (impl_FormatBook.K0 n)
noncomputable def impl_FormatBook.K2 (n : Nat) : Kont (ByteArray) := blockK 0 (impl_FormatBook.K1 n)
noncomputable def impl_FormatBook.l5 (n m5 : Nat) (x10 : List (Int × Int × Int × Int × List Int × Int × Int)) (x11 : Int) (x12 : Int) (r26 : List Int) : Option (ByteArray) := loopE (cutAt impl_FormatBook.A.loops (codeAt Tryd.f24 [1, 1, 1, 0, 1, 0, 0])) (fun s k => evalC impl_FormatBook.C impl_FormatBook.A n (codeAt Tryd.f24 [1, 1, 1, 0, 1, 0, 0]) s k) m5 (St.of 25 89 [(3, .ptr 25 0 0), (10, .val (.slice (.pair (.int .i64) (.pair (.int .i64) (.pair (.int .i64) (.pair (.int .i64) (.pair (.slice (.int .i64)) (.pair (.int .i64) (.int .i64)))))))) x10), (11, .val (.int .i64) x11), (12, .val (.int .i64) x12)] [(25, .box 71 [.optr 25, .own 26]), (26, .row (.int .u8) 5 r26)] []) (impl_FormatBook.K2 n)
theorem impl_FormatBook.eq (n : Nat) (x0 : List (Int × Int × Int × Int × List Int × Int × Int)) : impl_FormatBook n x0 = (if (↑(List.length x0) : Int) > 30 then some ({ data := #[] }) else impl_FormatBook.l5 n n (x0) ((↑(List.length x0) : Int)) (0) ([])) := by kernel_rfl
theorem impl_FormatBook.l5_zero (n : Nat) (x10 : List (Int × Int × Int × Int × List Int × Int × Int)) (x11 : Int) (x12 : Int) (r26 : List Int) : impl_FormatBook.l5 n 0 x10 x11 x12 r26 = none := by kernel_rfl
theorem impl_FormatBook.l5_succ (n m5 : Nat) (x10 : List (Int × Int × Int × Int × List Int × Int × Int)) (x11 : Int) (x12 : Int) (r26 : List Int) : impl_FormatBook.l5 n (m5 + 1) x10 x11 x12 r26 = (if x12 < x11 then (if 0 ≤ x12 then (if x12 < (↑(List.length x10) : Int) then ((impl_FormatEvent n (Prod.fst (List.getD x10 (Int.toNat x12) (0, 0, 0, 0, [], 0, 0)), Prod.fst (Prod.snd (List.getD x10 (Int.toNat x12) (0, 0, 0, 0, [], 0, 0))), Prod.fst (Prod.snd (Prod.snd (List.getD x10 (Int.toNat x12) (0, 0, 0, 0, [], 0, 0)))), Prod.fst (Prod.snd (Prod.snd (Prod.snd (List.getD x10 (Int.toNat x12) (0, 0, 0, 0, [], 0, 0))))), Prod.fst (Prod.snd (Prod.snd (Prod.snd (Prod.snd (List.getD x10 (Int.toNat x12) (0, 0, 0, 0, [], 0, 0)))))), Prod.fst (Prod.snd (Prod.snd (Prod.snd (Prod.snd (Prod.snd (List.getD x10 (Int.toNat x12) (0, 0, 0, 0, [], 0, 0))))))), Prod.snd (Prod.snd (Prod.snd (Prod.snd (Prod.snd (Prod.snd (List.getD x10 (Int.toNat x12) (0, 0, 0, 0, [], 0, 0))))))))).bind fun y0 => (if y0 = { data := #[] } then some ({ data := #[] }) else (if ByteArray.size y0 + ByteArray.size { data := #[(10 : UInt8)] } ≤ Go.Refl.maxN then ((strings_Builder_WriteString n (r26, y0 ++ { data := #[(10 : UInt8)] })).bind fun y1 => impl_FormatBook.l5 n m5 (x10) (x11) (Go.RowKit.wrap64 (x12 + 1)) (Prod.snd (Prod.snd y1))) else none))) else none) else none) else ((strings_Builder_String n r26).bind fun y2 => some (y2))) := by kernel_rfl
theorem impl_FormatBook.call : Callable Tryd.prog 24 := ⟨Tryd.f24, Tryd.func24, by kernel_rfl, by kernel_rfl⟩
theorem impl_FormatBook.ok (n : Nat) : FC Tryd.prog [g0, g2] 24 { params := impl_FormatBook.ps, res := impl_FormatBook.res, run := impl_FormatBook n } :=
  evalF_ok (C := impl_FormatBook.C) ⟨tb_ok, fun n _ _ h => tabOk (l := [(19, { params := impl_FormatEvent.ps, res := impl_FormatEvent.res, run := impl_FormatEvent n }), (46, { params := strings_Builder_WriteString.ps, res := strings_Builder_WriteString.res, run := strings_Builder_WriteString n }), (49, { params := strings_Builder_String.ps, res := strings_Builder_String.res, run := strings_Builder_String n })]) (all_cons ⟨impl_FormatEvent.ok n, impl_FormatEvent.call⟩ (all_cons ⟨(.mono (gl := []) (gl' := [g0, g2]) (all_nil) (strings_Builder_WriteString.ok n)), strings_Builder_WriteString.call⟩ (all_cons ⟨(.mono (gl := []) (gl' := [g0, g2]) (all_nil) (strings_Builder_String.ok n)), strings_Builder_String.call⟩ (all_nil)))) h, mixed, ar_ok, bld_ok⟩ impl_FormatBook.A Tryd.func24 impl_FormatBook.ps impl_FormatBook.res n
end Go.Proofs.YtpgfkoeodhfkgaaDoorG
end
section
open Go Go.Refl Go.Proofs
set_option maxRecDepth 1000000
set_option maxHeartbeats 0
set_option linter.unusedVariables false
namespace Go.Proofs.YtpgfkoeodhfkgaaDoorG
abbrev laws_szIntS.ps : List Pm := [.arg (.v (.slice (.int .i64))), .arg (.v (.int .i64))]
abbrev laws_szIntS.res : List M := [.v (.int .i64)]
noncomputable def laws_szIntS.C : Cfg := { tb := tb, tab := fun n f => Refl.look [] f, gl := [], ar := ar, bld := bld }
noncomputable def laws_szIntS.A : Ann := { joins := [], loops := [], ids := [], pids := [], nroots := 76 }
noncomputable def laws_szIntS (n : Nat) (x : List Int × Int) : Option (Int) := evalF laws_szIntS.C laws_szIntS.A Tryd.f51 laws_szIntS.ps laws_szIntS.res n x
noncomputable def laws_szIntS.K0 (_ : Nat) : Kont (Int) := finK laws_szIntS.C (Func.results Tryd.f51).toList laws_szIntS.ps laws_szIntS.res
theorem laws_szIntS.eq (n : Nat) (x0 : List Int) (x1 : Int) : laws_szIntS n (x0, x1) = (if Go.RowKit.wrap64 (x1 - (↑(List.length x0) : Int)) < 0 then some ((-1)) else some (Go.RowKit.wrap64 (x1 - (↑(List.length x0) : Int)))) := by kernel_rfl
theorem laws_szIntS.call : Callable Tryd.prog 51 := ⟨Tryd.f51, Tryd.func51, by kernel_rfl, by kernel_rfl⟩
theorem laws_szIntS.ok (n : Nat) : FC Tryd.prog [] 51 { params := laws_szIntS.ps, res := laws_szIntS.res, run := laws_szIntS n } :=
  evalF_ok (C := laws_szIntS.C) ⟨tb_ok, fun n _ _ h => tabOk (l := []) (all_nil) h, mixed, ar_ok, bld_ok⟩ laws_szIntS.A Tryd.func51 laws_szIntS.ps laws_szIntS.res n
end Go.Proofs.YtpgfkoeodhfkgaaDoorG
end
section
open Go Go.Refl Go.Proofs
set_option maxRecDepth 1000000
set_option maxHeartbeats 0
set_option linter.unusedVariables false
namespace Go.Proofs.YtpgfkoeodhfkgaaDoorG
abbrev laws_szEvent.ps : List Pm := [.arg (.v (.pair (.int .i64) (.pair (.int .i64) (.pair (.int .i64) (.pair (.int .i64) (.pair (.slice (.int .i64)) (.pair (.int .i64) (.int .i64)))))))), .arg (.v (.int .i64))]
abbrev laws_szEvent.res : List M := [.v (.int .i64)]
noncomputable def laws_szEvent.C : Cfg := { tb := tb, tab := fun n f => Refl.look [(51, { params := laws_szIntS.ps, res := laws_szIntS.res, run := laws_szIntS n })] f, gl := [], ar := ar, bld := bld }
noncomputable def laws_szEvent.A : Ann := { joins := [], loops := [], ids := [(1, [(8, [])])], pids := [], nroots := 76 }
noncomputable def laws_szEvent (n : Nat) (x : (Int × Int × Int × Int × List Int × Int × Int) × Int) : Option (Int) := evalF laws_szEvent.C laws_szEvent.A Tryd.f16 laws_szEvent.ps laws_szEvent.res n x
noncomputable def laws_szEvent.K0 (_ : Nat) : Kont (Int) := finK laws_szEvent.C (Func.results Tryd.f16).toList laws_szEvent.ps laws_szEvent.res
theorem laws_szEvent.eq (n : Nat) (x0 : Int × Int × Int × Int × List Int × Int × Int) (x1 : Int) : laws_szEvent n (x0, x1) = ((laws_szIntS n (Prod.fst (Prod.snd (Prod.snd (Prod.snd (Prod.snd x0)))), x1)).bind fun y0 => (if y0 < 0 then some ((-1)) else some (y0))) := by kernel_rfl
theorem laws_szEvent.call : Callable Tryd.prog 16 := ⟨Tryd.f16, Tryd.func16, by kernel_rfl, by kernel_rfl⟩
theorem laws_szEvent.ok (n : Nat) : FC Tryd.prog [] 16 { params := laws_szEvent.ps, res := laws_szEvent.res, run := laws_szEvent n } :=
  evalF_ok (C := laws_szEvent.C) ⟨tb_ok, fun n _ _ h => tabOk (l := [(51, { params := laws_szIntS.ps, res := laws_szIntS.res, run := laws_szIntS n })]) (all_cons ⟨laws_szIntS.ok n, laws_szIntS.call⟩ (all_nil)) h, mixed, ar_ok, bld_ok⟩ laws_szEvent.A Tryd.func16 laws_szEvent.ps laws_szEvent.res n
end Go.Proofs.YtpgfkoeodhfkgaaDoorG
end
section
open Go Go.Refl Go.Proofs
set_option maxRecDepth 1000000
set_option maxHeartbeats 0
set_option linter.unusedVariables false
namespace Go.Proofs.YtpgfkoeodhfkgaaDoorG
abbrev laws_szEventS.ps : List Pm := [.arg (.v (.slice (.pair (.int .i64) (.pair (.int .i64) (.pair (.int .i64) (.pair (.int .i64) (.pair (.slice (.int .i64)) (.pair (.int .i64) (.int .i64))))))))), .arg (.v (.int .i64))]
abbrev laws_szEventS.res : List M := [.v (.int .i64)]
noncomputable def laws_szEventS.C : Cfg := { tb := tb, tab := fun n f => Refl.look [(16, { params := laws_szEvent.ps, res := laws_szEvent.res, run := laws_szEvent n })] f, gl := [], ar := ar, bld := bld }
noncomputable def laws_szEventS.A : Ann := { joins := [], loops := [(5, { live := [0, 1, 5], base := 27 })], ids := [(7, [(23, [])])], pids := [], nroots := 91 }
noncomputable def laws_szEventS (n : Nat) (x : List (Int × Int × Int × Int × List Int × Int × Int) × Int) : Option (Int) := evalF laws_szEventS.C laws_szEventS.A Tryd.f21 laws_szEventS.ps laws_szEventS.res n x
noncomputable def laws_szEventS.K0 (_ : Nat) : Kont (Int) := finK laws_szEventS.C (Func.results Tryd.f21).toList laws_szEventS.ps laws_szEventS.res
noncomputable def laws_szEventS.K1 (n : Nat) : Kont (Int) := seqK (fun s' k => evalC laws_szEventS.C laws_szEventS.A n (codeAt Tryd.f21 [1, 1, 1, 1]) (cutAt laws_szEventS.A.joins (codeAt Tryd.f21 [1, 1, 1, 1]) s') k) (laws_szEventS.K0 n)
noncomputable def laws_szEventS.K2 (n : Nat) : Kont (Int) := blockK 0 (laws_szEventS.K1 n)
noncomputable def laws_szEventS.l5 (n m5 : Nat) (x0 : List (Int × Int × Int × Int × List Int × Int × Int)) (x1 : Int) (x5 : Int) : Option (Int) := loopE (cutAt laws_szEventS.A.loops (codeAt Tryd.f21 [1, 1, 1, 0, 1, 0, 0])) (fun s k => evalC laws_szEventS.C laws_szEventS.A n (codeAt Tryd.f21 [1, 1, 1, 0, 1, 0, 0]) s k) m5 (St.of 27 91 [(0, .val (.slice (.pair (.int .i64) (.pair (.int .i64) (.pair (.int .i64) (.pair (.int .i64) (.pair (.slice (.int .i64)) (.pair (.int .i64) (.int .i64)))))))) x0), (1, .val (.int .i64) x1), (5, .val (.int .i64) x5)] [] []) (laws_szEventS.K2 n)
theorem laws_szEventS.eq (n : Nat) (x0 : List (Int × Int × Int × Int × List Int × Int × Int)) (x1 : Int) : laws_szEventS n (x0, x1) = (if Go.RowKit.wrap64 (x1 - (↑(List.length x0) : Int)) < 0 then some ((-1)) else laws_szEventS.l5 n n (x0) (Go.RowKit.wrap64 (x1 - (↑(List.length x0) : Int))) (0)) := by kernel_rfl
theorem laws_szEventS.l5_zero (n : Nat) (x0 : List (Int × Int × Int × Int × List Int × Int × Int)) (x1 : Int) (x5 : Int) : laws_szEventS.l5 n 0 x0 x1 x5 = none := by kernel_rfl
theorem laws_szEventS.l5_succ (n m5 : Nat) (x0 : List (Int × Int × Int × Int × List Int × Int × Int)) (x1 : Int) (x5 : Int) : laws_szEventS.l5 n (m5 + 1) x0 x1 x5 = (if x5 < (↑(List.length x0) : Int) then (if 0 ≤ x5 then (if x5 < (↑(List.length x0) : Int) then ((laws_szEvent n (List.getD x0 (Int.toNat x5) (0, 0, 0, 0, [], 0, 0), x1)).bind fun y0 => (if y0 < 0 then some ((-1)) else laws_szEventS.l5 n m5 (x0) (y0) (Go.RowKit.wrap64 (x5 + 1)))) else none) else none) else some (x1)) := by kernel_rfl
theorem laws_szEventS.call : Callable Tryd.prog 21 := ⟨Tryd.f21, Tryd.func21, by kernel_rfl, by kernel_rfl⟩
theorem laws_szEventS.ok (n : Nat) : FC Tryd.prog [] 21 { params := laws_szEventS.ps, res := laws_szEventS.res, run := laws_szEventS n } :=
  evalF_ok (C := laws_szEventS.C) ⟨tb_ok, fun n _ _ h => tabOk (l := [(16, { params := laws_szEvent.ps, res := laws_szEvent.res, run := laws_szEvent n })]) (all_cons ⟨laws_szEvent.ok n, laws_szEvent.call⟩ (all_nil)) h, mixed, ar_ok, bld_ok⟩ laws_szEventS.A Tryd.func21 laws_szEventS.ps laws_szEventS.res n
end Go.Proofs.YtpgfkoeodhfkgaaDoorG
end
section
open Go Go.Refl Go.Proofs
set_option maxRecDepth 1000000
set_option maxHeartbeats 0
set_option linter.unusedVariables false
namespace Go.Proofs.YtpgfkoeodhfkgaaDoorG
abbrev laws_toIntS.ps : List Pm := [.arg (.v (.slice (.int .i64)))]
abbrev laws_toIntS.res : List M := [(.own (.int .i64) 3)]
noncomputable def laws_toIntS.C : Cfg := { tb := tb, tab := fun n f => Refl.look [] f, gl := [], ar := ar, bld := bld }
noncomputable def laws_toIntS.A : Ann := { joins := [], loops := [(3, { live := [0, 3, 4], base := 22 })], ids := [], pids := [], nroots := 86 }
noncomputable def laws_toIntS (n : Nat) (x : List Int) : Option (List Int) := evalF laws_toIntS.C laws_toIntS.A Tryd.f53 laws_toIntS.ps laws_toIntS.res n x
noncomputable def laws_toIntS.K0 (_ : Nat) : Kont (List Int) := finK laws_toIntS.C (Func.results Tryd.f53).toList laws_toIntS.ps laws_toIntS.res
noncomputable def laws_toIntS.K1 (n : Nat) : Kont (List Int) := seqK (fun s' k => evalC laws_toIntS.C laws_toIntS.A n (codeAt Tryd.f53 [1, 1, 1]) (cutAt laws_toIntS.A.joins (codeAt Tryd.f53 [1, 1, 1]) s') k) (laws_toIntS.K0 n)
noncomputable def laws_toIntS.K2 (n : Nat) : Kont (List Int) := blockK 0 (laws_toIntS.K1 n)
noncomputable def laws_toIntS.l3 (n m3 : Nat) (x0 : List Int) (x4 : Int) (r22 : List Int) : Option (List Int) := loopE (cutAt laws_toIntS.A.loops (codeAt Tryd.f53 [1, 1, 0, 1, 0, 0])) (fun s k => evalC laws_toIntS.C laws_toIntS.A n (codeAt Tryd.f53 [1, 1, 0, 1, 0, 0]) s k) m3 (St.of 22 86 [(0, .val (.slice (.int .i64)) x0), (3, .own 22), (4, .val (.int .i64) x4)] [(22, .row (.int .i64) 3 r22)] []) (laws_toIntS.K2 n)
theorem laws_toIntS.eq (n : Nat) (x0 : List Int) : laws_toIntS n x0 = (if 0 ≤ (↑(List.length x0) : Int) then (if (↑(List.length x0) : Int) ≤ (↑(List.length x0) : Int) then (if (↑(List.length x0) : Int) ≤ (↑Go.Refl.maxN : Int) then laws_toIntS.l3 n n (x0) (0) (List.replicate (Int.toNat (↑(List.length x0) : Int)) 0) else none) else none) else none) := by kernel_rfl
theorem laws_toIntS.l3_zero (n : Nat) (x0 : List Int) (x4 : Int) (r22 : List Int) : laws_toIntS.l3 n 0 x0 x4 r22 = none := by kernel_rfl
theorem laws_toIntS.l3_succ (n m3 : Nat) (x0 : List Int) (x4 : Int) (r22 : List Int) : laws_toIntS.l3 n (m3 + 1) x0 x4 r22 = (if x4 < (↑(List.length x0) : Int) then (if 0 ≤ x4 then (if x4 < (↑(List.length x0) : Int) then (if 0 ≤ x4 then (if x4 < (↑(List.length r22) : Int) then laws_toIntS.l3 n m3 (x0) (Go.RowKit.wrap64 (x4 + 1)) (List.set r22 (Int.toNat x4) (List.getD x0 (Int.toNat x4) 0)) else none) else none) else none) else none) else some (r22)) := by kernel_rfl
theorem laws_toIntS.call : Callable Tryd.prog 53 := ⟨Tryd.f53, Tryd.func53, by kernel_rfl, by kernel_rfl⟩
theorem laws_toIntS.ok (n : Nat) : FC Tryd.prog [] 53 { params := laws_toIntS.ps, res := laws_toIntS.res, run := laws_toIntS n } :=
  evalF_ok (C := laws_toIntS.C) ⟨tb_ok, fun n _ _ h => tabOk (l := []) (all_nil) h, mixed, ar_ok, bld_ok⟩ laws_toIntS.A Tryd.func53 laws_toIntS.ps laws_toIntS.res n
end Go.Proofs.YtpgfkoeodhfkgaaDoorG
end
section
open Go Go.Refl Go.Proofs
set_option maxRecDepth 1000000
set_option maxHeartbeats 0
set_option linter.unusedVariables false
namespace Go.Proofs.YtpgfkoeodhfkgaaDoorG
abbrev laws_toRate.ps : List Pm := [.arg (.v (.pair (.int .i64) (.int .i64)))]
abbrev laws_toRate.res : List M := [.v (.pair (.int .i64) (.int .i64))]
noncomputable def laws_toRate.C : Cfg := { tb := tb, tab := fun n f => Refl.look [] f, gl := [], ar := ar, bld := bld }
noncomputable def laws_toRate.A : Ann := { joins := [], loops := [], ids := [], pids := [], nroots := 75 }
noncomputable def laws_toRate (n : Nat) (x : Int × Int) : Option (Int × Int) := evalF laws_toRate.C laws_toRate.A Tryd.f54 laws_toRate.ps laws_toRate.res n x
noncomputable def laws_toRate.K0 (_ : Nat) : Kont (Int × Int) := finK laws_toRate.C (Func.results Tryd.f54).toList laws_toRate.ps laws_toRate.res
theorem laws_toRate.eq (n : Nat) (x0 : Int × Int) : laws_toRate n x0 = some ((Prod.fst x0, Prod.snd x0)) := by kernel_rfl
theorem laws_toRate.call : Callable Tryd.prog 54 := ⟨Tryd.f54, Tryd.func54, by kernel_rfl, by kernel_rfl⟩
theorem laws_toRate.ok (n : Nat) : FC Tryd.prog [] 54 { params := laws_toRate.ps, res := laws_toRate.res, run := laws_toRate n } :=
  evalF_ok (C := laws_toRate.C) ⟨tb_ok, fun n _ _ h => tabOk (l := []) (all_nil) h, mixed, ar_ok, bld_ok⟩ laws_toRate.A Tryd.func54 laws_toRate.ps laws_toRate.res n
end Go.Proofs.YtpgfkoeodhfkgaaDoorG
end
section
open Go Go.Refl Go.Proofs
set_option maxRecDepth 1000000
set_option maxHeartbeats 0
set_option linter.unusedVariables false
namespace Go.Proofs.YtpgfkoeodhfkgaaDoorG
abbrev laws_toEvent.ps : List Pm := [.arg (.v (.pair (.int .i64) (.pair (.int .i64) (.pair (.int .i64) (.pair (.int .i64) (.pair (.slice (.int .i64)) (.pair (.int .i64) (.int .i64))))))))]
abbrev laws_toEvent.res : List M := [.v (.pair (.int .i64) (.pair (.int .i64) (.pair (.int .i64) (.pair (.int .i64) (.pair (.slice (.int .i64)) (.pair (.int .i64) (.int .i64)))))))]
noncomputable def laws_toEvent.C : Cfg := { tb := tb, tab := fun n f => Refl.look [(53, { params := laws_toIntS.ps, res := laws_toIntS.res, run := laws_toIntS n }), (54, { params := laws_toRate.ps, res := laws_toRate.res, run := laws_toRate n })] f, gl := [], ar := ar, bld := bld }
noncomputable def laws_toEvent.A : Ann := { joins := [], loops := [], ids := [(7, [(22, [])])], pids := [], nroots := 89 }
noncomputable def laws_toEvent (n : Nat) (x : Int × Int × Int × Int × List Int × Int × Int) : Option (Int × Int × Int × Int × List Int × Int × Int) := evalF laws_toEvent.C laws_toEvent.A Tryd.f18 laws_toEvent.ps laws_toEvent.res n x
noncomputable def laws_toEvent.K0 (_ : Nat) : Kont (Int × Int × Int × Int × List Int × Int × Int) := finK laws_toEvent.C (Func.results Tryd.f18).toList laws_toEvent.ps laws_toEvent.res
theorem laws_toEvent.eq (n : Nat) (x0 : Int × Int × Int × Int × List Int × Int × Int) : laws_toEvent n x0 = ((laws_toIntS n (Prod.fst (Prod.snd (Prod.snd (Prod.snd (Prod.snd x0)))))).bind fun y0 => ((laws_toRate n (Prod.fst (Prod.snd (Prod.snd (Prod.snd (Prod.snd (Prod.snd x0))))), Prod.snd (Prod.snd (Prod.snd (Prod.snd (Prod.snd (Prod.snd x0))))))).bind fun y1 => some ((Prod.fst x0, Prod.fst (Prod.snd x0), Prod.fst (Prod.snd (Prod.snd x0)), Prod.fst (Prod.snd (Prod.snd (Prod.snd x0))), y0, Prod.fst y1, Prod.snd y1)))) := by kernel_rfl
theorem laws_toEvent.call : Callable Tryd.prog 18 := ⟨Tryd.f18, Tryd.func18, by kernel_rfl, by kernel_rfl⟩
theorem laws_toEvent.ok (n : Nat) : FC Tryd.prog [] 18 { params := laws_toEvent.ps, res := laws_toEvent.res, run := laws_toEvent n } :=
  evalF_ok (C := laws_toEvent.C) ⟨tb_ok, fun n _ _ h => tabOk (l := [(53, { params := laws_toIntS.ps, res := laws_toIntS.res, run := laws_toIntS n }), (54, { params := laws_toRate.ps, res := laws_toRate.res, run := laws_toRate n })]) (all_cons ⟨laws_toIntS.ok n, laws_toIntS.call⟩ (all_cons ⟨laws_toRate.ok n, laws_toRate.call⟩ (all_nil))) h, mixed, ar_ok, bld_ok⟩ laws_toEvent.A Tryd.func18 laws_toEvent.ps laws_toEvent.res n
end Go.Proofs.YtpgfkoeodhfkgaaDoorG
end
section
open Go Go.Refl Go.Proofs
set_option maxRecDepth 1000000
set_option maxHeartbeats 0
set_option linter.unusedVariables false
namespace Go.Proofs.YtpgfkoeodhfkgaaDoorG
abbrev laws_toEventS.ps : List Pm := [.arg (.v (.slice (.pair (.int .i64) (.pair (.int .i64) (.pair (.int .i64) (.pair (.int .i64) (.pair (.slice (.int .i64)) (.pair (.int .i64) (.int .i64)))))))))]
abbrev laws_toEventS.res : List M := [(.own (.pair (.int .i64) (.pair (.int .i64) (.pair (.int .i64) (.pair (.int .i64) (.pair (.slice (.int .i64)) (.pair (.int .i64) (.int .i64))))))) 38)]
noncomputable def laws_toEventS.C : Cfg := { tb := tb, tab := fun n f => Refl.look [(18, { params := laws_toEvent.ps, res := laws_toEvent.res, run := laws_toEvent n })] f, gl := [], ar := ar, bld := bld }
noncomputable def laws_toEventS.A : Ann := { joins := [], loops := [(3, { live := [0, 3, 4], base := 23 })], ids := [(5, [(20, [])])], pids := [], nroots := 87 }
noncomputable def laws_toEventS (n : Nat) (x : List (Int × Int × Int × Int × List Int × Int × Int)) : Option (List (Int × Int × Int × Int × List Int × Int × Int)) := evalF laws_toEventS.C laws_toEventS.A Tryd.f23 laws_toEventS.ps laws_toEventS.res n x
noncomputable def laws_toEventS.K0 (_ : Nat) : Kont (List (Int × Int × Int × Int × List Int × Int × Int)) := finK laws_toEventS.C (Func.results Tryd.f23).toList laws_toEventS.ps laws_toEventS.res
noncomputable def laws_toEventS.K1 (n : Nat) : Kont (List (Int × Int × Int × Int × List Int × Int × Int)) := seqK (fun s' k => evalC laws_toEventS.C laws_toEventS.A n (codeAt Tryd.f23 [1, 1, 1]) (cutAt laws_toEventS.A.joins (codeAt Tryd.f23 [1, 1, 1]) s') k) (laws_toEventS.K0 n)
noncomputable def laws_toEventS.K2 (n : Nat) : Kont (List (Int × Int × Int × Int × List Int × Int × Int)) := blockK 0 (laws_toEventS.K1 n)
noncomputable def laws_toEventS.l3 (n m3 : Nat) (x0 : List (Int × Int × Int × Int × List Int × Int × Int)) (x4 : Int) (r23 : List (Int × Int × Int × Int × List Int × Int × Int)) : Option (List (Int × Int × Int × Int × List Int × Int × Int)) := loopE (cutAt laws_toEventS.A.loops (codeAt Tryd.f23 [1, 1, 0, 1, 0, 0])) (fun s k => evalC laws_toEventS.C laws_toEventS.A n (codeAt Tryd.f23 [1, 1, 0, 1, 0, 0]) s k) m3 (St.of 23 87 [(0, .val (.slice (.pair (.int .i64) (.pair (.int .i64) (.pair (.int .i64) (.pair (.int .i64) (.pair (.slice (.int .i64)) (.pair (.int .i64) (.int .i64)))))))) x0), (3, .own 23), (4, .val (.int .i64) x4)] [(23, .row (.pair (.int .i64) (.pair (.int .i64) (.pair (.int .i64) (.pair (.int .i64) (.pair (.slice (.int .i64)) (.pair (.int .i64) (.int .i64))))))) 38 r23)] []) (laws_toEventS.K2 n)
theorem laws_toEventS.eq (n : Nat) (x0 : List (Int × Int × Int × Int × List Int × Int × Int)) : laws_toEventS n x0 = (if 0 ≤ (↑(List.length x0) : Int) then (if (↑(List.length x0) : Int) ≤ (↑(List.length x0) : Int) then (if (↑(List.length x0) : Int) ≤ (↑Go.Refl.maxN : Int) then laws_toEventS.l3 n n (x0) (0) (List.replicate (Int.toNat (↑(List.length x0) : Int)) (0, 0, 0, 0, [], 0, 0)) else none) else none) else none) := by kernel_rfl
theorem laws_toEventS.l3_zero (n : Nat) (x0 : List (Int × Int × Int × Int × List Int × Int × Int)) (x4 : Int) (r23 : List (Int × Int × Int × Int × List Int × Int × Int)) : laws_toEventS.l3 n 0 x0 x4 r23 = none := by kernel_rfl
theorem laws_toEventS.l3_succ (n m3 : Nat) (x0 : List (Int × Int × Int × Int × List Int × Int × Int)) (x4 : Int) (r23 : List (Int × Int × Int × Int × List Int × Int × Int)) : laws_toEventS.l3 n (m3 + 1) x0 x4 r23 = (if x4 < (↑(List.length x0) : Int) then (if 0 ≤ x4 then (if x4 < (↑(List.length x0) : Int) then ((laws_toEvent n (List.getD x0 (Int.toNat x4) (0, 0, 0, 0, [], 0, 0))).bind fun y0 => (if 0 ≤ x4 then (if x4 < (↑(List.length r23) : Int) then laws_toEventS.l3 n m3 (x0) (Go.RowKit.wrap64 (x4 + 1)) (List.set r23 (Int.toNat x4) y0) else none) else none)) else none) else none) else some (r23)) := by kernel_rfl
theorem laws_toEventS.call : Callable Tryd.prog 23 := ⟨Tryd.f23, Tryd.func23, by kernel_rfl, by kernel_rfl⟩
theorem laws_toEventS.ok (n : Nat) : FC Tryd.prog [] 23 { params := laws_toEventS.ps, res := laws_toEventS.res, run := laws_toEventS n } :=
  evalF_ok (C := laws_toEventS.C) ⟨tb_ok, fun n _ _ h => tabOk (l := [(18, { params := laws_toEvent.ps, res := laws_toEvent.res, run := laws_toEvent n })]) (all_cons ⟨laws_toEvent.ok n, laws_toEvent.call⟩ (all_nil)) h, mixed, ar_ok, bld_ok⟩ laws_toEventS.A Tryd.func23 laws_toEventS.ps laws_toEventS.res n
end Go.Proofs.YtpgfkoeodhfkgaaDoorG
end
section
open Go Go.Refl Go.Proofs
set_option maxRecDepth 1000000
set_option maxHeartbeats 0
set_option linter.unusedVariables false
namespace Go.Proofs.YtpgfkoeodhfkgaaDoorG
abbrev spec_inRange.ps : List Pm := [.arg (.v (.int .i64)), .arg (.v (.int .i64)), .arg (.v (.int .i64))]
abbrev spec_inRange.res : List M := [.v .bool]
noncomputable def spec_inRange.C : Cfg := { tb := tb, tab := fun n f => Refl.look [] f, gl := [], ar := ar, bld := bld }
noncomputable def spec_inRange.A : Ann := { joins := [], loops := [], ids := [], pids := [], nroots := 79 }
noncomputable def spec_inRange (n : Nat) (x : Int × Int × Int) : Option (Bool) := evalF spec_inRange.C spec_inRange.A Tryd.f83 spec_inRange.ps spec_inRange.res n x
noncomputable def spec_inRange.K0 (_ : Nat) : Kont (Bool) := finK spec_inRange.C (Func.results Tryd.f83).toList spec_inRange.ps spec_inRange.res
theorem spec_inRange.eq (n : Nat) (x0 : Int) (x1 : Int) (x2 : Int) : spec_inRange n (x0, x1, x2) = (if x1 ≤ x0 then some (Decidable.decide (x0 ≤ x2)) else some (Bool.false)) := by kernel_rfl
theorem spec_inRange.call : Callable Tryd.prog 83 := ⟨Tryd.f83, Tryd.func83, by kernel_rfl, by kernel_rfl⟩
theorem spec_inRange.ok (n : Nat) : FC Tryd.prog [] 83 { params := spec_inRange.ps, res := spec_inRange.res, run := spec_inRange n } :=
  evalF_ok (C := spec_inRange.C) ⟨tb_ok, fun n _ _ h => tabOk (l := []) (all_nil) h, mixed, ar_ok, bld_ok⟩ spec_inRange.A Tryd.func83 spec_inRange.ps spec_inRange.res n
end Go.Proofs.YtpgfkoeodhfkgaaDoorG
end
section
open Go Go.Refl Go.Proofs
set_option maxRecDepth 1000000
set_option maxHeartbeats 0
set_option linter.unusedVariables false
namespace Go.Proofs.YtpgfkoeodhfkgaaDoorG
abbrev spec_validRate.ps : List Pm := [.arg (.v (.pair (.int .i64) (.int .i64)))]
abbrev spec_validRate.res : List M := [.v .bool]
noncomputable def spec_validRate.C : Cfg := { tb := tb, tab := fun n f => Refl.look [(83, { params := spec_inRange.ps, res := spec_inRange.res, run := spec_inRange n })] f, gl := [], ar := ar, bld := bld }
noncomputable def spec_validRate.A : Ann := { joins := [], loops := [], ids := [(1, [(5, []), (11, [])])], pids := [], nroots := 77 }
noncomputable def spec_validRate (n : Nat) (x : Int × Int) : Option (Bool) := evalF spec_validRate.C spec_validRate.A Tryd.f82 spec_validRate.ps spec_validRate.res n x
noncomputable def spec_validRate.K0 (_ : Nat) : Kont (Bool) := finK spec_validRate.C (Func.results Tryd.f82).toList spec_validRate.ps spec_validRate.res
theorem spec_validRate.eq (n : Nat) (x0 : Int × Int) : spec_validRate n x0 = ((spec_inRange n (Prod.snd x0, 1, 1000)).bind fun y0 => (if y0 = Bool.true then ((spec_inRange n (Prod.fst x0, 0, Prod.snd x0)).bind fun y1 => some (y1)) else some (Bool.false))) := by kernel_rfl
theorem spec_validRate.call : Callable Tryd.prog 82 := ⟨Tryd.f82, Tryd.func82, by kernel_rfl, by kernel_rfl⟩
theorem spec_validRate.ok (n : Nat) : FC Tryd.prog [] 82 { params := spec_validRate.ps, res := spec_validRate.res, run := spec_validRate n } :=
  evalF_ok (C := spec_validRate.C) ⟨tb_ok, fun n _ _ h => tabOk (l := [(83, { params := spec_inRange.ps, res := spec_inRange.res, run := spec_inRange n })]) (all_cons ⟨spec_inRange.ok n, spec_inRange.call⟩ (all_nil)) h, mixed, ar_ok, bld_ok⟩ spec_validRate.A Tryd.func82 spec_validRate.ps spec_validRate.res n
end Go.Proofs.YtpgfkoeodhfkgaaDoorG
end
section
open Go Go.Refl Go.Proofs
set_option maxRecDepth 1000000
set_option maxHeartbeats 0
set_option linter.unusedVariables false
namespace Go.Proofs.YtpgfkoeodhfkgaaDoorG
abbrev spec_number.ps : List Pm := [.arg (.v (.int .i64))]
abbrev spec_number.res : List M := [.v .str]
noncomputable def spec_number.C (self : pdens spec_number.ps → Option (dens (spec_number.res ++ outs spec_number.ps))) : Cfg := { tb := tb, tab := fun n f => Refl.look [(79, { params := spec_number.ps, res := spec_number.res, run := self })] f, gl := [], ar := ar, bld := bld }
noncomputable def spec_number.A : Ann := { joins := [], loops := [], ids := [(3, [(11, []), (14, [])])], pids := [], nroots := 80 }
noncomputable def spec_number.S (self : Int → Option ByteArray) (n : Nat) (x : Int) : Option (ByteArray) := evalF (spec_number.C self) spec_number.A Tryd.f79 spec_number.ps spec_number.res n x
noncomputable def spec_number (n : Nat) : Int → Option (ByteArray) := Nat.rec (fun _ => none) (fun n self => spec_number.S self n) n
theorem spec_number.zero (x : Int) : spec_number 0 x = none := rfl
theorem spec_number.succ (n : Nat) (x : Int) : spec_number (n + 1) x = spec_number.S (spec_number n) n x := by kernel_rfl
noncomputable def spec_number.K0 (self : Int → Option ByteArray) (_ : Nat) : Kont (ByteArray) := finK (spec_number.C self) (Func.results Tryd.f79).toList spec_number.ps spec_number.res
theorem spec_number.eq (self : Int → Option ByteArray) (n : Nat) (x0 : Int) : spec_number.S self n x0 = (if x0 < 10 then (if 0 ≤ x0 then (if x0 ≤ Go.RowKit.wrap64 (x0 + 1) then (if Go.RowKit.wrap64 (x0 + 1) ≤ (↑(ByteArray.size { data := #[(48 : UInt8), (49 : UInt8), (50 : UInt8), (51 : UInt8), (52 : UInt8), (53 : UInt8), (54 : UInt8), (55 : UInt8), (56 : UInt8), (57 : UInt8)] }) : Int) then some (ByteArray.extract { data := #[(48 : UInt8), (49 : UInt8), (50 : UInt8), (51 : UInt8), (52 : UInt8), (53 : UInt8), (54 : UInt8), (55 : UInt8), (56 : UInt8), (57 : UInt8)] } (Int.toNat x0) (Int.toNat (Go.RowKit.wrap64 (x0 + 1)))) else none) else none) else none) else ((self (Go.RowKit.wrap64 (Int.tdiv x0 10))).bind fun y0 => ((self (Int.tmod x0 10)).bind fun y1 => (if ByteArray.size y0 + ByteArray.size y1 ≤ Go.Refl.maxN then some (y0 ++ y1) else none)))) := by kernel_rfl
theorem spec_number.call : Callable Tryd.prog 79 := ⟨Tryd.f79, Tryd.func79, by kernel_rfl, by kernel_rfl⟩
theorem spec_number.okS {self : pdens spec_number.ps → Option (dens (spec_number.res ++ outs spec_number.ps))} (hs : FC Tryd.prog [] 79 { params := spec_number.ps, res := spec_number.res, run := self }) (n : Nat) : FC Tryd.prog [] 79 { params := spec_number.ps, res := spec_number.res, run := spec_number.S self n } :=
  evalF_ok (C := spec_number.C self) ⟨tb_ok, fun n _ _ h => tabOk (l := [(79, { params := spec_number.ps, res := spec_number.res, run := self })]) (all_cons ⟨hs, spec_number.call⟩ (all_nil)) h, mixed, ar_ok, bld_ok⟩ spec_number.A Tryd.func79 spec_number.ps spec_number.res n
theorem spec_number.ok : (n : Nat) → FC Tryd.prog [] 79 { params := spec_number.ps, res := spec_number.res, run := spec_number n }
  | 0 => fun _ _ h => by cases h
  | n + 1 => spec_number.okS (spec_number.ok n) n
end Go.Proofs.YtpgfkoeodhfkgaaDoorG
end
section
open Go Go.Refl Go.Proofs
set_option maxRecDepth 1000000
set_option maxHeartbeats 0
set_option linter.unusedVariables false
namespace Go.Proofs.YtpgfkoeodhfkgaaDoorG
abbrev spec_validAmount.ps : List Pm := [.arg (.v (.int .i64))]
abbrev spec_validAmount.res : List M := [.v .bool]
noncomputable def spec_validAmount.C : Cfg := { tb := tb, tab := fun n f => Refl.look [(83, { params := spec_inRange.ps, res := spec_inRange.res, run := spec_inRange n })] f, gl := [], ar := ar, bld := bld }
noncomputable def spec_validAmount.A : Ann := { joins := [], loops := [], ids := [(1, [(4, [])])], pids := [], nroots := 69 }
noncomputable def spec_validAmount (n : Nat) (x : Int) : Option (Bool) := evalF spec_validAmount.C spec_validAmount.A Tryd.f84 spec_validAmount.ps spec_validAmount.res n x
noncomputable def spec_validAmount.K0 (_ : Nat) : Kont (Bool) := finK spec_validAmount.C (Func.results Tryd.f84).toList spec_validAmount.ps spec_validAmount.res
theorem spec_validAmount.eq (n : Nat) (x0 : Int) : spec_validAmount n x0 = ((spec_inRange n (x0, 0, 1000000)).bind fun y0 => some (y0)) := by kernel_rfl
theorem spec_validAmount.call : Callable Tryd.prog 84 := ⟨Tryd.f84, Tryd.func84, by kernel_rfl, by kernel_rfl⟩
theorem spec_validAmount.ok (n : Nat) : FC Tryd.prog [] 84 { params := spec_validAmount.ps, res := spec_validAmount.res, run := spec_validAmount n } :=
  evalF_ok (C := spec_validAmount.C) ⟨tb_ok, fun n _ _ h => tabOk (l := [(83, { params := spec_inRange.ps, res := spec_inRange.res, run := spec_inRange n })]) (all_cons ⟨spec_inRange.ok n, spec_inRange.call⟩ (all_nil)) h, mixed, ar_ok, bld_ok⟩ spec_validAmount.A Tryd.func84 spec_validAmount.ps spec_validAmount.res n
end Go.Proofs.YtpgfkoeodhfkgaaDoorG
end
section
open Go Go.Refl Go.Proofs
set_option maxRecDepth 1000000
set_option maxHeartbeats 0
set_option linter.unusedVariables false
namespace Go.Proofs.YtpgfkoeodhfkgaaDoorG
abbrev spec_money.ps : List Pm := [.arg (.v (.int .i64))]
abbrev spec_money.res : List M := [.v .str]
noncomputable def spec_money.C : Cfg := { tb := tb, tab := fun n f => Refl.look [(79, { params := spec_number.ps, res := spec_number.res, run := spec_number n })] f, gl := [], ar := ar, bld := bld }
noncomputable def spec_money.A : Ann := { joins := [], loops := [], ids := [(1, [(5, []), (10, []), (14, [])])], pids := [], nroots := 80 }
noncomputable def spec_money (n : Nat) (x : Int) : Option (ByteArray) := evalF spec_money.C spec_money.A Tryd.f85 spec_money.ps spec_money.res n x
noncomputable def spec_money.K0 (_ : Nat) : Kont (ByteArray) := finK spec_money.C (Func.results Tryd.f85).toList spec_money.ps spec_money.res
theorem spec_money.eq (n : Nat) (x0 : Int) : spec_money n x0 = ((spec_number n (Go.RowKit.wrap64 (Int.tdiv x0 100))).bind fun y0 => (if ByteArray.size y0 + ByteArray.size { data := #[(46 : UInt8)] } ≤ Go.Refl.maxN then ((spec_number n (Int.tmod (Go.RowKit.wrap64 (Int.tdiv x0 10)) 10)).bind fun y1 => (if ByteArray.size (y0 ++ { data := #[(46 : UInt8)] }) + ByteArray.size y1 ≤ Go.Refl.maxN then ((spec_number n (Int.tmod x0 10)).bind fun y2 => (if ByteArray.size (y0 ++ { data := #[(46 : UInt8)] } ++ y1) + ByteArray.size y2 ≤ Go.Refl.maxN then some (y0 ++ { data := #[(46 : UInt8)] } ++ y1 ++ y2) else none)) else none)) else none)) := by kernel_rfl
theorem spec_money.call : Callable Tryd.prog 85 := ⟨Tryd.f85, Tryd.func85, by kernel_rfl, by kernel_rfl⟩
theorem spec_money.ok (n : Nat) : FC Tryd.prog [] 85 { params := spec_money.ps, res := spec_money.res, run := spec_money n } :=
  evalF_ok (C := spec_money.C) ⟨tb_ok, fun n _ _ h => tabOk (l := [(79, { params := spec_number.ps, res := spec_number.res, run := spec_number n })]) (all_cons ⟨spec_number.ok n, spec_number.call⟩ (all_nil)) h, mixed, ar_ok, bld_ok⟩ spec_money.A Tryd.func85 spec_money.ps spec_money.res n
end Go.Proofs.YtpgfkoeodhfkgaaDoorG
end
section
open Go Go.Refl Go.Proofs
set_option maxRecDepth 1000000
set_option maxHeartbeats 0
set_option linter.unusedVariables false
namespace Go.Proofs.YtpgfkoeodhfkgaaDoorG
abbrev spec_showEvent.ps : List Pm := [.arg (.v (.pair (.int .i64) (.pair (.int .i64) (.pair (.int .i64) (.pair (.int .i64) (.pair (.slice (.int .i64)) (.pair (.int .i64) (.int .i64))))))))]
abbrev spec_showEvent.res : List M := [.v .str]
noncomputable def spec_showEvent.C : Cfg := { tb := tb, tab := fun n f => Refl.look [(82, { params := spec_validRate.ps, res := spec_validRate.res, run := spec_validRate n }), (79, { params := spec_number.ps, res := spec_number.res, run := spec_number n }), (83, { params := spec_inRange.ps, res := spec_inRange.res, run := spec_inRange n }), (84, { params := spec_validAmount.ps, res := spec_validAmount.res, run := spec_validAmount n }), (85, { params := spec_money.ps, res := spec_money.res, run := spec_money n })] f, gl := [], ar := ar, bld := bld }
noncomputable def spec_showEvent.A : Ann := { joins := [], loops := [(27, { live := [1, 3, 4], base := 120 })], ids := [(7, [(15, [])]), (8, [(19, []), (25, [])]), (10, [(29, [])]), (13, [(36, [])]), (14, [(40, [])]), (18, [(48, []), (53, [])]), (20, [(59, []), (64, [])]), (22, [(70, [])]), (23, [(73, []), (78, []), (83, [])]), (25, [(89, []), (94, [])]), (29, [(108, [])]), (31, [(117, [])])], pids := [], nroots := 184 }
noncomputable def spec_showEvent (n : Nat) (x : Int × Int × Int × Int × List Int × Int × Int) : Option (ByteArray) := evalF spec_showEvent.C spec_showEvent.A Tryd.f52 spec_showEvent.ps spec_showEvent.res n x
noncomputable def spec_showEvent.K0 (_ : Nat) : Kont (ByteArray) := finK spec_showEvent.C (Func.results Tryd.f52).toList spec_showEvent.ps spec_showEvent.res
noncomputable def spec_showEvent.K1 (n : Nat) : Kont (ByteArray) := seqK (fun s' k => evalC spec_showEvent.C spec_showEvent.A n (codeAt Tryd.f52 [1, 1, 1, 1, 1, 1]) (cutAt spec_showEvent.A.joins (codeAt Tryd.f52 [1, 1, 1, 1, 1, 1]) s') k) (spec_showEvent.K0 n)
noncomputable def spec_showEvent.K2 (n : Nat) : Kont (ByteArray) := blockK 1 (spec_showEvent.K1 n)
noncomputable def spec_showEvent.K3 (n : Nat) : Kont (ByteArray) := seqK (fun s' k => evalC spec_showEvent.C spec_showEvent.A n (codeAt Tryd.f52 [1, 1, 1, 1, 1, 0, 1, 0, 1, 1, 1, 1, 1, 1, 1, 0, 1, 1]) (cutAt spec_showEvent.A.joins (codeAt Tryd.f52 [1, 1, 1, 1, 1, 0, 1, 0, 1, 1, 1, 1, 1, 1, 1, 0, 1, 1]) s') k) (spec_showEvent.K2 n)
noncomputable def spec_showEvent.K4 (n : Nat) : Kont (ByteArray) := blockK 2 (spec_showEvent.K3 n)
noncomputable def spec_showEvent.l27 (n m27 : Nat) (x3 : ByteArray) (x4 : Int) (r120_0 : Int) (r120_1 : Int) (r120_2 : Int) (r120_3 : Int) (r120_4 : List Int) (r120_5 : Int) (r120_6 : Int) : Option (ByteArray) := loopE (cutAt spec_showEvent.A.loops (codeAt Tryd.f52 [1, 1, 1, 1, 1, 0, 1, 0, 1, 1, 1, 1, 1, 1, 1, 0, 1, 0, 1, 0, 0])) (fun s k => evalC spec_showEvent.C spec_showEvent.A n (codeAt Tryd.f52 [1, 1, 1, 1, 1, 0, 1, 0, 1, 1, 1, 1, 1, 1, 1, 0, 1, 0, 1, 0, 0]) s k) m27 (St.of 120 184 [(1, .ptr 120 0 0), (3, .val .str x3), (4, .val (.int .i64) x4)] [(120, .box 38 [.val (.int .i64) r120_0, .val (.int .i64) r120_1, .val (.int .i64) r120_2, .val (.int .i64) r120_3, .val (.slice (.int .i64)) r120_4, .val (.int .i64) r120_5, .val (.int .i64) r120_6])] []) (spec_showEvent.K4 n)
theorem spec_showEvent.eq (n : Nat) (x0 : Int × Int × Int × Int × List Int × Int × Int) : spec_showEvent n x0 = (if Prod.fst x0 = 0 then some ({ data := #[(106 : UInt8), (111 : UInt8), (105 : UInt8), (110 : UInt8)] }) else (if Prod.fst x0 = 7 then some ({ data := #[(115 : UInt8), (104 : UInt8), (97 : UInt8), (114 : UInt8), (101 : UInt8)] }) else (if Prod.fst x0 = 6 then ((spec_validRate n (Prod.fst (Prod.snd (Prod.snd (Prod.snd (Prod.snd (Prod.snd x0))))), Prod.snd (Prod.snd (Prod.snd (Prod.snd (Prod.snd (Prod.snd x0))))))).bind fun y0 => (if (y0) = true then ((spec_number n (Prod.fst (Prod.snd (Prod.snd (Prod.snd (Prod.snd (Prod.snd x0))))))).bind fun y1 => (if ByteArray.size { data := #[(110 : UInt8), (105 : UInt8), (103 : UInt8), (104 : UInt8), (116 : UInt8), (32 : UInt8)] } + ByteArray.size y1 ≤ Go.Refl.maxN then (if ByteArray.size ({ data := #[(110 : UInt8), (105 : UInt8), (103 : UInt8), (104 : UInt8), (116 : UInt8), (32 : UInt8)] } ++ y1) + ByteArray.size { data := #[(32 : UInt8)] } ≤ Go.Refl.maxN then ((spec_number n (Prod.snd (Prod.snd (Prod.snd (Prod.snd (Prod.snd (Prod.snd x0))))))).bind fun y2 => (if ByteArray.size ({ data := #[(110 : UInt8), (105 : UInt8), (103 : UInt8), (104 : UInt8), (116 : UInt8), (32 : UInt8)] } ++ y1 ++ { data := #[(32 : UInt8)] }) + ByteArray.size y2 ≤ Go.Refl.maxN then some ({ data := #[(110 : UInt8), (105 : UInt8), (103 : UInt8), (104 : UInt8), (116 : UInt8), (32 : UInt8)] } ++ y1 ++ { data := #[(32 : UInt8)] } ++ y2) else none)) else none) else none)) else some ({ data := #[] }))) else ((spec_inRange n (Prod.fst (Prod.snd x0), 0, 99)).bind fun y3 => (if (!y3) = true then some ({ data := #[] }) else (if Prod.fst x0 = 5 then ((spec_number n (Prod.fst (Prod.snd x0))).bind fun y4 => (if ByteArray.size { data := #[(102 : UInt8), (97 : UInt8), (105 : UInt8), (108 : UInt8), (32 : UInt8)] } + ByteArray.size y4 ≤ Go.Refl.maxN then some ({ data := #[(102 : UInt8), (97 : UInt8), (105 : UInt8), (108 : UInt8), (32 : UInt8)] } ++ y4) else none)) else ((spec_validAmount n (Prod.fst (Prod.snd (Prod.snd x0)))).bind fun y5 => (if (!y5) = true then some ({ data := #[] }) else (if Prod.fst x0 = 1 then ((spec_number n (Prod.fst (Prod.snd x0))).bind fun y6 => (if ByteArray.size { data := #[(115 : UInt8), (97 : UInt8), (118 : UInt8), (101 : UInt8), (32 : UInt8)] } + ByteArray.size y6 ≤ Go.Refl.maxN then (if ByteArray.size ({ data := #[(115 : UInt8), (97 : UInt8), (118 : UInt8), (101 : UInt8), (32 : UInt8)] } ++ y6) + ByteArray.size { data := #[(32 : UInt8)] } ≤ Go.Refl.maxN then ((spec_money n (Prod.fst (Prod.snd (Prod.snd x0)))).bind fun y7 => (if ByteArray.size ({ data := #[(115 : UInt8), (97 : UInt8), (118 : UInt8), (101 : UInt8), (32 : UInt8)] } ++ y6 ++ { data := #[(32 : UInt8)] }) + ByteArray.size y7 ≤ Go.Refl.maxN then some ({ data := #[(115 : UInt8), (97 : UInt8), (118 : UInt8), (101 : UInt8), (32 : UInt8)] } ++ y6 ++ { data := #[(32 : UInt8)] } ++ y7) else none)) else none) else none)) else (if Prod.fst x0 = 2 then ((spec_number n (Prod.fst (Prod.snd x0))).bind fun y8 => (if ByteArray.size { data := #[(116 : UInt8), (97 : UInt8), (107 : UInt8), (101 : UInt8), (32 : UInt8)] } + ByteArray.size y8 ≤ Go.Refl.maxN then (if ByteArray.size ({ data := #[(116 : UInt8), (97 : UInt8), (107 : UInt8), (101 : UInt8), (32 : UInt8)] } ++ y8) + ByteArray.size { data := #[(32 : UInt8)] } ≤ Go.Refl.maxN then ((spec_money n (Prod.fst (Prod.snd (Prod.snd x0)))).bind fun y9 => (if ByteArray.size ({ data := #[(116 : UInt8), (97 : UInt8), (107 : UInt8), (101 : UInt8), (32 : UInt8)] } ++ y8 ++ { data := #[(32 : UInt8)] }) + ByteArray.size y9 ≤ Go.Refl.maxN then some ({ data := #[(116 : UInt8), (97 : UInt8), (107 : UInt8), (101 : UInt8), (32 : UInt8)] } ++ y8 ++ { data := #[(32 : UInt8)] } ++ y9) else none)) else none) else none)) else (if Prod.fst x0 = 4 then ((spec_validAmount n (Prod.fst (Prod.snd (Prod.snd (Prod.snd x0))))).bind fun y10 => (if (y10) = true then ((spec_number n (Prod.fst (Prod.snd x0))).bind fun y11 => (if ByteArray.size { data := #[(114 : UInt8), (101 : UInt8), (112 : UInt8), (97 : UInt8), (121 : UInt8), (32 : UInt8)] } + ByteArray.size y11 ≤ Go.Refl.maxN then (if ByteArray.size ({ data := #[(114 : UInt8), (101 : UInt8), (112 : UInt8), (97 : UInt8), (121 : UInt8), (32 : UInt8)] } ++ y11) + ByteArray.size { data := #[(32 : UInt8)] } ≤ Go.Refl.maxN then ((spec_money n (Prod.fst (Prod.snd (Prod.snd x0)))).bind fun y12 => (if ByteArray.size ({ data := #[(114 : UInt8), (101 : UInt8), (112 : UInt8), (97 : UInt8), (121 : UInt8), (32 : UInt8)] } ++ y11 ++ { data := #[(32 : UInt8)] }) + ByteArray.size y12 ≤ Go.Refl.maxN then (if ByteArray.size ({ data := #[(114 : UInt8), (101 : UInt8), (112 : UInt8), (97 : UInt8), (121 : UInt8), (32 : UInt8)] } ++ y11 ++ { data := #[(32 : UInt8)] } ++ y12) + ByteArray.size { data := #[(32 : UInt8)] } ≤ Go.Refl.maxN then ((spec_money n (Prod.fst (Prod.snd (Prod.snd (Prod.snd x0))))).bind fun y13 => (if ByteArray.size ({ data := #[(114 : UInt8), (101 : UInt8), (112 : UInt8), (97 : UInt8), (121 : UInt8), (32 : UInt8)] } ++ y11 ++ { data := #[(32 : UInt8)] } ++ y12 ++ { data := #[(32 : UInt8)] }) + ByteArray.size y13 ≤ Go.Refl.maxN then some ({ data := #[(114 : UInt8), (101 : UInt8), (112 : UInt8), (97 : UInt8), (121 : UInt8), (32 : UInt8)] } ++ y11 ++ { data := #[(32 : UInt8)] } ++ y12 ++ { data := #[(32 : UInt8)] } ++ y13) else none)) else none) else none)) else none) else none)) else some ({ data := #[] }))) else (if Prod.fst x0 = 3 then ((spec_number n (Prod.fst (Prod.snd x0))).bind fun y14 => (if ByteArray.size { data := #[(108 : UInt8), (101 : UInt8), (110 : UInt8), (100 : UInt8), (32 : UInt8)] } + ByteArray.size y14 ≤ Go.Refl.maxN then (if ByteArray.size ({ data := #[(108 : UInt8), (101 : UInt8), (110 : UInt8), (100 : UInt8), (32 : UInt8)] } ++ y14) + ByteArray.size { data := #[(32 : UInt8)] } ≤ Go.Refl.maxN then ((spec_money n (Prod.fst (Prod.snd (Prod.snd x0)))).bind fun y15 => (if ByteArray.size ({ data := #[(108 : UInt8), (101 : UInt8), (110 : UInt8), (100 : UInt8), (32 : UInt8)] } ++ y14 ++ { data := #[(32 : UInt8)] }) + ByteArray.size y15 ≤ Go.Refl.maxN then spec_showEvent.l27 n n ({ data := #[(108 : UInt8), (101 : UInt8), (110 : UInt8), (100 : UInt8), (32 : UInt8)] } ++ y14 ++ { data := #[(32 : UInt8)] } ++ y15) (0) (Prod.fst x0) (Prod.fst (Prod.snd x0)) (Prod.fst (Prod.snd (Prod.snd x0))) (Prod.fst (Prod.snd (Prod.snd (Prod.snd x0)))) (Prod.fst (Prod.snd (Prod.snd (Prod.snd (Prod.snd x0))))) (Prod.fst (Prod.snd (Prod.snd (Prod.snd (Prod.snd (Prod.snd x0)))))) (Prod.snd (Prod.snd (Prod.snd (Prod.snd (Prod.snd (Prod.snd x0)))))) else none)) else none) else none)) else some ({ data := #[] }))))))))))))) := by kernel_rfl
theorem spec_showEvent.l27_zero (n : Nat) (x3 : ByteArray) (x4 : Int) (r120_0 : Int) (r120_1 : Int) (r120_2 : Int) (r120_3 : Int) (r120_4 : List Int) (r120_5 : Int) (r120_6 : Int) : spec_showEvent.l27 n 0 x3 x4 r120_0 r120_1 r120_2 r120_3 r120_4 r120_5 r120_6 = none := by kernel_rfl
theorem spec_showEvent.l27_succ (n m27 : Nat) (x3 : ByteArray) (x4 : Int) (r120_0 : Int) (r120_1 : Int) (r120_2 : Int) (r120_3 : Int) (r120_4 : List Int) (r120_5 : Int) (r120_6 : Int) : spec_showEvent.l27 n (m27 + 1) x3 x4 r120_0 r120_1 r120_2 r120_3 r120_4 r120_5 r120_6 = (if x4 < (↑(List.length r120_4) : Int) then (if 0 ≤ x4 then (if x4 < (↑(List.length r120_4) : Int) then ((spec_inRange n (List.getD r120_4 (Int.toNat x4) 0, 0, 99)).bind fun y16 => (if (!y16) = true then some ({ data := #[] }) else (if ByteArray.size x3 + ByteArray.size { data := #[(32 : UInt8)] } ≤ Go.Refl.maxN then (if 0 ≤ x4 then (if x4 < (↑(List.length r120_4) : Int) then ((spec_number n (List.getD r120_4 (Int.toNat x4) 0)).bind fun y17 => (if ByteArray.size (x3 ++ { data := #[(32 : UInt8)] }) + ByteArray.size y17 ≤ Go.Refl.maxN then spec_showEvent.l27 n m27 (x3 ++ { data := #[(32 : UInt8)] } ++ y17) (Go.RowKit.wrap64 (x4 + 1)) (r120_0) (r120_1) (r120_2) (r120_3) (r120_4) (r120_5) (r120_6) else none)) else none) else none) else none))) else none) else none) else some (x3)) := by kernel_rfl
theorem spec_showEvent.call : Callable Tryd.prog 52 := ⟨Tryd.f52, Tryd.func52, by kernel_rfl, by kernel_rfl⟩
theorem spec_showEvent.ok (n : Nat) : FC Tryd.prog [] 52 { params := spec_showEvent.ps, res := spec_showEvent.res, run := spec_showEvent n } :=
  evalF_ok (C := spec_showEvent.C) ⟨tb_ok, fun n _ _ h => tabOk (l := [(82, { params := spec_validRate.ps, res := spec_validRate.res, run := spec_validRate n }), (79, { params := spec_number.ps, res := spec_number.res, run := spec_number n }), (83, { params := spec_inRange.ps, res := spec_inRange.res, run := spec_inRange n }), (84, { params := spec_validAmount.ps, res := spec_validAmount.res, run := spec_validAmount n }), (85, { params := spec_money.ps, res := spec_money.res, run := spec_money n })]) (all_cons ⟨spec_validRate.ok n, spec_validRate.call⟩ (all_cons ⟨spec_number.ok n, spec_number.call⟩ (all_cons ⟨spec_inRange.ok n, spec_inRange.call⟩ (all_cons ⟨spec_validAmount.ok n, spec_validAmount.call⟩ (all_cons ⟨spec_money.ok n, spec_money.call⟩ (all_nil)))))) h, mixed, ar_ok, bld_ok⟩ spec_showEvent.A Tryd.func52 spec_showEvent.ps spec_showEvent.res n
end Go.Proofs.YtpgfkoeodhfkgaaDoorG
end
section
open Go Go.Refl Go.Proofs
set_option maxRecDepth 1000000
set_option maxHeartbeats 0
set_option linter.unusedVariables false
namespace Go.Proofs.YtpgfkoeodhfkgaaDoorG
abbrev spec_FormatBook.ps : List Pm := [.arg (.v (.slice (.pair (.int .i64) (.pair (.int .i64) (.pair (.int .i64) (.pair (.int .i64) (.pair (.slice (.int .i64)) (.pair (.int .i64) (.int .i64)))))))))]
abbrev spec_FormatBook.res : List M := [.v .str]
noncomputable def spec_FormatBook.C : Cfg := { tb := tb, tab := fun n f => Refl.look [(52, { params := spec_showEvent.ps, res := spec_showEvent.res, run := spec_showEvent n })] f, gl := [], ar := ar, bld := bld }
noncomputable def spec_FormatBook.A : Ann := { joins := [], loops := [(5, { live := [0, 3, 4], base := 29 })], ids := [(7, [(18, [])]), (9, [(25, [])])], pids := [], nroots := 93 }
noncomputable def spec_FormatBook (n : Nat) (x : List (Int × Int × Int × Int × List Int × Int × Int)) : Option (ByteArray) := evalF spec_FormatBook.C spec_FormatBook.A Tryd.f22 spec_FormatBook.ps spec_FormatBook.res n x
noncomputable def spec_FormatBook.K0 (_ : Nat) : Kont (ByteArray) := finK spec_FormatBook.C (Func.results Tryd.f22).toList spec_FormatBook.ps spec_FormatBook.res
noncomputable def spec_FormatBook.K1 (n : Nat) : Kont (ByteArray) := seqK (fun s' k => evalC spec_FormatBook.C spec_FormatBook.A n (codeAt Tryd.f22 [1, 1, 1, 1]) (cutAt spec_FormatBook.A.joins (codeAt Tryd.f22 [1, 1, 1, 1]) s') k) (spec_FormatBook.K0 n)
noncomputable def spec_FormatBook.K2 (n : Nat) : Kont (ByteArray) := blockK 0 (spec_FormatBook.K1 n)
noncomputable def spec_FormatBook.l5 (n m5 : Nat) (x0 : List (Int × Int × Int × Int × List Int × Int × Int)) (x3 : ByteArray) (x4 : Int) : Option (ByteArray) := loopE (cutAt spec_FormatBook.A.loops (codeAt Tryd.f22 [1, 1, 1, 0, 1, 0, 0])) (fun s k => evalC spec_FormatBook.C spec_FormatBook.A n (codeAt Tryd.f22 [1, 1, 1, 0, 1, 0, 0]) s k) m5 (St.of 29 93 [(0, .val (.slice (.pair (.int .i64) (.pair (.int .i64) (.pair (.int .i64) (.pair (.int .i64) (.pair (.slice (.int .i64)) (.pair (.int .i64) (.int .i64)))))))) x0), (3, .val .str x3), (4, .val (.int .i64) x4)] [] []) (spec_FormatBook.K2 n)
theorem spec_FormatBook.eq (n : Nat) (x0 : List (Int × Int × Int × Int × List Int × Int × Int)) : spec_FormatBook n x0 = (if (↑(List.length x0) : Int) > 30 then some ({ data := #[] }) else spec_FormatBook.l5 n n (x0) ({ data := #[] }) (0)) := by kernel_rfl
theorem spec_FormatBook.l5_zero (n : Nat) (x0 : List (Int × Int × Int × Int × List Int × Int × Int)) (x3 : ByteArray) (x4 : Int) : spec_FormatBook.l5 n 0 x0 x3 x4 = none := by kernel_rfl
theorem spec_FormatBook.l5_succ (n m5 : Nat) (x0 : List (Int × Int × Int × Int × List Int × Int × Int)) (x3 : ByteArray) (x4 : Int) : spec_FormatBook.l5 n (m5 + 1) x0 x3 x4 = (if x4 < (↑(List.length x0) : Int) then (if 0 ≤ x4 then (if x4 < (↑(List.length x0) : Int) then ((spec_showEvent n (List.getD x0 (Int.toNat x4) (0, 0, 0, 0, [], 0, 0))).bind fun y0 => (if y0 = { data := #[] } then some ({ data := #[] }) else (if 0 ≤ x4 then (if x4 < (↑(List.length x0) : Int) then ((spec_showEvent n (List.getD x0 (Int.toNat x4) (0, 0, 0, 0, [], 0, 0))).bind fun y1 => (if ByteArray.size x3 + ByteArray.size y1 ≤ Go.Refl.maxN then (if ByteArray.size (x3 ++ y1) + ByteArray.size { data := #[(10 : UInt8)] } ≤ Go.Refl.maxN then spec_FormatBook.l5 n m5 (x0) (x3 ++ y1 ++ { data := #[(10 : UInt8)] }) (Go.RowKit.wrap64 (x4 + 1)) else none) else none)) else none) else none))) else none) else none) else some (x3)) := by kernel_rfl
theorem spec_FormatBook.call : Callable Tryd.prog 22 := ⟨Tryd.f22, Tryd.func22, by kernel_rfl, by kernel_rfl⟩
theorem spec_FormatBook.ok (n : Nat) : FC Tryd.prog [] 22 { params := spec_FormatBook.ps, res := spec_FormatBook.res, run := spec_FormatBook n } :=
  evalF_ok (C := spec_FormatBook.C) ⟨tb_ok, fun n _ _ h => tabOk (l := [(52, { params := spec_showEvent.ps, res := spec_showEvent.res, run := spec_showEvent n })]) (all_cons ⟨spec_showEvent.ok n, spec_showEvent.call⟩ (all_nil)) h, mixed, ar_ok, bld_ok⟩ spec_FormatBook.A Tryd.func22 spec_FormatBook.ps spec_FormatBook.res n
end Go.Proofs.YtpgfkoeodhfkgaaDoorG
end
section
open Go Go.Refl Go.Proofs
set_option maxRecDepth 1000000
set_option maxHeartbeats 0
set_option linter.unusedVariables false
namespace Go.Proofs.YtpgfkoeodhfkgaaDoorG
abbrev laws_eqIntS.ps : List Pm := [.arg (.v (.slice (.int .i64))), .arg (.v (.slice (.int .i64)))]
abbrev laws_eqIntS.res : List M := [.v .bool]
noncomputable def laws_eqIntS.C : Cfg := { tb := tb, tab := fun n f => Refl.look [] f, gl := [], ar := ar, bld := bld }
noncomputable def laws_eqIntS.A : Ann := { joins := [], loops := [(4, { live := [0, 1, 5], base := 26 })], ids := [], pids := [], nroots := 90 }
noncomputable def laws_eqIntS (n : Nat) (x : List Int × List Int) : Option (Bool) := evalF laws_eqIntS.C laws_eqIntS.A Tryd.f56 laws_eqIntS.ps laws_eqIntS.res n x
noncomputable def laws_eqIntS.K0 (_ : Nat) : Kont (Bool) := finK laws_eqIntS.C (Func.results Tryd.f56).toList laws_eqIntS.ps laws_eqIntS.res
noncomputable def laws_eqIntS.K1 (n : Nat) : Kont (Bool) := seqK (fun s' k => evalC laws_eqIntS.C laws_eqIntS.A n (codeAt Tryd.f56 [1, 1, 1]) (cutAt laws_eqIntS.A.joins (codeAt Tryd.f56 [1, 1, 1]) s') k) (laws_eqIntS.K0 n)
noncomputable def laws_eqIntS.K2 (n : Nat) : Kont (Bool) := blockK 0 (laws_eqIntS.K1 n)
noncomputable def laws_eqIntS.l4 (n m4 : Nat) (x0 : List Int) (x1 : List Int) (x5 : Int) : Option (Bool) := loopE (cutAt laws_eqIntS.A.loops (codeAt Tryd.f56 [1, 1, 0, 1, 0, 0])) (fun s k => evalC laws_eqIntS.C laws_eqIntS.A n (codeAt Tryd.f56 [1, 1, 0, 1, 0, 0]) s k) m4 (St.of 26 90 [(0, .val (.slice (.int .i64)) x0), (1, .val (.slice (.int .i64)) x1), (5, .val (.int .i64) x5)] [] []) (laws_eqIntS.K2 n)
theorem laws_eqIntS.eq (n : Nat) (x0 : List Int) (x1 : List Int) : laws_eqIntS n (x0, x1) = (if (↑(List.length x0) : Int) = (↑(List.length x1) : Int) then laws_eqIntS.l4 n n (x0) (x1) (0) else some (Bool.false)) := by kernel_rfl
theorem laws_eqIntS.l4_zero (n : Nat) (x0 : List Int) (x1 : List Int) (x5 : Int) : laws_eqIntS.l4 n 0 x0 x1 x5 = none := by kernel_rfl
theorem laws_eqIntS.l4_succ (n m4 : Nat) (x0 : List Int) (x1 : List Int) (x5 : Int) : laws_eqIntS.l4 n (m4 + 1) x0 x1 x5 = (if x5 < (↑(List.length x0) : Int) then (if 0 ≤ x5 then (if x5 < (↑(List.length x0) : Int) then (if 0 ≤ x5 then (if x5 < (↑(List.length x1) : Int) then (if List.getD x0 (Int.toNat x5) 0 = List.getD x1 (Int.toNat x5) 0 then laws_eqIntS.l4 n m4 (x0) (x1) (Go.RowKit.wrap64 (x5 + 1)) else some (Bool.false)) else none) else none) else none) else none) else some (Bool.true)) := by kernel_rfl
theorem laws_eqIntS.call : Callable Tryd.prog 56 := ⟨Tryd.f56, Tryd.func56, by kernel_rfl, by kernel_rfl⟩
theorem laws_eqIntS.ok (n : Nat) : FC Tryd.prog [] 56 { params := laws_eqIntS.ps, res := laws_eqIntS.res, run := laws_eqIntS n } :=
  evalF_ok (C := laws_eqIntS.C) ⟨tb_ok, fun n _ _ h => tabOk (l := []) (all_nil) h, mixed, ar_ok, bld_ok⟩ laws_eqIntS.A Tryd.func56 laws_eqIntS.ps laws_eqIntS.res n
end Go.Proofs.YtpgfkoeodhfkgaaDoorG
end
section
open Go Go.Refl Go.Proofs
set_option maxRecDepth 1000000
set_option maxHeartbeats 0
set_option linter.unusedVariables false
namespace Go.Proofs.YtpgfkoeodhfkgaaDoorG
abbrev laws_eqRate.ps : List Pm := [.arg (.v (.pair (.int .i64) (.int .i64))), .arg (.v (.pair (.int .i64) (.int .i64)))]
abbrev laws_eqRate.res : List M := [.v .bool]
noncomputable def laws_eqRate.C : Cfg := { tb := tb, tab := fun n f => Refl.look [] f, gl := [], ar := ar, bld := bld }
noncomputable def laws_eqRate.A : Ann := { joins := [], loops := [], ids := [], pids := [], nroots := 79 }
noncomputable def laws_eqRate (n : Nat) (x : (Int × Int) × Int × Int) : Option (Bool) := evalF laws_eqRate.C laws_eqRate.A Tryd.f57 laws_eqRate.ps laws_eqRate.res n x
noncomputable def laws_eqRate.K0 (_ : Nat) : Kont (Bool) := finK laws_eqRate.C (Func.results Tryd.f57).toList laws_eqRate.ps laws_eqRate.res
theorem laws_eqRate.eq (n : Nat) (x0 : Int × Int) (x1 : Int × Int) : laws_eqRate n (x0, x1) = (if Prod.fst x0 = Prod.fst x1 then (if Prod.snd x0 = Prod.snd x1 then some (Bool.true) else some (Bool.false)) else some (Bool.false)) := by kernel_rfl
theorem laws_eqRate.call : Callable Tryd.prog 57 := ⟨Tryd.f57, Tryd.func57, by kernel_rfl, by kernel_rfl⟩
theorem laws_eqRate.ok (n : Nat) : FC Tryd.prog [] 57 { params := laws_eqRate.ps, res := laws_eqRate.res, run := laws_eqRate n } :=
  evalF_ok (C := laws_eqRate.C) ⟨tb_ok, fun n _ _ h => tabOk (l := []) (all_nil) h, mixed, ar_ok, bld_ok⟩ laws_eqRate.A Tryd.func57 laws_eqRate.ps laws_eqRate.res n
end Go.Proofs.YtpgfkoeodhfkgaaDoorG
end
section
open Go Go.Refl Go.Proofs
set_option maxRecDepth 1000000
set_option maxHeartbeats 0
set_option linter.unusedVariables false
namespace Go.Proofs.YtpgfkoeodhfkgaaDoorG
abbrev laws_eqEvent.ps : List Pm := [.arg (.v (.pair (.int .i64) (.pair (.int .i64) (.pair (.int .i64) (.pair (.int .i64) (.pair (.slice (.int .i64)) (.pair (.int .i64) (.int .i64)))))))), .arg (.v (.pair (.int .i64) (.pair (.int .i64) (.pair (.int .i64) (.pair (.int .i64) (.pair (.slice (.int .i64)) (.pair (.int .i64) (.int .i64))))))))]
abbrev laws_eqEvent.res : List M := [.v .bool]
noncomputable def laws_eqEvent.C : Cfg := { tb := tb, tab := fun n f => Refl.look [(56, { params := laws_eqIntS.ps, res := laws_eqIntS.res, run := laws_eqIntS n }), (57, { params := laws_eqRate.ps, res := laws_eqRate.res, run := laws_eqRate n })] f, gl := [], ar := ar, bld := bld }
noncomputable def laws_eqEvent.A : Ann := { joins := [], loops := [], ids := [(9, [(29, [])]), (11, [(35, [])])], pids := [], nroots := 101 }
noncomputable def laws_eqEvent (n : Nat) (x : (Int × Int × Int × Int × List Int × Int × Int) × Int × Int × Int × Int × List Int × Int × Int) : Option (Bool) := evalF laws_eqEvent.C laws_eqEvent.A Tryd.f20 laws_eqEvent.ps laws_eqEvent.res n x
noncomputable def laws_eqEvent.K0 (_ : Nat) : Kont (Bool) := finK laws_eqEvent.C (Func.results Tryd.f20).toList laws_eqEvent.ps laws_eqEvent.res
theorem laws_eqEvent.eq (n : Nat) (x0 : Int × Int × Int × Int × List Int × Int × Int) (x1 : Int × Int × Int × Int × List Int × Int × Int) : laws_eqEvent n (x0, x1) = (if Prod.fst x0 = Prod.fst x1 then (if Prod.fst (Prod.snd x0) = Prod.fst (Prod.snd x1) then (if Prod.fst (Prod.snd (Prod.snd x0)) = Prod.fst (Prod.snd (Prod.snd x1)) then (if Prod.fst (Prod.snd (Prod.snd (Prod.snd x0))) = Prod.fst (Prod.snd (Prod.snd (Prod.snd x1))) then ((laws_eqIntS n (Prod.fst (Prod.snd (Prod.snd (Prod.snd (Prod.snd x0)))), Prod.fst (Prod.snd (Prod.snd (Prod.snd (Prod.snd x1)))))).bind fun y0 => (if (!y0) = true then some (Bool.false) else ((laws_eqRate n ((Prod.fst (Prod.snd (Prod.snd (Prod.snd (Prod.snd (Prod.snd x0))))), Prod.snd (Prod.snd (Prod.snd (Prod.snd (Prod.snd (Prod.snd x0)))))), Prod.fst (Prod.snd (Prod.snd (Prod.snd (Prod.snd (Prod.snd x1))))), Prod.snd (Prod.snd (Prod.snd (Prod.snd (Prod.snd (Prod.snd x1))))))).bind fun y1 => (if (!y1) = true then some (Bool.false) else some (Bool.true))))) else some (Bool.false)) else some (Bool.false)) else some (Bool.false)) else some (Bool.false)) := by kernel_rfl
theorem laws_eqEvent.call : Callable Tryd.prog 20 := ⟨Tryd.f20, Tryd.func20, by kernel_rfl, by kernel_rfl⟩
theorem laws_eqEvent.ok (n : Nat) : FC Tryd.prog [] 20 { params := laws_eqEvent.ps, res := laws_eqEvent.res, run := laws_eqEvent n } :=
  evalF_ok (C := laws_eqEvent.C) ⟨tb_ok, fun n _ _ h => tabOk (l := [(56, { params := laws_eqIntS.ps, res := laws_eqIntS.res, run := laws_eqIntS n }), (57, { params := laws_eqRate.ps, res := laws_eqRate.res, run := laws_eqRate n })]) (all_cons ⟨laws_eqIntS.ok n, laws_eqIntS.call⟩ (all_cons ⟨laws_eqRate.ok n, laws_eqRate.call⟩ (all_nil))) h, mixed, ar_ok, bld_ok⟩ laws_eqEvent.A Tryd.func20 laws_eqEvent.ps laws_eqEvent.res n
end Go.Proofs.YtpgfkoeodhfkgaaDoorG
end
section
open Go Go.Refl Go.Proofs
set_option maxRecDepth 1000000
set_option maxHeartbeats 0
set_option linter.unusedVariables false
namespace Go.Proofs.YtpgfkoeodhfkgaaDoorG
abbrev laws_eqEventS.ps : List Pm := [.arg (.v (.slice (.pair (.int .i64) (.pair (.int .i64) (.pair (.int .i64) (.pair (.int .i64) (.pair (.slice (.int .i64)) (.pair (.int .i64) (.int .i64))))))))), .arg (.v (.slice (.pair (.int .i64) (.pair (.int .i64) (.pair (.int .i64) (.pair (.int .i64) (.pair (.slice (.int .i64)) (.pair (.int .i64) (.int .i64)))))))))]
abbrev laws_eqEventS.res : List M := [.v .bool]
noncomputable def laws_eqEventS.C : Cfg := { tb := tb, tab := fun n f => Refl.look [(20, { params := laws_eqEvent.ps, res := laws_eqEvent.res, run := laws_eqEvent n })] f, gl := [], ar := ar, bld := bld }
noncomputable def laws_eqEventS.A : Ann := { joins := [], loops := [(4, { live := [0, 1, 5], base := 27 })], ids := [(6, [(25, [])])], pids := [], nroots := 91 }
noncomputable def laws_eqEventS (n : Nat) (x : List (Int × Int × Int × Int × List Int × Int × Int) × List (Int × Int × Int × Int × List Int × Int × Int)) : Option (Bool) := evalF laws_eqEventS.C laws_eqEventS.A Tryd.f25 laws_eqEventS.ps laws_eqEventS.res n x
noncomputable def laws_eqEventS.K0 (_ : Nat) : Kont (Bool) := finK laws_eqEventS.C (Func.results Tryd.f25).toList laws_eqEventS.ps laws_eqEventS.res
noncomputable def laws_eqEventS.K1 (n : Nat) : Kont (Bool) := seqK (fun s' k => evalC laws_eqEventS.C laws_eqEventS.A n (codeAt Tryd.f25 [1, 1, 1]) (cutAt laws_eqEventS.A.joins (codeAt Tryd.f25 [1, 1, 1]) s') k) (laws_eqEventS.K0 n)
noncomputable def laws_eqEventS.K2 (n : Nat) : Kont (Bool) := blockK 0 (laws_eqEventS.K1 n)
noncomputable def laws_eqEventS.l4 (n m4 : Nat) (x0 : List (Int × Int × Int × Int × List Int × Int × Int)) (x1 : List (Int × Int × Int × Int × List Int × Int × Int)) (x5 : Int) : Option (Bool) := loopE (cutAt laws_eqEventS.A.loops (codeAt Tryd.f25 [1, 1, 0, 1, 0, 0])) (fun s k => evalC laws_eqEventS.C laws_eqEventS.A n (codeAt Tryd.f25 [1, 1, 0, 1, 0, 0]) s k) m4 (St.of 27 91 [(0, .val (.slice (.pair (.int .i64) (.pair (.int .i64) (.pair (.int .i64) (.pair (.int .i64) (.pair (.slice (.int .i64)) (.pair (.int .i64) (.int .i64)))))))) x0), (1, .val (.slice (.pair (.int .i64) (.pair (.int .i64) (.pair (.int .i64) (.pair (.int .i64) (.pair (.slice (.int .i64)) (.pair (.int .i64) (.int .i64)))))))) x1), (5, .val (.int .i64) x5)] [] []) (laws_eqEventS.K2 n)
theorem laws_eqEventS.eq (n : Nat) (x0 : List (Int × Int × Int × Int × List Int × Int × Int)) (x1 : List (Int × Int × Int × Int × List Int × Int × Int)) : laws_eqEventS n (x0, x1) = (if (↑(List.length x0) : Int) = (↑(List.length x1) : Int) then laws_eqEventS.l4 n n (x0) (x1) (0) else some (Bool.false)) := by kernel_rfl
theorem laws_eqEventS.l4_zero (n : Nat) (x0 : List (Int × Int × Int × Int × List Int × Int × Int)) (x1 : List (Int × Int × Int × Int × List Int × Int × Int)) (x5 : Int) : laws_eqEventS.l4 n 0 x0 x1 x5 = none := by kernel_rfl
theorem laws_eqEventS.l4_succ (n m4 : Nat) (x0 : List (Int × Int × Int × Int × List Int × Int × Int)) (x1 : List (Int × Int × Int × Int × List Int × Int × Int)) (x5 : Int) : laws_eqEventS.l4 n (m4 + 1) x0 x1 x5 = (if x5 < (↑(List.length x0) : Int) then (if 0 ≤ x5 then (if x5 < (↑(List.length x0) : Int) then (if 0 ≤ x5 then (if x5 < (↑(List.length x1) : Int) then ((laws_eqEvent n (List.getD x0 (Int.toNat x5) (0, 0, 0, 0, [], 0, 0), List.getD x1 (Int.toNat x5) (0, 0, 0, 0, [], 0, 0))).bind fun y0 => (if (!y0) = true then some (Bool.false) else laws_eqEventS.l4 n m4 (x0) (x1) (Go.RowKit.wrap64 (x5 + 1)))) else none) else none) else none) else none) else some (Bool.true)) := by kernel_rfl
theorem laws_eqEventS.call : Callable Tryd.prog 25 := ⟨Tryd.f25, Tryd.func25, by kernel_rfl, by kernel_rfl⟩
theorem laws_eqEventS.ok (n : Nat) : FC Tryd.prog [] 25 { params := laws_eqEventS.ps, res := laws_eqEventS.res, run := laws_eqEventS n } :=
  evalF_ok (C := laws_eqEventS.C) ⟨tb_ok, fun n _ _ h => tabOk (l := [(20, { params := laws_eqEvent.ps, res := laws_eqEvent.res, run := laws_eqEvent n })]) (all_cons ⟨laws_eqEvent.ok n, laws_eqEvent.call⟩ (all_nil)) h, mixed, ar_ok, bld_ok⟩ laws_eqEventS.A Tryd.func25 laws_eqEventS.ps laws_eqEventS.res n
end Go.Proofs.YtpgfkoeodhfkgaaDoorG
end
section
open Go Go.Refl Go.Proofs
set_option maxRecDepth 1000000
set_option maxHeartbeats 0
set_option linter.unusedVariables false
namespace Go.Proofs.YtpgfkoeodhfkgaaDoorG
abbrev laws_FnExactFormatBook.ps : List Pm := [.arg (.v (.slice (.pair (.int .i64) (.pair (.int .i64) (.pair (.int .i64) (.pair (.int .i64) (.pair (.slice (.int .i64)) (.pair (.int .i64) (.int .i64)))))))))]
abbrev laws_FnExactFormatBook.res : List M := [.v .bool]
noncomputable def laws_FnExactFormatBook.C : Cfg := { tb := tb, tab := fun n f => Refl.look [(21, { params := laws_szEventS.ps, res := laws_szEventS.res, run := laws_szEventS n }), (23, { params := laws_toEventS.ps, res := laws_toEventS.res, run := laws_toEventS n }), (22, { params := spec_FormatBook.ps, res := spec_FormatBook.res, run := spec_FormatBook n }), (24, { params := impl_FormatBook.ps, res := impl_FormatBook.res, run := impl_FormatBook n }), (25, { params := laws_eqEventS.ps, res := laws_eqEventS.res, run := laws_eqEventS n })] f, gl := [g0, g2], ar := ar, bld := bld }
noncomputable def laws_FnExactFormatBook.A : Ann := { joins := [], loops := [], ids := [(2, [(9, [])]), (5, [(14, [])]), (7, [(18, [])]), (10, [(25, [])])], pids := [], nroots := 91 }
noncomputable def laws_FnExactFormatBook (n : Nat) (x : List (Int × Int × Int × Int × List Int × Int × Int)) : Option (Bool) := evalF laws_FnExactFormatBook.C laws_FnExactFormatBook.A Tryd.f5 laws_FnExactFormatBook.ps laws_FnExactFormatBook.res n x
noncomputable def laws_FnExactFormatBook.K0 (_ : Nat) : Kont (Bool) := finK laws_FnExactFormatBook.C (Func.results Tryd.f5).toList laws_FnExactFormatBook.ps laws_FnExactFormatBook.res
theorem laws_FnExactFormatBook.eq (n : Nat) (x0 : List (Int × Int × Int × Int × List Int × Int × Int)) : laws_FnExactFormatBook n x0 = ((laws_szEventS n (x0, 1048576)).bind fun y0 => (if y0 < 0 then some (Bool.true) else ((laws_toEventS n x0).bind fun y1 => ((spec_FormatBook n y1).bind fun y2 => ((laws_toEventS n x0).bind fun y3 => ((impl_FormatBook n y3).bind fun y4 => (if y4 = y2 then ((laws_toEventS n x0).bind fun y5 => ((laws_eqEventS n (y3, y5)).bind fun y6 => (if (!y6) = true then some (Bool.false) else some (Bool.true)))) else some (Bool.false)))))))) := by kernel_rfl
theorem laws_FnExactFormatBook.call : Callable Tryd.prog 5 := ⟨Tryd.f5, Tryd.func5, by kernel_rfl, by kernel_rfl⟩
theorem laws_FnExactFormatBook.ok (n : Nat) : FC Tryd.prog [g0, g2] 5 { params := laws_FnExactFormatBook.ps, res := laws_FnExactFormatBook.res, run := laws_FnExactFormatBook n } :=
  evalF_ok (C := laws_FnExactFormatBook.C) ⟨tb_ok, fun n _ _ h => tabOk (l := [(21, { params := laws_szEventS.ps, res := laws_szEventS.res, run := laws_szEventS n }), (23, { params := laws_toEventS.ps, res := laws_toEventS.res, run := laws_toEventS n }), (22, { params := spec_FormatBook.ps, res := spec_FormatBook.res, run := spec_FormatBook n }), (24, { params := impl_FormatBook.ps, res := impl_FormatBook.res, run := impl_FormatBook n }), (25, { params := laws_eqEventS.ps, res := laws_eqEventS.res, run := laws_eqEventS n })]) (all_cons ⟨(.mono (gl := []) (gl' := [g0, g2]) (all_nil) (laws_szEventS.ok n)), laws_szEventS.call⟩ (all_cons ⟨(.mono (gl := []) (gl' := [g0, g2]) (all_nil) (laws_toEventS.ok n)), laws_toEventS.call⟩ (all_cons ⟨(.mono (gl := []) (gl' := [g0, g2]) (all_nil) (spec_FormatBook.ok n)), spec_FormatBook.call⟩ (all_cons ⟨impl_FormatBook.ok n, impl_FormatBook.call⟩ (all_cons ⟨(.mono (gl := []) (gl' := [g0, g2]) (all_nil) (laws_eqEventS.ok n)), laws_eqEventS.call⟩ (all_nil)))))) h, mixed, ar_ok, bld_ok⟩ laws_FnExactFormatBook.A Tryd.func5 laws_FnExactFormatBook.ps laws_FnExactFormatBook.res n
end Go.Proofs.YtpgfkoeodhfkgaaDoorG
end
section
open Go Go.Refl Go.Proofs
set_option maxRecDepth 1000000
set_option maxHeartbeats 0
set_option linter.unusedVariables false
namespace Go.Proofs.YtpgfkoeodhfkgaaDoorG
abbrev spec_FormatEvent.ps : List Pm := [.arg (.v (.pair (.int .i64) (.pair (.int .i64) (.pair (.int .i64) (.pair (.int .i64) (.pair (.slice (.int .i64)) (.pair (.int .i64) (.int .i64))))))))]
abbrev spec_FormatEvent.res : List M := [.v .str]
noncomputable def spec_FormatEvent.C : Cfg := { tb := tb, tab := fun n f => Refl.look [(52, { params := spec_showEvent.ps, res := spec_showEvent.res, run := spec_showEvent n })] f, gl := [], ar := ar, bld := bld }
noncomputable def spec_FormatEvent.A : Ann := { joins := [], loops := [], ids := [(1, [(4, [])])], pids := [], nroots := 69 }
noncomputable def spec_FormatEvent (n : Nat) (x : Int × Int × Int × Int × List Int × Int × Int) : Option (ByteArray) := evalF spec_FormatEvent.C spec_FormatEvent.A Tryd.f17 spec_FormatEvent.ps spec_FormatEvent.res n x
noncomputable def spec_FormatEvent.K0 (_ : Nat) : Kont (ByteArray) := finK spec_FormatEvent.C (Func.results Tryd.f17).toList spec_FormatEvent.ps spec_FormatEvent.res
theorem spec_FormatEvent.eq (n : Nat) (x0 : Int × Int × Int × Int × List Int × Int × Int) : spec_FormatEvent n x0 = ((spec_showEvent n (Prod.fst x0, Prod.fst (Prod.snd x0), Prod.fst (Prod.snd (Prod.snd x0)), Prod.fst (Prod.snd (Prod.snd (Prod.snd x0))), Prod.fst (Prod.snd (Prod.snd (Prod.snd (Prod.snd x0)))), Prod.fst (Prod.snd (Prod.snd (Prod.snd (Prod.snd (Prod.snd x0))))), Prod.snd (Prod.snd (Prod.snd (Prod.snd (Prod.snd (Prod.snd x0))))))).bind fun y0 => some (y0)) := by kernel_rfl
theorem spec_FormatEvent.call : Callable Tryd.prog 17 := ⟨Tryd.f17, Tryd.func17, by kernel_rfl, by kernel_rfl⟩
theorem spec_FormatEvent.ok (n : Nat) : FC Tryd.prog [] 17 { params := spec_FormatEvent.ps, res := spec_FormatEvent.res, run := spec_FormatEvent n } :=
  evalF_ok (C := spec_FormatEvent.C) ⟨tb_ok, fun n _ _ h => tabOk (l := [(52, { params := spec_showEvent.ps, res := spec_showEvent.res, run := spec_showEvent n })]) (all_cons ⟨spec_showEvent.ok n, spec_showEvent.call⟩ (all_nil)) h, mixed, ar_ok, bld_ok⟩ spec_FormatEvent.A Tryd.func17 spec_FormatEvent.ps spec_FormatEvent.res n
end Go.Proofs.YtpgfkoeodhfkgaaDoorG
end
section
open Go Go.Refl Go.Proofs
set_option maxRecDepth 1000000
set_option maxHeartbeats 0
set_option linter.unusedVariables false
namespace Go.Proofs.YtpgfkoeodhfkgaaDoorG
abbrev laws_FnExactFormatEvent.ps : List Pm := [.arg (.v (.pair (.int .i64) (.pair (.int .i64) (.pair (.int .i64) (.pair (.int .i64) (.pair (.slice (.int .i64)) (.pair (.int .i64) (.int .i64))))))))]
abbrev laws_FnExactFormatEvent.res : List M := [.v .bool]
noncomputable def laws_FnExactFormatEvent.C : Cfg := { tb := tb, tab := fun n f => Refl.look [(16, { params := laws_szEvent.ps, res := laws_szEvent.res, run := laws_szEvent n }), (18, { params := laws_toEvent.ps, res := laws_toEvent.res, run := laws_toEvent n }), (17, { params := spec_FormatEvent.ps, res := spec_FormatEvent.res, run := spec_FormatEvent n }), (19, { params := impl_FormatEvent.ps, res := impl_FormatEvent.res, run := impl_FormatEvent n }), (20, { params := laws_eqEvent.ps, res := laws_eqEvent.res, run := laws_eqEvent n })] f, gl := [g0, g2], ar := ar, bld := bld }
noncomputable def laws_FnExactFormatEvent.A : Ann := { joins := [], loops := [], ids := [(2, [(9, [])]), (5, [(13, []), (14, [])]), (6, [(16, [])]), (7, [(18, [])]), (10, [(24, []), (25, [])])], pids := [], nroots := 91 }
noncomputable def laws_FnExactFormatEvent (n : Nat) (x : Int × Int × Int × Int × List Int × Int × Int) : Option (Bool) := evalF laws_FnExactFormatEvent.C laws_FnExactFormatEvent.A Tryd.f4 laws_FnExactFormatEvent.ps laws_FnExactFormatEvent.res n x
noncomputable def laws_FnExactFormatEvent.K0 (_ : Nat) : Kont (Bool) := finK laws_FnExactFormatEvent.C (Func.results Tryd.f4).toList laws_FnExactFormatEvent.ps laws_FnExactFormatEvent.res
theorem laws_FnExactFormatEvent.eq (n : Nat) (x0 : Int × Int × Int × Int × List Int × Int × Int) : laws_FnExactFormatEvent n x0 = ((laws_szEvent n ((Prod.fst x0, Prod.fst (Prod.snd x0), Prod.fst (Prod.snd (Prod.snd x0)), Prod.fst (Prod.snd (Prod.snd (Prod.snd x0))), Prod.fst (Prod.snd (Prod.snd (Prod.snd (Prod.snd x0)))), Prod.fst (Prod.snd (Prod.snd (Prod.snd (Prod.snd (Prod.snd x0))))), Prod.snd (Prod.snd (Prod.snd (Prod.snd (Prod.snd (Prod.snd x0)))))), 1048576)).bind fun y0 => (if y0 < 0 then some (Bool.true) else ((laws_toEvent n (Prod.fst x0, Prod.fst (Prod.snd x0), Prod.fst (Prod.snd (Prod.snd x0)), Prod.fst (Prod.snd (Prod.snd (Prod.snd x0))), Prod.fst (Prod.snd (Prod.snd (Prod.snd (Prod.snd x0)))), Prod.fst (Prod.snd (Prod.snd (Prod.snd (Prod.snd (Prod.snd x0))))), Prod.snd (Prod.snd (Prod.snd (Prod.snd (Prod.snd (Prod.snd x0))))))).bind fun y1 => ((spec_FormatEvent n y1).bind fun y2 => ((laws_toEvent n (Prod.fst x0, Prod.fst (Prod.snd x0), Prod.fst (Prod.snd (Prod.snd x0)), Prod.fst (Prod.snd (Prod.snd (Prod.snd x0))), Prod.fst (Prod.snd (Prod.snd (Prod.snd (Prod.snd x0)))), Prod.fst (Prod.snd (Prod.snd (Prod.snd (Prod.snd (Prod.snd x0))))), Prod.snd (Prod.snd (Prod.snd (Prod.snd (Prod.snd (Prod.snd x0))))))).bind fun y3 => ((impl_FormatEvent n (Prod.fst y3, Prod.fst (Prod.snd y3), Prod.fst (Prod.snd (Prod.snd y3)), Prod.fst (Prod.snd (Prod.snd (Prod.snd y3))), Prod.fst (Prod.snd (Prod.snd (Prod.snd (Prod.snd y3)))), Prod.fst (Prod.snd (Prod.snd (Prod.snd (Prod.snd (Prod.snd y3))))), Prod.snd (Prod.snd (Prod.snd (Prod.snd (Prod.snd (Prod.snd y3))))))).bind fun y4 => (if y4 = y2 then ((laws_toEvent n (Prod.fst x0, Prod.fst (Prod.snd x0), Prod.fst (Prod.snd (Prod.snd x0)), Prod.fst (Prod.snd (Prod.snd (Prod.snd x0))), Prod.fst (Prod.snd (Prod.snd (Prod.snd (Prod.snd x0)))), Prod.fst (Prod.snd (Prod.snd (Prod.snd (Prod.snd (Prod.snd x0))))), Prod.snd (Prod.snd (Prod.snd (Prod.snd (Prod.snd (Prod.snd x0))))))).bind fun y5 => ((laws_eqEvent n ((Prod.fst y3, Prod.fst (Prod.snd y3), Prod.fst (Prod.snd (Prod.snd y3)), Prod.fst (Prod.snd (Prod.snd (Prod.snd y3))), Prod.fst (Prod.snd (Prod.snd (Prod.snd (Prod.snd y3)))), Prod.fst (Prod.snd (Prod.snd (Prod.snd (Prod.snd (Prod.snd y3))))), Prod.snd (Prod.snd (Prod.snd (Prod.snd (Prod.snd (Prod.snd y3)))))), y5)).bind fun y6 => (if (!y6) = true then some (Bool.false) else some (Bool.true)))) else some (Bool.false)))))))) := by kernel_rfl
theorem laws_FnExactFormatEvent.call : Callable Tryd.prog 4 := ⟨Tryd.f4, Tryd.func4, by kernel_rfl, by kernel_rfl⟩
theorem laws_FnExactFormatEvent.ok (n : Nat) : FC Tryd.prog [g0, g2] 4 { params := laws_FnExactFormatEvent.ps, res := laws_FnExactFormatEvent.res, run := laws_FnExactFormatEvent n } :=
  evalF_ok (C := laws_FnExactFormatEvent.C) ⟨tb_ok, fun n _ _ h => tabOk (l := [(16, { params := laws_szEvent.ps, res := laws_szEvent.res, run := laws_szEvent n }), (18, { params := laws_toEvent.ps, res := laws_toEvent.res, run := laws_toEvent n }), (17, { params := spec_FormatEvent.ps, res := spec_FormatEvent.res, run := spec_FormatEvent n }), (19, { params := impl_FormatEvent.ps, res := impl_FormatEvent.res, run := impl_FormatEvent n }), (20, { params := laws_eqEvent.ps, res := laws_eqEvent.res, run := laws_eqEvent n })]) (all_cons ⟨(.mono (gl := []) (gl' := [g0, g2]) (all_nil) (laws_szEvent.ok n)), laws_szEvent.call⟩ (all_cons ⟨(.mono (gl := []) (gl' := [g0, g2]) (all_nil) (laws_toEvent.ok n)), laws_toEvent.call⟩ (all_cons ⟨(.mono (gl := []) (gl' := [g0, g2]) (all_nil) (spec_FormatEvent.ok n)), spec_FormatEvent.call⟩ (all_cons ⟨impl_FormatEvent.ok n, impl_FormatEvent.call⟩ (all_cons ⟨(.mono (gl := []) (gl' := [g0, g2]) (all_nil) (laws_eqEvent.ok n)), laws_eqEvent.call⟩ (all_nil)))))) h, mixed, ar_ok, bld_ok⟩ laws_FnExactFormatEvent.A Tryd.func4 laws_FnExactFormatEvent.ps laws_FnExactFormatEvent.res n
end Go.Proofs.YtpgfkoeodhfkgaaDoorG
end
section
open Go Go.Refl Go.Proofs
set_option maxRecDepth 1000000
set_option maxHeartbeats 0
set_option linter.unusedVariables false
namespace Go.Proofs.YtpgfkoeodhfkgaaDoorG
abbrev impl_validAccount.ps : List Pm := [.arg (.v (.int .i64))]
abbrev impl_validAccount.res : List M := [.v .bool]
noncomputable def impl_validAccount.C : Cfg := { tb := tb, tab := fun n f => Refl.look [] f, gl := [], ar := ar, bld := bld }
noncomputable def impl_validAccount.A : Ann := { joins := [], loops := [], ids := [], pids := [], nroots := 73 }
noncomputable def impl_validAccount (n : Nat) (x : Int) : Option (Bool) := evalF impl_validAccount.C impl_validAccount.A Tryd.f90 impl_validAccount.ps impl_validAccount.res n x
noncomputable def impl_validAccount.K0 (_ : Nat) : Kont (Bool) := finK impl_validAccount.C (Func.results Tryd.f90).toList impl_validAccount.ps impl_validAccount.res
theorem impl_validAccount.eq (n : Nat) (x0 : Int) : impl_validAccount n x0 = (if x0 ≥ 0 then some (Decidable.decide (x0 < 8)) else some (Bool.false)) := by kernel_rfl
theorem impl_validAccount.call : Callable Tryd.prog 90 := ⟨Tryd.f90, Tryd.func90, by kernel_rfl, by kernel_rfl⟩
theorem impl_validAccount.ok (n : Nat) : FC Tryd.prog [] 90 { params := impl_validAccount.ps, res := impl_validAccount.res, run := impl_validAccount n } :=
  evalF_ok (C := impl_validAccount.C) ⟨tb_ok, fun n _ _ h => tabOk (l := []) (all_nil) h, mixed, ar_ok, bld_ok⟩ impl_validAccount.A Tryd.func90 impl_validAccount.ps impl_validAccount.res n
end Go.Proofs.YtpgfkoeodhfkgaaDoorG
end
section
open Go Go.Refl Go.Proofs
set_option maxRecDepth 1000000
set_option maxHeartbeats 0
set_option linter.unusedVariables false
namespace Go.Proofs.YtpgfkoeodhfkgaaDoorG
abbrev impl_validEntry.ps : List Pm := [.arg (.v (.pair (.int .i64) (.pair (.int .i64) (.pair (.int .i64) (.int .i64)))))]
abbrev impl_validEntry.res : List M := [.v .bool]
noncomputable def impl_validEntry.C : Cfg := { tb := tb, tab := fun n f => Refl.look [(90, { params := impl_validAccount.ps, res := impl_validAccount.res, run := impl_validAccount n })] f, gl := [], ar := ar, bld := bld }
noncomputable def impl_validEntry.A : Ann := { joins := [], loops := [], ids := [(3, [(23, []), (27, [])])], pids := [], nroots := 100 }
noncomputable def impl_validEntry (n : Nat) (x : Int × Int × Int × Int) : Option (Bool) := evalF impl_validEntry.C impl_validEntry.A Tryd.f60 impl_validEntry.ps impl_validEntry.res n x
noncomputable def impl_validEntry.K0 (_ : Nat) : Kont (Bool) := finK impl_validEntry.C (Func.results Tryd.f60).toList impl_validEntry.ps impl_validEntry.res
theorem impl_validEntry.eq (n : Nat) (x0 : Int × Int × Int × Int) : impl_validEntry n x0 = (if Prod.fst x0 < 0 then some (Bool.false) else (if Prod.fst x0 > 999 then some (Bool.false) else (if Prod.snd (Prod.snd (Prod.snd x0)) < 1 then some (Bool.false) else (if Prod.snd (Prod.snd (Prod.snd x0)) > 1000000 then some (Bool.false) else ((impl_validAccount n (Prod.fst (Prod.snd x0))).bind fun y0 => (if y0 = Bool.true then ((impl_validAccount n (Prod.fst (Prod.snd (Prod.snd x0)))).bind fun y1 => (if y1 = Bool.true then some (!Decidable.decide (Prod.fst (Prod.snd x0) = Prod.fst (Prod.snd (Prod.snd x0)))) else some (Bool.false))) else some (Bool.false))))))) := by kernel_rfl
theorem impl_validEntry.call : Callable Tryd.prog 60 := ⟨Tryd.f60, Tryd.func60, by kernel_rfl, by kernel_rfl⟩
theorem impl_validEntry.ok (n : Nat) : FC Tryd.prog [] 60 { params := impl_validEntry.ps, res := impl_validEntry.res, run := impl_validEntry n } :=
  evalF_ok (C := impl_validEntry.C) ⟨tb_ok, fun n _ _ h => tabOk (l := [(90, { params := impl_validAccount.ps, res := impl_validAccount.res, run := impl_validAccount n })]) (all_cons ⟨impl_validAccount.ok n, impl_validAccount.call⟩ (all_nil)) h, mixed, ar_ok, bld_ok⟩ impl_validEntry.A Tryd.func60 impl_validEntry.ps impl_validEntry.res n
end Go.Proofs.YtpgfkoeodhfkgaaDoorG
end
section
open Go Go.Refl Go.Proofs
set_option maxRecDepth 1000000
set_option maxHeartbeats 0
set_option linter.unusedVariables false
namespace Go.Proofs.YtpgfkoeodhfkgaaDoorG
abbrev impl_ValidEntries.ps : List Pm := [.arg (.v (.slice (.pair (.int .i64) (.pair (.int .i64) (.pair (.int .i64) (.int .i64))))))]
abbrev impl_ValidEntries.res : List M := [.v .bool]
noncomputable def impl_ValidEntries.C : Cfg := { tb := tb, tab := fun n f => Refl.look [(60, { params := impl_validEntry.ps, res := impl_validEntry.res, run := impl_validEntry n })] f, gl := [], ar := ar, bld := bld }
noncomputable def impl_ValidEntries.A : Ann := { joins := [], loops := [(4, { live := [8, 9, 10], base := 18 })], ids := [(6, [(15, [])])], pids := [], nroots := 82 }
noncomputable def impl_ValidEntries (n : Nat) (x : List (Int × Int × Int × Int)) : Option (Bool) := evalF impl_ValidEntries.C impl_ValidEntries.A Tryd.f27 impl_ValidEntries.ps impl_ValidEntries.res n x
noncomputable def impl_ValidEntries.K0 (_ : Nat) : Kont (Bool) := finK impl_ValidEntries.C (Func.results Tryd.f27).toList impl_ValidEntries.ps impl_ValidEntries.res
noncomputable def impl_ValidEntries.K1 (n : Nat) : Kont (Bool) := seqK (fun s' k => evalC impl_ValidEntries.C impl_ValidEntries.A n (codeAt Tryd.f27 [1, 1, 1]) (cutAt impl_ValidEntries.A.joins (codeAt Tryd.f27 [1, 1, 1]) s') k) (impl_ValidEntries.K0 n)
noncomputable def impl_ValidEntries.K2 (n : Nat) : Kont (Bool) := blockK 0 (impl_ValidEntries.K1 n)
noncomputable def impl_ValidEntries.l4 (n m4 : Nat) (x8 : List (Int × Int × Int × Int)) (x9 : Int) (x10 : Int) : Option (Bool) := loopE (cutAt impl_ValidEntries.A.loops (codeAt Tryd.f27 [1, 1, 0, 1, 0, 0])) (fun s k => evalC impl_ValidEntries.C impl_ValidEntries.A n (codeAt Tryd.f27 [1, 1, 0, 1, 0, 0]) s k) m4 (St.of 18 82 [(8, .val (.slice (.pair (.int .i64) (.pair (.int .i64) (.pair (.int .i64) (.int .i64))))) x8), (9, .val (.int .i64) x9), (10, .val (.int .i64) x10)] [] []) (impl_ValidEntries.K2 n)
theorem impl_ValidEntries.eq (n : Nat) (x0 : List (Int × Int × Int × Int)) : impl_ValidEntries n x0 = (if (↑(List.length x0) : Int) > 40 then some (Bool.false) else impl_ValidEntries.l4 n n (x0) ((↑(List.length x0) : Int)) (0)) := by kernel_rfl
theorem impl_ValidEntries.l4_zero (n : Nat) (x8 : List (Int × Int × Int × Int)) (x9 : Int) (x10 : Int) : impl_ValidEntries.l4 n 0 x8 x9 x10 = none := by kernel_rfl
theorem impl_ValidEntries.l4_succ (n m4 : Nat) (x8 : List (Int × Int × Int × Int)) (x9 : Int) (x10 : Int) : impl_ValidEntries.l4 n (m4 + 1) x8 x9 x10 = (if x10 < x9 then (if 0 ≤ x10 then (if x10 < (↑(List.length x8) : Int) then ((impl_validEntry n (Prod.fst (List.getD x8 (Int.toNat x10) (0, 0, 0, 0)), Prod.fst (Prod.snd (List.getD x8 (Int.toNat x10) (0, 0, 0, 0))), Prod.fst (Prod.snd (Prod.snd (List.getD x8 (Int.toNat x10) (0, 0, 0, 0)))), Prod.snd (Prod.snd (Prod.snd (List.getD x8 (Int.toNat x10) (0, 0, 0, 0)))))).bind fun y0 => (if (!y0) = true then some (Bool.false) else impl_ValidEntries.l4 n m4 (x8) (x9) (Go.RowKit.wrap64 (x10 + 1)))) else none) else none) else some (Bool.true)) := by kernel_rfl
theorem impl_ValidEntries.call : Callable Tryd.prog 27 := ⟨Tryd.f27, Tryd.func27, by kernel_rfl, by kernel_rfl⟩
theorem impl_ValidEntries.ok (n : Nat) : FC Tryd.prog [] 27 { params := impl_ValidEntries.ps, res := impl_ValidEntries.res, run := impl_ValidEntries n } :=
  evalF_ok (C := impl_ValidEntries.C) ⟨tb_ok, fun n _ _ h => tabOk (l := [(60, { params := impl_validEntry.ps, res := impl_validEntry.res, run := impl_validEntry n })]) (all_cons ⟨impl_validEntry.ok n, impl_validEntry.call⟩ (all_nil)) h, mixed, ar_ok, bld_ok⟩ impl_ValidEntries.A Tryd.func27 impl_ValidEntries.ps impl_ValidEntries.res n
end Go.Proofs.YtpgfkoeodhfkgaaDoorG
end
section
open Go Go.Refl Go.Proofs
set_option maxRecDepth 1000000
set_option maxHeartbeats 0
set_option linter.unusedVariables false
namespace Go.Proofs.YtpgfkoeodhfkgaaDoorG
abbrev impl_FormatEntries.ps : List Pm := [.arg (.v (.slice (.pair (.int .i64) (.pair (.int .i64) (.pair (.int .i64) (.int .i64))))))]
abbrev impl_FormatEntries.res : List M := [.v .str]
noncomputable def impl_FormatEntries.C : Cfg := { tb := tb, tab := fun n f => Refl.look [(27, { params := impl_ValidEntries.ps, res := impl_ValidEntries.res, run := impl_ValidEntries n }), (47, { params := strconv_Itoa.ps, res := strconv_Itoa.res, run := strconv_Itoa n }), (46, { params := strings_Builder_WriteString.ps, res := strings_Builder_WriteString.res, run := strings_Builder_WriteString n }), (48, { params := impl_ShowMoney.ps, res := impl_ShowMoney.res, run := impl_ShowMoney n }), (49, { params := strings_Builder_String.ps, res := strings_Builder_String.res, run := strings_Builder_String n })] f, gl := [g2], ar := ar, bld := bld }
noncomputable def impl_FormatEntries.A : Ann := { joins := [], loops := [(5, { live := [3, 11, 12, 13], base := 41 }), (8, { live := [3, 5, 11, 12, 13, 23, 24, 25], base := 41 })], ids := [(1, [(9, [])]), (3, [(3, [3, 40])]), (7, [(23, [])]), (14, [(40, [])]), (10, [(30, []), (32, [32])]), (12, [(36, []), (38, [38])])], pids := [], nroots := 105 }
noncomputable def impl_FormatEntries (n : Nat) (x : List (Int × Int × Int × Int)) : Option (ByteArray) := evalF impl_FormatEntries.C impl_FormatEntries.A Tryd.f14 impl_FormatEntries.ps impl_FormatEntries.res n x
noncomputable def impl_FormatEntries.K0 (_ : Nat) : Kont (ByteArray) := finK impl_FormatEntries.C (Func.results Tryd.f14).toList impl_FormatEntries.ps impl_FormatEntries.res
noncomputable def impl_FormatEntries.K1 (n : Nat) : Kont (ByteArray) := seqK (fun s' k => evalC impl_FormatEntries.C impl_FormatEntries.A n (codeAt Tryd.f14 [1, 1, 1, 1]) (cutAt impl_FormatEntries.A.joins (codeAt Tryd.f14 [1, 1, 1, 1]) s') k) (impl_FormatEntries.K0 n)
noncomputable def impl_FormatEntries.K2 (n : Nat) : Kont (ByteArray) := blockK 0 (impl_FormatEntries.K1 n)
noncomputable def impl_FormatEntries.K3 (n m5 : Nat) : Kont (ByteArray) := loopK (cutAt impl_FormatEntries.A.loops (codeAt Tryd.f14 [1, 1, 1, 0, 1, 0, 0])) (fun s k => evalC impl_FormatEntries.C impl_FormatEntries.A n (codeAt Tryd.f14 [1, 1, 1, 0, 1, 0, 0]) s k) m5 (impl_FormatEntries.K2 n)
noncomputable def impl_FormatEntries.K4 (n m5 : Nat) : Kont (ByteArray) := seqK (fun s' k => evalC impl_FormatEntries.C impl_FormatEntries.A n (codeAt Tryd.f14 [1, 1, 1, 0, 1, 0, 0, 1, 1, 1]) (cutAt impl_FormatEntries.A.joins (codeAt Tryd.f14 [1, 1, 1, 0, 1, 0, 0, 1, 1, 1]) s') k) (impl_FormatEntries.K3 n m5)
noncomputable def impl_FormatEntries.K5 (n m5 : Nat) : Kont (ByteArray) := blockK 1 (impl_FormatEntries.K4 n m5)
noncomputable def impl_FormatEntries.K6 (n m5 : Nat) : Kont (ByteArray) := seqK (fun s' k => evalC impl_FormatEntries.C impl_FormatEntries.A n (codeAt Tryd.f14 [1, 1, 1, 0, 1, 0, 0, 1, 1, 0, 0, 1, 1]) (cutAt impl_FormatEntries.A.joins (codeAt Tryd.f14 [1, 1, 1, 0, 1, 0, 0, 1, 1, 0, 0, 1, 1]) s') k) (impl_FormatEntries.K5 n m5)
noncomputable def impl_FormatEntries.K7 (n m5 : Nat) : Kont (ByteArray) := blockK 2 (impl_FormatEntries.K6 n m5)
noncomputable def impl_FormatEntries.l5 (n m5 : Nat) (x11 : List (Int × Int × Int × Int)) (x12 : Int) (x13 : Int) (r42 : List Int) : Option (ByteArray) := loopE (cutAt impl_FormatEntries.A.loops (codeAt Tryd.f14 [1, 1, 1, 0, 1, 0, 0])) (fun s k => evalC impl_FormatEntries.C impl_FormatEntries.A n (codeAt Tryd.f14 [1, 1, 1, 0, 1, 0, 0]) s k) m5 (St.of 41 105 [(3, .ptr 41 0 0), (11, .val (.slice (.pair (.int .i64) (.pair (.int .i64) (.pair (.int .i64) (.int .i64))))) x11), (12, .val (.int .i64) x12), (13, .val (.int .i64) x13)] [(41, .box 71 [.optr 41, .own 42]), (42, .row (.int .u8) 5 r42)] []) (impl_FormatEntries.K2 n)
noncomputable def impl_FormatEntries.l8 (n m5 m8 : Nat) (x11 : List (Int × Int × Int × Int)) (x12 : Int) (x13 : Int) (x23 : List Int) (x24 : Int) (x25 : Int) (r42_0 : Int) (r42_1 : Int) (r42_2 : Int) (r42_3 : Int) (r43 : List Int) : Option (ByteArray) := loopE (cutAt impl_FormatEntries.A.loops (codeAt Tryd.f14 [1, 1, 1, 0, 1, 0, 0, 1, 1, 0, 0, 1, 0, 1, 0, 0])) (fun s k => evalC impl_FormatEntries.C impl_FormatEntries.A n (codeAt Tryd.f14 [1, 1, 1, 0, 1, 0, 0, 1, 1, 0, 0, 1, 0, 1, 0, 0]) s k) m8 (St.of 41 105 [(3, .ptr 41 0 0), (5, .ptr 42 0 0), (11, .val (.slice (.pair (.int .i64) (.pair (.int .i64) (.pair (.int .i64) (.int .i64))))) x11), (12, .val (.int .i64) x12), (13, .val (.int .i64) x13), (23, .val (.slice (.int .i64)) x23), (24, .val (.int .i64) x24), (25, .val (.int .i64) x25)] [(41, .box 71 [.optr 41, .own 43]), (42, .box 66 [.val (.int .i64) r42_0, .val (.int .i64) r42_1, .val (.int .i64) r42_2, .val (.int .i64) r42_3]), (43, .row (.int .u8) 5 r43)] []) (impl_FormatEntries.K7 n m5)
theorem impl_FormatEntries.eq (n : Nat) (x0 : List (Int × Int × Int × Int)) : impl_FormatEntries n x0 = ((impl_ValidEntries n x0).bind fun y0 => (if (!y0) = true then some ({ data := #[] }) else impl_FormatEntries.l5 n n (x0) ((↑(List.length x0) : Int)) (0) ([]))) := by kernel_rfl
theorem impl_FormatEntries.l5_zero (n : Nat) (x11 : List (Int × Int × Int × Int)) (x12 : Int) (x13 : Int) (r42 : List Int) : impl_FormatEntries.l5 n 0 x11 x12 x13 r42 = none := by kernel_rfl
theorem impl_FormatEntries.l5_succ (n m5 : Nat) (x11 : List (Int × Int × Int × Int)) (x12 : Int) (x13 : Int) (r42 : List Int) : impl_FormatEntries.l5 n (m5 + 1) x11 x12 x13 r42 = (if x13 < x12 then (if 0 ≤ x13 then (if x13 < (↑(List.length x11) : Int) then impl_FormatEntries.l8 n m5 n (x11) (x12) (x13) (List.set (List.set (List.set (List.replicate 3 0) 0 (Prod.fst (List.getD x11 (Int.toNat x13) (0, 0, 0, 0)))) 1 (Prod.fst (Prod.snd (List.getD x11 (Int.toNat x13) (0, 0, 0, 0))))) 2 (Prod.fst (Prod.snd (Prod.snd (List.getD x11 (Int.toNat x13) (0, 0, 0, 0)))))) ((↑(List.length (List.set (List.set (List.set (List.replicate (3 : Nat) (0 : Int)) (0 : Nat) (Prod.fst (List.getD x11 (Int.toNat x13) ((0 : Int), (0 : Int), (0 : Int), (0 : Int))))) (1 : Nat) (Prod.fst (Prod.snd (List.getD x11 (Int.toNat x13) ((0 : Int), (0 : Int), (0 : Int), (0 : Int)))))) (2 : Nat) (Prod.fst (Prod.snd (Prod.snd (List.getD x11 (Int.toNat x13) ((0 : Int), (0 : Int), (0 : Int), (0 : Int)))))))) : Int)) (0) (Prod.fst (List.getD x11 (Int.toNat x13) (0, 0, 0, 0))) (Prod.fst (Prod.snd (List.getD x11 (Int.toNat x13) (0, 0, 0, 0)))) (Prod.fst (Prod.snd (Prod.snd (List.getD x11 (Int.toNat x13) (0, 0, 0, 0))))) (Prod.snd (Prod.snd (Prod.snd (List.getD x11 (Int.toNat x13) (0, 0, 0, 0))))) (r42) else none) else none) else ((strings_Builder_String n r42).bind fun y1 => some (y1))) := by kernel_rfl
theorem impl_FormatEntries.l8_zero (n m5 : Nat) (x11 : List (Int × Int × Int × Int)) (x12 : Int) (x13 : Int) (x23 : List Int) (x24 : Int) (x25 : Int) (r42_0 : Int) (r42_1 : Int) (r42_2 : Int) (r42_3 : Int) (r43 : List Int) : impl_FormatEntries.l8 n m5 0 x11 x12 x13 x23 x24 x25 r42_0 r42_1 r42_2 r42_3 r43 = none := by kernel_rfl
theorem impl_FormatEntries.l8_succ (n m5 m8 : Nat) (x11 : List (Int × Int × Int × Int)) (x12 : Int) (x13 : Int) (x23 : List Int) (x24 : Int) (x25 : Int) (r42_0 : Int) (r42_1 : Int) (r42_2 : Int) (r42_3 : Int) (r43 : List Int) : impl_FormatEntries.l8 n m5 (m8 + 1) x11 x12 x13 x23 x24 x25 r42_0 r42_1 r42_2 r42_3 r43 = (if x25 < x24 then (if 0 ≤ x25 then (if x25 < (↑(List.length x23) : Int) then ((strconv_Itoa n (List.getD x23 (Int.toNat x25) 0)).bind fun y2 => (if ByteArray.size y2 + ByteArray.size { data := #[(32 : UInt8)] } ≤ Go.Refl.maxN then ((strings_Builder_WriteString n (r43, y2 ++ { data := #[(32 : UInt8)] })).bind fun y3 => impl_FormatEntries.l8 n m5 m8 (x11) (x12) (x13) (x23) (x24) (Go.RowKit.wrap64 (x25 + 1)) (r42_0) (r42_1) (r42_2) (r42_3) (Prod.snd (Prod.snd y3))) else none)) else none) else none) else ((impl_ShowMoney n r42_3).bind fun y4 => (if ByteArray.size y4 + ByteArray.size { data := #[(10 : UInt8)] } ≤ Go.Refl.maxN then ((strings_Builder_WriteString n (r43, y4 ++ { data := #[(10 : UInt8)] })).bind fun y5 => impl_FormatEntries.l5 n m5 (x11) (x12) (Go.RowKit.wrap64 (x13 + 1)) (Prod.snd (Prod.snd y5))) else none))) := by kernel_rfl
theorem impl_FormatEntries.call : Callable Tryd.prog 14 := ⟨Tryd.f14, Tryd.func14, by kernel_rfl, by kernel_rfl⟩
theorem impl_FormatEntries.ok (n : Nat) : FC Tryd.prog [g2] 14 { params := impl_FormatEntries.ps, res := impl_FormatEntries.res, run := impl_FormatEntries n } :=
  evalF_ok (C := impl_FormatEntries.C) ⟨tb_ok, fun n _ _ h => tabOk (l := [(27, { params := impl_ValidEntries.ps, res := impl_ValidEntries.res, run := impl_ValidEntries n }), (47, { params := strconv_Itoa.ps, res := strconv_Itoa.res, run := strconv_Itoa n }), (46, { params := strings_Builder_WriteString.ps, res := strings_Builder_WriteString.res, run := strings_Builder_WriteString n }), (48, { params := impl_ShowMoney.ps, res := impl_ShowMoney.res, run := impl_ShowMoney n }), (49, { params := strings_Builder_String.ps, res := strings_Builder_String.res, run := strings_Builder_String n })]) (all_cons ⟨(.mono (gl := []) (gl' := [g2]) (all_nil) (impl_ValidEntries.ok n)), impl_ValidEntries.call⟩ (all_cons ⟨strconv_Itoa.ok n, strconv_Itoa.call⟩ (all_cons ⟨(.mono (gl := []) (gl' := [g2]) (all_nil) (strings_Builder_WriteString.ok n)), strings_Builder_WriteString.call⟩ (all_cons ⟨impl_ShowMoney.ok n, impl_ShowMoney.call⟩ (all_cons ⟨(.mono (gl := []) (gl' := [g2]) (all_nil) (strings_Builder_String.ok n)), strings_Builder_String.call⟩ (all_nil)))))) h, mixed, ar_ok, bld_ok⟩ impl_FormatEntries.A Tryd.func14 impl_FormatEntries.ps impl_FormatEntries.res n
end Go.Proofs.YtpgfkoeodhfkgaaDoorG
end
section
open Go Go.Refl Go.Proofs
set_option maxRecDepth 1000000
set_option maxHeartbeats 0
set_option linter.unusedVariables false
namespace Go.Proofs.YtpgfkoeodhfkgaaDoorG
abbrev laws_szEntryS.ps : List Pm := [.arg (.v (.slice (.pair (.int .i64) (.pair (.int .i64) (.pair (.int .i64) (.int .i64)))))), .arg (.v (.int .i64))]
abbrev laws_szEntryS.res : List M := [.v (.int .i64)]
noncomputable def laws_szEntryS.C : Cfg := { tb := tb, tab := fun n f => Refl.look [] f, gl := [], ar := ar, bld := bld }
noncomputable def laws_szEntryS.A : Ann := { joins := [], loops := [], ids := [], pids := [], nroots := 76 }
noncomputable def laws_szEntryS (n : Nat) (x : List (Int × Int × Int × Int) × Int) : Option (Int) := evalF laws_szEntryS.C laws_szEntryS.A Tryd.f11 laws_szEntryS.ps laws_szEntryS.res n x
noncomputable def laws_szEntryS.K0 (_ : Nat) : Kont (Int) := finK laws_szEntryS.C (Func.results Tryd.f11).toList laws_szEntryS.ps laws_szEntryS.res
theorem laws_szEntryS.eq (n : Nat) (x0 : List (Int × Int × Int × Int)) (x1 : Int) : laws_szEntryS n (x0, x1) = (if Go.RowKit.wrap64 (x1 - (↑(List.length x0) : Int)) < 0 then some ((-1)) else some (Go.RowKit.wrap64 (x1 - (↑(List.length x0) : Int)))) := by kernel_rfl
theorem laws_szEntryS.call : Callable Tryd.prog 11 := ⟨Tryd.f11, Tryd.func11, by kernel_rfl, by kernel_rfl⟩
theorem laws_szEntryS.ok (n : Nat) : FC Tryd.prog [] 11 { params := laws_szEntryS.ps, res := laws_szEntryS.res, run := laws_szEntryS n } :=
  evalF_ok (C := laws_szEntryS.C) ⟨tb_ok, fun n _ _ h => tabOk (l := []) (all_nil) h, mixed, ar_ok, bld_ok⟩ laws_szEntryS.A Tryd.func11 laws_szEntryS.ps laws_szEntryS.res n
end Go.Proofs.YtpgfkoeodhfkgaaDoorG
end
section
open Go Go.Refl Go.Proofs
set_option maxRecDepth 1000000
set_option maxHeartbeats 0
set_option linter.unusedVariables false
namespace Go.Proofs.YtpgfkoeodhfkgaaDoorG
abbrev laws_toEntry.ps : List Pm := [.arg (.v (.pair (.int .i64) (.pair (.int .i64) (.pair (.int .i64) (.int .i64)))))]
abbrev laws_toEntry.res : List M := [.v (.pair (.int .i64) (.pair (.int .i64) (.pair (.int .i64) (.int .i64))))]
noncomputable def laws_toEntry.C : Cfg := { tb := tb, tab := fun n f => Refl.look [] f, gl := [], ar := ar, bld := bld }
noncomputable def laws_toEntry.A : Ann := { joins := [], loops := [], ids := [], pids := [], nroots := 81 }
noncomputable def laws_toEntry (n : Nat) (x : Int × Int × Int × Int) : Option (Int × Int × Int × Int) := evalF laws_toEntry.C laws_toEntry.A Tryd.f45 laws_toEntry.ps laws_toEntry.res n x
noncomputable def laws_toEntry.K0 (_ : Nat) : Kont (Int × Int × Int × Int) := finK laws_toEntry.C (Func.results Tryd.f45).toList laws_toEntry.ps laws_toEntry.res
theorem laws_toEntry.eq (n : Nat) (x0 : Int × Int × Int × Int) : laws_toEntry n x0 = some ((Prod.fst x0, Prod.fst (Prod.snd x0), Prod.fst (Prod.snd (Prod.snd x0)), Prod.snd (Prod.snd (Prod.snd x0)))) := by kernel_rfl
theorem laws_toEntry.call : Callable Tryd.prog 45 := ⟨Tryd.f45, Tryd.func45, by kernel_rfl, by kernel_rfl⟩
theorem laws_toEntry.ok (n : Nat) : FC Tryd.prog [] 45 { params := laws_toEntry.ps, res := laws_toEntry.res, run := laws_toEntry n } :=
  evalF_ok (C := laws_toEntry.C) ⟨tb_ok, fun n _ _ h => tabOk (l := []) (all_nil) h, mixed, ar_ok, bld_ok⟩ laws_toEntry.A Tryd.func45 laws_toEntry.ps laws_toEntry.res n
end Go.Proofs.YtpgfkoeodhfkgaaDoorG
end
section
open Go Go.Refl Go.Proofs
set_option maxRecDepth 1000000
set_option maxHeartbeats 0
set_option linter.unusedVariables false
namespace Go.Proofs.YtpgfkoeodhfkgaaDoorG
abbrev laws_toEntryS.ps : List Pm := [.arg (.v (.slice (.pair (.int .i64) (.pair (.int .i64) (.pair (.int .i64) (.int .i64))))))]
abbrev laws_toEntryS.res : List M := [(.own (.pair (.int .i64) (.pair (.int .i64) (.pair (.int .i64) (.int .i64)))) 66)]
noncomputable def laws_toEntryS.C : Cfg := { tb := tb, tab := fun n f => Refl.look [(45, { params := laws_toEntry.ps, res := laws_toEntry.res, run := laws_toEntry n })] f, gl := [], ar := ar, bld := bld }
noncomputable def laws_toEntryS.A : Ann := { joins := [], loops := [(3, { live := [0, 3, 4], base := 23 })], ids := [(5, [(20, [])])], pids := [], nroots := 87 }
noncomputable def laws_toEntryS (n : Nat) (x : List (Int × Int × Int × Int)) : Option (List (Int × Int × Int × Int)) := evalF laws_toEntryS.C laws_toEntryS.A Tryd.f13 laws_toEntryS.ps laws_toEntryS.res n x
noncomputable def laws_toEntryS.K0 (_ : Nat) : Kont (List (Int × Int × Int × Int)) := finK laws_toEntryS.C (Func.results Tryd.f13).toList laws_toEntryS.ps laws_toEntryS.res
noncomputable def laws_toEntryS.K1 (n : Nat) : Kont (List (Int × Int × Int × Int)) := seqK (fun s' k => evalC laws_toEntryS.C laws_toEntryS.A n (codeAt Tryd.f13 [1, 1, 1]) (cutAt laws_toEntryS.A.joins (codeAt Tryd.f13 [1, 1, 1]) s') k) (laws_toEntryS.K0 n)
noncomputable def laws_toEntryS.K2 (n : Nat) : Kont (List (Int × Int × Int × Int)) := blockK 0 (laws_toEntryS.K1 n)
noncomputable def laws_toEntryS.l3 (n m3 : Nat) (x0 : List (Int × Int × Int × Int)) (x4 : Int) (r23 : List (Int × Int × Int × Int)) : Option (List (Int × Int × Int × Int)) := loopE (cutAt laws_toEntryS.A.loops (codeAt Tryd.f13 [1, 1, 0, 1, 0, 0])) (fun s k => evalC laws_toEntryS.C laws_toEntryS.A n (codeAt Tryd.f13 [1, 1, 0, 1, 0, 0]) s k) m3 (St.of 23 87 [(0, .val (.slice (.pair (.int .i64) (.pair (.int .i64) (.pair (.int .i64) (.int .i64))))) x0), (3, .own 23), (4, .val (.int .i64) x4)] [(23, .row (.pair (.int .i64) (.pair (.int .i64) (.pair (.int .i64) (.int .i64)))) 66 r23)] []) (laws_toEntryS.K2 n)
theorem laws_toEntryS.eq (n : Nat) (x0 : List (Int × Int × Int × Int)) : laws_toEntryS n x0 = (if 0 ≤ (↑(List.length x0) : Int) then (if (↑(List.length x0) : Int) ≤ (↑(List.length x0) : Int) then (if (↑(List.length x0) : Int) ≤ (↑Go.Refl.maxN : Int) then laws_toEntryS.l3 n n (x0) (0) (List.replicate (Int.toNat (↑(List.length x0) : Int)) (0, 0, 0, 0)) else none) else none) else none) := by kernel_rfl
theorem laws_toEntryS.l3_zero (n : Nat) (x0 : List (Int × Int × Int × Int)) (x4 : Int) (r23 : List (Int × Int × Int × Int)) : laws_toEntryS.l3 n 0 x0 x4 r23 = none := by kernel_rfl
theorem laws_toEntryS.l3_succ (n m3 : Nat) (x0 : List (Int × Int × Int × Int)) (x4 : Int) (r23 : List (Int × Int × Int × Int)) : laws_toEntryS.l3 n (m3 + 1) x0 x4 r23 = (if x4 < (↑(List.length x0) : Int) then (if 0 ≤ x4 then (if x4 < (↑(List.length x0) : Int) then ((laws_toEntry n (List.getD x0 (Int.toNat x4) (0, 0, 0, 0))).bind fun y0 => (if 0 ≤ x4 then (if x4 < (↑(List.length r23) : Int) then laws_toEntryS.l3 n m3 (x0) (Go.RowKit.wrap64 (x4 + 1)) (List.set r23 (Int.toNat x4) y0) else none) else none)) else none) else none) else some (r23)) := by kernel_rfl
theorem laws_toEntryS.call : Callable Tryd.prog 13 := ⟨Tryd.f13, Tryd.func13, by kernel_rfl, by kernel_rfl⟩
theorem laws_toEntryS.ok (n : Nat) : FC Tryd.prog [] 13 { params := laws_toEntryS.ps, res := laws_toEntryS.res, run := laws_toEntryS n } :=
  evalF_ok (C := laws_toEntryS.C) ⟨tb_ok, fun n _ _ h => tabOk (l := [(45, { params := laws_toEntry.ps, res := laws_toEntry.res, run := laws_toEntry n })]) (all_cons ⟨laws_toEntry.ok n, laws_toEntry.call⟩ (all_nil)) h, mixed, ar_ok, bld_ok⟩ laws_toEntryS.A Tryd.func13 laws_toEntryS.ps laws_toEntryS.res n
end Go.Proofs.YtpgfkoeodhfkgaaDoorG
end
section
open Go Go.Refl Go.Proofs
set_option maxRecDepth 1000000
set_option maxHeartbeats 0
set_option linter.unusedVariables false
namespace Go.Proofs.YtpgfkoeodhfkgaaDoorG
abbrev spec_validEntry.ps : List Pm := [.arg (.v (.pair (.int .i64) (.pair (.int .i64) (.pair (.int .i64) (.int .i64)))))]
abbrev spec_validEntry.res : List M := [.v .bool]
noncomputable def spec_validEntry.C : Cfg := { tb := tb, tab := fun n f => Refl.look [(83, { params := spec_inRange.ps, res := spec_inRange.res, run := spec_inRange n })] f, gl := [], ar := ar, bld := bld }
noncomputable def spec_validEntry.A : Ann := { joins := [], loops := [], ids := [(1, [(5, []), (9, []), (14, []), (26, [])])], pids := [], nroots := 92 }
noncomputable def spec_validEntry (n : Nat) (x : Int × Int × Int × Int) : Option (Bool) := evalF spec_validEntry.C spec_validEntry.A Tryd.f78 spec_validEntry.ps spec_validEntry.res n x
noncomputable def spec_validEntry.K0 (_ : Nat) : Kont (Bool) := finK spec_validEntry.C (Func.results Tryd.f78).toList spec_validEntry.ps spec_validEntry.res
theorem spec_validEntry.eq (n : Nat) (x0 : Int × Int × Int × Int) : spec_validEntry n x0 = ((spec_inRange n (Prod.fst x0, 0, 999)).bind fun y0 => (if y0 = Bool.true then ((spec_inRange n (Prod.fst (Prod.snd x0), 0, 7)).bind fun y1 => (if y1 = Bool.true then ((spec_inRange n (Prod.fst (Prod.snd (Prod.snd x0)), 0, 7)).bind fun y2 => (if y2 = Bool.true then (if Prod.fst (Prod.snd x0) = Prod.fst (Prod.snd (Prod.snd x0)) then some (Bool.false) else ((spec_inRange n (Prod.snd (Prod.snd (Prod.snd x0)), 1, 1000000)).bind fun y3 => some (y3))) else some (Bool.false))) else some (Bool.false))) else some (Bool.false))) := by kernel_rfl
theorem spec_validEntry.call : Callable Tryd.prog 78 := ⟨Tryd.f78, Tryd.func78, by kernel_rfl, by kernel_rfl⟩
theorem spec_validEntry.ok (n : Nat) : FC Tryd.prog [] 78 { params := spec_validEntry.ps, res := spec_validEntry.res, run := spec_validEntry n } :=
  evalF_ok (C := spec_validEntry.C) ⟨tb_ok, fun n _ _ h => tabOk (l := [(83, { params := spec_inRange.ps, res := spec_inRange.res, run := spec_inRange n })]) (all_cons ⟨spec_inRange.ok n, spec_inRange.call⟩ (all_nil)) h, mixed, ar_ok, bld_ok⟩ spec_validEntry.A Tryd.func78 spec_validEntry.ps spec_validEntry.res n
end Go.Proofs.YtpgfkoeodhfkgaaDoorG
end
section
open Go Go.Refl Go.Proofs
set_option maxRecDepth 1000000
set_option maxHeartbeats 0
set_option linter.unusedVariables false
namespace Go.Proofs.YtpgfkoeodhfkgaaDoorG
abbrev spec_validEntries.ps : List Pm := [.arg (.v (.slice (.pair (.int .i64) (.pair (.int .i64) (.pair (.int .i64) (.int .i64))))))]
abbrev spec_validEntries.res : List M := [.v .bool]
noncomputable def spec_validEntries.C : Cfg := { tb := tb, tab := fun n f => Refl.look [(78, { params := spec_validEntry.ps, res := spec_validEntry.res, run := spec_validEntry n })] f, gl := [], ar := ar, bld := bld }
noncomputable def spec_validEntries.A : Ann := { joins := [], loops := [(2, { live := [0, 3], base := 19 })], ids := [(4, [(14, [])])], pids := [], nroots := 83 }
noncomputable def spec_validEntries (n : Nat) (x : List (Int × Int × Int × Int)) : Option (Bool) := evalF spec_validEntries.C spec_validEntries.A Tryd.f43 spec_validEntries.ps spec_validEntries.res n x
noncomputable def spec_validEntries.K0 (_ : Nat) : Kont (Bool) := finK spec_validEntries.C (Func.results Tryd.f43).toList spec_validEntries.ps spec_validEntries.res
noncomputable def spec_validEntries.K1 (n : Nat) : Kont (Bool) := seqK (fun s' k => evalC spec_validEntries.C spec_validEntries.A n (codeAt Tryd.f43 [1, 1]) (cutAt spec_validEntries.A.joins (codeAt Tryd.f43 [1, 1]) s') k) (spec_validEntries.K0 n)
noncomputable def spec_validEntries.K2 (n : Nat) : Kont (Bool) := blockK 0 (spec_validEntries.K1 n)
noncomputable def spec_validEntries.l2 (n m2 : Nat) (x0 : List (Int × Int × Int × Int)) (x3 : Int) : Option (Bool) := loopE (cutAt spec_validEntries.A.loops (codeAt Tryd.f43 [1, 0, 1, 0, 0])) (fun s k => evalC spec_validEntries.C spec_validEntries.A n (codeAt Tryd.f43 [1, 0, 1, 0, 0]) s k) m2 (St.of 19 83 [(0, .val (.slice (.pair (.int .i64) (.pair (.int .i64) (.pair (.int .i64) (.int .i64))))) x0), (3, .val (.int .i64) x3)] [] []) (spec_validEntries.K2 n)
theorem spec_validEntries.eq (n : Nat) (x0 : List (Int × Int × Int × Int)) : spec_validEntries n x0 = spec_validEntries.l2 n n (x0) (0) := by kernel_rfl
theorem spec_validEntries.l2_zero (n : Nat) (x0 : List (Int × Int × Int × Int)) (x3 : Int) : spec_validEntries.l2 n 0 x0 x3 = none := by kernel_rfl
theorem spec_validEntries.l2_succ (n m2 : Nat) (x0 : List (Int × Int × Int × Int)) (x3 : Int) : spec_validEntries.l2 n (m2 + 1) x0 x3 = (if x3 < (↑(List.length x0) : Int) then (if 0 ≤ x3 then (if x3 < (↑(List.length x0) : Int) then ((spec_validEntry n (List.getD x0 (Int.toNat x3) (0, 0, 0, 0))).bind fun y0 => (if (!y0) = true then some (Bool.false) else spec_validEntries.l2 n m2 (x0) (Go.RowKit.wrap64 (x3 + 1)))) else none) else none) else some (Decidable.decide ((↑(List.length x0) : Int) ≤ 40))) := by kernel_rfl
theorem spec_validEntries.call : Callable Tryd.prog 43 := ⟨Tryd.f43, Tryd.func43, by kernel_rfl, by kernel_rfl⟩
theorem spec_validEntries.ok (n : Nat) : FC Tryd.prog [] 43 { params := spec_validEntries.ps, res := spec_validEntries.res, run := spec_validEntries n } :=
  evalF_ok (C := spec_validEntries.C) ⟨tb_ok, fun n _ _ h => tabOk (l := [(78, { params := spec_validEntry.ps, res := spec_validEntry.res, run := spec_validEntry n })]) (all_cons ⟨spec_validEntry.ok n, spec_validEntry.call⟩ (all_nil)) h, mixed, ar_ok, bld_ok⟩ spec_validEntries.A Tryd.func43 spec_validEntries.ps spec_validEntries.res n
end Go.Proofs.YtpgfkoeodhfkgaaDoorG
end
section
open Go Go.Refl Go.Proofs
set_option maxRecDepth 1000000
set_option maxHeartbeats 0
set_option linter.unusedVariables false
namespace Go.Proofs.YtpgfkoeodhfkgaaDoorG
abbrev spec_showEntry.ps : List Pm := [.arg (.v (.pair (.int .i64) (.pair (.int .i64) (.pair (.int .i64) (.int .i64)))))]
abbrev spec_showEntry.res : List M := [.v .str]
noncomputable def spec_showEntry.C : Cfg := { tb := tb, tab := fun n f => Refl.look [(79, { params := spec_number.ps, res := spec_number.res, run := spec_number n })] f, gl := [], ar := ar, bld := bld }
noncomputable def spec_showEntry.A : Ann := { joins := [], loops := [], ids := [(1, [(5, []), (9, []), (14, []), (20, []), (27, []), (32, [])])], pids := [], nroots := 98 }
noncomputable def spec_showEntry (n : Nat) (x : Int × Int × Int × Int) : Option (ByteArray) := evalF spec_showEntry.C spec_showEntry.A Tryd.f44 spec_showEntry.ps spec_showEntry.res n x
noncomputable def spec_showEntry.K0 (_ : Nat) : Kont (ByteArray) := finK spec_showEntry.C (Func.results Tryd.f44).toList spec_showEntry.ps spec_showEntry.res
theorem spec_showEntry.eq (n : Nat) (x0 : Int × Int × Int × Int) : spec_showEntry n x0 = ((spec_number n (Prod.fst x0)).bind fun y0 => (if ByteArray.size y0 + ByteArray.size { data := #[(32 : UInt8)] } ≤ Go.Refl.maxN then ((spec_number n (Prod.fst (Prod.snd x0))).bind fun y1 => (if ByteArray.size (y0 ++ { data := #[(32 : UInt8)] }) + ByteArray.size y1 ≤ Go.Refl.maxN then (if ByteArray.size (y0 ++ { data := #[(32 : UInt8)] } ++ y1) + ByteArray.size { data := #[(32 : UInt8)] } ≤ Go.Refl.maxN then ((spec_number n (Prod.fst (Prod.snd (Prod.snd x0)))).bind fun y2 => (if ByteArray.size (y0 ++ { data := #[(32 : UInt8)] } ++ y1 ++ { data := #[(32 : UInt8)] }) + ByteArray.size y2 ≤ Go.Refl.maxN then (if ByteArray.size (y0 ++ { data := #[(32 : UInt8)] } ++ y1 ++ { data := #[(32 : UInt8)] } ++ y2) + ByteArray.size { data := #[(32 : UInt8)] } ≤ Go.Refl.maxN then ((spec_number n (Go.RowKit.wrap64 (Int.tdiv (Prod.snd (Prod.snd (Prod.snd x0))) 100))).bind fun y3 => (if ByteArray.size (y0 ++ { data := #[(32 : UInt8)] } ++ y1 ++ { data := #[(32 : UInt8)] } ++ y2 ++ { data := #[(32 : UInt8)] }) + ByteArray.size y3 ≤ Go.Refl.maxN then (if ByteArray.size (y0 ++ { data := #[(32 : UInt8)] } ++ y1 ++ { data := #[(32 : UInt8)] } ++ y2 ++ { data := #[(32 : UInt8)] } ++ y3) + ByteArray.size { data := #[(46 : UInt8)] } ≤ Go.Refl.maxN then ((spec_number n (Int.tmod (Go.RowKit.wrap64 (Int.tdiv (Prod.snd (Prod.snd (Prod.snd x0))) 10)) 10)).bind fun y4 => (if ByteArray.size (y0 ++ { data := #[(32 : UInt8)] } ++ y1 ++ { data := #[(32 : UInt8)] } ++ y2 ++ { data := #[(32 : UInt8)] } ++ y3 ++ { data := #[(46 : UInt8)] }) + ByteArray.size y4 ≤ Go.Refl.maxN then ((spec_number n (Int.tmod (Prod.snd (Prod.snd (Prod.snd x0))) 10)).bind fun y5 => (if ByteArray.size (y0 ++ { data := #[(32 : UInt8)] } ++ y1 ++ { data := #[(32 : UInt8)] } ++ y2 ++ { data := #[(32 : UInt8)] } ++ y3 ++ { data := #[(46 : UInt8)] } ++ y4) + ByteArray.size y5 ≤ Go.Refl.maxN then some (y0 ++ { data := #[(32 : UInt8)] } ++ y1 ++ { data := #[(32 : UInt8)] } ++ y2 ++ { data := #[(32 : UInt8)] } ++ y3 ++ { data := #[(46 : UInt8)] } ++ y4 ++ y5) else none)) else none)) else none) else none)) else none) else none)) else none) else none)) else none)) := by kernel_rfl
theorem spec_showEntry.call : Callable Tryd.prog 44 := ⟨Tryd.f44, Tryd.func44, by kernel_rfl, by kernel_rfl⟩
theorem spec_showEntry.ok (n : Nat) : FC Tryd.prog [] 44 { params := spec_showEntry.ps, res := spec_showEntry.res, run := spec_showEntry n } :=
  evalF_ok (C := spec_showEntry.C) ⟨tb_ok, fun n _ _ h => tabOk (l := [(79, { params := spec_number.ps, res := spec_number.res, run := spec_number n })]) (all_cons ⟨spec_number.ok n, spec_number.call⟩ (all_nil)) h, mixed, ar_ok, bld_ok⟩ spec_showEntry.A Tryd.func44 spec_showEntry.ps spec_showEntry.res n
end Go.Proofs.YtpgfkoeodhfkgaaDoorG
end
section
open Go Go.Refl Go.Proofs
set_option maxRecDepth 1000000
set_option maxHeartbeats 0
set_option linter.unusedVariables false
namespace Go.Proofs.YtpgfkoeodhfkgaaDoorG
abbrev spec_FormatEntries.ps : List Pm := [.arg (.v (.slice (.pair (.int .i64) (.pair (.int .i64) (.pair (.int .i64) (.int .i64))))))]
abbrev spec_FormatEntries.res : List M := [.v .str]
noncomputable def spec_FormatEntries.C : Cfg := { tb := tb, tab := fun n f => Refl.look [(43, { params := spec_validEntries.ps, res := spec_validEntries.res, run := spec_validEntries n }), (44, { params := spec_showEntry.ps, res := spec_showEntry.res, run := spec_showEntry n })] f, gl := [], ar := ar, bld := bld }
noncomputable def spec_FormatEntries.A : Ann := { joins := [], loops := [(5, { live := [0, 3, 4], base := 23 })], ids := [(1, [(6, [])]), (7, [(19, [])])], pids := [], nroots := 87 }
noncomputable def spec_FormatEntries (n : Nat) (x : List (Int × Int × Int × Int)) : Option (ByteArray) := evalF spec_FormatEntries.C spec_FormatEntries.A Tryd.f12 spec_FormatEntries.ps spec_FormatEntries.res n x
noncomputable def spec_FormatEntries.K0 (_ : Nat) : Kont (ByteArray) := finK spec_FormatEntries.C (Func.results Tryd.f12).toList spec_FormatEntries.ps spec_FormatEntries.res
noncomputable def spec_FormatEntries.K1 (n : Nat) : Kont (ByteArray) := seqK (fun s' k => evalC spec_FormatEntries.C spec_FormatEntries.A n (codeAt Tryd.f12 [1, 1, 1, 1]) (cutAt spec_FormatEntries.A.joins (codeAt Tryd.f12 [1, 1, 1, 1]) s') k) (spec_FormatEntries.K0 n)
noncomputable def spec_FormatEntries.K2 (n : Nat) : Kont (ByteArray) := blockK 0 (spec_FormatEntries.K1 n)
noncomputable def spec_FormatEntries.l5 (n m5 : Nat) (x0 : List (Int × Int × Int × Int)) (x3 : ByteArray) (x4 : Int) : Option (ByteArray) := loopE (cutAt spec_FormatEntries.A.loops (codeAt Tryd.f12 [1, 1, 1, 0, 1, 0, 0])) (fun s k => evalC spec_FormatEntries.C spec_FormatEntries.A n (codeAt Tryd.f12 [1, 1, 1, 0, 1, 0, 0]) s k) m5 (St.of 23 87 [(0, .val (.slice (.pair (.int .i64) (.pair (.int .i64) (.pair (.int .i64) (.int .i64))))) x0), (3, .val .str x3), (4, .val (.int .i64) x4)] [] []) (spec_FormatEntries.K2 n)
theorem spec_FormatEntries.eq (n : Nat) (x0 : List (Int × Int × Int × Int)) : spec_FormatEntries n x0 = ((spec_validEntries n x0).bind fun y0 => (if (!y0) = true then some ({ data := #[] }) else spec_FormatEntries.l5 n n (x0) ({ data := #[] }) (0))) := by kernel_rfl
theorem spec_FormatEntries.l5_zero (n : Nat) (x0 : List (Int × Int × Int × Int)) (x3 : ByteArray) (x4 : Int) : spec_FormatEntries.l5 n 0 x0 x3 x4 = none := by kernel_rfl
theorem spec_FormatEntries.l5_succ (n m5 : Nat) (x0 : List (Int × Int × Int × Int)) (x3 : ByteArray) (x4 : Int) : spec_FormatEntries.l5 n (m5 + 1) x0 x3 x4 = (if x4 < (↑(List.length x0) : Int) then (if 0 ≤ x4 then (if x4 < (↑(List.length x0) : Int) then ((spec_showEntry n (List.getD x0 (Int.toNat x4) (0, 0, 0, 0))).bind fun y1 => (if ByteArray.size x3 + ByteArray.size y1 ≤ Go.Refl.maxN then (if ByteArray.size (x3 ++ y1) + ByteArray.size { data := #[(10 : UInt8)] } ≤ Go.Refl.maxN then spec_FormatEntries.l5 n m5 (x0) (x3 ++ y1 ++ { data := #[(10 : UInt8)] }) (Go.RowKit.wrap64 (x4 + 1)) else none) else none)) else none) else none) else some (x3)) := by kernel_rfl
theorem spec_FormatEntries.call : Callable Tryd.prog 12 := ⟨Tryd.f12, Tryd.func12, by kernel_rfl, by kernel_rfl⟩
theorem spec_FormatEntries.ok (n : Nat) : FC Tryd.prog [] 12 { params := spec_FormatEntries.ps, res := spec_FormatEntries.res, run := spec_FormatEntries n } :=
  evalF_ok (C := spec_FormatEntries.C) ⟨tb_ok, fun n _ _ h => tabOk (l := [(43, { params := spec_validEntries.ps, res := spec_validEntries.res, run := spec_validEntries n }), (44, { params := spec_showEntry.ps, res := spec_showEntry.res, run := spec_showEntry n })]) (all_cons ⟨spec_validEntries.ok n, spec_validEntries.call⟩ (all_cons ⟨spec_showEntry.ok n, spec_showEntry.call⟩ (all_nil))) h, mixed, ar_ok, bld_ok⟩ spec_FormatEntries.A Tryd.func12 spec_FormatEntries.ps spec_FormatEntries.res n
end Go.Proofs.YtpgfkoeodhfkgaaDoorG
end
section
open Go Go.Refl Go.Proofs
set_option maxRecDepth 1000000
set_option maxHeartbeats 0
set_option linter.unusedVariables false
namespace Go.Proofs.YtpgfkoeodhfkgaaDoorG
abbrev laws_eqEntry.ps : List Pm := [.arg (.v (.pair (.int .i64) (.pair (.int .i64) (.pair (.int .i64) (.int .i64))))), .arg (.v (.pair (.int .i64) (.pair (.int .i64) (.pair (.int .i64) (.int .i64)))))]
abbrev laws_eqEntry.res : List M := [.v .bool]
noncomputable def laws_eqEntry.C : Cfg := { tb := tb, tab := fun n f => Refl.look [] f, gl := [], ar := ar, bld := bld }
noncomputable def laws_eqEntry.A : Ann := { joins := [], loops := [], ids := [], pids := [], nroots := 89 }
noncomputable def laws_eqEntry (n : Nat) (x : (Int × Int × Int × Int) × Int × Int × Int × Int) : Option (Bool) := evalF laws_eqEntry.C laws_eqEntry.A Tryd.f50 laws_eqEntry.ps laws_eqEntry.res n x
noncomputable def laws_eqEntry.K0 (_ : Nat) : Kont (Bool) := finK laws_eqEntry.C (Func.results Tryd.f50).toList laws_eqEntry.ps laws_eqEntry.res
theorem laws_eqEntry.eq (n : Nat) (x0 : Int × Int × Int × Int) (x1 : Int × Int × Int × Int) : laws_eqEntry n (x0, x1) = (if Prod.fst x0 = Prod.fst x1 then (if Prod.fst (Prod.snd x0) = Prod.fst (Prod.snd x1) then (if Prod.fst (Prod.snd (Prod.snd x0)) = Prod.fst (Prod.snd (Prod.snd x1)) then (if Prod.snd (Prod.snd (Prod.snd x0)) = Prod.snd (Prod.snd (Prod.snd x1)) then some (Bool.true) else some (Bool.false)) else some (Bool.false)) else some (Bool.false)) else some (Bool.false)) := by kernel_rfl
theorem laws_eqEntry.call : Callable Tryd.prog 50 := ⟨Tryd.f50, Tryd.func50, by kernel_rfl, by kernel_rfl⟩
theorem laws_eqEntry.ok (n : Nat) : FC Tryd.prog [] 50 { params := laws_eqEntry.ps, res := laws_eqEntry.res, run := laws_eqEntry n } :=
  evalF_ok (C := laws_eqEntry.C) ⟨tb_ok, fun n _ _ h => tabOk (l := []) (all_nil) h, mixed, ar_ok, bld_ok⟩ laws_eqEntry.A Tryd.func50 laws_eqEntry.ps laws_eqEntry.res n
end Go.Proofs.YtpgfkoeodhfkgaaDoorG
end
section
open Go Go.Refl Go.Proofs
set_option maxRecDepth 1000000
set_option maxHeartbeats 0
set_option linter.unusedVariables false
namespace Go.Proofs.YtpgfkoeodhfkgaaDoorG
abbrev laws_eqEntryS.ps : List Pm := [.arg (.v (.slice (.pair (.int .i64) (.pair (.int .i64) (.pair (.int .i64) (.int .i64)))))), .arg (.v (.slice (.pair (.int .i64) (.pair (.int .i64) (.pair (.int .i64) (.int .i64))))))]
abbrev laws_eqEntryS.res : List M := [.v .bool]
noncomputable def laws_eqEntryS.C : Cfg := { tb := tb, tab := fun n f => Refl.look [(50, { params := laws_eqEntry.ps, res := laws_eqEntry.res, run := laws_eqEntry n })] f, gl := [], ar := ar, bld := bld }
noncomputable def laws_eqEntryS.A : Ann := { joins := [], loops := [(4, { live := [0, 1, 5], base := 27 })], ids := [(6, [(25, [])])], pids := [], nroots := 91 }
noncomputable def laws_eqEntryS (n : Nat) (x : List (Int × Int × Int × Int) × List (Int × Int × Int × Int)) : Option (Bool) := evalF laws_eqEntryS.C laws_eqEntryS.A Tryd.f15 laws_eqEntryS.ps laws_eqEntryS.res n x
noncomputable def laws_eqEntryS.K0 (_ : Nat) : Kont (Bool) := finK laws_eqEntryS.C (Func.results Tryd.f15).toList laws_eqEntryS.ps laws_eqEntryS.res
noncomputable def laws_eqEntryS.K1 (n : Nat) : Kont (Bool) := seqK (fun s' k => evalC laws_eqEntryS.C laws_eqEntryS.A n (codeAt Tryd.f15 [1, 1, 1]) (cutAt laws_eqEntryS.A.joins (codeAt Tryd.f15 [1, 1, 1]) s') k) (laws_eqEntryS.K0 n)
noncomputable def laws_eqEntryS.K2 (n : Nat) : Kont (Bool) := blockK 0 (laws_eqEntryS.K1 n)
noncomputable def laws_eqEntryS.l4 (n m4 : Nat) (x0 : List (Int × Int × Int × Int)) (x1 : List (Int × Int × Int × Int)) (x5 : Int) : Option (Bool) := loopE (cutAt laws_eqEntryS.A.loops (codeAt Tryd.f15 [1, 1, 0, 1, 0, 0])) (fun s k => evalC laws_eqEntryS.C laws_eqEntryS.A n (codeAt Tryd.f15 [1, 1, 0, 1, 0, 0]) s k) m4 (St.of 27 91 [(0, .val (.slice (.pair (.int .i64) (.pair (.int .i64) (.pair (.int .i64) (.int .i64))))) x0), (1, .val (.slice (.pair (.int .i64) (.pair (.int .i64) (.pair (.int .i64) (.int .i64))))) x1), (5, .val (.int .i64) x5)] [] []) (laws_eqEntryS.K2 n)
theorem laws_eqEntryS.eq (n : Nat) (x0 : List (Int × Int × Int × Int)) (x1 : List (Int × Int × Int × Int)) : laws_eqEntryS n (x0, x1) = (if (↑(List.length x0) : Int) = (↑(List.length x1) : Int) then laws_eqEntryS.l4 n n (x0) (x1) (0) else some (Bool.false)) := by kernel_rfl
theorem laws_eqEntryS.l4_zero (n : Nat) (x0 : List (Int × Int × Int × Int)) (x1 : List (Int × Int × Int × Int)) (x5 : Int) : laws_eqEntryS.l4 n 0 x0 x1 x5 = none := by kernel_rfl
theorem laws_eqEntryS.l4_succ (n m4 : Nat) (x0 : List (Int × Int × Int × Int)) (x1 : List (Int × Int × Int × Int)) (x5 : Int) : laws_eqEntryS.l4 n (m4 + 1) x0 x1 x5 = (if x5 < (↑(List.length x0) : Int) then (if 0 ≤ x5 then (if x5 < (↑(List.length x0) : Int) then (if 0 ≤ x5 then (if x5 < (↑(List.length x1) : Int) then ((laws_eqEntry n (List.getD x0 (Int.toNat x5) (0, 0, 0, 0), List.getD x1 (Int.toNat x5) (0, 0, 0, 0))).bind fun y0 => (if (!y0) = true then some (Bool.false) else laws_eqEntryS.l4 n m4 (x0) (x1) (Go.RowKit.wrap64 (x5 + 1)))) else none) else none) else none) else none) else some (Bool.true)) := by kernel_rfl
theorem laws_eqEntryS.call : Callable Tryd.prog 15 := ⟨Tryd.f15, Tryd.func15, by kernel_rfl, by kernel_rfl⟩
theorem laws_eqEntryS.ok (n : Nat) : FC Tryd.prog [] 15 { params := laws_eqEntryS.ps, res := laws_eqEntryS.res, run := laws_eqEntryS n } :=
  evalF_ok (C := laws_eqEntryS.C) ⟨tb_ok, fun n _ _ h => tabOk (l := [(50, { params := laws_eqEntry.ps, res := laws_eqEntry.res, run := laws_eqEntry n })]) (all_cons ⟨laws_eqEntry.ok n, laws_eqEntry.call⟩ (all_nil)) h, mixed, ar_ok, bld_ok⟩ laws_eqEntryS.A Tryd.func15 laws_eqEntryS.ps laws_eqEntryS.res n
end Go.Proofs.YtpgfkoeodhfkgaaDoorG
end
section
open Go Go.Refl Go.Proofs
set_option maxRecDepth 1000000
set_option maxHeartbeats 0
set_option linter.unusedVariables false
namespace Go.Proofs.YtpgfkoeodhfkgaaDoorG
abbrev laws_FnExactFormatEntries.ps : List Pm := [.arg (.v (.slice (.pair (.int .i64) (.pair (.int .i64) (.pair (.int .i64) (.int .i64))))))]
abbrev laws_FnExactFormatEntries.res : List M := [.v .bool]
noncomputable def laws_FnExactFormatEntries.C : Cfg := { tb := tb, tab := fun n f => Refl.look [(11, { params := laws_szEntryS.ps, res := laws_szEntryS.res, run := laws_szEntryS n }), (13, { params := laws_toEntryS.ps, res := laws_toEntryS.res, run := laws_toEntryS n }), (12, { params := spec_FormatEntries.ps, res := spec_FormatEntries.res, run := spec_FormatEntries n }), (14, { params := impl_FormatEntries.ps, res := impl_FormatEntries.res, run := impl_FormatEntries n }), (15, { params := laws_eqEntryS.ps, res := laws_eqEntryS.res, run := laws_eqEntryS n })] f, gl := [g2], ar := ar, bld := bld }
noncomputable def laws_FnExactFormatEntries.A : Ann := { joins := [], loops := [], ids := [(2, [(9, [])]), (5, [(14, [])]), (7, [(18, [])]), (10, [(25, [])])], pids := [], nroots := 91 }
noncomputable def laws_FnExactFormatEntries (n : Nat) (x : List (Int × Int × Int × Int)) : Option (Bool) := evalF laws_FnExactFormatEntries.C laws_FnExactFormatEntries.A Tryd.f3 laws_FnExactFormatEntries.ps laws_FnExactFormatEntries.res n x
noncomputable def laws_FnExactFormatEntries.K0 (_ : Nat) : Kont (Bool) := finK laws_FnExactFormatEntries.C (Func.results Tryd.f3).toList laws_FnExactFormatEntries.ps laws_FnExactFormatEntries.res
theorem laws_FnExactFormatEntries.eq (n : Nat) (x0 : List (Int × Int × Int × Int)) : laws_FnExactFormatEntries n x0 = ((laws_szEntryS n (x0, 1048576)).bind fun y0 => (if y0 < 0 then some (Bool.true) else ((laws_toEntryS n x0).bind fun y1 => ((spec_FormatEntries n y1).bind fun y2 => ((laws_toEntryS n x0).bind fun y3 => ((impl_FormatEntries n y3).bind fun y4 => (if y4 = y2 then ((laws_toEntryS n x0).bind fun y5 => ((laws_eqEntryS n (y3, y5)).bind fun y6 => (if (!y6) = true then some (Bool.false) else some (Bool.true)))) else some (Bool.false)))))))) := by kernel_rfl
theorem laws_FnExactFormatEntries.call : Callable Tryd.prog 3 := ⟨Tryd.f3, Tryd.func3, by kernel_rfl, by kernel_rfl⟩
theorem laws_FnExactFormatEntries.ok (n : Nat) : FC Tryd.prog [g2] 3 { params := laws_FnExactFormatEntries.ps, res := laws_FnExactFormatEntries.res, run := laws_FnExactFormatEntries n } :=
  evalF_ok (C := laws_FnExactFormatEntries.C) ⟨tb_ok, fun n _ _ h => tabOk (l := [(11, { params := laws_szEntryS.ps, res := laws_szEntryS.res, run := laws_szEntryS n }), (13, { params := laws_toEntryS.ps, res := laws_toEntryS.res, run := laws_toEntryS n }), (12, { params := spec_FormatEntries.ps, res := spec_FormatEntries.res, run := spec_FormatEntries n }), (14, { params := impl_FormatEntries.ps, res := impl_FormatEntries.res, run := impl_FormatEntries n }), (15, { params := laws_eqEntryS.ps, res := laws_eqEntryS.res, run := laws_eqEntryS n })]) (all_cons ⟨(.mono (gl := []) (gl' := [g2]) (all_nil) (laws_szEntryS.ok n)), laws_szEntryS.call⟩ (all_cons ⟨(.mono (gl := []) (gl' := [g2]) (all_nil) (laws_toEntryS.ok n)), laws_toEntryS.call⟩ (all_cons ⟨(.mono (gl := []) (gl' := [g2]) (all_nil) (spec_FormatEntries.ok n)), spec_FormatEntries.call⟩ (all_cons ⟨impl_FormatEntries.ok n, impl_FormatEntries.call⟩ (all_cons ⟨(.mono (gl := []) (gl' := [g2]) (all_nil) (laws_eqEntryS.ok n)), laws_eqEntryS.call⟩ (all_nil)))))) h, mixed, ar_ok, bld_ok⟩ laws_FnExactFormatEntries.A Tryd.func3 laws_FnExactFormatEntries.ps laws_FnExactFormatEntries.res n
end Go.Proofs.YtpgfkoeodhfkgaaDoorG
end
