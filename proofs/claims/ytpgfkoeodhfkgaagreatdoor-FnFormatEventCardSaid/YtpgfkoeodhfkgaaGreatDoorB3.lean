import Derived.Test.YtpgfkoeodhfkgaaGreatDoorProg
import Derived.Test.YtpgfkoeodhfkgaaGreatDoorB2
/- FnFormatEvent: functions, gone through by the small machine. No condition. -/
set_option linter.unusedVariables false
set_option linter.unusedSimpArgs false
section
set_option linter.unusedVariables false
namespace Go.Proofs
open Go Go.Shelf Go.RowKit Go.Refl
set_option maxHeartbeats 2000000 in
set_option maxRecDepth 100000 in
theorem Tryz.cc : CcOk Tryz.prog 53 73 := by
 intro b p v w hbk hp
 have X1 : (Tryz.prog.info? 73).map (·.size) = some 2 := by kernel_rfl
 have X2 : liesAt Tryz.prog Tryz.prog.depth 73 (2 / Tryz.prog.cellsOf 73) 0 73 1 = true := by kernel_rfl
 obtain ⟨j, hj, hjs⟩ := Option.map_eq_some_iff.1 X1
 have u72 := run_underlying (P := Tryz.prog) Tryz.underlying73
 have u70 := run_underlying (P := Tryz.prog) Tryz.underlying71
 have u164 := run_underlying (P := Tryz.prog) Tryz.underlying105
 rcases hp with rfl | rfl
 ·have h0 : w.cell? ⟨b, 0, none⟩ = some (.pointer none) := by rw [Lib.cell_of_heap hbk]; rfl
  have hsh : w.shape? b = some (73, 2) := by simp [World.shape?, hbk]
  have hfz : w.frozen? ⟨b, 0, none⟩ = false := Lib.frozen_of_heap hbk 0
  suffices hs : Calls Tryz.prog 53 #[.pointer (some ⟨b, 0, none⟩)] w fun e w' => e = .returned (.tuple #[]) ∧ w' = w.setCell ⟨b, 0, none⟩ (.pointer (some ⟨b, 0, none⟩)) by
   refine hs.mono ?_
   rintro e w' ⟨rfl, rfl⟩
   exact ⟨rfl, by simp [World.setCell, Array.getElem?_modify, hbk], evol_set w b 0 _, by simp [World.setCell]⟩
  go_enter Tryz.func53, Tryz.ntmps53
  go_wp2
  rw [Lib.run_to_unsafe w ⟨b, 0, none⟩ Tryz.underlying71 Tryz.underlying105 hj (by rw [hjs]; decide) hsh (Nat.zero_lt_succ 1)]
  simp only [Result.andThen]
  rw [Oper.upon_value]
  go_wp2
  rw [run_callFunc_extern Tryz.func72 (by kernel_rfl) (by kernel_rfl) (by kernel_rfl) (e := Extern.AbiNoEscape.same) (by kernel_rfl)]
  rw [Lib.run_noEscape]
  simp only [Result.andThen]
  rw [Oper.upon_value]
  go_wp2
  rw [Lib.run_from_unsafe w ⟨b, 0, none⟩ Tryz.underlying105 Tryz.underlying71 hj hsh X2]
  simp only [Result.andThen]
  rw [Oper.upon_value]
  go_wp2
  go_end0
  exact ⟨rfl, rfl⟩
 ·have h0 : w.cell? ⟨b, 0, none⟩ = some (.pointer (some ⟨b, 0, none⟩)) := by rw [Lib.cell_of_heap hbk]; rfl
  suffices hs : Calls Tryz.prog 53 #[.pointer (some ⟨b, 0, none⟩)] w fun e w' => e = .returned (.tuple #[]) ∧ w' = w by
   refine hs.mono ?_
   rintro e w' ⟨rfl, rfl⟩
   exact ⟨rfl, hbk, ⟨rfl, rfl, rfl, Nat.le_refl _, fun _ _ _ => rfl⟩, rfl⟩
  go_enter Tryz.func53, Tryz.ntmps53
  go_wp2
  rw [Lib.run_neq_ptr_same w _ Tryz.underlying71 hj]
  go_wp2
  go_end0
  exact ⟨rfl, rfl⟩
def Tryz.lays169_ren : Go.Shelf.Ren := ⟨fun | 169 => 41 | n => n, fun | 70 => 71 | 9 => 9 | 0 => 0 | 72 => 73 | 37 => 22 | 127 => 88 | 3 => 3 | 5 => 5 | n => n, fun | n => n⟩
theorem Tryz.lays169 : Go.Proofs.Lays.n169 Tryz.prog Tryz.lays169_ren := {
 mixed := by kernel_rfl
 f169 := Tryz.func41.trans (congrArg some (by kernel_rfl))
 t0 := Tryz.underlying0
 a0 := Tryz.isAgg0
 z0 := Tryz.sizeOf0
 v0 := Tryz.zeroValue0
 t3 := Tryz.underlying3
 a3 := Tryz.isAgg3
 z3 := Tryz.sizeOf3
 v3 := Tryz.zeroValue3
 t9 := Tryz.underlying9
 a9 := Tryz.isAgg9
 z9 := Tryz.sizeOf9
 v9 := Tryz.zeroValue9
 t37 := Tryz.underlying22
 a37 := Tryz.isAgg22
 z37 := Tryz.sizeOf22
 v37 := Tryz.zeroValue22
 t70 := Tryz.underlying71
 a70 := Tryz.isAgg71
 z70 := Tryz.sizeOf71
 v70 := Tryz.zeroValue71
 t72 := Tryz.underlying73
 a72 := Tryz.isAgg73
 z72 := Tryz.sizeOf73
 v72 := Tryz.zeroValue73
 t127 := Tryz.underlying88
 a127 := Tryz.isAgg88
 z127 := Tryz.sizeOf88
 v127 := Tryz.zeroValue88 }
theorem Tryz.Builder_Extra_169 : Builder.Extra Tryz.prog Tryz.lays169_ren := {
 sizeBuilder := by kernel_rfl
 liesBuilder := by kernel_rfl
 t5 := Tryz.underlying5
 a5 := Tryz.isAgg5
 z5 := Tryz.sizeOf5
 v5 := Tryz.zeroValue5
 infoByte := by kernel_rfl
 cellsByte := by kernel_rfl
 sizeByte := by kernel_rfl
 neB5 := by decide }
def Tryz.laysM171_ren : Go.Shelf.Ren := ⟨fun | 171 => 19 | 243 => 39 | 246 => 52 | 283 => 68 | 284 => 69 | 285 => 70 | 286 => 71 | 129 => 89 | 317 => 88 | 318 => 90 | 319 => 91 | 320 => 92 | 337 => 101 | 338 => 102 | n => n, fun | 3 => 3 | 9 => 9 | 2 => 2 | 4 => 4 | 171 => 99 | 0 => 0 | 53 => 100 | 37 => 22 | 5 => 5 | 173 => 103 | 212 => 121 | 51 => 122 | 20 => 20 | 213 => 123 | 46 => 107 | 232 => 147 | 233 => 148 | n => n, fun | 17 => 2 | 18 => 7 | 19 => 8 | n => n⟩
theorem Tryz.laysM171 : Go.Proofs.LaysM.n171 Tryz.prog Tryz.laysM171_ren := {
 mixed := by kernel_rfl
 f129 := Tryz.func89.trans (congrArg some (by kernel_rfl))
 f171 := Tryz.func19.trans (congrArg some (by kernel_rfl))
 f243 := Tryz.func39.trans (congrArg some (by kernel_rfl))
 f246 := Tryz.func52.trans (congrArg some (by kernel_rfl))
 f283 := Tryz.func68.trans (congrArg some (by kernel_rfl))
 f284 := Tryz.func69.trans (congrArg some (by kernel_rfl))
 f285 := Tryz.func70.trans (congrArg some (by kernel_rfl))
 f286 := Tryz.func71.trans (congrArg some (by kernel_rfl))
 f317 := Tryz.func88.trans (congrArg some (by kernel_rfl))
 f318 := Tryz.func90.trans (congrArg some (by kernel_rfl))
 f319 := Tryz.func91.trans (congrArg some (by kernel_rfl))
 f320 := Tryz.func92.trans (congrArg some (by kernel_rfl))
 f337 := Tryz.func101.trans (congrArg some (by kernel_rfl))
 f338 := Tryz.func102.trans (congrArg some (by kernel_rfl))
 t0 := Tryz.underlying0
 a0 := Tryz.isAgg0
 z0 := Tryz.sizeOf0
 v0 := Tryz.zeroValue0
 t2 := Tryz.underlying2
 a2 := Tryz.isAgg2
 z2 := Tryz.sizeOf2
 v2 := Tryz.zeroValue2
 t3 := Tryz.underlying3
 a3 := Tryz.isAgg3
 z3 := Tryz.sizeOf3
 v3 := Tryz.zeroValue3
 t4 := Tryz.underlying4
 a4 := Tryz.isAgg4
 z4 := Tryz.sizeOf4
 v4 := Tryz.zeroValue4
 t5 := Tryz.underlying5
 a5 := Tryz.isAgg5
 z5 := Tryz.sizeOf5
 v5 := Tryz.zeroValue5
 t9 := Tryz.underlying9
 a9 := Tryz.isAgg9
 z9 := Tryz.sizeOf9
 v9 := Tryz.zeroValue9
 t20 := Tryz.underlying20
 a20 := Tryz.isAgg20
 z20 := Tryz.sizeOf20
 v20 := Tryz.zeroValue20
 t37 := Tryz.underlying22
 a37 := Tryz.isAgg22
 z37 := Tryz.sizeOf22
 v37 := Tryz.zeroValue22
 t46 := Tryz.underlying107
 a46 := Tryz.isAgg107
 z46 := Tryz.sizeOf107
 v46 := Tryz.zeroValue107
 t51 := Tryz.underlying122
 a51 := Tryz.isAgg122
 z51 := Tryz.sizeOf122
 v51 := Tryz.zeroValue122
 t53 := Tryz.underlying100
 a53 := Tryz.isAgg100
 z53 := Tryz.sizeOf100
 v53 := Tryz.zeroValue100
 t171 := Tryz.underlying99
 a171 := Tryz.isAgg99
 z171 := Tryz.sizeOf99
 v171 := Tryz.zeroValue99
 t173 := Tryz.underlying103
 a173 := Tryz.isAgg103
 z173 := Tryz.sizeOf103
 v173 := Tryz.zeroValue103
 t212 := Tryz.underlying121
 a212 := Tryz.isAgg121
 z212 := Tryz.sizeOf121
 v212 := Tryz.zeroValue121
 t213 := Tryz.underlying123
 a213 := Tryz.isAgg123
 z213 := Tryz.sizeOf123
 t232 := Tryz.underlying147
 a232 := Tryz.isAgg147
 z232 := Tryz.sizeOf147
 v232 := Tryz.zeroValue147
 t233 := Tryz.underlying148
 a233 := Tryz.isAgg148
 z233 := Tryz.sizeOf148
 v233 := Tryz.zeroValue148
 g17 := by kernel_rfl
 g18 := by kernel_rfl
 g19 := by kernel_rfl
 i0 := by kernel_rfl
 i2 := by kernel_rfl
 i3 := by kernel_rfl
 i4 := by kernel_rfl
 i5 := by kernel_rfl
 i9 := by kernel_rfl
 i20 := by kernel_rfl
 i37 := by kernel_rfl
 i46 := by kernel_rfl
 i51 := by kernel_rfl
 i53 := by kernel_rfl
 i171 := by kernel_rfl
 i173 := by kernel_rfl
 i212 := by kernel_rfl
 i232 := by kernel_rfl
 i233 := by kernel_rfl
 m17 := by kernel_rfl
 m18 := by kernel_rfl
 m19 := by kernel_rfl }
def Tryz.lays143_ren : Go.Shelf.Ren := ⟨fun | 143 => 45 | 219 => 57 | 217 => 74 | 225 => 75 | 224 => 76 | 267 => 77 | 266 => 93 | 314 => 94 | n => n, fun | 9 => 9 | 3 => 3 | 4 => 4 | 5 => 5 | 46 => 107 | 146 => 129 | 51 => 122 | n => n, fun | 1 => 1 | n => n⟩
theorem Tryz.lays143 : Go.Proofs.Lays.n143 Tryz.prog Tryz.lays143_ren := {
 mixed := by kernel_rfl
 f143 := Tryz.func45.trans (congrArg some (by kernel_rfl))
 f217 := Tryz.func74.trans (congrArg some (by kernel_rfl))
 f219 := Tryz.func57.trans (congrArg some (by kernel_rfl))
 f224 := Tryz.func76.trans (congrArg some (by kernel_rfl))
 f225 := Tryz.func75.trans (congrArg some (by kernel_rfl))
 f266 := Tryz.func93.trans (congrArg some (by kernel_rfl))
 f267 := Tryz.func77.trans (congrArg some (by kernel_rfl))
 f314 := Tryz.func94.trans (congrArg some (by kernel_rfl))
 t3 := Tryz.underlying3
 a3 := Tryz.isAgg3
 z3 := Tryz.sizeOf3
 v3 := Tryz.zeroValue3
 t4 := Tryz.underlying4
 a4 := Tryz.isAgg4
 z4 := Tryz.sizeOf4
 v4 := Tryz.zeroValue4
 t5 := Tryz.underlying5
 a5 := Tryz.isAgg5
 z5 := Tryz.sizeOf5
 v5 := Tryz.zeroValue5
 t9 := Tryz.underlying9
 a9 := Tryz.isAgg9
 z9 := Tryz.sizeOf9
 v9 := Tryz.zeroValue9
 t46 := Tryz.underlying107
 a46 := Tryz.isAgg107
 z46 := Tryz.sizeOf107
 v46 := Tryz.zeroValue107
 t51 := Tryz.underlying122
 a51 := Tryz.isAgg122
 z51 := Tryz.sizeOf122
 v51 := Tryz.zeroValue122
 t146 := Tryz.underlying129
 a146 := Tryz.isAgg129
 z146 := Tryz.sizeOf129
 v146 := Tryz.zeroValue129
 g1 := by kernel_rfl }
def Tryz.lays219_ren : Go.Shelf.Ren := ⟨fun | 219 => 57 | 217 => 74 | 225 => 75 | 224 => 76 | 267 => 77 | 266 => 93 | 314 => 94 | n => n, fun | 9 => 9 | 3 => 3 | 4 => 4 | 5 => 5 | 46 => 107 | 146 => 129 | 51 => 122 | n => n, fun | 1 => 1 | n => n⟩
def Tryz.lays138_ren : Go.Shelf.Ren := ⟨fun | 138 => 44 | 195 => 54 | 218 => 56 | 143 => 45 | 219 => 57 | 217 => 74 | 225 => 75 | 224 => 76 | 267 => 77 | 266 => 93 | 314 => 94 | n => n, fun | 9 => 9 | 3 => 3 | 4 => 4 | 5 => 5 | 0 => 0 | 46 => 107 | 146 => 129 | 51 => 122 | n => n, fun | 1 => 1 | n => n⟩
theorem Tryz.lays138 : Go.Proofs.Lays.n138 Tryz.prog Tryz.lays138_ren := {
 mixed := by kernel_rfl
 f138 := Tryz.func44.trans (congrArg some (by kernel_rfl))
 f143 := Tryz.func45.trans (congrArg some (by kernel_rfl))
 f195 := Tryz.func54.trans (congrArg some (by kernel_rfl))
 f217 := Tryz.func74.trans (congrArg some (by kernel_rfl))
 f218 := Tryz.func56.trans (congrArg some (by kernel_rfl))
 f219 := Tryz.func57.trans (congrArg some (by kernel_rfl))
 f224 := Tryz.func76.trans (congrArg some (by kernel_rfl))
 f225 := Tryz.func75.trans (congrArg some (by kernel_rfl))
 f266 := Tryz.func93.trans (congrArg some (by kernel_rfl))
 f267 := Tryz.func77.trans (congrArg some (by kernel_rfl))
 f314 := Tryz.func94.trans (congrArg some (by kernel_rfl))
 t0 := Tryz.underlying0
 a0 := Tryz.isAgg0
 z0 := Tryz.sizeOf0
 v0 := Tryz.zeroValue0
 t3 := Tryz.underlying3
 a3 := Tryz.isAgg3
 z3 := Tryz.sizeOf3
 v3 := Tryz.zeroValue3
 t4 := Tryz.underlying4
 a4 := Tryz.isAgg4
 z4 := Tryz.sizeOf4
 v4 := Tryz.zeroValue4
 t5 := Tryz.underlying5
 a5 := Tryz.isAgg5
 z5 := Tryz.sizeOf5
 v5 := Tryz.zeroValue5
 t9 := Tryz.underlying9
 a9 := Tryz.isAgg9
 z9 := Tryz.sizeOf9
 v9 := Tryz.zeroValue9
 t46 := Tryz.underlying107
 a46 := Tryz.isAgg107
 z46 := Tryz.sizeOf107
 v46 := Tryz.zeroValue107
 t51 := Tryz.underlying122
 a51 := Tryz.isAgg122
 z51 := Tryz.sizeOf122
 v51 := Tryz.zeroValue122
 t146 := Tryz.underlying129
 a146 := Tryz.isAgg129
 z146 := Tryz.sizeOf129
 v146 := Tryz.zeroValue129
 g1 := by kernel_rfl }
def Tryz.laysC172_ren : Go.Shelf.Ren := ⟨fun | 172 => 46 | 244 => 58 | 245 => 59 | 247 => 78 | 279 => 79 | 280 => 80 | 281 => 81 | 282 => 82 | 287 => 95 | 316 => 96 | 171 => 19 | 205 => 97 | 321 => 103 | 322 => 104 | 243 => 39 | 246 => 52 | 283 => 68 | 284 => 69 | 285 => 70 | 286 => 71 | 129 => 89 | 317 => 88 | 318 => 90 | 319 => 91 | 320 => 92 | 337 => 101 | 338 => 102 | n => n, fun | 9 => 9 | 3 => 3 | 75 => 75 | 76 => 76 | 4 => 4 | 5 => 5 | 167 => 108 | 37 => 22 | 0 => 0 | 85 => 109 | 2 => 2 | 168 => 111 | 53 => 100 | 175 => 131 | 46 => 107 | 210 => 135 | 127 => 88 | 145 => 145 | 143 => 143 | 21 => 21 | 171 => 99 | 173 => 103 | 212 => 121 | 51 => 122 | 20 => 20 | 213 => 123 | 232 => 147 | 233 => 148 | 80 => 78 | n => n, fun | 15 => 5 | 16 => 6 | 17 => 2 | 18 => 7 | 19 => 8 | n => n⟩
theorem Tryz.laysC172 : Go.Proofs.LaysC.n172 Tryz.prog Tryz.laysC172_ren := {
 mixed := by kernel_rfl
 f129 := Tryz.func89.trans (congrArg some (by kernel_rfl))
 f171 := Tryz.func19.trans (congrArg some (by kernel_rfl))
 f172 := Tryz.func46.trans (congrArg some (by kernel_rfl))
 f205 := Tryz.func97.trans (congrArg some (by kernel_rfl))
 f243 := Tryz.func39.trans (congrArg some (by kernel_rfl))
 f244 := Tryz.func58.trans (congrArg some (by kernel_rfl))
 f245 := Tryz.func59.trans (congrArg some (by kernel_rfl))
 f246 := Tryz.func52.trans (congrArg some (by kernel_rfl))
 f247 := Tryz.func78.trans (congrArg some (by kernel_rfl))
 f279 := Tryz.func79.trans (congrArg some (by kernel_rfl))
 f280 := Tryz.func80.trans (congrArg some (by kernel_rfl))
 f281 := Tryz.func81.trans (congrArg some (by kernel_rfl))
 f282 := Tryz.func82.trans (congrArg some (by kernel_rfl))
 f283 := Tryz.func68.trans (congrArg some (by kernel_rfl))
 f284 := Tryz.func69.trans (congrArg some (by kernel_rfl))
 f285 := Tryz.func70.trans (congrArg some (by kernel_rfl))
 f286 := Tryz.func71.trans (congrArg some (by kernel_rfl))
 f287 := Tryz.func95.trans (congrArg some (by kernel_rfl))
 f316 := Tryz.func96.trans (congrArg some (by kernel_rfl))
 f317 := Tryz.func88.trans (congrArg some (by kernel_rfl))
 f318 := Tryz.func90.trans (congrArg some (by kernel_rfl))
 f319 := Tryz.func91.trans (congrArg some (by kernel_rfl))
 f320 := Tryz.func92.trans (congrArg some (by kernel_rfl))
 f321 := Tryz.func103.trans (congrArg some (by kernel_rfl))
 f322 := Tryz.func104.trans (congrArg some (by kernel_rfl))
 f337 := Tryz.func101.trans (congrArg some (by kernel_rfl))
 f338 := Tryz.func102.trans (congrArg some (by kernel_rfl))
 t0 := Tryz.underlying0
 a0 := Tryz.isAgg0
 z0 := Tryz.sizeOf0
 v0 := Tryz.zeroValue0
 t2 := Tryz.underlying2
 a2 := Tryz.isAgg2
 z2 := Tryz.sizeOf2
 v2 := Tryz.zeroValue2
 t3 := Tryz.underlying3
 a3 := Tryz.isAgg3
 z3 := Tryz.sizeOf3
 v3 := Tryz.zeroValue3
 t4 := Tryz.underlying4
 a4 := Tryz.isAgg4
 z4 := Tryz.sizeOf4
 v4 := Tryz.zeroValue4
 t5 := Tryz.underlying5
 a5 := Tryz.isAgg5
 z5 := Tryz.sizeOf5
 v5 := Tryz.zeroValue5
 t9 := Tryz.underlying9
 a9 := Tryz.isAgg9
 z9 := Tryz.sizeOf9
 v9 := Tryz.zeroValue9
 t20 := Tryz.underlying20
 a20 := Tryz.isAgg20
 z20 := Tryz.sizeOf20
 v20 := Tryz.zeroValue20
 t21 := Tryz.underlying21
 a21 := Tryz.isAgg21
 z21 := Tryz.sizeOf21
 v21 := Tryz.zeroValue21
 t37 := Tryz.underlying22
 a37 := Tryz.isAgg22
 z37 := Tryz.sizeOf22
 v37 := Tryz.zeroValue22
 t46 := Tryz.underlying107
 a46 := Tryz.isAgg107
 z46 := Tryz.sizeOf107
 v46 := Tryz.zeroValue107
 t51 := Tryz.underlying122
 a51 := Tryz.isAgg122
 z51 := Tryz.sizeOf122
 v51 := Tryz.zeroValue122
 t53 := Tryz.underlying100
 a53 := Tryz.isAgg100
 z53 := Tryz.sizeOf100
 v53 := Tryz.zeroValue100
 t75 := Tryz.underlying75
 a75 := Tryz.isAgg75
 z75 := Tryz.sizeOf75
 v75 := Tryz.zeroValue75
 t76 := Tryz.underlying76
 a76 := Tryz.isAgg76
 z76 := Tryz.sizeOf76
 v76 := Tryz.zeroValue76
 t85 := Tryz.underlying109
 a85 := Tryz.isAgg109
 z85 := Tryz.sizeOf109
 v85 := Tryz.zeroValue109
 t127 := Tryz.underlying88
 a127 := Tryz.isAgg88
 z127 := Tryz.sizeOf88
 v127 := Tryz.zeroValue88
 t143 := Tryz.underlying143
 a143 := Tryz.isAgg143
 z143 := Tryz.sizeOf143
 v143 := Tryz.zeroValue143
 t145 := Tryz.underlying145
 a145 := Tryz.isAgg145
 z145 := Tryz.sizeOf145
 v145 := Tryz.zeroValue145
 t167 := Tryz.underlying108
 a167 := Tryz.isAgg108
 z167 := Tryz.sizeOf108
 v167 := Tryz.zeroValue108
 t168 := Tryz.underlying111
 a168 := Tryz.isAgg111
 z168 := Tryz.sizeOf111
 v168 := Tryz.zeroValue111
 t171 := Tryz.underlying99
 a171 := Tryz.isAgg99
 z171 := Tryz.sizeOf99
 v171 := Tryz.zeroValue99
 t173 := Tryz.underlying103
 a173 := Tryz.isAgg103
 z173 := Tryz.sizeOf103
 v173 := Tryz.zeroValue103
 t175 := Tryz.underlying131
 a175 := Tryz.isAgg131
 z175 := Tryz.sizeOf131
 v175 := Tryz.zeroValue131
 t210 := Tryz.underlying135
 a210 := Tryz.isAgg135
 z210 := Tryz.sizeOf135
 v210 := Tryz.zeroValue135
 t212 := Tryz.underlying121
 a212 := Tryz.isAgg121
 z212 := Tryz.sizeOf121
 v212 := Tryz.zeroValue121
 t213 := Tryz.underlying123
 a213 := Tryz.isAgg123
 z213 := Tryz.sizeOf123
 t232 := Tryz.underlying147
 a232 := Tryz.isAgg147
 z232 := Tryz.sizeOf147
 v232 := Tryz.zeroValue147
 t233 := Tryz.underlying148
 a233 := Tryz.isAgg148
 z233 := Tryz.sizeOf148
 v233 := Tryz.zeroValue148
 g15 := by kernel_rfl
 g16 := by kernel_rfl
 g17 := by kernel_rfl
 g18 := by kernel_rfl
 g19 := by kernel_rfl
 t80 := Tryz.underlying78
 a80 := Tryz.isAgg78
 z80 := Tryz.sizeOf78
 v80 := Tryz.zeroValue78
 i0 := by kernel_rfl
 i2 := by kernel_rfl
 i3 := by kernel_rfl
 i4 := by kernel_rfl
 i5 := by kernel_rfl
 i9 := by kernel_rfl
 i20 := by kernel_rfl
 i21 := by kernel_rfl
 i37 := by kernel_rfl
 i46 := by kernel_rfl
 i51 := by kernel_rfl
 i53 := by kernel_rfl
 i75 := by kernel_rfl
 i76 := by kernel_rfl
 i80 := by kernel_rfl
 i85 := by kernel_rfl
 i127 := by kernel_rfl
 i143 := by kernel_rfl
 i145 := by kernel_rfl
 i167 := by kernel_rfl
 i168 := by kernel_rfl
 i171 := by kernel_rfl
 i173 := by kernel_rfl
 i175 := by kernel_rfl
 i210 := by kernel_rfl
 i212 := by kernel_rfl
 i232 := by kernel_rfl
 i233 := by kernel_rfl
 m15 := by kernel_rfl
 m16 := by kernel_rfl
 m17 := by kernel_rfl
 m18 := by kernel_rfl
 m19 := by kernel_rfl
 c0 := by kernel_rfl
 c2 := by kernel_rfl
 c3 := by kernel_rfl
 c4 := by kernel_rfl
 c5 := by kernel_rfl
 c9 := by kernel_rfl
 c20 := by kernel_rfl
 c21 := by kernel_rfl
 c37 := by kernel_rfl
 c46 := by kernel_rfl
 c51 := by kernel_rfl
 c53 := by kernel_rfl
 c75 := by kernel_rfl
 c76 := by kernel_rfl
 c80 := by kernel_rfl
 c85 := by kernel_rfl
 c127 := by kernel_rfl
 c143 := by kernel_rfl
 c145 := by kernel_rfl
 c167 := by kernel_rfl
 c168 := by kernel_rfl
 c171 := by kernel_rfl
 c173 := by kernel_rfl
 c175 := by kernel_rfl
 c210 := by kernel_rfl
 c212 := by kernel_rfl
 c213 := by kernel_rfl
 c232 := by kernel_rfl
 c233 := by kernel_rfl }
def Tryz.ws_ren : Go.Shelf.Ren := ⟨fun | 166 => 40 | 240 => 53 | n => n, fun | 70 => 71 | 9 => 9 | 0 => 0 | 72 => 73 | 37 => 22 | 127 => 88 | 3 => 3 | 5 => 5 | 75 => 75 | n => n, fun | n => n⟩
theorem Tryz.wsL : WsL Tryz.prog Tryz.ws_ren := {
 mixed := by kernel_rfl
 f166 := Tryz.func40.trans (congrArg some (by kernel_rfl))
 e240 := enters_of Tryz.func53 (by kernel_rfl) rfl
 cc := Tryz.cc
 t0 := Tryz.underlying0
 a0 := Tryz.isAgg0
 z0 := Tryz.sizeOf0
 v0 := Tryz.zeroValue0
 t3 := Tryz.underlying3
 a3 := Tryz.isAgg3
 z3 := Tryz.sizeOf3
 v3 := Tryz.zeroValue3
 t9 := Tryz.underlying9
 a9 := Tryz.isAgg9
 z9 := Tryz.sizeOf9
 v9 := Tryz.zeroValue9
 t37 := Tryz.underlying22
 a37 := Tryz.isAgg22
 z37 := Tryz.sizeOf22
 v37 := Tryz.zeroValue22
 t70 := Tryz.underlying71
 a70 := Tryz.isAgg71
 z70 := Tryz.sizeOf71
 v70 := Tryz.zeroValue71
 t72 := Tryz.underlying73
 a72 := Tryz.isAgg73
 z72 := Tryz.sizeOf73
 v72 := Tryz.zeroValue73 }
theorem Tryz.wsX : Builder.Extra Tryz.prog Tryz.ws_ren := {
 sizeBuilder := by kernel_rfl
 liesBuilder := by kernel_rfl
 t5 := Tryz.underlying5
 a5 := Tryz.isAgg5
 z5 := Tryz.sizeOf5
 v5 := Tryz.zeroValue5
 infoByte := by kernel_rfl
 cellsByte := by kernel_rfl
 sizeByte := by kernel_rfl
 neB5 := by decide }
end Go.Proofs
end
section
open Go Go.Refl Go.Proofs
set_option maxRecDepth 1000000
set_option maxHeartbeats 0
set_option linter.unusedVariables false
namespace Go.Proofs.YtpgfkoeodhfkgaaGreatDoorG
noncomputable def ar : List (Nat × AI) := [(40, { n := 8, E := 9, e := .str }), (99, { n := 24, E := 5, e := (.int .u8) }), (121, { n := 20, E := 100, e := (.int .u64) }), (147, { n := 32, E := 5, e := (.int .u8) }), (148, { n := 64, E := 5, e := (.int .u8) })]
noncomputable def bld : List (Nat × Nat) := [(72, 5), (73, 5)]
theorem ar40 : AOk Tryz.prog 40 { n := 8, E := 9, e := .str } := .of (by kernel_rfl) (by kernel_rfl) (by kernel_rfl) (by kernel_rfl) rfl
theorem ar99 : AOk Tryz.prog 99 { n := 24, E := 5, e := (.int .u8) } := .of (by kernel_rfl) (by kernel_rfl) (by kernel_rfl) (by kernel_rfl) rfl
theorem ar121 : AOk Tryz.prog 121 { n := 20, E := 100, e := (.int .u64) } := .of (by kernel_rfl) (by kernel_rfl) (by kernel_rfl) (by kernel_rfl) rfl
theorem ar147 : AOk Tryz.prog 147 { n := 32, E := 5, e := (.int .u8) } := .of (by kernel_rfl) (by kernel_rfl) (by kernel_rfl) (by kernel_rfl) rfl
theorem ar148 : AOk Tryz.prog 148 { n := 64, E := 5, e := (.int .u8) } := .of (by kernel_rfl) (by kernel_rfl) (by kernel_rfl) (by kernel_rfl) rfl
theorem bld72 : BOk Tryz.prog 72 := .of (by kernel_rfl) (by kernel_rfl)
theorem bld73 : BOk Tryz.prog 73 := .of (by kernel_rfl) (by kernel_rfl)
theorem ar_ok : ∀ T ai, Refl.look ar T = some ai → AOk Tryz.prog T ai := arOk (all_cons ar40 (all_cons ar99 (all_cons ar121 (all_cons ar147 (all_cons ar148 (all_nil))))))
theorem bld_ok : ∀ T E, Refl.look bld T = some E → BOk Tryz.prog T := bldOk (all_cons bld72 (all_cons bld73 (all_nil)))
noncomputable def pts : List Nat := [15, 16, 17, 44, 71, 88, 111, 143]
theorem pts_ok : ∀ T, pts.contains T = true → ∃ e, Tryz.prog.underlying T = some (.pointer e) := fun T h => ptsOk (all_cons ⟨150, by kernel_rfl⟩ (all_cons ⟨153, by kernel_rfl⟩ (all_cons ⟨161, by kernel_rfl⟩ (all_cons ⟨61, by kernel_rfl⟩ (all_cons ⟨73, by kernel_rfl⟩ (all_cons ⟨5, by kernel_rfl⟩ (all_cons ⟨135, by kernel_rfl⟩ (all_cons ⟨145, by kernel_rfl⟩ (all_nil))))))))) (List.contains_iff_mem.1 h)
noncomputable def g0 : Nat × GItem := (0, .row ⟨.str, [⟨#[106, 111, 105, 110]⟩, ⟨#[115, 97, 118, 101]⟩, ⟨#[116, 97, 107, 101]⟩, ⟨#[108, 101, 110, 100]⟩, ⟨#[114, 101, 112, 97, 121]⟩, ⟨#[102, 97, 105, 108]⟩, ⟨#[110, 105, 103, 104, 116]⟩, ⟨#[115, 104, 97, 114, 101]⟩]⟩)
noncomputable def g2 : Nat × GItem := (2, .row ⟨.int .u64, Lib.pow10Tab⟩)
noncomputable def g5 : Nat × GItem := (5, .iface)
noncomputable def g6 : Nat × GItem := (6, .iface)
noncomputable def tb : List (Nat × TI) := [(2, { ty := (.int .i64), eqOk := true }),
  (3, { ty := (.int .i64), eqOk := true }),
  (4, { ty := .bool, eqOk := true }),
  (5, { ty := (.int .u8), eqOk := true }),
  (6, { ty := (.int .u8), eqOk := true }),
  (7, { ty := (.pair (.int .i64) (.pair (.int .i64) (.pair .bool (.int .u8)))), offs := [0, 1, 2, 3], szs := [1, 1, 1, 1], eqOk := true }),
  (8, { ty := (.pair (.int .i64) (.pair (.int .i64) (.pair .bool (.int .u8)))), offs := [0, 1, 2, 3], szs := [1, 1, 1, 1], eqOk := true }),
  (9, { ty := .str, eqOk := true }),
  (10, { ty := .str, eqOk := true }),
  (11, { ty := .str, eqOk := true }),
  (12, { ty := (.int .u64), eqOk := true }),
  (13, { ty := (.pair .str (.int .u64)), offs := [0, 1], szs := [1, 1] }),
  (14, { ty := (.pair .str (.int .u64)), offs := [0, 1], szs := [1, 1] }),
  (21, { ty := (.int .i32), eqOk := true }),
  (22, { ty := (.slice (.int .u8)), elem := 5 }),
  (23, { ty := (.slice (.int .i64)), elem := 3 }),
  (24, { ty := (.pair (.int .i64) (.int .i64)), offs := [0, 1], szs := [1, 1], eqOk := true }),
  (25, { ty := (.pair (.int .i64) (.int .i64)), offs := [0, 1], szs := [1, 1], eqOk := true }),
  (26, { ty := (.pair (.int .i64) (.pair (.int .i64) (.pair (.int .i64) (.pair (.int .i64) (.pair (.slice (.int .i64)) (.pair (.int .i64) (.int .i64))))))), offs := [0, 1, 2, 3, 4, 5], szs := [1, 1, 1, 1, 1, 2] }),
  (27, { ty := (.pair (.int .i64) (.pair (.int .i64) (.pair (.int .i64) (.pair (.int .i64) (.pair (.slice (.int .i64)) (.pair (.int .i64) (.int .i64))))))), offs := [0, 1, 2, 3, 4, 5], szs := [1, 1, 1, 1, 1, 2] }),
  (33, { ty := (.slice (.pair (.int .i64) (.pair (.int .i64) (.slice (.int .i64))))), elem := 69 }),
  (34, { ty := (.pair (.slice (.int .i64)) (.pair (.slice (.pair (.int .i64) (.pair (.int .i64) (.slice (.int .i64))))) (.pair (.int .i64) (.pair (.int .i64) (.int .i64))))), offs := [0, 1, 2, 3, 4], szs := [1, 1, 1, 1, 1] }),
  (35, { ty := (.pair (.slice (.int .i64)) (.pair (.slice (.pair (.int .i64) (.pair (.int .i64) (.slice (.int .i64))))) (.pair (.int .i64) (.pair (.int .i64) (.int .i64))))), offs := [0, 1, 2, 3, 4], szs := [1, 1, 1, 1, 1] }),
  (41, { ty := (.slice .str), elem := 9 }),
  (60, { ty := (.pair (.slice (.int .u8)) (.int .i64)), offs := [0, 1], szs := [1, 1] }),
  (61, { ty := (.pair (.slice (.int .u8)) (.int .i64)), offs := [0, 1], szs := [1, 1] }),
  (62, { ty := (.slice (.pair (.int .i64) (.pair (.int .i64) (.pair (.int .i64) (.pair (.int .i64) (.pair (.slice (.int .i64)) (.pair (.int .i64) (.int .i64)))))))), elem := 27 }),
  (68, { ty := (.pair (.int .i64) (.pair (.int .i64) (.slice (.int .i64)))), offs := [0, 1, 2], szs := [1, 1, 1] }),
  (69, { ty := (.pair (.int .i64) (.pair (.int .i64) (.slice (.int .i64)))), offs := [0, 1, 2], szs := [1, 1, 1] }),
  (74, { ty := .err }),
  (75, { ty := .err }),
  (100, { ty := (.int .u64), eqOk := true }),
  (107, { ty := (.int .u64), eqOk := true }),
  (108, { ty := (.int .i64), eqOk := true, cmp := true }),
  (122, { ty := (.int .u32), eqOk := true }),
  (126, { ty := (.pair (.int .u8) (.int .u8)), offs := [0, 1], szs := [1, 1], eqOk := true }),
  (127, { ty := (.pair (.int .u8) (.int .u8)), offs := [0, 1], szs := [1, 1], eqOk := true }),
  (134, { ty := (.pair .str (.pair .str .err)), offs := [0, 1, 2], szs := [1, 1, 1] }),
  (135, { ty := (.pair .str (.pair .str .err)), offs := [0, 1, 2], szs := [1, 1, 1] }),
  (138, { ty := (.slice .bool), elem := 4 }),
  (155, { ty := (.int .u8), eqOk := true }),
  (156, { ty := (.int .u8), eqOk := true }),
  (158, { ty := (.int .i32), eqOk := true }),
  (159, { ty := (.int .i32), eqOk := true })]
theorem t2 : TOk Tryz.prog tb 2 { ty := (.int .i64), eqOk := true } := .of (by kernel_rfl) (by kernel_rfl) (by show _ = _; kernel_rfl) (fun h => eqOk_int)
theorem t3 : TOk Tryz.prog tb 3 { ty := (.int .i64), eqOk := true } := .of (by kernel_rfl) (by kernel_rfl) (by show _ = _; kernel_rfl) (fun h => eqOk_int)
theorem t4 : TOk Tryz.prog tb 4 { ty := .bool, eqOk := true } := .of (by kernel_rfl) (by kernel_rfl) (by show _ = _; kernel_rfl) (fun h => eqOk_bool (by kernel_rfl))
theorem t5 : TOk Tryz.prog tb 5 { ty := (.int .u8), eqOk := true } := .of (by kernel_rfl) (by kernel_rfl) (by show _ = _; kernel_rfl) (fun h => eqOk_int)
theorem t6 : TOk Tryz.prog tb 6 { ty := (.int .u8), eqOk := true } := .of (by kernel_rfl) (by kernel_rfl) (by show _ = _; kernel_rfl) (fun h => eqOk_int)
theorem t7 : TOk Tryz.prog tb 7 { ty := (.pair (.int .i64) (.pair (.int .i64) (.pair .bool (.int .u8)))), offs := [0, 1, 2, 3], szs := [1, 1, 1, 1], eqOk := true } := .of (by kernel_rfl) (by kernel_rfl) (descOk_struct rfl (by kernel_rfl)) (fun h => eqOk_struct rfl (by kernel_rfl) (by kernel_rfl))
theorem t8 : TOk Tryz.prog tb 8 { ty := (.pair (.int .i64) (.pair (.int .i64) (.pair .bool (.int .u8)))), offs := [0, 1, 2, 3], szs := [1, 1, 1, 1], eqOk := true } := .of (by kernel_rfl) (by kernel_rfl) (descOk_struct rfl (by kernel_rfl)) (fun h => eqOk_struct rfl (by kernel_rfl) (by kernel_rfl))
theorem t9 : TOk Tryz.prog tb 9 { ty := .str, eqOk := true } := .of (by kernel_rfl) (by kernel_rfl) (by show _ = _; kernel_rfl) (fun h => eqOk_str)
theorem t10 : TOk Tryz.prog tb 10 { ty := .str, eqOk := true } := .of (by kernel_rfl) (by kernel_rfl) (by show _ = _; kernel_rfl) (fun h => eqOk_str)
theorem t11 : TOk Tryz.prog tb 11 { ty := .str, eqOk := true } := .of (by kernel_rfl) (by kernel_rfl) (by show _ = _; kernel_rfl) (fun h => eqOk_str)
theorem t12 : TOk Tryz.prog tb 12 { ty := (.int .u64), eqOk := true } := .of (by kernel_rfl) (by kernel_rfl) (by show _ = _; kernel_rfl) (fun h => eqOk_int)
theorem t13 : TOk Tryz.prog tb 13 { ty := (.pair .str (.int .u64)), offs := [0, 1], szs := [1, 1] } := .of (by kernel_rfl) (by kernel_rfl) (descOk_struct rfl (by kernel_rfl)) (fun h => by cases h)
theorem t14 : TOk Tryz.prog tb 14 { ty := (.pair .str (.int .u64)), offs := [0, 1], szs := [1, 1] } := .of (by kernel_rfl) (by kernel_rfl) (descOk_struct rfl (by kernel_rfl)) (fun h => by cases h)
theorem t21 : TOk Tryz.prog tb 21 { ty := (.int .i32), eqOk := true } := .of (by kernel_rfl) (by kernel_rfl) (by show _ = _; kernel_rfl) (fun h => eqOk_int)
theorem t22 : TOk Tryz.prog tb 22 { ty := (.slice (.int .u8)), elem := 5 } := .of (by kernel_rfl) (by kernel_rfl) (⟨by kernel_rfl, { ty := (.int .u8), eqOk := true }, by kernel_rfl, by kernel_rfl⟩) (fun h => by cases h)
theorem t23 : TOk Tryz.prog tb 23 { ty := (.slice (.int .i64)), elem := 3 } := .of (by kernel_rfl) (by kernel_rfl) (⟨by kernel_rfl, { ty := (.int .i64), eqOk := true }, by kernel_rfl, by kernel_rfl⟩) (fun h => by cases h)
theorem t24 : TOk Tryz.prog tb 24 { ty := (.pair (.int .i64) (.int .i64)), offs := [0, 1], szs := [1, 1], eqOk := true } := .of (by kernel_rfl) (by kernel_rfl) (descOk_struct rfl (by kernel_rfl)) (fun h => eqOk_struct rfl (by kernel_rfl) (by kernel_rfl))
theorem t25 : TOk Tryz.prog tb 25 { ty := (.pair (.int .i64) (.int .i64)), offs := [0, 1], szs := [1, 1], eqOk := true } := .of (by kernel_rfl) (by kernel_rfl) (descOk_struct rfl (by kernel_rfl)) (fun h => eqOk_struct rfl (by kernel_rfl) (by kernel_rfl))
theorem t26 : TOk Tryz.prog tb 26 { ty := (.pair (.int .i64) (.pair (.int .i64) (.pair (.int .i64) (.pair (.int .i64) (.pair (.slice (.int .i64)) (.pair (.int .i64) (.int .i64))))))), offs := [0, 1, 2, 3, 4, 5], szs := [1, 1, 1, 1, 1, 2] } := .of (by kernel_rfl) (by kernel_rfl) (descOk_struct rfl (by kernel_rfl)) (fun h => by cases h)
theorem t27 : TOk Tryz.prog tb 27 { ty := (.pair (.int .i64) (.pair (.int .i64) (.pair (.int .i64) (.pair (.int .i64) (.pair (.slice (.int .i64)) (.pair (.int .i64) (.int .i64))))))), offs := [0, 1, 2, 3, 4, 5], szs := [1, 1, 1, 1, 1, 2] } := .of (by kernel_rfl) (by kernel_rfl) (descOk_struct rfl (by kernel_rfl)) (fun h => by cases h)
theorem t33 : TOk Tryz.prog tb 33 { ty := (.slice (.pair (.int .i64) (.pair (.int .i64) (.slice (.int .i64))))), elem := 69 } := .of (by kernel_rfl) (by kernel_rfl) (⟨by kernel_rfl, { ty := (.pair (.int .i64) (.pair (.int .i64) (.slice (.int .i64)))), offs := [0, 1, 2], szs := [1, 1, 1] }, by kernel_rfl, by kernel_rfl⟩) (fun h => by cases h)
theorem t34 : TOk Tryz.prog tb 34 { ty := (.pair (.slice (.int .i64)) (.pair (.slice (.pair (.int .i64) (.pair (.int .i64) (.slice (.int .i64))))) (.pair (.int .i64) (.pair (.int .i64) (.int .i64))))), offs := [0, 1, 2, 3, 4], szs := [1, 1, 1, 1, 1] } := .of (by kernel_rfl) (by kernel_rfl) (descOk_struct rfl (by kernel_rfl)) (fun h => by cases h)
theorem t35 : TOk Tryz.prog tb 35 { ty := (.pair (.slice (.int .i64)) (.pair (.slice (.pair (.int .i64) (.pair (.int .i64) (.slice (.int .i64))))) (.pair (.int .i64) (.pair (.int .i64) (.int .i64))))), offs := [0, 1, 2, 3, 4], szs := [1, 1, 1, 1, 1] } := .of (by kernel_rfl) (by kernel_rfl) (descOk_struct rfl (by kernel_rfl)) (fun h => by cases h)
theorem t41 : TOk Tryz.prog tb 41 { ty := (.slice .str), elem := 9 } := .of (by kernel_rfl) (by kernel_rfl) (⟨by kernel_rfl, { ty := .str, eqOk := true }, by kernel_rfl, by kernel_rfl⟩) (fun h => by cases h)
theorem t60 : TOk Tryz.prog tb 60 { ty := (.pair (.slice (.int .u8)) (.int .i64)), offs := [0, 1], szs := [1, 1] } := .of (by kernel_rfl) (by kernel_rfl) (descOk_struct rfl (by kernel_rfl)) (fun h => by cases h)
theorem t61 : TOk Tryz.prog tb 61 { ty := (.pair (.slice (.int .u8)) (.int .i64)), offs := [0, 1], szs := [1, 1] } := .of (by kernel_rfl) (by kernel_rfl) (descOk_struct rfl (by kernel_rfl)) (fun h => by cases h)
theorem t62 : TOk Tryz.prog tb 62 { ty := (.slice (.pair (.int .i64) (.pair (.int .i64) (.pair (.int .i64) (.pair (.int .i64) (.pair (.slice (.int .i64)) (.pair (.int .i64) (.int .i64)))))))), elem := 27 } := .of (by kernel_rfl) (by kernel_rfl) (⟨by kernel_rfl, { ty := (.pair (.int .i64) (.pair (.int .i64) (.pair (.int .i64) (.pair (.int .i64) (.pair (.slice (.int .i64)) (.pair (.int .i64) (.int .i64))))))), offs := [0, 1, 2, 3, 4, 5], szs := [1, 1, 1, 1, 1, 2] }, by kernel_rfl, by kernel_rfl⟩) (fun h => by cases h)
theorem t68 : TOk Tryz.prog tb 68 { ty := (.pair (.int .i64) (.pair (.int .i64) (.slice (.int .i64)))), offs := [0, 1, 2], szs := [1, 1, 1] } := .of (by kernel_rfl) (by kernel_rfl) (descOk_struct rfl (by kernel_rfl)) (fun h => by cases h)
theorem t69 : TOk Tryz.prog tb 69 { ty := (.pair (.int .i64) (.pair (.int .i64) (.slice (.int .i64)))), offs := [0, 1, 2], szs := [1, 1, 1] } := .of (by kernel_rfl) (by kernel_rfl) (descOk_struct rfl (by kernel_rfl)) (fun h => by cases h)
theorem t74 : TOk Tryz.prog tb 74 { ty := .err } := .of (by kernel_rfl) (by kernel_rfl) (by show _ = _; kernel_rfl) (fun h => by cases h)
theorem t75 : TOk Tryz.prog tb 75 { ty := .err } := .of (by kernel_rfl) (by kernel_rfl) (by show _ = _; kernel_rfl) (fun h => by cases h)
theorem t100 : TOk Tryz.prog tb 100 { ty := (.int .u64), eqOk := true } := .of (by kernel_rfl) (by kernel_rfl) (by show _ = _; kernel_rfl) (fun h => eqOk_int)
theorem t107 : TOk Tryz.prog tb 107 { ty := (.int .u64), eqOk := true } := .of (by kernel_rfl) (by kernel_rfl) (by show _ = _; kernel_rfl) (fun h => eqOk_int)
theorem t108 : TOk Tryz.prog tb 108 { ty := (.int .i64), eqOk := true, cmp := true } := .of (by kernel_rfl) (by kernel_rfl) (by show _ = _; kernel_rfl) (fun h => eqOk_int) (fun _ => by kernel_rfl)
theorem t122 : TOk Tryz.prog tb 122 { ty := (.int .u32), eqOk := true } := .of (by kernel_rfl) (by kernel_rfl) (by show _ = _; kernel_rfl) (fun h => eqOk_int)
theorem t126 : TOk Tryz.prog tb 126 { ty := (.pair (.int .u8) (.int .u8)), offs := [0, 1], szs := [1, 1], eqOk := true } := .of (by kernel_rfl) (by kernel_rfl) (descOk_struct rfl (by kernel_rfl)) (fun h => eqOk_struct rfl (by kernel_rfl) (by kernel_rfl))
theorem t127 : TOk Tryz.prog tb 127 { ty := (.pair (.int .u8) (.int .u8)), offs := [0, 1], szs := [1, 1], eqOk := true } := .of (by kernel_rfl) (by kernel_rfl) (descOk_struct rfl (by kernel_rfl)) (fun h => eqOk_struct rfl (by kernel_rfl) (by kernel_rfl))
theorem t134 : TOk Tryz.prog tb 134 { ty := (.pair .str (.pair .str .err)), offs := [0, 1, 2], szs := [1, 1, 1] } := .of (by kernel_rfl) (by kernel_rfl) (descOk_struct rfl (by kernel_rfl)) (fun h => by cases h)
theorem t135 : TOk Tryz.prog tb 135 { ty := (.pair .str (.pair .str .err)), offs := [0, 1, 2], szs := [1, 1, 1] } := .of (by kernel_rfl) (by kernel_rfl) (descOk_struct rfl (by kernel_rfl)) (fun h => by cases h)
theorem t138 : TOk Tryz.prog tb 138 { ty := (.slice .bool), elem := 4 } := .of (by kernel_rfl) (by kernel_rfl) (⟨by kernel_rfl, { ty := .bool, eqOk := true }, by kernel_rfl, by kernel_rfl⟩) (fun h => by cases h)
theorem t155 : TOk Tryz.prog tb 155 { ty := (.int .u8), eqOk := true } := .of (by kernel_rfl) (by kernel_rfl) (by show _ = _; kernel_rfl) (fun h => eqOk_int)
theorem t156 : TOk Tryz.prog tb 156 { ty := (.int .u8), eqOk := true } := .of (by kernel_rfl) (by kernel_rfl) (by show _ = _; kernel_rfl) (fun h => eqOk_int)
theorem t158 : TOk Tryz.prog tb 158 { ty := (.int .i32), eqOk := true } := .of (by kernel_rfl) (by kernel_rfl) (by show _ = _; kernel_rfl) (fun h => eqOk_int)
theorem t159 : TOk Tryz.prog tb 159 { ty := (.int .i32), eqOk := true } := .of (by kernel_rfl) (by kernel_rfl) (by show _ = _; kernel_rfl) (fun h => eqOk_int)
theorem mixed : Tryz.prog.follows .mixedOrders = true := by kernel_rfl
theorem tb_ok : CfgTb Tryz.prog tb := tbOk (all_cons t2 (all_cons t3 (all_cons t4 (all_cons t5 (all_cons t6 (all_cons t7 (all_cons t8 (all_cons t9 (all_cons t10 (all_cons t11 (all_cons t12 (all_cons t13 (all_cons t14 (all_cons t21 (all_cons t22 (all_cons t23 (all_cons t24 (all_cons t25 (all_cons t26 (all_cons t27 (all_cons t33 (all_cons t34 (all_cons t35 (all_cons t41 (all_cons t60 (all_cons t61 (all_cons t62 (all_cons t68 (all_cons t69 (all_cons t74 (all_cons t75 (all_cons t100 (all_cons t107 (all_cons t108 (all_cons t122 (all_cons t126 (all_cons t127 (all_cons t134 (all_cons t135 (all_cons t138 (all_cons t155 (all_cons t156 (all_cons t158 (all_cons t159 (all_nil)))))))))))))))))))))))))))))))))))))))))))))
abbrev zt0 : Ty := .pair (.slice (.int .i64)) (.pair (.slice (.pair (.int .i64) (.pair (.int .i64) (.slice (.int .i64))))) (.pair (.int .i64) (.pair (.int .i64) (.int .i64))))
abbrev zt1 : Ty := .pair (.int .i64) (.pair (.int .i64) (.pair (.int .i64) (.pair (.int .i64) (.pair (.slice (.int .i64)) (.pair (.int .i64) (.int .i64))))))
abbrev zt2 : Type := List (Int × Int × Int × Int × List Int × Int × Int) × (List Int × List (Int × Int × List Int) × Int × Int × Int) × List Int × Int
abbrev zt3 : Ty := .pair (.slice (.pair (.int .i64) (.pair (.int .i64) (.slice (.int .i64))))) (.pair (.int .i64) (.pair (.int .i64) (.int .i64)))
abbrev zt4 : Ty := .pair (.int .i64) (.pair (.int .i64) (.pair (.int .i64) (.pair (.slice (.int .i64)) (.pair (.int .i64) (.int .i64)))))
abbrev zt5 : Ty := .pair (.int .i64) (.pair (.int .i64) (.pair (.slice (.int .i64)) (.pair (.int .i64) (.int .i64))))
abbrev zt6 : Ty := .pair (.int .i64) (.pair (.slice (.int .i64)) (.pair (.int .i64) (.int .i64)))
abbrev zt7 : Type := (Int × Int × Int × Int × List Int × Int × Int) × List Int × Int
abbrev zt8 : Ty := .pair (.int .i64) (.pair (.int .i64) (.slice (.int .i64)))
abbrev zt9 : Ty := .pair (.slice (.int .i64)) (.pair (.int .i64) (.int .i64))
abbrev zt10 : Type := List Int × List (Int × Int × List Int) × Int × Int × Int
abbrev zt11 : Ty := .pair (.int .i64) (.pair (.int .i64) (.int .i64))
abbrev zt12 : Type := Int × Int × Int × Int × List Int × Int × Int
abbrev zt13 : Ty := .pair (.int .i64) (.slice (.int .i64))
abbrev zt14 : Ty := .pair (.int .i64) (.int .i64)
abbrev zt15 : Type := List Int × Int × List Int
abbrev zt16 : Type := Int × Int × List Int
abbrev zf35.ps : List Pm := [.arg (.v (.slice (.int .u8)))]
abbrev zf35.res : List M := [.bx 61 (.v (.pair (.slice (.int .u8)) (.int .i64)))]
noncomputable def zf35.C : Cfg := { tb := tb, tab := fun n f => Refl.look [] f, gl := [], ar := ar, bld := bld, pts := pts }
noncomputable def zf35.A : Ann := { joins := [], loops := [], ids := [], pids := [], nroots := 75 }
noncomputable def zf35 (n : Nat) (x : List Int) : Option (List Int × Int) := evalF zf35.C zf35.A Tryz.f13 zf35.ps zf35.res n x
theorem zf35.eq (n : Nat) (x0 : List Int) : zf35 n x0 = (if (↑(List.length x0) : Int) > 2000 then (if 2000 ≤ (↑(List.length x0) : Int) then some ((List.take (Int.toNat 2000) x0, 0)) else none) else some ((x0, 0))) := by kernel_rfl
noncomputable abbrev zf35.sg (n : Nat) : Sig := ⟨zf35.ps, zf35.res, zf35 n⟩
theorem zf35.call : Callable Tryz.prog 13 := ⟨Tryz.f13, Tryz.func13, by kernel_rfl, by kernel_rfl⟩
theorem zf35.ok (n : Nat) : FC Tryz.prog [] 13 (zf35.sg n) :=
  evalF_ok (C := zf35.C) ⟨tb_ok, fun n _ _ h => tabOk (l := []) (all_nil) h, mixed, ar_ok, bld_ok, pts_ok⟩ zf35.A Tryz.func13 zf35.ps zf35.res n
abbrev zf40.ps : List Pm := [.box 61 (.v (.pair (.slice (.int .u8)) (.int .i64))), .arg (.v (.int .i64))]
abbrev zf40.res : List M := [.v (.int .i64)]
noncomputable def zf40.C : Cfg := { tb := tb, tab := fun n f => Refl.look [] f, gl := [], ar := ar, bld := bld, pts := pts }
noncomputable def zf40.A : Ann := { joins := [], loops := [], ids := [], pids := [], nroots := 163 }
noncomputable def zf40 (n : Nat) (x : (List Int × Int) × Int) : Option (Int × List Int × Int) := evalF zf40.C zf40.A Tryz.f17 zf40.ps zf40.res n x
theorem zf40.eq (n : Nat) (x0 : List Int × Int) (x1 : Int) : zf40 n (x0, x1) = (if x1 < 1 then some ((0, x0.1, Go.RowKit.wrap64 (x0.2 + 1))) else (if (↑(List.length x0.1) : Int) = 0 then some ((0, x0.1, Go.RowKit.wrap64 (x0.2 + 1))) else (if Go.RowKit.wrap64 (Go.RowKit.wrap64 (x0.2 + 1) - 1) < (↑(List.length x0.1) : Int) then (if 0 ≤ Go.RowKit.wrap64 (Go.RowKit.wrap64 (x0.2 + 1) - 1) then (if Go.RowKit.wrap64 (Go.RowKit.wrap64 (x0.2 + 1) - 1) < (↑(List.length x0.1) : Int) then (if x1 = 0 then none else some ((Int.tmod (Go.RowKit.wrap64 (List.getD x0.1 (Int.toNat (Go.RowKit.wrap64 (Go.RowKit.wrap64 (x0.2 + 1) - 1))) 0)) x1, x0.1, Go.RowKit.wrap64 (x0.2 + 1)))) else none) else none) else (if (↑(List.length x0.1) : Int) = 0 then none else (if 0 ≤ Int.tmod (Go.RowKit.wrap64 (Go.RowKit.wrap64 (x0.2 + 1) - 1)) (↑(List.length x0.1) : Int) then (if Int.tmod (Go.RowKit.wrap64 (Go.RowKit.wrap64 (x0.2 + 1) - 1)) (↑(List.length x0.1) : Int) < (↑(List.length x0.1) : Int) then (if (↑(List.length x0.1) : Int) = 0 then none else (if 0 ≤ Int.tmod (Go.RowKit.wrap64 (Go.RowKit.wrap64 (Go.RowKit.wrap64 (Go.RowKit.wrap64 (x0.2 + 1) - 1) * 7) + 3)) (↑(List.length x0.1) : Int) then (if Int.tmod (Go.RowKit.wrap64 (Go.RowKit.wrap64 (Go.RowKit.wrap64 (Go.RowKit.wrap64 (x0.2 + 1) - 1) * 7) + 3)) (↑(List.length x0.1) : Int) < (↑(List.length x0.1) : Int) then (if (↑(List.length x0.1) : Int) = 0 then none else (if x1 = 0 then none else some ((Int.tmod (Go.IntKind.wrap Go.IntKind.i64 (↑(BitVec.toNat (BitVec.ofInt (Go.IntKind.bits Go.IntKind.i64) (Go.RowKit.wrap64 (Go.RowKit.wrap64 (Go.RowKit.wrap64 (Go.RowKit.wrap64 (Go.RowKit.wrap64 (List.getD x0.1 (Int.toNat (Int.tmod (Go.RowKit.wrap64 (Go.RowKit.wrap64 (x0.2 + 1) - 1)) (↑(List.length x0.1) : Int))) 0) * 131) + Go.RowKit.wrap64 (Go.RowKit.wrap64 (List.getD x0.1 (Int.toNat (Int.tmod (Go.RowKit.wrap64 (Go.RowKit.wrap64 (Go.RowKit.wrap64 (Go.RowKit.wrap64 (x0.2 + 1) - 1) * 7) + 3)) (↑(List.length x0.1) : Int))) 0) * 1117)) + Go.RowKit.wrap64 (Go.RowKit.wrap64 (Go.RowKit.wrap64 (x0.2 + 1) - 1) * 29)) + Go.RowKit.wrap64 (Go.RowKit.wrap64 (Int.tdiv (Go.RowKit.wrap64 (Go.RowKit.wrap64 (x0.2 + 1) - 1)) (↑(List.length x0.1) : Int)) * 53))) ^^^ BitVec.ofInt (Go.IntKind.bits Go.IntKind.i64) (Go.RowKit.wrap64 (Int.tdiv (Go.RowKit.wrap64 (Go.RowKit.wrap64 (Go.RowKit.wrap64 (Go.RowKit.wrap64 (Go.RowKit.wrap64 (List.getD x0.1 (Int.toNat (Int.tmod (Go.RowKit.wrap64 (Go.RowKit.wrap64 (x0.2 + 1) - 1)) (↑(List.length x0.1) : Int))) 0) * 131) + Go.RowKit.wrap64 (Go.RowKit.wrap64 (List.getD x0.1 (Int.toNat (Int.tmod (Go.RowKit.wrap64 (Go.RowKit.wrap64 (Go.RowKit.wrap64 (Go.RowKit.wrap64 (x0.2 + 1) - 1) * 7) + 3)) (↑(List.length x0.1) : Int))) 0) * 1117)) + Go.RowKit.wrap64 (Go.RowKit.wrap64 (Go.RowKit.wrap64 (x0.2 + 1) - 1) * 29)) + Go.RowKit.wrap64 (Go.RowKit.wrap64 (Int.tdiv (Go.RowKit.wrap64 (Go.RowKit.wrap64 (x0.2 + 1) - 1)) (↑(List.length x0.1) : Int)) * 53))) 64)))) : Int)) x1, x0.1, Go.RowKit.wrap64 (x0.2 + 1))))) else none) else none)) else none) else none))))) := by kernel_rfl
noncomputable abbrev zf40.sg (n : Nat) : Sig := ⟨zf40.ps, zf40.res, zf40 n⟩
theorem zf40.call : Callable Tryz.prog 17 := ⟨Tryz.f17, Tryz.func17, by kernel_rfl, by kernel_rfl⟩
theorem zf40.ok (n : Nat) : FC Tryz.prog [] 17 (zf40.sg n) :=
  evalF_ok (C := zf40.C) ⟨tb_ok, fun n _ _ h => tabOk (l := []) (all_nil) h, mixed, ar_ok, bld_ok, pts_ok⟩ zf40.A Tryz.func17 zf40.ps zf40.res n
abbrev zf39.ps : List Pm := [.box 61 (.v (.pair (.slice (.int .u8)) (.int .i64))), .arg (.v (.slice (.int .i64)))]
abbrev zf39.res : List M := [.v (.int .i64)]
noncomputable def zf39.C : Cfg := { tb := tb, tab := fun n f => Refl.look [(17, (zf40.sg n))] f, gl := [], ar := ar, bld := bld, pts := pts }
noncomputable def zf39.A : Ann := { joins := [], loops := [], ids := [(1, [(9, [])])], pids := [], nroots := 76 }
noncomputable def zf39 (n : Nat) (x : (List Int × Int) × List Int) : Option (Int × List Int × Int) := evalF zf39.C zf39.A Tryz.f18 zf39.ps zf39.res n x
theorem zf39.eq (n : Nat) (x0 : List Int × Int) (x1 : List Int) : zf39 n (x0, x1) = ((zf40 n ((x0.1, x0.2), (↑(List.length x1) : Int))).bind fun y0 => (if 0 ≤ y0.1 then (if y0.1 < (↑(List.length x1) : Int) then some ((List.getD x1 (Int.toNat y0.1) 0, y0.2.1, y0.2.2)) else none) else none)) := by kernel_rfl
noncomputable abbrev zf39.sg (n : Nat) : Sig := ⟨zf39.ps, zf39.res, zf39 n⟩
theorem zf39.call : Callable Tryz.prog 18 := ⟨Tryz.f18, Tryz.func18, by kernel_rfl, by kernel_rfl⟩
theorem zf39.ok (n : Nat) : FC Tryz.prog [] 18 (zf39.sg n) :=
  evalF_ok (C := zf39.C) ⟨tb_ok, fun n _ _ h => tabOk (l := [(17, (zf40.sg n))]) (all_cons ⟨zf40.ok n, zf40.call⟩ (all_nil)) h, mixed, ar_ok, bld_ok, pts_ok⟩ zf39.A Tryz.func18 zf39.ps zf39.res n
abbrev zf29.ps : List Pm := [.arg (.v (.int .i64)), .arg (.v (.int .i64)), .arg (.v (.int .i64))]
abbrev zf29.res : List M := [.v .bool]
noncomputable def zf29.C : Cfg := { tb := tb, tab := fun n f => Refl.look [] f, gl := [], ar := ar, bld := bld, pts := pts }
noncomputable def zf29.A : Ann := { joins := [], loops := [], ids := [], pids := [], nroots := 79 }
noncomputable def zf29 (n : Nat) (x : Int × Int × Int) : Option (Bool) := evalF zf29.C zf29.A Tryz.f25 zf29.ps zf29.res n x
theorem zf29.eq (n : Nat) (x0 x1 x2 : Int) : zf29 n (x0, x1, x2) = (if x1 ≤ x0 then some (Decidable.decide (x0 ≤ x2)) else some (Bool.false)) := by kernel_rfl
noncomputable abbrev zf29.sg (n : Nat) : Sig := ⟨zf29.ps, zf29.res, zf29 n⟩
theorem zf29.call : Callable Tryz.prog 25 := ⟨Tryz.f25, Tryz.func25, by kernel_rfl, by kernel_rfl⟩
theorem zf29.ok (n : Nat) : FC Tryz.prog [] 25 (zf29.sg n) :=
  evalF_ok (C := zf29.C) ⟨tb_ok, fun n _ _ h => tabOk (l := []) (all_nil) h, mixed, ar_ok, bld_ok, pts_ok⟩ zf29.A Tryz.func25 zf29.ps zf29.res n
abbrev zf15.ps : List Pm := [.arg (.v (.int .i64))]
abbrev zf15.res : List M := [.v zt0]
noncomputable def zf15.C : Cfg := { tb := tb, tab := fun n f => Refl.look [(25, (zf29.sg n))] f, gl := [], ar := ar, bld := bld, pts := pts }
noncomputable def zf15.A : Ann := { joins := [], loops := [], ids := [(1, [(4, [])])], pids := [], nroots := 74 }
noncomputable def zf15 (n : Nat) (x : Int) : Option zt10 := evalF zf15.C zf15.A Tryz.f48 zf15.ps zf15.res n x
theorem zf15.eq (n : Nat) (x0 : Int) : zf15 n x0 = ((zf29 n (x0, 1, 12)).bind fun y0 => (if (!y0) = true then some (([], [], 0, 0, 0)) else (if 0 ≤ x0 then (if x0 ≤ x0 then (if x0 ≤ (↑Go.Refl.maxN : Int) then some ((List.replicate (Int.toNat x0) 0, [], 0, 0, 0)) else none) else none) else none))) := by kernel_rfl
noncomputable abbrev zf15.sg (n : Nat) : Sig := ⟨zf15.ps, zf15.res, zf15 n⟩
theorem zf15.call : Callable Tryz.prog 48 := ⟨Tryz.f48, Tryz.func48, by kernel_rfl, by kernel_rfl⟩
theorem zf15.ok (n : Nat) : FC Tryz.prog [] 48 (zf15.sg n) :=
  evalF_ok (C := zf15.C) ⟨tb_ok, fun n _ _ h => tabOk (l := [(25, (zf29.sg n))]) (all_cons ⟨zf29.ok n, zf29.call⟩ (all_nil)) h, mixed, ar_ok, bld_ok, pts_ok⟩ zf15.A Tryz.func48 zf15.ps zf15.res n
abbrev zf27.ps : List Pm := [.box 61 (.v (.pair (.slice (.int .u8)) (.int .i64)))]
abbrev zf27.res : List M := [.v zt0]
noncomputable def zf27.C : Cfg := { tb := tb, tab := fun n f => Refl.look [(18, (zf39.sg n)), (48, (zf15.sg n))] f, gl := [], ar := ar, bld := bld, pts := pts }
noncomputable def zf27.A : Ann := { joins := [], loops := [], ids := [(1, [(4, []), (5, []), (6, [])])], pids := [], nroots := 71 }
noncomputable def zf27 (n : Nat) (x : List Int × Int) : Option (zt10 × List Int × Int) := evalF zf27.C zf27.A Tryz.f33 zf27.ps zf27.res n x
theorem zf27.eq (n : Nat) (x0 : List Int × Int) : zf27 n x0 = ((zf39 n ((x0.1, x0.2), List.set (List.set (List.set (List.set (List.set (List.replicate 5 0) 0 3) 1 4) 2 2) 3 5) 4 1)).bind fun y0 => ((zf15 n y0.1).bind fun y1 => some (((y1.1, y1.2.1, y1.2.2.1, y1.2.2.2.1, y1.2.2.2.2), y0.2.1, y0.2.2)))) := by kernel_rfl
noncomputable abbrev zf27.sg (n : Nat) : Sig := ⟨zf27.ps, zf27.res, zf27 n⟩
theorem zf27.call : Callable Tryz.prog 33 := ⟨Tryz.f33, Tryz.func33, by kernel_rfl, by kernel_rfl⟩
theorem zf27.ok (n : Nat) : FC Tryz.prog [] 33 (zf27.sg n) :=
  evalF_ok (C := zf27.C) ⟨tb_ok, fun n _ _ h => tabOk (l := [(18, (zf39.sg n)), (48, (zf15.sg n))]) (all_cons ⟨zf39.ok n, zf39.call⟩ (all_cons ⟨zf15.ok n, zf15.call⟩ (all_nil))) h, mixed, ar_ok, bld_ok, pts_ok⟩ zf27.A Tryz.func33 zf27.ps zf27.res n
abbrev zf47.ps : List Pm := [.box 61 (.v (.pair (.slice (.int .u8)) (.int .i64)))]
abbrev zf47.res : List M := [.v zt14]
noncomputable def zf47.C : Cfg := { tb := tb, tab := fun n f => Refl.look [(17, (zf40.sg n)), (18, (zf39.sg n))] f, gl := [], ar := ar, bld := bld, pts := pts }
noncomputable def zf47.A : Ann := { joins := [], loops := [], ids := [(1, [(6, []), (8, []), (9, [])]), (2, [(17, []), (20, []), (21, [])])], pids := [], nroots := 88 }
noncomputable def zf47 (n : Nat) (x : List Int × Int) : Option ((Int × Int) × List Int × Int) := evalF zf47.C zf47.A Tryz.f38 zf47.ps zf47.res n x
theorem zf47.eq (n : Nat) (x0 : List Int × Int) : zf47 n x0 = ((zf40 n ((x0.1, x0.2), 50)).bind fun y0 => ((zf39 n ((y0.2.1, y0.2.2), List.set (List.set (List.set (List.set (List.set (List.set (List.set (List.set (List.set (List.replicate 9 0) 0 100) 1 12) 2 2) 3 4) 4 1000) 5 8) 6 1) 7 365) 8 (Go.RowKit.wrap64 (1 + y0.1)))).bind fun y1 => ((zf40 n ((y1.2.1, y1.2.2), Go.RowKit.wrap64 (y1.1 + 1))).bind fun y2 => ((zf39 n ((y2.2.1, y2.2.2), List.set (List.set (List.set (List.set (List.set (List.set (List.replicate 6 0) 0 1) 1 0) 2 (Go.Refl.mn 5 y1.1)) 3 y1.1) 4 y2.1) 5 (Go.Refl.mn 3 y1.1))).bind fun y3 => some (((y3.1, y1.1), y3.2.1, y3.2.2)))))) := by kernel_rfl
noncomputable abbrev zf47.sg (n : Nat) : Sig := ⟨zf47.ps, zf47.res, zf47 n⟩
theorem zf47.call : Callable Tryz.prog 38 := ⟨Tryz.f38, Tryz.func38, by kernel_rfl, by kernel_rfl⟩
theorem zf47.ok (n : Nat) : FC Tryz.prog [] 38 (zf47.sg n) :=
  evalF_ok (C := zf47.C) ⟨tb_ok, fun n _ _ h => tabOk (l := [(17, (zf40.sg n)), (18, (zf39.sg n))]) (all_cons ⟨zf40.ok n, zf40.call⟩ (all_cons ⟨zf39.ok n, zf39.call⟩ (all_nil))) h, mixed, ar_ok, bld_ok, pts_ok⟩ zf47.A Tryz.func38 zf47.ps zf47.res n
abbrev zf46.ps : List Pm := [.box 61 (.v (.pair (.slice (.int .u8)) (.int .i64))), .arg (.v zt0)]
abbrev zf46.res : List M := [.v zt1]
noncomputable def zf46.C : Cfg := { tb := tb, tab := fun n f => Refl.look [(17, (zf40.sg n)), (18, (zf39.sg n)), (38, (zf47.sg n))] f, gl := [], ar := ar, bld := bld, pts := pts }
noncomputable def zf46.A : Ann := { joins := [(11, { live := [0, 3, 4, 5, 6, 17, 34], base := 125 }), (20, { live := [0, 3, 4, 6, 17, 67], base := 125 }), (29, { live := [0, 4, 6], base := 125 })], loops := [(13, { live := [0, 4, 5, 6, 7, 8], base := 125, growB := [(7, 4, 153, (.int .i64), 3)] })], ids := [(0, [(3, [])]), (2, [(15, [])]), (3, [(17, [])]), (7, [(31, [])]), (11, [(44, [])]), (15, [(57, [])]), (16, [(63, [])]), (21, [(78, [])]), (22, [(94, []), (96, []), (97, []), (100, []), (101, []), (102, [])]), (24, [(107, [])]), (26, [(112, [])]), (29, [(120, []), (122, []), (123, [])])], pids := [], nroots := 189 }
noncomputable def zf46 (n : Nat) (x : (List Int × Int) × List Int × List zt16 × Int × Int × Int) : Option zt7 := evalF zf46.C zf46.A Tryz.f16 zf46.ps zf46.res n x
noncomputable def zf46.K0 (_ : Nat) : Kont zt7 := finK zf46.C (Func.results Tryz.f16).toList zf46.ps zf46.res
noncomputable def zf46.K1 (n : Nat) : Kont zt7 := seqK (fun s' k => joinE zf46.A.joins (codeAt Tryz.f16 [1, 1, 1, 1]) (fun s'' => evalC zf46.C zf46.A n (codeAt Tryz.f16 [1, 1, 1, 1]) s'' k) s') (zf46.K0 n)
noncomputable def zf46.K2 (n : Nat) : Kont zt7 := blockK 0 (zf46.K1 n)
noncomputable def zf46.K3 (n : Nat) : Kont zt7 := seqK (fun s' k => joinE zf46.A.joins (codeAt Tryz.f16 [1, 1, 1, 0, 1, 0, 1, 1, 1, 1, 1, 0, 1, 1]) (fun s'' => evalC zf46.C zf46.A n (codeAt Tryz.f16 [1, 1, 1, 0, 1, 0, 1, 1, 1, 1, 1, 0, 1, 1]) s'' k) s') (zf46.K2 n)
noncomputable def zf46.K4 (n : Nat) : Kont zt7 := blockK 1 (zf46.K3 n)
noncomputable def zf46.j11 (n : Nat) (x3 : List zt10) (x5 x6 x17 : Int) (x34 : Bool) (r0_0 : List Int) (r0_1 r125_0 : Int) (r125_1 r125_2 : Int) (r125_3 r125_5 r125_6 : Int) : Option zt7 := holdF (fun s => evalC zf46.C zf46.A n (codeAt Tryz.f16 [1, 1, 1, 0, 1, 0, 1, 1, 1, 1, 1]) s (zf46.K2 n)) (St.of 125 189 [(0, .ptr 0 0 0), (3, .vptr zt0 x3 0 0), (4, .ptr 125 0 0), (5, .val (.int .i64) x5), (6, .val (.int .i64) x6), (17, .val (.int .i64) x17), (34, .val .bool x34)] [(0, .box 61 [.val (.slice (.int .u8)) r0_0, .val (.int .i64) r0_1]), (125, .box 27 [.val (.int .i64) r125_0, .val (.int .i64) r125_1, .val (.int .i64) r125_2, .val (.int .i64) r125_3, .nils, .val (.int .i64) r125_5, .val (.int .i64) r125_6])] [0])
noncomputable def zf46.l13 (n m13 : Nat) (x5 x6 x8 : Int) (r0_0 : List Int) (r0_1 r125_0 : Int) (r125_1 r125_2 : Int) (r125_3 r125_5 : Int) (r125_6 r126_0 : Int) (r126_1 r126_2 : Int) (r126_3 r126_5 r126_6 : Int) (r127 : List Int) : Option zt7 := loopE (cutAt zf46.A.loops (codeAt Tryz.f16 [1, 1, 1, 0, 1, 0, 1, 1, 1, 1, 1, 0, 1, 0, 1, 0, 0])) (fun s k => evalC zf46.C zf46.A n (codeAt Tryz.f16 [1, 1, 1, 0, 1, 0, 1, 1, 1, 1, 1, 0, 1, 0, 1, 0, 0]) s k) m13 (St.of 125 189 [(0, .ptr 0 0 0), (4, .ptr 125 0 0), (5, .val (.int .i64) x5), (6, .val (.int .i64) x6), (7, .ptr 126 0 0), (8, .val (.int .i64) x8)] [(0, .box 61 [.val (.slice (.int .u8)) r0_0, .val (.int .i64) r0_1]), (125, .box 27 [.val (.int .i64) r125_0, .val (.int .i64) r125_1, .val (.int .i64) r125_2, .val (.int .i64) r125_3, .nils, .val (.int .i64) r125_5, .val (.int .i64) r125_6]), (126, .box 27 [.val (.int .i64) r126_0, .val (.int .i64) r126_1, .val (.int .i64) r126_2, .val (.int .i64) r126_3, .own 127, .val (.int .i64) r126_5, .val (.int .i64) r126_6]), (127, .row (.int .i64) 3 r127)] [0]) (zf46.K4 n)
noncomputable def zf46.j20 (n : Nat) (x3 : List zt10) (x6 x17 : Int) (x67 : Bool) (r0_0 : List Int) (r0_1 r125_0 : Int) (r125_1 r125_2 : Int) (r125_3 r125_5 r125_6 : Int) : Option zt7 := holdF (fun s => evalC zf46.C zf46.A n (codeAt Tryz.f16 [1, 1, 1, 0, 1, 0, 1, 1, 1, 1, 1, 1, 1]) s (zf46.K2 n)) (St.of 125 189 [(0, .ptr 0 0 0), (3, .vptr zt0 x3 0 0), (4, .ptr 125 0 0), (6, .val (.int .i64) x6), (17, .val (.int .i64) x17), (67, .val .bool x67)] [(0, .box 61 [.val (.slice (.int .u8)) r0_0, .val (.int .i64) r0_1]), (125, .box 27 [.val (.int .i64) r125_0, .val (.int .i64) r125_1, .val (.int .i64) r125_2, .val (.int .i64) r125_3, .nils, .val (.int .i64) r125_5, .val (.int .i64) r125_6])] [0])
noncomputable def zf46.j29 (n : Nat) (x6 : Int) (r0_0 : List Int) (r0_1 r125_0 : Int) (r125_1 r125_2 : Int) (r125_3 r125_5 r125_6 : Int) : Option zt7 := holdF (fun s => evalC zf46.C zf46.A n (codeAt Tryz.f16 [1, 1, 1, 1]) s (zf46.K0 n)) (St.of 125 189 [(0, .ptr 0 0 0), (4, .ptr 125 0 0), (6, .val (.int .i64) x6)] [(0, .box 61 [.val (.slice (.int .u8)) r0_0, .val (.int .i64) r0_1]), (125, .box 27 [.val (.int .i64) r125_0, .val (.int .i64) r125_1, .val (.int .i64) r125_2, .val (.int .i64) r125_3, .nils, .val (.int .i64) r125_5, .val (.int .i64) r125_6])] [0])
theorem zf46.eq (n : Nat) (x0 : List Int × Int) (x1 : List Int × List zt16 × Int × Int × Int) : zf46 n (x0, x1) = ((zf40 n ((x0.1, x0.2), (↑(List.length x1.1) : Int))).bind fun y0 => ((zf40 n ((y0.2.1, y0.2.2), 12)).bind fun y1 => (if y1.1 = 0 then some (((0, 0, 0, 0, [], 0, 0), y1.2.1, y1.2.2)) else (if y1.1 = 1 then (if 0 ≤ y0.1 then (if y0.1 < (↑(List.length x1.1) : Int) then ((zf40 n ((y1.2.1, y1.2.2), Go.Refl.mx (List.getD x1.1 (Int.toNat y0.1) 0) 1)).bind fun y2 => some (((2, y0.1, Go.RowKit.wrap64 (1 + y2.1), 0, [], 0, 0), y2.2.1, y2.2.2))) else none) else none) else (if y1.1 = 2 then zf46.j11 n ([x1]) ((↑(List.length x1.1) : Int)) y0.1 y1.1 (Decidable.decide (y1.1 = 2)) y1.2.1 y1.2.2 (0) (0) (0) (0) (0) (0) else (if y1.1 = 3 then zf46.j11 n ([x1]) ((↑(List.length x1.1) : Int)) y0.1 y1.1 (Decidable.decide (y1.1 = 3)) y1.2.1 y1.2.2 (0) (0) (0) (0) (0) (0) else zf46.j11 n ([x1]) ((↑(List.length x1.1) : Int)) y0.1 y1.1 (Decidable.decide (y1.1 = 4)) y1.2.1 y1.2.2 (0) (0) (0) (0) (0) (0))))))) := by kernel_rfl
theorem zf46.j11_eq (n : Nat) (x3 : List zt10) (x5 x6 x17 : Int) (x34 : Bool) (r0_0 : List Int) (r0_1 r125_0 : Int) (r125_1 r125_2 : Int) (r125_3 r125_5 r125_6 : Int) : zf46.j11 n x3 x5 x6 x17 x34 r0_0 r0_1 r125_0 r125_1 r125_2 r125_3 r125_5 r125_6 = (if (x34) = true then ((zf40 n ((r0_0, r0_1), Go.Refl.mn (Go.Refl.mx (Prod.fst (Prod.snd (Prod.snd (List.getD x3 0 ([], [], 0, 0, 0))))) 1) 150)).bind fun y3 => zf46.l13 n n (x5) (x6) (0) y3.2.1 y3.2.2 (r125_0) (r125_1) (r125_2) (r125_3) (r125_5) (r125_6) (3) (x6) (Go.RowKit.wrap64 (1 + y3.1)) (0) (0) (0) ([])) else (if x17 = 5 then zf46.j20 n (x3) (x6) (x17) (Decidable.decide (x17 = 5)) (r0_0) (r0_1) (r125_0) (r125_1) (r125_2) (r125_3) (r125_5) (r125_6) else zf46.j20 n (x3) (x6) (x17) (Decidable.decide (x17 = 6)) (r0_0) (r0_1) (r125_0) (r125_1) (r125_2) (r125_3) (r125_5) (r125_6))) := (holdF_eq _ _).trans (by kernel_rfl)
theorem zf46.l13_succ (n m13 : Nat) (x5 x6 x8 : Int) (r0_0 : List Int) (r0_1 r125_0 : Int) (r125_1 r125_2 : Int) (r125_3 r125_5 : Int) (r125_6 r126_0 : Int) (r126_1 r126_2 : Int) (r126_3 r126_5 r126_6 : Int) (r127 : List Int) : zf46.l13 n (m13 + 1) x5 x6 x8 r0_0 r0_1 r125_0 r125_1 r125_2 r125_3 r125_5 r125_6 r126_0 r126_1 r126_2 r126_3 r126_5 r126_6 r127 = (if x8 < x5 then (if x8 = x6 then zf46.l13 n m13 (x5) (x6) (Go.RowKit.wrap64 (x8 + 1)) (r0_0) (r0_1) (r125_0) (r125_1) (r125_2) (r125_3) (r125_5) (r125_6) (r126_0) (r126_1) (r126_2) (r126_3) (r126_5) (r126_6) (r127) else ((zf40 n ((r0_0, r0_1), 2)).bind fun y4 => (if y4.1 = 0 then (if List.length r127 + List.length (List.set (List.replicate (1 : Nat) (0 : Int)) (0 : Nat) x8) ≤ Go.Refl.maxN then zf46.l13 n m13 (x5) (x6) (Go.RowKit.wrap64 (x8 + 1)) y4.2.1 y4.2.2 (r125_0) (r125_1) (r125_2) (r125_3) (r125_5) (r125_6) (r126_0) (r126_1) (r126_2) (r126_3) (r126_5) (r126_6) (r127 ++ List.set (List.replicate 1 0) 0 x8) else none) else zf46.l13 n m13 (x5) (x6) (Go.RowKit.wrap64 (x8 + 1)) y4.2.1 y4.2.2 (r125_0) (r125_1) (r125_2) (r125_3) (r125_5) (r125_6) (r126_0) (r126_1) (r126_2) (r126_3) (r126_5) (r126_6) (r127)))) else some (((r126_0, r126_1, r126_2, r126_3, r127, r126_5, r126_6), r0_0, r0_1))) := by kernel_rfl
theorem zf46.j20_eq (n : Nat) (x3 : List zt10) (x6 x17 : Int) (x67 : Bool) (r0_0 : List Int) (r0_1 r125_0 : Int) (r125_1 r125_2 : Int) (r125_3 r125_5 r125_6 : Int) : zf46.j20 n x3 x6 x17 x67 r0_0 r0_1 r125_0 r125_1 r125_2 r125_3 r125_5 r125_6 = (if (x67) = true then (if (↑(List.length (Prod.fst (Prod.snd (List.getD x3 (0 : Nat) ([], [], (0 : Int), (0 : Int), (0 : Int)))))) : Int) > 0 then ((zf40 n ((r0_0, r0_1), (↑(List.length (Prod.fst (Prod.snd (List.getD x3 (0 : Nat) ([], [], (0 : Int), (0 : Int), (0 : Int)))))) : Int))).bind fun y5 => (if 0 ≤ y5.1 then (if y5.1 < (↑(List.length (Prod.fst (Prod.snd (List.getD x3 (0 : Nat) ([], [], (0 : Int), (0 : Int), (0 : Int)))))) : Int) then (if 0 ≤ y5.1 then (if y5.1 < (↑(List.length (Prod.fst (Prod.snd (List.getD x3 (0 : Nat) ([], [], (0 : Int), (0 : Int), (0 : Int)))))) : Int) then ((zf40 n ((y5.2.1, y5.2.2), Prod.fst (Prod.snd (List.getD (Prod.fst (Prod.snd (List.getD x3 0 ([], [], 0, 0, 0)))) (Int.toNat y5.1) (0, 0, []))))).bind fun y6 => ((zf39 n ((y6.2.1, y6.2.2), List.set (List.set (List.replicate 2 0) 0 (Prod.fst (Prod.snd (List.getD (Prod.fst (Prod.snd (List.getD x3 0 ([], [], 0, 0, 0)))) (Int.toNat y5.1) (0, 0, []))))) 1 (Go.RowKit.wrap64 (1 + y6.1)))).bind fun y7 => ((zf40 n ((y7.2.1, y7.2.2), 30)).bind fun y8 => ((zf39 n ((y8.2.1, y8.2.2), List.set (List.set (List.set (List.replicate 3 0) 0 0) 1 5) 2 y8.1)).bind fun y9 => some (((4, y5.1, y7.1, y9.1, [], 0, 0), y9.2.1, y9.2.2)))))) else none) else none) else none) else none)) else zf46.j29 n (x6) (r0_0) (r0_1) (r125_0) (r125_1) (r125_2) (r125_3) (r125_5) (r125_6)) else (if x17 = 7 then ((zf47 n (r0_0, r0_1)).bind fun y10 => some (((6, 0, 0, 0, [], y10.1.1, y10.1.2), y10.2.1, y10.2.2))) else (if x17 = 8 then ((zf40 n ((r0_0, r0_1), 2)).bind fun y11 => (if y11.1 = 0 then some (((5, x6, 0, 0, [], 0, 0), y11.2.1, y11.2.2)) else some (((7, 0, 0, 0, [], 0, 0), y11.2.1, y11.2.2)))) else zf46.j29 n (x6) (r0_0) (r0_1) (r125_0) (r125_1) (r125_2) (r125_3) (r125_5) (r125_6)))) := (holdF_eq _ _).trans (by kernel_rfl)
theorem zf46.j29_eq (n : Nat) (x6 : Int) (r0_0 : List Int) (r0_1 r125_0 : Int) (r125_1 r125_2 : Int) (r125_3 r125_5 r125_6 : Int) : zf46.j29 n x6 r0_0 r0_1 r125_0 r125_1 r125_2 r125_3 r125_5 r125_6 = ((zf40 n ((r0_0, r0_1), 250)).bind fun y12 => ((zf39 n ((y12.2.1, y12.2.2), List.set (List.set (List.set (List.set (List.replicate 4 0) 0 100) 1 250) 2 (Go.RowKit.wrap64 (1 + y12.1))) 3 1000)).bind fun y13 => some (((1, x6, y13.1, 0, [], 0, 0), y13.2.1, y13.2.2)))) := (holdF_eq _ _).trans (by kernel_rfl)
noncomputable abbrev zf46.sg (n : Nat) : Sig := ⟨zf46.ps, zf46.res, zf46 n⟩
theorem zf46.call : Callable Tryz.prog 16 := ⟨Tryz.f16, Tryz.func16, by kernel_rfl, by kernel_rfl⟩
theorem zf46.ok (n : Nat) : FC Tryz.prog [] 16 (zf46.sg n) :=
  evalF_ok (C := zf46.C) ⟨tb_ok, fun n _ _ h => tabOk (l := [(17, (zf40.sg n)), (18, (zf39.sg n)), (38, (zf47.sg n))]) (all_cons ⟨zf40.ok n, zf40.call⟩ (all_cons ⟨zf39.ok n, zf39.call⟩ (all_cons ⟨zf47.ok n, zf47.call⟩ (all_nil)))) h, mixed, ar_ok, bld_ok, pts_ok⟩ zf46.A Tryz.func16 zf46.ps zf46.res n
abbrev zf21.ps : List Pm := [.arg (.v (.slice (.int .i64)))]
abbrev zf21.res : List M := [(.own (.int .i64) 3)]
noncomputable def zf21.C : Cfg := { tb := tb, tab := fun n f => Refl.look [] f, gl := [], ar := ar, bld := bld, pts := pts }
noncomputable def zf21.A : Ann := { joins := [], loops := [], ids := [], pids := [], nroots := 70 }
noncomputable def zf21 (n : Nat) (x : List Int) : Option (List Int) := evalF zf21.C zf21.A Tryz.f63 zf21.ps zf21.res n x
theorem zf21.eq (n : Nat) (x0 : List Int) : zf21 n x0 = (if List.length (List.replicate (0 : Nat) (0 : Int)) + List.length x0 ≤ Go.Refl.maxN then some (List.replicate 0 0 ++ x0) else none) := by kernel_rfl
noncomputable abbrev zf21.sg (n : Nat) : Sig := ⟨zf21.ps, zf21.res, zf21 n⟩
theorem zf21.call : Callable Tryz.prog 63 := ⟨Tryz.f63, Tryz.func63, by kernel_rfl, by kernel_rfl⟩
theorem zf21.ok (n : Nat) : FC Tryz.prog [] 63 (zf21.sg n) :=
  evalF_ok (C := zf21.C) ⟨tb_ok, fun n _ _ h => tabOk (l := []) (all_nil) h, mixed, ar_ok, bld_ok, pts_ok⟩ zf21.A Tryz.func63 zf21.ps zf21.res n
abbrev zf22.ps : List Pm := [.arg (.v (.slice zt8))]
abbrev zf22.res : List M := [(.own zt8 69)]
noncomputable def zf22.C : Cfg := { tb := tb, tab := fun n f => Refl.look [(63, { params := zf21.ps, res := [.v (.slice (.int .i64))], run := zf21 n })] f, gl := [], ar := ar, bld := bld, pts := pts }
noncomputable def zf22.A : Ann := { joins := [], loops := [(3, { live := [0, 3, 4], base := 33 })], ids := [(5, [(28, []), (30, [])])], pids := [], nroots := 97 }
noncomputable def zf22 (n : Nat) (x : List zt16) : Option (List zt16) := evalF zf22.C zf22.A Tryz.f83 zf22.ps zf22.res n x
noncomputable def zf22.K0 (_ : Nat) : Kont (List zt16) := finK zf22.C (Func.results Tryz.f83).toList zf22.ps zf22.res
noncomputable def zf22.K1 (n : Nat) : Kont (List zt16) := seqK (fun s' k => joinE zf22.A.joins (codeAt Tryz.f83 [1, 1, 1]) (fun s'' => evalC zf22.C zf22.A n (codeAt Tryz.f83 [1, 1, 1]) s'' k) s') (zf22.K0 n)
noncomputable def zf22.K2 (n : Nat) : Kont (List zt16) := blockK 0 (zf22.K1 n)
noncomputable def zf22.l3 (n m3 : Nat) (x0 : List zt16) (x4 : Int) (r33 : List zt16) : Option (List zt16) := loopE (cutAt zf22.A.loops (codeAt Tryz.f83 [1, 1, 0, 1, 0, 0])) (fun s k => evalC zf22.C zf22.A n (codeAt Tryz.f83 [1, 1, 0, 1, 0, 0]) s k) m3 (St.of 33 97 [(0, .val (.slice zt8) x0), (3, .own 33), (4, .val (.int .i64) x4)] [(33, .row zt8 69 r33)] []) (zf22.K2 n)
theorem zf22.eq (n : Nat) (x0 : List zt16) : zf22 n x0 = zf22.l3 n n (x0) (0) (List.replicate 0 (0, 0, [])) := by kernel_rfl
theorem zf22.l3_succ (n m3 : Nat) (x0 : List zt16) (x4 : Int) (r33 : List zt16) : zf22.l3 n (m3 + 1) x0 x4 r33 = (if x4 < (↑(List.length x0) : Int) then (if 0 ≤ x4 then (if x4 < (↑(List.length x0) : Int) then (if 0 ≤ x4 then (if x4 < (↑(List.length x0) : Int) then (if 0 ≤ x4 then (if x4 < (↑(List.length x0) : Int) then ((zf21 n (Prod.snd (Prod.snd (List.getD x0 (Int.toNat x4) (0, 0, []))))).bind fun y0 => (if List.length r33 + List.length (List.set (List.replicate (1 : Nat) ((0 : Int), (0 : Int), [])) (0 : Nat) (Prod.fst (List.getD x0 (Int.toNat x4) ((0 : Int), (0 : Int), [])), Prod.fst (Prod.snd (List.getD x0 (Int.toNat x4) ((0 : Int), (0 : Int), []))), y0)) ≤ Go.Refl.maxN then zf22.l3 n m3 (x0) (Go.RowKit.wrap64 (x4 + 1)) (r33 ++ List.set (List.replicate 1 (0, 0, [])) 0 (Prod.fst (List.getD x0 (Int.toNat x4) (0, 0, [])), Prod.fst (Prod.snd (List.getD x0 (Int.toNat x4) (0, 0, []))), y0)) else none)) else none) else none) else none) else none) else none) else none) else some (r33)) := by kernel_rfl
noncomputable abbrev zf22.sg (n : Nat) : Sig := ⟨zf22.ps, zf22.res, zf22 n⟩
theorem zf22.call : Callable Tryz.prog 83 := ⟨Tryz.f83, Tryz.func83, by kernel_rfl, by kernel_rfl⟩
theorem zf22.ok (n : Nat) : FC Tryz.prog [] 83 (zf22.sg n) :=
  evalF_ok (C := zf22.C) ⟨tb_ok, fun n _ _ h => tabOk (l := [(63, { params := zf21.ps, res := [.v (.slice (.int .i64))], run := zf21 n })]) (all_cons ⟨FC.weak (.cons (.own _ _) .nil) HEq.rfl (zf21.ok n), zf21.call⟩ (all_nil)) h, mixed, ar_ok, bld_ok, pts_ok⟩ zf22.A Tryz.func83 zf22.ps zf22.res n
abbrev zf20.ps : List Pm := [.arg (.v zt0)]
abbrev zf20.res : List M := [(.pr (.own (.int .i64) 3) (.pr (.own zt8 69) (.v zt11)))]
noncomputable def zf20.C : Cfg := { tb := tb, tab := fun n f => Refl.look [(63, (zf21.sg n)), (83, (zf22.sg n))] f, gl := [], ar := ar, bld := bld, pts := pts }
noncomputable def zf20.A : Ann := { joins := [], loops := [], ids := [], pids := [], nroots := 78 }
noncomputable def zf20 (n : Nat) (x : List Int × List zt16 × Int × Int × Int) : Option zt10 := evalF zf20.C zf20.A Tryz.f60 zf20.ps zf20.res n x
theorem zf20.eq (n : Nat) (x0 : List Int × List zt16 × Int × Int × Int) : zf20 n x0 = ((zf21 n x0.1).bind fun y0 => ((zf22 n x0.2.1).bind fun y1 => some ((y0, y1, x0.2.2.1, x0.2.2.2.1, x0.2.2.2.2)))) := by kernel_rfl
noncomputable abbrev zf20.sg (n : Nat) : Sig := ⟨zf20.ps, zf20.res, zf20 n⟩
theorem zf20.call : Callable Tryz.prog 60 := ⟨Tryz.f60, Tryz.func60, by kernel_rfl, by kernel_rfl⟩
theorem zf20.ok (n : Nat) : FC Tryz.prog [] 60 (zf20.sg n) :=
  evalF_ok (C := zf20.C) ⟨tb_ok, fun n _ _ h => tabOk (l := [(63, (zf21.sg n)), (83, (zf22.sg n))]) (all_cons ⟨zf21.ok n, zf21.call⟩ (all_cons ⟨zf22.ok n, zf22.call⟩ (all_nil))) h, mixed, ar_ok, bld_ok, pts_ok⟩ zf20.A Tryz.func60 zf20.ps zf20.res n
abbrev zf16.ps : List Pm := [.arg (.v (.slice (.int .i64))), .arg (.v (.int .i64)), .arg (.v (.int .i64))]
abbrev zf16.res : List M := [.v .bool]
noncomputable def zf16.C : Cfg := { tb := tb, tab := fun n f => Refl.look [(25, (zf29.sg n))] f, gl := [], ar := ar, bld := bld, pts := pts }
noncomputable def zf16.A : Ann := { joins := [], loops := [(2, { live := [0, 1, 2, 7], base := 22 })], ids := [(4, [(20, [])])], pids := [], nroots := 86 }
noncomputable def zf16 (n : Nat) (x : List Int × Int × Int) : Option (Bool) := evalF zf16.C zf16.A Tryz.f49 zf16.ps zf16.res n x
noncomputable def zf16.K0 (_ : Nat) : Kont (Bool) := finK zf16.C (Func.results Tryz.f49).toList zf16.ps zf16.res
noncomputable def zf16.K1 (n : Nat) : Kont (Bool) := seqK (fun s' k => joinE zf16.A.joins (codeAt Tryz.f49 [1, 1]) (fun s'' => evalC zf16.C zf16.A n (codeAt Tryz.f49 [1, 1]) s'' k) s') (zf16.K0 n)
noncomputable def zf16.K2 (n : Nat) : Kont (Bool) := blockK 0 (zf16.K1 n)
noncomputable def zf16.l2 (n m2 : Nat) (x0 : List Int) (x1 x2 x7 : Int) : Option (Bool) := loopE (cutAt zf16.A.loops (codeAt Tryz.f49 [1, 0, 1, 0, 0])) (fun s k => evalC zf16.C zf16.A n (codeAt Tryz.f49 [1, 0, 1, 0, 0]) s k) m2 (St.of 22 86 [(0, .val (.slice (.int .i64)) x0), (1, .val (.int .i64) x1), (2, .val (.int .i64) x2), (7, .val (.int .i64) x7)] [] []) (zf16.K2 n)
theorem zf16.eq (n : Nat) (x0 : List Int) (x1 x2 : Int) : zf16 n (x0, x1, x2) = zf16.l2 n n (x0) (x1) (x2) (0) := by kernel_rfl
theorem zf16.l2_succ (n m2 : Nat) (x0 : List Int) (x1 x2 x7 : Int) : zf16.l2 n (m2 + 1) x0 x1 x2 x7 = (if x7 < (↑(List.length x0) : Int) then (if 0 ≤ x7 then (if x7 < (↑(List.length x0) : Int) then ((zf29 n (List.getD x0 (Int.toNat x7) 0, x1, x2)).bind fun y0 => (if (!y0) = true then some (Bool.false) else zf16.l2 n m2 (x0) (x1) (x2) (Go.RowKit.wrap64 (x7 + 1)))) else none) else none) else some (Bool.true)) := by kernel_rfl
noncomputable abbrev zf16.sg (n : Nat) : Sig := ⟨zf16.ps, zf16.res, zf16 n⟩
theorem zf16.call : Callable Tryz.prog 49 := ⟨Tryz.f49, Tryz.func49, by kernel_rfl, by kernel_rfl⟩
theorem zf16.ok (n : Nat) : FC Tryz.prog [] 49 (zf16.sg n) :=
  evalF_ok (C := zf16.C) ⟨tb_ok, fun n _ _ h => tabOk (l := [(25, (zf29.sg n))]) (all_cons ⟨zf29.ok n, zf29.call⟩ (all_nil)) h, mixed, ar_ok, bld_ok, pts_ok⟩ zf16.A Tryz.func49 zf16.ps zf16.res n
abbrev zf55.ps : List Pm := [.arg (.v (.slice (.int .i64)))]
abbrev zf55.res : List M := [.v .bool]
noncomputable def zf55.C : Cfg := { tb := tb, tab := fun n f => Refl.look [(25, (zf29.sg n)), (49, (zf16.sg n))] f, gl := [], ar := ar, bld := bld, pts := pts }
noncomputable def zf55.A : Ann := { joins := [], loops := [], ids := [(1, [(5, []), (8, [])])], pids := [], nroots := 74 }
noncomputable def zf55 (n : Nat) (x : List Int) : Option (Bool) := evalF zf55.C zf55.A Tryz.f34 zf55.ps zf55.res n x
theorem zf55.eq (n : Nat) (x0 : List Int) : zf55 n x0 = ((zf29 n ((↑(List.length x0) : Int), 1, 12)).bind fun y0 => (if y0 = Bool.true then ((zf16 n (x0, 0, 100000)).bind fun y1 => some (y1)) else some (Bool.false))) := by kernel_rfl
noncomputable abbrev zf55.sg (n : Nat) : Sig := ⟨zf55.ps, zf55.res, zf55 n⟩
theorem zf55.call : Callable Tryz.prog 34 := ⟨Tryz.f34, Tryz.func34, by kernel_rfl, by kernel_rfl⟩
theorem zf55.ok (n : Nat) : FC Tryz.prog [] 34 (zf55.sg n) :=
  evalF_ok (C := zf55.C) ⟨tb_ok, fun n _ _ h => tabOk (l := [(25, (zf29.sg n)), (49, (zf16.sg n))]) (all_cons ⟨zf29.ok n, zf29.call⟩ (all_cons ⟨zf16.ok n, zf16.call⟩ (all_nil))) h, mixed, ar_ok, bld_ok, pts_ok⟩ zf55.A Tryz.func34 zf55.ps zf55.res n
abbrev zf48.ps : List Pm := [.arg (.v (.int .i64)), .arg (.v (.int .i64))]
abbrev zf48.res : List M := [(.own (.int .i64) 3)]
noncomputable def zf48.C : Cfg := { tb := tb, tab := fun n f => Refl.look [] f, gl := [], ar := ar, bld := bld, pts := pts }
noncomputable def zf48.A : Ann := { joins := [], loops := [(3, { live := [0, 1, 5, 6], base := 29 })], ids := [(8, [(26, [])])], pids := [], nroots := 93 }
noncomputable def zf48 (n : Nat) (x : Int × Int) : Option (List Int) := evalF zf48.C zf48.A Tryz.f87 zf48.ps zf48.res n x
noncomputable def zf48.K0 (_ : Nat) : Kont (List Int) := finK zf48.C (Func.results Tryz.f87).toList zf48.ps zf48.res
noncomputable def zf48.K1 (n : Nat) : Kont (List Int) := seqK (fun s' k => joinE zf48.A.joins (codeAt Tryz.f87 [1, 1, 1]) (fun s'' => evalC zf48.C zf48.A n (codeAt Tryz.f87 [1, 1, 1]) s'' k) s') (zf48.K0 n)
noncomputable def zf48.K2 (n : Nat) : Kont (List Int) := blockK 0 (zf48.K1 n)
noncomputable def zf48.l3 (n m3 : Nat) (x0 x1 x6 : Int) (r29 : List Int) : Option (List Int) := loopE (cutAt zf48.A.loops (codeAt Tryz.f87 [1, 1, 0, 1, 0, 0])) (fun s k => evalC zf48.C zf48.A n (codeAt Tryz.f87 [1, 1, 0, 1, 0, 0]) s k) m3 (St.of 29 93 [(0, .val (.int .i64) x0), (1, .val (.int .i64) x1), (5, .own 29), (6, .val (.int .i64) x6)] [(29, .row (.int .i64) 3 r29)] []) (zf48.K2 n)
theorem zf48.eq (n : Nat) (x0 x1 : Int) : zf48 n (x0, x1) = zf48.l3 n n (x0) (x1) (0) (List.replicate 0 0) := by kernel_rfl
theorem zf48.l3_succ (n m3 : Nat) (x0 x1 x6 : Int) (r29 : List Int) : zf48.l3 n (m3 + 1) x0 x1 x6 r29 = (if x6 < x1 then (if x1 = 0 then none else (if x1 = 0 then none else (if x6 < Int.tmod x0 x1 then (if List.length r29 + List.length (List.set (List.replicate (1 : Nat) (0 : Int)) (0 : Nat) (Go.RowKit.wrap64 (Go.RowKit.wrap64 (Int.tdiv x0 x1) + (1 : Int)))) ≤ Go.Refl.maxN then zf48.l3 n m3 (x0) (x1) (Go.RowKit.wrap64 (x6 + 1)) (r29 ++ List.set (List.replicate 1 0) 0 (Go.RowKit.wrap64 (Go.RowKit.wrap64 (Int.tdiv x0 x1) + 1))) else none) else (if List.length r29 + List.length (List.set (List.replicate (1 : Nat) (0 : Int)) (0 : Nat) (Go.RowKit.wrap64 (Int.tdiv x0 x1))) ≤ Go.Refl.maxN then zf48.l3 n m3 (x0) (x1) (Go.RowKit.wrap64 (x6 + 1)) (r29 ++ List.set (List.replicate 1 0) 0 (Go.RowKit.wrap64 (Int.tdiv x0 x1))) else none)))) else some (r29)) := by kernel_rfl
noncomputable abbrev zf48.sg (n : Nat) : Sig := ⟨zf48.ps, zf48.res, zf48 n⟩
theorem zf48.call : Callable Tryz.prog 87 := ⟨Tryz.f87, Tryz.func87, by kernel_rfl, by kernel_rfl⟩
theorem zf48.ok (n : Nat) : FC Tryz.prog [] 87 (zf48.sg n) :=
  evalF_ok (C := zf48.C) ⟨tb_ok, fun n _ _ h => tabOk (l := []) (all_nil) h, mixed, ar_ok, bld_ok, pts_ok⟩ zf48.A Tryz.func87 zf48.ps zf48.res n
abbrev zf24.ps : List Pm := [.arg (.v (.slice zt8)), .arg (.v (.int .i64))]
abbrev zf24.res : List M := [(.own (.int .i64) 3)]
noncomputable def zf24.C : Cfg := { tb := tb, tab := fun n f => Refl.look [(87, (zf48.sg n))] f, gl := [], ar := ar, bld := bld, pts := pts }
noncomputable def zf24.A : Ann := { joins := [], loops := [(3, { live := [0, 5, 6], base := 62 }), (7, { live := [0, 5, 6, 7, 8], base := 62 })], ids := [], pids := [], nroots := 126 }
noncomputable def zf24 (n : Nat) (x : List zt16 × Int) : Option (List Int) := evalF zf24.C zf24.A Tryz.f105 zf24.ps zf24.res n x
noncomputable def zf24.K0 (_ : Nat) : Kont (List Int) := finK zf24.C (Func.results Tryz.f105).toList zf24.ps zf24.res
noncomputable def zf24.K1 (n : Nat) : Kont (List Int) := seqK (fun s' k => joinE zf24.A.joins (codeAt Tryz.f105 [1, 1, 1]) (fun s'' => evalC zf24.C zf24.A n (codeAt Tryz.f105 [1, 1, 1]) s'' k) s') (zf24.K0 n)
noncomputable def zf24.K2 (n : Nat) : Kont (List Int) := blockK 0 (zf24.K1 n)
noncomputable def zf24.K3 (n m3 : Nat) : Kont (List Int) := loopK (cutAt zf24.A.loops (codeAt Tryz.f105 [1, 1, 0, 1, 0, 0])) (fun s k => evalC zf24.C zf24.A n (codeAt Tryz.f105 [1, 1, 0, 1, 0, 0]) s k) m3 (zf24.K2 n)
noncomputable def zf24.K4 (n m3 : Nat) : Kont (List Int) := seqK (fun s' k => joinE zf24.A.joins (codeAt Tryz.f105 [1, 1, 0, 1, 0, 0, 1, 1]) (fun s'' => evalC zf24.C zf24.A n (codeAt Tryz.f105 [1, 1, 0, 1, 0, 0, 1, 1]) s'' k) s') (zf24.K3 n m3)
noncomputable def zf24.K5 (n m3 : Nat) : Kont (List Int) := blockK 1 (zf24.K4 n m3)
noncomputable def zf24.K6 (n m3 : Nat) : Kont (List Int) := blockK 2 (zf24.K5 n m3)
noncomputable def zf24.l3 (n m3 : Nat) (x0 : List zt16) (x6 : Int) (r62 : List Int) : Option (List Int) := loopE (cutAt zf24.A.loops (codeAt Tryz.f105 [1, 1, 0, 1, 0, 0])) (fun s k => evalC zf24.C zf24.A n (codeAt Tryz.f105 [1, 1, 0, 1, 0, 0]) s k) m3 (St.of 62 126 [(0, .val (.slice zt8) x0), (5, .own 62), (6, .val (.int .i64) x6)] [(62, .row (.int .i64) 3 r62)] []) (zf24.K2 n)
noncomputable def zf24.l7 (n m3 m7 : Nat) (x0 : List zt16) (x6 x8 : Int) (r62 r63 : List Int) : Option (List Int) := loopE (cutAt zf24.A.loops (codeAt Tryz.f105 [1, 1, 0, 1, 0, 0, 1, 0, 0, 1, 1, 0, 0])) (fun s k => evalC zf24.C zf24.A n (codeAt Tryz.f105 [1, 1, 0, 1, 0, 0, 1, 0, 0, 1, 1, 0, 0]) s k) m7 (St.of 62 126 [(0, .val (.slice zt8) x0), (5, .own 62), (6, .val (.int .i64) x6), (7, .own 63), (8, .val (.int .i64) x8)] [(62, .row (.int .i64) 3 r62), (63, .row (.int .i64) 3 r63)] []) (zf24.K6 n m3)
theorem zf24.eq (n : Nat) (x0 : List zt16) (x1 : Int) : zf24 n (x0, x1) = (if 0 ≤ x1 then (if x1 ≤ x1 then (if x1 ≤ (↑Go.Refl.maxN : Int) then zf24.l3 n n (x0) (0) (List.replicate (Int.toNat x1) 0) else none) else none) else none) := by kernel_rfl
theorem zf24.l3_succ (n m3 : Nat) (x0 : List zt16) (x6 : Int) (r62 : List Int) : zf24.l3 n (m3 + 1) x0 x6 r62 = (if x6 < (↑(List.length x0) : Int) then (if 0 ≤ x6 then (if x6 < (↑(List.length x0) : Int) then (if 0 ≤ x6 then (if x6 < (↑(List.length x0) : Int) then ((zf48 n (Prod.fst (Prod.snd (List.getD x0 (Int.toNat x6) (0, 0, []))), (↑(List.length (Prod.snd (Prod.snd (List.getD x0 (Int.toNat x6) ((0 : Int), (0 : Int), []))))) : Int))).bind fun y0 => zf24.l7 n m3 n (x0) (x6) (0) (r62) (y0)) else none) else none) else none) else none) else some (r62)) := by kernel_rfl
theorem zf24.l7_succ (n m3 m7 : Nat) (x0 : List zt16) (x6 x8 : Int) (r62 r63 : List Int) : zf24.l7 n m3 (m7 + 1) x0 x6 x8 r62 r63 = (if x8 < (↑(List.length r63) : Int) then (if 0 ≤ x6 then (if x6 < (↑(List.length x0) : Int) then (if 0 ≤ x8 then (if x8 < (↑(List.length (Prod.snd (Prod.snd (List.getD x0 (Int.toNat x6) ((0 : Int), (0 : Int), []))))) : Int) then (if 0 ≤ x6 then (if x6 < (↑(List.length x0) : Int) then (if 0 ≤ x8 then (if x8 < (↑(List.length (Prod.snd (Prod.snd (List.getD x0 (Int.toNat x6) ((0 : Int), (0 : Int), []))))) : Int) then (if 0 ≤ List.getD (Prod.snd (Prod.snd (List.getD x0 (Int.toNat x6) (0, 0, [])))) (Int.toNat x8) 0 then (if List.getD (Prod.snd (Prod.snd (List.getD x0 (Int.toNat x6) (0, 0, [])))) (Int.toNat x8) 0 < (↑(List.length r62) : Int) then (if 0 ≤ x8 then (if x8 < (↑(List.length r63) : Int) then (if 0 ≤ List.getD (Prod.snd (Prod.snd (List.getD x0 (Int.toNat x6) (0, 0, [])))) (Int.toNat x8) 0 then (if List.getD (Prod.snd (Prod.snd (List.getD x0 (Int.toNat x6) (0, 0, [])))) (Int.toNat x8) 0 < (↑(List.length r62) : Int) then zf24.l7 n m3 m7 (x0) (x6) (Go.RowKit.wrap64 (x8 + 1)) (List.set r62 (Int.toNat (List.getD (Prod.snd (Prod.snd (List.getD x0 (Int.toNat x6) (0, 0, [])))) (Int.toNat x8) 0)) (Go.RowKit.wrap64 (List.getD r62 (Int.toNat (List.getD (Prod.snd (Prod.snd (List.getD x0 (Int.toNat x6) (0, 0, [])))) (Int.toNat x8) 0)) 0 + List.getD r63 (Int.toNat x8) 0))) (r63) else none) else none) else none) else none) else none) else none) else none) else none) else none) else none) else none) else none) else none) else none) else zf24.l3 n m3 (x0) (Go.RowKit.wrap64 (x6 + 1)) (r62)) := by kernel_rfl
noncomputable abbrev zf24.sg (n : Nat) : Sig := ⟨zf24.ps, zf24.res, zf24 n⟩
theorem zf24.call : Callable Tryz.prog 105 := ⟨Tryz.f105, Tryz.func105, by kernel_rfl, by kernel_rfl⟩
theorem zf24.ok (n : Nat) : FC Tryz.prog [] 105 (zf24.sg n) :=
  evalF_ok (C := zf24.C) ⟨tb_ok, fun n _ _ h => tabOk (l := [(87, (zf48.sg n))]) (all_cons ⟨zf48.ok n, zf48.call⟩ (all_nil)) h, mixed, ar_ok, bld_ok, pts_ok⟩ zf24.A Tryz.func105 zf24.ps zf24.res n
abbrev zf28.ps : List Pm := [.arg (.v (.slice (.int .i64))), .arg (.v (.slice zt8))]
abbrev zf28.res : List M := [(.own (.int .i64) 3)]
noncomputable def zf28.C : Cfg := { tb := tb, tab := fun n f => Refl.look [(105, (zf24.sg n))] f, gl := [], ar := ar, bld := bld, pts := pts }
noncomputable def zf28.A : Ann := { joins := [], loops := [(3, { live := [0, 5, 6], base := 30 })], ids := [], pids := [], nroots := 94 }
noncomputable def zf28 (n : Nat) (x : List Int × List zt16) : Option (List Int) := evalF zf28.C zf28.A Tryz.f98 zf28.ps zf28.res n x
noncomputable def zf28.K0 (_ : Nat) : Kont (List Int) := finK zf28.C (Func.results Tryz.f98).toList zf28.ps zf28.res
noncomputable def zf28.K1 (n : Nat) : Kont (List Int) := seqK (fun s' k => joinE zf28.A.joins (codeAt Tryz.f98 [1, 1, 1]) (fun s'' => evalC zf28.C zf28.A n (codeAt Tryz.f98 [1, 1, 1]) s'' k) s') (zf28.K0 n)
noncomputable def zf28.K2 (n : Nat) : Kont (List Int) := blockK 0 (zf28.K1 n)
noncomputable def zf28.l3 (n m3 : Nat) (x0 : List Int) (x6 : Int) (r30 : List Int) : Option (List Int) := loopE (cutAt zf28.A.loops (codeAt Tryz.f98 [1, 1, 0, 1, 0, 0])) (fun s k => evalC zf28.C zf28.A n (codeAt Tryz.f98 [1, 1, 0, 1, 0, 0]) s k) m3 (St.of 30 94 [(0, .val (.slice (.int .i64)) x0), (5, .own 30), (6, .val (.int .i64) x6)] [(30, .row (.int .i64) 3 r30)] []) (zf28.K2 n)
theorem zf28.eq (n : Nat) (x0 : List Int) (x1 : List zt16) : zf28 n (x0, x1) = ((zf24 n (x1, (↑(List.length x0) : Int))).bind fun y0 => zf28.l3 n n (x0) (0) (y0)) := by kernel_rfl
theorem zf28.l3_succ (n m3 : Nat) (x0 : List Int) (x6 : Int) (r30 : List Int) : zf28.l3 n (m3 + 1) x0 x6 r30 = (if x6 < (↑(List.length r30) : Int) then (if 0 ≤ x6 then (if x6 < (↑(List.length x0) : Int) then (if 0 ≤ x6 then (if x6 < (↑(List.length r30) : Int) then (if 0 ≤ x6 then (if x6 < (↑(List.length r30) : Int) then zf28.l3 n m3 (x0) (Go.RowKit.wrap64 (x6 + 1)) (List.set r30 (Int.toNat x6) (Go.RowKit.wrap64 (List.getD x0 (Int.toNat x6) 0 - List.getD r30 (Int.toNat x6) 0))) else none) else none) else none) else none) else none) else none) else some (r30)) := by kernel_rfl
noncomputable abbrev zf28.sg (n : Nat) : Sig := ⟨zf28.ps, zf28.res, zf28 n⟩
theorem zf28.call : Callable Tryz.prog 98 := ⟨Tryz.f98, Tryz.func98, by kernel_rfl, by kernel_rfl⟩
theorem zf28.ok (n : Nat) : FC Tryz.prog [] 98 (zf28.sg n) :=
  evalF_ok (C := zf28.C) ⟨tb_ok, fun n _ _ h => tabOk (l := [(105, (zf24.sg n))]) (all_cons ⟨zf24.ok n, zf24.call⟩ (all_nil)) h, mixed, ar_ok, bld_ok, pts_ok⟩ zf28.A Tryz.func98 zf28.ps zf28.res n
abbrev zf42.ps : List Pm := [.arg (.v (.slice (.int .i64))), .arg (.v (.slice zt8))]
abbrev zf42.res : List M := [.v .bool]
noncomputable def zf42.C : Cfg := { tb := tb, tab := fun n f => Refl.look [(98, (zf28.sg n)), (49, (zf16.sg n))] f, gl := [], ar := ar, bld := bld, pts := pts }
noncomputable def zf42.A : Ann := { joins := [], loops := [], ids := [(1, [(8, [])])], pids := [], nroots := 73 }
noncomputable def zf42 (n : Nat) (x : List Int × List zt16) : Option (Bool) := evalF zf42.C zf42.A Tryz.f84 zf42.ps zf42.res n x
theorem zf42.eq (n : Nat) (x0 : List Int) (x1 : List zt16) : zf42 n (x0, x1) = ((zf28 n (x0, x1)).bind fun y0 => ((zf16 n (y0, 0, 100000)).bind fun y1 => some (y1))) := by kernel_rfl
noncomputable abbrev zf42.sg (n : Nat) : Sig := ⟨zf42.ps, zf42.res, zf42 n⟩
theorem zf42.call : Callable Tryz.prog 84 := ⟨Tryz.f84, Tryz.func84, by kernel_rfl, by kernel_rfl⟩
theorem zf42.ok (n : Nat) : FC Tryz.prog [] 84 (zf42.sg n) :=
  evalF_ok (C := zf42.C) ⟨tb_ok, fun n _ _ h => tabOk (l := [(98, (zf28.sg n)), (49, (zf16.sg n))]) (all_cons ⟨zf28.ok n, zf28.call⟩ (all_cons ⟨zf16.ok n, zf16.call⟩ (all_nil))) h, mixed, ar_ok, bld_ok, pts_ok⟩ zf42.A Tryz.func84 zf42.ps zf42.res n
abbrev zf33.ps : List Pm := [.arg (.pr (.own (.int .i64) 3) (.pr (.own zt8 69) (.v zt11))), .arg (.v zt1)]
abbrev zf33.res : List M := [(.pr (.own (.int .i64) 3) (.pr (.own zt8 69) (.v zt11))), .v .bool]
noncomputable def zf33.C : Cfg := { tb := tb, tab := fun n f => Refl.look [(25, (zf29.sg n)), (34, (zf55.sg n)), (84, (zf42.sg n))] f, gl := [], ar := ar, bld := bld, pts := pts }
noncomputable def zf33.A : Ann := { joins := [], loops := [], ids := [(1, [(13, []), (18, [])]), (8, [(50, []), (59, [])])], pids := [(0, [118, 119])], nroots := 126 }
noncomputable def zf33 (n : Nat) (x : zt10 × Int × Int × Int × Int × List Int × Int × Int) : Option (zt10 × Bool) := evalF zf33.C zf33.A Tryz.f61 zf33.ps zf33.res n x
theorem zf33.eq (n : Nat) (x0 : List Int × List zt16 × Int × Int × Int) (x1 : Int × Int × Int × Int × List Int × Int × Int) : zf33 n (x0, x1) = ((zf29 n (x1.2.1, 0, Go.RowKit.wrap64 ((↑(List.length x0.1) : Int) - 1))).bind fun y0 => (if (!y0) = Bool.true then some (((x0.1, x0.2.1, x0.2.2.1, x0.2.2.2.1, x0.2.2.2.2), Bool.false)) else ((zf29 n (x1.2.2.1, 1, 100000)).bind fun y1 => (if (!y1) = true then some (((x0.1, x0.2.1, x0.2.2.1, x0.2.2.2.1, x0.2.2.2.2), Bool.false)) else (if x1.1 = 2 then (if 0 ≤ x1.2.1 then (if x1.2.1 < (↑(List.length x0.1) : Int) then (if 0 ≤ x1.2.1 then (if x1.2.1 < (↑(List.length x0.1) : Int) then ((zf55 n (List.set x0.1 (Int.toNat x1.2.1) (Go.RowKit.wrap64 (List.getD x0.1 (Int.toNat x1.2.1) 0 + Go.RowKit.wrap64 (0 - x1.2.2.1))))).bind fun y2 => (if y2 = Bool.true then (if Go.RowKit.wrap64 (0 - x1.2.2.1) > 0 then some (((List.set x0.1 (Int.toNat x1.2.1) (Go.RowKit.wrap64 (List.getD x0.1 (Int.toNat x1.2.1) 0 + Go.RowKit.wrap64 (0 - x1.2.2.1))), x0.2.1, Go.RowKit.wrap64 (x0.2.2.1 + Go.RowKit.wrap64 (0 - x1.2.2.1)), x0.2.2.2.1, x0.2.2.2.2), Bool.true)) else ((zf42 n (List.set x0.1 (Int.toNat x1.2.1) (Go.RowKit.wrap64 (List.getD x0.1 (Int.toNat x1.2.1) 0 + Go.RowKit.wrap64 (0 - x1.2.2.1))), x0.2.1)).bind fun y3 => some (((List.set x0.1 (Int.toNat x1.2.1) (Go.RowKit.wrap64 (List.getD x0.1 (Int.toNat x1.2.1) 0 + Go.RowKit.wrap64 (0 - x1.2.2.1))), x0.2.1, Go.RowKit.wrap64 (x0.2.2.1 + Go.RowKit.wrap64 (0 - x1.2.2.1)), x0.2.2.2.1, x0.2.2.2.2), y3)))) else some (((List.set x0.1 (Int.toNat x1.2.1) (Go.RowKit.wrap64 (List.getD x0.1 (Int.toNat x1.2.1) 0 + Go.RowKit.wrap64 (0 - x1.2.2.1))), x0.2.1, Go.RowKit.wrap64 (x0.2.2.1 + Go.RowKit.wrap64 (0 - x1.2.2.1)), x0.2.2.2.1, x0.2.2.2.2), Bool.false)))) else none) else none) else none) else none) else (if 0 ≤ x1.2.1 then (if x1.2.1 < (↑(List.length x0.1) : Int) then (if 0 ≤ x1.2.1 then (if x1.2.1 < (↑(List.length x0.1) : Int) then ((zf55 n (List.set x0.1 (Int.toNat x1.2.1) (Go.RowKit.wrap64 (List.getD x0.1 (Int.toNat x1.2.1) 0 + x1.2.2.1)))).bind fun y4 => (if y4 = Bool.true then (if x1.2.2.1 > 0 then some (((List.set x0.1 (Int.toNat x1.2.1) (Go.RowKit.wrap64 (List.getD x0.1 (Int.toNat x1.2.1) 0 + x1.2.2.1)), x0.2.1, Go.RowKit.wrap64 (x0.2.2.1 + x1.2.2.1), x0.2.2.2.1, x0.2.2.2.2), Bool.true)) else ((zf42 n (List.set x0.1 (Int.toNat x1.2.1) (Go.RowKit.wrap64 (List.getD x0.1 (Int.toNat x1.2.1) 0 + x1.2.2.1)), x0.2.1)).bind fun y5 => some (((List.set x0.1 (Int.toNat x1.2.1) (Go.RowKit.wrap64 (List.getD x0.1 (Int.toNat x1.2.1) 0 + x1.2.2.1)), x0.2.1, Go.RowKit.wrap64 (x0.2.2.1 + x1.2.2.1), x0.2.2.2.1, x0.2.2.2.2), y5)))) else some (((List.set x0.1 (Int.toNat x1.2.1) (Go.RowKit.wrap64 (List.getD x0.1 (Int.toNat x1.2.1) 0 + x1.2.2.1)), x0.2.1, Go.RowKit.wrap64 (x0.2.2.1 + x1.2.2.1), x0.2.2.2.1, x0.2.2.2.2), Bool.false)))) else none) else none) else none) else none)))))) := by kernel_rfl
noncomputable abbrev zf33.sg (n : Nat) : Sig := ⟨zf33.ps, zf33.res, zf33 n⟩
theorem zf33.call : Callable Tryz.prog 61 := ⟨Tryz.f61, Tryz.func61, by kernel_rfl, by kernel_rfl⟩
theorem zf33.ok (n : Nat) : FC Tryz.prog [] 61 (zf33.sg n) :=
  evalF_ok (C := zf33.C) ⟨tb_ok, fun n _ _ h => tabOk (l := [(25, (zf29.sg n)), (34, (zf55.sg n)), (84, (zf42.sg n))]) (all_cons ⟨zf29.ok n, zf29.call⟩ (all_cons ⟨zf55.ok n, zf55.call⟩ (all_cons ⟨zf42.ok n, zf42.call⟩ (all_nil)))) h, mixed, ar_ok, bld_ok, pts_ok⟩ zf33.A Tryz.func61 zf33.ps zf33.res n
abbrev zf38.ps : List Pm := [.arg (.v (.slice (.int .i64))), .arg (.v (.int .i64))]
abbrev zf38.res : List M := [.v (.int .i64)]
noncomputable def zf38.C : Cfg := { tb := tb, tab := fun n f => Refl.look [] f, gl := [], ar := ar, bld := bld, pts := pts }
noncomputable def zf38.A : Ann := { joins := [], loops := [(2, { live := [0, 1, 5], base := 19 })], ids := [], pids := [], nroots := 83 }
noncomputable def zf38 (n : Nat) (x : List Int × Int) : Option (Int) := evalF zf38.C zf38.A Tryz.f51 zf38.ps zf38.res n x
noncomputable def zf38.K0 (_ : Nat) : Kont (Int) := finK zf38.C (Func.results Tryz.f51).toList zf38.ps zf38.res
noncomputable def zf38.K1 (n : Nat) : Kont (Int) := seqK (fun s' k => joinE zf38.A.joins (codeAt Tryz.f51 [1, 1]) (fun s'' => evalC zf38.C zf38.A n (codeAt Tryz.f51 [1, 1]) s'' k) s') (zf38.K0 n)
noncomputable def zf38.K2 (n : Nat) : Kont (Int) := blockK 0 (zf38.K1 n)
noncomputable def zf38.l2 (n m2 : Nat) (x0 : List Int) (x1 x5 : Int) : Option (Int) := loopE (cutAt zf38.A.loops (codeAt Tryz.f51 [1, 0, 1, 0, 0])) (fun s k => evalC zf38.C zf38.A n (codeAt Tryz.f51 [1, 0, 1, 0, 0]) s k) m2 (St.of 19 83 [(0, .val (.slice (.int .i64)) x0), (1, .val (.int .i64) x1), (5, .val (.int .i64) x5)] [] []) (zf38.K2 n)
theorem zf38.eq (n : Nat) (x0 : List Int) (x1 : Int) : zf38 n (x0, x1) = zf38.l2 n n (x0) (x1) (0) := by kernel_rfl
theorem zf38.l2_succ (n m2 : Nat) (x0 : List Int) (x1 x5 : Int) : zf38.l2 n (m2 + 1) x0 x1 x5 = (if x5 < (↑(List.length x0) : Int) then (if 0 ≤ x5 then (if x5 < (↑(List.length x0) : Int) then (if List.getD x0 (Int.toNat x5) 0 = x1 then some (x5) else zf38.l2 n m2 (x0) (x1) (Go.RowKit.wrap64 (x5 + 1))) else none) else none) else some ((-1))) := by kernel_rfl
noncomputable abbrev zf38.sg (n : Nat) : Sig := ⟨zf38.ps, zf38.res, zf38 n⟩
theorem zf38.call : Callable Tryz.prog 51 := ⟨Tryz.f51, Tryz.func51, by kernel_rfl, by kernel_rfl⟩
theorem zf38.ok (n : Nat) : FC Tryz.prog [] 51 (zf38.sg n) :=
  evalF_ok (C := zf38.C) ⟨tb_ok, fun n _ _ h => tabOk (l := []) (all_nil) h, mixed, ar_ok, bld_ok, pts_ok⟩ zf38.A Tryz.func51 zf38.ps zf38.res n
abbrev zf53.ps : List Pm := [.arg (.v (.slice (.int .i64))), .arg (.v (.int .i64))]
abbrev zf53.res : List M := [.v .bool]
noncomputable def zf53.C : Cfg := { tb := tb, tab := fun n f => Refl.look [(25, (zf29.sg n)), (51, (zf38.sg n))] f, gl := [], ar := ar, bld := bld, pts := pts }
noncomputable def zf53.A : Ann := { joins := [], loops := [(2, { live := [0, 1, 5], base := 31 })], ids := [(4, [(18, []), (28, [])])], pids := [], nroots := 95 }
noncomputable def zf53 (n : Nat) (x : List Int × Int) : Option (Bool) := evalF zf53.C zf53.A Tryz.f50 zf53.ps zf53.res n x
noncomputable def zf53.K0 (_ : Nat) : Kont (Bool) := finK zf53.C (Func.results Tryz.f50).toList zf53.ps zf53.res
noncomputable def zf53.K1 (n : Nat) : Kont (Bool) := seqK (fun s' k => joinE zf53.A.joins (codeAt Tryz.f50 [1, 1]) (fun s'' => evalC zf53.C zf53.A n (codeAt Tryz.f50 [1, 1]) s'' k) s') (zf53.K0 n)
noncomputable def zf53.K2 (n : Nat) : Kont (Bool) := blockK 0 (zf53.K1 n)
noncomputable def zf53.l2 (n m2 : Nat) (x0 : List Int) (x1 x5 : Int) : Option (Bool) := loopE (cutAt zf53.A.loops (codeAt Tryz.f50 [1, 0, 1, 0, 0])) (fun s k => evalC zf53.C zf53.A n (codeAt Tryz.f50 [1, 0, 1, 0, 0]) s k) m2 (St.of 31 95 [(0, .val (.slice (.int .i64)) x0), (1, .val (.int .i64) x1), (5, .val (.int .i64) x5)] [] []) (zf53.K2 n)
theorem zf53.eq (n : Nat) (x0 : List Int) (x1 : Int) : zf53 n (x0, x1) = zf53.l2 n n (x0) (x1) (0) := by kernel_rfl
theorem zf53.l2_succ (n m2 : Nat) (x0 : List Int) (x1 x5 : Int) : zf53.l2 n (m2 + 1) x0 x1 x5 = (if x5 < (↑(List.length x0) : Int) then (if 0 ≤ x5 then (if x5 < (↑(List.length x0) : Int) then ((zf29 n (List.getD x0 (Int.toNat x5) 0, 0, Go.RowKit.wrap64 (x1 - 1))).bind fun y0 => (if (!y0) = Bool.true then some (Bool.false) else (if 0 ≤ x5 then (if x5 ≤ (↑(List.length x0) : Int) then (if 0 ≤ x5 then (if x5 < (↑(List.length x0) : Int) then ((zf38 n (List.take (Int.toNat x5) x0, List.getD x0 (Int.toNat x5) 0)).bind fun y1 => (if y1 ≥ 0 then some (Bool.false) else zf53.l2 n m2 (x0) (x1) (Go.RowKit.wrap64 (x5 + 1)))) else none) else none) else none) else none))) else none) else none) else some (Bool.true)) := by kernel_rfl
noncomputable abbrev zf53.sg (n : Nat) : Sig := ⟨zf53.ps, zf53.res, zf53 n⟩
theorem zf53.call : Callable Tryz.prog 50 := ⟨Tryz.f50, Tryz.func50, by kernel_rfl, by kernel_rfl⟩
theorem zf53.ok (n : Nat) : FC Tryz.prog [] 50 (zf53.sg n) :=
  evalF_ok (C := zf53.C) ⟨tb_ok, fun n _ _ h => tabOk (l := [(25, (zf29.sg n)), (51, (zf38.sg n))]) (all_cons ⟨zf29.ok n, zf29.call⟩ (all_cons ⟨zf38.ok n, zf38.call⟩ (all_nil))) h, mixed, ar_ok, bld_ok, pts_ok⟩ zf53.A Tryz.func50 zf53.ps zf53.res n
abbrev zf52.ps : List Pm := [.arg (.v (.slice zt8)), .arg (.v (.int .i64))]
abbrev zf52.res : List M := [.v .bool]
noncomputable def zf52.C : Cfg := { tb := tb, tab := fun n f => Refl.look [(25, (zf29.sg n)), (50, (zf53.sg n)), (51, (zf38.sg n))] f, gl := [], ar := ar, bld := bld, pts := pts }
noncomputable def zf52.A : Ann := { joins := [], loops := [(2, { live := [0, 1, 5], base := 57 })], ids := [(5, [(21, []), (26, []), (39, []), (47, [])]), (7, [(55, [])])], pids := [], nroots := 121 }
noncomputable def zf52 (n : Nat) (x : List zt16 × Int) : Option (Bool) := evalF zf52.C zf52.A Tryz.f35 zf52.ps zf52.res n x
noncomputable def zf52.K0 (_ : Nat) : Kont (Bool) := finK zf52.C (Func.results Tryz.f35).toList zf52.ps zf52.res
noncomputable def zf52.K1 (n : Nat) : Kont (Bool) := seqK (fun s' k => joinE zf52.A.joins (codeAt Tryz.f35 [1, 1]) (fun s'' => evalC zf52.C zf52.A n (codeAt Tryz.f35 [1, 1]) s'' k) s') (zf52.K0 n)
noncomputable def zf52.K2 (n : Nat) : Kont (Bool) := blockK 0 (zf52.K1 n)
noncomputable def zf52.l2 (n m2 : Nat) (x0 : List zt16) (x1 x5 : Int) : Option (Bool) := loopE (cutAt zf52.A.loops (codeAt Tryz.f35 [1, 0, 1, 0, 0])) (fun s k => evalC zf52.C zf52.A n (codeAt Tryz.f35 [1, 0, 1, 0, 0]) s k) m2 (St.of 57 121 [(0, .val (.slice zt8) x0), (1, .val (.int .i64) x1), (5, .val (.int .i64) x5)] [] []) (zf52.K2 n)
theorem zf52.eq (n : Nat) (x0 : List zt16) (x1 : Int) : zf52 n (x0, x1) = zf52.l2 n n (x0) (x1) (0) := by kernel_rfl
theorem zf52.l2_succ (n m2 : Nat) (x0 : List zt16) (x1 x5 : Int) : zf52.l2 n (m2 + 1) x0 x1 x5 = (if x5 < (↑(List.length x0) : Int) then (if 0 ≤ x5 then (if x5 < (↑(List.length x0) : Int) then ((zf29 n (Prod.fst (List.getD x0 (Int.toNat x5) (0, 0, [])), 0, Go.RowKit.wrap64 (x1 - 1))).bind fun y0 => (if (!y0) = Bool.true then some (Bool.false) else ((zf29 n (Prod.fst (Prod.snd (List.getD x0 (Int.toNat x5) (0, 0, []))), 1, 100000)).bind fun y1 => (if (!y1) = Bool.true then some (Bool.false) else (if (↑(List.length (Prod.snd (Prod.snd (List.getD x0 (Int.toNat x5) ((0 : Int), (0 : Int), []))))) : Int) = 0 then some (Bool.false) else ((zf53 n (Prod.snd (Prod.snd (List.getD x0 (Int.toNat x5) (0, 0, []))), x1)).bind fun y2 => (if (!y2) = Bool.true then some (Bool.false) else ((zf38 n (Prod.snd (Prod.snd (List.getD x0 (Int.toNat x5) (0, 0, []))), Prod.fst (List.getD x0 (Int.toNat x5) (0, 0, [])))).bind fun y3 => (if y3 ≥ 0 then some (Bool.false) else zf52.l2 n m2 (x0) (x1) (Go.RowKit.wrap64 (x5 + 1))))))))))) else none) else none) else (if (↑(List.length x0) : Int) ≤ 16 then ((zf29 n (x1, 1, 12)).bind fun y4 => some (y4)) else some (Bool.false))) := by kernel_rfl
noncomputable abbrev zf52.sg (n : Nat) : Sig := ⟨zf52.ps, zf52.res, zf52 n⟩
theorem zf52.call : Callable Tryz.prog 35 := ⟨Tryz.f35, Tryz.func35, by kernel_rfl, by kernel_rfl⟩
theorem zf52.ok (n : Nat) : FC Tryz.prog [] 35 (zf52.sg n) :=
  evalF_ok (C := zf52.C) ⟨tb_ok, fun n _ _ h => tabOk (l := [(25, (zf29.sg n)), (50, (zf53.sg n)), (51, (zf38.sg n))]) (all_cons ⟨zf29.ok n, zf29.call⟩ (all_cons ⟨zf53.ok n, zf53.call⟩ (all_cons ⟨zf38.ok n, zf38.call⟩ (all_nil)))) h, mixed, ar_ok, bld_ok, pts_ok⟩ zf52.A Tryz.func35 zf52.ps zf52.res n
abbrev zf30.ps : List Pm := [.arg (.pr (.own (.int .i64) 3) (.pr (.own zt8 69) (.v zt11))), .arg (.v zt8)]
abbrev zf30.res : List M := [(.pr (.own (.int .i64) 3) (.pr (.own zt8 69) (.v zt11))), .v .bool]
noncomputable def zf30.C : Cfg := { tb := tb, tab := fun n f => Refl.look [(35, (zf52.sg n)), (84, (zf42.sg n))] f, gl := [], ar := ar, bld := bld, pts := pts }
noncomputable def zf30.A : Ann := { joins := [], loops := [], ids := [(1, [(9, [])]), (2, [(17, []), (24, [])])], pids := [(0, [91, 92])], nroots := 99 }
noncomputable def zf30 (n : Nat) (x : zt10 × Int × Int × List Int) : Option (zt10 × Bool) := evalF zf30.C zf30.A Tryz.f62 zf30.ps zf30.res n x
theorem zf30.eq (n : Nat) (x0 : List Int × List zt16 × Int × Int × Int) (x1 : Int × Int × List Int) : zf30 n (x0, x1) = (if List.length x0.2.1 + List.length (List.set (List.replicate (1 : Nat) ((0 : Int), (0 : Int), [])) (0 : Nat) (x1.1, x1.2.1, x1.2.2)) ≤ Go.Refl.maxN then ((zf52 n (x0.2.1 ++ List.set (List.replicate 1 (0, 0, [])) 0 (x1.1, x1.2.1, x1.2.2), (↑(List.length x0.1) : Int))).bind fun y0 => (if (!y0) = Bool.true then some (((x0.1, x0.2.1 ++ List.set (List.replicate 1 (0, 0, [])) 0 (x1.1, x1.2.1, x1.2.2), x0.2.2.1, x0.2.2.2.1, x0.2.2.2.2), Bool.false)) else ((zf42 n (x0.1, x0.2.1 ++ List.set (List.replicate 1 (0, 0, [])) 0 (x1.1, x1.2.1, x1.2.2))).bind fun y1 => (if (!y1) = true then some (((x0.1, x0.2.1 ++ List.set (List.replicate 1 (0, 0, [])) 0 (x1.1, x1.2.1, x1.2.2), x0.2.2.1, x0.2.2.2.1, x0.2.2.2.2), Bool.false)) else some (((x0.1, x0.2.1 ++ List.set (List.replicate 1 (0, 0, [])) 0 (x1.1, x1.2.1, x1.2.2), Go.RowKit.wrap64 (x0.2.2.1 - x1.2.1), x0.2.2.2.1, x0.2.2.2.2), Bool.true)))))) else none) := by kernel_rfl
noncomputable abbrev zf30.sg (n : Nat) : Sig := ⟨zf30.ps, zf30.res, zf30 n⟩
theorem zf30.call : Callable Tryz.prog 62 := ⟨Tryz.f62, Tryz.func62, by kernel_rfl, by kernel_rfl⟩
theorem zf30.ok (n : Nat) : FC Tryz.prog [] 62 (zf30.sg n) :=
  evalF_ok (C := zf30.C) ⟨tb_ok, fun n _ _ h => tabOk (l := [(35, (zf52.sg n)), (84, (zf42.sg n))]) (all_cons ⟨zf52.ok n, zf52.call⟩ (all_cons ⟨zf42.ok n, zf42.call⟩ (all_nil))) h, mixed, ar_ok, bld_ok, pts_ok⟩ zf30.A Tryz.func62 zf30.ps zf30.res n
abbrev zf41.ps : List Pm := [.arg (.pr (.own (.int .i64) 3) (.pr (.own zt8 69) (.v zt11))), .arg (.v zt1)]
abbrev zf41.res : List M := [(.pr (.own (.int .i64) 3) (.pr (.own zt8 69) (.v zt11))), .v .bool]
noncomputable def zf41.C : Cfg := { tb := tb, tab := fun n f => Refl.look [(25, (zf29.sg n))] f, gl := [], ar := ar, bld := bld, pts := pts }
noncomputable def zf41.A : Ann := { joins := [], loops := [], ids := [(1, [(12, []), (24, []), (30, [])])], pids := [(0, [143, 144])], nroots := 151 }
noncomputable def zf41 (n : Nat) (x : zt10 × Int × Int × Int × Int × List Int × Int × Int) : Option (zt10 × Bool) := evalF zf41.C zf41.A Tryz.f64 zf41.ps zf41.res n x
theorem zf41.eq (n : Nat) (x0 : List Int × List zt16 × Int × Int × Int) (x1 : Int × Int × Int × Int × List Int × Int × Int) : zf41 n (x0, x1) = ((zf29 n (x1.2.1, 0, Go.RowKit.wrap64 ((↑(List.length x0.2.1) : Int) - 1))).bind fun y0 => (if (!y0) = Bool.true then some (((x0.1, x0.2.1, x0.2.2.1, x0.2.2.2.1, x0.2.2.2.2), Bool.false)) else (if 0 ≤ x1.2.1 then (if x1.2.1 < (↑(List.length x0.2.1) : Int) then ((zf29 n (x1.2.2.1, 1, Prod.fst (Prod.snd (List.getD x0.2.1 (Int.toNat x1.2.1) (0, 0, []))))).bind fun y1 => (if (!y1) = Bool.true then some (((x0.1, x0.2.1, x0.2.2.1, x0.2.2.2.1, x0.2.2.2.2), Bool.false)) else ((zf29 n (x1.2.2.2.1, 0, 100000)).bind fun y2 => (if (!y2) = true then some (((x0.1, x0.2.1, x0.2.2.1, x0.2.2.2.1, x0.2.2.2.2), Bool.false)) else (if 0 ≤ x1.2.1 then (if x1.2.1 < (↑(List.length x0.2.1) : Int) then (if 0 ≤ x1.2.1 then (if x1.2.1 < (↑(List.length x0.2.1) : Int) then (if 0 ≤ x1.2.1 then (if x1.2.1 < (↑(List.length (List.set x0.2.1 (Int.toNat x1.2.1) (Prod.fst (List.getD x0.2.1 (Int.toNat x1.2.1) ((0 : Int), (0 : Int), [])), Go.RowKit.wrap64 (Prod.fst (Prod.snd (List.getD x0.2.1 (Int.toNat x1.2.1) ((0 : Int), (0 : Int), []))) - x1.2.2.1), Prod.snd (Prod.snd (List.getD x0.2.1 (Int.toNat x1.2.1) ((0 : Int), (0 : Int), [])))))) : Int) then (if Prod.fst (Prod.snd (List.getD (List.set x0.2.1 (Int.toNat x1.2.1) (Prod.fst (List.getD x0.2.1 (Int.toNat x1.2.1) (0, 0, [])), Go.RowKit.wrap64 (Prod.fst (Prod.snd (List.getD x0.2.1 (Int.toNat x1.2.1) (0, 0, []))) - x1.2.2.1), Prod.snd (Prod.snd (List.getD x0.2.1 (Int.toNat x1.2.1) (0, 0, []))))) (Int.toNat x1.2.1) (0, 0, []))) = 0 then (if 0 ≤ x1.2.1 then (if x1.2.1 ≤ (↑(List.length (List.set x0.2.1 (Int.toNat x1.2.1) (Prod.fst (List.getD x0.2.1 (Int.toNat x1.2.1) ((0 : Int), (0 : Int), [])), Go.RowKit.wrap64 (Prod.fst (Prod.snd (List.getD x0.2.1 (Int.toNat x1.2.1) ((0 : Int), (0 : Int), []))) - x1.2.2.1), Prod.snd (Prod.snd (List.getD x0.2.1 (Int.toNat x1.2.1) ((0 : Int), (0 : Int), [])))))) : Int) then (if 0 ≤ Go.RowKit.wrap64 (x1.2.1 + 1) then (if Go.RowKit.wrap64 (x1.2.1 + 1) ≤ (↑(List.length (List.set x0.2.1 (Int.toNat x1.2.1) (Prod.fst (List.getD x0.2.1 (Int.toNat x1.2.1) ((0 : Int), (0 : Int), [])), Go.RowKit.wrap64 (Prod.fst (Prod.snd (List.getD x0.2.1 (Int.toNat x1.2.1) ((0 : Int), (0 : Int), []))) - x1.2.2.1), Prod.snd (Prod.snd (List.getD x0.2.1 (Int.toNat x1.2.1) ((0 : Int), (0 : Int), [])))))) : Int) then (if Int.toNat x1.2.1 - 0 + List.length (List.take (List.length (List.set x0.2.1 (Int.toNat x1.2.1) (Prod.fst (List.getD x0.2.1 (Int.toNat x1.2.1) ((0 : Int), (0 : Int), [])), Go.RowKit.wrap64 (Prod.fst (Prod.snd (List.getD x0.2.1 (Int.toNat x1.2.1) ((0 : Int), (0 : Int), []))) - x1.2.2.1), Prod.snd (Prod.snd (List.getD x0.2.1 (Int.toNat x1.2.1) ((0 : Int), (0 : Int), []))))) - Int.toNat (Go.RowKit.wrap64 (x1.2.1 + (1 : Int)))) (List.drop (Int.toNat (Go.RowKit.wrap64 (x1.2.1 + (1 : Int)))) (List.set x0.2.1 (Int.toNat x1.2.1) (Prod.fst (List.getD x0.2.1 (Int.toNat x1.2.1) ((0 : Int), (0 : Int), [])), Go.RowKit.wrap64 (Prod.fst (Prod.snd (List.getD x0.2.1 (Int.toNat x1.2.1) ((0 : Int), (0 : Int), []))) - x1.2.2.1), Prod.snd (Prod.snd (List.getD x0.2.1 (Int.toNat x1.2.1) ((0 : Int), (0 : Int), []))))))) ≤ Go.Refl.maxN then some (((x0.1, List.take (Int.toNat x1.2.1 - 0) (List.set x0.2.1 (Int.toNat x1.2.1) (Prod.fst (List.getD x0.2.1 (Int.toNat x1.2.1) (0, 0, [])), Go.RowKit.wrap64 (Prod.fst (Prod.snd (List.getD x0.2.1 (Int.toNat x1.2.1) (0, 0, []))) - x1.2.2.1), Prod.snd (Prod.snd (List.getD x0.2.1 (Int.toNat x1.2.1) (0, 0, []))))) ++ List.take (List.length (List.set x0.2.1 (Int.toNat x1.2.1) (Prod.fst (List.getD x0.2.1 (Int.toNat x1.2.1) ((0 : Int), (0 : Int), [])), Go.RowKit.wrap64 (Prod.fst (Prod.snd (List.getD x0.2.1 (Int.toNat x1.2.1) ((0 : Int), (0 : Int), []))) - x1.2.2.1), Prod.snd (Prod.snd (List.getD x0.2.1 (Int.toNat x1.2.1) ((0 : Int), (0 : Int), []))))) - Int.toNat (Go.RowKit.wrap64 (x1.2.1 + 1))) (List.drop (Int.toNat (Go.RowKit.wrap64 (x1.2.1 + 1))) (List.set x0.2.1 (Int.toNat x1.2.1) (Prod.fst (List.getD x0.2.1 (Int.toNat x1.2.1) (0, 0, [])), Go.RowKit.wrap64 (Prod.fst (Prod.snd (List.getD x0.2.1 (Int.toNat x1.2.1) (0, 0, []))) - x1.2.2.1), Prod.snd (Prod.snd (List.getD x0.2.1 (Int.toNat x1.2.1) (0, 0, [])))))), Go.RowKit.wrap64 (Go.RowKit.wrap64 (x0.2.2.1 + x1.2.2.1) + x1.2.2.2.1), Go.RowKit.wrap64 (x0.2.2.2.1 + x1.2.2.2.1), x0.2.2.2.2), Bool.true)) else none) else none) else none) else none) else none) else some (((x0.1, List.set x0.2.1 (Int.toNat x1.2.1) (Prod.fst (List.getD x0.2.1 (Int.toNat x1.2.1) (0, 0, [])), Go.RowKit.wrap64 (Prod.fst (Prod.snd (List.getD x0.2.1 (Int.toNat x1.2.1) (0, 0, []))) - x1.2.2.1), Prod.snd (Prod.snd (List.getD x0.2.1 (Int.toNat x1.2.1) (0, 0, [])))), Go.RowKit.wrap64 (Go.RowKit.wrap64 (x0.2.2.1 + x1.2.2.1) + x1.2.2.2.1), Go.RowKit.wrap64 (x0.2.2.2.1 + x1.2.2.2.1), x0.2.2.2.2), Bool.true))) else none) else none) else none) else none) else none) else none))))) else none) else none))) := by kernel_rfl
noncomputable abbrev zf41.sg (n : Nat) : Sig := ⟨zf41.ps, zf41.res, zf41 n⟩
theorem zf41.call : Callable Tryz.prog 64 := ⟨Tryz.f64, Tryz.func64, by kernel_rfl, by kernel_rfl⟩
theorem zf41.ok (n : Nat) : FC Tryz.prog [] 64 (zf41.sg n) :=
  evalF_ok (C := zf41.C) ⟨tb_ok, fun n _ _ h => tabOk (l := [(25, (zf29.sg n))]) (all_cons ⟨zf29.ok n, zf29.call⟩ (all_nil)) h, mixed, ar_ok, bld_ok, pts_ok⟩ zf41.A Tryz.func64 zf41.ps zf41.res n
abbrev zf25.ps : List Pm := [.arg (.v (.slice (.int .i64))), .arg (.v zt8)]
abbrev zf25.res : List M := [(.own (.int .i64) 3), .v (.int .i64), (.own (.int .i64) 3)]
noncomputable def zf25.C : Cfg := { tb := tb, tab := fun n f => Refl.look [(63, (zf21.sg n)), (87, (zf48.sg n))] f, gl := [], ar := ar, bld := bld, pts := pts }
noncomputable def zf25.A : Ann := { joins := [], loops := [(8, { live := [3, 7, 8, 10, 11, 12], base := 95 })], ids := [(15, [(90, [])])], pids := [], nroots := 159 }
noncomputable def zf25 (n : Nat) (x : List Int × Int × Int × List Int) : Option zt15 := evalF zf25.C zf25.A Tryz.f99 zf25.ps zf25.res n x
noncomputable def zf25.K0 (_ : Nat) : Kont zt15 := finK zf25.C (Func.results Tryz.f99).toList zf25.ps zf25.res
noncomputable def zf25.K1 (n : Nat) : Kont zt15 := seqK (fun s' k => joinE zf25.A.joins (codeAt Tryz.f99 [1, 1, 1, 1, 1, 1, 1, 1]) (fun s'' => evalC zf25.C zf25.A n (codeAt Tryz.f99 [1, 1, 1, 1, 1, 1, 1, 1]) s'' k) s') (zf25.K0 n)
noncomputable def zf25.K2 (n : Nat) : Kont zt15 := blockK 0 (zf25.K1 n)
noncomputable def zf25.l8 (n m8 : Nat) (x11 x12 : Int) (r95_0 r95_1 : Int) (r95_2 r96 : List Int) (r97 r98 : List Int) : Option zt15 := loopE (cutAt zf25.A.loops (codeAt Tryz.f99 [1, 1, 1, 1, 1, 1, 1, 0, 1, 0, 0])) (fun s k => evalC zf25.C zf25.A n (codeAt Tryz.f99 [1, 1, 1, 1, 1, 1, 1, 0, 1, 0, 0]) s k) m8 (St.of 95 159 [(3, .ptr 95 0 0), (7, .own 96), (8, .own 97), (10, .own 98), (11, .val (.int .i64) x11), (12, .val (.int .i64) x12)] [(95, .box 69 [.val (.int .i64) r95_0, .val (.int .i64) r95_1, .val (.slice (.int .i64)) r95_2]), (96, .row (.int .i64) 3 r96), (97, .row (.int .i64) 3 r97), (98, .row (.int .i64) 3 r98)] []) (zf25.K2 n)
theorem zf25.eq (n : Nat) (x0 : List Int) (x1 : Int × Int × List Int) : zf25 n (x0, x1) = ((zf21 n x0).bind fun y0 => (if 0 ≤ x1.1 then (if x1.1 < (↑(List.length y0) : Int) then (if 0 ≤ x1.1 then (if x1.1 < (↑(List.length y0) : Int) then (if 0 ≤ x1.1 then (if x1.1 < (↑(List.length y0) : Int) then ((zf48 n (Go.RowKit.wrap64 (x1.2.1 - Go.Refl.mn (List.getD y0 (Int.toNat x1.1) 0) x1.2.1), (↑(List.length x1.2.2) : Int))).bind fun y1 => zf25.l8 n n (0) (0) x1.1 x1.2.1 x1.2.2 (List.set y0 (Int.toNat x1.1) (Go.RowKit.wrap64 (List.getD y0 (Int.toNat x1.1) 0 - Go.Refl.mn (List.getD y0 (Int.toNat x1.1) 0) x1.2.1))) (List.replicate 0 0) (y1)) else none) else none) else none) else none) else none) else none)) := by kernel_rfl
theorem zf25.l8_succ (n m8 : Nat) (x11 x12 : Int) (r95_0 r95_1 : Int) (r95_2 r96 : List Int) (r97 r98 : List Int) : zf25.l8 n (m8 + 1) x11 x12 r95_0 r95_1 r95_2 r96 r97 r98 = (if x12 < (↑(List.length r98) : Int) then (if 0 ≤ x12 then (if x12 < (↑(List.length r95_2) : Int) then (if 0 ≤ List.getD r95_2 (Int.toNat x12) 0 then (if List.getD r95_2 (Int.toNat x12) 0 < (↑(List.length r96) : Int) then (if 0 ≤ x12 then (if x12 < (↑(List.length r98) : Int) then (if 0 ≤ List.getD r95_2 (Int.toNat x12) 0 then (if List.getD r95_2 (Int.toNat x12) 0 < (↑(List.length r96) : Int) then (if 0 ≤ List.getD r95_2 (Int.toNat x12) 0 then (if List.getD r95_2 (Int.toNat x12) 0 < (↑(List.length r96) : Int) then (if 0 ≤ x12 then (if x12 < (↑(List.length r98) : Int) then (if 0 ≤ x12 then (if x12 < (↑(List.length r98) : Int) then (if Go.Refl.mn (List.getD r96 (Int.toNat (List.getD r95_2 (Int.toNat x12) 0)) 0) (List.getD r98 (Int.toNat x12) 0) < List.getD r98 (Int.toNat x12) 0 then (if List.length r97 + List.length (List.set (List.replicate (1 : Nat) (0 : Int)) (0 : Nat) (List.getD r95_2 (Int.toNat x12) (0 : Int))) ≤ Go.Refl.maxN then zf25.l8 n m8 (Go.RowKit.wrap64 (Go.RowKit.wrap64 (x11 + List.getD r98 (Int.toNat x12) 0) - Go.Refl.mn (List.getD r96 (Int.toNat (List.getD r95_2 (Int.toNat x12) 0)) 0) (List.getD r98 (Int.toNat x12) 0))) (Go.RowKit.wrap64 (x12 + 1)) (r95_0) (r95_1) (r95_2) (List.set r96 (Int.toNat (List.getD r95_2 (Int.toNat x12) 0)) (Go.RowKit.wrap64 (List.getD r96 (Int.toNat (List.getD r95_2 (Int.toNat x12) 0)) 0 - Go.Refl.mn (List.getD r96 (Int.toNat (List.getD r95_2 (Int.toNat x12) 0)) 0) (List.getD r98 (Int.toNat x12) 0)))) (r97 ++ List.set (List.replicate 1 0) 0 (List.getD r95_2 (Int.toNat x12) 0)) (r98) else none) else zf25.l8 n m8 (Go.RowKit.wrap64 (Go.RowKit.wrap64 (x11 + List.getD r98 (Int.toNat x12) 0) - Go.Refl.mn (List.getD r96 (Int.toNat (List.getD r95_2 (Int.toNat x12) 0)) 0) (List.getD r98 (Int.toNat x12) 0))) (Go.RowKit.wrap64 (x12 + 1)) (r95_0) (r95_1) (r95_2) (List.set r96 (Int.toNat (List.getD r95_2 (Int.toNat x12) 0)) (Go.RowKit.wrap64 (List.getD r96 (Int.toNat (List.getD r95_2 (Int.toNat x12) 0)) 0 - Go.Refl.mn (List.getD r96 (Int.toNat (List.getD r95_2 (Int.toNat x12) 0)) 0) (List.getD r98 (Int.toNat x12) 0)))) (r97) (r98)) else none) else none) else none) else none) else none) else none) else none) else none) else none) else none) else none) else none) else none) else none) else some ((r96, x11, r97))) := by kernel_rfl
noncomputable abbrev zf25.sg (n : Nat) : Sig := ⟨zf25.ps, zf25.res, zf25 n⟩
theorem zf25.call : Callable Tryz.prog 99 := ⟨Tryz.f99, Tryz.func99, by kernel_rfl, by kernel_rfl⟩
theorem zf25.ok (n : Nat) : FC Tryz.prog [] 99 (zf25.sg n) :=
  evalF_ok (C := zf25.C) ⟨tb_ok, fun n _ _ h => tabOk (l := [(63, (zf21.sg n)), (87, (zf48.sg n))]) (all_cons ⟨zf21.ok n, zf21.call⟩ (all_cons ⟨zf48.ok n, zf48.call⟩ (all_nil))) h, mixed, ar_ok, bld_ok, pts_ok⟩ zf25.A Tryz.func99 zf25.ps zf25.res n
abbrev zf19.ps : List Pm := [.arg (.own (.int .i64) 3), .arg (.v (.slice zt8)), .arg (.v (.int .i64))]
abbrev zf19.res : List M := [(.own (.int .i64) 3), .v (.int .i64), (.own (.int .i64) 3)]
noncomputable def zf19.C : Cfg := { tb := tb, tab := fun n f => Refl.look [(99, (zf25.sg n)), (51, (zf38.sg n))] f, gl := [], ar := ar, bld := bld, pts := pts }
noncomputable def zf19.A : Ann := { joins := [], loops := [(5, { live := [0, 1, 9, 10, 11, 12], base := 91 }), (8, { live := [0, 1, 9, 10, 11, 12, 13], base := 91 }), (16, { live := [0, 1, 9, 10, 11, 12, 13, 16, 17], base := 91 })], ids := [(1, [(19, [19])]), (12, [(60, [123, 124])]), (18, [(79, [])]), (19, [(86, [])])], pids := [], nroots := 155 }
noncomputable def zf19 (n : Nat) (x : List Int × List zt16 × Int) : Option zt15 := evalF zf19.C zf19.A Tryz.f85 zf19.ps zf19.res n x
noncomputable def zf19.K0 (_ : Nat) : Kont zt15 := finK zf19.C (Func.results Tryz.f85).toList zf19.ps zf19.res
noncomputable def zf19.K1 (n : Nat) : Kont zt15 := seqK (fun s' k => joinE zf19.A.joins (codeAt Tryz.f85 [1, 1, 1, 1, 1]) (fun s'' => evalC zf19.C zf19.A n (codeAt Tryz.f85 [1, 1, 1, 1, 1]) s'' k) s') (zf19.K0 n)
noncomputable def zf19.K2 (n : Nat) : Kont zt15 := blockK 0 (zf19.K1 n)
noncomputable def zf19.K3 (n m5 : Nat) : Kont zt15 := loopK (cutAt zf19.A.loops (codeAt Tryz.f85 [1, 1, 1, 1, 0, 1, 0, 0])) (fun s k => evalC zf19.C zf19.A n (codeAt Tryz.f85 [1, 1, 1, 1, 0, 1, 0, 0]) s k) m5 (zf19.K2 n)
noncomputable def zf19.K4 (n m5 : Nat) : Kont zt15 := seqK (fun s' k => joinE zf19.A.joins (codeAt Tryz.f85 [1, 1, 1, 1, 0, 1, 0, 0, 1, 1]) (fun s'' => evalC zf19.C zf19.A n (codeAt Tryz.f85 [1, 1, 1, 1, 0, 1, 0, 0, 1, 1]) s'' k) s') (zf19.K3 n m5)
noncomputable def zf19.K5 (n m5 : Nat) : Kont zt15 := blockK 1 (zf19.K4 n m5)
noncomputable def zf19.K6 (n m5 : Nat) : Kont zt15 := blockK 2 (zf19.K5 n m5)
noncomputable def zf19.K7 (n m5 m8 : Nat) : Kont zt15 := loopK (cutAt zf19.A.loops (codeAt Tryz.f85 [1, 1, 1, 1, 0, 1, 0, 0, 1, 0, 0, 1, 0, 0])) (fun s k => evalC zf19.C zf19.A n (codeAt Tryz.f85 [1, 1, 1, 1, 0, 1, 0, 0, 1, 0, 0, 1, 0, 0]) s k) m8 (zf19.K6 n m5)
noncomputable def zf19.K8 (n m5 m8 : Nat) : Kont zt15 := seqK (fun s' k => joinE zf19.A.joins (codeAt Tryz.f85 [1, 1, 1, 1, 0, 1, 0, 0, 1, 0, 0, 1, 0, 0, 1, 1]) (fun s'' => evalC zf19.C zf19.A n (codeAt Tryz.f85 [1, 1, 1, 1, 0, 1, 0, 0, 1, 0, 0, 1, 0, 0, 1, 1]) s'' k) s') (zf19.K7 n m5 m8)
noncomputable def zf19.K9 (n m5 m8 : Nat) : Kont zt15 := blockK 3 (zf19.K8 n m5 m8)
noncomputable def zf19.K10 (n m5 m8 : Nat) : Kont zt15 := blockK 4 (zf19.K9 n m5 m8)
noncomputable def zf19.l5 (n m5 : Nat) (x1 : List zt16) (x10 x12 : Int) (r91 r92 : List Int) (r93 : List Bool) : Option zt15 := loopE (cutAt zf19.A.loops (codeAt Tryz.f85 [1, 1, 1, 1, 0, 1, 0, 0])) (fun s k => evalC zf19.C zf19.A n (codeAt Tryz.f85 [1, 1, 1, 1, 0, 1, 0, 0]) s k) m5 (St.of 91 155 [(0, .own 91), (1, .val (.slice zt8) x1), (9, .own 92), (10, .val (.int .i64) x10), (11, .own 93), (12, .val (.int .i64) x12)] [(91, .row (.int .i64) 3 r91), (92, .row (.int .i64) 3 r92), (93, .row .bool 4 r93)] []) (zf19.K2 n)
noncomputable def zf19.l8 (n m5 m8 : Nat) (x1 : List zt16) (x10 x12 x13 : Int) (r91 r92 : List Int) (r93 : List Bool) : Option zt15 := loopE (cutAt zf19.A.loops (codeAt Tryz.f85 [1, 1, 1, 1, 0, 1, 0, 0, 1, 0, 0, 1, 0, 0])) (fun s k => evalC zf19.C zf19.A n (codeAt Tryz.f85 [1, 1, 1, 1, 0, 1, 0, 0, 1, 0, 0, 1, 0, 0]) s k) m8 (St.of 91 155 [(0, .own 91), (1, .val (.slice zt8) x1), (9, .own 92), (10, .val (.int .i64) x10), (11, .own 93), (12, .val (.int .i64) x12), (13, .val (.int .i64) x13)] [(91, .row (.int .i64) 3 r91), (92, .row (.int .i64) 3 r92), (93, .row .bool 4 r93)] []) (zf19.K6 n m5)
noncomputable def zf19.l16 (n m5 m8 m16 : Nat) (x1 : List zt16) (x10 x12 : Int) (x13 x17 : Int) (r91 r92 : List Int) (r93 : List Bool) (r94 : List Int) : Option zt15 := loopE (cutAt zf19.A.loops (codeAt Tryz.f85 [1, 1, 1, 1, 0, 1, 0, 0, 1, 0, 0, 1, 0, 0, 1, 0, 0, 1, 1, 1, 1, 1, 1, 0, 0])) (fun s k => evalC zf19.C zf19.A n (codeAt Tryz.f85 [1, 1, 1, 1, 0, 1, 0, 0, 1, 0, 0, 1, 0, 0, 1, 0, 0, 1, 1, 1, 1, 1, 1, 0, 0]) s k) m16 (St.of 91 155 [(0, .own 91), (1, .val (.slice zt8) x1), (9, .own 92), (10, .val (.int .i64) x10), (11, .own 93), (12, .val (.int .i64) x12), (13, .val (.int .i64) x13), (16, .own 94), (17, .val (.int .i64) x17)] [(91, .row (.int .i64) 3 r91), (92, .row (.int .i64) 3 r92), (93, .row .bool 4 r93), (94, .row (.int .i64) 3 r94)] []) (zf19.K10 n m5 m8)
theorem zf19.eq (n : Nat) (x0 : List Int) (x1 : List zt16) (x2 : Int) : zf19 n (x0, x1, x2) = (if 0 ≤ (↑(List.length x1) : Int) then (if (↑(List.length x1) : Int) ≤ (↑(List.length x1) : Int) then (if (↑(List.length x1) : Int) ≤ (↑Go.Refl.maxN : Int) then zf19.l5 n n (x1) (0) (0) (x0) (List.set (List.replicate 1 0) 0 x2) (List.replicate (Int.toNat (↑(List.length x1) : Int)) Bool.false) else none) else none) else none) := by kernel_rfl
theorem zf19.l5_succ (n m5 : Nat) (x1 : List zt16) (x10 x12 : Int) (r91 r92 : List Int) (r93 : List Bool) : zf19.l5 n (m5 + 1) x1 x10 x12 r91 r92 r93 = (if x12 < (↑(List.length r92) : Int) then zf19.l8 n m5 n (x1) (x10) (x12) (0) (r91) (r92) (r93) else some ((r91, x10, r92))) := by kernel_rfl
theorem zf19.l8_succ (n m5 m8 : Nat) (x1 : List zt16) (x10 x12 x13 : Int) (r91 r92 : List Int) (r93 : List Bool) : zf19.l8 n m5 (m8 + 1) x1 x10 x12 x13 r91 r92 r93 = (if x13 < (↑(List.length x1) : Int) then (if 0 ≤ x13 then (if x13 < (↑(List.length r93) : Int) then (if List.getD r93 (Int.toNat x13) Bool.false = Bool.true then zf19.l8 n m5 m8 (x1) (x10) (x12) (Go.RowKit.wrap64 (x13 + 1)) (r91) (r92) (r93) else (if 0 ≤ x13 then (if x13 < (↑(List.length x1) : Int) then (if 0 ≤ x12 then (if x12 < (↑(List.length r92) : Int) then (if Prod.fst (List.getD x1 (Int.toNat x13) (0, 0, [])) = List.getD r92 (Int.toNat x12) 0 then (if 0 ≤ x13 then (if x13 < (↑(List.length r93) : Int) then (if 0 ≤ x13 then (if x13 < (↑(List.length x1) : Int) then ((zf25 n (r91, List.getD x1 (Int.toNat x13) (0, 0, []))).bind fun y2 => zf19.l16 n m5 m8 n (x1) (Go.RowKit.wrap64 (x10 + y2.2.1)) (x12) (x13) (0) y2.1 (r92) (List.set r93 (Int.toNat x13) Bool.true) y2.2.2) else none) else none) else none) else none) else zf19.l8 n m5 m8 (x1) (x10) (x12) (Go.RowKit.wrap64 (x13 + 1)) (r91) (r92) (r93)) else none) else none) else none) else none)) else none) else none) else zf19.l5 n m5 (x1) (x10) (Go.RowKit.wrap64 (x12 + 1)) (r91) (r92) (r93)) := by kernel_rfl
theorem zf19.l16_succ (n m5 m8 m16 : Nat) (x1 : List zt16) (x10 x12 : Int) (x13 x17 : Int) (r91 r92 : List Int) (r93 : List Bool) (r94 : List Int) : zf19.l16 n m5 m8 (m16 + 1) x1 x10 x12 x13 x17 r91 r92 r93 r94 = (if x17 < (↑(List.length r94) : Int) then (if 0 ≤ x17 then (if x17 < (↑(List.length r94) : Int) then ((zf38 n (r92, List.getD r94 (Int.toNat x17) 0)).bind fun y3 => (if y3 < 0 then (if 0 ≤ x17 then (if x17 < (↑(List.length r94) : Int) then (if List.length r92 + List.length (List.set (List.replicate (1 : Nat) (0 : Int)) (0 : Nat) (List.getD r94 (Int.toNat x17) (0 : Int))) ≤ Go.Refl.maxN then zf19.l16 n m5 m8 m16 (x1) (x10) (x12) (x13) (Go.RowKit.wrap64 (x17 + 1)) (r91) (r92 ++ List.set (List.replicate 1 0) 0 (List.getD r94 (Int.toNat x17) 0)) (r93) (r94) else none) else none) else none) else zf19.l16 n m5 m8 m16 (x1) (x10) (x12) (x13) (Go.RowKit.wrap64 (x17 + 1)) (r91) (r92) (r93) (r94))) else none) else none) else zf19.l8 n m5 m8 (x1) (x10) (x12) (Go.RowKit.wrap64 (x13 + 1)) (r91) (r92) (r93)) := by kernel_rfl
noncomputable abbrev zf19.sg (n : Nat) : Sig := ⟨zf19.ps, zf19.res, zf19 n⟩
theorem zf19.call : Callable Tryz.prog 85 := ⟨Tryz.f85, Tryz.func85, by kernel_rfl, by kernel_rfl⟩
theorem zf19.ok (n : Nat) : FC Tryz.prog [] 85 (zf19.sg n) :=
  evalF_ok (C := zf19.C) ⟨tb_ok, fun n _ _ h => tabOk (l := [(99, (zf25.sg n)), (51, (zf38.sg n))]) (all_cons ⟨zf25.ok n, zf25.call⟩ (all_cons ⟨zf38.ok n, zf38.call⟩ (all_nil))) h, mixed, ar_ok, bld_ok, pts_ok⟩ zf19.A Tryz.func85 zf19.ps zf19.res n
abbrev zf26.ps : List Pm := [.arg (.pr (.own (.int .i64) 3) (.pr (.own zt8 69) (.v zt11))), .arg (.v (.int .i64))]
abbrev zf26.res : List M := [(.pr (.own (.int .i64) 3) (.pr (.own zt8 69) (.v zt11))), .v .bool]
noncomputable def zf26.C : Cfg := { tb := tb, tab := fun n f => Refl.look [(25, (zf29.sg n)), (85, (zf19.sg n)), (51, (zf38.sg n))] f, gl := [], ar := ar, bld := bld, pts := pts }
noncomputable def zf26.A : Ann := { joins := [], loops := [(6, { live := [2, 4, 6, 7, 8, 9, 10], base := 64 })], ids := [(1, [(16, [])]), (3, [(25, [97, 98])]), (8, [(44, [])]), (9, [(52, [])])], pids := [(0, [120, 121])], nroots := 128 }
noncomputable def zf26 (n : Nat) (x : zt10 × Int) : Option (zt10 × Bool) := evalF zf26.C zf26.A Tryz.f65 zf26.ps zf26.res n x
noncomputable def zf26.K0 (_ : Nat) : Kont (zt10 × Bool) := finK zf26.C (Func.results Tryz.f65).toList zf26.ps zf26.res
noncomputable def zf26.K1 (n : Nat) : Kont (zt10 × Bool) := seqK (fun s' k => joinE zf26.A.joins (codeAt Tryz.f65 [1, 1, 1, 1, 1]) (fun s'' => evalC zf26.C zf26.A n (codeAt Tryz.f65 [1, 1, 1, 1, 1]) s'' k) s') (zf26.K0 n)
noncomputable def zf26.K2 (n : Nat) : Kont (zt10 × Bool) := blockK 0 (zf26.K1 n)
noncomputable def zf26.l6 (n m6 : Nat) (x7 x10 : Int) (r64_2 r64_3 : Int) (r64_4 r65_2 : Int) (r65_3 r65_4 : Int) (r66 r67 : List Int) (r68 : List zt16) (r69 : List zt16) : Option (zt10 × Bool) := loopE (cutAt zf26.A.loops (codeAt Tryz.f65 [1, 1, 1, 1, 0, 1, 0, 0])) (fun s k => evalC zf26.C zf26.A n (codeAt Tryz.f65 [1, 1, 1, 1, 0, 1, 0, 0]) s k) m6 (St.of 64 128 [(2, .ptr 64 0 0), (4, .ptr 65 0 0), (6, .own 66), (7, .val (.int .i64) x7), (8, .own 67), (9, .own 68), (10, .val (.int .i64) x10)] [(64, .box 35 [.undef, .own 69, .val (.int .i64) r64_2, .val (.int .i64) r64_3, .val (.int .i64) r64_4]), (65, .box 35 [.nils, .nils, .val (.int .i64) r65_2, .val (.int .i64) r65_3, .val (.int .i64) r65_4]), (66, .row (.int .i64) 3 r66), (67, .row (.int .i64) 3 r67), (68, .row zt8 69 r68), (69, .row zt8 69 r69)] []) (zf26.K2 n)
theorem zf26.eq (n : Nat) (x0 : List Int × List zt16 × Int × Int × Int) (x1 : Int) : zf26 n (x0, x1) = ((zf29 n (x1, 0, Go.RowKit.wrap64 ((↑(List.length x0.1) : Int) - 1))).bind fun y0 => (if (!y0) = true then some (((x0.1, x0.2.1, x0.2.2.1, x0.2.2.2.1, x0.2.2.2.2), Bool.false)) else ((zf19 n (x0.1, x0.2.1, x1)).bind fun y3 => zf26.l6 n n y3.2.1 (0) x0.2.2.1 x0.2.2.2.1 x0.2.2.2.2 (0) (0) (0) y3.1 y3.2.2 (List.replicate 0 (0, 0, [])) x0.2.1))) := by kernel_rfl
theorem zf26.l6_succ (n m6 : Nat) (x7 x10 : Int) (r64_2 r64_3 : Int) (r64_4 r65_2 : Int) (r65_3 r65_4 : Int) (r66 r67 : List Int) (r68 : List zt16) (r69 : List zt16) : zf26.l6 n (m6 + 1) x7 x10 r64_2 r64_3 r64_4 r65_2 r65_3 r65_4 r66 r67 r68 r69 = (if x10 < (↑(List.length r69) : Int) then (if 0 ≤ x10 then (if x10 < (↑(List.length r69) : Int) then ((zf38 n (r67, Prod.fst (List.getD r69 (Int.toNat x10) (0, 0, [])))).bind fun y4 => (if y4 < 0 then (if 0 ≤ x10 then (if x10 < (↑(List.length r69) : Int) then (if List.length r68 + List.length (List.set (List.replicate (1 : Nat) ((0 : Int), (0 : Int), [])) (0 : Nat) (List.getD r69 (Int.toNat x10) ((0 : Int), (0 : Int), []))) ≤ Go.Refl.maxN then zf26.l6 n m6 (x7) (Go.RowKit.wrap64 (x10 + 1)) (r64_2) (r64_3) (r64_4) (r65_2) (r65_3) (r65_4) (r66) (r67) (r68 ++ List.set (List.replicate 1 (0, 0, [])) 0 (List.getD r69 (Int.toNat x10) (0, 0, []))) (r69) else none) else none) else none) else zf26.l6 n m6 (x7) (Go.RowKit.wrap64 (x10 + 1)) (r64_2) (r64_3) (r64_4) (r65_2) (r65_3) (r65_4) (r66) (r67) (r68) (r69))) else none) else none) else some (((r66, r68, r64_2, Go.RowKit.wrap64 (r64_3 - x7), r64_4), Bool.true))) := by kernel_rfl
noncomputable abbrev zf26.sg (n : Nat) : Sig := ⟨zf26.ps, zf26.res, zf26 n⟩
theorem zf26.call : Callable Tryz.prog 65 := ⟨Tryz.f65, Tryz.func65, by kernel_rfl, by kernel_rfl⟩
theorem zf26.ok (n : Nat) : FC Tryz.prog [] 65 (zf26.sg n) :=
  evalF_ok (C := zf26.C) ⟨tb_ok, fun n _ _ h => tabOk (l := [(25, (zf29.sg n)), (85, (zf19.sg n)), (51, (zf38.sg n))]) (all_cons ⟨zf29.ok n, zf29.call⟩ (all_cons ⟨zf19.ok n, zf19.call⟩ (all_cons ⟨zf38.ok n, zf38.call⟩ (all_nil)))) h, mixed, ar_ok, bld_ok, pts_ok⟩ zf26.A Tryz.func65 zf26.ps zf26.res n
abbrev zf54.ps : List Pm := [.arg (.v zt14)]
abbrev zf54.res : List M := [.v .bool]
noncomputable def zf54.C : Cfg := { tb := tb, tab := fun n f => Refl.look [(25, (zf29.sg n))] f, gl := [], ar := ar, bld := bld, pts := pts }
noncomputable def zf54.A : Ann := { joins := [], loops := [], ids := [(1, [(5, []), (11, [])])], pids := [], nroots := 77 }
noncomputable def zf54 (n : Nat) (x : Int × Int) : Option (Bool) := evalF zf54.C zf54.A Tryz.f23 zf54.ps zf54.res n x
theorem zf54.eq (n : Nat) (x0 : Int × Int) : zf54 n x0 = ((zf29 n (x0.2, 1, 1000)).bind fun y0 => (if y0 = Bool.true then ((zf29 n (x0.1, 0, x0.2)).bind fun y1 => some (y1)) else some (Bool.false))) := by kernel_rfl
noncomputable abbrev zf54.sg (n : Nat) : Sig := ⟨zf54.ps, zf54.res, zf54 n⟩
theorem zf54.call : Callable Tryz.prog 23 := ⟨Tryz.f23, Tryz.func23, by kernel_rfl, by kernel_rfl⟩
theorem zf54.ok (n : Nat) : FC Tryz.prog [] 23 (zf54.sg n) :=
  evalF_ok (C := zf54.C) ⟨tb_ok, fun n _ _ h => tabOk (l := [(25, (zf29.sg n))]) (all_cons ⟨zf29.ok n, zf29.call⟩ (all_nil)) h, mixed, ar_ok, bld_ok, pts_ok⟩ zf54.A Tryz.func23 zf54.ps zf54.res n
abbrev zf34.ps : List Pm := [.arg (.v (.int .i64)), .arg (.v zt14)]
abbrev zf34.res : List M := [.v (.int .i64)]
noncomputable def zf34.C : Cfg := { tb := tb, tab := fun n f => Refl.look [] f, gl := [], ar := ar, bld := bld, pts := pts }
noncomputable def zf34.A : Ann := { joins := [], loops := [], ids := [], pids := [], nroots := 81 }
noncomputable def zf34 (n : Nat) (x : Int × Int × Int) : Option (Int) := evalF zf34.C zf34.A Tryz.f100 zf34.ps zf34.res n x
theorem zf34.eq (n : Nat) (x0 : Int) (x1 : Int × Int) : zf34 n (x0, x1) = (if Go.RowKit.wrap64 (2 * x1.2) = 0 then none else some (Go.RowKit.wrap64 (Int.tdiv (Go.RowKit.wrap64 (Go.RowKit.wrap64 (Go.RowKit.wrap64 (2 * x0) * x1.1) + x1.2)) (Go.RowKit.wrap64 (2 * x1.2))))) := by kernel_rfl
noncomputable abbrev zf34.sg (n : Nat) : Sig := ⟨zf34.ps, zf34.res, zf34 n⟩
theorem zf34.call : Callable Tryz.prog 100 := ⟨Tryz.f100, Tryz.func100, by kernel_rfl, by kernel_rfl⟩
theorem zf34.ok (n : Nat) : FC Tryz.prog [] 100 (zf34.sg n) :=
  evalF_ok (C := zf34.C) ⟨tb_ok, fun n _ _ h => tabOk (l := []) (all_nil) h, mixed, ar_ok, bld_ok, pts_ok⟩ zf34.A Tryz.func100 zf34.ps zf34.res n
abbrev zf23.ps : List Pm := [.arg (.v (.int .i64)), .arg (.v zt14)]
abbrev zf23.res : List M := [.v (.int .i64)]
noncomputable def zf23.C : Cfg := { tb := tb, tab := fun n f => Refl.look [(100, (zf34.sg n))] f, gl := [], ar := ar, bld := bld, pts := pts }
noncomputable def zf23.A : Ann := { joins := [], loops := [], ids := [(1, [(8, [])])], pids := [], nroots := 102 }
noncomputable def zf23 (n : Nat) (x : Int × Int × Int) : Option (Int) := evalF zf23.C zf23.A Tryz.f86 zf23.ps zf23.res n x
theorem zf23.eq (n : Nat) (x0 : Int) (x1 : Int × Int) : zf23 n (x0, x1) = ((zf34 n (x0, x1.1, x1.2)).bind fun y0 => (if x1.2 = 0 then none else (if Int.tmod (Go.RowKit.wrap64 (Go.RowKit.wrap64 (2 * x0) * x1.1)) x1.2 = 0 then (if x1.2 = 0 then none else (if Int.tmod (Go.RowKit.wrap64 (Int.tdiv (Go.RowKit.wrap64 (Go.RowKit.wrap64 (2 * x0) * x1.1)) x1.2)) 2 = 1 then (if Int.tmod y0 2 = 1 then some (Go.RowKit.wrap64 (y0 - 1)) else some (y0)) else some (y0))) else some (y0)))) := by kernel_rfl
noncomputable abbrev zf23.sg (n : Nat) : Sig := ⟨zf23.ps, zf23.res, zf23 n⟩
theorem zf23.call : Callable Tryz.prog 86 := ⟨Tryz.f86, Tryz.func86, by kernel_rfl, by kernel_rfl⟩
theorem zf23.ok (n : Nat) : FC Tryz.prog [] 86 (zf23.sg n) :=
  evalF_ok (C := zf23.C) ⟨tb_ok, fun n _ _ h => tabOk (l := [(100, (zf34.sg n))]) (all_cons ⟨zf34.ok n, zf34.call⟩ (all_nil)) h, mixed, ar_ok, bld_ok, pts_ok⟩ zf23.A Tryz.func86 zf23.ps zf23.res n
abbrev zf36.ps : List Pm := [.arg (.pr (.own (.int .i64) 3) (.pr (.own zt8 69) (.v zt11))), .arg (.v zt14)]
abbrev zf36.res : List M := [(.pr (.own (.int .i64) 3) (.pr (.own zt8 69) (.v zt11))), .v .bool]
noncomputable def zf36.C : Cfg := { tb := tb, tab := fun n f => Refl.look [(23, (zf54.sg n)), (86, (zf23.sg n))] f, gl := [], ar := ar, bld := bld, pts := pts }
noncomputable def zf36.A : Ann := { joins := [], loops := [(4, { live := [2, 3, 4, 6], base := 50 })], ids := [(1, [(9, [])]), (6, [(26, [])])], pids := [(0, [106, 107])], nroots := 114 }
noncomputable def zf36 (n : Nat) (x : zt10 × Int × Int) : Option (zt10 × Bool) := evalF zf36.C zf36.A Tryz.f66 zf36.ps zf36.res n x
noncomputable def zf36.K0 (_ : Nat) : Kont (zt10 × Bool) := finK zf36.C (Func.results Tryz.f66).toList zf36.ps zf36.res
noncomputable def zf36.K1 (n : Nat) : Kont (zt10 × Bool) := seqK (fun s' k => joinE zf36.A.joins (codeAt Tryz.f66 [1, 1, 1]) (fun s'' => evalC zf36.C zf36.A n (codeAt Tryz.f66 [1, 1, 1]) s'' k) s') (zf36.K0 n)
noncomputable def zf36.K2 (n : Nat) : Kont (zt10 × Bool) := blockK 0 (zf36.K1 n)
noncomputable def zf36.l4 (n m4 : Nat) (x6 r50_2 : Int) (r50_3 r50_4 : Int) (r51_0 r51_1 : Int) (r52_2 r52_3 r52_4 : Int) (r53 : List Int) (r54 : List zt16) : Option (zt10 × Bool) := loopE (cutAt zf36.A.loops (codeAt Tryz.f66 [1, 1, 0, 1, 0, 0])) (fun s k => evalC zf36.C zf36.A n (codeAt Tryz.f66 [1, 1, 0, 1, 0, 0]) s k) m4 (St.of 50 114 [(2, .ptr 50 0 0), (3, .ptr 51 0 0), (4, .ptr 52 0 0), (6, .val (.int .i64) x6)] [(50, .box 35 [.own 53, .own 54, .val (.int .i64) r50_2, .val (.int .i64) r50_3, .val (.int .i64) r50_4]), (51, .box 25 [.val (.int .i64) r51_0, .val (.int .i64) r51_1]), (52, .box 35 [.nils, .nils, .val (.int .i64) r52_2, .val (.int .i64) r52_3, .val (.int .i64) r52_4]), (53, .row (.int .i64) 3 r53), (54, .row zt8 69 r54)] []) (zf36.K2 n)
theorem zf36.eq (n : Nat) (x0 : List Int × List zt16 × Int × Int × Int) (x1 : Int × Int) : zf36 n (x0, x1) = ((zf54 n (x1.1, x1.2)).bind fun y0 => (if (!y0) = true then some (((x0.1, x0.2.1, x0.2.2.1, x0.2.2.2.1, x0.2.2.2.2), Bool.false)) else zf36.l4 n n (0) x0.2.2.1 x0.2.2.2.1 x0.2.2.2.2 x1.1 x1.2 (0) (0) (0) x0.1 x0.2.1)) := by kernel_rfl
theorem zf36.l4_succ (n m4 : Nat) (x6 r50_2 : Int) (r50_3 r50_4 : Int) (r51_0 r51_1 : Int) (r52_2 r52_3 r52_4 : Int) (r53 : List Int) (r54 : List zt16) : zf36.l4 n (m4 + 1) x6 r50_2 r50_3 r50_4 r51_0 r51_1 r52_2 r52_3 r52_4 r53 r54 = (if x6 < (↑(List.length r54) : Int) then (if 0 ≤ x6 then (if x6 < (↑(List.length r54) : Int) then ((zf23 n (Prod.fst (Prod.snd (List.getD r54 (Int.toNat x6) (0, 0, []))), r51_0, r51_1)).bind fun y1 => (if 0 ≤ x6 then (if x6 < (↑(List.length r54) : Int) then (if 0 ≤ x6 then (if x6 < (↑(List.length r54) : Int) then zf36.l4 n m4 (Go.RowKit.wrap64 (x6 + 1)) (r50_2) (Go.RowKit.wrap64 (r50_3 + y1)) (r50_4) (r51_0) (r51_1) (r52_2) (r52_3) (r52_4) (r53) (List.set r54 (Int.toNat x6) (Prod.fst (List.getD r54 (Int.toNat x6) (0, 0, [])), Go.RowKit.wrap64 (Prod.fst (Prod.snd (List.getD r54 (Int.toNat x6) (0, 0, []))) + y1), Prod.snd (Prod.snd (List.getD r54 (Int.toNat x6) (0, 0, []))))) else none) else none) else none) else none)) else none) else none) else some (((r53, r54, r50_2, r50_3, Go.RowKit.wrap64 (r50_4 + 1)), Bool.true))) := by kernel_rfl
noncomputable abbrev zf36.sg (n : Nat) : Sig := ⟨zf36.ps, zf36.res, zf36 n⟩
theorem zf36.call : Callable Tryz.prog 66 := ⟨Tryz.f66, Tryz.func66, by kernel_rfl, by kernel_rfl⟩
theorem zf36.ok (n : Nat) : FC Tryz.prog [] 66 (zf36.sg n) :=
  evalF_ok (C := zf36.C) ⟨tb_ok, fun n _ _ h => tabOk (l := [(23, (zf54.sg n)), (86, (zf23.sg n))]) (all_cons ⟨zf54.ok n, zf54.call⟩ (all_cons ⟨zf23.ok n, zf23.call⟩ (all_nil))) h, mixed, ar_ok, bld_ok, pts_ok⟩ zf36.A Tryz.func66 zf36.ps zf36.res n
abbrev zf43.ps : List Pm := [.arg (.pr (.own (.int .i64) 3) (.pr (.own zt8 69) (.v zt11)))]
abbrev zf43.res : List M := [(.pr (.own (.int .i64) 3) (.pr (.own zt8 69) (.v zt11))), .v .bool]
noncomputable def zf43.C : Cfg := { tb := tb, tab := fun n f => Refl.look [(87, (zf48.sg n))] f, gl := [], ar := ar, bld := bld, pts := pts }
noncomputable def zf43.A : Ann := { joins := [], loops := [(5, { live := [1, 2, 4, 5], base := 38 })], ids := [], pids := [(0, [94, 95])], nroots := 102 }
noncomputable def zf43 (n : Nat) (x : List Int × List zt16 × Int × Int × Int) : Option (zt10 × Bool) := evalF zf43.C zf43.A Tryz.f67 zf43.ps zf43.res n x
noncomputable def zf43.K0 (_ : Nat) : Kont (zt10 × Bool) := finK zf43.C (Func.results Tryz.f67).toList zf43.ps zf43.res
noncomputable def zf43.K1 (n : Nat) : Kont (zt10 × Bool) := seqK (fun s' k => joinE zf43.A.joins (codeAt Tryz.f67 [1, 1, 1, 1]) (fun s'' => evalC zf43.C zf43.A n (codeAt Tryz.f67 [1, 1, 1, 1]) s'' k) s') (zf43.K0 n)
noncomputable def zf43.K2 (n : Nat) : Kont (zt10 × Bool) := blockK 0 (zf43.K1 n)
noncomputable def zf43.l5 (n m5 : Nat) (x5 r38_2 : Int) (r38_3 r38_4 : Int) (r39_2 r39_3 r39_4 : Int) (r40 r41 : List Int) (r42 : List zt16) : Option (zt10 × Bool) := loopE (cutAt zf43.A.loops (codeAt Tryz.f67 [1, 1, 1, 0, 1, 0, 0])) (fun s k => evalC zf43.C zf43.A n (codeAt Tryz.f67 [1, 1, 1, 0, 1, 0, 0]) s k) m5 (St.of 38 102 [(1, .ptr 38 0 0), (2, .ptr 39 0 0), (4, .own 40), (5, .val (.int .i64) x5)] [(38, .box 35 [.own 41, .own 42, .val (.int .i64) r38_2, .val (.int .i64) r38_3, .val (.int .i64) r38_4]), (39, .box 35 [.nils, .nils, .val (.int .i64) r39_2, .val (.int .i64) r39_3, .val (.int .i64) r39_4]), (40, .row (.int .i64) 3 r40), (41, .row (.int .i64) 3 r41), (42, .row zt8 69 r42)] []) (zf43.K2 n)
theorem zf43.eq (n : Nat) (x0 : List Int × List zt16 × Int × Int × Int) : zf43 n x0 = (if x0.2.2.2.1 < 0 then some (((x0.1, x0.2.1, x0.2.2.1, x0.2.2.2.1, x0.2.2.2.2), Bool.false)) else ((zf48 n (x0.2.2.2.1, (↑(List.length x0.1) : Int))).bind fun y0 => zf43.l5 n n (0) x0.2.2.1 x0.2.2.2.1 x0.2.2.2.2 (0) (0) (0) (y0) x0.1 x0.2.1)) := by kernel_rfl
theorem zf43.l5_succ (n m5 : Nat) (x5 r38_2 : Int) (r38_3 r38_4 : Int) (r39_2 r39_3 r39_4 : Int) (r40 r41 : List Int) (r42 : List zt16) : zf43.l5 n (m5 + 1) x5 r38_2 r38_3 r38_4 r39_2 r39_3 r39_4 r40 r41 r42 = (if x5 < (↑(List.length r40) : Int) then (if 0 ≤ x5 then (if x5 < (↑(List.length r41) : Int) then (if 0 ≤ x5 then (if x5 < (↑(List.length r40) : Int) then (if 0 ≤ x5 then (if x5 < (↑(List.length r41) : Int) then zf43.l5 n m5 (Go.RowKit.wrap64 (x5 + 1)) (r38_2) (r38_3) (r38_4) (r39_2) (r39_3) (r39_4) (r40) (List.set r41 (Int.toNat x5) (Go.RowKit.wrap64 (List.getD r41 (Int.toNat x5) 0 + List.getD r40 (Int.toNat x5) 0))) (r42) else none) else none) else none) else none) else none) else none) else some (((r41, r42, r38_2, 0, r38_4), Bool.true))) := by kernel_rfl
noncomputable abbrev zf43.sg (n : Nat) : Sig := ⟨zf43.ps, zf43.res, zf43 n⟩
theorem zf43.call : Callable Tryz.prog 67 := ⟨Tryz.f67, Tryz.func67, by kernel_rfl, by kernel_rfl⟩
theorem zf43.ok (n : Nat) : FC Tryz.prog [] 67 (zf43.sg n) :=
  evalF_ok (C := zf43.C) ⟨tb_ok, fun n _ _ h => tabOk (l := [(87, (zf48.sg n))]) (all_cons ⟨zf48.ok n, zf48.call⟩ (all_nil)) h, mixed, ar_ok, bld_ok, pts_ok⟩ zf43.A Tryz.func67 zf43.ps zf43.res n
abbrev zf50.ps : List Pm := [.arg (.v (.int .i64))]
abbrev zf50.res : List M := [.v .bool]
noncomputable def zf50.C : Cfg := { tb := tb, tab := fun n f => Refl.look [(25, (zf29.sg n))] f, gl := [], ar := ar, bld := bld, pts := pts }
noncomputable def zf50.A : Ann := { joins := [], loops := [], ids := [(1, [(4, [])])], pids := [], nroots := 69 }
noncomputable def zf50 (n : Nat) (x : Int) : Option (Bool) := evalF zf50.C zf50.A Tryz.f26 zf50.ps zf50.res n x
theorem zf50.eq (n : Nat) (x0 : Int) : zf50 n x0 = ((zf29 n (x0, 0, 1000000)).bind fun y0 => some (y0)) := by kernel_rfl
noncomputable abbrev zf50.sg (n : Nat) : Sig := ⟨zf50.ps, zf50.res, zf50 n⟩
theorem zf50.call : Callable Tryz.prog 26 := ⟨Tryz.f26, Tryz.func26, by kernel_rfl, by kernel_rfl⟩
theorem zf50.ok (n : Nat) : FC Tryz.prog [] 26 (zf50.sg n) :=
  evalF_ok (C := zf50.C) ⟨tb_ok, fun n _ _ h => tabOk (l := [(25, (zf29.sg n))]) (all_cons ⟨zf29.ok n, zf29.call⟩ (all_nil)) h, mixed, ar_ok, bld_ok, pts_ok⟩ zf50.A Tryz.func26 zf50.ps zf50.res n
abbrev zf31.ps : List Pm := [.arg (.v (.slice zt8))]
abbrev zf31.res : List M := [.v (.int .i64)]
noncomputable def zf31.C : Cfg := { tb := tb, tab := fun n f => Refl.look [] f, gl := [], ar := ar, bld := bld, pts := pts }
noncomputable def zf31.A : Ann := { joins := [], loops := [(3, { live := [0, 3, 4], base := 19 })], ids := [], pids := [], nroots := 83 }
noncomputable def zf31 (n : Nat) (x : List zt16) : Option (Int) := evalF zf31.C zf31.A Tryz.f36 zf31.ps zf31.res n x
noncomputable def zf31.K0 (_ : Nat) : Kont (Int) := finK zf31.C (Func.results Tryz.f36).toList zf31.ps zf31.res
noncomputable def zf31.K1 (n : Nat) : Kont (Int) := seqK (fun s' k => joinE zf31.A.joins (codeAt Tryz.f36 [1, 1, 1]) (fun s'' => evalC zf31.C zf31.A n (codeAt Tryz.f36 [1, 1, 1]) s'' k) s') (zf31.K0 n)
noncomputable def zf31.K2 (n : Nat) : Kont (Int) := blockK 0 (zf31.K1 n)
noncomputable def zf31.l3 (n m3 : Nat) (x0 : List zt16) (x3 x4 : Int) : Option (Int) := loopE (cutAt zf31.A.loops (codeAt Tryz.f36 [1, 1, 0, 1, 0, 0])) (fun s k => evalC zf31.C zf31.A n (codeAt Tryz.f36 [1, 1, 0, 1, 0, 0]) s k) m3 (St.of 19 83 [(0, .val (.slice zt8) x0), (3, .val (.int .i64) x3), (4, .val (.int .i64) x4)] [] []) (zf31.K2 n)
theorem zf31.eq (n : Nat) (x0 : List zt16) : zf31 n x0 = zf31.l3 n n (x0) (0) (0) := by kernel_rfl
theorem zf31.l3_succ (n m3 : Nat) (x0 : List zt16) (x3 x4 : Int) : zf31.l3 n (m3 + 1) x0 x3 x4 = (if x4 < (↑(List.length x0) : Int) then (if 0 ≤ x4 then (if x4 < (↑(List.length x0) : Int) then zf31.l3 n m3 (x0) (Go.RowKit.wrap64 (x3 + Prod.fst (Prod.snd (List.getD x0 (Int.toNat x4) (0, 0, []))))) (Go.RowKit.wrap64 (x4 + 1)) else none) else none) else some (x3)) := by kernel_rfl
noncomputable abbrev zf31.sg (n : Nat) : Sig := ⟨zf31.ps, zf31.res, zf31 n⟩
theorem zf31.call : Callable Tryz.prog 36 := ⟨Tryz.f36, Tryz.func36, by kernel_rfl, by kernel_rfl⟩
theorem zf31.ok (n : Nat) : FC Tryz.prog [] 36 (zf31.sg n) :=
  evalF_ok (C := zf31.C) ⟨tb_ok, fun n _ _ h => tabOk (l := []) (all_nil) h, mixed, ar_ok, bld_ok, pts_ok⟩ zf31.A Tryz.func36 zf31.ps zf31.res n
abbrev zf49.ps : List Pm := [.arg (.v (.slice (.int .i64)))]
abbrev zf49.res : List M := [.v (.int .i64)]
noncomputable def zf49.C : Cfg := { tb := tb, tab := fun n f => Refl.look [] f, gl := [], ar := ar, bld := bld, pts := pts }
noncomputable def zf49.A : Ann := { joins := [], loops := [(3, { live := [0, 3, 4], base := 18 })], ids := [], pids := [], nroots := 82 }
noncomputable def zf49 (n : Nat) (x : List Int) : Option (Int) := evalF zf49.C zf49.A Tryz.f37 zf49.ps zf49.res n x
noncomputable def zf49.K0 (_ : Nat) : Kont (Int) := finK zf49.C (Func.results Tryz.f37).toList zf49.ps zf49.res
noncomputable def zf49.K1 (n : Nat) : Kont (Int) := seqK (fun s' k => joinE zf49.A.joins (codeAt Tryz.f37 [1, 1, 1]) (fun s'' => evalC zf49.C zf49.A n (codeAt Tryz.f37 [1, 1, 1]) s'' k) s') (zf49.K0 n)
noncomputable def zf49.K2 (n : Nat) : Kont (Int) := blockK 0 (zf49.K1 n)
noncomputable def zf49.l3 (n m3 : Nat) (x0 : List Int) (x3 x4 : Int) : Option (Int) := loopE (cutAt zf49.A.loops (codeAt Tryz.f37 [1, 1, 0, 1, 0, 0])) (fun s k => evalC zf49.C zf49.A n (codeAt Tryz.f37 [1, 1, 0, 1, 0, 0]) s k) m3 (St.of 18 82 [(0, .val (.slice (.int .i64)) x0), (3, .val (.int .i64) x3), (4, .val (.int .i64) x4)] [] []) (zf49.K2 n)
theorem zf49.eq (n : Nat) (x0 : List Int) : zf49 n x0 = zf49.l3 n n (x0) (0) (0) := by kernel_rfl
theorem zf49.l3_succ (n m3 : Nat) (x0 : List Int) (x3 x4 : Int) : zf49.l3 n (m3 + 1) x0 x3 x4 = (if x4 < (↑(List.length x0) : Int) then (if 0 ≤ x4 then (if x4 < (↑(List.length x0) : Int) then zf49.l3 n m3 (x0) (Go.RowKit.wrap64 (x3 + List.getD x0 (Int.toNat x4) 0)) (Go.RowKit.wrap64 (x4 + 1)) else none) else none) else some (x3)) := by kernel_rfl
noncomputable abbrev zf49.sg (n : Nat) : Sig := ⟨zf49.ps, zf49.res, zf49 n⟩
theorem zf49.call : Callable Tryz.prog 37 := ⟨Tryz.f37, Tryz.func37, by kernel_rfl, by kernel_rfl⟩
theorem zf49.ok (n : Nat) : FC Tryz.prog [] 37 (zf49.sg n) :=
  evalF_ok (C := zf49.C) ⟨tb_ok, fun n _ _ h => tabOk (l := []) (all_nil) h, mixed, ar_ok, bld_ok, pts_ok⟩ zf49.A Tryz.func37 zf49.ps zf49.res n
abbrev zf51.ps : List Pm := [.arg (.v zt0)]
abbrev zf51.res : List M := [.v .bool]
noncomputable def zf51.C : Cfg := { tb := tb, tab := fun n f => Refl.look [(34, (zf55.sg n)), (35, (zf52.sg n)), (26, (zf50.sg n)), (25, (zf29.sg n)), (36, (zf31.sg n)), (37, (zf49.sg n))] f, gl := [], ar := ar, bld := bld, pts := pts }
noncomputable def zf51.A : Ann := { joins := [], loops := [], ids := [(1, [(5, []), (13, []), (19, []), (25, []), (31, [])]), (3, [(38, []), (42, [])])], pids := [], nroots := 111 }
noncomputable def zf51 (n : Nat) (x : List Int × List zt16 × Int × Int × Int) : Option (Bool) := evalF zf51.C zf51.A Tryz.f15 zf51.ps zf51.res n x
theorem zf51.eq (n : Nat) (x0 : List Int × List zt16 × Int × Int × Int) : zf51 n x0 = ((zf55 n x0.1).bind fun y0 => (if (!y0) = Bool.true then some (Bool.false) else ((zf52 n (x0.2.1, (↑(List.length x0.1) : Int))).bind fun y1 => (if (!y1) = Bool.true then some (Bool.false) else ((zf50 n x0.2.2.1).bind fun y2 => (if (!y2) = Bool.true then some (Bool.false) else ((zf29 n (x0.2.2.2.1, (-1000000), 1000000)).bind fun y3 => (if (!y3) = Bool.true then some (Bool.false) else ((zf29 n (x0.2.2.2.2, 0, 999)).bind fun y4 => (if (!y4) = true then some (Bool.false) else ((zf31 n x0.2.1).bind fun y5 => ((zf49 n x0.1).bind fun y6 => some (Decidable.decide (Go.RowKit.wrap64 (x0.2.2.1 + y5) = Go.RowKit.wrap64 (y6 + x0.2.2.2.1))))))))))))))) := by kernel_rfl
noncomputable abbrev zf51.sg (n : Nat) : Sig := ⟨zf51.ps, zf51.res, zf51 n⟩
theorem zf51.call : Callable Tryz.prog 15 := ⟨Tryz.f15, Tryz.func15, by kernel_rfl, by kernel_rfl⟩
theorem zf51.ok (n : Nat) : FC Tryz.prog [] 15 (zf51.sg n) :=
  evalF_ok (C := zf51.C) ⟨tb_ok, fun n _ _ h => tabOk (l := [(34, (zf55.sg n)), (35, (zf52.sg n)), (26, (zf50.sg n)), (25, (zf29.sg n)), (36, (zf31.sg n)), (37, (zf49.sg n))]) (all_cons ⟨zf55.ok n, zf55.call⟩ (all_cons ⟨zf52.ok n, zf52.call⟩ (all_cons ⟨zf50.ok n, zf50.call⟩ (all_cons ⟨zf29.ok n, zf29.call⟩ (all_cons ⟨zf31.ok n, zf31.call⟩ (all_cons ⟨zf49.ok n, zf49.call⟩ (all_nil))))))) h, mixed, ar_ok, bld_ok, pts_ok⟩ zf51.A Tryz.func15 zf51.ps zf51.res n
abbrev zf18.ps : List Pm := [.arg (.v zt0), .arg (.v zt1)]
abbrev zf18.res : List M := [.v zt0, .v .bool]
noncomputable def zf18.C : Cfg := { tb := tb, tab := fun n f => Refl.look [(60, (zf20.sg n)), (61, (zf33.sg n)), (63, { params := zf21.ps, res := [.v (.slice (.int .i64))], run := zf21 n }), (62, (zf30.sg n)), (64, (zf41.sg n)), (65, (zf26.sg n)), (66, (zf36.sg n)), (67, (zf43.sg n)), (15, (zf51.sg n))] f, gl := [], ar := ar, bld := bld, pts := pts }
noncomputable def zf18.A : Ann := { joins := [], loops := [], ids := [(1, [(9, [117, 118])]), (5, [(16, [])]), (20, [(80, [])]), (9, [(25, [121, 122])]), (11, [(38, []), (40, [126, 127])]), (13, [(48, [130, 131])]), (15, [(57, [134, 135])]), (17, [(66, [138, 139])]), (19, [(73, [142, 143])])], pids := [], nroots := 149 }
noncomputable def zf18 (n : Nat) (x : zt10 × Int × Int × Int × Int × List Int × Int × Int) : Option (zt10 × Bool) := evalF zf18.C zf18.A Tryz.f47 zf18.ps zf18.res n x
theorem zf18.eq (n : Nat) (x0 : List Int × List zt16 × Int × Int × Int) (x1 : Int × Int × Int × Int × List Int × Int × Int) : zf18 n (x0, x1) = ((zf20 n (x0.1, x0.2.1, x0.2.2.1, x0.2.2.2.1, x0.2.2.2.2)).bind fun y2 => (if x1.1 = 0 then (if List.length y2.1 + List.length (List.set (List.replicate (1 : Nat) (0 : Int)) (0 : Nat) (0 : Int)) ≤ Go.Refl.maxN then ((zf51 n (y2.1 ++ List.set (List.replicate 1 0) 0 0, y2.2.1, y2.2.2.1, y2.2.2.2.1, y2.2.2.2.2)).bind fun y3 => (if (!y3) = true then some ((([], [], 0, 0, 0), Bool.false)) else some (((y2.1 ++ List.set (List.replicate 1 0) 0 0, y2.2.1, y2.2.2.1, y2.2.2.2.1, y2.2.2.2.2), Bool.true)))) else none) else (if x1.1 = 1 then (if x1.1 = 1 then ((zf33 n ((y2.1, y2.2.1, y2.2.2.1, y2.2.2.2.1, y2.2.2.2.2), x1.1, x1.2.1, x1.2.2.1, x1.2.2.2.1, x1.2.2.2.2.1, x1.2.2.2.2.2.1, x1.2.2.2.2.2.2)).bind fun y6 => (if (!y6.2) = Bool.true then some ((([], [], 0, 0, 0), Bool.false)) else ((zf51 n (y6.1.1, y6.1.2.1, y6.1.2.2.1, y6.1.2.2.2.1, y6.1.2.2.2.2)).bind fun y7 => (if (!y7) = true then some ((([], [], 0, 0, 0), Bool.false)) else some (((y6.1.1, y6.1.2.1, y6.1.2.2.1, y6.1.2.2.2.1, y6.1.2.2.2.2), Bool.true)))))) else (if x1.1 = 3 then ((zf21 n x1.2.2.2.2.1).bind fun y8 => ((zf30 n ((y2.1, y2.2.1, y2.2.2.1, y2.2.2.2.1, y2.2.2.2.2), x1.2.1, x1.2.2.1, y8)).bind fun y11 => (if (!y11.2) = Bool.true then some ((([], [], 0, 0, 0), Bool.false)) else ((zf51 n (y11.1.1, y11.1.2.1, y11.1.2.2.1, y11.1.2.2.2.1, y11.1.2.2.2.2)).bind fun y12 => (if (!y12) = true then some ((([], [], 0, 0, 0), Bool.false)) else some (((y11.1.1, y11.1.2.1, y11.1.2.2.1, y11.1.2.2.2.1, y11.1.2.2.2.2), Bool.true))))))) else (if x1.1 = 4 then ((zf41 n ((y2.1, y2.2.1, y2.2.2.1, y2.2.2.2.1, y2.2.2.2.2), x1.1, x1.2.1, x1.2.2.1, x1.2.2.2.1, x1.2.2.2.2.1, x1.2.2.2.2.2.1, x1.2.2.2.2.2.2)).bind fun y15 => (if (!y15.2) = Bool.true then some ((([], [], 0, 0, 0), Bool.false)) else ((zf51 n (y15.1.1, y15.1.2.1, y15.1.2.2.1, y15.1.2.2.2.1, y15.1.2.2.2.2)).bind fun y16 => (if (!y16) = true then some ((([], [], 0, 0, 0), Bool.false)) else some (((y15.1.1, y15.1.2.1, y15.1.2.2.1, y15.1.2.2.2.1, y15.1.2.2.2.2), Bool.true)))))) else (if x1.1 = 5 then ((zf26 n ((y2.1, y2.2.1, y2.2.2.1, y2.2.2.2.1, y2.2.2.2.2), x1.2.1)).bind fun y19 => (if (!y19.2) = Bool.true then some ((([], [], 0, 0, 0), Bool.false)) else ((zf51 n (y19.1.1, y19.1.2.1, y19.1.2.2.1, y19.1.2.2.2.1, y19.1.2.2.2.2)).bind fun y20 => (if (!y20) = true then some ((([], [], 0, 0, 0), Bool.false)) else some (((y19.1.1, y19.1.2.1, y19.1.2.2.1, y19.1.2.2.2.1, y19.1.2.2.2.2), Bool.true)))))) else (if x1.1 = 6 then ((zf36 n ((y2.1, y2.2.1, y2.2.2.1, y2.2.2.2.1, y2.2.2.2.2), x1.2.2.2.2.2.1, x1.2.2.2.2.2.2)).bind fun y23 => (if (!y23.2) = Bool.true then some ((([], [], 0, 0, 0), Bool.false)) else ((zf51 n (y23.1.1, y23.1.2.1, y23.1.2.2.1, y23.1.2.2.2.1, y23.1.2.2.2.2)).bind fun y24 => (if (!y24) = true then some ((([], [], 0, 0, 0), Bool.false)) else some (((y23.1.1, y23.1.2.1, y23.1.2.2.1, y23.1.2.2.2.1, y23.1.2.2.2.2), Bool.true)))))) else (if x1.1 = 7 then ((zf43 n (y2.1, y2.2.1, y2.2.2.1, y2.2.2.2.1, y2.2.2.2.2)).bind fun y27 => (if (!y27.2) = Bool.true then some ((([], [], 0, 0, 0), Bool.false)) else ((zf51 n (y27.1.1, y27.1.2.1, y27.1.2.2.1, y27.1.2.2.2.1, y27.1.2.2.2.2)).bind fun y28 => (if (!y28) = true then some ((([], [], 0, 0, 0), Bool.false)) else some (((y27.1.1, y27.1.2.1, y27.1.2.2.1, y27.1.2.2.2.1, y27.1.2.2.2.2), Bool.true)))))) else some ((([], [], 0, 0, 0), Bool.false)))))))) else (if x1.1 = 2 then ((zf33 n ((y2.1, y2.2.1, y2.2.2.1, y2.2.2.2.1, y2.2.2.2.2), x1.1, x1.2.1, x1.2.2.1, x1.2.2.2.1, x1.2.2.2.2.1, x1.2.2.2.2.2.1, x1.2.2.2.2.2.2)).bind fun y29 => (if (!y29.2) = Bool.true then some ((([], [], 0, 0, 0), Bool.false)) else ((zf51 n (y29.1.1, y29.1.2.1, y29.1.2.2.1, y29.1.2.2.2.1, y29.1.2.2.2.2)).bind fun y30 => (if (!y30) = true then some ((([], [], 0, 0, 0), Bool.false)) else some (((y29.1.1, y29.1.2.1, y29.1.2.2.1, y29.1.2.2.2.1, y29.1.2.2.2.2), Bool.true)))))) else (if x1.1 = 3 then ((zf21 n x1.2.2.2.2.1).bind fun y31 => ((zf30 n ((y2.1, y2.2.1, y2.2.2.1, y2.2.2.2.1, y2.2.2.2.2), x1.2.1, x1.2.2.1, y31)).bind fun y32 => (if (!y32.2) = Bool.true then some ((([], [], 0, 0, 0), Bool.false)) else ((zf51 n (y32.1.1, y32.1.2.1, y32.1.2.2.1, y32.1.2.2.2.1, y32.1.2.2.2.2)).bind fun y33 => (if (!y33) = true then some ((([], [], 0, 0, 0), Bool.false)) else some (((y32.1.1, y32.1.2.1, y32.1.2.2.1, y32.1.2.2.2.1, y32.1.2.2.2.2), Bool.true))))))) else (if x1.1 = 4 then ((zf41 n ((y2.1, y2.2.1, y2.2.2.1, y2.2.2.2.1, y2.2.2.2.2), x1.1, x1.2.1, x1.2.2.1, x1.2.2.2.1, x1.2.2.2.2.1, x1.2.2.2.2.2.1, x1.2.2.2.2.2.2)).bind fun y34 => (if (!y34.2) = Bool.true then some ((([], [], 0, 0, 0), Bool.false)) else ((zf51 n (y34.1.1, y34.1.2.1, y34.1.2.2.1, y34.1.2.2.2.1, y34.1.2.2.2.2)).bind fun y35 => (if (!y35) = true then some ((([], [], 0, 0, 0), Bool.false)) else some (((y34.1.1, y34.1.2.1, y34.1.2.2.1, y34.1.2.2.2.1, y34.1.2.2.2.2), Bool.true)))))) else (if x1.1 = 5 then ((zf26 n ((y2.1, y2.2.1, y2.2.2.1, y2.2.2.2.1, y2.2.2.2.2), x1.2.1)).bind fun y36 => (if (!y36.2) = Bool.true then some ((([], [], 0, 0, 0), Bool.false)) else ((zf51 n (y36.1.1, y36.1.2.1, y36.1.2.2.1, y36.1.2.2.2.1, y36.1.2.2.2.2)).bind fun y37 => (if (!y37) = true then some ((([], [], 0, 0, 0), Bool.false)) else some (((y36.1.1, y36.1.2.1, y36.1.2.2.1, y36.1.2.2.2.1, y36.1.2.2.2.2), Bool.true)))))) else (if x1.1 = 6 then ((zf36 n ((y2.1, y2.2.1, y2.2.2.1, y2.2.2.2.1, y2.2.2.2.2), x1.2.2.2.2.2.1, x1.2.2.2.2.2.2)).bind fun y38 => (if (!y38.2) = Bool.true then some ((([], [], 0, 0, 0), Bool.false)) else ((zf51 n (y38.1.1, y38.1.2.1, y38.1.2.2.1, y38.1.2.2.2.1, y38.1.2.2.2.2)).bind fun y39 => (if (!y39) = true then some ((([], [], 0, 0, 0), Bool.false)) else some (((y38.1.1, y38.1.2.1, y38.1.2.2.1, y38.1.2.2.2.1, y38.1.2.2.2.2), Bool.true)))))) else (if x1.1 = 7 then ((zf43 n (y2.1, y2.2.1, y2.2.2.1, y2.2.2.2.1, y2.2.2.2.2)).bind fun y40 => (if (!y40.2) = Bool.true then some ((([], [], 0, 0, 0), Bool.false)) else ((zf51 n (y40.1.1, y40.1.2.1, y40.1.2.2.1, y40.1.2.2.2.1, y40.1.2.2.2.2)).bind fun y41 => (if (!y41) = true then some ((([], [], 0, 0, 0), Bool.false)) else some (((y40.1.1, y40.1.2.1, y40.1.2.2.1, y40.1.2.2.2.1, y40.1.2.2.2.2), Bool.true)))))) else some ((([], [], 0, 0, 0), Bool.false))))))))))) := by kernel_rfl
noncomputable abbrev zf18.sg (n : Nat) : Sig := ⟨zf18.ps, zf18.res, zf18 n⟩
theorem zf18.call : Callable Tryz.prog 47 := ⟨Tryz.f47, Tryz.func47, by kernel_rfl, by kernel_rfl⟩
theorem zf18.ok (n : Nat) : FC Tryz.prog [] 47 (zf18.sg n) :=
  evalF_ok (C := zf18.C) ⟨tb_ok, fun n _ _ h => tabOk (l := [(60, (zf20.sg n)), (61, (zf33.sg n)), (63, { params := zf21.ps, res := [.v (.slice (.int .i64))], run := zf21 n }), (62, (zf30.sg n)), (64, (zf41.sg n)), (65, (zf26.sg n)), (66, (zf36.sg n)), (67, (zf43.sg n)), (15, (zf51.sg n))]) (all_cons ⟨zf20.ok n, zf20.call⟩ (all_cons ⟨zf33.ok n, zf33.call⟩ (all_cons ⟨FC.weak (.cons (.own _ _) .nil) HEq.rfl (zf21.ok n), zf21.call⟩ (all_cons ⟨zf30.ok n, zf30.call⟩ (all_cons ⟨zf41.ok n, zf41.call⟩ (all_cons ⟨zf26.ok n, zf26.call⟩ (all_cons ⟨zf36.ok n, zf36.call⟩ (all_cons ⟨zf43.ok n, zf43.call⟩ (all_cons ⟨zf51.ok n, zf51.call⟩ (all_nil)))))))))) h, mixed, ar_ok, bld_ok, pts_ok⟩ zf18.A Tryz.func47 zf18.ps zf18.res n
abbrev zf45.ps : List Pm := [.box 61 (.v (.pair (.slice (.int .u8)) (.int .i64))), .arg (.v zt0)]
abbrev zf45.res : List M := [(.own zt1 27), .v zt0]
noncomputable def zf45.C : Cfg := { tb := tb, tab := fun n f => Refl.look [(18, (zf39.sg n)), (16, (zf46.sg n)), (47, (zf18.sg n))] f, gl := [], ar := ar, bld := bld, pts := pts }
noncomputable def zf45.A : Ann := { joins := [], loops := [(3, { live := [0, 3, 5, 6, 7], base := 36 })], ids := [(2, [(13, []), (14, [])]), (5, [(21, [])]), (6, [(25, [])]), (9, [(32, [])])], pids := [], nroots := 100 }
noncomputable def zf45 (n : Nat) (x : (List Int × Int) × List Int × List zt16 × Int × Int × Int) : Option zt2 := evalF zf45.C zf45.A Tryz.f32 zf45.ps zf45.res n x
noncomputable def zf45.K0 (_ : Nat) : Kont zt2 := finK zf45.C (Func.results Tryz.f32).toList zf45.ps zf45.res
noncomputable def zf45.K1 (n : Nat) : Kont zt2 := seqK (fun s' k => joinE zf45.A.joins (codeAt Tryz.f32 [1, 1, 1]) (fun s'' => evalC zf45.C zf45.A n (codeAt Tryz.f32 [1, 1, 1]) s'' k) s') (zf45.K0 n)
noncomputable def zf45.K2 (n : Nat) : Kont zt2 := blockK 0 (zf45.K1 n)
noncomputable def zf45.l3 (n m3 : Nat) (x7 : Int) (r0_0 : List Int) (r0_1 : Int) (r36_0 : List Int) (r36_1 : List zt16) (r36_2 r36_3 : Int) (r36_4 r37_2 : Int) (r37_3 r37_4 : Int) (r38 : List zt12) : Option zt2 := loopE (cutAt zf45.A.loops (codeAt Tryz.f32 [1, 1, 0, 1, 0, 0])) (fun s k => evalC zf45.C zf45.A n (codeAt Tryz.f32 [1, 1, 0, 1, 0, 0]) s k) m3 (St.of 36 100 [(0, .ptr 0 0 0), (3, .ptr 36 0 0), (5, .ptr 37 0 0), (6, .own 38), (7, .val (.int .i64) x7)] [(0, .box 61 [.val (.slice (.int .u8)) r0_0, .val (.int .i64) r0_1]), (36, .box 35 [.val (.slice (.int .i64)) r36_0, .val (.slice zt8) r36_1, .val (.int .i64) r36_2, .val (.int .i64) r36_3, .val (.int .i64) r36_4]), (37, .box 35 [.nils, .nils, .val (.int .i64) r37_2, .val (.int .i64) r37_3, .val (.int .i64) r37_4]), (38, .row zt1 27 r38)] [0]) (zf45.K2 n)
theorem zf45.eq (n : Nat) (x0 : List Int × Int) (x1 : List Int × List zt16 × Int × Int × Int) : zf45 n (x0, x1) = ((zf39 n ((x0.1, x0.2), List.set (List.set (List.set (List.set (List.set (List.set (List.replicate 6 0) 0 8) 1 12) 2 5) 3 18) 4 0) 5 2)).bind fun y0 => zf45.l3 n n y0.1 y0.2.1 y0.2.2 x1.1 x1.2.1 x1.2.2.1 x1.2.2.2.1 x1.2.2.2.2 (0) (0) (0) (List.replicate 0 (0, 0, 0, 0, [], 0, 0))) := by kernel_rfl
theorem zf45.l3_succ (n m3 : Nat) (x7 : Int) (r0_0 : List Int) (r0_1 : Int) (r36_0 : List Int) (r36_1 : List zt16) (r36_2 r36_3 : Int) (r36_4 r37_2 : Int) (r37_3 r37_4 : Int) (r38 : List zt12) : zf45.l3 n (m3 + 1) x7 r0_0 r0_1 r36_0 r36_1 r36_2 r36_3 r36_4 r37_2 r37_3 r37_4 r38 = (if x7 > 0 then ((zf46 n ((r0_0, r0_1), r36_0, r36_1, r36_2, r36_3, r36_4)).bind fun y1 => ((zf18 n ((r36_0, r36_1, r36_2, r36_3, r36_4), y1.1.1, y1.1.2.1, y1.1.2.2.1, y1.1.2.2.2.1, y1.1.2.2.2.2.1, y1.1.2.2.2.2.2.1, y1.1.2.2.2.2.2.2)).bind fun y2 => (if y2.2 = true then (if List.length r38 + List.length (List.set (List.replicate (1 : Nat) ((0 : Int), (0 : Int), (0 : Int), (0 : Int), [], (0 : Int), (0 : Int))) (0 : Nat) (y1.1.1, y1.1.2.1, y1.1.2.2.1, y1.1.2.2.2.1, y1.1.2.2.2.2.1, y1.1.2.2.2.2.2.1, y1.1.2.2.2.2.2.2)) ≤ Go.Refl.maxN then zf45.l3 n m3 (Go.RowKit.wrap64 (x7 - 1)) y1.2.1 y1.2.2 y2.1.1 y2.1.2.1 y2.1.2.2.1 y2.1.2.2.2.1 y2.1.2.2.2.2 (r37_2) (r37_3) (r37_4) (r38 ++ List.set (List.replicate 1 (0, 0, 0, 0, [], 0, 0)) 0 (y1.1.1, y1.1.2.1, y1.1.2.2.1, y1.1.2.2.2.1, y1.1.2.2.2.2.1, y1.1.2.2.2.2.2.1, y1.1.2.2.2.2.2.2)) else none) else zf45.l3 n m3 (Go.RowKit.wrap64 (x7 - 1)) y1.2.1 y1.2.2 (r36_0) (r36_1) (r36_2) (r36_3) (r36_4) (r37_2) (r37_3) (r37_4) (r38)))) else some ((r38, (r36_0, r36_1, r36_2, r36_3, r36_4), r0_0, r0_1))) := by kernel_rfl
noncomputable abbrev zf45.sg (n : Nat) : Sig := ⟨zf45.ps, zf45.res, zf45 n⟩
theorem zf45.call : Callable Tryz.prog 32 := ⟨Tryz.f32, Tryz.func32, by kernel_rfl, by kernel_rfl⟩
theorem zf45.ok (n : Nat) : FC Tryz.prog [] 32 (zf45.sg n) :=
  evalF_ok (C := zf45.C) ⟨tb_ok, fun n _ _ h => tabOk (l := [(18, (zf39.sg n)), (16, (zf46.sg n)), (47, (zf18.sg n))]) (all_cons ⟨zf39.ok n, zf39.call⟩ (all_cons ⟨zf46.ok n, zf46.call⟩ (all_cons ⟨zf18.ok n, zf18.call⟩ (all_nil)))) h, mixed, ar_ok, bld_ok, pts_ok⟩ zf45.A Tryz.func32 zf45.ps zf45.res n
abbrev zf17.ps : List Pm := [.box 61 (.v (.pair (.slice (.int .u8)) (.int .i64)))]
abbrev zf17.res : List M := [.v zt0]
noncomputable def zf17.C : Cfg := { tb := tb, tab := fun n f => Refl.look [(33, (zf27.sg n)), (32, (zf45.sg n)), (17, (zf40.sg n)), (18, (zf39.sg n))] f, gl := [], ar := ar, bld := bld, pts := pts }
noncomputable def zf17.A : Ann := { joins := [], loops := [], ids := [(1, [(8, [])]), (2, [(13, [])]), (6, [(23, []), (24, [])])], pids := [], nroots := 94 }
noncomputable def zf17 (n : Nat) (x : List Int × Int) : Option (zt10 × List Int × Int) := evalF zf17.C zf17.A Tryz.f14 zf17.ps zf17.res n x
theorem zf17.eq (n : Nat) (x0 : List Int × Int) : zf17 n x0 = ((zf27 n (x0.1, x0.2)).bind fun y0 => ((zf45 n ((y0.2.1, y0.2.2), y0.1)).bind fun y1 => ((zf40 n ((y1.2.2.1, y1.2.2.2), 20)).bind fun y2 => (if y2.1 = 0 then some (((y1.2.1.1, y1.2.1.2.1, y1.2.1.2.2.1, Go.RowKit.wrap64 (y1.2.1.2.2.2.1 + 1), y1.2.1.2.2.2.2), y2.2.1, y2.2.2)) else (if y2.1 = 1 then ((zf39 n ((y2.2.1, y2.2.2), List.set (List.set (List.replicate 2 0) 0 (-1)) 1 1000)).bind fun y3 => some (((y1.2.1.1, y1.2.1.2.1, y1.2.1.2.2.1, y1.2.1.2.2.2.1, y3.1), y3.2.1, y3.2.2))) else (if y2.1 = 2 then some ((([], y1.2.1.2.1, y1.2.1.2.2.1, y1.2.1.2.2.2.1, y1.2.1.2.2.2.2), y2.2.1, y2.2.2)) else some (((y1.2.1.1, y1.2.1.2.1, y1.2.1.2.2.1, y1.2.1.2.2.2.1, y1.2.1.2.2.2.2), y2.2.1, y2.2.2)))))))) := by kernel_rfl
noncomputable abbrev zf17.sg (n : Nat) : Sig := ⟨zf17.ps, zf17.res, zf17 n⟩
theorem zf17.call : Callable Tryz.prog 14 := ⟨Tryz.f14, Tryz.func14, by kernel_rfl, by kernel_rfl⟩
theorem zf17.ok (n : Nat) : FC Tryz.prog [] 14 (zf17.sg n) :=
  evalF_ok (C := zf17.C) ⟨tb_ok, fun n _ _ h => tabOk (l := [(33, (zf27.sg n)), (32, (zf45.sg n)), (17, (zf40.sg n)), (18, (zf39.sg n))]) (all_cons ⟨zf27.ok n, zf27.call⟩ (all_cons ⟨zf45.ok n, zf45.call⟩ (all_cons ⟨zf40.ok n, zf40.call⟩ (all_cons ⟨zf39.ok n, zf39.call⟩ (all_nil))))) h, mixed, ar_ok, bld_ok, pts_ok⟩ zf17.A Tryz.func14 zf17.ps zf17.res n
abbrev zf12.ps : List Pm := [.arg (.v (.slice (.int .u8)))]
abbrev zf12.res : List M := [.v zt0, .v zt1]
noncomputable def zf12.C : Cfg := { tb := tb, tab := fun n f => Refl.look [(13, (zf35.sg n)), (14, (zf17.sg n)), (15, (zf51.sg n)), (16, (zf46.sg n)), (17, (zf40.sg n)), (18, (zf39.sg n))] f, gl := [], ar := ar, bld := bld, pts := pts }
noncomputable def zf12.A : Ann := { joins := [], loops := [], ids := [(2, [(10, [])]), (4, [(13, [])]), (5, [(16, [])]), (6, [(18, [])]), (8, [(22, []), (23, [])]), (10, [(28, []), (29, [])]), (12, [(34, []), (35, [])])], pids := [], nroots := 103 }
noncomputable def zf12 (n : Nat) (x : List Int) : Option (zt10 × Int × Int × Int × Int × List Int × Int × Int) := evalF zf12.C zf12.A Tryz.f8 zf12.ps zf12.res n x
theorem zf12.eq (n : Nat) (x0 : List Int) : zf12 n x0 = ((zf35 n x0).bind fun y0 => ((zf17 n (y0.1, y0.2)).bind fun y1 => ((zf51 n (y1.1.1, y1.1.2.1, y1.1.2.2.1, y1.1.2.2.2.1, y1.1.2.2.2.2)).bind fun y2 => (if (y2) = true then ((zf46 n ((y1.2.1, y1.2.2), y1.1.1, y1.1.2.1, y1.1.2.2.1, y1.1.2.2.2.1, y1.1.2.2.2.2)).bind fun y3 => ((zf40 n ((y3.2.1, y3.2.2), 16)).bind fun y4 => (if y4.1 = 0 then ((zf39 n ((y4.2.1, y4.2.2), List.set (List.set (List.set (List.set (List.replicate 4 0) 0 8) 1 (-1)) 2 1) 3 3)).bind fun y5 => some (((y1.1.1, y1.1.2.1, y1.1.2.2.1, y1.1.2.2.2.1, y1.1.2.2.2.2), y5.1, y3.1.2.1, y3.1.2.2.1, y3.1.2.2.2.1, y3.1.2.2.2.2.1, y3.1.2.2.2.2.2.1, y3.1.2.2.2.2.2.2))) else (if y4.1 = 1 then ((zf39 n ((y4.2.1, y4.2.2), List.set (List.set (List.set (List.set (List.replicate 4 0) 0 0) 1 100001) 2 1000001) 3 (-1))).bind fun y6 => some (((y1.1.1, y1.1.2.1, y1.1.2.2.1, y1.1.2.2.2.1, y1.1.2.2.2.2), y3.1.1, y3.1.2.1, y6.1, y3.1.2.2.2.1, y3.1.2.2.2.2.1, y3.1.2.2.2.2.2.1, y3.1.2.2.2.2.2.2))) else (if y4.1 = 2 then ((zf39 n ((y4.2.1, y4.2.2), List.set (List.set (List.set (List.replicate 3 0) 0 (-1)) 1 12) 2 100)).bind fun y7 => some (((y1.1.1, y1.1.2.1, y1.1.2.2.1, y1.1.2.2.2.1, y1.1.2.2.2.2), y3.1.1, y7.1, y3.1.2.2.1, y3.1.2.2.2.1, y3.1.2.2.2.2.1, y3.1.2.2.2.2.2.1, y3.1.2.2.2.2.2.2))) else some (((y1.1.1, y1.1.2.1, y1.1.2.2.1, y1.1.2.2.2.1, y1.1.2.2.2.2), y3.1.1, y3.1.2.1, y3.1.2.2.1, y3.1.2.2.2.1, y3.1.2.2.2.2.1, y3.1.2.2.2.2.2.1, y3.1.2.2.2.2.2.2))))))) else ((zf40 n ((y1.2.1, y1.2.2), 16)).bind fun y8 => (if y8.1 = 0 then ((zf39 n ((y8.2.1, y8.2.2), List.set (List.set (List.set (List.set (List.replicate 4 0) 0 8) 1 (-1)) 2 1) 3 3)).bind fun y9 => some (((y1.1.1, y1.1.2.1, y1.1.2.2.1, y1.1.2.2.2.1, y1.1.2.2.2.2), y9.1, 0, 0, 0, [], 0, 0))) else (if y8.1 = 1 then ((zf39 n ((y8.2.1, y8.2.2), List.set (List.set (List.set (List.set (List.replicate 4 0) 0 0) 1 100001) 2 1000001) 3 (-1))).bind fun y10 => some (((y1.1.1, y1.1.2.1, y1.1.2.2.1, y1.1.2.2.2.1, y1.1.2.2.2.2), 7, 0, y10.1, 0, [], 0, 0))) else (if y8.1 = 2 then ((zf39 n ((y8.2.1, y8.2.2), List.set (List.set (List.set (List.replicate 3 0) 0 (-1)) 1 12) 2 100)).bind fun y11 => some (((y1.1.1, y1.1.2.1, y1.1.2.2.1, y1.1.2.2.2.1, y1.1.2.2.2.2), 7, y11.1, 0, 0, [], 0, 0))) else some (((y1.1.1, y1.1.2.1, y1.1.2.2.1, y1.1.2.2.2.1, y1.1.2.2.2.2), 7, 0, 0, 0, [], 0, 0)))))))))) := by kernel_rfl
noncomputable abbrev zf12.sg (n : Nat) : Sig := ⟨zf12.ps, zf12.res, zf12 n⟩
theorem zf12.call : Callable Tryz.prog 8 := ⟨Tryz.f8, Tryz.func8, by kernel_rfl, by kernel_rfl⟩
theorem zf12.ok (n : Nat) : FC Tryz.prog [] 8 (zf12.sg n) :=
  evalF_ok (C := zf12.C) ⟨tb_ok, fun n _ _ h => tabOk (l := [(13, (zf35.sg n)), (14, (zf17.sg n)), (15, (zf51.sg n)), (16, (zf46.sg n)), (17, (zf40.sg n)), (18, (zf39.sg n))]) (all_cons ⟨zf35.ok n, zf35.call⟩ (all_cons ⟨zf17.ok n, zf17.call⟩ (all_cons ⟨zf51.ok n, zf51.call⟩ (all_cons ⟨zf46.ok n, zf46.call⟩ (all_cons ⟨zf40.ok n, zf40.call⟩ (all_cons ⟨zf39.ok n, zf39.call⟩ (all_nil))))))) h, mixed, ar_ok, bld_ok, pts_ok⟩ zf12.A Tryz.func8 zf12.ps zf12.res n
abbrev zf13.ps : List Pm := [.arg (.v (.slice (.int .u8)))]
abbrev zf13.res : List M := [.v zt1]
noncomputable def zf13.C : Cfg := { tb := tb, tab := fun n f => Refl.look [(8, (zf12.sg n))] f, gl := [], ar := ar, bld := bld, pts := pts }
noncomputable def zf13.A : Ann := { joins := [], loops := [], ids := [(1, [(7, [])])], pids := [], nroots := 75 }
noncomputable def zf13 (n : Nat) (x : List Int) : Option zt12 := evalF zf13.C zf13.A Tryz.f4 zf13.ps zf13.res n x
theorem zf13.eq (n : Nat) (x0 : List Int) : zf13 n x0 = ((zf12 n x0).bind fun y0 => some ((y0.2.1, y0.2.2.1, y0.2.2.2.1, y0.2.2.2.2.1, y0.2.2.2.2.2.1, y0.2.2.2.2.2.2.1, y0.2.2.2.2.2.2.2))) := by kernel_rfl
noncomputable abbrev zf13.sg (n : Nat) : Sig := ⟨zf13.ps, zf13.res, zf13 n⟩
theorem zf13.call : Callable Tryz.prog 4 := ⟨Tryz.f4, Tryz.func4, by kernel_rfl, by kernel_rfl⟩
theorem zf13.ok (n : Nat) : FC Tryz.prog [] 4 (zf13.sg n) :=
  evalF_ok (C := zf13.C) ⟨tb_ok, fun n _ _ h => tabOk (l := [(8, (zf12.sg n))]) (all_cons ⟨zf12.ok n, zf12.call⟩ (all_nil)) h, mixed, ar_ok, bld_ok, pts_ok⟩ zf13.A Tryz.func4 zf13.ps zf13.res n
abbrev zf57.ps : List Pm := itPs
abbrev zf57.res : List M := itRes
noncomputable def zf57 (n : Nat) : Int → Option ByteArray := itRun
noncomputable abbrev zf57.sg (n : Nat) : Sig := ⟨zf57.ps, zf57.res, zf57 n⟩
theorem zf57.call : Callable Tryz.prog 19 := ⟨Tryz.f19, Tryz.func19, by kernel_rfl, by kernel_rfl⟩
theorem zf57.ok (n : Nat) : FC Tryz.prog [g2] 19 (zf57.sg n) := it_FC Tryz.laysM171 (.head _) (by kernel_rfl)
abbrev zf4.ps : List Pm := [.arg (.v zt14)]
abbrev zf4.res : List M := [.v .bool]
noncomputable def zf4.C : Cfg := { tb := tb, tab := fun n f => Refl.look [] f, gl := [], ar := ar, bld := bld, pts := pts }
noncomputable def zf4.A : Ann := { joins := [], loops := [], ids := [], pids := [], nroots := 87 }
noncomputable def zf4 (n : Nat) (x : Int × Int) : Option (Bool) := evalF zf4.C zf4.A Tryz.f20 zf4.ps zf4.res n x
theorem zf4.eq (n : Nat) (x0 : Int × Int) : zf4 n x0 = (if x0.2 ≥ 1 then (if x0.2 ≤ 1000 then (if x0.1 ≥ 0 then some (Decidable.decide (x0.1 ≤ x0.2)) else some (Bool.false)) else some (Bool.false)) else some (Bool.false)) := by kernel_rfl
noncomputable abbrev zf4.sg (n : Nat) : Sig := ⟨zf4.ps, zf4.res, zf4 n⟩
theorem zf4.call : Callable Tryz.prog 20 := ⟨Tryz.f20, Tryz.func20, by kernel_rfl, by kernel_rfl⟩
theorem zf4.ok (n : Nat) : FC Tryz.prog [] 20 (zf4.sg n) :=
  evalF_ok (C := zf4.C) ⟨tb_ok, fun n _ _ h => tabOk (l := []) (all_nil) h, mixed, ar_ok, bld_ok, pts_ok⟩ zf4.A Tryz.func20 zf4.ps zf4.res n
abbrev zf59.ps : List Pm := wsPs 73 5
abbrev zf59.res : List M := wsRes
noncomputable def zf59 (n : Nat) : List Int × ByteArray → Option (Int × List Int × List Int) := wsRun
noncomputable abbrev zf59.sg (n : Nat) : Sig := ⟨zf59.ps, zf59.res, zf59 n⟩
theorem zf59.call : Callable Tryz.prog 40 := ⟨Tryz.f40, Tryz.func40, by kernel_rfl, by kernel_rfl⟩
theorem zf59.ok (n : Nat) : FC Tryz.prog [] 40 (zf59.sg n) := ws_FC Tryz.wsL Tryz.wsX
abbrev zf58.ps : List Pm := stPs 73 5
abbrev zf58.res : List M := stRes
noncomputable def zf58 (n : Nat) : List Int → Option ByteArray := stRun
noncomputable abbrev zf58.sg (n : Nat) : Sig := ⟨zf58.ps, zf58.res, zf58 n⟩
theorem zf58.call : Callable Tryz.prog 41 := ⟨Tryz.f41, Tryz.func41, by kernel_rfl, by kernel_rfl⟩
theorem zf58.ok (n : Nat) : FC Tryz.prog [] 41 (zf58.sg n) := st_FC Tryz.lays169 Tryz.Builder_Extra_169
abbrev zf9.ps : List Pm := [.arg (.v (.slice (.int .i64)))]
abbrev zf9.res : List M := [.v .str, .v .bool]
noncomputable def zf9.C : Cfg := { tb := tb, tab := fun n f => Refl.look [(19, (zf57.sg n)), (40, (zf59.sg n)), (41, (zf58.sg n))] f, gl := [g2], ar := ar, bld := bld, pts := pts }
noncomputable def zf9.A : Ann := { joins := [], loops := [(3, { live := [4, 7, 8, 9], base := 25 })], ids := [(1, [(4, [4, 40])]), (7, [(20, []), (22, [22])]), (9, [(24, [])])], pids := [], nroots := 89 }
noncomputable def zf9 (n : Nat) (x : List Int) : Option (ByteArray × Bool) := evalF zf9.C zf9.A Tryz.f21 zf9.ps zf9.res n x
noncomputable def zf9.K0 (_ : Nat) : Kont (ByteArray × Bool) := finK zf9.C (Func.results Tryz.f21).toList zf9.ps zf9.res
noncomputable def zf9.K1 (n : Nat) : Kont (ByteArray × Bool) := seqK (fun s' k => joinE zf9.A.joins (codeAt Tryz.f21 [1, 1, 1]) (fun s'' => evalC zf9.C zf9.A n (codeAt Tryz.f21 [1, 1, 1]) s'' k) s') (zf9.K0 n)
noncomputable def zf9.K2 (n : Nat) : Kont (ByteArray × Bool) := blockK 0 (zf9.K1 n)
noncomputable def zf9.l3 (n m3 : Nat) (x7 : List Int) (x8 x9 : Int) (r26 : List Int) : Option (ByteArray × Bool) := loopE (cutAt zf9.A.loops (codeAt Tryz.f21 [1, 1, 0, 1, 0, 0])) (fun s k => evalC zf9.C zf9.A n (codeAt Tryz.f21 [1, 1, 0, 1, 0, 0]) s k) m3 (St.of 25 89 [(4, .ptr 25 0 0), (7, .val (.slice (.int .i64)) x7), (8, .val (.int .i64) x8), (9, .val (.int .i64) x9)] [(25, .box 73 [.optr 25, .own 26]), (26, .row (.int .u8) 5 r26)] []) (zf9.K2 n)
theorem zf9.eq (n : Nat) (x0 : List Int) : zf9 n x0 = zf9.l3 n n (x0) ((↑(List.length x0) : Int)) (0) ([]) := by kernel_rfl
theorem zf9.l3_succ (n m3 : Nat) (x7 : List Int) (x8 x9 : Int) (r26 : List Int) : zf9.l3 n (m3 + 1) x7 x8 x9 r26 = (if x9 < x8 then (if 0 ≤ x9 then (if x9 < (↑(List.length x7) : Int) then (if List.getD x7 (Int.toNat x9) 0 < 0 then some (({ data := #[] }, Bool.false)) else (if List.getD x7 (Int.toNat x9) 0 > 99 then some (({ data := #[] }, Bool.false)) else ((zf57 n (List.getD x7 (Int.toNat x9) 0)).bind fun y0 => (if ByteArray.size { data := #[(32 : UInt8)] } + ByteArray.size y0 ≤ Go.Refl.maxN then ((zf59 n (r26, { data := #[(32 : UInt8)] } ++ y0)).bind fun y1 => zf9.l3 n m3 (x7) (x8) (Go.RowKit.wrap64 (x9 + 1)) y1.2.2) else none)))) else none) else none) else ((zf58 n r26).bind fun y2 => some ((y2, Bool.true)))) := by kernel_rfl
noncomputable abbrev zf9.sg (n : Nat) : Sig := ⟨zf9.ps, zf9.res, zf9 n⟩
theorem zf9.call : Callable Tryz.prog 21 := ⟨Tryz.f21, Tryz.func21, by kernel_rfl, by kernel_rfl⟩
theorem zf9.ok (n : Nat) : FC Tryz.prog [g2] 21 (zf9.sg n) :=
  evalF_ok (C := zf9.C) ⟨tb_ok, fun n _ _ h => tabOk (l := [(19, (zf57.sg n)), (40, (zf59.sg n)), (41, (zf58.sg n))]) (all_cons ⟨zf57.ok n, zf57.call⟩ (all_cons ⟨(.mono (gl := []) (gl' := [g2]) (all_nil) (zf59.ok n)), zf59.call⟩ (all_cons ⟨(.mono (gl := []) (gl' := [g2]) (all_nil) (zf58.ok n)), zf58.call⟩ (all_nil)))) h, mixed, ar_ok, bld_ok, pts_ok⟩ zf9.A Tryz.func21 zf9.ps zf9.res n
abbrev zf3.ps : List Pm := [.arg (.v (.int .i64))]
abbrev zf3.res : List M := [.v .str]
noncomputable def zf3.C : Cfg := { tb := tb, tab := fun n f => Refl.look [(19, (zf57.sg n))] f, gl := [g2], ar := ar, bld := bld, pts := pts }
noncomputable def zf3.A : Ann := { joins := [], loops := [], ids := [(3, [(12, [])]), (6, [(20, [])])], pids := [], nroots := 88 }
noncomputable def zf3 (n : Nat) (x : Int) : Option (ByteArray) := evalF zf3.C zf3.A Tryz.f42 zf3.ps zf3.res n x
theorem zf3.eq (n : Nat) (x0 : Int) : zf3 n x0 = (if x0 < 0 then some ({ data := #[] }) else (if x0 > 1000000 then some ({ data := #[] }) else ((zf57 n (Int.tmod x0 100)).bind fun y0 => (if (↑(ByteArray.size y0) : Int) < 2 then (if ByteArray.size { data := #[(48 : UInt8)] } + ByteArray.size y0 ≤ Go.Refl.maxN then ((zf57 n (Go.RowKit.wrap64 (Int.tdiv x0 100))).bind fun y1 => (if ByteArray.size y1 + ByteArray.size { data := #[(46 : UInt8)] } ≤ Go.Refl.maxN then (if ByteArray.size (y1 ++ { data := #[(46 : UInt8)] }) + ByteArray.size ({ data := #[(48 : UInt8)] } ++ y0) ≤ Go.Refl.maxN then some (y1 ++ { data := #[(46 : UInt8)] } ++ ({ data := #[(48 : UInt8)] } ++ y0)) else none) else none)) else none) else ((zf57 n (Go.RowKit.wrap64 (Int.tdiv x0 100))).bind fun y2 => (if ByteArray.size y2 + ByteArray.size { data := #[(46 : UInt8)] } ≤ Go.Refl.maxN then (if ByteArray.size (y2 ++ { data := #[(46 : UInt8)] }) + ByteArray.size y0 ≤ Go.Refl.maxN then some (y2 ++ { data := #[(46 : UInt8)] } ++ y0) else none) else none)))))) := by kernel_rfl
noncomputable abbrev zf3.sg (n : Nat) : Sig := ⟨zf3.ps, zf3.res, zf3 n⟩
theorem zf3.call : Callable Tryz.prog 42 := ⟨Tryz.f42, Tryz.func42, by kernel_rfl, by kernel_rfl⟩
theorem zf3.ok (n : Nat) : FC Tryz.prog [g2] 42 (zf3.sg n) :=
  evalF_ok (C := zf3.C) ⟨tb_ok, fun n _ _ h => tabOk (l := [(19, (zf57.sg n))]) (all_cons ⟨zf57.ok n, zf57.call⟩ (all_nil)) h, mixed, ar_ok, bld_ok, pts_ok⟩ zf3.A Tryz.func42 zf3.ps zf3.res n
abbrev zf7.ps : List Pm := [.arg (.v (.slice (.int .i64)))]
abbrev zf7.res : List M := [.v .str, .v .bool]
noncomputable def zf7.C : Cfg := { tb := tb, tab := fun n f => Refl.look [(42, (zf3.sg n))] f, gl := [g2], ar := ar, bld := bld, pts := pts }
noncomputable def zf7.A : Ann := { joins := [], loops := [(3, { live := [4, 8, 9, 10], base := 24 })], ids := [(5, [(15, [])])], pids := [], nroots := 88 }
noncomputable def zf7 (n : Nat) (x : List Int) : Option (ByteArray × Bool) := evalF zf7.C zf7.A Tryz.f22 zf7.ps zf7.res n x
noncomputable def zf7.K0 (_ : Nat) : Kont (ByteArray × Bool) := finK zf7.C (Func.results Tryz.f22).toList zf7.ps zf7.res
noncomputable def zf7.K1 (n : Nat) : Kont (ByteArray × Bool) := seqK (fun s' k => joinE zf7.A.joins (codeAt Tryz.f22 [1, 1, 1]) (fun s'' => evalC zf7.C zf7.A n (codeAt Tryz.f22 [1, 1, 1]) s'' k) s') (zf7.K0 n)
noncomputable def zf7.K2 (n : Nat) : Kont (ByteArray × Bool) := blockK 0 (zf7.K1 n)
noncomputable def zf7.l3 (n m3 : Nat) (x4 : ByteArray) (x8 : List Int) (x9 x10 : Int) : Option (ByteArray × Bool) := loopE (cutAt zf7.A.loops (codeAt Tryz.f22 [1, 1, 0, 1, 0, 0])) (fun s k => evalC zf7.C zf7.A n (codeAt Tryz.f22 [1, 1, 0, 1, 0, 0]) s k) m3 (St.of 24 88 [(4, .val .str x4), (8, .val (.slice (.int .i64)) x8), (9, .val (.int .i64) x9), (10, .val (.int .i64) x10)] [] []) (zf7.K2 n)
theorem zf7.eq (n : Nat) (x0 : List Int) : zf7 n x0 = zf7.l3 n n ({ data := #[] }) (x0) ((↑(List.length x0) : Int)) (0) := by kernel_rfl
theorem zf7.l3_succ (n m3 : Nat) (x4 : ByteArray) (x8 : List Int) (x9 x10 : Int) : zf7.l3 n (m3 + 1) x4 x8 x9 x10 = (if x10 < x9 then (if 0 ≤ x10 then (if x10 < (↑(List.length x8) : Int) then ((zf3 n (List.getD x8 (Int.toNat x10) 0)).bind fun y0 => (if y0 = { data := #[] } then some (({ data := #[] }, Bool.false)) else (if ByteArray.size { data := #[(32 : UInt8)] } + ByteArray.size y0 ≤ Go.Refl.maxN then (if ByteArray.size x4 + ByteArray.size ({ data := #[(32 : UInt8)] } ++ y0) ≤ Go.Refl.maxN then zf7.l3 n m3 (x4 ++ ({ data := #[(32 : UInt8)] } ++ y0)) (x8) (x9) (Go.RowKit.wrap64 (x10 + 1)) else none) else none))) else none) else none) else some ((x4, Bool.true))) := by kernel_rfl
noncomputable abbrev zf7.sg (n : Nat) : Sig := ⟨zf7.ps, zf7.res, zf7 n⟩
theorem zf7.call : Callable Tryz.prog 22 := ⟨Tryz.f22, Tryz.func22, by kernel_rfl, by kernel_rfl⟩
theorem zf7.ok (n : Nat) : FC Tryz.prog [g2] 22 (zf7.sg n) :=
  evalF_ok (C := zf7.C) ⟨tb_ok, fun n _ _ h => tabOk (l := [(42, (zf3.sg n))]) (all_cons ⟨zf3.ok n, zf3.call⟩ (all_nil)) h, mixed, ar_ok, bld_ok, pts_ok⟩ zf7.A Tryz.func22 zf7.ps zf7.res n
abbrev zf8.ps : List Pm := [.arg (.v zt1)]
abbrev zf8.res : List M := [.v .str, .v .bool]
noncomputable def zf8.C : Cfg := { tb := tb, tab := fun n f => Refl.look [(19, (zf57.sg n)), (20, (zf4.sg n)), (21, (zf9.sg n)), (22, (zf7.sg n))] f, gl := [g2], ar := ar, bld := bld, pts := pts }
noncomputable def zf8.A : Ann := { joins := [], loops := [], ids := [(6, [(22, []), (28, []), (32, [])]), (7, [(36, []), (37, [])]), (10, [(48, []), (49, [])]), (13, [(59, []), (60, [])]), (16, [(80, [])])], pids := [], nroots := 166 }
noncomputable def zf8 (n : Nat) (x : Int × Int × Int × Int × List Int × Int × Int) : Option (ByteArray × Bool) := evalF zf8.C zf8.A Tryz.f9 zf8.ps zf8.res n x
theorem zf8.eq (n : Nat) (x0 : Int × Int × Int × Int × List Int × Int × Int) : zf8 n x0 = (if x0.1 = 0 then (if x0.1 = 0 then some (({ data := #[] }, Bool.true)) else (if x0.1 = 6 then ((zf57 n x0.2.2.2.2.2.1).bind fun y0 => (if ByteArray.size { data := #[(32 : UInt8)] } + ByteArray.size y0 ≤ Go.Refl.maxN then (if ByteArray.size ({ data := #[(32 : UInt8)] } ++ y0) + ByteArray.size { data := #[(32 : UInt8)] } ≤ Go.Refl.maxN then ((zf57 n x0.2.2.2.2.2.2).bind fun y1 => (if ByteArray.size ({ data := #[(32 : UInt8)] } ++ y0 ++ { data := #[(32 : UInt8)] }) + ByteArray.size y1 ≤ Go.Refl.maxN then ((zf4 n (x0.2.2.2.2.2.1, x0.2.2.2.2.2.2)).bind fun y2 => some (({ data := #[(32 : UInt8)] } ++ y0 ++ { data := #[(32 : UInt8)] } ++ y1, y2))) else none)) else none) else none)) else ((zf9 n (List.set (List.replicate 1 0) 0 x0.2.1)).bind fun y3 => (if x0.1 = 5 then some ((y3.1, y3.2)) else ((zf7 n (List.set (List.replicate 1 0) 0 x0.2.2.1)).bind fun y4 => (if x0.1 = 4 then ((zf7 n (List.set (List.replicate 1 0) 0 x0.2.2.2.1)).bind fun y5 => (if ByteArray.size y3.1 + ByteArray.size y4.1 ≤ Go.Refl.maxN then (if ByteArray.size (y3.1 ++ y4.1) + ByteArray.size y5.1 ≤ Go.Refl.maxN then (if y3.2 = Bool.true then (if y4.2 = Bool.true then some ((y3.1 ++ y4.1 ++ y5.1, y5.2)) else some ((y3.1 ++ y4.1 ++ y5.1, Bool.false))) else some ((y3.1 ++ y4.1 ++ y5.1, Bool.false))) else none) else none)) else (if x0.1 = 3 then ((zf9 n x0.2.2.2.2.1).bind fun y6 => (if ByteArray.size y3.1 + ByteArray.size y4.1 ≤ Go.Refl.maxN then (if ByteArray.size (y3.1 ++ y4.1) + ByteArray.size y6.1 ≤ Go.Refl.maxN then (if y3.2 = Bool.true then (if y4.2 = Bool.true then some ((y3.1 ++ y4.1 ++ y6.1, y6.2)) else some ((y3.1 ++ y4.1 ++ y6.1, Bool.false))) else some ((y3.1 ++ y4.1 ++ y6.1, Bool.false))) else none) else none)) else (if ByteArray.size y3.1 + ByteArray.size y4.1 ≤ Go.Refl.maxN then (if y3.2 = Bool.true then some ((y3.1 ++ y4.1, y4.2)) else some ((y3.1 ++ y4.1, Bool.false))) else none)))))))) else (if x0.1 = 7 then some (({ data := #[] }, Bool.true)) else (if x0.1 = 6 then ((zf57 n x0.2.2.2.2.2.1).bind fun y7 => (if ByteArray.size { data := #[(32 : UInt8)] } + ByteArray.size y7 ≤ Go.Refl.maxN then (if ByteArray.size ({ data := #[(32 : UInt8)] } ++ y7) + ByteArray.size { data := #[(32 : UInt8)] } ≤ Go.Refl.maxN then ((zf57 n x0.2.2.2.2.2.2).bind fun y8 => (if ByteArray.size ({ data := #[(32 : UInt8)] } ++ y7 ++ { data := #[(32 : UInt8)] }) + ByteArray.size y8 ≤ Go.Refl.maxN then ((zf4 n (x0.2.2.2.2.2.1, x0.2.2.2.2.2.2)).bind fun y9 => some (({ data := #[(32 : UInt8)] } ++ y7 ++ { data := #[(32 : UInt8)] } ++ y8, y9))) else none)) else none) else none)) else ((zf9 n (List.set (List.replicate 1 0) 0 x0.2.1)).bind fun y10 => (if x0.1 = 5 then some ((y10.1, y10.2)) else ((zf7 n (List.set (List.replicate 1 0) 0 x0.2.2.1)).bind fun y11 => (if x0.1 = 4 then ((zf7 n (List.set (List.replicate 1 0) 0 x0.2.2.2.1)).bind fun y12 => (if ByteArray.size y10.1 + ByteArray.size y11.1 ≤ Go.Refl.maxN then (if ByteArray.size (y10.1 ++ y11.1) + ByteArray.size y12.1 ≤ Go.Refl.maxN then (if y10.2 = Bool.true then (if y11.2 = Bool.true then some ((y10.1 ++ y11.1 ++ y12.1, y12.2)) else some ((y10.1 ++ y11.1 ++ y12.1, Bool.false))) else some ((y10.1 ++ y11.1 ++ y12.1, Bool.false))) else none) else none)) else (if x0.1 = 3 then ((zf9 n x0.2.2.2.2.1).bind fun y13 => (if ByteArray.size y10.1 + ByteArray.size y11.1 ≤ Go.Refl.maxN then (if ByteArray.size (y10.1 ++ y11.1) + ByteArray.size y13.1 ≤ Go.Refl.maxN then (if y10.2 = Bool.true then (if y11.2 = Bool.true then some ((y10.1 ++ y11.1 ++ y13.1, y13.2)) else some ((y10.1 ++ y11.1 ++ y13.1, Bool.false))) else some ((y10.1 ++ y11.1 ++ y13.1, Bool.false))) else none) else none)) else (if ByteArray.size y10.1 + ByteArray.size y11.1 ≤ Go.Refl.maxN then (if y10.2 = Bool.true then some ((y10.1 ++ y11.1, y11.2)) else some ((y10.1 ++ y11.1, Bool.false))) else none))))))))) := by kernel_rfl
noncomputable abbrev zf8.sg (n : Nat) : Sig := ⟨zf8.ps, zf8.res, zf8 n⟩
theorem zf8.call : Callable Tryz.prog 9 := ⟨Tryz.f9, Tryz.func9, by kernel_rfl, by kernel_rfl⟩
theorem zf8.ok (n : Nat) : FC Tryz.prog [g2] 9 (zf8.sg n) :=
  evalF_ok (C := zf8.C) ⟨tb_ok, fun n _ _ h => tabOk (l := [(19, (zf57.sg n)), (20, (zf4.sg n)), (21, (zf9.sg n)), (22, (zf7.sg n))]) (all_cons ⟨zf57.ok n, zf57.call⟩ (all_cons ⟨(.mono (gl := []) (gl' := [g2]) (all_nil) (zf4.ok n)), zf4.call⟩ (all_cons ⟨zf9.ok n, zf9.call⟩ (all_cons ⟨zf7.ok n, zf7.call⟩ (all_nil))))) h, mixed, ar_ok, bld_ok, pts_ok⟩ zf8.A Tryz.func9 zf8.ps zf8.res n
abbrev zf0.ps : List Pm := [.arg (.v zt1)]
abbrev zf0.res : List M := [.v .str]
noncomputable def zf0.C : Cfg := { tb := tb, tab := fun n f => Refl.look [(9, (zf8.sg n))] f, gl := [g0, g2], ar := ar, bld := bld, pts := pts }
noncomputable def zf0.A : Ann := { joins := [], loops := [], ids := [(3, [(15, [])])], pids := [], nroots := 90 }
noncomputable def zf0 (n : Nat) (x : Int × Int × Int × Int × List Int × Int × Int) : Option (ByteArray) := evalF zf0.C zf0.A Tryz.f5 zf0.ps zf0.res n x
theorem zf0.eq (n : Nat) (x0 : Int × Int × Int × Int × List Int × Int × Int) : zf0 n x0 = (if x0.1 < 0 then some ({ data := #[] }) else (if x0.1 > 7 then some ({ data := #[] }) else ((zf8 n (x0.1, x0.2.1, x0.2.2.1, x0.2.2.2.1, x0.2.2.2.2.1, x0.2.2.2.2.2.1, x0.2.2.2.2.2.2)).bind fun y0 => (if (!y0.2) = true then some ({ data := #[] }) else (if 0 ≤ x0.1 then (if x0.1 < (↑8 : Int) then (if ByteArray.size (List.getD [{ data := #[(106 : UInt8), (111 : UInt8), (105 : UInt8), (110 : UInt8)] }, { data := #[(115 : UInt8), (97 : UInt8), (118 : UInt8), (101 : UInt8)] }, { data := #[(116 : UInt8), (97 : UInt8), (107 : UInt8), (101 : UInt8)] }, { data := #[(108 : UInt8), (101 : UInt8), (110 : UInt8), (100 : UInt8)] }, { data := #[(114 : UInt8), (101 : UInt8), (112 : UInt8), (97 : UInt8), (121 : UInt8)] }, { data := #[(102 : UInt8), (97 : UInt8), (105 : UInt8), (108 : UInt8)] }, { data := #[(110 : UInt8), (105 : UInt8), (103 : UInt8), (104 : UInt8), (116 : UInt8)] }, { data := #[(115 : UInt8), (104 : UInt8), (97 : UInt8), (114 : UInt8), (101 : UInt8)] }] (Int.toNat x0.1) ByteArray.empty) + ByteArray.size y0.1 ≤ Go.Refl.maxN then some (List.getD [{ data := #[(106 : UInt8), (111 : UInt8), (105 : UInt8), (110 : UInt8)] }, { data := #[(115 : UInt8), (97 : UInt8), (118 : UInt8), (101 : UInt8)] }, { data := #[(116 : UInt8), (97 : UInt8), (107 : UInt8), (101 : UInt8)] }, { data := #[(108 : UInt8), (101 : UInt8), (110 : UInt8), (100 : UInt8)] }, { data := #[(114 : UInt8), (101 : UInt8), (112 : UInt8), (97 : UInt8), (121 : UInt8)] }, { data := #[(102 : UInt8), (97 : UInt8), (105 : UInt8), (108 : UInt8)] }, { data := #[(110 : UInt8), (105 : UInt8), (103 : UInt8), (104 : UInt8), (116 : UInt8)] }, { data := #[(115 : UInt8), (104 : UInt8), (97 : UInt8), (114 : UInt8), (101 : UInt8)] }] (Int.toNat x0.1) ByteArray.empty ++ y0.1) else none) else none) else none))))) := by kernel_rfl
noncomputable abbrev zf0.sg (n : Nat) : Sig := ⟨zf0.ps, zf0.res, zf0 n⟩
theorem zf0.call : Callable Tryz.prog 5 := ⟨Tryz.f5, Tryz.func5, by kernel_rfl, by kernel_rfl⟩
theorem zf0.ok (n : Nat) : FC Tryz.prog [g0, g2] 5 (zf0.sg n) :=
  evalF_ok (C := zf0.C) ⟨tb_ok, fun n _ _ h => tabOk (l := [(9, (zf8.sg n))]) (all_cons ⟨(.mono (gl := [g2]) (gl' := [g0, g2]) (all_cons (.tail _ (.head _)) (all_nil)) (zf8.ok n)), zf8.call⟩ (all_nil)) h, mixed, ar_ok, bld_ok, pts_ok⟩ zf0.A Tryz.func5 zf0.ps zf0.res n
abbrev zf37.ps : List Pm := [.arg (.v (.int .i64))]
abbrev zf37.res : List M := [.v .str]
noncomputable def zf37.C (self : pdens zf37.ps → Option (dens (zf37.res ++ outs zf37.ps))) : Cfg := { tb := tb, tab := fun n f => Refl.look [(24, { params := zf37.ps, res := zf37.res, run := self })] f, gl := [], ar := ar, bld := bld, pts := pts }
noncomputable def zf37.A : Ann := { joins := [], loops := [], ids := [(3, [(11, []), (14, [])])], pids := [], nroots := 80 }
noncomputable def zf37.S (self : Int → Option ByteArray) (n : Nat) (x : Int) : Option (ByteArray) := evalF (zf37.C self) zf37.A Tryz.f24 zf37.ps zf37.res n x
noncomputable def zf37 (n : Nat) : Int → Option (ByteArray) := Nat.rec (fun _ => none) (fun n self => zf37.S self n) n
theorem zf37.zero (x : Int) : zf37 0 x = none := rfl
theorem zf37.succ (n : Nat) (x : Int) : zf37 (n + 1) x = zf37.S (zf37 n) n x := by kernel_rfl
theorem zf37.eq (self : Int → Option ByteArray) (n : Nat) (x0 : Int) : zf37.S self n x0 = (if x0 < 10 then (if 0 ≤ x0 then (if x0 ≤ Go.RowKit.wrap64 (x0 + 1) then (if Go.RowKit.wrap64 (x0 + 1) ≤ (↑(ByteArray.size { data := #[(48 : UInt8), (49 : UInt8), (50 : UInt8), (51 : UInt8), (52 : UInt8), (53 : UInt8), (54 : UInt8), (55 : UInt8), (56 : UInt8), (57 : UInt8)] }) : Int) then some (ByteArray.extract { data := #[(48 : UInt8), (49 : UInt8), (50 : UInt8), (51 : UInt8), (52 : UInt8), (53 : UInt8), (54 : UInt8), (55 : UInt8), (56 : UInt8), (57 : UInt8)] } (Int.toNat x0) (Int.toNat (Go.RowKit.wrap64 (x0 + 1)))) else none) else none) else none) else ((self (Go.RowKit.wrap64 (Int.tdiv x0 10))).bind fun y0 => ((self (Int.tmod x0 10)).bind fun y1 => (if ByteArray.size y0 + ByteArray.size y1 ≤ Go.Refl.maxN then some (y0 ++ y1) else none)))) := by kernel_rfl
noncomputable abbrev zf37.sg (n : Nat) : Sig := ⟨zf37.ps, zf37.res, zf37 n⟩
theorem zf37.call : Callable Tryz.prog 24 := ⟨Tryz.f24, Tryz.func24, by kernel_rfl, by kernel_rfl⟩
theorem zf37.okS {self : pdens zf37.ps → Option (dens (zf37.res ++ outs zf37.ps))} (hs : FC Tryz.prog [] 24 { params := zf37.ps, res := zf37.res, run := self }) (n : Nat) : FC Tryz.prog [] 24 { params := zf37.ps, res := zf37.res, run := zf37.S self n } :=
  evalF_ok (C := zf37.C self) ⟨tb_ok, fun n _ _ h => tabOk (l := [(24, { params := zf37.ps, res := zf37.res, run := self })]) (all_cons ⟨hs, zf37.call⟩ (all_nil)) h, mixed, ar_ok, bld_ok, pts_ok⟩ zf37.A Tryz.func24 zf37.ps zf37.res n
theorem zf37.ok : (n : Nat) → FC Tryz.prog [] 24 (zf37.sg n)
  | 0 => fun _ _ h => by cases h
  | n + 1 => zf37.okS (zf37.ok n) n
abbrev zf32.ps : List Pm := [.arg (.v (.int .i64))]
abbrev zf32.res : List M := [.v .str]
noncomputable def zf32.C : Cfg := { tb := tb, tab := fun n f => Refl.look [(24, (zf37.sg n))] f, gl := [], ar := ar, bld := bld, pts := pts }
noncomputable def zf32.A : Ann := { joins := [], loops := [], ids := [(1, [(5, []), (10, []), (14, [])])], pids := [], nroots := 80 }
noncomputable def zf32 (n : Nat) (x : Int) : Option (ByteArray) := evalF zf32.C zf32.A Tryz.f27 zf32.ps zf32.res n x
theorem zf32.eq (n : Nat) (x0 : Int) : zf32 n x0 = ((zf37 n (Go.RowKit.wrap64 (Int.tdiv x0 100))).bind fun y0 => (if ByteArray.size y0 + ByteArray.size { data := #[(46 : UInt8)] } ≤ Go.Refl.maxN then ((zf37 n (Int.tmod (Go.RowKit.wrap64 (Int.tdiv x0 10)) 10)).bind fun y1 => (if ByteArray.size (y0 ++ { data := #[(46 : UInt8)] }) + ByteArray.size y1 ≤ Go.Refl.maxN then ((zf37 n (Int.tmod x0 10)).bind fun y2 => (if ByteArray.size (y0 ++ { data := #[(46 : UInt8)] } ++ y1) + ByteArray.size y2 ≤ Go.Refl.maxN then some (y0 ++ { data := #[(46 : UInt8)] } ++ y1 ++ y2) else none)) else none)) else none)) := by kernel_rfl
noncomputable abbrev zf32.sg (n : Nat) : Sig := ⟨zf32.ps, zf32.res, zf32 n⟩
theorem zf32.call : Callable Tryz.prog 27 := ⟨Tryz.f27, Tryz.func27, by kernel_rfl, by kernel_rfl⟩
theorem zf32.ok (n : Nat) : FC Tryz.prog [] 27 (zf32.sg n) :=
  evalF_ok (C := zf32.C) ⟨tb_ok, fun n _ _ h => tabOk (l := [(24, (zf37.sg n))]) (all_cons ⟨zf37.ok n, zf37.call⟩ (all_nil)) h, mixed, ar_ok, bld_ok, pts_ok⟩ zf32.A Tryz.func27 zf32.ps zf32.res n
abbrev zf44.ps : List Pm := [.arg (.v zt1)]
abbrev zf44.res : List M := [.v .str]
noncomputable def zf44.C : Cfg := { tb := tb, tab := fun n f => Refl.look [(23, (zf54.sg n)), (24, (zf37.sg n)), (25, (zf29.sg n)), (26, (zf50.sg n)), (27, (zf32.sg n))] f, gl := [], ar := ar, bld := bld, pts := pts }
noncomputable def zf44.A : Ann := { joins := [], loops := [(27, { live := [1, 3, 4], base := 120 })], ids := [(7, [(15, [])]), (8, [(19, []), (25, [])]), (10, [(29, [])]), (13, [(36, [])]), (14, [(40, [])]), (18, [(48, []), (53, [])]), (20, [(59, []), (64, [])]), (22, [(70, [])]), (23, [(73, []), (78, []), (83, [])]), (25, [(89, []), (94, [])]), (29, [(108, [])]), (31, [(117, [])])], pids := [], nroots := 184 }
noncomputable def zf44 (n : Nat) (x : Int × Int × Int × Int × List Int × Int × Int) : Option (ByteArray) := evalF zf44.C zf44.A Tryz.f10 zf44.ps zf44.res n x
noncomputable def zf44.K0 (_ : Nat) : Kont (ByteArray) := finK zf44.C (Func.results Tryz.f10).toList zf44.ps zf44.res
noncomputable def zf44.K1 (n : Nat) : Kont (ByteArray) := seqK (fun s' k => joinE zf44.A.joins (codeAt Tryz.f10 [1, 1, 1, 1, 1, 1]) (fun s'' => evalC zf44.C zf44.A n (codeAt Tryz.f10 [1, 1, 1, 1, 1, 1]) s'' k) s') (zf44.K0 n)
noncomputable def zf44.K2 (n : Nat) : Kont (ByteArray) := blockK 1 (zf44.K1 n)
noncomputable def zf44.K3 (n : Nat) : Kont (ByteArray) := seqK (fun s' k => joinE zf44.A.joins (codeAt Tryz.f10 [1, 1, 1, 1, 1, 0, 1, 0, 1, 1, 1, 1, 1, 1, 1, 0, 1, 1]) (fun s'' => evalC zf44.C zf44.A n (codeAt Tryz.f10 [1, 1, 1, 1, 1, 0, 1, 0, 1, 1, 1, 1, 1, 1, 1, 0, 1, 1]) s'' k) s') (zf44.K2 n)
noncomputable def zf44.K4 (n : Nat) : Kont (ByteArray) := blockK 2 (zf44.K3 n)
noncomputable def zf44.l27 (n m27 : Nat) (x3 : ByteArray) (x4 r120_0 : Int) (r120_1 r120_2 r120_3 : Int) (r120_4 : List Int) (r120_5 r120_6 : Int) : Option (ByteArray) := loopE (cutAt zf44.A.loops (codeAt Tryz.f10 [1, 1, 1, 1, 1, 0, 1, 0, 1, 1, 1, 1, 1, 1, 1, 0, 1, 0, 1, 0, 0])) (fun s k => evalC zf44.C zf44.A n (codeAt Tryz.f10 [1, 1, 1, 1, 1, 0, 1, 0, 1, 1, 1, 1, 1, 1, 1, 0, 1, 0, 1, 0, 0]) s k) m27 (St.of 120 184 [(1, .ptr 120 0 0), (3, .val .str x3), (4, .val (.int .i64) x4)] [(120, .box 27 [.val (.int .i64) r120_0, .val (.int .i64) r120_1, .val (.int .i64) r120_2, .val (.int .i64) r120_3, .val (.slice (.int .i64)) r120_4, .val (.int .i64) r120_5, .val (.int .i64) r120_6])] []) (zf44.K4 n)
theorem zf44.eq (n : Nat) (x0 : Int × Int × Int × Int × List Int × Int × Int) : zf44 n x0 = (if x0.1 = 0 then some ({ data := #[(106 : UInt8), (111 : UInt8), (105 : UInt8), (110 : UInt8)] }) else (if x0.1 = 7 then some ({ data := #[(115 : UInt8), (104 : UInt8), (97 : UInt8), (114 : UInt8), (101 : UInt8)] }) else (if x0.1 = 6 then ((zf54 n (x0.2.2.2.2.2.1, x0.2.2.2.2.2.2)).bind fun y0 => (if (y0) = true then ((zf37 n x0.2.2.2.2.2.1).bind fun y1 => (if ByteArray.size { data := #[(110 : UInt8), (105 : UInt8), (103 : UInt8), (104 : UInt8), (116 : UInt8), (32 : UInt8)] } + ByteArray.size y1 ≤ Go.Refl.maxN then (if ByteArray.size ({ data := #[(110 : UInt8), (105 : UInt8), (103 : UInt8), (104 : UInt8), (116 : UInt8), (32 : UInt8)] } ++ y1) + ByteArray.size { data := #[(32 : UInt8)] } ≤ Go.Refl.maxN then ((zf37 n x0.2.2.2.2.2.2).bind fun y2 => (if ByteArray.size ({ data := #[(110 : UInt8), (105 : UInt8), (103 : UInt8), (104 : UInt8), (116 : UInt8), (32 : UInt8)] } ++ y1 ++ { data := #[(32 : UInt8)] }) + ByteArray.size y2 ≤ Go.Refl.maxN then some ({ data := #[(110 : UInt8), (105 : UInt8), (103 : UInt8), (104 : UInt8), (116 : UInt8), (32 : UInt8)] } ++ y1 ++ { data := #[(32 : UInt8)] } ++ y2) else none)) else none) else none)) else some ({ data := #[] }))) else ((zf29 n (x0.2.1, 0, 99)).bind fun y3 => (if (!y3) = true then some ({ data := #[] }) else (if x0.1 = 5 then ((zf37 n x0.2.1).bind fun y4 => (if ByteArray.size { data := #[(102 : UInt8), (97 : UInt8), (105 : UInt8), (108 : UInt8), (32 : UInt8)] } + ByteArray.size y4 ≤ Go.Refl.maxN then some ({ data := #[(102 : UInt8), (97 : UInt8), (105 : UInt8), (108 : UInt8), (32 : UInt8)] } ++ y4) else none)) else ((zf50 n x0.2.2.1).bind fun y5 => (if (!y5) = true then some ({ data := #[] }) else (if x0.1 = 1 then ((zf37 n x0.2.1).bind fun y6 => (if ByteArray.size { data := #[(115 : UInt8), (97 : UInt8), (118 : UInt8), (101 : UInt8), (32 : UInt8)] } + ByteArray.size y6 ≤ Go.Refl.maxN then (if ByteArray.size ({ data := #[(115 : UInt8), (97 : UInt8), (118 : UInt8), (101 : UInt8), (32 : UInt8)] } ++ y6) + ByteArray.size { data := #[(32 : UInt8)] } ≤ Go.Refl.maxN then ((zf32 n x0.2.2.1).bind fun y7 => (if ByteArray.size ({ data := #[(115 : UInt8), (97 : UInt8), (118 : UInt8), (101 : UInt8), (32 : UInt8)] } ++ y6 ++ { data := #[(32 : UInt8)] }) + ByteArray.size y7 ≤ Go.Refl.maxN then some ({ data := #[(115 : UInt8), (97 : UInt8), (118 : UInt8), (101 : UInt8), (32 : UInt8)] } ++ y6 ++ { data := #[(32 : UInt8)] } ++ y7) else none)) else none) else none)) else (if x0.1 = 2 then ((zf37 n x0.2.1).bind fun y8 => (if ByteArray.size { data := #[(116 : UInt8), (97 : UInt8), (107 : UInt8), (101 : UInt8), (32 : UInt8)] } + ByteArray.size y8 ≤ Go.Refl.maxN then (if ByteArray.size ({ data := #[(116 : UInt8), (97 : UInt8), (107 : UInt8), (101 : UInt8), (32 : UInt8)] } ++ y8) + ByteArray.size { data := #[(32 : UInt8)] } ≤ Go.Refl.maxN then ((zf32 n x0.2.2.1).bind fun y9 => (if ByteArray.size ({ data := #[(116 : UInt8), (97 : UInt8), (107 : UInt8), (101 : UInt8), (32 : UInt8)] } ++ y8 ++ { data := #[(32 : UInt8)] }) + ByteArray.size y9 ≤ Go.Refl.maxN then some ({ data := #[(116 : UInt8), (97 : UInt8), (107 : UInt8), (101 : UInt8), (32 : UInt8)] } ++ y8 ++ { data := #[(32 : UInt8)] } ++ y9) else none)) else none) else none)) else (if x0.1 = 4 then ((zf50 n x0.2.2.2.1).bind fun y10 => (if (y10) = true then ((zf37 n x0.2.1).bind fun y11 => (if ByteArray.size { data := #[(114 : UInt8), (101 : UInt8), (112 : UInt8), (97 : UInt8), (121 : UInt8), (32 : UInt8)] } + ByteArray.size y11 ≤ Go.Refl.maxN then (if ByteArray.size ({ data := #[(114 : UInt8), (101 : UInt8), (112 : UInt8), (97 : UInt8), (121 : UInt8), (32 : UInt8)] } ++ y11) + ByteArray.size { data := #[(32 : UInt8)] } ≤ Go.Refl.maxN then ((zf32 n x0.2.2.1).bind fun y12 => (if ByteArray.size ({ data := #[(114 : UInt8), (101 : UInt8), (112 : UInt8), (97 : UInt8), (121 : UInt8), (32 : UInt8)] } ++ y11 ++ { data := #[(32 : UInt8)] }) + ByteArray.size y12 ≤ Go.Refl.maxN then (if ByteArray.size ({ data := #[(114 : UInt8), (101 : UInt8), (112 : UInt8), (97 : UInt8), (121 : UInt8), (32 : UInt8)] } ++ y11 ++ { data := #[(32 : UInt8)] } ++ y12) + ByteArray.size { data := #[(32 : UInt8)] } ≤ Go.Refl.maxN then ((zf32 n x0.2.2.2.1).bind fun y13 => (if ByteArray.size ({ data := #[(114 : UInt8), (101 : UInt8), (112 : UInt8), (97 : UInt8), (121 : UInt8), (32 : UInt8)] } ++ y11 ++ { data := #[(32 : UInt8)] } ++ y12 ++ { data := #[(32 : UInt8)] }) + ByteArray.size y13 ≤ Go.Refl.maxN then some ({ data := #[(114 : UInt8), (101 : UInt8), (112 : UInt8), (97 : UInt8), (121 : UInt8), (32 : UInt8)] } ++ y11 ++ { data := #[(32 : UInt8)] } ++ y12 ++ { data := #[(32 : UInt8)] } ++ y13) else none)) else none) else none)) else none) else none)) else some ({ data := #[] }))) else (if x0.1 = 3 then ((zf37 n x0.2.1).bind fun y14 => (if ByteArray.size { data := #[(108 : UInt8), (101 : UInt8), (110 : UInt8), (100 : UInt8), (32 : UInt8)] } + ByteArray.size y14 ≤ Go.Refl.maxN then (if ByteArray.size ({ data := #[(108 : UInt8), (101 : UInt8), (110 : UInt8), (100 : UInt8), (32 : UInt8)] } ++ y14) + ByteArray.size { data := #[(32 : UInt8)] } ≤ Go.Refl.maxN then ((zf32 n x0.2.2.1).bind fun y15 => (if ByteArray.size ({ data := #[(108 : UInt8), (101 : UInt8), (110 : UInt8), (100 : UInt8), (32 : UInt8)] } ++ y14 ++ { data := #[(32 : UInt8)] }) + ByteArray.size y15 ≤ Go.Refl.maxN then zf44.l27 n n ({ data := #[(108 : UInt8), (101 : UInt8), (110 : UInt8), (100 : UInt8), (32 : UInt8)] } ++ y14 ++ { data := #[(32 : UInt8)] } ++ y15) (0) x0.1 x0.2.1 x0.2.2.1 x0.2.2.2.1 x0.2.2.2.2.1 x0.2.2.2.2.2.1 x0.2.2.2.2.2.2 else none)) else none) else none)) else some ({ data := #[] }))))))))))))) := by kernel_rfl
theorem zf44.l27_succ (n m27 : Nat) (x3 : ByteArray) (x4 r120_0 : Int) (r120_1 r120_2 r120_3 : Int) (r120_4 : List Int) (r120_5 r120_6 : Int) : zf44.l27 n (m27 + 1) x3 x4 r120_0 r120_1 r120_2 r120_3 r120_4 r120_5 r120_6 = (if x4 < (↑(List.length r120_4) : Int) then (if 0 ≤ x4 then (if x4 < (↑(List.length r120_4) : Int) then ((zf29 n (List.getD r120_4 (Int.toNat x4) 0, 0, 99)).bind fun y16 => (if (!y16) = true then some ({ data := #[] }) else (if ByteArray.size x3 + ByteArray.size { data := #[(32 : UInt8)] } ≤ Go.Refl.maxN then (if 0 ≤ x4 then (if x4 < (↑(List.length r120_4) : Int) then ((zf37 n (List.getD r120_4 (Int.toNat x4) 0)).bind fun y17 => (if ByteArray.size (x3 ++ { data := #[(32 : UInt8)] }) + ByteArray.size y17 ≤ Go.Refl.maxN then zf44.l27 n m27 (x3 ++ { data := #[(32 : UInt8)] } ++ y17) (Go.RowKit.wrap64 (x4 + 1)) (r120_0) (r120_1) (r120_2) (r120_3) (r120_4) (r120_5) (r120_6) else none)) else none) else none) else none))) else none) else none) else some (x3)) := by kernel_rfl
noncomputable abbrev zf44.sg (n : Nat) : Sig := ⟨zf44.ps, zf44.res, zf44 n⟩
theorem zf44.call : Callable Tryz.prog 10 := ⟨Tryz.f10, Tryz.func10, by kernel_rfl, by kernel_rfl⟩
theorem zf44.ok (n : Nat) : FC Tryz.prog [] 10 (zf44.sg n) :=
  evalF_ok (C := zf44.C) ⟨tb_ok, fun n _ _ h => tabOk (l := [(23, (zf54.sg n)), (24, (zf37.sg n)), (25, (zf29.sg n)), (26, (zf50.sg n)), (27, (zf32.sg n))]) (all_cons ⟨zf54.ok n, zf54.call⟩ (all_cons ⟨zf37.ok n, zf37.call⟩ (all_cons ⟨zf29.ok n, zf29.call⟩ (all_cons ⟨zf50.ok n, zf50.call⟩ (all_cons ⟨zf32.ok n, zf32.call⟩ (all_nil)))))) h, mixed, ar_ok, bld_ok, pts_ok⟩ zf44.A Tryz.func10 zf44.ps zf44.res n
abbrev zf14.ps : List Pm := [.arg (.v zt1)]
abbrev zf14.res : List M := [.v .str]
noncomputable def zf14.C : Cfg := { tb := tb, tab := fun n f => Refl.look [(10, (zf44.sg n))] f, gl := [], ar := ar, bld := bld, pts := pts }
noncomputable def zf14.A : Ann := { joins := [], loops := [], ids := [(1, [(4, [])])], pids := [], nroots := 69 }
noncomputable def zf14 (n : Nat) (x : Int × Int × Int × Int × List Int × Int × Int) : Option (ByteArray) := evalF zf14.C zf14.A Tryz.f6 zf14.ps zf14.res n x
theorem zf14.eq (n : Nat) (x0 : Int × Int × Int × Int × List Int × Int × Int) : zf14 n x0 = ((zf44 n (x0.1, x0.2.1, x0.2.2.1, x0.2.2.2.1, x0.2.2.2.2.1, x0.2.2.2.2.2.1, x0.2.2.2.2.2.2)).bind fun y0 => some (y0)) := by kernel_rfl
noncomputable abbrev zf14.sg (n : Nat) : Sig := ⟨zf14.ps, zf14.res, zf14 n⟩
theorem zf14.call : Callable Tryz.prog 6 := ⟨Tryz.f6, Tryz.func6, by kernel_rfl, by kernel_rfl⟩
theorem zf14.ok (n : Nat) : FC Tryz.prog [] 6 (zf14.sg n) :=
  evalF_ok (C := zf14.C) ⟨tb_ok, fun n _ _ h => tabOk (l := [(10, (zf44.sg n))]) (all_cons ⟨zf44.ok n, zf44.call⟩ (all_nil)) h, mixed, ar_ok, bld_ok, pts_ok⟩ zf14.A Tryz.func6 zf14.ps zf14.res n
abbrev zf63.ps : List Pm := [.arg (.v .str), .arg (.v (.int .i64))]
abbrev zf63.res : List M := [(.own .str 9)]
noncomputable def zf63 (n : Nat) : ByteArray × Int → Option (List ByteArray) := fun _ => none
noncomputable abbrev zf63.sg (n : Nat) : Sig := ⟨zf63.ps, zf63.res, zf63 n⟩
theorem zf63.call : Callable Tryz.prog 43 := ⟨Tryz.f43, Tryz.func43, by kernel_rfl, by kernel_rfl⟩
theorem zf63.ok (n : Nat) : FC Tryz.prog [] 43 (zf63.sg n) := never_FC
abbrev zf60.ps : List Pm := ixPs
abbrev zf60.res : List M := ixRes
noncomputable def zf60 (n : Nat) : ByteArray × ByteArray → Option Int := ctRun
noncomputable abbrev zf60.sg (n : Nat) : Sig := ⟨zf60.ps, zf60.res, zf60 n⟩
theorem zf60.call : Callable Tryz.prog 44 := ⟨Tryz.f44, Tryz.func44, by kernel_rfl, by kernel_rfl⟩
theorem zf60.ok (n : Nat) : FC Tryz.prog [] 44 (zf60.sg n) := ct_FC Tryz.lays138
abbrev zf61.ps : List Pm := ixPs
abbrev zf61.res : List M := ixRes
noncomputable def zf61 (n : Nat) : ByteArray × ByteArray → Option Int := ixRun
noncomputable abbrev zf61.sg (n : Nat) : Sig := ⟨zf61.ps, zf61.res, zf61 n⟩
theorem zf61.call : Callable Tryz.prog 45 := ⟨Tryz.f45, Tryz.func45, by kernel_rfl, by kernel_rfl⟩
theorem zf61.ok (n : Nat) : FC Tryz.prog [] 45 (zf61.sg n) := ix_FC Tryz.lays143
abbrev zf64.ps : List Pm := [.arg (.v .str), .arg (.v .str), .arg (.v (.int .i64)), .arg (.v (.int .i64))]
abbrev zf64.res : List M := [(.own .str 9)]
noncomputable def zf64.C : Cfg := { tb := tb, tab := fun n f => Refl.look [(43, (zf63.sg n)), (44, (zf60.sg n)), (45, (zf61.sg n))] f, gl := [], ar := ar, bld := bld, pts := pts }
noncomputable def zf64.A : Ann := { joins := [], loops := [(11, { live := [0, 1, 2, 3, 9, 10], base := 66 })], ids := [(6, [(23, [])]), (12, [(39, [])])], pids := [], nroots := 130 }
noncomputable def zf64 (n : Nat) (x : ByteArray × ByteArray × Int × Int) : Option (List ByteArray) := evalF zf64.C zf64.A Tryz.f28 zf64.ps zf64.res n x
noncomputable def zf64.K0 (_ : Nat) : Kont (List ByteArray) := finK zf64.C (Func.results Tryz.f28).toList zf64.ps zf64.res
noncomputable def zf64.K1 (n : Nat) : Kont (List ByteArray) := seqK (fun s' k => joinE zf64.A.joins (codeAt Tryz.f28 [1, 1, 1, 1, 1, 1, 1, 1, 1]) (fun s'' => evalC zf64.C zf64.A n (codeAt Tryz.f28 [1, 1, 1, 1, 1, 1, 1, 1, 1]) s'' k) s') (zf64.K0 n)
noncomputable def zf64.K2 (n : Nat) : Kont (List ByteArray) := blockK 0 (zf64.K1 n)
noncomputable def zf64.l11 (n m11 : Nat) (x0 x1 : ByteArray) (x2 x3 x10 : Int) (r66 : List ByteArray) : Option (List ByteArray) := loopE (cutAt zf64.A.loops (codeAt Tryz.f28 [1, 1, 1, 1, 1, 1, 1, 1, 0, 0, 0])) (fun s k => evalC zf64.C zf64.A n (codeAt Tryz.f28 [1, 1, 1, 1, 1, 1, 1, 1, 0, 0, 0]) s k) m11 (St.of 66 130 [(0, .val .str x0), (1, .val .str x1), (2, .val (.int .i64) x2), (3, .val (.int .i64) x3), (9, .own 66), (10, .val (.int .i64) x10)] [(66, .row .str 9 r66)] []) (zf64.K2 n)
theorem zf64.eq (n : Nat) (x0 x1 : ByteArray) (x2 x3 : Int) : zf64 n (x0, x1, x2, x3) = (if x3 = 0 then some ([]) else (if x1 = { data := #[] } then ((zf63 n (x0, x3)).bind fun y0 => some (y0)) else (if x3 < 0 then ((zf60 n (x0, x1)).bind fun y1 => (if 0 ≤ Go.Refl.mn (Go.RowKit.wrap64 (y1 + 1)) (Go.RowKit.wrap64 ((↑(ByteArray.size x0) : Int) + 1)) then (if Go.Refl.mn (Go.RowKit.wrap64 (y1 + 1)) (Go.RowKit.wrap64 ((↑(ByteArray.size x0) : Int) + 1)) ≤ Go.Refl.mn (Go.RowKit.wrap64 (y1 + 1)) (Go.RowKit.wrap64 ((↑(ByteArray.size x0) : Int) + 1)) then (if Go.Refl.mn (Go.RowKit.wrap64 (y1 + 1)) (Go.RowKit.wrap64 ((↑(ByteArray.size x0) : Int) + 1)) ≤ (↑Go.Refl.maxN : Int) then zf64.l11 n n (x0) (x1) (x2) (Go.RowKit.wrap64 (Go.Refl.mn (Go.RowKit.wrap64 (y1 + 1)) (Go.RowKit.wrap64 ((↑(ByteArray.size x0) : Int) + 1)) - 1)) (0) (List.replicate (Int.toNat (Go.Refl.mn (Go.RowKit.wrap64 (y1 + 1)) (Go.RowKit.wrap64 ((↑(ByteArray.size x0) : Int) + 1)))) ByteArray.empty) else none) else none) else none)) else (if 0 ≤ Go.Refl.mn x3 (Go.RowKit.wrap64 ((↑(ByteArray.size x0) : Int) + 1)) then (if Go.Refl.mn x3 (Go.RowKit.wrap64 ((↑(ByteArray.size x0) : Int) + 1)) ≤ Go.Refl.mn x3 (Go.RowKit.wrap64 ((↑(ByteArray.size x0) : Int) + 1)) then (if Go.Refl.mn x3 (Go.RowKit.wrap64 ((↑(ByteArray.size x0) : Int) + 1)) ≤ (↑Go.Refl.maxN : Int) then zf64.l11 n n (x0) (x1) (x2) (Go.RowKit.wrap64 (Go.Refl.mn x3 (Go.RowKit.wrap64 ((↑(ByteArray.size x0) : Int) + 1)) - 1)) (0) (List.replicate (Int.toNat (Go.Refl.mn x3 (Go.RowKit.wrap64 ((↑(ByteArray.size x0) : Int) + 1)))) ByteArray.empty) else none) else none) else none)))) := by kernel_rfl
theorem zf64.l11_succ (n m11 : Nat) (x0 x1 : ByteArray) (x2 x3 x10 : Int) (r66 : List ByteArray) : zf64.l11 n (m11 + 1) x0 x1 x2 x3 x10 r66 = (if x10 < x3 then ((zf61 n (x0, x1)).bind fun y2 => (if y2 < 0 then (if 0 ≤ x10 then (if x10 < (↑(List.length r66) : Int) then (if 0 ≤ Go.RowKit.wrap64 (x10 + 1) then (if Go.RowKit.wrap64 (x10 + 1) ≤ (↑(List.length (List.set r66 (Int.toNat x10) x0)) : Int) then some (List.take (Int.toNat (Go.RowKit.wrap64 (x10 + 1)) - 0) (List.set r66 (Int.toNat x10) x0)) else none) else none) else none) else none) else (if 0 ≤ Go.RowKit.wrap64 (y2 + x2) then (if Go.RowKit.wrap64 (y2 + x2) ≤ (↑(ByteArray.size x0) : Int) then (if 0 ≤ x10 then (if x10 < (↑(List.length r66) : Int) then (if 0 ≤ Go.RowKit.wrap64 (y2 + (↑(ByteArray.size x1) : Int)) then (if Go.RowKit.wrap64 (y2 + (↑(ByteArray.size x1) : Int)) ≤ (↑(ByteArray.size x0) : Int) then zf64.l11 n m11 (ByteArray.extract x0 (Int.toNat (Go.RowKit.wrap64 (y2 + (↑(ByteArray.size x1) : Int)))) (ByteArray.size x0)) (x1) (x2) (x3) (Go.RowKit.wrap64 (x10 + 1)) (List.set r66 (Int.toNat x10) (ByteArray.extract x0 0 (Int.toNat (Go.RowKit.wrap64 (y2 + x2))))) else none) else none) else none) else none) else none) else none))) else (if 0 ≤ x10 then (if x10 < (↑(List.length r66) : Int) then (if 0 ≤ Go.RowKit.wrap64 (x10 + 1) then (if Go.RowKit.wrap64 (x10 + 1) ≤ (↑(List.length (List.set r66 (Int.toNat x10) x0)) : Int) then some (List.take (Int.toNat (Go.RowKit.wrap64 (x10 + 1)) - 0) (List.set r66 (Int.toNat x10) x0)) else none) else none) else none) else none)) := by kernel_rfl
noncomputable abbrev zf64.sg (n : Nat) : Sig := ⟨zf64.ps, zf64.res, zf64 n⟩
theorem zf64.call : Callable Tryz.prog 28 := ⟨Tryz.f28, Tryz.func28, by kernel_rfl, by kernel_rfl⟩
theorem zf64.ok (n : Nat) : FC Tryz.prog [] 28 (zf64.sg n) :=
  evalF_ok (C := zf64.C) ⟨tb_ok, fun n _ _ h => tabOk (l := [(43, (zf63.sg n)), (44, (zf60.sg n)), (45, (zf61.sg n))]) (all_cons ⟨zf63.ok n, zf63.call⟩ (all_cons ⟨zf60.ok n, zf60.call⟩ (all_cons ⟨zf61.ok n, zf61.call⟩ (all_nil)))) h, mixed, ar_ok, bld_ok, pts_ok⟩ zf64.A Tryz.func28 zf64.ps zf64.res n
abbrev zf62.ps : List Pm := [.arg (.v .str), .arg (.v .str)]
abbrev zf62.res : List M := [(.own .str 9)]
noncomputable def zf62.C : Cfg := { tb := tb, tab := fun n f => Refl.look [(28, (zf64.sg n))] f, gl := [], ar := ar, bld := bld, pts := pts }
noncomputable def zf62.A : Ann := { joins := [], loops := [], ids := [], pids := [], nroots := 72 }
noncomputable def zf62 (n : Nat) (x : ByteArray × ByteArray) : Option (List ByteArray) := evalF zf62.C zf62.A Tryz.f11 zf62.ps zf62.res n x
theorem zf62.eq (n : Nat) (x0 x1 : ByteArray) : zf62 n (x0, x1) = ((zf64 n (x0, x1, 0, (-1))).bind fun y0 => some (y0)) := by kernel_rfl
noncomputable abbrev zf62.sg (n : Nat) : Sig := ⟨zf62.ps, zf62.res, zf62 n⟩
theorem zf62.call : Callable Tryz.prog 11 := ⟨Tryz.f11, Tryz.func11, by kernel_rfl, by kernel_rfl⟩
theorem zf62.ok (n : Nat) : FC Tryz.prog [] 11 (zf62.sg n) :=
  evalF_ok (C := zf62.C) ⟨tb_ok, fun n _ _ h => tabOk (l := [(28, (zf64.sg n))]) (all_cons ⟨zf64.ok n, zf64.call⟩ (all_nil)) h, mixed, ar_ok, bld_ok, pts_ok⟩ zf62.A Tryz.func11 zf62.ps zf62.res n
abbrev zf10.ps : List Pm := [.arg (.v (.slice .str)), .arg (.v (.int .i64))]
abbrev zf10.res : List M := [.v .str]
noncomputable def zf10.C : Cfg := { tb := tb, tab := fun n f => Refl.look [] f, gl := [], ar := ar, bld := bld, pts := pts }
noncomputable def zf10.A : Ann := { joins := [], loops := [], ids := [], pids := [], nroots := 77 }
noncomputable def zf10 (n : Nat) (x : List ByteArray × Int) : Option (ByteArray) := evalF zf10.C zf10.A Tryz.f30 zf10.ps zf10.res n x
theorem zf10.eq (n : Nat) (x0 : List ByteArray) (x1 : Int) : zf10 n (x0, x1) = (if x1 ≥ (↑(List.length x0) : Int) then some ({ data := #[] }) else (if 0 ≤ x1 then (if x1 < (↑(List.length x0) : Int) then some (List.getD x0 (Int.toNat x1) ByteArray.empty) else none) else none)) := by kernel_rfl
noncomputable abbrev zf10.sg (n : Nat) : Sig := ⟨zf10.ps, zf10.res, zf10 n⟩
theorem zf10.call : Callable Tryz.prog 30 := ⟨Tryz.f30, Tryz.func30, by kernel_rfl, by kernel_rfl⟩
theorem zf10.ok (n : Nat) : FC Tryz.prog [] 30 (zf10.sg n) :=
  evalF_ok (C := zf10.C) ⟨tb_ok, fun n _ _ h => tabOk (l := []) (all_nil) h, mixed, ar_ok, bld_ok, pts_ok⟩ zf10.A Tryz.func30 zf10.ps zf10.res n
abbrev zf56.ps : List Pm := atPs
abbrev zf56.res : List M := atRes
noncomputable def zf56 (n : Nat) : ByteArray → Option (Int × List Int) := fun x => atRun x
noncomputable abbrev zf56.sg (n : Nat) : Sig := ⟨zf56.ps, zf56.res, zf56 n⟩
theorem zf56.call : Callable Tryz.prog 46 := ⟨Tryz.f46, Tryz.func46, by kernel_rfl, by kernel_rfl⟩
theorem zf56.ok (n : Nat) : FC Tryz.prog [g5, g6] 46 (zf56.sg n) := at_FC Tryz.laysC172 (.head _) (.tail _ (.head _))
abbrev zf6.ps : List Pm := [.arg (.v .str), .arg (.v (.int .i64))]
abbrev zf6.res : List M := [.v (.int .i64)]
noncomputable def zf6.C : Cfg := { tb := tb, tab := fun n f => Refl.look [(46, (zf56.sg n)), (19, (zf57.sg n))] f, gl := [g2, g5, g6], ar := ar, bld := bld, pts := pts }
noncomputable def zf6.A : Ann := { joins := [], loops := [], ids := [(1, [(9, [])]), (2, [(25, [])])], pids := [], nroots := 94 }
noncomputable def zf6 (n : Nat) (x : ByteArray × Int) : Option (Int) := evalF zf6.C zf6.A Tryz.f29 zf6.ps zf6.res n x
theorem zf6.eq (n : Nat) (x0 : ByteArray) (x1 : Int) : zf6 n (x0, x1) = ((zf56 n x0).bind fun y0 => (if (!List.isEmpty y0.2) = Bool.true then some ((-1)) else (if y0.1 < 0 then some ((-1)) else (if y0.1 > x1 then some ((-1)) else ((zf57 n y0.1).bind fun y1 => (if y1 = x0 then some y0.1 else some ((-1)))))))) := by kernel_rfl
noncomputable abbrev zf6.sg (n : Nat) : Sig := ⟨zf6.ps, zf6.res, zf6 n⟩
theorem zf6.call : Callable Tryz.prog 29 := ⟨Tryz.f29, Tryz.func29, by kernel_rfl, by kernel_rfl⟩
theorem zf6.ok (n : Nat) : FC Tryz.prog [g2, g5, g6] 29 (zf6.sg n) :=
  evalF_ok (C := zf6.C) ⟨tb_ok, fun n _ _ h => tabOk (l := [(46, (zf56.sg n)), (19, (zf57.sg n))]) (all_cons ⟨(.mono (gl := [g5, g6]) (gl' := [g2, g5, g6]) (all_cons (.tail _ (.head _)) (all_cons (.tail _ (.tail _ (.head _))) (all_nil))) (zf56.ok n)), zf56.call⟩ (all_cons ⟨(.mono (gl := [g2]) (gl' := [g2, g5, g6]) (all_cons (.head _) (all_nil)) (zf57.ok n)), zf57.call⟩ (all_nil))) h, mixed, ar_ok, bld_ok, pts_ok⟩ zf6.A Tryz.func29 zf6.ps zf6.res n
abbrev zf2.ps : List Pm := [.arg (.v .str)]
abbrev zf2.res : List M := [.v (.int .i64)]
noncomputable def zf2.C : Cfg := { tb := tb, tab := fun n f => Refl.look [(42, (zf3.sg n))] f, gl := [g2], ar := ar, bld := bld, pts := pts }
noncomputable def zf2.A : Ann := { joins := [], loops := [(5, { live := [0, 3, 22, 23], base := 55 })], ids := [(12, [(51, [])])], pids := [], nroots := 119 }
noncomputable def zf2 (n : Nat) (x : ByteArray) : Option (Int) := evalF zf2.C zf2.A Tryz.f31 zf2.ps zf2.res n x
noncomputable def zf2.K0 (_ : Nat) : Kont (Int) := finK zf2.C (Func.results Tryz.f31).toList zf2.ps zf2.res
noncomputable def zf2.K1 (n : Nat) : Kont (Int) := seqK (fun s' k => joinE zf2.A.joins (codeAt Tryz.f31 [1, 1, 1, 1]) (fun s'' => evalC zf2.C zf2.A n (codeAt Tryz.f31 [1, 1, 1, 1]) s'' k) s') (zf2.K0 n)
noncomputable def zf2.K2 (n : Nat) : Kont (Int) := blockK 0 (zf2.K1 n)
noncomputable def zf2.l5 (n m5 : Nat) (x0 : ByteArray) (x3 x22 x23 : Int) : Option (Int) := loopE (cutAt zf2.A.loops (codeAt Tryz.f31 [1, 1, 1, 0, 1, 0, 0])) (fun s k => evalC zf2.C zf2.A n (codeAt Tryz.f31 [1, 1, 1, 0, 1, 0, 0]) s k) m5 (St.of 55 119 [(0, .val .str x0), (3, .val (.int .i64) x3), (22, .val (.int .i64) x22), (23, .val (.int .i64) x23)] [] []) (zf2.K2 n)
theorem zf2.eq (n : Nat) (x0 : ByteArray) : zf2 n x0 = (if (↑(ByteArray.size x0) : Int) < 4 then some ((-1)) else (if (↑(ByteArray.size x0) : Int) > 8 then some ((-1)) else (if 0 ≤ Go.RowKit.wrap64 ((↑(ByteArray.size x0) : Int) - 3) then (if Go.RowKit.wrap64 ((↑(ByteArray.size x0) : Int) - 3) < (↑(ByteArray.size x0) : Int) then (if (↑(UInt8.toNat (List.getD (Array.toList (ByteArray.data x0)) (Int.toNat (Go.RowKit.wrap64 ((↑(ByteArray.size x0) : Int) - 3))) (0 : UInt8))) : Int) = 46 then zf2.l5 n n (x0) (0) ((↑(ByteArray.size x0) : Int)) (0) else some ((-1))) else none) else none))) := by kernel_rfl
theorem zf2.l5_succ (n m5 : Nat) (x0 : ByteArray) (x3 x22 x23 : Int) : zf2.l5 n (m5 + 1) x0 x3 x22 x23 = (if x23 < x22 then (if x23 = Go.RowKit.wrap64 ((↑(ByteArray.size x0) : Int) - 3) then zf2.l5 n m5 (x0) (x3) (x22) (Go.RowKit.wrap64 (x23 + 1)) else (if 0 ≤ x23 then (if x23 < (↑(ByteArray.size x0) : Int) then (if (↑(UInt8.toNat (List.getD (Array.toList (ByteArray.data x0)) (Int.toNat x23) (0 : UInt8))) : Int) < 48 then some ((-1)) else (if 0 ≤ x23 then (if x23 < (↑(ByteArray.size x0) : Int) then (if (↑(UInt8.toNat (List.getD (Array.toList (ByteArray.data x0)) (Int.toNat x23) (0 : UInt8))) : Int) > 57 then some ((-1)) else (if 0 ≤ x23 then (if x23 < (↑(ByteArray.size x0) : Int) then zf2.l5 n m5 (x0) (Go.RowKit.wrap64 (Go.RowKit.wrap64 (x3 * 10) + Go.RowKit.wrap64 (((↑(UInt8.toNat (List.getD (Array.toList (ByteArray.data x0)) (Int.toNat x23) (0 : UInt8))) : Int) - 48) % 256))) (x22) (Go.RowKit.wrap64 (x23 + 1)) else none) else none)) else none) else none)) else none) else none)) else ((zf3 n x3).bind fun y0 => (if y0 = x0 then some (x3) else some ((-1))))) := by kernel_rfl
noncomputable abbrev zf2.sg (n : Nat) : Sig := ⟨zf2.ps, zf2.res, zf2 n⟩
theorem zf2.call : Callable Tryz.prog 31 := ⟨Tryz.f31, Tryz.func31, by kernel_rfl, by kernel_rfl⟩
theorem zf2.ok (n : Nat) : FC Tryz.prog [g2] 31 (zf2.sg n) :=
  evalF_ok (C := zf2.C) ⟨tb_ok, fun n _ _ h => tabOk (l := [(42, (zf3.sg n))]) (all_cons ⟨zf3.ok n, zf3.call⟩ (all_nil)) h, mixed, ar_ok, bld_ok, pts_ok⟩ zf2.A Tryz.func31 zf2.ps zf2.res n
abbrev zf5.ps : List Pm := [.arg (.v (.int .i64)), .arg (.v (.slice .str))]
abbrev zf5.res : List M := [.v zt1]
noncomputable def zf5.C : Cfg := { tb := tb, tab := fun n f => Refl.look [(30, (zf10.sg n)), (29, (zf6.sg n)), (31, (zf2.sg n))] f, gl := [g2, g5, g6], ar := ar, bld := bld, pts := pts }
noncomputable def zf5.A : Ann := { joins := [], loops := [(17, { live := [4, 5, 53, 54, 55], base := 68, growB := [(5, 4, 96, (.int .i64), 3)] })], ids := [(7, [(18, []), (19, []), (21, []), (22, [])]), (9, [(27, []), (28, [])]), (12, [(34, []), (35, [])]), (14, [(41, []), (42, [])]), (19, [(62, []), (63, [])])], pids := [], nroots := 132 }
noncomputable def zf5 (n : Nat) (x : Int × List ByteArray) : Option zt12 := evalF zf5.C zf5.A Tryz.f12 zf5.ps zf5.res n x
noncomputable def zf5.K0 (_ : Nat) : Kont zt12 := finK zf5.C (Func.results Tryz.f12).toList zf5.ps zf5.res
noncomputable def zf5.K1 (n : Nat) : Kont zt12 := seqK (fun s' k => joinE zf5.A.joins (codeAt Tryz.f12 [1, 1, 1, 1, 1, 1, 1]) (fun s'' => evalC zf5.C zf5.A n (codeAt Tryz.f12 [1, 1, 1, 1, 1, 1, 1]) s'' k) s') (zf5.K0 n)
noncomputable def zf5.K2 (n : Nat) : Kont zt12 := blockK 1 (zf5.K1 n)
noncomputable def zf5.K3 (n : Nat) : Kont zt12 := blockK 2 (zf5.K2 n)
noncomputable def zf5.l17 (n m17 : Nat) (x53 : List ByteArray) (x54 x55 : Int) (r68_0 r68_1 : Int) (r68_2 r68_3 : Int) (r68_5 r68_6 : Int) (r69_0 r69_1 : Int) (r69_2 r69_3 : Int) (r69_5 r69_6 : Int) (r70 : List Int) : Option zt12 := loopE (cutAt zf5.A.loops (codeAt Tryz.f12 [1, 1, 1, 1, 1, 1, 0, 0, 1, 1, 1, 0, 1, 0, 0])) (fun s k => evalC zf5.C zf5.A n (codeAt Tryz.f12 [1, 1, 1, 1, 1, 1, 0, 0, 1, 1, 1, 0, 1, 0, 0]) s k) m17 (St.of 68 132 [(4, .ptr 68 0 0), (5, .ptr 69 0 0), (53, .val (.slice .str) x53), (54, .val (.int .i64) x54), (55, .val (.int .i64) x55)] [(68, .box 27 [.val (.int .i64) r68_0, .val (.int .i64) r68_1, .val (.int .i64) r68_2, .val (.int .i64) r68_3, .nils, .val (.int .i64) r68_5, .val (.int .i64) r68_6]), (69, .box 27 [.val (.int .i64) r69_0, .val (.int .i64) r69_1, .val (.int .i64) r69_2, .val (.int .i64) r69_3, .own 70, .val (.int .i64) r69_5, .val (.int .i64) r69_6]), (70, .row (.int .i64) 3 r70)] []) (zf5.K3 n)
theorem zf5.eq (n : Nat) (x0 : Int) (x1 : List ByteArray) : zf5 n (x0, x1) = (if x0 = 0 then (if x0 = 0 then some ((x0, 0, 0, 0, [], 0, 0)) else (if x0 = 6 then ((zf10 n (x1, 1)).bind fun y0 => ((zf6 n (y0, 1000)).bind fun y1 => ((zf10 n (x1, 2)).bind fun y2 => ((zf6 n (y2, 1000)).bind fun y3 => some ((x0, 0, 0, 0, [], y1, y3)))))) else ((zf10 n (x1, 1)).bind fun y4 => ((zf6 n (y4, 99)).bind fun y5 => (if x0 = 5 then some ((x0, y5, 0, 0, [], 0, 0)) else ((zf10 n (x1, 2)).bind fun y6 => ((zf2 n y6).bind fun y7 => (if x0 = 4 then ((zf10 n (x1, 3)).bind fun y8 => ((zf2 n y8).bind fun y9 => some ((x0, y5, y7, y9, [], 0, 0)))) else (if x0 = 3 then (if (↑(List.length x1) : Int) > 3 then (if 3 ≤ (↑(List.length x1) : Int) then zf5.l17 n n (List.drop (Int.toNat 3) x1) ((↑(List.length (List.drop (Int.toNat (3 : Int)) x1)) : Int)) (0) (0) (0) (0) (0) (0) (0) (x0) (y5) (y7) (0) (0) (0) ([]) else none) else some ((x0, y5, y7, 0, [], 0, 0))) else some ((x0, y5, y7, 0, [], 0, 0))))))))))) else (if x0 = 7 then some ((x0, 0, 0, 0, [], 0, 0)) else (if x0 = 6 then ((zf10 n (x1, 1)).bind fun y10 => ((zf6 n (y10, 1000)).bind fun y11 => ((zf10 n (x1, 2)).bind fun y12 => ((zf6 n (y12, 1000)).bind fun y13 => some ((x0, 0, 0, 0, [], y11, y13)))))) else ((zf10 n (x1, 1)).bind fun y14 => ((zf6 n (y14, 99)).bind fun y15 => (if x0 = 5 then some ((x0, y15, 0, 0, [], 0, 0)) else ((zf10 n (x1, 2)).bind fun y16 => ((zf2 n y16).bind fun y17 => (if x0 = 4 then ((zf10 n (x1, 3)).bind fun y18 => ((zf2 n y18).bind fun y19 => some ((x0, y15, y17, y19, [], 0, 0)))) else (if x0 = 3 then (if (↑(List.length x1) : Int) > 3 then (if 3 ≤ (↑(List.length x1) : Int) then zf5.l17 n n (List.drop (Int.toNat 3) x1) ((↑(List.length (List.drop (Int.toNat (3 : Int)) x1)) : Int)) (0) (0) (0) (0) (0) (0) (0) (x0) (y15) (y17) (0) (0) (0) ([]) else none) else some ((x0, y15, y17, 0, [], 0, 0))) else some ((x0, y15, y17, 0, [], 0, 0)))))))))))) := by kernel_rfl
theorem zf5.l17_succ (n m17 : Nat) (x53 : List ByteArray) (x54 x55 : Int) (r68_0 r68_1 : Int) (r68_2 r68_3 : Int) (r68_5 r68_6 : Int) (r69_0 r69_1 : Int) (r69_2 r69_3 : Int) (r69_5 r69_6 : Int) (r70 : List Int) : zf5.l17 n (m17 + 1) x53 x54 x55 r68_0 r68_1 r68_2 r68_3 r68_5 r68_6 r69_0 r69_1 r69_2 r69_3 r69_5 r69_6 r70 = (if x55 < x54 then (if 0 ≤ x55 then (if x55 < (↑(List.length x53) : Int) then ((zf6 n (List.getD x53 (Int.toNat x55) ByteArray.empty, 99)).bind fun y20 => (if List.length r70 + List.length (List.set (List.replicate (1 : Nat) (0 : Int)) (0 : Nat) y20) ≤ Go.Refl.maxN then zf5.l17 n m17 (x53) (x54) (Go.RowKit.wrap64 (x55 + 1)) (r68_0) (r68_1) (r68_2) (r68_3) (r68_5) (r68_6) (r69_0) (r69_1) (r69_2) (r69_3) (r69_5) (r69_6) (r70 ++ List.set (List.replicate 1 0) 0 y20) else none)) else none) else none) else some ((r69_0, r69_1, r69_2, r69_3, r70, r69_5, r69_6))) := by kernel_rfl
noncomputable abbrev zf5.sg (n : Nat) : Sig := ⟨zf5.ps, zf5.res, zf5 n⟩
theorem zf5.call : Callable Tryz.prog 12 := ⟨Tryz.f12, Tryz.func12, by kernel_rfl, by kernel_rfl⟩
theorem zf5.ok (n : Nat) : FC Tryz.prog [g2, g5, g6] 12 (zf5.sg n) :=
  evalF_ok (C := zf5.C) ⟨tb_ok, fun n _ _ h => tabOk (l := [(30, (zf10.sg n)), (29, (zf6.sg n)), (31, (zf2.sg n))]) (all_cons ⟨(.mono (gl := []) (gl' := [g2, g5, g6]) (all_nil) (zf10.ok n)), zf10.call⟩ (all_cons ⟨zf6.ok n, zf6.call⟩ (all_cons ⟨(.mono (gl := [g2]) (gl' := [g2, g5, g6]) (all_cons (.head _) (all_nil)) (zf2.ok n)), zf2.call⟩ (all_nil)))) h, mixed, ar_ok, bld_ok, pts_ok⟩ zf5.A Tryz.func12 zf5.ps zf5.res n
abbrev zf1.ps : List Pm := [.arg (.v .str)]
abbrev zf1.res : List M := [.v zt1, .v .bool]
noncomputable def zf1.C : Cfg := { tb := tb, tab := fun n f => Refl.look [(11, (zf62.sg n)), (12, (zf5.sg n)), (5, (zf0.sg n))] f, gl := [g0, g2, g5, g6], ar := ar, bld := bld, pts := pts }
noncomputable def zf1.A : Ann := { joins := [], loops := [(3, { live := [0, 2, 4, 10, 11], base := 31 })], ids := [(6, [(22, [])]), (7, [(24, [])])], pids := [], nroots := 95 }
noncomputable def zf1 (n : Nat) (x : ByteArray) : Option (zt12 × Bool) := evalF zf1.C zf1.A Tryz.f7 zf1.ps zf1.res n x
noncomputable def zf1.K0 (_ : Nat) : Kont (zt12 × Bool) := finK zf1.C (Func.results Tryz.f7).toList zf1.ps zf1.res
noncomputable def zf1.K1 (n : Nat) : Kont (zt12 × Bool) := seqK (fun s' k => joinE zf1.A.joins (codeAt Tryz.f7 [1, 1, 1]) (fun s'' => evalC zf1.C zf1.A n (codeAt Tryz.f7 [1, 1, 1]) s'' k) s') (zf1.K0 n)
noncomputable def zf1.K2 (n : Nat) : Kont (zt12 × Bool) := blockK 0 (zf1.K1 n)
noncomputable def zf1.l3 (n m3 : Nat) (x0 : ByteArray) (x10 : List ByteArray) (x11 r31_0 : Int) (r31_1 r31_2 : Int) (r31_3 r31_5 r31_6 : Int) (r32 : List ByteArray) : Option (zt12 × Bool) := loopE (cutAt zf1.A.loops (codeAt Tryz.f7 [1, 1, 0, 1, 0, 0])) (fun s k => evalC zf1.C zf1.A n (codeAt Tryz.f7 [1, 1, 0, 1, 0, 0]) s k) m3 (St.of 31 95 [(0, .val .str x0), (2, .ptr 31 0 0), (4, .own 32), (10, .garr .str x10), (11, .val (.int .i64) x11)] [(31, .box 27 [.val (.int .i64) r31_0, .val (.int .i64) r31_1, .val (.int .i64) r31_2, .val (.int .i64) r31_3, .nils, .val (.int .i64) r31_5, .val (.int .i64) r31_6]), (32, .row .str 9 r32)] []) (zf1.K2 n)
theorem zf1.eq (n : Nat) (x0 : ByteArray) : zf1 n x0 = ((zf62 n (x0, { data := #[(32 : UInt8)] })).bind fun y0 => zf1.l3 n n (x0) ([{ data := #[(106 : UInt8), (111 : UInt8), (105 : UInt8), (110 : UInt8)] }, { data := #[(115 : UInt8), (97 : UInt8), (118 : UInt8), (101 : UInt8)] }, { data := #[(116 : UInt8), (97 : UInt8), (107 : UInt8), (101 : UInt8)] }, { data := #[(108 : UInt8), (101 : UInt8), (110 : UInt8), (100 : UInt8)] }, { data := #[(114 : UInt8), (101 : UInt8), (112 : UInt8), (97 : UInt8), (121 : UInt8)] }, { data := #[(102 : UInt8), (97 : UInt8), (105 : UInt8), (108 : UInt8)] }, { data := #[(110 : UInt8), (105 : UInt8), (103 : UInt8), (104 : UInt8), (116 : UInt8)] }, { data := #[(115 : UInt8), (104 : UInt8), (97 : UInt8), (114 : UInt8), (101 : UInt8)] }]) (0) (0) (0) (0) (0) (0) (0) (y0)) := by kernel_rfl
theorem zf1.l3_succ (n m3 : Nat) (x0 : ByteArray) (x10 : List ByteArray) (x11 r31_0 : Int) (r31_1 r31_2 : Int) (r31_3 r31_5 r31_6 : Int) (r32 : List ByteArray) : zf1.l3 n (m3 + 1) x0 x10 x11 r31_0 r31_1 r31_2 r31_3 r31_5 r31_6 r32 = (if x11 < 8 then (if List.length x10 = 8 then (if 0 ≤ x11 then (if x11 < (↑8 : Int) then (if 0 < (↑(List.length r32) : Int) then (if List.getD r32 0 ByteArray.empty = List.getD x10 (Int.toNat x11) ByteArray.empty then ((zf5 n (x11, r32)).bind fun y1 => ((zf0 n (y1.1, y1.2.1, y1.2.2.1, y1.2.2.2.1, y1.2.2.2.2.1, y1.2.2.2.2.2.1, y1.2.2.2.2.2.2)).bind fun y2 => (if y2 = x0 then some (((y1.1, y1.2.1, y1.2.2.1, y1.2.2.2.1, y1.2.2.2.2.1, y1.2.2.2.2.2.1, y1.2.2.2.2.2.2), Bool.true)) else some (((0, 0, 0, 0, [], 0, 0), Bool.false))))) else zf1.l3 n m3 (x0) (x10) (Go.RowKit.wrap64 (x11 + 1)) (r31_0) (r31_1) (r31_2) (r31_3) (r31_5) (r31_6) (r32)) else none) else none) else none) else none) else some (((0, 0, 0, 0, [], 0, 0), Bool.false))) := by kernel_rfl
noncomputable abbrev zf1.sg (n : Nat) : Sig := ⟨zf1.ps, zf1.res, zf1 n⟩
theorem zf1.call : Callable Tryz.prog 7 := ⟨Tryz.f7, Tryz.func7, by kernel_rfl, by kernel_rfl⟩
theorem zf1.ok (n : Nat) : FC Tryz.prog [g0, g2, g5, g6] 7 (zf1.sg n) :=
  evalF_ok (C := zf1.C) ⟨tb_ok, fun n _ _ h => tabOk (l := [(11, (zf62.sg n)), (12, (zf5.sg n)), (5, (zf0.sg n))]) (all_cons ⟨(.mono (gl := []) (gl' := [g0, g2, g5, g6]) (all_nil) (zf62.ok n)), zf62.call⟩ (all_cons ⟨(.mono (gl := [g2, g5, g6]) (gl' := [g0, g2, g5, g6]) (all_cons (.tail _ (.head _)) (all_cons (.tail _ (.tail _ (.head _))) (all_cons (.tail _ (.tail _ (.tail _ (.head _)))) (all_nil)))) (zf5.ok n)), zf5.call⟩ (all_cons ⟨(.mono (gl := [g0, g2]) (gl' := [g0, g2, g5, g6]) (all_cons (.head _) (all_cons (.tail _ (.head _)) (all_nil))) (zf0.ok n)), zf0.call⟩ (all_nil)))) h, mixed, ar_ok, bld_ok, pts_ok⟩ zf1.A Tryz.func7 zf1.ps zf1.res n
abbrev zf11.ps : List Pm := [.arg (.v (.slice (.int .u8)))]
abbrev zf11.res : List M := [.v .bool]
noncomputable def zf11.C : Cfg := { tb := tb, tab := fun n f => Refl.look [(4, (zf13.sg n)), (5, (zf0.sg n)), (6, (zf14.sg n)), (7, (zf1.sg n))] f, gl := [g0, g2, g5, g6], ar := ar, bld := bld, pts := pts }
noncomputable def zf11.A : Ann := { joins := [(6, { live := [3, 4, 21], base := 45 })], loops := [], ids := [(3, [(11, [])]), (4, [(13, [])]), (5, [(16, [])]), (6, [(24, [])]), (7, [(28, [])]), (8, [(34, [])])], pids := [], nroots := 109 }
noncomputable def zf11 (n : Nat) (x : List Int) : Option (Bool) := evalF zf11.C zf11.A Tryz.f3 zf11.ps zf11.res n x
noncomputable def zf11.K0 (_ : Nat) : Kont (Bool) := finK zf11.C (Func.results Tryz.f3).toList zf11.ps zf11.res
noncomputable def zf11.K1 (n : Nat) : Kont (Bool) := seqK (fun s' k => joinE zf11.A.joins (codeAt Tryz.f3 [1, 1, 1, 1, 1]) (fun s'' => evalC zf11.C zf11.A n (codeAt Tryz.f3 [1, 1, 1, 1, 1]) s'' k) s') (zf11.K0 n)
noncomputable def zf11.j6 (n : Nat) (x4 : ByteArray) (x21 : Bool) (r45_0 r45_1 : Int) (r45_2 r45_3 : Int) (r45_4 : List Int) (r45_5 r45_6 : Int) : Option (Bool) := holdF (fun s => evalC zf11.C zf11.A n (codeAt Tryz.f3 [1, 1, 1, 1, 0, 1]) s (zf11.K1 n)) (St.of 45 109 [(3, .ptr 45 0 0), (4, .val .str x4), (21, .val .bool x21)] [(45, .box 27 [.val (.int .i64) r45_0, .val (.int .i64) r45_1, .val (.int .i64) r45_2, .val (.int .i64) r45_3, .val (.slice (.int .i64)) r45_4, .val (.int .i64) r45_5, .val (.int .i64) r45_6])] [])
theorem zf11.eq (n : Nat) (x0 : List Int) : zf11 n x0 = (if (↑(List.length x0) : Int) > 1048576 then some (Bool.true) else ((zf13 n x0).bind fun y0 => ((zf0 n (y0.1, y0.2.1, y0.2.2.1, y0.2.2.2.1, y0.2.2.2.2.1, y0.2.2.2.2.2.1, y0.2.2.2.2.2.2)).bind fun y1 => ((zf14 n (y0.1, y0.2.1, y0.2.2.1, y0.2.2.2.1, y0.2.2.2.2.1, y0.2.2.2.2.2.1, y0.2.2.2.2.2.2)).bind fun y2 => (if y1 = y2 then zf11.j6 n (y1) (Decidable.decide (y1 = { data := #[] })) y0.1 y0.2.1 y0.2.2.1 y0.2.2.2.1 y0.2.2.2.2.1 y0.2.2.2.2.2.1 y0.2.2.2.2.2.2 else zf11.j6 n (y1) (Bool.true) y0.1 y0.2.1 y0.2.2.1 y0.2.2.2.1 y0.2.2.2.2.1 y0.2.2.2.2.2.1 y0.2.2.2.2.2.2))))) := by kernel_rfl
theorem zf11.j6_eq (n : Nat) (x4 : ByteArray) (x21 : Bool) (r45_0 r45_1 : Int) (r45_2 r45_3 : Int) (r45_4 : List Int) (r45_5 r45_6 : Int) : zf11.j6 n x4 x21 r45_0 r45_1 r45_2 r45_3 r45_4 r45_5 r45_6 = (if (x21) = true then ((zf14 n (r45_0, r45_1, r45_2, r45_3, r45_4, r45_5, r45_6)).bind fun y3 => some (Decidable.decide (x4 = y3))) else ((zf1 n x4).bind fun y4 => (if y4.2 = Bool.true then ((zf0 n (y4.1.1, y4.1.2.1, y4.1.2.2.1, y4.1.2.2.2.1, y4.1.2.2.2.2.1, y4.1.2.2.2.2.2.1, y4.1.2.2.2.2.2.2)).bind fun y5 => (if y5 = x4 then some (Decidable.decide (y4.1.1 = r45_0)) else some (Bool.false))) else some (Bool.false)))) := (holdF_eq _ _).trans (by kernel_rfl)
noncomputable abbrev zf11.sg (n : Nat) : Sig := ⟨zf11.ps, zf11.res, zf11 n⟩
theorem zf11.call : Callable Tryz.prog 3 := ⟨Tryz.f3, Tryz.func3, by kernel_rfl, by kernel_rfl⟩
theorem zf11.ok (n : Nat) : FC Tryz.prog [g0, g2, g5, g6] 3 (zf11.sg n) :=
  evalF_ok (C := zf11.C) ⟨tb_ok, fun n _ _ h => tabOk (l := [(4, (zf13.sg n)), (5, (zf0.sg n)), (6, (zf14.sg n)), (7, (zf1.sg n))]) (all_cons ⟨(.mono (gl := []) (gl' := [g0, g2, g5, g6]) (all_nil) (zf13.ok n)), zf13.call⟩ (all_cons ⟨(.mono (gl := [g0, g2]) (gl' := [g0, g2, g5, g6]) (all_cons (.head _) (all_cons (.tail _ (.head _)) (all_nil))) (zf0.ok n)), zf0.call⟩ (all_cons ⟨(.mono (gl := []) (gl' := [g0, g2, g5, g6]) (all_nil) (zf14.ok n)), zf14.call⟩ (all_cons ⟨zf1.ok n, zf1.call⟩ (all_nil))))) h, mixed, ar_ok, bld_ok, pts_ok⟩ zf11.A Tryz.func3 zf11.ps zf11.res n
end Go.Proofs.YtpgfkoeodhfkgaaGreatDoorG
end
