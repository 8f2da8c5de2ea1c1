import Derived.Test.YtpgfkoeodhfkgaaGreatDoorProg
import Derived.Test.YtpgfkoeodhfkgaaGreatDoorB2
/- FnFormatEvent: functions, gone through by the small machine. No condition. -/
set_option linter.unusedVariables false
set_option linter.unusedSimpArgs false
section
set_option linter.unusedVariables false
namespace Go.Proofs
open Go Go.Shelf Go.RowKit Go.Refl
set_option maxHeartbeats 2000000 in
set_option maxRecDepth 100000 in
theorem Tryz.cc : CcOk Tryz.prog 53 73 := by
 intro b p v w hbk hp
 have X1 : (Tryz.prog.info? 73).map (·.size) = some 2 := by kernel_rfl
 have X2 : liesAt Tryz.prog Tryz.prog.depth 73 (2 / Tryz.prog.cellsOf 73) 0 73 1 = true := by kernel_rfl
 obtain ⟨j, hj, hjs⟩ := Option.map_eq_some_iff.1 X1
 have u72 := run_underlying (P := Tryz.prog) Tryz.underlying73
 have u70 := run_underlying (P := Tryz.prog) Tryz.underlying71
 have u164 := run_underlying (P := Tryz.prog) Tryz.underlying105
 rcases hp with rfl | rfl
 ·have h0 : w.cell? ⟨b, 0, none⟩ = some (.pointer none) := by rw [Lib.cell_of_heap hbk]; rfl
  have hsh : w.shape? b = some (73, 2) := by simp [World.shape?, hbk]
  have hfz : w.frozen? ⟨b, 0, none⟩ = false := Lib.frozen_of_heap hbk 0
  suffices hs : Calls Tryz.prog 53 #[.pointer (some ⟨b, 0, none⟩)] w fun e w' => e = .returned (.tuple #[]) ∧ w' = w.setCell ⟨b, 0, none⟩ (.pointer (some ⟨b, 0, none⟩)) by
   refine hs.mono ?_
   rintro e w' ⟨rfl, rfl⟩
   exact ⟨rfl, by simp [World.setCell, Array.getElem?_modify, hbk], evol_set w b 0 _, by simp [World.setCell]⟩
  go_enter Tryz.func53, Tryz.ntmps53
  go_wp2
  rw [Lib.run_to_unsafe w ⟨b, 0, none⟩ Tryz.underlying71 Tryz.underlying105 hj (by rw [hjs]; decide) hsh (Nat.zero_lt_succ 1)]
  simp only [Result.andThen]
  rw [Oper.upon_value]
  go_wp2
  rw [run_callFunc_extern Tryz.func72 (by kernel_rfl) (by kernel_rfl) (by kernel_rfl) (e := Extern.AbiNoEscape.same) (by kernel_rfl)]
  rw [Lib.run_noEscape]
  simp only [Result.andThen]
  rw [Oper.upon_value]
  go_wp2
  rw [Lib.run_from_unsafe w ⟨b, 0, none⟩ Tryz.underlying105 Tryz.underlying71 hj hsh X2]
  simp only [Result.andThen]
  rw [Oper.upon_value]
  go_wp2
  go_end0
  exact ⟨rfl, rfl⟩
 ·have h0 : w.cell? ⟨b, 0, none⟩ = some (.pointer (some ⟨b, 0, none⟩)) := by rw [Lib.cell_of_heap hbk]; rfl
  suffices hs : Calls Tryz.prog 53 #[.pointer (some ⟨b, 0, none⟩)] w fun e w' => e = .returned (.tuple #[]) ∧ w' = w by
   refine hs.mono ?_
   rintro e w' ⟨rfl, rfl⟩
   exact ⟨rfl, hbk, ⟨rfl, rfl, rfl, Nat.le_refl _, fun _ _ _ => rfl⟩, rfl⟩
  go_enter Tryz.func53, Tryz.ntmps53
  go_wp2
  rw [Lib.run_neq_ptr_same w _ Tryz.underlying71 hj]
  go_wp2
  go_end0
  exact ⟨rfl, rfl⟩
def Tryz.lays169_ren : Go.Shelf.Ren := ⟨fun | 169 => 41 | n => n, fun | 70 => 71 | 9 => 9 | 0 => 0 | 72 => 73 | 37 => 22 | 127 => 88 | 3 => 3 | 5 => 5 | n => n, fun | n => n⟩
theorem Tryz.lays169 : Go.Proofs.Lays.n169 Tryz.prog Tryz.lays169_ren := {
 mixed := by kernel_rfl
 f169 := Tryz.func41.trans (congrArg some (by kernel_rfl))
 t0 := Tryz.underlying0
 a0 := Tryz.isAgg0
 z0 := Tryz.sizeOf0
 v0 := Tryz.zeroValue0
 t3 := Tryz.underlying3
 a3 := Tryz.isAgg3
 z3 := Tryz.sizeOf3
 v3 := Tryz.zeroValue3
 t9 := Tryz.underlying9
 a9 := Tryz.isAgg9
 z9 := Tryz.sizeOf9
 v9 := Tryz.zeroValue9
 t37 := Tryz.underlying22
 a37 := Tryz.isAgg22
 z37 := Tryz.sizeOf22
 v37 := Tryz.zeroValue22
 t70 := Tryz.underlying71
 a70 := Tryz.isAgg71
 z70 := Tryz.sizeOf71
 v70 := Tryz.zeroValue71
 t72 := Tryz.underlying73
 a72 := Tryz.isAgg73
 z72 := Tryz.sizeOf73
 v72 := Tryz.zeroValue73
 t127 := Tryz.underlying88
 a127 := Tryz.isAgg88
 z127 := Tryz.sizeOf88
 v127 := Tryz.zeroValue88 }
theorem Tryz.Builder_Extra_169 : Builder.Extra Tryz.prog Tryz.lays169_ren := {
 sizeBuilder := by kernel_rfl
 liesBuilder := by kernel_rfl
 t5 := Tryz.underlying5
 a5 := Tryz.isAgg5
 z5 := Tryz.sizeOf5
 v5 := Tryz.zeroValue5
 infoByte := by kernel_rfl
 cellsByte := by kernel_rfl
 sizeByte := by kernel_rfl
 neB5 := by decide }
def Tryz.laysM171_ren : Go.Shelf.Ren := ⟨fun | 171 => 19 | 243 => 39 | 246 => 52 | 283 => 68 | 284 => 69 | 285 => 70 | 286 => 71 | 129 => 89 | 317 => 88 | 318 => 90 | 319 => 91 | 320 => 92 | 337 => 101 | 338 => 102 | n => n, fun | 3 => 3 | 9 => 9 | 2 => 2 | 4 => 4 | 171 => 99 | 0 => 0 | 53 => 100 | 37 => 22 | 5 => 5 | 173 => 103 | 212 => 121 | 51 => 122 | 20 => 20 | 213 => 123 | 46 => 107 | 232 => 147 | 233 => 148 | n => n, fun | 17 => 2 | 18 => 7 | 19 => 8 | n => n⟩
theorem Tryz.laysM171 : Go.Proofs.LaysM.n171 Tryz.prog Tryz.laysM171_ren := {
 mixed := by kernel_rfl
 f129 := Tryz.func89.trans (congrArg some (by kernel_rfl))
 f171 := Tryz.func19.trans (congrArg some (by kernel_rfl))
 f243 := Tryz.func39.trans (congrArg some (by kernel_rfl))
 f246 := Tryz.func52.trans (congrArg some (by kernel_rfl))
 f283 := Tryz.func68.trans (congrArg some (by kernel_rfl))
 f284 := Tryz.func69.trans (congrArg some (by kernel_rfl))
 f285 := Tryz.func70.trans (congrArg some (by kernel_rfl))
 f286 := Tryz.func71.trans (congrArg some (by kernel_rfl))
 f317 := Tryz.func88.trans (congrArg some (by kernel_rfl))
 f318 := Tryz.func90.trans (congrArg some (by kernel_rfl))
 f319 := Tryz.func91.trans (congrArg some (by kernel_rfl))
 f320 := Tryz.func92.trans (congrArg some (by kernel_rfl))
 f337 := Tryz.func101.trans (congrArg some (by kernel_rfl))
 f338 := Tryz.func102.trans (congrArg some (by kernel_rfl))
 t0 := Tryz.underlying0
 a0 := Tryz.isAgg0
 z0 := Tryz.sizeOf0
 v0 := Tryz.zeroValue0
 t2 := Tryz.underlying2
 a2 := Tryz.isAgg2
 z2 := Tryz.sizeOf2
 v2 := Tryz.zeroValue2
 t3 := Tryz.underlying3
 a3 := Tryz.isAgg3
 z3 := Tryz.sizeOf3
 v3 := Tryz.zeroValue3
 t4 := Tryz.underlying4
 a4 := Tryz.isAgg4
 z4 := Tryz.sizeOf4
 v4 := Tryz.zeroValue4
 t5 := Tryz.underlying5
 a5 := Tryz.isAgg5
 z5 := Tryz.sizeOf5
 v5 := Tryz.zeroValue5
 t9 := Tryz.underlying9
 a9 := Tryz.isAgg9
 z9 := Tryz.sizeOf9
 v9 := Tryz.zeroValue9
 t20 := Tryz.underlying20
 a20 := Tryz.isAgg20
 z20 := Tryz.sizeOf20
 v20 := Tryz.zeroValue20
 t37 := Tryz.underlying22
 a37 := Tryz.isAgg22
 z37 := Tryz.sizeOf22
 v37 := Tryz.zeroValue22
 t46 := Tryz.underlying107
 a46 := Tryz.isAgg107
 z46 := Tryz.sizeOf107
 v46 := Tryz.zeroValue107
 t51 := Tryz.underlying122
 a51 := Tryz.isAgg122
 z51 := Tryz.sizeOf122
 v51 := Tryz.zeroValue122
 t53 := Tryz.underlying100
 a53 := Tryz.isAgg100
 z53 := Tryz.sizeOf100
 v53 := Tryz.zeroValue100
 t171 := Tryz.underlying99
 a171 := Tryz.isAgg99
 z171 := Tryz.sizeOf99
 v171 := Tryz.zeroValue99
 t173 := Tryz.underlying103
 a173 := Tryz.isAgg103
 z173 := Tryz.sizeOf103
 v173 := Tryz.zeroValue103
 t212 := Tryz.underlying121
 a212 := Tryz.isAgg121
 z212 := Tryz.sizeOf121
 v212 := Tryz.zeroValue121
 t213 := Tryz.underlying123
 a213 := Tryz.isAgg123
 z213 := Tryz.sizeOf123
 t232 := Tryz.underlying147
 a232 := Tryz.isAgg147
 z232 := Tryz.sizeOf147
 v232 := Tryz.zeroValue147
 t233 := Tryz.underlying148
 a233 := Tryz.isAgg148
 z233 := Tryz.sizeOf148
 v233 := Tryz.zeroValue148
 g17 := by kernel_rfl
 g18 := by kernel_rfl
 g19 := by kernel_rfl
 i0 := by kernel_rfl
 i2 := by kernel_rfl
 i3 := by kernel_rfl
 i4 := by kernel_rfl
 i5 := by kernel_rfl
 i9 := by kernel_rfl
 i20 := by kernel_rfl
 i37 := by kernel_rfl
 i46 := by kernel_rfl
 i51 := by kernel_rfl
 i53 := by kernel_rfl
 i171 := by kernel_rfl
 i173 := by kernel_rfl
 i212 := by kernel_rfl
 i232 := by kernel_rfl
 i233 := by kernel_rfl
 m17 := by kernel_rfl
 m18 := by kernel_rfl
 m19 := by kernel_rfl }
def Tryz.lays143_ren : Go.Shelf.Ren := ⟨fun | 143 => 45 | 219 => 57 | 217 => 74 | 225 => 75 | 224 => 76 | 267 => 77 | 266 => 93 | 314 => 94 | n => n, fun | 9 => 9 | 3 => 3 | 4 => 4 | 5 => 5 | 46 => 107 | 146 => 129 | 51 => 122 | n => n, fun | 1 => 1 | n => n⟩
theorem Tryz.lays143 : Go.Proofs.Lays.n143 Tryz.prog Tryz.lays143_ren := {
 mixed := by kernel_rfl
 f143 := Tryz.func45.trans (congrArg some (by kernel_rfl))
 f217 := Tryz.func74.trans (congrArg some (by kernel_rfl))
 f219 := Tryz.func57.trans (congrArg some (by kernel_rfl))
 f224 := Tryz.func76.trans (congrArg some (by kernel_rfl))
 f225 := Tryz.func75.trans (congrArg some (by kernel_rfl))
 f266 := Tryz.func93.trans (congrArg some (by kernel_rfl))
 f267 := Tryz.func77.trans (congrArg some (by kernel_rfl))
 f314 := Tryz.func94.trans (congrArg some (by kernel_rfl))
 t3 := Tryz.underlying3
 a3 := Tryz.isAgg3
 z3 := Tryz.sizeOf3
 v3 := Tryz.zeroValue3
 t4 := Tryz.underlying4
 a4 := Tryz.isAgg4
 z4 := Tryz.sizeOf4
 v4 := Tryz.zeroValue4
 t5 := Tryz.underlying5
 a5 := Tryz.isAgg5
 z5 := Tryz.sizeOf5
 v5 := Tryz.zeroValue5
 t9 := Tryz.underlying9
 a9 := Tryz.isAgg9
 z9 := Tryz.sizeOf9
 v9 := Tryz.zeroValue9
 t46 := Tryz.underlying107
 a46 := Tryz.isAgg107
 z46 := Tryz.sizeOf107
 v46 := Tryz.zeroValue107
 t51 := Tryz.underlying122
 a51 := Tryz.isAgg122
 z51 := Tryz.sizeOf122
 v51 := Tryz.zeroValue122
 t146 := Tryz.underlying129
 a146 := Tryz.isAgg129
 z146 := Tryz.sizeOf129
 v146 := Tryz.zeroValue129
 g1 := by kernel_rfl }
def Tryz.lays219_ren : Go.Shelf.Ren := ⟨fun | 219 => 57 | 217 => 74 | 225 => 75 | 224 => 76 | 267 => 77 | 266 => 93 | 314 => 94 | n => n, fun | 9 => 9 | 3 => 3 | 4 => 4 | 5 => 5 | 46 => 107 | 146 => 129 | 51 => 122 | n => n, fun | 1 => 1 | n => n⟩
theorem Tryz.lays219 : Go.Proofs.Lays.n219 Tryz.prog Tryz.lays219_ren := {
 mixed := by kernel_rfl
 f217 := Tryz.func74.trans (congrArg some (by kernel_rfl))
 f219 := Tryz.func57.trans (congrArg some (by kernel_rfl))
 f224 := Tryz.func76.trans (congrArg some (by kernel_rfl))
 f225 := Tryz.func75.trans (congrArg some (by kernel_rfl))
 f266 := Tryz.func93.trans (congrArg some (by kernel_rfl))
 f267 := Tryz.func77.trans (congrArg some (by kernel_rfl))
 f314 := Tryz.func94.trans (congrArg some (by kernel_rfl))
 t3 := Tryz.underlying3
 a3 := Tryz.isAgg3
 z3 := Tryz.sizeOf3
 v3 := Tryz.zeroValue3
 t4 := Tryz.underlying4
 a4 := Tryz.isAgg4
 z4 := Tryz.sizeOf4
 v4 := Tryz.zeroValue4
 t5 := Tryz.underlying5
 a5 := Tryz.isAgg5
 z5 := Tryz.sizeOf5
 v5 := Tryz.zeroValue5
 t9 := Tryz.underlying9
 a9 := Tryz.isAgg9
 z9 := Tryz.sizeOf9
 v9 := Tryz.zeroValue9
 t46 := Tryz.underlying107
 a46 := Tryz.isAgg107
 z46 := Tryz.sizeOf107
 v46 := Tryz.zeroValue107
 t51 := Tryz.underlying122
 a51 := Tryz.isAgg122
 z51 := Tryz.sizeOf122
 v51 := Tryz.zeroValue122
 t146 := Tryz.underlying129
 a146 := Tryz.isAgg129
 z146 := Tryz.sizeOf129
 v146 := Tryz.zeroValue129
 g1 := by kernel_rfl }
def Tryz.lays138_ren : Go.Shelf.Ren := ⟨fun | 138 => 44 | 195 => 54 | 218 => 56 | 143 => 45 | 219 => 57 | 217 => 74 | 225 => 75 | 224 => 76 | 267 => 77 | 266 => 93 | 314 => 94 | n => n, fun | 9 => 9 | 3 => 3 | 4 => 4 | 5 => 5 | 0 => 0 | 46 => 107 | 146 => 129 | 51 => 122 | n => n, fun | 1 => 1 | n => n⟩
theorem Tryz.lays138 : Go.Proofs.Lays.n138 Tryz.prog Tryz.lays138_ren := {
 mixed := by kernel_rfl
 f138 := Tryz.func44.trans (congrArg some (by kernel_rfl))
 f143 := Tryz.func45.trans (congrArg some (by kernel_rfl))
 f195 := Tryz.func54.trans (congrArg some (by kernel_rfl))
 f217 := Tryz.func74.trans (congrArg some (by kernel_rfl))
 f218 := Tryz.func56.trans (congrArg some (by kernel_rfl))
 f219 := Tryz.func57.trans (congrArg some (by kernel_rfl))
 f224 := Tryz.func76.trans (congrArg some (by kernel_rfl))
 f225 := Tryz.func75.trans (congrArg some (by kernel_rfl))
 f266 := Tryz.func93.trans (congrArg some (by kernel_rfl))
 f267 := Tryz.func77.trans (congrArg some (by kernel_rfl))
 f314 := Tryz.func94.trans (congrArg some (by kernel_rfl))
 t0 := Tryz.underlying0
 a0 := Tryz.isAgg0
 z0 := Tryz.sizeOf0
 v0 := Tryz.zeroValue0
 t3 := Tryz.underlying3
 a3 := Tryz.isAgg3
 z3 := Tryz.sizeOf3
 v3 := Tryz.zeroValue3
 t4 := Tryz.underlying4
 a4 := Tryz.isAgg4
 z4 := Tryz.sizeOf4
 v4 := Tryz.zeroValue4
 t5 := Tryz.underlying5
 a5 := Tryz.isAgg5
 z5 := Tryz.sizeOf5
 v5 := Tryz.zeroValue5
 t9 := Tryz.underlying9
 a9 := Tryz.isAgg9
 z9 := Tryz.sizeOf9
 v9 := Tryz.zeroValue9
 t46 := Tryz.underlying107
 a46 := Tryz.isAgg107
 z46 := Tryz.sizeOf107
 v46 := Tryz.zeroValue107
 t51 := Tryz.underlying122
 a51 := Tryz.isAgg122
 z51 := Tryz.sizeOf122
 v51 := Tryz.zeroValue122
 t146 := Tryz.underlying129
 a146 := Tryz.isAgg129
 z146 := Tryz.sizeOf129
 v146 := Tryz.zeroValue129
 g1 := by kernel_rfl }
def Tryz.laysC172_ren : Go.Shelf.Ren := ⟨fun | 172 => 46 | 244 => 58 | 245 => 59 | 247 => 78 | 279 => 79 | 280 => 80 | 281 => 81 | 282 => 82 | 287 => 95 | 316 => 96 | 171 => 19 | 205 => 97 | 321 => 103 | 322 => 104 | 243 => 39 | 246 => 52 | 283 => 68 | 284 => 69 | 285 => 70 | 286 => 71 | 129 => 89 | 317 => 88 | 318 => 90 | 319 => 91 | 320 => 92 | 337 => 101 | 338 => 102 | n => n, fun | 9 => 9 | 3 => 3 | 75 => 75 | 76 => 76 | 4 => 4 | 5 => 5 | 167 => 108 | 37 => 22 | 0 => 0 | 85 => 109 | 2 => 2 | 168 => 111 | 53 => 100 | 175 => 131 | 46 => 107 | 210 => 135 | 127 => 88 | 145 => 145 | 143 => 143 | 21 => 21 | 171 => 99 | 173 => 103 | 212 => 121 | 51 => 122 | 20 => 20 | 213 => 123 | 232 => 147 | 233 => 148 | 80 => 78 | n => n, fun | 15 => 5 | 16 => 6 | 17 => 2 | 18 => 7 | 19 => 8 | n => n⟩
theorem Tryz.laysC172 : Go.Proofs.LaysC.n172 Tryz.prog Tryz.laysC172_ren := {
 mixed := by kernel_rfl
 f129 := Tryz.func89.trans (congrArg some (by kernel_rfl))
 f171 := Tryz.func19.trans (congrArg some (by kernel_rfl))
 f172 := Tryz.func46.trans (congrArg some (by kernel_rfl))
 f205 := Tryz.func97.trans (congrArg some (by kernel_rfl))
 f243 := Tryz.func39.trans (congrArg some (by kernel_rfl))
 f244 := Tryz.func58.trans (congrArg some (by kernel_rfl))
 f245 := Tryz.func59.trans (congrArg some (by kernel_rfl))
 f246 := Tryz.func52.trans (congrArg some (by kernel_rfl))
 f247 := Tryz.func78.trans (congrArg some (by kernel_rfl))
 f279 := Tryz.func79.trans (congrArg some (by kernel_rfl))
 f280 := Tryz.func80.trans (congrArg some (by kernel_rfl))
 f281 := Tryz.func81.trans (congrArg some (by kernel_rfl))
 f282 := Tryz.func82.trans (congrArg some (by kernel_rfl))
 f283 := Tryz.func68.trans (congrArg some (by kernel_rfl))
 f284 := Tryz.func69.trans (congrArg some (by kernel_rfl))
 f285 := Tryz.func70.trans (congrArg some (by kernel_rfl))
 f286 := Tryz.func71.trans (congrArg some (by kernel_rfl))
 f287 := Tryz.func95.trans (congrArg some (by kernel_rfl))
 f316 := Tryz.func96.trans (congrArg some (by kernel_rfl))
 f317 := Tryz.func88.trans (congrArg some (by kernel_rfl))
 f318 := Tryz.func90.trans (congrArg some (by kernel_rfl))
 f319 := Tryz.func91.trans (congrArg some (by kernel_rfl))
 f320 := Tryz.func92.trans (congrArg some (by kernel_rfl))
 f321 := Tryz.func103.trans (congrArg some (by kernel_rfl))
 f322 := Tryz.func104.trans (congrArg some (by kernel_rfl))
 f337 := Tryz.func101.trans (congrArg some (by kernel_rfl))
 f338 := Tryz.func102.trans (congrArg some (by kernel_rfl))
 t0 := Tryz.underlying0
 a0 := Tryz.isAgg0
 z0 := Tryz.sizeOf0
 v0 := Tryz.zeroValue0
 t2 := Tryz.underlying2
 a2 := Tryz.isAgg2
 z2 := Tryz.sizeOf2
 v2 := Tryz.zeroValue2
 t3 := Tryz.underlying3
 a3 := Tryz.isAgg3
 z3 := Tryz.sizeOf3
 v3 := Tryz.zeroValue3
 t4 := Tryz.underlying4
 a4 := Tryz.isAgg4
 z4 := Tryz.sizeOf4
 v4 := Tryz.zeroValue4
 t5 := Tryz.underlying5
 a5 := Tryz.isAgg5
 z5 := Tryz.sizeOf5
 v5 := Tryz.zeroValue5
 t9 := Tryz.underlying9
 a9 := Tryz.isAgg9
 z9 := Tryz.sizeOf9
 v9 := Tryz.zeroValue9
 t20 := Tryz.underlying20
 a20 := Tryz.isAgg20
 z20 := Tryz.sizeOf20
 v20 := Tryz.zeroValue20
 t21 := Tryz.underlying21
 a21 := Tryz.isAgg21
 z21 := Tryz.sizeOf21
 v21 := Tryz.zeroValue21
 t37 := Tryz.underlying22
 a37 := Tryz.isAgg22
 z37 := Tryz.sizeOf22
 v37 := Tryz.zeroValue22
 t46 := Tryz.underlying107
 a46 := Tryz.isAgg107
 z46 := Tryz.sizeOf107
 v46 := Tryz.zeroValue107
 t51 := Tryz.underlying122
 a51 := Tryz.isAgg122
 z51 := Tryz.sizeOf122
 v51 := Tryz.zeroValue122
 t53 := Tryz.underlying100
 a53 := Tryz.isAgg100
 z53 := Tryz.sizeOf100
 v53 := Tryz.zeroValue100
 t75 := Tryz.underlying75
 a75 := Tryz.isAgg75
 z75 := Tryz.sizeOf75
 v75 := Tryz.zeroValue75
 t76 := Tryz.underlying76
 a76 := Tryz.isAgg76
 z76 := Tryz.sizeOf76
 v76 := Tryz.zeroValue76
 t85 := Tryz.underlying109
 a85 := Tryz.isAgg109
 z85 := Tryz.sizeOf109
 v85 := Tryz.zeroValue109
 t127 := Tryz.underlying88
 a127 := Tryz.isAgg88
 z127 := Tryz.sizeOf88
 v127 := Tryz.zeroValue88
 t143 := Tryz.underlying143
 a143 := Tryz.isAgg143
 z143 := Tryz.sizeOf143
 v143 := Tryz.zeroValue143
 t145 := Tryz.underlying145
 a145 := Tryz.isAgg145
 z145 := Tryz.sizeOf145
 v145 := Tryz.zeroValue145
 t167 := Tryz.underlying108
 a167 := Tryz.isAgg108
 z167 := Tryz.sizeOf108
 v167 := Tryz.zeroValue108
 t168 := Tryz.underlying111
 a168 := Tryz.isAgg111
 z168 := Tryz.sizeOf111
 v168 := Tryz.zeroValue111
 t171 := Tryz.underlying99
 a171 := Tryz.isAgg99
 z171 := Tryz.sizeOf99
 v171 := Tryz.zeroValue99
 t173 := Tryz.underlying103
 a173 := Tryz.isAgg103
 z173 := Tryz.sizeOf103
 v173 := Tryz.zeroValue103
 t175 := Tryz.underlying131
 a175 := Tryz.isAgg131
 z175 := Tryz.sizeOf131
 v175 := Tryz.zeroValue131
 t210 := Tryz.underlying135
 a210 := Tryz.isAgg135
 z210 := Tryz.sizeOf135
 v210 := Tryz.zeroValue135
 t212 := Tryz.underlying121
 a212 := Tryz.isAgg121
 z212 := Tryz.sizeOf121
 v212 := Tryz.zeroValue121
 t213 := Tryz.underlying123
 a213 := Tryz.isAgg123
 z213 := Tryz.sizeOf123
 t232 := Tryz.underlying147
 a232 := Tryz.isAgg147
 z232 := Tryz.sizeOf147
 v232 := Tryz.zeroValue147
 t233 := Tryz.underlying148
 a233 := Tryz.isAgg148
 z233 := Tryz.sizeOf148
 v233 := Tryz.zeroValue148
 g15 := by kernel_rfl
 g16 := by kernel_rfl
 g17 := by kernel_rfl
 g18 := by kernel_rfl
 g19 := by kernel_rfl
 t80 := Tryz.underlying78
 a80 := Tryz.isAgg78
 z80 := Tryz.sizeOf78
 v80 := Tryz.zeroValue78
 i0 := by kernel_rfl
 i2 := by kernel_rfl
 i3 := by kernel_rfl
 i4 := by kernel_rfl
 i5 := by kernel_rfl
 i9 := by kernel_rfl
 i20 := by kernel_rfl
 i21 := by kernel_rfl
 i37 := by kernel_rfl
 i46 := by kernel_rfl
 i51 := by kernel_rfl
 i53 := by kernel_rfl
 i75 := by kernel_rfl
 i76 := by kernel_rfl
 i80 := by kernel_rfl
 i85 := by kernel_rfl
 i127 := by kernel_rfl
 i143 := by kernel_rfl
 i145 := by kernel_rfl
 i167 := by kernel_rfl
 i168 := by kernel_rfl
 i171 := by kernel_rfl
 i173 := by kernel_rfl
 i175 := by kernel_rfl
 i210 := by kernel_rfl
 i212 := by kernel_rfl
 i232 := by kernel_rfl
 i233 := by kernel_rfl
 m15 := by kernel_rfl
 m16 := by kernel_rfl
 m17 := by kernel_rfl
 m18 := by kernel_rfl
 m19 := by kernel_rfl
 c0 := by kernel_rfl
 c2 := by kernel_rfl
 c3 := by kernel_rfl
 c4 := by kernel_rfl
 c5 := by kernel_rfl
 c9 := by kernel_rfl
 c20 := by kernel_rfl
 c21 := by kernel_rfl
 c37 := by kernel_rfl
 c46 := by kernel_rfl
 c51 := by kernel_rfl
 c53 := by kernel_rfl
 c75 := by kernel_rfl
 c76 := by kernel_rfl
 c80 := by kernel_rfl
 c85 := by kernel_rfl
 c127 := by kernel_rfl
 c143 := by kernel_rfl
 c145 := by kernel_rfl
 c167 := by kernel_rfl
 c168 := by kernel_rfl
 c171 := by kernel_rfl
 c173 := by kernel_rfl
 c175 := by kernel_rfl
 c210 := by kernel_rfl
 c212 := by kernel_rfl
 c213 := by kernel_rfl
 c232 := by kernel_rfl
 c233 := by kernel_rfl }
def Tryz.ws_ren : Go.Shelf.Ren := ⟨fun | 166 => 40 | 240 => 53 | n => n, fun | 70 => 71 | 9 => 9 | 0 => 0 | 72 => 73 | 37 => 22 | 127 => 88 | 3 => 3 | 5 => 5 | 75 => 75 | n => n, fun | n => n⟩
theorem Tryz.wsL : WsL Tryz.prog Tryz.ws_ren := {
 mixed := by kernel_rfl
 f166 := Tryz.func40.trans (congrArg some (by kernel_rfl))
 e240 := enters_of Tryz.func53 (by kernel_rfl) rfl
 cc := Tryz.cc
 t0 := Tryz.underlying0
 a0 := Tryz.isAgg0
 z0 := Tryz.sizeOf0
 v0 := Tryz.zeroValue0
 t3 := Tryz.underlying3
 a3 := Tryz.isAgg3
 z3 := Tryz.sizeOf3
 v3 := Tryz.zeroValue3
 t9 := Tryz.underlying9
 a9 := Tryz.isAgg9
 z9 := Tryz.sizeOf9
 v9 := Tryz.zeroValue9
 t37 := Tryz.underlying22
 a37 := Tryz.isAgg22
 z37 := Tryz.sizeOf22
 v37 := Tryz.zeroValue22
 t70 := Tryz.underlying71
 a70 := Tryz.isAgg71
 z70 := Tryz.sizeOf71
 v70 := Tryz.zeroValue71
 t72 := Tryz.underlying73
 a72 := Tryz.isAgg73
 z72 := Tryz.sizeOf73
 v72 := Tryz.zeroValue73 }
theorem Tryz.wsX : Builder.Extra Tryz.prog Tryz.ws_ren := {
 sizeBuilder := by kernel_rfl
 liesBuilder := by kernel_rfl
 t5 := Tryz.underlying5
 a5 := Tryz.isAgg5
 z5 := Tryz.sizeOf5
 v5 := Tryz.zeroValue5
 infoByte := by kernel_rfl
 cellsByte := by kernel_rfl
 sizeByte := by kernel_rfl
 neB5 := by decide }
end Go.Proofs
end
section
open Go Go.Refl Go.Proofs
set_option maxRecDepth 1000000
set_option maxHeartbeats 0
set_option linter.unusedVariables false
namespace Go.Proofs.YtpgfkoeodhfkgaaGreatDoorG
noncomputable def ar : List (Nat × AI) := [(40, { n := 8, E := 9, e := .str }), (99, { n := 24, E := 5, e := (.int .u8) }), (121, { n := 20, E := 100, e := (.int .u64) }), (147, { n := 32, E := 5, e := (.int .u8) }), (148, { n := 64, E := 5, e := (.int .u8) })]
noncomputable def bld : List (Nat × Nat) := [(72, 5), (73, 5)]
theorem ar40 : AOk Tryz.prog 40 { n := 8, E := 9, e := .str } := .of (by kernel_rfl) (by kernel_rfl) (by kernel_rfl) (by kernel_rfl) rfl
theorem ar99 : AOk Tryz.prog 99 { n := 24, E := 5, e := (.int .u8) } := .of (by kernel_rfl) (by kernel_rfl) (by kernel_rfl) (by kernel_rfl) rfl
theorem ar121 : AOk Tryz.prog 121 { n := 20, E := 100, e := (.int .u64) } := .of (by kernel_rfl) (by kernel_rfl) (by kernel_rfl) (by kernel_rfl) rfl
theorem ar147 : AOk Tryz.prog 147 { n := 32, E := 5, e := (.int .u8) } := .of (by kernel_rfl) (by kernel_rfl) (by kernel_rfl) (by kernel_rfl) rfl
theorem ar148 : AOk Tryz.prog 148 { n := 64, E := 5, e := (.int .u8) } := .of (by kernel_rfl) (by kernel_rfl) (by kernel_rfl) (by kernel_rfl) rfl
theorem bld72 : BOk Tryz.prog 72 := .of (by kernel_rfl) (by kernel_rfl)
theorem bld73 : BOk Tryz.prog 73 := .of (by kernel_rfl) (by kernel_rfl)
theorem ar_ok : ∀ T ai, Refl.look ar T = some ai → AOk Tryz.prog T ai := arOk (all_cons ar40 (all_cons ar99 (all_cons ar121 (all_cons ar147 (all_cons ar148 (all_nil))))))
theorem bld_ok : ∀ T E, Refl.look bld T = some E → BOk Tryz.prog T := bldOk (all_cons bld72 (all_cons bld73 (all_nil)))
noncomputable def pts : List Nat := [15, 16, 17, 44, 71, 88, 111, 143]
theorem pts_ok : ∀ T, pts.contains T = true → ∃ e, Tryz.prog.underlying T = some (.pointer e) := fun T h => ptsOk (all_cons ⟨150, by kernel_rfl⟩ (all_cons ⟨153, by kernel_rfl⟩ (all_cons ⟨161, by kernel_rfl⟩ (all_cons ⟨61, by kernel_rfl⟩ (all_cons ⟨73, by kernel_rfl⟩ (all_cons ⟨5, by kernel_rfl⟩ (all_cons ⟨135, by kernel_rfl⟩ (all_cons ⟨145, by kernel_rfl⟩ (all_nil))))))))) (List.contains_iff_mem.1 h)
noncomputable def g0 : Nat × GItem := (0, .row ⟨.str, [⟨#[106, 111, 105, 110]⟩, ⟨#[115, 97, 118, 101]⟩, ⟨#[116, 97, 107, 101]⟩, ⟨#[108, 101, 110, 100]⟩, ⟨#[114, 101, 112, 97, 121]⟩, ⟨#[102, 97, 105, 108]⟩, ⟨#[110, 105, 103, 104, 116]⟩, ⟨#[115, 104, 97, 114, 101]⟩]⟩)
noncomputable def g2 : Nat × GItem := (2, .row ⟨.int .u64, Lib.pow10Tab⟩)
noncomputable def g5 : Nat × GItem := (5, .iface)
noncomputable def g6 : Nat × GItem := (6, .iface)
noncomputable def tb : List (Nat × TI) := [(2, { ty := (.int .i64), eqOk := true }),
  (3, { ty := (.int .i64), eqOk := true }),
  (4, { ty := .bool, eqOk := true }),
  (5, { ty := (.int .u8), eqOk := true }),
  (6, { ty := (.int .u8), eqOk := true }),
  (7, { ty := (.pair (.int .i64) (.pair (.int .i64) (.pair .bool (.int .u8)))), offs := [0, 1, 2, 3], szs := [1, 1, 1, 1], eqOk := true }),
  (8, { ty := (.pair (.int .i64) (.pair (.int .i64) (.pair .bool (.int .u8)))), offs := [0, 1, 2, 3], szs := [1, 1, 1, 1], eqOk := true }),
  (9, { ty := .str, eqOk := true }),
  (10, { ty := .str, eqOk := true }),
  (11, { ty := .str, eqOk := true }),
  (12, { ty := (.int .u64), eqOk := true }),
  (13, { ty := (.pair .str (.int .u64)), offs := [0, 1], szs := [1, 1] }),
  (14, { ty := (.pair .str (.int .u64)), offs := [0, 1], szs := [1, 1] }),
  (21, { ty := (.int .i32), eqOk := true }),
  (22, { ty := (.slice (.int .u8)), elem := 5 }),
  (23, { ty := (.slice (.int .i64)), elem := 3 }),
  (24, { ty := (.pair (.int .i64) (.int .i64)), offs := [0, 1], szs := [1, 1], eqOk := true }),
  (25, { ty := (.pair (.int .i64) (.int .i64)), offs := [0, 1], szs := [1, 1], eqOk := true }),
  (26, { ty := (.pair (.int .i64) (.pair (.int .i64) (.pair (.int .i64) (.pair (.int .i64) (.pair (.slice (.int .i64)) (.pair (.int .i64) (.int .i64))))))), offs := [0, 1, 2, 3, 4, 5], szs := [1, 1, 1, 1, 1, 2] }),
  (27, { ty := (.pair (.int .i64) (.pair (.int .i64) (.pair (.int .i64) (.pair (.int .i64) (.pair (.slice (.int .i64)) (.pair (.int .i64) (.int .i64))))))), offs := [0, 1, 2, 3, 4, 5], szs := [1, 1, 1, 1, 1, 2] }),
  (33, { ty := (.slice (.pair (.int .i64) (.pair (.int .i64) (.slice (.int .i64))))), elem := 69 }),
  (34, { ty := (.pair (.slice (.int .i64)) (.pair (.slice (.pair (.int .i64) (.pair (.int .i64) (.slice (.int .i64))))) (.pair (.int .i64) (.pair (.int .i64) (.int .i64))))), offs := [0, 1, 2, 3, 4], szs := [1, 1, 1, 1, 1] }),
  (35, { ty := (.pair (.slice (.int .i64)) (.pair (.slice (.pair (.int .i64) (.pair (.int .i64) (.slice (.int .i64))))) (.pair (.int .i64) (.pair (.int .i64) (.int .i64))))), offs := [0, 1, 2, 3, 4], szs := [1, 1, 1, 1, 1] }),
  (41, { ty := (.slice .str), elem := 9 }),
  (60, { ty := (.pair (.slice (.int .u8)) (.int .i64)), offs := [0, 1], szs := [1, 1] }),
  (61, { ty := (.pair (.slice (.int .u8)) (.int .i64)), offs := [0, 1], szs := [1, 1] }),
  (62, { ty := (.slice (.pair (.int .i64) (.pair (.int .i64) (.pair (.int .i64) (.pair (.int .i64) (.pair (.slice (.int .i64)) (.pair (.int .i64) (.int .i64)))))))), elem := 27 }),
  (68, { ty := (.pair (.int .i64) (.pair (.int .i64) (.slice (.int .i64)))), offs := [0, 1, 2], szs := [1, 1, 1] }),
  (69, { ty := (.pair (.int .i64) (.pair (.int .i64) (.slice (.int .i64)))), offs := [0, 1, 2], szs := [1, 1, 1] }),
  (74, { ty := .err }),
  (75, { ty := .err }),
  (100, { ty := (.int .u64), eqOk := true }),
  (107, { ty := (.int .u64), eqOk := true }),
  (108, { ty := (.int .i64), eqOk := true, cmp := true }),
  (122, { ty := (.int .u32), eqOk := true }),
  (126, { ty := (.pair (.int .u8) (.int .u8)), offs := [0, 1], szs := [1, 1], eqOk := true }),
  (127, { ty := (.pair (.int .u8) (.int .u8)), offs := [0, 1], szs := [1, 1], eqOk := true }),
  (134, { ty := (.pair .str (.pair .str .err)), offs := [0, 1, 2], szs := [1, 1, 1] }),
  (135, { ty := (.pair .str (.pair .str .err)), offs := [0, 1, 2], szs := [1, 1, 1] }),
  (138, { ty := (.slice .bool), elem := 4 }),
  (155, { ty := (.int .u8), eqOk := true }),
  (156, { ty := (.int .u8), eqOk := true }),
  (158, { ty := (.int .i32), eqOk := true }),
  (159, { ty := (.int .i32), eqOk := true })]
theorem t2 : TOk Tryz.prog tb 2 { ty := (.int .i64), eqOk := true } := .of (by kernel_rfl) (by kernel_rfl) (by show _ = _; kernel_rfl) (fun h => eqOk_int)
theorem t3 : TOk Tryz.prog tb 3 { ty := (.int .i64), eqOk := true } := .of (by kernel_rfl) (by kernel_rfl) (by show _ = _; kernel_rfl) (fun h => eqOk_int)
theorem t4 : TOk Tryz.prog tb 4 { ty := .bool, eqOk := true } := .of (by kernel_rfl) (by kernel_rfl) (by show _ = _; kernel_rfl) (fun h => eqOk_bool (by kernel_rfl))
theorem t5 : TOk Tryz.prog tb 5 { ty := (.int .u8), eqOk := true } := .of (by kernel_rfl) (by kernel_rfl) (by show _ = _; kernel_rfl) (fun h => eqOk_int)
theorem t6 : TOk Tryz.prog tb 6 { ty := (.int .u8), eqOk := true } := .of (by kernel_rfl) (by kernel_rfl) (by show _ = _; kernel_rfl) (fun h => eqOk_int)
theorem t7 : TOk Tryz.prog tb 7 { ty := (.pair (.int .i64) (.pair (.int .i64) (.pair .bool (.int .u8)))), offs := [0, 1, 2, 3], szs := [1, 1, 1, 1], eqOk := true } := .of (by kernel_rfl) (by kernel_rfl) (descOk_struct rfl (by kernel_rfl)) (fun h => eqOk_struct rfl (by kernel_rfl) (by kernel_rfl))
theorem t8 : TOk Tryz.prog tb 8 { ty := (.pair (.int .i64) (.pair (.int .i64) (.pair .bool (.int .u8)))), offs := [0, 1, 2, 3], szs := [1, 1, 1, 1], eqOk := true } := .of (by kernel_rfl) (by kernel_rfl) (descOk_struct rfl (by kernel_rfl)) (fun h => eqOk_struct rfl (by kernel_rfl) (by kernel_rfl))
theorem t9 : TOk Tryz.prog tb 9 { ty := .str, eqOk := true } := .of (by kernel_rfl) (by kernel_rfl) (by show _ = _; kernel_rfl) (fun h => eqOk_str)
theorem t10 : TOk Tryz.prog tb 10 { ty := .str, eqOk := true } := .of (by kernel_rfl) (by kernel_rfl) (by show _ = _; kernel_rfl) (fun h => eqOk_str)
theorem t11 : TOk Tryz.prog tb 11 { ty := .str, eqOk := true } := .of (by kernel_rfl) (by kernel_rfl) (by show _ = _; kernel_rfl) (fun h => eqOk_str)
theorem t12 : TOk Tryz.prog tb 12 { ty := (.int .u64), eqOk := true } := .of (by kernel_rfl) (by kernel_rfl) (by show _ = _; kernel_rfl) (fun h => eqOk_int)
theorem t13 : TOk Tryz.prog tb 13 { ty := (.pair .str (.int .u64)), offs := [0, 1], szs := [1, 1] } := .of (by kernel_rfl) (by kernel_rfl) (descOk_struct rfl (by kernel_rfl)) (fun h => by cases h)
theorem t14 : TOk Tryz.prog tb 14 { ty := (.pair .str (.int .u64)), offs := [0, 1], szs := [1, 1] } := .of (by kernel_rfl) (by kernel_rfl) (descOk_struct rfl (by kernel_rfl)) (fun h => by cases h)
theorem t21 : TOk Tryz.prog tb 21 { ty := (.int .i32), eqOk := true } := .of (by kernel_rfl) (by kernel_rfl) (by show _ = _; kernel_rfl) (fun h => eqOk_int)
theorem t22 : TOk Tryz.prog tb 22 { ty := (.slice (.int .u8)), elem := 5 } := .of (by kernel_rfl) (by kernel_rfl) (⟨by kernel_rfl, { ty := (.int .u8), eqOk := true }, by kernel_rfl, by kernel_rfl⟩) (fun h => by cases h)
theorem t23 : TOk Tryz.prog tb 23 { ty := (.slice (.int .i64)), elem := 3 } := .of (by kernel_rfl) (by kernel_rfl) (⟨by kernel_rfl, { ty := (.int .i64), eqOk := true }, by kernel_rfl, by kernel_rfl⟩) (fun h => by cases h)
theorem t24 : TOk Tryz.prog tb 24 { ty := (.pair (.int .i64) (.int .i64)), offs := [0, 1], szs := [1, 1], eqOk := true } := .of (by kernel_rfl) (by kernel_rfl) (descOk_struct rfl (by kernel_rfl)) (fun h => eqOk_struct rfl (by kernel_rfl) (by kernel_rfl))
theorem t25 : TOk Tryz.prog tb 25 { ty := (.pair (.int .i64) (.int .i64)), offs := [0, 1], szs := [1, 1], eqOk := true } := .of (by kernel_rfl) (by kernel_rfl) (descOk_struct rfl (by kernel_rfl)) (fun h => eqOk_struct rfl (by kernel_rfl) (by kernel_rfl))
theorem t26 : TOk Tryz.prog tb 26 { ty := (.pair (.int .i64) (.pair (.int .i64) (.pair (.int .i64) (.pair (.int .i64) (.pair (.slice (.int .i64)) (.pair (.int .i64) (.int .i64))))))), offs := [0, 1, 2, 3, 4, 5], szs := [1, 1, 1, 1, 1, 2] } := .of (by kernel_rfl) (by kernel_rfl) (descOk_struct rfl (by kernel_rfl)) (fun h => by cases h)
theorem t27 : TOk Tryz.prog tb 27 { ty := (.pair (.int .i64) (.pair (.int .i64) (.pair (.int .i64) (.pair (.int .i64) (.pair (.slice (.int .i64)) (.pair (.int .i64) (.int .i64))))))), offs := [0, 1, 2, 3, 4, 5], szs := [1, 1, 1, 1, 1, 2] } := .of (by kernel_rfl) (by kernel_rfl) (descOk_struct rfl (by kernel_rfl)) (fun h => by cases h)
theorem t33 : TOk Tryz.prog tb 33 { ty := (.slice (.pair (.int .i64) (.pair (.int .i64) (.slice (.int .i64))))), elem := 69 } := .of (by kernel_rfl) (by kernel_rfl) (⟨by kernel_rfl, { ty := (.pair (.int .i64) (.pair (.int .i64) (.slice (.int .i64)))), offs := [0, 1, 2], szs := [1, 1, 1] }, by kernel_rfl, by kernel_rfl⟩) (fun h => by cases h)
theorem t34 : TOk Tryz.prog tb 34 { ty := (.pair (.slice (.int .i64)) (.pair (.slice (.pair (.int .i64) (.pair (.int .i64) (.slice (.int .i64))))) (.pair (.int .i64) (.pair (.int .i64) (.int .i64))))), offs := [0, 1, 2, 3, 4], szs := [1, 1, 1, 1, 1] } := .of (by kernel_rfl) (by kernel_rfl) (descOk_struct rfl (by kernel_rfl)) (fun h => by cases h)
theorem t35 : TOk Tryz.prog tb 35 { ty := (.pair (.slice (.int .i64)) (.pair (.slice (.pair (.int .i64) (.pair (.int .i64) (.slice (.int .i64))))) (.pair (.int .i64) (.pair (.int .i64) (.int .i64))))), offs := [0, 1, 2, 3, 4], szs := [1, 1, 1, 1, 1] } := .of (by kernel_rfl) (by kernel_rfl) (descOk_struct rfl (by kernel_rfl)) (fun h => by cases h)
theorem t41 : TOk Tryz.prog tb 41 { ty := (.slice .str), elem := 9 } := .of (by kernel_rfl) (by kernel_rfl) (⟨by kernel_rfl, { ty := .str, eqOk := true }, by kernel_rfl, by kernel_rfl⟩) (fun h => by cases h)
theorem t60 : TOk Tryz.prog tb 60 { ty := (.pair (.slice (.int .u8)) (.int .i64)), offs := [0, 1], szs := [1, 1] } := .of (by kernel_rfl) (by kernel_rfl) (descOk_struct rfl (by kernel_rfl)) (fun h => by cases h)
theorem t61 : TOk Tryz.prog tb 61 { ty := (.pair (.slice (.int .u8)) (.int .i64)), offs := [0, 1], szs := [1, 1] } := .of (by kernel_rfl) (by kernel_rfl) (descOk_struct rfl (by kernel_rfl)) (fun h => by cases h)
theorem t62 : TOk Tryz.prog tb 62 { ty := (.slice (.pair (.int .i64) (.pair (.int .i64) (.pair (.int .i64) (.pair (.int .i64) (.pair (.slice (.int .i64)) (.pair (.int .i64) (.int .i64)))))))), elem := 27 } := .of (by kernel_rfl) (by kernel_rfl) (⟨by kernel_rfl, { ty := (.pair (.int .i64) (.pair (.int .i64) (.pair (.int .i64) (.pair (.int .i64) (.pair (.slice (.int .i64)) (.pair (.int .i64) (.int .i64))))))), offs := [0, 1, 2, 3, 4, 5], szs := [1, 1, 1, 1, 1, 2] }, by kernel_rfl, by kernel_rfl⟩) (fun h => by cases h)
theorem t68 : TOk Tryz.prog tb 68 { ty := (.pair (.int .i64) (.pair (.int .i64) (.slice (.int .i64)))), offs := [0, 1, 2], szs := [1, 1, 1] } := .of (by kernel_rfl) (by kernel_rfl) (descOk_struct rfl (by kernel_rfl)) (fun h => by cases h)
theorem t69 : TOk Tryz.prog tb 69 { ty := (.pair (.int .i64) (.pair (.int .i64) (.slice (.int .i64)))), offs := [0, 1, 2], szs := [1, 1, 1] } := .of (by kernel_rfl) (by kernel_rfl) (descOk_struct rfl (by kernel_rfl)) (fun h => by cases h)
theorem t74 : TOk Tryz.prog tb 74 { ty := .err } := .of (by kernel_rfl) (by kernel_rfl) (by show _ = _; kernel_rfl) (fun h => by cases h)
theorem t75 : TOk Tryz.prog tb 75 { ty := .err } := .of (by kernel_rfl) (by kernel_rfl) (by show _ = _; kernel_rfl) (fun h => by cases h)
theorem t100 : TOk Tryz.prog tb 100 { ty := (.int .u64), eqOk := true } := .of (by kernel_rfl) (by kernel_rfl) (by show _ = _; kernel_rfl) (fun h => eqOk_int)
theorem t107 : TOk Tryz.prog tb 107 { ty := (.int .u64), eqOk := true } := .of (by kernel_rfl) (by kernel_rfl) (by show _ = _; kernel_rfl) (fun h => eqOk_int)
theorem t108 : TOk Tryz.prog tb 108 { ty := (.int .i64), eqOk := true, cmp := true } := .of (by kernel_rfl) (by kernel_rfl) (by show _ = _; kernel_rfl) (fun h => eqOk_int) (fun _ => by kernel_rfl)
theorem t122 : TOk Tryz.prog tb 122 { ty := (.int .u32), eqOk := true } := .of (by kernel_rfl) (by kernel_rfl) (by show _ = _; kernel_rfl) (fun h => eqOk_int)
theorem t126 : TOk Tryz.prog tb 126 { ty := (.pair (.int .u8) (.int .u8)), offs := [0, 1], szs := [1, 1], eqOk := true } := .of (by kernel_rfl) (by kernel_rfl) (descOk_struct rfl (by kernel_rfl)) (fun h => eqOk_struct rfl (by kernel_rfl) (by kernel_rfl))
theorem t127 : TOk Tryz.prog tb 127 { ty := (.pair (.int .u8) (.int .u8)), offs := [0, 1], szs := [1, 1], eqOk := true } := .of (by kernel_rfl) (by kernel_rfl) (descOk_struct rfl (by kernel_rfl)) (fun h => eqOk_struct rfl (by kernel_rfl) (by kernel_rfl))
theorem t134 : TOk Tryz.prog tb 134 { ty := (.pair .str (.pair .str .err)), offs := [0, 1, 2], szs := [1, 1, 1] } := .of (by kernel_rfl) (by kernel_rfl) (descOk_struct rfl (by kernel_rfl)) (fun h => by cases h)
theorem t135 : TOk Tryz.prog tb 135 { ty := (.pair .str (.pair .str .err)), offs := [0, 1, 2], szs := [1, 1, 1] } := .of (by kernel_rfl) (by kernel_rfl) (descOk_struct rfl (by kernel_rfl)) (fun h => by cases h)
theorem t138 : TOk Tryz.prog tb 138 { ty := (.slice .bool), elem := 4 } := .of (by kernel_rfl) (by kernel_rfl) (⟨by kernel_rfl, { ty := .bool, eqOk := true }, by kernel_rfl, by kernel_rfl⟩) (fun h => by cases h)
theorem t155 : TOk Tryz.prog tb 155 { ty := (.int .u8), eqOk := true } := .of (by kernel_rfl) (by kernel_rfl) (by show _ = _; kernel_rfl) (fun h => eqOk_int)
theorem t156 : TOk Tryz.prog tb 156 { ty := (.int .u8), eqOk := true } := .of (by kernel_rfl) (by kernel_rfl) (by show _ = _; kernel_rfl) (fun h => eqOk_int)
theorem t158 : TOk Tryz.prog tb 158 { ty := (.int .i32), eqOk := true } := .of (by kernel_rfl) (by kernel_rfl) (by show _ = _; kernel_rfl) (fun h => eqOk_int)
theorem t159 : TOk Tryz.prog tb 159 { ty := (.int .i32), eqOk := true } := .of (by kernel_rfl) (by kernel_rfl) (by show _ = _; kernel_rfl) (fun h => eqOk_int)
theorem mixed : Tryz.prog.follows .mixedOrders = true := by kernel_rfl
theorem tb_ok : CfgTb Tryz.prog tb := tbOk (all_cons t2 (all_cons t3 (all_cons t4 (all_cons t5 (all_cons t6 (all_cons t7 (all_cons t8 (all_cons t9 (all_cons t10 (all_cons t11 (all_cons t12 (all_cons t13 (all_cons t14 (all_cons t21 (all_cons t22 (all_cons t23 (all_cons t24 (all_cons t25 (all_cons t26 (all_cons t27 (all_cons t33 (all_cons t34 (all_cons t35 (all_cons t41 (all_cons t60 (all_cons t61 (all_cons t62 (all_cons t68 (all_cons t69 (all_cons t74 (all_cons t75 (all_cons t100 (all_cons t107 (all_cons t108 (all_cons t122 (all_cons t126 (all_cons t127 (all_cons t134 (all_cons t135 (all_cons t138 (all_cons t155 (all_cons t156 (all_cons t158 (all_cons t159 (all_nil)))))))))))))))))))))))))))))))))))))))))))))
abbrev spec_newReader.ps : List Pm := [.arg (.v (.slice (.int .u8)))]
abbrev spec_newReader.res : List M := [.bx 61 (.v (.pair (.slice (.int .u8)) (.int .i64)))]
noncomputable def spec_newReader.C : Cfg := { tb := tb, tab := fun n f => Refl.look [] f, gl := [], ar := ar, bld := bld, pts := pts }
noncomputable def spec_newReader.A : Ann := { joins := [], loops := [], ids := [], pids := [], nroots := 75 }
noncomputable def spec_newReader (n : Nat) (x : List Int) : Option (List Int × Int) := evalF spec_newReader.C spec_newReader.A Tryz.f13 spec_newReader.ps spec_newReader.res n x
noncomputable def spec_newReader.K0 (_ : Nat) : Kont (List Int × Int) := finK spec_newReader.C (Func.results Tryz.f13).toList spec_newReader.ps spec_newReader.res
theorem spec_newReader.eq (n : Nat) (x0 : List Int) : spec_newReader n x0 = (if (↑(List.length x0) : Int) > 2000 then (if 2000 ≤ (↑(List.length x0) : Int) then some ((List.take (Int.toNat 2000) x0, 0)) else none) else some ((x0, 0))) := by kernel_rfl
noncomputable abbrev spec_newReader.sg (n : Nat) : Sig := { params := spec_newReader.ps, res := spec_newReader.res, run := spec_newReader n }
theorem spec_newReader.call : Callable Tryz.prog 13 := ⟨Tryz.f13, Tryz.func13, by kernel_rfl, by kernel_rfl⟩
theorem spec_newReader.ok (n : Nat) : FC Tryz.prog [] 13 (spec_newReader.sg n) :=
  evalF_ok (C := spec_newReader.C) ⟨tb_ok, fun n _ _ h => tabOk (l := []) (all_nil) h, mixed, ar_ok, bld_ok, pts_ok⟩ spec_newReader.A Tryz.func13 spec_newReader.ps spec_newReader.res n
abbrev spec_reader_pick.ps : List Pm := [.box 61 (.v (.pair (.slice (.int .u8)) (.int .i64))), .arg (.v (.int .i64))]
abbrev spec_reader_pick.res : List M := [.v (.int .i64)]
noncomputable def spec_reader_pick.C : Cfg := { tb := tb, tab := fun n f => Refl.look [] f, gl := [], ar := ar, bld := bld, pts := pts }
noncomputable def spec_reader_pick.A : Ann := { joins := [], loops := [], ids := [], pids := [], nroots := 163 }
noncomputable def spec_reader_pick (n : Nat) (x : (List Int × Int) × Int) : Option (Int × List Int × Int) := evalF spec_reader_pick.C spec_reader_pick.A Tryz.f17 spec_reader_pick.ps spec_reader_pick.res n x
noncomputable def spec_reader_pick.K0 (_ : Nat) : Kont (Int × List Int × Int) := finK spec_reader_pick.C (Func.results Tryz.f17).toList spec_reader_pick.ps spec_reader_pick.res
theorem spec_reader_pick.eq (n : Nat) (x0 : List Int × Int) (x1 : Int) : spec_reader_pick n (x0, x1) = (if x1 < 1 then some ((0, x0.1, Go.RowKit.wrap64 (x0.2 + 1))) else (if (↑(List.length x0.1) : Int) = 0 then some ((0, x0.1, Go.RowKit.wrap64 (x0.2 + 1))) else (if Go.RowKit.wrap64 (Go.RowKit.wrap64 (x0.2 + 1) - 1) < (↑(List.length x0.1) : Int) then (if 0 ≤ Go.RowKit.wrap64 (Go.RowKit.wrap64 (x0.2 + 1) - 1) then (if Go.RowKit.wrap64 (Go.RowKit.wrap64 (x0.2 + 1) - 1) < (↑(List.length x0.1) : Int) then (if x1 = 0 then none else some ((Int.tmod (Go.RowKit.wrap64 (List.getD x0.1 (Int.toNat (Go.RowKit.wrap64 (Go.RowKit.wrap64 (x0.2 + 1) - 1))) 0)) x1, x0.1, Go.RowKit.wrap64 (x0.2 + 1)))) else none) else none) else (if (↑(List.length x0.1) : Int) = 0 then none else (if 0 ≤ Int.tmod (Go.RowKit.wrap64 (Go.RowKit.wrap64 (x0.2 + 1) - 1)) (↑(List.length x0.1) : Int) then (if Int.tmod (Go.RowKit.wrap64 (Go.RowKit.wrap64 (x0.2 + 1) - 1)) (↑(List.length x0.1) : Int) < (↑(List.length x0.1) : Int) then (if (↑(List.length x0.1) : Int) = 0 then none else (if 0 ≤ Int.tmod (Go.RowKit.wrap64 (Go.RowKit.wrap64 (Go.RowKit.wrap64 (Go.RowKit.wrap64 (x0.2 + 1) - 1) * 7) + 3)) (↑(List.length x0.1) : Int) then (if Int.tmod (Go.RowKit.wrap64 (Go.RowKit.wrap64 (Go.RowKit.wrap64 (Go.RowKit.wrap64 (x0.2 + 1) - 1) * 7) + 3)) (↑(List.length x0.1) : Int) < (↑(List.length x0.1) : Int) then (if (↑(List.length x0.1) : Int) = 0 then none else (if x1 = 0 then none else some ((Int.tmod (Go.IntKind.wrap Go.IntKind.i64 (↑(BitVec.toNat (BitVec.ofInt (Go.IntKind.bits Go.IntKind.i64) (Go.RowKit.wrap64 (Go.RowKit.wrap64 (Go.RowKit.wrap64 (Go.RowKit.wrap64 (Go.RowKit.wrap64 (List.getD x0.1 (Int.toNat (Int.tmod (Go.RowKit.wrap64 (Go.RowKit.wrap64 (x0.2 + 1) - 1)) (↑(List.length x0.1) : Int))) 0) * 131) + Go.RowKit.wrap64 (Go.RowKit.wrap64 (List.getD x0.1 (Int.toNat (Int.tmod (Go.RowKit.wrap64 (Go.RowKit.wrap64 (Go.RowKit.wrap64 (Go.RowKit.wrap64 (x0.2 + 1) - 1) * 7) + 3)) (↑(List.length x0.1) : Int))) 0) * 1117)) + Go.RowKit.wrap64 (Go.RowKit.wrap64 (Go.RowKit.wrap64 (x0.2 + 1) - 1) * 29)) + Go.RowKit.wrap64 (Go.RowKit.wrap64 (Int.tdiv (Go.RowKit.wrap64 (Go.RowKit.wrap64 (x0.2 + 1) - 1)) (↑(List.length x0.1) : Int)) * 53))) ^^^ BitVec.ofInt (Go.IntKind.bits Go.IntKind.i64) (Go.RowKit.wrap64 (Int.tdiv (Go.RowKit.wrap64 (Go.RowKit.wrap64 (Go.RowKit.wrap64 (Go.RowKit.wrap64 (Go.RowKit.wrap64 (List.getD x0.1 (Int.toNat (Int.tmod (Go.RowKit.wrap64 (Go.RowKit.wrap64 (x0.2 + 1) - 1)) (↑(List.length x0.1) : Int))) 0) * 131) + Go.RowKit.wrap64 (Go.RowKit.wrap64 (List.getD x0.1 (Int.toNat (Int.tmod (Go.RowKit.wrap64 (Go.RowKit.wrap64 (Go.RowKit.wrap64 (Go.RowKit.wrap64 (x0.2 + 1) - 1) * 7) + 3)) (↑(List.length x0.1) : Int))) 0) * 1117)) + Go.RowKit.wrap64 (Go.RowKit.wrap64 (Go.RowKit.wrap64 (x0.2 + 1) - 1) * 29)) + Go.RowKit.wrap64 (Go.RowKit.wrap64 (Int.tdiv (Go.RowKit.wrap64 (Go.RowKit.wrap64 (x0.2 + 1) - 1)) (↑(List.length x0.1) : Int)) * 53))) 64)))) : Int)) x1, x0.1, Go.RowKit.wrap64 (x0.2 + 1))))) else none) else none)) else none) else none))))) := by kernel_rfl
noncomputable abbrev spec_reader_pick.sg (n : Nat) : Sig := { params := spec_reader_pick.ps, res := spec_reader_pick.res, run := spec_reader_pick n }
theorem spec_reader_pick.call : Callable Tryz.prog 17 := ⟨Tryz.f17, Tryz.func17, by kernel_rfl, by kernel_rfl⟩
theorem spec_reader_pick.ok (n : Nat) : FC Tryz.prog [] 17 (spec_reader_pick.sg n) :=
  evalF_ok (C := spec_reader_pick.C) ⟨tb_ok, fun n _ _ h => tabOk (l := []) (all_nil) h, mixed, ar_ok, bld_ok, pts_ok⟩ spec_reader_pick.A Tryz.func17 spec_reader_pick.ps spec_reader_pick.res n
abbrev spec_reader_one.ps : List Pm := [.box 61 (.v (.pair (.slice (.int .u8)) (.int .i64))), .arg (.v (.slice (.int .i64)))]
abbrev spec_reader_one.res : List M := [.v (.int .i64)]
noncomputable def spec_reader_one.C : Cfg := { tb := tb, tab := fun n f => Refl.look [(17, (spec_reader_pick.sg n))] f, gl := [], ar := ar, bld := bld, pts := pts }
noncomputable def spec_reader_one.A : Ann := { joins := [], loops := [], ids := [(1, [(9, [])])], pids := [], nroots := 76 }
noncomputable def spec_reader_one (n : Nat) (x : (List Int × Int) × List Int) : Option (Int × List Int × Int) := evalF spec_reader_one.C spec_reader_one.A Tryz.f18 spec_reader_one.ps spec_reader_one.res n x
noncomputable def spec_reader_one.K0 (_ : Nat) : Kont (Int × List Int × Int) := finK spec_reader_one.C (Func.results Tryz.f18).toList spec_reader_one.ps spec_reader_one.res
theorem spec_reader_one.eq (n : Nat) (x0 : List Int × Int) (x1 : List Int) : spec_reader_one n (x0, x1) = ((spec_reader_pick n ((x0.1, x0.2), (↑(List.length x1) : Int))).bind fun y0 => (if 0 ≤ y0.1 then (if y0.1 < (↑(List.length x1) : Int) then some ((List.getD x1 (Int.toNat y0.1) 0, y0.2.1, y0.2.2)) else none) else none)) := by kernel_rfl
noncomputable abbrev spec_reader_one.sg (n : Nat) : Sig := { params := spec_reader_one.ps, res := spec_reader_one.res, run := spec_reader_one n }
theorem spec_reader_one.call : Callable Tryz.prog 18 := ⟨Tryz.f18, Tryz.func18, by kernel_rfl, by kernel_rfl⟩
theorem spec_reader_one.ok (n : Nat) : FC Tryz.prog [] 18 (spec_reader_one.sg n) :=
  evalF_ok (C := spec_reader_one.C) ⟨tb_ok, fun n _ _ h => tabOk (l := [(17, (spec_reader_pick.sg n))]) (all_cons ⟨spec_reader_pick.ok n, spec_reader_pick.call⟩ (all_nil)) h, mixed, ar_ok, bld_ok, pts_ok⟩ spec_reader_one.A Tryz.func18 spec_reader_one.ps spec_reader_one.res n
abbrev spec_inRange.ps : List Pm := [.arg (.v (.int .i64)), .arg (.v (.int .i64)), .arg (.v (.int .i64))]
abbrev spec_inRange.res : List M := [.v .bool]
noncomputable def spec_inRange.C : Cfg := { tb := tb, tab := fun n f => Refl.look [] f, gl := [], ar := ar, bld := bld, pts := pts }
noncomputable def spec_inRange.A : Ann := { joins := [], loops := [], ids := [], pids := [], nroots := 79 }
noncomputable def spec_inRange (n : Nat) (x : Int × Int × Int) : Option (Bool) := evalF spec_inRange.C spec_inRange.A Tryz.f25 spec_inRange.ps spec_inRange.res n x
noncomputable def spec_inRange.K0 (_ : Nat) : Kont (Bool) := finK spec_inRange.C (Func.results Tryz.f25).toList spec_inRange.ps spec_inRange.res
theorem spec_inRange.eq (n : Nat) (x0 x1 x2 : Int) : spec_inRange n (x0, x1, x2) = (if x1 ≤ x0 then some (Decidable.decide (x0 ≤ x2)) else some (Bool.false)) := by kernel_rfl
noncomputable abbrev spec_inRange.sg (n : Nat) : Sig := { params := spec_inRange.ps, res := spec_inRange.res, run := spec_inRange n }
theorem spec_inRange.call : Callable Tryz.prog 25 := ⟨Tryz.f25, Tryz.func25, by kernel_rfl, by kernel_rfl⟩
theorem spec_inRange.ok (n : Nat) : FC Tryz.prog [] 25 (spec_inRange.sg n) :=
  evalF_ok (C := spec_inRange.C) ⟨tb_ok, fun n _ _ h => tabOk (l := []) (all_nil) h, mixed, ar_ok, bld_ok, pts_ok⟩ spec_inRange.A Tryz.func25 spec_inRange.ps spec_inRange.res n
abbrev spec_NewClub.ps : List Pm := [.arg (.v (.int .i64))]
abbrev spec_NewClub.res : List M := [.v (.pair (.slice (.int .i64)) (.pair (.slice (.pair (.int .i64) (.pair (.int .i64) (.slice (.int .i64))))) (.pair (.int .i64) (.pair (.int .i64) (.int .i64)))))]
noncomputable def spec_NewClub.C : Cfg := { tb := tb, tab := fun n f => Refl.look [(25, (spec_inRange.sg n))] f, gl := [], ar := ar, bld := bld, pts := pts }
noncomputable def spec_NewClub.A : Ann := { joins := [], loops := [], ids := [(1, [(4, [])])], pids := [], nroots := 74 }
noncomputable def spec_NewClub (n : Nat) (x : Int) : Option (List Int × List (Int × Int × List Int) × Int × Int × Int) := evalF spec_NewClub.C spec_NewClub.A Tryz.f48 spec_NewClub.ps spec_NewClub.res n x
noncomputable def spec_NewClub.K0 (_ : Nat) : Kont (List Int × List (Int × Int × List Int) × Int × Int × Int) := finK spec_NewClub.C (Func.results Tryz.f48).toList spec_NewClub.ps spec_NewClub.res
theorem spec_NewClub.eq (n : Nat) (x0 : Int) : spec_NewClub n x0 = ((spec_inRange n (x0, 1, 12)).bind fun y0 => (if (!y0) = true then some (([], [], 0, 0, 0)) else (if 0 ≤ x0 then (if x0 ≤ x0 then (if x0 ≤ (↑Go.Refl.maxN : Int) then some ((List.replicate (Int.toNat x0) 0, [], 0, 0, 0)) else none) else none) else none))) := by kernel_rfl
noncomputable abbrev spec_NewClub.sg (n : Nat) : Sig := { params := spec_NewClub.ps, res := spec_NewClub.res, run := spec_NewClub n }
theorem spec_NewClub.call : Callable Tryz.prog 48 := ⟨Tryz.f48, Tryz.func48, by kernel_rfl, by kernel_rfl⟩
theorem spec_NewClub.ok (n : Nat) : FC Tryz.prog [] 48 (spec_NewClub.sg n) :=
  evalF_ok (C := spec_NewClub.C) ⟨tb_ok, fun n _ _ h => tabOk (l := [(25, (spec_inRange.sg n))]) (all_cons ⟨spec_inRange.ok n, spec_inRange.call⟩ (all_nil)) h, mixed, ar_ok, bld_ok, pts_ok⟩ spec_NewClub.A Tryz.func48 spec_NewClub.ps spec_NewClub.res n
abbrev spec_firstClub.ps : List Pm := [.box 61 (.v (.pair (.slice (.int .u8)) (.int .i64)))]
abbrev spec_firstClub.res : List M := [.v (.pair (.slice (.int .i64)) (.pair (.slice (.pair (.int .i64) (.pair (.int .i64) (.slice (.int .i64))))) (.pair (.int .i64) (.pair (.int .i64) (.int .i64)))))]
noncomputable def spec_firstClub.C : Cfg := { tb := tb, tab := fun n f => Refl.look [(18, (spec_reader_one.sg n)), (48, (spec_NewClub.sg n))] f, gl := [], ar := ar, bld := bld, pts := pts }
noncomputable def spec_firstClub.A : Ann := { joins := [], loops := [], ids := [(1, [(4, []), (5, []), (6, [])])], pids := [], nroots := 71 }
noncomputable def spec_firstClub (n : Nat) (x : List Int × Int) : Option ((List Int × List (Int × Int × List Int) × Int × Int × Int) × List Int × Int) := evalF spec_firstClub.C spec_firstClub.A Tryz.f33 spec_firstClub.ps spec_firstClub.res n x
noncomputable def spec_firstClub.K0 (_ : Nat) : Kont ((List Int × List (Int × Int × List Int) × Int × Int × Int) × List Int × Int) := finK spec_firstClub.C (Func.results Tryz.f33).toList spec_firstClub.ps spec_firstClub.res
theorem spec_firstClub.eq (n : Nat) (x0 : List Int × Int) : spec_firstClub n x0 = ((spec_reader_one n ((x0.1, x0.2), List.set (List.set (List.set (List.set (List.set (List.replicate 5 0) 0 3) 1 4) 2 2) 3 5) 4 1)).bind fun y0 => ((spec_NewClub n y0.1).bind fun y1 => some (((y1.1, y1.2.1, y1.2.2.1, y1.2.2.2.1, y1.2.2.2.2), y0.2.1, y0.2.2)))) := by kernel_rfl
noncomputable abbrev spec_firstClub.sg (n : Nat) : Sig := { params := spec_firstClub.ps, res := spec_firstClub.res, run := spec_firstClub n }
theorem spec_firstClub.call : Callable Tryz.prog 33 := ⟨Tryz.f33, Tryz.func33, by kernel_rfl, by kernel_rfl⟩
theorem spec_firstClub.ok (n : Nat) : FC Tryz.prog [] 33 (spec_firstClub.sg n) :=
  evalF_ok (C := spec_firstClub.C) ⟨tb_ok, fun n _ _ h => tabOk (l := [(18, (spec_reader_one.sg n)), (48, (spec_NewClub.sg n))]) (all_cons ⟨spec_reader_one.ok n, spec_reader_one.call⟩ (all_cons ⟨spec_NewClub.ok n, spec_NewClub.call⟩ (all_nil))) h, mixed, ar_ok, bld_ok, pts_ok⟩ spec_firstClub.A Tryz.func33 spec_firstClub.ps spec_firstClub.res n
abbrev spec_someRate.ps : List Pm := [.box 61 (.v (.pair (.slice (.int .u8)) (.int .i64)))]
abbrev spec_someRate.res : List M := [.v (.pair (.int .i64) (.int .i64))]
noncomputable def spec_someRate.C : Cfg := { tb := tb, tab := fun n f => Refl.look [(17, (spec_reader_pick.sg n)), (18, (spec_reader_one.sg n))] f, gl := [], ar := ar, bld := bld, pts := pts }
noncomputable def spec_someRate.A : Ann := { joins := [], loops := [], ids := [(1, [(6, []), (8, []), (9, [])]), (2, [(17, []), (20, []), (21, [])])], pids := [], nroots := 88 }
noncomputable def spec_someRate (n : Nat) (x : List Int × Int) : Option ((Int × Int) × List Int × Int) := evalF spec_someRate.C spec_someRate.A Tryz.f38 spec_someRate.ps spec_someRate.res n x
noncomputable def spec_someRate.K0 (_ : Nat) : Kont ((Int × Int) × List Int × Int) := finK spec_someRate.C (Func.results Tryz.f38).toList spec_someRate.ps spec_someRate.res
theorem spec_someRate.eq (n : Nat) (x0 : List Int × Int) : spec_someRate n x0 = ((spec_reader_pick n ((x0.1, x0.2), 50)).bind fun y0 => ((spec_reader_one n ((y0.2.1, y0.2.2), List.set (List.set (List.set (List.set (List.set (List.set (List.set (List.set (List.set (List.replicate 9 0) 0 100) 1 12) 2 2) 3 4) 4 1000) 5 8) 6 1) 7 365) 8 (Go.RowKit.wrap64 (1 + y0.1)))).bind fun y1 => ((spec_reader_pick n ((y1.2.1, y1.2.2), Go.RowKit.wrap64 (y1.1 + 1))).bind fun y2 => ((spec_reader_one n ((y2.2.1, y2.2.2), List.set (List.set (List.set (List.set (List.set (List.set (List.replicate 6 0) 0 1) 1 0) 2 (Go.Refl.mn 5 y1.1)) 3 y1.1) 4 y2.1) 5 (Go.Refl.mn 3 y1.1))).bind fun y3 => some (((y3.1, y1.1), y3.2.1, y3.2.2)))))) := by kernel_rfl
noncomputable abbrev spec_someRate.sg (n : Nat) : Sig := { params := spec_someRate.ps, res := spec_someRate.res, run := spec_someRate n }
theorem spec_someRate.call : Callable Tryz.prog 38 := ⟨Tryz.f38, Tryz.func38, by kernel_rfl, by kernel_rfl⟩
theorem spec_someRate.ok (n : Nat) : FC Tryz.prog [] 38 (spec_someRate.sg n) :=
  evalF_ok (C := spec_someRate.C) ⟨tb_ok, fun n _ _ h => tabOk (l := [(17, (spec_reader_pick.sg n)), (18, (spec_reader_one.sg n))]) (all_cons ⟨spec_reader_pick.ok n, spec_reader_pick.call⟩ (all_cons ⟨spec_reader_one.ok n, spec_reader_one.call⟩ (all_nil))) h, mixed, ar_ok, bld_ok, pts_ok⟩ spec_someRate.A Tryz.func38 spec_someRate.ps spec_someRate.res n
abbrev spec_someEvent.ps : List Pm := [.box 61 (.v (.pair (.slice (.int .u8)) (.int .i64))), .arg (.v (.pair (.slice (.int .i64)) (.pair (.slice (.pair (.int .i64) (.pair (.int .i64) (.slice (.int .i64))))) (.pair (.int .i64) (.pair (.int .i64) (.int .i64))))))]
abbrev spec_someEvent.res : List M := [.v (.pair (.int .i64) (.pair (.int .i64) (.pair (.int .i64) (.pair (.int .i64) (.pair (.slice (.int .i64)) (.pair (.int .i64) (.int .i64)))))))]
noncomputable def spec_someEvent.C : Cfg := { tb := tb, tab := fun n f => Refl.look [(17, (spec_reader_pick.sg n)), (18, (spec_reader_one.sg n)), (38, (spec_someRate.sg n))] f, gl := [], ar := ar, bld := bld, pts := pts }
noncomputable def spec_someEvent.A : Ann := { joins := [(11, { live := [0, 3, 4, 5, 6, 17, 34], base := 125 }), (20, { live := [0, 3, 4, 6, 17, 67], base := 125 }), (29, { live := [0, 4, 6], base := 125 })], loops := [(13, { live := [0, 4, 5, 6, 7, 8], base := 125, growB := [(7, 4, 153, (.int .i64), 3)] })], ids := [(0, [(3, [])]), (2, [(15, [])]), (3, [(17, [])]), (7, [(31, [])]), (11, [(44, [])]), (15, [(57, [])]), (16, [(63, [])]), (21, [(78, [])]), (22, [(94, []), (96, []), (97, []), (100, []), (101, []), (102, [])]), (24, [(107, [])]), (26, [(112, [])]), (29, [(120, []), (122, []), (123, [])])], pids := [], nroots := 189 }
noncomputable def spec_someEvent (n : Nat) (x : (List Int × Int) × List Int × List (Int × Int × List Int) × Int × Int × Int) : Option ((Int × Int × Int × Int × List Int × Int × Int) × List Int × Int) := evalF spec_someEvent.C spec_someEvent.A Tryz.f16 spec_someEvent.ps spec_someEvent.res n x
noncomputable def spec_someEvent.K0 (_ : Nat) : Kont ((Int × Int × Int × Int × List Int × Int × Int) × List Int × Int) := finK spec_someEvent.C (Func.results Tryz.f16).toList spec_someEvent.ps spec_someEvent.res
noncomputable def spec_someEvent.K1 (n : Nat) : Kont ((Int × Int × Int × Int × List Int × Int × Int) × List Int × Int) := seqK (fun s' k => joinE spec_someEvent.A.joins (codeAt Tryz.f16 [1, 1, 1, 1]) (fun s'' => evalC spec_someEvent.C spec_someEvent.A n (codeAt Tryz.f16 [1, 1, 1, 1]) s'' k) s') (spec_someEvent.K0 n)
noncomputable def spec_someEvent.K2 (n : Nat) : Kont ((Int × Int × Int × Int × List Int × Int × Int) × List Int × Int) := blockK 0 (spec_someEvent.K1 n)
noncomputable def spec_someEvent.K3 (n : Nat) : Kont ((Int × Int × Int × Int × List Int × Int × Int) × List Int × Int) := seqK (fun s' k => joinE spec_someEvent.A.joins (codeAt Tryz.f16 [1, 1, 1, 0, 1, 0, 1, 1, 1, 1, 1, 0, 1, 1]) (fun s'' => evalC spec_someEvent.C spec_someEvent.A n (codeAt Tryz.f16 [1, 1, 1, 0, 1, 0, 1, 1, 1, 1, 1, 0, 1, 1]) s'' k) s') (spec_someEvent.K2 n)
noncomputable def spec_someEvent.K4 (n : Nat) : Kont ((Int × Int × Int × Int × List Int × Int × Int) × List Int × Int) := blockK 1 (spec_someEvent.K3 n)
noncomputable def spec_someEvent.j11 (n : Nat) (x3 : List (List Int × List (Int × Int × List Int) × Int × Int × Int)) (x5 x6 x17 : Int) (x34 : Bool) (r0_0 : List Int) (r0_1 r125_0 : Int) (r125_1 r125_2 : Int) (r125_3 r125_5 r125_6 : Int) : Option ((Int × Int × Int × Int × List Int × Int × Int) × List Int × Int) := holdF (fun s => evalC spec_someEvent.C spec_someEvent.A n (codeAt Tryz.f16 [1, 1, 1, 0, 1, 0, 1, 1, 1, 1, 1]) s (spec_someEvent.K2 n)) (St.of 125 189 [(0, .ptr 0 0 0), (3, .vptr (.pair (.slice (.int .i64)) (.pair (.slice (.pair (.int .i64) (.pair (.int .i64) (.slice (.int .i64))))) (.pair (.int .i64) (.pair (.int .i64) (.int .i64))))) x3 0 0), (4, .ptr 125 0 0), (5, .val (.int .i64) x5), (6, .val (.int .i64) x6), (17, .val (.int .i64) x17), (34, .val .bool x34)] [(0, .box 61 [.val (.slice (.int .u8)) r0_0, .val (.int .i64) r0_1]), (125, .box 27 [.val (.int .i64) r125_0, .val (.int .i64) r125_1, .val (.int .i64) r125_2, .val (.int .i64) r125_3, .nils, .val (.int .i64) r125_5, .val (.int .i64) r125_6])] [0])
noncomputable def spec_someEvent.l13 (n m13 : Nat) (x5 x6 x8 : Int) (r0_0 : List Int) (r0_1 r125_0 : Int) (r125_1 r125_2 : Int) (r125_3 r125_5 : Int) (r125_6 r126_0 : Int) (r126_1 r126_2 : Int) (r126_3 r126_5 r126_6 : Int) (r127 : List Int) : Option ((Int × Int × Int × Int × List Int × Int × Int) × List Int × Int) := loopE (cutAt spec_someEvent.A.loops (codeAt Tryz.f16 [1, 1, 1, 0, 1, 0, 1, 1, 1, 1, 1, 0, 1, 0, 1, 0, 0])) (fun s k => evalC spec_someEvent.C spec_someEvent.A n (codeAt Tryz.f16 [1, 1, 1, 0, 1, 0, 1, 1, 1, 1, 1, 0, 1, 0, 1, 0, 0]) s k) m13 (St.of 125 189 [(0, .ptr 0 0 0), (4, .ptr 125 0 0), (5, .val (.int .i64) x5), (6, .val (.int .i64) x6), (7, .ptr 126 0 0), (8, .val (.int .i64) x8)] [(0, .box 61 [.val (.slice (.int .u8)) r0_0, .val (.int .i64) r0_1]), (125, .box 27 [.val (.int .i64) r125_0, .val (.int .i64) r125_1, .val (.int .i64) r125_2, .val (.int .i64) r125_3, .nils, .val (.int .i64) r125_5, .val (.int .i64) r125_6]), (126, .box 27 [.val (.int .i64) r126_0, .val (.int .i64) r126_1, .val (.int .i64) r126_2, .val (.int .i64) r126_3, .own 127, .val (.int .i64) r126_5, .val (.int .i64) r126_6]), (127, .row (.int .i64) 3 r127)] [0]) (spec_someEvent.K4 n)
noncomputable def spec_someEvent.j20 (n : Nat) (x3 : List (List Int × List (Int × Int × List Int) × Int × Int × Int)) (x6 x17 : Int) (x67 : Bool) (r0_0 : List Int) (r0_1 r125_0 : Int) (r125_1 r125_2 : Int) (r125_3 r125_5 r125_6 : Int) : Option ((Int × Int × Int × Int × List Int × Int × Int) × List Int × Int) := holdF (fun s => evalC spec_someEvent.C spec_someEvent.A n (codeAt Tryz.f16 [1, 1, 1, 0, 1, 0, 1, 1, 1, 1, 1, 1, 1]) s (spec_someEvent.K2 n)) (St.of 125 189 [(0, .ptr 0 0 0), (3, .vptr (.pair (.slice (.int .i64)) (.pair (.slice (.pair (.int .i64) (.pair (.int .i64) (.slice (.int .i64))))) (.pair (.int .i64) (.pair (.int .i64) (.int .i64))))) x3 0 0), (4, .ptr 125 0 0), (6, .val (.int .i64) x6), (17, .val (.int .i64) x17), (67, .val .bool x67)] [(0, .box 61 [.val (.slice (.int .u8)) r0_0, .val (.int .i64) r0_1]), (125, .box 27 [.val (.int .i64) r125_0, .val (.int .i64) r125_1, .val (.int .i64) r125_2, .val (.int .i64) r125_3, .nils, .val (.int .i64) r125_5, .val (.int .i64) r125_6])] [0])
noncomputable def spec_someEvent.j29 (n : Nat) (x6 : Int) (r0_0 : List Int) (r0_1 r125_0 : Int) (r125_1 r125_2 : Int) (r125_3 r125_5 r125_6 : Int) : Option ((Int × Int × Int × Int × List Int × Int × Int) × List Int × Int) := holdF (fun s => evalC spec_someEvent.C spec_someEvent.A n (codeAt Tryz.f16 [1, 1, 1, 1]) s (spec_someEvent.K0 n)) (St.of 125 189 [(0, .ptr 0 0 0), (4, .ptr 125 0 0), (6, .val (.int .i64) x6)] [(0, .box 61 [.val (.slice (.int .u8)) r0_0, .val (.int .i64) r0_1]), (125, .box 27 [.val (.int .i64) r125_0, .val (.int .i64) r125_1, .val (.int .i64) r125_2, .val (.int .i64) r125_3, .nils, .val (.int .i64) r125_5, .val (.int .i64) r125_6])] [0])
theorem spec_someEvent.eq (n : Nat) (x0 : List Int × Int) (x1 : List Int × List (Int × Int × List Int) × Int × Int × Int) : spec_someEvent n (x0, x1) = ((spec_reader_pick n ((x0.1, x0.2), (↑(List.length x1.1) : Int))).bind fun y0 => ((spec_reader_pick n ((y0.2.1, y0.2.2), 12)).bind fun y1 => (if y1.1 = 0 then some (((0, 0, 0, 0, [], 0, 0), y1.2.1, y1.2.2)) else (if y1.1 = 1 then (if 0 ≤ y0.1 then (if y0.1 < (↑(List.length x1.1) : Int) then ((spec_reader_pick n ((y1.2.1, y1.2.2), Go.Refl.mx (List.getD x1.1 (Int.toNat y0.1) 0) 1)).bind fun y2 => some (((2, y0.1, Go.RowKit.wrap64 (1 + y2.1), 0, [], 0, 0), y2.2.1, y2.2.2))) else none) else none) else (if y1.1 = 2 then spec_someEvent.j11 n ([x1]) ((↑(List.length x1.1) : Int)) y0.1 y1.1 (Decidable.decide (y1.1 = 2)) y1.2.1 y1.2.2 (0) (0) (0) (0) (0) (0) else (if y1.1 = 3 then spec_someEvent.j11 n ([x1]) ((↑(List.length x1.1) : Int)) y0.1 y1.1 (Decidable.decide (y1.1 = 3)) y1.2.1 y1.2.2 (0) (0) (0) (0) (0) (0) else spec_someEvent.j11 n ([x1]) ((↑(List.length x1.1) : Int)) y0.1 y1.1 (Decidable.decide (y1.1 = 4)) y1.2.1 y1.2.2 (0) (0) (0) (0) (0) (0))))))) := by kernel_rfl
theorem spec_someEvent.j11_eq (n : Nat) (x3 : List (List Int × List (Int × Int × List Int) × Int × Int × Int)) (x5 x6 x17 : Int) (x34 : Bool) (r0_0 : List Int) (r0_1 r125_0 : Int) (r125_1 r125_2 : Int) (r125_3 r125_5 r125_6 : Int) : spec_someEvent.j11 n x3 x5 x6 x17 x34 r0_0 r0_1 r125_0 r125_1 r125_2 r125_3 r125_5 r125_6 = (if (x34) = true then ((spec_reader_pick n ((r0_0, r0_1), Go.Refl.mn (Go.Refl.mx (Prod.fst (Prod.snd (Prod.snd (List.getD x3 0 ([], [], 0, 0, 0))))) 1) 150)).bind fun y3 => spec_someEvent.l13 n n (x5) (x6) (0) y3.2.1 y3.2.2 (r125_0) (r125_1) (r125_2) (r125_3) (r125_5) (r125_6) (3) (x6) (Go.RowKit.wrap64 (1 + y3.1)) (0) (0) (0) ([])) else (if x17 = 5 then spec_someEvent.j20 n (x3) (x6) (x17) (Decidable.decide (x17 = 5)) (r0_0) (r0_1) (r125_0) (r125_1) (r125_2) (r125_3) (r125_5) (r125_6) else spec_someEvent.j20 n (x3) (x6) (x17) (Decidable.decide (x17 = 6)) (r0_0) (r0_1) (r125_0) (r125_1) (r125_2) (r125_3) (r125_5) (r125_6))) := (holdF_eq _ _).trans (by kernel_rfl)
theorem spec_someEvent.l13_zero (n : Nat) (x5 x6 x8 : Int) (r0_0 : List Int) (r0_1 r125_0 : Int) (r125_1 r125_2 : Int) (r125_3 r125_5 : Int) (r125_6 r126_0 : Int) (r126_1 r126_2 : Int) (r126_3 r126_5 r126_6 : Int) (r127 : List Int) : spec_someEvent.l13 n 0 x5 x6 x8 r0_0 r0_1 r125_0 r125_1 r125_2 r125_3 r125_5 r125_6 r126_0 r126_1 r126_2 r126_3 r126_5 r126_6 r127 = none := by kernel_rfl
theorem spec_someEvent.l13_succ (n m13 : Nat) (x5 x6 x8 : Int) (r0_0 : List Int) (r0_1 r125_0 : Int) (r125_1 r125_2 : Int) (r125_3 r125_5 : Int) (r125_6 r126_0 : Int) (r126_1 r126_2 : Int) (r126_3 r126_5 r126_6 : Int) (r127 : List Int) : spec_someEvent.l13 n (m13 + 1) x5 x6 x8 r0_0 r0_1 r125_0 r125_1 r125_2 r125_3 r125_5 r125_6 r126_0 r126_1 r126_2 r126_3 r126_5 r126_6 r127 = (if x8 < x5 then (if x8 = x6 then spec_someEvent.l13 n m13 (x5) (x6) (Go.RowKit.wrap64 (x8 + 1)) (r0_0) (r0_1) (r125_0) (r125_1) (r125_2) (r125_3) (r125_5) (r125_6) (r126_0) (r126_1) (r126_2) (r126_3) (r126_5) (r126_6) (r127) else ((spec_reader_pick n ((r0_0, r0_1), 2)).bind fun y4 => (if y4.1 = 0 then (if List.length r127 + List.length (List.set (List.replicate (1 : Nat) (0 : Int)) (0 : Nat) x8) ≤ Go.Refl.maxN then spec_someEvent.l13 n m13 (x5) (x6) (Go.RowKit.wrap64 (x8 + 1)) y4.2.1 y4.2.2 (r125_0) (r125_1) (r125_2) (r125_3) (r125_5) (r125_6) (r126_0) (r126_1) (r126_2) (r126_3) (r126_5) (r126_6) (r127 ++ List.set (List.replicate 1 0) 0 x8) else none) else spec_someEvent.l13 n m13 (x5) (x6) (Go.RowKit.wrap64 (x8 + 1)) y4.2.1 y4.2.2 (r125_0) (r125_1) (r125_2) (r125_3) (r125_5) (r125_6) (r126_0) (r126_1) (r126_2) (r126_3) (r126_5) (r126_6) (r127)))) else some (((r126_0, r126_1, r126_2, r126_3, r127, r126_5, r126_6), r0_0, r0_1))) := by kernel_rfl
theorem spec_someEvent.j20_eq (n : Nat) (x3 : List (List Int × List (Int × Int × List Int) × Int × Int × Int)) (x6 x17 : Int) (x67 : Bool) (r0_0 : List Int) (r0_1 r125_0 : Int) (r125_1 r125_2 : Int) (r125_3 r125_5 r125_6 : Int) : spec_someEvent.j20 n x3 x6 x17 x67 r0_0 r0_1 r125_0 r125_1 r125_2 r125_3 r125_5 r125_6 = (if (x67) = true then (if (↑(List.length (Prod.fst (Prod.snd (List.getD x3 (0 : Nat) ([], [], (0 : Int), (0 : Int), (0 : Int)))))) : Int) > 0 then ((spec_reader_pick n ((r0_0, r0_1), (↑(List.length (Prod.fst (Prod.snd (List.getD x3 (0 : Nat) ([], [], (0 : Int), (0 : Int), (0 : Int)))))) : Int))).bind fun y5 => (if 0 ≤ y5.1 then (if y5.1 < (↑(List.length (Prod.fst (Prod.snd (List.getD x3 (0 : Nat) ([], [], (0 : Int), (0 : Int), (0 : Int)))))) : Int) then (if 0 ≤ y5.1 then (if y5.1 < (↑(List.length (Prod.fst (Prod.snd (List.getD x3 (0 : Nat) ([], [], (0 : Int), (0 : Int), (0 : Int)))))) : Int) then ((spec_reader_pick n ((y5.2.1, y5.2.2), Prod.fst (Prod.snd (List.getD (Prod.fst (Prod.snd (List.getD x3 0 ([], [], 0, 0, 0)))) (Int.toNat y5.1) (0, 0, []))))).bind fun y6 => ((spec_reader_one n ((y6.2.1, y6.2.2), List.set (List.set (List.replicate 2 0) 0 (Prod.fst (Prod.snd (List.getD (Prod.fst (Prod.snd (List.getD x3 0 ([], [], 0, 0, 0)))) (Int.toNat y5.1) (0, 0, []))))) 1 (Go.RowKit.wrap64 (1 + y6.1)))).bind fun y7 => ((spec_reader_pick n ((y7.2.1, y7.2.2), 30)).bind fun y8 => ((spec_reader_one n ((y8.2.1, y8.2.2), List.set (List.set (List.set (List.replicate 3 0) 0 0) 1 5) 2 y8.1)).bind fun y9 => some (((4, y5.1, y7.1, y9.1, [], 0, 0), y9.2.1, y9.2.2)))))) else none) else none) else none) else none)) else spec_someEvent.j29 n (x6) (r0_0) (r0_1) (r125_0) (r125_1) (r125_2) (r125_3) (r125_5) (r125_6)) else (if x17 = 7 then ((spec_someRate n (r0_0, r0_1)).bind fun y10 => some (((6, 0, 0, 0, [], y10.1.1, y10.1.2), y10.2.1, y10.2.2))) else (if x17 = 8 then ((spec_reader_pick n ((r0_0, r0_1), 2)).bind fun y11 => (if y11.1 = 0 then some (((5, x6, 0, 0, [], 0, 0), y11.2.1, y11.2.2)) else some (((7, 0, 0, 0, [], 0, 0), y11.2.1, y11.2.2)))) else spec_someEvent.j29 n (x6) (r0_0) (r0_1) (r125_0) (r125_1) (r125_2) (r125_3) (r125_5) (r125_6)))) := (holdF_eq _ _).trans (by kernel_rfl)
theorem spec_someEvent.j29_eq (n : Nat) (x6 : Int) (r0_0 : List Int) (r0_1 r125_0 : Int) (r125_1 r125_2 : Int) (r125_3 r125_5 r125_6 : Int) : spec_someEvent.j29 n x6 r0_0 r0_1 r125_0 r125_1 r125_2 r125_3 r125_5 r125_6 = ((spec_reader_pick n ((r0_0, r0_1), 250)).bind fun y12 => ((spec_reader_one n ((y12.2.1, y12.2.2), List.set (List.set (List.set (List.set (List.replicate 4 0) 0 100) 1 250) 2 (Go.RowKit.wrap64 (1 + y12.1))) 3 1000)).bind fun y13 => some (((1, x6, y13.1, 0, [], 0, 0), y13.2.1, y13.2.2)))) := (holdF_eq _ _).trans (by kernel_rfl)
noncomputable abbrev spec_someEvent.sg (n : Nat) : Sig := { params := spec_someEvent.ps, res := spec_someEvent.res, run := spec_someEvent n }
theorem spec_someEvent.call : Callable Tryz.prog 16 := ⟨Tryz.f16, Tryz.func16, by kernel_rfl, by kernel_rfl⟩
theorem spec_someEvent.ok (n : Nat) : FC Tryz.prog [] 16 (spec_someEvent.sg n) :=
  evalF_ok (C := spec_someEvent.C) ⟨tb_ok, fun n _ _ h => tabOk (l := [(17, (spec_reader_pick.sg n)), (18, (spec_reader_one.sg n)), (38, (spec_someRate.sg n))]) (all_cons ⟨spec_reader_pick.ok n, spec_reader_pick.call⟩ (all_cons ⟨spec_reader_one.ok n, spec_reader_one.call⟩ (all_cons ⟨spec_someRate.ok n, spec_someRate.call⟩ (all_nil)))) h, mixed, ar_ok, bld_ok, pts_ok⟩ spec_someEvent.A Tryz.func16 spec_someEvent.ps spec_someEvent.res n
abbrev spec_copyInts.ps : List Pm := [.arg (.v (.slice (.int .i64)))]
abbrev spec_copyInts.res : List M := [(.own (.int .i64) 3)]
noncomputable def spec_copyInts.C : Cfg := { tb := tb, tab := fun n f => Refl.look [] f, gl := [], ar := ar, bld := bld, pts := pts }
noncomputable def spec_copyInts.A : Ann := { joins := [], loops := [], ids := [], pids := [], nroots := 70 }
noncomputable def spec_copyInts (n : Nat) (x : List Int) : Option (List Int) := evalF spec_copyInts.C spec_copyInts.A Tryz.f63 spec_copyInts.ps spec_copyInts.res n x
noncomputable def spec_copyInts.K0 (_ : Nat) : Kont (List Int) := finK spec_copyInts.C (Func.results Tryz.f63).toList spec_copyInts.ps spec_copyInts.res
theorem spec_copyInts.eq (n : Nat) (x0 : List Int) : spec_copyInts n x0 = (if List.length (List.replicate (0 : Nat) (0 : Int)) + List.length x0 ≤ Go.Refl.maxN then some (List.replicate 0 0 ++ x0) else none) := by kernel_rfl
noncomputable abbrev spec_copyInts.sg (n : Nat) : Sig := { params := spec_copyInts.ps, res := spec_copyInts.res, run := spec_copyInts n }
theorem spec_copyInts.call : Callable Tryz.prog 63 := ⟨Tryz.f63, Tryz.func63, by kernel_rfl, by kernel_rfl⟩
theorem spec_copyInts.ok (n : Nat) : FC Tryz.prog [] 63 (spec_copyInts.sg n) :=
  evalF_ok (C := spec_copyInts.C) ⟨tb_ok, fun n _ _ h => tabOk (l := []) (all_nil) h, mixed, ar_ok, bld_ok, pts_ok⟩ spec_copyInts.A Tryz.func63 spec_copyInts.ps spec_copyInts.res n
abbrev spec_copyLoans.ps : List Pm := [.arg (.v (.slice (.pair (.int .i64) (.pair (.int .i64) (.slice (.int .i64))))))]
abbrev spec_copyLoans.res : List M := [(.own (.pair (.int .i64) (.pair (.int .i64) (.slice (.int .i64)))) 69)]
noncomputable def spec_copyLoans.C : Cfg := { tb := tb, tab := fun n f => Refl.look [(63, { params := spec_copyInts.ps, res := [.v (.slice (.int .i64))], run := spec_copyInts n })] f, gl := [], ar := ar, bld := bld, pts := pts }
noncomputable def spec_copyLoans.A : Ann := { joins := [], loops := [(3, { live := [0, 3, 4], base := 33 })], ids := [(5, [(28, []), (30, [])])], pids := [], nroots := 97 }
noncomputable def spec_copyLoans (n : Nat) (x : List (Int × Int × List Int)) : Option (List (Int × Int × List Int)) := evalF spec_copyLoans.C spec_copyLoans.A Tryz.f83 spec_copyLoans.ps spec_copyLoans.res n x
noncomputable def spec_copyLoans.K0 (_ : Nat) : Kont (List (Int × Int × List Int)) := finK spec_copyLoans.C (Func.results Tryz.f83).toList spec_copyLoans.ps spec_copyLoans.res
noncomputable def spec_copyLoans.K1 (n : Nat) : Kont (List (Int × Int × List Int)) := seqK (fun s' k => joinE spec_copyLoans.A.joins (codeAt Tryz.f83 [1, 1, 1]) (fun s'' => evalC spec_copyLoans.C spec_copyLoans.A n (codeAt Tryz.f83 [1, 1, 1]) s'' k) s') (spec_copyLoans.K0 n)
noncomputable def spec_copyLoans.K2 (n : Nat) : Kont (List (Int × Int × List Int)) := blockK 0 (spec_copyLoans.K1 n)
noncomputable def spec_copyLoans.l3 (n m3 : Nat) (x0 : List (Int × Int × List Int)) (x4 : Int) (r33 : List (Int × Int × List Int)) : Option (List (Int × Int × List Int)) := loopE (cutAt spec_copyLoans.A.loops (codeAt Tryz.f83 [1, 1, 0, 1, 0, 0])) (fun s k => evalC spec_copyLoans.C spec_copyLoans.A n (codeAt Tryz.f83 [1, 1, 0, 1, 0, 0]) s k) m3 (St.of 33 97 [(0, .val (.slice (.pair (.int .i64) (.pair (.int .i64) (.slice (.int .i64))))) x0), (3, .own 33), (4, .val (.int .i64) x4)] [(33, .row (.pair (.int .i64) (.pair (.int .i64) (.slice (.int .i64)))) 69 r33)] []) (spec_copyLoans.K2 n)
theorem spec_copyLoans.eq (n : Nat) (x0 : List (Int × Int × List Int)) : spec_copyLoans n x0 = spec_copyLoans.l3 n n (x0) (0) (List.replicate 0 (0, 0, [])) := by kernel_rfl
theorem spec_copyLoans.l3_zero (n : Nat) (x0 : List (Int × Int × List Int)) (x4 : Int) (r33 : List (Int × Int × List Int)) : spec_copyLoans.l3 n 0 x0 x4 r33 = none := by kernel_rfl
theorem spec_copyLoans.l3_succ (n m3 : Nat) (x0 : List (Int × Int × List Int)) (x4 : Int) (r33 : List (Int × Int × List Int)) : spec_copyLoans.l3 n (m3 + 1) x0 x4 r33 = (if x4 < (↑(List.length x0) : Int) then (if 0 ≤ x4 then (if x4 < (↑(List.length x0) : Int) then (if 0 ≤ x4 then (if x4 < (↑(List.length x0) : Int) then (if 0 ≤ x4 then (if x4 < (↑(List.length x0) : Int) then ((spec_copyInts n (Prod.snd (Prod.snd (List.getD x0 (Int.toNat x4) (0, 0, []))))).bind fun y0 => (if List.length r33 + List.length (List.set (List.replicate (1 : Nat) ((0 : Int), (0 : Int), [])) (0 : Nat) (Prod.fst (List.getD x0 (Int.toNat x4) ((0 : Int), (0 : Int), [])), Prod.fst (Prod.snd (List.getD x0 (Int.toNat x4) ((0 : Int), (0 : Int), []))), y0)) ≤ Go.Refl.maxN then spec_copyLoans.l3 n m3 (x0) (Go.RowKit.wrap64 (x4 + 1)) (r33 ++ List.set (List.replicate 1 (0, 0, [])) 0 (Prod.fst (List.getD x0 (Int.toNat x4) (0, 0, [])), Prod.fst (Prod.snd (List.getD x0 (Int.toNat x4) (0, 0, []))), y0)) else none)) else none) else none) else none) else none) else none) else none) else some (r33)) := by kernel_rfl
noncomputable abbrev spec_copyLoans.sg (n : Nat) : Sig := { params := spec_copyLoans.ps, res := spec_copyLoans.res, run := spec_copyLoans n }
theorem spec_copyLoans.call : Callable Tryz.prog 83 := ⟨Tryz.f83, Tryz.func83, by kernel_rfl, by kernel_rfl⟩
theorem spec_copyLoans.ok (n : Nat) : FC Tryz.prog [] 83 (spec_copyLoans.sg n) :=
  evalF_ok (C := spec_copyLoans.C) ⟨tb_ok, fun n _ _ h => tabOk (l := [(63, { params := spec_copyInts.ps, res := [.v (.slice (.int .i64))], run := spec_copyInts n })]) (all_cons ⟨FC.weak (.cons (.own _ _) .nil) HEq.rfl (spec_copyInts.ok n), spec_copyInts.call⟩ (all_nil)) h, mixed, ar_ok, bld_ok, pts_ok⟩ spec_copyLoans.A Tryz.func83 spec_copyLoans.ps spec_copyLoans.res n
abbrev spec_copyClub.ps : List Pm := [.arg (.v (.pair (.slice (.int .i64)) (.pair (.slice (.pair (.int .i64) (.pair (.int .i64) (.slice (.int .i64))))) (.pair (.int .i64) (.pair (.int .i64) (.int .i64))))))]
abbrev spec_copyClub.res : List M := [(.pr (.own (.int .i64) 3) (.pr (.own (.pair (.int .i64) (.pair (.int .i64) (.slice (.int .i64)))) 69) (.v (.pair (.int .i64) (.pair (.int .i64) (.int .i64))))))]
noncomputable def spec_copyClub.C : Cfg := { tb := tb, tab := fun n f => Refl.look [(63, (spec_copyInts.sg n)), (83, (spec_copyLoans.sg n))] f, gl := [], ar := ar, bld := bld, pts := pts }
noncomputable def spec_copyClub.A : Ann := { joins := [], loops := [], ids := [], pids := [], nroots := 78 }
noncomputable def spec_copyClub (n : Nat) (x : List Int × List (Int × Int × List Int) × Int × Int × Int) : Option (List Int × List (Int × Int × List Int) × Int × Int × Int) := evalF spec_copyClub.C spec_copyClub.A Tryz.f60 spec_copyClub.ps spec_copyClub.res n x
noncomputable def spec_copyClub.K0 (_ : Nat) : Kont (List Int × List (Int × Int × List Int) × Int × Int × Int) := finK spec_copyClub.C (Func.results Tryz.f60).toList spec_copyClub.ps spec_copyClub.res
theorem spec_copyClub.eq (n : Nat) (x0 : List Int × List (Int × Int × List Int) × Int × Int × Int) : spec_copyClub n x0 = ((spec_copyInts n x0.1).bind fun y0 => ((spec_copyLoans n x0.2.1).bind fun y1 => some ((y0, y1, x0.2.2.1, x0.2.2.2.1, x0.2.2.2.2)))) := by kernel_rfl
noncomputable abbrev spec_copyClub.sg (n : Nat) : Sig := { params := spec_copyClub.ps, res := spec_copyClub.res, run := spec_copyClub n }
theorem spec_copyClub.call : Callable Tryz.prog 60 := ⟨Tryz.f60, Tryz.func60, by kernel_rfl, by kernel_rfl⟩
theorem spec_copyClub.ok (n : Nat) : FC Tryz.prog [] 60 (spec_copyClub.sg n) :=
  evalF_ok (C := spec_copyClub.C) ⟨tb_ok, fun n _ _ h => tabOk (l := [(63, (spec_copyInts.sg n)), (83, (spec_copyLoans.sg n))]) (all_cons ⟨spec_copyInts.ok n, spec_copyInts.call⟩ (all_cons ⟨spec_copyLoans.ok n, spec_copyLoans.call⟩ (all_nil))) h, mixed, ar_ok, bld_ok, pts_ok⟩ spec_copyClub.A Tryz.func60 spec_copyClub.ps spec_copyClub.res n
abbrev spec_allIn.ps : List Pm := [.arg (.v (.slice (.int .i64))), .arg (.v (.int .i64)), .arg (.v (.int .i64))]
abbrev spec_allIn.res : List M := [.v .bool]
noncomputable def spec_allIn.C : Cfg := { tb := tb, tab := fun n f => Refl.look [(25, (spec_inRange.sg n))] f, gl := [], ar := ar, bld := bld, pts := pts }
noncomputable def spec_allIn.A : Ann := { joins := [], loops := [(2, { live := [0, 1, 2, 7], base := 22 })], ids := [(4, [(20, [])])], pids := [], nroots := 86 }
noncomputable def spec_allIn (n : Nat) (x : List Int × Int × Int) : Option (Bool) := evalF spec_allIn.C spec_allIn.A Tryz.f49 spec_allIn.ps spec_allIn.res n x
noncomputable def spec_allIn.K0 (_ : Nat) : Kont (Bool) := finK spec_allIn.C (Func.results Tryz.f49).toList spec_allIn.ps spec_allIn.res
noncomputable def spec_allIn.K1 (n : Nat) : Kont (Bool) := seqK (fun s' k => joinE spec_allIn.A.joins (codeAt Tryz.f49 [1, 1]) (fun s'' => evalC spec_allIn.C spec_allIn.A n (codeAt Tryz.f49 [1, 1]) s'' k) s') (spec_allIn.K0 n)
noncomputable def spec_allIn.K2 (n : Nat) : Kont (Bool) := blockK 0 (spec_allIn.K1 n)
noncomputable def spec_allIn.l2 (n m2 : Nat) (x0 : List Int) (x1 x2 x7 : Int) : Option (Bool) := loopE (cutAt spec_allIn.A.loops (codeAt Tryz.f49 [1, 0, 1, 0, 0])) (fun s k => evalC spec_allIn.C spec_allIn.A n (codeAt Tryz.f49 [1, 0, 1, 0, 0]) s k) m2 (St.of 22 86 [(0, .val (.slice (.int .i64)) x0), (1, .val (.int .i64) x1), (2, .val (.int .i64) x2), (7, .val (.int .i64) x7)] [] []) (spec_allIn.K2 n)
theorem spec_allIn.eq (n : Nat) (x0 : List Int) (x1 x2 : Int) : spec_allIn n (x0, x1, x2) = spec_allIn.l2 n n (x0) (x1) (x2) (0) := by kernel_rfl
theorem spec_allIn.l2_zero (n : Nat) (x0 : List Int) (x1 x2 x7 : Int) : spec_allIn.l2 n 0 x0 x1 x2 x7 = none := by kernel_rfl
theorem spec_allIn.l2_succ (n m2 : Nat) (x0 : List Int) (x1 x2 x7 : Int) : spec_allIn.l2 n (m2 + 1) x0 x1 x2 x7 = (if x7 < (↑(List.length x0) : Int) then (if 0 ≤ x7 then (if x7 < (↑(List.length x0) : Int) then ((spec_inRange n (List.getD x0 (Int.toNat x7) 0, x1, x2)).bind fun y0 => (if (!y0) = true then some (Bool.false) else spec_allIn.l2 n m2 (x0) (x1) (x2) (Go.RowKit.wrap64 (x7 + 1)))) else none) else none) else some (Bool.true)) := by kernel_rfl
noncomputable abbrev spec_allIn.sg (n : Nat) : Sig := { params := spec_allIn.ps, res := spec_allIn.res, run := spec_allIn n }
theorem spec_allIn.call : Callable Tryz.prog 49 := ⟨Tryz.f49, Tryz.func49, by kernel_rfl, by kernel_rfl⟩
theorem spec_allIn.ok (n : Nat) : FC Tryz.prog [] 49 (spec_allIn.sg n) :=
  evalF_ok (C := spec_allIn.C) ⟨tb_ok, fun n _ _ h => tabOk (l := [(25, (spec_inRange.sg n))]) (all_cons ⟨spec_inRange.ok n, spec_inRange.call⟩ (all_nil)) h, mixed, ar_ok, bld_ok, pts_ok⟩ spec_allIn.A Tryz.func49 spec_allIn.ps spec_allIn.res n
abbrev spec_validStakes.ps : List Pm := [.arg (.v (.slice (.int .i64)))]
abbrev spec_validStakes.res : List M := [.v .bool]
noncomputable def spec_validStakes.C : Cfg := { tb := tb, tab := fun n f => Refl.look [(25, (spec_inRange.sg n)), (49, (spec_allIn.sg n))] f, gl := [], ar := ar, bld := bld, pts := pts }
noncomputable def spec_validStakes.A : Ann := { joins := [], loops := [], ids := [(1, [(5, []), (8, [])])], pids := [], nroots := 74 }
noncomputable def spec_validStakes (n : Nat) (x : List Int) : Option (Bool) := evalF spec_validStakes.C spec_validStakes.A Tryz.f34 spec_validStakes.ps spec_validStakes.res n x
noncomputable def spec_validStakes.K0 (_ : Nat) : Kont (Bool) := finK spec_validStakes.C (Func.results Tryz.f34).toList spec_validStakes.ps spec_validStakes.res
theorem spec_validStakes.eq (n : Nat) (x0 : List Int) : spec_validStakes n x0 = ((spec_inRange n ((↑(List.length x0) : Int), 1, 12)).bind fun y0 => (if y0 = Bool.true then ((spec_allIn n (x0, 0, 100000)).bind fun y1 => some (y1)) else some (Bool.false))) := by kernel_rfl
noncomputable abbrev spec_validStakes.sg (n : Nat) : Sig := { params := spec_validStakes.ps, res := spec_validStakes.res, run := spec_validStakes n }
theorem spec_validStakes.call : Callable Tryz.prog 34 := ⟨Tryz.f34, Tryz.func34, by kernel_rfl, by kernel_rfl⟩
theorem spec_validStakes.ok (n : Nat) : FC Tryz.prog [] 34 (spec_validStakes.sg n) :=
  evalF_ok (C := spec_validStakes.C) ⟨tb_ok, fun n _ _ h => tabOk (l := [(25, (spec_inRange.sg n)), (49, (spec_allIn.sg n))]) (all_cons ⟨spec_inRange.ok n, spec_inRange.call⟩ (all_cons ⟨spec_allIn.ok n, spec_allIn.call⟩ (all_nil))) h, mixed, ar_ok, bld_ok, pts_ok⟩ spec_validStakes.A Tryz.func34 spec_validStakes.ps spec_validStakes.res n
abbrev spec_split.ps : List Pm := [.arg (.v (.int .i64)), .arg (.v (.int .i64))]
abbrev spec_split.res : List M := [(.own (.int .i64) 3)]
noncomputable def spec_split.C : Cfg := { tb := tb, tab := fun n f => Refl.look [] f, gl := [], ar := ar, bld := bld, pts := pts }
noncomputable def spec_split.A : Ann := { joins := [], loops := [(3, { live := [0, 1, 5, 6], base := 29 })], ids := [(8, [(26, [])])], pids := [], nroots := 93 }
noncomputable def spec_split (n : Nat) (x : Int × Int) : Option (List Int) := evalF spec_split.C spec_split.A Tryz.f87 spec_split.ps spec_split.res n x
noncomputable def spec_split.K0 (_ : Nat) : Kont (List Int) := finK spec_split.C (Func.results Tryz.f87).toList spec_split.ps spec_split.res
noncomputable def spec_split.K1 (n : Nat) : Kont (List Int) := seqK (fun s' k => joinE spec_split.A.joins (codeAt Tryz.f87 [1, 1, 1]) (fun s'' => evalC spec_split.C spec_split.A n (codeAt Tryz.f87 [1, 1, 1]) s'' k) s') (spec_split.K0 n)
noncomputable def spec_split.K2 (n : Nat) : Kont (List Int) := blockK 0 (spec_split.K1 n)
noncomputable def spec_split.l3 (n m3 : Nat) (x0 x1 x6 : Int) (r29 : List Int) : Option (List Int) := loopE (cutAt spec_split.A.loops (codeAt Tryz.f87 [1, 1, 0, 1, 0, 0])) (fun s k => evalC spec_split.C spec_split.A n (codeAt Tryz.f87 [1, 1, 0, 1, 0, 0]) s k) m3 (St.of 29 93 [(0, .val (.int .i64) x0), (1, .val (.int .i64) x1), (5, .own 29), (6, .val (.int .i64) x6)] [(29, .row (.int .i64) 3 r29)] []) (spec_split.K2 n)
theorem spec_split.eq (n : Nat) (x0 x1 : Int) : spec_split n (x0, x1) = spec_split.l3 n n (x0) (x1) (0) (List.replicate 0 0) := by kernel_rfl
theorem spec_split.l3_zero (n : Nat) (x0 x1 x6 : Int) (r29 : List Int) : spec_split.l3 n 0 x0 x1 x6 r29 = none := by kernel_rfl
theorem spec_split.l3_succ (n m3 : Nat) (x0 x1 x6 : Int) (r29 : List Int) : spec_split.l3 n (m3 + 1) x0 x1 x6 r29 = (if x6 < x1 then (if x1 = 0 then none else (if x1 = 0 then none else (if x6 < Int.tmod x0 x1 then (if List.length r29 + List.length (List.set (List.replicate (1 : Nat) (0 : Int)) (0 : Nat) (Go.RowKit.wrap64 (Go.RowKit.wrap64 (Int.tdiv x0 x1) + (1 : Int)))) ≤ Go.Refl.maxN then spec_split.l3 n m3 (x0) (x1) (Go.RowKit.wrap64 (x6 + 1)) (r29 ++ List.set (List.replicate 1 0) 0 (Go.RowKit.wrap64 (Go.RowKit.wrap64 (Int.tdiv x0 x1) + 1))) else none) else (if List.length r29 + List.length (List.set (List.replicate (1 : Nat) (0 : Int)) (0 : Nat) (Go.RowKit.wrap64 (Int.tdiv x0 x1))) ≤ Go.Refl.maxN then spec_split.l3 n m3 (x0) (x1) (Go.RowKit.wrap64 (x6 + 1)) (r29 ++ List.set (List.replicate 1 0) 0 (Go.RowKit.wrap64 (Int.tdiv x0 x1))) else none)))) else some (r29)) := by kernel_rfl
noncomputable abbrev spec_split.sg (n : Nat) : Sig := { params := spec_split.ps, res := spec_split.res, run := spec_split n }
theorem spec_split.call : Callable Tryz.prog 87 := ⟨Tryz.f87, Tryz.func87, by kernel_rfl, by kernel_rfl⟩
theorem spec_split.ok (n : Nat) : FC Tryz.prog [] 87 (spec_split.sg n) :=
  evalF_ok (C := spec_split.C) ⟨tb_ok, fun n _ _ h => tabOk (l := []) (all_nil) h, mixed, ar_ok, bld_ok, pts_ok⟩ spec_split.A Tryz.func87 spec_split.ps spec_split.res n
abbrev spec_exposures.ps : List Pm := [.arg (.v (.slice (.pair (.int .i64) (.pair (.int .i64) (.slice (.int .i64)))))), .arg (.v (.int .i64))]
abbrev spec_exposures.res : List M := [(.own (.int .i64) 3)]
noncomputable def spec_exposures.C : Cfg := { tb := tb, tab := fun n f => Refl.look [(87, (spec_split.sg n))] f, gl := [], ar := ar, bld := bld, pts := pts }
noncomputable def spec_exposures.A : Ann := { joins := [], loops := [(3, { live := [0, 5, 6], base := 62 }), (7, { live := [0, 5, 6, 7, 8], base := 62 })], ids := [], pids := [], nroots := 126 }
noncomputable def spec_exposures (n : Nat) (x : List (Int × Int × List Int) × Int) : Option (List Int) := evalF spec_exposures.C spec_exposures.A Tryz.f105 spec_exposures.ps spec_exposures.res n x
noncomputable def spec_exposures.K0 (_ : Nat) : Kont (List Int) := finK spec_exposures.C (Func.results Tryz.f105).toList spec_exposures.ps spec_exposures.res
noncomputable def spec_exposures.K1 (n : Nat) : Kont (List Int) := seqK (fun s' k => joinE spec_exposures.A.joins (codeAt Tryz.f105 [1, 1, 1]) (fun s'' => evalC spec_exposures.C spec_exposures.A n (codeAt Tryz.f105 [1, 1, 1]) s'' k) s') (spec_exposures.K0 n)
noncomputable def spec_exposures.K2 (n : Nat) : Kont (List Int) := blockK 0 (spec_exposures.K1 n)
noncomputable def spec_exposures.K3 (n m3 : Nat) : Kont (List Int) := loopK (cutAt spec_exposures.A.loops (codeAt Tryz.f105 [1, 1, 0, 1, 0, 0])) (fun s k => evalC spec_exposures.C spec_exposures.A n (codeAt Tryz.f105 [1, 1, 0, 1, 0, 0]) s k) m3 (spec_exposures.K2 n)
noncomputable def spec_exposures.K4 (n m3 : Nat) : Kont (List Int) := seqK (fun s' k => joinE spec_exposures.A.joins (codeAt Tryz.f105 [1, 1, 0, 1, 0, 0, 1, 1]) (fun s'' => evalC spec_exposures.C spec_exposures.A n (codeAt Tryz.f105 [1, 1, 0, 1, 0, 0, 1, 1]) s'' k) s') (spec_exposures.K3 n m3)
noncomputable def spec_exposures.K5 (n m3 : Nat) : Kont (List Int) := blockK 1 (spec_exposures.K4 n m3)
noncomputable def spec_exposures.K6 (n m3 : Nat) : Kont (List Int) := blockK 2 (spec_exposures.K5 n m3)
noncomputable def spec_exposures.l3 (n m3 : Nat) (x0 : List (Int × Int × List Int)) (x6 : Int) (r62 : List Int) : Option (List Int) := loopE (cutAt spec_exposures.A.loops (codeAt Tryz.f105 [1, 1, 0, 1, 0, 0])) (fun s k => evalC spec_exposures.C spec_exposures.A n (codeAt Tryz.f105 [1, 1, 0, 1, 0, 0]) s k) m3 (St.of 62 126 [(0, .val (.slice (.pair (.int .i64) (.pair (.int .i64) (.slice (.int .i64))))) x0), (5, .own 62), (6, .val (.int .i64) x6)] [(62, .row (.int .i64) 3 r62)] []) (spec_exposures.K2 n)
noncomputable def spec_exposures.l7 (n m3 m7 : Nat) (x0 : List (Int × Int × List Int)) (x6 x8 : Int) (r62 r63 : List Int) : Option (List Int) := loopE (cutAt spec_exposures.A.loops (codeAt Tryz.f105 [1, 1, 0, 1, 0, 0, 1, 0, 0, 1, 1, 0, 0])) (fun s k => evalC spec_exposures.C spec_exposures.A n (codeAt Tryz.f105 [1, 1, 0, 1, 0, 0, 1, 0, 0, 1, 1, 0, 0]) s k) m7 (St.of 62 126 [(0, .val (.slice (.pair (.int .i64) (.pair (.int .i64) (.slice (.int .i64))))) x0), (5, .own 62), (6, .val (.int .i64) x6), (7, .own 63), (8, .val (.int .i64) x8)] [(62, .row (.int .i64) 3 r62), (63, .row (.int .i64) 3 r63)] []) (spec_exposures.K6 n m3)
theorem spec_exposures.eq (n : Nat) (x0 : List (Int × Int × List Int)) (x1 : Int) : spec_exposures n (x0, x1) = (if 0 ≤ x1 then (if x1 ≤ x1 then (if x1 ≤ (↑Go.Refl.maxN : Int) then spec_exposures.l3 n n (x0) (0) (List.replicate (Int.toNat x1) 0) else none) else none) else none) := by kernel_rfl
theorem spec_exposures.l3_zero (n : Nat) (x0 : List (Int × Int × List Int)) (x6 : Int) (r62 : List Int) : spec_exposures.l3 n 0 x0 x6 r62 = none := by kernel_rfl
theorem spec_exposures.l3_succ (n m3 : Nat) (x0 : List (Int × Int × List Int)) (x6 : Int) (r62 : List Int) : spec_exposures.l3 n (m3 + 1) x0 x6 r62 = (if x6 < (↑(List.length x0) : Int) then (if 0 ≤ x6 then (if x6 < (↑(List.length x0) : Int) then (if 0 ≤ x6 then (if x6 < (↑(List.length x0) : Int) then ((spec_split n (Prod.fst (Prod.snd (List.getD x0 (Int.toNat x6) (0, 0, []))), (↑(List.length (Prod.snd (Prod.snd (List.getD x0 (Int.toNat x6) ((0 : Int), (0 : Int), []))))) : Int))).bind fun y0 => spec_exposures.l7 n m3 n (x0) (x6) (0) (r62) (y0)) else none) else none) else none) else none) else some (r62)) := by kernel_rfl
theorem spec_exposures.l7_zero (n m3 : Nat) (x0 : List (Int × Int × List Int)) (x6 x8 : Int) (r62 r63 : List Int) : spec_exposures.l7 n m3 0 x0 x6 x8 r62 r63 = none := by kernel_rfl
theorem spec_exposures.l7_succ (n m3 m7 : Nat) (x0 : List (Int × Int × List Int)) (x6 x8 : Int) (r62 r63 : List Int) : spec_exposures.l7 n m3 (m7 + 1) x0 x6 x8 r62 r63 = (if x8 < (↑(List.length r63) : Int) then (if 0 ≤ x6 then (if x6 < (↑(List.length x0) : Int) then (if 0 ≤ x8 then (if x8 < (↑(List.length (Prod.snd (Prod.snd (List.getD x0 (Int.toNat x6) ((0 : Int), (0 : Int), []))))) : Int) then (if 0 ≤ x6 then (if x6 < (↑(List.length x0) : Int) then (if 0 ≤ x8 then (if x8 < (↑(List.length (Prod.snd (Prod.snd (List.getD x0 (Int.toNat x6) ((0 : Int), (0 : Int), []))))) : Int) then (if 0 ≤ List.getD (Prod.snd (Prod.snd (List.getD x0 (Int.toNat x6) (0, 0, [])))) (Int.toNat x8) 0 then (if List.getD (Prod.snd (Prod.snd (List.getD x0 (Int.toNat x6) (0, 0, [])))) (Int.toNat x8) 0 < (↑(List.length r62) : Int) then (if 0 ≤ x8 then (if x8 < (↑(List.length r63) : Int) then (if 0 ≤ List.getD (Prod.snd (Prod.snd (List.getD x0 (Int.toNat x6) (0, 0, [])))) (Int.toNat x8) 0 then (if List.getD (Prod.snd (Prod.snd (List.getD x0 (Int.toNat x6) (0, 0, [])))) (Int.toNat x8) 0 < (↑(List.length r62) : Int) then spec_exposures.l7 n m3 m7 (x0) (x6) (Go.RowKit.wrap64 (x8 + 1)) (List.set r62 (Int.toNat (List.getD (Prod.snd (Prod.snd (List.getD x0 (Int.toNat x6) (0, 0, [])))) (Int.toNat x8) 0)) (Go.RowKit.wrap64 (List.getD r62 (Int.toNat (List.getD (Prod.snd (Prod.snd (List.getD x0 (Int.toNat x6) (0, 0, [])))) (Int.toNat x8) 0)) 0 + List.getD r63 (Int.toNat x8) 0))) (r63) else none) else none) else none) else none) else none) else none) else none) else none) else none) else none) else none) else none) else none) else none) else spec_exposures.l3 n m3 (x0) (Go.RowKit.wrap64 (x6 + 1)) (r62)) := by kernel_rfl
noncomputable abbrev spec_exposures.sg (n : Nat) : Sig := { params := spec_exposures.ps, res := spec_exposures.res, run := spec_exposures n }
theorem spec_exposures.call : Callable Tryz.prog 105 := ⟨Tryz.f105, Tryz.func105, by kernel_rfl, by kernel_rfl⟩
theorem spec_exposures.ok (n : Nat) : FC Tryz.prog [] 105 (spec_exposures.sg n) :=
  evalF_ok (C := spec_exposures.C) ⟨tb_ok, fun n _ _ h => tabOk (l := [(87, (spec_split.sg n))]) (all_cons ⟨spec_split.ok n, spec_split.call⟩ (all_nil)) h, mixed, ar_ok, bld_ok, pts_ok⟩ spec_exposures.A Tryz.func105 spec_exposures.ps spec_exposures.res n
abbrev spec_free.ps : List Pm := [.arg (.v (.slice (.int .i64))), .arg (.v (.slice (.pair (.int .i64) (.pair (.int .i64) (.slice (.int .i64))))))]
abbrev spec_free.res : List M := [(.own (.int .i64) 3)]
noncomputable def spec_free.C : Cfg := { tb := tb, tab := fun n f => Refl.look [(105, (spec_exposures.sg n))] f, gl := [], ar := ar, bld := bld, pts := pts }
noncomputable def spec_free.A : Ann := { joins := [], loops := [(3, { live := [0, 5, 6], base := 30 })], ids := [], pids := [], nroots := 94 }
noncomputable def spec_free (n : Nat) (x : List Int × List (Int × Int × List Int)) : Option (List Int) := evalF spec_free.C spec_free.A Tryz.f98 spec_free.ps spec_free.res n x
noncomputable def spec_free.K0 (_ : Nat) : Kont (List Int) := finK spec_free.C (Func.results Tryz.f98).toList spec_free.ps spec_free.res
noncomputable def spec_free.K1 (n : Nat) : Kont (List Int) := seqK (fun s' k => joinE spec_free.A.joins (codeAt Tryz.f98 [1, 1, 1]) (fun s'' => evalC spec_free.C spec_free.A n (codeAt Tryz.f98 [1, 1, 1]) s'' k) s') (spec_free.K0 n)
noncomputable def spec_free.K2 (n : Nat) : Kont (List Int) := blockK 0 (spec_free.K1 n)
noncomputable def spec_free.l3 (n m3 : Nat) (x0 : List Int) (x6 : Int) (r30 : List Int) : Option (List Int) := loopE (cutAt spec_free.A.loops (codeAt Tryz.f98 [1, 1, 0, 1, 0, 0])) (fun s k => evalC spec_free.C spec_free.A n (codeAt Tryz.f98 [1, 1, 0, 1, 0, 0]) s k) m3 (St.of 30 94 [(0, .val (.slice (.int .i64)) x0), (5, .own 30), (6, .val (.int .i64) x6)] [(30, .row (.int .i64) 3 r30)] []) (spec_free.K2 n)
theorem spec_free.eq (n : Nat) (x0 : List Int) (x1 : List (Int × Int × List Int)) : spec_free n (x0, x1) = ((spec_exposures n (x1, (↑(List.length x0) : Int))).bind fun y0 => spec_free.l3 n n (x0) (0) (y0)) := by kernel_rfl
theorem spec_free.l3_zero (n : Nat) (x0 : List Int) (x6 : Int) (r30 : List Int) : spec_free.l3 n 0 x0 x6 r30 = none := by kernel_rfl
theorem spec_free.l3_succ (n m3 : Nat) (x0 : List Int) (x6 : Int) (r30 : List Int) : spec_free.l3 n (m3 + 1) x0 x6 r30 = (if x6 < (↑(List.length r30) : Int) then (if 0 ≤ x6 then (if x6 < (↑(List.length x0) : Int) then (if 0 ≤ x6 then (if x6 < (↑(List.length r30) : Int) then (if 0 ≤ x6 then (if x6 < (↑(List.length r30) : Int) then spec_free.l3 n m3 (x0) (Go.RowKit.wrap64 (x6 + 1)) (List.set r30 (Int.toNat x6) (Go.RowKit.wrap64 (List.getD x0 (Int.toNat x6) 0 - List.getD r30 (Int.toNat x6) 0))) else none) else none) else none) else none) else none) else none) else some (r30)) := by kernel_rfl
noncomputable abbrev spec_free.sg (n : Nat) : Sig := { params := spec_free.ps, res := spec_free.res, run := spec_free n }
theorem spec_free.call : Callable Tryz.prog 98 := ⟨Tryz.f98, Tryz.func98, by kernel_rfl, by kernel_rfl⟩
theorem spec_free.ok (n : Nat) : FC Tryz.prog [] 98 (spec_free.sg n) :=
  evalF_ok (C := spec_free.C) ⟨tb_ok, fun n _ _ h => tabOk (l := [(105, (spec_exposures.sg n))]) (all_cons ⟨spec_exposures.ok n, spec_exposures.call⟩ (all_nil)) h, mixed, ar_ok, bld_ok, pts_ok⟩ spec_free.A Tryz.func98 spec_free.ps spec_free.res n
abbrev spec_safe.ps : List Pm := [.arg (.v (.slice (.int .i64))), .arg (.v (.slice (.pair (.int .i64) (.pair (.int .i64) (.slice (.int .i64))))))]
abbrev spec_safe.res : List M := [.v .bool]
noncomputable def spec_safe.C : Cfg := { tb := tb, tab := fun n f => Refl.look [(98, (spec_free.sg n)), (49, (spec_allIn.sg n))] f, gl := [], ar := ar, bld := bld, pts := pts }
noncomputable def spec_safe.A : Ann := { joins := [], loops := [], ids := [(1, [(8, [])])], pids := [], nroots := 73 }
noncomputable def spec_safe (n : Nat) (x : List Int × List (Int × Int × List Int)) : Option (Bool) := evalF spec_safe.C spec_safe.A Tryz.f84 spec_safe.ps spec_safe.res n x
noncomputable def spec_safe.K0 (_ : Nat) : Kont (Bool) := finK spec_safe.C (Func.results Tryz.f84).toList spec_safe.ps spec_safe.res
theorem spec_safe.eq (n : Nat) (x0 : List Int) (x1 : List (Int × Int × List Int)) : spec_safe n (x0, x1) = ((spec_free n (x0, x1)).bind fun y0 => ((spec_allIn n (y0, 0, 100000)).bind fun y1 => some (y1))) := by kernel_rfl
noncomputable abbrev spec_safe.sg (n : Nat) : Sig := { params := spec_safe.ps, res := spec_safe.res, run := spec_safe n }
theorem spec_safe.call : Callable Tryz.prog 84 := ⟨Tryz.f84, Tryz.func84, by kernel_rfl, by kernel_rfl⟩
theorem spec_safe.ok (n : Nat) : FC Tryz.prog [] 84 (spec_safe.sg n) :=
  evalF_ok (C := spec_safe.C) ⟨tb_ok, fun n _ _ h => tabOk (l := [(98, (spec_free.sg n)), (49, (spec_allIn.sg n))]) (all_cons ⟨spec_free.ok n, spec_free.call⟩ (all_cons ⟨spec_allIn.ok n, spec_allIn.call⟩ (all_nil))) h, mixed, ar_ok, bld_ok, pts_ok⟩ spec_safe.A Tryz.func84 spec_safe.ps spec_safe.res n
abbrev spec_moveMoney.ps : List Pm := [.arg (.pr (.own (.int .i64) 3) (.pr (.own (.pair (.int .i64) (.pair (.int .i64) (.slice (.int .i64)))) 69) (.v (.pair (.int .i64) (.pair (.int .i64) (.int .i64)))))), .arg (.v (.pair (.int .i64) (.pair (.int .i64) (.pair (.int .i64) (.pair (.int .i64) (.pair (.slice (.int .i64)) (.pair (.int .i64) (.int .i64))))))))]
abbrev spec_moveMoney.res : List M := [(.pr (.own (.int .i64) 3) (.pr (.own (.pair (.int .i64) (.pair (.int .i64) (.slice (.int .i64)))) 69) (.v (.pair (.int .i64) (.pair (.int .i64) (.int .i64)))))), .v .bool]
noncomputable def spec_moveMoney.C : Cfg := { tb := tb, tab := fun n f => Refl.look [(25, (spec_inRange.sg n)), (34, (spec_validStakes.sg n)), (84, (spec_safe.sg n))] f, gl := [], ar := ar, bld := bld, pts := pts }
noncomputable def spec_moveMoney.A : Ann := { joins := [], loops := [], ids := [(1, [(13, []), (18, [])]), (8, [(50, []), (59, [])])], pids := [(0, [118, 119])], nroots := 126 }
noncomputable def spec_moveMoney (n : Nat) (x : (List Int × List (Int × Int × List Int) × Int × Int × Int) × Int × Int × Int × Int × List Int × Int × Int) : Option ((List Int × List (Int × Int × List Int) × Int × Int × Int) × Bool) := evalF spec_moveMoney.C spec_moveMoney.A Tryz.f61 spec_moveMoney.ps spec_moveMoney.res n x
noncomputable def spec_moveMoney.K0 (_ : Nat) : Kont ((List Int × List (Int × Int × List Int) × Int × Int × Int) × Bool) := finK spec_moveMoney.C (Func.results Tryz.f61).toList spec_moveMoney.ps spec_moveMoney.res
theorem spec_moveMoney.eq (n : Nat) (x0 : List Int × List (Int × Int × List Int) × Int × Int × Int) (x1 : Int × Int × Int × Int × List Int × Int × Int) : spec_moveMoney n (x0, x1) = ((spec_inRange n (x1.2.1, 0, Go.RowKit.wrap64 ((↑(List.length x0.1) : Int) - 1))).bind fun y0 => (if (!y0) = Bool.true then some (((x0.1, x0.2.1, x0.2.2.1, x0.2.2.2.1, x0.2.2.2.2), Bool.false)) else ((spec_inRange n (x1.2.2.1, 1, 100000)).bind fun y1 => (if (!y1) = true then some (((x0.1, x0.2.1, x0.2.2.1, x0.2.2.2.1, x0.2.2.2.2), Bool.false)) else (if x1.1 = 2 then (if 0 ≤ x1.2.1 then (if x1.2.1 < (↑(List.length x0.1) : Int) then (if 0 ≤ x1.2.1 then (if x1.2.1 < (↑(List.length x0.1) : Int) then ((spec_validStakes n (List.set x0.1 (Int.toNat x1.2.1) (Go.RowKit.wrap64 (List.getD x0.1 (Int.toNat x1.2.1) 0 + Go.RowKit.wrap64 (0 - x1.2.2.1))))).bind fun y2 => (if y2 = Bool.true then (if Go.RowKit.wrap64 (0 - x1.2.2.1) > 0 then some (((List.set x0.1 (Int.toNat x1.2.1) (Go.RowKit.wrap64 (List.getD x0.1 (Int.toNat x1.2.1) 0 + Go.RowKit.wrap64 (0 - x1.2.2.1))), x0.2.1, Go.RowKit.wrap64 (x0.2.2.1 + Go.RowKit.wrap64 (0 - x1.2.2.1)), x0.2.2.2.1, x0.2.2.2.2), Bool.true)) else ((spec_safe n (List.set x0.1 (Int.toNat x1.2.1) (Go.RowKit.wrap64 (List.getD x0.1 (Int.toNat x1.2.1) 0 + Go.RowKit.wrap64 (0 - x1.2.2.1))), x0.2.1)).bind fun y3 => some (((List.set x0.1 (Int.toNat x1.2.1) (Go.RowKit.wrap64 (List.getD x0.1 (Int.toNat x1.2.1) 0 + Go.RowKit.wrap64 (0 - x1.2.2.1))), x0.2.1, Go.RowKit.wrap64 (x0.2.2.1 + Go.RowKit.wrap64 (0 - x1.2.2.1)), x0.2.2.2.1, x0.2.2.2.2), y3)))) else some (((List.set x0.1 (Int.toNat x1.2.1) (Go.RowKit.wrap64 (List.getD x0.1 (Int.toNat x1.2.1) 0 + Go.RowKit.wrap64 (0 - x1.2.2.1))), x0.2.1, Go.RowKit.wrap64 (x0.2.2.1 + Go.RowKit.wrap64 (0 - x1.2.2.1)), x0.2.2.2.1, x0.2.2.2.2), Bool.false)))) else none) else none) else none) else none) else (if 0 ≤ x1.2.1 then (if x1.2.1 < (↑(List.length x0.1) : Int) then (if 0 ≤ x1.2.1 then (if x1.2.1 < (↑(List.length x0.1) : Int) then ((spec_validStakes n (List.set x0.1 (Int.toNat x1.2.1) (Go.RowKit.wrap64 (List.getD x0.1 (Int.toNat x1.2.1) 0 + x1.2.2.1)))).bind fun y4 => (if y4 = Bool.true then (if x1.2.2.1 > 0 then some (((List.set x0.1 (Int.toNat x1.2.1) (Go.RowKit.wrap64 (List.getD x0.1 (Int.toNat x1.2.1) 0 + x1.2.2.1)), x0.2.1, Go.RowKit.wrap64 (x0.2.2.1 + x1.2.2.1), x0.2.2.2.1, x0.2.2.2.2), Bool.true)) else ((spec_safe n (List.set x0.1 (Int.toNat x1.2.1) (Go.RowKit.wrap64 (List.getD x0.1 (Int.toNat x1.2.1) 0 + x1.2.2.1)), x0.2.1)).bind fun y5 => some (((List.set x0.1 (Int.toNat x1.2.1) (Go.RowKit.wrap64 (List.getD x0.1 (Int.toNat x1.2.1) 0 + x1.2.2.1)), x0.2.1, Go.RowKit.wrap64 (x0.2.2.1 + x1.2.2.1), x0.2.2.2.1, x0.2.2.2.2), y5)))) else some (((List.set x0.1 (Int.toNat x1.2.1) (Go.RowKit.wrap64 (List.getD x0.1 (Int.toNat x1.2.1) 0 + x1.2.2.1)), x0.2.1, Go.RowKit.wrap64 (x0.2.2.1 + x1.2.2.1), x0.2.2.2.1, x0.2.2.2.2), Bool.false)))) else none) else none) else none) else none)))))) := by kernel_rfl
noncomputable abbrev spec_moveMoney.sg (n : Nat) : Sig := { params := spec_moveMoney.ps, res := spec_moveMoney.res, run := spec_moveMoney n }
theorem spec_moveMoney.call : Callable Tryz.prog 61 := ⟨Tryz.f61, Tryz.func61, by kernel_rfl, by kernel_rfl⟩
theorem spec_moveMoney.ok (n : Nat) : FC Tryz.prog [] 61 (spec_moveMoney.sg n) :=
  evalF_ok (C := spec_moveMoney.C) ⟨tb_ok, fun n _ _ h => tabOk (l := [(25, (spec_inRange.sg n)), (34, (spec_validStakes.sg n)), (84, (spec_safe.sg n))]) (all_cons ⟨spec_inRange.ok n, spec_inRange.call⟩ (all_cons ⟨spec_validStakes.ok n, spec_validStakes.call⟩ (all_cons ⟨spec_safe.ok n, spec_safe.call⟩ (all_nil)))) h, mixed, ar_ok, bld_ok, pts_ok⟩ spec_moveMoney.A Tryz.func61 spec_moveMoney.ps spec_moveMoney.res n
abbrev spec_placeIn.ps : List Pm := [.arg (.v (.slice (.int .i64))), .arg (.v (.int .i64))]
abbrev spec_placeIn.res : List M := [.v (.int .i64)]
noncomputable def spec_placeIn.C : Cfg := { tb := tb, tab := fun n f => Refl.look [] f, gl := [], ar := ar, bld := bld, pts := pts }
noncomputable def spec_placeIn.A : Ann := { joins := [], loops := [(2, { live := [0, 1, 5], base := 19 })], ids := [], pids := [], nroots := 83 }
noncomputable def spec_placeIn (n : Nat) (x : List Int × Int) : Option (Int) := evalF spec_placeIn.C spec_placeIn.A Tryz.f51 spec_placeIn.ps spec_placeIn.res n x
noncomputable def spec_placeIn.K0 (_ : Nat) : Kont (Int) := finK spec_placeIn.C (Func.results Tryz.f51).toList spec_placeIn.ps spec_placeIn.res
noncomputable def spec_placeIn.K1 (n : Nat) : Kont (Int) := seqK (fun s' k => joinE spec_placeIn.A.joins (codeAt Tryz.f51 [1, 1]) (fun s'' => evalC spec_placeIn.C spec_placeIn.A n (codeAt Tryz.f51 [1, 1]) s'' k) s') (spec_placeIn.K0 n)
noncomputable def spec_placeIn.K2 (n : Nat) : Kont (Int) := blockK 0 (spec_placeIn.K1 n)
noncomputable def spec_placeIn.l2 (n m2 : Nat) (x0 : List Int) (x1 x5 : Int) : Option (Int) := loopE (cutAt spec_placeIn.A.loops (codeAt Tryz.f51 [1, 0, 1, 0, 0])) (fun s k => evalC spec_placeIn.C spec_placeIn.A n (codeAt Tryz.f51 [1, 0, 1, 0, 0]) s k) m2 (St.of 19 83 [(0, .val (.slice (.int .i64)) x0), (1, .val (.int .i64) x1), (5, .val (.int .i64) x5)] [] []) (spec_placeIn.K2 n)
theorem spec_placeIn.eq (n : Nat) (x0 : List Int) (x1 : Int) : spec_placeIn n (x0, x1) = spec_placeIn.l2 n n (x0) (x1) (0) := by kernel_rfl
theorem spec_placeIn.l2_zero (n : Nat) (x0 : List Int) (x1 x5 : Int) : spec_placeIn.l2 n 0 x0 x1 x5 = none := by kernel_rfl
theorem spec_placeIn.l2_succ (n m2 : Nat) (x0 : List Int) (x1 x5 : Int) : spec_placeIn.l2 n (m2 + 1) x0 x1 x5 = (if x5 < (↑(List.length x0) : Int) then (if 0 ≤ x5 then (if x5 < (↑(List.length x0) : Int) then (if List.getD x0 (Int.toNat x5) 0 = x1 then some (x5) else spec_placeIn.l2 n m2 (x0) (x1) (Go.RowKit.wrap64 (x5 + 1))) else none) else none) else some ((-1))) := by kernel_rfl
noncomputable abbrev spec_placeIn.sg (n : Nat) : Sig := { params := spec_placeIn.ps, res := spec_placeIn.res, run := spec_placeIn n }
theorem spec_placeIn.call : Callable Tryz.prog 51 := ⟨Tryz.f51, Tryz.func51, by kernel_rfl, by kernel_rfl⟩
theorem spec_placeIn.ok (n : Nat) : FC Tryz.prog [] 51 (spec_placeIn.sg n) :=
  evalF_ok (C := spec_placeIn.C) ⟨tb_ok, fun n _ _ h => tabOk (l := []) (all_nil) h, mixed, ar_ok, bld_ok, pts_ok⟩ spec_placeIn.A Tryz.func51 spec_placeIn.ps spec_placeIn.res n
abbrev spec_validMembers.ps : List Pm := [.arg (.v (.slice (.int .i64))), .arg (.v (.int .i64))]
abbrev spec_validMembers.res : List M := [.v .bool]
noncomputable def spec_validMembers.C : Cfg := { tb := tb, tab := fun n f => Refl.look [(25, (spec_inRange.sg n)), (51, (spec_placeIn.sg n))] f, gl := [], ar := ar, bld := bld, pts := pts }
noncomputable def spec_validMembers.A : Ann := { joins := [], loops := [(2, { live := [0, 1, 5], base := 31 })], ids := [(4, [(18, []), (28, [])])], pids := [], nroots := 95 }
noncomputable def spec_validMembers (n : Nat) (x : List Int × Int) : Option (Bool) := evalF spec_validMembers.C spec_validMembers.A Tryz.f50 spec_validMembers.ps spec_validMembers.res n x
noncomputable def spec_validMembers.K0 (_ : Nat) : Kont (Bool) := finK spec_validMembers.C (Func.results Tryz.f50).toList spec_validMembers.ps spec_validMembers.res
noncomputable def spec_validMembers.K1 (n : Nat) : Kont (Bool) := seqK (fun s' k => joinE spec_validMembers.A.joins (codeAt Tryz.f50 [1, 1]) (fun s'' => evalC spec_validMembers.C spec_validMembers.A n (codeAt Tryz.f50 [1, 1]) s'' k) s') (spec_validMembers.K0 n)
noncomputable def spec_validMembers.K2 (n : Nat) : Kont (Bool) := blockK 0 (spec_validMembers.K1 n)
noncomputable def spec_validMembers.l2 (n m2 : Nat) (x0 : List Int) (x1 x5 : Int) : Option (Bool) := loopE (cutAt spec_validMembers.A.loops (codeAt Tryz.f50 [1, 0, 1, 0, 0])) (fun s k => evalC spec_validMembers.C spec_validMembers.A n (codeAt Tryz.f50 [1, 0, 1, 0, 0]) s k) m2 (St.of 31 95 [(0, .val (.slice (.int .i64)) x0), (1, .val (.int .i64) x1), (5, .val (.int .i64) x5)] [] []) (spec_validMembers.K2 n)
theorem spec_validMembers.eq (n : Nat) (x0 : List Int) (x1 : Int) : spec_validMembers n (x0, x1) = spec_validMembers.l2 n n (x0) (x1) (0) := by kernel_rfl
theorem spec_validMembers.l2_zero (n : Nat) (x0 : List Int) (x1 x5 : Int) : spec_validMembers.l2 n 0 x0 x1 x5 = none := by kernel_rfl
theorem spec_validMembers.l2_succ (n m2 : Nat) (x0 : List Int) (x1 x5 : Int) : spec_validMembers.l2 n (m2 + 1) x0 x1 x5 = (if x5 < (↑(List.length x0) : Int) then (if 0 ≤ x5 then (if x5 < (↑(List.length x0) : Int) then ((spec_inRange n (List.getD x0 (Int.toNat x5) 0, 0, Go.RowKit.wrap64 (x1 - 1))).bind fun y0 => (if (!y0) = Bool.true then some (Bool.false) else (if 0 ≤ x5 then (if x5 ≤ (↑(List.length x0) : Int) then (if 0 ≤ x5 then (if x5 < (↑(List.length x0) : Int) then ((spec_placeIn n (List.take (Int.toNat x5) x0, List.getD x0 (Int.toNat x5) 0)).bind fun y1 => (if y1 ≥ 0 then some (Bool.false) else spec_validMembers.l2 n m2 (x0) (x1) (Go.RowKit.wrap64 (x5 + 1)))) else none) else none) else none) else none))) else none) else none) else some (Bool.true)) := by kernel_rfl
noncomputable abbrev spec_validMembers.sg (n : Nat) : Sig := { params := spec_validMembers.ps, res := spec_validMembers.res, run := spec_validMembers n }
theorem spec_validMembers.call : Callable Tryz.prog 50 := ⟨Tryz.f50, Tryz.func50, by kernel_rfl, by kernel_rfl⟩
theorem spec_validMembers.ok (n : Nat) : FC Tryz.prog [] 50 (spec_validMembers.sg n) :=
  evalF_ok (C := spec_validMembers.C) ⟨tb_ok, fun n _ _ h => tabOk (l := [(25, (spec_inRange.sg n)), (51, (spec_placeIn.sg n))]) (all_cons ⟨spec_inRange.ok n, spec_inRange.call⟩ (all_cons ⟨spec_placeIn.ok n, spec_placeIn.call⟩ (all_nil))) h, mixed, ar_ok, bld_ok, pts_ok⟩ spec_validMembers.A Tryz.func50 spec_validMembers.ps spec_validMembers.res n
abbrev spec_validLoans.ps : List Pm := [.arg (.v (.slice (.pair (.int .i64) (.pair (.int .i64) (.slice (.int .i64)))))), .arg (.v (.int .i64))]
abbrev spec_validLoans.res : List M := [.v .bool]
noncomputable def spec_validLoans.C : Cfg := { tb := tb, tab := fun n f => Refl.look [(25, (spec_inRange.sg n)), (50, (spec_validMembers.sg n)), (51, (spec_placeIn.sg n))] f, gl := [], ar := ar, bld := bld, pts := pts }
noncomputable def spec_validLoans.A : Ann := { joins := [], loops := [(2, { live := [0, 1, 5], base := 57 })], ids := [(5, [(21, []), (26, []), (39, []), (47, [])]), (7, [(55, [])])], pids := [], nroots := 121 }
noncomputable def spec_validLoans (n : Nat) (x : List (Int × Int × List Int) × Int) : Option (Bool) := evalF spec_validLoans.C spec_validLoans.A Tryz.f35 spec_validLoans.ps spec_validLoans.res n x
noncomputable def spec_validLoans.K0 (_ : Nat) : Kont (Bool) := finK spec_validLoans.C (Func.results Tryz.f35).toList spec_validLoans.ps spec_validLoans.res
noncomputable def spec_validLoans.K1 (n : Nat) : Kont (Bool) := seqK (fun s' k => joinE spec_validLoans.A.joins (codeAt Tryz.f35 [1, 1]) (fun s'' => evalC spec_validLoans.C spec_validLoans.A n (codeAt Tryz.f35 [1, 1]) s'' k) s') (spec_validLoans.K0 n)
noncomputable def spec_validLoans.K2 (n : Nat) : Kont (Bool) := blockK 0 (spec_validLoans.K1 n)
noncomputable def spec_validLoans.l2 (n m2 : Nat) (x0 : List (Int × Int × List Int)) (x1 x5 : Int) : Option (Bool) := loopE (cutAt spec_validLoans.A.loops (codeAt Tryz.f35 [1, 0, 1, 0, 0])) (fun s k => evalC spec_validLoans.C spec_validLoans.A n (codeAt Tryz.f35 [1, 0, 1, 0, 0]) s k) m2 (St.of 57 121 [(0, .val (.slice (.pair (.int .i64) (.pair (.int .i64) (.slice (.int .i64))))) x0), (1, .val (.int .i64) x1), (5, .val (.int .i64) x5)] [] []) (spec_validLoans.K2 n)
theorem spec_validLoans.eq (n : Nat) (x0 : List (Int × Int × List Int)) (x1 : Int) : spec_validLoans n (x0, x1) = spec_validLoans.l2 n n (x0) (x1) (0) := by kernel_rfl
theorem spec_validLoans.l2_zero (n : Nat) (x0 : List (Int × Int × List Int)) (x1 x5 : Int) : spec_validLoans.l2 n 0 x0 x1 x5 = none := by kernel_rfl
theorem spec_validLoans.l2_succ (n m2 : Nat) (x0 : List (Int × Int × List Int)) (x1 x5 : Int) : spec_validLoans.l2 n (m2 + 1) x0 x1 x5 = (if x5 < (↑(List.length x0) : Int) then (if 0 ≤ x5 then (if x5 < (↑(List.length x0) : Int) then ((spec_inRange n (Prod.fst (List.getD x0 (Int.toNat x5) (0, 0, [])), 0, Go.RowKit.wrap64 (x1 - 1))).bind fun y0 => (if (!y0) = Bool.true then some (Bool.false) else ((spec_inRange n (Prod.fst (Prod.snd (List.getD x0 (Int.toNat x5) (0, 0, []))), 1, 100000)).bind fun y1 => (if (!y1) = Bool.true then some (Bool.false) else (if (↑(List.length (Prod.snd (Prod.snd (List.getD x0 (Int.toNat x5) ((0 : Int), (0 : Int), []))))) : Int) = 0 then some (Bool.false) else ((spec_validMembers n (Prod.snd (Prod.snd (List.getD x0 (Int.toNat x5) (0, 0, []))), x1)).bind fun y2 => (if (!y2) = Bool.true then some (Bool.false) else ((spec_placeIn n (Prod.snd (Prod.snd (List.getD x0 (Int.toNat x5) (0, 0, []))), Prod.fst (List.getD x0 (Int.toNat x5) (0, 0, [])))).bind fun y3 => (if y3 ≥ 0 then some (Bool.false) else spec_validLoans.l2 n m2 (x0) (x1) (Go.RowKit.wrap64 (x5 + 1))))))))))) else none) else none) else (if (↑(List.length x0) : Int) ≤ 16 then ((spec_inRange n (x1, 1, 12)).bind fun y4 => some (y4)) else some (Bool.false))) := by kernel_rfl
noncomputable abbrev spec_validLoans.sg (n : Nat) : Sig := { params := spec_validLoans.ps, res := spec_validLoans.res, run := spec_validLoans n }
theorem spec_validLoans.call : Callable Tryz.prog 35 := ⟨Tryz.f35, Tryz.func35, by kernel_rfl, by kernel_rfl⟩
theorem spec_validLoans.ok (n : Nat) : FC Tryz.prog [] 35 (spec_validLoans.sg n) :=
  evalF_ok (C := spec_validLoans.C) ⟨tb_ok, fun n _ _ h => tabOk (l := [(25, (spec_inRange.sg n)), (50, (spec_validMembers.sg n)), (51, (spec_placeIn.sg n))]) (all_cons ⟨spec_inRange.ok n, spec_inRange.call⟩ (all_cons ⟨spec_validMembers.ok n, spec_validMembers.call⟩ (all_cons ⟨spec_placeIn.ok n, spec_placeIn.call⟩ (all_nil)))) h, mixed, ar_ok, bld_ok, pts_ok⟩ spec_validLoans.A Tryz.func35 spec_validLoans.ps spec_validLoans.res n
abbrev spec_lend.ps : List Pm := [.arg (.pr (.own (.int .i64) 3) (.pr (.own (.pair (.int .i64) (.pair (.int .i64) (.slice (.int .i64)))) 69) (.v (.pair (.int .i64) (.pair (.int .i64) (.int .i64)))))), .arg (.v (.pair (.int .i64) (.pair (.int .i64) (.slice (.int .i64)))))]
abbrev spec_lend.res : List M := [(.pr (.own (.int .i64) 3) (.pr (.own (.pair (.int .i64) (.pair (.int .i64) (.slice (.int .i64)))) 69) (.v (.pair (.int .i64) (.pair (.int .i64) (.int .i64)))))), .v .bool]
noncomputable def spec_lend.C : Cfg := { tb := tb, tab := fun n f => Refl.look [(35, (spec_validLoans.sg n)), (84, (spec_safe.sg n))] f, gl := [], ar := ar, bld := bld, pts := pts }
noncomputable def spec_lend.A : Ann := { joins := [], loops := [], ids := [(1, [(9, [])]), (2, [(17, []), (24, [])])], pids := [(0, [91, 92])], nroots := 99 }
noncomputable def spec_lend (n : Nat) (x : (List Int × List (Int × Int × List Int) × Int × Int × Int) × Int × Int × List Int) : Option ((List Int × List (Int × Int × List Int) × Int × Int × Int) × Bool) := evalF spec_lend.C spec_lend.A Tryz.f62 spec_lend.ps spec_lend.res n x
noncomputable def spec_lend.K0 (_ : Nat) : Kont ((List Int × List (Int × Int × List Int) × Int × Int × Int) × Bool) := finK spec_lend.C (Func.results Tryz.f62).toList spec_lend.ps spec_lend.res
theorem spec_lend.eq (n : Nat) (x0 : List Int × List (Int × Int × List Int) × Int × Int × Int) (x1 : Int × Int × List Int) : spec_lend n (x0, x1) = (if List.length x0.2.1 + List.length (List.set (List.replicate (1 : Nat) ((0 : Int), (0 : Int), [])) (0 : Nat) (x1.1, x1.2.1, x1.2.2)) ≤ Go.Refl.maxN then ((spec_validLoans n (x0.2.1 ++ List.set (List.replicate 1 (0, 0, [])) 0 (x1.1, x1.2.1, x1.2.2), (↑(List.length x0.1) : Int))).bind fun y0 => (if (!y0) = Bool.true then some (((x0.1, x0.2.1 ++ List.set (List.replicate 1 (0, 0, [])) 0 (x1.1, x1.2.1, x1.2.2), x0.2.2.1, x0.2.2.2.1, x0.2.2.2.2), Bool.false)) else ((spec_safe n (x0.1, x0.2.1 ++ List.set (List.replicate 1 (0, 0, [])) 0 (x1.1, x1.2.1, x1.2.2))).bind fun y1 => (if (!y1) = true then some (((x0.1, x0.2.1 ++ List.set (List.replicate 1 (0, 0, [])) 0 (x1.1, x1.2.1, x1.2.2), x0.2.2.1, x0.2.2.2.1, x0.2.2.2.2), Bool.false)) else some (((x0.1, x0.2.1 ++ List.set (List.replicate 1 (0, 0, [])) 0 (x1.1, x1.2.1, x1.2.2), Go.RowKit.wrap64 (x0.2.2.1 - x1.2.1), x0.2.2.2.1, x0.2.2.2.2), Bool.true)))))) else none) := by kernel_rfl
noncomputable abbrev spec_lend.sg (n : Nat) : Sig := { params := spec_lend.ps, res := spec_lend.res, run := spec_lend n }
theorem spec_lend.call : Callable Tryz.prog 62 := ⟨Tryz.f62, Tryz.func62, by kernel_rfl, by kernel_rfl⟩
theorem spec_lend.ok (n : Nat) : FC Tryz.prog [] 62 (spec_lend.sg n) :=
  evalF_ok (C := spec_lend.C) ⟨tb_ok, fun n _ _ h => tabOk (l := [(35, (spec_validLoans.sg n)), (84, (spec_safe.sg n))]) (all_cons ⟨spec_validLoans.ok n, spec_validLoans.call⟩ (all_cons ⟨spec_safe.ok n, spec_safe.call⟩ (all_nil))) h, mixed, ar_ok, bld_ok, pts_ok⟩ spec_lend.A Tryz.func62 spec_lend.ps spec_lend.res n
abbrev spec_repay.ps : List Pm := [.arg (.pr (.own (.int .i64) 3) (.pr (.own (.pair (.int .i64) (.pair (.int .i64) (.slice (.int .i64)))) 69) (.v (.pair (.int .i64) (.pair (.int .i64) (.int .i64)))))), .arg (.v (.pair (.int .i64) (.pair (.int .i64) (.pair (.int .i64) (.pair (.int .i64) (.pair (.slice (.int .i64)) (.pair (.int .i64) (.int .i64))))))))]
abbrev spec_repay.res : List M := [(.pr (.own (.int .i64) 3) (.pr (.own (.pair (.int .i64) (.pair (.int .i64) (.slice (.int .i64)))) 69) (.v (.pair (.int .i64) (.pair (.int .i64) (.int .i64)))))), .v .bool]
noncomputable def spec_repay.C : Cfg := { tb := tb, tab := fun n f => Refl.look [(25, (spec_inRange.sg n))] f, gl := [], ar := ar, bld := bld, pts := pts }
noncomputable def spec_repay.A : Ann := { joins := [], loops := [], ids := [(1, [(12, []), (24, []), (30, [])])], pids := [(0, [143, 144])], nroots := 151 }
noncomputable def spec_repay (n : Nat) (x : (List Int × List (Int × Int × List Int) × Int × Int × Int) × Int × Int × Int × Int × List Int × Int × Int) : Option ((List Int × List (Int × Int × List Int) × Int × Int × Int) × Bool) := evalF spec_repay.C spec_repay.A Tryz.f64 spec_repay.ps spec_repay.res n x
noncomputable def spec_repay.K0 (_ : Nat) : Kont ((List Int × List (Int × Int × List Int) × Int × Int × Int) × Bool) := finK spec_repay.C (Func.results Tryz.f64).toList spec_repay.ps spec_repay.res
theorem spec_repay.eq (n : Nat) (x0 : List Int × List (Int × Int × List Int) × Int × Int × Int) (x1 : Int × Int × Int × Int × List Int × Int × Int) : spec_repay n (x0, x1) = ((spec_inRange n (x1.2.1, 0, Go.RowKit.wrap64 ((↑(List.length x0.2.1) : Int) - 1))).bind fun y0 => (if (!y0) = Bool.true then some (((x0.1, x0.2.1, x0.2.2.1, x0.2.2.2.1, x0.2.2.2.2), Bool.false)) else (if 0 ≤ x1.2.1 then (if x1.2.1 < (↑(List.length x0.2.1) : Int) then ((spec_inRange n (x1.2.2.1, 1, Prod.fst (Prod.snd (List.getD x0.2.1 (Int.toNat x1.2.1) (0, 0, []))))).bind fun y1 => (if (!y1) = Bool.true then some (((x0.1, x0.2.1, x0.2.2.1, x0.2.2.2.1, x0.2.2.2.2), Bool.false)) else ((spec_inRange n (x1.2.2.2.1, 0, 100000)).bind fun y2 => (if (!y2) = true then some (((x0.1, x0.2.1, x0.2.2.1, x0.2.2.2.1, x0.2.2.2.2), Bool.false)) else (if 0 ≤ x1.2.1 then (if x1.2.1 < (↑(List.length x0.2.1) : Int) then (if 0 ≤ x1.2.1 then (if x1.2.1 < (↑(List.length x0.2.1) : Int) then (if 0 ≤ x1.2.1 then (if x1.2.1 < (↑(List.length (List.set x0.2.1 (Int.toNat x1.2.1) (Prod.fst (List.getD x0.2.1 (Int.toNat x1.2.1) ((0 : Int), (0 : Int), [])), Go.RowKit.wrap64 (Prod.fst (Prod.snd (List.getD x0.2.1 (Int.toNat x1.2.1) ((0 : Int), (0 : Int), []))) - x1.2.2.1), Prod.snd (Prod.snd (List.getD x0.2.1 (Int.toNat x1.2.1) ((0 : Int), (0 : Int), [])))))) : Int) then (if Prod.fst (Prod.snd (List.getD (List.set x0.2.1 (Int.toNat x1.2.1) (Prod.fst (List.getD x0.2.1 (Int.toNat x1.2.1) (0, 0, [])), Go.RowKit.wrap64 (Prod.fst (Prod.snd (List.getD x0.2.1 (Int.toNat x1.2.1) (0, 0, []))) - x1.2.2.1), Prod.snd (Prod.snd (List.getD x0.2.1 (Int.toNat x1.2.1) (0, 0, []))))) (Int.toNat x1.2.1) (0, 0, []))) = 0 then (if 0 ≤ x1.2.1 then (if x1.2.1 ≤ (↑(List.length (List.set x0.2.1 (Int.toNat x1.2.1) (Prod.fst (List.getD x0.2.1 (Int.toNat x1.2.1) ((0 : Int), (0 : Int), [])), Go.RowKit.wrap64 (Prod.fst (Prod.snd (List.getD x0.2.1 (Int.toNat x1.2.1) ((0 : Int), (0 : Int), []))) - x1.2.2.1), Prod.snd (Prod.snd (List.getD x0.2.1 (Int.toNat x1.2.1) ((0 : Int), (0 : Int), [])))))) : Int) then (if 0 ≤ Go.RowKit.wrap64 (x1.2.1 + 1) then (if Go.RowKit.wrap64 (x1.2.1 + 1) ≤ (↑(List.length (List.set x0.2.1 (Int.toNat x1.2.1) (Prod.fst (List.getD x0.2.1 (Int.toNat x1.2.1) ((0 : Int), (0 : Int), [])), Go.RowKit.wrap64 (Prod.fst (Prod.snd (List.getD x0.2.1 (Int.toNat x1.2.1) ((0 : Int), (0 : Int), []))) - x1.2.2.1), Prod.snd (Prod.snd (List.getD x0.2.1 (Int.toNat x1.2.1) ((0 : Int), (0 : Int), [])))))) : Int) then (if Int.toNat x1.2.1 - 0 + List.length (List.take (List.length (List.set x0.2.1 (Int.toNat x1.2.1) (Prod.fst (List.getD x0.2.1 (Int.toNat x1.2.1) ((0 : Int), (0 : Int), [])), Go.RowKit.wrap64 (Prod.fst (Prod.snd (List.getD x0.2.1 (Int.toNat x1.2.1) ((0 : Int), (0 : Int), []))) - x1.2.2.1), Prod.snd (Prod.snd (List.getD x0.2.1 (Int.toNat x1.2.1) ((0 : Int), (0 : Int), []))))) - Int.toNat (Go.RowKit.wrap64 (x1.2.1 + (1 : Int)))) (List.drop (Int.toNat (Go.RowKit.wrap64 (x1.2.1 + (1 : Int)))) (List.set x0.2.1 (Int.toNat x1.2.1) (Prod.fst (List.getD x0.2.1 (Int.toNat x1.2.1) ((0 : Int), (0 : Int), [])), Go.RowKit.wrap64 (Prod.fst (Prod.snd (List.getD x0.2.1 (Int.toNat x1.2.1) ((0 : Int), (0 : Int), []))) - x1.2.2.1), Prod.snd (Prod.snd (List.getD x0.2.1 (Int.toNat x1.2.1) ((0 : Int), (0 : Int), []))))))) ≤ Go.Refl.maxN then some (((x0.1, List.take (Int.toNat x1.2.1 - 0) (List.set x0.2.1 (Int.toNat x1.2.1) (Prod.fst (List.getD x0.2.1 (Int.toNat x1.2.1) (0, 0, [])), Go.RowKit.wrap64 (Prod.fst (Prod.snd (List.getD x0.2.1 (Int.toNat x1.2.1) (0, 0, []))) - x1.2.2.1), Prod.snd (Prod.snd (List.getD x0.2.1 (Int.toNat x1.2.1) (0, 0, []))))) ++ List.take (List.length (List.set x0.2.1 (Int.toNat x1.2.1) (Prod.fst (List.getD x0.2.1 (Int.toNat x1.2.1) ((0 : Int), (0 : Int), [])), Go.RowKit.wrap64 (Prod.fst (Prod.snd (List.getD x0.2.1 (Int.toNat x1.2.1) ((0 : Int), (0 : Int), []))) - x1.2.2.1), Prod.snd (Prod.snd (List.getD x0.2.1 (Int.toNat x1.2.1) ((0 : Int), (0 : Int), []))))) - Int.toNat (Go.RowKit.wrap64 (x1.2.1 + 1))) (List.drop (Int.toNat (Go.RowKit.wrap64 (x1.2.1 + 1))) (List.set x0.2.1 (Int.toNat x1.2.1) (Prod.fst (List.getD x0.2.1 (Int.toNat x1.2.1) (0, 0, [])), Go.RowKit.wrap64 (Prod.fst (Prod.snd (List.getD x0.2.1 (Int.toNat x1.2.1) (0, 0, []))) - x1.2.2.1), Prod.snd (Prod.snd (List.getD x0.2.1 (Int.toNat x1.2.1) (0, 0, [])))))), Go.RowKit.wrap64 (Go.RowKit.wrap64 (x0.2.2.1 + x1.2.2.1) + x1.2.2.2.1), Go.RowKit.wrap64 (x0.2.2.2.1 + x1.2.2.2.1), x0.2.2.2.2), Bool.true)) else none) else none) else none) else none) else none) else some (((x0.1, List.set x0.2.1 (Int.toNat x1.2.1) (Prod.fst (List.getD x0.2.1 (Int.toNat x1.2.1) (0, 0, [])), Go.RowKit.wrap64 (Prod.fst (Prod.snd (List.getD x0.2.1 (Int.toNat x1.2.1) (0, 0, []))) - x1.2.2.1), Prod.snd (Prod.snd (List.getD x0.2.1 (Int.toNat x1.2.1) (0, 0, [])))), Go.RowKit.wrap64 (Go.RowKit.wrap64 (x0.2.2.1 + x1.2.2.1) + x1.2.2.2.1), Go.RowKit.wrap64 (x0.2.2.2.1 + x1.2.2.2.1), x0.2.2.2.2), Bool.true))) else none) else none) else none) else none) else none) else none))))) else none) else none))) := by kernel_rfl
noncomputable abbrev spec_repay.sg (n : Nat) : Sig := { params := spec_repay.ps, res := spec_repay.res, run := spec_repay n }
theorem spec_repay.call : Callable Tryz.prog 64 := ⟨Tryz.f64, Tryz.func64, by kernel_rfl, by kernel_rfl⟩
theorem spec_repay.ok (n : Nat) : FC Tryz.prog [] 64 (spec_repay.sg n) :=
  evalF_ok (C := spec_repay.C) ⟨tb_ok, fun n _ _ h => tabOk (l := [(25, (spec_inRange.sg n))]) (all_cons ⟨spec_inRange.ok n, spec_inRange.call⟩ (all_nil)) h, mixed, ar_ok, bld_ok, pts_ok⟩ spec_repay.A Tryz.func64 spec_repay.ps spec_repay.res n
abbrev spec_fail.ps : List Pm := [.arg (.v (.slice (.int .i64))), .arg (.v (.pair (.int .i64) (.pair (.int .i64) (.slice (.int .i64)))))]
abbrev spec_fail.res : List M := [(.own (.int .i64) 3), .v (.int .i64), (.own (.int .i64) 3)]
noncomputable def spec_fail.C : Cfg := { tb := tb, tab := fun n f => Refl.look [(63, (spec_copyInts.sg n)), (87, (spec_split.sg n))] f, gl := [], ar := ar, bld := bld, pts := pts }
noncomputable def spec_fail.A : Ann := { joins := [], loops := [(8, { live := [3, 7, 8, 10, 11, 12], base := 95 })], ids := [(15, [(90, [])])], pids := [], nroots := 159 }
noncomputable def spec_fail (n : Nat) (x : List Int × Int × Int × List Int) : Option (List Int × Int × List Int) := evalF spec_fail.C spec_fail.A Tryz.f99 spec_fail.ps spec_fail.res n x
noncomputable def spec_fail.K0 (_ : Nat) : Kont (List Int × Int × List Int) := finK spec_fail.C (Func.results Tryz.f99).toList spec_fail.ps spec_fail.res
noncomputable def spec_fail.K1 (n : Nat) : Kont (List Int × Int × List Int) := seqK (fun s' k => joinE spec_fail.A.joins (codeAt Tryz.f99 [1, 1, 1, 1, 1, 1, 1, 1]) (fun s'' => evalC spec_fail.C spec_fail.A n (codeAt Tryz.f99 [1, 1, 1, 1, 1, 1, 1, 1]) s'' k) s') (spec_fail.K0 n)
noncomputable def spec_fail.K2 (n : Nat) : Kont (List Int × Int × List Int) := blockK 0 (spec_fail.K1 n)
noncomputable def spec_fail.l8 (n m8 : Nat) (x11 x12 : Int) (r95_0 r95_1 : Int) (r95_2 r96 : List Int) (r97 r98 : List Int) : Option (List Int × Int × List Int) := loopE (cutAt spec_fail.A.loops (codeAt Tryz.f99 [1, 1, 1, 1, 1, 1, 1, 0, 1, 0, 0])) (fun s k => evalC spec_fail.C spec_fail.A n (codeAt Tryz.f99 [1, 1, 1, 1, 1, 1, 1, 0, 1, 0, 0]) s k) m8 (St.of 95 159 [(3, .ptr 95 0 0), (7, .own 96), (8, .own 97), (10, .own 98), (11, .val (.int .i64) x11), (12, .val (.int .i64) x12)] [(95, .box 69 [.val (.int .i64) r95_0, .val (.int .i64) r95_1, .val (.slice (.int .i64)) r95_2]), (96, .row (.int .i64) 3 r96), (97, .row (.int .i64) 3 r97), (98, .row (.int .i64) 3 r98)] []) (spec_fail.K2 n)
theorem spec_fail.eq (n : Nat) (x0 : List Int) (x1 : Int × Int × List Int) : spec_fail n (x0, x1) = ((spec_copyInts n x0).bind fun y0 => (if 0 ≤ x1.1 then (if x1.1 < (↑(List.length y0) : Int) then (if 0 ≤ x1.1 then (if x1.1 < (↑(List.length y0) : Int) then (if 0 ≤ x1.1 then (if x1.1 < (↑(List.length y0) : Int) then ((spec_split n (Go.RowKit.wrap64 (x1.2.1 - Go.Refl.mn (List.getD y0 (Int.toNat x1.1) 0) x1.2.1), (↑(List.length x1.2.2) : Int))).bind fun y1 => spec_fail.l8 n n (0) (0) x1.1 x1.2.1 x1.2.2 (List.set y0 (Int.toNat x1.1) (Go.RowKit.wrap64 (List.getD y0 (Int.toNat x1.1) 0 - Go.Refl.mn (List.getD y0 (Int.toNat x1.1) 0) x1.2.1))) (List.replicate 0 0) (y1)) else none) else none) else none) else none) else none) else none)) := by kernel_rfl
theorem spec_fail.l8_zero (n : Nat) (x11 x12 : Int) (r95_0 r95_1 : Int) (r95_2 r96 : List Int) (r97 r98 : List Int) : spec_fail.l8 n 0 x11 x12 r95_0 r95_1 r95_2 r96 r97 r98 = none := by kernel_rfl
theorem spec_fail.l8_succ (n m8 : Nat) (x11 x12 : Int) (r95_0 r95_1 : Int) (r95_2 r96 : List Int) (r97 r98 : List Int) : spec_fail.l8 n (m8 + 1) x11 x12 r95_0 r95_1 r95_2 r96 r97 r98 = (if x12 < (↑(List.length r98) : Int) then (if 0 ≤ x12 then (if x12 < (↑(List.length r95_2) : Int) then (if 0 ≤ List.getD r95_2 (Int.toNat x12) 0 then (if List.getD r95_2 (Int.toNat x12) 0 < (↑(List.length r96) : Int) then (if 0 ≤ x12 then (if x12 < (↑(List.length r98) : Int) then (if 0 ≤ List.getD r95_2 (Int.toNat x12) 0 then (if List.getD r95_2 (Int.toNat x12) 0 < (↑(List.length r96) : Int) then (if 0 ≤ List.getD r95_2 (Int.toNat x12) 0 then (if List.getD r95_2 (Int.toNat x12) 0 < (↑(List.length r96) : Int) then (if 0 ≤ x12 then (if x12 < (↑(List.length r98) : Int) then (if 0 ≤ x12 then (if x12 < (↑(List.length r98) : Int) then (if Go.Refl.mn (List.getD r96 (Int.toNat (List.getD r95_2 (Int.toNat x12) 0)) 0) (List.getD r98 (Int.toNat x12) 0) < List.getD r98 (Int.toNat x12) 0 then (if List.length r97 + List.length (List.set (List.replicate (1 : Nat) (0 : Int)) (0 : Nat) (List.getD r95_2 (Int.toNat x12) (0 : Int))) ≤ Go.Refl.maxN then spec_fail.l8 n m8 (Go.RowKit.wrap64 (Go.RowKit.wrap64 (x11 + List.getD r98 (Int.toNat x12) 0) - Go.Refl.mn (List.getD r96 (Int.toNat (List.getD r95_2 (Int.toNat x12) 0)) 0) (List.getD r98 (Int.toNat x12) 0))) (Go.RowKit.wrap64 (x12 + 1)) (r95_0) (r95_1) (r95_2) (List.set r96 (Int.toNat (List.getD r95_2 (Int.toNat x12) 0)) (Go.RowKit.wrap64 (List.getD r96 (Int.toNat (List.getD r95_2 (Int.toNat x12) 0)) 0 - Go.Refl.mn (List.getD r96 (Int.toNat (List.getD r95_2 (Int.toNat x12) 0)) 0) (List.getD r98 (Int.toNat x12) 0)))) (r97 ++ List.set (List.replicate 1 0) 0 (List.getD r95_2 (Int.toNat x12) 0)) (r98) else none) else spec_fail.l8 n m8 (Go.RowKit.wrap64 (Go.RowKit.wrap64 (x11 + List.getD r98 (Int.toNat x12) 0) - Go.Refl.mn (List.getD r96 (Int.toNat (List.getD r95_2 (Int.toNat x12) 0)) 0) (List.getD r98 (Int.toNat x12) 0))) (Go.RowKit.wrap64 (x12 + 1)) (r95_0) (r95_1) (r95_2) (List.set r96 (Int.toNat (List.getD r95_2 (Int.toNat x12) 0)) (Go.RowKit.wrap64 (List.getD r96 (Int.toNat (List.getD r95_2 (Int.toNat x12) 0)) 0 - Go.Refl.mn (List.getD r96 (Int.toNat (List.getD r95_2 (Int.toNat x12) 0)) 0) (List.getD r98 (Int.toNat x12) 0)))) (r97) (r98)) else none) else none) else none) else none) else none) else none) else none) else none) else none) else none) else none) else none) else none) else none) else some ((r96, x11, r97))) := by kernel_rfl
noncomputable abbrev spec_fail.sg (n : Nat) : Sig := { params := spec_fail.ps, res := spec_fail.res, run := spec_fail n }
theorem spec_fail.call : Callable Tryz.prog 99 := ⟨Tryz.f99, Tryz.func99, by kernel_rfl, by kernel_rfl⟩
theorem spec_fail.ok (n : Nat) : FC Tryz.prog [] 99 (spec_fail.sg n) :=
  evalF_ok (C := spec_fail.C) ⟨tb_ok, fun n _ _ h => tabOk (l := [(63, (spec_copyInts.sg n)), (87, (spec_split.sg n))]) (all_cons ⟨spec_copyInts.ok n, spec_copyInts.call⟩ (all_cons ⟨spec_split.ok n, spec_split.call⟩ (all_nil))) h, mixed, ar_ok, bld_ok, pts_ok⟩ spec_fail.A Tryz.func99 spec_fail.ps spec_fail.res n
abbrev spec_cascade.ps : List Pm := [.arg (.own (.int .i64) 3), .arg (.v (.slice (.pair (.int .i64) (.pair (.int .i64) (.slice (.int .i64)))))), .arg (.v (.int .i64))]
abbrev spec_cascade.res : List M := [(.own (.int .i64) 3), .v (.int .i64), (.own (.int .i64) 3)]
noncomputable def spec_cascade.C : Cfg := { tb := tb, tab := fun n f => Refl.look [(99, (spec_fail.sg n)), (51, (spec_placeIn.sg n))] f, gl := [], ar := ar, bld := bld, pts := pts }
noncomputable def spec_cascade.A : Ann := { joins := [], loops := [(5, { live := [0, 1, 9, 10, 11, 12], base := 91 }), (8, { live := [0, 1, 9, 10, 11, 12, 13], base := 91 }), (16, { live := [0, 1, 9, 10, 11, 12, 13, 16, 17], base := 91 })], ids := [(1, [(19, [19])]), (12, [(60, [123, 124])]), (18, [(79, [])]), (19, [(86, [])])], pids := [], nroots := 155 }
noncomputable def spec_cascade (n : Nat) (x : List Int × List (Int × Int × List Int) × Int) : Option (List Int × Int × List Int) := evalF spec_cascade.C spec_cascade.A Tryz.f85 spec_cascade.ps spec_cascade.res n x
noncomputable def spec_cascade.K0 (_ : Nat) : Kont (List Int × Int × List Int) := finK spec_cascade.C (Func.results Tryz.f85).toList spec_cascade.ps spec_cascade.res
noncomputable def spec_cascade.K1 (n : Nat) : Kont (List Int × Int × List Int) := seqK (fun s' k => joinE spec_cascade.A.joins (codeAt Tryz.f85 [1, 1, 1, 1, 1]) (fun s'' => evalC spec_cascade.C spec_cascade.A n (codeAt Tryz.f85 [1, 1, 1, 1, 1]) s'' k) s') (spec_cascade.K0 n)
noncomputable def spec_cascade.K2 (n : Nat) : Kont (List Int × Int × List Int) := blockK 0 (spec_cascade.K1 n)
noncomputable def spec_cascade.K3 (n m5 : Nat) : Kont (List Int × Int × List Int) := loopK (cutAt spec_cascade.A.loops (codeAt Tryz.f85 [1, 1, 1, 1, 0, 1, 0, 0])) (fun s k => evalC spec_cascade.C spec_cascade.A n (codeAt Tryz.f85 [1, 1, 1, 1, 0, 1, 0, 0]) s k) m5 (spec_cascade.K2 n)
noncomputable def spec_cascade.K4 (n m5 : Nat) : Kont (List Int × Int × List Int) := seqK (fun s' k => joinE spec_cascade.A.joins (codeAt Tryz.f85 [1, 1, 1, 1, 0, 1, 0, 0, 1, 1]) (fun s'' => evalC spec_cascade.C spec_cascade.A n (codeAt Tryz.f85 [1, 1, 1, 1, 0, 1, 0, 0, 1, 1]) s'' k) s') (spec_cascade.K3 n m5)
noncomputable def spec_cascade.K5 (n m5 : Nat) : Kont (List Int × Int × List Int) := blockK 1 (spec_cascade.K4 n m5)
noncomputable def spec_cascade.K6 (n m5 : Nat) : Kont (List Int × Int × List Int) := blockK 2 (spec_cascade.K5 n m5)
noncomputable def spec_cascade.K7 (n m5 m8 : Nat) : Kont (List Int × Int × List Int) := loopK (cutAt spec_cascade.A.loops (codeAt Tryz.f85 [1, 1, 1, 1, 0, 1, 0, 0, 1, 0, 0, 1, 0, 0])) (fun s k => evalC spec_cascade.C spec_cascade.A n (codeAt Tryz.f85 [1, 1, 1, 1, 0, 1, 0, 0, 1, 0, 0, 1, 0, 0]) s k) m8 (spec_cascade.K6 n m5)
noncomputable def spec_cascade.K8 (n m5 m8 : Nat) : Kont (List Int × Int × List Int) := seqK (fun s' k => joinE spec_cascade.A.joins (codeAt Tryz.f85 [1, 1, 1, 1, 0, 1, 0, 0, 1, 0, 0, 1, 0, 0, 1, 1]) (fun s'' => evalC spec_cascade.C spec_cascade.A n (codeAt Tryz.f85 [1, 1, 1, 1, 0, 1, 0, 0, 1, 0, 0, 1, 0, 0, 1, 1]) s'' k) s') (spec_cascade.K7 n m5 m8)
noncomputable def spec_cascade.K9 (n m5 m8 : Nat) : Kont (List Int × Int × List Int) := blockK 3 (spec_cascade.K8 n m5 m8)
noncomputable def spec_cascade.K10 (n m5 m8 : Nat) : Kont (List Int × Int × List Int) := blockK 4 (spec_cascade.K9 n m5 m8)
noncomputable def spec_cascade.l5 (n m5 : Nat) (x1 : List (Int × Int × List Int)) (x10 x12 : Int) (r91 r92 : List Int) (r93 : List Bool) : Option (List Int × Int × List Int) := loopE (cutAt spec_cascade.A.loops (codeAt Tryz.f85 [1, 1, 1, 1, 0, 1, 0, 0])) (fun s k => evalC spec_cascade.C spec_cascade.A n (codeAt Tryz.f85 [1, 1, 1, 1, 0, 1, 0, 0]) s k) m5 (St.of 91 155 [(0, .own 91), (1, .val (.slice (.pair (.int .i64) (.pair (.int .i64) (.slice (.int .i64))))) x1), (9, .own 92), (10, .val (.int .i64) x10), (11, .own 93), (12, .val (.int .i64) x12)] [(91, .row (.int .i64) 3 r91), (92, .row (.int .i64) 3 r92), (93, .row .bool 4 r93)] []) (spec_cascade.K2 n)
noncomputable def spec_cascade.l8 (n m5 m8 : Nat) (x1 : List (Int × Int × List Int)) (x10 x12 x13 : Int) (r91 r92 : List Int) (r93 : List Bool) : Option (List Int × Int × List Int) := loopE (cutAt spec_cascade.A.loops (codeAt Tryz.f85 [1, 1, 1, 1, 0, 1, 0, 0, 1, 0, 0, 1, 0, 0])) (fun s k => evalC spec_cascade.C spec_cascade.A n (codeAt Tryz.f85 [1, 1, 1, 1, 0, 1, 0, 0, 1, 0, 0, 1, 0, 0]) s k) m8 (St.of 91 155 [(0, .own 91), (1, .val (.slice (.pair (.int .i64) (.pair (.int .i64) (.slice (.int .i64))))) x1), (9, .own 92), (10, .val (.int .i64) x10), (11, .own 93), (12, .val (.int .i64) x12), (13, .val (.int .i64) x13)] [(91, .row (.int .i64) 3 r91), (92, .row (.int .i64) 3 r92), (93, .row .bool 4 r93)] []) (spec_cascade.K6 n m5)
noncomputable def spec_cascade.l16 (n m5 m8 m16 : Nat) (x1 : List (Int × Int × List Int)) (x10 x12 : Int) (x13 x17 : Int) (r91 r92 : List Int) (r93 : List Bool) (r94 : List Int) : Option (List Int × Int × List Int) := loopE (cutAt spec_cascade.A.loops (codeAt Tryz.f85 [1, 1, 1, 1, 0, 1, 0, 0, 1, 0, 0, 1, 0, 0, 1, 0, 0, 1, 1, 1, 1, 1, 1, 0, 0])) (fun s k => evalC spec_cascade.C spec_cascade.A n (codeAt Tryz.f85 [1, 1, 1, 1, 0, 1, 0, 0, 1, 0, 0, 1, 0, 0, 1, 0, 0, 1, 1, 1, 1, 1, 1, 0, 0]) s k) m16 (St.of 91 155 [(0, .own 91), (1, .val (.slice (.pair (.int .i64) (.pair (.int .i64) (.slice (.int .i64))))) x1), (9, .own 92), (10, .val (.int .i64) x10), (11, .own 93), (12, .val (.int .i64) x12), (13, .val (.int .i64) x13), (16, .own 94), (17, .val (.int .i64) x17)] [(91, .row (.int .i64) 3 r91), (92, .row (.int .i64) 3 r92), (93, .row .bool 4 r93), (94, .row (.int .i64) 3 r94)] []) (spec_cascade.K10 n m5 m8)
theorem spec_cascade.eq (n : Nat) (x0 : List Int) (x1 : List (Int × Int × List Int)) (x2 : Int) : spec_cascade n (x0, x1, x2) = (if 0 ≤ (↑(List.length x1) : Int) then (if (↑(List.length x1) : Int) ≤ (↑(List.length x1) : Int) then (if (↑(List.length x1) : Int) ≤ (↑Go.Refl.maxN : Int) then spec_cascade.l5 n n (x1) (0) (0) (x0) (List.set (List.replicate 1 0) 0 x2) (List.replicate (Int.toNat (↑(List.length x1) : Int)) Bool.false) else none) else none) else none) := by kernel_rfl
theorem spec_cascade.l5_zero (n : Nat) (x1 : List (Int × Int × List Int)) (x10 x12 : Int) (r91 r92 : List Int) (r93 : List Bool) : spec_cascade.l5 n 0 x1 x10 x12 r91 r92 r93 = none := by kernel_rfl
theorem spec_cascade.l5_succ (n m5 : Nat) (x1 : List (Int × Int × List Int)) (x10 x12 : Int) (r91 r92 : List Int) (r93 : List Bool) : spec_cascade.l5 n (m5 + 1) x1 x10 x12 r91 r92 r93 = (if x12 < (↑(List.length r92) : Int) then spec_cascade.l8 n m5 n (x1) (x10) (x12) (0) (r91) (r92) (r93) else some ((r91, x10, r92))) := by kernel_rfl
theorem spec_cascade.l8_zero (n m5 : Nat) (x1 : List (Int × Int × List Int)) (x10 x12 x13 : Int) (r91 r92 : List Int) (r93 : List Bool) : spec_cascade.l8 n m5 0 x1 x10 x12 x13 r91 r92 r93 = none := by kernel_rfl
theorem spec_cascade.l8_succ (n m5 m8 : Nat) (x1 : List (Int × Int × List Int)) (x10 x12 x13 : Int) (r91 r92 : List Int) (r93 : List Bool) : spec_cascade.l8 n m5 (m8 + 1) x1 x10 x12 x13 r91 r92 r93 = (if x13 < (↑(List.length x1) : Int) then (if 0 ≤ x13 then (if x13 < (↑(List.length r93) : Int) then (if List.getD r93 (Int.toNat x13) Bool.false = Bool.true then spec_cascade.l8 n m5 m8 (x1) (x10) (x12) (Go.RowKit.wrap64 (x13 + 1)) (r91) (r92) (r93) else (if 0 ≤ x13 then (if x13 < (↑(List.length x1) : Int) then (if 0 ≤ x12 then (if x12 < (↑(List.length r92) : Int) then (if Prod.fst (List.getD x1 (Int.toNat x13) (0, 0, [])) = List.getD r92 (Int.toNat x12) 0 then (if 0 ≤ x13 then (if x13 < (↑(List.length r93) : Int) then (if 0 ≤ x13 then (if x13 < (↑(List.length x1) : Int) then ((spec_fail n (r91, List.getD x1 (Int.toNat x13) (0, 0, []))).bind fun y2 => spec_cascade.l16 n m5 m8 n (x1) (Go.RowKit.wrap64 (x10 + y2.2.1)) (x12) (x13) (0) y2.1 (r92) (List.set r93 (Int.toNat x13) Bool.true) y2.2.2) else none) else none) else none) else none) else spec_cascade.l8 n m5 m8 (x1) (x10) (x12) (Go.RowKit.wrap64 (x13 + 1)) (r91) (r92) (r93)) else none) else none) else none) else none)) else none) else none) else spec_cascade.l5 n m5 (x1) (x10) (Go.RowKit.wrap64 (x12 + 1)) (r91) (r92) (r93)) := by kernel_rfl
theorem spec_cascade.l16_zero (n m5 m8 : Nat) (x1 : List (Int × Int × List Int)) (x10 x12 : Int) (x13 x17 : Int) (r91 r92 : List Int) (r93 : List Bool) (r94 : List Int) : spec_cascade.l16 n m5 m8 0 x1 x10 x12 x13 x17 r91 r92 r93 r94 = none := by kernel_rfl
theorem spec_cascade.l16_succ (n m5 m8 m16 : Nat) (x1 : List (Int × Int × List Int)) (x10 x12 : Int) (x13 x17 : Int) (r91 r92 : List Int) (r93 : List Bool) (r94 : List Int) : spec_cascade.l16 n m5 m8 (m16 + 1) x1 x10 x12 x13 x17 r91 r92 r93 r94 = (if x17 < (↑(List.length r94) : Int) then (if 0 ≤ x17 then (if x17 < (↑(List.length r94) : Int) then ((spec_placeIn n (r92, List.getD r94 (Int.toNat x17) 0)).bind fun y3 => (if y3 < 0 then (if 0 ≤ x17 then (if x17 < (↑(List.length r94) : Int) then (if List.length r92 + List.length (List.set (List.replicate (1 : Nat) (0 : Int)) (0 : Nat) (List.getD r94 (Int.toNat x17) (0 : Int))) ≤ Go.Refl.maxN then spec_cascade.l16 n m5 m8 m16 (x1) (x10) (x12) (x13) (Go.RowKit.wrap64 (x17 + 1)) (r91) (r92 ++ List.set (List.replicate 1 0) 0 (List.getD r94 (Int.toNat x17) 0)) (r93) (r94) else none) else none) else none) else spec_cascade.l16 n m5 m8 m16 (x1) (x10) (x12) (x13) (Go.RowKit.wrap64 (x17 + 1)) (r91) (r92) (r93) (r94))) else none) else none) else spec_cascade.l8 n m5 m8 (x1) (x10) (x12) (Go.RowKit.wrap64 (x13 + 1)) (r91) (r92) (r93)) := by kernel_rfl
noncomputable abbrev spec_cascade.sg (n : Nat) : Sig := { params := spec_cascade.ps, res := spec_cascade.res, run := spec_cascade n }
theorem spec_cascade.call : Callable Tryz.prog 85 := ⟨Tryz.f85, Tryz.func85, by kernel_rfl, by kernel_rfl⟩
theorem spec_cascade.ok (n : Nat) : FC Tryz.prog [] 85 (spec_cascade.sg n) :=
  evalF_ok (C := spec_cascade.C) ⟨tb_ok, fun n _ _ h => tabOk (l := [(99, (spec_fail.sg n)), (51, (spec_placeIn.sg n))]) (all_cons ⟨spec_fail.ok n, spec_fail.call⟩ (all_cons ⟨spec_placeIn.ok n, spec_placeIn.call⟩ (all_nil))) h, mixed, ar_ok, bld_ok, pts_ok⟩ spec_cascade.A Tryz.func85 spec_cascade.ps spec_cascade.res n
abbrev spec_failing.ps : List Pm := [.arg (.pr (.own (.int .i64) 3) (.pr (.own (.pair (.int .i64) (.pair (.int .i64) (.slice (.int .i64)))) 69) (.v (.pair (.int .i64) (.pair (.int .i64) (.int .i64)))))), .arg (.v (.int .i64))]
abbrev spec_failing.res : List M := [(.pr (.own (.int .i64) 3) (.pr (.own (.pair (.int .i64) (.pair (.int .i64) (.slice (.int .i64)))) 69) (.v (.pair (.int .i64) (.pair (.int .i64) (.int .i64)))))), .v .bool]
noncomputable def spec_failing.C : Cfg := { tb := tb, tab := fun n f => Refl.look [(25, (spec_inRange.sg n)), (85, (spec_cascade.sg n)), (51, (spec_placeIn.sg n))] f, gl := [], ar := ar, bld := bld, pts := pts }
noncomputable def spec_failing.A : Ann := { joins := [], loops := [(6, { live := [2, 4, 6, 7, 8, 9, 10], base := 64 })], ids := [(1, [(16, [])]), (3, [(25, [97, 98])]), (8, [(44, [])]), (9, [(52, [])])], pids := [(0, [120, 121])], nroots := 128 }
noncomputable def spec_failing (n : Nat) (x : (List Int × List (Int × Int × List Int) × Int × Int × Int) × Int) : Option ((List Int × List (Int × Int × List Int) × Int × Int × Int) × Bool) := evalF spec_failing.C spec_failing.A Tryz.f65 spec_failing.ps spec_failing.res n x
noncomputable def spec_failing.K0 (_ : Nat) : Kont ((List Int × List (Int × Int × List Int) × Int × Int × Int) × Bool) := finK spec_failing.C (Func.results Tryz.f65).toList spec_failing.ps spec_failing.res
noncomputable def spec_failing.K1 (n : Nat) : Kont ((List Int × List (Int × Int × List Int) × Int × Int × Int) × Bool) := seqK (fun s' k => joinE spec_failing.A.joins (codeAt Tryz.f65 [1, 1, 1, 1, 1]) (fun s'' => evalC spec_failing.C spec_failing.A n (codeAt Tryz.f65 [1, 1, 1, 1, 1]) s'' k) s') (spec_failing.K0 n)
noncomputable def spec_failing.K2 (n : Nat) : Kont ((List Int × List (Int × Int × List Int) × Int × Int × Int) × Bool) := blockK 0 (spec_failing.K1 n)
noncomputable def spec_failing.l6 (n m6 : Nat) (x7 x10 : Int) (r64_2 r64_3 : Int) (r64_4 r65_2 : Int) (r65_3 r65_4 : Int) (r66 r67 : List Int) (r68 : List (Int × Int × List Int)) (r69 : List (Int × Int × List Int)) : Option ((List Int × List (Int × Int × List Int) × Int × Int × Int) × Bool) := loopE (cutAt spec_failing.A.loops (codeAt Tryz.f65 [1, 1, 1, 1, 0, 1, 0, 0])) (fun s k => evalC spec_failing.C spec_failing.A n (codeAt Tryz.f65 [1, 1, 1, 1, 0, 1, 0, 0]) s k) m6 (St.of 64 128 [(2, .ptr 64 0 0), (4, .ptr 65 0 0), (6, .own 66), (7, .val (.int .i64) x7), (8, .own 67), (9, .own 68), (10, .val (.int .i64) x10)] [(64, .box 35 [.undef, .own 69, .val (.int .i64) r64_2, .val (.int .i64) r64_3, .val (.int .i64) r64_4]), (65, .box 35 [.nils, .nils, .val (.int .i64) r65_2, .val (.int .i64) r65_3, .val (.int .i64) r65_4]), (66, .row (.int .i64) 3 r66), (67, .row (.int .i64) 3 r67), (68, .row (.pair (.int .i64) (.pair (.int .i64) (.slice (.int .i64)))) 69 r68), (69, .row (.pair (.int .i64) (.pair (.int .i64) (.slice (.int .i64)))) 69 r69)] []) (spec_failing.K2 n)
theorem spec_failing.eq (n : Nat) (x0 : List Int × List (Int × Int × List Int) × Int × Int × Int) (x1 : Int) : spec_failing n (x0, x1) = ((spec_inRange n (x1, 0, Go.RowKit.wrap64 ((↑(List.length x0.1) : Int) - 1))).bind fun y0 => (if (!y0) = true then some (((x0.1, x0.2.1, x0.2.2.1, x0.2.2.2.1, x0.2.2.2.2), Bool.false)) else ((spec_cascade n (x0.1, x0.2.1, x1)).bind fun y3 => spec_failing.l6 n n y3.2.1 (0) x0.2.2.1 x0.2.2.2.1 x0.2.2.2.2 (0) (0) (0) y3.1 y3.2.2 (List.replicate 0 (0, 0, [])) x0.2.1))) := by kernel_rfl
theorem spec_failing.l6_zero (n : Nat) (x7 x10 : Int) (r64_2 r64_3 : Int) (r64_4 r65_2 : Int) (r65_3 r65_4 : Int) (r66 r67 : List Int) (r68 : List (Int × Int × List Int)) (r69 : List (Int × Int × List Int)) : spec_failing.l6 n 0 x7 x10 r64_2 r64_3 r64_4 r65_2 r65_3 r65_4 r66 r67 r68 r69 = none := by kernel_rfl
theorem spec_failing.l6_succ (n m6 : Nat) (x7 x10 : Int) (r64_2 r64_3 : Int) (r64_4 r65_2 : Int) (r65_3 r65_4 : Int) (r66 r67 : List Int) (r68 : List (Int × Int × List Int)) (r69 : List (Int × Int × List Int)) : spec_failing.l6 n (m6 + 1) x7 x10 r64_2 r64_3 r64_4 r65_2 r65_3 r65_4 r66 r67 r68 r69 = (if x10 < (↑(List.length r69) : Int) then (if 0 ≤ x10 then (if x10 < (↑(List.length r69) : Int) then ((spec_placeIn n (r67, Prod.fst (List.getD r69 (Int.toNat x10) (0, 0, [])))).bind fun y4 => (if y4 < 0 then (if 0 ≤ x10 then (if x10 < (↑(List.length r69) : Int) then (if List.length r68 + List.length (List.set (List.replicate (1 : Nat) ((0 : Int), (0 : Int), [])) (0 : Nat) (List.getD r69 (Int.toNat x10) ((0 : Int), (0 : Int), []))) ≤ Go.Refl.maxN then spec_failing.l6 n m6 (x7) (Go.RowKit.wrap64 (x10 + 1)) (r64_2) (r64_3) (r64_4) (r65_2) (r65_3) (r65_4) (r66) (r67) (r68 ++ List.set (List.replicate 1 (0, 0, [])) 0 (List.getD r69 (Int.toNat x10) (0, 0, []))) (r69) else none) else none) else none) else spec_failing.l6 n m6 (x7) (Go.RowKit.wrap64 (x10 + 1)) (r64_2) (r64_3) (r64_4) (r65_2) (r65_3) (r65_4) (r66) (r67) (r68) (r69))) else none) else none) else some (((r66, r68, r64_2, Go.RowKit.wrap64 (r64_3 - x7), r64_4), Bool.true))) := by kernel_rfl
noncomputable abbrev spec_failing.sg (n : Nat) : Sig := { params := spec_failing.ps, res := spec_failing.res, run := spec_failing n }
theorem spec_failing.call : Callable Tryz.prog 65 := ⟨Tryz.f65, Tryz.func65, by kernel_rfl, by kernel_rfl⟩
theorem spec_failing.ok (n : Nat) : FC Tryz.prog [] 65 (spec_failing.sg n) :=
  evalF_ok (C := spec_failing.C) ⟨tb_ok, fun n _ _ h => tabOk (l := [(25, (spec_inRange.sg n)), (85, (spec_cascade.sg n)), (51, (spec_placeIn.sg n))]) (all_cons ⟨spec_inRange.ok n, spec_inRange.call⟩ (all_cons ⟨spec_cascade.ok n, spec_cascade.call⟩ (all_cons ⟨spec_placeIn.ok n, spec_placeIn.call⟩ (all_nil)))) h, mixed, ar_ok, bld_ok, pts_ok⟩ spec_failing.A Tryz.func65 spec_failing.ps spec_failing.res n
abbrev spec_validRate.ps : List Pm := [.arg (.v (.pair (.int .i64) (.int .i64)))]
abbrev spec_validRate.res : List M := [.v .bool]
noncomputable def spec_validRate.C : Cfg := { tb := tb, tab := fun n f => Refl.look [(25, (spec_inRange.sg n))] f, gl := [], ar := ar, bld := bld, pts := pts }
noncomputable def spec_validRate.A : Ann := { joins := [], loops := [], ids := [(1, [(5, []), (11, [])])], pids := [], nroots := 77 }
noncomputable def spec_validRate (n : Nat) (x : Int × Int) : Option (Bool) := evalF spec_validRate.C spec_validRate.A Tryz.f23 spec_validRate.ps spec_validRate.res n x
noncomputable def spec_validRate.K0 (_ : Nat) : Kont (Bool) := finK spec_validRate.C (Func.results Tryz.f23).toList spec_validRate.ps spec_validRate.res
theorem spec_validRate.eq (n : Nat) (x0 : Int × Int) : spec_validRate n x0 = ((spec_inRange n (x0.2, 1, 1000)).bind fun y0 => (if y0 = Bool.true then ((spec_inRange n (x0.1, 0, x0.2)).bind fun y1 => some (y1)) else some (Bool.false))) := by kernel_rfl
noncomputable abbrev spec_validRate.sg (n : Nat) : Sig := { params := spec_validRate.ps, res := spec_validRate.res, run := spec_validRate n }
theorem spec_validRate.call : Callable Tryz.prog 23 := ⟨Tryz.f23, Tryz.func23, by kernel_rfl, by kernel_rfl⟩
theorem spec_validRate.ok (n : Nat) : FC Tryz.prog [] 23 (spec_validRate.sg n) :=
  evalF_ok (C := spec_validRate.C) ⟨tb_ok, fun n _ _ h => tabOk (l := [(25, (spec_inRange.sg n))]) (all_cons ⟨spec_inRange.ok n, spec_inRange.call⟩ (all_nil)) h, mixed, ar_ok, bld_ok, pts_ok⟩ spec_validRate.A Tryz.func23 spec_validRate.ps spec_validRate.res n
abbrev spec_near.ps : List Pm := [.arg (.v (.int .i64)), .arg (.v (.pair (.int .i64) (.int .i64)))]
abbrev spec_near.res : List M := [.v (.int .i64)]
noncomputable def spec_near.C : Cfg := { tb := tb, tab := fun n f => Refl.look [] f, gl := [], ar := ar, bld := bld, pts := pts }
noncomputable def spec_near.A : Ann := { joins := [], loops := [], ids := [], pids := [], nroots := 81 }
noncomputable def spec_near (n : Nat) (x : Int × Int × Int) : Option (Int) := evalF spec_near.C spec_near.A Tryz.f100 spec_near.ps spec_near.res n x
noncomputable def spec_near.K0 (_ : Nat) : Kont (Int) := finK spec_near.C (Func.results Tryz.f100).toList spec_near.ps spec_near.res
theorem spec_near.eq (n : Nat) (x0 : Int) (x1 : Int × Int) : spec_near n (x0, x1) = (if Go.RowKit.wrap64 (2 * x1.2) = 0 then none else some (Go.RowKit.wrap64 (Int.tdiv (Go.RowKit.wrap64 (Go.RowKit.wrap64 (Go.RowKit.wrap64 (2 * x0) * x1.1) + x1.2)) (Go.RowKit.wrap64 (2 * x1.2))))) := by kernel_rfl
noncomputable abbrev spec_near.sg (n : Nat) : Sig := { params := spec_near.ps, res := spec_near.res, run := spec_near n }
theorem spec_near.call : Callable Tryz.prog 100 := ⟨Tryz.f100, Tryz.func100, by kernel_rfl, by kernel_rfl⟩
theorem spec_near.ok (n : Nat) : FC Tryz.prog [] 100 (spec_near.sg n) :=
  evalF_ok (C := spec_near.C) ⟨tb_ok, fun n _ _ h => tabOk (l := []) (all_nil) h, mixed, ar_ok, bld_ok, pts_ok⟩ spec_near.A Tryz.func100 spec_near.ps spec_near.res n
abbrev spec_even.ps : List Pm := [.arg (.v (.int .i64)), .arg (.v (.pair (.int .i64) (.int .i64)))]
abbrev spec_even.res : List M := [.v (.int .i64)]
noncomputable def spec_even.C : Cfg := { tb := tb, tab := fun n f => Refl.look [(100, (spec_near.sg n))] f, gl := [], ar := ar, bld := bld, pts := pts }
noncomputable def spec_even.A : Ann := { joins := [], loops := [], ids := [(1, [(8, [])])], pids := [], nroots := 102 }
noncomputable def spec_even (n : Nat) (x : Int × Int × Int) : Option (Int) := evalF spec_even.C spec_even.A Tryz.f86 spec_even.ps spec_even.res n x
noncomputable def spec_even.K0 (_ : Nat) : Kont (Int) := finK spec_even.C (Func.results Tryz.f86).toList spec_even.ps spec_even.res
theorem spec_even.eq (n : Nat) (x0 : Int) (x1 : Int × Int) : spec_even n (x0, x1) = ((spec_near n (x0, x1.1, x1.2)).bind fun y0 => (if x1.2 = 0 then none else (if Int.tmod (Go.RowKit.wrap64 (Go.RowKit.wrap64 (2 * x0) * x1.1)) x1.2 = 0 then (if x1.2 = 0 then none else (if Int.tmod (Go.RowKit.wrap64 (Int.tdiv (Go.RowKit.wrap64 (Go.RowKit.wrap64 (2 * x0) * x1.1)) x1.2)) 2 = 1 then (if Int.tmod y0 2 = 1 then some (Go.RowKit.wrap64 (y0 - 1)) else some (y0)) else some (y0))) else some (y0)))) := by kernel_rfl
noncomputable abbrev spec_even.sg (n : Nat) : Sig := { params := spec_even.ps, res := spec_even.res, run := spec_even n }
theorem spec_even.call : Callable Tryz.prog 86 := ⟨Tryz.f86, Tryz.func86, by kernel_rfl, by kernel_rfl⟩
theorem spec_even.ok (n : Nat) : FC Tryz.prog [] 86 (spec_even.sg n) :=
  evalF_ok (C := spec_even.C) ⟨tb_ok, fun n _ _ h => tabOk (l := [(100, (spec_near.sg n))]) (all_cons ⟨spec_near.ok n, spec_near.call⟩ (all_nil)) h, mixed, ar_ok, bld_ok, pts_ok⟩ spec_even.A Tryz.func86 spec_even.ps spec_even.res n
abbrev spec_night.ps : List Pm := [.arg (.pr (.own (.int .i64) 3) (.pr (.own (.pair (.int .i64) (.pair (.int .i64) (.slice (.int .i64)))) 69) (.v (.pair (.int .i64) (.pair (.int .i64) (.int .i64)))))), .arg (.v (.pair (.int .i64) (.int .i64)))]
abbrev spec_night.res : List M := [(.pr (.own (.int .i64) 3) (.pr (.own (.pair (.int .i64) (.pair (.int .i64) (.slice (.int .i64)))) 69) (.v (.pair (.int .i64) (.pair (.int .i64) (.int .i64)))))), .v .bool]
noncomputable def spec_night.C : Cfg := { tb := tb, tab := fun n f => Refl.look [(23, (spec_validRate.sg n)), (86, (spec_even.sg n))] f, gl := [], ar := ar, bld := bld, pts := pts }
noncomputable def spec_night.A : Ann := { joins := [], loops := [(4, { live := [2, 3, 4, 6], base := 50 })], ids := [(1, [(9, [])]), (6, [(26, [])])], pids := [(0, [106, 107])], nroots := 114 }
noncomputable def spec_night (n : Nat) (x : (List Int × List (Int × Int × List Int) × Int × Int × Int) × Int × Int) : Option ((List Int × List (Int × Int × List Int) × Int × Int × Int) × Bool) := evalF spec_night.C spec_night.A Tryz.f66 spec_night.ps spec_night.res n x
noncomputable def spec_night.K0 (_ : Nat) : Kont ((List Int × List (Int × Int × List Int) × Int × Int × Int) × Bool) := finK spec_night.C (Func.results Tryz.f66).toList spec_night.ps spec_night.res
noncomputable def spec_night.K1 (n : Nat) : Kont ((List Int × List (Int × Int × List Int) × Int × Int × Int) × Bool) := seqK (fun s' k => joinE spec_night.A.joins (codeAt Tryz.f66 [1, 1, 1]) (fun s'' => evalC spec_night.C spec_night.A n (codeAt Tryz.f66 [1, 1, 1]) s'' k) s') (spec_night.K0 n)
noncomputable def spec_night.K2 (n : Nat) : Kont ((List Int × List (Int × Int × List Int) × Int × Int × Int) × Bool) := blockK 0 (spec_night.K1 n)
noncomputable def spec_night.l4 (n m4 : Nat) (x6 r50_2 : Int) (r50_3 r50_4 : Int) (r51_0 r51_1 : Int) (r52_2 r52_3 r52_4 : Int) (r53 : List Int) (r54 : List (Int × Int × List Int)) : Option ((List Int × List (Int × Int × List Int) × Int × Int × Int) × Bool) := loopE (cutAt spec_night.A.loops (codeAt Tryz.f66 [1, 1, 0, 1, 0, 0])) (fun s k => evalC spec_night.C spec_night.A n (codeAt Tryz.f66 [1, 1, 0, 1, 0, 0]) s k) m4 (St.of 50 114 [(2, .ptr 50 0 0), (3, .ptr 51 0 0), (4, .ptr 52 0 0), (6, .val (.int .i64) x6)] [(50, .box 35 [.own 53, .own 54, .val (.int .i64) r50_2, .val (.int .i64) r50_3, .val (.int .i64) r50_4]), (51, .box 25 [.val (.int .i64) r51_0, .val (.int .i64) r51_1]), (52, .box 35 [.nils, .nils, .val (.int .i64) r52_2, .val (.int .i64) r52_3, .val (.int .i64) r52_4]), (53, .row (.int .i64) 3 r53), (54, .row (.pair (.int .i64) (.pair (.int .i64) (.slice (.int .i64)))) 69 r54)] []) (spec_night.K2 n)
theorem spec_night.eq (n : Nat) (x0 : List Int × List (Int × Int × List Int) × Int × Int × Int) (x1 : Int × Int) : spec_night n (x0, x1) = ((spec_validRate n (x1.1, x1.2)).bind fun y0 => (if (!y0) = true then some (((x0.1, x0.2.1, x0.2.2.1, x0.2.2.2.1, x0.2.2.2.2), Bool.false)) else spec_night.l4 n n (0) x0.2.2.1 x0.2.2.2.1 x0.2.2.2.2 x1.1 x1.2 (0) (0) (0) x0.1 x0.2.1)) := by kernel_rfl
theorem spec_night.l4_zero (n : Nat) (x6 r50_2 : Int) (r50_3 r50_4 : Int) (r51_0 r51_1 : Int) (r52_2 r52_3 r52_4 : Int) (r53 : List Int) (r54 : List (Int × Int × List Int)) : spec_night.l4 n 0 x6 r50_2 r50_3 r50_4 r51_0 r51_1 r52_2 r52_3 r52_4 r53 r54 = none := by kernel_rfl
theorem spec_night.l4_succ (n m4 : Nat) (x6 r50_2 : Int) (r50_3 r50_4 : Int) (r51_0 r51_1 : Int) (r52_2 r52_3 r52_4 : Int) (r53 : List Int) (r54 : List (Int × Int × List Int)) : spec_night.l4 n (m4 + 1) x6 r50_2 r50_3 r50_4 r51_0 r51_1 r52_2 r52_3 r52_4 r53 r54 = (if x6 < (↑(List.length r54) : Int) then (if 0 ≤ x6 then (if x6 < (↑(List.length r54) : Int) then ((spec_even n (Prod.fst (Prod.snd (List.getD r54 (Int.toNat x6) (0, 0, []))), r51_0, r51_1)).bind fun y1 => (if 0 ≤ x6 then (if x6 < (↑(List.length r54) : Int) then (if 0 ≤ x6 then (if x6 < (↑(List.length r54) : Int) then spec_night.l4 n m4 (Go.RowKit.wrap64 (x6 + 1)) (r50_2) (Go.RowKit.wrap64 (r50_3 + y1)) (r50_4) (r51_0) (r51_1) (r52_2) (r52_3) (r52_4) (r53) (List.set r54 (Int.toNat x6) (Prod.fst (List.getD r54 (Int.toNat x6) (0, 0, [])), Go.RowKit.wrap64 (Prod.fst (Prod.snd (List.getD r54 (Int.toNat x6) (0, 0, []))) + y1), Prod.snd (Prod.snd (List.getD r54 (Int.toNat x6) (0, 0, []))))) else none) else none) else none) else none)) else none) else none) else some (((r53, r54, r50_2, r50_3, Go.RowKit.wrap64 (r50_4 + 1)), Bool.true))) := by kernel_rfl
noncomputable abbrev spec_night.sg (n : Nat) : Sig := { params := spec_night.ps, res := spec_night.res, run := spec_night n }
theorem spec_night.call : Callable Tryz.prog 66 := ⟨Tryz.f66, Tryz.func66, by kernel_rfl, by kernel_rfl⟩
theorem spec_night.ok (n : Nat) : FC Tryz.prog [] 66 (spec_night.sg n) :=
  evalF_ok (C := spec_night.C) ⟨tb_ok, fun n _ _ h => tabOk (l := [(23, (spec_validRate.sg n)), (86, (spec_even.sg n))]) (all_cons ⟨spec_validRate.ok n, spec_validRate.call⟩ (all_cons ⟨spec_even.ok n, spec_even.call⟩ (all_nil))) h, mixed, ar_ok, bld_ok, pts_ok⟩ spec_night.A Tryz.func66 spec_night.ps spec_night.res n
abbrev spec_sharing.ps : List Pm := [.arg (.pr (.own (.int .i64) 3) (.pr (.own (.pair (.int .i64) (.pair (.int .i64) (.slice (.int .i64)))) 69) (.v (.pair (.int .i64) (.pair (.int .i64) (.int .i64))))))]
abbrev spec_sharing.res : List M := [(.pr (.own (.int .i64) 3) (.pr (.own (.pair (.int .i64) (.pair (.int .i64) (.slice (.int .i64)))) 69) (.v (.pair (.int .i64) (.pair (.int .i64) (.int .i64)))))), .v .bool]
noncomputable def spec_sharing.C : Cfg := { tb := tb, tab := fun n f => Refl.look [(87, (spec_split.sg n))] f, gl := [], ar := ar, bld := bld, pts := pts }
noncomputable def spec_sharing.A : Ann := { joins := [], loops := [(5, { live := [1, 2, 4, 5], base := 38 })], ids := [], pids := [(0, [94, 95])], nroots := 102 }
noncomputable def spec_sharing (n : Nat) (x : List Int × List (Int × Int × List Int) × Int × Int × Int) : Option ((List Int × List (Int × Int × List Int) × Int × Int × Int) × Bool) := evalF spec_sharing.C spec_sharing.A Tryz.f67 spec_sharing.ps spec_sharing.res n x
noncomputable def spec_sharing.K0 (_ : Nat) : Kont ((List Int × List (Int × Int × List Int) × Int × Int × Int) × Bool) := finK spec_sharing.C (Func.results Tryz.f67).toList spec_sharing.ps spec_sharing.res
noncomputable def spec_sharing.K1 (n : Nat) : Kont ((List Int × List (Int × Int × List Int) × Int × Int × Int) × Bool) := seqK (fun s' k => joinE spec_sharing.A.joins (codeAt Tryz.f67 [1, 1, 1, 1]) (fun s'' => evalC spec_sharing.C spec_sharing.A n (codeAt Tryz.f67 [1, 1, 1, 1]) s'' k) s') (spec_sharing.K0 n)
noncomputable def spec_sharing.K2 (n : Nat) : Kont ((List Int × List (Int × Int × List Int) × Int × Int × Int) × Bool) := blockK 0 (spec_sharing.K1 n)
noncomputable def spec_sharing.l5 (n m5 : Nat) (x5 r38_2 : Int) (r38_3 r38_4 : Int) (r39_2 r39_3 r39_4 : Int) (r40 r41 : List Int) (r42 : List (Int × Int × List Int)) : Option ((List Int × List (Int × Int × List Int) × Int × Int × Int) × Bool) := loopE (cutAt spec_sharing.A.loops (codeAt Tryz.f67 [1, 1, 1, 0, 1, 0, 0])) (fun s k => evalC spec_sharing.C spec_sharing.A n (codeAt Tryz.f67 [1, 1, 1, 0, 1, 0, 0]) s k) m5 (St.of 38 102 [(1, .ptr 38 0 0), (2, .ptr 39 0 0), (4, .own 40), (5, .val (.int .i64) x5)] [(38, .box 35 [.own 41, .own 42, .val (.int .i64) r38_2, .val (.int .i64) r38_3, .val (.int .i64) r38_4]), (39, .box 35 [.nils, .nils, .val (.int .i64) r39_2, .val (.int .i64) r39_3, .val (.int .i64) r39_4]), (40, .row (.int .i64) 3 r40), (41, .row (.int .i64) 3 r41), (42, .row (.pair (.int .i64) (.pair (.int .i64) (.slice (.int .i64)))) 69 r42)] []) (spec_sharing.K2 n)
theorem spec_sharing.eq (n : Nat) (x0 : List Int × List (Int × Int × List Int) × Int × Int × Int) : spec_sharing n x0 = (if x0.2.2.2.1 < 0 then some (((x0.1, x0.2.1, x0.2.2.1, x0.2.2.2.1, x0.2.2.2.2), Bool.false)) else ((spec_split n (x0.2.2.2.1, (↑(List.length x0.1) : Int))).bind fun y0 => spec_sharing.l5 n n (0) x0.2.2.1 x0.2.2.2.1 x0.2.2.2.2 (0) (0) (0) (y0) x0.1 x0.2.1)) := by kernel_rfl
theorem spec_sharing.l5_zero (n : Nat) (x5 r38_2 : Int) (r38_3 r38_4 : Int) (r39_2 r39_3 r39_4 : Int) (r40 r41 : List Int) (r42 : List (Int × Int × List Int)) : spec_sharing.l5 n 0 x5 r38_2 r38_3 r38_4 r39_2 r39_3 r39_4 r40 r41 r42 = none := by kernel_rfl
theorem spec_sharing.l5_succ (n m5 : Nat) (x5 r38_2 : Int) (r38_3 r38_4 : Int) (r39_2 r39_3 r39_4 : Int) (r40 r41 : List Int) (r42 : List (Int × Int × List Int)) : spec_sharing.l5 n (m5 + 1) x5 r38_2 r38_3 r38_4 r39_2 r39_3 r39_4 r40 r41 r42 = (if x5 < (↑(List.length r40) : Int) then (if 0 ≤ x5 then (if x5 < (↑(List.length r41) : Int) then (if 0 ≤ x5 then (if x5 < (↑(List.length r40) : Int) then (if 0 ≤ x5 then (if x5 < (↑(List.length r41) : Int) then spec_sharing.l5 n m5 (Go.RowKit.wrap64 (x5 + 1)) (r38_2) (r38_3) (r38_4) (r39_2) (r39_3) (r39_4) (r40) (List.set r41 (Int.toNat x5) (Go.RowKit.wrap64 (List.getD r41 (Int.toNat x5) 0 + List.getD r40 (Int.toNat x5) 0))) (r42) else none) else none) else none) else none) else none) else none) else some (((r41, r42, r38_2, 0, r38_4), Bool.true))) := by kernel_rfl
noncomputable abbrev spec_sharing.sg (n : Nat) : Sig := { params := spec_sharing.ps, res := spec_sharing.res, run := spec_sharing n }
theorem spec_sharing.call : Callable Tryz.prog 67 := ⟨Tryz.f67, Tryz.func67, by kernel_rfl, by kernel_rfl⟩
theorem spec_sharing.ok (n : Nat) : FC Tryz.prog [] 67 (spec_sharing.sg n) :=
  evalF_ok (C := spec_sharing.C) ⟨tb_ok, fun n _ _ h => tabOk (l := [(87, (spec_split.sg n))]) (all_cons ⟨spec_split.ok n, spec_split.call⟩ (all_nil)) h, mixed, ar_ok, bld_ok, pts_ok⟩ spec_sharing.A Tryz.func67 spec_sharing.ps spec_sharing.res n
abbrev spec_validAmount.ps : List Pm := [.arg (.v (.int .i64))]
abbrev spec_validAmount.res : List M := [.v .bool]
noncomputable def spec_validAmount.C : Cfg := { tb := tb, tab := fun n f => Refl.look [(25, (spec_inRange.sg n))] f, gl := [], ar := ar, bld := bld, pts := pts }
noncomputable def spec_validAmount.A : Ann := { joins := [], loops := [], ids := [(1, [(4, [])])], pids := [], nroots := 69 }
noncomputable def spec_validAmount (n : Nat) (x : Int) : Option (Bool) := evalF spec_validAmount.C spec_validAmount.A Tryz.f26 spec_validAmount.ps spec_validAmount.res n x
noncomputable def spec_validAmount.K0 (_ : Nat) : Kont (Bool) := finK spec_validAmount.C (Func.results Tryz.f26).toList spec_validAmount.ps spec_validAmount.res
theorem spec_validAmount.eq (n : Nat) (x0 : Int) : spec_validAmount n x0 = ((spec_inRange n (x0, 0, 1000000)).bind fun y0 => some (y0)) := by kernel_rfl
noncomputable abbrev spec_validAmount.sg (n : Nat) : Sig := { params := spec_validAmount.ps, res := spec_validAmount.res, run := spec_validAmount n }
theorem spec_validAmount.call : Callable Tryz.prog 26 := ⟨Tryz.f26, Tryz.func26, by kernel_rfl, by kernel_rfl⟩
theorem spec_validAmount.ok (n : Nat) : FC Tryz.prog [] 26 (spec_validAmount.sg n) :=
  evalF_ok (C := spec_validAmount.C) ⟨tb_ok, fun n _ _ h => tabOk (l := [(25, (spec_inRange.sg n))]) (all_cons ⟨spec_inRange.ok n, spec_inRange.call⟩ (all_nil)) h, mixed, ar_ok, bld_ok, pts_ok⟩ spec_validAmount.A Tryz.func26 spec_validAmount.ps spec_validAmount.res n
abbrev spec_lent.ps : List Pm := [.arg (.v (.slice (.pair (.int .i64) (.pair (.int .i64) (.slice (.int .i64))))))]
abbrev spec_lent.res : List M := [.v (.int .i64)]
noncomputable def spec_lent.C : Cfg := { tb := tb, tab := fun n f => Refl.look [] f, gl := [], ar := ar, bld := bld, pts := pts }
noncomputable def spec_lent.A : Ann := { joins := [], loops := [(3, { live := [0, 3, 4], base := 19 })], ids := [], pids := [], nroots := 83 }
noncomputable def spec_lent (n : Nat) (x : List (Int × Int × List Int)) : Option (Int) := evalF spec_lent.C spec_lent.A Tryz.f36 spec_lent.ps spec_lent.res n x
noncomputable def spec_lent.K0 (_ : Nat) : Kont (Int) := finK spec_lent.C (Func.results Tryz.f36).toList spec_lent.ps spec_lent.res
noncomputable def spec_lent.K1 (n : Nat) : Kont (Int) := seqK (fun s' k => joinE spec_lent.A.joins (codeAt Tryz.f36 [1, 1, 1]) (fun s'' => evalC spec_lent.C spec_lent.A n (codeAt Tryz.f36 [1, 1, 1]) s'' k) s') (spec_lent.K0 n)
noncomputable def spec_lent.K2 (n : Nat) : Kont (Int) := blockK 0 (spec_lent.K1 n)
noncomputable def spec_lent.l3 (n m3 : Nat) (x0 : List (Int × Int × List Int)) (x3 x4 : Int) : Option (Int) := loopE (cutAt spec_lent.A.loops (codeAt Tryz.f36 [1, 1, 0, 1, 0, 0])) (fun s k => evalC spec_lent.C spec_lent.A n (codeAt Tryz.f36 [1, 1, 0, 1, 0, 0]) s k) m3 (St.of 19 83 [(0, .val (.slice (.pair (.int .i64) (.pair (.int .i64) (.slice (.int .i64))))) x0), (3, .val (.int .i64) x3), (4, .val (.int .i64) x4)] [] []) (spec_lent.K2 n)
theorem spec_lent.eq (n : Nat) (x0 : List (Int × Int × List Int)) : spec_lent n x0 = spec_lent.l3 n n (x0) (0) (0) := by kernel_rfl
theorem spec_lent.l3_zero (n : Nat) (x0 : List (Int × Int × List Int)) (x3 x4 : Int) : spec_lent.l3 n 0 x0 x3 x4 = none := by kernel_rfl
theorem spec_lent.l3_succ (n m3 : Nat) (x0 : List (Int × Int × List Int)) (x3 x4 : Int) : spec_lent.l3 n (m3 + 1) x0 x3 x4 = (if x4 < (↑(List.length x0) : Int) then (if 0 ≤ x4 then (if x4 < (↑(List.length x0) : Int) then spec_lent.l3 n m3 (x0) (Go.RowKit.wrap64 (x3 + Prod.fst (Prod.snd (List.getD x0 (Int.toNat x4) (0, 0, []))))) (Go.RowKit.wrap64 (x4 + 1)) else none) else none) else some (x3)) := by kernel_rfl
noncomputable abbrev spec_lent.sg (n : Nat) : Sig := { params := spec_lent.ps, res := spec_lent.res, run := spec_lent n }
theorem spec_lent.call : Callable Tryz.prog 36 := ⟨Tryz.f36, Tryz.func36, by kernel_rfl, by kernel_rfl⟩
theorem spec_lent.ok (n : Nat) : FC Tryz.prog [] 36 (spec_lent.sg n) :=
  evalF_ok (C := spec_lent.C) ⟨tb_ok, fun n _ _ h => tabOk (l := []) (all_nil) h, mixed, ar_ok, bld_ok, pts_ok⟩ spec_lent.A Tryz.func36 spec_lent.ps spec_lent.res n
abbrev spec_total.ps : List Pm := [.arg (.v (.slice (.int .i64)))]
abbrev spec_total.res : List M := [.v (.int .i64)]
noncomputable def spec_total.C : Cfg := { tb := tb, tab := fun n f => Refl.look [] f, gl := [], ar := ar, bld := bld, pts := pts }
noncomputable def spec_total.A : Ann := { joins := [], loops := [(3, { live := [0, 3, 4], base := 18 })], ids := [], pids := [], nroots := 82 }
noncomputable def spec_total (n : Nat) (x : List Int) : Option (Int) := evalF spec_total.C spec_total.A Tryz.f37 spec_total.ps spec_total.res n x
noncomputable def spec_total.K0 (_ : Nat) : Kont (Int) := finK spec_total.C (Func.results Tryz.f37).toList spec_total.ps spec_total.res
noncomputable def spec_total.K1 (n : Nat) : Kont (Int) := seqK (fun s' k => joinE spec_total.A.joins (codeAt Tryz.f37 [1, 1, 1]) (fun s'' => evalC spec_total.C spec_total.A n (codeAt Tryz.f37 [1, 1, 1]) s'' k) s') (spec_total.K0 n)
noncomputable def spec_total.K2 (n : Nat) : Kont (Int) := blockK 0 (spec_total.K1 n)
noncomputable def spec_total.l3 (n m3 : Nat) (x0 : List Int) (x3 x4 : Int) : Option (Int) := loopE (cutAt spec_total.A.loops (codeAt Tryz.f37 [1, 1, 0, 1, 0, 0])) (fun s k => evalC spec_total.C spec_total.A n (codeAt Tryz.f37 [1, 1, 0, 1, 0, 0]) s k) m3 (St.of 18 82 [(0, .val (.slice (.int .i64)) x0), (3, .val (.int .i64) x3), (4, .val (.int .i64) x4)] [] []) (spec_total.K2 n)
theorem spec_total.eq (n : Nat) (x0 : List Int) : spec_total n x0 = spec_total.l3 n n (x0) (0) (0) := by kernel_rfl
theorem spec_total.l3_zero (n : Nat) (x0 : List Int) (x3 x4 : Int) : spec_total.l3 n 0 x0 x3 x4 = none := by kernel_rfl
theorem spec_total.l3_succ (n m3 : Nat) (x0 : List Int) (x3 x4 : Int) : spec_total.l3 n (m3 + 1) x0 x3 x4 = (if x4 < (↑(List.length x0) : Int) then (if 0 ≤ x4 then (if x4 < (↑(List.length x0) : Int) then spec_total.l3 n m3 (x0) (Go.RowKit.wrap64 (x3 + List.getD x0 (Int.toNat x4) 0)) (Go.RowKit.wrap64 (x4 + 1)) else none) else none) else some (x3)) := by kernel_rfl
noncomputable abbrev spec_total.sg (n : Nat) : Sig := { params := spec_total.ps, res := spec_total.res, run := spec_total n }
theorem spec_total.call : Callable Tryz.prog 37 := ⟨Tryz.f37, Tryz.func37, by kernel_rfl, by kernel_rfl⟩
theorem spec_total.ok (n : Nat) : FC Tryz.prog [] 37 (spec_total.sg n) :=
  evalF_ok (C := spec_total.C) ⟨tb_ok, fun n _ _ h => tabOk (l := []) (all_nil) h, mixed, ar_ok, bld_ok, pts_ok⟩ spec_total.A Tryz.func37 spec_total.ps spec_total.res n
abbrev spec_validClub.ps : List Pm := [.arg (.v (.pair (.slice (.int .i64)) (.pair (.slice (.pair (.int .i64) (.pair (.int .i64) (.slice (.int .i64))))) (.pair (.int .i64) (.pair (.int .i64) (.int .i64))))))]
abbrev spec_validClub.res : List M := [.v .bool]
noncomputable def spec_validClub.C : Cfg := { tb := tb, tab := fun n f => Refl.look [(34, (spec_validStakes.sg n)), (35, (spec_validLoans.sg n)), (26, (spec_validAmount.sg n)), (25, (spec_inRange.sg n)), (36, (spec_lent.sg n)), (37, (spec_total.sg n))] f, gl := [], ar := ar, bld := bld, pts := pts }
noncomputable def spec_validClub.A : Ann := { joins := [], loops := [], ids := [(1, [(5, []), (13, []), (19, []), (25, []), (31, [])]), (3, [(38, []), (42, [])])], pids := [], nroots := 111 }
noncomputable def spec_validClub (n : Nat) (x : List Int × List (Int × Int × List Int) × Int × Int × Int) : Option (Bool) := evalF spec_validClub.C spec_validClub.A Tryz.f15 spec_validClub.ps spec_validClub.res n x
noncomputable def spec_validClub.K0 (_ : Nat) : Kont (Bool) := finK spec_validClub.C (Func.results Tryz.f15).toList spec_validClub.ps spec_validClub.res
theorem spec_validClub.eq (n : Nat) (x0 : List Int × List (Int × Int × List Int) × Int × Int × Int) : spec_validClub n x0 = ((spec_validStakes n x0.1).bind fun y0 => (if (!y0) = Bool.true then some (Bool.false) else ((spec_validLoans n (x0.2.1, (↑(List.length x0.1) : Int))).bind fun y1 => (if (!y1) = Bool.true then some (Bool.false) else ((spec_validAmount n x0.2.2.1).bind fun y2 => (if (!y2) = Bool.true then some (Bool.false) else ((spec_inRange n (x0.2.2.2.1, (-1000000), 1000000)).bind fun y3 => (if (!y3) = Bool.true then some (Bool.false) else ((spec_inRange n (x0.2.2.2.2, 0, 999)).bind fun y4 => (if (!y4) = true then some (Bool.false) else ((spec_lent n x0.2.1).bind fun y5 => ((spec_total n x0.1).bind fun y6 => some (Decidable.decide (Go.RowKit.wrap64 (x0.2.2.1 + y5) = Go.RowKit.wrap64 (y6 + x0.2.2.2.1))))))))))))))) := by kernel_rfl
noncomputable abbrev spec_validClub.sg (n : Nat) : Sig := { params := spec_validClub.ps, res := spec_validClub.res, run := spec_validClub n }
theorem spec_validClub.call : Callable Tryz.prog 15 := ⟨Tryz.f15, Tryz.func15, by kernel_rfl, by kernel_rfl⟩
theorem spec_validClub.ok (n : Nat) : FC Tryz.prog [] 15 (spec_validClub.sg n) :=
  evalF_ok (C := spec_validClub.C) ⟨tb_ok, fun n _ _ h => tabOk (l := [(34, (spec_validStakes.sg n)), (35, (spec_validLoans.sg n)), (26, (spec_validAmount.sg n)), (25, (spec_inRange.sg n)), (36, (spec_lent.sg n)), (37, (spec_total.sg n))]) (all_cons ⟨spec_validStakes.ok n, spec_validStakes.call⟩ (all_cons ⟨spec_validLoans.ok n, spec_validLoans.call⟩ (all_cons ⟨spec_validAmount.ok n, spec_validAmount.call⟩ (all_cons ⟨spec_inRange.ok n, spec_inRange.call⟩ (all_cons ⟨spec_lent.ok n, spec_lent.call⟩ (all_cons ⟨spec_total.ok n, spec_total.call⟩ (all_nil))))))) h, mixed, ar_ok, bld_ok, pts_ok⟩ spec_validClub.A Tryz.func15 spec_validClub.ps spec_validClub.res n
abbrev spec_applyEvent.ps : List Pm := [.arg (.v (.pair (.slice (.int .i64)) (.pair (.slice (.pair (.int .i64) (.pair (.int .i64) (.slice (.int .i64))))) (.pair (.int .i64) (.pair (.int .i64) (.int .i64)))))), .arg (.v (.pair (.int .i64) (.pair (.int .i64) (.pair (.int .i64) (.pair (.int .i64) (.pair (.slice (.int .i64)) (.pair (.int .i64) (.int .i64))))))))]
abbrev spec_applyEvent.res : List M := [.v (.pair (.slice (.int .i64)) (.pair (.slice (.pair (.int .i64) (.pair (.int .i64) (.slice (.int .i64))))) (.pair (.int .i64) (.pair (.int .i64) (.int .i64))))), .v .bool]
noncomputable def spec_applyEvent.C : Cfg := { tb := tb, tab := fun n f => Refl.look [(60, (spec_copyClub.sg n)), (61, (spec_moveMoney.sg n)), (63, { params := spec_copyInts.ps, res := [.v (.slice (.int .i64))], run := spec_copyInts n }), (62, (spec_lend.sg n)), (64, (spec_repay.sg n)), (65, (spec_failing.sg n)), (66, (spec_night.sg n)), (67, (spec_sharing.sg n)), (15, (spec_validClub.sg n))] f, gl := [], ar := ar, bld := bld, pts := pts }
noncomputable def spec_applyEvent.A : Ann := { joins := [], loops := [], ids := [(1, [(9, [117, 118])]), (5, [(16, [])]), (20, [(80, [])]), (9, [(25, [121, 122])]), (11, [(38, []), (40, [126, 127])]), (13, [(48, [130, 131])]), (15, [(57, [134, 135])]), (17, [(66, [138, 139])]), (19, [(73, [142, 143])])], pids := [], nroots := 149 }
noncomputable def spec_applyEvent (n : Nat) (x : (List Int × List (Int × Int × List Int) × Int × Int × Int) × Int × Int × Int × Int × List Int × Int × Int) : Option ((List Int × List (Int × Int × List Int) × Int × Int × Int) × Bool) := evalF spec_applyEvent.C spec_applyEvent.A Tryz.f47 spec_applyEvent.ps spec_applyEvent.res n x
noncomputable def spec_applyEvent.K0 (_ : Nat) : Kont ((List Int × List (Int × Int × List Int) × Int × Int × Int) × Bool) := finK spec_applyEvent.C (Func.results Tryz.f47).toList spec_applyEvent.ps spec_applyEvent.res
theorem spec_applyEvent.eq (n : Nat) (x0 : List Int × List (Int × Int × List Int) × Int × Int × Int) (x1 : Int × Int × Int × Int × List Int × Int × Int) : spec_applyEvent n (x0, x1) = ((spec_copyClub n (x0.1, x0.2.1, x0.2.2.1, x0.2.2.2.1, x0.2.2.2.2)).bind fun y2 => (if x1.1 = 0 then (if List.length y2.1 + List.length (List.set (List.replicate (1 : Nat) (0 : Int)) (0 : Nat) (0 : Int)) ≤ Go.Refl.maxN then ((spec_validClub n (y2.1 ++ List.set (List.replicate 1 0) 0 0, y2.2.1, y2.2.2.1, y2.2.2.2.1, y2.2.2.2.2)).bind fun y3 => (if (!y3) = true then some ((([], [], 0, 0, 0), Bool.false)) else some (((y2.1 ++ List.set (List.replicate 1 0) 0 0, y2.2.1, y2.2.2.1, y2.2.2.2.1, y2.2.2.2.2), Bool.true)))) else none) else (if x1.1 = 1 then (if x1.1 = 1 then ((spec_moveMoney n ((y2.1, y2.2.1, y2.2.2.1, y2.2.2.2.1, y2.2.2.2.2), x1.1, x1.2.1, x1.2.2.1, x1.2.2.2.1, x1.2.2.2.2.1, x1.2.2.2.2.2.1, x1.2.2.2.2.2.2)).bind fun y6 => (if (!y6.2) = Bool.true then some ((([], [], 0, 0, 0), Bool.false)) else ((spec_validClub n (y6.1.1, y6.1.2.1, y6.1.2.2.1, y6.1.2.2.2.1, y6.1.2.2.2.2)).bind fun y7 => (if (!y7) = true then some ((([], [], 0, 0, 0), Bool.false)) else some (((y6.1.1, y6.1.2.1, y6.1.2.2.1, y6.1.2.2.2.1, y6.1.2.2.2.2), Bool.true)))))) else (if x1.1 = 3 then ((spec_copyInts n x1.2.2.2.2.1).bind fun y8 => ((spec_lend n ((y2.1, y2.2.1, y2.2.2.1, y2.2.2.2.1, y2.2.2.2.2), x1.2.1, x1.2.2.1, y8)).bind fun y11 => (if (!y11.2) = Bool.true then some ((([], [], 0, 0, 0), Bool.false)) else ((spec_validClub n (y11.1.1, y11.1.2.1, y11.1.2.2.1, y11.1.2.2.2.1, y11.1.2.2.2.2)).bind fun y12 => (if (!y12) = true then some ((([], [], 0, 0, 0), Bool.false)) else some (((y11.1.1, y11.1.2.1, y11.1.2.2.1, y11.1.2.2.2.1, y11.1.2.2.2.2), Bool.true))))))) else (if x1.1 = 4 then ((spec_repay n ((y2.1, y2.2.1, y2.2.2.1, y2.2.2.2.1, y2.2.2.2.2), x1.1, x1.2.1, x1.2.2.1, x1.2.2.2.1, x1.2.2.2.2.1, x1.2.2.2.2.2.1, x1.2.2.2.2.2.2)).bind fun y15 => (if (!y15.2) = Bool.true then some ((([], [], 0, 0, 0), Bool.false)) else ((spec_validClub n (y15.1.1, y15.1.2.1, y15.1.2.2.1, y15.1.2.2.2.1, y15.1.2.2.2.2)).bind fun y16 => (if (!y16) = true then some ((([], [], 0, 0, 0), Bool.false)) else some (((y15.1.1, y15.1.2.1, y15.1.2.2.1, y15.1.2.2.2.1, y15.1.2.2.2.2), Bool.true)))))) else (if x1.1 = 5 then ((spec_failing n ((y2.1, y2.2.1, y2.2.2.1, y2.2.2.2.1, y2.2.2.2.2), x1.2.1)).bind fun y19 => (if (!y19.2) = Bool.true then some ((([], [], 0, 0, 0), Bool.false)) else ((spec_validClub n (y19.1.1, y19.1.2.1, y19.1.2.2.1, y19.1.2.2.2.1, y19.1.2.2.2.2)).bind fun y20 => (if (!y20) = true then some ((([], [], 0, 0, 0), Bool.false)) else some (((y19.1.1, y19.1.2.1, y19.1.2.2.1, y19.1.2.2.2.1, y19.1.2.2.2.2), Bool.true)))))) else (if x1.1 = 6 then ((spec_night n ((y2.1, y2.2.1, y2.2.2.1, y2.2.2.2.1, y2.2.2.2.2), x1.2.2.2.2.2.1, x1.2.2.2.2.2.2)).bind fun y23 => (if (!y23.2) = Bool.true then some ((([], [], 0, 0, 0), Bool.false)) else ((spec_validClub n (y23.1.1, y23.1.2.1, y23.1.2.2.1, y23.1.2.2.2.1, y23.1.2.2.2.2)).bind fun y24 => (if (!y24) = true then some ((([], [], 0, 0, 0), Bool.false)) else some (((y23.1.1, y23.1.2.1, y23.1.2.2.1, y23.1.2.2.2.1, y23.1.2.2.2.2), Bool.true)))))) else (if x1.1 = 7 then ((spec_sharing n (y2.1, y2.2.1, y2.2.2.1, y2.2.2.2.1, y2.2.2.2.2)).bind fun y27 => (if (!y27.2) = Bool.true then some ((([], [], 0, 0, 0), Bool.false)) else ((spec_validClub n (y27.1.1, y27.1.2.1, y27.1.2.2.1, y27.1.2.2.2.1, y27.1.2.2.2.2)).bind fun y28 => (if (!y28) = true then some ((([], [], 0, 0, 0), Bool.false)) else some (((y27.1.1, y27.1.2.1, y27.1.2.2.1, y27.1.2.2.2.1, y27.1.2.2.2.2), Bool.true)))))) else some ((([], [], 0, 0, 0), Bool.false)))))))) else (if x1.1 = 2 then ((spec_moveMoney n ((y2.1, y2.2.1, y2.2.2.1, y2.2.2.2.1, y2.2.2.2.2), x1.1, x1.2.1, x1.2.2.1, x1.2.2.2.1, x1.2.2.2.2.1, x1.2.2.2.2.2.1, x1.2.2.2.2.2.2)).bind fun y29 => (if (!y29.2) = Bool.true then some ((([], [], 0, 0, 0), Bool.false)) else ((spec_validClub n (y29.1.1, y29.1.2.1, y29.1.2.2.1, y29.1.2.2.2.1, y29.1.2.2.2.2)).bind fun y30 => (if (!y30) = true then some ((([], [], 0, 0, 0), Bool.false)) else some (((y29.1.1, y29.1.2.1, y29.1.2.2.1, y29.1.2.2.2.1, y29.1.2.2.2.2), Bool.true)))))) else (if x1.1 = 3 then ((spec_copyInts n x1.2.2.2.2.1).bind fun y31 => ((spec_lend n ((y2.1, y2.2.1, y2.2.2.1, y2.2.2.2.1, y2.2.2.2.2), x1.2.1, x1.2.2.1, y31)).bind fun y32 => (if (!y32.2) = Bool.true then some ((([], [], 0, 0, 0), Bool.false)) else ((spec_validClub n (y32.1.1, y32.1.2.1, y32.1.2.2.1, y32.1.2.2.2.1, y32.1.2.2.2.2)).bind fun y33 => (if (!y33) = true then some ((([], [], 0, 0, 0), Bool.false)) else some (((y32.1.1, y32.1.2.1, y32.1.2.2.1, y32.1.2.2.2.1, y32.1.2.2.2.2), Bool.true))))))) else (if x1.1 = 4 then ((spec_repay n ((y2.1, y2.2.1, y2.2.2.1, y2.2.2.2.1, y2.2.2.2.2), x1.1, x1.2.1, x1.2.2.1, x1.2.2.2.1, x1.2.2.2.2.1, x1.2.2.2.2.2.1, x1.2.2.2.2.2.2)).bind fun y34 => (if (!y34.2) = Bool.true then some ((([], [], 0, 0, 0), Bool.false)) else ((spec_validClub n (y34.1.1, y34.1.2.1, y34.1.2.2.1, y34.1.2.2.2.1, y34.1.2.2.2.2)).bind fun y35 => (if (!y35) = true then some ((([], [], 0, 0, 0), Bool.false)) else some (((y34.1.1, y34.1.2.1, y34.1.2.2.1, y34.1.2.2.2.1, y34.1.2.2.2.2), Bool.true)))))) else (if x1.1 = 5 then ((spec_failing n ((y2.1, y2.2.1, y2.2.2.1, y2.2.2.2.1, y2.2.2.2.2), x1.2.1)).bind fun y36 => (if (!y36.2) = Bool.true then some ((([], [], 0, 0, 0), Bool.false)) else ((spec_validClub n (y36.1.1, y36.1.2.1, y36.1.2.2.1, y36.1.2.2.2.1, y36.1.2.2.2.2)).bind fun y37 => (if (!y37) = true then some ((([], [], 0, 0, 0), Bool.false)) else some (((y36.1.1, y36.1.2.1, y36.1.2.2.1, y36.1.2.2.2.1, y36.1.2.2.2.2), Bool.true)))))) else (if x1.1 = 6 then ((spec_night n ((y2.1, y2.2.1, y2.2.2.1, y2.2.2.2.1, y2.2.2.2.2), x1.2.2.2.2.2.1, x1.2.2.2.2.2.2)).bind fun y38 => (if (!y38.2) = Bool.true then some ((([], [], 0, 0, 0), Bool.false)) else ((spec_validClub n (y38.1.1, y38.1.2.1, y38.1.2.2.1, y38.1.2.2.2.1, y38.1.2.2.2.2)).bind fun y39 => (if (!y39) = true then some ((([], [], 0, 0, 0), Bool.false)) else some (((y38.1.1, y38.1.2.1, y38.1.2.2.1, y38.1.2.2.2.1, y38.1.2.2.2.2), Bool.true)))))) else (if x1.1 = 7 then ((spec_sharing n (y2.1, y2.2.1, y2.2.2.1, y2.2.2.2.1, y2.2.2.2.2)).bind fun y40 => (if (!y40.2) = Bool.true then some ((([], [], 0, 0, 0), Bool.false)) else ((spec_validClub n (y40.1.1, y40.1.2.1, y40.1.2.2.1, y40.1.2.2.2.1, y40.1.2.2.2.2)).bind fun y41 => (if (!y41) = true then some ((([], [], 0, 0, 0), Bool.false)) else some (((y40.1.1, y40.1.2.1, y40.1.2.2.1, y40.1.2.2.2.1, y40.1.2.2.2.2), Bool.true)))))) else some ((([], [], 0, 0, 0), Bool.false))))))))))) := by kernel_rfl
noncomputable abbrev spec_applyEvent.sg (n : Nat) : Sig := { params := spec_applyEvent.ps, res := spec_applyEvent.res, run := spec_applyEvent n }
theorem spec_applyEvent.call : Callable Tryz.prog 47 := ⟨Tryz.f47, Tryz.func47, by kernel_rfl, by kernel_rfl⟩
theorem spec_applyEvent.ok (n : Nat) : FC Tryz.prog [] 47 (spec_applyEvent.sg n) :=
  evalF_ok (C := spec_applyEvent.C) ⟨tb_ok, fun n _ _ h => tabOk (l := [(60, (spec_copyClub.sg n)), (61, (spec_moveMoney.sg n)), (63, { params := spec_copyInts.ps, res := [.v (.slice (.int .i64))], run := spec_copyInts n }), (62, (spec_lend.sg n)), (64, (spec_repay.sg n)), (65, (spec_failing.sg n)), (66, (spec_night.sg n)), (67, (spec_sharing.sg n)), (15, (spec_validClub.sg n))]) (all_cons ⟨spec_copyClub.ok n, spec_copyClub.call⟩ (all_cons ⟨spec_moveMoney.ok n, spec_moveMoney.call⟩ (all_cons ⟨FC.weak (.cons (.own _ _) .nil) HEq.rfl (spec_copyInts.ok n), spec_copyInts.call⟩ (all_cons ⟨spec_lend.ok n, spec_lend.call⟩ (all_cons ⟨spec_repay.ok n, spec_repay.call⟩ (all_cons ⟨spec_failing.ok n, spec_failing.call⟩ (all_cons ⟨spec_night.ok n, spec_night.call⟩ (all_cons ⟨spec_sharing.ok n, spec_sharing.call⟩ (all_cons ⟨spec_validClub.ok n, spec_validClub.call⟩ (all_nil)))))))))) h, mixed, ar_ok, bld_ok, pts_ok⟩ spec_applyEvent.A Tryz.func47 spec_applyEvent.ps spec_applyEvent.res n
abbrev spec_someBook.ps : List Pm := [.box 61 (.v (.pair (.slice (.int .u8)) (.int .i64))), .arg (.v (.pair (.slice (.int .i64)) (.pair (.slice (.pair (.int .i64) (.pair (.int .i64) (.slice (.int .i64))))) (.pair (.int .i64) (.pair (.int .i64) (.int .i64))))))]
abbrev spec_someBook.res : List M := [(.own (.pair (.int .i64) (.pair (.int .i64) (.pair (.int .i64) (.pair (.int .i64) (.pair (.slice (.int .i64)) (.pair (.int .i64) (.int .i64))))))) 27), .v (.pair (.slice (.int .i64)) (.pair (.slice (.pair (.int .i64) (.pair (.int .i64) (.slice (.int .i64))))) (.pair (.int .i64) (.pair (.int .i64) (.int .i64)))))]
noncomputable def spec_someBook.C : Cfg := { tb := tb, tab := fun n f => Refl.look [(18, (spec_reader_one.sg n)), (16, (spec_someEvent.sg n)), (47, (spec_applyEvent.sg n))] f, gl := [], ar := ar, bld := bld, pts := pts }
noncomputable def spec_someBook.A : Ann := { joins := [], loops := [(3, { live := [0, 3, 5, 6, 7], base := 36 })], ids := [(2, [(13, []), (14, [])]), (5, [(21, [])]), (6, [(25, [])]), (9, [(32, [])])], pids := [], nroots := 100 }
noncomputable def spec_someBook (n : Nat) (x : (List Int × Int) × List Int × List (Int × Int × List Int) × Int × Int × Int) : Option (List (Int × Int × Int × Int × List Int × Int × Int) × (List Int × List (Int × Int × List Int) × Int × Int × Int) × List Int × Int) := evalF spec_someBook.C spec_someBook.A Tryz.f32 spec_someBook.ps spec_someBook.res n x
noncomputable def spec_someBook.K0 (_ : Nat) : Kont (List (Int × Int × Int × Int × List Int × Int × Int) × (List Int × List (Int × Int × List Int) × Int × Int × Int) × List Int × Int) := finK spec_someBook.C (Func.results Tryz.f32).toList spec_someBook.ps spec_someBook.res
noncomputable def spec_someBook.K1 (n : Nat) : Kont (List (Int × Int × Int × Int × List Int × Int × Int) × (List Int × List (Int × Int × List Int) × Int × Int × Int) × List Int × Int) := seqK (fun s' k => joinE spec_someBook.A.joins (codeAt Tryz.f32 [1, 1, 1]) (fun s'' => evalC spec_someBook.C spec_someBook.A n (codeAt Tryz.f32 [1, 1, 1]) s'' k) s') (spec_someBook.K0 n)
noncomputable def spec_someBook.K2 (n : Nat) : Kont (List (Int × Int × Int × Int × List Int × Int × Int) × (List Int × List (Int × Int × List Int) × Int × Int × Int) × List Int × Int) := blockK 0 (spec_someBook.K1 n)
noncomputable def spec_someBook.l3 (n m3 : Nat) (x7 : Int) (r0_0 : List Int) (r0_1 : Int) (r36_0 : List Int) (r36_1 : List (Int × Int × List Int)) (r36_2 r36_3 : Int) (r36_4 r37_2 : Int) (r37_3 r37_4 : Int) (r38 : List (Int × Int × Int × Int × List Int × Int × Int)) : Option (List (Int × Int × Int × Int × List Int × Int × Int) × (List Int × List (Int × Int × List Int) × Int × Int × Int) × List Int × Int) := loopE (cutAt spec_someBook.A.loops (codeAt Tryz.f32 [1, 1, 0, 1, 0, 0])) (fun s k => evalC spec_someBook.C spec_someBook.A n (codeAt Tryz.f32 [1, 1, 0, 1, 0, 0]) s k) m3 (St.of 36 100 [(0, .ptr 0 0 0), (3, .ptr 36 0 0), (5, .ptr 37 0 0), (6, .own 38), (7, .val (.int .i64) x7)] [(0, .box 61 [.val (.slice (.int .u8)) r0_0, .val (.int .i64) r0_1]), (36, .box 35 [.val (.slice (.int .i64)) r36_0, .val (.slice (.pair (.int .i64) (.pair (.int .i64) (.slice (.int .i64))))) r36_1, .val (.int .i64) r36_2, .val (.int .i64) r36_3, .val (.int .i64) r36_4]), (37, .box 35 [.nils, .nils, .val (.int .i64) r37_2, .val (.int .i64) r37_3, .val (.int .i64) r37_4]), (38, .row (.pair (.int .i64) (.pair (.int .i64) (.pair (.int .i64) (.pair (.int .i64) (.pair (.slice (.int .i64)) (.pair (.int .i64) (.int .i64))))))) 27 r38)] [0]) (spec_someBook.K2 n)
theorem spec_someBook.eq (n : Nat) (x0 : List Int × Int) (x1 : List Int × List (Int × Int × List Int) × Int × Int × Int) : spec_someBook n (x0, x1) = ((spec_reader_one n ((x0.1, x0.2), List.set (List.set (List.set (List.set (List.set (List.set (List.replicate 6 0) 0 8) 1 12) 2 5) 3 18) 4 0) 5 2)).bind fun y0 => spec_someBook.l3 n n y0.1 y0.2.1 y0.2.2 x1.1 x1.2.1 x1.2.2.1 x1.2.2.2.1 x1.2.2.2.2 (0) (0) (0) (List.replicate 0 (0, 0, 0, 0, [], 0, 0))) := by kernel_rfl
theorem spec_someBook.l3_zero (n : Nat) (x7 : Int) (r0_0 : List Int) (r0_1 : Int) (r36_0 : List Int) (r36_1 : List (Int × Int × List Int)) (r36_2 r36_3 : Int) (r36_4 r37_2 : Int) (r37_3 r37_4 : Int) (r38 : List (Int × Int × Int × Int × List Int × Int × Int)) : spec_someBook.l3 n 0 x7 r0_0 r0_1 r36_0 r36_1 r36_2 r36_3 r36_4 r37_2 r37_3 r37_4 r38 = none := by kernel_rfl
theorem spec_someBook.l3_succ (n m3 : Nat) (x7 : Int) (r0_0 : List Int) (r0_1 : Int) (r36_0 : List Int) (r36_1 : List (Int × Int × List Int)) (r36_2 r36_3 : Int) (r36_4 r37_2 : Int) (r37_3 r37_4 : Int) (r38 : List (Int × Int × Int × Int × List Int × Int × Int)) : spec_someBook.l3 n (m3 + 1) x7 r0_0 r0_1 r36_0 r36_1 r36_2 r36_3 r36_4 r37_2 r37_3 r37_4 r38 = (if x7 > 0 then ((spec_someEvent n ((r0_0, r0_1), r36_0, r36_1, r36_2, r36_3, r36_4)).bind fun y1 => ((spec_applyEvent n ((r36_0, r36_1, r36_2, r36_3, r36_4), y1.1.1, y1.1.2.1, y1.1.2.2.1, y1.1.2.2.2.1, y1.1.2.2.2.2.1, y1.1.2.2.2.2.2.1, y1.1.2.2.2.2.2.2)).bind fun y2 => (if y2.2 = true then (if List.length r38 + List.length (List.set (List.replicate (1 : Nat) ((0 : Int), (0 : Int), (0 : Int), (0 : Int), [], (0 : Int), (0 : Int))) (0 : Nat) (y1.1.1, y1.1.2.1, y1.1.2.2.1, y1.1.2.2.2.1, y1.1.2.2.2.2.1, y1.1.2.2.2.2.2.1, y1.1.2.2.2.2.2.2)) ≤ Go.Refl.maxN then spec_someBook.l3 n m3 (Go.RowKit.wrap64 (x7 - 1)) y1.2.1 y1.2.2 y2.1.1 y2.1.2.1 y2.1.2.2.1 y2.1.2.2.2.1 y2.1.2.2.2.2 (r37_2) (r37_3) (r37_4) (r38 ++ List.set (List.replicate 1 (0, 0, 0, 0, [], 0, 0)) 0 (y1.1.1, y1.1.2.1, y1.1.2.2.1, y1.1.2.2.2.1, y1.1.2.2.2.2.1, y1.1.2.2.2.2.2.1, y1.1.2.2.2.2.2.2)) else none) else spec_someBook.l3 n m3 (Go.RowKit.wrap64 (x7 - 1)) y1.2.1 y1.2.2 (r36_0) (r36_1) (r36_2) (r36_3) (r36_4) (r37_2) (r37_3) (r37_4) (r38)))) else some ((r38, (r36_0, r36_1, r36_2, r36_3, r36_4), r0_0, r0_1))) := by kernel_rfl
noncomputable abbrev spec_someBook.sg (n : Nat) : Sig := { params := spec_someBook.ps, res := spec_someBook.res, run := spec_someBook n }
theorem spec_someBook.call : Callable Tryz.prog 32 := ⟨Tryz.f32, Tryz.func32, by kernel_rfl, by kernel_rfl⟩
theorem spec_someBook.ok (n : Nat) : FC Tryz.prog [] 32 (spec_someBook.sg n) :=
  evalF_ok (C := spec_someBook.C) ⟨tb_ok, fun n _ _ h => tabOk (l := [(18, (spec_reader_one.sg n)), (16, (spec_someEvent.sg n)), (47, (spec_applyEvent.sg n))]) (all_cons ⟨spec_reader_one.ok n, spec_reader_one.call⟩ (all_cons ⟨spec_someEvent.ok n, spec_someEvent.call⟩ (all_cons ⟨spec_applyEvent.ok n, spec_applyEvent.call⟩ (all_nil)))) h, mixed, ar_ok, bld_ok, pts_ok⟩ spec_someBook.A Tryz.func32 spec_someBook.ps spec_someBook.res n
abbrev spec_anyClub.ps : List Pm := [.box 61 (.v (.pair (.slice (.int .u8)) (.int .i64)))]
abbrev spec_anyClub.res : List M := [.v (.pair (.slice (.int .i64)) (.pair (.slice (.pair (.int .i64) (.pair (.int .i64) (.slice (.int .i64))))) (.pair (.int .i64) (.pair (.int .i64) (.int .i64)))))]
noncomputable def spec_anyClub.C : Cfg := { tb := tb, tab := fun n f => Refl.look [(33, (spec_firstClub.sg n)), (32, (spec_someBook.sg n)), (17, (spec_reader_pick.sg n)), (18, (spec_reader_one.sg n))] f, gl := [], ar := ar, bld := bld, pts := pts }
noncomputable def spec_anyClub.A : Ann := { joins := [], loops := [], ids := [(1, [(8, [])]), (2, [(13, [])]), (6, [(23, []), (24, [])])], pids := [], nroots := 94 }
noncomputable def spec_anyClub (n : Nat) (x : List Int × Int) : Option ((List Int × List (Int × Int × List Int) × Int × Int × Int) × List Int × Int) := evalF spec_anyClub.C spec_anyClub.A Tryz.f14 spec_anyClub.ps spec_anyClub.res n x
noncomputable def spec_anyClub.K0 (_ : Nat) : Kont ((List Int × List (Int × Int × List Int) × Int × Int × Int) × List Int × Int) := finK spec_anyClub.C (Func.results Tryz.f14).toList spec_anyClub.ps spec_anyClub.res
theorem spec_anyClub.eq (n : Nat) (x0 : List Int × Int) : spec_anyClub n x0 = ((spec_firstClub n (x0.1, x0.2)).bind fun y0 => ((spec_someBook n ((y0.2.1, y0.2.2), y0.1)).bind fun y1 => ((spec_reader_pick n ((y1.2.2.1, y1.2.2.2), 20)).bind fun y2 => (if y2.1 = 0 then some (((y1.2.1.1, y1.2.1.2.1, y1.2.1.2.2.1, Go.RowKit.wrap64 (y1.2.1.2.2.2.1 + 1), y1.2.1.2.2.2.2), y2.2.1, y2.2.2)) else (if y2.1 = 1 then ((spec_reader_one n ((y2.2.1, y2.2.2), List.set (List.set (List.replicate 2 0) 0 (-1)) 1 1000)).bind fun y3 => some (((y1.2.1.1, y1.2.1.2.1, y1.2.1.2.2.1, y1.2.1.2.2.2.1, y3.1), y3.2.1, y3.2.2))) else (if y2.1 = 2 then some ((([], y1.2.1.2.1, y1.2.1.2.2.1, y1.2.1.2.2.2.1, y1.2.1.2.2.2.2), y2.2.1, y2.2.2)) else some (((y1.2.1.1, y1.2.1.2.1, y1.2.1.2.2.1, y1.2.1.2.2.2.1, y1.2.1.2.2.2.2), y2.2.1, y2.2.2)))))))) := by kernel_rfl
noncomputable abbrev spec_anyClub.sg (n : Nat) : Sig := { params := spec_anyClub.ps, res := spec_anyClub.res, run := spec_anyClub n }
theorem spec_anyClub.call : Callable Tryz.prog 14 := ⟨Tryz.f14, Tryz.func14, by kernel_rfl, by kernel_rfl⟩
theorem spec_anyClub.ok (n : Nat) : FC Tryz.prog [] 14 (spec_anyClub.sg n) :=
  evalF_ok (C := spec_anyClub.C) ⟨tb_ok, fun n _ _ h => tabOk (l := [(33, (spec_firstClub.sg n)), (32, (spec_someBook.sg n)), (17, (spec_reader_pick.sg n)), (18, (spec_reader_one.sg n))]) (all_cons ⟨spec_firstClub.ok n, spec_firstClub.call⟩ (all_cons ⟨spec_someBook.ok n, spec_someBook.call⟩ (all_cons ⟨spec_reader_pick.ok n, spec_reader_pick.call⟩ (all_cons ⟨spec_reader_one.ok n, spec_reader_one.call⟩ (all_nil))))) h, mixed, ar_ok, bld_ok, pts_ok⟩ spec_anyClub.A Tryz.func14 spec_anyClub.ps spec_anyClub.res n
abbrev spec_DrawApplyEvent.ps : List Pm := [.arg (.v (.slice (.int .u8)))]
abbrev spec_DrawApplyEvent.res : List M := [.v (.pair (.slice (.int .i64)) (.pair (.slice (.pair (.int .i64) (.pair (.int .i64) (.slice (.int .i64))))) (.pair (.int .i64) (.pair (.int .i64) (.int .i64))))), .v (.pair (.int .i64) (.pair (.int .i64) (.pair (.int .i64) (.pair (.int .i64) (.pair (.slice (.int .i64)) (.pair (.int .i64) (.int .i64)))))))]
noncomputable def spec_DrawApplyEvent.C : Cfg := { tb := tb, tab := fun n f => Refl.look [(13, (spec_newReader.sg n)), (14, (spec_anyClub.sg n)), (15, (spec_validClub.sg n)), (16, (spec_someEvent.sg n)), (17, (spec_reader_pick.sg n)), (18, (spec_reader_one.sg n))] f, gl := [], ar := ar, bld := bld, pts := pts }
noncomputable def spec_DrawApplyEvent.A : Ann := { joins := [], loops := [], ids := [(2, [(10, [])]), (4, [(13, [])]), (5, [(16, [])]), (6, [(18, [])]), (8, [(22, []), (23, [])]), (10, [(28, []), (29, [])]), (12, [(34, []), (35, [])])], pids := [], nroots := 103 }
noncomputable def spec_DrawApplyEvent (n : Nat) (x : List Int) : Option ((List Int × List (Int × Int × List Int) × Int × Int × Int) × Int × Int × Int × Int × List Int × Int × Int) := evalF spec_DrawApplyEvent.C spec_DrawApplyEvent.A Tryz.f8 spec_DrawApplyEvent.ps spec_DrawApplyEvent.res n x
noncomputable def spec_DrawApplyEvent.K0 (_ : Nat) : Kont ((List Int × List (Int × Int × List Int) × Int × Int × Int) × Int × Int × Int × Int × List Int × Int × Int) := finK spec_DrawApplyEvent.C (Func.results Tryz.f8).toList spec_DrawApplyEvent.ps spec_DrawApplyEvent.res
theorem spec_DrawApplyEvent.eq (n : Nat) (x0 : List Int) : spec_DrawApplyEvent n x0 = ((spec_newReader n x0).bind fun y0 => ((spec_anyClub n (y0.1, y0.2)).bind fun y1 => ((spec_validClub n (y1.1.1, y1.1.2.1, y1.1.2.2.1, y1.1.2.2.2.1, y1.1.2.2.2.2)).bind fun y2 => (if (y2) = true then ((spec_someEvent n ((y1.2.1, y1.2.2), y1.1.1, y1.1.2.1, y1.1.2.2.1, y1.1.2.2.2.1, y1.1.2.2.2.2)).bind fun y3 => ((spec_reader_pick n ((y3.2.1, y3.2.2), 16)).bind fun y4 => (if y4.1 = 0 then ((spec_reader_one n ((y4.2.1, y4.2.2), List.set (List.set (List.set (List.set (List.replicate 4 0) 0 8) 1 (-1)) 2 1) 3 3)).bind fun y5 => some (((y1.1.1, y1.1.2.1, y1.1.2.2.1, y1.1.2.2.2.1, y1.1.2.2.2.2), y5.1, y3.1.2.1, y3.1.2.2.1, y3.1.2.2.2.1, y3.1.2.2.2.2.1, y3.1.2.2.2.2.2.1, y3.1.2.2.2.2.2.2))) else (if y4.1 = 1 then ((spec_reader_one n ((y4.2.1, y4.2.2), List.set (List.set (List.set (List.set (List.replicate 4 0) 0 0) 1 100001) 2 1000001) 3 (-1))).bind fun y6 => some (((y1.1.1, y1.1.2.1, y1.1.2.2.1, y1.1.2.2.2.1, y1.1.2.2.2.2), y3.1.1, y3.1.2.1, y6.1, y3.1.2.2.2.1, y3.1.2.2.2.2.1, y3.1.2.2.2.2.2.1, y3.1.2.2.2.2.2.2))) else (if y4.1 = 2 then ((spec_reader_one n ((y4.2.1, y4.2.2), List.set (List.set (List.set (List.replicate 3 0) 0 (-1)) 1 12) 2 100)).bind fun y7 => some (((y1.1.1, y1.1.2.1, y1.1.2.2.1, y1.1.2.2.2.1, y1.1.2.2.2.2), y3.1.1, y7.1, y3.1.2.2.1, y3.1.2.2.2.1, y3.1.2.2.2.2.1, y3.1.2.2.2.2.2.1, y3.1.2.2.2.2.2.2))) else some (((y1.1.1, y1.1.2.1, y1.1.2.2.1, y1.1.2.2.2.1, y1.1.2.2.2.2), y3.1.1, y3.1.2.1, y3.1.2.2.1, y3.1.2.2.2.1, y3.1.2.2.2.2.1, y3.1.2.2.2.2.2.1, y3.1.2.2.2.2.2.2))))))) else ((spec_reader_pick n ((y1.2.1, y1.2.2), 16)).bind fun y8 => (if y8.1 = 0 then ((spec_reader_one n ((y8.2.1, y8.2.2), List.set (List.set (List.set (List.set (List.replicate 4 0) 0 8) 1 (-1)) 2 1) 3 3)).bind fun y9 => some (((y1.1.1, y1.1.2.1, y1.1.2.2.1, y1.1.2.2.2.1, y1.1.2.2.2.2), y9.1, 0, 0, 0, [], 0, 0))) else (if y8.1 = 1 then ((spec_reader_one n ((y8.2.1, y8.2.2), List.set (List.set (List.set (List.set (List.replicate 4 0) 0 0) 1 100001) 2 1000001) 3 (-1))).bind fun y10 => some (((y1.1.1, y1.1.2.1, y1.1.2.2.1, y1.1.2.2.2.1, y1.1.2.2.2.2), 7, 0, y10.1, 0, [], 0, 0))) else (if y8.1 = 2 then ((spec_reader_one n ((y8.2.1, y8.2.2), List.set (List.set (List.set (List.replicate 3 0) 0 (-1)) 1 12) 2 100)).bind fun y11 => some (((y1.1.1, y1.1.2.1, y1.1.2.2.1, y1.1.2.2.2.1, y1.1.2.2.2.2), 7, y11.1, 0, 0, [], 0, 0))) else some (((y1.1.1, y1.1.2.1, y1.1.2.2.1, y1.1.2.2.2.1, y1.1.2.2.2.2), 7, 0, 0, 0, [], 0, 0)))))))))) := by kernel_rfl
noncomputable abbrev spec_DrawApplyEvent.sg (n : Nat) : Sig := { params := spec_DrawApplyEvent.ps, res := spec_DrawApplyEvent.res, run := spec_DrawApplyEvent n }
theorem spec_DrawApplyEvent.call : Callable Tryz.prog 8 := ⟨Tryz.f8, Tryz.func8, by kernel_rfl, by kernel_rfl⟩
theorem spec_DrawApplyEvent.ok (n : Nat) : FC Tryz.prog [] 8 (spec_DrawApplyEvent.sg n) :=
  evalF_ok (C := spec_DrawApplyEvent.C) ⟨tb_ok, fun n _ _ h => tabOk (l := [(13, (spec_newReader.sg n)), (14, (spec_anyClub.sg n)), (15, (spec_validClub.sg n)), (16, (spec_someEvent.sg n)), (17, (spec_reader_pick.sg n)), (18, (spec_reader_one.sg n))]) (all_cons ⟨spec_newReader.ok n, spec_newReader.call⟩ (all_cons ⟨spec_anyClub.ok n, spec_anyClub.call⟩ (all_cons ⟨spec_validClub.ok n, spec_validClub.call⟩ (all_cons ⟨spec_someEvent.ok n, spec_someEvent.call⟩ (all_cons ⟨spec_reader_pick.ok n, spec_reader_pick.call⟩ (all_cons ⟨spec_reader_one.ok n, spec_reader_one.call⟩ (all_nil))))))) h, mixed, ar_ok, bld_ok, pts_ok⟩ spec_DrawApplyEvent.A Tryz.func8 spec_DrawApplyEvent.ps spec_DrawApplyEvent.res n
abbrev spec_DrawFormatEvent.ps : List Pm := [.arg (.v (.slice (.int .u8)))]
abbrev spec_DrawFormatEvent.res : List M := [.v (.pair (.int .i64) (.pair (.int .i64) (.pair (.int .i64) (.pair (.int .i64) (.pair (.slice (.int .i64)) (.pair (.int .i64) (.int .i64)))))))]
noncomputable def spec_DrawFormatEvent.C : Cfg := { tb := tb, tab := fun n f => Refl.look [(8, (spec_DrawApplyEvent.sg n))] f, gl := [], ar := ar, bld := bld, pts := pts }
noncomputable def spec_DrawFormatEvent.A : Ann := { joins := [], loops := [], ids := [(1, [(7, [])])], pids := [], nroots := 75 }
noncomputable def spec_DrawFormatEvent (n : Nat) (x : List Int) : Option (Int × Int × Int × Int × List Int × Int × Int) := evalF spec_DrawFormatEvent.C spec_DrawFormatEvent.A Tryz.f4 spec_DrawFormatEvent.ps spec_DrawFormatEvent.res n x
noncomputable def spec_DrawFormatEvent.K0 (_ : Nat) : Kont (Int × Int × Int × Int × List Int × Int × Int) := finK spec_DrawFormatEvent.C (Func.results Tryz.f4).toList spec_DrawFormatEvent.ps spec_DrawFormatEvent.res
theorem spec_DrawFormatEvent.eq (n : Nat) (x0 : List Int) : spec_DrawFormatEvent n x0 = ((spec_DrawApplyEvent n x0).bind fun y0 => some ((y0.2.1, y0.2.2.1, y0.2.2.2.1, y0.2.2.2.2.1, y0.2.2.2.2.2.1, y0.2.2.2.2.2.2.1, y0.2.2.2.2.2.2.2))) := by kernel_rfl
noncomputable abbrev spec_DrawFormatEvent.sg (n : Nat) : Sig := { params := spec_DrawFormatEvent.ps, res := spec_DrawFormatEvent.res, run := spec_DrawFormatEvent n }
theorem spec_DrawFormatEvent.call : Callable Tryz.prog 4 := ⟨Tryz.f4, Tryz.func4, by kernel_rfl, by kernel_rfl⟩
theorem spec_DrawFormatEvent.ok (n : Nat) : FC Tryz.prog [] 4 (spec_DrawFormatEvent.sg n) :=
  evalF_ok (C := spec_DrawFormatEvent.C) ⟨tb_ok, fun n _ _ h => tabOk (l := [(8, (spec_DrawApplyEvent.sg n))]) (all_cons ⟨spec_DrawApplyEvent.ok n, spec_DrawApplyEvent.call⟩ (all_nil)) h, mixed, ar_ok, bld_ok, pts_ok⟩ spec_DrawFormatEvent.A Tryz.func4 spec_DrawFormatEvent.ps spec_DrawFormatEvent.res n
abbrev strconv_Itoa.ps : List Pm := itPs
abbrev strconv_Itoa.res : List M := itRes
noncomputable def strconv_Itoa (n : Nat) : Int → Option ByteArray := itRun
noncomputable abbrev strconv_Itoa.sg (n : Nat) : Sig := { params := strconv_Itoa.ps, res := strconv_Itoa.res, run := strconv_Itoa n }
theorem strconv_Itoa.call : Callable Tryz.prog 19 := ⟨Tryz.f19, Tryz.func19, by kernel_rfl, by kernel_rfl⟩
theorem strconv_Itoa.ok (n : Nat) : FC Tryz.prog [g2] 19 (strconv_Itoa.sg n) := it_FC Tryz.laysM171 (.head _) (by kernel_rfl)
abbrev impl_ValidRate.ps : List Pm := [.arg (.v (.pair (.int .i64) (.int .i64)))]
abbrev impl_ValidRate.res : List M := [.v .bool]
noncomputable def impl_ValidRate.C : Cfg := { tb := tb, tab := fun n f => Refl.look [] f, gl := [], ar := ar, bld := bld, pts := pts }
noncomputable def impl_ValidRate.A : Ann := { joins := [], loops := [], ids := [], pids := [], nroots := 87 }
noncomputable def impl_ValidRate (n : Nat) (x : Int × Int) : Option (Bool) := evalF impl_ValidRate.C impl_ValidRate.A Tryz.f20 impl_ValidRate.ps impl_ValidRate.res n x
noncomputable def impl_ValidRate.K0 (_ : Nat) : Kont (Bool) := finK impl_ValidRate.C (Func.results Tryz.f20).toList impl_ValidRate.ps impl_ValidRate.res
theorem impl_ValidRate.eq (n : Nat) (x0 : Int × Int) : impl_ValidRate n x0 = (if x0.2 ≥ 1 then (if x0.2 ≤ 1000 then (if x0.1 ≥ 0 then some (Decidable.decide (x0.1 ≤ x0.2)) else some (Bool.false)) else some (Bool.false)) else some (Bool.false)) := by kernel_rfl
noncomputable abbrev impl_ValidRate.sg (n : Nat) : Sig := { params := impl_ValidRate.ps, res := impl_ValidRate.res, run := impl_ValidRate n }
theorem impl_ValidRate.call : Callable Tryz.prog 20 := ⟨Tryz.f20, Tryz.func20, by kernel_rfl, by kernel_rfl⟩
theorem impl_ValidRate.ok (n : Nat) : FC Tryz.prog [] 20 (impl_ValidRate.sg n) :=
  evalF_ok (C := impl_ValidRate.C) ⟨tb_ok, fun n _ _ h => tabOk (l := []) (all_nil) h, mixed, ar_ok, bld_ok, pts_ok⟩ impl_ValidRate.A Tryz.func20 impl_ValidRate.ps impl_ValidRate.res n
abbrev strings_Builder_WriteString.ps : List Pm := wsPs 73 5
abbrev strings_Builder_WriteString.res : List M := wsRes
noncomputable def strings_Builder_WriteString (n : Nat) : List Int × ByteArray → Option (Int × List Int × List Int) := wsRun
noncomputable abbrev strings_Builder_WriteString.sg (n : Nat) : Sig := { params := strings_Builder_WriteString.ps, res := strings_Builder_WriteString.res, run := strings_Builder_WriteString n }
theorem strings_Builder_WriteString.call : Callable Tryz.prog 40 := ⟨Tryz.f40, Tryz.func40, by kernel_rfl, by kernel_rfl⟩
theorem strings_Builder_WriteString.ok (n : Nat) : FC Tryz.prog [] 40 (strings_Builder_WriteString.sg n) := ws_FC Tryz.wsL Tryz.wsX
abbrev strings_Builder_String.ps : List Pm := stPs 73 5
abbrev strings_Builder_String.res : List M := stRes
noncomputable def strings_Builder_String (n : Nat) : List Int → Option ByteArray := stRun
noncomputable abbrev strings_Builder_String.sg (n : Nat) : Sig := { params := strings_Builder_String.ps, res := strings_Builder_String.res, run := strings_Builder_String n }
theorem strings_Builder_String.call : Callable Tryz.prog 41 := ⟨Tryz.f41, Tryz.func41, by kernel_rfl, by kernel_rfl⟩
theorem strings_Builder_String.ok (n : Nat) : FC Tryz.prog [] 41 (strings_Builder_String.sg n) := st_FC Tryz.lays169 Tryz.Builder_Extra_169
abbrev impl_showMembers.ps : List Pm := [.arg (.v (.slice (.int .i64)))]
abbrev impl_showMembers.res : List M := [.v .str, .v .bool]
noncomputable def impl_showMembers.C : Cfg := { tb := tb, tab := fun n f => Refl.look [(19, (strconv_Itoa.sg n)), (40, (strings_Builder_WriteString.sg n)), (41, (strings_Builder_String.sg n))] f, gl := [g2], ar := ar, bld := bld, pts := pts }
noncomputable def impl_showMembers.A : Ann := { joins := [], loops := [(3, { live := [4, 7, 8, 9], base := 25 })], ids := [(1, [(4, [4, 40])]), (7, [(20, []), (22, [22])]), (9, [(24, [])])], pids := [], nroots := 89 }
noncomputable def impl_showMembers (n : Nat) (x : List Int) : Option (ByteArray × Bool) := evalF impl_showMembers.C impl_showMembers.A Tryz.f21 impl_showMembers.ps impl_showMembers.res n x
noncomputable def impl_showMembers.K0 (_ : Nat) : Kont (ByteArray × Bool) := finK impl_showMembers.C (Func.results Tryz.f21).toList impl_showMembers.ps impl_showMembers.res
noncomputable def impl_showMembers.K1 (n : Nat) : Kont (ByteArray × Bool) := seqK (fun s' k => joinE impl_showMembers.A.joins (codeAt Tryz.f21 [1, 1, 1]) (fun s'' => evalC impl_showMembers.C impl_showMembers.A n (codeAt Tryz.f21 [1, 1, 1]) s'' k) s') (impl_showMembers.K0 n)
noncomputable def impl_showMembers.K2 (n : Nat) : Kont (ByteArray × Bool) := blockK 0 (impl_showMembers.K1 n)
noncomputable def impl_showMembers.l3 (n m3 : Nat) (x7 : List Int) (x8 x9 : Int) (r26 : List Int) : Option (ByteArray × Bool) := loopE (cutAt impl_showMembers.A.loops (codeAt Tryz.f21 [1, 1, 0, 1, 0, 0])) (fun s k => evalC impl_showMembers.C impl_showMembers.A n (codeAt Tryz.f21 [1, 1, 0, 1, 0, 0]) s k) m3 (St.of 25 89 [(4, .ptr 25 0 0), (7, .val (.slice (.int .i64)) x7), (8, .val (.int .i64) x8), (9, .val (.int .i64) x9)] [(25, .box 73 [.optr 25, .own 26]), (26, .row (.int .u8) 5 r26)] []) (impl_showMembers.K2 n)
theorem impl_showMembers.eq (n : Nat) (x0 : List Int) : impl_showMembers n x0 = impl_showMembers.l3 n n (x0) ((↑(List.length x0) : Int)) (0) ([]) := by kernel_rfl
theorem impl_showMembers.l3_zero (n : Nat) (x7 : List Int) (x8 x9 : Int) (r26 : List Int) : impl_showMembers.l3 n 0 x7 x8 x9 r26 = none := by kernel_rfl
theorem impl_showMembers.l3_succ (n m3 : Nat) (x7 : List Int) (x8 x9 : Int) (r26 : List Int) : impl_showMembers.l3 n (m3 + 1) x7 x8 x9 r26 = (if x9 < x8 then (if 0 ≤ x9 then (if x9 < (↑(List.length x7) : Int) then (if List.getD x7 (Int.toNat x9) 0 < 0 then some (({ data := #[] }, Bool.false)) else (if List.getD x7 (Int.toNat x9) 0 > 99 then some (({ data := #[] }, Bool.false)) else ((strconv_Itoa n (List.getD x7 (Int.toNat x9) 0)).bind fun y0 => (if ByteArray.size { data := #[(32 : UInt8)] } + ByteArray.size y0 ≤ Go.Refl.maxN then ((strings_Builder_WriteString n (r26, { data := #[(32 : UInt8)] } ++ y0)).bind fun y1 => impl_showMembers.l3 n m3 (x7) (x8) (Go.RowKit.wrap64 (x9 + 1)) y1.2.2) else none)))) else none) else none) else ((strings_Builder_String n r26).bind fun y2 => some ((y2, Bool.true)))) := by kernel_rfl
noncomputable abbrev impl_showMembers.sg (n : Nat) : Sig := { params := impl_showMembers.ps, res := impl_showMembers.res, run := impl_showMembers n }
theorem impl_showMembers.call : Callable Tryz.prog 21 := ⟨Tryz.f21, Tryz.func21, by kernel_rfl, by kernel_rfl⟩
theorem impl_showMembers.ok (n : Nat) : FC Tryz.prog [g2] 21 (impl_showMembers.sg n) :=
  evalF_ok (C := impl_showMembers.C) ⟨tb_ok, fun n _ _ h => tabOk (l := [(19, (strconv_Itoa.sg n)), (40, (strings_Builder_WriteString.sg n)), (41, (strings_Builder_String.sg n))]) (all_cons ⟨strconv_Itoa.ok n, strconv_Itoa.call⟩ (all_cons ⟨(.mono (gl := []) (gl' := [g2]) (all_nil) (strings_Builder_WriteString.ok n)), strings_Builder_WriteString.call⟩ (all_cons ⟨(.mono (gl := []) (gl' := [g2]) (all_nil) (strings_Builder_String.ok n)), strings_Builder_String.call⟩ (all_nil)))) h, mixed, ar_ok, bld_ok, pts_ok⟩ impl_showMembers.A Tryz.func21 impl_showMembers.ps impl_showMembers.res n
abbrev impl_ShowMoney.ps : List Pm := [.arg (.v (.int .i64))]
abbrev impl_ShowMoney.res : List M := [.v .str]
noncomputable def impl_ShowMoney.C : Cfg := { tb := tb, tab := fun n f => Refl.look [(19, (strconv_Itoa.sg n))] f, gl := [g2], ar := ar, bld := bld, pts := pts }
noncomputable def impl_ShowMoney.A : Ann := { joins := [], loops := [], ids := [(3, [(12, [])]), (6, [(20, [])])], pids := [], nroots := 88 }
noncomputable def impl_ShowMoney (n : Nat) (x : Int) : Option (ByteArray) := evalF impl_ShowMoney.C impl_ShowMoney.A Tryz.f42 impl_ShowMoney.ps impl_ShowMoney.res n x
noncomputable def impl_ShowMoney.K0 (_ : Nat) : Kont (ByteArray) := finK impl_ShowMoney.C (Func.results Tryz.f42).toList impl_ShowMoney.ps impl_ShowMoney.res
theorem impl_ShowMoney.eq (n : Nat) (x0 : Int) : impl_ShowMoney n x0 = (if x0 < 0 then some ({ data := #[] }) else (if x0 > 1000000 then some ({ data := #[] }) else ((strconv_Itoa n (Int.tmod x0 100)).bind fun y0 => (if (↑(ByteArray.size y0) : Int) < 2 then (if ByteArray.size { data := #[(48 : UInt8)] } + ByteArray.size y0 ≤ Go.Refl.maxN then ((strconv_Itoa n (Go.RowKit.wrap64 (Int.tdiv x0 100))).bind fun y1 => (if ByteArray.size y1 + ByteArray.size { data := #[(46 : UInt8)] } ≤ Go.Refl.maxN then (if ByteArray.size (y1 ++ { data := #[(46 : UInt8)] }) + ByteArray.size ({ data := #[(48 : UInt8)] } ++ y0) ≤ Go.Refl.maxN then some (y1 ++ { data := #[(46 : UInt8)] } ++ ({ data := #[(48 : UInt8)] } ++ y0)) else none) else none)) else none) else ((strconv_Itoa n (Go.RowKit.wrap64 (Int.tdiv x0 100))).bind fun y2 => (if ByteArray.size y2 + ByteArray.size { data := #[(46 : UInt8)] } ≤ Go.Refl.maxN then (if ByteArray.size (y2 ++ { data := #[(46 : UInt8)] }) + ByteArray.size y0 ≤ Go.Refl.maxN then some (y2 ++ { data := #[(46 : UInt8)] } ++ y0) else none) else none)))))) := by kernel_rfl
noncomputable abbrev impl_ShowMoney.sg (n : Nat) : Sig := { params := impl_ShowMoney.ps, res := impl_ShowMoney.res, run := impl_ShowMoney n }
theorem impl_ShowMoney.call : Callable Tryz.prog 42 := ⟨Tryz.f42, Tryz.func42, by kernel_rfl, by kernel_rfl⟩
theorem impl_ShowMoney.ok (n : Nat) : FC Tryz.prog [g2] 42 (impl_ShowMoney.sg n) :=
  evalF_ok (C := impl_ShowMoney.C) ⟨tb_ok, fun n _ _ h => tabOk (l := [(19, (strconv_Itoa.sg n))]) (all_cons ⟨strconv_Itoa.ok n, strconv_Itoa.call⟩ (all_nil)) h, mixed, ar_ok, bld_ok, pts_ok⟩ impl_ShowMoney.A Tryz.func42 impl_ShowMoney.ps impl_ShowMoney.res n
abbrev impl_showAmounts.ps : List Pm := [.arg (.v (.slice (.int .i64)))]
abbrev impl_showAmounts.res : List M := [.v .str, .v .bool]
noncomputable def impl_showAmounts.C : Cfg := { tb := tb, tab := fun n f => Refl.look [(42, (impl_ShowMoney.sg n))] f, gl := [g2], ar := ar, bld := bld, pts := pts }
noncomputable def impl_showAmounts.A : Ann := { joins := [], loops := [(3, { live := [4, 8, 9, 10], base := 24 })], ids := [(5, [(15, [])])], pids := [], nroots := 88 }
noncomputable def impl_showAmounts (n : Nat) (x : List Int) : Option (ByteArray × Bool) := evalF impl_showAmounts.C impl_showAmounts.A Tryz.f22 impl_showAmounts.ps impl_showAmounts.res n x
noncomputable def impl_showAmounts.K0 (_ : Nat) : Kont (ByteArray × Bool) := finK impl_showAmounts.C (Func.results Tryz.f22).toList impl_showAmounts.ps impl_showAmounts.res
noncomputable def impl_showAmounts.K1 (n : Nat) : Kont (ByteArray × Bool) := seqK (fun s' k => joinE impl_showAmounts.A.joins (codeAt Tryz.f22 [1, 1, 1]) (fun s'' => evalC impl_showAmounts.C impl_showAmounts.A n (codeAt Tryz.f22 [1, 1, 1]) s'' k) s') (impl_showAmounts.K0 n)
noncomputable def impl_showAmounts.K2 (n : Nat) : Kont (ByteArray × Bool) := blockK 0 (impl_showAmounts.K1 n)
noncomputable def impl_showAmounts.l3 (n m3 : Nat) (x4 : ByteArray) (x8 : List Int) (x9 x10 : Int) : Option (ByteArray × Bool) := loopE (cutAt impl_showAmounts.A.loops (codeAt Tryz.f22 [1, 1, 0, 1, 0, 0])) (fun s k => evalC impl_showAmounts.C impl_showAmounts.A n (codeAt Tryz.f22 [1, 1, 0, 1, 0, 0]) s k) m3 (St.of 24 88 [(4, .val .str x4), (8, .val (.slice (.int .i64)) x8), (9, .val (.int .i64) x9), (10, .val (.int .i64) x10)] [] []) (impl_showAmounts.K2 n)
theorem impl_showAmounts.eq (n : Nat) (x0 : List Int) : impl_showAmounts n x0 = impl_showAmounts.l3 n n ({ data := #[] }) (x0) ((↑(List.length x0) : Int)) (0) := by kernel_rfl
theorem impl_showAmounts.l3_zero (n : Nat) (x4 : ByteArray) (x8 : List Int) (x9 x10 : Int) : impl_showAmounts.l3 n 0 x4 x8 x9 x10 = none := by kernel_rfl
theorem impl_showAmounts.l3_succ (n m3 : Nat) (x4 : ByteArray) (x8 : List Int) (x9 x10 : Int) : impl_showAmounts.l3 n (m3 + 1) x4 x8 x9 x10 = (if x10 < x9 then (if 0 ≤ x10 then (if x10 < (↑(List.length x8) : Int) then ((impl_ShowMoney n (List.getD x8 (Int.toNat x10) 0)).bind fun y0 => (if y0 = { data := #[] } then some (({ data := #[] }, Bool.false)) else (if ByteArray.size { data := #[(32 : UInt8)] } + ByteArray.size y0 ≤ Go.Refl.maxN then (if ByteArray.size x4 + ByteArray.size ({ data := #[(32 : UInt8)] } ++ y0) ≤ Go.Refl.maxN then impl_showAmounts.l3 n m3 (x4 ++ ({ data := #[(32 : UInt8)] } ++ y0)) (x8) (x9) (Go.RowKit.wrap64 (x10 + 1)) else none) else none))) else none) else none) else some ((x4, Bool.true))) := by kernel_rfl
noncomputable abbrev impl_showAmounts.sg (n : Nat) : Sig := { params := impl_showAmounts.ps, res := impl_showAmounts.res, run := impl_showAmounts n }
theorem impl_showAmounts.call : Callable Tryz.prog 22 := ⟨Tryz.f22, Tryz.func22, by kernel_rfl, by kernel_rfl⟩
theorem impl_showAmounts.ok (n : Nat) : FC Tryz.prog [g2] 22 (impl_showAmounts.sg n) :=
  evalF_ok (C := impl_showAmounts.C) ⟨tb_ok, fun n _ _ h => tabOk (l := [(42, (impl_ShowMoney.sg n))]) (all_cons ⟨impl_ShowMoney.ok n, impl_ShowMoney.call⟩ (all_nil)) h, mixed, ar_ok, bld_ok, pts_ok⟩ impl_showAmounts.A Tryz.func22 impl_showAmounts.ps impl_showAmounts.res n
abbrev impl_showDetails.ps : List Pm := [.arg (.v (.pair (.int .i64) (.pair (.int .i64) (.pair (.int .i64) (.pair (.int .i64) (.pair (.slice (.int .i64)) (.pair (.int .i64) (.int .i64))))))))]
abbrev impl_showDetails.res : List M := [.v .str, .v .bool]
noncomputable def impl_showDetails.C : Cfg := { tb := tb, tab := fun n f => Refl.look [(19, (strconv_Itoa.sg n)), (20, (impl_ValidRate.sg n)), (21, (impl_showMembers.sg n)), (22, (impl_showAmounts.sg n))] f, gl := [g2], ar := ar, bld := bld, pts := pts }
noncomputable def impl_showDetails.A : Ann := { joins := [], loops := [], ids := [(6, [(22, []), (28, []), (32, [])]), (7, [(36, []), (37, [])]), (10, [(48, []), (49, [])]), (13, [(59, []), (60, [])]), (16, [(80, [])])], pids := [], nroots := 166 }
noncomputable def impl_showDetails (n : Nat) (x : Int × Int × Int × Int × List Int × Int × Int) : Option (ByteArray × Bool) := evalF impl_showDetails.C impl_showDetails.A Tryz.f9 impl_showDetails.ps impl_showDetails.res n x
noncomputable def impl_showDetails.K0 (_ : Nat) : Kont (ByteArray × Bool) := finK impl_showDetails.C (Func.results Tryz.f9).toList impl_showDetails.ps impl_showDetails.res
theorem impl_showDetails.eq (n : Nat) (x0 : Int × Int × Int × Int × List Int × Int × Int) : impl_showDetails n x0 = (if x0.1 = 0 then (if x0.1 = 0 then some (({ data := #[] }, Bool.true)) else (if x0.1 = 6 then ((strconv_Itoa n x0.2.2.2.2.2.1).bind fun y0 => (if ByteArray.size { data := #[(32 : UInt8)] } + ByteArray.size y0 ≤ Go.Refl.maxN then (if ByteArray.size ({ data := #[(32 : UInt8)] } ++ y0) + ByteArray.size { data := #[(32 : UInt8)] } ≤ Go.Refl.maxN then ((strconv_Itoa n x0.2.2.2.2.2.2).bind fun y1 => (if ByteArray.size ({ data := #[(32 : UInt8)] } ++ y0 ++ { data := #[(32 : UInt8)] }) + ByteArray.size y1 ≤ Go.Refl.maxN then ((impl_ValidRate n (x0.2.2.2.2.2.1, x0.2.2.2.2.2.2)).bind fun y2 => some (({ data := #[(32 : UInt8)] } ++ y0 ++ { data := #[(32 : UInt8)] } ++ y1, y2))) else none)) else none) else none)) else ((impl_showMembers n (List.set (List.replicate 1 0) 0 x0.2.1)).bind fun y3 => (if x0.1 = 5 then some ((y3.1, y3.2)) else ((impl_showAmounts n (List.set (List.replicate 1 0) 0 x0.2.2.1)).bind fun y4 => (if x0.1 = 4 then ((impl_showAmounts n (List.set (List.replicate 1 0) 0 x0.2.2.2.1)).bind fun y5 => (if ByteArray.size y3.1 + ByteArray.size y4.1 ≤ Go.Refl.maxN then (if ByteArray.size (y3.1 ++ y4.1) + ByteArray.size y5.1 ≤ Go.Refl.maxN then (if y3.2 = Bool.true then (if y4.2 = Bool.true then some ((y3.1 ++ y4.1 ++ y5.1, y5.2)) else some ((y3.1 ++ y4.1 ++ y5.1, Bool.false))) else some ((y3.1 ++ y4.1 ++ y5.1, Bool.false))) else none) else none)) else (if x0.1 = 3 then ((impl_showMembers n x0.2.2.2.2.1).bind fun y6 => (if ByteArray.size y3.1 + ByteArray.size y4.1 ≤ Go.Refl.maxN then (if ByteArray.size (y3.1 ++ y4.1) + ByteArray.size y6.1 ≤ Go.Refl.maxN then (if y3.2 = Bool.true then (if y4.2 = Bool.true then some ((y3.1 ++ y4.1 ++ y6.1, y6.2)) else some ((y3.1 ++ y4.1 ++ y6.1, Bool.false))) else some ((y3.1 ++ y4.1 ++ y6.1, Bool.false))) else none) else none)) else (if ByteArray.size y3.1 + ByteArray.size y4.1 ≤ Go.Refl.maxN then (if y3.2 = Bool.true then some ((y3.1 ++ y4.1, y4.2)) else some ((y3.1 ++ y4.1, Bool.false))) else none)))))))) else (if x0.1 = 7 then some (({ data := #[] }, Bool.true)) else (if x0.1 = 6 then ((strconv_Itoa n x0.2.2.2.2.2.1).bind fun y7 => (if ByteArray.size { data := #[(32 : UInt8)] } + ByteArray.size y7 ≤ Go.Refl.maxN then (if ByteArray.size ({ data := #[(32 : UInt8)] } ++ y7) + ByteArray.size { data := #[(32 : UInt8)] } ≤ Go.Refl.maxN then ((strconv_Itoa n x0.2.2.2.2.2.2).bind fun y8 => (if ByteArray.size ({ data := #[(32 : UInt8)] } ++ y7 ++ { data := #[(32 : UInt8)] }) + ByteArray.size y8 ≤ Go.Refl.maxN then ((impl_ValidRate n (x0.2.2.2.2.2.1, x0.2.2.2.2.2.2)).bind fun y9 => some (({ data := #[(32 : UInt8)] } ++ y7 ++ { data := #[(32 : UInt8)] } ++ y8, y9))) else none)) else none) else none)) else ((impl_showMembers n (List.set (List.replicate 1 0) 0 x0.2.1)).bind fun y10 => (if x0.1 = 5 then some ((y10.1, y10.2)) else ((impl_showAmounts n (List.set (List.replicate 1 0) 0 x0.2.2.1)).bind fun y11 => (if x0.1 = 4 then ((impl_showAmounts n (List.set (List.replicate 1 0) 0 x0.2.2.2.1)).bind fun y12 => (if ByteArray.size y10.1 + ByteArray.size y11.1 ≤ Go.Refl.maxN then (if ByteArray.size (y10.1 ++ y11.1) + ByteArray.size y12.1 ≤ Go.Refl.maxN then (if y10.2 = Bool.true then (if y11.2 = Bool.true then some ((y10.1 ++ y11.1 ++ y12.1, y12.2)) else some ((y10.1 ++ y11.1 ++ y12.1, Bool.false))) else some ((y10.1 ++ y11.1 ++ y12.1, Bool.false))) else none) else none)) else (if x0.1 = 3 then ((impl_showMembers n x0.2.2.2.2.1).bind fun y13 => (if ByteArray.size y10.1 + ByteArray.size y11.1 ≤ Go.Refl.maxN then (if ByteArray.size (y10.1 ++ y11.1) + ByteArray.size y13.1 ≤ Go.Refl.maxN then (if y10.2 = Bool.true then (if y11.2 = Bool.true then some ((y10.1 ++ y11.1 ++ y13.1, y13.2)) else some ((y10.1 ++ y11.1 ++ y13.1, Bool.false))) else some ((y10.1 ++ y11.1 ++ y13.1, Bool.false))) else none) else none)) else (if ByteArray.size y10.1 + ByteArray.size y11.1 ≤ Go.Refl.maxN then (if y10.2 = Bool.true then some ((y10.1 ++ y11.1, y11.2)) else some ((y10.1 ++ y11.1, Bool.false))) else none))))))))) := by kernel_rfl
noncomputable abbrev impl_showDetails.sg (n : Nat) : Sig := { params := impl_showDetails.ps, res := impl_showDetails.res, run := impl_showDetails n }
theorem impl_showDetails.call : Callable Tryz.prog 9 := ⟨Tryz.f9, Tryz.func9, by kernel_rfl, by kernel_rfl⟩
theorem impl_showDetails.ok (n : Nat) : FC Tryz.prog [g2] 9 (impl_showDetails.sg n) :=
  evalF_ok (C := impl_showDetails.C) ⟨tb_ok, fun n _ _ h => tabOk (l := [(19, (strconv_Itoa.sg n)), (20, (impl_ValidRate.sg n)), (21, (impl_showMembers.sg n)), (22, (impl_showAmounts.sg n))]) (all_cons ⟨strconv_Itoa.ok n, strconv_Itoa.call⟩ (all_cons ⟨(.mono (gl := []) (gl' := [g2]) (all_nil) (impl_ValidRate.ok n)), impl_ValidRate.call⟩ (all_cons ⟨impl_showMembers.ok n, impl_showMembers.call⟩ (all_cons ⟨impl_showAmounts.ok n, impl_showAmounts.call⟩ (all_nil))))) h, mixed, ar_ok, bld_ok, pts_ok⟩ impl_showDetails.A Tryz.func9 impl_showDetails.ps impl_showDetails.res n
abbrev impl_FormatEvent.ps : List Pm := [.arg (.v (.pair (.int .i64) (.pair (.int .i64) (.pair (.int .i64) (.pair (.int .i64) (.pair (.slice (.int .i64)) (.pair (.int .i64) (.int .i64))))))))]
abbrev impl_FormatEvent.res : List M := [.v .str]
noncomputable def impl_FormatEvent.C : Cfg := { tb := tb, tab := fun n f => Refl.look [(9, (impl_showDetails.sg n))] f, gl := [g0, g2], ar := ar, bld := bld, pts := pts }
noncomputable def impl_FormatEvent.A : Ann := { joins := [], loops := [], ids := [(3, [(15, [])])], pids := [], nroots := 90 }
noncomputable def impl_FormatEvent (n : Nat) (x : Int × Int × Int × Int × List Int × Int × Int) : Option (ByteArray) := evalF impl_FormatEvent.C impl_FormatEvent.A Tryz.f5 impl_FormatEvent.ps impl_FormatEvent.res n x
noncomputable def impl_FormatEvent.K0 (_ : Nat) : Kont (ByteArray) := finK impl_FormatEvent.C (Func.results Tryz.f5).toList impl_FormatEvent.ps impl_FormatEvent.res
theorem impl_FormatEvent.eq (n : Nat) (x0 : Int × Int × Int × Int × List Int × Int × Int) : impl_FormatEvent n x0 = (if x0.1 < 0 then some ({ data := #[] }) else (if x0.1 > 7 then some ({ data := #[] }) else ((impl_showDetails n (x0.1, x0.2.1, x0.2.2.1, x0.2.2.2.1, x0.2.2.2.2.1, x0.2.2.2.2.2.1, x0.2.2.2.2.2.2)).bind fun y0 => (if (!y0.2) = true then some ({ data := #[] }) else (if 0 ≤ x0.1 then (if x0.1 < (↑8 : Int) then (if ByteArray.size (List.getD [{ data := #[(106 : UInt8), (111 : UInt8), (105 : UInt8), (110 : UInt8)] }, { data := #[(115 : UInt8), (97 : UInt8), (118 : UInt8), (101 : UInt8)] }, { data := #[(116 : UInt8), (97 : UInt8), (107 : UInt8), (101 : UInt8)] }, { data := #[(108 : UInt8), (101 : UInt8), (110 : UInt8), (100 : UInt8)] }, { data := #[(114 : UInt8), (101 : UInt8), (112 : UInt8), (97 : UInt8), (121 : UInt8)] }, { data := #[(102 : UInt8), (97 : UInt8), (105 : UInt8), (108 : UInt8)] }, { data := #[(110 : UInt8), (105 : UInt8), (103 : UInt8), (104 : UInt8), (116 : UInt8)] }, { data := #[(115 : UInt8), (104 : UInt8), (97 : UInt8), (114 : UInt8), (101 : UInt8)] }] (Int.toNat x0.1) ByteArray.empty) + ByteArray.size y0.1 ≤ Go.Refl.maxN then some (List.getD [{ data := #[(106 : UInt8), (111 : UInt8), (105 : UInt8), (110 : UInt8)] }, { data := #[(115 : UInt8), (97 : UInt8), (118 : UInt8), (101 : UInt8)] }, { data := #[(116 : UInt8), (97 : UInt8), (107 : UInt8), (101 : UInt8)] }, { data := #[(108 : UInt8), (101 : UInt8), (110 : UInt8), (100 : UInt8)] }, { data := #[(114 : UInt8), (101 : UInt8), (112 : UInt8), (97 : UInt8), (121 : UInt8)] }, { data := #[(102 : UInt8), (97 : UInt8), (105 : UInt8), (108 : UInt8)] }, { data := #[(110 : UInt8), (105 : UInt8), (103 : UInt8), (104 : UInt8), (116 : UInt8)] }, { data := #[(115 : UInt8), (104 : UInt8), (97 : UInt8), (114 : UInt8), (101 : UInt8)] }] (Int.toNat x0.1) ByteArray.empty ++ y0.1) else none) else none) else none))))) := by kernel_rfl
noncomputable abbrev impl_FormatEvent.sg (n : Nat) : Sig := { params := impl_FormatEvent.ps, res := impl_FormatEvent.res, run := impl_FormatEvent n }
theorem impl_FormatEvent.call : Callable Tryz.prog 5 := ⟨Tryz.f5, Tryz.func5, by kernel_rfl, by kernel_rfl⟩
theorem impl_FormatEvent.ok (n : Nat) : FC Tryz.prog [g0, g2] 5 (impl_FormatEvent.sg n) :=
  evalF_ok (C := impl_FormatEvent.C) ⟨tb_ok, fun n _ _ h => tabOk (l := [(9, (impl_showDetails.sg n))]) (all_cons ⟨(.mono (gl := [g2]) (gl' := [g0, g2]) (all_cons (.tail _ (.head _)) (all_nil)) (impl_showDetails.ok n)), impl_showDetails.call⟩ (all_nil)) h, mixed, ar_ok, bld_ok, pts_ok⟩ impl_FormatEvent.A Tryz.func5 impl_FormatEvent.ps impl_FormatEvent.res n
abbrev spec_number.ps : List Pm := [.arg (.v (.int .i64))]
abbrev spec_number.res : List M := [.v .str]
noncomputable def spec_number.C (self : pdens spec_number.ps → Option (dens (spec_number.res ++ outs spec_number.ps))) : Cfg := { tb := tb, tab := fun n f => Refl.look [(24, { params := spec_number.ps, res := spec_number.res, run := self })] f, gl := [], ar := ar, bld := bld, pts := pts }
noncomputable def spec_number.A : Ann := { joins := [], loops := [], ids := [(3, [(11, []), (14, [])])], pids := [], nroots := 80 }
noncomputable def spec_number.S (self : Int → Option ByteArray) (n : Nat) (x : Int) : Option (ByteArray) := evalF (spec_number.C self) spec_number.A Tryz.f24 spec_number.ps spec_number.res n x
noncomputable def spec_number (n : Nat) : Int → Option (ByteArray) := Nat.rec (fun _ => none) (fun n self => spec_number.S self n) n
theorem spec_number.zero (x : Int) : spec_number 0 x = none := rfl
theorem spec_number.succ (n : Nat) (x : Int) : spec_number (n + 1) x = spec_number.S (spec_number n) n x := by kernel_rfl
noncomputable def spec_number.K0 (self : Int → Option ByteArray) (_ : Nat) : Kont (ByteArray) := finK (spec_number.C self) (Func.results Tryz.f24).toList spec_number.ps spec_number.res
theorem spec_number.eq (self : Int → Option ByteArray) (n : Nat) (x0 : Int) : spec_number.S self n x0 = (if x0 < 10 then (if 0 ≤ x0 then (if x0 ≤ Go.RowKit.wrap64 (x0 + 1) then (if Go.RowKit.wrap64 (x0 + 1) ≤ (↑(ByteArray.size { data := #[(48 : UInt8), (49 : UInt8), (50 : UInt8), (51 : UInt8), (52 : UInt8), (53 : UInt8), (54 : UInt8), (55 : UInt8), (56 : UInt8), (57 : UInt8)] }) : Int) then some (ByteArray.extract { data := #[(48 : UInt8), (49 : UInt8), (50 : UInt8), (51 : UInt8), (52 : UInt8), (53 : UInt8), (54 : UInt8), (55 : UInt8), (56 : UInt8), (57 : UInt8)] } (Int.toNat x0) (Int.toNat (Go.RowKit.wrap64 (x0 + 1)))) else none) else none) else none) else ((self (Go.RowKit.wrap64 (Int.tdiv x0 10))).bind fun y0 => ((self (Int.tmod x0 10)).bind fun y1 => (if ByteArray.size y0 + ByteArray.size y1 ≤ Go.Refl.maxN then some (y0 ++ y1) else none)))) := by kernel_rfl
noncomputable abbrev spec_number.sg (n : Nat) : Sig := { params := spec_number.ps, res := spec_number.res, run := spec_number n }
theorem spec_number.call : Callable Tryz.prog 24 := ⟨Tryz.f24, Tryz.func24, by kernel_rfl, by kernel_rfl⟩
theorem spec_number.okS {self : pdens spec_number.ps → Option (dens (spec_number.res ++ outs spec_number.ps))} (hs : FC Tryz.prog [] 24 { params := spec_number.ps, res := spec_number.res, run := self }) (n : Nat) : FC Tryz.prog [] 24 { params := spec_number.ps, res := spec_number.res, run := spec_number.S self n } :=
  evalF_ok (C := spec_number.C self) ⟨tb_ok, fun n _ _ h => tabOk (l := [(24, { params := spec_number.ps, res := spec_number.res, run := self })]) (all_cons ⟨hs, spec_number.call⟩ (all_nil)) h, mixed, ar_ok, bld_ok, pts_ok⟩ spec_number.A Tryz.func24 spec_number.ps spec_number.res n
theorem spec_number.ok : (n : Nat) → FC Tryz.prog [] 24 (spec_number.sg n)
  | 0 => fun _ _ h => by cases h
  | n + 1 => spec_number.okS (spec_number.ok n) n
abbrev spec_money.ps : List Pm := [.arg (.v (.int .i64))]
abbrev spec_money.res : List M := [.v .str]
noncomputable def spec_money.C : Cfg := { tb := tb, tab := fun n f => Refl.look [(24, (spec_number.sg n))] f, gl := [], ar := ar, bld := bld, pts := pts }
noncomputable def spec_money.A : Ann := { joins := [], loops := [], ids := [(1, [(5, []), (10, []), (14, [])])], pids := [], nroots := 80 }
noncomputable def spec_money (n : Nat) (x : Int) : Option (ByteArray) := evalF spec_money.C spec_money.A Tryz.f27 spec_money.ps spec_money.res n x
noncomputable def spec_money.K0 (_ : Nat) : Kont (ByteArray) := finK spec_money.C (Func.results Tryz.f27).toList spec_money.ps spec_money.res
theorem spec_money.eq (n : Nat) (x0 : Int) : spec_money n x0 = ((spec_number n (Go.RowKit.wrap64 (Int.tdiv x0 100))).bind fun y0 => (if ByteArray.size y0 + ByteArray.size { data := #[(46 : UInt8)] } ≤ Go.Refl.maxN then ((spec_number n (Int.tmod (Go.RowKit.wrap64 (Int.tdiv x0 10)) 10)).bind fun y1 => (if ByteArray.size (y0 ++ { data := #[(46 : UInt8)] }) + ByteArray.size y1 ≤ Go.Refl.maxN then ((spec_number n (Int.tmod x0 10)).bind fun y2 => (if ByteArray.size (y0 ++ { data := #[(46 : UInt8)] } ++ y1) + ByteArray.size y2 ≤ Go.Refl.maxN then some (y0 ++ { data := #[(46 : UInt8)] } ++ y1 ++ y2) else none)) else none)) else none)) := by kernel_rfl
noncomputable abbrev spec_money.sg (n : Nat) : Sig := { params := spec_money.ps, res := spec_money.res, run := spec_money n }
theorem spec_money.call : Callable Tryz.prog 27 := ⟨Tryz.f27, Tryz.func27, by kernel_rfl, by kernel_rfl⟩
theorem spec_money.ok (n : Nat) : FC Tryz.prog [] 27 (spec_money.sg n) :=
  evalF_ok (C := spec_money.C) ⟨tb_ok, fun n _ _ h => tabOk (l := [(24, (spec_number.sg n))]) (all_cons ⟨spec_number.ok n, spec_number.call⟩ (all_nil)) h, mixed, ar_ok, bld_ok, pts_ok⟩ spec_money.A Tryz.func27 spec_money.ps spec_money.res n
abbrev spec_showEvent.ps : List Pm := [.arg (.v (.pair (.int .i64) (.pair (.int .i64) (.pair (.int .i64) (.pair (.int .i64) (.pair (.slice (.int .i64)) (.pair (.int .i64) (.int .i64))))))))]
abbrev spec_showEvent.res : List M := [.v .str]
noncomputable def spec_showEvent.C : Cfg := { tb := tb, tab := fun n f => Refl.look [(23, (spec_validRate.sg n)), (24, (spec_number.sg n)), (25, (spec_inRange.sg n)), (26, (spec_validAmount.sg n)), (27, (spec_money.sg n))] f, gl := [], ar := ar, bld := bld, pts := pts }
noncomputable def spec_showEvent.A : Ann := { joins := [], loops := [(27, { live := [1, 3, 4], base := 120 })], ids := [(7, [(15, [])]), (8, [(19, []), (25, [])]), (10, [(29, [])]), (13, [(36, [])]), (14, [(40, [])]), (18, [(48, []), (53, [])]), (20, [(59, []), (64, [])]), (22, [(70, [])]), (23, [(73, []), (78, []), (83, [])]), (25, [(89, []), (94, [])]), (29, [(108, [])]), (31, [(117, [])])], pids := [], nroots := 184 }
noncomputable def spec_showEvent (n : Nat) (x : Int × Int × Int × Int × List Int × Int × Int) : Option (ByteArray) := evalF spec_showEvent.C spec_showEvent.A Tryz.f10 spec_showEvent.ps spec_showEvent.res n x
noncomputable def spec_showEvent.K0 (_ : Nat) : Kont (ByteArray) := finK spec_showEvent.C (Func.results Tryz.f10).toList spec_showEvent.ps spec_showEvent.res
noncomputable def spec_showEvent.K1 (n : Nat) : Kont (ByteArray) := seqK (fun s' k => joinE spec_showEvent.A.joins (codeAt Tryz.f10 [1, 1, 1, 1, 1, 1]) (fun s'' => evalC spec_showEvent.C spec_showEvent.A n (codeAt Tryz.f10 [1, 1, 1, 1, 1, 1]) s'' k) s') (spec_showEvent.K0 n)
noncomputable def spec_showEvent.K2 (n : Nat) : Kont (ByteArray) := blockK 1 (spec_showEvent.K1 n)
noncomputable def spec_showEvent.K3 (n : Nat) : Kont (ByteArray) := seqK (fun s' k => joinE spec_showEvent.A.joins (codeAt Tryz.f10 [1, 1, 1, 1, 1, 0, 1, 0, 1, 1, 1, 1, 1, 1, 1, 0, 1, 1]) (fun s'' => evalC spec_showEvent.C spec_showEvent.A n (codeAt Tryz.f10 [1, 1, 1, 1, 1, 0, 1, 0, 1, 1, 1, 1, 1, 1, 1, 0, 1, 1]) s'' k) s') (spec_showEvent.K2 n)
noncomputable def spec_showEvent.K4 (n : Nat) : Kont (ByteArray) := blockK 2 (spec_showEvent.K3 n)
noncomputable def spec_showEvent.l27 (n m27 : Nat) (x3 : ByteArray) (x4 r120_0 : Int) (r120_1 r120_2 r120_3 : Int) (r120_4 : List Int) (r120_5 r120_6 : Int) : Option (ByteArray) := loopE (cutAt spec_showEvent.A.loops (codeAt Tryz.f10 [1, 1, 1, 1, 1, 0, 1, 0, 1, 1, 1, 1, 1, 1, 1, 0, 1, 0, 1, 0, 0])) (fun s k => evalC spec_showEvent.C spec_showEvent.A n (codeAt Tryz.f10 [1, 1, 1, 1, 1, 0, 1, 0, 1, 1, 1, 1, 1, 1, 1, 0, 1, 0, 1, 0, 0]) s k) m27 (St.of 120 184 [(1, .ptr 120 0 0), (3, .val .str x3), (4, .val (.int .i64) x4)] [(120, .box 27 [.val (.int .i64) r120_0, .val (.int .i64) r120_1, .val (.int .i64) r120_2, .val (.int .i64) r120_3, .val (.slice (.int .i64)) r120_4, .val (.int .i64) r120_5, .val (.int .i64) r120_6])] []) (spec_showEvent.K4 n)
theorem spec_showEvent.eq (n : Nat) (x0 : Int × Int × Int × Int × List Int × Int × Int) : spec_showEvent n x0 = (if x0.1 = 0 then some ({ data := #[(106 : UInt8), (111 : UInt8), (105 : UInt8), (110 : UInt8)] }) else (if x0.1 = 7 then some ({ data := #[(115 : UInt8), (104 : UInt8), (97 : UInt8), (114 : UInt8), (101 : UInt8)] }) else (if x0.1 = 6 then ((spec_validRate n (x0.2.2.2.2.2.1, x0.2.2.2.2.2.2)).bind fun y0 => (if (y0) = true then ((spec_number n x0.2.2.2.2.2.1).bind fun y1 => (if ByteArray.size { data := #[(110 : UInt8), (105 : UInt8), (103 : UInt8), (104 : UInt8), (116 : UInt8), (32 : UInt8)] } + ByteArray.size y1 ≤ Go.Refl.maxN then (if ByteArray.size ({ data := #[(110 : UInt8), (105 : UInt8), (103 : UInt8), (104 : UInt8), (116 : UInt8), (32 : UInt8)] } ++ y1) + ByteArray.size { data := #[(32 : UInt8)] } ≤ Go.Refl.maxN then ((spec_number n x0.2.2.2.2.2.2).bind fun y2 => (if ByteArray.size ({ data := #[(110 : UInt8), (105 : UInt8), (103 : UInt8), (104 : UInt8), (116 : UInt8), (32 : UInt8)] } ++ y1 ++ { data := #[(32 : UInt8)] }) + ByteArray.size y2 ≤ Go.Refl.maxN then some ({ data := #[(110 : UInt8), (105 : UInt8), (103 : UInt8), (104 : UInt8), (116 : UInt8), (32 : UInt8)] } ++ y1 ++ { data := #[(32 : UInt8)] } ++ y2) else none)) else none) else none)) else some ({ data := #[] }))) else ((spec_inRange n (x0.2.1, 0, 99)).bind fun y3 => (if (!y3) = true then some ({ data := #[] }) else (if x0.1 = 5 then ((spec_number n x0.2.1).bind fun y4 => (if ByteArray.size { data := #[(102 : UInt8), (97 : UInt8), (105 : UInt8), (108 : UInt8), (32 : UInt8)] } + ByteArray.size y4 ≤ Go.Refl.maxN then some ({ data := #[(102 : UInt8), (97 : UInt8), (105 : UInt8), (108 : UInt8), (32 : UInt8)] } ++ y4) else none)) else ((spec_validAmount n x0.2.2.1).bind fun y5 => (if (!y5) = true then some ({ data := #[] }) else (if x0.1 = 1 then ((spec_number n x0.2.1).bind fun y6 => (if ByteArray.size { data := #[(115 : UInt8), (97 : UInt8), (118 : UInt8), (101 : UInt8), (32 : UInt8)] } + ByteArray.size y6 ≤ Go.Refl.maxN then (if ByteArray.size ({ data := #[(115 : UInt8), (97 : UInt8), (118 : UInt8), (101 : UInt8), (32 : UInt8)] } ++ y6) + ByteArray.size { data := #[(32 : UInt8)] } ≤ Go.Refl.maxN then ((spec_money n x0.2.2.1).bind fun y7 => (if ByteArray.size ({ data := #[(115 : UInt8), (97 : UInt8), (118 : UInt8), (101 : UInt8), (32 : UInt8)] } ++ y6 ++ { data := #[(32 : UInt8)] }) + ByteArray.size y7 ≤ Go.Refl.maxN then some ({ data := #[(115 : UInt8), (97 : UInt8), (118 : UInt8), (101 : UInt8), (32 : UInt8)] } ++ y6 ++ { data := #[(32 : UInt8)] } ++ y7) else none)) else none) else none)) else (if x0.1 = 2 then ((spec_number n x0.2.1).bind fun y8 => (if ByteArray.size { data := #[(116 : UInt8), (97 : UInt8), (107 : UInt8), (101 : UInt8), (32 : UInt8)] } + ByteArray.size y8 ≤ Go.Refl.maxN then (if ByteArray.size ({ data := #[(116 : UInt8), (97 : UInt8), (107 : UInt8), (101 : UInt8), (32 : UInt8)] } ++ y8) + ByteArray.size { data := #[(32 : UInt8)] } ≤ Go.Refl.maxN then ((spec_money n x0.2.2.1).bind fun y9 => (if ByteArray.size ({ data := #[(116 : UInt8), (97 : UInt8), (107 : UInt8), (101 : UInt8), (32 : UInt8)] } ++ y8 ++ { data := #[(32 : UInt8)] }) + ByteArray.size y9 ≤ Go.Refl.maxN then some ({ data := #[(116 : UInt8), (97 : UInt8), (107 : UInt8), (101 : UInt8), (32 : UInt8)] } ++ y8 ++ { data := #[(32 : UInt8)] } ++ y9) else none)) else none) else none)) else (if x0.1 = 4 then ((spec_validAmount n x0.2.2.2.1).bind fun y10 => (if (y10) = true then ((spec_number n x0.2.1).bind fun y11 => (if ByteArray.size { data := #[(114 : UInt8), (101 : UInt8), (112 : UInt8), (97 : UInt8), (121 : UInt8), (32 : UInt8)] } + ByteArray.size y11 ≤ Go.Refl.maxN then (if ByteArray.size ({ data := #[(114 : UInt8), (101 : UInt8), (112 : UInt8), (97 : UInt8), (121 : UInt8), (32 : UInt8)] } ++ y11) + ByteArray.size { data := #[(32 : UInt8)] } ≤ Go.Refl.maxN then ((spec_money n x0.2.2.1).bind fun y12 => (if ByteArray.size ({ data := #[(114 : UInt8), (101 : UInt8), (112 : UInt8), (97 : UInt8), (121 : UInt8), (32 : UInt8)] } ++ y11 ++ { data := #[(32 : UInt8)] }) + ByteArray.size y12 ≤ Go.Refl.maxN then (if ByteArray.size ({ data := #[(114 : UInt8), (101 : UInt8), (112 : UInt8), (97 : UInt8), (121 : UInt8), (32 : UInt8)] } ++ y11 ++ { data := #[(32 : UInt8)] } ++ y12) + ByteArray.size { data := #[(32 : UInt8)] } ≤ Go.Refl.maxN then ((spec_money n x0.2.2.2.1).bind fun y13 => (if ByteArray.size ({ data := #[(114 : UInt8), (101 : UInt8), (112 : UInt8), (97 : UInt8), (121 : UInt8), (32 : UInt8)] } ++ y11 ++ { data := #[(32 : UInt8)] } ++ y12 ++ { data := #[(32 : UInt8)] }) + ByteArray.size y13 ≤ Go.Refl.maxN then some ({ data := #[(114 : UInt8), (101 : UInt8), (112 : UInt8), (97 : UInt8), (121 : UInt8), (32 : UInt8)] } ++ y11 ++ { data := #[(32 : UInt8)] } ++ y12 ++ { data := #[(32 : UInt8)] } ++ y13) else none)) else none) else none)) else none) else none)) else some ({ data := #[] }))) else (if x0.1 = 3 then ((spec_number n x0.2.1).bind fun y14 => (if ByteArray.size { data := #[(108 : UInt8), (101 : UInt8), (110 : UInt8), (100 : UInt8), (32 : UInt8)] } + ByteArray.size y14 ≤ Go.Refl.maxN then (if ByteArray.size ({ data := #[(108 : UInt8), (101 : UInt8), (110 : UInt8), (100 : UInt8), (32 : UInt8)] } ++ y14) + ByteArray.size { data := #[(32 : UInt8)] } ≤ Go.Refl.maxN then ((spec_money n x0.2.2.1).bind fun y15 => (if ByteArray.size ({ data := #[(108 : UInt8), (101 : UInt8), (110 : UInt8), (100 : UInt8), (32 : UInt8)] } ++ y14 ++ { data := #[(32 : UInt8)] }) + ByteArray.size y15 ≤ Go.Refl.maxN then spec_showEvent.l27 n n ({ data := #[(108 : UInt8), (101 : UInt8), (110 : UInt8), (100 : UInt8), (32 : UInt8)] } ++ y14 ++ { data := #[(32 : UInt8)] } ++ y15) (0) x0.1 x0.2.1 x0.2.2.1 x0.2.2.2.1 x0.2.2.2.2.1 x0.2.2.2.2.2.1 x0.2.2.2.2.2.2 else none)) else none) else none)) else some ({ data := #[] }))))))))))))) := by kernel_rfl
theorem spec_showEvent.l27_zero (n : Nat) (x3 : ByteArray) (x4 r120_0 : Int) (r120_1 r120_2 r120_3 : Int) (r120_4 : List Int) (r120_5 r120_6 : Int) : spec_showEvent.l27 n 0 x3 x4 r120_0 r120_1 r120_2 r120_3 r120_4 r120_5 r120_6 = none := by kernel_rfl
theorem spec_showEvent.l27_succ (n m27 : Nat) (x3 : ByteArray) (x4 r120_0 : Int) (r120_1 r120_2 r120_3 : Int) (r120_4 : List Int) (r120_5 r120_6 : Int) : spec_showEvent.l27 n (m27 + 1) x3 x4 r120_0 r120_1 r120_2 r120_3 r120_4 r120_5 r120_6 = (if x4 < (↑(List.length r120_4) : Int) then (if 0 ≤ x4 then (if x4 < (↑(List.length r120_4) : Int) then ((spec_inRange n (List.getD r120_4 (Int.toNat x4) 0, 0, 99)).bind fun y16 => (if (!y16) = true then some ({ data := #[] }) else (if ByteArray.size x3 + ByteArray.size { data := #[(32 : UInt8)] } ≤ Go.Refl.maxN then (if 0 ≤ x4 then (if x4 < (↑(List.length r120_4) : Int) then ((spec_number n (List.getD r120_4 (Int.toNat x4) 0)).bind fun y17 => (if ByteArray.size (x3 ++ { data := #[(32 : UInt8)] }) + ByteArray.size y17 ≤ Go.Refl.maxN then spec_showEvent.l27 n m27 (x3 ++ { data := #[(32 : UInt8)] } ++ y17) (Go.RowKit.wrap64 (x4 + 1)) (r120_0) (r120_1) (r120_2) (r120_3) (r120_4) (r120_5) (r120_6) else none)) else none) else none) else none))) else none) else none) else some (x3)) := by kernel_rfl
noncomputable abbrev spec_showEvent.sg (n : Nat) : Sig := { params := spec_showEvent.ps, res := spec_showEvent.res, run := spec_showEvent n }
theorem spec_showEvent.call : Callable Tryz.prog 10 := ⟨Tryz.f10, Tryz.func10, by kernel_rfl, by kernel_rfl⟩
theorem spec_showEvent.ok (n : Nat) : FC Tryz.prog [] 10 (spec_showEvent.sg n) :=
  evalF_ok (C := spec_showEvent.C) ⟨tb_ok, fun n _ _ h => tabOk (l := [(23, (spec_validRate.sg n)), (24, (spec_number.sg n)), (25, (spec_inRange.sg n)), (26, (spec_validAmount.sg n)), (27, (spec_money.sg n))]) (all_cons ⟨spec_validRate.ok n, spec_validRate.call⟩ (all_cons ⟨spec_number.ok n, spec_number.call⟩ (all_cons ⟨spec_inRange.ok n, spec_inRange.call⟩ (all_cons ⟨spec_validAmount.ok n, spec_validAmount.call⟩ (all_cons ⟨spec_money.ok n, spec_money.call⟩ (all_nil)))))) h, mixed, ar_ok, bld_ok, pts_ok⟩ spec_showEvent.A Tryz.func10 spec_showEvent.ps spec_showEvent.res n
abbrev spec_FormatEvent.ps : List Pm := [.arg (.v (.pair (.int .i64) (.pair (.int .i64) (.pair (.int .i64) (.pair (.int .i64) (.pair (.slice (.int .i64)) (.pair (.int .i64) (.int .i64))))))))]
abbrev spec_FormatEvent.res : List M := [.v .str]
noncomputable def spec_FormatEvent.C : Cfg := { tb := tb, tab := fun n f => Refl.look [(10, (spec_showEvent.sg n))] f, gl := [], ar := ar, bld := bld, pts := pts }
noncomputable def spec_FormatEvent.A : Ann := { joins := [], loops := [], ids := [(1, [(4, [])])], pids := [], nroots := 69 }
noncomputable def spec_FormatEvent (n : Nat) (x : Int × Int × Int × Int × List Int × Int × Int) : Option (ByteArray) := evalF spec_FormatEvent.C spec_FormatEvent.A Tryz.f6 spec_FormatEvent.ps spec_FormatEvent.res n x
noncomputable def spec_FormatEvent.K0 (_ : Nat) : Kont (ByteArray) := finK spec_FormatEvent.C (Func.results Tryz.f6).toList spec_FormatEvent.ps spec_FormatEvent.res
theorem spec_FormatEvent.eq (n : Nat) (x0 : Int × Int × Int × Int × List Int × Int × Int) : spec_FormatEvent n x0 = ((spec_showEvent n (x0.1, x0.2.1, x0.2.2.1, x0.2.2.2.1, x0.2.2.2.2.1, x0.2.2.2.2.2.1, x0.2.2.2.2.2.2)).bind fun y0 => some (y0)) := by kernel_rfl
noncomputable abbrev spec_FormatEvent.sg (n : Nat) : Sig := { params := spec_FormatEvent.ps, res := spec_FormatEvent.res, run := spec_FormatEvent n }
theorem spec_FormatEvent.call : Callable Tryz.prog 6 := ⟨Tryz.f6, Tryz.func6, by kernel_rfl, by kernel_rfl⟩
theorem spec_FormatEvent.ok (n : Nat) : FC Tryz.prog [] 6 (spec_FormatEvent.sg n) :=
  evalF_ok (C := spec_FormatEvent.C) ⟨tb_ok, fun n _ _ h => tabOk (l := [(10, (spec_showEvent.sg n))]) (all_cons ⟨spec_showEvent.ok n, spec_showEvent.call⟩ (all_nil)) h, mixed, ar_ok, bld_ok, pts_ok⟩ spec_FormatEvent.A Tryz.func6 spec_FormatEvent.ps spec_FormatEvent.res n
abbrev strings_explode.ps : List Pm := [.arg (.v .str), .arg (.v (.int .i64))]
abbrev strings_explode.res : List M := [(.own .str 9)]
noncomputable def strings_explode (n : Nat) : ByteArray × Int → Option (List ByteArray) := fun _ => none
noncomputable abbrev strings_explode.sg (n : Nat) : Sig := { params := strings_explode.ps, res := strings_explode.res, run := strings_explode n }
theorem strings_explode.call : Callable Tryz.prog 43 := ⟨Tryz.f43, Tryz.func43, by kernel_rfl, by kernel_rfl⟩
theorem strings_explode.ok (n : Nat) : FC Tryz.prog [] 43 (strings_explode.sg n) := never_FC
abbrev strings_Count.ps : List Pm := ixPs
abbrev strings_Count.res : List M := ixRes
noncomputable def strings_Count (n : Nat) : ByteArray × ByteArray → Option Int := ctRun
noncomputable abbrev strings_Count.sg (n : Nat) : Sig := { params := strings_Count.ps, res := strings_Count.res, run := strings_Count n }
theorem strings_Count.call : Callable Tryz.prog 44 := ⟨Tryz.f44, Tryz.func44, by kernel_rfl, by kernel_rfl⟩
theorem strings_Count.ok (n : Nat) : FC Tryz.prog [] 44 (strings_Count.sg n) := ct_FC Tryz.lays138
abbrev strings_Index.ps : List Pm := ixPs
abbrev strings_Index.res : List M := ixRes
noncomputable def strings_Index (n : Nat) : ByteArray × ByteArray → Option Int := ixRun
noncomputable abbrev strings_Index.sg (n : Nat) : Sig := { params := strings_Index.ps, res := strings_Index.res, run := strings_Index n }
theorem strings_Index.call : Callable Tryz.prog 45 := ⟨Tryz.f45, Tryz.func45, by kernel_rfl, by kernel_rfl⟩
theorem strings_Index.ok (n : Nat) : FC Tryz.prog [] 45 (strings_Index.sg n) := ix_FC Tryz.lays143
abbrev strings_genSplit.ps : List Pm := [.arg (.v .str), .arg (.v .str), .arg (.v (.int .i64)), .arg (.v (.int .i64))]
abbrev strings_genSplit.res : List M := [(.own .str 9)]
noncomputable def strings_genSplit.C : Cfg := { tb := tb, tab := fun n f => Refl.look [(43, (strings_explode.sg n)), (44, (strings_Count.sg n)), (45, (strings_Index.sg n))] f, gl := [], ar := ar, bld := bld, pts := pts }
noncomputable def strings_genSplit.A : Ann := { joins := [], loops := [(11, { live := [0, 1, 2, 3, 9, 10], base := 66 })], ids := [(6, [(23, [])]), (12, [(39, [])])], pids := [], nroots := 130 }
noncomputable def strings_genSplit (n : Nat) (x : ByteArray × ByteArray × Int × Int) : Option (List ByteArray) := evalF strings_genSplit.C strings_genSplit.A Tryz.f28 strings_genSplit.ps strings_genSplit.res n x
noncomputable def strings_genSplit.K0 (_ : Nat) : Kont (List ByteArray) := finK strings_genSplit.C (Func.results Tryz.f28).toList strings_genSplit.ps strings_genSplit.res
noncomputable def strings_genSplit.K1 (n : Nat) : Kont (List ByteArray) := seqK (fun s' k => joinE strings_genSplit.A.joins (codeAt Tryz.f28 [1, 1, 1, 1, 1, 1, 1, 1, 1]) (fun s'' => evalC strings_genSplit.C strings_genSplit.A n (codeAt Tryz.f28 [1, 1, 1, 1, 1, 1, 1, 1, 1]) s'' k) s') (strings_genSplit.K0 n)
noncomputable def strings_genSplit.K2 (n : Nat) : Kont (List ByteArray) := blockK 0 (strings_genSplit.K1 n)
noncomputable def strings_genSplit.l11 (n m11 : Nat) (x0 x1 : ByteArray) (x2 x3 x10 : Int) (r66 : List ByteArray) : Option (List ByteArray) := loopE (cutAt strings_genSplit.A.loops (codeAt Tryz.f28 [1, 1, 1, 1, 1, 1, 1, 1, 0, 0, 0])) (fun s k => evalC strings_genSplit.C strings_genSplit.A n (codeAt Tryz.f28 [1, 1, 1, 1, 1, 1, 1, 1, 0, 0, 0]) s k) m11 (St.of 66 130 [(0, .val .str x0), (1, .val .str x1), (2, .val (.int .i64) x2), (3, .val (.int .i64) x3), (9, .own 66), (10, .val (.int .i64) x10)] [(66, .row .str 9 r66)] []) (strings_genSplit.K2 n)
theorem strings_genSplit.eq (n : Nat) (x0 x1 : ByteArray) (x2 x3 : Int) : strings_genSplit n (x0, x1, x2, x3) = (if x3 = 0 then some ([]) else (if x1 = { data := #[] } then ((strings_explode n (x0, x3)).bind fun y0 => some (y0)) else (if x3 < 0 then ((strings_Count n (x0, x1)).bind fun y1 => (if 0 ≤ Go.Refl.mn (Go.RowKit.wrap64 (y1 + 1)) (Go.RowKit.wrap64 ((↑(ByteArray.size x0) : Int) + 1)) then (if Go.Refl.mn (Go.RowKit.wrap64 (y1 + 1)) (Go.RowKit.wrap64 ((↑(ByteArray.size x0) : Int) + 1)) ≤ Go.Refl.mn (Go.RowKit.wrap64 (y1 + 1)) (Go.RowKit.wrap64 ((↑(ByteArray.size x0) : Int) + 1)) then (if Go.Refl.mn (Go.RowKit.wrap64 (y1 + 1)) (Go.RowKit.wrap64 ((↑(ByteArray.size x0) : Int) + 1)) ≤ (↑Go.Refl.maxN : Int) then strings_genSplit.l11 n n (x0) (x1) (x2) (Go.RowKit.wrap64 (Go.Refl.mn (Go.RowKit.wrap64 (y1 + 1)) (Go.RowKit.wrap64 ((↑(ByteArray.size x0) : Int) + 1)) - 1)) (0) (List.replicate (Int.toNat (Go.Refl.mn (Go.RowKit.wrap64 (y1 + 1)) (Go.RowKit.wrap64 ((↑(ByteArray.size x0) : Int) + 1)))) ByteArray.empty) else none) else none) else none)) else (if 0 ≤ Go.Refl.mn x3 (Go.RowKit.wrap64 ((↑(ByteArray.size x0) : Int) + 1)) then (if Go.Refl.mn x3 (Go.RowKit.wrap64 ((↑(ByteArray.size x0) : Int) + 1)) ≤ Go.Refl.mn x3 (Go.RowKit.wrap64 ((↑(ByteArray.size x0) : Int) + 1)) then (if Go.Refl.mn x3 (Go.RowKit.wrap64 ((↑(ByteArray.size x0) : Int) + 1)) ≤ (↑Go.Refl.maxN : Int) then strings_genSplit.l11 n n (x0) (x1) (x2) (Go.RowKit.wrap64 (Go.Refl.mn x3 (Go.RowKit.wrap64 ((↑(ByteArray.size x0) : Int) + 1)) - 1)) (0) (List.replicate (Int.toNat (Go.Refl.mn x3 (Go.RowKit.wrap64 ((↑(ByteArray.size x0) : Int) + 1)))) ByteArray.empty) else none) else none) else none)))) := by kernel_rfl
theorem strings_genSplit.l11_zero (n : Nat) (x0 x1 : ByteArray) (x2 x3 x10 : Int) (r66 : List ByteArray) : strings_genSplit.l11 n 0 x0 x1 x2 x3 x10 r66 = none := by kernel_rfl
theorem strings_genSplit.l11_succ (n m11 : Nat) (x0 x1 : ByteArray) (x2 x3 x10 : Int) (r66 : List ByteArray) : strings_genSplit.l11 n (m11 + 1) x0 x1 x2 x3 x10 r66 = (if x10 < x3 then ((strings_Index n (x0, x1)).bind fun y2 => (if y2 < 0 then (if 0 ≤ x10 then (if x10 < (↑(List.length r66) : Int) then (if 0 ≤ Go.RowKit.wrap64 (x10 + 1) then (if Go.RowKit.wrap64 (x10 + 1) ≤ (↑(List.length (List.set r66 (Int.toNat x10) x0)) : Int) then some (List.take (Int.toNat (Go.RowKit.wrap64 (x10 + 1)) - 0) (List.set r66 (Int.toNat x10) x0)) else none) else none) else none) else none) else (if 0 ≤ Go.RowKit.wrap64 (y2 + x2) then (if Go.RowKit.wrap64 (y2 + x2) ≤ (↑(ByteArray.size x0) : Int) then (if 0 ≤ x10 then (if x10 < (↑(List.length r66) : Int) then (if 0 ≤ Go.RowKit.wrap64 (y2 + (↑(ByteArray.size x1) : Int)) then (if Go.RowKit.wrap64 (y2 + (↑(ByteArray.size x1) : Int)) ≤ (↑(ByteArray.size x0) : Int) then strings_genSplit.l11 n m11 (ByteArray.extract x0 (Int.toNat (Go.RowKit.wrap64 (y2 + (↑(ByteArray.size x1) : Int)))) (ByteArray.size x0)) (x1) (x2) (x3) (Go.RowKit.wrap64 (x10 + 1)) (List.set r66 (Int.toNat x10) (ByteArray.extract x0 0 (Int.toNat (Go.RowKit.wrap64 (y2 + x2))))) else none) else none) else none) else none) else none) else none))) else (if 0 ≤ x10 then (if x10 < (↑(List.length r66) : Int) then (if 0 ≤ Go.RowKit.wrap64 (x10 + 1) then (if Go.RowKit.wrap64 (x10 + 1) ≤ (↑(List.length (List.set r66 (Int.toNat x10) x0)) : Int) then some (List.take (Int.toNat (Go.RowKit.wrap64 (x10 + 1)) - 0) (List.set r66 (Int.toNat x10) x0)) else none) else none) else none) else none)) := by kernel_rfl
noncomputable abbrev strings_genSplit.sg (n : Nat) : Sig := { params := strings_genSplit.ps, res := strings_genSplit.res, run := strings_genSplit n }
theorem strings_genSplit.call : Callable Tryz.prog 28 := ⟨Tryz.f28, Tryz.func28, by kernel_rfl, by kernel_rfl⟩
theorem strings_genSplit.ok (n : Nat) : FC Tryz.prog [] 28 (strings_genSplit.sg n) :=
  evalF_ok (C := strings_genSplit.C) ⟨tb_ok, fun n _ _ h => tabOk (l := [(43, (strings_explode.sg n)), (44, (strings_Count.sg n)), (45, (strings_Index.sg n))]) (all_cons ⟨strings_explode.ok n, strings_explode.call⟩ (all_cons ⟨strings_Count.ok n, strings_Count.call⟩ (all_cons ⟨strings_Index.ok n, strings_Index.call⟩ (all_nil)))) h, mixed, ar_ok, bld_ok, pts_ok⟩ strings_genSplit.A Tryz.func28 strings_genSplit.ps strings_genSplit.res n
abbrev strings_Split.ps : List Pm := [.arg (.v .str), .arg (.v .str)]
abbrev strings_Split.res : List M := [(.own .str 9)]
noncomputable def strings_Split.C : Cfg := { tb := tb, tab := fun n f => Refl.look [(28, (strings_genSplit.sg n))] f, gl := [], ar := ar, bld := bld, pts := pts }
noncomputable def strings_Split.A : Ann := { joins := [], loops := [], ids := [], pids := [], nroots := 72 }
noncomputable def strings_Split (n : Nat) (x : ByteArray × ByteArray) : Option (List ByteArray) := evalF strings_Split.C strings_Split.A Tryz.f11 strings_Split.ps strings_Split.res n x
noncomputable def strings_Split.K0 (_ : Nat) : Kont (List ByteArray) := finK strings_Split.C (Func.results Tryz.f11).toList strings_Split.ps strings_Split.res
theorem strings_Split.eq (n : Nat) (x0 x1 : ByteArray) : strings_Split n (x0, x1) = ((strings_genSplit n (x0, x1, 0, (-1))).bind fun y0 => some (y0)) := by kernel_rfl
noncomputable abbrev strings_Split.sg (n : Nat) : Sig := { params := strings_Split.ps, res := strings_Split.res, run := strings_Split n }
theorem strings_Split.call : Callable Tryz.prog 11 := ⟨Tryz.f11, Tryz.func11, by kernel_rfl, by kernel_rfl⟩
theorem strings_Split.ok (n : Nat) : FC Tryz.prog [] 11 (strings_Split.sg n) :=
  evalF_ok (C := strings_Split.C) ⟨tb_ok, fun n _ _ h => tabOk (l := [(28, (strings_genSplit.sg n))]) (all_cons ⟨strings_genSplit.ok n, strings_genSplit.call⟩ (all_nil)) h, mixed, ar_ok, bld_ok, pts_ok⟩ strings_Split.A Tryz.func11 strings_Split.ps strings_Split.res n
abbrev impl_wordAt.ps : List Pm := [.arg (.v (.slice .str)), .arg (.v (.int .i64))]
abbrev impl_wordAt.res : List M := [.v .str]
noncomputable def impl_wordAt.C : Cfg := { tb := tb, tab := fun n f => Refl.look [] f, gl := [], ar := ar, bld := bld, pts := pts }
noncomputable def impl_wordAt.A : Ann := { joins := [], loops := [], ids := [], pids := [], nroots := 77 }
noncomputable def impl_wordAt (n : Nat) (x : List ByteArray × Int) : Option (ByteArray) := evalF impl_wordAt.C impl_wordAt.A Tryz.f30 impl_wordAt.ps impl_wordAt.res n x
noncomputable def impl_wordAt.K0 (_ : Nat) : Kont (ByteArray) := finK impl_wordAt.C (Func.results Tryz.f30).toList impl_wordAt.ps impl_wordAt.res
theorem impl_wordAt.eq (n : Nat) (x0 : List ByteArray) (x1 : Int) : impl_wordAt n (x0, x1) = (if x1 ≥ (↑(List.length x0) : Int) then some ({ data := #[] }) else (if 0 ≤ x1 then (if x1 < (↑(List.length x0) : Int) then some (List.getD x0 (Int.toNat x1) ByteArray.empty) else none) else none)) := by kernel_rfl
noncomputable abbrev impl_wordAt.sg (n : Nat) : Sig := { params := impl_wordAt.ps, res := impl_wordAt.res, run := impl_wordAt n }
theorem impl_wordAt.call : Callable Tryz.prog 30 := ⟨Tryz.f30, Tryz.func30, by kernel_rfl, by kernel_rfl⟩
theorem impl_wordAt.ok (n : Nat) : FC Tryz.prog [] 30 (impl_wordAt.sg n) :=
  evalF_ok (C := impl_wordAt.C) ⟨tb_ok, fun n _ _ h => tabOk (l := []) (all_nil) h, mixed, ar_ok, bld_ok, pts_ok⟩ impl_wordAt.A Tryz.func30 impl_wordAt.ps impl_wordAt.res n
abbrev strconv_Atoi.ps : List Pm := atPs
abbrev strconv_Atoi.res : List M := atRes
noncomputable def strconv_Atoi (n : Nat) : ByteArray → Option (Int × List Int) := fun x => atRun x
noncomputable abbrev strconv_Atoi.sg (n : Nat) : Sig := { params := strconv_Atoi.ps, res := strconv_Atoi.res, run := strconv_Atoi n }
theorem strconv_Atoi.call : Callable Tryz.prog 46 := ⟨Tryz.f46, Tryz.func46, by kernel_rfl, by kernel_rfl⟩
theorem strconv_Atoi.ok (n : Nat) : FC Tryz.prog [g5, g6] 46 (strconv_Atoi.sg n) := at_FC Tryz.laysC172 (.head _) (.tail _ (.head _))
abbrev impl_readNumber.ps : List Pm := [.arg (.v .str), .arg (.v (.int .i64))]
abbrev impl_readNumber.res : List M := [.v (.int .i64)]
noncomputable def impl_readNumber.C : Cfg := { tb := tb, tab := fun n f => Refl.look [(46, (strconv_Atoi.sg n)), (19, (strconv_Itoa.sg n))] f, gl := [g2, g5, g6], ar := ar, bld := bld, pts := pts }
noncomputable def impl_readNumber.A : Ann := { joins := [], loops := [], ids := [(1, [(9, [])]), (2, [(25, [])])], pids := [], nroots := 94 }
noncomputable def impl_readNumber (n : Nat) (x : ByteArray × Int) : Option (Int) := evalF impl_readNumber.C impl_readNumber.A Tryz.f29 impl_readNumber.ps impl_readNumber.res n x
noncomputable def impl_readNumber.K0 (_ : Nat) : Kont (Int) := finK impl_readNumber.C (Func.results Tryz.f29).toList impl_readNumber.ps impl_readNumber.res
theorem impl_readNumber.eq (n : Nat) (x0 : ByteArray) (x1 : Int) : impl_readNumber n (x0, x1) = ((strconv_Atoi n x0).bind fun y0 => (if (!List.isEmpty y0.2) = Bool.true then some ((-1)) else (if y0.1 < 0 then some ((-1)) else (if y0.1 > x1 then some ((-1)) else ((strconv_Itoa n y0.1).bind fun y1 => (if y1 = x0 then some y0.1 else some ((-1)))))))) := by kernel_rfl
noncomputable abbrev impl_readNumber.sg (n : Nat) : Sig := { params := impl_readNumber.ps, res := impl_readNumber.res, run := impl_readNumber n }
theorem impl_readNumber.call : Callable Tryz.prog 29 := ⟨Tryz.f29, Tryz.func29, by kernel_rfl, by kernel_rfl⟩
theorem impl_readNumber.ok (n : Nat) : FC Tryz.prog [g2, g5, g6] 29 (impl_readNumber.sg n) :=
  evalF_ok (C := impl_readNumber.C) ⟨tb_ok, fun n _ _ h => tabOk (l := [(46, (strconv_Atoi.sg n)), (19, (strconv_Itoa.sg n))]) (all_cons ⟨(.mono (gl := [g5, g6]) (gl' := [g2, g5, g6]) (all_cons (.tail _ (.head _)) (all_cons (.tail _ (.tail _ (.head _))) (all_nil))) (strconv_Atoi.ok n)), strconv_Atoi.call⟩ (all_cons ⟨(.mono (gl := [g2]) (gl' := [g2, g5, g6]) (all_cons (.head _) (all_nil)) (strconv_Itoa.ok n)), strconv_Itoa.call⟩ (all_nil))) h, mixed, ar_ok, bld_ok, pts_ok⟩ impl_readNumber.A Tryz.func29 impl_readNumber.ps impl_readNumber.res n
abbrev impl_ReadMoney.ps : List Pm := [.arg (.v .str)]
abbrev impl_ReadMoney.res : List M := [.v (.int .i64)]
noncomputable def impl_ReadMoney.C : Cfg := { tb := tb, tab := fun n f => Refl.look [(42, (impl_ShowMoney.sg n))] f, gl := [g2], ar := ar, bld := bld, pts := pts }
noncomputable def impl_ReadMoney.A : Ann := { joins := [], loops := [(5, { live := [0, 3, 22, 23], base := 55 })], ids := [(12, [(51, [])])], pids := [], nroots := 119 }
noncomputable def impl_ReadMoney (n : Nat) (x : ByteArray) : Option (Int) := evalF impl_ReadMoney.C impl_ReadMoney.A Tryz.f31 impl_ReadMoney.ps impl_ReadMoney.res n x
noncomputable def impl_ReadMoney.K0 (_ : Nat) : Kont (Int) := finK impl_ReadMoney.C (Func.results Tryz.f31).toList impl_ReadMoney.ps impl_ReadMoney.res
noncomputable def impl_ReadMoney.K1 (n : Nat) : Kont (Int) := seqK (fun s' k => joinE impl_ReadMoney.A.joins (codeAt Tryz.f31 [1, 1, 1, 1]) (fun s'' => evalC impl_ReadMoney.C impl_ReadMoney.A n (codeAt Tryz.f31 [1, 1, 1, 1]) s'' k) s') (impl_ReadMoney.K0 n)
noncomputable def impl_ReadMoney.K2 (n : Nat) : Kont (Int) := blockK 0 (impl_ReadMoney.K1 n)
noncomputable def impl_ReadMoney.l5 (n m5 : Nat) (x0 : ByteArray) (x3 x22 x23 : Int) : Option (Int) := loopE (cutAt impl_ReadMoney.A.loops (codeAt Tryz.f31 [1, 1, 1, 0, 1, 0, 0])) (fun s k => evalC impl_ReadMoney.C impl_ReadMoney.A n (codeAt Tryz.f31 [1, 1, 1, 0, 1, 0, 0]) s k) m5 (St.of 55 119 [(0, .val .str x0), (3, .val (.int .i64) x3), (22, .val (.int .i64) x22), (23, .val (.int .i64) x23)] [] []) (impl_ReadMoney.K2 n)
theorem impl_ReadMoney.eq (n : Nat) (x0 : ByteArray) : impl_ReadMoney n x0 = (if (↑(ByteArray.size x0) : Int) < 4 then some ((-1)) else (if (↑(ByteArray.size x0) : Int) > 8 then some ((-1)) else (if 0 ≤ Go.RowKit.wrap64 ((↑(ByteArray.size x0) : Int) - 3) then (if Go.RowKit.wrap64 ((↑(ByteArray.size x0) : Int) - 3) < (↑(ByteArray.size x0) : Int) then (if (↑(UInt8.toNat (List.getD (Array.toList (ByteArray.data x0)) (Int.toNat (Go.RowKit.wrap64 ((↑(ByteArray.size x0) : Int) - 3))) (0 : UInt8))) : Int) = 46 then impl_ReadMoney.l5 n n (x0) (0) ((↑(ByteArray.size x0) : Int)) (0) else some ((-1))) else none) else none))) := by kernel_rfl
theorem impl_ReadMoney.l5_zero (n : Nat) (x0 : ByteArray) (x3 x22 x23 : Int) : impl_ReadMoney.l5 n 0 x0 x3 x22 x23 = none := by kernel_rfl
theorem impl_ReadMoney.l5_succ (n m5 : Nat) (x0 : ByteArray) (x3 x22 x23 : Int) : impl_ReadMoney.l5 n (m5 + 1) x0 x3 x22 x23 = (if x23 < x22 then (if x23 = Go.RowKit.wrap64 ((↑(ByteArray.size x0) : Int) - 3) then impl_ReadMoney.l5 n m5 (x0) (x3) (x22) (Go.RowKit.wrap64 (x23 + 1)) else (if 0 ≤ x23 then (if x23 < (↑(ByteArray.size x0) : Int) then (if (↑(UInt8.toNat (List.getD (Array.toList (ByteArray.data x0)) (Int.toNat x23) (0 : UInt8))) : Int) < 48 then some ((-1)) else (if 0 ≤ x23 then (if x23 < (↑(ByteArray.size x0) : Int) then (if (↑(UInt8.toNat (List.getD (Array.toList (ByteArray.data x0)) (Int.toNat x23) (0 : UInt8))) : Int) > 57 then some ((-1)) else (if 0 ≤ x23 then (if x23 < (↑(ByteArray.size x0) : Int) then impl_ReadMoney.l5 n m5 (x0) (Go.RowKit.wrap64 (Go.RowKit.wrap64 (x3 * 10) + Go.RowKit.wrap64 (((↑(UInt8.toNat (List.getD (Array.toList (ByteArray.data x0)) (Int.toNat x23) (0 : UInt8))) : Int) - 48) % 256))) (x22) (Go.RowKit.wrap64 (x23 + 1)) else none) else none)) else none) else none)) else none) else none)) else ((impl_ShowMoney n x3).bind fun y0 => (if y0 = x0 then some (x3) else some ((-1))))) := by kernel_rfl
noncomputable abbrev impl_ReadMoney.sg (n : Nat) : Sig := { params := impl_ReadMoney.ps, res := impl_ReadMoney.res, run := impl_ReadMoney n }
theorem impl_ReadMoney.call : Callable Tryz.prog 31 := ⟨Tryz.f31, Tryz.func31, by kernel_rfl, by kernel_rfl⟩
theorem impl_ReadMoney.ok (n : Nat) : FC Tryz.prog [g2] 31 (impl_ReadMoney.sg n) :=
  evalF_ok (C := impl_ReadMoney.C) ⟨tb_ok, fun n _ _ h => tabOk (l := [(42, (impl_ShowMoney.sg n))]) (all_cons ⟨impl_ShowMoney.ok n, impl_ShowMoney.call⟩ (all_nil)) h, mixed, ar_ok, bld_ok, pts_ok⟩ impl_ReadMoney.A Tryz.func31 impl_ReadMoney.ps impl_ReadMoney.res n
abbrev impl_readDetails.ps : List Pm := [.arg (.v (.int .i64)), .arg (.v (.slice .str))]
abbrev impl_readDetails.res : List M := [.v (.pair (.int .i64) (.pair (.int .i64) (.pair (.int .i64) (.pair (.int .i64) (.pair (.slice (.int .i64)) (.pair (.int .i64) (.int .i64)))))))]
noncomputable def impl_readDetails.C : Cfg := { tb := tb, tab := fun n f => Refl.look [(30, (impl_wordAt.sg n)), (29, (impl_readNumber.sg n)), (31, (impl_ReadMoney.sg n))] f, gl := [g2, g5, g6], ar := ar, bld := bld, pts := pts }
noncomputable def impl_readDetails.A : Ann := { joins := [], loops := [(17, { live := [4, 5, 53, 54, 55], base := 68, growB := [(5, 4, 96, (.int .i64), 3)] })], ids := [(7, [(18, []), (19, []), (21, []), (22, [])]), (9, [(27, []), (28, [])]), (12, [(34, []), (35, [])]), (14, [(41, []), (42, [])]), (19, [(62, []), (63, [])])], pids := [], nroots := 132 }
noncomputable def impl_readDetails (n : Nat) (x : Int × List ByteArray) : Option (Int × Int × Int × Int × List Int × Int × Int) := evalF impl_readDetails.C impl_readDetails.A Tryz.f12 impl_readDetails.ps impl_readDetails.res n x
noncomputable def impl_readDetails.K0 (_ : Nat) : Kont (Int × Int × Int × Int × List Int × Int × Int) := finK impl_readDetails.C (Func.results Tryz.f12).toList impl_readDetails.ps impl_readDetails.res
noncomputable def impl_readDetails.K1 (n : Nat) : Kont (Int × Int × Int × Int × List Int × Int × Int) := seqK (fun s' k => joinE impl_readDetails.A.joins (codeAt Tryz.f12 [1, 1, 1, 1, 1, 1, 1]) (fun s'' => evalC impl_readDetails.C impl_readDetails.A n (codeAt Tryz.f12 [1, 1, 1, 1, 1, 1, 1]) s'' k) s') (impl_readDetails.K0 n)
noncomputable def impl_readDetails.K2 (n : Nat) : Kont (Int × Int × Int × Int × List Int × Int × Int) := blockK 1 (impl_readDetails.K1 n)
noncomputable def impl_readDetails.K3 (n : Nat) : Kont (Int × Int × Int × Int × List Int × Int × Int) := blockK 2 (impl_readDetails.K2 n)
noncomputable def impl_readDetails.l17 (n m17 : Nat) (x53 : List ByteArray) (x54 x55 : Int) (r68_0 r68_1 : Int) (r68_2 r68_3 : Int) (r68_5 r68_6 : Int) (r69_0 r69_1 : Int) (r69_2 r69_3 : Int) (r69_5 r69_6 : Int) (r70 : List Int) : Option (Int × Int × Int × Int × List Int × Int × Int) := loopE (cutAt impl_readDetails.A.loops (codeAt Tryz.f12 [1, 1, 1, 1, 1, 1, 0, 0, 1, 1, 1, 0, 1, 0, 0])) (fun s k => evalC impl_readDetails.C impl_readDetails.A n (codeAt Tryz.f12 [1, 1, 1, 1, 1, 1, 0, 0, 1, 1, 1, 0, 1, 0, 0]) s k) m17 (St.of 68 132 [(4, .ptr 68 0 0), (5, .ptr 69 0 0), (53, .val (.slice .str) x53), (54, .val (.int .i64) x54), (55, .val (.int .i64) x55)] [(68, .box 27 [.val (.int .i64) r68_0, .val (.int .i64) r68_1, .val (.int .i64) r68_2, .val (.int .i64) r68_3, .nils, .val (.int .i64) r68_5, .val (.int .i64) r68_6]), (69, .box 27 [.val (.int .i64) r69_0, .val (.int .i64) r69_1, .val (.int .i64) r69_2, .val (.int .i64) r69_3, .own 70, .val (.int .i64) r69_5, .val (.int .i64) r69_6]), (70, .row (.int .i64) 3 r70)] []) (impl_readDetails.K3 n)
theorem impl_readDetails.eq (n : Nat) (x0 : Int) (x1 : List ByteArray) : impl_readDetails n (x0, x1) = (if x0 = 0 then (if x0 = 0 then some ((x0, 0, 0, 0, [], 0, 0)) else (if x0 = 6 then ((impl_wordAt n (x1, 1)).bind fun y0 => ((impl_readNumber n (y0, 1000)).bind fun y1 => ((impl_wordAt n (x1, 2)).bind fun y2 => ((impl_readNumber n (y2, 1000)).bind fun y3 => some ((x0, 0, 0, 0, [], y1, y3)))))) else ((impl_wordAt n (x1, 1)).bind fun y4 => ((impl_readNumber n (y4, 99)).bind fun y5 => (if x0 = 5 then some ((x0, y5, 0, 0, [], 0, 0)) else ((impl_wordAt n (x1, 2)).bind fun y6 => ((impl_ReadMoney n y6).bind fun y7 => (if x0 = 4 then ((impl_wordAt n (x1, 3)).bind fun y8 => ((impl_ReadMoney n y8).bind fun y9 => some ((x0, y5, y7, y9, [], 0, 0)))) else (if x0 = 3 then (if (↑(List.length x1) : Int) > 3 then (if 3 ≤ (↑(List.length x1) : Int) then impl_readDetails.l17 n n (List.drop (Int.toNat 3) x1) ((↑(List.length (List.drop (Int.toNat (3 : Int)) x1)) : Int)) (0) (0) (0) (0) (0) (0) (0) (x0) (y5) (y7) (0) (0) (0) ([]) else none) else some ((x0, y5, y7, 0, [], 0, 0))) else some ((x0, y5, y7, 0, [], 0, 0))))))))))) else (if x0 = 7 then some ((x0, 0, 0, 0, [], 0, 0)) else (if x0 = 6 then ((impl_wordAt n (x1, 1)).bind fun y10 => ((impl_readNumber n (y10, 1000)).bind fun y11 => ((impl_wordAt n (x1, 2)).bind fun y12 => ((impl_readNumber n (y12, 1000)).bind fun y13 => some ((x0, 0, 0, 0, [], y11, y13)))))) else ((impl_wordAt n (x1, 1)).bind fun y14 => ((impl_readNumber n (y14, 99)).bind fun y15 => (if x0 = 5 then some ((x0, y15, 0, 0, [], 0, 0)) else ((impl_wordAt n (x1, 2)).bind fun y16 => ((impl_ReadMoney n y16).bind fun y17 => (if x0 = 4 then ((impl_wordAt n (x1, 3)).bind fun y18 => ((impl_ReadMoney n y18).bind fun y19 => some ((x0, y15, y17, y19, [], 0, 0)))) else (if x0 = 3 then (if (↑(List.length x1) : Int) > 3 then (if 3 ≤ (↑(List.length x1) : Int) then impl_readDetails.l17 n n (List.drop (Int.toNat 3) x1) ((↑(List.length (List.drop (Int.toNat (3 : Int)) x1)) : Int)) (0) (0) (0) (0) (0) (0) (0) (x0) (y15) (y17) (0) (0) (0) ([]) else none) else some ((x0, y15, y17, 0, [], 0, 0))) else some ((x0, y15, y17, 0, [], 0, 0)))))))))))) := by kernel_rfl
theorem impl_readDetails.l17_zero (n : Nat) (x53 : List ByteArray) (x54 x55 : Int) (r68_0 r68_1 : Int) (r68_2 r68_3 : Int) (r68_5 r68_6 : Int) (r69_0 r69_1 : Int) (r69_2 r69_3 : Int) (r69_5 r69_6 : Int) (r70 : List Int) : impl_readDetails.l17 n 0 x53 x54 x55 r68_0 r68_1 r68_2 r68_3 r68_5 r68_6 r69_0 r69_1 r69_2 r69_3 r69_5 r69_6 r70 = none := by kernel_rfl
theorem impl_readDetails.l17_succ (n m17 : Nat) (x53 : List ByteArray) (x54 x55 : Int) (r68_0 r68_1 : Int) (r68_2 r68_3 : Int) (r68_5 r68_6 : Int) (r69_0 r69_1 : Int) (r69_2 r69_3 : Int) (r69_5 r69_6 : Int) (r70 : List Int) : impl_readDetails.l17 n (m17 + 1) x53 x54 x55 r68_0 r68_1 r68_2 r68_3 r68_5 r68_6 r69_0 r69_1 r69_2 r69_3 r69_5 r69_6 r70 = (if x55 < x54 then (if 0 ≤ x55 then (if x55 < (↑(List.length x53) : Int) then ((impl_readNumber n (List.getD x53 (Int.toNat x55) ByteArray.empty, 99)).bind fun y20 => (if List.length r70 + List.length (List.set (List.replicate (1 : Nat) (0 : Int)) (0 : Nat) y20) ≤ Go.Refl.maxN then impl_readDetails.l17 n m17 (x53) (x54) (Go.RowKit.wrap64 (x55 + 1)) (r68_0) (r68_1) (r68_2) (r68_3) (r68_5) (r68_6) (r69_0) (r69_1) (r69_2) (r69_3) (r69_5) (r69_6) (r70 ++ List.set (List.replicate 1 0) 0 y20) else none)) else none) else none) else some ((r69_0, r69_1, r69_2, r69_3, r70, r69_5, r69_6))) := by kernel_rfl
noncomputable abbrev impl_readDetails.sg (n : Nat) : Sig := { params := impl_readDetails.ps, res := impl_readDetails.res, run := impl_readDetails n }
theorem impl_readDetails.call : Callable Tryz.prog 12 := ⟨Tryz.f12, Tryz.func12, by kernel_rfl, by kernel_rfl⟩
theorem impl_readDetails.ok (n : Nat) : FC Tryz.prog [g2, g5, g6] 12 (impl_readDetails.sg n) :=
  evalF_ok (C := impl_readDetails.C) ⟨tb_ok, fun n _ _ h => tabOk (l := [(30, (impl_wordAt.sg n)), (29, (impl_readNumber.sg n)), (31, (impl_ReadMoney.sg n))]) (all_cons ⟨(.mono (gl := []) (gl' := [g2, g5, g6]) (all_nil) (impl_wordAt.ok n)), impl_wordAt.call⟩ (all_cons ⟨impl_readNumber.ok n, impl_readNumber.call⟩ (all_cons ⟨(.mono (gl := [g2]) (gl' := [g2, g5, g6]) (all_cons (.head _) (all_nil)) (impl_ReadMoney.ok n)), impl_ReadMoney.call⟩ (all_nil)))) h, mixed, ar_ok, bld_ok, pts_ok⟩ impl_readDetails.A Tryz.func12 impl_readDetails.ps impl_readDetails.res n
abbrev impl_ParseEvent.ps : List Pm := [.arg (.v .str)]
abbrev impl_ParseEvent.res : List M := [.v (.pair (.int .i64) (.pair (.int .i64) (.pair (.int .i64) (.pair (.int .i64) (.pair (.slice (.int .i64)) (.pair (.int .i64) (.int .i64))))))), .v .bool]
noncomputable def impl_ParseEvent.C : Cfg := { tb := tb, tab := fun n f => Refl.look [(11, (strings_Split.sg n)), (12, (impl_readDetails.sg n)), (5, (impl_FormatEvent.sg n))] f, gl := [g0, g2, g5, g6], ar := ar, bld := bld, pts := pts }
noncomputable def impl_ParseEvent.A : Ann := { joins := [], loops := [(3, { live := [0, 2, 4, 10, 11], base := 31 })], ids := [(6, [(22, [])]), (7, [(24, [])])], pids := [], nroots := 95 }
noncomputable def impl_ParseEvent (n : Nat) (x : ByteArray) : Option ((Int × Int × Int × Int × List Int × Int × Int) × Bool) := evalF impl_ParseEvent.C impl_ParseEvent.A Tryz.f7 impl_ParseEvent.ps impl_ParseEvent.res n x
noncomputable def impl_ParseEvent.K0 (_ : Nat) : Kont ((Int × Int × Int × Int × List Int × Int × Int) × Bool) := finK impl_ParseEvent.C (Func.results Tryz.f7).toList impl_ParseEvent.ps impl_ParseEvent.res
noncomputable def impl_ParseEvent.K1 (n : Nat) : Kont ((Int × Int × Int × Int × List Int × Int × Int) × Bool) := seqK (fun s' k => joinE impl_ParseEvent.A.joins (codeAt Tryz.f7 [1, 1, 1]) (fun s'' => evalC impl_ParseEvent.C impl_ParseEvent.A n (codeAt Tryz.f7 [1, 1, 1]) s'' k) s') (impl_ParseEvent.K0 n)
noncomputable def impl_ParseEvent.K2 (n : Nat) : Kont ((Int × Int × Int × Int × List Int × Int × Int) × Bool) := blockK 0 (impl_ParseEvent.K1 n)
noncomputable def impl_ParseEvent.l3 (n m3 : Nat) (x0 : ByteArray) (x10 : List ByteArray) (x11 r31_0 : Int) (r31_1 r31_2 : Int) (r31_3 r31_5 r31_6 : Int) (r32 : List ByteArray) : Option ((Int × Int × Int × Int × List Int × Int × Int) × Bool) := loopE (cutAt impl_ParseEvent.A.loops (codeAt Tryz.f7 [1, 1, 0, 1, 0, 0])) (fun s k => evalC impl_ParseEvent.C impl_ParseEvent.A n (codeAt Tryz.f7 [1, 1, 0, 1, 0, 0]) s k) m3 (St.of 31 95 [(0, .val .str x0), (2, .ptr 31 0 0), (4, .own 32), (10, .garr .str x10), (11, .val (.int .i64) x11)] [(31, .box 27 [.val (.int .i64) r31_0, .val (.int .i64) r31_1, .val (.int .i64) r31_2, .val (.int .i64) r31_3, .nils, .val (.int .i64) r31_5, .val (.int .i64) r31_6]), (32, .row .str 9 r32)] []) (impl_ParseEvent.K2 n)
theorem impl_ParseEvent.eq (n : Nat) (x0 : ByteArray) : impl_ParseEvent n x0 = ((strings_Split n (x0, { data := #[(32 : UInt8)] })).bind fun y0 => impl_ParseEvent.l3 n n (x0) ([{ data := #[(106 : UInt8), (111 : UInt8), (105 : UInt8), (110 : UInt8)] }, { data := #[(115 : UInt8), (97 : UInt8), (118 : UInt8), (101 : UInt8)] }, { data := #[(116 : UInt8), (97 : UInt8), (107 : UInt8), (101 : UInt8)] }, { data := #[(108 : UInt8), (101 : UInt8), (110 : UInt8), (100 : UInt8)] }, { data := #[(114 : UInt8), (101 : UInt8), (112 : UInt8), (97 : UInt8), (121 : UInt8)] }, { data := #[(102 : UInt8), (97 : UInt8), (105 : UInt8), (108 : UInt8)] }, { data := #[(110 : UInt8), (105 : UInt8), (103 : UInt8), (104 : UInt8), (116 : UInt8)] }, { data := #[(115 : UInt8), (104 : UInt8), (97 : UInt8), (114 : UInt8), (101 : UInt8)] }]) (0) (0) (0) (0) (0) (0) (0) (y0)) := by kernel_rfl
theorem impl_ParseEvent.l3_zero (n : Nat) (x0 : ByteArray) (x10 : List ByteArray) (x11 r31_0 : Int) (r31_1 r31_2 : Int) (r31_3 r31_5 r31_6 : Int) (r32 : List ByteArray) : impl_ParseEvent.l3 n 0 x0 x10 x11 r31_0 r31_1 r31_2 r31_3 r31_5 r31_6 r32 = none := by kernel_rfl
theorem impl_ParseEvent.l3_succ (n m3 : Nat) (x0 : ByteArray) (x10 : List ByteArray) (x11 r31_0 : Int) (r31_1 r31_2 : Int) (r31_3 r31_5 r31_6 : Int) (r32 : List ByteArray) : impl_ParseEvent.l3 n (m3 + 1) x0 x10 x11 r31_0 r31_1 r31_2 r31_3 r31_5 r31_6 r32 = (if x11 < 8 then (if List.length x10 = 8 then (if 0 ≤ x11 then (if x11 < (↑8 : Int) then (if 0 < (↑(List.length r32) : Int) then (if List.getD r32 0 ByteArray.empty = List.getD x10 (Int.toNat x11) ByteArray.empty then ((impl_readDetails n (x11, r32)).bind fun y1 => ((impl_FormatEvent n (y1.1, y1.2.1, y1.2.2.1, y1.2.2.2.1, y1.2.2.2.2.1, y1.2.2.2.2.2.1, y1.2.2.2.2.2.2)).bind fun y2 => (if y2 = x0 then some (((y1.1, y1.2.1, y1.2.2.1, y1.2.2.2.1, y1.2.2.2.2.1, y1.2.2.2.2.2.1, y1.2.2.2.2.2.2), Bool.true)) else some (((0, 0, 0, 0, [], 0, 0), Bool.false))))) else impl_ParseEvent.l3 n m3 (x0) (x10) (Go.RowKit.wrap64 (x11 + 1)) (r31_0) (r31_1) (r31_2) (r31_3) (r31_5) (r31_6) (r32)) else none) else none) else none) else none) else some (((0, 0, 0, 0, [], 0, 0), Bool.false))) := by kernel_rfl
noncomputable abbrev impl_ParseEvent.sg (n : Nat) : Sig := { params := impl_ParseEvent.ps, res := impl_ParseEvent.res, run := impl_ParseEvent n }
theorem impl_ParseEvent.call : Callable Tryz.prog 7 := ⟨Tryz.f7, Tryz.func7, by kernel_rfl, by kernel_rfl⟩
theorem impl_ParseEvent.ok (n : Nat) : FC Tryz.prog [g0, g2, g5, g6] 7 (impl_ParseEvent.sg n) :=
  evalF_ok (C := impl_ParseEvent.C) ⟨tb_ok, fun n _ _ h => tabOk (l := [(11, (strings_Split.sg n)), (12, (impl_readDetails.sg n)), (5, (impl_FormatEvent.sg n))]) (all_cons ⟨(.mono (gl := []) (gl' := [g0, g2, g5, g6]) (all_nil) (strings_Split.ok n)), strings_Split.call⟩ (all_cons ⟨(.mono (gl := [g2, g5, g6]) (gl' := [g0, g2, g5, g6]) (all_cons (.tail _ (.head _)) (all_cons (.tail _ (.tail _ (.head _))) (all_cons (.tail _ (.tail _ (.tail _ (.head _)))) (all_nil)))) (impl_readDetails.ok n)), impl_readDetails.call⟩ (all_cons ⟨(.mono (gl := [g0, g2]) (gl' := [g0, g2, g5, g6]) (all_cons (.head _) (all_cons (.tail _ (.head _)) (all_nil))) (impl_FormatEvent.ok n)), impl_FormatEvent.call⟩ (all_nil)))) h, mixed, ar_ok, bld_ok, pts_ok⟩ impl_ParseEvent.A Tryz.func7 impl_ParseEvent.ps impl_ParseEvent.res n
end Go.Proofs.YtpgfkoeodhfkgaaGreatDoorG
end
