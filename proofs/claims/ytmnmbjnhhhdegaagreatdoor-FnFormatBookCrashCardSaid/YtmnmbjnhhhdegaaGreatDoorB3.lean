import Derived.Test.YtmnmbjnhhhdegaaGreatDoorProg
import Derived.Test.YtmnmbjnhhhdegaaGreatDoorB2
/- FnFormatBookCrash: functions, gone through by the small machine. No condition. -/
set_option linter.unusedVariables false
set_option linter.unusedSimpArgs false
section
set_option linter.unusedVariables false
namespace Go.Proofs
open Go Go.Shelf Go.RowKit Go.Refl
set_option maxHeartbeats 2000000 in
set_option maxRecDepth 100000 in
theorem Tryz.cc : CcOk Tryz.prog 125 95 := by
 intro b p v w hbk hp
 have X1 : (Tryz.prog.info? 95).map (·.size) = some 2 := by kernel_rfl
 have X2 : liesAt Tryz.prog Tryz.prog.depth 95 (2 / Tryz.prog.cellsOf 95) 0 95 1 = true := by kernel_rfl
 obtain ⟨j, hj, hjs⟩ := Option.map_eq_some_iff.1 X1
 have u72 := run_underlying (P := Tryz.prog) Tryz.underlying95
 have u70 := run_underlying (P := Tryz.prog) Tryz.underlying93
 have u164 := run_underlying (P := Tryz.prog) Tryz.underlying175
 rcases hp with rfl | rfl
 ·have h0 : w.cell? ⟨b, 0, none⟩ = some (.pointer none) := by rw [Lib.cell_of_heap hbk]; rfl
  have hsh : w.shape? b = some (95, 2) := by simp [World.shape?, hbk]
  have hfz : w.frozen? ⟨b, 0, none⟩ = false := Lib.frozen_of_heap hbk 0
  suffices hs : Calls Tryz.prog 125 #[.pointer (some ⟨b, 0, none⟩)] w fun e w' => e = .returned (.tuple #[]) ∧ w' = w.setCell ⟨b, 0, none⟩ (.pointer (some ⟨b, 0, none⟩)) by
   refine hs.mono ?_
   rintro e w' ⟨rfl, rfl⟩
   exact ⟨rfl, by simp [World.setCell, Array.getElem?_modify, hbk], evol_set w b 0 _, by simp [World.setCell]⟩
  go_enter Tryz.func125, Tryz.ntmps125
  go_wp2
  rw [Lib.run_to_unsafe w ⟨b, 0, none⟩ Tryz.underlying93 Tryz.underlying175 hj (by rw [hjs]; decide) hsh (Nat.zero_lt_succ 1)]
  simp only [Result.andThen]
  rw [Oper.upon_value]
  go_wp2
  rw [run_callFunc_extern Tryz.func177 (by kernel_rfl) (by kernel_rfl) (by kernel_rfl) (e := Extern.AbiNoEscape.same) (by kernel_rfl)]
  rw [Lib.run_noEscape]
  simp only [Result.andThen]
  rw [Oper.upon_value]
  go_wp2
  rw [Lib.run_from_unsafe w ⟨b, 0, none⟩ Tryz.underlying175 Tryz.underlying93 hj hsh X2]
  simp only [Result.andThen]
  rw [Oper.upon_value]
  go_wp2
  go_end0
  exact ⟨rfl, rfl⟩
 ·have h0 : w.cell? ⟨b, 0, none⟩ = some (.pointer (some ⟨b, 0, none⟩)) := by rw [Lib.cell_of_heap hbk]; rfl
  suffices hs : Calls Tryz.prog 125 #[.pointer (some ⟨b, 0, none⟩)] w fun e w' => e = .returned (.tuple #[]) ∧ w' = w by
   refine hs.mono ?_
   rintro e w' ⟨rfl, rfl⟩
   exact ⟨rfl, hbk, ⟨rfl, rfl, rfl, Nat.le_refl _, fun _ _ _ => rfl⟩, rfl⟩
  go_enter Tryz.func125, Tryz.ntmps125
  go_wp2
  rw [Lib.run_neq_ptr_same w _ Tryz.underlying93 hj]
  go_wp2
  go_end0
  exact ⟨rfl, rfl⟩
def Tryz.lays169_ren : Go.Shelf.Ren := ⟨fun | 169 => 66 | n => n, fun | 70 => 93 | 9 => 9 | 0 => 0 | 72 => 95 | 37 => 22 | 127 => 149 | 3 => 3 | 5 => 5 | n => n, fun | n => n⟩
theorem Tryz.lays169 : Go.Proofs.Lays.n169 Tryz.prog Tryz.lays169_ren := {
 mixed := by kernel_rfl
 f169 := Tryz.func66.trans (congrArg some (by kernel_rfl))
 t0 := Tryz.underlying0
 a0 := Tryz.isAgg0
 z0 := Tryz.sizeOf0
 v0 := Tryz.zeroValue0
 t3 := Tryz.underlying3
 a3 := Tryz.isAgg3
 z3 := Tryz.sizeOf3
 v3 := Tryz.zeroValue3
 t9 := Tryz.underlying9
 a9 := Tryz.isAgg9
 z9 := Tryz.sizeOf9
 v9 := Tryz.zeroValue9
 t37 := Tryz.underlying22
 a37 := Tryz.isAgg22
 z37 := Tryz.sizeOf22
 v37 := Tryz.zeroValue22
 t70 := Tryz.underlying93
 a70 := Tryz.isAgg93
 z70 := Tryz.sizeOf93
 v70 := Tryz.zeroValue93
 t72 := Tryz.underlying95
 a72 := Tryz.isAgg95
 z72 := Tryz.sizeOf95
 v72 := Tryz.zeroValue95
 t127 := Tryz.underlying149
 a127 := Tryz.isAgg149
 z127 := Tryz.sizeOf149
 v127 := Tryz.zeroValue149 }
theorem Tryz.Builder_Extra_169 : Builder.Extra Tryz.prog Tryz.lays169_ren := {
 sizeBuilder := by kernel_rfl
 liesBuilder := by kernel_rfl
 t5 := Tryz.underlying5
 a5 := Tryz.isAgg5
 z5 := Tryz.sizeOf5
 v5 := Tryz.zeroValue5
 infoByte := by kernel_rfl
 cellsByte := by kernel_rfl
 sizeByte := by kernel_rfl
 neB5 := by decide }
def Tryz.laysM171_ren : Go.Shelf.Ren := ⟨fun | 171 => 86 | 243 => 153 | 246 => 196 | 283 => 223 | 284 => 224 | 285 => 225 | 286 => 226 | 129 => 238 | 317 => 237 | 318 => 239 | 319 => 240 | 320 => 241 | 337 => 247 | 338 => 248 | n => n, fun | 3 => 3 | 9 => 9 | 2 => 2 | 4 => 4 | 171 => 206 | 0 => 0 | 53 => 207 | 37 => 22 | 5 => 5 | 173 => 210 | 212 => 224 | 51 => 213 | 20 => 20 | 213 => 225 | 46 => 193 | 232 => 238 | 233 => 239 | n => n, fun | 17 => 4 | 18 => 7 | 19 => 8 | n => n⟩
theorem Tryz.laysM171 : Go.Proofs.LaysM.n171 Tryz.prog Tryz.laysM171_ren := {
 mixed := by kernel_rfl
 f129 := Tryz.func238.trans (congrArg some (by kernel_rfl))
 f171 := Tryz.func86.trans (congrArg some (by kernel_rfl))
 f243 := Tryz.func153.trans (congrArg some (by kernel_rfl))
 f246 := Tryz.func196.trans (congrArg some (by kernel_rfl))
 f283 := Tryz.func223.trans (congrArg some (by kernel_rfl))
 f284 := Tryz.func224.trans (congrArg some (by kernel_rfl))
 f285 := Tryz.func225.trans (congrArg some (by kernel_rfl))
 f286 := Tryz.func226.trans (congrArg some (by kernel_rfl))
 f317 := Tryz.func237.trans (congrArg some (by kernel_rfl))
 f318 := Tryz.func239.trans (congrArg some (by kernel_rfl))
 f319 := Tryz.func240.trans (congrArg some (by kernel_rfl))
 f320 := Tryz.func241.trans (congrArg some (by kernel_rfl))
 f337 := Tryz.func247.trans (congrArg some (by kernel_rfl))
 f338 := Tryz.func248.trans (congrArg some (by kernel_rfl))
 t0 := Tryz.underlying0
 a0 := Tryz.isAgg0
 z0 := Tryz.sizeOf0
 v0 := Tryz.zeroValue0
 t2 := Tryz.underlying2
 a2 := Tryz.isAgg2
 z2 := Tryz.sizeOf2
 v2 := Tryz.zeroValue2
 t3 := Tryz.underlying3
 a3 := Tryz.isAgg3
 z3 := Tryz.sizeOf3
 v3 := Tryz.zeroValue3
 t4 := Tryz.underlying4
 a4 := Tryz.isAgg4
 z4 := Tryz.sizeOf4
 v4 := Tryz.zeroValue4
 t5 := Tryz.underlying5
 a5 := Tryz.isAgg5
 z5 := Tryz.sizeOf5
 v5 := Tryz.zeroValue5
 t9 := Tryz.underlying9
 a9 := Tryz.isAgg9
 z9 := Tryz.sizeOf9
 v9 := Tryz.zeroValue9
 t20 := Tryz.underlying20
 a20 := Tryz.isAgg20
 z20 := Tryz.sizeOf20
 v20 := Tryz.zeroValue20
 t37 := Tryz.underlying22
 a37 := Tryz.isAgg22
 z37 := Tryz.sizeOf22
 v37 := Tryz.zeroValue22
 t46 := Tryz.underlying193
 a46 := Tryz.isAgg193
 z46 := Tryz.sizeOf193
 v46 := Tryz.zeroValue193
 t51 := Tryz.underlying213
 a51 := Tryz.isAgg213
 z51 := Tryz.sizeOf213
 v51 := Tryz.zeroValue213
 t53 := Tryz.underlying207
 a53 := Tryz.isAgg207
 z53 := Tryz.sizeOf207
 v53 := Tryz.zeroValue207
 t171 := Tryz.underlying206
 a171 := Tryz.isAgg206
 z171 := Tryz.sizeOf206
 v171 := Tryz.zeroValue206
 t173 := Tryz.underlying210
 a173 := Tryz.isAgg210
 z173 := Tryz.sizeOf210
 v173 := Tryz.zeroValue210
 t212 := Tryz.underlying224
 a212 := Tryz.isAgg224
 z212 := Tryz.sizeOf224
 v212 := Tryz.zeroValue224
 t213 := Tryz.underlying225
 a213 := Tryz.isAgg225
 z213 := Tryz.sizeOf225
 t232 := Tryz.underlying238
 a232 := Tryz.isAgg238
 z232 := Tryz.sizeOf238
 v232 := Tryz.zeroValue238
 t233 := Tryz.underlying239
 a233 := Tryz.isAgg239
 z233 := Tryz.sizeOf239
 v233 := Tryz.zeroValue239
 g17 := by kernel_rfl
 g18 := by kernel_rfl
 g19 := by kernel_rfl
 i0 := by kernel_rfl
 i2 := by kernel_rfl
 i3 := by kernel_rfl
 i4 := by kernel_rfl
 i5 := by kernel_rfl
 i9 := by kernel_rfl
 i20 := by kernel_rfl
 i37 := by kernel_rfl
 i46 := by kernel_rfl
 i51 := by kernel_rfl
 i53 := by kernel_rfl
 i171 := by kernel_rfl
 i173 := by kernel_rfl
 i212 := by kernel_rfl
 i232 := by kernel_rfl
 i233 := by kernel_rfl
 m17 := by kernel_rfl
 m18 := by kernel_rfl
 m19 := by kernel_rfl }
def Tryz.lays143_ren : Go.Shelf.Ren := ⟨fun | 143 => 173 | 219 => 176 | 217 => 192 | 225 => 208 | 224 => 209 | 267 => 210 | 266 => 217 | 314 => 232 | n => n, fun | 9 => 9 | 3 => 3 | 4 => 4 | 5 => 5 | 46 => 193 | 146 => 214 | 51 => 213 | n => n, fun | 1 => 1 | n => n⟩
theorem Tryz.lays143 : Go.Proofs.Lays.n143 Tryz.prog Tryz.lays143_ren := {
 mixed := by kernel_rfl
 f143 := Tryz.func173.trans (congrArg some (by kernel_rfl))
 f217 := Tryz.func192.trans (congrArg some (by kernel_rfl))
 f219 := Tryz.func176.trans (congrArg some (by kernel_rfl))
 f224 := Tryz.func209.trans (congrArg some (by kernel_rfl))
 f225 := Tryz.func208.trans (congrArg some (by kernel_rfl))
 f266 := Tryz.func217.trans (congrArg some (by kernel_rfl))
 f267 := Tryz.func210.trans (congrArg some (by kernel_rfl))
 f314 := Tryz.func232.trans (congrArg some (by kernel_rfl))
 t3 := Tryz.underlying3
 a3 := Tryz.isAgg3
 z3 := Tryz.sizeOf3
 v3 := Tryz.zeroValue3
 t4 := Tryz.underlying4
 a4 := Tryz.isAgg4
 z4 := Tryz.sizeOf4
 v4 := Tryz.zeroValue4
 t5 := Tryz.underlying5
 a5 := Tryz.isAgg5
 z5 := Tryz.sizeOf5
 v5 := Tryz.zeroValue5
 t9 := Tryz.underlying9
 a9 := Tryz.isAgg9
 z9 := Tryz.sizeOf9
 v9 := Tryz.zeroValue9
 t46 := Tryz.underlying193
 a46 := Tryz.isAgg193
 z46 := Tryz.sizeOf193
 v46 := Tryz.zeroValue193
 t51 := Tryz.underlying213
 a51 := Tryz.isAgg213
 z51 := Tryz.sizeOf213
 v51 := Tryz.zeroValue213
 t146 := Tryz.underlying214
 a146 := Tryz.isAgg214
 z146 := Tryz.sizeOf214
 v146 := Tryz.zeroValue214
 g1 := by kernel_rfl }
def Tryz.lays219_ren : Go.Shelf.Ren := ⟨fun | 219 => 176 | 217 => 192 | 225 => 208 | 224 => 209 | 267 => 210 | 266 => 217 | 314 => 232 | n => n, fun | 9 => 9 | 3 => 3 | 4 => 4 | 5 => 5 | 46 => 193 | 146 => 214 | 51 => 213 | n => n, fun | 1 => 1 | n => n⟩
theorem Tryz.lays219 : Go.Proofs.Lays.n219 Tryz.prog Tryz.lays219_ren := {
 mixed := by kernel_rfl
 f217 := Tryz.func192.trans (congrArg some (by kernel_rfl))
 f219 := Tryz.func176.trans (congrArg some (by kernel_rfl))
 f224 := Tryz.func209.trans (congrArg some (by kernel_rfl))
 f225 := Tryz.func208.trans (congrArg some (by kernel_rfl))
 f266 := Tryz.func217.trans (congrArg some (by kernel_rfl))
 f267 := Tryz.func210.trans (congrArg some (by kernel_rfl))
 f314 := Tryz.func232.trans (congrArg some (by kernel_rfl))
 t3 := Tryz.underlying3
 a3 := Tryz.isAgg3
 z3 := Tryz.sizeOf3
 v3 := Tryz.zeroValue3
 t4 := Tryz.underlying4
 a4 := Tryz.isAgg4
 z4 := Tryz.sizeOf4
 v4 := Tryz.zeroValue4
 t5 := Tryz.underlying5
 a5 := Tryz.isAgg5
 z5 := Tryz.sizeOf5
 v5 := Tryz.zeroValue5
 t9 := Tryz.underlying9
 a9 := Tryz.isAgg9
 z9 := Tryz.sizeOf9
 v9 := Tryz.zeroValue9
 t46 := Tryz.underlying193
 a46 := Tryz.isAgg193
 z46 := Tryz.sizeOf193
 v46 := Tryz.zeroValue193
 t51 := Tryz.underlying213
 a51 := Tryz.isAgg213
 z51 := Tryz.sizeOf213
 v51 := Tryz.zeroValue213
 t146 := Tryz.underlying214
 a146 := Tryz.isAgg214
 z146 := Tryz.sizeOf214
 v146 := Tryz.zeroValue214
 g1 := by kernel_rfl }
def Tryz.lays138_ren : Go.Shelf.Ren := ⟨fun | 138 => 172 | 195 => 205 | 218 => 207 | 143 => 173 | 219 => 176 | 217 => 192 | 225 => 208 | 224 => 209 | 267 => 210 | 266 => 217 | 314 => 232 | n => n, fun | 9 => 9 | 3 => 3 | 4 => 4 | 5 => 5 | 0 => 0 | 46 => 193 | 146 => 214 | 51 => 213 | n => n, fun | 1 => 1 | n => n⟩
theorem Tryz.lays138 : Go.Proofs.Lays.n138 Tryz.prog Tryz.lays138_ren := {
 mixed := by kernel_rfl
 f138 := Tryz.func172.trans (congrArg some (by kernel_rfl))
 f143 := Tryz.func173.trans (congrArg some (by kernel_rfl))
 f195 := Tryz.func205.trans (congrArg some (by kernel_rfl))
 f217 := Tryz.func192.trans (congrArg some (by kernel_rfl))
 f218 := Tryz.func207.trans (congrArg some (by kernel_rfl))
 f219 := Tryz.func176.trans (congrArg some (by kernel_rfl))
 f224 := Tryz.func209.trans (congrArg some (by kernel_rfl))
 f225 := Tryz.func208.trans (congrArg some (by kernel_rfl))
 f266 := Tryz.func217.trans (congrArg some (by kernel_rfl))
 f267 := Tryz.func210.trans (congrArg some (by kernel_rfl))
 f314 := Tryz.func232.trans (congrArg some (by kernel_rfl))
 t0 := Tryz.underlying0
 a0 := Tryz.isAgg0
 z0 := Tryz.sizeOf0
 v0 := Tryz.zeroValue0
 t3 := Tryz.underlying3
 a3 := Tryz.isAgg3
 z3 := Tryz.sizeOf3
 v3 := Tryz.zeroValue3
 t4 := Tryz.underlying4
 a4 := Tryz.isAgg4
 z4 := Tryz.sizeOf4
 v4 := Tryz.zeroValue4
 t5 := Tryz.underlying5
 a5 := Tryz.isAgg5
 z5 := Tryz.sizeOf5
 v5 := Tryz.zeroValue5
 t9 := Tryz.underlying9
 a9 := Tryz.isAgg9
 z9 := Tryz.sizeOf9
 v9 := Tryz.zeroValue9
 t46 := Tryz.underlying193
 a46 := Tryz.isAgg193
 z46 := Tryz.sizeOf193
 v46 := Tryz.zeroValue193
 t51 := Tryz.underlying213
 a51 := Tryz.isAgg213
 z51 := Tryz.sizeOf213
 v51 := Tryz.zeroValue213
 t146 := Tryz.underlying214
 a146 := Tryz.isAgg214
 z146 := Tryz.sizeOf214
 v146 := Tryz.zeroValue214
 g1 := by kernel_rfl }
def Tryz.laysC172_ren : Go.Shelf.Ren := ⟨fun | 172 => 152 | 244 => 194 | 245 => 195 | 247 => 218 | 279 => 219 | 280 => 220 | 281 => 221 | 282 => 222 | 287 => 234 | 316 => 235 | 171 => 86 | 205 => 236 | 321 => 245 | 322 => 246 | 243 => 153 | 246 => 196 | 283 => 223 | 284 => 224 | 285 => 225 | 286 => 226 | 129 => 238 | 317 => 237 | 318 => 239 | 319 => 240 | 320 => 241 | 337 => 247 | 338 => 248 | n => n, fun | 9 => 9 | 3 => 3 | 75 => 97 | 76 => 98 | 4 => 4 | 5 => 5 | 167 => 200 | 37 => 22 | 0 => 0 | 85 => 201 | 2 => 2 | 168 => 203 | 53 => 207 | 175 => 217 | 46 => 193 | 210 => 221 | 127 => 149 | 145 => 236 | 143 => 234 | 21 => 21 | 171 => 206 | 173 => 210 | 212 => 224 | 51 => 213 | 20 => 20 | 213 => 225 | 232 => 238 | 233 => 239 | 80 => 100 | n => n, fun | 15 => 2 | 16 => 3 | 17 => 4 | 18 => 7 | 19 => 8 | n => n⟩
theorem Tryz.laysC172 : Go.Proofs.LaysC.n172 Tryz.prog Tryz.laysC172_ren := {
 mixed := by kernel_rfl
 f129 := Tryz.func238.trans (congrArg some (by kernel_rfl))
 f171 := Tryz.func86.trans (congrArg some (by kernel_rfl))
 f172 := Tryz.func152.trans (congrArg some (by kernel_rfl))
 f205 := Tryz.func236.trans (congrArg some (by kernel_rfl))
 f243 := Tryz.func153.trans (congrArg some (by kernel_rfl))
 f244 := Tryz.func194.trans (congrArg some (by kernel_rfl))
 f245 := Tryz.func195.trans (congrArg some (by kernel_rfl))
 f246 := Tryz.func196.trans (congrArg some (by kernel_rfl))
 f247 := Tryz.func218.trans (congrArg some (by kernel_rfl))
 f279 := Tryz.func219.trans (congrArg some (by kernel_rfl))
 f280 := Tryz.func220.trans (congrArg some (by kernel_rfl))
 f281 := Tryz.func221.trans (congrArg some (by kernel_rfl))
 f282 := Tryz.func222.trans (congrArg some (by kernel_rfl))
 f283 := Tryz.func223.trans (congrArg some (by kernel_rfl))
 f284 := Tryz.func224.trans (congrArg some (by kernel_rfl))
 f285 := Tryz.func225.trans (congrArg some (by kernel_rfl))
 f286 := Tryz.func226.trans (congrArg some (by kernel_rfl))
 f287 := Tryz.func234.trans (congrArg some (by kernel_rfl))
 f316 := Tryz.func235.trans (congrArg some (by kernel_rfl))
 f317 := Tryz.func237.trans (congrArg some (by kernel_rfl))
 f318 := Tryz.func239.trans (congrArg some (by kernel_rfl))
 f319 := Tryz.func240.trans (congrArg some (by kernel_rfl))
 f320 := Tryz.func241.trans (congrArg some (by kernel_rfl))
 f321 := Tryz.func245.trans (congrArg some (by kernel_rfl))
 f322 := Tryz.func246.trans (congrArg some (by kernel_rfl))
 f337 := Tryz.func247.trans (congrArg some (by kernel_rfl))
 f338 := Tryz.func248.trans (congrArg some (by kernel_rfl))
 t0 := Tryz.underlying0
 a0 := Tryz.isAgg0
 z0 := Tryz.sizeOf0
 v0 := Tryz.zeroValue0
 t2 := Tryz.underlying2
 a2 := Tryz.isAgg2
 z2 := Tryz.sizeOf2
 v2 := Tryz.zeroValue2
 t3 := Tryz.underlying3
 a3 := Tryz.isAgg3
 z3 := Tryz.sizeOf3
 v3 := Tryz.zeroValue3
 t4 := Tryz.underlying4
 a4 := Tryz.isAgg4
 z4 := Tryz.sizeOf4
 v4 := Tryz.zeroValue4
 t5 := Tryz.underlying5
 a5 := Tryz.isAgg5
 z5 := Tryz.sizeOf5
 v5 := Tryz.zeroValue5
 t9 := Tryz.underlying9
 a9 := Tryz.isAgg9
 z9 := Tryz.sizeOf9
 v9 := Tryz.zeroValue9
 t20 := Tryz.underlying20
 a20 := Tryz.isAgg20
 z20 := Tryz.sizeOf20
 v20 := Tryz.zeroValue20
 t21 := Tryz.underlying21
 a21 := Tryz.isAgg21
 z21 := Tryz.sizeOf21
 v21 := Tryz.zeroValue21
 t37 := Tryz.underlying22
 a37 := Tryz.isAgg22
 z37 := Tryz.sizeOf22
 v37 := Tryz.zeroValue22
 t46 := Tryz.underlying193
 a46 := Tryz.isAgg193
 z46 := Tryz.sizeOf193
 v46 := Tryz.zeroValue193
 t51 := Tryz.underlying213
 a51 := Tryz.isAgg213
 z51 := Tryz.sizeOf213
 v51 := Tryz.zeroValue213
 t53 := Tryz.underlying207
 a53 := Tryz.isAgg207
 z53 := Tryz.sizeOf207
 v53 := Tryz.zeroValue207
 t75 := Tryz.underlying97
 a75 := Tryz.isAgg97
 z75 := Tryz.sizeOf97
 v75 := Tryz.zeroValue97
 t76 := Tryz.underlying98
 a76 := Tryz.isAgg98
 z76 := Tryz.sizeOf98
 v76 := Tryz.zeroValue98
 t85 := Tryz.underlying201
 a85 := Tryz.isAgg201
 z85 := Tryz.sizeOf201
 v85 := Tryz.zeroValue201
 t127 := Tryz.underlying149
 a127 := Tryz.isAgg149
 z127 := Tryz.sizeOf149
 v127 := Tryz.zeroValue149
 t143 := Tryz.underlying234
 a143 := Tryz.isAgg234
 z143 := Tryz.sizeOf234
 v143 := Tryz.zeroValue234
 t145 := Tryz.underlying236
 a145 := Tryz.isAgg236
 z145 := Tryz.sizeOf236
 v145 := Tryz.zeroValue236
 t167 := Tryz.underlying200
 a167 := Tryz.isAgg200
 z167 := Tryz.sizeOf200
 v167 := Tryz.zeroValue200
 t168 := Tryz.underlying203
 a168 := Tryz.isAgg203
 z168 := Tryz.sizeOf203
 v168 := Tryz.zeroValue203
 t171 := Tryz.underlying206
 a171 := Tryz.isAgg206
 z171 := Tryz.sizeOf206
 v171 := Tryz.zeroValue206
 t173 := Tryz.underlying210
 a173 := Tryz.isAgg210
 z173 := Tryz.sizeOf210
 v173 := Tryz.zeroValue210
 t175 := Tryz.underlying217
 a175 := Tryz.isAgg217
 z175 := Tryz.sizeOf217
 v175 := Tryz.zeroValue217
 t210 := Tryz.underlying221
 a210 := Tryz.isAgg221
 z210 := Tryz.sizeOf221
 v210 := Tryz.zeroValue221
 t212 := Tryz.underlying224
 a212 := Tryz.isAgg224
 z212 := Tryz.sizeOf224
 v212 := Tryz.zeroValue224
 t213 := Tryz.underlying225
 a213 := Tryz.isAgg225
 z213 := Tryz.sizeOf225
 t232 := Tryz.underlying238
 a232 := Tryz.isAgg238
 z232 := Tryz.sizeOf238
 v232 := Tryz.zeroValue238
 t233 := Tryz.underlying239
 a233 := Tryz.isAgg239
 z233 := Tryz.sizeOf239
 v233 := Tryz.zeroValue239
 g15 := by kernel_rfl
 g16 := by kernel_rfl
 g17 := by kernel_rfl
 g18 := by kernel_rfl
 g19 := by kernel_rfl
 t80 := Tryz.underlying100
 a80 := Tryz.isAgg100
 z80 := Tryz.sizeOf100
 v80 := Tryz.zeroValue100
 i0 := by kernel_rfl
 i2 := by kernel_rfl
 i3 := by kernel_rfl
 i4 := by kernel_rfl
 i5 := by kernel_rfl
 i9 := by kernel_rfl
 i20 := by kernel_rfl
 i21 := by kernel_rfl
 i37 := by kernel_rfl
 i46 := by kernel_rfl
 i51 := by kernel_rfl
 i53 := by kernel_rfl
 i75 := by kernel_rfl
 i76 := by kernel_rfl
 i80 := by kernel_rfl
 i85 := by kernel_rfl
 i127 := by kernel_rfl
 i143 := by kernel_rfl
 i145 := by kernel_rfl
 i167 := by kernel_rfl
 i168 := by kernel_rfl
 i171 := by kernel_rfl
 i173 := by kernel_rfl
 i175 := by kernel_rfl
 i210 := by kernel_rfl
 i212 := by kernel_rfl
 i232 := by kernel_rfl
 i233 := by kernel_rfl
 m15 := by kernel_rfl
 m16 := by kernel_rfl
 m17 := by kernel_rfl
 m18 := by kernel_rfl
 m19 := by kernel_rfl
 c0 := by kernel_rfl
 c2 := by kernel_rfl
 c3 := by kernel_rfl
 c4 := by kernel_rfl
 c5 := by kernel_rfl
 c9 := by kernel_rfl
 c20 := by kernel_rfl
 c21 := by kernel_rfl
 c37 := by kernel_rfl
 c46 := by kernel_rfl
 c51 := by kernel_rfl
 c53 := by kernel_rfl
 c75 := by kernel_rfl
 c76 := by kernel_rfl
 c80 := by kernel_rfl
 c85 := by kernel_rfl
 c127 := by kernel_rfl
 c143 := by kernel_rfl
 c145 := by kernel_rfl
 c167 := by kernel_rfl
 c168 := by kernel_rfl
 c171 := by kernel_rfl
 c173 := by kernel_rfl
 c175 := by kernel_rfl
 c210 := by kernel_rfl
 c212 := by kernel_rfl
 c213 := by kernel_rfl
 c232 := by kernel_rfl
 c233 := by kernel_rfl }
def Tryz.ws_ren : Go.Shelf.Ren := ⟨fun | 166 => 65 | 240 => 125 | n => n, fun | 70 => 93 | 9 => 9 | 0 => 0 | 72 => 95 | 37 => 22 | 127 => 149 | 3 => 3 | 5 => 5 | 75 => 97 | n => n, fun | n => n⟩
theorem Tryz.wsL : WsL Tryz.prog Tryz.ws_ren := {
 mixed := by kernel_rfl
 f166 := Tryz.func65.trans (congrArg some (by kernel_rfl))
 e240 := enters_of Tryz.func125 (by kernel_rfl) rfl
 cc := Tryz.cc
 t0 := Tryz.underlying0
 a0 := Tryz.isAgg0
 z0 := Tryz.sizeOf0
 v0 := Tryz.zeroValue0
 t3 := Tryz.underlying3
 a3 := Tryz.isAgg3
 z3 := Tryz.sizeOf3
 v3 := Tryz.zeroValue3
 t9 := Tryz.underlying9
 a9 := Tryz.isAgg9
 z9 := Tryz.sizeOf9
 v9 := Tryz.zeroValue9
 t37 := Tryz.underlying22
 a37 := Tryz.isAgg22
 z37 := Tryz.sizeOf22
 v37 := Tryz.zeroValue22
 t70 := Tryz.underlying93
 a70 := Tryz.isAgg93
 z70 := Tryz.sizeOf93
 v70 := Tryz.zeroValue93
 t72 := Tryz.underlying95
 a72 := Tryz.isAgg95
 z72 := Tryz.sizeOf95
 v72 := Tryz.zeroValue95 }
theorem Tryz.wsX : Builder.Extra Tryz.prog Tryz.ws_ren := {
 sizeBuilder := by kernel_rfl
 liesBuilder := by kernel_rfl
 t5 := Tryz.underlying5
 a5 := Tryz.isAgg5
 z5 := Tryz.sizeOf5
 v5 := Tryz.zeroValue5
 infoByte := by kernel_rfl
 cellsByte := by kernel_rfl
 sizeByte := by kernel_rfl
 neB5 := by decide }
end Go.Proofs
end
section
open Go Go.Refl Go.Proofs
set_option maxRecDepth 1000000
set_option maxHeartbeats 0
set_option linter.unusedVariables false
namespace Go.Proofs.YtmnmbjnhhhdegaaGreatDoorG
noncomputable def ar : List (Nat × AI) := [(84, { n := 8, E := 9, e := .str }), (206, { n := 24, E := 5, e := (.int .u8) }), (224, { n := 20, E := 207, e := (.int .u64) }), (238, { n := 32, E := 5, e := (.int .u8) }), (239, { n := 64, E := 5, e := (.int .u8) })]
noncomputable def bld : List (Nat × Nat) := [(94, 5), (95, 5)]
theorem ar84 : AOk Tryz.prog 84 { n := 8, E := 9, e := .str } := .of (by kernel_rfl) (by kernel_rfl) (by kernel_rfl) (by kernel_rfl) rfl
theorem ar206 : AOk Tryz.prog 206 { n := 24, E := 5, e := (.int .u8) } := .of (by kernel_rfl) (by kernel_rfl) (by kernel_rfl) (by kernel_rfl) rfl
theorem ar224 : AOk Tryz.prog 224 { n := 20, E := 207, e := (.int .u64) } := .of (by kernel_rfl) (by kernel_rfl) (by kernel_rfl) (by kernel_rfl) rfl
theorem ar238 : AOk Tryz.prog 238 { n := 32, E := 5, e := (.int .u8) } := .of (by kernel_rfl) (by kernel_rfl) (by kernel_rfl) (by kernel_rfl) rfl
theorem ar239 : AOk Tryz.prog 239 { n := 64, E := 5, e := (.int .u8) } := .of (by kernel_rfl) (by kernel_rfl) (by kernel_rfl) (by kernel_rfl) rfl
theorem bld94 : BOk Tryz.prog 94 := .of (by kernel_rfl) (by kernel_rfl)
theorem bld95 : BOk Tryz.prog 95 := .of (by kernel_rfl) (by kernel_rfl)
theorem ar_ok : ∀ T ai, Refl.look ar T = some ai → AOk Tryz.prog T ai := arOk (all_cons ar84 (all_cons ar206 (all_cons ar224 (all_cons ar238 (all_cons ar239 (all_nil))))))
theorem bld_ok : ∀ T E, Refl.look bld T = some E → BOk Tryz.prog T := bldOk (all_cons bld94 (all_cons bld95 (all_nil)))
noncomputable def pts : List Nat := [15, 16, 17, 75, 93, 149, 151, 203, 234]
theorem pts_ok : ∀ T, pts.contains T = true → ∃ e, Tryz.prog.underlying T = some (.pointer e) := fun T h => ptsOk (all_cons ⟨241, by kernel_rfl⟩ (all_cons ⟨244, by kernel_rfl⟩ (all_cons ⟨252, by kernel_rfl⟩ (all_cons ⟨136, by kernel_rfl⟩ (all_cons ⟨95, by kernel_rfl⟩ (all_cons ⟨5, by kernel_rfl⟩ (all_cons ⟨41, by kernel_rfl⟩ (all_cons ⟨221, by kernel_rfl⟩ (all_cons ⟨236, by kernel_rfl⟩ (all_nil)))))))))) (List.contains_iff_mem.1 h)
noncomputable def g0 : Nat × GItem := (0, .row ⟨.str, [⟨#[106, 111, 105, 110]⟩, ⟨#[115, 97, 118, 101]⟩, ⟨#[116, 97, 107, 101]⟩, ⟨#[108, 101, 110, 100]⟩, ⟨#[114, 101, 112, 97, 121]⟩, ⟨#[102, 97, 105, 108]⟩, ⟨#[110, 105, 103, 104, 116]⟩, ⟨#[115, 104, 97, 114, 101]⟩]⟩)
noncomputable def g2 : Nat × GItem := (2, .iface)
noncomputable def g3 : Nat × GItem := (3, .iface)
noncomputable def g4 : Nat × GItem := (4, .row ⟨.int .u64, Lib.pow10Tab⟩)
noncomputable def tb : List (Nat × TI) := [(2, { ty := (.int .i64), eqOk := true }),
  (3, { ty := (.int .i64), eqOk := true }),
  (4, { ty := .bool, eqOk := true }),
  (5, { ty := (.int .u8), eqOk := true }),
  (6, { ty := (.int .u8), eqOk := true }),
  (7, { ty := (.pair (.int .i64) (.pair (.int .i64) (.pair .bool (.int .u8)))), offs := [0, 1, 2, 3], szs := [1, 1, 1, 1], eqOk := true }),
  (8, { ty := (.pair (.int .i64) (.pair (.int .i64) (.pair .bool (.int .u8)))), offs := [0, 1, 2, 3], szs := [1, 1, 1, 1], eqOk := true }),
  (9, { ty := .str, eqOk := true }),
  (10, { ty := .str, eqOk := true }),
  (11, { ty := .str, eqOk := true }),
  (12, { ty := (.int .u64), eqOk := true }),
  (13, { ty := (.pair .str (.int .u64)), offs := [0, 1], szs := [1, 1] }),
  (14, { ty := (.pair .str (.int .u64)), offs := [0, 1], szs := [1, 1] }),
  (21, { ty := (.int .i32), eqOk := true }),
  (22, { ty := (.slice (.int .u8)), elem := 5 }),
  (24, { ty := (.slice (.int .i64)), elem := 3 }),
  (25, { ty := (.pair (.int .i64) (.int .i64)), offs := [0, 1], szs := [1, 1], eqOk := true }),
  (26, { ty := (.pair (.int .i64) (.int .i64)), offs := [0, 1], szs := [1, 1], eqOk := true }),
  (27, { ty := (.pair (.int .i64) (.pair (.int .i64) (.pair (.int .i64) (.pair (.int .i64) (.pair (.slice (.int .i64)) (.pair (.int .i64) (.int .i64))))))), offs := [0, 1, 2, 3, 4, 5], szs := [1, 1, 1, 1, 1, 2] }),
  (28, { ty := (.pair (.int .i64) (.pair (.int .i64) (.pair (.int .i64) (.pair (.int .i64) (.pair (.slice (.int .i64)) (.pair (.int .i64) (.int .i64))))))), offs := [0, 1, 2, 3, 4, 5], szs := [1, 1, 1, 1, 1, 2] }),
  (34, { ty := (.slice (.pair (.int .i64) (.pair (.int .i64) (.pair (.int .i64) (.pair (.int .i64) (.pair (.slice (.int .i64)) (.pair (.int .i64) (.int .i64)))))))), elem := 28 }),
  (39, { ty := (.slice (.pair (.int .i64) (.pair (.int .i64) (.slice (.int .i64))))), elem := 142 }),
  (40, { ty := (.pair (.slice (.int .i64)) (.pair (.slice (.pair (.int .i64) (.pair (.int .i64) (.slice (.int .i64))))) (.pair (.int .i64) (.pair (.int .i64) (.int .i64))))), offs := [0, 1, 2, 3, 4], szs := [1, 1, 1, 1, 1] }),
  (41, { ty := (.pair (.slice (.int .i64)) (.pair (.slice (.pair (.int .i64) (.pair (.int .i64) (.slice (.int .i64))))) (.pair (.int .i64) (.pair (.int .i64) (.int .i64))))), offs := [0, 1, 2, 3, 4], szs := [1, 1, 1, 1, 1] }),
  (50, { ty := (.slice (.pair (.int .i64) (.pair (.int .i64) (.pair (.int .i64) (.int .i64))))), elem := 111 }),
  (57, { ty := (.slice (.pair (.int .i64) (.pair (.pair (.int .i64) (.pair (.int .i64) (.pair (.int .i64) (.int .i64)))) (.pair (.int .i64) (.pair (.int .i64) (.pair (.int .i64) (.int .i64))))))), elem := 124 }),
  (59, { ty := (.slice .str), elem := 9 }),
  (66, { ty := (.slice (.pair (.int .i64) (.pair (.int .i64) (.slice (.int .i64))))), elem := 169 }),
  (67, { ty := (.pair (.slice (.int .i64)) (.pair (.slice (.pair (.int .i64) (.pair (.int .i64) (.slice (.int .i64))))) (.pair (.int .i64) (.pair (.int .i64) (.int .i64))))), offs := [0, 1, 2, 3, 4], szs := [1, 1, 1, 1, 1] }),
  (68, { ty := (.pair (.slice (.int .i64)) (.pair (.slice (.pair (.int .i64) (.pair (.int .i64) (.slice (.int .i64))))) (.pair (.int .i64) (.pair (.int .i64) (.int .i64))))), offs := [0, 1, 2, 3, 4], szs := [1, 1, 1, 1, 1] }),
  (96, { ty := .err }),
  (97, { ty := .err }),
  (110, { ty := (.pair (.int .i64) (.pair (.int .i64) (.pair (.int .i64) (.int .i64)))), offs := [0, 1, 2, 3], szs := [1, 1, 1, 1], eqOk := true }),
  (111, { ty := (.pair (.int .i64) (.pair (.int .i64) (.pair (.int .i64) (.int .i64)))), offs := [0, 1, 2, 3], szs := [1, 1, 1, 1], eqOk := true }),
  (123, { ty := (.pair (.int .i64) (.pair (.pair (.int .i64) (.pair (.int .i64) (.pair (.int .i64) (.int .i64)))) (.pair (.int .i64) (.pair (.int .i64) (.pair (.int .i64) (.int .i64)))))), offs := [0, 1, 5], szs := [1, 4, 4], eqOk := true }),
  (124, { ty := (.pair (.int .i64) (.pair (.pair (.int .i64) (.pair (.int .i64) (.pair (.int .i64) (.int .i64)))) (.pair (.int .i64) (.pair (.int .i64) (.pair (.int .i64) (.int .i64)))))), offs := [0, 1, 5], szs := [1, 4, 4], eqOk := true }),
  (135, { ty := (.pair (.slice (.int .u8)) (.int .i64)), offs := [0, 1], szs := [1, 1] }),
  (136, { ty := (.pair (.slice (.int .u8)) (.int .i64)), offs := [0, 1], szs := [1, 1] }),
  (141, { ty := (.pair (.int .i64) (.pair (.int .i64) (.slice (.int .i64)))), offs := [0, 1, 2], szs := [1, 1, 1] }),
  (142, { ty := (.pair (.int .i64) (.pair (.int .i64) (.slice (.int .i64)))), offs := [0, 1, 2], szs := [1, 1, 1] }),
  (169, { ty := (.pair (.int .i64) (.pair (.int .i64) (.slice (.int .i64)))), offs := [0, 1, 2], szs := [1, 1, 1] }),
  (189, { ty := (.slice .bool), elem := 4 }),
  (193, { ty := (.int .u64), eqOk := true }),
  (200, { ty := (.int .i64), eqOk := true, cmp := true }),
  (207, { ty := (.int .u64), eqOk := true }),
  (213, { ty := (.int .u32), eqOk := true }),
  (220, { ty := (.pair .str (.pair .str .err)), offs := [0, 1, 2], szs := [1, 1, 1] }),
  (221, { ty := (.pair .str (.pair .str .err)), offs := [0, 1, 2], szs := [1, 1, 1] }),
  (230, { ty := (.pair (.int .u8) (.int .u8)), offs := [0, 1], szs := [1, 1], eqOk := true }),
  (231, { ty := (.pair (.int .u8) (.int .u8)), offs := [0, 1], szs := [1, 1], eqOk := true }),
  (246, { ty := (.int .u8), eqOk := true }),
  (247, { ty := (.int .u8), eqOk := true }),
  (249, { ty := (.int .i32), eqOk := true }),
  (250, { ty := (.int .i32), eqOk := true })]
theorem t2 : TOk Tryz.prog tb 2 { ty := (.int .i64), eqOk := true } := .of (by kernel_rfl) (by kernel_rfl) (by show _ = _; kernel_rfl) (fun h => eqOk_int)
theorem t3 : TOk Tryz.prog tb 3 { ty := (.int .i64), eqOk := true } := .of (by kernel_rfl) (by kernel_rfl) (by show _ = _; kernel_rfl) (fun h => eqOk_int)
theorem t4 : TOk Tryz.prog tb 4 { ty := .bool, eqOk := true } := .of (by kernel_rfl) (by kernel_rfl) (by show _ = _; kernel_rfl) (fun h => eqOk_bool (by kernel_rfl))
theorem t5 : TOk Tryz.prog tb 5 { ty := (.int .u8), eqOk := true } := .of (by kernel_rfl) (by kernel_rfl) (by show _ = _; kernel_rfl) (fun h => eqOk_int)
theorem t6 : TOk Tryz.prog tb 6 { ty := (.int .u8), eqOk := true } := .of (by kernel_rfl) (by kernel_rfl) (by show _ = _; kernel_rfl) (fun h => eqOk_int)
theorem t7 : TOk Tryz.prog tb 7 { ty := (.pair (.int .i64) (.pair (.int .i64) (.pair .bool (.int .u8)))), offs := [0, 1, 2, 3], szs := [1, 1, 1, 1], eqOk := true } := .of (by kernel_rfl) (by kernel_rfl) (descOk_struct rfl (by kernel_rfl)) (fun h => eqOk_struct rfl (by kernel_rfl) (by kernel_rfl))
theorem t8 : TOk Tryz.prog tb 8 { ty := (.pair (.int .i64) (.pair (.int .i64) (.pair .bool (.int .u8)))), offs := [0, 1, 2, 3], szs := [1, 1, 1, 1], eqOk := true } := .of (by kernel_rfl) (by kernel_rfl) (descOk_struct rfl (by kernel_rfl)) (fun h => eqOk_struct rfl (by kernel_rfl) (by kernel_rfl))
theorem t9 : TOk Tryz.prog tb 9 { ty := .str, eqOk := true } := .of (by kernel_rfl) (by kernel_rfl) (by show _ = _; kernel_rfl) (fun h => eqOk_str)
theorem t10 : TOk Tryz.prog tb 10 { ty := .str, eqOk := true } := .of (by kernel_rfl) (by kernel_rfl) (by show _ = _; kernel_rfl) (fun h => eqOk_str)
theorem t11 : TOk Tryz.prog tb 11 { ty := .str, eqOk := true } := .of (by kernel_rfl) (by kernel_rfl) (by show _ = _; kernel_rfl) (fun h => eqOk_str)
theorem t12 : TOk Tryz.prog tb 12 { ty := (.int .u64), eqOk := true } := .of (by kernel_rfl) (by kernel_rfl) (by show _ = _; kernel_rfl) (fun h => eqOk_int)
theorem t13 : TOk Tryz.prog tb 13 { ty := (.pair .str (.int .u64)), offs := [0, 1], szs := [1, 1] } := .of (by kernel_rfl) (by kernel_rfl) (descOk_struct rfl (by kernel_rfl)) (fun h => by cases h)
theorem t14 : TOk Tryz.prog tb 14 { ty := (.pair .str (.int .u64)), offs := [0, 1], szs := [1, 1] } := .of (by kernel_rfl) (by kernel_rfl) (descOk_struct rfl (by kernel_rfl)) (fun h => by cases h)
theorem t21 : TOk Tryz.prog tb 21 { ty := (.int .i32), eqOk := true } := .of (by kernel_rfl) (by kernel_rfl) (by show _ = _; kernel_rfl) (fun h => eqOk_int)
theorem t22 : TOk Tryz.prog tb 22 { ty := (.slice (.int .u8)), elem := 5 } := .of (by kernel_rfl) (by kernel_rfl) (⟨by kernel_rfl, { ty := (.int .u8), eqOk := true }, by kernel_rfl, by kernel_rfl⟩) (fun h => by cases h)
theorem t24 : TOk Tryz.prog tb 24 { ty := (.slice (.int .i64)), elem := 3 } := .of (by kernel_rfl) (by kernel_rfl) (⟨by kernel_rfl, { ty := (.int .i64), eqOk := true }, by kernel_rfl, by kernel_rfl⟩) (fun h => by cases h)
theorem t25 : TOk Tryz.prog tb 25 { ty := (.pair (.int .i64) (.int .i64)), offs := [0, 1], szs := [1, 1], eqOk := true } := .of (by kernel_rfl) (by kernel_rfl) (descOk_struct rfl (by kernel_rfl)) (fun h => eqOk_struct rfl (by kernel_rfl) (by kernel_rfl))
theorem t26 : TOk Tryz.prog tb 26 { ty := (.pair (.int .i64) (.int .i64)), offs := [0, 1], szs := [1, 1], eqOk := true } := .of (by kernel_rfl) (by kernel_rfl) (descOk_struct rfl (by kernel_rfl)) (fun h => eqOk_struct rfl (by kernel_rfl) (by kernel_rfl))
theorem t27 : TOk Tryz.prog tb 27 { ty := (.pair (.int .i64) (.pair (.int .i64) (.pair (.int .i64) (.pair (.int .i64) (.pair (.slice (.int .i64)) (.pair (.int .i64) (.int .i64))))))), offs := [0, 1, 2, 3, 4, 5], szs := [1, 1, 1, 1, 1, 2] } := .of (by kernel_rfl) (by kernel_rfl) (descOk_struct rfl (by kernel_rfl)) (fun h => by cases h)
theorem t28 : TOk Tryz.prog tb 28 { ty := (.pair (.int .i64) (.pair (.int .i64) (.pair (.int .i64) (.pair (.int .i64) (.pair (.slice (.int .i64)) (.pair (.int .i64) (.int .i64))))))), offs := [0, 1, 2, 3, 4, 5], szs := [1, 1, 1, 1, 1, 2] } := .of (by kernel_rfl) (by kernel_rfl) (descOk_struct rfl (by kernel_rfl)) (fun h => by cases h)
theorem t34 : TOk Tryz.prog tb 34 { ty := (.slice (.pair (.int .i64) (.pair (.int .i64) (.pair (.int .i64) (.pair (.int .i64) (.pair (.slice (.int .i64)) (.pair (.int .i64) (.int .i64)))))))), elem := 28 } := .of (by kernel_rfl) (by kernel_rfl) (⟨by kernel_rfl, { ty := (.pair (.int .i64) (.pair (.int .i64) (.pair (.int .i64) (.pair (.int .i64) (.pair (.slice (.int .i64)) (.pair (.int .i64) (.int .i64))))))), offs := [0, 1, 2, 3, 4, 5], szs := [1, 1, 1, 1, 1, 2] }, by kernel_rfl, by kernel_rfl⟩) (fun h => by cases h)
theorem t39 : TOk Tryz.prog tb 39 { ty := (.slice (.pair (.int .i64) (.pair (.int .i64) (.slice (.int .i64))))), elem := 142 } := .of (by kernel_rfl) (by kernel_rfl) (⟨by kernel_rfl, { ty := (.pair (.int .i64) (.pair (.int .i64) (.slice (.int .i64)))), offs := [0, 1, 2], szs := [1, 1, 1] }, by kernel_rfl, by kernel_rfl⟩) (fun h => by cases h)
theorem t40 : TOk Tryz.prog tb 40 { ty := (.pair (.slice (.int .i64)) (.pair (.slice (.pair (.int .i64) (.pair (.int .i64) (.slice (.int .i64))))) (.pair (.int .i64) (.pair (.int .i64) (.int .i64))))), offs := [0, 1, 2, 3, 4], szs := [1, 1, 1, 1, 1] } := .of (by kernel_rfl) (by kernel_rfl) (descOk_struct rfl (by kernel_rfl)) (fun h => by cases h)
theorem t41 : TOk Tryz.prog tb 41 { ty := (.pair (.slice (.int .i64)) (.pair (.slice (.pair (.int .i64) (.pair (.int .i64) (.slice (.int .i64))))) (.pair (.int .i64) (.pair (.int .i64) (.int .i64))))), offs := [0, 1, 2, 3, 4], szs := [1, 1, 1, 1, 1] } := .of (by kernel_rfl) (by kernel_rfl) (descOk_struct rfl (by kernel_rfl)) (fun h => by cases h)
theorem t50 : TOk Tryz.prog tb 50 { ty := (.slice (.pair (.int .i64) (.pair (.int .i64) (.pair (.int .i64) (.int .i64))))), elem := 111 } := .of (by kernel_rfl) (by kernel_rfl) (⟨by kernel_rfl, { ty := (.pair (.int .i64) (.pair (.int .i64) (.pair (.int .i64) (.int .i64)))), offs := [0, 1, 2, 3], szs := [1, 1, 1, 1], eqOk := true }, by kernel_rfl, by kernel_rfl⟩) (fun h => by cases h)
theorem t57 : TOk Tryz.prog tb 57 { ty := (.slice (.pair (.int .i64) (.pair (.pair (.int .i64) (.pair (.int .i64) (.pair (.int .i64) (.int .i64)))) (.pair (.int .i64) (.pair (.int .i64) (.pair (.int .i64) (.int .i64))))))), elem := 124 } := .of (by kernel_rfl) (by kernel_rfl) (⟨by kernel_rfl, { ty := (.pair (.int .i64) (.pair (.pair (.int .i64) (.pair (.int .i64) (.pair (.int .i64) (.int .i64)))) (.pair (.int .i64) (.pair (.int .i64) (.pair (.int .i64) (.int .i64)))))), offs := [0, 1, 5], szs := [1, 4, 4], eqOk := true }, by kernel_rfl, by kernel_rfl⟩) (fun h => by cases h)
theorem t59 : TOk Tryz.prog tb 59 { ty := (.slice .str), elem := 9 } := .of (by kernel_rfl) (by kernel_rfl) (⟨by kernel_rfl, { ty := .str, eqOk := true }, by kernel_rfl, by kernel_rfl⟩) (fun h => by cases h)
theorem t66 : TOk Tryz.prog tb 66 { ty := (.slice (.pair (.int .i64) (.pair (.int .i64) (.slice (.int .i64))))), elem := 169 } := .of (by kernel_rfl) (by kernel_rfl) (⟨by kernel_rfl, { ty := (.pair (.int .i64) (.pair (.int .i64) (.slice (.int .i64)))), offs := [0, 1, 2], szs := [1, 1, 1] }, by kernel_rfl, by kernel_rfl⟩) (fun h => by cases h)
theorem t67 : TOk Tryz.prog tb 67 { ty := (.pair (.slice (.int .i64)) (.pair (.slice (.pair (.int .i64) (.pair (.int .i64) (.slice (.int .i64))))) (.pair (.int .i64) (.pair (.int .i64) (.int .i64))))), offs := [0, 1, 2, 3, 4], szs := [1, 1, 1, 1, 1] } := .of (by kernel_rfl) (by kernel_rfl) (descOk_struct rfl (by kernel_rfl)) (fun h => by cases h)
theorem t68 : TOk Tryz.prog tb 68 { ty := (.pair (.slice (.int .i64)) (.pair (.slice (.pair (.int .i64) (.pair (.int .i64) (.slice (.int .i64))))) (.pair (.int .i64) (.pair (.int .i64) (.int .i64))))), offs := [0, 1, 2, 3, 4], szs := [1, 1, 1, 1, 1] } := .of (by kernel_rfl) (by kernel_rfl) (descOk_struct rfl (by kernel_rfl)) (fun h => by cases h)
theorem t96 : TOk Tryz.prog tb 96 { ty := .err } := .of (by kernel_rfl) (by kernel_rfl) (by show _ = _; kernel_rfl) (fun h => by cases h)
theorem t97 : TOk Tryz.prog tb 97 { ty := .err } := .of (by kernel_rfl) (by kernel_rfl) (by show _ = _; kernel_rfl) (fun h => by cases h)
theorem t110 : TOk Tryz.prog tb 110 { ty := (.pair (.int .i64) (.pair (.int .i64) (.pair (.int .i64) (.int .i64)))), offs := [0, 1, 2, 3], szs := [1, 1, 1, 1], eqOk := true } := .of (by kernel_rfl) (by kernel_rfl) (descOk_struct rfl (by kernel_rfl)) (fun h => eqOk_struct rfl (by kernel_rfl) (by kernel_rfl))
theorem t111 : TOk Tryz.prog tb 111 { ty := (.pair (.int .i64) (.pair (.int .i64) (.pair (.int .i64) (.int .i64)))), offs := [0, 1, 2, 3], szs := [1, 1, 1, 1], eqOk := true } := .of (by kernel_rfl) (by kernel_rfl) (descOk_struct rfl (by kernel_rfl)) (fun h => eqOk_struct rfl (by kernel_rfl) (by kernel_rfl))
theorem t123 : TOk Tryz.prog tb 123 { ty := (.pair (.int .i64) (.pair (.pair (.int .i64) (.pair (.int .i64) (.pair (.int .i64) (.int .i64)))) (.pair (.int .i64) (.pair (.int .i64) (.pair (.int .i64) (.int .i64)))))), offs := [0, 1, 5], szs := [1, 4, 4], eqOk := true } := .of (by kernel_rfl) (by kernel_rfl) (descOk_struct rfl (by kernel_rfl)) (fun h => eqOk_struct rfl (by kernel_rfl) (by kernel_rfl))
theorem t124 : TOk Tryz.prog tb 124 { ty := (.pair (.int .i64) (.pair (.pair (.int .i64) (.pair (.int .i64) (.pair (.int .i64) (.int .i64)))) (.pair (.int .i64) (.pair (.int .i64) (.pair (.int .i64) (.int .i64)))))), offs := [0, 1, 5], szs := [1, 4, 4], eqOk := true } := .of (by kernel_rfl) (by kernel_rfl) (descOk_struct rfl (by kernel_rfl)) (fun h => eqOk_struct rfl (by kernel_rfl) (by kernel_rfl))
theorem t135 : TOk Tryz.prog tb 135 { ty := (.pair (.slice (.int .u8)) (.int .i64)), offs := [0, 1], szs := [1, 1] } := .of (by kernel_rfl) (by kernel_rfl) (descOk_struct rfl (by kernel_rfl)) (fun h => by cases h)
theorem t136 : TOk Tryz.prog tb 136 { ty := (.pair (.slice (.int .u8)) (.int .i64)), offs := [0, 1], szs := [1, 1] } := .of (by kernel_rfl) (by kernel_rfl) (descOk_struct rfl (by kernel_rfl)) (fun h => by cases h)
theorem t141 : TOk Tryz.prog tb 141 { ty := (.pair (.int .i64) (.pair (.int .i64) (.slice (.int .i64)))), offs := [0, 1, 2], szs := [1, 1, 1] } := .of (by kernel_rfl) (by kernel_rfl) (descOk_struct rfl (by kernel_rfl)) (fun h => by cases h)
theorem t142 : TOk Tryz.prog tb 142 { ty := (.pair (.int .i64) (.pair (.int .i64) (.slice (.int .i64)))), offs := [0, 1, 2], szs := [1, 1, 1] } := .of (by kernel_rfl) (by kernel_rfl) (descOk_struct rfl (by kernel_rfl)) (fun h => by cases h)
theorem t169 : TOk Tryz.prog tb 169 { ty := (.pair (.int .i64) (.pair (.int .i64) (.slice (.int .i64)))), offs := [0, 1, 2], szs := [1, 1, 1] } := .of (by kernel_rfl) (by kernel_rfl) (descOk_struct rfl (by kernel_rfl)) (fun h => by cases h)
theorem t189 : TOk Tryz.prog tb 189 { ty := (.slice .bool), elem := 4 } := .of (by kernel_rfl) (by kernel_rfl) (⟨by kernel_rfl, { ty := .bool, eqOk := true }, by kernel_rfl, by kernel_rfl⟩) (fun h => by cases h)
theorem t193 : TOk Tryz.prog tb 193 { ty := (.int .u64), eqOk := true } := .of (by kernel_rfl) (by kernel_rfl) (by show _ = _; kernel_rfl) (fun h => eqOk_int)
theorem t200 : TOk Tryz.prog tb 200 { ty := (.int .i64), eqOk := true, cmp := true } := .of (by kernel_rfl) (by kernel_rfl) (by show _ = _; kernel_rfl) (fun h => eqOk_int) (fun _ => by kernel_rfl)
theorem t207 : TOk Tryz.prog tb 207 { ty := (.int .u64), eqOk := true } := .of (by kernel_rfl) (by kernel_rfl) (by show _ = _; kernel_rfl) (fun h => eqOk_int)
theorem t213 : TOk Tryz.prog tb 213 { ty := (.int .u32), eqOk := true } := .of (by kernel_rfl) (by kernel_rfl) (by show _ = _; kernel_rfl) (fun h => eqOk_int)
theorem t220 : TOk Tryz.prog tb 220 { ty := (.pair .str (.pair .str .err)), offs := [0, 1, 2], szs := [1, 1, 1] } := .of (by kernel_rfl) (by kernel_rfl) (descOk_struct rfl (by kernel_rfl)) (fun h => by cases h)
theorem t221 : TOk Tryz.prog tb 221 { ty := (.pair .str (.pair .str .err)), offs := [0, 1, 2], szs := [1, 1, 1] } := .of (by kernel_rfl) (by kernel_rfl) (descOk_struct rfl (by kernel_rfl)) (fun h => by cases h)
theorem t230 : TOk Tryz.prog tb 230 { ty := (.pair (.int .u8) (.int .u8)), offs := [0, 1], szs := [1, 1], eqOk := true } := .of (by kernel_rfl) (by kernel_rfl) (descOk_struct rfl (by kernel_rfl)) (fun h => eqOk_struct rfl (by kernel_rfl) (by kernel_rfl))
theorem t231 : TOk Tryz.prog tb 231 { ty := (.pair (.int .u8) (.int .u8)), offs := [0, 1], szs := [1, 1], eqOk := true } := .of (by kernel_rfl) (by kernel_rfl) (descOk_struct rfl (by kernel_rfl)) (fun h => eqOk_struct rfl (by kernel_rfl) (by kernel_rfl))
theorem t246 : TOk Tryz.prog tb 246 { ty := (.int .u8), eqOk := true } := .of (by kernel_rfl) (by kernel_rfl) (by show _ = _; kernel_rfl) (fun h => eqOk_int)
theorem t247 : TOk Tryz.prog tb 247 { ty := (.int .u8), eqOk := true } := .of (by kernel_rfl) (by kernel_rfl) (by show _ = _; kernel_rfl) (fun h => eqOk_int)
theorem t249 : TOk Tryz.prog tb 249 { ty := (.int .i32), eqOk := true } := .of (by kernel_rfl) (by kernel_rfl) (by show _ = _; kernel_rfl) (fun h => eqOk_int)
theorem t250 : TOk Tryz.prog tb 250 { ty := (.int .i32), eqOk := true } := .of (by kernel_rfl) (by kernel_rfl) (by show _ = _; kernel_rfl) (fun h => eqOk_int)
theorem mixed : Tryz.prog.follows .mixedOrders = true := by kernel_rfl
theorem tb_ok : CfgTb Tryz.prog tb := tbOk (all_cons t2 (all_cons t3 (all_cons t4 (all_cons t5 (all_cons t6 (all_cons t7 (all_cons t8 (all_cons t9 (all_cons t10 (all_cons t11 (all_cons t12 (all_cons t13 (all_cons t14 (all_cons t21 (all_cons t22 (all_cons t24 (all_cons t25 (all_cons t26 (all_cons t27 (all_cons t28 (all_cons t34 (all_cons t39 (all_cons t40 (all_cons t41 (all_cons t50 (all_cons t57 (all_cons t59 (all_cons t66 (all_cons t67 (all_cons t68 (all_cons t96 (all_cons t97 (all_cons t110 (all_cons t111 (all_cons t123 (all_cons t124 (all_cons t135 (all_cons t136 (all_cons t141 (all_cons t142 (all_cons t169 (all_cons t189 (all_cons t193 (all_cons t200 (all_cons t207 (all_cons t213 (all_cons t220 (all_cons t221 (all_cons t230 (all_cons t231 (all_cons t246 (all_cons t247 (all_cons t249 (all_cons t250 (all_nil)))))))))))))))))))))))))))))))))))))))))))))))))))))))
abbrev zt0 : Ty := .pair (.slice (.int .i64)) (.pair (.slice (.pair (.int .i64) (.pair (.int .i64) (.slice (.int .i64))))) (.pair (.int .i64) (.pair (.int .i64) (.int .i64))))
abbrev zt1 : Ty := .pair (.int .i64) (.pair (.int .i64) (.pair (.int .i64) (.pair (.int .i64) (.pair (.slice (.int .i64)) (.pair (.int .i64) (.int .i64))))))
abbrev zt2 : Type := List (Int × Int × Int × Int × List Int × Int × Int) × (List Int × List (Int × Int × List Int) × Int × Int × Int) × List Int × Int
abbrev zt3 : Ty := .pair (.slice (.pair (.int .i64) (.pair (.int .i64) (.slice (.int .i64))))) (.pair (.int .i64) (.pair (.int .i64) (.int .i64)))
abbrev zt4 : Ty := .pair (.int .i64) (.pair (.int .i64) (.pair (.int .i64) (.pair (.slice (.int .i64)) (.pair (.int .i64) (.int .i64)))))
abbrev zt5 : Ty := .pair (.int .i64) (.pair (.int .i64) (.pair (.slice (.int .i64)) (.pair (.int .i64) (.int .i64))))
abbrev zt6 : Ty := .pair (.int .i64) (.pair (.slice (.int .i64)) (.pair (.int .i64) (.int .i64)))
abbrev zt7 : Type := (Int × Int × Int × Int × List Int × Int × Int) × List Int × Int
abbrev zt8 : Ty := .pair (.int .i64) (.pair (.int .i64) (.slice (.int .i64)))
abbrev zt9 : Ty := .pair (.slice (.int .i64)) (.pair (.int .i64) (.int .i64))
abbrev zt10 : Type := List Int × List (Int × Int × List Int) × Int × Int × Int
abbrev zt11 : Type := (Int × Int × Int × Int × List Int × Int × Int) × Bool
abbrev zt12 : Type := List (Int × Int × Int × Int × List Int × Int × Int)
abbrev zt13 : Ty := .pair (.int .i64) (.pair (.int .i64) (.int .i64))
abbrev zt14 : Type := Int × Int × Int × Int × List Int × Int × Int
abbrev zt15 : Ty := .pair (.int .i64) (.slice (.int .i64))
abbrev zt16 : Ty := .pair (.int .i64) (.int .i64)
abbrev zt17 : Type := List (Int × Int × List Int)
abbrev zt18 : Type := List Int × Int × List Int
abbrev zt19 : Type := Int × Int × List Int
abbrev zf99.ps : List Pm := [.arg (.v (.slice (.int .u8)))]
abbrev zf99.res : List M := [.bx 136 (.v (.pair (.slice (.int .u8)) (.int .i64)))]
noncomputable def zf99.C : Cfg := { tb := tb, tab := fun n f => Refl.look [] f, gl := [], ar := ar, bld := bld, pts := pts }
noncomputable def zf99.A : Ann := { joins := [], loops := [], ids := [], pids := [], nroots := 75 }
noncomputable def zf99 (n : Nat) (x : List Int) : Option (List Int × Int) := evalF zf99.C zf99.A Tryz.f50 zf99.ps zf99.res n x
theorem zf99.eq (n : Nat) (x0 : List Int) : zf99 n x0 = (if (↑(List.length x0) : Int) > 2000 then (if 2000 ≤ (↑(List.length x0) : Int) then some ((List.take (Int.toNat 2000) x0, 0)) else none) else some ((x0, 0))) := by kernel_rfl
noncomputable abbrev zf99.sg (n : Nat) : Sig := ⟨zf99.ps, zf99.res, zf99 n⟩
theorem zf99.call : Callable Tryz.prog 50 := ⟨Tryz.f50, Tryz.func50, by kernel_rfl, by kernel_rfl⟩
theorem zf99.ok (n : Nat) : FC Tryz.prog [] 50 (zf99.sg n) :=
  evalF_ok (C := zf99.C) ⟨tb_ok, fun n _ _ h => tabOk (l := []) (all_nil) h, mixed, ar_ok, bld_ok, pts_ok⟩ zf99.A Tryz.func50 zf99.ps zf99.res n
abbrev zf110.ps : List Pm := [.box 136 (.v (.pair (.slice (.int .u8)) (.int .i64))), .arg (.v (.int .i64))]
abbrev zf110.res : List M := [.v (.int .i64)]
noncomputable def zf110.C : Cfg := { tb := tb, tab := fun n f => Refl.look [] f, gl := [], ar := ar, bld := bld, pts := pts }
noncomputable def zf110.A : Ann := { joins := [], loops := [], ids := [], pids := [], nroots := 163 }
noncomputable def zf110 (n : Nat) (x : (List Int × Int) × Int) : Option (Int × List Int × Int) := evalF zf110.C zf110.A Tryz.f55 zf110.ps zf110.res n x
theorem zf110.eq (n : Nat) (x0 : List Int × Int) (x1 : Int) : zf110 n (x0, x1) = (if x1 < 1 then some ((0, x0.1, Go.RowKit.wrap64 (x0.2 + 1))) else (if (↑(List.length x0.1) : Int) = 0 then some ((0, x0.1, Go.RowKit.wrap64 (x0.2 + 1))) else (if Go.RowKit.wrap64 (Go.RowKit.wrap64 (x0.2 + 1) - 1) < (↑(List.length x0.1) : Int) then (if 0 ≤ Go.RowKit.wrap64 (Go.RowKit.wrap64 (x0.2 + 1) - 1) then (if Go.RowKit.wrap64 (Go.RowKit.wrap64 (x0.2 + 1) - 1) < (↑(List.length x0.1) : Int) then (if x1 = 0 then none else some ((Int.tmod (Go.RowKit.wrap64 (List.getD x0.1 (Int.toNat (Go.RowKit.wrap64 (Go.RowKit.wrap64 (x0.2 + 1) - 1))) 0)) x1, x0.1, Go.RowKit.wrap64 (x0.2 + 1)))) else none) else none) else (if (↑(List.length x0.1) : Int) = 0 then none else (if 0 ≤ Int.tmod (Go.RowKit.wrap64 (Go.RowKit.wrap64 (x0.2 + 1) - 1)) (↑(List.length x0.1) : Int) then (if Int.tmod (Go.RowKit.wrap64 (Go.RowKit.wrap64 (x0.2 + 1) - 1)) (↑(List.length x0.1) : Int) < (↑(List.length x0.1) : Int) then (if (↑(List.length x0.1) : Int) = 0 then none else (if 0 ≤ Int.tmod (Go.RowKit.wrap64 (Go.RowKit.wrap64 (Go.RowKit.wrap64 (Go.RowKit.wrap64 (x0.2 + 1) - 1) * 7) + 3)) (↑(List.length x0.1) : Int) then (if Int.tmod (Go.RowKit.wrap64 (Go.RowKit.wrap64 (Go.RowKit.wrap64 (Go.RowKit.wrap64 (x0.2 + 1) - 1) * 7) + 3)) (↑(List.length x0.1) : Int) < (↑(List.length x0.1) : Int) then (if (↑(List.length x0.1) : Int) = 0 then none else (if x1 = 0 then none else some ((Int.tmod (Go.IntKind.wrap Go.IntKind.i64 (↑(BitVec.toNat (BitVec.ofInt (Go.IntKind.bits Go.IntKind.i64) (Go.RowKit.wrap64 (Go.RowKit.wrap64 (Go.RowKit.wrap64 (Go.RowKit.wrap64 (Go.RowKit.wrap64 (List.getD x0.1 (Int.toNat (Int.tmod (Go.RowKit.wrap64 (Go.RowKit.wrap64 (x0.2 + 1) - 1)) (↑(List.length x0.1) : Int))) 0) * 131) + Go.RowKit.wrap64 (Go.RowKit.wrap64 (List.getD x0.1 (Int.toNat (Int.tmod (Go.RowKit.wrap64 (Go.RowKit.wrap64 (Go.RowKit.wrap64 (Go.RowKit.wrap64 (x0.2 + 1) - 1) * 7) + 3)) (↑(List.length x0.1) : Int))) 0) * 1117)) + Go.RowKit.wrap64 (Go.RowKit.wrap64 (Go.RowKit.wrap64 (x0.2 + 1) - 1) * 29)) + Go.RowKit.wrap64 (Go.RowKit.wrap64 (Int.tdiv (Go.RowKit.wrap64 (Go.RowKit.wrap64 (x0.2 + 1) - 1)) (↑(List.length x0.1) : Int)) * 53))) ^^^ BitVec.ofInt (Go.IntKind.bits Go.IntKind.i64) (Go.RowKit.wrap64 (Int.tdiv (Go.RowKit.wrap64 (Go.RowKit.wrap64 (Go.RowKit.wrap64 (Go.RowKit.wrap64 (Go.RowKit.wrap64 (List.getD x0.1 (Int.toNat (Int.tmod (Go.RowKit.wrap64 (Go.RowKit.wrap64 (x0.2 + 1) - 1)) (↑(List.length x0.1) : Int))) 0) * 131) + Go.RowKit.wrap64 (Go.RowKit.wrap64 (List.getD x0.1 (Int.toNat (Int.tmod (Go.RowKit.wrap64 (Go.RowKit.wrap64 (Go.RowKit.wrap64 (Go.RowKit.wrap64 (x0.2 + 1) - 1) * 7) + 3)) (↑(List.length x0.1) : Int))) 0) * 1117)) + Go.RowKit.wrap64 (Go.RowKit.wrap64 (Go.RowKit.wrap64 (x0.2 + 1) - 1) * 29)) + Go.RowKit.wrap64 (Go.RowKit.wrap64 (Int.tdiv (Go.RowKit.wrap64 (Go.RowKit.wrap64 (x0.2 + 1) - 1)) (↑(List.length x0.1) : Int)) * 53))) 64)))) : Int)) x1, x0.1, Go.RowKit.wrap64 (x0.2 + 1))))) else none) else none)) else none) else none))))) := by kernel_rfl
noncomputable abbrev zf110.sg (n : Nat) : Sig := ⟨zf110.ps, zf110.res, zf110 n⟩
theorem zf110.call : Callable Tryz.prog 55 := ⟨Tryz.f55, Tryz.func55, by kernel_rfl, by kernel_rfl⟩
theorem zf110.ok (n : Nat) : FC Tryz.prog [] 55 (zf110.sg n) :=
  evalF_ok (C := zf110.C) ⟨tb_ok, fun n _ _ h => tabOk (l := []) (all_nil) h, mixed, ar_ok, bld_ok, pts_ok⟩ zf110.A Tryz.func55 zf110.ps zf110.res n
abbrev zf109.ps : List Pm := [.box 136 (.v (.pair (.slice (.int .u8)) (.int .i64))), .arg (.v (.slice (.int .i64)))]
abbrev zf109.res : List M := [.v (.int .i64)]
noncomputable def zf109.C : Cfg := { tb := tb, tab := fun n f => Refl.look [(55, (zf110.sg n))] f, gl := [], ar := ar, bld := bld, pts := pts }
noncomputable def zf109.A : Ann := { joins := [], loops := [], ids := [(1, [(9, [])])], pids := [], nroots := 76 }
noncomputable def zf109 (n : Nat) (x : (List Int × Int) × List Int) : Option (Int × List Int × Int) := evalF zf109.C zf109.A Tryz.f69 zf109.ps zf109.res n x
theorem zf109.eq (n : Nat) (x0 : List Int × Int) (x1 : List Int) : zf109 n (x0, x1) = ((zf110 n ((x0.1, x0.2), (↑(List.length x1) : Int))).bind fun y0 => (if 0 ≤ y0.1 then (if y0.1 < (↑(List.length x1) : Int) then some ((List.getD x1 (Int.toNat y0.1) 0, y0.2.1, y0.2.2)) else none) else none)) := by kernel_rfl
noncomputable abbrev zf109.sg (n : Nat) : Sig := ⟨zf109.ps, zf109.res, zf109 n⟩
theorem zf109.call : Callable Tryz.prog 69 := ⟨Tryz.f69, Tryz.func69, by kernel_rfl, by kernel_rfl⟩
theorem zf109.ok (n : Nat) : FC Tryz.prog [] 69 (zf109.sg n) :=
  evalF_ok (C := zf109.C) ⟨tb_ok, fun n _ _ h => tabOk (l := [(55, (zf110.sg n))]) (all_cons ⟨zf110.ok n, zf110.call⟩ (all_nil)) h, mixed, ar_ok, bld_ok, pts_ok⟩ zf109.A Tryz.func69 zf109.ps zf109.res n
abbrev zf92.ps : List Pm := [.arg (.v (.int .i64)), .arg (.v (.int .i64)), .arg (.v (.int .i64))]
abbrev zf92.res : List M := [.v .bool]
noncomputable def zf92.C : Cfg := { tb := tb, tab := fun n f => Refl.look [] f, gl := [], ar := ar, bld := bld, pts := pts }
noncomputable def zf92.A : Ann := { joins := [], loops := [], ids := [], pids := [], nroots := 79 }
noncomputable def zf92 (n : Nat) (x : Int × Int × Int) : Option (Bool) := evalF zf92.C zf92.A Tryz.f112 zf92.ps zf92.res n x
theorem zf92.eq (n : Nat) (x0 x1 x2 : Int) : zf92 n (x0, x1, x2) = (if x1 ≤ x0 then some (Decidable.decide (x0 ≤ x2)) else some (Bool.false)) := by kernel_rfl
noncomputable abbrev zf92.sg (n : Nat) : Sig := ⟨zf92.ps, zf92.res, zf92 n⟩
theorem zf92.call : Callable Tryz.prog 112 := ⟨Tryz.f112, Tryz.func112, by kernel_rfl, by kernel_rfl⟩
theorem zf92.ok (n : Nat) : FC Tryz.prog [] 112 (zf92.sg n) :=
  evalF_ok (C := zf92.C) ⟨tb_ok, fun n _ _ h => tabOk (l := []) (all_nil) h, mixed, ar_ok, bld_ok, pts_ok⟩ zf92.A Tryz.func112 zf92.ps zf92.res n
abbrev zf73.ps : List Pm := [.arg (.v (.int .i64))]
abbrev zf73.res : List M := [.v zt0]
noncomputable def zf73.C : Cfg := { tb := tb, tab := fun n f => Refl.look [(112, (zf92.sg n))] f, gl := [], ar := ar, bld := bld, pts := pts }
noncomputable def zf73.A : Ann := { joins := [], loops := [], ids := [(1, [(4, [])])], pids := [], nroots := 74 }
noncomputable def zf73 (n : Nat) (x : Int) : Option zt10 := evalF zf73.C zf73.A Tryz.f109 zf73.ps zf73.res n x
theorem zf73.eq (n : Nat) (x0 : Int) : zf73 n x0 = ((zf92 n (x0, 1, 12)).bind fun y0 => (if (!y0) = true then some (([], [], 0, 0, 0)) else (if 0 ≤ x0 then (if x0 ≤ x0 then (if x0 ≤ (↑Go.Refl.maxN : Int) then some ((List.replicate (Int.toNat x0) 0, [], 0, 0, 0)) else none) else none) else none))) := by kernel_rfl
noncomputable abbrev zf73.sg (n : Nat) : Sig := ⟨zf73.ps, zf73.res, zf73 n⟩
theorem zf73.call : Callable Tryz.prog 109 := ⟨Tryz.f109, Tryz.func109, by kernel_rfl, by kernel_rfl⟩
theorem zf73.ok (n : Nat) : FC Tryz.prog [] 109 (zf73.sg n) :=
  evalF_ok (C := zf73.C) ⟨tb_ok, fun n _ _ h => tabOk (l := [(112, (zf92.sg n))]) (all_cons ⟨zf92.ok n, zf92.call⟩ (all_nil)) h, mixed, ar_ok, bld_ok, pts_ok⟩ zf73.A Tryz.func109 zf73.ps zf73.res n
abbrev zf90.ps : List Pm := [.box 136 (.v (.pair (.slice (.int .u8)) (.int .i64)))]
abbrev zf90.res : List M := [.v zt0]
noncomputable def zf90.C : Cfg := { tb := tb, tab := fun n f => Refl.look [(69, (zf109.sg n)), (109, (zf73.sg n))] f, gl := [], ar := ar, bld := bld, pts := pts }
noncomputable def zf90.A : Ann := { joins := [], loops := [], ids := [(1, [(4, []), (5, []), (6, [])])], pids := [], nroots := 71 }
noncomputable def zf90 (n : Nat) (x : List Int × Int) : Option (zt10 × List Int × Int) := evalF zf90.C zf90.A Tryz.f52 zf90.ps zf90.res n x
theorem zf90.eq (n : Nat) (x0 : List Int × Int) : zf90 n x0 = ((zf109 n ((x0.1, x0.2), List.set (List.set (List.set (List.set (List.set (List.replicate 5 0) 0 3) 1 4) 2 2) 3 5) 4 1)).bind fun y0 => ((zf73 n y0.1).bind fun y1 => some (((y1.1, y1.2.1, y1.2.2.1, y1.2.2.2.1, y1.2.2.2.2), y0.2.1, y0.2.2)))) := by kernel_rfl
noncomputable abbrev zf90.sg (n : Nat) : Sig := ⟨zf90.ps, zf90.res, zf90 n⟩
theorem zf90.call : Callable Tryz.prog 52 := ⟨Tryz.f52, Tryz.func52, by kernel_rfl, by kernel_rfl⟩
theorem zf90.ok (n : Nat) : FC Tryz.prog [] 52 (zf90.sg n) :=
  evalF_ok (C := zf90.C) ⟨tb_ok, fun n _ _ h => tabOk (l := [(69, (zf109.sg n)), (109, (zf73.sg n))]) (all_cons ⟨zf109.ok n, zf109.call⟩ (all_cons ⟨zf73.ok n, zf73.call⟩ (all_nil))) h, mixed, ar_ok, bld_ok, pts_ok⟩ zf90.A Tryz.func52 zf90.ps zf90.res n
abbrev zf119.ps : List Pm := [.box 136 (.v (.pair (.slice (.int .u8)) (.int .i64)))]
abbrev zf119.res : List M := [.v zt16]
noncomputable def zf119.C : Cfg := { tb := tb, tab := fun n f => Refl.look [(55, (zf110.sg n)), (69, (zf109.sg n))] f, gl := [], ar := ar, bld := bld, pts := pts }
noncomputable def zf119.A : Ann := { joins := [], loops := [], ids := [(1, [(6, []), (8, []), (9, [])]), (2, [(17, []), (20, []), (21, [])])], pids := [], nroots := 88 }
noncomputable def zf119 (n : Nat) (x : List Int × Int) : Option ((Int × Int) × List Int × Int) := evalF zf119.C zf119.A Tryz.f115 zf119.ps zf119.res n x
theorem zf119.eq (n : Nat) (x0 : List Int × Int) : zf119 n x0 = ((zf110 n ((x0.1, x0.2), 50)).bind fun y0 => ((zf109 n ((y0.2.1, y0.2.2), List.set (List.set (List.set (List.set (List.set (List.set (List.set (List.set (List.set (List.replicate 9 0) 0 100) 1 12) 2 2) 3 4) 4 1000) 5 8) 6 1) 7 365) 8 (Go.RowKit.wrap64 (1 + y0.1)))).bind fun y1 => ((zf110 n ((y1.2.1, y1.2.2), Go.RowKit.wrap64 (y1.1 + 1))).bind fun y2 => ((zf109 n ((y2.2.1, y2.2.2), List.set (List.set (List.set (List.set (List.set (List.set (List.replicate 6 0) 0 1) 1 0) 2 (Go.Refl.mn 5 y1.1)) 3 y1.1) 4 y2.1) 5 (Go.Refl.mn 3 y1.1))).bind fun y3 => some (((y3.1, y1.1), y3.2.1, y3.2.2)))))) := by kernel_rfl
noncomputable abbrev zf119.sg (n : Nat) : Sig := ⟨zf119.ps, zf119.res, zf119 n⟩
theorem zf119.call : Callable Tryz.prog 115 := ⟨Tryz.f115, Tryz.func115, by kernel_rfl, by kernel_rfl⟩
theorem zf119.ok (n : Nat) : FC Tryz.prog [] 115 (zf119.sg n) :=
  evalF_ok (C := zf119.C) ⟨tb_ok, fun n _ _ h => tabOk (l := [(55, (zf110.sg n)), (69, (zf109.sg n))]) (all_cons ⟨zf110.ok n, zf110.call⟩ (all_cons ⟨zf109.ok n, zf109.call⟩ (all_nil))) h, mixed, ar_ok, bld_ok, pts_ok⟩ zf119.A Tryz.func115 zf119.ps zf119.res n
abbrev zf118.ps : List Pm := [.box 136 (.v (.pair (.slice (.int .u8)) (.int .i64))), .arg (.v zt0)]
abbrev zf118.res : List M := [.v zt1]
noncomputable def zf118.C : Cfg := { tb := tb, tab := fun n f => Refl.look [(55, (zf110.sg n)), (69, (zf109.sg n)), (115, (zf119.sg n))] f, gl := [], ar := ar, bld := bld, pts := pts }
noncomputable def zf118.A : Ann := { joins := [(11, { live := [0, 3, 4, 5, 6, 17, 34], base := 125 }), (20, { live := [0, 3, 4, 6, 17, 67], base := 125 }), (29, { live := [0, 4, 6], base := 125 })], loops := [(13, { live := [0, 4, 5, 6, 7, 8], base := 125, growB := [(7, 4, 153, (.int .i64), 3)] })], ids := [(0, [(3, [])]), (2, [(15, [])]), (3, [(17, [])]), (7, [(31, [])]), (11, [(44, [])]), (15, [(57, [])]), (16, [(63, [])]), (21, [(78, [])]), (22, [(94, []), (96, []), (97, []), (100, []), (101, []), (102, [])]), (24, [(107, [])]), (26, [(112, [])]), (29, [(120, []), (122, []), (123, [])])], pids := [], nroots := 189 }
noncomputable def zf118 (n : Nat) (x : (List Int × Int) × List Int × List zt19 × Int × Int × Int) : Option zt7 := evalF zf118.C zf118.A Tryz.f54 zf118.ps zf118.res n x
noncomputable def zf118.K0 (_ : Nat) : Kont zt7 := finK zf118.C (Func.results Tryz.f54).toList zf118.ps zf118.res
noncomputable def zf118.K1 (n : Nat) : Kont zt7 := seqK (fun s' k => joinE zf118.A.joins (codeAt Tryz.f54 [1, 1, 1, 1]) (fun s'' => evalC zf118.C zf118.A n (codeAt Tryz.f54 [1, 1, 1, 1]) s'' k) s') (zf118.K0 n)
noncomputable def zf118.K2 (n : Nat) : Kont zt7 := blockK 0 (zf118.K1 n)
noncomputable def zf118.K3 (n : Nat) : Kont zt7 := seqK (fun s' k => joinE zf118.A.joins (codeAt Tryz.f54 [1, 1, 1, 0, 1, 0, 1, 1, 1, 1, 1, 0, 1, 1]) (fun s'' => evalC zf118.C zf118.A n (codeAt Tryz.f54 [1, 1, 1, 0, 1, 0, 1, 1, 1, 1, 1, 0, 1, 1]) s'' k) s') (zf118.K2 n)
noncomputable def zf118.K4 (n : Nat) : Kont zt7 := blockK 1 (zf118.K3 n)
noncomputable def zf118.j11 (n : Nat) (x3 : List zt10) (x5 x6 x17 : Int) (x34 : Bool) (r0_0 : List Int) (r0_1 r125_0 : Int) (r125_1 r125_2 : Int) (r125_3 r125_5 r125_6 : Int) : Option zt7 := holdF (fun s => evalC zf118.C zf118.A n (codeAt Tryz.f54 [1, 1, 1, 0, 1, 0, 1, 1, 1, 1, 1]) s (zf118.K2 n)) (St.of 125 189 [(0, .ptr 0 0 0), (3, .vptr zt0 x3 0 0), (4, .ptr 125 0 0), (5, .val (.int .i64) x5), (6, .val (.int .i64) x6), (17, .val (.int .i64) x17), (34, .val .bool x34)] [(0, .box 136 [.val (.slice (.int .u8)) r0_0, .val (.int .i64) r0_1]), (125, .box 28 [.val (.int .i64) r125_0, .val (.int .i64) r125_1, .val (.int .i64) r125_2, .val (.int .i64) r125_3, .nils, .val (.int .i64) r125_5, .val (.int .i64) r125_6])] [0])
noncomputable def zf118.l13 (n m13 : Nat) (x5 x6 x8 : Int) (r0_0 : List Int) (r0_1 r125_0 : Int) (r125_1 r125_2 : Int) (r125_3 r125_5 : Int) (r125_6 r126_0 : Int) (r126_1 r126_2 : Int) (r126_3 r126_5 r126_6 : Int) (r127 : List Int) : Option zt7 := loopE (cutAt zf118.A.loops (codeAt Tryz.f54 [1, 1, 1, 0, 1, 0, 1, 1, 1, 1, 1, 0, 1, 0, 1, 0, 0])) (fun s k => evalC zf118.C zf118.A n (codeAt Tryz.f54 [1, 1, 1, 0, 1, 0, 1, 1, 1, 1, 1, 0, 1, 0, 1, 0, 0]) s k) m13 (St.of 125 189 [(0, .ptr 0 0 0), (4, .ptr 125 0 0), (5, .val (.int .i64) x5), (6, .val (.int .i64) x6), (7, .ptr 126 0 0), (8, .val (.int .i64) x8)] [(0, .box 136 [.val (.slice (.int .u8)) r0_0, .val (.int .i64) r0_1]), (125, .box 28 [.val (.int .i64) r125_0, .val (.int .i64) r125_1, .val (.int .i64) r125_2, .val (.int .i64) r125_3, .nils, .val (.int .i64) r125_5, .val (.int .i64) r125_6]), (126, .box 28 [.val (.int .i64) r126_0, .val (.int .i64) r126_1, .val (.int .i64) r126_2, .val (.int .i64) r126_3, .own 127, .val (.int .i64) r126_5, .val (.int .i64) r126_6]), (127, .row (.int .i64) 3 r127)] [0]) (zf118.K4 n)
noncomputable def zf118.j20 (n : Nat) (x3 : List zt10) (x6 x17 : Int) (x67 : Bool) (r0_0 : List Int) (r0_1 r125_0 : Int) (r125_1 r125_2 : Int) (r125_3 r125_5 r125_6 : Int) : Option zt7 := holdF (fun s => evalC zf118.C zf118.A n (codeAt Tryz.f54 [1, 1, 1, 0, 1, 0, 1, 1, 1, 1, 1, 1, 1]) s (zf118.K2 n)) (St.of 125 189 [(0, .ptr 0 0 0), (3, .vptr zt0 x3 0 0), (4, .ptr 125 0 0), (6, .val (.int .i64) x6), (17, .val (.int .i64) x17), (67, .val .bool x67)] [(0, .box 136 [.val (.slice (.int .u8)) r0_0, .val (.int .i64) r0_1]), (125, .box 28 [.val (.int .i64) r125_0, .val (.int .i64) r125_1, .val (.int .i64) r125_2, .val (.int .i64) r125_3, .nils, .val (.int .i64) r125_5, .val (.int .i64) r125_6])] [0])
noncomputable def zf118.j29 (n : Nat) (x6 : Int) (r0_0 : List Int) (r0_1 r125_0 : Int) (r125_1 r125_2 : Int) (r125_3 r125_5 r125_6 : Int) : Option zt7 := holdF (fun s => evalC zf118.C zf118.A n (codeAt Tryz.f54 [1, 1, 1, 1]) s (zf118.K0 n)) (St.of 125 189 [(0, .ptr 0 0 0), (4, .ptr 125 0 0), (6, .val (.int .i64) x6)] [(0, .box 136 [.val (.slice (.int .u8)) r0_0, .val (.int .i64) r0_1]), (125, .box 28 [.val (.int .i64) r125_0, .val (.int .i64) r125_1, .val (.int .i64) r125_2, .val (.int .i64) r125_3, .nils, .val (.int .i64) r125_5, .val (.int .i64) r125_6])] [0])
theorem zf118.eq (n : Nat) (x0 : List Int × Int) (x1 : List Int × List zt19 × Int × Int × Int) : zf118 n (x0, x1) = ((zf110 n ((x0.1, x0.2), (↑(List.length x1.1) : Int))).bind fun y0 => ((zf110 n ((y0.2.1, y0.2.2), 12)).bind fun y1 => (if y1.1 = 0 then some (((0, 0, 0, 0, [], 0, 0), y1.2.1, y1.2.2)) else (if y1.1 = 1 then (if 0 ≤ y0.1 then (if y0.1 < (↑(List.length x1.1) : Int) then ((zf110 n ((y1.2.1, y1.2.2), Go.Refl.mx (List.getD x1.1 (Int.toNat y0.1) 0) 1)).bind fun y2 => some (((2, y0.1, Go.RowKit.wrap64 (1 + y2.1), 0, [], 0, 0), y2.2.1, y2.2.2))) else none) else none) else (if y1.1 = 2 then zf118.j11 n ([x1]) ((↑(List.length x1.1) : Int)) y0.1 y1.1 (Decidable.decide (y1.1 = 2)) y1.2.1 y1.2.2 (0) (0) (0) (0) (0) (0) else (if y1.1 = 3 then zf118.j11 n ([x1]) ((↑(List.length x1.1) : Int)) y0.1 y1.1 (Decidable.decide (y1.1 = 3)) y1.2.1 y1.2.2 (0) (0) (0) (0) (0) (0) else zf118.j11 n ([x1]) ((↑(List.length x1.1) : Int)) y0.1 y1.1 (Decidable.decide (y1.1 = 4)) y1.2.1 y1.2.2 (0) (0) (0) (0) (0) (0))))))) := by kernel_rfl
theorem zf118.j11_eq (n : Nat) (x3 : List zt10) (x5 x6 x17 : Int) (x34 : Bool) (r0_0 : List Int) (r0_1 r125_0 : Int) (r125_1 r125_2 : Int) (r125_3 r125_5 r125_6 : Int) : zf118.j11 n x3 x5 x6 x17 x34 r0_0 r0_1 r125_0 r125_1 r125_2 r125_3 r125_5 r125_6 = (if (x34) = true then ((zf110 n ((r0_0, r0_1), Go.Refl.mn (Go.Refl.mx (Prod.fst (Prod.snd (Prod.snd (List.getD x3 0 ([], [], 0, 0, 0))))) 1) 150)).bind fun y3 => zf118.l13 n n (x5) (x6) (0) y3.2.1 y3.2.2 (r125_0) (r125_1) (r125_2) (r125_3) (r125_5) (r125_6) (3) (x6) (Go.RowKit.wrap64 (1 + y3.1)) (0) (0) (0) ([])) else (if x17 = 5 then zf118.j20 n (x3) (x6) (x17) (Decidable.decide (x17 = 5)) (r0_0) (r0_1) (r125_0) (r125_1) (r125_2) (r125_3) (r125_5) (r125_6) else zf118.j20 n (x3) (x6) (x17) (Decidable.decide (x17 = 6)) (r0_0) (r0_1) (r125_0) (r125_1) (r125_2) (r125_3) (r125_5) (r125_6))) := (holdF_eq _ _).trans (by kernel_rfl)
theorem zf118.l13_succ (n m13 : Nat) (x5 x6 x8 : Int) (r0_0 : List Int) (r0_1 r125_0 : Int) (r125_1 r125_2 : Int) (r125_3 r125_5 : Int) (r125_6 r126_0 : Int) (r126_1 r126_2 : Int) (r126_3 r126_5 r126_6 : Int) (r127 : List Int) : zf118.l13 n (m13 + 1) x5 x6 x8 r0_0 r0_1 r125_0 r125_1 r125_2 r125_3 r125_5 r125_6 r126_0 r126_1 r126_2 r126_3 r126_5 r126_6 r127 = (if x8 < x5 then (if x8 = x6 then zf118.l13 n m13 (x5) (x6) (Go.RowKit.wrap64 (x8 + 1)) (r0_0) (r0_1) (r125_0) (r125_1) (r125_2) (r125_3) (r125_5) (r125_6) (r126_0) (r126_1) (r126_2) (r126_3) (r126_5) (r126_6) (r127) else ((zf110 n ((r0_0, r0_1), 2)).bind fun y4 => (if y4.1 = 0 then (if List.length r127 + List.length (List.set (List.replicate (1 : Nat) (0 : Int)) (0 : Nat) x8) ≤ Go.Refl.maxN then zf118.l13 n m13 (x5) (x6) (Go.RowKit.wrap64 (x8 + 1)) y4.2.1 y4.2.2 (r125_0) (r125_1) (r125_2) (r125_3) (r125_5) (r125_6) (r126_0) (r126_1) (r126_2) (r126_3) (r126_5) (r126_6) (r127 ++ List.set (List.replicate 1 0) 0 x8) else none) else zf118.l13 n m13 (x5) (x6) (Go.RowKit.wrap64 (x8 + 1)) y4.2.1 y4.2.2 (r125_0) (r125_1) (r125_2) (r125_3) (r125_5) (r125_6) (r126_0) (r126_1) (r126_2) (r126_3) (r126_5) (r126_6) (r127)))) else some (((r126_0, r126_1, r126_2, r126_3, r127, r126_5, r126_6), r0_0, r0_1))) := by kernel_rfl
theorem zf118.j20_eq (n : Nat) (x3 : List zt10) (x6 x17 : Int) (x67 : Bool) (r0_0 : List Int) (r0_1 r125_0 : Int) (r125_1 r125_2 : Int) (r125_3 r125_5 r125_6 : Int) : zf118.j20 n x3 x6 x17 x67 r0_0 r0_1 r125_0 r125_1 r125_2 r125_3 r125_5 r125_6 = (if (x67) = true then (if (↑(List.length (Prod.fst (Prod.snd (List.getD x3 (0 : Nat) ([], [], (0 : Int), (0 : Int), (0 : Int)))))) : Int) > 0 then ((zf110 n ((r0_0, r0_1), (↑(List.length (Prod.fst (Prod.snd (List.getD x3 (0 : Nat) ([], [], (0 : Int), (0 : Int), (0 : Int)))))) : Int))).bind fun y5 => (if 0 ≤ y5.1 then (if y5.1 < (↑(List.length (Prod.fst (Prod.snd (List.getD x3 (0 : Nat) ([], [], (0 : Int), (0 : Int), (0 : Int)))))) : Int) then (if 0 ≤ y5.1 then (if y5.1 < (↑(List.length (Prod.fst (Prod.snd (List.getD x3 (0 : Nat) ([], [], (0 : Int), (0 : Int), (0 : Int)))))) : Int) then ((zf110 n ((y5.2.1, y5.2.2), Prod.fst (Prod.snd (List.getD (Prod.fst (Prod.snd (List.getD x3 0 ([], [], 0, 0, 0)))) (Int.toNat y5.1) (0, 0, []))))).bind fun y6 => ((zf109 n ((y6.2.1, y6.2.2), List.set (List.set (List.replicate 2 0) 0 (Prod.fst (Prod.snd (List.getD (Prod.fst (Prod.snd (List.getD x3 0 ([], [], 0, 0, 0)))) (Int.toNat y5.1) (0, 0, []))))) 1 (Go.RowKit.wrap64 (1 + y6.1)))).bind fun y7 => ((zf110 n ((y7.2.1, y7.2.2), 30)).bind fun y8 => ((zf109 n ((y8.2.1, y8.2.2), List.set (List.set (List.set (List.replicate 3 0) 0 0) 1 5) 2 y8.1)).bind fun y9 => some (((4, y5.1, y7.1, y9.1, [], 0, 0), y9.2.1, y9.2.2)))))) else none) else none) else none) else none)) else zf118.j29 n (x6) (r0_0) (r0_1) (r125_0) (r125_1) (r125_2) (r125_3) (r125_5) (r125_6)) else (if x17 = 7 then ((zf119 n (r0_0, r0_1)).bind fun y10 => some (((6, 0, 0, 0, [], y10.1.1, y10.1.2), y10.2.1, y10.2.2))) else (if x17 = 8 then ((zf110 n ((r0_0, r0_1), 2)).bind fun y11 => (if y11.1 = 0 then some (((5, x6, 0, 0, [], 0, 0), y11.2.1, y11.2.2)) else some (((7, 0, 0, 0, [], 0, 0), y11.2.1, y11.2.2)))) else zf118.j29 n (x6) (r0_0) (r0_1) (r125_0) (r125_1) (r125_2) (r125_3) (r125_5) (r125_6)))) := (holdF_eq _ _).trans (by kernel_rfl)
theorem zf118.j29_eq (n : Nat) (x6 : Int) (r0_0 : List Int) (r0_1 r125_0 : Int) (r125_1 r125_2 : Int) (r125_3 r125_5 r125_6 : Int) : zf118.j29 n x6 r0_0 r0_1 r125_0 r125_1 r125_2 r125_3 r125_5 r125_6 = ((zf110 n ((r0_0, r0_1), 250)).bind fun y12 => ((zf109 n ((y12.2.1, y12.2.2), List.set (List.set (List.set (List.set (List.replicate 4 0) 0 100) 1 250) 2 (Go.RowKit.wrap64 (1 + y12.1))) 3 1000)).bind fun y13 => some (((1, x6, y13.1, 0, [], 0, 0), y13.2.1, y13.2.2)))) := (holdF_eq _ _).trans (by kernel_rfl)
noncomputable abbrev zf118.sg (n : Nat) : Sig := ⟨zf118.ps, zf118.res, zf118 n⟩
theorem zf118.call : Callable Tryz.prog 54 := ⟨Tryz.f54, Tryz.func54, by kernel_rfl, by kernel_rfl⟩
theorem zf118.ok (n : Nat) : FC Tryz.prog [] 54 (zf118.sg n) :=
  evalF_ok (C := zf118.C) ⟨tb_ok, fun n _ _ h => tabOk (l := [(55, (zf110.sg n)), (69, (zf109.sg n)), (115, (zf119.sg n))]) (all_cons ⟨zf110.ok n, zf110.call⟩ (all_cons ⟨zf109.ok n, zf109.call⟩ (all_cons ⟨zf119.ok n, zf119.call⟩ (all_nil)))) h, mixed, ar_ok, bld_ok, pts_ok⟩ zf118.A Tryz.func54 zf118.ps zf118.res n
abbrev zf84.ps : List Pm := [.arg (.v (.slice (.int .i64)))]
abbrev zf84.res : List M := [(.own (.int .i64) 3)]
noncomputable def zf84.C : Cfg := { tb := tb, tab := fun n f => Refl.look [] f, gl := [], ar := ar, bld := bld, pts := pts }
noncomputable def zf84.A : Ann := { joins := [], loops := [], ids := [], pids := [], nroots := 70 }
noncomputable def zf84 (n : Nat) (x : List Int) : Option (List Int) := evalF zf84.C zf84.A Tryz.f141 zf84.ps zf84.res n x
theorem zf84.eq (n : Nat) (x0 : List Int) : zf84 n x0 = (if List.length (List.replicate (0 : Nat) (0 : Int)) + List.length x0 ≤ Go.Refl.maxN then some (List.replicate 0 0 ++ x0) else none) := by kernel_rfl
noncomputable abbrev zf84.sg (n : Nat) : Sig := ⟨zf84.ps, zf84.res, zf84 n⟩
theorem zf84.call : Callable Tryz.prog 141 := ⟨Tryz.f141, Tryz.func141, by kernel_rfl, by kernel_rfl⟩
theorem zf84.ok (n : Nat) : FC Tryz.prog [] 141 (zf84.sg n) :=
  evalF_ok (C := zf84.C) ⟨tb_ok, fun n _ _ h => tabOk (l := []) (all_nil) h, mixed, ar_ok, bld_ok, pts_ok⟩ zf84.A Tryz.func141 zf84.ps zf84.res n
abbrev zf85.ps : List Pm := [.arg (.v (.slice zt8))]
abbrev zf85.res : List M := [(.own zt8 142)]
noncomputable def zf85.C : Cfg := { tb := tb, tab := fun n f => Refl.look [(141, { params := zf84.ps, res := [.v (.slice (.int .i64))], run := zf84 n })] f, gl := [], ar := ar, bld := bld, pts := pts }
noncomputable def zf85.A : Ann := { joins := [], loops := [(3, { live := [0, 3, 4], base := 33 })], ids := [(5, [(28, []), (30, [])])], pids := [], nroots := 97 }
noncomputable def zf85 (n : Nat) (x : List zt19) : Option zt17 := evalF zf85.C zf85.A Tryz.f187 zf85.ps zf85.res n x
noncomputable def zf85.K0 (_ : Nat) : Kont zt17 := finK zf85.C (Func.results Tryz.f187).toList zf85.ps zf85.res
noncomputable def zf85.K1 (n : Nat) : Kont zt17 := seqK (fun s' k => joinE zf85.A.joins (codeAt Tryz.f187 [1, 1, 1]) (fun s'' => evalC zf85.C zf85.A n (codeAt Tryz.f187 [1, 1, 1]) s'' k) s') (zf85.K0 n)
noncomputable def zf85.K2 (n : Nat) : Kont zt17 := blockK 0 (zf85.K1 n)
noncomputable def zf85.l3 (n m3 : Nat) (x0 : List zt19) (x4 : Int) (r33 : List zt19) : Option zt17 := loopE (cutAt zf85.A.loops (codeAt Tryz.f187 [1, 1, 0, 1, 0, 0])) (fun s k => evalC zf85.C zf85.A n (codeAt Tryz.f187 [1, 1, 0, 1, 0, 0]) s k) m3 (St.of 33 97 [(0, .val (.slice zt8) x0), (3, .own 33), (4, .val (.int .i64) x4)] [(33, .row zt8 142 r33)] []) (zf85.K2 n)
theorem zf85.eq (n : Nat) (x0 : List zt19) : zf85 n x0 = zf85.l3 n n (x0) (0) (List.replicate 0 (0, 0, [])) := by kernel_rfl
theorem zf85.l3_succ (n m3 : Nat) (x0 : List zt19) (x4 : Int) (r33 : List zt19) : zf85.l3 n (m3 + 1) x0 x4 r33 = (if x4 < (↑(List.length x0) : Int) then (if 0 ≤ x4 then (if x4 < (↑(List.length x0) : Int) then (if 0 ≤ x4 then (if x4 < (↑(List.length x0) : Int) then (if 0 ≤ x4 then (if x4 < (↑(List.length x0) : Int) then ((zf84 n (Prod.snd (Prod.snd (List.getD x0 (Int.toNat x4) (0, 0, []))))).bind fun y0 => (if List.length r33 + List.length (List.set (List.replicate (1 : Nat) ((0 : Int), (0 : Int), [])) (0 : Nat) (Prod.fst (List.getD x0 (Int.toNat x4) ((0 : Int), (0 : Int), [])), Prod.fst (Prod.snd (List.getD x0 (Int.toNat x4) ((0 : Int), (0 : Int), []))), y0)) ≤ Go.Refl.maxN then zf85.l3 n m3 (x0) (Go.RowKit.wrap64 (x4 + 1)) (r33 ++ List.set (List.replicate 1 (0, 0, [])) 0 (Prod.fst (List.getD x0 (Int.toNat x4) (0, 0, [])), Prod.fst (Prod.snd (List.getD x0 (Int.toNat x4) (0, 0, []))), y0)) else none)) else none) else none) else none) else none) else none) else none) else some (r33)) := by kernel_rfl
noncomputable abbrev zf85.sg (n : Nat) : Sig := ⟨zf85.ps, zf85.res, zf85 n⟩
theorem zf85.call : Callable Tryz.prog 187 := ⟨Tryz.f187, Tryz.func187, by kernel_rfl, by kernel_rfl⟩
theorem zf85.ok (n : Nat) : FC Tryz.prog [] 187 (zf85.sg n) :=
  evalF_ok (C := zf85.C) ⟨tb_ok, fun n _ _ h => tabOk (l := [(141, { params := zf84.ps, res := [.v (.slice (.int .i64))], run := zf84 n })]) (all_cons ⟨FC.weak (.cons (.own _ _) .nil) HEq.rfl (zf84.ok n), zf84.call⟩ (all_nil)) h, mixed, ar_ok, bld_ok, pts_ok⟩ zf85.A Tryz.func187 zf85.ps zf85.res n
abbrev zf83.ps : List Pm := [.arg (.v zt0)]
abbrev zf83.res : List M := [(.pr (.own (.int .i64) 3) (.pr (.own zt8 142) (.v zt13)))]
noncomputable def zf83.C : Cfg := { tb := tb, tab := fun n f => Refl.look [(141, (zf84.sg n)), (187, (zf85.sg n))] f, gl := [], ar := ar, bld := bld, pts := pts }
noncomputable def zf83.A : Ann := { joins := [], loops := [], ids := [], pids := [], nroots := 78 }
noncomputable def zf83 (n : Nat) (x : List Int × List zt19 × Int × Int × Int) : Option zt10 := evalF zf83.C zf83.A Tryz.f138 zf83.ps zf83.res n x
theorem zf83.eq (n : Nat) (x0 : List Int × List zt19 × Int × Int × Int) : zf83 n x0 = ((zf84 n x0.1).bind fun y0 => ((zf85 n x0.2.1).bind fun y1 => some ((y0, y1, x0.2.2.1, x0.2.2.2.1, x0.2.2.2.2)))) := by kernel_rfl
noncomputable abbrev zf83.sg (n : Nat) : Sig := ⟨zf83.ps, zf83.res, zf83 n⟩
theorem zf83.call : Callable Tryz.prog 138 := ⟨Tryz.f138, Tryz.func138, by kernel_rfl, by kernel_rfl⟩
theorem zf83.ok (n : Nat) : FC Tryz.prog [] 138 (zf83.sg n) :=
  evalF_ok (C := zf83.C) ⟨tb_ok, fun n _ _ h => tabOk (l := [(141, (zf84.sg n)), (187, (zf85.sg n))]) (all_cons ⟨zf84.ok n, zf84.call⟩ (all_cons ⟨zf85.ok n, zf85.call⟩ (all_nil))) h, mixed, ar_ok, bld_ok, pts_ok⟩ zf83.A Tryz.func138 zf83.ps zf83.res n
abbrev zf77.ps : List Pm := [.arg (.v (.slice (.int .i64))), .arg (.v (.int .i64)), .arg (.v (.int .i64))]
abbrev zf77.res : List M := [.v .bool]
noncomputable def zf77.C : Cfg := { tb := tb, tab := fun n f => Refl.look [(112, (zf92.sg n))] f, gl := [], ar := ar, bld := bld, pts := pts }
noncomputable def zf77.A : Ann := { joins := [], loops := [(2, { live := [0, 1, 2, 7], base := 22 })], ids := [(4, [(20, [])])], pids := [], nroots := 86 }
noncomputable def zf77 (n : Nat) (x : List Int × Int × Int) : Option (Bool) := evalF zf77.C zf77.A Tryz.f178 zf77.ps zf77.res n x
noncomputable def zf77.K0 (_ : Nat) : Kont (Bool) := finK zf77.C (Func.results Tryz.f178).toList zf77.ps zf77.res
noncomputable def zf77.K1 (n : Nat) : Kont (Bool) := seqK (fun s' k => joinE zf77.A.joins (codeAt Tryz.f178 [1, 1]) (fun s'' => evalC zf77.C zf77.A n (codeAt Tryz.f178 [1, 1]) s'' k) s') (zf77.K0 n)
noncomputable def zf77.K2 (n : Nat) : Kont (Bool) := blockK 0 (zf77.K1 n)
noncomputable def zf77.l2 (n m2 : Nat) (x0 : List Int) (x1 x2 x7 : Int) : Option (Bool) := loopE (cutAt zf77.A.loops (codeAt Tryz.f178 [1, 0, 1, 0, 0])) (fun s k => evalC zf77.C zf77.A n (codeAt Tryz.f178 [1, 0, 1, 0, 0]) s k) m2 (St.of 22 86 [(0, .val (.slice (.int .i64)) x0), (1, .val (.int .i64) x1), (2, .val (.int .i64) x2), (7, .val (.int .i64) x7)] [] []) (zf77.K2 n)
theorem zf77.eq (n : Nat) (x0 : List Int) (x1 x2 : Int) : zf77 n (x0, x1, x2) = zf77.l2 n n (x0) (x1) (x2) (0) := by kernel_rfl
theorem zf77.l2_succ (n m2 : Nat) (x0 : List Int) (x1 x2 x7 : Int) : zf77.l2 n (m2 + 1) x0 x1 x2 x7 = (if x7 < (↑(List.length x0) : Int) then (if 0 ≤ x7 then (if x7 < (↑(List.length x0) : Int) then ((zf92 n (List.getD x0 (Int.toNat x7) 0, x1, x2)).bind fun y0 => (if (!y0) = true then some (Bool.false) else zf77.l2 n m2 (x0) (x1) (x2) (Go.RowKit.wrap64 (x7 + 1)))) else none) else none) else some (Bool.true)) := by kernel_rfl
noncomputable abbrev zf77.sg (n : Nat) : Sig := ⟨zf77.ps, zf77.res, zf77 n⟩
theorem zf77.call : Callable Tryz.prog 178 := ⟨Tryz.f178, Tryz.func178, by kernel_rfl, by kernel_rfl⟩
theorem zf77.ok (n : Nat) : FC Tryz.prog [] 178 (zf77.sg n) :=
  evalF_ok (C := zf77.C) ⟨tb_ok, fun n _ _ h => tabOk (l := [(112, (zf92.sg n))]) (all_cons ⟨zf92.ok n, zf92.call⟩ (all_nil)) h, mixed, ar_ok, bld_ok, pts_ok⟩ zf77.A Tryz.func178 zf77.ps zf77.res n
abbrev zf128.ps : List Pm := [.arg (.v (.slice (.int .i64)))]
abbrev zf128.res : List M := [.v .bool]
noncomputable def zf128.C : Cfg := { tb := tb, tab := fun n f => Refl.look [(112, (zf92.sg n)), (178, (zf77.sg n))] f, gl := [], ar := ar, bld := bld, pts := pts }
noncomputable def zf128.A : Ann := { joins := [], loops := [], ids := [(1, [(5, []), (8, [])])], pids := [], nroots := 74 }
noncomputable def zf128 (n : Nat) (x : List Int) : Option (Bool) := evalF zf128.C zf128.A Tryz.f126 zf128.ps zf128.res n x
theorem zf128.eq (n : Nat) (x0 : List Int) : zf128 n x0 = ((zf92 n ((↑(List.length x0) : Int), 1, 12)).bind fun y0 => (if y0 = Bool.true then ((zf77 n (x0, 0, 100000)).bind fun y1 => some (y1)) else some (Bool.false))) := by kernel_rfl
noncomputable abbrev zf128.sg (n : Nat) : Sig := ⟨zf128.ps, zf128.res, zf128 n⟩
theorem zf128.call : Callable Tryz.prog 126 := ⟨Tryz.f126, Tryz.func126, by kernel_rfl, by kernel_rfl⟩
theorem zf128.ok (n : Nat) : FC Tryz.prog [] 126 (zf128.sg n) :=
  evalF_ok (C := zf128.C) ⟨tb_ok, fun n _ _ h => tabOk (l := [(112, (zf92.sg n)), (178, (zf77.sg n))]) (all_cons ⟨zf92.ok n, zf92.call⟩ (all_cons ⟨zf77.ok n, zf77.call⟩ (all_nil))) h, mixed, ar_ok, bld_ok, pts_ok⟩ zf128.A Tryz.func126 zf128.ps zf128.res n
abbrev zf120.ps : List Pm := [.arg (.v (.int .i64)), .arg (.v (.int .i64))]
abbrev zf120.res : List M := [(.own (.int .i64) 3)]
noncomputable def zf120.C : Cfg := { tb := tb, tab := fun n f => Refl.look [] f, gl := [], ar := ar, bld := bld, pts := pts }
noncomputable def zf120.A : Ann := { joins := [], loops := [(3, { live := [0, 1, 5, 6], base := 29 })], ids := [(8, [(26, [])])], pids := [], nroots := 93 }
noncomputable def zf120 (n : Nat) (x : Int × Int) : Option (List Int) := evalF zf120.C zf120.A Tryz.f190 zf120.ps zf120.res n x
noncomputable def zf120.K0 (_ : Nat) : Kont (List Int) := finK zf120.C (Func.results Tryz.f190).toList zf120.ps zf120.res
noncomputable def zf120.K1 (n : Nat) : Kont (List Int) := seqK (fun s' k => joinE zf120.A.joins (codeAt Tryz.f190 [1, 1, 1]) (fun s'' => evalC zf120.C zf120.A n (codeAt Tryz.f190 [1, 1, 1]) s'' k) s') (zf120.K0 n)
noncomputable def zf120.K2 (n : Nat) : Kont (List Int) := blockK 0 (zf120.K1 n)
noncomputable def zf120.l3 (n m3 : Nat) (x0 x1 x6 : Int) (r29 : List Int) : Option (List Int) := loopE (cutAt zf120.A.loops (codeAt Tryz.f190 [1, 1, 0, 1, 0, 0])) (fun s k => evalC zf120.C zf120.A n (codeAt Tryz.f190 [1, 1, 0, 1, 0, 0]) s k) m3 (St.of 29 93 [(0, .val (.int .i64) x0), (1, .val (.int .i64) x1), (5, .own 29), (6, .val (.int .i64) x6)] [(29, .row (.int .i64) 3 r29)] []) (zf120.K2 n)
theorem zf120.eq (n : Nat) (x0 x1 : Int) : zf120 n (x0, x1) = zf120.l3 n n (x0) (x1) (0) (List.replicate 0 0) := by kernel_rfl
theorem zf120.l3_succ (n m3 : Nat) (x0 x1 x6 : Int) (r29 : List Int) : zf120.l3 n (m3 + 1) x0 x1 x6 r29 = (if x6 < x1 then (if x1 = 0 then none else (if x1 = 0 then none else (if x6 < Int.tmod x0 x1 then (if List.length r29 + List.length (List.set (List.replicate (1 : Nat) (0 : Int)) (0 : Nat) (Go.RowKit.wrap64 (Go.RowKit.wrap64 (Int.tdiv x0 x1) + (1 : Int)))) ≤ Go.Refl.maxN then zf120.l3 n m3 (x0) (x1) (Go.RowKit.wrap64 (x6 + 1)) (r29 ++ List.set (List.replicate 1 0) 0 (Go.RowKit.wrap64 (Go.RowKit.wrap64 (Int.tdiv x0 x1) + 1))) else none) else (if List.length r29 + List.length (List.set (List.replicate (1 : Nat) (0 : Int)) (0 : Nat) (Go.RowKit.wrap64 (Int.tdiv x0 x1))) ≤ Go.Refl.maxN then zf120.l3 n m3 (x0) (x1) (Go.RowKit.wrap64 (x6 + 1)) (r29 ++ List.set (List.replicate 1 0) 0 (Go.RowKit.wrap64 (Int.tdiv x0 x1))) else none)))) else some (r29)) := by kernel_rfl
noncomputable abbrev zf120.sg (n : Nat) : Sig := ⟨zf120.ps, zf120.res, zf120 n⟩
theorem zf120.call : Callable Tryz.prog 190 := ⟨Tryz.f190, Tryz.func190, by kernel_rfl, by kernel_rfl⟩
theorem zf120.ok (n : Nat) : FC Tryz.prog [] 190 (zf120.sg n) :=
  evalF_ok (C := zf120.C) ⟨tb_ok, fun n _ _ h => tabOk (l := []) (all_nil) h, mixed, ar_ok, bld_ok, pts_ok⟩ zf120.A Tryz.func190 zf120.ps zf120.res n
abbrev zf87.ps : List Pm := [.arg (.v (.slice zt8)), .arg (.v (.int .i64))]
abbrev zf87.res : List M := [(.own (.int .i64) 3)]
noncomputable def zf87.C : Cfg := { tb := tb, tab := fun n f => Refl.look [(190, (zf120.sg n))] f, gl := [], ar := ar, bld := bld, pts := pts }
noncomputable def zf87.A : Ann := { joins := [], loops := [(3, { live := [0, 5, 6], base := 62 }), (7, { live := [0, 5, 6, 7, 8], base := 62 })], ids := [], pids := [], nroots := 126 }
noncomputable def zf87 (n : Nat) (x : List zt19 × Int) : Option (List Int) := evalF zf87.C zf87.A Tryz.f230 zf87.ps zf87.res n x
noncomputable def zf87.K0 (_ : Nat) : Kont (List Int) := finK zf87.C (Func.results Tryz.f230).toList zf87.ps zf87.res
noncomputable def zf87.K1 (n : Nat) : Kont (List Int) := seqK (fun s' k => joinE zf87.A.joins (codeAt Tryz.f230 [1, 1, 1]) (fun s'' => evalC zf87.C zf87.A n (codeAt Tryz.f230 [1, 1, 1]) s'' k) s') (zf87.K0 n)
noncomputable def zf87.K2 (n : Nat) : Kont (List Int) := blockK 0 (zf87.K1 n)
noncomputable def zf87.K3 (n m3 : Nat) : Kont (List Int) := loopK (cutAt zf87.A.loops (codeAt Tryz.f230 [1, 1, 0, 1, 0, 0])) (fun s k => evalC zf87.C zf87.A n (codeAt Tryz.f230 [1, 1, 0, 1, 0, 0]) s k) m3 (zf87.K2 n)
noncomputable def zf87.K4 (n m3 : Nat) : Kont (List Int) := seqK (fun s' k => joinE zf87.A.joins (codeAt Tryz.f230 [1, 1, 0, 1, 0, 0, 1, 1]) (fun s'' => evalC zf87.C zf87.A n (codeAt Tryz.f230 [1, 1, 0, 1, 0, 0, 1, 1]) s'' k) s') (zf87.K3 n m3)
noncomputable def zf87.K5 (n m3 : Nat) : Kont (List Int) := blockK 1 (zf87.K4 n m3)
noncomputable def zf87.K6 (n m3 : Nat) : Kont (List Int) := blockK 2 (zf87.K5 n m3)
noncomputable def zf87.l3 (n m3 : Nat) (x0 : List zt19) (x6 : Int) (r62 : List Int) : Option (List Int) := loopE (cutAt zf87.A.loops (codeAt Tryz.f230 [1, 1, 0, 1, 0, 0])) (fun s k => evalC zf87.C zf87.A n (codeAt Tryz.f230 [1, 1, 0, 1, 0, 0]) s k) m3 (St.of 62 126 [(0, .val (.slice zt8) x0), (5, .own 62), (6, .val (.int .i64) x6)] [(62, .row (.int .i64) 3 r62)] []) (zf87.K2 n)
noncomputable def zf87.l7 (n m3 m7 : Nat) (x0 : List zt19) (x6 x8 : Int) (r62 r63 : List Int) : Option (List Int) := loopE (cutAt zf87.A.loops (codeAt Tryz.f230 [1, 1, 0, 1, 0, 0, 1, 0, 0, 1, 1, 0, 0])) (fun s k => evalC zf87.C zf87.A n (codeAt Tryz.f230 [1, 1, 0, 1, 0, 0, 1, 0, 0, 1, 1, 0, 0]) s k) m7 (St.of 62 126 [(0, .val (.slice zt8) x0), (5, .own 62), (6, .val (.int .i64) x6), (7, .own 63), (8, .val (.int .i64) x8)] [(62, .row (.int .i64) 3 r62), (63, .row (.int .i64) 3 r63)] []) (zf87.K6 n m3)
theorem zf87.eq (n : Nat) (x0 : List zt19) (x1 : Int) : zf87 n (x0, x1) = (if 0 ≤ x1 then (if x1 ≤ x1 then (if x1 ≤ (↑Go.Refl.maxN : Int) then zf87.l3 n n (x0) (0) (List.replicate (Int.toNat x1) 0) else none) else none) else none) := by kernel_rfl
theorem zf87.l3_succ (n m3 : Nat) (x0 : List zt19) (x6 : Int) (r62 : List Int) : zf87.l3 n (m3 + 1) x0 x6 r62 = (if x6 < (↑(List.length x0) : Int) then (if 0 ≤ x6 then (if x6 < (↑(List.length x0) : Int) then (if 0 ≤ x6 then (if x6 < (↑(List.length x0) : Int) then ((zf120 n (Prod.fst (Prod.snd (List.getD x0 (Int.toNat x6) (0, 0, []))), (↑(List.length (Prod.snd (Prod.snd (List.getD x0 (Int.toNat x6) ((0 : Int), (0 : Int), []))))) : Int))).bind fun y0 => zf87.l7 n m3 n (x0) (x6) (0) (r62) (y0)) else none) else none) else none) else none) else some (r62)) := by kernel_rfl
theorem zf87.l7_succ (n m3 m7 : Nat) (x0 : List zt19) (x6 x8 : Int) (r62 r63 : List Int) : zf87.l7 n m3 (m7 + 1) x0 x6 x8 r62 r63 = (if x8 < (↑(List.length r63) : Int) then (if 0 ≤ x6 then (if x6 < (↑(List.length x0) : Int) then (if 0 ≤ x8 then (if x8 < (↑(List.length (Prod.snd (Prod.snd (List.getD x0 (Int.toNat x6) ((0 : Int), (0 : Int), []))))) : Int) then (if 0 ≤ x6 then (if x6 < (↑(List.length x0) : Int) then (if 0 ≤ x8 then (if x8 < (↑(List.length (Prod.snd (Prod.snd (List.getD x0 (Int.toNat x6) ((0 : Int), (0 : Int), []))))) : Int) then (if 0 ≤ List.getD (Prod.snd (Prod.snd (List.getD x0 (Int.toNat x6) (0, 0, [])))) (Int.toNat x8) 0 then (if List.getD (Prod.snd (Prod.snd (List.getD x0 (Int.toNat x6) (0, 0, [])))) (Int.toNat x8) 0 < (↑(List.length r62) : Int) then (if 0 ≤ x8 then (if x8 < (↑(List.length r63) : Int) then (if 0 ≤ List.getD (Prod.snd (Prod.snd (List.getD x0 (Int.toNat x6) (0, 0, [])))) (Int.toNat x8) 0 then (if List.getD (Prod.snd (Prod.snd (List.getD x0 (Int.toNat x6) (0, 0, [])))) (Int.toNat x8) 0 < (↑(List.length r62) : Int) then zf87.l7 n m3 m7 (x0) (x6) (Go.RowKit.wrap64 (x8 + 1)) (List.set r62 (Int.toNat (List.getD (Prod.snd (Prod.snd (List.getD x0 (Int.toNat x6) (0, 0, [])))) (Int.toNat x8) 0)) (Go.RowKit.wrap64 (List.getD r62 (Int.toNat (List.getD (Prod.snd (Prod.snd (List.getD x0 (Int.toNat x6) (0, 0, [])))) (Int.toNat x8) 0)) 0 + List.getD r63 (Int.toNat x8) 0))) (r63) else none) else none) else none) else none) else none) else none) else none) else none) else none) else none) else none) else none) else none) else none) else zf87.l3 n m3 (x0) (Go.RowKit.wrap64 (x6 + 1)) (r62)) := by kernel_rfl
noncomputable abbrev zf87.sg (n : Nat) : Sig := ⟨zf87.ps, zf87.res, zf87 n⟩
theorem zf87.call : Callable Tryz.prog 230 := ⟨Tryz.f230, Tryz.func230, by kernel_rfl, by kernel_rfl⟩
theorem zf87.ok (n : Nat) : FC Tryz.prog [] 230 (zf87.sg n) :=
  evalF_ok (C := zf87.C) ⟨tb_ok, fun n _ _ h => tabOk (l := [(190, (zf120.sg n))]) (all_cons ⟨zf120.ok n, zf120.call⟩ (all_nil)) h, mixed, ar_ok, bld_ok, pts_ok⟩ zf87.A Tryz.func230 zf87.ps zf87.res n
abbrev zf91.ps : List Pm := [.arg (.v (.slice (.int .i64))), .arg (.v (.slice zt8))]
abbrev zf91.res : List M := [(.own (.int .i64) 3)]
noncomputable def zf91.C : Cfg := { tb := tb, tab := fun n f => Refl.look [(230, (zf87.sg n))] f, gl := [], ar := ar, bld := bld, pts := pts }
noncomputable def zf91.A : Ann := { joins := [], loops := [(3, { live := [0, 5, 6], base := 30 })], ids := [], pids := [], nroots := 94 }
noncomputable def zf91 (n : Nat) (x : List Int × List zt19) : Option (List Int) := evalF zf91.C zf91.A Tryz.f204 zf91.ps zf91.res n x
noncomputable def zf91.K0 (_ : Nat) : Kont (List Int) := finK zf91.C (Func.results Tryz.f204).toList zf91.ps zf91.res
noncomputable def zf91.K1 (n : Nat) : Kont (List Int) := seqK (fun s' k => joinE zf91.A.joins (codeAt Tryz.f204 [1, 1, 1]) (fun s'' => evalC zf91.C zf91.A n (codeAt Tryz.f204 [1, 1, 1]) s'' k) s') (zf91.K0 n)
noncomputable def zf91.K2 (n : Nat) : Kont (List Int) := blockK 0 (zf91.K1 n)
noncomputable def zf91.l3 (n m3 : Nat) (x0 : List Int) (x6 : Int) (r30 : List Int) : Option (List Int) := loopE (cutAt zf91.A.loops (codeAt Tryz.f204 [1, 1, 0, 1, 0, 0])) (fun s k => evalC zf91.C zf91.A n (codeAt Tryz.f204 [1, 1, 0, 1, 0, 0]) s k) m3 (St.of 30 94 [(0, .val (.slice (.int .i64)) x0), (5, .own 30), (6, .val (.int .i64) x6)] [(30, .row (.int .i64) 3 r30)] []) (zf91.K2 n)
theorem zf91.eq (n : Nat) (x0 : List Int) (x1 : List zt19) : zf91 n (x0, x1) = ((zf87 n (x1, (↑(List.length x0) : Int))).bind fun y0 => zf91.l3 n n (x0) (0) (y0)) := by kernel_rfl
theorem zf91.l3_succ (n m3 : Nat) (x0 : List Int) (x6 : Int) (r30 : List Int) : zf91.l3 n (m3 + 1) x0 x6 r30 = (if x6 < (↑(List.length r30) : Int) then (if 0 ≤ x6 then (if x6 < (↑(List.length x0) : Int) then (if 0 ≤ x6 then (if x6 < (↑(List.length r30) : Int) then (if 0 ≤ x6 then (if x6 < (↑(List.length r30) : Int) then zf91.l3 n m3 (x0) (Go.RowKit.wrap64 (x6 + 1)) (List.set r30 (Int.toNat x6) (Go.RowKit.wrap64 (List.getD x0 (Int.toNat x6) 0 - List.getD r30 (Int.toNat x6) 0))) else none) else none) else none) else none) else none) else none) else some (r30)) := by kernel_rfl
noncomputable abbrev zf91.sg (n : Nat) : Sig := ⟨zf91.ps, zf91.res, zf91 n⟩
theorem zf91.call : Callable Tryz.prog 204 := ⟨Tryz.f204, Tryz.func204, by kernel_rfl, by kernel_rfl⟩
theorem zf91.ok (n : Nat) : FC Tryz.prog [] 204 (zf91.sg n) :=
  evalF_ok (C := zf91.C) ⟨tb_ok, fun n _ _ h => tabOk (l := [(230, (zf87.sg n))]) (all_cons ⟨zf87.ok n, zf87.call⟩ (all_nil)) h, mixed, ar_ok, bld_ok, pts_ok⟩ zf91.A Tryz.func204 zf91.ps zf91.res n
abbrev zf114.ps : List Pm := [.arg (.v (.slice (.int .i64))), .arg (.v (.slice zt8))]
abbrev zf114.res : List M := [.v .bool]
noncomputable def zf114.C : Cfg := { tb := tb, tab := fun n f => Refl.look [(204, (zf91.sg n)), (178, (zf77.sg n))] f, gl := [], ar := ar, bld := bld, pts := pts }
noncomputable def zf114.A : Ann := { joins := [], loops := [], ids := [(1, [(8, [])])], pids := [], nroots := 73 }
noncomputable def zf114 (n : Nat) (x : List Int × List zt19) : Option (Bool) := evalF zf114.C zf114.A Tryz.f163 zf114.ps zf114.res n x
theorem zf114.eq (n : Nat) (x0 : List Int) (x1 : List zt19) : zf114 n (x0, x1) = ((zf91 n (x0, x1)).bind fun y0 => ((zf77 n (y0, 0, 100000)).bind fun y1 => some (y1))) := by kernel_rfl
noncomputable abbrev zf114.sg (n : Nat) : Sig := ⟨zf114.ps, zf114.res, zf114 n⟩
theorem zf114.call : Callable Tryz.prog 163 := ⟨Tryz.f163, Tryz.func163, by kernel_rfl, by kernel_rfl⟩
theorem zf114.ok (n : Nat) : FC Tryz.prog [] 163 (zf114.sg n) :=
  evalF_ok (C := zf114.C) ⟨tb_ok, fun n _ _ h => tabOk (l := [(204, (zf91.sg n)), (178, (zf77.sg n))]) (all_cons ⟨zf91.ok n, zf91.call⟩ (all_cons ⟨zf77.ok n, zf77.call⟩ (all_nil))) h, mixed, ar_ok, bld_ok, pts_ok⟩ zf114.A Tryz.func163 zf114.ps zf114.res n
abbrev zf96.ps : List Pm := [.arg (.pr (.own (.int .i64) 3) (.pr (.own zt8 142) (.v zt13))), .arg (.v zt1)]
abbrev zf96.res : List M := [(.pr (.own (.int .i64) 3) (.pr (.own zt8 142) (.v zt13))), .v .bool]
noncomputable def zf96.C : Cfg := { tb := tb, tab := fun n f => Refl.look [(112, (zf92.sg n)), (126, (zf128.sg n)), (163, (zf114.sg n))] f, gl := [], ar := ar, bld := bld, pts := pts }
noncomputable def zf96.A : Ann := { joins := [], loops := [], ids := [(1, [(13, []), (18, [])]), (8, [(50, []), (59, [])])], pids := [(0, [118, 119])], nroots := 126 }
noncomputable def zf96 (n : Nat) (x : zt10 × Int × Int × Int × Int × List Int × Int × Int) : Option (zt10 × Bool) := evalF zf96.C zf96.A Tryz.f139 zf96.ps zf96.res n x
theorem zf96.eq (n : Nat) (x0 : List Int × List zt19 × Int × Int × Int) (x1 : Int × Int × Int × Int × List Int × Int × Int) : zf96 n (x0, x1) = ((zf92 n (x1.2.1, 0, Go.RowKit.wrap64 ((↑(List.length x0.1) : Int) - 1))).bind fun y0 => (if (!y0) = Bool.true then some (((x0.1, x0.2.1, x0.2.2.1, x0.2.2.2.1, x0.2.2.2.2), Bool.false)) else ((zf92 n (x1.2.2.1, 1, 100000)).bind fun y1 => (if (!y1) = true then some (((x0.1, x0.2.1, x0.2.2.1, x0.2.2.2.1, x0.2.2.2.2), Bool.false)) else (if x1.1 = 2 then (if 0 ≤ x1.2.1 then (if x1.2.1 < (↑(List.length x0.1) : Int) then (if 0 ≤ x1.2.1 then (if x1.2.1 < (↑(List.length x0.1) : Int) then ((zf128 n (List.set x0.1 (Int.toNat x1.2.1) (Go.RowKit.wrap64 (List.getD x0.1 (Int.toNat x1.2.1) 0 + Go.RowKit.wrap64 (0 - x1.2.2.1))))).bind fun y2 => (if y2 = Bool.true then (if Go.RowKit.wrap64 (0 - x1.2.2.1) > 0 then some (((List.set x0.1 (Int.toNat x1.2.1) (Go.RowKit.wrap64 (List.getD x0.1 (Int.toNat x1.2.1) 0 + Go.RowKit.wrap64 (0 - x1.2.2.1))), x0.2.1, Go.RowKit.wrap64 (x0.2.2.1 + Go.RowKit.wrap64 (0 - x1.2.2.1)), x0.2.2.2.1, x0.2.2.2.2), Bool.true)) else ((zf114 n (List.set x0.1 (Int.toNat x1.2.1) (Go.RowKit.wrap64 (List.getD x0.1 (Int.toNat x1.2.1) 0 + Go.RowKit.wrap64 (0 - x1.2.2.1))), x0.2.1)).bind fun y3 => some (((List.set x0.1 (Int.toNat x1.2.1) (Go.RowKit.wrap64 (List.getD x0.1 (Int.toNat x1.2.1) 0 + Go.RowKit.wrap64 (0 - x1.2.2.1))), x0.2.1, Go.RowKit.wrap64 (x0.2.2.1 + Go.RowKit.wrap64 (0 - x1.2.2.1)), x0.2.2.2.1, x0.2.2.2.2), y3)))) else some (((List.set x0.1 (Int.toNat x1.2.1) (Go.RowKit.wrap64 (List.getD x0.1 (Int.toNat x1.2.1) 0 + Go.RowKit.wrap64 (0 - x1.2.2.1))), x0.2.1, Go.RowKit.wrap64 (x0.2.2.1 + Go.RowKit.wrap64 (0 - x1.2.2.1)), x0.2.2.2.1, x0.2.2.2.2), Bool.false)))) else none) else none) else none) else none) else (if 0 ≤ x1.2.1 then (if x1.2.1 < (↑(List.length x0.1) : Int) then (if 0 ≤ x1.2.1 then (if x1.2.1 < (↑(List.length x0.1) : Int) then ((zf128 n (List.set x0.1 (Int.toNat x1.2.1) (Go.RowKit.wrap64 (List.getD x0.1 (Int.toNat x1.2.1) 0 + x1.2.2.1)))).bind fun y4 => (if y4 = Bool.true then (if x1.2.2.1 > 0 then some (((List.set x0.1 (Int.toNat x1.2.1) (Go.RowKit.wrap64 (List.getD x0.1 (Int.toNat x1.2.1) 0 + x1.2.2.1)), x0.2.1, Go.RowKit.wrap64 (x0.2.2.1 + x1.2.2.1), x0.2.2.2.1, x0.2.2.2.2), Bool.true)) else ((zf114 n (List.set x0.1 (Int.toNat x1.2.1) (Go.RowKit.wrap64 (List.getD x0.1 (Int.toNat x1.2.1) 0 + x1.2.2.1)), x0.2.1)).bind fun y5 => some (((List.set x0.1 (Int.toNat x1.2.1) (Go.RowKit.wrap64 (List.getD x0.1 (Int.toNat x1.2.1) 0 + x1.2.2.1)), x0.2.1, Go.RowKit.wrap64 (x0.2.2.1 + x1.2.2.1), x0.2.2.2.1, x0.2.2.2.2), y5)))) else some (((List.set x0.1 (Int.toNat x1.2.1) (Go.RowKit.wrap64 (List.getD x0.1 (Int.toNat x1.2.1) 0 + x1.2.2.1)), x0.2.1, Go.RowKit.wrap64 (x0.2.2.1 + x1.2.2.1), x0.2.2.2.1, x0.2.2.2.2), Bool.false)))) else none) else none) else none) else none)))))) := by kernel_rfl
noncomputable abbrev zf96.sg (n : Nat) : Sig := ⟨zf96.ps, zf96.res, zf96 n⟩
theorem zf96.call : Callable Tryz.prog 139 := ⟨Tryz.f139, Tryz.func139, by kernel_rfl, by kernel_rfl⟩
theorem zf96.ok (n : Nat) : FC Tryz.prog [] 139 (zf96.sg n) :=
  evalF_ok (C := zf96.C) ⟨tb_ok, fun n _ _ h => tabOk (l := [(112, (zf92.sg n)), (126, (zf128.sg n)), (163, (zf114.sg n))]) (all_cons ⟨zf92.ok n, zf92.call⟩ (all_cons ⟨zf128.ok n, zf128.call⟩ (all_cons ⟨zf114.ok n, zf114.call⟩ (all_nil)))) h, mixed, ar_ok, bld_ok, pts_ok⟩ zf96.A Tryz.func139 zf96.ps zf96.res n
abbrev zf103.ps : List Pm := [.arg (.v (.slice (.int .i64))), .arg (.v (.int .i64))]
abbrev zf103.res : List M := [.v (.int .i64)]
noncomputable def zf103.C : Cfg := { tb := tb, tab := fun n f => Refl.look [] f, gl := [], ar := ar, bld := bld, pts := pts }
noncomputable def zf103.A : Ann := { joins := [], loops := [(2, { live := [0, 1, 5], base := 19 })], ids := [], pids := [], nroots := 83 }
noncomputable def zf103 (n : Nat) (x : List Int × Int) : Option (Int) := evalF zf103.C zf103.A Tryz.f180 zf103.ps zf103.res n x
noncomputable def zf103.K0 (_ : Nat) : Kont (Int) := finK zf103.C (Func.results Tryz.f180).toList zf103.ps zf103.res
noncomputable def zf103.K1 (n : Nat) : Kont (Int) := seqK (fun s' k => joinE zf103.A.joins (codeAt Tryz.f180 [1, 1]) (fun s'' => evalC zf103.C zf103.A n (codeAt Tryz.f180 [1, 1]) s'' k) s') (zf103.K0 n)
noncomputable def zf103.K2 (n : Nat) : Kont (Int) := blockK 0 (zf103.K1 n)
noncomputable def zf103.l2 (n m2 : Nat) (x0 : List Int) (x1 x5 : Int) : Option (Int) := loopE (cutAt zf103.A.loops (codeAt Tryz.f180 [1, 0, 1, 0, 0])) (fun s k => evalC zf103.C zf103.A n (codeAt Tryz.f180 [1, 0, 1, 0, 0]) s k) m2 (St.of 19 83 [(0, .val (.slice (.int .i64)) x0), (1, .val (.int .i64) x1), (5, .val (.int .i64) x5)] [] []) (zf103.K2 n)
theorem zf103.eq (n : Nat) (x0 : List Int) (x1 : Int) : zf103 n (x0, x1) = zf103.l2 n n (x0) (x1) (0) := by kernel_rfl
theorem zf103.l2_succ (n m2 : Nat) (x0 : List Int) (x1 x5 : Int) : zf103.l2 n (m2 + 1) x0 x1 x5 = (if x5 < (↑(List.length x0) : Int) then (if 0 ≤ x5 then (if x5 < (↑(List.length x0) : Int) then (if List.getD x0 (Int.toNat x5) 0 = x1 then some (x5) else zf103.l2 n m2 (x0) (x1) (Go.RowKit.wrap64 (x5 + 1))) else none) else none) else some ((-1))) := by kernel_rfl
noncomputable abbrev zf103.sg (n : Nat) : Sig := ⟨zf103.ps, zf103.res, zf103 n⟩
theorem zf103.call : Callable Tryz.prog 180 := ⟨Tryz.f180, Tryz.func180, by kernel_rfl, by kernel_rfl⟩
theorem zf103.ok (n : Nat) : FC Tryz.prog [] 180 (zf103.sg n) :=
  evalF_ok (C := zf103.C) ⟨tb_ok, fun n _ _ h => tabOk (l := []) (all_nil) h, mixed, ar_ok, bld_ok, pts_ok⟩ zf103.A Tryz.func180 zf103.ps zf103.res n
abbrev zf126.ps : List Pm := [.arg (.v (.slice (.int .i64))), .arg (.v (.int .i64))]
abbrev zf126.res : List M := [.v .bool]
noncomputable def zf126.C : Cfg := { tb := tb, tab := fun n f => Refl.look [(112, (zf92.sg n)), (180, (zf103.sg n))] f, gl := [], ar := ar, bld := bld, pts := pts }
noncomputable def zf126.A : Ann := { joins := [], loops := [(2, { live := [0, 1, 5], base := 31 })], ids := [(4, [(18, []), (28, [])])], pids := [], nroots := 95 }
noncomputable def zf126 (n : Nat) (x : List Int × Int) : Option (Bool) := evalF zf126.C zf126.A Tryz.f179 zf126.ps zf126.res n x
noncomputable def zf126.K0 (_ : Nat) : Kont (Bool) := finK zf126.C (Func.results Tryz.f179).toList zf126.ps zf126.res
noncomputable def zf126.K1 (n : Nat) : Kont (Bool) := seqK (fun s' k => joinE zf126.A.joins (codeAt Tryz.f179 [1, 1]) (fun s'' => evalC zf126.C zf126.A n (codeAt Tryz.f179 [1, 1]) s'' k) s') (zf126.K0 n)
noncomputable def zf126.K2 (n : Nat) : Kont (Bool) := blockK 0 (zf126.K1 n)
noncomputable def zf126.l2 (n m2 : Nat) (x0 : List Int) (x1 x5 : Int) : Option (Bool) := loopE (cutAt zf126.A.loops (codeAt Tryz.f179 [1, 0, 1, 0, 0])) (fun s k => evalC zf126.C zf126.A n (codeAt Tryz.f179 [1, 0, 1, 0, 0]) s k) m2 (St.of 31 95 [(0, .val (.slice (.int .i64)) x0), (1, .val (.int .i64) x1), (5, .val (.int .i64) x5)] [] []) (zf126.K2 n)
theorem zf126.eq (n : Nat) (x0 : List Int) (x1 : Int) : zf126 n (x0, x1) = zf126.l2 n n (x0) (x1) (0) := by kernel_rfl
theorem zf126.l2_succ (n m2 : Nat) (x0 : List Int) (x1 x5 : Int) : zf126.l2 n (m2 + 1) x0 x1 x5 = (if x5 < (↑(List.length x0) : Int) then (if 0 ≤ x5 then (if x5 < (↑(List.length x0) : Int) then ((zf92 n (List.getD x0 (Int.toNat x5) 0, 0, Go.RowKit.wrap64 (x1 - 1))).bind fun y0 => (if (!y0) = Bool.true then some (Bool.false) else (if 0 ≤ x5 then (if x5 ≤ (↑(List.length x0) : Int) then (if 0 ≤ x5 then (if x5 < (↑(List.length x0) : Int) then ((zf103 n (List.take (Int.toNat x5) x0, List.getD x0 (Int.toNat x5) 0)).bind fun y1 => (if y1 ≥ 0 then some (Bool.false) else zf126.l2 n m2 (x0) (x1) (Go.RowKit.wrap64 (x5 + 1)))) else none) else none) else none) else none))) else none) else none) else some (Bool.true)) := by kernel_rfl
noncomputable abbrev zf126.sg (n : Nat) : Sig := ⟨zf126.ps, zf126.res, zf126 n⟩
theorem zf126.call : Callable Tryz.prog 179 := ⟨Tryz.f179, Tryz.func179, by kernel_rfl, by kernel_rfl⟩
theorem zf126.ok (n : Nat) : FC Tryz.prog [] 179 (zf126.sg n) :=
  evalF_ok (C := zf126.C) ⟨tb_ok, fun n _ _ h => tabOk (l := [(112, (zf92.sg n)), (180, (zf103.sg n))]) (all_cons ⟨zf92.ok n, zf92.call⟩ (all_cons ⟨zf103.ok n, zf103.call⟩ (all_nil))) h, mixed, ar_ok, bld_ok, pts_ok⟩ zf126.A Tryz.func179 zf126.ps zf126.res n
abbrev zf125.ps : List Pm := [.arg (.v (.slice zt8)), .arg (.v (.int .i64))]
abbrev zf125.res : List M := [.v .bool]
noncomputable def zf125.C : Cfg := { tb := tb, tab := fun n f => Refl.look [(112, (zf92.sg n)), (179, (zf126.sg n)), (180, (zf103.sg n))] f, gl := [], ar := ar, bld := bld, pts := pts }
noncomputable def zf125.A : Ann := { joins := [], loops := [(2, { live := [0, 1, 5], base := 57 })], ids := [(5, [(21, []), (26, []), (39, []), (47, [])]), (7, [(55, [])])], pids := [], nroots := 121 }
noncomputable def zf125 (n : Nat) (x : List zt19 × Int) : Option (Bool) := evalF zf125.C zf125.A Tryz.f127 zf125.ps zf125.res n x
noncomputable def zf125.K0 (_ : Nat) : Kont (Bool) := finK zf125.C (Func.results Tryz.f127).toList zf125.ps zf125.res
noncomputable def zf125.K1 (n : Nat) : Kont (Bool) := seqK (fun s' k => joinE zf125.A.joins (codeAt Tryz.f127 [1, 1]) (fun s'' => evalC zf125.C zf125.A n (codeAt Tryz.f127 [1, 1]) s'' k) s') (zf125.K0 n)
noncomputable def zf125.K2 (n : Nat) : Kont (Bool) := blockK 0 (zf125.K1 n)
noncomputable def zf125.l2 (n m2 : Nat) (x0 : List zt19) (x1 x5 : Int) : Option (Bool) := loopE (cutAt zf125.A.loops (codeAt Tryz.f127 [1, 0, 1, 0, 0])) (fun s k => evalC zf125.C zf125.A n (codeAt Tryz.f127 [1, 0, 1, 0, 0]) s k) m2 (St.of 57 121 [(0, .val (.slice zt8) x0), (1, .val (.int .i64) x1), (5, .val (.int .i64) x5)] [] []) (zf125.K2 n)
theorem zf125.eq (n : Nat) (x0 : List zt19) (x1 : Int) : zf125 n (x0, x1) = zf125.l2 n n (x0) (x1) (0) := by kernel_rfl
theorem zf125.l2_succ (n m2 : Nat) (x0 : List zt19) (x1 x5 : Int) : zf125.l2 n (m2 + 1) x0 x1 x5 = (if x5 < (↑(List.length x0) : Int) then (if 0 ≤ x5 then (if x5 < (↑(List.length x0) : Int) then ((zf92 n (Prod.fst (List.getD x0 (Int.toNat x5) (0, 0, [])), 0, Go.RowKit.wrap64 (x1 - 1))).bind fun y0 => (if (!y0) = Bool.true then some (Bool.false) else ((zf92 n (Prod.fst (Prod.snd (List.getD x0 (Int.toNat x5) (0, 0, []))), 1, 100000)).bind fun y1 => (if (!y1) = Bool.true then some (Bool.false) else (if (↑(List.length (Prod.snd (Prod.snd (List.getD x0 (Int.toNat x5) ((0 : Int), (0 : Int), []))))) : Int) = 0 then some (Bool.false) else ((zf126 n (Prod.snd (Prod.snd (List.getD x0 (Int.toNat x5) (0, 0, []))), x1)).bind fun y2 => (if (!y2) = Bool.true then some (Bool.false) else ((zf103 n (Prod.snd (Prod.snd (List.getD x0 (Int.toNat x5) (0, 0, []))), Prod.fst (List.getD x0 (Int.toNat x5) (0, 0, [])))).bind fun y3 => (if y3 ≥ 0 then some (Bool.false) else zf125.l2 n m2 (x0) (x1) (Go.RowKit.wrap64 (x5 + 1))))))))))) else none) else none) else (if (↑(List.length x0) : Int) ≤ 16 then ((zf92 n (x1, 1, 12)).bind fun y4 => some (y4)) else some (Bool.false))) := by kernel_rfl
noncomputable abbrev zf125.sg (n : Nat) : Sig := ⟨zf125.ps, zf125.res, zf125 n⟩
theorem zf125.call : Callable Tryz.prog 127 := ⟨Tryz.f127, Tryz.func127, by kernel_rfl, by kernel_rfl⟩
theorem zf125.ok (n : Nat) : FC Tryz.prog [] 127 (zf125.sg n) :=
  evalF_ok (C := zf125.C) ⟨tb_ok, fun n _ _ h => tabOk (l := [(112, (zf92.sg n)), (179, (zf126.sg n)), (180, (zf103.sg n))]) (all_cons ⟨zf92.ok n, zf92.call⟩ (all_cons ⟨zf126.ok n, zf126.call⟩ (all_cons ⟨zf103.ok n, zf103.call⟩ (all_nil)))) h, mixed, ar_ok, bld_ok, pts_ok⟩ zf125.A Tryz.func127 zf125.ps zf125.res n
abbrev zf93.ps : List Pm := [.arg (.pr (.own (.int .i64) 3) (.pr (.own zt8 142) (.v zt13))), .arg (.v zt8)]
abbrev zf93.res : List M := [(.pr (.own (.int .i64) 3) (.pr (.own zt8 142) (.v zt13))), .v .bool]
noncomputable def zf93.C : Cfg := { tb := tb, tab := fun n f => Refl.look [(127, (zf125.sg n)), (163, (zf114.sg n))] f, gl := [], ar := ar, bld := bld, pts := pts }
noncomputable def zf93.A : Ann := { joins := [], loops := [], ids := [(1, [(9, [])]), (2, [(17, []), (24, [])])], pids := [(0, [91, 92])], nroots := 99 }
noncomputable def zf93 (n : Nat) (x : zt10 × Int × Int × List Int) : Option (zt10 × Bool) := evalF zf93.C zf93.A Tryz.f140 zf93.ps zf93.res n x
theorem zf93.eq (n : Nat) (x0 : List Int × List zt19 × Int × Int × Int) (x1 : Int × Int × List Int) : zf93 n (x0, x1) = (if List.length x0.2.1 + List.length (List.set (List.replicate (1 : Nat) ((0 : Int), (0 : Int), [])) (0 : Nat) (x1.1, x1.2.1, x1.2.2)) ≤ Go.Refl.maxN then ((zf125 n (x0.2.1 ++ List.set (List.replicate 1 (0, 0, [])) 0 (x1.1, x1.2.1, x1.2.2), (↑(List.length x0.1) : Int))).bind fun y0 => (if (!y0) = Bool.true then some (((x0.1, x0.2.1 ++ List.set (List.replicate 1 (0, 0, [])) 0 (x1.1, x1.2.1, x1.2.2), x0.2.2.1, x0.2.2.2.1, x0.2.2.2.2), Bool.false)) else ((zf114 n (x0.1, x0.2.1 ++ List.set (List.replicate 1 (0, 0, [])) 0 (x1.1, x1.2.1, x1.2.2))).bind fun y1 => (if (!y1) = true then some (((x0.1, x0.2.1 ++ List.set (List.replicate 1 (0, 0, [])) 0 (x1.1, x1.2.1, x1.2.2), x0.2.2.1, x0.2.2.2.1, x0.2.2.2.2), Bool.false)) else some (((x0.1, x0.2.1 ++ List.set (List.replicate 1 (0, 0, [])) 0 (x1.1, x1.2.1, x1.2.2), Go.RowKit.wrap64 (x0.2.2.1 - x1.2.1), x0.2.2.2.1, x0.2.2.2.2), Bool.true)))))) else none) := by kernel_rfl
noncomputable abbrev zf93.sg (n : Nat) : Sig := ⟨zf93.ps, zf93.res, zf93 n⟩
theorem zf93.call : Callable Tryz.prog 140 := ⟨Tryz.f140, Tryz.func140, by kernel_rfl, by kernel_rfl⟩
theorem zf93.ok (n : Nat) : FC Tryz.prog [] 140 (zf93.sg n) :=
  evalF_ok (C := zf93.C) ⟨tb_ok, fun n _ _ h => tabOk (l := [(127, (zf125.sg n)), (163, (zf114.sg n))]) (all_cons ⟨zf125.ok n, zf125.call⟩ (all_cons ⟨zf114.ok n, zf114.call⟩ (all_nil))) h, mixed, ar_ok, bld_ok, pts_ok⟩ zf93.A Tryz.func140 zf93.ps zf93.res n
abbrev zf112.ps : List Pm := [.arg (.pr (.own (.int .i64) 3) (.pr (.own zt8 142) (.v zt13))), .arg (.v zt1)]
abbrev zf112.res : List M := [(.pr (.own (.int .i64) 3) (.pr (.own zt8 142) (.v zt13))), .v .bool]
noncomputable def zf112.C : Cfg := { tb := tb, tab := fun n f => Refl.look [(112, (zf92.sg n))] f, gl := [], ar := ar, bld := bld, pts := pts }
noncomputable def zf112.A : Ann := { joins := [], loops := [], ids := [(1, [(12, []), (24, []), (30, [])])], pids := [(0, [143, 144])], nroots := 151 }
noncomputable def zf112 (n : Nat) (x : zt10 × Int × Int × Int × Int × List Int × Int × Int) : Option (zt10 × Bool) := evalF zf112.C zf112.A Tryz.f142 zf112.ps zf112.res n x
theorem zf112.eq (n : Nat) (x0 : List Int × List zt19 × Int × Int × Int) (x1 : Int × Int × Int × Int × List Int × Int × Int) : zf112 n (x0, x1) = ((zf92 n (x1.2.1, 0, Go.RowKit.wrap64 ((↑(List.length x0.2.1) : Int) - 1))).bind fun y0 => (if (!y0) = Bool.true then some (((x0.1, x0.2.1, x0.2.2.1, x0.2.2.2.1, x0.2.2.2.2), Bool.false)) else (if 0 ≤ x1.2.1 then (if x1.2.1 < (↑(List.length x0.2.1) : Int) then ((zf92 n (x1.2.2.1, 1, Prod.fst (Prod.snd (List.getD x0.2.1 (Int.toNat x1.2.1) (0, 0, []))))).bind fun y1 => (if (!y1) = Bool.true then some (((x0.1, x0.2.1, x0.2.2.1, x0.2.2.2.1, x0.2.2.2.2), Bool.false)) else ((zf92 n (x1.2.2.2.1, 0, 100000)).bind fun y2 => (if (!y2) = true then some (((x0.1, x0.2.1, x0.2.2.1, x0.2.2.2.1, x0.2.2.2.2), Bool.false)) else (if 0 ≤ x1.2.1 then (if x1.2.1 < (↑(List.length x0.2.1) : Int) then (if 0 ≤ x1.2.1 then (if x1.2.1 < (↑(List.length x0.2.1) : Int) then (if 0 ≤ x1.2.1 then (if x1.2.1 < (↑(List.length (List.set x0.2.1 (Int.toNat x1.2.1) (Prod.fst (List.getD x0.2.1 (Int.toNat x1.2.1) ((0 : Int), (0 : Int), [])), Go.RowKit.wrap64 (Prod.fst (Prod.snd (List.getD x0.2.1 (Int.toNat x1.2.1) ((0 : Int), (0 : Int), []))) - x1.2.2.1), Prod.snd (Prod.snd (List.getD x0.2.1 (Int.toNat x1.2.1) ((0 : Int), (0 : Int), [])))))) : Int) then (if Prod.fst (Prod.snd (List.getD (List.set x0.2.1 (Int.toNat x1.2.1) (Prod.fst (List.getD x0.2.1 (Int.toNat x1.2.1) (0, 0, [])), Go.RowKit.wrap64 (Prod.fst (Prod.snd (List.getD x0.2.1 (Int.toNat x1.2.1) (0, 0, []))) - x1.2.2.1), Prod.snd (Prod.snd (List.getD x0.2.1 (Int.toNat x1.2.1) (0, 0, []))))) (Int.toNat x1.2.1) (0, 0, []))) = 0 then (if 0 ≤ x1.2.1 then (if x1.2.1 ≤ (↑(List.length (List.set x0.2.1 (Int.toNat x1.2.1) (Prod.fst (List.getD x0.2.1 (Int.toNat x1.2.1) ((0 : Int), (0 : Int), [])), Go.RowKit.wrap64 (Prod.fst (Prod.snd (List.getD x0.2.1 (Int.toNat x1.2.1) ((0 : Int), (0 : Int), []))) - x1.2.2.1), Prod.snd (Prod.snd (List.getD x0.2.1 (Int.toNat x1.2.1) ((0 : Int), (0 : Int), [])))))) : Int) then (if 0 ≤ Go.RowKit.wrap64 (x1.2.1 + 1) then (if Go.RowKit.wrap64 (x1.2.1 + 1) ≤ (↑(List.length (List.set x0.2.1 (Int.toNat x1.2.1) (Prod.fst (List.getD x0.2.1 (Int.toNat x1.2.1) ((0 : Int), (0 : Int), [])), Go.RowKit.wrap64 (Prod.fst (Prod.snd (List.getD x0.2.1 (Int.toNat x1.2.1) ((0 : Int), (0 : Int), []))) - x1.2.2.1), Prod.snd (Prod.snd (List.getD x0.2.1 (Int.toNat x1.2.1) ((0 : Int), (0 : Int), [])))))) : Int) then (if Int.toNat x1.2.1 - 0 + List.length (List.take (List.length (List.set x0.2.1 (Int.toNat x1.2.1) (Prod.fst (List.getD x0.2.1 (Int.toNat x1.2.1) ((0 : Int), (0 : Int), [])), Go.RowKit.wrap64 (Prod.fst (Prod.snd (List.getD x0.2.1 (Int.toNat x1.2.1) ((0 : Int), (0 : Int), []))) - x1.2.2.1), Prod.snd (Prod.snd (List.getD x0.2.1 (Int.toNat x1.2.1) ((0 : Int), (0 : Int), []))))) - Int.toNat (Go.RowKit.wrap64 (x1.2.1 + (1 : Int)))) (List.drop (Int.toNat (Go.RowKit.wrap64 (x1.2.1 + (1 : Int)))) (List.set x0.2.1 (Int.toNat x1.2.1) (Prod.fst (List.getD x0.2.1 (Int.toNat x1.2.1) ((0 : Int), (0 : Int), [])), Go.RowKit.wrap64 (Prod.fst (Prod.snd (List.getD x0.2.1 (Int.toNat x1.2.1) ((0 : Int), (0 : Int), []))) - x1.2.2.1), Prod.snd (Prod.snd (List.getD x0.2.1 (Int.toNat x1.2.1) ((0 : Int), (0 : Int), []))))))) ≤ Go.Refl.maxN then some (((x0.1, List.take (Int.toNat x1.2.1 - 0) (List.set x0.2.1 (Int.toNat x1.2.1) (Prod.fst (List.getD x0.2.1 (Int.toNat x1.2.1) (0, 0, [])), Go.RowKit.wrap64 (Prod.fst (Prod.snd (List.getD x0.2.1 (Int.toNat x1.2.1) (0, 0, []))) - x1.2.2.1), Prod.snd (Prod.snd (List.getD x0.2.1 (Int.toNat x1.2.1) (0, 0, []))))) ++ List.take (List.length (List.set x0.2.1 (Int.toNat x1.2.1) (Prod.fst (List.getD x0.2.1 (Int.toNat x1.2.1) ((0 : Int), (0 : Int), [])), Go.RowKit.wrap64 (Prod.fst (Prod.snd (List.getD x0.2.1 (Int.toNat x1.2.1) ((0 : Int), (0 : Int), []))) - x1.2.2.1), Prod.snd (Prod.snd (List.getD x0.2.1 (Int.toNat x1.2.1) ((0 : Int), (0 : Int), []))))) - Int.toNat (Go.RowKit.wrap64 (x1.2.1 + 1))) (List.drop (Int.toNat (Go.RowKit.wrap64 (x1.2.1 + 1))) (List.set x0.2.1 (Int.toNat x1.2.1) (Prod.fst (List.getD x0.2.1 (Int.toNat x1.2.1) (0, 0, [])), Go.RowKit.wrap64 (Prod.fst (Prod.snd (List.getD x0.2.1 (Int.toNat x1.2.1) (0, 0, []))) - x1.2.2.1), Prod.snd (Prod.snd (List.getD x0.2.1 (Int.toNat x1.2.1) (0, 0, [])))))), Go.RowKit.wrap64 (Go.RowKit.wrap64 (x0.2.2.1 + x1.2.2.1) + x1.2.2.2.1), Go.RowKit.wrap64 (x0.2.2.2.1 + x1.2.2.2.1), x0.2.2.2.2), Bool.true)) else none) else none) else none) else none) else none) else some (((x0.1, List.set x0.2.1 (Int.toNat x1.2.1) (Prod.fst (List.getD x0.2.1 (Int.toNat x1.2.1) (0, 0, [])), Go.RowKit.wrap64 (Prod.fst (Prod.snd (List.getD x0.2.1 (Int.toNat x1.2.1) (0, 0, []))) - x1.2.2.1), Prod.snd (Prod.snd (List.getD x0.2.1 (Int.toNat x1.2.1) (0, 0, [])))), Go.RowKit.wrap64 (Go.RowKit.wrap64 (x0.2.2.1 + x1.2.2.1) + x1.2.2.2.1), Go.RowKit.wrap64 (x0.2.2.2.1 + x1.2.2.2.1), x0.2.2.2.2), Bool.true))) else none) else none) else none) else none) else none) else none))))) else none) else none))) := by kernel_rfl
noncomputable abbrev zf112.sg (n : Nat) : Sig := ⟨zf112.ps, zf112.res, zf112 n⟩
theorem zf112.call : Callable Tryz.prog 142 := ⟨Tryz.f142, Tryz.func142, by kernel_rfl, by kernel_rfl⟩
theorem zf112.ok (n : Nat) : FC Tryz.prog [] 142 (zf112.sg n) :=
  evalF_ok (C := zf112.C) ⟨tb_ok, fun n _ _ h => tabOk (l := [(112, (zf92.sg n))]) (all_cons ⟨zf92.ok n, zf92.call⟩ (all_nil)) h, mixed, ar_ok, bld_ok, pts_ok⟩ zf112.A Tryz.func142 zf112.ps zf112.res n
abbrev zf88.ps : List Pm := [.arg (.v (.slice (.int .i64))), .arg (.v zt8)]
abbrev zf88.res : List M := [(.own (.int .i64) 3), .v (.int .i64), (.own (.int .i64) 3)]
noncomputable def zf88.C : Cfg := { tb := tb, tab := fun n f => Refl.look [(141, (zf84.sg n)), (190, (zf120.sg n))] f, gl := [], ar := ar, bld := bld, pts := pts }
noncomputable def zf88.A : Ann := { joins := [], loops := [(8, { live := [3, 7, 8, 10, 11, 12], base := 95 })], ids := [(15, [(90, [])])], pids := [], nroots := 159 }
noncomputable def zf88 (n : Nat) (x : List Int × Int × Int × List Int) : Option zt18 := evalF zf88.C zf88.A Tryz.f215 zf88.ps zf88.res n x
noncomputable def zf88.K0 (_ : Nat) : Kont zt18 := finK zf88.C (Func.results Tryz.f215).toList zf88.ps zf88.res
noncomputable def zf88.K1 (n : Nat) : Kont zt18 := seqK (fun s' k => joinE zf88.A.joins (codeAt Tryz.f215 [1, 1, 1, 1, 1, 1, 1, 1]) (fun s'' => evalC zf88.C zf88.A n (codeAt Tryz.f215 [1, 1, 1, 1, 1, 1, 1, 1]) s'' k) s') (zf88.K0 n)
noncomputable def zf88.K2 (n : Nat) : Kont zt18 := blockK 0 (zf88.K1 n)
noncomputable def zf88.l8 (n m8 : Nat) (x11 x12 : Int) (r95_0 r95_1 : Int) (r95_2 r96 : List Int) (r97 r98 : List Int) : Option zt18 := loopE (cutAt zf88.A.loops (codeAt Tryz.f215 [1, 1, 1, 1, 1, 1, 1, 0, 1, 0, 0])) (fun s k => evalC zf88.C zf88.A n (codeAt Tryz.f215 [1, 1, 1, 1, 1, 1, 1, 0, 1, 0, 0]) s k) m8 (St.of 95 159 [(3, .ptr 95 0 0), (7, .own 96), (8, .own 97), (10, .own 98), (11, .val (.int .i64) x11), (12, .val (.int .i64) x12)] [(95, .box 142 [.val (.int .i64) r95_0, .val (.int .i64) r95_1, .val (.slice (.int .i64)) r95_2]), (96, .row (.int .i64) 3 r96), (97, .row (.int .i64) 3 r97), (98, .row (.int .i64) 3 r98)] []) (zf88.K2 n)
theorem zf88.eq (n : Nat) (x0 : List Int) (x1 : Int × Int × List Int) : zf88 n (x0, x1) = ((zf84 n x0).bind fun y0 => (if 0 ≤ x1.1 then (if x1.1 < (↑(List.length y0) : Int) then (if 0 ≤ x1.1 then (if x1.1 < (↑(List.length y0) : Int) then (if 0 ≤ x1.1 then (if x1.1 < (↑(List.length y0) : Int) then ((zf120 n (Go.RowKit.wrap64 (x1.2.1 - Go.Refl.mn (List.getD y0 (Int.toNat x1.1) 0) x1.2.1), (↑(List.length x1.2.2) : Int))).bind fun y1 => zf88.l8 n n (0) (0) x1.1 x1.2.1 x1.2.2 (List.set y0 (Int.toNat x1.1) (Go.RowKit.wrap64 (List.getD y0 (Int.toNat x1.1) 0 - Go.Refl.mn (List.getD y0 (Int.toNat x1.1) 0) x1.2.1))) (List.replicate 0 0) (y1)) else none) else none) else none) else none) else none) else none)) := by kernel_rfl
theorem zf88.l8_succ (n m8 : Nat) (x11 x12 : Int) (r95_0 r95_1 : Int) (r95_2 r96 : List Int) (r97 r98 : List Int) : zf88.l8 n (m8 + 1) x11 x12 r95_0 r95_1 r95_2 r96 r97 r98 = (if x12 < (↑(List.length r98) : Int) then (if 0 ≤ x12 then (if x12 < (↑(List.length r95_2) : Int) then (if 0 ≤ List.getD r95_2 (Int.toNat x12) 0 then (if List.getD r95_2 (Int.toNat x12) 0 < (↑(List.length r96) : Int) then (if 0 ≤ x12 then (if x12 < (↑(List.length r98) : Int) then (if 0 ≤ List.getD r95_2 (Int.toNat x12) 0 then (if List.getD r95_2 (Int.toNat x12) 0 < (↑(List.length r96) : Int) then (if 0 ≤ List.getD r95_2 (Int.toNat x12) 0 then (if List.getD r95_2 (Int.toNat x12) 0 < (↑(List.length r96) : Int) then (if 0 ≤ x12 then (if x12 < (↑(List.length r98) : Int) then (if 0 ≤ x12 then (if x12 < (↑(List.length r98) : Int) then (if Go.Refl.mn (List.getD r96 (Int.toNat (List.getD r95_2 (Int.toNat x12) 0)) 0) (List.getD r98 (Int.toNat x12) 0) < List.getD r98 (Int.toNat x12) 0 then (if List.length r97 + List.length (List.set (List.replicate (1 : Nat) (0 : Int)) (0 : Nat) (List.getD r95_2 (Int.toNat x12) (0 : Int))) ≤ Go.Refl.maxN then zf88.l8 n m8 (Go.RowKit.wrap64 (Go.RowKit.wrap64 (x11 + List.getD r98 (Int.toNat x12) 0) - Go.Refl.mn (List.getD r96 (Int.toNat (List.getD r95_2 (Int.toNat x12) 0)) 0) (List.getD r98 (Int.toNat x12) 0))) (Go.RowKit.wrap64 (x12 + 1)) (r95_0) (r95_1) (r95_2) (List.set r96 (Int.toNat (List.getD r95_2 (Int.toNat x12) 0)) (Go.RowKit.wrap64 (List.getD r96 (Int.toNat (List.getD r95_2 (Int.toNat x12) 0)) 0 - Go.Refl.mn (List.getD r96 (Int.toNat (List.getD r95_2 (Int.toNat x12) 0)) 0) (List.getD r98 (Int.toNat x12) 0)))) (r97 ++ List.set (List.replicate 1 0) 0 (List.getD r95_2 (Int.toNat x12) 0)) (r98) else none) else zf88.l8 n m8 (Go.RowKit.wrap64 (Go.RowKit.wrap64 (x11 + List.getD r98 (Int.toNat x12) 0) - Go.Refl.mn (List.getD r96 (Int.toNat (List.getD r95_2 (Int.toNat x12) 0)) 0) (List.getD r98 (Int.toNat x12) 0))) (Go.RowKit.wrap64 (x12 + 1)) (r95_0) (r95_1) (r95_2) (List.set r96 (Int.toNat (List.getD r95_2 (Int.toNat x12) 0)) (Go.RowKit.wrap64 (List.getD r96 (Int.toNat (List.getD r95_2 (Int.toNat x12) 0)) 0 - Go.Refl.mn (List.getD r96 (Int.toNat (List.getD r95_2 (Int.toNat x12) 0)) 0) (List.getD r98 (Int.toNat x12) 0)))) (r97) (r98)) else none) else none) else none) else none) else none) else none) else none) else none) else none) else none) else none) else none) else none) else none) else some ((r96, x11, r97))) := by kernel_rfl
noncomputable abbrev zf88.sg (n : Nat) : Sig := ⟨zf88.ps, zf88.res, zf88 n⟩
theorem zf88.call : Callable Tryz.prog 215 := ⟨Tryz.f215, Tryz.func215, by kernel_rfl, by kernel_rfl⟩
theorem zf88.ok (n : Nat) : FC Tryz.prog [] 215 (zf88.sg n) :=
  evalF_ok (C := zf88.C) ⟨tb_ok, fun n _ _ h => tabOk (l := [(141, (zf84.sg n)), (190, (zf120.sg n))]) (all_cons ⟨zf84.ok n, zf84.call⟩ (all_cons ⟨zf120.ok n, zf120.call⟩ (all_nil))) h, mixed, ar_ok, bld_ok, pts_ok⟩ zf88.A Tryz.func215 zf88.ps zf88.res n
abbrev zf82.ps : List Pm := [.arg (.own (.int .i64) 3), .arg (.v (.slice zt8)), .arg (.v (.int .i64))]
abbrev zf82.res : List M := [(.own (.int .i64) 3), .v (.int .i64), (.own (.int .i64) 3)]
noncomputable def zf82.C : Cfg := { tb := tb, tab := fun n f => Refl.look [(215, (zf88.sg n)), (180, (zf103.sg n))] f, gl := [], ar := ar, bld := bld, pts := pts }
noncomputable def zf82.A : Ann := { joins := [], loops := [(5, { live := [0, 1, 9, 10, 11, 12], base := 91 }), (8, { live := [0, 1, 9, 10, 11, 12, 13], base := 91 }), (16, { live := [0, 1, 9, 10, 11, 12, 13, 16, 17], base := 91 })], ids := [(1, [(19, [19])]), (12, [(60, [123, 124])]), (18, [(79, [])]), (19, [(86, [])])], pids := [], nroots := 155 }
noncomputable def zf82 (n : Nat) (x : List Int × List zt19 × Int) : Option zt18 := evalF zf82.C zf82.A Tryz.f188 zf82.ps zf82.res n x
noncomputable def zf82.K0 (_ : Nat) : Kont zt18 := finK zf82.C (Func.results Tryz.f188).toList zf82.ps zf82.res
noncomputable def zf82.K1 (n : Nat) : Kont zt18 := seqK (fun s' k => joinE zf82.A.joins (codeAt Tryz.f188 [1, 1, 1, 1, 1]) (fun s'' => evalC zf82.C zf82.A n (codeAt Tryz.f188 [1, 1, 1, 1, 1]) s'' k) s') (zf82.K0 n)
noncomputable def zf82.K2 (n : Nat) : Kont zt18 := blockK 0 (zf82.K1 n)
noncomputable def zf82.K3 (n m5 : Nat) : Kont zt18 := loopK (cutAt zf82.A.loops (codeAt Tryz.f188 [1, 1, 1, 1, 0, 1, 0, 0])) (fun s k => evalC zf82.C zf82.A n (codeAt Tryz.f188 [1, 1, 1, 1, 0, 1, 0, 0]) s k) m5 (zf82.K2 n)
noncomputable def zf82.K4 (n m5 : Nat) : Kont zt18 := seqK (fun s' k => joinE zf82.A.joins (codeAt Tryz.f188 [1, 1, 1, 1, 0, 1, 0, 0, 1, 1]) (fun s'' => evalC zf82.C zf82.A n (codeAt Tryz.f188 [1, 1, 1, 1, 0, 1, 0, 0, 1, 1]) s'' k) s') (zf82.K3 n m5)
noncomputable def zf82.K5 (n m5 : Nat) : Kont zt18 := blockK 1 (zf82.K4 n m5)
noncomputable def zf82.K6 (n m5 : Nat) : Kont zt18 := blockK 2 (zf82.K5 n m5)
noncomputable def zf82.K7 (n m5 m8 : Nat) : Kont zt18 := loopK (cutAt zf82.A.loops (codeAt Tryz.f188 [1, 1, 1, 1, 0, 1, 0, 0, 1, 0, 0, 1, 0, 0])) (fun s k => evalC zf82.C zf82.A n (codeAt Tryz.f188 [1, 1, 1, 1, 0, 1, 0, 0, 1, 0, 0, 1, 0, 0]) s k) m8 (zf82.K6 n m5)
noncomputable def zf82.K8 (n m5 m8 : Nat) : Kont zt18 := seqK (fun s' k => joinE zf82.A.joins (codeAt Tryz.f188 [1, 1, 1, 1, 0, 1, 0, 0, 1, 0, 0, 1, 0, 0, 1, 1]) (fun s'' => evalC zf82.C zf82.A n (codeAt Tryz.f188 [1, 1, 1, 1, 0, 1, 0, 0, 1, 0, 0, 1, 0, 0, 1, 1]) s'' k) s') (zf82.K7 n m5 m8)
noncomputable def zf82.K9 (n m5 m8 : Nat) : Kont zt18 := blockK 3 (zf82.K8 n m5 m8)
noncomputable def zf82.K10 (n m5 m8 : Nat) : Kont zt18 := blockK 4 (zf82.K9 n m5 m8)
noncomputable def zf82.l5 (n m5 : Nat) (x1 : List zt19) (x10 x12 : Int) (r91 r92 : List Int) (r93 : List Bool) : Option zt18 := loopE (cutAt zf82.A.loops (codeAt Tryz.f188 [1, 1, 1, 1, 0, 1, 0, 0])) (fun s k => evalC zf82.C zf82.A n (codeAt Tryz.f188 [1, 1, 1, 1, 0, 1, 0, 0]) s k) m5 (St.of 91 155 [(0, .own 91), (1, .val (.slice zt8) x1), (9, .own 92), (10, .val (.int .i64) x10), (11, .own 93), (12, .val (.int .i64) x12)] [(91, .row (.int .i64) 3 r91), (92, .row (.int .i64) 3 r92), (93, .row .bool 4 r93)] []) (zf82.K2 n)
noncomputable def zf82.l8 (n m5 m8 : Nat) (x1 : List zt19) (x10 x12 x13 : Int) (r91 r92 : List Int) (r93 : List Bool) : Option zt18 := loopE (cutAt zf82.A.loops (codeAt Tryz.f188 [1, 1, 1, 1, 0, 1, 0, 0, 1, 0, 0, 1, 0, 0])) (fun s k => evalC zf82.C zf82.A n (codeAt Tryz.f188 [1, 1, 1, 1, 0, 1, 0, 0, 1, 0, 0, 1, 0, 0]) s k) m8 (St.of 91 155 [(0, .own 91), (1, .val (.slice zt8) x1), (9, .own 92), (10, .val (.int .i64) x10), (11, .own 93), (12, .val (.int .i64) x12), (13, .val (.int .i64) x13)] [(91, .row (.int .i64) 3 r91), (92, .row (.int .i64) 3 r92), (93, .row .bool 4 r93)] []) (zf82.K6 n m5)
noncomputable def zf82.l16 (n m5 m8 m16 : Nat) (x1 : List zt19) (x10 x12 : Int) (x13 x17 : Int) (r91 r92 : List Int) (r93 : List Bool) (r94 : List Int) : Option zt18 := loopE (cutAt zf82.A.loops (codeAt Tryz.f188 [1, 1, 1, 1, 0, 1, 0, 0, 1, 0, 0, 1, 0, 0, 1, 0, 0, 1, 1, 1, 1, 1, 1, 0, 0])) (fun s k => evalC zf82.C zf82.A n (codeAt Tryz.f188 [1, 1, 1, 1, 0, 1, 0, 0, 1, 0, 0, 1, 0, 0, 1, 0, 0, 1, 1, 1, 1, 1, 1, 0, 0]) s k) m16 (St.of 91 155 [(0, .own 91), (1, .val (.slice zt8) x1), (9, .own 92), (10, .val (.int .i64) x10), (11, .own 93), (12, .val (.int .i64) x12), (13, .val (.int .i64) x13), (16, .own 94), (17, .val (.int .i64) x17)] [(91, .row (.int .i64) 3 r91), (92, .row (.int .i64) 3 r92), (93, .row .bool 4 r93), (94, .row (.int .i64) 3 r94)] []) (zf82.K10 n m5 m8)
theorem zf82.eq (n : Nat) (x0 : List Int) (x1 : List zt19) (x2 : Int) : zf82 n (x0, x1, x2) = (if 0 ≤ (↑(List.length x1) : Int) then (if (↑(List.length x1) : Int) ≤ (↑(List.length x1) : Int) then (if (↑(List.length x1) : Int) ≤ (↑Go.Refl.maxN : Int) then zf82.l5 n n (x1) (0) (0) (x0) (List.set (List.replicate 1 0) 0 x2) (List.replicate (Int.toNat (↑(List.length x1) : Int)) Bool.false) else none) else none) else none) := by kernel_rfl
theorem zf82.l5_succ (n m5 : Nat) (x1 : List zt19) (x10 x12 : Int) (r91 r92 : List Int) (r93 : List Bool) : zf82.l5 n (m5 + 1) x1 x10 x12 r91 r92 r93 = (if x12 < (↑(List.length r92) : Int) then zf82.l8 n m5 n (x1) (x10) (x12) (0) (r91) (r92) (r93) else some ((r91, x10, r92))) := by kernel_rfl
theorem zf82.l8_succ (n m5 m8 : Nat) (x1 : List zt19) (x10 x12 x13 : Int) (r91 r92 : List Int) (r93 : List Bool) : zf82.l8 n m5 (m8 + 1) x1 x10 x12 x13 r91 r92 r93 = (if x13 < (↑(List.length x1) : Int) then (if 0 ≤ x13 then (if x13 < (↑(List.length r93) : Int) then (if List.getD r93 (Int.toNat x13) Bool.false = Bool.true then zf82.l8 n m5 m8 (x1) (x10) (x12) (Go.RowKit.wrap64 (x13 + 1)) (r91) (r92) (r93) else (if 0 ≤ x13 then (if x13 < (↑(List.length x1) : Int) then (if 0 ≤ x12 then (if x12 < (↑(List.length r92) : Int) then (if Prod.fst (List.getD x1 (Int.toNat x13) (0, 0, [])) = List.getD r92 (Int.toNat x12) 0 then (if 0 ≤ x13 then (if x13 < (↑(List.length r93) : Int) then (if 0 ≤ x13 then (if x13 < (↑(List.length x1) : Int) then ((zf88 n (r91, List.getD x1 (Int.toNat x13) (0, 0, []))).bind fun y2 => zf82.l16 n m5 m8 n (x1) (Go.RowKit.wrap64 (x10 + y2.2.1)) (x12) (x13) (0) y2.1 (r92) (List.set r93 (Int.toNat x13) Bool.true) y2.2.2) else none) else none) else none) else none) else zf82.l8 n m5 m8 (x1) (x10) (x12) (Go.RowKit.wrap64 (x13 + 1)) (r91) (r92) (r93)) else none) else none) else none) else none)) else none) else none) else zf82.l5 n m5 (x1) (x10) (Go.RowKit.wrap64 (x12 + 1)) (r91) (r92) (r93)) := by kernel_rfl
theorem zf82.l16_succ (n m5 m8 m16 : Nat) (x1 : List zt19) (x10 x12 : Int) (x13 x17 : Int) (r91 r92 : List Int) (r93 : List Bool) (r94 : List Int) : zf82.l16 n m5 m8 (m16 + 1) x1 x10 x12 x13 x17 r91 r92 r93 r94 = (if x17 < (↑(List.length r94) : Int) then (if 0 ≤ x17 then (if x17 < (↑(List.length r94) : Int) then ((zf103 n (r92, List.getD r94 (Int.toNat x17) 0)).bind fun y3 => (if y3 < 0 then (if 0 ≤ x17 then (if x17 < (↑(List.length r94) : Int) then (if List.length r92 + List.length (List.set (List.replicate (1 : Nat) (0 : Int)) (0 : Nat) (List.getD r94 (Int.toNat x17) (0 : Int))) ≤ Go.Refl.maxN then zf82.l16 n m5 m8 m16 (x1) (x10) (x12) (x13) (Go.RowKit.wrap64 (x17 + 1)) (r91) (r92 ++ List.set (List.replicate 1 0) 0 (List.getD r94 (Int.toNat x17) 0)) (r93) (r94) else none) else none) else none) else zf82.l16 n m5 m8 m16 (x1) (x10) (x12) (x13) (Go.RowKit.wrap64 (x17 + 1)) (r91) (r92) (r93) (r94))) else none) else none) else zf82.l8 n m5 m8 (x1) (x10) (x12) (Go.RowKit.wrap64 (x13 + 1)) (r91) (r92) (r93)) := by kernel_rfl
noncomputable abbrev zf82.sg (n : Nat) : Sig := ⟨zf82.ps, zf82.res, zf82 n⟩
theorem zf82.call : Callable Tryz.prog 188 := ⟨Tryz.f188, Tryz.func188, by kernel_rfl, by kernel_rfl⟩
theorem zf82.ok (n : Nat) : FC Tryz.prog [] 188 (zf82.sg n) :=
  evalF_ok (C := zf82.C) ⟨tb_ok, fun n _ _ h => tabOk (l := [(215, (zf88.sg n)), (180, (zf103.sg n))]) (all_cons ⟨zf88.ok n, zf88.call⟩ (all_cons ⟨zf103.ok n, zf103.call⟩ (all_nil))) h, mixed, ar_ok, bld_ok, pts_ok⟩ zf82.A Tryz.func188 zf82.ps zf82.res n
abbrev zf89.ps : List Pm := [.arg (.pr (.own (.int .i64) 3) (.pr (.own zt8 142) (.v zt13))), .arg (.v (.int .i64))]
abbrev zf89.res : List M := [(.pr (.own (.int .i64) 3) (.pr (.own zt8 142) (.v zt13))), .v .bool]
noncomputable def zf89.C : Cfg := { tb := tb, tab := fun n f => Refl.look [(112, (zf92.sg n)), (188, (zf82.sg n)), (180, (zf103.sg n))] f, gl := [], ar := ar, bld := bld, pts := pts }
noncomputable def zf89.A : Ann := { joins := [], loops := [(6, { live := [2, 4, 6, 7, 8, 9, 10], base := 64 })], ids := [(1, [(16, [])]), (3, [(25, [97, 98])]), (8, [(44, [])]), (9, [(52, [])])], pids := [(0, [120, 121])], nroots := 128 }
noncomputable def zf89 (n : Nat) (x : zt10 × Int) : Option (zt10 × Bool) := evalF zf89.C zf89.A Tryz.f143 zf89.ps zf89.res n x
noncomputable def zf89.K0 (_ : Nat) : Kont (zt10 × Bool) := finK zf89.C (Func.results Tryz.f143).toList zf89.ps zf89.res
noncomputable def zf89.K1 (n : Nat) : Kont (zt10 × Bool) := seqK (fun s' k => joinE zf89.A.joins (codeAt Tryz.f143 [1, 1, 1, 1, 1]) (fun s'' => evalC zf89.C zf89.A n (codeAt Tryz.f143 [1, 1, 1, 1, 1]) s'' k) s') (zf89.K0 n)
noncomputable def zf89.K2 (n : Nat) : Kont (zt10 × Bool) := blockK 0 (zf89.K1 n)
noncomputable def zf89.l6 (n m6 : Nat) (x7 x10 : Int) (r64_2 r64_3 : Int) (r64_4 r65_2 : Int) (r65_3 r65_4 : Int) (r66 r67 : List Int) (r68 : List zt19) (r69 : List zt19) : Option (zt10 × Bool) := loopE (cutAt zf89.A.loops (codeAt Tryz.f143 [1, 1, 1, 1, 0, 1, 0, 0])) (fun s k => evalC zf89.C zf89.A n (codeAt Tryz.f143 [1, 1, 1, 1, 0, 1, 0, 0]) s k) m6 (St.of 64 128 [(2, .ptr 64 0 0), (4, .ptr 65 0 0), (6, .own 66), (7, .val (.int .i64) x7), (8, .own 67), (9, .own 68), (10, .val (.int .i64) x10)] [(64, .box 41 [.undef, .own 69, .val (.int .i64) r64_2, .val (.int .i64) r64_3, .val (.int .i64) r64_4]), (65, .box 41 [.nils, .nils, .val (.int .i64) r65_2, .val (.int .i64) r65_3, .val (.int .i64) r65_4]), (66, .row (.int .i64) 3 r66), (67, .row (.int .i64) 3 r67), (68, .row zt8 142 r68), (69, .row zt8 142 r69)] []) (zf89.K2 n)
theorem zf89.eq (n : Nat) (x0 : List Int × List zt19 × Int × Int × Int) (x1 : Int) : zf89 n (x0, x1) = ((zf92 n (x1, 0, Go.RowKit.wrap64 ((↑(List.length x0.1) : Int) - 1))).bind fun y0 => (if (!y0) = true then some (((x0.1, x0.2.1, x0.2.2.1, x0.2.2.2.1, x0.2.2.2.2), Bool.false)) else ((zf82 n (x0.1, x0.2.1, x1)).bind fun y3 => zf89.l6 n n y3.2.1 (0) x0.2.2.1 x0.2.2.2.1 x0.2.2.2.2 (0) (0) (0) y3.1 y3.2.2 (List.replicate 0 (0, 0, [])) x0.2.1))) := by kernel_rfl
theorem zf89.l6_succ (n m6 : Nat) (x7 x10 : Int) (r64_2 r64_3 : Int) (r64_4 r65_2 : Int) (r65_3 r65_4 : Int) (r66 r67 : List Int) (r68 : List zt19) (r69 : List zt19) : zf89.l6 n (m6 + 1) x7 x10 r64_2 r64_3 r64_4 r65_2 r65_3 r65_4 r66 r67 r68 r69 = (if x10 < (↑(List.length r69) : Int) then (if 0 ≤ x10 then (if x10 < (↑(List.length r69) : Int) then ((zf103 n (r67, Prod.fst (List.getD r69 (Int.toNat x10) (0, 0, [])))).bind fun y4 => (if y4 < 0 then (if 0 ≤ x10 then (if x10 < (↑(List.length r69) : Int) then (if List.length r68 + List.length (List.set (List.replicate (1 : Nat) ((0 : Int), (0 : Int), [])) (0 : Nat) (List.getD r69 (Int.toNat x10) ((0 : Int), (0 : Int), []))) ≤ Go.Refl.maxN then zf89.l6 n m6 (x7) (Go.RowKit.wrap64 (x10 + 1)) (r64_2) (r64_3) (r64_4) (r65_2) (r65_3) (r65_4) (r66) (r67) (r68 ++ List.set (List.replicate 1 (0, 0, [])) 0 (List.getD r69 (Int.toNat x10) (0, 0, []))) (r69) else none) else none) else none) else zf89.l6 n m6 (x7) (Go.RowKit.wrap64 (x10 + 1)) (r64_2) (r64_3) (r64_4) (r65_2) (r65_3) (r65_4) (r66) (r67) (r68) (r69))) else none) else none) else some (((r66, r68, r64_2, Go.RowKit.wrap64 (r64_3 - x7), r64_4), Bool.true))) := by kernel_rfl
noncomputable abbrev zf89.sg (n : Nat) : Sig := ⟨zf89.ps, zf89.res, zf89 n⟩
theorem zf89.call : Callable Tryz.prog 143 := ⟨Tryz.f143, Tryz.func143, by kernel_rfl, by kernel_rfl⟩
theorem zf89.ok (n : Nat) : FC Tryz.prog [] 143 (zf89.sg n) :=
  evalF_ok (C := zf89.C) ⟨tb_ok, fun n _ _ h => tabOk (l := [(112, (zf92.sg n)), (188, (zf82.sg n)), (180, (zf103.sg n))]) (all_cons ⟨zf92.ok n, zf92.call⟩ (all_cons ⟨zf82.ok n, zf82.call⟩ (all_cons ⟨zf103.ok n, zf103.call⟩ (all_nil)))) h, mixed, ar_ok, bld_ok, pts_ok⟩ zf89.A Tryz.func143 zf89.ps zf89.res n
abbrev zf127.ps : List Pm := [.arg (.v zt16)]
abbrev zf127.res : List M := [.v .bool]
noncomputable def zf127.C : Cfg := { tb := tb, tab := fun n f => Refl.look [(112, (zf92.sg n))] f, gl := [], ar := ar, bld := bld, pts := pts }
noncomputable def zf127.A : Ann := { joins := [], loops := [], ids := [(1, [(5, []), (11, [])])], pids := [], nroots := 77 }
noncomputable def zf127 (n : Nat) (x : Int × Int) : Option (Bool) := evalF zf127.C zf127.A Tryz.f110 zf127.ps zf127.res n x
theorem zf127.eq (n : Nat) (x0 : Int × Int) : zf127 n x0 = ((zf92 n (x0.2, 1, 1000)).bind fun y0 => (if y0 = Bool.true then ((zf92 n (x0.1, 0, x0.2)).bind fun y1 => some (y1)) else some (Bool.false))) := by kernel_rfl
noncomputable abbrev zf127.sg (n : Nat) : Sig := ⟨zf127.ps, zf127.res, zf127 n⟩
theorem zf127.call : Callable Tryz.prog 110 := ⟨Tryz.f110, Tryz.func110, by kernel_rfl, by kernel_rfl⟩
theorem zf127.ok (n : Nat) : FC Tryz.prog [] 110 (zf127.sg n) :=
  evalF_ok (C := zf127.C) ⟨tb_ok, fun n _ _ h => tabOk (l := [(112, (zf92.sg n))]) (all_cons ⟨zf92.ok n, zf92.call⟩ (all_nil)) h, mixed, ar_ok, bld_ok, pts_ok⟩ zf127.A Tryz.func110 zf127.ps zf127.res n
abbrev zf98.ps : List Pm := [.arg (.v (.int .i64)), .arg (.v zt16)]
abbrev zf98.res : List M := [.v (.int .i64)]
noncomputable def zf98.C : Cfg := { tb := tb, tab := fun n f => Refl.look [] f, gl := [], ar := ar, bld := bld, pts := pts }
noncomputable def zf98.A : Ann := { joins := [], loops := [], ids := [], pids := [], nroots := 81 }
noncomputable def zf98 (n : Nat) (x : Int × Int × Int) : Option (Int) := evalF zf98.C zf98.A Tryz.f216 zf98.ps zf98.res n x
theorem zf98.eq (n : Nat) (x0 : Int) (x1 : Int × Int) : zf98 n (x0, x1) = (if Go.RowKit.wrap64 (2 * x1.2) = 0 then none else some (Go.RowKit.wrap64 (Int.tdiv (Go.RowKit.wrap64 (Go.RowKit.wrap64 (Go.RowKit.wrap64 (2 * x0) * x1.1) + x1.2)) (Go.RowKit.wrap64 (2 * x1.2))))) := by kernel_rfl
noncomputable abbrev zf98.sg (n : Nat) : Sig := ⟨zf98.ps, zf98.res, zf98 n⟩
theorem zf98.call : Callable Tryz.prog 216 := ⟨Tryz.f216, Tryz.func216, by kernel_rfl, by kernel_rfl⟩
theorem zf98.ok (n : Nat) : FC Tryz.prog [] 216 (zf98.sg n) :=
  evalF_ok (C := zf98.C) ⟨tb_ok, fun n _ _ h => tabOk (l := []) (all_nil) h, mixed, ar_ok, bld_ok, pts_ok⟩ zf98.A Tryz.func216 zf98.ps zf98.res n
abbrev zf86.ps : List Pm := [.arg (.v (.int .i64)), .arg (.v zt16)]
abbrev zf86.res : List M := [.v (.int .i64)]
noncomputable def zf86.C : Cfg := { tb := tb, tab := fun n f => Refl.look [(216, (zf98.sg n))] f, gl := [], ar := ar, bld := bld, pts := pts }
noncomputable def zf86.A : Ann := { joins := [], loops := [], ids := [(1, [(8, [])])], pids := [], nroots := 102 }
noncomputable def zf86 (n : Nat) (x : Int × Int × Int) : Option (Int) := evalF zf86.C zf86.A Tryz.f189 zf86.ps zf86.res n x
theorem zf86.eq (n : Nat) (x0 : Int) (x1 : Int × Int) : zf86 n (x0, x1) = ((zf98 n (x0, x1.1, x1.2)).bind fun y0 => (if x1.2 = 0 then none else (if Int.tmod (Go.RowKit.wrap64 (Go.RowKit.wrap64 (2 * x0) * x1.1)) x1.2 = 0 then (if x1.2 = 0 then none else (if Int.tmod (Go.RowKit.wrap64 (Int.tdiv (Go.RowKit.wrap64 (Go.RowKit.wrap64 (2 * x0) * x1.1)) x1.2)) 2 = 1 then (if Int.tmod y0 2 = 1 then some (Go.RowKit.wrap64 (y0 - 1)) else some (y0)) else some (y0))) else some (y0)))) := by kernel_rfl
noncomputable abbrev zf86.sg (n : Nat) : Sig := ⟨zf86.ps, zf86.res, zf86 n⟩
theorem zf86.call : Callable Tryz.prog 189 := ⟨Tryz.f189, Tryz.func189, by kernel_rfl, by kernel_rfl⟩
theorem zf86.ok (n : Nat) : FC Tryz.prog [] 189 (zf86.sg n) :=
  evalF_ok (C := zf86.C) ⟨tb_ok, fun n _ _ h => tabOk (l := [(216, (zf98.sg n))]) (all_cons ⟨zf98.ok n, zf98.call⟩ (all_nil)) h, mixed, ar_ok, bld_ok, pts_ok⟩ zf86.A Tryz.func189 zf86.ps zf86.res n
abbrev zf100.ps : List Pm := [.arg (.pr (.own (.int .i64) 3) (.pr (.own zt8 142) (.v zt13))), .arg (.v zt16)]
abbrev zf100.res : List M := [(.pr (.own (.int .i64) 3) (.pr (.own zt8 142) (.v zt13))), .v .bool]
noncomputable def zf100.C : Cfg := { tb := tb, tab := fun n f => Refl.look [(110, (zf127.sg n)), (189, (zf86.sg n))] f, gl := [], ar := ar, bld := bld, pts := pts }
noncomputable def zf100.A : Ann := { joins := [], loops := [(4, { live := [2, 3, 4, 6], base := 50 })], ids := [(1, [(9, [])]), (6, [(26, [])])], pids := [(0, [106, 107])], nroots := 114 }
noncomputable def zf100 (n : Nat) (x : zt10 × Int × Int) : Option (zt10 × Bool) := evalF zf100.C zf100.A Tryz.f144 zf100.ps zf100.res n x
noncomputable def zf100.K0 (_ : Nat) : Kont (zt10 × Bool) := finK zf100.C (Func.results Tryz.f144).toList zf100.ps zf100.res
noncomputable def zf100.K1 (n : Nat) : Kont (zt10 × Bool) := seqK (fun s' k => joinE zf100.A.joins (codeAt Tryz.f144 [1, 1, 1]) (fun s'' => evalC zf100.C zf100.A n (codeAt Tryz.f144 [1, 1, 1]) s'' k) s') (zf100.K0 n)
noncomputable def zf100.K2 (n : Nat) : Kont (zt10 × Bool) := blockK 0 (zf100.K1 n)
noncomputable def zf100.l4 (n m4 : Nat) (x6 r50_2 : Int) (r50_3 r50_4 : Int) (r51_0 r51_1 : Int) (r52_2 r52_3 r52_4 : Int) (r53 : List Int) (r54 : List zt19) : Option (zt10 × Bool) := loopE (cutAt zf100.A.loops (codeAt Tryz.f144 [1, 1, 0, 1, 0, 0])) (fun s k => evalC zf100.C zf100.A n (codeAt Tryz.f144 [1, 1, 0, 1, 0, 0]) s k) m4 (St.of 50 114 [(2, .ptr 50 0 0), (3, .ptr 51 0 0), (4, .ptr 52 0 0), (6, .val (.int .i64) x6)] [(50, .box 41 [.own 53, .own 54, .val (.int .i64) r50_2, .val (.int .i64) r50_3, .val (.int .i64) r50_4]), (51, .box 26 [.val (.int .i64) r51_0, .val (.int .i64) r51_1]), (52, .box 41 [.nils, .nils, .val (.int .i64) r52_2, .val (.int .i64) r52_3, .val (.int .i64) r52_4]), (53, .row (.int .i64) 3 r53), (54, .row zt8 142 r54)] []) (zf100.K2 n)
theorem zf100.eq (n : Nat) (x0 : List Int × List zt19 × Int × Int × Int) (x1 : Int × Int) : zf100 n (x0, x1) = ((zf127 n (x1.1, x1.2)).bind fun y0 => (if (!y0) = true then some (((x0.1, x0.2.1, x0.2.2.1, x0.2.2.2.1, x0.2.2.2.2), Bool.false)) else zf100.l4 n n (0) x0.2.2.1 x0.2.2.2.1 x0.2.2.2.2 x1.1 x1.2 (0) (0) (0) x0.1 x0.2.1)) := by kernel_rfl
theorem zf100.l4_succ (n m4 : Nat) (x6 r50_2 : Int) (r50_3 r50_4 : Int) (r51_0 r51_1 : Int) (r52_2 r52_3 r52_4 : Int) (r53 : List Int) (r54 : List zt19) : zf100.l4 n (m4 + 1) x6 r50_2 r50_3 r50_4 r51_0 r51_1 r52_2 r52_3 r52_4 r53 r54 = (if x6 < (↑(List.length r54) : Int) then (if 0 ≤ x6 then (if x6 < (↑(List.length r54) : Int) then ((zf86 n (Prod.fst (Prod.snd (List.getD r54 (Int.toNat x6) (0, 0, []))), r51_0, r51_1)).bind fun y1 => (if 0 ≤ x6 then (if x6 < (↑(List.length r54) : Int) then (if 0 ≤ x6 then (if x6 < (↑(List.length r54) : Int) then zf100.l4 n m4 (Go.RowKit.wrap64 (x6 + 1)) (r50_2) (Go.RowKit.wrap64 (r50_3 + y1)) (r50_4) (r51_0) (r51_1) (r52_2) (r52_3) (r52_4) (r53) (List.set r54 (Int.toNat x6) (Prod.fst (List.getD r54 (Int.toNat x6) (0, 0, [])), Go.RowKit.wrap64 (Prod.fst (Prod.snd (List.getD r54 (Int.toNat x6) (0, 0, []))) + y1), Prod.snd (Prod.snd (List.getD r54 (Int.toNat x6) (0, 0, []))))) else none) else none) else none) else none)) else none) else none) else some (((r53, r54, r50_2, r50_3, Go.RowKit.wrap64 (r50_4 + 1)), Bool.true))) := by kernel_rfl
noncomputable abbrev zf100.sg (n : Nat) : Sig := ⟨zf100.ps, zf100.res, zf100 n⟩
theorem zf100.call : Callable Tryz.prog 144 := ⟨Tryz.f144, Tryz.func144, by kernel_rfl, by kernel_rfl⟩
theorem zf100.ok (n : Nat) : FC Tryz.prog [] 144 (zf100.sg n) :=
  evalF_ok (C := zf100.C) ⟨tb_ok, fun n _ _ h => tabOk (l := [(110, (zf127.sg n)), (189, (zf86.sg n))]) (all_cons ⟨zf127.ok n, zf127.call⟩ (all_cons ⟨zf86.ok n, zf86.call⟩ (all_nil))) h, mixed, ar_ok, bld_ok, pts_ok⟩ zf100.A Tryz.func144 zf100.ps zf100.res n
abbrev zf115.ps : List Pm := [.arg (.pr (.own (.int .i64) 3) (.pr (.own zt8 142) (.v zt13)))]
abbrev zf115.res : List M := [(.pr (.own (.int .i64) 3) (.pr (.own zt8 142) (.v zt13))), .v .bool]
noncomputable def zf115.C : Cfg := { tb := tb, tab := fun n f => Refl.look [(190, (zf120.sg n))] f, gl := [], ar := ar, bld := bld, pts := pts }
noncomputable def zf115.A : Ann := { joins := [], loops := [(5, { live := [1, 2, 4, 5], base := 38 })], ids := [], pids := [(0, [94, 95])], nroots := 102 }
noncomputable def zf115 (n : Nat) (x : List Int × List zt19 × Int × Int × Int) : Option (zt10 × Bool) := evalF zf115.C zf115.A Tryz.f145 zf115.ps zf115.res n x
noncomputable def zf115.K0 (_ : Nat) : Kont (zt10 × Bool) := finK zf115.C (Func.results Tryz.f145).toList zf115.ps zf115.res
noncomputable def zf115.K1 (n : Nat) : Kont (zt10 × Bool) := seqK (fun s' k => joinE zf115.A.joins (codeAt Tryz.f145 [1, 1, 1, 1]) (fun s'' => evalC zf115.C zf115.A n (codeAt Tryz.f145 [1, 1, 1, 1]) s'' k) s') (zf115.K0 n)
noncomputable def zf115.K2 (n : Nat) : Kont (zt10 × Bool) := blockK 0 (zf115.K1 n)
noncomputable def zf115.l5 (n m5 : Nat) (x5 r38_2 : Int) (r38_3 r38_4 : Int) (r39_2 r39_3 r39_4 : Int) (r40 r41 : List Int) (r42 : List zt19) : Option (zt10 × Bool) := loopE (cutAt zf115.A.loops (codeAt Tryz.f145 [1, 1, 1, 0, 1, 0, 0])) (fun s k => evalC zf115.C zf115.A n (codeAt Tryz.f145 [1, 1, 1, 0, 1, 0, 0]) s k) m5 (St.of 38 102 [(1, .ptr 38 0 0), (2, .ptr 39 0 0), (4, .own 40), (5, .val (.int .i64) x5)] [(38, .box 41 [.own 41, .own 42, .val (.int .i64) r38_2, .val (.int .i64) r38_3, .val (.int .i64) r38_4]), (39, .box 41 [.nils, .nils, .val (.int .i64) r39_2, .val (.int .i64) r39_3, .val (.int .i64) r39_4]), (40, .row (.int .i64) 3 r40), (41, .row (.int .i64) 3 r41), (42, .row zt8 142 r42)] []) (zf115.K2 n)
theorem zf115.eq (n : Nat) (x0 : List Int × List zt19 × Int × Int × Int) : zf115 n x0 = (if x0.2.2.2.1 < 0 then some (((x0.1, x0.2.1, x0.2.2.1, x0.2.2.2.1, x0.2.2.2.2), Bool.false)) else ((zf120 n (x0.2.2.2.1, (↑(List.length x0.1) : Int))).bind fun y0 => zf115.l5 n n (0) x0.2.2.1 x0.2.2.2.1 x0.2.2.2.2 (0) (0) (0) (y0) x0.1 x0.2.1)) := by kernel_rfl
theorem zf115.l5_succ (n m5 : Nat) (x5 r38_2 : Int) (r38_3 r38_4 : Int) (r39_2 r39_3 r39_4 : Int) (r40 r41 : List Int) (r42 : List zt19) : zf115.l5 n (m5 + 1) x5 r38_2 r38_3 r38_4 r39_2 r39_3 r39_4 r40 r41 r42 = (if x5 < (↑(List.length r40) : Int) then (if 0 ≤ x5 then (if x5 < (↑(List.length r41) : Int) then (if 0 ≤ x5 then (if x5 < (↑(List.length r40) : Int) then (if 0 ≤ x5 then (if x5 < (↑(List.length r41) : Int) then zf115.l5 n m5 (Go.RowKit.wrap64 (x5 + 1)) (r38_2) (r38_3) (r38_4) (r39_2) (r39_3) (r39_4) (r40) (List.set r41 (Int.toNat x5) (Go.RowKit.wrap64 (List.getD r41 (Int.toNat x5) 0 + List.getD r40 (Int.toNat x5) 0))) (r42) else none) else none) else none) else none) else none) else none) else some (((r41, r42, r38_2, 0, r38_4), Bool.true))) := by kernel_rfl
noncomputable abbrev zf115.sg (n : Nat) : Sig := ⟨zf115.ps, zf115.res, zf115 n⟩
theorem zf115.call : Callable Tryz.prog 145 := ⟨Tryz.f145, Tryz.func145, by kernel_rfl, by kernel_rfl⟩
theorem zf115.ok (n : Nat) : FC Tryz.prog [] 145 (zf115.sg n) :=
  evalF_ok (C := zf115.C) ⟨tb_ok, fun n _ _ h => tabOk (l := [(190, (zf120.sg n))]) (all_cons ⟨zf120.ok n, zf120.call⟩ (all_nil)) h, mixed, ar_ok, bld_ok, pts_ok⟩ zf115.A Tryz.func145 zf115.ps zf115.res n
abbrev zf123.ps : List Pm := [.arg (.v (.int .i64))]
abbrev zf123.res : List M := [.v .bool]
noncomputable def zf123.C : Cfg := { tb := tb, tab := fun n f => Refl.look [(112, (zf92.sg n))] f, gl := [], ar := ar, bld := bld, pts := pts }
noncomputable def zf123.A : Ann := { joins := [], loops := [], ids := [(1, [(4, [])])], pids := [], nroots := 69 }
noncomputable def zf123 (n : Nat) (x : Int) : Option (Bool) := evalF zf123.C zf123.A Tryz.f113 zf123.ps zf123.res n x
theorem zf123.eq (n : Nat) (x0 : Int) : zf123 n x0 = ((zf92 n (x0, 0, 1000000)).bind fun y0 => some (y0)) := by kernel_rfl
noncomputable abbrev zf123.sg (n : Nat) : Sig := ⟨zf123.ps, zf123.res, zf123 n⟩
theorem zf123.call : Callable Tryz.prog 113 := ⟨Tryz.f113, Tryz.func113, by kernel_rfl, by kernel_rfl⟩
theorem zf123.ok (n : Nat) : FC Tryz.prog [] 113 (zf123.sg n) :=
  evalF_ok (C := zf123.C) ⟨tb_ok, fun n _ _ h => tabOk (l := [(112, (zf92.sg n))]) (all_cons ⟨zf92.ok n, zf92.call⟩ (all_nil)) h, mixed, ar_ok, bld_ok, pts_ok⟩ zf123.A Tryz.func113 zf123.ps zf123.res n
abbrev zf94.ps : List Pm := [.arg (.v (.slice zt8))]
abbrev zf94.res : List M := [.v (.int .i64)]
noncomputable def zf94.C : Cfg := { tb := tb, tab := fun n f => Refl.look [] f, gl := [], ar := ar, bld := bld, pts := pts }
noncomputable def zf94.A : Ann := { joins := [], loops := [(3, { live := [0, 3, 4], base := 19 })], ids := [], pids := [], nroots := 83 }
noncomputable def zf94 (n : Nat) (x : List zt19) : Option (Int) := evalF zf94.C zf94.A Tryz.f128 zf94.ps zf94.res n x
noncomputable def zf94.K0 (_ : Nat) : Kont (Int) := finK zf94.C (Func.results Tryz.f128).toList zf94.ps zf94.res
noncomputable def zf94.K1 (n : Nat) : Kont (Int) := seqK (fun s' k => joinE zf94.A.joins (codeAt Tryz.f128 [1, 1, 1]) (fun s'' => evalC zf94.C zf94.A n (codeAt Tryz.f128 [1, 1, 1]) s'' k) s') (zf94.K0 n)
noncomputable def zf94.K2 (n : Nat) : Kont (Int) := blockK 0 (zf94.K1 n)
noncomputable def zf94.l3 (n m3 : Nat) (x0 : List zt19) (x3 x4 : Int) : Option (Int) := loopE (cutAt zf94.A.loops (codeAt Tryz.f128 [1, 1, 0, 1, 0, 0])) (fun s k => evalC zf94.C zf94.A n (codeAt Tryz.f128 [1, 1, 0, 1, 0, 0]) s k) m3 (St.of 19 83 [(0, .val (.slice zt8) x0), (3, .val (.int .i64) x3), (4, .val (.int .i64) x4)] [] []) (zf94.K2 n)
theorem zf94.eq (n : Nat) (x0 : List zt19) : zf94 n x0 = zf94.l3 n n (x0) (0) (0) := by kernel_rfl
theorem zf94.l3_succ (n m3 : Nat) (x0 : List zt19) (x3 x4 : Int) : zf94.l3 n (m3 + 1) x0 x3 x4 = (if x4 < (↑(List.length x0) : Int) then (if 0 ≤ x4 then (if x4 < (↑(List.length x0) : Int) then zf94.l3 n m3 (x0) (Go.RowKit.wrap64 (x3 + Prod.fst (Prod.snd (List.getD x0 (Int.toNat x4) (0, 0, []))))) (Go.RowKit.wrap64 (x4 + 1)) else none) else none) else some (x3)) := by kernel_rfl
noncomputable abbrev zf94.sg (n : Nat) : Sig := ⟨zf94.ps, zf94.res, zf94 n⟩
theorem zf94.call : Callable Tryz.prog 128 := ⟨Tryz.f128, Tryz.func128, by kernel_rfl, by kernel_rfl⟩
theorem zf94.ok (n : Nat) : FC Tryz.prog [] 128 (zf94.sg n) :=
  evalF_ok (C := zf94.C) ⟨tb_ok, fun n _ _ h => tabOk (l := []) (all_nil) h, mixed, ar_ok, bld_ok, pts_ok⟩ zf94.A Tryz.func128 zf94.ps zf94.res n
abbrev zf122.ps : List Pm := [.arg (.v (.slice (.int .i64)))]
abbrev zf122.res : List M := [.v (.int .i64)]
noncomputable def zf122.C : Cfg := { tb := tb, tab := fun n f => Refl.look [] f, gl := [], ar := ar, bld := bld, pts := pts }
noncomputable def zf122.A : Ann := { joins := [], loops := [(3, { live := [0, 3, 4], base := 18 })], ids := [], pids := [], nroots := 82 }
noncomputable def zf122 (n : Nat) (x : List Int) : Option (Int) := evalF zf122.C zf122.A Tryz.f129 zf122.ps zf122.res n x
noncomputable def zf122.K0 (_ : Nat) : Kont (Int) := finK zf122.C (Func.results Tryz.f129).toList zf122.ps zf122.res
noncomputable def zf122.K1 (n : Nat) : Kont (Int) := seqK (fun s' k => joinE zf122.A.joins (codeAt Tryz.f129 [1, 1, 1]) (fun s'' => evalC zf122.C zf122.A n (codeAt Tryz.f129 [1, 1, 1]) s'' k) s') (zf122.K0 n)
noncomputable def zf122.K2 (n : Nat) : Kont (Int) := blockK 0 (zf122.K1 n)
noncomputable def zf122.l3 (n m3 : Nat) (x0 : List Int) (x3 x4 : Int) : Option (Int) := loopE (cutAt zf122.A.loops (codeAt Tryz.f129 [1, 1, 0, 1, 0, 0])) (fun s k => evalC zf122.C zf122.A n (codeAt Tryz.f129 [1, 1, 0, 1, 0, 0]) s k) m3 (St.of 18 82 [(0, .val (.slice (.int .i64)) x0), (3, .val (.int .i64) x3), (4, .val (.int .i64) x4)] [] []) (zf122.K2 n)
theorem zf122.eq (n : Nat) (x0 : List Int) : zf122 n x0 = zf122.l3 n n (x0) (0) (0) := by kernel_rfl
theorem zf122.l3_succ (n m3 : Nat) (x0 : List Int) (x3 x4 : Int) : zf122.l3 n (m3 + 1) x0 x3 x4 = (if x4 < (↑(List.length x0) : Int) then (if 0 ≤ x4 then (if x4 < (↑(List.length x0) : Int) then zf122.l3 n m3 (x0) (Go.RowKit.wrap64 (x3 + List.getD x0 (Int.toNat x4) 0)) (Go.RowKit.wrap64 (x4 + 1)) else none) else none) else some (x3)) := by kernel_rfl
noncomputable abbrev zf122.sg (n : Nat) : Sig := ⟨zf122.ps, zf122.res, zf122 n⟩
theorem zf122.call : Callable Tryz.prog 129 := ⟨Tryz.f129, Tryz.func129, by kernel_rfl, by kernel_rfl⟩
theorem zf122.ok (n : Nat) : FC Tryz.prog [] 129 (zf122.sg n) :=
  evalF_ok (C := zf122.C) ⟨tb_ok, fun n _ _ h => tabOk (l := []) (all_nil) h, mixed, ar_ok, bld_ok, pts_ok⟩ zf122.A Tryz.func129 zf122.ps zf122.res n
abbrev zf124.ps : List Pm := [.arg (.v zt0)]
abbrev zf124.res : List M := [.v .bool]
noncomputable def zf124.C : Cfg := { tb := tb, tab := fun n f => Refl.look [(126, (zf128.sg n)), (127, (zf125.sg n)), (113, (zf123.sg n)), (112, (zf92.sg n)), (128, (zf94.sg n)), (129, (zf122.sg n))] f, gl := [], ar := ar, bld := bld, pts := pts }
noncomputable def zf124.A : Ann := { joins := [], loops := [], ids := [(1, [(5, []), (13, []), (19, []), (25, []), (31, [])]), (3, [(38, []), (42, [])])], pids := [], nroots := 111 }
noncomputable def zf124 (n : Nat) (x : List Int × List zt19 × Int × Int × Int) : Option (Bool) := evalF zf124.C zf124.A Tryz.f68 zf124.ps zf124.res n x
theorem zf124.eq (n : Nat) (x0 : List Int × List zt19 × Int × Int × Int) : zf124 n x0 = ((zf128 n x0.1).bind fun y0 => (if (!y0) = Bool.true then some (Bool.false) else ((zf125 n (x0.2.1, (↑(List.length x0.1) : Int))).bind fun y1 => (if (!y1) = Bool.true then some (Bool.false) else ((zf123 n x0.2.2.1).bind fun y2 => (if (!y2) = Bool.true then some (Bool.false) else ((zf92 n (x0.2.2.2.1, (-1000000), 1000000)).bind fun y3 => (if (!y3) = Bool.true then some (Bool.false) else ((zf92 n (x0.2.2.2.2, 0, 999)).bind fun y4 => (if (!y4) = true then some (Bool.false) else ((zf94 n x0.2.1).bind fun y5 => ((zf122 n x0.1).bind fun y6 => some (Decidable.decide (Go.RowKit.wrap64 (x0.2.2.1 + y5) = Go.RowKit.wrap64 (y6 + x0.2.2.2.1))))))))))))))) := by kernel_rfl
noncomputable abbrev zf124.sg (n : Nat) : Sig := ⟨zf124.ps, zf124.res, zf124 n⟩
theorem zf124.call : Callable Tryz.prog 68 := ⟨Tryz.f68, Tryz.func68, by kernel_rfl, by kernel_rfl⟩
theorem zf124.ok (n : Nat) : FC Tryz.prog [] 68 (zf124.sg n) :=
  evalF_ok (C := zf124.C) ⟨tb_ok, fun n _ _ h => tabOk (l := [(126, (zf128.sg n)), (127, (zf125.sg n)), (113, (zf123.sg n)), (112, (zf92.sg n)), (128, (zf94.sg n)), (129, (zf122.sg n))]) (all_cons ⟨zf128.ok n, zf128.call⟩ (all_cons ⟨zf125.ok n, zf125.call⟩ (all_cons ⟨zf123.ok n, zf123.call⟩ (all_cons ⟨zf92.ok n, zf92.call⟩ (all_cons ⟨zf94.ok n, zf94.call⟩ (all_cons ⟨zf122.ok n, zf122.call⟩ (all_nil))))))) h, mixed, ar_ok, bld_ok, pts_ok⟩ zf124.A Tryz.func68 zf124.ps zf124.res n
abbrev zf80.ps : List Pm := [.arg (.v zt0), .arg (.v zt1)]
abbrev zf80.res : List M := [.v zt0, .v .bool]
noncomputable def zf80.C : Cfg := { tb := tb, tab := fun n f => Refl.look [(138, (zf83.sg n)), (139, (zf96.sg n)), (141, { params := zf84.ps, res := [.v (.slice (.int .i64))], run := zf84 n }), (140, (zf93.sg n)), (142, (zf112.sg n)), (143, (zf89.sg n)), (144, (zf100.sg n)), (145, (zf115.sg n)), (68, (zf124.sg n))] f, gl := [], ar := ar, bld := bld, pts := pts }
noncomputable def zf80.A : Ann := { joins := [], loops := [], ids := [(1, [(9, [117, 118])]), (5, [(16, [])]), (20, [(80, [])]), (9, [(25, [121, 122])]), (11, [(38, []), (40, [126, 127])]), (13, [(48, [130, 131])]), (15, [(57, [134, 135])]), (17, [(66, [138, 139])]), (19, [(73, [142, 143])])], pids := [], nroots := 149 }
noncomputable def zf80 (n : Nat) (x : zt10 × Int × Int × Int × Int × List Int × Int × Int) : Option (zt10 × Bool) := evalF zf80.C zf80.A Tryz.f72 zf80.ps zf80.res n x
theorem zf80.eq (n : Nat) (x0 : List Int × List zt19 × Int × Int × Int) (x1 : Int × Int × Int × Int × List Int × Int × Int) : zf80 n (x0, x1) = ((zf83 n (x0.1, x0.2.1, x0.2.2.1, x0.2.2.2.1, x0.2.2.2.2)).bind fun y2 => (if x1.1 = 0 then (if List.length y2.1 + List.length (List.set (List.replicate (1 : Nat) (0 : Int)) (0 : Nat) (0 : Int)) ≤ Go.Refl.maxN then ((zf124 n (y2.1 ++ List.set (List.replicate 1 0) 0 0, y2.2.1, y2.2.2.1, y2.2.2.2.1, y2.2.2.2.2)).bind fun y3 => (if (!y3) = true then some ((([], [], 0, 0, 0), Bool.false)) else some (((y2.1 ++ List.set (List.replicate 1 0) 0 0, y2.2.1, y2.2.2.1, y2.2.2.2.1, y2.2.2.2.2), Bool.true)))) else none) else (if x1.1 = 1 then (if x1.1 = 1 then ((zf96 n ((y2.1, y2.2.1, y2.2.2.1, y2.2.2.2.1, y2.2.2.2.2), x1.1, x1.2.1, x1.2.2.1, x1.2.2.2.1, x1.2.2.2.2.1, x1.2.2.2.2.2.1, x1.2.2.2.2.2.2)).bind fun y6 => (if (!y6.2) = Bool.true then some ((([], [], 0, 0, 0), Bool.false)) else ((zf124 n (y6.1.1, y6.1.2.1, y6.1.2.2.1, y6.1.2.2.2.1, y6.1.2.2.2.2)).bind fun y7 => (if (!y7) = true then some ((([], [], 0, 0, 0), Bool.false)) else some (((y6.1.1, y6.1.2.1, y6.1.2.2.1, y6.1.2.2.2.1, y6.1.2.2.2.2), Bool.true)))))) else (if x1.1 = 3 then ((zf84 n x1.2.2.2.2.1).bind fun y8 => ((zf93 n ((y2.1, y2.2.1, y2.2.2.1, y2.2.2.2.1, y2.2.2.2.2), x1.2.1, x1.2.2.1, y8)).bind fun y11 => (if (!y11.2) = Bool.true then some ((([], [], 0, 0, 0), Bool.false)) else ((zf124 n (y11.1.1, y11.1.2.1, y11.1.2.2.1, y11.1.2.2.2.1, y11.1.2.2.2.2)).bind fun y12 => (if (!y12) = true then some ((([], [], 0, 0, 0), Bool.false)) else some (((y11.1.1, y11.1.2.1, y11.1.2.2.1, y11.1.2.2.2.1, y11.1.2.2.2.2), Bool.true))))))) else (if x1.1 = 4 then ((zf112 n ((y2.1, y2.2.1, y2.2.2.1, y2.2.2.2.1, y2.2.2.2.2), x1.1, x1.2.1, x1.2.2.1, x1.2.2.2.1, x1.2.2.2.2.1, x1.2.2.2.2.2.1, x1.2.2.2.2.2.2)).bind fun y15 => (if (!y15.2) = Bool.true then some ((([], [], 0, 0, 0), Bool.false)) else ((zf124 n (y15.1.1, y15.1.2.1, y15.1.2.2.1, y15.1.2.2.2.1, y15.1.2.2.2.2)).bind fun y16 => (if (!y16) = true then some ((([], [], 0, 0, 0), Bool.false)) else some (((y15.1.1, y15.1.2.1, y15.1.2.2.1, y15.1.2.2.2.1, y15.1.2.2.2.2), Bool.true)))))) else (if x1.1 = 5 then ((zf89 n ((y2.1, y2.2.1, y2.2.2.1, y2.2.2.2.1, y2.2.2.2.2), x1.2.1)).bind fun y19 => (if (!y19.2) = Bool.true then some ((([], [], 0, 0, 0), Bool.false)) else ((zf124 n (y19.1.1, y19.1.2.1, y19.1.2.2.1, y19.1.2.2.2.1, y19.1.2.2.2.2)).bind fun y20 => (if (!y20) = true then some ((([], [], 0, 0, 0), Bool.false)) else some (((y19.1.1, y19.1.2.1, y19.1.2.2.1, y19.1.2.2.2.1, y19.1.2.2.2.2), Bool.true)))))) else (if x1.1 = 6 then ((zf100 n ((y2.1, y2.2.1, y2.2.2.1, y2.2.2.2.1, y2.2.2.2.2), x1.2.2.2.2.2.1, x1.2.2.2.2.2.2)).bind fun y23 => (if (!y23.2) = Bool.true then some ((([], [], 0, 0, 0), Bool.false)) else ((zf124 n (y23.1.1, y23.1.2.1, y23.1.2.2.1, y23.1.2.2.2.1, y23.1.2.2.2.2)).bind fun y24 => (if (!y24) = true then some ((([], [], 0, 0, 0), Bool.false)) else some (((y23.1.1, y23.1.2.1, y23.1.2.2.1, y23.1.2.2.2.1, y23.1.2.2.2.2), Bool.true)))))) else (if x1.1 = 7 then ((zf115 n (y2.1, y2.2.1, y2.2.2.1, y2.2.2.2.1, y2.2.2.2.2)).bind fun y27 => (if (!y27.2) = Bool.true then some ((([], [], 0, 0, 0), Bool.false)) else ((zf124 n (y27.1.1, y27.1.2.1, y27.1.2.2.1, y27.1.2.2.2.1, y27.1.2.2.2.2)).bind fun y28 => (if (!y28) = true then some ((([], [], 0, 0, 0), Bool.false)) else some (((y27.1.1, y27.1.2.1, y27.1.2.2.1, y27.1.2.2.2.1, y27.1.2.2.2.2), Bool.true)))))) else some ((([], [], 0, 0, 0), Bool.false)))))))) else (if x1.1 = 2 then ((zf96 n ((y2.1, y2.2.1, y2.2.2.1, y2.2.2.2.1, y2.2.2.2.2), x1.1, x1.2.1, x1.2.2.1, x1.2.2.2.1, x1.2.2.2.2.1, x1.2.2.2.2.2.1, x1.2.2.2.2.2.2)).bind fun y29 => (if (!y29.2) = Bool.true then some ((([], [], 0, 0, 0), Bool.false)) else ((zf124 n (y29.1.1, y29.1.2.1, y29.1.2.2.1, y29.1.2.2.2.1, y29.1.2.2.2.2)).bind fun y30 => (if (!y30) = true then some ((([], [], 0, 0, 0), Bool.false)) else some (((y29.1.1, y29.1.2.1, y29.1.2.2.1, y29.1.2.2.2.1, y29.1.2.2.2.2), Bool.true)))))) else (if x1.1 = 3 then ((zf84 n x1.2.2.2.2.1).bind fun y31 => ((zf93 n ((y2.1, y2.2.1, y2.2.2.1, y2.2.2.2.1, y2.2.2.2.2), x1.2.1, x1.2.2.1, y31)).bind fun y32 => (if (!y32.2) = Bool.true then some ((([], [], 0, 0, 0), Bool.false)) else ((zf124 n (y32.1.1, y32.1.2.1, y32.1.2.2.1, y32.1.2.2.2.1, y32.1.2.2.2.2)).bind fun y33 => (if (!y33) = true then some ((([], [], 0, 0, 0), Bool.false)) else some (((y32.1.1, y32.1.2.1, y32.1.2.2.1, y32.1.2.2.2.1, y32.1.2.2.2.2), Bool.true))))))) else (if x1.1 = 4 then ((zf112 n ((y2.1, y2.2.1, y2.2.2.1, y2.2.2.2.1, y2.2.2.2.2), x1.1, x1.2.1, x1.2.2.1, x1.2.2.2.1, x1.2.2.2.2.1, x1.2.2.2.2.2.1, x1.2.2.2.2.2.2)).bind fun y34 => (if (!y34.2) = Bool.true then some ((([], [], 0, 0, 0), Bool.false)) else ((zf124 n (y34.1.1, y34.1.2.1, y34.1.2.2.1, y34.1.2.2.2.1, y34.1.2.2.2.2)).bind fun y35 => (if (!y35) = true then some ((([], [], 0, 0, 0), Bool.false)) else some (((y34.1.1, y34.1.2.1, y34.1.2.2.1, y34.1.2.2.2.1, y34.1.2.2.2.2), Bool.true)))))) else (if x1.1 = 5 then ((zf89 n ((y2.1, y2.2.1, y2.2.2.1, y2.2.2.2.1, y2.2.2.2.2), x1.2.1)).bind fun y36 => (if (!y36.2) = Bool.true then some ((([], [], 0, 0, 0), Bool.false)) else ((zf124 n (y36.1.1, y36.1.2.1, y36.1.2.2.1, y36.1.2.2.2.1, y36.1.2.2.2.2)).bind fun y37 => (if (!y37) = true then some ((([], [], 0, 0, 0), Bool.false)) else some (((y36.1.1, y36.1.2.1, y36.1.2.2.1, y36.1.2.2.2.1, y36.1.2.2.2.2), Bool.true)))))) else (if x1.1 = 6 then ((zf100 n ((y2.1, y2.2.1, y2.2.2.1, y2.2.2.2.1, y2.2.2.2.2), x1.2.2.2.2.2.1, x1.2.2.2.2.2.2)).bind fun y38 => (if (!y38.2) = Bool.true then some ((([], [], 0, 0, 0), Bool.false)) else ((zf124 n (y38.1.1, y38.1.2.1, y38.1.2.2.1, y38.1.2.2.2.1, y38.1.2.2.2.2)).bind fun y39 => (if (!y39) = true then some ((([], [], 0, 0, 0), Bool.false)) else some (((y38.1.1, y38.1.2.1, y38.1.2.2.1, y38.1.2.2.2.1, y38.1.2.2.2.2), Bool.true)))))) else (if x1.1 = 7 then ((zf115 n (y2.1, y2.2.1, y2.2.2.1, y2.2.2.2.1, y2.2.2.2.2)).bind fun y40 => (if (!y40.2) = Bool.true then some ((([], [], 0, 0, 0), Bool.false)) else ((zf124 n (y40.1.1, y40.1.2.1, y40.1.2.2.1, y40.1.2.2.2.1, y40.1.2.2.2.2)).bind fun y41 => (if (!y41) = true then some ((([], [], 0, 0, 0), Bool.false)) else some (((y40.1.1, y40.1.2.1, y40.1.2.2.1, y40.1.2.2.2.1, y40.1.2.2.2.2), Bool.true)))))) else some ((([], [], 0, 0, 0), Bool.false))))))))))) := by kernel_rfl
noncomputable abbrev zf80.sg (n : Nat) : Sig := ⟨zf80.ps, zf80.res, zf80 n⟩
theorem zf80.call : Callable Tryz.prog 72 := ⟨Tryz.f72, Tryz.func72, by kernel_rfl, by kernel_rfl⟩
theorem zf80.ok (n : Nat) : FC Tryz.prog [] 72 (zf80.sg n) :=
  evalF_ok (C := zf80.C) ⟨tb_ok, fun n _ _ h => tabOk (l := [(138, (zf83.sg n)), (139, (zf96.sg n)), (141, { params := zf84.ps, res := [.v (.slice (.int .i64))], run := zf84 n }), (140, (zf93.sg n)), (142, (zf112.sg n)), (143, (zf89.sg n)), (144, (zf100.sg n)), (145, (zf115.sg n)), (68, (zf124.sg n))]) (all_cons ⟨zf83.ok n, zf83.call⟩ (all_cons ⟨zf96.ok n, zf96.call⟩ (all_cons ⟨FC.weak (.cons (.own _ _) .nil) HEq.rfl (zf84.ok n), zf84.call⟩ (all_cons ⟨zf93.ok n, zf93.call⟩ (all_cons ⟨zf112.ok n, zf112.call⟩ (all_cons ⟨zf89.ok n, zf89.call⟩ (all_cons ⟨zf100.ok n, zf100.call⟩ (all_cons ⟨zf115.ok n, zf115.call⟩ (all_cons ⟨zf124.ok n, zf124.call⟩ (all_nil)))))))))) h, mixed, ar_ok, bld_ok, pts_ok⟩ zf80.A Tryz.func72 zf80.ps zf80.res n
abbrev zf117.ps : List Pm := [.box 136 (.v (.pair (.slice (.int .u8)) (.int .i64))), .arg (.v zt0)]
abbrev zf117.res : List M := [(.own zt1 28), .v zt0]
noncomputable def zf117.C : Cfg := { tb := tb, tab := fun n f => Refl.look [(69, (zf109.sg n)), (54, (zf118.sg n)), (72, (zf80.sg n))] f, gl := [], ar := ar, bld := bld, pts := pts }
noncomputable def zf117.A : Ann := { joins := [], loops := [(3, { live := [0, 3, 5, 6, 7], base := 36 })], ids := [(2, [(13, []), (14, [])]), (5, [(21, [])]), (6, [(25, [])]), (9, [(32, [])])], pids := [], nroots := 100 }
noncomputable def zf117 (n : Nat) (x : (List Int × Int) × List Int × List zt19 × Int × Int × Int) : Option zt2 := evalF zf117.C zf117.A Tryz.f51 zf117.ps zf117.res n x
noncomputable def zf117.K0 (_ : Nat) : Kont zt2 := finK zf117.C (Func.results Tryz.f51).toList zf117.ps zf117.res
noncomputable def zf117.K1 (n : Nat) : Kont zt2 := seqK (fun s' k => joinE zf117.A.joins (codeAt Tryz.f51 [1, 1, 1]) (fun s'' => evalC zf117.C zf117.A n (codeAt Tryz.f51 [1, 1, 1]) s'' k) s') (zf117.K0 n)
noncomputable def zf117.K2 (n : Nat) : Kont zt2 := blockK 0 (zf117.K1 n)
noncomputable def zf117.l3 (n m3 : Nat) (x7 : Int) (r0_0 : List Int) (r0_1 : Int) (r36_0 : List Int) (r36_1 : List zt19) (r36_2 r36_3 : Int) (r36_4 r37_2 : Int) (r37_3 r37_4 : Int) (r38 : List zt14) : Option zt2 := loopE (cutAt zf117.A.loops (codeAt Tryz.f51 [1, 1, 0, 1, 0, 0])) (fun s k => evalC zf117.C zf117.A n (codeAt Tryz.f51 [1, 1, 0, 1, 0, 0]) s k) m3 (St.of 36 100 [(0, .ptr 0 0 0), (3, .ptr 36 0 0), (5, .ptr 37 0 0), (6, .own 38), (7, .val (.int .i64) x7)] [(0, .box 136 [.val (.slice (.int .u8)) r0_0, .val (.int .i64) r0_1]), (36, .box 41 [.val (.slice (.int .i64)) r36_0, .val (.slice zt8) r36_1, .val (.int .i64) r36_2, .val (.int .i64) r36_3, .val (.int .i64) r36_4]), (37, .box 41 [.nils, .nils, .val (.int .i64) r37_2, .val (.int .i64) r37_3, .val (.int .i64) r37_4]), (38, .row zt1 28 r38)] [0]) (zf117.K2 n)
theorem zf117.eq (n : Nat) (x0 : List Int × Int) (x1 : List Int × List zt19 × Int × Int × Int) : zf117 n (x0, x1) = ((zf109 n ((x0.1, x0.2), List.set (List.set (List.set (List.set (List.set (List.set (List.replicate 6 0) 0 8) 1 12) 2 5) 3 18) 4 0) 5 2)).bind fun y0 => zf117.l3 n n y0.1 y0.2.1 y0.2.2 x1.1 x1.2.1 x1.2.2.1 x1.2.2.2.1 x1.2.2.2.2 (0) (0) (0) (List.replicate 0 (0, 0, 0, 0, [], 0, 0))) := by kernel_rfl
theorem zf117.l3_succ (n m3 : Nat) (x7 : Int) (r0_0 : List Int) (r0_1 : Int) (r36_0 : List Int) (r36_1 : List zt19) (r36_2 r36_3 : Int) (r36_4 r37_2 : Int) (r37_3 r37_4 : Int) (r38 : List zt14) : zf117.l3 n (m3 + 1) x7 r0_0 r0_1 r36_0 r36_1 r36_2 r36_3 r36_4 r37_2 r37_3 r37_4 r38 = (if x7 > 0 then ((zf118 n ((r0_0, r0_1), r36_0, r36_1, r36_2, r36_3, r36_4)).bind fun y1 => ((zf80 n ((r36_0, r36_1, r36_2, r36_3, r36_4), y1.1.1, y1.1.2.1, y1.1.2.2.1, y1.1.2.2.2.1, y1.1.2.2.2.2.1, y1.1.2.2.2.2.2.1, y1.1.2.2.2.2.2.2)).bind fun y2 => (if y2.2 = true then (if List.length r38 + List.length (List.set (List.replicate (1 : Nat) ((0 : Int), (0 : Int), (0 : Int), (0 : Int), [], (0 : Int), (0 : Int))) (0 : Nat) (y1.1.1, y1.1.2.1, y1.1.2.2.1, y1.1.2.2.2.1, y1.1.2.2.2.2.1, y1.1.2.2.2.2.2.1, y1.1.2.2.2.2.2.2)) ≤ Go.Refl.maxN then zf117.l3 n m3 (Go.RowKit.wrap64 (x7 - 1)) y1.2.1 y1.2.2 y2.1.1 y2.1.2.1 y2.1.2.2.1 y2.1.2.2.2.1 y2.1.2.2.2.2 (r37_2) (r37_3) (r37_4) (r38 ++ List.set (List.replicate 1 (0, 0, 0, 0, [], 0, 0)) 0 (y1.1.1, y1.1.2.1, y1.1.2.2.1, y1.1.2.2.2.1, y1.1.2.2.2.2.1, y1.1.2.2.2.2.2.1, y1.1.2.2.2.2.2.2)) else none) else zf117.l3 n m3 (Go.RowKit.wrap64 (x7 - 1)) y1.2.1 y1.2.2 (r36_0) (r36_1) (r36_2) (r36_3) (r36_4) (r37_2) (r37_3) (r37_4) (r38)))) else some ((r38, (r36_0, r36_1, r36_2, r36_3, r36_4), r0_0, r0_1))) := by kernel_rfl
noncomputable abbrev zf117.sg (n : Nat) : Sig := ⟨zf117.ps, zf117.res, zf117 n⟩
theorem zf117.call : Callable Tryz.prog 51 := ⟨Tryz.f51, Tryz.func51, by kernel_rfl, by kernel_rfl⟩
theorem zf117.ok (n : Nat) : FC Tryz.prog [] 51 (zf117.sg n) :=
  evalF_ok (C := zf117.C) ⟨tb_ok, fun n _ _ h => tabOk (l := [(69, (zf109.sg n)), (54, (zf118.sg n)), (72, (zf80.sg n))]) (all_cons ⟨zf109.ok n, zf109.call⟩ (all_cons ⟨zf118.ok n, zf118.call⟩ (all_cons ⟨zf80.ok n, zf80.call⟩ (all_nil)))) h, mixed, ar_ok, bld_ok, pts_ok⟩ zf117.A Tryz.func51 zf117.ps zf117.res n
abbrev zf78.ps : List Pm := [.box 136 (.v (.pair (.slice (.int .u8)) (.int .i64)))]
abbrev zf78.res : List M := [.v zt0, .v (.slice zt1)]
noncomputable def zf78.C : Cfg := { tb := tb, tab := fun n f => Refl.look [(52, (zf90.sg n)), (51, (zf117.sg n)), (55, (zf110.sg n)), (69, (zf109.sg n))] f, gl := [], ar := ar, bld := bld, pts := pts }
noncomputable def zf78.A : Ann := { joins := [], loops := [], ids := [(1, [(8, [])]), (4, [(19, [])]), (8, [(30, []), (32, []), (33, [])]), (10, [(42, []), (44, []), (45, [])])], pids := [], nroots := 114 }
noncomputable def zf78 (n : Nat) (x : List Int × Int) : Option (zt10 × List zt14 × List Int × Int) := evalF zf78.C zf78.A Tryz.f74 zf78.ps zf78.res n x
theorem zf78.eq (n : Nat) (x0 : List Int × Int) : zf78 n x0 = ((zf90 n (x0.1, x0.2)).bind fun y0 => ((zf117 n ((y0.2.1, y0.2.2), y0.1.1, y0.1.2.1, y0.1.2.2.1, y0.1.2.2.2.1, y0.1.2.2.2.2)).bind fun y1 => (if (↑(List.length y1.1) : Int) > 1 then ((zf110 n ((y1.2.2.1, y1.2.2.2), 10)).bind fun y2 => (if y2.1 = 0 then (if 1 ≤ (↑(List.length y1.1) : Int) then some (((y0.1.1, y0.1.2.1, y0.1.2.2.1, y0.1.2.2.2.1, y0.1.2.2.2.2), List.take (List.length y1.1 - Int.toNat 1) (List.drop (Int.toNat 1) y1.1), y2.2.1, y2.2.2)) else none) else (if y2.1 = 1 then ((zf110 n ((y2.2.1, y2.2.2), (↑(List.length y1.1) : Int))).bind fun y3 => ((zf109 n ((y3.2.1, y3.2.2), List.set (List.set (List.set (List.replicate 3 0) 0 (-1)) 1 100) 2 1)).bind fun y4 => (if 0 ≤ y3.1 then (if y3.1 < (↑(List.length y1.1) : Int) then some (((y0.1.1, y0.1.2.1, y0.1.2.2.1, y0.1.2.2.2.1, y0.1.2.2.2.2), List.set y1.1 (Int.toNat y3.1) (Prod.fst (List.getD y1.1 (Int.toNat y3.1) (0, 0, 0, 0, [], 0, 0)), y4.1, Prod.snd (Prod.snd (List.getD y1.1 (Int.toNat y3.1) (0, 0, 0, 0, [], 0, 0)))), y4.2.1, y4.2.2)) else none) else none))) else (if y2.1 = 2 then ((zf110 n ((y2.2.1, y2.2.2), (↑(List.length y1.1) : Int))).bind fun y5 => ((zf109 n ((y5.2.1, y5.2.2), List.set (List.set (List.set (List.replicate 3 0) 0 (-1)) 1 1000001) 2 3)).bind fun y6 => (if 0 ≤ y5.1 then (if y5.1 < (↑(List.length y1.1) : Int) then some (((y0.1.1, y0.1.2.1, y0.1.2.2.1, y0.1.2.2.2.1, y0.1.2.2.2.2), List.set y1.1 (Int.toNat y5.1) (Prod.fst (List.getD y1.1 (Int.toNat y5.1) (0, 0, 0, 0, [], 0, 0)), Prod.fst (Prod.snd (List.getD y1.1 (Int.toNat y5.1) (0, 0, 0, 0, [], 0, 0))), y6.1, Prod.snd (Prod.snd (Prod.snd (List.getD y1.1 (Int.toNat y5.1) (0, 0, 0, 0, [], 0, 0))))), y6.2.1, y6.2.2)) else none) else none))) else some (((y0.1.1, y0.1.2.1, y0.1.2.2.1, y0.1.2.2.2.1, y0.1.2.2.2.2), y1.1, y2.2.1, y2.2.2)))))) else some (((y0.1.1, y0.1.2.1, y0.1.2.2.1, y0.1.2.2.2.1, y0.1.2.2.2.2), y1.1, y1.2.2.1, y1.2.2.2))))) := by kernel_rfl
noncomputable abbrev zf78.sg (n : Nat) : Sig := ⟨zf78.ps, zf78.res, zf78 n⟩
theorem zf78.call : Callable Tryz.prog 74 := ⟨Tryz.f74, Tryz.func74, by kernel_rfl, by kernel_rfl⟩
theorem zf78.ok (n : Nat) : FC Tryz.prog [] 74 (zf78.sg n) :=
  evalF_ok (C := zf78.C) ⟨tb_ok, fun n _ _ h => tabOk (l := [(52, (zf90.sg n)), (51, (zf117.sg n)), (55, (zf110.sg n)), (69, (zf109.sg n))]) (all_cons ⟨zf90.ok n, zf90.call⟩ (all_cons ⟨zf117.ok n, zf117.call⟩ (all_cons ⟨zf110.ok n, zf110.call⟩ (all_cons ⟨zf109.ok n, zf109.call⟩ (all_nil))))) h, mixed, ar_ok, bld_ok, pts_ok⟩ zf78.A Tryz.func74 zf78.ps zf78.res n
abbrev zf71.ps : List Pm := [.arg (.v (.slice (.int .u8)))]
abbrev zf71.res : List M := [.v zt0, .v (.slice zt1)]
noncomputable def zf71.C : Cfg := { tb := tb, tab := fun n f => Refl.look [(50, (zf99.sg n)), (74, (zf78.sg n))] f, gl := [], ar := ar, bld := bld, pts := pts }
noncomputable def zf71.A : Ann := { joins := [], loops := [], ids := [(1, [(6, [])])], pids := [], nroots := 73 }
noncomputable def zf71 (n : Nat) (x : List Int) : Option (zt10 × List zt14) := evalF zf71.C zf71.A Tryz.f27 zf71.ps zf71.res n x
theorem zf71.eq (n : Nat) (x0 : List Int) : zf71 n x0 = ((zf99 n x0).bind fun y0 => ((zf78 n (y0.1, y0.2)).bind fun y1 => some (((y1.1.1, y1.1.2.1, y1.1.2.2.1, y1.1.2.2.2.1, y1.1.2.2.2.2), y1.2.1)))) := by kernel_rfl
noncomputable abbrev zf71.sg (n : Nat) : Sig := ⟨zf71.ps, zf71.res, zf71 n⟩
theorem zf71.call : Callable Tryz.prog 27 := ⟨Tryz.f27, Tryz.func27, by kernel_rfl, by kernel_rfl⟩
theorem zf71.ok (n : Nat) : FC Tryz.prog [] 27 (zf71.sg n) :=
  evalF_ok (C := zf71.C) ⟨tb_ok, fun n _ _ h => tabOk (l := [(50, (zf99.sg n)), (74, (zf78.sg n))]) (all_cons ⟨zf99.ok n, zf99.call⟩ (all_cons ⟨zf78.ok n, zf78.call⟩ (all_nil))) h, mixed, ar_ok, bld_ok, pts_ok⟩ zf71.A Tryz.func27 zf71.ps zf71.res n
abbrev zf28.ps : List Pm := [.arg (.v (.slice (.int .i64))), .arg (.v (.int .i64)), .arg (.v (.int .i64))]
abbrev zf28.res : List M := [.v .bool]
noncomputable def zf28.C : Cfg := { tb := tb, tab := fun n f => Refl.look [] f, gl := [], ar := ar, bld := bld, pts := pts }
noncomputable def zf28.A : Ann := { joins := [], loops := [(2, { live := [1, 2, 9, 10, 11], base := 24 })], ids := [], pids := [], nroots := 88 }
noncomputable def zf28 (n : Nat) (x : List Int × Int × Int) : Option (Bool) := evalF zf28.C zf28.A Tryz.f165 zf28.ps zf28.res n x
noncomputable def zf28.K0 (_ : Nat) : Kont (Bool) := finK zf28.C (Func.results Tryz.f165).toList zf28.ps zf28.res
noncomputable def zf28.K1 (n : Nat) : Kont (Bool) := seqK (fun s' k => joinE zf28.A.joins (codeAt Tryz.f165 [1, 1]) (fun s'' => evalC zf28.C zf28.A n (codeAt Tryz.f165 [1, 1]) s'' k) s') (zf28.K0 n)
noncomputable def zf28.K2 (n : Nat) : Kont (Bool) := blockK 0 (zf28.K1 n)
noncomputable def zf28.l2 (n m2 : Nat) (x1 x2 : Int) (x9 : List Int) (x10 x11 : Int) : Option (Bool) := loopE (cutAt zf28.A.loops (codeAt Tryz.f165 [1, 0, 1, 0, 0])) (fun s k => evalC zf28.C zf28.A n (codeAt Tryz.f165 [1, 0, 1, 0, 0]) s k) m2 (St.of 24 88 [(1, .val (.int .i64) x1), (2, .val (.int .i64) x2), (9, .val (.slice (.int .i64)) x9), (10, .val (.int .i64) x10), (11, .val (.int .i64) x11)] [] []) (zf28.K2 n)
theorem zf28.eq (n : Nat) (x0 : List Int) (x1 x2 : Int) : zf28 n (x0, x1, x2) = zf28.l2 n n (x1) (x2) (x0) ((↑(List.length x0) : Int)) (0) := by kernel_rfl
theorem zf28.l2_succ (n m2 : Nat) (x1 x2 : Int) (x9 : List Int) (x10 x11 : Int) : zf28.l2 n (m2 + 1) x1 x2 x9 x10 x11 = (if x11 < x10 then (if 0 ≤ x11 then (if x11 < (↑(List.length x9) : Int) then (if List.getD x9 (Int.toNat x11) 0 < x1 then some (Bool.false) else (if List.getD x9 (Int.toNat x11) 0 > x2 then some (Bool.false) else zf28.l2 n m2 (x1) (x2) (x9) (x10) (Go.RowKit.wrap64 (x11 + 1)))) else none) else none) else some (Bool.true)) := by kernel_rfl
noncomputable abbrev zf28.sg (n : Nat) : Sig := ⟨zf28.ps, zf28.res, zf28 n⟩
theorem zf28.call : Callable Tryz.prog 165 := ⟨Tryz.f165, Tryz.func165, by kernel_rfl, by kernel_rfl⟩
theorem zf28.ok (n : Nat) : FC Tryz.prog [] 165 (zf28.sg n) :=
  evalF_ok (C := zf28.C) ⟨tb_ok, fun n _ _ h => tabOk (l := []) (all_nil) h, mixed, ar_ok, bld_ok, pts_ok⟩ zf28.A Tryz.func165 zf28.ps zf28.res n
abbrev zf42.ps : List Pm := [.arg (.v (.slice (.int .i64)))]
abbrev zf42.res : List M := [.v .bool]
noncomputable def zf42.C : Cfg := { tb := tb, tab := fun n f => Refl.look [(165, (zf28.sg n))] f, gl := [], ar := ar, bld := bld, pts := pts }
noncomputable def zf42.A : Ann := { joins := [], loops := [], ids := [(1, [(13, [])])], pids := [], nroots := 79 }
noncomputable def zf42 (n : Nat) (x : List Int) : Option (Bool) := evalF zf42.C zf42.A Tryz.f99 zf42.ps zf42.res n x
theorem zf42.eq (n : Nat) (x0 : List Int) : zf42 n x0 = (if (↑(List.length x0) : Int) ≥ 1 then (if (↑(List.length x0) : Int) ≤ 12 then ((zf28 n (x0, 0, 100000)).bind fun y0 => some (y0)) else some (Bool.false)) else some (Bool.false)) := by kernel_rfl
noncomputable abbrev zf42.sg (n : Nat) : Sig := ⟨zf42.ps, zf42.res, zf42 n⟩
theorem zf42.call : Callable Tryz.prog 99 := ⟨Tryz.f99, Tryz.func99, by kernel_rfl, by kernel_rfl⟩
theorem zf42.ok (n : Nat) : FC Tryz.prog [] 99 (zf42.sg n) :=
  evalF_ok (C := zf42.C) ⟨tb_ok, fun n _ _ h => tabOk (l := [(165, (zf28.sg n))]) (all_cons ⟨zf28.ok n, zf28.call⟩ (all_nil)) h, mixed, ar_ok, bld_ok, pts_ok⟩ zf42.A Tryz.func99 zf42.ps zf42.res n
abbrev zf31.ps : List Pm := [.arg (.v (.slice (.int .i64))), .arg (.v (.int .i64))]
abbrev zf31.res : List M := [.v .bool]
noncomputable def zf31.C : Cfg := { tb := tb, tab := fun n f => Refl.look [] f, gl := [], ar := ar, bld := bld, pts := pts }
noncomputable def zf31.A : Ann := { joins := [], loops := [(5, { live := [1, 5, 14, 15, 16], base := 37 })], ids := [], pids := [], nroots := 101 }
noncomputable def zf31 (n : Nat) (x : List Int × Int) : Option (Bool) := evalF zf31.C zf31.A Tryz.f166 zf31.ps zf31.res n x
noncomputable def zf31.K0 (_ : Nat) : Kont (Bool) := finK zf31.C (Func.results Tryz.f166).toList zf31.ps zf31.res
noncomputable def zf31.K1 (n : Nat) : Kont (Bool) := seqK (fun s' k => joinE zf31.A.joins (codeAt Tryz.f166 [1, 1, 1, 1]) (fun s'' => evalC zf31.C zf31.A n (codeAt Tryz.f166 [1, 1, 1, 1]) s'' k) s') (zf31.K0 n)
noncomputable def zf31.K2 (n : Nat) : Kont (Bool) := blockK 0 (zf31.K1 n)
noncomputable def zf31.l5 (n m5 : Nat) (x1 : Int) (x14 : List Int) (x15 x16 : Int) (r37 : List Bool) : Option (Bool) := loopE (cutAt zf31.A.loops (codeAt Tryz.f166 [1, 1, 1, 0, 1, 0, 0])) (fun s k => evalC zf31.C zf31.A n (codeAt Tryz.f166 [1, 1, 1, 0, 1, 0, 0]) s k) m5 (St.of 37 101 [(1, .val (.int .i64) x1), (5, .own 37), (14, .val (.slice (.int .i64)) x14), (15, .val (.int .i64) x15), (16, .val (.int .i64) x16)] [(37, .row .bool 4 r37)] []) (zf31.K2 n)
theorem zf31.eq (n : Nat) (x0 : List Int) (x1 : Int) : zf31 n (x0, x1) = (if (↑(List.length x0) : Int) > x1 then some (Bool.false) else (if 0 ≤ x1 then (if x1 ≤ x1 then (if x1 ≤ (↑Go.Refl.maxN : Int) then zf31.l5 n n (x1) (x0) ((↑(List.length x0) : Int)) (0) (List.replicate (Int.toNat x1) Bool.false) else none) else none) else none)) := by kernel_rfl
theorem zf31.l5_succ (n m5 : Nat) (x1 : Int) (x14 : List Int) (x15 x16 : Int) (r37 : List Bool) : zf31.l5 n (m5 + 1) x1 x14 x15 x16 r37 = (if x16 < x15 then (if 0 ≤ x16 then (if x16 < (↑(List.length x14) : Int) then (if List.getD x14 (Int.toNat x16) 0 < 0 then some (Bool.false) else (if List.getD x14 (Int.toNat x16) 0 ≥ x1 then some (Bool.false) else (if 0 ≤ List.getD x14 (Int.toNat x16) 0 then (if List.getD x14 (Int.toNat x16) 0 < (↑(List.length r37) : Int) then (if (List.getD r37 (Int.toNat (List.getD x14 (Int.toNat x16) 0)) Bool.false) = true then some (Bool.false) else (if 0 ≤ List.getD x14 (Int.toNat x16) 0 then (if List.getD x14 (Int.toNat x16) 0 < (↑(List.length r37) : Int) then zf31.l5 n m5 (x1) (x14) (x15) (Go.RowKit.wrap64 (x16 + 1)) (List.set r37 (Int.toNat (List.getD x14 (Int.toNat x16) 0)) Bool.true) else none) else none)) else none) else none))) else none) else none) else some (Bool.true)) := by kernel_rfl
noncomputable abbrev zf31.sg (n : Nat) : Sig := ⟨zf31.ps, zf31.res, zf31 n⟩
theorem zf31.call : Callable Tryz.prog 166 := ⟨Tryz.f166, Tryz.func166, by kernel_rfl, by kernel_rfl⟩
theorem zf31.ok (n : Nat) : FC Tryz.prog [] 166 (zf31.sg n) :=
  evalF_ok (C := zf31.C) ⟨tb_ok, fun n _ _ h => tabOk (l := []) (all_nil) h, mixed, ar_ok, bld_ok, pts_ok⟩ zf31.A Tryz.func166 zf31.ps zf31.res n
abbrev zf65.ps : List Pm := [.arg (.v (.slice (.int .i64))), .arg (.v (.int .i64))]
abbrev zf65.res : List M := [.v (.int .i64)]
noncomputable def zf65.C : Cfg := { tb := tb, tab := fun n f => Refl.look [] f, gl := [], ar := ar, bld := bld, pts := pts }
noncomputable def zf65.A : Ann := { joins := [], loops := [(2, { live := [0, 1, 7, 8], base := 19 })], ids := [], pids := [], nroots := 83 }
noncomputable def zf65 (n : Nat) (x : List Int × Int) : Option (Int) := evalF zf65.C zf65.A Tryz.f199 zf65.ps zf65.res n x
noncomputable def zf65.K0 (_ : Nat) : Kont (Int) := finK zf65.C (Func.results Tryz.f199).toList zf65.ps zf65.res
noncomputable def zf65.K1 (n : Nat) : Kont (Int) := seqK (fun s' k => joinE zf65.A.joins (codeAt Tryz.f199 [1, 1]) (fun s'' => evalC zf65.C zf65.A n (codeAt Tryz.f199 [1, 1]) s'' k) s') (zf65.K0 n)
noncomputable def zf65.K2 (n : Nat) : Kont (Int) := blockK 0 (zf65.K1 n)
noncomputable def zf65.l2 (n m2 : Nat) (x0 : List Int) (x1 x7 x8 : Int) : Option (Int) := loopE (cutAt zf65.A.loops (codeAt Tryz.f199 [1, 0, 1, 0, 0])) (fun s k => evalC zf65.C zf65.A n (codeAt Tryz.f199 [1, 0, 1, 0, 0]) s k) m2 (St.of 19 83 [(0, .val (.slice (.int .i64)) x0), (1, .val (.int .i64) x1), (7, .val (.int .i64) x7), (8, .val (.int .i64) x8)] [] []) (zf65.K2 n)
theorem zf65.eq (n : Nat) (x0 : List Int) (x1 : Int) : zf65 n (x0, x1) = zf65.l2 n n (x0) (x1) ((↑(List.length x0) : Int)) (0) := by kernel_rfl
theorem zf65.l2_succ (n m2 : Nat) (x0 : List Int) (x1 x7 x8 : Int) : zf65.l2 n (m2 + 1) x0 x1 x7 x8 = (if x8 < x7 then (if 0 ≤ x8 then (if x8 < (↑(List.length x0) : Int) then (if x1 = List.getD x0 (Int.toNat x8) 0 then some (x8) else zf65.l2 n m2 (x0) (x1) (x7) (Go.RowKit.wrap64 (x8 + 1))) else none) else none) else some ((-1))) := by kernel_rfl
noncomputable abbrev zf65.sg (n : Nat) : Sig := ⟨zf65.ps, zf65.res, zf65 n⟩
theorem zf65.call : Callable Tryz.prog 199 := ⟨Tryz.f199, Tryz.func199, by kernel_rfl, by kernel_rfl⟩
theorem zf65.ok (n : Nat) : FC Tryz.prog [] 199 (zf65.sg n) :=
  evalF_ok (C := zf65.C) ⟨tb_ok, fun n _ _ h => tabOk (l := []) (all_nil) h, mixed, ar_ok, bld_ok, pts_ok⟩ zf65.A Tryz.func199 zf65.ps zf65.res n
abbrev zf61.ps : List Pm := [.arg (.v (.slice (.int .i64))), .arg (.v (.int .i64))]
abbrev zf61.res : List M := [.v .bool]
noncomputable def zf61.C : Cfg := { tb := tb, tab := fun n f => Refl.look [(199, (zf65.sg n))] f, gl := [], ar := ar, bld := bld, pts := pts }
noncomputable def zf61.A : Ann := { joins := [], loops := [], ids := [(1, [(7, [])])], pids := [], nroots := 73 }
noncomputable def zf61 (n : Nat) (x : List Int × Int) : Option (Bool) := evalF zf61.C zf61.A Tryz.f157 zf61.ps zf61.res n x
theorem zf61.eq (n : Nat) (x0 : List Int) (x1 : Int) : zf61 n (x0, x1) = ((zf65 n (x0, x1)).bind fun y0 => some (Decidable.decide (y0 ≥ 0))) := by kernel_rfl
noncomputable abbrev zf61.sg (n : Nat) : Sig := ⟨zf61.ps, zf61.res, zf61 n⟩
theorem zf61.call : Callable Tryz.prog 157 := ⟨Tryz.f157, Tryz.func157, by kernel_rfl, by kernel_rfl⟩
theorem zf61.ok (n : Nat) : FC Tryz.prog [] 157 (zf61.sg n) :=
  evalF_ok (C := zf61.C) ⟨tb_ok, fun n _ _ h => tabOk (l := [(199, (zf65.sg n))]) (all_cons ⟨zf65.ok n, zf65.call⟩ (all_nil)) h, mixed, ar_ok, bld_ok, pts_ok⟩ zf61.A Tryz.func157 zf61.ps zf61.res n
abbrev zf26.ps : List Pm := [.arg (.v (.slice zt8)), .arg (.v (.int .i64))]
abbrev zf26.res : List M := [.v .bool]
noncomputable def zf26.C : Cfg := { tb := tb, tab := fun n f => Refl.look [(166, (zf31.sg n)), (157, (zf61.sg n))] f, gl := [], ar := ar, bld := bld, pts := pts }
noncomputable def zf26.A : Ann := { joins := [], loops := [(4, { live := [1, 18, 19, 20], base := 62 })], ids := [(8, [(51, []), (59, [])])], pids := [], nroots := 126 }
noncomputable def zf26 (n : Nat) (x : List zt19 × Int) : Option (Bool) := evalF zf26.C zf26.A Tryz.f100 zf26.ps zf26.res n x
noncomputable def zf26.K0 (_ : Nat) : Kont (Bool) := finK zf26.C (Func.results Tryz.f100).toList zf26.ps zf26.res
noncomputable def zf26.K1 (n : Nat) : Kont (Bool) := seqK (fun s' k => joinE zf26.A.joins (codeAt Tryz.f100 [1, 1, 1]) (fun s'' => evalC zf26.C zf26.A n (codeAt Tryz.f100 [1, 1, 1]) s'' k) s') (zf26.K0 n)
noncomputable def zf26.K2 (n : Nat) : Kont (Bool) := blockK 0 (zf26.K1 n)
noncomputable def zf26.l4 (n m4 : Nat) (x1 : Int) (x18 : List zt19) (x19 x20 : Int) : Option (Bool) := loopE (cutAt zf26.A.loops (codeAt Tryz.f100 [1, 1, 0, 1, 0, 0])) (fun s k => evalC zf26.C zf26.A n (codeAt Tryz.f100 [1, 1, 0, 1, 0, 0]) s k) m4 (St.of 62 126 [(1, .val (.int .i64) x1), (18, .val (.slice zt8) x18), (19, .val (.int .i64) x19), (20, .val (.int .i64) x20)] [] []) (zf26.K2 n)
theorem zf26.eq (n : Nat) (x0 : List zt19) (x1 : Int) : zf26 n (x0, x1) = (if (↑(List.length x0) : Int) > 16 then some (Bool.false) else (if x1 < 1 then some (Bool.false) else (if x1 > 12 then some (Bool.false) else zf26.l4 n n (x1) (x0) ((↑(List.length x0) : Int)) (0)))) := by kernel_rfl
theorem zf26.l4_succ (n m4 : Nat) (x1 : Int) (x18 : List zt19) (x19 x20 : Int) : zf26.l4 n (m4 + 1) x1 x18 x19 x20 = (if x20 < x19 then (if 0 ≤ x20 then (if x20 < (↑(List.length x18) : Int) then (if Prod.fst (List.getD x18 (Int.toNat x20) (0, 0, [])) < 0 then some (Bool.false) else (if Prod.fst (List.getD x18 (Int.toNat x20) (0, 0, [])) ≥ x1 then some (Bool.false) else (if Prod.fst (Prod.snd (List.getD x18 (Int.toNat x20) (0, 0, []))) < 1 then some (Bool.false) else (if Prod.fst (Prod.snd (List.getD x18 (Int.toNat x20) (0, 0, []))) > 100000 then some (Bool.false) else (if (↑(List.length (Prod.snd (Prod.snd (List.getD x18 (Int.toNat x20) ((0 : Int), (0 : Int), []))))) : Int) < 1 then some (Bool.false) else ((zf31 n (Prod.snd (Prod.snd (List.getD x18 (Int.toNat x20) (0, 0, []))), x1)).bind fun y0 => (if (!y0) = Bool.true then some (Bool.false) else ((zf61 n (Prod.snd (Prod.snd (List.getD x18 (Int.toNat x20) (0, 0, []))), Prod.fst (List.getD x18 (Int.toNat x20) (0, 0, [])))).bind fun y1 => (if (y1) = true then some (Bool.false) else zf26.l4 n m4 (x1) (x18) (x19) (Go.RowKit.wrap64 (x20 + 1))))))))))) else none) else none) else some (Bool.true)) := by kernel_rfl
noncomputable abbrev zf26.sg (n : Nat) : Sig := ⟨zf26.ps, zf26.res, zf26 n⟩
theorem zf26.call : Callable Tryz.prog 100 := ⟨Tryz.f100, Tryz.func100, by kernel_rfl, by kernel_rfl⟩
theorem zf26.ok (n : Nat) : FC Tryz.prog [] 100 (zf26.sg n) :=
  evalF_ok (C := zf26.C) ⟨tb_ok, fun n _ _ h => tabOk (l := [(166, (zf31.sg n)), (157, (zf61.sg n))]) (all_cons ⟨zf31.ok n, zf31.call⟩ (all_cons ⟨zf61.ok n, zf61.call⟩ (all_nil))) h, mixed, ar_ok, bld_ok, pts_ok⟩ zf26.A Tryz.func100 zf26.ps zf26.res n
abbrev zf33.ps : List Pm := [.arg (.v (.slice zt8))]
abbrev zf33.res : List M := [.v (.int .i64)]
noncomputable def zf33.C : Cfg := { tb := tb, tab := fun n f => Refl.look [] f, gl := [], ar := ar, bld := bld, pts := pts }
noncomputable def zf33.A : Ann := { joins := [], loops := [(3, { live := [3, 6, 7, 8], base := 18 })], ids := [], pids := [], nroots := 82 }
noncomputable def zf33 (n : Nat) (x : List zt19) : Option (Int) := evalF zf33.C zf33.A Tryz.f78 zf33.ps zf33.res n x
noncomputable def zf33.K0 (_ : Nat) : Kont (Int) := finK zf33.C (Func.results Tryz.f78).toList zf33.ps zf33.res
noncomputable def zf33.K1 (n : Nat) : Kont (Int) := seqK (fun s' k => joinE zf33.A.joins (codeAt Tryz.f78 [1, 1, 1]) (fun s'' => evalC zf33.C zf33.A n (codeAt Tryz.f78 [1, 1, 1]) s'' k) s') (zf33.K0 n)
noncomputable def zf33.K2 (n : Nat) : Kont (Int) := blockK 0 (zf33.K1 n)
noncomputable def zf33.l3 (n m3 : Nat) (x3 : Int) (x6 : List zt19) (x7 x8 : Int) : Option (Int) := loopE (cutAt zf33.A.loops (codeAt Tryz.f78 [1, 1, 0, 1, 0, 0])) (fun s k => evalC zf33.C zf33.A n (codeAt Tryz.f78 [1, 1, 0, 1, 0, 0]) s k) m3 (St.of 18 82 [(3, .val (.int .i64) x3), (6, .val (.slice zt8) x6), (7, .val (.int .i64) x7), (8, .val (.int .i64) x8)] [] []) (zf33.K2 n)
theorem zf33.eq (n : Nat) (x0 : List zt19) : zf33 n x0 = zf33.l3 n n (0) (x0) ((↑(List.length x0) : Int)) (0) := by kernel_rfl
theorem zf33.l3_succ (n m3 : Nat) (x3 : Int) (x6 : List zt19) (x7 x8 : Int) : zf33.l3 n (m3 + 1) x3 x6 x7 x8 = (if x8 < x7 then (if 0 ≤ x8 then (if x8 < (↑(List.length x6) : Int) then zf33.l3 n m3 (Go.RowKit.wrap64 (x3 + Prod.fst (Prod.snd (List.getD x6 (Int.toNat x8) (0, 0, []))))) (x6) (x7) (Go.RowKit.wrap64 (x8 + 1)) else none) else none) else some (x3)) := by kernel_rfl
noncomputable abbrev zf33.sg (n : Nat) : Sig := ⟨zf33.ps, zf33.res, zf33 n⟩
theorem zf33.call : Callable Tryz.prog 78 := ⟨Tryz.f78, Tryz.func78, by kernel_rfl, by kernel_rfl⟩
theorem zf33.ok (n : Nat) : FC Tryz.prog [] 78 (zf33.sg n) :=
  evalF_ok (C := zf33.C) ⟨tb_ok, fun n _ _ h => tabOk (l := []) (all_nil) h, mixed, ar_ok, bld_ok, pts_ok⟩ zf33.A Tryz.func78 zf33.ps zf33.res n
abbrev zf39.ps : List Pm := [.arg (.v (.slice (.int .i64)))]
abbrev zf39.res : List M := [.v (.int .i64)]
noncomputable def zf39.C : Cfg := { tb := tb, tab := fun n f => Refl.look [] f, gl := [], ar := ar, bld := bld, pts := pts }
noncomputable def zf39.A : Ann := { joins := [], loops := [(3, { live := [3, 6, 7, 8], base := 17 })], ids := [], pids := [], nroots := 81 }
noncomputable def zf39 (n : Nat) (x : List Int) : Option (Int) := evalF zf39.C zf39.A Tryz.f77 zf39.ps zf39.res n x
noncomputable def zf39.K0 (_ : Nat) : Kont (Int) := finK zf39.C (Func.results Tryz.f77).toList zf39.ps zf39.res
noncomputable def zf39.K1 (n : Nat) : Kont (Int) := seqK (fun s' k => joinE zf39.A.joins (codeAt Tryz.f77 [1, 1, 1]) (fun s'' => evalC zf39.C zf39.A n (codeAt Tryz.f77 [1, 1, 1]) s'' k) s') (zf39.K0 n)
noncomputable def zf39.K2 (n : Nat) : Kont (Int) := blockK 0 (zf39.K1 n)
noncomputable def zf39.l3 (n m3 : Nat) (x3 : Int) (x6 : List Int) (x7 x8 : Int) : Option (Int) := loopE (cutAt zf39.A.loops (codeAt Tryz.f77 [1, 1, 0, 1, 0, 0])) (fun s k => evalC zf39.C zf39.A n (codeAt Tryz.f77 [1, 1, 0, 1, 0, 0]) s k) m3 (St.of 17 81 [(3, .val (.int .i64) x3), (6, .val (.slice (.int .i64)) x6), (7, .val (.int .i64) x7), (8, .val (.int .i64) x8)] [] []) (zf39.K2 n)
theorem zf39.eq (n : Nat) (x0 : List Int) : zf39 n x0 = zf39.l3 n n (0) (x0) ((↑(List.length x0) : Int)) (0) := by kernel_rfl
theorem zf39.l3_succ (n m3 : Nat) (x3 : Int) (x6 : List Int) (x7 x8 : Int) : zf39.l3 n (m3 + 1) x3 x6 x7 x8 = (if x8 < x7 then (if 0 ≤ x8 then (if x8 < (↑(List.length x6) : Int) then zf39.l3 n m3 (Go.RowKit.wrap64 (x3 + List.getD x6 (Int.toNat x8) 0)) (x6) (x7) (Go.RowKit.wrap64 (x8 + 1)) else none) else none) else some (x3)) := by kernel_rfl
noncomputable abbrev zf39.sg (n : Nat) : Sig := ⟨zf39.ps, zf39.res, zf39 n⟩
theorem zf39.call : Callable Tryz.prog 77 := ⟨Tryz.f77, Tryz.func77, by kernel_rfl, by kernel_rfl⟩
theorem zf39.ok (n : Nat) : FC Tryz.prog [] 77 (zf39.sg n) :=
  evalF_ok (C := zf39.C) ⟨tb_ok, fun n _ _ h => tabOk (l := []) (all_nil) h, mixed, ar_ok, bld_ok, pts_ok⟩ zf39.A Tryz.func77 zf39.ps zf39.res n
abbrev zf25.ps : List Pm := [.arg (.v zt0)]
abbrev zf25.res : List M := [.v .bool]
noncomputable def zf25.C : Cfg := { tb := tb, tab := fun n f => Refl.look [(99, (zf42.sg n)), (100, (zf26.sg n)), (78, (zf33.sg n)), (77, (zf39.sg n))] f, gl := [], ar := ar, bld := bld, pts := pts }
noncomputable def zf25.A : Ann := { joins := [], loops := [], ids := [(1, [(5, []), (13, [])]), (5, [(47, []), (51, [])])], pids := [], nroots := 121 }
noncomputable def zf25 (n : Nat) (x : List Int × List zt19 × Int × Int × Int) : Option (Bool) := evalF zf25.C zf25.A Tryz.f41 zf25.ps zf25.res n x
theorem zf25.eq (n : Nat) (x0 : List Int × List zt19 × Int × Int × Int) : zf25 n x0 = ((zf42 n x0.1).bind fun y0 => (if (!y0) = Bool.true then some (Bool.false) else ((zf26 n (x0.2.1, (↑(List.length x0.1) : Int))).bind fun y1 => (if (!y1) = true then some (Bool.false) else (if x0.2.2.1 < 0 then some (Bool.false) else (if x0.2.2.1 > 1000000 then some (Bool.false) else (if x0.2.2.2.1 < (-1000000) then some (Bool.false) else (if x0.2.2.2.1 > 1000000 then some (Bool.false) else (if x0.2.2.2.2 ≥ 0 then (if x0.2.2.2.2 ≤ 999 then ((zf33 n x0.2.1).bind fun y2 => ((zf39 n x0.1).bind fun y3 => some (Decidable.decide (Go.RowKit.wrap64 (x0.2.2.1 + y2) = Go.RowKit.wrap64 (y3 + x0.2.2.2.1))))) else some (Bool.false)) else some (Bool.false)))))))))) := by kernel_rfl
noncomputable abbrev zf25.sg (n : Nat) : Sig := ⟨zf25.ps, zf25.res, zf25 n⟩
theorem zf25.call : Callable Tryz.prog 41 := ⟨Tryz.f41, Tryz.func41, by kernel_rfl, by kernel_rfl⟩
theorem zf25.ok (n : Nat) : FC Tryz.prog [] 41 (zf25.sg n) :=
  evalF_ok (C := zf25.C) ⟨tb_ok, fun n _ _ h => tabOk (l := [(99, (zf42.sg n)), (100, (zf26.sg n)), (78, (zf33.sg n)), (77, (zf39.sg n))]) (all_cons ⟨zf42.ok n, zf42.call⟩ (all_cons ⟨zf26.ok n, zf26.call⟩ (all_cons ⟨zf33.ok n, zf33.call⟩ (all_cons ⟨zf39.ok n, zf39.call⟩ (all_nil))))) h, mixed, ar_ok, bld_ok, pts_ok⟩ zf25.A Tryz.func41 zf25.ps zf25.res n
abbrev zf60.ps : List Pm := [.arg (.v (.slice (.int .i64)))]
abbrev zf60.res : List M := [(.own (.int .i64) 3)]
noncomputable def zf60.C : Cfg := { tb := tb, tab := fun n f => Refl.look [] f, gl := [], ar := ar, bld := bld, pts := pts }
noncomputable def zf60.A : Ann := { joins := [], loops := [], ids := [], pids := [], nroots := 72 }
noncomputable def zf60 (n : Nat) (x : List Int) : Option (List Int) := evalF zf60.C zf60.A Tryz.f130 zf60.ps zf60.res n x
theorem zf60.eq (n : Nat) (x0 : List Int) : zf60 n x0 = (if Int.toNat (↑(List.length x0) : Int) = 0 then Go.Refl.both (some ([])) ((if List.length (List.replicate (0 : Nat) (0 : Int)) + List.length x0 ≤ Go.Refl.maxN then some (List.replicate 0 0 ++ x0) else none)) else (if List.length (List.replicate (0 : Nat) (0 : Int)) + List.length x0 ≤ Go.Refl.maxN then some (List.replicate 0 0 ++ x0) else none)) := by kernel_rfl
noncomputable abbrev zf60.sg (n : Nat) : Sig := ⟨zf60.ps, zf60.res, zf60 n⟩
theorem zf60.call : Callable Tryz.prog 130 := ⟨Tryz.f130, Tryz.func130, by kernel_rfl, by kernel_rfl⟩
theorem zf60.ok (n : Nat) : FC Tryz.prog [] 130 (zf60.sg n) :=
  evalF_ok (C := zf60.C) ⟨tb_ok, fun n _ _ h => tabOk (l := []) (all_nil) h, mixed, ar_ok, bld_ok, pts_ok⟩ zf60.A Tryz.func130 zf60.ps zf60.res n
abbrev zf30.ps : List Pm := [.arg (.v (.slice zt8))]
abbrev zf30.res : List M := [(.own zt8 142)]
noncomputable def zf30.C : Cfg := { tb := tb, tab := fun n f => Refl.look [(130, { params := zf60.ps, res := [.v (.slice (.int .i64))], run := zf60 n })] f, gl := [], ar := ar, bld := bld, pts := pts }
noncomputable def zf30.A : Ann := { joins := [], loops := [(3, { live := [3, 6, 7, 8], base := 22, grow := [(3, 41, zt8, 142)] })], ids := [(5, [(14, [])]), (6, [(18, [])])], pids := [], nroots := 86 }
noncomputable def zf30 (n : Nat) (x : List zt19) : Option zt17 := evalF zf30.C zf30.A Tryz.f131 zf30.ps zf30.res n x
noncomputable def zf30.K0 (_ : Nat) : Kont zt17 := finK zf30.C (Func.results Tryz.f131).toList zf30.ps zf30.res
noncomputable def zf30.K1 (n : Nat) : Kont zt17 := seqK (fun s' k => joinE zf30.A.joins (codeAt Tryz.f131 [1, 1, 1]) (fun s'' => evalC zf30.C zf30.A n (codeAt Tryz.f131 [1, 1, 1]) s'' k) s') (zf30.K0 n)
noncomputable def zf30.K2 (n : Nat) : Kont zt17 := blockK 0 (zf30.K1 n)
noncomputable def zf30.l3 (n m3 : Nat) (x6 : List zt19) (x7 x8 : Int) (r22 : List zt19) : Option zt17 := loopE (cutAt zf30.A.loops (codeAt Tryz.f131 [1, 1, 0, 1, 0, 0])) (fun s k => evalC zf30.C zf30.A n (codeAt Tryz.f131 [1, 1, 0, 1, 0, 0]) s k) m3 (St.of 22 86 [(3, .own 22), (6, .val (.slice zt8) x6), (7, .val (.int .i64) x7), (8, .val (.int .i64) x8)] [(22, .row zt8 142 r22)] []) (zf30.K2 n)
theorem zf30.eq (n : Nat) (x0 : List zt19) : zf30 n x0 = zf30.l3 n n (x0) ((↑(List.length x0) : Int)) (0) ([]) := by kernel_rfl
theorem zf30.l3_succ (n m3 : Nat) (x6 : List zt19) (x7 x8 : Int) (r22 : List zt19) : zf30.l3 n (m3 + 1) x6 x7 x8 r22 = (if x8 < x7 then (if 0 ≤ x8 then (if x8 < (↑(List.length x6) : Int) then ((zf60 n (Prod.snd (Prod.snd (List.getD x6 (Int.toNat x8) (0, 0, []))))).bind fun y0 => (if List.length r22 + List.length (List.set (List.replicate (1 : Nat) ((0 : Int), (0 : Int), [])) (0 : Nat) (Prod.fst (List.getD x6 (Int.toNat x8) ((0 : Int), (0 : Int), [])), Prod.fst (Prod.snd (List.getD x6 (Int.toNat x8) ((0 : Int), (0 : Int), []))), y0)) ≤ Go.Refl.maxN then zf30.l3 n m3 (x6) (x7) (Go.RowKit.wrap64 (x8 + 1)) (r22 ++ List.set (List.replicate 1 (0, 0, [])) 0 (Prod.fst (List.getD x6 (Int.toNat x8) (0, 0, [])), Prod.fst (Prod.snd (List.getD x6 (Int.toNat x8) (0, 0, []))), y0)) else none)) else none) else none) else some (r22)) := by kernel_rfl
noncomputable abbrev zf30.sg (n : Nat) : Sig := ⟨zf30.ps, zf30.res, zf30 n⟩
theorem zf30.call : Callable Tryz.prog 131 := ⟨Tryz.f131, Tryz.func131, by kernel_rfl, by kernel_rfl⟩
theorem zf30.ok (n : Nat) : FC Tryz.prog [] 131 (zf30.sg n) :=
  evalF_ok (C := zf30.C) ⟨tb_ok, fun n _ _ h => tabOk (l := [(130, { params := zf60.ps, res := [.v (.slice (.int .i64))], run := zf60 n })]) (all_cons ⟨FC.weak (.cons (.own _ _) .nil) HEq.rfl (zf60.ok n), zf60.call⟩ (all_nil)) h, mixed, ar_ok, bld_ok, pts_ok⟩ zf30.A Tryz.func131 zf30.ps zf30.res n
abbrev zf29.ps : List Pm := [.arg (.v zt0)]
abbrev zf29.res : List M := [(.pr (.own (.int .i64) 3) (.pr (.own zt8 142) (.v zt13)))]
noncomputable def zf29.C : Cfg := { tb := tb, tab := fun n f => Refl.look [(130, (zf60.sg n)), (131, (zf30.sg n))] f, gl := [], ar := ar, bld := bld, pts := pts }
noncomputable def zf29.A : Ann := { joins := [], loops := [], ids := [], pids := [], nroots := 76 }
noncomputable def zf29 (n : Nat) (x : List Int × List zt19 × Int × Int × Int) : Option zt10 := evalF zf29.C zf29.A Tryz.f70 zf29.ps zf29.res n x
theorem zf29.eq (n : Nat) (x0 : List Int × List zt19 × Int × Int × Int) : zf29 n x0 = ((zf60 n x0.1).bind fun y0 => ((zf30 n x0.2.1).bind fun y1 => some ((y0, y1, x0.2.2.1, x0.2.2.2.1, x0.2.2.2.2)))) := by kernel_rfl
noncomputable abbrev zf29.sg (n : Nat) : Sig := ⟨zf29.ps, zf29.res, zf29 n⟩
theorem zf29.call : Callable Tryz.prog 70 := ⟨Tryz.f70, Tryz.func70, by kernel_rfl, by kernel_rfl⟩
theorem zf29.ok (n : Nat) : FC Tryz.prog [] 70 (zf29.sg n) :=
  evalF_ok (C := zf29.C) ⟨tb_ok, fun n _ _ h => tabOk (l := [(130, (zf60.sg n)), (131, (zf30.sg n))]) (all_cons ⟨zf60.ok n, zf60.call⟩ (all_cons ⟨zf30.ok n, zf30.call⟩ (all_nil))) h, mixed, ar_ok, bld_ok, pts_ok⟩ zf29.A Tryz.func70 zf29.ps zf29.res n
abbrev zf8.ps : List Pm := [.box 41 (.pr (.own (.int .i64) 3) (.pr (.own zt8 142) (.v zt13))), .arg (.v zt1), .arg (.v (.int .i64))]
abbrev zf8.res : List M := [.v .bool]
noncomputable def zf8.C : Cfg := { tb := tb, tab := fun n f => Refl.look [] f, gl := [], ar := ar, bld := bld, pts := pts }
noncomputable def zf8.A : Ann := { joins := [], loops := [], ids := [], pids := [(0, [111, 112])], nroots := 119 }
noncomputable def zf8 (n : Nat) (x : zt10 × zt14 × Int) : Option (Bool × List Int × List zt19 × Int × Int × Int) := evalF zf8.C zf8.A Tryz.f132 zf8.ps zf8.res n x
theorem zf8.eq (n : Nat) (x0 : List Int × List zt19 × Int × Int × Int) (x1 : Int × Int × Int × Int × List Int × Int × Int) (x2 : Int) : zf8 n (x0, x1, x2) = (if x1.2.1 < 0 then some ((Bool.false, x0.1, x0.2.1, x0.2.2.1, x0.2.2.2.1, x0.2.2.2.2)) else (if x1.2.1 ≥ (↑(List.length x0.1) : Int) then some ((Bool.false, x0.1, x0.2.1, x0.2.2.1, x0.2.2.2.1, x0.2.2.2.2)) else (if x1.2.2.1 < 1 then some ((Bool.false, x0.1, x0.2.1, x0.2.2.1, x0.2.2.2.1, x0.2.2.2.2)) else (if x1.2.2.1 > 100000 then some ((Bool.false, x0.1, x0.2.1, x0.2.2.1, x0.2.2.2.1, x0.2.2.2.2)) else (if 0 ≤ x1.2.1 then (if x1.2.1 < (↑(List.length x0.1) : Int) then (if 0 ≤ x1.2.1 then (if x1.2.1 < (↑(List.length x0.1) : Int) then some ((Bool.true, List.set x0.1 (Int.toNat x1.2.1) (Go.RowKit.wrap64 (List.getD x0.1 (Int.toNat x1.2.1) 0 + Go.RowKit.wrap64 (x2 * x1.2.2.1))), x0.2.1, Go.RowKit.wrap64 (x0.2.2.1 + Go.RowKit.wrap64 (x2 * x1.2.2.1)), x0.2.2.2.1, x0.2.2.2.2)) else none) else none) else none) else none))))) := by kernel_rfl
noncomputable abbrev zf8.sg (n : Nat) : Sig := ⟨zf8.ps, zf8.res, zf8 n⟩
theorem zf8.call : Callable Tryz.prog 132 := ⟨Tryz.f132, Tryz.func132, by kernel_rfl, by kernel_rfl⟩
theorem zf8.ok (n : Nat) : FC Tryz.prog [] 132 (zf8.sg n) :=
  evalF_ok (C := zf8.C) ⟨tb_ok, fun n _ _ h => tabOk (l := []) (all_nil) h, mixed, ar_ok, bld_ok, pts_ok⟩ zf8.A Tryz.func132 zf8.ps zf8.res n
abbrev zf24.ps : List Pm := [.arg (.v (.int .i64)), .arg (.v (.int .i64))]
abbrev zf24.res : List M := [(.own (.int .i64) 3)]
noncomputable def zf24.C : Cfg := { tb := tb, tab := fun n f => Refl.look [] f, gl := [], ar := ar, bld := bld, pts := pts }
noncomputable def zf24.A : Ann := { joins := [], loops := [(5, { live := [0, 1, 5, 24, 25], base := 47 })], ids := [], pids := [], nroots := 111 }
noncomputable def zf24 (n : Nat) (x : Int × Int) : Option (List Int) := evalF zf24.C zf24.A Tryz.f186 zf24.ps zf24.res n x
noncomputable def zf24.K0 (_ : Nat) : Kont (List Int) := finK zf24.C (Func.results Tryz.f186).toList zf24.ps zf24.res
noncomputable def zf24.K1 (n : Nat) : Kont (List Int) := seqK (fun s' k => joinE zf24.A.joins (codeAt Tryz.f186 [1, 1, 1, 1]) (fun s'' => evalC zf24.C zf24.A n (codeAt Tryz.f186 [1, 1, 1, 1]) s'' k) s') (zf24.K0 n)
noncomputable def zf24.K2 (n : Nat) : Kont (List Int) := blockK 0 (zf24.K1 n)
noncomputable def zf24.l5 (n m5 : Nat) (x0 x1 : Int) (x24 x25 : Int) (r47 : List Int) : Option (List Int) := loopE (cutAt zf24.A.loops (codeAt Tryz.f186 [1, 1, 1, 0, 1, 0, 0])) (fun s k => evalC zf24.C zf24.A n (codeAt Tryz.f186 [1, 1, 1, 0, 1, 0, 0]) s k) m5 (St.of 47 111 [(0, .val (.int .i64) x0), (1, .val (.int .i64) x1), (5, .own 47), (24, .val (.int .i64) x24), (25, .val (.int .i64) x25)] [(47, .row (.int .i64) 3 r47)] []) (zf24.K2 n)
theorem zf24.eq (n : Nat) (x0 x1 : Int) : zf24 n (x0, x1) = (if x0 < 0 then some ([]) else (if x0 > 1000000 then some ([]) else (if x1 < 1 then some ([]) else (if x1 > 12 then some ([]) else (if 0 ≤ x1 then (if x1 ≤ x1 then (if x1 ≤ (↑Go.Refl.maxN : Int) then zf24.l5 n n (x0) (x1) ((↑(List.length (List.replicate (Int.toNat x1) (0 : Int))) : Int)) (0) (List.replicate (Int.toNat x1) 0) else none) else none) else none))))) := by kernel_rfl
theorem zf24.l5_succ (n m5 : Nat) (x0 x1 : Int) (x24 x25 : Int) (r47 : List Int) : zf24.l5 n (m5 + 1) x0 x1 x24 x25 r47 = (if x25 < x24 then (if x1 = 0 then none else (if 0 ≤ x25 then (if x25 < (↑(List.length r47) : Int) then (if x1 = 0 then none else (if x25 < Int.tmod x0 x1 then (if 0 ≤ x25 then (if x25 < (↑(List.length (List.set r47 (Int.toNat x25) (Go.RowKit.wrap64 (Int.tdiv x0 x1)))) : Int) then (if 0 ≤ x25 then (if x25 < (↑(List.length (List.set r47 (Int.toNat x25) (Go.RowKit.wrap64 (Int.tdiv x0 x1)))) : Int) then zf24.l5 n m5 (x0) (x1) (x24) (Go.RowKit.wrap64 (x25 + 1)) (List.set (List.set r47 (Int.toNat x25) (Go.RowKit.wrap64 (Int.tdiv x0 x1))) (Int.toNat x25) (Go.RowKit.wrap64 (List.getD (List.set r47 (Int.toNat x25) (Go.RowKit.wrap64 (Int.tdiv x0 x1))) (Int.toNat x25) 0 + 1))) else none) else none) else none) else none) else zf24.l5 n m5 (x0) (x1) (x24) (Go.RowKit.wrap64 (x25 + 1)) (List.set r47 (Int.toNat x25) (Go.RowKit.wrap64 (Int.tdiv x0 x1))))) else none) else none)) else some (r47)) := by kernel_rfl
noncomputable abbrev zf24.sg (n : Nat) : Sig := ⟨zf24.ps, zf24.res, zf24 n⟩
theorem zf24.call : Callable Tryz.prog 186 := ⟨Tryz.f186, Tryz.func186, by kernel_rfl, by kernel_rfl⟩
theorem zf24.ok (n : Nat) : FC Tryz.prog [] 186 (zf24.sg n) :=
  evalF_ok (C := zf24.C) ⟨tb_ok, fun n _ _ h => tabOk (l := []) (all_nil) h, mixed, ar_ok, bld_ok, pts_ok⟩ zf24.A Tryz.func186 zf24.ps zf24.res n
abbrev zf12.ps : List Pm := [.arg (.v (.slice zt8)), .arg (.v (.int .i64))]
abbrev zf12.res : List M := [(.own (.int .i64) 3)]
noncomputable def zf12.C : Cfg := { tb := tb, tab := fun n f => Refl.look [(100, (zf26.sg n)), (186, (zf24.sg n))] f, gl := [], ar := ar, bld := bld, pts := pts }
noncomputable def zf12.A : Ann := { joins := [], loops := [(5, { live := [5, 16, 17, 18], base := 48 }), (8, { live := [5, 7, 16, 17, 18, 27, 28, 29], base := 48 })], ids := [(1, [(12, [])])], pids := [], nroots := 112 }
noncomputable def zf12 (n : Nat) (x : List zt19 × Int) : Option (List Int) := evalF zf12.C zf12.A Tryz.f167 zf12.ps zf12.res n x
noncomputable def zf12.K0 (_ : Nat) : Kont (List Int) := finK zf12.C (Func.results Tryz.f167).toList zf12.ps zf12.res
noncomputable def zf12.K1 (n : Nat) : Kont (List Int) := seqK (fun s' k => joinE zf12.A.joins (codeAt Tryz.f167 [1, 1, 1, 1]) (fun s'' => evalC zf12.C zf12.A n (codeAt Tryz.f167 [1, 1, 1, 1]) s'' k) s') (zf12.K0 n)
noncomputable def zf12.K2 (n : Nat) : Kont (List Int) := blockK 0 (zf12.K1 n)
noncomputable def zf12.K3 (n m5 : Nat) : Kont (List Int) := loopK (cutAt zf12.A.loops (codeAt Tryz.f167 [1, 1, 1, 0, 1, 0, 0])) (fun s k => evalC zf12.C zf12.A n (codeAt Tryz.f167 [1, 1, 1, 0, 1, 0, 0]) s k) m5 (zf12.K2 n)
noncomputable def zf12.K4 (n m5 : Nat) : Kont (List Int) := seqK (fun s' k => joinE zf12.A.joins (codeAt Tryz.f167 [1, 1, 1, 0, 1, 0, 0, 1, 1, 1]) (fun s'' => evalC zf12.C zf12.A n (codeAt Tryz.f167 [1, 1, 1, 0, 1, 0, 0, 1, 1, 1]) s'' k) s') (zf12.K3 n m5)
noncomputable def zf12.K5 (n m5 : Nat) : Kont (List Int) := blockK 1 (zf12.K4 n m5)
noncomputable def zf12.K6 (n m5 : Nat) : Kont (List Int) := blockK 2 (zf12.K5 n m5)
noncomputable def zf12.l5 (n m5 : Nat) (x16 : List zt19) (x17 x18 : Int) (r48 : List Int) : Option (List Int) := loopE (cutAt zf12.A.loops (codeAt Tryz.f167 [1, 1, 1, 0, 1, 0, 0])) (fun s k => evalC zf12.C zf12.A n (codeAt Tryz.f167 [1, 1, 1, 0, 1, 0, 0]) s k) m5 (St.of 48 112 [(5, .own 48), (16, .val (.slice zt8) x16), (17, .val (.int .i64) x17), (18, .val (.int .i64) x18)] [(48, .row (.int .i64) 3 r48)] []) (zf12.K2 n)
noncomputable def zf12.l8 (n m5 m8 : Nat) (x16 : List zt19) (x17 x18 : Int) (x28 x29 : Int) (r48 : List Int) (r49_0 r49_1 : Int) (r49_2 r50 : List Int) : Option (List Int) := loopE (cutAt zf12.A.loops (codeAt Tryz.f167 [1, 1, 1, 0, 1, 0, 0, 1, 1, 0, 0, 1, 1, 0, 0])) (fun s k => evalC zf12.C zf12.A n (codeAt Tryz.f167 [1, 1, 1, 0, 1, 0, 0, 1, 1, 0, 0, 1, 1, 0, 0]) s k) m8 (St.of 48 112 [(5, .own 48), (7, .ptr 49 0 0), (16, .val (.slice zt8) x16), (17, .val (.int .i64) x17), (18, .val (.int .i64) x18), (27, .own 50), (28, .val (.int .i64) x28), (29, .val (.int .i64) x29)] [(48, .row (.int .i64) 3 r48), (49, .box 142 [.val (.int .i64) r49_0, .val (.int .i64) r49_1, .val (.slice (.int .i64)) r49_2]), (50, .row (.int .i64) 3 r50)] []) (zf12.K6 n m5)
theorem zf12.eq (n : Nat) (x0 : List zt19) (x1 : Int) : zf12 n (x0, x1) = ((zf26 n (x0, x1)).bind fun y0 => (if (!y0) = true then some ([]) else (if 0 ≤ x1 then (if x1 ≤ x1 then (if x1 ≤ (↑Go.Refl.maxN : Int) then zf12.l5 n n (x0) ((↑(List.length x0) : Int)) (0) (List.replicate (Int.toNat x1) 0) else none) else none) else none))) := by kernel_rfl
theorem zf12.l5_succ (n m5 : Nat) (x16 : List zt19) (x17 x18 : Int) (r48 : List Int) : zf12.l5 n (m5 + 1) x16 x17 x18 r48 = (if x18 < x17 then (if 0 ≤ x18 then (if x18 < (↑(List.length x16) : Int) then ((zf24 n (Prod.fst (Prod.snd (List.getD x16 (Int.toNat x18) (0, 0, []))), (↑(List.length (Prod.snd (Prod.snd (List.getD x16 (Int.toNat x18) ((0 : Int), (0 : Int), []))))) : Int))).bind fun y1 => zf12.l8 n m5 n (x16) (x17) (x18) ((↑(List.length y1) : Int)) (0) (r48) (Prod.fst (List.getD x16 (Int.toNat x18) (0, 0, []))) (Prod.fst (Prod.snd (List.getD x16 (Int.toNat x18) (0, 0, [])))) (Prod.snd (Prod.snd (List.getD x16 (Int.toNat x18) (0, 0, [])))) (y1)) else none) else none) else some (r48)) := by kernel_rfl
theorem zf12.l8_succ (n m5 m8 : Nat) (x16 : List zt19) (x17 x18 : Int) (x28 x29 : Int) (r48 : List Int) (r49_0 r49_1 : Int) (r49_2 r50 : List Int) : zf12.l8 n m5 (m8 + 1) x16 x17 x18 x28 x29 r48 r49_0 r49_1 r49_2 r50 = (if x29 < x28 then (if 0 ≤ x29 then (if x29 < (↑(List.length r50) : Int) then (if 0 ≤ x29 then (if x29 < (↑(List.length r49_2) : Int) then (if 0 ≤ List.getD r49_2 (Int.toNat x29) 0 then (if List.getD r49_2 (Int.toNat x29) 0 < (↑(List.length r48) : Int) then (if 0 ≤ List.getD r49_2 (Int.toNat x29) 0 then (if List.getD r49_2 (Int.toNat x29) 0 < (↑(List.length r48) : Int) then zf12.l8 n m5 m8 (x16) (x17) (x18) (x28) (Go.RowKit.wrap64 (x29 + 1)) (List.set r48 (Int.toNat (List.getD r49_2 (Int.toNat x29) 0)) (Go.RowKit.wrap64 (List.getD r48 (Int.toNat (List.getD r49_2 (Int.toNat x29) 0)) 0 + List.getD r50 (Int.toNat x29) 0))) (r49_0) (r49_1) (r49_2) (r50) else none) else none) else none) else none) else none) else none) else none) else none) else zf12.l5 n m5 (x16) (x17) (Go.RowKit.wrap64 (x18 + 1)) (r48)) := by kernel_rfl
noncomputable abbrev zf12.sg (n : Nat) : Sig := ⟨zf12.ps, zf12.res, zf12 n⟩
theorem zf12.call : Callable Tryz.prog 167 := ⟨Tryz.f167, Tryz.func167, by kernel_rfl, by kernel_rfl⟩
theorem zf12.ok (n : Nat) : FC Tryz.prog [] 167 (zf12.sg n) :=
  evalF_ok (C := zf12.C) ⟨tb_ok, fun n _ _ h => tabOk (l := [(100, (zf26.sg n)), (186, (zf24.sg n))]) (all_cons ⟨zf26.ok n, zf26.call⟩ (all_cons ⟨zf24.ok n, zf24.call⟩ (all_nil))) h, mixed, ar_ok, bld_ok, pts_ok⟩ zf12.A Tryz.func167 zf12.ps zf12.res n
abbrev zf15.ps : List Pm := [.arg (.v (.slice (.int .i64))), .arg (.v (.slice zt8))]
abbrev zf15.res : List M := [(.own (.int .i64) 3)]
noncomputable def zf15.C : Cfg := { tb := tb, tab := fun n f => Refl.look [(99, (zf42.sg n)), (167, (zf12.sg n))] f, gl := [], ar := ar, bld := bld, pts := pts }
noncomputable def zf15.A : Ann := { joins := [], loops := [(5, { live := [0, 5, 14, 15, 16], base := 32, grow := [(5, 53, (.int .i64), 3)] })], ids := [(1, [(9, [])]), (7, [(28, [])])], pids := [], nroots := 96 }
noncomputable def zf15 (n : Nat) (x : List Int × List zt19) : Option (List Int) := evalF zf15.C zf15.A Tryz.f101 zf15.ps zf15.res n x
noncomputable def zf15.K0 (_ : Nat) : Kont (List Int) := finK zf15.C (Func.results Tryz.f101).toList zf15.ps zf15.res
noncomputable def zf15.K1 (n : Nat) : Kont (List Int) := seqK (fun s' k => joinE zf15.A.joins (codeAt Tryz.f101 [1, 1, 1, 1]) (fun s'' => evalC zf15.C zf15.A n (codeAt Tryz.f101 [1, 1, 1, 1]) s'' k) s') (zf15.K0 n)
noncomputable def zf15.K2 (n : Nat) : Kont (List Int) := blockK 0 (zf15.K1 n)
noncomputable def zf15.l5 (n m5 : Nat) (x0 : List Int) (x15 x16 : Int) (r32 r33 : List Int) : Option (List Int) := loopE (cutAt zf15.A.loops (codeAt Tryz.f101 [1, 1, 1, 0, 1, 0, 0])) (fun s k => evalC zf15.C zf15.A n (codeAt Tryz.f101 [1, 1, 1, 0, 1, 0, 0]) s k) m5 (St.of 32 96 [(0, .val (.slice (.int .i64)) x0), (5, .own 32), (14, .own 33), (15, .val (.int .i64) x15), (16, .val (.int .i64) x16)] [(32, .row (.int .i64) 3 r32), (33, .row (.int .i64) 3 r33)] []) (zf15.K2 n)
theorem zf15.eq (n : Nat) (x0 : List Int) (x1 : List zt19) : zf15 n (x0, x1) = ((zf42 n x0).bind fun y0 => (if (!y0) = true then some ([]) else ((zf12 n (x1, (↑(List.length x0) : Int))).bind fun y1 => zf15.l5 n n (x0) ((↑(List.length y1) : Int)) (0) ([]) (y1)))) := by kernel_rfl
theorem zf15.l5_succ (n m5 : Nat) (x0 : List Int) (x15 x16 : Int) (r32 r33 : List Int) : zf15.l5 n (m5 + 1) x0 x15 x16 r32 r33 = (if x16 < x15 then (if 0 ≤ x16 then (if x16 < (↑(List.length r33) : Int) then (if 0 ≤ x16 then (if x16 < (↑(List.length x0) : Int) then (if List.length r32 + List.length (List.set (List.replicate (1 : Nat) (0 : Int)) (0 : Nat) (Go.RowKit.wrap64 (List.getD x0 (Int.toNat x16) (0 : Int) - List.getD r33 (Int.toNat x16) (0 : Int)))) ≤ Go.Refl.maxN then zf15.l5 n m5 (x0) (x15) (Go.RowKit.wrap64 (x16 + 1)) (r32 ++ List.set (List.replicate 1 0) 0 (Go.RowKit.wrap64 (List.getD x0 (Int.toNat x16) 0 - List.getD r33 (Int.toNat x16) 0))) (r33) else none) else none) else none) else none) else none) else some (r32)) := by kernel_rfl
noncomputable abbrev zf15.sg (n : Nat) : Sig := ⟨zf15.ps, zf15.res, zf15 n⟩
theorem zf15.call : Callable Tryz.prog 101 := ⟨Tryz.f101, Tryz.func101, by kernel_rfl, by kernel_rfl⟩
theorem zf15.ok (n : Nat) : FC Tryz.prog [] 101 (zf15.sg n) :=
  evalF_ok (C := zf15.C) ⟨tb_ok, fun n _ _ h => tabOk (l := [(99, (zf42.sg n)), (167, (zf12.sg n))]) (all_cons ⟨zf42.ok n, zf42.call⟩ (all_cons ⟨zf12.ok n, zf12.call⟩ (all_nil))) h, mixed, ar_ok, bld_ok, pts_ok⟩ zf15.A Tryz.func101 zf15.ps zf15.res n
abbrev zf66.ps : List Pm := [.arg (.v (.slice (.int .i64)))]
abbrev zf66.res : List M := [.v (.int .i64)]
noncomputable def zf66.C : Cfg := { tb := tb, tab := fun n f => Refl.look [] f, gl := [], ar := ar, bld := bld, pts := pts }
noncomputable def zf66.A : Ann := { joins := [], loops := [(5, { live := [0, 3, 4], base := 25 })], ids := [], pids := [], nroots := 89 }
noncomputable def zf66 (n : Nat) (x : List Int) : Option (Int) := evalF zf66.C zf66.A Tryz.f102 zf66.ps zf66.res n x
noncomputable def zf66.K0 (_ : Nat) : Kont (Int) := finK zf66.C (Func.results Tryz.f102).toList zf66.ps zf66.res
noncomputable def zf66.K1 (n : Nat) : Kont (Int) := seqK (fun s' k => joinE zf66.A.joins (codeAt Tryz.f102 [1, 1, 1, 1]) (fun s'' => evalC zf66.C zf66.A n (codeAt Tryz.f102 [1, 1, 1, 1]) s'' k) s') (zf66.K0 n)
noncomputable def zf66.K2 (n : Nat) : Kont (Int) := blockK 0 (zf66.K1 n)
noncomputable def zf66.l5 (n m5 : Nat) (x0 : List Int) (x3 x4 : Int) : Option (Int) := loopE (cutAt zf66.A.loops (codeAt Tryz.f102 [1, 1, 1, 0, 1, 0, 0])) (fun s k => evalC zf66.C zf66.A n (codeAt Tryz.f102 [1, 1, 1, 0, 1, 0, 0]) s k) m5 (St.of 25 89 [(0, .val (.slice (.int .i64)) x0), (3, .val (.int .i64) x3), (4, .val (.int .i64) x4)] [] []) (zf66.K2 n)
theorem zf66.eq (n : Nat) (x0 : List Int) : zf66 n x0 = (if (↑(List.length x0) : Int) < 1 then none else (if 0 < (↑(List.length x0) : Int) then zf66.l5 n n (x0) (List.getD x0 0 0) (1) else none)) := by kernel_rfl
theorem zf66.l5_succ (n m5 : Nat) (x0 : List Int) (x3 x4 : Int) : zf66.l5 n (m5 + 1) x0 x3 x4 = (if x4 < (↑(List.length x0) : Int) then (if 0 ≤ x4 then (if x4 < (↑(List.length x0) : Int) then zf66.l5 n m5 (x0) (Go.Refl.mn x3 (List.getD x0 (Int.toNat x4) 0)) (Go.RowKit.wrap64 (x4 + 1)) else none) else none) else some (x3)) := by kernel_rfl
noncomputable abbrev zf66.sg (n : Nat) : Sig := ⟨zf66.ps, zf66.res, zf66 n⟩
theorem zf66.call : Callable Tryz.prog 102 := ⟨Tryz.f102, Tryz.func102, by kernel_rfl, by kernel_rfl⟩
theorem zf66.ok (n : Nat) : FC Tryz.prog [] 102 (zf66.sg n) :=
  evalF_ok (C := zf66.C) ⟨tb_ok, fun n _ _ h => tabOk (l := []) (all_nil) h, mixed, ar_ok, bld_ok, pts_ok⟩ zf66.A Tryz.func102 zf66.ps zf66.res n
abbrev zf22.ps : List Pm := [.arg (.v (.slice (.int .i64))), .arg (.v (.slice zt8))]
abbrev zf22.res : List M := [.v .bool]
noncomputable def zf22.C : Cfg := { tb := tb, tab := fun n f => Refl.look [(101, (zf15.sg n)), (102, (zf66.sg n))] f, gl := [], ar := ar, bld := bld, pts := pts }
noncomputable def zf22.A : Ann := { joins := [], loops := [], ids := [(2, [(14, [])])], pids := [], nroots := 81 }
noncomputable def zf22 (n : Nat) (x : List Int × List zt19) : Option (Bool) := evalF zf22.C zf22.A Tryz.f42 zf22.ps zf22.res n x
theorem zf22.eq (n : Nat) (x0 : List Int) (x1 : List zt19) : zf22 n (x0, x1) = ((zf15 n (x0, x1)).bind fun y0 => (if (↑(List.length y0) : Int) > 0 then ((zf66 n y0).bind fun y1 => some (Decidable.decide (y1 ≥ 0))) else some (Bool.false))) := by kernel_rfl
noncomputable abbrev zf22.sg (n : Nat) : Sig := ⟨zf22.ps, zf22.res, zf22 n⟩
theorem zf22.call : Callable Tryz.prog 42 := ⟨Tryz.f42, Tryz.func42, by kernel_rfl, by kernel_rfl⟩
theorem zf22.ok (n : Nat) : FC Tryz.prog [] 42 (zf22.sg n) :=
  evalF_ok (C := zf22.C) ⟨tb_ok, fun n _ _ h => tabOk (l := [(101, (zf15.sg n)), (102, (zf66.sg n))]) (all_cons ⟨zf15.ok n, zf15.call⟩ (all_cons ⟨zf66.ok n, zf66.call⟩ (all_nil))) h, mixed, ar_ok, bld_ok, pts_ok⟩ zf22.A Tryz.func42 zf22.ps zf22.res n
abbrev zf7.ps : List Pm := [.box 41 (.pr (.own (.int .i64) 3) (.pr (.own zt8 142) (.v zt13))), .arg (.v zt1)]
abbrev zf7.res : List M := [.v .bool]
noncomputable def zf7.C : Cfg := { tb := tb, tab := fun n f => Refl.look [(130, { params := zf60.ps, res := [.v (.slice (.int .i64))], run := zf60 n }), (42, (zf22.sg n))] f, gl := [], ar := ar, bld := bld, pts := pts }
noncomputable def zf7.A : Ann := { joins := [], loops := [], ids := [(1, [(16, []), (18, [])]), (2, [(30, [])])], pids := [(0, [97, 98])], nroots := 105 }
noncomputable def zf7 (n : Nat) (x : zt10 × Int × Int × Int × Int × List Int × Int × Int) : Option (Bool × List Int × List zt19 × Int × Int × Int) := evalF zf7.C zf7.A Tryz.f133 zf7.ps zf7.res n x
theorem zf7.eq (n : Nat) (x0 : List Int × List zt19 × Int × Int × Int) (x1 : Int × Int × Int × Int × List Int × Int × Int) : zf7 n (x0, x1) = ((zf60 n x1.2.2.2.2.1).bind fun y0 => (if List.length x0.2.1 + List.length (List.set (List.replicate (1 : Nat) ((0 : Int), (0 : Int), [])) (0 : Nat) (x1.2.1, x1.2.2.1, y0)) ≤ Go.Refl.maxN then ((zf22 n (x0.1, x0.2.1 ++ List.set (List.replicate 1 (0, 0, [])) 0 (x1.2.1, x1.2.2.1, y0))).bind fun y1 => (if (!y1) = true then some ((Bool.false, x0.1, x0.2.1 ++ List.set (List.replicate 1 (0, 0, [])) 0 (x1.2.1, x1.2.2.1, y0), x0.2.2.1, x0.2.2.2.1, x0.2.2.2.2)) else some ((Bool.true, x0.1, x0.2.1 ++ List.set (List.replicate 1 (0, 0, [])) 0 (x1.2.1, x1.2.2.1, y0), Go.RowKit.wrap64 (x0.2.2.1 - x1.2.2.1), x0.2.2.2.1, x0.2.2.2.2)))) else none)) := by kernel_rfl
noncomputable abbrev zf7.sg (n : Nat) : Sig := ⟨zf7.ps, zf7.res, zf7 n⟩
theorem zf7.call : Callable Tryz.prog 133 := ⟨Tryz.f133, Tryz.func133, by kernel_rfl, by kernel_rfl⟩
theorem zf7.ok (n : Nat) : FC Tryz.prog [] 133 (zf7.sg n) :=
  evalF_ok (C := zf7.C) ⟨tb_ok, fun n _ _ h => tabOk (l := [(130, { params := zf60.ps, res := [.v (.slice (.int .i64))], run := zf60 n }), (42, (zf22.sg n))]) (all_cons ⟨FC.weak (.cons (.own _ _) .nil) HEq.rfl (zf60.ok n), zf60.call⟩ (all_cons ⟨zf22.ok n, zf22.call⟩ (all_nil))) h, mixed, ar_ok, bld_ok, pts_ok⟩ zf7.A Tryz.func133 zf7.ps zf7.res n
abbrev zf63.ps : List Pm := [.arg (.own zt8 142), .arg (.v (.int .i64)), .arg (.v (.int .i64))]
abbrev zf63.res : List M := [(.own zt8 142)]
noncomputable def zf63.C : Cfg := { tb := tb, tab := fun n f => Refl.look [] f, gl := [], ar := ar, bld := bld, pts := pts }
noncomputable def zf63.A : Ann := { joins := [], loops := [], ids := [(5, [(26, [])])], pids := [], nroots := 97 }
noncomputable def zf63 (n : Nat) (x : List zt19 × Int × Int) : Option zt17 := evalF zf63.C zf63.A Tryz.f211 zf63.ps zf63.res n x
theorem zf63.eq (n : Nat) (x0 : List zt19) (x1 x2 : Int) : zf63 n (x0, x1, x2) = (if 0 ≤ x1 then (if x1 ≤ x2 then (if x2 ≤ (↑(List.length x0) : Int) then (if (↑(List.length x0) : Int) ≤ (↑(List.length x0) : Int) then (if x1 = x2 then some (x0) else (if 0 ≤ x1 then (if x1 ≤ (↑(List.length x0) : Int) then (if 0 ≤ x2 then (if x2 ≤ (↑(List.length x0) : Int) then (if 0 < List.length x0 then (if Int.toNat x1 - 0 + List.length (List.take (List.length x0 - Int.toNat x2) (List.drop (Int.toNat x2) x0)) ≤ List.length x0 then (if 0 ≤ (↑(Int.toNat x1 - 0 + List.length (List.take (List.length x0 - Int.toNat x2) (List.drop (Int.toNat x2) x0))) : Int) then (if (↑(Int.toNat x1 - 0 + List.length (List.take (List.length x0 - Int.toNat x2) (List.drop (Int.toNat x2) x0))) : Int) ≤ (↑(List.length x0) : Int) then (if (↑(List.length x0) : Int) ≤ (↑(List.length (List.take (Int.toNat x1 - (0 : Nat)) x0 ++ List.take (List.length x0 - Int.toNat x2) (List.drop (Int.toNat x2) x0) ++ List.drop (Int.toNat x1 - (0 : Nat) + List.length (List.take (List.length x0 - Int.toNat x2) (List.drop (Int.toNat x2) x0))) x0) - 0) : Int) then some (List.take (Int.toNat x1 - 0 + List.length (List.take (List.length x0 - Int.toNat x2) (List.drop (Int.toNat x2) x0))) (List.take (0 + Int.toNat (↑(Int.toNat x1 - 0 + List.length (List.take (List.length x0 - Int.toNat x2) (List.drop (Int.toNat x2) x0))) : Int)) (List.take (Int.toNat x1 - 0) x0 ++ List.take (List.length x0 - Int.toNat x2) (List.drop (Int.toNat x2) x0) ++ List.drop (Int.toNat x1 - 0 + List.length (List.take (List.length x0 - Int.toNat x2) (List.drop (Int.toNat x2) x0))) x0) ++ List.replicate (Int.toNat (↑(List.length x0) : Int) - Int.toNat (↑(Int.toNat x1 - 0 + List.length (List.take (List.length x0 - Int.toNat x2) (List.drop (Int.toNat x2) x0))) : Int)) (0, 0, []) ++ List.drop (0 + Int.toNat (↑(Int.toNat x1 - 0 + List.length (List.take (List.length x0 - Int.toNat x2) (List.drop (Int.toNat x2) x0))) : Int) + (Int.toNat (↑(List.length x0) : Int) - Int.toNat (↑(Int.toNat x1 - 0 + List.length (List.take (List.length x0 - Int.toNat x2) (List.drop (Int.toNat x2) x0))) : Int))) (List.take (Int.toNat x1 - 0) x0 ++ List.take (List.length x0 - Int.toNat x2) (List.drop (Int.toNat x2) x0) ++ List.drop (Int.toNat x1 - 0 + List.length (List.take (List.length x0 - Int.toNat x2) (List.drop (Int.toNat x2) x0))) x0))) else none) else none) else none) else none) else none) else none) else none) else none) else none)) else none) else none) else none) else none) := by kernel_rfl
noncomputable abbrev zf63.sg (n : Nat) : Sig := ⟨zf63.ps, zf63.res, zf63 n⟩
theorem zf63.call : Callable Tryz.prog 211 := ⟨Tryz.f211, Tryz.func211, by kernel_rfl, by kernel_rfl⟩
theorem zf63.ok (n : Nat) : FC Tryz.prog [] 211 (zf63.sg n) :=
  evalF_ok (C := zf63.C) ⟨tb_ok, fun n _ _ h => tabOk (l := []) (all_nil) h, mixed, ar_ok, bld_ok, pts_ok⟩ zf63.A Tryz.func211 zf63.ps zf63.res n
abbrev zf17.ps : List Pm := [.arg (.v (.slice zt8)), .arg (.v (.int .i64)), .arg (.v (.int .i64)), .arg (.v (.int .i64))]
abbrev zf17.res : List M := [(.own zt8 142)]
noncomputable def zf17.C : Cfg := { tb := tb, tab := fun n f => Refl.look [(100, (zf26.sg n)), (131, (zf30.sg n)), (211, (zf63.sg n))] f, gl := [], ar := ar, bld := bld, pts := pts }
noncomputable def zf17.A : Ann := { joins := [], loops := [], ids := [(1, [(12, [])])], pids := [], nroots := 124 }
noncomputable def zf17 (n : Nat) (x : List zt19 × Int × Int × Int) : Option zt17 := evalF zf17.C zf17.A Tryz.f181 zf17.ps zf17.res n x
theorem zf17.eq (n : Nat) (x0 : List zt19) (x1 x2 x3 : Int) : zf17 n (x0, x1, x2, x3) = ((zf26 n (x0, x1)).bind fun y0 => (if (!y0) = Bool.true then some ([]) else (if x2 < 0 then some ([]) else (if x2 ≥ (↑(List.length x0) : Int) then some ([]) else (if x3 < 1 then some ([]) else (if 0 ≤ x2 then (if x2 < (↑(List.length x0) : Int) then (if x3 > Prod.fst (Prod.snd (List.getD x0 (Int.toNat x2) (0, 0, []))) then some ([]) else ((zf30 n x0).bind fun y1 => (if 0 ≤ x2 then (if x2 < (↑(List.length y1) : Int) then (if 0 ≤ x2 then (if x2 < (↑(List.length y1) : Int) then (if 0 ≤ x2 then (if x2 < (↑(List.length (List.set y1 (Int.toNat x2) (Prod.fst (List.getD y1 (Int.toNat x2) ((0 : Int), (0 : Int), [])), Go.RowKit.wrap64 (Prod.fst (Prod.snd (List.getD y1 (Int.toNat x2) ((0 : Int), (0 : Int), []))) - x3), Prod.snd (Prod.snd (List.getD y1 (Int.toNat x2) ((0 : Int), (0 : Int), [])))))) : Int) then (if Prod.fst (Prod.snd (List.getD (List.set y1 (Int.toNat x2) (Prod.fst (List.getD y1 (Int.toNat x2) (0, 0, [])), Go.RowKit.wrap64 (Prod.fst (Prod.snd (List.getD y1 (Int.toNat x2) (0, 0, []))) - x3), Prod.snd (Prod.snd (List.getD y1 (Int.toNat x2) (0, 0, []))))) (Int.toNat x2) (0, 0, []))) = 0 then ((zf63 n (List.set y1 (Int.toNat x2) (Prod.fst (List.getD y1 (Int.toNat x2) (0, 0, [])), Go.RowKit.wrap64 (Prod.fst (Prod.snd (List.getD y1 (Int.toNat x2) (0, 0, []))) - x3), Prod.snd (Prod.snd (List.getD y1 (Int.toNat x2) (0, 0, [])))), x2, Go.RowKit.wrap64 (x2 + 1))).bind fun y2 => some (y2)) else some (List.set y1 (Int.toNat x2) (Prod.fst (List.getD y1 (Int.toNat x2) (0, 0, [])), Go.RowKit.wrap64 (Prod.fst (Prod.snd (List.getD y1 (Int.toNat x2) (0, 0, []))) - x3), Prod.snd (Prod.snd (List.getD y1 (Int.toNat x2) (0, 0, [])))))) else none) else none) else none) else none) else none) else none))) else none) else none)))))) := by kernel_rfl
noncomputable abbrev zf17.sg (n : Nat) : Sig := ⟨zf17.ps, zf17.res, zf17 n⟩
theorem zf17.call : Callable Tryz.prog 181 := ⟨Tryz.f181, Tryz.func181, by kernel_rfl, by kernel_rfl⟩
theorem zf17.ok (n : Nat) : FC Tryz.prog [] 181 (zf17.sg n) :=
  evalF_ok (C := zf17.C) ⟨tb_ok, fun n _ _ h => tabOk (l := [(100, (zf26.sg n)), (131, (zf30.sg n)), (211, (zf63.sg n))]) (all_cons ⟨zf26.ok n, zf26.call⟩ (all_cons ⟨zf30.ok n, zf30.call⟩ (all_cons ⟨zf63.ok n, zf63.call⟩ (all_nil)))) h, mixed, ar_ok, bld_ok, pts_ok⟩ zf17.A Tryz.func181 zf17.ps zf17.res n
abbrev zf10.ps : List Pm := [.box 41 (.pr (.own (.int .i64) 3) (.pr (.own zt8 142) (.v zt13))), .arg (.v zt1)]
abbrev zf10.res : List M := [.v .bool]
noncomputable def zf10.C : Cfg := { tb := tb, tab := fun n f => Refl.look [(181, (zf17.sg n))] f, gl := [], ar := ar, bld := bld, pts := pts }
noncomputable def zf10.A : Ann := { joins := [], loops := [], ids := [], pids := [(0, [139, 140])], nroots := 147 }
noncomputable def zf10 (n : Nat) (x : zt10 × Int × Int × Int × Int × List Int × Int × Int) : Option (Bool × List Int × List zt19 × Int × Int × Int) := evalF zf10.C zf10.A Tryz.f134 zf10.ps zf10.res n x
theorem zf10.eq (n : Nat) (x0 : List Int × List zt19 × Int × Int × Int) (x1 : Int × Int × Int × Int × List Int × Int × Int) : zf10 n (x0, x1) = (if x1.2.1 < 0 then some ((Bool.false, x0.1, x0.2.1, x0.2.2.1, x0.2.2.2.1, x0.2.2.2.2)) else (if x1.2.1 ≥ (↑(List.length x0.2.1) : Int) then some ((Bool.false, x0.1, x0.2.1, x0.2.2.1, x0.2.2.2.1, x0.2.2.2.2)) else (if x1.2.2.2.1 < 0 then some ((Bool.false, x0.1, x0.2.1, x0.2.2.1, x0.2.2.2.1, x0.2.2.2.2)) else (if x1.2.2.2.1 > 100000 then some ((Bool.false, x0.1, x0.2.1, x0.2.2.1, x0.2.2.2.1, x0.2.2.2.2)) else (if x1.2.2.1 < 1 then some ((Bool.false, x0.1, x0.2.1, x0.2.2.1, x0.2.2.2.1, x0.2.2.2.2)) else (if 0 ≤ x1.2.1 then (if x1.2.1 < (↑(List.length x0.2.1) : Int) then (if x1.2.2.1 > Prod.fst (Prod.snd (List.getD x0.2.1 (Int.toNat x1.2.1) (0, 0, []))) then some ((Bool.false, x0.1, x0.2.1, x0.2.2.1, x0.2.2.2.1, x0.2.2.2.2)) else ((zf17 n (x0.2.1, (↑(List.length x0.1) : Int), x1.2.1, x1.2.2.1)).bind fun y0 => some ((Bool.true, x0.1, y0, Go.RowKit.wrap64 (x0.2.2.1 + Go.RowKit.wrap64 (x1.2.2.1 + x1.2.2.2.1)), Go.RowKit.wrap64 (x0.2.2.2.1 + x1.2.2.2.1), x0.2.2.2.2)))) else none) else none)))))) := by kernel_rfl
noncomputable abbrev zf10.sg (n : Nat) : Sig := ⟨zf10.ps, zf10.res, zf10 n⟩
theorem zf10.call : Callable Tryz.prog 134 := ⟨Tryz.f134, Tryz.func134, by kernel_rfl, by kernel_rfl⟩
theorem zf10.ok (n : Nat) : FC Tryz.prog [] 134 (zf10.sg n) :=
  evalF_ok (C := zf10.C) ⟨tb_ok, fun n _ _ h => tabOk (l := [(181, (zf17.sg n))]) (all_cons ⟨zf17.ok n, zf17.call⟩ (all_nil)) h, mixed, ar_ok, bld_ok, pts_ok⟩ zf10.A Tryz.func134 zf10.ps zf10.res n
abbrev zf40.ps : List Pm := [.inout (.int .i64) 3, .arg (.v (.int .i64)), .arg (.v (.int .i64))]
abbrev zf40.res : List M := [.v (.int .i64)]
noncomputable def zf40.C : Cfg := { tb := tb, tab := fun n f => Refl.look [] f, gl := [], ar := ar, bld := bld, pts := pts }
noncomputable def zf40.A : Ann := { joins := [], loops := [], ids := [], pids := [], nroots := 88 }
noncomputable def zf40 (n : Nat) (x : List Int × Int × Int) : Option (Int × List Int) := evalF zf40.C zf40.A Tryz.f233 zf40.ps zf40.res n x
theorem zf40.eq (n : Nat) (x0 : List Int) (x1 x2 : Int) : zf40 n (x0, x1, x2) = (if 0 ≤ x1 then (if x1 < (↑(List.length x0) : Int) then (if 0 ≤ x1 then (if x1 < (↑(List.length x0) : Int) then (if 0 ≤ x1 then (if x1 < (↑(List.length x0) : Int) then some ((Go.RowKit.wrap64 (x2 - Go.Refl.mn (List.getD x0 (Int.toNat x1) 0) x2), List.set x0 (Int.toNat x1) (Go.RowKit.wrap64 (List.getD x0 (Int.toNat x1) 0 - Go.Refl.mn (List.getD x0 (Int.toNat x1) 0) x2)))) else none) else none) else none) else none) else none) else none) := by kernel_rfl
noncomputable abbrev zf40.sg (n : Nat) : Sig := ⟨zf40.ps, zf40.res, zf40 n⟩
theorem zf40.call : Callable Tryz.prog 233 := ⟨Tryz.f233, Tryz.func233, by kernel_rfl, by kernel_rfl⟩
theorem zf40.ok (n : Nat) : FC Tryz.prog [] 233 (zf40.sg n) :=
  evalF_ok (C := zf40.C) ⟨tb_ok, fun n _ _ h => tabOk (l := []) (all_nil) h, mixed, ar_ok, bld_ok, pts_ok⟩ zf40.A Tryz.func233 zf40.ps zf40.res n
abbrev zf32.ps : List Pm := [.inout (.int .i64) 3, .arg (.v zt8)]
abbrev zf32.res : List M := [.v (.int .i64), (.own (.int .i64) 3)]
noncomputable def zf32.C : Cfg := { tb := tb, tab := fun n f => Refl.look [(233, (zf40.sg n)), (186, (zf24.sg n))] f, gl := [], ar := ar, bld := bld, pts := pts }
noncomputable def zf32.A : Ann := { joins := [], loops := [(5, { live := [0, 3, 6, 7, 22, 23, 24], base := 53, grow := [(7, 76, (.int .i64), 3)] })], ids := [(3, [(17, [])]), (7, [(36, [])]), (10, [(48, [])])], pids := [], nroots := 117 }
noncomputable def zf32 (n : Nat) (x : List Int × Int × Int × List Int) : Option (Int × List Int × List Int) := evalF zf32.C zf32.A Tryz.f212 zf32.ps zf32.res n x
noncomputable def zf32.K0 (_ : Nat) : Kont (Int × List Int × List Int) := finK zf32.C (Func.results Tryz.f212).toList zf32.ps zf32.res
noncomputable def zf32.K1 (n : Nat) : Kont (Int × List Int × List Int) := seqK (fun s' k => joinE zf32.A.joins (codeAt Tryz.f212 [1, 1, 1, 1, 1]) (fun s'' => evalC zf32.C zf32.A n (codeAt Tryz.f212 [1, 1, 1, 1, 1]) s'' k) s') (zf32.K0 n)
noncomputable def zf32.K2 (n : Nat) : Kont (Int × List Int × List Int) := blockK 0 (zf32.K1 n)
noncomputable def zf32.l5 (n m5 : Nat) (x6 x23 x24 : Int) (r0 : List Int) (r53_0 r53_1 : Int) (r53_2 r54 r55 : List Int) : Option (Int × List Int × List Int) := loopE (cutAt zf32.A.loops (codeAt Tryz.f212 [1, 1, 1, 1, 0, 1, 0, 0])) (fun s k => evalC zf32.C zf32.A n (codeAt Tryz.f212 [1, 1, 1, 1, 0, 1, 0, 0]) s k) m5 (St.of 53 117 [(0, .own 0), (3, .ptr 53 0 0), (6, .val (.int .i64) x6), (7, .own 54), (22, .own 55), (23, .val (.int .i64) x23), (24, .val (.int .i64) x24)] [(0, .row (.int .i64) 3 r0), (53, .box 142 [.val (.int .i64) r53_0, .val (.int .i64) r53_1, .val (.slice (.int .i64)) r53_2]), (54, .row (.int .i64) 3 r54), (55, .row (.int .i64) 3 r55)] [0]) (zf32.K2 n)
theorem zf32.eq (n : Nat) (x0 : List Int) (x1 : Int × Int × List Int) : zf32 n (x0, x1) = ((zf40 n (x0, x1.1, x1.2.1)).bind fun y0 => ((zf24 n (y0.1, (↑(List.length x1.2.2) : Int))).bind fun y1 => zf32.l5 n n (0) ((↑(List.length y1) : Int)) (0) y0.2 x1.1 x1.2.1 x1.2.2 ([]) (y1))) := by kernel_rfl
theorem zf32.l5_succ (n m5 : Nat) (x6 x23 x24 : Int) (r0 : List Int) (r53_0 r53_1 : Int) (r53_2 r54 r55 : List Int) : zf32.l5 n (m5 + 1) x6 x23 x24 r0 r53_0 r53_1 r53_2 r54 r55 = (if x24 < x23 then (if 0 ≤ x24 then (if x24 < (↑(List.length r55) : Int) then (if 0 ≤ x24 then (if x24 < (↑(List.length r53_2) : Int) then ((zf40 n (r0, List.getD r53_2 (Int.toNat x24) 0, List.getD r55 (Int.toNat x24) 0)).bind fun y2 => (if y2.1 > 0 then (if 0 ≤ x24 then (if x24 < (↑(List.length r53_2) : Int) then (if List.length r54 + List.length (List.set (List.replicate (1 : Nat) (0 : Int)) (0 : Nat) (List.getD r53_2 (Int.toNat x24) (0 : Int))) ≤ Go.Refl.maxN then zf32.l5 n m5 (Go.RowKit.wrap64 (x6 + y2.1)) (x23) (Go.RowKit.wrap64 (x24 + 1)) y2.2 (r53_0) (r53_1) (r53_2) (r54 ++ List.set (List.replicate 1 0) 0 (List.getD r53_2 (Int.toNat x24) 0)) (r55) else none) else none) else none) else zf32.l5 n m5 (x6) (x23) (Go.RowKit.wrap64 (x24 + 1)) y2.2 (r53_0) (r53_1) (r53_2) (r54) (r55))) else none) else none) else none) else none) else some ((x6, r54, r0))) := by kernel_rfl
noncomputable abbrev zf32.sg (n : Nat) : Sig := ⟨zf32.ps, zf32.res, zf32 n⟩
theorem zf32.call : Callable Tryz.prog 212 := ⟨Tryz.f212, Tryz.func212, by kernel_rfl, by kernel_rfl⟩
theorem zf32.ok (n : Nat) : FC Tryz.prog [] 212 (zf32.sg n) :=
  evalF_ok (C := zf32.C) ⟨tb_ok, fun n _ _ h => tabOk (l := [(233, (zf40.sg n)), (186, (zf24.sg n))]) (all_cons ⟨zf40.ok n, zf40.call⟩ (all_cons ⟨zf24.ok n, zf24.call⟩ (all_nil))) h, mixed, ar_ok, bld_ok, pts_ok⟩ zf32.A Tryz.func212 zf32.ps zf32.res n
abbrev zf3.ps : List Pm := [.arg (.v (.slice (.int .i64))), .arg (.v (.slice zt8)), .arg (.v (.int .i64))]
abbrev zf3.res : List M := [(.own (.int .i64) 3), .v (.int .i64), (.own (.int .i64) 3)]
noncomputable def zf3.C : Cfg := { tb := tb, tab := fun n f => Refl.look [(99, (zf42.sg n)), (100, (zf26.sg n)), (130, (zf60.sg n)), (212, (zf32.sg n)), (157, (zf61.sg n))] f, gl := [], ar := ar, bld := bld, pts := pts }
noncomputable def zf3.A : Ann := { joins := [], loops := [(7, { live := [1, 9, 10, 11, 12], base := 90 }), (10, { live := [1, 9, 10, 11, 12, 49, 50, 51], base := 90 }), (16, { live := [1, 9, 10, 11, 12, 49, 50, 51, 71, 72, 73], base := 90 })], ids := [(1, [(20, []), (26, [])]), (5, [(42, [42])]), (18, [(79, [])]), (19, [(83, [])])], pids := [], nroots := 154 }
noncomputable def zf3 (n : Nat) (x : List Int × List zt19 × Int) : Option zt18 := evalF zf3.C zf3.A Tryz.f182 zf3.ps zf3.res n x
noncomputable def zf3.K0 (_ : Nat) : Kont zt18 := finK zf3.C (Func.results Tryz.f182).toList zf3.ps zf3.res
noncomputable def zf3.K1 (n : Nat) : Kont zt18 := seqK (fun s' k => joinE zf3.A.joins (codeAt Tryz.f182 [1, 1, 1, 1, 1, 1]) (fun s'' => evalC zf3.C zf3.A n (codeAt Tryz.f182 [1, 1, 1, 1, 1, 1]) s'' k) s') (zf3.K0 n)
noncomputable def zf3.K2 (n : Nat) : Kont zt18 := blockK 0 (zf3.K1 n)
noncomputable def zf3.K3 (n m7 : Nat) : Kont zt18 := loopK (cutAt zf3.A.loops (codeAt Tryz.f182 [1, 1, 1, 1, 1, 0, 1, 0, 0])) (fun s k => evalC zf3.C zf3.A n (codeAt Tryz.f182 [1, 1, 1, 1, 1, 0, 1, 0, 0]) s k) m7 (zf3.K2 n)
noncomputable def zf3.K4 (n m7 : Nat) : Kont zt18 := seqK (fun s' k => joinE zf3.A.joins (codeAt Tryz.f182 [1, 1, 1, 1, 1, 0, 1, 0, 0, 1, 1]) (fun s'' => evalC zf3.C zf3.A n (codeAt Tryz.f182 [1, 1, 1, 1, 1, 0, 1, 0, 0, 1, 1]) s'' k) s') (zf3.K3 n m7)
noncomputable def zf3.K5 (n m7 : Nat) : Kont zt18 := blockK 1 (zf3.K4 n m7)
noncomputable def zf3.K6 (n m7 : Nat) : Kont zt18 := blockK 2 (zf3.K5 n m7)
noncomputable def zf3.K7 (n m7 m10 : Nat) : Kont zt18 := loopK (cutAt zf3.A.loops (codeAt Tryz.f182 [1, 1, 1, 1, 1, 0, 1, 0, 0, 1, 0, 0, 1, 0, 0])) (fun s k => evalC zf3.C zf3.A n (codeAt Tryz.f182 [1, 1, 1, 1, 1, 0, 1, 0, 0, 1, 0, 0, 1, 0, 0]) s k) m10 (zf3.K6 n m7)
noncomputable def zf3.K8 (n m7 m10 : Nat) : Kont zt18 := seqK (fun s' k => joinE zf3.A.joins (codeAt Tryz.f182 [1, 1, 1, 1, 1, 0, 1, 0, 0, 1, 0, 0, 1, 0, 0, 1, 1, 1]) (fun s'' => evalC zf3.C zf3.A n (codeAt Tryz.f182 [1, 1, 1, 1, 1, 0, 1, 0, 0, 1, 0, 0, 1, 0, 0, 1, 1, 1]) s'' k) s') (zf3.K7 n m7 m10)
noncomputable def zf3.K9 (n m7 m10 : Nat) : Kont zt18 := blockK 3 (zf3.K8 n m7 m10)
noncomputable def zf3.K10 (n m7 m10 : Nat) : Kont zt18 := blockK 4 (zf3.K9 n m7 m10)
noncomputable def zf3.l7 (n m7 : Nat) (x1 : List zt19) (x10 x12 : Int) (r90 r91 : List Int) : Option zt18 := loopE (cutAt zf3.A.loops (codeAt Tryz.f182 [1, 1, 1, 1, 1, 0, 1, 0, 0])) (fun s k => evalC zf3.C zf3.A n (codeAt Tryz.f182 [1, 1, 1, 1, 1, 0, 1, 0, 0]) s k) m7 (St.of 90 154 [(1, .val (.slice zt8) x1), (9, .own 90), (10, .val (.int .i64) x10), (11, .own 91), (12, .val (.int .i64) x12)] [(90, .row (.int .i64) 3 r90), (91, .row (.int .i64) 3 r91)] []) (zf3.K2 n)
noncomputable def zf3.l10 (n m7 m10 : Nat) (x1 : List zt19) (x10 x12 : Int) (x49 : List zt19) (x50 x51 : Int) (r90 r91 : List Int) : Option zt18 := loopE (cutAt zf3.A.loops (codeAt Tryz.f182 [1, 1, 1, 1, 1, 0, 1, 0, 0, 1, 0, 0, 1, 0, 0])) (fun s k => evalC zf3.C zf3.A n (codeAt Tryz.f182 [1, 1, 1, 1, 1, 0, 1, 0, 0, 1, 0, 0, 1, 0, 0]) s k) m10 (St.of 90 154 [(1, .val (.slice zt8) x1), (9, .own 90), (10, .val (.int .i64) x10), (11, .own 91), (12, .val (.int .i64) x12), (49, .val (.slice zt8) x49), (50, .val (.int .i64) x50), (51, .val (.int .i64) x51)] [(90, .row (.int .i64) 3 r90), (91, .row (.int .i64) 3 r91)] []) (zf3.K6 n m7)
noncomputable def zf3.l16 (n m7 m10 m16 : Nat) (x1 : List zt19) (x10 x12 : Int) (x49 : List zt19) (x50 x51 : Int) (x72 x73 : Int) (r90 r91 r92 : List Int) : Option zt18 := loopE (cutAt zf3.A.loops (codeAt Tryz.f182 [1, 1, 1, 1, 1, 0, 1, 0, 0, 1, 0, 0, 1, 0, 0, 1, 1, 0, 0, 1, 1, 1, 1, 1, 0, 0])) (fun s k => evalC zf3.C zf3.A n (codeAt Tryz.f182 [1, 1, 1, 1, 1, 0, 1, 0, 0, 1, 0, 0, 1, 0, 0, 1, 1, 0, 0, 1, 1, 1, 1, 1, 0, 0]) s k) m16 (St.of 90 154 [(1, .val (.slice zt8) x1), (9, .own 90), (10, .val (.int .i64) x10), (11, .own 91), (12, .val (.int .i64) x12), (49, .val (.slice zt8) x49), (50, .val (.int .i64) x50), (51, .val (.int .i64) x51), (71, .own 92), (72, .val (.int .i64) x72), (73, .val (.int .i64) x73)] [(90, .row (.int .i64) 3 r90), (91, .row (.int .i64) 3 r91), (92, .row (.int .i64) 3 r92)] []) (zf3.K10 n m7 m10)
theorem zf3.eq (n : Nat) (x0 : List Int) (x1 : List zt19) (x2 : Int) : zf3 n (x0, x1, x2) = ((zf42 n x0).bind fun y0 => (if (!y0) = Bool.true then some (([], (-1), [])) else ((zf26 n (x1, (↑(List.length x0) : Int))).bind fun y1 => (if (!y1) = Bool.true then some (([], (-1), [])) else (if x2 < 0 then some (([], (-1), [])) else (if x2 ≥ (↑(List.length x0) : Int) then some (([], (-1), [])) else ((zf60 n x0).bind fun y2 => zf3.l7 n n (x1) (0) (0) (y2) (List.set (List.replicate 1 0) 0 x2)))))))) := by kernel_rfl
theorem zf3.l7_succ (n m7 : Nat) (x1 : List zt19) (x10 x12 : Int) (r90 r91 : List Int) : zf3.l7 n (m7 + 1) x1 x10 x12 r90 r91 = (if x12 < (↑(List.length r91) : Int) then zf3.l10 n m7 n (x1) (x10) (x12) (x1) ((↑(List.length x1) : Int)) (0) (r90) (r91) else some ((r90, x10, r91))) := by kernel_rfl
theorem zf3.l10_succ (n m7 m10 : Nat) (x1 : List zt19) (x10 x12 : Int) (x49 : List zt19) (x50 x51 : Int) (r90 r91 : List Int) : zf3.l10 n m7 (m10 + 1) x1 x10 x12 x49 x50 x51 r90 r91 = (if x51 < x50 then (if 0 ≤ x51 then (if x51 < (↑(List.length x49) : Int) then (if 0 ≤ x12 then (if x12 < (↑(List.length r91) : Int) then (if Prod.fst (List.getD x49 (Int.toNat x51) (0, 0, [])) = List.getD r91 (Int.toNat x12) 0 then ((zf32 n (r90, Prod.fst (List.getD x49 (Int.toNat x51) (0, 0, [])), Prod.fst (Prod.snd (List.getD x49 (Int.toNat x51) (0, 0, []))), Prod.snd (Prod.snd (List.getD x49 (Int.toNat x51) (0, 0, []))))).bind fun y3 => zf3.l16 n m7 m10 n (x1) (Go.RowKit.wrap64 (x10 + y3.1)) (x12) (x49) (x50) (x51) ((↑(List.length y3.2.1) : Int)) (0) y3.2.2 (r91) y3.2.1) else zf3.l10 n m7 m10 (x1) (x10) (x12) (x49) (x50) (Go.RowKit.wrap64 (x51 + 1)) (r90) (r91)) else none) else none) else none) else none) else zf3.l7 n m7 (x1) (x10) (Go.RowKit.wrap64 (x12 + 1)) (r90) (r91)) := by kernel_rfl
theorem zf3.l16_succ (n m7 m10 m16 : Nat) (x1 : List zt19) (x10 x12 : Int) (x49 : List zt19) (x50 x51 : Int) (x72 x73 : Int) (r90 r91 r92 : List Int) : zf3.l16 n m7 m10 (m16 + 1) x1 x10 x12 x49 x50 x51 x72 x73 r90 r91 r92 = (if x73 < x72 then (if 0 ≤ x73 then (if x73 < (↑(List.length r92) : Int) then ((zf61 n (r91, List.getD r92 (Int.toNat x73) 0)).bind fun y4 => (if (!y4) = true then (if List.length r91 + List.length (List.set (List.replicate (1 : Nat) (0 : Int)) (0 : Nat) (List.getD r92 (Int.toNat x73) (0 : Int))) ≤ Go.Refl.maxN then zf3.l16 n m7 m10 m16 (x1) (x10) (x12) (x49) (x50) (x51) (x72) (Go.RowKit.wrap64 (x73 + 1)) (r90) (r91 ++ List.set (List.replicate 1 0) 0 (List.getD r92 (Int.toNat x73) 0)) (r92) else none) else zf3.l16 n m7 m10 m16 (x1) (x10) (x12) (x49) (x50) (x51) (x72) (Go.RowKit.wrap64 (x73 + 1)) (r90) (r91) (r92))) else none) else none) else zf3.l10 n m7 m10 (x1) (x10) (x12) (x49) (x50) (Go.RowKit.wrap64 (x51 + 1)) (r90) (r91)) := by kernel_rfl
noncomputable abbrev zf3.sg (n : Nat) : Sig := ⟨zf3.ps, zf3.res, zf3 n⟩
theorem zf3.call : Callable Tryz.prog 182 := ⟨Tryz.f182, Tryz.func182, by kernel_rfl, by kernel_rfl⟩
theorem zf3.ok (n : Nat) : FC Tryz.prog [] 182 (zf3.sg n) :=
  evalF_ok (C := zf3.C) ⟨tb_ok, fun n _ _ h => tabOk (l := [(99, (zf42.sg n)), (100, (zf26.sg n)), (130, (zf60.sg n)), (212, (zf32.sg n)), (157, (zf61.sg n))]) (all_cons ⟨zf42.ok n, zf42.call⟩ (all_cons ⟨zf26.ok n, zf26.call⟩ (all_cons ⟨zf60.ok n, zf60.call⟩ (all_cons ⟨zf32.ok n, zf32.call⟩ (all_cons ⟨zf61.ok n, zf61.call⟩ (all_nil)))))) h, mixed, ar_ok, bld_ok, pts_ok⟩ zf3.A Tryz.func182 zf3.ps zf3.res n
abbrev zf6.ps : List Pm := [.arg (.v zt8), .vp (.slice (.int .i64))]
abbrev zf6.res : List M := [.v .bool]
noncomputable def zf6.C : Cfg := { tb := tb, tab := fun n f => Refl.look [(157, (zf61.sg n))] f, gl := [], ar := ar, bld := bld, pts := pts }
noncomputable def zf6.A : Ann := { joins := [], loops := [], ids := [(1, [(7, [])])], pids := [], nroots := 72 }
noncomputable def zf6 (n : Nat) (x : zt19 × List Int) : Option (Bool) := evalF zf6.C zf6.A Tryz.f184 zf6.ps zf6.res n x
theorem zf6.eq (n : Nat) (x0 : Int × Int × List Int) (x1 : List Int) : zf6 n (x0, x1) = ((zf61 n (x1, x0.1)).bind fun y0 => some (y0)) := by kernel_rfl
noncomputable abbrev zf6.sg (n : Nat) : Sig := ⟨zf6.ps, zf6.res, zf6 n⟩
theorem zf6.call : Callable Tryz.prog 184 := ⟨Tryz.f184, Tryz.func184, by kernel_rfl, by kernel_rfl⟩
theorem zf6.ok (n : Nat) : FC Tryz.prog [] 184 (zf6.sg n) :=
  evalF_ok (C := zf6.C) ⟨tb_ok, fun n _ _ h => tabOk (l := [(157, (zf61.sg n))]) (all_cons ⟨zf61.ok n, zf61.call⟩ (all_nil)) h, mixed, ar_ok, bld_ok, pts_ok⟩ zf6.A Tryz.func184 zf6.ps zf6.res n
abbrev zf64.ps : List Pm := [.arg (.v (.slice zt8)), .fnc 184 [(.slice (.int .i64))]]
abbrev zf64.res : List M := [.v (.int .i64)]
noncomputable def zf64.C : Cfg := { tb := tb, tab := fun n f => Refl.look [(184, (zf6.sg n))] f, gl := [], ar := ar, bld := bld, pts := pts }
noncomputable def zf64.A : Ann := { joins := [], loops := [(2, { live := [0, 1, 7, 8], base := 19 })], ids := [(4, [(16, [])])], pids := [], nroots := 83 }
noncomputable def zf64 (n : Nat) (x : List zt19 × List Int) : Option (Int) := evalF zf64.C zf64.A Tryz.f213 zf64.ps zf64.res n x
noncomputable def zf64.K0 (_ : Nat) : Kont (Int) := finK zf64.C (Func.results Tryz.f213).toList zf64.ps zf64.res
noncomputable def zf64.K1 (n : Nat) : Kont (Int) := seqK (fun s' k => joinE zf64.A.joins (codeAt Tryz.f213 [1, 1]) (fun s'' => evalC zf64.C zf64.A n (codeAt Tryz.f213 [1, 1]) s'' k) s') (zf64.K0 n)
noncomputable def zf64.K2 (n : Nat) : Kont (Int) := blockK 0 (zf64.K1 n)
noncomputable def zf64.l2 (n m2 : Nat) (x0 : List zt19) (x1_0 : List (List Int)) (x7 x8 : Int) : Option (Int) := loopE (cutAt zf64.A.loops (codeAt Tryz.f213 [1, 0, 1, 0, 0])) (fun s k => evalC zf64.C zf64.A n (codeAt Tryz.f213 [1, 0, 1, 0, 0]) s k) m2 (St.of 19 83 [(0, .val (.slice zt8) x0), (1, .fn 184 [.vptr (.slice (.int .i64)) x1_0 0 0]), (7, .val (.int .i64) x7), (8, .val (.int .i64) x8)] [] []) (zf64.K2 n)
theorem zf64.eq (n : Nat) (x0 : List zt19) (x1 : List Int) : zf64 n (x0, x1) = zf64.l2 n n (x0) ([x1]) ((↑(List.length x0) : Int)) (0) := by kernel_rfl
theorem zf64.l2_succ (n m2 : Nat) (x0 : List zt19) (x1_0 : List (List Int)) (x7 x8 : Int) : zf64.l2 n (m2 + 1) x0 x1_0 x7 x8 = (if x8 < x7 then (if 0 ≤ x8 then (if x8 < (↑(List.length x0) : Int) then ((zf6 n (List.getD x0 (Int.toNat x8) (0, 0, []), List.getD x1_0 0 [])).bind fun y0 => (if (y0) = true then some (x8) else zf64.l2 n m2 (x0) (x1_0) (x7) (Go.RowKit.wrap64 (x8 + 1)))) else none) else none) else some ((-1))) := by kernel_rfl
noncomputable abbrev zf64.sg (n : Nat) : Sig := ⟨zf64.ps, zf64.res, zf64 n⟩
theorem zf64.call : Callable Tryz.prog 213 := ⟨Tryz.f213, Tryz.func213, by kernel_rfl, by kernel_rfl⟩
theorem zf64.ok (n : Nat) : FC Tryz.prog [] 213 (zf64.sg n) :=
  evalF_ok (C := zf64.C) ⟨tb_ok, fun n _ _ h => tabOk (l := [(184, (zf6.sg n))]) (all_cons ⟨zf6.ok n, zf6.call⟩ (all_nil)) h, mixed, ar_ok, bld_ok, pts_ok⟩ zf64.A Tryz.func213 zf64.ps zf64.res n
abbrev zf62.ps : List Pm := [.arg (.own zt8 142), .fnc 184 [(.slice (.int .i64))]]
abbrev zf62.res : List M := [(.own zt8 142)]
noncomputable def zf62.C : Cfg := { tb := tb, tab := fun n f => Refl.look [(213, (zf64.sg n)), (184, (zf6.sg n))] f, gl := [], ar := ar, bld := bld, pts := pts }
noncomputable def zf62.A : Ann := { joins := [], loops := [(5, { live := [0, 1, 5, 6], base := 42 })], ids := [(1, [(10, [])]), (8, [(28, [])])], pids := [], nroots := 106 }
noncomputable def zf62 (n : Nat) (x : List zt19 × List Int) : Option zt17 := evalF zf62.C zf62.A Tryz.f183 zf62.ps zf62.res n x
noncomputable def zf62.K0 (_ : Nat) : Kont zt17 := finK zf62.C (Func.results Tryz.f183).toList zf62.ps zf62.res
noncomputable def zf62.K1 (n : Nat) : Kont zt17 := seqK (fun s' k => joinE zf62.A.joins (codeAt Tryz.f183 [1, 1, 1, 1]) (fun s'' => evalC zf62.C zf62.A n (codeAt Tryz.f183 [1, 1, 1, 1]) s'' k) s') (zf62.K0 n)
noncomputable def zf62.K2 (n : Nat) : Kont zt17 := blockK 0 (zf62.K1 n)
noncomputable def zf62.l5 (n m5 : Nat) (x1_0 : List (List Int)) (x5 x6 : Int) (r42 : List zt19) : Option zt17 := loopE (cutAt zf62.A.loops (codeAt Tryz.f183 [1, 1, 1, 0, 1, 0, 0])) (fun s k => evalC zf62.C zf62.A n (codeAt Tryz.f183 [1, 1, 1, 0, 1, 0, 0]) s k) m5 (St.of 42 106 [(0, .own 42), (1, .fn 184 [.vptr (.slice (.int .i64)) x1_0 0 0]), (5, .val (.int .i64) x5), (6, .val (.int .i64) x6)] [(42, .row zt8 142 r42)] []) (zf62.K2 n)
theorem zf62.eq (n : Nat) (x0 : List zt19) (x1 : List Int) : zf62 n (x0, x1) = ((zf64 n (x0, x1)).bind fun y0 => (if y0 = (-1) then some (x0) else zf62.l5 n n ([x1]) (y0) (Go.RowKit.wrap64 (y0 + 1)) (x0))) := by kernel_rfl
theorem zf62.l5_succ (n m5 : Nat) (x1_0 : List (List Int)) (x5 x6 : Int) (r42 : List zt19) : zf62.l5 n (m5 + 1) x1_0 x5 x6 r42 = (if x6 < (↑(List.length r42) : Int) then (if 0 ≤ x6 then (if x6 < (↑(List.length r42) : Int) then ((zf6 n ((Prod.fst (List.getD r42 (Int.toNat x6) (0, 0, [])), Prod.fst (Prod.snd (List.getD r42 (Int.toNat x6) (0, 0, []))), Prod.snd (Prod.snd (List.getD r42 (Int.toNat x6) (0, 0, [])))), List.getD x1_0 0 [])).bind fun y1 => (if (!y1) = true then (if 0 ≤ x5 then (if x5 < (↑(List.length r42) : Int) then zf62.l5 n m5 (x1_0) (Go.RowKit.wrap64 (x5 + 1)) (Go.RowKit.wrap64 (x6 + 1)) (List.set r42 (Int.toNat x5) (Prod.fst (List.getD r42 (Int.toNat x6) (0, 0, [])), Prod.fst (Prod.snd (List.getD r42 (Int.toNat x6) (0, 0, []))), Prod.snd (Prod.snd (List.getD r42 (Int.toNat x6) (0, 0, []))))) else none) else none) else zf62.l5 n m5 (x1_0) (x5) (Go.RowKit.wrap64 (x6 + 1)) (r42))) else none) else none) else (if 0 ≤ x5 then (if x5 ≤ (↑(List.length r42) : Int) then (if 0 ≤ x5 then (if x5 ≤ (↑(List.length (List.take (Int.toNat x5) r42 ++ List.replicate (List.length r42 - Int.toNat x5) ((0 : Int), (0 : Int), []) ++ List.drop (Int.toNat x5 + (List.length r42 - Int.toNat x5)) r42)) : Int) then some (List.take (Int.toNat x5 - 0) (List.take (Int.toNat x5) r42 ++ List.replicate (List.length r42 - Int.toNat x5) (0, 0, []) ++ List.drop (Int.toNat x5 + (List.length r42 - Int.toNat x5)) r42)) else none) else none) else none) else none)) := by kernel_rfl
noncomputable abbrev zf62.sg (n : Nat) : Sig := ⟨zf62.ps, zf62.res, zf62 n⟩
theorem zf62.call : Callable Tryz.prog 183 := ⟨Tryz.f183, Tryz.func183, by kernel_rfl, by kernel_rfl⟩
theorem zf62.ok (n : Nat) : FC Tryz.prog [] 183 (zf62.sg n) :=
  evalF_ok (C := zf62.C) ⟨tb_ok, fun n _ _ h => tabOk (l := [(213, (zf64.sg n)), (184, (zf6.sg n))]) (all_cons ⟨zf64.ok n, zf64.call⟩ (all_cons ⟨zf6.ok n, zf6.call⟩ (all_nil))) h, mixed, ar_ok, bld_ok, pts_ok⟩ zf62.A Tryz.func183 zf62.ps zf62.res n
abbrev zf5.ps : List Pm := [.box 41 (.pr (.own (.int .i64) 3) (.pr (.own zt8 142) (.v zt13))), .arg (.v (.int .i64))]
abbrev zf5.res : List M := [.v .bool]
noncomputable def zf5.C : Cfg := { tb := tb, tab := fun n f => Refl.look [(182, (zf3.sg n)), (183, (zf62.sg n))] f, gl := [], ar := ar, bld := bld, pts := pts }
noncomputable def zf5.A : Ann := { joins := [], loops := [], ids := [(1, [(18, [77, 78])])], pids := [(0, [101, 102])], nroots := 109 }
noncomputable def zf5 (n : Nat) (x : zt10 × Int) : Option (Bool × List Int × List zt19 × Int × Int × Int) := evalF zf5.C zf5.A Tryz.f135 zf5.ps zf5.res n x
theorem zf5.eq (n : Nat) (x0 : List Int × List zt19 × Int × Int × Int) (x1 : Int) : zf5 n (x0, x1) = ((zf3 n (x0.1, x0.2.1, x1)).bind fun y2 => (if y2.2.1 < 0 then some ((Bool.false, x0.1, x0.2.1, x0.2.2.1, x0.2.2.2.1, x0.2.2.2.2)) else ((zf62 n (x0.2.1, y2.2.2)).bind fun y3 => some ((Bool.true, y2.1, y3, x0.2.2.1, Go.RowKit.wrap64 (x0.2.2.2.1 - y2.2.1), x0.2.2.2.2))))) := by kernel_rfl
noncomputable abbrev zf5.sg (n : Nat) : Sig := ⟨zf5.ps, zf5.res, zf5 n⟩
theorem zf5.call : Callable Tryz.prog 135 := ⟨Tryz.f135, Tryz.func135, by kernel_rfl, by kernel_rfl⟩
theorem zf5.ok (n : Nat) : FC Tryz.prog [] 135 (zf5.sg n) :=
  evalF_ok (C := zf5.C) ⟨tb_ok, fun n _ _ h => tabOk (l := [(182, (zf3.sg n)), (183, (zf62.sg n))]) (all_cons ⟨zf3.ok n, zf3.call⟩ (all_cons ⟨zf62.ok n, zf62.call⟩ (all_nil))) h, mixed, ar_ok, bld_ok, pts_ok⟩ zf5.A Tryz.func135 zf5.ps zf5.res n
abbrev zf27.ps : List Pm := [.arg (.v zt16)]
abbrev zf27.res : List M := [.v .bool]
noncomputable def zf27.C : Cfg := { tb := tb, tab := fun n f => Refl.look [] f, gl := [], ar := ar, bld := bld, pts := pts }
noncomputable def zf27.A : Ann := { joins := [], loops := [], ids := [], pids := [], nroots := 87 }
noncomputable def zf27 (n : Nat) (x : Int × Int) : Option (Bool) := evalF zf27.C zf27.A Tryz.f120 zf27.ps zf27.res n x
theorem zf27.eq (n : Nat) (x0 : Int × Int) : zf27 n x0 = (if x0.2 ≥ 1 then (if x0.2 ≤ 1000 then (if x0.1 ≥ 0 then some (Decidable.decide (x0.1 ≤ x0.2)) else some (Bool.false)) else some (Bool.false)) else some (Bool.false)) := by kernel_rfl
noncomputable abbrev zf27.sg (n : Nat) : Sig := ⟨zf27.ps, zf27.res, zf27 n⟩
theorem zf27.call : Callable Tryz.prog 120 := ⟨Tryz.f120, Tryz.func120, by kernel_rfl, by kernel_rfl⟩
theorem zf27.ok (n : Nat) : FC Tryz.prog [] 120 (zf27.sg n) :=
  evalF_ok (C := zf27.C) ⟨tb_ok, fun n _ _ h => tabOk (l := []) (all_nil) h, mixed, ar_ok, bld_ok, pts_ok⟩ zf27.A Tryz.func120 zf27.ps zf27.res n
abbrev zf41.ps : List Pm := [.arg (.v (.int .i64)), .arg (.v zt16)]
abbrev zf41.res : List M := [.v .bool]
noncomputable def zf41.C : Cfg := { tb := tb, tab := fun n f => Refl.look [(120, (zf27.sg n))] f, gl := [], ar := ar, bld := bld, pts := pts }
noncomputable def zf41.A : Ann := { joins := [], loops := [], ids := [(1, [(13, [])])], pids := [], nroots := 79 }
noncomputable def zf41 (n : Nat) (x : Int × Int × Int) : Option (Bool) := evalF zf41.C zf41.A Tryz.f214 zf41.ps zf41.res n x
theorem zf41.eq (n : Nat) (x0 : Int) (x1 : Int × Int) : zf41 n (x0, x1) = (if x0 ≥ 0 then (if x0 ≤ 1000000 then ((zf27 n (x1.1, x1.2)).bind fun y0 => some (y0)) else some (Bool.false)) else some (Bool.false)) := by kernel_rfl
noncomputable abbrev zf41.sg (n : Nat) : Sig := ⟨zf41.ps, zf41.res, zf41 n⟩
theorem zf41.call : Callable Tryz.prog 214 := ⟨Tryz.f214, Tryz.func214, by kernel_rfl, by kernel_rfl⟩
theorem zf41.ok (n : Nat) : FC Tryz.prog [] 214 (zf41.sg n) :=
  evalF_ok (C := zf41.C) ⟨tb_ok, fun n _ _ h => tabOk (l := [(120, (zf27.sg n))]) (all_cons ⟨zf27.ok n, zf27.call⟩ (all_nil)) h, mixed, ar_ok, bld_ok, pts_ok⟩ zf41.A Tryz.func214 zf41.ps zf41.res n
abbrev zf20.ps : List Pm := [.arg (.v (.int .i64)), .arg (.v zt16)]
abbrev zf20.res : List M := [.v (.int .i64)]
noncomputable def zf20.C : Cfg := { tb := tb, tab := fun n f => Refl.look [(214, (zf41.sg n))] f, gl := [], ar := ar, bld := bld, pts := pts }
noncomputable def zf20.A : Ann := { joins := [], loops := [], ids := [(1, [(9, [])])], pids := [], nroots := 108 }
noncomputable def zf20 (n : Nat) (x : Int × Int × Int) : Option (Int) := evalF zf20.C zf20.A Tryz.f185 zf20.ps zf20.res n x
theorem zf20.eq (n : Nat) (x0 : Int) (x1 : Int × Int) : zf20 n (x0, x1) = ((zf41 n (x0, x1.1, x1.2)).bind fun y0 => (if (!y0) = true then some ((-1)) else (if x1.2 = 0 then none else (if x1.2 = 0 then none else (if Go.RowKit.wrap64 (2 * Int.tmod (Go.RowKit.wrap64 (x0 * x1.1)) x1.2) > x1.2 then some (Go.RowKit.wrap64 (Go.RowKit.wrap64 (Int.tdiv (Go.RowKit.wrap64 (x0 * x1.1)) x1.2) + 1)) else (if Go.RowKit.wrap64 (2 * Int.tmod (Go.RowKit.wrap64 (x0 * x1.1)) x1.2) = x1.2 then (if Int.tmod (Go.RowKit.wrap64 (Int.tdiv (Go.RowKit.wrap64 (x0 * x1.1)) x1.2)) 2 = 1 then some (Go.RowKit.wrap64 (Go.RowKit.wrap64 (Int.tdiv (Go.RowKit.wrap64 (x0 * x1.1)) x1.2) + 1)) else some (Go.RowKit.wrap64 (Int.tdiv (Go.RowKit.wrap64 (x0 * x1.1)) x1.2))) else some (Go.RowKit.wrap64 (Int.tdiv (Go.RowKit.wrap64 (x0 * x1.1)) x1.2)))))))) := by kernel_rfl
noncomputable abbrev zf20.sg (n : Nat) : Sig := ⟨zf20.ps, zf20.res, zf20 n⟩
theorem zf20.call : Callable Tryz.prog 185 := ⟨Tryz.f185, Tryz.func185, by kernel_rfl, by kernel_rfl⟩
theorem zf20.ok (n : Nat) : FC Tryz.prog [] 185 (zf20.sg n) :=
  evalF_ok (C := zf20.C) ⟨tb_ok, fun n _ _ h => tabOk (l := [(214, (zf41.sg n))]) (all_cons ⟨zf41.ok n, zf41.call⟩ (all_nil)) h, mixed, ar_ok, bld_ok, pts_ok⟩ zf20.A Tryz.func185 zf20.ps zf20.res n
abbrev zf9.ps : List Pm := [.box 41 (.pr (.own (.int .i64) 3) (.pr (.own zt8 142) (.v zt13))), .arg (.v zt16)]
abbrev zf9.res : List M := [.v .bool]
noncomputable def zf9.C : Cfg := { tb := tb, tab := fun n f => Refl.look [(120, (zf27.sg n)), (185, (zf20.sg n))] f, gl := [], ar := ar, bld := bld, pts := pts }
noncomputable def zf9.A : Ann := { joins := [], loops := [(4, { live := [0, 3, 14, 15], base := 56 })], ids := [(1, [(8, [])]), (6, [(27, [])])], pids := [(0, [112, 113])], nroots := 120 }
noncomputable def zf9 (n : Nat) (x : zt10 × Int × Int) : Option (Bool × List Int × List zt19 × Int × Int × Int) := evalF zf9.C zf9.A Tryz.f136 zf9.ps zf9.res n x
noncomputable def zf9.K0 (_ : Nat) : Kont (Bool × List Int × List zt19 × Int × Int × Int) := finK zf9.C (Func.results Tryz.f136).toList zf9.ps zf9.res
noncomputable def zf9.K1 (n : Nat) : Kont (Bool × List Int × List zt19 × Int × Int × Int) := seqK (fun s' k => joinE zf9.A.joins (codeAt Tryz.f136 [1, 1, 1]) (fun s'' => evalC zf9.C zf9.A n (codeAt Tryz.f136 [1, 1, 1]) s'' k) s') (zf9.K0 n)
noncomputable def zf9.K2 (n : Nat) : Kont (Bool × List Int × List zt19 × Int × Int × Int) := blockK 0 (zf9.K1 n)
noncomputable def zf9.l4 (n m4 : Nat) (x14 x15 : Int) (r0_2 r0_3 : Int) (r0_4 r56_0 r56_1 : Int) (r57 : List Int) (r58 : List zt19) : Option (Bool × List Int × List zt19 × Int × Int × Int) := loopE (cutAt zf9.A.loops (codeAt Tryz.f136 [1, 1, 0, 1, 0, 0])) (fun s k => evalC zf9.C zf9.A n (codeAt Tryz.f136 [1, 1, 0, 1, 0, 0]) s k) m4 (St.of 56 120 [(0, .ptr 0 0 0), (3, .ptr 56 0 0), (14, .val (.int .i64) x14), (15, .val (.int .i64) x15)] [(0, .box 41 [.own 57, .own 58, .val (.int .i64) r0_2, .val (.int .i64) r0_3, .val (.int .i64) r0_4]), (56, .box 26 [.val (.int .i64) r56_0, .val (.int .i64) r56_1]), (57, .row (.int .i64) 3 r57), (58, .row zt8 142 r58)] [0]) (zf9.K2 n)
theorem zf9.eq (n : Nat) (x0 : List Int × List zt19 × Int × Int × Int) (x1 : Int × Int) : zf9 n (x0, x1) = ((zf27 n (x1.1, x1.2)).bind fun y0 => (if (!y0) = true then some ((Bool.false, x0.1, x0.2.1, x0.2.2.1, x0.2.2.2.1, x0.2.2.2.2)) else zf9.l4 n n ((↑(List.length x0.2.1) : Int)) (0) x0.2.2.1 x0.2.2.2.1 x0.2.2.2.2 x1.1 x1.2 x0.1 x0.2.1)) := by kernel_rfl
theorem zf9.l4_succ (n m4 : Nat) (x14 x15 : Int) (r0_2 r0_3 : Int) (r0_4 r56_0 r56_1 : Int) (r57 : List Int) (r58 : List zt19) : zf9.l4 n (m4 + 1) x14 x15 r0_2 r0_3 r0_4 r56_0 r56_1 r57 r58 = (if x15 < x14 then (if 0 ≤ x15 then (if x15 < (↑(List.length r58) : Int) then ((zf20 n (Prod.fst (Prod.snd (List.getD r58 (Int.toNat x15) (0, 0, []))), r56_0, r56_1)).bind fun y1 => (if 0 ≤ x15 then (if x15 < (↑(List.length r58) : Int) then (if 0 ≤ x15 then (if x15 < (↑(List.length r58) : Int) then zf9.l4 n m4 (x14) (Go.RowKit.wrap64 (x15 + 1)) (r0_2) (Go.RowKit.wrap64 (r0_3 + y1)) (r0_4) (r56_0) (r56_1) (r57) (List.set r58 (Int.toNat x15) (Prod.fst (List.getD r58 (Int.toNat x15) (0, 0, [])), Go.RowKit.wrap64 (Prod.fst (Prod.snd (List.getD r58 (Int.toNat x15) (0, 0, []))) + y1), Prod.snd (Prod.snd (List.getD r58 (Int.toNat x15) (0, 0, []))))) else none) else none) else none) else none)) else none) else none) else some ((Bool.true, r57, r58, r0_2, r0_3, Go.RowKit.wrap64 (r0_4 + 1)))) := by kernel_rfl
noncomputable abbrev zf9.sg (n : Nat) : Sig := ⟨zf9.ps, zf9.res, zf9 n⟩
theorem zf9.call : Callable Tryz.prog 136 := ⟨Tryz.f136, Tryz.func136, by kernel_rfl, by kernel_rfl⟩
theorem zf9.ok (n : Nat) : FC Tryz.prog [] 136 (zf9.sg n) :=
  evalF_ok (C := zf9.C) ⟨tb_ok, fun n _ _ h => tabOk (l := [(120, (zf27.sg n)), (185, (zf20.sg n))]) (all_cons ⟨zf27.ok n, zf27.call⟩ (all_cons ⟨zf20.ok n, zf20.call⟩ (all_nil))) h, mixed, ar_ok, bld_ok, pts_ok⟩ zf9.A Tryz.func136 zf9.ps zf9.res n
abbrev zf11.ps : List Pm := [.box 41 (.pr (.own (.int .i64) 3) (.pr (.own zt8 142) (.v zt13)))]
abbrev zf11.res : List M := [.v .bool]
noncomputable def zf11.C : Cfg := { tb := tb, tab := fun n f => Refl.look [(186, (zf24.sg n))] f, gl := [], ar := ar, bld := bld, pts := pts }
noncomputable def zf11.A : Ann := { joins := [], loops := [(4, { live := [0, 19, 20, 21], base := 40 })], ids := [], pids := [(0, [96, 97])], nroots := 104 }
noncomputable def zf11 (n : Nat) (x : List Int × List zt19 × Int × Int × Int) : Option (Bool × List Int × List zt19 × Int × Int × Int) := evalF zf11.C zf11.A Tryz.f137 zf11.ps zf11.res n x
noncomputable def zf11.K0 (_ : Nat) : Kont (Bool × List Int × List zt19 × Int × Int × Int) := finK zf11.C (Func.results Tryz.f137).toList zf11.ps zf11.res
noncomputable def zf11.K1 (n : Nat) : Kont (Bool × List Int × List zt19 × Int × Int × Int) := seqK (fun s' k => joinE zf11.A.joins (codeAt Tryz.f137 [1, 1, 1]) (fun s'' => evalC zf11.C zf11.A n (codeAt Tryz.f137 [1, 1, 1]) s'' k) s') (zf11.K0 n)
noncomputable def zf11.K2 (n : Nat) : Kont (Bool × List Int × List zt19 × Int × Int × Int) := blockK 0 (zf11.K1 n)
noncomputable def zf11.l4 (n m4 : Nat) (x20 x21 : Int) (r0_2 r0_3 r0_4 : Int) (r40 r41 : List Int) (r42 : List zt19) : Option (Bool × List Int × List zt19 × Int × Int × Int) := loopE (cutAt zf11.A.loops (codeAt Tryz.f137 [1, 1, 0, 1, 0, 0])) (fun s k => evalC zf11.C zf11.A n (codeAt Tryz.f137 [1, 1, 0, 1, 0, 0]) s k) m4 (St.of 40 104 [(0, .ptr 0 0 0), (19, .own 40), (20, .val (.int .i64) x20), (21, .val (.int .i64) x21)] [(0, .box 41 [.own 41, .own 42, .val (.int .i64) r0_2, .val (.int .i64) r0_3, .val (.int .i64) r0_4]), (40, .row (.int .i64) 3 r40), (41, .row (.int .i64) 3 r41), (42, .row zt8 142 r42)] [0]) (zf11.K2 n)
theorem zf11.eq (n : Nat) (x0 : List Int × List zt19 × Int × Int × Int) : zf11 n x0 = (if x0.2.2.2.1 < 0 then some ((Bool.false, x0.1, x0.2.1, x0.2.2.1, x0.2.2.2.1, x0.2.2.2.2)) else ((zf24 n (x0.2.2.2.1, (↑(List.length x0.1) : Int))).bind fun y0 => zf11.l4 n n ((↑(List.length y0) : Int)) (0) x0.2.2.1 x0.2.2.2.1 x0.2.2.2.2 (y0) x0.1 x0.2.1)) := by kernel_rfl
theorem zf11.l4_succ (n m4 : Nat) (x20 x21 : Int) (r0_2 r0_3 r0_4 : Int) (r40 r41 : List Int) (r42 : List zt19) : zf11.l4 n (m4 + 1) x20 x21 r0_2 r0_3 r0_4 r40 r41 r42 = (if x21 < x20 then (if 0 ≤ x21 then (if x21 < (↑(List.length r40) : Int) then (if 0 ≤ x21 then (if x21 < (↑(List.length r41) : Int) then (if 0 ≤ x21 then (if x21 < (↑(List.length r41) : Int) then zf11.l4 n m4 (x20) (Go.RowKit.wrap64 (x21 + 1)) (r0_2) (r0_3) (r0_4) (r40) (List.set r41 (Int.toNat x21) (Go.RowKit.wrap64 (List.getD r41 (Int.toNat x21) 0 + List.getD r40 (Int.toNat x21) 0))) (r42) else none) else none) else none) else none) else none) else none) else some ((Bool.true, r41, r42, r0_2, 0, r0_4))) := by kernel_rfl
noncomputable abbrev zf11.sg (n : Nat) : Sig := ⟨zf11.ps, zf11.res, zf11 n⟩
theorem zf11.call : Callable Tryz.prog 137 := ⟨Tryz.f137, Tryz.func137, by kernel_rfl, by kernel_rfl⟩
theorem zf11.ok (n : Nat) : FC Tryz.prog [] 137 (zf11.sg n) :=
  evalF_ok (C := zf11.C) ⟨tb_ok, fun n _ _ h => tabOk (l := [(186, (zf24.sg n))]) (all_cons ⟨zf24.ok n, zf24.call⟩ (all_nil)) h, mixed, ar_ok, bld_ok, pts_ok⟩ zf11.A Tryz.func137 zf11.ps zf11.res n
abbrev zf4.ps : List Pm := [.box 41 (.pr (.own (.int .i64) 3) (.pr (.own zt8 142) (.v zt13))), .arg (.v zt1)]
abbrev zf4.res : List M := [.v .bool]
noncomputable def zf4.C : Cfg := { tb := tb, tab := fun n f => Refl.look [(132, (zf8.sg n)), (42, (zf22.sg n)), (133, (zf7.sg n)), (134, (zf10.sg n)), (135, (zf5.sg n)), (136, (zf9.sg n)), (137, (zf11.sg n))] f, gl := [], ar := ar, bld := bld, pts := pts }
noncomputable def zf4.A : Ann := { joins := [], loops := [], ids := [(3, [(14, [])]), (6, [(22, [97, 98])]), (8, [(27, [100, 101]), (37, [])]), (10, [(43, [104, 105])]), (12, [(48, [107, 108])]), (14, [(54, [110, 111])]), (16, [(60, [113, 114])]), (18, [(64, [116, 117])])], pids := [(0, [121, 122])], nroots := 129 }
noncomputable def zf4 (n : Nat) (x : zt10 × Int × Int × Int × Int × List Int × Int × Int) : Option (Bool × List Int × List zt19 × Int × Int × Int) := evalF zf4.C zf4.A Tryz.f71 zf4.ps zf4.res n x
theorem zf4.eq (n : Nat) (x0 : List Int × List zt19 × Int × Int × Int) (x1 : Int × Int × Int × Int × List Int × Int × Int) : zf4 n (x0, x1) = (if x1.1 = 0 then (if List.length x0.1 + List.length (List.set (List.replicate (1 : Nat) (0 : Int)) (0 : Nat) (0 : Int)) ≤ Go.Refl.maxN then some ((Bool.true, x0.1 ++ List.set (List.replicate 1 0) 0 0, x0.2.1, x0.2.2.1, x0.2.2.2.1, x0.2.2.2.2)) else none) else (if x1.1 = 1 then ((zf8 n ((x0.1, x0.2.1, x0.2.2.1, x0.2.2.2.1, x0.2.2.2.2), (x1.1, x1.2.1, x1.2.2.1, x1.2.2.2.1, x1.2.2.2.2.1, x1.2.2.2.2.2.1, x1.2.2.2.2.2.2), 1)).bind fun y2 => some ((y2.1, y2.2.1, y2.2.2.1, y2.2.2.2.1, y2.2.2.2.2.1, y2.2.2.2.2.2))) else (if x1.1 = 2 then ((zf8 n ((x0.1, x0.2.1, x0.2.2.1, x0.2.2.2.1, x0.2.2.2.2), (x1.1, x1.2.1, x1.2.2.1, x1.2.2.2.1, x1.2.2.2.2.1, x1.2.2.2.2.2.1, x1.2.2.2.2.2.2), (-1))).bind fun y5 => (if y5.1 = Bool.true then ((zf22 n (y5.2.1, y5.2.2.1)).bind fun y6 => some ((y6, y5.2.1, y5.2.2.1, y5.2.2.2.1, y5.2.2.2.2.1, y5.2.2.2.2.2))) else some ((Bool.false, y5.2.1, y5.2.2.1, y5.2.2.2.1, y5.2.2.2.2.1, y5.2.2.2.2.2)))) else (if x1.1 = 3 then ((zf7 n ((x0.1, x0.2.1, x0.2.2.1, x0.2.2.2.1, x0.2.2.2.2), x1.1, x1.2.1, x1.2.2.1, x1.2.2.2.1, x1.2.2.2.2.1, x1.2.2.2.2.2.1, x1.2.2.2.2.2.2)).bind fun y9 => some ((y9.1, y9.2.1, y9.2.2.1, y9.2.2.2.1, y9.2.2.2.2.1, y9.2.2.2.2.2))) else (if x1.1 = 4 then ((zf10 n ((x0.1, x0.2.1, x0.2.2.1, x0.2.2.2.1, x0.2.2.2.2), x1.1, x1.2.1, x1.2.2.1, x1.2.2.2.1, x1.2.2.2.2.1, x1.2.2.2.2.2.1, x1.2.2.2.2.2.2)).bind fun y12 => some ((y12.1, y12.2.1, y12.2.2.1, y12.2.2.2.1, y12.2.2.2.2.1, y12.2.2.2.2.2))) else (if x1.1 = 5 then ((zf5 n ((x0.1, x0.2.1, x0.2.2.1, x0.2.2.2.1, x0.2.2.2.2), x1.2.1)).bind fun y15 => some ((y15.1, y15.2.1, y15.2.2.1, y15.2.2.2.1, y15.2.2.2.2.1, y15.2.2.2.2.2))) else (if x1.1 = 6 then ((zf9 n ((x0.1, x0.2.1, x0.2.2.1, x0.2.2.2.1, x0.2.2.2.2), x1.2.2.2.2.2.1, x1.2.2.2.2.2.2)).bind fun y18 => some ((y18.1, y18.2.1, y18.2.2.1, y18.2.2.2.1, y18.2.2.2.2.1, y18.2.2.2.2.2))) else (if x1.1 = 7 then ((zf11 n (x0.1, x0.2.1, x0.2.2.1, x0.2.2.2.1, x0.2.2.2.2)).bind fun y21 => some ((y21.1, y21.2.1, y21.2.2.1, y21.2.2.2.1, y21.2.2.2.2.1, y21.2.2.2.2.2))) else some ((Bool.false, x0.1, x0.2.1, x0.2.2.1, x0.2.2.2.1, x0.2.2.2.2)))))))))) := by kernel_rfl
noncomputable abbrev zf4.sg (n : Nat) : Sig := ⟨zf4.ps, zf4.res, zf4 n⟩
theorem zf4.call : Callable Tryz.prog 71 := ⟨Tryz.f71, Tryz.func71, by kernel_rfl, by kernel_rfl⟩
theorem zf4.ok (n : Nat) : FC Tryz.prog [] 71 (zf4.sg n) :=
  evalF_ok (C := zf4.C) ⟨tb_ok, fun n _ _ h => tabOk (l := [(132, (zf8.sg n)), (42, (zf22.sg n)), (133, (zf7.sg n)), (134, (zf10.sg n)), (135, (zf5.sg n)), (136, (zf9.sg n)), (137, (zf11.sg n))]) (all_cons ⟨zf8.ok n, zf8.call⟩ (all_cons ⟨zf22.ok n, zf22.call⟩ (all_cons ⟨zf7.ok n, zf7.call⟩ (all_cons ⟨zf10.ok n, zf10.call⟩ (all_cons ⟨zf5.ok n, zf5.call⟩ (all_cons ⟨zf9.ok n, zf9.call⟩ (all_cons ⟨zf11.ok n, zf11.call⟩ (all_nil)))))))) h, mixed, ar_ok, bld_ok, pts_ok⟩ zf4.A Tryz.func71 zf4.ps zf4.res n
abbrev zf2.ps : List Pm := [.arg (.v zt0), .arg (.v zt1)]
abbrev zf2.res : List M := [.v zt0, .v .bool]
noncomputable def zf2.C : Cfg := { tb := tb, tab := fun n f => Refl.look [(41, (zf25.sg n)), (70, (zf29.sg n)), (71, (zf4.sg n))] f, gl := [], ar := ar, bld := bld, pts := pts }
noncomputable def zf2.A : Ann := { joins := [], loops := [], ids := [(1, [(8, [])]), (3, [(12, [56, 57])]), (4, [(14, [59, 60]), (18, [])])], pids := [], nroots := 87 }
noncomputable def zf2 (n : Nat) (x : zt10 × Int × Int × Int × Int × List Int × Int × Int) : Option (zt10 × Bool) := evalF zf2.C zf2.A Tryz.f24 zf2.ps zf2.res n x
theorem zf2.eq (n : Nat) (x0 : List Int × List zt19 × Int × Int × Int) (x1 : Int × Int × Int × Int × List Int × Int × Int) : zf2 n (x0, x1) = ((zf25 n (x0.1, x0.2.1, x0.2.2.1, x0.2.2.2.1, x0.2.2.2.2)).bind fun y0 => (if (!y0) = true then some ((([], [], 0, 0, 0), Bool.false)) else ((zf29 n (x0.1, x0.2.1, x0.2.2.1, x0.2.2.2.1, x0.2.2.2.2)).bind fun y3 => ((zf4 n ((y3.1, y3.2.1, y3.2.2.1, y3.2.2.2.1, y3.2.2.2.2), x1.1, x1.2.1, x1.2.2.1, x1.2.2.2.1, x1.2.2.2.2.1, x1.2.2.2.2.2.1, x1.2.2.2.2.2.2)).bind fun y6 => (if (!y6.1) = Bool.true then some ((([], [], 0, 0, 0), Bool.false)) else ((zf25 n (y6.2.1, y6.2.2.1, y6.2.2.2.1, y6.2.2.2.2.1, y6.2.2.2.2.2)).bind fun y7 => (if (!y7) = true then some ((([], [], 0, 0, 0), Bool.false)) else some (((y6.2.1, y6.2.2.1, y6.2.2.2.1, y6.2.2.2.2.1, y6.2.2.2.2.2), Bool.true))))))))) := by kernel_rfl
noncomputable abbrev zf2.sg (n : Nat) : Sig := ⟨zf2.ps, zf2.res, zf2 n⟩
theorem zf2.call : Callable Tryz.prog 24 := ⟨Tryz.f24, Tryz.func24, by kernel_rfl, by kernel_rfl⟩
theorem zf2.ok (n : Nat) : FC Tryz.prog [] 24 (zf2.sg n) :=
  evalF_ok (C := zf2.C) ⟨tb_ok, fun n _ _ h => tabOk (l := [(41, (zf25.sg n)), (70, (zf29.sg n)), (71, (zf4.sg n))]) (all_cons ⟨zf25.ok n, zf25.call⟩ (all_cons ⟨zf29.ok n, zf29.call⟩ (all_cons ⟨zf4.ok n, zf4.call⟩ (all_nil)))) h, mixed, ar_ok, bld_ok, pts_ok⟩ zf2.A Tryz.func24 zf2.ps zf2.res n
abbrev zf21.ps : List Pm := [.arg (.v zt0), .arg (.v (.slice zt1))]
abbrev zf21.res : List M := [.v zt0, .v .bool]
noncomputable def zf21.C : Cfg := { tb := tb, tab := fun n f => Refl.look [(41, (zf25.sg n)), (70, { params := zf29.ps, res := [.v zt0], run := zf29 n }), (24, (zf2.sg n))] f, gl := [], ar := ar, bld := bld, pts := pts }
noncomputable def zf21.A : Ann := { joins := [], loops := [(5, { live := [4, 6, 22, 23, 24], base := 40 })], ids := [(1, [(12, [])]), (3, [(21, [])]), (7, [(31, [])])], pids := [], nroots := 104 }
noncomputable def zf21 (n : Nat) (x : zt10 × List zt14) : Option (zt10 × Bool) := evalF zf21.C zf21.A Tryz.f28 zf21.ps zf21.res n x
noncomputable def zf21.K0 (_ : Nat) : Kont (zt10 × Bool) := finK zf21.C (Func.results Tryz.f28).toList zf21.ps zf21.res
noncomputable def zf21.K1 (n : Nat) : Kont (zt10 × Bool) := seqK (fun s' k => joinE zf21.A.joins (codeAt Tryz.f28 [1, 1, 1, 1]) (fun s'' => evalC zf21.C zf21.A n (codeAt Tryz.f28 [1, 1, 1, 1]) s'' k) s') (zf21.K0 n)
noncomputable def zf21.K2 (n : Nat) : Kont (zt10 × Bool) := blockK 0 (zf21.K1 n)
noncomputable def zf21.l5 (n m5 : Nat) (x22 : List zt14) (x23 x24 : Int) (r40_2 r40_3 r40_4 : Int) (r41_0 : List Int) (r41_1 : List zt19) (r41_2 r41_3 r41_4 : Int) : Option (zt10 × Bool) := loopE (cutAt zf21.A.loops (codeAt Tryz.f28 [1, 1, 1, 0, 1, 0, 0])) (fun s k => evalC zf21.C zf21.A n (codeAt Tryz.f28 [1, 1, 1, 0, 1, 0, 0]) s k) m5 (St.of 40 104 [(4, .ptr 40 0 0), (6, .ptr 41 0 0), (22, .val (.slice zt1) x22), (23, .val (.int .i64) x23), (24, .val (.int .i64) x24)] [(40, .box 41 [.nils, .nils, .val (.int .i64) r40_2, .val (.int .i64) r40_3, .val (.int .i64) r40_4]), (41, .box 41 [.val (.slice (.int .i64)) r41_0, .val (.slice zt8) r41_1, .val (.int .i64) r41_2, .val (.int .i64) r41_3, .val (.int .i64) r41_4])] []) (zf21.K2 n)
theorem zf21.eq (n : Nat) (x0 : List Int × List zt19 × Int × Int × Int) (x1 : List zt14) : zf21 n (x0, x1) = ((zf25 n (x0.1, x0.2.1, x0.2.2.1, x0.2.2.2.1, x0.2.2.2.2)).bind fun y0 => (if (!y0) = Bool.true then some ((([], [], 0, 0, 0), Bool.false)) else (if (↑(List.length x1) : Int) > 30 then some ((([], [], 0, 0, 0), Bool.false)) else ((zf29 n (x0.1, x0.2.1, x0.2.2.1, x0.2.2.2.1, x0.2.2.2.2)).bind fun y1 => zf21.l5 n n (x1) ((↑(List.length x1) : Int)) (0) (0) (0) (0) y1.1 y1.2.1 y1.2.2.1 y1.2.2.2.1 y1.2.2.2.2)))) := by kernel_rfl
theorem zf21.l5_succ (n m5 : Nat) (x22 : List zt14) (x23 x24 : Int) (r40_2 r40_3 r40_4 : Int) (r41_0 : List Int) (r41_1 : List zt19) (r41_2 r41_3 r41_4 : Int) : zf21.l5 n (m5 + 1) x22 x23 x24 r40_2 r40_3 r40_4 r41_0 r41_1 r41_2 r41_3 r41_4 = (if x24 < x23 then (if 0 ≤ x24 then (if x24 < (↑(List.length x22) : Int) then ((zf2 n ((r41_0, r41_1, r41_2, r41_3, r41_4), Prod.fst (List.getD x22 (Int.toNat x24) (0, 0, 0, 0, [], 0, 0)), Prod.fst (Prod.snd (List.getD x22 (Int.toNat x24) (0, 0, 0, 0, [], 0, 0))), Prod.fst (Prod.snd (Prod.snd (List.getD x22 (Int.toNat x24) (0, 0, 0, 0, [], 0, 0)))), Prod.fst (Prod.snd (Prod.snd (Prod.snd (List.getD x22 (Int.toNat x24) (0, 0, 0, 0, [], 0, 0))))), Prod.fst (Prod.snd (Prod.snd (Prod.snd (Prod.snd (List.getD x22 (Int.toNat x24) (0, 0, 0, 0, [], 0, 0)))))), Prod.fst (Prod.snd (Prod.snd (Prod.snd (Prod.snd (Prod.snd (List.getD x22 (Int.toNat x24) (0, 0, 0, 0, [], 0, 0))))))), Prod.snd (Prod.snd (Prod.snd (Prod.snd (Prod.snd (Prod.snd (List.getD x22 (Int.toNat x24) (0, 0, 0, 0, [], 0, 0))))))))).bind fun y2 => (if (!y2.2) = true then some ((([], [], 0, 0, 0), Bool.false)) else zf21.l5 n m5 (x22) (x23) (Go.RowKit.wrap64 (x24 + 1)) (r40_2) (r40_3) (r40_4) y2.1.1 y2.1.2.1 y2.1.2.2.1 y2.1.2.2.2.1 y2.1.2.2.2.2)) else none) else none) else some (((r41_0, r41_1, r41_2, r41_3, r41_4), Bool.true))) := by kernel_rfl
noncomputable abbrev zf21.sg (n : Nat) : Sig := ⟨zf21.ps, zf21.res, zf21 n⟩
theorem zf21.call : Callable Tryz.prog 28 := ⟨Tryz.f28, Tryz.func28, by kernel_rfl, by kernel_rfl⟩
theorem zf21.ok (n : Nat) : FC Tryz.prog [] 28 (zf21.sg n) :=
  evalF_ok (C := zf21.C) ⟨tb_ok, fun n _ _ h => tabOk (l := [(41, (zf25.sg n)), (70, { params := zf29.ps, res := [.v zt0], run := zf29 n }), (24, (zf2.sg n))]) (all_cons ⟨zf25.ok n, zf25.call⟩ (all_cons ⟨FC.weak (.cons (.trans (.pr (.own _ _) (.trans (.pr (.own _ _) (.refl _)) (.vv _ _))) (.vv _ _)) .nil) HEq.rfl (zf29.ok n), zf29.call⟩ (all_cons ⟨zf2.ok n, zf2.call⟩ (all_nil)))) h, mixed, ar_ok, bld_ok, pts_ok⟩ zf21.A Tryz.func28 zf21.ps zf21.res n
end Go.Proofs.YtmnmbjnhhhdegaaGreatDoorG
end
