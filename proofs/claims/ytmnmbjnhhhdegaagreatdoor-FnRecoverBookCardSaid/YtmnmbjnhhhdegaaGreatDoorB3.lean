import Derived.Test.YtmnmbjnhhhdegaaGreatDoorProg
import Derived.Test.YtmnmbjnhhhdegaaGreatDoorB2
/- FnRecoverBook: functions, gone through by the small machine. No condition. -/
set_option linter.unusedVariables false
set_option linter.unusedSimpArgs false
section
set_option linter.unusedVariables false
namespace Go.Proofs
open Go Go.Shelf Go.RowKit Go.Refl
set_option maxHeartbeats 2000000 in
set_option maxRecDepth 100000 in
theorem Tryz.cc : CcOk Tryz.prog 125 95 := by
 intro b p v w hbk hp
 have X1 : (Tryz.prog.info? 95).map (·.size) = some 2 := by kernel_rfl
 have X2 : liesAt Tryz.prog Tryz.prog.depth 95 (2 / Tryz.prog.cellsOf 95) 0 95 1 = true := by kernel_rfl
 obtain ⟨j, hj, hjs⟩ := Option.map_eq_some_iff.1 X1
 have u72 := run_underlying (P := Tryz.prog) Tryz.underlying95
 have u70 := run_underlying (P := Tryz.prog) Tryz.underlying93
 have u164 := run_underlying (P := Tryz.prog) Tryz.underlying175
 rcases hp with rfl | rfl
 ·have h0 : w.cell? ⟨b, 0, none⟩ = some (.pointer none) := by rw [Lib.cell_of_heap hbk]; rfl
  have hsh : w.shape? b = some (95, 2) := by simp [World.shape?, hbk]
  have hfz : w.frozen? ⟨b, 0, none⟩ = false := Lib.frozen_of_heap hbk 0
  suffices hs : Calls Tryz.prog 125 #[.pointer (some ⟨b, 0, none⟩)] w fun e w' => e = .returned (.tuple #[]) ∧ w' = w.setCell ⟨b, 0, none⟩ (.pointer (some ⟨b, 0, none⟩)) by
   refine hs.mono ?_
   rintro e w' ⟨rfl, rfl⟩
   exact ⟨rfl, by simp [World.setCell, Array.getElem?_modify, hbk], evol_set w b 0 _, by simp [World.setCell]⟩
  go_enter Tryz.func125, Tryz.ntmps125
  go_wp2
  rw [Lib.run_to_unsafe w ⟨b, 0, none⟩ Tryz.underlying93 Tryz.underlying175 hj (by rw [hjs]; decide) hsh (Nat.zero_lt_succ 1)]
  simp only [Result.andThen]
  rw [Oper.upon_value]
  go_wp2
  rw [run_callFunc_extern Tryz.func177 (by kernel_rfl) (by kernel_rfl) (by kernel_rfl) (e := Extern.AbiNoEscape.same) (by kernel_rfl)]
  rw [Lib.run_noEscape]
  simp only [Result.andThen]
  rw [Oper.upon_value]
  go_wp2
  rw [Lib.run_from_unsafe w ⟨b, 0, none⟩ Tryz.underlying175 Tryz.underlying93 hj hsh X2]
  simp only [Result.andThen]
  rw [Oper.upon_value]
  go_wp2
  go_end0
  exact ⟨rfl, rfl⟩
 ·have h0 : w.cell? ⟨b, 0, none⟩ = some (.pointer (some ⟨b, 0, none⟩)) := by rw [Lib.cell_of_heap hbk]; rfl
  suffices hs : Calls Tryz.prog 125 #[.pointer (some ⟨b, 0, none⟩)] w fun e w' => e = .returned (.tuple #[]) ∧ w' = w by
   refine hs.mono ?_
   rintro e w' ⟨rfl, rfl⟩
   exact ⟨rfl, hbk, ⟨rfl, rfl, rfl, Nat.le_refl _, fun _ _ _ => rfl⟩, rfl⟩
  go_enter Tryz.func125, Tryz.ntmps125
  go_wp2
  rw [Lib.run_neq_ptr_same w _ Tryz.underlying93 hj]
  go_wp2
  go_end0
  exact ⟨rfl, rfl⟩
def Tryz.lays169_ren : Go.Shelf.Ren := ⟨fun | 169 => 66 | n => n, fun | 70 => 93 | 9 => 9 | 0 => 0 | 72 => 95 | 37 => 22 | 127 => 149 | 3 => 3 | 5 => 5 | n => n, fun | n => n⟩
theorem Tryz.lays169 : Go.Proofs.Lays.n169 Tryz.prog Tryz.lays169_ren := {
 mixed := by kernel_rfl
 f169 := Tryz.func66.trans (congrArg some (by kernel_rfl))
 t0 := Tryz.underlying0
 a0 := Tryz.isAgg0
 z0 := Tryz.sizeOf0
 v0 := Tryz.zeroValue0
 t3 := Tryz.underlying3
 a3 := Tryz.isAgg3
 z3 := Tryz.sizeOf3
 v3 := Tryz.zeroValue3
 t9 := Tryz.underlying9
 a9 := Tryz.isAgg9
 z9 := Tryz.sizeOf9
 v9 := Tryz.zeroValue9
 t37 := Tryz.underlying22
 a37 := Tryz.isAgg22
 z37 := Tryz.sizeOf22
 v37 := Tryz.zeroValue22
 t70 := Tryz.underlying93
 a70 := Tryz.isAgg93
 z70 := Tryz.sizeOf93
 v70 := Tryz.zeroValue93
 t72 := Tryz.underlying95
 a72 := Tryz.isAgg95
 z72 := Tryz.sizeOf95
 v72 := Tryz.zeroValue95
 t127 := Tryz.underlying149
 a127 := Tryz.isAgg149
 z127 := Tryz.sizeOf149
 v127 := Tryz.zeroValue149 }
theorem Tryz.Builder_Extra_169 : Builder.Extra Tryz.prog Tryz.lays169_ren := {
 sizeBuilder := by kernel_rfl
 liesBuilder := by kernel_rfl
 t5 := Tryz.underlying5
 a5 := Tryz.isAgg5
 z5 := Tryz.sizeOf5
 v5 := Tryz.zeroValue5
 infoByte := by kernel_rfl
 cellsByte := by kernel_rfl
 sizeByte := by kernel_rfl
 neB5 := by decide }
def Tryz.laysM171_ren : Go.Shelf.Ren := ⟨fun | 171 => 86 | 243 => 153 | 246 => 196 | 283 => 223 | 284 => 224 | 285 => 225 | 286 => 226 | 129 => 238 | 317 => 237 | 318 => 239 | 319 => 240 | 320 => 241 | 337 => 247 | 338 => 248 | n => n, fun | 3 => 3 | 9 => 9 | 2 => 2 | 4 => 4 | 171 => 206 | 0 => 0 | 53 => 207 | 37 => 22 | 5 => 5 | 173 => 210 | 212 => 224 | 51 => 213 | 20 => 20 | 213 => 225 | 46 => 193 | 232 => 238 | 233 => 239 | n => n, fun | 17 => 4 | 18 => 7 | 19 => 8 | n => n⟩
theorem Tryz.laysM171 : Go.Proofs.LaysM.n171 Tryz.prog Tryz.laysM171_ren := {
 mixed := by kernel_rfl
 f129 := Tryz.func238.trans (congrArg some (by kernel_rfl))
 f171 := Tryz.func86.trans (congrArg some (by kernel_rfl))
 f243 := Tryz.func153.trans (congrArg some (by kernel_rfl))
 f246 := Tryz.func196.trans (congrArg some (by kernel_rfl))
 f283 := Tryz.func223.trans (congrArg some (by kernel_rfl))
 f284 := Tryz.func224.trans (congrArg some (by kernel_rfl))
 f285 := Tryz.func225.trans (congrArg some (by kernel_rfl))
 f286 := Tryz.func226.trans (congrArg some (by kernel_rfl))
 f317 := Tryz.func237.trans (congrArg some (by kernel_rfl))
 f318 := Tryz.func239.trans (congrArg some (by kernel_rfl))
 f319 := Tryz.func240.trans (congrArg some (by kernel_rfl))
 f320 := Tryz.func241.trans (congrArg some (by kernel_rfl))
 f337 := Tryz.func247.trans (congrArg some (by kernel_rfl))
 f338 := Tryz.func248.trans (congrArg some (by kernel_rfl))
 t0 := Tryz.underlying0
 a0 := Tryz.isAgg0
 z0 := Tryz.sizeOf0
 v0 := Tryz.zeroValue0
 t2 := Tryz.underlying2
 a2 := Tryz.isAgg2
 z2 := Tryz.sizeOf2
 v2 := Tryz.zeroValue2
 t3 := Tryz.underlying3
 a3 := Tryz.isAgg3
 z3 := Tryz.sizeOf3
 v3 := Tryz.zeroValue3
 t4 := Tryz.underlying4
 a4 := Tryz.isAgg4
 z4 := Tryz.sizeOf4
 v4 := Tryz.zeroValue4
 t5 := Tryz.underlying5
 a5 := Tryz.isAgg5
 z5 := Tryz.sizeOf5
 v5 := Tryz.zeroValue5
 t9 := Tryz.underlying9
 a9 := Tryz.isAgg9
 z9 := Tryz.sizeOf9
 v9 := Tryz.zeroValue9
 t20 := Tryz.underlying20
 a20 := Tryz.isAgg20
 z20 := Tryz.sizeOf20
 v20 := Tryz.zeroValue20
 t37 := Tryz.underlying22
 a37 := Tryz.isAgg22
 z37 := Tryz.sizeOf22
 v37 := Tryz.zeroValue22
 t46 := Tryz.underlying193
 a46 := Tryz.isAgg193
 z46 := Tryz.sizeOf193
 v46 := Tryz.zeroValue193
 t51 := Tryz.underlying213
 a51 := Tryz.isAgg213
 z51 := Tryz.sizeOf213
 v51 := Tryz.zeroValue213
 t53 := Tryz.underlying207
 a53 := Tryz.isAgg207
 z53 := Tryz.sizeOf207
 v53 := Tryz.zeroValue207
 t171 := Tryz.underlying206
 a171 := Tryz.isAgg206
 z171 := Tryz.sizeOf206
 v171 := Tryz.zeroValue206
 t173 := Tryz.underlying210
 a173 := Tryz.isAgg210
 z173 := Tryz.sizeOf210
 v173 := Tryz.zeroValue210
 t212 := Tryz.underlying224
 a212 := Tryz.isAgg224
 z212 := Tryz.sizeOf224
 v212 := Tryz.zeroValue224
 t213 := Tryz.underlying225
 a213 := Tryz.isAgg225
 z213 := Tryz.sizeOf225
 t232 := Tryz.underlying238
 a232 := Tryz.isAgg238
 z232 := Tryz.sizeOf238
 v232 := Tryz.zeroValue238
 t233 := Tryz.underlying239
 a233 := Tryz.isAgg239
 z233 := Tryz.sizeOf239
 v233 := Tryz.zeroValue239
 g17 := by kernel_rfl
 g18 := by kernel_rfl
 g19 := by kernel_rfl
 i0 := by kernel_rfl
 i2 := by kernel_rfl
 i3 := by kernel_rfl
 i4 := by kernel_rfl
 i5 := by kernel_rfl
 i9 := by kernel_rfl
 i20 := by kernel_rfl
 i37 := by kernel_rfl
 i46 := by kernel_rfl
 i51 := by kernel_rfl
 i53 := by kernel_rfl
 i171 := by kernel_rfl
 i173 := by kernel_rfl
 i212 := by kernel_rfl
 i232 := by kernel_rfl
 i233 := by kernel_rfl
 m17 := by kernel_rfl
 m18 := by kernel_rfl
 m19 := by kernel_rfl }
def Tryz.lays143_ren : Go.Shelf.Ren := ⟨fun | 143 => 173 | 219 => 176 | 217 => 192 | 225 => 208 | 224 => 209 | 267 => 210 | 266 => 217 | 314 => 232 | n => n, fun | 9 => 9 | 3 => 3 | 4 => 4 | 5 => 5 | 46 => 193 | 146 => 214 | 51 => 213 | n => n, fun | 1 => 1 | n => n⟩
theorem Tryz.lays143 : Go.Proofs.Lays.n143 Tryz.prog Tryz.lays143_ren := {
 mixed := by kernel_rfl
 f143 := Tryz.func173.trans (congrArg some (by kernel_rfl))
 f217 := Tryz.func192.trans (congrArg some (by kernel_rfl))
 f219 := Tryz.func176.trans (congrArg some (by kernel_rfl))
 f224 := Tryz.func209.trans (congrArg some (by kernel_rfl))
 f225 := Tryz.func208.trans (congrArg some (by kernel_rfl))
 f266 := Tryz.func217.trans (congrArg some (by kernel_rfl))
 f267 := Tryz.func210.trans (congrArg some (by kernel_rfl))
 f314 := Tryz.func232.trans (congrArg some (by kernel_rfl))
 t3 := Tryz.underlying3
 a3 := Tryz.isAgg3
 z3 := Tryz.sizeOf3
 v3 := Tryz.zeroValue3
 t4 := Tryz.underlying4
 a4 := Tryz.isAgg4
 z4 := Tryz.sizeOf4
 v4 := Tryz.zeroValue4
 t5 := Tryz.underlying5
 a5 := Tryz.isAgg5
 z5 := Tryz.sizeOf5
 v5 := Tryz.zeroValue5
 t9 := Tryz.underlying9
 a9 := Tryz.isAgg9
 z9 := Tryz.sizeOf9
 v9 := Tryz.zeroValue9
 t46 := Tryz.underlying193
 a46 := Tryz.isAgg193
 z46 := Tryz.sizeOf193
 v46 := Tryz.zeroValue193
 t51 := Tryz.underlying213
 a51 := Tryz.isAgg213
 z51 := Tryz.sizeOf213
 v51 := Tryz.zeroValue213
 t146 := Tryz.underlying214
 a146 := Tryz.isAgg214
 z146 := Tryz.sizeOf214
 v146 := Tryz.zeroValue214
 g1 := by kernel_rfl }
def Tryz.lays219_ren : Go.Shelf.Ren := ⟨fun | 219 => 176 | 217 => 192 | 225 => 208 | 224 => 209 | 267 => 210 | 266 => 217 | 314 => 232 | n => n, fun | 9 => 9 | 3 => 3 | 4 => 4 | 5 => 5 | 46 => 193 | 146 => 214 | 51 => 213 | n => n, fun | 1 => 1 | n => n⟩
theorem Tryz.lays219 : Go.Proofs.Lays.n219 Tryz.prog Tryz.lays219_ren := {
 mixed := by kernel_rfl
 f217 := Tryz.func192.trans (congrArg some (by kernel_rfl))
 f219 := Tryz.func176.trans (congrArg some (by kernel_rfl))
 f224 := Tryz.func209.trans (congrArg some (by kernel_rfl))
 f225 := Tryz.func208.trans (congrArg some (by kernel_rfl))
 f266 := Tryz.func217.trans (congrArg some (by kernel_rfl))
 f267 := Tryz.func210.trans (congrArg some (by kernel_rfl))
 f314 := Tryz.func232.trans (congrArg some (by kernel_rfl))
 t3 := Tryz.underlying3
 a3 := Tryz.isAgg3
 z3 := Tryz.sizeOf3
 v3 := Tryz.zeroValue3
 t4 := Tryz.underlying4
 a4 := Tryz.isAgg4
 z4 := Tryz.sizeOf4
 v4 := Tryz.zeroValue4
 t5 := Tryz.underlying5
 a5 := Tryz.isAgg5
 z5 := Tryz.sizeOf5
 v5 := Tryz.zeroValue5
 t9 := Tryz.underlying9
 a9 := Tryz.isAgg9
 z9 := Tryz.sizeOf9
 v9 := Tryz.zeroValue9
 t46 := Tryz.underlying193
 a46 := Tryz.isAgg193
 z46 := Tryz.sizeOf193
 v46 := Tryz.zeroValue193
 t51 := Tryz.underlying213
 a51 := Tryz.isAgg213
 z51 := Tryz.sizeOf213
 v51 := Tryz.zeroValue213
 t146 := Tryz.underlying214
 a146 := Tryz.isAgg214
 z146 := Tryz.sizeOf214
 v146 := Tryz.zeroValue214
 g1 := by kernel_rfl }
def Tryz.lays138_ren : Go.Shelf.Ren := ⟨fun | 138 => 172 | 195 => 205 | 218 => 207 | 143 => 173 | 219 => 176 | 217 => 192 | 225 => 208 | 224 => 209 | 267 => 210 | 266 => 217 | 314 => 232 | n => n, fun | 9 => 9 | 3 => 3 | 4 => 4 | 5 => 5 | 0 => 0 | 46 => 193 | 146 => 214 | 51 => 213 | n => n, fun | 1 => 1 | n => n⟩
theorem Tryz.lays138 : Go.Proofs.Lays.n138 Tryz.prog Tryz.lays138_ren := {
 mixed := by kernel_rfl
 f138 := Tryz.func172.trans (congrArg some (by kernel_rfl))
 f143 := Tryz.func173.trans (congrArg some (by kernel_rfl))
 f195 := Tryz.func205.trans (congrArg some (by kernel_rfl))
 f217 := Tryz.func192.trans (congrArg some (by kernel_rfl))
 f218 := Tryz.func207.trans (congrArg some (by kernel_rfl))
 f219 := Tryz.func176.trans (congrArg some (by kernel_rfl))
 f224 := Tryz.func209.trans (congrArg some (by kernel_rfl))
 f225 := Tryz.func208.trans (congrArg some (by kernel_rfl))
 f266 := Tryz.func217.trans (congrArg some (by kernel_rfl))
 f267 := Tryz.func210.trans (congrArg some (by kernel_rfl))
 f314 := Tryz.func232.trans (congrArg some (by kernel_rfl))
 t0 := Tryz.underlying0
 a0 := Tryz.isAgg0
 z0 := Tryz.sizeOf0
 v0 := Tryz.zeroValue0
 t3 := Tryz.underlying3
 a3 := Tryz.isAgg3
 z3 := Tryz.sizeOf3
 v3 := Tryz.zeroValue3
 t4 := Tryz.underlying4
 a4 := Tryz.isAgg4
 z4 := Tryz.sizeOf4
 v4 := Tryz.zeroValue4
 t5 := Tryz.underlying5
 a5 := Tryz.isAgg5
 z5 := Tryz.sizeOf5
 v5 := Tryz.zeroValue5
 t9 := Tryz.underlying9
 a9 := Tryz.isAgg9
 z9 := Tryz.sizeOf9
 v9 := Tryz.zeroValue9
 t46 := Tryz.underlying193
 a46 := Tryz.isAgg193
 z46 := Tryz.sizeOf193
 v46 := Tryz.zeroValue193
 t51 := Tryz.underlying213
 a51 := Tryz.isAgg213
 z51 := Tryz.sizeOf213
 v51 := Tryz.zeroValue213
 t146 := Tryz.underlying214
 a146 := Tryz.isAgg214
 z146 := Tryz.sizeOf214
 v146 := Tryz.zeroValue214
 g1 := by kernel_rfl }
def Tryz.laysC172_ren : Go.Shelf.Ren := ⟨fun | 172 => 152 | 244 => 194 | 245 => 195 | 247 => 218 | 279 => 219 | 280 => 220 | 281 => 221 | 282 => 222 | 287 => 234 | 316 => 235 | 171 => 86 | 205 => 236 | 321 => 245 | 322 => 246 | 243 => 153 | 246 => 196 | 283 => 223 | 284 => 224 | 285 => 225 | 286 => 226 | 129 => 238 | 317 => 237 | 318 => 239 | 319 => 240 | 320 => 241 | 337 => 247 | 338 => 248 | n => n, fun | 9 => 9 | 3 => 3 | 75 => 97 | 76 => 98 | 4 => 4 | 5 => 5 | 167 => 200 | 37 => 22 | 0 => 0 | 85 => 201 | 2 => 2 | 168 => 203 | 53 => 207 | 175 => 217 | 46 => 193 | 210 => 221 | 127 => 149 | 145 => 236 | 143 => 234 | 21 => 21 | 171 => 206 | 173 => 210 | 212 => 224 | 51 => 213 | 20 => 20 | 213 => 225 | 232 => 238 | 233 => 239 | 80 => 100 | n => n, fun | 15 => 2 | 16 => 3 | 17 => 4 | 18 => 7 | 19 => 8 | n => n⟩
theorem Tryz.laysC172 : Go.Proofs.LaysC.n172 Tryz.prog Tryz.laysC172_ren := {
 mixed := by kernel_rfl
 f129 := Tryz.func238.trans (congrArg some (by kernel_rfl))
 f171 := Tryz.func86.trans (congrArg some (by kernel_rfl))
 f172 := Tryz.func152.trans (congrArg some (by kernel_rfl))
 f205 := Tryz.func236.trans (congrArg some (by kernel_rfl))
 f243 := Tryz.func153.trans (congrArg some (by kernel_rfl))
 f244 := Tryz.func194.trans (congrArg some (by kernel_rfl))
 f245 := Tryz.func195.trans (congrArg some (by kernel_rfl))
 f246 := Tryz.func196.trans (congrArg some (by kernel_rfl))
 f247 := Tryz.func218.trans (congrArg some (by kernel_rfl))
 f279 := Tryz.func219.trans (congrArg some (by kernel_rfl))
 f280 := Tryz.func220.trans (congrArg some (by kernel_rfl))
 f281 := Tryz.func221.trans (congrArg some (by kernel_rfl))
 f282 := Tryz.func222.trans (congrArg some (by kernel_rfl))
 f283 := Tryz.func223.trans (congrArg some (by kernel_rfl))
 f284 := Tryz.func224.trans (congrArg some (by kernel_rfl))
 f285 := Tryz.func225.trans (congrArg some (by kernel_rfl))
 f286 := Tryz.func226.trans (congrArg some (by kernel_rfl))
 f287 := Tryz.func234.trans (congrArg some (by kernel_rfl))
 f316 := Tryz.func235.trans (congrArg some (by kernel_rfl))
 f317 := Tryz.func237.trans (congrArg some (by kernel_rfl))
 f318 := Tryz.func239.trans (congrArg some (by kernel_rfl))
 f319 := Tryz.func240.trans (congrArg some (by kernel_rfl))
 f320 := Tryz.func241.trans (congrArg some (by kernel_rfl))
 f321 := Tryz.func245.trans (congrArg some (by kernel_rfl))
 f322 := Tryz.func246.trans (congrArg some (by kernel_rfl))
 f337 := Tryz.func247.trans (congrArg some (by kernel_rfl))
 f338 := Tryz.func248.trans (congrArg some (by kernel_rfl))
 t0 := Tryz.underlying0
 a0 := Tryz.isAgg0
 z0 := Tryz.sizeOf0
 v0 := Tryz.zeroValue0
 t2 := Tryz.underlying2
 a2 := Tryz.isAgg2
 z2 := Tryz.sizeOf2
 v2 := Tryz.zeroValue2
 t3 := Tryz.underlying3
 a3 := Tryz.isAgg3
 z3 := Tryz.sizeOf3
 v3 := Tryz.zeroValue3
 t4 := Tryz.underlying4
 a4 := Tryz.isAgg4
 z4 := Tryz.sizeOf4
 v4 := Tryz.zeroValue4
 t5 := Tryz.underlying5
 a5 := Tryz.isAgg5
 z5 := Tryz.sizeOf5
 v5 := Tryz.zeroValue5
 t9 := Tryz.underlying9
 a9 := Tryz.isAgg9
 z9 := Tryz.sizeOf9
 v9 := Tryz.zeroValue9
 t20 := Tryz.underlying20
 a20 := Tryz.isAgg20
 z20 := Tryz.sizeOf20
 v20 := Tryz.zeroValue20
 t21 := Tryz.underlying21
 a21 := Tryz.isAgg21
 z21 := Tryz.sizeOf21
 v21 := Tryz.zeroValue21
 t37 := Tryz.underlying22
 a37 := Tryz.isAgg22
 z37 := Tryz.sizeOf22
 v37 := Tryz.zeroValue22
 t46 := Tryz.underlying193
 a46 := Tryz.isAgg193
 z46 := Tryz.sizeOf193
 v46 := Tryz.zeroValue193
 t51 := Tryz.underlying213
 a51 := Tryz.isAgg213
 z51 := Tryz.sizeOf213
 v51 := Tryz.zeroValue213
 t53 := Tryz.underlying207
 a53 := Tryz.isAgg207
 z53 := Tryz.sizeOf207
 v53 := Tryz.zeroValue207
 t75 := Tryz.underlying97
 a75 := Tryz.isAgg97
 z75 := Tryz.sizeOf97
 v75 := Tryz.zeroValue97
 t76 := Tryz.underlying98
 a76 := Tryz.isAgg98
 z76 := Tryz.sizeOf98
 v76 := Tryz.zeroValue98
 t85 := Tryz.underlying201
 a85 := Tryz.isAgg201
 z85 := Tryz.sizeOf201
 v85 := Tryz.zeroValue201
 t127 := Tryz.underlying149
 a127 := Tryz.isAgg149
 z127 := Tryz.sizeOf149
 v127 := Tryz.zeroValue149
 t143 := Tryz.underlying234
 a143 := Tryz.isAgg234
 z143 := Tryz.sizeOf234
 v143 := Tryz.zeroValue234
 t145 := Tryz.underlying236
 a145 := Tryz.isAgg236
 z145 := Tryz.sizeOf236
 v145 := Tryz.zeroValue236
 t167 := Tryz.underlying200
 a167 := Tryz.isAgg200
 z167 := Tryz.sizeOf200
 v167 := Tryz.zeroValue200
 t168 := Tryz.underlying203
 a168 := Tryz.isAgg203
 z168 := Tryz.sizeOf203
 v168 := Tryz.zeroValue203
 t171 := Tryz.underlying206
 a171 := Tryz.isAgg206
 z171 := Tryz.sizeOf206
 v171 := Tryz.zeroValue206
 t173 := Tryz.underlying210
 a173 := Tryz.isAgg210
 z173 := Tryz.sizeOf210
 v173 := Tryz.zeroValue210
 t175 := Tryz.underlying217
 a175 := Tryz.isAgg217
 z175 := Tryz.sizeOf217
 v175 := Tryz.zeroValue217
 t210 := Tryz.underlying221
 a210 := Tryz.isAgg221
 z210 := Tryz.sizeOf221
 v210 := Tryz.zeroValue221
 t212 := Tryz.underlying224
 a212 := Tryz.isAgg224
 z212 := Tryz.sizeOf224
 v212 := Tryz.zeroValue224
 t213 := Tryz.underlying225
 a213 := Tryz.isAgg225
 z213 := Tryz.sizeOf225
 t232 := Tryz.underlying238
 a232 := Tryz.isAgg238
 z232 := Tryz.sizeOf238
 v232 := Tryz.zeroValue238
 t233 := Tryz.underlying239
 a233 := Tryz.isAgg239
 z233 := Tryz.sizeOf239
 v233 := Tryz.zeroValue239
 g15 := by kernel_rfl
 g16 := by kernel_rfl
 g17 := by kernel_rfl
 g18 := by kernel_rfl
 g19 := by kernel_rfl
 t80 := Tryz.underlying100
 a80 := Tryz.isAgg100
 z80 := Tryz.sizeOf100
 v80 := Tryz.zeroValue100
 i0 := by kernel_rfl
 i2 := by kernel_rfl
 i3 := by kernel_rfl
 i4 := by kernel_rfl
 i5 := by kernel_rfl
 i9 := by kernel_rfl
 i20 := by kernel_rfl
 i21 := by kernel_rfl
 i37 := by kernel_rfl
 i46 := by kernel_rfl
 i51 := by kernel_rfl
 i53 := by kernel_rfl
 i75 := by kernel_rfl
 i76 := by kernel_rfl
 i80 := by kernel_rfl
 i85 := by kernel_rfl
 i127 := by kernel_rfl
 i143 := by kernel_rfl
 i145 := by kernel_rfl
 i167 := by kernel_rfl
 i168 := by kernel_rfl
 i171 := by kernel_rfl
 i173 := by kernel_rfl
 i175 := by kernel_rfl
 i210 := by kernel_rfl
 i212 := by kernel_rfl
 i232 := by kernel_rfl
 i233 := by kernel_rfl
 m15 := by kernel_rfl
 m16 := by kernel_rfl
 m17 := by kernel_rfl
 m18 := by kernel_rfl
 m19 := by kernel_rfl
 c0 := by kernel_rfl
 c2 := by kernel_rfl
 c3 := by kernel_rfl
 c4 := by kernel_rfl
 c5 := by kernel_rfl
 c9 := by kernel_rfl
 c20 := by kernel_rfl
 c21 := by kernel_rfl
 c37 := by kernel_rfl
 c46 := by kernel_rfl
 c51 := by kernel_rfl
 c53 := by kernel_rfl
 c75 := by kernel_rfl
 c76 := by kernel_rfl
 c80 := by kernel_rfl
 c85 := by kernel_rfl
 c127 := by kernel_rfl
 c143 := by kernel_rfl
 c145 := by kernel_rfl
 c167 := by kernel_rfl
 c168 := by kernel_rfl
 c171 := by kernel_rfl
 c173 := by kernel_rfl
 c175 := by kernel_rfl
 c210 := by kernel_rfl
 c212 := by kernel_rfl
 c213 := by kernel_rfl
 c232 := by kernel_rfl
 c233 := by kernel_rfl }
def Tryz.ws_ren : Go.Shelf.Ren := ⟨fun | 166 => 65 | 240 => 125 | n => n, fun | 70 => 93 | 9 => 9 | 0 => 0 | 72 => 95 | 37 => 22 | 127 => 149 | 3 => 3 | 5 => 5 | 75 => 97 | n => n, fun | n => n⟩
theorem Tryz.wsL : WsL Tryz.prog Tryz.ws_ren := {
 mixed := by kernel_rfl
 f166 := Tryz.func65.trans (congrArg some (by kernel_rfl))
 e240 := enters_of Tryz.func125 (by kernel_rfl) rfl
 cc := Tryz.cc
 t0 := Tryz.underlying0
 a0 := Tryz.isAgg0
 z0 := Tryz.sizeOf0
 v0 := Tryz.zeroValue0
 t3 := Tryz.underlying3
 a3 := Tryz.isAgg3
 z3 := Tryz.sizeOf3
 v3 := Tryz.zeroValue3
 t9 := Tryz.underlying9
 a9 := Tryz.isAgg9
 z9 := Tryz.sizeOf9
 v9 := Tryz.zeroValue9
 t37 := Tryz.underlying22
 a37 := Tryz.isAgg22
 z37 := Tryz.sizeOf22
 v37 := Tryz.zeroValue22
 t70 := Tryz.underlying93
 a70 := Tryz.isAgg93
 z70 := Tryz.sizeOf93
 v70 := Tryz.zeroValue93
 t72 := Tryz.underlying95
 a72 := Tryz.isAgg95
 z72 := Tryz.sizeOf95
 v72 := Tryz.zeroValue95 }
theorem Tryz.wsX : Builder.Extra Tryz.prog Tryz.ws_ren := {
 sizeBuilder := by kernel_rfl
 liesBuilder := by kernel_rfl
 t5 := Tryz.underlying5
 a5 := Tryz.isAgg5
 z5 := Tryz.sizeOf5
 v5 := Tryz.zeroValue5
 infoByte := by kernel_rfl
 cellsByte := by kernel_rfl
 sizeByte := by kernel_rfl
 neB5 := by decide }
end Go.Proofs
end
section
open Go Go.Refl Go.Proofs
set_option maxRecDepth 1000000
set_option maxHeartbeats 0
set_option linter.unusedVariables false
namespace Go.Proofs.YtmnmbjnhhhdegaaGreatDoorG
noncomputable def ar : List (Nat × AI) := [(84, { n := 8, E := 9, e := .str }), (206, { n := 24, E := 5, e := (.int .u8) }), (224, { n := 20, E := 207, e := (.int .u64) }), (238, { n := 32, E := 5, e := (.int .u8) }), (239, { n := 64, E := 5, e := (.int .u8) })]
noncomputable def bld : List (Nat × Nat) := [(94, 5), (95, 5)]
theorem ar84 : AOk Tryz.prog 84 { n := 8, E := 9, e := .str } := .of (by kernel_rfl) (by kernel_rfl) (by kernel_rfl) (by kernel_rfl) rfl
theorem ar206 : AOk Tryz.prog 206 { n := 24, E := 5, e := (.int .u8) } := .of (by kernel_rfl) (by kernel_rfl) (by kernel_rfl) (by kernel_rfl) rfl
theorem ar224 : AOk Tryz.prog 224 { n := 20, E := 207, e := (.int .u64) } := .of (by kernel_rfl) (by kernel_rfl) (by kernel_rfl) (by kernel_rfl) rfl
theorem ar238 : AOk Tryz.prog 238 { n := 32, E := 5, e := (.int .u8) } := .of (by kernel_rfl) (by kernel_rfl) (by kernel_rfl) (by kernel_rfl) rfl
theorem ar239 : AOk Tryz.prog 239 { n := 64, E := 5, e := (.int .u8) } := .of (by kernel_rfl) (by kernel_rfl) (by kernel_rfl) (by kernel_rfl) rfl
theorem bld94 : BOk Tryz.prog 94 := .of (by kernel_rfl) (by kernel_rfl)
theorem bld95 : BOk Tryz.prog 95 := .of (by kernel_rfl) (by kernel_rfl)
theorem ar_ok : ∀ T ai, Refl.look ar T = some ai → AOk Tryz.prog T ai := arOk (all_cons ar84 (all_cons ar206 (all_cons ar224 (all_cons ar238 (all_cons ar239 (all_nil))))))
theorem bld_ok : ∀ T E, Refl.look bld T = some E → BOk Tryz.prog T := bldOk (all_cons bld94 (all_cons bld95 (all_nil)))
noncomputable def pts : List Nat := [15, 16, 17, 75, 93, 149, 151, 203, 234]
theorem pts_ok : ∀ T, pts.contains T = true → ∃ e, Tryz.prog.underlying T = some (.pointer e) := fun T h => ptsOk (all_cons ⟨241, by kernel_rfl⟩ (all_cons ⟨244, by kernel_rfl⟩ (all_cons ⟨252, by kernel_rfl⟩ (all_cons ⟨136, by kernel_rfl⟩ (all_cons ⟨95, by kernel_rfl⟩ (all_cons ⟨5, by kernel_rfl⟩ (all_cons ⟨41, by kernel_rfl⟩ (all_cons ⟨221, by kernel_rfl⟩ (all_cons ⟨236, by kernel_rfl⟩ (all_nil)))))))))) (List.contains_iff_mem.1 h)
noncomputable def g0 : Nat × GItem := (0, .row ⟨.str, [⟨#[106, 111, 105, 110]⟩, ⟨#[115, 97, 118, 101]⟩, ⟨#[116, 97, 107, 101]⟩, ⟨#[108, 101, 110, 100]⟩, ⟨#[114, 101, 112, 97, 121]⟩, ⟨#[102, 97, 105, 108]⟩, ⟨#[110, 105, 103, 104, 116]⟩, ⟨#[115, 104, 97, 114, 101]⟩]⟩)
noncomputable def g2 : Nat × GItem := (2, .iface)
noncomputable def g3 : Nat × GItem := (3, .iface)
noncomputable def g4 : Nat × GItem := (4, .row ⟨.int .u64, Lib.pow10Tab⟩)
noncomputable def tb : List (Nat × TI) := [(2, { ty := (.int .i64), eqOk := true }),
  (3, { ty := (.int .i64), eqOk := true }),
  (4, { ty := .bool, eqOk := true }),
  (5, { ty := (.int .u8), eqOk := true }),
  (6, { ty := (.int .u8), eqOk := true }),
  (7, { ty := (.pair (.int .i64) (.pair (.int .i64) (.pair .bool (.int .u8)))), offs := [0, 1, 2, 3], szs := [1, 1, 1, 1], eqOk := true }),
  (8, { ty := (.pair (.int .i64) (.pair (.int .i64) (.pair .bool (.int .u8)))), offs := [0, 1, 2, 3], szs := [1, 1, 1, 1], eqOk := true }),
  (9, { ty := .str, eqOk := true }),
  (10, { ty := .str, eqOk := true }),
  (11, { ty := .str, eqOk := true }),
  (12, { ty := (.int .u64), eqOk := true }),
  (13, { ty := (.pair .str (.int .u64)), offs := [0, 1], szs := [1, 1] }),
  (14, { ty := (.pair .str (.int .u64)), offs := [0, 1], szs := [1, 1] }),
  (21, { ty := (.int .i32), eqOk := true }),
  (22, { ty := (.slice (.int .u8)), elem := 5 }),
  (24, { ty := (.slice (.int .i64)), elem := 3 }),
  (25, { ty := (.pair (.int .i64) (.int .i64)), offs := [0, 1], szs := [1, 1], eqOk := true }),
  (26, { ty := (.pair (.int .i64) (.int .i64)), offs := [0, 1], szs := [1, 1], eqOk := true }),
  (27, { ty := (.pair (.int .i64) (.pair (.int .i64) (.pair (.int .i64) (.pair (.int .i64) (.pair (.slice (.int .i64)) (.pair (.int .i64) (.int .i64))))))), offs := [0, 1, 2, 3, 4, 5], szs := [1, 1, 1, 1, 1, 2] }),
  (28, { ty := (.pair (.int .i64) (.pair (.int .i64) (.pair (.int .i64) (.pair (.int .i64) (.pair (.slice (.int .i64)) (.pair (.int .i64) (.int .i64))))))), offs := [0, 1, 2, 3, 4, 5], szs := [1, 1, 1, 1, 1, 2] }),
  (34, { ty := (.slice (.pair (.int .i64) (.pair (.int .i64) (.pair (.int .i64) (.pair (.int .i64) (.pair (.slice (.int .i64)) (.pair (.int .i64) (.int .i64)))))))), elem := 28 }),
  (39, { ty := (.slice (.pair (.int .i64) (.pair (.int .i64) (.slice (.int .i64))))), elem := 142 }),
  (40, { ty := (.pair (.slice (.int .i64)) (.pair (.slice (.pair (.int .i64) (.pair (.int .i64) (.slice (.int .i64))))) (.pair (.int .i64) (.pair (.int .i64) (.int .i64))))), offs := [0, 1, 2, 3, 4], szs := [1, 1, 1, 1, 1] }),
  (41, { ty := (.pair (.slice (.int .i64)) (.pair (.slice (.pair (.int .i64) (.pair (.int .i64) (.slice (.int .i64))))) (.pair (.int .i64) (.pair (.int .i64) (.int .i64))))), offs := [0, 1, 2, 3, 4], szs := [1, 1, 1, 1, 1] }),
  (50, { ty := (.slice (.pair (.int .i64) (.pair (.int .i64) (.pair (.int .i64) (.int .i64))))), elem := 111 }),
  (57, { ty := (.slice (.pair (.int .i64) (.pair (.pair (.int .i64) (.pair (.int .i64) (.pair (.int .i64) (.int .i64)))) (.pair (.int .i64) (.pair (.int .i64) (.pair (.int .i64) (.int .i64))))))), elem := 124 }),
  (59, { ty := (.slice .str), elem := 9 }),
  (66, { ty := (.slice (.pair (.int .i64) (.pair (.int .i64) (.slice (.int .i64))))), elem := 169 }),
  (67, { ty := (.pair (.slice (.int .i64)) (.pair (.slice (.pair (.int .i64) (.pair (.int .i64) (.slice (.int .i64))))) (.pair (.int .i64) (.pair (.int .i64) (.int .i64))))), offs := [0, 1, 2, 3, 4], szs := [1, 1, 1, 1, 1] }),
  (68, { ty := (.pair (.slice (.int .i64)) (.pair (.slice (.pair (.int .i64) (.pair (.int .i64) (.slice (.int .i64))))) (.pair (.int .i64) (.pair (.int .i64) (.int .i64))))), offs := [0, 1, 2, 3, 4], szs := [1, 1, 1, 1, 1] }),
  (96, { ty := .err }),
  (97, { ty := .err }),
  (110, { ty := (.pair (.int .i64) (.pair (.int .i64) (.pair (.int .i64) (.int .i64)))), offs := [0, 1, 2, 3], szs := [1, 1, 1, 1], eqOk := true }),
  (111, { ty := (.pair (.int .i64) (.pair (.int .i64) (.pair (.int .i64) (.int .i64)))), offs := [0, 1, 2, 3], szs := [1, 1, 1, 1], eqOk := true }),
  (123, { ty := (.pair (.int .i64) (.pair (.pair (.int .i64) (.pair (.int .i64) (.pair (.int .i64) (.int .i64)))) (.pair (.int .i64) (.pair (.int .i64) (.pair (.int .i64) (.int .i64)))))), offs := [0, 1, 5], szs := [1, 4, 4], eqOk := true }),
  (124, { ty := (.pair (.int .i64) (.pair (.pair (.int .i64) (.pair (.int .i64) (.pair (.int .i64) (.int .i64)))) (.pair (.int .i64) (.pair (.int .i64) (.pair (.int .i64) (.int .i64)))))), offs := [0, 1, 5], szs := [1, 4, 4], eqOk := true }),
  (135, { ty := (.pair (.slice (.int .u8)) (.int .i64)), offs := [0, 1], szs := [1, 1] }),
  (136, { ty := (.pair (.slice (.int .u8)) (.int .i64)), offs := [0, 1], szs := [1, 1] }),
  (141, { ty := (.pair (.int .i64) (.pair (.int .i64) (.slice (.int .i64)))), offs := [0, 1, 2], szs := [1, 1, 1] }),
  (142, { ty := (.pair (.int .i64) (.pair (.int .i64) (.slice (.int .i64)))), offs := [0, 1, 2], szs := [1, 1, 1] }),
  (169, { ty := (.pair (.int .i64) (.pair (.int .i64) (.slice (.int .i64)))), offs := [0, 1, 2], szs := [1, 1, 1] }),
  (189, { ty := (.slice .bool), elem := 4 }),
  (193, { ty := (.int .u64), eqOk := true }),
  (200, { ty := (.int .i64), eqOk := true, cmp := true }),
  (207, { ty := (.int .u64), eqOk := true }),
  (213, { ty := (.int .u32), eqOk := true }),
  (220, { ty := (.pair .str (.pair .str .err)), offs := [0, 1, 2], szs := [1, 1, 1] }),
  (221, { ty := (.pair .str (.pair .str .err)), offs := [0, 1, 2], szs := [1, 1, 1] }),
  (230, { ty := (.pair (.int .u8) (.int .u8)), offs := [0, 1], szs := [1, 1], eqOk := true }),
  (231, { ty := (.pair (.int .u8) (.int .u8)), offs := [0, 1], szs := [1, 1], eqOk := true }),
  (246, { ty := (.int .u8), eqOk := true }),
  (247, { ty := (.int .u8), eqOk := true }),
  (249, { ty := (.int .i32), eqOk := true }),
  (250, { ty := (.int .i32), eqOk := true })]
theorem t2 : TOk Tryz.prog tb 2 { ty := (.int .i64), eqOk := true } := .of (by kernel_rfl) (by kernel_rfl) (by show _ = _; kernel_rfl) (fun h => eqOk_int)
theorem t3 : TOk Tryz.prog tb 3 { ty := (.int .i64), eqOk := true } := .of (by kernel_rfl) (by kernel_rfl) (by show _ = _; kernel_rfl) (fun h => eqOk_int)
theorem t4 : TOk Tryz.prog tb 4 { ty := .bool, eqOk := true } := .of (by kernel_rfl) (by kernel_rfl) (by show _ = _; kernel_rfl) (fun h => eqOk_bool (by kernel_rfl))
theorem t5 : TOk Tryz.prog tb 5 { ty := (.int .u8), eqOk := true } := .of (by kernel_rfl) (by kernel_rfl) (by show _ = _; kernel_rfl) (fun h => eqOk_int)
theorem t6 : TOk Tryz.prog tb 6 { ty := (.int .u8), eqOk := true } := .of (by kernel_rfl) (by kernel_rfl) (by show _ = _; kernel_rfl) (fun h => eqOk_int)
theorem t7 : TOk Tryz.prog tb 7 { ty := (.pair (.int .i64) (.pair (.int .i64) (.pair .bool (.int .u8)))), offs := [0, 1, 2, 3], szs := [1, 1, 1, 1], eqOk := true } := .of (by kernel_rfl) (by kernel_rfl) (descOk_struct rfl (by kernel_rfl)) (fun h => eqOk_struct rfl (by kernel_rfl) (by kernel_rfl))
theorem t8 : TOk Tryz.prog tb 8 { ty := (.pair (.int .i64) (.pair (.int .i64) (.pair .bool (.int .u8)))), offs := [0, 1, 2, 3], szs := [1, 1, 1, 1], eqOk := true } := .of (by kernel_rfl) (by kernel_rfl) (descOk_struct rfl (by kernel_rfl)) (fun h => eqOk_struct rfl (by kernel_rfl) (by kernel_rfl))
theorem t9 : TOk Tryz.prog tb 9 { ty := .str, eqOk := true } := .of (by kernel_rfl) (by kernel_rfl) (by show _ = _; kernel_rfl) (fun h => eqOk_str)
theorem t10 : TOk Tryz.prog tb 10 { ty := .str, eqOk := true } := .of (by kernel_rfl) (by kernel_rfl) (by show _ = _; kernel_rfl) (fun h => eqOk_str)
theorem t11 : TOk Tryz.prog tb 11 { ty := .str, eqOk := true } := .of (by kernel_rfl) (by kernel_rfl) (by show _ = _; kernel_rfl) (fun h => eqOk_str)
theorem t12 : TOk Tryz.prog tb 12 { ty := (.int .u64), eqOk := true } := .of (by kernel_rfl) (by kernel_rfl) (by show _ = _; kernel_rfl) (fun h => eqOk_int)
theorem t13 : TOk Tryz.prog tb 13 { ty := (.pair .str (.int .u64)), offs := [0, 1], szs := [1, 1] } := .of (by kernel_rfl) (by kernel_rfl) (descOk_struct rfl (by kernel_rfl)) (fun h => by cases h)
theorem t14 : TOk Tryz.prog tb 14 { ty := (.pair .str (.int .u64)), offs := [0, 1], szs := [1, 1] } := .of (by kernel_rfl) (by kernel_rfl) (descOk_struct rfl (by kernel_rfl)) (fun h => by cases h)
theorem t21 : TOk Tryz.prog tb 21 { ty := (.int .i32), eqOk := true } := .of (by kernel_rfl) (by kernel_rfl) (by show _ = _; kernel_rfl) (fun h => eqOk_int)
theorem t22 : TOk Tryz.prog tb 22 { ty := (.slice (.int .u8)), elem := 5 } := .of (by kernel_rfl) (by kernel_rfl) (⟨by kernel_rfl, { ty := (.int .u8), eqOk := true }, by kernel_rfl, by kernel_rfl⟩) (fun h => by cases h)
theorem t24 : TOk Tryz.prog tb 24 { ty := (.slice (.int .i64)), elem := 3 } := .of (by kernel_rfl) (by kernel_rfl) (⟨by kernel_rfl, { ty := (.int .i64), eqOk := true }, by kernel_rfl, by kernel_rfl⟩) (fun h => by cases h)
theorem t25 : TOk Tryz.prog tb 25 { ty := (.pair (.int .i64) (.int .i64)), offs := [0, 1], szs := [1, 1], eqOk := true } := .of (by kernel_rfl) (by kernel_rfl) (descOk_struct rfl (by kernel_rfl)) (fun h => eqOk_struct rfl (by kernel_rfl) (by kernel_rfl))
theorem t26 : TOk Tryz.prog tb 26 { ty := (.pair (.int .i64) (.int .i64)), offs := [0, 1], szs := [1, 1], eqOk := true } := .of (by kernel_rfl) (by kernel_rfl) (descOk_struct rfl (by kernel_rfl)) (fun h => eqOk_struct rfl (by kernel_rfl) (by kernel_rfl))
theorem t27 : TOk Tryz.prog tb 27 { ty := (.pair (.int .i64) (.pair (.int .i64) (.pair (.int .i64) (.pair (.int .i64) (.pair (.slice (.int .i64)) (.pair (.int .i64) (.int .i64))))))), offs := [0, 1, 2, 3, 4, 5], szs := [1, 1, 1, 1, 1, 2] } := .of (by kernel_rfl) (by kernel_rfl) (descOk_struct rfl (by kernel_rfl)) (fun h => by cases h)
theorem t28 : TOk Tryz.prog tb 28 { ty := (.pair (.int .i64) (.pair (.int .i64) (.pair (.int .i64) (.pair (.int .i64) (.pair (.slice (.int .i64)) (.pair (.int .i64) (.int .i64))))))), offs := [0, 1, 2, 3, 4, 5], szs := [1, 1, 1, 1, 1, 2] } := .of (by kernel_rfl) (by kernel_rfl) (descOk_struct rfl (by kernel_rfl)) (fun h => by cases h)
theorem t34 : TOk Tryz.prog tb 34 { ty := (.slice (.pair (.int .i64) (.pair (.int .i64) (.pair (.int .i64) (.pair (.int .i64) (.pair (.slice (.int .i64)) (.pair (.int .i64) (.int .i64)))))))), elem := 28 } := .of (by kernel_rfl) (by kernel_rfl) (⟨by kernel_rfl, { ty := (.pair (.int .i64) (.pair (.int .i64) (.pair (.int .i64) (.pair (.int .i64) (.pair (.slice (.int .i64)) (.pair (.int .i64) (.int .i64))))))), offs := [0, 1, 2, 3, 4, 5], szs := [1, 1, 1, 1, 1, 2] }, by kernel_rfl, by kernel_rfl⟩) (fun h => by cases h)
theorem t39 : TOk Tryz.prog tb 39 { ty := (.slice (.pair (.int .i64) (.pair (.int .i64) (.slice (.int .i64))))), elem := 142 } := .of (by kernel_rfl) (by kernel_rfl) (⟨by kernel_rfl, { ty := (.pair (.int .i64) (.pair (.int .i64) (.slice (.int .i64)))), offs := [0, 1, 2], szs := [1, 1, 1] }, by kernel_rfl, by kernel_rfl⟩) (fun h => by cases h)
theorem t40 : TOk Tryz.prog tb 40 { ty := (.pair (.slice (.int .i64)) (.pair (.slice (.pair (.int .i64) (.pair (.int .i64) (.slice (.int .i64))))) (.pair (.int .i64) (.pair (.int .i64) (.int .i64))))), offs := [0, 1, 2, 3, 4], szs := [1, 1, 1, 1, 1] } := .of (by kernel_rfl) (by kernel_rfl) (descOk_struct rfl (by kernel_rfl)) (fun h => by cases h)
theorem t41 : TOk Tryz.prog tb 41 { ty := (.pair (.slice (.int .i64)) (.pair (.slice (.pair (.int .i64) (.pair (.int .i64) (.slice (.int .i64))))) (.pair (.int .i64) (.pair (.int .i64) (.int .i64))))), offs := [0, 1, 2, 3, 4], szs := [1, 1, 1, 1, 1] } := .of (by kernel_rfl) (by kernel_rfl) (descOk_struct rfl (by kernel_rfl)) (fun h => by cases h)
theorem t50 : TOk Tryz.prog tb 50 { ty := (.slice (.pair (.int .i64) (.pair (.int .i64) (.pair (.int .i64) (.int .i64))))), elem := 111 } := .of (by kernel_rfl) (by kernel_rfl) (⟨by kernel_rfl, { ty := (.pair (.int .i64) (.pair (.int .i64) (.pair (.int .i64) (.int .i64)))), offs := [0, 1, 2, 3], szs := [1, 1, 1, 1], eqOk := true }, by kernel_rfl, by kernel_rfl⟩) (fun h => by cases h)
theorem t57 : TOk Tryz.prog tb 57 { ty := (.slice (.pair (.int .i64) (.pair (.pair (.int .i64) (.pair (.int .i64) (.pair (.int .i64) (.int .i64)))) (.pair (.int .i64) (.pair (.int .i64) (.pair (.int .i64) (.int .i64))))))), elem := 124 } := .of (by kernel_rfl) (by kernel_rfl) (⟨by kernel_rfl, { ty := (.pair (.int .i64) (.pair (.pair (.int .i64) (.pair (.int .i64) (.pair (.int .i64) (.int .i64)))) (.pair (.int .i64) (.pair (.int .i64) (.pair (.int .i64) (.int .i64)))))), offs := [0, 1, 5], szs := [1, 4, 4], eqOk := true }, by kernel_rfl, by kernel_rfl⟩) (fun h => by cases h)
theorem t59 : TOk Tryz.prog tb 59 { ty := (.slice .str), elem := 9 } := .of (by kernel_rfl) (by kernel_rfl) (⟨by kernel_rfl, { ty := .str, eqOk := true }, by kernel_rfl, by kernel_rfl⟩) (fun h => by cases h)
theorem t66 : TOk Tryz.prog tb 66 { ty := (.slice (.pair (.int .i64) (.pair (.int .i64) (.slice (.int .i64))))), elem := 169 } := .of (by kernel_rfl) (by kernel_rfl) (⟨by kernel_rfl, { ty := (.pair (.int .i64) (.pair (.int .i64) (.slice (.int .i64)))), offs := [0, 1, 2], szs := [1, 1, 1] }, by kernel_rfl, by kernel_rfl⟩) (fun h => by cases h)
theorem t67 : TOk Tryz.prog tb 67 { ty := (.pair (.slice (.int .i64)) (.pair (.slice (.pair (.int .i64) (.pair (.int .i64) (.slice (.int .i64))))) (.pair (.int .i64) (.pair (.int .i64) (.int .i64))))), offs := [0, 1, 2, 3, 4], szs := [1, 1, 1, 1, 1] } := .of (by kernel_rfl) (by kernel_rfl) (descOk_struct rfl (by kernel_rfl)) (fun h => by cases h)
theorem t68 : TOk Tryz.prog tb 68 { ty := (.pair (.slice (.int .i64)) (.pair (.slice (.pair (.int .i64) (.pair (.int .i64) (.slice (.int .i64))))) (.pair (.int .i64) (.pair (.int .i64) (.int .i64))))), offs := [0, 1, 2, 3, 4], szs := [1, 1, 1, 1, 1] } := .of (by kernel_rfl) (by kernel_rfl) (descOk_struct rfl (by kernel_rfl)) (fun h => by cases h)
theorem t96 : TOk Tryz.prog tb 96 { ty := .err } := .of (by kernel_rfl) (by kernel_rfl) (by show _ = _; kernel_rfl) (fun h => by cases h)
theorem t97 : TOk Tryz.prog tb 97 { ty := .err } := .of (by kernel_rfl) (by kernel_rfl) (by show _ = _; kernel_rfl) (fun h => by cases h)
theorem t110 : TOk Tryz.prog tb 110 { ty := (.pair (.int .i64) (.pair (.int .i64) (.pair (.int .i64) (.int .i64)))), offs := [0, 1, 2, 3], szs := [1, 1, 1, 1], eqOk := true } := .of (by kernel_rfl) (by kernel_rfl) (descOk_struct rfl (by kernel_rfl)) (fun h => eqOk_struct rfl (by kernel_rfl) (by kernel_rfl))
theorem t111 : TOk Tryz.prog tb 111 { ty := (.pair (.int .i64) (.pair (.int .i64) (.pair (.int .i64) (.int .i64)))), offs := [0, 1, 2, 3], szs := [1, 1, 1, 1], eqOk := true } := .of (by kernel_rfl) (by kernel_rfl) (descOk_struct rfl (by kernel_rfl)) (fun h => eqOk_struct rfl (by kernel_rfl) (by kernel_rfl))
theorem t123 : TOk Tryz.prog tb 123 { ty := (.pair (.int .i64) (.pair (.pair (.int .i64) (.pair (.int .i64) (.pair (.int .i64) (.int .i64)))) (.pair (.int .i64) (.pair (.int .i64) (.pair (.int .i64) (.int .i64)))))), offs := [0, 1, 5], szs := [1, 4, 4], eqOk := true } := .of (by kernel_rfl) (by kernel_rfl) (descOk_struct rfl (by kernel_rfl)) (fun h => eqOk_struct rfl (by kernel_rfl) (by kernel_rfl))
theorem t124 : TOk Tryz.prog tb 124 { ty := (.pair (.int .i64) (.pair (.pair (.int .i64) (.pair (.int .i64) (.pair (.int .i64) (.int .i64)))) (.pair (.int .i64) (.pair (.int .i64) (.pair (.int .i64) (.int .i64)))))), offs := [0, 1, 5], szs := [1, 4, 4], eqOk := true } := .of (by kernel_rfl) (by kernel_rfl) (descOk_struct rfl (by kernel_rfl)) (fun h => eqOk_struct rfl (by kernel_rfl) (by kernel_rfl))
theorem t135 : TOk Tryz.prog tb 135 { ty := (.pair (.slice (.int .u8)) (.int .i64)), offs := [0, 1], szs := [1, 1] } := .of (by kernel_rfl) (by kernel_rfl) (descOk_struct rfl (by kernel_rfl)) (fun h => by cases h)
theorem t136 : TOk Tryz.prog tb 136 { ty := (.pair (.slice (.int .u8)) (.int .i64)), offs := [0, 1], szs := [1, 1] } := .of (by kernel_rfl) (by kernel_rfl) (descOk_struct rfl (by kernel_rfl)) (fun h => by cases h)
theorem t141 : TOk Tryz.prog tb 141 { ty := (.pair (.int .i64) (.pair (.int .i64) (.slice (.int .i64)))), offs := [0, 1, 2], szs := [1, 1, 1] } := .of (by kernel_rfl) (by kernel_rfl) (descOk_struct rfl (by kernel_rfl)) (fun h => by cases h)
theorem t142 : TOk Tryz.prog tb 142 { ty := (.pair (.int .i64) (.pair (.int .i64) (.slice (.int .i64)))), offs := [0, 1, 2], szs := [1, 1, 1] } := .of (by kernel_rfl) (by kernel_rfl) (descOk_struct rfl (by kernel_rfl)) (fun h => by cases h)
theorem t169 : TOk Tryz.prog tb 169 { ty := (.pair (.int .i64) (.pair (.int .i64) (.slice (.int .i64)))), offs := [0, 1, 2], szs := [1, 1, 1] } := .of (by kernel_rfl) (by kernel_rfl) (descOk_struct rfl (by kernel_rfl)) (fun h => by cases h)
theorem t189 : TOk Tryz.prog tb 189 { ty := (.slice .bool), elem := 4 } := .of (by kernel_rfl) (by kernel_rfl) (⟨by kernel_rfl, { ty := .bool, eqOk := true }, by kernel_rfl, by kernel_rfl⟩) (fun h => by cases h)
theorem t193 : TOk Tryz.prog tb 193 { ty := (.int .u64), eqOk := true } := .of (by kernel_rfl) (by kernel_rfl) (by show _ = _; kernel_rfl) (fun h => eqOk_int)
theorem t200 : TOk Tryz.prog tb 200 { ty := (.int .i64), eqOk := true, cmp := true } := .of (by kernel_rfl) (by kernel_rfl) (by show _ = _; kernel_rfl) (fun h => eqOk_int) (fun _ => by kernel_rfl)
theorem t207 : TOk Tryz.prog tb 207 { ty := (.int .u64), eqOk := true } := .of (by kernel_rfl) (by kernel_rfl) (by show _ = _; kernel_rfl) (fun h => eqOk_int)
theorem t213 : TOk Tryz.prog tb 213 { ty := (.int .u32), eqOk := true } := .of (by kernel_rfl) (by kernel_rfl) (by show _ = _; kernel_rfl) (fun h => eqOk_int)
theorem t220 : TOk Tryz.prog tb 220 { ty := (.pair .str (.pair .str .err)), offs := [0, 1, 2], szs := [1, 1, 1] } := .of (by kernel_rfl) (by kernel_rfl) (descOk_struct rfl (by kernel_rfl)) (fun h => by cases h)
theorem t221 : TOk Tryz.prog tb 221 { ty := (.pair .str (.pair .str .err)), offs := [0, 1, 2], szs := [1, 1, 1] } := .of (by kernel_rfl) (by kernel_rfl) (descOk_struct rfl (by kernel_rfl)) (fun h => by cases h)
theorem t230 : TOk Tryz.prog tb 230 { ty := (.pair (.int .u8) (.int .u8)), offs := [0, 1], szs := [1, 1], eqOk := true } := .of (by kernel_rfl) (by kernel_rfl) (descOk_struct rfl (by kernel_rfl)) (fun h => eqOk_struct rfl (by kernel_rfl) (by kernel_rfl))
theorem t231 : TOk Tryz.prog tb 231 { ty := (.pair (.int .u8) (.int .u8)), offs := [0, 1], szs := [1, 1], eqOk := true } := .of (by kernel_rfl) (by kernel_rfl) (descOk_struct rfl (by kernel_rfl)) (fun h => eqOk_struct rfl (by kernel_rfl) (by kernel_rfl))
theorem t246 : TOk Tryz.prog tb 246 { ty := (.int .u8), eqOk := true } := .of (by kernel_rfl) (by kernel_rfl) (by show _ = _; kernel_rfl) (fun h => eqOk_int)
theorem t247 : TOk Tryz.prog tb 247 { ty := (.int .u8), eqOk := true } := .of (by kernel_rfl) (by kernel_rfl) (by show _ = _; kernel_rfl) (fun h => eqOk_int)
theorem t249 : TOk Tryz.prog tb 249 { ty := (.int .i32), eqOk := true } := .of (by kernel_rfl) (by kernel_rfl) (by show _ = _; kernel_rfl) (fun h => eqOk_int)
theorem t250 : TOk Tryz.prog tb 250 { ty := (.int .i32), eqOk := true } := .of (by kernel_rfl) (by kernel_rfl) (by show _ = _; kernel_rfl) (fun h => eqOk_int)
theorem mixed : Tryz.prog.follows .mixedOrders = true := by kernel_rfl
theorem tb_ok : CfgTb Tryz.prog tb := tbOk (all_cons t2 (all_cons t3 (all_cons t4 (all_cons t5 (all_cons t6 (all_cons t7 (all_cons t8 (all_cons t9 (all_cons t10 (all_cons t11 (all_cons t12 (all_cons t13 (all_cons t14 (all_cons t21 (all_cons t22 (all_cons t24 (all_cons t25 (all_cons t26 (all_cons t27 (all_cons t28 (all_cons t34 (all_cons t39 (all_cons t40 (all_cons t41 (all_cons t50 (all_cons t57 (all_cons t59 (all_cons t66 (all_cons t67 (all_cons t68 (all_cons t96 (all_cons t97 (all_cons t110 (all_cons t111 (all_cons t123 (all_cons t124 (all_cons t135 (all_cons t136 (all_cons t141 (all_cons t142 (all_cons t169 (all_cons t189 (all_cons t193 (all_cons t200 (all_cons t207 (all_cons t213 (all_cons t220 (all_cons t221 (all_cons t230 (all_cons t231 (all_cons t246 (all_cons t247 (all_cons t249 (all_cons t250 (all_nil)))))))))))))))))))))))))))))))))))))))))))))))))))))))
abbrev zt0 : Ty := .pair (.slice (.int .i64)) (.pair (.slice (.pair (.int .i64) (.pair (.int .i64) (.slice (.int .i64))))) (.pair (.int .i64) (.pair (.int .i64) (.int .i64))))
abbrev zt1 : Ty := .pair (.int .i64) (.pair (.int .i64) (.pair (.int .i64) (.pair (.int .i64) (.pair (.slice (.int .i64)) (.pair (.int .i64) (.int .i64))))))
abbrev zt2 : Type := List (Int × Int × Int × Int × List Int × Int × Int) × (List Int × List (Int × Int × List Int) × Int × Int × Int) × List Int × Int
abbrev zt3 : Ty := .pair (.slice (.pair (.int .i64) (.pair (.int .i64) (.slice (.int .i64))))) (.pair (.int .i64) (.pair (.int .i64) (.int .i64)))
abbrev zt4 : Ty := .pair (.int .i64) (.pair (.int .i64) (.pair (.int .i64) (.pair (.slice (.int .i64)) (.pair (.int .i64) (.int .i64)))))
abbrev zt5 : Ty := .pair (.int .i64) (.pair (.int .i64) (.pair (.slice (.int .i64)) (.pair (.int .i64) (.int .i64))))
abbrev zt6 : Ty := .pair (.int .i64) (.pair (.slice (.int .i64)) (.pair (.int .i64) (.int .i64)))
abbrev zt7 : Type := (Int × Int × Int × Int × List Int × Int × Int) × List Int × Int
abbrev zt8 : Ty := .pair (.int .i64) (.pair (.int .i64) (.slice (.int .i64)))
abbrev zt9 : Ty := .pair (.slice (.int .i64)) (.pair (.int .i64) (.int .i64))
abbrev zt10 : Type := List Int × List (Int × Int × List Int) × Int × Int × Int
abbrev zt11 : Type := (Int × Int × Int × Int × List Int × Int × Int) × Bool
abbrev zt12 : Type := List (Int × Int × Int × Int × List Int × Int × Int)
abbrev zt13 : Ty := .pair (.int .i64) (.pair (.int .i64) (.int .i64))
abbrev zt14 : Type := Int × Int × Int × Int × List Int × Int × Int
abbrev zt15 : Ty := .pair (.int .i64) (.slice (.int .i64))
abbrev zt16 : Ty := .pair (.int .i64) (.int .i64)
abbrev zt17 : Type := List (Int × Int × List Int)
abbrev zt18 : Type := List Int × Int × List Int
abbrev zt19 : Type := Int × Int × List Int
abbrev zf96.ps : List Pm := [.arg (.v (.slice (.int .u8)))]
abbrev zf96.res : List M := [.bx 136 (.v (.pair (.slice (.int .u8)) (.int .i64)))]
noncomputable def zf96.C : Cfg := { tb := tb, tab := fun n f => Refl.look [] f, gl := [], ar := ar, bld := bld, pts := pts }
noncomputable def zf96.A : Ann := { joins := [], loops := [], ids := [], pids := [], nroots := 75 }
noncomputable def zf96 (n : Nat) (x : List Int) : Option (List Int × Int) := evalF zf96.C zf96.A Tryz.f50 zf96.ps zf96.res n x
theorem zf96.eq (n : Nat) (x0 : List Int) : zf96 n x0 = (if (↑(List.length x0) : Int) > 2000 then (if 2000 ≤ (↑(List.length x0) : Int) then some ((List.take (Int.toNat 2000) x0, 0)) else none) else some ((x0, 0))) := by kernel_rfl
noncomputable abbrev zf96.sg (n : Nat) : Sig := ⟨zf96.ps, zf96.res, zf96 n⟩
theorem zf96.call : Callable Tryz.prog 50 := ⟨Tryz.f50, Tryz.func50, by kernel_rfl, by kernel_rfl⟩
theorem zf96.ok (n : Nat) : FC Tryz.prog [] 50 (zf96.sg n) :=
  evalF_ok (C := zf96.C) ⟨tb_ok, fun n _ _ h => tabOk (l := []) (all_nil) h, mixed, ar_ok, bld_ok, pts_ok⟩ zf96.A Tryz.func50 zf96.ps zf96.res n
abbrev zf107.ps : List Pm := [.box 136 (.v (.pair (.slice (.int .u8)) (.int .i64))), .arg (.v (.int .i64))]
abbrev zf107.res : List M := [.v (.int .i64)]
noncomputable def zf107.C : Cfg := { tb := tb, tab := fun n f => Refl.look [] f, gl := [], ar := ar, bld := bld, pts := pts }
noncomputable def zf107.A : Ann := { joins := [], loops := [], ids := [], pids := [], nroots := 163 }
noncomputable def zf107 (n : Nat) (x : (List Int × Int) × Int) : Option (Int × List Int × Int) := evalF zf107.C zf107.A Tryz.f55 zf107.ps zf107.res n x
theorem zf107.eq (n : Nat) (x0 : List Int × Int) (x1 : Int) : zf107 n (x0, x1) = (if x1 < 1 then some ((0, x0.1, Go.RowKit.wrap64 (x0.2 + 1))) else (if (↑(List.length x0.1) : Int) = 0 then some ((0, x0.1, Go.RowKit.wrap64 (x0.2 + 1))) else (if Go.RowKit.wrap64 (Go.RowKit.wrap64 (x0.2 + 1) - 1) < (↑(List.length x0.1) : Int) then (if 0 ≤ Go.RowKit.wrap64 (Go.RowKit.wrap64 (x0.2 + 1) - 1) then (if Go.RowKit.wrap64 (Go.RowKit.wrap64 (x0.2 + 1) - 1) < (↑(List.length x0.1) : Int) then (if x1 = 0 then none else some ((Int.tmod (Go.RowKit.wrap64 (List.getD x0.1 (Int.toNat (Go.RowKit.wrap64 (Go.RowKit.wrap64 (x0.2 + 1) - 1))) 0)) x1, x0.1, Go.RowKit.wrap64 (x0.2 + 1)))) else none) else none) else (if (↑(List.length x0.1) : Int) = 0 then none else (if 0 ≤ Int.tmod (Go.RowKit.wrap64 (Go.RowKit.wrap64 (x0.2 + 1) - 1)) (↑(List.length x0.1) : Int) then (if Int.tmod (Go.RowKit.wrap64 (Go.RowKit.wrap64 (x0.2 + 1) - 1)) (↑(List.length x0.1) : Int) < (↑(List.length x0.1) : Int) then (if (↑(List.length x0.1) : Int) = 0 then none else (if 0 ≤ Int.tmod (Go.RowKit.wrap64 (Go.RowKit.wrap64 (Go.RowKit.wrap64 (Go.RowKit.wrap64 (x0.2 + 1) - 1) * 7) + 3)) (↑(List.length x0.1) : Int) then (if Int.tmod (Go.RowKit.wrap64 (Go.RowKit.wrap64 (Go.RowKit.wrap64 (Go.RowKit.wrap64 (x0.2 + 1) - 1) * 7) + 3)) (↑(List.length x0.1) : Int) < (↑(List.length x0.1) : Int) then (if (↑(List.length x0.1) : Int) = 0 then none else (if x1 = 0 then none else some ((Int.tmod (Go.IntKind.wrap Go.IntKind.i64 (↑(BitVec.toNat (BitVec.ofInt (Go.IntKind.bits Go.IntKind.i64) (Go.RowKit.wrap64 (Go.RowKit.wrap64 (Go.RowKit.wrap64 (Go.RowKit.wrap64 (Go.RowKit.wrap64 (List.getD x0.1 (Int.toNat (Int.tmod (Go.RowKit.wrap64 (Go.RowKit.wrap64 (x0.2 + 1) - 1)) (↑(List.length x0.1) : Int))) 0) * 131) + Go.RowKit.wrap64 (Go.RowKit.wrap64 (List.getD x0.1 (Int.toNat (Int.tmod (Go.RowKit.wrap64 (Go.RowKit.wrap64 (Go.RowKit.wrap64 (Go.RowKit.wrap64 (x0.2 + 1) - 1) * 7) + 3)) (↑(List.length x0.1) : Int))) 0) * 1117)) + Go.RowKit.wrap64 (Go.RowKit.wrap64 (Go.RowKit.wrap64 (x0.2 + 1) - 1) * 29)) + Go.RowKit.wrap64 (Go.RowKit.wrap64 (Int.tdiv (Go.RowKit.wrap64 (Go.RowKit.wrap64 (x0.2 + 1) - 1)) (↑(List.length x0.1) : Int)) * 53))) ^^^ BitVec.ofInt (Go.IntKind.bits Go.IntKind.i64) (Go.RowKit.wrap64 (Int.tdiv (Go.RowKit.wrap64 (Go.RowKit.wrap64 (Go.RowKit.wrap64 (Go.RowKit.wrap64 (Go.RowKit.wrap64 (List.getD x0.1 (Int.toNat (Int.tmod (Go.RowKit.wrap64 (Go.RowKit.wrap64 (x0.2 + 1) - 1)) (↑(List.length x0.1) : Int))) 0) * 131) + Go.RowKit.wrap64 (Go.RowKit.wrap64 (List.getD x0.1 (Int.toNat (Int.tmod (Go.RowKit.wrap64 (Go.RowKit.wrap64 (Go.RowKit.wrap64 (Go.RowKit.wrap64 (x0.2 + 1) - 1) * 7) + 3)) (↑(List.length x0.1) : Int))) 0) * 1117)) + Go.RowKit.wrap64 (Go.RowKit.wrap64 (Go.RowKit.wrap64 (x0.2 + 1) - 1) * 29)) + Go.RowKit.wrap64 (Go.RowKit.wrap64 (Int.tdiv (Go.RowKit.wrap64 (Go.RowKit.wrap64 (x0.2 + 1) - 1)) (↑(List.length x0.1) : Int)) * 53))) 64)))) : Int)) x1, x0.1, Go.RowKit.wrap64 (x0.2 + 1))))) else none) else none)) else none) else none))))) := by kernel_rfl
noncomputable abbrev zf107.sg (n : Nat) : Sig := ⟨zf107.ps, zf107.res, zf107 n⟩
theorem zf107.call : Callable Tryz.prog 55 := ⟨Tryz.f55, Tryz.func55, by kernel_rfl, by kernel_rfl⟩
theorem zf107.ok (n : Nat) : FC Tryz.prog [] 55 (zf107.sg n) :=
  evalF_ok (C := zf107.C) ⟨tb_ok, fun n _ _ h => tabOk (l := []) (all_nil) h, mixed, ar_ok, bld_ok, pts_ok⟩ zf107.A Tryz.func55 zf107.ps zf107.res n
abbrev zf106.ps : List Pm := [.box 136 (.v (.pair (.slice (.int .u8)) (.int .i64))), .arg (.v (.slice (.int .i64)))]
abbrev zf106.res : List M := [.v (.int .i64)]
noncomputable def zf106.C : Cfg := { tb := tb, tab := fun n f => Refl.look [(55, (zf107.sg n))] f, gl := [], ar := ar, bld := bld, pts := pts }
noncomputable def zf106.A : Ann := { joins := [], loops := [], ids := [(1, [(9, [])])], pids := [], nroots := 76 }
noncomputable def zf106 (n : Nat) (x : (List Int × Int) × List Int) : Option (Int × List Int × Int) := evalF zf106.C zf106.A Tryz.f69 zf106.ps zf106.res n x
theorem zf106.eq (n : Nat) (x0 : List Int × Int) (x1 : List Int) : zf106 n (x0, x1) = ((zf107 n ((x0.1, x0.2), (↑(List.length x1) : Int))).bind fun y0 => (if 0 ≤ y0.1 then (if y0.1 < (↑(List.length x1) : Int) then some ((List.getD x1 (Int.toNat y0.1) 0, y0.2.1, y0.2.2)) else none) else none)) := by kernel_rfl
noncomputable abbrev zf106.sg (n : Nat) : Sig := ⟨zf106.ps, zf106.res, zf106 n⟩
theorem zf106.call : Callable Tryz.prog 69 := ⟨Tryz.f69, Tryz.func69, by kernel_rfl, by kernel_rfl⟩
theorem zf106.ok (n : Nat) : FC Tryz.prog [] 69 (zf106.sg n) :=
  evalF_ok (C := zf106.C) ⟨tb_ok, fun n _ _ h => tabOk (l := [(55, (zf107.sg n))]) (all_cons ⟨zf107.ok n, zf107.call⟩ (all_nil)) h, mixed, ar_ok, bld_ok, pts_ok⟩ zf106.A Tryz.func69 zf106.ps zf106.res n
abbrev zf89.ps : List Pm := [.arg (.v (.int .i64)), .arg (.v (.int .i64)), .arg (.v (.int .i64))]
abbrev zf89.res : List M := [.v .bool]
noncomputable def zf89.C : Cfg := { tb := tb, tab := fun n f => Refl.look [] f, gl := [], ar := ar, bld := bld, pts := pts }
noncomputable def zf89.A : Ann := { joins := [], loops := [], ids := [], pids := [], nroots := 79 }
noncomputable def zf89 (n : Nat) (x : Int × Int × Int) : Option (Bool) := evalF zf89.C zf89.A Tryz.f112 zf89.ps zf89.res n x
theorem zf89.eq (n : Nat) (x0 x1 x2 : Int) : zf89 n (x0, x1, x2) = (if x1 ≤ x0 then some (Decidable.decide (x0 ≤ x2)) else some (Bool.false)) := by kernel_rfl
noncomputable abbrev zf89.sg (n : Nat) : Sig := ⟨zf89.ps, zf89.res, zf89 n⟩
theorem zf89.call : Callable Tryz.prog 112 := ⟨Tryz.f112, Tryz.func112, by kernel_rfl, by kernel_rfl⟩
theorem zf89.ok (n : Nat) : FC Tryz.prog [] 112 (zf89.sg n) :=
  evalF_ok (C := zf89.C) ⟨tb_ok, fun n _ _ h => tabOk (l := []) (all_nil) h, mixed, ar_ok, bld_ok, pts_ok⟩ zf89.A Tryz.func112 zf89.ps zf89.res n
abbrev zf70.ps : List Pm := [.arg (.v (.int .i64))]
abbrev zf70.res : List M := [.v zt0]
noncomputable def zf70.C : Cfg := { tb := tb, tab := fun n f => Refl.look [(112, (zf89.sg n))] f, gl := [], ar := ar, bld := bld, pts := pts }
noncomputable def zf70.A : Ann := { joins := [], loops := [], ids := [(1, [(4, [])])], pids := [], nroots := 74 }
noncomputable def zf70 (n : Nat) (x : Int) : Option zt10 := evalF zf70.C zf70.A Tryz.f109 zf70.ps zf70.res n x
theorem zf70.eq (n : Nat) (x0 : Int) : zf70 n x0 = ((zf89 n (x0, 1, 12)).bind fun y0 => (if (!y0) = true then some (([], [], 0, 0, 0)) else (if 0 ≤ x0 then (if x0 ≤ x0 then (if x0 ≤ (↑Go.Refl.maxN : Int) then some ((List.replicate (Int.toNat x0) 0, [], 0, 0, 0)) else none) else none) else none))) := by kernel_rfl
noncomputable abbrev zf70.sg (n : Nat) : Sig := ⟨zf70.ps, zf70.res, zf70 n⟩
theorem zf70.call : Callable Tryz.prog 109 := ⟨Tryz.f109, Tryz.func109, by kernel_rfl, by kernel_rfl⟩
theorem zf70.ok (n : Nat) : FC Tryz.prog [] 109 (zf70.sg n) :=
  evalF_ok (C := zf70.C) ⟨tb_ok, fun n _ _ h => tabOk (l := [(112, (zf89.sg n))]) (all_cons ⟨zf89.ok n, zf89.call⟩ (all_nil)) h, mixed, ar_ok, bld_ok, pts_ok⟩ zf70.A Tryz.func109 zf70.ps zf70.res n
abbrev zf87.ps : List Pm := [.box 136 (.v (.pair (.slice (.int .u8)) (.int .i64)))]
abbrev zf87.res : List M := [.v zt0]
noncomputable def zf87.C : Cfg := { tb := tb, tab := fun n f => Refl.look [(69, (zf106.sg n)), (109, (zf70.sg n))] f, gl := [], ar := ar, bld := bld, pts := pts }
noncomputable def zf87.A : Ann := { joins := [], loops := [], ids := [(1, [(4, []), (5, []), (6, [])])], pids := [], nroots := 71 }
noncomputable def zf87 (n : Nat) (x : List Int × Int) : Option (zt10 × List Int × Int) := evalF zf87.C zf87.A Tryz.f52 zf87.ps zf87.res n x
theorem zf87.eq (n : Nat) (x0 : List Int × Int) : zf87 n x0 = ((zf106 n ((x0.1, x0.2), List.set (List.set (List.set (List.set (List.set (List.replicate 5 0) 0 3) 1 4) 2 2) 3 5) 4 1)).bind fun y0 => ((zf70 n y0.1).bind fun y1 => some (((y1.1, y1.2.1, y1.2.2.1, y1.2.2.2.1, y1.2.2.2.2), y0.2.1, y0.2.2)))) := by kernel_rfl
noncomputable abbrev zf87.sg (n : Nat) : Sig := ⟨zf87.ps, zf87.res, zf87 n⟩
theorem zf87.call : Callable Tryz.prog 52 := ⟨Tryz.f52, Tryz.func52, by kernel_rfl, by kernel_rfl⟩
theorem zf87.ok (n : Nat) : FC Tryz.prog [] 52 (zf87.sg n) :=
  evalF_ok (C := zf87.C) ⟨tb_ok, fun n _ _ h => tabOk (l := [(69, (zf106.sg n)), (109, (zf70.sg n))]) (all_cons ⟨zf106.ok n, zf106.call⟩ (all_cons ⟨zf70.ok n, zf70.call⟩ (all_nil))) h, mixed, ar_ok, bld_ok, pts_ok⟩ zf87.A Tryz.func52 zf87.ps zf87.res n
abbrev zf116.ps : List Pm := [.box 136 (.v (.pair (.slice (.int .u8)) (.int .i64)))]
abbrev zf116.res : List M := [.v zt16]
noncomputable def zf116.C : Cfg := { tb := tb, tab := fun n f => Refl.look [(55, (zf107.sg n)), (69, (zf106.sg n))] f, gl := [], ar := ar, bld := bld, pts := pts }
noncomputable def zf116.A : Ann := { joins := [], loops := [], ids := [(1, [(6, []), (8, []), (9, [])]), (2, [(17, []), (20, []), (21, [])])], pids := [], nroots := 88 }
noncomputable def zf116 (n : Nat) (x : List Int × Int) : Option ((Int × Int) × List Int × Int) := evalF zf116.C zf116.A Tryz.f115 zf116.ps zf116.res n x
theorem zf116.eq (n : Nat) (x0 : List Int × Int) : zf116 n x0 = ((zf107 n ((x0.1, x0.2), 50)).bind fun y0 => ((zf106 n ((y0.2.1, y0.2.2), List.set (List.set (List.set (List.set (List.set (List.set (List.set (List.set (List.set (List.replicate 9 0) 0 100) 1 12) 2 2) 3 4) 4 1000) 5 8) 6 1) 7 365) 8 (Go.RowKit.wrap64 (1 + y0.1)))).bind fun y1 => ((zf107 n ((y1.2.1, y1.2.2), Go.RowKit.wrap64 (y1.1 + 1))).bind fun y2 => ((zf106 n ((y2.2.1, y2.2.2), List.set (List.set (List.set (List.set (List.set (List.set (List.replicate 6 0) 0 1) 1 0) 2 (Go.Refl.mn 5 y1.1)) 3 y1.1) 4 y2.1) 5 (Go.Refl.mn 3 y1.1))).bind fun y3 => some (((y3.1, y1.1), y3.2.1, y3.2.2)))))) := by kernel_rfl
noncomputable abbrev zf116.sg (n : Nat) : Sig := ⟨zf116.ps, zf116.res, zf116 n⟩
theorem zf116.call : Callable Tryz.prog 115 := ⟨Tryz.f115, Tryz.func115, by kernel_rfl, by kernel_rfl⟩
theorem zf116.ok (n : Nat) : FC Tryz.prog [] 115 (zf116.sg n) :=
  evalF_ok (C := zf116.C) ⟨tb_ok, fun n _ _ h => tabOk (l := [(55, (zf107.sg n)), (69, (zf106.sg n))]) (all_cons ⟨zf107.ok n, zf107.call⟩ (all_cons ⟨zf106.ok n, zf106.call⟩ (all_nil))) h, mixed, ar_ok, bld_ok, pts_ok⟩ zf116.A Tryz.func115 zf116.ps zf116.res n
abbrev zf115.ps : List Pm := [.box 136 (.v (.pair (.slice (.int .u8)) (.int .i64))), .arg (.v zt0)]
abbrev zf115.res : List M := [.v zt1]
noncomputable def zf115.C : Cfg := { tb := tb, tab := fun n f => Refl.look [(55, (zf107.sg n)), (69, (zf106.sg n)), (115, (zf116.sg n))] f, gl := [], ar := ar, bld := bld, pts := pts }
noncomputable def zf115.A : Ann := { joins := [(11, { live := [0, 3, 4, 5, 6, 17, 34], base := 125 }), (20, { live := [0, 3, 4, 6, 17, 67], base := 125 }), (29, { live := [0, 4, 6], base := 125 })], loops := [(13, { live := [0, 4, 5, 6, 7, 8], base := 125, growB := [(7, 4, 153, (.int .i64), 3)] })], ids := [(0, [(3, [])]), (2, [(15, [])]), (3, [(17, [])]), (7, [(31, [])]), (11, [(44, [])]), (15, [(57, [])]), (16, [(63, [])]), (21, [(78, [])]), (22, [(94, []), (96, []), (97, []), (100, []), (101, []), (102, [])]), (24, [(107, [])]), (26, [(112, [])]), (29, [(120, []), (122, []), (123, [])])], pids := [], nroots := 189 }
noncomputable def zf115 (n : Nat) (x : (List Int × Int) × List Int × List zt19 × Int × Int × Int) : Option zt7 := evalF zf115.C zf115.A Tryz.f54 zf115.ps zf115.res n x
noncomputable def zf115.K0 (_ : Nat) : Kont zt7 := finK zf115.C (Func.results Tryz.f54).toList zf115.ps zf115.res
noncomputable def zf115.K1 (n : Nat) : Kont zt7 := seqK (fun s' k => joinE zf115.A.joins (codeAt Tryz.f54 [1, 1, 1, 1]) (fun s'' => evalC zf115.C zf115.A n (codeAt Tryz.f54 [1, 1, 1, 1]) s'' k) s') (zf115.K0 n)
noncomputable def zf115.K2 (n : Nat) : Kont zt7 := blockK 0 (zf115.K1 n)
noncomputable def zf115.K3 (n : Nat) : Kont zt7 := seqK (fun s' k => joinE zf115.A.joins (codeAt Tryz.f54 [1, 1, 1, 0, 1, 0, 1, 1, 1, 1, 1, 0, 1, 1]) (fun s'' => evalC zf115.C zf115.A n (codeAt Tryz.f54 [1, 1, 1, 0, 1, 0, 1, 1, 1, 1, 1, 0, 1, 1]) s'' k) s') (zf115.K2 n)
noncomputable def zf115.K4 (n : Nat) : Kont zt7 := blockK 1 (zf115.K3 n)
noncomputable def zf115.j11 (n : Nat) (x3 : List zt10) (x5 x6 x17 : Int) (x34 : Bool) (r0_0 : List Int) (r0_1 r125_0 : Int) (r125_1 r125_2 : Int) (r125_3 r125_5 r125_6 : Int) : Option zt7 := holdF (fun s => evalC zf115.C zf115.A n (codeAt Tryz.f54 [1, 1, 1, 0, 1, 0, 1, 1, 1, 1, 1]) s (zf115.K2 n)) (St.of 125 189 [(0, .ptr 0 0 0), (3, .vptr zt0 x3 0 0), (4, .ptr 125 0 0), (5, .val (.int .i64) x5), (6, .val (.int .i64) x6), (17, .val (.int .i64) x17), (34, .val .bool x34)] [(0, .box 136 [.val (.slice (.int .u8)) r0_0, .val (.int .i64) r0_1]), (125, .box 28 [.val (.int .i64) r125_0, .val (.int .i64) r125_1, .val (.int .i64) r125_2, .val (.int .i64) r125_3, .nils, .val (.int .i64) r125_5, .val (.int .i64) r125_6])] [0])
noncomputable def zf115.l13 (n m13 : Nat) (x5 x6 x8 : Int) (r0_0 : List Int) (r0_1 r125_0 : Int) (r125_1 r125_2 : Int) (r125_3 r125_5 : Int) (r125_6 r126_0 : Int) (r126_1 r126_2 : Int) (r126_3 r126_5 r126_6 : Int) (r127 : List Int) : Option zt7 := loopE (cutAt zf115.A.loops (codeAt Tryz.f54 [1, 1, 1, 0, 1, 0, 1, 1, 1, 1, 1, 0, 1, 0, 1, 0, 0])) (fun s k => evalC zf115.C zf115.A n (codeAt Tryz.f54 [1, 1, 1, 0, 1, 0, 1, 1, 1, 1, 1, 0, 1, 0, 1, 0, 0]) s k) m13 (St.of 125 189 [(0, .ptr 0 0 0), (4, .ptr 125 0 0), (5, .val (.int .i64) x5), (6, .val (.int .i64) x6), (7, .ptr 126 0 0), (8, .val (.int .i64) x8)] [(0, .box 136 [.val (.slice (.int .u8)) r0_0, .val (.int .i64) r0_1]), (125, .box 28 [.val (.int .i64) r125_0, .val (.int .i64) r125_1, .val (.int .i64) r125_2, .val (.int .i64) r125_3, .nils, .val (.int .i64) r125_5, .val (.int .i64) r125_6]), (126, .box 28 [.val (.int .i64) r126_0, .val (.int .i64) r126_1, .val (.int .i64) r126_2, .val (.int .i64) r126_3, .own 127, .val (.int .i64) r126_5, .val (.int .i64) r126_6]), (127, .row (.int .i64) 3 r127)] [0]) (zf115.K4 n)
noncomputable def zf115.j20 (n : Nat) (x3 : List zt10) (x6 x17 : Int) (x67 : Bool) (r0_0 : List Int) (r0_1 r125_0 : Int) (r125_1 r125_2 : Int) (r125_3 r125_5 r125_6 : Int) : Option zt7 := holdF (fun s => evalC zf115.C zf115.A n (codeAt Tryz.f54 [1, 1, 1, 0, 1, 0, 1, 1, 1, 1, 1, 1, 1]) s (zf115.K2 n)) (St.of 125 189 [(0, .ptr 0 0 0), (3, .vptr zt0 x3 0 0), (4, .ptr 125 0 0), (6, .val (.int .i64) x6), (17, .val (.int .i64) x17), (67, .val .bool x67)] [(0, .box 136 [.val (.slice (.int .u8)) r0_0, .val (.int .i64) r0_1]), (125, .box 28 [.val (.int .i64) r125_0, .val (.int .i64) r125_1, .val (.int .i64) r125_2, .val (.int .i64) r125_3, .nils, .val (.int .i64) r125_5, .val (.int .i64) r125_6])] [0])
noncomputable def zf115.j29 (n : Nat) (x6 : Int) (r0_0 : List Int) (r0_1 r125_0 : Int) (r125_1 r125_2 : Int) (r125_3 r125_5 r125_6 : Int) : Option zt7 := holdF (fun s => evalC zf115.C zf115.A n (codeAt Tryz.f54 [1, 1, 1, 1]) s (zf115.K0 n)) (St.of 125 189 [(0, .ptr 0 0 0), (4, .ptr 125 0 0), (6, .val (.int .i64) x6)] [(0, .box 136 [.val (.slice (.int .u8)) r0_0, .val (.int .i64) r0_1]), (125, .box 28 [.val (.int .i64) r125_0, .val (.int .i64) r125_1, .val (.int .i64) r125_2, .val (.int .i64) r125_3, .nils, .val (.int .i64) r125_5, .val (.int .i64) r125_6])] [0])
theorem zf115.eq (n : Nat) (x0 : List Int × Int) (x1 : List Int × List zt19 × Int × Int × Int) : zf115 n (x0, x1) = ((zf107 n ((x0.1, x0.2), (↑(List.length x1.1) : Int))).bind fun y0 => ((zf107 n ((y0.2.1, y0.2.2), 12)).bind fun y1 => (if y1.1 = 0 then some (((0, 0, 0, 0, [], 0, 0), y1.2.1, y1.2.2)) else (if y1.1 = 1 then (if 0 ≤ y0.1 then (if y0.1 < (↑(List.length x1.1) : Int) then ((zf107 n ((y1.2.1, y1.2.2), Go.Refl.mx (List.getD x1.1 (Int.toNat y0.1) 0) 1)).bind fun y2 => some (((2, y0.1, Go.RowKit.wrap64 (1 + y2.1), 0, [], 0, 0), y2.2.1, y2.2.2))) else none) else none) else (if y1.1 = 2 then zf115.j11 n ([x1]) ((↑(List.length x1.1) : Int)) y0.1 y1.1 (Decidable.decide (y1.1 = 2)) y1.2.1 y1.2.2 (0) (0) (0) (0) (0) (0) else (if y1.1 = 3 then zf115.j11 n ([x1]) ((↑(List.length x1.1) : Int)) y0.1 y1.1 (Decidable.decide (y1.1 = 3)) y1.2.1 y1.2.2 (0) (0) (0) (0) (0) (0) else zf115.j11 n ([x1]) ((↑(List.length x1.1) : Int)) y0.1 y1.1 (Decidable.decide (y1.1 = 4)) y1.2.1 y1.2.2 (0) (0) (0) (0) (0) (0))))))) := by kernel_rfl
theorem zf115.j11_eq (n : Nat) (x3 : List zt10) (x5 x6 x17 : Int) (x34 : Bool) (r0_0 : List Int) (r0_1 r125_0 : Int) (r125_1 r125_2 : Int) (r125_3 r125_5 r125_6 : Int) : zf115.j11 n x3 x5 x6 x17 x34 r0_0 r0_1 r125_0 r125_1 r125_2 r125_3 r125_5 r125_6 = (if (x34) = true then ((zf107 n ((r0_0, r0_1), Go.Refl.mn (Go.Refl.mx (Prod.fst (Prod.snd (Prod.snd (List.getD x3 0 ([], [], 0, 0, 0))))) 1) 150)).bind fun y3 => zf115.l13 n n (x5) (x6) (0) y3.2.1 y3.2.2 (r125_0) (r125_1) (r125_2) (r125_3) (r125_5) (r125_6) (3) (x6) (Go.RowKit.wrap64 (1 + y3.1)) (0) (0) (0) ([])) else (if x17 = 5 then zf115.j20 n (x3) (x6) (x17) (Decidable.decide (x17 = 5)) (r0_0) (r0_1) (r125_0) (r125_1) (r125_2) (r125_3) (r125_5) (r125_6) else zf115.j20 n (x3) (x6) (x17) (Decidable.decide (x17 = 6)) (r0_0) (r0_1) (r125_0) (r125_1) (r125_2) (r125_3) (r125_5) (r125_6))) := (holdF_eq _ _).trans (by kernel_rfl)
theorem zf115.l13_succ (n m13 : Nat) (x5 x6 x8 : Int) (r0_0 : List Int) (r0_1 r125_0 : Int) (r125_1 r125_2 : Int) (r125_3 r125_5 : Int) (r125_6 r126_0 : Int) (r126_1 r126_2 : Int) (r126_3 r126_5 r126_6 : Int) (r127 : List Int) : zf115.l13 n (m13 + 1) x5 x6 x8 r0_0 r0_1 r125_0 r125_1 r125_2 r125_3 r125_5 r125_6 r126_0 r126_1 r126_2 r126_3 r126_5 r126_6 r127 = (if x8 < x5 then (if x8 = x6 then zf115.l13 n m13 (x5) (x6) (Go.RowKit.wrap64 (x8 + 1)) (r0_0) (r0_1) (r125_0) (r125_1) (r125_2) (r125_3) (r125_5) (r125_6) (r126_0) (r126_1) (r126_2) (r126_3) (r126_5) (r126_6) (r127) else ((zf107 n ((r0_0, r0_1), 2)).bind fun y4 => (if y4.1 = 0 then (if List.length r127 + List.length (List.set (List.replicate (1 : Nat) (0 : Int)) (0 : Nat) x8) ≤ Go.Refl.maxN then zf115.l13 n m13 (x5) (x6) (Go.RowKit.wrap64 (x8 + 1)) y4.2.1 y4.2.2 (r125_0) (r125_1) (r125_2) (r125_3) (r125_5) (r125_6) (r126_0) (r126_1) (r126_2) (r126_3) (r126_5) (r126_6) (r127 ++ List.set (List.replicate 1 0) 0 x8) else none) else zf115.l13 n m13 (x5) (x6) (Go.RowKit.wrap64 (x8 + 1)) y4.2.1 y4.2.2 (r125_0) (r125_1) (r125_2) (r125_3) (r125_5) (r125_6) (r126_0) (r126_1) (r126_2) (r126_3) (r126_5) (r126_6) (r127)))) else some (((r126_0, r126_1, r126_2, r126_3, r127, r126_5, r126_6), r0_0, r0_1))) := by kernel_rfl
theorem zf115.j20_eq (n : Nat) (x3 : List zt10) (x6 x17 : Int) (x67 : Bool) (r0_0 : List Int) (r0_1 r125_0 : Int) (r125_1 r125_2 : Int) (r125_3 r125_5 r125_6 : Int) : zf115.j20 n x3 x6 x17 x67 r0_0 r0_1 r125_0 r125_1 r125_2 r125_3 r125_5 r125_6 = (if (x67) = true then (if (↑(List.length (Prod.fst (Prod.snd (List.getD x3 (0 : Nat) ([], [], (0 : Int), (0 : Int), (0 : Int)))))) : Int) > 0 then ((zf107 n ((r0_0, r0_1), (↑(List.length (Prod.fst (Prod.snd (List.getD x3 (0 : Nat) ([], [], (0 : Int), (0 : Int), (0 : Int)))))) : Int))).bind fun y5 => (if 0 ≤ y5.1 then (if y5.1 < (↑(List.length (Prod.fst (Prod.snd (List.getD x3 (0 : Nat) ([], [], (0 : Int), (0 : Int), (0 : Int)))))) : Int) then (if 0 ≤ y5.1 then (if y5.1 < (↑(List.length (Prod.fst (Prod.snd (List.getD x3 (0 : Nat) ([], [], (0 : Int), (0 : Int), (0 : Int)))))) : Int) then ((zf107 n ((y5.2.1, y5.2.2), Prod.fst (Prod.snd (List.getD (Prod.fst (Prod.snd (List.getD x3 0 ([], [], 0, 0, 0)))) (Int.toNat y5.1) (0, 0, []))))).bind fun y6 => ((zf106 n ((y6.2.1, y6.2.2), List.set (List.set (List.replicate 2 0) 0 (Prod.fst (Prod.snd (List.getD (Prod.fst (Prod.snd (List.getD x3 0 ([], [], 0, 0, 0)))) (Int.toNat y5.1) (0, 0, []))))) 1 (Go.RowKit.wrap64 (1 + y6.1)))).bind fun y7 => ((zf107 n ((y7.2.1, y7.2.2), 30)).bind fun y8 => ((zf106 n ((y8.2.1, y8.2.2), List.set (List.set (List.set (List.replicate 3 0) 0 0) 1 5) 2 y8.1)).bind fun y9 => some (((4, y5.1, y7.1, y9.1, [], 0, 0), y9.2.1, y9.2.2)))))) else none) else none) else none) else none)) else zf115.j29 n (x6) (r0_0) (r0_1) (r125_0) (r125_1) (r125_2) (r125_3) (r125_5) (r125_6)) else (if x17 = 7 then ((zf116 n (r0_0, r0_1)).bind fun y10 => some (((6, 0, 0, 0, [], y10.1.1, y10.1.2), y10.2.1, y10.2.2))) else (if x17 = 8 then ((zf107 n ((r0_0, r0_1), 2)).bind fun y11 => (if y11.1 = 0 then some (((5, x6, 0, 0, [], 0, 0), y11.2.1, y11.2.2)) else some (((7, 0, 0, 0, [], 0, 0), y11.2.1, y11.2.2)))) else zf115.j29 n (x6) (r0_0) (r0_1) (r125_0) (r125_1) (r125_2) (r125_3) (r125_5) (r125_6)))) := (holdF_eq _ _).trans (by kernel_rfl)
theorem zf115.j29_eq (n : Nat) (x6 : Int) (r0_0 : List Int) (r0_1 r125_0 : Int) (r125_1 r125_2 : Int) (r125_3 r125_5 r125_6 : Int) : zf115.j29 n x6 r0_0 r0_1 r125_0 r125_1 r125_2 r125_3 r125_5 r125_6 = ((zf107 n ((r0_0, r0_1), 250)).bind fun y12 => ((zf106 n ((y12.2.1, y12.2.2), List.set (List.set (List.set (List.set (List.replicate 4 0) 0 100) 1 250) 2 (Go.RowKit.wrap64 (1 + y12.1))) 3 1000)).bind fun y13 => some (((1, x6, y13.1, 0, [], 0, 0), y13.2.1, y13.2.2)))) := (holdF_eq _ _).trans (by kernel_rfl)
noncomputable abbrev zf115.sg (n : Nat) : Sig := ⟨zf115.ps, zf115.res, zf115 n⟩
theorem zf115.call : Callable Tryz.prog 54 := ⟨Tryz.f54, Tryz.func54, by kernel_rfl, by kernel_rfl⟩
theorem zf115.ok (n : Nat) : FC Tryz.prog [] 54 (zf115.sg n) :=
  evalF_ok (C := zf115.C) ⟨tb_ok, fun n _ _ h => tabOk (l := [(55, (zf107.sg n)), (69, (zf106.sg n)), (115, (zf116.sg n))]) (all_cons ⟨zf107.ok n, zf107.call⟩ (all_cons ⟨zf106.ok n, zf106.call⟩ (all_cons ⟨zf116.ok n, zf116.call⟩ (all_nil)))) h, mixed, ar_ok, bld_ok, pts_ok⟩ zf115.A Tryz.func54 zf115.ps zf115.res n
abbrev zf81.ps : List Pm := [.arg (.v (.slice (.int .i64)))]
abbrev zf81.res : List M := [(.own (.int .i64) 3)]
noncomputable def zf81.C : Cfg := { tb := tb, tab := fun n f => Refl.look [] f, gl := [], ar := ar, bld := bld, pts := pts }
noncomputable def zf81.A : Ann := { joins := [], loops := [], ids := [], pids := [], nroots := 70 }
noncomputable def zf81 (n : Nat) (x : List Int) : Option (List Int) := evalF zf81.C zf81.A Tryz.f141 zf81.ps zf81.res n x
theorem zf81.eq (n : Nat) (x0 : List Int) : zf81 n x0 = (if List.length (List.replicate (0 : Nat) (0 : Int)) + List.length x0 ≤ Go.Refl.maxN then some (List.replicate 0 0 ++ x0) else none) := by kernel_rfl
noncomputable abbrev zf81.sg (n : Nat) : Sig := ⟨zf81.ps, zf81.res, zf81 n⟩
theorem zf81.call : Callable Tryz.prog 141 := ⟨Tryz.f141, Tryz.func141, by kernel_rfl, by kernel_rfl⟩
theorem zf81.ok (n : Nat) : FC Tryz.prog [] 141 (zf81.sg n) :=
  evalF_ok (C := zf81.C) ⟨tb_ok, fun n _ _ h => tabOk (l := []) (all_nil) h, mixed, ar_ok, bld_ok, pts_ok⟩ zf81.A Tryz.func141 zf81.ps zf81.res n
abbrev zf82.ps : List Pm := [.arg (.v (.slice zt8))]
abbrev zf82.res : List M := [(.own zt8 142)]
noncomputable def zf82.C : Cfg := { tb := tb, tab := fun n f => Refl.look [(141, { params := zf81.ps, res := [.v (.slice (.int .i64))], run := zf81 n })] f, gl := [], ar := ar, bld := bld, pts := pts }
noncomputable def zf82.A : Ann := { joins := [], loops := [(3, { live := [0, 3, 4], base := 33 })], ids := [(5, [(28, []), (30, [])])], pids := [], nroots := 97 }
noncomputable def zf82 (n : Nat) (x : List zt19) : Option zt17 := evalF zf82.C zf82.A Tryz.f187 zf82.ps zf82.res n x
noncomputable def zf82.K0 (_ : Nat) : Kont zt17 := finK zf82.C (Func.results Tryz.f187).toList zf82.ps zf82.res
noncomputable def zf82.K1 (n : Nat) : Kont zt17 := seqK (fun s' k => joinE zf82.A.joins (codeAt Tryz.f187 [1, 1, 1]) (fun s'' => evalC zf82.C zf82.A n (codeAt Tryz.f187 [1, 1, 1]) s'' k) s') (zf82.K0 n)
noncomputable def zf82.K2 (n : Nat) : Kont zt17 := blockK 0 (zf82.K1 n)
noncomputable def zf82.l3 (n m3 : Nat) (x0 : List zt19) (x4 : Int) (r33 : List zt19) : Option zt17 := loopE (cutAt zf82.A.loops (codeAt Tryz.f187 [1, 1, 0, 1, 0, 0])) (fun s k => evalC zf82.C zf82.A n (codeAt Tryz.f187 [1, 1, 0, 1, 0, 0]) s k) m3 (St.of 33 97 [(0, .val (.slice zt8) x0), (3, .own 33), (4, .val (.int .i64) x4)] [(33, .row zt8 142 r33)] []) (zf82.K2 n)
theorem zf82.eq (n : Nat) (x0 : List zt19) : zf82 n x0 = zf82.l3 n n (x0) (0) (List.replicate 0 (0, 0, [])) := by kernel_rfl
theorem zf82.l3_succ (n m3 : Nat) (x0 : List zt19) (x4 : Int) (r33 : List zt19) : zf82.l3 n (m3 + 1) x0 x4 r33 = (if x4 < (↑(List.length x0) : Int) then (if 0 ≤ x4 then (if x4 < (↑(List.length x0) : Int) then (if 0 ≤ x4 then (if x4 < (↑(List.length x0) : Int) then (if 0 ≤ x4 then (if x4 < (↑(List.length x0) : Int) then ((zf81 n (Prod.snd (Prod.snd (List.getD x0 (Int.toNat x4) (0, 0, []))))).bind fun y0 => (if List.length r33 + List.length (List.set (List.replicate (1 : Nat) ((0 : Int), (0 : Int), [])) (0 : Nat) (Prod.fst (List.getD x0 (Int.toNat x4) ((0 : Int), (0 : Int), [])), Prod.fst (Prod.snd (List.getD x0 (Int.toNat x4) ((0 : Int), (0 : Int), []))), y0)) ≤ Go.Refl.maxN then zf82.l3 n m3 (x0) (Go.RowKit.wrap64 (x4 + 1)) (r33 ++ List.set (List.replicate 1 (0, 0, [])) 0 (Prod.fst (List.getD x0 (Int.toNat x4) (0, 0, [])), Prod.fst (Prod.snd (List.getD x0 (Int.toNat x4) (0, 0, []))), y0)) else none)) else none) else none) else none) else none) else none) else none) else some (r33)) := by kernel_rfl
noncomputable abbrev zf82.sg (n : Nat) : Sig := ⟨zf82.ps, zf82.res, zf82 n⟩
theorem zf82.call : Callable Tryz.prog 187 := ⟨Tryz.f187, Tryz.func187, by kernel_rfl, by kernel_rfl⟩
theorem zf82.ok (n : Nat) : FC Tryz.prog [] 187 (zf82.sg n) :=
  evalF_ok (C := zf82.C) ⟨tb_ok, fun n _ _ h => tabOk (l := [(141, { params := zf81.ps, res := [.v (.slice (.int .i64))], run := zf81 n })]) (all_cons ⟨FC.weak (.cons (.own _ _) .nil) HEq.rfl (zf81.ok n), zf81.call⟩ (all_nil)) h, mixed, ar_ok, bld_ok, pts_ok⟩ zf82.A Tryz.func187 zf82.ps zf82.res n
abbrev zf80.ps : List Pm := [.arg (.v zt0)]
abbrev zf80.res : List M := [(.pr (.own (.int .i64) 3) (.pr (.own zt8 142) (.v zt13)))]
noncomputable def zf80.C : Cfg := { tb := tb, tab := fun n f => Refl.look [(141, (zf81.sg n)), (187, (zf82.sg n))] f, gl := [], ar := ar, bld := bld, pts := pts }
noncomputable def zf80.A : Ann := { joins := [], loops := [], ids := [], pids := [], nroots := 78 }
noncomputable def zf80 (n : Nat) (x : List Int × List zt19 × Int × Int × Int) : Option zt10 := evalF zf80.C zf80.A Tryz.f138 zf80.ps zf80.res n x
theorem zf80.eq (n : Nat) (x0 : List Int × List zt19 × Int × Int × Int) : zf80 n x0 = ((zf81 n x0.1).bind fun y0 => ((zf82 n x0.2.1).bind fun y1 => some ((y0, y1, x0.2.2.1, x0.2.2.2.1, x0.2.2.2.2)))) := by kernel_rfl
noncomputable abbrev zf80.sg (n : Nat) : Sig := ⟨zf80.ps, zf80.res, zf80 n⟩
theorem zf80.call : Callable Tryz.prog 138 := ⟨Tryz.f138, Tryz.func138, by kernel_rfl, by kernel_rfl⟩
theorem zf80.ok (n : Nat) : FC Tryz.prog [] 138 (zf80.sg n) :=
  evalF_ok (C := zf80.C) ⟨tb_ok, fun n _ _ h => tabOk (l := [(141, (zf81.sg n)), (187, (zf82.sg n))]) (all_cons ⟨zf81.ok n, zf81.call⟩ (all_cons ⟨zf82.ok n, zf82.call⟩ (all_nil))) h, mixed, ar_ok, bld_ok, pts_ok⟩ zf80.A Tryz.func138 zf80.ps zf80.res n
abbrev zf74.ps : List Pm := [.arg (.v (.slice (.int .i64))), .arg (.v (.int .i64)), .arg (.v (.int .i64))]
abbrev zf74.res : List M := [.v .bool]
noncomputable def zf74.C : Cfg := { tb := tb, tab := fun n f => Refl.look [(112, (zf89.sg n))] f, gl := [], ar := ar, bld := bld, pts := pts }
noncomputable def zf74.A : Ann := { joins := [], loops := [(2, { live := [0, 1, 2, 7], base := 22 })], ids := [(4, [(20, [])])], pids := [], nroots := 86 }
noncomputable def zf74 (n : Nat) (x : List Int × Int × Int) : Option (Bool) := evalF zf74.C zf74.A Tryz.f178 zf74.ps zf74.res n x
noncomputable def zf74.K0 (_ : Nat) : Kont (Bool) := finK zf74.C (Func.results Tryz.f178).toList zf74.ps zf74.res
noncomputable def zf74.K1 (n : Nat) : Kont (Bool) := seqK (fun s' k => joinE zf74.A.joins (codeAt Tryz.f178 [1, 1]) (fun s'' => evalC zf74.C zf74.A n (codeAt Tryz.f178 [1, 1]) s'' k) s') (zf74.K0 n)
noncomputable def zf74.K2 (n : Nat) : Kont (Bool) := blockK 0 (zf74.K1 n)
noncomputable def zf74.l2 (n m2 : Nat) (x0 : List Int) (x1 x2 x7 : Int) : Option (Bool) := loopE (cutAt zf74.A.loops (codeAt Tryz.f178 [1, 0, 1, 0, 0])) (fun s k => evalC zf74.C zf74.A n (codeAt Tryz.f178 [1, 0, 1, 0, 0]) s k) m2 (St.of 22 86 [(0, .val (.slice (.int .i64)) x0), (1, .val (.int .i64) x1), (2, .val (.int .i64) x2), (7, .val (.int .i64) x7)] [] []) (zf74.K2 n)
theorem zf74.eq (n : Nat) (x0 : List Int) (x1 x2 : Int) : zf74 n (x0, x1, x2) = zf74.l2 n n (x0) (x1) (x2) (0) := by kernel_rfl
theorem zf74.l2_succ (n m2 : Nat) (x0 : List Int) (x1 x2 x7 : Int) : zf74.l2 n (m2 + 1) x0 x1 x2 x7 = (if x7 < (↑(List.length x0) : Int) then (if 0 ≤ x7 then (if x7 < (↑(List.length x0) : Int) then ((zf89 n (List.getD x0 (Int.toNat x7) 0, x1, x2)).bind fun y0 => (if (!y0) = true then some (Bool.false) else zf74.l2 n m2 (x0) (x1) (x2) (Go.RowKit.wrap64 (x7 + 1)))) else none) else none) else some (Bool.true)) := by kernel_rfl
noncomputable abbrev zf74.sg (n : Nat) : Sig := ⟨zf74.ps, zf74.res, zf74 n⟩
theorem zf74.call : Callable Tryz.prog 178 := ⟨Tryz.f178, Tryz.func178, by kernel_rfl, by kernel_rfl⟩
theorem zf74.ok (n : Nat) : FC Tryz.prog [] 178 (zf74.sg n) :=
  evalF_ok (C := zf74.C) ⟨tb_ok, fun n _ _ h => tabOk (l := [(112, (zf89.sg n))]) (all_cons ⟨zf89.ok n, zf89.call⟩ (all_nil)) h, mixed, ar_ok, bld_ok, pts_ok⟩ zf74.A Tryz.func178 zf74.ps zf74.res n
abbrev zf125.ps : List Pm := [.arg (.v (.slice (.int .i64)))]
abbrev zf125.res : List M := [.v .bool]
noncomputable def zf125.C : Cfg := { tb := tb, tab := fun n f => Refl.look [(112, (zf89.sg n)), (178, (zf74.sg n))] f, gl := [], ar := ar, bld := bld, pts := pts }
noncomputable def zf125.A : Ann := { joins := [], loops := [], ids := [(1, [(5, []), (8, [])])], pids := [], nroots := 74 }
noncomputable def zf125 (n : Nat) (x : List Int) : Option (Bool) := evalF zf125.C zf125.A Tryz.f126 zf125.ps zf125.res n x
theorem zf125.eq (n : Nat) (x0 : List Int) : zf125 n x0 = ((zf89 n ((↑(List.length x0) : Int), 1, 12)).bind fun y0 => (if y0 = Bool.true then ((zf74 n (x0, 0, 100000)).bind fun y1 => some (y1)) else some (Bool.false))) := by kernel_rfl
noncomputable abbrev zf125.sg (n : Nat) : Sig := ⟨zf125.ps, zf125.res, zf125 n⟩
theorem zf125.call : Callable Tryz.prog 126 := ⟨Tryz.f126, Tryz.func126, by kernel_rfl, by kernel_rfl⟩
theorem zf125.ok (n : Nat) : FC Tryz.prog [] 126 (zf125.sg n) :=
  evalF_ok (C := zf125.C) ⟨tb_ok, fun n _ _ h => tabOk (l := [(112, (zf89.sg n)), (178, (zf74.sg n))]) (all_cons ⟨zf89.ok n, zf89.call⟩ (all_cons ⟨zf74.ok n, zf74.call⟩ (all_nil))) h, mixed, ar_ok, bld_ok, pts_ok⟩ zf125.A Tryz.func126 zf125.ps zf125.res n
abbrev zf117.ps : List Pm := [.arg (.v (.int .i64)), .arg (.v (.int .i64))]
abbrev zf117.res : List M := [(.own (.int .i64) 3)]
noncomputable def zf117.C : Cfg := { tb := tb, tab := fun n f => Refl.look [] f, gl := [], ar := ar, bld := bld, pts := pts }
noncomputable def zf117.A : Ann := { joins := [], loops := [(3, { live := [0, 1, 5, 6], base := 29 })], ids := [(8, [(26, [])])], pids := [], nroots := 93 }
noncomputable def zf117 (n : Nat) (x : Int × Int) : Option (List Int) := evalF zf117.C zf117.A Tryz.f190 zf117.ps zf117.res n x
noncomputable def zf117.K0 (_ : Nat) : Kont (List Int) := finK zf117.C (Func.results Tryz.f190).toList zf117.ps zf117.res
noncomputable def zf117.K1 (n : Nat) : Kont (List Int) := seqK (fun s' k => joinE zf117.A.joins (codeAt Tryz.f190 [1, 1, 1]) (fun s'' => evalC zf117.C zf117.A n (codeAt Tryz.f190 [1, 1, 1]) s'' k) s') (zf117.K0 n)
noncomputable def zf117.K2 (n : Nat) : Kont (List Int) := blockK 0 (zf117.K1 n)
noncomputable def zf117.l3 (n m3 : Nat) (x0 x1 x6 : Int) (r29 : List Int) : Option (List Int) := loopE (cutAt zf117.A.loops (codeAt Tryz.f190 [1, 1, 0, 1, 0, 0])) (fun s k => evalC zf117.C zf117.A n (codeAt Tryz.f190 [1, 1, 0, 1, 0, 0]) s k) m3 (St.of 29 93 [(0, .val (.int .i64) x0), (1, .val (.int .i64) x1), (5, .own 29), (6, .val (.int .i64) x6)] [(29, .row (.int .i64) 3 r29)] []) (zf117.K2 n)
theorem zf117.eq (n : Nat) (x0 x1 : Int) : zf117 n (x0, x1) = zf117.l3 n n (x0) (x1) (0) (List.replicate 0 0) := by kernel_rfl
theorem zf117.l3_succ (n m3 : Nat) (x0 x1 x6 : Int) (r29 : List Int) : zf117.l3 n (m3 + 1) x0 x1 x6 r29 = (if x6 < x1 then (if x1 = 0 then none else (if x1 = 0 then none else (if x6 < Int.tmod x0 x1 then (if List.length r29 + List.length (List.set (List.replicate (1 : Nat) (0 : Int)) (0 : Nat) (Go.RowKit.wrap64 (Go.RowKit.wrap64 (Int.tdiv x0 x1) + (1 : Int)))) ≤ Go.Refl.maxN then zf117.l3 n m3 (x0) (x1) (Go.RowKit.wrap64 (x6 + 1)) (r29 ++ List.set (List.replicate 1 0) 0 (Go.RowKit.wrap64 (Go.RowKit.wrap64 (Int.tdiv x0 x1) + 1))) else none) else (if List.length r29 + List.length (List.set (List.replicate (1 : Nat) (0 : Int)) (0 : Nat) (Go.RowKit.wrap64 (Int.tdiv x0 x1))) ≤ Go.Refl.maxN then zf117.l3 n m3 (x0) (x1) (Go.RowKit.wrap64 (x6 + 1)) (r29 ++ List.set (List.replicate 1 0) 0 (Go.RowKit.wrap64 (Int.tdiv x0 x1))) else none)))) else some (r29)) := by kernel_rfl
noncomputable abbrev zf117.sg (n : Nat) : Sig := ⟨zf117.ps, zf117.res, zf117 n⟩
theorem zf117.call : Callable Tryz.prog 190 := ⟨Tryz.f190, Tryz.func190, by kernel_rfl, by kernel_rfl⟩
theorem zf117.ok (n : Nat) : FC Tryz.prog [] 190 (zf117.sg n) :=
  evalF_ok (C := zf117.C) ⟨tb_ok, fun n _ _ h => tabOk (l := []) (all_nil) h, mixed, ar_ok, bld_ok, pts_ok⟩ zf117.A Tryz.func190 zf117.ps zf117.res n
abbrev zf84.ps : List Pm := [.arg (.v (.slice zt8)), .arg (.v (.int .i64))]
abbrev zf84.res : List M := [(.own (.int .i64) 3)]
noncomputable def zf84.C : Cfg := { tb := tb, tab := fun n f => Refl.look [(190, (zf117.sg n))] f, gl := [], ar := ar, bld := bld, pts := pts }
noncomputable def zf84.A : Ann := { joins := [], loops := [(3, { live := [0, 5, 6], base := 62 }), (7, { live := [0, 5, 6, 7, 8], base := 62 })], ids := [], pids := [], nroots := 126 }
noncomputable def zf84 (n : Nat) (x : List zt19 × Int) : Option (List Int) := evalF zf84.C zf84.A Tryz.f230 zf84.ps zf84.res n x
noncomputable def zf84.K0 (_ : Nat) : Kont (List Int) := finK zf84.C (Func.results Tryz.f230).toList zf84.ps zf84.res
noncomputable def zf84.K1 (n : Nat) : Kont (List Int) := seqK (fun s' k => joinE zf84.A.joins (codeAt Tryz.f230 [1, 1, 1]) (fun s'' => evalC zf84.C zf84.A n (codeAt Tryz.f230 [1, 1, 1]) s'' k) s') (zf84.K0 n)
noncomputable def zf84.K2 (n : Nat) : Kont (List Int) := blockK 0 (zf84.K1 n)
noncomputable def zf84.K3 (n m3 : Nat) : Kont (List Int) := loopK (cutAt zf84.A.loops (codeAt Tryz.f230 [1, 1, 0, 1, 0, 0])) (fun s k => evalC zf84.C zf84.A n (codeAt Tryz.f230 [1, 1, 0, 1, 0, 0]) s k) m3 (zf84.K2 n)
noncomputable def zf84.K4 (n m3 : Nat) : Kont (List Int) := seqK (fun s' k => joinE zf84.A.joins (codeAt Tryz.f230 [1, 1, 0, 1, 0, 0, 1, 1]) (fun s'' => evalC zf84.C zf84.A n (codeAt Tryz.f230 [1, 1, 0, 1, 0, 0, 1, 1]) s'' k) s') (zf84.K3 n m3)
noncomputable def zf84.K5 (n m3 : Nat) : Kont (List Int) := blockK 1 (zf84.K4 n m3)
noncomputable def zf84.K6 (n m3 : Nat) : Kont (List Int) := blockK 2 (zf84.K5 n m3)
noncomputable def zf84.l3 (n m3 : Nat) (x0 : List zt19) (x6 : Int) (r62 : List Int) : Option (List Int) := loopE (cutAt zf84.A.loops (codeAt Tryz.f230 [1, 1, 0, 1, 0, 0])) (fun s k => evalC zf84.C zf84.A n (codeAt Tryz.f230 [1, 1, 0, 1, 0, 0]) s k) m3 (St.of 62 126 [(0, .val (.slice zt8) x0), (5, .own 62), (6, .val (.int .i64) x6)] [(62, .row (.int .i64) 3 r62)] []) (zf84.K2 n)
noncomputable def zf84.l7 (n m3 m7 : Nat) (x0 : List zt19) (x6 x8 : Int) (r62 r63 : List Int) : Option (List Int) := loopE (cutAt zf84.A.loops (codeAt Tryz.f230 [1, 1, 0, 1, 0, 0, 1, 0, 0, 1, 1, 0, 0])) (fun s k => evalC zf84.C zf84.A n (codeAt Tryz.f230 [1, 1, 0, 1, 0, 0, 1, 0, 0, 1, 1, 0, 0]) s k) m7 (St.of 62 126 [(0, .val (.slice zt8) x0), (5, .own 62), (6, .val (.int .i64) x6), (7, .own 63), (8, .val (.int .i64) x8)] [(62, .row (.int .i64) 3 r62), (63, .row (.int .i64) 3 r63)] []) (zf84.K6 n m3)
theorem zf84.eq (n : Nat) (x0 : List zt19) (x1 : Int) : zf84 n (x0, x1) = (if 0 ≤ x1 then (if x1 ≤ x1 then (if x1 ≤ (↑Go.Refl.maxN : Int) then zf84.l3 n n (x0) (0) (List.replicate (Int.toNat x1) 0) else none) else none) else none) := by kernel_rfl
theorem zf84.l3_succ (n m3 : Nat) (x0 : List zt19) (x6 : Int) (r62 : List Int) : zf84.l3 n (m3 + 1) x0 x6 r62 = (if x6 < (↑(List.length x0) : Int) then (if 0 ≤ x6 then (if x6 < (↑(List.length x0) : Int) then (if 0 ≤ x6 then (if x6 < (↑(List.length x0) : Int) then ((zf117 n (Prod.fst (Prod.snd (List.getD x0 (Int.toNat x6) (0, 0, []))), (↑(List.length (Prod.snd (Prod.snd (List.getD x0 (Int.toNat x6) ((0 : Int), (0 : Int), []))))) : Int))).bind fun y0 => zf84.l7 n m3 n (x0) (x6) (0) (r62) (y0)) else none) else none) else none) else none) else some (r62)) := by kernel_rfl
theorem zf84.l7_succ (n m3 m7 : Nat) (x0 : List zt19) (x6 x8 : Int) (r62 r63 : List Int) : zf84.l7 n m3 (m7 + 1) x0 x6 x8 r62 r63 = (if x8 < (↑(List.length r63) : Int) then (if 0 ≤ x6 then (if x6 < (↑(List.length x0) : Int) then (if 0 ≤ x8 then (if x8 < (↑(List.length (Prod.snd (Prod.snd (List.getD x0 (Int.toNat x6) ((0 : Int), (0 : Int), []))))) : Int) then (if 0 ≤ x6 then (if x6 < (↑(List.length x0) : Int) then (if 0 ≤ x8 then (if x8 < (↑(List.length (Prod.snd (Prod.snd (List.getD x0 (Int.toNat x6) ((0 : Int), (0 : Int), []))))) : Int) then (if 0 ≤ List.getD (Prod.snd (Prod.snd (List.getD x0 (Int.toNat x6) (0, 0, [])))) (Int.toNat x8) 0 then (if List.getD (Prod.snd (Prod.snd (List.getD x0 (Int.toNat x6) (0, 0, [])))) (Int.toNat x8) 0 < (↑(List.length r62) : Int) then (if 0 ≤ x8 then (if x8 < (↑(List.length r63) : Int) then (if 0 ≤ List.getD (Prod.snd (Prod.snd (List.getD x0 (Int.toNat x6) (0, 0, [])))) (Int.toNat x8) 0 then (if List.getD (Prod.snd (Prod.snd (List.getD x0 (Int.toNat x6) (0, 0, [])))) (Int.toNat x8) 0 < (↑(List.length r62) : Int) then zf84.l7 n m3 m7 (x0) (x6) (Go.RowKit.wrap64 (x8 + 1)) (List.set r62 (Int.toNat (List.getD (Prod.snd (Prod.snd (List.getD x0 (Int.toNat x6) (0, 0, [])))) (Int.toNat x8) 0)) (Go.RowKit.wrap64 (List.getD r62 (Int.toNat (List.getD (Prod.snd (Prod.snd (List.getD x0 (Int.toNat x6) (0, 0, [])))) (Int.toNat x8) 0)) 0 + List.getD r63 (Int.toNat x8) 0))) (r63) else none) else none) else none) else none) else none) else none) else none) else none) else none) else none) else none) else none) else none) else none) else zf84.l3 n m3 (x0) (Go.RowKit.wrap64 (x6 + 1)) (r62)) := by kernel_rfl
noncomputable abbrev zf84.sg (n : Nat) : Sig := ⟨zf84.ps, zf84.res, zf84 n⟩
theorem zf84.call : Callable Tryz.prog 230 := ⟨Tryz.f230, Tryz.func230, by kernel_rfl, by kernel_rfl⟩
theorem zf84.ok (n : Nat) : FC Tryz.prog [] 230 (zf84.sg n) :=
  evalF_ok (C := zf84.C) ⟨tb_ok, fun n _ _ h => tabOk (l := [(190, (zf117.sg n))]) (all_cons ⟨zf117.ok n, zf117.call⟩ (all_nil)) h, mixed, ar_ok, bld_ok, pts_ok⟩ zf84.A Tryz.func230 zf84.ps zf84.res n
abbrev zf88.ps : List Pm := [.arg (.v (.slice (.int .i64))), .arg (.v (.slice zt8))]
abbrev zf88.res : List M := [(.own (.int .i64) 3)]
noncomputable def zf88.C : Cfg := { tb := tb, tab := fun n f => Refl.look [(230, (zf84.sg n))] f, gl := [], ar := ar, bld := bld, pts := pts }
noncomputable def zf88.A : Ann := { joins := [], loops := [(3, { live := [0, 5, 6], base := 30 })], ids := [], pids := [], nroots := 94 }
noncomputable def zf88 (n : Nat) (x : List Int × List zt19) : Option (List Int) := evalF zf88.C zf88.A Tryz.f204 zf88.ps zf88.res n x
noncomputable def zf88.K0 (_ : Nat) : Kont (List Int) := finK zf88.C (Func.results Tryz.f204).toList zf88.ps zf88.res
noncomputable def zf88.K1 (n : Nat) : Kont (List Int) := seqK (fun s' k => joinE zf88.A.joins (codeAt Tryz.f204 [1, 1, 1]) (fun s'' => evalC zf88.C zf88.A n (codeAt Tryz.f204 [1, 1, 1]) s'' k) s') (zf88.K0 n)
noncomputable def zf88.K2 (n : Nat) : Kont (List Int) := blockK 0 (zf88.K1 n)
noncomputable def zf88.l3 (n m3 : Nat) (x0 : List Int) (x6 : Int) (r30 : List Int) : Option (List Int) := loopE (cutAt zf88.A.loops (codeAt Tryz.f204 [1, 1, 0, 1, 0, 0])) (fun s k => evalC zf88.C zf88.A n (codeAt Tryz.f204 [1, 1, 0, 1, 0, 0]) s k) m3 (St.of 30 94 [(0, .val (.slice (.int .i64)) x0), (5, .own 30), (6, .val (.int .i64) x6)] [(30, .row (.int .i64) 3 r30)] []) (zf88.K2 n)
theorem zf88.eq (n : Nat) (x0 : List Int) (x1 : List zt19) : zf88 n (x0, x1) = ((zf84 n (x1, (↑(List.length x0) : Int))).bind fun y0 => zf88.l3 n n (x0) (0) (y0)) := by kernel_rfl
theorem zf88.l3_succ (n m3 : Nat) (x0 : List Int) (x6 : Int) (r30 : List Int) : zf88.l3 n (m3 + 1) x0 x6 r30 = (if x6 < (↑(List.length r30) : Int) then (if 0 ≤ x6 then (if x6 < (↑(List.length x0) : Int) then (if 0 ≤ x6 then (if x6 < (↑(List.length r30) : Int) then (if 0 ≤ x6 then (if x6 < (↑(List.length r30) : Int) then zf88.l3 n m3 (x0) (Go.RowKit.wrap64 (x6 + 1)) (List.set r30 (Int.toNat x6) (Go.RowKit.wrap64 (List.getD x0 (Int.toNat x6) 0 - List.getD r30 (Int.toNat x6) 0))) else none) else none) else none) else none) else none) else none) else some (r30)) := by kernel_rfl
noncomputable abbrev zf88.sg (n : Nat) : Sig := ⟨zf88.ps, zf88.res, zf88 n⟩
theorem zf88.call : Callable Tryz.prog 204 := ⟨Tryz.f204, Tryz.func204, by kernel_rfl, by kernel_rfl⟩
theorem zf88.ok (n : Nat) : FC Tryz.prog [] 204 (zf88.sg n) :=
  evalF_ok (C := zf88.C) ⟨tb_ok, fun n _ _ h => tabOk (l := [(230, (zf84.sg n))]) (all_cons ⟨zf84.ok n, zf84.call⟩ (all_nil)) h, mixed, ar_ok, bld_ok, pts_ok⟩ zf88.A Tryz.func204 zf88.ps zf88.res n
abbrev zf111.ps : List Pm := [.arg (.v (.slice (.int .i64))), .arg (.v (.slice zt8))]
abbrev zf111.res : List M := [.v .bool]
noncomputable def zf111.C : Cfg := { tb := tb, tab := fun n f => Refl.look [(204, (zf88.sg n)), (178, (zf74.sg n))] f, gl := [], ar := ar, bld := bld, pts := pts }
noncomputable def zf111.A : Ann := { joins := [], loops := [], ids := [(1, [(8, [])])], pids := [], nroots := 73 }
noncomputable def zf111 (n : Nat) (x : List Int × List zt19) : Option (Bool) := evalF zf111.C zf111.A Tryz.f163 zf111.ps zf111.res n x
theorem zf111.eq (n : Nat) (x0 : List Int) (x1 : List zt19) : zf111 n (x0, x1) = ((zf88 n (x0, x1)).bind fun y0 => ((zf74 n (y0, 0, 100000)).bind fun y1 => some (y1))) := by kernel_rfl
noncomputable abbrev zf111.sg (n : Nat) : Sig := ⟨zf111.ps, zf111.res, zf111 n⟩
theorem zf111.call : Callable Tryz.prog 163 := ⟨Tryz.f163, Tryz.func163, by kernel_rfl, by kernel_rfl⟩
theorem zf111.ok (n : Nat) : FC Tryz.prog [] 163 (zf111.sg n) :=
  evalF_ok (C := zf111.C) ⟨tb_ok, fun n _ _ h => tabOk (l := [(204, (zf88.sg n)), (178, (zf74.sg n))]) (all_cons ⟨zf88.ok n, zf88.call⟩ (all_cons ⟨zf74.ok n, zf74.call⟩ (all_nil))) h, mixed, ar_ok, bld_ok, pts_ok⟩ zf111.A Tryz.func163 zf111.ps zf111.res n
abbrev zf93.ps : List Pm := [.arg (.pr (.own (.int .i64) 3) (.pr (.own zt8 142) (.v zt13))), .arg (.v zt1)]
abbrev zf93.res : List M := [(.pr (.own (.int .i64) 3) (.pr (.own zt8 142) (.v zt13))), .v .bool]
noncomputable def zf93.C : Cfg := { tb := tb, tab := fun n f => Refl.look [(112, (zf89.sg n)), (126, (zf125.sg n)), (163, (zf111.sg n))] f, gl := [], ar := ar, bld := bld, pts := pts }
noncomputable def zf93.A : Ann := { joins := [], loops := [], ids := [(1, [(13, []), (18, [])]), (8, [(50, []), (59, [])])], pids := [(0, [118, 119])], nroots := 126 }
noncomputable def zf93 (n : Nat) (x : zt10 × Int × Int × Int × Int × List Int × Int × Int) : Option (zt10 × Bool) := evalF zf93.C zf93.A Tryz.f139 zf93.ps zf93.res n x
theorem zf93.eq (n : Nat) (x0 : List Int × List zt19 × Int × Int × Int) (x1 : Int × Int × Int × Int × List Int × Int × Int) : zf93 n (x0, x1) = ((zf89 n (x1.2.1, 0, Go.RowKit.wrap64 ((↑(List.length x0.1) : Int) - 1))).bind fun y0 => (if (!y0) = Bool.true then some (((x0.1, x0.2.1, x0.2.2.1, x0.2.2.2.1, x0.2.2.2.2), Bool.false)) else ((zf89 n (x1.2.2.1, 1, 100000)).bind fun y1 => (if (!y1) = true then some (((x0.1, x0.2.1, x0.2.2.1, x0.2.2.2.1, x0.2.2.2.2), Bool.false)) else (if x1.1 = 2 then (if 0 ≤ x1.2.1 then (if x1.2.1 < (↑(List.length x0.1) : Int) then (if 0 ≤ x1.2.1 then (if x1.2.1 < (↑(List.length x0.1) : Int) then ((zf125 n (List.set x0.1 (Int.toNat x1.2.1) (Go.RowKit.wrap64 (List.getD x0.1 (Int.toNat x1.2.1) 0 + Go.RowKit.wrap64 (0 - x1.2.2.1))))).bind fun y2 => (if y2 = Bool.true then (if Go.RowKit.wrap64 (0 - x1.2.2.1) > 0 then some (((List.set x0.1 (Int.toNat x1.2.1) (Go.RowKit.wrap64 (List.getD x0.1 (Int.toNat x1.2.1) 0 + Go.RowKit.wrap64 (0 - x1.2.2.1))), x0.2.1, Go.RowKit.wrap64 (x0.2.2.1 + Go.RowKit.wrap64 (0 - x1.2.2.1)), x0.2.2.2.1, x0.2.2.2.2), Bool.true)) else ((zf111 n (List.set x0.1 (Int.toNat x1.2.1) (Go.RowKit.wrap64 (List.getD x0.1 (Int.toNat x1.2.1) 0 + Go.RowKit.wrap64 (0 - x1.2.2.1))), x0.2.1)).bind fun y3 => some (((List.set x0.1 (Int.toNat x1.2.1) (Go.RowKit.wrap64 (List.getD x0.1 (Int.toNat x1.2.1) 0 + Go.RowKit.wrap64 (0 - x1.2.2.1))), x0.2.1, Go.RowKit.wrap64 (x0.2.2.1 + Go.RowKit.wrap64 (0 - x1.2.2.1)), x0.2.2.2.1, x0.2.2.2.2), y3)))) else some (((List.set x0.1 (Int.toNat x1.2.1) (Go.RowKit.wrap64 (List.getD x0.1 (Int.toNat x1.2.1) 0 + Go.RowKit.wrap64 (0 - x1.2.2.1))), x0.2.1, Go.RowKit.wrap64 (x0.2.2.1 + Go.RowKit.wrap64 (0 - x1.2.2.1)), x0.2.2.2.1, x0.2.2.2.2), Bool.false)))) else none) else none) else none) else none) else (if 0 ≤ x1.2.1 then (if x1.2.1 < (↑(List.length x0.1) : Int) then (if 0 ≤ x1.2.1 then (if x1.2.1 < (↑(List.length x0.1) : Int) then ((zf125 n (List.set x0.1 (Int.toNat x1.2.1) (Go.RowKit.wrap64 (List.getD x0.1 (Int.toNat x1.2.1) 0 + x1.2.2.1)))).bind fun y4 => (if y4 = Bool.true then (if x1.2.2.1 > 0 then some (((List.set x0.1 (Int.toNat x1.2.1) (Go.RowKit.wrap64 (List.getD x0.1 (Int.toNat x1.2.1) 0 + x1.2.2.1)), x0.2.1, Go.RowKit.wrap64 (x0.2.2.1 + x1.2.2.1), x0.2.2.2.1, x0.2.2.2.2), Bool.true)) else ((zf111 n (List.set x0.1 (Int.toNat x1.2.1) (Go.RowKit.wrap64 (List.getD x0.1 (Int.toNat x1.2.1) 0 + x1.2.2.1)), x0.2.1)).bind fun y5 => some (((List.set x0.1 (Int.toNat x1.2.1) (Go.RowKit.wrap64 (List.getD x0.1 (Int.toNat x1.2.1) 0 + x1.2.2.1)), x0.2.1, Go.RowKit.wrap64 (x0.2.2.1 + x1.2.2.1), x0.2.2.2.1, x0.2.2.2.2), y5)))) else some (((List.set x0.1 (Int.toNat x1.2.1) (Go.RowKit.wrap64 (List.getD x0.1 (Int.toNat x1.2.1) 0 + x1.2.2.1)), x0.2.1, Go.RowKit.wrap64 (x0.2.2.1 + x1.2.2.1), x0.2.2.2.1, x0.2.2.2.2), Bool.false)))) else none) else none) else none) else none)))))) := by kernel_rfl
noncomputable abbrev zf93.sg (n : Nat) : Sig := ⟨zf93.ps, zf93.res, zf93 n⟩
theorem zf93.call : Callable Tryz.prog 139 := ⟨Tryz.f139, Tryz.func139, by kernel_rfl, by kernel_rfl⟩
theorem zf93.ok (n : Nat) : FC Tryz.prog [] 139 (zf93.sg n) :=
  evalF_ok (C := zf93.C) ⟨tb_ok, fun n _ _ h => tabOk (l := [(112, (zf89.sg n)), (126, (zf125.sg n)), (163, (zf111.sg n))]) (all_cons ⟨zf89.ok n, zf89.call⟩ (all_cons ⟨zf125.ok n, zf125.call⟩ (all_cons ⟨zf111.ok n, zf111.call⟩ (all_nil)))) h, mixed, ar_ok, bld_ok, pts_ok⟩ zf93.A Tryz.func139 zf93.ps zf93.res n
abbrev zf100.ps : List Pm := [.arg (.v (.slice (.int .i64))), .arg (.v (.int .i64))]
abbrev zf100.res : List M := [.v (.int .i64)]
noncomputable def zf100.C : Cfg := { tb := tb, tab := fun n f => Refl.look [] f, gl := [], ar := ar, bld := bld, pts := pts }
noncomputable def zf100.A : Ann := { joins := [], loops := [(2, { live := [0, 1, 5], base := 19 })], ids := [], pids := [], nroots := 83 }
noncomputable def zf100 (n : Nat) (x : List Int × Int) : Option (Int) := evalF zf100.C zf100.A Tryz.f180 zf100.ps zf100.res n x
noncomputable def zf100.K0 (_ : Nat) : Kont (Int) := finK zf100.C (Func.results Tryz.f180).toList zf100.ps zf100.res
noncomputable def zf100.K1 (n : Nat) : Kont (Int) := seqK (fun s' k => joinE zf100.A.joins (codeAt Tryz.f180 [1, 1]) (fun s'' => evalC zf100.C zf100.A n (codeAt Tryz.f180 [1, 1]) s'' k) s') (zf100.K0 n)
noncomputable def zf100.K2 (n : Nat) : Kont (Int) := blockK 0 (zf100.K1 n)
noncomputable def zf100.l2 (n m2 : Nat) (x0 : List Int) (x1 x5 : Int) : Option (Int) := loopE (cutAt zf100.A.loops (codeAt Tryz.f180 [1, 0, 1, 0, 0])) (fun s k => evalC zf100.C zf100.A n (codeAt Tryz.f180 [1, 0, 1, 0, 0]) s k) m2 (St.of 19 83 [(0, .val (.slice (.int .i64)) x0), (1, .val (.int .i64) x1), (5, .val (.int .i64) x5)] [] []) (zf100.K2 n)
theorem zf100.eq (n : Nat) (x0 : List Int) (x1 : Int) : zf100 n (x0, x1) = zf100.l2 n n (x0) (x1) (0) := by kernel_rfl
theorem zf100.l2_succ (n m2 : Nat) (x0 : List Int) (x1 x5 : Int) : zf100.l2 n (m2 + 1) x0 x1 x5 = (if x5 < (↑(List.length x0) : Int) then (if 0 ≤ x5 then (if x5 < (↑(List.length x0) : Int) then (if List.getD x0 (Int.toNat x5) 0 = x1 then some (x5) else zf100.l2 n m2 (x0) (x1) (Go.RowKit.wrap64 (x5 + 1))) else none) else none) else some ((-1))) := by kernel_rfl
noncomputable abbrev zf100.sg (n : Nat) : Sig := ⟨zf100.ps, zf100.res, zf100 n⟩
theorem zf100.call : Callable Tryz.prog 180 := ⟨Tryz.f180, Tryz.func180, by kernel_rfl, by kernel_rfl⟩
theorem zf100.ok (n : Nat) : FC Tryz.prog [] 180 (zf100.sg n) :=
  evalF_ok (C := zf100.C) ⟨tb_ok, fun n _ _ h => tabOk (l := []) (all_nil) h, mixed, ar_ok, bld_ok, pts_ok⟩ zf100.A Tryz.func180 zf100.ps zf100.res n
abbrev zf123.ps : List Pm := [.arg (.v (.slice (.int .i64))), .arg (.v (.int .i64))]
abbrev zf123.res : List M := [.v .bool]
noncomputable def zf123.C : Cfg := { tb := tb, tab := fun n f => Refl.look [(112, (zf89.sg n)), (180, (zf100.sg n))] f, gl := [], ar := ar, bld := bld, pts := pts }
noncomputable def zf123.A : Ann := { joins := [], loops := [(2, { live := [0, 1, 5], base := 31 })], ids := [(4, [(18, []), (28, [])])], pids := [], nroots := 95 }
noncomputable def zf123 (n : Nat) (x : List Int × Int) : Option (Bool) := evalF zf123.C zf123.A Tryz.f179 zf123.ps zf123.res n x
noncomputable def zf123.K0 (_ : Nat) : Kont (Bool) := finK zf123.C (Func.results Tryz.f179).toList zf123.ps zf123.res
noncomputable def zf123.K1 (n : Nat) : Kont (Bool) := seqK (fun s' k => joinE zf123.A.joins (codeAt Tryz.f179 [1, 1]) (fun s'' => evalC zf123.C zf123.A n (codeAt Tryz.f179 [1, 1]) s'' k) s') (zf123.K0 n)
noncomputable def zf123.K2 (n : Nat) : Kont (Bool) := blockK 0 (zf123.K1 n)
noncomputable def zf123.l2 (n m2 : Nat) (x0 : List Int) (x1 x5 : Int) : Option (Bool) := loopE (cutAt zf123.A.loops (codeAt Tryz.f179 [1, 0, 1, 0, 0])) (fun s k => evalC zf123.C zf123.A n (codeAt Tryz.f179 [1, 0, 1, 0, 0]) s k) m2 (St.of 31 95 [(0, .val (.slice (.int .i64)) x0), (1, .val (.int .i64) x1), (5, .val (.int .i64) x5)] [] []) (zf123.K2 n)
theorem zf123.eq (n : Nat) (x0 : List Int) (x1 : Int) : zf123 n (x0, x1) = zf123.l2 n n (x0) (x1) (0) := by kernel_rfl
theorem zf123.l2_succ (n m2 : Nat) (x0 : List Int) (x1 x5 : Int) : zf123.l2 n (m2 + 1) x0 x1 x5 = (if x5 < (↑(List.length x0) : Int) then (if 0 ≤ x5 then (if x5 < (↑(List.length x0) : Int) then ((zf89 n (List.getD x0 (Int.toNat x5) 0, 0, Go.RowKit.wrap64 (x1 - 1))).bind fun y0 => (if (!y0) = Bool.true then some (Bool.false) else (if 0 ≤ x5 then (if x5 ≤ (↑(List.length x0) : Int) then (if 0 ≤ x5 then (if x5 < (↑(List.length x0) : Int) then ((zf100 n (List.take (Int.toNat x5) x0, List.getD x0 (Int.toNat x5) 0)).bind fun y1 => (if y1 ≥ 0 then some (Bool.false) else zf123.l2 n m2 (x0) (x1) (Go.RowKit.wrap64 (x5 + 1)))) else none) else none) else none) else none))) else none) else none) else some (Bool.true)) := by kernel_rfl
noncomputable abbrev zf123.sg (n : Nat) : Sig := ⟨zf123.ps, zf123.res, zf123 n⟩
theorem zf123.call : Callable Tryz.prog 179 := ⟨Tryz.f179, Tryz.func179, by kernel_rfl, by kernel_rfl⟩
theorem zf123.ok (n : Nat) : FC Tryz.prog [] 179 (zf123.sg n) :=
  evalF_ok (C := zf123.C) ⟨tb_ok, fun n _ _ h => tabOk (l := [(112, (zf89.sg n)), (180, (zf100.sg n))]) (all_cons ⟨zf89.ok n, zf89.call⟩ (all_cons ⟨zf100.ok n, zf100.call⟩ (all_nil))) h, mixed, ar_ok, bld_ok, pts_ok⟩ zf123.A Tryz.func179 zf123.ps zf123.res n
abbrev zf122.ps : List Pm := [.arg (.v (.slice zt8)), .arg (.v (.int .i64))]
abbrev zf122.res : List M := [.v .bool]
noncomputable def zf122.C : Cfg := { tb := tb, tab := fun n f => Refl.look [(112, (zf89.sg n)), (179, (zf123.sg n)), (180, (zf100.sg n))] f, gl := [], ar := ar, bld := bld, pts := pts }
noncomputable def zf122.A : Ann := { joins := [], loops := [(2, { live := [0, 1, 5], base := 57 })], ids := [(5, [(21, []), (26, []), (39, []), (47, [])]), (7, [(55, [])])], pids := [], nroots := 121 }
noncomputable def zf122 (n : Nat) (x : List zt19 × Int) : Option (Bool) := evalF zf122.C zf122.A Tryz.f127 zf122.ps zf122.res n x
noncomputable def zf122.K0 (_ : Nat) : Kont (Bool) := finK zf122.C (Func.results Tryz.f127).toList zf122.ps zf122.res
noncomputable def zf122.K1 (n : Nat) : Kont (Bool) := seqK (fun s' k => joinE zf122.A.joins (codeAt Tryz.f127 [1, 1]) (fun s'' => evalC zf122.C zf122.A n (codeAt Tryz.f127 [1, 1]) s'' k) s') (zf122.K0 n)
noncomputable def zf122.K2 (n : Nat) : Kont (Bool) := blockK 0 (zf122.K1 n)
noncomputable def zf122.l2 (n m2 : Nat) (x0 : List zt19) (x1 x5 : Int) : Option (Bool) := loopE (cutAt zf122.A.loops (codeAt Tryz.f127 [1, 0, 1, 0, 0])) (fun s k => evalC zf122.C zf122.A n (codeAt Tryz.f127 [1, 0, 1, 0, 0]) s k) m2 (St.of 57 121 [(0, .val (.slice zt8) x0), (1, .val (.int .i64) x1), (5, .val (.int .i64) x5)] [] []) (zf122.K2 n)
theorem zf122.eq (n : Nat) (x0 : List zt19) (x1 : Int) : zf122 n (x0, x1) = zf122.l2 n n (x0) (x1) (0) := by kernel_rfl
theorem zf122.l2_succ (n m2 : Nat) (x0 : List zt19) (x1 x5 : Int) : zf122.l2 n (m2 + 1) x0 x1 x5 = (if x5 < (↑(List.length x0) : Int) then (if 0 ≤ x5 then (if x5 < (↑(List.length x0) : Int) then ((zf89 n (Prod.fst (List.getD x0 (Int.toNat x5) (0, 0, [])), 0, Go.RowKit.wrap64 (x1 - 1))).bind fun y0 => (if (!y0) = Bool.true then some (Bool.false) else ((zf89 n (Prod.fst (Prod.snd (List.getD x0 (Int.toNat x5) (0, 0, []))), 1, 100000)).bind fun y1 => (if (!y1) = Bool.true then some (Bool.false) else (if (↑(List.length (Prod.snd (Prod.snd (List.getD x0 (Int.toNat x5) ((0 : Int), (0 : Int), []))))) : Int) = 0 then some (Bool.false) else ((zf123 n (Prod.snd (Prod.snd (List.getD x0 (Int.toNat x5) (0, 0, []))), x1)).bind fun y2 => (if (!y2) = Bool.true then some (Bool.false) else ((zf100 n (Prod.snd (Prod.snd (List.getD x0 (Int.toNat x5) (0, 0, []))), Prod.fst (List.getD x0 (Int.toNat x5) (0, 0, [])))).bind fun y3 => (if y3 ≥ 0 then some (Bool.false) else zf122.l2 n m2 (x0) (x1) (Go.RowKit.wrap64 (x5 + 1))))))))))) else none) else none) else (if (↑(List.length x0) : Int) ≤ 16 then ((zf89 n (x1, 1, 12)).bind fun y4 => some (y4)) else some (Bool.false))) := by kernel_rfl
noncomputable abbrev zf122.sg (n : Nat) : Sig := ⟨zf122.ps, zf122.res, zf122 n⟩
theorem zf122.call : Callable Tryz.prog 127 := ⟨Tryz.f127, Tryz.func127, by kernel_rfl, by kernel_rfl⟩
theorem zf122.ok (n : Nat) : FC Tryz.prog [] 127 (zf122.sg n) :=
  evalF_ok (C := zf122.C) ⟨tb_ok, fun n _ _ h => tabOk (l := [(112, (zf89.sg n)), (179, (zf123.sg n)), (180, (zf100.sg n))]) (all_cons ⟨zf89.ok n, zf89.call⟩ (all_cons ⟨zf123.ok n, zf123.call⟩ (all_cons ⟨zf100.ok n, zf100.call⟩ (all_nil)))) h, mixed, ar_ok, bld_ok, pts_ok⟩ zf122.A Tryz.func127 zf122.ps zf122.res n
abbrev zf90.ps : List Pm := [.arg (.pr (.own (.int .i64) 3) (.pr (.own zt8 142) (.v zt13))), .arg (.v zt8)]
abbrev zf90.res : List M := [(.pr (.own (.int .i64) 3) (.pr (.own zt8 142) (.v zt13))), .v .bool]
noncomputable def zf90.C : Cfg := { tb := tb, tab := fun n f => Refl.look [(127, (zf122.sg n)), (163, (zf111.sg n))] f, gl := [], ar := ar, bld := bld, pts := pts }
noncomputable def zf90.A : Ann := { joins := [], loops := [], ids := [(1, [(9, [])]), (2, [(17, []), (24, [])])], pids := [(0, [91, 92])], nroots := 99 }
noncomputable def zf90 (n : Nat) (x : zt10 × Int × Int × List Int) : Option (zt10 × Bool) := evalF zf90.C zf90.A Tryz.f140 zf90.ps zf90.res n x
theorem zf90.eq (n : Nat) (x0 : List Int × List zt19 × Int × Int × Int) (x1 : Int × Int × List Int) : zf90 n (x0, x1) = (if List.length x0.2.1 + List.length (List.set (List.replicate (1 : Nat) ((0 : Int), (0 : Int), [])) (0 : Nat) (x1.1, x1.2.1, x1.2.2)) ≤ Go.Refl.maxN then ((zf122 n (x0.2.1 ++ List.set (List.replicate 1 (0, 0, [])) 0 (x1.1, x1.2.1, x1.2.2), (↑(List.length x0.1) : Int))).bind fun y0 => (if (!y0) = Bool.true then some (((x0.1, x0.2.1 ++ List.set (List.replicate 1 (0, 0, [])) 0 (x1.1, x1.2.1, x1.2.2), x0.2.2.1, x0.2.2.2.1, x0.2.2.2.2), Bool.false)) else ((zf111 n (x0.1, x0.2.1 ++ List.set (List.replicate 1 (0, 0, [])) 0 (x1.1, x1.2.1, x1.2.2))).bind fun y1 => (if (!y1) = true then some (((x0.1, x0.2.1 ++ List.set (List.replicate 1 (0, 0, [])) 0 (x1.1, x1.2.1, x1.2.2), x0.2.2.1, x0.2.2.2.1, x0.2.2.2.2), Bool.false)) else some (((x0.1, x0.2.1 ++ List.set (List.replicate 1 (0, 0, [])) 0 (x1.1, x1.2.1, x1.2.2), Go.RowKit.wrap64 (x0.2.2.1 - x1.2.1), x0.2.2.2.1, x0.2.2.2.2), Bool.true)))))) else none) := by kernel_rfl
noncomputable abbrev zf90.sg (n : Nat) : Sig := ⟨zf90.ps, zf90.res, zf90 n⟩
theorem zf90.call : Callable Tryz.prog 140 := ⟨Tryz.f140, Tryz.func140, by kernel_rfl, by kernel_rfl⟩
theorem zf90.ok (n : Nat) : FC Tryz.prog [] 140 (zf90.sg n) :=
  evalF_ok (C := zf90.C) ⟨tb_ok, fun n _ _ h => tabOk (l := [(127, (zf122.sg n)), (163, (zf111.sg n))]) (all_cons ⟨zf122.ok n, zf122.call⟩ (all_cons ⟨zf111.ok n, zf111.call⟩ (all_nil))) h, mixed, ar_ok, bld_ok, pts_ok⟩ zf90.A Tryz.func140 zf90.ps zf90.res n
abbrev zf109.ps : List Pm := [.arg (.pr (.own (.int .i64) 3) (.pr (.own zt8 142) (.v zt13))), .arg (.v zt1)]
abbrev zf109.res : List M := [(.pr (.own (.int .i64) 3) (.pr (.own zt8 142) (.v zt13))), .v .bool]
noncomputable def zf109.C : Cfg := { tb := tb, tab := fun n f => Refl.look [(112, (zf89.sg n))] f, gl := [], ar := ar, bld := bld, pts := pts }
noncomputable def zf109.A : Ann := { joins := [], loops := [], ids := [(1, [(12, []), (24, []), (30, [])])], pids := [(0, [143, 144])], nroots := 151 }
noncomputable def zf109 (n : Nat) (x : zt10 × Int × Int × Int × Int × List Int × Int × Int) : Option (zt10 × Bool) := evalF zf109.C zf109.A Tryz.f142 zf109.ps zf109.res n x
theorem zf109.eq (n : Nat) (x0 : List Int × List zt19 × Int × Int × Int) (x1 : Int × Int × Int × Int × List Int × Int × Int) : zf109 n (x0, x1) = ((zf89 n (x1.2.1, 0, Go.RowKit.wrap64 ((↑(List.length x0.2.1) : Int) - 1))).bind fun y0 => (if (!y0) = Bool.true then some (((x0.1, x0.2.1, x0.2.2.1, x0.2.2.2.1, x0.2.2.2.2), Bool.false)) else (if 0 ≤ x1.2.1 then (if x1.2.1 < (↑(List.length x0.2.1) : Int) then ((zf89 n (x1.2.2.1, 1, Prod.fst (Prod.snd (List.getD x0.2.1 (Int.toNat x1.2.1) (0, 0, []))))).bind fun y1 => (if (!y1) = Bool.true then some (((x0.1, x0.2.1, x0.2.2.1, x0.2.2.2.1, x0.2.2.2.2), Bool.false)) else ((zf89 n (x1.2.2.2.1, 0, 100000)).bind fun y2 => (if (!y2) = true then some (((x0.1, x0.2.1, x0.2.2.1, x0.2.2.2.1, x0.2.2.2.2), Bool.false)) else (if 0 ≤ x1.2.1 then (if x1.2.1 < (↑(List.length x0.2.1) : Int) then (if 0 ≤ x1.2.1 then (if x1.2.1 < (↑(List.length x0.2.1) : Int) then (if 0 ≤ x1.2.1 then (if x1.2.1 < (↑(List.length (List.set x0.2.1 (Int.toNat x1.2.1) (Prod.fst (List.getD x0.2.1 (Int.toNat x1.2.1) ((0 : Int), (0 : Int), [])), Go.RowKit.wrap64 (Prod.fst (Prod.snd (List.getD x0.2.1 (Int.toNat x1.2.1) ((0 : Int), (0 : Int), []))) - x1.2.2.1), Prod.snd (Prod.snd (List.getD x0.2.1 (Int.toNat x1.2.1) ((0 : Int), (0 : Int), [])))))) : Int) then (if Prod.fst (Prod.snd (List.getD (List.set x0.2.1 (Int.toNat x1.2.1) (Prod.fst (List.getD x0.2.1 (Int.toNat x1.2.1) (0, 0, [])), Go.RowKit.wrap64 (Prod.fst (Prod.snd (List.getD x0.2.1 (Int.toNat x1.2.1) (0, 0, []))) - x1.2.2.1), Prod.snd (Prod.snd (List.getD x0.2.1 (Int.toNat x1.2.1) (0, 0, []))))) (Int.toNat x1.2.1) (0, 0, []))) = 0 then (if 0 ≤ x1.2.1 then (if x1.2.1 ≤ (↑(List.length (List.set x0.2.1 (Int.toNat x1.2.1) (Prod.fst (List.getD x0.2.1 (Int.toNat x1.2.1) ((0 : Int), (0 : Int), [])), Go.RowKit.wrap64 (Prod.fst (Prod.snd (List.getD x0.2.1 (Int.toNat x1.2.1) ((0 : Int), (0 : Int), []))) - x1.2.2.1), Prod.snd (Prod.snd (List.getD x0.2.1 (Int.toNat x1.2.1) ((0 : Int), (0 : Int), [])))))) : Int) then (if 0 ≤ Go.RowKit.wrap64 (x1.2.1 + 1) then (if Go.RowKit.wrap64 (x1.2.1 + 1) ≤ (↑(List.length (List.set x0.2.1 (Int.toNat x1.2.1) (Prod.fst (List.getD x0.2.1 (Int.toNat x1.2.1) ((0 : Int), (0 : Int), [])), Go.RowKit.wrap64 (Prod.fst (Prod.snd (List.getD x0.2.1 (Int.toNat x1.2.1) ((0 : Int), (0 : Int), []))) - x1.2.2.1), Prod.snd (Prod.snd (List.getD x0.2.1 (Int.toNat x1.2.1) ((0 : Int), (0 : Int), [])))))) : Int) then (if Int.toNat x1.2.1 - 0 + List.length (List.take (List.length (List.set x0.2.1 (Int.toNat x1.2.1) (Prod.fst (List.getD x0.2.1 (Int.toNat x1.2.1) ((0 : Int), (0 : Int), [])), Go.RowKit.wrap64 (Prod.fst (Prod.snd (List.getD x0.2.1 (Int.toNat x1.2.1) ((0 : Int), (0 : Int), []))) - x1.2.2.1), Prod.snd (Prod.snd (List.getD x0.2.1 (Int.toNat x1.2.1) ((0 : Int), (0 : Int), []))))) - Int.toNat (Go.RowKit.wrap64 (x1.2.1 + (1 : Int)))) (List.drop (Int.toNat (Go.RowKit.wrap64 (x1.2.1 + (1 : Int)))) (List.set x0.2.1 (Int.toNat x1.2.1) (Prod.fst (List.getD x0.2.1 (Int.toNat x1.2.1) ((0 : Int), (0 : Int), [])), Go.RowKit.wrap64 (Prod.fst (Prod.snd (List.getD x0.2.1 (Int.toNat x1.2.1) ((0 : Int), (0 : Int), []))) - x1.2.2.1), Prod.snd (Prod.snd (List.getD x0.2.1 (Int.toNat x1.2.1) ((0 : Int), (0 : Int), []))))))) ≤ Go.Refl.maxN then some (((x0.1, List.take (Int.toNat x1.2.1 - 0) (List.set x0.2.1 (Int.toNat x1.2.1) (Prod.fst (List.getD x0.2.1 (Int.toNat x1.2.1) (0, 0, [])), Go.RowKit.wrap64 (Prod.fst (Prod.snd (List.getD x0.2.1 (Int.toNat x1.2.1) (0, 0, []))) - x1.2.2.1), Prod.snd (Prod.snd (List.getD x0.2.1 (Int.toNat x1.2.1) (0, 0, []))))) ++ List.take (List.length (List.set x0.2.1 (Int.toNat x1.2.1) (Prod.fst (List.getD x0.2.1 (Int.toNat x1.2.1) ((0 : Int), (0 : Int), [])), Go.RowKit.wrap64 (Prod.fst (Prod.snd (List.getD x0.2.1 (Int.toNat x1.2.1) ((0 : Int), (0 : Int), []))) - x1.2.2.1), Prod.snd (Prod.snd (List.getD x0.2.1 (Int.toNat x1.2.1) ((0 : Int), (0 : Int), []))))) - Int.toNat (Go.RowKit.wrap64 (x1.2.1 + 1))) (List.drop (Int.toNat (Go.RowKit.wrap64 (x1.2.1 + 1))) (List.set x0.2.1 (Int.toNat x1.2.1) (Prod.fst (List.getD x0.2.1 (Int.toNat x1.2.1) (0, 0, [])), Go.RowKit.wrap64 (Prod.fst (Prod.snd (List.getD x0.2.1 (Int.toNat x1.2.1) (0, 0, []))) - x1.2.2.1), Prod.snd (Prod.snd (List.getD x0.2.1 (Int.toNat x1.2.1) (0, 0, [])))))), Go.RowKit.wrap64 (Go.RowKit.wrap64 (x0.2.2.1 + x1.2.2.1) + x1.2.2.2.1), Go.RowKit.wrap64 (x0.2.2.2.1 + x1.2.2.2.1), x0.2.2.2.2), Bool.true)) else none) else none) else none) else none) else none) else some (((x0.1, List.set x0.2.1 (Int.toNat x1.2.1) (Prod.fst (List.getD x0.2.1 (Int.toNat x1.2.1) (0, 0, [])), Go.RowKit.wrap64 (Prod.fst (Prod.snd (List.getD x0.2.1 (Int.toNat x1.2.1) (0, 0, []))) - x1.2.2.1), Prod.snd (Prod.snd (List.getD x0.2.1 (Int.toNat x1.2.1) (0, 0, [])))), Go.RowKit.wrap64 (Go.RowKit.wrap64 (x0.2.2.1 + x1.2.2.1) + x1.2.2.2.1), Go.RowKit.wrap64 (x0.2.2.2.1 + x1.2.2.2.1), x0.2.2.2.2), Bool.true))) else none) else none) else none) else none) else none) else none))))) else none) else none))) := by kernel_rfl
noncomputable abbrev zf109.sg (n : Nat) : Sig := ⟨zf109.ps, zf109.res, zf109 n⟩
theorem zf109.call : Callable Tryz.prog 142 := ⟨Tryz.f142, Tryz.func142, by kernel_rfl, by kernel_rfl⟩
theorem zf109.ok (n : Nat) : FC Tryz.prog [] 142 (zf109.sg n) :=
  evalF_ok (C := zf109.C) ⟨tb_ok, fun n _ _ h => tabOk (l := [(112, (zf89.sg n))]) (all_cons ⟨zf89.ok n, zf89.call⟩ (all_nil)) h, mixed, ar_ok, bld_ok, pts_ok⟩ zf109.A Tryz.func142 zf109.ps zf109.res n
abbrev zf85.ps : List Pm := [.arg (.v (.slice (.int .i64))), .arg (.v zt8)]
abbrev zf85.res : List M := [(.own (.int .i64) 3), .v (.int .i64), (.own (.int .i64) 3)]
noncomputable def zf85.C : Cfg := { tb := tb, tab := fun n f => Refl.look [(141, (zf81.sg n)), (190, (zf117.sg n))] f, gl := [], ar := ar, bld := bld, pts := pts }
noncomputable def zf85.A : Ann := { joins := [], loops := [(8, { live := [3, 7, 8, 10, 11, 12], base := 95 })], ids := [(15, [(90, [])])], pids := [], nroots := 159 }
noncomputable def zf85 (n : Nat) (x : List Int × Int × Int × List Int) : Option zt18 := evalF zf85.C zf85.A Tryz.f215 zf85.ps zf85.res n x
noncomputable def zf85.K0 (_ : Nat) : Kont zt18 := finK zf85.C (Func.results Tryz.f215).toList zf85.ps zf85.res
noncomputable def zf85.K1 (n : Nat) : Kont zt18 := seqK (fun s' k => joinE zf85.A.joins (codeAt Tryz.f215 [1, 1, 1, 1, 1, 1, 1, 1]) (fun s'' => evalC zf85.C zf85.A n (codeAt Tryz.f215 [1, 1, 1, 1, 1, 1, 1, 1]) s'' k) s') (zf85.K0 n)
noncomputable def zf85.K2 (n : Nat) : Kont zt18 := blockK 0 (zf85.K1 n)
noncomputable def zf85.l8 (n m8 : Nat) (x11 x12 : Int) (r95_0 r95_1 : Int) (r95_2 r96 : List Int) (r97 r98 : List Int) : Option zt18 := loopE (cutAt zf85.A.loops (codeAt Tryz.f215 [1, 1, 1, 1, 1, 1, 1, 0, 1, 0, 0])) (fun s k => evalC zf85.C zf85.A n (codeAt Tryz.f215 [1, 1, 1, 1, 1, 1, 1, 0, 1, 0, 0]) s k) m8 (St.of 95 159 [(3, .ptr 95 0 0), (7, .own 96), (8, .own 97), (10, .own 98), (11, .val (.int .i64) x11), (12, .val (.int .i64) x12)] [(95, .box 142 [.val (.int .i64) r95_0, .val (.int .i64) r95_1, .val (.slice (.int .i64)) r95_2]), (96, .row (.int .i64) 3 r96), (97, .row (.int .i64) 3 r97), (98, .row (.int .i64) 3 r98)] []) (zf85.K2 n)
theorem zf85.eq (n : Nat) (x0 : List Int) (x1 : Int × Int × List Int) : zf85 n (x0, x1) = ((zf81 n x0).bind fun y0 => (if 0 ≤ x1.1 then (if x1.1 < (↑(List.length y0) : Int) then (if 0 ≤ x1.1 then (if x1.1 < (↑(List.length y0) : Int) then (if 0 ≤ x1.1 then (if x1.1 < (↑(List.length y0) : Int) then ((zf117 n (Go.RowKit.wrap64 (x1.2.1 - Go.Refl.mn (List.getD y0 (Int.toNat x1.1) 0) x1.2.1), (↑(List.length x1.2.2) : Int))).bind fun y1 => zf85.l8 n n (0) (0) x1.1 x1.2.1 x1.2.2 (List.set y0 (Int.toNat x1.1) (Go.RowKit.wrap64 (List.getD y0 (Int.toNat x1.1) 0 - Go.Refl.mn (List.getD y0 (Int.toNat x1.1) 0) x1.2.1))) (List.replicate 0 0) (y1)) else none) else none) else none) else none) else none) else none)) := by kernel_rfl
theorem zf85.l8_succ (n m8 : Nat) (x11 x12 : Int) (r95_0 r95_1 : Int) (r95_2 r96 : List Int) (r97 r98 : List Int) : zf85.l8 n (m8 + 1) x11 x12 r95_0 r95_1 r95_2 r96 r97 r98 = (if x12 < (↑(List.length r98) : Int) then (if 0 ≤ x12 then (if x12 < (↑(List.length r95_2) : Int) then (if 0 ≤ List.getD r95_2 (Int.toNat x12) 0 then (if List.getD r95_2 (Int.toNat x12) 0 < (↑(List.length r96) : Int) then (if 0 ≤ x12 then (if x12 < (↑(List.length r98) : Int) then (if 0 ≤ List.getD r95_2 (Int.toNat x12) 0 then (if List.getD r95_2 (Int.toNat x12) 0 < (↑(List.length r96) : Int) then (if 0 ≤ List.getD r95_2 (Int.toNat x12) 0 then (if List.getD r95_2 (Int.toNat x12) 0 < (↑(List.length r96) : Int) then (if 0 ≤ x12 then (if x12 < (↑(List.length r98) : Int) then (if 0 ≤ x12 then (if x12 < (↑(List.length r98) : Int) then (if Go.Refl.mn (List.getD r96 (Int.toNat (List.getD r95_2 (Int.toNat x12) 0)) 0) (List.getD r98 (Int.toNat x12) 0) < List.getD r98 (Int.toNat x12) 0 then (if List.length r97 + List.length (List.set (List.replicate (1 : Nat) (0 : Int)) (0 : Nat) (List.getD r95_2 (Int.toNat x12) (0 : Int))) ≤ Go.Refl.maxN then zf85.l8 n m8 (Go.RowKit.wrap64 (Go.RowKit.wrap64 (x11 + List.getD r98 (Int.toNat x12) 0) - Go.Refl.mn (List.getD r96 (Int.toNat (List.getD r95_2 (Int.toNat x12) 0)) 0) (List.getD r98 (Int.toNat x12) 0))) (Go.RowKit.wrap64 (x12 + 1)) (r95_0) (r95_1) (r95_2) (List.set r96 (Int.toNat (List.getD r95_2 (Int.toNat x12) 0)) (Go.RowKit.wrap64 (List.getD r96 (Int.toNat (List.getD r95_2 (Int.toNat x12) 0)) 0 - Go.Refl.mn (List.getD r96 (Int.toNat (List.getD r95_2 (Int.toNat x12) 0)) 0) (List.getD r98 (Int.toNat x12) 0)))) (r97 ++ List.set (List.replicate 1 0) 0 (List.getD r95_2 (Int.toNat x12) 0)) (r98) else none) else zf85.l8 n m8 (Go.RowKit.wrap64 (Go.RowKit.wrap64 (x11 + List.getD r98 (Int.toNat x12) 0) - Go.Refl.mn (List.getD r96 (Int.toNat (List.getD r95_2 (Int.toNat x12) 0)) 0) (List.getD r98 (Int.toNat x12) 0))) (Go.RowKit.wrap64 (x12 + 1)) (r95_0) (r95_1) (r95_2) (List.set r96 (Int.toNat (List.getD r95_2 (Int.toNat x12) 0)) (Go.RowKit.wrap64 (List.getD r96 (Int.toNat (List.getD r95_2 (Int.toNat x12) 0)) 0 - Go.Refl.mn (List.getD r96 (Int.toNat (List.getD r95_2 (Int.toNat x12) 0)) 0) (List.getD r98 (Int.toNat x12) 0)))) (r97) (r98)) else none) else none) else none) else none) else none) else none) else none) else none) else none) else none) else none) else none) else none) else none) else some ((r96, x11, r97))) := by kernel_rfl
noncomputable abbrev zf85.sg (n : Nat) : Sig := ⟨zf85.ps, zf85.res, zf85 n⟩
theorem zf85.call : Callable Tryz.prog 215 := ⟨Tryz.f215, Tryz.func215, by kernel_rfl, by kernel_rfl⟩
theorem zf85.ok (n : Nat) : FC Tryz.prog [] 215 (zf85.sg n) :=
  evalF_ok (C := zf85.C) ⟨tb_ok, fun n _ _ h => tabOk (l := [(141, (zf81.sg n)), (190, (zf117.sg n))]) (all_cons ⟨zf81.ok n, zf81.call⟩ (all_cons ⟨zf117.ok n, zf117.call⟩ (all_nil))) h, mixed, ar_ok, bld_ok, pts_ok⟩ zf85.A Tryz.func215 zf85.ps zf85.res n
abbrev zf79.ps : List Pm := [.arg (.own (.int .i64) 3), .arg (.v (.slice zt8)), .arg (.v (.int .i64))]
abbrev zf79.res : List M := [(.own (.int .i64) 3), .v (.int .i64), (.own (.int .i64) 3)]
noncomputable def zf79.C : Cfg := { tb := tb, tab := fun n f => Refl.look [(215, (zf85.sg n)), (180, (zf100.sg n))] f, gl := [], ar := ar, bld := bld, pts := pts }
noncomputable def zf79.A : Ann := { joins := [], loops := [(5, { live := [0, 1, 9, 10, 11, 12], base := 91 }), (8, { live := [0, 1, 9, 10, 11, 12, 13], base := 91 }), (16, { live := [0, 1, 9, 10, 11, 12, 13, 16, 17], base := 91 })], ids := [(1, [(19, [19])]), (12, [(60, [123, 124])]), (18, [(79, [])]), (19, [(86, [])])], pids := [], nroots := 155 }
noncomputable def zf79 (n : Nat) (x : List Int × List zt19 × Int) : Option zt18 := evalF zf79.C zf79.A Tryz.f188 zf79.ps zf79.res n x
noncomputable def zf79.K0 (_ : Nat) : Kont zt18 := finK zf79.C (Func.results Tryz.f188).toList zf79.ps zf79.res
noncomputable def zf79.K1 (n : Nat) : Kont zt18 := seqK (fun s' k => joinE zf79.A.joins (codeAt Tryz.f188 [1, 1, 1, 1, 1]) (fun s'' => evalC zf79.C zf79.A n (codeAt Tryz.f188 [1, 1, 1, 1, 1]) s'' k) s') (zf79.K0 n)
noncomputable def zf79.K2 (n : Nat) : Kont zt18 := blockK 0 (zf79.K1 n)
noncomputable def zf79.K3 (n m5 : Nat) : Kont zt18 := loopK (cutAt zf79.A.loops (codeAt Tryz.f188 [1, 1, 1, 1, 0, 1, 0, 0])) (fun s k => evalC zf79.C zf79.A n (codeAt Tryz.f188 [1, 1, 1, 1, 0, 1, 0, 0]) s k) m5 (zf79.K2 n)
noncomputable def zf79.K4 (n m5 : Nat) : Kont zt18 := seqK (fun s' k => joinE zf79.A.joins (codeAt Tryz.f188 [1, 1, 1, 1, 0, 1, 0, 0, 1, 1]) (fun s'' => evalC zf79.C zf79.A n (codeAt Tryz.f188 [1, 1, 1, 1, 0, 1, 0, 0, 1, 1]) s'' k) s') (zf79.K3 n m5)
noncomputable def zf79.K5 (n m5 : Nat) : Kont zt18 := blockK 1 (zf79.K4 n m5)
noncomputable def zf79.K6 (n m5 : Nat) : Kont zt18 := blockK 2 (zf79.K5 n m5)
noncomputable def zf79.K7 (n m5 m8 : Nat) : Kont zt18 := loopK (cutAt zf79.A.loops (codeAt Tryz.f188 [1, 1, 1, 1, 0, 1, 0, 0, 1, 0, 0, 1, 0, 0])) (fun s k => evalC zf79.C zf79.A n (codeAt Tryz.f188 [1, 1, 1, 1, 0, 1, 0, 0, 1, 0, 0, 1, 0, 0]) s k) m8 (zf79.K6 n m5)
noncomputable def zf79.K8 (n m5 m8 : Nat) : Kont zt18 := seqK (fun s' k => joinE zf79.A.joins (codeAt Tryz.f188 [1, 1, 1, 1, 0, 1, 0, 0, 1, 0, 0, 1, 0, 0, 1, 1]) (fun s'' => evalC zf79.C zf79.A n (codeAt Tryz.f188 [1, 1, 1, 1, 0, 1, 0, 0, 1, 0, 0, 1, 0, 0, 1, 1]) s'' k) s') (zf79.K7 n m5 m8)
noncomputable def zf79.K9 (n m5 m8 : Nat) : Kont zt18 := blockK 3 (zf79.K8 n m5 m8)
noncomputable def zf79.K10 (n m5 m8 : Nat) : Kont zt18 := blockK 4 (zf79.K9 n m5 m8)
noncomputable def zf79.l5 (n m5 : Nat) (x1 : List zt19) (x10 x12 : Int) (r91 r92 : List Int) (r93 : List Bool) : Option zt18 := loopE (cutAt zf79.A.loops (codeAt Tryz.f188 [1, 1, 1, 1, 0, 1, 0, 0])) (fun s k => evalC zf79.C zf79.A n (codeAt Tryz.f188 [1, 1, 1, 1, 0, 1, 0, 0]) s k) m5 (St.of 91 155 [(0, .own 91), (1, .val (.slice zt8) x1), (9, .own 92), (10, .val (.int .i64) x10), (11, .own 93), (12, .val (.int .i64) x12)] [(91, .row (.int .i64) 3 r91), (92, .row (.int .i64) 3 r92), (93, .row .bool 4 r93)] []) (zf79.K2 n)
noncomputable def zf79.l8 (n m5 m8 : Nat) (x1 : List zt19) (x10 x12 x13 : Int) (r91 r92 : List Int) (r93 : List Bool) : Option zt18 := loopE (cutAt zf79.A.loops (codeAt Tryz.f188 [1, 1, 1, 1, 0, 1, 0, 0, 1, 0, 0, 1, 0, 0])) (fun s k => evalC zf79.C zf79.A n (codeAt Tryz.f188 [1, 1, 1, 1, 0, 1, 0, 0, 1, 0, 0, 1, 0, 0]) s k) m8 (St.of 91 155 [(0, .own 91), (1, .val (.slice zt8) x1), (9, .own 92), (10, .val (.int .i64) x10), (11, .own 93), (12, .val (.int .i64) x12), (13, .val (.int .i64) x13)] [(91, .row (.int .i64) 3 r91), (92, .row (.int .i64) 3 r92), (93, .row .bool 4 r93)] []) (zf79.K6 n m5)
noncomputable def zf79.l16 (n m5 m8 m16 : Nat) (x1 : List zt19) (x10 x12 : Int) (x13 x17 : Int) (r91 r92 : List Int) (r93 : List Bool) (r94 : List Int) : Option zt18 := loopE (cutAt zf79.A.loops (codeAt Tryz.f188 [1, 1, 1, 1, 0, 1, 0, 0, 1, 0, 0, 1, 0, 0, 1, 0, 0, 1, 1, 1, 1, 1, 1, 0, 0])) (fun s k => evalC zf79.C zf79.A n (codeAt Tryz.f188 [1, 1, 1, 1, 0, 1, 0, 0, 1, 0, 0, 1, 0, 0, 1, 0, 0, 1, 1, 1, 1, 1, 1, 0, 0]) s k) m16 (St.of 91 155 [(0, .own 91), (1, .val (.slice zt8) x1), (9, .own 92), (10, .val (.int .i64) x10), (11, .own 93), (12, .val (.int .i64) x12), (13, .val (.int .i64) x13), (16, .own 94), (17, .val (.int .i64) x17)] [(91, .row (.int .i64) 3 r91), (92, .row (.int .i64) 3 r92), (93, .row .bool 4 r93), (94, .row (.int .i64) 3 r94)] []) (zf79.K10 n m5 m8)
theorem zf79.eq (n : Nat) (x0 : List Int) (x1 : List zt19) (x2 : Int) : zf79 n (x0, x1, x2) = (if 0 ≤ (↑(List.length x1) : Int) then (if (↑(List.length x1) : Int) ≤ (↑(List.length x1) : Int) then (if (↑(List.length x1) : Int) ≤ (↑Go.Refl.maxN : Int) then zf79.l5 n n (x1) (0) (0) (x0) (List.set (List.replicate 1 0) 0 x2) (List.replicate (Int.toNat (↑(List.length x1) : Int)) Bool.false) else none) else none) else none) := by kernel_rfl
theorem zf79.l5_succ (n m5 : Nat) (x1 : List zt19) (x10 x12 : Int) (r91 r92 : List Int) (r93 : List Bool) : zf79.l5 n (m5 + 1) x1 x10 x12 r91 r92 r93 = (if x12 < (↑(List.length r92) : Int) then zf79.l8 n m5 n (x1) (x10) (x12) (0) (r91) (r92) (r93) else some ((r91, x10, r92))) := by kernel_rfl
theorem zf79.l8_succ (n m5 m8 : Nat) (x1 : List zt19) (x10 x12 x13 : Int) (r91 r92 : List Int) (r93 : List Bool) : zf79.l8 n m5 (m8 + 1) x1 x10 x12 x13 r91 r92 r93 = (if x13 < (↑(List.length x1) : Int) then (if 0 ≤ x13 then (if x13 < (↑(List.length r93) : Int) then (if List.getD r93 (Int.toNat x13) Bool.false = Bool.true then zf79.l8 n m5 m8 (x1) (x10) (x12) (Go.RowKit.wrap64 (x13 + 1)) (r91) (r92) (r93) else (if 0 ≤ x13 then (if x13 < (↑(List.length x1) : Int) then (if 0 ≤ x12 then (if x12 < (↑(List.length r92) : Int) then (if Prod.fst (List.getD x1 (Int.toNat x13) (0, 0, [])) = List.getD r92 (Int.toNat x12) 0 then (if 0 ≤ x13 then (if x13 < (↑(List.length r93) : Int) then (if 0 ≤ x13 then (if x13 < (↑(List.length x1) : Int) then ((zf85 n (r91, List.getD x1 (Int.toNat x13) (0, 0, []))).bind fun y2 => zf79.l16 n m5 m8 n (x1) (Go.RowKit.wrap64 (x10 + y2.2.1)) (x12) (x13) (0) y2.1 (r92) (List.set r93 (Int.toNat x13) Bool.true) y2.2.2) else none) else none) else none) else none) else zf79.l8 n m5 m8 (x1) (x10) (x12) (Go.RowKit.wrap64 (x13 + 1)) (r91) (r92) (r93)) else none) else none) else none) else none)) else none) else none) else zf79.l5 n m5 (x1) (x10) (Go.RowKit.wrap64 (x12 + 1)) (r91) (r92) (r93)) := by kernel_rfl
theorem zf79.l16_succ (n m5 m8 m16 : Nat) (x1 : List zt19) (x10 x12 : Int) (x13 x17 : Int) (r91 r92 : List Int) (r93 : List Bool) (r94 : List Int) : zf79.l16 n m5 m8 (m16 + 1) x1 x10 x12 x13 x17 r91 r92 r93 r94 = (if x17 < (↑(List.length r94) : Int) then (if 0 ≤ x17 then (if x17 < (↑(List.length r94) : Int) then ((zf100 n (r92, List.getD r94 (Int.toNat x17) 0)).bind fun y3 => (if y3 < 0 then (if 0 ≤ x17 then (if x17 < (↑(List.length r94) : Int) then (if List.length r92 + List.length (List.set (List.replicate (1 : Nat) (0 : Int)) (0 : Nat) (List.getD r94 (Int.toNat x17) (0 : Int))) ≤ Go.Refl.maxN then zf79.l16 n m5 m8 m16 (x1) (x10) (x12) (x13) (Go.RowKit.wrap64 (x17 + 1)) (r91) (r92 ++ List.set (List.replicate 1 0) 0 (List.getD r94 (Int.toNat x17) 0)) (r93) (r94) else none) else none) else none) else zf79.l16 n m5 m8 m16 (x1) (x10) (x12) (x13) (Go.RowKit.wrap64 (x17 + 1)) (r91) (r92) (r93) (r94))) else none) else none) else zf79.l8 n m5 m8 (x1) (x10) (x12) (Go.RowKit.wrap64 (x13 + 1)) (r91) (r92) (r93)) := by kernel_rfl
noncomputable abbrev zf79.sg (n : Nat) : Sig := ⟨zf79.ps, zf79.res, zf79 n⟩
theorem zf79.call : Callable Tryz.prog 188 := ⟨Tryz.f188, Tryz.func188, by kernel_rfl, by kernel_rfl⟩
theorem zf79.ok (n : Nat) : FC Tryz.prog [] 188 (zf79.sg n) :=
  evalF_ok (C := zf79.C) ⟨tb_ok, fun n _ _ h => tabOk (l := [(215, (zf85.sg n)), (180, (zf100.sg n))]) (all_cons ⟨zf85.ok n, zf85.call⟩ (all_cons ⟨zf100.ok n, zf100.call⟩ (all_nil))) h, mixed, ar_ok, bld_ok, pts_ok⟩ zf79.A Tryz.func188 zf79.ps zf79.res n
abbrev zf86.ps : List Pm := [.arg (.pr (.own (.int .i64) 3) (.pr (.own zt8 142) (.v zt13))), .arg (.v (.int .i64))]
abbrev zf86.res : List M := [(.pr (.own (.int .i64) 3) (.pr (.own zt8 142) (.v zt13))), .v .bool]
noncomputable def zf86.C : Cfg := { tb := tb, tab := fun n f => Refl.look [(112, (zf89.sg n)), (188, (zf79.sg n)), (180, (zf100.sg n))] f, gl := [], ar := ar, bld := bld, pts := pts }
noncomputable def zf86.A : Ann := { joins := [], loops := [(6, { live := [2, 4, 6, 7, 8, 9, 10], base := 64 })], ids := [(1, [(16, [])]), (3, [(25, [97, 98])]), (8, [(44, [])]), (9, [(52, [])])], pids := [(0, [120, 121])], nroots := 128 }
noncomputable def zf86 (n : Nat) (x : zt10 × Int) : Option (zt10 × Bool) := evalF zf86.C zf86.A Tryz.f143 zf86.ps zf86.res n x
noncomputable def zf86.K0 (_ : Nat) : Kont (zt10 × Bool) := finK zf86.C (Func.results Tryz.f143).toList zf86.ps zf86.res
noncomputable def zf86.K1 (n : Nat) : Kont (zt10 × Bool) := seqK (fun s' k => joinE zf86.A.joins (codeAt Tryz.f143 [1, 1, 1, 1, 1]) (fun s'' => evalC zf86.C zf86.A n (codeAt Tryz.f143 [1, 1, 1, 1, 1]) s'' k) s') (zf86.K0 n)
noncomputable def zf86.K2 (n : Nat) : Kont (zt10 × Bool) := blockK 0 (zf86.K1 n)
noncomputable def zf86.l6 (n m6 : Nat) (x7 x10 : Int) (r64_2 r64_3 : Int) (r64_4 r65_2 : Int) (r65_3 r65_4 : Int) (r66 r67 : List Int) (r68 : List zt19) (r69 : List zt19) : Option (zt10 × Bool) := loopE (cutAt zf86.A.loops (codeAt Tryz.f143 [1, 1, 1, 1, 0, 1, 0, 0])) (fun s k => evalC zf86.C zf86.A n (codeAt Tryz.f143 [1, 1, 1, 1, 0, 1, 0, 0]) s k) m6 (St.of 64 128 [(2, .ptr 64 0 0), (4, .ptr 65 0 0), (6, .own 66), (7, .val (.int .i64) x7), (8, .own 67), (9, .own 68), (10, .val (.int .i64) x10)] [(64, .box 41 [.undef, .own 69, .val (.int .i64) r64_2, .val (.int .i64) r64_3, .val (.int .i64) r64_4]), (65, .box 41 [.nils, .nils, .val (.int .i64) r65_2, .val (.int .i64) r65_3, .val (.int .i64) r65_4]), (66, .row (.int .i64) 3 r66), (67, .row (.int .i64) 3 r67), (68, .row zt8 142 r68), (69, .row zt8 142 r69)] []) (zf86.K2 n)
theorem zf86.eq (n : Nat) (x0 : List Int × List zt19 × Int × Int × Int) (x1 : Int) : zf86 n (x0, x1) = ((zf89 n (x1, 0, Go.RowKit.wrap64 ((↑(List.length x0.1) : Int) - 1))).bind fun y0 => (if (!y0) = true then some (((x0.1, x0.2.1, x0.2.2.1, x0.2.2.2.1, x0.2.2.2.2), Bool.false)) else ((zf79 n (x0.1, x0.2.1, x1)).bind fun y3 => zf86.l6 n n y3.2.1 (0) x0.2.2.1 x0.2.2.2.1 x0.2.2.2.2 (0) (0) (0) y3.1 y3.2.2 (List.replicate 0 (0, 0, [])) x0.2.1))) := by kernel_rfl
theorem zf86.l6_succ (n m6 : Nat) (x7 x10 : Int) (r64_2 r64_3 : Int) (r64_4 r65_2 : Int) (r65_3 r65_4 : Int) (r66 r67 : List Int) (r68 : List zt19) (r69 : List zt19) : zf86.l6 n (m6 + 1) x7 x10 r64_2 r64_3 r64_4 r65_2 r65_3 r65_4 r66 r67 r68 r69 = (if x10 < (↑(List.length r69) : Int) then (if 0 ≤ x10 then (if x10 < (↑(List.length r69) : Int) then ((zf100 n (r67, Prod.fst (List.getD r69 (Int.toNat x10) (0, 0, [])))).bind fun y4 => (if y4 < 0 then (if 0 ≤ x10 then (if x10 < (↑(List.length r69) : Int) then (if List.length r68 + List.length (List.set (List.replicate (1 : Nat) ((0 : Int), (0 : Int), [])) (0 : Nat) (List.getD r69 (Int.toNat x10) ((0 : Int), (0 : Int), []))) ≤ Go.Refl.maxN then zf86.l6 n m6 (x7) (Go.RowKit.wrap64 (x10 + 1)) (r64_2) (r64_3) (r64_4) (r65_2) (r65_3) (r65_4) (r66) (r67) (r68 ++ List.set (List.replicate 1 (0, 0, [])) 0 (List.getD r69 (Int.toNat x10) (0, 0, []))) (r69) else none) else none) else none) else zf86.l6 n m6 (x7) (Go.RowKit.wrap64 (x10 + 1)) (r64_2) (r64_3) (r64_4) (r65_2) (r65_3) (r65_4) (r66) (r67) (r68) (r69))) else none) else none) else some (((r66, r68, r64_2, Go.RowKit.wrap64 (r64_3 - x7), r64_4), Bool.true))) := by kernel_rfl
noncomputable abbrev zf86.sg (n : Nat) : Sig := ⟨zf86.ps, zf86.res, zf86 n⟩
theorem zf86.call : Callable Tryz.prog 143 := ⟨Tryz.f143, Tryz.func143, by kernel_rfl, by kernel_rfl⟩
theorem zf86.ok (n : Nat) : FC Tryz.prog [] 143 (zf86.sg n) :=
  evalF_ok (C := zf86.C) ⟨tb_ok, fun n _ _ h => tabOk (l := [(112, (zf89.sg n)), (188, (zf79.sg n)), (180, (zf100.sg n))]) (all_cons ⟨zf89.ok n, zf89.call⟩ (all_cons ⟨zf79.ok n, zf79.call⟩ (all_cons ⟨zf100.ok n, zf100.call⟩ (all_nil)))) h, mixed, ar_ok, bld_ok, pts_ok⟩ zf86.A Tryz.func143 zf86.ps zf86.res n
abbrev zf124.ps : List Pm := [.arg (.v zt16)]
abbrev zf124.res : List M := [.v .bool]
noncomputable def zf124.C : Cfg := { tb := tb, tab := fun n f => Refl.look [(112, (zf89.sg n))] f, gl := [], ar := ar, bld := bld, pts := pts }
noncomputable def zf124.A : Ann := { joins := [], loops := [], ids := [(1, [(5, []), (11, [])])], pids := [], nroots := 77 }
noncomputable def zf124 (n : Nat) (x : Int × Int) : Option (Bool) := evalF zf124.C zf124.A Tryz.f110 zf124.ps zf124.res n x
theorem zf124.eq (n : Nat) (x0 : Int × Int) : zf124 n x0 = ((zf89 n (x0.2, 1, 1000)).bind fun y0 => (if y0 = Bool.true then ((zf89 n (x0.1, 0, x0.2)).bind fun y1 => some (y1)) else some (Bool.false))) := by kernel_rfl
noncomputable abbrev zf124.sg (n : Nat) : Sig := ⟨zf124.ps, zf124.res, zf124 n⟩
theorem zf124.call : Callable Tryz.prog 110 := ⟨Tryz.f110, Tryz.func110, by kernel_rfl, by kernel_rfl⟩
theorem zf124.ok (n : Nat) : FC Tryz.prog [] 110 (zf124.sg n) :=
  evalF_ok (C := zf124.C) ⟨tb_ok, fun n _ _ h => tabOk (l := [(112, (zf89.sg n))]) (all_cons ⟨zf89.ok n, zf89.call⟩ (all_nil)) h, mixed, ar_ok, bld_ok, pts_ok⟩ zf124.A Tryz.func110 zf124.ps zf124.res n
abbrev zf95.ps : List Pm := [.arg (.v (.int .i64)), .arg (.v zt16)]
abbrev zf95.res : List M := [.v (.int .i64)]
noncomputable def zf95.C : Cfg := { tb := tb, tab := fun n f => Refl.look [] f, gl := [], ar := ar, bld := bld, pts := pts }
noncomputable def zf95.A : Ann := { joins := [], loops := [], ids := [], pids := [], nroots := 81 }
noncomputable def zf95 (n : Nat) (x : Int × Int × Int) : Option (Int) := evalF zf95.C zf95.A Tryz.f216 zf95.ps zf95.res n x
theorem zf95.eq (n : Nat) (x0 : Int) (x1 : Int × Int) : zf95 n (x0, x1) = (if Go.RowKit.wrap64 (2 * x1.2) = 0 then none else some (Go.RowKit.wrap64 (Int.tdiv (Go.RowKit.wrap64 (Go.RowKit.wrap64 (Go.RowKit.wrap64 (2 * x0) * x1.1) + x1.2)) (Go.RowKit.wrap64 (2 * x1.2))))) := by kernel_rfl
noncomputable abbrev zf95.sg (n : Nat) : Sig := ⟨zf95.ps, zf95.res, zf95 n⟩
theorem zf95.call : Callable Tryz.prog 216 := ⟨Tryz.f216, Tryz.func216, by kernel_rfl, by kernel_rfl⟩
theorem zf95.ok (n : Nat) : FC Tryz.prog [] 216 (zf95.sg n) :=
  evalF_ok (C := zf95.C) ⟨tb_ok, fun n _ _ h => tabOk (l := []) (all_nil) h, mixed, ar_ok, bld_ok, pts_ok⟩ zf95.A Tryz.func216 zf95.ps zf95.res n
abbrev zf83.ps : List Pm := [.arg (.v (.int .i64)), .arg (.v zt16)]
abbrev zf83.res : List M := [.v (.int .i64)]
noncomputable def zf83.C : Cfg := { tb := tb, tab := fun n f => Refl.look [(216, (zf95.sg n))] f, gl := [], ar := ar, bld := bld, pts := pts }
noncomputable def zf83.A : Ann := { joins := [], loops := [], ids := [(1, [(8, [])])], pids := [], nroots := 102 }
noncomputable def zf83 (n : Nat) (x : Int × Int × Int) : Option (Int) := evalF zf83.C zf83.A Tryz.f189 zf83.ps zf83.res n x
theorem zf83.eq (n : Nat) (x0 : Int) (x1 : Int × Int) : zf83 n (x0, x1) = ((zf95 n (x0, x1.1, x1.2)).bind fun y0 => (if x1.2 = 0 then none else (if Int.tmod (Go.RowKit.wrap64 (Go.RowKit.wrap64 (2 * x0) * x1.1)) x1.2 = 0 then (if x1.2 = 0 then none else (if Int.tmod (Go.RowKit.wrap64 (Int.tdiv (Go.RowKit.wrap64 (Go.RowKit.wrap64 (2 * x0) * x1.1)) x1.2)) 2 = 1 then (if Int.tmod y0 2 = 1 then some (Go.RowKit.wrap64 (y0 - 1)) else some (y0)) else some (y0))) else some (y0)))) := by kernel_rfl
noncomputable abbrev zf83.sg (n : Nat) : Sig := ⟨zf83.ps, zf83.res, zf83 n⟩
theorem zf83.call : Callable Tryz.prog 189 := ⟨Tryz.f189, Tryz.func189, by kernel_rfl, by kernel_rfl⟩
theorem zf83.ok (n : Nat) : FC Tryz.prog [] 189 (zf83.sg n) :=
  evalF_ok (C := zf83.C) ⟨tb_ok, fun n _ _ h => tabOk (l := [(216, (zf95.sg n))]) (all_cons ⟨zf95.ok n, zf95.call⟩ (all_nil)) h, mixed, ar_ok, bld_ok, pts_ok⟩ zf83.A Tryz.func189 zf83.ps zf83.res n
abbrev zf97.ps : List Pm := [.arg (.pr (.own (.int .i64) 3) (.pr (.own zt8 142) (.v zt13))), .arg (.v zt16)]
abbrev zf97.res : List M := [(.pr (.own (.int .i64) 3) (.pr (.own zt8 142) (.v zt13))), .v .bool]
noncomputable def zf97.C : Cfg := { tb := tb, tab := fun n f => Refl.look [(110, (zf124.sg n)), (189, (zf83.sg n))] f, gl := [], ar := ar, bld := bld, pts := pts }
noncomputable def zf97.A : Ann := { joins := [], loops := [(4, { live := [2, 3, 4, 6], base := 50 })], ids := [(1, [(9, [])]), (6, [(26, [])])], pids := [(0, [106, 107])], nroots := 114 }
noncomputable def zf97 (n : Nat) (x : zt10 × Int × Int) : Option (zt10 × Bool) := evalF zf97.C zf97.A Tryz.f144 zf97.ps zf97.res n x
noncomputable def zf97.K0 (_ : Nat) : Kont (zt10 × Bool) := finK zf97.C (Func.results Tryz.f144).toList zf97.ps zf97.res
noncomputable def zf97.K1 (n : Nat) : Kont (zt10 × Bool) := seqK (fun s' k => joinE zf97.A.joins (codeAt Tryz.f144 [1, 1, 1]) (fun s'' => evalC zf97.C zf97.A n (codeAt Tryz.f144 [1, 1, 1]) s'' k) s') (zf97.K0 n)
noncomputable def zf97.K2 (n : Nat) : Kont (zt10 × Bool) := blockK 0 (zf97.K1 n)
noncomputable def zf97.l4 (n m4 : Nat) (x6 r50_2 : Int) (r50_3 r50_4 : Int) (r51_0 r51_1 : Int) (r52_2 r52_3 r52_4 : Int) (r53 : List Int) (r54 : List zt19) : Option (zt10 × Bool) := loopE (cutAt zf97.A.loops (codeAt Tryz.f144 [1, 1, 0, 1, 0, 0])) (fun s k => evalC zf97.C zf97.A n (codeAt Tryz.f144 [1, 1, 0, 1, 0, 0]) s k) m4 (St.of 50 114 [(2, .ptr 50 0 0), (3, .ptr 51 0 0), (4, .ptr 52 0 0), (6, .val (.int .i64) x6)] [(50, .box 41 [.own 53, .own 54, .val (.int .i64) r50_2, .val (.int .i64) r50_3, .val (.int .i64) r50_4]), (51, .box 26 [.val (.int .i64) r51_0, .val (.int .i64) r51_1]), (52, .box 41 [.nils, .nils, .val (.int .i64) r52_2, .val (.int .i64) r52_3, .val (.int .i64) r52_4]), (53, .row (.int .i64) 3 r53), (54, .row zt8 142 r54)] []) (zf97.K2 n)
theorem zf97.eq (n : Nat) (x0 : List Int × List zt19 × Int × Int × Int) (x1 : Int × Int) : zf97 n (x0, x1) = ((zf124 n (x1.1, x1.2)).bind fun y0 => (if (!y0) = true then some (((x0.1, x0.2.1, x0.2.2.1, x0.2.2.2.1, x0.2.2.2.2), Bool.false)) else zf97.l4 n n (0) x0.2.2.1 x0.2.2.2.1 x0.2.2.2.2 x1.1 x1.2 (0) (0) (0) x0.1 x0.2.1)) := by kernel_rfl
theorem zf97.l4_succ (n m4 : Nat) (x6 r50_2 : Int) (r50_3 r50_4 : Int) (r51_0 r51_1 : Int) (r52_2 r52_3 r52_4 : Int) (r53 : List Int) (r54 : List zt19) : zf97.l4 n (m4 + 1) x6 r50_2 r50_3 r50_4 r51_0 r51_1 r52_2 r52_3 r52_4 r53 r54 = (if x6 < (↑(List.length r54) : Int) then (if 0 ≤ x6 then (if x6 < (↑(List.length r54) : Int) then ((zf83 n (Prod.fst (Prod.snd (List.getD r54 (Int.toNat x6) (0, 0, []))), r51_0, r51_1)).bind fun y1 => (if 0 ≤ x6 then (if x6 < (↑(List.length r54) : Int) then (if 0 ≤ x6 then (if x6 < (↑(List.length r54) : Int) then zf97.l4 n m4 (Go.RowKit.wrap64 (x6 + 1)) (r50_2) (Go.RowKit.wrap64 (r50_3 + y1)) (r50_4) (r51_0) (r51_1) (r52_2) (r52_3) (r52_4) (r53) (List.set r54 (Int.toNat x6) (Prod.fst (List.getD r54 (Int.toNat x6) (0, 0, [])), Go.RowKit.wrap64 (Prod.fst (Prod.snd (List.getD r54 (Int.toNat x6) (0, 0, []))) + y1), Prod.snd (Prod.snd (List.getD r54 (Int.toNat x6) (0, 0, []))))) else none) else none) else none) else none)) else none) else none) else some (((r53, r54, r50_2, r50_3, Go.RowKit.wrap64 (r50_4 + 1)), Bool.true))) := by kernel_rfl
noncomputable abbrev zf97.sg (n : Nat) : Sig := ⟨zf97.ps, zf97.res, zf97 n⟩
theorem zf97.call : Callable Tryz.prog 144 := ⟨Tryz.f144, Tryz.func144, by kernel_rfl, by kernel_rfl⟩
theorem zf97.ok (n : Nat) : FC Tryz.prog [] 144 (zf97.sg n) :=
  evalF_ok (C := zf97.C) ⟨tb_ok, fun n _ _ h => tabOk (l := [(110, (zf124.sg n)), (189, (zf83.sg n))]) (all_cons ⟨zf124.ok n, zf124.call⟩ (all_cons ⟨zf83.ok n, zf83.call⟩ (all_nil))) h, mixed, ar_ok, bld_ok, pts_ok⟩ zf97.A Tryz.func144 zf97.ps zf97.res n
abbrev zf112.ps : List Pm := [.arg (.pr (.own (.int .i64) 3) (.pr (.own zt8 142) (.v zt13)))]
abbrev zf112.res : List M := [(.pr (.own (.int .i64) 3) (.pr (.own zt8 142) (.v zt13))), .v .bool]
noncomputable def zf112.C : Cfg := { tb := tb, tab := fun n f => Refl.look [(190, (zf117.sg n))] f, gl := [], ar := ar, bld := bld, pts := pts }
noncomputable def zf112.A : Ann := { joins := [], loops := [(5, { live := [1, 2, 4, 5], base := 38 })], ids := [], pids := [(0, [94, 95])], nroots := 102 }
noncomputable def zf112 (n : Nat) (x : List Int × List zt19 × Int × Int × Int) : Option (zt10 × Bool) := evalF zf112.C zf112.A Tryz.f145 zf112.ps zf112.res n x
noncomputable def zf112.K0 (_ : Nat) : Kont (zt10 × Bool) := finK zf112.C (Func.results Tryz.f145).toList zf112.ps zf112.res
noncomputable def zf112.K1 (n : Nat) : Kont (zt10 × Bool) := seqK (fun s' k => joinE zf112.A.joins (codeAt Tryz.f145 [1, 1, 1, 1]) (fun s'' => evalC zf112.C zf112.A n (codeAt Tryz.f145 [1, 1, 1, 1]) s'' k) s') (zf112.K0 n)
noncomputable def zf112.K2 (n : Nat) : Kont (zt10 × Bool) := blockK 0 (zf112.K1 n)
noncomputable def zf112.l5 (n m5 : Nat) (x5 r38_2 : Int) (r38_3 r38_4 : Int) (r39_2 r39_3 r39_4 : Int) (r40 r41 : List Int) (r42 : List zt19) : Option (zt10 × Bool) := loopE (cutAt zf112.A.loops (codeAt Tryz.f145 [1, 1, 1, 0, 1, 0, 0])) (fun s k => evalC zf112.C zf112.A n (codeAt Tryz.f145 [1, 1, 1, 0, 1, 0, 0]) s k) m5 (St.of 38 102 [(1, .ptr 38 0 0), (2, .ptr 39 0 0), (4, .own 40), (5, .val (.int .i64) x5)] [(38, .box 41 [.own 41, .own 42, .val (.int .i64) r38_2, .val (.int .i64) r38_3, .val (.int .i64) r38_4]), (39, .box 41 [.nils, .nils, .val (.int .i64) r39_2, .val (.int .i64) r39_3, .val (.int .i64) r39_4]), (40, .row (.int .i64) 3 r40), (41, .row (.int .i64) 3 r41), (42, .row zt8 142 r42)] []) (zf112.K2 n)
theorem zf112.eq (n : Nat) (x0 : List Int × List zt19 × Int × Int × Int) : zf112 n x0 = (if x0.2.2.2.1 < 0 then some (((x0.1, x0.2.1, x0.2.2.1, x0.2.2.2.1, x0.2.2.2.2), Bool.false)) else ((zf117 n (x0.2.2.2.1, (↑(List.length x0.1) : Int))).bind fun y0 => zf112.l5 n n (0) x0.2.2.1 x0.2.2.2.1 x0.2.2.2.2 (0) (0) (0) (y0) x0.1 x0.2.1)) := by kernel_rfl
theorem zf112.l5_succ (n m5 : Nat) (x5 r38_2 : Int) (r38_3 r38_4 : Int) (r39_2 r39_3 r39_4 : Int) (r40 r41 : List Int) (r42 : List zt19) : zf112.l5 n (m5 + 1) x5 r38_2 r38_3 r38_4 r39_2 r39_3 r39_4 r40 r41 r42 = (if x5 < (↑(List.length r40) : Int) then (if 0 ≤ x5 then (if x5 < (↑(List.length r41) : Int) then (if 0 ≤ x5 then (if x5 < (↑(List.length r40) : Int) then (if 0 ≤ x5 then (if x5 < (↑(List.length r41) : Int) then zf112.l5 n m5 (Go.RowKit.wrap64 (x5 + 1)) (r38_2) (r38_3) (r38_4) (r39_2) (r39_3) (r39_4) (r40) (List.set r41 (Int.toNat x5) (Go.RowKit.wrap64 (List.getD r41 (Int.toNat x5) 0 + List.getD r40 (Int.toNat x5) 0))) (r42) else none) else none) else none) else none) else none) else none) else some (((r41, r42, r38_2, 0, r38_4), Bool.true))) := by kernel_rfl
noncomputable abbrev zf112.sg (n : Nat) : Sig := ⟨zf112.ps, zf112.res, zf112 n⟩
theorem zf112.call : Callable Tryz.prog 145 := ⟨Tryz.f145, Tryz.func145, by kernel_rfl, by kernel_rfl⟩
theorem zf112.ok (n : Nat) : FC Tryz.prog [] 145 (zf112.sg n) :=
  evalF_ok (C := zf112.C) ⟨tb_ok, fun n _ _ h => tabOk (l := [(190, (zf117.sg n))]) (all_cons ⟨zf117.ok n, zf117.call⟩ (all_nil)) h, mixed, ar_ok, bld_ok, pts_ok⟩ zf112.A Tryz.func145 zf112.ps zf112.res n
abbrev zf120.ps : List Pm := [.arg (.v (.int .i64))]
abbrev zf120.res : List M := [.v .bool]
noncomputable def zf120.C : Cfg := { tb := tb, tab := fun n f => Refl.look [(112, (zf89.sg n))] f, gl := [], ar := ar, bld := bld, pts := pts }
noncomputable def zf120.A : Ann := { joins := [], loops := [], ids := [(1, [(4, [])])], pids := [], nroots := 69 }
noncomputable def zf120 (n : Nat) (x : Int) : Option (Bool) := evalF zf120.C zf120.A Tryz.f113 zf120.ps zf120.res n x
theorem zf120.eq (n : Nat) (x0 : Int) : zf120 n x0 = ((zf89 n (x0, 0, 1000000)).bind fun y0 => some (y0)) := by kernel_rfl
noncomputable abbrev zf120.sg (n : Nat) : Sig := ⟨zf120.ps, zf120.res, zf120 n⟩
theorem zf120.call : Callable Tryz.prog 113 := ⟨Tryz.f113, Tryz.func113, by kernel_rfl, by kernel_rfl⟩
theorem zf120.ok (n : Nat) : FC Tryz.prog [] 113 (zf120.sg n) :=
  evalF_ok (C := zf120.C) ⟨tb_ok, fun n _ _ h => tabOk (l := [(112, (zf89.sg n))]) (all_cons ⟨zf89.ok n, zf89.call⟩ (all_nil)) h, mixed, ar_ok, bld_ok, pts_ok⟩ zf120.A Tryz.func113 zf120.ps zf120.res n
abbrev zf91.ps : List Pm := [.arg (.v (.slice zt8))]
abbrev zf91.res : List M := [.v (.int .i64)]
noncomputable def zf91.C : Cfg := { tb := tb, tab := fun n f => Refl.look [] f, gl := [], ar := ar, bld := bld, pts := pts }
noncomputable def zf91.A : Ann := { joins := [], loops := [(3, { live := [0, 3, 4], base := 19 })], ids := [], pids := [], nroots := 83 }
noncomputable def zf91 (n : Nat) (x : List zt19) : Option (Int) := evalF zf91.C zf91.A Tryz.f128 zf91.ps zf91.res n x
noncomputable def zf91.K0 (_ : Nat) : Kont (Int) := finK zf91.C (Func.results Tryz.f128).toList zf91.ps zf91.res
noncomputable def zf91.K1 (n : Nat) : Kont (Int) := seqK (fun s' k => joinE zf91.A.joins (codeAt Tryz.f128 [1, 1, 1]) (fun s'' => evalC zf91.C zf91.A n (codeAt Tryz.f128 [1, 1, 1]) s'' k) s') (zf91.K0 n)
noncomputable def zf91.K2 (n : Nat) : Kont (Int) := blockK 0 (zf91.K1 n)
noncomputable def zf91.l3 (n m3 : Nat) (x0 : List zt19) (x3 x4 : Int) : Option (Int) := loopE (cutAt zf91.A.loops (codeAt Tryz.f128 [1, 1, 0, 1, 0, 0])) (fun s k => evalC zf91.C zf91.A n (codeAt Tryz.f128 [1, 1, 0, 1, 0, 0]) s k) m3 (St.of 19 83 [(0, .val (.slice zt8) x0), (3, .val (.int .i64) x3), (4, .val (.int .i64) x4)] [] []) (zf91.K2 n)
theorem zf91.eq (n : Nat) (x0 : List zt19) : zf91 n x0 = zf91.l3 n n (x0) (0) (0) := by kernel_rfl
theorem zf91.l3_succ (n m3 : Nat) (x0 : List zt19) (x3 x4 : Int) : zf91.l3 n (m3 + 1) x0 x3 x4 = (if x4 < (↑(List.length x0) : Int) then (if 0 ≤ x4 then (if x4 < (↑(List.length x0) : Int) then zf91.l3 n m3 (x0) (Go.RowKit.wrap64 (x3 + Prod.fst (Prod.snd (List.getD x0 (Int.toNat x4) (0, 0, []))))) (Go.RowKit.wrap64 (x4 + 1)) else none) else none) else some (x3)) := by kernel_rfl
noncomputable abbrev zf91.sg (n : Nat) : Sig := ⟨zf91.ps, zf91.res, zf91 n⟩
theorem zf91.call : Callable Tryz.prog 128 := ⟨Tryz.f128, Tryz.func128, by kernel_rfl, by kernel_rfl⟩
theorem zf91.ok (n : Nat) : FC Tryz.prog [] 128 (zf91.sg n) :=
  evalF_ok (C := zf91.C) ⟨tb_ok, fun n _ _ h => tabOk (l := []) (all_nil) h, mixed, ar_ok, bld_ok, pts_ok⟩ zf91.A Tryz.func128 zf91.ps zf91.res n
abbrev zf119.ps : List Pm := [.arg (.v (.slice (.int .i64)))]
abbrev zf119.res : List M := [.v (.int .i64)]
noncomputable def zf119.C : Cfg := { tb := tb, tab := fun n f => Refl.look [] f, gl := [], ar := ar, bld := bld, pts := pts }
noncomputable def zf119.A : Ann := { joins := [], loops := [(3, { live := [0, 3, 4], base := 18 })], ids := [], pids := [], nroots := 82 }
noncomputable def zf119 (n : Nat) (x : List Int) : Option (Int) := evalF zf119.C zf119.A Tryz.f129 zf119.ps zf119.res n x
noncomputable def zf119.K0 (_ : Nat) : Kont (Int) := finK zf119.C (Func.results Tryz.f129).toList zf119.ps zf119.res
noncomputable def zf119.K1 (n : Nat) : Kont (Int) := seqK (fun s' k => joinE zf119.A.joins (codeAt Tryz.f129 [1, 1, 1]) (fun s'' => evalC zf119.C zf119.A n (codeAt Tryz.f129 [1, 1, 1]) s'' k) s') (zf119.K0 n)
noncomputable def zf119.K2 (n : Nat) : Kont (Int) := blockK 0 (zf119.K1 n)
noncomputable def zf119.l3 (n m3 : Nat) (x0 : List Int) (x3 x4 : Int) : Option (Int) := loopE (cutAt zf119.A.loops (codeAt Tryz.f129 [1, 1, 0, 1, 0, 0])) (fun s k => evalC zf119.C zf119.A n (codeAt Tryz.f129 [1, 1, 0, 1, 0, 0]) s k) m3 (St.of 18 82 [(0, .val (.slice (.int .i64)) x0), (3, .val (.int .i64) x3), (4, .val (.int .i64) x4)] [] []) (zf119.K2 n)
theorem zf119.eq (n : Nat) (x0 : List Int) : zf119 n x0 = zf119.l3 n n (x0) (0) (0) := by kernel_rfl
theorem zf119.l3_succ (n m3 : Nat) (x0 : List Int) (x3 x4 : Int) : zf119.l3 n (m3 + 1) x0 x3 x4 = (if x4 < (↑(List.length x0) : Int) then (if 0 ≤ x4 then (if x4 < (↑(List.length x0) : Int) then zf119.l3 n m3 (x0) (Go.RowKit.wrap64 (x3 + List.getD x0 (Int.toNat x4) 0)) (Go.RowKit.wrap64 (x4 + 1)) else none) else none) else some (x3)) := by kernel_rfl
noncomputable abbrev zf119.sg (n : Nat) : Sig := ⟨zf119.ps, zf119.res, zf119 n⟩
theorem zf119.call : Callable Tryz.prog 129 := ⟨Tryz.f129, Tryz.func129, by kernel_rfl, by kernel_rfl⟩
theorem zf119.ok (n : Nat) : FC Tryz.prog [] 129 (zf119.sg n) :=
  evalF_ok (C := zf119.C) ⟨tb_ok, fun n _ _ h => tabOk (l := []) (all_nil) h, mixed, ar_ok, bld_ok, pts_ok⟩ zf119.A Tryz.func129 zf119.ps zf119.res n
abbrev zf121.ps : List Pm := [.arg (.v zt0)]
abbrev zf121.res : List M := [.v .bool]
noncomputable def zf121.C : Cfg := { tb := tb, tab := fun n f => Refl.look [(126, (zf125.sg n)), (127, (zf122.sg n)), (113, (zf120.sg n)), (112, (zf89.sg n)), (128, (zf91.sg n)), (129, (zf119.sg n))] f, gl := [], ar := ar, bld := bld, pts := pts }
noncomputable def zf121.A : Ann := { joins := [], loops := [], ids := [(1, [(5, []), (13, []), (19, []), (25, []), (31, [])]), (3, [(38, []), (42, [])])], pids := [], nroots := 111 }
noncomputable def zf121 (n : Nat) (x : List Int × List zt19 × Int × Int × Int) : Option (Bool) := evalF zf121.C zf121.A Tryz.f68 zf121.ps zf121.res n x
theorem zf121.eq (n : Nat) (x0 : List Int × List zt19 × Int × Int × Int) : zf121 n x0 = ((zf125 n x0.1).bind fun y0 => (if (!y0) = Bool.true then some (Bool.false) else ((zf122 n (x0.2.1, (↑(List.length x0.1) : Int))).bind fun y1 => (if (!y1) = Bool.true then some (Bool.false) else ((zf120 n x0.2.2.1).bind fun y2 => (if (!y2) = Bool.true then some (Bool.false) else ((zf89 n (x0.2.2.2.1, (-1000000), 1000000)).bind fun y3 => (if (!y3) = Bool.true then some (Bool.false) else ((zf89 n (x0.2.2.2.2, 0, 999)).bind fun y4 => (if (!y4) = true then some (Bool.false) else ((zf91 n x0.2.1).bind fun y5 => ((zf119 n x0.1).bind fun y6 => some (Decidable.decide (Go.RowKit.wrap64 (x0.2.2.1 + y5) = Go.RowKit.wrap64 (y6 + x0.2.2.2.1))))))))))))))) := by kernel_rfl
noncomputable abbrev zf121.sg (n : Nat) : Sig := ⟨zf121.ps, zf121.res, zf121 n⟩
theorem zf121.call : Callable Tryz.prog 68 := ⟨Tryz.f68, Tryz.func68, by kernel_rfl, by kernel_rfl⟩
theorem zf121.ok (n : Nat) : FC Tryz.prog [] 68 (zf121.sg n) :=
  evalF_ok (C := zf121.C) ⟨tb_ok, fun n _ _ h => tabOk (l := [(126, (zf125.sg n)), (127, (zf122.sg n)), (113, (zf120.sg n)), (112, (zf89.sg n)), (128, (zf91.sg n)), (129, (zf119.sg n))]) (all_cons ⟨zf125.ok n, zf125.call⟩ (all_cons ⟨zf122.ok n, zf122.call⟩ (all_cons ⟨zf120.ok n, zf120.call⟩ (all_cons ⟨zf89.ok n, zf89.call⟩ (all_cons ⟨zf91.ok n, zf91.call⟩ (all_cons ⟨zf119.ok n, zf119.call⟩ (all_nil))))))) h, mixed, ar_ok, bld_ok, pts_ok⟩ zf121.A Tryz.func68 zf121.ps zf121.res n
abbrev zf77.ps : List Pm := [.arg (.v zt0), .arg (.v zt1)]
abbrev zf77.res : List M := [.v zt0, .v .bool]
noncomputable def zf77.C : Cfg := { tb := tb, tab := fun n f => Refl.look [(138, (zf80.sg n)), (139, (zf93.sg n)), (141, { params := zf81.ps, res := [.v (.slice (.int .i64))], run := zf81 n }), (140, (zf90.sg n)), (142, (zf109.sg n)), (143, (zf86.sg n)), (144, (zf97.sg n)), (145, (zf112.sg n)), (68, (zf121.sg n))] f, gl := [], ar := ar, bld := bld, pts := pts }
noncomputable def zf77.A : Ann := { joins := [], loops := [], ids := [(1, [(9, [117, 118])]), (5, [(16, [])]), (20, [(80, [])]), (9, [(25, [121, 122])]), (11, [(38, []), (40, [126, 127])]), (13, [(48, [130, 131])]), (15, [(57, [134, 135])]), (17, [(66, [138, 139])]), (19, [(73, [142, 143])])], pids := [], nroots := 149 }
noncomputable def zf77 (n : Nat) (x : zt10 × Int × Int × Int × Int × List Int × Int × Int) : Option (zt10 × Bool) := evalF zf77.C zf77.A Tryz.f72 zf77.ps zf77.res n x
theorem zf77.eq (n : Nat) (x0 : List Int × List zt19 × Int × Int × Int) (x1 : Int × Int × Int × Int × List Int × Int × Int) : zf77 n (x0, x1) = ((zf80 n (x0.1, x0.2.1, x0.2.2.1, x0.2.2.2.1, x0.2.2.2.2)).bind fun y2 => (if x1.1 = 0 then (if List.length y2.1 + List.length (List.set (List.replicate (1 : Nat) (0 : Int)) (0 : Nat) (0 : Int)) ≤ Go.Refl.maxN then ((zf121 n (y2.1 ++ List.set (List.replicate 1 0) 0 0, y2.2.1, y2.2.2.1, y2.2.2.2.1, y2.2.2.2.2)).bind fun y3 => (if (!y3) = true then some ((([], [], 0, 0, 0), Bool.false)) else some (((y2.1 ++ List.set (List.replicate 1 0) 0 0, y2.2.1, y2.2.2.1, y2.2.2.2.1, y2.2.2.2.2), Bool.true)))) else none) else (if x1.1 = 1 then (if x1.1 = 1 then ((zf93 n ((y2.1, y2.2.1, y2.2.2.1, y2.2.2.2.1, y2.2.2.2.2), x1.1, x1.2.1, x1.2.2.1, x1.2.2.2.1, x1.2.2.2.2.1, x1.2.2.2.2.2.1, x1.2.2.2.2.2.2)).bind fun y6 => (if (!y6.2) = Bool.true then some ((([], [], 0, 0, 0), Bool.false)) else ((zf121 n (y6.1.1, y6.1.2.1, y6.1.2.2.1, y6.1.2.2.2.1, y6.1.2.2.2.2)).bind fun y7 => (if (!y7) = true then some ((([], [], 0, 0, 0), Bool.false)) else some (((y6.1.1, y6.1.2.1, y6.1.2.2.1, y6.1.2.2.2.1, y6.1.2.2.2.2), Bool.true)))))) else (if x1.1 = 3 then ((zf81 n x1.2.2.2.2.1).bind fun y8 => ((zf90 n ((y2.1, y2.2.1, y2.2.2.1, y2.2.2.2.1, y2.2.2.2.2), x1.2.1, x1.2.2.1, y8)).bind fun y11 => (if (!y11.2) = Bool.true then some ((([], [], 0, 0, 0), Bool.false)) else ((zf121 n (y11.1.1, y11.1.2.1, y11.1.2.2.1, y11.1.2.2.2.1, y11.1.2.2.2.2)).bind fun y12 => (if (!y12) = true then some ((([], [], 0, 0, 0), Bool.false)) else some (((y11.1.1, y11.1.2.1, y11.1.2.2.1, y11.1.2.2.2.1, y11.1.2.2.2.2), Bool.true))))))) else (if x1.1 = 4 then ((zf109 n ((y2.1, y2.2.1, y2.2.2.1, y2.2.2.2.1, y2.2.2.2.2), x1.1, x1.2.1, x1.2.2.1, x1.2.2.2.1, x1.2.2.2.2.1, x1.2.2.2.2.2.1, x1.2.2.2.2.2.2)).bind fun y15 => (if (!y15.2) = Bool.true then some ((([], [], 0, 0, 0), Bool.false)) else ((zf121 n (y15.1.1, y15.1.2.1, y15.1.2.2.1, y15.1.2.2.2.1, y15.1.2.2.2.2)).bind fun y16 => (if (!y16) = true then some ((([], [], 0, 0, 0), Bool.false)) else some (((y15.1.1, y15.1.2.1, y15.1.2.2.1, y15.1.2.2.2.1, y15.1.2.2.2.2), Bool.true)))))) else (if x1.1 = 5 then ((zf86 n ((y2.1, y2.2.1, y2.2.2.1, y2.2.2.2.1, y2.2.2.2.2), x1.2.1)).bind fun y19 => (if (!y19.2) = Bool.true then some ((([], [], 0, 0, 0), Bool.false)) else ((zf121 n (y19.1.1, y19.1.2.1, y19.1.2.2.1, y19.1.2.2.2.1, y19.1.2.2.2.2)).bind fun y20 => (if (!y20) = true then some ((([], [], 0, 0, 0), Bool.false)) else some (((y19.1.1, y19.1.2.1, y19.1.2.2.1, y19.1.2.2.2.1, y19.1.2.2.2.2), Bool.true)))))) else (if x1.1 = 6 then ((zf97 n ((y2.1, y2.2.1, y2.2.2.1, y2.2.2.2.1, y2.2.2.2.2), x1.2.2.2.2.2.1, x1.2.2.2.2.2.2)).bind fun y23 => (if (!y23.2) = Bool.true then some ((([], [], 0, 0, 0), Bool.false)) else ((zf121 n (y23.1.1, y23.1.2.1, y23.1.2.2.1, y23.1.2.2.2.1, y23.1.2.2.2.2)).bind fun y24 => (if (!y24) = true then some ((([], [], 0, 0, 0), Bool.false)) else some (((y23.1.1, y23.1.2.1, y23.1.2.2.1, y23.1.2.2.2.1, y23.1.2.2.2.2), Bool.true)))))) else (if x1.1 = 7 then ((zf112 n (y2.1, y2.2.1, y2.2.2.1, y2.2.2.2.1, y2.2.2.2.2)).bind fun y27 => (if (!y27.2) = Bool.true then some ((([], [], 0, 0, 0), Bool.false)) else ((zf121 n (y27.1.1, y27.1.2.1, y27.1.2.2.1, y27.1.2.2.2.1, y27.1.2.2.2.2)).bind fun y28 => (if (!y28) = true then some ((([], [], 0, 0, 0), Bool.false)) else some (((y27.1.1, y27.1.2.1, y27.1.2.2.1, y27.1.2.2.2.1, y27.1.2.2.2.2), Bool.true)))))) else some ((([], [], 0, 0, 0), Bool.false)))))))) else (if x1.1 = 2 then ((zf93 n ((y2.1, y2.2.1, y2.2.2.1, y2.2.2.2.1, y2.2.2.2.2), x1.1, x1.2.1, x1.2.2.1, x1.2.2.2.1, x1.2.2.2.2.1, x1.2.2.2.2.2.1, x1.2.2.2.2.2.2)).bind fun y29 => (if (!y29.2) = Bool.true then some ((([], [], 0, 0, 0), Bool.false)) else ((zf121 n (y29.1.1, y29.1.2.1, y29.1.2.2.1, y29.1.2.2.2.1, y29.1.2.2.2.2)).bind fun y30 => (if (!y30) = true then some ((([], [], 0, 0, 0), Bool.false)) else some (((y29.1.1, y29.1.2.1, y29.1.2.2.1, y29.1.2.2.2.1, y29.1.2.2.2.2), Bool.true)))))) else (if x1.1 = 3 then ((zf81 n x1.2.2.2.2.1).bind fun y31 => ((zf90 n ((y2.1, y2.2.1, y2.2.2.1, y2.2.2.2.1, y2.2.2.2.2), x1.2.1, x1.2.2.1, y31)).bind fun y32 => (if (!y32.2) = Bool.true then some ((([], [], 0, 0, 0), Bool.false)) else ((zf121 n (y32.1.1, y32.1.2.1, y32.1.2.2.1, y32.1.2.2.2.1, y32.1.2.2.2.2)).bind fun y33 => (if (!y33) = true then some ((([], [], 0, 0, 0), Bool.false)) else some (((y32.1.1, y32.1.2.1, y32.1.2.2.1, y32.1.2.2.2.1, y32.1.2.2.2.2), Bool.true))))))) else (if x1.1 = 4 then ((zf109 n ((y2.1, y2.2.1, y2.2.2.1, y2.2.2.2.1, y2.2.2.2.2), x1.1, x1.2.1, x1.2.2.1, x1.2.2.2.1, x1.2.2.2.2.1, x1.2.2.2.2.2.1, x1.2.2.2.2.2.2)).bind fun y34 => (if (!y34.2) = Bool.true then some ((([], [], 0, 0, 0), Bool.false)) else ((zf121 n (y34.1.1, y34.1.2.1, y34.1.2.2.1, y34.1.2.2.2.1, y34.1.2.2.2.2)).bind fun y35 => (if (!y35) = true then some ((([], [], 0, 0, 0), Bool.false)) else some (((y34.1.1, y34.1.2.1, y34.1.2.2.1, y34.1.2.2.2.1, y34.1.2.2.2.2), Bool.true)))))) else (if x1.1 = 5 then ((zf86 n ((y2.1, y2.2.1, y2.2.2.1, y2.2.2.2.1, y2.2.2.2.2), x1.2.1)).bind fun y36 => (if (!y36.2) = Bool.true then some ((([], [], 0, 0, 0), Bool.false)) else ((zf121 n (y36.1.1, y36.1.2.1, y36.1.2.2.1, y36.1.2.2.2.1, y36.1.2.2.2.2)).bind fun y37 => (if (!y37) = true then some ((([], [], 0, 0, 0), Bool.false)) else some (((y36.1.1, y36.1.2.1, y36.1.2.2.1, y36.1.2.2.2.1, y36.1.2.2.2.2), Bool.true)))))) else (if x1.1 = 6 then ((zf97 n ((y2.1, y2.2.1, y2.2.2.1, y2.2.2.2.1, y2.2.2.2.2), x1.2.2.2.2.2.1, x1.2.2.2.2.2.2)).bind fun y38 => (if (!y38.2) = Bool.true then some ((([], [], 0, 0, 0), Bool.false)) else ((zf121 n (y38.1.1, y38.1.2.1, y38.1.2.2.1, y38.1.2.2.2.1, y38.1.2.2.2.2)).bind fun y39 => (if (!y39) = true then some ((([], [], 0, 0, 0), Bool.false)) else some (((y38.1.1, y38.1.2.1, y38.1.2.2.1, y38.1.2.2.2.1, y38.1.2.2.2.2), Bool.true)))))) else (if x1.1 = 7 then ((zf112 n (y2.1, y2.2.1, y2.2.2.1, y2.2.2.2.1, y2.2.2.2.2)).bind fun y40 => (if (!y40.2) = Bool.true then some ((([], [], 0, 0, 0), Bool.false)) else ((zf121 n (y40.1.1, y40.1.2.1, y40.1.2.2.1, y40.1.2.2.2.1, y40.1.2.2.2.2)).bind fun y41 => (if (!y41) = true then some ((([], [], 0, 0, 0), Bool.false)) else some (((y40.1.1, y40.1.2.1, y40.1.2.2.1, y40.1.2.2.2.1, y40.1.2.2.2.2), Bool.true)))))) else some ((([], [], 0, 0, 0), Bool.false))))))))))) := by kernel_rfl
noncomputable abbrev zf77.sg (n : Nat) : Sig := ⟨zf77.ps, zf77.res, zf77 n⟩
theorem zf77.call : Callable Tryz.prog 72 := ⟨Tryz.f72, Tryz.func72, by kernel_rfl, by kernel_rfl⟩
theorem zf77.ok (n : Nat) : FC Tryz.prog [] 72 (zf77.sg n) :=
  evalF_ok (C := zf77.C) ⟨tb_ok, fun n _ _ h => tabOk (l := [(138, (zf80.sg n)), (139, (zf93.sg n)), (141, { params := zf81.ps, res := [.v (.slice (.int .i64))], run := zf81 n }), (140, (zf90.sg n)), (142, (zf109.sg n)), (143, (zf86.sg n)), (144, (zf97.sg n)), (145, (zf112.sg n)), (68, (zf121.sg n))]) (all_cons ⟨zf80.ok n, zf80.call⟩ (all_cons ⟨zf93.ok n, zf93.call⟩ (all_cons ⟨FC.weak (.cons (.own _ _) .nil) HEq.rfl (zf81.ok n), zf81.call⟩ (all_cons ⟨zf90.ok n, zf90.call⟩ (all_cons ⟨zf109.ok n, zf109.call⟩ (all_cons ⟨zf86.ok n, zf86.call⟩ (all_cons ⟨zf97.ok n, zf97.call⟩ (all_cons ⟨zf112.ok n, zf112.call⟩ (all_cons ⟨zf121.ok n, zf121.call⟩ (all_nil)))))))))) h, mixed, ar_ok, bld_ok, pts_ok⟩ zf77.A Tryz.func72 zf77.ps zf77.res n
abbrev zf114.ps : List Pm := [.box 136 (.v (.pair (.slice (.int .u8)) (.int .i64))), .arg (.v zt0)]
abbrev zf114.res : List M := [(.own zt1 28), .v zt0]
noncomputable def zf114.C : Cfg := { tb := tb, tab := fun n f => Refl.look [(69, (zf106.sg n)), (54, (zf115.sg n)), (72, (zf77.sg n))] f, gl := [], ar := ar, bld := bld, pts := pts }
noncomputable def zf114.A : Ann := { joins := [], loops := [(3, { live := [0, 3, 5, 6, 7], base := 36 })], ids := [(2, [(13, []), (14, [])]), (5, [(21, [])]), (6, [(25, [])]), (9, [(32, [])])], pids := [], nroots := 100 }
noncomputable def zf114 (n : Nat) (x : (List Int × Int) × List Int × List zt19 × Int × Int × Int) : Option zt2 := evalF zf114.C zf114.A Tryz.f51 zf114.ps zf114.res n x
noncomputable def zf114.K0 (_ : Nat) : Kont zt2 := finK zf114.C (Func.results Tryz.f51).toList zf114.ps zf114.res
noncomputable def zf114.K1 (n : Nat) : Kont zt2 := seqK (fun s' k => joinE zf114.A.joins (codeAt Tryz.f51 [1, 1, 1]) (fun s'' => evalC zf114.C zf114.A n (codeAt Tryz.f51 [1, 1, 1]) s'' k) s') (zf114.K0 n)
noncomputable def zf114.K2 (n : Nat) : Kont zt2 := blockK 0 (zf114.K1 n)
noncomputable def zf114.l3 (n m3 : Nat) (x7 : Int) (r0_0 : List Int) (r0_1 : Int) (r36_0 : List Int) (r36_1 : List zt19) (r36_2 r36_3 : Int) (r36_4 r37_2 : Int) (r37_3 r37_4 : Int) (r38 : List zt14) : Option zt2 := loopE (cutAt zf114.A.loops (codeAt Tryz.f51 [1, 1, 0, 1, 0, 0])) (fun s k => evalC zf114.C zf114.A n (codeAt Tryz.f51 [1, 1, 0, 1, 0, 0]) s k) m3 (St.of 36 100 [(0, .ptr 0 0 0), (3, .ptr 36 0 0), (5, .ptr 37 0 0), (6, .own 38), (7, .val (.int .i64) x7)] [(0, .box 136 [.val (.slice (.int .u8)) r0_0, .val (.int .i64) r0_1]), (36, .box 41 [.val (.slice (.int .i64)) r36_0, .val (.slice zt8) r36_1, .val (.int .i64) r36_2, .val (.int .i64) r36_3, .val (.int .i64) r36_4]), (37, .box 41 [.nils, .nils, .val (.int .i64) r37_2, .val (.int .i64) r37_3, .val (.int .i64) r37_4]), (38, .row zt1 28 r38)] [0]) (zf114.K2 n)
theorem zf114.eq (n : Nat) (x0 : List Int × Int) (x1 : List Int × List zt19 × Int × Int × Int) : zf114 n (x0, x1) = ((zf106 n ((x0.1, x0.2), List.set (List.set (List.set (List.set (List.set (List.set (List.replicate 6 0) 0 8) 1 12) 2 5) 3 18) 4 0) 5 2)).bind fun y0 => zf114.l3 n n y0.1 y0.2.1 y0.2.2 x1.1 x1.2.1 x1.2.2.1 x1.2.2.2.1 x1.2.2.2.2 (0) (0) (0) (List.replicate 0 (0, 0, 0, 0, [], 0, 0))) := by kernel_rfl
theorem zf114.l3_succ (n m3 : Nat) (x7 : Int) (r0_0 : List Int) (r0_1 : Int) (r36_0 : List Int) (r36_1 : List zt19) (r36_2 r36_3 : Int) (r36_4 r37_2 : Int) (r37_3 r37_4 : Int) (r38 : List zt14) : zf114.l3 n (m3 + 1) x7 r0_0 r0_1 r36_0 r36_1 r36_2 r36_3 r36_4 r37_2 r37_3 r37_4 r38 = (if x7 > 0 then ((zf115 n ((r0_0, r0_1), r36_0, r36_1, r36_2, r36_3, r36_4)).bind fun y1 => ((zf77 n ((r36_0, r36_1, r36_2, r36_3, r36_4), y1.1.1, y1.1.2.1, y1.1.2.2.1, y1.1.2.2.2.1, y1.1.2.2.2.2.1, y1.1.2.2.2.2.2.1, y1.1.2.2.2.2.2.2)).bind fun y2 => (if y2.2 = true then (if List.length r38 + List.length (List.set (List.replicate (1 : Nat) ((0 : Int), (0 : Int), (0 : Int), (0 : Int), [], (0 : Int), (0 : Int))) (0 : Nat) (y1.1.1, y1.1.2.1, y1.1.2.2.1, y1.1.2.2.2.1, y1.1.2.2.2.2.1, y1.1.2.2.2.2.2.1, y1.1.2.2.2.2.2.2)) ≤ Go.Refl.maxN then zf114.l3 n m3 (Go.RowKit.wrap64 (x7 - 1)) y1.2.1 y1.2.2 y2.1.1 y2.1.2.1 y2.1.2.2.1 y2.1.2.2.2.1 y2.1.2.2.2.2 (r37_2) (r37_3) (r37_4) (r38 ++ List.set (List.replicate 1 (0, 0, 0, 0, [], 0, 0)) 0 (y1.1.1, y1.1.2.1, y1.1.2.2.1, y1.1.2.2.2.1, y1.1.2.2.2.2.1, y1.1.2.2.2.2.2.1, y1.1.2.2.2.2.2.2)) else none) else zf114.l3 n m3 (Go.RowKit.wrap64 (x7 - 1)) y1.2.1 y1.2.2 (r36_0) (r36_1) (r36_2) (r36_3) (r36_4) (r37_2) (r37_3) (r37_4) (r38)))) else some ((r38, (r36_0, r36_1, r36_2, r36_3, r36_4), r0_0, r0_1))) := by kernel_rfl
noncomputable abbrev zf114.sg (n : Nat) : Sig := ⟨zf114.ps, zf114.res, zf114 n⟩
theorem zf114.call : Callable Tryz.prog 51 := ⟨Tryz.f51, Tryz.func51, by kernel_rfl, by kernel_rfl⟩
theorem zf114.ok (n : Nat) : FC Tryz.prog [] 51 (zf114.sg n) :=
  evalF_ok (C := zf114.C) ⟨tb_ok, fun n _ _ h => tabOk (l := [(69, (zf106.sg n)), (54, (zf115.sg n)), (72, (zf77.sg n))]) (all_cons ⟨zf106.ok n, zf106.call⟩ (all_cons ⟨zf115.ok n, zf115.call⟩ (all_cons ⟨zf77.ok n, zf77.call⟩ (all_nil)))) h, mixed, ar_ok, bld_ok, pts_ok⟩ zf114.A Tryz.func51 zf114.ps zf114.res n
abbrev zf75.ps : List Pm := [.box 136 (.v (.pair (.slice (.int .u8)) (.int .i64)))]
abbrev zf75.res : List M := [.v zt0, .v (.slice zt1)]
noncomputable def zf75.C : Cfg := { tb := tb, tab := fun n f => Refl.look [(52, (zf87.sg n)), (51, (zf114.sg n)), (55, (zf107.sg n)), (69, (zf106.sg n))] f, gl := [], ar := ar, bld := bld, pts := pts }
noncomputable def zf75.A : Ann := { joins := [], loops := [], ids := [(1, [(8, [])]), (4, [(19, [])]), (8, [(30, []), (32, []), (33, [])]), (10, [(42, []), (44, []), (45, [])])], pids := [], nroots := 114 }
noncomputable def zf75 (n : Nat) (x : List Int × Int) : Option (zt10 × List zt14 × List Int × Int) := evalF zf75.C zf75.A Tryz.f74 zf75.ps zf75.res n x
theorem zf75.eq (n : Nat) (x0 : List Int × Int) : zf75 n x0 = ((zf87 n (x0.1, x0.2)).bind fun y0 => ((zf114 n ((y0.2.1, y0.2.2), y0.1.1, y0.1.2.1, y0.1.2.2.1, y0.1.2.2.2.1, y0.1.2.2.2.2)).bind fun y1 => (if (↑(List.length y1.1) : Int) > 1 then ((zf107 n ((y1.2.2.1, y1.2.2.2), 10)).bind fun y2 => (if y2.1 = 0 then (if 1 ≤ (↑(List.length y1.1) : Int) then some (((y0.1.1, y0.1.2.1, y0.1.2.2.1, y0.1.2.2.2.1, y0.1.2.2.2.2), List.take (List.length y1.1 - Int.toNat 1) (List.drop (Int.toNat 1) y1.1), y2.2.1, y2.2.2)) else none) else (if y2.1 = 1 then ((zf107 n ((y2.2.1, y2.2.2), (↑(List.length y1.1) : Int))).bind fun y3 => ((zf106 n ((y3.2.1, y3.2.2), List.set (List.set (List.set (List.replicate 3 0) 0 (-1)) 1 100) 2 1)).bind fun y4 => (if 0 ≤ y3.1 then (if y3.1 < (↑(List.length y1.1) : Int) then some (((y0.1.1, y0.1.2.1, y0.1.2.2.1, y0.1.2.2.2.1, y0.1.2.2.2.2), List.set y1.1 (Int.toNat y3.1) (Prod.fst (List.getD y1.1 (Int.toNat y3.1) (0, 0, 0, 0, [], 0, 0)), y4.1, Prod.snd (Prod.snd (List.getD y1.1 (Int.toNat y3.1) (0, 0, 0, 0, [], 0, 0)))), y4.2.1, y4.2.2)) else none) else none))) else (if y2.1 = 2 then ((zf107 n ((y2.2.1, y2.2.2), (↑(List.length y1.1) : Int))).bind fun y5 => ((zf106 n ((y5.2.1, y5.2.2), List.set (List.set (List.set (List.replicate 3 0) 0 (-1)) 1 1000001) 2 3)).bind fun y6 => (if 0 ≤ y5.1 then (if y5.1 < (↑(List.length y1.1) : Int) then some (((y0.1.1, y0.1.2.1, y0.1.2.2.1, y0.1.2.2.2.1, y0.1.2.2.2.2), List.set y1.1 (Int.toNat y5.1) (Prod.fst (List.getD y1.1 (Int.toNat y5.1) (0, 0, 0, 0, [], 0, 0)), Prod.fst (Prod.snd (List.getD y1.1 (Int.toNat y5.1) (0, 0, 0, 0, [], 0, 0))), y6.1, Prod.snd (Prod.snd (Prod.snd (List.getD y1.1 (Int.toNat y5.1) (0, 0, 0, 0, [], 0, 0))))), y6.2.1, y6.2.2)) else none) else none))) else some (((y0.1.1, y0.1.2.1, y0.1.2.2.1, y0.1.2.2.2.1, y0.1.2.2.2.2), y1.1, y2.2.1, y2.2.2)))))) else some (((y0.1.1, y0.1.2.1, y0.1.2.2.1, y0.1.2.2.2.1, y0.1.2.2.2.2), y1.1, y1.2.2.1, y1.2.2.2))))) := by kernel_rfl
noncomputable abbrev zf75.sg (n : Nat) : Sig := ⟨zf75.ps, zf75.res, zf75 n⟩
theorem zf75.call : Callable Tryz.prog 74 := ⟨Tryz.f74, Tryz.func74, by kernel_rfl, by kernel_rfl⟩
theorem zf75.ok (n : Nat) : FC Tryz.prog [] 74 (zf75.sg n) :=
  evalF_ok (C := zf75.C) ⟨tb_ok, fun n _ _ h => tabOk (l := [(52, (zf87.sg n)), (51, (zf114.sg n)), (55, (zf107.sg n)), (69, (zf106.sg n))]) (all_cons ⟨zf87.ok n, zf87.call⟩ (all_cons ⟨zf114.ok n, zf114.call⟩ (all_cons ⟨zf107.ok n, zf107.call⟩ (all_cons ⟨zf106.ok n, zf106.call⟩ (all_nil))))) h, mixed, ar_ok, bld_ok, pts_ok⟩ zf75.A Tryz.func74 zf75.ps zf75.res n
abbrev zf98.ps : List Pm := [.arg (.v (.int .i64))]
abbrev zf98.res : List M := [.v .str]
noncomputable def zf98.C (self : pdens zf98.ps → Option (dens (zf98.res ++ outs zf98.ps))) : Cfg := { tb := tb, tab := fun n f => Refl.look [(111, { params := zf98.ps, res := zf98.res, run := self })] f, gl := [], ar := ar, bld := bld, pts := pts }
noncomputable def zf98.A : Ann := { joins := [], loops := [], ids := [(3, [(11, []), (14, [])])], pids := [], nroots := 80 }
noncomputable def zf98.S (self : Int → Option ByteArray) (n : Nat) (x : Int) : Option (ByteArray) := evalF (zf98.C self) zf98.A Tryz.f111 zf98.ps zf98.res n x
noncomputable def zf98 (n : Nat) : Int → Option (ByteArray) := Nat.rec (fun _ => none) (fun n self => zf98.S self n) n
theorem zf98.zero (x : Int) : zf98 0 x = none := rfl
theorem zf98.succ (n : Nat) (x : Int) : zf98 (n + 1) x = zf98.S (zf98 n) n x := by kernel_rfl
theorem zf98.eq (self : Int → Option ByteArray) (n : Nat) (x0 : Int) : zf98.S self n x0 = (if x0 < 10 then (if 0 ≤ x0 then (if x0 ≤ Go.RowKit.wrap64 (x0 + 1) then (if Go.RowKit.wrap64 (x0 + 1) ≤ (↑(ByteArray.size { data := #[(48 : UInt8), (49 : UInt8), (50 : UInt8), (51 : UInt8), (52 : UInt8), (53 : UInt8), (54 : UInt8), (55 : UInt8), (56 : UInt8), (57 : UInt8)] }) : Int) then some (ByteArray.extract { data := #[(48 : UInt8), (49 : UInt8), (50 : UInt8), (51 : UInt8), (52 : UInt8), (53 : UInt8), (54 : UInt8), (55 : UInt8), (56 : UInt8), (57 : UInt8)] } (Int.toNat x0) (Int.toNat (Go.RowKit.wrap64 (x0 + 1)))) else none) else none) else none) else ((self (Go.RowKit.wrap64 (Int.tdiv x0 10))).bind fun y0 => ((self (Int.tmod x0 10)).bind fun y1 => (if ByteArray.size y0 + ByteArray.size y1 ≤ Go.Refl.maxN then some (y0 ++ y1) else none)))) := by kernel_rfl
noncomputable abbrev zf98.sg (n : Nat) : Sig := ⟨zf98.ps, zf98.res, zf98 n⟩
theorem zf98.call : Callable Tryz.prog 111 := ⟨Tryz.f111, Tryz.func111, by kernel_rfl, by kernel_rfl⟩
theorem zf98.okS {self : pdens zf98.ps → Option (dens (zf98.res ++ outs zf98.ps))} (hs : FC Tryz.prog [] 111 { params := zf98.ps, res := zf98.res, run := self }) (n : Nat) : FC Tryz.prog [] 111 { params := zf98.ps, res := zf98.res, run := zf98.S self n } :=
  evalF_ok (C := zf98.C self) ⟨tb_ok, fun n _ _ h => tabOk (l := [(111, { params := zf98.ps, res := zf98.res, run := self })]) (all_cons ⟨hs, zf98.call⟩ (all_nil)) h, mixed, ar_ok, bld_ok, pts_ok⟩ zf98.A Tryz.func111 zf98.ps zf98.res n
theorem zf98.ok : (n : Nat) → FC Tryz.prog [] 111 (zf98.sg n)
  | 0 => fun _ _ h => by cases h
  | n + 1 => zf98.okS (zf98.ok n) n
abbrev zf92.ps : List Pm := [.arg (.v (.int .i64))]
abbrev zf92.res : List M := [.v .str]
noncomputable def zf92.C : Cfg := { tb := tb, tab := fun n f => Refl.look [(111, (zf98.sg n))] f, gl := [], ar := ar, bld := bld, pts := pts }
noncomputable def zf92.A : Ann := { joins := [], loops := [], ids := [(1, [(5, []), (10, []), (14, [])])], pids := [], nroots := 80 }
noncomputable def zf92 (n : Nat) (x : Int) : Option (ByteArray) := evalF zf92.C zf92.A Tryz.f114 zf92.ps zf92.res n x
theorem zf92.eq (n : Nat) (x0 : Int) : zf92 n x0 = ((zf98 n (Go.RowKit.wrap64 (Int.tdiv x0 100))).bind fun y0 => (if ByteArray.size y0 + ByteArray.size { data := #[(46 : UInt8)] } ≤ Go.Refl.maxN then ((zf98 n (Int.tmod (Go.RowKit.wrap64 (Int.tdiv x0 10)) 10)).bind fun y1 => (if ByteArray.size (y0 ++ { data := #[(46 : UInt8)] }) + ByteArray.size y1 ≤ Go.Refl.maxN then ((zf98 n (Int.tmod x0 10)).bind fun y2 => (if ByteArray.size (y0 ++ { data := #[(46 : UInt8)] } ++ y1) + ByteArray.size y2 ≤ Go.Refl.maxN then some (y0 ++ { data := #[(46 : UInt8)] } ++ y1 ++ y2) else none)) else none)) else none)) := by kernel_rfl
noncomputable abbrev zf92.sg (n : Nat) : Sig := ⟨zf92.ps, zf92.res, zf92 n⟩
theorem zf92.call : Callable Tryz.prog 114 := ⟨Tryz.f114, Tryz.func114, by kernel_rfl, by kernel_rfl⟩
theorem zf92.ok (n : Nat) : FC Tryz.prog [] 114 (zf92.sg n) :=
  evalF_ok (C := zf92.C) ⟨tb_ok, fun n _ _ h => tabOk (l := [(111, (zf98.sg n))]) (all_cons ⟨zf98.ok n, zf98.call⟩ (all_nil)) h, mixed, ar_ok, bld_ok, pts_ok⟩ zf92.A Tryz.func114 zf92.ps zf92.res n
abbrev zf113.ps : List Pm := [.arg (.v zt1)]
abbrev zf113.res : List M := [.v .str]
noncomputable def zf113.C : Cfg := { tb := tb, tab := fun n f => Refl.look [(110, (zf124.sg n)), (111, (zf98.sg n)), (112, (zf89.sg n)), (113, (zf120.sg n)), (114, (zf92.sg n))] f, gl := [], ar := ar, bld := bld, pts := pts }
noncomputable def zf113.A : Ann := { joins := [], loops := [(27, { live := [1, 3, 4], base := 120 })], ids := [(7, [(15, [])]), (8, [(19, []), (25, [])]), (10, [(29, [])]), (13, [(36, [])]), (14, [(40, [])]), (18, [(48, []), (53, [])]), (20, [(59, []), (64, [])]), (22, [(70, [])]), (23, [(73, []), (78, []), (83, [])]), (25, [(89, []), (94, [])]), (29, [(108, [])]), (31, [(117, [])])], pids := [], nroots := 184 }
noncomputable def zf113 (n : Nat) (x : Int × Int × Int × Int × List Int × Int × Int) : Option (ByteArray) := evalF zf113.C zf113.A Tryz.f53 zf113.ps zf113.res n x
noncomputable def zf113.K0 (_ : Nat) : Kont (ByteArray) := finK zf113.C (Func.results Tryz.f53).toList zf113.ps zf113.res
noncomputable def zf113.K1 (n : Nat) : Kont (ByteArray) := seqK (fun s' k => joinE zf113.A.joins (codeAt Tryz.f53 [1, 1, 1, 1, 1, 1]) (fun s'' => evalC zf113.C zf113.A n (codeAt Tryz.f53 [1, 1, 1, 1, 1, 1]) s'' k) s') (zf113.K0 n)
noncomputable def zf113.K2 (n : Nat) : Kont (ByteArray) := blockK 1 (zf113.K1 n)
noncomputable def zf113.K3 (n : Nat) : Kont (ByteArray) := seqK (fun s' k => joinE zf113.A.joins (codeAt Tryz.f53 [1, 1, 1, 1, 1, 0, 1, 0, 1, 1, 1, 1, 1, 1, 1, 0, 1, 1]) (fun s'' => evalC zf113.C zf113.A n (codeAt Tryz.f53 [1, 1, 1, 1, 1, 0, 1, 0, 1, 1, 1, 1, 1, 1, 1, 0, 1, 1]) s'' k) s') (zf113.K2 n)
noncomputable def zf113.K4 (n : Nat) : Kont (ByteArray) := blockK 2 (zf113.K3 n)
noncomputable def zf113.l27 (n m27 : Nat) (x3 : ByteArray) (x4 r120_0 : Int) (r120_1 r120_2 r120_3 : Int) (r120_4 : List Int) (r120_5 r120_6 : Int) : Option (ByteArray) := loopE (cutAt zf113.A.loops (codeAt Tryz.f53 [1, 1, 1, 1, 1, 0, 1, 0, 1, 1, 1, 1, 1, 1, 1, 0, 1, 0, 1, 0, 0])) (fun s k => evalC zf113.C zf113.A n (codeAt Tryz.f53 [1, 1, 1, 1, 1, 0, 1, 0, 1, 1, 1, 1, 1, 1, 1, 0, 1, 0, 1, 0, 0]) s k) m27 (St.of 120 184 [(1, .ptr 120 0 0), (3, .val .str x3), (4, .val (.int .i64) x4)] [(120, .box 28 [.val (.int .i64) r120_0, .val (.int .i64) r120_1, .val (.int .i64) r120_2, .val (.int .i64) r120_3, .val (.slice (.int .i64)) r120_4, .val (.int .i64) r120_5, .val (.int .i64) r120_6])] []) (zf113.K4 n)
theorem zf113.eq (n : Nat) (x0 : Int × Int × Int × Int × List Int × Int × Int) : zf113 n x0 = (if x0.1 = 0 then some ({ data := #[(106 : UInt8), (111 : UInt8), (105 : UInt8), (110 : UInt8)] }) else (if x0.1 = 7 then some ({ data := #[(115 : UInt8), (104 : UInt8), (97 : UInt8), (114 : UInt8), (101 : UInt8)] }) else (if x0.1 = 6 then ((zf124 n (x0.2.2.2.2.2.1, x0.2.2.2.2.2.2)).bind fun y0 => (if (y0) = true then ((zf98 n x0.2.2.2.2.2.1).bind fun y1 => (if ByteArray.size { data := #[(110 : UInt8), (105 : UInt8), (103 : UInt8), (104 : UInt8), (116 : UInt8), (32 : UInt8)] } + ByteArray.size y1 ≤ Go.Refl.maxN then (if ByteArray.size ({ data := #[(110 : UInt8), (105 : UInt8), (103 : UInt8), (104 : UInt8), (116 : UInt8), (32 : UInt8)] } ++ y1) + ByteArray.size { data := #[(32 : UInt8)] } ≤ Go.Refl.maxN then ((zf98 n x0.2.2.2.2.2.2).bind fun y2 => (if ByteArray.size ({ data := #[(110 : UInt8), (105 : UInt8), (103 : UInt8), (104 : UInt8), (116 : UInt8), (32 : UInt8)] } ++ y1 ++ { data := #[(32 : UInt8)] }) + ByteArray.size y2 ≤ Go.Refl.maxN then some ({ data := #[(110 : UInt8), (105 : UInt8), (103 : UInt8), (104 : UInt8), (116 : UInt8), (32 : UInt8)] } ++ y1 ++ { data := #[(32 : UInt8)] } ++ y2) else none)) else none) else none)) else some ({ data := #[] }))) else ((zf89 n (x0.2.1, 0, 99)).bind fun y3 => (if (!y3) = true then some ({ data := #[] }) else (if x0.1 = 5 then ((zf98 n x0.2.1).bind fun y4 => (if ByteArray.size { data := #[(102 : UInt8), (97 : UInt8), (105 : UInt8), (108 : UInt8), (32 : UInt8)] } + ByteArray.size y4 ≤ Go.Refl.maxN then some ({ data := #[(102 : UInt8), (97 : UInt8), (105 : UInt8), (108 : UInt8), (32 : UInt8)] } ++ y4) else none)) else ((zf120 n x0.2.2.1).bind fun y5 => (if (!y5) = true then some ({ data := #[] }) else (if x0.1 = 1 then ((zf98 n x0.2.1).bind fun y6 => (if ByteArray.size { data := #[(115 : UInt8), (97 : UInt8), (118 : UInt8), (101 : UInt8), (32 : UInt8)] } + ByteArray.size y6 ≤ Go.Refl.maxN then (if ByteArray.size ({ data := #[(115 : UInt8), (97 : UInt8), (118 : UInt8), (101 : UInt8), (32 : UInt8)] } ++ y6) + ByteArray.size { data := #[(32 : UInt8)] } ≤ Go.Refl.maxN then ((zf92 n x0.2.2.1).bind fun y7 => (if ByteArray.size ({ data := #[(115 : UInt8), (97 : UInt8), (118 : UInt8), (101 : UInt8), (32 : UInt8)] } ++ y6 ++ { data := #[(32 : UInt8)] }) + ByteArray.size y7 ≤ Go.Refl.maxN then some ({ data := #[(115 : UInt8), (97 : UInt8), (118 : UInt8), (101 : UInt8), (32 : UInt8)] } ++ y6 ++ { data := #[(32 : UInt8)] } ++ y7) else none)) else none) else none)) else (if x0.1 = 2 then ((zf98 n x0.2.1).bind fun y8 => (if ByteArray.size { data := #[(116 : UInt8), (97 : UInt8), (107 : UInt8), (101 : UInt8), (32 : UInt8)] } + ByteArray.size y8 ≤ Go.Refl.maxN then (if ByteArray.size ({ data := #[(116 : UInt8), (97 : UInt8), (107 : UInt8), (101 : UInt8), (32 : UInt8)] } ++ y8) + ByteArray.size { data := #[(32 : UInt8)] } ≤ Go.Refl.maxN then ((zf92 n x0.2.2.1).bind fun y9 => (if ByteArray.size ({ data := #[(116 : UInt8), (97 : UInt8), (107 : UInt8), (101 : UInt8), (32 : UInt8)] } ++ y8 ++ { data := #[(32 : UInt8)] }) + ByteArray.size y9 ≤ Go.Refl.maxN then some ({ data := #[(116 : UInt8), (97 : UInt8), (107 : UInt8), (101 : UInt8), (32 : UInt8)] } ++ y8 ++ { data := #[(32 : UInt8)] } ++ y9) else none)) else none) else none)) else (if x0.1 = 4 then ((zf120 n x0.2.2.2.1).bind fun y10 => (if (y10) = true then ((zf98 n x0.2.1).bind fun y11 => (if ByteArray.size { data := #[(114 : UInt8), (101 : UInt8), (112 : UInt8), (97 : UInt8), (121 : UInt8), (32 : UInt8)] } + ByteArray.size y11 ≤ Go.Refl.maxN then (if ByteArray.size ({ data := #[(114 : UInt8), (101 : UInt8), (112 : UInt8), (97 : UInt8), (121 : UInt8), (32 : UInt8)] } ++ y11) + ByteArray.size { data := #[(32 : UInt8)] } ≤ Go.Refl.maxN then ((zf92 n x0.2.2.1).bind fun y12 => (if ByteArray.size ({ data := #[(114 : UInt8), (101 : UInt8), (112 : UInt8), (97 : UInt8), (121 : UInt8), (32 : UInt8)] } ++ y11 ++ { data := #[(32 : UInt8)] }) + ByteArray.size y12 ≤ Go.Refl.maxN then (if ByteArray.size ({ data := #[(114 : UInt8), (101 : UInt8), (112 : UInt8), (97 : UInt8), (121 : UInt8), (32 : UInt8)] } ++ y11 ++ { data := #[(32 : UInt8)] } ++ y12) + ByteArray.size { data := #[(32 : UInt8)] } ≤ Go.Refl.maxN then ((zf92 n x0.2.2.2.1).bind fun y13 => (if ByteArray.size ({ data := #[(114 : UInt8), (101 : UInt8), (112 : UInt8), (97 : UInt8), (121 : UInt8), (32 : UInt8)] } ++ y11 ++ { data := #[(32 : UInt8)] } ++ y12 ++ { data := #[(32 : UInt8)] }) + ByteArray.size y13 ≤ Go.Refl.maxN then some ({ data := #[(114 : UInt8), (101 : UInt8), (112 : UInt8), (97 : UInt8), (121 : UInt8), (32 : UInt8)] } ++ y11 ++ { data := #[(32 : UInt8)] } ++ y12 ++ { data := #[(32 : UInt8)] } ++ y13) else none)) else none) else none)) else none) else none)) else some ({ data := #[] }))) else (if x0.1 = 3 then ((zf98 n x0.2.1).bind fun y14 => (if ByteArray.size { data := #[(108 : UInt8), (101 : UInt8), (110 : UInt8), (100 : UInt8), (32 : UInt8)] } + ByteArray.size y14 ≤ Go.Refl.maxN then (if ByteArray.size ({ data := #[(108 : UInt8), (101 : UInt8), (110 : UInt8), (100 : UInt8), (32 : UInt8)] } ++ y14) + ByteArray.size { data := #[(32 : UInt8)] } ≤ Go.Refl.maxN then ((zf92 n x0.2.2.1).bind fun y15 => (if ByteArray.size ({ data := #[(108 : UInt8), (101 : UInt8), (110 : UInt8), (100 : UInt8), (32 : UInt8)] } ++ y14 ++ { data := #[(32 : UInt8)] }) + ByteArray.size y15 ≤ Go.Refl.maxN then zf113.l27 n n ({ data := #[(108 : UInt8), (101 : UInt8), (110 : UInt8), (100 : UInt8), (32 : UInt8)] } ++ y14 ++ { data := #[(32 : UInt8)] } ++ y15) (0) x0.1 x0.2.1 x0.2.2.1 x0.2.2.2.1 x0.2.2.2.2.1 x0.2.2.2.2.2.1 x0.2.2.2.2.2.2 else none)) else none) else none)) else some ({ data := #[] }))))))))))))) := by kernel_rfl
theorem zf113.l27_succ (n m27 : Nat) (x3 : ByteArray) (x4 r120_0 : Int) (r120_1 r120_2 r120_3 : Int) (r120_4 : List Int) (r120_5 r120_6 : Int) : zf113.l27 n (m27 + 1) x3 x4 r120_0 r120_1 r120_2 r120_3 r120_4 r120_5 r120_6 = (if x4 < (↑(List.length r120_4) : Int) then (if 0 ≤ x4 then (if x4 < (↑(List.length r120_4) : Int) then ((zf89 n (List.getD r120_4 (Int.toNat x4) 0, 0, 99)).bind fun y16 => (if (!y16) = true then some ({ data := #[] }) else (if ByteArray.size x3 + ByteArray.size { data := #[(32 : UInt8)] } ≤ Go.Refl.maxN then (if 0 ≤ x4 then (if x4 < (↑(List.length r120_4) : Int) then ((zf98 n (List.getD r120_4 (Int.toNat x4) 0)).bind fun y17 => (if ByteArray.size (x3 ++ { data := #[(32 : UInt8)] }) + ByteArray.size y17 ≤ Go.Refl.maxN then zf113.l27 n m27 (x3 ++ { data := #[(32 : UInt8)] } ++ y17) (Go.RowKit.wrap64 (x4 + 1)) (r120_0) (r120_1) (r120_2) (r120_3) (r120_4) (r120_5) (r120_6) else none)) else none) else none) else none))) else none) else none) else some (x3)) := by kernel_rfl
noncomputable abbrev zf113.sg (n : Nat) : Sig := ⟨zf113.ps, zf113.res, zf113 n⟩
theorem zf113.call : Callable Tryz.prog 53 := ⟨Tryz.f53, Tryz.func53, by kernel_rfl, by kernel_rfl⟩
theorem zf113.ok (n : Nat) : FC Tryz.prog [] 53 (zf113.sg n) :=
  evalF_ok (C := zf113.C) ⟨tb_ok, fun n _ _ h => tabOk (l := [(110, (zf124.sg n)), (111, (zf98.sg n)), (112, (zf89.sg n)), (113, (zf120.sg n)), (114, (zf92.sg n))]) (all_cons ⟨zf124.ok n, zf124.call⟩ (all_cons ⟨zf98.ok n, zf98.call⟩ (all_cons ⟨zf89.ok n, zf89.call⟩ (all_cons ⟨zf120.ok n, zf120.call⟩ (all_cons ⟨zf92.ok n, zf92.call⟩ (all_nil)))))) h, mixed, ar_ok, bld_ok, pts_ok⟩ zf113.A Tryz.func53 zf113.ps zf113.res n
abbrev zf69.ps : List Pm := [.arg (.v (.slice zt1))]
abbrev zf69.res : List M := [.v .str]
noncomputable def zf69.C : Cfg := { tb := tb, tab := fun n f => Refl.look [(53, (zf113.sg n))] f, gl := [], ar := ar, bld := bld, pts := pts }
noncomputable def zf69.A : Ann := { joins := [], loops := [(5, { live := [0, 3, 4], base := 29 })], ids := [(7, [(18, [])]), (9, [(25, [])])], pids := [], nroots := 93 }
noncomputable def zf69 (n : Nat) (x : List zt14) : Option (ByteArray) := evalF zf69.C zf69.A Tryz.f123 zf69.ps zf69.res n x
noncomputable def zf69.K0 (_ : Nat) : Kont (ByteArray) := finK zf69.C (Func.results Tryz.f123).toList zf69.ps zf69.res
noncomputable def zf69.K1 (n : Nat) : Kont (ByteArray) := seqK (fun s' k => joinE zf69.A.joins (codeAt Tryz.f123 [1, 1, 1, 1]) (fun s'' => evalC zf69.C zf69.A n (codeAt Tryz.f123 [1, 1, 1, 1]) s'' k) s') (zf69.K0 n)
noncomputable def zf69.K2 (n : Nat) : Kont (ByteArray) := blockK 0 (zf69.K1 n)
noncomputable def zf69.l5 (n m5 : Nat) (x0 : List zt14) (x3 : ByteArray) (x4 : Int) : Option (ByteArray) := loopE (cutAt zf69.A.loops (codeAt Tryz.f123 [1, 1, 1, 0, 1, 0, 0])) (fun s k => evalC zf69.C zf69.A n (codeAt Tryz.f123 [1, 1, 1, 0, 1, 0, 0]) s k) m5 (St.of 29 93 [(0, .val (.slice zt1) x0), (3, .val .str x3), (4, .val (.int .i64) x4)] [] []) (zf69.K2 n)
theorem zf69.eq (n : Nat) (x0 : List zt14) : zf69 n x0 = (if (↑(List.length x0) : Int) > 30 then some ({ data := #[] }) else zf69.l5 n n (x0) ({ data := #[] }) (0)) := by kernel_rfl
theorem zf69.l5_succ (n m5 : Nat) (x0 : List zt14) (x3 : ByteArray) (x4 : Int) : zf69.l5 n (m5 + 1) x0 x3 x4 = (if x4 < (↑(List.length x0) : Int) then (if 0 ≤ x4 then (if x4 < (↑(List.length x0) : Int) then ((zf113 n (List.getD x0 (Int.toNat x4) (0, 0, 0, 0, [], 0, 0))).bind fun y0 => (if y0 = { data := #[] } then some ({ data := #[] }) else (if 0 ≤ x4 then (if x4 < (↑(List.length x0) : Int) then ((zf113 n (List.getD x0 (Int.toNat x4) (0, 0, 0, 0, [], 0, 0))).bind fun y1 => (if ByteArray.size x3 + ByteArray.size y1 ≤ Go.Refl.maxN then (if ByteArray.size (x3 ++ y1) + ByteArray.size { data := #[(10 : UInt8)] } ≤ Go.Refl.maxN then zf69.l5 n m5 (x0) (x3 ++ y1 ++ { data := #[(10 : UInt8)] }) (Go.RowKit.wrap64 (x4 + 1)) else none) else none)) else none) else none))) else none) else none) else some (x3)) := by kernel_rfl
noncomputable abbrev zf69.sg (n : Nat) : Sig := ⟨zf69.ps, zf69.res, zf69 n⟩
theorem zf69.call : Callable Tryz.prog 123 := ⟨Tryz.f123, Tryz.func123, by kernel_rfl, by kernel_rfl⟩
theorem zf69.ok (n : Nat) : FC Tryz.prog [] 123 (zf69.sg n) :=
  evalF_ok (C := zf69.C) ⟨tb_ok, fun n _ _ h => tabOk (l := [(53, (zf113.sg n))]) (all_cons ⟨zf113.ok n, zf113.call⟩ (all_nil)) h, mixed, ar_ok, bld_ok, pts_ok⟩ zf69.A Tryz.func123 zf69.ps zf69.res n
abbrev zf105.ps : List Pm := [.box 136 (.v (.pair (.slice (.int .u8)) (.int .i64))), .arg (.v (.slice .str))]
abbrev zf105.res : List M := [.v .str]
noncomputable def zf105.C : Cfg := { tb := tb, tab := fun n f => Refl.look [(55, (zf107.sg n))] f, gl := [], ar := ar, bld := bld, pts := pts }
noncomputable def zf105.A : Ann := { joins := [], loops := [], ids := [(1, [(9, [])])], pids := [], nroots := 76 }
noncomputable def zf105 (n : Nat) (x : (List Int × Int) × List ByteArray) : Option (ByteArray × List Int × Int) := evalF zf105.C zf105.A Tryz.f96 zf105.ps zf105.res n x
theorem zf105.eq (n : Nat) (x0 : List Int × Int) (x1 : List ByteArray) : zf105 n (x0, x1) = ((zf107 n ((x0.1, x0.2), (↑(List.length x1) : Int))).bind fun y0 => (if 0 ≤ y0.1 then (if y0.1 < (↑(List.length x1) : Int) then some ((List.getD x1 (Int.toNat y0.1) ByteArray.empty, y0.2.1, y0.2.2)) else none) else none)) := by kernel_rfl
noncomputable abbrev zf105.sg (n : Nat) : Sig := ⟨zf105.ps, zf105.res, zf105 n⟩
theorem zf105.call : Callable Tryz.prog 96 := ⟨Tryz.f96, Tryz.func96, by kernel_rfl, by kernel_rfl⟩
theorem zf105.ok (n : Nat) : FC Tryz.prog [] 96 (zf105.sg n) :=
  evalF_ok (C := zf105.C) ⟨tb_ok, fun n _ _ h => tabOk (l := [(55, (zf107.sg n))]) (all_cons ⟨zf107.ok n, zf107.call⟩ (all_nil)) h, mixed, ar_ok, bld_ok, pts_ok⟩ zf105.A Tryz.func96 zf105.ps zf105.res n
abbrev zf94.ps : List Pm := [.box 136 (.v (.pair (.slice (.int .u8)) (.int .i64))), .arg (.v .str)]
abbrev zf94.res : List M := [.v .str]
noncomputable def zf94.C : Cfg := { tb := tb, tab := fun n f => Refl.look [(55, (zf107.sg n)), (96, (zf105.sg n))] f, gl := [], ar := ar, bld := bld, pts := pts }
noncomputable def zf94.A : Ann := { joins := [(5, { live := [0, 1, 5, 12, 13], base := 45 })], loops := [], ids := [(1, [(9, [777777]), (10, [])]), (2, [(12, [])]), (6, [(24, []), (25, []), (29, [777777])]), (10, [(41, []), (42, [])])], pids := [], nroots := 109 }
noncomputable def zf94 (n : Nat) (x : (List Int × Int) × ByteArray) : Option (ByteArray × List Int × Int) := evalF zf94.C zf94.A Tryz.f56 zf94.ps zf94.res n x
noncomputable def zf94.K0 (_ : Nat) : Kont (ByteArray × List Int × Int) := finK zf94.C (Func.results Tryz.f56).toList zf94.ps zf94.res
noncomputable def zf94.K1 (n : Nat) : Kont (ByteArray × List Int × Int) := seqK (fun s' k => joinE zf94.A.joins (codeAt Tryz.f56 [1, 1, 1]) (fun s'' => evalC zf94.C zf94.A n (codeAt Tryz.f56 [1, 1, 1]) s'' k) s') (zf94.K0 n)
noncomputable def zf94.K2 (n : Nat) : Kont (ByteArray × List Int × Int) := blockK 0 (zf94.K1 n)
noncomputable def zf94.j5 (n : Nat) (x1 : ByteArray) (x5 x12 : Int) (x13 : Bool) (r0_0 : List Int) (r0_1 : Int) : Option (ByteArray × List Int × Int) := holdF (fun s => evalC zf94.C zf94.A n (codeAt Tryz.f56 [1, 1, 0, 1, 0, 1]) s (zf94.K2 n)) (St.of 45 109 [(0, .ptr 0 0 0), (1, .val .str x1), (5, .val (.int .i64) x5), (12, .val (.int .i64) x12), (13, .val .bool x13)] [(0, .box 136 [.val (.slice (.int .u8)) r0_0, .val (.int .i64) r0_1])] [0])
theorem zf94.eq (n : Nat) (x0 : List Int × Int) (x1 : ByteArray) : zf94 n (x0, x1) = ((Go.Refl.veilO (Go.RowKit.wrap64 ((↑(ByteArray.size x1) : Int) + 1))).bind fun y0 => ((zf107 n ((x0.1, x0.2), y0)).bind fun y1 => ((zf107 n ((y1.2.1, y1.2.2), 5)).bind fun y2 => (if y2.1 = 0 then zf94.j5 n (x1) y1.1 y2.1 (Decidable.decide (y2.1 = 0)) y2.2.1 y2.2.2 else zf94.j5 n (x1) y1.1 y2.1 (Decidable.decide (y2.1 = 1)) y2.2.1 y2.2.2)))) := by kernel_rfl
theorem zf94.j5_eq (n : Nat) (x1 : ByteArray) (x5 x12 : Int) (x13 : Bool) (r0_0 : List Int) (r0_1 : Int) : zf94.j5 n x1 x5 x12 x13 r0_0 r0_1 = (if (x13) = true then (if x5 < (↑(ByteArray.size x1) : Int) then (if 0 ≤ x5 then (if x5 ≤ (↑(ByteArray.size x1) : Int) then ((zf105 n ((r0_0, r0_1), List.set (List.set (List.set (List.set (List.set (List.set (List.set (List.replicate 7 ByteArray.empty) 0 { data := #[(48 : UInt8)] }) 1 { data := #[(49 : UInt8)] }) 2 { data := #[(32 : UInt8)] }) 3 { data := #[(46 : UInt8)] }) 4 { data := #[(115 : UInt8)] }) 5 { data := #[(10 : UInt8)] }) 6 { data := #[(57 : UInt8)] })).bind fun y3 => (if ByteArray.size (ByteArray.extract x1 0 (Int.toNat x5)) + ByteArray.size y3.1 ≤ Go.Refl.maxN then ((Go.Refl.veilO (Go.RowKit.wrap64 (x5 + 1))).bind fun y4 => (if 0 ≤ y4 then (if y4 ≤ (↑(ByteArray.size x1) : Int) then (if ByteArray.size (ByteArray.extract x1 0 (Int.toNat x5) ++ y3.1) + ByteArray.size (ByteArray.extract x1 (Int.toNat y4) (ByteArray.size x1)) ≤ Go.Refl.maxN then some ((ByteArray.extract x1 0 (Int.toNat x5) ++ y3.1 ++ ByteArray.extract x1 (Int.toNat y4) (ByteArray.size x1), y3.2.1, y3.2.2)) else none) else none) else none)) else none)) else none) else none) else some ((x1, r0_0, r0_1))) else (if x12 = 2 then (if 0 ≤ x5 then (if x5 ≤ (↑(ByteArray.size x1) : Int) then some ((ByteArray.extract x1 0 (Int.toNat x5), r0_0, r0_1)) else none) else none) else (if x12 = 3 then ((zf105 n ((r0_0, r0_1), List.set (List.set (List.set (List.set (List.replicate 4 ByteArray.empty) 0 { data := #[(48 : UInt8)] }) 1 { data := #[(32 : UInt8)] }) 2 { data := #[(10 : UInt8)] }) 3 { data := #[(120 : UInt8)] })).bind fun y5 => (if ByteArray.size x1 + ByteArray.size y5.1 ≤ Go.Refl.maxN then some ((x1 ++ y5.1, y5.2.1, y5.2.2)) else none)) else some ((x1, r0_0, r0_1))))) := (holdF_eq _ _).trans (by kernel_rfl)
noncomputable abbrev zf94.sg (n : Nat) : Sig := ⟨zf94.ps, zf94.res, zf94 n⟩
theorem zf94.call : Callable Tryz.prog 56 := ⟨Tryz.f56, Tryz.func56, by kernel_rfl, by kernel_rfl⟩
theorem zf94.ok (n : Nat) : FC Tryz.prog [] 56 (zf94.sg n) :=
  evalF_ok (C := zf94.C) ⟨tb_ok, fun n _ _ h => tabOk (l := [(55, (zf107.sg n)), (96, (zf105.sg n))]) (all_cons ⟨zf107.ok n, zf107.call⟩ (all_cons ⟨zf105.ok n, zf105.call⟩ (all_nil))) h, mixed, ar_ok, bld_ok, pts_ok⟩ zf94.A Tryz.func56 zf94.ps zf94.res n
abbrev zf78.ps : List Pm := [.box 136 (.v (.pair (.slice (.int .u8)) (.int .i64)))]
abbrev zf78.res : List M := [.v zt0, .v .str]
noncomputable def zf78.C : Cfg := { tb := tb, tab := fun n f => Refl.look [(74, (zf75.sg n)), (123, (zf69.sg n)), (55, (zf107.sg n)), (56, (zf94.sg n))] f, gl := [], ar := ar, bld := bld, pts := pts }
noncomputable def zf78.A : Ann := { joins := [], loops := [], ids := [(1, [(9, [])]), (2, [(13, [])]), (3, [(15, [])]), (5, [(21, [])]), (7, [(29, [777777]), (30, [])])], pids := [], nroots := 98 }
noncomputable def zf78 (n : Nat) (x : List Int × Int) : Option (zt10 × ByteArray × List Int × Int) := evalF zf78.C zf78.A Tryz.f62 zf78.ps zf78.res n x
theorem zf78.eq (n : Nat) (x0 : List Int × Int) : zf78 n x0 = ((zf75 n (x0.1, x0.2)).bind fun y0 => ((zf69 n y0.2.1).bind fun y1 => ((zf107 n ((y0.2.2.1, y0.2.2.2), 4)).bind fun y2 => (if y2.1 = 0 then ((zf94 n ((y2.2.1, y2.2.2), y1)).bind fun y3 => some (((y0.1.1, y0.1.2.1, y0.1.2.2.1, y0.1.2.2.2.1, y0.1.2.2.2.2), y3.1, y3.2.1, y3.2.2))) else (if y2.1 = 1 then ((Go.Refl.veilO (Go.RowKit.wrap64 ((↑(ByteArray.size y1) : Int) + 1))).bind fun y4 => ((zf107 n ((y2.2.1, y2.2.2), y4)).bind fun y5 => (if 0 ≤ y5.1 then (if y5.1 ≤ (↑(ByteArray.size y1) : Int) then some (((y0.1.1, y0.1.2.1, y0.1.2.2.1, y0.1.2.2.2.1, y0.1.2.2.2.2), ByteArray.extract y1 0 (Int.toNat y5.1), y5.2.1, y5.2.2)) else none) else none))) else some (((y0.1.1, y0.1.2.1, y0.1.2.2.1, y0.1.2.2.2.1, y0.1.2.2.2.2), y1, y2.2.1, y2.2.2))))))) := by kernel_rfl
noncomputable abbrev zf78.sg (n : Nat) : Sig := ⟨zf78.ps, zf78.res, zf78 n⟩
theorem zf78.call : Callable Tryz.prog 62 := ⟨Tryz.f62, Tryz.func62, by kernel_rfl, by kernel_rfl⟩
theorem zf78.ok (n : Nat) : FC Tryz.prog [] 62 (zf78.sg n) :=
  evalF_ok (C := zf78.C) ⟨tb_ok, fun n _ _ h => tabOk (l := [(74, (zf75.sg n)), (123, (zf69.sg n)), (55, (zf107.sg n)), (56, (zf94.sg n))]) (all_cons ⟨zf75.ok n, zf75.call⟩ (all_cons ⟨zf69.ok n, zf69.call⟩ (all_cons ⟨zf107.ok n, zf107.call⟩ (all_cons ⟨zf94.ok n, zf94.call⟩ (all_nil))))) h, mixed, ar_ok, bld_ok, pts_ok⟩ zf78.A Tryz.func62 zf78.ps zf78.res n
abbrev zf67.ps : List Pm := [.arg (.v (.slice (.int .u8)))]
abbrev zf67.res : List M := [.v .str]
noncomputable def zf67.C : Cfg := { tb := tb, tab := fun n f => Refl.look [(50, (zf96.sg n)), (62, (zf78.sg n))] f, gl := [], ar := ar, bld := bld, pts := pts }
noncomputable def zf67.A : Ann := { joins := [], loops := [], ids := [(1, [(8, [])])], pids := [], nroots := 76 }
noncomputable def zf67 (n : Nat) (x : List Int) : Option (ByteArray) := evalF zf67.C zf67.A Tryz.f17 zf67.ps zf67.res n x
theorem zf67.eq (n : Nat) (x0 : List Int) : zf67 n x0 = ((zf96 n x0).bind fun y0 => ((zf78 n (y0.1, y0.2)).bind fun y1 => some y1.2.1)) := by kernel_rfl
noncomputable abbrev zf67.sg (n : Nat) : Sig := ⟨zf67.ps, zf67.res, zf67 n⟩
theorem zf67.call : Callable Tryz.prog 17 := ⟨Tryz.f17, Tryz.func17, by kernel_rfl, by kernel_rfl⟩
theorem zf67.ok (n : Nat) : FC Tryz.prog [] 17 (zf67.sg n) :=
  evalF_ok (C := zf67.C) ⟨tb_ok, fun n _ _ h => tabOk (l := [(50, (zf96.sg n)), (62, (zf78.sg n))]) (all_cons ⟨zf96.ok n, zf96.call⟩ (all_cons ⟨zf78.ok n, zf78.call⟩ (all_nil))) h, mixed, ar_ok, bld_ok, pts_ok⟩ zf67.A Tryz.func17 zf67.ps zf67.res n
abbrev zf45.ps : List Pm := ixPs
abbrev zf45.res : List M := ixRes
noncomputable def zf45 (n : Nat) : ByteArray × ByteArray → Option Int := ixRun
noncomputable abbrev zf45.sg (n : Nat) : Sig := ⟨zf45.ps, zf45.res, zf45 n⟩
theorem zf45.call : Callable Tryz.prog 176 := ⟨Tryz.f176, Tryz.func176, by kernel_rfl, by kernel_rfl⟩
theorem zf45.ok (n : Nat) : FC Tryz.prog [] 176 (zf45.sg n) := ixl_FC Tryz.lays219
abbrev zf44.ps : List Pm := [.arg (.v .str), .arg (.v .str)]
abbrev zf44.res : List M := [.v .str, .v .str, .v .bool]
noncomputable def zf44.C : Cfg := { tb := tb, tab := fun n f => Refl.look [(176, (zf45.sg n))] f, gl := [], ar := ar, bld := bld, pts := pts }
noncomputable def zf44.A : Ann := { joins := [], loops := [], ids := [(1, [(10, [])])], pids := [], nroots := 87 }
noncomputable def zf44 (n : Nat) (x : ByteArray × ByteArray) : Option (ByteArray × ByteArray × Bool) := evalF zf44.C zf44.A Tryz.f124 zf44.ps zf44.res n x
theorem zf44.eq (n : Nat) (x0 x1 : ByteArray) : zf44 n (x0, x1) = ((zf45 n (x0, x1)).bind fun y0 => (if y0 ≥ 0 then (if 0 ≤ y0 then (if y0 ≤ (↑(ByteArray.size x0) : Int) then (if 0 ≤ Go.RowKit.wrap64 (y0 + (↑(ByteArray.size x1) : Int)) then (if Go.RowKit.wrap64 (y0 + (↑(ByteArray.size x1) : Int)) ≤ (↑(ByteArray.size x0) : Int) then some ((ByteArray.extract x0 0 (Int.toNat y0), ByteArray.extract x0 (Int.toNat (Go.RowKit.wrap64 (y0 + (↑(ByteArray.size x1) : Int)))) (ByteArray.size x0), Bool.true)) else none) else none) else none) else none) else some ((x0, { data := #[] }, Bool.false)))) := by kernel_rfl
noncomputable abbrev zf44.sg (n : Nat) : Sig := ⟨zf44.ps, zf44.res, zf44 n⟩
theorem zf44.call : Callable Tryz.prog 124 := ⟨Tryz.f124, Tryz.func124, by kernel_rfl, by kernel_rfl⟩
theorem zf44.ok (n : Nat) : FC Tryz.prog [] 124 (zf44.sg n) :=
  evalF_ok (C := zf44.C) ⟨tb_ok, fun n _ _ h => tabOk (l := [(176, (zf45.sg n))]) (all_cons ⟨zf45.ok n, zf45.call⟩ (all_nil)) h, mixed, ar_ok, bld_ok, pts_ok⟩ zf44.A Tryz.func124 zf44.ps zf44.res n
abbrev zf131.ps : List Pm := [.arg (.v .str), .arg (.v .str)]
abbrev zf131.res : List M := [.v .str, .v .str, .v .bool]
noncomputable def zf131.C : Cfg := { tb := tb, tab := fun n f => Refl.look [(124, (zf44.sg n))] f, gl := [], ar := ar, bld := bld, pts := pts }
noncomputable def zf131.A : Ann := { joins := [], loops := [], ids := [(1, [(9, [])])], pids := [], nroots := 77 }
noncomputable def zf131 (n : Nat) (x : ByteArray × ByteArray) : Option (ByteArray × ByteArray × Bool) := evalF zf131.C zf131.A Tryz.f63 zf131.ps zf131.res n x
theorem zf131.eq (n : Nat) (x0 x1 : ByteArray) : zf131 n (x0, x1) = ((zf44 n (x0, x1)).bind fun y0 => some ((y0.1, y0.2.1, y0.2.2))) := by kernel_rfl
noncomputable abbrev zf131.sg (n : Nat) : Sig := ⟨zf131.ps, zf131.res, zf131 n⟩
theorem zf131.call : Callable Tryz.prog 63 := ⟨Tryz.f63, Tryz.func63, by kernel_rfl, by kernel_rfl⟩
theorem zf131.ok (n : Nat) : FC Tryz.prog [] 63 (zf131.sg n) :=
  evalF_ok (C := zf131.C) ⟨tb_ok, fun n _ _ h => tabOk (l := [(124, (zf44.sg n))]) (all_cons ⟨zf44.ok n, zf44.call⟩ (all_nil)) h, mixed, ar_ok, bld_ok, pts_ok⟩ zf131.A Tryz.func63 zf131.ps zf131.res n
abbrev zf134.ps : List Pm := [.arg (.v .str), .arg (.v (.int .i64))]
abbrev zf134.res : List M := [(.own .str 9)]
noncomputable def zf134 (n : Nat) : ByteArray × Int → Option (List ByteArray) := fun _ => none
noncomputable abbrev zf134.sg (n : Nat) : Sig := ⟨zf134.ps, zf134.res, zf134 n⟩
theorem zf134.call : Callable Tryz.prog 171 := ⟨Tryz.f171, Tryz.func171, by kernel_rfl, by kernel_rfl⟩
theorem zf134.ok (n : Nat) : FC Tryz.prog [] 171 (zf134.sg n) := never_FC
abbrev zf130.ps : List Pm := ixPs
abbrev zf130.res : List M := ixRes
noncomputable def zf130 (n : Nat) : ByteArray × ByteArray → Option Int := ctRun
noncomputable abbrev zf130.sg (n : Nat) : Sig := ⟨zf130.ps, zf130.res, zf130 n⟩
theorem zf130.call : Callable Tryz.prog 172 := ⟨Tryz.f172, Tryz.func172, by kernel_rfl, by kernel_rfl⟩
theorem zf130.ok (n : Nat) : FC Tryz.prog [] 172 (zf130.sg n) := ct_FC Tryz.lays138
abbrev zf132.ps : List Pm := ixPs
abbrev zf132.res : List M := ixRes
noncomputable def zf132 (n : Nat) : ByteArray × ByteArray → Option Int := ixRun
noncomputable abbrev zf132.sg (n : Nat) : Sig := ⟨zf132.ps, zf132.res, zf132 n⟩
theorem zf132.call : Callable Tryz.prog 173 := ⟨Tryz.f173, Tryz.func173, by kernel_rfl, by kernel_rfl⟩
theorem zf132.ok (n : Nat) : FC Tryz.prog [] 173 (zf132.sg n) := ix_FC Tryz.lays143
abbrev zf135.ps : List Pm := [.arg (.v .str), .arg (.v .str), .arg (.v (.int .i64)), .arg (.v (.int .i64))]
abbrev zf135.res : List M := [(.own .str 9)]
noncomputable def zf135.C : Cfg := { tb := tb, tab := fun n f => Refl.look [(171, (zf134.sg n)), (172, (zf130.sg n)), (173, (zf132.sg n))] f, gl := [], ar := ar, bld := bld, pts := pts }
noncomputable def zf135.A : Ann := { joins := [], loops := [(11, { live := [0, 1, 2, 3, 9, 10], base := 66 })], ids := [(6, [(23, [])]), (12, [(39, [])])], pids := [], nroots := 130 }
noncomputable def zf135 (n : Nat) (x : ByteArray × ByteArray × Int × Int) : Option (List ByteArray) := evalF zf135.C zf135.A Tryz.f116 zf135.ps zf135.res n x
noncomputable def zf135.K0 (_ : Nat) : Kont (List ByteArray) := finK zf135.C (Func.results Tryz.f116).toList zf135.ps zf135.res
noncomputable def zf135.K1 (n : Nat) : Kont (List ByteArray) := seqK (fun s' k => joinE zf135.A.joins (codeAt Tryz.f116 [1, 1, 1, 1, 1, 1, 1, 1, 1]) (fun s'' => evalC zf135.C zf135.A n (codeAt Tryz.f116 [1, 1, 1, 1, 1, 1, 1, 1, 1]) s'' k) s') (zf135.K0 n)
noncomputable def zf135.K2 (n : Nat) : Kont (List ByteArray) := blockK 0 (zf135.K1 n)
noncomputable def zf135.l11 (n m11 : Nat) (x0 x1 : ByteArray) (x2 x3 x10 : Int) (r66 : List ByteArray) : Option (List ByteArray) := loopE (cutAt zf135.A.loops (codeAt Tryz.f116 [1, 1, 1, 1, 1, 1, 1, 1, 0, 0, 0])) (fun s k => evalC zf135.C zf135.A n (codeAt Tryz.f116 [1, 1, 1, 1, 1, 1, 1, 1, 0, 0, 0]) s k) m11 (St.of 66 130 [(0, .val .str x0), (1, .val .str x1), (2, .val (.int .i64) x2), (3, .val (.int .i64) x3), (9, .own 66), (10, .val (.int .i64) x10)] [(66, .row .str 9 r66)] []) (zf135.K2 n)
theorem zf135.eq (n : Nat) (x0 x1 : ByteArray) (x2 x3 : Int) : zf135 n (x0, x1, x2, x3) = (if x3 = 0 then some ([]) else (if x1 = { data := #[] } then ((zf134 n (x0, x3)).bind fun y0 => some (y0)) else (if x3 < 0 then ((zf130 n (x0, x1)).bind fun y1 => (if 0 ≤ Go.Refl.mn (Go.RowKit.wrap64 (y1 + 1)) (Go.RowKit.wrap64 ((↑(ByteArray.size x0) : Int) + 1)) then (if Go.Refl.mn (Go.RowKit.wrap64 (y1 + 1)) (Go.RowKit.wrap64 ((↑(ByteArray.size x0) : Int) + 1)) ≤ Go.Refl.mn (Go.RowKit.wrap64 (y1 + 1)) (Go.RowKit.wrap64 ((↑(ByteArray.size x0) : Int) + 1)) then (if Go.Refl.mn (Go.RowKit.wrap64 (y1 + 1)) (Go.RowKit.wrap64 ((↑(ByteArray.size x0) : Int) + 1)) ≤ (↑Go.Refl.maxN : Int) then zf135.l11 n n (x0) (x1) (x2) (Go.RowKit.wrap64 (Go.Refl.mn (Go.RowKit.wrap64 (y1 + 1)) (Go.RowKit.wrap64 ((↑(ByteArray.size x0) : Int) + 1)) - 1)) (0) (List.replicate (Int.toNat (Go.Refl.mn (Go.RowKit.wrap64 (y1 + 1)) (Go.RowKit.wrap64 ((↑(ByteArray.size x0) : Int) + 1)))) ByteArray.empty) else none) else none) else none)) else (if 0 ≤ Go.Refl.mn x3 (Go.RowKit.wrap64 ((↑(ByteArray.size x0) : Int) + 1)) then (if Go.Refl.mn x3 (Go.RowKit.wrap64 ((↑(ByteArray.size x0) : Int) + 1)) ≤ Go.Refl.mn x3 (Go.RowKit.wrap64 ((↑(ByteArray.size x0) : Int) + 1)) then (if Go.Refl.mn x3 (Go.RowKit.wrap64 ((↑(ByteArray.size x0) : Int) + 1)) ≤ (↑Go.Refl.maxN : Int) then zf135.l11 n n (x0) (x1) (x2) (Go.RowKit.wrap64 (Go.Refl.mn x3 (Go.RowKit.wrap64 ((↑(ByteArray.size x0) : Int) + 1)) - 1)) (0) (List.replicate (Int.toNat (Go.Refl.mn x3 (Go.RowKit.wrap64 ((↑(ByteArray.size x0) : Int) + 1)))) ByteArray.empty) else none) else none) else none)))) := by kernel_rfl
theorem zf135.l11_succ (n m11 : Nat) (x0 x1 : ByteArray) (x2 x3 x10 : Int) (r66 : List ByteArray) : zf135.l11 n (m11 + 1) x0 x1 x2 x3 x10 r66 = (if x10 < x3 then ((zf132 n (x0, x1)).bind fun y2 => (if y2 < 0 then (if 0 ≤ x10 then (if x10 < (↑(List.length r66) : Int) then (if 0 ≤ Go.RowKit.wrap64 (x10 + 1) then (if Go.RowKit.wrap64 (x10 + 1) ≤ (↑(List.length (List.set r66 (Int.toNat x10) x0)) : Int) then some (List.take (Int.toNat (Go.RowKit.wrap64 (x10 + 1)) - 0) (List.set r66 (Int.toNat x10) x0)) else none) else none) else none) else none) else (if 0 ≤ Go.RowKit.wrap64 (y2 + x2) then (if Go.RowKit.wrap64 (y2 + x2) ≤ (↑(ByteArray.size x0) : Int) then (if 0 ≤ x10 then (if x10 < (↑(List.length r66) : Int) then (if 0 ≤ Go.RowKit.wrap64 (y2 + (↑(ByteArray.size x1) : Int)) then (if Go.RowKit.wrap64 (y2 + (↑(ByteArray.size x1) : Int)) ≤ (↑(ByteArray.size x0) : Int) then zf135.l11 n m11 (ByteArray.extract x0 (Int.toNat (Go.RowKit.wrap64 (y2 + (↑(ByteArray.size x1) : Int)))) (ByteArray.size x0)) (x1) (x2) (x3) (Go.RowKit.wrap64 (x10 + 1)) (List.set r66 (Int.toNat x10) (ByteArray.extract x0 0 (Int.toNat (Go.RowKit.wrap64 (y2 + x2))))) else none) else none) else none) else none) else none) else none))) else (if 0 ≤ x10 then (if x10 < (↑(List.length r66) : Int) then (if 0 ≤ Go.RowKit.wrap64 (x10 + 1) then (if Go.RowKit.wrap64 (x10 + 1) ≤ (↑(List.length (List.set r66 (Int.toNat x10) x0)) : Int) then some (List.take (Int.toNat (Go.RowKit.wrap64 (x10 + 1)) - 0) (List.set r66 (Int.toNat x10) x0)) else none) else none) else none) else none)) := by kernel_rfl
noncomputable abbrev zf135.sg (n : Nat) : Sig := ⟨zf135.ps, zf135.res, zf135 n⟩
theorem zf135.call : Callable Tryz.prog 116 := ⟨Tryz.f116, Tryz.func116, by kernel_rfl, by kernel_rfl⟩
theorem zf135.ok (n : Nat) : FC Tryz.prog [] 116 (zf135.sg n) :=
  evalF_ok (C := zf135.C) ⟨tb_ok, fun n _ _ h => tabOk (l := [(171, (zf134.sg n)), (172, (zf130.sg n)), (173, (zf132.sg n))]) (all_cons ⟨zf134.ok n, zf134.call⟩ (all_cons ⟨zf130.ok n, zf130.call⟩ (all_cons ⟨zf132.ok n, zf132.call⟩ (all_nil)))) h, mixed, ar_ok, bld_ok, pts_ok⟩ zf135.A Tryz.func116 zf135.ps zf135.res n
abbrev zf133.ps : List Pm := [.arg (.v .str), .arg (.v .str)]
abbrev zf133.res : List M := [(.own .str 9)]
noncomputable def zf133.C : Cfg := { tb := tb, tab := fun n f => Refl.look [(116, (zf135.sg n))] f, gl := [], ar := ar, bld := bld, pts := pts }
noncomputable def zf133.A : Ann := { joins := [], loops := [], ids := [], pids := [], nroots := 72 }
noncomputable def zf133 (n : Nat) (x : ByteArray × ByteArray) : Option (List ByteArray) := evalF zf133.C zf133.A Tryz.f57 zf133.ps zf133.res n x
theorem zf133.eq (n : Nat) (x0 x1 : ByteArray) : zf133 n (x0, x1) = ((zf135 n (x0, x1, 0, (-1))).bind fun y0 => some (y0)) := by kernel_rfl
noncomputable abbrev zf133.sg (n : Nat) : Sig := ⟨zf133.ps, zf133.res, zf133 n⟩
theorem zf133.call : Callable Tryz.prog 57 := ⟨Tryz.f57, Tryz.func57, by kernel_rfl, by kernel_rfl⟩
theorem zf133.ok (n : Nat) : FC Tryz.prog [] 57 (zf133.sg n) :=
  evalF_ok (C := zf133.C) ⟨tb_ok, fun n _ _ h => tabOk (l := [(116, (zf135.sg n))]) (all_cons ⟨zf135.ok n, zf135.call⟩ (all_nil)) h, mixed, ar_ok, bld_ok, pts_ok⟩ zf133.A Tryz.func57 zf133.ps zf133.res n
abbrev zf43.ps : List Pm := [.arg (.v (.slice .str)), .arg (.v (.int .i64))]
abbrev zf43.res : List M := [.v .str]
noncomputable def zf43.C : Cfg := { tb := tb, tab := fun n f => Refl.look [] f, gl := [], ar := ar, bld := bld, pts := pts }
noncomputable def zf43.A : Ann := { joins := [], loops := [], ids := [], pids := [], nroots := 77 }
noncomputable def zf43 (n : Nat) (x : List ByteArray × Int) : Option (ByteArray) := evalF zf43.C zf43.A Tryz.f117 zf43.ps zf43.res n x
theorem zf43.eq (n : Nat) (x0 : List ByteArray) (x1 : Int) : zf43 n (x0, x1) = (if x1 ≥ (↑(List.length x0) : Int) then some ({ data := #[] }) else (if 0 ≤ x1 then (if x1 < (↑(List.length x0) : Int) then some (List.getD x0 (Int.toNat x1) ByteArray.empty) else none) else none)) := by kernel_rfl
noncomputable abbrev zf43.sg (n : Nat) : Sig := ⟨zf43.ps, zf43.res, zf43 n⟩
theorem zf43.call : Callable Tryz.prog 117 := ⟨Tryz.f117, Tryz.func117, by kernel_rfl, by kernel_rfl⟩
theorem zf43.ok (n : Nat) : FC Tryz.prog [] 117 (zf43.sg n) :=
  evalF_ok (C := zf43.C) ⟨tb_ok, fun n _ _ h => tabOk (l := []) (all_nil) h, mixed, ar_ok, bld_ok, pts_ok⟩ zf43.A Tryz.func117 zf43.ps zf43.res n
abbrev zf126.ps : List Pm := atPs
abbrev zf126.res : List M := atRes
noncomputable def zf126 (n : Nat) : ByteArray → Option (Int × List Int) := fun x => atRun x
noncomputable abbrev zf126.sg (n : Nat) : Sig := ⟨zf126.ps, zf126.res, zf126 n⟩
theorem zf126.call : Callable Tryz.prog 152 := ⟨Tryz.f152, Tryz.func152, by kernel_rfl, by kernel_rfl⟩
theorem zf126.ok (n : Nat) : FC Tryz.prog [g2, g3] 152 (zf126.sg n) := at_FC Tryz.laysC172 (.head _) (.tail _ (.head _))
abbrev zf127.ps : List Pm := itPs
abbrev zf127.res : List M := itRes
noncomputable def zf127 (n : Nat) : Int → Option ByteArray := itRun
noncomputable abbrev zf127.sg (n : Nat) : Sig := ⟨zf127.ps, zf127.res, zf127 n⟩
theorem zf127.call : Callable Tryz.prog 86 := ⟨Tryz.f86, Tryz.func86, by kernel_rfl, by kernel_rfl⟩
theorem zf127.ok (n : Nat) : FC Tryz.prog [g4] 86 (zf127.sg n) := it_FC Tryz.laysM171 (.head _) (by kernel_rfl)
abbrev zf35.ps : List Pm := [.arg (.v .str), .arg (.v (.int .i64))]
abbrev zf35.res : List M := [.v (.int .i64)]
noncomputable def zf35.C : Cfg := { tb := tb, tab := fun n f => Refl.look [(152, (zf126.sg n)), (86, (zf127.sg n))] f, gl := [g2, g3, g4], ar := ar, bld := bld, pts := pts }
noncomputable def zf35.A : Ann := { joins := [], loops := [], ids := [(1, [(9, [])]), (2, [(25, [])])], pids := [], nroots := 94 }
noncomputable def zf35 (n : Nat) (x : ByteArray × Int) : Option (Int) := evalF zf35.C zf35.A Tryz.f84 zf35.ps zf35.res n x
theorem zf35.eq (n : Nat) (x0 : ByteArray) (x1 : Int) : zf35 n (x0, x1) = ((zf126 n x0).bind fun y0 => (if (!List.isEmpty y0.2) = Bool.true then some ((-1)) else (if y0.1 < 0 then some ((-1)) else (if y0.1 > x1 then some ((-1)) else ((zf127 n y0.1).bind fun y1 => (if y1 = x0 then some y0.1 else some ((-1)))))))) := by kernel_rfl
noncomputable abbrev zf35.sg (n : Nat) : Sig := ⟨zf35.ps, zf35.res, zf35 n⟩
theorem zf35.call : Callable Tryz.prog 84 := ⟨Tryz.f84, Tryz.func84, by kernel_rfl, by kernel_rfl⟩
theorem zf35.ok (n : Nat) : FC Tryz.prog [g2, g3, g4] 84 (zf35.sg n) :=
  evalF_ok (C := zf35.C) ⟨tb_ok, fun n _ _ h => tabOk (l := [(152, (zf126.sg n)), (86, (zf127.sg n))]) (all_cons ⟨(.mono (gl := [g2, g3]) (gl' := [g2, g3, g4]) (all_cons (.head _) (all_cons (.tail _ (.head _)) (all_nil))) (zf126.ok n)), zf126.call⟩ (all_cons ⟨(.mono (gl := [g4]) (gl' := [g2, g3, g4]) (all_cons (.tail _ (.tail _ (.head _))) (all_nil)) (zf127.ok n)), zf127.call⟩ (all_nil))) h, mixed, ar_ok, bld_ok, pts_ok⟩ zf35.A Tryz.func84 zf35.ps zf35.res n
abbrev zf23.ps : List Pm := [.arg (.v (.int .i64))]
abbrev zf23.res : List M := [.v .str]
noncomputable def zf23.C : Cfg := { tb := tb, tab := fun n f => Refl.look [(86, (zf127.sg n))] f, gl := [g4], ar := ar, bld := bld, pts := pts }
noncomputable def zf23.A : Ann := { joins := [], loops := [], ids := [(3, [(12, [])]), (6, [(20, [])])], pids := [], nroots := 88 }
noncomputable def zf23 (n : Nat) (x : Int) : Option (ByteArray) := evalF zf23.C zf23.A Tryz.f43 zf23.ps zf23.res n x
theorem zf23.eq (n : Nat) (x0 : Int) : zf23 n x0 = (if x0 < 0 then some ({ data := #[] }) else (if x0 > 1000000 then some ({ data := #[] }) else ((zf127 n (Int.tmod x0 100)).bind fun y0 => (if (↑(ByteArray.size y0) : Int) < 2 then (if ByteArray.size { data := #[(48 : UInt8)] } + ByteArray.size y0 ≤ Go.Refl.maxN then ((zf127 n (Go.RowKit.wrap64 (Int.tdiv x0 100))).bind fun y1 => (if ByteArray.size y1 + ByteArray.size { data := #[(46 : UInt8)] } ≤ Go.Refl.maxN then (if ByteArray.size (y1 ++ { data := #[(46 : UInt8)] }) + ByteArray.size ({ data := #[(48 : UInt8)] } ++ y0) ≤ Go.Refl.maxN then some (y1 ++ { data := #[(46 : UInt8)] } ++ ({ data := #[(48 : UInt8)] } ++ y0)) else none) else none)) else none) else ((zf127 n (Go.RowKit.wrap64 (Int.tdiv x0 100))).bind fun y2 => (if ByteArray.size y2 + ByteArray.size { data := #[(46 : UInt8)] } ≤ Go.Refl.maxN then (if ByteArray.size (y2 ++ { data := #[(46 : UInt8)] }) + ByteArray.size y0 ≤ Go.Refl.maxN then some (y2 ++ { data := #[(46 : UInt8)] } ++ y0) else none) else none)))))) := by kernel_rfl
noncomputable abbrev zf23.sg (n : Nat) : Sig := ⟨zf23.ps, zf23.res, zf23 n⟩
theorem zf23.call : Callable Tryz.prog 43 := ⟨Tryz.f43, Tryz.func43, by kernel_rfl, by kernel_rfl⟩
theorem zf23.ok (n : Nat) : FC Tryz.prog [g4] 43 (zf23.sg n) :=
  evalF_ok (C := zf23.C) ⟨tb_ok, fun n _ _ h => tabOk (l := [(86, (zf127.sg n))]) (all_cons ⟨zf127.ok n, zf127.call⟩ (all_nil)) h, mixed, ar_ok, bld_ok, pts_ok⟩ zf23.A Tryz.func43 zf23.ps zf23.res n
abbrev zf18.ps : List Pm := [.arg (.v .str)]
abbrev zf18.res : List M := [.v (.int .i64)]
noncomputable def zf18.C : Cfg := { tb := tb, tab := fun n f => Refl.look [(43, (zf23.sg n))] f, gl := [g4], ar := ar, bld := bld, pts := pts }
noncomputable def zf18.A : Ann := { joins := [], loops := [(5, { live := [0, 3, 22, 23], base := 55 })], ids := [(12, [(51, [])])], pids := [], nroots := 119 }
noncomputable def zf18 (n : Nat) (x : ByteArray) : Option (Int) := evalF zf18.C zf18.A Tryz.f85 zf18.ps zf18.res n x
noncomputable def zf18.K0 (_ : Nat) : Kont (Int) := finK zf18.C (Func.results Tryz.f85).toList zf18.ps zf18.res
noncomputable def zf18.K1 (n : Nat) : Kont (Int) := seqK (fun s' k => joinE zf18.A.joins (codeAt Tryz.f85 [1, 1, 1, 1]) (fun s'' => evalC zf18.C zf18.A n (codeAt Tryz.f85 [1, 1, 1, 1]) s'' k) s') (zf18.K0 n)
noncomputable def zf18.K2 (n : Nat) : Kont (Int) := blockK 0 (zf18.K1 n)
noncomputable def zf18.l5 (n m5 : Nat) (x0 : ByteArray) (x3 x22 x23 : Int) : Option (Int) := loopE (cutAt zf18.A.loops (codeAt Tryz.f85 [1, 1, 1, 0, 1, 0, 0])) (fun s k => evalC zf18.C zf18.A n (codeAt Tryz.f85 [1, 1, 1, 0, 1, 0, 0]) s k) m5 (St.of 55 119 [(0, .val .str x0), (3, .val (.int .i64) x3), (22, .val (.int .i64) x22), (23, .val (.int .i64) x23)] [] []) (zf18.K2 n)
theorem zf18.eq (n : Nat) (x0 : ByteArray) : zf18 n x0 = (if (↑(ByteArray.size x0) : Int) < 4 then some ((-1)) else (if (↑(ByteArray.size x0) : Int) > 8 then some ((-1)) else (if 0 ≤ Go.RowKit.wrap64 ((↑(ByteArray.size x0) : Int) - 3) then (if Go.RowKit.wrap64 ((↑(ByteArray.size x0) : Int) - 3) < (↑(ByteArray.size x0) : Int) then (if (↑(UInt8.toNat (List.getD (Array.toList (ByteArray.data x0)) (Int.toNat (Go.RowKit.wrap64 ((↑(ByteArray.size x0) : Int) - 3))) (0 : UInt8))) : Int) = 46 then zf18.l5 n n (x0) (0) ((↑(ByteArray.size x0) : Int)) (0) else some ((-1))) else none) else none))) := by kernel_rfl
theorem zf18.l5_succ (n m5 : Nat) (x0 : ByteArray) (x3 x22 x23 : Int) : zf18.l5 n (m5 + 1) x0 x3 x22 x23 = (if x23 < x22 then (if x23 = Go.RowKit.wrap64 ((↑(ByteArray.size x0) : Int) - 3) then zf18.l5 n m5 (x0) (x3) (x22) (Go.RowKit.wrap64 (x23 + 1)) else (if 0 ≤ x23 then (if x23 < (↑(ByteArray.size x0) : Int) then (if (↑(UInt8.toNat (List.getD (Array.toList (ByteArray.data x0)) (Int.toNat x23) (0 : UInt8))) : Int) < 48 then some ((-1)) else (if 0 ≤ x23 then (if x23 < (↑(ByteArray.size x0) : Int) then (if (↑(UInt8.toNat (List.getD (Array.toList (ByteArray.data x0)) (Int.toNat x23) (0 : UInt8))) : Int) > 57 then some ((-1)) else (if 0 ≤ x23 then (if x23 < (↑(ByteArray.size x0) : Int) then zf18.l5 n m5 (x0) (Go.RowKit.wrap64 (Go.RowKit.wrap64 (x3 * 10) + Go.RowKit.wrap64 (((↑(UInt8.toNat (List.getD (Array.toList (ByteArray.data x0)) (Int.toNat x23) (0 : UInt8))) : Int) - 48) % 256))) (x22) (Go.RowKit.wrap64 (x23 + 1)) else none) else none)) else none) else none)) else none) else none)) else ((zf23 n x3).bind fun y0 => (if y0 = x0 then some (x3) else some ((-1))))) := by kernel_rfl
noncomputable abbrev zf18.sg (n : Nat) : Sig := ⟨zf18.ps, zf18.res, zf18 n⟩
theorem zf18.call : Callable Tryz.prog 85 := ⟨Tryz.f85, Tryz.func85, by kernel_rfl, by kernel_rfl⟩
theorem zf18.ok (n : Nat) : FC Tryz.prog [g4] 85 (zf18.sg n) :=
  evalF_ok (C := zf18.C) ⟨tb_ok, fun n _ _ h => tabOk (l := [(43, (zf23.sg n))]) (all_cons ⟨zf23.ok n, zf23.call⟩ (all_nil)) h, mixed, ar_ok, bld_ok, pts_ok⟩ zf18.A Tryz.func85 zf18.ps zf18.res n
abbrev zf34.ps : List Pm := [.arg (.v (.int .i64)), .arg (.v (.slice .str))]
abbrev zf34.res : List M := [.v zt1]
noncomputable def zf34.C : Cfg := { tb := tb, tab := fun n f => Refl.look [(117, (zf43.sg n)), (84, (zf35.sg n)), (85, (zf18.sg n))] f, gl := [g2, g3, g4], ar := ar, bld := bld, pts := pts }
noncomputable def zf34.A : Ann := { joins := [], loops := [(17, { live := [4, 5, 53, 54, 55], base := 68, growB := [(5, 4, 96, (.int .i64), 3)] })], ids := [(7, [(18, []), (19, []), (21, []), (22, [])]), (9, [(27, []), (28, [])]), (12, [(34, []), (35, [])]), (14, [(41, []), (42, [])]), (19, [(62, []), (63, [])])], pids := [], nroots := 132 }
noncomputable def zf34 (n : Nat) (x : Int × List ByteArray) : Option zt14 := evalF zf34.C zf34.A Tryz.f58 zf34.ps zf34.res n x
noncomputable def zf34.K0 (_ : Nat) : Kont zt14 := finK zf34.C (Func.results Tryz.f58).toList zf34.ps zf34.res
noncomputable def zf34.K1 (n : Nat) : Kont zt14 := seqK (fun s' k => joinE zf34.A.joins (codeAt Tryz.f58 [1, 1, 1, 1, 1, 1, 1]) (fun s'' => evalC zf34.C zf34.A n (codeAt Tryz.f58 [1, 1, 1, 1, 1, 1, 1]) s'' k) s') (zf34.K0 n)
noncomputable def zf34.K2 (n : Nat) : Kont zt14 := blockK 1 (zf34.K1 n)
noncomputable def zf34.K3 (n : Nat) : Kont zt14 := blockK 2 (zf34.K2 n)
noncomputable def zf34.l17 (n m17 : Nat) (x53 : List ByteArray) (x54 x55 : Int) (r68_0 r68_1 : Int) (r68_2 r68_3 : Int) (r68_5 r68_6 : Int) (r69_0 r69_1 : Int) (r69_2 r69_3 : Int) (r69_5 r69_6 : Int) (r70 : List Int) : Option zt14 := loopE (cutAt zf34.A.loops (codeAt Tryz.f58 [1, 1, 1, 1, 1, 1, 0, 0, 1, 1, 1, 0, 1, 0, 0])) (fun s k => evalC zf34.C zf34.A n (codeAt Tryz.f58 [1, 1, 1, 1, 1, 1, 0, 0, 1, 1, 1, 0, 1, 0, 0]) s k) m17 (St.of 68 132 [(4, .ptr 68 0 0), (5, .ptr 69 0 0), (53, .val (.slice .str) x53), (54, .val (.int .i64) x54), (55, .val (.int .i64) x55)] [(68, .box 28 [.val (.int .i64) r68_0, .val (.int .i64) r68_1, .val (.int .i64) r68_2, .val (.int .i64) r68_3, .nils, .val (.int .i64) r68_5, .val (.int .i64) r68_6]), (69, .box 28 [.val (.int .i64) r69_0, .val (.int .i64) r69_1, .val (.int .i64) r69_2, .val (.int .i64) r69_3, .own 70, .val (.int .i64) r69_5, .val (.int .i64) r69_6]), (70, .row (.int .i64) 3 r70)] []) (zf34.K3 n)
theorem zf34.eq (n : Nat) (x0 : Int) (x1 : List ByteArray) : zf34 n (x0, x1) = (if x0 = 0 then (if x0 = 0 then some ((x0, 0, 0, 0, [], 0, 0)) else (if x0 = 6 then ((zf43 n (x1, 1)).bind fun y0 => ((zf35 n (y0, 1000)).bind fun y1 => ((zf43 n (x1, 2)).bind fun y2 => ((zf35 n (y2, 1000)).bind fun y3 => some ((x0, 0, 0, 0, [], y1, y3)))))) else ((zf43 n (x1, 1)).bind fun y4 => ((zf35 n (y4, 99)).bind fun y5 => (if x0 = 5 then some ((x0, y5, 0, 0, [], 0, 0)) else ((zf43 n (x1, 2)).bind fun y6 => ((zf18 n y6).bind fun y7 => (if x0 = 4 then ((zf43 n (x1, 3)).bind fun y8 => ((zf18 n y8).bind fun y9 => some ((x0, y5, y7, y9, [], 0, 0)))) else (if x0 = 3 then (if (↑(List.length x1) : Int) > 3 then (if 3 ≤ (↑(List.length x1) : Int) then zf34.l17 n n (List.drop (Int.toNat 3) x1) ((↑(List.length (List.drop (Int.toNat (3 : Int)) x1)) : Int)) (0) (0) (0) (0) (0) (0) (0) (x0) (y5) (y7) (0) (0) (0) ([]) else none) else some ((x0, y5, y7, 0, [], 0, 0))) else some ((x0, y5, y7, 0, [], 0, 0))))))))))) else (if x0 = 7 then some ((x0, 0, 0, 0, [], 0, 0)) else (if x0 = 6 then ((zf43 n (x1, 1)).bind fun y10 => ((zf35 n (y10, 1000)).bind fun y11 => ((zf43 n (x1, 2)).bind fun y12 => ((zf35 n (y12, 1000)).bind fun y13 => some ((x0, 0, 0, 0, [], y11, y13)))))) else ((zf43 n (x1, 1)).bind fun y14 => ((zf35 n (y14, 99)).bind fun y15 => (if x0 = 5 then some ((x0, y15, 0, 0, [], 0, 0)) else ((zf43 n (x1, 2)).bind fun y16 => ((zf18 n y16).bind fun y17 => (if x0 = 4 then ((zf43 n (x1, 3)).bind fun y18 => ((zf18 n y18).bind fun y19 => some ((x0, y15, y17, y19, [], 0, 0)))) else (if x0 = 3 then (if (↑(List.length x1) : Int) > 3 then (if 3 ≤ (↑(List.length x1) : Int) then zf34.l17 n n (List.drop (Int.toNat 3) x1) ((↑(List.length (List.drop (Int.toNat (3 : Int)) x1)) : Int)) (0) (0) (0) (0) (0) (0) (0) (x0) (y15) (y17) (0) (0) (0) ([]) else none) else some ((x0, y15, y17, 0, [], 0, 0))) else some ((x0, y15, y17, 0, [], 0, 0)))))))))))) := by kernel_rfl
theorem zf34.l17_succ (n m17 : Nat) (x53 : List ByteArray) (x54 x55 : Int) (r68_0 r68_1 : Int) (r68_2 r68_3 : Int) (r68_5 r68_6 : Int) (r69_0 r69_1 : Int) (r69_2 r69_3 : Int) (r69_5 r69_6 : Int) (r70 : List Int) : zf34.l17 n (m17 + 1) x53 x54 x55 r68_0 r68_1 r68_2 r68_3 r68_5 r68_6 r69_0 r69_1 r69_2 r69_3 r69_5 r69_6 r70 = (if x55 < x54 then (if 0 ≤ x55 then (if x55 < (↑(List.length x53) : Int) then ((zf35 n (List.getD x53 (Int.toNat x55) ByteArray.empty, 99)).bind fun y20 => (if List.length r70 + List.length (List.set (List.replicate (1 : Nat) (0 : Int)) (0 : Nat) y20) ≤ Go.Refl.maxN then zf34.l17 n m17 (x53) (x54) (Go.RowKit.wrap64 (x55 + 1)) (r68_0) (r68_1) (r68_2) (r68_3) (r68_5) (r68_6) (r69_0) (r69_1) (r69_2) (r69_3) (r69_5) (r69_6) (r70 ++ List.set (List.replicate 1 0) 0 y20) else none)) else none) else none) else some ((r69_0, r69_1, r69_2, r69_3, r70, r69_5, r69_6))) := by kernel_rfl
noncomputable abbrev zf34.sg (n : Nat) : Sig := ⟨zf34.ps, zf34.res, zf34 n⟩
theorem zf34.call : Callable Tryz.prog 58 := ⟨Tryz.f58, Tryz.func58, by kernel_rfl, by kernel_rfl⟩
theorem zf34.ok (n : Nat) : FC Tryz.prog [g2, g3, g4] 58 (zf34.sg n) :=
  evalF_ok (C := zf34.C) ⟨tb_ok, fun n _ _ h => tabOk (l := [(117, (zf43.sg n)), (84, (zf35.sg n)), (85, (zf18.sg n))]) (all_cons ⟨(.mono (gl := []) (gl' := [g2, g3, g4]) (all_nil) (zf43.ok n)), zf43.call⟩ (all_cons ⟨zf35.ok n, zf35.call⟩ (all_cons ⟨(.mono (gl := [g4]) (gl' := [g2, g3, g4]) (all_cons (.tail _ (.tail _ (.head _))) (all_nil)) (zf18.ok n)), zf18.call⟩ (all_nil)))) h, mixed, ar_ok, bld_ok, pts_ok⟩ zf34.A Tryz.func58 zf34.ps zf34.res n
abbrev zf27.ps : List Pm := [.arg (.v zt16)]
abbrev zf27.res : List M := [.v .bool]
noncomputable def zf27.C : Cfg := { tb := tb, tab := fun n f => Refl.look [] f, gl := [], ar := ar, bld := bld, pts := pts }
noncomputable def zf27.A : Ann := { joins := [], loops := [], ids := [], pids := [], nroots := 87 }
noncomputable def zf27 (n : Nat) (x : Int × Int) : Option (Bool) := evalF zf27.C zf27.A Tryz.f120 zf27.ps zf27.res n x
theorem zf27.eq (n : Nat) (x0 : Int × Int) : zf27 n x0 = (if x0.2 ≥ 1 then (if x0.2 ≤ 1000 then (if x0.1 ≥ 0 then some (Decidable.decide (x0.1 ≤ x0.2)) else some (Bool.false)) else some (Bool.false)) else some (Bool.false)) := by kernel_rfl
noncomputable abbrev zf27.sg (n : Nat) : Sig := ⟨zf27.ps, zf27.res, zf27 n⟩
theorem zf27.call : Callable Tryz.prog 120 := ⟨Tryz.f120, Tryz.func120, by kernel_rfl, by kernel_rfl⟩
theorem zf27.ok (n : Nat) : FC Tryz.prog [] 120 (zf27.sg n) :=
  evalF_ok (C := zf27.C) ⟨tb_ok, fun n _ _ h => tabOk (l := []) (all_nil) h, mixed, ar_ok, bld_ok, pts_ok⟩ zf27.A Tryz.func120 zf27.ps zf27.res n
abbrev zf129.ps : List Pm := wsPs 95 5
abbrev zf129.res : List M := wsRes
noncomputable def zf129 (n : Nat) : List Int × ByteArray → Option (Int × List Int × List Int) := wsRun
noncomputable abbrev zf129.sg (n : Nat) : Sig := ⟨zf129.ps, zf129.res, zf129 n⟩
theorem zf129.call : Callable Tryz.prog 65 := ⟨Tryz.f65, Tryz.func65, by kernel_rfl, by kernel_rfl⟩
theorem zf129.ok (n : Nat) : FC Tryz.prog [] 65 (zf129.sg n) := ws_FC Tryz.wsL Tryz.wsX
abbrev zf128.ps : List Pm := stPs 95 5
abbrev zf128.res : List M := stRes
noncomputable def zf128 (n : Nat) : List Int → Option ByteArray := stRun
noncomputable abbrev zf128.sg (n : Nat) : Sig := ⟨zf128.ps, zf128.res, zf128 n⟩
theorem zf128.call : Callable Tryz.prog 66 := ⟨Tryz.f66, Tryz.func66, by kernel_rfl, by kernel_rfl⟩
theorem zf128.ok (n : Nat) : FC Tryz.prog [] 66 (zf128.sg n) := st_FC Tryz.lays169 Tryz.Builder_Extra_169
abbrev zf38.ps : List Pm := [.arg (.v (.slice (.int .i64)))]
abbrev zf38.res : List M := [.v .str, .v .bool]
noncomputable def zf38.C : Cfg := { tb := tb, tab := fun n f => Refl.look [(86, (zf127.sg n)), (65, (zf129.sg n)), (66, (zf128.sg n))] f, gl := [g4], ar := ar, bld := bld, pts := pts }
noncomputable def zf38.A : Ann := { joins := [], loops := [(3, { live := [4, 7, 8, 9], base := 25 })], ids := [(1, [(4, [4, 40])]), (7, [(20, []), (22, [22])]), (9, [(24, [])])], pids := [], nroots := 89 }
noncomputable def zf38 (n : Nat) (x : List Int) : Option (ByteArray × Bool) := evalF zf38.C zf38.A Tryz.f121 zf38.ps zf38.res n x
noncomputable def zf38.K0 (_ : Nat) : Kont (ByteArray × Bool) := finK zf38.C (Func.results Tryz.f121).toList zf38.ps zf38.res
noncomputable def zf38.K1 (n : Nat) : Kont (ByteArray × Bool) := seqK (fun s' k => joinE zf38.A.joins (codeAt Tryz.f121 [1, 1, 1]) (fun s'' => evalC zf38.C zf38.A n (codeAt Tryz.f121 [1, 1, 1]) s'' k) s') (zf38.K0 n)
noncomputable def zf38.K2 (n : Nat) : Kont (ByteArray × Bool) := blockK 0 (zf38.K1 n)
noncomputable def zf38.l3 (n m3 : Nat) (x7 : List Int) (x8 x9 : Int) (r26 : List Int) : Option (ByteArray × Bool) := loopE (cutAt zf38.A.loops (codeAt Tryz.f121 [1, 1, 0, 1, 0, 0])) (fun s k => evalC zf38.C zf38.A n (codeAt Tryz.f121 [1, 1, 0, 1, 0, 0]) s k) m3 (St.of 25 89 [(4, .ptr 25 0 0), (7, .val (.slice (.int .i64)) x7), (8, .val (.int .i64) x8), (9, .val (.int .i64) x9)] [(25, .box 95 [.optr 25, .own 26]), (26, .row (.int .u8) 5 r26)] []) (zf38.K2 n)
theorem zf38.eq (n : Nat) (x0 : List Int) : zf38 n x0 = zf38.l3 n n (x0) ((↑(List.length x0) : Int)) (0) ([]) := by kernel_rfl
theorem zf38.l3_succ (n m3 : Nat) (x7 : List Int) (x8 x9 : Int) (r26 : List Int) : zf38.l3 n (m3 + 1) x7 x8 x9 r26 = (if x9 < x8 then (if 0 ≤ x9 then (if x9 < (↑(List.length x7) : Int) then (if List.getD x7 (Int.toNat x9) 0 < 0 then some (({ data := #[] }, Bool.false)) else (if List.getD x7 (Int.toNat x9) 0 > 99 then some (({ data := #[] }, Bool.false)) else ((zf127 n (List.getD x7 (Int.toNat x9) 0)).bind fun y0 => (if ByteArray.size { data := #[(32 : UInt8)] } + ByteArray.size y0 ≤ Go.Refl.maxN then ((zf129 n (r26, { data := #[(32 : UInt8)] } ++ y0)).bind fun y1 => zf38.l3 n m3 (x7) (x8) (Go.RowKit.wrap64 (x9 + 1)) y1.2.2) else none)))) else none) else none) else ((zf128 n r26).bind fun y2 => some ((y2, Bool.true)))) := by kernel_rfl
noncomputable abbrev zf38.sg (n : Nat) : Sig := ⟨zf38.ps, zf38.res, zf38 n⟩
theorem zf38.call : Callable Tryz.prog 121 := ⟨Tryz.f121, Tryz.func121, by kernel_rfl, by kernel_rfl⟩
theorem zf38.ok (n : Nat) : FC Tryz.prog [g4] 121 (zf38.sg n) :=
  evalF_ok (C := zf38.C) ⟨tb_ok, fun n _ _ h => tabOk (l := [(86, (zf127.sg n)), (65, (zf129.sg n)), (66, (zf128.sg n))]) (all_cons ⟨zf127.ok n, zf127.call⟩ (all_cons ⟨(.mono (gl := []) (gl' := [g4]) (all_nil) (zf129.ok n)), zf129.call⟩ (all_cons ⟨(.mono (gl := []) (gl' := [g4]) (all_nil) (zf128.ok n)), zf128.call⟩ (all_nil)))) h, mixed, ar_ok, bld_ok, pts_ok⟩ zf38.A Tryz.func121 zf38.ps zf38.res n
abbrev zf36.ps : List Pm := [.arg (.v (.slice (.int .i64)))]
abbrev zf36.res : List M := [.v .str, .v .bool]
noncomputable def zf36.C : Cfg := { tb := tb, tab := fun n f => Refl.look [(43, (zf23.sg n))] f, gl := [g4], ar := ar, bld := bld, pts := pts }
noncomputable def zf36.A : Ann := { joins := [], loops := [(3, { live := [4, 8, 9, 10], base := 24 })], ids := [(5, [(15, [])])], pids := [], nroots := 88 }
noncomputable def zf36 (n : Nat) (x : List Int) : Option (ByteArray × Bool) := evalF zf36.C zf36.A Tryz.f122 zf36.ps zf36.res n x
noncomputable def zf36.K0 (_ : Nat) : Kont (ByteArray × Bool) := finK zf36.C (Func.results Tryz.f122).toList zf36.ps zf36.res
noncomputable def zf36.K1 (n : Nat) : Kont (ByteArray × Bool) := seqK (fun s' k => joinE zf36.A.joins (codeAt Tryz.f122 [1, 1, 1]) (fun s'' => evalC zf36.C zf36.A n (codeAt Tryz.f122 [1, 1, 1]) s'' k) s') (zf36.K0 n)
noncomputable def zf36.K2 (n : Nat) : Kont (ByteArray × Bool) := blockK 0 (zf36.K1 n)
noncomputable def zf36.l3 (n m3 : Nat) (x4 : ByteArray) (x8 : List Int) (x9 x10 : Int) : Option (ByteArray × Bool) := loopE (cutAt zf36.A.loops (codeAt Tryz.f122 [1, 1, 0, 1, 0, 0])) (fun s k => evalC zf36.C zf36.A n (codeAt Tryz.f122 [1, 1, 0, 1, 0, 0]) s k) m3 (St.of 24 88 [(4, .val .str x4), (8, .val (.slice (.int .i64)) x8), (9, .val (.int .i64) x9), (10, .val (.int .i64) x10)] [] []) (zf36.K2 n)
theorem zf36.eq (n : Nat) (x0 : List Int) : zf36 n x0 = zf36.l3 n n ({ data := #[] }) (x0) ((↑(List.length x0) : Int)) (0) := by kernel_rfl
theorem zf36.l3_succ (n m3 : Nat) (x4 : ByteArray) (x8 : List Int) (x9 x10 : Int) : zf36.l3 n (m3 + 1) x4 x8 x9 x10 = (if x10 < x9 then (if 0 ≤ x10 then (if x10 < (↑(List.length x8) : Int) then ((zf23 n (List.getD x8 (Int.toNat x10) 0)).bind fun y0 => (if y0 = { data := #[] } then some (({ data := #[] }, Bool.false)) else (if ByteArray.size { data := #[(32 : UInt8)] } + ByteArray.size y0 ≤ Go.Refl.maxN then (if ByteArray.size x4 + ByteArray.size ({ data := #[(32 : UInt8)] } ++ y0) ≤ Go.Refl.maxN then zf36.l3 n m3 (x4 ++ ({ data := #[(32 : UInt8)] } ++ y0)) (x8) (x9) (Go.RowKit.wrap64 (x10 + 1)) else none) else none))) else none) else none) else some ((x4, Bool.true))) := by kernel_rfl
noncomputable abbrev zf36.sg (n : Nat) : Sig := ⟨zf36.ps, zf36.res, zf36 n⟩
theorem zf36.call : Callable Tryz.prog 122 := ⟨Tryz.f122, Tryz.func122, by kernel_rfl, by kernel_rfl⟩
theorem zf36.ok (n : Nat) : FC Tryz.prog [g4] 122 (zf36.sg n) :=
  evalF_ok (C := zf36.C) ⟨tb_ok, fun n _ _ h => tabOk (l := [(43, (zf23.sg n))]) (all_cons ⟨zf23.ok n, zf23.call⟩ (all_nil)) h, mixed, ar_ok, bld_ok, pts_ok⟩ zf36.A Tryz.func122 zf36.ps zf36.res n
abbrev zf37.ps : List Pm := [.arg (.v zt1)]
abbrev zf37.res : List M := [.v .str, .v .bool]
noncomputable def zf37.C : Cfg := { tb := tb, tab := fun n f => Refl.look [(86, (zf127.sg n)), (120, (zf27.sg n)), (121, (zf38.sg n)), (122, (zf36.sg n))] f, gl := [g4], ar := ar, bld := bld, pts := pts }
noncomputable def zf37.A : Ann := { joins := [], loops := [], ids := [(6, [(22, []), (28, []), (32, [])]), (7, [(36, []), (37, [])]), (10, [(48, []), (49, [])]), (13, [(59, []), (60, [])]), (16, [(80, [])])], pids := [], nroots := 166 }
noncomputable def zf37 (n : Nat) (x : Int × Int × Int × Int × List Int × Int × Int) : Option (ByteArray × Bool) := evalF zf37.C zf37.A Tryz.f61 zf37.ps zf37.res n x
theorem zf37.eq (n : Nat) (x0 : Int × Int × Int × Int × List Int × Int × Int) : zf37 n x0 = (if x0.1 = 0 then (if x0.1 = 0 then some (({ data := #[] }, Bool.true)) else (if x0.1 = 6 then ((zf127 n x0.2.2.2.2.2.1).bind fun y0 => (if ByteArray.size { data := #[(32 : UInt8)] } + ByteArray.size y0 ≤ Go.Refl.maxN then (if ByteArray.size ({ data := #[(32 : UInt8)] } ++ y0) + ByteArray.size { data := #[(32 : UInt8)] } ≤ Go.Refl.maxN then ((zf127 n x0.2.2.2.2.2.2).bind fun y1 => (if ByteArray.size ({ data := #[(32 : UInt8)] } ++ y0 ++ { data := #[(32 : UInt8)] }) + ByteArray.size y1 ≤ Go.Refl.maxN then ((zf27 n (x0.2.2.2.2.2.1, x0.2.2.2.2.2.2)).bind fun y2 => some (({ data := #[(32 : UInt8)] } ++ y0 ++ { data := #[(32 : UInt8)] } ++ y1, y2))) else none)) else none) else none)) else ((zf38 n (List.set (List.replicate 1 0) 0 x0.2.1)).bind fun y3 => (if x0.1 = 5 then some ((y3.1, y3.2)) else ((zf36 n (List.set (List.replicate 1 0) 0 x0.2.2.1)).bind fun y4 => (if x0.1 = 4 then ((zf36 n (List.set (List.replicate 1 0) 0 x0.2.2.2.1)).bind fun y5 => (if ByteArray.size y3.1 + ByteArray.size y4.1 ≤ Go.Refl.maxN then (if ByteArray.size (y3.1 ++ y4.1) + ByteArray.size y5.1 ≤ Go.Refl.maxN then (if y3.2 = Bool.true then (if y4.2 = Bool.true then some ((y3.1 ++ y4.1 ++ y5.1, y5.2)) else some ((y3.1 ++ y4.1 ++ y5.1, Bool.false))) else some ((y3.1 ++ y4.1 ++ y5.1, Bool.false))) else none) else none)) else (if x0.1 = 3 then ((zf38 n x0.2.2.2.2.1).bind fun y6 => (if ByteArray.size y3.1 + ByteArray.size y4.1 ≤ Go.Refl.maxN then (if ByteArray.size (y3.1 ++ y4.1) + ByteArray.size y6.1 ≤ Go.Refl.maxN then (if y3.2 = Bool.true then (if y4.2 = Bool.true then some ((y3.1 ++ y4.1 ++ y6.1, y6.2)) else some ((y3.1 ++ y4.1 ++ y6.1, Bool.false))) else some ((y3.1 ++ y4.1 ++ y6.1, Bool.false))) else none) else none)) else (if ByteArray.size y3.1 + ByteArray.size y4.1 ≤ Go.Refl.maxN then (if y3.2 = Bool.true then some ((y3.1 ++ y4.1, y4.2)) else some ((y3.1 ++ y4.1, Bool.false))) else none)))))))) else (if x0.1 = 7 then some (({ data := #[] }, Bool.true)) else (if x0.1 = 6 then ((zf127 n x0.2.2.2.2.2.1).bind fun y7 => (if ByteArray.size { data := #[(32 : UInt8)] } + ByteArray.size y7 ≤ Go.Refl.maxN then (if ByteArray.size ({ data := #[(32 : UInt8)] } ++ y7) + ByteArray.size { data := #[(32 : UInt8)] } ≤ Go.Refl.maxN then ((zf127 n x0.2.2.2.2.2.2).bind fun y8 => (if ByteArray.size ({ data := #[(32 : UInt8)] } ++ y7 ++ { data := #[(32 : UInt8)] }) + ByteArray.size y8 ≤ Go.Refl.maxN then ((zf27 n (x0.2.2.2.2.2.1, x0.2.2.2.2.2.2)).bind fun y9 => some (({ data := #[(32 : UInt8)] } ++ y7 ++ { data := #[(32 : UInt8)] } ++ y8, y9))) else none)) else none) else none)) else ((zf38 n (List.set (List.replicate 1 0) 0 x0.2.1)).bind fun y10 => (if x0.1 = 5 then some ((y10.1, y10.2)) else ((zf36 n (List.set (List.replicate 1 0) 0 x0.2.2.1)).bind fun y11 => (if x0.1 = 4 then ((zf36 n (List.set (List.replicate 1 0) 0 x0.2.2.2.1)).bind fun y12 => (if ByteArray.size y10.1 + ByteArray.size y11.1 ≤ Go.Refl.maxN then (if ByteArray.size (y10.1 ++ y11.1) + ByteArray.size y12.1 ≤ Go.Refl.maxN then (if y10.2 = Bool.true then (if y11.2 = Bool.true then some ((y10.1 ++ y11.1 ++ y12.1, y12.2)) else some ((y10.1 ++ y11.1 ++ y12.1, Bool.false))) else some ((y10.1 ++ y11.1 ++ y12.1, Bool.false))) else none) else none)) else (if x0.1 = 3 then ((zf38 n x0.2.2.2.2.1).bind fun y13 => (if ByteArray.size y10.1 + ByteArray.size y11.1 ≤ Go.Refl.maxN then (if ByteArray.size (y10.1 ++ y11.1) + ByteArray.size y13.1 ≤ Go.Refl.maxN then (if y10.2 = Bool.true then (if y11.2 = Bool.true then some ((y10.1 ++ y11.1 ++ y13.1, y13.2)) else some ((y10.1 ++ y11.1 ++ y13.1, Bool.false))) else some ((y10.1 ++ y11.1 ++ y13.1, Bool.false))) else none) else none)) else (if ByteArray.size y10.1 + ByteArray.size y11.1 ≤ Go.Refl.maxN then (if y10.2 = Bool.true then some ((y10.1 ++ y11.1, y11.2)) else some ((y10.1 ++ y11.1, Bool.false))) else none))))))))) := by kernel_rfl
noncomputable abbrev zf37.sg (n : Nat) : Sig := ⟨zf37.ps, zf37.res, zf37 n⟩
theorem zf37.call : Callable Tryz.prog 61 := ⟨Tryz.f61, Tryz.func61, by kernel_rfl, by kernel_rfl⟩
theorem zf37.ok (n : Nat) : FC Tryz.prog [g4] 61 (zf37.sg n) :=
  evalF_ok (C := zf37.C) ⟨tb_ok, fun n _ _ h => tabOk (l := [(86, (zf127.sg n)), (120, (zf27.sg n)), (121, (zf38.sg n)), (122, (zf36.sg n))]) (all_cons ⟨zf127.ok n, zf127.call⟩ (all_cons ⟨(.mono (gl := []) (gl' := [g4]) (all_nil) (zf27.ok n)), zf27.call⟩ (all_cons ⟨zf38.ok n, zf38.call⟩ (all_cons ⟨zf36.ok n, zf36.call⟩ (all_nil))))) h, mixed, ar_ok, bld_ok, pts_ok⟩ zf37.A Tryz.func61 zf37.ps zf37.res n
abbrev zf14.ps : List Pm := [.arg (.v zt1)]
abbrev zf14.res : List M := [.v .str]
noncomputable def zf14.C : Cfg := { tb := tb, tab := fun n f => Refl.look [(61, (zf37.sg n))] f, gl := [g0, g4], ar := ar, bld := bld, pts := pts }
noncomputable def zf14.A : Ann := { joins := [], loops := [], ids := [(3, [(15, [])])], pids := [], nroots := 90 }
noncomputable def zf14 (n : Nat) (x : Int × Int × Int × Int × List Int × Int × Int) : Option (ByteArray) := evalF zf14.C zf14.A Tryz.f16 zf14.ps zf14.res n x
theorem zf14.eq (n : Nat) (x0 : Int × Int × Int × Int × List Int × Int × Int) : zf14 n x0 = (if x0.1 < 0 then some ({ data := #[] }) else (if x0.1 > 7 then some ({ data := #[] }) else ((zf37 n (x0.1, x0.2.1, x0.2.2.1, x0.2.2.2.1, x0.2.2.2.2.1, x0.2.2.2.2.2.1, x0.2.2.2.2.2.2)).bind fun y0 => (if (!y0.2) = true then some ({ data := #[] }) else (if 0 ≤ x0.1 then (if x0.1 < (↑8 : Int) then (if ByteArray.size (List.getD [{ data := #[(106 : UInt8), (111 : UInt8), (105 : UInt8), (110 : UInt8)] }, { data := #[(115 : UInt8), (97 : UInt8), (118 : UInt8), (101 : UInt8)] }, { data := #[(116 : UInt8), (97 : UInt8), (107 : UInt8), (101 : UInt8)] }, { data := #[(108 : UInt8), (101 : UInt8), (110 : UInt8), (100 : UInt8)] }, { data := #[(114 : UInt8), (101 : UInt8), (112 : UInt8), (97 : UInt8), (121 : UInt8)] }, { data := #[(102 : UInt8), (97 : UInt8), (105 : UInt8), (108 : UInt8)] }, { data := #[(110 : UInt8), (105 : UInt8), (103 : UInt8), (104 : UInt8), (116 : UInt8)] }, { data := #[(115 : UInt8), (104 : UInt8), (97 : UInt8), (114 : UInt8), (101 : UInt8)] }] (Int.toNat x0.1) ByteArray.empty) + ByteArray.size y0.1 ≤ Go.Refl.maxN then some (List.getD [{ data := #[(106 : UInt8), (111 : UInt8), (105 : UInt8), (110 : UInt8)] }, { data := #[(115 : UInt8), (97 : UInt8), (118 : UInt8), (101 : UInt8)] }, { data := #[(116 : UInt8), (97 : UInt8), (107 : UInt8), (101 : UInt8)] }, { data := #[(108 : UInt8), (101 : UInt8), (110 : UInt8), (100 : UInt8)] }, { data := #[(114 : UInt8), (101 : UInt8), (112 : UInt8), (97 : UInt8), (121 : UInt8)] }, { data := #[(102 : UInt8), (97 : UInt8), (105 : UInt8), (108 : UInt8)] }, { data := #[(110 : UInt8), (105 : UInt8), (103 : UInt8), (104 : UInt8), (116 : UInt8)] }, { data := #[(115 : UInt8), (104 : UInt8), (97 : UInt8), (114 : UInt8), (101 : UInt8)] }] (Int.toNat x0.1) ByteArray.empty ++ y0.1) else none) else none) else none))))) := by kernel_rfl
noncomputable abbrev zf14.sg (n : Nat) : Sig := ⟨zf14.ps, zf14.res, zf14 n⟩
theorem zf14.call : Callable Tryz.prog 16 := ⟨Tryz.f16, Tryz.func16, by kernel_rfl, by kernel_rfl⟩
theorem zf14.ok (n : Nat) : FC Tryz.prog [g0, g4] 16 (zf14.sg n) :=
  evalF_ok (C := zf14.C) ⟨tb_ok, fun n _ _ h => tabOk (l := [(61, (zf37.sg n))]) (all_cons ⟨(.mono (gl := [g4]) (gl' := [g0, g4]) (all_cons (.tail _ (.head _)) (all_nil)) (zf37.ok n)), zf37.call⟩ (all_nil)) h, mixed, ar_ok, bld_ok, pts_ok⟩ zf14.A Tryz.func16 zf14.ps zf14.res n
abbrev zf16.ps : List Pm := [.arg (.v .str)]
abbrev zf16.res : List M := [.v zt1, .v .bool]
noncomputable def zf16.C : Cfg := { tb := tb, tab := fun n f => Refl.look [(57, (zf133.sg n)), (58, (zf34.sg n)), (16, (zf14.sg n))] f, gl := [g0, g2, g3, g4], ar := ar, bld := bld, pts := pts }
noncomputable def zf16.A : Ann := { joins := [], loops := [(3, { live := [0, 2, 4, 10, 11], base := 31 })], ids := [(6, [(22, [])]), (7, [(24, [])])], pids := [], nroots := 95 }
noncomputable def zf16 (n : Nat) (x : ByteArray) : Option zt11 := evalF zf16.C zf16.A Tryz.f13 zf16.ps zf16.res n x
noncomputable def zf16.K0 (_ : Nat) : Kont zt11 := finK zf16.C (Func.results Tryz.f13).toList zf16.ps zf16.res
noncomputable def zf16.K1 (n : Nat) : Kont zt11 := seqK (fun s' k => joinE zf16.A.joins (codeAt Tryz.f13 [1, 1, 1]) (fun s'' => evalC zf16.C zf16.A n (codeAt Tryz.f13 [1, 1, 1]) s'' k) s') (zf16.K0 n)
noncomputable def zf16.K2 (n : Nat) : Kont zt11 := blockK 0 (zf16.K1 n)
noncomputable def zf16.l3 (n m3 : Nat) (x0 : ByteArray) (x10 : List ByteArray) (x11 r31_0 : Int) (r31_1 r31_2 : Int) (r31_3 r31_5 r31_6 : Int) (r32 : List ByteArray) : Option zt11 := loopE (cutAt zf16.A.loops (codeAt Tryz.f13 [1, 1, 0, 1, 0, 0])) (fun s k => evalC zf16.C zf16.A n (codeAt Tryz.f13 [1, 1, 0, 1, 0, 0]) s k) m3 (St.of 31 95 [(0, .val .str x0), (2, .ptr 31 0 0), (4, .own 32), (10, .garr .str x10), (11, .val (.int .i64) x11)] [(31, .box 28 [.val (.int .i64) r31_0, .val (.int .i64) r31_1, .val (.int .i64) r31_2, .val (.int .i64) r31_3, .nils, .val (.int .i64) r31_5, .val (.int .i64) r31_6]), (32, .row .str 9 r32)] []) (zf16.K2 n)
theorem zf16.eq (n : Nat) (x0 : ByteArray) : zf16 n x0 = ((zf133 n (x0, { data := #[(32 : UInt8)] })).bind fun y0 => zf16.l3 n n (x0) ([{ data := #[(106 : UInt8), (111 : UInt8), (105 : UInt8), (110 : UInt8)] }, { data := #[(115 : UInt8), (97 : UInt8), (118 : UInt8), (101 : UInt8)] }, { data := #[(116 : UInt8), (97 : UInt8), (107 : UInt8), (101 : UInt8)] }, { data := #[(108 : UInt8), (101 : UInt8), (110 : UInt8), (100 : UInt8)] }, { data := #[(114 : UInt8), (101 : UInt8), (112 : UInt8), (97 : UInt8), (121 : UInt8)] }, { data := #[(102 : UInt8), (97 : UInt8), (105 : UInt8), (108 : UInt8)] }, { data := #[(110 : UInt8), (105 : UInt8), (103 : UInt8), (104 : UInt8), (116 : UInt8)] }, { data := #[(115 : UInt8), (104 : UInt8), (97 : UInt8), (114 : UInt8), (101 : UInt8)] }]) (0) (0) (0) (0) (0) (0) (0) (y0)) := by kernel_rfl
theorem zf16.l3_succ (n m3 : Nat) (x0 : ByteArray) (x10 : List ByteArray) (x11 r31_0 : Int) (r31_1 r31_2 : Int) (r31_3 r31_5 r31_6 : Int) (r32 : List ByteArray) : zf16.l3 n (m3 + 1) x0 x10 x11 r31_0 r31_1 r31_2 r31_3 r31_5 r31_6 r32 = (if x11 < 8 then (if List.length x10 = 8 then (if 0 ≤ x11 then (if x11 < (↑8 : Int) then (if 0 < (↑(List.length r32) : Int) then (if List.getD r32 0 ByteArray.empty = List.getD x10 (Int.toNat x11) ByteArray.empty then ((zf34 n (x11, r32)).bind fun y1 => ((zf14 n (y1.1, y1.2.1, y1.2.2.1, y1.2.2.2.1, y1.2.2.2.2.1, y1.2.2.2.2.2.1, y1.2.2.2.2.2.2)).bind fun y2 => (if y2 = x0 then some (((y1.1, y1.2.1, y1.2.2.1, y1.2.2.2.1, y1.2.2.2.2.1, y1.2.2.2.2.2.1, y1.2.2.2.2.2.2), Bool.true)) else some (((0, 0, 0, 0, [], 0, 0), Bool.false))))) else zf16.l3 n m3 (x0) (x10) (Go.RowKit.wrap64 (x11 + 1)) (r31_0) (r31_1) (r31_2) (r31_3) (r31_5) (r31_6) (r32)) else none) else none) else none) else none) else some (((0, 0, 0, 0, [], 0, 0), Bool.false))) := by kernel_rfl
noncomputable abbrev zf16.sg (n : Nat) : Sig := ⟨zf16.ps, zf16.res, zf16 n⟩
theorem zf16.call : Callable Tryz.prog 13 := ⟨Tryz.f13, Tryz.func13, by kernel_rfl, by kernel_rfl⟩
theorem zf16.ok (n : Nat) : FC Tryz.prog [g0, g2, g3, g4] 13 (zf16.sg n) :=
  evalF_ok (C := zf16.C) ⟨tb_ok, fun n _ _ h => tabOk (l := [(57, (zf133.sg n)), (58, (zf34.sg n)), (16, (zf14.sg n))]) (all_cons ⟨(.mono (gl := []) (gl' := [g0, g2, g3, g4]) (all_nil) (zf133.ok n)), zf133.call⟩ (all_cons ⟨(.mono (gl := [g2, g3, g4]) (gl' := [g0, g2, g3, g4]) (all_cons (.tail _ (.head _)) (all_cons (.tail _ (.tail _ (.head _))) (all_cons (.tail _ (.tail _ (.tail _ (.head _)))) (all_nil)))) (zf34.ok n)), zf34.call⟩ (all_cons ⟨(.mono (gl := [g0, g4]) (gl' := [g0, g2, g3, g4]) (all_cons (.head _) (all_cons (.tail _ (.tail _ (.tail _ (.head _)))) (all_nil))) (zf14.ok n)), zf14.call⟩ (all_nil)))) h, mixed, ar_ok, bld_ok, pts_ok⟩ zf16.A Tryz.func13 zf16.ps zf16.res n
abbrev zf19.ps : List Pm := [.arg (.v .str)]
abbrev zf19.res : List M := [(.own zt1 28)]
noncomputable def zf19.C : Cfg := { tb := tb, tab := fun n f => Refl.look [(63, (zf131.sg n)), (13, (zf16.sg n))] f, gl := [g0, g2, g3, g4], ar := ar, bld := bld, pts := pts }
noncomputable def zf19.A : Ann := { joins := [], loops := [(2, { live := [0, 3], base := 33, grow := [(3, 52, zt1, 28)] })], ids := [(3, [(14, [])]), (5, [(22, [])]), (7, [(29, [])])], pids := [], nroots := 97 }
noncomputable def zf19 (n : Nat) (x : ByteArray) : Option zt12 := evalF zf19.C zf19.A Tryz.f18 zf19.ps zf19.res n x
noncomputable def zf19.K0 (_ : Nat) : Kont zt12 := finK zf19.C (Func.results Tryz.f18).toList zf19.ps zf19.res
noncomputable def zf19.K1 (n : Nat) : Kont zt12 := seqK (fun s' k => joinE zf19.A.joins (codeAt Tryz.f18 [1, 1, 1]) (fun s'' => evalC zf19.C zf19.A n (codeAt Tryz.f18 [1, 1, 1]) s'' k) s') (zf19.K0 n)
noncomputable def zf19.K2 (n : Nat) : Kont zt12 := blockK 0 (zf19.K1 n)
noncomputable def zf19.l2 (n m2 : Nat) (x0 : ByteArray) (r33 : List zt14) : Option zt12 := loopE (cutAt zf19.A.loops (codeAt Tryz.f18 [1, 1, 0, 0, 0])) (fun s k => evalC zf19.C zf19.A n (codeAt Tryz.f18 [1, 1, 0, 0, 0]) s k) m2 (St.of 33 97 [(0, .val .str x0), (3, .own 33)] [(33, .row zt1 28 r33)] []) (zf19.K2 n)
theorem zf19.eq (n : Nat) (x0 : ByteArray) : zf19 n x0 = zf19.l2 n n (x0) ([]) := by kernel_rfl
theorem zf19.l2_succ (n m2 : Nat) (x0 : ByteArray) (r33 : List zt14) : zf19.l2 n (m2 + 1) x0 r33 = (if (↑(List.length r33) : Int) < 30 then ((zf131 n (x0, { data := #[(10 : UInt8)] })).bind fun y0 => (if (!y0.2.2) = true then some (r33) else ((zf16 n y0.1).bind fun y1 => (if (!y1.2) = true then some (r33) else (if List.length r33 + List.length (List.set (List.replicate (1 : Nat) ((0 : Int), (0 : Int), (0 : Int), (0 : Int), [], (0 : Int), (0 : Int))) (0 : Nat) (y1.1.1, y1.1.2.1, y1.1.2.2.1, y1.1.2.2.2.1, y1.1.2.2.2.2.1, y1.1.2.2.2.2.2.1, y1.1.2.2.2.2.2.2)) ≤ Go.Refl.maxN then zf19.l2 n m2 y0.2.1 (r33 ++ List.set (List.replicate 1 (0, 0, 0, 0, [], 0, 0)) 0 (y1.1.1, y1.1.2.1, y1.1.2.2.1, y1.1.2.2.2.1, y1.1.2.2.2.2.1, y1.1.2.2.2.2.2.1, y1.1.2.2.2.2.2.2)) else none))))) else some (r33)) := by kernel_rfl
noncomputable abbrev zf19.sg (n : Nat) : Sig := ⟨zf19.ps, zf19.res, zf19 n⟩
theorem zf19.call : Callable Tryz.prog 18 := ⟨Tryz.f18, Tryz.func18, by kernel_rfl, by kernel_rfl⟩
theorem zf19.ok (n : Nat) : FC Tryz.prog [g0, g2, g3, g4] 18 (zf19.sg n) :=
  evalF_ok (C := zf19.C) ⟨tb_ok, fun n _ _ h => tabOk (l := [(63, (zf131.sg n)), (13, (zf16.sg n))]) (all_cons ⟨(.mono (gl := []) (gl' := [g0, g2, g3, g4]) (all_nil) (zf131.ok n)), zf131.call⟩ (all_cons ⟨zf16.ok n, zf16.call⟩ (all_nil))) h, mixed, ar_ok, bld_ok, pts_ok⟩ zf19.A Tryz.func18 zf19.ps zf19.res n
abbrev zf118.ps : List Pm := [.arg (.v .str), .arg (.v (.int .u8))]
abbrev zf118.res : List M := [(.own .str 9)]
noncomputable def zf118.C : Cfg := { tb := tb, tab := fun n f => Refl.look [] f, gl := [], ar := ar, bld := bld, pts := pts }
noncomputable def zf118.A : Ann := { joins := [], loops := [(4, { live := [0, 1, 5, 6, 7], base := 35 })], ids := [(7, [(25, [])]), (9, [(33, [])])], pids := [], nroots := 99 }
noncomputable def zf118 (n : Nat) (x : ByteArray × Int) : Option (List ByteArray) := evalF zf118.C zf118.A Tryz.f119 zf118.ps zf118.res n x
noncomputable def zf118.K0 (_ : Nat) : Kont (List ByteArray) := finK zf118.C (Func.results Tryz.f119).toList zf118.ps zf118.res
noncomputable def zf118.K1 (n : Nat) : Kont (List ByteArray) := seqK (fun s' k => joinE zf118.A.joins (codeAt Tryz.f119 [1, 1, 1, 1]) (fun s'' => evalC zf118.C zf118.A n (codeAt Tryz.f119 [1, 1, 1, 1]) s'' k) s') (zf118.K0 n)
noncomputable def zf118.K2 (n : Nat) : Kont (List ByteArray) := blockK 0 (zf118.K1 n)
noncomputable def zf118.l4 (n m4 : Nat) (x0 : ByteArray) (x1 x6 x7 : Int) (r35 : List ByteArray) : Option (List ByteArray) := loopE (cutAt zf118.A.loops (codeAt Tryz.f119 [1, 1, 1, 0, 1, 0, 0])) (fun s k => evalC zf118.C zf118.A n (codeAt Tryz.f119 [1, 1, 1, 0, 1, 0, 0]) s k) m4 (St.of 35 99 [(0, .val .str x0), (1, .val (.int .u8) x1), (5, .own 35), (6, .val (.int .i64) x6), (7, .val (.int .i64) x7)] [(35, .row .str 9 r35)] []) (zf118.K2 n)
theorem zf118.eq (n : Nat) (x0 : ByteArray) (x1 : Int) : zf118 n (x0, x1) = zf118.l4 n n (x0) (x1) (0) (0) (List.replicate 0 ByteArray.empty) := by kernel_rfl
theorem zf118.l4_succ (n m4 : Nat) (x0 : ByteArray) (x1 x6 x7 : Int) (r35 : List ByteArray) : zf118.l4 n (m4 + 1) x0 x1 x6 x7 r35 = (if x7 < (↑(ByteArray.size x0) : Int) then (if 0 ≤ x7 then (if x7 < (↑(ByteArray.size x0) : Int) then (if (↑(UInt8.toNat (List.getD (Array.toList (ByteArray.data x0)) (Int.toNat x7) (0 : UInt8))) : Int) = x1 then (if 0 ≤ x6 then (if x6 ≤ x7 then (if x7 ≤ (↑(ByteArray.size x0) : Int) then (if List.length r35 + List.length (List.set (List.replicate (1 : Nat) ByteArray.empty) (0 : Nat) (ByteArray.extract x0 (Int.toNat x6) (Int.toNat x7))) ≤ Go.Refl.maxN then zf118.l4 n m4 (x0) (x1) (Go.RowKit.wrap64 (x7 + 1)) (Go.RowKit.wrap64 (x7 + 1)) (r35 ++ List.set (List.replicate 1 ByteArray.empty) 0 (ByteArray.extract x0 (Int.toNat x6) (Int.toNat x7))) else none) else none) else none) else none) else zf118.l4 n m4 (x0) (x1) (x6) (Go.RowKit.wrap64 (x7 + 1)) (r35)) else none) else none) else (if 0 ≤ x6 then (if x6 ≤ (↑(ByteArray.size x0) : Int) then (if List.length r35 + List.length (List.set (List.replicate (1 : Nat) ByteArray.empty) (0 : Nat) (ByteArray.extract x0 (Int.toNat x6) (ByteArray.size x0))) ≤ Go.Refl.maxN then some (r35 ++ List.set (List.replicate 1 ByteArray.empty) 0 (ByteArray.extract x0 (Int.toNat x6) (ByteArray.size x0))) else none) else none) else none)) := by kernel_rfl
noncomputable abbrev zf118.sg (n : Nat) : Sig := ⟨zf118.ps, zf118.res, zf118 n⟩
theorem zf118.call : Callable Tryz.prog 119 := ⟨Tryz.f119, Tryz.func119, by kernel_rfl, by kernel_rfl⟩
theorem zf118.ok (n : Nat) : FC Tryz.prog [] 119 (zf118.sg n) :=
  evalF_ok (C := zf118.C) ⟨tb_ok, fun n _ _ h => tabOk (l := []) (all_nil) h, mixed, ar_ok, bld_ok, pts_ok⟩ zf118.A Tryz.func119 zf118.ps zf118.res n
abbrev zf104.ps : List Pm := [.arg (.v .str)]
abbrev zf104.res : List M := [.v (.int .i64)]
noncomputable def zf104.C : Cfg := { tb := tb, tab := fun n f => Refl.look [(111, (zf98.sg n))] f, gl := [], ar := ar, bld := bld, pts := pts }
noncomputable def zf104.A : Ann := { joins := [], loops := [(3, { live := [0, 3, 4], base := 42 })], ids := [(8, [(38, [])])], pids := [], nroots := 106 }
noncomputable def zf104 (n : Nat) (x : ByteArray) : Option (Int) := evalF zf104.C zf104.A Tryz.f162 zf104.ps zf104.res n x
noncomputable def zf104.K0 (_ : Nat) : Kont (Int) := finK zf104.C (Func.results Tryz.f162).toList zf104.ps zf104.res
noncomputable def zf104.K1 (n : Nat) : Kont (Int) := seqK (fun s' k => joinE zf104.A.joins (codeAt Tryz.f162 [1, 1, 1]) (fun s'' => evalC zf104.C zf104.A n (codeAt Tryz.f162 [1, 1, 1]) s'' k) s') (zf104.K0 n)
noncomputable def zf104.K2 (n : Nat) : Kont (Int) := blockK 0 (zf104.K1 n)
noncomputable def zf104.l3 (n m3 : Nat) (x0 : ByteArray) (x3 x4 : Int) : Option (Int) := loopE (cutAt zf104.A.loops (codeAt Tryz.f162 [1, 1, 0, 1, 0, 0])) (fun s k => evalC zf104.C zf104.A n (codeAt Tryz.f162 [1, 1, 0, 1, 0, 0]) s k) m3 (St.of 42 106 [(0, .val .str x0), (3, .val (.int .i64) x3), (4, .val (.int .i64) x4)] [] []) (zf104.K2 n)
theorem zf104.eq (n : Nat) (x0 : ByteArray) : zf104 n x0 = zf104.l3 n n (x0) (0) (0) := by kernel_rfl
theorem zf104.l3_succ (n m3 : Nat) (x0 : ByteArray) (x3 x4 : Int) : zf104.l3 n (m3 + 1) x0 x3 x4 = (if x4 < (↑(ByteArray.size x0) : Int) then (if 0 ≤ x4 then (if x4 < (↑(ByteArray.size x0) : Int) then (if (↑(UInt8.toNat (List.getD (Array.toList (ByteArray.data x0)) (Int.toNat x4) (0 : UInt8))) : Int) < 48 then some ((-1)) else (if 0 ≤ x4 then (if x4 < (↑(ByteArray.size x0) : Int) then (if (↑(UInt8.toNat (List.getD (Array.toList (ByteArray.data x0)) (Int.toNat x4) (0 : UInt8))) : Int) > 57 then some ((-1)) else (if x3 > 999999 then some ((-1)) else (if 0 ≤ x4 then (if x4 < (↑(ByteArray.size x0) : Int) then zf104.l3 n m3 (x0) (Go.RowKit.wrap64 (Go.RowKit.wrap64 (10 * x3) + Go.RowKit.wrap64 (((↑(UInt8.toNat (List.getD (Array.toList (ByteArray.data x0)) (Int.toNat x4) (0 : UInt8))) : Int) - 48) % 256))) (Go.RowKit.wrap64 (x4 + 1)) else none) else none))) else none) else none)) else none) else none) else (if x0 = { data := #[] } then some ((-1)) else ((zf98 n x3).bind fun y0 => (if x0 = y0 then some (x3) else some ((-1)))))) := by kernel_rfl
noncomputable abbrev zf104.sg (n : Nat) : Sig := ⟨zf104.ps, zf104.res, zf104 n⟩
theorem zf104.call : Callable Tryz.prog 162 := ⟨Tryz.f162, Tryz.func162, by kernel_rfl, by kernel_rfl⟩
theorem zf104.ok (n : Nat) : FC Tryz.prog [] 162 (zf104.sg n) :=
  evalF_ok (C := zf104.C) ⟨tb_ok, fun n _ _ h => tabOk (l := [(111, (zf98.sg n))]) (all_cons ⟨zf98.ok n, zf98.call⟩ (all_nil)) h, mixed, ar_ok, bld_ok, pts_ok⟩ zf104.A Tryz.func162 zf104.ps zf104.res n
abbrev zf103.ps : List Pm := [.arg (.v .str)]
abbrev zf103.res : List M := [.v (.int .i64)]
noncomputable def zf103.C : Cfg := { tb := tb, tab := fun n f => Refl.look [] f, gl := [], ar := ar, bld := bld, pts := pts }
noncomputable def zf103.A : Ann := { joins := [], loops := [(5, { live := [0, 3, 4], base := 63 })], ids := [], pids := [], nroots := 127 }
noncomputable def zf103 (n : Nat) (x : ByteArray) : Option (Int) := evalF zf103.C zf103.A Tryz.f174 zf103.ps zf103.res n x
noncomputable def zf103.K0 (_ : Nat) : Kont (Int) := finK zf103.C (Func.results Tryz.f174).toList zf103.ps zf103.res
noncomputable def zf103.K1 (n : Nat) : Kont (Int) := seqK (fun s' k => joinE zf103.A.joins (codeAt Tryz.f174 [1, 1, 1, 1]) (fun s'' => evalC zf103.C zf103.A n (codeAt Tryz.f174 [1, 1, 1, 1]) s'' k) s') (zf103.K0 n)
noncomputable def zf103.K2 (n : Nat) : Kont (Int) := blockK 0 (zf103.K1 n)
noncomputable def zf103.l5 (n m5 : Nat) (x0 : ByteArray) (x3 x4 : Int) : Option (Int) := loopE (cutAt zf103.A.loops (codeAt Tryz.f174 [1, 1, 1, 0, 1, 0, 0])) (fun s k => evalC zf103.C zf103.A n (codeAt Tryz.f174 [1, 1, 1, 0, 1, 0, 0]) s k) m5 (St.of 63 127 [(0, .val .str x0), (3, .val (.int .i64) x3), (4, .val (.int .i64) x4)] [] []) (zf103.K2 n)
theorem zf103.eq (n : Nat) (x0 : ByteArray) : zf103 n x0 = (if (↑(ByteArray.size x0) : Int) < 4 then some ((-1)) else (if (↑(ByteArray.size x0) : Int) > 10 then some ((-1)) else (if 0 ≤ Go.RowKit.wrap64 ((↑(ByteArray.size x0) : Int) - 3) then (if Go.RowKit.wrap64 ((↑(ByteArray.size x0) : Int) - 3) < (↑(ByteArray.size x0) : Int) then (if (↑(UInt8.toNat (List.getD (Array.toList (ByteArray.data x0)) (Int.toNat (Go.RowKit.wrap64 ((↑(ByteArray.size x0) : Int) - 3))) (0 : UInt8))) : Int) = 46 then (if 0 < (↑(ByteArray.size x0) : Int) then (if (↑(UInt8.toNat (List.getD (Array.toList (ByteArray.data x0)) (Int.toNat 0) (0 : UInt8))) : Int) = 48 then (if (↑(ByteArray.size x0) : Int) > 4 then some ((-1)) else zf103.l5 n n (x0) (0) (0)) else zf103.l5 n n (x0) (0) (0)) else none) else some ((-1))) else none) else none))) := by kernel_rfl
theorem zf103.l5_succ (n m5 : Nat) (x0 : ByteArray) (x3 x4 : Int) : zf103.l5 n (m5 + 1) x0 x3 x4 = (if x4 < (↑(ByteArray.size x0) : Int) then (if x4 = Go.RowKit.wrap64 ((↑(ByteArray.size x0) : Int) - 3) then zf103.l5 n m5 (x0) (x3) (Go.RowKit.wrap64 (x4 + 1)) else (if 0 ≤ x4 then (if x4 < (↑(ByteArray.size x0) : Int) then (if (↑(UInt8.toNat (List.getD (Array.toList (ByteArray.data x0)) (Int.toNat x4) (0 : UInt8))) : Int) < 48 then some ((-1)) else (if 0 ≤ x4 then (if x4 < (↑(ByteArray.size x0) : Int) then (if (↑(UInt8.toNat (List.getD (Array.toList (ByteArray.data x0)) (Int.toNat x4) (0 : UInt8))) : Int) > 57 then some ((-1)) else (if 0 ≤ x4 then (if x4 < (↑(ByteArray.size x0) : Int) then zf103.l5 n m5 (x0) (Go.RowKit.wrap64 (Go.RowKit.wrap64 (10 * x3) + Go.RowKit.wrap64 (((↑(UInt8.toNat (List.getD (Array.toList (ByteArray.data x0)) (Int.toNat x4) (0 : UInt8))) : Int) - 48) % 256))) (Go.RowKit.wrap64 (x4 + 1)) else none) else none)) else none) else none)) else none) else none)) else (if x3 > 1000000 then some ((-1)) else some (x3))) := by kernel_rfl
noncomputable abbrev zf103.sg (n : Nat) : Sig := ⟨zf103.ps, zf103.res, zf103 n⟩
theorem zf103.call : Callable Tryz.prog 174 := ⟨Tryz.f174, Tryz.func174, by kernel_rfl, by kernel_rfl⟩
theorem zf103.ok (n : Nat) : FC Tryz.prog [] 174 (zf103.sg n) :=
  evalF_ok (C := zf103.C) ⟨tb_ok, fun n _ _ h => tabOk (l := []) (all_nil) h, mixed, ar_ok, bld_ok, pts_ok⟩ zf103.A Tryz.func174 zf103.ps zf103.res n
abbrev zf102.ps : List Pm := [.arg (.v (.slice .str))]
abbrev zf102.res : List M := [.v zt1]
noncomputable def zf102.C : Cfg := { tb := tb, tab := fun n f => Refl.look [(162, (zf104.sg n)), (174, (zf103.sg n))] f, gl := [], ar := ar, bld := bld, pts := pts }
noncomputable def zf102.A : Ann := { joins := [], loops := [(3, { live := [0, 2, 3, 4], base := 31, growB := [(3, 4, 59, (.int .i64), 3)] })], ids := [(1, [(8, []), (12, [])]), (5, [(26, []), (27, [])])], pids := [], nroots := 95 }
noncomputable def zf102 (n : Nat) (x : List ByteArray) : Option zt14 := evalF zf102.C zf102.A Tryz.f175 zf102.ps zf102.res n x
noncomputable def zf102.K0 (_ : Nat) : Kont zt14 := finK zf102.C (Func.results Tryz.f175).toList zf102.ps zf102.res
noncomputable def zf102.K1 (n : Nat) : Kont zt14 := seqK (fun s' k => joinE zf102.A.joins (codeAt Tryz.f175 [1, 1, 1]) (fun s'' => evalC zf102.C zf102.A n (codeAt Tryz.f175 [1, 1, 1]) s'' k) s') (zf102.K0 n)
noncomputable def zf102.K2 (n : Nat) : Kont zt14 := blockK 0 (zf102.K1 n)
noncomputable def zf102.l3 (n m3 : Nat) (x0 : List ByteArray) (x4 r31_0 : Int) (r31_1 r31_2 : Int) (r31_3 r31_5 : Int) (r31_6 r32_0 : Int) (r32_1 r32_2 : Int) (r32_3 r32_5 r32_6 : Int) (r33 : List Int) : Option zt14 := loopE (cutAt zf102.A.loops (codeAt Tryz.f175 [1, 1, 0, 1, 0, 0])) (fun s k => evalC zf102.C zf102.A n (codeAt Tryz.f175 [1, 1, 0, 1, 0, 0]) s k) m3 (St.of 31 95 [(0, .val (.slice .str) x0), (2, .ptr 31 0 0), (3, .ptr 32 0 0), (4, .val (.int .i64) x4)] [(31, .box 28 [.val (.int .i64) r31_0, .val (.int .i64) r31_1, .val (.int .i64) r31_2, .val (.int .i64) r31_3, .nils, .val (.int .i64) r31_5, .val (.int .i64) r31_6]), (32, .box 28 [.val (.int .i64) r32_0, .val (.int .i64) r32_1, .val (.int .i64) r32_2, .val (.int .i64) r32_3, .own 33, .val (.int .i64) r32_5, .val (.int .i64) r32_6]), (33, .row (.int .i64) 3 r33)] []) (zf102.K2 n)
theorem zf102.eq (n : Nat) (x0 : List ByteArray) : zf102 n x0 = (if 1 < (↑(List.length x0) : Int) then ((zf104 n (List.getD x0 1 ByteArray.empty)).bind fun y0 => (if 2 < (↑(List.length x0) : Int) then ((zf103 n (List.getD x0 2 ByteArray.empty)).bind fun y1 => zf102.l3 n n (x0) (3) (0) (0) (0) (0) (0) (0) (3) (y0) (y1) (0) (0) (0) ([])) else none)) else none) := by kernel_rfl
theorem zf102.l3_succ (n m3 : Nat) (x0 : List ByteArray) (x4 r31_0 : Int) (r31_1 r31_2 : Int) (r31_3 r31_5 : Int) (r31_6 r32_0 : Int) (r32_1 r32_2 : Int) (r32_3 r32_5 r32_6 : Int) (r33 : List Int) : zf102.l3 n (m3 + 1) x0 x4 r31_0 r31_1 r31_2 r31_3 r31_5 r31_6 r32_0 r32_1 r32_2 r32_3 r32_5 r32_6 r33 = (if x4 < (↑(List.length x0) : Int) then (if 0 ≤ x4 then (if x4 < (↑(List.length x0) : Int) then ((zf104 n (List.getD x0 (Int.toNat x4) ByteArray.empty)).bind fun y2 => (if List.length r33 + List.length (List.set (List.replicate (1 : Nat) (0 : Int)) (0 : Nat) y2) ≤ Go.Refl.maxN then zf102.l3 n m3 (x0) (Go.RowKit.wrap64 (x4 + 1)) (r31_0) (r31_1) (r31_2) (r31_3) (r31_5) (r31_6) (r32_0) (r32_1) (r32_2) (r32_3) (r32_5) (r32_6) (r33 ++ List.set (List.replicate 1 0) 0 y2) else none)) else none) else none) else some ((r32_0, r32_1, r32_2, r32_3, r33, r32_5, r32_6))) := by kernel_rfl
noncomputable abbrev zf102.sg (n : Nat) : Sig := ⟨zf102.ps, zf102.res, zf102 n⟩
theorem zf102.call : Callable Tryz.prog 175 := ⟨Tryz.f175, Tryz.func175, by kernel_rfl, by kernel_rfl⟩
theorem zf102.ok (n : Nat) : FC Tryz.prog [] 175 (zf102.sg n) :=
  evalF_ok (C := zf102.C) ⟨tb_ok, fun n _ _ h => tabOk (l := [(162, (zf104.sg n)), (174, (zf103.sg n))]) (all_cons ⟨zf104.ok n, zf104.call⟩ (all_cons ⟨zf103.ok n, zf103.call⟩ (all_nil))) h, mixed, ar_ok, bld_ok, pts_ok⟩ zf102.A Tryz.func175 zf102.ps zf102.res n
end Go.Proofs.YtmnmbjnhhhdegaaGreatDoorG
end
