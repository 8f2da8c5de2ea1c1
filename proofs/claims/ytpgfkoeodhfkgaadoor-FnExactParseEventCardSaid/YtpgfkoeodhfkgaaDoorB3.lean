import Derived.Test.YtpgfkoeodhfkgaaDoorProg
import Derived.Test.YtpgfkoeodhfkgaaDoorB2
/- FnExactParseEvent: functions, gone through by the small machine. No condition. -/
set_option linter.unusedVariables false
set_option linter.unusedSimpArgs false
section
set_option linter.unusedVariables false
namespace Go.Proofs
open Go Go.Shelf Go.RowKit Go.Refl
set_option maxHeartbeats 2000000 in
set_option maxRecDepth 100000 in
theorem Tryd.cc : CcOk Tryd.prog 80 71 := by
 intro b p v w hbk hp
 have X1 : (Tryd.prog.info? 71).map (·.size) = some 2 := by kernel_rfl
 have X2 : liesAt Tryd.prog Tryd.prog.depth 71 (2 / Tryd.prog.cellsOf 71) 0 71 1 = true := by kernel_rfl
 obtain ⟨j, hj, hjs⟩ := Option.map_eq_some_iff.1 X1
 have u72 := run_underlying (P := Tryd.prog) Tryd.underlying71
 have u70 := run_underlying (P := Tryd.prog) Tryd.underlying69
 have u164 := run_underlying (P := Tryd.prog) Tryd.underlying117
 rcases hp with rfl | rfl
 ·have h0 : w.cell? ⟨b, 0, none⟩ = some (.pointer none) := by rw [Lib.cell_of_heap hbk]; rfl
  have hsh : w.shape? b = some (71, 2) := by simp [World.shape?, hbk]
  have hfz : w.frozen? ⟨b, 0, none⟩ = false := Lib.frozen_of_heap hbk 0
  suffices hs : Calls Tryd.prog 80 #[.pointer (some ⟨b, 0, none⟩)] w fun e w' => e = .returned (.tuple #[]) ∧ w' = w.setCell ⟨b, 0, none⟩ (.pointer (some ⟨b, 0, none⟩)) by
   refine hs.mono ?_
   rintro e w' ⟨rfl, rfl⟩
   exact ⟨rfl, by simp [World.setCell, Array.getElem?_modify, hbk], evol_set w b 0 _, by simp [World.setCell]⟩
  go_enter Tryd.func80, Tryd.ntmps80
  go_wp2
  rw [Lib.run_to_unsafe w ⟨b, 0, none⟩ Tryd.underlying69 Tryd.underlying117 hj (by rw [hjs]; decide) hsh (Nat.zero_lt_succ 1)]
  simp only [Result.andThen]
  rw [Oper.upon_value]
  go_wp2
  rw [run_callFunc_extern Tryd.func100 (by kernel_rfl) (by kernel_rfl) (by kernel_rfl) (e := Extern.AbiNoEscape.same) (by kernel_rfl)]
  rw [Lib.run_noEscape]
  simp only [Result.andThen]
  rw [Oper.upon_value]
  go_wp2
  rw [Lib.run_from_unsafe w ⟨b, 0, none⟩ Tryd.underlying117 Tryd.underlying69 hj hsh X2]
  simp only [Result.andThen]
  rw [Oper.upon_value]
  go_wp2
  go_end0
  exact ⟨rfl, rfl⟩
 ·have h0 : w.cell? ⟨b, 0, none⟩ = some (.pointer (some ⟨b, 0, none⟩)) := by rw [Lib.cell_of_heap hbk]; rfl
  suffices hs : Calls Tryd.prog 80 #[.pointer (some ⟨b, 0, none⟩)] w fun e w' => e = .returned (.tuple #[]) ∧ w' = w by
   refine hs.mono ?_
   rintro e w' ⟨rfl, rfl⟩
   exact ⟨rfl, hbk, ⟨rfl, rfl, rfl, Nat.le_refl _, fun _ _ _ => rfl⟩, rfl⟩
  go_enter Tryd.func80, Tryd.ntmps80
  go_wp2
  rw [Lib.run_neq_ptr_same w _ Tryd.underlying69 hj]
  go_wp2
  go_end0
  exact ⟨rfl, rfl⟩
def Tryd.lays169_ren : Go.Shelf.Ren := ⟨fun | 169 => 49 | n => n, fun | 70 => 69 | 9 => 9 | 0 => 0 | 72 => 71 | 37 => 49 | 127 => 104 | 3 => 3 | 5 => 5 | n => n, fun | n => n⟩
theorem Tryd.lays169 : Go.Proofs.Lays.n169 Tryd.prog Tryd.lays169_ren := {
 mixed := by kernel_rfl
 f169 := Tryd.func49.trans (congrArg some (by kernel_rfl))
 t0 := Tryd.underlying0
 a0 := Tryd.isAgg0
 z0 := Tryd.sizeOf0
 v0 := Tryd.zeroValue0
 t3 := Tryd.underlying3
 a3 := Tryd.isAgg3
 z3 := Tryd.sizeOf3
 v3 := Tryd.zeroValue3
 t9 := Tryd.underlying9
 a9 := Tryd.isAgg9
 z9 := Tryd.sizeOf9
 v9 := Tryd.zeroValue9
 t37 := Tryd.underlying49
 a37 := Tryd.isAgg49
 z37 := Tryd.sizeOf49
 v37 := Tryd.zeroValue49
 t70 := Tryd.underlying69
 a70 := Tryd.isAgg69
 z70 := Tryd.sizeOf69
 v70 := Tryd.zeroValue69
 t72 := Tryd.underlying71
 a72 := Tryd.isAgg71
 z72 := Tryd.sizeOf71
 v72 := Tryd.zeroValue71
 t127 := Tryd.underlying104
 a127 := Tryd.isAgg104
 z127 := Tryd.sizeOf104
 v127 := Tryd.zeroValue104 }
theorem Tryd.Builder_Extra_169 : Builder.Extra Tryd.prog Tryd.lays169_ren := {
 sizeBuilder := by kernel_rfl
 liesBuilder := by kernel_rfl
 t5 := Tryd.underlying5
 a5 := Tryd.isAgg5
 z5 := Tryd.sizeOf5
 v5 := Tryd.zeroValue5
 infoByte := by kernel_rfl
 cellsByte := by kernel_rfl
 sizeByte := by kernel_rfl
 neB5 := by decide }
def Tryd.laysM171_ren : Go.Shelf.Ren := ⟨fun | 171 => 47 | 243 => 81 | 246 => 101 | 283 => 111 | 284 => 112 | 285 => 113 | 286 => 114 | 129 => 128 | 317 => 127 | 318 => 129 | 319 => 130 | 320 => 131 | 337 => 137 | 338 => 138 | n => n, fun | 3 => 3 | 9 => 9 | 2 => 2 | 4 => 4 | 171 => 125 | 0 => 0 | 53 => 126 | 37 => 49 | 5 => 5 | 173 => 129 | 212 => 141 | 51 => 142 | 20 => 20 | 213 => 143 | 46 => 139 | 232 => 162 | 233 => 163 | n => n, fun | 17 => 2 | 18 => 7 | 19 => 8 | n => n⟩
theorem Tryd.laysM171 : Go.Proofs.LaysM.n171 Tryd.prog Tryd.laysM171_ren := {
 mixed := by kernel_rfl
 f129 := Tryd.func128.trans (congrArg some (by kernel_rfl))
 f171 := Tryd.func47.trans (congrArg some (by kernel_rfl))
 f243 := Tryd.func81.trans (congrArg some (by kernel_rfl))
 f246 := Tryd.func101.trans (congrArg some (by kernel_rfl))
 f283 := Tryd.func111.trans (congrArg some (by kernel_rfl))
 f284 := Tryd.func112.trans (congrArg some (by kernel_rfl))
 f285 := Tryd.func113.trans (congrArg some (by kernel_rfl))
 f286 := Tryd.func114.trans (congrArg some (by kernel_rfl))
 f317 := Tryd.func127.trans (congrArg some (by kernel_rfl))
 f318 := Tryd.func129.trans (congrArg some (by kernel_rfl))
 f319 := Tryd.func130.trans (congrArg some (by kernel_rfl))
 f320 := Tryd.func131.trans (congrArg some (by kernel_rfl))
 f337 := Tryd.func137.trans (congrArg some (by kernel_rfl))
 f338 := Tryd.func138.trans (congrArg some (by kernel_rfl))
 t0 := Tryd.underlying0
 a0 := Tryd.isAgg0
 z0 := Tryd.sizeOf0
 v0 := Tryd.zeroValue0
 t2 := Tryd.underlying2
 a2 := Tryd.isAgg2
 z2 := Tryd.sizeOf2
 v2 := Tryd.zeroValue2
 t3 := Tryd.underlying3
 a3 := Tryd.isAgg3
 z3 := Tryd.sizeOf3
 v3 := Tryd.zeroValue3
 t4 := Tryd.underlying4
 a4 := Tryd.isAgg4
 z4 := Tryd.sizeOf4
 v4 := Tryd.zeroValue4
 t5 := Tryd.underlying5
 a5 := Tryd.isAgg5
 z5 := Tryd.sizeOf5
 v5 := Tryd.zeroValue5
 t9 := Tryd.underlying9
 a9 := Tryd.isAgg9
 z9 := Tryd.sizeOf9
 v9 := Tryd.zeroValue9
 t20 := Tryd.underlying20
 a20 := Tryd.isAgg20
 z20 := Tryd.sizeOf20
 v20 := Tryd.zeroValue20
 t37 := Tryd.underlying49
 a37 := Tryd.isAgg49
 z37 := Tryd.sizeOf49
 v37 := Tryd.zeroValue49
 t46 := Tryd.underlying139
 a46 := Tryd.isAgg139
 z46 := Tryd.sizeOf139
 v46 := Tryd.zeroValue139
 t51 := Tryd.underlying142
 a51 := Tryd.isAgg142
 z51 := Tryd.sizeOf142
 v51 := Tryd.zeroValue142
 t53 := Tryd.underlying126
 a53 := Tryd.isAgg126
 z53 := Tryd.sizeOf126
 v53 := Tryd.zeroValue126
 t171 := Tryd.underlying125
 a171 := Tryd.isAgg125
 z171 := Tryd.sizeOf125
 v171 := Tryd.zeroValue125
 t173 := Tryd.underlying129
 a173 := Tryd.isAgg129
 z173 := Tryd.sizeOf129
 v173 := Tryd.zeroValue129
 t212 := Tryd.underlying141
 a212 := Tryd.isAgg141
 z212 := Tryd.sizeOf141
 v212 := Tryd.zeroValue141
 t213 := Tryd.underlying143
 a213 := Tryd.isAgg143
 z213 := Tryd.sizeOf143
 t232 := Tryd.underlying162
 a232 := Tryd.isAgg162
 z232 := Tryd.sizeOf162
 v232 := Tryd.zeroValue162
 t233 := Tryd.underlying163
 a233 := Tryd.isAgg163
 z233 := Tryd.sizeOf163
 v233 := Tryd.zeroValue163
 g17 := by kernel_rfl
 g18 := by kernel_rfl
 g19 := by kernel_rfl
 i0 := by kernel_rfl
 i2 := by kernel_rfl
 i3 := by kernel_rfl
 i4 := by kernel_rfl
 i5 := by kernel_rfl
 i9 := by kernel_rfl
 i20 := by kernel_rfl
 i37 := by kernel_rfl
 i46 := by kernel_rfl
 i51 := by kernel_rfl
 i53 := by kernel_rfl
 i171 := by kernel_rfl
 i173 := by kernel_rfl
 i212 := by kernel_rfl
 i232 := by kernel_rfl
 i233 := by kernel_rfl
 m17 := by kernel_rfl
 m18 := by kernel_rfl
 m19 := by kernel_rfl }
def Tryd.lays143_ren : Go.Shelf.Ren := ⟨fun | 143 => 105 | 219 => 110 | 217 => 102 | 225 => 124 | 224 => 125 | 267 => 126 | 266 => 115 | 314 => 136 | n => n, fun | 9 => 9 | 3 => 3 | 4 => 4 | 5 => 5 | 46 => 139 | 146 => 151 | 51 => 142 | n => n, fun | 1 => 1 | n => n⟩
theorem Tryd.lays143 : Go.Proofs.Lays.n143 Tryd.prog Tryd.lays143_ren := {
 mixed := by kernel_rfl
 f143 := Tryd.func105.trans (congrArg some (by kernel_rfl))
 f217 := Tryd.func102.trans (congrArg some (by kernel_rfl))
 f219 := Tryd.func110.trans (congrArg some (by kernel_rfl))
 f224 := Tryd.func125.trans (congrArg some (by kernel_rfl))
 f225 := Tryd.func124.trans (congrArg some (by kernel_rfl))
 f266 := Tryd.func115.trans (congrArg some (by kernel_rfl))
 f267 := Tryd.func126.trans (congrArg some (by kernel_rfl))
 f314 := Tryd.func136.trans (congrArg some (by kernel_rfl))
 t3 := Tryd.underlying3
 a3 := Tryd.isAgg3
 z3 := Tryd.sizeOf3
 v3 := Tryd.zeroValue3
 t4 := Tryd.underlying4
 a4 := Tryd.isAgg4
 z4 := Tryd.sizeOf4
 v4 := Tryd.zeroValue4
 t5 := Tryd.underlying5
 a5 := Tryd.isAgg5
 z5 := Tryd.sizeOf5
 v5 := Tryd.zeroValue5
 t9 := Tryd.underlying9
 a9 := Tryd.isAgg9
 z9 := Tryd.sizeOf9
 v9 := Tryd.zeroValue9
 t46 := Tryd.underlying139
 a46 := Tryd.isAgg139
 z46 := Tryd.sizeOf139
 v46 := Tryd.zeroValue139
 t51 := Tryd.underlying142
 a51 := Tryd.isAgg142
 z51 := Tryd.sizeOf142
 v51 := Tryd.zeroValue142
 t146 := Tryd.underlying151
 a146 := Tryd.isAgg151
 z146 := Tryd.sizeOf151
 v146 := Tryd.zeroValue151
 g1 := by kernel_rfl }
def Tryd.lays219_ren : Go.Shelf.Ren := ⟨fun | 219 => 110 | 217 => 102 | 225 => 124 | 224 => 125 | 267 => 126 | 266 => 115 | 314 => 136 | n => n, fun | 9 => 9 | 3 => 3 | 4 => 4 | 5 => 5 | 46 => 139 | 146 => 151 | 51 => 142 | n => n, fun | 1 => 1 | n => n⟩
theorem Tryd.lays219 : Go.Proofs.Lays.n219 Tryd.prog Tryd.lays219_ren := {
 mixed := by kernel_rfl
 f217 := Tryd.func102.trans (congrArg some (by kernel_rfl))
 f219 := Tryd.func110.trans (congrArg some (by kernel_rfl))
 f224 := Tryd.func125.trans (congrArg some (by kernel_rfl))
 f225 := Tryd.func124.trans (congrArg some (by kernel_rfl))
 f266 := Tryd.func115.trans (congrArg some (by kernel_rfl))
 f267 := Tryd.func126.trans (congrArg some (by kernel_rfl))
 f314 := Tryd.func136.trans (congrArg some (by kernel_rfl))
 t3 := Tryd.underlying3
 a3 := Tryd.isAgg3
 z3 := Tryd.sizeOf3
 v3 := Tryd.zeroValue3
 t4 := Tryd.underlying4
 a4 := Tryd.isAgg4
 z4 := Tryd.sizeOf4
 v4 := Tryd.zeroValue4
 t5 := Tryd.underlying5
 a5 := Tryd.isAgg5
 z5 := Tryd.sizeOf5
 v5 := Tryd.zeroValue5
 t9 := Tryd.underlying9
 a9 := Tryd.isAgg9
 z9 := Tryd.sizeOf9
 v9 := Tryd.zeroValue9
 t46 := Tryd.underlying139
 a46 := Tryd.isAgg139
 z46 := Tryd.sizeOf139
 v46 := Tryd.zeroValue139
 t51 := Tryd.underlying142
 a51 := Tryd.isAgg142
 z51 := Tryd.sizeOf142
 v51 := Tryd.zeroValue142
 t146 := Tryd.underlying151
 a146 := Tryd.isAgg151
 z146 := Tryd.sizeOf151
 v146 := Tryd.zeroValue151
 g1 := by kernel_rfl }
def Tryd.lays138_ren : Go.Shelf.Ren := ⟨fun | 138 => 104 | 195 => 116 | 218 => 118 | 143 => 105 | 219 => 110 | 217 => 102 | 225 => 124 | 224 => 125 | 267 => 126 | 266 => 115 | 314 => 136 | n => n, fun | 9 => 9 | 3 => 3 | 4 => 4 | 5 => 5 | 0 => 0 | 46 => 139 | 146 => 151 | 51 => 142 | n => n, fun | 1 => 1 | n => n⟩
theorem Tryd.lays138 : Go.Proofs.Lays.n138 Tryd.prog Tryd.lays138_ren := {
 mixed := by kernel_rfl
 f138 := Tryd.func104.trans (congrArg some (by kernel_rfl))
 f143 := Tryd.func105.trans (congrArg some (by kernel_rfl))
 f195 := Tryd.func116.trans (congrArg some (by kernel_rfl))
 f217 := Tryd.func102.trans (congrArg some (by kernel_rfl))
 f218 := Tryd.func118.trans (congrArg some (by kernel_rfl))
 f219 := Tryd.func110.trans (congrArg some (by kernel_rfl))
 f224 := Tryd.func125.trans (congrArg some (by kernel_rfl))
 f225 := Tryd.func124.trans (congrArg some (by kernel_rfl))
 f266 := Tryd.func115.trans (congrArg some (by kernel_rfl))
 f267 := Tryd.func126.trans (congrArg some (by kernel_rfl))
 f314 := Tryd.func136.trans (congrArg some (by kernel_rfl))
 t0 := Tryd.underlying0
 a0 := Tryd.isAgg0
 z0 := Tryd.sizeOf0
 v0 := Tryd.zeroValue0
 t3 := Tryd.underlying3
 a3 := Tryd.isAgg3
 z3 := Tryd.sizeOf3
 v3 := Tryd.zeroValue3
 t4 := Tryd.underlying4
 a4 := Tryd.isAgg4
 z4 := Tryd.sizeOf4
 v4 := Tryd.zeroValue4
 t5 := Tryd.underlying5
 a5 := Tryd.isAgg5
 z5 := Tryd.sizeOf5
 v5 := Tryd.zeroValue5
 t9 := Tryd.underlying9
 a9 := Tryd.isAgg9
 z9 := Tryd.sizeOf9
 v9 := Tryd.zeroValue9
 t46 := Tryd.underlying139
 a46 := Tryd.isAgg139
 z46 := Tryd.sizeOf139
 v46 := Tryd.zeroValue139
 t51 := Tryd.underlying142
 a51 := Tryd.isAgg142
 z51 := Tryd.sizeOf142
 v51 := Tryd.zeroValue142
 t146 := Tryd.underlying151
 a146 := Tryd.isAgg151
 z146 := Tryd.sizeOf151
 v146 := Tryd.zeroValue151
 g1 := by kernel_rfl }
def Tryd.laysC172_ren : Go.Shelf.Ren := ⟨fun | 172 => 95 | 244 => 107 | 245 => 108 | 247 => 119 | 279 => 120 | 280 => 121 | 281 => 122 | 282 => 123 | 287 => 133 | 316 => 134 | 171 => 47 | 205 => 135 | 321 => 139 | 322 => 140 | 243 => 81 | 246 => 101 | 283 => 111 | 284 => 112 | 285 => 113 | 286 => 114 | 129 => 128 | 317 => 127 | 318 => 129 | 319 => 130 | 320 => 131 | 337 => 137 | 338 => 138 | n => n, fun | 9 => 9 | 3 => 3 | 75 => 73 | 76 => 74 | 4 => 4 | 5 => 5 | 167 => 133 | 37 => 49 | 0 => 0 | 85 => 134 | 2 => 2 | 168 => 136 | 53 => 126 | 175 => 145 | 46 => 139 | 210 => 149 | 127 => 104 | 145 => 161 | 143 => 159 | 21 => 21 | 171 => 125 | 173 => 129 | 212 => 141 | 51 => 142 | 20 => 20 | 213 => 143 | 232 => 162 | 233 => 163 | 80 => 77 | n => n, fun | 15 => 3 | 16 => 4 | 17 => 2 | 18 => 7 | 19 => 8 | n => n⟩
theorem Tryd.laysC172 : Go.Proofs.LaysC.n172 Tryd.prog Tryd.laysC172_ren := {
 mixed := by kernel_rfl
 f129 := Tryd.func128.trans (congrArg some (by kernel_rfl))
 f171 := Tryd.func47.trans (congrArg some (by kernel_rfl))
 f172 := Tryd.func95.trans (congrArg some (by kernel_rfl))
 f205 := Tryd.func135.trans (congrArg some (by kernel_rfl))
 f243 := Tryd.func81.trans (congrArg some (by kernel_rfl))
 f244 := Tryd.func107.trans (congrArg some (by kernel_rfl))
 f245 := Tryd.func108.trans (congrArg some (by kernel_rfl))
 f246 := Tryd.func101.trans (congrArg some (by kernel_rfl))
 f247 := Tryd.func119.trans (congrArg some (by kernel_rfl))
 f279 := Tryd.func120.trans (congrArg some (by kernel_rfl))
 f280 := Tryd.func121.trans (congrArg some (by kernel_rfl))
 f281 := Tryd.func122.trans (congrArg some (by kernel_rfl))
 f282 := Tryd.func123.trans (congrArg some (by kernel_rfl))
 f283 := Tryd.func111.trans (congrArg some (by kernel_rfl))
 f284 := Tryd.func112.trans (congrArg some (by kernel_rfl))
 f285 := Tryd.func113.trans (congrArg some (by kernel_rfl))
 f286 := Tryd.func114.trans (congrArg some (by kernel_rfl))
 f287 := Tryd.func133.trans (congrArg some (by kernel_rfl))
 f316 := Tryd.func134.trans (congrArg some (by kernel_rfl))
 f317 := Tryd.func127.trans (congrArg some (by kernel_rfl))
 f318 := Tryd.func129.trans (congrArg some (by kernel_rfl))
 f319 := Tryd.func130.trans (congrArg some (by kernel_rfl))
 f320 := Tryd.func131.trans (congrArg some (by kernel_rfl))
 f321 := Tryd.func139.trans (congrArg some (by kernel_rfl))
 f322 := Tryd.func140.trans (congrArg some (by kernel_rfl))
 f337 := Tryd.func137.trans (congrArg some (by kernel_rfl))
 f338 := Tryd.func138.trans (congrArg some (by kernel_rfl))
 t0 := Tryd.underlying0
 a0 := Tryd.isAgg0
 z0 := Tryd.sizeOf0
 v0 := Tryd.zeroValue0
 t2 := Tryd.underlying2
 a2 := Tryd.isAgg2
 z2 := Tryd.sizeOf2
 v2 := Tryd.zeroValue2
 t3 := Tryd.underlying3
 a3 := Tryd.isAgg3
 z3 := Tryd.sizeOf3
 v3 := Tryd.zeroValue3
 t4 := Tryd.underlying4
 a4 := Tryd.isAgg4
 z4 := Tryd.sizeOf4
 v4 := Tryd.zeroValue4
 t5 := Tryd.underlying5
 a5 := Tryd.isAgg5
 z5 := Tryd.sizeOf5
 v5 := Tryd.zeroValue5
 t9 := Tryd.underlying9
 a9 := Tryd.isAgg9
 z9 := Tryd.sizeOf9
 v9 := Tryd.zeroValue9
 t20 := Tryd.underlying20
 a20 := Tryd.isAgg20
 z20 := Tryd.sizeOf20
 v20 := Tryd.zeroValue20
 t21 := Tryd.underlying21
 a21 := Tryd.isAgg21
 z21 := Tryd.sizeOf21
 v21 := Tryd.zeroValue21
 t37 := Tryd.underlying49
 a37 := Tryd.isAgg49
 z37 := Tryd.sizeOf49
 v37 := Tryd.zeroValue49
 t46 := Tryd.underlying139
 a46 := Tryd.isAgg139
 z46 := Tryd.sizeOf139
 v46 := Tryd.zeroValue139
 t51 := Tryd.underlying142
 a51 := Tryd.isAgg142
 z51 := Tryd.sizeOf142
 v51 := Tryd.zeroValue142
 t53 := Tryd.underlying126
 a53 := Tryd.isAgg126
 z53 := Tryd.sizeOf126
 v53 := Tryd.zeroValue126
 t75 := Tryd.underlying73
 a75 := Tryd.isAgg73
 z75 := Tryd.sizeOf73
 v75 := Tryd.zeroValue73
 t76 := Tryd.underlying74
 a76 := Tryd.isAgg74
 z76 := Tryd.sizeOf74
 v76 := Tryd.zeroValue74
 t85 := Tryd.underlying134
 a85 := Tryd.isAgg134
 z85 := Tryd.sizeOf134
 v85 := Tryd.zeroValue134
 t127 := Tryd.underlying104
 a127 := Tryd.isAgg104
 z127 := Tryd.sizeOf104
 v127 := Tryd.zeroValue104
 t143 := Tryd.underlying159
 a143 := Tryd.isAgg159
 z143 := Tryd.sizeOf159
 v143 := Tryd.zeroValue159
 t145 := Tryd.underlying161
 a145 := Tryd.isAgg161
 z145 := Tryd.sizeOf161
 v145 := Tryd.zeroValue161
 t167 := Tryd.underlying133
 a167 := Tryd.isAgg133
 z167 := Tryd.sizeOf133
 v167 := Tryd.zeroValue133
 t168 := Tryd.underlying136
 a168 := Tryd.isAgg136
 z168 := Tryd.sizeOf136
 v168 := Tryd.zeroValue136
 t171 := Tryd.underlying125
 a171 := Tryd.isAgg125
 z171 := Tryd.sizeOf125
 v171 := Tryd.zeroValue125
 t173 := Tryd.underlying129
 a173 := Tryd.isAgg129
 z173 := Tryd.sizeOf129
 v173 := Tryd.zeroValue129
 t175 := Tryd.underlying145
 a175 := Tryd.isAgg145
 z175 := Tryd.sizeOf145
 v175 := Tryd.zeroValue145
 t210 := Tryd.underlying149
 a210 := Tryd.isAgg149
 z210 := Tryd.sizeOf149
 v210 := Tryd.zeroValue149
 t212 := Tryd.underlying141
 a212 := Tryd.isAgg141
 z212 := Tryd.sizeOf141
 v212 := Tryd.zeroValue141
 t213 := Tryd.underlying143
 a213 := Tryd.isAgg143
 z213 := Tryd.sizeOf143
 t232 := Tryd.underlying162
 a232 := Tryd.isAgg162
 z232 := Tryd.sizeOf162
 v232 := Tryd.zeroValue162
 t233 := Tryd.underlying163
 a233 := Tryd.isAgg163
 z233 := Tryd.sizeOf163
 v233 := Tryd.zeroValue163
 g15 := by kernel_rfl
 g16 := by kernel_rfl
 g17 := by kernel_rfl
 g18 := by kernel_rfl
 g19 := by kernel_rfl
 t80 := Tryd.underlying77
 a80 := Tryd.isAgg77
 z80 := Tryd.sizeOf77
 v80 := Tryd.zeroValue77
 i0 := by kernel_rfl
 i2 := by kernel_rfl
 i3 := by kernel_rfl
 i4 := by kernel_rfl
 i5 := by kernel_rfl
 i9 := by kernel_rfl
 i20 := by kernel_rfl
 i21 := by kernel_rfl
 i37 := by kernel_rfl
 i46 := by kernel_rfl
 i51 := by kernel_rfl
 i53 := by kernel_rfl
 i75 := by kernel_rfl
 i76 := by kernel_rfl
 i80 := by kernel_rfl
 i85 := by kernel_rfl
 i127 := by kernel_rfl
 i143 := by kernel_rfl
 i145 := by kernel_rfl
 i167 := by kernel_rfl
 i168 := by kernel_rfl
 i171 := by kernel_rfl
 i173 := by kernel_rfl
 i175 := by kernel_rfl
 i210 := by kernel_rfl
 i212 := by kernel_rfl
 i232 := by kernel_rfl
 i233 := by kernel_rfl
 m15 := by kernel_rfl
 m16 := by kernel_rfl
 m17 := by kernel_rfl
 m18 := by kernel_rfl
 m19 := by kernel_rfl
 c0 := by kernel_rfl
 c2 := by kernel_rfl
 c3 := by kernel_rfl
 c4 := by kernel_rfl
 c5 := by kernel_rfl
 c9 := by kernel_rfl
 c20 := by kernel_rfl
 c21 := by kernel_rfl
 c37 := by kernel_rfl
 c46 := by kernel_rfl
 c51 := by kernel_rfl
 c53 := by kernel_rfl
 c75 := by kernel_rfl
 c76 := by kernel_rfl
 c80 := by kernel_rfl
 c85 := by kernel_rfl
 c127 := by kernel_rfl
 c143 := by kernel_rfl
 c145 := by kernel_rfl
 c167 := by kernel_rfl
 c168 := by kernel_rfl
 c171 := by kernel_rfl
 c173 := by kernel_rfl
 c175 := by kernel_rfl
 c210 := by kernel_rfl
 c212 := by kernel_rfl
 c213 := by kernel_rfl
 c232 := by kernel_rfl
 c233 := by kernel_rfl }
def Tryd.ws_ren : Go.Shelf.Ren := ⟨fun | 166 => 46 | 240 => 80 | n => n, fun | 70 => 69 | 9 => 9 | 0 => 0 | 72 => 71 | 37 => 49 | 127 => 104 | 3 => 3 | 5 => 5 | 75 => 73 | n => n, fun | n => n⟩
theorem Tryd.wsL : WsL Tryd.prog Tryd.ws_ren := {
 mixed := by kernel_rfl
 f166 := Tryd.func46.trans (congrArg some (by kernel_rfl))
 e240 := enters_of Tryd.func80 (by kernel_rfl) rfl
 cc := Tryd.cc
 t0 := Tryd.underlying0
 a0 := Tryd.isAgg0
 z0 := Tryd.sizeOf0
 v0 := Tryd.zeroValue0
 t3 := Tryd.underlying3
 a3 := Tryd.isAgg3
 z3 := Tryd.sizeOf3
 v3 := Tryd.zeroValue3
 t9 := Tryd.underlying9
 a9 := Tryd.isAgg9
 z9 := Tryd.sizeOf9
 v9 := Tryd.zeroValue9
 t37 := Tryd.underlying49
 a37 := Tryd.isAgg49
 z37 := Tryd.sizeOf49
 v37 := Tryd.zeroValue49
 t70 := Tryd.underlying69
 a70 := Tryd.isAgg69
 z70 := Tryd.sizeOf69
 v70 := Tryd.zeroValue69
 t72 := Tryd.underlying71
 a72 := Tryd.isAgg71
 z72 := Tryd.sizeOf71
 v72 := Tryd.zeroValue71 }
theorem Tryd.wsX : Builder.Extra Tryd.prog Tryd.ws_ren := {
 sizeBuilder := by kernel_rfl
 liesBuilder := by kernel_rfl
 t5 := Tryd.underlying5
 a5 := Tryd.isAgg5
 z5 := Tryd.sizeOf5
 v5 := Tryd.zeroValue5
 infoByte := by kernel_rfl
 cellsByte := by kernel_rfl
 sizeByte := by kernel_rfl
 neB5 := by decide }
end Go.Proofs
end
section
open Go Go.Refl Go.Proofs
set_option maxRecDepth 1000000
set_option maxHeartbeats 0
set_option linter.unusedVariables false
namespace Go.Proofs.YtpgfkoeodhfkgaaDoorG
noncomputable def ar : List (Nat × AI) := [(84, { n := 8, E := 9, e := .str }), (125, { n := 24, E := 5, e := (.int .u8) }), (141, { n := 20, E := 126, e := (.int .u64) }), (162, { n := 32, E := 5, e := (.int .u8) }), (163, { n := 64, E := 5, e := (.int .u8) })]
noncomputable def bld : List (Nat × Nat) := [(70, 5), (71, 5)]
theorem ar84 : AOk Tryd.prog 84 { n := 8, E := 9, e := .str } := .of (by kernel_rfl) (by kernel_rfl) (by kernel_rfl) (by kernel_rfl) rfl
theorem ar125 : AOk Tryd.prog 125 { n := 24, E := 5, e := (.int .u8) } := .of (by kernel_rfl) (by kernel_rfl) (by kernel_rfl) (by kernel_rfl) rfl
theorem ar141 : AOk Tryd.prog 141 { n := 20, E := 126, e := (.int .u64) } := .of (by kernel_rfl) (by kernel_rfl) (by kernel_rfl) (by kernel_rfl) rfl
theorem ar162 : AOk Tryd.prog 162 { n := 32, E := 5, e := (.int .u8) } := .of (by kernel_rfl) (by kernel_rfl) (by kernel_rfl) (by kernel_rfl) rfl
theorem ar163 : AOk Tryd.prog 163 { n := 64, E := 5, e := (.int .u8) } := .of (by kernel_rfl) (by kernel_rfl) (by kernel_rfl) (by kernel_rfl) rfl
theorem bld70 : BOk Tryd.prog 70 := .of (by kernel_rfl) (by kernel_rfl)
theorem bld71 : BOk Tryd.prog 71 := .of (by kernel_rfl) (by kernel_rfl)
theorem ar_ok : ∀ T ai, Refl.look ar T = some ai → AOk Tryd.prog T ai := arOk (all_cons ar84 (all_cons ar125 (all_cons ar141 (all_cons ar162 (all_cons ar163 (all_nil))))))
theorem bld_ok : ∀ T E, Refl.look bld T = some E → BOk Tryd.prog T := bldOk (all_cons bld70 (all_cons bld71 (all_nil)))
noncomputable def pts : List Nat := [15, 16, 17, 69, 88, 104, 136, 159]
theorem pts_ok : ∀ T, pts.contains T = true → ∃ e, Tryd.prog.underlying T = some (.pointer e) := fun T h => ptsOk (all_cons ⟨165, by kernel_rfl⟩ (all_cons ⟨168, by kernel_rfl⟩ (all_cons ⟨176, by kernel_rfl⟩ (all_cons ⟨71, by kernel_rfl⟩ (all_cons ⟨111, by kernel_rfl⟩ (all_cons ⟨5, by kernel_rfl⟩ (all_cons ⟨149, by kernel_rfl⟩ (all_cons ⟨161, by kernel_rfl⟩ (all_nil))))))))) (List.contains_iff_mem.1 h)
noncomputable def g0 : Nat × GItem := (0, .row ⟨.str, [⟨#[106, 111, 105, 110]⟩, ⟨#[115, 97, 118, 101]⟩, ⟨#[116, 97, 107, 101]⟩, ⟨#[108, 101, 110, 100]⟩, ⟨#[114, 101, 112, 97, 121]⟩, ⟨#[102, 97, 105, 108]⟩, ⟨#[110, 105, 103, 104, 116]⟩, ⟨#[115, 104, 97, 114, 101]⟩]⟩)
noncomputable def g2 : Nat × GItem := (2, .row ⟨.int .u64, Lib.pow10Tab⟩)
noncomputable def g3 : Nat × GItem := (3, .iface)
noncomputable def g4 : Nat × GItem := (4, .iface)
noncomputable def tb : List (Nat × TI) := [(2, { ty := (.int .i64), eqOk := true }),
  (3, { ty := (.int .i64), eqOk := true }),
  (4, { ty := .bool, eqOk := true }),
  (5, { ty := (.int .u8), eqOk := true }),
  (6, { ty := (.int .u8), eqOk := true }),
  (7, { ty := (.pair (.int .i64) (.pair (.int .i64) (.pair .bool (.int .u8)))), offs := [0, 1, 2, 3], szs := [1, 1, 1, 1], eqOk := true }),
  (8, { ty := (.pair (.int .i64) (.pair (.int .i64) (.pair .bool (.int .u8)))), offs := [0, 1, 2, 3], szs := [1, 1, 1, 1], eqOk := true }),
  (9, { ty := .str, eqOk := true }),
  (10, { ty := .str, eqOk := true }),
  (11, { ty := .str, eqOk := true }),
  (12, { ty := (.int .u64), eqOk := true }),
  (13, { ty := (.pair .str (.int .u64)), offs := [0, 1], szs := [1, 1] }),
  (14, { ty := (.pair .str (.int .u64)), offs := [0, 1], szs := [1, 1] }),
  (21, { ty := (.int .i32), eqOk := true }),
  (22, { ty := (.slice (.pair (.int .i64) (.pair (.int .i64) (.pair (.int .i64) (.int .i64))))), elem := 68 }),
  (25, { ty := (.slice (.pair (.int .i64) (.pair (.int .i64) (.pair (.int .i64) (.int .i64))))), elem := 66 }),
  (29, { ty := (.slice (.int .i64)), elem := 3 }),
  (30, { ty := (.pair (.int .i64) (.int .i64)), offs := [0, 1], szs := [1, 1], eqOk := true }),
  (31, { ty := (.pair (.int .i64) (.int .i64)), offs := [0, 1], szs := [1, 1], eqOk := true }),
  (32, { ty := (.pair (.int .i64) (.pair (.int .i64) (.pair (.int .i64) (.pair (.int .i64) (.pair (.slice (.int .i64)) (.pair (.int .i64) (.int .i64))))))), offs := [0, 1, 2, 3, 4, 5], szs := [1, 1, 1, 1, 1, 2] }),
  (33, { ty := (.pair (.int .i64) (.pair (.int .i64) (.pair (.int .i64) (.pair (.int .i64) (.pair (.slice (.int .i64)) (.pair (.int .i64) (.int .i64))))))), offs := [0, 1, 2, 3, 4, 5], szs := [1, 1, 1, 1, 1, 2] }),
  (36, { ty := (.pair (.int .i64) (.int .i64)), offs := [0, 1], szs := [1, 1], eqOk := true }),
  (37, { ty := (.pair (.int .i64) (.pair (.int .i64) (.pair (.int .i64) (.pair (.int .i64) (.pair (.slice (.int .i64)) (.pair (.int .i64) (.int .i64))))))), offs := [0, 1, 2, 3, 4, 5], szs := [1, 1, 1, 1, 1, 2] }),
  (38, { ty := (.pair (.int .i64) (.pair (.int .i64) (.pair (.int .i64) (.pair (.int .i64) (.pair (.slice (.int .i64)) (.pair (.int .i64) (.int .i64))))))), offs := [0, 1, 2, 3, 4, 5], szs := [1, 1, 1, 1, 1, 2] }),
  (42, { ty := (.slice (.pair (.int .i64) (.pair (.int .i64) (.pair (.int .i64) (.pair (.int .i64) (.pair (.slice (.int .i64)) (.pair (.int .i64) (.int .i64)))))))), elem := 33 }),
  (45, { ty := (.slice (.pair (.int .i64) (.pair (.int .i64) (.pair (.int .i64) (.pair (.int .i64) (.pair (.slice (.int .i64)) (.pair (.int .i64) (.int .i64)))))))), elem := 38 }),
  (49, { ty := (.slice (.int .u8)), elem := 5 }),
  (65, { ty := (.pair (.int .i64) (.pair (.int .i64) (.pair (.int .i64) (.int .i64)))), offs := [0, 1, 2, 3], szs := [1, 1, 1, 1], eqOk := true }),
  (66, { ty := (.pair (.int .i64) (.pair (.int .i64) (.pair (.int .i64) (.int .i64)))), offs := [0, 1, 2, 3], szs := [1, 1, 1, 1], eqOk := true }),
  (68, { ty := (.pair (.int .i64) (.pair (.int .i64) (.pair (.int .i64) (.int .i64)))), offs := [0, 1, 2, 3], szs := [1, 1, 1, 1], eqOk := true }),
  (72, { ty := .err }),
  (73, { ty := .err }),
  (94, { ty := (.slice .str), elem := 9 }),
  (110, { ty := (.pair (.slice (.int .u8)) (.int .i64)), offs := [0, 1], szs := [1, 1] }),
  (111, { ty := (.pair (.slice (.int .u8)) (.int .i64)), offs := [0, 1], szs := [1, 1] }),
  (126, { ty := (.int .u64), eqOk := true }),
  (133, { ty := (.int .i64), eqOk := true, cmp := true }),
  (139, { ty := (.int .u64), eqOk := true }),
  (142, { ty := (.int .u32), eqOk := true }),
  (148, { ty := (.pair .str (.pair .str .err)), offs := [0, 1, 2], szs := [1, 1, 1] }),
  (149, { ty := (.pair .str (.pair .str .err)), offs := [0, 1, 2], szs := [1, 1, 1] }),
  (155, { ty := (.pair (.int .u8) (.int .u8)), offs := [0, 1], szs := [1, 1], eqOk := true }),
  (156, { ty := (.pair (.int .u8) (.int .u8)), offs := [0, 1], szs := [1, 1], eqOk := true }),
  (170, { ty := (.int .u8), eqOk := true }),
  (171, { ty := (.int .u8), eqOk := true }),
  (173, { ty := (.int .i32), eqOk := true }),
  (174, { ty := (.int .i32), eqOk := true })]
theorem t2 : TOk Tryd.prog tb 2 { ty := (.int .i64), eqOk := true } := .of (by kernel_rfl) (by kernel_rfl) (by show _ = _; kernel_rfl) (fun h => eqOk_int)
theorem t3 : TOk Tryd.prog tb 3 { ty := (.int .i64), eqOk := true } := .of (by kernel_rfl) (by kernel_rfl) (by show _ = _; kernel_rfl) (fun h => eqOk_int)
theorem t4 : TOk Tryd.prog tb 4 { ty := .bool, eqOk := true } := .of (by kernel_rfl) (by kernel_rfl) (by show _ = _; kernel_rfl) (fun h => eqOk_bool (by kernel_rfl))
theorem t5 : TOk Tryd.prog tb 5 { ty := (.int .u8), eqOk := true } := .of (by kernel_rfl) (by kernel_rfl) (by show _ = _; kernel_rfl) (fun h => eqOk_int)
theorem t6 : TOk Tryd.prog tb 6 { ty := (.int .u8), eqOk := true } := .of (by kernel_rfl) (by kernel_rfl) (by show _ = _; kernel_rfl) (fun h => eqOk_int)
theorem t7 : TOk Tryd.prog tb 7 { ty := (.pair (.int .i64) (.pair (.int .i64) (.pair .bool (.int .u8)))), offs := [0, 1, 2, 3], szs := [1, 1, 1, 1], eqOk := true } := .of (by kernel_rfl) (by kernel_rfl) (descOk_struct rfl (by kernel_rfl)) (fun h => eqOk_struct rfl (by kernel_rfl) (by kernel_rfl))
theorem t8 : TOk Tryd.prog tb 8 { ty := (.pair (.int .i64) (.pair (.int .i64) (.pair .bool (.int .u8)))), offs := [0, 1, 2, 3], szs := [1, 1, 1, 1], eqOk := true } := .of (by kernel_rfl) (by kernel_rfl) (descOk_struct rfl (by kernel_rfl)) (fun h => eqOk_struct rfl (by kernel_rfl) (by kernel_rfl))
theorem t9 : TOk Tryd.prog tb 9 { ty := .str, eqOk := true } := .of (by kernel_rfl) (by kernel_rfl) (by show _ = _; kernel_rfl) (fun h => eqOk_str)
theorem t10 : TOk Tryd.prog tb 10 { ty := .str, eqOk := true } := .of (by kernel_rfl) (by kernel_rfl) (by show _ = _; kernel_rfl) (fun h => eqOk_str)
theorem t11 : TOk Tryd.prog tb 11 { ty := .str, eqOk := true } := .of (by kernel_rfl) (by kernel_rfl) (by show _ = _; kernel_rfl) (fun h => eqOk_str)
theorem t12 : TOk Tryd.prog tb 12 { ty := (.int .u64), eqOk := true } := .of (by kernel_rfl) (by kernel_rfl) (by show _ = _; kernel_rfl) (fun h => eqOk_int)
theorem t13 : TOk Tryd.prog tb 13 { ty := (.pair .str (.int .u64)), offs := [0, 1], szs := [1, 1] } := .of (by kernel_rfl) (by kernel_rfl) (descOk_struct rfl (by kernel_rfl)) (fun h => by cases h)
theorem t14 : TOk Tryd.prog tb 14 { ty := (.pair .str (.int .u64)), offs := [0, 1], szs := [1, 1] } := .of (by kernel_rfl) (by kernel_rfl) (descOk_struct rfl (by kernel_rfl)) (fun h => by cases h)
theorem t21 : TOk Tryd.prog tb 21 { ty := (.int .i32), eqOk := true } := .of (by kernel_rfl) (by kernel_rfl) (by show _ = _; kernel_rfl) (fun h => eqOk_int)
theorem t22 : TOk Tryd.prog tb 22 { ty := (.slice (.pair (.int .i64) (.pair (.int .i64) (.pair (.int .i64) (.int .i64))))), elem := 68 } := .of (by kernel_rfl) (by kernel_rfl) (⟨by kernel_rfl, { ty := (.pair (.int .i64) (.pair (.int .i64) (.pair (.int .i64) (.int .i64)))), offs := [0, 1, 2, 3], szs := [1, 1, 1, 1], eqOk := true }, by kernel_rfl, by kernel_rfl⟩) (fun h => by cases h)
theorem t25 : TOk Tryd.prog tb 25 { ty := (.slice (.pair (.int .i64) (.pair (.int .i64) (.pair (.int .i64) (.int .i64))))), elem := 66 } := .of (by kernel_rfl) (by kernel_rfl) (⟨by kernel_rfl, { ty := (.pair (.int .i64) (.pair (.int .i64) (.pair (.int .i64) (.int .i64)))), offs := [0, 1, 2, 3], szs := [1, 1, 1, 1], eqOk := true }, by kernel_rfl, by kernel_rfl⟩) (fun h => by cases h)
theorem t29 : TOk Tryd.prog tb 29 { ty := (.slice (.int .i64)), elem := 3 } := .of (by kernel_rfl) (by kernel_rfl) (⟨by kernel_rfl, { ty := (.int .i64), eqOk := true }, by kernel_rfl, by kernel_rfl⟩) (fun h => by cases h)
theorem t30 : TOk Tryd.prog tb 30 { ty := (.pair (.int .i64) (.int .i64)), offs := [0, 1], szs := [1, 1], eqOk := true } := .of (by kernel_rfl) (by kernel_rfl) (descOk_struct rfl (by kernel_rfl)) (fun h => eqOk_struct rfl (by kernel_rfl) (by kernel_rfl))
theorem t31 : TOk Tryd.prog tb 31 { ty := (.pair (.int .i64) (.int .i64)), offs := [0, 1], szs := [1, 1], eqOk := true } := .of (by kernel_rfl) (by kernel_rfl) (descOk_struct rfl (by kernel_rfl)) (fun h => eqOk_struct rfl (by kernel_rfl) (by kernel_rfl))
theorem t32 : TOk Tryd.prog tb 32 { ty := (.pair (.int .i64) (.pair (.int .i64) (.pair (.int .i64) (.pair (.int .i64) (.pair (.slice (.int .i64)) (.pair (.int .i64) (.int .i64))))))), offs := [0, 1, 2, 3, 4, 5], szs := [1, 1, 1, 1, 1, 2] } := .of (by kernel_rfl) (by kernel_rfl) (descOk_struct rfl (by kernel_rfl)) (fun h => by cases h)
theorem t33 : TOk Tryd.prog tb 33 { ty := (.pair (.int .i64) (.pair (.int .i64) (.pair (.int .i64) (.pair (.int .i64) (.pair (.slice (.int .i64)) (.pair (.int .i64) (.int .i64))))))), offs := [0, 1, 2, 3, 4, 5], szs := [1, 1, 1, 1, 1, 2] } := .of (by kernel_rfl) (by kernel_rfl) (descOk_struct rfl (by kernel_rfl)) (fun h => by cases h)
theorem t36 : TOk Tryd.prog tb 36 { ty := (.pair (.int .i64) (.int .i64)), offs := [0, 1], szs := [1, 1], eqOk := true } := .of (by kernel_rfl) (by kernel_rfl) (descOk_struct rfl (by kernel_rfl)) (fun h => eqOk_struct rfl (by kernel_rfl) (by kernel_rfl))
theorem t37 : TOk Tryd.prog tb 37 { ty := (.pair (.int .i64) (.pair (.int .i64) (.pair (.int .i64) (.pair (.int .i64) (.pair (.slice (.int .i64)) (.pair (.int .i64) (.int .i64))))))), offs := [0, 1, 2, 3, 4, 5], szs := [1, 1, 1, 1, 1, 2] } := .of (by kernel_rfl) (by kernel_rfl) (descOk_struct rfl (by kernel_rfl)) (fun h => by cases h)
theorem t38 : TOk Tryd.prog tb 38 { ty := (.pair (.int .i64) (.pair (.int .i64) (.pair (.int .i64) (.pair (.int .i64) (.pair (.slice (.int .i64)) (.pair (.int .i64) (.int .i64))))))), offs := [0, 1, 2, 3, 4, 5], szs := [1, 1, 1, 1, 1, 2] } := .of (by kernel_rfl) (by kernel_rfl) (descOk_struct rfl (by kernel_rfl)) (fun h => by cases h)
theorem t42 : TOk Tryd.prog tb 42 { ty := (.slice (.pair (.int .i64) (.pair (.int .i64) (.pair (.int .i64) (.pair (.int .i64) (.pair (.slice (.int .i64)) (.pair (.int .i64) (.int .i64)))))))), elem := 33 } := .of (by kernel_rfl) (by kernel_rfl) (⟨by kernel_rfl, { ty := (.pair (.int .i64) (.pair (.int .i64) (.pair (.int .i64) (.pair (.int .i64) (.pair (.slice (.int .i64)) (.pair (.int .i64) (.int .i64))))))), offs := [0, 1, 2, 3, 4, 5], szs := [1, 1, 1, 1, 1, 2] }, by kernel_rfl, by kernel_rfl⟩) (fun h => by cases h)
theorem t45 : TOk Tryd.prog tb 45 { ty := (.slice (.pair (.int .i64) (.pair (.int .i64) (.pair (.int .i64) (.pair (.int .i64) (.pair (.slice (.int .i64)) (.pair (.int .i64) (.int .i64)))))))), elem := 38 } := .of (by kernel_rfl) (by kernel_rfl) (⟨by kernel_rfl, { ty := (.pair (.int .i64) (.pair (.int .i64) (.pair (.int .i64) (.pair (.int .i64) (.pair (.slice (.int .i64)) (.pair (.int .i64) (.int .i64))))))), offs := [0, 1, 2, 3, 4, 5], szs := [1, 1, 1, 1, 1, 2] }, by kernel_rfl, by kernel_rfl⟩) (fun h => by cases h)
theorem t49 : TOk Tryd.prog tb 49 { ty := (.slice (.int .u8)), elem := 5 } := .of (by kernel_rfl) (by kernel_rfl) (⟨by kernel_rfl, { ty := (.int .u8), eqOk := true }, by kernel_rfl, by kernel_rfl⟩) (fun h => by cases h)
theorem t65 : TOk Tryd.prog tb 65 { ty := (.pair (.int .i64) (.pair (.int .i64) (.pair (.int .i64) (.int .i64)))), offs := [0, 1, 2, 3], szs := [1, 1, 1, 1], eqOk := true } := .of (by kernel_rfl) (by kernel_rfl) (descOk_struct rfl (by kernel_rfl)) (fun h => eqOk_struct rfl (by kernel_rfl) (by kernel_rfl))
theorem t66 : TOk Tryd.prog tb 66 { ty := (.pair (.int .i64) (.pair (.int .i64) (.pair (.int .i64) (.int .i64)))), offs := [0, 1, 2, 3], szs := [1, 1, 1, 1], eqOk := true } := .of (by kernel_rfl) (by kernel_rfl) (descOk_struct rfl (by kernel_rfl)) (fun h => eqOk_struct rfl (by kernel_rfl) (by kernel_rfl))
theorem t68 : TOk Tryd.prog tb 68 { ty := (.pair (.int .i64) (.pair (.int .i64) (.pair (.int .i64) (.int .i64)))), offs := [0, 1, 2, 3], szs := [1, 1, 1, 1], eqOk := true } := .of (by kernel_rfl) (by kernel_rfl) (descOk_struct rfl (by kernel_rfl)) (fun h => eqOk_struct rfl (by kernel_rfl) (by kernel_rfl))
theorem t72 : TOk Tryd.prog tb 72 { ty := .err } := .of (by kernel_rfl) (by kernel_rfl) (by show _ = _; kernel_rfl) (fun h => by cases h)
theorem t73 : TOk Tryd.prog tb 73 { ty := .err } := .of (by kernel_rfl) (by kernel_rfl) (by show _ = _; kernel_rfl) (fun h => by cases h)
theorem t94 : TOk Tryd.prog tb 94 { ty := (.slice .str), elem := 9 } := .of (by kernel_rfl) (by kernel_rfl) (⟨by kernel_rfl, { ty := .str, eqOk := true }, by kernel_rfl, by kernel_rfl⟩) (fun h => by cases h)
theorem t110 : TOk Tryd.prog tb 110 { ty := (.pair (.slice (.int .u8)) (.int .i64)), offs := [0, 1], szs := [1, 1] } := .of (by kernel_rfl) (by kernel_rfl) (descOk_struct rfl (by kernel_rfl)) (fun h => by cases h)
theorem t111 : TOk Tryd.prog tb 111 { ty := (.pair (.slice (.int .u8)) (.int .i64)), offs := [0, 1], szs := [1, 1] } := .of (by kernel_rfl) (by kernel_rfl) (descOk_struct rfl (by kernel_rfl)) (fun h => by cases h)
theorem t126 : TOk Tryd.prog tb 126 { ty := (.int .u64), eqOk := true } := .of (by kernel_rfl) (by kernel_rfl) (by show _ = _; kernel_rfl) (fun h => eqOk_int)
theorem t133 : TOk Tryd.prog tb 133 { ty := (.int .i64), eqOk := true, cmp := true } := .of (by kernel_rfl) (by kernel_rfl) (by show _ = _; kernel_rfl) (fun h => eqOk_int) (fun _ => by kernel_rfl)
theorem t139 : TOk Tryd.prog tb 139 { ty := (.int .u64), eqOk := true } := .of (by kernel_rfl) (by kernel_rfl) (by show _ = _; kernel_rfl) (fun h => eqOk_int)
theorem t142 : TOk Tryd.prog tb 142 { ty := (.int .u32), eqOk := true } := .of (by kernel_rfl) (by kernel_rfl) (by show _ = _; kernel_rfl) (fun h => eqOk_int)
theorem t148 : TOk Tryd.prog tb 148 { ty := (.pair .str (.pair .str .err)), offs := [0, 1, 2], szs := [1, 1, 1] } := .of (by kernel_rfl) (by kernel_rfl) (descOk_struct rfl (by kernel_rfl)) (fun h => by cases h)
theorem t149 : TOk Tryd.prog tb 149 { ty := (.pair .str (.pair .str .err)), offs := [0, 1, 2], szs := [1, 1, 1] } := .of (by kernel_rfl) (by kernel_rfl) (descOk_struct rfl (by kernel_rfl)) (fun h => by cases h)
theorem t155 : TOk Tryd.prog tb 155 { ty := (.pair (.int .u8) (.int .u8)), offs := [0, 1], szs := [1, 1], eqOk := true } := .of (by kernel_rfl) (by kernel_rfl) (descOk_struct rfl (by kernel_rfl)) (fun h => eqOk_struct rfl (by kernel_rfl) (by kernel_rfl))
theorem t156 : TOk Tryd.prog tb 156 { ty := (.pair (.int .u8) (.int .u8)), offs := [0, 1], szs := [1, 1], eqOk := true } := .of (by kernel_rfl) (by kernel_rfl) (descOk_struct rfl (by kernel_rfl)) (fun h => eqOk_struct rfl (by kernel_rfl) (by kernel_rfl))
theorem t170 : TOk Tryd.prog tb 170 { ty := (.int .u8), eqOk := true } := .of (by kernel_rfl) (by kernel_rfl) (by show _ = _; kernel_rfl) (fun h => eqOk_int)
theorem t171 : TOk Tryd.prog tb 171 { ty := (.int .u8), eqOk := true } := .of (by kernel_rfl) (by kernel_rfl) (by show _ = _; kernel_rfl) (fun h => eqOk_int)
theorem t173 : TOk Tryd.prog tb 173 { ty := (.int .i32), eqOk := true } := .of (by kernel_rfl) (by kernel_rfl) (by show _ = _; kernel_rfl) (fun h => eqOk_int)
theorem t174 : TOk Tryd.prog tb 174 { ty := (.int .i32), eqOk := true } := .of (by kernel_rfl) (by kernel_rfl) (by show _ = _; kernel_rfl) (fun h => eqOk_int)
theorem mixed : Tryd.prog.follows .mixedOrders = true := by kernel_rfl
theorem tb_ok : CfgTb Tryd.prog tb := tbOk (all_cons t2 (all_cons t3 (all_cons t4 (all_cons t5 (all_cons t6 (all_cons t7 (all_cons t8 (all_cons t9 (all_cons t10 (all_cons t11 (all_cons t12 (all_cons t13 (all_cons t14 (all_cons t21 (all_cons t22 (all_cons t25 (all_cons t29 (all_cons t30 (all_cons t31 (all_cons t32 (all_cons t33 (all_cons t36 (all_cons t37 (all_cons t38 (all_cons t42 (all_cons t45 (all_cons t49 (all_cons t65 (all_cons t66 (all_cons t68 (all_cons t72 (all_cons t73 (all_cons t94 (all_cons t110 (all_cons t111 (all_cons t126 (all_cons t133 (all_cons t139 (all_cons t142 (all_cons t148 (all_cons t149 (all_cons t155 (all_cons t156 (all_cons t170 (all_cons t171 (all_cons t173 (all_cons t174 (all_nil))))))))))))))))))))))))))))))))))))))))))))))))
abbrev spec_splitAt.ps : List Pm := [.arg (.v .str), .arg (.v (.int .u8))]
abbrev spec_splitAt.res : List M := [(.own .str 9)]
noncomputable def spec_splitAt.C : Cfg := { tb := tb, tab := fun n f => Refl.look [] f, gl := [], ar := ar, bld := bld, pts := pts }
noncomputable def spec_splitAt.A : Ann := { joins := [], loops := [(4, { live := [0, 1, 5, 6, 7], base := 35 })], ids := [(7, [(25, [])]), (9, [(33, [])])], pids := [], nroots := 99 }
noncomputable def spec_splitAt (n : Nat) (x : ByteArray × Int) : Option (List ByteArray) := evalF spec_splitAt.C spec_splitAt.A Tryd.f66 spec_splitAt.ps spec_splitAt.res n x
noncomputable def spec_splitAt.K0 (_ : Nat) : Kont (List ByteArray) := finK spec_splitAt.C (Func.results Tryd.f66).toList spec_splitAt.ps spec_splitAt.res
noncomputable def spec_splitAt.K1 (n : Nat) : Kont (List ByteArray) := seqK (fun s' k => joinE spec_splitAt.A.joins (codeAt Tryd.f66 [1, 1, 1, 1]) (fun s'' => evalC spec_splitAt.C spec_splitAt.A n (codeAt Tryd.f66 [1, 1, 1, 1]) s'' k) s') (spec_splitAt.K0 n)
noncomputable def spec_splitAt.K2 (n : Nat) : Kont (List ByteArray) := blockK 0 (spec_splitAt.K1 n)
noncomputable def spec_splitAt.l4 (n m4 : Nat) (x0 : ByteArray) (x1 x6 x7 : Int) (r35 : List ByteArray) : Option (List ByteArray) := loopE (cutAt spec_splitAt.A.loops (codeAt Tryd.f66 [1, 1, 1, 0, 1, 0, 0])) (fun s k => evalC spec_splitAt.C spec_splitAt.A n (codeAt Tryd.f66 [1, 1, 1, 0, 1, 0, 0]) s k) m4 (St.of 35 99 [(0, .val .str x0), (1, .val (.int .u8) x1), (5, .own 35), (6, .val (.int .i64) x6), (7, .val (.int .i64) x7)] [(35, .row .str 9 r35)] []) (spec_splitAt.K2 n)
theorem spec_splitAt.eq (n : Nat) (x0 : ByteArray) (x1 : Int) : spec_splitAt n (x0, x1) = spec_splitAt.l4 n n (x0) (x1) (0) (0) (List.replicate 0 ByteArray.empty) := by kernel_rfl
theorem spec_splitAt.l4_zero (n : Nat) (x0 : ByteArray) (x1 x6 x7 : Int) (r35 : List ByteArray) : spec_splitAt.l4 n 0 x0 x1 x6 x7 r35 = none := by kernel_rfl
theorem spec_splitAt.l4_succ (n m4 : Nat) (x0 : ByteArray) (x1 x6 x7 : Int) (r35 : List ByteArray) : spec_splitAt.l4 n (m4 + 1) x0 x1 x6 x7 r35 = (if x7 < (↑(ByteArray.size x0) : Int) then (if 0 ≤ x7 then (if x7 < (↑(ByteArray.size x0) : Int) then (if (↑(UInt8.toNat (List.getD (Array.toList (ByteArray.data x0)) (Int.toNat x7) (0 : UInt8))) : Int) = x1 then (if 0 ≤ x6 then (if x6 ≤ x7 then (if x7 ≤ (↑(ByteArray.size x0) : Int) then (if List.length r35 + List.length (List.set (List.replicate (1 : Nat) ByteArray.empty) (0 : Nat) (ByteArray.extract x0 (Int.toNat x6) (Int.toNat x7))) ≤ Go.Refl.maxN then spec_splitAt.l4 n m4 (x0) (x1) (Go.RowKit.wrap64 (x7 + 1)) (Go.RowKit.wrap64 (x7 + 1)) (r35 ++ List.set (List.replicate 1 ByteArray.empty) 0 (ByteArray.extract x0 (Int.toNat x6) (Int.toNat x7))) else none) else none) else none) else none) else spec_splitAt.l4 n m4 (x0) (x1) (x6) (Go.RowKit.wrap64 (x7 + 1)) (r35)) else none) else none) else (if 0 ≤ x6 then (if x6 ≤ (↑(ByteArray.size x0) : Int) then (if List.length r35 + List.length (List.set (List.replicate (1 : Nat) ByteArray.empty) (0 : Nat) (ByteArray.extract x0 (Int.toNat x6) (ByteArray.size x0))) ≤ Go.Refl.maxN then some (r35 ++ List.set (List.replicate 1 ByteArray.empty) 0 (ByteArray.extract x0 (Int.toNat x6) (ByteArray.size x0))) else none) else none) else none)) := by kernel_rfl
noncomputable abbrev spec_splitAt.sg (n : Nat) : Sig := { params := spec_splitAt.ps, res := spec_splitAt.res, run := spec_splitAt n }
theorem spec_splitAt.call : Callable Tryd.prog 66 := ⟨Tryd.f66, Tryd.func66, by kernel_rfl, by kernel_rfl⟩
theorem spec_splitAt.ok (n : Nat) : FC Tryd.prog [] 66 (spec_splitAt.sg n) :=
  evalF_ok (C := spec_splitAt.C) ⟨tb_ok, fun n _ _ h => tabOk (l := []) (all_nil) h, mixed, ar_ok, bld_ok, pts_ok⟩ spec_splitAt.A Tryd.func66 spec_splitAt.ps spec_splitAt.res n
abbrev spec_number.ps : List Pm := [.arg (.v (.int .i64))]
abbrev spec_number.res : List M := [.v .str]
noncomputable def spec_number.C (self : pdens spec_number.ps → Option (dens (spec_number.res ++ outs spec_number.ps))) : Cfg := { tb := tb, tab := fun n f => Refl.look [(79, { params := spec_number.ps, res := spec_number.res, run := self })] f, gl := [], ar := ar, bld := bld, pts := pts }
noncomputable def spec_number.A : Ann := { joins := [], loops := [], ids := [(3, [(11, []), (14, [])])], pids := [], nroots := 80 }
noncomputable def spec_number.S (self : Int → Option ByteArray) (n : Nat) (x : Int) : Option (ByteArray) := evalF (spec_number.C self) spec_number.A Tryd.f79 spec_number.ps spec_number.res n x
noncomputable def spec_number (n : Nat) : Int → Option (ByteArray) := Nat.rec (fun _ => none) (fun n self => spec_number.S self n) n
theorem spec_number.zero (x : Int) : spec_number 0 x = none := rfl
theorem spec_number.succ (n : Nat) (x : Int) : spec_number (n + 1) x = spec_number.S (spec_number n) n x := by kernel_rfl
noncomputable def spec_number.K0 (self : Int → Option ByteArray) (_ : Nat) : Kont (ByteArray) := finK (spec_number.C self) (Func.results Tryd.f79).toList spec_number.ps spec_number.res
theorem spec_number.eq (self : Int → Option ByteArray) (n : Nat) (x0 : Int) : spec_number.S self n x0 = (if x0 < 10 then (if 0 ≤ x0 then (if x0 ≤ Go.RowKit.wrap64 (x0 + 1) then (if Go.RowKit.wrap64 (x0 + 1) ≤ (↑(ByteArray.size { data := #[(48 : UInt8), (49 : UInt8), (50 : UInt8), (51 : UInt8), (52 : UInt8), (53 : UInt8), (54 : UInt8), (55 : UInt8), (56 : UInt8), (57 : UInt8)] }) : Int) then some (ByteArray.extract { data := #[(48 : UInt8), (49 : UInt8), (50 : UInt8), (51 : UInt8), (52 : UInt8), (53 : UInt8), (54 : UInt8), (55 : UInt8), (56 : UInt8), (57 : UInt8)] } (Int.toNat x0) (Int.toNat (Go.RowKit.wrap64 (x0 + 1)))) else none) else none) else none) else ((self (Go.RowKit.wrap64 (Int.tdiv x0 10))).bind fun y0 => ((self (Int.tmod x0 10)).bind fun y1 => (if ByteArray.size y0 + ByteArray.size y1 ≤ Go.Refl.maxN then some (y0 ++ y1) else none)))) := by kernel_rfl
noncomputable abbrev spec_number.sg (n : Nat) : Sig := { params := spec_number.ps, res := spec_number.res, run := spec_number n }
theorem spec_number.call : Callable Tryd.prog 79 := ⟨Tryd.f79, Tryd.func79, by kernel_rfl, by kernel_rfl⟩
theorem spec_number.okS {self : pdens spec_number.ps → Option (dens (spec_number.res ++ outs spec_number.ps))} (hs : FC Tryd.prog [] 79 { params := spec_number.ps, res := spec_number.res, run := self }) (n : Nat) : FC Tryd.prog [] 79 { params := spec_number.ps, res := spec_number.res, run := spec_number.S self n } :=
  evalF_ok (C := spec_number.C self) ⟨tb_ok, fun n _ _ h => tabOk (l := [(79, { params := spec_number.ps, res := spec_number.res, run := self })]) (all_cons ⟨hs, spec_number.call⟩ (all_nil)) h, mixed, ar_ok, bld_ok, pts_ok⟩ spec_number.A Tryd.func79 spec_number.ps spec_number.res n
theorem spec_number.ok : (n : Nat) → FC Tryd.prog [] 79 (spec_number.sg n)
  | 0 => fun _ _ h => by cases h
  | n + 1 => spec_number.okS (spec_number.ok n) n
abbrev spec_readNumber.ps : List Pm := [.arg (.v .str)]
abbrev spec_readNumber.res : List M := [.v (.int .i64)]
noncomputable def spec_readNumber.C : Cfg := { tb := tb, tab := fun n f => Refl.look [(79, (spec_number.sg n))] f, gl := [], ar := ar, bld := bld, pts := pts }
noncomputable def spec_readNumber.A : Ann := { joins := [], loops := [(3, { live := [0, 3, 4], base := 42 })], ids := [(8, [(38, [])])], pids := [], nroots := 106 }
noncomputable def spec_readNumber (n : Nat) (x : ByteArray) : Option (Int) := evalF spec_readNumber.C spec_readNumber.A Tryd.f67 spec_readNumber.ps spec_readNumber.res n x
noncomputable def spec_readNumber.K0 (_ : Nat) : Kont (Int) := finK spec_readNumber.C (Func.results Tryd.f67).toList spec_readNumber.ps spec_readNumber.res
noncomputable def spec_readNumber.K1 (n : Nat) : Kont (Int) := seqK (fun s' k => joinE spec_readNumber.A.joins (codeAt Tryd.f67 [1, 1, 1]) (fun s'' => evalC spec_readNumber.C spec_readNumber.A n (codeAt Tryd.f67 [1, 1, 1]) s'' k) s') (spec_readNumber.K0 n)
noncomputable def spec_readNumber.K2 (n : Nat) : Kont (Int) := blockK 0 (spec_readNumber.K1 n)
noncomputable def spec_readNumber.l3 (n m3 : Nat) (x0 : ByteArray) (x3 x4 : Int) : Option (Int) := loopE (cutAt spec_readNumber.A.loops (codeAt Tryd.f67 [1, 1, 0, 1, 0, 0])) (fun s k => evalC spec_readNumber.C spec_readNumber.A n (codeAt Tryd.f67 [1, 1, 0, 1, 0, 0]) s k) m3 (St.of 42 106 [(0, .val .str x0), (3, .val (.int .i64) x3), (4, .val (.int .i64) x4)] [] []) (spec_readNumber.K2 n)
theorem spec_readNumber.eq (n : Nat) (x0 : ByteArray) : spec_readNumber n x0 = spec_readNumber.l3 n n (x0) (0) (0) := by kernel_rfl
theorem spec_readNumber.l3_zero (n : Nat) (x0 : ByteArray) (x3 x4 : Int) : spec_readNumber.l3 n 0 x0 x3 x4 = none := by kernel_rfl
theorem spec_readNumber.l3_succ (n m3 : Nat) (x0 : ByteArray) (x3 x4 : Int) : spec_readNumber.l3 n (m3 + 1) x0 x3 x4 = (if x4 < (↑(ByteArray.size x0) : Int) then (if 0 ≤ x4 then (if x4 < (↑(ByteArray.size x0) : Int) then (if (↑(UInt8.toNat (List.getD (Array.toList (ByteArray.data x0)) (Int.toNat x4) (0 : UInt8))) : Int) < 48 then some ((-1)) else (if 0 ≤ x4 then (if x4 < (↑(ByteArray.size x0) : Int) then (if (↑(UInt8.toNat (List.getD (Array.toList (ByteArray.data x0)) (Int.toNat x4) (0 : UInt8))) : Int) > 57 then some ((-1)) else (if x3 > 999999 then some ((-1)) else (if 0 ≤ x4 then (if x4 < (↑(ByteArray.size x0) : Int) then spec_readNumber.l3 n m3 (x0) (Go.RowKit.wrap64 (Go.RowKit.wrap64 (10 * x3) + Go.RowKit.wrap64 (((↑(UInt8.toNat (List.getD (Array.toList (ByteArray.data x0)) (Int.toNat x4) (0 : UInt8))) : Int) - 48) % 256))) (Go.RowKit.wrap64 (x4 + 1)) else none) else none))) else none) else none)) else none) else none) else (if x0 = { data := #[] } then some ((-1)) else ((spec_number n x3).bind fun y0 => (if x0 = y0 then some (x3) else some ((-1)))))) := by kernel_rfl
noncomputable abbrev spec_readNumber.sg (n : Nat) : Sig := { params := spec_readNumber.ps, res := spec_readNumber.res, run := spec_readNumber n }
theorem spec_readNumber.call : Callable Tryd.prog 67 := ⟨Tryd.f67, Tryd.func67, by kernel_rfl, by kernel_rfl⟩
theorem spec_readNumber.ok (n : Nat) : FC Tryd.prog [] 67 (spec_readNumber.sg n) :=
  evalF_ok (C := spec_readNumber.C) ⟨tb_ok, fun n _ _ h => tabOk (l := [(79, (spec_number.sg n))]) (all_cons ⟨spec_number.ok n, spec_number.call⟩ (all_nil)) h, mixed, ar_ok, bld_ok, pts_ok⟩ spec_readNumber.A Tryd.func67 spec_readNumber.ps spec_readNumber.res n
abbrev spec_readMoney.ps : List Pm := [.arg (.v .str)]
abbrev spec_readMoney.res : List M := [.v (.int .i64)]
noncomputable def spec_readMoney.C : Cfg := { tb := tb, tab := fun n f => Refl.look [] f, gl := [], ar := ar, bld := bld, pts := pts }
noncomputable def spec_readMoney.A : Ann := { joins := [], loops := [(5, { live := [0, 3, 4], base := 63 })], ids := [], pids := [], nroots := 127 }
noncomputable def spec_readMoney (n : Nat) (x : ByteArray) : Option (Int) := evalF spec_readMoney.C spec_readMoney.A Tryd.f68 spec_readMoney.ps spec_readMoney.res n x
noncomputable def spec_readMoney.K0 (_ : Nat) : Kont (Int) := finK spec_readMoney.C (Func.results Tryd.f68).toList spec_readMoney.ps spec_readMoney.res
noncomputable def spec_readMoney.K1 (n : Nat) : Kont (Int) := seqK (fun s' k => joinE spec_readMoney.A.joins (codeAt Tryd.f68 [1, 1, 1, 1]) (fun s'' => evalC spec_readMoney.C spec_readMoney.A n (codeAt Tryd.f68 [1, 1, 1, 1]) s'' k) s') (spec_readMoney.K0 n)
noncomputable def spec_readMoney.K2 (n : Nat) : Kont (Int) := blockK 0 (spec_readMoney.K1 n)
noncomputable def spec_readMoney.l5 (n m5 : Nat) (x0 : ByteArray) (x3 x4 : Int) : Option (Int) := loopE (cutAt spec_readMoney.A.loops (codeAt Tryd.f68 [1, 1, 1, 0, 1, 0, 0])) (fun s k => evalC spec_readMoney.C spec_readMoney.A n (codeAt Tryd.f68 [1, 1, 1, 0, 1, 0, 0]) s k) m5 (St.of 63 127 [(0, .val .str x0), (3, .val (.int .i64) x3), (4, .val (.int .i64) x4)] [] []) (spec_readMoney.K2 n)
theorem spec_readMoney.eq (n : Nat) (x0 : ByteArray) : spec_readMoney n x0 = (if (↑(ByteArray.size x0) : Int) < 4 then some ((-1)) else (if (↑(ByteArray.size x0) : Int) > 10 then some ((-1)) else (if 0 ≤ Go.RowKit.wrap64 ((↑(ByteArray.size x0) : Int) - 3) then (if Go.RowKit.wrap64 ((↑(ByteArray.size x0) : Int) - 3) < (↑(ByteArray.size x0) : Int) then (if (↑(UInt8.toNat (List.getD (Array.toList (ByteArray.data x0)) (Int.toNat (Go.RowKit.wrap64 ((↑(ByteArray.size x0) : Int) - 3))) (0 : UInt8))) : Int) = 46 then (if 0 < (↑(ByteArray.size x0) : Int) then (if (↑(UInt8.toNat (List.getD (Array.toList (ByteArray.data x0)) (Int.toNat 0) (0 : UInt8))) : Int) = 48 then (if (↑(ByteArray.size x0) : Int) > 4 then some ((-1)) else spec_readMoney.l5 n n (x0) (0) (0)) else spec_readMoney.l5 n n (x0) (0) (0)) else none) else some ((-1))) else none) else none))) := by kernel_rfl
theorem spec_readMoney.l5_zero (n : Nat) (x0 : ByteArray) (x3 x4 : Int) : spec_readMoney.l5 n 0 x0 x3 x4 = none := by kernel_rfl
theorem spec_readMoney.l5_succ (n m5 : Nat) (x0 : ByteArray) (x3 x4 : Int) : spec_readMoney.l5 n (m5 + 1) x0 x3 x4 = (if x4 < (↑(ByteArray.size x0) : Int) then (if x4 = Go.RowKit.wrap64 ((↑(ByteArray.size x0) : Int) - 3) then spec_readMoney.l5 n m5 (x0) (x3) (Go.RowKit.wrap64 (x4 + 1)) else (if 0 ≤ x4 then (if x4 < (↑(ByteArray.size x0) : Int) then (if (↑(UInt8.toNat (List.getD (Array.toList (ByteArray.data x0)) (Int.toNat x4) (0 : UInt8))) : Int) < 48 then some ((-1)) else (if 0 ≤ x4 then (if x4 < (↑(ByteArray.size x0) : Int) then (if (↑(UInt8.toNat (List.getD (Array.toList (ByteArray.data x0)) (Int.toNat x4) (0 : UInt8))) : Int) > 57 then some ((-1)) else (if 0 ≤ x4 then (if x4 < (↑(ByteArray.size x0) : Int) then spec_readMoney.l5 n m5 (x0) (Go.RowKit.wrap64 (Go.RowKit.wrap64 (10 * x3) + Go.RowKit.wrap64 (((↑(UInt8.toNat (List.getD (Array.toList (ByteArray.data x0)) (Int.toNat x4) (0 : UInt8))) : Int) - 48) % 256))) (Go.RowKit.wrap64 (x4 + 1)) else none) else none)) else none) else none)) else none) else none)) else (if x3 > 1000000 then some ((-1)) else some (x3))) := by kernel_rfl
noncomputable abbrev spec_readMoney.sg (n : Nat) : Sig := { params := spec_readMoney.ps, res := spec_readMoney.res, run := spec_readMoney n }
theorem spec_readMoney.call : Callable Tryd.prog 68 := ⟨Tryd.f68, Tryd.func68, by kernel_rfl, by kernel_rfl⟩
theorem spec_readMoney.ok (n : Nat) : FC Tryd.prog [] 68 (spec_readMoney.sg n) :=
  evalF_ok (C := spec_readMoney.C) ⟨tb_ok, fun n _ _ h => tabOk (l := []) (all_nil) h, mixed, ar_ok, bld_ok, pts_ok⟩ spec_readMoney.A Tryd.func68 spec_readMoney.ps spec_readMoney.res n
abbrev spec_readLend.ps : List Pm := [.arg (.v (.slice .str))]
abbrev spec_readLend.res : List M := [.v (.pair (.int .i64) (.pair (.int .i64) (.pair (.int .i64) (.pair (.int .i64) (.pair (.slice (.int .i64)) (.pair (.int .i64) (.int .i64)))))))]
noncomputable def spec_readLend.C : Cfg := { tb := tb, tab := fun n f => Refl.look [(67, (spec_readNumber.sg n)), (68, (spec_readMoney.sg n))] f, gl := [], ar := ar, bld := bld, pts := pts }
noncomputable def spec_readLend.A : Ann := { joins := [], loops := [(3, { live := [0, 2, 3, 4], base := 31, growB := [(3, 4, 59, (.int .i64), 3)] })], ids := [(1, [(8, []), (12, [])]), (5, [(26, []), (27, [])])], pids := [], nroots := 95 }
noncomputable def spec_readLend (n : Nat) (x : List ByteArray) : Option (Int × Int × Int × Int × List Int × Int × Int) := evalF spec_readLend.C spec_readLend.A Tryd.f109 spec_readLend.ps spec_readLend.res n x
noncomputable def spec_readLend.K0 (_ : Nat) : Kont (Int × Int × Int × Int × List Int × Int × Int) := finK spec_readLend.C (Func.results Tryd.f109).toList spec_readLend.ps spec_readLend.res
noncomputable def spec_readLend.K1 (n : Nat) : Kont (Int × Int × Int × Int × List Int × Int × Int) := seqK (fun s' k => joinE spec_readLend.A.joins (codeAt Tryd.f109 [1, 1, 1]) (fun s'' => evalC spec_readLend.C spec_readLend.A n (codeAt Tryd.f109 [1, 1, 1]) s'' k) s') (spec_readLend.K0 n)
noncomputable def spec_readLend.K2 (n : Nat) : Kont (Int × Int × Int × Int × List Int × Int × Int) := blockK 0 (spec_readLend.K1 n)
noncomputable def spec_readLend.l3 (n m3 : Nat) (x0 : List ByteArray) (x4 r31_0 : Int) (r31_1 r31_2 : Int) (r31_3 r31_5 : Int) (r31_6 r32_0 : Int) (r32_1 r32_2 : Int) (r32_3 r32_5 r32_6 : Int) (r33 : List Int) : Option (Int × Int × Int × Int × List Int × Int × Int) := loopE (cutAt spec_readLend.A.loops (codeAt Tryd.f109 [1, 1, 0, 1, 0, 0])) (fun s k => evalC spec_readLend.C spec_readLend.A n (codeAt Tryd.f109 [1, 1, 0, 1, 0, 0]) s k) m3 (St.of 31 95 [(0, .val (.slice .str) x0), (2, .ptr 31 0 0), (3, .ptr 32 0 0), (4, .val (.int .i64) x4)] [(31, .box 38 [.val (.int .i64) r31_0, .val (.int .i64) r31_1, .val (.int .i64) r31_2, .val (.int .i64) r31_3, .nils, .val (.int .i64) r31_5, .val (.int .i64) r31_6]), (32, .box 38 [.val (.int .i64) r32_0, .val (.int .i64) r32_1, .val (.int .i64) r32_2, .val (.int .i64) r32_3, .own 33, .val (.int .i64) r32_5, .val (.int .i64) r32_6]), (33, .row (.int .i64) 3 r33)] []) (spec_readLend.K2 n)
theorem spec_readLend.eq (n : Nat) (x0 : List ByteArray) : spec_readLend n x0 = (if 1 < (↑(List.length x0) : Int) then ((spec_readNumber n (List.getD x0 1 ByteArray.empty)).bind fun y0 => (if 2 < (↑(List.length x0) : Int) then ((spec_readMoney n (List.getD x0 2 ByteArray.empty)).bind fun y1 => spec_readLend.l3 n n (x0) (3) (0) (0) (0) (0) (0) (0) (3) (y0) (y1) (0) (0) (0) ([])) else none)) else none) := by kernel_rfl
theorem spec_readLend.l3_zero (n : Nat) (x0 : List ByteArray) (x4 r31_0 : Int) (r31_1 r31_2 : Int) (r31_3 r31_5 : Int) (r31_6 r32_0 : Int) (r32_1 r32_2 : Int) (r32_3 r32_5 r32_6 : Int) (r33 : List Int) : spec_readLend.l3 n 0 x0 x4 r31_0 r31_1 r31_2 r31_3 r31_5 r31_6 r32_0 r32_1 r32_2 r32_3 r32_5 r32_6 r33 = none := by kernel_rfl
theorem spec_readLend.l3_succ (n m3 : Nat) (x0 : List ByteArray) (x4 r31_0 : Int) (r31_1 r31_2 : Int) (r31_3 r31_5 : Int) (r31_6 r32_0 : Int) (r32_1 r32_2 : Int) (r32_3 r32_5 r32_6 : Int) (r33 : List Int) : spec_readLend.l3 n (m3 + 1) x0 x4 r31_0 r31_1 r31_2 r31_3 r31_5 r31_6 r32_0 r32_1 r32_2 r32_3 r32_5 r32_6 r33 = (if x4 < (↑(List.length x0) : Int) then (if 0 ≤ x4 then (if x4 < (↑(List.length x0) : Int) then ((spec_readNumber n (List.getD x0 (Int.toNat x4) ByteArray.empty)).bind fun y2 => (if List.length r33 + List.length (List.set (List.replicate (1 : Nat) (0 : Int)) (0 : Nat) y2) ≤ Go.Refl.maxN then spec_readLend.l3 n m3 (x0) (Go.RowKit.wrap64 (x4 + 1)) (r31_0) (r31_1) (r31_2) (r31_3) (r31_5) (r31_6) (r32_0) (r32_1) (r32_2) (r32_3) (r32_5) (r32_6) (r33 ++ List.set (List.replicate 1 0) 0 y2) else none)) else none) else none) else some ((r32_0, r32_1, r32_2, r32_3, r33, r32_5, r32_6))) := by kernel_rfl
noncomputable abbrev spec_readLend.sg (n : Nat) : Sig := { params := spec_readLend.ps, res := spec_readLend.res, run := spec_readLend n }
theorem spec_readLend.call : Callable Tryd.prog 109 := ⟨Tryd.f109, Tryd.func109, by kernel_rfl, by kernel_rfl⟩
theorem spec_readLend.ok (n : Nat) : FC Tryd.prog [] 109 (spec_readLend.sg n) :=
  evalF_ok (C := spec_readLend.C) ⟨tb_ok, fun n _ _ h => tabOk (l := [(67, (spec_readNumber.sg n)), (68, (spec_readMoney.sg n))]) (all_cons ⟨spec_readNumber.ok n, spec_readNumber.call⟩ (all_cons ⟨spec_readMoney.ok n, spec_readMoney.call⟩ (all_nil))) h, mixed, ar_ok, bld_ok, pts_ok⟩ spec_readLend.A Tryd.func109 spec_readLend.ps spec_readLend.res n
abbrev spec_readEvent.ps : List Pm := [.arg (.v (.slice .str))]
abbrev spec_readEvent.res : List M := [.v (.pair (.int .i64) (.pair (.int .i64) (.pair (.int .i64) (.pair (.int .i64) (.pair (.slice (.int .i64)) (.pair (.int .i64) (.int .i64))))))), .v .bool]
noncomputable def spec_readEvent.C : Cfg := { tb := tb, tab := fun n f => Refl.look [(67, (spec_readNumber.sg n)), (68, (spec_readMoney.sg n)), (109, (spec_readLend.sg n))] f, gl := [], ar := ar, bld := bld, pts := pts }
noncomputable def spec_readEvent.A : Ann := { joins := [(3, { live := [0, 2, 4, 7], base := 130 }), (5, { live := [0, 2, 4, 17], base := 130 }), (7, { live := [0, 2, 4, 27], base := 130 }), (9, { live := [0, 2, 4, 46], base := 130 }), (11, { live := [0, 2, 4, 60], base := 130 }), (13, { live := [0, 2, 4, 78], base := 130 }), (15, { live := [0, 2, 4, 96], base := 130 }), (17, { live := [0, 2, 118], base := 130 })], loops := [], ids := [(7, [(39, []), (43, [])]), (9, [(58, [])]), (11, [(72, []), (76, [])]), (13, [(90, []), (94, [])]), (15, [(108, []), (112, []), (116, [])]), (17, [(128, [])])], pids := [], nroots := 194 }
noncomputable def spec_readEvent (n : Nat) (x : List ByteArray) : Option ((Int × Int × Int × Int × List Int × Int × Int) × Bool) := evalF spec_readEvent.C spec_readEvent.A Tryd.f97 spec_readEvent.ps spec_readEvent.res n x
noncomputable def spec_readEvent.K0 (_ : Nat) : Kont ((Int × Int × Int × Int × List Int × Int × Int) × Bool) := finK spec_readEvent.C (Func.results Tryd.f97).toList spec_readEvent.ps spec_readEvent.res
noncomputable def spec_readEvent.K1 (n : Nat) : Kont ((Int × Int × Int × Int × List Int × Int × Int) × Bool) := seqK (fun s' k => joinE spec_readEvent.A.joins (codeAt Tryd.f97 [1, 1, 1]) (fun s'' => evalC spec_readEvent.C spec_readEvent.A n (codeAt Tryd.f97 [1, 1, 1]) s'' k) s') (spec_readEvent.K0 n)
noncomputable def spec_readEvent.K2 (n : Nat) : Kont ((Int × Int × Int × Int × List Int × Int × Int) × Bool) := blockK 0 (spec_readEvent.K1 n)
noncomputable def spec_readEvent.j3 (n : Nat) (x0 : List ByteArray) (x4 : Int) (x7 : Bool) (r130_0 r130_1 : Int) (r130_2 r130_3 : Int) (r130_5 r130_6 : Int) : Option ((Int × Int × Int × Int × List Int × Int × Int) × Bool) := holdF (fun s => evalC spec_readEvent.C spec_readEvent.A n (codeAt Tryd.f97 [1, 1, 0, 0, 1]) s (spec_readEvent.K2 n)) (St.of 130 194 [(0, .val (.slice .str) x0), (2, .ptr 130 0 0), (4, .val (.int .i64) x4), (7, .val .bool x7)] [(130, .box 38 [.val (.int .i64) r130_0, .val (.int .i64) r130_1, .val (.int .i64) r130_2, .val (.int .i64) r130_3, .nils, .val (.int .i64) r130_5, .val (.int .i64) r130_6])] [])
noncomputable def spec_readEvent.j5 (n : Nat) (x0 : List ByteArray) (x4 : Int) (x17 : Bool) (r130_0 r130_1 : Int) (r130_2 r130_3 : Int) (r130_5 r130_6 : Int) : Option ((Int × Int × Int × Int × List Int × Int × Int) × Bool) := holdF (fun s => evalC spec_readEvent.C spec_readEvent.A n (codeAt Tryd.f97 [1, 1, 0, 0, 1, 1, 1]) s (spec_readEvent.K2 n)) (St.of 130 194 [(0, .val (.slice .str) x0), (2, .ptr 130 0 0), (4, .val (.int .i64) x4), (17, .val .bool x17)] [(130, .box 38 [.val (.int .i64) r130_0, .val (.int .i64) r130_1, .val (.int .i64) r130_2, .val (.int .i64) r130_3, .nils, .val (.int .i64) r130_5, .val (.int .i64) r130_6])] [])
noncomputable def spec_readEvent.j7 (n : Nat) (x0 : List ByteArray) (x4 : Int) (x27 : Bool) (r130_0 r130_1 : Int) (r130_2 r130_3 : Int) (r130_5 r130_6 : Int) : Option ((Int × Int × Int × Int × List Int × Int × Int) × Bool) := holdF (fun s => evalC spec_readEvent.C spec_readEvent.A n (codeAt Tryd.f97 [1, 1, 0, 0, 1, 1, 1, 1, 1]) s (spec_readEvent.K2 n)) (St.of 130 194 [(0, .val (.slice .str) x0), (2, .ptr 130 0 0), (4, .val (.int .i64) x4), (27, .val .bool x27)] [(130, .box 38 [.val (.int .i64) r130_0, .val (.int .i64) r130_1, .val (.int .i64) r130_2, .val (.int .i64) r130_3, .nils, .val (.int .i64) r130_5, .val (.int .i64) r130_6])] [])
noncomputable def spec_readEvent.j9 (n : Nat) (x0 : List ByteArray) (x4 : Int) (x46 : Bool) (r130_0 r130_1 : Int) (r130_2 r130_3 : Int) (r130_5 r130_6 : Int) : Option ((Int × Int × Int × Int × List Int × Int × Int) × Bool) := holdF (fun s => evalC spec_readEvent.C spec_readEvent.A n (codeAt Tryd.f97 [1, 1, 0, 0, 1, 1, 1, 1, 1, 1, 1]) s (spec_readEvent.K2 n)) (St.of 130 194 [(0, .val (.slice .str) x0), (2, .ptr 130 0 0), (4, .val (.int .i64) x4), (46, .val .bool x46)] [(130, .box 38 [.val (.int .i64) r130_0, .val (.int .i64) r130_1, .val (.int .i64) r130_2, .val (.int .i64) r130_3, .nils, .val (.int .i64) r130_5, .val (.int .i64) r130_6])] [])
noncomputable def spec_readEvent.j11 (n : Nat) (x0 : List ByteArray) (x4 : Int) (x60 : Bool) (r130_0 r130_1 : Int) (r130_2 r130_3 : Int) (r130_5 r130_6 : Int) : Option ((Int × Int × Int × Int × List Int × Int × Int) × Bool) := holdF (fun s => evalC spec_readEvent.C spec_readEvent.A n (codeAt Tryd.f97 [1, 1, 0, 0, 1, 1, 1, 1, 1, 1, 1, 1, 1]) s (spec_readEvent.K2 n)) (St.of 130 194 [(0, .val (.slice .str) x0), (2, .ptr 130 0 0), (4, .val (.int .i64) x4), (60, .val .bool x60)] [(130, .box 38 [.val (.int .i64) r130_0, .val (.int .i64) r130_1, .val (.int .i64) r130_2, .val (.int .i64) r130_3, .nils, .val (.int .i64) r130_5, .val (.int .i64) r130_6])] [])
noncomputable def spec_readEvent.j13 (n : Nat) (x0 : List ByteArray) (x4 : Int) (x78 : Bool) (r130_0 r130_1 : Int) (r130_2 r130_3 : Int) (r130_5 r130_6 : Int) : Option ((Int × Int × Int × Int × List Int × Int × Int) × Bool) := holdF (fun s => evalC spec_readEvent.C spec_readEvent.A n (codeAt Tryd.f97 [1, 1, 0, 0, 1, 1, 1, 1, 1, 1, 1, 1, 1, 1, 1]) s (spec_readEvent.K2 n)) (St.of 130 194 [(0, .val (.slice .str) x0), (2, .ptr 130 0 0), (4, .val (.int .i64) x4), (78, .val .bool x78)] [(130, .box 38 [.val (.int .i64) r130_0, .val (.int .i64) r130_1, .val (.int .i64) r130_2, .val (.int .i64) r130_3, .nils, .val (.int .i64) r130_5, .val (.int .i64) r130_6])] [])
noncomputable def spec_readEvent.j15 (n : Nat) (x0 : List ByteArray) (x4 : Int) (x96 : Bool) (r130_0 r130_1 : Int) (r130_2 r130_3 : Int) (r130_5 r130_6 : Int) : Option ((Int × Int × Int × Int × List Int × Int × Int) × Bool) := holdF (fun s => evalC spec_readEvent.C spec_readEvent.A n (codeAt Tryd.f97 [1, 1, 0, 0, 1, 1, 1, 1, 1, 1, 1, 1, 1, 1, 1, 1, 1]) s (spec_readEvent.K2 n)) (St.of 130 194 [(0, .val (.slice .str) x0), (2, .ptr 130 0 0), (4, .val (.int .i64) x4), (96, .val .bool x96)] [(130, .box 38 [.val (.int .i64) r130_0, .val (.int .i64) r130_1, .val (.int .i64) r130_2, .val (.int .i64) r130_3, .nils, .val (.int .i64) r130_5, .val (.int .i64) r130_6])] [])
noncomputable def spec_readEvent.j17 (n : Nat) (x0 : List ByteArray) (x118 : Bool) (r130_0 r130_1 : Int) (r130_2 r130_3 : Int) (r130_5 r130_6 : Int) : Option ((Int × Int × Int × Int × List Int × Int × Int) × Bool) := holdF (fun s => evalC spec_readEvent.C spec_readEvent.A n (codeAt Tryd.f97 [1, 1, 0, 0, 1, 1, 1, 1, 1, 1, 1, 1, 1, 1, 1, 1, 1, 1, 1]) s (spec_readEvent.K2 n)) (St.of 130 194 [(0, .val (.slice .str) x0), (2, .ptr 130 0 0), (118, .val .bool x118)] [(130, .box 38 [.val (.int .i64) r130_0, .val (.int .i64) r130_1, .val (.int .i64) r130_2, .val (.int .i64) r130_3, .nils, .val (.int .i64) r130_5, .val (.int .i64) r130_6])] [])
theorem spec_readEvent.eq (n : Nat) (x0 : List ByteArray) : spec_readEvent n x0 = (if 0 < (↑(List.length x0) : Int) then (if List.getD x0 0 ByteArray.empty = { data := #[(106 : UInt8), (111 : UInt8), (105 : UInt8), (110 : UInt8)] } then spec_readEvent.j3 n (x0) ((↑(List.length x0) : Int)) (Decidable.decide ((↑(List.length x0) : Int) = 1)) (0) (0) (0) (0) (0) (0) else spec_readEvent.j3 n (x0) ((↑(List.length x0) : Int)) (Bool.false) (0) (0) (0) (0) (0) (0)) else none) := by kernel_rfl
theorem spec_readEvent.j3_eq (n : Nat) (x0 : List ByteArray) (x4 : Int) (x7 : Bool) (r130_0 r130_1 : Int) (r130_2 r130_3 : Int) (r130_5 r130_6 : Int) : spec_readEvent.j3 n x0 x4 x7 r130_0 r130_1 r130_2 r130_3 r130_5 r130_6 = (if (x7) = true then some (((0, 0, 0, 0, [], 0, 0), Bool.true)) else (if 0 < (↑(List.length x0) : Int) then (if List.getD x0 0 ByteArray.empty = { data := #[(115 : UInt8), (104 : UInt8), (97 : UInt8), (114 : UInt8), (101 : UInt8)] } then spec_readEvent.j5 n (x0) (x4) (Decidable.decide (x4 = 1)) (r130_0) (r130_1) (r130_2) (r130_3) (r130_5) (r130_6) else spec_readEvent.j5 n (x0) (x4) (Bool.false) (r130_0) (r130_1) (r130_2) (r130_3) (r130_5) (r130_6)) else none)) := (holdF_eq _ _).trans (by kernel_rfl)
theorem spec_readEvent.j5_eq (n : Nat) (x0 : List ByteArray) (x4 : Int) (x17 : Bool) (r130_0 r130_1 : Int) (r130_2 r130_3 : Int) (r130_5 r130_6 : Int) : spec_readEvent.j5 n x0 x4 x17 r130_0 r130_1 r130_2 r130_3 r130_5 r130_6 = (if (x17) = true then some (((7, 0, 0, 0, [], 0, 0), Bool.true)) else (if 0 < (↑(List.length x0) : Int) then (if List.getD x0 0 ByteArray.empty = { data := #[(110 : UInt8), (105 : UInt8), (103 : UInt8), (104 : UInt8), (116 : UInt8)] } then spec_readEvent.j7 n (x0) (x4) (Decidable.decide (x4 = 3)) (r130_0) (r130_1) (r130_2) (r130_3) (r130_5) (r130_6) else spec_readEvent.j7 n (x0) (x4) (Bool.false) (r130_0) (r130_1) (r130_2) (r130_3) (r130_5) (r130_6)) else none)) := (holdF_eq _ _).trans (by kernel_rfl)
theorem spec_readEvent.j7_eq (n : Nat) (x0 : List ByteArray) (x4 : Int) (x27 : Bool) (r130_0 r130_1 : Int) (r130_2 r130_3 : Int) (r130_5 r130_6 : Int) : spec_readEvent.j7 n x0 x4 x27 r130_0 r130_1 r130_2 r130_3 r130_5 r130_6 = (if (x27) = true then (if 1 < (↑(List.length x0) : Int) then ((spec_readNumber n (List.getD x0 1 ByteArray.empty)).bind fun y0 => (if 2 < (↑(List.length x0) : Int) then ((spec_readNumber n (List.getD x0 2 ByteArray.empty)).bind fun y1 => some (((6, 0, 0, 0, [], y0, y1), Bool.true))) else none)) else none) else (if 0 < (↑(List.length x0) : Int) then (if List.getD x0 0 ByteArray.empty = { data := #[(102 : UInt8), (97 : UInt8), (105 : UInt8), (108 : UInt8)] } then spec_readEvent.j9 n (x0) (x4) (Decidable.decide (x4 = 2)) (r130_0) (r130_1) (r130_2) (r130_3) (r130_5) (r130_6) else spec_readEvent.j9 n (x0) (x4) (Bool.false) (r130_0) (r130_1) (r130_2) (r130_3) (r130_5) (r130_6)) else none)) := (holdF_eq _ _).trans (by kernel_rfl)
theorem spec_readEvent.j9_eq (n : Nat) (x0 : List ByteArray) (x4 : Int) (x46 : Bool) (r130_0 r130_1 : Int) (r130_2 r130_3 : Int) (r130_5 r130_6 : Int) : spec_readEvent.j9 n x0 x4 x46 r130_0 r130_1 r130_2 r130_3 r130_5 r130_6 = (if (x46) = true then (if 1 < (↑(List.length x0) : Int) then ((spec_readNumber n (List.getD x0 1 ByteArray.empty)).bind fun y2 => some (((5, y2, 0, 0, [], 0, 0), Bool.true))) else none) else (if 0 < (↑(List.length x0) : Int) then (if List.getD x0 0 ByteArray.empty = { data := #[(115 : UInt8), (97 : UInt8), (118 : UInt8), (101 : UInt8)] } then spec_readEvent.j11 n (x0) (x4) (Decidable.decide (x4 = 3)) (r130_0) (r130_1) (r130_2) (r130_3) (r130_5) (r130_6) else spec_readEvent.j11 n (x0) (x4) (Bool.false) (r130_0) (r130_1) (r130_2) (r130_3) (r130_5) (r130_6)) else none)) := (holdF_eq _ _).trans (by kernel_rfl)
theorem spec_readEvent.j11_eq (n : Nat) (x0 : List ByteArray) (x4 : Int) (x60 : Bool) (r130_0 r130_1 : Int) (r130_2 r130_3 : Int) (r130_5 r130_6 : Int) : spec_readEvent.j11 n x0 x4 x60 r130_0 r130_1 r130_2 r130_3 r130_5 r130_6 = (if (x60) = true then (if 1 < (↑(List.length x0) : Int) then ((spec_readNumber n (List.getD x0 1 ByteArray.empty)).bind fun y3 => (if 2 < (↑(List.length x0) : Int) then ((spec_readMoney n (List.getD x0 2 ByteArray.empty)).bind fun y4 => some (((1, y3, y4, 0, [], 0, 0), Bool.true))) else none)) else none) else (if 0 < (↑(List.length x0) : Int) then (if List.getD x0 0 ByteArray.empty = { data := #[(116 : UInt8), (97 : UInt8), (107 : UInt8), (101 : UInt8)] } then spec_readEvent.j13 n (x0) (x4) (Decidable.decide (x4 = 3)) (r130_0) (r130_1) (r130_2) (r130_3) (r130_5) (r130_6) else spec_readEvent.j13 n (x0) (x4) (Bool.false) (r130_0) (r130_1) (r130_2) (r130_3) (r130_5) (r130_6)) else none)) := (holdF_eq _ _).trans (by kernel_rfl)
theorem spec_readEvent.j13_eq (n : Nat) (x0 : List ByteArray) (x4 : Int) (x78 : Bool) (r130_0 r130_1 : Int) (r130_2 r130_3 : Int) (r130_5 r130_6 : Int) : spec_readEvent.j13 n x0 x4 x78 r130_0 r130_1 r130_2 r130_3 r130_5 r130_6 = (if (x78) = true then (if 1 < (↑(List.length x0) : Int) then ((spec_readNumber n (List.getD x0 1 ByteArray.empty)).bind fun y5 => (if 2 < (↑(List.length x0) : Int) then ((spec_readMoney n (List.getD x0 2 ByteArray.empty)).bind fun y6 => some (((2, y5, y6, 0, [], 0, 0), Bool.true))) else none)) else none) else (if 0 < (↑(List.length x0) : Int) then (if List.getD x0 0 ByteArray.empty = { data := #[(114 : UInt8), (101 : UInt8), (112 : UInt8), (97 : UInt8), (121 : UInt8)] } then spec_readEvent.j15 n (x0) (x4) (Decidable.decide (x4 = 4)) (r130_0) (r130_1) (r130_2) (r130_3) (r130_5) (r130_6) else spec_readEvent.j15 n (x0) (x4) (Bool.false) (r130_0) (r130_1) (r130_2) (r130_3) (r130_5) (r130_6)) else none)) := (holdF_eq _ _).trans (by kernel_rfl)
theorem spec_readEvent.j15_eq (n : Nat) (x0 : List ByteArray) (x4 : Int) (x96 : Bool) (r130_0 r130_1 : Int) (r130_2 r130_3 : Int) (r130_5 r130_6 : Int) : spec_readEvent.j15 n x0 x4 x96 r130_0 r130_1 r130_2 r130_3 r130_5 r130_6 = (if (x96) = true then (if 1 < (↑(List.length x0) : Int) then ((spec_readNumber n (List.getD x0 1 ByteArray.empty)).bind fun y7 => (if 2 < (↑(List.length x0) : Int) then ((spec_readMoney n (List.getD x0 2 ByteArray.empty)).bind fun y8 => (if 3 < (↑(List.length x0) : Int) then ((spec_readMoney n (List.getD x0 3 ByteArray.empty)).bind fun y9 => some (((4, y7, y8, y9, [], 0, 0), Bool.true))) else none)) else none)) else none) else (if 0 < (↑(List.length x0) : Int) then (if List.getD x0 0 ByteArray.empty = { data := #[(108 : UInt8), (101 : UInt8), (110 : UInt8), (100 : UInt8)] } then spec_readEvent.j17 n (x0) (Decidable.decide (x4 ≥ 3)) (r130_0) (r130_1) (r130_2) (r130_3) (r130_5) (r130_6) else spec_readEvent.j17 n (x0) (Bool.false) (r130_0) (r130_1) (r130_2) (r130_3) (r130_5) (r130_6)) else none)) := (holdF_eq _ _).trans (by kernel_rfl)
theorem spec_readEvent.j17_eq (n : Nat) (x0 : List ByteArray) (x118 : Bool) (r130_0 r130_1 : Int) (r130_2 r130_3 : Int) (r130_5 r130_6 : Int) : spec_readEvent.j17 n x0 x118 r130_0 r130_1 r130_2 r130_3 r130_5 r130_6 = (if (x118) = true then ((spec_readLend n x0).bind fun y10 => some (((y10.1, y10.2.1, y10.2.2.1, y10.2.2.2.1, y10.2.2.2.2.1, y10.2.2.2.2.2.1, y10.2.2.2.2.2.2), Bool.true))) else some (((0, 0, 0, 0, [], 0, 0), Bool.false))) := (holdF_eq _ _).trans (by kernel_rfl)
noncomputable abbrev spec_readEvent.sg (n : Nat) : Sig := { params := spec_readEvent.ps, res := spec_readEvent.res, run := spec_readEvent n }
theorem spec_readEvent.call : Callable Tryd.prog 97 := ⟨Tryd.f97, Tryd.func97, by kernel_rfl, by kernel_rfl⟩
theorem spec_readEvent.ok (n : Nat) : FC Tryd.prog [] 97 (spec_readEvent.sg n) :=
  evalF_ok (C := spec_readEvent.C) ⟨tb_ok, fun n _ _ h => tabOk (l := [(67, (spec_readNumber.sg n)), (68, (spec_readMoney.sg n)), (109, (spec_readLend.sg n))]) (all_cons ⟨spec_readNumber.ok n, spec_readNumber.call⟩ (all_cons ⟨spec_readMoney.ok n, spec_readMoney.call⟩ (all_cons ⟨spec_readLend.ok n, spec_readLend.call⟩ (all_nil)))) h, mixed, ar_ok, bld_ok, pts_ok⟩ spec_readEvent.A Tryd.func97 spec_readEvent.ps spec_readEvent.res n
abbrev spec_inRange.ps : List Pm := [.arg (.v (.int .i64)), .arg (.v (.int .i64)), .arg (.v (.int .i64))]
abbrev spec_inRange.res : List M := [.v .bool]
noncomputable def spec_inRange.C : Cfg := { tb := tb, tab := fun n f => Refl.look [] f, gl := [], ar := ar, bld := bld, pts := pts }
noncomputable def spec_inRange.A : Ann := { joins := [], loops := [], ids := [], pids := [], nroots := 79 }
noncomputable def spec_inRange (n : Nat) (x : Int × Int × Int) : Option (Bool) := evalF spec_inRange.C spec_inRange.A Tryd.f83 spec_inRange.ps spec_inRange.res n x
noncomputable def spec_inRange.K0 (_ : Nat) : Kont (Bool) := finK spec_inRange.C (Func.results Tryd.f83).toList spec_inRange.ps spec_inRange.res
theorem spec_inRange.eq (n : Nat) (x0 x1 x2 : Int) : spec_inRange n (x0, x1, x2) = (if x1 ≤ x0 then some (Decidable.decide (x0 ≤ x2)) else some (Bool.false)) := by kernel_rfl
noncomputable abbrev spec_inRange.sg (n : Nat) : Sig := { params := spec_inRange.ps, res := spec_inRange.res, run := spec_inRange n }
theorem spec_inRange.call : Callable Tryd.prog 83 := ⟨Tryd.f83, Tryd.func83, by kernel_rfl, by kernel_rfl⟩
theorem spec_inRange.ok (n : Nat) : FC Tryd.prog [] 83 (spec_inRange.sg n) :=
  evalF_ok (C := spec_inRange.C) ⟨tb_ok, fun n _ _ h => tabOk (l := []) (all_nil) h, mixed, ar_ok, bld_ok, pts_ok⟩ spec_inRange.A Tryd.func83 spec_inRange.ps spec_inRange.res n
abbrev spec_validRate.ps : List Pm := [.arg (.v (.pair (.int .i64) (.int .i64)))]
abbrev spec_validRate.res : List M := [.v .bool]
noncomputable def spec_validRate.C : Cfg := { tb := tb, tab := fun n f => Refl.look [(83, (spec_inRange.sg n))] f, gl := [], ar := ar, bld := bld, pts := pts }
noncomputable def spec_validRate.A : Ann := { joins := [], loops := [], ids := [(1, [(5, []), (11, [])])], pids := [], nroots := 77 }
noncomputable def spec_validRate (n : Nat) (x : Int × Int) : Option (Bool) := evalF spec_validRate.C spec_validRate.A Tryd.f82 spec_validRate.ps spec_validRate.res n x
noncomputable def spec_validRate.K0 (_ : Nat) : Kont (Bool) := finK spec_validRate.C (Func.results Tryd.f82).toList spec_validRate.ps spec_validRate.res
theorem spec_validRate.eq (n : Nat) (x0 : Int × Int) : spec_validRate n x0 = ((spec_inRange n (x0.2, 1, 1000)).bind fun y0 => (if y0 = Bool.true then ((spec_inRange n (x0.1, 0, x0.2)).bind fun y1 => some (y1)) else some (Bool.false))) := by kernel_rfl
noncomputable abbrev spec_validRate.sg (n : Nat) : Sig := { params := spec_validRate.ps, res := spec_validRate.res, run := spec_validRate n }
theorem spec_validRate.call : Callable Tryd.prog 82 := ⟨Tryd.f82, Tryd.func82, by kernel_rfl, by kernel_rfl⟩
theorem spec_validRate.ok (n : Nat) : FC Tryd.prog [] 82 (spec_validRate.sg n) :=
  evalF_ok (C := spec_validRate.C) ⟨tb_ok, fun n _ _ h => tabOk (l := [(83, (spec_inRange.sg n))]) (all_cons ⟨spec_inRange.ok n, spec_inRange.call⟩ (all_nil)) h, mixed, ar_ok, bld_ok, pts_ok⟩ spec_validRate.A Tryd.func82 spec_validRate.ps spec_validRate.res n
abbrev spec_validAmount.ps : List Pm := [.arg (.v (.int .i64))]
abbrev spec_validAmount.res : List M := [.v .bool]
noncomputable def spec_validAmount.C : Cfg := { tb := tb, tab := fun n f => Refl.look [(83, (spec_inRange.sg n))] f, gl := [], ar := ar, bld := bld, pts := pts }
noncomputable def spec_validAmount.A : Ann := { joins := [], loops := [], ids := [(1, [(4, [])])], pids := [], nroots := 69 }
noncomputable def spec_validAmount (n : Nat) (x : Int) : Option (Bool) := evalF spec_validAmount.C spec_validAmount.A Tryd.f84 spec_validAmount.ps spec_validAmount.res n x
noncomputable def spec_validAmount.K0 (_ : Nat) : Kont (Bool) := finK spec_validAmount.C (Func.results Tryd.f84).toList spec_validAmount.ps spec_validAmount.res
theorem spec_validAmount.eq (n : Nat) (x0 : Int) : spec_validAmount n x0 = ((spec_inRange n (x0, 0, 1000000)).bind fun y0 => some (y0)) := by kernel_rfl
noncomputable abbrev spec_validAmount.sg (n : Nat) : Sig := { params := spec_validAmount.ps, res := spec_validAmount.res, run := spec_validAmount n }
theorem spec_validAmount.call : Callable Tryd.prog 84 := ⟨Tryd.f84, Tryd.func84, by kernel_rfl, by kernel_rfl⟩
theorem spec_validAmount.ok (n : Nat) : FC Tryd.prog [] 84 (spec_validAmount.sg n) :=
  evalF_ok (C := spec_validAmount.C) ⟨tb_ok, fun n _ _ h => tabOk (l := [(83, (spec_inRange.sg n))]) (all_cons ⟨spec_inRange.ok n, spec_inRange.call⟩ (all_nil)) h, mixed, ar_ok, bld_ok, pts_ok⟩ spec_validAmount.A Tryd.func84 spec_validAmount.ps spec_validAmount.res n
abbrev spec_money.ps : List Pm := [.arg (.v (.int .i64))]
abbrev spec_money.res : List M := [.v .str]
noncomputable def spec_money.C : Cfg := { tb := tb, tab := fun n f => Refl.look [(79, (spec_number.sg n))] f, gl := [], ar := ar, bld := bld, pts := pts }
noncomputable def spec_money.A : Ann := { joins := [], loops := [], ids := [(1, [(5, []), (10, []), (14, [])])], pids := [], nroots := 80 }
noncomputable def spec_money (n : Nat) (x : Int) : Option (ByteArray) := evalF spec_money.C spec_money.A Tryd.f85 spec_money.ps spec_money.res n x
noncomputable def spec_money.K0 (_ : Nat) : Kont (ByteArray) := finK spec_money.C (Func.results Tryd.f85).toList spec_money.ps spec_money.res
theorem spec_money.eq (n : Nat) (x0 : Int) : spec_money n x0 = ((spec_number n (Go.RowKit.wrap64 (Int.tdiv x0 100))).bind fun y0 => (if ByteArray.size y0 + ByteArray.size { data := #[(46 : UInt8)] } ≤ Go.Refl.maxN then ((spec_number n (Int.tmod (Go.RowKit.wrap64 (Int.tdiv x0 10)) 10)).bind fun y1 => (if ByteArray.size (y0 ++ { data := #[(46 : UInt8)] }) + ByteArray.size y1 ≤ Go.Refl.maxN then ((spec_number n (Int.tmod x0 10)).bind fun y2 => (if ByteArray.size (y0 ++ { data := #[(46 : UInt8)] } ++ y1) + ByteArray.size y2 ≤ Go.Refl.maxN then some (y0 ++ { data := #[(46 : UInt8)] } ++ y1 ++ y2) else none)) else none)) else none)) := by kernel_rfl
noncomputable abbrev spec_money.sg (n : Nat) : Sig := { params := spec_money.ps, res := spec_money.res, run := spec_money n }
theorem spec_money.call : Callable Tryd.prog 85 := ⟨Tryd.f85, Tryd.func85, by kernel_rfl, by kernel_rfl⟩
theorem spec_money.ok (n : Nat) : FC Tryd.prog [] 85 (spec_money.sg n) :=
  evalF_ok (C := spec_money.C) ⟨tb_ok, fun n _ _ h => tabOk (l := [(79, (spec_number.sg n))]) (all_cons ⟨spec_number.ok n, spec_number.call⟩ (all_nil)) h, mixed, ar_ok, bld_ok, pts_ok⟩ spec_money.A Tryd.func85 spec_money.ps spec_money.res n
abbrev spec_showEvent.ps : List Pm := [.arg (.v (.pair (.int .i64) (.pair (.int .i64) (.pair (.int .i64) (.pair (.int .i64) (.pair (.slice (.int .i64)) (.pair (.int .i64) (.int .i64))))))))]
abbrev spec_showEvent.res : List M := [.v .str]
noncomputable def spec_showEvent.C : Cfg := { tb := tb, tab := fun n f => Refl.look [(82, (spec_validRate.sg n)), (79, (spec_number.sg n)), (83, (spec_inRange.sg n)), (84, (spec_validAmount.sg n)), (85, (spec_money.sg n))] f, gl := [], ar := ar, bld := bld, pts := pts }
noncomputable def spec_showEvent.A : Ann := { joins := [], loops := [(27, { live := [1, 3, 4], base := 120 })], ids := [(7, [(15, [])]), (8, [(19, []), (25, [])]), (10, [(29, [])]), (13, [(36, [])]), (14, [(40, [])]), (18, [(48, []), (53, [])]), (20, [(59, []), (64, [])]), (22, [(70, [])]), (23, [(73, []), (78, []), (83, [])]), (25, [(89, []), (94, [])]), (29, [(108, [])]), (31, [(117, [])])], pids := [], nroots := 184 }
noncomputable def spec_showEvent (n : Nat) (x : Int × Int × Int × Int × List Int × Int × Int) : Option (ByteArray) := evalF spec_showEvent.C spec_showEvent.A Tryd.f52 spec_showEvent.ps spec_showEvent.res n x
noncomputable def spec_showEvent.K0 (_ : Nat) : Kont (ByteArray) := finK spec_showEvent.C (Func.results Tryd.f52).toList spec_showEvent.ps spec_showEvent.res
noncomputable def spec_showEvent.K1 (n : Nat) : Kont (ByteArray) := seqK (fun s' k => joinE spec_showEvent.A.joins (codeAt Tryd.f52 [1, 1, 1, 1, 1, 1]) (fun s'' => evalC spec_showEvent.C spec_showEvent.A n (codeAt Tryd.f52 [1, 1, 1, 1, 1, 1]) s'' k) s') (spec_showEvent.K0 n)
noncomputable def spec_showEvent.K2 (n : Nat) : Kont (ByteArray) := blockK 1 (spec_showEvent.K1 n)
noncomputable def spec_showEvent.K3 (n : Nat) : Kont (ByteArray) := seqK (fun s' k => joinE spec_showEvent.A.joins (codeAt Tryd.f52 [1, 1, 1, 1, 1, 0, 1, 0, 1, 1, 1, 1, 1, 1, 1, 0, 1, 1]) (fun s'' => evalC spec_showEvent.C spec_showEvent.A n (codeAt Tryd.f52 [1, 1, 1, 1, 1, 0, 1, 0, 1, 1, 1, 1, 1, 1, 1, 0, 1, 1]) s'' k) s') (spec_showEvent.K2 n)
noncomputable def spec_showEvent.K4 (n : Nat) : Kont (ByteArray) := blockK 2 (spec_showEvent.K3 n)
noncomputable def spec_showEvent.l27 (n m27 : Nat) (x3 : ByteArray) (x4 r120_0 : Int) (r120_1 r120_2 r120_3 : Int) (r120_4 : List Int) (r120_5 r120_6 : Int) : Option (ByteArray) := loopE (cutAt spec_showEvent.A.loops (codeAt Tryd.f52 [1, 1, 1, 1, 1, 0, 1, 0, 1, 1, 1, 1, 1, 1, 1, 0, 1, 0, 1, 0, 0])) (fun s k => evalC spec_showEvent.C spec_showEvent.A n (codeAt Tryd.f52 [1, 1, 1, 1, 1, 0, 1, 0, 1, 1, 1, 1, 1, 1, 1, 0, 1, 0, 1, 0, 0]) s k) m27 (St.of 120 184 [(1, .ptr 120 0 0), (3, .val .str x3), (4, .val (.int .i64) x4)] [(120, .box 38 [.val (.int .i64) r120_0, .val (.int .i64) r120_1, .val (.int .i64) r120_2, .val (.int .i64) r120_3, .val (.slice (.int .i64)) r120_4, .val (.int .i64) r120_5, .val (.int .i64) r120_6])] []) (spec_showEvent.K4 n)
theorem spec_showEvent.eq (n : Nat) (x0 : Int × Int × Int × Int × List Int × Int × Int) : spec_showEvent n x0 = (if x0.1 = 0 then some ({ data := #[(106 : UInt8), (111 : UInt8), (105 : UInt8), (110 : UInt8)] }) else (if x0.1 = 7 then some ({ data := #[(115 : UInt8), (104 : UInt8), (97 : UInt8), (114 : UInt8), (101 : UInt8)] }) else (if x0.1 = 6 then ((spec_validRate n (x0.2.2.2.2.2.1, x0.2.2.2.2.2.2)).bind fun y0 => (if (y0) = true then ((spec_number n x0.2.2.2.2.2.1).bind fun y1 => (if ByteArray.size { data := #[(110 : UInt8), (105 : UInt8), (103 : UInt8), (104 : UInt8), (116 : UInt8), (32 : UInt8)] } + ByteArray.size y1 ≤ Go.Refl.maxN then (if ByteArray.size ({ data := #[(110 : UInt8), (105 : UInt8), (103 : UInt8), (104 : UInt8), (116 : UInt8), (32 : UInt8)] } ++ y1) + ByteArray.size { data := #[(32 : UInt8)] } ≤ Go.Refl.maxN then ((spec_number n x0.2.2.2.2.2.2).bind fun y2 => (if ByteArray.size ({ data := #[(110 : UInt8), (105 : UInt8), (103 : UInt8), (104 : UInt8), (116 : UInt8), (32 : UInt8)] } ++ y1 ++ { data := #[(32 : UInt8)] }) + ByteArray.size y2 ≤ Go.Refl.maxN then some ({ data := #[(110 : UInt8), (105 : UInt8), (103 : UInt8), (104 : UInt8), (116 : UInt8), (32 : UInt8)] } ++ y1 ++ { data := #[(32 : UInt8)] } ++ y2) else none)) else none) else none)) else some ({ data := #[] }))) else ((spec_inRange n (x0.2.1, 0, 99)).bind fun y3 => (if (!y3) = true then some ({ data := #[] }) else (if x0.1 = 5 then ((spec_number n x0.2.1).bind fun y4 => (if ByteArray.size { data := #[(102 : UInt8), (97 : UInt8), (105 : UInt8), (108 : UInt8), (32 : UInt8)] } + ByteArray.size y4 ≤ Go.Refl.maxN then some ({ data := #[(102 : UInt8), (97 : UInt8), (105 : UInt8), (108 : UInt8), (32 : UInt8)] } ++ y4) else none)) else ((spec_validAmount n x0.2.2.1).bind fun y5 => (if (!y5) = true then some ({ data := #[] }) else (if x0.1 = 1 then ((spec_number n x0.2.1).bind fun y6 => (if ByteArray.size { data := #[(115 : UInt8), (97 : UInt8), (118 : UInt8), (101 : UInt8), (32 : UInt8)] } + ByteArray.size y6 ≤ Go.Refl.maxN then (if ByteArray.size ({ data := #[(115 : UInt8), (97 : UInt8), (118 : UInt8), (101 : UInt8), (32 : UInt8)] } ++ y6) + ByteArray.size { data := #[(32 : UInt8)] } ≤ Go.Refl.maxN then ((spec_money n x0.2.2.1).bind fun y7 => (if ByteArray.size ({ data := #[(115 : UInt8), (97 : UInt8), (118 : UInt8), (101 : UInt8), (32 : UInt8)] } ++ y6 ++ { data := #[(32 : UInt8)] }) + ByteArray.size y7 ≤ Go.Refl.maxN then some ({ data := #[(115 : UInt8), (97 : UInt8), (118 : UInt8), (101 : UInt8), (32 : UInt8)] } ++ y6 ++ { data := #[(32 : UInt8)] } ++ y7) else none)) else none) else none)) else (if x0.1 = 2 then ((spec_number n x0.2.1).bind fun y8 => (if ByteArray.size { data := #[(116 : UInt8), (97 : UInt8), (107 : UInt8), (101 : UInt8), (32 : UInt8)] } + ByteArray.size y8 ≤ Go.Refl.maxN then (if ByteArray.size ({ data := #[(116 : UInt8), (97 : UInt8), (107 : UInt8), (101 : UInt8), (32 : UInt8)] } ++ y8) + ByteArray.size { data := #[(32 : UInt8)] } ≤ Go.Refl.maxN then ((spec_money n x0.2.2.1).bind fun y9 => (if ByteArray.size ({ data := #[(116 : UInt8), (97 : UInt8), (107 : UInt8), (101 : UInt8), (32 : UInt8)] } ++ y8 ++ { data := #[(32 : UInt8)] }) + ByteArray.size y9 ≤ Go.Refl.maxN then some ({ data := #[(116 : UInt8), (97 : UInt8), (107 : UInt8), (101 : UInt8), (32 : UInt8)] } ++ y8 ++ { data := #[(32 : UInt8)] } ++ y9) else none)) else none) else none)) else (if x0.1 = 4 then ((spec_validAmount n x0.2.2.2.1).bind fun y10 => (if (y10) = true then ((spec_number n x0.2.1).bind fun y11 => (if ByteArray.size { data := #[(114 : UInt8), (101 : UInt8), (112 : UInt8), (97 : UInt8), (121 : UInt8), (32 : UInt8)] } + ByteArray.size y11 ≤ Go.Refl.maxN then (if ByteArray.size ({ data := #[(114 : UInt8), (101 : UInt8), (112 : UInt8), (97 : UInt8), (121 : UInt8), (32 : UInt8)] } ++ y11) + ByteArray.size { data := #[(32 : UInt8)] } ≤ Go.Refl.maxN then ((spec_money n x0.2.2.1).bind fun y12 => (if ByteArray.size ({ data := #[(114 : UInt8), (101 : UInt8), (112 : UInt8), (97 : UInt8), (121 : UInt8), (32 : UInt8)] } ++ y11 ++ { data := #[(32 : UInt8)] }) + ByteArray.size y12 ≤ Go.Refl.maxN then (if ByteArray.size ({ data := #[(114 : UInt8), (101 : UInt8), (112 : UInt8), (97 : UInt8), (121 : UInt8), (32 : UInt8)] } ++ y11 ++ { data := #[(32 : UInt8)] } ++ y12) + ByteArray.size { data := #[(32 : UInt8)] } ≤ Go.Refl.maxN then ((spec_money n x0.2.2.2.1).bind fun y13 => (if ByteArray.size ({ data := #[(114 : UInt8), (101 : UInt8), (112 : UInt8), (97 : UInt8), (121 : UInt8), (32 : UInt8)] } ++ y11 ++ { data := #[(32 : UInt8)] } ++ y12 ++ { data := #[(32 : UInt8)] }) + ByteArray.size y13 ≤ Go.Refl.maxN then some ({ data := #[(114 : UInt8), (101 : UInt8), (112 : UInt8), (97 : UInt8), (121 : UInt8), (32 : UInt8)] } ++ y11 ++ { data := #[(32 : UInt8)] } ++ y12 ++ { data := #[(32 : UInt8)] } ++ y13) else none)) else none) else none)) else none) else none)) else some ({ data := #[] }))) else (if x0.1 = 3 then ((spec_number n x0.2.1).bind fun y14 => (if ByteArray.size { data := #[(108 : UInt8), (101 : UInt8), (110 : UInt8), (100 : UInt8), (32 : UInt8)] } + ByteArray.size y14 ≤ Go.Refl.maxN then (if ByteArray.size ({ data := #[(108 : UInt8), (101 : UInt8), (110 : UInt8), (100 : UInt8), (32 : UInt8)] } ++ y14) + ByteArray.size { data := #[(32 : UInt8)] } ≤ Go.Refl.maxN then ((spec_money n x0.2.2.1).bind fun y15 => (if ByteArray.size ({ data := #[(108 : UInt8), (101 : UInt8), (110 : UInt8), (100 : UInt8), (32 : UInt8)] } ++ y14 ++ { data := #[(32 : UInt8)] }) + ByteArray.size y15 ≤ Go.Refl.maxN then spec_showEvent.l27 n n ({ data := #[(108 : UInt8), (101 : UInt8), (110 : UInt8), (100 : UInt8), (32 : UInt8)] } ++ y14 ++ { data := #[(32 : UInt8)] } ++ y15) (0) x0.1 x0.2.1 x0.2.2.1 x0.2.2.2.1 x0.2.2.2.2.1 x0.2.2.2.2.2.1 x0.2.2.2.2.2.2 else none)) else none) else none)) else some ({ data := #[] }))))))))))))) := by kernel_rfl
theorem spec_showEvent.l27_zero (n : Nat) (x3 : ByteArray) (x4 r120_0 : Int) (r120_1 r120_2 r120_3 : Int) (r120_4 : List Int) (r120_5 r120_6 : Int) : spec_showEvent.l27 n 0 x3 x4 r120_0 r120_1 r120_2 r120_3 r120_4 r120_5 r120_6 = none := by kernel_rfl
theorem spec_showEvent.l27_succ (n m27 : Nat) (x3 : ByteArray) (x4 r120_0 : Int) (r120_1 r120_2 r120_3 : Int) (r120_4 : List Int) (r120_5 r120_6 : Int) : spec_showEvent.l27 n (m27 + 1) x3 x4 r120_0 r120_1 r120_2 r120_3 r120_4 r120_5 r120_6 = (if x4 < (↑(List.length r120_4) : Int) then (if 0 ≤ x4 then (if x4 < (↑(List.length r120_4) : Int) then ((spec_inRange n (List.getD r120_4 (Int.toNat x4) 0, 0, 99)).bind fun y16 => (if (!y16) = true then some ({ data := #[] }) else (if ByteArray.size x3 + ByteArray.size { data := #[(32 : UInt8)] } ≤ Go.Refl.maxN then (if 0 ≤ x4 then (if x4 < (↑(List.length r120_4) : Int) then ((spec_number n (List.getD r120_4 (Int.toNat x4) 0)).bind fun y17 => (if ByteArray.size (x3 ++ { data := #[(32 : UInt8)] }) + ByteArray.size y17 ≤ Go.Refl.maxN then spec_showEvent.l27 n m27 (x3 ++ { data := #[(32 : UInt8)] } ++ y17) (Go.RowKit.wrap64 (x4 + 1)) (r120_0) (r120_1) (r120_2) (r120_3) (r120_4) (r120_5) (r120_6) else none)) else none) else none) else none))) else none) else none) else some (x3)) := by kernel_rfl
noncomputable abbrev spec_showEvent.sg (n : Nat) : Sig := { params := spec_showEvent.ps, res := spec_showEvent.res, run := spec_showEvent n }
theorem spec_showEvent.call : Callable Tryd.prog 52 := ⟨Tryd.f52, Tryd.func52, by kernel_rfl, by kernel_rfl⟩
theorem spec_showEvent.ok (n : Nat) : FC Tryd.prog [] 52 (spec_showEvent.sg n) :=
  evalF_ok (C := spec_showEvent.C) ⟨tb_ok, fun n _ _ h => tabOk (l := [(82, (spec_validRate.sg n)), (79, (spec_number.sg n)), (83, (spec_inRange.sg n)), (84, (spec_validAmount.sg n)), (85, (spec_money.sg n))]) (all_cons ⟨spec_validRate.ok n, spec_validRate.call⟩ (all_cons ⟨spec_number.ok n, spec_number.call⟩ (all_cons ⟨spec_inRange.ok n, spec_inRange.call⟩ (all_cons ⟨spec_validAmount.ok n, spec_validAmount.call⟩ (all_cons ⟨spec_money.ok n, spec_money.call⟩ (all_nil)))))) h, mixed, ar_ok, bld_ok, pts_ok⟩ spec_showEvent.A Tryd.func52 spec_showEvent.ps spec_showEvent.res n
abbrev spec_parseEvent.ps : List Pm := [.arg (.v .str)]
abbrev spec_parseEvent.res : List M := [.v (.pair (.int .i64) (.pair (.int .i64) (.pair (.int .i64) (.pair (.int .i64) (.pair (.slice (.int .i64)) (.pair (.int .i64) (.int .i64))))))), .v .bool]
noncomputable def spec_parseEvent.C : Cfg := { tb := tb, tab := fun n f => Refl.look [(66, (spec_splitAt.sg n)), (97, (spec_readEvent.sg n)), (52, (spec_showEvent.sg n))] f, gl := [], ar := ar, bld := bld, pts := pts }
noncomputable def spec_parseEvent.A : Ann := { joins := [], loops := [], ids := [(1, [(9, [])]), (2, [(16, [])])], pids := [], nroots := 86 }
noncomputable def spec_parseEvent (n : Nat) (x : ByteArray) : Option ((Int × Int × Int × Int × List Int × Int × Int) × Bool) := evalF spec_parseEvent.C spec_parseEvent.A Tryd.f72 spec_parseEvent.ps spec_parseEvent.res n x
noncomputable def spec_parseEvent.K0 (_ : Nat) : Kont ((Int × Int × Int × Int × List Int × Int × Int) × Bool) := finK spec_parseEvent.C (Func.results Tryd.f72).toList spec_parseEvent.ps spec_parseEvent.res
theorem spec_parseEvent.eq (n : Nat) (x0 : ByteArray) : spec_parseEvent n x0 = ((spec_splitAt n (x0, 32)).bind fun y0 => ((spec_readEvent n y0).bind fun y1 => (if (!y1.2) = Bool.true then some (((0, 0, 0, 0, [], 0, 0), Bool.false)) else ((spec_showEvent n (y1.1.1, y1.1.2.1, y1.1.2.2.1, y1.1.2.2.2.1, y1.1.2.2.2.2.1, y1.1.2.2.2.2.2.1, y1.1.2.2.2.2.2.2)).bind fun y2 => (if y2 = x0 then some (((y1.1.1, y1.1.2.1, y1.1.2.2.1, y1.1.2.2.2.1, y1.1.2.2.2.2.1, y1.1.2.2.2.2.2.1, y1.1.2.2.2.2.2.2), Bool.true)) else some (((0, 0, 0, 0, [], 0, 0), Bool.false))))))) := by kernel_rfl
noncomputable abbrev spec_parseEvent.sg (n : Nat) : Sig := { params := spec_parseEvent.ps, res := spec_parseEvent.res, run := spec_parseEvent n }
theorem spec_parseEvent.call : Callable Tryd.prog 72 := ⟨Tryd.f72, Tryd.func72, by kernel_rfl, by kernel_rfl⟩
theorem spec_parseEvent.ok (n : Nat) : FC Tryd.prog [] 72 (spec_parseEvent.sg n) :=
  evalF_ok (C := spec_parseEvent.C) ⟨tb_ok, fun n _ _ h => tabOk (l := [(66, (spec_splitAt.sg n)), (97, (spec_readEvent.sg n)), (52, (spec_showEvent.sg n))]) (all_cons ⟨spec_splitAt.ok n, spec_splitAt.call⟩ (all_cons ⟨spec_readEvent.ok n, spec_readEvent.call⟩ (all_cons ⟨spec_showEvent.ok n, spec_showEvent.call⟩ (all_nil)))) h, mixed, ar_ok, bld_ok, pts_ok⟩ spec_parseEvent.A Tryd.func72 spec_parseEvent.ps spec_parseEvent.res n
abbrev spec_ParseEvent.ps : List Pm := [.arg (.v .str)]
abbrev spec_ParseEvent.res : List M := [.v (.pair (.int .i64) (.pair (.int .i64) (.pair (.int .i64) (.pair (.int .i64) (.pair (.slice (.int .i64)) (.pair (.int .i64) (.int .i64))))))), .v .bool]
noncomputable def spec_ParseEvent.C : Cfg := { tb := tb, tab := fun n f => Refl.look [(72, (spec_parseEvent.sg n))] f, gl := [], ar := ar, bld := bld, pts := pts }
noncomputable def spec_ParseEvent.A : Ann := { joins := [], loops := [], ids := [(1, [(5, [])])], pids := [], nroots := 72 }
noncomputable def spec_ParseEvent (n : Nat) (x : ByteArray) : Option ((Int × Int × Int × Int × List Int × Int × Int) × Bool) := evalF spec_ParseEvent.C spec_ParseEvent.A Tryd.f35 spec_ParseEvent.ps spec_ParseEvent.res n x
noncomputable def spec_ParseEvent.K0 (_ : Nat) : Kont ((Int × Int × Int × Int × List Int × Int × Int) × Bool) := finK spec_ParseEvent.C (Func.results Tryd.f35).toList spec_ParseEvent.ps spec_ParseEvent.res
theorem spec_ParseEvent.eq (n : Nat) (x0 : ByteArray) : spec_ParseEvent n x0 = ((spec_parseEvent n x0).bind fun y0 => some (((y0.1.1, y0.1.2.1, y0.1.2.2.1, y0.1.2.2.2.1, y0.1.2.2.2.2.1, y0.1.2.2.2.2.2.1, y0.1.2.2.2.2.2.2), y0.2))) := by kernel_rfl
noncomputable abbrev spec_ParseEvent.sg (n : Nat) : Sig := { params := spec_ParseEvent.ps, res := spec_ParseEvent.res, run := spec_ParseEvent n }
theorem spec_ParseEvent.call : Callable Tryd.prog 35 := ⟨Tryd.f35, Tryd.func35, by kernel_rfl, by kernel_rfl⟩
theorem spec_ParseEvent.ok (n : Nat) : FC Tryd.prog [] 35 (spec_ParseEvent.sg n) :=
  evalF_ok (C := spec_ParseEvent.C) ⟨tb_ok, fun n _ _ h => tabOk (l := [(72, (spec_parseEvent.sg n))]) (all_cons ⟨spec_parseEvent.ok n, spec_parseEvent.call⟩ (all_nil)) h, mixed, ar_ok, bld_ok, pts_ok⟩ spec_ParseEvent.A Tryd.func35 spec_ParseEvent.ps spec_ParseEvent.res n
abbrev strings_explode.ps : List Pm := [.arg (.v .str), .arg (.v (.int .i64))]
abbrev strings_explode.res : List M := [(.own .str 9)]
noncomputable def strings_explode (n : Nat) : ByteArray × Int → Option (List ByteArray) := fun _ => none
noncomputable abbrev strings_explode.sg (n : Nat) : Sig := { params := strings_explode.ps, res := strings_explode.res, run := strings_explode n }
theorem strings_explode.call : Callable Tryd.prog 103 := ⟨Tryd.f103, Tryd.func103, by kernel_rfl, by kernel_rfl⟩
theorem strings_explode.ok (n : Nat) : FC Tryd.prog [] 103 (strings_explode.sg n) := never_FC
abbrev strings_Count.ps : List Pm := ixPs
abbrev strings_Count.res : List M := ixRes
noncomputable def strings_Count (n : Nat) : ByteArray × ByteArray → Option Int := ctRun
noncomputable abbrev strings_Count.sg (n : Nat) : Sig := { params := strings_Count.ps, res := strings_Count.res, run := strings_Count n }
theorem strings_Count.call : Callable Tryd.prog 104 := ⟨Tryd.f104, Tryd.func104, by kernel_rfl, by kernel_rfl⟩
theorem strings_Count.ok (n : Nat) : FC Tryd.prog [] 104 (strings_Count.sg n) := ct_FC Tryd.lays138
abbrev strings_Index.ps : List Pm := ixPs
abbrev strings_Index.res : List M := ixRes
noncomputable def strings_Index (n : Nat) : ByteArray × ByteArray → Option Int := ixRun
noncomputable abbrev strings_Index.sg (n : Nat) : Sig := { params := strings_Index.ps, res := strings_Index.res, run := strings_Index n }
theorem strings_Index.call : Callable Tryd.prog 105 := ⟨Tryd.f105, Tryd.func105, by kernel_rfl, by kernel_rfl⟩
theorem strings_Index.ok (n : Nat) : FC Tryd.prog [] 105 (strings_Index.sg n) := ix_FC Tryd.lays143
abbrev strings_genSplit.ps : List Pm := [.arg (.v .str), .arg (.v .str), .arg (.v (.int .i64)), .arg (.v (.int .i64))]
abbrev strings_genSplit.res : List M := [(.own .str 9)]
noncomputable def strings_genSplit.C : Cfg := { tb := tb, tab := fun n f => Refl.look [(103, (strings_explode.sg n)), (104, (strings_Count.sg n)), (105, (strings_Index.sg n))] f, gl := [], ar := ar, bld := bld, pts := pts }
noncomputable def strings_genSplit.A : Ann := { joins := [], loops := [(11, { live := [0, 1, 2, 3, 9, 10], base := 66 })], ids := [(6, [(23, [])]), (12, [(39, [])])], pids := [], nroots := 130 }
noncomputable def strings_genSplit (n : Nat) (x : ByteArray × ByteArray × Int × Int) : Option (List ByteArray) := evalF strings_genSplit.C strings_genSplit.A Tryd.f93 strings_genSplit.ps strings_genSplit.res n x
noncomputable def strings_genSplit.K0 (_ : Nat) : Kont (List ByteArray) := finK strings_genSplit.C (Func.results Tryd.f93).toList strings_genSplit.ps strings_genSplit.res
noncomputable def strings_genSplit.K1 (n : Nat) : Kont (List ByteArray) := seqK (fun s' k => joinE strings_genSplit.A.joins (codeAt Tryd.f93 [1, 1, 1, 1, 1, 1, 1, 1, 1]) (fun s'' => evalC strings_genSplit.C strings_genSplit.A n (codeAt Tryd.f93 [1, 1, 1, 1, 1, 1, 1, 1, 1]) s'' k) s') (strings_genSplit.K0 n)
noncomputable def strings_genSplit.K2 (n : Nat) : Kont (List ByteArray) := blockK 0 (strings_genSplit.K1 n)
noncomputable def strings_genSplit.l11 (n m11 : Nat) (x0 x1 : ByteArray) (x2 x3 x10 : Int) (r66 : List ByteArray) : Option (List ByteArray) := loopE (cutAt strings_genSplit.A.loops (codeAt Tryd.f93 [1, 1, 1, 1, 1, 1, 1, 1, 0, 0, 0])) (fun s k => evalC strings_genSplit.C strings_genSplit.A n (codeAt Tryd.f93 [1, 1, 1, 1, 1, 1, 1, 1, 0, 0, 0]) s k) m11 (St.of 66 130 [(0, .val .str x0), (1, .val .str x1), (2, .val (.int .i64) x2), (3, .val (.int .i64) x3), (9, .own 66), (10, .val (.int .i64) x10)] [(66, .row .str 9 r66)] []) (strings_genSplit.K2 n)
theorem strings_genSplit.eq (n : Nat) (x0 x1 : ByteArray) (x2 x3 : Int) : strings_genSplit n (x0, x1, x2, x3) = (if x3 = 0 then some ([]) else (if x1 = { data := #[] } then ((strings_explode n (x0, x3)).bind fun y0 => some (y0)) else (if x3 < 0 then ((strings_Count n (x0, x1)).bind fun y1 => (if 0 ≤ Go.Refl.mn (Go.RowKit.wrap64 (y1 + 1)) (Go.RowKit.wrap64 ((↑(ByteArray.size x0) : Int) + 1)) then (if Go.Refl.mn (Go.RowKit.wrap64 (y1 + 1)) (Go.RowKit.wrap64 ((↑(ByteArray.size x0) : Int) + 1)) ≤ Go.Refl.mn (Go.RowKit.wrap64 (y1 + 1)) (Go.RowKit.wrap64 ((↑(ByteArray.size x0) : Int) + 1)) then (if Go.Refl.mn (Go.RowKit.wrap64 (y1 + 1)) (Go.RowKit.wrap64 ((↑(ByteArray.size x0) : Int) + 1)) ≤ (↑Go.Refl.maxN : Int) then strings_genSplit.l11 n n (x0) (x1) (x2) (Go.RowKit.wrap64 (Go.Refl.mn (Go.RowKit.wrap64 (y1 + 1)) (Go.RowKit.wrap64 ((↑(ByteArray.size x0) : Int) + 1)) - 1)) (0) (List.replicate (Int.toNat (Go.Refl.mn (Go.RowKit.wrap64 (y1 + 1)) (Go.RowKit.wrap64 ((↑(ByteArray.size x0) : Int) + 1)))) ByteArray.empty) else none) else none) else none)) else (if 0 ≤ Go.Refl.mn x3 (Go.RowKit.wrap64 ((↑(ByteArray.size x0) : Int) + 1)) then (if Go.Refl.mn x3 (Go.RowKit.wrap64 ((↑(ByteArray.size x0) : Int) + 1)) ≤ Go.Refl.mn x3 (Go.RowKit.wrap64 ((↑(ByteArray.size x0) : Int) + 1)) then (if Go.Refl.mn x3 (Go.RowKit.wrap64 ((↑(ByteArray.size x0) : Int) + 1)) ≤ (↑Go.Refl.maxN : Int) then strings_genSplit.l11 n n (x0) (x1) (x2) (Go.RowKit.wrap64 (Go.Refl.mn x3 (Go.RowKit.wrap64 ((↑(ByteArray.size x0) : Int) + 1)) - 1)) (0) (List.replicate (Int.toNat (Go.Refl.mn x3 (Go.RowKit.wrap64 ((↑(ByteArray.size x0) : Int) + 1)))) ByteArray.empty) else none) else none) else none)))) := by kernel_rfl
theorem strings_genSplit.l11_zero (n : Nat) (x0 x1 : ByteArray) (x2 x3 x10 : Int) (r66 : List ByteArray) : strings_genSplit.l11 n 0 x0 x1 x2 x3 x10 r66 = none := by kernel_rfl
theorem strings_genSplit.l11_succ (n m11 : Nat) (x0 x1 : ByteArray) (x2 x3 x10 : Int) (r66 : List ByteArray) : strings_genSplit.l11 n (m11 + 1) x0 x1 x2 x3 x10 r66 = (if x10 < x3 then ((strings_Index n (x0, x1)).bind fun y2 => (if y2 < 0 then (if 0 ≤ x10 then (if x10 < (↑(List.length r66) : Int) then (if 0 ≤ Go.RowKit.wrap64 (x10 + 1) then (if Go.RowKit.wrap64 (x10 + 1) ≤ (↑(List.length (List.set r66 (Int.toNat x10) x0)) : Int) then some (List.take (Int.toNat (Go.RowKit.wrap64 (x10 + 1)) - 0) (List.set r66 (Int.toNat x10) x0)) else none) else none) else none) else none) else (if 0 ≤ Go.RowKit.wrap64 (y2 + x2) then (if Go.RowKit.wrap64 (y2 + x2) ≤ (↑(ByteArray.size x0) : Int) then (if 0 ≤ x10 then (if x10 < (↑(List.length r66) : Int) then (if 0 ≤ Go.RowKit.wrap64 (y2 + (↑(ByteArray.size x1) : Int)) then (if Go.RowKit.wrap64 (y2 + (↑(ByteArray.size x1) : Int)) ≤ (↑(ByteArray.size x0) : Int) then strings_genSplit.l11 n m11 (ByteArray.extract x0 (Int.toNat (Go.RowKit.wrap64 (y2 + (↑(ByteArray.size x1) : Int)))) (ByteArray.size x0)) (x1) (x2) (x3) (Go.RowKit.wrap64 (x10 + 1)) (List.set r66 (Int.toNat x10) (ByteArray.extract x0 0 (Int.toNat (Go.RowKit.wrap64 (y2 + x2))))) else none) else none) else none) else none) else none) else none))) else (if 0 ≤ x10 then (if x10 < (↑(List.length r66) : Int) then (if 0 ≤ Go.RowKit.wrap64 (x10 + 1) then (if Go.RowKit.wrap64 (x10 + 1) ≤ (↑(List.length (List.set r66 (Int.toNat x10) x0)) : Int) then some (List.take (Int.toNat (Go.RowKit.wrap64 (x10 + 1)) - 0) (List.set r66 (Int.toNat x10) x0)) else none) else none) else none) else none)) := by kernel_rfl
noncomputable abbrev strings_genSplit.sg (n : Nat) : Sig := { params := strings_genSplit.ps, res := strings_genSplit.res, run := strings_genSplit n }
theorem strings_genSplit.call : Callable Tryd.prog 93 := ⟨Tryd.f93, Tryd.func93, by kernel_rfl, by kernel_rfl⟩
theorem strings_genSplit.ok (n : Nat) : FC Tryd.prog [] 93 (strings_genSplit.sg n) :=
  evalF_ok (C := strings_genSplit.C) ⟨tb_ok, fun n _ _ h => tabOk (l := [(103, (strings_explode.sg n)), (104, (strings_Count.sg n)), (105, (strings_Index.sg n))]) (all_cons ⟨strings_explode.ok n, strings_explode.call⟩ (all_cons ⟨strings_Count.ok n, strings_Count.call⟩ (all_cons ⟨strings_Index.ok n, strings_Index.call⟩ (all_nil)))) h, mixed, ar_ok, bld_ok, pts_ok⟩ strings_genSplit.A Tryd.func93 strings_genSplit.ps strings_genSplit.res n
abbrev strings_Split.ps : List Pm := [.arg (.v .str), .arg (.v .str)]
abbrev strings_Split.res : List M := [(.own .str 9)]
noncomputable def strings_Split.C : Cfg := { tb := tb, tab := fun n f => Refl.look [(93, (strings_genSplit.sg n))] f, gl := [], ar := ar, bld := bld, pts := pts }
noncomputable def strings_Split.A : Ann := { joins := [], loops := [], ids := [], pids := [], nroots := 72 }
noncomputable def strings_Split (n : Nat) (x : ByteArray × ByteArray) : Option (List ByteArray) := evalF strings_Split.C strings_Split.A Tryd.f62 strings_Split.ps strings_Split.res n x
noncomputable def strings_Split.K0 (_ : Nat) : Kont (List ByteArray) := finK strings_Split.C (Func.results Tryd.f62).toList strings_Split.ps strings_Split.res
theorem strings_Split.eq (n : Nat) (x0 x1 : ByteArray) : strings_Split n (x0, x1) = ((strings_genSplit n (x0, x1, 0, (-1))).bind fun y0 => some (y0)) := by kernel_rfl
noncomputable abbrev strings_Split.sg (n : Nat) : Sig := { params := strings_Split.ps, res := strings_Split.res, run := strings_Split n }
theorem strings_Split.call : Callable Tryd.prog 62 := ⟨Tryd.f62, Tryd.func62, by kernel_rfl, by kernel_rfl⟩
theorem strings_Split.ok (n : Nat) : FC Tryd.prog [] 62 (strings_Split.sg n) :=
  evalF_ok (C := strings_Split.C) ⟨tb_ok, fun n _ _ h => tabOk (l := [(93, (strings_genSplit.sg n))]) (all_cons ⟨strings_genSplit.ok n, strings_genSplit.call⟩ (all_nil)) h, mixed, ar_ok, bld_ok, pts_ok⟩ strings_Split.A Tryd.func62 strings_Split.ps strings_Split.res n
abbrev impl_wordAt.ps : List Pm := [.arg (.v (.slice .str)), .arg (.v (.int .i64))]
abbrev impl_wordAt.res : List M := [.v .str]
noncomputable def impl_wordAt.C : Cfg := { tb := tb, tab := fun n f => Refl.look [] f, gl := [], ar := ar, bld := bld, pts := pts }
noncomputable def impl_wordAt.A : Ann := { joins := [], loops := [], ids := [], pids := [], nroots := 77 }
noncomputable def impl_wordAt (n : Nat) (x : List ByteArray × Int) : Option (ByteArray) := evalF impl_wordAt.C impl_wordAt.A Tryd.f98 impl_wordAt.ps impl_wordAt.res n x
noncomputable def impl_wordAt.K0 (_ : Nat) : Kont (ByteArray) := finK impl_wordAt.C (Func.results Tryd.f98).toList impl_wordAt.ps impl_wordAt.res
theorem impl_wordAt.eq (n : Nat) (x0 : List ByteArray) (x1 : Int) : impl_wordAt n (x0, x1) = (if x1 ≥ (↑(List.length x0) : Int) then some ({ data := #[] }) else (if 0 ≤ x1 then (if x1 < (↑(List.length x0) : Int) then some (List.getD x0 (Int.toNat x1) ByteArray.empty) else none) else none)) := by kernel_rfl
noncomputable abbrev impl_wordAt.sg (n : Nat) : Sig := { params := impl_wordAt.ps, res := impl_wordAt.res, run := impl_wordAt n }
theorem impl_wordAt.call : Callable Tryd.prog 98 := ⟨Tryd.f98, Tryd.func98, by kernel_rfl, by kernel_rfl⟩
theorem impl_wordAt.ok (n : Nat) : FC Tryd.prog [] 98 (impl_wordAt.sg n) :=
  evalF_ok (C := impl_wordAt.C) ⟨tb_ok, fun n _ _ h => tabOk (l := []) (all_nil) h, mixed, ar_ok, bld_ok, pts_ok⟩ impl_wordAt.A Tryd.func98 impl_wordAt.ps impl_wordAt.res n
abbrev strconv_Atoi.ps : List Pm := atPs
abbrev strconv_Atoi.res : List M := atRes
noncomputable def strconv_Atoi (n : Nat) : ByteArray → Option (Int × List Int) := fun x => atRun x
noncomputable abbrev strconv_Atoi.sg (n : Nat) : Sig := { params := strconv_Atoi.ps, res := strconv_Atoi.res, run := strconv_Atoi n }
theorem strconv_Atoi.call : Callable Tryd.prog 95 := ⟨Tryd.f95, Tryd.func95, by kernel_rfl, by kernel_rfl⟩
theorem strconv_Atoi.ok (n : Nat) : FC Tryd.prog [g3, g4] 95 (strconv_Atoi.sg n) := at_FC Tryd.laysC172 (.head _) (.tail _ (.head _))
abbrev strconv_Itoa.ps : List Pm := itPs
abbrev strconv_Itoa.res : List M := itRes
noncomputable def strconv_Itoa (n : Nat) : Int → Option ByteArray := itRun
noncomputable abbrev strconv_Itoa.sg (n : Nat) : Sig := { params := strconv_Itoa.ps, res := strconv_Itoa.res, run := strconv_Itoa n }
theorem strconv_Itoa.call : Callable Tryd.prog 47 := ⟨Tryd.f47, Tryd.func47, by kernel_rfl, by kernel_rfl⟩
theorem strconv_Itoa.ok (n : Nat) : FC Tryd.prog [g2] 47 (strconv_Itoa.sg n) := it_FC Tryd.laysM171 (.head _) (by kernel_rfl)
abbrev impl_readNumber.ps : List Pm := [.arg (.v .str), .arg (.v (.int .i64))]
abbrev impl_readNumber.res : List M := [.v (.int .i64)]
noncomputable def impl_readNumber.C : Cfg := { tb := tb, tab := fun n f => Refl.look [(95, (strconv_Atoi.sg n)), (47, (strconv_Itoa.sg n))] f, gl := [g2, g3, g4], ar := ar, bld := bld, pts := pts }
noncomputable def impl_readNumber.A : Ann := { joins := [], loops := [], ids := [(1, [(9, [])]), (2, [(25, [])])], pids := [], nroots := 94 }
noncomputable def impl_readNumber (n : Nat) (x : ByteArray × Int) : Option (Int) := evalF impl_readNumber.C impl_readNumber.A Tryd.f64 impl_readNumber.ps impl_readNumber.res n x
noncomputable def impl_readNumber.K0 (_ : Nat) : Kont (Int) := finK impl_readNumber.C (Func.results Tryd.f64).toList impl_readNumber.ps impl_readNumber.res
theorem impl_readNumber.eq (n : Nat) (x0 : ByteArray) (x1 : Int) : impl_readNumber n (x0, x1) = ((strconv_Atoi n x0).bind fun y0 => (if (!List.isEmpty y0.2) = Bool.true then some ((-1)) else (if y0.1 < 0 then some ((-1)) else (if y0.1 > x1 then some ((-1)) else ((strconv_Itoa n y0.1).bind fun y1 => (if y1 = x0 then some y0.1 else some ((-1)))))))) := by kernel_rfl
noncomputable abbrev impl_readNumber.sg (n : Nat) : Sig := { params := impl_readNumber.ps, res := impl_readNumber.res, run := impl_readNumber n }
theorem impl_readNumber.call : Callable Tryd.prog 64 := ⟨Tryd.f64, Tryd.func64, by kernel_rfl, by kernel_rfl⟩
theorem impl_readNumber.ok (n : Nat) : FC Tryd.prog [g2, g3, g4] 64 (impl_readNumber.sg n) :=
  evalF_ok (C := impl_readNumber.C) ⟨tb_ok, fun n _ _ h => tabOk (l := [(95, (strconv_Atoi.sg n)), (47, (strconv_Itoa.sg n))]) (all_cons ⟨(.mono (gl := [g3, g4]) (gl' := [g2, g3, g4]) (all_cons (.tail _ (.head _)) (all_cons (.tail _ (.tail _ (.head _))) (all_nil))) (strconv_Atoi.ok n)), strconv_Atoi.call⟩ (all_cons ⟨(.mono (gl := [g2]) (gl' := [g2, g3, g4]) (all_cons (.head _) (all_nil)) (strconv_Itoa.ok n)), strconv_Itoa.call⟩ (all_nil))) h, mixed, ar_ok, bld_ok, pts_ok⟩ impl_readNumber.A Tryd.func64 impl_readNumber.ps impl_readNumber.res n
abbrev impl_ShowMoney.ps : List Pm := [.arg (.v (.int .i64))]
abbrev impl_ShowMoney.res : List M := [.v .str]
noncomputable def impl_ShowMoney.C : Cfg := { tb := tb, tab := fun n f => Refl.look [(47, (strconv_Itoa.sg n))] f, gl := [g2], ar := ar, bld := bld, pts := pts }
noncomputable def impl_ShowMoney.A : Ann := { joins := [], loops := [], ids := [(3, [(12, [])]), (6, [(20, [])])], pids := [], nroots := 88 }
noncomputable def impl_ShowMoney (n : Nat) (x : Int) : Option (ByteArray) := evalF impl_ShowMoney.C impl_ShowMoney.A Tryd.f48 impl_ShowMoney.ps impl_ShowMoney.res n x
noncomputable def impl_ShowMoney.K0 (_ : Nat) : Kont (ByteArray) := finK impl_ShowMoney.C (Func.results Tryd.f48).toList impl_ShowMoney.ps impl_ShowMoney.res
theorem impl_ShowMoney.eq (n : Nat) (x0 : Int) : impl_ShowMoney n x0 = (if x0 < 0 then some ({ data := #[] }) else (if x0 > 1000000 then some ({ data := #[] }) else ((strconv_Itoa n (Int.tmod x0 100)).bind fun y0 => (if (↑(ByteArray.size y0) : Int) < 2 then (if ByteArray.size { data := #[(48 : UInt8)] } + ByteArray.size y0 ≤ Go.Refl.maxN then ((strconv_Itoa n (Go.RowKit.wrap64 (Int.tdiv x0 100))).bind fun y1 => (if ByteArray.size y1 + ByteArray.size { data := #[(46 : UInt8)] } ≤ Go.Refl.maxN then (if ByteArray.size (y1 ++ { data := #[(46 : UInt8)] }) + ByteArray.size ({ data := #[(48 : UInt8)] } ++ y0) ≤ Go.Refl.maxN then some (y1 ++ { data := #[(46 : UInt8)] } ++ ({ data := #[(48 : UInt8)] } ++ y0)) else none) else none)) else none) else ((strconv_Itoa n (Go.RowKit.wrap64 (Int.tdiv x0 100))).bind fun y2 => (if ByteArray.size y2 + ByteArray.size { data := #[(46 : UInt8)] } ≤ Go.Refl.maxN then (if ByteArray.size (y2 ++ { data := #[(46 : UInt8)] }) + ByteArray.size y0 ≤ Go.Refl.maxN then some (y2 ++ { data := #[(46 : UInt8)] } ++ y0) else none) else none)))))) := by kernel_rfl
noncomputable abbrev impl_ShowMoney.sg (n : Nat) : Sig := { params := impl_ShowMoney.ps, res := impl_ShowMoney.res, run := impl_ShowMoney n }
theorem impl_ShowMoney.call : Callable Tryd.prog 48 := ⟨Tryd.f48, Tryd.func48, by kernel_rfl, by kernel_rfl⟩
theorem impl_ShowMoney.ok (n : Nat) : FC Tryd.prog [g2] 48 (impl_ShowMoney.sg n) :=
  evalF_ok (C := impl_ShowMoney.C) ⟨tb_ok, fun n _ _ h => tabOk (l := [(47, (strconv_Itoa.sg n))]) (all_cons ⟨strconv_Itoa.ok n, strconv_Itoa.call⟩ (all_nil)) h, mixed, ar_ok, bld_ok, pts_ok⟩ impl_ShowMoney.A Tryd.func48 impl_ShowMoney.ps impl_ShowMoney.res n
abbrev impl_ReadMoney.ps : List Pm := [.arg (.v .str)]
abbrev impl_ReadMoney.res : List M := [.v (.int .i64)]
noncomputable def impl_ReadMoney.C : Cfg := { tb := tb, tab := fun n f => Refl.look [(48, (impl_ShowMoney.sg n))] f, gl := [g2], ar := ar, bld := bld, pts := pts }
noncomputable def impl_ReadMoney.A : Ann := { joins := [], loops := [(5, { live := [0, 3, 22, 23], base := 55 })], ids := [(12, [(51, [])])], pids := [], nroots := 119 }
noncomputable def impl_ReadMoney (n : Nat) (x : ByteArray) : Option (Int) := evalF impl_ReadMoney.C impl_ReadMoney.A Tryd.f65 impl_ReadMoney.ps impl_ReadMoney.res n x
noncomputable def impl_ReadMoney.K0 (_ : Nat) : Kont (Int) := finK impl_ReadMoney.C (Func.results Tryd.f65).toList impl_ReadMoney.ps impl_ReadMoney.res
noncomputable def impl_ReadMoney.K1 (n : Nat) : Kont (Int) := seqK (fun s' k => joinE impl_ReadMoney.A.joins (codeAt Tryd.f65 [1, 1, 1, 1]) (fun s'' => evalC impl_ReadMoney.C impl_ReadMoney.A n (codeAt Tryd.f65 [1, 1, 1, 1]) s'' k) s') (impl_ReadMoney.K0 n)
noncomputable def impl_ReadMoney.K2 (n : Nat) : Kont (Int) := blockK 0 (impl_ReadMoney.K1 n)
noncomputable def impl_ReadMoney.l5 (n m5 : Nat) (x0 : ByteArray) (x3 x22 x23 : Int) : Option (Int) := loopE (cutAt impl_ReadMoney.A.loops (codeAt Tryd.f65 [1, 1, 1, 0, 1, 0, 0])) (fun s k => evalC impl_ReadMoney.C impl_ReadMoney.A n (codeAt Tryd.f65 [1, 1, 1, 0, 1, 0, 0]) s k) m5 (St.of 55 119 [(0, .val .str x0), (3, .val (.int .i64) x3), (22, .val (.int .i64) x22), (23, .val (.int .i64) x23)] [] []) (impl_ReadMoney.K2 n)
theorem impl_ReadMoney.eq (n : Nat) (x0 : ByteArray) : impl_ReadMoney n x0 = (if (↑(ByteArray.size x0) : Int) < 4 then some ((-1)) else (if (↑(ByteArray.size x0) : Int) > 8 then some ((-1)) else (if 0 ≤ Go.RowKit.wrap64 ((↑(ByteArray.size x0) : Int) - 3) then (if Go.RowKit.wrap64 ((↑(ByteArray.size x0) : Int) - 3) < (↑(ByteArray.size x0) : Int) then (if (↑(UInt8.toNat (List.getD (Array.toList (ByteArray.data x0)) (Int.toNat (Go.RowKit.wrap64 ((↑(ByteArray.size x0) : Int) - 3))) (0 : UInt8))) : Int) = 46 then impl_ReadMoney.l5 n n (x0) (0) ((↑(ByteArray.size x0) : Int)) (0) else some ((-1))) else none) else none))) := by kernel_rfl
theorem impl_ReadMoney.l5_zero (n : Nat) (x0 : ByteArray) (x3 x22 x23 : Int) : impl_ReadMoney.l5 n 0 x0 x3 x22 x23 = none := by kernel_rfl
theorem impl_ReadMoney.l5_succ (n m5 : Nat) (x0 : ByteArray) (x3 x22 x23 : Int) : impl_ReadMoney.l5 n (m5 + 1) x0 x3 x22 x23 = (if x23 < x22 then (if x23 = Go.RowKit.wrap64 ((↑(ByteArray.size x0) : Int) - 3) then impl_ReadMoney.l5 n m5 (x0) (x3) (x22) (Go.RowKit.wrap64 (x23 + 1)) else (if 0 ≤ x23 then (if x23 < (↑(ByteArray.size x0) : Int) then (if (↑(UInt8.toNat (List.getD (Array.toList (ByteArray.data x0)) (Int.toNat x23) (0 : UInt8))) : Int) < 48 then some ((-1)) else (if 0 ≤ x23 then (if x23 < (↑(ByteArray.size x0) : Int) then (if (↑(UInt8.toNat (List.getD (Array.toList (ByteArray.data x0)) (Int.toNat x23) (0 : UInt8))) : Int) > 57 then some ((-1)) else (if 0 ≤ x23 then (if x23 < (↑(ByteArray.size x0) : Int) then impl_ReadMoney.l5 n m5 (x0) (Go.RowKit.wrap64 (Go.RowKit.wrap64 (x3 * 10) + Go.RowKit.wrap64 (((↑(UInt8.toNat (List.getD (Array.toList (ByteArray.data x0)) (Int.toNat x23) (0 : UInt8))) : Int) - 48) % 256))) (x22) (Go.RowKit.wrap64 (x23 + 1)) else none) else none)) else none) else none)) else none) else none)) else ((impl_ShowMoney n x3).bind fun y0 => (if y0 = x0 then some (x3) else some ((-1))))) := by kernel_rfl
noncomputable abbrev impl_ReadMoney.sg (n : Nat) : Sig := { params := impl_ReadMoney.ps, res := impl_ReadMoney.res, run := impl_ReadMoney n }
theorem impl_ReadMoney.call : Callable Tryd.prog 65 := ⟨Tryd.f65, Tryd.func65, by kernel_rfl, by kernel_rfl⟩
theorem impl_ReadMoney.ok (n : Nat) : FC Tryd.prog [g2] 65 (impl_ReadMoney.sg n) :=
  evalF_ok (C := impl_ReadMoney.C) ⟨tb_ok, fun n _ _ h => tabOk (l := [(48, (impl_ShowMoney.sg n))]) (all_cons ⟨impl_ShowMoney.ok n, impl_ShowMoney.call⟩ (all_nil)) h, mixed, ar_ok, bld_ok, pts_ok⟩ impl_ReadMoney.A Tryd.func65 impl_ReadMoney.ps impl_ReadMoney.res n
abbrev impl_readDetails.ps : List Pm := [.arg (.v (.int .i64)), .arg (.v (.slice .str))]
abbrev impl_readDetails.res : List M := [(.pr (.v (.int .i64)) (.pr (.v (.int .i64)) (.pr (.v (.int .i64)) (.pr (.v (.int .i64)) (.pr (.own (.int .i64) 3) (.v (.pair (.int .i64) (.int .i64))))))))]
noncomputable def impl_readDetails.C : Cfg := { tb := tb, tab := fun n f => Refl.look [(98, (impl_wordAt.sg n)), (64, (impl_readNumber.sg n)), (65, (impl_ReadMoney.sg n))] f, gl := [g2, g3, g4], ar := ar, bld := bld, pts := pts }
noncomputable def impl_readDetails.A : Ann := { joins := [], loops := [(17, { live := [4, 5, 53, 54, 55], base := 68, growB := [(5, 4, 96, (.int .i64), 3)] })], ids := [(7, [(18, []), (19, []), (21, []), (22, [])]), (9, [(27, []), (28, [])]), (12, [(34, []), (35, [])]), (14, [(41, []), (42, [])]), (19, [(62, []), (63, [])])], pids := [], nroots := 132 }
noncomputable def impl_readDetails (n : Nat) (x : Int × List ByteArray) : Option (Int × Int × Int × Int × List Int × Int × Int) := evalF impl_readDetails.C impl_readDetails.A Tryd.f73 impl_readDetails.ps impl_readDetails.res n x
noncomputable def impl_readDetails.K0 (_ : Nat) : Kont (Int × Int × Int × Int × List Int × Int × Int) := finK impl_readDetails.C (Func.results Tryd.f73).toList impl_readDetails.ps impl_readDetails.res
noncomputable def impl_readDetails.K1 (n : Nat) : Kont (Int × Int × Int × Int × List Int × Int × Int) := seqK (fun s' k => joinE impl_readDetails.A.joins (codeAt Tryd.f73 [1, 1, 1, 1, 1, 1, 1]) (fun s'' => evalC impl_readDetails.C impl_readDetails.A n (codeAt Tryd.f73 [1, 1, 1, 1, 1, 1, 1]) s'' k) s') (impl_readDetails.K0 n)
noncomputable def impl_readDetails.K2 (n : Nat) : Kont (Int × Int × Int × Int × List Int × Int × Int) := blockK 1 (impl_readDetails.K1 n)
noncomputable def impl_readDetails.K3 (n : Nat) : Kont (Int × Int × Int × Int × List Int × Int × Int) := blockK 2 (impl_readDetails.K2 n)
noncomputable def impl_readDetails.l17 (n m17 : Nat) (x53 : List ByteArray) (x54 x55 : Int) (r68_0 r68_1 : Int) (r68_2 r68_3 : Int) (r68_5 r68_6 : Int) (r69_0 r69_1 : Int) (r69_2 r69_3 : Int) (r69_5 r69_6 : Int) (r70 : List Int) : Option (Int × Int × Int × Int × List Int × Int × Int) := loopE (cutAt impl_readDetails.A.loops (codeAt Tryd.f73 [1, 1, 1, 1, 1, 1, 0, 0, 1, 1, 1, 0, 1, 0, 0])) (fun s k => evalC impl_readDetails.C impl_readDetails.A n (codeAt Tryd.f73 [1, 1, 1, 1, 1, 1, 0, 0, 1, 1, 1, 0, 1, 0, 0]) s k) m17 (St.of 68 132 [(4, .ptr 68 0 0), (5, .ptr 69 0 0), (53, .val (.slice .str) x53), (54, .val (.int .i64) x54), (55, .val (.int .i64) x55)] [(68, .box 38 [.val (.int .i64) r68_0, .val (.int .i64) r68_1, .val (.int .i64) r68_2, .val (.int .i64) r68_3, .nils, .val (.int .i64) r68_5, .val (.int .i64) r68_6]), (69, .box 38 [.val (.int .i64) r69_0, .val (.int .i64) r69_1, .val (.int .i64) r69_2, .val (.int .i64) r69_3, .own 70, .val (.int .i64) r69_5, .val (.int .i64) r69_6]), (70, .row (.int .i64) 3 r70)] []) (impl_readDetails.K3 n)
theorem impl_readDetails.eq (n : Nat) (x0 : Int) (x1 : List ByteArray) : impl_readDetails n (x0, x1) = (if x0 = 0 then (if x0 = 0 then some ((x0, 0, 0, 0, [], 0, 0)) else (if x0 = 6 then ((impl_wordAt n (x1, 1)).bind fun y0 => ((impl_readNumber n (y0, 1000)).bind fun y1 => ((impl_wordAt n (x1, 2)).bind fun y2 => ((impl_readNumber n (y2, 1000)).bind fun y3 => some ((x0, 0, 0, 0, [], y1, y3)))))) else ((impl_wordAt n (x1, 1)).bind fun y4 => ((impl_readNumber n (y4, 99)).bind fun y5 => (if x0 = 5 then some ((x0, y5, 0, 0, [], 0, 0)) else ((impl_wordAt n (x1, 2)).bind fun y6 => ((impl_ReadMoney n y6).bind fun y7 => (if x0 = 4 then ((impl_wordAt n (x1, 3)).bind fun y8 => ((impl_ReadMoney n y8).bind fun y9 => some ((x0, y5, y7, y9, [], 0, 0)))) else (if x0 = 3 then (if (↑(List.length x1) : Int) > 3 then (if 3 ≤ (↑(List.length x1) : Int) then impl_readDetails.l17 n n (List.drop (Int.toNat 3) x1) ((↑(List.length (List.drop (Int.toNat (3 : Int)) x1)) : Int)) (0) (0) (0) (0) (0) (0) (0) (x0) (y5) (y7) (0) (0) (0) ([]) else none) else some ((x0, y5, y7, 0, [], 0, 0))) else some ((x0, y5, y7, 0, [], 0, 0))))))))))) else (if x0 = 7 then some ((x0, 0, 0, 0, [], 0, 0)) else (if x0 = 6 then ((impl_wordAt n (x1, 1)).bind fun y10 => ((impl_readNumber n (y10, 1000)).bind fun y11 => ((impl_wordAt n (x1, 2)).bind fun y12 => ((impl_readNumber n (y12, 1000)).bind fun y13 => some ((x0, 0, 0, 0, [], y11, y13)))))) else ((impl_wordAt n (x1, 1)).bind fun y14 => ((impl_readNumber n (y14, 99)).bind fun y15 => (if x0 = 5 then some ((x0, y15, 0, 0, [], 0, 0)) else ((impl_wordAt n (x1, 2)).bind fun y16 => ((impl_ReadMoney n y16).bind fun y17 => (if x0 = 4 then ((impl_wordAt n (x1, 3)).bind fun y18 => ((impl_ReadMoney n y18).bind fun y19 => some ((x0, y15, y17, y19, [], 0, 0)))) else (if x0 = 3 then (if (↑(List.length x1) : Int) > 3 then (if 3 ≤ (↑(List.length x1) : Int) then impl_readDetails.l17 n n (List.drop (Int.toNat 3) x1) ((↑(List.length (List.drop (Int.toNat (3 : Int)) x1)) : Int)) (0) (0) (0) (0) (0) (0) (0) (x0) (y15) (y17) (0) (0) (0) ([]) else none) else some ((x0, y15, y17, 0, [], 0, 0))) else some ((x0, y15, y17, 0, [], 0, 0)))))))))))) := by kernel_rfl
theorem impl_readDetails.l17_zero (n : Nat) (x53 : List ByteArray) (x54 x55 : Int) (r68_0 r68_1 : Int) (r68_2 r68_3 : Int) (r68_5 r68_6 : Int) (r69_0 r69_1 : Int) (r69_2 r69_3 : Int) (r69_5 r69_6 : Int) (r70 : List Int) : impl_readDetails.l17 n 0 x53 x54 x55 r68_0 r68_1 r68_2 r68_3 r68_5 r68_6 r69_0 r69_1 r69_2 r69_3 r69_5 r69_6 r70 = none := by kernel_rfl
theorem impl_readDetails.l17_succ (n m17 : Nat) (x53 : List ByteArray) (x54 x55 : Int) (r68_0 r68_1 : Int) (r68_2 r68_3 : Int) (r68_5 r68_6 : Int) (r69_0 r69_1 : Int) (r69_2 r69_3 : Int) (r69_5 r69_6 : Int) (r70 : List Int) : impl_readDetails.l17 n (m17 + 1) x53 x54 x55 r68_0 r68_1 r68_2 r68_3 r68_5 r68_6 r69_0 r69_1 r69_2 r69_3 r69_5 r69_6 r70 = (if x55 < x54 then (if 0 ≤ x55 then (if x55 < (↑(List.length x53) : Int) then ((impl_readNumber n (List.getD x53 (Int.toNat x55) ByteArray.empty, 99)).bind fun y20 => (if List.length r70 + List.length (List.set (List.replicate (1 : Nat) (0 : Int)) (0 : Nat) y20) ≤ Go.Refl.maxN then impl_readDetails.l17 n m17 (x53) (x54) (Go.RowKit.wrap64 (x55 + 1)) (r68_0) (r68_1) (r68_2) (r68_3) (r68_5) (r68_6) (r69_0) (r69_1) (r69_2) (r69_3) (r69_5) (r69_6) (r70 ++ List.set (List.replicate 1 0) 0 y20) else none)) else none) else none) else some ((r69_0, r69_1, r69_2, r69_3, r70, r69_5, r69_6))) := by kernel_rfl
noncomputable abbrev impl_readDetails.sg (n : Nat) : Sig := { params := impl_readDetails.ps, res := impl_readDetails.res, run := impl_readDetails n }
theorem impl_readDetails.call : Callable Tryd.prog 73 := ⟨Tryd.f73, Tryd.func73, by kernel_rfl, by kernel_rfl⟩
theorem impl_readDetails.ok (n : Nat) : FC Tryd.prog [g2, g3, g4] 73 (impl_readDetails.sg n) :=
  evalF_ok (C := impl_readDetails.C) ⟨tb_ok, fun n _ _ h => tabOk (l := [(98, (impl_wordAt.sg n)), (64, (impl_readNumber.sg n)), (65, (impl_ReadMoney.sg n))]) (all_cons ⟨(.mono (gl := []) (gl' := [g2, g3, g4]) (all_nil) (impl_wordAt.ok n)), impl_wordAt.call⟩ (all_cons ⟨impl_readNumber.ok n, impl_readNumber.call⟩ (all_cons ⟨(.mono (gl := [g2]) (gl' := [g2, g3, g4]) (all_cons (.head _) (all_nil)) (impl_ReadMoney.ok n)), impl_ReadMoney.call⟩ (all_nil)))) h, mixed, ar_ok, bld_ok, pts_ok⟩ impl_readDetails.A Tryd.func73 impl_readDetails.ps impl_readDetails.res n
abbrev impl_ValidRate.ps : List Pm := [.arg (.v (.pair (.int .i64) (.int .i64)))]
abbrev impl_ValidRate.res : List M := [.v .bool]
noncomputable def impl_ValidRate.C : Cfg := { tb := tb, tab := fun n f => Refl.look [] f, gl := [], ar := ar, bld := bld, pts := pts }
noncomputable def impl_ValidRate.A : Ann := { joins := [], loops := [], ids := [], pids := [], nroots := 87 }
noncomputable def impl_ValidRate (n : Nat) (x : Int × Int) : Option (Bool) := evalF impl_ValidRate.C impl_ValidRate.A Tryd.f86 impl_ValidRate.ps impl_ValidRate.res n x
noncomputable def impl_ValidRate.K0 (_ : Nat) : Kont (Bool) := finK impl_ValidRate.C (Func.results Tryd.f86).toList impl_ValidRate.ps impl_ValidRate.res
theorem impl_ValidRate.eq (n : Nat) (x0 : Int × Int) : impl_ValidRate n x0 = (if x0.2 ≥ 1 then (if x0.2 ≤ 1000 then (if x0.1 ≥ 0 then some (Decidable.decide (x0.1 ≤ x0.2)) else some (Bool.false)) else some (Bool.false)) else some (Bool.false)) := by kernel_rfl
noncomputable abbrev impl_ValidRate.sg (n : Nat) : Sig := { params := impl_ValidRate.ps, res := impl_ValidRate.res, run := impl_ValidRate n }
theorem impl_ValidRate.call : Callable Tryd.prog 86 := ⟨Tryd.f86, Tryd.func86, by kernel_rfl, by kernel_rfl⟩
theorem impl_ValidRate.ok (n : Nat) : FC Tryd.prog [] 86 (impl_ValidRate.sg n) :=
  evalF_ok (C := impl_ValidRate.C) ⟨tb_ok, fun n _ _ h => tabOk (l := []) (all_nil) h, mixed, ar_ok, bld_ok, pts_ok⟩ impl_ValidRate.A Tryd.func86 impl_ValidRate.ps impl_ValidRate.res n
abbrev strings_Builder_WriteString.ps : List Pm := wsPs 71 5
abbrev strings_Builder_WriteString.res : List M := wsRes
noncomputable def strings_Builder_WriteString (n : Nat) : List Int × ByteArray → Option (Int × List Int × List Int) := wsRun
noncomputable abbrev strings_Builder_WriteString.sg (n : Nat) : Sig := { params := strings_Builder_WriteString.ps, res := strings_Builder_WriteString.res, run := strings_Builder_WriteString n }
theorem strings_Builder_WriteString.call : Callable Tryd.prog 46 := ⟨Tryd.f46, Tryd.func46, by kernel_rfl, by kernel_rfl⟩
theorem strings_Builder_WriteString.ok (n : Nat) : FC Tryd.prog [] 46 (strings_Builder_WriteString.sg n) := ws_FC Tryd.wsL Tryd.wsX
abbrev strings_Builder_String.ps : List Pm := stPs 71 5
abbrev strings_Builder_String.res : List M := stRes
noncomputable def strings_Builder_String (n : Nat) : List Int → Option ByteArray := stRun
noncomputable abbrev strings_Builder_String.sg (n : Nat) : Sig := { params := strings_Builder_String.ps, res := strings_Builder_String.res, run := strings_Builder_String n }
theorem strings_Builder_String.call : Callable Tryd.prog 49 := ⟨Tryd.f49, Tryd.func49, by kernel_rfl, by kernel_rfl⟩
theorem strings_Builder_String.ok (n : Nat) : FC Tryd.prog [] 49 (strings_Builder_String.sg n) := st_FC Tryd.lays169 Tryd.Builder_Extra_169
abbrev impl_showMembers.ps : List Pm := [.arg (.v (.slice (.int .i64)))]
abbrev impl_showMembers.res : List M := [.v .str, .v .bool]
noncomputable def impl_showMembers.C : Cfg := { tb := tb, tab := fun n f => Refl.look [(47, (strconv_Itoa.sg n)), (46, (strings_Builder_WriteString.sg n)), (49, (strings_Builder_String.sg n))] f, gl := [g2], ar := ar, bld := bld, pts := pts }
noncomputable def impl_showMembers.A : Ann := { joins := [], loops := [(3, { live := [4, 7, 8, 9], base := 25 })], ids := [(1, [(4, [4, 40])]), (7, [(20, []), (22, [22])]), (9, [(24, [])])], pids := [], nroots := 89 }
noncomputable def impl_showMembers (n : Nat) (x : List Int) : Option (ByteArray × Bool) := evalF impl_showMembers.C impl_showMembers.A Tryd.f87 impl_showMembers.ps impl_showMembers.res n x
noncomputable def impl_showMembers.K0 (_ : Nat) : Kont (ByteArray × Bool) := finK impl_showMembers.C (Func.results Tryd.f87).toList impl_showMembers.ps impl_showMembers.res
noncomputable def impl_showMembers.K1 (n : Nat) : Kont (ByteArray × Bool) := seqK (fun s' k => joinE impl_showMembers.A.joins (codeAt Tryd.f87 [1, 1, 1]) (fun s'' => evalC impl_showMembers.C impl_showMembers.A n (codeAt Tryd.f87 [1, 1, 1]) s'' k) s') (impl_showMembers.K0 n)
noncomputable def impl_showMembers.K2 (n : Nat) : Kont (ByteArray × Bool) := blockK 0 (impl_showMembers.K1 n)
noncomputable def impl_showMembers.l3 (n m3 : Nat) (x7 : List Int) (x8 x9 : Int) (r26 : List Int) : Option (ByteArray × Bool) := loopE (cutAt impl_showMembers.A.loops (codeAt Tryd.f87 [1, 1, 0, 1, 0, 0])) (fun s k => evalC impl_showMembers.C impl_showMembers.A n (codeAt Tryd.f87 [1, 1, 0, 1, 0, 0]) s k) m3 (St.of 25 89 [(4, .ptr 25 0 0), (7, .val (.slice (.int .i64)) x7), (8, .val (.int .i64) x8), (9, .val (.int .i64) x9)] [(25, .box 71 [.optr 25, .own 26]), (26, .row (.int .u8) 5 r26)] []) (impl_showMembers.K2 n)
theorem impl_showMembers.eq (n : Nat) (x0 : List Int) : impl_showMembers n x0 = impl_showMembers.l3 n n (x0) ((↑(List.length x0) : Int)) (0) ([]) := by kernel_rfl
theorem impl_showMembers.l3_zero (n : Nat) (x7 : List Int) (x8 x9 : Int) (r26 : List Int) : impl_showMembers.l3 n 0 x7 x8 x9 r26 = none := by kernel_rfl
theorem impl_showMembers.l3_succ (n m3 : Nat) (x7 : List Int) (x8 x9 : Int) (r26 : List Int) : impl_showMembers.l3 n (m3 + 1) x7 x8 x9 r26 = (if x9 < x8 then (if 0 ≤ x9 then (if x9 < (↑(List.length x7) : Int) then (if List.getD x7 (Int.toNat x9) 0 < 0 then some (({ data := #[] }, Bool.false)) else (if List.getD x7 (Int.toNat x9) 0 > 99 then some (({ data := #[] }, Bool.false)) else ((strconv_Itoa n (List.getD x7 (Int.toNat x9) 0)).bind fun y0 => (if ByteArray.size { data := #[(32 : UInt8)] } + ByteArray.size y0 ≤ Go.Refl.maxN then ((strings_Builder_WriteString n (r26, { data := #[(32 : UInt8)] } ++ y0)).bind fun y1 => impl_showMembers.l3 n m3 (x7) (x8) (Go.RowKit.wrap64 (x9 + 1)) y1.2.2) else none)))) else none) else none) else ((strings_Builder_String n r26).bind fun y2 => some ((y2, Bool.true)))) := by kernel_rfl
noncomputable abbrev impl_showMembers.sg (n : Nat) : Sig := { params := impl_showMembers.ps, res := impl_showMembers.res, run := impl_showMembers n }
theorem impl_showMembers.call : Callable Tryd.prog 87 := ⟨Tryd.f87, Tryd.func87, by kernel_rfl, by kernel_rfl⟩
theorem impl_showMembers.ok (n : Nat) : FC Tryd.prog [g2] 87 (impl_showMembers.sg n) :=
  evalF_ok (C := impl_showMembers.C) ⟨tb_ok, fun n _ _ h => tabOk (l := [(47, (strconv_Itoa.sg n)), (46, (strings_Builder_WriteString.sg n)), (49, (strings_Builder_String.sg n))]) (all_cons ⟨strconv_Itoa.ok n, strconv_Itoa.call⟩ (all_cons ⟨(.mono (gl := []) (gl' := [g2]) (all_nil) (strings_Builder_WriteString.ok n)), strings_Builder_WriteString.call⟩ (all_cons ⟨(.mono (gl := []) (gl' := [g2]) (all_nil) (strings_Builder_String.ok n)), strings_Builder_String.call⟩ (all_nil)))) h, mixed, ar_ok, bld_ok, pts_ok⟩ impl_showMembers.A Tryd.func87 impl_showMembers.ps impl_showMembers.res n
abbrev impl_showAmounts.ps : List Pm := [.arg (.v (.slice (.int .i64)))]
abbrev impl_showAmounts.res : List M := [.v .str, .v .bool]
noncomputable def impl_showAmounts.C : Cfg := { tb := tb, tab := fun n f => Refl.look [(48, (impl_ShowMoney.sg n))] f, gl := [g2], ar := ar, bld := bld, pts := pts }
noncomputable def impl_showAmounts.A : Ann := { joins := [], loops := [(3, { live := [4, 8, 9, 10], base := 24 })], ids := [(5, [(15, [])])], pids := [], nroots := 88 }
noncomputable def impl_showAmounts (n : Nat) (x : List Int) : Option (ByteArray × Bool) := evalF impl_showAmounts.C impl_showAmounts.A Tryd.f88 impl_showAmounts.ps impl_showAmounts.res n x
noncomputable def impl_showAmounts.K0 (_ : Nat) : Kont (ByteArray × Bool) := finK impl_showAmounts.C (Func.results Tryd.f88).toList impl_showAmounts.ps impl_showAmounts.res
noncomputable def impl_showAmounts.K1 (n : Nat) : Kont (ByteArray × Bool) := seqK (fun s' k => joinE impl_showAmounts.A.joins (codeAt Tryd.f88 [1, 1, 1]) (fun s'' => evalC impl_showAmounts.C impl_showAmounts.A n (codeAt Tryd.f88 [1, 1, 1]) s'' k) s') (impl_showAmounts.K0 n)
noncomputable def impl_showAmounts.K2 (n : Nat) : Kont (ByteArray × Bool) := blockK 0 (impl_showAmounts.K1 n)
noncomputable def impl_showAmounts.l3 (n m3 : Nat) (x4 : ByteArray) (x8 : List Int) (x9 x10 : Int) : Option (ByteArray × Bool) := loopE (cutAt impl_showAmounts.A.loops (codeAt Tryd.f88 [1, 1, 0, 1, 0, 0])) (fun s k => evalC impl_showAmounts.C impl_showAmounts.A n (codeAt Tryd.f88 [1, 1, 0, 1, 0, 0]) s k) m3 (St.of 24 88 [(4, .val .str x4), (8, .val (.slice (.int .i64)) x8), (9, .val (.int .i64) x9), (10, .val (.int .i64) x10)] [] []) (impl_showAmounts.K2 n)
theorem impl_showAmounts.eq (n : Nat) (x0 : List Int) : impl_showAmounts n x0 = impl_showAmounts.l3 n n ({ data := #[] }) (x0) ((↑(List.length x0) : Int)) (0) := by kernel_rfl
theorem impl_showAmounts.l3_zero (n : Nat) (x4 : ByteArray) (x8 : List Int) (x9 x10 : Int) : impl_showAmounts.l3 n 0 x4 x8 x9 x10 = none := by kernel_rfl
theorem impl_showAmounts.l3_succ (n m3 : Nat) (x4 : ByteArray) (x8 : List Int) (x9 x10 : Int) : impl_showAmounts.l3 n (m3 + 1) x4 x8 x9 x10 = (if x10 < x9 then (if 0 ≤ x10 then (if x10 < (↑(List.length x8) : Int) then ((impl_ShowMoney n (List.getD x8 (Int.toNat x10) 0)).bind fun y0 => (if y0 = { data := #[] } then some (({ data := #[] }, Bool.false)) else (if ByteArray.size { data := #[(32 : UInt8)] } + ByteArray.size y0 ≤ Go.Refl.maxN then (if ByteArray.size x4 + ByteArray.size ({ data := #[(32 : UInt8)] } ++ y0) ≤ Go.Refl.maxN then impl_showAmounts.l3 n m3 (x4 ++ ({ data := #[(32 : UInt8)] } ++ y0)) (x8) (x9) (Go.RowKit.wrap64 (x10 + 1)) else none) else none))) else none) else none) else some ((x4, Bool.true))) := by kernel_rfl
noncomputable abbrev impl_showAmounts.sg (n : Nat) : Sig := { params := impl_showAmounts.ps, res := impl_showAmounts.res, run := impl_showAmounts n }
theorem impl_showAmounts.call : Callable Tryd.prog 88 := ⟨Tryd.f88, Tryd.func88, by kernel_rfl, by kernel_rfl⟩
theorem impl_showAmounts.ok (n : Nat) : FC Tryd.prog [g2] 88 (impl_showAmounts.sg n) :=
  evalF_ok (C := impl_showAmounts.C) ⟨tb_ok, fun n _ _ h => tabOk (l := [(48, (impl_ShowMoney.sg n))]) (all_cons ⟨impl_ShowMoney.ok n, impl_ShowMoney.call⟩ (all_nil)) h, mixed, ar_ok, bld_ok, pts_ok⟩ impl_showAmounts.A Tryd.func88 impl_showAmounts.ps impl_showAmounts.res n
abbrev impl_showDetails.ps : List Pm := [.arg (.v (.pair (.int .i64) (.pair (.int .i64) (.pair (.int .i64) (.pair (.int .i64) (.pair (.slice (.int .i64)) (.pair (.int .i64) (.int .i64))))))))]
abbrev impl_showDetails.res : List M := [.v .str, .v .bool]
noncomputable def impl_showDetails.C : Cfg := { tb := tb, tab := fun n f => Refl.look [(47, (strconv_Itoa.sg n)), (86, (impl_ValidRate.sg n)), (87, (impl_showMembers.sg n)), (88, (impl_showAmounts.sg n))] f, gl := [g2], ar := ar, bld := bld, pts := pts }
noncomputable def impl_showDetails.A : Ann := { joins := [], loops := [], ids := [(6, [(22, []), (28, []), (32, [])]), (7, [(36, []), (37, [])]), (10, [(48, []), (49, [])]), (13, [(59, []), (60, [])]), (16, [(80, [])])], pids := [], nroots := 166 }
noncomputable def impl_showDetails (n : Nat) (x : Int × Int × Int × Int × List Int × Int × Int) : Option (ByteArray × Bool) := evalF impl_showDetails.C impl_showDetails.A Tryd.f55 impl_showDetails.ps impl_showDetails.res n x
noncomputable def impl_showDetails.K0 (_ : Nat) : Kont (ByteArray × Bool) := finK impl_showDetails.C (Func.results Tryd.f55).toList impl_showDetails.ps impl_showDetails.res
theorem impl_showDetails.eq (n : Nat) (x0 : Int × Int × Int × Int × List Int × Int × Int) : impl_showDetails n x0 = (if x0.1 = 0 then (if x0.1 = 0 then some (({ data := #[] }, Bool.true)) else (if x0.1 = 6 then ((strconv_Itoa n x0.2.2.2.2.2.1).bind fun y0 => (if ByteArray.size { data := #[(32 : UInt8)] } + ByteArray.size y0 ≤ Go.Refl.maxN then (if ByteArray.size ({ data := #[(32 : UInt8)] } ++ y0) + ByteArray.size { data := #[(32 : UInt8)] } ≤ Go.Refl.maxN then ((strconv_Itoa n x0.2.2.2.2.2.2).bind fun y1 => (if ByteArray.size ({ data := #[(32 : UInt8)] } ++ y0 ++ { data := #[(32 : UInt8)] }) + ByteArray.size y1 ≤ Go.Refl.maxN then ((impl_ValidRate n (x0.2.2.2.2.2.1, x0.2.2.2.2.2.2)).bind fun y2 => some (({ data := #[(32 : UInt8)] } ++ y0 ++ { data := #[(32 : UInt8)] } ++ y1, y2))) else none)) else none) else none)) else ((impl_showMembers n (List.set (List.replicate 1 0) 0 x0.2.1)).bind fun y3 => (if x0.1 = 5 then some ((y3.1, y3.2)) else ((impl_showAmounts n (List.set (List.replicate 1 0) 0 x0.2.2.1)).bind fun y4 => (if x0.1 = 4 then ((impl_showAmounts n (List.set (List.replicate 1 0) 0 x0.2.2.2.1)).bind fun y5 => (if ByteArray.size y3.1 + ByteArray.size y4.1 ≤ Go.Refl.maxN then (if ByteArray.size (y3.1 ++ y4.1) + ByteArray.size y5.1 ≤ Go.Refl.maxN then (if y3.2 = Bool.true then (if y4.2 = Bool.true then some ((y3.1 ++ y4.1 ++ y5.1, y5.2)) else some ((y3.1 ++ y4.1 ++ y5.1, Bool.false))) else some ((y3.1 ++ y4.1 ++ y5.1, Bool.false))) else none) else none)) else (if x0.1 = 3 then ((impl_showMembers n x0.2.2.2.2.1).bind fun y6 => (if ByteArray.size y3.1 + ByteArray.size y4.1 ≤ Go.Refl.maxN then (if ByteArray.size (y3.1 ++ y4.1) + ByteArray.size y6.1 ≤ Go.Refl.maxN then (if y3.2 = Bool.true then (if y4.2 = Bool.true then some ((y3.1 ++ y4.1 ++ y6.1, y6.2)) else some ((y3.1 ++ y4.1 ++ y6.1, Bool.false))) else some ((y3.1 ++ y4.1 ++ y6.1, Bool.false))) else none) else none)) else (if ByteArray.size y3.1 + ByteArray.size y4.1 ≤ Go.Refl.maxN then (if y3.2 = Bool.true then some ((y3.1 ++ y4.1, y4.2)) else some ((y3.1 ++ y4.1, Bool.false))) else none)))))))) else (if x0.1 = 7 then some (({ data := #[] }, Bool.true)) else (if x0.1 = 6 then ((strconv_Itoa n x0.2.2.2.2.2.1).bind fun y7 => (if ByteArray.size { data := #[(32 : UInt8)] } + ByteArray.size y7 ≤ Go.Refl.maxN then (if ByteArray.size ({ data := #[(32 : UInt8)] } ++ y7) + ByteArray.size { data := #[(32 : UInt8)] } ≤ Go.Refl.maxN then ((strconv_Itoa n x0.2.2.2.2.2.2).bind fun y8 => (if ByteArray.size ({ data := #[(32 : UInt8)] } ++ y7 ++ { data := #[(32 : UInt8)] }) + ByteArray.size y8 ≤ Go.Refl.maxN then ((impl_ValidRate n (x0.2.2.2.2.2.1, x0.2.2.2.2.2.2)).bind fun y9 => some (({ data := #[(32 : UInt8)] } ++ y7 ++ { data := #[(32 : UInt8)] } ++ y8, y9))) else none)) else none) else none)) else ((impl_showMembers n (List.set (List.replicate 1 0) 0 x0.2.1)).bind fun y10 => (if x0.1 = 5 then some ((y10.1, y10.2)) else ((impl_showAmounts n (List.set (List.replicate 1 0) 0 x0.2.2.1)).bind fun y11 => (if x0.1 = 4 then ((impl_showAmounts n (List.set (List.replicate 1 0) 0 x0.2.2.2.1)).bind fun y12 => (if ByteArray.size y10.1 + ByteArray.size y11.1 ≤ Go.Refl.maxN then (if ByteArray.size (y10.1 ++ y11.1) + ByteArray.size y12.1 ≤ Go.Refl.maxN then (if y10.2 = Bool.true then (if y11.2 = Bool.true then some ((y10.1 ++ y11.1 ++ y12.1, y12.2)) else some ((y10.1 ++ y11.1 ++ y12.1, Bool.false))) else some ((y10.1 ++ y11.1 ++ y12.1, Bool.false))) else none) else none)) else (if x0.1 = 3 then ((impl_showMembers n x0.2.2.2.2.1).bind fun y13 => (if ByteArray.size y10.1 + ByteArray.size y11.1 ≤ Go.Refl.maxN then (if ByteArray.size (y10.1 ++ y11.1) + ByteArray.size y13.1 ≤ Go.Refl.maxN then (if y10.2 = Bool.true then (if y11.2 = Bool.true then some ((y10.1 ++ y11.1 ++ y13.1, y13.2)) else some ((y10.1 ++ y11.1 ++ y13.1, Bool.false))) else some ((y10.1 ++ y11.1 ++ y13.1, Bool.false))) else none) else none)) else (if ByteArray.size y10.1 + ByteArray.size y11.1 ≤ Go.Refl.maxN then (if y10.2 = Bool.true then some ((y10.1 ++ y11.1, y11.2)) else some ((y10.1 ++ y11.1, Bool.false))) else none))))))))) := by kernel_rfl
noncomputable abbrev impl_showDetails.sg (n : Nat) : Sig := { params := impl_showDetails.ps, res := impl_showDetails.res, run := impl_showDetails n }
theorem impl_showDetails.call : Callable Tryd.prog 55 := ⟨Tryd.f55, Tryd.func55, by kernel_rfl, by kernel_rfl⟩
theorem impl_showDetails.ok (n : Nat) : FC Tryd.prog [g2] 55 (impl_showDetails.sg n) :=
  evalF_ok (C := impl_showDetails.C) ⟨tb_ok, fun n _ _ h => tabOk (l := [(47, (strconv_Itoa.sg n)), (86, (impl_ValidRate.sg n)), (87, (impl_showMembers.sg n)), (88, (impl_showAmounts.sg n))]) (all_cons ⟨strconv_Itoa.ok n, strconv_Itoa.call⟩ (all_cons ⟨(.mono (gl := []) (gl' := [g2]) (all_nil) (impl_ValidRate.ok n)), impl_ValidRate.call⟩ (all_cons ⟨impl_showMembers.ok n, impl_showMembers.call⟩ (all_cons ⟨impl_showAmounts.ok n, impl_showAmounts.call⟩ (all_nil))))) h, mixed, ar_ok, bld_ok, pts_ok⟩ impl_showDetails.A Tryd.func55 impl_showDetails.ps impl_showDetails.res n
abbrev impl_FormatEvent.ps : List Pm := [.arg (.v (.pair (.int .i64) (.pair (.int .i64) (.pair (.int .i64) (.pair (.int .i64) (.pair (.slice (.int .i64)) (.pair (.int .i64) (.int .i64))))))))]
abbrev impl_FormatEvent.res : List M := [.v .str]
noncomputable def impl_FormatEvent.C : Cfg := { tb := tb, tab := fun n f => Refl.look [(55, (impl_showDetails.sg n))] f, gl := [g0, g2], ar := ar, bld := bld, pts := pts }
noncomputable def impl_FormatEvent.A : Ann := { joins := [], loops := [], ids := [(3, [(15, [])])], pids := [], nroots := 90 }
noncomputable def impl_FormatEvent (n : Nat) (x : Int × Int × Int × Int × List Int × Int × Int) : Option (ByteArray) := evalF impl_FormatEvent.C impl_FormatEvent.A Tryd.f19 impl_FormatEvent.ps impl_FormatEvent.res n x
noncomputable def impl_FormatEvent.K0 (_ : Nat) : Kont (ByteArray) := finK impl_FormatEvent.C (Func.results Tryd.f19).toList impl_FormatEvent.ps impl_FormatEvent.res
theorem impl_FormatEvent.eq (n : Nat) (x0 : Int × Int × Int × Int × List Int × Int × Int) : impl_FormatEvent n x0 = (if x0.1 < 0 then some ({ data := #[] }) else (if x0.1 > 7 then some ({ data := #[] }) else ((impl_showDetails n (x0.1, x0.2.1, x0.2.2.1, x0.2.2.2.1, x0.2.2.2.2.1, x0.2.2.2.2.2.1, x0.2.2.2.2.2.2)).bind fun y0 => (if (!y0.2) = true then some ({ data := #[] }) else (if 0 ≤ x0.1 then (if x0.1 < (↑8 : Int) then (if ByteArray.size (List.getD [{ data := #[(106 : UInt8), (111 : UInt8), (105 : UInt8), (110 : UInt8)] }, { data := #[(115 : UInt8), (97 : UInt8), (118 : UInt8), (101 : UInt8)] }, { data := #[(116 : UInt8), (97 : UInt8), (107 : UInt8), (101 : UInt8)] }, { data := #[(108 : UInt8), (101 : UInt8), (110 : UInt8), (100 : UInt8)] }, { data := #[(114 : UInt8), (101 : UInt8), (112 : UInt8), (97 : UInt8), (121 : UInt8)] }, { data := #[(102 : UInt8), (97 : UInt8), (105 : UInt8), (108 : UInt8)] }, { data := #[(110 : UInt8), (105 : UInt8), (103 : UInt8), (104 : UInt8), (116 : UInt8)] }, { data := #[(115 : UInt8), (104 : UInt8), (97 : UInt8), (114 : UInt8), (101 : UInt8)] }] (Int.toNat x0.1) ByteArray.empty) + ByteArray.size y0.1 ≤ Go.Refl.maxN then some (List.getD [{ data := #[(106 : UInt8), (111 : UInt8), (105 : UInt8), (110 : UInt8)] }, { data := #[(115 : UInt8), (97 : UInt8), (118 : UInt8), (101 : UInt8)] }, { data := #[(116 : UInt8), (97 : UInt8), (107 : UInt8), (101 : UInt8)] }, { data := #[(108 : UInt8), (101 : UInt8), (110 : UInt8), (100 : UInt8)] }, { data := #[(114 : UInt8), (101 : UInt8), (112 : UInt8), (97 : UInt8), (121 : UInt8)] }, { data := #[(102 : UInt8), (97 : UInt8), (105 : UInt8), (108 : UInt8)] }, { data := #[(110 : UInt8), (105 : UInt8), (103 : UInt8), (104 : UInt8), (116 : UInt8)] }, { data := #[(115 : UInt8), (104 : UInt8), (97 : UInt8), (114 : UInt8), (101 : UInt8)] }] (Int.toNat x0.1) ByteArray.empty ++ y0.1) else none) else none) else none))))) := by kernel_rfl
noncomputable abbrev impl_FormatEvent.sg (n : Nat) : Sig := { params := impl_FormatEvent.ps, res := impl_FormatEvent.res, run := impl_FormatEvent n }
theorem impl_FormatEvent.call : Callable Tryd.prog 19 := ⟨Tryd.f19, Tryd.func19, by kernel_rfl, by kernel_rfl⟩
theorem impl_FormatEvent.ok (n : Nat) : FC Tryd.prog [g0, g2] 19 (impl_FormatEvent.sg n) :=
  evalF_ok (C := impl_FormatEvent.C) ⟨tb_ok, fun n _ _ h => tabOk (l := [(55, (impl_showDetails.sg n))]) (all_cons ⟨(.mono (gl := [g2]) (gl' := [g0, g2]) (all_cons (.tail _ (.head _)) (all_nil)) (impl_showDetails.ok n)), impl_showDetails.call⟩ (all_nil)) h, mixed, ar_ok, bld_ok, pts_ok⟩ impl_FormatEvent.A Tryd.func19 impl_FormatEvent.ps impl_FormatEvent.res n
abbrev impl_ParseEvent.ps : List Pm := [.arg (.v .str)]
abbrev impl_ParseEvent.res : List M := [(.pr (.v (.int .i64)) (.pr (.v (.int .i64)) (.pr (.v (.int .i64)) (.pr (.v (.int .i64)) (.pr (.own (.int .i64) 3) (.v (.pair (.int .i64) (.int .i64)))))))), .v .bool]
noncomputable def impl_ParseEvent.C : Cfg := { tb := tb, tab := fun n f => Refl.look [(62, (strings_Split.sg n)), (73, (impl_readDetails.sg n)), (19, (impl_FormatEvent.sg n))] f, gl := [g0, g2, g3, g4], ar := ar, bld := bld, pts := pts }
noncomputable def impl_ParseEvent.A : Ann := { joins := [], loops := [(3, { live := [0, 2, 4, 10, 11], base := 31 })], ids := [(7, [(24, [])])], pids := [], nroots := 95 }
noncomputable def impl_ParseEvent (n : Nat) (x : ByteArray) : Option ((Int × Int × Int × Int × List Int × Int × Int) × Bool) := evalF impl_ParseEvent.C impl_ParseEvent.A Tryd.f36 impl_ParseEvent.ps impl_ParseEvent.res n x
noncomputable def impl_ParseEvent.K0 (_ : Nat) : Kont ((Int × Int × Int × Int × List Int × Int × Int) × Bool) := finK impl_ParseEvent.C (Func.results Tryd.f36).toList impl_ParseEvent.ps impl_ParseEvent.res
noncomputable def impl_ParseEvent.K1 (n : Nat) : Kont ((Int × Int × Int × Int × List Int × Int × Int) × Bool) := seqK (fun s' k => joinE impl_ParseEvent.A.joins (codeAt Tryd.f36 [1, 1, 1]) (fun s'' => evalC impl_ParseEvent.C impl_ParseEvent.A n (codeAt Tryd.f36 [1, 1, 1]) s'' k) s') (impl_ParseEvent.K0 n)
noncomputable def impl_ParseEvent.K2 (n : Nat) : Kont ((Int × Int × Int × Int × List Int × Int × Int) × Bool) := blockK 0 (impl_ParseEvent.K1 n)
noncomputable def impl_ParseEvent.l3 (n m3 : Nat) (x0 : ByteArray) (x10 : List ByteArray) (x11 r31_0 : Int) (r31_1 r31_2 : Int) (r31_3 r31_5 r31_6 : Int) (r32 : List ByteArray) : Option ((Int × Int × Int × Int × List Int × Int × Int) × Bool) := loopE (cutAt impl_ParseEvent.A.loops (codeAt Tryd.f36 [1, 1, 0, 1, 0, 0])) (fun s k => evalC impl_ParseEvent.C impl_ParseEvent.A n (codeAt Tryd.f36 [1, 1, 0, 1, 0, 0]) s k) m3 (St.of 31 95 [(0, .val .str x0), (2, .ptr 31 0 0), (4, .own 32), (10, .garr .str x10), (11, .val (.int .i64) x11)] [(31, .box 38 [.val (.int .i64) r31_0, .val (.int .i64) r31_1, .val (.int .i64) r31_2, .val (.int .i64) r31_3, .nils, .val (.int .i64) r31_5, .val (.int .i64) r31_6]), (32, .row .str 9 r32)] []) (impl_ParseEvent.K2 n)
theorem impl_ParseEvent.eq (n : Nat) (x0 : ByteArray) : impl_ParseEvent n x0 = ((strings_Split n (x0, { data := #[(32 : UInt8)] })).bind fun y0 => impl_ParseEvent.l3 n n (x0) ([{ data := #[(106 : UInt8), (111 : UInt8), (105 : UInt8), (110 : UInt8)] }, { data := #[(115 : UInt8), (97 : UInt8), (118 : UInt8), (101 : UInt8)] }, { data := #[(116 : UInt8), (97 : UInt8), (107 : UInt8), (101 : UInt8)] }, { data := #[(108 : UInt8), (101 : UInt8), (110 : UInt8), (100 : UInt8)] }, { data := #[(114 : UInt8), (101 : UInt8), (112 : UInt8), (97 : UInt8), (121 : UInt8)] }, { data := #[(102 : UInt8), (97 : UInt8), (105 : UInt8), (108 : UInt8)] }, { data := #[(110 : UInt8), (105 : UInt8), (103 : UInt8), (104 : UInt8), (116 : UInt8)] }, { data := #[(115 : UInt8), (104 : UInt8), (97 : UInt8), (114 : UInt8), (101 : UInt8)] }]) (0) (0) (0) (0) (0) (0) (0) (y0)) := by kernel_rfl
theorem impl_ParseEvent.l3_zero (n : Nat) (x0 : ByteArray) (x10 : List ByteArray) (x11 r31_0 : Int) (r31_1 r31_2 : Int) (r31_3 r31_5 r31_6 : Int) (r32 : List ByteArray) : impl_ParseEvent.l3 n 0 x0 x10 x11 r31_0 r31_1 r31_2 r31_3 r31_5 r31_6 r32 = none := by kernel_rfl
theorem impl_ParseEvent.l3_succ (n m3 : Nat) (x0 : ByteArray) (x10 : List ByteArray) (x11 r31_0 : Int) (r31_1 r31_2 : Int) (r31_3 r31_5 r31_6 : Int) (r32 : List ByteArray) : impl_ParseEvent.l3 n (m3 + 1) x0 x10 x11 r31_0 r31_1 r31_2 r31_3 r31_5 r31_6 r32 = (if x11 < 8 then (if List.length x10 = 8 then (if 0 ≤ x11 then (if x11 < (↑8 : Int) then (if 0 < (↑(List.length r32) : Int) then (if List.getD r32 0 ByteArray.empty = List.getD x10 (Int.toNat x11) ByteArray.empty then ((impl_readDetails n (x11, r32)).bind fun y1 => ((impl_FormatEvent n (y1.1, y1.2.1, y1.2.2.1, y1.2.2.2.1, y1.2.2.2.2.1, y1.2.2.2.2.2.1, y1.2.2.2.2.2.2)).bind fun y2 => (if y2 = x0 then some (((y1.1, y1.2.1, y1.2.2.1, y1.2.2.2.1, y1.2.2.2.2.1, y1.2.2.2.2.2.1, y1.2.2.2.2.2.2), Bool.true)) else some (((0, 0, 0, 0, [], 0, 0), Bool.false))))) else impl_ParseEvent.l3 n m3 (x0) (x10) (Go.RowKit.wrap64 (x11 + 1)) (r31_0) (r31_1) (r31_2) (r31_3) (r31_5) (r31_6) (r32)) else none) else none) else none) else none) else some (((0, 0, 0, 0, [], 0, 0), Bool.false))) := by kernel_rfl
noncomputable abbrev impl_ParseEvent.sg (n : Nat) : Sig := { params := impl_ParseEvent.ps, res := impl_ParseEvent.res, run := impl_ParseEvent n }
theorem impl_ParseEvent.call : Callable Tryd.prog 36 := ⟨Tryd.f36, Tryd.func36, by kernel_rfl, by kernel_rfl⟩
theorem impl_ParseEvent.ok (n : Nat) : FC Tryd.prog [g0, g2, g3, g4] 36 (impl_ParseEvent.sg n) :=
  evalF_ok (C := impl_ParseEvent.C) ⟨tb_ok, fun n _ _ h => tabOk (l := [(62, (strings_Split.sg n)), (73, (impl_readDetails.sg n)), (19, (impl_FormatEvent.sg n))]) (all_cons ⟨(.mono (gl := []) (gl' := [g0, g2, g3, g4]) (all_nil) (strings_Split.ok n)), strings_Split.call⟩ (all_cons ⟨(.mono (gl := [g2, g3, g4]) (gl' := [g0, g2, g3, g4]) (all_cons (.tail _ (.head _)) (all_cons (.tail _ (.tail _ (.head _))) (all_cons (.tail _ (.tail _ (.tail _ (.head _)))) (all_nil)))) (impl_readDetails.ok n)), impl_readDetails.call⟩ (all_cons ⟨(.mono (gl := [g0, g2]) (gl' := [g0, g2, g3, g4]) (all_cons (.head _) (all_cons (.tail _ (.head _)) (all_nil))) (impl_FormatEvent.ok n)), impl_FormatEvent.call⟩ (all_nil)))) h, mixed, ar_ok, bld_ok, pts_ok⟩ impl_ParseEvent.A Tryd.func36 impl_ParseEvent.ps impl_ParseEvent.res n
abbrev laws_eqIntS.ps : List Pm := [.arg (.v (.slice (.int .i64))), .arg (.v (.slice (.int .i64)))]
abbrev laws_eqIntS.res : List M := [.v .bool]
noncomputable def laws_eqIntS.C : Cfg := { tb := tb, tab := fun n f => Refl.look [] f, gl := [], ar := ar, bld := bld, pts := pts }
noncomputable def laws_eqIntS.A : Ann := { joins := [], loops := [(4, { live := [0, 1, 5], base := 26 })], ids := [], pids := [], nroots := 90 }
noncomputable def laws_eqIntS (n : Nat) (x : List Int × List Int) : Option (Bool) := evalF laws_eqIntS.C laws_eqIntS.A Tryd.f56 laws_eqIntS.ps laws_eqIntS.res n x
noncomputable def laws_eqIntS.K0 (_ : Nat) : Kont (Bool) := finK laws_eqIntS.C (Func.results Tryd.f56).toList laws_eqIntS.ps laws_eqIntS.res
noncomputable def laws_eqIntS.K1 (n : Nat) : Kont (Bool) := seqK (fun s' k => joinE laws_eqIntS.A.joins (codeAt Tryd.f56 [1, 1, 1]) (fun s'' => evalC laws_eqIntS.C laws_eqIntS.A n (codeAt Tryd.f56 [1, 1, 1]) s'' k) s') (laws_eqIntS.K0 n)
noncomputable def laws_eqIntS.K2 (n : Nat) : Kont (Bool) := blockK 0 (laws_eqIntS.K1 n)
noncomputable def laws_eqIntS.l4 (n m4 : Nat) (x0 x1 : List Int) (x5 : Int) : Option (Bool) := loopE (cutAt laws_eqIntS.A.loops (codeAt Tryd.f56 [1, 1, 0, 1, 0, 0])) (fun s k => evalC laws_eqIntS.C laws_eqIntS.A n (codeAt Tryd.f56 [1, 1, 0, 1, 0, 0]) s k) m4 (St.of 26 90 [(0, .val (.slice (.int .i64)) x0), (1, .val (.slice (.int .i64)) x1), (5, .val (.int .i64) x5)] [] []) (laws_eqIntS.K2 n)
theorem laws_eqIntS.eq (n : Nat) (x0 x1 : List Int) : laws_eqIntS n (x0, x1) = (if (↑(List.length x0) : Int) = (↑(List.length x1) : Int) then laws_eqIntS.l4 n n (x0) (x1) (0) else some (Bool.false)) := by kernel_rfl
theorem laws_eqIntS.l4_zero (n : Nat) (x0 x1 : List Int) (x5 : Int) : laws_eqIntS.l4 n 0 x0 x1 x5 = none := by kernel_rfl
theorem laws_eqIntS.l4_succ (n m4 : Nat) (x0 x1 : List Int) (x5 : Int) : laws_eqIntS.l4 n (m4 + 1) x0 x1 x5 = (if x5 < (↑(List.length x0) : Int) then (if 0 ≤ x5 then (if x5 < (↑(List.length x0) : Int) then (if 0 ≤ x5 then (if x5 < (↑(List.length x1) : Int) then (if List.getD x0 (Int.toNat x5) 0 = List.getD x1 (Int.toNat x5) 0 then laws_eqIntS.l4 n m4 (x0) (x1) (Go.RowKit.wrap64 (x5 + 1)) else some (Bool.false)) else none) else none) else none) else none) else some (Bool.true)) := by kernel_rfl
noncomputable abbrev laws_eqIntS.sg (n : Nat) : Sig := { params := laws_eqIntS.ps, res := laws_eqIntS.res, run := laws_eqIntS n }
theorem laws_eqIntS.call : Callable Tryd.prog 56 := ⟨Tryd.f56, Tryd.func56, by kernel_rfl, by kernel_rfl⟩
theorem laws_eqIntS.ok (n : Nat) : FC Tryd.prog [] 56 (laws_eqIntS.sg n) :=
  evalF_ok (C := laws_eqIntS.C) ⟨tb_ok, fun n _ _ h => tabOk (l := []) (all_nil) h, mixed, ar_ok, bld_ok, pts_ok⟩ laws_eqIntS.A Tryd.func56 laws_eqIntS.ps laws_eqIntS.res n
abbrev laws_eqRate.ps : List Pm := [.arg (.v (.pair (.int .i64) (.int .i64))), .arg (.v (.pair (.int .i64) (.int .i64)))]
abbrev laws_eqRate.res : List M := [.v .bool]
noncomputable def laws_eqRate.C : Cfg := { tb := tb, tab := fun n f => Refl.look [] f, gl := [], ar := ar, bld := bld, pts := pts }
noncomputable def laws_eqRate.A : Ann := { joins := [], loops := [], ids := [], pids := [], nroots := 79 }
noncomputable def laws_eqRate (n : Nat) (x : (Int × Int) × Int × Int) : Option (Bool) := evalF laws_eqRate.C laws_eqRate.A Tryd.f57 laws_eqRate.ps laws_eqRate.res n x
noncomputable def laws_eqRate.K0 (_ : Nat) : Kont (Bool) := finK laws_eqRate.C (Func.results Tryd.f57).toList laws_eqRate.ps laws_eqRate.res
theorem laws_eqRate.eq (n : Nat) (x0 : Int × Int) (x1 : Int × Int) : laws_eqRate n (x0, x1) = (if x0.1 = x1.1 then (if x0.2 = x1.2 then some (Bool.true) else some (Bool.false)) else some (Bool.false)) := by kernel_rfl
noncomputable abbrev laws_eqRate.sg (n : Nat) : Sig := { params := laws_eqRate.ps, res := laws_eqRate.res, run := laws_eqRate n }
theorem laws_eqRate.call : Callable Tryd.prog 57 := ⟨Tryd.f57, Tryd.func57, by kernel_rfl, by kernel_rfl⟩
theorem laws_eqRate.ok (n : Nat) : FC Tryd.prog [] 57 (laws_eqRate.sg n) :=
  evalF_ok (C := laws_eqRate.C) ⟨tb_ok, fun n _ _ h => tabOk (l := []) (all_nil) h, mixed, ar_ok, bld_ok, pts_ok⟩ laws_eqRate.A Tryd.func57 laws_eqRate.ps laws_eqRate.res n
abbrev laws_eqEvent.ps : List Pm := [.arg (.v (.pair (.int .i64) (.pair (.int .i64) (.pair (.int .i64) (.pair (.int .i64) (.pair (.slice (.int .i64)) (.pair (.int .i64) (.int .i64)))))))), .arg (.v (.pair (.int .i64) (.pair (.int .i64) (.pair (.int .i64) (.pair (.int .i64) (.pair (.slice (.int .i64)) (.pair (.int .i64) (.int .i64))))))))]
abbrev laws_eqEvent.res : List M := [.v .bool]
noncomputable def laws_eqEvent.C : Cfg := { tb := tb, tab := fun n f => Refl.look [(56, (laws_eqIntS.sg n)), (57, (laws_eqRate.sg n))] f, gl := [], ar := ar, bld := bld, pts := pts }
noncomputable def laws_eqEvent.A : Ann := { joins := [], loops := [], ids := [(9, [(29, [])]), (11, [(35, [])])], pids := [], nroots := 101 }
noncomputable def laws_eqEvent (n : Nat) (x : (Int × Int × Int × Int × List Int × Int × Int) × Int × Int × Int × Int × List Int × Int × Int) : Option (Bool) := evalF laws_eqEvent.C laws_eqEvent.A Tryd.f20 laws_eqEvent.ps laws_eqEvent.res n x
noncomputable def laws_eqEvent.K0 (_ : Nat) : Kont (Bool) := finK laws_eqEvent.C (Func.results Tryd.f20).toList laws_eqEvent.ps laws_eqEvent.res
theorem laws_eqEvent.eq (n : Nat) (x0 : Int × Int × Int × Int × List Int × Int × Int) (x1 : Int × Int × Int × Int × List Int × Int × Int) : laws_eqEvent n (x0, x1) = (if x0.1 = x1.1 then (if x0.2.1 = x1.2.1 then (if x0.2.2.1 = x1.2.2.1 then (if x0.2.2.2.1 = x1.2.2.2.1 then ((laws_eqIntS n (x0.2.2.2.2.1, x1.2.2.2.2.1)).bind fun y0 => (if (!y0) = true then some (Bool.false) else ((laws_eqRate n ((x0.2.2.2.2.2.1, x0.2.2.2.2.2.2), x1.2.2.2.2.2.1, x1.2.2.2.2.2.2)).bind fun y1 => (if (!y1) = true then some (Bool.false) else some (Bool.true))))) else some (Bool.false)) else some (Bool.false)) else some (Bool.false)) else some (Bool.false)) := by kernel_rfl
noncomputable abbrev laws_eqEvent.sg (n : Nat) : Sig := { params := laws_eqEvent.ps, res := laws_eqEvent.res, run := laws_eqEvent n }
theorem laws_eqEvent.call : Callable Tryd.prog 20 := ⟨Tryd.f20, Tryd.func20, by kernel_rfl, by kernel_rfl⟩
theorem laws_eqEvent.ok (n : Nat) : FC Tryd.prog [] 20 (laws_eqEvent.sg n) :=
  evalF_ok (C := laws_eqEvent.C) ⟨tb_ok, fun n _ _ h => tabOk (l := [(56, (laws_eqIntS.sg n)), (57, (laws_eqRate.sg n))]) (all_cons ⟨laws_eqIntS.ok n, laws_eqIntS.call⟩ (all_cons ⟨laws_eqRate.ok n, laws_eqRate.call⟩ (all_nil))) h, mixed, ar_ok, bld_ok, pts_ok⟩ laws_eqEvent.A Tryd.func20 laws_eqEvent.ps laws_eqEvent.res n
abbrev laws_markIntS.ps : List Pm := [.inout (.int .i64) 3, .arg (.v (.int .i64))]
abbrev laws_markIntS.res : List M := [.v (.int .i64)]
noncomputable def laws_markIntS.C : Cfg := { tb := tb, tab := fun n f => Refl.look [] f, gl := [], ar := ar, bld := bld, pts := pts }
noncomputable def laws_markIntS.A : Ann := { joins := [], loops := [(2, { live := [0, 1, 5], base := 19 })], ids := [], pids := [], nroots := 83 }
noncomputable def laws_markIntS (n : Nat) (x : List Int × Int) : Option (Int × List Int) := evalF laws_markIntS.C laws_markIntS.A Tryd.f74 laws_markIntS.ps laws_markIntS.res n x
noncomputable def laws_markIntS.K0 (_ : Nat) : Kont (Int × List Int) := finK laws_markIntS.C (Func.results Tryd.f74).toList laws_markIntS.ps laws_markIntS.res
noncomputable def laws_markIntS.K1 (n : Nat) : Kont (Int × List Int) := seqK (fun s' k => joinE laws_markIntS.A.joins (codeAt Tryd.f74 [1, 1]) (fun s'' => evalC laws_markIntS.C laws_markIntS.A n (codeAt Tryd.f74 [1, 1]) s'' k) s') (laws_markIntS.K0 n)
noncomputable def laws_markIntS.K2 (n : Nat) : Kont (Int × List Int) := blockK 0 (laws_markIntS.K1 n)
noncomputable def laws_markIntS.l2 (n m2 : Nat) (x1 x5 : Int) (r0 : List Int) : Option (Int × List Int) := loopE (cutAt laws_markIntS.A.loops (codeAt Tryd.f74 [1, 0, 1, 0, 0])) (fun s k => evalC laws_markIntS.C laws_markIntS.A n (codeAt Tryd.f74 [1, 0, 1, 0, 0]) s k) m2 (St.of 19 83 [(0, .own 0), (1, .val (.int .i64) x1), (5, .val (.int .i64) x5)] [(0, .row (.int .i64) 3 r0)] [0]) (laws_markIntS.K2 n)
theorem laws_markIntS.eq (n : Nat) (x0 : List Int) (x1 : Int) : laws_markIntS n (x0, x1) = laws_markIntS.l2 n n (x1) (0) (x0) := by kernel_rfl
theorem laws_markIntS.l2_zero (n : Nat) (x1 x5 : Int) (r0 : List Int) : laws_markIntS.l2 n 0 x1 x5 r0 = none := by kernel_rfl
theorem laws_markIntS.l2_succ (n m2 : Nat) (x1 x5 : Int) (r0 : List Int) : laws_markIntS.l2 n (m2 + 1) x1 x5 r0 = (if x5 < (↑(List.length r0) : Int) then (if 0 ≤ x5 then (if x5 < (↑(List.length r0) : Int) then laws_markIntS.l2 n m2 (Go.RowKit.wrap64 (x1 + 1)) (Go.RowKit.wrap64 (x5 + 1)) (List.set r0 (Int.toNat x5) x1) else none) else none) else some ((x1, r0))) := by kernel_rfl
noncomputable abbrev laws_markIntS.sg (n : Nat) : Sig := { params := laws_markIntS.ps, res := laws_markIntS.res, run := laws_markIntS n }
theorem laws_markIntS.call : Callable Tryd.prog 74 := ⟨Tryd.f74, Tryd.func74, by kernel_rfl, by kernel_rfl⟩
theorem laws_markIntS.ok (n : Nat) : FC Tryd.prog [] 74 (laws_markIntS.sg n) :=
  evalF_ok (C := laws_markIntS.C) ⟨tb_ok, fun n _ _ h => tabOk (l := []) (all_nil) h, mixed, ar_ok, bld_ok, pts_ok⟩ laws_markIntS.A Tryd.func74 laws_markIntS.ps laws_markIntS.res n
abbrev laws_markEvent.ps : List Pm := [.sin 4 (.int .i64) 3 2, .arg (.v (.int .i64))]
abbrev laws_markEvent.res : List M := [.v (.int .i64)]
noncomputable def laws_markEvent.C : Cfg := { tb := tb, tab := fun n f => Refl.look [(74, (laws_markIntS.sg n))] f, gl := [], ar := ar, bld := bld, pts := pts }
noncomputable def laws_markEvent.A : Ann := { joins := [], loops := [], ids := [(1, [(8, [])])], pids := [], nroots := 74 }
noncomputable def laws_markEvent (n : Nat) (x : List Int × Int) : Option (Int × List Int) := evalF laws_markEvent.C laws_markEvent.A Tryd.f37 laws_markEvent.ps laws_markEvent.res n x
noncomputable def laws_markEvent.K0 (_ : Nat) : Kont (Int × List Int) := finK laws_markEvent.C (Func.results Tryd.f37).toList laws_markEvent.ps laws_markEvent.res
theorem laws_markEvent.eq (n : Nat) (x0 : List Int) (x1 : Int) : laws_markEvent n (x0, x1) = ((laws_markIntS n (x0, x1)).bind fun y0 => some ((y0.1, y0.2))) := by kernel_rfl
noncomputable abbrev laws_markEvent.sg (n : Nat) : Sig := { params := laws_markEvent.ps, res := laws_markEvent.res, run := laws_markEvent n }
theorem laws_markEvent.call : Callable Tryd.prog 37 := ⟨Tryd.f37, Tryd.func37, by kernel_rfl, by kernel_rfl⟩
theorem laws_markEvent.ok (n : Nat) : FC Tryd.prog [] 37 (laws_markEvent.sg n) :=
  evalF_ok (C := laws_markEvent.C) ⟨tb_ok, fun n _ _ h => tabOk (l := [(74, (laws_markIntS.sg n))]) (all_cons ⟨laws_markIntS.ok n, laws_markIntS.call⟩ (all_nil)) h, mixed, ar_ok, bld_ok, pts_ok⟩ laws_markEvent.A Tryd.func37 laws_markEvent.ps laws_markEvent.res n
abbrev laws_heldIntS.ps : List Pm := [.arg (.v (.slice (.int .i64))), .arg (.v (.int .i64))]
abbrev laws_heldIntS.res : List M := [.v (.int .i64)]
noncomputable def laws_heldIntS.C : Cfg := { tb := tb, tab := fun n f => Refl.look [] f, gl := [], ar := ar, bld := bld, pts := pts }
noncomputable def laws_heldIntS.A : Ann := { joins := [], loops := [(2, { live := [0, 1, 5], base := 21 })], ids := [], pids := [], nroots := 85 }
noncomputable def laws_heldIntS (n : Nat) (x : List Int × Int) : Option (Int) := evalF laws_heldIntS.C laws_heldIntS.A Tryd.f75 laws_heldIntS.ps laws_heldIntS.res n x
noncomputable def laws_heldIntS.K0 (_ : Nat) : Kont (Int) := finK laws_heldIntS.C (Func.results Tryd.f75).toList laws_heldIntS.ps laws_heldIntS.res
noncomputable def laws_heldIntS.K1 (n : Nat) : Kont (Int) := seqK (fun s' k => joinE laws_heldIntS.A.joins (codeAt Tryd.f75 [1, 1]) (fun s'' => evalC laws_heldIntS.C laws_heldIntS.A n (codeAt Tryd.f75 [1, 1]) s'' k) s') (laws_heldIntS.K0 n)
noncomputable def laws_heldIntS.K2 (n : Nat) : Kont (Int) := blockK 0 (laws_heldIntS.K1 n)
noncomputable def laws_heldIntS.l2 (n m2 : Nat) (x0 : List Int) (x1 x5 : Int) : Option (Int) := loopE (cutAt laws_heldIntS.A.loops (codeAt Tryd.f75 [1, 0, 1, 0, 0])) (fun s k => evalC laws_heldIntS.C laws_heldIntS.A n (codeAt Tryd.f75 [1, 0, 1, 0, 0]) s k) m2 (St.of 21 85 [(0, .val (.slice (.int .i64)) x0), (1, .val (.int .i64) x1), (5, .val (.int .i64) x5)] [] []) (laws_heldIntS.K2 n)
theorem laws_heldIntS.eq (n : Nat) (x0 : List Int) (x1 : Int) : laws_heldIntS n (x0, x1) = laws_heldIntS.l2 n n (x0) (x1) (0) := by kernel_rfl
theorem laws_heldIntS.l2_zero (n : Nat) (x0 : List Int) (x1 x5 : Int) : laws_heldIntS.l2 n 0 x0 x1 x5 = none := by kernel_rfl
theorem laws_heldIntS.l2_succ (n m2 : Nat) (x0 : List Int) (x1 x5 : Int) : laws_heldIntS.l2 n (m2 + 1) x0 x1 x5 = (if x5 < (↑(List.length x0) : Int) then (if 0 ≤ x5 then (if x5 < (↑(List.length x0) : Int) then (if List.getD x0 (Int.toNat x5) 0 = x1 then laws_heldIntS.l2 n m2 (x0) (Go.RowKit.wrap64 (x1 + 1)) (Go.RowKit.wrap64 (x5 + 1)) else some ((-1))) else none) else none) else some (x1)) := by kernel_rfl
noncomputable abbrev laws_heldIntS.sg (n : Nat) : Sig := { params := laws_heldIntS.ps, res := laws_heldIntS.res, run := laws_heldIntS n }
theorem laws_heldIntS.call : Callable Tryd.prog 75 := ⟨Tryd.f75, Tryd.func75, by kernel_rfl, by kernel_rfl⟩
theorem laws_heldIntS.ok (n : Nat) : FC Tryd.prog [] 75 (laws_heldIntS.sg n) :=
  evalF_ok (C := laws_heldIntS.C) ⟨tb_ok, fun n _ _ h => tabOk (l := []) (all_nil) h, mixed, ar_ok, bld_ok, pts_ok⟩ laws_heldIntS.A Tryd.func75 laws_heldIntS.ps laws_heldIntS.res n
abbrev laws_heldEvent.ps : List Pm := [.arg (.v (.pair (.int .i64) (.pair (.int .i64) (.pair (.int .i64) (.pair (.int .i64) (.pair (.slice (.int .i64)) (.pair (.int .i64) (.int .i64)))))))), .arg (.v (.int .i64))]
abbrev laws_heldEvent.res : List M := [.v (.int .i64)]
noncomputable def laws_heldEvent.C : Cfg := { tb := tb, tab := fun n f => Refl.look [(75, (laws_heldIntS.sg n))] f, gl := [], ar := ar, bld := bld, pts := pts }
noncomputable def laws_heldEvent.A : Ann := { joins := [], loops := [], ids := [(1, [(8, [])])], pids := [], nroots := 76 }
noncomputable def laws_heldEvent (n : Nat) (x : (Int × Int × Int × Int × List Int × Int × Int) × Int) : Option (Int) := evalF laws_heldEvent.C laws_heldEvent.A Tryd.f38 laws_heldEvent.ps laws_heldEvent.res n x
noncomputable def laws_heldEvent.K0 (_ : Nat) : Kont (Int) := finK laws_heldEvent.C (Func.results Tryd.f38).toList laws_heldEvent.ps laws_heldEvent.res
theorem laws_heldEvent.eq (n : Nat) (x0 : Int × Int × Int × Int × List Int × Int × Int) (x1 : Int) : laws_heldEvent n (x0, x1) = ((laws_heldIntS n (x0.2.2.2.2.1, x1)).bind fun y0 => (if y0 < 0 then some ((-1)) else some (y0))) := by kernel_rfl
noncomputable abbrev laws_heldEvent.sg (n : Nat) : Sig := { params := laws_heldEvent.ps, res := laws_heldEvent.res, run := laws_heldEvent n }
theorem laws_heldEvent.call : Callable Tryd.prog 38 := ⟨Tryd.f38, Tryd.func38, by kernel_rfl, by kernel_rfl⟩
theorem laws_heldEvent.ok (n : Nat) : FC Tryd.prog [] 38 (laws_heldEvent.sg n) :=
  evalF_ok (C := laws_heldEvent.C) ⟨tb_ok, fun n _ _ h => tabOk (l := [(75, (laws_heldIntS.sg n))]) (all_cons ⟨laws_heldIntS.ok n, laws_heldIntS.call⟩ (all_nil)) h, mixed, ar_ok, bld_ok, pts_ok⟩ laws_heldEvent.A Tryd.func38 laws_heldEvent.ps laws_heldEvent.res n
abbrev laws_FnExactParseEvent.ps : List Pm := [.arg (.v .str)]
abbrev laws_FnExactParseEvent.res : List M := [.v .bool]
noncomputable def laws_FnExactParseEvent.C : Cfg := { tb := tb, tab := fun n f => Refl.look [(35, (spec_ParseEvent.sg n)), (36, (impl_ParseEvent.sg n)), (20, (laws_eqEvent.sg n)), (37, (laws_markEvent.sg n)), (38, (laws_heldEvent.sg n))] f, gl := [g0, g2, g3, g4], ar := ar, bld := bld, pts := pts }
noncomputable def laws_FnExactParseEvent.A : Ann := { joins := [(6, { live := [0, 3, 4, 5, 32], base := 66 }), (15, { live := [0, 3, 4, 5, 7], base := 66 }), (17, { live := [5, 7, 57], base := 66 })], loops := [], ids := [(3, [(16, [])]), (5, [(26, [])]), (8, [(35, [])]), (10, [(38, [])]), (16, [(51, [])]), (19, [(60, [])])], pids := [], nroots := 130 }
noncomputable def laws_FnExactParseEvent (n : Nat) (x : ByteArray) : Option (Bool) := evalF laws_FnExactParseEvent.C laws_FnExactParseEvent.A Tryd.f9 laws_FnExactParseEvent.ps laws_FnExactParseEvent.res n x
noncomputable def laws_FnExactParseEvent.K0 (_ : Nat) : Kont (Bool) := finK laws_FnExactParseEvent.C (Func.results Tryd.f9).toList laws_FnExactParseEvent.ps laws_FnExactParseEvent.res
noncomputable def laws_FnExactParseEvent.K1 (n : Nat) : Kont (Bool) := seqK (fun s' k => joinE laws_FnExactParseEvent.A.joins (codeAt Tryd.f9 [1, 1, 1, 1, 1]) (fun s'' => evalC laws_FnExactParseEvent.C laws_FnExactParseEvent.A n (codeAt Tryd.f9 [1, 1, 1, 1, 1]) s'' k) s') (laws_FnExactParseEvent.K0 n)
noncomputable def laws_FnExactParseEvent.K2 (n : Nat) : Kont (Bool) := seqK (fun s' k => joinE laws_FnExactParseEvent.A.joins (codeAt Tryd.f9 [1, 1, 1, 1, 1, 1, 1, 1, 1, 1, 1, 1, 1]) (fun s'' => evalC laws_FnExactParseEvent.C laws_FnExactParseEvent.A n (codeAt Tryd.f9 [1, 1, 1, 1, 1, 1, 1, 1, 1, 1, 1, 1, 1]) s'' k) s') (laws_FnExactParseEvent.K0 n)
noncomputable def laws_FnExactParseEvent.j6 (n : Nat) (x0 : ByteArray) (x4 x32 : Bool) (r66_0 r66_1 : Int) (r66_2 r66_3 : Int) (r66_4 : List Int) (r66_5 r66_6 : Int) (r67_0 r67_1 : Int) (r67_2 r67_3 : Int) (r67_5 r67_6 : Int) (r68 : List Int) : Option (Bool) := holdF (fun s => evalC laws_FnExactParseEvent.C laws_FnExactParseEvent.A n (codeAt Tryd.f9 [1, 1, 1, 1, 0, 1]) s (laws_FnExactParseEvent.K1 n)) (St.of 66 130 [(0, .val .str x0), (3, .ptr 66 0 0), (4, .val .bool x4), (5, .ptr 67 0 0), (32, .val .bool x32)] [(66, .box 38 [.val (.int .i64) r66_0, .val (.int .i64) r66_1, .val (.int .i64) r66_2, .val (.int .i64) r66_3, .val (.slice (.int .i64)) r66_4, .val (.int .i64) r66_5, .val (.int .i64) r66_6]), (67, .box 38 [.val (.int .i64) r67_0, .val (.int .i64) r67_1, .val (.int .i64) r67_2, .val (.int .i64) r67_3, .own 68, .val (.int .i64) r67_5, .val (.int .i64) r67_6]), (68, .row (.int .i64) 3 r68)] [])
noncomputable def laws_FnExactParseEvent.j15 (n : Nat) (x0 : ByteArray) (x4 : Bool) (x7 r66_0 : Int) (r66_1 r66_2 r66_3 : Int) (r66_4 : List Int) (r66_5 r66_6 : Int) (r67_0 r67_1 : Int) (r67_2 r67_3 : Int) (r67_5 r67_6 : Int) (r68 : List Int) : Option (Bool) := holdF (fun s => evalC laws_FnExactParseEvent.C laws_FnExactParseEvent.A n (codeAt Tryd.f9 [1, 1, 1, 1, 1, 1, 1, 1, 1, 1, 1]) s (laws_FnExactParseEvent.K0 n)) (St.of 66 130 [(0, .val .str x0), (3, .ptr 66 0 0), (4, .val .bool x4), (5, .ptr 67 0 0), (7, .val (.int .i64) x7)] [(66, .box 38 [.val (.int .i64) r66_0, .val (.int .i64) r66_1, .val (.int .i64) r66_2, .val (.int .i64) r66_3, .val (.slice (.int .i64)) r66_4, .val (.int .i64) r66_5, .val (.int .i64) r66_6]), (67, .box 38 [.val (.int .i64) r67_0, .val (.int .i64) r67_1, .val (.int .i64) r67_2, .val (.int .i64) r67_3, .own 68, .val (.int .i64) r67_5, .val (.int .i64) r67_6]), (68, .row (.int .i64) 3 r68)] [])
noncomputable def laws_FnExactParseEvent.j17 (n : Nat) (x7 : Int) (x57 : Bool) (r66_0 r66_1 : Int) (r66_2 r66_3 : Int) (r66_5 r66_6 : Int) (r67 : List Int) : Option (Bool) := holdF (fun s => evalC laws_FnExactParseEvent.C laws_FnExactParseEvent.A n (codeAt Tryd.f9 [1, 1, 1, 1, 1, 1, 1, 1, 1, 1, 1, 1, 0, 1]) s (laws_FnExactParseEvent.K2 n)) (St.of 66 130 [(5, .ptr 66 0 0), (7, .val (.int .i64) x7), (57, .val .bool x57)] [(66, .box 38 [.val (.int .i64) r66_0, .val (.int .i64) r66_1, .val (.int .i64) r66_2, .val (.int .i64) r66_3, .own 67, .val (.int .i64) r66_5, .val (.int .i64) r66_6]), (67, .row (.int .i64) 3 r67)] [])
theorem laws_FnExactParseEvent.eq (n : Nat) (x0 : ByteArray) : laws_FnExactParseEvent n x0 = (if (↑(ByteArray.size x0) : Int) > 1048576 then some (Bool.true) else ((spec_ParseEvent n x0).bind fun y0 => ((impl_ParseEvent n x0).bind fun y1 => ((laws_eqEvent n ((y1.1.1, y1.1.2.1, y1.1.2.2.1, y1.1.2.2.2.1, y1.1.2.2.2.2.1, y1.1.2.2.2.2.2.1, y1.1.2.2.2.2.2.2), y0.1.1, y0.1.2.1, y0.1.2.2.1, y0.1.2.2.2.1, y0.1.2.2.2.2.1, y0.1.2.2.2.2.2.1, y0.1.2.2.2.2.2.2)).bind fun y2 => (if (!y2) = Bool.true then laws_FnExactParseEvent.j6 n (x0) y0.2 (Bool.true) y0.1.1 y0.1.2.1 y0.1.2.2.1 y0.1.2.2.2.1 y0.1.2.2.2.2.1 y0.1.2.2.2.2.2.1 y0.1.2.2.2.2.2.2 y1.1.1 y1.1.2.1 y1.1.2.2.1 y1.1.2.2.2.1 y1.1.2.2.2.2.2.1 y1.1.2.2.2.2.2.2 y1.1.2.2.2.2.1 else laws_FnExactParseEvent.j6 n (x0) y0.2 (!Decidable.decide (y1.2 = y0.2)) y0.1.1 y0.1.2.1 y0.1.2.2.1 y0.1.2.2.2.1 y0.1.2.2.2.2.1 y0.1.2.2.2.2.2.1 y0.1.2.2.2.2.2.2 y1.1.1 y1.1.2.1 y1.1.2.2.1 y1.1.2.2.2.1 y1.1.2.2.2.2.2.1 y1.1.2.2.2.2.2.2 y1.1.2.2.2.2.1))))) := by kernel_rfl
theorem laws_FnExactParseEvent.j6_eq (n : Nat) (x0 : ByteArray) (x4 x32 : Bool) (r66_0 r66_1 : Int) (r66_2 r66_3 : Int) (r66_4 : List Int) (r66_5 r66_6 : Int) (r67_0 r67_1 : Int) (r67_2 r67_3 : Int) (r67_5 r67_6 : Int) (r68 : List Int) : laws_FnExactParseEvent.j6 n x0 x4 x32 r66_0 r66_1 r66_2 r66_3 r66_4 r66_5 r66_6 r67_0 r67_1 r67_2 r67_3 r67_5 r67_6 r68 = (if (x32) = true then some (Bool.false) else ((laws_markEvent n (r68, 1)).bind fun y3 => ((laws_heldEvent n ((r67_0, r67_1, r67_2, r67_3, y3.2, r67_5, r67_6), 1)).bind fun y4 => (if y4 < 0 then some (Bool.false) else (if y4 = y3.1 then laws_FnExactParseEvent.j15 n (x0) (x4) y3.1 (r66_0) (r66_1) (r66_2) (r66_3) (r66_4) (r66_5) (r66_6) (r67_0) (r67_1) (r67_2) (r67_3) (r67_5) (r67_6) y3.2 else some (Bool.false)))))) := (holdF_eq _ _).trans (by kernel_rfl)
theorem laws_FnExactParseEvent.j15_eq (n : Nat) (x0 : ByteArray) (x4 : Bool) (x7 r66_0 : Int) (r66_1 r66_2 r66_3 : Int) (r66_4 : List Int) (r66_5 r66_6 : Int) (r67_0 r67_1 : Int) (r67_2 r67_3 : Int) (r67_5 r67_6 : Int) (r68 : List Int) : laws_FnExactParseEvent.j15 n x0 x4 x7 r66_0 r66_1 r66_2 r66_3 r66_4 r66_5 r66_6 r67_0 r67_1 r67_2 r67_3 r67_5 r67_6 r68 = ((impl_ParseEvent n x0).bind fun y5 => ((laws_eqEvent n ((y5.1.1, y5.1.2.1, y5.1.2.2.1, y5.1.2.2.2.1, y5.1.2.2.2.2.1, y5.1.2.2.2.2.2.1, y5.1.2.2.2.2.2.2), r66_0, r66_1, r66_2, r66_3, r66_4, r66_5, r66_6)).bind fun y6 => (if (!y6) = Bool.true then laws_FnExactParseEvent.j17 n (x7) (Bool.true) (r67_0) (r67_1) (r67_2) (r67_3) (r67_5) (r67_6) (r68) else laws_FnExactParseEvent.j17 n (x7) (!Decidable.decide (y5.2 = x4)) (r67_0) (r67_1) (r67_2) (r67_3) (r67_5) (r67_6) (r68)))) := (holdF_eq _ _).trans (by kernel_rfl)
theorem laws_FnExactParseEvent.j17_eq (n : Nat) (x7 : Int) (x57 : Bool) (r66_0 r66_1 : Int) (r66_2 r66_3 : Int) (r66_5 r66_6 : Int) (r67 : List Int) : laws_FnExactParseEvent.j17 n x7 x57 r66_0 r66_1 r66_2 r66_3 r66_5 r66_6 r67 = (if (x57) = true then some (Bool.false) else ((laws_heldEvent n ((r66_0, r66_1, r66_2, r66_3, r67, r66_5, r66_6), 1)).bind fun y7 => (if y7 < 0 then some (Bool.false) else (if y7 = x7 then some (Bool.true) else some (Bool.false))))) := (holdF_eq _ _).trans (by kernel_rfl)
noncomputable abbrev laws_FnExactParseEvent.sg (n : Nat) : Sig := { params := laws_FnExactParseEvent.ps, res := laws_FnExactParseEvent.res, run := laws_FnExactParseEvent n }
theorem laws_FnExactParseEvent.call : Callable Tryd.prog 9 := ⟨Tryd.f9, Tryd.func9, by kernel_rfl, by kernel_rfl⟩
theorem laws_FnExactParseEvent.ok (n : Nat) : FC Tryd.prog [g0, g2, g3, g4] 9 (laws_FnExactParseEvent.sg n) :=
  evalF_ok (C := laws_FnExactParseEvent.C) ⟨tb_ok, fun n _ _ h => tabOk (l := [(35, (spec_ParseEvent.sg n)), (36, (impl_ParseEvent.sg n)), (20, (laws_eqEvent.sg n)), (37, (laws_markEvent.sg n)), (38, (laws_heldEvent.sg n))]) (all_cons ⟨(.mono (gl := []) (gl' := [g0, g2, g3, g4]) (all_nil) (spec_ParseEvent.ok n)), spec_ParseEvent.call⟩ (all_cons ⟨impl_ParseEvent.ok n, impl_ParseEvent.call⟩ (all_cons ⟨(.mono (gl := []) (gl' := [g0, g2, g3, g4]) (all_nil) (laws_eqEvent.ok n)), laws_eqEvent.call⟩ (all_cons ⟨(.mono (gl := []) (gl' := [g0, g2, g3, g4]) (all_nil) (laws_markEvent.ok n)), laws_markEvent.call⟩ (all_cons ⟨(.mono (gl := []) (gl' := [g0, g2, g3, g4]) (all_nil) (laws_heldEvent.ok n)), laws_heldEvent.call⟩ (all_nil)))))) h, mixed, ar_ok, bld_ok, pts_ok⟩ laws_FnExactParseEvent.A Tryd.func9 laws_FnExactParseEvent.ps laws_FnExactParseEvent.res n
abbrev laws_szIntS.ps : List Pm := [.arg (.v (.slice (.int .i64))), .arg (.v (.int .i64))]
abbrev laws_szIntS.res : List M := [.v (.int .i64)]
noncomputable def laws_szIntS.C : Cfg := { tb := tb, tab := fun n f => Refl.look [] f, gl := [], ar := ar, bld := bld, pts := pts }
noncomputable def laws_szIntS.A : Ann := { joins := [], loops := [], ids := [], pids := [], nroots := 76 }
noncomputable def laws_szIntS (n : Nat) (x : List Int × Int) : Option (Int) := evalF laws_szIntS.C laws_szIntS.A Tryd.f51 laws_szIntS.ps laws_szIntS.res n x
noncomputable def laws_szIntS.K0 (_ : Nat) : Kont (Int) := finK laws_szIntS.C (Func.results Tryd.f51).toList laws_szIntS.ps laws_szIntS.res
theorem laws_szIntS.eq (n : Nat) (x0 : List Int) (x1 : Int) : laws_szIntS n (x0, x1) = (if Go.RowKit.wrap64 (x1 - (↑(List.length x0) : Int)) < 0 then some ((-1)) else some (Go.RowKit.wrap64 (x1 - (↑(List.length x0) : Int)))) := by kernel_rfl
noncomputable abbrev laws_szIntS.sg (n : Nat) : Sig := { params := laws_szIntS.ps, res := laws_szIntS.res, run := laws_szIntS n }
theorem laws_szIntS.call : Callable Tryd.prog 51 := ⟨Tryd.f51, Tryd.func51, by kernel_rfl, by kernel_rfl⟩
theorem laws_szIntS.ok (n : Nat) : FC Tryd.prog [] 51 (laws_szIntS.sg n) :=
  evalF_ok (C := laws_szIntS.C) ⟨tb_ok, fun n _ _ h => tabOk (l := []) (all_nil) h, mixed, ar_ok, bld_ok, pts_ok⟩ laws_szIntS.A Tryd.func51 laws_szIntS.ps laws_szIntS.res n
abbrev laws_szEvent.ps : List Pm := [.arg (.v (.pair (.int .i64) (.pair (.int .i64) (.pair (.int .i64) (.pair (.int .i64) (.pair (.slice (.int .i64)) (.pair (.int .i64) (.int .i64)))))))), .arg (.v (.int .i64))]
abbrev laws_szEvent.res : List M := [.v (.int .i64)]
noncomputable def laws_szEvent.C : Cfg := { tb := tb, tab := fun n f => Refl.look [(51, (laws_szIntS.sg n))] f, gl := [], ar := ar, bld := bld, pts := pts }
noncomputable def laws_szEvent.A : Ann := { joins := [], loops := [], ids := [(1, [(8, [])])], pids := [], nroots := 76 }
noncomputable def laws_szEvent (n : Nat) (x : (Int × Int × Int × Int × List Int × Int × Int) × Int) : Option (Int) := evalF laws_szEvent.C laws_szEvent.A Tryd.f16 laws_szEvent.ps laws_szEvent.res n x
noncomputable def laws_szEvent.K0 (_ : Nat) : Kont (Int) := finK laws_szEvent.C (Func.results Tryd.f16).toList laws_szEvent.ps laws_szEvent.res
theorem laws_szEvent.eq (n : Nat) (x0 : Int × Int × Int × Int × List Int × Int × Int) (x1 : Int) : laws_szEvent n (x0, x1) = ((laws_szIntS n (x0.2.2.2.2.1, x1)).bind fun y0 => (if y0 < 0 then some ((-1)) else some (y0))) := by kernel_rfl
noncomputable abbrev laws_szEvent.sg (n : Nat) : Sig := { params := laws_szEvent.ps, res := laws_szEvent.res, run := laws_szEvent n }
theorem laws_szEvent.call : Callable Tryd.prog 16 := ⟨Tryd.f16, Tryd.func16, by kernel_rfl, by kernel_rfl⟩
theorem laws_szEvent.ok (n : Nat) : FC Tryd.prog [] 16 (laws_szEvent.sg n) :=
  evalF_ok (C := laws_szEvent.C) ⟨tb_ok, fun n _ _ h => tabOk (l := [(51, (laws_szIntS.sg n))]) (all_cons ⟨laws_szIntS.ok n, laws_szIntS.call⟩ (all_nil)) h, mixed, ar_ok, bld_ok, pts_ok⟩ laws_szEvent.A Tryd.func16 laws_szEvent.ps laws_szEvent.res n
abbrev laws_toIntS.ps : List Pm := [.arg (.v (.slice (.int .i64)))]
abbrev laws_toIntS.res : List M := [(.own (.int .i64) 3)]
noncomputable def laws_toIntS.C : Cfg := { tb := tb, tab := fun n f => Refl.look [] f, gl := [], ar := ar, bld := bld, pts := pts }
noncomputable def laws_toIntS.A : Ann := { joins := [], loops := [(3, { live := [0, 3, 4], base := 22 })], ids := [], pids := [], nroots := 86 }
noncomputable def laws_toIntS (n : Nat) (x : List Int) : Option (List Int) := evalF laws_toIntS.C laws_toIntS.A Tryd.f53 laws_toIntS.ps laws_toIntS.res n x
noncomputable def laws_toIntS.K0 (_ : Nat) : Kont (List Int) := finK laws_toIntS.C (Func.results Tryd.f53).toList laws_toIntS.ps laws_toIntS.res
noncomputable def laws_toIntS.K1 (n : Nat) : Kont (List Int) := seqK (fun s' k => joinE laws_toIntS.A.joins (codeAt Tryd.f53 [1, 1, 1]) (fun s'' => evalC laws_toIntS.C laws_toIntS.A n (codeAt Tryd.f53 [1, 1, 1]) s'' k) s') (laws_toIntS.K0 n)
noncomputable def laws_toIntS.K2 (n : Nat) : Kont (List Int) := blockK 0 (laws_toIntS.K1 n)
noncomputable def laws_toIntS.l3 (n m3 : Nat) (x0 : List Int) (x4 : Int) (r22 : List Int) : Option (List Int) := loopE (cutAt laws_toIntS.A.loops (codeAt Tryd.f53 [1, 1, 0, 1, 0, 0])) (fun s k => evalC laws_toIntS.C laws_toIntS.A n (codeAt Tryd.f53 [1, 1, 0, 1, 0, 0]) s k) m3 (St.of 22 86 [(0, .val (.slice (.int .i64)) x0), (3, .own 22), (4, .val (.int .i64) x4)] [(22, .row (.int .i64) 3 r22)] []) (laws_toIntS.K2 n)
theorem laws_toIntS.eq (n : Nat) (x0 : List Int) : laws_toIntS n x0 = (if 0 ≤ (↑(List.length x0) : Int) then (if (↑(List.length x0) : Int) ≤ (↑(List.length x0) : Int) then (if (↑(List.length x0) : Int) ≤ (↑Go.Refl.maxN : Int) then laws_toIntS.l3 n n (x0) (0) (List.replicate (Int.toNat (↑(List.length x0) : Int)) 0) else none) else none) else none) := by kernel_rfl
theorem laws_toIntS.l3_zero (n : Nat) (x0 : List Int) (x4 : Int) (r22 : List Int) : laws_toIntS.l3 n 0 x0 x4 r22 = none := by kernel_rfl
theorem laws_toIntS.l3_succ (n m3 : Nat) (x0 : List Int) (x4 : Int) (r22 : List Int) : laws_toIntS.l3 n (m3 + 1) x0 x4 r22 = (if x4 < (↑(List.length x0) : Int) then (if 0 ≤ x4 then (if x4 < (↑(List.length x0) : Int) then (if 0 ≤ x4 then (if x4 < (↑(List.length r22) : Int) then laws_toIntS.l3 n m3 (x0) (Go.RowKit.wrap64 (x4 + 1)) (List.set r22 (Int.toNat x4) (List.getD x0 (Int.toNat x4) 0)) else none) else none) else none) else none) else some (r22)) := by kernel_rfl
noncomputable abbrev laws_toIntS.sg (n : Nat) : Sig := { params := laws_toIntS.ps, res := laws_toIntS.res, run := laws_toIntS n }
theorem laws_toIntS.call : Callable Tryd.prog 53 := ⟨Tryd.f53, Tryd.func53, by kernel_rfl, by kernel_rfl⟩
theorem laws_toIntS.ok (n : Nat) : FC Tryd.prog [] 53 (laws_toIntS.sg n) :=
  evalF_ok (C := laws_toIntS.C) ⟨tb_ok, fun n _ _ h => tabOk (l := []) (all_nil) h, mixed, ar_ok, bld_ok, pts_ok⟩ laws_toIntS.A Tryd.func53 laws_toIntS.ps laws_toIntS.res n
abbrev laws_toRate.ps : List Pm := [.arg (.v (.pair (.int .i64) (.int .i64)))]
abbrev laws_toRate.res : List M := [.v (.pair (.int .i64) (.int .i64))]
noncomputable def laws_toRate.C : Cfg := { tb := tb, tab := fun n f => Refl.look [] f, gl := [], ar := ar, bld := bld, pts := pts }
noncomputable def laws_toRate.A : Ann := { joins := [], loops := [], ids := [], pids := [], nroots := 75 }
noncomputable def laws_toRate (n : Nat) (x : Int × Int) : Option (Int × Int) := evalF laws_toRate.C laws_toRate.A Tryd.f54 laws_toRate.ps laws_toRate.res n x
noncomputable def laws_toRate.K0 (_ : Nat) : Kont (Int × Int) := finK laws_toRate.C (Func.results Tryd.f54).toList laws_toRate.ps laws_toRate.res
theorem laws_toRate.eq (n : Nat) (x0 : Int × Int) : laws_toRate n x0 = some ((x0.1, x0.2)) := by kernel_rfl
noncomputable abbrev laws_toRate.sg (n : Nat) : Sig := { params := laws_toRate.ps, res := laws_toRate.res, run := laws_toRate n }
theorem laws_toRate.call : Callable Tryd.prog 54 := ⟨Tryd.f54, Tryd.func54, by kernel_rfl, by kernel_rfl⟩
theorem laws_toRate.ok (n : Nat) : FC Tryd.prog [] 54 (laws_toRate.sg n) :=
  evalF_ok (C := laws_toRate.C) ⟨tb_ok, fun n _ _ h => tabOk (l := []) (all_nil) h, mixed, ar_ok, bld_ok, pts_ok⟩ laws_toRate.A Tryd.func54 laws_toRate.ps laws_toRate.res n
abbrev laws_toEvent.ps : List Pm := [.arg (.v (.pair (.int .i64) (.pair (.int .i64) (.pair (.int .i64) (.pair (.int .i64) (.pair (.slice (.int .i64)) (.pair (.int .i64) (.int .i64))))))))]
abbrev laws_toEvent.res : List M := [.v (.pair (.int .i64) (.pair (.int .i64) (.pair (.int .i64) (.pair (.int .i64) (.pair (.slice (.int .i64)) (.pair (.int .i64) (.int .i64)))))))]
noncomputable def laws_toEvent.C : Cfg := { tb := tb, tab := fun n f => Refl.look [(53, (laws_toIntS.sg n)), (54, (laws_toRate.sg n))] f, gl := [], ar := ar, bld := bld, pts := pts }
noncomputable def laws_toEvent.A : Ann := { joins := [], loops := [], ids := [(7, [(22, [])])], pids := [], nroots := 89 }
noncomputable def laws_toEvent (n : Nat) (x : Int × Int × Int × Int × List Int × Int × Int) : Option (Int × Int × Int × Int × List Int × Int × Int) := evalF laws_toEvent.C laws_toEvent.A Tryd.f18 laws_toEvent.ps laws_toEvent.res n x
noncomputable def laws_toEvent.K0 (_ : Nat) : Kont (Int × Int × Int × Int × List Int × Int × Int) := finK laws_toEvent.C (Func.results Tryd.f18).toList laws_toEvent.ps laws_toEvent.res
theorem laws_toEvent.eq (n : Nat) (x0 : Int × Int × Int × Int × List Int × Int × Int) : laws_toEvent n x0 = ((laws_toIntS n x0.2.2.2.2.1).bind fun y0 => ((laws_toRate n (x0.2.2.2.2.2.1, x0.2.2.2.2.2.2)).bind fun y1 => some ((x0.1, x0.2.1, x0.2.2.1, x0.2.2.2.1, y0, y1.1, y1.2)))) := by kernel_rfl
noncomputable abbrev laws_toEvent.sg (n : Nat) : Sig := { params := laws_toEvent.ps, res := laws_toEvent.res, run := laws_toEvent n }
theorem laws_toEvent.call : Callable Tryd.prog 18 := ⟨Tryd.f18, Tryd.func18, by kernel_rfl, by kernel_rfl⟩
theorem laws_toEvent.ok (n : Nat) : FC Tryd.prog [] 18 (laws_toEvent.sg n) :=
  evalF_ok (C := laws_toEvent.C) ⟨tb_ok, fun n _ _ h => tabOk (l := [(53, (laws_toIntS.sg n)), (54, (laws_toRate.sg n))]) (all_cons ⟨laws_toIntS.ok n, laws_toIntS.call⟩ (all_cons ⟨laws_toRate.ok n, laws_toRate.call⟩ (all_nil))) h, mixed, ar_ok, bld_ok, pts_ok⟩ laws_toEvent.A Tryd.func18 laws_toEvent.ps laws_toEvent.res n
abbrev spec_FormatEvent.ps : List Pm := [.arg (.v (.pair (.int .i64) (.pair (.int .i64) (.pair (.int .i64) (.pair (.int .i64) (.pair (.slice (.int .i64)) (.pair (.int .i64) (.int .i64))))))))]
abbrev spec_FormatEvent.res : List M := [.v .str]
noncomputable def spec_FormatEvent.C : Cfg := { tb := tb, tab := fun n f => Refl.look [(52, (spec_showEvent.sg n))] f, gl := [], ar := ar, bld := bld, pts := pts }
noncomputable def spec_FormatEvent.A : Ann := { joins := [], loops := [], ids := [(1, [(4, [])])], pids := [], nroots := 69 }
noncomputable def spec_FormatEvent (n : Nat) (x : Int × Int × Int × Int × List Int × Int × Int) : Option (ByteArray) := evalF spec_FormatEvent.C spec_FormatEvent.A Tryd.f17 spec_FormatEvent.ps spec_FormatEvent.res n x
noncomputable def spec_FormatEvent.K0 (_ : Nat) : Kont (ByteArray) := finK spec_FormatEvent.C (Func.results Tryd.f17).toList spec_FormatEvent.ps spec_FormatEvent.res
theorem spec_FormatEvent.eq (n : Nat) (x0 : Int × Int × Int × Int × List Int × Int × Int) : spec_FormatEvent n x0 = ((spec_showEvent n (x0.1, x0.2.1, x0.2.2.1, x0.2.2.2.1, x0.2.2.2.2.1, x0.2.2.2.2.2.1, x0.2.2.2.2.2.2)).bind fun y0 => some (y0)) := by kernel_rfl
noncomputable abbrev spec_FormatEvent.sg (n : Nat) : Sig := { params := spec_FormatEvent.ps, res := spec_FormatEvent.res, run := spec_FormatEvent n }
theorem spec_FormatEvent.call : Callable Tryd.prog 17 := ⟨Tryd.f17, Tryd.func17, by kernel_rfl, by kernel_rfl⟩
theorem spec_FormatEvent.ok (n : Nat) : FC Tryd.prog [] 17 (spec_FormatEvent.sg n) :=
  evalF_ok (C := spec_FormatEvent.C) ⟨tb_ok, fun n _ _ h => tabOk (l := [(52, (spec_showEvent.sg n))]) (all_cons ⟨spec_showEvent.ok n, spec_showEvent.call⟩ (all_nil)) h, mixed, ar_ok, bld_ok, pts_ok⟩ spec_FormatEvent.A Tryd.func17 spec_FormatEvent.ps spec_FormatEvent.res n
abbrev laws_FnExactFormatEvent.ps : List Pm := [.arg (.v (.pair (.int .i64) (.pair (.int .i64) (.pair (.int .i64) (.pair (.int .i64) (.pair (.slice (.int .i64)) (.pair (.int .i64) (.int .i64))))))))]
abbrev laws_FnExactFormatEvent.res : List M := [.v .bool]
noncomputable def laws_FnExactFormatEvent.C : Cfg := { tb := tb, tab := fun n f => Refl.look [(16, (laws_szEvent.sg n)), (18, (laws_toEvent.sg n)), (17, (spec_FormatEvent.sg n)), (19, (impl_FormatEvent.sg n)), (20, (laws_eqEvent.sg n))] f, gl := [g0, g2], ar := ar, bld := bld, pts := pts }
noncomputable def laws_FnExactFormatEvent.A : Ann := { joins := [], loops := [], ids := [(2, [(9, [])]), (5, [(13, []), (14, [])]), (6, [(16, [])]), (7, [(18, [])]), (10, [(24, []), (25, [])])], pids := [], nroots := 91 }
noncomputable def laws_FnExactFormatEvent (n : Nat) (x : Int × Int × Int × Int × List Int × Int × Int) : Option (Bool) := evalF laws_FnExactFormatEvent.C laws_FnExactFormatEvent.A Tryd.f4 laws_FnExactFormatEvent.ps laws_FnExactFormatEvent.res n x
noncomputable def laws_FnExactFormatEvent.K0 (_ : Nat) : Kont (Bool) := finK laws_FnExactFormatEvent.C (Func.results Tryd.f4).toList laws_FnExactFormatEvent.ps laws_FnExactFormatEvent.res
theorem laws_FnExactFormatEvent.eq (n : Nat) (x0 : Int × Int × Int × Int × List Int × Int × Int) : laws_FnExactFormatEvent n x0 = ((laws_szEvent n ((x0.1, x0.2.1, x0.2.2.1, x0.2.2.2.1, x0.2.2.2.2.1, x0.2.2.2.2.2.1, x0.2.2.2.2.2.2), 1048576)).bind fun y0 => (if y0 < 0 then some (Bool.true) else ((laws_toEvent n (x0.1, x0.2.1, x0.2.2.1, x0.2.2.2.1, x0.2.2.2.2.1, x0.2.2.2.2.2.1, x0.2.2.2.2.2.2)).bind fun y1 => ((spec_FormatEvent n y1).bind fun y2 => ((laws_toEvent n (x0.1, x0.2.1, x0.2.2.1, x0.2.2.2.1, x0.2.2.2.2.1, x0.2.2.2.2.2.1, x0.2.2.2.2.2.2)).bind fun y3 => ((impl_FormatEvent n (y3.1, y3.2.1, y3.2.2.1, y3.2.2.2.1, y3.2.2.2.2.1, y3.2.2.2.2.2.1, y3.2.2.2.2.2.2)).bind fun y4 => (if y4 = y2 then ((laws_toEvent n (x0.1, x0.2.1, x0.2.2.1, x0.2.2.2.1, x0.2.2.2.2.1, x0.2.2.2.2.2.1, x0.2.2.2.2.2.2)).bind fun y5 => ((laws_eqEvent n ((y3.1, y3.2.1, y3.2.2.1, y3.2.2.2.1, y3.2.2.2.2.1, y3.2.2.2.2.2.1, y3.2.2.2.2.2.2), y5)).bind fun y6 => (if (!y6) = true then some (Bool.false) else some (Bool.true)))) else some (Bool.false)))))))) := by kernel_rfl
noncomputable abbrev laws_FnExactFormatEvent.sg (n : Nat) : Sig := { params := laws_FnExactFormatEvent.ps, res := laws_FnExactFormatEvent.res, run := laws_FnExactFormatEvent n }
theorem laws_FnExactFormatEvent.call : Callable Tryd.prog 4 := ⟨Tryd.f4, Tryd.func4, by kernel_rfl, by kernel_rfl⟩
theorem laws_FnExactFormatEvent.ok (n : Nat) : FC Tryd.prog [g0, g2] 4 (laws_FnExactFormatEvent.sg n) :=
  evalF_ok (C := laws_FnExactFormatEvent.C) ⟨tb_ok, fun n _ _ h => tabOk (l := [(16, (laws_szEvent.sg n)), (18, (laws_toEvent.sg n)), (17, (spec_FormatEvent.sg n)), (19, (impl_FormatEvent.sg n)), (20, (laws_eqEvent.sg n))]) (all_cons ⟨(.mono (gl := []) (gl' := [g0, g2]) (all_nil) (laws_szEvent.ok n)), laws_szEvent.call⟩ (all_cons ⟨(.mono (gl := []) (gl' := [g0, g2]) (all_nil) (laws_toEvent.ok n)), laws_toEvent.call⟩ (all_cons ⟨(.mono (gl := []) (gl' := [g0, g2]) (all_nil) (spec_FormatEvent.ok n)), spec_FormatEvent.call⟩ (all_cons ⟨impl_FormatEvent.ok n, impl_FormatEvent.call⟩ (all_cons ⟨(.mono (gl := []) (gl' := [g0, g2]) (all_nil) (laws_eqEvent.ok n)), laws_eqEvent.call⟩ (all_nil)))))) h, mixed, ar_ok, bld_ok, pts_ok⟩ laws_FnExactFormatEvent.A Tryd.func4 laws_FnExactFormatEvent.ps laws_FnExactFormatEvent.res n
end Go.Proofs.YtpgfkoeodhfkgaaDoorG
end
