import Derived.Test.YtbgamdkmlikgjaaGreatDoorProg
import Derived.Test.YtbgamdkmlikgjaaGreatDoorB2
/- FnRunDeskBox: functions,gone through by the small machine. No condition. -/
set_option linter.unusedVariables false
set_option linter.unusedSimpArgs false
section
set_option linter.unusedVariables false
namespace Go.Proofs
open Go Go.Shelf Go.RowKit Go.Refl
set_option maxHeartbeats 2000000 in
set_option maxRecDepth 100000 in
theorem Tryz.cc:CcOk Tryz.prog 53 58:=by
 intro b p v w hbk hp
 have X1:(Tryz.prog.info? 58).map (·.size)=some 2:=by kernel_rfl
 have X2:liesAt Tryz.prog Tryz.prog.depth 58 (2 / Tryz.prog.cellsOf 58) 0 58 1=true:=by kernel_rfl
 obtain ⟨j,hj,hjs⟩:=Option.map_eq_some_iff.1 X1
 have u72:=run_underlying (P:=Tryz.prog) Tryz.underlying58
 have u70:=run_underlying (P:=Tryz.prog) Tryz.underlying56
 have u164:=run_underlying (P:=Tryz.prog) Tryz.underlying116
 rcases hp with rfl | rfl
 ·have h0:w.cell? ⟨b,0,none⟩=some (.pointer none):=by rw[Lib.cell_of_heap hbk];rfl
  have hsh:w.shape? b=some (58,2):=by simp[World.shape?,hbk]
  have hfz:w.frozen? ⟨b,0,none⟩=false:=Lib.frozen_of_heap hbk 0
  suffices hs:Calls Tryz.prog 53 #[.pointer (some ⟨b,0,none⟩)] w fun e w'=>e=.returned (.tuple #[])∧w'=w.setCell ⟨b,0,none⟩ (.pointer (some ⟨b,0,none⟩)) by
   refine hs.mono ?_
   rintro e w' ⟨rfl,rfl⟩
   exact ⟨rfl,by simp[World.setCell,Array.getElem?_modify,hbk],evol_set w b 0 _,by simp[World.setCell]⟩
  go_enter Tryz.func53,Tryz.ntmps53
  go_wp2
  rw[Lib.run_to_unsafe w ⟨b,0,none⟩ Tryz.underlying56 Tryz.underlying116 hj (by rw[hjs];decide) hsh (Nat.zero_lt_succ 1)]
  simp only[Result.andThen]
  rw[Oper.upon_value]
  go_wp2
  rw[run_callFunc_extern Tryz.func90 (by kernel_rfl) (by kernel_rfl) (by kernel_rfl) (e:=Extern.AbiNoEscape.same) (by kernel_rfl)]
  rw[Lib.run_noEscape]
  simp only[Result.andThen]
  rw[Oper.upon_value]
  go_wp2
  rw[Lib.run_from_unsafe w ⟨b,0,none⟩ Tryz.underlying116 Tryz.underlying56 hj hsh X2]
  simp only[Result.andThen]
  rw[Oper.upon_value]
  go_wp2
  go_end0
  exact ⟨rfl,rfl⟩
 ·have h0:w.cell? ⟨b,0,none⟩=some (.pointer (some ⟨b,0,none⟩)):=by rw[Lib.cell_of_heap hbk];rfl
  suffices hs:Calls Tryz.prog 53 #[.pointer (some ⟨b,0,none⟩)] w fun e w'=>e=.returned (.tuple #[])∧w'=w by
   refine hs.mono ?_
   rintro e w' ⟨rfl,rfl⟩
   exact ⟨rfl,hbk,⟨rfl,rfl,rfl,Nat.le_refl _,fun _ _ _=>rfl⟩,rfl⟩
  go_enter Tryz.func53,Tryz.ntmps53
  go_wp2
  rw[Lib.run_neq_ptr_same w _ Tryz.underlying56 hj]
  go_wp2
  go_end0
  exact ⟨rfl,rfl⟩
def Tryz.lays169_ren:Go.Shelf.Ren:=⟨fun | 169=>27 | n=>n,fun | 70=>56 | 9=>9 | 0=>0 | 72=>58 | 37=>22 | 127=>94 | 3=>3 | 5=>5 | n=>n,fun | n=>n⟩
theorem Tryz.lays169:Go.Proofs.Lays.n169 Tryz.prog Tryz.lays169_ren:={
 mixed:=by kernel_rfl
 f169:=Tryz.func27.trans (congrArg some (by kernel_rfl))
 t0:=Tryz.underlying0
 a0:=Tryz.isAgg0
 z0:=Tryz.sizeOf0
 v0:=Tryz.zeroValue0
 t3:=Tryz.underlying3
 a3:=Tryz.isAgg3
 z3:=Tryz.sizeOf3
 v3:=Tryz.zeroValue3
 t9:=Tryz.underlying9
 a9:=Tryz.isAgg9
 z9:=Tryz.sizeOf9
 v9:=Tryz.zeroValue9
 t37:=Tryz.underlying22
 a37:=Tryz.isAgg22
 z37:=Tryz.sizeOf22
 v37:=Tryz.zeroValue22
 t70:=Tryz.underlying56
 a70:=Tryz.isAgg56
 z70:=Tryz.sizeOf56
 v70:=Tryz.zeroValue56
 t72:=Tryz.underlying58
 a72:=Tryz.isAgg58
 z72:=Tryz.sizeOf58
 v72:=Tryz.zeroValue58
 t127:=Tryz.underlying94
 a127:=Tryz.isAgg94
 z127:=Tryz.sizeOf94
 v127:=Tryz.zeroValue94 }
theorem Tryz.Builder_Extra_169:Builder.Extra Tryz.prog Tryz.lays169_ren:={
 sizeBuilder:=by kernel_rfl
 liesBuilder:=by kernel_rfl
 t5:=Tryz.underlying5
 a5:=Tryz.isAgg5
 z5:=Tryz.sizeOf5
 v5:=Tryz.zeroValue5
 infoByte:=by kernel_rfl
 cellsByte:=by kernel_rfl
 sizeByte:=by kernel_rfl
 neB5:=by decide }
def Tryz.laysM171_ren:Go.Shelf.Ren:=⟨fun | 171=>42 | 243=>83 | 246=>123 | 283=>152 | 284=>153 | 285=>154 | 286=>155 | 129=>173 | 317=>172 | 318=>174 | 319=>175 | 320=>176 | 337=>185 | 338=>186 | n=>n,fun | 3=>3 | 9=>9 | 2=>2 | 4=>4 | 171=>153 | 0=>0 | 53=>154 | 37=>22 | 5=>5 | 173=>157 | 212=>175 | 51=>169 | 20=>20 | 213=>176 | 46=>150 | 232=>196 | 233=>197 | n=>n,fun | 17=>2 | 18=>7 | 19=>8 | n=>n⟩
theorem Tryz.laysM171:Go.Proofs.LaysM.n171 Tryz.prog Tryz.laysM171_ren:={
 mixed:=by kernel_rfl
 f129:=Tryz.func173.trans (congrArg some (by kernel_rfl))
 f171:=Tryz.func42.trans (congrArg some (by kernel_rfl))
 f243:=Tryz.func83.trans (congrArg some (by kernel_rfl))
 f246:=Tryz.func123.trans (congrArg some (by kernel_rfl))
 f283:=Tryz.func152.trans (congrArg some (by kernel_rfl))
 f284:=Tryz.func153.trans (congrArg some (by kernel_rfl))
 f285:=Tryz.func154.trans (congrArg some (by kernel_rfl))
 f286:=Tryz.func155.trans (congrArg some (by kernel_rfl))
 f317:=Tryz.func172.trans (congrArg some (by kernel_rfl))
 f318:=Tryz.func174.trans (congrArg some (by kernel_rfl))
 f319:=Tryz.func175.trans (congrArg some (by kernel_rfl))
 f320:=Tryz.func176.trans (congrArg some (by kernel_rfl))
 f337:=Tryz.func185.trans (congrArg some (by kernel_rfl))
 f338:=Tryz.func186.trans (congrArg some (by kernel_rfl))
 t0:=Tryz.underlying0
 a0:=Tryz.isAgg0
 z0:=Tryz.sizeOf0
 v0:=Tryz.zeroValue0
 t2:=Tryz.underlying2
 a2:=Tryz.isAgg2
 z2:=Tryz.sizeOf2
 v2:=Tryz.zeroValue2
 t3:=Tryz.underlying3
 a3:=Tryz.isAgg3
 z3:=Tryz.sizeOf3
 v3:=Tryz.zeroValue3
 t4:=Tryz.underlying4
 a4:=Tryz.isAgg4
 z4:=Tryz.sizeOf4
 v4:=Tryz.zeroValue4
 t5:=Tryz.underlying5
 a5:=Tryz.isAgg5
 z5:=Tryz.sizeOf5
 v5:=Tryz.zeroValue5
 t9:=Tryz.underlying9
 a9:=Tryz.isAgg9
 z9:=Tryz.sizeOf9
 v9:=Tryz.zeroValue9
 t20:=Tryz.underlying20
 a20:=Tryz.isAgg20
 z20:=Tryz.sizeOf20
 v20:=Tryz.zeroValue20
 t37:=Tryz.underlying22
 a37:=Tryz.isAgg22
 z37:=Tryz.sizeOf22
 v37:=Tryz.zeroValue22
 t46:=Tryz.underlying150
 a46:=Tryz.isAgg150
 z46:=Tryz.sizeOf150
 v46:=Tryz.zeroValue150
 t51:=Tryz.underlying169
 a51:=Tryz.isAgg169
 z51:=Tryz.sizeOf169
 v51:=Tryz.zeroValue169
 t53:=Tryz.underlying154
 a53:=Tryz.isAgg154
 z53:=Tryz.sizeOf154
 v53:=Tryz.zeroValue154
 t171:=Tryz.underlying153
 a171:=Tryz.isAgg153
 z171:=Tryz.sizeOf153
 v171:=Tryz.zeroValue153
 t173:=Tryz.underlying157
 a173:=Tryz.isAgg157
 z173:=Tryz.sizeOf157
 v173:=Tryz.zeroValue157
 t212:=Tryz.underlying175
 a212:=Tryz.isAgg175
 z212:=Tryz.sizeOf175
 v212:=Tryz.zeroValue175
 t213:=Tryz.underlying176
 a213:=Tryz.isAgg176
 z213:=Tryz.sizeOf176
 t232:=Tryz.underlying196
 a232:=Tryz.isAgg196
 z232:=Tryz.sizeOf196
 v232:=Tryz.zeroValue196
 t233:=Tryz.underlying197
 a233:=Tryz.isAgg197
 z233:=Tryz.sizeOf197
 v233:=Tryz.zeroValue197
 g17:=by kernel_rfl
 g18:=by kernel_rfl
 g19:=by kernel_rfl
 i0:=by kernel_rfl
 i2:=by kernel_rfl
 i3:=by kernel_rfl
 i4:=by kernel_rfl
 i5:=by kernel_rfl
 i9:=by kernel_rfl
 i20:=by kernel_rfl
 i37:=by kernel_rfl
 i46:=by kernel_rfl
 i51:=by kernel_rfl
 i53:=by kernel_rfl
 i171:=by kernel_rfl
 i173:=by kernel_rfl
 i212:=by kernel_rfl
 i232:=by kernel_rfl
 i233:=by kernel_rfl
 m17:=by kernel_rfl
 m18:=by kernel_rfl
 m19:=by kernel_rfl }
def Tryz.lays143_ren:Go.Shelf.Ren:=⟨fun | 143=>149 | 219=>117 | 217=>143 | 225=>144 | 224=>145 | 267=>146 | 266=>167 | 314=>168 | n=>n,fun | 9=>9 | 3=>3 | 4=>4 | 5=>5 | 46=>150 | 146=>170 | 51=>169 | n=>n,fun | 1=>1 | n=>n⟩
theorem Tryz.lays143:Go.Proofs.Lays.n143 Tryz.prog Tryz.lays143_ren:={
 mixed:=by kernel_rfl
 f143:=Tryz.func149.trans (congrArg some (by kernel_rfl))
 f217:=Tryz.func143.trans (congrArg some (by kernel_rfl))
 f219:=Tryz.func117.trans (congrArg some (by kernel_rfl))
 f224:=Tryz.func145.trans (congrArg some (by kernel_rfl))
 f225:=Tryz.func144.trans (congrArg some (by kernel_rfl))
 f266:=Tryz.func167.trans (congrArg some (by kernel_rfl))
 f267:=Tryz.func146.trans (congrArg some (by kernel_rfl))
 f314:=Tryz.func168.trans (congrArg some (by kernel_rfl))
 t3:=Tryz.underlying3
 a3:=Tryz.isAgg3
 z3:=Tryz.sizeOf3
 v3:=Tryz.zeroValue3
 t4:=Tryz.underlying4
 a4:=Tryz.isAgg4
 z4:=Tryz.sizeOf4
 v4:=Tryz.zeroValue4
 t5:=Tryz.underlying5
 a5:=Tryz.isAgg5
 z5:=Tryz.sizeOf5
 v5:=Tryz.zeroValue5
 t9:=Tryz.underlying9
 a9:=Tryz.isAgg9
 z9:=Tryz.sizeOf9
 v9:=Tryz.zeroValue9
 t46:=Tryz.underlying150
 a46:=Tryz.isAgg150
 z46:=Tryz.sizeOf150
 v46:=Tryz.zeroValue150
 t51:=Tryz.underlying169
 a51:=Tryz.isAgg169
 z51:=Tryz.sizeOf169
 v51:=Tryz.zeroValue169
 t146:=Tryz.underlying170
 a146:=Tryz.isAgg170
 z146:=Tryz.sizeOf170
 v146:=Tryz.zeroValue170
 g1:=by kernel_rfl }
def Tryz.lays219_ren:Go.Shelf.Ren:=⟨fun | 219=>117 | 217=>143 | 225=>144 | 224=>145 | 267=>146 | 266=>167 | 314=>168 | n=>n,fun | 9=>9 | 3=>3 | 4=>4 | 5=>5 | 46=>150 | 146=>170 | 51=>169 | n=>n,fun | 1=>1 | n=>n⟩
theorem Tryz.lays219:Go.Proofs.Lays.n219 Tryz.prog Tryz.lays219_ren:={
 mixed:=by kernel_rfl
 f217:=Tryz.func143.trans (congrArg some (by kernel_rfl))
 f219:=Tryz.func117.trans (congrArg some (by kernel_rfl))
 f224:=Tryz.func145.trans (congrArg some (by kernel_rfl))
 f225:=Tryz.func144.trans (congrArg some (by kernel_rfl))
 f266:=Tryz.func167.trans (congrArg some (by kernel_rfl))
 f267:=Tryz.func146.trans (congrArg some (by kernel_rfl))
 f314:=Tryz.func168.trans (congrArg some (by kernel_rfl))
 t3:=Tryz.underlying3
 a3:=Tryz.isAgg3
 z3:=Tryz.sizeOf3
 v3:=Tryz.zeroValue3
 t4:=Tryz.underlying4
 a4:=Tryz.isAgg4
 z4:=Tryz.sizeOf4
 v4:=Tryz.zeroValue4
 t5:=Tryz.underlying5
 a5:=Tryz.isAgg5
 z5:=Tryz.sizeOf5
 v5:=Tryz.zeroValue5
 t9:=Tryz.underlying9
 a9:=Tryz.isAgg9
 z9:=Tryz.sizeOf9
 v9:=Tryz.zeroValue9
 t46:=Tryz.underlying150
 a46:=Tryz.isAgg150
 z46:=Tryz.sizeOf150
 v46:=Tryz.zeroValue150
 t51:=Tryz.underlying169
 a51:=Tryz.isAgg169
 z51:=Tryz.sizeOf169
 v51:=Tryz.zeroValue169
 t146:=Tryz.underlying170
 a146:=Tryz.isAgg170
 z146:=Tryz.sizeOf170
 v146:=Tryz.zeroValue170
 g1:=by kernel_rfl }
def Tryz.lays138_ren:Go.Shelf.Ren:=⟨fun | 138=>148 | 195=>169 | 218=>171 | 143=>149 | 219=>117 | 217=>143 | 225=>144 | 224=>145 | 267=>146 | 266=>167 | 314=>168 | n=>n,fun | 9=>9 | 3=>3 | 4=>4 | 5=>5 | 0=>0 | 46=>150 | 146=>170 | 51=>169 | n=>n,fun | 1=>1 | n=>n⟩
theorem Tryz.lays138:Go.Proofs.Lays.n138 Tryz.prog Tryz.lays138_ren:={
 mixed:=by kernel_rfl
 f138:=Tryz.func148.trans (congrArg some (by kernel_rfl))
 f143:=Tryz.func149.trans (congrArg some (by kernel_rfl))
 f195:=Tryz.func169.trans (congrArg some (by kernel_rfl))
 f217:=Tryz.func143.trans (congrArg some (by kernel_rfl))
 f218:=Tryz.func171.trans (congrArg some (by kernel_rfl))
 f219:=Tryz.func117.trans (congrArg some (by kernel_rfl))
 f224:=Tryz.func145.trans (congrArg some (by kernel_rfl))
 f225:=Tryz.func144.trans (congrArg some (by kernel_rfl))
 f266:=Tryz.func167.trans (congrArg some (by kernel_rfl))
 f267:=Tryz.func146.trans (congrArg some (by kernel_rfl))
 f314:=Tryz.func168.trans (congrArg some (by kernel_rfl))
 t0:=Tryz.underlying0
 a0:=Tryz.isAgg0
 z0:=Tryz.sizeOf0
 v0:=Tryz.zeroValue0
 t3:=Tryz.underlying3
 a3:=Tryz.isAgg3
 z3:=Tryz.sizeOf3
 v3:=Tryz.zeroValue3
 t4:=Tryz.underlying4
 a4:=Tryz.isAgg4
 z4:=Tryz.sizeOf4
 v4:=Tryz.zeroValue4
 t5:=Tryz.underlying5
 a5:=Tryz.isAgg5
 z5:=Tryz.sizeOf5
 v5:=Tryz.zeroValue5
 t9:=Tryz.underlying9
 a9:=Tryz.isAgg9
 z9:=Tryz.sizeOf9
 v9:=Tryz.zeroValue9
 t46:=Tryz.underlying150
 a46:=Tryz.isAgg150
 z46:=Tryz.sizeOf150
 v46:=Tryz.zeroValue150
 t51:=Tryz.underlying169
 a51:=Tryz.isAgg169
 z51:=Tryz.sizeOf169
 v51:=Tryz.zeroValue169
 t146:=Tryz.underlying170
 a146:=Tryz.isAgg170
 z146:=Tryz.sizeOf170
 v146:=Tryz.zeroValue170
 g1:=by kernel_rfl }
def Tryz.laysC172_ren:Go.Shelf.Ren:=⟨fun | 172=>128 | 244=>157 | 245=>158 | 247=>177 | 279=>178 | 280=>179 | 281=>180 | 282=>181 | 287=>187 | 316=>188 | 171=>42 | 205=>189 | 321=>191 | 322=>192 | 243=>83 | 246=>123 | 283=>152 | 284=>153 | 285=>154 | 286=>155 | 129=>173 | 317=>172 | 318=>174 | 319=>175 | 320=>176 | 337=>185 | 338=>186 | n=>n,fun | 9=>9 | 3=>3 | 75=>60 | 76=>61 | 4=>4 | 5=>5 | 167=>178 | 37=>22 | 0=>0 | 85=>179 | 2=>2 | 168=>181 | 53=>154 | 175=>186 | 46=>150 | 210=>190 | 127=>94 | 145=>201 | 143=>199 | 21=>21 | 171=>153 | 173=>157 | 212=>175 | 51=>169 | 20=>20 | 213=>176 | 232=>196 | 233=>197 | 80=>64 | n=>n,fun | 15=>3 | 16=>4 | 17=>2 | 18=>7 | 19=>8 | n=>n⟩
theorem Tryz.laysC172:Go.Proofs.LaysC.n172 Tryz.prog Tryz.laysC172_ren:={
 mixed:=by kernel_rfl
 f129:=Tryz.func173.trans (congrArg some (by kernel_rfl))
 f171:=Tryz.func42.trans (congrArg some (by kernel_rfl))
 f172:=Tryz.func128.trans (congrArg some (by kernel_rfl))
 f205:=Tryz.func189.trans (congrArg some (by kernel_rfl))
 f243:=Tryz.func83.trans (congrArg some (by kernel_rfl))
 f244:=Tryz.func157.trans (congrArg some (by kernel_rfl))
 f245:=Tryz.func158.trans (congrArg some (by kernel_rfl))
 f246:=Tryz.func123.trans (congrArg some (by kernel_rfl))
 f247:=Tryz.func177.trans (congrArg some (by kernel_rfl))
 f279:=Tryz.func178.trans (congrArg some (by kernel_rfl))
 f280:=Tryz.func179.trans (congrArg some (by kernel_rfl))
 f281:=Tryz.func180.trans (congrArg some (by kernel_rfl))
 f282:=Tryz.func181.trans (congrArg some (by kernel_rfl))
 f283:=Tryz.func152.trans (congrArg some (by kernel_rfl))
 f284:=Tryz.func153.trans (congrArg some (by kernel_rfl))
 f285:=Tryz.func154.trans (congrArg some (by kernel_rfl))
 f286:=Tryz.func155.trans (congrArg some (by kernel_rfl))
 f287:=Tryz.func187.trans (congrArg some (by kernel_rfl))
 f316:=Tryz.func188.trans (congrArg some (by kernel_rfl))
 f317:=Tryz.func172.trans (congrArg some (by kernel_rfl))
 f318:=Tryz.func174.trans (congrArg some (by kernel_rfl))
 f319:=Tryz.func175.trans (congrArg some (by kernel_rfl))
 f320:=Tryz.func176.trans (congrArg some (by kernel_rfl))
 f321:=Tryz.func191.trans (congrArg some (by kernel_rfl))
 f322:=Tryz.func192.trans (congrArg some (by kernel_rfl))
 f337:=Tryz.func185.trans (congrArg some (by kernel_rfl))
 f338:=Tryz.func186.trans (congrArg some (by kernel_rfl))
 t0:=Tryz.underlying0
 a0:=Tryz.isAgg0
 z0:=Tryz.sizeOf0
 v0:=Tryz.zeroValue0
 t2:=Tryz.underlying2
 a2:=Tryz.isAgg2
 z2:=Tryz.sizeOf2
 v2:=Tryz.zeroValue2
 t3:=Tryz.underlying3
 a3:=Tryz.isAgg3
 z3:=Tryz.sizeOf3
 v3:=Tryz.zeroValue3
 t4:=Tryz.underlying4
 a4:=Tryz.isAgg4
 z4:=Tryz.sizeOf4
 v4:=Tryz.zeroValue4
 t5:=Tryz.underlying5
 a5:=Tryz.isAgg5
 z5:=Tryz.sizeOf5
 v5:=Tryz.zeroValue5
 t9:=Tryz.underlying9
 a9:=Tryz.isAgg9
 z9:=Tryz.sizeOf9
 v9:=Tryz.zeroValue9
 t20:=Tryz.underlying20
 a20:=Tryz.isAgg20
 z20:=Tryz.sizeOf20
 v20:=Tryz.zeroValue20
 t21:=Tryz.underlying21
 a21:=Tryz.isAgg21
 z21:=Tryz.sizeOf21
 v21:=Tryz.zeroValue21
 t37:=Tryz.underlying22
 a37:=Tryz.isAgg22
 z37:=Tryz.sizeOf22
 v37:=Tryz.zeroValue22
 t46:=Tryz.underlying150
 a46:=Tryz.isAgg150
 z46:=Tryz.sizeOf150
 v46:=Tryz.zeroValue150
 t51:=Tryz.underlying169
 a51:=Tryz.isAgg169
 z51:=Tryz.sizeOf169
 v51:=Tryz.zeroValue169
 t53:=Tryz.underlying154
 a53:=Tryz.isAgg154
 z53:=Tryz.sizeOf154
 v53:=Tryz.zeroValue154
 t75:=Tryz.underlying60
 a75:=Tryz.isAgg60
 z75:=Tryz.sizeOf60
 v75:=Tryz.zeroValue60
 t76:=Tryz.underlying61
 a76:=Tryz.isAgg61
 z76:=Tryz.sizeOf61
 v76:=Tryz.zeroValue61
 t85:=Tryz.underlying179
 a85:=Tryz.isAgg179
 z85:=Tryz.sizeOf179
 v85:=Tryz.zeroValue179
 t127:=Tryz.underlying94
 a127:=Tryz.isAgg94
 z127:=Tryz.sizeOf94
 v127:=Tryz.zeroValue94
 t143:=Tryz.underlying199
 a143:=Tryz.isAgg199
 z143:=Tryz.sizeOf199
 v143:=Tryz.zeroValue199
 t145:=Tryz.underlying201
 a145:=Tryz.isAgg201
 z145:=Tryz.sizeOf201
 v145:=Tryz.zeroValue201
 t167:=Tryz.underlying178
 a167:=Tryz.isAgg178
 z167:=Tryz.sizeOf178
 v167:=Tryz.zeroValue178
 t168:=Tryz.underlying181
 a168:=Tryz.isAgg181
 z168:=Tryz.sizeOf181
 v168:=Tryz.zeroValue181
 t171:=Tryz.underlying153
 a171:=Tryz.isAgg153
 z171:=Tryz.sizeOf153
 v171:=Tryz.zeroValue153
 t173:=Tryz.underlying157
 a173:=Tryz.isAgg157
 z173:=Tryz.sizeOf157
 v173:=Tryz.zeroValue157
 t175:=Tryz.underlying186
 a175:=Tryz.isAgg186
 z175:=Tryz.sizeOf186
 v175:=Tryz.zeroValue186
 t210:=Tryz.underlying190
 a210:=Tryz.isAgg190
 z210:=Tryz.sizeOf190
 v210:=Tryz.zeroValue190
 t212:=Tryz.underlying175
 a212:=Tryz.isAgg175
 z212:=Tryz.sizeOf175
 v212:=Tryz.zeroValue175
 t213:=Tryz.underlying176
 a213:=Tryz.isAgg176
 z213:=Tryz.sizeOf176
 t232:=Tryz.underlying196
 a232:=Tryz.isAgg196
 z232:=Tryz.sizeOf196
 v232:=Tryz.zeroValue196
 t233:=Tryz.underlying197
 a233:=Tryz.isAgg197
 z233:=Tryz.sizeOf197
 v233:=Tryz.zeroValue197
 g15:=by kernel_rfl
 g16:=by kernel_rfl
 g17:=by kernel_rfl
 g18:=by kernel_rfl
 g19:=by kernel_rfl
 t80:=Tryz.underlying64
 a80:=Tryz.isAgg64
 z80:=Tryz.sizeOf64
 v80:=Tryz.zeroValue64
 i0:=by kernel_rfl
 i2:=by kernel_rfl
 i3:=by kernel_rfl
 i4:=by kernel_rfl
 i5:=by kernel_rfl
 i9:=by kernel_rfl
 i20:=by kernel_rfl
 i21:=by kernel_rfl
 i37:=by kernel_rfl
 i46:=by kernel_rfl
 i51:=by kernel_rfl
 i53:=by kernel_rfl
 i75:=by kernel_rfl
 i76:=by kernel_rfl
 i80:=by kernel_rfl
 i85:=by kernel_rfl
 i127:=by kernel_rfl
 i143:=by kernel_rfl
 i145:=by kernel_rfl
 i167:=by kernel_rfl
 i168:=by kernel_rfl
 i171:=by kernel_rfl
 i173:=by kernel_rfl
 i175:=by kernel_rfl
 i210:=by kernel_rfl
 i212:=by kernel_rfl
 i232:=by kernel_rfl
 i233:=by kernel_rfl
 m15:=by kernel_rfl
 m16:=by kernel_rfl
 m17:=by kernel_rfl
 m18:=by kernel_rfl
 m19:=by kernel_rfl
 c0:=by kernel_rfl
 c2:=by kernel_rfl
 c3:=by kernel_rfl
 c4:=by kernel_rfl
 c5:=by kernel_rfl
 c9:=by kernel_rfl
 c20:=by kernel_rfl
 c21:=by kernel_rfl
 c37:=by kernel_rfl
 c46:=by kernel_rfl
 c51:=by kernel_rfl
 c53:=by kernel_rfl
 c75:=by kernel_rfl
 c76:=by kernel_rfl
 c80:=by kernel_rfl
 c85:=by kernel_rfl
 c127:=by kernel_rfl
 c143:=by kernel_rfl
 c145:=by kernel_rfl
 c167:=by kernel_rfl
 c168:=by kernel_rfl
 c171:=by kernel_rfl
 c173:=by kernel_rfl
 c175:=by kernel_rfl
 c210:=by kernel_rfl
 c212:=by kernel_rfl
 c213:=by kernel_rfl
 c232:=by kernel_rfl
 c233:=by kernel_rfl }
def Tryz.ws_ren:Go.Shelf.Ren:=⟨fun | 166=>25 | 240=>53 | n=>n,fun | 70=>56 | 9=>9 | 0=>0 | 72=>58 | 37=>22 | 127=>94 | 3=>3 | 5=>5 | 75=>60 | n=>n,fun | n=>n⟩
theorem Tryz.wsL:WsL Tryz.prog Tryz.ws_ren:={
 mixed:=by kernel_rfl
 f166:=Tryz.func25.trans (congrArg some (by kernel_rfl))
 e240:=enters_of Tryz.func53 (by kernel_rfl) rfl
 cc:=Tryz.cc
 t0:=Tryz.underlying0
 a0:=Tryz.isAgg0
 z0:=Tryz.sizeOf0
 v0:=Tryz.zeroValue0
 t3:=Tryz.underlying3
 a3:=Tryz.isAgg3
 z3:=Tryz.sizeOf3
 v3:=Tryz.zeroValue3
 t9:=Tryz.underlying9
 a9:=Tryz.isAgg9
 z9:=Tryz.sizeOf9
 v9:=Tryz.zeroValue9
 t37:=Tryz.underlying22
 a37:=Tryz.isAgg22
 z37:=Tryz.sizeOf22
 v37:=Tryz.zeroValue22
 t70:=Tryz.underlying56
 a70:=Tryz.isAgg56
 z70:=Tryz.sizeOf56
 v70:=Tryz.zeroValue56
 t72:=Tryz.underlying58
 a72:=Tryz.isAgg58
 z72:=Tryz.sizeOf58
 v72:=Tryz.zeroValue58 }
theorem Tryz.wsX:Builder.Extra Tryz.prog Tryz.ws_ren:={
 sizeBuilder:=by kernel_rfl
 liesBuilder:=by kernel_rfl
 t5:=Tryz.underlying5
 a5:=Tryz.isAgg5
 z5:=Tryz.sizeOf5
 v5:=Tryz.zeroValue5
 infoByte:=by kernel_rfl
 cellsByte:=by kernel_rfl
 sizeByte:=by kernel_rfl
 neB5:=by decide }
end Go.Proofs
end
section
open Go Go.Refl Go.Proofs
set_option maxRecDepth 1000000
set_option maxHeartbeats 0
set_option linter.unusedVariables false
namespace Go.Proofs.YtbgamdkmlikgjaaGreatDoorG
noncomputable def ar:List (Nat × AI):=[(105,{ n:=8,E:=9,e:=.str }),(153,{ n:=24,E:=5,e:=(.int .u8) }),(175,{ n:=20,E:=154,e:=(.int .u64) }),(196,{ n:=32,E:=5,e:=(.int .u8) }),(197,{ n:=64,E:=5,e:=(.int .u8) })]
noncomputable def bld:List (Nat × Nat):=[(57,5),(58,5)]
theorem ar105:AOk Tryz.prog 105 { n:=8,E:=9,e:=.str }:=.of (by kernel_rfl) (by kernel_rfl) (by kernel_rfl) (by kernel_rfl) rfl
theorem ar153:AOk Tryz.prog 153 { n:=24,E:=5,e:=(.int .u8) }:=.of (by kernel_rfl) (by kernel_rfl) (by kernel_rfl) (by kernel_rfl) rfl
theorem ar175:AOk Tryz.prog 175 { n:=20,E:=154,e:=(.int .u64) }:=.of (by kernel_rfl) (by kernel_rfl) (by kernel_rfl) (by kernel_rfl) rfl
theorem ar196:AOk Tryz.prog 196 { n:=32,E:=5,e:=(.int .u8) }:=.of (by kernel_rfl) (by kernel_rfl) (by kernel_rfl) (by kernel_rfl) rfl
theorem ar197:AOk Tryz.prog 197 { n:=64,E:=5,e:=(.int .u8) }:=.of (by kernel_rfl) (by kernel_rfl) (by kernel_rfl) (by kernel_rfl) rfl
theorem bld57:BOk Tryz.prog 57:=.of (by kernel_rfl) (by kernel_rfl)
theorem bld58:BOk Tryz.prog 58:=.of (by kernel_rfl) (by kernel_rfl)
theorem ar_ok:∀T ai,Refl.look ar T=some ai→AOk Tryz.prog T ai:=arOk (all_cons ar105 (all_cons ar153 (all_cons ar175 (all_cons ar196 (all_cons ar197 (all_nil))))))
theorem bld_ok:∀T E,Refl.look bld T=some E→BOk Tryz.prog T:=bldOk (all_cons bld57 (all_cons bld58 (all_nil)))
noncomputable def pts:List Nat:=[15,16,17,50,56,94,128,181,199]
theorem pts_ok:∀T,pts.contains T=true→∃e,Tryz.prog.underlying T=some (.pointer e):=fun T h=>ptsOk (all_cons ⟨203,by kernel_rfl⟩ (all_cons ⟨206,by kernel_rfl⟩ (all_cons ⟨214,by kernel_rfl⟩ (all_cons ⟨86,by kernel_rfl⟩ (all_cons ⟨58,by kernel_rfl⟩ (all_cons ⟨5,by kernel_rfl⟩ (all_cons ⟨26,by kernel_rfl⟩ (all_cons ⟨190,by kernel_rfl⟩ (all_cons ⟨201,by kernel_rfl⟩ (all_nil)))))))))) (List.contains_iff_mem.1 h)
noncomputable def g0:Nat × GItem:=(0,.row ⟨.str,[⟨#[106,111,105,110]⟩,⟨#[115,97,118,101]⟩,⟨#[116,97,107,101]⟩,⟨#[108,101,110,100]⟩,⟨#[114,101,112,97,121]⟩,⟨#[102,97,105,108]⟩,⟨#[110,105,103,104,116]⟩,⟨#[115,104,97,114,101]⟩]⟩)
noncomputable def g2:Nat × GItem:=(2,.row ⟨.int .u64,Lib.pow10Tab⟩)
noncomputable def g3:Nat × GItem:=(3,.iface)
noncomputable def g4:Nat × GItem:=(4,.iface)
noncomputable def tb:List (Nat × TI):=[(2,{ ty:=(.int .i64),eqOk:=true }),
  (3,{ ty:=(.int .i64),eqOk:=true }),
  (4,{ ty:=.bool,eqOk:=true }),
  (5,{ ty:=(.int .u8),eqOk:=true }),
  (6,{ ty:=(.int .u8),eqOk:=true }),
  (7,{ ty:=(.pair (.int .i64) (.pair (.int .i64) (.pair .bool (.int .u8)))),offs:=[0,1,2,3],szs:=[1,1,1,1],eqOk:=true }),
  (8,{ ty:=(.pair (.int .i64) (.pair (.int .i64) (.pair .bool (.int .u8)))),offs:=[0,1,2,3],szs:=[1,1,1,1],eqOk:=true }),
  (9,{ ty:=.str,eqOk:=true }),
  (10,{ ty:=.str,eqOk:=true }),
  (11,{ ty:=.str,eqOk:=true }),
  (12,{ ty:=(.int .u64),eqOk:=true }),
  (13,{ ty:=(.pair .str (.int .u64)),offs:=[0,1],szs:=[1,1] }),
  (14,{ ty:=(.pair .str (.int .u64)),offs:=[0,1],szs:=[1,1] }),
  (21,{ ty:=(.int .i32),eqOk:=true }),
  (22,{ ty:=(.slice (.int .u8)),elem:=5 }),
  (23,{ ty:=(.slice (.int .i64)),elem:=3 }),
  (24,{ ty:=(.slice (.pair (.int .i64) (.pair (.int .i64) (.slice (.int .i64))))),elem:=100 }),
  (25,{ ty:=(.pair (.slice (.int .i64)) (.pair (.slice (.pair (.int .i64) (.pair (.int .i64) (.slice (.int .i64))))) (.pair (.int .i64) (.pair (.int .i64) (.int .i64))))),offs:=[0,1,2,3,4],szs:=[1,1,1,1,1] }),
  (26,{ ty:=(.pair (.slice (.int .i64)) (.pair (.slice (.pair (.int .i64) (.pair (.int .i64) (.slice (.int .i64))))) (.pair (.int .i64) (.pair (.int .i64) (.int .i64))))),offs:=[0,1,2,3,4],szs:=[1,1,1,1,1] }),
  (27,{ ty:=(.slice .str),elem:=9 }),
  (34,{ ty:=(.slice (.pair (.int .i64) (.pair (.int .i64) (.pair (.int .i64) (.pair (.int .i64) (.pair (.slice (.int .i64)) (.pair (.int .i64) (.int .i64)))))))),elem:=72 }),
  (39,{ ty:=(.slice (.pair (.int .i64) (.pair (.int .i64) (.slice (.int .i64))))),elem:=110 }),
  (40,{ ty:=(.pair (.slice (.int .i64)) (.pair (.slice (.pair (.int .i64) (.pair (.int .i64) (.slice (.int .i64))))) (.pair (.int .i64) (.pair (.int .i64) (.int .i64))))),offs:=[0,1,2,3,4],szs:=[1,1,1,1,1] }),
  (41,{ ty:=(.pair (.slice (.int .i64)) (.pair (.slice (.pair (.int .i64) (.pair (.int .i64) (.slice (.int .i64))))) (.pair (.int .i64) (.pair (.int .i64) (.int .i64))))),offs:=[0,1,2,3,4],szs:=[1,1,1,1,1] }),
  (59,{ ty:=.err }),
  (60,{ ty:=.err }),
  (69,{ ty:=(.pair (.int .i64) (.int .i64)),offs:=[0,1],szs:=[1,1],eqOk:=true }),
  (70,{ ty:=(.pair (.int .i64) (.int .i64)),offs:=[0,1],szs:=[1,1],eqOk:=true }),
  (71,{ ty:=(.pair (.int .i64) (.pair (.int .i64) (.pair (.int .i64) (.pair (.int .i64) (.pair (.slice (.int .i64)) (.pair (.int .i64) (.int .i64))))))),offs:=[0,1,2,3,4,5],szs:=[1,1,1,1,1,2] }),
  (72,{ ty:=(.pair (.int .i64) (.pair (.int .i64) (.pair (.int .i64) (.pair (.int .i64) (.pair (.slice (.int .i64)) (.pair (.int .i64) (.int .i64))))))),offs:=[0,1,2,3,4,5],szs:=[1,1,1,1,1,2] }),
  (85,{ ty:=(.pair (.slice (.int .u8)) (.int .i64)),offs:=[0,1],szs:=[1,1] }),
  (86,{ ty:=(.pair (.slice (.int .u8)) (.int .i64)),offs:=[0,1],szs:=[1,1] }),
  (99,{ ty:=(.pair (.int .i64) (.pair (.int .i64) (.slice (.int .i64)))),offs:=[0,1,2],szs:=[1,1,1] }),
  (100,{ ty:=(.pair (.int .i64) (.pair (.int .i64) (.slice (.int .i64)))),offs:=[0,1,2],szs:=[1,1,1] }),
  (110,{ ty:=(.pair (.int .i64) (.pair (.int .i64) (.slice (.int .i64)))),offs:=[0,1,2],szs:=[1,1,1] }),
  (127,{ ty:=(.slice .bool),elem:=4 }),
  (150,{ ty:=(.int .u64),eqOk:=true }),
  (154,{ ty:=(.int .u64),eqOk:=true }),
  (169,{ ty:=(.int .u32),eqOk:=true }),
  (178,{ ty:=(.int .i64),eqOk:=true,cmp:=true }),
  (189,{ ty:=(.pair .str (.pair .str .err)),offs:=[0,1,2],szs:=[1,1,1] }),
  (190,{ ty:=(.pair .str (.pair .str .err)),offs:=[0,1,2],szs:=[1,1,1] }),
  (193,{ ty:=(.pair (.int .u8) (.int .u8)),offs:=[0,1],szs:=[1,1],eqOk:=true }),
  (194,{ ty:=(.pair (.int .u8) (.int .u8)),offs:=[0,1],szs:=[1,1],eqOk:=true }),
  (208,{ ty:=(.int .u8),eqOk:=true }),
  (209,{ ty:=(.int .u8),eqOk:=true }),
  (211,{ ty:=(.int .i32),eqOk:=true }),
  (212,{ ty:=(.int .i32),eqOk:=true })]
theorem t2:TOk Tryz.prog tb 2 { ty:=(.int .i64),eqOk:=true }:=.of (by kernel_rfl) (by kernel_rfl) (by show _=_;kernel_rfl) (fun h=>eqOk_int)
theorem t3:TOk Tryz.prog tb 3 { ty:=(.int .i64),eqOk:=true }:=.of (by kernel_rfl) (by kernel_rfl) (by show _=_;kernel_rfl) (fun h=>eqOk_int)
theorem t4:TOk Tryz.prog tb 4 { ty:=.bool,eqOk:=true }:=.of (by kernel_rfl) (by kernel_rfl) (by show _=_;kernel_rfl) (fun h=>eqOk_bool (by kernel_rfl))
theorem t5:TOk Tryz.prog tb 5 { ty:=(.int .u8),eqOk:=true }:=.of (by kernel_rfl) (by kernel_rfl) (by show _=_;kernel_rfl) (fun h=>eqOk_int)
theorem t6:TOk Tryz.prog tb 6 { ty:=(.int .u8),eqOk:=true }:=.of (by kernel_rfl) (by kernel_rfl) (by show _=_;kernel_rfl) (fun h=>eqOk_int)
theorem t7:TOk Tryz.prog tb 7 { ty:=(.pair (.int .i64) (.pair (.int .i64) (.pair .bool (.int .u8)))),offs:=[0,1,2,3],szs:=[1,1,1,1],eqOk:=true }:=.of (by kernel_rfl) (by kernel_rfl) (descOk_struct rfl (by kernel_rfl)) (fun h=>eqOk_struct rfl (by kernel_rfl) (by kernel_rfl))
theorem t8:TOk Tryz.prog tb 8 { ty:=(.pair (.int .i64) (.pair (.int .i64) (.pair .bool (.int .u8)))),offs:=[0,1,2,3],szs:=[1,1,1,1],eqOk:=true }:=.of (by kernel_rfl) (by kernel_rfl) (descOk_struct rfl (by kernel_rfl)) (fun h=>eqOk_struct rfl (by kernel_rfl) (by kernel_rfl))
theorem t9:TOk Tryz.prog tb 9 { ty:=.str,eqOk:=true }:=.of (by kernel_rfl) (by kernel_rfl) (by show _=_;kernel_rfl) (fun h=>eqOk_str)
theorem t10:TOk Tryz.prog tb 10 { ty:=.str,eqOk:=true }:=.of (by kernel_rfl) (by kernel_rfl) (by show _=_;kernel_rfl) (fun h=>eqOk_str)
theorem t11:TOk Tryz.prog tb 11 { ty:=.str,eqOk:=true }:=.of (by kernel_rfl) (by kernel_rfl) (by show _=_;kernel_rfl) (fun h=>eqOk_str)
theorem t12:TOk Tryz.prog tb 12 { ty:=(.int .u64),eqOk:=true }:=.of (by kernel_rfl) (by kernel_rfl) (by show _=_;kernel_rfl) (fun h=>eqOk_int)
theorem t13:TOk Tryz.prog tb 13 { ty:=(.pair .str (.int .u64)),offs:=[0,1],szs:=[1,1] }:=.of (by kernel_rfl) (by kernel_rfl) (descOk_struct rfl (by kernel_rfl)) (fun h=>by cases h)
theorem t14:TOk Tryz.prog tb 14 { ty:=(.pair .str (.int .u64)),offs:=[0,1],szs:=[1,1] }:=.of (by kernel_rfl) (by kernel_rfl) (descOk_struct rfl (by kernel_rfl)) (fun h=>by cases h)
theorem t21:TOk Tryz.prog tb 21 { ty:=(.int .i32),eqOk:=true }:=.of (by kernel_rfl) (by kernel_rfl) (by show _=_;kernel_rfl) (fun h=>eqOk_int)
theorem t22:TOk Tryz.prog tb 22 { ty:=(.slice (.int .u8)),elem:=5 }:=.of (by kernel_rfl) (by kernel_rfl) (⟨by kernel_rfl,{ ty:=(.int .u8),eqOk:=true },by kernel_rfl,by kernel_rfl⟩) (fun h=>by cases h)
theorem t23:TOk Tryz.prog tb 23 { ty:=(.slice (.int .i64)),elem:=3 }:=.of (by kernel_rfl) (by kernel_rfl) (⟨by kernel_rfl,{ ty:=(.int .i64),eqOk:=true },by kernel_rfl,by kernel_rfl⟩) (fun h=>by cases h)
theorem t24:TOk Tryz.prog tb 24 { ty:=(.slice (.pair (.int .i64) (.pair (.int .i64) (.slice (.int .i64))))),elem:=100 }:=.of (by kernel_rfl) (by kernel_rfl) (⟨by kernel_rfl,{ ty:=(.pair (.int .i64) (.pair (.int .i64) (.slice (.int .i64)))),offs:=[0,1,2],szs:=[1,1,1] },by kernel_rfl,by kernel_rfl⟩) (fun h=>by cases h)
theorem t25:TOk Tryz.prog tb 25 { ty:=(.pair (.slice (.int .i64)) (.pair (.slice (.pair (.int .i64) (.pair (.int .i64) (.slice (.int .i64))))) (.pair (.int .i64) (.pair (.int .i64) (.int .i64))))),offs:=[0,1,2,3,4],szs:=[1,1,1,1,1] }:=.of (by kernel_rfl) (by kernel_rfl) (descOk_struct rfl (by kernel_rfl)) (fun h=>by cases h)
theorem t26:TOk Tryz.prog tb 26 { ty:=(.pair (.slice (.int .i64)) (.pair (.slice (.pair (.int .i64) (.pair (.int .i64) (.slice (.int .i64))))) (.pair (.int .i64) (.pair (.int .i64) (.int .i64))))),offs:=[0,1,2,3,4],szs:=[1,1,1,1,1] }:=.of (by kernel_rfl) (by kernel_rfl) (descOk_struct rfl (by kernel_rfl)) (fun h=>by cases h)
theorem t27:TOk Tryz.prog tb 27 { ty:=(.slice .str),elem:=9 }:=.of (by kernel_rfl) (by kernel_rfl) (⟨by kernel_rfl,{ ty:=.str,eqOk:=true },by kernel_rfl,by kernel_rfl⟩) (fun h=>by cases h)
theorem t34:TOk Tryz.prog tb 34 { ty:=(.slice (.pair (.int .i64) (.pair (.int .i64) (.pair (.int .i64) (.pair (.int .i64) (.pair (.slice (.int .i64)) (.pair (.int .i64) (.int .i64)))))))),elem:=72 }:=.of (by kernel_rfl) (by kernel_rfl) (⟨by kernel_rfl,{ ty:=(.pair (.int .i64) (.pair (.int .i64) (.pair (.int .i64) (.pair (.int .i64) (.pair (.slice (.int .i64)) (.pair (.int .i64) (.int .i64))))))),offs:=[0,1,2,3,4,5],szs:=[1,1,1,1,1,2] },by kernel_rfl,by kernel_rfl⟩) (fun h=>by cases h)
theorem t39:TOk Tryz.prog tb 39 { ty:=(.slice (.pair (.int .i64) (.pair (.int .i64) (.slice (.int .i64))))),elem:=110 }:=.of (by kernel_rfl) (by kernel_rfl) (⟨by kernel_rfl,{ ty:=(.pair (.int .i64) (.pair (.int .i64) (.slice (.int .i64)))),offs:=[0,1,2],szs:=[1,1,1] },by kernel_rfl,by kernel_rfl⟩) (fun h=>by cases h)
theorem t40:TOk Tryz.prog tb 40 { ty:=(.pair (.slice (.int .i64)) (.pair (.slice (.pair (.int .i64) (.pair (.int .i64) (.slice (.int .i64))))) (.pair (.int .i64) (.pair (.int .i64) (.int .i64))))),offs:=[0,1,2,3,4],szs:=[1,1,1,1,1] }:=.of (by kernel_rfl) (by kernel_rfl) (descOk_struct rfl (by kernel_rfl)) (fun h=>by cases h)
theorem t41:TOk Tryz.prog tb 41 { ty:=(.pair (.slice (.int .i64)) (.pair (.slice (.pair (.int .i64) (.pair (.int .i64) (.slice (.int .i64))))) (.pair (.int .i64) (.pair (.int .i64) (.int .i64))))),offs:=[0,1,2,3,4],szs:=[1,1,1,1,1] }:=.of (by kernel_rfl) (by kernel_rfl) (descOk_struct rfl (by kernel_rfl)) (fun h=>by cases h)
theorem t59:TOk Tryz.prog tb 59 { ty:=.err }:=.of (by kernel_rfl) (by kernel_rfl) (by show _=_;kernel_rfl) (fun h=>by cases h)
theorem t60:TOk Tryz.prog tb 60 { ty:=.err }:=.of (by kernel_rfl) (by kernel_rfl) (by show _=_;kernel_rfl) (fun h=>by cases h)
theorem t69:TOk Tryz.prog tb 69 { ty:=(.pair (.int .i64) (.int .i64)),offs:=[0,1],szs:=[1,1],eqOk:=true }:=.of (by kernel_rfl) (by kernel_rfl) (descOk_struct rfl (by kernel_rfl)) (fun h=>eqOk_struct rfl (by kernel_rfl) (by kernel_rfl))
theorem t70:TOk Tryz.prog tb 70 { ty:=(.pair (.int .i64) (.int .i64)),offs:=[0,1],szs:=[1,1],eqOk:=true }:=.of (by kernel_rfl) (by kernel_rfl) (descOk_struct rfl (by kernel_rfl)) (fun h=>eqOk_struct rfl (by kernel_rfl) (by kernel_rfl))
theorem t71:TOk Tryz.prog tb 71 { ty:=(.pair (.int .i64) (.pair (.int .i64) (.pair (.int .i64) (.pair (.int .i64) (.pair (.slice (.int .i64)) (.pair (.int .i64) (.int .i64))))))),offs:=[0,1,2,3,4,5],szs:=[1,1,1,1,1,2] }:=.of (by kernel_rfl) (by kernel_rfl) (descOk_struct rfl (by kernel_rfl)) (fun h=>by cases h)
theorem t72:TOk Tryz.prog tb 72 { ty:=(.pair (.int .i64) (.pair (.int .i64) (.pair (.int .i64) (.pair (.int .i64) (.pair (.slice (.int .i64)) (.pair (.int .i64) (.int .i64))))))),offs:=[0,1,2,3,4,5],szs:=[1,1,1,1,1,2] }:=.of (by kernel_rfl) (by kernel_rfl) (descOk_struct rfl (by kernel_rfl)) (fun h=>by cases h)
theorem t85:TOk Tryz.prog tb 85 { ty:=(.pair (.slice (.int .u8)) (.int .i64)),offs:=[0,1],szs:=[1,1] }:=.of (by kernel_rfl) (by kernel_rfl) (descOk_struct rfl (by kernel_rfl)) (fun h=>by cases h)
theorem t86:TOk Tryz.prog tb 86 { ty:=(.pair (.slice (.int .u8)) (.int .i64)),offs:=[0,1],szs:=[1,1] }:=.of (by kernel_rfl) (by kernel_rfl) (descOk_struct rfl (by kernel_rfl)) (fun h=>by cases h)
theorem t99:TOk Tryz.prog tb 99 { ty:=(.pair (.int .i64) (.pair (.int .i64) (.slice (.int .i64)))),offs:=[0,1,2],szs:=[1,1,1] }:=.of (by kernel_rfl) (by kernel_rfl) (descOk_struct rfl (by kernel_rfl)) (fun h=>by cases h)
theorem t100:TOk Tryz.prog tb 100 { ty:=(.pair (.int .i64) (.pair (.int .i64) (.slice (.int .i64)))),offs:=[0,1,2],szs:=[1,1,1] }:=.of (by kernel_rfl) (by kernel_rfl) (descOk_struct rfl (by kernel_rfl)) (fun h=>by cases h)
theorem t110:TOk Tryz.prog tb 110 { ty:=(.pair (.int .i64) (.pair (.int .i64) (.slice (.int .i64)))),offs:=[0,1,2],szs:=[1,1,1] }:=.of (by kernel_rfl) (by kernel_rfl) (descOk_struct rfl (by kernel_rfl)) (fun h=>by cases h)
theorem t127:TOk Tryz.prog tb 127 { ty:=(.slice .bool),elem:=4 }:=.of (by kernel_rfl) (by kernel_rfl) (⟨by kernel_rfl,{ ty:=.bool,eqOk:=true },by kernel_rfl,by kernel_rfl⟩) (fun h=>by cases h)
theorem t150:TOk Tryz.prog tb 150 { ty:=(.int .u64),eqOk:=true }:=.of (by kernel_rfl) (by kernel_rfl) (by show _=_;kernel_rfl) (fun h=>eqOk_int)
theorem t154:TOk Tryz.prog tb 154 { ty:=(.int .u64),eqOk:=true }:=.of (by kernel_rfl) (by kernel_rfl) (by show _=_;kernel_rfl) (fun h=>eqOk_int)
theorem t169:TOk Tryz.prog tb 169 { ty:=(.int .u32),eqOk:=true }:=.of (by kernel_rfl) (by kernel_rfl) (by show _=_;kernel_rfl) (fun h=>eqOk_int)
theorem t178:TOk Tryz.prog tb 178 { ty:=(.int .i64),eqOk:=true,cmp:=true }:=.of (by kernel_rfl) (by kernel_rfl) (by show _=_;kernel_rfl) (fun h=>eqOk_int) (fun _=>by kernel_rfl)
theorem t189:TOk Tryz.prog tb 189 { ty:=(.pair .str (.pair .str .err)),offs:=[0,1,2],szs:=[1,1,1] }:=.of (by kernel_rfl) (by kernel_rfl) (descOk_struct rfl (by kernel_rfl)) (fun h=>by cases h)
theorem t190:TOk Tryz.prog tb 190 { ty:=(.pair .str (.pair .str .err)),offs:=[0,1,2],szs:=[1,1,1] }:=.of (by kernel_rfl) (by kernel_rfl) (descOk_struct rfl (by kernel_rfl)) (fun h=>by cases h)
theorem t193:TOk Tryz.prog tb 193 { ty:=(.pair (.int .u8) (.int .u8)),offs:=[0,1],szs:=[1,1],eqOk:=true }:=.of (by kernel_rfl) (by kernel_rfl) (descOk_struct rfl (by kernel_rfl)) (fun h=>eqOk_struct rfl (by kernel_rfl) (by kernel_rfl))
theorem t194:TOk Tryz.prog tb 194 { ty:=(.pair (.int .u8) (.int .u8)),offs:=[0,1],szs:=[1,1],eqOk:=true }:=.of (by kernel_rfl) (by kernel_rfl) (descOk_struct rfl (by kernel_rfl)) (fun h=>eqOk_struct rfl (by kernel_rfl) (by kernel_rfl))
theorem t208:TOk Tryz.prog tb 208 { ty:=(.int .u8),eqOk:=true }:=.of (by kernel_rfl) (by kernel_rfl) (by show _=_;kernel_rfl) (fun h=>eqOk_int)
theorem t209:TOk Tryz.prog tb 209 { ty:=(.int .u8),eqOk:=true }:=.of (by kernel_rfl) (by kernel_rfl) (by show _=_;kernel_rfl) (fun h=>eqOk_int)
theorem t211:TOk Tryz.prog tb 211 { ty:=(.int .i32),eqOk:=true }:=.of (by kernel_rfl) (by kernel_rfl) (by show _=_;kernel_rfl) (fun h=>eqOk_int)
theorem t212:TOk Tryz.prog tb 212 { ty:=(.int .i32),eqOk:=true }:=.of (by kernel_rfl) (by kernel_rfl) (by show _=_;kernel_rfl) (fun h=>eqOk_int)
theorem mixed:Tryz.prog.follows .mixedOrders=true:=by kernel_rfl
theorem tb_ok:CfgTb Tryz.prog tb:=tbOk (all_cons t2 (all_cons t3 (all_cons t4 (all_cons t5 (all_cons t6 (all_cons t7 (all_cons t8 (all_cons t9 (all_cons t10 (all_cons t11 (all_cons t12 (all_cons t13 (all_cons t14 (all_cons t21 (all_cons t22 (all_cons t23 (all_cons t24 (all_cons t25 (all_cons t26 (all_cons t27 (all_cons t34 (all_cons t39 (all_cons t40 (all_cons t41 (all_cons t59 (all_cons t60 (all_cons t69 (all_cons t70 (all_cons t71 (all_cons t72 (all_cons t85 (all_cons t86 (all_cons t99 (all_cons t100 (all_cons t110 (all_cons t127 (all_cons t150 (all_cons t154 (all_cons t169 (all_cons t178 (all_cons t189 (all_cons t190 (all_cons t193 (all_cons t194 (all_cons t208 (all_cons t209 (all_cons t211 (all_cons t212 (all_nil)))))))))))))))))))))))))))))))))))))))))))))))))
abbrev zt0:Ty:=.pair (.slice (.int .i64)) (.pair (.slice (.pair (.int .i64) (.pair (.int .i64) (.slice (.int .i64))))) (.pair (.int .i64) (.pair (.int .i64) (.int .i64))))
abbrev zt1:Ty:=.pair (.int .i64) (.pair (.int .i64) (.pair (.int .i64) (.pair (.int .i64) (.pair (.slice (.int .i64)) (.pair (.int .i64) (.int .i64))))))
abbrev zt2:Type:=List (Int × Int × Int × Int × List Int × Int × Int) × (List Int × List (Int × Int × List Int) × Int × Int × Int) × List Int × Int
abbrev zt3:Ty:=.pair (.slice (.pair (.int .i64) (.pair (.int .i64) (.slice (.int .i64))))) (.pair (.int .i64) (.pair (.int .i64) (.int .i64)))
abbrev zt4:Ty:=.pair (.int .i64) (.pair (.int .i64) (.pair (.int .i64) (.pair (.slice (.int .i64)) (.pair (.int .i64) (.int .i64)))))
abbrev zt5:Ty:=.pair (.int .i64) (.pair (.int .i64) (.pair (.slice (.int .i64)) (.pair (.int .i64) (.int .i64))))
abbrev zt6:Ty:=.pair (.int .i64) (.pair (.slice (.int .i64)) (.pair (.int .i64) (.int .i64)))
abbrev zt7:Type:=(Int × Int × Int × Int × List Int × Int × Int) × List Int × Int
abbrev zt8:Ty:=.pair (.int .i64) (.pair (.int .i64) (.slice (.int .i64)))
abbrev zt9:Ty:=.pair (.slice (.int .i64)) (.pair (.int .i64) (.int .i64))
abbrev zt10:Type:=List Int × List (Int × Int × List Int) × Int × Int × Int
abbrev zt11:Type:=(Int × Int × Int × Int × List Int × Int × Int) × Bool
abbrev zt12:Type:=List (Int × Int × Int × Int × List Int × Int × Int)
abbrev zt13:Ty:=.pair (.int .i64) (.pair (.int .i64) (.int .i64))
abbrev zt14:Type:=Int × Int × Int × Int × List Int × Int × Int
abbrev zt15:Ty:=.pair (.int .i64) (.slice (.int .i64))
abbrev zt16:Ty:=.pair (.int .i64) (.int .i64)
abbrev zt17:Type:=List (Int × Int × List Int)
abbrev zt18:Type:=List Int × Int × List Int
abbrev zt19:Type:=Int × Int × List Int
abbrev zf30.ps:List Pm:=[.arg (.v (.slice (.int .i64))),.arg (.v (.int .i64)),.arg (.v (.int .i64))]
abbrev zf30.res:List M:=[.v .bool]
noncomputable def zf30.C:Cfg:={ tb:=tb,tab:=fun n f=>Refl.look [] f,gl:=[],ar:=ar,bld:=bld,pts:=pts }
noncomputable def zf30.A:Ann:={ joins:=[],loops:=[(2,{ live:=[1,2,9,10,11],base:=24 })],ids:=[],pids:=[],nroots:=88 }
noncomputable def zf30 (n:Nat) (x:List Int × Int × Int):Option (Bool):=evalF zf30.C zf30.A Tryz.f72 zf30.ps zf30.res n x
noncomputable def zf30.K0 (_:Nat):Kont (Bool):=finK zf30.C (Func.results Tryz.f72).toList zf30.ps zf30.res
noncomputable def zf30.K1 (n:Nat):Kont (Bool):=seqK (fun s' k=>joinE zf30.A.joins (codeAt Tryz.f72 [1,1]) (fun s''=>evalC zf30.C zf30.A n (codeAt Tryz.f72 [1,1]) s'' k) s') (zf30.K0 n)
noncomputable def zf30.K2 (n:Nat):Kont (Bool):=blockK 0 (zf30.K1 n)
noncomputable def zf30.l2 (n m2:Nat) (x1 x2:Int) (x9:List Int) (x10 x11:Int):Option (Bool):=loopE (cutAt zf30.A.loops (codeAt Tryz.f72 [1,0,1,0,0])) (fun s k=>evalC zf30.C zf30.A n (codeAt Tryz.f72 [1,0,1,0,0]) s k) m2 (St.of 24 88 [(1,.val (.int .i64) x1),(2,.val (.int .i64) x2),(9,.val (.slice (.int .i64)) x9),(10,.val (.int .i64) x10),(11,.val (.int .i64) x11)] [] []) (zf30.K2 n)
theorem zf30.eq (n:Nat) (x0:List Int) (x1 x2:Int):zf30 n (x0,x1,x2)=zf30.l2 n n (x1) (x2) (x0) ((↑(List.length x0):Int)) (0):=by kernel_rfl
theorem zf30.l2_succ (n m2:Nat) (x1 x2:Int) (x9:List Int) (x10 x11:Int):zf30.l2 n (m2+1) x1 x2 x9 x10 x11=(if x11<x10 then (if 0≤x11 then (if x11<(↑(List.length x9):Int) then (if List.getD x9 (Int.toNat x11) 0<x1 then some (Bool.false) else (if List.getD x9 (Int.toNat x11) 0 > x2 then some (Bool.false) else zf30.l2 n m2 (x1) (x2) (x9) (x10) (Go.RowKit.wrap64 (x11+1)))) else none) else none) else some (Bool.true)):=by kernel_rfl
noncomputable abbrev zf30.sg (n:Nat):Sig:=⟨zf30.ps,zf30.res,zf30 n⟩
theorem zf30.call:Callable Tryz.prog 72:=⟨Tryz.f72,Tryz.func72,by kernel_rfl,by kernel_rfl⟩
theorem zf30.ok (n:Nat):FC Tryz.prog [] 72 (zf30.sg n):=
  evalF_ok (C:=zf30.C) ⟨tb_ok,fun n _ _ h=>tabOk (l:=[]) (all_nil) h,mixed,ar_ok,bld_ok,pts_ok⟩ zf30.A Tryz.func72 zf30.ps zf30.res n
abbrev zf47.ps:List Pm:=[.arg (.v (.slice (.int .i64)))]
abbrev zf47.res:List M:=[.v .bool]
noncomputable def zf47.C:Cfg:={ tb:=tb,tab:=fun n f=>Refl.look [(72,(zf30.sg n))] f,gl:=[],ar:=ar,bld:=bld,pts:=pts }
noncomputable def zf47.A:Ann:={ joins:=[],loops:=[],ids:=[(1,[(13,[])])],pids:=[],nroots:=79 }
noncomputable def zf47 (n:Nat) (x:List Int):Option (Bool):=evalF zf47.C zf47.A Tryz.f32 zf47.ps zf47.res n x
theorem zf47.eq (n:Nat) (x0:List Int):zf47 n x0=(if (↑(List.length x0):Int)≥1 then (if (↑(List.length x0):Int)≤12 then ((zf30 n (x0,0,100000)).bind fun y0=>some (y0)) else some (Bool.false)) else some (Bool.false)):=by kernel_rfl
noncomputable abbrev zf47.sg (n:Nat):Sig:=⟨zf47.ps,zf47.res,zf47 n⟩
theorem zf47.call:Callable Tryz.prog 32:=⟨Tryz.f32,Tryz.func32,by kernel_rfl,by kernel_rfl⟩
theorem zf47.ok (n:Nat):FC Tryz.prog [] 32 (zf47.sg n):=
  evalF_ok (C:=zf47.C) ⟨tb_ok,fun n _ _ h=>tabOk (l:=[(72,(zf30.sg n))]) (all_cons ⟨zf30.ok n,zf30.call⟩ (all_nil)) h,mixed,ar_ok,bld_ok,pts_ok⟩ zf47.A Tryz.func32 zf47.ps zf47.res n
abbrev zf35.ps:List Pm:=[.arg (.v (.slice (.int .i64))),.arg (.v (.int .i64))]
abbrev zf35.res:List M:=[.v .bool]
noncomputable def zf35.C:Cfg:={ tb:=tb,tab:=fun n f=>Refl.look [] f,gl:=[],ar:=ar,bld:=bld,pts:=pts }
noncomputable def zf35.A:Ann:={ joins:=[],loops:=[(5,{ live:=[1,5,14,15,16],base:=37 })],ids:=[],pids:=[],nroots:=101 }
noncomputable def zf35 (n:Nat) (x:List Int × Int):Option (Bool):=evalF zf35.C zf35.A Tryz.f73 zf35.ps zf35.res n x
noncomputable def zf35.K0 (_:Nat):Kont (Bool):=finK zf35.C (Func.results Tryz.f73).toList zf35.ps zf35.res
noncomputable def zf35.K1 (n:Nat):Kont (Bool):=seqK (fun s' k=>joinE zf35.A.joins (codeAt Tryz.f73 [1,1,1,1]) (fun s''=>evalC zf35.C zf35.A n (codeAt Tryz.f73 [1,1,1,1]) s'' k) s') (zf35.K0 n)
noncomputable def zf35.K2 (n:Nat):Kont (Bool):=blockK 0 (zf35.K1 n)
noncomputable def zf35.l5 (n m5:Nat) (x1:Int) (x14:List Int) (x15 x16:Int) (r37:List Bool):Option (Bool):=loopE (cutAt zf35.A.loops (codeAt Tryz.f73 [1,1,1,0,1,0,0])) (fun s k=>evalC zf35.C zf35.A n (codeAt Tryz.f73 [1,1,1,0,1,0,0]) s k) m5 (St.of 37 101 [(1,.val (.int .i64) x1),(5,.own 37),(14,.val (.slice (.int .i64)) x14),(15,.val (.int .i64) x15),(16,.val (.int .i64) x16)] [(37,.row .bool 4 r37)] []) (zf35.K2 n)
theorem zf35.eq (n:Nat) (x0:List Int) (x1:Int):zf35 n (x0,x1)=(if (↑(List.length x0):Int) > x1 then some (Bool.false) else (if 0≤x1 then (if x1≤x1 then (if x1≤(↑Go.Refl.maxN:Int) then zf35.l5 n n (x1) (x0) ((↑(List.length x0):Int)) (0) (List.replicate (Int.toNat x1) Bool.false) else none) else none) else none)):=by kernel_rfl
theorem zf35.l5_succ (n m5:Nat) (x1:Int) (x14:List Int) (x15 x16:Int) (r37:List Bool):zf35.l5 n (m5+1) x1 x14 x15 x16 r37=(if x16<x15 then (if 0≤x16 then (if x16<(↑(List.length x14):Int) then (if List.getD x14 (Int.toNat x16) 0<0 then some (Bool.false) else (if List.getD x14 (Int.toNat x16) 0≥x1 then some (Bool.false) else (if 0≤List.getD x14 (Int.toNat x16) 0 then (if List.getD x14 (Int.toNat x16) 0<(↑(List.length r37):Int) then (if (List.getD r37 (Int.toNat (List.getD x14 (Int.toNat x16) 0)) Bool.false)=true then some (Bool.false) else (if 0≤List.getD x14 (Int.toNat x16) 0 then (if List.getD x14 (Int.toNat x16) 0<(↑(List.length r37):Int) then zf35.l5 n m5 (x1) (x14) (x15) (Go.RowKit.wrap64 (x16+1)) (List.set r37 (Int.toNat (List.getD x14 (Int.toNat x16) 0)) Bool.true) else none) else none)) else none) else none))) else none) else none) else some (Bool.true)):=by kernel_rfl
noncomputable abbrev zf35.sg (n:Nat):Sig:=⟨zf35.ps,zf35.res,zf35 n⟩
theorem zf35.call:Callable Tryz.prog 73:=⟨Tryz.f73,Tryz.func73,by kernel_rfl,by kernel_rfl⟩
theorem zf35.ok (n:Nat):FC Tryz.prog [] 73 (zf35.sg n):=
  evalF_ok (C:=zf35.C) ⟨tb_ok,fun n _ _ h=>tabOk (l:=[]) (all_nil) h,mixed,ar_ok,bld_ok,pts_ok⟩ zf35.A Tryz.func73 zf35.ps zf35.res n
abbrev zf64.ps:List Pm:=[.arg (.v (.slice (.int .i64))),.arg (.v (.int .i64))]
abbrev zf64.res:List M:=[.v (.int .i64)]
noncomputable def zf64.C:Cfg:={ tb:=tb,tab:=fun n f=>Refl.look [] f,gl:=[],ar:=ar,bld:=bld,pts:=pts }
noncomputable def zf64.A:Ann:={ joins:=[],loops:=[(2,{ live:=[0,1,7,8],base:=19 })],ids:=[],pids:=[],nroots:=83 }
noncomputable def zf64 (n:Nat) (x:List Int × Int):Option (Int):=evalF zf64.C zf64.A Tryz.f110 zf64.ps zf64.res n x
noncomputable def zf64.K0 (_:Nat):Kont (Int):=finK zf64.C (Func.results Tryz.f110).toList zf64.ps zf64.res
noncomputable def zf64.K1 (n:Nat):Kont (Int):=seqK (fun s' k=>joinE zf64.A.joins (codeAt Tryz.f110 [1,1]) (fun s''=>evalC zf64.C zf64.A n (codeAt Tryz.f110 [1,1]) s'' k) s') (zf64.K0 n)
noncomputable def zf64.K2 (n:Nat):Kont (Int):=blockK 0 (zf64.K1 n)
noncomputable def zf64.l2 (n m2:Nat) (x0:List Int) (x1 x7 x8:Int):Option (Int):=loopE (cutAt zf64.A.loops (codeAt Tryz.f110 [1,0,1,0,0])) (fun s k=>evalC zf64.C zf64.A n (codeAt Tryz.f110 [1,0,1,0,0]) s k) m2 (St.of 19 83 [(0,.val (.slice (.int .i64)) x0),(1,.val (.int .i64) x1),(7,.val (.int .i64) x7),(8,.val (.int .i64) x8)] [] []) (zf64.K2 n)
theorem zf64.eq (n:Nat) (x0:List Int) (x1:Int):zf64 n (x0,x1)=zf64.l2 n n (x0) (x1) ((↑(List.length x0):Int)) (0):=by kernel_rfl
theorem zf64.l2_succ (n m2:Nat) (x0:List Int) (x1 x7 x8:Int):zf64.l2 n (m2+1) x0 x1 x7 x8=(if x8<x7 then (if 0≤x8 then (if x8<(↑(List.length x0):Int) then (if x1=List.getD x0 (Int.toNat x8) 0 then some (x8) else zf64.l2 n m2 (x0) (x1) (x7) (Go.RowKit.wrap64 (x8+1))) else none) else none) else some ((-1))):=by kernel_rfl
noncomputable abbrev zf64.sg (n:Nat):Sig:=⟨zf64.ps,zf64.res,zf64 n⟩
theorem zf64.call:Callable Tryz.prog 110:=⟨Tryz.f110,Tryz.func110,by kernel_rfl,by kernel_rfl⟩
theorem zf64.ok (n:Nat):FC Tryz.prog [] 110 (zf64.sg n):=
  evalF_ok (C:=zf64.C) ⟨tb_ok,fun n _ _ h=>tabOk (l:=[]) (all_nil) h,mixed,ar_ok,bld_ok,pts_ok⟩ zf64.A Tryz.func110 zf64.ps zf64.res n
abbrev zf60.ps:List Pm:=[.arg (.v (.slice (.int .i64))),.arg (.v (.int .i64))]
abbrev zf60.res:List M:=[.v .bool]
noncomputable def zf60.C:Cfg:={ tb:=tb,tab:=fun n f=>Refl.look [(110,(zf64.sg n))] f,gl:=[],ar:=ar,bld:=bld,pts:=pts }
noncomputable def zf60.A:Ann:={ joins:=[],loops:=[],ids:=[(1,[(7,[])])],pids:=[],nroots:=73 }
noncomputable def zf60 (n:Nat) (x:List Int × Int):Option (Bool):=evalF zf60.C zf60.A Tryz.f74 zf60.ps zf60.res n x
theorem zf60.eq (n:Nat) (x0:List Int) (x1:Int):zf60 n (x0,x1)=((zf64 n (x0,x1)).bind fun y0=>some (Decidable.decide (y0≥0))):=by kernel_rfl
noncomputable abbrev zf60.sg (n:Nat):Sig:=⟨zf60.ps,zf60.res,zf60 n⟩
theorem zf60.call:Callable Tryz.prog 74:=⟨Tryz.f74,Tryz.func74,by kernel_rfl,by kernel_rfl⟩
theorem zf60.ok (n:Nat):FC Tryz.prog [] 74 (zf60.sg n):=
  evalF_ok (C:=zf60.C) ⟨tb_ok,fun n _ _ h=>tabOk (l:=[(110,(zf64.sg n))]) (all_cons ⟨zf64.ok n,zf64.call⟩ (all_nil)) h,mixed,ar_ok,bld_ok,pts_ok⟩ zf60.A Tryz.func74 zf60.ps zf60.res n
abbrev zf28.ps:List Pm:=[.arg (.v (.slice zt8)),.arg (.v (.int .i64))]
abbrev zf28.res:List M:=[.v .bool]
noncomputable def zf28.C:Cfg:={ tb:=tb,tab:=fun n f=>Refl.look [(73,(zf35.sg n)),(74,(zf60.sg n))] f,gl:=[],ar:=ar,bld:=bld,pts:=pts }
noncomputable def zf28.A:Ann:={ joins:=[],loops:=[(4,{ live:=[1,18,19,20],base:=62 })],ids:=[(8,[(51,[]),(59,[])])],pids:=[],nroots:=126 }
noncomputable def zf28 (n:Nat) (x:List zt19 × Int):Option (Bool):=evalF zf28.C zf28.A Tryz.f33 zf28.ps zf28.res n x
noncomputable def zf28.K0 (_:Nat):Kont (Bool):=finK zf28.C (Func.results Tryz.f33).toList zf28.ps zf28.res
noncomputable def zf28.K1 (n:Nat):Kont (Bool):=seqK (fun s' k=>joinE zf28.A.joins (codeAt Tryz.f33 [1,1,1]) (fun s''=>evalC zf28.C zf28.A n (codeAt Tryz.f33 [1,1,1]) s'' k) s') (zf28.K0 n)
noncomputable def zf28.K2 (n:Nat):Kont (Bool):=blockK 0 (zf28.K1 n)
noncomputable def zf28.l4 (n m4:Nat) (x1:Int) (x18:List zt19) (x19 x20:Int):Option (Bool):=loopE (cutAt zf28.A.loops (codeAt Tryz.f33 [1,1,0,1,0,0])) (fun s k=>evalC zf28.C zf28.A n (codeAt Tryz.f33 [1,1,0,1,0,0]) s k) m4 (St.of 62 126 [(1,.val (.int .i64) x1),(18,.val (.slice zt8) x18),(19,.val (.int .i64) x19),(20,.val (.int .i64) x20)] [] []) (zf28.K2 n)
theorem zf28.eq (n:Nat) (x0:List zt19) (x1:Int):zf28 n (x0,x1)=(if (↑(List.length x0):Int) > 16 then some (Bool.false) else (if x1<1 then some (Bool.false) else (if x1 > 12 then some (Bool.false) else zf28.l4 n n (x1) (x0) ((↑(List.length x0):Int)) (0)))):=by kernel_rfl
theorem zf28.l4_succ (n m4:Nat) (x1:Int) (x18:List zt19) (x19 x20:Int):zf28.l4 n (m4+1) x1 x18 x19 x20=(if x20<x19 then (if 0≤x20 then (if x20<(↑(List.length x18):Int) then (if Prod.fst (List.getD x18 (Int.toNat x20) (0,0,[]))<0 then some (Bool.false) else (if Prod.fst (List.getD x18 (Int.toNat x20) (0,0,[]))≥x1 then some (Bool.false) else (if Prod.fst (Prod.snd (List.getD x18 (Int.toNat x20) (0,0,[])))<1 then some (Bool.false) else (if Prod.fst (Prod.snd (List.getD x18 (Int.toNat x20) (0,0,[]))) > 100000 then some (Bool.false) else (if (↑(List.length (Prod.snd (Prod.snd (List.getD x18 (Int.toNat x20) ((0:Int),(0:Int),[]))))):Int)<1 then some (Bool.false) else ((zf35 n (Prod.snd (Prod.snd (List.getD x18 (Int.toNat x20) (0,0,[]))),x1)).bind fun y0=>(if (!y0)=Bool.true then some (Bool.false) else ((zf60 n (Prod.snd (Prod.snd (List.getD x18 (Int.toNat x20) (0,0,[]))),Prod.fst (List.getD x18 (Int.toNat x20) (0,0,[])))).bind fun y1=>(if (y1)=true then some (Bool.false) else zf28.l4 n m4 (x1) (x18) (x19) (Go.RowKit.wrap64 (x20+1))))))))))) else none) else none) else some (Bool.true)):=by kernel_rfl
noncomputable abbrev zf28.sg (n:Nat):Sig:=⟨zf28.ps,zf28.res,zf28 n⟩
theorem zf28.call:Callable Tryz.prog 33:=⟨Tryz.f33,Tryz.func33,by kernel_rfl,by kernel_rfl⟩
theorem zf28.ok (n:Nat):FC Tryz.prog [] 33 (zf28.sg n):=
  evalF_ok (C:=zf28.C) ⟨tb_ok,fun n _ _ h=>tabOk (l:=[(73,(zf35.sg n)),(74,(zf60.sg n))]) (all_cons ⟨zf35.ok n,zf35.call⟩ (all_cons ⟨zf60.ok n,zf60.call⟩ (all_nil))) h,mixed,ar_ok,bld_ok,pts_ok⟩ zf28.A Tryz.func33 zf28.ps zf28.res n
abbrev zf38.ps:List Pm:=[.arg (.v (.slice zt8))]
abbrev zf38.res:List M:=[.v (.int .i64)]
noncomputable def zf38.C:Cfg:={ tb:=tb,tab:=fun n f=>Refl.look [] f,gl:=[],ar:=ar,bld:=bld,pts:=pts }
noncomputable def zf38.A:Ann:={ joins:=[],loops:=[(3,{ live:=[3,6,7,8],base:=18 })],ids:=[],pids:=[],nroots:=82 }
noncomputable def zf38 (n:Nat) (x:List zt19):Option (Int):=evalF zf38.C zf38.A Tryz.f34 zf38.ps zf38.res n x
noncomputable def zf38.K0 (_:Nat):Kont (Int):=finK zf38.C (Func.results Tryz.f34).toList zf38.ps zf38.res
noncomputable def zf38.K1 (n:Nat):Kont (Int):=seqK (fun s' k=>joinE zf38.A.joins (codeAt Tryz.f34 [1,1,1]) (fun s''=>evalC zf38.C zf38.A n (codeAt Tryz.f34 [1,1,1]) s'' k) s') (zf38.K0 n)
noncomputable def zf38.K2 (n:Nat):Kont (Int):=blockK 0 (zf38.K1 n)
noncomputable def zf38.l3 (n m3:Nat) (x3:Int) (x6:List zt19) (x7 x8:Int):Option (Int):=loopE (cutAt zf38.A.loops (codeAt Tryz.f34 [1,1,0,1,0,0])) (fun s k=>evalC zf38.C zf38.A n (codeAt Tryz.f34 [1,1,0,1,0,0]) s k) m3 (St.of 18 82 [(3,.val (.int .i64) x3),(6,.val (.slice zt8) x6),(7,.val (.int .i64) x7),(8,.val (.int .i64) x8)] [] []) (zf38.K2 n)
theorem zf38.eq (n:Nat) (x0:List zt19):zf38 n x0=zf38.l3 n n (0) (x0) ((↑(List.length x0):Int)) (0):=by kernel_rfl
theorem zf38.l3_succ (n m3:Nat) (x3:Int) (x6:List zt19) (x7 x8:Int):zf38.l3 n (m3+1) x3 x6 x7 x8=(if x8<x7 then (if 0≤x8 then (if x8<(↑(List.length x6):Int) then zf38.l3 n m3 (Go.RowKit.wrap64 (x3+Prod.fst (Prod.snd (List.getD x6 (Int.toNat x8) (0,0,[]))))) (x6) (x7) (Go.RowKit.wrap64 (x8+1)) else none) else none) else some (x3)):=by kernel_rfl
noncomputable abbrev zf38.sg (n:Nat):Sig:=⟨zf38.ps,zf38.res,zf38 n⟩
theorem zf38.call:Callable Tryz.prog 34:=⟨Tryz.f34,Tryz.func34,by kernel_rfl,by kernel_rfl⟩
theorem zf38.ok (n:Nat):FC Tryz.prog [] 34 (zf38.sg n):=
  evalF_ok (C:=zf38.C) ⟨tb_ok,fun n _ _ h=>tabOk (l:=[]) (all_nil) h,mixed,ar_ok,bld_ok,pts_ok⟩ zf38.A Tryz.func34 zf38.ps zf38.res n
abbrev zf44.ps:List Pm:=[.arg (.v (.slice (.int .i64)))]
abbrev zf44.res:List M:=[.v (.int .i64)]
noncomputable def zf44.C:Cfg:={ tb:=tb,tab:=fun n f=>Refl.look [] f,gl:=[],ar:=ar,bld:=bld,pts:=pts }
noncomputable def zf44.A:Ann:={ joins:=[],loops:=[(3,{ live:=[3,6,7,8],base:=17 })],ids:=[],pids:=[],nroots:=81 }
noncomputable def zf44 (n:Nat) (x:List Int):Option (Int):=evalF zf44.C zf44.A Tryz.f35 zf44.ps zf44.res n x
noncomputable def zf44.K0 (_:Nat):Kont (Int):=finK zf44.C (Func.results Tryz.f35).toList zf44.ps zf44.res
noncomputable def zf44.K1 (n:Nat):Kont (Int):=seqK (fun s' k=>joinE zf44.A.joins (codeAt Tryz.f35 [1,1,1]) (fun s''=>evalC zf44.C zf44.A n (codeAt Tryz.f35 [1,1,1]) s'' k) s') (zf44.K0 n)
noncomputable def zf44.K2 (n:Nat):Kont (Int):=blockK 0 (zf44.K1 n)
noncomputable def zf44.l3 (n m3:Nat) (x3:Int) (x6:List Int) (x7 x8:Int):Option (Int):=loopE (cutAt zf44.A.loops (codeAt Tryz.f35 [1,1,0,1,0,0])) (fun s k=>evalC zf44.C zf44.A n (codeAt Tryz.f35 [1,1,0,1,0,0]) s k) m3 (St.of 17 81 [(3,.val (.int .i64) x3),(6,.val (.slice (.int .i64)) x6),(7,.val (.int .i64) x7),(8,.val (.int .i64) x8)] [] []) (zf44.K2 n)
theorem zf44.eq (n:Nat) (x0:List Int):zf44 n x0=zf44.l3 n n (0) (x0) ((↑(List.length x0):Int)) (0):=by kernel_rfl
theorem zf44.l3_succ (n m3:Nat) (x3:Int) (x6:List Int) (x7 x8:Int):zf44.l3 n (m3+1) x3 x6 x7 x8=(if x8<x7 then (if 0≤x8 then (if x8<(↑(List.length x6):Int) then zf44.l3 n m3 (Go.RowKit.wrap64 (x3+List.getD x6 (Int.toNat x8) 0)) (x6) (x7) (Go.RowKit.wrap64 (x8+1)) else none) else none) else some (x3)):=by kernel_rfl
noncomputable abbrev zf44.sg (n:Nat):Sig:=⟨zf44.ps,zf44.res,zf44 n⟩
theorem zf44.call:Callable Tryz.prog 35:=⟨Tryz.f35,Tryz.func35,by kernel_rfl,by kernel_rfl⟩
theorem zf44.ok (n:Nat):FC Tryz.prog [] 35 (zf44.sg n):=
  evalF_ok (C:=zf44.C) ⟨tb_ok,fun n _ _ h=>tabOk (l:=[]) (all_nil) h,mixed,ar_ok,bld_ok,pts_ok⟩ zf44.A Tryz.func35 zf44.ps zf44.res n
abbrev zf27.ps:List Pm:=[.arg (.v zt0)]
abbrev zf27.res:List M:=[.v .bool]
noncomputable def zf27.C:Cfg:={ tb:=tb,tab:=fun n f=>Refl.look [(32,(zf47.sg n)),(33,(zf28.sg n)),(34,(zf38.sg n)),(35,(zf44.sg n))] f,gl:=[],ar:=ar,bld:=bld,pts:=pts }
noncomputable def zf27.A:Ann:={ joins:=[],loops:=[],ids:=[(1,[(5,[]),(13,[])]),(5,[(47,[]),(51,[])])],pids:=[],nroots:=121 }
noncomputable def zf27 (n:Nat) (x:List Int × List zt19 × Int × Int × Int):Option (Bool):=evalF zf27.C zf27.A Tryz.f9 zf27.ps zf27.res n x
theorem zf27.eq (n:Nat) (x0:List Int × List zt19 × Int × Int × Int):zf27 n x0=((zf47 n x0.1).bind fun y0=>(if (!y0)=Bool.true then some (Bool.false) else ((zf28 n (x0.2.1,(↑(List.length x0.1):Int))).bind fun y1=>(if (!y1)=true then some (Bool.false) else (if x0.2.2.1<0 then some (Bool.false) else (if x0.2.2.1 > 1000000 then some (Bool.false) else (if x0.2.2.2.1<(-1000000) then some (Bool.false) else (if x0.2.2.2.1 > 1000000 then some (Bool.false) else (if x0.2.2.2.2≥0 then (if x0.2.2.2.2≤999 then ((zf38 n x0.2.1).bind fun y2=>((zf44 n x0.1).bind fun y3=>some (Decidable.decide (Go.RowKit.wrap64 (x0.2.2.1+y2)=Go.RowKit.wrap64 (y3+x0.2.2.2.1))))) else some (Bool.false)) else some (Bool.false)))))))))):=by kernel_rfl
noncomputable abbrev zf27.sg (n:Nat):Sig:=⟨zf27.ps,zf27.res,zf27 n⟩
theorem zf27.call:Callable Tryz.prog 9:=⟨Tryz.f9,Tryz.func9,by kernel_rfl,by kernel_rfl⟩
theorem zf27.ok (n:Nat):FC Tryz.prog [] 9 (zf27.sg n):=
  evalF_ok (C:=zf27.C) ⟨tb_ok,fun n _ _ h=>tabOk (l:=[(32,(zf47.sg n)),(33,(zf28.sg n)),(34,(zf38.sg n)),(35,(zf44.sg n))]) (all_cons ⟨zf47.ok n,zf47.call⟩ (all_cons ⟨zf28.ok n,zf28.call⟩ (all_cons ⟨zf38.ok n,zf38.call⟩ (all_cons ⟨zf44.ok n,zf44.call⟩ (all_nil))))) h,mixed,ar_ok,bld_ok,pts_ok⟩ zf27.A Tryz.func9 zf27.ps zf27.res n
abbrev zf52.ps:List Pm:=ixPs
abbrev zf52.res:List M:=ixRes
noncomputable def zf52 (n:Nat):ByteArray × ByteArray→Option Int:=ixRun
noncomputable abbrev zf52.sg (n:Nat):Sig:=⟨zf52.ps,zf52.res,zf52 n⟩
theorem zf52.call:Callable Tryz.prog 117:=⟨Tryz.f117,Tryz.func117,by kernel_rfl,by kernel_rfl⟩
theorem zf52.ok (n:Nat):FC Tryz.prog [] 117 (zf52.sg n):=ixl_FC Tryz.lays219
abbrev zf49.ps:List Pm:=[.arg (.v .str),.arg (.v .str)]
abbrev zf49.res:List M:=[.v .str,.v .str,.v .bool]
noncomputable def zf49.C:Cfg:={ tb:=tb,tab:=fun n f=>Refl.look [(117,(zf52.sg n))] f,gl:=[],ar:=ar,bld:=bld,pts:=pts }
noncomputable def zf49.A:Ann:={ joins:=[],loops:=[],ids:=[(1,[(10,[])])],pids:=[],nroots:=87 }
noncomputable def zf49 (n:Nat) (x:ByteArray × ByteArray):Option (ByteArray × ByteArray × Bool):=evalF zf49.C zf49.A Tryz.f78 zf49.ps zf49.res n x
theorem zf49.eq (n:Nat) (x0 x1:ByteArray):zf49 n (x0,x1)=((zf52 n (x0,x1)).bind fun y0=>(if y0≥0 then (if 0≤y0 then (if y0≤(↑(ByteArray.size x0):Int) then (if 0≤Go.RowKit.wrap64 (y0+(↑(ByteArray.size x1):Int)) then (if Go.RowKit.wrap64 (y0+(↑(ByteArray.size x1):Int))≤(↑(ByteArray.size x0):Int) then some ((ByteArray.extract x0 0 (Int.toNat y0),ByteArray.extract x0 (Int.toNat (Go.RowKit.wrap64 (y0+(↑(ByteArray.size x1):Int)))) (ByteArray.size x0),Bool.true)) else none) else none) else none) else none) else some ((x0,{ data:=#[] },Bool.false)))):=by kernel_rfl
noncomputable abbrev zf49.sg (n:Nat):Sig:=⟨zf49.ps,zf49.res,zf49 n⟩
theorem zf49.call:Callable Tryz.prog 78:=⟨Tryz.f78,Tryz.func78,by kernel_rfl,by kernel_rfl⟩
theorem zf49.ok (n:Nat):FC Tryz.prog [] 78 (zf49.sg n):=
  evalF_ok (C:=zf49.C) ⟨tb_ok,fun n _ _ h=>tabOk (l:=[(117,(zf52.sg n))]) (all_cons ⟨zf52.ok n,zf52.call⟩ (all_nil)) h,mixed,ar_ok,bld_ok,pts_ok⟩ zf49.A Tryz.func78 zf49.ps zf49.res n
abbrev zf132.ps:List Pm:=[.arg (.v .str),.arg (.v .str)]
abbrev zf132.res:List M:=[.v .str,.v .str,.v .bool]
noncomputable def zf132.C:Cfg:={ tb:=tb,tab:=fun n f=>Refl.look [(78,(zf49.sg n))] f,gl:=[],ar:=ar,bld:=bld,pts:=pts }
noncomputable def zf132.A:Ann:={ joins:=[],loops:=[],ids:=[(1,[(9,[])])],pids:=[],nroots:=77 }
noncomputable def zf132 (n:Nat) (x:ByteArray × ByteArray):Option (ByteArray × ByteArray × Bool):=evalF zf132.C zf132.A Tryz.f38 zf132.ps zf132.res n x
theorem zf132.eq (n:Nat) (x0 x1:ByteArray):zf132 n (x0,x1)=((zf49 n (x0,x1)).bind fun y0=>some ((y0.1,y0.2.1,y0.2.2))):=by kernel_rfl
noncomputable abbrev zf132.sg (n:Nat):Sig:=⟨zf132.ps,zf132.res,zf132 n⟩
theorem zf132.call:Callable Tryz.prog 38:=⟨Tryz.f38,Tryz.func38,by kernel_rfl,by kernel_rfl⟩
theorem zf132.ok (n:Nat):FC Tryz.prog [] 38 (zf132.sg n):=
  evalF_ok (C:=zf132.C) ⟨tb_ok,fun n _ _ h=>tabOk (l:=[(78,(zf49.sg n))]) (all_cons ⟨zf49.ok n,zf49.call⟩ (all_nil)) h,mixed,ar_ok,bld_ok,pts_ok⟩ zf132.A Tryz.func38 zf132.ps zf132.res n
abbrev zf136.ps:List Pm:=[.arg (.v .str),.arg (.v (.int .i64))]
abbrev zf136.res:List M:=[(.own .str 9)]
noncomputable def zf136 (n:Nat):ByteArray × Int→Option (List ByteArray):=fun _=>none
noncomputable abbrev zf136.sg (n:Nat):Sig:=⟨zf136.ps,zf136.res,zf136 n⟩
theorem zf136.call:Callable Tryz.prog 147:=⟨Tryz.f147,Tryz.func147,by kernel_rfl,by kernel_rfl⟩
theorem zf136.ok (n:Nat):FC Tryz.prog [] 147 (zf136.sg n):=never_FC
abbrev zf131.ps:List Pm:=ixPs
abbrev zf131.res:List M:=ixRes
noncomputable def zf131 (n:Nat):ByteArray × ByteArray→Option Int:=ctRun
noncomputable abbrev zf131.sg (n:Nat):Sig:=⟨zf131.ps,zf131.res,zf131 n⟩
theorem zf131.call:Callable Tryz.prog 148:=⟨Tryz.f148,Tryz.func148,by kernel_rfl,by kernel_rfl⟩
theorem zf131.ok (n:Nat):FC Tryz.prog [] 148 (zf131.sg n):=ct_FC Tryz.lays138
abbrev zf134.ps:List Pm:=ixPs
abbrev zf134.res:List M:=ixRes
noncomputable def zf134 (n:Nat):ByteArray × ByteArray→Option Int:=ixRun
noncomputable abbrev zf134.sg (n:Nat):Sig:=⟨zf134.ps,zf134.res,zf134 n⟩
theorem zf134.call:Callable Tryz.prog 149:=⟨Tryz.f149,Tryz.func149,by kernel_rfl,by kernel_rfl⟩
theorem zf134.ok (n:Nat):FC Tryz.prog [] 149 (zf134.sg n):=ix_FC Tryz.lays143
abbrev zf137.ps:List Pm:=[.arg (.v .str),.arg (.v .str),.arg (.v (.int .i64)),.arg (.v (.int .i64))]
abbrev zf137.res:List M:=[(.own .str 9)]
noncomputable def zf137.C:Cfg:={ tb:=tb,tab:=fun n f=>Refl.look [(147,(zf136.sg n)),(148,(zf131.sg n)),(149,(zf134.sg n))] f,gl:=[],ar:=ar,bld:=bld,pts:=pts }
noncomputable def zf137.A:Ann:={ joins:=[],loops:=[(11,{ live:=[0,1,2,3,9,10],base:=66 })],ids:=[(6,[(23,[])]),(12,[(39,[])])],pids:=[],nroots:=130 }
noncomputable def zf137 (n:Nat) (x:ByteArray × ByteArray × Int × Int):Option (List ByteArray):=evalF zf137.C zf137.A Tryz.f118 zf137.ps zf137.res n x
noncomputable def zf137.K0 (_:Nat):Kont (List ByteArray):=finK zf137.C (Func.results Tryz.f118).toList zf137.ps zf137.res
noncomputable def zf137.K1 (n:Nat):Kont (List ByteArray):=seqK (fun s' k=>joinE zf137.A.joins (codeAt Tryz.f118 [1,1,1,1,1,1,1,1,1]) (fun s''=>evalC zf137.C zf137.A n (codeAt Tryz.f118 [1,1,1,1,1,1,1,1,1]) s'' k) s') (zf137.K0 n)
noncomputable def zf137.K2 (n:Nat):Kont (List ByteArray):=blockK 0 (zf137.K1 n)
noncomputable def zf137.l11 (n m11:Nat) (x0 x1:ByteArray) (x2 x3 x10:Int) (r66:List ByteArray):Option (List ByteArray):=loopE (cutAt zf137.A.loops (codeAt Tryz.f118 [1,1,1,1,1,1,1,1,0,0,0])) (fun s k=>evalC zf137.C zf137.A n (codeAt Tryz.f118 [1,1,1,1,1,1,1,1,0,0,0]) s k) m11 (St.of 66 130 [(0,.val .str x0),(1,.val .str x1),(2,.val (.int .i64) x2),(3,.val (.int .i64) x3),(9,.own 66),(10,.val (.int .i64) x10)] [(66,.row .str 9 r66)] []) (zf137.K2 n)
theorem zf137.eq (n:Nat) (x0 x1:ByteArray) (x2 x3:Int):zf137 n (x0,x1,x2,x3)=(if x3=0 then some ([]) else (if x1={ data:=#[] } then ((zf136 n (x0,x3)).bind fun y0=>some (y0)) else (if x3<0 then ((zf131 n (x0,x1)).bind fun y1=>(if 0≤Go.Refl.mn (Go.RowKit.wrap64 (y1+1)) (Go.RowKit.wrap64 ((↑(ByteArray.size x0):Int)+1)) then (if Go.Refl.mn (Go.RowKit.wrap64 (y1+1)) (Go.RowKit.wrap64 ((↑(ByteArray.size x0):Int)+1))≤Go.Refl.mn (Go.RowKit.wrap64 (y1+1)) (Go.RowKit.wrap64 ((↑(ByteArray.size x0):Int)+1)) then (if Go.Refl.mn (Go.RowKit.wrap64 (y1+1)) (Go.RowKit.wrap64 ((↑(ByteArray.size x0):Int)+1))≤(↑Go.Refl.maxN:Int) then zf137.l11 n n (x0) (x1) (x2) (Go.RowKit.wrap64 (Go.Refl.mn (Go.RowKit.wrap64 (y1+1)) (Go.RowKit.wrap64 ((↑(ByteArray.size x0):Int)+1))-1)) (0) (List.replicate (Int.toNat (Go.Refl.mn (Go.RowKit.wrap64 (y1+1)) (Go.RowKit.wrap64 ((↑(ByteArray.size x0):Int)+1)))) ByteArray.empty) else none) else none) else none)) else (if 0≤Go.Refl.mn x3 (Go.RowKit.wrap64 ((↑(ByteArray.size x0):Int)+1)) then (if Go.Refl.mn x3 (Go.RowKit.wrap64 ((↑(ByteArray.size x0):Int)+1))≤Go.Refl.mn x3 (Go.RowKit.wrap64 ((↑(ByteArray.size x0):Int)+1)) then (if Go.Refl.mn x3 (Go.RowKit.wrap64 ((↑(ByteArray.size x0):Int)+1))≤(↑Go.Refl.maxN:Int) then zf137.l11 n n (x0) (x1) (x2) (Go.RowKit.wrap64 (Go.Refl.mn x3 (Go.RowKit.wrap64 ((↑(ByteArray.size x0):Int)+1))-1)) (0) (List.replicate (Int.toNat (Go.Refl.mn x3 (Go.RowKit.wrap64 ((↑(ByteArray.size x0):Int)+1)))) ByteArray.empty) else none) else none) else none)))):=by kernel_rfl
theorem zf137.l11_succ (n m11:Nat) (x0 x1:ByteArray) (x2 x3 x10:Int) (r66:List ByteArray):zf137.l11 n (m11+1) x0 x1 x2 x3 x10 r66=(if x10<x3 then ((zf134 n (x0,x1)).bind fun y2=>(if y2<0 then (if 0≤x10 then (if x10<(↑(List.length r66):Int) then (if 0≤Go.RowKit.wrap64 (x10+1) then (if Go.RowKit.wrap64 (x10+1)≤(↑(List.length (List.set r66 (Int.toNat x10) x0)):Int) then some (List.take (Int.toNat (Go.RowKit.wrap64 (x10+1))-0) (List.set r66 (Int.toNat x10) x0)) else none) else none) else none) else none) else (if 0≤Go.RowKit.wrap64 (y2+x2) then (if Go.RowKit.wrap64 (y2+x2)≤(↑(ByteArray.size x0):Int) then (if 0≤x10 then (if x10<(↑(List.length r66):Int) then (if 0≤Go.RowKit.wrap64 (y2+(↑(ByteArray.size x1):Int)) then (if Go.RowKit.wrap64 (y2+(↑(ByteArray.size x1):Int))≤(↑(ByteArray.size x0):Int) then zf137.l11 n m11 (ByteArray.extract x0 (Int.toNat (Go.RowKit.wrap64 (y2+(↑(ByteArray.size x1):Int)))) (ByteArray.size x0)) (x1) (x2) (x3) (Go.RowKit.wrap64 (x10+1)) (List.set r66 (Int.toNat x10) (ByteArray.extract x0 0 (Int.toNat (Go.RowKit.wrap64 (y2+x2))))) else none) else none) else none) else none) else none) else none))) else (if 0≤x10 then (if x10<(↑(List.length r66):Int) then (if 0≤Go.RowKit.wrap64 (x10+1) then (if Go.RowKit.wrap64 (x10+1)≤(↑(List.length (List.set r66 (Int.toNat x10) x0)):Int) then some (List.take (Int.toNat (Go.RowKit.wrap64 (x10+1))-0) (List.set r66 (Int.toNat x10) x0)) else none) else none) else none) else none)):=by kernel_rfl
noncomputable abbrev zf137.sg (n:Nat):Sig:=⟨zf137.ps,zf137.res,zf137 n⟩
theorem zf137.call:Callable Tryz.prog 118:=⟨Tryz.f118,Tryz.func118,by kernel_rfl,by kernel_rfl⟩
theorem zf137.ok (n:Nat):FC Tryz.prog [] 118 (zf137.sg n):=
  evalF_ok (C:=zf137.C) ⟨tb_ok,fun n _ _ h=>tabOk (l:=[(147,(zf136.sg n)),(148,(zf131.sg n)),(149,(zf134.sg n))]) (all_cons ⟨zf136.ok n,zf136.call⟩ (all_cons ⟨zf131.ok n,zf131.call⟩ (all_cons ⟨zf134.ok n,zf134.call⟩ (all_nil)))) h,mixed,ar_ok,bld_ok,pts_ok⟩ zf137.A Tryz.func118 zf137.ps zf137.res n
abbrev zf135.ps:List Pm:=[.arg (.v .str),.arg (.v .str)]
abbrev zf135.res:List M:=[(.own .str 9)]
noncomputable def zf135.C:Cfg:={ tb:=tb,tab:=fun n f=>Refl.look [(118,(zf137.sg n))] f,gl:=[],ar:=ar,bld:=bld,pts:=pts }
noncomputable def zf135.A:Ann:={ joins:=[],loops:=[],ids:=[],pids:=[],nroots:=72 }
noncomputable def zf135 (n:Nat) (x:ByteArray × ByteArray):Option (List ByteArray):=evalF zf135.C zf135.A Tryz.f79 zf135.ps zf135.res n x
theorem zf135.eq (n:Nat) (x0 x1:ByteArray):zf135 n (x0,x1)=((zf137 n (x0,x1,0,(-1))).bind fun y0=>some (y0)):=by kernel_rfl
noncomputable abbrev zf135.sg (n:Nat):Sig:=⟨zf135.ps,zf135.res,zf135 n⟩
theorem zf135.call:Callable Tryz.prog 79:=⟨Tryz.f79,Tryz.func79,by kernel_rfl,by kernel_rfl⟩
theorem zf135.ok (n:Nat):FC Tryz.prog [] 79 (zf135.sg n):=
  evalF_ok (C:=zf135.C) ⟨tb_ok,fun n _ _ h=>tabOk (l:=[(118,(zf137.sg n))]) (all_cons ⟨zf137.ok n,zf137.call⟩ (all_nil)) h,mixed,ar_ok,bld_ok,pts_ok⟩ zf135.A Tryz.func79 zf135.ps zf135.res n
abbrev zf48.ps:List Pm:=[.arg (.v (.slice .str)),.arg (.v (.int .i64))]
abbrev zf48.res:List M:=[.v .str]
noncomputable def zf48.C:Cfg:={ tb:=tb,tab:=fun n f=>Refl.look [] f,gl:=[],ar:=ar,bld:=bld,pts:=pts }
noncomputable def zf48.A:Ann:={ joins:=[],loops:=[],ids:=[],pids:=[],nroots:=77 }
noncomputable def zf48 (n:Nat) (x:List ByteArray × Int):Option (ByteArray):=evalF zf48.C zf48.A Tryz.f119 zf48.ps zf48.res n x
theorem zf48.eq (n:Nat) (x0:List ByteArray) (x1:Int):zf48 n (x0,x1)=(if x1≥(↑(List.length x0):Int) then some ({ data:=#[] }) else (if 0≤x1 then (if x1<(↑(List.length x0):Int) then some (List.getD x0 (Int.toNat x1) ByteArray.empty) else none) else none)):=by kernel_rfl
noncomputable abbrev zf48.sg (n:Nat):Sig:=⟨zf48.ps,zf48.res,zf48 n⟩
theorem zf48.call:Callable Tryz.prog 119:=⟨Tryz.f119,Tryz.func119,by kernel_rfl,by kernel_rfl⟩
theorem zf48.ok (n:Nat):FC Tryz.prog [] 119 (zf48.sg n):=
  evalF_ok (C:=zf48.C) ⟨tb_ok,fun n _ _ h=>tabOk (l:=[]) (all_nil) h,mixed,ar_ok,bld_ok,pts_ok⟩ zf48.A Tryz.func119 zf48.ps zf48.res n
abbrev zf127.ps:List Pm:=atPs
abbrev zf127.res:List M:=atRes
noncomputable def zf127 (n:Nat):ByteArray→Option (Int × List Int):=fun x=>atRun x
noncomputable abbrev zf127.sg (n:Nat):Sig:=⟨zf127.ps,zf127.res,zf127 n⟩
theorem zf127.call:Callable Tryz.prog 128:=⟨Tryz.f128,Tryz.func128,by kernel_rfl,by kernel_rfl⟩
theorem zf127.ok (n:Nat):FC Tryz.prog [g3,g4] 128 (zf127.sg n):=at_FC Tryz.laysC172 (.head _) (.tail _ (.head _))
abbrev zf128.ps:List Pm:=itPs
abbrev zf128.res:List M:=itRes
noncomputable def zf128 (n:Nat):Int→Option ByteArray:=itRun
noncomputable abbrev zf128.sg (n:Nat):Sig:=⟨zf128.ps,zf128.res,zf128 n⟩
theorem zf128.call:Callable Tryz.prog 42:=⟨Tryz.f42,Tryz.func42,by kernel_rfl,by kernel_rfl⟩
theorem zf128.ok (n:Nat):FC Tryz.prog [g2] 42 (zf128.sg n):=it_FC Tryz.laysM171 (.head _) (by kernel_rfl)
abbrev zf40.ps:List Pm:=[.arg (.v .str),.arg (.v (.int .i64))]
abbrev zf40.res:List M:=[.v (.int .i64)]
noncomputable def zf40.C:Cfg:={ tb:=tb,tab:=fun n f=>Refl.look [(128,(zf127.sg n)),(42,(zf128.sg n))] f,gl:=[g2,g3,g4],ar:=ar,bld:=bld,pts:=pts }
noncomputable def zf40.A:Ann:={ joins:=[],loops:=[],ids:=[(1,[(9,[])]),(2,[(25,[])])],pids:=[],nroots:=94 }
noncomputable def zf40 (n:Nat) (x:ByteArray × Int):Option (Int):=evalF zf40.C zf40.A Tryz.f93 zf40.ps zf40.res n x
theorem zf40.eq (n:Nat) (x0:ByteArray) (x1:Int):zf40 n (x0,x1)=((zf127 n x0).bind fun y0=>(if (!List.isEmpty y0.2)=Bool.true then some ((-1)) else (if y0.1<0 then some ((-1)) else (if y0.1 > x1 then some ((-1)) else ((zf128 n y0.1).bind fun y1=>(if y1=x0 then some y0.1 else some ((-1)))))))):=by kernel_rfl
noncomputable abbrev zf40.sg (n:Nat):Sig:=⟨zf40.ps,zf40.res,zf40 n⟩
theorem zf40.call:Callable Tryz.prog 93:=⟨Tryz.f93,Tryz.func93,by kernel_rfl,by kernel_rfl⟩
theorem zf40.ok (n:Nat):FC Tryz.prog [g2,g3,g4] 93 (zf40.sg n):=
  evalF_ok (C:=zf40.C) ⟨tb_ok,fun n _ _ h=>tabOk (l:=[(128,(zf127.sg n)),(42,(zf128.sg n))]) (all_cons ⟨(.mono (gl:=[g3,g4]) (gl':=[g2,g3,g4]) (all_cons (.tail _ (.head _)) (all_cons (.tail _ (.tail _ (.head _))) (all_nil))) (zf127.ok n)),zf127.call⟩ (all_cons ⟨(.mono (gl:=[g2]) (gl':=[g2,g3,g4]) (all_cons (.head _) (all_nil)) (zf128.ok n)),zf128.call⟩ (all_nil))) h,mixed,ar_ok,bld_ok,pts_ok⟩ zf40.A Tryz.func93 zf40.ps zf40.res n
abbrev zf25.ps:List Pm:=[.arg (.v (.int .i64))]
abbrev zf25.res:List M:=[.v .str]
noncomputable def zf25.C:Cfg:={ tb:=tb,tab:=fun n f=>Refl.look [(42,(zf128.sg n))] f,gl:=[g2],ar:=ar,bld:=bld,pts:=pts }
noncomputable def zf25.A:Ann:={ joins:=[],loops:=[],ids:=[(3,[(12,[])]),(6,[(20,[])])],pids:=[],nroots:=88 }
noncomputable def zf25 (n:Nat) (x:Int):Option (ByteArray):=evalF zf25.C zf25.A Tryz.f13 zf25.ps zf25.res n x
theorem zf25.eq (n:Nat) (x0:Int):zf25 n x0=(if x0<0 then some ({ data:=#[] }) else (if x0 > 1000000 then some ({ data:=#[] }) else ((zf128 n (Int.tmod x0 100)).bind fun y0=>(if (↑(ByteArray.size y0):Int)<2 then (if ByteArray.size { data:=#[(48:UInt8)] }+ByteArray.size y0≤Go.Refl.maxN then ((zf128 n (Go.RowKit.wrap64 (Int.tdiv x0 100))).bind fun y1=>(if ByteArray.size y1+ByteArray.size { data:=#[(46:UInt8)] }≤Go.Refl.maxN then (if ByteArray.size (y1++{ data:=#[(46:UInt8)] })+ByteArray.size ({ data:=#[(48:UInt8)] }++y0)≤Go.Refl.maxN then some (y1++{ data:=#[(46:UInt8)] }++({ data:=#[(48:UInt8)] }++y0)) else none) else none)) else none) else ((zf128 n (Go.RowKit.wrap64 (Int.tdiv x0 100))).bind fun y2=>(if ByteArray.size y2+ByteArray.size { data:=#[(46:UInt8)] }≤Go.Refl.maxN then (if ByteArray.size (y2++{ data:=#[(46:UInt8)] })+ByteArray.size y0≤Go.Refl.maxN then some (y2++{ data:=#[(46:UInt8)] }++y0) else none) else none)))))):=by kernel_rfl
noncomputable abbrev zf25.sg (n:Nat):Sig:=⟨zf25.ps,zf25.res,zf25 n⟩
theorem zf25.call:Callable Tryz.prog 13:=⟨Tryz.f13,Tryz.func13,by kernel_rfl,by kernel_rfl⟩
theorem zf25.ok (n:Nat):FC Tryz.prog [g2] 13 (zf25.sg n):=
  evalF_ok (C:=zf25.C) ⟨tb_ok,fun n _ _ h=>tabOk (l:=[(42,(zf128.sg n))]) (all_cons ⟨zf128.ok n,zf128.call⟩ (all_nil)) h,mixed,ar_ok,bld_ok,pts_ok⟩ zf25.A Tryz.func13 zf25.ps zf25.res n
abbrev zf19.ps:List Pm:=[.arg (.v .str)]
abbrev zf19.res:List M:=[.v (.int .i64)]
noncomputable def zf19.C:Cfg:={ tb:=tb,tab:=fun n f=>Refl.look [(13,(zf25.sg n))] f,gl:=[g2],ar:=ar,bld:=bld,pts:=pts }
noncomputable def zf19.A:Ann:={ joins:=[],loops:=[(5,{ live:=[0,3,22,23],base:=55 })],ids:=[(12,[(51,[])])],pids:=[],nroots:=119 }
noncomputable def zf19 (n:Nat) (x:ByteArray):Option (Int):=evalF zf19.C zf19.A Tryz.f120 zf19.ps zf19.res n x
noncomputable def zf19.K0 (_:Nat):Kont (Int):=finK zf19.C (Func.results Tryz.f120).toList zf19.ps zf19.res
noncomputable def zf19.K1 (n:Nat):Kont (Int):=seqK (fun s' k=>joinE zf19.A.joins (codeAt Tryz.f120 [1,1,1,1]) (fun s''=>evalC zf19.C zf19.A n (codeAt Tryz.f120 [1,1,1,1]) s'' k) s') (zf19.K0 n)
noncomputable def zf19.K2 (n:Nat):Kont (Int):=blockK 0 (zf19.K1 n)
noncomputable def zf19.l5 (n m5:Nat) (x0:ByteArray) (x3 x22 x23:Int):Option (Int):=loopE (cutAt zf19.A.loops (codeAt Tryz.f120 [1,1,1,0,1,0,0])) (fun s k=>evalC zf19.C zf19.A n (codeAt Tryz.f120 [1,1,1,0,1,0,0]) s k) m5 (St.of 55 119 [(0,.val .str x0),(3,.val (.int .i64) x3),(22,.val (.int .i64) x22),(23,.val (.int .i64) x23)] [] []) (zf19.K2 n)
theorem zf19.eq (n:Nat) (x0:ByteArray):zf19 n x0=(if (↑(ByteArray.size x0):Int)<4 then some ((-1)) else (if (↑(ByteArray.size x0):Int) > 8 then some ((-1)) else (if 0≤Go.RowKit.wrap64 ((↑(ByteArray.size x0):Int)-3) then (if Go.RowKit.wrap64 ((↑(ByteArray.size x0):Int)-3)<(↑(ByteArray.size x0):Int) then (if (↑(UInt8.toNat (List.getD (Array.toList (ByteArray.data x0)) (Int.toNat (Go.RowKit.wrap64 ((↑(ByteArray.size x0):Int)-3))) (0:UInt8))):Int)=46 then zf19.l5 n n (x0) (0) ((↑(ByteArray.size x0):Int)) (0) else some ((-1))) else none) else none))):=by kernel_rfl
theorem zf19.l5_succ (n m5:Nat) (x0:ByteArray) (x3 x22 x23:Int):zf19.l5 n (m5+1) x0 x3 x22 x23=(if x23<x22 then (if x23=Go.RowKit.wrap64 ((↑(ByteArray.size x0):Int)-3) then zf19.l5 n m5 (x0) (x3) (x22) (Go.RowKit.wrap64 (x23+1)) else (if 0≤x23 then (if x23<(↑(ByteArray.size x0):Int) then (if (↑(UInt8.toNat (List.getD (Array.toList (ByteArray.data x0)) (Int.toNat x23) (0:UInt8))):Int)<48 then some ((-1)) else (if 0≤x23 then (if x23<(↑(ByteArray.size x0):Int) then (if (↑(UInt8.toNat (List.getD (Array.toList (ByteArray.data x0)) (Int.toNat x23) (0:UInt8))):Int) > 57 then some ((-1)) else (if 0≤x23 then (if x23<(↑(ByteArray.size x0):Int) then zf19.l5 n m5 (x0) (Go.RowKit.wrap64 (Go.RowKit.wrap64 (x3*10)+Go.RowKit.wrap64 (((↑(UInt8.toNat (List.getD (Array.toList (ByteArray.data x0)) (Int.toNat x23) (0:UInt8))):Int)-48) % 256))) (x22) (Go.RowKit.wrap64 (x23+1)) else none) else none)) else none) else none)) else none) else none)) else ((zf25 n x3).bind fun y0=>(if y0=x0 then some (x3) else some ((-1))))):=by kernel_rfl
noncomputable abbrev zf19.sg (n:Nat):Sig:=⟨zf19.ps,zf19.res,zf19 n⟩
theorem zf19.call:Callable Tryz.prog 120:=⟨Tryz.f120,Tryz.func120,by kernel_rfl,by kernel_rfl⟩
theorem zf19.ok (n:Nat):FC Tryz.prog [g2] 120 (zf19.sg n):=
  evalF_ok (C:=zf19.C) ⟨tb_ok,fun n _ _ h=>tabOk (l:=[(13,(zf25.sg n))]) (all_cons ⟨zf25.ok n,zf25.call⟩ (all_nil)) h,mixed,ar_ok,bld_ok,pts_ok⟩ zf19.A Tryz.func120 zf19.ps zf19.res n
abbrev zf39.ps:List Pm:=[.arg (.v (.int .i64)),.arg (.v (.slice .str))]
abbrev zf39.res:List M:=[.v zt1]
noncomputable def zf39.C:Cfg:={ tb:=tb,tab:=fun n f=>Refl.look [(119,(zf48.sg n)),(93,(zf40.sg n)),(120,(zf19.sg n))] f,gl:=[g2,g3,g4],ar:=ar,bld:=bld,pts:=pts }
noncomputable def zf39.A:Ann:={ joins:=[],loops:=[(17,{ live:=[4,5,53,54,55],base:=68,growB:=[(5,4,96,(.int .i64),3)] })],ids:=[(7,[(18,[]),(19,[]),(21,[]),(22,[])]),(9,[(27,[]),(28,[])]),(12,[(34,[]),(35,[])]),(14,[(41,[]),(42,[])]),(19,[(62,[]),(63,[])])],pids:=[],nroots:=132 }
noncomputable def zf39 (n:Nat) (x:Int × List ByteArray):Option zt14:=evalF zf39.C zf39.A Tryz.f80 zf39.ps zf39.res n x
noncomputable def zf39.K0 (_:Nat):Kont zt14:=finK zf39.C (Func.results Tryz.f80).toList zf39.ps zf39.res
noncomputable def zf39.K1 (n:Nat):Kont zt14:=seqK (fun s' k=>joinE zf39.A.joins (codeAt Tryz.f80 [1,1,1,1,1,1,1]) (fun s''=>evalC zf39.C zf39.A n (codeAt Tryz.f80 [1,1,1,1,1,1,1]) s'' k) s') (zf39.K0 n)
noncomputable def zf39.K2 (n:Nat):Kont zt14:=blockK 1 (zf39.K1 n)
noncomputable def zf39.K3 (n:Nat):Kont zt14:=blockK 2 (zf39.K2 n)
noncomputable def zf39.l17 (n m17:Nat) (x53:List ByteArray) (x54 x55:Int) (r68_0 r68_1:Int) (r68_2 r68_3:Int) (r68_5 r68_6:Int) (r69_0 r69_1:Int) (r69_2 r69_3:Int) (r69_5 r69_6:Int) (r70:List Int):Option zt14:=loopE (cutAt zf39.A.loops (codeAt Tryz.f80 [1,1,1,1,1,1,0,0,1,1,1,0,1,0,0])) (fun s k=>evalC zf39.C zf39.A n (codeAt Tryz.f80 [1,1,1,1,1,1,0,0,1,1,1,0,1,0,0]) s k) m17 (St.of 68 132 [(4,.ptr 68 0 0),(5,.ptr 69 0 0),(53,.val (.slice .str) x53),(54,.val (.int .i64) x54),(55,.val (.int .i64) x55)] [(68,.box 72 [.val (.int .i64) r68_0,.val (.int .i64) r68_1,.val (.int .i64) r68_2,.val (.int .i64) r68_3,.nils,.val (.int .i64) r68_5,.val (.int .i64) r68_6]),(69,.box 72 [.val (.int .i64) r69_0,.val (.int .i64) r69_1,.val (.int .i64) r69_2,.val (.int .i64) r69_3,.own 70,.val (.int .i64) r69_5,.val (.int .i64) r69_6]),(70,.row (.int .i64) 3 r70)] []) (zf39.K3 n)
theorem zf39.eq (n:Nat) (x0:Int) (x1:List ByteArray):zf39 n (x0,x1)=(if x0=0 then (if x0=0 then some ((x0,0,0,0,[],0,0)) else (if x0=6 then ((zf48 n (x1,1)).bind fun y0=>((zf40 n (y0,1000)).bind fun y1=>((zf48 n (x1,2)).bind fun y2=>((zf40 n (y2,1000)).bind fun y3=>some ((x0,0,0,0,[],y1,y3)))))) else ((zf48 n (x1,1)).bind fun y4=>((zf40 n (y4,99)).bind fun y5=>(if x0=5 then some ((x0,y5,0,0,[],0,0)) else ((zf48 n (x1,2)).bind fun y6=>((zf19 n y6).bind fun y7=>(if x0=4 then ((zf48 n (x1,3)).bind fun y8=>((zf19 n y8).bind fun y9=>some ((x0,y5,y7,y9,[],0,0)))) else (if x0=3 then (if (↑(List.length x1):Int) > 3 then (if 3≤(↑(List.length x1):Int) then zf39.l17 n n (List.drop (Int.toNat 3) x1) ((↑(List.length (List.drop (Int.toNat (3:Int)) x1)):Int)) (0) (0) (0) (0) (0) (0) (0) (x0) (y5) (y7) (0) (0) (0) ([]) else none) else some ((x0,y5,y7,0,[],0,0))) else some ((x0,y5,y7,0,[],0,0))))))))))) else (if x0=7 then some ((x0,0,0,0,[],0,0)) else (if x0=6 then ((zf48 n (x1,1)).bind fun y10=>((zf40 n (y10,1000)).bind fun y11=>((zf48 n (x1,2)).bind fun y12=>((zf40 n (y12,1000)).bind fun y13=>some ((x0,0,0,0,[],y11,y13)))))) else ((zf48 n (x1,1)).bind fun y14=>((zf40 n (y14,99)).bind fun y15=>(if x0=5 then some ((x0,y15,0,0,[],0,0)) else ((zf48 n (x1,2)).bind fun y16=>((zf19 n y16).bind fun y17=>(if x0=4 then ((zf48 n (x1,3)).bind fun y18=>((zf19 n y18).bind fun y19=>some ((x0,y15,y17,y19,[],0,0)))) else (if x0=3 then (if (↑(List.length x1):Int) > 3 then (if 3≤(↑(List.length x1):Int) then zf39.l17 n n (List.drop (Int.toNat 3) x1) ((↑(List.length (List.drop (Int.toNat (3:Int)) x1)):Int)) (0) (0) (0) (0) (0) (0) (0) (x0) (y15) (y17) (0) (0) (0) ([]) else none) else some ((x0,y15,y17,0,[],0,0))) else some ((x0,y15,y17,0,[],0,0)))))))))))):=by kernel_rfl
theorem zf39.l17_succ (n m17:Nat) (x53:List ByteArray) (x54 x55:Int) (r68_0 r68_1:Int) (r68_2 r68_3:Int) (r68_5 r68_6:Int) (r69_0 r69_1:Int) (r69_2 r69_3:Int) (r69_5 r69_6:Int) (r70:List Int):zf39.l17 n (m17+1) x53 x54 x55 r68_0 r68_1 r68_2 r68_3 r68_5 r68_6 r69_0 r69_1 r69_2 r69_3 r69_5 r69_6 r70=(if x55<x54 then (if 0≤x55 then (if x55<(↑(List.length x53):Int) then ((zf40 n (List.getD x53 (Int.toNat x55) ByteArray.empty,99)).bind fun y20=>(if List.length r70+List.length (List.set (List.replicate (1:Nat) (0:Int)) (0:Nat) y20)≤Go.Refl.maxN then zf39.l17 n m17 (x53) (x54) (Go.RowKit.wrap64 (x55+1)) (r68_0) (r68_1) (r68_2) (r68_3) (r68_5) (r68_6) (r69_0) (r69_1) (r69_2) (r69_3) (r69_5) (r69_6) (r70++List.set (List.replicate 1 0) 0 y20) else none)) else none) else none) else some ((r69_0,r69_1,r69_2,r69_3,r70,r69_5,r69_6))):=by kernel_rfl
noncomputable abbrev zf39.sg (n:Nat):Sig:=⟨zf39.ps,zf39.res,zf39 n⟩
theorem zf39.call:Callable Tryz.prog 80:=⟨Tryz.f80,Tryz.func80,by kernel_rfl,by kernel_rfl⟩
theorem zf39.ok (n:Nat):FC Tryz.prog [g2,g3,g4] 80 (zf39.sg n):=
  evalF_ok (C:=zf39.C) ⟨tb_ok,fun n _ _ h=>tabOk (l:=[(119,(zf48.sg n)),(93,(zf40.sg n)),(120,(zf19.sg n))]) (all_cons ⟨(.mono (gl:=[]) (gl':=[g2,g3,g4]) (all_nil) (zf48.ok n)),zf48.call⟩ (all_cons ⟨zf40.ok n,zf40.call⟩ (all_cons ⟨(.mono (gl:=[g2]) (gl':=[g2,g3,g4]) (all_cons (.head _) (all_nil)) (zf19.ok n)),zf19.call⟩ (all_nil)))) h,mixed,ar_ok,bld_ok,pts_ok⟩ zf39.A Tryz.func80 zf39.ps zf39.res n
abbrev zf29.ps:List Pm:=[.arg (.v zt16)]
abbrev zf29.res:List M:=[.v .bool]
noncomputable def zf29.C:Cfg:={ tb:=tb,tab:=fun n f=>Refl.look [] f,gl:=[],ar:=ar,bld:=bld,pts:=pts }
noncomputable def zf29.A:Ann:={ joins:=[],loops:=[],ids:=[],pids:=[],nroots:=87 }
noncomputable def zf29 (n:Nat) (x:Int × Int):Option (Bool):=evalF zf29.C zf29.A Tryz.f141 zf29.ps zf29.res n x
theorem zf29.eq (n:Nat) (x0:Int × Int):zf29 n x0=(if x0.2≥1 then (if x0.2≤1000 then (if x0.1≥0 then some (Decidable.decide (x0.1≤x0.2)) else some (Bool.false)) else some (Bool.false)) else some (Bool.false)):=by kernel_rfl
noncomputable abbrev zf29.sg (n:Nat):Sig:=⟨zf29.ps,zf29.res,zf29 n⟩
theorem zf29.call:Callable Tryz.prog 141:=⟨Tryz.f141,Tryz.func141,by kernel_rfl,by kernel_rfl⟩
theorem zf29.ok (n:Nat):FC Tryz.prog [] 141 (zf29.sg n):=
  evalF_ok (C:=zf29.C) ⟨tb_ok,fun n _ _ h=>tabOk (l:=[]) (all_nil) h,mixed,ar_ok,bld_ok,pts_ok⟩ zf29.A Tryz.func141 zf29.ps zf29.res n
abbrev zf130.ps:List Pm:=wsPs 58 5
abbrev zf130.res:List M:=wsRes
noncomputable def zf130 (n:Nat):List Int × ByteArray→Option (Int × List Int × List Int):=wsRun
noncomputable abbrev zf130.sg (n:Nat):Sig:=⟨zf130.ps,zf130.res,zf130 n⟩
theorem zf130.call:Callable Tryz.prog 25:=⟨Tryz.f25,Tryz.func25,by kernel_rfl,by kernel_rfl⟩
theorem zf130.ok (n:Nat):FC Tryz.prog [] 25 (zf130.sg n):=ws_FC Tryz.wsL Tryz.wsX
abbrev zf129.ps:List Pm:=stPs 58 5
abbrev zf129.res:List M:=stRes
noncomputable def zf129 (n:Nat):List Int→Option ByteArray:=stRun
noncomputable abbrev zf129.sg (n:Nat):Sig:=⟨zf129.ps,zf129.res,zf129 n⟩
theorem zf129.call:Callable Tryz.prog 27:=⟨Tryz.f27,Tryz.func27,by kernel_rfl,by kernel_rfl⟩
theorem zf129.ok (n:Nat):FC Tryz.prog [] 27 (zf129.sg n):=st_FC Tryz.lays169 Tryz.Builder_Extra_169
abbrev zf43.ps:List Pm:=[.arg (.v (.slice (.int .i64)))]
abbrev zf43.res:List M:=[.v .str,.v .bool]
noncomputable def zf43.C:Cfg:={ tb:=tb,tab:=fun n f=>Refl.look [(42,(zf128.sg n)),(25,(zf130.sg n)),(27,(zf129.sg n))] f,gl:=[g2],ar:=ar,bld:=bld,pts:=pts }
noncomputable def zf43.A:Ann:={ joins:=[],loops:=[(3,{ live:=[4,7,8,9],base:=25 })],ids:=[(1,[(4,[4,40])]),(7,[(20,[]),(22,[22])]),(9,[(24,[])])],pids:=[],nroots:=89 }
noncomputable def zf43 (n:Nat) (x:List Int):Option (ByteArray × Bool):=evalF zf43.C zf43.A Tryz.f150 zf43.ps zf43.res n x
noncomputable def zf43.K0 (_:Nat):Kont (ByteArray × Bool):=finK zf43.C (Func.results Tryz.f150).toList zf43.ps zf43.res
noncomputable def zf43.K1 (n:Nat):Kont (ByteArray × Bool):=seqK (fun s' k=>joinE zf43.A.joins (codeAt Tryz.f150 [1,1,1]) (fun s''=>evalC zf43.C zf43.A n (codeAt Tryz.f150 [1,1,1]) s'' k) s') (zf43.K0 n)
noncomputable def zf43.K2 (n:Nat):Kont (ByteArray × Bool):=blockK 0 (zf43.K1 n)
noncomputable def zf43.l3 (n m3:Nat) (x7:List Int) (x8 x9:Int) (r26:List Int):Option (ByteArray × Bool):=loopE (cutAt zf43.A.loops (codeAt Tryz.f150 [1,1,0,1,0,0])) (fun s k=>evalC zf43.C zf43.A n (codeAt Tryz.f150 [1,1,0,1,0,0]) s k) m3 (St.of 25 89 [(4,.ptr 25 0 0),(7,.val (.slice (.int .i64)) x7),(8,.val (.int .i64) x8),(9,.val (.int .i64) x9)] [(25,.box 58 [.optr 25,.own 26]),(26,.row (.int .u8) 5 r26)] []) (zf43.K2 n)
theorem zf43.eq (n:Nat) (x0:List Int):zf43 n x0=zf43.l3 n n (x0) ((↑(List.length x0):Int)) (0) ([]):=by kernel_rfl
theorem zf43.l3_succ (n m3:Nat) (x7:List Int) (x8 x9:Int) (r26:List Int):zf43.l3 n (m3+1) x7 x8 x9 r26=(if x9<x8 then (if 0≤x9 then (if x9<(↑(List.length x7):Int) then (if List.getD x7 (Int.toNat x9) 0<0 then some (({ data:=#[] },Bool.false)) else (if List.getD x7 (Int.toNat x9) 0 > 99 then some (({ data:=#[] },Bool.false)) else ((zf128 n (List.getD x7 (Int.toNat x9) 0)).bind fun y0=>(if ByteArray.size { data:=#[(32:UInt8)] }+ByteArray.size y0≤Go.Refl.maxN then ((zf130 n (r26,{ data:=#[(32:UInt8)] }++y0)).bind fun y1=>zf43.l3 n m3 (x7) (x8) (Go.RowKit.wrap64 (x9+1)) y1.2.2) else none)))) else none) else none) else ((zf129 n r26).bind fun y2=>some ((y2,Bool.true)))):=by kernel_rfl
noncomputable abbrev zf43.sg (n:Nat):Sig:=⟨zf43.ps,zf43.res,zf43 n⟩
theorem zf43.call:Callable Tryz.prog 150:=⟨Tryz.f150,Tryz.func150,by kernel_rfl,by kernel_rfl⟩
theorem zf43.ok (n:Nat):FC Tryz.prog [g2] 150 (zf43.sg n):=
  evalF_ok (C:=zf43.C) ⟨tb_ok,fun n _ _ h=>tabOk (l:=[(42,(zf128.sg n)),(25,(zf130.sg n)),(27,(zf129.sg n))]) (all_cons ⟨zf128.ok n,zf128.call⟩ (all_cons ⟨(.mono (gl:=[]) (gl':=[g2]) (all_nil) (zf130.ok n)),zf130.call⟩ (all_cons ⟨(.mono (gl:=[]) (gl':=[g2]) (all_nil) (zf129.ok n)),zf129.call⟩ (all_nil)))) h,mixed,ar_ok,bld_ok,pts_ok⟩ zf43.A Tryz.func150 zf43.ps zf43.res n
abbrev zf41.ps:List Pm:=[.arg (.v (.slice (.int .i64)))]
abbrev zf41.res:List M:=[.v .str,.v .bool]
noncomputable def zf41.C:Cfg:={ tb:=tb,tab:=fun n f=>Refl.look [(13,(zf25.sg n))] f,gl:=[g2],ar:=ar,bld:=bld,pts:=pts }
noncomputable def zf41.A:Ann:={ joins:=[],loops:=[(3,{ live:=[4,8,9,10],base:=24 })],ids:=[(5,[(15,[])])],pids:=[],nroots:=88 }
noncomputable def zf41 (n:Nat) (x:List Int):Option (ByteArray × Bool):=evalF zf41.C zf41.A Tryz.f151 zf41.ps zf41.res n x
noncomputable def zf41.K0 (_:Nat):Kont (ByteArray × Bool):=finK zf41.C (Func.results Tryz.f151).toList zf41.ps zf41.res
noncomputable def zf41.K1 (n:Nat):Kont (ByteArray × Bool):=seqK (fun s' k=>joinE zf41.A.joins (codeAt Tryz.f151 [1,1,1]) (fun s''=>evalC zf41.C zf41.A n (codeAt Tryz.f151 [1,1,1]) s'' k) s') (zf41.K0 n)
noncomputable def zf41.K2 (n:Nat):Kont (ByteArray × Bool):=blockK 0 (zf41.K1 n)
noncomputable def zf41.l3 (n m3:Nat) (x4:ByteArray) (x8:List Int) (x9 x10:Int):Option (ByteArray × Bool):=loopE (cutAt zf41.A.loops (codeAt Tryz.f151 [1,1,0,1,0,0])) (fun s k=>evalC zf41.C zf41.A n (codeAt Tryz.f151 [1,1,0,1,0,0]) s k) m3 (St.of 24 88 [(4,.val .str x4),(8,.val (.slice (.int .i64)) x8),(9,.val (.int .i64) x9),(10,.val (.int .i64) x10)] [] []) (zf41.K2 n)
theorem zf41.eq (n:Nat) (x0:List Int):zf41 n x0=zf41.l3 n n ({ data:=#[] }) (x0) ((↑(List.length x0):Int)) (0):=by kernel_rfl
theorem zf41.l3_succ (n m3:Nat) (x4:ByteArray) (x8:List Int) (x9 x10:Int):zf41.l3 n (m3+1) x4 x8 x9 x10=(if x10<x9 then (if 0≤x10 then (if x10<(↑(List.length x8):Int) then ((zf25 n (List.getD x8 (Int.toNat x10) 0)).bind fun y0=>(if y0={ data:=#[] } then some (({ data:=#[] },Bool.false)) else (if ByteArray.size { data:=#[(32:UInt8)] }+ByteArray.size y0≤Go.Refl.maxN then (if ByteArray.size x4+ByteArray.size ({ data:=#[(32:UInt8)] }++y0)≤Go.Refl.maxN then zf41.l3 n m3 (x4++({ data:=#[(32:UInt8)] }++y0)) (x8) (x9) (Go.RowKit.wrap64 (x10+1)) else none) else none))) else none) else none) else some ((x4,Bool.true))):=by kernel_rfl
noncomputable abbrev zf41.sg (n:Nat):Sig:=⟨zf41.ps,zf41.res,zf41 n⟩
theorem zf41.call:Callable Tryz.prog 151:=⟨Tryz.f151,Tryz.func151,by kernel_rfl,by kernel_rfl⟩
theorem zf41.ok (n:Nat):FC Tryz.prog [g2] 151 (zf41.sg n):=
  evalF_ok (C:=zf41.C) ⟨tb_ok,fun n _ _ h=>tabOk (l:=[(13,(zf25.sg n))]) (all_cons ⟨zf25.ok n,zf25.call⟩ (all_nil)) h,mixed,ar_ok,bld_ok,pts_ok⟩ zf41.A Tryz.func151 zf41.ps zf41.res n
abbrev zf42.ps:List Pm:=[.arg (.v zt1)]
abbrev zf42.res:List M:=[.v .str,.v .bool]
noncomputable def zf42.C:Cfg:={ tb:=tb,tab:=fun n f=>Refl.look [(42,(zf128.sg n)),(141,(zf29.sg n)),(150,(zf43.sg n)),(151,(zf41.sg n))] f,gl:=[g2],ar:=ar,bld:=bld,pts:=pts }
noncomputable def zf42.A:Ann:={ joins:=[],loops:=[],ids:=[(6,[(22,[]),(28,[]),(32,[])]),(7,[(36,[]),(37,[])]),(10,[(48,[]),(49,[])]),(13,[(59,[]),(60,[])]),(16,[(80,[])])],pids:=[],nroots:=166 }
noncomputable def zf42 (n:Nat) (x:Int × Int × Int × Int × List Int × Int × Int):Option (ByteArray × Bool):=evalF zf42.C zf42.A Tryz.f121 zf42.ps zf42.res n x
theorem zf42.eq (n:Nat) (x0:Int × Int × Int × Int × List Int × Int × Int):zf42 n x0=(if x0.1=0 then (if x0.1=0 then some (({ data:=#[] },Bool.true)) else (if x0.1=6 then ((zf128 n x0.2.2.2.2.2.1).bind fun y0=>(if ByteArray.size { data:=#[(32:UInt8)] }+ByteArray.size y0≤Go.Refl.maxN then (if ByteArray.size ({ data:=#[(32:UInt8)] }++y0)+ByteArray.size { data:=#[(32:UInt8)] }≤Go.Refl.maxN then ((zf128 n x0.2.2.2.2.2.2).bind fun y1=>(if ByteArray.size ({ data:=#[(32:UInt8)] }++y0++{ data:=#[(32:UInt8)] })+ByteArray.size y1≤Go.Refl.maxN then ((zf29 n (x0.2.2.2.2.2.1,x0.2.2.2.2.2.2)).bind fun y2=>some (({ data:=#[(32:UInt8)] }++y0++{ data:=#[(32:UInt8)] }++y1,y2))) else none)) else none) else none)) else ((zf43 n (List.set (List.replicate 1 0) 0 x0.2.1)).bind fun y3=>(if x0.1=5 then some ((y3.1,y3.2)) else ((zf41 n (List.set (List.replicate 1 0) 0 x0.2.2.1)).bind fun y4=>(if x0.1=4 then ((zf41 n (List.set (List.replicate 1 0) 0 x0.2.2.2.1)).bind fun y5=>(if ByteArray.size y3.1+ByteArray.size y4.1≤Go.Refl.maxN then (if ByteArray.size (y3.1++y4.1)+ByteArray.size y5.1≤Go.Refl.maxN then (if y3.2=Bool.true then (if y4.2=Bool.true then some ((y3.1++y4.1++y5.1,y5.2)) else some ((y3.1++y4.1++y5.1,Bool.false))) else some ((y3.1++y4.1++y5.1,Bool.false))) else none) else none)) else (if x0.1=3 then ((zf43 n x0.2.2.2.2.1).bind fun y6=>(if ByteArray.size y3.1+ByteArray.size y4.1≤Go.Refl.maxN then (if ByteArray.size (y3.1++y4.1)+ByteArray.size y6.1≤Go.Refl.maxN then (if y3.2=Bool.true then (if y4.2=Bool.true then some ((y3.1++y4.1++y6.1,y6.2)) else some ((y3.1++y4.1++y6.1,Bool.false))) else some ((y3.1++y4.1++y6.1,Bool.false))) else none) else none)) else (if ByteArray.size y3.1+ByteArray.size y4.1≤Go.Refl.maxN then (if y3.2=Bool.true then some ((y3.1++y4.1,y4.2)) else some ((y3.1++y4.1,Bool.false))) else none)))))))) else (if x0.1=7 then some (({ data:=#[] },Bool.true)) else (if x0.1=6 then ((zf128 n x0.2.2.2.2.2.1).bind fun y7=>(if ByteArray.size { data:=#[(32:UInt8)] }+ByteArray.size y7≤Go.Refl.maxN then (if ByteArray.size ({ data:=#[(32:UInt8)] }++y7)+ByteArray.size { data:=#[(32:UInt8)] }≤Go.Refl.maxN then ((zf128 n x0.2.2.2.2.2.2).bind fun y8=>(if ByteArray.size ({ data:=#[(32:UInt8)] }++y7++{ data:=#[(32:UInt8)] })+ByteArray.size y8≤Go.Refl.maxN then ((zf29 n (x0.2.2.2.2.2.1,x0.2.2.2.2.2.2)).bind fun y9=>some (({ data:=#[(32:UInt8)] }++y7++{ data:=#[(32:UInt8)] }++y8,y9))) else none)) else none) else none)) else ((zf43 n (List.set (List.replicate 1 0) 0 x0.2.1)).bind fun y10=>(if x0.1=5 then some ((y10.1,y10.2)) else ((zf41 n (List.set (List.replicate 1 0) 0 x0.2.2.1)).bind fun y11=>(if x0.1=4 then ((zf41 n (List.set (List.replicate 1 0) 0 x0.2.2.2.1)).bind fun y12=>(if ByteArray.size y10.1+ByteArray.size y11.1≤Go.Refl.maxN then (if ByteArray.size (y10.1++y11.1)+ByteArray.size y12.1≤Go.Refl.maxN then (if y10.2=Bool.true then (if y11.2=Bool.true then some ((y10.1++y11.1++y12.1,y12.2)) else some ((y10.1++y11.1++y12.1,Bool.false))) else some ((y10.1++y11.1++y12.1,Bool.false))) else none) else none)) else (if x0.1=3 then ((zf43 n x0.2.2.2.2.1).bind fun y13=>(if ByteArray.size y10.1+ByteArray.size y11.1≤Go.Refl.maxN then (if ByteArray.size (y10.1++y11.1)+ByteArray.size y13.1≤Go.Refl.maxN then (if y10.2=Bool.true then (if y11.2=Bool.true then some ((y10.1++y11.1++y13.1,y13.2)) else some ((y10.1++y11.1++y13.1,Bool.false))) else some ((y10.1++y11.1++y13.1,Bool.false))) else none) else none)) else (if ByteArray.size y10.1+ByteArray.size y11.1≤Go.Refl.maxN then (if y10.2=Bool.true then some ((y10.1++y11.1,y11.2)) else some ((y10.1++y11.1,Bool.false))) else none))))))))):=by kernel_rfl
noncomputable abbrev zf42.sg (n:Nat):Sig:=⟨zf42.ps,zf42.res,zf42 n⟩
theorem zf42.call:Callable Tryz.prog 121:=⟨Tryz.f121,Tryz.func121,by kernel_rfl,by kernel_rfl⟩
theorem zf42.ok (n:Nat):FC Tryz.prog [g2] 121 (zf42.sg n):=
  evalF_ok (C:=zf42.C) ⟨tb_ok,fun n _ _ h=>tabOk (l:=[(42,(zf128.sg n)),(141,(zf29.sg n)),(150,(zf43.sg n)),(151,(zf41.sg n))]) (all_cons ⟨zf128.ok n,zf128.call⟩ (all_cons ⟨(.mono (gl:=[]) (gl':=[g2]) (all_nil) (zf29.ok n)),zf29.call⟩ (all_cons ⟨zf43.ok n,zf43.call⟩ (all_cons ⟨zf41.ok n,zf41.call⟩ (all_nil))))) h,mixed,ar_ok,bld_ok,pts_ok⟩ zf42.A Tryz.func121 zf42.ps zf42.res n
abbrev zf15.ps:List Pm:=[.arg (.v zt1)]
abbrev zf15.res:List M:=[.v .str]
noncomputable def zf15.C:Cfg:={ tb:=tb,tab:=fun n f=>Refl.look [(121,(zf42.sg n))] f,gl:=[g0,g2],ar:=ar,bld:=bld,pts:=pts }
noncomputable def zf15.A:Ann:={ joins:=[],loops:=[],ids:=[(3,[(15,[])])],pids:=[],nroots:=90 }
noncomputable def zf15 (n:Nat) (x:Int × Int × Int × Int × List Int × Int × Int):Option (ByteArray):=evalF zf15.C zf15.A Tryz.f81 zf15.ps zf15.res n x
theorem zf15.eq (n:Nat) (x0:Int × Int × Int × Int × List Int × Int × Int):zf15 n x0=(if x0.1<0 then some ({ data:=#[] }) else (if x0.1 > 7 then some ({ data:=#[] }) else ((zf42 n (x0.1,x0.2.1,x0.2.2.1,x0.2.2.2.1,x0.2.2.2.2.1,x0.2.2.2.2.2.1,x0.2.2.2.2.2.2)).bind fun y0=>(if (!y0.2)=true then some ({ data:=#[] }) else (if 0≤x0.1 then (if x0.1<(↑8:Int) then (if ByteArray.size (List.getD [{ data:=#[(106:UInt8),(111:UInt8),(105:UInt8),(110:UInt8)] },{ data:=#[(115:UInt8),(97:UInt8),(118:UInt8),(101:UInt8)] },{ data:=#[(116:UInt8),(97:UInt8),(107:UInt8),(101:UInt8)] },{ data:=#[(108:UInt8),(101:UInt8),(110:UInt8),(100:UInt8)] },{ data:=#[(114:UInt8),(101:UInt8),(112:UInt8),(97:UInt8),(121:UInt8)] },{ data:=#[(102:UInt8),(97:UInt8),(105:UInt8),(108:UInt8)] },{ data:=#[(110:UInt8),(105:UInt8),(103:UInt8),(104:UInt8),(116:UInt8)] },{ data:=#[(115:UInt8),(104:UInt8),(97:UInt8),(114:UInt8),(101:UInt8)] }] (Int.toNat x0.1) ByteArray.empty)+ByteArray.size y0.1≤Go.Refl.maxN then some (List.getD [{ data:=#[(106:UInt8),(111:UInt8),(105:UInt8),(110:UInt8)] },{ data:=#[(115:UInt8),(97:UInt8),(118:UInt8),(101:UInt8)] },{ data:=#[(116:UInt8),(97:UInt8),(107:UInt8),(101:UInt8)] },{ data:=#[(108:UInt8),(101:UInt8),(110:UInt8),(100:UInt8)] },{ data:=#[(114:UInt8),(101:UInt8),(112:UInt8),(97:UInt8),(121:UInt8)] },{ data:=#[(102:UInt8),(97:UInt8),(105:UInt8),(108:UInt8)] },{ data:=#[(110:UInt8),(105:UInt8),(103:UInt8),(104:UInt8),(116:UInt8)] },{ data:=#[(115:UInt8),(104:UInt8),(97:UInt8),(114:UInt8),(101:UInt8)] }] (Int.toNat x0.1) ByteArray.empty++y0.1) else none) else none) else none))))):=by kernel_rfl
noncomputable abbrev zf15.sg (n:Nat):Sig:=⟨zf15.ps,zf15.res,zf15 n⟩
theorem zf15.call:Callable Tryz.prog 81:=⟨Tryz.f81,Tryz.func81,by kernel_rfl,by kernel_rfl⟩
theorem zf15.ok (n:Nat):FC Tryz.prog [g0,g2] 81 (zf15.sg n):=
  evalF_ok (C:=zf15.C) ⟨tb_ok,fun n _ _ h=>tabOk (l:=[(121,(zf42.sg n))]) (all_cons ⟨(.mono (gl:=[g2]) (gl':=[g0,g2]) (all_cons (.tail _ (.head _)) (all_nil)) (zf42.ok n)),zf42.call⟩ (all_nil)) h,mixed,ar_ok,bld_ok,pts_ok⟩ zf15.A Tryz.func81 zf15.ps zf15.res n
abbrev zf17.ps:List Pm:=[.arg (.v .str)]
abbrev zf17.res:List M:=[.v zt1,.v .bool]
noncomputable def zf17.C:Cfg:={ tb:=tb,tab:=fun n f=>Refl.look [(79,(zf135.sg n)),(80,(zf39.sg n)),(81,(zf15.sg n))] f,gl:=[g0,g2,g3,g4],ar:=ar,bld:=bld,pts:=pts }
noncomputable def zf17.A:Ann:={ joins:=[],loops:=[(3,{ live:=[0,2,4,10,11],base:=31 })],ids:=[(6,[(22,[])]),(7,[(24,[])])],pids:=[],nroots:=95 }
noncomputable def zf17 (n:Nat) (x:ByteArray):Option zt11:=evalF zf17.C zf17.A Tryz.f39 zf17.ps zf17.res n x
noncomputable def zf17.K0 (_:Nat):Kont zt11:=finK zf17.C (Func.results Tryz.f39).toList zf17.ps zf17.res
noncomputable def zf17.K1 (n:Nat):Kont zt11:=seqK (fun s' k=>joinE zf17.A.joins (codeAt Tryz.f39 [1,1,1]) (fun s''=>evalC zf17.C zf17.A n (codeAt Tryz.f39 [1,1,1]) s'' k) s') (zf17.K0 n)
noncomputable def zf17.K2 (n:Nat):Kont zt11:=blockK 0 (zf17.K1 n)
noncomputable def zf17.l3 (n m3:Nat) (x0:ByteArray) (x10:List ByteArray) (x11 r31_0:Int) (r31_1 r31_2:Int) (r31_3 r31_5 r31_6:Int) (r32:List ByteArray):Option zt11:=loopE (cutAt zf17.A.loops (codeAt Tryz.f39 [1,1,0,1,0,0])) (fun s k=>evalC zf17.C zf17.A n (codeAt Tryz.f39 [1,1,0,1,0,0]) s k) m3 (St.of 31 95 [(0,.val .str x0),(2,.ptr 31 0 0),(4,.own 32),(10,.garr .str x10),(11,.val (.int .i64) x11)] [(31,.box 72 [.val (.int .i64) r31_0,.val (.int .i64) r31_1,.val (.int .i64) r31_2,.val (.int .i64) r31_3,.nils,.val (.int .i64) r31_5,.val (.int .i64) r31_6]),(32,.row .str 9 r32)] []) (zf17.K2 n)
theorem zf17.eq (n:Nat) (x0:ByteArray):zf17 n x0=((zf135 n (x0,{ data:=#[(32:UInt8)] })).bind fun y0=>zf17.l3 n n (x0) ([{ data:=#[(106:UInt8),(111:UInt8),(105:UInt8),(110:UInt8)] },{ data:=#[(115:UInt8),(97:UInt8),(118:UInt8),(101:UInt8)] },{ data:=#[(116:UInt8),(97:UInt8),(107:UInt8),(101:UInt8)] },{ data:=#[(108:UInt8),(101:UInt8),(110:UInt8),(100:UInt8)] },{ data:=#[(114:UInt8),(101:UInt8),(112:UInt8),(97:UInt8),(121:UInt8)] },{ data:=#[(102:UInt8),(97:UInt8),(105:UInt8),(108:UInt8)] },{ data:=#[(110:UInt8),(105:UInt8),(103:UInt8),(104:UInt8),(116:UInt8)] },{ data:=#[(115:UInt8),(104:UInt8),(97:UInt8),(114:UInt8),(101:UInt8)] }]) (0) (0) (0) (0) (0) (0) (0) (y0)):=by kernel_rfl
theorem zf17.l3_succ (n m3:Nat) (x0:ByteArray) (x10:List ByteArray) (x11 r31_0:Int) (r31_1 r31_2:Int) (r31_3 r31_5 r31_6:Int) (r32:List ByteArray):zf17.l3 n (m3+1) x0 x10 x11 r31_0 r31_1 r31_2 r31_3 r31_5 r31_6 r32=(if x11<8 then (if List.length x10=8 then (if 0≤x11 then (if x11<(↑8:Int) then (if 0<(↑(List.length r32):Int) then (if List.getD r32 0 ByteArray.empty=List.getD x10 (Int.toNat x11) ByteArray.empty then ((zf39 n (x11,r32)).bind fun y1=>((zf15 n (y1.1,y1.2.1,y1.2.2.1,y1.2.2.2.1,y1.2.2.2.2.1,y1.2.2.2.2.2.1,y1.2.2.2.2.2.2)).bind fun y2=>(if y2=x0 then some (((y1.1,y1.2.1,y1.2.2.1,y1.2.2.2.1,y1.2.2.2.2.1,y1.2.2.2.2.2.1,y1.2.2.2.2.2.2),Bool.true)) else some (((0,0,0,0,[],0,0),Bool.false))))) else zf17.l3 n m3 (x0) (x10) (Go.RowKit.wrap64 (x11+1)) (r31_0) (r31_1) (r31_2) (r31_3) (r31_5) (r31_6) (r32)) else none) else none) else none) else none) else some (((0,0,0,0,[],0,0),Bool.false))):=by kernel_rfl
noncomputable abbrev zf17.sg (n:Nat):Sig:=⟨zf17.ps,zf17.res,zf17 n⟩
theorem zf17.call:Callable Tryz.prog 39:=⟨Tryz.f39,Tryz.func39,by kernel_rfl,by kernel_rfl⟩
theorem zf17.ok (n:Nat):FC Tryz.prog [g0,g2,g3,g4] 39 (zf17.sg n):=
  evalF_ok (C:=zf17.C) ⟨tb_ok,fun n _ _ h=>tabOk (l:=[(79,(zf135.sg n)),(80,(zf39.sg n)),(81,(zf15.sg n))]) (all_cons ⟨(.mono (gl:=[]) (gl':=[g0,g2,g3,g4]) (all_nil) (zf135.ok n)),zf135.call⟩ (all_cons ⟨(.mono (gl:=[g2,g3,g4]) (gl':=[g0,g2,g3,g4]) (all_cons (.tail _ (.head _)) (all_cons (.tail _ (.tail _ (.head _))) (all_cons (.tail _ (.tail _ (.tail _ (.head _)))) (all_nil)))) (zf39.ok n)),zf39.call⟩ (all_cons ⟨(.mono (gl:=[g0,g2]) (gl':=[g0,g2,g3,g4]) (all_cons (.head _) (all_cons (.tail _ (.head _)) (all_nil))) (zf15.ok n)),zf15.call⟩ (all_nil)))) h,mixed,ar_ok,bld_ok,pts_ok⟩ zf17.A Tryz.func39 zf17.ps zf17.res n
abbrev zf20.ps:List Pm:=[.arg (.v .str)]
abbrev zf20.res:List M:=[(.own zt1 72)]
noncomputable def zf20.C:Cfg:={ tb:=tb,tab:=fun n f=>Refl.look [(38,(zf132.sg n)),(39,(zf17.sg n))] f,gl:=[g0,g2,g3,g4],ar:=ar,bld:=bld,pts:=pts }
noncomputable def zf20.A:Ann:={ joins:=[],loops:=[(2,{ live:=[0,3],base:=33,grow:=[(3,52,zt1,72)] })],ids:=[(3,[(14,[])]),(5,[(22,[])]),(7,[(29,[])])],pids:=[],nroots:=97 }
noncomputable def zf20 (n:Nat) (x:ByteArray):Option zt12:=evalF zf20.C zf20.A Tryz.f11 zf20.ps zf20.res n x
noncomputable def zf20.K0 (_:Nat):Kont zt12:=finK zf20.C (Func.results Tryz.f11).toList zf20.ps zf20.res
noncomputable def zf20.K1 (n:Nat):Kont zt12:=seqK (fun s' k=>joinE zf20.A.joins (codeAt Tryz.f11 [1,1,1]) (fun s''=>evalC zf20.C zf20.A n (codeAt Tryz.f11 [1,1,1]) s'' k) s') (zf20.K0 n)
noncomputable def zf20.K2 (n:Nat):Kont zt12:=blockK 0 (zf20.K1 n)
noncomputable def zf20.l2 (n m2:Nat) (x0:ByteArray) (r33:List zt14):Option zt12:=loopE (cutAt zf20.A.loops (codeAt Tryz.f11 [1,1,0,0,0])) (fun s k=>evalC zf20.C zf20.A n (codeAt Tryz.f11 [1,1,0,0,0]) s k) m2 (St.of 33 97 [(0,.val .str x0),(3,.own 33)] [(33,.row zt1 72 r33)] []) (zf20.K2 n)
theorem zf20.eq (n:Nat) (x0:ByteArray):zf20 n x0=zf20.l2 n n (x0) ([]):=by kernel_rfl
theorem zf20.l2_succ (n m2:Nat) (x0:ByteArray) (r33:List zt14):zf20.l2 n (m2+1) x0 r33=(if (↑(List.length r33):Int)<30 then ((zf132 n (x0,{ data:=#[(10:UInt8)] })).bind fun y0=>(if (!y0.2.2)=true then some (r33) else ((zf17 n y0.1).bind fun y1=>(if (!y1.2)=true then some (r33) else (if List.length r33+List.length (List.set (List.replicate (1:Nat) ((0:Int),(0:Int),(0:Int),(0:Int),[],(0:Int),(0:Int))) (0:Nat) (y1.1.1,y1.1.2.1,y1.1.2.2.1,y1.1.2.2.2.1,y1.1.2.2.2.2.1,y1.1.2.2.2.2.2.1,y1.1.2.2.2.2.2.2))≤Go.Refl.maxN then zf20.l2 n m2 y0.2.1 (r33++List.set (List.replicate 1 (0,0,0,0,[],0,0)) 0 (y1.1.1,y1.1.2.1,y1.1.2.2.1,y1.1.2.2.2.1,y1.1.2.2.2.2.1,y1.1.2.2.2.2.2.1,y1.1.2.2.2.2.2.2)) else none))))) else some (r33)):=by kernel_rfl
noncomputable abbrev zf20.sg (n:Nat):Sig:=⟨zf20.ps,zf20.res,zf20 n⟩
theorem zf20.call:Callable Tryz.prog 11:=⟨Tryz.f11,Tryz.func11,by kernel_rfl,by kernel_rfl⟩
theorem zf20.ok (n:Nat):FC Tryz.prog [g0,g2,g3,g4] 11 (zf20.sg n):=
  evalF_ok (C:=zf20.C) ⟨tb_ok,fun n _ _ h=>tabOk (l:=[(38,(zf132.sg n)),(39,(zf17.sg n))]) (all_cons ⟨(.mono (gl:=[]) (gl':=[g0,g2,g3,g4]) (all_nil) (zf132.ok n)),zf132.call⟩ (all_cons ⟨zf17.ok n,zf17.call⟩ (all_nil))) h,mixed,ar_ok,bld_ok,pts_ok⟩ zf20.A Tryz.func11 zf20.ps zf20.res n
abbrev zf59.ps:List Pm:=[.arg (.v (.slice (.int .i64)))]
abbrev zf59.res:List M:=[(.own (.int .i64) 3)]
noncomputable def zf59.C:Cfg:={ tb:=tb,tab:=fun n f=>Refl.look [] f,gl:=[],ar:=ar,bld:=bld,pts:=pts }
noncomputable def zf59.A:Ann:={ joins:=[],loops:=[],ids:=[],pids:=[],nroots:=72 }
noncomputable def zf59 (n:Nat) (x:List Int):Option (List Int):=evalF zf59.C zf59.A Tryz.f75 zf59.ps zf59.res n x
theorem zf59.eq (n:Nat) (x0:List Int):zf59 n x0=(if Int.toNat (↑(List.length x0):Int)=0 then Go.Refl.both (some ([])) ((if List.length (List.replicate (0:Nat) (0:Int))+List.length x0≤Go.Refl.maxN then some (List.replicate 0 0++x0) else none)) else (if List.length (List.replicate (0:Nat) (0:Int))+List.length x0≤Go.Refl.maxN then some (List.replicate 0 0++x0) else none)):=by kernel_rfl
noncomputable abbrev zf59.sg (n:Nat):Sig:=⟨zf59.ps,zf59.res,zf59 n⟩
theorem zf59.call:Callable Tryz.prog 75:=⟨Tryz.f75,Tryz.func75,by kernel_rfl,by kernel_rfl⟩
theorem zf59.ok (n:Nat):FC Tryz.prog [] 75 (zf59.sg n):=
  evalF_ok (C:=zf59.C) ⟨tb_ok,fun n _ _ h=>tabOk (l:=[]) (all_nil) h,mixed,ar_ok,bld_ok,pts_ok⟩ zf59.A Tryz.func75 zf59.ps zf59.res n
abbrev zf34.ps:List Pm:=[.arg (.v (.slice zt8))]
abbrev zf34.res:List M:=[(.own zt8 100)]
noncomputable def zf34.C:Cfg:={ tb:=tb,tab:=fun n f=>Refl.look [(75,{ params:=zf59.ps,res:=[.v (.slice (.int .i64))],run:=zf59 n })] f,gl:=[],ar:=ar,bld:=bld,pts:=pts }
noncomputable def zf34.A:Ann:={ joins:=[],loops:=[(3,{ live:=[3,6,7,8],base:=22,grow:=[(3,41,zt8,100)] })],ids:=[(5,[(14,[])]),(6,[(18,[])])],pids:=[],nroots:=86 }
noncomputable def zf34 (n:Nat) (x:List zt19):Option zt17:=evalF zf34.C zf34.A Tryz.f76 zf34.ps zf34.res n x
noncomputable def zf34.K0 (_:Nat):Kont zt17:=finK zf34.C (Func.results Tryz.f76).toList zf34.ps zf34.res
noncomputable def zf34.K1 (n:Nat):Kont zt17:=seqK (fun s' k=>joinE zf34.A.joins (codeAt Tryz.f76 [1,1,1]) (fun s''=>evalC zf34.C zf34.A n (codeAt Tryz.f76 [1,1,1]) s'' k) s') (zf34.K0 n)
noncomputable def zf34.K2 (n:Nat):Kont zt17:=blockK 0 (zf34.K1 n)
noncomputable def zf34.l3 (n m3:Nat) (x6:List zt19) (x7 x8:Int) (r22:List zt19):Option zt17:=loopE (cutAt zf34.A.loops (codeAt Tryz.f76 [1,1,0,1,0,0])) (fun s k=>evalC zf34.C zf34.A n (codeAt Tryz.f76 [1,1,0,1,0,0]) s k) m3 (St.of 22 86 [(3,.own 22),(6,.val (.slice zt8) x6),(7,.val (.int .i64) x7),(8,.val (.int .i64) x8)] [(22,.row zt8 100 r22)] []) (zf34.K2 n)
theorem zf34.eq (n:Nat) (x0:List zt19):zf34 n x0=zf34.l3 n n (x0) ((↑(List.length x0):Int)) (0) ([]):=by kernel_rfl
theorem zf34.l3_succ (n m3:Nat) (x6:List zt19) (x7 x8:Int) (r22:List zt19):zf34.l3 n (m3+1) x6 x7 x8 r22=(if x8<x7 then (if 0≤x8 then (if x8<(↑(List.length x6):Int) then ((zf59 n (Prod.snd (Prod.snd (List.getD x6 (Int.toNat x8) (0,0,[]))))).bind fun y0=>(if List.length r22+List.length (List.set (List.replicate (1:Nat) ((0:Int),(0:Int),[])) (0:Nat) (Prod.fst (List.getD x6 (Int.toNat x8) ((0:Int),(0:Int),[])),Prod.fst (Prod.snd (List.getD x6 (Int.toNat x8) ((0:Int),(0:Int),[]))),y0))≤Go.Refl.maxN then zf34.l3 n m3 (x6) (x7) (Go.RowKit.wrap64 (x8+1)) (r22++List.set (List.replicate 1 (0,0,[])) 0 (Prod.fst (List.getD x6 (Int.toNat x8) (0,0,[])),Prod.fst (Prod.snd (List.getD x6 (Int.toNat x8) (0,0,[]))),y0)) else none)) else none) else none) else some (r22)):=by kernel_rfl
noncomputable abbrev zf34.sg (n:Nat):Sig:=⟨zf34.ps,zf34.res,zf34 n⟩
theorem zf34.call:Callable Tryz.prog 76:=⟨Tryz.f76,Tryz.func76,by kernel_rfl,by kernel_rfl⟩
theorem zf34.ok (n:Nat):FC Tryz.prog [] 76 (zf34.sg n):=
  evalF_ok (C:=zf34.C) ⟨tb_ok,fun n _ _ h=>tabOk (l:=[(75,{ params:=zf59.ps,res:=[.v (.slice (.int .i64))],run:=zf59 n })]) (all_cons ⟨FC.weak (.cons (.own _ _) .nil) HEq.rfl (zf59.ok n),zf59.call⟩ (all_nil)) h,mixed,ar_ok,bld_ok,pts_ok⟩ zf34.A Tryz.func76 zf34.ps zf34.res n
abbrev zf33.ps:List Pm:=[.arg (.v zt0)]
abbrev zf33.res:List M:=[(.pr (.own (.int .i64) 3) (.pr (.own zt8 100) (.v zt13)))]
noncomputable def zf33.C:Cfg:={ tb:=tb,tab:=fun n f=>Refl.look [(75,(zf59.sg n)),(76,(zf34.sg n))] f,gl:=[],ar:=ar,bld:=bld,pts:=pts }
noncomputable def zf33.A:Ann:={ joins:=[],loops:=[],ids:=[],pids:=[],nroots:=76 }
noncomputable def zf33 (n:Nat) (x:List Int × List zt19 × Int × Int × Int):Option zt10:=evalF zf33.C zf33.A Tryz.f36 zf33.ps zf33.res n x
theorem zf33.eq (n:Nat) (x0:List Int × List zt19 × Int × Int × Int):zf33 n x0=((zf59 n x0.1).bind fun y0=>((zf34 n x0.2.1).bind fun y1=>some ((y0,y1,x0.2.2.1,x0.2.2.2.1,x0.2.2.2.2)))):=by kernel_rfl
noncomputable abbrev zf33.sg (n:Nat):Sig:=⟨zf33.ps,zf33.res,zf33 n⟩
theorem zf33.call:Callable Tryz.prog 36:=⟨Tryz.f36,Tryz.func36,by kernel_rfl,by kernel_rfl⟩
theorem zf33.ok (n:Nat):FC Tryz.prog [] 36 (zf33.sg n):=
  evalF_ok (C:=zf33.C) ⟨tb_ok,fun n _ _ h=>tabOk (l:=[(75,(zf59.sg n)),(76,(zf34.sg n))]) (all_cons ⟨zf59.ok n,zf59.call⟩ (all_cons ⟨zf34.ok n,zf34.call⟩ (all_nil))) h,mixed,ar_ok,bld_ok,pts_ok⟩ zf33.A Tryz.func36 zf33.ps zf33.res n
abbrev zf10.ps:List Pm:=[.box 26 (.pr (.own (.int .i64) 3) (.pr (.own zt8 100) (.v zt13))),.arg (.v zt1),.arg (.v (.int .i64))]
abbrev zf10.res:List M:=[.v .bool]
noncomputable def zf10.C:Cfg:={ tb:=tb,tab:=fun n f=>Refl.look [] f,gl:=[],ar:=ar,bld:=bld,pts:=pts }
noncomputable def zf10.A:Ann:={ joins:=[],loops:=[],ids:=[],pids:=[(0,[111,112])],nroots:=119 }
noncomputable def zf10 (n:Nat) (x:zt10 × zt14 × Int):Option (Bool × List Int × List zt19 × Int × Int × Int):=evalF zf10.C zf10.A Tryz.f111 zf10.ps zf10.res n x
theorem zf10.eq (n:Nat) (x0:List Int × List zt19 × Int × Int × Int) (x1:Int × Int × Int × Int × List Int × Int × Int) (x2:Int):zf10 n (x0,x1,x2)=(if x1.2.1<0 then some ((Bool.false,x0.1,x0.2.1,x0.2.2.1,x0.2.2.2.1,x0.2.2.2.2)) else (if x1.2.1≥(↑(List.length x0.1):Int) then some ((Bool.false,x0.1,x0.2.1,x0.2.2.1,x0.2.2.2.1,x0.2.2.2.2)) else (if x1.2.2.1<1 then some ((Bool.false,x0.1,x0.2.1,x0.2.2.1,x0.2.2.2.1,x0.2.2.2.2)) else (if x1.2.2.1 > 100000 then some ((Bool.false,x0.1,x0.2.1,x0.2.2.1,x0.2.2.2.1,x0.2.2.2.2)) else (if 0≤x1.2.1 then (if x1.2.1<(↑(List.length x0.1):Int) then (if 0≤x1.2.1 then (if x1.2.1<(↑(List.length x0.1):Int) then some ((Bool.true,List.set x0.1 (Int.toNat x1.2.1) (Go.RowKit.wrap64 (List.getD x0.1 (Int.toNat x1.2.1) 0+Go.RowKit.wrap64 (x2*x1.2.2.1))),x0.2.1,Go.RowKit.wrap64 (x0.2.2.1+Go.RowKit.wrap64 (x2*x1.2.2.1)),x0.2.2.2.1,x0.2.2.2.2)) else none) else none) else none) else none))))):=by kernel_rfl
noncomputable abbrev zf10.sg (n:Nat):Sig:=⟨zf10.ps,zf10.res,zf10 n⟩
theorem zf10.call:Callable Tryz.prog 111:=⟨Tryz.f111,Tryz.func111,by kernel_rfl,by kernel_rfl⟩
theorem zf10.ok (n:Nat):FC Tryz.prog [] 111 (zf10.sg n):=
  evalF_ok (C:=zf10.C) ⟨tb_ok,fun n _ _ h=>tabOk (l:=[]) (all_nil) h,mixed,ar_ok,bld_ok,pts_ok⟩ zf10.A Tryz.func111 zf10.ps zf10.res n
abbrev zf26.ps:List Pm:=[.arg (.v (.int .i64)),.arg (.v (.int .i64))]
abbrev zf26.res:List M:=[(.own (.int .i64) 3)]
noncomputable def zf26.C:Cfg:={ tb:=tb,tab:=fun n f=>Refl.look [] f,gl:=[],ar:=ar,bld:=bld,pts:=pts }
noncomputable def zf26.A:Ann:={ joins:=[],loops:=[(5,{ live:=[0,1,5,24,25],base:=47 })],ids:=[],pids:=[],nroots:=111 }
noncomputable def zf26 (n:Nat) (x:Int × Int):Option (List Int):=evalF zf26.C zf26.A Tryz.f122 zf26.ps zf26.res n x
noncomputable def zf26.K0 (_:Nat):Kont (List Int):=finK zf26.C (Func.results Tryz.f122).toList zf26.ps zf26.res
noncomputable def zf26.K1 (n:Nat):Kont (List Int):=seqK (fun s' k=>joinE zf26.A.joins (codeAt Tryz.f122 [1,1,1,1]) (fun s''=>evalC zf26.C zf26.A n (codeAt Tryz.f122 [1,1,1,1]) s'' k) s') (zf26.K0 n)
noncomputable def zf26.K2 (n:Nat):Kont (List Int):=blockK 0 (zf26.K1 n)
noncomputable def zf26.l5 (n m5:Nat) (x0 x1:Int) (x24 x25:Int) (r47:List Int):Option (List Int):=loopE (cutAt zf26.A.loops (codeAt Tryz.f122 [1,1,1,0,1,0,0])) (fun s k=>evalC zf26.C zf26.A n (codeAt Tryz.f122 [1,1,1,0,1,0,0]) s k) m5 (St.of 47 111 [(0,.val (.int .i64) x0),(1,.val (.int .i64) x1),(5,.own 47),(24,.val (.int .i64) x24),(25,.val (.int .i64) x25)] [(47,.row (.int .i64) 3 r47)] []) (zf26.K2 n)
theorem zf26.eq (n:Nat) (x0 x1:Int):zf26 n (x0,x1)=(if x0<0 then some ([]) else (if x0 > 1000000 then some ([]) else (if x1<1 then some ([]) else (if x1 > 12 then some ([]) else (if 0≤x1 then (if x1≤x1 then (if x1≤(↑Go.Refl.maxN:Int) then zf26.l5 n n (x0) (x1) ((↑(List.length (List.replicate (Int.toNat x1) (0:Int))):Int)) (0) (List.replicate (Int.toNat x1) 0) else none) else none) else none))))):=by kernel_rfl
theorem zf26.l5_succ (n m5:Nat) (x0 x1:Int) (x24 x25:Int) (r47:List Int):zf26.l5 n (m5+1) x0 x1 x24 x25 r47=(if x25<x24 then (if x1=0 then none else (if 0≤x25 then (if x25<(↑(List.length r47):Int) then (if x1=0 then none else (if x25<Int.tmod x0 x1 then (if 0≤x25 then (if x25<(↑(List.length (List.set r47 (Int.toNat x25) (Go.RowKit.wrap64 (Int.tdiv x0 x1)))):Int) then (if 0≤x25 then (if x25<(↑(List.length (List.set r47 (Int.toNat x25) (Go.RowKit.wrap64 (Int.tdiv x0 x1)))):Int) then zf26.l5 n m5 (x0) (x1) (x24) (Go.RowKit.wrap64 (x25+1)) (List.set (List.set r47 (Int.toNat x25) (Go.RowKit.wrap64 (Int.tdiv x0 x1))) (Int.toNat x25) (Go.RowKit.wrap64 (List.getD (List.set r47 (Int.toNat x25) (Go.RowKit.wrap64 (Int.tdiv x0 x1))) (Int.toNat x25) 0+1))) else none) else none) else none) else none) else zf26.l5 n m5 (x0) (x1) (x24) (Go.RowKit.wrap64 (x25+1)) (List.set r47 (Int.toNat x25) (Go.RowKit.wrap64 (Int.tdiv x0 x1))))) else none) else none)) else some (r47)):=by kernel_rfl
noncomputable abbrev zf26.sg (n:Nat):Sig:=⟨zf26.ps,zf26.res,zf26 n⟩
theorem zf26.call:Callable Tryz.prog 122:=⟨Tryz.f122,Tryz.func122,by kernel_rfl,by kernel_rfl⟩
theorem zf26.ok (n:Nat):FC Tryz.prog [] 122 (zf26.sg n):=
  evalF_ok (C:=zf26.C) ⟨tb_ok,fun n _ _ h=>tabOk (l:=[]) (all_nil) h,mixed,ar_ok,bld_ok,pts_ok⟩ zf26.A Tryz.func122 zf26.ps zf26.res n
abbrev zf14.ps:List Pm:=[.arg (.v (.slice zt8)),.arg (.v (.int .i64))]
abbrev zf14.res:List M:=[(.own (.int .i64) 3)]
noncomputable def zf14.C:Cfg:={ tb:=tb,tab:=fun n f=>Refl.look [(33,(zf28.sg n)),(122,(zf26.sg n))] f,gl:=[],ar:=ar,bld:=bld,pts:=pts }
noncomputable def zf14.A:Ann:={ joins:=[],loops:=[(5,{ live:=[5,16,17,18],base:=48 }),(8,{ live:=[5,7,16,17,18,27,28,29],base:=48 })],ids:=[(1,[(12,[])])],pids:=[],nroots:=112 }
noncomputable def zf14 (n:Nat) (x:List zt19 × Int):Option (List Int):=evalF zf14.C zf14.A Tryz.f82 zf14.ps zf14.res n x
noncomputable def zf14.K0 (_:Nat):Kont (List Int):=finK zf14.C (Func.results Tryz.f82).toList zf14.ps zf14.res
noncomputable def zf14.K1 (n:Nat):Kont (List Int):=seqK (fun s' k=>joinE zf14.A.joins (codeAt Tryz.f82 [1,1,1,1]) (fun s''=>evalC zf14.C zf14.A n (codeAt Tryz.f82 [1,1,1,1]) s'' k) s') (zf14.K0 n)
noncomputable def zf14.K2 (n:Nat):Kont (List Int):=blockK 0 (zf14.K1 n)
noncomputable def zf14.K3 (n m5:Nat):Kont (List Int):=loopK (cutAt zf14.A.loops (codeAt Tryz.f82 [1,1,1,0,1,0,0])) (fun s k=>evalC zf14.C zf14.A n (codeAt Tryz.f82 [1,1,1,0,1,0,0]) s k) m5 (zf14.K2 n)
noncomputable def zf14.K4 (n m5:Nat):Kont (List Int):=seqK (fun s' k=>joinE zf14.A.joins (codeAt Tryz.f82 [1,1,1,0,1,0,0,1,1,1]) (fun s''=>evalC zf14.C zf14.A n (codeAt Tryz.f82 [1,1,1,0,1,0,0,1,1,1]) s'' k) s') (zf14.K3 n m5)
noncomputable def zf14.K5 (n m5:Nat):Kont (List Int):=blockK 1 (zf14.K4 n m5)
noncomputable def zf14.K6 (n m5:Nat):Kont (List Int):=blockK 2 (zf14.K5 n m5)
noncomputable def zf14.l5 (n m5:Nat) (x16:List zt19) (x17 x18:Int) (r48:List Int):Option (List Int):=loopE (cutAt zf14.A.loops (codeAt Tryz.f82 [1,1,1,0,1,0,0])) (fun s k=>evalC zf14.C zf14.A n (codeAt Tryz.f82 [1,1,1,0,1,0,0]) s k) m5 (St.of 48 112 [(5,.own 48),(16,.val (.slice zt8) x16),(17,.val (.int .i64) x17),(18,.val (.int .i64) x18)] [(48,.row (.int .i64) 3 r48)] []) (zf14.K2 n)
noncomputable def zf14.l8 (n m5 m8:Nat) (x16:List zt19) (x17 x18:Int) (x28 x29:Int) (r48:List Int) (r49_0 r49_1:Int) (r49_2 r50:List Int):Option (List Int):=loopE (cutAt zf14.A.loops (codeAt Tryz.f82 [1,1,1,0,1,0,0,1,1,0,0,1,1,0,0])) (fun s k=>evalC zf14.C zf14.A n (codeAt Tryz.f82 [1,1,1,0,1,0,0,1,1,0,0,1,1,0,0]) s k) m8 (St.of 48 112 [(5,.own 48),(7,.ptr 49 0 0),(16,.val (.slice zt8) x16),(17,.val (.int .i64) x17),(18,.val (.int .i64) x18),(27,.own 50),(28,.val (.int .i64) x28),(29,.val (.int .i64) x29)] [(48,.row (.int .i64) 3 r48),(49,.box 100 [.val (.int .i64) r49_0,.val (.int .i64) r49_1,.val (.slice (.int .i64)) r49_2]),(50,.row (.int .i64) 3 r50)] []) (zf14.K6 n m5)
theorem zf14.eq (n:Nat) (x0:List zt19) (x1:Int):zf14 n (x0,x1)=((zf28 n (x0,x1)).bind fun y0=>(if (!y0)=true then some ([]) else (if 0≤x1 then (if x1≤x1 then (if x1≤(↑Go.Refl.maxN:Int) then zf14.l5 n n (x0) ((↑(List.length x0):Int)) (0) (List.replicate (Int.toNat x1) 0) else none) else none) else none))):=by kernel_rfl
theorem zf14.l5_succ (n m5:Nat) (x16:List zt19) (x17 x18:Int) (r48:List Int):zf14.l5 n (m5+1) x16 x17 x18 r48=(if x18<x17 then (if 0≤x18 then (if x18<(↑(List.length x16):Int) then ((zf26 n (Prod.fst (Prod.snd (List.getD x16 (Int.toNat x18) (0,0,[]))),(↑(List.length (Prod.snd (Prod.snd (List.getD x16 (Int.toNat x18) ((0:Int),(0:Int),[]))))):Int))).bind fun y1=>zf14.l8 n m5 n (x16) (x17) (x18) ((↑(List.length y1):Int)) (0) (r48) (Prod.fst (List.getD x16 (Int.toNat x18) (0,0,[]))) (Prod.fst (Prod.snd (List.getD x16 (Int.toNat x18) (0,0,[])))) (Prod.snd (Prod.snd (List.getD x16 (Int.toNat x18) (0,0,[])))) (y1)) else none) else none) else some (r48)):=by kernel_rfl
theorem zf14.l8_succ (n m5 m8:Nat) (x16:List zt19) (x17 x18:Int) (x28 x29:Int) (r48:List Int) (r49_0 r49_1:Int) (r49_2 r50:List Int):zf14.l8 n m5 (m8+1) x16 x17 x18 x28 x29 r48 r49_0 r49_1 r49_2 r50=(if x29<x28 then (if 0≤x29 then (if x29<(↑(List.length r50):Int) then (if 0≤x29 then (if x29<(↑(List.length r49_2):Int) then (if 0≤List.getD r49_2 (Int.toNat x29) 0 then (if List.getD r49_2 (Int.toNat x29) 0<(↑(List.length r48):Int) then (if 0≤List.getD r49_2 (Int.toNat x29) 0 then (if List.getD r49_2 (Int.toNat x29) 0<(↑(List.length r48):Int) then zf14.l8 n m5 m8 (x16) (x17) (x18) (x28) (Go.RowKit.wrap64 (x29+1)) (List.set r48 (Int.toNat (List.getD r49_2 (Int.toNat x29) 0)) (Go.RowKit.wrap64 (List.getD r48 (Int.toNat (List.getD r49_2 (Int.toNat x29) 0)) 0+List.getD r50 (Int.toNat x29) 0))) (r49_0) (r49_1) (r49_2) (r50) else none) else none) else none) else none) else none) else none) else none) else none) else zf14.l5 n m5 (x16) (x17) (Go.RowKit.wrap64 (x18+1)) (r48)):=by kernel_rfl
noncomputable abbrev zf14.sg (n:Nat):Sig:=⟨zf14.ps,zf14.res,zf14 n⟩
theorem zf14.call:Callable Tryz.prog 82:=⟨Tryz.f82,Tryz.func82,by kernel_rfl,by kernel_rfl⟩
theorem zf14.ok (n:Nat):FC Tryz.prog [] 82 (zf14.sg n):=
  evalF_ok (C:=zf14.C) ⟨tb_ok,fun n _ _ h=>tabOk (l:=[(33,(zf28.sg n)),(122,(zf26.sg n))]) (all_cons ⟨zf28.ok n,zf28.call⟩ (all_cons ⟨zf26.ok n,zf26.call⟩ (all_nil))) h,mixed,ar_ok,bld_ok,pts_ok⟩ zf14.A Tryz.func82 zf14.ps zf14.res n
abbrev zf16.ps:List Pm:=[.arg (.v (.slice (.int .i64))),.arg (.v (.slice zt8))]
abbrev zf16.res:List M:=[(.own (.int .i64) 3)]
noncomputable def zf16.C:Cfg:={ tb:=tb,tab:=fun n f=>Refl.look [(32,(zf47.sg n)),(82,(zf14.sg n))] f,gl:=[],ar:=ar,bld:=bld,pts:=pts }
noncomputable def zf16.A:Ann:={ joins:=[],loops:=[(5,{ live:=[0,5,14,15,16],base:=32,grow:=[(5,53,(.int .i64),3)] })],ids:=[(1,[(9,[])]),(7,[(28,[])])],pids:=[],nroots:=96 }
noncomputable def zf16 (n:Nat) (x:List Int × List zt19):Option (List Int):=evalF zf16.C zf16.A Tryz.f40 zf16.ps zf16.res n x
noncomputable def zf16.K0 (_:Nat):Kont (List Int):=finK zf16.C (Func.results Tryz.f40).toList zf16.ps zf16.res
noncomputable def zf16.K1 (n:Nat):Kont (List Int):=seqK (fun s' k=>joinE zf16.A.joins (codeAt Tryz.f40 [1,1,1,1]) (fun s''=>evalC zf16.C zf16.A n (codeAt Tryz.f40 [1,1,1,1]) s'' k) s') (zf16.K0 n)
noncomputable def zf16.K2 (n:Nat):Kont (List Int):=blockK 0 (zf16.K1 n)
noncomputable def zf16.l5 (n m5:Nat) (x0:List Int) (x15 x16:Int) (r32 r33:List Int):Option (List Int):=loopE (cutAt zf16.A.loops (codeAt Tryz.f40 [1,1,1,0,1,0,0])) (fun s k=>evalC zf16.C zf16.A n (codeAt Tryz.f40 [1,1,1,0,1,0,0]) s k) m5 (St.of 32 96 [(0,.val (.slice (.int .i64)) x0),(5,.own 32),(14,.own 33),(15,.val (.int .i64) x15),(16,.val (.int .i64) x16)] [(32,.row (.int .i64) 3 r32),(33,.row (.int .i64) 3 r33)] []) (zf16.K2 n)
theorem zf16.eq (n:Nat) (x0:List Int) (x1:List zt19):zf16 n (x0,x1)=((zf47 n x0).bind fun y0=>(if (!y0)=true then some ([]) else ((zf14 n (x1,(↑(List.length x0):Int))).bind fun y1=>zf16.l5 n n (x0) ((↑(List.length y1):Int)) (0) ([]) (y1)))):=by kernel_rfl
theorem zf16.l5_succ (n m5:Nat) (x0:List Int) (x15 x16:Int) (r32 r33:List Int):zf16.l5 n (m5+1) x0 x15 x16 r32 r33=(if x16<x15 then (if 0≤x16 then (if x16<(↑(List.length r33):Int) then (if 0≤x16 then (if x16<(↑(List.length x0):Int) then (if List.length r32+List.length (List.set (List.replicate (1:Nat) (0:Int)) (0:Nat) (Go.RowKit.wrap64 (List.getD x0 (Int.toNat x16) (0:Int)-List.getD r33 (Int.toNat x16) (0:Int))))≤Go.Refl.maxN then zf16.l5 n m5 (x0) (x15) (Go.RowKit.wrap64 (x16+1)) (r32++List.set (List.replicate 1 0) 0 (Go.RowKit.wrap64 (List.getD x0 (Int.toNat x16) 0-List.getD r33 (Int.toNat x16) 0))) (r33) else none) else none) else none) else none) else none) else some (r32)):=by kernel_rfl
noncomputable abbrev zf16.sg (n:Nat):Sig:=⟨zf16.ps,zf16.res,zf16 n⟩
theorem zf16.call:Callable Tryz.prog 40:=⟨Tryz.f40,Tryz.func40,by kernel_rfl,by kernel_rfl⟩
theorem zf16.ok (n:Nat):FC Tryz.prog [] 40 (zf16.sg n):=
  evalF_ok (C:=zf16.C) ⟨tb_ok,fun n _ _ h=>tabOk (l:=[(32,(zf47.sg n)),(82,(zf14.sg n))]) (all_cons ⟨zf47.ok n,zf47.call⟩ (all_cons ⟨zf14.ok n,zf14.call⟩ (all_nil))) h,mixed,ar_ok,bld_ok,pts_ok⟩ zf16.A Tryz.func40 zf16.ps zf16.res n
abbrev zf65.ps:List Pm:=[.arg (.v (.slice (.int .i64)))]
abbrev zf65.res:List M:=[.v (.int .i64)]
noncomputable def zf65.C:Cfg:={ tb:=tb,tab:=fun n f=>Refl.look [] f,gl:=[],ar:=ar,bld:=bld,pts:=pts }
noncomputable def zf65.A:Ann:={ joins:=[],loops:=[(5,{ live:=[0,3,4],base:=25 })],ids:=[],pids:=[],nroots:=89 }
noncomputable def zf65 (n:Nat) (x:List Int):Option (Int):=evalF zf65.C zf65.A Tryz.f41 zf65.ps zf65.res n x
noncomputable def zf65.K0 (_:Nat):Kont (Int):=finK zf65.C (Func.results Tryz.f41).toList zf65.ps zf65.res
noncomputable def zf65.K1 (n:Nat):Kont (Int):=seqK (fun s' k=>joinE zf65.A.joins (codeAt Tryz.f41 [1,1,1,1]) (fun s''=>evalC zf65.C zf65.A n (codeAt Tryz.f41 [1,1,1,1]) s'' k) s') (zf65.K0 n)
noncomputable def zf65.K2 (n:Nat):Kont (Int):=blockK 0 (zf65.K1 n)
noncomputable def zf65.l5 (n m5:Nat) (x0:List Int) (x3 x4:Int):Option (Int):=loopE (cutAt zf65.A.loops (codeAt Tryz.f41 [1,1,1,0,1,0,0])) (fun s k=>evalC zf65.C zf65.A n (codeAt Tryz.f41 [1,1,1,0,1,0,0]) s k) m5 (St.of 25 89 [(0,.val (.slice (.int .i64)) x0),(3,.val (.int .i64) x3),(4,.val (.int .i64) x4)] [] []) (zf65.K2 n)
theorem zf65.eq (n:Nat) (x0:List Int):zf65 n x0=(if (↑(List.length x0):Int)<1 then none else (if 0<(↑(List.length x0):Int) then zf65.l5 n n (x0) (List.getD x0 0 0) (1) else none)):=by kernel_rfl
theorem zf65.l5_succ (n m5:Nat) (x0:List Int) (x3 x4:Int):zf65.l5 n (m5+1) x0 x3 x4=(if x4<(↑(List.length x0):Int) then (if 0≤x4 then (if x4<(↑(List.length x0):Int) then zf65.l5 n m5 (x0) (Go.Refl.mn x3 (List.getD x0 (Int.toNat x4) 0)) (Go.RowKit.wrap64 (x4+1)) else none) else none) else some (x3)):=by kernel_rfl
noncomputable abbrev zf65.sg (n:Nat):Sig:=⟨zf65.ps,zf65.res,zf65 n⟩
theorem zf65.call:Callable Tryz.prog 41:=⟨Tryz.f41,Tryz.func41,by kernel_rfl,by kernel_rfl⟩
theorem zf65.ok (n:Nat):FC Tryz.prog [] 41 (zf65.sg n):=
  evalF_ok (C:=zf65.C) ⟨tb_ok,fun n _ _ h=>tabOk (l:=[]) (all_nil) h,mixed,ar_ok,bld_ok,pts_ok⟩ zf65.A Tryz.func41 zf65.ps zf65.res n
abbrev zf24.ps:List Pm:=[.arg (.v (.slice (.int .i64))),.arg (.v (.slice zt8))]
abbrev zf24.res:List M:=[.v .bool]
noncomputable def zf24.C:Cfg:={ tb:=tb,tab:=fun n f=>Refl.look [(40,(zf16.sg n)),(41,(zf65.sg n))] f,gl:=[],ar:=ar,bld:=bld,pts:=pts }
noncomputable def zf24.A:Ann:={ joins:=[],loops:=[],ids:=[(2,[(14,[])])],pids:=[],nroots:=81 }
noncomputable def zf24 (n:Nat) (x:List Int × List zt19):Option (Bool):=evalF zf24.C zf24.A Tryz.f12 zf24.ps zf24.res n x
theorem zf24.eq (n:Nat) (x0:List Int) (x1:List zt19):zf24 n (x0,x1)=((zf16 n (x0,x1)).bind fun y0=>(if (↑(List.length y0):Int) > 0 then ((zf65 n y0).bind fun y1=>some (Decidable.decide (y1≥0))) else some (Bool.false))):=by kernel_rfl
noncomputable abbrev zf24.sg (n:Nat):Sig:=⟨zf24.ps,zf24.res,zf24 n⟩
theorem zf24.call:Callable Tryz.prog 12:=⟨Tryz.f12,Tryz.func12,by kernel_rfl,by kernel_rfl⟩
theorem zf24.ok (n:Nat):FC Tryz.prog [] 12 (zf24.sg n):=
  evalF_ok (C:=zf24.C) ⟨tb_ok,fun n _ _ h=>tabOk (l:=[(40,(zf16.sg n)),(41,(zf65.sg n))]) (all_cons ⟨zf16.ok n,zf16.call⟩ (all_cons ⟨zf65.ok n,zf65.call⟩ (all_nil))) h,mixed,ar_ok,bld_ok,pts_ok⟩ zf24.A Tryz.func12 zf24.ps zf24.res n
abbrev zf9.ps:List Pm:=[.box 26 (.pr (.own (.int .i64) 3) (.pr (.own zt8 100) (.v zt13))),.arg (.v zt1)]
abbrev zf9.res:List M:=[.v .bool]
noncomputable def zf9.C:Cfg:={ tb:=tb,tab:=fun n f=>Refl.look [(75,{ params:=zf59.ps,res:=[.v (.slice (.int .i64))],run:=zf59 n }),(12,(zf24.sg n))] f,gl:=[],ar:=ar,bld:=bld,pts:=pts }
noncomputable def zf9.A:Ann:={ joins:=[],loops:=[],ids:=[(1,[(16,[]),(18,[])]),(2,[(30,[])])],pids:=[(0,[97,98])],nroots:=105 }
noncomputable def zf9 (n:Nat) (x:zt10 × Int × Int × Int × Int × List Int × Int × Int):Option (Bool × List Int × List zt19 × Int × Int × Int):=evalF zf9.C zf9.A Tryz.f112 zf9.ps zf9.res n x
theorem zf9.eq (n:Nat) (x0:List Int × List zt19 × Int × Int × Int) (x1:Int × Int × Int × Int × List Int × Int × Int):zf9 n (x0,x1)=((zf59 n x1.2.2.2.2.1).bind fun y0=>(if List.length x0.2.1+List.length (List.set (List.replicate (1:Nat) ((0:Int),(0:Int),[])) (0:Nat) (x1.2.1,x1.2.2.1,y0))≤Go.Refl.maxN then ((zf24 n (x0.1,x0.2.1++List.set (List.replicate 1 (0,0,[])) 0 (x1.2.1,x1.2.2.1,y0))).bind fun y1=>(if (!y1)=true then some ((Bool.false,x0.1,x0.2.1++List.set (List.replicate 1 (0,0,[])) 0 (x1.2.1,x1.2.2.1,y0),x0.2.2.1,x0.2.2.2.1,x0.2.2.2.2)) else some ((Bool.true,x0.1,x0.2.1++List.set (List.replicate 1 (0,0,[])) 0 (x1.2.1,x1.2.2.1,y0),Go.RowKit.wrap64 (x0.2.2.1-x1.2.2.1),x0.2.2.2.1,x0.2.2.2.2)))) else none)):=by kernel_rfl
noncomputable abbrev zf9.sg (n:Nat):Sig:=⟨zf9.ps,zf9.res,zf9 n⟩
theorem zf9.call:Callable Tryz.prog 112:=⟨Tryz.f112,Tryz.func112,by kernel_rfl,by kernel_rfl⟩
theorem zf9.ok (n:Nat):FC Tryz.prog [] 112 (zf9.sg n):=
  evalF_ok (C:=zf9.C) ⟨tb_ok,fun n _ _ h=>tabOk (l:=[(75,{ params:=zf59.ps,res:=[.v (.slice (.int .i64))],run:=zf59 n }),(12,(zf24.sg n))]) (all_cons ⟨FC.weak (.cons (.own _ _) .nil) HEq.rfl (zf59.ok n),zf59.call⟩ (all_cons ⟨zf24.ok n,zf24.call⟩ (all_nil))) h,mixed,ar_ok,bld_ok,pts_ok⟩ zf9.A Tryz.func112 zf9.ps zf9.res n
abbrev zf62.ps:List Pm:=[.arg (.own zt8 100),.arg (.v (.int .i64)),.arg (.v (.int .i64))]
abbrev zf62.res:List M:=[(.own zt8 100)]
noncomputable def zf62.C:Cfg:={ tb:=tb,tab:=fun n f=>Refl.look [] f,gl:=[],ar:=ar,bld:=bld,pts:=pts }
noncomputable def zf62.A:Ann:={ joins:=[],loops:=[],ids:=[(5,[(26,[])])],pids:=[],nroots:=97 }
noncomputable def zf62 (n:Nat) (x:List zt19 × Int × Int):Option zt17:=evalF zf62.C zf62.A Tryz.f163 zf62.ps zf62.res n x
theorem zf62.eq (n:Nat) (x0:List zt19) (x1 x2:Int):zf62 n (x0,x1,x2)=(if 0≤x1 then (if x1≤x2 then (if x2≤(↑(List.length x0):Int) then (if (↑(List.length x0):Int)≤(↑(List.length x0):Int) then (if x1=x2 then some (x0) else (if 0≤x1 then (if x1≤(↑(List.length x0):Int) then (if 0≤x2 then (if x2≤(↑(List.length x0):Int) then (if 0<List.length x0 then (if Int.toNat x1-0+List.length (List.take (List.length x0-Int.toNat x2) (List.drop (Int.toNat x2) x0))≤List.length x0 then (if 0≤(↑(Int.toNat x1-0+List.length (List.take (List.length x0-Int.toNat x2) (List.drop (Int.toNat x2) x0))):Int) then (if (↑(Int.toNat x1-0+List.length (List.take (List.length x0-Int.toNat x2) (List.drop (Int.toNat x2) x0))):Int)≤(↑(List.length x0):Int) then (if (↑(List.length x0):Int)≤(↑(List.length (List.take (Int.toNat x1-(0:Nat)) x0++List.take (List.length x0-Int.toNat x2) (List.drop (Int.toNat x2) x0)++List.drop (Int.toNat x1-(0:Nat)+List.length (List.take (List.length x0-Int.toNat x2) (List.drop (Int.toNat x2) x0))) x0)-0):Int) then some (List.take (Int.toNat x1-0+List.length (List.take (List.length x0-Int.toNat x2) (List.drop (Int.toNat x2) x0))) (List.take (0+Int.toNat (↑(Int.toNat x1-0+List.length (List.take (List.length x0-Int.toNat x2) (List.drop (Int.toNat x2) x0))):Int)) (List.take (Int.toNat x1-0) x0++List.take (List.length x0-Int.toNat x2) (List.drop (Int.toNat x2) x0)++List.drop (Int.toNat x1-0+List.length (List.take (List.length x0-Int.toNat x2) (List.drop (Int.toNat x2) x0))) x0)++List.replicate (Int.toNat (↑(List.length x0):Int)-Int.toNat (↑(Int.toNat x1-0+List.length (List.take (List.length x0-Int.toNat x2) (List.drop (Int.toNat x2) x0))):Int)) (0,0,[])++List.drop (0+Int.toNat (↑(Int.toNat x1-0+List.length (List.take (List.length x0-Int.toNat x2) (List.drop (Int.toNat x2) x0))):Int)+(Int.toNat (↑(List.length x0):Int)-Int.toNat (↑(Int.toNat x1-0+List.length (List.take (List.length x0-Int.toNat x2) (List.drop (Int.toNat x2) x0))):Int))) (List.take (Int.toNat x1-0) x0++List.take (List.length x0-Int.toNat x2) (List.drop (Int.toNat x2) x0)++List.drop (Int.toNat x1-0+List.length (List.take (List.length x0-Int.toNat x2) (List.drop (Int.toNat x2) x0))) x0))) else none) else none) else none) else none) else none) else none) else none) else none) else none)) else none) else none) else none) else none):=by kernel_rfl
noncomputable abbrev zf62.sg (n:Nat):Sig:=⟨zf62.ps,zf62.res,zf62 n⟩
theorem zf62.call:Callable Tryz.prog 163:=⟨Tryz.f163,Tryz.func163,by kernel_rfl,by kernel_rfl⟩
theorem zf62.ok (n:Nat):FC Tryz.prog [] 163 (zf62.sg n):=
  evalF_ok (C:=zf62.C) ⟨tb_ok,fun n _ _ h=>tabOk (l:=[]) (all_nil) h,mixed,ar_ok,bld_ok,pts_ok⟩ zf62.A Tryz.func163 zf62.ps zf62.res n
abbrev zf18.ps:List Pm:=[.arg (.v (.slice zt8)),.arg (.v (.int .i64)),.arg (.v (.int .i64)),.arg (.v (.int .i64))]
abbrev zf18.res:List M:=[(.own zt8 100)]
noncomputable def zf18.C:Cfg:={ tb:=tb,tab:=fun n f=>Refl.look [(33,(zf28.sg n)),(76,(zf34.sg n)),(163,(zf62.sg n))] f,gl:=[],ar:=ar,bld:=bld,pts:=pts }
noncomputable def zf18.A:Ann:={ joins:=[],loops:=[],ids:=[(1,[(12,[])])],pids:=[],nroots:=124 }
noncomputable def zf18 (n:Nat) (x:List zt19 × Int × Int × Int):Option zt17:=evalF zf18.C zf18.A Tryz.f137 zf18.ps zf18.res n x
theorem zf18.eq (n:Nat) (x0:List zt19) (x1 x2 x3:Int):zf18 n (x0,x1,x2,x3)=((zf28 n (x0,x1)).bind fun y0=>(if (!y0)=Bool.true then some ([]) else (if x2<0 then some ([]) else (if x2≥(↑(List.length x0):Int) then some ([]) else (if x3<1 then some ([]) else (if 0≤x2 then (if x2<(↑(List.length x0):Int) then (if x3 > Prod.fst (Prod.snd (List.getD x0 (Int.toNat x2) (0,0,[]))) then some ([]) else ((zf34 n x0).bind fun y1=>(if 0≤x2 then (if x2<(↑(List.length y1):Int) then (if 0≤x2 then (if x2<(↑(List.length y1):Int) then (if 0≤x2 then (if x2<(↑(List.length (List.set y1 (Int.toNat x2) (Prod.fst (List.getD y1 (Int.toNat x2) ((0:Int),(0:Int),[])),Go.RowKit.wrap64 (Prod.fst (Prod.snd (List.getD y1 (Int.toNat x2) ((0:Int),(0:Int),[])))-x3),Prod.snd (Prod.snd (List.getD y1 (Int.toNat x2) ((0:Int),(0:Int),[])))))):Int) then (if Prod.fst (Prod.snd (List.getD (List.set y1 (Int.toNat x2) (Prod.fst (List.getD y1 (Int.toNat x2) (0,0,[])),Go.RowKit.wrap64 (Prod.fst (Prod.snd (List.getD y1 (Int.toNat x2) (0,0,[])))-x3),Prod.snd (Prod.snd (List.getD y1 (Int.toNat x2) (0,0,[]))))) (Int.toNat x2) (0,0,[])))=0 then ((zf62 n (List.set y1 (Int.toNat x2) (Prod.fst (List.getD y1 (Int.toNat x2) (0,0,[])),Go.RowKit.wrap64 (Prod.fst (Prod.snd (List.getD y1 (Int.toNat x2) (0,0,[])))-x3),Prod.snd (Prod.snd (List.getD y1 (Int.toNat x2) (0,0,[])))),x2,Go.RowKit.wrap64 (x2+1))).bind fun y2=>some (y2)) else some (List.set y1 (Int.toNat x2) (Prod.fst (List.getD y1 (Int.toNat x2) (0,0,[])),Go.RowKit.wrap64 (Prod.fst (Prod.snd (List.getD y1 (Int.toNat x2) (0,0,[])))-x3),Prod.snd (Prod.snd (List.getD y1 (Int.toNat x2) (0,0,[])))))) else none) else none) else none) else none) else none) else none))) else none) else none)))))):=by kernel_rfl
noncomputable abbrev zf18.sg (n:Nat):Sig:=⟨zf18.ps,zf18.res,zf18 n⟩
theorem zf18.call:Callable Tryz.prog 137:=⟨Tryz.f137,Tryz.func137,by kernel_rfl,by kernel_rfl⟩
theorem zf18.ok (n:Nat):FC Tryz.prog [] 137 (zf18.sg n):=
  evalF_ok (C:=zf18.C) ⟨tb_ok,fun n _ _ h=>tabOk (l:=[(33,(zf28.sg n)),(76,(zf34.sg n)),(163,(zf62.sg n))]) (all_cons ⟨zf28.ok n,zf28.call⟩ (all_cons ⟨zf34.ok n,zf34.call⟩ (all_cons ⟨zf62.ok n,zf62.call⟩ (all_nil)))) h,mixed,ar_ok,bld_ok,pts_ok⟩ zf18.A Tryz.func137 zf18.ps zf18.res n
abbrev zf12.ps:List Pm:=[.box 26 (.pr (.own (.int .i64) 3) (.pr (.own zt8 100) (.v zt13))),.arg (.v zt1)]
abbrev zf12.res:List M:=[.v .bool]
noncomputable def zf12.C:Cfg:={ tb:=tb,tab:=fun n f=>Refl.look [(137,(zf18.sg n))] f,gl:=[],ar:=ar,bld:=bld,pts:=pts }
noncomputable def zf12.A:Ann:={ joins:=[],loops:=[],ids:=[],pids:=[(0,[139,140])],nroots:=147 }
noncomputable def zf12 (n:Nat) (x:zt10 × Int × Int × Int × Int × List Int × Int × Int):Option (Bool × List Int × List zt19 × Int × Int × Int):=evalF zf12.C zf12.A Tryz.f113 zf12.ps zf12.res n x
theorem zf12.eq (n:Nat) (x0:List Int × List zt19 × Int × Int × Int) (x1:Int × Int × Int × Int × List Int × Int × Int):zf12 n (x0,x1)=(if x1.2.1<0 then some ((Bool.false,x0.1,x0.2.1,x0.2.2.1,x0.2.2.2.1,x0.2.2.2.2)) else (if x1.2.1≥(↑(List.length x0.2.1):Int) then some ((Bool.false,x0.1,x0.2.1,x0.2.2.1,x0.2.2.2.1,x0.2.2.2.2)) else (if x1.2.2.2.1<0 then some ((Bool.false,x0.1,x0.2.1,x0.2.2.1,x0.2.2.2.1,x0.2.2.2.2)) else (if x1.2.2.2.1 > 100000 then some ((Bool.false,x0.1,x0.2.1,x0.2.2.1,x0.2.2.2.1,x0.2.2.2.2)) else (if x1.2.2.1<1 then some ((Bool.false,x0.1,x0.2.1,x0.2.2.1,x0.2.2.2.1,x0.2.2.2.2)) else (if 0≤x1.2.1 then (if x1.2.1<(↑(List.length x0.2.1):Int) then (if x1.2.2.1 > Prod.fst (Prod.snd (List.getD x0.2.1 (Int.toNat x1.2.1) (0,0,[]))) then some ((Bool.false,x0.1,x0.2.1,x0.2.2.1,x0.2.2.2.1,x0.2.2.2.2)) else ((zf18 n (x0.2.1,(↑(List.length x0.1):Int),x1.2.1,x1.2.2.1)).bind fun y0=>some ((Bool.true,x0.1,y0,Go.RowKit.wrap64 (x0.2.2.1+Go.RowKit.wrap64 (x1.2.2.1+x1.2.2.2.1)),Go.RowKit.wrap64 (x0.2.2.2.1+x1.2.2.2.1),x0.2.2.2.2)))) else none) else none)))))):=by kernel_rfl
noncomputable abbrev zf12.sg (n:Nat):Sig:=⟨zf12.ps,zf12.res,zf12 n⟩
theorem zf12.call:Callable Tryz.prog 113:=⟨Tryz.f113,Tryz.func113,by kernel_rfl,by kernel_rfl⟩
theorem zf12.ok (n:Nat):FC Tryz.prog [] 113 (zf12.sg n):=
  evalF_ok (C:=zf12.C) ⟨tb_ok,fun n _ _ h=>tabOk (l:=[(137,(zf18.sg n))]) (all_cons ⟨zf18.ok n,zf18.call⟩ (all_nil)) h,mixed,ar_ok,bld_ok,pts_ok⟩ zf12.A Tryz.func113 zf12.ps zf12.res n
abbrev zf45.ps:List Pm:=[.inout (.int .i64) 3,.arg (.v (.int .i64)),.arg (.v (.int .i64))]
abbrev zf45.res:List M:=[.v (.int .i64)]
noncomputable def zf45.C:Cfg:={ tb:=tb,tab:=fun n f=>Refl.look [] f,gl:=[],ar:=ar,bld:=bld,pts:=pts }
noncomputable def zf45.A:Ann:={ joins:=[],loops:=[],ids:=[],pids:=[],nroots:=88 }
noncomputable def zf45 (n:Nat) (x:List Int × Int × Int):Option (Int × List Int):=evalF zf45.C zf45.A Tryz.f183 zf45.ps zf45.res n x
theorem zf45.eq (n:Nat) (x0:List Int) (x1 x2:Int):zf45 n (x0,x1,x2)=(if 0≤x1 then (if x1<(↑(List.length x0):Int) then (if 0≤x1 then (if x1<(↑(List.length x0):Int) then (if 0≤x1 then (if x1<(↑(List.length x0):Int) then some ((Go.RowKit.wrap64 (x2-Go.Refl.mn (List.getD x0 (Int.toNat x1) 0) x2),List.set x0 (Int.toNat x1) (Go.RowKit.wrap64 (List.getD x0 (Int.toNat x1) 0-Go.Refl.mn (List.getD x0 (Int.toNat x1) 0) x2)))) else none) else none) else none) else none) else none) else none):=by kernel_rfl
noncomputable abbrev zf45.sg (n:Nat):Sig:=⟨zf45.ps,zf45.res,zf45 n⟩
theorem zf45.call:Callable Tryz.prog 183:=⟨Tryz.f183,Tryz.func183,by kernel_rfl,by kernel_rfl⟩
theorem zf45.ok (n:Nat):FC Tryz.prog [] 183 (zf45.sg n):=
  evalF_ok (C:=zf45.C) ⟨tb_ok,fun n _ _ h=>tabOk (l:=[]) (all_nil) h,mixed,ar_ok,bld_ok,pts_ok⟩ zf45.A Tryz.func183 zf45.ps zf45.res n
abbrev zf36.ps:List Pm:=[.inout (.int .i64) 3,.arg (.v zt8)]
abbrev zf36.res:List M:=[.v (.int .i64),(.own (.int .i64) 3)]
noncomputable def zf36.C:Cfg:={ tb:=tb,tab:=fun n f=>Refl.look [(183,(zf45.sg n)),(122,(zf26.sg n))] f,gl:=[],ar:=ar,bld:=bld,pts:=pts }
noncomputable def zf36.A:Ann:={ joins:=[],loops:=[(5,{ live:=[0,3,6,7,22,23,24],base:=53,grow:=[(7,76,(.int .i64),3)] })],ids:=[(3,[(17,[])]),(7,[(36,[])]),(10,[(48,[])])],pids:=[],nroots:=117 }
noncomputable def zf36 (n:Nat) (x:List Int × Int × Int × List Int):Option (Int × List Int × List Int):=evalF zf36.C zf36.A Tryz.f164 zf36.ps zf36.res n x
noncomputable def zf36.K0 (_:Nat):Kont (Int × List Int × List Int):=finK zf36.C (Func.results Tryz.f164).toList zf36.ps zf36.res
noncomputable def zf36.K1 (n:Nat):Kont (Int × List Int × List Int):=seqK (fun s' k=>joinE zf36.A.joins (codeAt Tryz.f164 [1,1,1,1,1]) (fun s''=>evalC zf36.C zf36.A n (codeAt Tryz.f164 [1,1,1,1,1]) s'' k) s') (zf36.K0 n)
noncomputable def zf36.K2 (n:Nat):Kont (Int × List Int × List Int):=blockK 0 (zf36.K1 n)
noncomputable def zf36.l5 (n m5:Nat) (x6 x23 x24:Int) (r0:List Int) (r53_0 r53_1:Int) (r53_2 r54 r55:List Int):Option (Int × List Int × List Int):=loopE (cutAt zf36.A.loops (codeAt Tryz.f164 [1,1,1,1,0,1,0,0])) (fun s k=>evalC zf36.C zf36.A n (codeAt Tryz.f164 [1,1,1,1,0,1,0,0]) s k) m5 (St.of 53 117 [(0,.own 0),(3,.ptr 53 0 0),(6,.val (.int .i64) x6),(7,.own 54),(22,.own 55),(23,.val (.int .i64) x23),(24,.val (.int .i64) x24)] [(0,.row (.int .i64) 3 r0),(53,.box 100 [.val (.int .i64) r53_0,.val (.int .i64) r53_1,.val (.slice (.int .i64)) r53_2]),(54,.row (.int .i64) 3 r54),(55,.row (.int .i64) 3 r55)] [0]) (zf36.K2 n)
theorem zf36.eq (n:Nat) (x0:List Int) (x1:Int × Int × List Int):zf36 n (x0,x1)=((zf45 n (x0,x1.1,x1.2.1)).bind fun y0=>((zf26 n (y0.1,(↑(List.length x1.2.2):Int))).bind fun y1=>zf36.l5 n n (0) ((↑(List.length y1):Int)) (0) y0.2 x1.1 x1.2.1 x1.2.2 ([]) (y1))):=by kernel_rfl
theorem zf36.l5_succ (n m5:Nat) (x6 x23 x24:Int) (r0:List Int) (r53_0 r53_1:Int) (r53_2 r54 r55:List Int):zf36.l5 n (m5+1) x6 x23 x24 r0 r53_0 r53_1 r53_2 r54 r55=(if x24<x23 then (if 0≤x24 then (if x24<(↑(List.length r55):Int) then (if 0≤x24 then (if x24<(↑(List.length r53_2):Int) then ((zf45 n (r0,List.getD r53_2 (Int.toNat x24) 0,List.getD r55 (Int.toNat x24) 0)).bind fun y2=>(if y2.1 > 0 then (if 0≤x24 then (if x24<(↑(List.length r53_2):Int) then (if List.length r54+List.length (List.set (List.replicate (1:Nat) (0:Int)) (0:Nat) (List.getD r53_2 (Int.toNat x24) (0:Int)))≤Go.Refl.maxN then zf36.l5 n m5 (Go.RowKit.wrap64 (x6+y2.1)) (x23) (Go.RowKit.wrap64 (x24+1)) y2.2 (r53_0) (r53_1) (r53_2) (r54++List.set (List.replicate 1 0) 0 (List.getD r53_2 (Int.toNat x24) 0)) (r55) else none) else none) else none) else zf36.l5 n m5 (x6) (x23) (Go.RowKit.wrap64 (x24+1)) y2.2 (r53_0) (r53_1) (r53_2) (r54) (r55))) else none) else none) else none) else none) else some ((x6,r54,r0))):=by kernel_rfl
noncomputable abbrev zf36.sg (n:Nat):Sig:=⟨zf36.ps,zf36.res,zf36 n⟩
theorem zf36.call:Callable Tryz.prog 164:=⟨Tryz.f164,Tryz.func164,by kernel_rfl,by kernel_rfl⟩
theorem zf36.ok (n:Nat):FC Tryz.prog [] 164 (zf36.sg n):=
  evalF_ok (C:=zf36.C) ⟨tb_ok,fun n _ _ h=>tabOk (l:=[(183,(zf45.sg n)),(122,(zf26.sg n))]) (all_cons ⟨zf45.ok n,zf45.call⟩ (all_cons ⟨zf26.ok n,zf26.call⟩ (all_nil))) h,mixed,ar_ok,bld_ok,pts_ok⟩ zf36.A Tryz.func164 zf36.ps zf36.res n
abbrev zf5.ps:List Pm:=[.arg (.v (.slice (.int .i64))),.arg (.v (.slice zt8)),.arg (.v (.int .i64))]
abbrev zf5.res:List M:=[(.own (.int .i64) 3),.v (.int .i64),(.own (.int .i64) 3)]
noncomputable def zf5.C:Cfg:={ tb:=tb,tab:=fun n f=>Refl.look [(32,(zf47.sg n)),(33,(zf28.sg n)),(75,(zf59.sg n)),(164,(zf36.sg n)),(74,(zf60.sg n))] f,gl:=[],ar:=ar,bld:=bld,pts:=pts }
noncomputable def zf5.A:Ann:={ joins:=[],loops:=[(7,{ live:=[1,9,10,11,12],base:=90 }),(10,{ live:=[1,9,10,11,12,49,50,51],base:=90 }),(16,{ live:=[1,9,10,11,12,49,50,51,71,72,73],base:=90 })],ids:=[(1,[(20,[]),(26,[])]),(5,[(42,[42])]),(18,[(79,[])]),(19,[(83,[])])],pids:=[],nroots:=154 }
noncomputable def zf5 (n:Nat) (x:List Int × List zt19 × Int):Option zt18:=evalF zf5.C zf5.A Tryz.f138 zf5.ps zf5.res n x
noncomputable def zf5.K0 (_:Nat):Kont zt18:=finK zf5.C (Func.results Tryz.f138).toList zf5.ps zf5.res
noncomputable def zf5.K1 (n:Nat):Kont zt18:=seqK (fun s' k=>joinE zf5.A.joins (codeAt Tryz.f138 [1,1,1,1,1,1]) (fun s''=>evalC zf5.C zf5.A n (codeAt Tryz.f138 [1,1,1,1,1,1]) s'' k) s') (zf5.K0 n)
noncomputable def zf5.K2 (n:Nat):Kont zt18:=blockK 0 (zf5.K1 n)
noncomputable def zf5.K3 (n m7:Nat):Kont zt18:=loopK (cutAt zf5.A.loops (codeAt Tryz.f138 [1,1,1,1,1,0,1,0,0])) (fun s k=>evalC zf5.C zf5.A n (codeAt Tryz.f138 [1,1,1,1,1,0,1,0,0]) s k) m7 (zf5.K2 n)
noncomputable def zf5.K4 (n m7:Nat):Kont zt18:=seqK (fun s' k=>joinE zf5.A.joins (codeAt Tryz.f138 [1,1,1,1,1,0,1,0,0,1,1]) (fun s''=>evalC zf5.C zf5.A n (codeAt Tryz.f138 [1,1,1,1,1,0,1,0,0,1,1]) s'' k) s') (zf5.K3 n m7)
noncomputable def zf5.K5 (n m7:Nat):Kont zt18:=blockK 1 (zf5.K4 n m7)
noncomputable def zf5.K6 (n m7:Nat):Kont zt18:=blockK 2 (zf5.K5 n m7)
noncomputable def zf5.K7 (n m7 m10:Nat):Kont zt18:=loopK (cutAt zf5.A.loops (codeAt Tryz.f138 [1,1,1,1,1,0,1,0,0,1,0,0,1,0,0])) (fun s k=>evalC zf5.C zf5.A n (codeAt Tryz.f138 [1,1,1,1,1,0,1,0,0,1,0,0,1,0,0]) s k) m10 (zf5.K6 n m7)
noncomputable def zf5.K8 (n m7 m10:Nat):Kont zt18:=seqK (fun s' k=>joinE zf5.A.joins (codeAt Tryz.f138 [1,1,1,1,1,0,1,0,0,1,0,0,1,0,0,1,1,1]) (fun s''=>evalC zf5.C zf5.A n (codeAt Tryz.f138 [1,1,1,1,1,0,1,0,0,1,0,0,1,0,0,1,1,1]) s'' k) s') (zf5.K7 n m7 m10)
noncomputable def zf5.K9 (n m7 m10:Nat):Kont zt18:=blockK 3 (zf5.K8 n m7 m10)
noncomputable def zf5.K10 (n m7 m10:Nat):Kont zt18:=blockK 4 (zf5.K9 n m7 m10)
noncomputable def zf5.l7 (n m7:Nat) (x1:List zt19) (x10 x12:Int) (r90 r91:List Int):Option zt18:=loopE (cutAt zf5.A.loops (codeAt Tryz.f138 [1,1,1,1,1,0,1,0,0])) (fun s k=>evalC zf5.C zf5.A n (codeAt Tryz.f138 [1,1,1,1,1,0,1,0,0]) s k) m7 (St.of 90 154 [(1,.val (.slice zt8) x1),(9,.own 90),(10,.val (.int .i64) x10),(11,.own 91),(12,.val (.int .i64) x12)] [(90,.row (.int .i64) 3 r90),(91,.row (.int .i64) 3 r91)] []) (zf5.K2 n)
noncomputable def zf5.l10 (n m7 m10:Nat) (x1:List zt19) (x10 x12:Int) (x49:List zt19) (x50 x51:Int) (r90 r91:List Int):Option zt18:=loopE (cutAt zf5.A.loops (codeAt Tryz.f138 [1,1,1,1,1,0,1,0,0,1,0,0,1,0,0])) (fun s k=>evalC zf5.C zf5.A n (codeAt Tryz.f138 [1,1,1,1,1,0,1,0,0,1,0,0,1,0,0]) s k) m10 (St.of 90 154 [(1,.val (.slice zt8) x1),(9,.own 90),(10,.val (.int .i64) x10),(11,.own 91),(12,.val (.int .i64) x12),(49,.val (.slice zt8) x49),(50,.val (.int .i64) x50),(51,.val (.int .i64) x51)] [(90,.row (.int .i64) 3 r90),(91,.row (.int .i64) 3 r91)] []) (zf5.K6 n m7)
noncomputable def zf5.l16 (n m7 m10 m16:Nat) (x1:List zt19) (x10 x12:Int) (x49:List zt19) (x50 x51:Int) (x72 x73:Int) (r90 r91 r92:List Int):Option zt18:=loopE (cutAt zf5.A.loops (codeAt Tryz.f138 [1,1,1,1,1,0,1,0,0,1,0,0,1,0,0,1,1,0,0,1,1,1,1,1,0,0])) (fun s k=>evalC zf5.C zf5.A n (codeAt Tryz.f138 [1,1,1,1,1,0,1,0,0,1,0,0,1,0,0,1,1,0,0,1,1,1,1,1,0,0]) s k) m16 (St.of 90 154 [(1,.val (.slice zt8) x1),(9,.own 90),(10,.val (.int .i64) x10),(11,.own 91),(12,.val (.int .i64) x12),(49,.val (.slice zt8) x49),(50,.val (.int .i64) x50),(51,.val (.int .i64) x51),(71,.own 92),(72,.val (.int .i64) x72),(73,.val (.int .i64) x73)] [(90,.row (.int .i64) 3 r90),(91,.row (.int .i64) 3 r91),(92,.row (.int .i64) 3 r92)] []) (zf5.K10 n m7 m10)
theorem zf5.eq (n:Nat) (x0:List Int) (x1:List zt19) (x2:Int):zf5 n (x0,x1,x2)=((zf47 n x0).bind fun y0=>(if (!y0)=Bool.true then some (([],(-1),[])) else ((zf28 n (x1,(↑(List.length x0):Int))).bind fun y1=>(if (!y1)=Bool.true then some (([],(-1),[])) else (if x2<0 then some (([],(-1),[])) else (if x2≥(↑(List.length x0):Int) then some (([],(-1),[])) else ((zf59 n x0).bind fun y2=>zf5.l7 n n (x1) (0) (0) (y2) (List.set (List.replicate 1 0) 0 x2)))))))):=by kernel_rfl
theorem zf5.l7_succ (n m7:Nat) (x1:List zt19) (x10 x12:Int) (r90 r91:List Int):zf5.l7 n (m7+1) x1 x10 x12 r90 r91=(if x12<(↑(List.length r91):Int) then zf5.l10 n m7 n (x1) (x10) (x12) (x1) ((↑(List.length x1):Int)) (0) (r90) (r91) else some ((r90,x10,r91))):=by kernel_rfl
theorem zf5.l10_succ (n m7 m10:Nat) (x1:List zt19) (x10 x12:Int) (x49:List zt19) (x50 x51:Int) (r90 r91:List Int):zf5.l10 n m7 (m10+1) x1 x10 x12 x49 x50 x51 r90 r91=(if x51<x50 then (if 0≤x51 then (if x51<(↑(List.length x49):Int) then (if 0≤x12 then (if x12<(↑(List.length r91):Int) then (if Prod.fst (List.getD x49 (Int.toNat x51) (0,0,[]))=List.getD r91 (Int.toNat x12) 0 then ((zf36 n (r90,Prod.fst (List.getD x49 (Int.toNat x51) (0,0,[])),Prod.fst (Prod.snd (List.getD x49 (Int.toNat x51) (0,0,[]))),Prod.snd (Prod.snd (List.getD x49 (Int.toNat x51) (0,0,[]))))).bind fun y3=>zf5.l16 n m7 m10 n (x1) (Go.RowKit.wrap64 (x10+y3.1)) (x12) (x49) (x50) (x51) ((↑(List.length y3.2.1):Int)) (0) y3.2.2 (r91) y3.2.1) else zf5.l10 n m7 m10 (x1) (x10) (x12) (x49) (x50) (Go.RowKit.wrap64 (x51+1)) (r90) (r91)) else none) else none) else none) else none) else zf5.l7 n m7 (x1) (x10) (Go.RowKit.wrap64 (x12+1)) (r90) (r91)):=by kernel_rfl
theorem zf5.l16_succ (n m7 m10 m16:Nat) (x1:List zt19) (x10 x12:Int) (x49:List zt19) (x50 x51:Int) (x72 x73:Int) (r90 r91 r92:List Int):zf5.l16 n m7 m10 (m16+1) x1 x10 x12 x49 x50 x51 x72 x73 r90 r91 r92=(if x73<x72 then (if 0≤x73 then (if x73<(↑(List.length r92):Int) then ((zf60 n (r91,List.getD r92 (Int.toNat x73) 0)).bind fun y4=>(if (!y4)=true then (if List.length r91+List.length (List.set (List.replicate (1:Nat) (0:Int)) (0:Nat) (List.getD r92 (Int.toNat x73) (0:Int)))≤Go.Refl.maxN then zf5.l16 n m7 m10 m16 (x1) (x10) (x12) (x49) (x50) (x51) (x72) (Go.RowKit.wrap64 (x73+1)) (r90) (r91++List.set (List.replicate 1 0) 0 (List.getD r92 (Int.toNat x73) 0)) (r92) else none) else zf5.l16 n m7 m10 m16 (x1) (x10) (x12) (x49) (x50) (x51) (x72) (Go.RowKit.wrap64 (x73+1)) (r90) (r91) (r92))) else none) else none) else zf5.l10 n m7 m10 (x1) (x10) (x12) (x49) (x50) (Go.RowKit.wrap64 (x51+1)) (r90) (r91)):=by kernel_rfl
noncomputable abbrev zf5.sg (n:Nat):Sig:=⟨zf5.ps,zf5.res,zf5 n⟩
theorem zf5.call:Callable Tryz.prog 138:=⟨Tryz.f138,Tryz.func138,by kernel_rfl,by kernel_rfl⟩
theorem zf5.ok (n:Nat):FC Tryz.prog [] 138 (zf5.sg n):=
  evalF_ok (C:=zf5.C) ⟨tb_ok,fun n _ _ h=>tabOk (l:=[(32,(zf47.sg n)),(33,(zf28.sg n)),(75,(zf59.sg n)),(164,(zf36.sg n)),(74,(zf60.sg n))]) (all_cons ⟨zf47.ok n,zf47.call⟩ (all_cons ⟨zf28.ok n,zf28.call⟩ (all_cons ⟨zf59.ok n,zf59.call⟩ (all_cons ⟨zf36.ok n,zf36.call⟩ (all_cons ⟨zf60.ok n,zf60.call⟩ (all_nil)))))) h,mixed,ar_ok,bld_ok,pts_ok⟩ zf5.A Tryz.func138 zf5.ps zf5.res n
abbrev zf8.ps:List Pm:=[.arg (.v zt8),.vp (.slice (.int .i64))]
abbrev zf8.res:List M:=[.v .bool]
noncomputable def zf8.C:Cfg:={ tb:=tb,tab:=fun n f=>Refl.look [(74,(zf60.sg n))] f,gl:=[],ar:=ar,bld:=bld,pts:=pts }
noncomputable def zf8.A:Ann:={ joins:=[],loops:=[],ids:=[(1,[(7,[])])],pids:=[],nroots:=72 }
noncomputable def zf8 (n:Nat) (x:zt19 × List Int):Option (Bool):=evalF zf8.C zf8.A Tryz.f140 zf8.ps zf8.res n x
theorem zf8.eq (n:Nat) (x0:Int × Int × List Int) (x1:List Int):zf8 n (x0,x1)=((zf60 n (x1,x0.1)).bind fun y0=>some (y0)):=by kernel_rfl
noncomputable abbrev zf8.sg (n:Nat):Sig:=⟨zf8.ps,zf8.res,zf8 n⟩
theorem zf8.call:Callable Tryz.prog 140:=⟨Tryz.f140,Tryz.func140,by kernel_rfl,by kernel_rfl⟩
theorem zf8.ok (n:Nat):FC Tryz.prog [] 140 (zf8.sg n):=
  evalF_ok (C:=zf8.C) ⟨tb_ok,fun n _ _ h=>tabOk (l:=[(74,(zf60.sg n))]) (all_cons ⟨zf60.ok n,zf60.call⟩ (all_nil)) h,mixed,ar_ok,bld_ok,pts_ok⟩ zf8.A Tryz.func140 zf8.ps zf8.res n
abbrev zf63.ps:List Pm:=[.arg (.v (.slice zt8)),.fnc 140 [(.slice (.int .i64))]]
abbrev zf63.res:List M:=[.v (.int .i64)]
noncomputable def zf63.C:Cfg:={ tb:=tb,tab:=fun n f=>Refl.look [(140,(zf8.sg n))] f,gl:=[],ar:=ar,bld:=bld,pts:=pts }
noncomputable def zf63.A:Ann:={ joins:=[],loops:=[(2,{ live:=[0,1,7,8],base:=19 })],ids:=[(4,[(16,[])])],pids:=[],nroots:=83 }
noncomputable def zf63 (n:Nat) (x:List zt19 × List Int):Option (Int):=evalF zf63.C zf63.A Tryz.f165 zf63.ps zf63.res n x
noncomputable def zf63.K0 (_:Nat):Kont (Int):=finK zf63.C (Func.results Tryz.f165).toList zf63.ps zf63.res
noncomputable def zf63.K1 (n:Nat):Kont (Int):=seqK (fun s' k=>joinE zf63.A.joins (codeAt Tryz.f165 [1,1]) (fun s''=>evalC zf63.C zf63.A n (codeAt Tryz.f165 [1,1]) s'' k) s') (zf63.K0 n)
noncomputable def zf63.K2 (n:Nat):Kont (Int):=blockK 0 (zf63.K1 n)
noncomputable def zf63.l2 (n m2:Nat) (x0:List zt19) (x1_0:List (List Int)) (x7 x8:Int):Option (Int):=loopE (cutAt zf63.A.loops (codeAt Tryz.f165 [1,0,1,0,0])) (fun s k=>evalC zf63.C zf63.A n (codeAt Tryz.f165 [1,0,1,0,0]) s k) m2 (St.of 19 83 [(0,.val (.slice zt8) x0),(1,.fn 140 [.vptr (.slice (.int .i64)) x1_0 0 0]),(7,.val (.int .i64) x7),(8,.val (.int .i64) x8)] [] []) (zf63.K2 n)
theorem zf63.eq (n:Nat) (x0:List zt19) (x1:List Int):zf63 n (x0,x1)=zf63.l2 n n (x0) ([x1]) ((↑(List.length x0):Int)) (0):=by kernel_rfl
theorem zf63.l2_succ (n m2:Nat) (x0:List zt19) (x1_0:List (List Int)) (x7 x8:Int):zf63.l2 n (m2+1) x0 x1_0 x7 x8=(if x8<x7 then (if 0≤x8 then (if x8<(↑(List.length x0):Int) then ((zf8 n (List.getD x0 (Int.toNat x8) (0,0,[]),List.getD x1_0 0 [])).bind fun y0=>(if (y0)=true then some (x8) else zf63.l2 n m2 (x0) (x1_0) (x7) (Go.RowKit.wrap64 (x8+1)))) else none) else none) else some ((-1))):=by kernel_rfl
noncomputable abbrev zf63.sg (n:Nat):Sig:=⟨zf63.ps,zf63.res,zf63 n⟩
theorem zf63.call:Callable Tryz.prog 165:=⟨Tryz.f165,Tryz.func165,by kernel_rfl,by kernel_rfl⟩
theorem zf63.ok (n:Nat):FC Tryz.prog [] 165 (zf63.sg n):=
  evalF_ok (C:=zf63.C) ⟨tb_ok,fun n _ _ h=>tabOk (l:=[(140,(zf8.sg n))]) (all_cons ⟨zf8.ok n,zf8.call⟩ (all_nil)) h,mixed,ar_ok,bld_ok,pts_ok⟩ zf63.A Tryz.func165 zf63.ps zf63.res n
abbrev zf61.ps:List Pm:=[.arg (.own zt8 100),.fnc 140 [(.slice (.int .i64))]]
abbrev zf61.res:List M:=[(.own zt8 100)]
noncomputable def zf61.C:Cfg:={ tb:=tb,tab:=fun n f=>Refl.look [(165,(zf63.sg n)),(140,(zf8.sg n))] f,gl:=[],ar:=ar,bld:=bld,pts:=pts }
noncomputable def zf61.A:Ann:={ joins:=[],loops:=[(5,{ live:=[0,1,5,6],base:=42 })],ids:=[(1,[(10,[])]),(8,[(28,[])])],pids:=[],nroots:=106 }
noncomputable def zf61 (n:Nat) (x:List zt19 × List Int):Option zt17:=evalF zf61.C zf61.A Tryz.f139 zf61.ps zf61.res n x
noncomputable def zf61.K0 (_:Nat):Kont zt17:=finK zf61.C (Func.results Tryz.f139).toList zf61.ps zf61.res
noncomputable def zf61.K1 (n:Nat):Kont zt17:=seqK (fun s' k=>joinE zf61.A.joins (codeAt Tryz.f139 [1,1,1,1]) (fun s''=>evalC zf61.C zf61.A n (codeAt Tryz.f139 [1,1,1,1]) s'' k) s') (zf61.K0 n)
noncomputable def zf61.K2 (n:Nat):Kont zt17:=blockK 0 (zf61.K1 n)
noncomputable def zf61.l5 (n m5:Nat) (x1_0:List (List Int)) (x5 x6:Int) (r42:List zt19):Option zt17:=loopE (cutAt zf61.A.loops (codeAt Tryz.f139 [1,1,1,0,1,0,0])) (fun s k=>evalC zf61.C zf61.A n (codeAt Tryz.f139 [1,1,1,0,1,0,0]) s k) m5 (St.of 42 106 [(0,.own 42),(1,.fn 140 [.vptr (.slice (.int .i64)) x1_0 0 0]),(5,.val (.int .i64) x5),(6,.val (.int .i64) x6)] [(42,.row zt8 100 r42)] []) (zf61.K2 n)
theorem zf61.eq (n:Nat) (x0:List zt19) (x1:List Int):zf61 n (x0,x1)=((zf63 n (x0,x1)).bind fun y0=>(if y0=(-1) then some (x0) else zf61.l5 n n ([x1]) (y0) (Go.RowKit.wrap64 (y0+1)) (x0))):=by kernel_rfl
theorem zf61.l5_succ (n m5:Nat) (x1_0:List (List Int)) (x5 x6:Int) (r42:List zt19):zf61.l5 n (m5+1) x1_0 x5 x6 r42=(if x6<(↑(List.length r42):Int) then (if 0≤x6 then (if x6<(↑(List.length r42):Int) then ((zf8 n ((Prod.fst (List.getD r42 (Int.toNat x6) (0,0,[])),Prod.fst (Prod.snd (List.getD r42 (Int.toNat x6) (0,0,[]))),Prod.snd (Prod.snd (List.getD r42 (Int.toNat x6) (0,0,[])))),List.getD x1_0 0 [])).bind fun y1=>(if (!y1)=true then (if 0≤x5 then (if x5<(↑(List.length r42):Int) then zf61.l5 n m5 (x1_0) (Go.RowKit.wrap64 (x5+1)) (Go.RowKit.wrap64 (x6+1)) (List.set r42 (Int.toNat x5) (Prod.fst (List.getD r42 (Int.toNat x6) (0,0,[])),Prod.fst (Prod.snd (List.getD r42 (Int.toNat x6) (0,0,[]))),Prod.snd (Prod.snd (List.getD r42 (Int.toNat x6) (0,0,[]))))) else none) else none) else zf61.l5 n m5 (x1_0) (x5) (Go.RowKit.wrap64 (x6+1)) (r42))) else none) else none) else (if 0≤x5 then (if x5≤(↑(List.length r42):Int) then (if 0≤x5 then (if x5≤(↑(List.length (List.take (Int.toNat x5) r42++List.replicate (List.length r42-Int.toNat x5) ((0:Int),(0:Int),[])++List.drop (Int.toNat x5+(List.length r42-Int.toNat x5)) r42)):Int) then some (List.take (Int.toNat x5-0) (List.take (Int.toNat x5) r42++List.replicate (List.length r42-Int.toNat x5) (0,0,[])++List.drop (Int.toNat x5+(List.length r42-Int.toNat x5)) r42)) else none) else none) else none) else none)):=by kernel_rfl
noncomputable abbrev zf61.sg (n:Nat):Sig:=⟨zf61.ps,zf61.res,zf61 n⟩
theorem zf61.call:Callable Tryz.prog 139:=⟨Tryz.f139,Tryz.func139,by kernel_rfl,by kernel_rfl⟩
theorem zf61.ok (n:Nat):FC Tryz.prog [] 139 (zf61.sg n):=
  evalF_ok (C:=zf61.C) ⟨tb_ok,fun n _ _ h=>tabOk (l:=[(165,(zf63.sg n)),(140,(zf8.sg n))]) (all_cons ⟨zf63.ok n,zf63.call⟩ (all_cons ⟨zf8.ok n,zf8.call⟩ (all_nil))) h,mixed,ar_ok,bld_ok,pts_ok⟩ zf61.A Tryz.func139 zf61.ps zf61.res n
abbrev zf7.ps:List Pm:=[.box 26 (.pr (.own (.int .i64) 3) (.pr (.own zt8 100) (.v zt13))),.arg (.v (.int .i64))]
abbrev zf7.res:List M:=[.v .bool]
noncomputable def zf7.C:Cfg:={ tb:=tb,tab:=fun n f=>Refl.look [(138,(zf5.sg n)),(139,(zf61.sg n))] f,gl:=[],ar:=ar,bld:=bld,pts:=pts }
noncomputable def zf7.A:Ann:={ joins:=[],loops:=[],ids:=[(1,[(18,[77,78])])],pids:=[(0,[101,102])],nroots:=109 }
noncomputable def zf7 (n:Nat) (x:zt10 × Int):Option (Bool × List Int × List zt19 × Int × Int × Int):=evalF zf7.C zf7.A Tryz.f114 zf7.ps zf7.res n x
theorem zf7.eq (n:Nat) (x0:List Int × List zt19 × Int × Int × Int) (x1:Int):zf7 n (x0,x1)=((zf5 n (x0.1,x0.2.1,x1)).bind fun y2=>(if y2.2.1<0 then some ((Bool.false,x0.1,x0.2.1,x0.2.2.1,x0.2.2.2.1,x0.2.2.2.2)) else ((zf61 n (x0.2.1,y2.2.2)).bind fun y3=>some ((Bool.true,y2.1,y3,x0.2.2.1,Go.RowKit.wrap64 (x0.2.2.2.1-y2.2.1),x0.2.2.2.2))))):=by kernel_rfl
noncomputable abbrev zf7.sg (n:Nat):Sig:=⟨zf7.ps,zf7.res,zf7 n⟩
theorem zf7.call:Callable Tryz.prog 114:=⟨Tryz.f114,Tryz.func114,by kernel_rfl,by kernel_rfl⟩
theorem zf7.ok (n:Nat):FC Tryz.prog [] 114 (zf7.sg n):=
  evalF_ok (C:=zf7.C) ⟨tb_ok,fun n _ _ h=>tabOk (l:=[(138,(zf5.sg n)),(139,(zf61.sg n))]) (all_cons ⟨zf5.ok n,zf5.call⟩ (all_cons ⟨zf61.ok n,zf61.call⟩ (all_nil))) h,mixed,ar_ok,bld_ok,pts_ok⟩ zf7.A Tryz.func114 zf7.ps zf7.res n
abbrev zf46.ps:List Pm:=[.arg (.v (.int .i64)),.arg (.v zt16)]
abbrev zf46.res:List M:=[.v .bool]
noncomputable def zf46.C:Cfg:={ tb:=tb,tab:=fun n f=>Refl.look [(141,(zf29.sg n))] f,gl:=[],ar:=ar,bld:=bld,pts:=pts }
noncomputable def zf46.A:Ann:={ joins:=[],loops:=[],ids:=[(1,[(13,[])])],pids:=[],nroots:=79 }
noncomputable def zf46 (n:Nat) (x:Int × Int × Int):Option (Bool):=evalF zf46.C zf46.A Tryz.f166 zf46.ps zf46.res n x
theorem zf46.eq (n:Nat) (x0:Int) (x1:Int × Int):zf46 n (x0,x1)=(if x0≥0 then (if x0≤1000000 then ((zf29 n (x1.1,x1.2)).bind fun y0=>some (y0)) else some (Bool.false)) else some (Bool.false)):=by kernel_rfl
noncomputable abbrev zf46.sg (n:Nat):Sig:=⟨zf46.ps,zf46.res,zf46 n⟩
theorem zf46.call:Callable Tryz.prog 166:=⟨Tryz.f166,Tryz.func166,by kernel_rfl,by kernel_rfl⟩
theorem zf46.ok (n:Nat):FC Tryz.prog [] 166 (zf46.sg n):=
  evalF_ok (C:=zf46.C) ⟨tb_ok,fun n _ _ h=>tabOk (l:=[(141,(zf29.sg n))]) (all_cons ⟨zf29.ok n,zf29.call⟩ (all_nil)) h,mixed,ar_ok,bld_ok,pts_ok⟩ zf46.A Tryz.func166 zf46.ps zf46.res n
abbrev zf21.ps:List Pm:=[.arg (.v (.int .i64)),.arg (.v zt16)]
abbrev zf21.res:List M:=[.v (.int .i64)]
noncomputable def zf21.C:Cfg:={ tb:=tb,tab:=fun n f=>Refl.look [(166,(zf46.sg n))] f,gl:=[],ar:=ar,bld:=bld,pts:=pts }
noncomputable def zf21.A:Ann:={ joins:=[],loops:=[],ids:=[(1,[(9,[])])],pids:=[],nroots:=108 }
noncomputable def zf21 (n:Nat) (x:Int × Int × Int):Option (Int):=evalF zf21.C zf21.A Tryz.f142 zf21.ps zf21.res n x
theorem zf21.eq (n:Nat) (x0:Int) (x1:Int × Int):zf21 n (x0,x1)=((zf46 n (x0,x1.1,x1.2)).bind fun y0=>(if (!y0)=true then some ((-1)) else (if x1.2=0 then none else (if x1.2=0 then none else (if Go.RowKit.wrap64 (2*Int.tmod (Go.RowKit.wrap64 (x0*x1.1)) x1.2) > x1.2 then some (Go.RowKit.wrap64 (Go.RowKit.wrap64 (Int.tdiv (Go.RowKit.wrap64 (x0*x1.1)) x1.2)+1)) else (if Go.RowKit.wrap64 (2*Int.tmod (Go.RowKit.wrap64 (x0*x1.1)) x1.2)=x1.2 then (if Int.tmod (Go.RowKit.wrap64 (Int.tdiv (Go.RowKit.wrap64 (x0*x1.1)) x1.2)) 2=1 then some (Go.RowKit.wrap64 (Go.RowKit.wrap64 (Int.tdiv (Go.RowKit.wrap64 (x0*x1.1)) x1.2)+1)) else some (Go.RowKit.wrap64 (Int.tdiv (Go.RowKit.wrap64 (x0*x1.1)) x1.2))) else some (Go.RowKit.wrap64 (Int.tdiv (Go.RowKit.wrap64 (x0*x1.1)) x1.2)))))))):=by kernel_rfl
noncomputable abbrev zf21.sg (n:Nat):Sig:=⟨zf21.ps,zf21.res,zf21 n⟩
theorem zf21.call:Callable Tryz.prog 142:=⟨Tryz.f142,Tryz.func142,by kernel_rfl,by kernel_rfl⟩
theorem zf21.ok (n:Nat):FC Tryz.prog [] 142 (zf21.sg n):=
  evalF_ok (C:=zf21.C) ⟨tb_ok,fun n _ _ h=>tabOk (l:=[(166,(zf46.sg n))]) (all_cons ⟨zf46.ok n,zf46.call⟩ (all_nil)) h,mixed,ar_ok,bld_ok,pts_ok⟩ zf21.A Tryz.func142 zf21.ps zf21.res n
abbrev zf11.ps:List Pm:=[.box 26 (.pr (.own (.int .i64) 3) (.pr (.own zt8 100) (.v zt13))),.arg (.v zt16)]
abbrev zf11.res:List M:=[.v .bool]
noncomputable def zf11.C:Cfg:={ tb:=tb,tab:=fun n f=>Refl.look [(141,(zf29.sg n)),(142,(zf21.sg n))] f,gl:=[],ar:=ar,bld:=bld,pts:=pts }
noncomputable def zf11.A:Ann:={ joins:=[],loops:=[(4,{ live:=[0,3,14,15],base:=56 })],ids:=[(1,[(8,[])]),(6,[(27,[])])],pids:=[(0,[112,113])],nroots:=120 }
noncomputable def zf11 (n:Nat) (x:zt10 × Int × Int):Option (Bool × List Int × List zt19 × Int × Int × Int):=evalF zf11.C zf11.A Tryz.f115 zf11.ps zf11.res n x
noncomputable def zf11.K0 (_:Nat):Kont (Bool × List Int × List zt19 × Int × Int × Int):=finK zf11.C (Func.results Tryz.f115).toList zf11.ps zf11.res
noncomputable def zf11.K1 (n:Nat):Kont (Bool × List Int × List zt19 × Int × Int × Int):=seqK (fun s' k=>joinE zf11.A.joins (codeAt Tryz.f115 [1,1,1]) (fun s''=>evalC zf11.C zf11.A n (codeAt Tryz.f115 [1,1,1]) s'' k) s') (zf11.K0 n)
noncomputable def zf11.K2 (n:Nat):Kont (Bool × List Int × List zt19 × Int × Int × Int):=blockK 0 (zf11.K1 n)
noncomputable def zf11.l4 (n m4:Nat) (x14 x15:Int) (r0_2 r0_3:Int) (r0_4 r56_0 r56_1:Int) (r57:List Int) (r58:List zt19):Option (Bool × List Int × List zt19 × Int × Int × Int):=loopE (cutAt zf11.A.loops (codeAt Tryz.f115 [1,1,0,1,0,0])) (fun s k=>evalC zf11.C zf11.A n (codeAt Tryz.f115 [1,1,0,1,0,0]) s k) m4 (St.of 56 120 [(0,.ptr 0 0 0),(3,.ptr 56 0 0),(14,.val (.int .i64) x14),(15,.val (.int .i64) x15)] [(0,.box 26 [.own 57,.own 58,.val (.int .i64) r0_2,.val (.int .i64) r0_3,.val (.int .i64) r0_4]),(56,.box 70 [.val (.int .i64) r56_0,.val (.int .i64) r56_1]),(57,.row (.int .i64) 3 r57),(58,.row zt8 100 r58)] [0]) (zf11.K2 n)
theorem zf11.eq (n:Nat) (x0:List Int × List zt19 × Int × Int × Int) (x1:Int × Int):zf11 n (x0,x1)=((zf29 n (x1.1,x1.2)).bind fun y0=>(if (!y0)=true then some ((Bool.false,x0.1,x0.2.1,x0.2.2.1,x0.2.2.2.1,x0.2.2.2.2)) else zf11.l4 n n ((↑(List.length x0.2.1):Int)) (0) x0.2.2.1 x0.2.2.2.1 x0.2.2.2.2 x1.1 x1.2 x0.1 x0.2.1)):=by kernel_rfl
theorem zf11.l4_succ (n m4:Nat) (x14 x15:Int) (r0_2 r0_3:Int) (r0_4 r56_0 r56_1:Int) (r57:List Int) (r58:List zt19):zf11.l4 n (m4+1) x14 x15 r0_2 r0_3 r0_4 r56_0 r56_1 r57 r58=(if x15<x14 then (if 0≤x15 then (if x15<(↑(List.length r58):Int) then ((zf21 n (Prod.fst (Prod.snd (List.getD r58 (Int.toNat x15) (0,0,[]))),r56_0,r56_1)).bind fun y1=>(if 0≤x15 then (if x15<(↑(List.length r58):Int) then (if 0≤x15 then (if x15<(↑(List.length r58):Int) then zf11.l4 n m4 (x14) (Go.RowKit.wrap64 (x15+1)) (r0_2) (Go.RowKit.wrap64 (r0_3+y1)) (r0_4) (r56_0) (r56_1) (r57) (List.set r58 (Int.toNat x15) (Prod.fst (List.getD r58 (Int.toNat x15) (0,0,[])),Go.RowKit.wrap64 (Prod.fst (Prod.snd (List.getD r58 (Int.toNat x15) (0,0,[])))+y1),Prod.snd (Prod.snd (List.getD r58 (Int.toNat x15) (0,0,[]))))) else none) else none) else none) else none)) else none) else none) else some ((Bool.true,r57,r58,r0_2,r0_3,Go.RowKit.wrap64 (r0_4+1)))):=by kernel_rfl
noncomputable abbrev zf11.sg (n:Nat):Sig:=⟨zf11.ps,zf11.res,zf11 n⟩
theorem zf11.call:Callable Tryz.prog 115:=⟨Tryz.f115,Tryz.func115,by kernel_rfl,by kernel_rfl⟩
theorem zf11.ok (n:Nat):FC Tryz.prog [] 115 (zf11.sg n):=
  evalF_ok (C:=zf11.C) ⟨tb_ok,fun n _ _ h=>tabOk (l:=[(141,(zf29.sg n)),(142,(zf21.sg n))]) (all_cons ⟨zf29.ok n,zf29.call⟩ (all_cons ⟨zf21.ok n,zf21.call⟩ (all_nil))) h,mixed,ar_ok,bld_ok,pts_ok⟩ zf11.A Tryz.func115 zf11.ps zf11.res n
abbrev zf13.ps:List Pm:=[.box 26 (.pr (.own (.int .i64) 3) (.pr (.own zt8 100) (.v zt13)))]
abbrev zf13.res:List M:=[.v .bool]
noncomputable def zf13.C:Cfg:={ tb:=tb,tab:=fun n f=>Refl.look [(122,(zf26.sg n))] f,gl:=[],ar:=ar,bld:=bld,pts:=pts }
noncomputable def zf13.A:Ann:={ joins:=[],loops:=[(4,{ live:=[0,19,20,21],base:=40 })],ids:=[],pids:=[(0,[96,97])],nroots:=104 }
noncomputable def zf13 (n:Nat) (x:List Int × List zt19 × Int × Int × Int):Option (Bool × List Int × List zt19 × Int × Int × Int):=evalF zf13.C zf13.A Tryz.f116 zf13.ps zf13.res n x
noncomputable def zf13.K0 (_:Nat):Kont (Bool × List Int × List zt19 × Int × Int × Int):=finK zf13.C (Func.results Tryz.f116).toList zf13.ps zf13.res
noncomputable def zf13.K1 (n:Nat):Kont (Bool × List Int × List zt19 × Int × Int × Int):=seqK (fun s' k=>joinE zf13.A.joins (codeAt Tryz.f116 [1,1,1]) (fun s''=>evalC zf13.C zf13.A n (codeAt Tryz.f116 [1,1,1]) s'' k) s') (zf13.K0 n)
noncomputable def zf13.K2 (n:Nat):Kont (Bool × List Int × List zt19 × Int × Int × Int):=blockK 0 (zf13.K1 n)
noncomputable def zf13.l4 (n m4:Nat) (x20 x21:Int) (r0_2 r0_3 r0_4:Int) (r40 r41:List Int) (r42:List zt19):Option (Bool × List Int × List zt19 × Int × Int × Int):=loopE (cutAt zf13.A.loops (codeAt Tryz.f116 [1,1,0,1,0,0])) (fun s k=>evalC zf13.C zf13.A n (codeAt Tryz.f116 [1,1,0,1,0,0]) s k) m4 (St.of 40 104 [(0,.ptr 0 0 0),(19,.own 40),(20,.val (.int .i64) x20),(21,.val (.int .i64) x21)] [(0,.box 26 [.own 41,.own 42,.val (.int .i64) r0_2,.val (.int .i64) r0_3,.val (.int .i64) r0_4]),(40,.row (.int .i64) 3 r40),(41,.row (.int .i64) 3 r41),(42,.row zt8 100 r42)] [0]) (zf13.K2 n)
theorem zf13.eq (n:Nat) (x0:List Int × List zt19 × Int × Int × Int):zf13 n x0=(if x0.2.2.2.1<0 then some ((Bool.false,x0.1,x0.2.1,x0.2.2.1,x0.2.2.2.1,x0.2.2.2.2)) else ((zf26 n (x0.2.2.2.1,(↑(List.length x0.1):Int))).bind fun y0=>zf13.l4 n n ((↑(List.length y0):Int)) (0) x0.2.2.1 x0.2.2.2.1 x0.2.2.2.2 (y0) x0.1 x0.2.1)):=by kernel_rfl
theorem zf13.l4_succ (n m4:Nat) (x20 x21:Int) (r0_2 r0_3 r0_4:Int) (r40 r41:List Int) (r42:List zt19):zf13.l4 n (m4+1) x20 x21 r0_2 r0_3 r0_4 r40 r41 r42=(if x21<x20 then (if 0≤x21 then (if x21<(↑(List.length r40):Int) then (if 0≤x21 then (if x21<(↑(List.length r41):Int) then (if 0≤x21 then (if x21<(↑(List.length r41):Int) then zf13.l4 n m4 (x20) (Go.RowKit.wrap64 (x21+1)) (r0_2) (r0_3) (r0_4) (r40) (List.set r41 (Int.toNat x21) (Go.RowKit.wrap64 (List.getD r41 (Int.toNat x21) 0+List.getD r40 (Int.toNat x21) 0))) (r42) else none) else none) else none) else none) else none) else none) else some ((Bool.true,r41,r42,r0_2,0,r0_4))):=by kernel_rfl
noncomputable abbrev zf13.sg (n:Nat):Sig:=⟨zf13.ps,zf13.res,zf13 n⟩
theorem zf13.call:Callable Tryz.prog 116:=⟨Tryz.f116,Tryz.func116,by kernel_rfl,by kernel_rfl⟩
theorem zf13.ok (n:Nat):FC Tryz.prog [] 116 (zf13.sg n):=
  evalF_ok (C:=zf13.C) ⟨tb_ok,fun n _ _ h=>tabOk (l:=[(122,(zf26.sg n))]) (all_cons ⟨zf26.ok n,zf26.call⟩ (all_nil)) h,mixed,ar_ok,bld_ok,pts_ok⟩ zf13.A Tryz.func116 zf13.ps zf13.res n
abbrev zf6.ps:List Pm:=[.box 26 (.pr (.own (.int .i64) 3) (.pr (.own zt8 100) (.v zt13))),.arg (.v zt1)]
abbrev zf6.res:List M:=[.v .bool]
noncomputable def zf6.C:Cfg:={ tb:=tb,tab:=fun n f=>Refl.look [(111,(zf10.sg n)),(12,(zf24.sg n)),(112,(zf9.sg n)),(113,(zf12.sg n)),(114,(zf7.sg n)),(115,(zf11.sg n)),(116,(zf13.sg n))] f,gl:=[],ar:=ar,bld:=bld,pts:=pts }
noncomputable def zf6.A:Ann:={ joins:=[],loops:=[],ids:=[(3,[(14,[])]),(6,[(22,[97,98])]),(8,[(27,[100,101]),(37,[])]),(10,[(43,[104,105])]),(12,[(48,[107,108])]),(14,[(54,[110,111])]),(16,[(60,[113,114])]),(18,[(64,[116,117])])],pids:=[(0,[121,122])],nroots:=129 }
noncomputable def zf6 (n:Nat) (x:zt10 × Int × Int × Int × Int × List Int × Int × Int):Option (Bool × List Int × List zt19 × Int × Int × Int):=evalF zf6.C zf6.A Tryz.f77 zf6.ps zf6.res n x
theorem zf6.eq (n:Nat) (x0:List Int × List zt19 × Int × Int × Int) (x1:Int × Int × Int × Int × List Int × Int × Int):zf6 n (x0,x1)=(if x1.1=0 then (if List.length x0.1+List.length (List.set (List.replicate (1:Nat) (0:Int)) (0:Nat) (0:Int))≤Go.Refl.maxN then some ((Bool.true,x0.1++List.set (List.replicate 1 0) 0 0,x0.2.1,x0.2.2.1,x0.2.2.2.1,x0.2.2.2.2)) else none) else (if x1.1=1 then ((zf10 n ((x0.1,x0.2.1,x0.2.2.1,x0.2.2.2.1,x0.2.2.2.2),(x1.1,x1.2.1,x1.2.2.1,x1.2.2.2.1,x1.2.2.2.2.1,x1.2.2.2.2.2.1,x1.2.2.2.2.2.2),1)).bind fun y2=>some ((y2.1,y2.2.1,y2.2.2.1,y2.2.2.2.1,y2.2.2.2.2.1,y2.2.2.2.2.2))) else (if x1.1=2 then ((zf10 n ((x0.1,x0.2.1,x0.2.2.1,x0.2.2.2.1,x0.2.2.2.2),(x1.1,x1.2.1,x1.2.2.1,x1.2.2.2.1,x1.2.2.2.2.1,x1.2.2.2.2.2.1,x1.2.2.2.2.2.2),(-1))).bind fun y5=>(if y5.1=Bool.true then ((zf24 n (y5.2.1,y5.2.2.1)).bind fun y6=>some ((y6,y5.2.1,y5.2.2.1,y5.2.2.2.1,y5.2.2.2.2.1,y5.2.2.2.2.2))) else some ((Bool.false,y5.2.1,y5.2.2.1,y5.2.2.2.1,y5.2.2.2.2.1,y5.2.2.2.2.2)))) else (if x1.1=3 then ((zf9 n ((x0.1,x0.2.1,x0.2.2.1,x0.2.2.2.1,x0.2.2.2.2),x1.1,x1.2.1,x1.2.2.1,x1.2.2.2.1,x1.2.2.2.2.1,x1.2.2.2.2.2.1,x1.2.2.2.2.2.2)).bind fun y9=>some ((y9.1,y9.2.1,y9.2.2.1,y9.2.2.2.1,y9.2.2.2.2.1,y9.2.2.2.2.2))) else (if x1.1=4 then ((zf12 n ((x0.1,x0.2.1,x0.2.2.1,x0.2.2.2.1,x0.2.2.2.2),x1.1,x1.2.1,x1.2.2.1,x1.2.2.2.1,x1.2.2.2.2.1,x1.2.2.2.2.2.1,x1.2.2.2.2.2.2)).bind fun y12=>some ((y12.1,y12.2.1,y12.2.2.1,y12.2.2.2.1,y12.2.2.2.2.1,y12.2.2.2.2.2))) else (if x1.1=5 then ((zf7 n ((x0.1,x0.2.1,x0.2.2.1,x0.2.2.2.1,x0.2.2.2.2),x1.2.1)).bind fun y15=>some ((y15.1,y15.2.1,y15.2.2.1,y15.2.2.2.1,y15.2.2.2.2.1,y15.2.2.2.2.2))) else (if x1.1=6 then ((zf11 n ((x0.1,x0.2.1,x0.2.2.1,x0.2.2.2.1,x0.2.2.2.2),x1.2.2.2.2.2.1,x1.2.2.2.2.2.2)).bind fun y18=>some ((y18.1,y18.2.1,y18.2.2.1,y18.2.2.2.1,y18.2.2.2.2.1,y18.2.2.2.2.2))) else (if x1.1=7 then ((zf13 n (x0.1,x0.2.1,x0.2.2.1,x0.2.2.2.1,x0.2.2.2.2)).bind fun y21=>some ((y21.1,y21.2.1,y21.2.2.1,y21.2.2.2.1,y21.2.2.2.2.1,y21.2.2.2.2.2))) else some ((Bool.false,x0.1,x0.2.1,x0.2.2.1,x0.2.2.2.1,x0.2.2.2.2)))))))))):=by kernel_rfl
noncomputable abbrev zf6.sg (n:Nat):Sig:=⟨zf6.ps,zf6.res,zf6 n⟩
theorem zf6.call:Callable Tryz.prog 77:=⟨Tryz.f77,Tryz.func77,by kernel_rfl,by kernel_rfl⟩
theorem zf6.ok (n:Nat):FC Tryz.prog [] 77 (zf6.sg n):=
  evalF_ok (C:=zf6.C) ⟨tb_ok,fun n _ _ h=>tabOk (l:=[(111,(zf10.sg n)),(12,(zf24.sg n)),(112,(zf9.sg n)),(113,(zf12.sg n)),(114,(zf7.sg n)),(115,(zf11.sg n)),(116,(zf13.sg n))]) (all_cons ⟨zf10.ok n,zf10.call⟩ (all_cons ⟨zf24.ok n,zf24.call⟩ (all_cons ⟨zf9.ok n,zf9.call⟩ (all_cons ⟨zf12.ok n,zf12.call⟩ (all_cons ⟨zf7.ok n,zf7.call⟩ (all_cons ⟨zf11.ok n,zf11.call⟩ (all_cons ⟨zf13.ok n,zf13.call⟩ (all_nil)))))))) h,mixed,ar_ok,bld_ok,pts_ok⟩ zf6.A Tryz.func77 zf6.ps zf6.res n
abbrev zf2.ps:List Pm:=[.arg (.v zt0),.arg (.v zt1)]
abbrev zf2.res:List M:=[.v zt0,.v .bool]
noncomputable def zf2.C:Cfg:={ tb:=tb,tab:=fun n f=>Refl.look [(9,(zf27.sg n)),(36,(zf33.sg n)),(77,(zf6.sg n))] f,gl:=[],ar:=ar,bld:=bld,pts:=pts }
noncomputable def zf2.A:Ann:={ joins:=[],loops:=[],ids:=[(1,[(8,[])]),(3,[(12,[56,57])]),(4,[(14,[59,60]),(18,[])])],pids:=[],nroots:=87 }
noncomputable def zf2 (n:Nat) (x:zt10 × Int × Int × Int × Int × List Int × Int × Int):Option (zt10 × Bool):=evalF zf2.C zf2.A Tryz.f37 zf2.ps zf2.res n x
theorem zf2.eq (n:Nat) (x0:List Int × List zt19 × Int × Int × Int) (x1:Int × Int × Int × Int × List Int × Int × Int):zf2 n (x0,x1)=((zf27 n (x0.1,x0.2.1,x0.2.2.1,x0.2.2.2.1,x0.2.2.2.2)).bind fun y0=>(if (!y0)=true then some ((([],[],0,0,0),Bool.false)) else ((zf33 n (x0.1,x0.2.1,x0.2.2.1,x0.2.2.2.1,x0.2.2.2.2)).bind fun y3=>((zf6 n ((y3.1,y3.2.1,y3.2.2.1,y3.2.2.2.1,y3.2.2.2.2),x1.1,x1.2.1,x1.2.2.1,x1.2.2.2.1,x1.2.2.2.2.1,x1.2.2.2.2.2.1,x1.2.2.2.2.2.2)).bind fun y6=>(if (!y6.1)=Bool.true then some ((([],[],0,0,0),Bool.false)) else ((zf27 n (y6.2.1,y6.2.2.1,y6.2.2.2.1,y6.2.2.2.2.1,y6.2.2.2.2.2)).bind fun y7=>(if (!y7)=true then some ((([],[],0,0,0),Bool.false)) else some (((y6.2.1,y6.2.2.1,y6.2.2.2.1,y6.2.2.2.2.1,y6.2.2.2.2.2),Bool.true))))))))):=by kernel_rfl
noncomputable abbrev zf2.sg (n:Nat):Sig:=⟨zf2.ps,zf2.res,zf2 n⟩
theorem zf2.call:Callable Tryz.prog 37:=⟨Tryz.f37,Tryz.func37,by kernel_rfl,by kernel_rfl⟩
theorem zf2.ok (n:Nat):FC Tryz.prog [] 37 (zf2.sg n):=
  evalF_ok (C:=zf2.C) ⟨tb_ok,fun n _ _ h=>tabOk (l:=[(9,(zf27.sg n)),(36,(zf33.sg n)),(77,(zf6.sg n))]) (all_cons ⟨zf27.ok n,zf27.call⟩ (all_cons ⟨zf33.ok n,zf33.call⟩ (all_cons ⟨zf6.ok n,zf6.call⟩ (all_nil)))) h,mixed,ar_ok,bld_ok,pts_ok⟩ zf2.A Tryz.func37 zf2.ps zf2.res n
abbrev zf22.ps:List Pm:=[.arg (.v zt0),.arg (.v (.slice zt1))]
abbrev zf22.res:List M:=[.v zt0,.v .bool]
noncomputable def zf22.C:Cfg:={ tb:=tb,tab:=fun n f=>Refl.look [(9,(zf27.sg n)),(36,{ params:=zf33.ps,res:=[.v zt0],run:=zf33 n }),(37,(zf2.sg n))] f,gl:=[],ar:=ar,bld:=bld,pts:=pts }
noncomputable def zf22.A:Ann:={ joins:=[],loops:=[(5,{ live:=[4,6,22,23,24],base:=40 })],ids:=[(1,[(12,[])]),(3,[(21,[])]),(7,[(31,[])])],pids:=[],nroots:=104 }
noncomputable def zf22 (n:Nat) (x:zt10 × List zt14):Option (zt10 × Bool):=evalF zf22.C zf22.A Tryz.f10 zf22.ps zf22.res n x
noncomputable def zf22.K0 (_:Nat):Kont (zt10 × Bool):=finK zf22.C (Func.results Tryz.f10).toList zf22.ps zf22.res
noncomputable def zf22.K1 (n:Nat):Kont (zt10 × Bool):=seqK (fun s' k=>joinE zf22.A.joins (codeAt Tryz.f10 [1,1,1,1]) (fun s''=>evalC zf22.C zf22.A n (codeAt Tryz.f10 [1,1,1,1]) s'' k) s') (zf22.K0 n)
noncomputable def zf22.K2 (n:Nat):Kont (zt10 × Bool):=blockK 0 (zf22.K1 n)
noncomputable def zf22.l5 (n m5:Nat) (x22:List zt14) (x23 x24:Int) (r40_2 r40_3 r40_4:Int) (r41_0:List Int) (r41_1:List zt19) (r41_2 r41_3 r41_4:Int):Option (zt10 × Bool):=loopE (cutAt zf22.A.loops (codeAt Tryz.f10 [1,1,1,0,1,0,0])) (fun s k=>evalC zf22.C zf22.A n (codeAt Tryz.f10 [1,1,1,0,1,0,0]) s k) m5 (St.of 40 104 [(4,.ptr 40 0 0),(6,.ptr 41 0 0),(22,.val (.slice zt1) x22),(23,.val (.int .i64) x23),(24,.val (.int .i64) x24)] [(40,.box 26 [.nils,.nils,.val (.int .i64) r40_2,.val (.int .i64) r40_3,.val (.int .i64) r40_4]),(41,.box 26 [.val (.slice (.int .i64)) r41_0,.val (.slice zt8) r41_1,.val (.int .i64) r41_2,.val (.int .i64) r41_3,.val (.int .i64) r41_4])] []) (zf22.K2 n)
theorem zf22.eq (n:Nat) (x0:List Int × List zt19 × Int × Int × Int) (x1:List zt14):zf22 n (x0,x1)=((zf27 n (x0.1,x0.2.1,x0.2.2.1,x0.2.2.2.1,x0.2.2.2.2)).bind fun y0=>(if (!y0)=Bool.true then some ((([],[],0,0,0),Bool.false)) else (if (↑(List.length x1):Int) > 30 then some ((([],[],0,0,0),Bool.false)) else ((zf33 n (x0.1,x0.2.1,x0.2.2.1,x0.2.2.2.1,x0.2.2.2.2)).bind fun y1=>zf22.l5 n n (x1) ((↑(List.length x1):Int)) (0) (0) (0) (0) y1.1 y1.2.1 y1.2.2.1 y1.2.2.2.1 y1.2.2.2.2)))):=by kernel_rfl
theorem zf22.l5_succ (n m5:Nat) (x22:List zt14) (x23 x24:Int) (r40_2 r40_3 r40_4:Int) (r41_0:List Int) (r41_1:List zt19) (r41_2 r41_3 r41_4:Int):zf22.l5 n (m5+1) x22 x23 x24 r40_2 r40_3 r40_4 r41_0 r41_1 r41_2 r41_3 r41_4=(if x24<x23 then (if 0≤x24 then (if x24<(↑(List.length x22):Int) then ((zf2 n ((r41_0,r41_1,r41_2,r41_3,r41_4),Prod.fst (List.getD x22 (Int.toNat x24) (0,0,0,0,[],0,0)),Prod.fst (Prod.snd (List.getD x22 (Int.toNat x24) (0,0,0,0,[],0,0))),Prod.fst (Prod.snd (Prod.snd (List.getD x22 (Int.toNat x24) (0,0,0,0,[],0,0)))),Prod.fst (Prod.snd (Prod.snd (Prod.snd (List.getD x22 (Int.toNat x24) (0,0,0,0,[],0,0))))),Prod.fst (Prod.snd (Prod.snd (Prod.snd (Prod.snd (List.getD x22 (Int.toNat x24) (0,0,0,0,[],0,0)))))),Prod.fst (Prod.snd (Prod.snd (Prod.snd (Prod.snd (Prod.snd (List.getD x22 (Int.toNat x24) (0,0,0,0,[],0,0))))))),Prod.snd (Prod.snd (Prod.snd (Prod.snd (Prod.snd (Prod.snd (List.getD x22 (Int.toNat x24) (0,0,0,0,[],0,0))))))))).bind fun y2=>(if (!y2.2)=true then some ((([],[],0,0,0),Bool.false)) else zf22.l5 n m5 (x22) (x23) (Go.RowKit.wrap64 (x24+1)) (r40_2) (r40_3) (r40_4) y2.1.1 y2.1.2.1 y2.1.2.2.1 y2.1.2.2.2.1 y2.1.2.2.2.2)) else none) else none) else some (((r41_0,r41_1,r41_2,r41_3,r41_4),Bool.true))):=by kernel_rfl
noncomputable abbrev zf22.sg (n:Nat):Sig:=⟨zf22.ps,zf22.res,zf22 n⟩
theorem zf22.call:Callable Tryz.prog 10:=⟨Tryz.f10,Tryz.func10,by kernel_rfl,by kernel_rfl⟩
theorem zf22.ok (n:Nat):FC Tryz.prog [] 10 (zf22.sg n):=
  evalF_ok (C:=zf22.C) ⟨tb_ok,fun n _ _ h=>tabOk (l:=[(9,(zf27.sg n)),(36,{ params:=zf33.ps,res:=[.v zt0],run:=zf33 n }),(37,(zf2.sg n))]) (all_cons ⟨zf27.ok n,zf27.call⟩ (all_cons ⟨FC.weak (.cons (.trans (.pr (.own _ _) (.trans (.pr (.own _ _) (.refl _)) (.vv _ _))) (.vv _ _)) .nil) HEq.rfl (zf33.ok n),zf33.call⟩ (all_cons ⟨zf2.ok n,zf2.call⟩ (all_nil)))) h,mixed,ar_ok,bld_ok,pts_ok⟩ zf22.A Tryz.func10 zf22.ps zf22.res n
abbrev zf51.ps:List Pm:=[.arg (.v .str),.arg (.v .str)]
abbrev zf51.res:List M:=[.v .bool]
noncomputable def zf51.C:Cfg:={ tb:=tb,tab:=fun n f=>Refl.look [] f,gl:=[],ar:=ar,bld:=bld,pts:=pts }
noncomputable def zf51.A:Ann:={ joins:=[],loops:=[],ids:=[],pids:=[],nroots:=82 }
noncomputable def zf51 (n:Nat) (x:ByteArray × ByteArray):Option (Bool):=evalF zf51.C zf51.A Tryz.f127 zf51.ps zf51.res n x
theorem zf51.eq (n:Nat) (x0 x1:ByteArray):zf51 n (x0,x1)=(if (↑(ByteArray.size x0):Int)≥(↑(ByteArray.size x1):Int) then (if 0≤(↑(ByteArray.size x1):Int) then (if (↑(ByteArray.size x1):Int)≤(↑(ByteArray.size x0):Int) then some (Decidable.decide (ByteArray.extract x0 0 (Int.toNat (↑(ByteArray.size x1):Int))=x1)) else none) else none) else some (Bool.false)):=by kernel_rfl
noncomputable abbrev zf51.sg (n:Nat):Sig:=⟨zf51.ps,zf51.res,zf51 n⟩
theorem zf51.call:Callable Tryz.prog 127:=⟨Tryz.f127,Tryz.func127,by kernel_rfl,by kernel_rfl⟩
theorem zf51.ok (n:Nat):FC Tryz.prog [] 127 (zf51.sg n):=
  evalF_ok (C:=zf51.C) ⟨tb_ok,fun n _ _ h=>tabOk (l:=[]) (all_nil) h,mixed,ar_ok,bld_ok,pts_ok⟩ zf51.A Tryz.func127 zf51.ps zf51.res n
abbrev zf50.ps:List Pm:=[.arg (.v .str),.arg (.v .str)]
abbrev zf50.res:List M:=[.v .str,.v .bool]
noncomputable def zf50.C:Cfg:={ tb:=tb,tab:=fun n f=>Refl.look [(127,(zf51.sg n))] f,gl:=[],ar:=ar,bld:=bld,pts:=pts }
noncomputable def zf50.A:Ann:={ joins:=[],loops:=[],ids:=[(1,[(8,[])])],pids:=[],nroots:=79 }
noncomputable def zf50 (n:Nat) (x:ByteArray × ByteArray):Option (ByteArray × Bool):=evalF zf50.C zf50.A Tryz.f91 zf50.ps zf50.res n x
theorem zf50.eq (n:Nat) (x0 x1:ByteArray):zf50 n (x0,x1)=((zf51 n (x0,x1)).bind fun y0=>(if (!y0)=true then some ((x0,Bool.false)) else (if 0≤(↑(ByteArray.size x1):Int) then (if (↑(ByteArray.size x1):Int)≤(↑(ByteArray.size x0):Int) then some ((ByteArray.extract x0 (Int.toNat (↑(ByteArray.size x1):Int)) (ByteArray.size x0),Bool.true)) else none) else none))):=by kernel_rfl
noncomputable abbrev zf50.sg (n:Nat):Sig:=⟨zf50.ps,zf50.res,zf50 n⟩
theorem zf50.call:Callable Tryz.prog 91:=⟨Tryz.f91,Tryz.func91,by kernel_rfl,by kernel_rfl⟩
theorem zf50.ok (n:Nat):FC Tryz.prog [] 91 (zf50.sg n):=
  evalF_ok (C:=zf50.C) ⟨tb_ok,fun n _ _ h=>tabOk (l:=[(127,(zf51.sg n))]) (all_cons ⟨zf51.ok n,zf51.call⟩ (all_nil)) h,mixed,ar_ok,bld_ok,pts_ok⟩ zf50.A Tryz.func91 zf50.ps zf50.res n
abbrev zf133.ps:List Pm:=[.arg (.v .str),.arg (.v .str)]
abbrev zf133.res:List M:=[.v .str,.v .bool]
noncomputable def zf133.C:Cfg:={ tb:=tb,tab:=fun n f=>Refl.look [(91,(zf50.sg n))] f,gl:=[],ar:=ar,bld:=bld,pts:=pts }
noncomputable def zf133.A:Ann:={ joins:=[],loops:=[],ids:=[(1,[(8,[])])],pids:=[],nroots:=75 }
noncomputable def zf133 (n:Nat) (x:ByteArray × ByteArray):Option (ByteArray × Bool):=evalF zf133.C zf133.A Tryz.f54 zf133.ps zf133.res n x
theorem zf133.eq (n:Nat) (x0 x1:ByteArray):zf133 n (x0,x1)=((zf50 n (x0,x1)).bind fun y0=>some ((y0.1,y0.2))):=by kernel_rfl
noncomputable abbrev zf133.sg (n:Nat):Sig:=⟨zf133.ps,zf133.res,zf133 n⟩
theorem zf133.call:Callable Tryz.prog 54:=⟨Tryz.f54,Tryz.func54,by kernel_rfl,by kernel_rfl⟩
theorem zf133.ok (n:Nat):FC Tryz.prog [] 54 (zf133.sg n):=
  evalF_ok (C:=zf133.C) ⟨tb_ok,fun n _ _ h=>tabOk (l:=[(91,(zf50.sg n))]) (all_cons ⟨zf50.ok n,zf50.call⟩ (all_nil)) h,mixed,ar_ok,bld_ok,pts_ok⟩ zf133.A Tryz.func54 zf133.ps zf133.res n
abbrev zf37.ps:List Pm:=[.arg (.v .str)]
abbrev zf37.res:List M:=[.v .bool]
noncomputable def zf37.C:Cfg:={ tb:=tb,tab:=fun n f=>Refl.look [] f,gl:=[],ar:=ar,bld:=bld,pts:=pts }
noncomputable def zf37.A:Ann:={ joins:=[],loops:=[(4,{ live:=[0,8,9],base:=34 })],ids:=[],pids:=[],nroots:=98 }
noncomputable def zf37 (n:Nat) (x:ByteArray):Option (Bool):=evalF zf37.C zf37.A Tryz.f92 zf37.ps zf37.res n x
noncomputable def zf37.K0 (_:Nat):Kont (Bool):=finK zf37.C (Func.results Tryz.f92).toList zf37.ps zf37.res
noncomputable def zf37.K1 (n:Nat):Kont (Bool):=seqK (fun s' k=>joinE zf37.A.joins (codeAt Tryz.f92 [1,1,1]) (fun s''=>evalC zf37.C zf37.A n (codeAt Tryz.f92 [1,1,1]) s'' k) s') (zf37.K0 n)
noncomputable def zf37.K2 (n:Nat):Kont (Bool):=blockK 0 (zf37.K1 n)
noncomputable def zf37.l4 (n m4:Nat) (x0:ByteArray) (x8 x9:Int):Option (Bool):=loopE (cutAt zf37.A.loops (codeAt Tryz.f92 [1,1,0,1,0,0])) (fun s k=>evalC zf37.C zf37.A n (codeAt Tryz.f92 [1,1,0,1,0,0]) s k) m4 (St.of 34 98 [(0,.val .str x0),(8,.val (.int .i64) x8),(9,.val (.int .i64) x9)] [] []) (zf37.K2 n)
theorem zf37.eq (n:Nat) (x0:ByteArray):zf37 n x0=(if (↑(ByteArray.size x0):Int) > 7 then some (Bool.false) else zf37.l4 n n (x0) ((↑(ByteArray.size x0):Int)) (0)):=by kernel_rfl
theorem zf37.l4_succ (n m4:Nat) (x0:ByteArray) (x8 x9:Int):zf37.l4 n (m4+1) x0 x8 x9=(if x9<x8 then (if 0≤x9 then (if x9<(↑(ByteArray.size x0):Int) then (if (↑(UInt8.toNat (List.getD (Array.toList (ByteArray.data x0)) (Int.toNat x9) (0:UInt8))):Int)<48 then some (Bool.false) else (if 0≤x9 then (if x9<(↑(ByteArray.size x0):Int) then (if (↑(UInt8.toNat (List.getD (Array.toList (ByteArray.data x0)) (Int.toNat x9) (0:UInt8))):Int) > 57 then some (Bool.false) else zf37.l4 n m4 (x0) (x8) (Go.RowKit.wrap64 (x9+1))) else none) else none)) else none) else none) else (if x0={ data:=#[(48:UInt8)] } then some (Bool.true) else (if x0={ data:=#[] } then some (Bool.false) else (if 0<(↑(ByteArray.size x0):Int) then some (!Decidable.decide ((↑(UInt8.toNat (List.getD (Array.toList (ByteArray.data x0)) (Int.toNat 0) (0:UInt8))):Int)=48)) else none)))):=by kernel_rfl
noncomputable abbrev zf37.sg (n:Nat):Sig:=⟨zf37.ps,zf37.res,zf37 n⟩
theorem zf37.call:Callable Tryz.prog 92:=⟨Tryz.f92,Tryz.func92,by kernel_rfl,by kernel_rfl⟩
theorem zf37.ok (n:Nat):FC Tryz.prog [] 92 (zf37.sg n):=
  evalF_ok (C:=zf37.C) ⟨tb_ok,fun n _ _ h=>tabOk (l:=[]) (all_nil) h,mixed,ar_ok,bld_ok,pts_ok⟩ zf37.A Tryz.func92 zf37.ps zf37.res n
abbrev zf32.ps:List Pm:=[.arg (.v zt0),.arg (.v .str)]
abbrev zf32.res:List M:=[.v .str]
noncomputable def zf32.C:Cfg:={ tb:=tb,tab:=fun n f=>Refl.look [(92,(zf37.sg n)),(93,(zf40.sg n)),(13,(zf25.sg n))] f,gl:=[g2,g3,g4],ar:=ar,bld:=bld,pts:=pts }
noncomputable def zf32.A:Ann:={ joins:=[],loops:=[],ids:=[(1,[(7,[])]),(3,[(14,[])]),(6,[(22,[])])],pids:=[],nroots:=87 }
noncomputable def zf32 (n:Nat) (x:zt10 × ByteArray):Option (ByteArray):=evalF zf32.C zf32.A Tryz.f55 zf32.ps zf32.res n x
theorem zf32.eq (n:Nat) (x0:List Int × List zt19 × Int × Int × Int) (x1:ByteArray):zf32 n (x0,x1)=((zf37 n x1).bind fun y0=>(if (!y0)=true then some ({ data:=#[(119:UInt8),(104:UInt8),(97:UInt8),(116:UInt8)] }) else ((zf40 n (x1,Go.RowKit.wrap64 ((↑(List.length x0.1):Int)-1))).bind fun y1=>(if y1<0 then some ({ data:=#[(110:UInt8),(111:UInt8),(110:UInt8),(101:UInt8)] }) else (if 0≤y1 then (if y1<(↑(List.length x0.1):Int) then ((zf25 n (List.getD x0.1 (Int.toNat y1) 0)).bind fun y2=>some (y2)) else none) else none))))):=by kernel_rfl
noncomputable abbrev zf32.sg (n:Nat):Sig:=⟨zf32.ps,zf32.res,zf32 n⟩
theorem zf32.call:Callable Tryz.prog 55:=⟨Tryz.f55,Tryz.func55,by kernel_rfl,by kernel_rfl⟩
theorem zf32.ok (n:Nat):FC Tryz.prog [g2,g3,g4] 55 (zf32.sg n):=
  evalF_ok (C:=zf32.C) ⟨tb_ok,fun n _ _ h=>tabOk (l:=[(92,(zf37.sg n)),(93,(zf40.sg n)),(13,(zf25.sg n))]) (all_cons ⟨(.mono (gl:=[]) (gl':=[g2,g3,g4]) (all_nil) (zf37.ok n)),zf37.call⟩ (all_cons ⟨zf40.ok n,zf40.call⟩ (all_cons ⟨(.mono (gl:=[g2]) (gl':=[g2,g3,g4]) (all_cons (.head _) (all_nil)) (zf25.ok n)),zf25.call⟩ (all_nil)))) h,mixed,ar_ok,bld_ok,pts_ok⟩ zf32.A Tryz.func55 zf32.ps zf32.res n
abbrev zf1.ps:List Pm:=[.arg (.v (.int .i64))]
abbrev zf1.res:List M:=[.v .bool]
noncomputable def zf1.C:Cfg:={ tb:=tb,tab:=fun n f=>Refl.look [] f,gl:=[],ar:=ar,bld:=bld,pts:=pts }
noncomputable def zf1.A:Ann:={ joins:=[],loops:=[],ids:=[],pids:=[],nroots:=70 }
noncomputable def zf1 (n:Nat) (x:Int):Option (Bool):=evalF zf1.C zf1.A Tryz.f130 zf1.ps zf1.res n x
theorem zf1.eq (n:Nat) (x0:Int):zf1 n x0=some (!Decidable.decide (x0=x0)):=by kernel_rfl
noncomputable abbrev zf1.sg (n:Nat):Sig:=⟨zf1.ps,zf1.res,zf1 n⟩
theorem zf1.call:Callable Tryz.prog 130:=⟨Tryz.f130,Tryz.func130,by kernel_rfl,by kernel_rfl⟩
theorem zf1.ok (n:Nat):FC Tryz.prog [] 130 (zf1.sg n):=
  evalF_ok (C:=zf1.C) ⟨tb_ok,fun n _ _ h=>tabOk (l:=[]) (all_nil) h,mixed,ar_ok,bld_ok,pts_ok⟩ zf1.A Tryz.func130 zf1.ps zf1.res n
abbrev zf0.ps:List Pm:=[.arg (.v (.int .i64)),.arg (.v (.int .i64))]
abbrev zf0.res:List M:=[.v (.int .i64)]
noncomputable def zf0.C:Cfg:={ tb:=tb,tab:=fun n f=>Refl.look [(130,(zf1.sg n))] f,gl:=[],ar:=ar,bld:=bld,pts:=pts }
noncomputable def zf0.A:Ann:={ joins:=[],loops:=[],ids:=[(1,[(8,[])]),(2,[(10,[])])],pids:=[],nroots:=84 }
noncomputable def zf0 (n:Nat) (x:Int × Int):Option (Int):=evalF zf0.C zf0.A Tryz.f96 zf0.ps zf0.res n x
theorem zf0.eq (n:Nat) (x0 x1:Int):zf0 n (x0,x1)=((zf1 n x0).bind fun y0=>((zf1 n x1).bind fun y1=>(if (y0)=true then (if (y1)=true then some (0) else some ((-1))) else (if (y1)=true then some (1) else (if x0<x1 then some ((-1)) else (if x0 > x1 then some (1) else some (0))))))):=by kernel_rfl
noncomputable abbrev zf0.sg (n:Nat):Sig:=⟨zf0.ps,zf0.res,zf0 n⟩
theorem zf0.call:Callable Tryz.prog 96:=⟨Tryz.f96,Tryz.func96,by kernel_rfl,by kernel_rfl⟩
theorem zf0.ok (n:Nat):FC Tryz.prog [] 96 (zf0.sg n):=
  evalF_ok (C:=zf0.C) ⟨tb_ok,fun n _ _ h=>tabOk (l:=[(130,(zf1.sg n))]) (all_cons ⟨zf1.ok n,zf1.call⟩ (all_nil)) h,mixed,ar_ok,bld_ok,pts_ok⟩ zf0.A Tryz.func96 zf0.ps zf0.res n
abbrev zf4.ps:List Pm:=[.arg (.v (.int .i64)),.arg (.v (.int .i64)),.vp (.slice (.int .i64))]
abbrev zf4.res:List M:=[.v (.int .i64)]
noncomputable def zf4.C:Cfg:={ tb:=tb,tab:=fun n f=>Refl.look [(96,(zf0.sg n))] f,gl:=[],ar:=ar,bld:=bld,pts:=pts }
noncomputable def zf4.A:Ann:={ joins:=[],loops:=[],ids:=[(1,[(14,[])])],pids:=[],nroots:=79 }
noncomputable def zf4 (n:Nat) (x:Int × Int × List Int):Option (Int):=evalF zf4.C zf4.A Tryz.f95 zf4.ps zf4.res n x
theorem zf4.eq (n:Nat) (x0 x1:Int) (x2:List Int):zf4 n (x0,x1,x2)=(if 0≤x0 then (if x0<(↑(List.length x2):Int) then (if 0≤x1 then (if x1<(↑(List.length x2):Int) then ((zf0 n (List.getD x2 (Int.toNat x0) 0,List.getD x2 (Int.toNat x1) 0)).bind fun y0=>some (y0)) else none) else none) else none) else none):=by kernel_rfl
noncomputable abbrev zf4.sg (n:Nat):Sig:=⟨zf4.ps,zf4.res,zf4 n⟩
theorem zf4.call:Callable Tryz.prog 95:=⟨Tryz.f95,Tryz.func95,by kernel_rfl,by kernel_rfl⟩
theorem zf4.ok (n:Nat):FC Tryz.prog [] 95 (zf4.sg n):=
  evalF_ok (C:=zf4.C) ⟨tb_ok,fun n _ _ h=>tabOk (l:=[(96,(zf0.sg n))]) (all_cons ⟨zf0.ok n,zf0.call⟩ (all_nil)) h,mixed,ar_ok,bld_ok,pts_ok⟩ zf4.A Tryz.func95 zf4.ps zf4.res n
abbrev zf67.ps:List Pm:=[.inout (.int .i64) 3,.arg (.v (.int .i64)),.arg (.v (.int .i64)),.fnc 95 [(.slice (.int .i64))]]
abbrev zf67.res:List M:=[]
noncomputable def zf67.C:Cfg:={ tb:=tb,tab:=fun n f=>Refl.look [(95,(zf4.sg n))] f,gl:=[],ar:=ar,bld:=bld,pts:=pts }
noncomputable def zf67.A:Ann:={ joins:=[],loops:=[(1,{ live:=[0,1,2,3,8],base:=53 }),(4,{ live:=[0,1,2,3,8,9],base:=53 })],ids:=[(4,[(32,[])])],pids:=[],nroots:=117 }
noncomputable def zf67 (n:Nat) (x:List Int × Int × Int × List Int):Option (List Int):=evalF zf67.C zf67.A Tryz.f159 zf67.ps zf67.res n x
noncomputable def zf67.K0 (_:Nat):Kont (List Int):=finK zf67.C (Func.results Tryz.f159).toList zf67.ps zf67.res
noncomputable def zf67.K1 (n:Nat):Kont (List Int):=blockK 0 (zf67.K0 n)
noncomputable def zf67.K2 (n m1:Nat):Kont (List Int):=loopK (cutAt zf67.A.loops (codeAt Tryz.f159 [1,0,0])) (fun s k=>evalC zf67.C zf67.A n (codeAt Tryz.f159 [1,0,0]) s k) m1 (zf67.K1 n)
noncomputable def zf67.K3 (n m1:Nat):Kont (List Int):=seqK (fun s' k=>joinE zf67.A.joins (codeAt Tryz.f159 [1,0,0,1,1]) (fun s''=>evalC zf67.C zf67.A n (codeAt Tryz.f159 [1,0,0,1,1]) s'' k) s') (zf67.K2 n m1)
noncomputable def zf67.K4 (n m1:Nat):Kont (List Int):=blockK 1 (zf67.K3 n m1)
noncomputable def zf67.K5 (n m1:Nat):Kont (List Int):=blockK 2 (zf67.K4 n m1)
noncomputable def zf67.l1 (n m1:Nat) (x1 x2:Int) (x3_0:List (List Int)) (x8:Int) (r0:List Int):Option (List Int):=loopE (cutAt zf67.A.loops (codeAt Tryz.f159 [1,0,0])) (fun s k=>evalC zf67.C zf67.A n (codeAt Tryz.f159 [1,0,0]) s k) m1 (St.of 53 117 [(0,.own 0),(1,.val (.int .i64) x1),(2,.val (.int .i64) x2),(3,.fn 95 [.vptr (.slice (.int .i64)) x3_0 0 0]),(8,.val (.int .i64) x8)] [(0,.row (.int .i64) 3 r0)] [0]) (zf67.K1 n)
noncomputable def zf67.l4 (n m1 m4:Nat) (x1 x2:Int) (x3_0:List (List Int)) (x8 x9:Int) (r0:List Int):Option (List Int):=loopE (cutAt zf67.A.loops (codeAt Tryz.f159 [1,0,0,1,0,0,1,0,0])) (fun s k=>evalC zf67.C zf67.A n (codeAt Tryz.f159 [1,0,0,1,0,0,1,0,0]) s k) m4 (St.of 53 117 [(0,.own 0),(1,.val (.int .i64) x1),(2,.val (.int .i64) x2),(3,.fn 95 [.vptr (.slice (.int .i64)) x3_0 0 0]),(8,.val (.int .i64) x8),(9,.val (.int .i64) x9)] [(0,.row (.int .i64) 3 r0)] [0]) (zf67.K5 n m1)
theorem zf67.eq (n:Nat) (x0:List Int) (x1 x2:Int) (x3:List Int):zf67 n (x0,x1,x2,x3)=zf67.l1 n n (x1) (x2) ([x3]) (Go.RowKit.wrap64 (x1+1)) (x0):=by kernel_rfl
theorem zf67.l1_succ (n m1:Nat) (x1 x2:Int) (x3_0:List (List Int)) (x8:Int) (r0:List Int):zf67.l1 n (m1+1) x1 x2 x3_0 x8 r0=(if x8<x2 then zf67.l4 n m1 n (x1) (x2) (x3_0) (x8) (x8) (r0) else some (r0)):=by kernel_rfl
theorem zf67.l4_succ (n m1 m4:Nat) (x1 x2:Int) (x3_0:List (List Int)) (x8 x9:Int) (r0:List Int):zf67.l4 n m1 (m4+1) x1 x2 x3_0 x8 x9 r0=(if x9 > x1 then (if 0≤x9 then (if x9<(↑(List.length r0):Int) then (if 0≤Go.RowKit.wrap64 (x9-1) then (if Go.RowKit.wrap64 (x9-1)<(↑(List.length r0):Int) then ((zf4 n (List.getD r0 (Int.toNat x9) 0,List.getD r0 (Int.toNat (Go.RowKit.wrap64 (x9-1))) 0,List.getD x3_0 0 [])).bind fun y0=>(if y0<0 then (if 0≤Go.RowKit.wrap64 (x9-1) then (if Go.RowKit.wrap64 (x9-1)<(↑(List.length r0):Int) then (if 0≤x9 then (if x9<(↑(List.length r0):Int) then (if 0≤x9 then (if x9<(↑(List.length r0):Int) then (if 0≤Go.RowKit.wrap64 (x9-1) then (if Go.RowKit.wrap64 (x9-1)<(↑(List.length (List.set r0 (Int.toNat x9) (List.getD r0 (Int.toNat (Go.RowKit.wrap64 (x9-(1:Int)))) (0:Int)))):Int) then zf67.l4 n m1 m4 (x1) (x2) (x3_0) (x8) (Go.RowKit.wrap64 (x9-1)) (List.set (List.set r0 (Int.toNat x9) (List.getD r0 (Int.toNat (Go.RowKit.wrap64 (x9-1))) 0)) (Int.toNat (Go.RowKit.wrap64 (x9-1))) (List.getD r0 (Int.toNat x9) 0)) else none) else none) else none) else none) else none) else none) else none) else none) else zf67.l1 n m1 (x1) (x2) (x3_0) (Go.RowKit.wrap64 (x8+1)) (r0))) else none) else none) else none) else none) else zf67.l1 n m1 (x1) (x2) (x3_0) (Go.RowKit.wrap64 (x8+1)) (r0)):=by kernel_rfl
noncomputable abbrev zf67.sg (n:Nat):Sig:=⟨zf67.ps,zf67.res,zf67 n⟩
theorem zf67.call:Callable Tryz.prog 159:=⟨Tryz.f159,Tryz.func159,by kernel_rfl,by kernel_rfl⟩
theorem zf67.ok (n:Nat):FC Tryz.prog [] 159 (zf67.sg n):=
  evalF_ok (C:=zf67.C) ⟨tb_ok,fun n _ _ h=>tabOk (l:=[(95,(zf4.sg n))]) (all_cons ⟨zf4.ok n,zf4.call⟩ (all_nil)) h,mixed,ar_ok,bld_ok,pts_ok⟩ zf67.A Tryz.func159 zf67.ps zf67.res n
abbrev zf69.ps:List Pm:=[.inout (.int .i64) 3,.arg (.v (.int .i64)),.arg (.v (.int .i64)),.arg (.v (.int .i64)),.fnc 95 [(.slice (.int .i64))]]
abbrev zf69.res:List M:=[]
noncomputable def zf69 (n:Nat):pdens zf69.ps→Option (dens (zf69.res++outs zf69.ps)):=fun _=>none
noncomputable abbrev zf69.sg (n:Nat):Sig:=⟨zf69.ps,zf69.res,zf69 n⟩
theorem zf69.call:Callable Tryz.prog 160:=⟨Tryz.f160,Tryz.func160,by kernel_rfl,by kernel_rfl⟩
theorem zf69.ok (n:Nat):FC Tryz.prog [] 160 (zf69.sg n):=never_FC
abbrev zf68.ps:List Pm:=[.inout (.int .i64) 3,.arg (.v (.int .i64)),.fnc 95 [(.slice (.int .i64))]]
abbrev zf68.res:List M:=[]
noncomputable def zf68.C:Cfg:={ tb:=tb,tab:=fun n f=>Refl.look [(159,(zf67.sg n)),(160,(zf69.sg n)),(95,(zf4.sg n))] f,gl:=[],ar:=ar,bld:=bld,pts:=pts }
noncomputable def zf68.A:Ann:={ joins:=[],loops:=[(2,{ live:=[0,1,2,6,7,8],base:=63 }),(7,{ live:=[0,1,2,6],base:=63 }),(9,{ live:=[0,1,2,6,7,8],base:=63 })],ids:=[(3,[(18,[])]),(6,[(27,[])]),(10,[(43,[])]),(15,[(60,[])])],pids:=[],nroots:=127 }
noncomputable def zf68 (n:Nat) (x:List Int × Int × List Int):Option (List Int):=evalF zf68.C zf68.A Tryz.f129 zf68.ps zf68.res n x
noncomputable def zf68.K0 (_:Nat):Kont (List Int):=finK zf68.C (Func.results Tryz.f129).toList zf68.ps zf68.res
noncomputable def zf68.K1 (n:Nat):Kont (List Int):=seqK (fun s' k=>joinE zf68.A.joins (codeAt Tryz.f129 [1,1,1]) (fun s''=>evalC zf68.C zf68.A n (codeAt Tryz.f129 [1,1,1]) s'' k) s') (zf68.K0 n)
noncomputable def zf68.K2 (n:Nat):Kont (List Int):=blockK 0 (zf68.K1 n)
noncomputable def zf68.K3 (n:Nat):Kont (List Int):=blockK 2 (zf68.K0 n)
noncomputable def zf68.K4 (n m7:Nat):Kont (List Int):=loopK (cutAt zf68.A.loops (codeAt Tryz.f129 [1,1,1,1,0,0])) (fun s k=>evalC zf68.C zf68.A n (codeAt Tryz.f129 [1,1,1,1,0,0]) s k) m7 (zf68.K3 n)
noncomputable def zf68.K5 (n m7:Nat):Kont (List Int):=blockK 3 (zf68.K4 n m7)
noncomputable def zf68.K6 (n m7:Nat):Kont (List Int):=seqK (fun s' k=>joinE zf68.A.joins (codeAt Tryz.f129 [1,1,1,1,0,0,1,0,1,1]) (fun s''=>evalC zf68.C zf68.A n (codeAt Tryz.f129 [1,1,1,1,0,0,1,0,1,1]) s'' k) s') (zf68.K5 n m7)
noncomputable def zf68.K7 (n m7:Nat):Kont (List Int):=blockK 4 (zf68.K6 n m7)
noncomputable def zf68.l2 (n m2:Nat) (x1:Int) (x2_0:List (List Int)) (x6 x7 x8:Int) (r0:List Int):Option (List Int):=loopE (cutAt zf68.A.loops (codeAt Tryz.f129 [1,1,0,0,0])) (fun s k=>evalC zf68.C zf68.A n (codeAt Tryz.f129 [1,1,0,0,0]) s k) m2 (St.of 63 127 [(0,.own 0),(1,.val (.int .i64) x1),(2,.fn 95 [.vptr (.slice (.int .i64)) x2_0 0 0]),(6,.val (.int .i64) x6),(7,.val (.int .i64) x7),(8,.val (.int .i64) x8)] [(0,.row (.int .i64) 3 r0)] [0]) (zf68.K2 n)
noncomputable def zf68.l7 (n m7:Nat) (x1:Int) (x2_0:List (List Int)) (x6:Int) (r0:List Int):Option (List Int):=loopE (cutAt zf68.A.loops (codeAt Tryz.f129 [1,1,1,1,0,0])) (fun s k=>evalC zf68.C zf68.A n (codeAt Tryz.f129 [1,1,1,1,0,0]) s k) m7 (St.of 63 127 [(0,.own 0),(1,.val (.int .i64) x1),(2,.fn 95 [.vptr (.slice (.int .i64)) x2_0 0 0]),(6,.val (.int .i64) x6)] [(0,.row (.int .i64) 3 r0)] [0]) (zf68.K3 n)
noncomputable def zf68.l9 (n m7 m9:Nat) (x1:Int) (x2_0:List (List Int)) (x6 x7 x8:Int) (r0:List Int):Option (List Int):=loopE (cutAt zf68.A.loops (codeAt Tryz.f129 [1,1,1,1,0,0,1,0,1,0,0,0])) (fun s k=>evalC zf68.C zf68.A n (codeAt Tryz.f129 [1,1,1,1,0,0,1,0,1,0,0,0]) s k) m9 (St.of 63 127 [(0,.own 0),(1,.val (.int .i64) x1),(2,.fn 95 [.vptr (.slice (.int .i64)) x2_0 0 0]),(6,.val (.int .i64) x6),(7,.val (.int .i64) x7),(8,.val (.int .i64) x8)] [(0,.row (.int .i64) 3 r0)] [0]) (zf68.K7 n m7)
theorem zf68.eq (n:Nat) (x0:List Int) (x1:Int) (x2:List Int):zf68 n (x0,x1,x2)=zf68.l2 n n (x1) ([x2]) (20) (0) (20) (x0):=by kernel_rfl
theorem zf68.l2_succ (n m2:Nat) (x1:Int) (x2_0:List (List Int)) (x6 x7 x8:Int) (r0:List Int):zf68.l2 n (m2+1) x1 x2_0 x6 x7 x8 r0=(if x8≤x1 then ((zf67 n (r0,x7,x8,List.getD x2_0 0 [])).bind fun y0=>zf68.l2 n m2 (x1) (x2_0) (x6) (x8) (Go.RowKit.wrap64 (x8+x6)) (y0)) else ((zf67 n (r0,x7,x1,List.getD x2_0 0 [])).bind fun y1=>zf68.l7 n n (x1) (x2_0) (x6) (y1))):=by kernel_rfl
theorem zf68.l7_succ (n m7:Nat) (x1:Int) (x2_0:List (List Int)) (x6:Int) (r0:List Int):zf68.l7 n (m7+1) x1 x2_0 x6 r0=(if x6<x1 then zf68.l9 n m7 n (x1) (x2_0) (x6) (0) (Go.RowKit.wrap64 (2*x6)) (r0) else some (r0)):=by kernel_rfl
theorem zf68.l9_succ (n m7 m9:Nat) (x1:Int) (x2_0:List (List Int)) (x6 x7 x8:Int) (r0:List Int):zf68.l9 n m7 (m9+1) x1 x2_0 x6 x7 x8 r0=(if x8≤x1 then ((zf69 n (r0,x7,Go.RowKit.wrap64 (x7+x6),x8,List.getD x2_0 0 [])).bind fun y2=>zf68.l9 n m7 m9 (x1) (x2_0) (x6) (x8) (Go.RowKit.wrap64 (x8+Go.RowKit.wrap64 (2*x6))) (y2)) else (if Go.RowKit.wrap64 (x7+x6)<x1 then ((zf69 n (r0,x7,Go.RowKit.wrap64 (x7+x6),x1,List.getD x2_0 0 [])).bind fun y3=>zf68.l7 n m7 (x1) (x2_0) (Go.RowKit.wrap64 (x6*2)) (y3)) else zf68.l7 n m7 (x1) (x2_0) (Go.RowKit.wrap64 (x6*2)) (r0))):=by kernel_rfl
noncomputable abbrev zf68.sg (n:Nat):Sig:=⟨zf68.ps,zf68.res,zf68 n⟩
theorem zf68.call:Callable Tryz.prog 129:=⟨Tryz.f129,Tryz.func129,by kernel_rfl,by kernel_rfl⟩
theorem zf68.ok (n:Nat):FC Tryz.prog [] 129 (zf68.sg n):=
  evalF_ok (C:=zf68.C) ⟨tb_ok,fun n _ _ h=>tabOk (l:=[(159,(zf67.sg n)),(160,(zf69.sg n)),(95,(zf4.sg n))]) (all_cons ⟨zf67.ok n,zf67.call⟩ (all_cons ⟨zf69.ok n,zf69.call⟩ (all_cons ⟨zf4.ok n,zf4.call⟩ (all_nil)))) h,mixed,ar_ok,bld_ok,pts_ok⟩ zf68.A Tryz.func129 zf68.ps zf68.res n
abbrev zf66.ps:List Pm:=[.inout (.int .i64) 3,.fnc 95 [(.slice (.int .i64))]]
abbrev zf66.res:List M:=[]
noncomputable def zf66.C:Cfg:={ tb:=tb,tab:=fun n f=>Refl.look [(129,(zf68.sg n)),(95,(zf4.sg n))] f,gl:=[],ar:=ar,bld:=bld,pts:=pts }
noncomputable def zf66.A:Ann:={ joins:=[],loops:=[],ids:=[(0,[(8,[])])],pids:=[],nroots:=73 }
noncomputable def zf66 (n:Nat) (x:List Int × List Int):Option (List Int):=evalF zf66.C zf66.A Tryz.f94 zf66.ps zf66.res n x
theorem zf66.eq (n:Nat) (x0 x1:List Int):zf66 n (x0,x1)=((zf68 n (x0,(↑(List.length x0):Int),x1)).bind fun y0=>some (y0)):=by kernel_rfl
noncomputable abbrev zf66.sg (n:Nat):Sig:=⟨zf66.ps,zf66.res,zf66 n⟩
theorem zf66.call:Callable Tryz.prog 94:=⟨Tryz.f94,Tryz.func94,by kernel_rfl,by kernel_rfl⟩
theorem zf66.ok (n:Nat):FC Tryz.prog [] 94 (zf66.sg n):=
  evalF_ok (C:=zf66.C) ⟨tb_ok,fun n _ _ h=>tabOk (l:=[(129,(zf68.sg n)),(95,(zf4.sg n))]) (all_cons ⟨zf68.ok n,zf68.call⟩ (all_cons ⟨zf4.ok n,zf4.call⟩ (all_nil))) h,mixed,ar_ok,bld_ok,pts_ok⟩ zf66.A Tryz.func94 zf66.ps zf66.res n
abbrev zf3.ps:List Pm:=[.arg (.v (.slice (.int .i64))),.arg (.v (.slice zt8))]
abbrev zf3.res:List M:=[(.own (.int .i64) 3)]
noncomputable def zf3.C:Cfg:={ tb:=tb,tab:=fun n f=>Refl.look [(40,(zf16.sg n)),(94,(zf66.sg n))] f,gl:=[],ar:=ar,bld:=bld,pts:=pts }
noncomputable def zf3.A:Ann:={ joins:=[],loops:=[(4,{ live:=[5,6,12,13],base:=25,grow:=[(6,47,(.int .i64),3)] })],ids:=[(6,[(18,[])]),(8,[(23,[])])],pids:=[],nroots:=89 }
noncomputable def zf3 (n:Nat) (x:List Int × List zt19):Option (List Int):=evalF zf3.C zf3.A Tryz.f56 zf3.ps zf3.res n x
noncomputable def zf3.K0 (_:Nat):Kont (List Int):=finK zf3.C (Func.results Tryz.f56).toList zf3.ps zf3.res
noncomputable def zf3.K1 (n:Nat):Kont (List Int):=seqK (fun s' k=>joinE zf3.A.joins (codeAt Tryz.f56 [1,1,1,1]) (fun s''=>evalC zf3.C zf3.A n (codeAt Tryz.f56 [1,1,1,1]) s'' k) s') (zf3.K0 n)
noncomputable def zf3.K2 (n:Nat):Kont (List Int):=blockK 0 (zf3.K1 n)
noncomputable def zf3.l4 (n m4:Nat) (x12 x13:Int) (r26 r27:List Int):Option (List Int):=loopE (cutAt zf3.A.loops (codeAt Tryz.f56 [1,1,1,0,1,0,0])) (fun s k=>evalC zf3.C zf3.A n (codeAt Tryz.f56 [1,1,1,0,1,0,0]) s k) m4 (St.of 25 89 [(5,.ptr 25 0 0),(6,.own 26),(12,.val (.int .i64) x12),(13,.val (.int .i64) x13)] [(25,.box 23 [.own 27]),(26,.row (.int .i64) 3 r26),(27,.row (.int .i64) 3 r27)] []) (zf3.K2 n)
theorem zf3.eq (n:Nat) (x0:List Int) (x1:List zt19):zf3 n (x0,x1)=((zf16 n (x0,x1)).bind fun y0=>zf3.l4 n n ((↑(List.length y0):Int)) (0) ([]) (y0)):=by kernel_rfl
theorem zf3.l4_succ (n m4:Nat) (x12 x13:Int) (r26 r27:List Int):zf3.l4 n (m4+1) x12 x13 r26 r27=(if x13<x12 then (if List.length r26+List.length (List.set (List.replicate (1:Nat) (0:Int)) (0:Nat) x13)≤Go.Refl.maxN then zf3.l4 n m4 (x12) (Go.RowKit.wrap64 (x13+1)) (r26++List.set (List.replicate 1 0) 0 x13) (r27) else none) else ((zf66 n (r26,r27)).bind fun y1=>some (y1))):=by kernel_rfl
noncomputable abbrev zf3.sg (n:Nat):Sig:=⟨zf3.ps,zf3.res,zf3 n⟩
theorem zf3.call:Callable Tryz.prog 56:=⟨Tryz.f56,Tryz.func56,by kernel_rfl,by kernel_rfl⟩
theorem zf3.ok (n:Nat):FC Tryz.prog [] 56 (zf3.sg n):=
  evalF_ok (C:=zf3.C) ⟨tb_ok,fun n _ _ h=>tabOk (l:=[(40,(zf16.sg n)),(94,(zf66.sg n))]) (all_cons ⟨zf16.ok n,zf16.call⟩ (all_cons ⟨zf66.ok n,zf66.call⟩ (all_nil))) h,mixed,ar_ok,bld_ok,pts_ok⟩ zf3.A Tryz.func56 zf3.ps zf3.res n
abbrev zf31.ps:List Pm:=[.arg (.v zt0),.arg (.v .str)]
abbrev zf31.res:List M:=[.v .str]
noncomputable def zf31.C:Cfg:={ tb:=tb,tab:=fun n f=>Refl.look [(54,(zf133.sg n)),(55,(zf32.sg n)),(13,(zf25.sg n)),(42,(zf128.sg n)),(12,(zf24.sg n)),(56,(zf3.sg n))] f,gl:=[g2,g3,g4],ar:=ar,bld:=bld,pts:=pts }
noncomputable def zf31.A:Ann:={ joins:=[],loops:=[],ids:=[(1,[(9,[])]),(3,[(15,[])]),(6,[(21,[])]),(8,[(27,[])]),(10,[(32,[])]),(13,[(41,[])]),(14,[(45,[])]),(16,[(52,[])]),(20,[(62,[])])],pids:=[],nroots:=127 }
noncomputable def zf31 (n:Nat) (x:zt10 × ByteArray):Option (ByteArray):=evalF zf31.C zf31.A Tryz.f26 zf31.ps zf31.res n x
theorem zf31.eq (n:Nat) (x0:List Int × List zt19 × Int × Int × Int) (x1:ByteArray):zf31 n (x0,x1)=((zf133 n (x1,{ data:=#[(115:UInt8),(116:UInt8),(97:UInt8),(107:UInt8),(101:UInt8),(32:UInt8)] })).bind fun y0=>(if y0.2=true then ((zf32 n ((x0.1,x0.2.1,x0.2.2.1,x0.2.2.2.1,x0.2.2.2.2),y0.1)).bind fun y1=>some (y1)) else (if x1={ data:=#[(98:UInt8),(111:UInt8),(120:UInt8)] } then ((zf25 n x0.2.2.1).bind fun y2=>some (y2)) else (if x1={ data:=#[(108:UInt8),(111:UInt8),(97:UInt8),(110:UInt8),(115:UInt8)] } then ((zf128 n (↑(List.length x0.2.1):Int)).bind fun y3=>some (y3)) else (if x1={ data:=#[(110:UInt8),(105:UInt8),(103:UInt8),(104:UInt8),(116:UInt8)] } then ((zf128 n x0.2.2.2.2).bind fun y4=>some (y4)) else (if x1={ data:=#[(115:UInt8),(117:UInt8),(114:UInt8),(112:UInt8),(108:UInt8),(117:UInt8),(115:UInt8)] } then (if x0.2.2.2.1<0 then ((zf25 n (Go.RowKit.wrap64 (0-x0.2.2.2.1))).bind fun y5=>(if ByteArray.size { data:=#[(45:UInt8)] }+ByteArray.size y5≤Go.Refl.maxN then some ({ data:=#[(45:UInt8)] }++y5) else none)) else ((zf25 n x0.2.2.2.1).bind fun y6=>some (y6))) else (if x1={ data:=#[(115:UInt8),(97:UInt8),(102:UInt8),(101:UInt8)] } then ((zf24 n (x0.1,x0.2.1)).bind fun y7=>(if (y7)=true then some ({ data:=#[(121:UInt8),(101:UInt8),(115:UInt8)] }) else some ({ data:=#[(110:UInt8),(111:UInt8)] }))) else (if x1={ data:=#[(119:UInt8),(101:UInt8),(97:UInt8),(107:UInt8),(101:UInt8),(115:UInt8),(116:UInt8)] } then ((zf3 n (x0.1,x0.2.1)).bind fun y8=>(if 0<(↑(List.length y8):Int) then ((zf128 n (List.getD y8 0 0)).bind fun y9=>some (y9)) else none)) else some ({ data:=#[(119:UInt8),(104:UInt8),(97:UInt8),(116:UInt8)] }))))))))):=by kernel_rfl
noncomputable abbrev zf31.sg (n:Nat):Sig:=⟨zf31.ps,zf31.res,zf31 n⟩
theorem zf31.call:Callable Tryz.prog 26:=⟨Tryz.f26,Tryz.func26,by kernel_rfl,by kernel_rfl⟩
theorem zf31.ok (n:Nat):FC Tryz.prog [g2,g3,g4] 26 (zf31.sg n):=
  evalF_ok (C:=zf31.C) ⟨tb_ok,fun n _ _ h=>tabOk (l:=[(54,(zf133.sg n)),(55,(zf32.sg n)),(13,(zf25.sg n)),(42,(zf128.sg n)),(12,(zf24.sg n)),(56,(zf3.sg n))]) (all_cons ⟨(.mono (gl:=[]) (gl':=[g2,g3,g4]) (all_nil) (zf133.ok n)),zf133.call⟩ (all_cons ⟨zf32.ok n,zf32.call⟩ (all_cons ⟨(.mono (gl:=[g2]) (gl':=[g2,g3,g4]) (all_cons (.head _) (all_nil)) (zf25.ok n)),zf25.call⟩ (all_cons ⟨(.mono (gl:=[g2]) (gl':=[g2,g3,g4]) (all_cons (.head _) (all_nil)) (zf128.ok n)),zf128.call⟩ (all_cons ⟨(.mono (gl:=[]) (gl':=[g2,g3,g4]) (all_nil) (zf24.ok n)),zf24.call⟩ (all_cons ⟨(.mono (gl:=[]) (gl':=[g2,g3,g4]) (all_nil) (zf3.ok n)),zf3.call⟩ (all_nil))))))) h,mixed,ar_ok,bld_ok,pts_ok⟩ zf31.A Tryz.func26 zf31.ps zf31.res n
abbrev zf23.ps:List Pm:=[.arg (.v zt0),.arg (.v .str),.arg (.v (.slice .str))]
abbrev zf23.res:List M:=[.v .str]
noncomputable def zf23.C:Cfg:={ tb:=tb,tab:=fun n f=>Refl.look [(9,(zf27.sg n)),(11,{ params:=zf20.ps,res:=[.v (.slice zt1)],run:=zf20 n }),(10,{ params:=zf22.ps,res:=[.v zt0,.v .bool],run:=zf22 n }),(26,(zf31.sg n)),(25,(zf130.sg n)),(27,(zf129.sg n))] f,gl:=[g0,g2,g3,g4],ar:=ar,bld:=bld,pts:=pts }
noncomputable def zf23.A:Ann:={ joins:=[],loops:=[(6,{ live:=[7,8,9,27,28,29],base:=42 })],ids:=[(1,[(13,[])]),(3,[(23,[]),(24,[])]),(4,[(9,[9,50])]),(9,[(36,[]),(37,[37])]),(11,[(39,[39])]),(10,[(38,[38])]),(13,[(41,[])])],pids:=[],nroots:=106 }
noncomputable def zf23 (n:Nat) (x:zt10 × ByteArray × List ByteArray):Option (ByteArray):=evalF zf23.C zf23.A Tryz.f7 zf23.ps zf23.res n x
noncomputable def zf23.K0 (_:Nat):Kont (ByteArray):=finK zf23.C (Func.results Tryz.f7).toList zf23.ps zf23.res
noncomputable def zf23.K1 (n:Nat):Kont (ByteArray):=seqK (fun s' k=>joinE zf23.A.joins (codeAt Tryz.f7 [1,1,1,1,1]) (fun s''=>evalC zf23.C zf23.A n (codeAt Tryz.f7 [1,1,1,1,1]) s'' k) s') (zf23.K0 n)
noncomputable def zf23.K2 (n:Nat):Kont (ByteArray):=blockK 0 (zf23.K1 n)
noncomputable def zf23.l6 (n m6:Nat) (x8:Bool) (x27:List ByteArray) (x28 x29:Int) (r42_0:List Int) (r42_1:List zt19) (r42_2 r42_3 r42_4:Int) (r44:List Int):Option (ByteArray):=loopE (cutAt zf23.A.loops (codeAt Tryz.f7 [1,1,1,1,0,1,0,0])) (fun s k=>evalC zf23.C zf23.A n (codeAt Tryz.f7 [1,1,1,1,0,1,0,0]) s k) m6 (St.of 42 106 [(7,.ptr 42 0 0),(8,.val .bool x8),(9,.ptr 43 0 0),(27,.val (.slice .str) x27),(28,.val (.int .i64) x28),(29,.val (.int .i64) x29)] [(42,.box 26 [.val (.slice (.int .i64)) r42_0,.val (.slice zt8) r42_1,.val (.int .i64) r42_2,.val (.int .i64) r42_3,.val (.int .i64) r42_4]),(43,.box 58 [.optr 43,.own 44]),(44,.row (.int .u8) 5 r44)] []) (zf23.K2 n)
theorem zf23.eq (n:Nat) (x0:List Int × List zt19 × Int × Int × Int) (x1:ByteArray) (x2:List ByteArray):zf23 n (x0,x1,x2)=((zf27 n (x0.1,x0.2.1,x0.2.2.1,x0.2.2.2.1,x0.2.2.2.2)).bind fun y0=>(if (!y0)=Bool.true then some ({ data:=#[] }) else (if (↑(List.length x2):Int) > 20 then some ({ data:=#[] }) else ((zf20 n x1).bind fun y1=>((zf22 n ((x0.1,x0.2.1,x0.2.2.1,x0.2.2.2.1,x0.2.2.2.2),y1)).bind fun y2=>zf23.l6 n n y2.2 (x2) ((↑(List.length x2):Int)) (0) y2.1.1 y2.1.2.1 y2.1.2.2.1 y2.1.2.2.2.1 y2.1.2.2.2.2 ([])))))):=by kernel_rfl
theorem zf23.l6_succ (n m6:Nat) (x8:Bool) (x27:List ByteArray) (x28 x29:Int) (r42_0:List Int) (r42_1:List zt19) (r42_2 r42_3 r42_4:Int) (r44:List Int):zf23.l6 n (m6+1) x8 x27 x28 x29 r42_0 r42_1 r42_2 r42_3 r42_4 r44=(if x29<x28 then (if 0≤x29 then (if x29<(↑(List.length x27):Int) then (if (x8)=true then ((zf31 n ((r42_0,r42_1,r42_2,r42_3,r42_4),List.getD x27 (Int.toNat x29) ByteArray.empty)).bind fun y3=>((zf130 n (r44,y3)).bind fun y4=>((zf130 n (y4.2.2,{ data:=#[(10:UInt8)] })).bind fun y5=>zf23.l6 n m6 (x8) (x27) (x28) (Go.RowKit.wrap64 (x29+1)) (r42_0) (r42_1) (r42_2) (r42_3) (r42_4) y5.2.2))) else ((zf130 n (r44,{ data:=#[(99:UInt8),(108:UInt8),(111:UInt8),(115:UInt8),(101:UInt8),(100:UInt8)] })).bind fun y6=>((zf130 n (y6.2.2,{ data:=#[(10:UInt8)] })).bind fun y7=>zf23.l6 n m6 (x8) (x27) (x28) (Go.RowKit.wrap64 (x29+1)) (r42_0) (r42_1) (r42_2) (r42_3) (r42_4) y7.2.2))) else none) else none) else ((zf129 n r44).bind fun y8=>some (y8))):=by kernel_rfl
noncomputable abbrev zf23.sg (n:Nat):Sig:=⟨zf23.ps,zf23.res,zf23 n⟩
theorem zf23.call:Callable Tryz.prog 7:=⟨Tryz.f7,Tryz.func7,by kernel_rfl,by kernel_rfl⟩
theorem zf23.ok (n:Nat):FC Tryz.prog [g0,g2,g3,g4] 7 (zf23.sg n):=
  evalF_ok (C:=zf23.C) ⟨tb_ok,fun n _ _ h=>tabOk (l:=[(9,(zf27.sg n)),(11,{ params:=zf20.ps,res:=[.v (.slice zt1)],run:=zf20 n }),(10,{ params:=zf22.ps,res:=[.v zt0,.v .bool],run:=zf22 n }),(26,(zf31.sg n)),(25,(zf130.sg n)),(27,(zf129.sg n))]) (all_cons ⟨(.mono (gl:=[]) (gl':=[g0,g2,g3,g4]) (all_nil) (zf27.ok n)),zf27.call⟩ (all_cons ⟨FC.weak (.cons (.own _ _) .nil) HEq.rfl (zf20.ok n),zf20.call⟩ (all_cons ⟨FC.weak (.cons (.refl _) (.cons (.refl _) .nil)) HEq.rfl (.mono (gl:=[]) (gl':=[g0,g2,g3,g4]) (all_nil) (zf22.ok n)),zf22.call⟩ (all_cons ⟨(.mono (gl:=[g2,g3,g4]) (gl':=[g0,g2,g3,g4]) (all_cons (.tail _ (.head _)) (all_cons (.tail _ (.tail _ (.head _))) (all_cons (.tail _ (.tail _ (.tail _ (.head _)))) (all_nil)))) (zf31.ok n)),zf31.call⟩ (all_cons ⟨(.mono (gl:=[]) (gl':=[g0,g2,g3,g4]) (all_nil) (zf130.ok n)),zf130.call⟩ (all_cons ⟨(.mono (gl:=[]) (gl':=[g0,g2,g3,g4]) (all_nil) (zf129.ok n)),zf129.call⟩ (all_nil))))))) h,mixed,ar_ok,bld_ok,pts_ok⟩ zf23.A Tryz.func7 zf23.ps zf23.res n
abbrev zf97.ps:List Pm:=[.arg (.v (.slice (.int .u8)))]
abbrev zf97.res:List M:=[.bx 86 (.v (.pair (.slice (.int .u8)) (.int .i64)))]
noncomputable def zf97.C:Cfg:={ tb:=tb,tab:=fun n f=>Refl.look [] f,gl:=[],ar:=ar,bld:=bld,pts:=pts }
noncomputable def zf97.A:Ann:={ joins:=[],loops:=[],ids:=[],pids:=[],nroots:=75 }
noncomputable def zf97 (n:Nat) (x:List Int):Option (List Int × Int):=evalF zf97.C zf97.A Tryz.f21 zf97.ps zf97.res n x
theorem zf97.eq (n:Nat) (x0:List Int):zf97 n x0=(if (↑(List.length x0):Int) > 2000 then (if 2000≤(↑(List.length x0):Int) then some ((List.take (Int.toNat 2000) x0,0)) else none) else some ((x0,0))):=by kernel_rfl
noncomputable abbrev zf97.sg (n:Nat):Sig:=⟨zf97.ps,zf97.res,zf97 n⟩
theorem zf97.call:Callable Tryz.prog 21:=⟨Tryz.f21,Tryz.func21,by kernel_rfl,by kernel_rfl⟩
theorem zf97.ok (n:Nat):FC Tryz.prog [] 21 (zf97.sg n):=
  evalF_ok (C:=zf97.C) ⟨tb_ok,fun n _ _ h=>tabOk (l:=[]) (all_nil) h,mixed,ar_ok,bld_ok,pts_ok⟩ zf97.A Tryz.func21 zf97.ps zf97.res n
abbrev zf108.ps:List Pm:=[.box 86 (.v (.pair (.slice (.int .u8)) (.int .i64))),.arg (.v (.int .i64))]
abbrev zf108.res:List M:=[.v (.int .i64)]
noncomputable def zf108.C:Cfg:={ tb:=tb,tab:=fun n f=>Refl.look [] f,gl:=[],ar:=ar,bld:=bld,pts:=pts }
noncomputable def zf108.A:Ann:={ joins:=[],loops:=[],ids:=[],pids:=[],nroots:=163 }
noncomputable def zf108 (n:Nat) (x:(List Int × Int) × Int):Option (Int × List Int × Int):=evalF zf108.C zf108.A Tryz.f51 zf108.ps zf108.res n x
theorem zf108.eq (n:Nat) (x0:List Int × Int) (x1:Int):zf108 n (x0,x1)=(if x1<1 then some ((0,x0.1,Go.RowKit.wrap64 (x0.2+1))) else (if (↑(List.length x0.1):Int)=0 then some ((0,x0.1,Go.RowKit.wrap64 (x0.2+1))) else (if Go.RowKit.wrap64 (Go.RowKit.wrap64 (x0.2+1)-1)<(↑(List.length x0.1):Int) then (if 0≤Go.RowKit.wrap64 (Go.RowKit.wrap64 (x0.2+1)-1) then (if Go.RowKit.wrap64 (Go.RowKit.wrap64 (x0.2+1)-1)<(↑(List.length x0.1):Int) then (if x1=0 then none else some ((Int.tmod (Go.RowKit.wrap64 (List.getD x0.1 (Int.toNat (Go.RowKit.wrap64 (Go.RowKit.wrap64 (x0.2+1)-1))) 0)) x1,x0.1,Go.RowKit.wrap64 (x0.2+1)))) else none) else none) else (if (↑(List.length x0.1):Int)=0 then none else (if 0≤Int.tmod (Go.RowKit.wrap64 (Go.RowKit.wrap64 (x0.2+1)-1)) (↑(List.length x0.1):Int) then (if Int.tmod (Go.RowKit.wrap64 (Go.RowKit.wrap64 (x0.2+1)-1)) (↑(List.length x0.1):Int)<(↑(List.length x0.1):Int) then (if (↑(List.length x0.1):Int)=0 then none else (if 0≤Int.tmod (Go.RowKit.wrap64 (Go.RowKit.wrap64 (Go.RowKit.wrap64 (Go.RowKit.wrap64 (x0.2+1)-1)*7)+3)) (↑(List.length x0.1):Int) then (if Int.tmod (Go.RowKit.wrap64 (Go.RowKit.wrap64 (Go.RowKit.wrap64 (Go.RowKit.wrap64 (x0.2+1)-1)*7)+3)) (↑(List.length x0.1):Int)<(↑(List.length x0.1):Int) then (if (↑(List.length x0.1):Int)=0 then none else (if x1=0 then none else some ((Int.tmod (Go.IntKind.wrap Go.IntKind.i64 (↑(BitVec.toNat (BitVec.ofInt (Go.IntKind.bits Go.IntKind.i64) (Go.RowKit.wrap64 (Go.RowKit.wrap64 (Go.RowKit.wrap64 (Go.RowKit.wrap64 (Go.RowKit.wrap64 (List.getD x0.1 (Int.toNat (Int.tmod (Go.RowKit.wrap64 (Go.RowKit.wrap64 (x0.2+1)-1)) (↑(List.length x0.1):Int))) 0)*131)+Go.RowKit.wrap64 (Go.RowKit.wrap64 (List.getD x0.1 (Int.toNat (Int.tmod (Go.RowKit.wrap64 (Go.RowKit.wrap64 (Go.RowKit.wrap64 (Go.RowKit.wrap64 (x0.2+1)-1)*7)+3)) (↑(List.length x0.1):Int))) 0)*1117))+Go.RowKit.wrap64 (Go.RowKit.wrap64 (Go.RowKit.wrap64 (x0.2+1)-1)*29))+Go.RowKit.wrap64 (Go.RowKit.wrap64 (Int.tdiv (Go.RowKit.wrap64 (Go.RowKit.wrap64 (x0.2+1)-1)) (↑(List.length x0.1):Int))*53))) ^^^ BitVec.ofInt (Go.IntKind.bits Go.IntKind.i64) (Go.RowKit.wrap64 (Int.tdiv (Go.RowKit.wrap64 (Go.RowKit.wrap64 (Go.RowKit.wrap64 (Go.RowKit.wrap64 (Go.RowKit.wrap64 (List.getD x0.1 (Int.toNat (Int.tmod (Go.RowKit.wrap64 (Go.RowKit.wrap64 (x0.2+1)-1)) (↑(List.length x0.1):Int))) 0)*131)+Go.RowKit.wrap64 (Go.RowKit.wrap64 (List.getD x0.1 (Int.toNat (Int.tmod (Go.RowKit.wrap64 (Go.RowKit.wrap64 (Go.RowKit.wrap64 (Go.RowKit.wrap64 (x0.2+1)-1)*7)+3)) (↑(List.length x0.1):Int))) 0)*1117))+Go.RowKit.wrap64 (Go.RowKit.wrap64 (Go.RowKit.wrap64 (x0.2+1)-1)*29))+Go.RowKit.wrap64 (Go.RowKit.wrap64 (Int.tdiv (Go.RowKit.wrap64 (Go.RowKit.wrap64 (x0.2+1)-1)) (↑(List.length x0.1):Int))*53))) 64)))):Int)) x1,x0.1,Go.RowKit.wrap64 (x0.2+1))))) else none) else none)) else none) else none))))):=by kernel_rfl
noncomputable abbrev zf108.sg (n:Nat):Sig:=⟨zf108.ps,zf108.res,zf108 n⟩
theorem zf108.call:Callable Tryz.prog 51:=⟨Tryz.f51,Tryz.func51,by kernel_rfl,by kernel_rfl⟩
theorem zf108.ok (n:Nat):FC Tryz.prog [] 51 (zf108.sg n):=
  evalF_ok (C:=zf108.C) ⟨tb_ok,fun n _ _ h=>tabOk (l:=[]) (all_nil) h,mixed,ar_ok,bld_ok,pts_ok⟩ zf108.A Tryz.func51 zf108.ps zf108.res n
abbrev zf107.ps:List Pm:=[.box 86 (.v (.pair (.slice (.int .u8)) (.int .i64))),.arg (.v (.slice (.int .i64)))]
abbrev zf107.res:List M:=[.v (.int .i64)]
noncomputable def zf107.C:Cfg:={ tb:=tb,tab:=fun n f=>Refl.look [(51,(zf108.sg n))] f,gl:=[],ar:=ar,bld:=bld,pts:=pts }
noncomputable def zf107.A:Ann:={ joins:=[],loops:=[],ids:=[(1,[(9,[])])],pids:=[],nroots:=76 }
noncomputable def zf107 (n:Nat) (x:(List Int × Int) × List Int):Option (Int × List Int × Int):=evalF zf107.C zf107.A Tryz.f23 zf107.ps zf107.res n x
theorem zf107.eq (n:Nat) (x0:List Int × Int) (x1:List Int):zf107 n (x0,x1)=((zf108 n ((x0.1,x0.2),(↑(List.length x1):Int))).bind fun y0=>(if 0≤y0.1 then (if y0.1<(↑(List.length x1):Int) then some ((List.getD x1 (Int.toNat y0.1) 0,y0.2.1,y0.2.2)) else none) else none)):=by kernel_rfl
noncomputable abbrev zf107.sg (n:Nat):Sig:=⟨zf107.ps,zf107.res,zf107 n⟩
theorem zf107.call:Callable Tryz.prog 23:=⟨Tryz.f23,Tryz.func23,by kernel_rfl,by kernel_rfl⟩
theorem zf107.ok (n:Nat):FC Tryz.prog [] 23 (zf107.sg n):=
  evalF_ok (C:=zf107.C) ⟨tb_ok,fun n _ _ h=>tabOk (l:=[(51,(zf108.sg n))]) (all_cons ⟨zf108.ok n,zf108.call⟩ (all_nil)) h,mixed,ar_ok,bld_ok,pts_ok⟩ zf107.A Tryz.func23 zf107.ps zf107.res n
abbrev zf90.ps:List Pm:=[.arg (.v (.int .i64)),.arg (.v (.int .i64)),.arg (.v (.int .i64))]
abbrev zf90.res:List M:=[.v .bool]
noncomputable def zf90.C:Cfg:={ tb:=tb,tab:=fun n f=>Refl.look [] f,gl:=[],ar:=ar,bld:=bld,pts:=pts }
noncomputable def zf90.A:Ann:={ joins:=[],loops:=[],ids:=[],pids:=[],nroots:=79 }
noncomputable def zf90 (n:Nat) (x:Int × Int × Int):Option (Bool):=evalF zf90.C zf90.A Tryz.f60 zf90.ps zf90.res n x
theorem zf90.eq (n:Nat) (x0 x1 x2:Int):zf90 n (x0,x1,x2)=(if x1≤x0 then some (Decidable.decide (x0≤x2)) else some (Bool.false)):=by kernel_rfl
noncomputable abbrev zf90.sg (n:Nat):Sig:=⟨zf90.ps,zf90.res,zf90 n⟩
theorem zf90.call:Callable Tryz.prog 60:=⟨Tryz.f60,Tryz.func60,by kernel_rfl,by kernel_rfl⟩
theorem zf90.ok (n:Nat):FC Tryz.prog [] 60 (zf90.sg n):=
  evalF_ok (C:=zf90.C) ⟨tb_ok,fun n _ _ h=>tabOk (l:=[]) (all_nil) h,mixed,ar_ok,bld_ok,pts_ok⟩ zf90.A Tryz.func60 zf90.ps zf90.res n
abbrev zf73.ps:List Pm:=[.arg (.v (.int .i64))]
abbrev zf73.res:List M:=[.v zt0]
noncomputable def zf73.C:Cfg:={ tb:=tb,tab:=fun n f=>Refl.look [(60,(zf90.sg n))] f,gl:=[],ar:=ar,bld:=bld,pts:=pts }
noncomputable def zf73.A:Ann:={ joins:=[],loops:=[],ids:=[(1,[(4,[])])],pids:=[],nroots:=74 }
noncomputable def zf73 (n:Nat) (x:Int):Option zt10:=evalF zf73.C zf73.A Tryz.f124 zf73.ps zf73.res n x
theorem zf73.eq (n:Nat) (x0:Int):zf73 n x0=((zf90 n (x0,1,12)).bind fun y0=>(if (!y0)=true then some (([],[],0,0,0)) else (if 0≤x0 then (if x0≤x0 then (if x0≤(↑Go.Refl.maxN:Int) then some ((List.replicate (Int.toNat x0) 0,[],0,0,0)) else none) else none) else none))):=by kernel_rfl
noncomputable abbrev zf73.sg (n:Nat):Sig:=⟨zf73.ps,zf73.res,zf73 n⟩
theorem zf73.call:Callable Tryz.prog 124:=⟨Tryz.f124,Tryz.func124,by kernel_rfl,by kernel_rfl⟩
theorem zf73.ok (n:Nat):FC Tryz.prog [] 124 (zf73.sg n):=
  evalF_ok (C:=zf73.C) ⟨tb_ok,fun n _ _ h=>tabOk (l:=[(60,(zf90.sg n))]) (all_cons ⟨zf90.ok n,zf90.call⟩ (all_nil)) h,mixed,ar_ok,bld_ok,pts_ok⟩ zf73.A Tryz.func124 zf73.ps zf73.res n
abbrev zf88.ps:List Pm:=[.box 86 (.v (.pair (.slice (.int .u8)) (.int .i64)))]
abbrev zf88.res:List M:=[.v zt0]
noncomputable def zf88.C:Cfg:={ tb:=tb,tab:=fun n f=>Refl.look [(23,(zf107.sg n)),(124,(zf73.sg n))] f,gl:=[],ar:=ar,bld:=bld,pts:=pts }
noncomputable def zf88.A:Ann:={ joins:=[],loops:=[],ids:=[(1,[(4,[]),(5,[]),(6,[])])],pids:=[],nroots:=71 }
noncomputable def zf88 (n:Nat) (x:List Int × Int):Option (zt10 × List Int × Int):=evalF zf88.C zf88.A Tryz.f87 zf88.ps zf88.res n x
theorem zf88.eq (n:Nat) (x0:List Int × Int):zf88 n x0=((zf107 n ((x0.1,x0.2),List.set (List.set (List.set (List.set (List.set (List.replicate 5 0) 0 3) 1 4) 2 2) 3 5) 4 1)).bind fun y0=>((zf73 n y0.1).bind fun y1=>some (((y1.1,y1.2.1,y1.2.2.1,y1.2.2.2.1,y1.2.2.2.2),y0.2.1,y0.2.2)))):=by kernel_rfl
noncomputable abbrev zf88.sg (n:Nat):Sig:=⟨zf88.ps,zf88.res,zf88 n⟩
theorem zf88.call:Callable Tryz.prog 87:=⟨Tryz.f87,Tryz.func87,by kernel_rfl,by kernel_rfl⟩
theorem zf88.ok (n:Nat):FC Tryz.prog [] 87 (zf88.sg n):=
  evalF_ok (C:=zf88.C) ⟨tb_ok,fun n _ _ h=>tabOk (l:=[(23,(zf107.sg n)),(124,(zf73.sg n))]) (all_cons ⟨zf107.ok n,zf107.call⟩ (all_cons ⟨zf73.ok n,zf73.call⟩ (all_nil))) h,mixed,ar_ok,bld_ok,pts_ok⟩ zf88.A Tryz.func87 zf88.ps zf88.res n
abbrev zf117.ps:List Pm:=[.box 86 (.v (.pair (.slice (.int .u8)) (.int .i64)))]
abbrev zf117.res:List M:=[.v zt16]
noncomputable def zf117.C:Cfg:={ tb:=tb,tab:=fun n f=>Refl.look [(51,(zf108.sg n)),(23,(zf107.sg n))] f,gl:=[],ar:=ar,bld:=bld,pts:=pts }
noncomputable def zf117.A:Ann:={ joins:=[],loops:=[],ids:=[(1,[(6,[]),(8,[]),(9,[])]),(2,[(17,[]),(20,[]),(21,[])])],pids:=[],nroots:=88 }
noncomputable def zf117 (n:Nat) (x:List Int × Int):Option ((Int × Int) × List Int × Int):=evalF zf117.C zf117.A Tryz.f156 zf117.ps zf117.res n x
theorem zf117.eq (n:Nat) (x0:List Int × Int):zf117 n x0=((zf108 n ((x0.1,x0.2),50)).bind fun y0=>((zf107 n ((y0.2.1,y0.2.2),List.set (List.set (List.set (List.set (List.set (List.set (List.set (List.set (List.set (List.replicate 9 0) 0 100) 1 12) 2 2) 3 4) 4 1000) 5 8) 6 1) 7 365) 8 (Go.RowKit.wrap64 (1+y0.1)))).bind fun y1=>((zf108 n ((y1.2.1,y1.2.2),Go.RowKit.wrap64 (y1.1+1))).bind fun y2=>((zf107 n ((y2.2.1,y2.2.2),List.set (List.set (List.set (List.set (List.set (List.set (List.replicate 6 0) 0 1) 1 0) 2 (Go.Refl.mn 5 y1.1)) 3 y1.1) 4 y2.1) 5 (Go.Refl.mn 3 y1.1))).bind fun y3=>some (((y3.1,y1.1),y3.2.1,y3.2.2)))))):=by kernel_rfl
noncomputable abbrev zf117.sg (n:Nat):Sig:=⟨zf117.ps,zf117.res,zf117 n⟩
theorem zf117.call:Callable Tryz.prog 156:=⟨Tryz.f156,Tryz.func156,by kernel_rfl,by kernel_rfl⟩
theorem zf117.ok (n:Nat):FC Tryz.prog [] 156 (zf117.sg n):=
  evalF_ok (C:=zf117.C) ⟨tb_ok,fun n _ _ h=>tabOk (l:=[(51,(zf108.sg n)),(23,(zf107.sg n))]) (all_cons ⟨zf108.ok n,zf108.call⟩ (all_cons ⟨zf107.ok n,zf107.call⟩ (all_nil))) h,mixed,ar_ok,bld_ok,pts_ok⟩ zf117.A Tryz.func156 zf117.ps zf117.res n
abbrev zf116.ps:List Pm:=[.box 86 (.v (.pair (.slice (.int .u8)) (.int .i64))),.arg (.v zt0)]
abbrev zf116.res:List M:=[.v zt1]
noncomputable def zf116.C:Cfg:={ tb:=tb,tab:=fun n f=>Refl.look [(51,(zf108.sg n)),(23,(zf107.sg n)),(156,(zf117.sg n))] f,gl:=[],ar:=ar,bld:=bld,pts:=pts }
noncomputable def zf116.A:Ann:={ joins:=[(11,{ live:=[0,3,4,5,6,17,34],base:=125 }),(20,{ live:=[0,3,4,6,17,67],base:=125 }),(29,{ live:=[0,4,6],base:=125 })],loops:=[(13,{ live:=[0,4,5,6,7,8],base:=125,growB:=[(7,4,153,(.int .i64),3)] })],ids:=[(0,[(3,[])]),(2,[(15,[])]),(3,[(17,[])]),(7,[(31,[])]),(11,[(44,[])]),(15,[(57,[])]),(16,[(63,[])]),(21,[(78,[])]),(22,[(94,[]),(96,[]),(97,[]),(100,[]),(101,[]),(102,[])]),(24,[(107,[])]),(26,[(112,[])]),(29,[(120,[]),(122,[]),(123,[])])],pids:=[],nroots:=189 }
noncomputable def zf116 (n:Nat) (x:(List Int × Int) × List Int × List zt19 × Int × Int × Int):Option zt7:=evalF zf116.C zf116.A Tryz.f125 zf116.ps zf116.res n x
noncomputable def zf116.K0 (_:Nat):Kont zt7:=finK zf116.C (Func.results Tryz.f125).toList zf116.ps zf116.res
noncomputable def zf116.K1 (n:Nat):Kont zt7:=seqK (fun s' k=>joinE zf116.A.joins (codeAt Tryz.f125 [1,1,1,1]) (fun s''=>evalC zf116.C zf116.A n (codeAt Tryz.f125 [1,1,1,1]) s'' k) s') (zf116.K0 n)
noncomputable def zf116.K2 (n:Nat):Kont zt7:=blockK 0 (zf116.K1 n)
noncomputable def zf116.K3 (n:Nat):Kont zt7:=seqK (fun s' k=>joinE zf116.A.joins (codeAt Tryz.f125 [1,1,1,0,1,0,1,1,1,1,1,0,1,1]) (fun s''=>evalC zf116.C zf116.A n (codeAt Tryz.f125 [1,1,1,0,1,0,1,1,1,1,1,0,1,1]) s'' k) s') (zf116.K2 n)
noncomputable def zf116.K4 (n:Nat):Kont zt7:=blockK 1 (zf116.K3 n)
noncomputable def zf116.j11 (n:Nat) (x3:List zt10) (x5 x6 x17:Int) (x34:Bool) (r0_0:List Int) (r0_1 r125_0:Int) (r125_1 r125_2:Int) (r125_3 r125_5 r125_6:Int):Option zt7:=holdF (fun s=>evalC zf116.C zf116.A n (codeAt Tryz.f125 [1,1,1,0,1,0,1,1,1,1,1]) s (zf116.K2 n)) (St.of 125 189 [(0,.ptr 0 0 0),(3,.vptr zt0 x3 0 0),(4,.ptr 125 0 0),(5,.val (.int .i64) x5),(6,.val (.int .i64) x6),(17,.val (.int .i64) x17),(34,.val .bool x34)] [(0,.box 86 [.val (.slice (.int .u8)) r0_0,.val (.int .i64) r0_1]),(125,.box 72 [.val (.int .i64) r125_0,.val (.int .i64) r125_1,.val (.int .i64) r125_2,.val (.int .i64) r125_3,.nils,.val (.int .i64) r125_5,.val (.int .i64) r125_6])] [0])
noncomputable def zf116.l13 (n m13:Nat) (x5 x6 x8:Int) (r0_0:List Int) (r0_1 r125_0:Int) (r125_1 r125_2:Int) (r125_3 r125_5:Int) (r125_6 r126_0:Int) (r126_1 r126_2:Int) (r126_3 r126_5 r126_6:Int) (r127:List Int):Option zt7:=loopE (cutAt zf116.A.loops (codeAt Tryz.f125 [1,1,1,0,1,0,1,1,1,1,1,0,1,0,1,0,0])) (fun s k=>evalC zf116.C zf116.A n (codeAt Tryz.f125 [1,1,1,0,1,0,1,1,1,1,1,0,1,0,1,0,0]) s k) m13 (St.of 125 189 [(0,.ptr 0 0 0),(4,.ptr 125 0 0),(5,.val (.int .i64) x5),(6,.val (.int .i64) x6),(7,.ptr 126 0 0),(8,.val (.int .i64) x8)] [(0,.box 86 [.val (.slice (.int .u8)) r0_0,.val (.int .i64) r0_1]),(125,.box 72 [.val (.int .i64) r125_0,.val (.int .i64) r125_1,.val (.int .i64) r125_2,.val (.int .i64) r125_3,.nils,.val (.int .i64) r125_5,.val (.int .i64) r125_6]),(126,.box 72 [.val (.int .i64) r126_0,.val (.int .i64) r126_1,.val (.int .i64) r126_2,.val (.int .i64) r126_3,.own 127,.val (.int .i64) r126_5,.val (.int .i64) r126_6]),(127,.row (.int .i64) 3 r127)] [0]) (zf116.K4 n)
noncomputable def zf116.j20 (n:Nat) (x3:List zt10) (x6 x17:Int) (x67:Bool) (r0_0:List Int) (r0_1 r125_0:Int) (r125_1 r125_2:Int) (r125_3 r125_5 r125_6:Int):Option zt7:=holdF (fun s=>evalC zf116.C zf116.A n (codeAt Tryz.f125 [1,1,1,0,1,0,1,1,1,1,1,1,1]) s (zf116.K2 n)) (St.of 125 189 [(0,.ptr 0 0 0),(3,.vptr zt0 x3 0 0),(4,.ptr 125 0 0),(6,.val (.int .i64) x6),(17,.val (.int .i64) x17),(67,.val .bool x67)] [(0,.box 86 [.val (.slice (.int .u8)) r0_0,.val (.int .i64) r0_1]),(125,.box 72 [.val (.int .i64) r125_0,.val (.int .i64) r125_1,.val (.int .i64) r125_2,.val (.int .i64) r125_3,.nils,.val (.int .i64) r125_5,.val (.int .i64) r125_6])] [0])
noncomputable def zf116.j29 (n:Nat) (x6:Int) (r0_0:List Int) (r0_1 r125_0:Int) (r125_1 r125_2:Int) (r125_3 r125_5 r125_6:Int):Option zt7:=holdF (fun s=>evalC zf116.C zf116.A n (codeAt Tryz.f125 [1,1,1,1]) s (zf116.K0 n)) (St.of 125 189 [(0,.ptr 0 0 0),(4,.ptr 125 0 0),(6,.val (.int .i64) x6)] [(0,.box 86 [.val (.slice (.int .u8)) r0_0,.val (.int .i64) r0_1]),(125,.box 72 [.val (.int .i64) r125_0,.val (.int .i64) r125_1,.val (.int .i64) r125_2,.val (.int .i64) r125_3,.nils,.val (.int .i64) r125_5,.val (.int .i64) r125_6])] [0])
theorem zf116.eq (n:Nat) (x0:List Int × Int) (x1:List Int × List zt19 × Int × Int × Int):zf116 n (x0,x1)=((zf108 n ((x0.1,x0.2),(↑(List.length x1.1):Int))).bind fun y0=>((zf108 n ((y0.2.1,y0.2.2),12)).bind fun y1=>(if y1.1=0 then some (((0,0,0,0,[],0,0),y1.2.1,y1.2.2)) else (if y1.1=1 then (if 0≤y0.1 then (if y0.1<(↑(List.length x1.1):Int) then ((zf108 n ((y1.2.1,y1.2.2),Go.Refl.mx (List.getD x1.1 (Int.toNat y0.1) 0) 1)).bind fun y2=>some (((2,y0.1,Go.RowKit.wrap64 (1+y2.1),0,[],0,0),y2.2.1,y2.2.2))) else none) else none) else (if y1.1=2 then zf116.j11 n ([x1]) ((↑(List.length x1.1):Int)) y0.1 y1.1 (Decidable.decide (y1.1=2)) y1.2.1 y1.2.2 (0) (0) (0) (0) (0) (0) else (if y1.1=3 then zf116.j11 n ([x1]) ((↑(List.length x1.1):Int)) y0.1 y1.1 (Decidable.decide (y1.1=3)) y1.2.1 y1.2.2 (0) (0) (0) (0) (0) (0) else zf116.j11 n ([x1]) ((↑(List.length x1.1):Int)) y0.1 y1.1 (Decidable.decide (y1.1=4)) y1.2.1 y1.2.2 (0) (0) (0) (0) (0) (0))))))):=by kernel_rfl
theorem zf116.j11_eq (n:Nat) (x3:List zt10) (x5 x6 x17:Int) (x34:Bool) (r0_0:List Int) (r0_1 r125_0:Int) (r125_1 r125_2:Int) (r125_3 r125_5 r125_6:Int):zf116.j11 n x3 x5 x6 x17 x34 r0_0 r0_1 r125_0 r125_1 r125_2 r125_3 r125_5 r125_6=(if (x34)=true then ((zf108 n ((r0_0,r0_1),Go.Refl.mn (Go.Refl.mx (Prod.fst (Prod.snd (Prod.snd (List.getD x3 0 ([],[],0,0,0))))) 1) 150)).bind fun y3=>zf116.l13 n n (x5) (x6) (0) y3.2.1 y3.2.2 (r125_0) (r125_1) (r125_2) (r125_3) (r125_5) (r125_6) (3) (x6) (Go.RowKit.wrap64 (1+y3.1)) (0) (0) (0) ([])) else (if x17=5 then zf116.j20 n (x3) (x6) (x17) (Decidable.decide (x17=5)) (r0_0) (r0_1) (r125_0) (r125_1) (r125_2) (r125_3) (r125_5) (r125_6) else zf116.j20 n (x3) (x6) (x17) (Decidable.decide (x17=6)) (r0_0) (r0_1) (r125_0) (r125_1) (r125_2) (r125_3) (r125_5) (r125_6))):=(holdF_eq _ _).trans (by kernel_rfl)
theorem zf116.l13_succ (n m13:Nat) (x5 x6 x8:Int) (r0_0:List Int) (r0_1 r125_0:Int) (r125_1 r125_2:Int) (r125_3 r125_5:Int) (r125_6 r126_0:Int) (r126_1 r126_2:Int) (r126_3 r126_5 r126_6:Int) (r127:List Int):zf116.l13 n (m13+1) x5 x6 x8 r0_0 r0_1 r125_0 r125_1 r125_2 r125_3 r125_5 r125_6 r126_0 r126_1 r126_2 r126_3 r126_5 r126_6 r127=(if x8<x5 then (if x8=x6 then zf116.l13 n m13 (x5) (x6) (Go.RowKit.wrap64 (x8+1)) (r0_0) (r0_1) (r125_0) (r125_1) (r125_2) (r125_3) (r125_5) (r125_6) (r126_0) (r126_1) (r126_2) (r126_3) (r126_5) (r126_6) (r127) else ((zf108 n ((r0_0,r0_1),2)).bind fun y4=>(if y4.1=0 then (if List.length r127+List.length (List.set (List.replicate (1:Nat) (0:Int)) (0:Nat) x8)≤Go.Refl.maxN then zf116.l13 n m13 (x5) (x6) (Go.RowKit.wrap64 (x8+1)) y4.2.1 y4.2.2 (r125_0) (r125_1) (r125_2) (r125_3) (r125_5) (r125_6) (r126_0) (r126_1) (r126_2) (r126_3) (r126_5) (r126_6) (r127++List.set (List.replicate 1 0) 0 x8) else none) else zf116.l13 n m13 (x5) (x6) (Go.RowKit.wrap64 (x8+1)) y4.2.1 y4.2.2 (r125_0) (r125_1) (r125_2) (r125_3) (r125_5) (r125_6) (r126_0) (r126_1) (r126_2) (r126_3) (r126_5) (r126_6) (r127)))) else some (((r126_0,r126_1,r126_2,r126_3,r127,r126_5,r126_6),r0_0,r0_1))):=by kernel_rfl
theorem zf116.j20_eq (n:Nat) (x3:List zt10) (x6 x17:Int) (x67:Bool) (r0_0:List Int) (r0_1 r125_0:Int) (r125_1 r125_2:Int) (r125_3 r125_5 r125_6:Int):zf116.j20 n x3 x6 x17 x67 r0_0 r0_1 r125_0 r125_1 r125_2 r125_3 r125_5 r125_6=(if (x67)=true then (if (↑(List.length (Prod.fst (Prod.snd (List.getD x3 (0:Nat) ([],[],(0:Int),(0:Int),(0:Int)))))):Int) > 0 then ((zf108 n ((r0_0,r0_1),(↑(List.length (Prod.fst (Prod.snd (List.getD x3 (0:Nat) ([],[],(0:Int),(0:Int),(0:Int)))))):Int))).bind fun y5=>(if 0≤y5.1 then (if y5.1<(↑(List.length (Prod.fst (Prod.snd (List.getD x3 (0:Nat) ([],[],(0:Int),(0:Int),(0:Int)))))):Int) then (if 0≤y5.1 then (if y5.1<(↑(List.length (Prod.fst (Prod.snd (List.getD x3 (0:Nat) ([],[],(0:Int),(0:Int),(0:Int)))))):Int) then ((zf108 n ((y5.2.1,y5.2.2),Prod.fst (Prod.snd (List.getD (Prod.fst (Prod.snd (List.getD x3 0 ([],[],0,0,0)))) (Int.toNat y5.1) (0,0,[]))))).bind fun y6=>((zf107 n ((y6.2.1,y6.2.2),List.set (List.set (List.replicate 2 0) 0 (Prod.fst (Prod.snd (List.getD (Prod.fst (Prod.snd (List.getD x3 0 ([],[],0,0,0)))) (Int.toNat y5.1) (0,0,[]))))) 1 (Go.RowKit.wrap64 (1+y6.1)))).bind fun y7=>((zf108 n ((y7.2.1,y7.2.2),30)).bind fun y8=>((zf107 n ((y8.2.1,y8.2.2),List.set (List.set (List.set (List.replicate 3 0) 0 0) 1 5) 2 y8.1)).bind fun y9=>some (((4,y5.1,y7.1,y9.1,[],0,0),y9.2.1,y9.2.2)))))) else none) else none) else none) else none)) else zf116.j29 n (x6) (r0_0) (r0_1) (r125_0) (r125_1) (r125_2) (r125_3) (r125_5) (r125_6)) else (if x17=7 then ((zf117 n (r0_0,r0_1)).bind fun y10=>some (((6,0,0,0,[],y10.1.1,y10.1.2),y10.2.1,y10.2.2))) else (if x17=8 then ((zf108 n ((r0_0,r0_1),2)).bind fun y11=>(if y11.1=0 then some (((5,x6,0,0,[],0,0),y11.2.1,y11.2.2)) else some (((7,0,0,0,[],0,0),y11.2.1,y11.2.2)))) else zf116.j29 n (x6) (r0_0) (r0_1) (r125_0) (r125_1) (r125_2) (r125_3) (r125_5) (r125_6)))):=(holdF_eq _ _).trans (by kernel_rfl)
theorem zf116.j29_eq (n:Nat) (x6:Int) (r0_0:List Int) (r0_1 r125_0:Int) (r125_1 r125_2:Int) (r125_3 r125_5 r125_6:Int):zf116.j29 n x6 r0_0 r0_1 r125_0 r125_1 r125_2 r125_3 r125_5 r125_6=((zf108 n ((r0_0,r0_1),250)).bind fun y12=>((zf107 n ((y12.2.1,y12.2.2),List.set (List.set (List.set (List.set (List.replicate 4 0) 0 100) 1 250) 2 (Go.RowKit.wrap64 (1+y12.1))) 3 1000)).bind fun y13=>some (((1,x6,y13.1,0,[],0,0),y13.2.1,y13.2.2)))):=(holdF_eq _ _).trans (by kernel_rfl)
noncomputable abbrev zf116.sg (n:Nat):Sig:=⟨zf116.ps,zf116.res,zf116 n⟩
theorem zf116.call:Callable Tryz.prog 125:=⟨Tryz.f125,Tryz.func125,by kernel_rfl,by kernel_rfl⟩
theorem zf116.ok (n:Nat):FC Tryz.prog [] 125 (zf116.sg n):=
  evalF_ok (C:=zf116.C) ⟨tb_ok,fun n _ _ h=>tabOk (l:=[(51,(zf108.sg n)),(23,(zf107.sg n)),(156,(zf117.sg n))]) (all_cons ⟨zf108.ok n,zf108.call⟩ (all_cons ⟨zf107.ok n,zf107.call⟩ (all_cons ⟨zf117.ok n,zf117.call⟩ (all_nil)))) h,mixed,ar_ok,bld_ok,pts_ok⟩ zf116.A Tryz.func125 zf116.ps zf116.res n
abbrev zf82.ps:List Pm:=[.arg (.v (.slice (.int .i64)))]
abbrev zf82.res:List M:=[(.own (.int .i64) 3)]
noncomputable def zf82.C:Cfg:={ tb:=tb,tab:=fun n f=>Refl.look [] f,gl:=[],ar:=ar,bld:=bld,pts:=pts }
noncomputable def zf82.A:Ann:={ joins:=[],loops:=[],ids:=[],pids:=[],nroots:=70 }
noncomputable def zf82 (n:Nat) (x:List Int):Option (List Int):=evalF zf82.C zf82.A Tryz.f100 zf82.ps zf82.res n x
theorem zf82.eq (n:Nat) (x0:List Int):zf82 n x0=(if List.length (List.replicate (0:Nat) (0:Int))+List.length x0≤Go.Refl.maxN then some (List.replicate 0 0++x0) else none):=by kernel_rfl
noncomputable abbrev zf82.sg (n:Nat):Sig:=⟨zf82.ps,zf82.res,zf82 n⟩
theorem zf82.call:Callable Tryz.prog 100:=⟨Tryz.f100,Tryz.func100,by kernel_rfl,by kernel_rfl⟩
theorem zf82.ok (n:Nat):FC Tryz.prog [] 100 (zf82.sg n):=
  evalF_ok (C:=zf82.C) ⟨tb_ok,fun n _ _ h=>tabOk (l:=[]) (all_nil) h,mixed,ar_ok,bld_ok,pts_ok⟩ zf82.A Tryz.func100 zf82.ps zf82.res n
abbrev zf83.ps:List Pm:=[.arg (.v (.slice zt8))]
abbrev zf83.res:List M:=[(.own zt8 100)]
noncomputable def zf83.C:Cfg:={ tb:=tb,tab:=fun n f=>Refl.look [(100,{ params:=zf82.ps,res:=[.v (.slice (.int .i64))],run:=zf82 n })] f,gl:=[],ar:=ar,bld:=bld,pts:=pts }
noncomputable def zf83.A:Ann:={ joins:=[],loops:=[(3,{ live:=[0,3,4],base:=33 })],ids:=[(5,[(28,[]),(30,[])])],pids:=[],nroots:=97 }
noncomputable def zf83 (n:Nat) (x:List zt19):Option zt17:=evalF zf83.C zf83.A Tryz.f101 zf83.ps zf83.res n x
noncomputable def zf83.K0 (_:Nat):Kont zt17:=finK zf83.C (Func.results Tryz.f101).toList zf83.ps zf83.res
noncomputable def zf83.K1 (n:Nat):Kont zt17:=seqK (fun s' k=>joinE zf83.A.joins (codeAt Tryz.f101 [1,1,1]) (fun s''=>evalC zf83.C zf83.A n (codeAt Tryz.f101 [1,1,1]) s'' k) s') (zf83.K0 n)
noncomputable def zf83.K2 (n:Nat):Kont zt17:=blockK 0 (zf83.K1 n)
noncomputable def zf83.l3 (n m3:Nat) (x0:List zt19) (x4:Int) (r33:List zt19):Option zt17:=loopE (cutAt zf83.A.loops (codeAt Tryz.f101 [1,1,0,1,0,0])) (fun s k=>evalC zf83.C zf83.A n (codeAt Tryz.f101 [1,1,0,1,0,0]) s k) m3 (St.of 33 97 [(0,.val (.slice zt8) x0),(3,.own 33),(4,.val (.int .i64) x4)] [(33,.row zt8 100 r33)] []) (zf83.K2 n)
theorem zf83.eq (n:Nat) (x0:List zt19):zf83 n x0=zf83.l3 n n (x0) (0) (List.replicate 0 (0,0,[])):=by kernel_rfl
theorem zf83.l3_succ (n m3:Nat) (x0:List zt19) (x4:Int) (r33:List zt19):zf83.l3 n (m3+1) x0 x4 r33=(if x4<(↑(List.length x0):Int) then (if 0≤x4 then (if x4<(↑(List.length x0):Int) then (if 0≤x4 then (if x4<(↑(List.length x0):Int) then (if 0≤x4 then (if x4<(↑(List.length x0):Int) then ((zf82 n (Prod.snd (Prod.snd (List.getD x0 (Int.toNat x4) (0,0,[]))))).bind fun y0=>(if List.length r33+List.length (List.set (List.replicate (1:Nat) ((0:Int),(0:Int),[])) (0:Nat) (Prod.fst (List.getD x0 (Int.toNat x4) ((0:Int),(0:Int),[])),Prod.fst (Prod.snd (List.getD x0 (Int.toNat x4) ((0:Int),(0:Int),[]))),y0))≤Go.Refl.maxN then zf83.l3 n m3 (x0) (Go.RowKit.wrap64 (x4+1)) (r33++List.set (List.replicate 1 (0,0,[])) 0 (Prod.fst (List.getD x0 (Int.toNat x4) (0,0,[])),Prod.fst (Prod.snd (List.getD x0 (Int.toNat x4) (0,0,[]))),y0)) else none)) else none) else none) else none) else none) else none) else none) else some (r33)):=by kernel_rfl
noncomputable abbrev zf83.sg (n:Nat):Sig:=⟨zf83.ps,zf83.res,zf83 n⟩
theorem zf83.call:Callable Tryz.prog 101:=⟨Tryz.f101,Tryz.func101,by kernel_rfl,by kernel_rfl⟩
theorem zf83.ok (n:Nat):FC Tryz.prog [] 101 (zf83.sg n):=
  evalF_ok (C:=zf83.C) ⟨tb_ok,fun n _ _ h=>tabOk (l:=[(100,{ params:=zf82.ps,res:=[.v (.slice (.int .i64))],run:=zf82 n })]) (all_cons ⟨FC.weak (.cons (.own _ _) .nil) HEq.rfl (zf82.ok n),zf82.call⟩ (all_nil)) h,mixed,ar_ok,bld_ok,pts_ok⟩ zf83.A Tryz.func101 zf83.ps zf83.res n
abbrev zf81.ps:List Pm:=[.arg (.v zt0)]
abbrev zf81.res:List M:=[(.pr (.own (.int .i64) 3) (.pr (.own zt8 100) (.v zt13)))]
noncomputable def zf81.C:Cfg:={ tb:=tb,tab:=fun n f=>Refl.look [(100,(zf82.sg n)),(101,(zf83.sg n))] f,gl:=[],ar:=ar,bld:=bld,pts:=pts }
noncomputable def zf81.A:Ann:={ joins:=[],loops:=[],ids:=[],pids:=[],nroots:=78 }
noncomputable def zf81 (n:Nat) (x:List Int × List zt19 × Int × Int × Int):Option zt10:=evalF zf81.C zf81.A Tryz.f63 zf81.ps zf81.res n x
theorem zf81.eq (n:Nat) (x0:List Int × List zt19 × Int × Int × Int):zf81 n x0=((zf82 n x0.1).bind fun y0=>((zf83 n x0.2.1).bind fun y1=>some ((y0,y1,x0.2.2.1,x0.2.2.2.1,x0.2.2.2.2)))):=by kernel_rfl
noncomputable abbrev zf81.sg (n:Nat):Sig:=⟨zf81.ps,zf81.res,zf81 n⟩
theorem zf81.call:Callable Tryz.prog 63:=⟨Tryz.f63,Tryz.func63,by kernel_rfl,by kernel_rfl⟩
theorem zf81.ok (n:Nat):FC Tryz.prog [] 63 (zf81.sg n):=
  evalF_ok (C:=zf81.C) ⟨tb_ok,fun n _ _ h=>tabOk (l:=[(100,(zf82.sg n)),(101,(zf83.sg n))]) (all_cons ⟨zf82.ok n,zf82.call⟩ (all_cons ⟨zf83.ok n,zf83.call⟩ (all_nil))) h,mixed,ar_ok,bld_ok,pts_ok⟩ zf81.A Tryz.func63 zf81.ps zf81.res n
abbrev zf75.ps:List Pm:=[.arg (.v (.slice (.int .i64))),.arg (.v (.int .i64)),.arg (.v (.int .i64))]
abbrev zf75.res:List M:=[.v .bool]
noncomputable def zf75.C:Cfg:={ tb:=tb,tab:=fun n f=>Refl.look [(60,(zf90.sg n))] f,gl:=[],ar:=ar,bld:=bld,pts:=pts }
noncomputable def zf75.A:Ann:={ joins:=[],loops:=[(2,{ live:=[0,1,2,7],base:=22 })],ids:=[(4,[(20,[])])],pids:=[],nroots:=86 }
noncomputable def zf75 (n:Nat) (x:List Int × Int × Int):Option (Bool):=evalF zf75.C zf75.A Tryz.f97 zf75.ps zf75.res n x
noncomputable def zf75.K0 (_:Nat):Kont (Bool):=finK zf75.C (Func.results Tryz.f97).toList zf75.ps zf75.res
noncomputable def zf75.K1 (n:Nat):Kont (Bool):=seqK (fun s' k=>joinE zf75.A.joins (codeAt Tryz.f97 [1,1]) (fun s''=>evalC zf75.C zf75.A n (codeAt Tryz.f97 [1,1]) s'' k) s') (zf75.K0 n)
noncomputable def zf75.K2 (n:Nat):Kont (Bool):=blockK 0 (zf75.K1 n)
noncomputable def zf75.l2 (n m2:Nat) (x0:List Int) (x1 x2 x7:Int):Option (Bool):=loopE (cutAt zf75.A.loops (codeAt Tryz.f97 [1,0,1,0,0])) (fun s k=>evalC zf75.C zf75.A n (codeAt Tryz.f97 [1,0,1,0,0]) s k) m2 (St.of 22 86 [(0,.val (.slice (.int .i64)) x0),(1,.val (.int .i64) x1),(2,.val (.int .i64) x2),(7,.val (.int .i64) x7)] [] []) (zf75.K2 n)
theorem zf75.eq (n:Nat) (x0:List Int) (x1 x2:Int):zf75 n (x0,x1,x2)=zf75.l2 n n (x0) (x1) (x2) (0):=by kernel_rfl
theorem zf75.l2_succ (n m2:Nat) (x0:List Int) (x1 x2 x7:Int):zf75.l2 n (m2+1) x0 x1 x2 x7=(if x7<(↑(List.length x0):Int) then (if 0≤x7 then (if x7<(↑(List.length x0):Int) then ((zf90 n (List.getD x0 (Int.toNat x7) 0,x1,x2)).bind fun y0=>(if (!y0)=true then some (Bool.false) else zf75.l2 n m2 (x0) (x1) (x2) (Go.RowKit.wrap64 (x7+1)))) else none) else none) else some (Bool.true)):=by kernel_rfl
noncomputable abbrev zf75.sg (n:Nat):Sig:=⟨zf75.ps,zf75.res,zf75 n⟩
theorem zf75.call:Callable Tryz.prog 97:=⟨Tryz.f97,Tryz.func97,by kernel_rfl,by kernel_rfl⟩
theorem zf75.ok (n:Nat):FC Tryz.prog [] 97 (zf75.sg n):=
  evalF_ok (C:=zf75.C) ⟨tb_ok,fun n _ _ h=>tabOk (l:=[(60,(zf90.sg n))]) (all_cons ⟨zf90.ok n,zf90.call⟩ (all_nil)) h,mixed,ar_ok,bld_ok,pts_ok⟩ zf75.A Tryz.func97 zf75.ps zf75.res n
abbrev zf126.ps:List Pm:=[.arg (.v (.slice (.int .i64)))]
abbrev zf126.res:List M:=[.v .bool]
noncomputable def zf126.C:Cfg:={ tb:=tb,tab:=fun n f=>Refl.look [(60,(zf90.sg n)),(97,(zf75.sg n))] f,gl:=[],ar:=ar,bld:=bld,pts:=pts }
noncomputable def zf126.A:Ann:={ joins:=[],loops:=[],ids:=[(1,[(5,[]),(8,[])])],pids:=[],nroots:=74 }
noncomputable def zf126 (n:Nat) (x:List Int):Option (Bool):=evalF zf126.C zf126.A Tryz.f57 zf126.ps zf126.res n x
theorem zf126.eq (n:Nat) (x0:List Int):zf126 n x0=((zf90 n ((↑(List.length x0):Int),1,12)).bind fun y0=>(if y0=Bool.true then ((zf75 n (x0,0,100000)).bind fun y1=>some (y1)) else some (Bool.false))):=by kernel_rfl
noncomputable abbrev zf126.sg (n:Nat):Sig:=⟨zf126.ps,zf126.res,zf126 n⟩
theorem zf126.call:Callable Tryz.prog 57:=⟨Tryz.f57,Tryz.func57,by kernel_rfl,by kernel_rfl⟩
theorem zf126.ok (n:Nat):FC Tryz.prog [] 57 (zf126.sg n):=
  evalF_ok (C:=zf126.C) ⟨tb_ok,fun n _ _ h=>tabOk (l:=[(60,(zf90.sg n)),(97,(zf75.sg n))]) (all_cons ⟨zf90.ok n,zf90.call⟩ (all_cons ⟨zf75.ok n,zf75.call⟩ (all_nil))) h,mixed,ar_ok,bld_ok,pts_ok⟩ zf126.A Tryz.func57 zf126.ps zf126.res n
abbrev zf118.ps:List Pm:=[.arg (.v (.int .i64)),.arg (.v (.int .i64))]
abbrev zf118.res:List M:=[(.own (.int .i64) 3)]
noncomputable def zf118.C:Cfg:={ tb:=tb,tab:=fun n f=>Refl.look [] f,gl:=[],ar:=ar,bld:=bld,pts:=pts }
noncomputable def zf118.A:Ann:={ joins:=[],loops:=[(3,{ live:=[0,1,5,6],base:=29 })],ids:=[(8,[(26,[])])],pids:=[],nroots:=93 }
noncomputable def zf118 (n:Nat) (x:Int × Int):Option (List Int):=evalF zf118.C zf118.A Tryz.f133 zf118.ps zf118.res n x
noncomputable def zf118.K0 (_:Nat):Kont (List Int):=finK zf118.C (Func.results Tryz.f133).toList zf118.ps zf118.res
noncomputable def zf118.K1 (n:Nat):Kont (List Int):=seqK (fun s' k=>joinE zf118.A.joins (codeAt Tryz.f133 [1,1,1]) (fun s''=>evalC zf118.C zf118.A n (codeAt Tryz.f133 [1,1,1]) s'' k) s') (zf118.K0 n)
noncomputable def zf118.K2 (n:Nat):Kont (List Int):=blockK 0 (zf118.K1 n)
noncomputable def zf118.l3 (n m3:Nat) (x0 x1 x6:Int) (r29:List Int):Option (List Int):=loopE (cutAt zf118.A.loops (codeAt Tryz.f133 [1,1,0,1,0,0])) (fun s k=>evalC zf118.C zf118.A n (codeAt Tryz.f133 [1,1,0,1,0,0]) s k) m3 (St.of 29 93 [(0,.val (.int .i64) x0),(1,.val (.int .i64) x1),(5,.own 29),(6,.val (.int .i64) x6)] [(29,.row (.int .i64) 3 r29)] []) (zf118.K2 n)
theorem zf118.eq (n:Nat) (x0 x1:Int):zf118 n (x0,x1)=zf118.l3 n n (x0) (x1) (0) (List.replicate 0 0):=by kernel_rfl
theorem zf118.l3_succ (n m3:Nat) (x0 x1 x6:Int) (r29:List Int):zf118.l3 n (m3+1) x0 x1 x6 r29=(if x6<x1 then (if x1=0 then none else (if x1=0 then none else (if x6<Int.tmod x0 x1 then (if List.length r29+List.length (List.set (List.replicate (1:Nat) (0:Int)) (0:Nat) (Go.RowKit.wrap64 (Go.RowKit.wrap64 (Int.tdiv x0 x1)+(1:Int))))≤Go.Refl.maxN then zf118.l3 n m3 (x0) (x1) (Go.RowKit.wrap64 (x6+1)) (r29++List.set (List.replicate 1 0) 0 (Go.RowKit.wrap64 (Go.RowKit.wrap64 (Int.tdiv x0 x1)+1))) else none) else (if List.length r29+List.length (List.set (List.replicate (1:Nat) (0:Int)) (0:Nat) (Go.RowKit.wrap64 (Int.tdiv x0 x1)))≤Go.Refl.maxN then zf118.l3 n m3 (x0) (x1) (Go.RowKit.wrap64 (x6+1)) (r29++List.set (List.replicate 1 0) 0 (Go.RowKit.wrap64 (Int.tdiv x0 x1))) else none)))) else some (r29)):=by kernel_rfl
noncomputable abbrev zf118.sg (n:Nat):Sig:=⟨zf118.ps,zf118.res,zf118 n⟩
theorem zf118.call:Callable Tryz.prog 133:=⟨Tryz.f133,Tryz.func133,by kernel_rfl,by kernel_rfl⟩
theorem zf118.ok (n:Nat):FC Tryz.prog [] 133 (zf118.sg n):=
  evalF_ok (C:=zf118.C) ⟨tb_ok,fun n _ _ h=>tabOk (l:=[]) (all_nil) h,mixed,ar_ok,bld_ok,pts_ok⟩ zf118.A Tryz.func133 zf118.ps zf118.res n
end Go.Proofs.YtbgamdkmlikgjaaGreatDoorG
end
