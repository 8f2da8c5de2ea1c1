import Derived.Test.YtbgamdkmlikgjaaGreatDoorProg
import Derived.Test.YtbgamdkmlikgjaaGreatDoorB2
/- FnExactRunDesk: functions,gone through by the small machine. No condition. -/
set_option linter.unusedVariables false
set_option linter.unusedSimpArgs false
section
set_option linter.unusedVariables false
namespace Go.Proofs
open Go Go.Shelf Go.RowKit Go.Refl
set_option maxHeartbeats 2000000 in
set_option maxRecDepth 100000 in
theorem Tryz.cc:CcOk Tryz.prog 53 58:=by
 intro b p v w hbk hp
 have X1:(Tryz.prog.info? 58).map (·.size)=some 2:=by kernel_rfl
 have X2:liesAt Tryz.prog Tryz.prog.depth 58 (2 / Tryz.prog.cellsOf 58) 0 58 1=true:=by kernel_rfl
 obtain ⟨j,hj,hjs⟩:=Option.map_eq_some_iff.1 X1
 have u72:=run_underlying (P:=Tryz.prog) Tryz.underlying58
 have u70:=run_underlying (P:=Tryz.prog) Tryz.underlying56
 have u164:=run_underlying (P:=Tryz.prog) Tryz.underlying116
 rcases hp with rfl | rfl
 ·have h0:w.cell? ⟨b,0,none⟩=some (.pointer none):=by rw[Lib.cell_of_heap hbk];rfl
  have hsh:w.shape? b=some (58,2):=by simp[World.shape?,hbk]
  have hfz:w.frozen? ⟨b,0,none⟩=false:=Lib.frozen_of_heap hbk 0
  suffices hs:Calls Tryz.prog 53 #[.pointer (some ⟨b,0,none⟩)] w fun e w'=>e=.returned (.tuple #[])∧w'=w.setCell ⟨b,0,none⟩ (.pointer (some ⟨b,0,none⟩)) by
   refine hs.mono ?_
   rintro e w' ⟨rfl,rfl⟩
   exact ⟨rfl,by simp[World.setCell,Array.getElem?_modify,hbk],evol_set w b 0 _,by simp[World.setCell]⟩
  go_enter Tryz.func53,Tryz.ntmps53
  go_wp2
  rw[Lib.run_to_unsafe w ⟨b,0,none⟩ Tryz.underlying56 Tryz.underlying116 hj (by rw[hjs];decide) hsh (Nat.zero_lt_succ 1)]
  simp only[Result.andThen]
  rw[Oper.upon_value]
  go_wp2
  rw[run_callFunc_extern Tryz.func90 (by kernel_rfl) (by kernel_rfl) (by kernel_rfl) (e:=Extern.AbiNoEscape.same) (by kernel_rfl)]
  rw[Lib.run_noEscape]
  simp only[Result.andThen]
  rw[Oper.upon_value]
  go_wp2
  rw[Lib.run_from_unsafe w ⟨b,0,none⟩ Tryz.underlying116 Tryz.underlying56 hj hsh X2]
  simp only[Result.andThen]
  rw[Oper.upon_value]
  go_wp2
  go_end0
  exact ⟨rfl,rfl⟩
 ·have h0:w.cell? ⟨b,0,none⟩=some (.pointer (some ⟨b,0,none⟩)):=by rw[Lib.cell_of_heap hbk];rfl
  suffices hs:Calls Tryz.prog 53 #[.pointer (some ⟨b,0,none⟩)] w fun e w'=>e=.returned (.tuple #[])∧w'=w by
   refine hs.mono ?_
   rintro e w' ⟨rfl,rfl⟩
   exact ⟨rfl,hbk,⟨rfl,rfl,rfl,Nat.le_refl _,fun _ _ _=>rfl⟩,rfl⟩
  go_enter Tryz.func53,Tryz.ntmps53
  go_wp2
  rw[Lib.run_neq_ptr_same w _ Tryz.underlying56 hj]
  go_wp2
  go_end0
  exact ⟨rfl,rfl⟩
def Tryz.lays169_ren:Go.Shelf.Ren:=⟨fun | 169=>27 | n=>n,fun | 70=>56 | 9=>9 | 0=>0 | 72=>58 | 37=>22 | 127=>94 | 3=>3 | 5=>5 | n=>n,fun | n=>n⟩
theorem Tryz.lays169:Go.Proofs.Lays.n169 Tryz.prog Tryz.lays169_ren:={
 mixed:=by kernel_rfl
 f169:=Tryz.func27.trans (congrArg some (by kernel_rfl))
 t0:=Tryz.underlying0
 a0:=Tryz.isAgg0
 z0:=Tryz.sizeOf0
 v0:=Tryz.zeroValue0
 t3:=Tryz.underlying3
 a3:=Tryz.isAgg3
 z3:=Tryz.sizeOf3
 v3:=Tryz.zeroValue3
 t9:=Tryz.underlying9
 a9:=Tryz.isAgg9
 z9:=Tryz.sizeOf9
 v9:=Tryz.zeroValue9
 t37:=Tryz.underlying22
 a37:=Tryz.isAgg22
 z37:=Tryz.sizeOf22
 v37:=Tryz.zeroValue22
 t70:=Tryz.underlying56
 a70:=Tryz.isAgg56
 z70:=Tryz.sizeOf56
 v70:=Tryz.zeroValue56
 t72:=Tryz.underlying58
 a72:=Tryz.isAgg58
 z72:=Tryz.sizeOf58
 v72:=Tryz.zeroValue58
 t127:=Tryz.underlying94
 a127:=Tryz.isAgg94
 z127:=Tryz.sizeOf94
 v127:=Tryz.zeroValue94 }
theorem Tryz.Builder_Extra_169:Builder.Extra Tryz.prog Tryz.lays169_ren:={
 sizeBuilder:=by kernel_rfl
 liesBuilder:=by kernel_rfl
 t5:=Tryz.underlying5
 a5:=Tryz.isAgg5
 z5:=Tryz.sizeOf5
 v5:=Tryz.zeroValue5
 infoByte:=by kernel_rfl
 cellsByte:=by kernel_rfl
 sizeByte:=by kernel_rfl
 neB5:=by decide }
def Tryz.laysM171_ren:Go.Shelf.Ren:=⟨fun | 171=>42 | 243=>83 | 246=>123 | 283=>152 | 284=>153 | 285=>154 | 286=>155 | 129=>173 | 317=>172 | 318=>174 | 319=>175 | 320=>176 | 337=>185 | 338=>186 | n=>n,fun | 3=>3 | 9=>9 | 2=>2 | 4=>4 | 171=>153 | 0=>0 | 53=>154 | 37=>22 | 5=>5 | 173=>157 | 212=>175 | 51=>169 | 20=>20 | 213=>176 | 46=>150 | 232=>196 | 233=>197 | n=>n,fun | 17=>2 | 18=>7 | 19=>8 | n=>n⟩
theorem Tryz.laysM171:Go.Proofs.LaysM.n171 Tryz.prog Tryz.laysM171_ren:={
 mixed:=by kernel_rfl
 f129:=Tryz.func173.trans (congrArg some (by kernel_rfl))
 f171:=Tryz.func42.trans (congrArg some (by kernel_rfl))
 f243:=Tryz.func83.trans (congrArg some (by kernel_rfl))
 f246:=Tryz.func123.trans (congrArg some (by kernel_rfl))
 f283:=Tryz.func152.trans (congrArg some (by kernel_rfl))
 f284:=Tryz.func153.trans (congrArg some (by kernel_rfl))
 f285:=Tryz.func154.trans (congrArg some (by kernel_rfl))
 f286:=Tryz.func155.trans (congrArg some (by kernel_rfl))
 f317:=Tryz.func172.trans (congrArg some (by kernel_rfl))
 f318:=Tryz.func174.trans (congrArg some (by kernel_rfl))
 f319:=Tryz.func175.trans (congrArg some (by kernel_rfl))
 f320:=Tryz.func176.trans (congrArg some (by kernel_rfl))
 f337:=Tryz.func185.trans (congrArg some (by kernel_rfl))
 f338:=Tryz.func186.trans (congrArg some (by kernel_rfl))
 t0:=Tryz.underlying0
 a0:=Tryz.isAgg0
 z0:=Tryz.sizeOf0
 v0:=Tryz.zeroValue0
 t2:=Tryz.underlying2
 a2:=Tryz.isAgg2
 z2:=Tryz.sizeOf2
 v2:=Tryz.zeroValue2
 t3:=Tryz.underlying3
 a3:=Tryz.isAgg3
 z3:=Tryz.sizeOf3
 v3:=Tryz.zeroValue3
 t4:=Tryz.underlying4
 a4:=Tryz.isAgg4
 z4:=Tryz.sizeOf4
 v4:=Tryz.zeroValue4
 t5:=Tryz.underlying5
 a5:=Tryz.isAgg5
 z5:=Tryz.sizeOf5
 v5:=Tryz.zeroValue5
 t9:=Tryz.underlying9
 a9:=Tryz.isAgg9
 z9:=Tryz.sizeOf9
 v9:=Tryz.zeroValue9
 t20:=Tryz.underlying20
 a20:=Tryz.isAgg20
 z20:=Tryz.sizeOf20
 v20:=Tryz.zeroValue20
 t37:=Tryz.underlying22
 a37:=Tryz.isAgg22
 z37:=Tryz.sizeOf22
 v37:=Tryz.zeroValue22
 t46:=Tryz.underlying150
 a46:=Tryz.isAgg150
 z46:=Tryz.sizeOf150
 v46:=Tryz.zeroValue150
 t51:=Tryz.underlying169
 a51:=Tryz.isAgg169
 z51:=Tryz.sizeOf169
 v51:=Tryz.zeroValue169
 t53:=Tryz.underlying154
 a53:=Tryz.isAgg154
 z53:=Tryz.sizeOf154
 v53:=Tryz.zeroValue154
 t171:=Tryz.underlying153
 a171:=Tryz.isAgg153
 z171:=Tryz.sizeOf153
 v171:=Tryz.zeroValue153
 t173:=Tryz.underlying157
 a173:=Tryz.isAgg157
 z173:=Tryz.sizeOf157
 v173:=Tryz.zeroValue157
 t212:=Tryz.underlying175
 a212:=Tryz.isAgg175
 z212:=Tryz.sizeOf175
 v212:=Tryz.zeroValue175
 t213:=Tryz.underlying176
 a213:=Tryz.isAgg176
 z213:=Tryz.sizeOf176
 t232:=Tryz.underlying196
 a232:=Tryz.isAgg196
 z232:=Tryz.sizeOf196
 v232:=Tryz.zeroValue196
 t233:=Tryz.underlying197
 a233:=Tryz.isAgg197
 z233:=Tryz.sizeOf197
 v233:=Tryz.zeroValue197
 g17:=by kernel_rfl
 g18:=by kernel_rfl
 g19:=by kernel_rfl
 i0:=by kernel_rfl
 i2:=by kernel_rfl
 i3:=by kernel_rfl
 i4:=by kernel_rfl
 i5:=by kernel_rfl
 i9:=by kernel_rfl
 i20:=by kernel_rfl
 i37:=by kernel_rfl
 i46:=by kernel_rfl
 i51:=by kernel_rfl
 i53:=by kernel_rfl
 i171:=by kernel_rfl
 i173:=by kernel_rfl
 i212:=by kernel_rfl
 i232:=by kernel_rfl
 i233:=by kernel_rfl
 m17:=by kernel_rfl
 m18:=by kernel_rfl
 m19:=by kernel_rfl }
def Tryz.lays143_ren:Go.Shelf.Ren:=⟨fun | 143=>149 | 219=>117 | 217=>143 | 225=>144 | 224=>145 | 267=>146 | 266=>167 | 314=>168 | n=>n,fun | 9=>9 | 3=>3 | 4=>4 | 5=>5 | 46=>150 | 146=>170 | 51=>169 | n=>n,fun | 1=>1 | n=>n⟩
theorem Tryz.lays143:Go.Proofs.Lays.n143 Tryz.prog Tryz.lays143_ren:={
 mixed:=by kernel_rfl
 f143:=Tryz.func149.trans (congrArg some (by kernel_rfl))
 f217:=Tryz.func143.trans (congrArg some (by kernel_rfl))
 f219:=Tryz.func117.trans (congrArg some (by kernel_rfl))
 f224:=Tryz.func145.trans (congrArg some (by kernel_rfl))
 f225:=Tryz.func144.trans (congrArg some (by kernel_rfl))
 f266:=Tryz.func167.trans (congrArg some (by kernel_rfl))
 f267:=Tryz.func146.trans (congrArg some (by kernel_rfl))
 f314:=Tryz.func168.trans (congrArg some (by kernel_rfl))
 t3:=Tryz.underlying3
 a3:=Tryz.isAgg3
 z3:=Tryz.sizeOf3
 v3:=Tryz.zeroValue3
 t4:=Tryz.underlying4
 a4:=Tryz.isAgg4
 z4:=Tryz.sizeOf4
 v4:=Tryz.zeroValue4
 t5:=Tryz.underlying5
 a5:=Tryz.isAgg5
 z5:=Tryz.sizeOf5
 v5:=Tryz.zeroValue5
 t9:=Tryz.underlying9
 a9:=Tryz.isAgg9
 z9:=Tryz.sizeOf9
 v9:=Tryz.zeroValue9
 t46:=Tryz.underlying150
 a46:=Tryz.isAgg150
 z46:=Tryz.sizeOf150
 v46:=Tryz.zeroValue150
 t51:=Tryz.underlying169
 a51:=Tryz.isAgg169
 z51:=Tryz.sizeOf169
 v51:=Tryz.zeroValue169
 t146:=Tryz.underlying170
 a146:=Tryz.isAgg170
 z146:=Tryz.sizeOf170
 v146:=Tryz.zeroValue170
 g1:=by kernel_rfl }
def Tryz.lays219_ren:Go.Shelf.Ren:=⟨fun | 219=>117 | 217=>143 | 225=>144 | 224=>145 | 267=>146 | 266=>167 | 314=>168 | n=>n,fun | 9=>9 | 3=>3 | 4=>4 | 5=>5 | 46=>150 | 146=>170 | 51=>169 | n=>n,fun | 1=>1 | n=>n⟩
theorem Tryz.lays219:Go.Proofs.Lays.n219 Tryz.prog Tryz.lays219_ren:={
 mixed:=by kernel_rfl
 f217:=Tryz.func143.trans (congrArg some (by kernel_rfl))
 f219:=Tryz.func117.trans (congrArg some (by kernel_rfl))
 f224:=Tryz.func145.trans (congrArg some (by kernel_rfl))
 f225:=Tryz.func144.trans (congrArg some (by kernel_rfl))
 f266:=Tryz.func167.trans (congrArg some (by kernel_rfl))
 f267:=Tryz.func146.trans (congrArg some (by kernel_rfl))
 f314:=Tryz.func168.trans (congrArg some (by kernel_rfl))
 t3:=Tryz.underlying3
 a3:=Tryz.isAgg3
 z3:=Tryz.sizeOf3
 v3:=Tryz.zeroValue3
 t4:=Tryz.underlying4
 a4:=Tryz.isAgg4
 z4:=Tryz.sizeOf4
 v4:=Tryz.zeroValue4
 t5:=Tryz.underlying5
 a5:=Tryz.isAgg5
 z5:=Tryz.sizeOf5
 v5:=Tryz.zeroValue5
 t9:=Tryz.underlying9
 a9:=Tryz.isAgg9
 z9:=Tryz.sizeOf9
 v9:=Tryz.zeroValue9
 t46:=Tryz.underlying150
 a46:=Tryz.isAgg150
 z46:=Tryz.sizeOf150
 v46:=Tryz.zeroValue150
 t51:=Tryz.underlying169
 a51:=Tryz.isAgg169
 z51:=Tryz.sizeOf169
 v51:=Tryz.zeroValue169
 t146:=Tryz.underlying170
 a146:=Tryz.isAgg170
 z146:=Tryz.sizeOf170
 v146:=Tryz.zeroValue170
 g1:=by kernel_rfl }
def Tryz.lays138_ren:Go.Shelf.Ren:=⟨fun | 138=>148 | 195=>169 | 218=>171 | 143=>149 | 219=>117 | 217=>143 | 225=>144 | 224=>145 | 267=>146 | 266=>167 | 314=>168 | n=>n,fun | 9=>9 | 3=>3 | 4=>4 | 5=>5 | 0=>0 | 46=>150 | 146=>170 | 51=>169 | n=>n,fun | 1=>1 | n=>n⟩
theorem Tryz.lays138:Go.Proofs.Lays.n138 Tryz.prog Tryz.lays138_ren:={
 mixed:=by kernel_rfl
 f138:=Tryz.func148.trans (congrArg some (by kernel_rfl))
 f143:=Tryz.func149.trans (congrArg some (by kernel_rfl))
 f195:=Tryz.func169.trans (congrArg some (by kernel_rfl))
 f217:=Tryz.func143.trans (congrArg some (by kernel_rfl))
 f218:=Tryz.func171.trans (congrArg some (by kernel_rfl))
 f219:=Tryz.func117.trans (congrArg some (by kernel_rfl))
 f224:=Tryz.func145.trans (congrArg some (by kernel_rfl))
 f225:=Tryz.func144.trans (congrArg some (by kernel_rfl))
 f266:=Tryz.func167.trans (congrArg some (by kernel_rfl))
 f267:=Tryz.func146.trans (congrArg some (by kernel_rfl))
 f314:=Tryz.func168.trans (congrArg some (by kernel_rfl))
 t0:=Tryz.underlying0
 a0:=Tryz.isAgg0
 z0:=Tryz.sizeOf0
 v0:=Tryz.zeroValue0
 t3:=Tryz.underlying3
 a3:=Tryz.isAgg3
 z3:=Tryz.sizeOf3
 v3:=Tryz.zeroValue3
 t4:=Tryz.underlying4
 a4:=Tryz.isAgg4
 z4:=Tryz.sizeOf4
 v4:=Tryz.zeroValue4
 t5:=Tryz.underlying5
 a5:=Tryz.isAgg5
 z5:=Tryz.sizeOf5
 v5:=Tryz.zeroValue5
 t9:=Tryz.underlying9
 a9:=Tryz.isAgg9
 z9:=Tryz.sizeOf9
 v9:=Tryz.zeroValue9
 t46:=Tryz.underlying150
 a46:=Tryz.isAgg150
 z46:=Tryz.sizeOf150
 v46:=Tryz.zeroValue150
 t51:=Tryz.underlying169
 a51:=Tryz.isAgg169
 z51:=Tryz.sizeOf169
 v51:=Tryz.zeroValue169
 t146:=Tryz.underlying170
 a146:=Tryz.isAgg170
 z146:=Tryz.sizeOf170
 v146:=Tryz.zeroValue170
 g1:=by kernel_rfl }
def Tryz.laysC172_ren:Go.Shelf.Ren:=⟨fun | 172=>128 | 244=>157 | 245=>158 | 247=>177 | 279=>178 | 280=>179 | 281=>180 | 282=>181 | 287=>187 | 316=>188 | 171=>42 | 205=>189 | 321=>191 | 322=>192 | 243=>83 | 246=>123 | 283=>152 | 284=>153 | 285=>154 | 286=>155 | 129=>173 | 317=>172 | 318=>174 | 319=>175 | 320=>176 | 337=>185 | 338=>186 | n=>n,fun | 9=>9 | 3=>3 | 75=>60 | 76=>61 | 4=>4 | 5=>5 | 167=>178 | 37=>22 | 0=>0 | 85=>179 | 2=>2 | 168=>181 | 53=>154 | 175=>186 | 46=>150 | 210=>190 | 127=>94 | 145=>201 | 143=>199 | 21=>21 | 171=>153 | 173=>157 | 212=>175 | 51=>169 | 20=>20 | 213=>176 | 232=>196 | 233=>197 | 80=>64 | n=>n,fun | 15=>3 | 16=>4 | 17=>2 | 18=>7 | 19=>8 | n=>n⟩
theorem Tryz.laysC172:Go.Proofs.LaysC.n172 Tryz.prog Tryz.laysC172_ren:={
 mixed:=by kernel_rfl
 f129:=Tryz.func173.trans (congrArg some (by kernel_rfl))
 f171:=Tryz.func42.trans (congrArg some (by kernel_rfl))
 f172:=Tryz.func128.trans (congrArg some (by kernel_rfl))
 f205:=Tryz.func189.trans (congrArg some (by kernel_rfl))
 f243:=Tryz.func83.trans (congrArg some (by kernel_rfl))
 f244:=Tryz.func157.trans (congrArg some (by kernel_rfl))
 f245:=Tryz.func158.trans (congrArg some (by kernel_rfl))
 f246:=Tryz.func123.trans (congrArg some (by kernel_rfl))
 f247:=Tryz.func177.trans (congrArg some (by kernel_rfl))
 f279:=Tryz.func178.trans (congrArg some (by kernel_rfl))
 f280:=Tryz.func179.trans (congrArg some (by kernel_rfl))
 f281:=Tryz.func180.trans (congrArg some (by kernel_rfl))
 f282:=Tryz.func181.trans (congrArg some (by kernel_rfl))
 f283:=Tryz.func152.trans (congrArg some (by kernel_rfl))
 f284:=Tryz.func153.trans (congrArg some (by kernel_rfl))
 f285:=Tryz.func154.trans (congrArg some (by kernel_rfl))
 f286:=Tryz.func155.trans (congrArg some (by kernel_rfl))
 f287:=Tryz.func187.trans (congrArg some (by kernel_rfl))
 f316:=Tryz.func188.trans (congrArg some (by kernel_rfl))
 f317:=Tryz.func172.trans (congrArg some (by kernel_rfl))
 f318:=Tryz.func174.trans (congrArg some (by kernel_rfl))
 f319:=Tryz.func175.trans (congrArg some (by kernel_rfl))
 f320:=Tryz.func176.trans (congrArg some (by kernel_rfl))
 f321:=Tryz.func191.trans (congrArg some (by kernel_rfl))
 f322:=Tryz.func192.trans (congrArg some (by kernel_rfl))
 f337:=Tryz.func185.trans (congrArg some (by kernel_rfl))
 f338:=Tryz.func186.trans (congrArg some (by kernel_rfl))
 t0:=Tryz.underlying0
 a0:=Tryz.isAgg0
 z0:=Tryz.sizeOf0
 v0:=Tryz.zeroValue0
 t2:=Tryz.underlying2
 a2:=Tryz.isAgg2
 z2:=Tryz.sizeOf2
 v2:=Tryz.zeroValue2
 t3:=Tryz.underlying3
 a3:=Tryz.isAgg3
 z3:=Tryz.sizeOf3
 v3:=Tryz.zeroValue3
 t4:=Tryz.underlying4
 a4:=Tryz.isAgg4
 z4:=Tryz.sizeOf4
 v4:=Tryz.zeroValue4
 t5:=Tryz.underlying5
 a5:=Tryz.isAgg5
 z5:=Tryz.sizeOf5
 v5:=Tryz.zeroValue5
 t9:=Tryz.underlying9
 a9:=Tryz.isAgg9
 z9:=Tryz.sizeOf9
 v9:=Tryz.zeroValue9
 t20:=Tryz.underlying20
 a20:=Tryz.isAgg20
 z20:=Tryz.sizeOf20
 v20:=Tryz.zeroValue20
 t21:=Tryz.underlying21
 a21:=Tryz.isAgg21
 z21:=Tryz.sizeOf21
 v21:=Tryz.zeroValue21
 t37:=Tryz.underlying22
 a37:=Tryz.isAgg22
 z37:=Tryz.sizeOf22
 v37:=Tryz.zeroValue22
 t46:=Tryz.underlying150
 a46:=Tryz.isAgg150
 z46:=Tryz.sizeOf150
 v46:=Tryz.zeroValue150
 t51:=Tryz.underlying169
 a51:=Tryz.isAgg169
 z51:=Tryz.sizeOf169
 v51:=Tryz.zeroValue169
 t53:=Tryz.underlying154
 a53:=Tryz.isAgg154
 z53:=Tryz.sizeOf154
 v53:=Tryz.zeroValue154
 t75:=Tryz.underlying60
 a75:=Tryz.isAgg60
 z75:=Tryz.sizeOf60
 v75:=Tryz.zeroValue60
 t76:=Tryz.underlying61
 a76:=Tryz.isAgg61
 z76:=Tryz.sizeOf61
 v76:=Tryz.zeroValue61
 t85:=Tryz.underlying179
 a85:=Tryz.isAgg179
 z85:=Tryz.sizeOf179
 v85:=Tryz.zeroValue179
 t127:=Tryz.underlying94
 a127:=Tryz.isAgg94
 z127:=Tryz.sizeOf94
 v127:=Tryz.zeroValue94
 t143:=Tryz.underlying199
 a143:=Tryz.isAgg199
 z143:=Tryz.sizeOf199
 v143:=Tryz.zeroValue199
 t145:=Tryz.underlying201
 a145:=Tryz.isAgg201
 z145:=Tryz.sizeOf201
 v145:=Tryz.zeroValue201
 t167:=Tryz.underlying178
 a167:=Tryz.isAgg178
 z167:=Tryz.sizeOf178
 v167:=Tryz.zeroValue178
 t168:=Tryz.underlying181
 a168:=Tryz.isAgg181
 z168:=Tryz.sizeOf181
 v168:=Tryz.zeroValue181
 t171:=Tryz.underlying153
 a171:=Tryz.isAgg153
 z171:=Tryz.sizeOf153
 v171:=Tryz.zeroValue153
 t173:=Tryz.underlying157
 a173:=Tryz.isAgg157
 z173:=Tryz.sizeOf157
 v173:=Tryz.zeroValue157
 t175:=Tryz.underlying186
 a175:=Tryz.isAgg186
 z175:=Tryz.sizeOf186
 v175:=Tryz.zeroValue186
 t210:=Tryz.underlying190
 a210:=Tryz.isAgg190
 z210:=Tryz.sizeOf190
 v210:=Tryz.zeroValue190
 t212:=Tryz.underlying175
 a212:=Tryz.isAgg175
 z212:=Tryz.sizeOf175
 v212:=Tryz.zeroValue175
 t213:=Tryz.underlying176
 a213:=Tryz.isAgg176
 z213:=Tryz.sizeOf176
 t232:=Tryz.underlying196
 a232:=Tryz.isAgg196
 z232:=Tryz.sizeOf196
 v232:=Tryz.zeroValue196
 t233:=Tryz.underlying197
 a233:=Tryz.isAgg197
 z233:=Tryz.sizeOf197
 v233:=Tryz.zeroValue197
 g15:=by kernel_rfl
 g16:=by kernel_rfl
 g17:=by kernel_rfl
 g18:=by kernel_rfl
 g19:=by kernel_rfl
 t80:=Tryz.underlying64
 a80:=Tryz.isAgg64
 z80:=Tryz.sizeOf64
 v80:=Tryz.zeroValue64
 i0:=by kernel_rfl
 i2:=by kernel_rfl
 i3:=by kernel_rfl
 i4:=by kernel_rfl
 i5:=by kernel_rfl
 i9:=by kernel_rfl
 i20:=by kernel_rfl
 i21:=by kernel_rfl
 i37:=by kernel_rfl
 i46:=by kernel_rfl
 i51:=by kernel_rfl
 i53:=by kernel_rfl
 i75:=by kernel_rfl
 i76:=by kernel_rfl
 i80:=by kernel_rfl
 i85:=by kernel_rfl
 i127:=by kernel_rfl
 i143:=by kernel_rfl
 i145:=by kernel_rfl
 i167:=by kernel_rfl
 i168:=by kernel_rfl
 i171:=by kernel_rfl
 i173:=by kernel_rfl
 i175:=by kernel_rfl
 i210:=by kernel_rfl
 i212:=by kernel_rfl
 i232:=by kernel_rfl
 i233:=by kernel_rfl
 m15:=by kernel_rfl
 m16:=by kernel_rfl
 m17:=by kernel_rfl
 m18:=by kernel_rfl
 m19:=by kernel_rfl
 c0:=by kernel_rfl
 c2:=by kernel_rfl
 c3:=by kernel_rfl
 c4:=by kernel_rfl
 c5:=by kernel_rfl
 c9:=by kernel_rfl
 c20:=by kernel_rfl
 c21:=by kernel_rfl
 c37:=by kernel_rfl
 c46:=by kernel_rfl
 c51:=by kernel_rfl
 c53:=by kernel_rfl
 c75:=by kernel_rfl
 c76:=by kernel_rfl
 c80:=by kernel_rfl
 c85:=by kernel_rfl
 c127:=by kernel_rfl
 c143:=by kernel_rfl
 c145:=by kernel_rfl
 c167:=by kernel_rfl
 c168:=by kernel_rfl
 c171:=by kernel_rfl
 c173:=by kernel_rfl
 c175:=by kernel_rfl
 c210:=by kernel_rfl
 c212:=by kernel_rfl
 c213:=by kernel_rfl
 c232:=by kernel_rfl
 c233:=by kernel_rfl }
def Tryz.ws_ren:Go.Shelf.Ren:=⟨fun | 166=>25 | 240=>53 | n=>n,fun | 70=>56 | 9=>9 | 0=>0 | 72=>58 | 37=>22 | 127=>94 | 3=>3 | 5=>5 | 75=>60 | n=>n,fun | n=>n⟩
theorem Tryz.wsL:WsL Tryz.prog Tryz.ws_ren:={
 mixed:=by kernel_rfl
 f166:=Tryz.func25.trans (congrArg some (by kernel_rfl))
 e240:=enters_of Tryz.func53 (by kernel_rfl) rfl
 cc:=Tryz.cc
 t0:=Tryz.underlying0
 a0:=Tryz.isAgg0
 z0:=Tryz.sizeOf0
 v0:=Tryz.zeroValue0
 t3:=Tryz.underlying3
 a3:=Tryz.isAgg3
 z3:=Tryz.sizeOf3
 v3:=Tryz.zeroValue3
 t9:=Tryz.underlying9
 a9:=Tryz.isAgg9
 z9:=Tryz.sizeOf9
 v9:=Tryz.zeroValue9
 t37:=Tryz.underlying22
 a37:=Tryz.isAgg22
 z37:=Tryz.sizeOf22
 v37:=Tryz.zeroValue22
 t70:=Tryz.underlying56
 a70:=Tryz.isAgg56
 z70:=Tryz.sizeOf56
 v70:=Tryz.zeroValue56
 t72:=Tryz.underlying58
 a72:=Tryz.isAgg58
 z72:=Tryz.sizeOf58
 v72:=Tryz.zeroValue58 }
theorem Tryz.wsX:Builder.Extra Tryz.prog Tryz.ws_ren:={
 sizeBuilder:=by kernel_rfl
 liesBuilder:=by kernel_rfl
 t5:=Tryz.underlying5
 a5:=Tryz.isAgg5
 z5:=Tryz.sizeOf5
 v5:=Tryz.zeroValue5
 infoByte:=by kernel_rfl
 cellsByte:=by kernel_rfl
 sizeByte:=by kernel_rfl
 neB5:=by decide }
end Go.Proofs
end
section
open Go Go.Refl Go.Proofs
set_option maxRecDepth 1000000
set_option maxHeartbeats 0
set_option linter.unusedVariables false
namespace Go.Proofs.YtbgamdkmlikgjaaGreatDoorG
noncomputable def ar:List (Nat × AI):=[(105,{ n:=8,E:=9,e:=.str }),(153,{ n:=24,E:=5,e:=(.int .u8) }),(175,{ n:=20,E:=154,e:=(.int .u64) }),(196,{ n:=32,E:=5,e:=(.int .u8) }),(197,{ n:=64,E:=5,e:=(.int .u8) })]
noncomputable def bld:List (Nat × Nat):=[(57,5),(58,5)]
theorem ar105:AOk Tryz.prog 105 { n:=8,E:=9,e:=.str }:=.of (by kernel_rfl) (by kernel_rfl) (by kernel_rfl) (by kernel_rfl) rfl
theorem ar153:AOk Tryz.prog 153 { n:=24,E:=5,e:=(.int .u8) }:=.of (by kernel_rfl) (by kernel_rfl) (by kernel_rfl) (by kernel_rfl) rfl
theorem ar175:AOk Tryz.prog 175 { n:=20,E:=154,e:=(.int .u64) }:=.of (by kernel_rfl) (by kernel_rfl) (by kernel_rfl) (by kernel_rfl) rfl
theorem ar196:AOk Tryz.prog 196 { n:=32,E:=5,e:=(.int .u8) }:=.of (by kernel_rfl) (by kernel_rfl) (by kernel_rfl) (by kernel_rfl) rfl
theorem ar197:AOk Tryz.prog 197 { n:=64,E:=5,e:=(.int .u8) }:=.of (by kernel_rfl) (by kernel_rfl) (by kernel_rfl) (by kernel_rfl) rfl
theorem bld57:BOk Tryz.prog 57:=.of (by kernel_rfl) (by kernel_rfl)
theorem bld58:BOk Tryz.prog 58:=.of (by kernel_rfl) (by kernel_rfl)
theorem ar_ok:∀T ai,Refl.look ar T=some ai→AOk Tryz.prog T ai:=arOk (all_cons ar105 (all_cons ar153 (all_cons ar175 (all_cons ar196 (all_cons ar197 (all_nil))))))
theorem bld_ok:∀T E,Refl.look bld T=some E→BOk Tryz.prog T:=bldOk (all_cons bld57 (all_cons bld58 (all_nil)))
noncomputable def pts:List Nat:=[15,16,17,50,56,94,128,181,199]
theorem pts_ok:∀T,pts.contains T=true→∃e,Tryz.prog.underlying T=some (.pointer e):=fun T h=>ptsOk (all_cons ⟨203,by kernel_rfl⟩ (all_cons ⟨206,by kernel_rfl⟩ (all_cons ⟨214,by kernel_rfl⟩ (all_cons ⟨86,by kernel_rfl⟩ (all_cons ⟨58,by kernel_rfl⟩ (all_cons ⟨5,by kernel_rfl⟩ (all_cons ⟨26,by kernel_rfl⟩ (all_cons ⟨190,by kernel_rfl⟩ (all_cons ⟨201,by kernel_rfl⟩ (all_nil)))))))))) (List.contains_iff_mem.1 h)
noncomputable def g0:Nat × GItem:=(0,.row ⟨.str,[⟨#[106,111,105,110]⟩,⟨#[115,97,118,101]⟩,⟨#[116,97,107,101]⟩,⟨#[108,101,110,100]⟩,⟨#[114,101,112,97,121]⟩,⟨#[102,97,105,108]⟩,⟨#[110,105,103,104,116]⟩,⟨#[115,104,97,114,101]⟩]⟩)
noncomputable def g2:Nat × GItem:=(2,.row ⟨.int .u64,Lib.pow10Tab⟩)
noncomputable def g3:Nat × GItem:=(3,.iface)
noncomputable def g4:Nat × GItem:=(4,.iface)
noncomputable def tb:List (Nat × TI):=[(2,{ ty:=(.int .i64),eqOk:=true }),
  (3,{ ty:=(.int .i64),eqOk:=true }),
  (4,{ ty:=.bool,eqOk:=true }),
  (5,{ ty:=(.int .u8),eqOk:=true }),
  (6,{ ty:=(.int .u8),eqOk:=true }),
  (7,{ ty:=(.pair (.int .i64) (.pair (.int .i64) (.pair .bool (.int .u8)))),offs:=[0,1,2,3],szs:=[1,1,1,1],eqOk:=true }),
  (8,{ ty:=(.pair (.int .i64) (.pair (.int .i64) (.pair .bool (.int .u8)))),offs:=[0,1,2,3],szs:=[1,1,1,1],eqOk:=true }),
  (9,{ ty:=.str,eqOk:=true }),
  (10,{ ty:=.str,eqOk:=true }),
  (11,{ ty:=.str,eqOk:=true }),
  (12,{ ty:=(.int .u64),eqOk:=true }),
  (13,{ ty:=(.pair .str (.int .u64)),offs:=[0,1],szs:=[1,1] }),
  (14,{ ty:=(.pair .str (.int .u64)),offs:=[0,1],szs:=[1,1] }),
  (21,{ ty:=(.int .i32),eqOk:=true }),
  (22,{ ty:=(.slice (.int .u8)),elem:=5 }),
  (23,{ ty:=(.slice (.int .i64)),elem:=3 }),
  (24,{ ty:=(.slice (.pair (.int .i64) (.pair (.int .i64) (.slice (.int .i64))))),elem:=100 }),
  (25,{ ty:=(.pair (.slice (.int .i64)) (.pair (.slice (.pair (.int .i64) (.pair (.int .i64) (.slice (.int .i64))))) (.pair (.int .i64) (.pair (.int .i64) (.int .i64))))),offs:=[0,1,2,3,4],szs:=[1,1,1,1,1] }),
  (26,{ ty:=(.pair (.slice (.int .i64)) (.pair (.slice (.pair (.int .i64) (.pair (.int .i64) (.slice (.int .i64))))) (.pair (.int .i64) (.pair (.int .i64) (.int .i64))))),offs:=[0,1,2,3,4],szs:=[1,1,1,1,1] }),
  (27,{ ty:=(.slice .str),elem:=9 }),
  (34,{ ty:=(.slice (.pair (.int .i64) (.pair (.int .i64) (.pair (.int .i64) (.pair (.int .i64) (.pair (.slice (.int .i64)) (.pair (.int .i64) (.int .i64)))))))),elem:=72 }),
  (39,{ ty:=(.slice (.pair (.int .i64) (.pair (.int .i64) (.slice (.int .i64))))),elem:=110 }),
  (40,{ ty:=(.pair (.slice (.int .i64)) (.pair (.slice (.pair (.int .i64) (.pair (.int .i64) (.slice (.int .i64))))) (.pair (.int .i64) (.pair (.int .i64) (.int .i64))))),offs:=[0,1,2,3,4],szs:=[1,1,1,1,1] }),
  (41,{ ty:=(.pair (.slice (.int .i64)) (.pair (.slice (.pair (.int .i64) (.pair (.int .i64) (.slice (.int .i64))))) (.pair (.int .i64) (.pair (.int .i64) (.int .i64))))),offs:=[0,1,2,3,4],szs:=[1,1,1,1,1] }),
  (59,{ ty:=.err }),
  (60,{ ty:=.err }),
  (69,{ ty:=(.pair (.int .i64) (.int .i64)),offs:=[0,1],szs:=[1,1],eqOk:=true }),
  (70,{ ty:=(.pair (.int .i64) (.int .i64)),offs:=[0,1],szs:=[1,1],eqOk:=true }),
  (71,{ ty:=(.pair (.int .i64) (.pair (.int .i64) (.pair (.int .i64) (.pair (.int .i64) (.pair (.slice (.int .i64)) (.pair (.int .i64) (.int .i64))))))),offs:=[0,1,2,3,4,5],szs:=[1,1,1,1,1,2] }),
  (72,{ ty:=(.pair (.int .i64) (.pair (.int .i64) (.pair (.int .i64) (.pair (.int .i64) (.pair (.slice (.int .i64)) (.pair (.int .i64) (.int .i64))))))),offs:=[0,1,2,3,4,5],szs:=[1,1,1,1,1,2] }),
  (85,{ ty:=(.pair (.slice (.int .u8)) (.int .i64)),offs:=[0,1],szs:=[1,1] }),
  (86,{ ty:=(.pair (.slice (.int .u8)) (.int .i64)),offs:=[0,1],szs:=[1,1] }),
  (99,{ ty:=(.pair (.int .i64) (.pair (.int .i64) (.slice (.int .i64)))),offs:=[0,1,2],szs:=[1,1,1] }),
  (100,{ ty:=(.pair (.int .i64) (.pair (.int .i64) (.slice (.int .i64)))),offs:=[0,1,2],szs:=[1,1,1] }),
  (110,{ ty:=(.pair (.int .i64) (.pair (.int .i64) (.slice (.int .i64)))),offs:=[0,1,2],szs:=[1,1,1] }),
  (127,{ ty:=(.slice .bool),elem:=4 }),
  (150,{ ty:=(.int .u64),eqOk:=true }),
  (154,{ ty:=(.int .u64),eqOk:=true }),
  (169,{ ty:=(.int .u32),eqOk:=true }),
  (178,{ ty:=(.int .i64),eqOk:=true,cmp:=true }),
  (189,{ ty:=(.pair .str (.pair .str .err)),offs:=[0,1,2],szs:=[1,1,1] }),
  (190,{ ty:=(.pair .str (.pair .str .err)),offs:=[0,1,2],szs:=[1,1,1] }),
  (193,{ ty:=(.pair (.int .u8) (.int .u8)),offs:=[0,1],szs:=[1,1],eqOk:=true }),
  (194,{ ty:=(.pair (.int .u8) (.int .u8)),offs:=[0,1],szs:=[1,1],eqOk:=true }),
  (208,{ ty:=(.int .u8),eqOk:=true }),
  (209,{ ty:=(.int .u8),eqOk:=true }),
  (211,{ ty:=(.int .i32),eqOk:=true }),
  (212,{ ty:=(.int .i32),eqOk:=true })]
theorem t2:TOk Tryz.prog tb 2 { ty:=(.int .i64),eqOk:=true }:=.of (by kernel_rfl) (by kernel_rfl) (by show _=_;kernel_rfl) (fun h=>eqOk_int)
theorem t3:TOk Tryz.prog tb 3 { ty:=(.int .i64),eqOk:=true }:=.of (by kernel_rfl) (by kernel_rfl) (by show _=_;kernel_rfl) (fun h=>eqOk_int)
theorem t4:TOk Tryz.prog tb 4 { ty:=.bool,eqOk:=true }:=.of (by kernel_rfl) (by kernel_rfl) (by show _=_;kernel_rfl) (fun h=>eqOk_bool (by kernel_rfl))
theorem t5:TOk Tryz.prog tb 5 { ty:=(.int .u8),eqOk:=true }:=.of (by kernel_rfl) (by kernel_rfl) (by show _=_;kernel_rfl) (fun h=>eqOk_int)
theorem t6:TOk Tryz.prog tb 6 { ty:=(.int .u8),eqOk:=true }:=.of (by kernel_rfl) (by kernel_rfl) (by show _=_;kernel_rfl) (fun h=>eqOk_int)
theorem t7:TOk Tryz.prog tb 7 { ty:=(.pair (.int .i64) (.pair (.int .i64) (.pair .bool (.int .u8)))),offs:=[0,1,2,3],szs:=[1,1,1,1],eqOk:=true }:=.of (by kernel_rfl) (by kernel_rfl) (descOk_struct rfl (by kernel_rfl)) (fun h=>eqOk_struct rfl (by kernel_rfl) (by kernel_rfl))
theorem t8:TOk Tryz.prog tb 8 { ty:=(.pair (.int .i64) (.pair (.int .i64) (.pair .bool (.int .u8)))),offs:=[0,1,2,3],szs:=[1,1,1,1],eqOk:=true }:=.of (by kernel_rfl) (by kernel_rfl) (descOk_struct rfl (by kernel_rfl)) (fun h=>eqOk_struct rfl (by kernel_rfl) (by kernel_rfl))
theorem t9:TOk Tryz.prog tb 9 { ty:=.str,eqOk:=true }:=.of (by kernel_rfl) (by kernel_rfl) (by show _=_;kernel_rfl) (fun h=>eqOk_str)
theorem t10:TOk Tryz.prog tb 10 { ty:=.str,eqOk:=true }:=.of (by kernel_rfl) (by kernel_rfl) (by show _=_;kernel_rfl) (fun h=>eqOk_str)
theorem t11:TOk Tryz.prog tb 11 { ty:=.str,eqOk:=true }:=.of (by kernel_rfl) (by kernel_rfl) (by show _=_;kernel_rfl) (fun h=>eqOk_str)
theorem t12:TOk Tryz.prog tb 12 { ty:=(.int .u64),eqOk:=true }:=.of (by kernel_rfl) (by kernel_rfl) (by show _=_;kernel_rfl) (fun h=>eqOk_int)
theorem t13:TOk Tryz.prog tb 13 { ty:=(.pair .str (.int .u64)),offs:=[0,1],szs:=[1,1] }:=.of (by kernel_rfl) (by kernel_rfl) (descOk_struct rfl (by kernel_rfl)) (fun h=>by cases h)
theorem t14:TOk Tryz.prog tb 14 { ty:=(.pair .str (.int .u64)),offs:=[0,1],szs:=[1,1] }:=.of (by kernel_rfl) (by kernel_rfl) (descOk_struct rfl (by kernel_rfl)) (fun h=>by cases h)
theorem t21:TOk Tryz.prog tb 21 { ty:=(.int .i32),eqOk:=true }:=.of (by kernel_rfl) (by kernel_rfl) (by show _=_;kernel_rfl) (fun h=>eqOk_int)
theorem t22:TOk Tryz.prog tb 22 { ty:=(.slice (.int .u8)),elem:=5 }:=.of (by kernel_rfl) (by kernel_rfl) (⟨by kernel_rfl,{ ty:=(.int .u8),eqOk:=true },by kernel_rfl,by kernel_rfl⟩) (fun h=>by cases h)
theorem t23:TOk Tryz.prog tb 23 { ty:=(.slice (.int .i64)),elem:=3 }:=.of (by kernel_rfl) (by kernel_rfl) (⟨by kernel_rfl,{ ty:=(.int .i64),eqOk:=true },by kernel_rfl,by kernel_rfl⟩) (fun h=>by cases h)
theorem t24:TOk Tryz.prog tb 24 { ty:=(.slice (.pair (.int .i64) (.pair (.int .i64) (.slice (.int .i64))))),elem:=100 }:=.of (by kernel_rfl) (by kernel_rfl) (⟨by kernel_rfl,{ ty:=(.pair (.int .i64) (.pair (.int .i64) (.slice (.int .i64)))),offs:=[0,1,2],szs:=[1,1,1] },by kernel_rfl,by kernel_rfl⟩) (fun h=>by cases h)
theorem t25:TOk Tryz.prog tb 25 { ty:=(.pair (.slice (.int .i64)) (.pair (.slice (.pair (.int .i64) (.pair (.int .i64) (.slice (.int .i64))))) (.pair (.int .i64) (.pair (.int .i64) (.int .i64))))),offs:=[0,1,2,3,4],szs:=[1,1,1,1,1] }:=.of (by kernel_rfl) (by kernel_rfl) (descOk_struct rfl (by kernel_rfl)) (fun h=>by cases h)
theorem t26:TOk Tryz.prog tb 26 { ty:=(.pair (.slice (.int .i64)) (.pair (.slice (.pair (.int .i64) (.pair (.int .i64) (.slice (.int .i64))))) (.pair (.int .i64) (.pair (.int .i64) (.int .i64))))),offs:=[0,1,2,3,4],szs:=[1,1,1,1,1] }:=.of (by kernel_rfl) (by kernel_rfl) (descOk_struct rfl (by kernel_rfl)) (fun h=>by cases h)
theorem t27:TOk Tryz.prog tb 27 { ty:=(.slice .str),elem:=9 }:=.of (by kernel_rfl) (by kernel_rfl) (⟨by kernel_rfl,{ ty:=.str,eqOk:=true },by kernel_rfl,by kernel_rfl⟩) (fun h=>by cases h)
theorem t34:TOk Tryz.prog tb 34 { ty:=(.slice (.pair (.int .i64) (.pair (.int .i64) (.pair (.int .i64) (.pair (.int .i64) (.pair (.slice (.int .i64)) (.pair (.int .i64) (.int .i64)))))))),elem:=72 }:=.of (by kernel_rfl) (by kernel_rfl) (⟨by kernel_rfl,{ ty:=(.pair (.int .i64) (.pair (.int .i64) (.pair (.int .i64) (.pair (.int .i64) (.pair (.slice (.int .i64)) (.pair (.int .i64) (.int .i64))))))),offs:=[0,1,2,3,4,5],szs:=[1,1,1,1,1,2] },by kernel_rfl,by kernel_rfl⟩) (fun h=>by cases h)
theorem t39:TOk Tryz.prog tb 39 { ty:=(.slice (.pair (.int .i64) (.pair (.int .i64) (.slice (.int .i64))))),elem:=110 }:=.of (by kernel_rfl) (by kernel_rfl) (⟨by kernel_rfl,{ ty:=(.pair (.int .i64) (.pair (.int .i64) (.slice (.int .i64)))),offs:=[0,1,2],szs:=[1,1,1] },by kernel_rfl,by kernel_rfl⟩) (fun h=>by cases h)
theorem t40:TOk Tryz.prog tb 40 { ty:=(.pair (.slice (.int .i64)) (.pair (.slice (.pair (.int .i64) (.pair (.int .i64) (.slice (.int .i64))))) (.pair (.int .i64) (.pair (.int .i64) (.int .i64))))),offs:=[0,1,2,3,4],szs:=[1,1,1,1,1] }:=.of (by kernel_rfl) (by kernel_rfl) (descOk_struct rfl (by kernel_rfl)) (fun h=>by cases h)
theorem t41:TOk Tryz.prog tb 41 { ty:=(.pair (.slice (.int .i64)) (.pair (.slice (.pair (.int .i64) (.pair (.int .i64) (.slice (.int .i64))))) (.pair (.int .i64) (.pair (.int .i64) (.int .i64))))),offs:=[0,1,2,3,4],szs:=[1,1,1,1,1] }:=.of (by kernel_rfl) (by kernel_rfl) (descOk_struct rfl (by kernel_rfl)) (fun h=>by cases h)
theorem t59:TOk Tryz.prog tb 59 { ty:=.err }:=.of (by kernel_rfl) (by kernel_rfl) (by show _=_;kernel_rfl) (fun h=>by cases h)
theorem t60:TOk Tryz.prog tb 60 { ty:=.err }:=.of (by kernel_rfl) (by kernel_rfl) (by show _=_;kernel_rfl) (fun h=>by cases h)
theorem t69:TOk Tryz.prog tb 69 { ty:=(.pair (.int .i64) (.int .i64)),offs:=[0,1],szs:=[1,1],eqOk:=true }:=.of (by kernel_rfl) (by kernel_rfl) (descOk_struct rfl (by kernel_rfl)) (fun h=>eqOk_struct rfl (by kernel_rfl) (by kernel_rfl))
theorem t70:TOk Tryz.prog tb 70 { ty:=(.pair (.int .i64) (.int .i64)),offs:=[0,1],szs:=[1,1],eqOk:=true }:=.of (by kernel_rfl) (by kernel_rfl) (descOk_struct rfl (by kernel_rfl)) (fun h=>eqOk_struct rfl (by kernel_rfl) (by kernel_rfl))
theorem t71:TOk Tryz.prog tb 71 { ty:=(.pair (.int .i64) (.pair (.int .i64) (.pair (.int .i64) (.pair (.int .i64) (.pair (.slice (.int .i64)) (.pair (.int .i64) (.int .i64))))))),offs:=[0,1,2,3,4,5],szs:=[1,1,1,1,1,2] }:=.of (by kernel_rfl) (by kernel_rfl) (descOk_struct rfl (by kernel_rfl)) (fun h=>by cases h)
theorem t72:TOk Tryz.prog tb 72 { ty:=(.pair (.int .i64) (.pair (.int .i64) (.pair (.int .i64) (.pair (.int .i64) (.pair (.slice (.int .i64)) (.pair (.int .i64) (.int .i64))))))),offs:=[0,1,2,3,4,5],szs:=[1,1,1,1,1,2] }:=.of (by kernel_rfl) (by kernel_rfl) (descOk_struct rfl (by kernel_rfl)) (fun h=>by cases h)
theorem t85:TOk Tryz.prog tb 85 { ty:=(.pair (.slice (.int .u8)) (.int .i64)),offs:=[0,1],szs:=[1,1] }:=.of (by kernel_rfl) (by kernel_rfl) (descOk_struct rfl (by kernel_rfl)) (fun h=>by cases h)
theorem t86:TOk Tryz.prog tb 86 { ty:=(.pair (.slice (.int .u8)) (.int .i64)),offs:=[0,1],szs:=[1,1] }:=.of (by kernel_rfl) (by kernel_rfl) (descOk_struct rfl (by kernel_rfl)) (fun h=>by cases h)
theorem t99:TOk Tryz.prog tb 99 { ty:=(.pair (.int .i64) (.pair (.int .i64) (.slice (.int .i64)))),offs:=[0,1,2],szs:=[1,1,1] }:=.of (by kernel_rfl) (by kernel_rfl) (descOk_struct rfl (by kernel_rfl)) (fun h=>by cases h)
theorem t100:TOk Tryz.prog tb 100 { ty:=(.pair (.int .i64) (.pair (.int .i64) (.slice (.int .i64)))),offs:=[0,1,2],szs:=[1,1,1] }:=.of (by kernel_rfl) (by kernel_rfl) (descOk_struct rfl (by kernel_rfl)) (fun h=>by cases h)
theorem t110:TOk Tryz.prog tb 110 { ty:=(.pair (.int .i64) (.pair (.int .i64) (.slice (.int .i64)))),offs:=[0,1,2],szs:=[1,1,1] }:=.of (by kernel_rfl) (by kernel_rfl) (descOk_struct rfl (by kernel_rfl)) (fun h=>by cases h)
theorem t127:TOk Tryz.prog tb 127 { ty:=(.slice .bool),elem:=4 }:=.of (by kernel_rfl) (by kernel_rfl) (⟨by kernel_rfl,{ ty:=.bool,eqOk:=true },by kernel_rfl,by kernel_rfl⟩) (fun h=>by cases h)
theorem t150:TOk Tryz.prog tb 150 { ty:=(.int .u64),eqOk:=true }:=.of (by kernel_rfl) (by kernel_rfl) (by show _=_;kernel_rfl) (fun h=>eqOk_int)
theorem t154:TOk Tryz.prog tb 154 { ty:=(.int .u64),eqOk:=true }:=.of (by kernel_rfl) (by kernel_rfl) (by show _=_;kernel_rfl) (fun h=>eqOk_int)
theorem t169:TOk Tryz.prog tb 169 { ty:=(.int .u32),eqOk:=true }:=.of (by kernel_rfl) (by kernel_rfl) (by show _=_;kernel_rfl) (fun h=>eqOk_int)
theorem t178:TOk Tryz.prog tb 178 { ty:=(.int .i64),eqOk:=true,cmp:=true }:=.of (by kernel_rfl) (by kernel_rfl) (by show _=_;kernel_rfl) (fun h=>eqOk_int) (fun _=>by kernel_rfl)
theorem t189:TOk Tryz.prog tb 189 { ty:=(.pair .str (.pair .str .err)),offs:=[0,1,2],szs:=[1,1,1] }:=.of (by kernel_rfl) (by kernel_rfl) (descOk_struct rfl (by kernel_rfl)) (fun h=>by cases h)
theorem t190:TOk Tryz.prog tb 190 { ty:=(.pair .str (.pair .str .err)),offs:=[0,1,2],szs:=[1,1,1] }:=.of (by kernel_rfl) (by kernel_rfl) (descOk_struct rfl (by kernel_rfl)) (fun h=>by cases h)
theorem t193:TOk Tryz.prog tb 193 { ty:=(.pair (.int .u8) (.int .u8)),offs:=[0,1],szs:=[1,1],eqOk:=true }:=.of (by kernel_rfl) (by kernel_rfl) (descOk_struct rfl (by kernel_rfl)) (fun h=>eqOk_struct rfl (by kernel_rfl) (by kernel_rfl))
theorem t194:TOk Tryz.prog tb 194 { ty:=(.pair (.int .u8) (.int .u8)),offs:=[0,1],szs:=[1,1],eqOk:=true }:=.of (by kernel_rfl) (by kernel_rfl) (descOk_struct rfl (by kernel_rfl)) (fun h=>eqOk_struct rfl (by kernel_rfl) (by kernel_rfl))
theorem t208:TOk Tryz.prog tb 208 { ty:=(.int .u8),eqOk:=true }:=.of (by kernel_rfl) (by kernel_rfl) (by show _=_;kernel_rfl) (fun h=>eqOk_int)
theorem t209:TOk Tryz.prog tb 209 { ty:=(.int .u8),eqOk:=true }:=.of (by kernel_rfl) (by kernel_rfl) (by show _=_;kernel_rfl) (fun h=>eqOk_int)
theorem t211:TOk Tryz.prog tb 211 { ty:=(.int .i32),eqOk:=true }:=.of (by kernel_rfl) (by kernel_rfl) (by show _=_;kernel_rfl) (fun h=>eqOk_int)
theorem t212:TOk Tryz.prog tb 212 { ty:=(.int .i32),eqOk:=true }:=.of (by kernel_rfl) (by kernel_rfl) (by show _=_;kernel_rfl) (fun h=>eqOk_int)
theorem mixed:Tryz.prog.follows .mixedOrders=true:=by kernel_rfl
theorem tb_ok:CfgTb Tryz.prog tb:=tbOk (all_cons t2 (all_cons t3 (all_cons t4 (all_cons t5 (all_cons t6 (all_cons t7 (all_cons t8 (all_cons t9 (all_cons t10 (all_cons t11 (all_cons t12 (all_cons t13 (all_cons t14 (all_cons t21 (all_cons t22 (all_cons t23 (all_cons t24 (all_cons t25 (all_cons t26 (all_cons t27 (all_cons t34 (all_cons t39 (all_cons t40 (all_cons t41 (all_cons t59 (all_cons t60 (all_cons t69 (all_cons t70 (all_cons t71 (all_cons t72 (all_cons t85 (all_cons t86 (all_cons t99 (all_cons t100 (all_cons t110 (all_cons t127 (all_cons t150 (all_cons t154 (all_cons t169 (all_cons t178 (all_cons t189 (all_cons t190 (all_cons t193 (all_cons t194 (all_cons t208 (all_cons t209 (all_cons t211 (all_cons t212 (all_nil)))))))))))))))))))))))))))))))))))))))))))))))))
abbrev zt0:Ty:=.pair (.slice (.int .i64)) (.pair (.slice (.pair (.int .i64) (.pair (.int .i64) (.slice (.int .i64))))) (.pair (.int .i64) (.pair (.int .i64) (.int .i64))))
abbrev zt1:Ty:=.pair (.int .i64) (.pair (.int .i64) (.pair (.int .i64) (.pair (.int .i64) (.pair (.slice (.int .i64)) (.pair (.int .i64) (.int .i64))))))
abbrev zt2:Type:=List (Int × Int × Int × Int × List Int × Int × Int) × (List Int × List (Int × Int × List Int) × Int × Int × Int) × List Int × Int
abbrev zt3:Ty:=.pair (.slice (.pair (.int .i64) (.pair (.int .i64) (.slice (.int .i64))))) (.pair (.int .i64) (.pair (.int .i64) (.int .i64)))
abbrev zt4:Ty:=.pair (.int .i64) (.pair (.int .i64) (.pair (.int .i64) (.pair (.slice (.int .i64)) (.pair (.int .i64) (.int .i64)))))
abbrev zt5:Ty:=.pair (.int .i64) (.pair (.int .i64) (.pair (.slice (.int .i64)) (.pair (.int .i64) (.int .i64))))
abbrev zt6:Ty:=.pair (.int .i64) (.pair (.slice (.int .i64)) (.pair (.int .i64) (.int .i64)))
abbrev zt7:Type:=(Int × Int × Int × Int × List Int × Int × Int) × List Int × Int
abbrev zt8:Ty:=.pair (.int .i64) (.pair (.int .i64) (.slice (.int .i64)))
abbrev zt9:Ty:=.pair (.slice (.int .i64)) (.pair (.int .i64) (.int .i64))
abbrev zt10:Type:=List Int × List (Int × Int × List Int) × Int × Int × Int
abbrev zt11:Type:=(Int × Int × Int × Int × List Int × Int × Int) × Bool
abbrev zt12:Type:=List (Int × Int × Int × Int × List Int × Int × Int)
abbrev zt13:Ty:=.pair (.int .i64) (.pair (.int .i64) (.int .i64))
abbrev zt14:Type:=Int × Int × Int × Int × List Int × Int × Int
abbrev zt15:Ty:=.pair (.int .i64) (.slice (.int .i64))
abbrev zt16:Ty:=.pair (.int .i64) (.int .i64)
abbrev zt17:Type:=List (Int × Int × List Int)
abbrev zt18:Type:=List Int × Int × List Int
abbrev zt19:Type:=Int × Int × List Int
abbrev zf63.ps:List Pm:=[.arg (.v (.slice (.int .i64))),.arg (.v (.int .i64))]
abbrev zf63.res:List M:=[.v (.int .i64)]
noncomputable def zf63.C:Cfg:={ tb:=tb,tab:=fun n f=>Refl.look [] f,gl:=[],ar:=ar,bld:=bld,pts:=pts }
noncomputable def zf63.A:Ann:={ joins:=[],loops:=[],ids:=[],pids:=[],nroots:=76 }
noncomputable def zf63 (n:Nat) (x:List Int × Int):Option (Int):=evalF zf63.C zf63.A Tryz.f43 zf63.ps zf63.res n x
theorem zf63.eq (n:Nat) (x0:List Int) (x1:Int):zf63 n (x0,x1)=(if Go.RowKit.wrap64 (x1-(↑(List.length x0):Int))<0 then some ((-1)) else some (Go.RowKit.wrap64 (x1-(↑(List.length x0):Int)))):=by kernel_rfl
noncomputable abbrev zf63.sg (n:Nat):Sig:=⟨zf63.ps,zf63.res,zf63 n⟩
theorem zf63.call:Callable Tryz.prog 43:=⟨Tryz.f43,Tryz.func43,by kernel_rfl,by kernel_rfl⟩
theorem zf63.ok (n:Nat):FC Tryz.prog [] 43 (zf63.sg n):=
  evalF_ok (C:=zf63.C) ⟨tb_ok,fun n _ _ h=>tabOk (l:=[]) (all_nil) h,mixed,ar_ok,bld_ok,pts_ok⟩ zf63.A Tryz.func43 zf63.ps zf63.res n
abbrev zf64.ps:List Pm:=[.arg (.v zt8),.arg (.v (.int .i64))]
abbrev zf64.res:List M:=[.v (.int .i64)]
noncomputable def zf64.C:Cfg:={ tb:=tb,tab:=fun n f=>Refl.look [(43,(zf63.sg n))] f,gl:=[],ar:=ar,bld:=bld,pts:=pts }
noncomputable def zf64.A:Ann:={ joins:=[],loops:=[],ids:=[(1,[(8,[])])],pids:=[],nroots:=76 }
noncomputable def zf64 (n:Nat) (x:zt19 × Int):Option (Int):=evalF zf64.C zf64.A Tryz.f84 zf64.ps zf64.res n x
theorem zf64.eq (n:Nat) (x0:Int × Int × List Int) (x1:Int):zf64 n (x0,x1)=((zf63 n (x0.2.2,x1)).bind fun y0=>(if y0<0 then some ((-1)) else some (y0))):=by kernel_rfl
noncomputable abbrev zf64.sg (n:Nat):Sig:=⟨zf64.ps,zf64.res,zf64 n⟩
theorem zf64.call:Callable Tryz.prog 84:=⟨Tryz.f84,Tryz.func84,by kernel_rfl,by kernel_rfl⟩
theorem zf64.ok (n:Nat):FC Tryz.prog [] 84 (zf64.sg n):=
  evalF_ok (C:=zf64.C) ⟨tb_ok,fun n _ _ h=>tabOk (l:=[(43,(zf63.sg n))]) (all_cons ⟨zf63.ok n,zf63.call⟩ (all_nil)) h,mixed,ar_ok,bld_ok,pts_ok⟩ zf64.A Tryz.func84 zf64.ps zf64.res n
abbrev zf65.ps:List Pm:=[.arg (.v (.slice zt8)),.arg (.v (.int .i64))]
abbrev zf65.res:List M:=[.v (.int .i64)]
noncomputable def zf65.C:Cfg:={ tb:=tb,tab:=fun n f=>Refl.look [(84,(zf64.sg n))] f,gl:=[],ar:=ar,bld:=bld,pts:=pts }
noncomputable def zf65.A:Ann:={ joins:=[],loops:=[(5,{ live:=[0,1,5],base:=27 })],ids:=[(7,[(23,[])])],pids:=[],nroots:=91 }
noncomputable def zf65 (n:Nat) (x:List zt19 × Int):Option (Int):=evalF zf65.C zf65.A Tryz.f44 zf65.ps zf65.res n x
noncomputable def zf65.K0 (_:Nat):Kont (Int):=finK zf65.C (Func.results Tryz.f44).toList zf65.ps zf65.res
noncomputable def zf65.K1 (n:Nat):Kont (Int):=seqK (fun s' k=>joinE zf65.A.joins (codeAt Tryz.f44 [1,1,1,1]) (fun s''=>evalC zf65.C zf65.A n (codeAt Tryz.f44 [1,1,1,1]) s'' k) s') (zf65.K0 n)
noncomputable def zf65.K2 (n:Nat):Kont (Int):=blockK 0 (zf65.K1 n)
noncomputable def zf65.l5 (n m5:Nat) (x0:List zt19) (x1 x5:Int):Option (Int):=loopE (cutAt zf65.A.loops (codeAt Tryz.f44 [1,1,1,0,1,0,0])) (fun s k=>evalC zf65.C zf65.A n (codeAt Tryz.f44 [1,1,1,0,1,0,0]) s k) m5 (St.of 27 91 [(0,.val (.slice zt8) x0),(1,.val (.int .i64) x1),(5,.val (.int .i64) x5)] [] []) (zf65.K2 n)
theorem zf65.eq (n:Nat) (x0:List zt19) (x1:Int):zf65 n (x0,x1)=(if Go.RowKit.wrap64 (x1-(↑(List.length x0):Int))<0 then some ((-1)) else zf65.l5 n n (x0) (Go.RowKit.wrap64 (x1-(↑(List.length x0):Int))) (0)):=by kernel_rfl
theorem zf65.l5_succ (n m5:Nat) (x0:List zt19) (x1 x5:Int):zf65.l5 n (m5+1) x0 x1 x5=(if x5<(↑(List.length x0):Int) then (if 0≤x5 then (if x5<(↑(List.length x0):Int) then ((zf64 n (List.getD x0 (Int.toNat x5) (0,0,[]),x1)).bind fun y0=>(if y0<0 then some ((-1)) else zf65.l5 n m5 (x0) (y0) (Go.RowKit.wrap64 (x5+1)))) else none) else none) else some (x1)):=by kernel_rfl
noncomputable abbrev zf65.sg (n:Nat):Sig:=⟨zf65.ps,zf65.res,zf65 n⟩
theorem zf65.call:Callable Tryz.prog 44:=⟨Tryz.f44,Tryz.func44,by kernel_rfl,by kernel_rfl⟩
theorem zf65.ok (n:Nat):FC Tryz.prog [] 44 (zf65.sg n):=
  evalF_ok (C:=zf65.C) ⟨tb_ok,fun n _ _ h=>tabOk (l:=[(84,(zf64.sg n))]) (all_cons ⟨zf64.ok n,zf64.call⟩ (all_nil)) h,mixed,ar_ok,bld_ok,pts_ok⟩ zf65.A Tryz.func44 zf65.ps zf65.res n
abbrev zf62.ps:List Pm:=[.arg (.v zt0),.arg (.v (.int .i64))]
abbrev zf62.res:List M:=[.v (.int .i64)]
noncomputable def zf62.C:Cfg:={ tb:=tb,tab:=fun n f=>Refl.look [(43,(zf63.sg n)),(44,(zf65.sg n))] f,gl:=[],ar:=ar,bld:=bld,pts:=pts }
noncomputable def zf62.A:Ann:={ joins:=[],loops:=[],ids:=[(1,[(8,[])]),(4,[(14,[])])],pids:=[],nroots:=82 }
noncomputable def zf62 (n:Nat) (x:zt10 × Int):Option (Int):=evalF zf62.C zf62.A Tryz.f14 zf62.ps zf62.res n x
theorem zf62.eq (n:Nat) (x0:List Int × List zt19 × Int × Int × Int) (x1:Int):zf62 n (x0,x1)=((zf63 n (x0.1,x1)).bind fun y0=>(if y0<0 then some ((-1)) else ((zf65 n (x0.2.1,y0)).bind fun y1=>(if y1<0 then some ((-1)) else some (y1))))):=by kernel_rfl
noncomputable abbrev zf62.sg (n:Nat):Sig:=⟨zf62.ps,zf62.res,zf62 n⟩
theorem zf62.call:Callable Tryz.prog 14:=⟨Tryz.f14,Tryz.func14,by kernel_rfl,by kernel_rfl⟩
theorem zf62.ok (n:Nat):FC Tryz.prog [] 14 (zf62.sg n):=
  evalF_ok (C:=zf62.C) ⟨tb_ok,fun n _ _ h=>tabOk (l:=[(43,(zf63.sg n)),(44,(zf65.sg n))]) (all_cons ⟨zf63.ok n,zf63.call⟩ (all_cons ⟨zf65.ok n,zf65.call⟩ (all_nil))) h,mixed,ar_ok,bld_ok,pts_ok⟩ zf62.A Tryz.func14 zf62.ps zf62.res n
abbrev zf66.ps:List Pm:=[.arg (.v (.slice .str)),.arg (.v (.int .i64))]
abbrev zf66.res:List M:=[.v (.int .i64)]
noncomputable def zf66.C:Cfg:={ tb:=tb,tab:=fun n f=>Refl.look [] f,gl:=[],ar:=ar,bld:=bld,pts:=pts }
noncomputable def zf66.A:Ann:={ joins:=[],loops:=[(5,{ live:=[0,1,5],base:=28 })],ids:=[],pids:=[],nroots:=92 }
noncomputable def zf66 (n:Nat) (x:List ByteArray × Int):Option (Int):=evalF zf66.C zf66.A Tryz.f15 zf66.ps zf66.res n x
noncomputable def zf66.K0 (_:Nat):Kont (Int):=finK zf66.C (Func.results Tryz.f15).toList zf66.ps zf66.res
noncomputable def zf66.K1 (n:Nat):Kont (Int):=seqK (fun s' k=>joinE zf66.A.joins (codeAt Tryz.f15 [1,1,1,1]) (fun s''=>evalC zf66.C zf66.A n (codeAt Tryz.f15 [1,1,1,1]) s'' k) s') (zf66.K0 n)
noncomputable def zf66.K2 (n:Nat):Kont (Int):=blockK 0 (zf66.K1 n)
noncomputable def zf66.l5 (n m5:Nat) (x0:List ByteArray) (x1 x5:Int):Option (Int):=loopE (cutAt zf66.A.loops (codeAt Tryz.f15 [1,1,1,0,1,0,0])) (fun s k=>evalC zf66.C zf66.A n (codeAt Tryz.f15 [1,1,1,0,1,0,0]) s k) m5 (St.of 28 92 [(0,.val (.slice .str) x0),(1,.val (.int .i64) x1),(5,.val (.int .i64) x5)] [] []) (zf66.K2 n)
theorem zf66.eq (n:Nat) (x0:List ByteArray) (x1:Int):zf66 n (x0,x1)=(if Go.RowKit.wrap64 (x1-(↑(List.length x0):Int))<0 then some ((-1)) else zf66.l5 n n (x0) (Go.RowKit.wrap64 (x1-(↑(List.length x0):Int))) (0)):=by kernel_rfl
theorem zf66.l5_succ (n m5:Nat) (x0:List ByteArray) (x1 x5:Int):zf66.l5 n (m5+1) x0 x1 x5=(if x5<(↑(List.length x0):Int) then (if 0≤x5 then (if x5<(↑(List.length x0):Int) then (if Go.RowKit.wrap64 (x1-(↑(ByteArray.size (List.getD x0 (Int.toNat x5) ByteArray.empty)):Int))<0 then some ((-1)) else zf66.l5 n m5 (x0) (Go.RowKit.wrap64 (x1-(↑(ByteArray.size (List.getD x0 (Int.toNat x5) ByteArray.empty)):Int))) (Go.RowKit.wrap64 (x5+1))) else none) else none) else some (x1)):=by kernel_rfl
noncomputable abbrev zf66.sg (n:Nat):Sig:=⟨zf66.ps,zf66.res,zf66 n⟩
theorem zf66.call:Callable Tryz.prog 15:=⟨Tryz.f15,Tryz.func15,by kernel_rfl,by kernel_rfl⟩
theorem zf66.ok (n:Nat):FC Tryz.prog [] 15 (zf66.sg n):=
  evalF_ok (C:=zf66.C) ⟨tb_ok,fun n _ _ h=>tabOk (l:=[]) (all_nil) h,mixed,ar_ok,bld_ok,pts_ok⟩ zf66.A Tryz.func15 zf66.ps zf66.res n
abbrev zf68.ps:List Pm:=[.arg (.v (.slice (.int .i64)))]
abbrev zf68.res:List M:=[(.own (.int .i64) 3)]
noncomputable def zf68.C:Cfg:={ tb:=tb,tab:=fun n f=>Refl.look [] f,gl:=[],ar:=ar,bld:=bld,pts:=pts }
noncomputable def zf68.A:Ann:={ joins:=[],loops:=[(3,{ live:=[0,3,4],base:=22 })],ids:=[],pids:=[],nroots:=86 }
noncomputable def zf68 (n:Nat) (x:List Int):Option (List Int):=evalF zf68.C zf68.A Tryz.f45 zf68.ps zf68.res n x
noncomputable def zf68.K0 (_:Nat):Kont (List Int):=finK zf68.C (Func.results Tryz.f45).toList zf68.ps zf68.res
noncomputable def zf68.K1 (n:Nat):Kont (List Int):=seqK (fun s' k=>joinE zf68.A.joins (codeAt Tryz.f45 [1,1,1]) (fun s''=>evalC zf68.C zf68.A n (codeAt Tryz.f45 [1,1,1]) s'' k) s') (zf68.K0 n)
noncomputable def zf68.K2 (n:Nat):Kont (List Int):=blockK 0 (zf68.K1 n)
noncomputable def zf68.l3 (n m3:Nat) (x0:List Int) (x4:Int) (r22:List Int):Option (List Int):=loopE (cutAt zf68.A.loops (codeAt Tryz.f45 [1,1,0,1,0,0])) (fun s k=>evalC zf68.C zf68.A n (codeAt Tryz.f45 [1,1,0,1,0,0]) s k) m3 (St.of 22 86 [(0,.val (.slice (.int .i64)) x0),(3,.own 22),(4,.val (.int .i64) x4)] [(22,.row (.int .i64) 3 r22)] []) (zf68.K2 n)
theorem zf68.eq (n:Nat) (x0:List Int):zf68 n x0=(if 0≤(↑(List.length x0):Int) then (if (↑(List.length x0):Int)≤(↑(List.length x0):Int) then (if (↑(List.length x0):Int)≤(↑Go.Refl.maxN:Int) then zf68.l3 n n (x0) (0) (List.replicate (Int.toNat (↑(List.length x0):Int)) 0) else none) else none) else none):=by kernel_rfl
theorem zf68.l3_succ (n m3:Nat) (x0:List Int) (x4:Int) (r22:List Int):zf68.l3 n (m3+1) x0 x4 r22=(if x4<(↑(List.length x0):Int) then (if 0≤x4 then (if x4<(↑(List.length x0):Int) then (if 0≤x4 then (if x4<(↑(List.length r22):Int) then zf68.l3 n m3 (x0) (Go.RowKit.wrap64 (x4+1)) (List.set r22 (Int.toNat x4) (List.getD x0 (Int.toNat x4) 0)) else none) else none) else none) else none) else some (r22)):=by kernel_rfl
noncomputable abbrev zf68.sg (n:Nat):Sig:=⟨zf68.ps,zf68.res,zf68 n⟩
theorem zf68.call:Callable Tryz.prog 45:=⟨Tryz.f45,Tryz.func45,by kernel_rfl,by kernel_rfl⟩
theorem zf68.ok (n:Nat):FC Tryz.prog [] 45 (zf68.sg n):=
  evalF_ok (C:=zf68.C) ⟨tb_ok,fun n _ _ h=>tabOk (l:=[]) (all_nil) h,mixed,ar_ok,bld_ok,pts_ok⟩ zf68.A Tryz.func45 zf68.ps zf68.res n
abbrev zf69.ps:List Pm:=[.arg (.v zt8)]
abbrev zf69.res:List M:=[.v zt8]
noncomputable def zf69.C:Cfg:={ tb:=tb,tab:=fun n f=>Refl.look [(45,(zf68.sg n))] f,gl:=[],ar:=ar,bld:=bld,pts:=pts }
noncomputable def zf69.A:Ann:={ joins:=[],loops:=[],ids:=[],pids:=[],nroots:=79 }
noncomputable def zf69 (n:Nat) (x:Int × Int × List Int):Option zt19:=evalF zf69.C zf69.A Tryz.f85 zf69.ps zf69.res n x
theorem zf69.eq (n:Nat) (x0:Int × Int × List Int):zf69 n x0=((zf68 n x0.2.2).bind fun y0=>some ((x0.1,x0.2.1,y0))):=by kernel_rfl
noncomputable abbrev zf69.sg (n:Nat):Sig:=⟨zf69.ps,zf69.res,zf69 n⟩
theorem zf69.call:Callable Tryz.prog 85:=⟨Tryz.f85,Tryz.func85,by kernel_rfl,by kernel_rfl⟩
theorem zf69.ok (n:Nat):FC Tryz.prog [] 85 (zf69.sg n):=
  evalF_ok (C:=zf69.C) ⟨tb_ok,fun n _ _ h=>tabOk (l:=[(45,(zf68.sg n))]) (all_cons ⟨zf68.ok n,zf68.call⟩ (all_nil)) h,mixed,ar_ok,bld_ok,pts_ok⟩ zf69.A Tryz.func85 zf69.ps zf69.res n
abbrev zf70.ps:List Pm:=[.arg (.v (.slice zt8))]
abbrev zf70.res:List M:=[(.own zt8 100)]
noncomputable def zf70.C:Cfg:={ tb:=tb,tab:=fun n f=>Refl.look [(85,(zf69.sg n))] f,gl:=[],ar:=ar,bld:=bld,pts:=pts }
noncomputable def zf70.A:Ann:={ joins:=[],loops:=[(3,{ live:=[0,3,4],base:=23 })],ids:=[(5,[(20,[])])],pids:=[],nroots:=87 }
noncomputable def zf70 (n:Nat) (x:List zt19):Option zt17:=evalF zf70.C zf70.A Tryz.f46 zf70.ps zf70.res n x
noncomputable def zf70.K0 (_:Nat):Kont zt17:=finK zf70.C (Func.results Tryz.f46).toList zf70.ps zf70.res
noncomputable def zf70.K1 (n:Nat):Kont zt17:=seqK (fun s' k=>joinE zf70.A.joins (codeAt Tryz.f46 [1,1,1]) (fun s''=>evalC zf70.C zf70.A n (codeAt Tryz.f46 [1,1,1]) s'' k) s') (zf70.K0 n)
noncomputable def zf70.K2 (n:Nat):Kont zt17:=blockK 0 (zf70.K1 n)
noncomputable def zf70.l3 (n m3:Nat) (x0:List zt19) (x4:Int) (r23:List zt19):Option zt17:=loopE (cutAt zf70.A.loops (codeAt Tryz.f46 [1,1,0,1,0,0])) (fun s k=>evalC zf70.C zf70.A n (codeAt Tryz.f46 [1,1,0,1,0,0]) s k) m3 (St.of 23 87 [(0,.val (.slice zt8) x0),(3,.own 23),(4,.val (.int .i64) x4)] [(23,.row zt8 100 r23)] []) (zf70.K2 n)
theorem zf70.eq (n:Nat) (x0:List zt19):zf70 n x0=(if 0≤(↑(List.length x0):Int) then (if (↑(List.length x0):Int)≤(↑(List.length x0):Int) then (if (↑(List.length x0):Int)≤(↑Go.Refl.maxN:Int) then zf70.l3 n n (x0) (0) (List.replicate (Int.toNat (↑(List.length x0):Int)) (0,0,[])) else none) else none) else none):=by kernel_rfl
theorem zf70.l3_succ (n m3:Nat) (x0:List zt19) (x4:Int) (r23:List zt19):zf70.l3 n (m3+1) x0 x4 r23=(if x4<(↑(List.length x0):Int) then (if 0≤x4 then (if x4<(↑(List.length x0):Int) then ((zf69 n (List.getD x0 (Int.toNat x4) (0,0,[]))).bind fun y0=>(if 0≤x4 then (if x4<(↑(List.length r23):Int) then zf70.l3 n m3 (x0) (Go.RowKit.wrap64 (x4+1)) (List.set r23 (Int.toNat x4) y0) else none) else none)) else none) else none) else some (r23)):=by kernel_rfl
noncomputable abbrev zf70.sg (n:Nat):Sig:=⟨zf70.ps,zf70.res,zf70 n⟩
theorem zf70.call:Callable Tryz.prog 46:=⟨Tryz.f46,Tryz.func46,by kernel_rfl,by kernel_rfl⟩
theorem zf70.ok (n:Nat):FC Tryz.prog [] 46 (zf70.sg n):=
  evalF_ok (C:=zf70.C) ⟨tb_ok,fun n _ _ h=>tabOk (l:=[(85,(zf69.sg n))]) (all_cons ⟨zf69.ok n,zf69.call⟩ (all_nil)) h,mixed,ar_ok,bld_ok,pts_ok⟩ zf70.A Tryz.func46 zf70.ps zf70.res n
abbrev zf67.ps:List Pm:=[.arg (.v zt0)]
abbrev zf67.res:List M:=[.v zt0]
noncomputable def zf67.C:Cfg:={ tb:=tb,tab:=fun n f=>Refl.look [(45,(zf68.sg n)),(46,(zf70.sg n))] f,gl:=[],ar:=ar,bld:=bld,pts:=pts }
noncomputable def zf67.A:Ann:={ joins:=[],loops:=[],ids:=[],pids:=[],nroots:=86 }
noncomputable def zf67 (n:Nat) (x:List Int × List zt19 × Int × Int × Int):Option zt10:=evalF zf67.C zf67.A Tryz.f16 zf67.ps zf67.res n x
theorem zf67.eq (n:Nat) (x0:List Int × List zt19 × Int × Int × Int):zf67 n x0=((zf68 n x0.1).bind fun y0=>((zf70 n x0.2.1).bind fun y1=>some ((y0,y1,x0.2.2.1,x0.2.2.2.1,x0.2.2.2.2)))):=by kernel_rfl
noncomputable abbrev zf67.sg (n:Nat):Sig:=⟨zf67.ps,zf67.res,zf67 n⟩
theorem zf67.call:Callable Tryz.prog 16:=⟨Tryz.f16,Tryz.func16,by kernel_rfl,by kernel_rfl⟩
theorem zf67.ok (n:Nat):FC Tryz.prog [] 16 (zf67.sg n):=
  evalF_ok (C:=zf67.C) ⟨tb_ok,fun n _ _ h=>tabOk (l:=[(45,(zf68.sg n)),(46,(zf70.sg n))]) (all_cons ⟨zf68.ok n,zf68.call⟩ (all_cons ⟨zf70.ok n,zf70.call⟩ (all_nil))) h,mixed,ar_ok,bld_ok,pts_ok⟩ zf67.A Tryz.func16 zf67.ps zf67.res n
abbrev zf71.ps:List Pm:=[.arg (.v (.slice .str))]
abbrev zf71.res:List M:=[(.own .str 9)]
noncomputable def zf71.C:Cfg:={ tb:=tb,tab:=fun n f=>Refl.look [] f,gl:=[],ar:=ar,bld:=bld,pts:=pts }
noncomputable def zf71.A:Ann:={ joins:=[],loops:=[(3,{ live:=[0,3,4],base:=22 })],ids:=[],pids:=[],nroots:=86 }
noncomputable def zf71 (n:Nat) (x:List ByteArray):Option (List ByteArray):=evalF zf71.C zf71.A Tryz.f17 zf71.ps zf71.res n x
noncomputable def zf71.K0 (_:Nat):Kont (List ByteArray):=finK zf71.C (Func.results Tryz.f17).toList zf71.ps zf71.res
noncomputable def zf71.K1 (n:Nat):Kont (List ByteArray):=seqK (fun s' k=>joinE zf71.A.joins (codeAt Tryz.f17 [1,1,1]) (fun s''=>evalC zf71.C zf71.A n (codeAt Tryz.f17 [1,1,1]) s'' k) s') (zf71.K0 n)
noncomputable def zf71.K2 (n:Nat):Kont (List ByteArray):=blockK 0 (zf71.K1 n)
noncomputable def zf71.l3 (n m3:Nat) (x0:List ByteArray) (x4:Int) (r22:List ByteArray):Option (List ByteArray):=loopE (cutAt zf71.A.loops (codeAt Tryz.f17 [1,1,0,1,0,0])) (fun s k=>evalC zf71.C zf71.A n (codeAt Tryz.f17 [1,1,0,1,0,0]) s k) m3 (St.of 22 86 [(0,.val (.slice .str) x0),(3,.own 22),(4,.val (.int .i64) x4)] [(22,.row .str 9 r22)] []) (zf71.K2 n)
theorem zf71.eq (n:Nat) (x0:List ByteArray):zf71 n x0=(if 0≤(↑(List.length x0):Int) then (if (↑(List.length x0):Int)≤(↑(List.length x0):Int) then (if (↑(List.length x0):Int)≤(↑Go.Refl.maxN:Int) then zf71.l3 n n (x0) (0) (List.replicate (Int.toNat (↑(List.length x0):Int)) ByteArray.empty) else none) else none) else none):=by kernel_rfl
theorem zf71.l3_succ (n m3:Nat) (x0:List ByteArray) (x4:Int) (r22:List ByteArray):zf71.l3 n (m3+1) x0 x4 r22=(if x4<(↑(List.length x0):Int) then (if 0≤x4 then (if x4<(↑(List.length x0):Int) then (if 0≤x4 then (if x4<(↑(List.length r22):Int) then zf71.l3 n m3 (x0) (Go.RowKit.wrap64 (x4+1)) (List.set r22 (Int.toNat x4) (List.getD x0 (Int.toNat x4) ByteArray.empty)) else none) else none) else none) else none) else some (r22)):=by kernel_rfl
noncomputable abbrev zf71.sg (n:Nat):Sig:=⟨zf71.ps,zf71.res,zf71 n⟩
theorem zf71.call:Callable Tryz.prog 17:=⟨Tryz.f17,Tryz.func17,by kernel_rfl,by kernel_rfl⟩
theorem zf71.ok (n:Nat):FC Tryz.prog [] 17 (zf71.sg n):=
  evalF_ok (C:=zf71.C) ⟨tb_ok,fun n _ _ h=>tabOk (l:=[]) (all_nil) h,mixed,ar_ok,bld_ok,pts_ok⟩ zf71.A Tryz.func17 zf71.ps zf71.res n
abbrev zf103.ps:List Pm:=[.arg (.v (.int .i64)),.arg (.v (.int .i64)),.arg (.v (.int .i64))]
abbrev zf103.res:List M:=[.v .bool]
noncomputable def zf103.C:Cfg:={ tb:=tb,tab:=fun n f=>Refl.look [] f,gl:=[],ar:=ar,bld:=bld,pts:=pts }
noncomputable def zf103.A:Ann:={ joins:=[],loops:=[],ids:=[],pids:=[],nroots:=79 }
noncomputable def zf103 (n:Nat) (x:Int × Int × Int):Option (Bool):=evalF zf103.C zf103.A Tryz.f60 zf103.ps zf103.res n x
theorem zf103.eq (n:Nat) (x0 x1 x2:Int):zf103 n (x0,x1,x2)=(if x1≤x0 then some (Decidable.decide (x0≤x2)) else some (Bool.false)):=by kernel_rfl
noncomputable abbrev zf103.sg (n:Nat):Sig:=⟨zf103.ps,zf103.res,zf103 n⟩
theorem zf103.call:Callable Tryz.prog 60:=⟨Tryz.f60,Tryz.func60,by kernel_rfl,by kernel_rfl⟩
theorem zf103.ok (n:Nat):FC Tryz.prog [] 60 (zf103.sg n):=
  evalF_ok (C:=zf103.C) ⟨tb_ok,fun n _ _ h=>tabOk (l:=[]) (all_nil) h,mixed,ar_ok,bld_ok,pts_ok⟩ zf103.A Tryz.func60 zf103.ps zf103.res n
abbrev zf88.ps:List Pm:=[.arg (.v (.slice (.int .i64))),.arg (.v (.int .i64)),.arg (.v (.int .i64))]
abbrev zf88.res:List M:=[.v .bool]
noncomputable def zf88.C:Cfg:={ tb:=tb,tab:=fun n f=>Refl.look [(60,(zf103.sg n))] f,gl:=[],ar:=ar,bld:=bld,pts:=pts }
noncomputable def zf88.A:Ann:={ joins:=[],loops:=[(2,{ live:=[0,1,2,7],base:=22 })],ids:=[(4,[(20,[])])],pids:=[],nroots:=86 }
noncomputable def zf88 (n:Nat) (x:List Int × Int × Int):Option (Bool):=evalF zf88.C zf88.A Tryz.f97 zf88.ps zf88.res n x
noncomputable def zf88.K0 (_:Nat):Kont (Bool):=finK zf88.C (Func.results Tryz.f97).toList zf88.ps zf88.res
noncomputable def zf88.K1 (n:Nat):Kont (Bool):=seqK (fun s' k=>joinE zf88.A.joins (codeAt Tryz.f97 [1,1]) (fun s''=>evalC zf88.C zf88.A n (codeAt Tryz.f97 [1,1]) s'' k) s') (zf88.K0 n)
noncomputable def zf88.K2 (n:Nat):Kont (Bool):=blockK 0 (zf88.K1 n)
noncomputable def zf88.l2 (n m2:Nat) (x0:List Int) (x1 x2 x7:Int):Option (Bool):=loopE (cutAt zf88.A.loops (codeAt Tryz.f97 [1,0,1,0,0])) (fun s k=>evalC zf88.C zf88.A n (codeAt Tryz.f97 [1,0,1,0,0]) s k) m2 (St.of 22 86 [(0,.val (.slice (.int .i64)) x0),(1,.val (.int .i64) x1),(2,.val (.int .i64) x2),(7,.val (.int .i64) x7)] [] []) (zf88.K2 n)
theorem zf88.eq (n:Nat) (x0:List Int) (x1 x2:Int):zf88 n (x0,x1,x2)=zf88.l2 n n (x0) (x1) (x2) (0):=by kernel_rfl
theorem zf88.l2_succ (n m2:Nat) (x0:List Int) (x1 x2 x7:Int):zf88.l2 n (m2+1) x0 x1 x2 x7=(if x7<(↑(List.length x0):Int) then (if 0≤x7 then (if x7<(↑(List.length x0):Int) then ((zf103 n (List.getD x0 (Int.toNat x7) 0,x1,x2)).bind fun y0=>(if (!y0)=true then some (Bool.false) else zf88.l2 n m2 (x0) (x1) (x2) (Go.RowKit.wrap64 (x7+1)))) else none) else none) else some (Bool.true)):=by kernel_rfl
noncomputable abbrev zf88.sg (n:Nat):Sig:=⟨zf88.ps,zf88.res,zf88 n⟩
theorem zf88.call:Callable Tryz.prog 97:=⟨Tryz.f97,Tryz.func97,by kernel_rfl,by kernel_rfl⟩
theorem zf88.ok (n:Nat):FC Tryz.prog [] 97 (zf88.sg n):=
  evalF_ok (C:=zf88.C) ⟨tb_ok,fun n _ _ h=>tabOk (l:=[(60,(zf103.sg n))]) (all_cons ⟨zf103.ok n,zf103.call⟩ (all_nil)) h,mixed,ar_ok,bld_ok,pts_ok⟩ zf88.A Tryz.func97 zf88.ps zf88.res n
abbrev zf139.ps:List Pm:=[.arg (.v (.slice (.int .i64)))]
abbrev zf139.res:List M:=[.v .bool]
noncomputable def zf139.C:Cfg:={ tb:=tb,tab:=fun n f=>Refl.look [(60,(zf103.sg n)),(97,(zf88.sg n))] f,gl:=[],ar:=ar,bld:=bld,pts:=pts }
noncomputable def zf139.A:Ann:={ joins:=[],loops:=[],ids:=[(1,[(5,[]),(8,[])])],pids:=[],nroots:=74 }
noncomputable def zf139 (n:Nat) (x:List Int):Option (Bool):=evalF zf139.C zf139.A Tryz.f57 zf139.ps zf139.res n x
theorem zf139.eq (n:Nat) (x0:List Int):zf139 n x0=((zf103 n ((↑(List.length x0):Int),1,12)).bind fun y0=>(if y0=Bool.true then ((zf88 n (x0,0,100000)).bind fun y1=>some (y1)) else some (Bool.false))):=by kernel_rfl
noncomputable abbrev zf139.sg (n:Nat):Sig:=⟨zf139.ps,zf139.res,zf139 n⟩
theorem zf139.call:Callable Tryz.prog 57:=⟨Tryz.f57,Tryz.func57,by kernel_rfl,by kernel_rfl⟩
theorem zf139.ok (n:Nat):FC Tryz.prog [] 57 (zf139.sg n):=
  evalF_ok (C:=zf139.C) ⟨tb_ok,fun n _ _ h=>tabOk (l:=[(60,(zf103.sg n)),(97,(zf88.sg n))]) (all_cons ⟨zf103.ok n,zf103.call⟩ (all_cons ⟨zf88.ok n,zf88.call⟩ (all_nil))) h,mixed,ar_ok,bld_ok,pts_ok⟩ zf139.A Tryz.func57 zf139.ps zf139.res n
abbrev zf114.ps:List Pm:=[.arg (.v (.slice (.int .i64))),.arg (.v (.int .i64))]
abbrev zf114.res:List M:=[.v (.int .i64)]
noncomputable def zf114.C:Cfg:={ tb:=tb,tab:=fun n f=>Refl.look [] f,gl:=[],ar:=ar,bld:=bld,pts:=pts }
noncomputable def zf114.A:Ann:={ joins:=[],loops:=[(2,{ live:=[0,1,5],base:=19 })],ids:=[],pids:=[],nroots:=83 }
noncomputable def zf114 (n:Nat) (x:List Int × Int):Option (Int):=evalF zf114.C zf114.A Tryz.f99 zf114.ps zf114.res n x
noncomputable def zf114.K0 (_:Nat):Kont (Int):=finK zf114.C (Func.results Tryz.f99).toList zf114.ps zf114.res
noncomputable def zf114.K1 (n:Nat):Kont (Int):=seqK (fun s' k=>joinE zf114.A.joins (codeAt Tryz.f99 [1,1]) (fun s''=>evalC zf114.C zf114.A n (codeAt Tryz.f99 [1,1]) s'' k) s') (zf114.K0 n)
noncomputable def zf114.K2 (n:Nat):Kont (Int):=blockK 0 (zf114.K1 n)
noncomputable def zf114.l2 (n m2:Nat) (x0:List Int) (x1 x5:Int):Option (Int):=loopE (cutAt zf114.A.loops (codeAt Tryz.f99 [1,0,1,0,0])) (fun s k=>evalC zf114.C zf114.A n (codeAt Tryz.f99 [1,0,1,0,0]) s k) m2 (St.of 19 83 [(0,.val (.slice (.int .i64)) x0),(1,.val (.int .i64) x1),(5,.val (.int .i64) x5)] [] []) (zf114.K2 n)
theorem zf114.eq (n:Nat) (x0:List Int) (x1:Int):zf114 n (x0,x1)=zf114.l2 n n (x0) (x1) (0):=by kernel_rfl
theorem zf114.l2_succ (n m2:Nat) (x0:List Int) (x1 x5:Int):zf114.l2 n (m2+1) x0 x1 x5=(if x5<(↑(List.length x0):Int) then (if 0≤x5 then (if x5<(↑(List.length x0):Int) then (if List.getD x0 (Int.toNat x5) 0=x1 then some (x5) else zf114.l2 n m2 (x0) (x1) (Go.RowKit.wrap64 (x5+1))) else none) else none) else some ((-1))):=by kernel_rfl
noncomputable abbrev zf114.sg (n:Nat):Sig:=⟨zf114.ps,zf114.res,zf114 n⟩
theorem zf114.call:Callable Tryz.prog 99:=⟨Tryz.f99,Tryz.func99,by kernel_rfl,by kernel_rfl⟩
theorem zf114.ok (n:Nat):FC Tryz.prog [] 99 (zf114.sg n):=
  evalF_ok (C:=zf114.C) ⟨tb_ok,fun n _ _ h=>tabOk (l:=[]) (all_nil) h,mixed,ar_ok,bld_ok,pts_ok⟩ zf114.A Tryz.func99 zf114.ps zf114.res n
abbrev zf137.ps:List Pm:=[.arg (.v (.slice (.int .i64))),.arg (.v (.int .i64))]
abbrev zf137.res:List M:=[.v .bool]
noncomputable def zf137.C:Cfg:={ tb:=tb,tab:=fun n f=>Refl.look [(60,(zf103.sg n)),(99,(zf114.sg n))] f,gl:=[],ar:=ar,bld:=bld,pts:=pts }
noncomputable def zf137.A:Ann:={ joins:=[],loops:=[(2,{ live:=[0,1,5],base:=31 })],ids:=[(4,[(18,[]),(28,[])])],pids:=[],nroots:=95 }
noncomputable def zf137 (n:Nat) (x:List Int × Int):Option (Bool):=evalF zf137.C zf137.A Tryz.f98 zf137.ps zf137.res n x
noncomputable def zf137.K0 (_:Nat):Kont (Bool):=finK zf137.C (Func.results Tryz.f98).toList zf137.ps zf137.res
noncomputable def zf137.K1 (n:Nat):Kont (Bool):=seqK (fun s' k=>joinE zf137.A.joins (codeAt Tryz.f98 [1,1]) (fun s''=>evalC zf137.C zf137.A n (codeAt Tryz.f98 [1,1]) s'' k) s') (zf137.K0 n)
noncomputable def zf137.K2 (n:Nat):Kont (Bool):=blockK 0 (zf137.K1 n)
noncomputable def zf137.l2 (n m2:Nat) (x0:List Int) (x1 x5:Int):Option (Bool):=loopE (cutAt zf137.A.loops (codeAt Tryz.f98 [1,0,1,0,0])) (fun s k=>evalC zf137.C zf137.A n (codeAt Tryz.f98 [1,0,1,0,0]) s k) m2 (St.of 31 95 [(0,.val (.slice (.int .i64)) x0),(1,.val (.int .i64) x1),(5,.val (.int .i64) x5)] [] []) (zf137.K2 n)
theorem zf137.eq (n:Nat) (x0:List Int) (x1:Int):zf137 n (x0,x1)=zf137.l2 n n (x0) (x1) (0):=by kernel_rfl
theorem zf137.l2_succ (n m2:Nat) (x0:List Int) (x1 x5:Int):zf137.l2 n (m2+1) x0 x1 x5=(if x5<(↑(List.length x0):Int) then (if 0≤x5 then (if x5<(↑(List.length x0):Int) then ((zf103 n (List.getD x0 (Int.toNat x5) 0,0,Go.RowKit.wrap64 (x1-1))).bind fun y0=>(if (!y0)=Bool.true then some (Bool.false) else (if 0≤x5 then (if x5≤(↑(List.length x0):Int) then (if 0≤x5 then (if x5<(↑(List.length x0):Int) then ((zf114 n (List.take (Int.toNat x5) x0,List.getD x0 (Int.toNat x5) 0)).bind fun y1=>(if y1≥0 then some (Bool.false) else zf137.l2 n m2 (x0) (x1) (Go.RowKit.wrap64 (x5+1)))) else none) else none) else none) else none))) else none) else none) else some (Bool.true)):=by kernel_rfl
noncomputable abbrev zf137.sg (n:Nat):Sig:=⟨zf137.ps,zf137.res,zf137 n⟩
theorem zf137.call:Callable Tryz.prog 98:=⟨Tryz.f98,Tryz.func98,by kernel_rfl,by kernel_rfl⟩
theorem zf137.ok (n:Nat):FC Tryz.prog [] 98 (zf137.sg n):=
  evalF_ok (C:=zf137.C) ⟨tb_ok,fun n _ _ h=>tabOk (l:=[(60,(zf103.sg n)),(99,(zf114.sg n))]) (all_cons ⟨zf103.ok n,zf103.call⟩ (all_cons ⟨zf114.ok n,zf114.call⟩ (all_nil))) h,mixed,ar_ok,bld_ok,pts_ok⟩ zf137.A Tryz.func98 zf137.ps zf137.res n
abbrev zf136.ps:List Pm:=[.arg (.v (.slice zt8)),.arg (.v (.int .i64))]
abbrev zf136.res:List M:=[.v .bool]
noncomputable def zf136.C:Cfg:={ tb:=tb,tab:=fun n f=>Refl.look [(60,(zf103.sg n)),(98,(zf137.sg n)),(99,(zf114.sg n))] f,gl:=[],ar:=ar,bld:=bld,pts:=pts }
noncomputable def zf136.A:Ann:={ joins:=[],loops:=[(2,{ live:=[0,1,5],base:=57 })],ids:=[(5,[(21,[]),(26,[]),(39,[]),(47,[])]),(7,[(55,[])])],pids:=[],nroots:=121 }
noncomputable def zf136 (n:Nat) (x:List zt19 × Int):Option (Bool):=evalF zf136.C zf136.A Tryz.f58 zf136.ps zf136.res n x
noncomputable def zf136.K0 (_:Nat):Kont (Bool):=finK zf136.C (Func.results Tryz.f58).toList zf136.ps zf136.res
noncomputable def zf136.K1 (n:Nat):Kont (Bool):=seqK (fun s' k=>joinE zf136.A.joins (codeAt Tryz.f58 [1,1]) (fun s''=>evalC zf136.C zf136.A n (codeAt Tryz.f58 [1,1]) s'' k) s') (zf136.K0 n)
noncomputable def zf136.K2 (n:Nat):Kont (Bool):=blockK 0 (zf136.K1 n)
noncomputable def zf136.l2 (n m2:Nat) (x0:List zt19) (x1 x5:Int):Option (Bool):=loopE (cutAt zf136.A.loops (codeAt Tryz.f58 [1,0,1,0,0])) (fun s k=>evalC zf136.C zf136.A n (codeAt Tryz.f58 [1,0,1,0,0]) s k) m2 (St.of 57 121 [(0,.val (.slice zt8) x0),(1,.val (.int .i64) x1),(5,.val (.int .i64) x5)] [] []) (zf136.K2 n)
theorem zf136.eq (n:Nat) (x0:List zt19) (x1:Int):zf136 n (x0,x1)=zf136.l2 n n (x0) (x1) (0):=by kernel_rfl
theorem zf136.l2_succ (n m2:Nat) (x0:List zt19) (x1 x5:Int):zf136.l2 n (m2+1) x0 x1 x5=(if x5<(↑(List.length x0):Int) then (if 0≤x5 then (if x5<(↑(List.length x0):Int) then ((zf103 n (Prod.fst (List.getD x0 (Int.toNat x5) (0,0,[])),0,Go.RowKit.wrap64 (x1-1))).bind fun y0=>(if (!y0)=Bool.true then some (Bool.false) else ((zf103 n (Prod.fst (Prod.snd (List.getD x0 (Int.toNat x5) (0,0,[]))),1,100000)).bind fun y1=>(if (!y1)=Bool.true then some (Bool.false) else (if (↑(List.length (Prod.snd (Prod.snd (List.getD x0 (Int.toNat x5) ((0:Int),(0:Int),[]))))):Int)=0 then some (Bool.false) else ((zf137 n (Prod.snd (Prod.snd (List.getD x0 (Int.toNat x5) (0,0,[]))),x1)).bind fun y2=>(if (!y2)=Bool.true then some (Bool.false) else ((zf114 n (Prod.snd (Prod.snd (List.getD x0 (Int.toNat x5) (0,0,[]))),Prod.fst (List.getD x0 (Int.toNat x5) (0,0,[])))).bind fun y3=>(if y3≥0 then some (Bool.false) else zf136.l2 n m2 (x0) (x1) (Go.RowKit.wrap64 (x5+1))))))))))) else none) else none) else (if (↑(List.length x0):Int)≤16 then ((zf103 n (x1,1,12)).bind fun y4=>some (y4)) else some (Bool.false))):=by kernel_rfl
noncomputable abbrev zf136.sg (n:Nat):Sig:=⟨zf136.ps,zf136.res,zf136 n⟩
theorem zf136.call:Callable Tryz.prog 58:=⟨Tryz.f58,Tryz.func58,by kernel_rfl,by kernel_rfl⟩
theorem zf136.ok (n:Nat):FC Tryz.prog [] 58 (zf136.sg n):=
  evalF_ok (C:=zf136.C) ⟨tb_ok,fun n _ _ h=>tabOk (l:=[(60,(zf103.sg n)),(98,(zf137.sg n)),(99,(zf114.sg n))]) (all_cons ⟨zf103.ok n,zf103.call⟩ (all_cons ⟨zf137.ok n,zf137.call⟩ (all_cons ⟨zf114.ok n,zf114.call⟩ (all_nil)))) h,mixed,ar_ok,bld_ok,pts_ok⟩ zf136.A Tryz.func58 zf136.ps zf136.res n
abbrev zf134.ps:List Pm:=[.arg (.v (.int .i64))]
abbrev zf134.res:List M:=[.v .bool]
noncomputable def zf134.C:Cfg:={ tb:=tb,tab:=fun n f=>Refl.look [(60,(zf103.sg n))] f,gl:=[],ar:=ar,bld:=bld,pts:=pts }
noncomputable def zf134.A:Ann:={ joins:=[],loops:=[],ids:=[(1,[(4,[])])],pids:=[],nroots:=69 }
noncomputable def zf134 (n:Nat) (x:Int):Option (Bool):=evalF zf134.C zf134.A Tryz.f59 zf134.ps zf134.res n x
theorem zf134.eq (n:Nat) (x0:Int):zf134 n x0=((zf103 n (x0,0,1000000)).bind fun y0=>some (y0)):=by kernel_rfl
noncomputable abbrev zf134.sg (n:Nat):Sig:=⟨zf134.ps,zf134.res,zf134 n⟩
theorem zf134.call:Callable Tryz.prog 59:=⟨Tryz.f59,Tryz.func59,by kernel_rfl,by kernel_rfl⟩
theorem zf134.ok (n:Nat):FC Tryz.prog [] 59 (zf134.sg n):=
  evalF_ok (C:=zf134.C) ⟨tb_ok,fun n _ _ h=>tabOk (l:=[(60,(zf103.sg n))]) (all_cons ⟨zf103.ok n,zf103.call⟩ (all_nil)) h,mixed,ar_ok,bld_ok,pts_ok⟩ zf134.A Tryz.func59 zf134.ps zf134.res n
abbrev zf105.ps:List Pm:=[.arg (.v (.slice zt8))]
abbrev zf105.res:List M:=[.v (.int .i64)]
noncomputable def zf105.C:Cfg:={ tb:=tb,tab:=fun n f=>Refl.look [] f,gl:=[],ar:=ar,bld:=bld,pts:=pts }
noncomputable def zf105.A:Ann:={ joins:=[],loops:=[(3,{ live:=[0,3,4],base:=19 })],ids:=[],pids:=[],nroots:=83 }
noncomputable def zf105 (n:Nat) (x:List zt19):Option (Int):=evalF zf105.C zf105.A Tryz.f61 zf105.ps zf105.res n x
noncomputable def zf105.K0 (_:Nat):Kont (Int):=finK zf105.C (Func.results Tryz.f61).toList zf105.ps zf105.res
noncomputable def zf105.K1 (n:Nat):Kont (Int):=seqK (fun s' k=>joinE zf105.A.joins (codeAt Tryz.f61 [1,1,1]) (fun s''=>evalC zf105.C zf105.A n (codeAt Tryz.f61 [1,1,1]) s'' k) s') (zf105.K0 n)
noncomputable def zf105.K2 (n:Nat):Kont (Int):=blockK 0 (zf105.K1 n)
noncomputable def zf105.l3 (n m3:Nat) (x0:List zt19) (x3 x4:Int):Option (Int):=loopE (cutAt zf105.A.loops (codeAt Tryz.f61 [1,1,0,1,0,0])) (fun s k=>evalC zf105.C zf105.A n (codeAt Tryz.f61 [1,1,0,1,0,0]) s k) m3 (St.of 19 83 [(0,.val (.slice zt8) x0),(3,.val (.int .i64) x3),(4,.val (.int .i64) x4)] [] []) (zf105.K2 n)
theorem zf105.eq (n:Nat) (x0:List zt19):zf105 n x0=zf105.l3 n n (x0) (0) (0):=by kernel_rfl
theorem zf105.l3_succ (n m3:Nat) (x0:List zt19) (x3 x4:Int):zf105.l3 n (m3+1) x0 x3 x4=(if x4<(↑(List.length x0):Int) then (if 0≤x4 then (if x4<(↑(List.length x0):Int) then zf105.l3 n m3 (x0) (Go.RowKit.wrap64 (x3+Prod.fst (Prod.snd (List.getD x0 (Int.toNat x4) (0,0,[]))))) (Go.RowKit.wrap64 (x4+1)) else none) else none) else some (x3)):=by kernel_rfl
noncomputable abbrev zf105.sg (n:Nat):Sig:=⟨zf105.ps,zf105.res,zf105 n⟩
theorem zf105.call:Callable Tryz.prog 61:=⟨Tryz.f61,Tryz.func61,by kernel_rfl,by kernel_rfl⟩
theorem zf105.ok (n:Nat):FC Tryz.prog [] 61 (zf105.sg n):=
  evalF_ok (C:=zf105.C) ⟨tb_ok,fun n _ _ h=>tabOk (l:=[]) (all_nil) h,mixed,ar_ok,bld_ok,pts_ok⟩ zf105.A Tryz.func61 zf105.ps zf105.res n
abbrev zf133.ps:List Pm:=[.arg (.v (.slice (.int .i64)))]
abbrev zf133.res:List M:=[.v (.int .i64)]
noncomputable def zf133.C:Cfg:={ tb:=tb,tab:=fun n f=>Refl.look [] f,gl:=[],ar:=ar,bld:=bld,pts:=pts }
noncomputable def zf133.A:Ann:={ joins:=[],loops:=[(3,{ live:=[0,3,4],base:=18 })],ids:=[],pids:=[],nroots:=82 }
noncomputable def zf133 (n:Nat) (x:List Int):Option (Int):=evalF zf133.C zf133.A Tryz.f62 zf133.ps zf133.res n x
noncomputable def zf133.K0 (_:Nat):Kont (Int):=finK zf133.C (Func.results Tryz.f62).toList zf133.ps zf133.res
noncomputable def zf133.K1 (n:Nat):Kont (Int):=seqK (fun s' k=>joinE zf133.A.joins (codeAt Tryz.f62 [1,1,1]) (fun s''=>evalC zf133.C zf133.A n (codeAt Tryz.f62 [1,1,1]) s'' k) s') (zf133.K0 n)
noncomputable def zf133.K2 (n:Nat):Kont (Int):=blockK 0 (zf133.K1 n)
noncomputable def zf133.l3 (n m3:Nat) (x0:List Int) (x3 x4:Int):Option (Int):=loopE (cutAt zf133.A.loops (codeAt Tryz.f62 [1,1,0,1,0,0])) (fun s k=>evalC zf133.C zf133.A n (codeAt Tryz.f62 [1,1,0,1,0,0]) s k) m3 (St.of 18 82 [(0,.val (.slice (.int .i64)) x0),(3,.val (.int .i64) x3),(4,.val (.int .i64) x4)] [] []) (zf133.K2 n)
theorem zf133.eq (n:Nat) (x0:List Int):zf133 n x0=zf133.l3 n n (x0) (0) (0):=by kernel_rfl
theorem zf133.l3_succ (n m3:Nat) (x0:List Int) (x3 x4:Int):zf133.l3 n (m3+1) x0 x3 x4=(if x4<(↑(List.length x0):Int) then (if 0≤x4 then (if x4<(↑(List.length x0):Int) then zf133.l3 n m3 (x0) (Go.RowKit.wrap64 (x3+List.getD x0 (Int.toNat x4) 0)) (Go.RowKit.wrap64 (x4+1)) else none) else none) else some (x3)):=by kernel_rfl
noncomputable abbrev zf133.sg (n:Nat):Sig:=⟨zf133.ps,zf133.res,zf133 n⟩
theorem zf133.call:Callable Tryz.prog 62:=⟨Tryz.f62,Tryz.func62,by kernel_rfl,by kernel_rfl⟩
theorem zf133.ok (n:Nat):FC Tryz.prog [] 62 (zf133.sg n):=
  evalF_ok (C:=zf133.C) ⟨tb_ok,fun n _ _ h=>tabOk (l:=[]) (all_nil) h,mixed,ar_ok,bld_ok,pts_ok⟩ zf133.A Tryz.func62 zf133.ps zf133.res n
abbrev zf135.ps:List Pm:=[.arg (.v zt0)]
abbrev zf135.res:List M:=[.v .bool]
noncomputable def zf135.C:Cfg:={ tb:=tb,tab:=fun n f=>Refl.look [(57,(zf139.sg n)),(58,(zf136.sg n)),(59,(zf134.sg n)),(60,(zf103.sg n)),(61,(zf105.sg n)),(62,(zf133.sg n))] f,gl:=[],ar:=ar,bld:=bld,pts:=pts }
noncomputable def zf135.A:Ann:={ joins:=[],loops:=[],ids:=[(1,[(5,[]),(13,[]),(19,[]),(25,[]),(31,[])]),(3,[(38,[]),(42,[])])],pids:=[],nroots:=111 }
noncomputable def zf135 (n:Nat) (x:List Int × List zt19 × Int × Int × Int):Option (Bool):=evalF zf135.C zf135.A Tryz.f28 zf135.ps zf135.res n x
theorem zf135.eq (n:Nat) (x0:List Int × List zt19 × Int × Int × Int):zf135 n x0=((zf139 n x0.1).bind fun y0=>(if (!y0)=Bool.true then some (Bool.false) else ((zf136 n (x0.2.1,(↑(List.length x0.1):Int))).bind fun y1=>(if (!y1)=Bool.true then some (Bool.false) else ((zf134 n x0.2.2.1).bind fun y2=>(if (!y2)=Bool.true then some (Bool.false) else ((zf103 n (x0.2.2.2.1,(-1000000),1000000)).bind fun y3=>(if (!y3)=Bool.true then some (Bool.false) else ((zf103 n (x0.2.2.2.2,0,999)).bind fun y4=>(if (!y4)=true then some (Bool.false) else ((zf105 n x0.2.1).bind fun y5=>((zf133 n x0.1).bind fun y6=>some (Decidable.decide (Go.RowKit.wrap64 (x0.2.2.1+y5)=Go.RowKit.wrap64 (y6+x0.2.2.2.1))))))))))))))):=by kernel_rfl
noncomputable abbrev zf135.sg (n:Nat):Sig:=⟨zf135.ps,zf135.res,zf135 n⟩
theorem zf135.call:Callable Tryz.prog 28:=⟨Tryz.f28,Tryz.func28,by kernel_rfl,by kernel_rfl⟩
theorem zf135.ok (n:Nat):FC Tryz.prog [] 28 (zf135.sg n):=
  evalF_ok (C:=zf135.C) ⟨tb_ok,fun n _ _ h=>tabOk (l:=[(57,(zf139.sg n)),(58,(zf136.sg n)),(59,(zf134.sg n)),(60,(zf103.sg n)),(61,(zf105.sg n)),(62,(zf133.sg n))]) (all_cons ⟨zf139.ok n,zf139.call⟩ (all_cons ⟨zf136.ok n,zf136.call⟩ (all_cons ⟨zf134.ok n,zf134.call⟩ (all_cons ⟨zf103.ok n,zf103.call⟩ (all_cons ⟨zf105.ok n,zf105.call⟩ (all_cons ⟨zf133.ok n,zf133.call⟩ (all_nil))))))) h,mixed,ar_ok,bld_ok,pts_ok⟩ zf135.A Tryz.func28 zf135.ps zf135.res n
abbrev zf132.ps:List Pm:=[.arg (.v .str),.arg (.v (.int .u8))]
abbrev zf132.res:List M:=[(.own .str 9)]
noncomputable def zf132.C:Cfg:={ tb:=tb,tab:=fun n f=>Refl.look [] f,gl:=[],ar:=ar,bld:=bld,pts:=pts }
noncomputable def zf132.A:Ann:={ joins:=[],loops:=[(4,{ live:=[0,1,5,6,7],base:=35 })],ids:=[(7,[(25,[])]),(9,[(33,[])])],pids:=[],nroots:=99 }
noncomputable def zf132 (n:Nat) (x:ByteArray × Int):Option (List ByteArray):=evalF zf132.C zf132.A Tryz.f65 zf132.ps zf132.res n x
noncomputable def zf132.K0 (_:Nat):Kont (List ByteArray):=finK zf132.C (Func.results Tryz.f65).toList zf132.ps zf132.res
noncomputable def zf132.K1 (n:Nat):Kont (List ByteArray):=seqK (fun s' k=>joinE zf132.A.joins (codeAt Tryz.f65 [1,1,1,1]) (fun s''=>evalC zf132.C zf132.A n (codeAt Tryz.f65 [1,1,1,1]) s'' k) s') (zf132.K0 n)
noncomputable def zf132.K2 (n:Nat):Kont (List ByteArray):=blockK 0 (zf132.K1 n)
noncomputable def zf132.l4 (n m4:Nat) (x0:ByteArray) (x1 x6 x7:Int) (r35:List ByteArray):Option (List ByteArray):=loopE (cutAt zf132.A.loops (codeAt Tryz.f65 [1,1,1,0,1,0,0])) (fun s k=>evalC zf132.C zf132.A n (codeAt Tryz.f65 [1,1,1,0,1,0,0]) s k) m4 (St.of 35 99 [(0,.val .str x0),(1,.val (.int .u8) x1),(5,.own 35),(6,.val (.int .i64) x6),(7,.val (.int .i64) x7)] [(35,.row .str 9 r35)] []) (zf132.K2 n)
theorem zf132.eq (n:Nat) (x0:ByteArray) (x1:Int):zf132 n (x0,x1)=zf132.l4 n n (x0) (x1) (0) (0) (List.replicate 0 ByteArray.empty):=by kernel_rfl
theorem zf132.l4_succ (n m4:Nat) (x0:ByteArray) (x1 x6 x7:Int) (r35:List ByteArray):zf132.l4 n (m4+1) x0 x1 x6 x7 r35=(if x7<(↑(ByteArray.size x0):Int) then (if 0≤x7 then (if x7<(↑(ByteArray.size x0):Int) then (if (↑(UInt8.toNat (List.getD (Array.toList (ByteArray.data x0)) (Int.toNat x7) (0:UInt8))):Int)=x1 then (if 0≤x6 then (if x6≤x7 then (if x7≤(↑(ByteArray.size x0):Int) then (if List.length r35+List.length (List.set (List.replicate (1:Nat) ByteArray.empty) (0:Nat) (ByteArray.extract x0 (Int.toNat x6) (Int.toNat x7)))≤Go.Refl.maxN then zf132.l4 n m4 (x0) (x1) (Go.RowKit.wrap64 (x7+1)) (Go.RowKit.wrap64 (x7+1)) (r35++List.set (List.replicate 1 ByteArray.empty) 0 (ByteArray.extract x0 (Int.toNat x6) (Int.toNat x7))) else none) else none) else none) else none) else zf132.l4 n m4 (x0) (x1) (x6) (Go.RowKit.wrap64 (x7+1)) (r35)) else none) else none) else (if 0≤x6 then (if x6≤(↑(ByteArray.size x0):Int) then (if List.length r35+List.length (List.set (List.replicate (1:Nat) ByteArray.empty) (0:Nat) (ByteArray.extract x0 (Int.toNat x6) (ByteArray.size x0)))≤Go.Refl.maxN then some (r35++List.set (List.replicate 1 ByteArray.empty) 0 (ByteArray.extract x0 (Int.toNat x6) (ByteArray.size x0))) else none) else none) else none)):=by kernel_rfl
noncomputable abbrev zf132.sg (n:Nat):Sig:=⟨zf132.ps,zf132.res,zf132 n⟩
theorem zf132.call:Callable Tryz.prog 65:=⟨Tryz.f65,Tryz.func65,by kernel_rfl,by kernel_rfl⟩
theorem zf132.ok (n:Nat):FC Tryz.prog [] 65 (zf132.sg n):=
  evalF_ok (C:=zf132.C) ⟨tb_ok,fun n _ _ h=>tabOk (l:=[]) (all_nil) h,mixed,ar_ok,bld_ok,pts_ok⟩ zf132.A Tryz.func65 zf132.ps zf132.res n
abbrev zf112.ps:List Pm:=[.arg (.v (.int .i64))]
abbrev zf112.res:List M:=[.v .str]
noncomputable def zf112.C (self:pdens zf112.ps→Option (dens (zf112.res++outs zf112.ps))):Cfg:={ tb:=tb,tab:=fun n f=>Refl.look [(69,{ params:=zf112.ps,res:=zf112.res,run:=self })] f,gl:=[],ar:=ar,bld:=bld,pts:=pts }
noncomputable def zf112.A:Ann:={ joins:=[],loops:=[],ids:=[(3,[(11,[]),(14,[])])],pids:=[],nroots:=80 }
noncomputable def zf112.S (self:Int→Option ByteArray) (n:Nat) (x:Int):Option (ByteArray):=evalF (zf112.C self) zf112.A Tryz.f69 zf112.ps zf112.res n x
noncomputable def zf112 (n:Nat):Int→Option (ByteArray):=Nat.rec (fun _=>none) (fun n self=>zf112.S self n) n
theorem zf112.zero (x:Int):zf112 0 x=none:=rfl
theorem zf112.succ (n:Nat) (x:Int):zf112 (n+1) x=zf112.S (zf112 n) n x:=by kernel_rfl
theorem zf112.eq (self:Int→Option ByteArray) (n:Nat) (x0:Int):zf112.S self n x0=(if x0<10 then (if 0≤x0 then (if x0≤Go.RowKit.wrap64 (x0+1) then (if Go.RowKit.wrap64 (x0+1)≤(↑(ByteArray.size { data:=#[(48:UInt8),(49:UInt8),(50:UInt8),(51:UInt8),(52:UInt8),(53:UInt8),(54:UInt8),(55:UInt8),(56:UInt8),(57:UInt8)] }):Int) then some (ByteArray.extract { data:=#[(48:UInt8),(49:UInt8),(50:UInt8),(51:UInt8),(52:UInt8),(53:UInt8),(54:UInt8),(55:UInt8),(56:UInt8),(57:UInt8)] } (Int.toNat x0) (Int.toNat (Go.RowKit.wrap64 (x0+1)))) else none) else none) else none) else ((self (Go.RowKit.wrap64 (Int.tdiv x0 10))).bind fun y0=>((self (Int.tmod x0 10)).bind fun y1=>(if ByteArray.size y0+ByteArray.size y1≤Go.Refl.maxN then some (y0++y1) else none)))):=by kernel_rfl
noncomputable abbrev zf112.sg (n:Nat):Sig:=⟨zf112.ps,zf112.res,zf112 n⟩
theorem zf112.call:Callable Tryz.prog 69:=⟨Tryz.f69,Tryz.func69,by kernel_rfl,by kernel_rfl⟩
theorem zf112.okS {self:pdens zf112.ps→Option (dens (zf112.res++outs zf112.ps))} (hs:FC Tryz.prog [] 69 { params:=zf112.ps,res:=zf112.res,run:=self }) (n:Nat):FC Tryz.prog [] 69 { params:=zf112.ps,res:=zf112.res,run:=zf112.S self n }:=
  evalF_ok (C:=zf112.C self) ⟨tb_ok,fun n _ _ h=>tabOk (l:=[(69,{ params:=zf112.ps,res:=zf112.res,run:=self })]) (all_cons ⟨hs,zf112.call⟩ (all_nil)) h,mixed,ar_ok,bld_ok,pts_ok⟩ zf112.A Tryz.func69 zf112.ps zf112.res n
theorem zf112.ok:(n:Nat)→FC Tryz.prog [] 69 (zf112.sg n)
  | 0=>fun _ _ h=>by cases h
  | n+1=>zf112.okS (zf112.ok n) n
abbrev zf118.ps:List Pm:=[.arg (.v .str)]
abbrev zf118.res:List M:=[.v (.int .i64)]
noncomputable def zf118.C:Cfg:={ tb:=tb,tab:=fun n f=>Refl.look [(69,(zf112.sg n))] f,gl:=[],ar:=ar,bld:=bld,pts:=pts }
noncomputable def zf118.A:Ann:={ joins:=[],loops:=[(3,{ live:=[0,3,4],base:=42 })],ids:=[(8,[(38,[])])],pids:=[],nroots:=106 }
noncomputable def zf118 (n:Nat) (x:ByteArray):Option (Int):=evalF zf118.C zf118.A Tryz.f67 zf118.ps zf118.res n x
noncomputable def zf118.K0 (_:Nat):Kont (Int):=finK zf118.C (Func.results Tryz.f67).toList zf118.ps zf118.res
noncomputable def zf118.K1 (n:Nat):Kont (Int):=seqK (fun s' k=>joinE zf118.A.joins (codeAt Tryz.f67 [1,1,1]) (fun s''=>evalC zf118.C zf118.A n (codeAt Tryz.f67 [1,1,1]) s'' k) s') (zf118.K0 n)
noncomputable def zf118.K2 (n:Nat):Kont (Int):=blockK 0 (zf118.K1 n)
noncomputable def zf118.l3 (n m3:Nat) (x0:ByteArray) (x3 x4:Int):Option (Int):=loopE (cutAt zf118.A.loops (codeAt Tryz.f67 [1,1,0,1,0,0])) (fun s k=>evalC zf118.C zf118.A n (codeAt Tryz.f67 [1,1,0,1,0,0]) s k) m3 (St.of 42 106 [(0,.val .str x0),(3,.val (.int .i64) x3),(4,.val (.int .i64) x4)] [] []) (zf118.K2 n)
theorem zf118.eq (n:Nat) (x0:ByteArray):zf118 n x0=zf118.l3 n n (x0) (0) (0):=by kernel_rfl
theorem zf118.l3_succ (n m3:Nat) (x0:ByteArray) (x3 x4:Int):zf118.l3 n (m3+1) x0 x3 x4=(if x4<(↑(ByteArray.size x0):Int) then (if 0≤x4 then (if x4<(↑(ByteArray.size x0):Int) then (if (↑(UInt8.toNat (List.getD (Array.toList (ByteArray.data x0)) (Int.toNat x4) (0:UInt8))):Int)<48 then some ((-1)) else (if 0≤x4 then (if x4<(↑(ByteArray.size x0):Int) then (if (↑(UInt8.toNat (List.getD (Array.toList (ByteArray.data x0)) (Int.toNat x4) (0:UInt8))):Int) > 57 then some ((-1)) else (if x3 > 999999 then some ((-1)) else (if 0≤x4 then (if x4<(↑(ByteArray.size x0):Int) then zf118.l3 n m3 (x0) (Go.RowKit.wrap64 (Go.RowKit.wrap64 (10*x3)+Go.RowKit.wrap64 (((↑(UInt8.toNat (List.getD (Array.toList (ByteArray.data x0)) (Int.toNat x4) (0:UInt8))):Int)-48) % 256))) (Go.RowKit.wrap64 (x4+1)) else none) else none))) else none) else none)) else none) else none) else (if x0={ data:=#[] } then some ((-1)) else ((zf112 n x3).bind fun y0=>(if x0=y0 then some (x3) else some ((-1)))))):=by kernel_rfl
noncomputable abbrev zf118.sg (n:Nat):Sig:=⟨zf118.ps,zf118.res,zf118 n⟩
theorem zf118.call:Callable Tryz.prog 67:=⟨Tryz.f67,Tryz.func67,by kernel_rfl,by kernel_rfl⟩
theorem zf118.ok (n:Nat):FC Tryz.prog [] 67 (zf118.sg n):=
  evalF_ok (C:=zf118.C) ⟨tb_ok,fun n _ _ h=>tabOk (l:=[(69,(zf112.sg n))]) (all_cons ⟨zf112.ok n,zf112.call⟩ (all_nil)) h,mixed,ar_ok,bld_ok,pts_ok⟩ zf118.A Tryz.func67 zf118.ps zf118.res n
abbrev zf117.ps:List Pm:=[.arg (.v .str)]
abbrev zf117.res:List M:=[.v (.int .i64)]
noncomputable def zf117.C:Cfg:={ tb:=tb,tab:=fun n f=>Refl.look [] f,gl:=[],ar:=ar,bld:=bld,pts:=pts }
noncomputable def zf117.A:Ann:={ joins:=[],loops:=[(5,{ live:=[0,3,4],base:=63 })],ids:=[],pids:=[],nroots:=127 }
noncomputable def zf117 (n:Nat) (x:ByteArray):Option (Int):=evalF zf117.C zf117.A Tryz.f134 zf117.ps zf117.res n x
noncomputable def zf117.K0 (_:Nat):Kont (Int):=finK zf117.C (Func.results Tryz.f134).toList zf117.ps zf117.res
noncomputable def zf117.K1 (n:Nat):Kont (Int):=seqK (fun s' k=>joinE zf117.A.joins (codeAt Tryz.f134 [1,1,1,1]) (fun s''=>evalC zf117.C zf117.A n (codeAt Tryz.f134 [1,1,1,1]) s'' k) s') (zf117.K0 n)
noncomputable def zf117.K2 (n:Nat):Kont (Int):=blockK 0 (zf117.K1 n)
noncomputable def zf117.l5 (n m5:Nat) (x0:ByteArray) (x3 x4:Int):Option (Int):=loopE (cutAt zf117.A.loops (codeAt Tryz.f134 [1,1,1,0,1,0,0])) (fun s k=>evalC zf117.C zf117.A n (codeAt Tryz.f134 [1,1,1,0,1,0,0]) s k) m5 (St.of 63 127 [(0,.val .str x0),(3,.val (.int .i64) x3),(4,.val (.int .i64) x4)] [] []) (zf117.K2 n)
theorem zf117.eq (n:Nat) (x0:ByteArray):zf117 n x0=(if (↑(ByteArray.size x0):Int)<4 then some ((-1)) else (if (↑(ByteArray.size x0):Int) > 10 then some ((-1)) else (if 0≤Go.RowKit.wrap64 ((↑(ByteArray.size x0):Int)-3) then (if Go.RowKit.wrap64 ((↑(ByteArray.size x0):Int)-3)<(↑(ByteArray.size x0):Int) then (if (↑(UInt8.toNat (List.getD (Array.toList (ByteArray.data x0)) (Int.toNat (Go.RowKit.wrap64 ((↑(ByteArray.size x0):Int)-3))) (0:UInt8))):Int)=46 then (if 0<(↑(ByteArray.size x0):Int) then (if (↑(UInt8.toNat (List.getD (Array.toList (ByteArray.data x0)) (Int.toNat 0) (0:UInt8))):Int)=48 then (if (↑(ByteArray.size x0):Int) > 4 then some ((-1)) else zf117.l5 n n (x0) (0) (0)) else zf117.l5 n n (x0) (0) (0)) else none) else some ((-1))) else none) else none))):=by kernel_rfl
theorem zf117.l5_succ (n m5:Nat) (x0:ByteArray) (x3 x4:Int):zf117.l5 n (m5+1) x0 x3 x4=(if x4<(↑(ByteArray.size x0):Int) then (if x4=Go.RowKit.wrap64 ((↑(ByteArray.size x0):Int)-3) then zf117.l5 n m5 (x0) (x3) (Go.RowKit.wrap64 (x4+1)) else (if 0≤x4 then (if x4<(↑(ByteArray.size x0):Int) then (if (↑(UInt8.toNat (List.getD (Array.toList (ByteArray.data x0)) (Int.toNat x4) (0:UInt8))):Int)<48 then some ((-1)) else (if 0≤x4 then (if x4<(↑(ByteArray.size x0):Int) then (if (↑(UInt8.toNat (List.getD (Array.toList (ByteArray.data x0)) (Int.toNat x4) (0:UInt8))):Int) > 57 then some ((-1)) else (if 0≤x4 then (if x4<(↑(ByteArray.size x0):Int) then zf117.l5 n m5 (x0) (Go.RowKit.wrap64 (Go.RowKit.wrap64 (10*x3)+Go.RowKit.wrap64 (((↑(UInt8.toNat (List.getD (Array.toList (ByteArray.data x0)) (Int.toNat x4) (0:UInt8))):Int)-48) % 256))) (Go.RowKit.wrap64 (x4+1)) else none) else none)) else none) else none)) else none) else none)) else (if x3 > 1000000 then some ((-1)) else some (x3))):=by kernel_rfl
noncomputable abbrev zf117.sg (n:Nat):Sig:=⟨zf117.ps,zf117.res,zf117 n⟩
theorem zf117.call:Callable Tryz.prog 134:=⟨Tryz.f134,Tryz.func134,by kernel_rfl,by kernel_rfl⟩
theorem zf117.ok (n:Nat):FC Tryz.prog [] 134 (zf117.sg n):=
  evalF_ok (C:=zf117.C) ⟨tb_ok,fun n _ _ h=>tabOk (l:=[]) (all_nil) h,mixed,ar_ok,bld_ok,pts_ok⟩ zf117.A Tryz.func134 zf117.ps zf117.res n
abbrev zf116.ps:List Pm:=[.arg (.v (.slice .str))]
abbrev zf116.res:List M:=[.v zt1]
noncomputable def zf116.C:Cfg:={ tb:=tb,tab:=fun n f=>Refl.look [(67,(zf118.sg n)),(134,(zf117.sg n))] f,gl:=[],ar:=ar,bld:=bld,pts:=pts }
noncomputable def zf116.A:Ann:={ joins:=[],loops:=[(3,{ live:=[0,2,3,4],base:=31,growB:=[(3,4,59,(.int .i64),3)] })],ids:=[(1,[(8,[]),(12,[])]),(5,[(26,[]),(27,[])])],pids:=[],nroots:=95 }
noncomputable def zf116 (n:Nat) (x:List ByteArray):Option zt14:=evalF zf116.C zf116.A Tryz.f135 zf116.ps zf116.res n x
noncomputable def zf116.K0 (_:Nat):Kont zt14:=finK zf116.C (Func.results Tryz.f135).toList zf116.ps zf116.res
noncomputable def zf116.K1 (n:Nat):Kont zt14:=seqK (fun s' k=>joinE zf116.A.joins (codeAt Tryz.f135 [1,1,1]) (fun s''=>evalC zf116.C zf116.A n (codeAt Tryz.f135 [1,1,1]) s'' k) s') (zf116.K0 n)
noncomputable def zf116.K2 (n:Nat):Kont zt14:=blockK 0 (zf116.K1 n)
noncomputable def zf116.l3 (n m3:Nat) (x0:List ByteArray) (x4 r31_0:Int) (r31_1 r31_2:Int) (r31_3 r31_5:Int) (r31_6 r32_0:Int) (r32_1 r32_2:Int) (r32_3 r32_5 r32_6:Int) (r33:List Int):Option zt14:=loopE (cutAt zf116.A.loops (codeAt Tryz.f135 [1,1,0,1,0,0])) (fun s k=>evalC zf116.C zf116.A n (codeAt Tryz.f135 [1,1,0,1,0,0]) s k) m3 (St.of 31 95 [(0,.val (.slice .str) x0),(2,.ptr 31 0 0),(3,.ptr 32 0 0),(4,.val (.int .i64) x4)] [(31,.box 72 [.val (.int .i64) r31_0,.val (.int .i64) r31_1,.val (.int .i64) r31_2,.val (.int .i64) r31_3,.nils,.val (.int .i64) r31_5,.val (.int .i64) r31_6]),(32,.box 72 [.val (.int .i64) r32_0,.val (.int .i64) r32_1,.val (.int .i64) r32_2,.val (.int .i64) r32_3,.own 33,.val (.int .i64) r32_5,.val (.int .i64) r32_6]),(33,.row (.int .i64) 3 r33)] []) (zf116.K2 n)
theorem zf116.eq (n:Nat) (x0:List ByteArray):zf116 n x0=(if 1<(↑(List.length x0):Int) then ((zf118 n (List.getD x0 1 ByteArray.empty)).bind fun y0=>(if 2<(↑(List.length x0):Int) then ((zf117 n (List.getD x0 2 ByteArray.empty)).bind fun y1=>zf116.l3 n n (x0) (3) (0) (0) (0) (0) (0) (0) (3) (y0) (y1) (0) (0) (0) ([])) else none)) else none):=by kernel_rfl
theorem zf116.l3_succ (n m3:Nat) (x0:List ByteArray) (x4 r31_0:Int) (r31_1 r31_2:Int) (r31_3 r31_5:Int) (r31_6 r32_0:Int) (r32_1 r32_2:Int) (r32_3 r32_5 r32_6:Int) (r33:List Int):zf116.l3 n (m3+1) x0 x4 r31_0 r31_1 r31_2 r31_3 r31_5 r31_6 r32_0 r32_1 r32_2 r32_3 r32_5 r32_6 r33=(if x4<(↑(List.length x0):Int) then (if 0≤x4 then (if x4<(↑(List.length x0):Int) then ((zf118 n (List.getD x0 (Int.toNat x4) ByteArray.empty)).bind fun y2=>(if List.length r33+List.length (List.set (List.replicate (1:Nat) (0:Int)) (0:Nat) y2)≤Go.Refl.maxN then zf116.l3 n m3 (x0) (Go.RowKit.wrap64 (x4+1)) (r31_0) (r31_1) (r31_2) (r31_3) (r31_5) (r31_6) (r32_0) (r32_1) (r32_2) (r32_3) (r32_5) (r32_6) (r33++List.set (List.replicate 1 0) 0 y2) else none)) else none) else none) else some ((r32_0,r32_1,r32_2,r32_3,r33,r32_5,r32_6))):=by kernel_rfl
noncomputable abbrev zf116.sg (n:Nat):Sig:=⟨zf116.ps,zf116.res,zf116 n⟩
theorem zf116.call:Callable Tryz.prog 135:=⟨Tryz.f135,Tryz.func135,by kernel_rfl,by kernel_rfl⟩
theorem zf116.ok (n:Nat):FC Tryz.prog [] 135 (zf116.sg n):=
  evalF_ok (C:=zf116.C) ⟨tb_ok,fun n _ _ h=>tabOk (l:=[(67,(zf118.sg n)),(134,(zf117.sg n))]) (all_cons ⟨zf118.ok n,zf118.call⟩ (all_cons ⟨zf117.ok n,zf117.call⟩ (all_nil))) h,mixed,ar_ok,bld_ok,pts_ok⟩ zf116.A Tryz.func135 zf116.ps zf116.res n
abbrev zf115.ps:List Pm:=[.arg (.v (.slice .str))]
abbrev zf115.res:List M:=[.v zt1,.v .bool]
noncomputable def zf115.C:Cfg:={ tb:=tb,tab:=fun n f=>Refl.look [(67,(zf118.sg n)),(134,(zf117.sg n)),(135,(zf116.sg n))] f,gl:=[],ar:=ar,bld:=bld,pts:=pts }
noncomputable def zf115.A:Ann:={ joins:=[(3,{ live:=[0,2,4,7],base:=130 }),(5,{ live:=[0,2,4,17],base:=130 }),(7,{ live:=[0,2,4,27],base:=130 }),(9,{ live:=[0,2,4,46],base:=130 }),(11,{ live:=[0,2,4,60],base:=130 }),(13,{ live:=[0,2,4,78],base:=130 }),(15,{ live:=[0,2,4,96],base:=130 }),(17,{ live:=[0,2,118],base:=130 })],loops:=[],ids:=[(7,[(39,[]),(43,[])]),(9,[(58,[])]),(11,[(72,[]),(76,[])]),(13,[(90,[]),(94,[])]),(15,[(108,[]),(112,[]),(116,[])]),(17,[(128,[])])],pids:=[],nroots:=194 }
noncomputable def zf115 (n:Nat) (x:List ByteArray):Option zt11:=evalF zf115.C zf115.A Tryz.f108 zf115.ps zf115.res n x
noncomputable def zf115.K0 (_:Nat):Kont zt11:=finK zf115.C (Func.results Tryz.f108).toList zf115.ps zf115.res
noncomputable def zf115.K1 (n:Nat):Kont zt11:=seqK (fun s' k=>joinE zf115.A.joins (codeAt Tryz.f108 [1,1,1]) (fun s''=>evalC zf115.C zf115.A n (codeAt Tryz.f108 [1,1,1]) s'' k) s') (zf115.K0 n)
noncomputable def zf115.K2 (n:Nat):Kont zt11:=blockK 0 (zf115.K1 n)
noncomputable def zf115.j3 (n:Nat) (x0:List ByteArray) (x4:Int) (x7:Bool) (r130_0 r130_1:Int) (r130_2 r130_3:Int) (r130_5 r130_6:Int):Option zt11:=holdF (fun s=>evalC zf115.C zf115.A n (codeAt Tryz.f108 [1,1,0,0,1]) s (zf115.K2 n)) (St.of 130 194 [(0,.val (.slice .str) x0),(2,.ptr 130 0 0),(4,.val (.int .i64) x4),(7,.val .bool x7)] [(130,.box 72 [.val (.int .i64) r130_0,.val (.int .i64) r130_1,.val (.int .i64) r130_2,.val (.int .i64) r130_3,.nils,.val (.int .i64) r130_5,.val (.int .i64) r130_6])] [])
noncomputable def zf115.j5 (n:Nat) (x0:List ByteArray) (x4:Int) (x17:Bool) (r130_0 r130_1:Int) (r130_2 r130_3:Int) (r130_5 r130_6:Int):Option zt11:=holdF (fun s=>evalC zf115.C zf115.A n (codeAt Tryz.f108 [1,1,0,0,1,1,1]) s (zf115.K2 n)) (St.of 130 194 [(0,.val (.slice .str) x0),(2,.ptr 130 0 0),(4,.val (.int .i64) x4),(17,.val .bool x17)] [(130,.box 72 [.val (.int .i64) r130_0,.val (.int .i64) r130_1,.val (.int .i64) r130_2,.val (.int .i64) r130_3,.nils,.val (.int .i64) r130_5,.val (.int .i64) r130_6])] [])
noncomputable def zf115.j7 (n:Nat) (x0:List ByteArray) (x4:Int) (x27:Bool) (r130_0 r130_1:Int) (r130_2 r130_3:Int) (r130_5 r130_6:Int):Option zt11:=holdF (fun s=>evalC zf115.C zf115.A n (codeAt Tryz.f108 [1,1,0,0,1,1,1,1,1]) s (zf115.K2 n)) (St.of 130 194 [(0,.val (.slice .str) x0),(2,.ptr 130 0 0),(4,.val (.int .i64) x4),(27,.val .bool x27)] [(130,.box 72 [.val (.int .i64) r130_0,.val (.int .i64) r130_1,.val (.int .i64) r130_2,.val (.int .i64) r130_3,.nils,.val (.int .i64) r130_5,.val (.int .i64) r130_6])] [])
noncomputable def zf115.j9 (n:Nat) (x0:List ByteArray) (x4:Int) (x46:Bool) (r130_0 r130_1:Int) (r130_2 r130_3:Int) (r130_5 r130_6:Int):Option zt11:=holdF (fun s=>evalC zf115.C zf115.A n (codeAt Tryz.f108 [1,1,0,0,1,1,1,1,1,1,1]) s (zf115.K2 n)) (St.of 130 194 [(0,.val (.slice .str) x0),(2,.ptr 130 0 0),(4,.val (.int .i64) x4),(46,.val .bool x46)] [(130,.box 72 [.val (.int .i64) r130_0,.val (.int .i64) r130_1,.val (.int .i64) r130_2,.val (.int .i64) r130_3,.nils,.val (.int .i64) r130_5,.val (.int .i64) r130_6])] [])
noncomputable def zf115.j11 (n:Nat) (x0:List ByteArray) (x4:Int) (x60:Bool) (r130_0 r130_1:Int) (r130_2 r130_3:Int) (r130_5 r130_6:Int):Option zt11:=holdF (fun s=>evalC zf115.C zf115.A n (codeAt Tryz.f108 [1,1,0,0,1,1,1,1,1,1,1,1,1]) s (zf115.K2 n)) (St.of 130 194 [(0,.val (.slice .str) x0),(2,.ptr 130 0 0),(4,.val (.int .i64) x4),(60,.val .bool x60)] [(130,.box 72 [.val (.int .i64) r130_0,.val (.int .i64) r130_1,.val (.int .i64) r130_2,.val (.int .i64) r130_3,.nils,.val (.int .i64) r130_5,.val (.int .i64) r130_6])] [])
noncomputable def zf115.j13 (n:Nat) (x0:List ByteArray) (x4:Int) (x78:Bool) (r130_0 r130_1:Int) (r130_2 r130_3:Int) (r130_5 r130_6:Int):Option zt11:=holdF (fun s=>evalC zf115.C zf115.A n (codeAt Tryz.f108 [1,1,0,0,1,1,1,1,1,1,1,1,1,1,1]) s (zf115.K2 n)) (St.of 130 194 [(0,.val (.slice .str) x0),(2,.ptr 130 0 0),(4,.val (.int .i64) x4),(78,.val .bool x78)] [(130,.box 72 [.val (.int .i64) r130_0,.val (.int .i64) r130_1,.val (.int .i64) r130_2,.val (.int .i64) r130_3,.nils,.val (.int .i64) r130_5,.val (.int .i64) r130_6])] [])
noncomputable def zf115.j15 (n:Nat) (x0:List ByteArray) (x4:Int) (x96:Bool) (r130_0 r130_1:Int) (r130_2 r130_3:Int) (r130_5 r130_6:Int):Option zt11:=holdF (fun s=>evalC zf115.C zf115.A n (codeAt Tryz.f108 [1,1,0,0,1,1,1,1,1,1,1,1,1,1,1,1,1]) s (zf115.K2 n)) (St.of 130 194 [(0,.val (.slice .str) x0),(2,.ptr 130 0 0),(4,.val (.int .i64) x4),(96,.val .bool x96)] [(130,.box 72 [.val (.int .i64) r130_0,.val (.int .i64) r130_1,.val (.int .i64) r130_2,.val (.int .i64) r130_3,.nils,.val (.int .i64) r130_5,.val (.int .i64) r130_6])] [])
noncomputable def zf115.j17 (n:Nat) (x0:List ByteArray) (x118:Bool) (r130_0 r130_1:Int) (r130_2 r130_3:Int) (r130_5 r130_6:Int):Option zt11:=holdF (fun s=>evalC zf115.C zf115.A n (codeAt Tryz.f108 [1,1,0,0,1,1,1,1,1,1,1,1,1,1,1,1,1,1,1]) s (zf115.K2 n)) (St.of 130 194 [(0,.val (.slice .str) x0),(2,.ptr 130 0 0),(118,.val .bool x118)] [(130,.box 72 [.val (.int .i64) r130_0,.val (.int .i64) r130_1,.val (.int .i64) r130_2,.val (.int .i64) r130_3,.nils,.val (.int .i64) r130_5,.val (.int .i64) r130_6])] [])
theorem zf115.eq (n:Nat) (x0:List ByteArray):zf115 n x0=(if 0<(↑(List.length x0):Int) then (if List.getD x0 0 ByteArray.empty={ data:=#[(106:UInt8),(111:UInt8),(105:UInt8),(110:UInt8)] } then zf115.j3 n (x0) ((↑(List.length x0):Int)) (Decidable.decide ((↑(List.length x0):Int)=1)) (0) (0) (0) (0) (0) (0) else zf115.j3 n (x0) ((↑(List.length x0):Int)) (Bool.false) (0) (0) (0) (0) (0) (0)) else none):=by kernel_rfl
theorem zf115.j3_eq (n:Nat) (x0:List ByteArray) (x4:Int) (x7:Bool) (r130_0 r130_1:Int) (r130_2 r130_3:Int) (r130_5 r130_6:Int):zf115.j3 n x0 x4 x7 r130_0 r130_1 r130_2 r130_3 r130_5 r130_6=(if (x7)=true then some (((0,0,0,0,[],0,0),Bool.true)) else (if 0<(↑(List.length x0):Int) then (if List.getD x0 0 ByteArray.empty={ data:=#[(115:UInt8),(104:UInt8),(97:UInt8),(114:UInt8),(101:UInt8)] } then zf115.j5 n (x0) (x4) (Decidable.decide (x4=1)) (r130_0) (r130_1) (r130_2) (r130_3) (r130_5) (r130_6) else zf115.j5 n (x0) (x4) (Bool.false) (r130_0) (r130_1) (r130_2) (r130_3) (r130_5) (r130_6)) else none)):=(holdF_eq _ _).trans (by kernel_rfl)
theorem zf115.j5_eq (n:Nat) (x0:List ByteArray) (x4:Int) (x17:Bool) (r130_0 r130_1:Int) (r130_2 r130_3:Int) (r130_5 r130_6:Int):zf115.j5 n x0 x4 x17 r130_0 r130_1 r130_2 r130_3 r130_5 r130_6=(if (x17)=true then some (((7,0,0,0,[],0,0),Bool.true)) else (if 0<(↑(List.length x0):Int) then (if List.getD x0 0 ByteArray.empty={ data:=#[(110:UInt8),(105:UInt8),(103:UInt8),(104:UInt8),(116:UInt8)] } then zf115.j7 n (x0) (x4) (Decidable.decide (x4=3)) (r130_0) (r130_1) (r130_2) (r130_3) (r130_5) (r130_6) else zf115.j7 n (x0) (x4) (Bool.false) (r130_0) (r130_1) (r130_2) (r130_3) (r130_5) (r130_6)) else none)):=(holdF_eq _ _).trans (by kernel_rfl)
theorem zf115.j7_eq (n:Nat) (x0:List ByteArray) (x4:Int) (x27:Bool) (r130_0 r130_1:Int) (r130_2 r130_3:Int) (r130_5 r130_6:Int):zf115.j7 n x0 x4 x27 r130_0 r130_1 r130_2 r130_3 r130_5 r130_6=(if (x27)=true then (if 1<(↑(List.length x0):Int) then ((zf118 n (List.getD x0 1 ByteArray.empty)).bind fun y0=>(if 2<(↑(List.length x0):Int) then ((zf118 n (List.getD x0 2 ByteArray.empty)).bind fun y1=>some (((6,0,0,0,[],y0,y1),Bool.true))) else none)) else none) else (if 0<(↑(List.length x0):Int) then (if List.getD x0 0 ByteArray.empty={ data:=#[(102:UInt8),(97:UInt8),(105:UInt8),(108:UInt8)] } then zf115.j9 n (x0) (x4) (Decidable.decide (x4=2)) (r130_0) (r130_1) (r130_2) (r130_3) (r130_5) (r130_6) else zf115.j9 n (x0) (x4) (Bool.false) (r130_0) (r130_1) (r130_2) (r130_3) (r130_5) (r130_6)) else none)):=(holdF_eq _ _).trans (by kernel_rfl)
theorem zf115.j9_eq (n:Nat) (x0:List ByteArray) (x4:Int) (x46:Bool) (r130_0 r130_1:Int) (r130_2 r130_3:Int) (r130_5 r130_6:Int):zf115.j9 n x0 x4 x46 r130_0 r130_1 r130_2 r130_3 r130_5 r130_6=(if (x46)=true then (if 1<(↑(List.length x0):Int) then ((zf118 n (List.getD x0 1 ByteArray.empty)).bind fun y2=>some (((5,y2,0,0,[],0,0),Bool.true))) else none) else (if 0<(↑(List.length x0):Int) then (if List.getD x0 0 ByteArray.empty={ data:=#[(115:UInt8),(97:UInt8),(118:UInt8),(101:UInt8)] } then zf115.j11 n (x0) (x4) (Decidable.decide (x4=3)) (r130_0) (r130_1) (r130_2) (r130_3) (r130_5) (r130_6) else zf115.j11 n (x0) (x4) (Bool.false) (r130_0) (r130_1) (r130_2) (r130_3) (r130_5) (r130_6)) else none)):=(holdF_eq _ _).trans (by kernel_rfl)
theorem zf115.j11_eq (n:Nat) (x0:List ByteArray) (x4:Int) (x60:Bool) (r130_0 r130_1:Int) (r130_2 r130_3:Int) (r130_5 r130_6:Int):zf115.j11 n x0 x4 x60 r130_0 r130_1 r130_2 r130_3 r130_5 r130_6=(if (x60)=true then (if 1<(↑(List.length x0):Int) then ((zf118 n (List.getD x0 1 ByteArray.empty)).bind fun y3=>(if 2<(↑(List.length x0):Int) then ((zf117 n (List.getD x0 2 ByteArray.empty)).bind fun y4=>some (((1,y3,y4,0,[],0,0),Bool.true))) else none)) else none) else (if 0<(↑(List.length x0):Int) then (if List.getD x0 0 ByteArray.empty={ data:=#[(116:UInt8),(97:UInt8),(107:UInt8),(101:UInt8)] } then zf115.j13 n (x0) (x4) (Decidable.decide (x4=3)) (r130_0) (r130_1) (r130_2) (r130_3) (r130_5) (r130_6) else zf115.j13 n (x0) (x4) (Bool.false) (r130_0) (r130_1) (r130_2) (r130_3) (r130_5) (r130_6)) else none)):=(holdF_eq _ _).trans (by kernel_rfl)
theorem zf115.j13_eq (n:Nat) (x0:List ByteArray) (x4:Int) (x78:Bool) (r130_0 r130_1:Int) (r130_2 r130_3:Int) (r130_5 r130_6:Int):zf115.j13 n x0 x4 x78 r130_0 r130_1 r130_2 r130_3 r130_5 r130_6=(if (x78)=true then (if 1<(↑(List.length x0):Int) then ((zf118 n (List.getD x0 1 ByteArray.empty)).bind fun y5=>(if 2<(↑(List.length x0):Int) then ((zf117 n (List.getD x0 2 ByteArray.empty)).bind fun y6=>some (((2,y5,y6,0,[],0,0),Bool.true))) else none)) else none) else (if 0<(↑(List.length x0):Int) then (if List.getD x0 0 ByteArray.empty={ data:=#[(114:UInt8),(101:UInt8),(112:UInt8),(97:UInt8),(121:UInt8)] } then zf115.j15 n (x0) (x4) (Decidable.decide (x4=4)) (r130_0) (r130_1) (r130_2) (r130_3) (r130_5) (r130_6) else zf115.j15 n (x0) (x4) (Bool.false) (r130_0) (r130_1) (r130_2) (r130_3) (r130_5) (r130_6)) else none)):=(holdF_eq _ _).trans (by kernel_rfl)
theorem zf115.j15_eq (n:Nat) (x0:List ByteArray) (x4:Int) (x96:Bool) (r130_0 r130_1:Int) (r130_2 r130_3:Int) (r130_5 r130_6:Int):zf115.j15 n x0 x4 x96 r130_0 r130_1 r130_2 r130_3 r130_5 r130_6=(if (x96)=true then (if 1<(↑(List.length x0):Int) then ((zf118 n (List.getD x0 1 ByteArray.empty)).bind fun y7=>(if 2<(↑(List.length x0):Int) then ((zf117 n (List.getD x0 2 ByteArray.empty)).bind fun y8=>(if 3<(↑(List.length x0):Int) then ((zf117 n (List.getD x0 3 ByteArray.empty)).bind fun y9=>some (((4,y7,y8,y9,[],0,0),Bool.true))) else none)) else none)) else none) else (if 0<(↑(List.length x0):Int) then (if List.getD x0 0 ByteArray.empty={ data:=#[(108:UInt8),(101:UInt8),(110:UInt8),(100:UInt8)] } then zf115.j17 n (x0) (Decidable.decide (x4≥3)) (r130_0) (r130_1) (r130_2) (r130_3) (r130_5) (r130_6) else zf115.j17 n (x0) (Bool.false) (r130_0) (r130_1) (r130_2) (r130_3) (r130_5) (r130_6)) else none)):=(holdF_eq _ _).trans (by kernel_rfl)
theorem zf115.j17_eq (n:Nat) (x0:List ByteArray) (x118:Bool) (r130_0 r130_1:Int) (r130_2 r130_3:Int) (r130_5 r130_6:Int):zf115.j17 n x0 x118 r130_0 r130_1 r130_2 r130_3 r130_5 r130_6=(if (x118)=true then ((zf116 n x0).bind fun y10=>some (((y10.1,y10.2.1,y10.2.2.1,y10.2.2.2.1,y10.2.2.2.2.1,y10.2.2.2.2.2.1,y10.2.2.2.2.2.2),Bool.true))) else some (((0,0,0,0,[],0,0),Bool.false))):=(holdF_eq _ _).trans (by kernel_rfl)
noncomputable abbrev zf115.sg (n:Nat):Sig:=⟨zf115.ps,zf115.res,zf115 n⟩
theorem zf115.call:Callable Tryz.prog 108:=⟨Tryz.f108,Tryz.func108,by kernel_rfl,by kernel_rfl⟩
theorem zf115.ok (n:Nat):FC Tryz.prog [] 108 (zf115.sg n):=
  evalF_ok (C:=zf115.C) ⟨tb_ok,fun n _ _ h=>tabOk (l:=[(67,(zf118.sg n)),(134,(zf117.sg n)),(135,(zf116.sg n))]) (all_cons ⟨zf118.ok n,zf118.call⟩ (all_cons ⟨zf117.ok n,zf117.call⟩ (all_cons ⟨zf116.ok n,zf116.call⟩ (all_nil)))) h,mixed,ar_ok,bld_ok,pts_ok⟩ zf115.A Tryz.func108 zf115.ps zf115.res n
abbrev zf138.ps:List Pm:=[.arg (.v zt16)]
abbrev zf138.res:List M:=[.v .bool]
noncomputable def zf138.C:Cfg:={ tb:=tb,tab:=fun n f=>Refl.look [(60,(zf103.sg n))] f,gl:=[],ar:=ar,bld:=bld,pts:=pts }
noncomputable def zf138.A:Ann:={ joins:=[],loops:=[],ids:=[(1,[(5,[]),(11,[])])],pids:=[],nroots:=77 }
noncomputable def zf138 (n:Nat) (x:Int × Int):Option (Bool):=evalF zf138.C zf138.A Tryz.f126 zf138.ps zf138.res n x
theorem zf138.eq (n:Nat) (x0:Int × Int):zf138 n x0=((zf103 n (x0.2,1,1000)).bind fun y0=>(if y0=Bool.true then ((zf103 n (x0.1,0,x0.2)).bind fun y1=>some (y1)) else some (Bool.false))):=by kernel_rfl
noncomputable abbrev zf138.sg (n:Nat):Sig:=⟨zf138.ps,zf138.res,zf138 n⟩
theorem zf138.call:Callable Tryz.prog 126:=⟨Tryz.f126,Tryz.func126,by kernel_rfl,by kernel_rfl⟩
theorem zf138.ok (n:Nat):FC Tryz.prog [] 126 (zf138.sg n):=
  evalF_ok (C:=zf138.C) ⟨tb_ok,fun n _ _ h=>tabOk (l:=[(60,(zf103.sg n))]) (all_cons ⟨zf103.ok n,zf103.call⟩ (all_nil)) h,mixed,ar_ok,bld_ok,pts_ok⟩ zf138.A Tryz.func126 zf138.ps zf138.res n
abbrev zf106.ps:List Pm:=[.arg (.v (.int .i64))]
abbrev zf106.res:List M:=[.v .str]
noncomputable def zf106.C:Cfg:={ tb:=tb,tab:=fun n f=>Refl.look [(69,(zf112.sg n))] f,gl:=[],ar:=ar,bld:=bld,pts:=pts }
noncomputable def zf106.A:Ann:={ joins:=[],loops:=[],ids:=[(1,[(5,[]),(10,[]),(14,[])])],pids:=[],nroots:=80 }
noncomputable def zf106 (n:Nat) (x:Int):Option (ByteArray):=evalF zf106.C zf106.A Tryz.f68 zf106.ps zf106.res n x
theorem zf106.eq (n:Nat) (x0:Int):zf106 n x0=((zf112 n (Go.RowKit.wrap64 (Int.tdiv x0 100))).bind fun y0=>(if ByteArray.size y0+ByteArray.size { data:=#[(46:UInt8)] }≤Go.Refl.maxN then ((zf112 n (Int.tmod (Go.RowKit.wrap64 (Int.tdiv x0 10)) 10)).bind fun y1=>(if ByteArray.size (y0++{ data:=#[(46:UInt8)] })+ByteArray.size y1≤Go.Refl.maxN then ((zf112 n (Int.tmod x0 10)).bind fun y2=>(if ByteArray.size (y0++{ data:=#[(46:UInt8)] }++y1)+ByteArray.size y2≤Go.Refl.maxN then some (y0++{ data:=#[(46:UInt8)] }++y1++y2) else none)) else none)) else none)):=by kernel_rfl
noncomputable abbrev zf106.sg (n:Nat):Sig:=⟨zf106.ps,zf106.res,zf106 n⟩
theorem zf106.call:Callable Tryz.prog 68:=⟨Tryz.f68,Tryz.func68,by kernel_rfl,by kernel_rfl⟩
theorem zf106.ok (n:Nat):FC Tryz.prog [] 68 (zf106.sg n):=
  evalF_ok (C:=zf106.C) ⟨tb_ok,fun n _ _ h=>tabOk (l:=[(69,(zf112.sg n))]) (all_cons ⟨zf112.ok n,zf112.call⟩ (all_nil)) h,mixed,ar_ok,bld_ok,pts_ok⟩ zf106.A Tryz.func68 zf106.ps zf106.res n
abbrev zf127.ps:List Pm:=[.arg (.v zt1)]
abbrev zf127.res:List M:=[.v .str]
noncomputable def zf127.C:Cfg:={ tb:=tb,tab:=fun n f=>Refl.look [(126,(zf138.sg n)),(69,(zf112.sg n)),(60,(zf103.sg n)),(59,(zf134.sg n)),(68,(zf106.sg n))] f,gl:=[],ar:=ar,bld:=bld,pts:=pts }
noncomputable def zf127.A:Ann:={ joins:=[],loops:=[(27,{ live:=[1,3,4],base:=120 })],ids:=[(7,[(15,[])]),(8,[(19,[]),(25,[])]),(10,[(29,[])]),(13,[(36,[])]),(14,[(40,[])]),(18,[(48,[]),(53,[])]),(20,[(59,[]),(64,[])]),(22,[(70,[])]),(23,[(73,[]),(78,[]),(83,[])]),(25,[(89,[]),(94,[])]),(29,[(108,[])]),(31,[(117,[])])],pids:=[],nroots:=184 }
noncomputable def zf127 (n:Nat) (x:Int × Int × Int × Int × List Int × Int × Int):Option (ByteArray):=evalF zf127.C zf127.A Tryz.f89 zf127.ps zf127.res n x
noncomputable def zf127.K0 (_:Nat):Kont (ByteArray):=finK zf127.C (Func.results Tryz.f89).toList zf127.ps zf127.res
noncomputable def zf127.K1 (n:Nat):Kont (ByteArray):=seqK (fun s' k=>joinE zf127.A.joins (codeAt Tryz.f89 [1,1,1,1,1,1]) (fun s''=>evalC zf127.C zf127.A n (codeAt Tryz.f89 [1,1,1,1,1,1]) s'' k) s') (zf127.K0 n)
noncomputable def zf127.K2 (n:Nat):Kont (ByteArray):=blockK 1 (zf127.K1 n)
noncomputable def zf127.K3 (n:Nat):Kont (ByteArray):=seqK (fun s' k=>joinE zf127.A.joins (codeAt Tryz.f89 [1,1,1,1,1,0,1,0,1,1,1,1,1,1,1,0,1,1]) (fun s''=>evalC zf127.C zf127.A n (codeAt Tryz.f89 [1,1,1,1,1,0,1,0,1,1,1,1,1,1,1,0,1,1]) s'' k) s') (zf127.K2 n)
noncomputable def zf127.K4 (n:Nat):Kont (ByteArray):=blockK 2 (zf127.K3 n)
noncomputable def zf127.l27 (n m27:Nat) (x3:ByteArray) (x4 r120_0:Int) (r120_1 r120_2 r120_3:Int) (r120_4:List Int) (r120_5 r120_6:Int):Option (ByteArray):=loopE (cutAt zf127.A.loops (codeAt Tryz.f89 [1,1,1,1,1,0,1,0,1,1,1,1,1,1,1,0,1,0,1,0,0])) (fun s k=>evalC zf127.C zf127.A n (codeAt Tryz.f89 [1,1,1,1,1,0,1,0,1,1,1,1,1,1,1,0,1,0,1,0,0]) s k) m27 (St.of 120 184 [(1,.ptr 120 0 0),(3,.val .str x3),(4,.val (.int .i64) x4)] [(120,.box 72 [.val (.int .i64) r120_0,.val (.int .i64) r120_1,.val (.int .i64) r120_2,.val (.int .i64) r120_3,.val (.slice (.int .i64)) r120_4,.val (.int .i64) r120_5,.val (.int .i64) r120_6])] []) (zf127.K4 n)
theorem zf127.eq (n:Nat) (x0:Int × Int × Int × Int × List Int × Int × Int):zf127 n x0=(if x0.1=0 then some ({ data:=#[(106:UInt8),(111:UInt8),(105:UInt8),(110:UInt8)] }) else (if x0.1=7 then some ({ data:=#[(115:UInt8),(104:UInt8),(97:UInt8),(114:UInt8),(101:UInt8)] }) else (if x0.1=6 then ((zf138 n (x0.2.2.2.2.2.1,x0.2.2.2.2.2.2)).bind fun y0=>(if (y0)=true then ((zf112 n x0.2.2.2.2.2.1).bind fun y1=>(if ByteArray.size { data:=#[(110:UInt8),(105:UInt8),(103:UInt8),(104:UInt8),(116:UInt8),(32:UInt8)] }+ByteArray.size y1≤Go.Refl.maxN then (if ByteArray.size ({ data:=#[(110:UInt8),(105:UInt8),(103:UInt8),(104:UInt8),(116:UInt8),(32:UInt8)] }++y1)+ByteArray.size { data:=#[(32:UInt8)] }≤Go.Refl.maxN then ((zf112 n x0.2.2.2.2.2.2).bind fun y2=>(if ByteArray.size ({ data:=#[(110:UInt8),(105:UInt8),(103:UInt8),(104:UInt8),(116:UInt8),(32:UInt8)] }++y1++{ data:=#[(32:UInt8)] })+ByteArray.size y2≤Go.Refl.maxN then some ({ data:=#[(110:UInt8),(105:UInt8),(103:UInt8),(104:UInt8),(116:UInt8),(32:UInt8)] }++y1++{ data:=#[(32:UInt8)] }++y2) else none)) else none) else none)) else some ({ data:=#[] }))) else ((zf103 n (x0.2.1,0,99)).bind fun y3=>(if (!y3)=true then some ({ data:=#[] }) else (if x0.1=5 then ((zf112 n x0.2.1).bind fun y4=>(if ByteArray.size { data:=#[(102:UInt8),(97:UInt8),(105:UInt8),(108:UInt8),(32:UInt8)] }+ByteArray.size y4≤Go.Refl.maxN then some ({ data:=#[(102:UInt8),(97:UInt8),(105:UInt8),(108:UInt8),(32:UInt8)] }++y4) else none)) else ((zf134 n x0.2.2.1).bind fun y5=>(if (!y5)=true then some ({ data:=#[] }) else (if x0.1=1 then ((zf112 n x0.2.1).bind fun y6=>(if ByteArray.size { data:=#[(115:UInt8),(97:UInt8),(118:UInt8),(101:UInt8),(32:UInt8)] }+ByteArray.size y6≤Go.Refl.maxN then (if ByteArray.size ({ data:=#[(115:UInt8),(97:UInt8),(118:UInt8),(101:UInt8),(32:UInt8)] }++y6)+ByteArray.size { data:=#[(32:UInt8)] }≤Go.Refl.maxN then ((zf106 n x0.2.2.1).bind fun y7=>(if ByteArray.size ({ data:=#[(115:UInt8),(97:UInt8),(118:UInt8),(101:UInt8),(32:UInt8)] }++y6++{ data:=#[(32:UInt8)] })+ByteArray.size y7≤Go.Refl.maxN then some ({ data:=#[(115:UInt8),(97:UInt8),(118:UInt8),(101:UInt8),(32:UInt8)] }++y6++{ data:=#[(32:UInt8)] }++y7) else none)) else none) else none)) else (if x0.1=2 then ((zf112 n x0.2.1).bind fun y8=>(if ByteArray.size { data:=#[(116:UInt8),(97:UInt8),(107:UInt8),(101:UInt8),(32:UInt8)] }+ByteArray.size y8≤Go.Refl.maxN then (if ByteArray.size ({ data:=#[(116:UInt8),(97:UInt8),(107:UInt8),(101:UInt8),(32:UInt8)] }++y8)+ByteArray.size { data:=#[(32:UInt8)] }≤Go.Refl.maxN then ((zf106 n x0.2.2.1).bind fun y9=>(if ByteArray.size ({ data:=#[(116:UInt8),(97:UInt8),(107:UInt8),(101:UInt8),(32:UInt8)] }++y8++{ data:=#[(32:UInt8)] })+ByteArray.size y9≤Go.Refl.maxN then some ({ data:=#[(116:UInt8),(97:UInt8),(107:UInt8),(101:UInt8),(32:UInt8)] }++y8++{ data:=#[(32:UInt8)] }++y9) else none)) else none) else none)) else (if x0.1=4 then ((zf134 n x0.2.2.2.1).bind fun y10=>(if (y10)=true then ((zf112 n x0.2.1).bind fun y11=>(if ByteArray.size { data:=#[(114:UInt8),(101:UInt8),(112:UInt8),(97:UInt8),(121:UInt8),(32:UInt8)] }+ByteArray.size y11≤Go.Refl.maxN then (if ByteArray.size ({ data:=#[(114:UInt8),(101:UInt8),(112:UInt8),(97:UInt8),(121:UInt8),(32:UInt8)] }++y11)+ByteArray.size { data:=#[(32:UInt8)] }≤Go.Refl.maxN then ((zf106 n x0.2.2.1).bind fun y12=>(if ByteArray.size ({ data:=#[(114:UInt8),(101:UInt8),(112:UInt8),(97:UInt8),(121:UInt8),(32:UInt8)] }++y11++{ data:=#[(32:UInt8)] })+ByteArray.size y12≤Go.Refl.maxN then (if ByteArray.size ({ data:=#[(114:UInt8),(101:UInt8),(112:UInt8),(97:UInt8),(121:UInt8),(32:UInt8)] }++y11++{ data:=#[(32:UInt8)] }++y12)+ByteArray.size { data:=#[(32:UInt8)] }≤Go.Refl.maxN then ((zf106 n x0.2.2.2.1).bind fun y13=>(if ByteArray.size ({ data:=#[(114:UInt8),(101:UInt8),(112:UInt8),(97:UInt8),(121:UInt8),(32:UInt8)] }++y11++{ data:=#[(32:UInt8)] }++y12++{ data:=#[(32:UInt8)] })+ByteArray.size y13≤Go.Refl.maxN then some ({ data:=#[(114:UInt8),(101:UInt8),(112:UInt8),(97:UInt8),(121:UInt8),(32:UInt8)] }++y11++{ data:=#[(32:UInt8)] }++y12++{ data:=#[(32:UInt8)] }++y13) else none)) else none) else none)) else none) else none)) else some ({ data:=#[] }))) else (if x0.1=3 then ((zf112 n x0.2.1).bind fun y14=>(if ByteArray.size { data:=#[(108:UInt8),(101:UInt8),(110:UInt8),(100:UInt8),(32:UInt8)] }+ByteArray.size y14≤Go.Refl.maxN then (if ByteArray.size ({ data:=#[(108:UInt8),(101:UInt8),(110:UInt8),(100:UInt8),(32:UInt8)] }++y14)+ByteArray.size { data:=#[(32:UInt8)] }≤Go.Refl.maxN then ((zf106 n x0.2.2.1).bind fun y15=>(if ByteArray.size ({ data:=#[(108:UInt8),(101:UInt8),(110:UInt8),(100:UInt8),(32:UInt8)] }++y14++{ data:=#[(32:UInt8)] })+ByteArray.size y15≤Go.Refl.maxN then zf127.l27 n n ({ data:=#[(108:UInt8),(101:UInt8),(110:UInt8),(100:UInt8),(32:UInt8)] }++y14++{ data:=#[(32:UInt8)] }++y15) (0) x0.1 x0.2.1 x0.2.2.1 x0.2.2.2.1 x0.2.2.2.2.1 x0.2.2.2.2.2.1 x0.2.2.2.2.2.2 else none)) else none) else none)) else some ({ data:=#[] }))))))))))))):=by kernel_rfl
theorem zf127.l27_succ (n m27:Nat) (x3:ByteArray) (x4 r120_0:Int) (r120_1 r120_2 r120_3:Int) (r120_4:List Int) (r120_5 r120_6:Int):zf127.l27 n (m27+1) x3 x4 r120_0 r120_1 r120_2 r120_3 r120_4 r120_5 r120_6=(if x4<(↑(List.length r120_4):Int) then (if 0≤x4 then (if x4<(↑(List.length r120_4):Int) then ((zf103 n (List.getD r120_4 (Int.toNat x4) 0,0,99)).bind fun y16=>(if (!y16)=true then some ({ data:=#[] }) else (if ByteArray.size x3+ByteArray.size { data:=#[(32:UInt8)] }≤Go.Refl.maxN then (if 0≤x4 then (if x4<(↑(List.length r120_4):Int) then ((zf112 n (List.getD r120_4 (Int.toNat x4) 0)).bind fun y17=>(if ByteArray.size (x3++{ data:=#[(32:UInt8)] })+ByteArray.size y17≤Go.Refl.maxN then zf127.l27 n m27 (x3++{ data:=#[(32:UInt8)] }++y17) (Go.RowKit.wrap64 (x4+1)) (r120_0) (r120_1) (r120_2) (r120_3) (r120_4) (r120_5) (r120_6) else none)) else none) else none) else none))) else none) else none) else some (x3)):=by kernel_rfl
noncomputable abbrev zf127.sg (n:Nat):Sig:=⟨zf127.ps,zf127.res,zf127 n⟩
theorem zf127.call:Callable Tryz.prog 89:=⟨Tryz.f89,Tryz.func89,by kernel_rfl,by kernel_rfl⟩
theorem zf127.ok (n:Nat):FC Tryz.prog [] 89 (zf127.sg n):=
  evalF_ok (C:=zf127.C) ⟨tb_ok,fun n _ _ h=>tabOk (l:=[(126,(zf138.sg n)),(69,(zf112.sg n)),(60,(zf103.sg n)),(59,(zf134.sg n)),(68,(zf106.sg n))]) (all_cons ⟨zf138.ok n,zf138.call⟩ (all_cons ⟨zf112.ok n,zf112.call⟩ (all_cons ⟨zf103.ok n,zf103.call⟩ (all_cons ⟨zf134.ok n,zf134.call⟩ (all_cons ⟨zf106.ok n,zf106.call⟩ (all_nil)))))) h,mixed,ar_ok,bld_ok,pts_ok⟩ zf127.A Tryz.func89 zf127.ps zf127.res n
abbrev zf113.ps:List Pm:=[.arg (.v .str)]
abbrev zf113.res:List M:=[.v zt1,.v .bool]
noncomputable def zf113.C:Cfg:={ tb:=tb,tab:=fun n f=>Refl.look [(65,(zf132.sg n)),(108,(zf115.sg n)),(89,(zf127.sg n))] f,gl:=[],ar:=ar,bld:=bld,pts:=pts }
noncomputable def zf113.A:Ann:={ joins:=[],loops:=[],ids:=[(1,[(9,[])]),(2,[(16,[])])],pids:=[],nroots:=86 }
noncomputable def zf113 (n:Nat) (x:ByteArray):Option zt11:=evalF zf113.C zf113.A Tryz.f66 zf113.ps zf113.res n x
theorem zf113.eq (n:Nat) (x0:ByteArray):zf113 n x0=((zf132 n (x0,32)).bind fun y0=>((zf115 n y0).bind fun y1=>(if (!y1.2)=Bool.true then some (((0,0,0,0,[],0,0),Bool.false)) else ((zf127 n (y1.1.1,y1.1.2.1,y1.1.2.2.1,y1.1.2.2.2.1,y1.1.2.2.2.2.1,y1.1.2.2.2.2.2.1,y1.1.2.2.2.2.2.2)).bind fun y2=>(if y2=x0 then some (((y1.1.1,y1.1.2.1,y1.1.2.2.1,y1.1.2.2.2.1,y1.1.2.2.2.2.1,y1.1.2.2.2.2.2.1,y1.1.2.2.2.2.2.2),Bool.true)) else some (((0,0,0,0,[],0,0),Bool.false))))))):=by kernel_rfl
noncomputable abbrev zf113.sg (n:Nat):Sig:=⟨zf113.ps,zf113.res,zf113 n⟩
theorem zf113.call:Callable Tryz.prog 66:=⟨Tryz.f66,Tryz.func66,by kernel_rfl,by kernel_rfl⟩
theorem zf113.ok (n:Nat):FC Tryz.prog [] 66 (zf113.sg n):=
  evalF_ok (C:=zf113.C) ⟨tb_ok,fun n _ _ h=>tabOk (l:=[(65,(zf132.sg n)),(108,(zf115.sg n)),(89,(zf127.sg n))]) (all_cons ⟨zf132.ok n,zf132.call⟩ (all_cons ⟨zf115.ok n,zf115.call⟩ (all_cons ⟨zf127.ok n,zf127.call⟩ (all_nil)))) h,mixed,ar_ok,bld_ok,pts_ok⟩ zf113.A Tryz.func66 zf113.ps zf113.res n
abbrev zf122.ps:List Pm:=[.arg (.v .str)]
abbrev zf122.res:List M:=[(.own zt1 72)]
noncomputable def zf122.C:Cfg:={ tb:=tb,tab:=fun n f=>Refl.look [(65,(zf132.sg n)),(66,(zf113.sg n))] f,gl:=[],ar:=ar,bld:=bld,pts:=pts }
noncomputable def zf122.A:Ann:={ joins:=[],loops:=[(4,{ live:=[3,4,5],base:=39 })],ids:=[(6,[(23,[])]),(9,[(36,[])])],pids:=[],nroots:=103 }
noncomputable def zf122 (n:Nat) (x:ByteArray):Option zt12:=evalF zf122.C zf122.A Tryz.f30 zf122.ps zf122.res n x
noncomputable def zf122.K0 (_:Nat):Kont zt12:=finK zf122.C (Func.results Tryz.f30).toList zf122.ps zf122.res
noncomputable def zf122.K1 (n:Nat):Kont zt12:=seqK (fun s' k=>joinE zf122.A.joins (codeAt Tryz.f30 [1,1,1,1]) (fun s''=>evalC zf122.C zf122.A n (codeAt Tryz.f30 [1,1,1,1]) s'' k) s') (zf122.K0 n)
noncomputable def zf122.K2 (n:Nat):Kont zt12:=blockK 0 (zf122.K1 n)
noncomputable def zf122.l4 (n m4:Nat) (x5:Int) (r39:List zt14) (r40:List ByteArray):Option zt12:=loopE (cutAt zf122.A.loops (codeAt Tryz.f30 [1,1,1,0,1,0,0])) (fun s k=>evalC zf122.C zf122.A n (codeAt Tryz.f30 [1,1,1,0,1,0,0]) s k) m4 (St.of 39 103 [(3,.own 39),(4,.own 40),(5,.val (.int .i64) x5)] [(39,.row zt1 72 r39),(40,.row .str 9 r40)] []) (zf122.K2 n)
theorem zf122.eq (n:Nat) (x0:ByteArray):zf122 n x0=((zf132 n (x0,10)).bind fun y0=>zf122.l4 n n (0) (List.replicate 0 (0,0,0,0,[],0,0)) (y0)):=by kernel_rfl
theorem zf122.l4_succ (n m4:Nat) (x5:Int) (r39:List zt14) (r40:List ByteArray):zf122.l4 n (m4+1) x5 r39 r40=(if Go.RowKit.wrap64 (x5+1)<(↑(List.length r40):Int) then (if 0≤x5 then (if x5<(↑(List.length r40):Int) then ((zf113 n (List.getD r40 (Int.toNat x5) ByteArray.empty)).bind fun y1=>(if (!y1.2)=Bool.true then some (r39) else (if (↑(List.length r39):Int)=30 then some (r39) else (if List.length r39+List.length (List.set (List.replicate (1:Nat) ((0:Int),(0:Int),(0:Int),(0:Int),[],(0:Int),(0:Int))) (0:Nat) (y1.1.1,y1.1.2.1,y1.1.2.2.1,y1.1.2.2.2.1,y1.1.2.2.2.2.1,y1.1.2.2.2.2.2.1,y1.1.2.2.2.2.2.2))≤Go.Refl.maxN then zf122.l4 n m4 (Go.RowKit.wrap64 (x5+1)) (r39++List.set (List.replicate 1 (0,0,0,0,[],0,0)) 0 (y1.1.1,y1.1.2.1,y1.1.2.2.1,y1.1.2.2.2.1,y1.1.2.2.2.2.1,y1.1.2.2.2.2.2.1,y1.1.2.2.2.2.2.2)) (r40) else none)))) else none) else none) else some (r39)):=by kernel_rfl
noncomputable abbrev zf122.sg (n:Nat):Sig:=⟨zf122.ps,zf122.res,zf122 n⟩
theorem zf122.call:Callable Tryz.prog 30:=⟨Tryz.f30,Tryz.func30,by kernel_rfl,by kernel_rfl⟩
theorem zf122.ok (n:Nat):FC Tryz.prog [] 30 (zf122.sg n):=
  evalF_ok (C:=zf122.C) ⟨tb_ok,fun n _ _ h=>tabOk (l:=[(65,(zf132.sg n)),(66,(zf113.sg n))]) (all_cons ⟨zf132.ok n,zf132.call⟩ (all_cons ⟨zf113.ok n,zf113.call⟩ (all_nil))) h,mixed,ar_ok,bld_ok,pts_ok⟩ zf122.A Tryz.func30 zf122.ps zf122.res n
abbrev zf95.ps:List Pm:=[.arg (.v (.slice (.int .i64)))]
abbrev zf95.res:List M:=[(.own (.int .i64) 3)]
noncomputable def zf95.C:Cfg:={ tb:=tb,tab:=fun n f=>Refl.look [] f,gl:=[],ar:=ar,bld:=bld,pts:=pts }
noncomputable def zf95.A:Ann:={ joins:=[],loops:=[],ids:=[],pids:=[],nroots:=70 }
noncomputable def zf95 (n:Nat) (x:List Int):Option (List Int):=evalF zf95.C zf95.A Tryz.f100 zf95.ps zf95.res n x
theorem zf95.eq (n:Nat) (x0:List Int):zf95 n x0=(if List.length (List.replicate (0:Nat) (0:Int))+List.length x0≤Go.Refl.maxN then some (List.replicate 0 0++x0) else none):=by kernel_rfl
noncomputable abbrev zf95.sg (n:Nat):Sig:=⟨zf95.ps,zf95.res,zf95 n⟩
theorem zf95.call:Callable Tryz.prog 100:=⟨Tryz.f100,Tryz.func100,by kernel_rfl,by kernel_rfl⟩
theorem zf95.ok (n:Nat):FC Tryz.prog [] 100 (zf95.sg n):=
  evalF_ok (C:=zf95.C) ⟨tb_ok,fun n _ _ h=>tabOk (l:=[]) (all_nil) h,mixed,ar_ok,bld_ok,pts_ok⟩ zf95.A Tryz.func100 zf95.ps zf95.res n
abbrev zf96.ps:List Pm:=[.arg (.v (.slice zt8))]
abbrev zf96.res:List M:=[(.own zt8 100)]
noncomputable def zf96.C:Cfg:={ tb:=tb,tab:=fun n f=>Refl.look [(100,{ params:=zf95.ps,res:=[.v (.slice (.int .i64))],run:=zf95 n })] f,gl:=[],ar:=ar,bld:=bld,pts:=pts }
noncomputable def zf96.A:Ann:={ joins:=[],loops:=[(3,{ live:=[0,3,4],base:=33 })],ids:=[(5,[(28,[]),(30,[])])],pids:=[],nroots:=97 }
noncomputable def zf96 (n:Nat) (x:List zt19):Option zt17:=evalF zf96.C zf96.A Tryz.f101 zf96.ps zf96.res n x
noncomputable def zf96.K0 (_:Nat):Kont zt17:=finK zf96.C (Func.results Tryz.f101).toList zf96.ps zf96.res
noncomputable def zf96.K1 (n:Nat):Kont zt17:=seqK (fun s' k=>joinE zf96.A.joins (codeAt Tryz.f101 [1,1,1]) (fun s''=>evalC zf96.C zf96.A n (codeAt Tryz.f101 [1,1,1]) s'' k) s') (zf96.K0 n)
noncomputable def zf96.K2 (n:Nat):Kont zt17:=blockK 0 (zf96.K1 n)
noncomputable def zf96.l3 (n m3:Nat) (x0:List zt19) (x4:Int) (r33:List zt19):Option zt17:=loopE (cutAt zf96.A.loops (codeAt Tryz.f101 [1,1,0,1,0,0])) (fun s k=>evalC zf96.C zf96.A n (codeAt Tryz.f101 [1,1,0,1,0,0]) s k) m3 (St.of 33 97 [(0,.val (.slice zt8) x0),(3,.own 33),(4,.val (.int .i64) x4)] [(33,.row zt8 100 r33)] []) (zf96.K2 n)
theorem zf96.eq (n:Nat) (x0:List zt19):zf96 n x0=zf96.l3 n n (x0) (0) (List.replicate 0 (0,0,[])):=by kernel_rfl
theorem zf96.l3_succ (n m3:Nat) (x0:List zt19) (x4:Int) (r33:List zt19):zf96.l3 n (m3+1) x0 x4 r33=(if x4<(↑(List.length x0):Int) then (if 0≤x4 then (if x4<(↑(List.length x0):Int) then (if 0≤x4 then (if x4<(↑(List.length x0):Int) then (if 0≤x4 then (if x4<(↑(List.length x0):Int) then ((zf95 n (Prod.snd (Prod.snd (List.getD x0 (Int.toNat x4) (0,0,[]))))).bind fun y0=>(if List.length r33+List.length (List.set (List.replicate (1:Nat) ((0:Int),(0:Int),[])) (0:Nat) (Prod.fst (List.getD x0 (Int.toNat x4) ((0:Int),(0:Int),[])),Prod.fst (Prod.snd (List.getD x0 (Int.toNat x4) ((0:Int),(0:Int),[]))),y0))≤Go.Refl.maxN then zf96.l3 n m3 (x0) (Go.RowKit.wrap64 (x4+1)) (r33++List.set (List.replicate 1 (0,0,[])) 0 (Prod.fst (List.getD x0 (Int.toNat x4) (0,0,[])),Prod.fst (Prod.snd (List.getD x0 (Int.toNat x4) (0,0,[]))),y0)) else none)) else none) else none) else none) else none) else none) else none) else some (r33)):=by kernel_rfl
noncomputable abbrev zf96.sg (n:Nat):Sig:=⟨zf96.ps,zf96.res,zf96 n⟩
theorem zf96.call:Callable Tryz.prog 101:=⟨Tryz.f101,Tryz.func101,by kernel_rfl,by kernel_rfl⟩
theorem zf96.ok (n:Nat):FC Tryz.prog [] 101 (zf96.sg n):=
  evalF_ok (C:=zf96.C) ⟨tb_ok,fun n _ _ h=>tabOk (l:=[(100,{ params:=zf95.ps,res:=[.v (.slice (.int .i64))],run:=zf95 n })]) (all_cons ⟨FC.weak (.cons (.own _ _) .nil) HEq.rfl (zf95.ok n),zf95.call⟩ (all_nil)) h,mixed,ar_ok,bld_ok,pts_ok⟩ zf96.A Tryz.func101 zf96.ps zf96.res n
abbrev zf94.ps:List Pm:=[.arg (.v zt0)]
abbrev zf94.res:List M:=[(.pr (.own (.int .i64) 3) (.pr (.own zt8 100) (.v zt13)))]
noncomputable def zf94.C:Cfg:={ tb:=tb,tab:=fun n f=>Refl.look [(100,(zf95.sg n)),(101,(zf96.sg n))] f,gl:=[],ar:=ar,bld:=bld,pts:=pts }
noncomputable def zf94.A:Ann:={ joins:=[],loops:=[],ids:=[],pids:=[],nroots:=78 }
noncomputable def zf94 (n:Nat) (x:List Int × List zt19 × Int × Int × Int):Option zt10:=evalF zf94.C zf94.A Tryz.f63 zf94.ps zf94.res n x
theorem zf94.eq (n:Nat) (x0:List Int × List zt19 × Int × Int × Int):zf94 n x0=((zf95 n x0.1).bind fun y0=>((zf96 n x0.2.1).bind fun y1=>some ((y0,y1,x0.2.2.1,x0.2.2.2.1,x0.2.2.2.2)))):=by kernel_rfl
noncomputable abbrev zf94.sg (n:Nat):Sig:=⟨zf94.ps,zf94.res,zf94 n⟩
theorem zf94.call:Callable Tryz.prog 63:=⟨Tryz.f63,Tryz.func63,by kernel_rfl,by kernel_rfl⟩
theorem zf94.ok (n:Nat):FC Tryz.prog [] 63 (zf94.sg n):=
  evalF_ok (C:=zf94.C) ⟨tb_ok,fun n _ _ h=>tabOk (l:=[(100,(zf95.sg n)),(101,(zf96.sg n))]) (all_cons ⟨zf95.ok n,zf95.call⟩ (all_cons ⟨zf96.ok n,zf96.call⟩ (all_nil))) h,mixed,ar_ok,bld_ok,pts_ok⟩ zf94.A Tryz.func63 zf94.ps zf94.res n
abbrev zf131.ps:List Pm:=[.arg (.v (.int .i64)),.arg (.v (.int .i64))]
abbrev zf131.res:List M:=[(.own (.int .i64) 3)]
noncomputable def zf131.C:Cfg:={ tb:=tb,tab:=fun n f=>Refl.look [] f,gl:=[],ar:=ar,bld:=bld,pts:=pts }
noncomputable def zf131.A:Ann:={ joins:=[],loops:=[(3,{ live:=[0,1,5,6],base:=29 })],ids:=[(8,[(26,[])])],pids:=[],nroots:=93 }
noncomputable def zf131 (n:Nat) (x:Int × Int):Option (List Int):=evalF zf131.C zf131.A Tryz.f133 zf131.ps zf131.res n x
noncomputable def zf131.K0 (_:Nat):Kont (List Int):=finK zf131.C (Func.results Tryz.f133).toList zf131.ps zf131.res
noncomputable def zf131.K1 (n:Nat):Kont (List Int):=seqK (fun s' k=>joinE zf131.A.joins (codeAt Tryz.f133 [1,1,1]) (fun s''=>evalC zf131.C zf131.A n (codeAt Tryz.f133 [1,1,1]) s'' k) s') (zf131.K0 n)
noncomputable def zf131.K2 (n:Nat):Kont (List Int):=blockK 0 (zf131.K1 n)
noncomputable def zf131.l3 (n m3:Nat) (x0 x1 x6:Int) (r29:List Int):Option (List Int):=loopE (cutAt zf131.A.loops (codeAt Tryz.f133 [1,1,0,1,0,0])) (fun s k=>evalC zf131.C zf131.A n (codeAt Tryz.f133 [1,1,0,1,0,0]) s k) m3 (St.of 29 93 [(0,.val (.int .i64) x0),(1,.val (.int .i64) x1),(5,.own 29),(6,.val (.int .i64) x6)] [(29,.row (.int .i64) 3 r29)] []) (zf131.K2 n)
theorem zf131.eq (n:Nat) (x0 x1:Int):zf131 n (x0,x1)=zf131.l3 n n (x0) (x1) (0) (List.replicate 0 0):=by kernel_rfl
theorem zf131.l3_succ (n m3:Nat) (x0 x1 x6:Int) (r29:List Int):zf131.l3 n (m3+1) x0 x1 x6 r29=(if x6<x1 then (if x1=0 then none else (if x1=0 then none else (if x6<Int.tmod x0 x1 then (if List.length r29+List.length (List.set (List.replicate (1:Nat) (0:Int)) (0:Nat) (Go.RowKit.wrap64 (Go.RowKit.wrap64 (Int.tdiv x0 x1)+(1:Int))))≤Go.Refl.maxN then zf131.l3 n m3 (x0) (x1) (Go.RowKit.wrap64 (x6+1)) (r29++List.set (List.replicate 1 0) 0 (Go.RowKit.wrap64 (Go.RowKit.wrap64 (Int.tdiv x0 x1)+1))) else none) else (if List.length r29+List.length (List.set (List.replicate (1:Nat) (0:Int)) (0:Nat) (Go.RowKit.wrap64 (Int.tdiv x0 x1)))≤Go.Refl.maxN then zf131.l3 n m3 (x0) (x1) (Go.RowKit.wrap64 (x6+1)) (r29++List.set (List.replicate 1 0) 0 (Go.RowKit.wrap64 (Int.tdiv x0 x1))) else none)))) else some (r29)):=by kernel_rfl
noncomputable abbrev zf131.sg (n:Nat):Sig:=⟨zf131.ps,zf131.res,zf131 n⟩
theorem zf131.call:Callable Tryz.prog 133:=⟨Tryz.f133,Tryz.func133,by kernel_rfl,by kernel_rfl⟩
theorem zf131.ok (n:Nat):FC Tryz.prog [] 133 (zf131.sg n):=
  evalF_ok (C:=zf131.C) ⟨tb_ok,fun n _ _ h=>tabOk (l:=[]) (all_nil) h,mixed,ar_ok,bld_ok,pts_ok⟩ zf131.A Tryz.func133 zf131.ps zf131.res n
abbrev zf98.ps:List Pm:=[.arg (.v (.slice zt8)),.arg (.v (.int .i64))]
abbrev zf98.res:List M:=[(.own (.int .i64) 3)]
noncomputable def zf98.C:Cfg:={ tb:=tb,tab:=fun n f=>Refl.look [(133,(zf131.sg n))] f,gl:=[],ar:=ar,bld:=bld,pts:=pts }
noncomputable def zf98.A:Ann:={ joins:=[],loops:=[(3,{ live:=[0,5,6],base:=62 }),(7,{ live:=[0,5,6,7,8],base:=62 })],ids:=[],pids:=[],nroots:=126 }
noncomputable def zf98 (n:Nat) (x:List zt19 × Int):Option (List Int):=evalF zf98.C zf98.A Tryz.f136 zf98.ps zf98.res n x
noncomputable def zf98.K0 (_:Nat):Kont (List Int):=finK zf98.C (Func.results Tryz.f136).toList zf98.ps zf98.res
noncomputable def zf98.K1 (n:Nat):Kont (List Int):=seqK (fun s' k=>joinE zf98.A.joins (codeAt Tryz.f136 [1,1,1]) (fun s''=>evalC zf98.C zf98.A n (codeAt Tryz.f136 [1,1,1]) s'' k) s') (zf98.K0 n)
noncomputable def zf98.K2 (n:Nat):Kont (List Int):=blockK 0 (zf98.K1 n)
noncomputable def zf98.K3 (n m3:Nat):Kont (List Int):=loopK (cutAt zf98.A.loops (codeAt Tryz.f136 [1,1,0,1,0,0])) (fun s k=>evalC zf98.C zf98.A n (codeAt Tryz.f136 [1,1,0,1,0,0]) s k) m3 (zf98.K2 n)
noncomputable def zf98.K4 (n m3:Nat):Kont (List Int):=seqK (fun s' k=>joinE zf98.A.joins (codeAt Tryz.f136 [1,1,0,1,0,0,1,1]) (fun s''=>evalC zf98.C zf98.A n (codeAt Tryz.f136 [1,1,0,1,0,0,1,1]) s'' k) s') (zf98.K3 n m3)
noncomputable def zf98.K5 (n m3:Nat):Kont (List Int):=blockK 1 (zf98.K4 n m3)
noncomputable def zf98.K6 (n m3:Nat):Kont (List Int):=blockK 2 (zf98.K5 n m3)
noncomputable def zf98.l3 (n m3:Nat) (x0:List zt19) (x6:Int) (r62:List Int):Option (List Int):=loopE (cutAt zf98.A.loops (codeAt Tryz.f136 [1,1,0,1,0,0])) (fun s k=>evalC zf98.C zf98.A n (codeAt Tryz.f136 [1,1,0,1,0,0]) s k) m3 (St.of 62 126 [(0,.val (.slice zt8) x0),(5,.own 62),(6,.val (.int .i64) x6)] [(62,.row (.int .i64) 3 r62)] []) (zf98.K2 n)
noncomputable def zf98.l7 (n m3 m7:Nat) (x0:List zt19) (x6 x8:Int) (r62 r63:List Int):Option (List Int):=loopE (cutAt zf98.A.loops (codeAt Tryz.f136 [1,1,0,1,0,0,1,0,0,1,1,0,0])) (fun s k=>evalC zf98.C zf98.A n (codeAt Tryz.f136 [1,1,0,1,0,0,1,0,0,1,1,0,0]) s k) m7 (St.of 62 126 [(0,.val (.slice zt8) x0),(5,.own 62),(6,.val (.int .i64) x6),(7,.own 63),(8,.val (.int .i64) x8)] [(62,.row (.int .i64) 3 r62),(63,.row (.int .i64) 3 r63)] []) (zf98.K6 n m3)
theorem zf98.eq (n:Nat) (x0:List zt19) (x1:Int):zf98 n (x0,x1)=(if 0≤x1 then (if x1≤x1 then (if x1≤(↑Go.Refl.maxN:Int) then zf98.l3 n n (x0) (0) (List.replicate (Int.toNat x1) 0) else none) else none) else none):=by kernel_rfl
theorem zf98.l3_succ (n m3:Nat) (x0:List zt19) (x6:Int) (r62:List Int):zf98.l3 n (m3+1) x0 x6 r62=(if x6<(↑(List.length x0):Int) then (if 0≤x6 then (if x6<(↑(List.length x0):Int) then (if 0≤x6 then (if x6<(↑(List.length x0):Int) then ((zf131 n (Prod.fst (Prod.snd (List.getD x0 (Int.toNat x6) (0,0,[]))),(↑(List.length (Prod.snd (Prod.snd (List.getD x0 (Int.toNat x6) ((0:Int),(0:Int),[]))))):Int))).bind fun y0=>zf98.l7 n m3 n (x0) (x6) (0) (r62) (y0)) else none) else none) else none) else none) else some (r62)):=by kernel_rfl
theorem zf98.l7_succ (n m3 m7:Nat) (x0:List zt19) (x6 x8:Int) (r62 r63:List Int):zf98.l7 n m3 (m7+1) x0 x6 x8 r62 r63=(if x8<(↑(List.length r63):Int) then (if 0≤x6 then (if x6<(↑(List.length x0):Int) then (if 0≤x8 then (if x8<(↑(List.length (Prod.snd (Prod.snd (List.getD x0 (Int.toNat x6) ((0:Int),(0:Int),[]))))):Int) then (if 0≤x6 then (if x6<(↑(List.length x0):Int) then (if 0≤x8 then (if x8<(↑(List.length (Prod.snd (Prod.snd (List.getD x0 (Int.toNat x6) ((0:Int),(0:Int),[]))))):Int) then (if 0≤List.getD (Prod.snd (Prod.snd (List.getD x0 (Int.toNat x6) (0,0,[])))) (Int.toNat x8) 0 then (if List.getD (Prod.snd (Prod.snd (List.getD x0 (Int.toNat x6) (0,0,[])))) (Int.toNat x8) 0<(↑(List.length r62):Int) then (if 0≤x8 then (if x8<(↑(List.length r63):Int) then (if 0≤List.getD (Prod.snd (Prod.snd (List.getD x0 (Int.toNat x6) (0,0,[])))) (Int.toNat x8) 0 then (if List.getD (Prod.snd (Prod.snd (List.getD x0 (Int.toNat x6) (0,0,[])))) (Int.toNat x8) 0<(↑(List.length r62):Int) then zf98.l7 n m3 m7 (x0) (x6) (Go.RowKit.wrap64 (x8+1)) (List.set r62 (Int.toNat (List.getD (Prod.snd (Prod.snd (List.getD x0 (Int.toNat x6) (0,0,[])))) (Int.toNat x8) 0)) (Go.RowKit.wrap64 (List.getD r62 (Int.toNat (List.getD (Prod.snd (Prod.snd (List.getD x0 (Int.toNat x6) (0,0,[])))) (Int.toNat x8) 0)) 0+List.getD r63 (Int.toNat x8) 0))) (r63) else none) else none) else none) else none) else none) else none) else none) else none) else none) else none) else none) else none) else none) else none) else zf98.l3 n m3 (x0) (Go.RowKit.wrap64 (x6+1)) (r62)):=by kernel_rfl
noncomputable abbrev zf98.sg (n:Nat):Sig:=⟨zf98.ps,zf98.res,zf98 n⟩
theorem zf98.call:Callable Tryz.prog 136:=⟨Tryz.f136,Tryz.func136,by kernel_rfl,by kernel_rfl⟩
theorem zf98.ok (n:Nat):FC Tryz.prog [] 136 (zf98.sg n):=
  evalF_ok (C:=zf98.C) ⟨tb_ok,fun n _ _ h=>tabOk (l:=[(133,(zf131.sg n))]) (all_cons ⟨zf131.ok n,zf131.call⟩ (all_nil)) h,mixed,ar_ok,bld_ok,pts_ok⟩ zf98.A Tryz.func136 zf98.ps zf98.res n
abbrev zf102.ps:List Pm:=[.arg (.v (.slice (.int .i64))),.arg (.v (.slice zt8))]
abbrev zf102.res:List M:=[(.own (.int .i64) 3)]
noncomputable def zf102.C:Cfg:={ tb:=tb,tab:=fun n f=>Refl.look [(136,(zf98.sg n))] f,gl:=[],ar:=ar,bld:=bld,pts:=pts }
noncomputable def zf102.A:Ann:={ joins:=[],loops:=[(3,{ live:=[0,5,6],base:=30 })],ids:=[],pids:=[],nroots:=94 }
noncomputable def zf102 (n:Nat) (x:List Int × List zt19):Option (List Int):=evalF zf102.C zf102.A Tryz.f109 zf102.ps zf102.res n x
noncomputable def zf102.K0 (_:Nat):Kont (List Int):=finK zf102.C (Func.results Tryz.f109).toList zf102.ps zf102.res
noncomputable def zf102.K1 (n:Nat):Kont (List Int):=seqK (fun s' k=>joinE zf102.A.joins (codeAt Tryz.f109 [1,1,1]) (fun s''=>evalC zf102.C zf102.A n (codeAt Tryz.f109 [1,1,1]) s'' k) s') (zf102.K0 n)
noncomputable def zf102.K2 (n:Nat):Kont (List Int):=blockK 0 (zf102.K1 n)
noncomputable def zf102.l3 (n m3:Nat) (x0:List Int) (x6:Int) (r30:List Int):Option (List Int):=loopE (cutAt zf102.A.loops (codeAt Tryz.f109 [1,1,0,1,0,0])) (fun s k=>evalC zf102.C zf102.A n (codeAt Tryz.f109 [1,1,0,1,0,0]) s k) m3 (St.of 30 94 [(0,.val (.slice (.int .i64)) x0),(5,.own 30),(6,.val (.int .i64) x6)] [(30,.row (.int .i64) 3 r30)] []) (zf102.K2 n)
theorem zf102.eq (n:Nat) (x0:List Int) (x1:List zt19):zf102 n (x0,x1)=((zf98 n (x1,(↑(List.length x0):Int))).bind fun y0=>zf102.l3 n n (x0) (0) (y0)):=by kernel_rfl
theorem zf102.l3_succ (n m3:Nat) (x0:List Int) (x6:Int) (r30:List Int):zf102.l3 n (m3+1) x0 x6 r30=(if x6<(↑(List.length r30):Int) then (if 0≤x6 then (if x6<(↑(List.length x0):Int) then (if 0≤x6 then (if x6<(↑(List.length r30):Int) then (if 0≤x6 then (if x6<(↑(List.length r30):Int) then zf102.l3 n m3 (x0) (Go.RowKit.wrap64 (x6+1)) (List.set r30 (Int.toNat x6) (Go.RowKit.wrap64 (List.getD x0 (Int.toNat x6) 0-List.getD r30 (Int.toNat x6) 0))) else none) else none) else none) else none) else none) else none) else some (r30)):=by kernel_rfl
noncomputable abbrev zf102.sg (n:Nat):Sig:=⟨zf102.ps,zf102.res,zf102 n⟩
theorem zf102.call:Callable Tryz.prog 109:=⟨Tryz.f109,Tryz.func109,by kernel_rfl,by kernel_rfl⟩
theorem zf102.ok (n:Nat):FC Tryz.prog [] 109 (zf102.sg n):=
  evalF_ok (C:=zf102.C) ⟨tb_ok,fun n _ _ h=>tabOk (l:=[(136,(zf98.sg n))]) (all_cons ⟨zf98.ok n,zf98.call⟩ (all_nil)) h,mixed,ar_ok,bld_ok,pts_ok⟩ zf102.A Tryz.func109 zf102.ps zf102.res n
abbrev zf125.ps:List Pm:=[.arg (.v (.slice (.int .i64))),.arg (.v (.slice zt8))]
abbrev zf125.res:List M:=[.v .bool]
noncomputable def zf125.C:Cfg:={ tb:=tb,tab:=fun n f=>Refl.look [(109,(zf102.sg n)),(97,(zf88.sg n))] f,gl:=[],ar:=ar,bld:=bld,pts:=pts }
noncomputable def zf125.A:Ann:={ joins:=[],loops:=[],ids:=[(1,[(8,[])])],pids:=[],nroots:=73 }
noncomputable def zf125 (n:Nat) (x:List Int × List zt19):Option (Bool):=evalF zf125.C zf125.A Tryz.f70 zf125.ps zf125.res n x
theorem zf125.eq (n:Nat) (x0:List Int) (x1:List zt19):zf125 n (x0,x1)=((zf102 n (x0,x1)).bind fun y0=>((zf88 n (y0,0,100000)).bind fun y1=>some (y1))):=by kernel_rfl
noncomputable abbrev zf125.sg (n:Nat):Sig:=⟨zf125.ps,zf125.res,zf125 n⟩
theorem zf125.call:Callable Tryz.prog 70:=⟨Tryz.f70,Tryz.func70,by kernel_rfl,by kernel_rfl⟩
theorem zf125.ok (n:Nat):FC Tryz.prog [] 70 (zf125.sg n):=
  evalF_ok (C:=zf125.C) ⟨tb_ok,fun n _ _ h=>tabOk (l:=[(109,(zf102.sg n)),(97,(zf88.sg n))]) (all_cons ⟨zf102.ok n,zf102.call⟩ (all_cons ⟨zf88.ok n,zf88.call⟩ (all_nil))) h,mixed,ar_ok,bld_ok,pts_ok⟩ zf125.A Tryz.func70 zf125.ps zf125.res n
abbrev zf107.ps:List Pm:=[.arg (.pr (.own (.int .i64) 3) (.pr (.own zt8 100) (.v zt13))),.arg (.v zt1)]
abbrev zf107.res:List M:=[(.pr (.own (.int .i64) 3) (.pr (.own zt8 100) (.v zt13))),.v .bool]
noncomputable def zf107.C:Cfg:={ tb:=tb,tab:=fun n f=>Refl.look [(60,(zf103.sg n)),(57,(zf139.sg n)),(70,(zf125.sg n))] f,gl:=[],ar:=ar,bld:=bld,pts:=pts }
noncomputable def zf107.A:Ann:={ joins:=[],loops:=[],ids:=[(1,[(13,[]),(18,[])]),(8,[(50,[]),(59,[])])],pids:=[(0,[118,119])],nroots:=126 }
noncomputable def zf107 (n:Nat) (x:zt10 × Int × Int × Int × Int × List Int × Int × Int):Option (zt10 × Bool):=evalF zf107.C zf107.A Tryz.f102 zf107.ps zf107.res n x
theorem zf107.eq (n:Nat) (x0:List Int × List zt19 × Int × Int × Int) (x1:Int × Int × Int × Int × List Int × Int × Int):zf107 n (x0,x1)=((zf103 n (x1.2.1,0,Go.RowKit.wrap64 ((↑(List.length x0.1):Int)-1))).bind fun y0=>(if (!y0)=Bool.true then some (((x0.1,x0.2.1,x0.2.2.1,x0.2.2.2.1,x0.2.2.2.2),Bool.false)) else ((zf103 n (x1.2.2.1,1,100000)).bind fun y1=>(if (!y1)=true then some (((x0.1,x0.2.1,x0.2.2.1,x0.2.2.2.1,x0.2.2.2.2),Bool.false)) else (if x1.1=2 then (if 0≤x1.2.1 then (if x1.2.1<(↑(List.length x0.1):Int) then (if 0≤x1.2.1 then (if x1.2.1<(↑(List.length x0.1):Int) then ((zf139 n (List.set x0.1 (Int.toNat x1.2.1) (Go.RowKit.wrap64 (List.getD x0.1 (Int.toNat x1.2.1) 0+Go.RowKit.wrap64 (0-x1.2.2.1))))).bind fun y2=>(if y2=Bool.true then (if Go.RowKit.wrap64 (0-x1.2.2.1) > 0 then some (((List.set x0.1 (Int.toNat x1.2.1) (Go.RowKit.wrap64 (List.getD x0.1 (Int.toNat x1.2.1) 0+Go.RowKit.wrap64 (0-x1.2.2.1))),x0.2.1,Go.RowKit.wrap64 (x0.2.2.1+Go.RowKit.wrap64 (0-x1.2.2.1)),x0.2.2.2.1,x0.2.2.2.2),Bool.true)) else ((zf125 n (List.set x0.1 (Int.toNat x1.2.1) (Go.RowKit.wrap64 (List.getD x0.1 (Int.toNat x1.2.1) 0+Go.RowKit.wrap64 (0-x1.2.2.1))),x0.2.1)).bind fun y3=>some (((List.set x0.1 (Int.toNat x1.2.1) (Go.RowKit.wrap64 (List.getD x0.1 (Int.toNat x1.2.1) 0+Go.RowKit.wrap64 (0-x1.2.2.1))),x0.2.1,Go.RowKit.wrap64 (x0.2.2.1+Go.RowKit.wrap64 (0-x1.2.2.1)),x0.2.2.2.1,x0.2.2.2.2),y3)))) else some (((List.set x0.1 (Int.toNat x1.2.1) (Go.RowKit.wrap64 (List.getD x0.1 (Int.toNat x1.2.1) 0+Go.RowKit.wrap64 (0-x1.2.2.1))),x0.2.1,Go.RowKit.wrap64 (x0.2.2.1+Go.RowKit.wrap64 (0-x1.2.2.1)),x0.2.2.2.1,x0.2.2.2.2),Bool.false)))) else none) else none) else none) else none) else (if 0≤x1.2.1 then (if x1.2.1<(↑(List.length x0.1):Int) then (if 0≤x1.2.1 then (if x1.2.1<(↑(List.length x0.1):Int) then ((zf139 n (List.set x0.1 (Int.toNat x1.2.1) (Go.RowKit.wrap64 (List.getD x0.1 (Int.toNat x1.2.1) 0+x1.2.2.1)))).bind fun y4=>(if y4=Bool.true then (if x1.2.2.1 > 0 then some (((List.set x0.1 (Int.toNat x1.2.1) (Go.RowKit.wrap64 (List.getD x0.1 (Int.toNat x1.2.1) 0+x1.2.2.1)),x0.2.1,Go.RowKit.wrap64 (x0.2.2.1+x1.2.2.1),x0.2.2.2.1,x0.2.2.2.2),Bool.true)) else ((zf125 n (List.set x0.1 (Int.toNat x1.2.1) (Go.RowKit.wrap64 (List.getD x0.1 (Int.toNat x1.2.1) 0+x1.2.2.1)),x0.2.1)).bind fun y5=>some (((List.set x0.1 (Int.toNat x1.2.1) (Go.RowKit.wrap64 (List.getD x0.1 (Int.toNat x1.2.1) 0+x1.2.2.1)),x0.2.1,Go.RowKit.wrap64 (x0.2.2.1+x1.2.2.1),x0.2.2.2.1,x0.2.2.2.2),y5)))) else some (((List.set x0.1 (Int.toNat x1.2.1) (Go.RowKit.wrap64 (List.getD x0.1 (Int.toNat x1.2.1) 0+x1.2.2.1)),x0.2.1,Go.RowKit.wrap64 (x0.2.2.1+x1.2.2.1),x0.2.2.2.1,x0.2.2.2.2),Bool.false)))) else none) else none) else none) else none)))))):=by kernel_rfl
noncomputable abbrev zf107.sg (n:Nat):Sig:=⟨zf107.ps,zf107.res,zf107 n⟩
theorem zf107.call:Callable Tryz.prog 102:=⟨Tryz.f102,Tryz.func102,by kernel_rfl,by kernel_rfl⟩
theorem zf107.ok (n:Nat):FC Tryz.prog [] 102 (zf107.sg n):=
  evalF_ok (C:=zf107.C) ⟨tb_ok,fun n _ _ h=>tabOk (l:=[(60,(zf103.sg n)),(57,(zf139.sg n)),(70,(zf125.sg n))]) (all_cons ⟨zf103.ok n,zf103.call⟩ (all_cons ⟨zf139.ok n,zf139.call⟩ (all_cons ⟨zf125.ok n,zf125.call⟩ (all_nil)))) h,mixed,ar_ok,bld_ok,pts_ok⟩ zf107.A Tryz.func102 zf107.ps zf107.res n
abbrev zf104.ps:List Pm:=[.arg (.pr (.own (.int .i64) 3) (.pr (.own zt8 100) (.v zt13))),.arg (.v zt8)]
abbrev zf104.res:List M:=[(.pr (.own (.int .i64) 3) (.pr (.own zt8 100) (.v zt13))),.v .bool]
noncomputable def zf104.C:Cfg:={ tb:=tb,tab:=fun n f=>Refl.look [(58,(zf136.sg n)),(70,(zf125.sg n))] f,gl:=[],ar:=ar,bld:=bld,pts:=pts }
noncomputable def zf104.A:Ann:={ joins:=[],loops:=[],ids:=[(1,[(9,[])]),(2,[(17,[]),(24,[])])],pids:=[(0,[91,92])],nroots:=99 }
noncomputable def zf104 (n:Nat) (x:zt10 × Int × Int × List Int):Option (zt10 × Bool):=evalF zf104.C zf104.A Tryz.f103 zf104.ps zf104.res n x
theorem zf104.eq (n:Nat) (x0:List Int × List zt19 × Int × Int × Int) (x1:Int × Int × List Int):zf104 n (x0,x1)=(if List.length x0.2.1+List.length (List.set (List.replicate (1:Nat) ((0:Int),(0:Int),[])) (0:Nat) (x1.1,x1.2.1,x1.2.2))≤Go.Refl.maxN then ((zf136 n (x0.2.1++List.set (List.replicate 1 (0,0,[])) 0 (x1.1,x1.2.1,x1.2.2),(↑(List.length x0.1):Int))).bind fun y0=>(if (!y0)=Bool.true then some (((x0.1,x0.2.1++List.set (List.replicate 1 (0,0,[])) 0 (x1.1,x1.2.1,x1.2.2),x0.2.2.1,x0.2.2.2.1,x0.2.2.2.2),Bool.false)) else ((zf125 n (x0.1,x0.2.1++List.set (List.replicate 1 (0,0,[])) 0 (x1.1,x1.2.1,x1.2.2))).bind fun y1=>(if (!y1)=true then some (((x0.1,x0.2.1++List.set (List.replicate 1 (0,0,[])) 0 (x1.1,x1.2.1,x1.2.2),x0.2.2.1,x0.2.2.2.1,x0.2.2.2.2),Bool.false)) else some (((x0.1,x0.2.1++List.set (List.replicate 1 (0,0,[])) 0 (x1.1,x1.2.1,x1.2.2),Go.RowKit.wrap64 (x0.2.2.1-x1.2.1),x0.2.2.2.1,x0.2.2.2.2),Bool.true)))))) else none):=by kernel_rfl
noncomputable abbrev zf104.sg (n:Nat):Sig:=⟨zf104.ps,zf104.res,zf104 n⟩
theorem zf104.call:Callable Tryz.prog 103:=⟨Tryz.f103,Tryz.func103,by kernel_rfl,by kernel_rfl⟩
theorem zf104.ok (n:Nat):FC Tryz.prog [] 103 (zf104.sg n):=
  evalF_ok (C:=zf104.C) ⟨tb_ok,fun n _ _ h=>tabOk (l:=[(58,(zf136.sg n)),(70,(zf125.sg n))]) (all_cons ⟨zf136.ok n,zf136.call⟩ (all_cons ⟨zf125.ok n,zf125.call⟩ (all_nil))) h,mixed,ar_ok,bld_ok,pts_ok⟩ zf104.A Tryz.func103 zf104.ps zf104.res n
abbrev zf123.ps:List Pm:=[.arg (.pr (.own (.int .i64) 3) (.pr (.own zt8 100) (.v zt13))),.arg (.v zt1)]
abbrev zf123.res:List M:=[(.pr (.own (.int .i64) 3) (.pr (.own zt8 100) (.v zt13))),.v .bool]
noncomputable def zf123.C:Cfg:={ tb:=tb,tab:=fun n f=>Refl.look [(60,(zf103.sg n))] f,gl:=[],ar:=ar,bld:=bld,pts:=pts }
noncomputable def zf123.A:Ann:={ joins:=[],loops:=[],ids:=[(1,[(12,[]),(24,[]),(30,[])])],pids:=[(0,[143,144])],nroots:=151 }
noncomputable def zf123 (n:Nat) (x:zt10 × Int × Int × Int × Int × List Int × Int × Int):Option (zt10 × Bool):=evalF zf123.C zf123.A Tryz.f104 zf123.ps zf123.res n x
theorem zf123.eq (n:Nat) (x0:List Int × List zt19 × Int × Int × Int) (x1:Int × Int × Int × Int × List Int × Int × Int):zf123 n (x0,x1)=((zf103 n (x1.2.1,0,Go.RowKit.wrap64 ((↑(List.length x0.2.1):Int)-1))).bind fun y0=>(if (!y0)=Bool.true then some (((x0.1,x0.2.1,x0.2.2.1,x0.2.2.2.1,x0.2.2.2.2),Bool.false)) else (if 0≤x1.2.1 then (if x1.2.1<(↑(List.length x0.2.1):Int) then ((zf103 n (x1.2.2.1,1,Prod.fst (Prod.snd (List.getD x0.2.1 (Int.toNat x1.2.1) (0,0,[]))))).bind fun y1=>(if (!y1)=Bool.true then some (((x0.1,x0.2.1,x0.2.2.1,x0.2.2.2.1,x0.2.2.2.2),Bool.false)) else ((zf103 n (x1.2.2.2.1,0,100000)).bind fun y2=>(if (!y2)=true then some (((x0.1,x0.2.1,x0.2.2.1,x0.2.2.2.1,x0.2.2.2.2),Bool.false)) else (if 0≤x1.2.1 then (if x1.2.1<(↑(List.length x0.2.1):Int) then (if 0≤x1.2.1 then (if x1.2.1<(↑(List.length x0.2.1):Int) then (if 0≤x1.2.1 then (if x1.2.1<(↑(List.length (List.set x0.2.1 (Int.toNat x1.2.1) (Prod.fst (List.getD x0.2.1 (Int.toNat x1.2.1) ((0:Int),(0:Int),[])),Go.RowKit.wrap64 (Prod.fst (Prod.snd (List.getD x0.2.1 (Int.toNat x1.2.1) ((0:Int),(0:Int),[])))-x1.2.2.1),Prod.snd (Prod.snd (List.getD x0.2.1 (Int.toNat x1.2.1) ((0:Int),(0:Int),[])))))):Int) then (if Prod.fst (Prod.snd (List.getD (List.set x0.2.1 (Int.toNat x1.2.1) (Prod.fst (List.getD x0.2.1 (Int.toNat x1.2.1) (0,0,[])),Go.RowKit.wrap64 (Prod.fst (Prod.snd (List.getD x0.2.1 (Int.toNat x1.2.1) (0,0,[])))-x1.2.2.1),Prod.snd (Prod.snd (List.getD x0.2.1 (Int.toNat x1.2.1) (0,0,[]))))) (Int.toNat x1.2.1) (0,0,[])))=0 then (if 0≤x1.2.1 then (if x1.2.1≤(↑(List.length (List.set x0.2.1 (Int.toNat x1.2.1) (Prod.fst (List.getD x0.2.1 (Int.toNat x1.2.1) ((0:Int),(0:Int),[])),Go.RowKit.wrap64 (Prod.fst (Prod.snd (List.getD x0.2.1 (Int.toNat x1.2.1) ((0:Int),(0:Int),[])))-x1.2.2.1),Prod.snd (Prod.snd (List.getD x0.2.1 (Int.toNat x1.2.1) ((0:Int),(0:Int),[])))))):Int) then (if 0≤Go.RowKit.wrap64 (x1.2.1+1) then (if Go.RowKit.wrap64 (x1.2.1+1)≤(↑(List.length (List.set x0.2.1 (Int.toNat x1.2.1) (Prod.fst (List.getD x0.2.1 (Int.toNat x1.2.1) ((0:Int),(0:Int),[])),Go.RowKit.wrap64 (Prod.fst (Prod.snd (List.getD x0.2.1 (Int.toNat x1.2.1) ((0:Int),(0:Int),[])))-x1.2.2.1),Prod.snd (Prod.snd (List.getD x0.2.1 (Int.toNat x1.2.1) ((0:Int),(0:Int),[])))))):Int) then (if Int.toNat x1.2.1-0+List.length (List.take (List.length (List.set x0.2.1 (Int.toNat x1.2.1) (Prod.fst (List.getD x0.2.1 (Int.toNat x1.2.1) ((0:Int),(0:Int),[])),Go.RowKit.wrap64 (Prod.fst (Prod.snd (List.getD x0.2.1 (Int.toNat x1.2.1) ((0:Int),(0:Int),[])))-x1.2.2.1),Prod.snd (Prod.snd (List.getD x0.2.1 (Int.toNat x1.2.1) ((0:Int),(0:Int),[])))))-Int.toNat (Go.RowKit.wrap64 (x1.2.1+(1:Int)))) (List.drop (Int.toNat (Go.RowKit.wrap64 (x1.2.1+(1:Int)))) (List.set x0.2.1 (Int.toNat x1.2.1) (Prod.fst (List.getD x0.2.1 (Int.toNat x1.2.1) ((0:Int),(0:Int),[])),Go.RowKit.wrap64 (Prod.fst (Prod.snd (List.getD x0.2.1 (Int.toNat x1.2.1) ((0:Int),(0:Int),[])))-x1.2.2.1),Prod.snd (Prod.snd (List.getD x0.2.1 (Int.toNat x1.2.1) ((0:Int),(0:Int),[])))))))≤Go.Refl.maxN then some (((x0.1,List.take (Int.toNat x1.2.1-0) (List.set x0.2.1 (Int.toNat x1.2.1) (Prod.fst (List.getD x0.2.1 (Int.toNat x1.2.1) (0,0,[])),Go.RowKit.wrap64 (Prod.fst (Prod.snd (List.getD x0.2.1 (Int.toNat x1.2.1) (0,0,[])))-x1.2.2.1),Prod.snd (Prod.snd (List.getD x0.2.1 (Int.toNat x1.2.1) (0,0,[])))))++List.take (List.length (List.set x0.2.1 (Int.toNat x1.2.1) (Prod.fst (List.getD x0.2.1 (Int.toNat x1.2.1) ((0:Int),(0:Int),[])),Go.RowKit.wrap64 (Prod.fst (Prod.snd (List.getD x0.2.1 (Int.toNat x1.2.1) ((0:Int),(0:Int),[])))-x1.2.2.1),Prod.snd (Prod.snd (List.getD x0.2.1 (Int.toNat x1.2.1) ((0:Int),(0:Int),[])))))-Int.toNat (Go.RowKit.wrap64 (x1.2.1+1))) (List.drop (Int.toNat (Go.RowKit.wrap64 (x1.2.1+1))) (List.set x0.2.1 (Int.toNat x1.2.1) (Prod.fst (List.getD x0.2.1 (Int.toNat x1.2.1) (0,0,[])),Go.RowKit.wrap64 (Prod.fst (Prod.snd (List.getD x0.2.1 (Int.toNat x1.2.1) (0,0,[])))-x1.2.2.1),Prod.snd (Prod.snd (List.getD x0.2.1 (Int.toNat x1.2.1) (0,0,[])))))),Go.RowKit.wrap64 (Go.RowKit.wrap64 (x0.2.2.1+x1.2.2.1)+x1.2.2.2.1),Go.RowKit.wrap64 (x0.2.2.2.1+x1.2.2.2.1),x0.2.2.2.2),Bool.true)) else none) else none) else none) else none) else none) else some (((x0.1,List.set x0.2.1 (Int.toNat x1.2.1) (Prod.fst (List.getD x0.2.1 (Int.toNat x1.2.1) (0,0,[])),Go.RowKit.wrap64 (Prod.fst (Prod.snd (List.getD x0.2.1 (Int.toNat x1.2.1) (0,0,[])))-x1.2.2.1),Prod.snd (Prod.snd (List.getD x0.2.1 (Int.toNat x1.2.1) (0,0,[])))),Go.RowKit.wrap64 (Go.RowKit.wrap64 (x0.2.2.1+x1.2.2.1)+x1.2.2.2.1),Go.RowKit.wrap64 (x0.2.2.2.1+x1.2.2.2.1),x0.2.2.2.2),Bool.true))) else none) else none) else none) else none) else none) else none))))) else none) else none))):=by kernel_rfl
noncomputable abbrev zf123.sg (n:Nat):Sig:=⟨zf123.ps,zf123.res,zf123 n⟩
theorem zf123.call:Callable Tryz.prog 104:=⟨Tryz.f104,Tryz.func104,by kernel_rfl,by kernel_rfl⟩
theorem zf123.ok (n:Nat):FC Tryz.prog [] 104 (zf123.sg n):=
  evalF_ok (C:=zf123.C) ⟨tb_ok,fun n _ _ h=>tabOk (l:=[(60,(zf103.sg n))]) (all_cons ⟨zf103.ok n,zf103.call⟩ (all_nil)) h,mixed,ar_ok,bld_ok,pts_ok⟩ zf123.A Tryz.func104 zf123.ps zf123.res n
abbrev zf99.ps:List Pm:=[.arg (.v (.slice (.int .i64))),.arg (.v zt8)]
abbrev zf99.res:List M:=[(.own (.int .i64) 3),.v (.int .i64),(.own (.int .i64) 3)]
noncomputable def zf99.C:Cfg:={ tb:=tb,tab:=fun n f=>Refl.look [(100,(zf95.sg n)),(133,(zf131.sg n))] f,gl:=[],ar:=ar,bld:=bld,pts:=pts }
noncomputable def zf99.A:Ann:={ joins:=[],loops:=[(8,{ live:=[3,7,8,10,11,12],base:=95 })],ids:=[(15,[(90,[])])],pids:=[],nroots:=159 }
noncomputable def zf99 (n:Nat) (x:List Int × Int × Int × List Int):Option zt18:=evalF zf99.C zf99.A Tryz.f161 zf99.ps zf99.res n x
noncomputable def zf99.K0 (_:Nat):Kont zt18:=finK zf99.C (Func.results Tryz.f161).toList zf99.ps zf99.res
noncomputable def zf99.K1 (n:Nat):Kont zt18:=seqK (fun s' k=>joinE zf99.A.joins (codeAt Tryz.f161 [1,1,1,1,1,1,1,1]) (fun s''=>evalC zf99.C zf99.A n (codeAt Tryz.f161 [1,1,1,1,1,1,1,1]) s'' k) s') (zf99.K0 n)
noncomputable def zf99.K2 (n:Nat):Kont zt18:=blockK 0 (zf99.K1 n)
noncomputable def zf99.l8 (n m8:Nat) (x11 x12:Int) (r95_0 r95_1:Int) (r95_2 r96:List Int) (r97 r98:List Int):Option zt18:=loopE (cutAt zf99.A.loops (codeAt Tryz.f161 [1,1,1,1,1,1,1,0,1,0,0])) (fun s k=>evalC zf99.C zf99.A n (codeAt Tryz.f161 [1,1,1,1,1,1,1,0,1,0,0]) s k) m8 (St.of 95 159 [(3,.ptr 95 0 0),(7,.own 96),(8,.own 97),(10,.own 98),(11,.val (.int .i64) x11),(12,.val (.int .i64) x12)] [(95,.box 100 [.val (.int .i64) r95_0,.val (.int .i64) r95_1,.val (.slice (.int .i64)) r95_2]),(96,.row (.int .i64) 3 r96),(97,.row (.int .i64) 3 r97),(98,.row (.int .i64) 3 r98)] []) (zf99.K2 n)
theorem zf99.eq (n:Nat) (x0:List Int) (x1:Int × Int × List Int):zf99 n (x0,x1)=((zf95 n x0).bind fun y0=>(if 0≤x1.1 then (if x1.1<(↑(List.length y0):Int) then (if 0≤x1.1 then (if x1.1<(↑(List.length y0):Int) then (if 0≤x1.1 then (if x1.1<(↑(List.length y0):Int) then ((zf131 n (Go.RowKit.wrap64 (x1.2.1-Go.Refl.mn (List.getD y0 (Int.toNat x1.1) 0) x1.2.1),(↑(List.length x1.2.2):Int))).bind fun y1=>zf99.l8 n n (0) (0) x1.1 x1.2.1 x1.2.2 (List.set y0 (Int.toNat x1.1) (Go.RowKit.wrap64 (List.getD y0 (Int.toNat x1.1) 0-Go.Refl.mn (List.getD y0 (Int.toNat x1.1) 0) x1.2.1))) (List.replicate 0 0) (y1)) else none) else none) else none) else none) else none) else none)):=by kernel_rfl
theorem zf99.l8_succ (n m8:Nat) (x11 x12:Int) (r95_0 r95_1:Int) (r95_2 r96:List Int) (r97 r98:List Int):zf99.l8 n (m8+1) x11 x12 r95_0 r95_1 r95_2 r96 r97 r98=(if x12<(↑(List.length r98):Int) then (if 0≤x12 then (if x12<(↑(List.length r95_2):Int) then (if 0≤List.getD r95_2 (Int.toNat x12) 0 then (if List.getD r95_2 (Int.toNat x12) 0<(↑(List.length r96):Int) then (if 0≤x12 then (if x12<(↑(List.length r98):Int) then (if 0≤List.getD r95_2 (Int.toNat x12) 0 then (if List.getD r95_2 (Int.toNat x12) 0<(↑(List.length r96):Int) then (if 0≤List.getD r95_2 (Int.toNat x12) 0 then (if List.getD r95_2 (Int.toNat x12) 0<(↑(List.length r96):Int) then (if 0≤x12 then (if x12<(↑(List.length r98):Int) then (if 0≤x12 then (if x12<(↑(List.length r98):Int) then (if Go.Refl.mn (List.getD r96 (Int.toNat (List.getD r95_2 (Int.toNat x12) 0)) 0) (List.getD r98 (Int.toNat x12) 0)<List.getD r98 (Int.toNat x12) 0 then (if List.length r97+List.length (List.set (List.replicate (1:Nat) (0:Int)) (0:Nat) (List.getD r95_2 (Int.toNat x12) (0:Int)))≤Go.Refl.maxN then zf99.l8 n m8 (Go.RowKit.wrap64 (Go.RowKit.wrap64 (x11+List.getD r98 (Int.toNat x12) 0)-Go.Refl.mn (List.getD r96 (Int.toNat (List.getD r95_2 (Int.toNat x12) 0)) 0) (List.getD r98 (Int.toNat x12) 0))) (Go.RowKit.wrap64 (x12+1)) (r95_0) (r95_1) (r95_2) (List.set r96 (Int.toNat (List.getD r95_2 (Int.toNat x12) 0)) (Go.RowKit.wrap64 (List.getD r96 (Int.toNat (List.getD r95_2 (Int.toNat x12) 0)) 0-Go.Refl.mn (List.getD r96 (Int.toNat (List.getD r95_2 (Int.toNat x12) 0)) 0) (List.getD r98 (Int.toNat x12) 0)))) (r97++List.set (List.replicate 1 0) 0 (List.getD r95_2 (Int.toNat x12) 0)) (r98) else none) else zf99.l8 n m8 (Go.RowKit.wrap64 (Go.RowKit.wrap64 (x11+List.getD r98 (Int.toNat x12) 0)-Go.Refl.mn (List.getD r96 (Int.toNat (List.getD r95_2 (Int.toNat x12) 0)) 0) (List.getD r98 (Int.toNat x12) 0))) (Go.RowKit.wrap64 (x12+1)) (r95_0) (r95_1) (r95_2) (List.set r96 (Int.toNat (List.getD r95_2 (Int.toNat x12) 0)) (Go.RowKit.wrap64 (List.getD r96 (Int.toNat (List.getD r95_2 (Int.toNat x12) 0)) 0-Go.Refl.mn (List.getD r96 (Int.toNat (List.getD r95_2 (Int.toNat x12) 0)) 0) (List.getD r98 (Int.toNat x12) 0)))) (r97) (r98)) else none) else none) else none) else none) else none) else none) else none) else none) else none) else none) else none) else none) else none) else none) else some ((r96,x11,r97))):=by kernel_rfl
noncomputable abbrev zf99.sg (n:Nat):Sig:=⟨zf99.ps,zf99.res,zf99 n⟩
theorem zf99.call:Callable Tryz.prog 161:=⟨Tryz.f161,Tryz.func161,by kernel_rfl,by kernel_rfl⟩
theorem zf99.ok (n:Nat):FC Tryz.prog [] 161 (zf99.sg n):=
  evalF_ok (C:=zf99.C) ⟨tb_ok,fun n _ _ h=>tabOk (l:=[(100,(zf95.sg n)),(133,(zf131.sg n))]) (all_cons ⟨zf95.ok n,zf95.call⟩ (all_cons ⟨zf131.ok n,zf131.call⟩ (all_nil))) h,mixed,ar_ok,bld_ok,pts_ok⟩ zf99.A Tryz.func161 zf99.ps zf99.res n
abbrev zf93.ps:List Pm:=[.arg (.own (.int .i64) 3),.arg (.v (.slice zt8)),.arg (.v (.int .i64))]
abbrev zf93.res:List M:=[(.own (.int .i64) 3),.v (.int .i64),(.own (.int .i64) 3)]
noncomputable def zf93.C:Cfg:={ tb:=tb,tab:=fun n f=>Refl.look [(161,(zf99.sg n)),(99,(zf114.sg n))] f,gl:=[],ar:=ar,bld:=bld,pts:=pts }
noncomputable def zf93.A:Ann:={ joins:=[],loops:=[(5,{ live:=[0,1,9,10,11,12],base:=91 }),(8,{ live:=[0,1,9,10,11,12,13],base:=91 }),(16,{ live:=[0,1,9,10,11,12,13,16,17],base:=91 })],ids:=[(1,[(19,[19])]),(12,[(60,[123,124])]),(18,[(79,[])]),(19,[(86,[])])],pids:=[],nroots:=155 }
noncomputable def zf93 (n:Nat) (x:List Int × List zt19 × Int):Option zt18:=evalF zf93.C zf93.A Tryz.f131 zf93.ps zf93.res n x
noncomputable def zf93.K0 (_:Nat):Kont zt18:=finK zf93.C (Func.results Tryz.f131).toList zf93.ps zf93.res
noncomputable def zf93.K1 (n:Nat):Kont zt18:=seqK (fun s' k=>joinE zf93.A.joins (codeAt Tryz.f131 [1,1,1,1,1]) (fun s''=>evalC zf93.C zf93.A n (codeAt Tryz.f131 [1,1,1,1,1]) s'' k) s') (zf93.K0 n)
noncomputable def zf93.K2 (n:Nat):Kont zt18:=blockK 0 (zf93.K1 n)
noncomputable def zf93.K3 (n m5:Nat):Kont zt18:=loopK (cutAt zf93.A.loops (codeAt Tryz.f131 [1,1,1,1,0,1,0,0])) (fun s k=>evalC zf93.C zf93.A n (codeAt Tryz.f131 [1,1,1,1,0,1,0,0]) s k) m5 (zf93.K2 n)
noncomputable def zf93.K4 (n m5:Nat):Kont zt18:=seqK (fun s' k=>joinE zf93.A.joins (codeAt Tryz.f131 [1,1,1,1,0,1,0,0,1,1]) (fun s''=>evalC zf93.C zf93.A n (codeAt Tryz.f131 [1,1,1,1,0,1,0,0,1,1]) s'' k) s') (zf93.K3 n m5)
noncomputable def zf93.K5 (n m5:Nat):Kont zt18:=blockK 1 (zf93.K4 n m5)
noncomputable def zf93.K6 (n m5:Nat):Kont zt18:=blockK 2 (zf93.K5 n m5)
noncomputable def zf93.K7 (n m5 m8:Nat):Kont zt18:=loopK (cutAt zf93.A.loops (codeAt Tryz.f131 [1,1,1,1,0,1,0,0,1,0,0,1,0,0])) (fun s k=>evalC zf93.C zf93.A n (codeAt Tryz.f131 [1,1,1,1,0,1,0,0,1,0,0,1,0,0]) s k) m8 (zf93.K6 n m5)
noncomputable def zf93.K8 (n m5 m8:Nat):Kont zt18:=seqK (fun s' k=>joinE zf93.A.joins (codeAt Tryz.f131 [1,1,1,1,0,1,0,0,1,0,0,1,0,0,1,1]) (fun s''=>evalC zf93.C zf93.A n (codeAt Tryz.f131 [1,1,1,1,0,1,0,0,1,0,0,1,0,0,1,1]) s'' k) s') (zf93.K7 n m5 m8)
noncomputable def zf93.K9 (n m5 m8:Nat):Kont zt18:=blockK 3 (zf93.K8 n m5 m8)
noncomputable def zf93.K10 (n m5 m8:Nat):Kont zt18:=blockK 4 (zf93.K9 n m5 m8)
noncomputable def zf93.l5 (n m5:Nat) (x1:List zt19) (x10 x12:Int) (r91 r92:List Int) (r93:List Bool):Option zt18:=loopE (cutAt zf93.A.loops (codeAt Tryz.f131 [1,1,1,1,0,1,0,0])) (fun s k=>evalC zf93.C zf93.A n (codeAt Tryz.f131 [1,1,1,1,0,1,0,0]) s k) m5 (St.of 91 155 [(0,.own 91),(1,.val (.slice zt8) x1),(9,.own 92),(10,.val (.int .i64) x10),(11,.own 93),(12,.val (.int .i64) x12)] [(91,.row (.int .i64) 3 r91),(92,.row (.int .i64) 3 r92),(93,.row .bool 4 r93)] []) (zf93.K2 n)
noncomputable def zf93.l8 (n m5 m8:Nat) (x1:List zt19) (x10 x12 x13:Int) (r91 r92:List Int) (r93:List Bool):Option zt18:=loopE (cutAt zf93.A.loops (codeAt Tryz.f131 [1,1,1,1,0,1,0,0,1,0,0,1,0,0])) (fun s k=>evalC zf93.C zf93.A n (codeAt Tryz.f131 [1,1,1,1,0,1,0,0,1,0,0,1,0,0]) s k) m8 (St.of 91 155 [(0,.own 91),(1,.val (.slice zt8) x1),(9,.own 92),(10,.val (.int .i64) x10),(11,.own 93),(12,.val (.int .i64) x12),(13,.val (.int .i64) x13)] [(91,.row (.int .i64) 3 r91),(92,.row (.int .i64) 3 r92),(93,.row .bool 4 r93)] []) (zf93.K6 n m5)
noncomputable def zf93.l16 (n m5 m8 m16:Nat) (x1:List zt19) (x10 x12:Int) (x13 x17:Int) (r91 r92:List Int) (r93:List Bool) (r94:List Int):Option zt18:=loopE (cutAt zf93.A.loops (codeAt Tryz.f131 [1,1,1,1,0,1,0,0,1,0,0,1,0,0,1,0,0,1,1,1,1,1,1,0,0])) (fun s k=>evalC zf93.C zf93.A n (codeAt Tryz.f131 [1,1,1,1,0,1,0,0,1,0,0,1,0,0,1,0,0,1,1,1,1,1,1,0,0]) s k) m16 (St.of 91 155 [(0,.own 91),(1,.val (.slice zt8) x1),(9,.own 92),(10,.val (.int .i64) x10),(11,.own 93),(12,.val (.int .i64) x12),(13,.val (.int .i64) x13),(16,.own 94),(17,.val (.int .i64) x17)] [(91,.row (.int .i64) 3 r91),(92,.row (.int .i64) 3 r92),(93,.row .bool 4 r93),(94,.row (.int .i64) 3 r94)] []) (zf93.K10 n m5 m8)
theorem zf93.eq (n:Nat) (x0:List Int) (x1:List zt19) (x2:Int):zf93 n (x0,x1,x2)=(if 0≤(↑(List.length x1):Int) then (if (↑(List.length x1):Int)≤(↑(List.length x1):Int) then (if (↑(List.length x1):Int)≤(↑Go.Refl.maxN:Int) then zf93.l5 n n (x1) (0) (0) (x0) (List.set (List.replicate 1 0) 0 x2) (List.replicate (Int.toNat (↑(List.length x1):Int)) Bool.false) else none) else none) else none):=by kernel_rfl
theorem zf93.l5_succ (n m5:Nat) (x1:List zt19) (x10 x12:Int) (r91 r92:List Int) (r93:List Bool):zf93.l5 n (m5+1) x1 x10 x12 r91 r92 r93=(if x12<(↑(List.length r92):Int) then zf93.l8 n m5 n (x1) (x10) (x12) (0) (r91) (r92) (r93) else some ((r91,x10,r92))):=by kernel_rfl
theorem zf93.l8_succ (n m5 m8:Nat) (x1:List zt19) (x10 x12 x13:Int) (r91 r92:List Int) (r93:List Bool):zf93.l8 n m5 (m8+1) x1 x10 x12 x13 r91 r92 r93=(if x13<(↑(List.length x1):Int) then (if 0≤x13 then (if x13<(↑(List.length r93):Int) then (if List.getD r93 (Int.toNat x13) Bool.false=Bool.true then zf93.l8 n m5 m8 (x1) (x10) (x12) (Go.RowKit.wrap64 (x13+1)) (r91) (r92) (r93) else (if 0≤x13 then (if x13<(↑(List.length x1):Int) then (if 0≤x12 then (if x12<(↑(List.length r92):Int) then (if Prod.fst (List.getD x1 (Int.toNat x13) (0,0,[]))=List.getD r92 (Int.toNat x12) 0 then (if 0≤x13 then (if x13<(↑(List.length r93):Int) then (if 0≤x13 then (if x13<(↑(List.length x1):Int) then ((zf99 n (r91,List.getD x1 (Int.toNat x13) (0,0,[]))).bind fun y2=>zf93.l16 n m5 m8 n (x1) (Go.RowKit.wrap64 (x10+y2.2.1)) (x12) (x13) (0) y2.1 (r92) (List.set r93 (Int.toNat x13) Bool.true) y2.2.2) else none) else none) else none) else none) else zf93.l8 n m5 m8 (x1) (x10) (x12) (Go.RowKit.wrap64 (x13+1)) (r91) (r92) (r93)) else none) else none) else none) else none)) else none) else none) else zf93.l5 n m5 (x1) (x10) (Go.RowKit.wrap64 (x12+1)) (r91) (r92) (r93)):=by kernel_rfl
theorem zf93.l16_succ (n m5 m8 m16:Nat) (x1:List zt19) (x10 x12:Int) (x13 x17:Int) (r91 r92:List Int) (r93:List Bool) (r94:List Int):zf93.l16 n m5 m8 (m16+1) x1 x10 x12 x13 x17 r91 r92 r93 r94=(if x17<(↑(List.length r94):Int) then (if 0≤x17 then (if x17<(↑(List.length r94):Int) then ((zf114 n (r92,List.getD r94 (Int.toNat x17) 0)).bind fun y3=>(if y3<0 then (if 0≤x17 then (if x17<(↑(List.length r94):Int) then (if List.length r92+List.length (List.set (List.replicate (1:Nat) (0:Int)) (0:Nat) (List.getD r94 (Int.toNat x17) (0:Int)))≤Go.Refl.maxN then zf93.l16 n m5 m8 m16 (x1) (x10) (x12) (x13) (Go.RowKit.wrap64 (x17+1)) (r91) (r92++List.set (List.replicate 1 0) 0 (List.getD r94 (Int.toNat x17) 0)) (r93) (r94) else none) else none) else none) else zf93.l16 n m5 m8 m16 (x1) (x10) (x12) (x13) (Go.RowKit.wrap64 (x17+1)) (r91) (r92) (r93) (r94))) else none) else none) else zf93.l8 n m5 m8 (x1) (x10) (x12) (Go.RowKit.wrap64 (x13+1)) (r91) (r92) (r93)):=by kernel_rfl
noncomputable abbrev zf93.sg (n:Nat):Sig:=⟨zf93.ps,zf93.res,zf93 n⟩
theorem zf93.call:Callable Tryz.prog 131:=⟨Tryz.f131,Tryz.func131,by kernel_rfl,by kernel_rfl⟩
theorem zf93.ok (n:Nat):FC Tryz.prog [] 131 (zf93.sg n):=
  evalF_ok (C:=zf93.C) ⟨tb_ok,fun n _ _ h=>tabOk (l:=[(161,(zf99.sg n)),(99,(zf114.sg n))]) (all_cons ⟨zf99.ok n,zf99.call⟩ (all_cons ⟨zf114.ok n,zf114.call⟩ (all_nil))) h,mixed,ar_ok,bld_ok,pts_ok⟩ zf93.A Tryz.func131 zf93.ps zf93.res n
abbrev zf100.ps:List Pm:=[.arg (.pr (.own (.int .i64) 3) (.pr (.own zt8 100) (.v zt13))),.arg (.v (.int .i64))]
abbrev zf100.res:List M:=[(.pr (.own (.int .i64) 3) (.pr (.own zt8 100) (.v zt13))),.v .bool]
noncomputable def zf100.C:Cfg:={ tb:=tb,tab:=fun n f=>Refl.look [(60,(zf103.sg n)),(131,(zf93.sg n)),(99,(zf114.sg n))] f,gl:=[],ar:=ar,bld:=bld,pts:=pts }
noncomputable def zf100.A:Ann:={ joins:=[],loops:=[(6,{ live:=[2,4,6,7,8,9,10],base:=64 })],ids:=[(1,[(16,[])]),(3,[(25,[97,98])]),(8,[(44,[])]),(9,[(52,[])])],pids:=[(0,[120,121])],nroots:=128 }
noncomputable def zf100 (n:Nat) (x:zt10 × Int):Option (zt10 × Bool):=evalF zf100.C zf100.A Tryz.f105 zf100.ps zf100.res n x
noncomputable def zf100.K0 (_:Nat):Kont (zt10 × Bool):=finK zf100.C (Func.results Tryz.f105).toList zf100.ps zf100.res
noncomputable def zf100.K1 (n:Nat):Kont (zt10 × Bool):=seqK (fun s' k=>joinE zf100.A.joins (codeAt Tryz.f105 [1,1,1,1,1]) (fun s''=>evalC zf100.C zf100.A n (codeAt Tryz.f105 [1,1,1,1,1]) s'' k) s') (zf100.K0 n)
noncomputable def zf100.K2 (n:Nat):Kont (zt10 × Bool):=blockK 0 (zf100.K1 n)
noncomputable def zf100.l6 (n m6:Nat) (x7 x10:Int) (r64_2 r64_3:Int) (r64_4 r65_2:Int) (r65_3 r65_4:Int) (r66 r67:List Int) (r68:List zt19) (r69:List zt19):Option (zt10 × Bool):=loopE (cutAt zf100.A.loops (codeAt Tryz.f105 [1,1,1,1,0,1,0,0])) (fun s k=>evalC zf100.C zf100.A n (codeAt Tryz.f105 [1,1,1,1,0,1,0,0]) s k) m6 (St.of 64 128 [(2,.ptr 64 0 0),(4,.ptr 65 0 0),(6,.own 66),(7,.val (.int .i64) x7),(8,.own 67),(9,.own 68),(10,.val (.int .i64) x10)] [(64,.box 26 [.undef,.own 69,.val (.int .i64) r64_2,.val (.int .i64) r64_3,.val (.int .i64) r64_4]),(65,.box 26 [.nils,.nils,.val (.int .i64) r65_2,.val (.int .i64) r65_3,.val (.int .i64) r65_4]),(66,.row (.int .i64) 3 r66),(67,.row (.int .i64) 3 r67),(68,.row zt8 100 r68),(69,.row zt8 100 r69)] []) (zf100.K2 n)
theorem zf100.eq (n:Nat) (x0:List Int × List zt19 × Int × Int × Int) (x1:Int):zf100 n (x0,x1)=((zf103 n (x1,0,Go.RowKit.wrap64 ((↑(List.length x0.1):Int)-1))).bind fun y0=>(if (!y0)=true then some (((x0.1,x0.2.1,x0.2.2.1,x0.2.2.2.1,x0.2.2.2.2),Bool.false)) else ((zf93 n (x0.1,x0.2.1,x1)).bind fun y3=>zf100.l6 n n y3.2.1 (0) x0.2.2.1 x0.2.2.2.1 x0.2.2.2.2 (0) (0) (0) y3.1 y3.2.2 (List.replicate 0 (0,0,[])) x0.2.1))):=by kernel_rfl
theorem zf100.l6_succ (n m6:Nat) (x7 x10:Int) (r64_2 r64_3:Int) (r64_4 r65_2:Int) (r65_3 r65_4:Int) (r66 r67:List Int) (r68:List zt19) (r69:List zt19):zf100.l6 n (m6+1) x7 x10 r64_2 r64_3 r64_4 r65_2 r65_3 r65_4 r66 r67 r68 r69=(if x10<(↑(List.length r69):Int) then (if 0≤x10 then (if x10<(↑(List.length r69):Int) then ((zf114 n (r67,Prod.fst (List.getD r69 (Int.toNat x10) (0,0,[])))).bind fun y4=>(if y4<0 then (if 0≤x10 then (if x10<(↑(List.length r69):Int) then (if List.length r68+List.length (List.set (List.replicate (1:Nat) ((0:Int),(0:Int),[])) (0:Nat) (List.getD r69 (Int.toNat x10) ((0:Int),(0:Int),[])))≤Go.Refl.maxN then zf100.l6 n m6 (x7) (Go.RowKit.wrap64 (x10+1)) (r64_2) (r64_3) (r64_4) (r65_2) (r65_3) (r65_4) (r66) (r67) (r68++List.set (List.replicate 1 (0,0,[])) 0 (List.getD r69 (Int.toNat x10) (0,0,[]))) (r69) else none) else none) else none) else zf100.l6 n m6 (x7) (Go.RowKit.wrap64 (x10+1)) (r64_2) (r64_3) (r64_4) (r65_2) (r65_3) (r65_4) (r66) (r67) (r68) (r69))) else none) else none) else some (((r66,r68,r64_2,Go.RowKit.wrap64 (r64_3-x7),r64_4),Bool.true))):=by kernel_rfl
noncomputable abbrev zf100.sg (n:Nat):Sig:=⟨zf100.ps,zf100.res,zf100 n⟩
theorem zf100.call:Callable Tryz.prog 105:=⟨Tryz.f105,Tryz.func105,by kernel_rfl,by kernel_rfl⟩
theorem zf100.ok (n:Nat):FC Tryz.prog [] 105 (zf100.sg n):=
  evalF_ok (C:=zf100.C) ⟨tb_ok,fun n _ _ h=>tabOk (l:=[(60,(zf103.sg n)),(131,(zf93.sg n)),(99,(zf114.sg n))]) (all_cons ⟨zf103.ok n,zf103.call⟩ (all_cons ⟨zf93.ok n,zf93.call⟩ (all_cons ⟨zf114.ok n,zf114.call⟩ (all_nil)))) h,mixed,ar_ok,bld_ok,pts_ok⟩ zf100.A Tryz.func105 zf100.ps zf100.res n
abbrev zf109.ps:List Pm:=[.arg (.v (.int .i64)),.arg (.v zt16)]
abbrev zf109.res:List M:=[.v (.int .i64)]
noncomputable def zf109.C:Cfg:={ tb:=tb,tab:=fun n f=>Refl.look [] f,gl:=[],ar:=ar,bld:=bld,pts:=pts }
noncomputable def zf109.A:Ann:={ joins:=[],loops:=[],ids:=[],pids:=[],nroots:=81 }
noncomputable def zf109 (n:Nat) (x:Int × Int × Int):Option (Int):=evalF zf109.C zf109.A Tryz.f162 zf109.ps zf109.res n x
theorem zf109.eq (n:Nat) (x0:Int) (x1:Int × Int):zf109 n (x0,x1)=(if Go.RowKit.wrap64 (2*x1.2)=0 then none else some (Go.RowKit.wrap64 (Int.tdiv (Go.RowKit.wrap64 (Go.RowKit.wrap64 (Go.RowKit.wrap64 (2*x0)*x1.1)+x1.2)) (Go.RowKit.wrap64 (2*x1.2))))):=by kernel_rfl
noncomputable abbrev zf109.sg (n:Nat):Sig:=⟨zf109.ps,zf109.res,zf109 n⟩
theorem zf109.call:Callable Tryz.prog 162:=⟨Tryz.f162,Tryz.func162,by kernel_rfl,by kernel_rfl⟩
theorem zf109.ok (n:Nat):FC Tryz.prog [] 162 (zf109.sg n):=
  evalF_ok (C:=zf109.C) ⟨tb_ok,fun n _ _ h=>tabOk (l:=[]) (all_nil) h,mixed,ar_ok,bld_ok,pts_ok⟩ zf109.A Tryz.func162 zf109.ps zf109.res n
abbrev zf97.ps:List Pm:=[.arg (.v (.int .i64)),.arg (.v zt16)]
abbrev zf97.res:List M:=[.v (.int .i64)]
noncomputable def zf97.C:Cfg:={ tb:=tb,tab:=fun n f=>Refl.look [(162,(zf109.sg n))] f,gl:=[],ar:=ar,bld:=bld,pts:=pts }
noncomputable def zf97.A:Ann:={ joins:=[],loops:=[],ids:=[(1,[(8,[])])],pids:=[],nroots:=102 }
noncomputable def zf97 (n:Nat) (x:Int × Int × Int):Option (Int):=evalF zf97.C zf97.A Tryz.f132 zf97.ps zf97.res n x
theorem zf97.eq (n:Nat) (x0:Int) (x1:Int × Int):zf97 n (x0,x1)=((zf109 n (x0,x1.1,x1.2)).bind fun y0=>(if x1.2=0 then none else (if Int.tmod (Go.RowKit.wrap64 (Go.RowKit.wrap64 (2*x0)*x1.1)) x1.2=0 then (if x1.2=0 then none else (if Int.tmod (Go.RowKit.wrap64 (Int.tdiv (Go.RowKit.wrap64 (Go.RowKit.wrap64 (2*x0)*x1.1)) x1.2)) 2=1 then (if Int.tmod y0 2=1 then some (Go.RowKit.wrap64 (y0-1)) else some (y0)) else some (y0))) else some (y0)))):=by kernel_rfl
noncomputable abbrev zf97.sg (n:Nat):Sig:=⟨zf97.ps,zf97.res,zf97 n⟩
theorem zf97.call:Callable Tryz.prog 132:=⟨Tryz.f132,Tryz.func132,by kernel_rfl,by kernel_rfl⟩
theorem zf97.ok (n:Nat):FC Tryz.prog [] 132 (zf97.sg n):=
  evalF_ok (C:=zf97.C) ⟨tb_ok,fun n _ _ h=>tabOk (l:=[(162,(zf109.sg n))]) (all_cons ⟨zf109.ok n,zf109.call⟩ (all_nil)) h,mixed,ar_ok,bld_ok,pts_ok⟩ zf97.A Tryz.func132 zf97.ps zf97.res n
abbrev zf111.ps:List Pm:=[.arg (.pr (.own (.int .i64) 3) (.pr (.own zt8 100) (.v zt13))),.arg (.v zt16)]
abbrev zf111.res:List M:=[(.pr (.own (.int .i64) 3) (.pr (.own zt8 100) (.v zt13))),.v .bool]
noncomputable def zf111.C:Cfg:={ tb:=tb,tab:=fun n f=>Refl.look [(126,(zf138.sg n)),(132,(zf97.sg n))] f,gl:=[],ar:=ar,bld:=bld,pts:=pts }
noncomputable def zf111.A:Ann:={ joins:=[],loops:=[(4,{ live:=[2,3,4,6],base:=50 })],ids:=[(1,[(9,[])]),(6,[(26,[])])],pids:=[(0,[106,107])],nroots:=114 }
noncomputable def zf111 (n:Nat) (x:zt10 × Int × Int):Option (zt10 × Bool):=evalF zf111.C zf111.A Tryz.f106 zf111.ps zf111.res n x
noncomputable def zf111.K0 (_:Nat):Kont (zt10 × Bool):=finK zf111.C (Func.results Tryz.f106).toList zf111.ps zf111.res
noncomputable def zf111.K1 (n:Nat):Kont (zt10 × Bool):=seqK (fun s' k=>joinE zf111.A.joins (codeAt Tryz.f106 [1,1,1]) (fun s''=>evalC zf111.C zf111.A n (codeAt Tryz.f106 [1,1,1]) s'' k) s') (zf111.K0 n)
noncomputable def zf111.K2 (n:Nat):Kont (zt10 × Bool):=blockK 0 (zf111.K1 n)
noncomputable def zf111.l4 (n m4:Nat) (x6 r50_2:Int) (r50_3 r50_4:Int) (r51_0 r51_1:Int) (r52_2 r52_3 r52_4:Int) (r53:List Int) (r54:List zt19):Option (zt10 × Bool):=loopE (cutAt zf111.A.loops (codeAt Tryz.f106 [1,1,0,1,0,0])) (fun s k=>evalC zf111.C zf111.A n (codeAt Tryz.f106 [1,1,0,1,0,0]) s k) m4 (St.of 50 114 [(2,.ptr 50 0 0),(3,.ptr 51 0 0),(4,.ptr 52 0 0),(6,.val (.int .i64) x6)] [(50,.box 26 [.own 53,.own 54,.val (.int .i64) r50_2,.val (.int .i64) r50_3,.val (.int .i64) r50_4]),(51,.box 70 [.val (.int .i64) r51_0,.val (.int .i64) r51_1]),(52,.box 26 [.nils,.nils,.val (.int .i64) r52_2,.val (.int .i64) r52_3,.val (.int .i64) r52_4]),(53,.row (.int .i64) 3 r53),(54,.row zt8 100 r54)] []) (zf111.K2 n)
theorem zf111.eq (n:Nat) (x0:List Int × List zt19 × Int × Int × Int) (x1:Int × Int):zf111 n (x0,x1)=((zf138 n (x1.1,x1.2)).bind fun y0=>(if (!y0)=true then some (((x0.1,x0.2.1,x0.2.2.1,x0.2.2.2.1,x0.2.2.2.2),Bool.false)) else zf111.l4 n n (0) x0.2.2.1 x0.2.2.2.1 x0.2.2.2.2 x1.1 x1.2 (0) (0) (0) x0.1 x0.2.1)):=by kernel_rfl
theorem zf111.l4_succ (n m4:Nat) (x6 r50_2:Int) (r50_3 r50_4:Int) (r51_0 r51_1:Int) (r52_2 r52_3 r52_4:Int) (r53:List Int) (r54:List zt19):zf111.l4 n (m4+1) x6 r50_2 r50_3 r50_4 r51_0 r51_1 r52_2 r52_3 r52_4 r53 r54=(if x6<(↑(List.length r54):Int) then (if 0≤x6 then (if x6<(↑(List.length r54):Int) then ((zf97 n (Prod.fst (Prod.snd (List.getD r54 (Int.toNat x6) (0,0,[]))),r51_0,r51_1)).bind fun y1=>(if 0≤x6 then (if x6<(↑(List.length r54):Int) then (if 0≤x6 then (if x6<(↑(List.length r54):Int) then zf111.l4 n m4 (Go.RowKit.wrap64 (x6+1)) (r50_2) (Go.RowKit.wrap64 (r50_3+y1)) (r50_4) (r51_0) (r51_1) (r52_2) (r52_3) (r52_4) (r53) (List.set r54 (Int.toNat x6) (Prod.fst (List.getD r54 (Int.toNat x6) (0,0,[])),Go.RowKit.wrap64 (Prod.fst (Prod.snd (List.getD r54 (Int.toNat x6) (0,0,[])))+y1),Prod.snd (Prod.snd (List.getD r54 (Int.toNat x6) (0,0,[]))))) else none) else none) else none) else none)) else none) else none) else some (((r53,r54,r50_2,r50_3,Go.RowKit.wrap64 (r50_4+1)),Bool.true))):=by kernel_rfl
noncomputable abbrev zf111.sg (n:Nat):Sig:=⟨zf111.ps,zf111.res,zf111 n⟩
theorem zf111.call:Callable Tryz.prog 106:=⟨Tryz.f106,Tryz.func106,by kernel_rfl,by kernel_rfl⟩
theorem zf111.ok (n:Nat):FC Tryz.prog [] 106 (zf111.sg n):=
  evalF_ok (C:=zf111.C) ⟨tb_ok,fun n _ _ h=>tabOk (l:=[(126,(zf138.sg n)),(132,(zf97.sg n))]) (all_cons ⟨zf138.ok n,zf138.call⟩ (all_cons ⟨zf97.ok n,zf97.call⟩ (all_nil))) h,mixed,ar_ok,bld_ok,pts_ok⟩ zf111.A Tryz.func106 zf111.ps zf111.res n
abbrev zf126.ps:List Pm:=[.arg (.pr (.own (.int .i64) 3) (.pr (.own zt8 100) (.v zt13)))]
abbrev zf126.res:List M:=[(.pr (.own (.int .i64) 3) (.pr (.own zt8 100) (.v zt13))),.v .bool]
noncomputable def zf126.C:Cfg:={ tb:=tb,tab:=fun n f=>Refl.look [(133,(zf131.sg n))] f,gl:=[],ar:=ar,bld:=bld,pts:=pts }
noncomputable def zf126.A:Ann:={ joins:=[],loops:=[(5,{ live:=[1,2,4,5],base:=38 })],ids:=[],pids:=[(0,[94,95])],nroots:=102 }
noncomputable def zf126 (n:Nat) (x:List Int × List zt19 × Int × Int × Int):Option (zt10 × Bool):=evalF zf126.C zf126.A Tryz.f107 zf126.ps zf126.res n x
noncomputable def zf126.K0 (_:Nat):Kont (zt10 × Bool):=finK zf126.C (Func.results Tryz.f107).toList zf126.ps zf126.res
noncomputable def zf126.K1 (n:Nat):Kont (zt10 × Bool):=seqK (fun s' k=>joinE zf126.A.joins (codeAt Tryz.f107 [1,1,1,1]) (fun s''=>evalC zf126.C zf126.A n (codeAt Tryz.f107 [1,1,1,1]) s'' k) s') (zf126.K0 n)
noncomputable def zf126.K2 (n:Nat):Kont (zt10 × Bool):=blockK 0 (zf126.K1 n)
noncomputable def zf126.l5 (n m5:Nat) (x5 r38_2:Int) (r38_3 r38_4:Int) (r39_2 r39_3 r39_4:Int) (r40 r41:List Int) (r42:List zt19):Option (zt10 × Bool):=loopE (cutAt zf126.A.loops (codeAt Tryz.f107 [1,1,1,0,1,0,0])) (fun s k=>evalC zf126.C zf126.A n (codeAt Tryz.f107 [1,1,1,0,1,0,0]) s k) m5 (St.of 38 102 [(1,.ptr 38 0 0),(2,.ptr 39 0 0),(4,.own 40),(5,.val (.int .i64) x5)] [(38,.box 26 [.own 41,.own 42,.val (.int .i64) r38_2,.val (.int .i64) r38_3,.val (.int .i64) r38_4]),(39,.box 26 [.nils,.nils,.val (.int .i64) r39_2,.val (.int .i64) r39_3,.val (.int .i64) r39_4]),(40,.row (.int .i64) 3 r40),(41,.row (.int .i64) 3 r41),(42,.row zt8 100 r42)] []) (zf126.K2 n)
theorem zf126.eq (n:Nat) (x0:List Int × List zt19 × Int × Int × Int):zf126 n x0=(if x0.2.2.2.1<0 then some (((x0.1,x0.2.1,x0.2.2.1,x0.2.2.2.1,x0.2.2.2.2),Bool.false)) else ((zf131 n (x0.2.2.2.1,(↑(List.length x0.1):Int))).bind fun y0=>zf126.l5 n n (0) x0.2.2.1 x0.2.2.2.1 x0.2.2.2.2 (0) (0) (0) (y0) x0.1 x0.2.1)):=by kernel_rfl
theorem zf126.l5_succ (n m5:Nat) (x5 r38_2:Int) (r38_3 r38_4:Int) (r39_2 r39_3 r39_4:Int) (r40 r41:List Int) (r42:List zt19):zf126.l5 n (m5+1) x5 r38_2 r38_3 r38_4 r39_2 r39_3 r39_4 r40 r41 r42=(if x5<(↑(List.length r40):Int) then (if 0≤x5 then (if x5<(↑(List.length r41):Int) then (if 0≤x5 then (if x5<(↑(List.length r40):Int) then (if 0≤x5 then (if x5<(↑(List.length r41):Int) then zf126.l5 n m5 (Go.RowKit.wrap64 (x5+1)) (r38_2) (r38_3) (r38_4) (r39_2) (r39_3) (r39_4) (r40) (List.set r41 (Int.toNat x5) (Go.RowKit.wrap64 (List.getD r41 (Int.toNat x5) 0+List.getD r40 (Int.toNat x5) 0))) (r42) else none) else none) else none) else none) else none) else none) else some (((r41,r42,r38_2,0,r38_4),Bool.true))):=by kernel_rfl
noncomputable abbrev zf126.sg (n:Nat):Sig:=⟨zf126.ps,zf126.res,zf126 n⟩
theorem zf126.call:Callable Tryz.prog 107:=⟨Tryz.f107,Tryz.func107,by kernel_rfl,by kernel_rfl⟩
theorem zf126.ok (n:Nat):FC Tryz.prog [] 107 (zf126.sg n):=
  evalF_ok (C:=zf126.C) ⟨tb_ok,fun n _ _ h=>tabOk (l:=[(133,(zf131.sg n))]) (all_cons ⟨zf131.ok n,zf131.call⟩ (all_nil)) h,mixed,ar_ok,bld_ok,pts_ok⟩ zf126.A Tryz.func107 zf126.ps zf126.res n
abbrev zf91.ps:List Pm:=[.arg (.v zt0),.arg (.v zt1)]
abbrev zf91.res:List M:=[.v zt0,.v .bool]
noncomputable def zf91.C:Cfg:={ tb:=tb,tab:=fun n f=>Refl.look [(63,(zf94.sg n)),(102,(zf107.sg n)),(100,{ params:=zf95.ps,res:=[.v (.slice (.int .i64))],run:=zf95 n }),(103,(zf104.sg n)),(104,(zf123.sg n)),(105,(zf100.sg n)),(106,(zf111.sg n)),(107,(zf126.sg n)),(28,(zf135.sg n))] f,gl:=[],ar:=ar,bld:=bld,pts:=pts }
noncomputable def zf91.A:Ann:={ joins:=[],loops:=[],ids:=[(1,[(9,[117,118])]),(5,[(16,[])]),(20,[(80,[])]),(9,[(25,[121,122])]),(11,[(38,[]),(40,[126,127])]),(13,[(48,[130,131])]),(15,[(57,[134,135])]),(17,[(66,[138,139])]),(19,[(73,[142,143])])],pids:=[],nroots:=149 }
noncomputable def zf91 (n:Nat) (x:zt10 × Int × Int × Int × Int × List Int × Int × Int):Option (zt10 × Bool):=evalF zf91.C zf91.A Tryz.f64 zf91.ps zf91.res n x
theorem zf91.eq (n:Nat) (x0:List Int × List zt19 × Int × Int × Int) (x1:Int × Int × Int × Int × List Int × Int × Int):zf91 n (x0,x1)=((zf94 n (x0.1,x0.2.1,x0.2.2.1,x0.2.2.2.1,x0.2.2.2.2)).bind fun y2=>(if x1.1=0 then (if List.length y2.1+List.length (List.set (List.replicate (1:Nat) (0:Int)) (0:Nat) (0:Int))≤Go.Refl.maxN then ((zf135 n (y2.1++List.set (List.replicate 1 0) 0 0,y2.2.1,y2.2.2.1,y2.2.2.2.1,y2.2.2.2.2)).bind fun y3=>(if (!y3)=true then some ((([],[],0,0,0),Bool.false)) else some (((y2.1++List.set (List.replicate 1 0) 0 0,y2.2.1,y2.2.2.1,y2.2.2.2.1,y2.2.2.2.2),Bool.true)))) else none) else (if x1.1=1 then (if x1.1=1 then ((zf107 n ((y2.1,y2.2.1,y2.2.2.1,y2.2.2.2.1,y2.2.2.2.2),x1.1,x1.2.1,x1.2.2.1,x1.2.2.2.1,x1.2.2.2.2.1,x1.2.2.2.2.2.1,x1.2.2.2.2.2.2)).bind fun y6=>(if (!y6.2)=Bool.true then some ((([],[],0,0,0),Bool.false)) else ((zf135 n (y6.1.1,y6.1.2.1,y6.1.2.2.1,y6.1.2.2.2.1,y6.1.2.2.2.2)).bind fun y7=>(if (!y7)=true then some ((([],[],0,0,0),Bool.false)) else some (((y6.1.1,y6.1.2.1,y6.1.2.2.1,y6.1.2.2.2.1,y6.1.2.2.2.2),Bool.true)))))) else (if x1.1=3 then ((zf95 n x1.2.2.2.2.1).bind fun y8=>((zf104 n ((y2.1,y2.2.1,y2.2.2.1,y2.2.2.2.1,y2.2.2.2.2),x1.2.1,x1.2.2.1,y8)).bind fun y11=>(if (!y11.2)=Bool.true then some ((([],[],0,0,0),Bool.false)) else ((zf135 n (y11.1.1,y11.1.2.1,y11.1.2.2.1,y11.1.2.2.2.1,y11.1.2.2.2.2)).bind fun y12=>(if (!y12)=true then some ((([],[],0,0,0),Bool.false)) else some (((y11.1.1,y11.1.2.1,y11.1.2.2.1,y11.1.2.2.2.1,y11.1.2.2.2.2),Bool.true))))))) else (if x1.1=4 then ((zf123 n ((y2.1,y2.2.1,y2.2.2.1,y2.2.2.2.1,y2.2.2.2.2),x1.1,x1.2.1,x1.2.2.1,x1.2.2.2.1,x1.2.2.2.2.1,x1.2.2.2.2.2.1,x1.2.2.2.2.2.2)).bind fun y15=>(if (!y15.2)=Bool.true then some ((([],[],0,0,0),Bool.false)) else ((zf135 n (y15.1.1,y15.1.2.1,y15.1.2.2.1,y15.1.2.2.2.1,y15.1.2.2.2.2)).bind fun y16=>(if (!y16)=true then some ((([],[],0,0,0),Bool.false)) else some (((y15.1.1,y15.1.2.1,y15.1.2.2.1,y15.1.2.2.2.1,y15.1.2.2.2.2),Bool.true)))))) else (if x1.1=5 then ((zf100 n ((y2.1,y2.2.1,y2.2.2.1,y2.2.2.2.1,y2.2.2.2.2),x1.2.1)).bind fun y19=>(if (!y19.2)=Bool.true then some ((([],[],0,0,0),Bool.false)) else ((zf135 n (y19.1.1,y19.1.2.1,y19.1.2.2.1,y19.1.2.2.2.1,y19.1.2.2.2.2)).bind fun y20=>(if (!y20)=true then some ((([],[],0,0,0),Bool.false)) else some (((y19.1.1,y19.1.2.1,y19.1.2.2.1,y19.1.2.2.2.1,y19.1.2.2.2.2),Bool.true)))))) else (if x1.1=6 then ((zf111 n ((y2.1,y2.2.1,y2.2.2.1,y2.2.2.2.1,y2.2.2.2.2),x1.2.2.2.2.2.1,x1.2.2.2.2.2.2)).bind fun y23=>(if (!y23.2)=Bool.true then some ((([],[],0,0,0),Bool.false)) else ((zf135 n (y23.1.1,y23.1.2.1,y23.1.2.2.1,y23.1.2.2.2.1,y23.1.2.2.2.2)).bind fun y24=>(if (!y24)=true then some ((([],[],0,0,0),Bool.false)) else some (((y23.1.1,y23.1.2.1,y23.1.2.2.1,y23.1.2.2.2.1,y23.1.2.2.2.2),Bool.true)))))) else (if x1.1=7 then ((zf126 n (y2.1,y2.2.1,y2.2.2.1,y2.2.2.2.1,y2.2.2.2.2)).bind fun y27=>(if (!y27.2)=Bool.true then some ((([],[],0,0,0),Bool.false)) else ((zf135 n (y27.1.1,y27.1.2.1,y27.1.2.2.1,y27.1.2.2.2.1,y27.1.2.2.2.2)).bind fun y28=>(if (!y28)=true then some ((([],[],0,0,0),Bool.false)) else some (((y27.1.1,y27.1.2.1,y27.1.2.2.1,y27.1.2.2.2.1,y27.1.2.2.2.2),Bool.true)))))) else some ((([],[],0,0,0),Bool.false)))))))) else (if x1.1=2 then ((zf107 n ((y2.1,y2.2.1,y2.2.2.1,y2.2.2.2.1,y2.2.2.2.2),x1.1,x1.2.1,x1.2.2.1,x1.2.2.2.1,x1.2.2.2.2.1,x1.2.2.2.2.2.1,x1.2.2.2.2.2.2)).bind fun y29=>(if (!y29.2)=Bool.true then some ((([],[],0,0,0),Bool.false)) else ((zf135 n (y29.1.1,y29.1.2.1,y29.1.2.2.1,y29.1.2.2.2.1,y29.1.2.2.2.2)).bind fun y30=>(if (!y30)=true then some ((([],[],0,0,0),Bool.false)) else some (((y29.1.1,y29.1.2.1,y29.1.2.2.1,y29.1.2.2.2.1,y29.1.2.2.2.2),Bool.true)))))) else (if x1.1=3 then ((zf95 n x1.2.2.2.2.1).bind fun y31=>((zf104 n ((y2.1,y2.2.1,y2.2.2.1,y2.2.2.2.1,y2.2.2.2.2),x1.2.1,x1.2.2.1,y31)).bind fun y32=>(if (!y32.2)=Bool.true then some ((([],[],0,0,0),Bool.false)) else ((zf135 n (y32.1.1,y32.1.2.1,y32.1.2.2.1,y32.1.2.2.2.1,y32.1.2.2.2.2)).bind fun y33=>(if (!y33)=true then some ((([],[],0,0,0),Bool.false)) else some (((y32.1.1,y32.1.2.1,y32.1.2.2.1,y32.1.2.2.2.1,y32.1.2.2.2.2),Bool.true))))))) else (if x1.1=4 then ((zf123 n ((y2.1,y2.2.1,y2.2.2.1,y2.2.2.2.1,y2.2.2.2.2),x1.1,x1.2.1,x1.2.2.1,x1.2.2.2.1,x1.2.2.2.2.1,x1.2.2.2.2.2.1,x1.2.2.2.2.2.2)).bind fun y34=>(if (!y34.2)=Bool.true then some ((([],[],0,0,0),Bool.false)) else ((zf135 n (y34.1.1,y34.1.2.1,y34.1.2.2.1,y34.1.2.2.2.1,y34.1.2.2.2.2)).bind fun y35=>(if (!y35)=true then some ((([],[],0,0,0),Bool.false)) else some (((y34.1.1,y34.1.2.1,y34.1.2.2.1,y34.1.2.2.2.1,y34.1.2.2.2.2),Bool.true)))))) else (if x1.1=5 then ((zf100 n ((y2.1,y2.2.1,y2.2.2.1,y2.2.2.2.1,y2.2.2.2.2),x1.2.1)).bind fun y36=>(if (!y36.2)=Bool.true then some ((([],[],0,0,0),Bool.false)) else ((zf135 n (y36.1.1,y36.1.2.1,y36.1.2.2.1,y36.1.2.2.2.1,y36.1.2.2.2.2)).bind fun y37=>(if (!y37)=true then some ((([],[],0,0,0),Bool.false)) else some (((y36.1.1,y36.1.2.1,y36.1.2.2.1,y36.1.2.2.2.1,y36.1.2.2.2.2),Bool.true)))))) else (if x1.1=6 then ((zf111 n ((y2.1,y2.2.1,y2.2.2.1,y2.2.2.2.1,y2.2.2.2.2),x1.2.2.2.2.2.1,x1.2.2.2.2.2.2)).bind fun y38=>(if (!y38.2)=Bool.true then some ((([],[],0,0,0),Bool.false)) else ((zf135 n (y38.1.1,y38.1.2.1,y38.1.2.2.1,y38.1.2.2.2.1,y38.1.2.2.2.2)).bind fun y39=>(if (!y39)=true then some ((([],[],0,0,0),Bool.false)) else some (((y38.1.1,y38.1.2.1,y38.1.2.2.1,y38.1.2.2.2.1,y38.1.2.2.2.2),Bool.true)))))) else (if x1.1=7 then ((zf126 n (y2.1,y2.2.1,y2.2.2.1,y2.2.2.2.1,y2.2.2.2.2)).bind fun y40=>(if (!y40.2)=Bool.true then some ((([],[],0,0,0),Bool.false)) else ((zf135 n (y40.1.1,y40.1.2.1,y40.1.2.2.1,y40.1.2.2.2.1,y40.1.2.2.2.2)).bind fun y41=>(if (!y41)=true then some ((([],[],0,0,0),Bool.false)) else some (((y40.1.1,y40.1.2.1,y40.1.2.2.1,y40.1.2.2.2.1,y40.1.2.2.2.2),Bool.true)))))) else some ((([],[],0,0,0),Bool.false))))))))))):=by kernel_rfl
noncomputable abbrev zf91.sg (n:Nat):Sig:=⟨zf91.ps,zf91.res,zf91 n⟩
theorem zf91.call:Callable Tryz.prog 64:=⟨Tryz.f64,Tryz.func64,by kernel_rfl,by kernel_rfl⟩
theorem zf91.ok (n:Nat):FC Tryz.prog [] 64 (zf91.sg n):=
  evalF_ok (C:=zf91.C) ⟨tb_ok,fun n _ _ h=>tabOk (l:=[(63,(zf94.sg n)),(102,(zf107.sg n)),(100,{ params:=zf95.ps,res:=[.v (.slice (.int .i64))],run:=zf95 n }),(103,(zf104.sg n)),(104,(zf123.sg n)),(105,(zf100.sg n)),(106,(zf111.sg n)),(107,(zf126.sg n)),(28,(zf135.sg n))]) (all_cons ⟨zf94.ok n,zf94.call⟩ (all_cons ⟨zf107.ok n,zf107.call⟩ (all_cons ⟨FC.weak (.cons (.own _ _) .nil) HEq.rfl (zf95.ok n),zf95.call⟩ (all_cons ⟨zf104.ok n,zf104.call⟩ (all_cons ⟨zf123.ok n,zf123.call⟩ (all_cons ⟨zf100.ok n,zf100.call⟩ (all_cons ⟨zf111.ok n,zf111.call⟩ (all_cons ⟨zf126.ok n,zf126.call⟩ (all_cons ⟨zf135.ok n,zf135.call⟩ (all_nil)))))))))) h,mixed,ar_ok,bld_ok,pts_ok⟩ zf91.A Tryz.func64 zf91.ps zf91.res n
abbrev zf124.ps:List Pm:=[.arg (.v zt0),.arg (.v (.slice zt1))]
abbrev zf124.res:List M:=[.v zt0,.v .bool]
noncomputable def zf124.C:Cfg:={ tb:=tb,tab:=fun n f=>Refl.look [(63,{ params:=zf94.ps,res:=[.v zt0],run:=zf94 n }),(64,(zf91.sg n))] f,gl:=[],ar:=ar,bld:=bld,pts:=pts }
noncomputable def zf124.A:Ann:={ joins:=[],loops:=[(3,{ live:=[1,2,4,6],base:=31 })],ids:=[(1,[(10,[])]),(5,[(23,[])])],pids:=[],nroots:=95 }
noncomputable def zf124 (n:Nat) (x:zt10 × List zt14):Option (zt10 × Bool):=evalF zf124.C zf124.A Tryz.f29 zf124.ps zf124.res n x
noncomputable def zf124.K0 (_:Nat):Kont (zt10 × Bool):=finK zf124.C (Func.results Tryz.f29).toList zf124.ps zf124.res
noncomputable def zf124.K1 (n:Nat):Kont (zt10 × Bool):=seqK (fun s' k=>joinE zf124.A.joins (codeAt Tryz.f29 [1,1,1]) (fun s''=>evalC zf124.C zf124.A n (codeAt Tryz.f29 [1,1,1]) s'' k) s') (zf124.K0 n)
noncomputable def zf124.K2 (n:Nat):Kont (zt10 × Bool):=blockK 0 (zf124.K1 n)
noncomputable def zf124.l3 (n m3:Nat) (x1:List zt14) (x6:Int) (r31_0:List Int) (r31_1:List zt19) (r31_2 r31_3:Int) (r31_4 r32_2:Int) (r32_3 r32_4:Int):Option (zt10 × Bool):=loopE (cutAt zf124.A.loops (codeAt Tryz.f29 [1,1,0,1,0,0])) (fun s k=>evalC zf124.C zf124.A n (codeAt Tryz.f29 [1,1,0,1,0,0]) s k) m3 (St.of 31 95 [(1,.val (.slice zt1) x1),(2,.ptr 31 0 0),(4,.ptr 32 0 0),(6,.val (.int .i64) x6)] [(31,.box 26 [.val (.slice (.int .i64)) r31_0,.val (.slice zt8) r31_1,.val (.int .i64) r31_2,.val (.int .i64) r31_3,.val (.int .i64) r31_4]),(32,.box 26 [.nils,.nils,.val (.int .i64) r32_2,.val (.int .i64) r32_3,.val (.int .i64) r32_4])] []) (zf124.K2 n)
theorem zf124.eq (n:Nat) (x0:List Int × List zt19 × Int × Int × Int) (x1:List zt14):zf124 n (x0,x1)=((zf94 n (x0.1,x0.2.1,x0.2.2.1,x0.2.2.2.1,x0.2.2.2.2)).bind fun y0=>zf124.l3 n n (x1) (0) y0.1 y0.2.1 y0.2.2.1 y0.2.2.2.1 y0.2.2.2.2 (0) (0) (0)):=by kernel_rfl
theorem zf124.l3_succ (n m3:Nat) (x1:List zt14) (x6:Int) (r31_0:List Int) (r31_1:List zt19) (r31_2 r31_3:Int) (r31_4 r32_2:Int) (r32_3 r32_4:Int):zf124.l3 n (m3+1) x1 x6 r31_0 r31_1 r31_2 r31_3 r31_4 r32_2 r32_3 r32_4=(if x6<(↑(List.length x1):Int) then (if 0≤x6 then (if x6<(↑(List.length x1):Int) then ((zf91 n ((r31_0,r31_1,r31_2,r31_3,r31_4),List.getD x1 (Int.toNat x6) (0,0,0,0,[],0,0))).bind fun y1=>(if (!y1.2)=true then some ((([],[],0,0,0),Bool.false)) else zf124.l3 n m3 (x1) (Go.RowKit.wrap64 (x6+1)) y1.1.1 y1.1.2.1 y1.1.2.2.1 y1.1.2.2.2.1 y1.1.2.2.2.2 (r32_2) (r32_3) (r32_4))) else none) else none) else some (((r31_0,r31_1,r31_2,r31_3,r31_4),Bool.true))):=by kernel_rfl
noncomputable abbrev zf124.sg (n:Nat):Sig:=⟨zf124.ps,zf124.res,zf124 n⟩
theorem zf124.call:Callable Tryz.prog 29:=⟨Tryz.f29,Tryz.func29,by kernel_rfl,by kernel_rfl⟩
theorem zf124.ok (n:Nat):FC Tryz.prog [] 29 (zf124.sg n):=
  evalF_ok (C:=zf124.C) ⟨tb_ok,fun n _ _ h=>tabOk (l:=[(63,{ params:=zf94.ps,res:=[.v zt0],run:=zf94 n }),(64,(zf91.sg n))]) (all_cons ⟨FC.weak (.cons (.trans (.pr (.own _ _) (.trans (.pr (.own _ _) (.refl _)) (.vv _ _))) (.vv _ _)) .nil) HEq.rfl (zf94.ok n),zf94.call⟩ (all_cons ⟨zf91.ok n,zf91.call⟩ (all_nil))) h,mixed,ar_ok,bld_ok,pts_ok⟩ zf124.A Tryz.func29 zf124.ps zf124.res n
abbrev zf83.ps:List Pm:=[.arg (.v (.slice (.int .i64))),.arg (.v (.slice zt8))]
abbrev zf83.res:List M:=[(.own (.int .i64) 3)]
noncomputable def zf83.C:Cfg:={ tb:=tb,tab:=fun n f=>Refl.look [(57,(zf139.sg n)),(58,(zf136.sg n)),(109,(zf102.sg n)),(100,(zf95.sg n))] f,gl:=[],ar:=ar,bld:=bld,pts:=pts }
noncomputable def zf83.A:Ann:={ joins:=[],loops:=[(6,{ live:=[5,6,7],base:=64 }),(9,{ live:=[5,6,7,8],base:=64 })],ids:=[(1,[(11,[]),(17,[])]),(12,[(59,[])])],pids:=[],nroots:=128 }
noncomputable def zf83 (n:Nat) (x:List Int × List zt19):Option (List Int):=evalF zf83.C zf83.A Tryz.f71 zf83.ps zf83.res n x
noncomputable def zf83.K0 (_:Nat):Kont (List Int):=finK zf83.C (Func.results Tryz.f71).toList zf83.ps zf83.res
noncomputable def zf83.K1 (n:Nat):Kont (List Int):=seqK (fun s' k=>joinE zf83.A.joins (codeAt Tryz.f71 [1,1,1,1,1]) (fun s''=>evalC zf83.C zf83.A n (codeAt Tryz.f71 [1,1,1,1,1]) s'' k) s') (zf83.K0 n)
noncomputable def zf83.K2 (n:Nat):Kont (List Int):=blockK 0 (zf83.K1 n)
noncomputable def zf83.K3 (n m6:Nat):Kont (List Int):=loopK (cutAt zf83.A.loops (codeAt Tryz.f71 [1,1,1,1,0,1,0,0])) (fun s k=>evalC zf83.C zf83.A n (codeAt Tryz.f71 [1,1,1,1,0,1,0,0]) s k) m6 (zf83.K2 n)
noncomputable def zf83.K4 (n m6:Nat):Kont (List Int):=seqK (fun s' k=>joinE zf83.A.joins (codeAt Tryz.f71 [1,1,1,1,0,1,0,0,1,1]) (fun s''=>evalC zf83.C zf83.A n (codeAt Tryz.f71 [1,1,1,1,0,1,0,0,1,1]) s'' k) s') (zf83.K3 n m6)
noncomputable def zf83.K5 (n m6:Nat):Kont (List Int):=blockK 1 (zf83.K4 n m6)
noncomputable def zf83.K6 (n m6:Nat):Kont (List Int):=seqK (fun s' k=>joinE zf83.A.joins (codeAt Tryz.f71 [1,1,1,1,0,1,0,0,1,0,0,1,1]) (fun s''=>evalC zf83.C zf83.A n (codeAt Tryz.f71 [1,1,1,1,0,1,0,0,1,0,0,1,1]) s'' k) s') (zf83.K5 n m6)
noncomputable def zf83.K7 (n m6:Nat):Kont (List Int):=blockK 2 (zf83.K6 n m6)
noncomputable def zf83.l6 (n m6:Nat) (x7:Int) (r64 r65:List Int):Option (List Int):=loopE (cutAt zf83.A.loops (codeAt Tryz.f71 [1,1,1,1,0,1,0,0])) (fun s k=>evalC zf83.C zf83.A n (codeAt Tryz.f71 [1,1,1,1,0,1,0,0]) s k) m6 (St.of 64 128 [(5,.own 64),(6,.own 65),(7,.val (.int .i64) x7)] [(64,.row (.int .i64) 3 r64),(65,.row (.int .i64) 3 r65)] []) (zf83.K2 n)
noncomputable def zf83.l9 (n m6 m9:Nat) (x7 x8:Int) (r64 r65:List Int):Option (List Int):=loopE (cutAt zf83.A.loops (codeAt Tryz.f71 [1,1,1,1,0,1,0,0,1,0,0,1,0,0,0])) (fun s k=>evalC zf83.C zf83.A n (codeAt Tryz.f71 [1,1,1,1,0,1,0,0,1,0,0,1,0,0,0]) s k) m9 (St.of 64 128 [(5,.own 64),(6,.own 65),(7,.val (.int .i64) x7),(8,.val (.int .i64) x8)] [(64,.row (.int .i64) 3 r64),(65,.row (.int .i64) 3 r65)] []) (zf83.K7 n m6)
theorem zf83.eq (n:Nat) (x0:List Int) (x1:List zt19):zf83 n (x0,x1)=((zf139 n x0).bind fun y0=>(if (!y0)=Bool.true then some ([]) else ((zf136 n (x1,(↑(List.length x0):Int))).bind fun y1=>(if (!y1)=true then some ([]) else ((zf102 n (x0,x1)).bind fun y2=>zf83.l6 n n (0) (y2) (List.replicate 0 0)))))):=by kernel_rfl
theorem zf83.l6_succ (n m6:Nat) (x7:Int) (r64 r65:List Int):zf83.l6 n (m6+1) x7 r64 r65=(if x7<(↑(List.length r64):Int) then zf83.l9 n m6 n (x7) ((↑(List.length r65):Int)) (r64) (r65) else some (r65)):=by kernel_rfl
theorem zf83.l9_succ (n m6 m9:Nat) (x7 x8:Int) (r64 r65:List Int):zf83.l9 n m6 (m9+1) x7 x8 r64 r65=(if x8 > 0 then (if 0≤Go.RowKit.wrap64 (x8-1) then (if Go.RowKit.wrap64 (x8-1)<(↑(List.length r65):Int) then (if 0≤List.getD r65 (Int.toNat (Go.RowKit.wrap64 (x8-1))) 0 then (if List.getD r65 (Int.toNat (Go.RowKit.wrap64 (x8-1))) 0<(↑(List.length r64):Int) then (if 0≤x7 then (if x7<(↑(List.length r64):Int) then (if List.getD r64 (Int.toNat (List.getD r65 (Int.toNat (Go.RowKit.wrap64 (x8-1))) 0)) 0 > List.getD r64 (Int.toNat x7) 0 then zf83.l9 n m6 m9 (x7) (Go.RowKit.wrap64 (x8-1)) (r64) (r65) else (if 0≤x8 then (if x8≤(↑(List.length r65):Int) then ((zf95 n (List.take (List.length r65-Int.toNat x8) (List.drop (Int.toNat x8) r65))).bind fun y3=>(if 0≤x8 then (if x8≤(↑(List.length r65):Int) then (if Int.toNat x8-0+List.length (List.set (List.replicate (1:Nat) (0:Int)) (0:Nat) x7)≤Go.Refl.maxN then (if List.length (List.take (Int.toNat x8-(0:Nat)) r65++List.set (List.replicate (1:Nat) (0:Int)) (0:Nat) x7)+List.length y3≤Go.Refl.maxN then zf83.l6 n m6 (Go.RowKit.wrap64 (x7+1)) (r64) (List.take (Int.toNat x8-0) r65++List.set (List.replicate 1 0) 0 x7++y3) else none) else none) else none) else none)) else none) else none)) else none) else none) else none) else none) else none) else none) else (if 0≤x8 then (if x8≤(↑(List.length r65):Int) then ((zf95 n (List.take (List.length r65-Int.toNat x8) (List.drop (Int.toNat x8) r65))).bind fun y4=>(if 0≤x8 then (if x8≤(↑(List.length r65):Int) then (if Int.toNat x8-0+List.length (List.set (List.replicate (1:Nat) (0:Int)) (0:Nat) x7)≤Go.Refl.maxN then (if List.length (List.take (Int.toNat x8-(0:Nat)) r65++List.set (List.replicate (1:Nat) (0:Int)) (0:Nat) x7)+List.length y4≤Go.Refl.maxN then zf83.l6 n m6 (Go.RowKit.wrap64 (x7+1)) (r64) (List.take (Int.toNat x8-0) r65++List.set (List.replicate 1 0) 0 x7++y4) else none) else none) else none) else none)) else none) else none)):=by kernel_rfl
noncomputable abbrev zf83.sg (n:Nat):Sig:=⟨zf83.ps,zf83.res,zf83 n⟩
theorem zf83.call:Callable Tryz.prog 71:=⟨Tryz.f71,Tryz.func71,by kernel_rfl,by kernel_rfl⟩
theorem zf83.ok (n:Nat):FC Tryz.prog [] 71 (zf83.sg n):=
  evalF_ok (C:=zf83.C) ⟨tb_ok,fun n _ _ h=>tabOk (l:=[(57,(zf139.sg n)),(58,(zf136.sg n)),(109,(zf102.sg n)),(100,(zf95.sg n))]) (all_cons ⟨zf139.ok n,zf139.call⟩ (all_cons ⟨zf136.ok n,zf136.call⟩ (all_cons ⟨zf102.ok n,zf102.call⟩ (all_cons ⟨zf95.ok n,zf95.call⟩ (all_nil))))) h,mixed,ar_ok,bld_ok,pts_ok⟩ zf83.A Tryz.func71 zf83.ps zf83.res n
abbrev zf89.ps:List Pm:=[.arg (.v zt0),.arg (.v .str)]
abbrev zf89.res:List M:=[.v .str]
noncomputable def zf89.C:Cfg:={ tb:=tb,tab:=fun n f=>Refl.look [(65,(zf132.sg n)),(67,(zf118.sg n)),(68,(zf106.sg n)),(69,(zf112.sg n)),(70,(zf125.sg n)),(71,(zf83.sg n))] f,gl:=[],ar:=ar,bld:=bld,pts:=pts }
noncomputable def zf89.A:Ann:={ joins:=[],loops:=[],ids:=[(2,[(21,[])]),(3,[(27,[])]),(5,[(37,[]),(40,[])]),(8,[(46,[])]),(10,[(52,[])]),(12,[(57,[])]),(15,[(66,[])]),(16,[(70,[])]),(18,[(77,[])]),(22,[(87,[])])],pids:=[],nroots:=152 }
noncomputable def zf89 (n:Nat) (x:zt10 × ByteArray):Option (ByteArray):=evalF zf89.C zf89.A Tryz.f31 zf89.ps zf89.res n x
theorem zf89.eq (n:Nat) (x0:List Int × List zt19 × Int × Int × Int) (x1:ByteArray):zf89 n (x0,x1)=((zf132 n (x1,32)).bind fun y0=>(if (↑(List.length y0):Int)=2 then (if 0<(↑(List.length y0):Int) then (if List.getD y0 0 ByteArray.empty={ data:=#[(115:UInt8),(116:UInt8),(97:UInt8),(107:UInt8),(101:UInt8)] } then (if 1<(↑(List.length y0):Int) then ((zf118 n (List.getD y0 1 ByteArray.empty)).bind fun y1=>(if y1≥0 then (if 1<(↑(List.length y0):Int) then ((zf118 n (List.getD y0 1 ByteArray.empty)).bind fun y2=>(if y2≥(↑(List.length x0.1):Int) then some ({ data:=#[(110:UInt8),(111:UInt8),(110:UInt8),(101:UInt8)] }) else (if 1<(↑(List.length y0):Int) then ((zf118 n (List.getD y0 1 ByteArray.empty)).bind fun y3=>(if 0≤y3 then (if y3<(↑(List.length x0.1):Int) then ((zf106 n (List.getD x0.1 (Int.toNat y3) 0)).bind fun y4=>some (y4)) else none) else none)) else none))) else none) else (if x1={ data:=#[(98:UInt8),(111:UInt8),(120:UInt8)] } then ((zf106 n x0.2.2.1).bind fun y5=>some (y5)) else (if x1={ data:=#[(108:UInt8),(111:UInt8),(97:UInt8),(110:UInt8),(115:UInt8)] } then ((zf112 n (↑(List.length x0.2.1):Int)).bind fun y6=>some (y6)) else (if x1={ data:=#[(110:UInt8),(105:UInt8),(103:UInt8),(104:UInt8),(116:UInt8)] } then ((zf112 n x0.2.2.2.2).bind fun y7=>some (y7)) else (if x1={ data:=#[(115:UInt8),(117:UInt8),(114:UInt8),(112:UInt8),(108:UInt8),(117:UInt8),(115:UInt8)] } then (if x0.2.2.2.1<0 then ((zf106 n (Go.RowKit.wrap64 (0-x0.2.2.2.1))).bind fun y8=>(if ByteArray.size { data:=#[(45:UInt8)] }+ByteArray.size y8≤Go.Refl.maxN then some ({ data:=#[(45:UInt8)] }++y8) else none)) else ((zf106 n x0.2.2.2.1).bind fun y9=>some (y9))) else (if x1={ data:=#[(115:UInt8),(97:UInt8),(102:UInt8),(101:UInt8)] } then ((zf125 n (x0.1,x0.2.1)).bind fun y10=>(if (y10)=true then some ({ data:=#[(121:UInt8),(101:UInt8),(115:UInt8)] }) else some ({ data:=#[(110:UInt8),(111:UInt8)] }))) else (if x1={ data:=#[(119:UInt8),(101:UInt8),(97:UInt8),(107:UInt8),(101:UInt8),(115:UInt8),(116:UInt8)] } then ((zf83 n (x0.1,x0.2.1)).bind fun y11=>(if 0<(↑(List.length y11):Int) then ((zf112 n (List.getD y11 0 0)).bind fun y12=>some (y12)) else none)) else some ({ data:=#[(119:UInt8),(104:UInt8),(97:UInt8),(116:UInt8)] }))))))))) else none) else (if x1={ data:=#[(98:UInt8),(111:UInt8),(120:UInt8)] } then ((zf106 n x0.2.2.1).bind fun y13=>some (y13)) else (if x1={ data:=#[(108:UInt8),(111:UInt8),(97:UInt8),(110:UInt8),(115:UInt8)] } then ((zf112 n (↑(List.length x0.2.1):Int)).bind fun y14=>some (y14)) else (if x1={ data:=#[(110:UInt8),(105:UInt8),(103:UInt8),(104:UInt8),(116:UInt8)] } then ((zf112 n x0.2.2.2.2).bind fun y15=>some (y15)) else (if x1={ data:=#[(115:UInt8),(117:UInt8),(114:UInt8),(112:UInt8),(108:UInt8),(117:UInt8),(115:UInt8)] } then (if x0.2.2.2.1<0 then ((zf106 n (Go.RowKit.wrap64 (0-x0.2.2.2.1))).bind fun y16=>(if ByteArray.size { data:=#[(45:UInt8)] }+ByteArray.size y16≤Go.Refl.maxN then some ({ data:=#[(45:UInt8)] }++y16) else none)) else ((zf106 n x0.2.2.2.1).bind fun y17=>some (y17))) else (if x1={ data:=#[(115:UInt8),(97:UInt8),(102:UInt8),(101:UInt8)] } then ((zf125 n (x0.1,x0.2.1)).bind fun y18=>(if (y18)=true then some ({ data:=#[(121:UInt8),(101:UInt8),(115:UInt8)] }) else some ({ data:=#[(110:UInt8),(111:UInt8)] }))) else (if x1={ data:=#[(119:UInt8),(101:UInt8),(97:UInt8),(107:UInt8),(101:UInt8),(115:UInt8),(116:UInt8)] } then ((zf83 n (x0.1,x0.2.1)).bind fun y19=>(if 0<(↑(List.length y19):Int) then ((zf112 n (List.getD y19 0 0)).bind fun y20=>some (y20)) else none)) else some ({ data:=#[(119:UInt8),(104:UInt8),(97:UInt8),(116:UInt8)] })))))))) else none) else (if x1={ data:=#[(98:UInt8),(111:UInt8),(120:UInt8)] } then ((zf106 n x0.2.2.1).bind fun y21=>some (y21)) else (if x1={ data:=#[(108:UInt8),(111:UInt8),(97:UInt8),(110:UInt8),(115:UInt8)] } then ((zf112 n (↑(List.length x0.2.1):Int)).bind fun y22=>some (y22)) else (if x1={ data:=#[(110:UInt8),(105:UInt8),(103:UInt8),(104:UInt8),(116:UInt8)] } then ((zf112 n x0.2.2.2.2).bind fun y23=>some (y23)) else (if x1={ data:=#[(115:UInt8),(117:UInt8),(114:UInt8),(112:UInt8),(108:UInt8),(117:UInt8),(115:UInt8)] } then (if x0.2.2.2.1<0 then ((zf106 n (Go.RowKit.wrap64 (0-x0.2.2.2.1))).bind fun y24=>(if ByteArray.size { data:=#[(45:UInt8)] }+ByteArray.size y24≤Go.Refl.maxN then some ({ data:=#[(45:UInt8)] }++y24) else none)) else ((zf106 n x0.2.2.2.1).bind fun y25=>some (y25))) else (if x1={ data:=#[(115:UInt8),(97:UInt8),(102:UInt8),(101:UInt8)] } then ((zf125 n (x0.1,x0.2.1)).bind fun y26=>(if (y26)=true then some ({ data:=#[(121:UInt8),(101:UInt8),(115:UInt8)] }) else some ({ data:=#[(110:UInt8),(111:UInt8)] }))) else (if x1={ data:=#[(119:UInt8),(101:UInt8),(97:UInt8),(107:UInt8),(101:UInt8),(115:UInt8),(116:UInt8)] } then ((zf83 n (x0.1,x0.2.1)).bind fun y27=>(if 0<(↑(List.length y27):Int) then ((zf112 n (List.getD y27 0 0)).bind fun y28=>some (y28)) else none)) else some ({ data:=#[(119:UInt8),(104:UInt8),(97:UInt8),(116:UInt8)] }))))))))):=by kernel_rfl
noncomputable abbrev zf89.sg (n:Nat):Sig:=⟨zf89.ps,zf89.res,zf89 n⟩
theorem zf89.call:Callable Tryz.prog 31:=⟨Tryz.f31,Tryz.func31,by kernel_rfl,by kernel_rfl⟩
theorem zf89.ok (n:Nat):FC Tryz.prog [] 31 (zf89.sg n):=
  evalF_ok (C:=zf89.C) ⟨tb_ok,fun n _ _ h=>tabOk (l:=[(65,(zf132.sg n)),(67,(zf118.sg n)),(68,(zf106.sg n)),(69,(zf112.sg n)),(70,(zf125.sg n)),(71,(zf83.sg n))]) (all_cons ⟨zf132.ok n,zf132.call⟩ (all_cons ⟨zf118.ok n,zf118.call⟩ (all_cons ⟨zf106.ok n,zf106.call⟩ (all_cons ⟨zf112.ok n,zf112.call⟩ (all_cons ⟨zf125.ok n,zf125.call⟩ (all_cons ⟨zf83.ok n,zf83.call⟩ (all_nil))))))) h,mixed,ar_ok,bld_ok,pts_ok⟩ zf89.A Tryz.func31 zf89.ps zf89.res n
abbrev zf87.ps:List Pm:=[.arg (.v zt0),.arg (.v .str),.arg (.v (.slice .str))]
abbrev zf87.res:List M:=[.v .str]
noncomputable def zf87.C:Cfg:={ tb:=tb,tab:=fun n f=>Refl.look [(28,(zf135.sg n)),(30,{ params:=zf122.ps,res:=[.v (.slice zt1)],run:=zf122 n }),(29,{ params:=zf124.ps,res:=[.v zt0,.v .bool],run:=zf124 n }),(31,(zf89.sg n))] f,gl:=[],ar:=ar,bld:=bld,pts:=pts }
noncomputable def zf87.A:Ann:={ joins:=[],loops:=[(6,{ live:=[2,7,8,9,10],base:=45 })],ids:=[(1,[(16,[])]),(3,[(22,[]),(23,[])]),(9,[(39,[])])],pids:=[],nroots:=109 }
noncomputable def zf87 (n:Nat) (x:zt10 × ByteArray × List ByteArray):Option (ByteArray):=evalF zf87.C zf87.A Tryz.f8 zf87.ps zf87.res n x
noncomputable def zf87.K0 (_:Nat):Kont (ByteArray):=finK zf87.C (Func.results Tryz.f8).toList zf87.ps zf87.res
noncomputable def zf87.K1 (n:Nat):Kont (ByteArray):=seqK (fun s' k=>joinE zf87.A.joins (codeAt Tryz.f8 [1,1,1,1,1]) (fun s''=>evalC zf87.C zf87.A n (codeAt Tryz.f8 [1,1,1,1,1]) s'' k) s') (zf87.K0 n)
noncomputable def zf87.K2 (n:Nat):Kont (ByteArray):=blockK 0 (zf87.K1 n)
noncomputable def zf87.l6 (n m6:Nat) (x2:List ByteArray) (x8:Bool) (x9:ByteArray) (x10:Int) (r45_0:List Int) (r45_1:List zt19) (r45_2 r45_3 r45_4:Int):Option (ByteArray):=loopE (cutAt zf87.A.loops (codeAt Tryz.f8 [1,1,1,1,0,1,0,0])) (fun s k=>evalC zf87.C zf87.A n (codeAt Tryz.f8 [1,1,1,1,0,1,0,0]) s k) m6 (St.of 45 109 [(2,.val (.slice .str) x2),(7,.ptr 45 0 0),(8,.val .bool x8),(9,.val .str x9),(10,.val (.int .i64) x10)] [(45,.box 26 [.val (.slice (.int .i64)) r45_0,.val (.slice zt8) r45_1,.val (.int .i64) r45_2,.val (.int .i64) r45_3,.val (.int .i64) r45_4])] []) (zf87.K2 n)
theorem zf87.eq (n:Nat) (x0:List Int × List zt19 × Int × Int × Int) (x1:ByteArray) (x2:List ByteArray):zf87 n (x0,x1,x2)=(if (↑(List.length x2):Int) > 20 then some ({ data:=#[] }) else ((zf135 n (x0.1,x0.2.1,x0.2.2.1,x0.2.2.2.1,x0.2.2.2.2)).bind fun y0=>(if (!y0)=true then some ({ data:=#[] }) else ((zf122 n x1).bind fun y1=>((zf124 n ((x0.1,x0.2.1,x0.2.2.1,x0.2.2.2.1,x0.2.2.2.2),y1)).bind fun y2=>zf87.l6 n n (x2) y2.2 ({ data:=#[] }) (0) y2.1.1 y2.1.2.1 y2.1.2.2.1 y2.1.2.2.2.1 y2.1.2.2.2.2))))):=by kernel_rfl
theorem zf87.l6_succ (n m6:Nat) (x2:List ByteArray) (x8:Bool) (x9:ByteArray) (x10:Int) (r45_0:List Int) (r45_1:List zt19) (r45_2 r45_3 r45_4:Int):zf87.l6 n (m6+1) x2 x8 x9 x10 r45_0 r45_1 r45_2 r45_3 r45_4=(if x10<(↑(List.length x2):Int) then (if (x8)=true then (if 0≤x10 then (if x10<(↑(List.length x2):Int) then ((zf89 n ((r45_0,r45_1,r45_2,r45_3,r45_4),List.getD x2 (Int.toNat x10) ByteArray.empty)).bind fun y3=>(if ByteArray.size x9+ByteArray.size y3≤Go.Refl.maxN then (if ByteArray.size (x9++y3)+ByteArray.size { data:=#[(10:UInt8)] }≤Go.Refl.maxN then zf87.l6 n m6 (x2) (x8) (x9++y3++{ data:=#[(10:UInt8)] }) (Go.RowKit.wrap64 (x10+1)) (r45_0) (r45_1) (r45_2) (r45_3) (r45_4) else none) else none)) else none) else none) else (if ByteArray.size x9+ByteArray.size { data:=#[(99:UInt8),(108:UInt8),(111:UInt8),(115:UInt8),(101:UInt8),(100:UInt8),(10:UInt8)] }≤Go.Refl.maxN then zf87.l6 n m6 (x2) (x8) (x9++{ data:=#[(99:UInt8),(108:UInt8),(111:UInt8),(115:UInt8),(101:UInt8),(100:UInt8),(10:UInt8)] }) (Go.RowKit.wrap64 (x10+1)) (r45_0) (r45_1) (r45_2) (r45_3) (r45_4) else none)) else some (x9)):=by kernel_rfl
noncomputable abbrev zf87.sg (n:Nat):Sig:=⟨zf87.ps,zf87.res,zf87 n⟩
theorem zf87.call:Callable Tryz.prog 8:=⟨Tryz.f8,Tryz.func8,by kernel_rfl,by kernel_rfl⟩
theorem zf87.ok (n:Nat):FC Tryz.prog [] 8 (zf87.sg n):=
  evalF_ok (C:=zf87.C) ⟨tb_ok,fun n _ _ h=>tabOk (l:=[(28,(zf135.sg n)),(30,{ params:=zf122.ps,res:=[.v (.slice zt1)],run:=zf122 n }),(29,{ params:=zf124.ps,res:=[.v zt0,.v .bool],run:=zf124 n }),(31,(zf89.sg n))]) (all_cons ⟨zf135.ok n,zf135.call⟩ (all_cons ⟨FC.weak (.cons (.own _ _) .nil) HEq.rfl (zf122.ok n),zf122.call⟩ (all_cons ⟨FC.weak (.cons (.refl _) (.cons (.refl _) .nil)) HEq.rfl (zf124.ok n),zf124.call⟩ (all_cons ⟨zf89.ok n,zf89.call⟩ (all_nil))))) h,mixed,ar_ok,bld_ok,pts_ok⟩ zf87.A Tryz.func8 zf87.ps zf87.res n
abbrev zf30.ps:List Pm:=[.arg (.v (.slice (.int .i64))),.arg (.v (.int .i64)),.arg (.v (.int .i64))]
abbrev zf30.res:List M:=[.v .bool]
noncomputable def zf30.C:Cfg:={ tb:=tb,tab:=fun n f=>Refl.look [] f,gl:=[],ar:=ar,bld:=bld,pts:=pts }
noncomputable def zf30.A:Ann:={ joins:=[],loops:=[(2,{ live:=[1,2,9,10,11],base:=24 })],ids:=[],pids:=[],nroots:=88 }
noncomputable def zf30 (n:Nat) (x:List Int × Int × Int):Option (Bool):=evalF zf30.C zf30.A Tryz.f72 zf30.ps zf30.res n x
noncomputable def zf30.K0 (_:Nat):Kont (Bool):=finK zf30.C (Func.results Tryz.f72).toList zf30.ps zf30.res
noncomputable def zf30.K1 (n:Nat):Kont (Bool):=seqK (fun s' k=>joinE zf30.A.joins (codeAt Tryz.f72 [1,1]) (fun s''=>evalC zf30.C zf30.A n (codeAt Tryz.f72 [1,1]) s'' k) s') (zf30.K0 n)
noncomputable def zf30.K2 (n:Nat):Kont (Bool):=blockK 0 (zf30.K1 n)
noncomputable def zf30.l2 (n m2:Nat) (x1 x2:Int) (x9:List Int) (x10 x11:Int):Option (Bool):=loopE (cutAt zf30.A.loops (codeAt Tryz.f72 [1,0,1,0,0])) (fun s k=>evalC zf30.C zf30.A n (codeAt Tryz.f72 [1,0,1,0,0]) s k) m2 (St.of 24 88 [(1,.val (.int .i64) x1),(2,.val (.int .i64) x2),(9,.val (.slice (.int .i64)) x9),(10,.val (.int .i64) x10),(11,.val (.int .i64) x11)] [] []) (zf30.K2 n)
theorem zf30.eq (n:Nat) (x0:List Int) (x1 x2:Int):zf30 n (x0,x1,x2)=zf30.l2 n n (x1) (x2) (x0) ((↑(List.length x0):Int)) (0):=by kernel_rfl
theorem zf30.l2_succ (n m2:Nat) (x1 x2:Int) (x9:List Int) (x10 x11:Int):zf30.l2 n (m2+1) x1 x2 x9 x10 x11=(if x11<x10 then (if 0≤x11 then (if x11<(↑(List.length x9):Int) then (if List.getD x9 (Int.toNat x11) 0<x1 then some (Bool.false) else (if List.getD x9 (Int.toNat x11) 0 > x2 then some (Bool.false) else zf30.l2 n m2 (x1) (x2) (x9) (x10) (Go.RowKit.wrap64 (x11+1)))) else none) else none) else some (Bool.true)):=by kernel_rfl
noncomputable abbrev zf30.sg (n:Nat):Sig:=⟨zf30.ps,zf30.res,zf30 n⟩
theorem zf30.call:Callable Tryz.prog 72:=⟨Tryz.f72,Tryz.func72,by kernel_rfl,by kernel_rfl⟩
theorem zf30.ok (n:Nat):FC Tryz.prog [] 72 (zf30.sg n):=
  evalF_ok (C:=zf30.C) ⟨tb_ok,fun n _ _ h=>tabOk (l:=[]) (all_nil) h,mixed,ar_ok,bld_ok,pts_ok⟩ zf30.A Tryz.func72 zf30.ps zf30.res n
abbrev zf47.ps:List Pm:=[.arg (.v (.slice (.int .i64)))]
abbrev zf47.res:List M:=[.v .bool]
noncomputable def zf47.C:Cfg:={ tb:=tb,tab:=fun n f=>Refl.look [(72,(zf30.sg n))] f,gl:=[],ar:=ar,bld:=bld,pts:=pts }
noncomputable def zf47.A:Ann:={ joins:=[],loops:=[],ids:=[(1,[(13,[])])],pids:=[],nroots:=79 }
noncomputable def zf47 (n:Nat) (x:List Int):Option (Bool):=evalF zf47.C zf47.A Tryz.f32 zf47.ps zf47.res n x
theorem zf47.eq (n:Nat) (x0:List Int):zf47 n x0=(if (↑(List.length x0):Int)≥1 then (if (↑(List.length x0):Int)≤12 then ((zf30 n (x0,0,100000)).bind fun y0=>some (y0)) else some (Bool.false)) else some (Bool.false)):=by kernel_rfl
noncomputable abbrev zf47.sg (n:Nat):Sig:=⟨zf47.ps,zf47.res,zf47 n⟩
theorem zf47.call:Callable Tryz.prog 32:=⟨Tryz.f32,Tryz.func32,by kernel_rfl,by kernel_rfl⟩
theorem zf47.ok (n:Nat):FC Tryz.prog [] 32 (zf47.sg n):=
  evalF_ok (C:=zf47.C) ⟨tb_ok,fun n _ _ h=>tabOk (l:=[(72,(zf30.sg n))]) (all_cons ⟨zf30.ok n,zf30.call⟩ (all_nil)) h,mixed,ar_ok,bld_ok,pts_ok⟩ zf47.A Tryz.func32 zf47.ps zf47.res n
abbrev zf35.ps:List Pm:=[.arg (.v (.slice (.int .i64))),.arg (.v (.int .i64))]
abbrev zf35.res:List M:=[.v .bool]
noncomputable def zf35.C:Cfg:={ tb:=tb,tab:=fun n f=>Refl.look [] f,gl:=[],ar:=ar,bld:=bld,pts:=pts }
noncomputable def zf35.A:Ann:={ joins:=[],loops:=[(5,{ live:=[1,5,14,15,16],base:=37 })],ids:=[],pids:=[],nroots:=101 }
noncomputable def zf35 (n:Nat) (x:List Int × Int):Option (Bool):=evalF zf35.C zf35.A Tryz.f73 zf35.ps zf35.res n x
noncomputable def zf35.K0 (_:Nat):Kont (Bool):=finK zf35.C (Func.results Tryz.f73).toList zf35.ps zf35.res
noncomputable def zf35.K1 (n:Nat):Kont (Bool):=seqK (fun s' k=>joinE zf35.A.joins (codeAt Tryz.f73 [1,1,1,1]) (fun s''=>evalC zf35.C zf35.A n (codeAt Tryz.f73 [1,1,1,1]) s'' k) s') (zf35.K0 n)
noncomputable def zf35.K2 (n:Nat):Kont (Bool):=blockK 0 (zf35.K1 n)
noncomputable def zf35.l5 (n m5:Nat) (x1:Int) (x14:List Int) (x15 x16:Int) (r37:List Bool):Option (Bool):=loopE (cutAt zf35.A.loops (codeAt Tryz.f73 [1,1,1,0,1,0,0])) (fun s k=>evalC zf35.C zf35.A n (codeAt Tryz.f73 [1,1,1,0,1,0,0]) s k) m5 (St.of 37 101 [(1,.val (.int .i64) x1),(5,.own 37),(14,.val (.slice (.int .i64)) x14),(15,.val (.int .i64) x15),(16,.val (.int .i64) x16)] [(37,.row .bool 4 r37)] []) (zf35.K2 n)
theorem zf35.eq (n:Nat) (x0:List Int) (x1:Int):zf35 n (x0,x1)=(if (↑(List.length x0):Int) > x1 then some (Bool.false) else (if 0≤x1 then (if x1≤x1 then (if x1≤(↑Go.Refl.maxN:Int) then zf35.l5 n n (x1) (x0) ((↑(List.length x0):Int)) (0) (List.replicate (Int.toNat x1) Bool.false) else none) else none) else none)):=by kernel_rfl
theorem zf35.l5_succ (n m5:Nat) (x1:Int) (x14:List Int) (x15 x16:Int) (r37:List Bool):zf35.l5 n (m5+1) x1 x14 x15 x16 r37=(if x16<x15 then (if 0≤x16 then (if x16<(↑(List.length x14):Int) then (if List.getD x14 (Int.toNat x16) 0<0 then some (Bool.false) else (if List.getD x14 (Int.toNat x16) 0≥x1 then some (Bool.false) else (if 0≤List.getD x14 (Int.toNat x16) 0 then (if List.getD x14 (Int.toNat x16) 0<(↑(List.length r37):Int) then (if (List.getD r37 (Int.toNat (List.getD x14 (Int.toNat x16) 0)) Bool.false)=true then some (Bool.false) else (if 0≤List.getD x14 (Int.toNat x16) 0 then (if List.getD x14 (Int.toNat x16) 0<(↑(List.length r37):Int) then zf35.l5 n m5 (x1) (x14) (x15) (Go.RowKit.wrap64 (x16+1)) (List.set r37 (Int.toNat (List.getD x14 (Int.toNat x16) 0)) Bool.true) else none) else none)) else none) else none))) else none) else none) else some (Bool.true)):=by kernel_rfl
noncomputable abbrev zf35.sg (n:Nat):Sig:=⟨zf35.ps,zf35.res,zf35 n⟩
theorem zf35.call:Callable Tryz.prog 73:=⟨Tryz.f73,Tryz.func73,by kernel_rfl,by kernel_rfl⟩
theorem zf35.ok (n:Nat):FC Tryz.prog [] 73 (zf35.sg n):=
  evalF_ok (C:=zf35.C) ⟨tb_ok,fun n _ _ h=>tabOk (l:=[]) (all_nil) h,mixed,ar_ok,bld_ok,pts_ok⟩ zf35.A Tryz.func73 zf35.ps zf35.res n
abbrev zf77.ps:List Pm:=[.arg (.v (.slice (.int .i64))),.arg (.v (.int .i64))]
abbrev zf77.res:List M:=[.v (.int .i64)]
noncomputable def zf77.C:Cfg:={ tb:=tb,tab:=fun n f=>Refl.look [] f,gl:=[],ar:=ar,bld:=bld,pts:=pts }
noncomputable def zf77.A:Ann:={ joins:=[],loops:=[(2,{ live:=[0,1,7,8],base:=19 })],ids:=[],pids:=[],nroots:=83 }
noncomputable def zf77 (n:Nat) (x:List Int × Int):Option (Int):=evalF zf77.C zf77.A Tryz.f110 zf77.ps zf77.res n x
noncomputable def zf77.K0 (_:Nat):Kont (Int):=finK zf77.C (Func.results Tryz.f110).toList zf77.ps zf77.res
noncomputable def zf77.K1 (n:Nat):Kont (Int):=seqK (fun s' k=>joinE zf77.A.joins (codeAt Tryz.f110 [1,1]) (fun s''=>evalC zf77.C zf77.A n (codeAt Tryz.f110 [1,1]) s'' k) s') (zf77.K0 n)
noncomputable def zf77.K2 (n:Nat):Kont (Int):=blockK 0 (zf77.K1 n)
noncomputable def zf77.l2 (n m2:Nat) (x0:List Int) (x1 x7 x8:Int):Option (Int):=loopE (cutAt zf77.A.loops (codeAt Tryz.f110 [1,0,1,0,0])) (fun s k=>evalC zf77.C zf77.A n (codeAt Tryz.f110 [1,0,1,0,0]) s k) m2 (St.of 19 83 [(0,.val (.slice (.int .i64)) x0),(1,.val (.int .i64) x1),(7,.val (.int .i64) x7),(8,.val (.int .i64) x8)] [] []) (zf77.K2 n)
theorem zf77.eq (n:Nat) (x0:List Int) (x1:Int):zf77 n (x0,x1)=zf77.l2 n n (x0) (x1) ((↑(List.length x0):Int)) (0):=by kernel_rfl
theorem zf77.l2_succ (n m2:Nat) (x0:List Int) (x1 x7 x8:Int):zf77.l2 n (m2+1) x0 x1 x7 x8=(if x8<x7 then (if 0≤x8 then (if x8<(↑(List.length x0):Int) then (if x1=List.getD x0 (Int.toNat x8) 0 then some (x8) else zf77.l2 n m2 (x0) (x1) (x7) (Go.RowKit.wrap64 (x8+1))) else none) else none) else some ((-1))):=by kernel_rfl
noncomputable abbrev zf77.sg (n:Nat):Sig:=⟨zf77.ps,zf77.res,zf77 n⟩
theorem zf77.call:Callable Tryz.prog 110:=⟨Tryz.f110,Tryz.func110,by kernel_rfl,by kernel_rfl⟩
theorem zf77.ok (n:Nat):FC Tryz.prog [] 110 (zf77.sg n):=
  evalF_ok (C:=zf77.C) ⟨tb_ok,fun n _ _ h=>tabOk (l:=[]) (all_nil) h,mixed,ar_ok,bld_ok,pts_ok⟩ zf77.A Tryz.func110 zf77.ps zf77.res n
abbrev zf73.ps:List Pm:=[.arg (.v (.slice (.int .i64))),.arg (.v (.int .i64))]
abbrev zf73.res:List M:=[.v .bool]
noncomputable def zf73.C:Cfg:={ tb:=tb,tab:=fun n f=>Refl.look [(110,(zf77.sg n))] f,gl:=[],ar:=ar,bld:=bld,pts:=pts }
noncomputable def zf73.A:Ann:={ joins:=[],loops:=[],ids:=[(1,[(7,[])])],pids:=[],nroots:=73 }
noncomputable def zf73 (n:Nat) (x:List Int × Int):Option (Bool):=evalF zf73.C zf73.A Tryz.f74 zf73.ps zf73.res n x
theorem zf73.eq (n:Nat) (x0:List Int) (x1:Int):zf73 n (x0,x1)=((zf77 n (x0,x1)).bind fun y0=>some (Decidable.decide (y0≥0))):=by kernel_rfl
noncomputable abbrev zf73.sg (n:Nat):Sig:=⟨zf73.ps,zf73.res,zf73 n⟩
theorem zf73.call:Callable Tryz.prog 74:=⟨Tryz.f74,Tryz.func74,by kernel_rfl,by kernel_rfl⟩
theorem zf73.ok (n:Nat):FC Tryz.prog [] 74 (zf73.sg n):=
  evalF_ok (C:=zf73.C) ⟨tb_ok,fun n _ _ h=>tabOk (l:=[(110,(zf77.sg n))]) (all_cons ⟨zf77.ok n,zf77.call⟩ (all_nil)) h,mixed,ar_ok,bld_ok,pts_ok⟩ zf73.A Tryz.func74 zf73.ps zf73.res n
abbrev zf28.ps:List Pm:=[.arg (.v (.slice zt8)),.arg (.v (.int .i64))]
abbrev zf28.res:List M:=[.v .bool]
noncomputable def zf28.C:Cfg:={ tb:=tb,tab:=fun n f=>Refl.look [(73,(zf35.sg n)),(74,(zf73.sg n))] f,gl:=[],ar:=ar,bld:=bld,pts:=pts }
noncomputable def zf28.A:Ann:={ joins:=[],loops:=[(4,{ live:=[1,18,19,20],base:=62 })],ids:=[(8,[(51,[]),(59,[])])],pids:=[],nroots:=126 }
noncomputable def zf28 (n:Nat) (x:List zt19 × Int):Option (Bool):=evalF zf28.C zf28.A Tryz.f33 zf28.ps zf28.res n x
noncomputable def zf28.K0 (_:Nat):Kont (Bool):=finK zf28.C (Func.results Tryz.f33).toList zf28.ps zf28.res
noncomputable def zf28.K1 (n:Nat):Kont (Bool):=seqK (fun s' k=>joinE zf28.A.joins (codeAt Tryz.f33 [1,1,1]) (fun s''=>evalC zf28.C zf28.A n (codeAt Tryz.f33 [1,1,1]) s'' k) s') (zf28.K0 n)
noncomputable def zf28.K2 (n:Nat):Kont (Bool):=blockK 0 (zf28.K1 n)
noncomputable def zf28.l4 (n m4:Nat) (x1:Int) (x18:List zt19) (x19 x20:Int):Option (Bool):=loopE (cutAt zf28.A.loops (codeAt Tryz.f33 [1,1,0,1,0,0])) (fun s k=>evalC zf28.C zf28.A n (codeAt Tryz.f33 [1,1,0,1,0,0]) s k) m4 (St.of 62 126 [(1,.val (.int .i64) x1),(18,.val (.slice zt8) x18),(19,.val (.int .i64) x19),(20,.val (.int .i64) x20)] [] []) (zf28.K2 n)
theorem zf28.eq (n:Nat) (x0:List zt19) (x1:Int):zf28 n (x0,x1)=(if (↑(List.length x0):Int) > 16 then some (Bool.false) else (if x1<1 then some (Bool.false) else (if x1 > 12 then some (Bool.false) else zf28.l4 n n (x1) (x0) ((↑(List.length x0):Int)) (0)))):=by kernel_rfl
theorem zf28.l4_succ (n m4:Nat) (x1:Int) (x18:List zt19) (x19 x20:Int):zf28.l4 n (m4+1) x1 x18 x19 x20=(if x20<x19 then (if 0≤x20 then (if x20<(↑(List.length x18):Int) then (if Prod.fst (List.getD x18 (Int.toNat x20) (0,0,[]))<0 then some (Bool.false) else (if Prod.fst (List.getD x18 (Int.toNat x20) (0,0,[]))≥x1 then some (Bool.false) else (if Prod.fst (Prod.snd (List.getD x18 (Int.toNat x20) (0,0,[])))<1 then some (Bool.false) else (if Prod.fst (Prod.snd (List.getD x18 (Int.toNat x20) (0,0,[]))) > 100000 then some (Bool.false) else (if (↑(List.length (Prod.snd (Prod.snd (List.getD x18 (Int.toNat x20) ((0:Int),(0:Int),[]))))):Int)<1 then some (Bool.false) else ((zf35 n (Prod.snd (Prod.snd (List.getD x18 (Int.toNat x20) (0,0,[]))),x1)).bind fun y0=>(if (!y0)=Bool.true then some (Bool.false) else ((zf73 n (Prod.snd (Prod.snd (List.getD x18 (Int.toNat x20) (0,0,[]))),Prod.fst (List.getD x18 (Int.toNat x20) (0,0,[])))).bind fun y1=>(if (y1)=true then some (Bool.false) else zf28.l4 n m4 (x1) (x18) (x19) (Go.RowKit.wrap64 (x20+1))))))))))) else none) else none) else some (Bool.true)):=by kernel_rfl
noncomputable abbrev zf28.sg (n:Nat):Sig:=⟨zf28.ps,zf28.res,zf28 n⟩
theorem zf28.call:Callable Tryz.prog 33:=⟨Tryz.f33,Tryz.func33,by kernel_rfl,by kernel_rfl⟩
theorem zf28.ok (n:Nat):FC Tryz.prog [] 33 (zf28.sg n):=
  evalF_ok (C:=zf28.C) ⟨tb_ok,fun n _ _ h=>tabOk (l:=[(73,(zf35.sg n)),(74,(zf73.sg n))]) (all_cons ⟨zf35.ok n,zf35.call⟩ (all_cons ⟨zf73.ok n,zf73.call⟩ (all_nil))) h,mixed,ar_ok,bld_ok,pts_ok⟩ zf28.A Tryz.func33 zf28.ps zf28.res n
abbrev zf38.ps:List Pm:=[.arg (.v (.slice zt8))]
abbrev zf38.res:List M:=[.v (.int .i64)]
noncomputable def zf38.C:Cfg:={ tb:=tb,tab:=fun n f=>Refl.look [] f,gl:=[],ar:=ar,bld:=bld,pts:=pts }
noncomputable def zf38.A:Ann:={ joins:=[],loops:=[(3,{ live:=[3,6,7,8],base:=18 })],ids:=[],pids:=[],nroots:=82 }
noncomputable def zf38 (n:Nat) (x:List zt19):Option (Int):=evalF zf38.C zf38.A Tryz.f34 zf38.ps zf38.res n x
noncomputable def zf38.K0 (_:Nat):Kont (Int):=finK zf38.C (Func.results Tryz.f34).toList zf38.ps zf38.res
noncomputable def zf38.K1 (n:Nat):Kont (Int):=seqK (fun s' k=>joinE zf38.A.joins (codeAt Tryz.f34 [1,1,1]) (fun s''=>evalC zf38.C zf38.A n (codeAt Tryz.f34 [1,1,1]) s'' k) s') (zf38.K0 n)
noncomputable def zf38.K2 (n:Nat):Kont (Int):=blockK 0 (zf38.K1 n)
noncomputable def zf38.l3 (n m3:Nat) (x3:Int) (x6:List zt19) (x7 x8:Int):Option (Int):=loopE (cutAt zf38.A.loops (codeAt Tryz.f34 [1,1,0,1,0,0])) (fun s k=>evalC zf38.C zf38.A n (codeAt Tryz.f34 [1,1,0,1,0,0]) s k) m3 (St.of 18 82 [(3,.val (.int .i64) x3),(6,.val (.slice zt8) x6),(7,.val (.int .i64) x7),(8,.val (.int .i64) x8)] [] []) (zf38.K2 n)
theorem zf38.eq (n:Nat) (x0:List zt19):zf38 n x0=zf38.l3 n n (0) (x0) ((↑(List.length x0):Int)) (0):=by kernel_rfl
theorem zf38.l3_succ (n m3:Nat) (x3:Int) (x6:List zt19) (x7 x8:Int):zf38.l3 n (m3+1) x3 x6 x7 x8=(if x8<x7 then (if 0≤x8 then (if x8<(↑(List.length x6):Int) then zf38.l3 n m3 (Go.RowKit.wrap64 (x3+Prod.fst (Prod.snd (List.getD x6 (Int.toNat x8) (0,0,[]))))) (x6) (x7) (Go.RowKit.wrap64 (x8+1)) else none) else none) else some (x3)):=by kernel_rfl
noncomputable abbrev zf38.sg (n:Nat):Sig:=⟨zf38.ps,zf38.res,zf38 n⟩
theorem zf38.call:Callable Tryz.prog 34:=⟨Tryz.f34,Tryz.func34,by kernel_rfl,by kernel_rfl⟩
theorem zf38.ok (n:Nat):FC Tryz.prog [] 34 (zf38.sg n):=
  evalF_ok (C:=zf38.C) ⟨tb_ok,fun n _ _ h=>tabOk (l:=[]) (all_nil) h,mixed,ar_ok,bld_ok,pts_ok⟩ zf38.A Tryz.func34 zf38.ps zf38.res n
abbrev zf44.ps:List Pm:=[.arg (.v (.slice (.int .i64)))]
abbrev zf44.res:List M:=[.v (.int .i64)]
noncomputable def zf44.C:Cfg:={ tb:=tb,tab:=fun n f=>Refl.look [] f,gl:=[],ar:=ar,bld:=bld,pts:=pts }
noncomputable def zf44.A:Ann:={ joins:=[],loops:=[(3,{ live:=[3,6,7,8],base:=17 })],ids:=[],pids:=[],nroots:=81 }
noncomputable def zf44 (n:Nat) (x:List Int):Option (Int):=evalF zf44.C zf44.A Tryz.f35 zf44.ps zf44.res n x
noncomputable def zf44.K0 (_:Nat):Kont (Int):=finK zf44.C (Func.results Tryz.f35).toList zf44.ps zf44.res
noncomputable def zf44.K1 (n:Nat):Kont (Int):=seqK (fun s' k=>joinE zf44.A.joins (codeAt Tryz.f35 [1,1,1]) (fun s''=>evalC zf44.C zf44.A n (codeAt Tryz.f35 [1,1,1]) s'' k) s') (zf44.K0 n)
noncomputable def zf44.K2 (n:Nat):Kont (Int):=blockK 0 (zf44.K1 n)
noncomputable def zf44.l3 (n m3:Nat) (x3:Int) (x6:List Int) (x7 x8:Int):Option (Int):=loopE (cutAt zf44.A.loops (codeAt Tryz.f35 [1,1,0,1,0,0])) (fun s k=>evalC zf44.C zf44.A n (codeAt Tryz.f35 [1,1,0,1,0,0]) s k) m3 (St.of 17 81 [(3,.val (.int .i64) x3),(6,.val (.slice (.int .i64)) x6),(7,.val (.int .i64) x7),(8,.val (.int .i64) x8)] [] []) (zf44.K2 n)
theorem zf44.eq (n:Nat) (x0:List Int):zf44 n x0=zf44.l3 n n (0) (x0) ((↑(List.length x0):Int)) (0):=by kernel_rfl
theorem zf44.l3_succ (n m3:Nat) (x3:Int) (x6:List Int) (x7 x8:Int):zf44.l3 n (m3+1) x3 x6 x7 x8=(if x8<x7 then (if 0≤x8 then (if x8<(↑(List.length x6):Int) then zf44.l3 n m3 (Go.RowKit.wrap64 (x3+List.getD x6 (Int.toNat x8) 0)) (x6) (x7) (Go.RowKit.wrap64 (x8+1)) else none) else none) else some (x3)):=by kernel_rfl
noncomputable abbrev zf44.sg (n:Nat):Sig:=⟨zf44.ps,zf44.res,zf44 n⟩
theorem zf44.call:Callable Tryz.prog 35:=⟨Tryz.f35,Tryz.func35,by kernel_rfl,by kernel_rfl⟩
theorem zf44.ok (n:Nat):FC Tryz.prog [] 35 (zf44.sg n):=
  evalF_ok (C:=zf44.C) ⟨tb_ok,fun n _ _ h=>tabOk (l:=[]) (all_nil) h,mixed,ar_ok,bld_ok,pts_ok⟩ zf44.A Tryz.func35 zf44.ps zf44.res n
abbrev zf27.ps:List Pm:=[.arg (.v zt0)]
abbrev zf27.res:List M:=[.v .bool]
noncomputable def zf27.C:Cfg:={ tb:=tb,tab:=fun n f=>Refl.look [(32,(zf47.sg n)),(33,(zf28.sg n)),(34,(zf38.sg n)),(35,(zf44.sg n))] f,gl:=[],ar:=ar,bld:=bld,pts:=pts }
noncomputable def zf27.A:Ann:={ joins:=[],loops:=[],ids:=[(1,[(5,[]),(13,[])]),(5,[(47,[]),(51,[])])],pids:=[],nroots:=121 }
noncomputable def zf27 (n:Nat) (x:List Int × List zt19 × Int × Int × Int):Option (Bool):=evalF zf27.C zf27.A Tryz.f9 zf27.ps zf27.res n x
theorem zf27.eq (n:Nat) (x0:List Int × List zt19 × Int × Int × Int):zf27 n x0=((zf47 n x0.1).bind fun y0=>(if (!y0)=Bool.true then some (Bool.false) else ((zf28 n (x0.2.1,(↑(List.length x0.1):Int))).bind fun y1=>(if (!y1)=true then some (Bool.false) else (if x0.2.2.1<0 then some (Bool.false) else (if x0.2.2.1 > 1000000 then some (Bool.false) else (if x0.2.2.2.1<(-1000000) then some (Bool.false) else (if x0.2.2.2.1 > 1000000 then some (Bool.false) else (if x0.2.2.2.2≥0 then (if x0.2.2.2.2≤999 then ((zf38 n x0.2.1).bind fun y2=>((zf44 n x0.1).bind fun y3=>some (Decidable.decide (Go.RowKit.wrap64 (x0.2.2.1+y2)=Go.RowKit.wrap64 (y3+x0.2.2.2.1))))) else some (Bool.false)) else some (Bool.false)))))))))):=by kernel_rfl
noncomputable abbrev zf27.sg (n:Nat):Sig:=⟨zf27.ps,zf27.res,zf27 n⟩
theorem zf27.call:Callable Tryz.prog 9:=⟨Tryz.f9,Tryz.func9,by kernel_rfl,by kernel_rfl⟩
theorem zf27.ok (n:Nat):FC Tryz.prog [] 9 (zf27.sg n):=
  evalF_ok (C:=zf27.C) ⟨tb_ok,fun n _ _ h=>tabOk (l:=[(32,(zf47.sg n)),(33,(zf28.sg n)),(34,(zf38.sg n)),(35,(zf44.sg n))]) (all_cons ⟨zf47.ok n,zf47.call⟩ (all_cons ⟨zf28.ok n,zf28.call⟩ (all_cons ⟨zf38.ok n,zf38.call⟩ (all_cons ⟨zf44.ok n,zf44.call⟩ (all_nil))))) h,mixed,ar_ok,bld_ok,pts_ok⟩ zf27.A Tryz.func9 zf27.ps zf27.res n
abbrev zf52.ps:List Pm:=ixPs
abbrev zf52.res:List M:=ixRes
noncomputable def zf52 (n:Nat):ByteArray × ByteArray→Option Int:=ixRun
noncomputable abbrev zf52.sg (n:Nat):Sig:=⟨zf52.ps,zf52.res,zf52 n⟩
theorem zf52.call:Callable Tryz.prog 117:=⟨Tryz.f117,Tryz.func117,by kernel_rfl,by kernel_rfl⟩
theorem zf52.ok (n:Nat):FC Tryz.prog [] 117 (zf52.sg n):=ixl_FC Tryz.lays219
abbrev zf49.ps:List Pm:=[.arg (.v .str),.arg (.v .str)]
abbrev zf49.res:List M:=[.v .str,.v .str,.v .bool]
noncomputable def zf49.C:Cfg:={ tb:=tb,tab:=fun n f=>Refl.look [(117,(zf52.sg n))] f,gl:=[],ar:=ar,bld:=bld,pts:=pts }
noncomputable def zf49.A:Ann:={ joins:=[],loops:=[],ids:=[(1,[(10,[])])],pids:=[],nroots:=87 }
noncomputable def zf49 (n:Nat) (x:ByteArray × ByteArray):Option (ByteArray × ByteArray × Bool):=evalF zf49.C zf49.A Tryz.f78 zf49.ps zf49.res n x
theorem zf49.eq (n:Nat) (x0 x1:ByteArray):zf49 n (x0,x1)=((zf52 n (x0,x1)).bind fun y0=>(if y0≥0 then (if 0≤y0 then (if y0≤(↑(ByteArray.size x0):Int) then (if 0≤Go.RowKit.wrap64 (y0+(↑(ByteArray.size x1):Int)) then (if Go.RowKit.wrap64 (y0+(↑(ByteArray.size x1):Int))≤(↑(ByteArray.size x0):Int) then some ((ByteArray.extract x0 0 (Int.toNat y0),ByteArray.extract x0 (Int.toNat (Go.RowKit.wrap64 (y0+(↑(ByteArray.size x1):Int)))) (ByteArray.size x0),Bool.true)) else none) else none) else none) else none) else some ((x0,{ data:=#[] },Bool.false)))):=by kernel_rfl
noncomputable abbrev zf49.sg (n:Nat):Sig:=⟨zf49.ps,zf49.res,zf49 n⟩
theorem zf49.call:Callable Tryz.prog 78:=⟨Tryz.f78,Tryz.func78,by kernel_rfl,by kernel_rfl⟩
theorem zf49.ok (n:Nat):FC Tryz.prog [] 78 (zf49.sg n):=
  evalF_ok (C:=zf49.C) ⟨tb_ok,fun n _ _ h=>tabOk (l:=[(117,(zf52.sg n))]) (all_cons ⟨zf52.ok n,zf52.call⟩ (all_nil)) h,mixed,ar_ok,bld_ok,pts_ok⟩ zf49.A Tryz.func78 zf49.ps zf49.res n
abbrev zf145.ps:List Pm:=[.arg (.v .str),.arg (.v .str)]
abbrev zf145.res:List M:=[.v .str,.v .str,.v .bool]
noncomputable def zf145.C:Cfg:={ tb:=tb,tab:=fun n f=>Refl.look [(78,(zf49.sg n))] f,gl:=[],ar:=ar,bld:=bld,pts:=pts }
noncomputable def zf145.A:Ann:={ joins:=[],loops:=[],ids:=[(1,[(9,[])])],pids:=[],nroots:=77 }
noncomputable def zf145 (n:Nat) (x:ByteArray × ByteArray):Option (ByteArray × ByteArray × Bool):=evalF zf145.C zf145.A Tryz.f38 zf145.ps zf145.res n x
theorem zf145.eq (n:Nat) (x0 x1:ByteArray):zf145 n (x0,x1)=((zf49 n (x0,x1)).bind fun y0=>some ((y0.1,y0.2.1,y0.2.2))):=by kernel_rfl
noncomputable abbrev zf145.sg (n:Nat):Sig:=⟨zf145.ps,zf145.res,zf145 n⟩
theorem zf145.call:Callable Tryz.prog 38:=⟨Tryz.f38,Tryz.func38,by kernel_rfl,by kernel_rfl⟩
theorem zf145.ok (n:Nat):FC Tryz.prog [] 38 (zf145.sg n):=
  evalF_ok (C:=zf145.C) ⟨tb_ok,fun n _ _ h=>tabOk (l:=[(78,(zf49.sg n))]) (all_cons ⟨zf49.ok n,zf49.call⟩ (all_nil)) h,mixed,ar_ok,bld_ok,pts_ok⟩ zf145.A Tryz.func38 zf145.ps zf145.res n
abbrev zf149.ps:List Pm:=[.arg (.v .str),.arg (.v (.int .i64))]
abbrev zf149.res:List M:=[(.own .str 9)]
noncomputable def zf149 (n:Nat):ByteArray × Int→Option (List ByteArray):=fun _=>none
noncomputable abbrev zf149.sg (n:Nat):Sig:=⟨zf149.ps,zf149.res,zf149 n⟩
theorem zf149.call:Callable Tryz.prog 147:=⟨Tryz.f147,Tryz.func147,by kernel_rfl,by kernel_rfl⟩
theorem zf149.ok (n:Nat):FC Tryz.prog [] 147 (zf149.sg n):=never_FC
abbrev zf144.ps:List Pm:=ixPs
abbrev zf144.res:List M:=ixRes
noncomputable def zf144 (n:Nat):ByteArray × ByteArray→Option Int:=ctRun
noncomputable abbrev zf144.sg (n:Nat):Sig:=⟨zf144.ps,zf144.res,zf144 n⟩
theorem zf144.call:Callable Tryz.prog 148:=⟨Tryz.f148,Tryz.func148,by kernel_rfl,by kernel_rfl⟩
theorem zf144.ok (n:Nat):FC Tryz.prog [] 148 (zf144.sg n):=ct_FC Tryz.lays138
abbrev zf147.ps:List Pm:=ixPs
abbrev zf147.res:List M:=ixRes
noncomputable def zf147 (n:Nat):ByteArray × ByteArray→Option Int:=ixRun
noncomputable abbrev zf147.sg (n:Nat):Sig:=⟨zf147.ps,zf147.res,zf147 n⟩
theorem zf147.call:Callable Tryz.prog 149:=⟨Tryz.f149,Tryz.func149,by kernel_rfl,by kernel_rfl⟩
theorem zf147.ok (n:Nat):FC Tryz.prog [] 149 (zf147.sg n):=ix_FC Tryz.lays143
abbrev zf150.ps:List Pm:=[.arg (.v .str),.arg (.v .str),.arg (.v (.int .i64)),.arg (.v (.int .i64))]
abbrev zf150.res:List M:=[(.own .str 9)]
noncomputable def zf150.C:Cfg:={ tb:=tb,tab:=fun n f=>Refl.look [(147,(zf149.sg n)),(148,(zf144.sg n)),(149,(zf147.sg n))] f,gl:=[],ar:=ar,bld:=bld,pts:=pts }
noncomputable def zf150.A:Ann:={ joins:=[],loops:=[(11,{ live:=[0,1,2,3,9,10],base:=66 })],ids:=[(6,[(23,[])]),(12,[(39,[])])],pids:=[],nroots:=130 }
noncomputable def zf150 (n:Nat) (x:ByteArray × ByteArray × Int × Int):Option (List ByteArray):=evalF zf150.C zf150.A Tryz.f118 zf150.ps zf150.res n x
noncomputable def zf150.K0 (_:Nat):Kont (List ByteArray):=finK zf150.C (Func.results Tryz.f118).toList zf150.ps zf150.res
noncomputable def zf150.K1 (n:Nat):Kont (List ByteArray):=seqK (fun s' k=>joinE zf150.A.joins (codeAt Tryz.f118 [1,1,1,1,1,1,1,1,1]) (fun s''=>evalC zf150.C zf150.A n (codeAt Tryz.f118 [1,1,1,1,1,1,1,1,1]) s'' k) s') (zf150.K0 n)
noncomputable def zf150.K2 (n:Nat):Kont (List ByteArray):=blockK 0 (zf150.K1 n)
noncomputable def zf150.l11 (n m11:Nat) (x0 x1:ByteArray) (x2 x3 x10:Int) (r66:List ByteArray):Option (List ByteArray):=loopE (cutAt zf150.A.loops (codeAt Tryz.f118 [1,1,1,1,1,1,1,1,0,0,0])) (fun s k=>evalC zf150.C zf150.A n (codeAt Tryz.f118 [1,1,1,1,1,1,1,1,0,0,0]) s k) m11 (St.of 66 130 [(0,.val .str x0),(1,.val .str x1),(2,.val (.int .i64) x2),(3,.val (.int .i64) x3),(9,.own 66),(10,.val (.int .i64) x10)] [(66,.row .str 9 r66)] []) (zf150.K2 n)
theorem zf150.eq (n:Nat) (x0 x1:ByteArray) (x2 x3:Int):zf150 n (x0,x1,x2,x3)=(if x3=0 then some ([]) else (if x1={ data:=#[] } then ((zf149 n (x0,x3)).bind fun y0=>some (y0)) else (if x3<0 then ((zf144 n (x0,x1)).bind fun y1=>(if 0≤Go.Refl.mn (Go.RowKit.wrap64 (y1+1)) (Go.RowKit.wrap64 ((↑(ByteArray.size x0):Int)+1)) then (if Go.Refl.mn (Go.RowKit.wrap64 (y1+1)) (Go.RowKit.wrap64 ((↑(ByteArray.size x0):Int)+1))≤Go.Refl.mn (Go.RowKit.wrap64 (y1+1)) (Go.RowKit.wrap64 ((↑(ByteArray.size x0):Int)+1)) then (if Go.Refl.mn (Go.RowKit.wrap64 (y1+1)) (Go.RowKit.wrap64 ((↑(ByteArray.size x0):Int)+1))≤(↑Go.Refl.maxN:Int) then zf150.l11 n n (x0) (x1) (x2) (Go.RowKit.wrap64 (Go.Refl.mn (Go.RowKit.wrap64 (y1+1)) (Go.RowKit.wrap64 ((↑(ByteArray.size x0):Int)+1))-1)) (0) (List.replicate (Int.toNat (Go.Refl.mn (Go.RowKit.wrap64 (y1+1)) (Go.RowKit.wrap64 ((↑(ByteArray.size x0):Int)+1)))) ByteArray.empty) else none) else none) else none)) else (if 0≤Go.Refl.mn x3 (Go.RowKit.wrap64 ((↑(ByteArray.size x0):Int)+1)) then (if Go.Refl.mn x3 (Go.RowKit.wrap64 ((↑(ByteArray.size x0):Int)+1))≤Go.Refl.mn x3 (Go.RowKit.wrap64 ((↑(ByteArray.size x0):Int)+1)) then (if Go.Refl.mn x3 (Go.RowKit.wrap64 ((↑(ByteArray.size x0):Int)+1))≤(↑Go.Refl.maxN:Int) then zf150.l11 n n (x0) (x1) (x2) (Go.RowKit.wrap64 (Go.Refl.mn x3 (Go.RowKit.wrap64 ((↑(ByteArray.size x0):Int)+1))-1)) (0) (List.replicate (Int.toNat (Go.Refl.mn x3 (Go.RowKit.wrap64 ((↑(ByteArray.size x0):Int)+1)))) ByteArray.empty) else none) else none) else none)))):=by kernel_rfl
theorem zf150.l11_succ (n m11:Nat) (x0 x1:ByteArray) (x2 x3 x10:Int) (r66:List ByteArray):zf150.l11 n (m11+1) x0 x1 x2 x3 x10 r66=(if x10<x3 then ((zf147 n (x0,x1)).bind fun y2=>(if y2<0 then (if 0≤x10 then (if x10<(↑(List.length r66):Int) then (if 0≤Go.RowKit.wrap64 (x10+1) then (if Go.RowKit.wrap64 (x10+1)≤(↑(List.length (List.set r66 (Int.toNat x10) x0)):Int) then some (List.take (Int.toNat (Go.RowKit.wrap64 (x10+1))-0) (List.set r66 (Int.toNat x10) x0)) else none) else none) else none) else none) else (if 0≤Go.RowKit.wrap64 (y2+x2) then (if Go.RowKit.wrap64 (y2+x2)≤(↑(ByteArray.size x0):Int) then (if 0≤x10 then (if x10<(↑(List.length r66):Int) then (if 0≤Go.RowKit.wrap64 (y2+(↑(ByteArray.size x1):Int)) then (if Go.RowKit.wrap64 (y2+(↑(ByteArray.size x1):Int))≤(↑(ByteArray.size x0):Int) then zf150.l11 n m11 (ByteArray.extract x0 (Int.toNat (Go.RowKit.wrap64 (y2+(↑(ByteArray.size x1):Int)))) (ByteArray.size x0)) (x1) (x2) (x3) (Go.RowKit.wrap64 (x10+1)) (List.set r66 (Int.toNat x10) (ByteArray.extract x0 0 (Int.toNat (Go.RowKit.wrap64 (y2+x2))))) else none) else none) else none) else none) else none) else none))) else (if 0≤x10 then (if x10<(↑(List.length r66):Int) then (if 0≤Go.RowKit.wrap64 (x10+1) then (if Go.RowKit.wrap64 (x10+1)≤(↑(List.length (List.set r66 (Int.toNat x10) x0)):Int) then some (List.take (Int.toNat (Go.RowKit.wrap64 (x10+1))-0) (List.set r66 (Int.toNat x10) x0)) else none) else none) else none) else none)):=by kernel_rfl
noncomputable abbrev zf150.sg (n:Nat):Sig:=⟨zf150.ps,zf150.res,zf150 n⟩
theorem zf150.call:Callable Tryz.prog 118:=⟨Tryz.f118,Tryz.func118,by kernel_rfl,by kernel_rfl⟩
theorem zf150.ok (n:Nat):FC Tryz.prog [] 118 (zf150.sg n):=
  evalF_ok (C:=zf150.C) ⟨tb_ok,fun n _ _ h=>tabOk (l:=[(147,(zf149.sg n)),(148,(zf144.sg n)),(149,(zf147.sg n))]) (all_cons ⟨zf149.ok n,zf149.call⟩ (all_cons ⟨zf144.ok n,zf144.call⟩ (all_cons ⟨zf147.ok n,zf147.call⟩ (all_nil)))) h,mixed,ar_ok,bld_ok,pts_ok⟩ zf150.A Tryz.func118 zf150.ps zf150.res n
abbrev zf148.ps:List Pm:=[.arg (.v .str),.arg (.v .str)]
abbrev zf148.res:List M:=[(.own .str 9)]
noncomputable def zf148.C:Cfg:={ tb:=tb,tab:=fun n f=>Refl.look [(118,(zf150.sg n))] f,gl:=[],ar:=ar,bld:=bld,pts:=pts }
noncomputable def zf148.A:Ann:={ joins:=[],loops:=[],ids:=[],pids:=[],nroots:=72 }
noncomputable def zf148 (n:Nat) (x:ByteArray × ByteArray):Option (List ByteArray):=evalF zf148.C zf148.A Tryz.f79 zf148.ps zf148.res n x
theorem zf148.eq (n:Nat) (x0 x1:ByteArray):zf148 n (x0,x1)=((zf150 n (x0,x1,0,(-1))).bind fun y0=>some (y0)):=by kernel_rfl
noncomputable abbrev zf148.sg (n:Nat):Sig:=⟨zf148.ps,zf148.res,zf148 n⟩
theorem zf148.call:Callable Tryz.prog 79:=⟨Tryz.f79,Tryz.func79,by kernel_rfl,by kernel_rfl⟩
theorem zf148.ok (n:Nat):FC Tryz.prog [] 79 (zf148.sg n):=
  evalF_ok (C:=zf148.C) ⟨tb_ok,fun n _ _ h=>tabOk (l:=[(118,(zf150.sg n))]) (all_cons ⟨zf150.ok n,zf150.call⟩ (all_nil)) h,mixed,ar_ok,bld_ok,pts_ok⟩ zf148.A Tryz.func79 zf148.ps zf148.res n
abbrev zf48.ps:List Pm:=[.arg (.v (.slice .str)),.arg (.v (.int .i64))]
abbrev zf48.res:List M:=[.v .str]
noncomputable def zf48.C:Cfg:={ tb:=tb,tab:=fun n f=>Refl.look [] f,gl:=[],ar:=ar,bld:=bld,pts:=pts }
noncomputable def zf48.A:Ann:={ joins:=[],loops:=[],ids:=[],pids:=[],nroots:=77 }
noncomputable def zf48 (n:Nat) (x:List ByteArray × Int):Option (ByteArray):=evalF zf48.C zf48.A Tryz.f119 zf48.ps zf48.res n x
theorem zf48.eq (n:Nat) (x0:List ByteArray) (x1:Int):zf48 n (x0,x1)=(if x1≥(↑(List.length x0):Int) then some ({ data:=#[] }) else (if 0≤x1 then (if x1<(↑(List.length x0):Int) then some (List.getD x0 (Int.toNat x1) ByteArray.empty) else none) else none)):=by kernel_rfl
noncomputable abbrev zf48.sg (n:Nat):Sig:=⟨zf48.ps,zf48.res,zf48 n⟩
theorem zf48.call:Callable Tryz.prog 119:=⟨Tryz.f119,Tryz.func119,by kernel_rfl,by kernel_rfl⟩
theorem zf48.ok (n:Nat):FC Tryz.prog [] 119 (zf48.sg n):=
  evalF_ok (C:=zf48.C) ⟨tb_ok,fun n _ _ h=>tabOk (l:=[]) (all_nil) h,mixed,ar_ok,bld_ok,pts_ok⟩ zf48.A Tryz.func119 zf48.ps zf48.res n
abbrev zf140.ps:List Pm:=atPs
abbrev zf140.res:List M:=atRes
noncomputable def zf140 (n:Nat):ByteArray→Option (Int × List Int):=fun x=>atRun x
noncomputable abbrev zf140.sg (n:Nat):Sig:=⟨zf140.ps,zf140.res,zf140 n⟩
theorem zf140.call:Callable Tryz.prog 128:=⟨Tryz.f128,Tryz.func128,by kernel_rfl,by kernel_rfl⟩
theorem zf140.ok (n:Nat):FC Tryz.prog [g3,g4] 128 (zf140.sg n):=at_FC Tryz.laysC172 (.head _) (.tail _ (.head _))
abbrev zf141.ps:List Pm:=itPs
abbrev zf141.res:List M:=itRes
noncomputable def zf141 (n:Nat):Int→Option ByteArray:=itRun
noncomputable abbrev zf141.sg (n:Nat):Sig:=⟨zf141.ps,zf141.res,zf141 n⟩
theorem zf141.call:Callable Tryz.prog 42:=⟨Tryz.f42,Tryz.func42,by kernel_rfl,by kernel_rfl⟩
theorem zf141.ok (n:Nat):FC Tryz.prog [g2] 42 (zf141.sg n):=it_FC Tryz.laysM171 (.head _) (by kernel_rfl)
abbrev zf40.ps:List Pm:=[.arg (.v .str),.arg (.v (.int .i64))]
abbrev zf40.res:List M:=[.v (.int .i64)]
noncomputable def zf40.C:Cfg:={ tb:=tb,tab:=fun n f=>Refl.look [(128,(zf140.sg n)),(42,(zf141.sg n))] f,gl:=[g2,g3,g4],ar:=ar,bld:=bld,pts:=pts }
noncomputable def zf40.A:Ann:={ joins:=[],loops:=[],ids:=[(1,[(9,[])]),(2,[(25,[])])],pids:=[],nroots:=94 }
noncomputable def zf40 (n:Nat) (x:ByteArray × Int):Option (Int):=evalF zf40.C zf40.A Tryz.f93 zf40.ps zf40.res n x
theorem zf40.eq (n:Nat) (x0:ByteArray) (x1:Int):zf40 n (x0,x1)=((zf140 n x0).bind fun y0=>(if (!List.isEmpty y0.2)=Bool.true then some ((-1)) else (if y0.1<0 then some ((-1)) else (if y0.1 > x1 then some ((-1)) else ((zf141 n y0.1).bind fun y1=>(if y1=x0 then some y0.1 else some ((-1)))))))):=by kernel_rfl
noncomputable abbrev zf40.sg (n:Nat):Sig:=⟨zf40.ps,zf40.res,zf40 n⟩
theorem zf40.call:Callable Tryz.prog 93:=⟨Tryz.f93,Tryz.func93,by kernel_rfl,by kernel_rfl⟩
theorem zf40.ok (n:Nat):FC Tryz.prog [g2,g3,g4] 93 (zf40.sg n):=
  evalF_ok (C:=zf40.C) ⟨tb_ok,fun n _ _ h=>tabOk (l:=[(128,(zf140.sg n)),(42,(zf141.sg n))]) (all_cons ⟨(.mono (gl:=[g3,g4]) (gl':=[g2,g3,g4]) (all_cons (.tail _ (.head _)) (all_cons (.tail _ (.tail _ (.head _))) (all_nil))) (zf140.ok n)),zf140.call⟩ (all_cons ⟨(.mono (gl:=[g2]) (gl':=[g2,g3,g4]) (all_cons (.head _) (all_nil)) (zf141.ok n)),zf141.call⟩ (all_nil))) h,mixed,ar_ok,bld_ok,pts_ok⟩ zf40.A Tryz.func93 zf40.ps zf40.res n
abbrev zf25.ps:List Pm:=[.arg (.v (.int .i64))]
abbrev zf25.res:List M:=[.v .str]
noncomputable def zf25.C:Cfg:={ tb:=tb,tab:=fun n f=>Refl.look [(42,(zf141.sg n))] f,gl:=[g2],ar:=ar,bld:=bld,pts:=pts }
noncomputable def zf25.A:Ann:={ joins:=[],loops:=[],ids:=[(3,[(12,[])]),(6,[(20,[])])],pids:=[],nroots:=88 }
noncomputable def zf25 (n:Nat) (x:Int):Option (ByteArray):=evalF zf25.C zf25.A Tryz.f13 zf25.ps zf25.res n x
theorem zf25.eq (n:Nat) (x0:Int):zf25 n x0=(if x0<0 then some ({ data:=#[] }) else (if x0 > 1000000 then some ({ data:=#[] }) else ((zf141 n (Int.tmod x0 100)).bind fun y0=>(if (↑(ByteArray.size y0):Int)<2 then (if ByteArray.size { data:=#[(48:UInt8)] }+ByteArray.size y0≤Go.Refl.maxN then ((zf141 n (Go.RowKit.wrap64 (Int.tdiv x0 100))).bind fun y1=>(if ByteArray.size y1+ByteArray.size { data:=#[(46:UInt8)] }≤Go.Refl.maxN then (if ByteArray.size (y1++{ data:=#[(46:UInt8)] })+ByteArray.size ({ data:=#[(48:UInt8)] }++y0)≤Go.Refl.maxN then some (y1++{ data:=#[(46:UInt8)] }++({ data:=#[(48:UInt8)] }++y0)) else none) else none)) else none) else ((zf141 n (Go.RowKit.wrap64 (Int.tdiv x0 100))).bind fun y2=>(if ByteArray.size y2+ByteArray.size { data:=#[(46:UInt8)] }≤Go.Refl.maxN then (if ByteArray.size (y2++{ data:=#[(46:UInt8)] })+ByteArray.size y0≤Go.Refl.maxN then some (y2++{ data:=#[(46:UInt8)] }++y0) else none) else none)))))):=by kernel_rfl
noncomputable abbrev zf25.sg (n:Nat):Sig:=⟨zf25.ps,zf25.res,zf25 n⟩
theorem zf25.call:Callable Tryz.prog 13:=⟨Tryz.f13,Tryz.func13,by kernel_rfl,by kernel_rfl⟩
theorem zf25.ok (n:Nat):FC Tryz.prog [g2] 13 (zf25.sg n):=
  evalF_ok (C:=zf25.C) ⟨tb_ok,fun n _ _ h=>tabOk (l:=[(42,(zf141.sg n))]) (all_cons ⟨zf141.ok n,zf141.call⟩ (all_nil)) h,mixed,ar_ok,bld_ok,pts_ok⟩ zf25.A Tryz.func13 zf25.ps zf25.res n
abbrev zf19.ps:List Pm:=[.arg (.v .str)]
abbrev zf19.res:List M:=[.v (.int .i64)]
noncomputable def zf19.C:Cfg:={ tb:=tb,tab:=fun n f=>Refl.look [(13,(zf25.sg n))] f,gl:=[g2],ar:=ar,bld:=bld,pts:=pts }
noncomputable def zf19.A:Ann:={ joins:=[],loops:=[(5,{ live:=[0,3,22,23],base:=55 })],ids:=[(12,[(51,[])])],pids:=[],nroots:=119 }
noncomputable def zf19 (n:Nat) (x:ByteArray):Option (Int):=evalF zf19.C zf19.A Tryz.f120 zf19.ps zf19.res n x
noncomputable def zf19.K0 (_:Nat):Kont (Int):=finK zf19.C (Func.results Tryz.f120).toList zf19.ps zf19.res
noncomputable def zf19.K1 (n:Nat):Kont (Int):=seqK (fun s' k=>joinE zf19.A.joins (codeAt Tryz.f120 [1,1,1,1]) (fun s''=>evalC zf19.C zf19.A n (codeAt Tryz.f120 [1,1,1,1]) s'' k) s') (zf19.K0 n)
noncomputable def zf19.K2 (n:Nat):Kont (Int):=blockK 0 (zf19.K1 n)
noncomputable def zf19.l5 (n m5:Nat) (x0:ByteArray) (x3 x22 x23:Int):Option (Int):=loopE (cutAt zf19.A.loops (codeAt Tryz.f120 [1,1,1,0,1,0,0])) (fun s k=>evalC zf19.C zf19.A n (codeAt Tryz.f120 [1,1,1,0,1,0,0]) s k) m5 (St.of 55 119 [(0,.val .str x0),(3,.val (.int .i64) x3),(22,.val (.int .i64) x22),(23,.val (.int .i64) x23)] [] []) (zf19.K2 n)
theorem zf19.eq (n:Nat) (x0:ByteArray):zf19 n x0=(if (↑(ByteArray.size x0):Int)<4 then some ((-1)) else (if (↑(ByteArray.size x0):Int) > 8 then some ((-1)) else (if 0≤Go.RowKit.wrap64 ((↑(ByteArray.size x0):Int)-3) then (if Go.RowKit.wrap64 ((↑(ByteArray.size x0):Int)-3)<(↑(ByteArray.size x0):Int) then (if (↑(UInt8.toNat (List.getD (Array.toList (ByteArray.data x0)) (Int.toNat (Go.RowKit.wrap64 ((↑(ByteArray.size x0):Int)-3))) (0:UInt8))):Int)=46 then zf19.l5 n n (x0) (0) ((↑(ByteArray.size x0):Int)) (0) else some ((-1))) else none) else none))):=by kernel_rfl
theorem zf19.l5_succ (n m5:Nat) (x0:ByteArray) (x3 x22 x23:Int):zf19.l5 n (m5+1) x0 x3 x22 x23=(if x23<x22 then (if x23=Go.RowKit.wrap64 ((↑(ByteArray.size x0):Int)-3) then zf19.l5 n m5 (x0) (x3) (x22) (Go.RowKit.wrap64 (x23+1)) else (if 0≤x23 then (if x23<(↑(ByteArray.size x0):Int) then (if (↑(UInt8.toNat (List.getD (Array.toList (ByteArray.data x0)) (Int.toNat x23) (0:UInt8))):Int)<48 then some ((-1)) else (if 0≤x23 then (if x23<(↑(ByteArray.size x0):Int) then (if (↑(UInt8.toNat (List.getD (Array.toList (ByteArray.data x0)) (Int.toNat x23) (0:UInt8))):Int) > 57 then some ((-1)) else (if 0≤x23 then (if x23<(↑(ByteArray.size x0):Int) then zf19.l5 n m5 (x0) (Go.RowKit.wrap64 (Go.RowKit.wrap64 (x3*10)+Go.RowKit.wrap64 (((↑(UInt8.toNat (List.getD (Array.toList (ByteArray.data x0)) (Int.toNat x23) (0:UInt8))):Int)-48) % 256))) (x22) (Go.RowKit.wrap64 (x23+1)) else none) else none)) else none) else none)) else none) else none)) else ((zf25 n x3).bind fun y0=>(if y0=x0 then some (x3) else some ((-1))))):=by kernel_rfl
noncomputable abbrev zf19.sg (n:Nat):Sig:=⟨zf19.ps,zf19.res,zf19 n⟩
theorem zf19.call:Callable Tryz.prog 120:=⟨Tryz.f120,Tryz.func120,by kernel_rfl,by kernel_rfl⟩
theorem zf19.ok (n:Nat):FC Tryz.prog [g2] 120 (zf19.sg n):=
  evalF_ok (C:=zf19.C) ⟨tb_ok,fun n _ _ h=>tabOk (l:=[(13,(zf25.sg n))]) (all_cons ⟨zf25.ok n,zf25.call⟩ (all_nil)) h,mixed,ar_ok,bld_ok,pts_ok⟩ zf19.A Tryz.func120 zf19.ps zf19.res n
abbrev zf39.ps:List Pm:=[.arg (.v (.int .i64)),.arg (.v (.slice .str))]
abbrev zf39.res:List M:=[.v zt1]
noncomputable def zf39.C:Cfg:={ tb:=tb,tab:=fun n f=>Refl.look [(119,(zf48.sg n)),(93,(zf40.sg n)),(120,(zf19.sg n))] f,gl:=[g2,g3,g4],ar:=ar,bld:=bld,pts:=pts }
noncomputable def zf39.A:Ann:={ joins:=[],loops:=[(17,{ live:=[4,5,53,54,55],base:=68,growB:=[(5,4,96,(.int .i64),3)] })],ids:=[(7,[(18,[]),(19,[]),(21,[]),(22,[])]),(9,[(27,[]),(28,[])]),(12,[(34,[]),(35,[])]),(14,[(41,[]),(42,[])]),(19,[(62,[]),(63,[])])],pids:=[],nroots:=132 }
noncomputable def zf39 (n:Nat) (x:Int × List ByteArray):Option zt14:=evalF zf39.C zf39.A Tryz.f80 zf39.ps zf39.res n x
noncomputable def zf39.K0 (_:Nat):Kont zt14:=finK zf39.C (Func.results Tryz.f80).toList zf39.ps zf39.res
noncomputable def zf39.K1 (n:Nat):Kont zt14:=seqK (fun s' k=>joinE zf39.A.joins (codeAt Tryz.f80 [1,1,1,1,1,1,1]) (fun s''=>evalC zf39.C zf39.A n (codeAt Tryz.f80 [1,1,1,1,1,1,1]) s'' k) s') (zf39.K0 n)
noncomputable def zf39.K2 (n:Nat):Kont zt14:=blockK 1 (zf39.K1 n)
noncomputable def zf39.K3 (n:Nat):Kont zt14:=blockK 2 (zf39.K2 n)
noncomputable def zf39.l17 (n m17:Nat) (x53:List ByteArray) (x54 x55:Int) (r68_0 r68_1:Int) (r68_2 r68_3:Int) (r68_5 r68_6:Int) (r69_0 r69_1:Int) (r69_2 r69_3:Int) (r69_5 r69_6:Int) (r70:List Int):Option zt14:=loopE (cutAt zf39.A.loops (codeAt Tryz.f80 [1,1,1,1,1,1,0,0,1,1,1,0,1,0,0])) (fun s k=>evalC zf39.C zf39.A n (codeAt Tryz.f80 [1,1,1,1,1,1,0,0,1,1,1,0,1,0,0]) s k) m17 (St.of 68 132 [(4,.ptr 68 0 0),(5,.ptr 69 0 0),(53,.val (.slice .str) x53),(54,.val (.int .i64) x54),(55,.val (.int .i64) x55)] [(68,.box 72 [.val (.int .i64) r68_0,.val (.int .i64) r68_1,.val (.int .i64) r68_2,.val (.int .i64) r68_3,.nils,.val (.int .i64) r68_5,.val (.int .i64) r68_6]),(69,.box 72 [.val (.int .i64) r69_0,.val (.int .i64) r69_1,.val (.int .i64) r69_2,.val (.int .i64) r69_3,.own 70,.val (.int .i64) r69_5,.val (.int .i64) r69_6]),(70,.row (.int .i64) 3 r70)] []) (zf39.K3 n)
theorem zf39.eq (n:Nat) (x0:Int) (x1:List ByteArray):zf39 n (x0,x1)=(if x0=0 then (if x0=0 then some ((x0,0,0,0,[],0,0)) else (if x0=6 then ((zf48 n (x1,1)).bind fun y0=>((zf40 n (y0,1000)).bind fun y1=>((zf48 n (x1,2)).bind fun y2=>((zf40 n (y2,1000)).bind fun y3=>some ((x0,0,0,0,[],y1,y3)))))) else ((zf48 n (x1,1)).bind fun y4=>((zf40 n (y4,99)).bind fun y5=>(if x0=5 then some ((x0,y5,0,0,[],0,0)) else ((zf48 n (x1,2)).bind fun y6=>((zf19 n y6).bind fun y7=>(if x0=4 then ((zf48 n (x1,3)).bind fun y8=>((zf19 n y8).bind fun y9=>some ((x0,y5,y7,y9,[],0,0)))) else (if x0=3 then (if (↑(List.length x1):Int) > 3 then (if 3≤(↑(List.length x1):Int) then zf39.l17 n n (List.drop (Int.toNat 3) x1) ((↑(List.length (List.drop (Int.toNat (3:Int)) x1)):Int)) (0) (0) (0) (0) (0) (0) (0) (x0) (y5) (y7) (0) (0) (0) ([]) else none) else some ((x0,y5,y7,0,[],0,0))) else some ((x0,y5,y7,0,[],0,0))))))))))) else (if x0=7 then some ((x0,0,0,0,[],0,0)) else (if x0=6 then ((zf48 n (x1,1)).bind fun y10=>((zf40 n (y10,1000)).bind fun y11=>((zf48 n (x1,2)).bind fun y12=>((zf40 n (y12,1000)).bind fun y13=>some ((x0,0,0,0,[],y11,y13)))))) else ((zf48 n (x1,1)).bind fun y14=>((zf40 n (y14,99)).bind fun y15=>(if x0=5 then some ((x0,y15,0,0,[],0,0)) else ((zf48 n (x1,2)).bind fun y16=>((zf19 n y16).bind fun y17=>(if x0=4 then ((zf48 n (x1,3)).bind fun y18=>((zf19 n y18).bind fun y19=>some ((x0,y15,y17,y19,[],0,0)))) else (if x0=3 then (if (↑(List.length x1):Int) > 3 then (if 3≤(↑(List.length x1):Int) then zf39.l17 n n (List.drop (Int.toNat 3) x1) ((↑(List.length (List.drop (Int.toNat (3:Int)) x1)):Int)) (0) (0) (0) (0) (0) (0) (0) (x0) (y15) (y17) (0) (0) (0) ([]) else none) else some ((x0,y15,y17,0,[],0,0))) else some ((x0,y15,y17,0,[],0,0)))))))))))):=by kernel_rfl
theorem zf39.l17_succ (n m17:Nat) (x53:List ByteArray) (x54 x55:Int) (r68_0 r68_1:Int) (r68_2 r68_3:Int) (r68_5 r68_6:Int) (r69_0 r69_1:Int) (r69_2 r69_3:Int) (r69_5 r69_6:Int) (r70:List Int):zf39.l17 n (m17+1) x53 x54 x55 r68_0 r68_1 r68_2 r68_3 r68_5 r68_6 r69_0 r69_1 r69_2 r69_3 r69_5 r69_6 r70=(if x55<x54 then (if 0≤x55 then (if x55<(↑(List.length x53):Int) then ((zf40 n (List.getD x53 (Int.toNat x55) ByteArray.empty,99)).bind fun y20=>(if List.length r70+List.length (List.set (List.replicate (1:Nat) (0:Int)) (0:Nat) y20)≤Go.Refl.maxN then zf39.l17 n m17 (x53) (x54) (Go.RowKit.wrap64 (x55+1)) (r68_0) (r68_1) (r68_2) (r68_3) (r68_5) (r68_6) (r69_0) (r69_1) (r69_2) (r69_3) (r69_5) (r69_6) (r70++List.set (List.replicate 1 0) 0 y20) else none)) else none) else none) else some ((r69_0,r69_1,r69_2,r69_3,r70,r69_5,r69_6))):=by kernel_rfl
noncomputable abbrev zf39.sg (n:Nat):Sig:=⟨zf39.ps,zf39.res,zf39 n⟩
theorem zf39.call:Callable Tryz.prog 80:=⟨Tryz.f80,Tryz.func80,by kernel_rfl,by kernel_rfl⟩
theorem zf39.ok (n:Nat):FC Tryz.prog [g2,g3,g4] 80 (zf39.sg n):=
  evalF_ok (C:=zf39.C) ⟨tb_ok,fun n _ _ h=>tabOk (l:=[(119,(zf48.sg n)),(93,(zf40.sg n)),(120,(zf19.sg n))]) (all_cons ⟨(.mono (gl:=[]) (gl':=[g2,g3,g4]) (all_nil) (zf48.ok n)),zf48.call⟩ (all_cons ⟨zf40.ok n,zf40.call⟩ (all_cons ⟨(.mono (gl:=[g2]) (gl':=[g2,g3,g4]) (all_cons (.head _) (all_nil)) (zf19.ok n)),zf19.call⟩ (all_nil)))) h,mixed,ar_ok,bld_ok,pts_ok⟩ zf39.A Tryz.func80 zf39.ps zf39.res n
abbrev zf29.ps:List Pm:=[.arg (.v zt16)]
abbrev zf29.res:List M:=[.v .bool]
noncomputable def zf29.C:Cfg:={ tb:=tb,tab:=fun n f=>Refl.look [] f,gl:=[],ar:=ar,bld:=bld,pts:=pts }
noncomputable def zf29.A:Ann:={ joins:=[],loops:=[],ids:=[],pids:=[],nroots:=87 }
noncomputable def zf29 (n:Nat) (x:Int × Int):Option (Bool):=evalF zf29.C zf29.A Tryz.f141 zf29.ps zf29.res n x
theorem zf29.eq (n:Nat) (x0:Int × Int):zf29 n x0=(if x0.2≥1 then (if x0.2≤1000 then (if x0.1≥0 then some (Decidable.decide (x0.1≤x0.2)) else some (Bool.false)) else some (Bool.false)) else some (Bool.false)):=by kernel_rfl
noncomputable abbrev zf29.sg (n:Nat):Sig:=⟨zf29.ps,zf29.res,zf29 n⟩
theorem zf29.call:Callable Tryz.prog 141:=⟨Tryz.f141,Tryz.func141,by kernel_rfl,by kernel_rfl⟩
theorem zf29.ok (n:Nat):FC Tryz.prog [] 141 (zf29.sg n):=
  evalF_ok (C:=zf29.C) ⟨tb_ok,fun n _ _ h=>tabOk (l:=[]) (all_nil) h,mixed,ar_ok,bld_ok,pts_ok⟩ zf29.A Tryz.func141 zf29.ps zf29.res n
abbrev zf143.ps:List Pm:=wsPs 58 5
abbrev zf143.res:List M:=wsRes
noncomputable def zf143 (n:Nat):List Int × ByteArray→Option (Int × List Int × List Int):=wsRun
noncomputable abbrev zf143.sg (n:Nat):Sig:=⟨zf143.ps,zf143.res,zf143 n⟩
theorem zf143.call:Callable Tryz.prog 25:=⟨Tryz.f25,Tryz.func25,by kernel_rfl,by kernel_rfl⟩
theorem zf143.ok (n:Nat):FC Tryz.prog [] 25 (zf143.sg n):=ws_FC Tryz.wsL Tryz.wsX
abbrev zf142.ps:List Pm:=stPs 58 5
abbrev zf142.res:List M:=stRes
noncomputable def zf142 (n:Nat):List Int→Option ByteArray:=stRun
noncomputable abbrev zf142.sg (n:Nat):Sig:=⟨zf142.ps,zf142.res,zf142 n⟩
theorem zf142.call:Callable Tryz.prog 27:=⟨Tryz.f27,Tryz.func27,by kernel_rfl,by kernel_rfl⟩
theorem zf142.ok (n:Nat):FC Tryz.prog [] 27 (zf142.sg n):=st_FC Tryz.lays169 Tryz.Builder_Extra_169
end Go.Proofs.YtbgamdkmlikgjaaGreatDoorG
end
