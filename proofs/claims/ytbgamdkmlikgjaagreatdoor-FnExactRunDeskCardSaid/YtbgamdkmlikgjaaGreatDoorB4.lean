import Derived.Test.YtbgamdkmlikgjaaGreatDoorB3
/- FnExactRunDesk: functions,gone through by the small machine. No condition. -/
set_option linter.unusedVariables false
set_option linter.unusedSimpArgs false
section
open Go Go.Refl Go.Proofs
set_option maxRecDepth 1000000
set_option maxHeartbeats 0
set_option linter.unusedVariables false
namespace Go.Proofs.YtbgamdkmlikgjaaGreatDoorG
abbrev zf43.ps:List Pm:=[.arg (.v (.slice (.int .i64)))]
abbrev zf43.res:List M:=[.v .str,.v .bool]
noncomputable def zf43.C:Cfg:={ tb:=tb,tab:=fun n f=>Refl.look [(42,(zf141.sg n)),(25,(zf143.sg n)),(27,(zf142.sg n))] f,gl:=[g2],ar:=ar,bld:=bld,pts:=pts }
noncomputable def zf43.A:Ann:={ joins:=[],loops:=[(3,{ live:=[4,7,8,9],base:=25 })],ids:=[(1,[(4,[4,40])]),(7,[(20,[]),(22,[22])]),(9,[(24,[])])],pids:=[],nroots:=89 }
noncomputable def zf43 (n:Nat) (x:List Int):Option (ByteArray × Bool):=evalF zf43.C zf43.A Tryz.f150 zf43.ps zf43.res n x
noncomputable def zf43.K0 (_:Nat):Kont (ByteArray × Bool):=finK zf43.C (Func.results Tryz.f150).toList zf43.ps zf43.res
noncomputable def zf43.K1 (n:Nat):Kont (ByteArray × Bool):=seqK (fun s' k=>joinE zf43.A.joins (codeAt Tryz.f150 [1,1,1]) (fun s''=>evalC zf43.C zf43.A n (codeAt Tryz.f150 [1,1,1]) s'' k) s') (zf43.K0 n)
noncomputable def zf43.K2 (n:Nat):Kont (ByteArray × Bool):=blockK 0 (zf43.K1 n)
noncomputable def zf43.l3 (n m3:Nat) (x7:List Int) (x8 x9:Int) (r26:List Int):Option (ByteArray × Bool):=loopE (cutAt zf43.A.loops (codeAt Tryz.f150 [1,1,0,1,0,0])) (fun s k=>evalC zf43.C zf43.A n (codeAt Tryz.f150 [1,1,0,1,0,0]) s k) m3 (St.of 25 89 [(4,.ptr 25 0 0),(7,.val (.slice (.int .i64)) x7),(8,.val (.int .i64) x8),(9,.val (.int .i64) x9)] [(25,.box 58 [.optr 25,.own 26]),(26,.row (.int .u8) 5 r26)] []) (zf43.K2 n)
theorem zf43.eq (n:Nat) (x0:List Int):zf43 n x0=zf43.l3 n n (x0) ((↑(List.length x0):Int)) (0) ([]):=by kernel_rfl
theorem zf43.l3_succ (n m3:Nat) (x7:List Int) (x8 x9:Int) (r26:List Int):zf43.l3 n (m3+1) x7 x8 x9 r26=(if x9<x8 then (if 0≤x9 then (if x9<(↑(List.length x7):Int) then (if List.getD x7 (Int.toNat x9) 0<0 then some (({ data:=#[] },Bool.false)) else (if List.getD x7 (Int.toNat x9) 0 > 99 then some (({ data:=#[] },Bool.false)) else ((zf141 n (List.getD x7 (Int.toNat x9) 0)).bind fun y0=>(if ByteArray.size { data:=#[(32:UInt8)] }+ByteArray.size y0≤Go.Refl.maxN then ((zf143 n (r26,{ data:=#[(32:UInt8)] }++y0)).bind fun y1=>zf43.l3 n m3 (x7) (x8) (Go.RowKit.wrap64 (x9+1)) y1.2.2) else none)))) else none) else none) else ((zf142 n r26).bind fun y2=>some ((y2,Bool.true)))):=by kernel_rfl
noncomputable abbrev zf43.sg (n:Nat):Sig:=⟨zf43.ps,zf43.res,zf43 n⟩
theorem zf43.call:Callable Tryz.prog 150:=⟨Tryz.f150,Tryz.func150,by kernel_rfl,by kernel_rfl⟩
theorem zf43.ok (n:Nat):FC Tryz.prog [g2] 150 (zf43.sg n):=
  evalF_ok (C:=zf43.C) ⟨tb_ok,fun n _ _ h=>tabOk (l:=[(42,(zf141.sg n)),(25,(zf143.sg n)),(27,(zf142.sg n))]) (all_cons ⟨zf141.ok n,zf141.call⟩ (all_cons ⟨(.mono (gl:=[]) (gl':=[g2]) (all_nil) (zf143.ok n)),zf143.call⟩ (all_cons ⟨(.mono (gl:=[]) (gl':=[g2]) (all_nil) (zf142.ok n)),zf142.call⟩ (all_nil)))) h,mixed,ar_ok,bld_ok,pts_ok⟩ zf43.A Tryz.func150 zf43.ps zf43.res n
abbrev zf41.ps:List Pm:=[.arg (.v (.slice (.int .i64)))]
abbrev zf41.res:List M:=[.v .str,.v .bool]
noncomputable def zf41.C:Cfg:={ tb:=tb,tab:=fun n f=>Refl.look [(13,(zf25.sg n))] f,gl:=[g2],ar:=ar,bld:=bld,pts:=pts }
noncomputable def zf41.A:Ann:={ joins:=[],loops:=[(3,{ live:=[4,8,9,10],base:=24 })],ids:=[(5,[(15,[])])],pids:=[],nroots:=88 }
noncomputable def zf41 (n:Nat) (x:List Int):Option (ByteArray × Bool):=evalF zf41.C zf41.A Tryz.f151 zf41.ps zf41.res n x
noncomputable def zf41.K0 (_:Nat):Kont (ByteArray × Bool):=finK zf41.C (Func.results Tryz.f151).toList zf41.ps zf41.res
noncomputable def zf41.K1 (n:Nat):Kont (ByteArray × Bool):=seqK (fun s' k=>joinE zf41.A.joins (codeAt Tryz.f151 [1,1,1]) (fun s''=>evalC zf41.C zf41.A n (codeAt Tryz.f151 [1,1,1]) s'' k) s') (zf41.K0 n)
noncomputable def zf41.K2 (n:Nat):Kont (ByteArray × Bool):=blockK 0 (zf41.K1 n)
noncomputable def zf41.l3 (n m3:Nat) (x4:ByteArray) (x8:List Int) (x9 x10:Int):Option (ByteArray × Bool):=loopE (cutAt zf41.A.loops (codeAt Tryz.f151 [1,1,0,1,0,0])) (fun s k=>evalC zf41.C zf41.A n (codeAt Tryz.f151 [1,1,0,1,0,0]) s k) m3 (St.of 24 88 [(4,.val .str x4),(8,.val (.slice (.int .i64)) x8),(9,.val (.int .i64) x9),(10,.val (.int .i64) x10)] [] []) (zf41.K2 n)
theorem zf41.eq (n:Nat) (x0:List Int):zf41 n x0=zf41.l3 n n ({ data:=#[] }) (x0) ((↑(List.length x0):Int)) (0):=by kernel_rfl
theorem zf41.l3_succ (n m3:Nat) (x4:ByteArray) (x8:List Int) (x9 x10:Int):zf41.l3 n (m3+1) x4 x8 x9 x10=(if x10<x9 then (if 0≤x10 then (if x10<(↑(List.length x8):Int) then ((zf25 n (List.getD x8 (Int.toNat x10) 0)).bind fun y0=>(if y0={ data:=#[] } then some (({ data:=#[] },Bool.false)) else (if ByteArray.size { data:=#[(32:UInt8)] }+ByteArray.size y0≤Go.Refl.maxN then (if ByteArray.size x4+ByteArray.size ({ data:=#[(32:UInt8)] }++y0)≤Go.Refl.maxN then zf41.l3 n m3 (x4++({ data:=#[(32:UInt8)] }++y0)) (x8) (x9) (Go.RowKit.wrap64 (x10+1)) else none) else none))) else none) else none) else some ((x4,Bool.true))):=by kernel_rfl
noncomputable abbrev zf41.sg (n:Nat):Sig:=⟨zf41.ps,zf41.res,zf41 n⟩
theorem zf41.call:Callable Tryz.prog 151:=⟨Tryz.f151,Tryz.func151,by kernel_rfl,by kernel_rfl⟩
theorem zf41.ok (n:Nat):FC Tryz.prog [g2] 151 (zf41.sg n):=
  evalF_ok (C:=zf41.C) ⟨tb_ok,fun n _ _ h=>tabOk (l:=[(13,(zf25.sg n))]) (all_cons ⟨zf25.ok n,zf25.call⟩ (all_nil)) h,mixed,ar_ok,bld_ok,pts_ok⟩ zf41.A Tryz.func151 zf41.ps zf41.res n
abbrev zf42.ps:List Pm:=[.arg (.v zt1)]
abbrev zf42.res:List M:=[.v .str,.v .bool]
noncomputable def zf42.C:Cfg:={ tb:=tb,tab:=fun n f=>Refl.look [(42,(zf141.sg n)),(141,(zf29.sg n)),(150,(zf43.sg n)),(151,(zf41.sg n))] f,gl:=[g2],ar:=ar,bld:=bld,pts:=pts }
noncomputable def zf42.A:Ann:={ joins:=[],loops:=[],ids:=[(6,[(22,[]),(28,[]),(32,[])]),(7,[(36,[]),(37,[])]),(10,[(48,[]),(49,[])]),(13,[(59,[]),(60,[])]),(16,[(80,[])])],pids:=[],nroots:=166 }
noncomputable def zf42 (n:Nat) (x:Int × Int × Int × Int × List Int × Int × Int):Option (ByteArray × Bool):=evalF zf42.C zf42.A Tryz.f121 zf42.ps zf42.res n x
theorem zf42.eq (n:Nat) (x0:Int × Int × Int × Int × List Int × Int × Int):zf42 n x0=(if x0.1=0 then (if x0.1=0 then some (({ data:=#[] },Bool.true)) else (if x0.1=6 then ((zf141 n x0.2.2.2.2.2.1).bind fun y0=>(if ByteArray.size { data:=#[(32:UInt8)] }+ByteArray.size y0≤Go.Refl.maxN then (if ByteArray.size ({ data:=#[(32:UInt8)] }++y0)+ByteArray.size { data:=#[(32:UInt8)] }≤Go.Refl.maxN then ((zf141 n x0.2.2.2.2.2.2).bind fun y1=>(if ByteArray.size ({ data:=#[(32:UInt8)] }++y0++{ data:=#[(32:UInt8)] })+ByteArray.size y1≤Go.Refl.maxN then ((zf29 n (x0.2.2.2.2.2.1,x0.2.2.2.2.2.2)).bind fun y2=>some (({ data:=#[(32:UInt8)] }++y0++{ data:=#[(32:UInt8)] }++y1,y2))) else none)) else none) else none)) else ((zf43 n (List.set (List.replicate 1 0) 0 x0.2.1)).bind fun y3=>(if x0.1=5 then some ((y3.1,y3.2)) else ((zf41 n (List.set (List.replicate 1 0) 0 x0.2.2.1)).bind fun y4=>(if x0.1=4 then ((zf41 n (List.set (List.replicate 1 0) 0 x0.2.2.2.1)).bind fun y5=>(if ByteArray.size y3.1+ByteArray.size y4.1≤Go.Refl.maxN then (if ByteArray.size (y3.1++y4.1)+ByteArray.size y5.1≤Go.Refl.maxN then (if y3.2=Bool.true then (if y4.2=Bool.true then some ((y3.1++y4.1++y5.1,y5.2)) else some ((y3.1++y4.1++y5.1,Bool.false))) else some ((y3.1++y4.1++y5.1,Bool.false))) else none) else none)) else (if x0.1=3 then ((zf43 n x0.2.2.2.2.1).bind fun y6=>(if ByteArray.size y3.1+ByteArray.size y4.1≤Go.Refl.maxN then (if ByteArray.size (y3.1++y4.1)+ByteArray.size y6.1≤Go.Refl.maxN then (if y3.2=Bool.true then (if y4.2=Bool.true then some ((y3.1++y4.1++y6.1,y6.2)) else some ((y3.1++y4.1++y6.1,Bool.false))) else some ((y3.1++y4.1++y6.1,Bool.false))) else none) else none)) else (if ByteArray.size y3.1+ByteArray.size y4.1≤Go.Refl.maxN then (if y3.2=Bool.true then some ((y3.1++y4.1,y4.2)) else some ((y3.1++y4.1,Bool.false))) else none)))))))) else (if x0.1=7 then some (({ data:=#[] },Bool.true)) else (if x0.1=6 then ((zf141 n x0.2.2.2.2.2.1).bind fun y7=>(if ByteArray.size { data:=#[(32:UInt8)] }+ByteArray.size y7≤Go.Refl.maxN then (if ByteArray.size ({ data:=#[(32:UInt8)] }++y7)+ByteArray.size { data:=#[(32:UInt8)] }≤Go.Refl.maxN then ((zf141 n x0.2.2.2.2.2.2).bind fun y8=>(if ByteArray.size ({ data:=#[(32:UInt8)] }++y7++{ data:=#[(32:UInt8)] })+ByteArray.size y8≤Go.Refl.maxN then ((zf29 n (x0.2.2.2.2.2.1,x0.2.2.2.2.2.2)).bind fun y9=>some (({ data:=#[(32:UInt8)] }++y7++{ data:=#[(32:UInt8)] }++y8,y9))) else none)) else none) else none)) else ((zf43 n (List.set (List.replicate 1 0) 0 x0.2.1)).bind fun y10=>(if x0.1=5 then some ((y10.1,y10.2)) else ((zf41 n (List.set (List.replicate 1 0) 0 x0.2.2.1)).bind fun y11=>(if x0.1=4 then ((zf41 n (List.set (List.replicate 1 0) 0 x0.2.2.2.1)).bind fun y12=>(if ByteArray.size y10.1+ByteArray.size y11.1≤Go.Refl.maxN then (if ByteArray.size (y10.1++y11.1)+ByteArray.size y12.1≤Go.Refl.maxN then (if y10.2=Bool.true then (if y11.2=Bool.true then some ((y10.1++y11.1++y12.1,y12.2)) else some ((y10.1++y11.1++y12.1,Bool.false))) else some ((y10.1++y11.1++y12.1,Bool.false))) else none) else none)) else (if x0.1=3 then ((zf43 n x0.2.2.2.2.1).bind fun y13=>(if ByteArray.size y10.1+ByteArray.size y11.1≤Go.Refl.maxN then (if ByteArray.size (y10.1++y11.1)+ByteArray.size y13.1≤Go.Refl.maxN then (if y10.2=Bool.true then (if y11.2=Bool.true then some ((y10.1++y11.1++y13.1,y13.2)) else some ((y10.1++y11.1++y13.1,Bool.false))) else some ((y10.1++y11.1++y13.1,Bool.false))) else none) else none)) else (if ByteArray.size y10.1+ByteArray.size y11.1≤Go.Refl.maxN then (if y10.2=Bool.true then some ((y10.1++y11.1,y11.2)) else some ((y10.1++y11.1,Bool.false))) else none))))))))):=by kernel_rfl
noncomputable abbrev zf42.sg (n:Nat):Sig:=⟨zf42.ps,zf42.res,zf42 n⟩
theorem zf42.call:Callable Tryz.prog 121:=⟨Tryz.f121,Tryz.func121,by kernel_rfl,by kernel_rfl⟩
theorem zf42.ok (n:Nat):FC Tryz.prog [g2] 121 (zf42.sg n):=
  evalF_ok (C:=zf42.C) ⟨tb_ok,fun n _ _ h=>tabOk (l:=[(42,(zf141.sg n)),(141,(zf29.sg n)),(150,(zf43.sg n)),(151,(zf41.sg n))]) (all_cons ⟨zf141.ok n,zf141.call⟩ (all_cons ⟨(.mono (gl:=[]) (gl':=[g2]) (all_nil) (zf29.ok n)),zf29.call⟩ (all_cons ⟨zf43.ok n,zf43.call⟩ (all_cons ⟨zf41.ok n,zf41.call⟩ (all_nil))))) h,mixed,ar_ok,bld_ok,pts_ok⟩ zf42.A Tryz.func121 zf42.ps zf42.res n
abbrev zf15.ps:List Pm:=[.arg (.v zt1)]
abbrev zf15.res:List M:=[.v .str]
noncomputable def zf15.C:Cfg:={ tb:=tb,tab:=fun n f=>Refl.look [(121,(zf42.sg n))] f,gl:=[g0,g2],ar:=ar,bld:=bld,pts:=pts }
noncomputable def zf15.A:Ann:={ joins:=[],loops:=[],ids:=[(3,[(15,[])])],pids:=[],nroots:=90 }
noncomputable def zf15 (n:Nat) (x:Int × Int × Int × Int × List Int × Int × Int):Option (ByteArray):=evalF zf15.C zf15.A Tryz.f81 zf15.ps zf15.res n x
theorem zf15.eq (n:Nat) (x0:Int × Int × Int × Int × List Int × Int × Int):zf15 n x0=(if x0.1<0 then some ({ data:=#[] }) else (if x0.1 > 7 then some ({ data:=#[] }) else ((zf42 n (x0.1,x0.2.1,x0.2.2.1,x0.2.2.2.1,x0.2.2.2.2.1,x0.2.2.2.2.2.1,x0.2.2.2.2.2.2)).bind fun y0=>(if (!y0.2)=true then some ({ data:=#[] }) else (if 0≤x0.1 then (if x0.1<(↑8:Int) then (if ByteArray.size (List.getD [{ data:=#[(106:UInt8),(111:UInt8),(105:UInt8),(110:UInt8)] },{ data:=#[(115:UInt8),(97:UInt8),(118:UInt8),(101:UInt8)] },{ data:=#[(116:UInt8),(97:UInt8),(107:UInt8),(101:UInt8)] },{ data:=#[(108:UInt8),(101:UInt8),(110:UInt8),(100:UInt8)] },{ data:=#[(114:UInt8),(101:UInt8),(112:UInt8),(97:UInt8),(121:UInt8)] },{ data:=#[(102:UInt8),(97:UInt8),(105:UInt8),(108:UInt8)] },{ data:=#[(110:UInt8),(105:UInt8),(103:UInt8),(104:UInt8),(116:UInt8)] },{ data:=#[(115:UInt8),(104:UInt8),(97:UInt8),(114:UInt8),(101:UInt8)] }] (Int.toNat x0.1) ByteArray.empty)+ByteArray.size y0.1≤Go.Refl.maxN then some (List.getD [{ data:=#[(106:UInt8),(111:UInt8),(105:UInt8),(110:UInt8)] },{ data:=#[(115:UInt8),(97:UInt8),(118:UInt8),(101:UInt8)] },{ data:=#[(116:UInt8),(97:UInt8),(107:UInt8),(101:UInt8)] },{ data:=#[(108:UInt8),(101:UInt8),(110:UInt8),(100:UInt8)] },{ data:=#[(114:UInt8),(101:UInt8),(112:UInt8),(97:UInt8),(121:UInt8)] },{ data:=#[(102:UInt8),(97:UInt8),(105:UInt8),(108:UInt8)] },{ data:=#[(110:UInt8),(105:UInt8),(103:UInt8),(104:UInt8),(116:UInt8)] },{ data:=#[(115:UInt8),(104:UInt8),(97:UInt8),(114:UInt8),(101:UInt8)] }] (Int.toNat x0.1) ByteArray.empty++y0.1) else none) else none) else none))))):=by kernel_rfl
noncomputable abbrev zf15.sg (n:Nat):Sig:=⟨zf15.ps,zf15.res,zf15 n⟩
theorem zf15.call:Callable Tryz.prog 81:=⟨Tryz.f81,Tryz.func81,by kernel_rfl,by kernel_rfl⟩
theorem zf15.ok (n:Nat):FC Tryz.prog [g0,g2] 81 (zf15.sg n):=
  evalF_ok (C:=zf15.C) ⟨tb_ok,fun n _ _ h=>tabOk (l:=[(121,(zf42.sg n))]) (all_cons ⟨(.mono (gl:=[g2]) (gl':=[g0,g2]) (all_cons (.tail _ (.head _)) (all_nil)) (zf42.ok n)),zf42.call⟩ (all_nil)) h,mixed,ar_ok,bld_ok,pts_ok⟩ zf15.A Tryz.func81 zf15.ps zf15.res n
abbrev zf17.ps:List Pm:=[.arg (.v .str)]
abbrev zf17.res:List M:=[.v zt1,.v .bool]
noncomputable def zf17.C:Cfg:={ tb:=tb,tab:=fun n f=>Refl.look [(79,(zf148.sg n)),(80,(zf39.sg n)),(81,(zf15.sg n))] f,gl:=[g0,g2,g3,g4],ar:=ar,bld:=bld,pts:=pts }
noncomputable def zf17.A:Ann:={ joins:=[],loops:=[(3,{ live:=[0,2,4,10,11],base:=31 })],ids:=[(6,[(22,[])]),(7,[(24,[])])],pids:=[],nroots:=95 }
noncomputable def zf17 (n:Nat) (x:ByteArray):Option zt11:=evalF zf17.C zf17.A Tryz.f39 zf17.ps zf17.res n x
noncomputable def zf17.K0 (_:Nat):Kont zt11:=finK zf17.C (Func.results Tryz.f39).toList zf17.ps zf17.res
noncomputable def zf17.K1 (n:Nat):Kont zt11:=seqK (fun s' k=>joinE zf17.A.joins (codeAt Tryz.f39 [1,1,1]) (fun s''=>evalC zf17.C zf17.A n (codeAt Tryz.f39 [1,1,1]) s'' k) s') (zf17.K0 n)
noncomputable def zf17.K2 (n:Nat):Kont zt11:=blockK 0 (zf17.K1 n)
noncomputable def zf17.l3 (n m3:Nat) (x0:ByteArray) (x10:List ByteArray) (x11 r31_0:Int) (r31_1 r31_2:Int) (r31_3 r31_5 r31_6:Int) (r32:List ByteArray):Option zt11:=loopE (cutAt zf17.A.loops (codeAt Tryz.f39 [1,1,0,1,0,0])) (fun s k=>evalC zf17.C zf17.A n (codeAt Tryz.f39 [1,1,0,1,0,0]) s k) m3 (St.of 31 95 [(0,.val .str x0),(2,.ptr 31 0 0),(4,.own 32),(10,.garr .str x10),(11,.val (.int .i64) x11)] [(31,.box 72 [.val (.int .i64) r31_0,.val (.int .i64) r31_1,.val (.int .i64) r31_2,.val (.int .i64) r31_3,.nils,.val (.int .i64) r31_5,.val (.int .i64) r31_6]),(32,.row .str 9 r32)] []) (zf17.K2 n)
theorem zf17.eq (n:Nat) (x0:ByteArray):zf17 n x0=((zf148 n (x0,{ data:=#[(32:UInt8)] })).bind fun y0=>zf17.l3 n n (x0) ([{ data:=#[(106:UInt8),(111:UInt8),(105:UInt8),(110:UInt8)] },{ data:=#[(115:UInt8),(97:UInt8),(118:UInt8),(101:UInt8)] },{ data:=#[(116:UInt8),(97:UInt8),(107:UInt8),(101:UInt8)] },{ data:=#[(108:UInt8),(101:UInt8),(110:UInt8),(100:UInt8)] },{ data:=#[(114:UInt8),(101:UInt8),(112:UInt8),(97:UInt8),(121:UInt8)] },{ data:=#[(102:UInt8),(97:UInt8),(105:UInt8),(108:UInt8)] },{ data:=#[(110:UInt8),(105:UInt8),(103:UInt8),(104:UInt8),(116:UInt8)] },{ data:=#[(115:UInt8),(104:UInt8),(97:UInt8),(114:UInt8),(101:UInt8)] }]) (0) (0) (0) (0) (0) (0) (0) (y0)):=by kernel_rfl
theorem zf17.l3_succ (n m3:Nat) (x0:ByteArray) (x10:List ByteArray) (x11 r31_0:Int) (r31_1 r31_2:Int) (r31_3 r31_5 r31_6:Int) (r32:List ByteArray):zf17.l3 n (m3+1) x0 x10 x11 r31_0 r31_1 r31_2 r31_3 r31_5 r31_6 r32=(if x11<8 then (if List.length x10=8 then (if 0≤x11 then (if x11<(↑8:Int) then (if 0<(↑(List.length r32):Int) then (if List.getD r32 0 ByteArray.empty=List.getD x10 (Int.toNat x11) ByteArray.empty then ((zf39 n (x11,r32)).bind fun y1=>((zf15 n (y1.1,y1.2.1,y1.2.2.1,y1.2.2.2.1,y1.2.2.2.2.1,y1.2.2.2.2.2.1,y1.2.2.2.2.2.2)).bind fun y2=>(if y2=x0 then some (((y1.1,y1.2.1,y1.2.2.1,y1.2.2.2.1,y1.2.2.2.2.1,y1.2.2.2.2.2.1,y1.2.2.2.2.2.2),Bool.true)) else some (((0,0,0,0,[],0,0),Bool.false))))) else zf17.l3 n m3 (x0) (x10) (Go.RowKit.wrap64 (x11+1)) (r31_0) (r31_1) (r31_2) (r31_3) (r31_5) (r31_6) (r32)) else none) else none) else none) else none) else some (((0,0,0,0,[],0,0),Bool.false))):=by kernel_rfl
noncomputable abbrev zf17.sg (n:Nat):Sig:=⟨zf17.ps,zf17.res,zf17 n⟩
theorem zf17.call:Callable Tryz.prog 39:=⟨Tryz.f39,Tryz.func39,by kernel_rfl,by kernel_rfl⟩
theorem zf17.ok (n:Nat):FC Tryz.prog [g0,g2,g3,g4] 39 (zf17.sg n):=
  evalF_ok (C:=zf17.C) ⟨tb_ok,fun n _ _ h=>tabOk (l:=[(79,(zf148.sg n)),(80,(zf39.sg n)),(81,(zf15.sg n))]) (all_cons ⟨(.mono (gl:=[]) (gl':=[g0,g2,g3,g4]) (all_nil) (zf148.ok n)),zf148.call⟩ (all_cons ⟨(.mono (gl:=[g2,g3,g4]) (gl':=[g0,g2,g3,g4]) (all_cons (.tail _ (.head _)) (all_cons (.tail _ (.tail _ (.head _))) (all_cons (.tail _ (.tail _ (.tail _ (.head _)))) (all_nil)))) (zf39.ok n)),zf39.call⟩ (all_cons ⟨(.mono (gl:=[g0,g2]) (gl':=[g0,g2,g3,g4]) (all_cons (.head _) (all_cons (.tail _ (.head _)) (all_nil))) (zf15.ok n)),zf15.call⟩ (all_nil)))) h,mixed,ar_ok,bld_ok,pts_ok⟩ zf17.A Tryz.func39 zf17.ps zf17.res n
abbrev zf20.ps:List Pm:=[.arg (.v .str)]
abbrev zf20.res:List M:=[(.own zt1 72)]
noncomputable def zf20.C:Cfg:={ tb:=tb,tab:=fun n f=>Refl.look [(38,(zf145.sg n)),(39,(zf17.sg n))] f,gl:=[g0,g2,g3,g4],ar:=ar,bld:=bld,pts:=pts }
noncomputable def zf20.A:Ann:={ joins:=[],loops:=[(2,{ live:=[0,3],base:=33,grow:=[(3,52,zt1,72)] })],ids:=[(3,[(14,[])]),(5,[(22,[])]),(7,[(29,[])])],pids:=[],nroots:=97 }
noncomputable def zf20 (n:Nat) (x:ByteArray):Option zt12:=evalF zf20.C zf20.A Tryz.f11 zf20.ps zf20.res n x
noncomputable def zf20.K0 (_:Nat):Kont zt12:=finK zf20.C (Func.results Tryz.f11).toList zf20.ps zf20.res
noncomputable def zf20.K1 (n:Nat):Kont zt12:=seqK (fun s' k=>joinE zf20.A.joins (codeAt Tryz.f11 [1,1,1]) (fun s''=>evalC zf20.C zf20.A n (codeAt Tryz.f11 [1,1,1]) s'' k) s') (zf20.K0 n)
noncomputable def zf20.K2 (n:Nat):Kont zt12:=blockK 0 (zf20.K1 n)
noncomputable def zf20.l2 (n m2:Nat) (x0:ByteArray) (r33:List zt14):Option zt12:=loopE (cutAt zf20.A.loops (codeAt Tryz.f11 [1,1,0,0,0])) (fun s k=>evalC zf20.C zf20.A n (codeAt Tryz.f11 [1,1,0,0,0]) s k) m2 (St.of 33 97 [(0,.val .str x0),(3,.own 33)] [(33,.row zt1 72 r33)] []) (zf20.K2 n)
theorem zf20.eq (n:Nat) (x0:ByteArray):zf20 n x0=zf20.l2 n n (x0) ([]):=by kernel_rfl
theorem zf20.l2_succ (n m2:Nat) (x0:ByteArray) (r33:List zt14):zf20.l2 n (m2+1) x0 r33=(if (↑(List.length r33):Int)<30 then ((zf145 n (x0,{ data:=#[(10:UInt8)] })).bind fun y0=>(if (!y0.2.2)=true then some (r33) else ((zf17 n y0.1).bind fun y1=>(if (!y1.2)=true then some (r33) else (if List.length r33+List.length (List.set (List.replicate (1:Nat) ((0:Int),(0:Int),(0:Int),(0:Int),[],(0:Int),(0:Int))) (0:Nat) (y1.1.1,y1.1.2.1,y1.1.2.2.1,y1.1.2.2.2.1,y1.1.2.2.2.2.1,y1.1.2.2.2.2.2.1,y1.1.2.2.2.2.2.2))≤Go.Refl.maxN then zf20.l2 n m2 y0.2.1 (r33++List.set (List.replicate 1 (0,0,0,0,[],0,0)) 0 (y1.1.1,y1.1.2.1,y1.1.2.2.1,y1.1.2.2.2.1,y1.1.2.2.2.2.1,y1.1.2.2.2.2.2.1,y1.1.2.2.2.2.2.2)) else none))))) else some (r33)):=by kernel_rfl
noncomputable abbrev zf20.sg (n:Nat):Sig:=⟨zf20.ps,zf20.res,zf20 n⟩
theorem zf20.call:Callable Tryz.prog 11:=⟨Tryz.f11,Tryz.func11,by kernel_rfl,by kernel_rfl⟩
theorem zf20.ok (n:Nat):FC Tryz.prog [g0,g2,g3,g4] 11 (zf20.sg n):=
  evalF_ok (C:=zf20.C) ⟨tb_ok,fun n _ _ h=>tabOk (l:=[(38,(zf145.sg n)),(39,(zf17.sg n))]) (all_cons ⟨(.mono (gl:=[]) (gl':=[g0,g2,g3,g4]) (all_nil) (zf145.ok n)),zf145.call⟩ (all_cons ⟨zf17.ok n,zf17.call⟩ (all_nil))) h,mixed,ar_ok,bld_ok,pts_ok⟩ zf20.A Tryz.func11 zf20.ps zf20.res n
abbrev zf72.ps:List Pm:=[.arg (.v (.slice (.int .i64)))]
abbrev zf72.res:List M:=[(.own (.int .i64) 3)]
noncomputable def zf72.C:Cfg:={ tb:=tb,tab:=fun n f=>Refl.look [] f,gl:=[],ar:=ar,bld:=bld,pts:=pts }
noncomputable def zf72.A:Ann:={ joins:=[],loops:=[],ids:=[],pids:=[],nroots:=72 }
noncomputable def zf72 (n:Nat) (x:List Int):Option (List Int):=evalF zf72.C zf72.A Tryz.f75 zf72.ps zf72.res n x
theorem zf72.eq (n:Nat) (x0:List Int):zf72 n x0=(if Int.toNat (↑(List.length x0):Int)=0 then Go.Refl.both (some ([])) ((if List.length (List.replicate (0:Nat) (0:Int))+List.length x0≤Go.Refl.maxN then some (List.replicate 0 0++x0) else none)) else (if List.length (List.replicate (0:Nat) (0:Int))+List.length x0≤Go.Refl.maxN then some (List.replicate 0 0++x0) else none)):=by kernel_rfl
noncomputable abbrev zf72.sg (n:Nat):Sig:=⟨zf72.ps,zf72.res,zf72 n⟩
theorem zf72.call:Callable Tryz.prog 75:=⟨Tryz.f75,Tryz.func75,by kernel_rfl,by kernel_rfl⟩
theorem zf72.ok (n:Nat):FC Tryz.prog [] 75 (zf72.sg n):=
  evalF_ok (C:=zf72.C) ⟨tb_ok,fun n _ _ h=>tabOk (l:=[]) (all_nil) h,mixed,ar_ok,bld_ok,pts_ok⟩ zf72.A Tryz.func75 zf72.ps zf72.res n
abbrev zf34.ps:List Pm:=[.arg (.v (.slice zt8))]
abbrev zf34.res:List M:=[(.own zt8 100)]
noncomputable def zf34.C:Cfg:={ tb:=tb,tab:=fun n f=>Refl.look [(75,{ params:=zf72.ps,res:=[.v (.slice (.int .i64))],run:=zf72 n })] f,gl:=[],ar:=ar,bld:=bld,pts:=pts }
noncomputable def zf34.A:Ann:={ joins:=[],loops:=[(3,{ live:=[3,6,7,8],base:=22,grow:=[(3,41,zt8,100)] })],ids:=[(5,[(14,[])]),(6,[(18,[])])],pids:=[],nroots:=86 }
noncomputable def zf34 (n:Nat) (x:List zt19):Option zt17:=evalF zf34.C zf34.A Tryz.f76 zf34.ps zf34.res n x
noncomputable def zf34.K0 (_:Nat):Kont zt17:=finK zf34.C (Func.results Tryz.f76).toList zf34.ps zf34.res
noncomputable def zf34.K1 (n:Nat):Kont zt17:=seqK (fun s' k=>joinE zf34.A.joins (codeAt Tryz.f76 [1,1,1]) (fun s''=>evalC zf34.C zf34.A n (codeAt Tryz.f76 [1,1,1]) s'' k) s') (zf34.K0 n)
noncomputable def zf34.K2 (n:Nat):Kont zt17:=blockK 0 (zf34.K1 n)
noncomputable def zf34.l3 (n m3:Nat) (x6:List zt19) (x7 x8:Int) (r22:List zt19):Option zt17:=loopE (cutAt zf34.A.loops (codeAt Tryz.f76 [1,1,0,1,0,0])) (fun s k=>evalC zf34.C zf34.A n (codeAt Tryz.f76 [1,1,0,1,0,0]) s k) m3 (St.of 22 86 [(3,.own 22),(6,.val (.slice zt8) x6),(7,.val (.int .i64) x7),(8,.val (.int .i64) x8)] [(22,.row zt8 100 r22)] []) (zf34.K2 n)
theorem zf34.eq (n:Nat) (x0:List zt19):zf34 n x0=zf34.l3 n n (x0) ((↑(List.length x0):Int)) (0) ([]):=by kernel_rfl
theorem zf34.l3_succ (n m3:Nat) (x6:List zt19) (x7 x8:Int) (r22:List zt19):zf34.l3 n (m3+1) x6 x7 x8 r22=(if x8<x7 then (if 0≤x8 then (if x8<(↑(List.length x6):Int) then ((zf72 n (Prod.snd (Prod.snd (List.getD x6 (Int.toNat x8) (0,0,[]))))).bind fun y0=>(if List.length r22+List.length (List.set (List.replicate (1:Nat) ((0:Int),(0:Int),[])) (0:Nat) (Prod.fst (List.getD x6 (Int.toNat x8) ((0:Int),(0:Int),[])),Prod.fst (Prod.snd (List.getD x6 (Int.toNat x8) ((0:Int),(0:Int),[]))),y0))≤Go.Refl.maxN then zf34.l3 n m3 (x6) (x7) (Go.RowKit.wrap64 (x8+1)) (r22++List.set (List.replicate 1 (0,0,[])) 0 (Prod.fst (List.getD x6 (Int.toNat x8) (0,0,[])),Prod.fst (Prod.snd (List.getD x6 (Int.toNat x8) (0,0,[]))),y0)) else none)) else none) else none) else some (r22)):=by kernel_rfl
noncomputable abbrev zf34.sg (n:Nat):Sig:=⟨zf34.ps,zf34.res,zf34 n⟩
theorem zf34.call:Callable Tryz.prog 76:=⟨Tryz.f76,Tryz.func76,by kernel_rfl,by kernel_rfl⟩
theorem zf34.ok (n:Nat):FC Tryz.prog [] 76 (zf34.sg n):=
  evalF_ok (C:=zf34.C) ⟨tb_ok,fun n _ _ h=>tabOk (l:=[(75,{ params:=zf72.ps,res:=[.v (.slice (.int .i64))],run:=zf72 n })]) (all_cons ⟨FC.weak (.cons (.own _ _) .nil) HEq.rfl (zf72.ok n),zf72.call⟩ (all_nil)) h,mixed,ar_ok,bld_ok,pts_ok⟩ zf34.A Tryz.func76 zf34.ps zf34.res n
abbrev zf33.ps:List Pm:=[.arg (.v zt0)]
abbrev zf33.res:List M:=[(.pr (.own (.int .i64) 3) (.pr (.own zt8 100) (.v zt13)))]
noncomputable def zf33.C:Cfg:={ tb:=tb,tab:=fun n f=>Refl.look [(75,(zf72.sg n)),(76,(zf34.sg n))] f,gl:=[],ar:=ar,bld:=bld,pts:=pts }
noncomputable def zf33.A:Ann:={ joins:=[],loops:=[],ids:=[],pids:=[],nroots:=76 }
noncomputable def zf33 (n:Nat) (x:List Int × List zt19 × Int × Int × Int):Option zt10:=evalF zf33.C zf33.A Tryz.f36 zf33.ps zf33.res n x
theorem zf33.eq (n:Nat) (x0:List Int × List zt19 × Int × Int × Int):zf33 n x0=((zf72 n x0.1).bind fun y0=>((zf34 n x0.2.1).bind fun y1=>some ((y0,y1,x0.2.2.1,x0.2.2.2.1,x0.2.2.2.2)))):=by kernel_rfl
noncomputable abbrev zf33.sg (n:Nat):Sig:=⟨zf33.ps,zf33.res,zf33 n⟩
theorem zf33.call:Callable Tryz.prog 36:=⟨Tryz.f36,Tryz.func36,by kernel_rfl,by kernel_rfl⟩
theorem zf33.ok (n:Nat):FC Tryz.prog [] 36 (zf33.sg n):=
  evalF_ok (C:=zf33.C) ⟨tb_ok,fun n _ _ h=>tabOk (l:=[(75,(zf72.sg n)),(76,(zf34.sg n))]) (all_cons ⟨zf72.ok n,zf72.call⟩ (all_cons ⟨zf34.ok n,zf34.call⟩ (all_nil))) h,mixed,ar_ok,bld_ok,pts_ok⟩ zf33.A Tryz.func36 zf33.ps zf33.res n
abbrev zf10.ps:List Pm:=[.box 26 (.pr (.own (.int .i64) 3) (.pr (.own zt8 100) (.v zt13))),.arg (.v zt1),.arg (.v (.int .i64))]
abbrev zf10.res:List M:=[.v .bool]
noncomputable def zf10.C:Cfg:={ tb:=tb,tab:=fun n f=>Refl.look [] f,gl:=[],ar:=ar,bld:=bld,pts:=pts }
noncomputable def zf10.A:Ann:={ joins:=[],loops:=[],ids:=[],pids:=[(0,[111,112])],nroots:=119 }
noncomputable def zf10 (n:Nat) (x:zt10 × zt14 × Int):Option (Bool × List Int × List zt19 × Int × Int × Int):=evalF zf10.C zf10.A Tryz.f111 zf10.ps zf10.res n x
theorem zf10.eq (n:Nat) (x0:List Int × List zt19 × Int × Int × Int) (x1:Int × Int × Int × Int × List Int × Int × Int) (x2:Int):zf10 n (x0,x1,x2)=(if x1.2.1<0 then some ((Bool.false,x0.1,x0.2.1,x0.2.2.1,x0.2.2.2.1,x0.2.2.2.2)) else (if x1.2.1≥(↑(List.length x0.1):Int) then some ((Bool.false,x0.1,x0.2.1,x0.2.2.1,x0.2.2.2.1,x0.2.2.2.2)) else (if x1.2.2.1<1 then some ((Bool.false,x0.1,x0.2.1,x0.2.2.1,x0.2.2.2.1,x0.2.2.2.2)) else (if x1.2.2.1 > 100000 then some ((Bool.false,x0.1,x0.2.1,x0.2.2.1,x0.2.2.2.1,x0.2.2.2.2)) else (if 0≤x1.2.1 then (if x1.2.1<(↑(List.length x0.1):Int) then (if 0≤x1.2.1 then (if x1.2.1<(↑(List.length x0.1):Int) then some ((Bool.true,List.set x0.1 (Int.toNat x1.2.1) (Go.RowKit.wrap64 (List.getD x0.1 (Int.toNat x1.2.1) 0+Go.RowKit.wrap64 (x2*x1.2.2.1))),x0.2.1,Go.RowKit.wrap64 (x0.2.2.1+Go.RowKit.wrap64 (x2*x1.2.2.1)),x0.2.2.2.1,x0.2.2.2.2)) else none) else none) else none) else none))))):=by kernel_rfl
noncomputable abbrev zf10.sg (n:Nat):Sig:=⟨zf10.ps,zf10.res,zf10 n⟩
theorem zf10.call:Callable Tryz.prog 111:=⟨Tryz.f111,Tryz.func111,by kernel_rfl,by kernel_rfl⟩
theorem zf10.ok (n:Nat):FC Tryz.prog [] 111 (zf10.sg n):=
  evalF_ok (C:=zf10.C) ⟨tb_ok,fun n _ _ h=>tabOk (l:=[]) (all_nil) h,mixed,ar_ok,bld_ok,pts_ok⟩ zf10.A Tryz.func111 zf10.ps zf10.res n
abbrev zf26.ps:List Pm:=[.arg (.v (.int .i64)),.arg (.v (.int .i64))]
abbrev zf26.res:List M:=[(.own (.int .i64) 3)]
noncomputable def zf26.C:Cfg:={ tb:=tb,tab:=fun n f=>Refl.look [] f,gl:=[],ar:=ar,bld:=bld,pts:=pts }
noncomputable def zf26.A:Ann:={ joins:=[],loops:=[(5,{ live:=[0,1,5,24,25],base:=47 })],ids:=[],pids:=[],nroots:=111 }
noncomputable def zf26 (n:Nat) (x:Int × Int):Option (List Int):=evalF zf26.C zf26.A Tryz.f122 zf26.ps zf26.res n x
noncomputable def zf26.K0 (_:Nat):Kont (List Int):=finK zf26.C (Func.results Tryz.f122).toList zf26.ps zf26.res
noncomputable def zf26.K1 (n:Nat):Kont (List Int):=seqK (fun s' k=>joinE zf26.A.joins (codeAt Tryz.f122 [1,1,1,1]) (fun s''=>evalC zf26.C zf26.A n (codeAt Tryz.f122 [1,1,1,1]) s'' k) s') (zf26.K0 n)
noncomputable def zf26.K2 (n:Nat):Kont (List Int):=blockK 0 (zf26.K1 n)
noncomputable def zf26.l5 (n m5:Nat) (x0 x1:Int) (x24 x25:Int) (r47:List Int):Option (List Int):=loopE (cutAt zf26.A.loops (codeAt Tryz.f122 [1,1,1,0,1,0,0])) (fun s k=>evalC zf26.C zf26.A n (codeAt Tryz.f122 [1,1,1,0,1,0,0]) s k) m5 (St.of 47 111 [(0,.val (.int .i64) x0),(1,.val (.int .i64) x1),(5,.own 47),(24,.val (.int .i64) x24),(25,.val (.int .i64) x25)] [(47,.row (.int .i64) 3 r47)] []) (zf26.K2 n)
theorem zf26.eq (n:Nat) (x0 x1:Int):zf26 n (x0,x1)=(if x0<0 then some ([]) else (if x0 > 1000000 then some ([]) else (if x1<1 then some ([]) else (if x1 > 12 then some ([]) else (if 0≤x1 then (if x1≤x1 then (if x1≤(↑Go.Refl.maxN:Int) then zf26.l5 n n (x0) (x1) ((↑(List.length (List.replicate (Int.toNat x1) (0:Int))):Int)) (0) (List.replicate (Int.toNat x1) 0) else none) else none) else none))))):=by kernel_rfl
theorem zf26.l5_succ (n m5:Nat) (x0 x1:Int) (x24 x25:Int) (r47:List Int):zf26.l5 n (m5+1) x0 x1 x24 x25 r47=(if x25<x24 then (if x1=0 then none else (if 0≤x25 then (if x25<(↑(List.length r47):Int) then (if x1=0 then none else (if x25<Int.tmod x0 x1 then (if 0≤x25 then (if x25<(↑(List.length (List.set r47 (Int.toNat x25) (Go.RowKit.wrap64 (Int.tdiv x0 x1)))):Int) then (if 0≤x25 then (if x25<(↑(List.length (List.set r47 (Int.toNat x25) (Go.RowKit.wrap64 (Int.tdiv x0 x1)))):Int) then zf26.l5 n m5 (x0) (x1) (x24) (Go.RowKit.wrap64 (x25+1)) (List.set (List.set r47 (Int.toNat x25) (Go.RowKit.wrap64 (Int.tdiv x0 x1))) (Int.toNat x25) (Go.RowKit.wrap64 (List.getD (List.set r47 (Int.toNat x25) (Go.RowKit.wrap64 (Int.tdiv x0 x1))) (Int.toNat x25) 0+1))) else none) else none) else none) else none) else zf26.l5 n m5 (x0) (x1) (x24) (Go.RowKit.wrap64 (x25+1)) (List.set r47 (Int.toNat x25) (Go.RowKit.wrap64 (Int.tdiv x0 x1))))) else none) else none)) else some (r47)):=by kernel_rfl
noncomputable abbrev zf26.sg (n:Nat):Sig:=⟨zf26.ps,zf26.res,zf26 n⟩
theorem zf26.call:Callable Tryz.prog 122:=⟨Tryz.f122,Tryz.func122,by kernel_rfl,by kernel_rfl⟩
theorem zf26.ok (n:Nat):FC Tryz.prog [] 122 (zf26.sg n):=
  evalF_ok (C:=zf26.C) ⟨tb_ok,fun n _ _ h=>tabOk (l:=[]) (all_nil) h,mixed,ar_ok,bld_ok,pts_ok⟩ zf26.A Tryz.func122 zf26.ps zf26.res n
abbrev zf14.ps:List Pm:=[.arg (.v (.slice zt8)),.arg (.v (.int .i64))]
abbrev zf14.res:List M:=[(.own (.int .i64) 3)]
noncomputable def zf14.C:Cfg:={ tb:=tb,tab:=fun n f=>Refl.look [(33,(zf28.sg n)),(122,(zf26.sg n))] f,gl:=[],ar:=ar,bld:=bld,pts:=pts }
noncomputable def zf14.A:Ann:={ joins:=[],loops:=[(5,{ live:=[5,16,17,18],base:=48 }),(8,{ live:=[5,7,16,17,18,27,28,29],base:=48 })],ids:=[(1,[(12,[])])],pids:=[],nroots:=112 }
noncomputable def zf14 (n:Nat) (x:List zt19 × Int):Option (List Int):=evalF zf14.C zf14.A Tryz.f82 zf14.ps zf14.res n x
noncomputable def zf14.K0 (_:Nat):Kont (List Int):=finK zf14.C (Func.results Tryz.f82).toList zf14.ps zf14.res
noncomputable def zf14.K1 (n:Nat):Kont (List Int):=seqK (fun s' k=>joinE zf14.A.joins (codeAt Tryz.f82 [1,1,1,1]) (fun s''=>evalC zf14.C zf14.A n (codeAt Tryz.f82 [1,1,1,1]) s'' k) s') (zf14.K0 n)
noncomputable def zf14.K2 (n:Nat):Kont (List Int):=blockK 0 (zf14.K1 n)
noncomputable def zf14.K3 (n m5:Nat):Kont (List Int):=loopK (cutAt zf14.A.loops (codeAt Tryz.f82 [1,1,1,0,1,0,0])) (fun s k=>evalC zf14.C zf14.A n (codeAt Tryz.f82 [1,1,1,0,1,0,0]) s k) m5 (zf14.K2 n)
noncomputable def zf14.K4 (n m5:Nat):Kont (List Int):=seqK (fun s' k=>joinE zf14.A.joins (codeAt Tryz.f82 [1,1,1,0,1,0,0,1,1,1]) (fun s''=>evalC zf14.C zf14.A n (codeAt Tryz.f82 [1,1,1,0,1,0,0,1,1,1]) s'' k) s') (zf14.K3 n m5)
noncomputable def zf14.K5 (n m5:Nat):Kont (List Int):=blockK 1 (zf14.K4 n m5)
noncomputable def zf14.K6 (n m5:Nat):Kont (List Int):=blockK 2 (zf14.K5 n m5)
noncomputable def zf14.l5 (n m5:Nat) (x16:List zt19) (x17 x18:Int) (r48:List Int):Option (List Int):=loopE (cutAt zf14.A.loops (codeAt Tryz.f82 [1,1,1,0,1,0,0])) (fun s k=>evalC zf14.C zf14.A n (codeAt Tryz.f82 [1,1,1,0,1,0,0]) s k) m5 (St.of 48 112 [(5,.own 48),(16,.val (.slice zt8) x16),(17,.val (.int .i64) x17),(18,.val (.int .i64) x18)] [(48,.row (.int .i64) 3 r48)] []) (zf14.K2 n)
noncomputable def zf14.l8 (n m5 m8:Nat) (x16:List zt19) (x17 x18:Int) (x28 x29:Int) (r48:List Int) (r49_0 r49_1:Int) (r49_2 r50:List Int):Option (List Int):=loopE (cutAt zf14.A.loops (codeAt Tryz.f82 [1,1,1,0,1,0,0,1,1,0,0,1,1,0,0])) (fun s k=>evalC zf14.C zf14.A n (codeAt Tryz.f82 [1,1,1,0,1,0,0,1,1,0,0,1,1,0,0]) s k) m8 (St.of 48 112 [(5,.own 48),(7,.ptr 49 0 0),(16,.val (.slice zt8) x16),(17,.val (.int .i64) x17),(18,.val (.int .i64) x18),(27,.own 50),(28,.val (.int .i64) x28),(29,.val (.int .i64) x29)] [(48,.row (.int .i64) 3 r48),(49,.box 100 [.val (.int .i64) r49_0,.val (.int .i64) r49_1,.val (.slice (.int .i64)) r49_2]),(50,.row (.int .i64) 3 r50)] []) (zf14.K6 n m5)
theorem zf14.eq (n:Nat) (x0:List zt19) (x1:Int):zf14 n (x0,x1)=((zf28 n (x0,x1)).bind fun y0=>(if (!y0)=true then some ([]) else (if 0≤x1 then (if x1≤x1 then (if x1≤(↑Go.Refl.maxN:Int) then zf14.l5 n n (x0) ((↑(List.length x0):Int)) (0) (List.replicate (Int.toNat x1) 0) else none) else none) else none))):=by kernel_rfl
theorem zf14.l5_succ (n m5:Nat) (x16:List zt19) (x17 x18:Int) (r48:List Int):zf14.l5 n (m5+1) x16 x17 x18 r48=(if x18<x17 then (if 0≤x18 then (if x18<(↑(List.length x16):Int) then ((zf26 n (Prod.fst (Prod.snd (List.getD x16 (Int.toNat x18) (0,0,[]))),(↑(List.length (Prod.snd (Prod.snd (List.getD x16 (Int.toNat x18) ((0:Int),(0:Int),[]))))):Int))).bind fun y1=>zf14.l8 n m5 n (x16) (x17) (x18) ((↑(List.length y1):Int)) (0) (r48) (Prod.fst (List.getD x16 (Int.toNat x18) (0,0,[]))) (Prod.fst (Prod.snd (List.getD x16 (Int.toNat x18) (0,0,[])))) (Prod.snd (Prod.snd (List.getD x16 (Int.toNat x18) (0,0,[])))) (y1)) else none) else none) else some (r48)):=by kernel_rfl
theorem zf14.l8_succ (n m5 m8:Nat) (x16:List zt19) (x17 x18:Int) (x28 x29:Int) (r48:List Int) (r49_0 r49_1:Int) (r49_2 r50:List Int):zf14.l8 n m5 (m8+1) x16 x17 x18 x28 x29 r48 r49_0 r49_1 r49_2 r50=(if x29<x28 then (if 0≤x29 then (if x29<(↑(List.length r50):Int) then (if 0≤x29 then (if x29<(↑(List.length r49_2):Int) then (if 0≤List.getD r49_2 (Int.toNat x29) 0 then (if List.getD r49_2 (Int.toNat x29) 0<(↑(List.length r48):Int) then (if 0≤List.getD r49_2 (Int.toNat x29) 0 then (if List.getD r49_2 (Int.toNat x29) 0<(↑(List.length r48):Int) then zf14.l8 n m5 m8 (x16) (x17) (x18) (x28) (Go.RowKit.wrap64 (x29+1)) (List.set r48 (Int.toNat (List.getD r49_2 (Int.toNat x29) 0)) (Go.RowKit.wrap64 (List.getD r48 (Int.toNat (List.getD r49_2 (Int.toNat x29) 0)) 0+List.getD r50 (Int.toNat x29) 0))) (r49_0) (r49_1) (r49_2) (r50) else none) else none) else none) else none) else none) else none) else none) else none) else zf14.l5 n m5 (x16) (x17) (Go.RowKit.wrap64 (x18+1)) (r48)):=by kernel_rfl
noncomputable abbrev zf14.sg (n:Nat):Sig:=⟨zf14.ps,zf14.res,zf14 n⟩
theorem zf14.call:Callable Tryz.prog 82:=⟨Tryz.f82,Tryz.func82,by kernel_rfl,by kernel_rfl⟩
theorem zf14.ok (n:Nat):FC Tryz.prog [] 82 (zf14.sg n):=
  evalF_ok (C:=zf14.C) ⟨tb_ok,fun n _ _ h=>tabOk (l:=[(33,(zf28.sg n)),(122,(zf26.sg n))]) (all_cons ⟨zf28.ok n,zf28.call⟩ (all_cons ⟨zf26.ok n,zf26.call⟩ (all_nil))) h,mixed,ar_ok,bld_ok,pts_ok⟩ zf14.A Tryz.func82 zf14.ps zf14.res n
abbrev zf16.ps:List Pm:=[.arg (.v (.slice (.int .i64))),.arg (.v (.slice zt8))]
abbrev zf16.res:List M:=[(.own (.int .i64) 3)]
noncomputable def zf16.C:Cfg:={ tb:=tb,tab:=fun n f=>Refl.look [(32,(zf47.sg n)),(82,(zf14.sg n))] f,gl:=[],ar:=ar,bld:=bld,pts:=pts }
noncomputable def zf16.A:Ann:={ joins:=[],loops:=[(5,{ live:=[0,5,14,15,16],base:=32,grow:=[(5,53,(.int .i64),3)] })],ids:=[(1,[(9,[])]),(7,[(28,[])])],pids:=[],nroots:=96 }
noncomputable def zf16 (n:Nat) (x:List Int × List zt19):Option (List Int):=evalF zf16.C zf16.A Tryz.f40 zf16.ps zf16.res n x
noncomputable def zf16.K0 (_:Nat):Kont (List Int):=finK zf16.C (Func.results Tryz.f40).toList zf16.ps zf16.res
noncomputable def zf16.K1 (n:Nat):Kont (List Int):=seqK (fun s' k=>joinE zf16.A.joins (codeAt Tryz.f40 [1,1,1,1]) (fun s''=>evalC zf16.C zf16.A n (codeAt Tryz.f40 [1,1,1,1]) s'' k) s') (zf16.K0 n)
noncomputable def zf16.K2 (n:Nat):Kont (List Int):=blockK 0 (zf16.K1 n)
noncomputable def zf16.l5 (n m5:Nat) (x0:List Int) (x15 x16:Int) (r32 r33:List Int):Option (List Int):=loopE (cutAt zf16.A.loops (codeAt Tryz.f40 [1,1,1,0,1,0,0])) (fun s k=>evalC zf16.C zf16.A n (codeAt Tryz.f40 [1,1,1,0,1,0,0]) s k) m5 (St.of 32 96 [(0,.val (.slice (.int .i64)) x0),(5,.own 32),(14,.own 33),(15,.val (.int .i64) x15),(16,.val (.int .i64) x16)] [(32,.row (.int .i64) 3 r32),(33,.row (.int .i64) 3 r33)] []) (zf16.K2 n)
theorem zf16.eq (n:Nat) (x0:List Int) (x1:List zt19):zf16 n (x0,x1)=((zf47 n x0).bind fun y0=>(if (!y0)=true then some ([]) else ((zf14 n (x1,(↑(List.length x0):Int))).bind fun y1=>zf16.l5 n n (x0) ((↑(List.length y1):Int)) (0) ([]) (y1)))):=by kernel_rfl
theorem zf16.l5_succ (n m5:Nat) (x0:List Int) (x15 x16:Int) (r32 r33:List Int):zf16.l5 n (m5+1) x0 x15 x16 r32 r33=(if x16<x15 then (if 0≤x16 then (if x16<(↑(List.length r33):Int) then (if 0≤x16 then (if x16<(↑(List.length x0):Int) then (if List.length r32+List.length (List.set (List.replicate (1:Nat) (0:Int)) (0:Nat) (Go.RowKit.wrap64 (List.getD x0 (Int.toNat x16) (0:Int)-List.getD r33 (Int.toNat x16) (0:Int))))≤Go.Refl.maxN then zf16.l5 n m5 (x0) (x15) (Go.RowKit.wrap64 (x16+1)) (r32++List.set (List.replicate 1 0) 0 (Go.RowKit.wrap64 (List.getD x0 (Int.toNat x16) 0-List.getD r33 (Int.toNat x16) 0))) (r33) else none) else none) else none) else none) else none) else some (r32)):=by kernel_rfl
noncomputable abbrev zf16.sg (n:Nat):Sig:=⟨zf16.ps,zf16.res,zf16 n⟩
theorem zf16.call:Callable Tryz.prog 40:=⟨Tryz.f40,Tryz.func40,by kernel_rfl,by kernel_rfl⟩
theorem zf16.ok (n:Nat):FC Tryz.prog [] 40 (zf16.sg n):=
  evalF_ok (C:=zf16.C) ⟨tb_ok,fun n _ _ h=>tabOk (l:=[(32,(zf47.sg n)),(82,(zf14.sg n))]) (all_cons ⟨zf47.ok n,zf47.call⟩ (all_cons ⟨zf14.ok n,zf14.call⟩ (all_nil))) h,mixed,ar_ok,bld_ok,pts_ok⟩ zf16.A Tryz.func40 zf16.ps zf16.res n
abbrev zf78.ps:List Pm:=[.arg (.v (.slice (.int .i64)))]
abbrev zf78.res:List M:=[.v (.int .i64)]
noncomputable def zf78.C:Cfg:={ tb:=tb,tab:=fun n f=>Refl.look [] f,gl:=[],ar:=ar,bld:=bld,pts:=pts }
noncomputable def zf78.A:Ann:={ joins:=[],loops:=[(5,{ live:=[0,3,4],base:=25 })],ids:=[],pids:=[],nroots:=89 }
noncomputable def zf78 (n:Nat) (x:List Int):Option (Int):=evalF zf78.C zf78.A Tryz.f41 zf78.ps zf78.res n x
noncomputable def zf78.K0 (_:Nat):Kont (Int):=finK zf78.C (Func.results Tryz.f41).toList zf78.ps zf78.res
noncomputable def zf78.K1 (n:Nat):Kont (Int):=seqK (fun s' k=>joinE zf78.A.joins (codeAt Tryz.f41 [1,1,1,1]) (fun s''=>evalC zf78.C zf78.A n (codeAt Tryz.f41 [1,1,1,1]) s'' k) s') (zf78.K0 n)
noncomputable def zf78.K2 (n:Nat):Kont (Int):=blockK 0 (zf78.K1 n)
noncomputable def zf78.l5 (n m5:Nat) (x0:List Int) (x3 x4:Int):Option (Int):=loopE (cutAt zf78.A.loops (codeAt Tryz.f41 [1,1,1,0,1,0,0])) (fun s k=>evalC zf78.C zf78.A n (codeAt Tryz.f41 [1,1,1,0,1,0,0]) s k) m5 (St.of 25 89 [(0,.val (.slice (.int .i64)) x0),(3,.val (.int .i64) x3),(4,.val (.int .i64) x4)] [] []) (zf78.K2 n)
theorem zf78.eq (n:Nat) (x0:List Int):zf78 n x0=(if (↑(List.length x0):Int)<1 then none else (if 0<(↑(List.length x0):Int) then zf78.l5 n n (x0) (List.getD x0 0 0) (1) else none)):=by kernel_rfl
theorem zf78.l5_succ (n m5:Nat) (x0:List Int) (x3 x4:Int):zf78.l5 n (m5+1) x0 x3 x4=(if x4<(↑(List.length x0):Int) then (if 0≤x4 then (if x4<(↑(List.length x0):Int) then zf78.l5 n m5 (x0) (Go.Refl.mn x3 (List.getD x0 (Int.toNat x4) 0)) (Go.RowKit.wrap64 (x4+1)) else none) else none) else some (x3)):=by kernel_rfl
noncomputable abbrev zf78.sg (n:Nat):Sig:=⟨zf78.ps,zf78.res,zf78 n⟩
theorem zf78.call:Callable Tryz.prog 41:=⟨Tryz.f41,Tryz.func41,by kernel_rfl,by kernel_rfl⟩
theorem zf78.ok (n:Nat):FC Tryz.prog [] 41 (zf78.sg n):=
  evalF_ok (C:=zf78.C) ⟨tb_ok,fun n _ _ h=>tabOk (l:=[]) (all_nil) h,mixed,ar_ok,bld_ok,pts_ok⟩ zf78.A Tryz.func41 zf78.ps zf78.res n
abbrev zf24.ps:List Pm:=[.arg (.v (.slice (.int .i64))),.arg (.v (.slice zt8))]
abbrev zf24.res:List M:=[.v .bool]
noncomputable def zf24.C:Cfg:={ tb:=tb,tab:=fun n f=>Refl.look [(40,(zf16.sg n)),(41,(zf78.sg n))] f,gl:=[],ar:=ar,bld:=bld,pts:=pts }
noncomputable def zf24.A:Ann:={ joins:=[],loops:=[],ids:=[(2,[(14,[])])],pids:=[],nroots:=81 }
noncomputable def zf24 (n:Nat) (x:List Int × List zt19):Option (Bool):=evalF zf24.C zf24.A Tryz.f12 zf24.ps zf24.res n x
theorem zf24.eq (n:Nat) (x0:List Int) (x1:List zt19):zf24 n (x0,x1)=((zf16 n (x0,x1)).bind fun y0=>(if (↑(List.length y0):Int) > 0 then ((zf78 n y0).bind fun y1=>some (Decidable.decide (y1≥0))) else some (Bool.false))):=by kernel_rfl
noncomputable abbrev zf24.sg (n:Nat):Sig:=⟨zf24.ps,zf24.res,zf24 n⟩
theorem zf24.call:Callable Tryz.prog 12:=⟨Tryz.f12,Tryz.func12,by kernel_rfl,by kernel_rfl⟩
theorem zf24.ok (n:Nat):FC Tryz.prog [] 12 (zf24.sg n):=
  evalF_ok (C:=zf24.C) ⟨tb_ok,fun n _ _ h=>tabOk (l:=[(40,(zf16.sg n)),(41,(zf78.sg n))]) (all_cons ⟨zf16.ok n,zf16.call⟩ (all_cons ⟨zf78.ok n,zf78.call⟩ (all_nil))) h,mixed,ar_ok,bld_ok,pts_ok⟩ zf24.A Tryz.func12 zf24.ps zf24.res n
abbrev zf9.ps:List Pm:=[.box 26 (.pr (.own (.int .i64) 3) (.pr (.own zt8 100) (.v zt13))),.arg (.v zt1)]
abbrev zf9.res:List M:=[.v .bool]
noncomputable def zf9.C:Cfg:={ tb:=tb,tab:=fun n f=>Refl.look [(75,{ params:=zf72.ps,res:=[.v (.slice (.int .i64))],run:=zf72 n }),(12,(zf24.sg n))] f,gl:=[],ar:=ar,bld:=bld,pts:=pts }
noncomputable def zf9.A:Ann:={ joins:=[],loops:=[],ids:=[(1,[(16,[]),(18,[])]),(2,[(30,[])])],pids:=[(0,[97,98])],nroots:=105 }
noncomputable def zf9 (n:Nat) (x:zt10 × Int × Int × Int × Int × List Int × Int × Int):Option (Bool × List Int × List zt19 × Int × Int × Int):=evalF zf9.C zf9.A Tryz.f112 zf9.ps zf9.res n x
theorem zf9.eq (n:Nat) (x0:List Int × List zt19 × Int × Int × Int) (x1:Int × Int × Int × Int × List Int × Int × Int):zf9 n (x0,x1)=((zf72 n x1.2.2.2.2.1).bind fun y0=>(if List.length x0.2.1+List.length (List.set (List.replicate (1:Nat) ((0:Int),(0:Int),[])) (0:Nat) (x1.2.1,x1.2.2.1,y0))≤Go.Refl.maxN then ((zf24 n (x0.1,x0.2.1++List.set (List.replicate 1 (0,0,[])) 0 (x1.2.1,x1.2.2.1,y0))).bind fun y1=>(if (!y1)=true then some ((Bool.false,x0.1,x0.2.1++List.set (List.replicate 1 (0,0,[])) 0 (x1.2.1,x1.2.2.1,y0),x0.2.2.1,x0.2.2.2.1,x0.2.2.2.2)) else some ((Bool.true,x0.1,x0.2.1++List.set (List.replicate 1 (0,0,[])) 0 (x1.2.1,x1.2.2.1,y0),Go.RowKit.wrap64 (x0.2.2.1-x1.2.2.1),x0.2.2.2.1,x0.2.2.2.2)))) else none)):=by kernel_rfl
noncomputable abbrev zf9.sg (n:Nat):Sig:=⟨zf9.ps,zf9.res,zf9 n⟩
theorem zf9.call:Callable Tryz.prog 112:=⟨Tryz.f112,Tryz.func112,by kernel_rfl,by kernel_rfl⟩
theorem zf9.ok (n:Nat):FC Tryz.prog [] 112 (zf9.sg n):=
  evalF_ok (C:=zf9.C) ⟨tb_ok,fun n _ _ h=>tabOk (l:=[(75,{ params:=zf72.ps,res:=[.v (.slice (.int .i64))],run:=zf72 n }),(12,(zf24.sg n))]) (all_cons ⟨FC.weak (.cons (.own _ _) .nil) HEq.rfl (zf72.ok n),zf72.call⟩ (all_cons ⟨zf24.ok n,zf24.call⟩ (all_nil))) h,mixed,ar_ok,bld_ok,pts_ok⟩ zf9.A Tryz.func112 zf9.ps zf9.res n
abbrev zf75.ps:List Pm:=[.arg (.own zt8 100),.arg (.v (.int .i64)),.arg (.v (.int .i64))]
abbrev zf75.res:List M:=[(.own zt8 100)]
noncomputable def zf75.C:Cfg:={ tb:=tb,tab:=fun n f=>Refl.look [] f,gl:=[],ar:=ar,bld:=bld,pts:=pts }
noncomputable def zf75.A:Ann:={ joins:=[],loops:=[],ids:=[(5,[(26,[])])],pids:=[],nroots:=97 }
noncomputable def zf75 (n:Nat) (x:List zt19 × Int × Int):Option zt17:=evalF zf75.C zf75.A Tryz.f163 zf75.ps zf75.res n x
theorem zf75.eq (n:Nat) (x0:List zt19) (x1 x2:Int):zf75 n (x0,x1,x2)=(if 0≤x1 then (if x1≤x2 then (if x2≤(↑(List.length x0):Int) then (if (↑(List.length x0):Int)≤(↑(List.length x0):Int) then (if x1=x2 then some (x0) else (if 0≤x1 then (if x1≤(↑(List.length x0):Int) then (if 0≤x2 then (if x2≤(↑(List.length x0):Int) then (if 0<List.length x0 then (if Int.toNat x1-0+List.length (List.take (List.length x0-Int.toNat x2) (List.drop (Int.toNat x2) x0))≤List.length x0 then (if 0≤(↑(Int.toNat x1-0+List.length (List.take (List.length x0-Int.toNat x2) (List.drop (Int.toNat x2) x0))):Int) then (if (↑(Int.toNat x1-0+List.length (List.take (List.length x0-Int.toNat x2) (List.drop (Int.toNat x2) x0))):Int)≤(↑(List.length x0):Int) then (if (↑(List.length x0):Int)≤(↑(List.length (List.take (Int.toNat x1-(0:Nat)) x0++List.take (List.length x0-Int.toNat x2) (List.drop (Int.toNat x2) x0)++List.drop (Int.toNat x1-(0:Nat)+List.length (List.take (List.length x0-Int.toNat x2) (List.drop (Int.toNat x2) x0))) x0)-0):Int) then some (List.take (Int.toNat x1-0+List.length (List.take (List.length x0-Int.toNat x2) (List.drop (Int.toNat x2) x0))) (List.take (0+Int.toNat (↑(Int.toNat x1-0+List.length (List.take (List.length x0-Int.toNat x2) (List.drop (Int.toNat x2) x0))):Int)) (List.take (Int.toNat x1-0) x0++List.take (List.length x0-Int.toNat x2) (List.drop (Int.toNat x2) x0)++List.drop (Int.toNat x1-0+List.length (List.take (List.length x0-Int.toNat x2) (List.drop (Int.toNat x2) x0))) x0)++List.replicate (Int.toNat (↑(List.length x0):Int)-Int.toNat (↑(Int.toNat x1-0+List.length (List.take (List.length x0-Int.toNat x2) (List.drop (Int.toNat x2) x0))):Int)) (0,0,[])++List.drop (0+Int.toNat (↑(Int.toNat x1-0+List.length (List.take (List.length x0-Int.toNat x2) (List.drop (Int.toNat x2) x0))):Int)+(Int.toNat (↑(List.length x0):Int)-Int.toNat (↑(Int.toNat x1-0+List.length (List.take (List.length x0-Int.toNat x2) (List.drop (Int.toNat x2) x0))):Int))) (List.take (Int.toNat x1-0) x0++List.take (List.length x0-Int.toNat x2) (List.drop (Int.toNat x2) x0)++List.drop (Int.toNat x1-0+List.length (List.take (List.length x0-Int.toNat x2) (List.drop (Int.toNat x2) x0))) x0))) else none) else none) else none) else none) else none) else none) else none) else none) else none)) else none) else none) else none) else none):=by kernel_rfl
noncomputable abbrev zf75.sg (n:Nat):Sig:=⟨zf75.ps,zf75.res,zf75 n⟩
theorem zf75.call:Callable Tryz.prog 163:=⟨Tryz.f163,Tryz.func163,by kernel_rfl,by kernel_rfl⟩
theorem zf75.ok (n:Nat):FC Tryz.prog [] 163 (zf75.sg n):=
  evalF_ok (C:=zf75.C) ⟨tb_ok,fun n _ _ h=>tabOk (l:=[]) (all_nil) h,mixed,ar_ok,bld_ok,pts_ok⟩ zf75.A Tryz.func163 zf75.ps zf75.res n
abbrev zf18.ps:List Pm:=[.arg (.v (.slice zt8)),.arg (.v (.int .i64)),.arg (.v (.int .i64)),.arg (.v (.int .i64))]
abbrev zf18.res:List M:=[(.own zt8 100)]
noncomputable def zf18.C:Cfg:={ tb:=tb,tab:=fun n f=>Refl.look [(33,(zf28.sg n)),(76,(zf34.sg n)),(163,(zf75.sg n))] f,gl:=[],ar:=ar,bld:=bld,pts:=pts }
noncomputable def zf18.A:Ann:={ joins:=[],loops:=[],ids:=[(1,[(12,[])])],pids:=[],nroots:=124 }
noncomputable def zf18 (n:Nat) (x:List zt19 × Int × Int × Int):Option zt17:=evalF zf18.C zf18.A Tryz.f137 zf18.ps zf18.res n x
theorem zf18.eq (n:Nat) (x0:List zt19) (x1 x2 x3:Int):zf18 n (x0,x1,x2,x3)=((zf28 n (x0,x1)).bind fun y0=>(if (!y0)=Bool.true then some ([]) else (if x2<0 then some ([]) else (if x2≥(↑(List.length x0):Int) then some ([]) else (if x3<1 then some ([]) else (if 0≤x2 then (if x2<(↑(List.length x0):Int) then (if x3 > Prod.fst (Prod.snd (List.getD x0 (Int.toNat x2) (0,0,[]))) then some ([]) else ((zf34 n x0).bind fun y1=>(if 0≤x2 then (if x2<(↑(List.length y1):Int) then (if 0≤x2 then (if x2<(↑(List.length y1):Int) then (if 0≤x2 then (if x2<(↑(List.length (List.set y1 (Int.toNat x2) (Prod.fst (List.getD y1 (Int.toNat x2) ((0:Int),(0:Int),[])),Go.RowKit.wrap64 (Prod.fst (Prod.snd (List.getD y1 (Int.toNat x2) ((0:Int),(0:Int),[])))-x3),Prod.snd (Prod.snd (List.getD y1 (Int.toNat x2) ((0:Int),(0:Int),[])))))):Int) then (if Prod.fst (Prod.snd (List.getD (List.set y1 (Int.toNat x2) (Prod.fst (List.getD y1 (Int.toNat x2) (0,0,[])),Go.RowKit.wrap64 (Prod.fst (Prod.snd (List.getD y1 (Int.toNat x2) (0,0,[])))-x3),Prod.snd (Prod.snd (List.getD y1 (Int.toNat x2) (0,0,[]))))) (Int.toNat x2) (0,0,[])))=0 then ((zf75 n (List.set y1 (Int.toNat x2) (Prod.fst (List.getD y1 (Int.toNat x2) (0,0,[])),Go.RowKit.wrap64 (Prod.fst (Prod.snd (List.getD y1 (Int.toNat x2) (0,0,[])))-x3),Prod.snd (Prod.snd (List.getD y1 (Int.toNat x2) (0,0,[])))),x2,Go.RowKit.wrap64 (x2+1))).bind fun y2=>some (y2)) else some (List.set y1 (Int.toNat x2) (Prod.fst (List.getD y1 (Int.toNat x2) (0,0,[])),Go.RowKit.wrap64 (Prod.fst (Prod.snd (List.getD y1 (Int.toNat x2) (0,0,[])))-x3),Prod.snd (Prod.snd (List.getD y1 (Int.toNat x2) (0,0,[])))))) else none) else none) else none) else none) else none) else none))) else none) else none)))))):=by kernel_rfl
noncomputable abbrev zf18.sg (n:Nat):Sig:=⟨zf18.ps,zf18.res,zf18 n⟩
theorem zf18.call:Callable Tryz.prog 137:=⟨Tryz.f137,Tryz.func137,by kernel_rfl,by kernel_rfl⟩
theorem zf18.ok (n:Nat):FC Tryz.prog [] 137 (zf18.sg n):=
  evalF_ok (C:=zf18.C) ⟨tb_ok,fun n _ _ h=>tabOk (l:=[(33,(zf28.sg n)),(76,(zf34.sg n)),(163,(zf75.sg n))]) (all_cons ⟨zf28.ok n,zf28.call⟩ (all_cons ⟨zf34.ok n,zf34.call⟩ (all_cons ⟨zf75.ok n,zf75.call⟩ (all_nil)))) h,mixed,ar_ok,bld_ok,pts_ok⟩ zf18.A Tryz.func137 zf18.ps zf18.res n
abbrev zf12.ps:List Pm:=[.box 26 (.pr (.own (.int .i64) 3) (.pr (.own zt8 100) (.v zt13))),.arg (.v zt1)]
abbrev zf12.res:List M:=[.v .bool]
noncomputable def zf12.C:Cfg:={ tb:=tb,tab:=fun n f=>Refl.look [(137,(zf18.sg n))] f,gl:=[],ar:=ar,bld:=bld,pts:=pts }
noncomputable def zf12.A:Ann:={ joins:=[],loops:=[],ids:=[],pids:=[(0,[139,140])],nroots:=147 }
noncomputable def zf12 (n:Nat) (x:zt10 × Int × Int × Int × Int × List Int × Int × Int):Option (Bool × List Int × List zt19 × Int × Int × Int):=evalF zf12.C zf12.A Tryz.f113 zf12.ps zf12.res n x
theorem zf12.eq (n:Nat) (x0:List Int × List zt19 × Int × Int × Int) (x1:Int × Int × Int × Int × List Int × Int × Int):zf12 n (x0,x1)=(if x1.2.1<0 then some ((Bool.false,x0.1,x0.2.1,x0.2.2.1,x0.2.2.2.1,x0.2.2.2.2)) else (if x1.2.1≥(↑(List.length x0.2.1):Int) then some ((Bool.false,x0.1,x0.2.1,x0.2.2.1,x0.2.2.2.1,x0.2.2.2.2)) else (if x1.2.2.2.1<0 then some ((Bool.false,x0.1,x0.2.1,x0.2.2.1,x0.2.2.2.1,x0.2.2.2.2)) else (if x1.2.2.2.1 > 100000 then some ((Bool.false,x0.1,x0.2.1,x0.2.2.1,x0.2.2.2.1,x0.2.2.2.2)) else (if x1.2.2.1<1 then some ((Bool.false,x0.1,x0.2.1,x0.2.2.1,x0.2.2.2.1,x0.2.2.2.2)) else (if 0≤x1.2.1 then (if x1.2.1<(↑(List.length x0.2.1):Int) then (if x1.2.2.1 > Prod.fst (Prod.snd (List.getD x0.2.1 (Int.toNat x1.2.1) (0,0,[]))) then some ((Bool.false,x0.1,x0.2.1,x0.2.2.1,x0.2.2.2.1,x0.2.2.2.2)) else ((zf18 n (x0.2.1,(↑(List.length x0.1):Int),x1.2.1,x1.2.2.1)).bind fun y0=>some ((Bool.true,x0.1,y0,Go.RowKit.wrap64 (x0.2.2.1+Go.RowKit.wrap64 (x1.2.2.1+x1.2.2.2.1)),Go.RowKit.wrap64 (x0.2.2.2.1+x1.2.2.2.1),x0.2.2.2.2)))) else none) else none)))))):=by kernel_rfl
noncomputable abbrev zf12.sg (n:Nat):Sig:=⟨zf12.ps,zf12.res,zf12 n⟩
theorem zf12.call:Callable Tryz.prog 113:=⟨Tryz.f113,Tryz.func113,by kernel_rfl,by kernel_rfl⟩
theorem zf12.ok (n:Nat):FC Tryz.prog [] 113 (zf12.sg n):=
  evalF_ok (C:=zf12.C) ⟨tb_ok,fun n _ _ h=>tabOk (l:=[(137,(zf18.sg n))]) (all_cons ⟨zf18.ok n,zf18.call⟩ (all_nil)) h,mixed,ar_ok,bld_ok,pts_ok⟩ zf12.A Tryz.func113 zf12.ps zf12.res n
abbrev zf45.ps:List Pm:=[.inout (.int .i64) 3,.arg (.v (.int .i64)),.arg (.v (.int .i64))]
abbrev zf45.res:List M:=[.v (.int .i64)]
noncomputable def zf45.C:Cfg:={ tb:=tb,tab:=fun n f=>Refl.look [] f,gl:=[],ar:=ar,bld:=bld,pts:=pts }
noncomputable def zf45.A:Ann:={ joins:=[],loops:=[],ids:=[],pids:=[],nroots:=88 }
noncomputable def zf45 (n:Nat) (x:List Int × Int × Int):Option (Int × List Int):=evalF zf45.C zf45.A Tryz.f183 zf45.ps zf45.res n x
theorem zf45.eq (n:Nat) (x0:List Int) (x1 x2:Int):zf45 n (x0,x1,x2)=(if 0≤x1 then (if x1<(↑(List.length x0):Int) then (if 0≤x1 then (if x1<(↑(List.length x0):Int) then (if 0≤x1 then (if x1<(↑(List.length x0):Int) then some ((Go.RowKit.wrap64 (x2-Go.Refl.mn (List.getD x0 (Int.toNat x1) 0) x2),List.set x0 (Int.toNat x1) (Go.RowKit.wrap64 (List.getD x0 (Int.toNat x1) 0-Go.Refl.mn (List.getD x0 (Int.toNat x1) 0) x2)))) else none) else none) else none) else none) else none) else none):=by kernel_rfl
noncomputable abbrev zf45.sg (n:Nat):Sig:=⟨zf45.ps,zf45.res,zf45 n⟩
theorem zf45.call:Callable Tryz.prog 183:=⟨Tryz.f183,Tryz.func183,by kernel_rfl,by kernel_rfl⟩
theorem zf45.ok (n:Nat):FC Tryz.prog [] 183 (zf45.sg n):=
  evalF_ok (C:=zf45.C) ⟨tb_ok,fun n _ _ h=>tabOk (l:=[]) (all_nil) h,mixed,ar_ok,bld_ok,pts_ok⟩ zf45.A Tryz.func183 zf45.ps zf45.res n
abbrev zf36.ps:List Pm:=[.inout (.int .i64) 3,.arg (.v zt8)]
abbrev zf36.res:List M:=[.v (.int .i64),(.own (.int .i64) 3)]
noncomputable def zf36.C:Cfg:={ tb:=tb,tab:=fun n f=>Refl.look [(183,(zf45.sg n)),(122,(zf26.sg n))] f,gl:=[],ar:=ar,bld:=bld,pts:=pts }
noncomputable def zf36.A:Ann:={ joins:=[],loops:=[(5,{ live:=[0,3,6,7,22,23,24],base:=53,grow:=[(7,76,(.int .i64),3)] })],ids:=[(3,[(17,[])]),(7,[(36,[])]),(10,[(48,[])])],pids:=[],nroots:=117 }
noncomputable def zf36 (n:Nat) (x:List Int × Int × Int × List Int):Option (Int × List Int × List Int):=evalF zf36.C zf36.A Tryz.f164 zf36.ps zf36.res n x
noncomputable def zf36.K0 (_:Nat):Kont (Int × List Int × List Int):=finK zf36.C (Func.results Tryz.f164).toList zf36.ps zf36.res
noncomputable def zf36.K1 (n:Nat):Kont (Int × List Int × List Int):=seqK (fun s' k=>joinE zf36.A.joins (codeAt Tryz.f164 [1,1,1,1,1]) (fun s''=>evalC zf36.C zf36.A n (codeAt Tryz.f164 [1,1,1,1,1]) s'' k) s') (zf36.K0 n)
noncomputable def zf36.K2 (n:Nat):Kont (Int × List Int × List Int):=blockK 0 (zf36.K1 n)
noncomputable def zf36.l5 (n m5:Nat) (x6 x23 x24:Int) (r0:List Int) (r53_0 r53_1:Int) (r53_2 r54 r55:List Int):Option (Int × List Int × List Int):=loopE (cutAt zf36.A.loops (codeAt Tryz.f164 [1,1,1,1,0,1,0,0])) (fun s k=>evalC zf36.C zf36.A n (codeAt Tryz.f164 [1,1,1,1,0,1,0,0]) s k) m5 (St.of 53 117 [(0,.own 0),(3,.ptr 53 0 0),(6,.val (.int .i64) x6),(7,.own 54),(22,.own 55),(23,.val (.int .i64) x23),(24,.val (.int .i64) x24)] [(0,.row (.int .i64) 3 r0),(53,.box 100 [.val (.int .i64) r53_0,.val (.int .i64) r53_1,.val (.slice (.int .i64)) r53_2]),(54,.row (.int .i64) 3 r54),(55,.row (.int .i64) 3 r55)] [0]) (zf36.K2 n)
theorem zf36.eq (n:Nat) (x0:List Int) (x1:Int × Int × List Int):zf36 n (x0,x1)=((zf45 n (x0,x1.1,x1.2.1)).bind fun y0=>((zf26 n (y0.1,(↑(List.length x1.2.2):Int))).bind fun y1=>zf36.l5 n n (0) ((↑(List.length y1):Int)) (0) y0.2 x1.1 x1.2.1 x1.2.2 ([]) (y1))):=by kernel_rfl
theorem zf36.l5_succ (n m5:Nat) (x6 x23 x24:Int) (r0:List Int) (r53_0 r53_1:Int) (r53_2 r54 r55:List Int):zf36.l5 n (m5+1) x6 x23 x24 r0 r53_0 r53_1 r53_2 r54 r55=(if x24<x23 then (if 0≤x24 then (if x24<(↑(List.length r55):Int) then (if 0≤x24 then (if x24<(↑(List.length r53_2):Int) then ((zf45 n (r0,List.getD r53_2 (Int.toNat x24) 0,List.getD r55 (Int.toNat x24) 0)).bind fun y2=>(if y2.1 > 0 then (if 0≤x24 then (if x24<(↑(List.length r53_2):Int) then (if List.length r54+List.length (List.set (List.replicate (1:Nat) (0:Int)) (0:Nat) (List.getD r53_2 (Int.toNat x24) (0:Int)))≤Go.Refl.maxN then zf36.l5 n m5 (Go.RowKit.wrap64 (x6+y2.1)) (x23) (Go.RowKit.wrap64 (x24+1)) y2.2 (r53_0) (r53_1) (r53_2) (r54++List.set (List.replicate 1 0) 0 (List.getD r53_2 (Int.toNat x24) 0)) (r55) else none) else none) else none) else zf36.l5 n m5 (x6) (x23) (Go.RowKit.wrap64 (x24+1)) y2.2 (r53_0) (r53_1) (r53_2) (r54) (r55))) else none) else none) else none) else none) else some ((x6,r54,r0))):=by kernel_rfl
noncomputable abbrev zf36.sg (n:Nat):Sig:=⟨zf36.ps,zf36.res,zf36 n⟩
theorem zf36.call:Callable Tryz.prog 164:=⟨Tryz.f164,Tryz.func164,by kernel_rfl,by kernel_rfl⟩
theorem zf36.ok (n:Nat):FC Tryz.prog [] 164 (zf36.sg n):=
  evalF_ok (C:=zf36.C) ⟨tb_ok,fun n _ _ h=>tabOk (l:=[(183,(zf45.sg n)),(122,(zf26.sg n))]) (all_cons ⟨zf45.ok n,zf45.call⟩ (all_cons ⟨zf26.ok n,zf26.call⟩ (all_nil))) h,mixed,ar_ok,bld_ok,pts_ok⟩ zf36.A Tryz.func164 zf36.ps zf36.res n
abbrev zf5.ps:List Pm:=[.arg (.v (.slice (.int .i64))),.arg (.v (.slice zt8)),.arg (.v (.int .i64))]
abbrev zf5.res:List M:=[(.own (.int .i64) 3),.v (.int .i64),(.own (.int .i64) 3)]
noncomputable def zf5.C:Cfg:={ tb:=tb,tab:=fun n f=>Refl.look [(32,(zf47.sg n)),(33,(zf28.sg n)),(75,(zf72.sg n)),(164,(zf36.sg n)),(74,(zf73.sg n))] f,gl:=[],ar:=ar,bld:=bld,pts:=pts }
noncomputable def zf5.A:Ann:={ joins:=[],loops:=[(7,{ live:=[1,9,10,11,12],base:=90 }),(10,{ live:=[1,9,10,11,12,49,50,51],base:=90 }),(16,{ live:=[1,9,10,11,12,49,50,51,71,72,73],base:=90 })],ids:=[(1,[(20,[]),(26,[])]),(5,[(42,[42])]),(18,[(79,[])]),(19,[(83,[])])],pids:=[],nroots:=154 }
noncomputable def zf5 (n:Nat) (x:List Int × List zt19 × Int):Option zt18:=evalF zf5.C zf5.A Tryz.f138 zf5.ps zf5.res n x
noncomputable def zf5.K0 (_:Nat):Kont zt18:=finK zf5.C (Func.results Tryz.f138).toList zf5.ps zf5.res
noncomputable def zf5.K1 (n:Nat):Kont zt18:=seqK (fun s' k=>joinE zf5.A.joins (codeAt Tryz.f138 [1,1,1,1,1,1]) (fun s''=>evalC zf5.C zf5.A n (codeAt Tryz.f138 [1,1,1,1,1,1]) s'' k) s') (zf5.K0 n)
noncomputable def zf5.K2 (n:Nat):Kont zt18:=blockK 0 (zf5.K1 n)
noncomputable def zf5.K3 (n m7:Nat):Kont zt18:=loopK (cutAt zf5.A.loops (codeAt Tryz.f138 [1,1,1,1,1,0,1,0,0])) (fun s k=>evalC zf5.C zf5.A n (codeAt Tryz.f138 [1,1,1,1,1,0,1,0,0]) s k) m7 (zf5.K2 n)
noncomputable def zf5.K4 (n m7:Nat):Kont zt18:=seqK (fun s' k=>joinE zf5.A.joins (codeAt Tryz.f138 [1,1,1,1,1,0,1,0,0,1,1]) (fun s''=>evalC zf5.C zf5.A n (codeAt Tryz.f138 [1,1,1,1,1,0,1,0,0,1,1]) s'' k) s') (zf5.K3 n m7)
noncomputable def zf5.K5 (n m7:Nat):Kont zt18:=blockK 1 (zf5.K4 n m7)
noncomputable def zf5.K6 (n m7:Nat):Kont zt18:=blockK 2 (zf5.K5 n m7)
noncomputable def zf5.K7 (n m7 m10:Nat):Kont zt18:=loopK (cutAt zf5.A.loops (codeAt Tryz.f138 [1,1,1,1,1,0,1,0,0,1,0,0,1,0,0])) (fun s k=>evalC zf5.C zf5.A n (codeAt Tryz.f138 [1,1,1,1,1,0,1,0,0,1,0,0,1,0,0]) s k) m10 (zf5.K6 n m7)
noncomputable def zf5.K8 (n m7 m10:Nat):Kont zt18:=seqK (fun s' k=>joinE zf5.A.joins (codeAt Tryz.f138 [1,1,1,1,1,0,1,0,0,1,0,0,1,0,0,1,1,1]) (fun s''=>evalC zf5.C zf5.A n (codeAt Tryz.f138 [1,1,1,1,1,0,1,0,0,1,0,0,1,0,0,1,1,1]) s'' k) s') (zf5.K7 n m7 m10)
noncomputable def zf5.K9 (n m7 m10:Nat):Kont zt18:=blockK 3 (zf5.K8 n m7 m10)
noncomputable def zf5.K10 (n m7 m10:Nat):Kont zt18:=blockK 4 (zf5.K9 n m7 m10)
noncomputable def zf5.l7 (n m7:Nat) (x1:List zt19) (x10 x12:Int) (r90 r91:List Int):Option zt18:=loopE (cutAt zf5.A.loops (codeAt Tryz.f138 [1,1,1,1,1,0,1,0,0])) (fun s k=>evalC zf5.C zf5.A n (codeAt Tryz.f138 [1,1,1,1,1,0,1,0,0]) s k) m7 (St.of 90 154 [(1,.val (.slice zt8) x1),(9,.own 90),(10,.val (.int .i64) x10),(11,.own 91),(12,.val (.int .i64) x12)] [(90,.row (.int .i64) 3 r90),(91,.row (.int .i64) 3 r91)] []) (zf5.K2 n)
noncomputable def zf5.l10 (n m7 m10:Nat) (x1:List zt19) (x10 x12:Int) (x49:List zt19) (x50 x51:Int) (r90 r91:List Int):Option zt18:=loopE (cutAt zf5.A.loops (codeAt Tryz.f138 [1,1,1,1,1,0,1,0,0,1,0,0,1,0,0])) (fun s k=>evalC zf5.C zf5.A n (codeAt Tryz.f138 [1,1,1,1,1,0,1,0,0,1,0,0,1,0,0]) s k) m10 (St.of 90 154 [(1,.val (.slice zt8) x1),(9,.own 90),(10,.val (.int .i64) x10),(11,.own 91),(12,.val (.int .i64) x12),(49,.val (.slice zt8) x49),(50,.val (.int .i64) x50),(51,.val (.int .i64) x51)] [(90,.row (.int .i64) 3 r90),(91,.row (.int .i64) 3 r91)] []) (zf5.K6 n m7)
noncomputable def zf5.l16 (n m7 m10 m16:Nat) (x1:List zt19) (x10 x12:Int) (x49:List zt19) (x50 x51:Int) (x72 x73:Int) (r90 r91 r92:List Int):Option zt18:=loopE (cutAt zf5.A.loops (codeAt Tryz.f138 [1,1,1,1,1,0,1,0,0,1,0,0,1,0,0,1,1,0,0,1,1,1,1,1,0,0])) (fun s k=>evalC zf5.C zf5.A n (codeAt Tryz.f138 [1,1,1,1,1,0,1,0,0,1,0,0,1,0,0,1,1,0,0,1,1,1,1,1,0,0]) s k) m16 (St.of 90 154 [(1,.val (.slice zt8) x1),(9,.own 90),(10,.val (.int .i64) x10),(11,.own 91),(12,.val (.int .i64) x12),(49,.val (.slice zt8) x49),(50,.val (.int .i64) x50),(51,.val (.int .i64) x51),(71,.own 92),(72,.val (.int .i64) x72),(73,.val (.int .i64) x73)] [(90,.row (.int .i64) 3 r90),(91,.row (.int .i64) 3 r91),(92,.row (.int .i64) 3 r92)] []) (zf5.K10 n m7 m10)
theorem zf5.eq (n:Nat) (x0:List Int) (x1:List zt19) (x2:Int):zf5 n (x0,x1,x2)=((zf47 n x0).bind fun y0=>(if (!y0)=Bool.true then some (([],(-1),[])) else ((zf28 n (x1,(↑(List.length x0):Int))).bind fun y1=>(if (!y1)=Bool.true then some (([],(-1),[])) else (if x2<0 then some (([],(-1),[])) else (if x2≥(↑(List.length x0):Int) then some (([],(-1),[])) else ((zf72 n x0).bind fun y2=>zf5.l7 n n (x1) (0) (0) (y2) (List.set (List.replicate 1 0) 0 x2)))))))):=by kernel_rfl
theorem zf5.l7_succ (n m7:Nat) (x1:List zt19) (x10 x12:Int) (r90 r91:List Int):zf5.l7 n (m7+1) x1 x10 x12 r90 r91=(if x12<(↑(List.length r91):Int) then zf5.l10 n m7 n (x1) (x10) (x12) (x1) ((↑(List.length x1):Int)) (0) (r90) (r91) else some ((r90,x10,r91))):=by kernel_rfl
theorem zf5.l10_succ (n m7 m10:Nat) (x1:List zt19) (x10 x12:Int) (x49:List zt19) (x50 x51:Int) (r90 r91:List Int):zf5.l10 n m7 (m10+1) x1 x10 x12 x49 x50 x51 r90 r91=(if x51<x50 then (if 0≤x51 then (if x51<(↑(List.length x49):Int) then (if 0≤x12 then (if x12<(↑(List.length r91):Int) then (if Prod.fst (List.getD x49 (Int.toNat x51) (0,0,[]))=List.getD r91 (Int.toNat x12) 0 then ((zf36 n (r90,Prod.fst (List.getD x49 (Int.toNat x51) (0,0,[])),Prod.fst (Prod.snd (List.getD x49 (Int.toNat x51) (0,0,[]))),Prod.snd (Prod.snd (List.getD x49 (Int.toNat x51) (0,0,[]))))).bind fun y3=>zf5.l16 n m7 m10 n (x1) (Go.RowKit.wrap64 (x10+y3.1)) (x12) (x49) (x50) (x51) ((↑(List.length y3.2.1):Int)) (0) y3.2.2 (r91) y3.2.1) else zf5.l10 n m7 m10 (x1) (x10) (x12) (x49) (x50) (Go.RowKit.wrap64 (x51+1)) (r90) (r91)) else none) else none) else none) else none) else zf5.l7 n m7 (x1) (x10) (Go.RowKit.wrap64 (x12+1)) (r90) (r91)):=by kernel_rfl
theorem zf5.l16_succ (n m7 m10 m16:Nat) (x1:List zt19) (x10 x12:Int) (x49:List zt19) (x50 x51:Int) (x72 x73:Int) (r90 r91 r92:List Int):zf5.l16 n m7 m10 (m16+1) x1 x10 x12 x49 x50 x51 x72 x73 r90 r91 r92=(if x73<x72 then (if 0≤x73 then (if x73<(↑(List.length r92):Int) then ((zf73 n (r91,List.getD r92 (Int.toNat x73) 0)).bind fun y4=>(if (!y4)=true then (if List.length r91+List.length (List.set (List.replicate (1:Nat) (0:Int)) (0:Nat) (List.getD r92 (Int.toNat x73) (0:Int)))≤Go.Refl.maxN then zf5.l16 n m7 m10 m16 (x1) (x10) (x12) (x49) (x50) (x51) (x72) (Go.RowKit.wrap64 (x73+1)) (r90) (r91++List.set (List.replicate 1 0) 0 (List.getD r92 (Int.toNat x73) 0)) (r92) else none) else zf5.l16 n m7 m10 m16 (x1) (x10) (x12) (x49) (x50) (x51) (x72) (Go.RowKit.wrap64 (x73+1)) (r90) (r91) (r92))) else none) else none) else zf5.l10 n m7 m10 (x1) (x10) (x12) (x49) (x50) (Go.RowKit.wrap64 (x51+1)) (r90) (r91)):=by kernel_rfl
noncomputable abbrev zf5.sg (n:Nat):Sig:=⟨zf5.ps,zf5.res,zf5 n⟩
theorem zf5.call:Callable Tryz.prog 138:=⟨Tryz.f138,Tryz.func138,by kernel_rfl,by kernel_rfl⟩
theorem zf5.ok (n:Nat):FC Tryz.prog [] 138 (zf5.sg n):=
  evalF_ok (C:=zf5.C) ⟨tb_ok,fun n _ _ h=>tabOk (l:=[(32,(zf47.sg n)),(33,(zf28.sg n)),(75,(zf72.sg n)),(164,(zf36.sg n)),(74,(zf73.sg n))]) (all_cons ⟨zf47.ok n,zf47.call⟩ (all_cons ⟨zf28.ok n,zf28.call⟩ (all_cons ⟨zf72.ok n,zf72.call⟩ (all_cons ⟨zf36.ok n,zf36.call⟩ (all_cons ⟨zf73.ok n,zf73.call⟩ (all_nil)))))) h,mixed,ar_ok,bld_ok,pts_ok⟩ zf5.A Tryz.func138 zf5.ps zf5.res n
abbrev zf8.ps:List Pm:=[.arg (.v zt8),.vp (.slice (.int .i64))]
abbrev zf8.res:List M:=[.v .bool]
noncomputable def zf8.C:Cfg:={ tb:=tb,tab:=fun n f=>Refl.look [(74,(zf73.sg n))] f,gl:=[],ar:=ar,bld:=bld,pts:=pts }
noncomputable def zf8.A:Ann:={ joins:=[],loops:=[],ids:=[(1,[(7,[])])],pids:=[],nroots:=72 }
noncomputable def zf8 (n:Nat) (x:zt19 × List Int):Option (Bool):=evalF zf8.C zf8.A Tryz.f140 zf8.ps zf8.res n x
theorem zf8.eq (n:Nat) (x0:Int × Int × List Int) (x1:List Int):zf8 n (x0,x1)=((zf73 n (x1,x0.1)).bind fun y0=>some (y0)):=by kernel_rfl
noncomputable abbrev zf8.sg (n:Nat):Sig:=⟨zf8.ps,zf8.res,zf8 n⟩
theorem zf8.call:Callable Tryz.prog 140:=⟨Tryz.f140,Tryz.func140,by kernel_rfl,by kernel_rfl⟩
theorem zf8.ok (n:Nat):FC Tryz.prog [] 140 (zf8.sg n):=
  evalF_ok (C:=zf8.C) ⟨tb_ok,fun n _ _ h=>tabOk (l:=[(74,(zf73.sg n))]) (all_cons ⟨zf73.ok n,zf73.call⟩ (all_nil)) h,mixed,ar_ok,bld_ok,pts_ok⟩ zf8.A Tryz.func140 zf8.ps zf8.res n
abbrev zf76.ps:List Pm:=[.arg (.v (.slice zt8)),.fnc 140 [(.slice (.int .i64))]]
abbrev zf76.res:List M:=[.v (.int .i64)]
noncomputable def zf76.C:Cfg:={ tb:=tb,tab:=fun n f=>Refl.look [(140,(zf8.sg n))] f,gl:=[],ar:=ar,bld:=bld,pts:=pts }
noncomputable def zf76.A:Ann:={ joins:=[],loops:=[(2,{ live:=[0,1,7,8],base:=19 })],ids:=[(4,[(16,[])])],pids:=[],nroots:=83 }
noncomputable def zf76 (n:Nat) (x:List zt19 × List Int):Option (Int):=evalF zf76.C zf76.A Tryz.f165 zf76.ps zf76.res n x
noncomputable def zf76.K0 (_:Nat):Kont (Int):=finK zf76.C (Func.results Tryz.f165).toList zf76.ps zf76.res
noncomputable def zf76.K1 (n:Nat):Kont (Int):=seqK (fun s' k=>joinE zf76.A.joins (codeAt Tryz.f165 [1,1]) (fun s''=>evalC zf76.C zf76.A n (codeAt Tryz.f165 [1,1]) s'' k) s') (zf76.K0 n)
noncomputable def zf76.K2 (n:Nat):Kont (Int):=blockK 0 (zf76.K1 n)
noncomputable def zf76.l2 (n m2:Nat) (x0:List zt19) (x1_0:List (List Int)) (x7 x8:Int):Option (Int):=loopE (cutAt zf76.A.loops (codeAt Tryz.f165 [1,0,1,0,0])) (fun s k=>evalC zf76.C zf76.A n (codeAt Tryz.f165 [1,0,1,0,0]) s k) m2 (St.of 19 83 [(0,.val (.slice zt8) x0),(1,.fn 140 [.vptr (.slice (.int .i64)) x1_0 0 0]),(7,.val (.int .i64) x7),(8,.val (.int .i64) x8)] [] []) (zf76.K2 n)
theorem zf76.eq (n:Nat) (x0:List zt19) (x1:List Int):zf76 n (x0,x1)=zf76.l2 n n (x0) ([x1]) ((↑(List.length x0):Int)) (0):=by kernel_rfl
theorem zf76.l2_succ (n m2:Nat) (x0:List zt19) (x1_0:List (List Int)) (x7 x8:Int):zf76.l2 n (m2+1) x0 x1_0 x7 x8=(if x8<x7 then (if 0≤x8 then (if x8<(↑(List.length x0):Int) then ((zf8 n (List.getD x0 (Int.toNat x8) (0,0,[]),List.getD x1_0 0 [])).bind fun y0=>(if (y0)=true then some (x8) else zf76.l2 n m2 (x0) (x1_0) (x7) (Go.RowKit.wrap64 (x8+1)))) else none) else none) else some ((-1))):=by kernel_rfl
noncomputable abbrev zf76.sg (n:Nat):Sig:=⟨zf76.ps,zf76.res,zf76 n⟩
theorem zf76.call:Callable Tryz.prog 165:=⟨Tryz.f165,Tryz.func165,by kernel_rfl,by kernel_rfl⟩
theorem zf76.ok (n:Nat):FC Tryz.prog [] 165 (zf76.sg n):=
  evalF_ok (C:=zf76.C) ⟨tb_ok,fun n _ _ h=>tabOk (l:=[(140,(zf8.sg n))]) (all_cons ⟨zf8.ok n,zf8.call⟩ (all_nil)) h,mixed,ar_ok,bld_ok,pts_ok⟩ zf76.A Tryz.func165 zf76.ps zf76.res n
abbrev zf74.ps:List Pm:=[.arg (.own zt8 100),.fnc 140 [(.slice (.int .i64))]]
abbrev zf74.res:List M:=[(.own zt8 100)]
noncomputable def zf74.C:Cfg:={ tb:=tb,tab:=fun n f=>Refl.look [(165,(zf76.sg n)),(140,(zf8.sg n))] f,gl:=[],ar:=ar,bld:=bld,pts:=pts }
noncomputable def zf74.A:Ann:={ joins:=[],loops:=[(5,{ live:=[0,1,5,6],base:=42 })],ids:=[(1,[(10,[])]),(8,[(28,[])])],pids:=[],nroots:=106 }
noncomputable def zf74 (n:Nat) (x:List zt19 × List Int):Option zt17:=evalF zf74.C zf74.A Tryz.f139 zf74.ps zf74.res n x
noncomputable def zf74.K0 (_:Nat):Kont zt17:=finK zf74.C (Func.results Tryz.f139).toList zf74.ps zf74.res
noncomputable def zf74.K1 (n:Nat):Kont zt17:=seqK (fun s' k=>joinE zf74.A.joins (codeAt Tryz.f139 [1,1,1,1]) (fun s''=>evalC zf74.C zf74.A n (codeAt Tryz.f139 [1,1,1,1]) s'' k) s') (zf74.K0 n)
noncomputable def zf74.K2 (n:Nat):Kont zt17:=blockK 0 (zf74.K1 n)
noncomputable def zf74.l5 (n m5:Nat) (x1_0:List (List Int)) (x5 x6:Int) (r42:List zt19):Option zt17:=loopE (cutAt zf74.A.loops (codeAt Tryz.f139 [1,1,1,0,1,0,0])) (fun s k=>evalC zf74.C zf74.A n (codeAt Tryz.f139 [1,1,1,0,1,0,0]) s k) m5 (St.of 42 106 [(0,.own 42),(1,.fn 140 [.vptr (.slice (.int .i64)) x1_0 0 0]),(5,.val (.int .i64) x5),(6,.val (.int .i64) x6)] [(42,.row zt8 100 r42)] []) (zf74.K2 n)
theorem zf74.eq (n:Nat) (x0:List zt19) (x1:List Int):zf74 n (x0,x1)=((zf76 n (x0,x1)).bind fun y0=>(if y0=(-1) then some (x0) else zf74.l5 n n ([x1]) (y0) (Go.RowKit.wrap64 (y0+1)) (x0))):=by kernel_rfl
theorem zf74.l5_succ (n m5:Nat) (x1_0:List (List Int)) (x5 x6:Int) (r42:List zt19):zf74.l5 n (m5+1) x1_0 x5 x6 r42=(if x6<(↑(List.length r42):Int) then (if 0≤x6 then (if x6<(↑(List.length r42):Int) then ((zf8 n ((Prod.fst (List.getD r42 (Int.toNat x6) (0,0,[])),Prod.fst (Prod.snd (List.getD r42 (Int.toNat x6) (0,0,[]))),Prod.snd (Prod.snd (List.getD r42 (Int.toNat x6) (0,0,[])))),List.getD x1_0 0 [])).bind fun y1=>(if (!y1)=true then (if 0≤x5 then (if x5<(↑(List.length r42):Int) then zf74.l5 n m5 (x1_0) (Go.RowKit.wrap64 (x5+1)) (Go.RowKit.wrap64 (x6+1)) (List.set r42 (Int.toNat x5) (Prod.fst (List.getD r42 (Int.toNat x6) (0,0,[])),Prod.fst (Prod.snd (List.getD r42 (Int.toNat x6) (0,0,[]))),Prod.snd (Prod.snd (List.getD r42 (Int.toNat x6) (0,0,[]))))) else none) else none) else zf74.l5 n m5 (x1_0) (x5) (Go.RowKit.wrap64 (x6+1)) (r42))) else none) else none) else (if 0≤x5 then (if x5≤(↑(List.length r42):Int) then (if 0≤x5 then (if x5≤(↑(List.length (List.take (Int.toNat x5) r42++List.replicate (List.length r42-Int.toNat x5) ((0:Int),(0:Int),[])++List.drop (Int.toNat x5+(List.length r42-Int.toNat x5)) r42)):Int) then some (List.take (Int.toNat x5-0) (List.take (Int.toNat x5) r42++List.replicate (List.length r42-Int.toNat x5) (0,0,[])++List.drop (Int.toNat x5+(List.length r42-Int.toNat x5)) r42)) else none) else none) else none) else none)):=by kernel_rfl
noncomputable abbrev zf74.sg (n:Nat):Sig:=⟨zf74.ps,zf74.res,zf74 n⟩
theorem zf74.call:Callable Tryz.prog 139:=⟨Tryz.f139,Tryz.func139,by kernel_rfl,by kernel_rfl⟩
theorem zf74.ok (n:Nat):FC Tryz.prog [] 139 (zf74.sg n):=
  evalF_ok (C:=zf74.C) ⟨tb_ok,fun n _ _ h=>tabOk (l:=[(165,(zf76.sg n)),(140,(zf8.sg n))]) (all_cons ⟨zf76.ok n,zf76.call⟩ (all_cons ⟨zf8.ok n,zf8.call⟩ (all_nil))) h,mixed,ar_ok,bld_ok,pts_ok⟩ zf74.A Tryz.func139 zf74.ps zf74.res n
abbrev zf7.ps:List Pm:=[.box 26 (.pr (.own (.int .i64) 3) (.pr (.own zt8 100) (.v zt13))),.arg (.v (.int .i64))]
abbrev zf7.res:List M:=[.v .bool]
noncomputable def zf7.C:Cfg:={ tb:=tb,tab:=fun n f=>Refl.look [(138,(zf5.sg n)),(139,(zf74.sg n))] f,gl:=[],ar:=ar,bld:=bld,pts:=pts }
noncomputable def zf7.A:Ann:={ joins:=[],loops:=[],ids:=[(1,[(18,[77,78])])],pids:=[(0,[101,102])],nroots:=109 }
noncomputable def zf7 (n:Nat) (x:zt10 × Int):Option (Bool × List Int × List zt19 × Int × Int × Int):=evalF zf7.C zf7.A Tryz.f114 zf7.ps zf7.res n x
theorem zf7.eq (n:Nat) (x0:List Int × List zt19 × Int × Int × Int) (x1:Int):zf7 n (x0,x1)=((zf5 n (x0.1,x0.2.1,x1)).bind fun y2=>(if y2.2.1<0 then some ((Bool.false,x0.1,x0.2.1,x0.2.2.1,x0.2.2.2.1,x0.2.2.2.2)) else ((zf74 n (x0.2.1,y2.2.2)).bind fun y3=>some ((Bool.true,y2.1,y3,x0.2.2.1,Go.RowKit.wrap64 (x0.2.2.2.1-y2.2.1),x0.2.2.2.2))))):=by kernel_rfl
noncomputable abbrev zf7.sg (n:Nat):Sig:=⟨zf7.ps,zf7.res,zf7 n⟩
theorem zf7.call:Callable Tryz.prog 114:=⟨Tryz.f114,Tryz.func114,by kernel_rfl,by kernel_rfl⟩
theorem zf7.ok (n:Nat):FC Tryz.prog [] 114 (zf7.sg n):=
  evalF_ok (C:=zf7.C) ⟨tb_ok,fun n _ _ h=>tabOk (l:=[(138,(zf5.sg n)),(139,(zf74.sg n))]) (all_cons ⟨zf5.ok n,zf5.call⟩ (all_cons ⟨zf74.ok n,zf74.call⟩ (all_nil))) h,mixed,ar_ok,bld_ok,pts_ok⟩ zf7.A Tryz.func114 zf7.ps zf7.res n
abbrev zf46.ps:List Pm:=[.arg (.v (.int .i64)),.arg (.v zt16)]
abbrev zf46.res:List M:=[.v .bool]
noncomputable def zf46.C:Cfg:={ tb:=tb,tab:=fun n f=>Refl.look [(141,(zf29.sg n))] f,gl:=[],ar:=ar,bld:=bld,pts:=pts }
noncomputable def zf46.A:Ann:={ joins:=[],loops:=[],ids:=[(1,[(13,[])])],pids:=[],nroots:=79 }
noncomputable def zf46 (n:Nat) (x:Int × Int × Int):Option (Bool):=evalF zf46.C zf46.A Tryz.f166 zf46.ps zf46.res n x
theorem zf46.eq (n:Nat) (x0:Int) (x1:Int × Int):zf46 n (x0,x1)=(if x0≥0 then (if x0≤1000000 then ((zf29 n (x1.1,x1.2)).bind fun y0=>some (y0)) else some (Bool.false)) else some (Bool.false)):=by kernel_rfl
noncomputable abbrev zf46.sg (n:Nat):Sig:=⟨zf46.ps,zf46.res,zf46 n⟩
theorem zf46.call:Callable Tryz.prog 166:=⟨Tryz.f166,Tryz.func166,by kernel_rfl,by kernel_rfl⟩
theorem zf46.ok (n:Nat):FC Tryz.prog [] 166 (zf46.sg n):=
  evalF_ok (C:=zf46.C) ⟨tb_ok,fun n _ _ h=>tabOk (l:=[(141,(zf29.sg n))]) (all_cons ⟨zf29.ok n,zf29.call⟩ (all_nil)) h,mixed,ar_ok,bld_ok,pts_ok⟩ zf46.A Tryz.func166 zf46.ps zf46.res n
abbrev zf21.ps:List Pm:=[.arg (.v (.int .i64)),.arg (.v zt16)]
abbrev zf21.res:List M:=[.v (.int .i64)]
noncomputable def zf21.C:Cfg:={ tb:=tb,tab:=fun n f=>Refl.look [(166,(zf46.sg n))] f,gl:=[],ar:=ar,bld:=bld,pts:=pts }
noncomputable def zf21.A:Ann:={ joins:=[],loops:=[],ids:=[(1,[(9,[])])],pids:=[],nroots:=108 }
noncomputable def zf21 (n:Nat) (x:Int × Int × Int):Option (Int):=evalF zf21.C zf21.A Tryz.f142 zf21.ps zf21.res n x
theorem zf21.eq (n:Nat) (x0:Int) (x1:Int × Int):zf21 n (x0,x1)=((zf46 n (x0,x1.1,x1.2)).bind fun y0=>(if (!y0)=true then some ((-1)) else (if x1.2=0 then none else (if x1.2=0 then none else (if Go.RowKit.wrap64 (2*Int.tmod (Go.RowKit.wrap64 (x0*x1.1)) x1.2) > x1.2 then some (Go.RowKit.wrap64 (Go.RowKit.wrap64 (Int.tdiv (Go.RowKit.wrap64 (x0*x1.1)) x1.2)+1)) else (if Go.RowKit.wrap64 (2*Int.tmod (Go.RowKit.wrap64 (x0*x1.1)) x1.2)=x1.2 then (if Int.tmod (Go.RowKit.wrap64 (Int.tdiv (Go.RowKit.wrap64 (x0*x1.1)) x1.2)) 2=1 then some (Go.RowKit.wrap64 (Go.RowKit.wrap64 (Int.tdiv (Go.RowKit.wrap64 (x0*x1.1)) x1.2)+1)) else some (Go.RowKit.wrap64 (Int.tdiv (Go.RowKit.wrap64 (x0*x1.1)) x1.2))) else some (Go.RowKit.wrap64 (Int.tdiv (Go.RowKit.wrap64 (x0*x1.1)) x1.2)))))))):=by kernel_rfl
noncomputable abbrev zf21.sg (n:Nat):Sig:=⟨zf21.ps,zf21.res,zf21 n⟩
theorem zf21.call:Callable Tryz.prog 142:=⟨Tryz.f142,Tryz.func142,by kernel_rfl,by kernel_rfl⟩
theorem zf21.ok (n:Nat):FC Tryz.prog [] 142 (zf21.sg n):=
  evalF_ok (C:=zf21.C) ⟨tb_ok,fun n _ _ h=>tabOk (l:=[(166,(zf46.sg n))]) (all_cons ⟨zf46.ok n,zf46.call⟩ (all_nil)) h,mixed,ar_ok,bld_ok,pts_ok⟩ zf21.A Tryz.func142 zf21.ps zf21.res n
abbrev zf11.ps:List Pm:=[.box 26 (.pr (.own (.int .i64) 3) (.pr (.own zt8 100) (.v zt13))),.arg (.v zt16)]
abbrev zf11.res:List M:=[.v .bool]
noncomputable def zf11.C:Cfg:={ tb:=tb,tab:=fun n f=>Refl.look [(141,(zf29.sg n)),(142,(zf21.sg n))] f,gl:=[],ar:=ar,bld:=bld,pts:=pts }
noncomputable def zf11.A:Ann:={ joins:=[],loops:=[(4,{ live:=[0,3,14,15],base:=56 })],ids:=[(1,[(8,[])]),(6,[(27,[])])],pids:=[(0,[112,113])],nroots:=120 }
noncomputable def zf11 (n:Nat) (x:zt10 × Int × Int):Option (Bool × List Int × List zt19 × Int × Int × Int):=evalF zf11.C zf11.A Tryz.f115 zf11.ps zf11.res n x
noncomputable def zf11.K0 (_:Nat):Kont (Bool × List Int × List zt19 × Int × Int × Int):=finK zf11.C (Func.results Tryz.f115).toList zf11.ps zf11.res
noncomputable def zf11.K1 (n:Nat):Kont (Bool × List Int × List zt19 × Int × Int × Int):=seqK (fun s' k=>joinE zf11.A.joins (codeAt Tryz.f115 [1,1,1]) (fun s''=>evalC zf11.C zf11.A n (codeAt Tryz.f115 [1,1,1]) s'' k) s') (zf11.K0 n)
noncomputable def zf11.K2 (n:Nat):Kont (Bool × List Int × List zt19 × Int × Int × Int):=blockK 0 (zf11.K1 n)
noncomputable def zf11.l4 (n m4:Nat) (x14 x15:Int) (r0_2 r0_3:Int) (r0_4 r56_0 r56_1:Int) (r57:List Int) (r58:List zt19):Option (Bool × List Int × List zt19 × Int × Int × Int):=loopE (cutAt zf11.A.loops (codeAt Tryz.f115 [1,1,0,1,0,0])) (fun s k=>evalC zf11.C zf11.A n (codeAt Tryz.f115 [1,1,0,1,0,0]) s k) m4 (St.of 56 120 [(0,.ptr 0 0 0),(3,.ptr 56 0 0),(14,.val (.int .i64) x14),(15,.val (.int .i64) x15)] [(0,.box 26 [.own 57,.own 58,.val (.int .i64) r0_2,.val (.int .i64) r0_3,.val (.int .i64) r0_4]),(56,.box 70 [.val (.int .i64) r56_0,.val (.int .i64) r56_1]),(57,.row (.int .i64) 3 r57),(58,.row zt8 100 r58)] [0]) (zf11.K2 n)
theorem zf11.eq (n:Nat) (x0:List Int × List zt19 × Int × Int × Int) (x1:Int × Int):zf11 n (x0,x1)=((zf29 n (x1.1,x1.2)).bind fun y0=>(if (!y0)=true then some ((Bool.false,x0.1,x0.2.1,x0.2.2.1,x0.2.2.2.1,x0.2.2.2.2)) else zf11.l4 n n ((↑(List.length x0.2.1):Int)) (0) x0.2.2.1 x0.2.2.2.1 x0.2.2.2.2 x1.1 x1.2 x0.1 x0.2.1)):=by kernel_rfl
theorem zf11.l4_succ (n m4:Nat) (x14 x15:Int) (r0_2 r0_3:Int) (r0_4 r56_0 r56_1:Int) (r57:List Int) (r58:List zt19):zf11.l4 n (m4+1) x14 x15 r0_2 r0_3 r0_4 r56_0 r56_1 r57 r58=(if x15<x14 then (if 0≤x15 then (if x15<(↑(List.length r58):Int) then ((zf21 n (Prod.fst (Prod.snd (List.getD r58 (Int.toNat x15) (0,0,[]))),r56_0,r56_1)).bind fun y1=>(if 0≤x15 then (if x15<(↑(List.length r58):Int) then (if 0≤x15 then (if x15<(↑(List.length r58):Int) then zf11.l4 n m4 (x14) (Go.RowKit.wrap64 (x15+1)) (r0_2) (Go.RowKit.wrap64 (r0_3+y1)) (r0_4) (r56_0) (r56_1) (r57) (List.set r58 (Int.toNat x15) (Prod.fst (List.getD r58 (Int.toNat x15) (0,0,[])),Go.RowKit.wrap64 (Prod.fst (Prod.snd (List.getD r58 (Int.toNat x15) (0,0,[])))+y1),Prod.snd (Prod.snd (List.getD r58 (Int.toNat x15) (0,0,[]))))) else none) else none) else none) else none)) else none) else none) else some ((Bool.true,r57,r58,r0_2,r0_3,Go.RowKit.wrap64 (r0_4+1)))):=by kernel_rfl
noncomputable abbrev zf11.sg (n:Nat):Sig:=⟨zf11.ps,zf11.res,zf11 n⟩
theorem zf11.call:Callable Tryz.prog 115:=⟨Tryz.f115,Tryz.func115,by kernel_rfl,by kernel_rfl⟩
theorem zf11.ok (n:Nat):FC Tryz.prog [] 115 (zf11.sg n):=
  evalF_ok (C:=zf11.C) ⟨tb_ok,fun n _ _ h=>tabOk (l:=[(141,(zf29.sg n)),(142,(zf21.sg n))]) (all_cons ⟨zf29.ok n,zf29.call⟩ (all_cons ⟨zf21.ok n,zf21.call⟩ (all_nil))) h,mixed,ar_ok,bld_ok,pts_ok⟩ zf11.A Tryz.func115 zf11.ps zf11.res n
abbrev zf13.ps:List Pm:=[.box 26 (.pr (.own (.int .i64) 3) (.pr (.own zt8 100) (.v zt13)))]
abbrev zf13.res:List M:=[.v .bool]
noncomputable def zf13.C:Cfg:={ tb:=tb,tab:=fun n f=>Refl.look [(122,(zf26.sg n))] f,gl:=[],ar:=ar,bld:=bld,pts:=pts }
noncomputable def zf13.A:Ann:={ joins:=[],loops:=[(4,{ live:=[0,19,20,21],base:=40 })],ids:=[],pids:=[(0,[96,97])],nroots:=104 }
noncomputable def zf13 (n:Nat) (x:List Int × List zt19 × Int × Int × Int):Option (Bool × List Int × List zt19 × Int × Int × Int):=evalF zf13.C zf13.A Tryz.f116 zf13.ps zf13.res n x
noncomputable def zf13.K0 (_:Nat):Kont (Bool × List Int × List zt19 × Int × Int × Int):=finK zf13.C (Func.results Tryz.f116).toList zf13.ps zf13.res
noncomputable def zf13.K1 (n:Nat):Kont (Bool × List Int × List zt19 × Int × Int × Int):=seqK (fun s' k=>joinE zf13.A.joins (codeAt Tryz.f116 [1,1,1]) (fun s''=>evalC zf13.C zf13.A n (codeAt Tryz.f116 [1,1,1]) s'' k) s') (zf13.K0 n)
noncomputable def zf13.K2 (n:Nat):Kont (Bool × List Int × List zt19 × Int × Int × Int):=blockK 0 (zf13.K1 n)
noncomputable def zf13.l4 (n m4:Nat) (x20 x21:Int) (r0_2 r0_3 r0_4:Int) (r40 r41:List Int) (r42:List zt19):Option (Bool × List Int × List zt19 × Int × Int × Int):=loopE (cutAt zf13.A.loops (codeAt Tryz.f116 [1,1,0,1,0,0])) (fun s k=>evalC zf13.C zf13.A n (codeAt Tryz.f116 [1,1,0,1,0,0]) s k) m4 (St.of 40 104 [(0,.ptr 0 0 0),(19,.own 40),(20,.val (.int .i64) x20),(21,.val (.int .i64) x21)] [(0,.box 26 [.own 41,.own 42,.val (.int .i64) r0_2,.val (.int .i64) r0_3,.val (.int .i64) r0_4]),(40,.row (.int .i64) 3 r40),(41,.row (.int .i64) 3 r41),(42,.row zt8 100 r42)] [0]) (zf13.K2 n)
theorem zf13.eq (n:Nat) (x0:List Int × List zt19 × Int × Int × Int):zf13 n x0=(if x0.2.2.2.1<0 then some ((Bool.false,x0.1,x0.2.1,x0.2.2.1,x0.2.2.2.1,x0.2.2.2.2)) else ((zf26 n (x0.2.2.2.1,(↑(List.length x0.1):Int))).bind fun y0=>zf13.l4 n n ((↑(List.length y0):Int)) (0) x0.2.2.1 x0.2.2.2.1 x0.2.2.2.2 (y0) x0.1 x0.2.1)):=by kernel_rfl
theorem zf13.l4_succ (n m4:Nat) (x20 x21:Int) (r0_2 r0_3 r0_4:Int) (r40 r41:List Int) (r42:List zt19):zf13.l4 n (m4+1) x20 x21 r0_2 r0_3 r0_4 r40 r41 r42=(if x21<x20 then (if 0≤x21 then (if x21<(↑(List.length r40):Int) then (if 0≤x21 then (if x21<(↑(List.length r41):Int) then (if 0≤x21 then (if x21<(↑(List.length r41):Int) then zf13.l4 n m4 (x20) (Go.RowKit.wrap64 (x21+1)) (r0_2) (r0_3) (r0_4) (r40) (List.set r41 (Int.toNat x21) (Go.RowKit.wrap64 (List.getD r41 (Int.toNat x21) 0+List.getD r40 (Int.toNat x21) 0))) (r42) else none) else none) else none) else none) else none) else none) else some ((Bool.true,r41,r42,r0_2,0,r0_4))):=by kernel_rfl
noncomputable abbrev zf13.sg (n:Nat):Sig:=⟨zf13.ps,zf13.res,zf13 n⟩
theorem zf13.call:Callable Tryz.prog 116:=⟨Tryz.f116,Tryz.func116,by kernel_rfl,by kernel_rfl⟩
theorem zf13.ok (n:Nat):FC Tryz.prog [] 116 (zf13.sg n):=
  evalF_ok (C:=zf13.C) ⟨tb_ok,fun n _ _ h=>tabOk (l:=[(122,(zf26.sg n))]) (all_cons ⟨zf26.ok n,zf26.call⟩ (all_nil)) h,mixed,ar_ok,bld_ok,pts_ok⟩ zf13.A Tryz.func116 zf13.ps zf13.res n
abbrev zf6.ps:List Pm:=[.box 26 (.pr (.own (.int .i64) 3) (.pr (.own zt8 100) (.v zt13))),.arg (.v zt1)]
abbrev zf6.res:List M:=[.v .bool]
noncomputable def zf6.C:Cfg:={ tb:=tb,tab:=fun n f=>Refl.look [(111,(zf10.sg n)),(12,(zf24.sg n)),(112,(zf9.sg n)),(113,(zf12.sg n)),(114,(zf7.sg n)),(115,(zf11.sg n)),(116,(zf13.sg n))] f,gl:=[],ar:=ar,bld:=bld,pts:=pts }
noncomputable def zf6.A:Ann:={ joins:=[],loops:=[],ids:=[(3,[(14,[])]),(6,[(22,[97,98])]),(8,[(27,[100,101]),(37,[])]),(10,[(43,[104,105])]),(12,[(48,[107,108])]),(14,[(54,[110,111])]),(16,[(60,[113,114])]),(18,[(64,[116,117])])],pids:=[(0,[121,122])],nroots:=129 }
noncomputable def zf6 (n:Nat) (x:zt10 × Int × Int × Int × Int × List Int × Int × Int):Option (Bool × List Int × List zt19 × Int × Int × Int):=evalF zf6.C zf6.A Tryz.f77 zf6.ps zf6.res n x
theorem zf6.eq (n:Nat) (x0:List Int × List zt19 × Int × Int × Int) (x1:Int × Int × Int × Int × List Int × Int × Int):zf6 n (x0,x1)=(if x1.1=0 then (if List.length x0.1+List.length (List.set (List.replicate (1:Nat) (0:Int)) (0:Nat) (0:Int))≤Go.Refl.maxN then some ((Bool.true,x0.1++List.set (List.replicate 1 0) 0 0,x0.2.1,x0.2.2.1,x0.2.2.2.1,x0.2.2.2.2)) else none) else (if x1.1=1 then ((zf10 n ((x0.1,x0.2.1,x0.2.2.1,x0.2.2.2.1,x0.2.2.2.2),(x1.1,x1.2.1,x1.2.2.1,x1.2.2.2.1,x1.2.2.2.2.1,x1.2.2.2.2.2.1,x1.2.2.2.2.2.2),1)).bind fun y2=>some ((y2.1,y2.2.1,y2.2.2.1,y2.2.2.2.1,y2.2.2.2.2.1,y2.2.2.2.2.2))) else (if x1.1=2 then ((zf10 n ((x0.1,x0.2.1,x0.2.2.1,x0.2.2.2.1,x0.2.2.2.2),(x1.1,x1.2.1,x1.2.2.1,x1.2.2.2.1,x1.2.2.2.2.1,x1.2.2.2.2.2.1,x1.2.2.2.2.2.2),(-1))).bind fun y5=>(if y5.1=Bool.true then ((zf24 n (y5.2.1,y5.2.2.1)).bind fun y6=>some ((y6,y5.2.1,y5.2.2.1,y5.2.2.2.1,y5.2.2.2.2.1,y5.2.2.2.2.2))) else some ((Bool.false,y5.2.1,y5.2.2.1,y5.2.2.2.1,y5.2.2.2.2.1,y5.2.2.2.2.2)))) else (if x1.1=3 then ((zf9 n ((x0.1,x0.2.1,x0.2.2.1,x0.2.2.2.1,x0.2.2.2.2),x1.1,x1.2.1,x1.2.2.1,x1.2.2.2.1,x1.2.2.2.2.1,x1.2.2.2.2.2.1,x1.2.2.2.2.2.2)).bind fun y9=>some ((y9.1,y9.2.1,y9.2.2.1,y9.2.2.2.1,y9.2.2.2.2.1,y9.2.2.2.2.2))) else (if x1.1=4 then ((zf12 n ((x0.1,x0.2.1,x0.2.2.1,x0.2.2.2.1,x0.2.2.2.2),x1.1,x1.2.1,x1.2.2.1,x1.2.2.2.1,x1.2.2.2.2.1,x1.2.2.2.2.2.1,x1.2.2.2.2.2.2)).bind fun y12=>some ((y12.1,y12.2.1,y12.2.2.1,y12.2.2.2.1,y12.2.2.2.2.1,y12.2.2.2.2.2))) else (if x1.1=5 then ((zf7 n ((x0.1,x0.2.1,x0.2.2.1,x0.2.2.2.1,x0.2.2.2.2),x1.2.1)).bind fun y15=>some ((y15.1,y15.2.1,y15.2.2.1,y15.2.2.2.1,y15.2.2.2.2.1,y15.2.2.2.2.2))) else (if x1.1=6 then ((zf11 n ((x0.1,x0.2.1,x0.2.2.1,x0.2.2.2.1,x0.2.2.2.2),x1.2.2.2.2.2.1,x1.2.2.2.2.2.2)).bind fun y18=>some ((y18.1,y18.2.1,y18.2.2.1,y18.2.2.2.1,y18.2.2.2.2.1,y18.2.2.2.2.2))) else (if x1.1=7 then ((zf13 n (x0.1,x0.2.1,x0.2.2.1,x0.2.2.2.1,x0.2.2.2.2)).bind fun y21=>some ((y21.1,y21.2.1,y21.2.2.1,y21.2.2.2.1,y21.2.2.2.2.1,y21.2.2.2.2.2))) else some ((Bool.false,x0.1,x0.2.1,x0.2.2.1,x0.2.2.2.1,x0.2.2.2.2)))))))))):=by kernel_rfl
noncomputable abbrev zf6.sg (n:Nat):Sig:=⟨zf6.ps,zf6.res,zf6 n⟩
theorem zf6.call:Callable Tryz.prog 77:=⟨Tryz.f77,Tryz.func77,by kernel_rfl,by kernel_rfl⟩
theorem zf6.ok (n:Nat):FC Tryz.prog [] 77 (zf6.sg n):=
  evalF_ok (C:=zf6.C) ⟨tb_ok,fun n _ _ h=>tabOk (l:=[(111,(zf10.sg n)),(12,(zf24.sg n)),(112,(zf9.sg n)),(113,(zf12.sg n)),(114,(zf7.sg n)),(115,(zf11.sg n)),(116,(zf13.sg n))]) (all_cons ⟨zf10.ok n,zf10.call⟩ (all_cons ⟨zf24.ok n,zf24.call⟩ (all_cons ⟨zf9.ok n,zf9.call⟩ (all_cons ⟨zf12.ok n,zf12.call⟩ (all_cons ⟨zf7.ok n,zf7.call⟩ (all_cons ⟨zf11.ok n,zf11.call⟩ (all_cons ⟨zf13.ok n,zf13.call⟩ (all_nil)))))))) h,mixed,ar_ok,bld_ok,pts_ok⟩ zf6.A Tryz.func77 zf6.ps zf6.res n
abbrev zf2.ps:List Pm:=[.arg (.v zt0),.arg (.v zt1)]
abbrev zf2.res:List M:=[.v zt0,.v .bool]
noncomputable def zf2.C:Cfg:={ tb:=tb,tab:=fun n f=>Refl.look [(9,(zf27.sg n)),(36,(zf33.sg n)),(77,(zf6.sg n))] f,gl:=[],ar:=ar,bld:=bld,pts:=pts }
noncomputable def zf2.A:Ann:={ joins:=[],loops:=[],ids:=[(1,[(8,[])]),(3,[(12,[56,57])]),(4,[(14,[59,60]),(18,[])])],pids:=[],nroots:=87 }
noncomputable def zf2 (n:Nat) (x:zt10 × Int × Int × Int × Int × List Int × Int × Int):Option (zt10 × Bool):=evalF zf2.C zf2.A Tryz.f37 zf2.ps zf2.res n x
theorem zf2.eq (n:Nat) (x0:List Int × List zt19 × Int × Int × Int) (x1:Int × Int × Int × Int × List Int × Int × Int):zf2 n (x0,x1)=((zf27 n (x0.1,x0.2.1,x0.2.2.1,x0.2.2.2.1,x0.2.2.2.2)).bind fun y0=>(if (!y0)=true then some ((([],[],0,0,0),Bool.false)) else ((zf33 n (x0.1,x0.2.1,x0.2.2.1,x0.2.2.2.1,x0.2.2.2.2)).bind fun y3=>((zf6 n ((y3.1,y3.2.1,y3.2.2.1,y3.2.2.2.1,y3.2.2.2.2),x1.1,x1.2.1,x1.2.2.1,x1.2.2.2.1,x1.2.2.2.2.1,x1.2.2.2.2.2.1,x1.2.2.2.2.2.2)).bind fun y6=>(if (!y6.1)=Bool.true then some ((([],[],0,0,0),Bool.false)) else ((zf27 n (y6.2.1,y6.2.2.1,y6.2.2.2.1,y6.2.2.2.2.1,y6.2.2.2.2.2)).bind fun y7=>(if (!y7)=true then some ((([],[],0,0,0),Bool.false)) else some (((y6.2.1,y6.2.2.1,y6.2.2.2.1,y6.2.2.2.2.1,y6.2.2.2.2.2),Bool.true))))))))):=by kernel_rfl
noncomputable abbrev zf2.sg (n:Nat):Sig:=⟨zf2.ps,zf2.res,zf2 n⟩
theorem zf2.call:Callable Tryz.prog 37:=⟨Tryz.f37,Tryz.func37,by kernel_rfl,by kernel_rfl⟩
theorem zf2.ok (n:Nat):FC Tryz.prog [] 37 (zf2.sg n):=
  evalF_ok (C:=zf2.C) ⟨tb_ok,fun n _ _ h=>tabOk (l:=[(9,(zf27.sg n)),(36,(zf33.sg n)),(77,(zf6.sg n))]) (all_cons ⟨zf27.ok n,zf27.call⟩ (all_cons ⟨zf33.ok n,zf33.call⟩ (all_cons ⟨zf6.ok n,zf6.call⟩ (all_nil)))) h,mixed,ar_ok,bld_ok,pts_ok⟩ zf2.A Tryz.func37 zf2.ps zf2.res n
abbrev zf22.ps:List Pm:=[.arg (.v zt0),.arg (.v (.slice zt1))]
abbrev zf22.res:List M:=[.v zt0,.v .bool]
noncomputable def zf22.C:Cfg:={ tb:=tb,tab:=fun n f=>Refl.look [(9,(zf27.sg n)),(36,{ params:=zf33.ps,res:=[.v zt0],run:=zf33 n }),(37,(zf2.sg n))] f,gl:=[],ar:=ar,bld:=bld,pts:=pts }
noncomputable def zf22.A:Ann:={ joins:=[],loops:=[(5,{ live:=[4,6,22,23,24],base:=40 })],ids:=[(1,[(12,[])]),(3,[(21,[])]),(7,[(31,[])])],pids:=[],nroots:=104 }
noncomputable def zf22 (n:Nat) (x:zt10 × List zt14):Option (zt10 × Bool):=evalF zf22.C zf22.A Tryz.f10 zf22.ps zf22.res n x
noncomputable def zf22.K0 (_:Nat):Kont (zt10 × Bool):=finK zf22.C (Func.results Tryz.f10).toList zf22.ps zf22.res
noncomputable def zf22.K1 (n:Nat):Kont (zt10 × Bool):=seqK (fun s' k=>joinE zf22.A.joins (codeAt Tryz.f10 [1,1,1,1]) (fun s''=>evalC zf22.C zf22.A n (codeAt Tryz.f10 [1,1,1,1]) s'' k) s') (zf22.K0 n)
noncomputable def zf22.K2 (n:Nat):Kont (zt10 × Bool):=blockK 0 (zf22.K1 n)
noncomputable def zf22.l5 (n m5:Nat) (x22:List zt14) (x23 x24:Int) (r40_2 r40_3 r40_4:Int) (r41_0:List Int) (r41_1:List zt19) (r41_2 r41_3 r41_4:Int):Option (zt10 × Bool):=loopE (cutAt zf22.A.loops (codeAt Tryz.f10 [1,1,1,0,1,0,0])) (fun s k=>evalC zf22.C zf22.A n (codeAt Tryz.f10 [1,1,1,0,1,0,0]) s k) m5 (St.of 40 104 [(4,.ptr 40 0 0),(6,.ptr 41 0 0),(22,.val (.slice zt1) x22),(23,.val (.int .i64) x23),(24,.val (.int .i64) x24)] [(40,.box 26 [.nils,.nils,.val (.int .i64) r40_2,.val (.int .i64) r40_3,.val (.int .i64) r40_4]),(41,.box 26 [.val (.slice (.int .i64)) r41_0,.val (.slice zt8) r41_1,.val (.int .i64) r41_2,.val (.int .i64) r41_3,.val (.int .i64) r41_4])] []) (zf22.K2 n)
theorem zf22.eq (n:Nat) (x0:List Int × List zt19 × Int × Int × Int) (x1:List zt14):zf22 n (x0,x1)=((zf27 n (x0.1,x0.2.1,x0.2.2.1,x0.2.2.2.1,x0.2.2.2.2)).bind fun y0=>(if (!y0)=Bool.true then some ((([],[],0,0,0),Bool.false)) else (if (↑(List.length x1):Int) > 30 then some ((([],[],0,0,0),Bool.false)) else ((zf33 n (x0.1,x0.2.1,x0.2.2.1,x0.2.2.2.1,x0.2.2.2.2)).bind fun y1=>zf22.l5 n n (x1) ((↑(List.length x1):Int)) (0) (0) (0) (0) y1.1 y1.2.1 y1.2.2.1 y1.2.2.2.1 y1.2.2.2.2)))):=by kernel_rfl
theorem zf22.l5_succ (n m5:Nat) (x22:List zt14) (x23 x24:Int) (r40_2 r40_3 r40_4:Int) (r41_0:List Int) (r41_1:List zt19) (r41_2 r41_3 r41_4:Int):zf22.l5 n (m5+1) x22 x23 x24 r40_2 r40_3 r40_4 r41_0 r41_1 r41_2 r41_3 r41_4=(if x24<x23 then (if 0≤x24 then (if x24<(↑(List.length x22):Int) then ((zf2 n ((r41_0,r41_1,r41_2,r41_3,r41_4),Prod.fst (List.getD x22 (Int.toNat x24) (0,0,0,0,[],0,0)),Prod.fst (Prod.snd (List.getD x22 (Int.toNat x24) (0,0,0,0,[],0,0))),Prod.fst (Prod.snd (Prod.snd (List.getD x22 (Int.toNat x24) (0,0,0,0,[],0,0)))),Prod.fst (Prod.snd (Prod.snd (Prod.snd (List.getD x22 (Int.toNat x24) (0,0,0,0,[],0,0))))),Prod.fst (Prod.snd (Prod.snd (Prod.snd (Prod.snd (List.getD x22 (Int.toNat x24) (0,0,0,0,[],0,0)))))),Prod.fst (Prod.snd (Prod.snd (Prod.snd (Prod.snd (Prod.snd (List.getD x22 (Int.toNat x24) (0,0,0,0,[],0,0))))))),Prod.snd (Prod.snd (Prod.snd (Prod.snd (Prod.snd (Prod.snd (List.getD x22 (Int.toNat x24) (0,0,0,0,[],0,0))))))))).bind fun y2=>(if (!y2.2)=true then some ((([],[],0,0,0),Bool.false)) else zf22.l5 n m5 (x22) (x23) (Go.RowKit.wrap64 (x24+1)) (r40_2) (r40_3) (r40_4) y2.1.1 y2.1.2.1 y2.1.2.2.1 y2.1.2.2.2.1 y2.1.2.2.2.2)) else none) else none) else some (((r41_0,r41_1,r41_2,r41_3,r41_4),Bool.true))):=by kernel_rfl
noncomputable abbrev zf22.sg (n:Nat):Sig:=⟨zf22.ps,zf22.res,zf22 n⟩
theorem zf22.call:Callable Tryz.prog 10:=⟨Tryz.f10,Tryz.func10,by kernel_rfl,by kernel_rfl⟩
theorem zf22.ok (n:Nat):FC Tryz.prog [] 10 (zf22.sg n):=
  evalF_ok (C:=zf22.C) ⟨tb_ok,fun n _ _ h=>tabOk (l:=[(9,(zf27.sg n)),(36,{ params:=zf33.ps,res:=[.v zt0],run:=zf33 n }),(37,(zf2.sg n))]) (all_cons ⟨zf27.ok n,zf27.call⟩ (all_cons ⟨FC.weak (.cons (.trans (.pr (.own _ _) (.trans (.pr (.own _ _) (.refl _)) (.vv _ _))) (.vv _ _)) .nil) HEq.rfl (zf33.ok n),zf33.call⟩ (all_cons ⟨zf2.ok n,zf2.call⟩ (all_nil)))) h,mixed,ar_ok,bld_ok,pts_ok⟩ zf22.A Tryz.func10 zf22.ps zf22.res n
abbrev zf51.ps:List Pm:=[.arg (.v .str),.arg (.v .str)]
abbrev zf51.res:List M:=[.v .bool]
noncomputable def zf51.C:Cfg:={ tb:=tb,tab:=fun n f=>Refl.look [] f,gl:=[],ar:=ar,bld:=bld,pts:=pts }
noncomputable def zf51.A:Ann:={ joins:=[],loops:=[],ids:=[],pids:=[],nroots:=82 }
noncomputable def zf51 (n:Nat) (x:ByteArray × ByteArray):Option (Bool):=evalF zf51.C zf51.A Tryz.f127 zf51.ps zf51.res n x
theorem zf51.eq (n:Nat) (x0 x1:ByteArray):zf51 n (x0,x1)=(if (↑(ByteArray.size x0):Int)≥(↑(ByteArray.size x1):Int) then (if 0≤(↑(ByteArray.size x1):Int) then (if (↑(ByteArray.size x1):Int)≤(↑(ByteArray.size x0):Int) then some (Decidable.decide (ByteArray.extract x0 0 (Int.toNat (↑(ByteArray.size x1):Int))=x1)) else none) else none) else some (Bool.false)):=by kernel_rfl
noncomputable abbrev zf51.sg (n:Nat):Sig:=⟨zf51.ps,zf51.res,zf51 n⟩
theorem zf51.call:Callable Tryz.prog 127:=⟨Tryz.f127,Tryz.func127,by kernel_rfl,by kernel_rfl⟩
theorem zf51.ok (n:Nat):FC Tryz.prog [] 127 (zf51.sg n):=
  evalF_ok (C:=zf51.C) ⟨tb_ok,fun n _ _ h=>tabOk (l:=[]) (all_nil) h,mixed,ar_ok,bld_ok,pts_ok⟩ zf51.A Tryz.func127 zf51.ps zf51.res n
abbrev zf50.ps:List Pm:=[.arg (.v .str),.arg (.v .str)]
abbrev zf50.res:List M:=[.v .str,.v .bool]
noncomputable def zf50.C:Cfg:={ tb:=tb,tab:=fun n f=>Refl.look [(127,(zf51.sg n))] f,gl:=[],ar:=ar,bld:=bld,pts:=pts }
noncomputable def zf50.A:Ann:={ joins:=[],loops:=[],ids:=[(1,[(8,[])])],pids:=[],nroots:=79 }
noncomputable def zf50 (n:Nat) (x:ByteArray × ByteArray):Option (ByteArray × Bool):=evalF zf50.C zf50.A Tryz.f91 zf50.ps zf50.res n x
theorem zf50.eq (n:Nat) (x0 x1:ByteArray):zf50 n (x0,x1)=((zf51 n (x0,x1)).bind fun y0=>(if (!y0)=true then some ((x0,Bool.false)) else (if 0≤(↑(ByteArray.size x1):Int) then (if (↑(ByteArray.size x1):Int)≤(↑(ByteArray.size x0):Int) then some ((ByteArray.extract x0 (Int.toNat (↑(ByteArray.size x1):Int)) (ByteArray.size x0),Bool.true)) else none) else none))):=by kernel_rfl
noncomputable abbrev zf50.sg (n:Nat):Sig:=⟨zf50.ps,zf50.res,zf50 n⟩
theorem zf50.call:Callable Tryz.prog 91:=⟨Tryz.f91,Tryz.func91,by kernel_rfl,by kernel_rfl⟩
theorem zf50.ok (n:Nat):FC Tryz.prog [] 91 (zf50.sg n):=
  evalF_ok (C:=zf50.C) ⟨tb_ok,fun n _ _ h=>tabOk (l:=[(127,(zf51.sg n))]) (all_cons ⟨zf51.ok n,zf51.call⟩ (all_nil)) h,mixed,ar_ok,bld_ok,pts_ok⟩ zf50.A Tryz.func91 zf50.ps zf50.res n
abbrev zf146.ps:List Pm:=[.arg (.v .str),.arg (.v .str)]
abbrev zf146.res:List M:=[.v .str,.v .bool]
noncomputable def zf146.C:Cfg:={ tb:=tb,tab:=fun n f=>Refl.look [(91,(zf50.sg n))] f,gl:=[],ar:=ar,bld:=bld,pts:=pts }
noncomputable def zf146.A:Ann:={ joins:=[],loops:=[],ids:=[(1,[(8,[])])],pids:=[],nroots:=75 }
noncomputable def zf146 (n:Nat) (x:ByteArray × ByteArray):Option (ByteArray × Bool):=evalF zf146.C zf146.A Tryz.f54 zf146.ps zf146.res n x
theorem zf146.eq (n:Nat) (x0 x1:ByteArray):zf146 n (x0,x1)=((zf50 n (x0,x1)).bind fun y0=>some ((y0.1,y0.2))):=by kernel_rfl
noncomputable abbrev zf146.sg (n:Nat):Sig:=⟨zf146.ps,zf146.res,zf146 n⟩
theorem zf146.call:Callable Tryz.prog 54:=⟨Tryz.f54,Tryz.func54,by kernel_rfl,by kernel_rfl⟩
theorem zf146.ok (n:Nat):FC Tryz.prog [] 54 (zf146.sg n):=
  evalF_ok (C:=zf146.C) ⟨tb_ok,fun n _ _ h=>tabOk (l:=[(91,(zf50.sg n))]) (all_cons ⟨zf50.ok n,zf50.call⟩ (all_nil)) h,mixed,ar_ok,bld_ok,pts_ok⟩ zf146.A Tryz.func54 zf146.ps zf146.res n
abbrev zf37.ps:List Pm:=[.arg (.v .str)]
abbrev zf37.res:List M:=[.v .bool]
noncomputable def zf37.C:Cfg:={ tb:=tb,tab:=fun n f=>Refl.look [] f,gl:=[],ar:=ar,bld:=bld,pts:=pts }
noncomputable def zf37.A:Ann:={ joins:=[],loops:=[(4,{ live:=[0,8,9],base:=34 })],ids:=[],pids:=[],nroots:=98 }
noncomputable def zf37 (n:Nat) (x:ByteArray):Option (Bool):=evalF zf37.C zf37.A Tryz.f92 zf37.ps zf37.res n x
noncomputable def zf37.K0 (_:Nat):Kont (Bool):=finK zf37.C (Func.results Tryz.f92).toList zf37.ps zf37.res
noncomputable def zf37.K1 (n:Nat):Kont (Bool):=seqK (fun s' k=>joinE zf37.A.joins (codeAt Tryz.f92 [1,1,1]) (fun s''=>evalC zf37.C zf37.A n (codeAt Tryz.f92 [1,1,1]) s'' k) s') (zf37.K0 n)
noncomputable def zf37.K2 (n:Nat):Kont (Bool):=blockK 0 (zf37.K1 n)
noncomputable def zf37.l4 (n m4:Nat) (x0:ByteArray) (x8 x9:Int):Option (Bool):=loopE (cutAt zf37.A.loops (codeAt Tryz.f92 [1,1,0,1,0,0])) (fun s k=>evalC zf37.C zf37.A n (codeAt Tryz.f92 [1,1,0,1,0,0]) s k) m4 (St.of 34 98 [(0,.val .str x0),(8,.val (.int .i64) x8),(9,.val (.int .i64) x9)] [] []) (zf37.K2 n)
theorem zf37.eq (n:Nat) (x0:ByteArray):zf37 n x0=(if (↑(ByteArray.size x0):Int) > 7 then some (Bool.false) else zf37.l4 n n (x0) ((↑(ByteArray.size x0):Int)) (0)):=by kernel_rfl
theorem zf37.l4_succ (n m4:Nat) (x0:ByteArray) (x8 x9:Int):zf37.l4 n (m4+1) x0 x8 x9=(if x9<x8 then (if 0≤x9 then (if x9<(↑(ByteArray.size x0):Int) then (if (↑(UInt8.toNat (List.getD (Array.toList (ByteArray.data x0)) (Int.toNat x9) (0:UInt8))):Int)<48 then some (Bool.false) else (if 0≤x9 then (if x9<(↑(ByteArray.size x0):Int) then (if (↑(UInt8.toNat (List.getD (Array.toList (ByteArray.data x0)) (Int.toNat x9) (0:UInt8))):Int) > 57 then some (Bool.false) else zf37.l4 n m4 (x0) (x8) (Go.RowKit.wrap64 (x9+1))) else none) else none)) else none) else none) else (if x0={ data:=#[(48:UInt8)] } then some (Bool.true) else (if x0={ data:=#[] } then some (Bool.false) else (if 0<(↑(ByteArray.size x0):Int) then some (!Decidable.decide ((↑(UInt8.toNat (List.getD (Array.toList (ByteArray.data x0)) (Int.toNat 0) (0:UInt8))):Int)=48)) else none)))):=by kernel_rfl
noncomputable abbrev zf37.sg (n:Nat):Sig:=⟨zf37.ps,zf37.res,zf37 n⟩
theorem zf37.call:Callable Tryz.prog 92:=⟨Tryz.f92,Tryz.func92,by kernel_rfl,by kernel_rfl⟩
theorem zf37.ok (n:Nat):FC Tryz.prog [] 92 (zf37.sg n):=
  evalF_ok (C:=zf37.C) ⟨tb_ok,fun n _ _ h=>tabOk (l:=[]) (all_nil) h,mixed,ar_ok,bld_ok,pts_ok⟩ zf37.A Tryz.func92 zf37.ps zf37.res n
abbrev zf32.ps:List Pm:=[.arg (.v zt0),.arg (.v .str)]
abbrev zf32.res:List M:=[.v .str]
noncomputable def zf32.C:Cfg:={ tb:=tb,tab:=fun n f=>Refl.look [(92,(zf37.sg n)),(93,(zf40.sg n)),(13,(zf25.sg n))] f,gl:=[g2,g3,g4],ar:=ar,bld:=bld,pts:=pts }
noncomputable def zf32.A:Ann:={ joins:=[],loops:=[],ids:=[(1,[(7,[])]),(3,[(14,[])]),(6,[(22,[])])],pids:=[],nroots:=87 }
noncomputable def zf32 (n:Nat) (x:zt10 × ByteArray):Option (ByteArray):=evalF zf32.C zf32.A Tryz.f55 zf32.ps zf32.res n x
theorem zf32.eq (n:Nat) (x0:List Int × List zt19 × Int × Int × Int) (x1:ByteArray):zf32 n (x0,x1)=((zf37 n x1).bind fun y0=>(if (!y0)=true then some ({ data:=#[(119:UInt8),(104:UInt8),(97:UInt8),(116:UInt8)] }) else ((zf40 n (x1,Go.RowKit.wrap64 ((↑(List.length x0.1):Int)-1))).bind fun y1=>(if y1<0 then some ({ data:=#[(110:UInt8),(111:UInt8),(110:UInt8),(101:UInt8)] }) else (if 0≤y1 then (if y1<(↑(List.length x0.1):Int) then ((zf25 n (List.getD x0.1 (Int.toNat y1) 0)).bind fun y2=>some (y2)) else none) else none))))):=by kernel_rfl
noncomputable abbrev zf32.sg (n:Nat):Sig:=⟨zf32.ps,zf32.res,zf32 n⟩
theorem zf32.call:Callable Tryz.prog 55:=⟨Tryz.f55,Tryz.func55,by kernel_rfl,by kernel_rfl⟩
theorem zf32.ok (n:Nat):FC Tryz.prog [g2,g3,g4] 55 (zf32.sg n):=
  evalF_ok (C:=zf32.C) ⟨tb_ok,fun n _ _ h=>tabOk (l:=[(92,(zf37.sg n)),(93,(zf40.sg n)),(13,(zf25.sg n))]) (all_cons ⟨(.mono (gl:=[]) (gl':=[g2,g3,g4]) (all_nil) (zf37.ok n)),zf37.call⟩ (all_cons ⟨zf40.ok n,zf40.call⟩ (all_cons ⟨(.mono (gl:=[g2]) (gl':=[g2,g3,g4]) (all_cons (.head _) (all_nil)) (zf25.ok n)),zf25.call⟩ (all_nil)))) h,mixed,ar_ok,bld_ok,pts_ok⟩ zf32.A Tryz.func55 zf32.ps zf32.res n
abbrev zf1.ps:List Pm:=[.arg (.v (.int .i64))]
abbrev zf1.res:List M:=[.v .bool]
noncomputable def zf1.C:Cfg:={ tb:=tb,tab:=fun n f=>Refl.look [] f,gl:=[],ar:=ar,bld:=bld,pts:=pts }
noncomputable def zf1.A:Ann:={ joins:=[],loops:=[],ids:=[],pids:=[],nroots:=70 }
noncomputable def zf1 (n:Nat) (x:Int):Option (Bool):=evalF zf1.C zf1.A Tryz.f130 zf1.ps zf1.res n x
theorem zf1.eq (n:Nat) (x0:Int):zf1 n x0=some (!Decidable.decide (x0=x0)):=by kernel_rfl
noncomputable abbrev zf1.sg (n:Nat):Sig:=⟨zf1.ps,zf1.res,zf1 n⟩
theorem zf1.call:Callable Tryz.prog 130:=⟨Tryz.f130,Tryz.func130,by kernel_rfl,by kernel_rfl⟩
theorem zf1.ok (n:Nat):FC Tryz.prog [] 130 (zf1.sg n):=
  evalF_ok (C:=zf1.C) ⟨tb_ok,fun n _ _ h=>tabOk (l:=[]) (all_nil) h,mixed,ar_ok,bld_ok,pts_ok⟩ zf1.A Tryz.func130 zf1.ps zf1.res n
abbrev zf0.ps:List Pm:=[.arg (.v (.int .i64)),.arg (.v (.int .i64))]
abbrev zf0.res:List M:=[.v (.int .i64)]
noncomputable def zf0.C:Cfg:={ tb:=tb,tab:=fun n f=>Refl.look [(130,(zf1.sg n))] f,gl:=[],ar:=ar,bld:=bld,pts:=pts }
noncomputable def zf0.A:Ann:={ joins:=[],loops:=[],ids:=[(1,[(8,[])]),(2,[(10,[])])],pids:=[],nroots:=84 }
noncomputable def zf0 (n:Nat) (x:Int × Int):Option (Int):=evalF zf0.C zf0.A Tryz.f96 zf0.ps zf0.res n x
theorem zf0.eq (n:Nat) (x0 x1:Int):zf0 n (x0,x1)=((zf1 n x0).bind fun y0=>((zf1 n x1).bind fun y1=>(if (y0)=true then (if (y1)=true then some (0) else some ((-1))) else (if (y1)=true then some (1) else (if x0<x1 then some ((-1)) else (if x0 > x1 then some (1) else some (0))))))):=by kernel_rfl
noncomputable abbrev zf0.sg (n:Nat):Sig:=⟨zf0.ps,zf0.res,zf0 n⟩
theorem zf0.call:Callable Tryz.prog 96:=⟨Tryz.f96,Tryz.func96,by kernel_rfl,by kernel_rfl⟩
theorem zf0.ok (n:Nat):FC Tryz.prog [] 96 (zf0.sg n):=
  evalF_ok (C:=zf0.C) ⟨tb_ok,fun n _ _ h=>tabOk (l:=[(130,(zf1.sg n))]) (all_cons ⟨zf1.ok n,zf1.call⟩ (all_nil)) h,mixed,ar_ok,bld_ok,pts_ok⟩ zf0.A Tryz.func96 zf0.ps zf0.res n
abbrev zf4.ps:List Pm:=[.arg (.v (.int .i64)),.arg (.v (.int .i64)),.vp (.slice (.int .i64))]
abbrev zf4.res:List M:=[.v (.int .i64)]
noncomputable def zf4.C:Cfg:={ tb:=tb,tab:=fun n f=>Refl.look [(96,(zf0.sg n))] f,gl:=[],ar:=ar,bld:=bld,pts:=pts }
noncomputable def zf4.A:Ann:={ joins:=[],loops:=[],ids:=[(1,[(14,[])])],pids:=[],nroots:=79 }
noncomputable def zf4 (n:Nat) (x:Int × Int × List Int):Option (Int):=evalF zf4.C zf4.A Tryz.f95 zf4.ps zf4.res n x
theorem zf4.eq (n:Nat) (x0 x1:Int) (x2:List Int):zf4 n (x0,x1,x2)=(if 0≤x0 then (if x0<(↑(List.length x2):Int) then (if 0≤x1 then (if x1<(↑(List.length x2):Int) then ((zf0 n (List.getD x2 (Int.toNat x0) 0,List.getD x2 (Int.toNat x1) 0)).bind fun y0=>some (y0)) else none) else none) else none) else none):=by kernel_rfl
noncomputable abbrev zf4.sg (n:Nat):Sig:=⟨zf4.ps,zf4.res,zf4 n⟩
theorem zf4.call:Callable Tryz.prog 95:=⟨Tryz.f95,Tryz.func95,by kernel_rfl,by kernel_rfl⟩
theorem zf4.ok (n:Nat):FC Tryz.prog [] 95 (zf4.sg n):=
  evalF_ok (C:=zf4.C) ⟨tb_ok,fun n _ _ h=>tabOk (l:=[(96,(zf0.sg n))]) (all_cons ⟨zf0.ok n,zf0.call⟩ (all_nil)) h,mixed,ar_ok,bld_ok,pts_ok⟩ zf4.A Tryz.func95 zf4.ps zf4.res n
abbrev zf80.ps:List Pm:=[.inout (.int .i64) 3,.arg (.v (.int .i64)),.arg (.v (.int .i64)),.fnc 95 [(.slice (.int .i64))]]
abbrev zf80.res:List M:=[]
noncomputable def zf80.C:Cfg:={ tb:=tb,tab:=fun n f=>Refl.look [(95,(zf4.sg n))] f,gl:=[],ar:=ar,bld:=bld,pts:=pts }
noncomputable def zf80.A:Ann:={ joins:=[],loops:=[(1,{ live:=[0,1,2,3,8],base:=53 }),(4,{ live:=[0,1,2,3,8,9],base:=53 })],ids:=[(4,[(32,[])])],pids:=[],nroots:=117 }
noncomputable def zf80 (n:Nat) (x:List Int × Int × Int × List Int):Option (List Int):=evalF zf80.C zf80.A Tryz.f159 zf80.ps zf80.res n x
noncomputable def zf80.K0 (_:Nat):Kont (List Int):=finK zf80.C (Func.results Tryz.f159).toList zf80.ps zf80.res
noncomputable def zf80.K1 (n:Nat):Kont (List Int):=blockK 0 (zf80.K0 n)
noncomputable def zf80.K2 (n m1:Nat):Kont (List Int):=loopK (cutAt zf80.A.loops (codeAt Tryz.f159 [1,0,0])) (fun s k=>evalC zf80.C zf80.A n (codeAt Tryz.f159 [1,0,0]) s k) m1 (zf80.K1 n)
noncomputable def zf80.K3 (n m1:Nat):Kont (List Int):=seqK (fun s' k=>joinE zf80.A.joins (codeAt Tryz.f159 [1,0,0,1,1]) (fun s''=>evalC zf80.C zf80.A n (codeAt Tryz.f159 [1,0,0,1,1]) s'' k) s') (zf80.K2 n m1)
noncomputable def zf80.K4 (n m1:Nat):Kont (List Int):=blockK 1 (zf80.K3 n m1)
noncomputable def zf80.K5 (n m1:Nat):Kont (List Int):=blockK 2 (zf80.K4 n m1)
noncomputable def zf80.l1 (n m1:Nat) (x1 x2:Int) (x3_0:List (List Int)) (x8:Int) (r0:List Int):Option (List Int):=loopE (cutAt zf80.A.loops (codeAt Tryz.f159 [1,0,0])) (fun s k=>evalC zf80.C zf80.A n (codeAt Tryz.f159 [1,0,0]) s k) m1 (St.of 53 117 [(0,.own 0),(1,.val (.int .i64) x1),(2,.val (.int .i64) x2),(3,.fn 95 [.vptr (.slice (.int .i64)) x3_0 0 0]),(8,.val (.int .i64) x8)] [(0,.row (.int .i64) 3 r0)] [0]) (zf80.K1 n)
noncomputable def zf80.l4 (n m1 m4:Nat) (x1 x2:Int) (x3_0:List (List Int)) (x8 x9:Int) (r0:List Int):Option (List Int):=loopE (cutAt zf80.A.loops (codeAt Tryz.f159 [1,0,0,1,0,0,1,0,0])) (fun s k=>evalC zf80.C zf80.A n (codeAt Tryz.f159 [1,0,0,1,0,0,1,0,0]) s k) m4 (St.of 53 117 [(0,.own 0),(1,.val (.int .i64) x1),(2,.val (.int .i64) x2),(3,.fn 95 [.vptr (.slice (.int .i64)) x3_0 0 0]),(8,.val (.int .i64) x8),(9,.val (.int .i64) x9)] [(0,.row (.int .i64) 3 r0)] [0]) (zf80.K5 n m1)
theorem zf80.eq (n:Nat) (x0:List Int) (x1 x2:Int) (x3:List Int):zf80 n (x0,x1,x2,x3)=zf80.l1 n n (x1) (x2) ([x3]) (Go.RowKit.wrap64 (x1+1)) (x0):=by kernel_rfl
theorem zf80.l1_succ (n m1:Nat) (x1 x2:Int) (x3_0:List (List Int)) (x8:Int) (r0:List Int):zf80.l1 n (m1+1) x1 x2 x3_0 x8 r0=(if x8<x2 then zf80.l4 n m1 n (x1) (x2) (x3_0) (x8) (x8) (r0) else some (r0)):=by kernel_rfl
theorem zf80.l4_succ (n m1 m4:Nat) (x1 x2:Int) (x3_0:List (List Int)) (x8 x9:Int) (r0:List Int):zf80.l4 n m1 (m4+1) x1 x2 x3_0 x8 x9 r0=(if x9 > x1 then (if 0≤x9 then (if x9<(↑(List.length r0):Int) then (if 0≤Go.RowKit.wrap64 (x9-1) then (if Go.RowKit.wrap64 (x9-1)<(↑(List.length r0):Int) then ((zf4 n (List.getD r0 (Int.toNat x9) 0,List.getD r0 (Int.toNat (Go.RowKit.wrap64 (x9-1))) 0,List.getD x3_0 0 [])).bind fun y0=>(if y0<0 then (if 0≤Go.RowKit.wrap64 (x9-1) then (if Go.RowKit.wrap64 (x9-1)<(↑(List.length r0):Int) then (if 0≤x9 then (if x9<(↑(List.length r0):Int) then (if 0≤x9 then (if x9<(↑(List.length r0):Int) then (if 0≤Go.RowKit.wrap64 (x9-1) then (if Go.RowKit.wrap64 (x9-1)<(↑(List.length (List.set r0 (Int.toNat x9) (List.getD r0 (Int.toNat (Go.RowKit.wrap64 (x9-(1:Int)))) (0:Int)))):Int) then zf80.l4 n m1 m4 (x1) (x2) (x3_0) (x8) (Go.RowKit.wrap64 (x9-1)) (List.set (List.set r0 (Int.toNat x9) (List.getD r0 (Int.toNat (Go.RowKit.wrap64 (x9-1))) 0)) (Int.toNat (Go.RowKit.wrap64 (x9-1))) (List.getD r0 (Int.toNat x9) 0)) else none) else none) else none) else none) else none) else none) else none) else none) else zf80.l1 n m1 (x1) (x2) (x3_0) (Go.RowKit.wrap64 (x8+1)) (r0))) else none) else none) else none) else none) else zf80.l1 n m1 (x1) (x2) (x3_0) (Go.RowKit.wrap64 (x8+1)) (r0)):=by kernel_rfl
noncomputable abbrev zf80.sg (n:Nat):Sig:=⟨zf80.ps,zf80.res,zf80 n⟩
theorem zf80.call:Callable Tryz.prog 159:=⟨Tryz.f159,Tryz.func159,by kernel_rfl,by kernel_rfl⟩
theorem zf80.ok (n:Nat):FC Tryz.prog [] 159 (zf80.sg n):=
  evalF_ok (C:=zf80.C) ⟨tb_ok,fun n _ _ h=>tabOk (l:=[(95,(zf4.sg n))]) (all_cons ⟨zf4.ok n,zf4.call⟩ (all_nil)) h,mixed,ar_ok,bld_ok,pts_ok⟩ zf80.A Tryz.func159 zf80.ps zf80.res n
abbrev zf82.ps:List Pm:=[.inout (.int .i64) 3,.arg (.v (.int .i64)),.arg (.v (.int .i64)),.arg (.v (.int .i64)),.fnc 95 [(.slice (.int .i64))]]
abbrev zf82.res:List M:=[]
noncomputable def zf82 (n:Nat):pdens zf82.ps→Option (dens (zf82.res++outs zf82.ps)):=fun _=>none
noncomputable abbrev zf82.sg (n:Nat):Sig:=⟨zf82.ps,zf82.res,zf82 n⟩
theorem zf82.call:Callable Tryz.prog 160:=⟨Tryz.f160,Tryz.func160,by kernel_rfl,by kernel_rfl⟩
theorem zf82.ok (n:Nat):FC Tryz.prog [] 160 (zf82.sg n):=never_FC
abbrev zf81.ps:List Pm:=[.inout (.int .i64) 3,.arg (.v (.int .i64)),.fnc 95 [(.slice (.int .i64))]]
abbrev zf81.res:List M:=[]
noncomputable def zf81.C:Cfg:={ tb:=tb,tab:=fun n f=>Refl.look [(159,(zf80.sg n)),(160,(zf82.sg n)),(95,(zf4.sg n))] f,gl:=[],ar:=ar,bld:=bld,pts:=pts }
noncomputable def zf81.A:Ann:={ joins:=[],loops:=[(2,{ live:=[0,1,2,6,7,8],base:=63 }),(7,{ live:=[0,1,2,6],base:=63 }),(9,{ live:=[0,1,2,6,7,8],base:=63 })],ids:=[(3,[(18,[])]),(6,[(27,[])]),(10,[(43,[])]),(15,[(60,[])])],pids:=[],nroots:=127 }
noncomputable def zf81 (n:Nat) (x:List Int × Int × List Int):Option (List Int):=evalF zf81.C zf81.A Tryz.f129 zf81.ps zf81.res n x
noncomputable def zf81.K0 (_:Nat):Kont (List Int):=finK zf81.C (Func.results Tryz.f129).toList zf81.ps zf81.res
noncomputable def zf81.K1 (n:Nat):Kont (List Int):=seqK (fun s' k=>joinE zf81.A.joins (codeAt Tryz.f129 [1,1,1]) (fun s''=>evalC zf81.C zf81.A n (codeAt Tryz.f129 [1,1,1]) s'' k) s') (zf81.K0 n)
noncomputable def zf81.K2 (n:Nat):Kont (List Int):=blockK 0 (zf81.K1 n)
noncomputable def zf81.K3 (n:Nat):Kont (List Int):=blockK 2 (zf81.K0 n)
noncomputable def zf81.K4 (n m7:Nat):Kont (List Int):=loopK (cutAt zf81.A.loops (codeAt Tryz.f129 [1,1,1,1,0,0])) (fun s k=>evalC zf81.C zf81.A n (codeAt Tryz.f129 [1,1,1,1,0,0]) s k) m7 (zf81.K3 n)
noncomputable def zf81.K5 (n m7:Nat):Kont (List Int):=blockK 3 (zf81.K4 n m7)
noncomputable def zf81.K6 (n m7:Nat):Kont (List Int):=seqK (fun s' k=>joinE zf81.A.joins (codeAt Tryz.f129 [1,1,1,1,0,0,1,0,1,1]) (fun s''=>evalC zf81.C zf81.A n (codeAt Tryz.f129 [1,1,1,1,0,0,1,0,1,1]) s'' k) s') (zf81.K5 n m7)
noncomputable def zf81.K7 (n m7:Nat):Kont (List Int):=blockK 4 (zf81.K6 n m7)
noncomputable def zf81.l2 (n m2:Nat) (x1:Int) (x2_0:List (List Int)) (x6 x7 x8:Int) (r0:List Int):Option (List Int):=loopE (cutAt zf81.A.loops (codeAt Tryz.f129 [1,1,0,0,0])) (fun s k=>evalC zf81.C zf81.A n (codeAt Tryz.f129 [1,1,0,0,0]) s k) m2 (St.of 63 127 [(0,.own 0),(1,.val (.int .i64) x1),(2,.fn 95 [.vptr (.slice (.int .i64)) x2_0 0 0]),(6,.val (.int .i64) x6),(7,.val (.int .i64) x7),(8,.val (.int .i64) x8)] [(0,.row (.int .i64) 3 r0)] [0]) (zf81.K2 n)
noncomputable def zf81.l7 (n m7:Nat) (x1:Int) (x2_0:List (List Int)) (x6:Int) (r0:List Int):Option (List Int):=loopE (cutAt zf81.A.loops (codeAt Tryz.f129 [1,1,1,1,0,0])) (fun s k=>evalC zf81.C zf81.A n (codeAt Tryz.f129 [1,1,1,1,0,0]) s k) m7 (St.of 63 127 [(0,.own 0),(1,.val (.int .i64) x1),(2,.fn 95 [.vptr (.slice (.int .i64)) x2_0 0 0]),(6,.val (.int .i64) x6)] [(0,.row (.int .i64) 3 r0)] [0]) (zf81.K3 n)
noncomputable def zf81.l9 (n m7 m9:Nat) (x1:Int) (x2_0:List (List Int)) (x6 x7 x8:Int) (r0:List Int):Option (List Int):=loopE (cutAt zf81.A.loops (codeAt Tryz.f129 [1,1,1,1,0,0,1,0,1,0,0,0])) (fun s k=>evalC zf81.C zf81.A n (codeAt Tryz.f129 [1,1,1,1,0,0,1,0,1,0,0,0]) s k) m9 (St.of 63 127 [(0,.own 0),(1,.val (.int .i64) x1),(2,.fn 95 [.vptr (.slice (.int .i64)) x2_0 0 0]),(6,.val (.int .i64) x6),(7,.val (.int .i64) x7),(8,.val (.int .i64) x8)] [(0,.row (.int .i64) 3 r0)] [0]) (zf81.K7 n m7)
theorem zf81.eq (n:Nat) (x0:List Int) (x1:Int) (x2:List Int):zf81 n (x0,x1,x2)=zf81.l2 n n (x1) ([x2]) (20) (0) (20) (x0):=by kernel_rfl
theorem zf81.l2_succ (n m2:Nat) (x1:Int) (x2_0:List (List Int)) (x6 x7 x8:Int) (r0:List Int):zf81.l2 n (m2+1) x1 x2_0 x6 x7 x8 r0=(if x8≤x1 then ((zf80 n (r0,x7,x8,List.getD x2_0 0 [])).bind fun y0=>zf81.l2 n m2 (x1) (x2_0) (x6) (x8) (Go.RowKit.wrap64 (x8+x6)) (y0)) else ((zf80 n (r0,x7,x1,List.getD x2_0 0 [])).bind fun y1=>zf81.l7 n n (x1) (x2_0) (x6) (y1))):=by kernel_rfl
theorem zf81.l7_succ (n m7:Nat) (x1:Int) (x2_0:List (List Int)) (x6:Int) (r0:List Int):zf81.l7 n (m7+1) x1 x2_0 x6 r0=(if x6<x1 then zf81.l9 n m7 n (x1) (x2_0) (x6) (0) (Go.RowKit.wrap64 (2*x6)) (r0) else some (r0)):=by kernel_rfl
theorem zf81.l9_succ (n m7 m9:Nat) (x1:Int) (x2_0:List (List Int)) (x6 x7 x8:Int) (r0:List Int):zf81.l9 n m7 (m9+1) x1 x2_0 x6 x7 x8 r0=(if x8≤x1 then ((zf82 n (r0,x7,Go.RowKit.wrap64 (x7+x6),x8,List.getD x2_0 0 [])).bind fun y2=>zf81.l9 n m7 m9 (x1) (x2_0) (x6) (x8) (Go.RowKit.wrap64 (x8+Go.RowKit.wrap64 (2*x6))) (y2)) else (if Go.RowKit.wrap64 (x7+x6)<x1 then ((zf82 n (r0,x7,Go.RowKit.wrap64 (x7+x6),x1,List.getD x2_0 0 [])).bind fun y3=>zf81.l7 n m7 (x1) (x2_0) (Go.RowKit.wrap64 (x6*2)) (y3)) else zf81.l7 n m7 (x1) (x2_0) (Go.RowKit.wrap64 (x6*2)) (r0))):=by kernel_rfl
noncomputable abbrev zf81.sg (n:Nat):Sig:=⟨zf81.ps,zf81.res,zf81 n⟩
theorem zf81.call:Callable Tryz.prog 129:=⟨Tryz.f129,Tryz.func129,by kernel_rfl,by kernel_rfl⟩
theorem zf81.ok (n:Nat):FC Tryz.prog [] 129 (zf81.sg n):=
  evalF_ok (C:=zf81.C) ⟨tb_ok,fun n _ _ h=>tabOk (l:=[(159,(zf80.sg n)),(160,(zf82.sg n)),(95,(zf4.sg n))]) (all_cons ⟨zf80.ok n,zf80.call⟩ (all_cons ⟨zf82.ok n,zf82.call⟩ (all_cons ⟨zf4.ok n,zf4.call⟩ (all_nil)))) h,mixed,ar_ok,bld_ok,pts_ok⟩ zf81.A Tryz.func129 zf81.ps zf81.res n
abbrev zf79.ps:List Pm:=[.inout (.int .i64) 3,.fnc 95 [(.slice (.int .i64))]]
abbrev zf79.res:List M:=[]
noncomputable def zf79.C:Cfg:={ tb:=tb,tab:=fun n f=>Refl.look [(129,(zf81.sg n)),(95,(zf4.sg n))] f,gl:=[],ar:=ar,bld:=bld,pts:=pts }
noncomputable def zf79.A:Ann:={ joins:=[],loops:=[],ids:=[(0,[(8,[])])],pids:=[],nroots:=73 }
noncomputable def zf79 (n:Nat) (x:List Int × List Int):Option (List Int):=evalF zf79.C zf79.A Tryz.f94 zf79.ps zf79.res n x
theorem zf79.eq (n:Nat) (x0 x1:List Int):zf79 n (x0,x1)=((zf81 n (x0,(↑(List.length x0):Int),x1)).bind fun y0=>some (y0)):=by kernel_rfl
noncomputable abbrev zf79.sg (n:Nat):Sig:=⟨zf79.ps,zf79.res,zf79 n⟩
theorem zf79.call:Callable Tryz.prog 94:=⟨Tryz.f94,Tryz.func94,by kernel_rfl,by kernel_rfl⟩
theorem zf79.ok (n:Nat):FC Tryz.prog [] 94 (zf79.sg n):=
  evalF_ok (C:=zf79.C) ⟨tb_ok,fun n _ _ h=>tabOk (l:=[(129,(zf81.sg n)),(95,(zf4.sg n))]) (all_cons ⟨zf81.ok n,zf81.call⟩ (all_cons ⟨zf4.ok n,zf4.call⟩ (all_nil))) h,mixed,ar_ok,bld_ok,pts_ok⟩ zf79.A Tryz.func94 zf79.ps zf79.res n
abbrev zf3.ps:List Pm:=[.arg (.v (.slice (.int .i64))),.arg (.v (.slice zt8))]
abbrev zf3.res:List M:=[(.own (.int .i64) 3)]
noncomputable def zf3.C:Cfg:={ tb:=tb,tab:=fun n f=>Refl.look [(40,(zf16.sg n)),(94,(zf79.sg n))] f,gl:=[],ar:=ar,bld:=bld,pts:=pts }
noncomputable def zf3.A:Ann:={ joins:=[],loops:=[(4,{ live:=[5,6,12,13],base:=25,grow:=[(6,47,(.int .i64),3)] })],ids:=[(6,[(18,[])]),(8,[(23,[])])],pids:=[],nroots:=89 }
noncomputable def zf3 (n:Nat) (x:List Int × List zt19):Option (List Int):=evalF zf3.C zf3.A Tryz.f56 zf3.ps zf3.res n x
noncomputable def zf3.K0 (_:Nat):Kont (List Int):=finK zf3.C (Func.results Tryz.f56).toList zf3.ps zf3.res
noncomputable def zf3.K1 (n:Nat):Kont (List Int):=seqK (fun s' k=>joinE zf3.A.joins (codeAt Tryz.f56 [1,1,1,1]) (fun s''=>evalC zf3.C zf3.A n (codeAt Tryz.f56 [1,1,1,1]) s'' k) s') (zf3.K0 n)
noncomputable def zf3.K2 (n:Nat):Kont (List Int):=blockK 0 (zf3.K1 n)
noncomputable def zf3.l4 (n m4:Nat) (x12 x13:Int) (r26 r27:List Int):Option (List Int):=loopE (cutAt zf3.A.loops (codeAt Tryz.f56 [1,1,1,0,1,0,0])) (fun s k=>evalC zf3.C zf3.A n (codeAt Tryz.f56 [1,1,1,0,1,0,0]) s k) m4 (St.of 25 89 [(5,.ptr 25 0 0),(6,.own 26),(12,.val (.int .i64) x12),(13,.val (.int .i64) x13)] [(25,.box 23 [.own 27]),(26,.row (.int .i64) 3 r26),(27,.row (.int .i64) 3 r27)] []) (zf3.K2 n)
theorem zf3.eq (n:Nat) (x0:List Int) (x1:List zt19):zf3 n (x0,x1)=((zf16 n (x0,x1)).bind fun y0=>zf3.l4 n n ((↑(List.length y0):Int)) (0) ([]) (y0)):=by kernel_rfl
theorem zf3.l4_succ (n m4:Nat) (x12 x13:Int) (r26 r27:List Int):zf3.l4 n (m4+1) x12 x13 r26 r27=(if x13<x12 then (if List.length r26+List.length (List.set (List.replicate (1:Nat) (0:Int)) (0:Nat) x13)≤Go.Refl.maxN then zf3.l4 n m4 (x12) (Go.RowKit.wrap64 (x13+1)) (r26++List.set (List.replicate 1 0) 0 x13) (r27) else none) else ((zf79 n (r26,r27)).bind fun y1=>some (y1))):=by kernel_rfl
noncomputable abbrev zf3.sg (n:Nat):Sig:=⟨zf3.ps,zf3.res,zf3 n⟩
theorem zf3.call:Callable Tryz.prog 56:=⟨Tryz.f56,Tryz.func56,by kernel_rfl,by kernel_rfl⟩
theorem zf3.ok (n:Nat):FC Tryz.prog [] 56 (zf3.sg n):=
  evalF_ok (C:=zf3.C) ⟨tb_ok,fun n _ _ h=>tabOk (l:=[(40,(zf16.sg n)),(94,(zf79.sg n))]) (all_cons ⟨zf16.ok n,zf16.call⟩ (all_cons ⟨zf79.ok n,zf79.call⟩ (all_nil))) h,mixed,ar_ok,bld_ok,pts_ok⟩ zf3.A Tryz.func56 zf3.ps zf3.res n
abbrev zf31.ps:List Pm:=[.arg (.v zt0),.arg (.v .str)]
abbrev zf31.res:List M:=[.v .str]
noncomputable def zf31.C:Cfg:={ tb:=tb,tab:=fun n f=>Refl.look [(54,(zf146.sg n)),(55,(zf32.sg n)),(13,(zf25.sg n)),(42,(zf141.sg n)),(12,(zf24.sg n)),(56,(zf3.sg n))] f,gl:=[g2,g3,g4],ar:=ar,bld:=bld,pts:=pts }
noncomputable def zf31.A:Ann:={ joins:=[],loops:=[],ids:=[(1,[(9,[])]),(3,[(15,[])]),(6,[(21,[])]),(8,[(27,[])]),(10,[(32,[])]),(13,[(41,[])]),(14,[(45,[])]),(16,[(52,[])]),(20,[(62,[])])],pids:=[],nroots:=127 }
noncomputable def zf31 (n:Nat) (x:zt10 × ByteArray):Option (ByteArray):=evalF zf31.C zf31.A Tryz.f26 zf31.ps zf31.res n x
theorem zf31.eq (n:Nat) (x0:List Int × List zt19 × Int × Int × Int) (x1:ByteArray):zf31 n (x0,x1)=((zf146 n (x1,{ data:=#[(115:UInt8),(116:UInt8),(97:UInt8),(107:UInt8),(101:UInt8),(32:UInt8)] })).bind fun y0=>(if y0.2=true then ((zf32 n ((x0.1,x0.2.1,x0.2.2.1,x0.2.2.2.1,x0.2.2.2.2),y0.1)).bind fun y1=>some (y1)) else (if x1={ data:=#[(98:UInt8),(111:UInt8),(120:UInt8)] } then ((zf25 n x0.2.2.1).bind fun y2=>some (y2)) else (if x1={ data:=#[(108:UInt8),(111:UInt8),(97:UInt8),(110:UInt8),(115:UInt8)] } then ((zf141 n (↑(List.length x0.2.1):Int)).bind fun y3=>some (y3)) else (if x1={ data:=#[(110:UInt8),(105:UInt8),(103:UInt8),(104:UInt8),(116:UInt8)] } then ((zf141 n x0.2.2.2.2).bind fun y4=>some (y4)) else (if x1={ data:=#[(115:UInt8),(117:UInt8),(114:UInt8),(112:UInt8),(108:UInt8),(117:UInt8),(115:UInt8)] } then (if x0.2.2.2.1<0 then ((zf25 n (Go.RowKit.wrap64 (0-x0.2.2.2.1))).bind fun y5=>(if ByteArray.size { data:=#[(45:UInt8)] }+ByteArray.size y5≤Go.Refl.maxN then some ({ data:=#[(45:UInt8)] }++y5) else none)) else ((zf25 n x0.2.2.2.1).bind fun y6=>some (y6))) else (if x1={ data:=#[(115:UInt8),(97:UInt8),(102:UInt8),(101:UInt8)] } then ((zf24 n (x0.1,x0.2.1)).bind fun y7=>(if (y7)=true then some ({ data:=#[(121:UInt8),(101:UInt8),(115:UInt8)] }) else some ({ data:=#[(110:UInt8),(111:UInt8)] }))) else (if x1={ data:=#[(119:UInt8),(101:UInt8),(97:UInt8),(107:UInt8),(101:UInt8),(115:UInt8),(116:UInt8)] } then ((zf3 n (x0.1,x0.2.1)).bind fun y8=>(if 0<(↑(List.length y8):Int) then ((zf141 n (List.getD y8 0 0)).bind fun y9=>some (y9)) else none)) else some ({ data:=#[(119:UInt8),(104:UInt8),(97:UInt8),(116:UInt8)] }))))))))):=by kernel_rfl
noncomputable abbrev zf31.sg (n:Nat):Sig:=⟨zf31.ps,zf31.res,zf31 n⟩
theorem zf31.call:Callable Tryz.prog 26:=⟨Tryz.f26,Tryz.func26,by kernel_rfl,by kernel_rfl⟩
theorem zf31.ok (n:Nat):FC Tryz.prog [g2,g3,g4] 26 (zf31.sg n):=
  evalF_ok (C:=zf31.C) ⟨tb_ok,fun n _ _ h=>tabOk (l:=[(54,(zf146.sg n)),(55,(zf32.sg n)),(13,(zf25.sg n)),(42,(zf141.sg n)),(12,(zf24.sg n)),(56,(zf3.sg n))]) (all_cons ⟨(.mono (gl:=[]) (gl':=[g2,g3,g4]) (all_nil) (zf146.ok n)),zf146.call⟩ (all_cons ⟨zf32.ok n,zf32.call⟩ (all_cons ⟨(.mono (gl:=[g2]) (gl':=[g2,g3,g4]) (all_cons (.head _) (all_nil)) (zf25.ok n)),zf25.call⟩ (all_cons ⟨(.mono (gl:=[g2]) (gl':=[g2,g3,g4]) (all_cons (.head _) (all_nil)) (zf141.ok n)),zf141.call⟩ (all_cons ⟨(.mono (gl:=[]) (gl':=[g2,g3,g4]) (all_nil) (zf24.ok n)),zf24.call⟩ (all_cons ⟨(.mono (gl:=[]) (gl':=[g2,g3,g4]) (all_nil) (zf3.ok n)),zf3.call⟩ (all_nil))))))) h,mixed,ar_ok,bld_ok,pts_ok⟩ zf31.A Tryz.func26 zf31.ps zf31.res n
abbrev zf23.ps:List Pm:=[.arg (.v zt0),.arg (.v .str),.arg (.v (.slice .str))]
abbrev zf23.res:List M:=[.v .str]
noncomputable def zf23.C:Cfg:={ tb:=tb,tab:=fun n f=>Refl.look [(9,(zf27.sg n)),(11,{ params:=zf20.ps,res:=[.v (.slice zt1)],run:=zf20 n }),(10,{ params:=zf22.ps,res:=[.v zt0,.v .bool],run:=zf22 n }),(26,(zf31.sg n)),(25,(zf143.sg n)),(27,(zf142.sg n))] f,gl:=[g0,g2,g3,g4],ar:=ar,bld:=bld,pts:=pts }
noncomputable def zf23.A:Ann:={ joins:=[],loops:=[(6,{ live:=[7,8,9,27,28,29],base:=42 })],ids:=[(1,[(13,[])]),(3,[(23,[]),(24,[])]),(4,[(9,[9,50])]),(9,[(36,[]),(37,[37])]),(11,[(39,[39])]),(10,[(38,[38])]),(13,[(41,[])])],pids:=[],nroots:=106 }
noncomputable def zf23 (n:Nat) (x:zt10 × ByteArray × List ByteArray):Option (ByteArray):=evalF zf23.C zf23.A Tryz.f7 zf23.ps zf23.res n x
noncomputable def zf23.K0 (_:Nat):Kont (ByteArray):=finK zf23.C (Func.results Tryz.f7).toList zf23.ps zf23.res
noncomputable def zf23.K1 (n:Nat):Kont (ByteArray):=seqK (fun s' k=>joinE zf23.A.joins (codeAt Tryz.f7 [1,1,1,1,1]) (fun s''=>evalC zf23.C zf23.A n (codeAt Tryz.f7 [1,1,1,1,1]) s'' k) s') (zf23.K0 n)
noncomputable def zf23.K2 (n:Nat):Kont (ByteArray):=blockK 0 (zf23.K1 n)
noncomputable def zf23.l6 (n m6:Nat) (x8:Bool) (x27:List ByteArray) (x28 x29:Int) (r42_0:List Int) (r42_1:List zt19) (r42_2 r42_3 r42_4:Int) (r44:List Int):Option (ByteArray):=loopE (cutAt zf23.A.loops (codeAt Tryz.f7 [1,1,1,1,0,1,0,0])) (fun s k=>evalC zf23.C zf23.A n (codeAt Tryz.f7 [1,1,1,1,0,1,0,0]) s k) m6 (St.of 42 106 [(7,.ptr 42 0 0),(8,.val .bool x8),(9,.ptr 43 0 0),(27,.val (.slice .str) x27),(28,.val (.int .i64) x28),(29,.val (.int .i64) x29)] [(42,.box 26 [.val (.slice (.int .i64)) r42_0,.val (.slice zt8) r42_1,.val (.int .i64) r42_2,.val (.int .i64) r42_3,.val (.int .i64) r42_4]),(43,.box 58 [.optr 43,.own 44]),(44,.row (.int .u8) 5 r44)] []) (zf23.K2 n)
theorem zf23.eq (n:Nat) (x0:List Int × List zt19 × Int × Int × Int) (x1:ByteArray) (x2:List ByteArray):zf23 n (x0,x1,x2)=((zf27 n (x0.1,x0.2.1,x0.2.2.1,x0.2.2.2.1,x0.2.2.2.2)).bind fun y0=>(if (!y0)=Bool.true then some ({ data:=#[] }) else (if (↑(List.length x2):Int) > 20 then some ({ data:=#[] }) else ((zf20 n x1).bind fun y1=>((zf22 n ((x0.1,x0.2.1,x0.2.2.1,x0.2.2.2.1,x0.2.2.2.2),y1)).bind fun y2=>zf23.l6 n n y2.2 (x2) ((↑(List.length x2):Int)) (0) y2.1.1 y2.1.2.1 y2.1.2.2.1 y2.1.2.2.2.1 y2.1.2.2.2.2 ([])))))):=by kernel_rfl
theorem zf23.l6_succ (n m6:Nat) (x8:Bool) (x27:List ByteArray) (x28 x29:Int) (r42_0:List Int) (r42_1:List zt19) (r42_2 r42_3 r42_4:Int) (r44:List Int):zf23.l6 n (m6+1) x8 x27 x28 x29 r42_0 r42_1 r42_2 r42_3 r42_4 r44=(if x29<x28 then (if 0≤x29 then (if x29<(↑(List.length x27):Int) then (if (x8)=true then ((zf31 n ((r42_0,r42_1,r42_2,r42_3,r42_4),List.getD x27 (Int.toNat x29) ByteArray.empty)).bind fun y3=>((zf143 n (r44,y3)).bind fun y4=>((zf143 n (y4.2.2,{ data:=#[(10:UInt8)] })).bind fun y5=>zf23.l6 n m6 (x8) (x27) (x28) (Go.RowKit.wrap64 (x29+1)) (r42_0) (r42_1) (r42_2) (r42_3) (r42_4) y5.2.2))) else ((zf143 n (r44,{ data:=#[(99:UInt8),(108:UInt8),(111:UInt8),(115:UInt8),(101:UInt8),(100:UInt8)] })).bind fun y6=>((zf143 n (y6.2.2,{ data:=#[(10:UInt8)] })).bind fun y7=>zf23.l6 n m6 (x8) (x27) (x28) (Go.RowKit.wrap64 (x29+1)) (r42_0) (r42_1) (r42_2) (r42_3) (r42_4) y7.2.2))) else none) else none) else ((zf142 n r44).bind fun y8=>some (y8))):=by kernel_rfl
noncomputable abbrev zf23.sg (n:Nat):Sig:=⟨zf23.ps,zf23.res,zf23 n⟩
theorem zf23.call:Callable Tryz.prog 7:=⟨Tryz.f7,Tryz.func7,by kernel_rfl,by kernel_rfl⟩
theorem zf23.ok (n:Nat):FC Tryz.prog [g0,g2,g3,g4] 7 (zf23.sg n):=
  evalF_ok (C:=zf23.C) ⟨tb_ok,fun n _ _ h=>tabOk (l:=[(9,(zf27.sg n)),(11,{ params:=zf20.ps,res:=[.v (.slice zt1)],run:=zf20 n }),(10,{ params:=zf22.ps,res:=[.v zt0,.v .bool],run:=zf22 n }),(26,(zf31.sg n)),(25,(zf143.sg n)),(27,(zf142.sg n))]) (all_cons ⟨(.mono (gl:=[]) (gl':=[g0,g2,g3,g4]) (all_nil) (zf27.ok n)),zf27.call⟩ (all_cons ⟨FC.weak (.cons (.own _ _) .nil) HEq.rfl (zf20.ok n),zf20.call⟩ (all_cons ⟨FC.weak (.cons (.refl _) (.cons (.refl _) .nil)) HEq.rfl (.mono (gl:=[]) (gl':=[g0,g2,g3,g4]) (all_nil) (zf22.ok n)),zf22.call⟩ (all_cons ⟨(.mono (gl:=[g2,g3,g4]) (gl':=[g0,g2,g3,g4]) (all_cons (.tail _ (.head _)) (all_cons (.tail _ (.tail _ (.head _))) (all_cons (.tail _ (.tail _ (.tail _ (.head _)))) (all_nil)))) (zf31.ok n)),zf31.call⟩ (all_cons ⟨(.mono (gl:=[]) (gl':=[g0,g2,g3,g4]) (all_nil) (zf143.ok n)),zf143.call⟩ (all_cons ⟨(.mono (gl:=[]) (gl':=[g0,g2,g3,g4]) (all_nil) (zf142.ok n)),zf142.call⟩ (all_nil))))))) h,mixed,ar_ok,bld_ok,pts_ok⟩ zf23.A Tryz.func7 zf23.ps zf23.res n
abbrev zf57.ps:List Pm:=[.arg (.v (.slice (.int .i64))),.arg (.v (.slice (.int .i64)))]
abbrev zf57.res:List M:=[.v .bool]
noncomputable def zf57.C:Cfg:={ tb:=tb,tab:=fun n f=>Refl.look [] f,gl:=[],ar:=ar,bld:=bld,pts:=pts }
noncomputable def zf57.A:Ann:={ joins:=[],loops:=[(4,{ live:=[0,1,5],base:=26 })],ids:=[],pids:=[],nroots:=90 }
noncomputable def zf57 (n:Nat) (x:List Int × List Int):Option (Bool):=evalF zf57.C zf57.A Tryz.f47 zf57.ps zf57.res n x
noncomputable def zf57.K0 (_:Nat):Kont (Bool):=finK zf57.C (Func.results Tryz.f47).toList zf57.ps zf57.res
noncomputable def zf57.K1 (n:Nat):Kont (Bool):=seqK (fun s' k=>joinE zf57.A.joins (codeAt Tryz.f47 [1,1,1]) (fun s''=>evalC zf57.C zf57.A n (codeAt Tryz.f47 [1,1,1]) s'' k) s') (zf57.K0 n)
noncomputable def zf57.K2 (n:Nat):Kont (Bool):=blockK 0 (zf57.K1 n)
noncomputable def zf57.l4 (n m4:Nat) (x0 x1:List Int) (x5:Int):Option (Bool):=loopE (cutAt zf57.A.loops (codeAt Tryz.f47 [1,1,0,1,0,0])) (fun s k=>evalC zf57.C zf57.A n (codeAt Tryz.f47 [1,1,0,1,0,0]) s k) m4 (St.of 26 90 [(0,.val (.slice (.int .i64)) x0),(1,.val (.slice (.int .i64)) x1),(5,.val (.int .i64) x5)] [] []) (zf57.K2 n)
theorem zf57.eq (n:Nat) (x0 x1:List Int):zf57 n (x0,x1)=(if (↑(List.length x0):Int)=(↑(List.length x1):Int) then zf57.l4 n n (x0) (x1) (0) else some (Bool.false)):=by kernel_rfl
theorem zf57.l4_succ (n m4:Nat) (x0 x1:List Int) (x5:Int):zf57.l4 n (m4+1) x0 x1 x5=(if x5<(↑(List.length x0):Int) then (if 0≤x5 then (if x5<(↑(List.length x0):Int) then (if 0≤x5 then (if x5<(↑(List.length x1):Int) then (if List.getD x0 (Int.toNat x5) 0=List.getD x1 (Int.toNat x5) 0 then zf57.l4 n m4 (x0) (x1) (Go.RowKit.wrap64 (x5+1)) else some (Bool.false)) else none) else none) else none) else none) else some (Bool.true)):=by kernel_rfl
noncomputable abbrev zf57.sg (n:Nat):Sig:=⟨zf57.ps,zf57.res,zf57 n⟩
theorem zf57.call:Callable Tryz.prog 47:=⟨Tryz.f47,Tryz.func47,by kernel_rfl,by kernel_rfl⟩
theorem zf57.ok (n:Nat):FC Tryz.prog [] 47 (zf57.sg n):=
  evalF_ok (C:=zf57.C) ⟨tb_ok,fun n _ _ h=>tabOk (l:=[]) (all_nil) h,mixed,ar_ok,bld_ok,pts_ok⟩ zf57.A Tryz.func47 zf57.ps zf57.res n
abbrev zf58.ps:List Pm:=[.arg (.v zt8),.arg (.v zt8)]
abbrev zf58.res:List M:=[.v .bool]
noncomputable def zf58.C:Cfg:={ tb:=tb,tab:=fun n f=>Refl.look [(47,(zf57.sg n))] f,gl:=[],ar:=ar,bld:=bld,pts:=pts }
noncomputable def zf58.A:Ann:={ joins:=[],loops:=[],ids:=[(5,[(19,[])])],pids:=[],nroots:=85 }
noncomputable def zf58 (n:Nat) (x:zt19 × Int × Int × List Int):Option (Bool):=evalF zf58.C zf58.A Tryz.f86 zf58.ps zf58.res n x
theorem zf58.eq (n:Nat) (x0:Int × Int × List Int) (x1:Int × Int × List Int):zf58 n (x0,x1)=(if x0.1=x1.1 then (if x0.2.1=x1.2.1 then ((zf57 n (x0.2.2,x1.2.2)).bind fun y0=>(if (!y0)=true then some (Bool.false) else some (Bool.true))) else some (Bool.false)) else some (Bool.false)):=by kernel_rfl
noncomputable abbrev zf58.sg (n:Nat):Sig:=⟨zf58.ps,zf58.res,zf58 n⟩
theorem zf58.call:Callable Tryz.prog 86:=⟨Tryz.f86,Tryz.func86,by kernel_rfl,by kernel_rfl⟩
theorem zf58.ok (n:Nat):FC Tryz.prog [] 86 (zf58.sg n):=
  evalF_ok (C:=zf58.C) ⟨tb_ok,fun n _ _ h=>tabOk (l:=[(47,(zf57.sg n))]) (all_cons ⟨zf57.ok n,zf57.call⟩ (all_nil)) h,mixed,ar_ok,bld_ok,pts_ok⟩ zf58.A Tryz.func86 zf58.ps zf58.res n
abbrev zf59.ps:List Pm:=[.arg (.v (.slice zt8)),.arg (.v (.slice zt8))]
abbrev zf59.res:List M:=[.v .bool]
noncomputable def zf59.C:Cfg:={ tb:=tb,tab:=fun n f=>Refl.look [(86,(zf58.sg n))] f,gl:=[],ar:=ar,bld:=bld,pts:=pts }
noncomputable def zf59.A:Ann:={ joins:=[],loops:=[(4,{ live:=[0,1,5],base:=27 })],ids:=[(6,[(25,[])])],pids:=[],nroots:=91 }
noncomputable def zf59 (n:Nat) (x:List zt19 × List zt19):Option (Bool):=evalF zf59.C zf59.A Tryz.f48 zf59.ps zf59.res n x
noncomputable def zf59.K0 (_:Nat):Kont (Bool):=finK zf59.C (Func.results Tryz.f48).toList zf59.ps zf59.res
noncomputable def zf59.K1 (n:Nat):Kont (Bool):=seqK (fun s' k=>joinE zf59.A.joins (codeAt Tryz.f48 [1,1,1]) (fun s''=>evalC zf59.C zf59.A n (codeAt Tryz.f48 [1,1,1]) s'' k) s') (zf59.K0 n)
noncomputable def zf59.K2 (n:Nat):Kont (Bool):=blockK 0 (zf59.K1 n)
noncomputable def zf59.l4 (n m4:Nat) (x0:List zt19) (x1:List zt19) (x5:Int):Option (Bool):=loopE (cutAt zf59.A.loops (codeAt Tryz.f48 [1,1,0,1,0,0])) (fun s k=>evalC zf59.C zf59.A n (codeAt Tryz.f48 [1,1,0,1,0,0]) s k) m4 (St.of 27 91 [(0,.val (.slice zt8) x0),(1,.val (.slice zt8) x1),(5,.val (.int .i64) x5)] [] []) (zf59.K2 n)
theorem zf59.eq (n:Nat) (x0:List zt19) (x1:List zt19):zf59 n (x0,x1)=(if (↑(List.length x0):Int)=(↑(List.length x1):Int) then zf59.l4 n n (x0) (x1) (0) else some (Bool.false)):=by kernel_rfl
theorem zf59.l4_succ (n m4:Nat) (x0:List zt19) (x1:List zt19) (x5:Int):zf59.l4 n (m4+1) x0 x1 x5=(if x5<(↑(List.length x0):Int) then (if 0≤x5 then (if x5<(↑(List.length x0):Int) then (if 0≤x5 then (if x5<(↑(List.length x1):Int) then ((zf58 n (List.getD x0 (Int.toNat x5) (0,0,[]),List.getD x1 (Int.toNat x5) (0,0,[]))).bind fun y0=>(if (!y0)=true then some (Bool.false) else zf59.l4 n m4 (x0) (x1) (Go.RowKit.wrap64 (x5+1)))) else none) else none) else none) else none) else some (Bool.true)):=by kernel_rfl
noncomputable abbrev zf59.sg (n:Nat):Sig:=⟨zf59.ps,zf59.res,zf59 n⟩
theorem zf59.call:Callable Tryz.prog 48:=⟨Tryz.f48,Tryz.func48,by kernel_rfl,by kernel_rfl⟩
theorem zf59.ok (n:Nat):FC Tryz.prog [] 48 (zf59.sg n):=
  evalF_ok (C:=zf59.C) ⟨tb_ok,fun n _ _ h=>tabOk (l:=[(86,(zf58.sg n))]) (all_cons ⟨zf58.ok n,zf58.call⟩ (all_nil)) h,mixed,ar_ok,bld_ok,pts_ok⟩ zf59.A Tryz.func48 zf59.ps zf59.res n
abbrev zf56.ps:List Pm:=[.arg (.v zt0),.arg (.v zt0)]
abbrev zf56.res:List M:=[.v .bool]
noncomputable def zf56.C:Cfg:={ tb:=tb,tab:=fun n f=>Refl.look [(47,(zf57.sg n)),(48,(zf59.sg n))] f,gl:=[],ar:=ar,bld:=bld,pts:=pts }
noncomputable def zf56.A:Ann:={ joins:=[],loops:=[],ids:=[(1,[(9,[])]),(3,[(15,[])])],pids:=[],nroots:=96 }
noncomputable def zf56 (n:Nat) (x:zt10 × List Int × List zt19 × Int × Int × Int):Option (Bool):=evalF zf56.C zf56.A Tryz.f18 zf56.ps zf56.res n x
theorem zf56.eq (n:Nat) (x0:List Int × List zt19 × Int × Int × Int) (x1:List Int × List zt19 × Int × Int × Int):zf56 n (x0,x1)=((zf57 n (x0.1,x1.1)).bind fun y0=>(if (!y0)=true then some (Bool.false) else ((zf59 n (x0.2.1,x1.2.1)).bind fun y1=>(if (!y1)=true then some (Bool.false) else (if x0.2.2.1=x1.2.2.1 then (if x0.2.2.2.1=x1.2.2.2.1 then (if x0.2.2.2.2=x1.2.2.2.2 then some (Bool.true) else some (Bool.false)) else some (Bool.false)) else some (Bool.false)))))):=by kernel_rfl
noncomputable abbrev zf56.sg (n:Nat):Sig:=⟨zf56.ps,zf56.res,zf56 n⟩
theorem zf56.call:Callable Tryz.prog 18:=⟨Tryz.f18,Tryz.func18,by kernel_rfl,by kernel_rfl⟩
theorem zf56.ok (n:Nat):FC Tryz.prog [] 18 (zf56.sg n):=
  evalF_ok (C:=zf56.C) ⟨tb_ok,fun n _ _ h=>tabOk (l:=[(47,(zf57.sg n)),(48,(zf59.sg n))]) (all_cons ⟨zf57.ok n,zf57.call⟩ (all_cons ⟨zf59.ok n,zf59.call⟩ (all_nil))) h,mixed,ar_ok,bld_ok,pts_ok⟩ zf56.A Tryz.func18 zf56.ps zf56.res n
abbrev zf60.ps:List Pm:=[.arg (.v (.slice .str)),.arg (.v (.slice .str))]
abbrev zf60.res:List M:=[.v .bool]
noncomputable def zf60.C:Cfg:={ tb:=tb,tab:=fun n f=>Refl.look [] f,gl:=[],ar:=ar,bld:=bld,pts:=pts }
noncomputable def zf60.A:Ann:={ joins:=[],loops:=[(4,{ live:=[0,1,5],base:=26 })],ids:=[],pids:=[],nroots:=90 }
noncomputable def zf60 (n:Nat) (x:List ByteArray × List ByteArray):Option (Bool):=evalF zf60.C zf60.A Tryz.f19 zf60.ps zf60.res n x
noncomputable def zf60.K0 (_:Nat):Kont (Bool):=finK zf60.C (Func.results Tryz.f19).toList zf60.ps zf60.res
noncomputable def zf60.K1 (n:Nat):Kont (Bool):=seqK (fun s' k=>joinE zf60.A.joins (codeAt Tryz.f19 [1,1,1]) (fun s''=>evalC zf60.C zf60.A n (codeAt Tryz.f19 [1,1,1]) s'' k) s') (zf60.K0 n)
noncomputable def zf60.K2 (n:Nat):Kont (Bool):=blockK 0 (zf60.K1 n)
noncomputable def zf60.l4 (n m4:Nat) (x0:List ByteArray) (x1:List ByteArray) (x5:Int):Option (Bool):=loopE (cutAt zf60.A.loops (codeAt Tryz.f19 [1,1,0,1,0,0])) (fun s k=>evalC zf60.C zf60.A n (codeAt Tryz.f19 [1,1,0,1,0,0]) s k) m4 (St.of 26 90 [(0,.val (.slice .str) x0),(1,.val (.slice .str) x1),(5,.val (.int .i64) x5)] [] []) (zf60.K2 n)
theorem zf60.eq (n:Nat) (x0:List ByteArray) (x1:List ByteArray):zf60 n (x0,x1)=(if (↑(List.length x0):Int)=(↑(List.length x1):Int) then zf60.l4 n n (x0) (x1) (0) else some (Bool.false)):=by kernel_rfl
theorem zf60.l4_succ (n m4:Nat) (x0:List ByteArray) (x1:List ByteArray) (x5:Int):zf60.l4 n (m4+1) x0 x1 x5=(if x5<(↑(List.length x0):Int) then (if 0≤x5 then (if x5<(↑(List.length x0):Int) then (if 0≤x5 then (if x5<(↑(List.length x1):Int) then (if List.getD x0 (Int.toNat x5) ByteArray.empty=List.getD x1 (Int.toNat x5) ByteArray.empty then zf60.l4 n m4 (x0) (x1) (Go.RowKit.wrap64 (x5+1)) else some (Bool.false)) else none) else none) else none) else none) else some (Bool.true)):=by kernel_rfl
noncomputable abbrev zf60.sg (n:Nat):Sig:=⟨zf60.ps,zf60.res,zf60 n⟩
theorem zf60.call:Callable Tryz.prog 19:=⟨Tryz.f19,Tryz.func19,by kernel_rfl,by kernel_rfl⟩
theorem zf60.ok (n:Nat):FC Tryz.prog [] 19 (zf60.sg n):=
  evalF_ok (C:=zf60.C) ⟨tb_ok,fun n _ _ h=>tabOk (l:=[]) (all_nil) h,mixed,ar_ok,bld_ok,pts_ok⟩ zf60.A Tryz.func19 zf60.ps zf60.res n
abbrev zf53.ps:List Pm:=[.arg (.v zt0),.arg (.v .str),.arg (.v (.slice .str))]
abbrev zf53.res:List M:=[.v .bool]
noncomputable def zf53.C:Cfg:={ tb:=tb,tab:=fun n f=>Refl.look [(14,(zf62.sg n)),(15,(zf66.sg n)),(16,(zf67.sg n)),(17,(zf71.sg n)),(8,(zf87.sg n)),(7,(zf23.sg n)),(18,(zf56.sg n)),(19,(zf60.sg n))] f,gl:=[g0,g2,g3,g4],ar:=ar,bld:=bld,pts:=pts }
noncomputable def zf53.A:Ann:={ joins:=[],loops:=[],ids:=[(4,[(17,[])]),(7,[(22,[])]),(10,[(26,[]),(30,[])]),(11,[(32,[])]),(13,[(38,[])]),(16,[(44,[]),(45,[])]),(18,[(50,[])])],pids:=[],nroots:=116 }
noncomputable def zf53 (n:Nat) (x:zt10 × ByteArray × List ByteArray):Option (Bool):=evalF zf53.C zf53.A Tryz.f4 zf53.ps zf53.res n x
theorem zf53.eq (n:Nat) (x0:List Int × List zt19 × Int × Int × Int) (x1:ByteArray) (x2:List ByteArray):zf53 n (x0,x1,x2)=(if (↑(ByteArray.size x1):Int) > 1048576 then some (Bool.true) else ((zf62 n ((x0.1,x0.2.1,x0.2.2.1,x0.2.2.2.1,x0.2.2.2.2),1048576)).bind fun y0=>(if y0<0 then some (Bool.true) else ((zf66 n (x2,y0)).bind fun y1=>(if y1<0 then some (Bool.true) else ((zf67 n (x0.1,x0.2.1,x0.2.2.1,x0.2.2.2.1,x0.2.2.2.2)).bind fun y2=>((zf71 n x2).bind fun y3=>((zf87 n (y2,x1,y3)).bind fun y4=>((zf67 n (x0.1,x0.2.1,x0.2.2.1,x0.2.2.2.1,x0.2.2.2.2)).bind fun y5=>((zf71 n x2).bind fun y6=>((zf23 n ((y5.1,y5.2.1,y5.2.2.1,y5.2.2.2.1,y5.2.2.2.2),x1,y6)).bind fun y7=>(if y7=y4 then ((zf67 n (x0.1,x0.2.1,x0.2.2.1,x0.2.2.2.1,x0.2.2.2.2)).bind fun y8=>((zf56 n ((y5.1,y5.2.1,y5.2.2.1,y5.2.2.2.1,y5.2.2.2.2),y8)).bind fun y9=>(if (!y9)=true then some (Bool.false) else ((zf71 n x2).bind fun y10=>((zf60 n (y6,y10)).bind fun y11=>(if (!y11)=true then some (Bool.false) else some (Bool.true))))))) else some (Bool.false))))))))))))):=by kernel_rfl
noncomputable abbrev zf53.sg (n:Nat):Sig:=⟨zf53.ps,zf53.res,zf53 n⟩
theorem zf53.call:Callable Tryz.prog 4:=⟨Tryz.f4,Tryz.func4,by kernel_rfl,by kernel_rfl⟩
theorem zf53.ok (n:Nat):FC Tryz.prog [g0,g2,g3,g4] 4 (zf53.sg n):=
  evalF_ok (C:=zf53.C) ⟨tb_ok,fun n _ _ h=>tabOk (l:=[(14,(zf62.sg n)),(15,(zf66.sg n)),(16,(zf67.sg n)),(17,(zf71.sg n)),(8,(zf87.sg n)),(7,(zf23.sg n)),(18,(zf56.sg n)),(19,(zf60.sg n))]) (all_cons ⟨(.mono (gl:=[]) (gl':=[g0,g2,g3,g4]) (all_nil) (zf62.ok n)),zf62.call⟩ (all_cons ⟨(.mono (gl:=[]) (gl':=[g0,g2,g3,g4]) (all_nil) (zf66.ok n)),zf66.call⟩ (all_cons ⟨(.mono (gl:=[]) (gl':=[g0,g2,g3,g4]) (all_nil) (zf67.ok n)),zf67.call⟩ (all_cons ⟨(.mono (gl:=[]) (gl':=[g0,g2,g3,g4]) (all_nil) (zf71.ok n)),zf71.call⟩ (all_cons ⟨(.mono (gl:=[]) (gl':=[g0,g2,g3,g4]) (all_nil) (zf87.ok n)),zf87.call⟩ (all_cons ⟨zf23.ok n,zf23.call⟩ (all_cons ⟨(.mono (gl:=[]) (gl':=[g0,g2,g3,g4]) (all_nil) (zf56.ok n)),zf56.call⟩ (all_cons ⟨(.mono (gl:=[]) (gl':=[g0,g2,g3,g4]) (all_nil) (zf60.ok n)),zf60.call⟩ (all_nil))))))))) h,mixed,ar_ok,bld_ok,pts_ok⟩ zf53.A Tryz.func4 zf53.ps zf53.res n
abbrev zf110.ps:List Pm:=[.arg (.v (.slice (.int .u8)))]
abbrev zf110.res:List M:=[.bx 86 (.v (.pair (.slice (.int .u8)) (.int .i64)))]
noncomputable def zf110.C:Cfg:={ tb:=tb,tab:=fun n f=>Refl.look [] f,gl:=[],ar:=ar,bld:=bld,pts:=pts }
noncomputable def zf110.A:Ann:={ joins:=[],loops:=[],ids:=[],pids:=[],nroots:=75 }
noncomputable def zf110 (n:Nat) (x:List Int):Option (List Int × Int):=evalF zf110.C zf110.A Tryz.f21 zf110.ps zf110.res n x
theorem zf110.eq (n:Nat) (x0:List Int):zf110 n x0=(if (↑(List.length x0):Int) > 2000 then (if 2000≤(↑(List.length x0):Int) then some ((List.take (Int.toNat 2000) x0,0)) else none) else some ((x0,0))):=by kernel_rfl
noncomputable abbrev zf110.sg (n:Nat):Sig:=⟨zf110.ps,zf110.res,zf110 n⟩
theorem zf110.call:Callable Tryz.prog 21:=⟨Tryz.f21,Tryz.func21,by kernel_rfl,by kernel_rfl⟩
theorem zf110.ok (n:Nat):FC Tryz.prog [] 21 (zf110.sg n):=
  evalF_ok (C:=zf110.C) ⟨tb_ok,fun n _ _ h=>tabOk (l:=[]) (all_nil) h,mixed,ar_ok,bld_ok,pts_ok⟩ zf110.A Tryz.func21 zf110.ps zf110.res n
abbrev zf121.ps:List Pm:=[.box 86 (.v (.pair (.slice (.int .u8)) (.int .i64))),.arg (.v (.int .i64))]
abbrev zf121.res:List M:=[.v (.int .i64)]
noncomputable def zf121.C:Cfg:={ tb:=tb,tab:=fun n f=>Refl.look [] f,gl:=[],ar:=ar,bld:=bld,pts:=pts }
noncomputable def zf121.A:Ann:={ joins:=[],loops:=[],ids:=[],pids:=[],nroots:=163 }
noncomputable def zf121 (n:Nat) (x:(List Int × Int) × Int):Option (Int × List Int × Int):=evalF zf121.C zf121.A Tryz.f51 zf121.ps zf121.res n x
theorem zf121.eq (n:Nat) (x0:List Int × Int) (x1:Int):zf121 n (x0,x1)=(if x1<1 then some ((0,x0.1,Go.RowKit.wrap64 (x0.2+1))) else (if (↑(List.length x0.1):Int)=0 then some ((0,x0.1,Go.RowKit.wrap64 (x0.2+1))) else (if Go.RowKit.wrap64 (Go.RowKit.wrap64 (x0.2+1)-1)<(↑(List.length x0.1):Int) then (if 0≤Go.RowKit.wrap64 (Go.RowKit.wrap64 (x0.2+1)-1) then (if Go.RowKit.wrap64 (Go.RowKit.wrap64 (x0.2+1)-1)<(↑(List.length x0.1):Int) then (if x1=0 then none else some ((Int.tmod (Go.RowKit.wrap64 (List.getD x0.1 (Int.toNat (Go.RowKit.wrap64 (Go.RowKit.wrap64 (x0.2+1)-1))) 0)) x1,x0.1,Go.RowKit.wrap64 (x0.2+1)))) else none) else none) else (if (↑(List.length x0.1):Int)=0 then none else (if 0≤Int.tmod (Go.RowKit.wrap64 (Go.RowKit.wrap64 (x0.2+1)-1)) (↑(List.length x0.1):Int) then (if Int.tmod (Go.RowKit.wrap64 (Go.RowKit.wrap64 (x0.2+1)-1)) (↑(List.length x0.1):Int)<(↑(List.length x0.1):Int) then (if (↑(List.length x0.1):Int)=0 then none else (if 0≤Int.tmod (Go.RowKit.wrap64 (Go.RowKit.wrap64 (Go.RowKit.wrap64 (Go.RowKit.wrap64 (x0.2+1)-1)*7)+3)) (↑(List.length x0.1):Int) then (if Int.tmod (Go.RowKit.wrap64 (Go.RowKit.wrap64 (Go.RowKit.wrap64 (Go.RowKit.wrap64 (x0.2+1)-1)*7)+3)) (↑(List.length x0.1):Int)<(↑(List.length x0.1):Int) then (if (↑(List.length x0.1):Int)=0 then none else (if x1=0 then none else some ((Int.tmod (Go.IntKind.wrap Go.IntKind.i64 (↑(BitVec.toNat (BitVec.ofInt (Go.IntKind.bits Go.IntKind.i64) (Go.RowKit.wrap64 (Go.RowKit.wrap64 (Go.RowKit.wrap64 (Go.RowKit.wrap64 (Go.RowKit.wrap64 (List.getD x0.1 (Int.toNat (Int.tmod (Go.RowKit.wrap64 (Go.RowKit.wrap64 (x0.2+1)-1)) (↑(List.length x0.1):Int))) 0)*131)+Go.RowKit.wrap64 (Go.RowKit.wrap64 (List.getD x0.1 (Int.toNat (Int.tmod (Go.RowKit.wrap64 (Go.RowKit.wrap64 (Go.RowKit.wrap64 (Go.RowKit.wrap64 (x0.2+1)-1)*7)+3)) (↑(List.length x0.1):Int))) 0)*1117))+Go.RowKit.wrap64 (Go.RowKit.wrap64 (Go.RowKit.wrap64 (x0.2+1)-1)*29))+Go.RowKit.wrap64 (Go.RowKit.wrap64 (Int.tdiv (Go.RowKit.wrap64 (Go.RowKit.wrap64 (x0.2+1)-1)) (↑(List.length x0.1):Int))*53))) ^^^ BitVec.ofInt (Go.IntKind.bits Go.IntKind.i64) (Go.RowKit.wrap64 (Int.tdiv (Go.RowKit.wrap64 (Go.RowKit.wrap64 (Go.RowKit.wrap64 (Go.RowKit.wrap64 (Go.RowKit.wrap64 (List.getD x0.1 (Int.toNat (Int.tmod (Go.RowKit.wrap64 (Go.RowKit.wrap64 (x0.2+1)-1)) (↑(List.length x0.1):Int))) 0)*131)+Go.RowKit.wrap64 (Go.RowKit.wrap64 (List.getD x0.1 (Int.toNat (Int.tmod (Go.RowKit.wrap64 (Go.RowKit.wrap64 (Go.RowKit.wrap64 (Go.RowKit.wrap64 (x0.2+1)-1)*7)+3)) (↑(List.length x0.1):Int))) 0)*1117))+Go.RowKit.wrap64 (Go.RowKit.wrap64 (Go.RowKit.wrap64 (x0.2+1)-1)*29))+Go.RowKit.wrap64 (Go.RowKit.wrap64 (Int.tdiv (Go.RowKit.wrap64 (Go.RowKit.wrap64 (x0.2+1)-1)) (↑(List.length x0.1):Int))*53))) 64)))):Int)) x1,x0.1,Go.RowKit.wrap64 (x0.2+1))))) else none) else none)) else none) else none))))):=by kernel_rfl
noncomputable abbrev zf121.sg (n:Nat):Sig:=⟨zf121.ps,zf121.res,zf121 n⟩
theorem zf121.call:Callable Tryz.prog 51:=⟨Tryz.f51,Tryz.func51,by kernel_rfl,by kernel_rfl⟩
theorem zf121.ok (n:Nat):FC Tryz.prog [] 51 (zf121.sg n):=
  evalF_ok (C:=zf121.C) ⟨tb_ok,fun n _ _ h=>tabOk (l:=[]) (all_nil) h,mixed,ar_ok,bld_ok,pts_ok⟩ zf121.A Tryz.func51 zf121.ps zf121.res n
abbrev zf120.ps:List Pm:=[.box 86 (.v (.pair (.slice (.int .u8)) (.int .i64))),.arg (.v (.slice (.int .i64)))]
abbrev zf120.res:List M:=[.v (.int .i64)]
noncomputable def zf120.C:Cfg:={ tb:=tb,tab:=fun n f=>Refl.look [(51,(zf121.sg n))] f,gl:=[],ar:=ar,bld:=bld,pts:=pts }
noncomputable def zf120.A:Ann:={ joins:=[],loops:=[],ids:=[(1,[(9,[])])],pids:=[],nroots:=76 }
noncomputable def zf120 (n:Nat) (x:(List Int × Int) × List Int):Option (Int × List Int × Int):=evalF zf120.C zf120.A Tryz.f23 zf120.ps zf120.res n x
theorem zf120.eq (n:Nat) (x0:List Int × Int) (x1:List Int):zf120 n (x0,x1)=((zf121 n ((x0.1,x0.2),(↑(List.length x1):Int))).bind fun y0=>(if 0≤y0.1 then (if y0.1<(↑(List.length x1):Int) then some ((List.getD x1 (Int.toNat y0.1) 0,y0.2.1,y0.2.2)) else none) else none)):=by kernel_rfl
noncomputable abbrev zf120.sg (n:Nat):Sig:=⟨zf120.ps,zf120.res,zf120 n⟩
theorem zf120.call:Callable Tryz.prog 23:=⟨Tryz.f23,Tryz.func23,by kernel_rfl,by kernel_rfl⟩
theorem zf120.ok (n:Nat):FC Tryz.prog [] 23 (zf120.sg n):=
  evalF_ok (C:=zf120.C) ⟨tb_ok,fun n _ _ h=>tabOk (l:=[(51,(zf121.sg n))]) (all_cons ⟨zf121.ok n,zf121.call⟩ (all_nil)) h,mixed,ar_ok,bld_ok,pts_ok⟩ zf120.A Tryz.func23 zf120.ps zf120.res n
abbrev zf86.ps:List Pm:=[.arg (.v (.int .i64))]
abbrev zf86.res:List M:=[.v zt0]
noncomputable def zf86.C:Cfg:={ tb:=tb,tab:=fun n f=>Refl.look [(60,(zf103.sg n))] f,gl:=[],ar:=ar,bld:=bld,pts:=pts }
noncomputable def zf86.A:Ann:={ joins:=[],loops:=[],ids:=[(1,[(4,[])])],pids:=[],nroots:=74 }
noncomputable def zf86 (n:Nat) (x:Int):Option zt10:=evalF zf86.C zf86.A Tryz.f124 zf86.ps zf86.res n x
theorem zf86.eq (n:Nat) (x0:Int):zf86 n x0=((zf103 n (x0,1,12)).bind fun y0=>(if (!y0)=true then some (([],[],0,0,0)) else (if 0≤x0 then (if x0≤x0 then (if x0≤(↑Go.Refl.maxN:Int) then some ((List.replicate (Int.toNat x0) 0,[],0,0,0)) else none) else none) else none))):=by kernel_rfl
noncomputable abbrev zf86.sg (n:Nat):Sig:=⟨zf86.ps,zf86.res,zf86 n⟩
theorem zf86.call:Callable Tryz.prog 124:=⟨Tryz.f124,Tryz.func124,by kernel_rfl,by kernel_rfl⟩
theorem zf86.ok (n:Nat):FC Tryz.prog [] 124 (zf86.sg n):=
  evalF_ok (C:=zf86.C) ⟨tb_ok,fun n _ _ h=>tabOk (l:=[(60,(zf103.sg n))]) (all_cons ⟨zf103.ok n,zf103.call⟩ (all_nil)) h,mixed,ar_ok,bld_ok,pts_ok⟩ zf86.A Tryz.func124 zf86.ps zf86.res n
abbrev zf101.ps:List Pm:=[.box 86 (.v (.pair (.slice (.int .u8)) (.int .i64)))]
abbrev zf101.res:List M:=[.v zt0]
noncomputable def zf101.C:Cfg:={ tb:=tb,tab:=fun n f=>Refl.look [(23,(zf120.sg n)),(124,(zf86.sg n))] f,gl:=[],ar:=ar,bld:=bld,pts:=pts }
noncomputable def zf101.A:Ann:={ joins:=[],loops:=[],ids:=[(1,[(4,[]),(5,[]),(6,[])])],pids:=[],nroots:=71 }
noncomputable def zf101 (n:Nat) (x:List Int × Int):Option (zt10 × List Int × Int):=evalF zf101.C zf101.A Tryz.f87 zf101.ps zf101.res n x
theorem zf101.eq (n:Nat) (x0:List Int × Int):zf101 n x0=((zf120 n ((x0.1,x0.2),List.set (List.set (List.set (List.set (List.set (List.replicate 5 0) 0 3) 1 4) 2 2) 3 5) 4 1)).bind fun y0=>((zf86 n y0.1).bind fun y1=>some (((y1.1,y1.2.1,y1.2.2.1,y1.2.2.2.1,y1.2.2.2.2),y0.2.1,y0.2.2)))):=by kernel_rfl
noncomputable abbrev zf101.sg (n:Nat):Sig:=⟨zf101.ps,zf101.res,zf101 n⟩
theorem zf101.call:Callable Tryz.prog 87:=⟨Tryz.f87,Tryz.func87,by kernel_rfl,by kernel_rfl⟩
theorem zf101.ok (n:Nat):FC Tryz.prog [] 87 (zf101.sg n):=
  evalF_ok (C:=zf101.C) ⟨tb_ok,fun n _ _ h=>tabOk (l:=[(23,(zf120.sg n)),(124,(zf86.sg n))]) (all_cons ⟨zf120.ok n,zf120.call⟩ (all_cons ⟨zf86.ok n,zf86.call⟩ (all_nil))) h,mixed,ar_ok,bld_ok,pts_ok⟩ zf101.A Tryz.func87 zf101.ps zf101.res n
abbrev zf130.ps:List Pm:=[.box 86 (.v (.pair (.slice (.int .u8)) (.int .i64)))]
abbrev zf130.res:List M:=[.v zt16]
noncomputable def zf130.C:Cfg:={ tb:=tb,tab:=fun n f=>Refl.look [(51,(zf121.sg n)),(23,(zf120.sg n))] f,gl:=[],ar:=ar,bld:=bld,pts:=pts }
noncomputable def zf130.A:Ann:={ joins:=[],loops:=[],ids:=[(1,[(6,[]),(8,[]),(9,[])]),(2,[(17,[]),(20,[]),(21,[])])],pids:=[],nroots:=88 }
noncomputable def zf130 (n:Nat) (x:List Int × Int):Option ((Int × Int) × List Int × Int):=evalF zf130.C zf130.A Tryz.f156 zf130.ps zf130.res n x
theorem zf130.eq (n:Nat) (x0:List Int × Int):zf130 n x0=((zf121 n ((x0.1,x0.2),50)).bind fun y0=>((zf120 n ((y0.2.1,y0.2.2),List.set (List.set (List.set (List.set (List.set (List.set (List.set (List.set (List.set (List.replicate 9 0) 0 100) 1 12) 2 2) 3 4) 4 1000) 5 8) 6 1) 7 365) 8 (Go.RowKit.wrap64 (1+y0.1)))).bind fun y1=>((zf121 n ((y1.2.1,y1.2.2),Go.RowKit.wrap64 (y1.1+1))).bind fun y2=>((zf120 n ((y2.2.1,y2.2.2),List.set (List.set (List.set (List.set (List.set (List.set (List.replicate 6 0) 0 1) 1 0) 2 (Go.Refl.mn 5 y1.1)) 3 y1.1) 4 y2.1) 5 (Go.Refl.mn 3 y1.1))).bind fun y3=>some (((y3.1,y1.1),y3.2.1,y3.2.2)))))):=by kernel_rfl
noncomputable abbrev zf130.sg (n:Nat):Sig:=⟨zf130.ps,zf130.res,zf130 n⟩
theorem zf130.call:Callable Tryz.prog 156:=⟨Tryz.f156,Tryz.func156,by kernel_rfl,by kernel_rfl⟩
theorem zf130.ok (n:Nat):FC Tryz.prog [] 156 (zf130.sg n):=
  evalF_ok (C:=zf130.C) ⟨tb_ok,fun n _ _ h=>tabOk (l:=[(51,(zf121.sg n)),(23,(zf120.sg n))]) (all_cons ⟨zf121.ok n,zf121.call⟩ (all_cons ⟨zf120.ok n,zf120.call⟩ (all_nil))) h,mixed,ar_ok,bld_ok,pts_ok⟩ zf130.A Tryz.func156 zf130.ps zf130.res n
abbrev zf129.ps:List Pm:=[.box 86 (.v (.pair (.slice (.int .u8)) (.int .i64))),.arg (.v zt0)]
abbrev zf129.res:List M:=[.v zt1]
noncomputable def zf129.C:Cfg:={ tb:=tb,tab:=fun n f=>Refl.look [(51,(zf121.sg n)),(23,(zf120.sg n)),(156,(zf130.sg n))] f,gl:=[],ar:=ar,bld:=bld,pts:=pts }
noncomputable def zf129.A:Ann:={ joins:=[(11,{ live:=[0,3,4,5,6,17,34],base:=125 }),(20,{ live:=[0,3,4,6,17,67],base:=125 }),(29,{ live:=[0,4,6],base:=125 })],loops:=[(13,{ live:=[0,4,5,6,7,8],base:=125,growB:=[(7,4,153,(.int .i64),3)] })],ids:=[(0,[(3,[])]),(2,[(15,[])]),(3,[(17,[])]),(7,[(31,[])]),(11,[(44,[])]),(15,[(57,[])]),(16,[(63,[])]),(21,[(78,[])]),(22,[(94,[]),(96,[]),(97,[]),(100,[]),(101,[]),(102,[])]),(24,[(107,[])]),(26,[(112,[])]),(29,[(120,[]),(122,[]),(123,[])])],pids:=[],nroots:=189 }
noncomputable def zf129 (n:Nat) (x:(List Int × Int) × List Int × List zt19 × Int × Int × Int):Option zt7:=evalF zf129.C zf129.A Tryz.f125 zf129.ps zf129.res n x
noncomputable def zf129.K0 (_:Nat):Kont zt7:=finK zf129.C (Func.results Tryz.f125).toList zf129.ps zf129.res
noncomputable def zf129.K1 (n:Nat):Kont zt7:=seqK (fun s' k=>joinE zf129.A.joins (codeAt Tryz.f125 [1,1,1,1]) (fun s''=>evalC zf129.C zf129.A n (codeAt Tryz.f125 [1,1,1,1]) s'' k) s') (zf129.K0 n)
noncomputable def zf129.K2 (n:Nat):Kont zt7:=blockK 0 (zf129.K1 n)
noncomputable def zf129.K3 (n:Nat):Kont zt7:=seqK (fun s' k=>joinE zf129.A.joins (codeAt Tryz.f125 [1,1,1,0,1,0,1,1,1,1,1,0,1,1]) (fun s''=>evalC zf129.C zf129.A n (codeAt Tryz.f125 [1,1,1,0,1,0,1,1,1,1,1,0,1,1]) s'' k) s') (zf129.K2 n)
noncomputable def zf129.K4 (n:Nat):Kont zt7:=blockK 1 (zf129.K3 n)
noncomputable def zf129.j11 (n:Nat) (x3:List zt10) (x5 x6 x17:Int) (x34:Bool) (r0_0:List Int) (r0_1 r125_0:Int) (r125_1 r125_2:Int) (r125_3 r125_5 r125_6:Int):Option zt7:=holdF (fun s=>evalC zf129.C zf129.A n (codeAt Tryz.f125 [1,1,1,0,1,0,1,1,1,1,1]) s (zf129.K2 n)) (St.of 125 189 [(0,.ptr 0 0 0),(3,.vptr zt0 x3 0 0),(4,.ptr 125 0 0),(5,.val (.int .i64) x5),(6,.val (.int .i64) x6),(17,.val (.int .i64) x17),(34,.val .bool x34)] [(0,.box 86 [.val (.slice (.int .u8)) r0_0,.val (.int .i64) r0_1]),(125,.box 72 [.val (.int .i64) r125_0,.val (.int .i64) r125_1,.val (.int .i64) r125_2,.val (.int .i64) r125_3,.nils,.val (.int .i64) r125_5,.val (.int .i64) r125_6])] [0])
noncomputable def zf129.l13 (n m13:Nat) (x5 x6 x8:Int) (r0_0:List Int) (r0_1 r125_0:Int) (r125_1 r125_2:Int) (r125_3 r125_5:Int) (r125_6 r126_0:Int) (r126_1 r126_2:Int) (r126_3 r126_5 r126_6:Int) (r127:List Int):Option zt7:=loopE (cutAt zf129.A.loops (codeAt Tryz.f125 [1,1,1,0,1,0,1,1,1,1,1,0,1,0,1,0,0])) (fun s k=>evalC zf129.C zf129.A n (codeAt Tryz.f125 [1,1,1,0,1,0,1,1,1,1,1,0,1,0,1,0,0]) s k) m13 (St.of 125 189 [(0,.ptr 0 0 0),(4,.ptr 125 0 0),(5,.val (.int .i64) x5),(6,.val (.int .i64) x6),(7,.ptr 126 0 0),(8,.val (.int .i64) x8)] [(0,.box 86 [.val (.slice (.int .u8)) r0_0,.val (.int .i64) r0_1]),(125,.box 72 [.val (.int .i64) r125_0,.val (.int .i64) r125_1,.val (.int .i64) r125_2,.val (.int .i64) r125_3,.nils,.val (.int .i64) r125_5,.val (.int .i64) r125_6]),(126,.box 72 [.val (.int .i64) r126_0,.val (.int .i64) r126_1,.val (.int .i64) r126_2,.val (.int .i64) r126_3,.own 127,.val (.int .i64) r126_5,.val (.int .i64) r126_6]),(127,.row (.int .i64) 3 r127)] [0]) (zf129.K4 n)
noncomputable def zf129.j20 (n:Nat) (x3:List zt10) (x6 x17:Int) (x67:Bool) (r0_0:List Int) (r0_1 r125_0:Int) (r125_1 r125_2:Int) (r125_3 r125_5 r125_6:Int):Option zt7:=holdF (fun s=>evalC zf129.C zf129.A n (codeAt Tryz.f125 [1,1,1,0,1,0,1,1,1,1,1,1,1]) s (zf129.K2 n)) (St.of 125 189 [(0,.ptr 0 0 0),(3,.vptr zt0 x3 0 0),(4,.ptr 125 0 0),(6,.val (.int .i64) x6),(17,.val (.int .i64) x17),(67,.val .bool x67)] [(0,.box 86 [.val (.slice (.int .u8)) r0_0,.val (.int .i64) r0_1]),(125,.box 72 [.val (.int .i64) r125_0,.val (.int .i64) r125_1,.val (.int .i64) r125_2,.val (.int .i64) r125_3,.nils,.val (.int .i64) r125_5,.val (.int .i64) r125_6])] [0])
noncomputable def zf129.j29 (n:Nat) (x6:Int) (r0_0:List Int) (r0_1 r125_0:Int) (r125_1 r125_2:Int) (r125_3 r125_5 r125_6:Int):Option zt7:=holdF (fun s=>evalC zf129.C zf129.A n (codeAt Tryz.f125 [1,1,1,1]) s (zf129.K0 n)) (St.of 125 189 [(0,.ptr 0 0 0),(4,.ptr 125 0 0),(6,.val (.int .i64) x6)] [(0,.box 86 [.val (.slice (.int .u8)) r0_0,.val (.int .i64) r0_1]),(125,.box 72 [.val (.int .i64) r125_0,.val (.int .i64) r125_1,.val (.int .i64) r125_2,.val (.int .i64) r125_3,.nils,.val (.int .i64) r125_5,.val (.int .i64) r125_6])] [0])
theorem zf129.eq (n:Nat) (x0:List Int × Int) (x1:List Int × List zt19 × Int × Int × Int):zf129 n (x0,x1)=((zf121 n ((x0.1,x0.2),(↑(List.length x1.1):Int))).bind fun y0=>((zf121 n ((y0.2.1,y0.2.2),12)).bind fun y1=>(if y1.1=0 then some (((0,0,0,0,[],0,0),y1.2.1,y1.2.2)) else (if y1.1=1 then (if 0≤y0.1 then (if y0.1<(↑(List.length x1.1):Int) then ((zf121 n ((y1.2.1,y1.2.2),Go.Refl.mx (List.getD x1.1 (Int.toNat y0.1) 0) 1)).bind fun y2=>some (((2,y0.1,Go.RowKit.wrap64 (1+y2.1),0,[],0,0),y2.2.1,y2.2.2))) else none) else none) else (if y1.1=2 then zf129.j11 n ([x1]) ((↑(List.length x1.1):Int)) y0.1 y1.1 (Decidable.decide (y1.1=2)) y1.2.1 y1.2.2 (0) (0) (0) (0) (0) (0) else (if y1.1=3 then zf129.j11 n ([x1]) ((↑(List.length x1.1):Int)) y0.1 y1.1 (Decidable.decide (y1.1=3)) y1.2.1 y1.2.2 (0) (0) (0) (0) (0) (0) else zf129.j11 n ([x1]) ((↑(List.length x1.1):Int)) y0.1 y1.1 (Decidable.decide (y1.1=4)) y1.2.1 y1.2.2 (0) (0) (0) (0) (0) (0))))))):=by kernel_rfl
theorem zf129.j11_eq (n:Nat) (x3:List zt10) (x5 x6 x17:Int) (x34:Bool) (r0_0:List Int) (r0_1 r125_0:Int) (r125_1 r125_2:Int) (r125_3 r125_5 r125_6:Int):zf129.j11 n x3 x5 x6 x17 x34 r0_0 r0_1 r125_0 r125_1 r125_2 r125_3 r125_5 r125_6=(if (x34)=true then ((zf121 n ((r0_0,r0_1),Go.Refl.mn (Go.Refl.mx (Prod.fst (Prod.snd (Prod.snd (List.getD x3 0 ([],[],0,0,0))))) 1) 150)).bind fun y3=>zf129.l13 n n (x5) (x6) (0) y3.2.1 y3.2.2 (r125_0) (r125_1) (r125_2) (r125_3) (r125_5) (r125_6) (3) (x6) (Go.RowKit.wrap64 (1+y3.1)) (0) (0) (0) ([])) else (if x17=5 then zf129.j20 n (x3) (x6) (x17) (Decidable.decide (x17=5)) (r0_0) (r0_1) (r125_0) (r125_1) (r125_2) (r125_3) (r125_5) (r125_6) else zf129.j20 n (x3) (x6) (x17) (Decidable.decide (x17=6)) (r0_0) (r0_1) (r125_0) (r125_1) (r125_2) (r125_3) (r125_5) (r125_6))):=(holdF_eq _ _).trans (by kernel_rfl)
noncomputable abbrev zf129.sg (n:Nat):Sig:=⟨zf129.ps,zf129.res,zf129 n⟩
theorem zf129.call:Callable Tryz.prog 125:=⟨Tryz.f125,Tryz.func125,by kernel_rfl,by kernel_rfl⟩
theorem zf129.ok (n:Nat):FC Tryz.prog [] 125 (zf129.sg n):=
  evalF_ok (C:=zf129.C) ⟨tb_ok,fun n _ _ h=>tabOk (l:=[(51,(zf121.sg n)),(23,(zf120.sg n)),(156,(zf130.sg n))]) (all_cons ⟨zf121.ok n,zf121.call⟩ (all_cons ⟨zf120.ok n,zf120.call⟩ (all_cons ⟨zf130.ok n,zf130.call⟩ (all_nil)))) h,mixed,ar_ok,bld_ok,pts_ok⟩ zf129.A Tryz.func125 zf129.ps zf129.res n
abbrev zf128.ps:List Pm:=[.box 86 (.v (.pair (.slice (.int .u8)) (.int .i64))),.arg (.v zt0)]
abbrev zf128.res:List M:=[(.own zt1 72),.v zt0]
noncomputable def zf128.C:Cfg:={ tb:=tb,tab:=fun n f=>Refl.look [(23,(zf120.sg n)),(125,(zf129.sg n)),(64,(zf91.sg n))] f,gl:=[],ar:=ar,bld:=bld,pts:=pts }
noncomputable def zf128.A:Ann:={ joins:=[],loops:=[(3,{ live:=[0,3,5,6,7],base:=36 })],ids:=[(2,[(13,[]),(14,[])]),(5,[(21,[])]),(6,[(25,[])]),(9,[(32,[])])],pids:=[],nroots:=100 }
noncomputable def zf128 (n:Nat) (x:(List Int × Int) × List Int × List zt19 × Int × Int × Int):Option zt2:=evalF zf128.C zf128.A Tryz.f88 zf128.ps zf128.res n x
noncomputable def zf128.K0 (_:Nat):Kont zt2:=finK zf128.C (Func.results Tryz.f88).toList zf128.ps zf128.res
noncomputable def zf128.K1 (n:Nat):Kont zt2:=seqK (fun s' k=>joinE zf128.A.joins (codeAt Tryz.f88 [1,1,1]) (fun s''=>evalC zf128.C zf128.A n (codeAt Tryz.f88 [1,1,1]) s'' k) s') (zf128.K0 n)
noncomputable def zf128.K2 (n:Nat):Kont zt2:=blockK 0 (zf128.K1 n)
noncomputable def zf128.l3 (n m3:Nat) (x7:Int) (r0_0:List Int) (r0_1:Int) (r36_0:List Int) (r36_1:List zt19) (r36_2 r36_3:Int) (r36_4 r37_2:Int) (r37_3 r37_4:Int) (r38:List zt14):Option zt2:=loopE (cutAt zf128.A.loops (codeAt Tryz.f88 [1,1,0,1,0,0])) (fun s k=>evalC zf128.C zf128.A n (codeAt Tryz.f88 [1,1,0,1,0,0]) s k) m3 (St.of 36 100 [(0,.ptr 0 0 0),(3,.ptr 36 0 0),(5,.ptr 37 0 0),(6,.own 38),(7,.val (.int .i64) x7)] [(0,.box 86 [.val (.slice (.int .u8)) r0_0,.val (.int .i64) r0_1]),(36,.box 26 [.val (.slice (.int .i64)) r36_0,.val (.slice zt8) r36_1,.val (.int .i64) r36_2,.val (.int .i64) r36_3,.val (.int .i64) r36_4]),(37,.box 26 [.nils,.nils,.val (.int .i64) r37_2,.val (.int .i64) r37_3,.val (.int .i64) r37_4]),(38,.row zt1 72 r38)] [0]) (zf128.K2 n)
theorem zf128.eq (n:Nat) (x0:List Int × Int) (x1:List Int × List zt19 × Int × Int × Int):zf128 n (x0,x1)=((zf120 n ((x0.1,x0.2),List.set (List.set (List.set (List.set (List.set (List.set (List.replicate 6 0) 0 8) 1 12) 2 5) 3 18) 4 0) 5 2)).bind fun y0=>zf128.l3 n n y0.1 y0.2.1 y0.2.2 x1.1 x1.2.1 x1.2.2.1 x1.2.2.2.1 x1.2.2.2.2 (0) (0) (0) (List.replicate 0 (0,0,0,0,[],0,0))):=by kernel_rfl
theorem zf128.l3_succ (n m3:Nat) (x7:Int) (r0_0:List Int) (r0_1:Int) (r36_0:List Int) (r36_1:List zt19) (r36_2 r36_3:Int) (r36_4 r37_2:Int) (r37_3 r37_4:Int) (r38:List zt14):zf128.l3 n (m3+1) x7 r0_0 r0_1 r36_0 r36_1 r36_2 r36_3 r36_4 r37_2 r37_3 r37_4 r38=(if x7 > 0 then ((zf129 n ((r0_0,r0_1),r36_0,r36_1,r36_2,r36_3,r36_4)).bind fun y1=>((zf91 n ((r36_0,r36_1,r36_2,r36_3,r36_4),y1.1.1,y1.1.2.1,y1.1.2.2.1,y1.1.2.2.2.1,y1.1.2.2.2.2.1,y1.1.2.2.2.2.2.1,y1.1.2.2.2.2.2.2)).bind fun y2=>(if y2.2=true then (if List.length r38+List.length (List.set (List.replicate (1:Nat) ((0:Int),(0:Int),(0:Int),(0:Int),[],(0:Int),(0:Int))) (0:Nat) (y1.1.1,y1.1.2.1,y1.1.2.2.1,y1.1.2.2.2.1,y1.1.2.2.2.2.1,y1.1.2.2.2.2.2.1,y1.1.2.2.2.2.2.2))≤Go.Refl.maxN then zf128.l3 n m3 (Go.RowKit.wrap64 (x7-1)) y1.2.1 y1.2.2 y2.1.1 y2.1.2.1 y2.1.2.2.1 y2.1.2.2.2.1 y2.1.2.2.2.2 (r37_2) (r37_3) (r37_4) (r38++List.set (List.replicate 1 (0,0,0,0,[],0,0)) 0 (y1.1.1,y1.1.2.1,y1.1.2.2.1,y1.1.2.2.2.1,y1.1.2.2.2.2.1,y1.1.2.2.2.2.2.1,y1.1.2.2.2.2.2.2)) else none) else zf128.l3 n m3 (Go.RowKit.wrap64 (x7-1)) y1.2.1 y1.2.2 (r36_0) (r36_1) (r36_2) (r36_3) (r36_4) (r37_2) (r37_3) (r37_4) (r38)))) else some ((r38,(r36_0,r36_1,r36_2,r36_3,r36_4),r0_0,r0_1))):=by kernel_rfl
noncomputable abbrev zf128.sg (n:Nat):Sig:=⟨zf128.ps,zf128.res,zf128 n⟩
theorem zf128.call:Callable Tryz.prog 88:=⟨Tryz.f88,Tryz.func88,by kernel_rfl,by kernel_rfl⟩
theorem zf128.ok (n:Nat):FC Tryz.prog [] 88 (zf128.sg n):=
  evalF_ok (C:=zf128.C) ⟨tb_ok,fun n _ _ h=>tabOk (l:=[(23,(zf120.sg n)),(125,(zf129.sg n)),(64,(zf91.sg n))]) (all_cons ⟨zf120.ok n,zf120.call⟩ (all_cons ⟨zf129.ok n,zf129.call⟩ (all_cons ⟨zf91.ok n,zf91.call⟩ (all_nil)))) h,mixed,ar_ok,bld_ok,pts_ok⟩ zf128.A Tryz.func88 zf128.ps zf128.res n
abbrev zf90.ps:List Pm:=[.box 86 (.v (.pair (.slice (.int .u8)) (.int .i64)))]
abbrev zf90.res:List M:=[.v zt0,.v (.slice zt1)]
noncomputable def zf90.C:Cfg:={ tb:=tb,tab:=fun n f=>Refl.look [(87,(zf101.sg n)),(88,(zf128.sg n)),(51,(zf121.sg n)),(23,(zf120.sg n))] f,gl:=[],ar:=ar,bld:=bld,pts:=pts }
noncomputable def zf90.A:Ann:={ joins:=[],loops:=[],ids:=[(1,[(8,[])]),(4,[(19,[])]),(8,[(30,[]),(32,[]),(33,[])]),(10,[(42,[]),(44,[]),(45,[])])],pids:=[],nroots:=114 }
noncomputable def zf90 (n:Nat) (x:List Int × Int):Option (zt10 × List zt14 × List Int × Int):=evalF zf90.C zf90.A Tryz.f49 zf90.ps zf90.res n x
theorem zf90.eq (n:Nat) (x0:List Int × Int):zf90 n x0=((zf101 n (x0.1,x0.2)).bind fun y0=>((zf128 n ((y0.2.1,y0.2.2),y0.1.1,y0.1.2.1,y0.1.2.2.1,y0.1.2.2.2.1,y0.1.2.2.2.2)).bind fun y1=>(if (↑(List.length y1.1):Int) > 1 then ((zf121 n ((y1.2.2.1,y1.2.2.2),10)).bind fun y2=>(if y2.1=0 then (if 1≤(↑(List.length y1.1):Int) then some (((y0.1.1,y0.1.2.1,y0.1.2.2.1,y0.1.2.2.2.1,y0.1.2.2.2.2),List.take (List.length y1.1-Int.toNat 1) (List.drop (Int.toNat 1) y1.1),y2.2.1,y2.2.2)) else none) else (if y2.1=1 then ((zf121 n ((y2.2.1,y2.2.2),(↑(List.length y1.1):Int))).bind fun y3=>((zf120 n ((y3.2.1,y3.2.2),List.set (List.set (List.set (List.replicate 3 0) 0 (-1)) 1 100) 2 1)).bind fun y4=>(if 0≤y3.1 then (if y3.1<(↑(List.length y1.1):Int) then some (((y0.1.1,y0.1.2.1,y0.1.2.2.1,y0.1.2.2.2.1,y0.1.2.2.2.2),List.set y1.1 (Int.toNat y3.1) (Prod.fst (List.getD y1.1 (Int.toNat y3.1) (0,0,0,0,[],0,0)),y4.1,Prod.snd (Prod.snd (List.getD y1.1 (Int.toNat y3.1) (0,0,0,0,[],0,0)))),y4.2.1,y4.2.2)) else none) else none))) else (if y2.1=2 then ((zf121 n ((y2.2.1,y2.2.2),(↑(List.length y1.1):Int))).bind fun y5=>((zf120 n ((y5.2.1,y5.2.2),List.set (List.set (List.set (List.replicate 3 0) 0 (-1)) 1 1000001) 2 3)).bind fun y6=>(if 0≤y5.1 then (if y5.1<(↑(List.length y1.1):Int) then some (((y0.1.1,y0.1.2.1,y0.1.2.2.1,y0.1.2.2.2.1,y0.1.2.2.2.2),List.set y1.1 (Int.toNat y5.1) (Prod.fst (List.getD y1.1 (Int.toNat y5.1) (0,0,0,0,[],0,0)),Prod.fst (Prod.snd (List.getD y1.1 (Int.toNat y5.1) (0,0,0,0,[],0,0))),y6.1,Prod.snd (Prod.snd (Prod.snd (List.getD y1.1 (Int.toNat y5.1) (0,0,0,0,[],0,0))))),y6.2.1,y6.2.2)) else none) else none))) else some (((y0.1.1,y0.1.2.1,y0.1.2.2.1,y0.1.2.2.2.1,y0.1.2.2.2.2),y1.1,y2.2.1,y2.2.2)))))) else some (((y0.1.1,y0.1.2.1,y0.1.2.2.1,y0.1.2.2.2.1,y0.1.2.2.2.2),y1.1,y1.2.2.1,y1.2.2.2))))):=by kernel_rfl
noncomputable abbrev zf90.sg (n:Nat):Sig:=⟨zf90.ps,zf90.res,zf90 n⟩
theorem zf90.call:Callable Tryz.prog 49:=⟨Tryz.f49,Tryz.func49,by kernel_rfl,by kernel_rfl⟩
theorem zf90.ok (n:Nat):FC Tryz.prog [] 49 (zf90.sg n):=
  evalF_ok (C:=zf90.C) ⟨tb_ok,fun n _ _ h=>tabOk (l:=[(87,(zf101.sg n)),(88,(zf128.sg n)),(51,(zf121.sg n)),(23,(zf120.sg n))]) (all_cons ⟨zf101.ok n,zf101.call⟩ (all_cons ⟨zf128.ok n,zf128.call⟩ (all_cons ⟨zf121.ok n,zf121.call⟩ (all_cons ⟨zf120.ok n,zf120.call⟩ (all_nil))))) h,mixed,ar_ok,bld_ok,pts_ok⟩ zf90.A Tryz.func49 zf90.ps zf90.res n
abbrev zf85.ps:List Pm:=[.arg (.v (.slice zt1))]
abbrev zf85.res:List M:=[.v .str]
noncomputable def zf85.C:Cfg:={ tb:=tb,tab:=fun n f=>Refl.look [(89,(zf127.sg n))] f,gl:=[],ar:=ar,bld:=bld,pts:=pts }
noncomputable def zf85.A:Ann:={ joins:=[],loops:=[(5,{ live:=[0,3,4],base:=29 })],ids:=[(7,[(18,[])]),(9,[(25,[])])],pids:=[],nroots:=93 }
noncomputable def zf85 (n:Nat) (x:List zt14):Option (ByteArray):=evalF zf85.C zf85.A Tryz.f50 zf85.ps zf85.res n x
noncomputable def zf85.K0 (_:Nat):Kont (ByteArray):=finK zf85.C (Func.results Tryz.f50).toList zf85.ps zf85.res
noncomputable def zf85.K1 (n:Nat):Kont (ByteArray):=seqK (fun s' k=>joinE zf85.A.joins (codeAt Tryz.f50 [1,1,1,1]) (fun s''=>evalC zf85.C zf85.A n (codeAt Tryz.f50 [1,1,1,1]) s'' k) s') (zf85.K0 n)
noncomputable def zf85.K2 (n:Nat):Kont (ByteArray):=blockK 0 (zf85.K1 n)
noncomputable def zf85.l5 (n m5:Nat) (x0:List zt14) (x3:ByteArray) (x4:Int):Option (ByteArray):=loopE (cutAt zf85.A.loops (codeAt Tryz.f50 [1,1,1,0,1,0,0])) (fun s k=>evalC zf85.C zf85.A n (codeAt Tryz.f50 [1,1,1,0,1,0,0]) s k) m5 (St.of 29 93 [(0,.val (.slice zt1) x0),(3,.val .str x3),(4,.val (.int .i64) x4)] [] []) (zf85.K2 n)
theorem zf85.eq (n:Nat) (x0:List zt14):zf85 n x0=(if (↑(List.length x0):Int) > 30 then some ({ data:=#[] }) else zf85.l5 n n (x0) ({ data:=#[] }) (0)):=by kernel_rfl
theorem zf85.l5_succ (n m5:Nat) (x0:List zt14) (x3:ByteArray) (x4:Int):zf85.l5 n (m5+1) x0 x3 x4=(if x4<(↑(List.length x0):Int) then (if 0≤x4 then (if x4<(↑(List.length x0):Int) then ((zf127 n (List.getD x0 (Int.toNat x4) (0,0,0,0,[],0,0))).bind fun y0=>(if y0={ data:=#[] } then some ({ data:=#[] }) else (if 0≤x4 then (if x4<(↑(List.length x0):Int) then ((zf127 n (List.getD x0 (Int.toNat x4) (0,0,0,0,[],0,0))).bind fun y1=>(if ByteArray.size x3+ByteArray.size y1≤Go.Refl.maxN then (if ByteArray.size (x3++y1)+ByteArray.size { data:=#[(10:UInt8)] }≤Go.Refl.maxN then zf85.l5 n m5 (x0) (x3++y1++{ data:=#[(10:UInt8)] }) (Go.RowKit.wrap64 (x4+1)) else none) else none)) else none) else none))) else none) else none) else some (x3)):=by kernel_rfl
noncomputable abbrev zf85.sg (n:Nat):Sig:=⟨zf85.ps,zf85.res,zf85 n⟩
theorem zf85.call:Callable Tryz.prog 50:=⟨Tryz.f50,Tryz.func50,by kernel_rfl,by kernel_rfl⟩
theorem zf85.ok (n:Nat):FC Tryz.prog [] 50 (zf85.sg n):=
  evalF_ok (C:=zf85.C) ⟨tb_ok,fun n _ _ h=>tabOk (l:=[(89,(zf127.sg n))]) (all_cons ⟨zf127.ok n,zf127.call⟩ (all_nil)) h,mixed,ar_ok,bld_ok,pts_ok⟩ zf85.A Tryz.func50 zf85.ps zf85.res n
abbrev zf119.ps:List Pm:=[.box 86 (.v (.pair (.slice (.int .u8)) (.int .i64))),.arg (.v (.slice .str))]
abbrev zf119.res:List M:=[.v .str]
noncomputable def zf119.C:Cfg:={ tb:=tb,tab:=fun n f=>Refl.look [(51,(zf121.sg n))] f,gl:=[],ar:=ar,bld:=bld,pts:=pts }
noncomputable def zf119.A:Ann:={ joins:=[],loops:=[],ids:=[(1,[(9,[])])],pids:=[],nroots:=76 }
noncomputable def zf119 (n:Nat) (x:(List Int × Int) × List ByteArray):Option (ByteArray × List Int × Int):=evalF zf119.C zf119.A Tryz.f24 zf119.ps zf119.res n x
theorem zf119.eq (n:Nat) (x0:List Int × Int) (x1:List ByteArray):zf119 n (x0,x1)=((zf121 n ((x0.1,x0.2),(↑(List.length x1):Int))).bind fun y0=>(if 0≤y0.1 then (if y0.1<(↑(List.length x1):Int) then some ((List.getD x1 (Int.toNat y0.1) ByteArray.empty,y0.2.1,y0.2.2)) else none) else none)):=by kernel_rfl
noncomputable abbrev zf119.sg (n:Nat):Sig:=⟨zf119.ps,zf119.res,zf119 n⟩
theorem zf119.call:Callable Tryz.prog 24:=⟨Tryz.f24,Tryz.func24,by kernel_rfl,by kernel_rfl⟩
theorem zf119.ok (n:Nat):FC Tryz.prog [] 24 (zf119.sg n):=
  evalF_ok (C:=zf119.C) ⟨tb_ok,fun n _ _ h=>tabOk (l:=[(51,(zf121.sg n))]) (all_cons ⟨zf121.ok n,zf121.call⟩ (all_nil)) h,mixed,ar_ok,bld_ok,pts_ok⟩ zf119.A Tryz.func24 zf119.ps zf119.res n
abbrev zf108.ps:List Pm:=[.box 86 (.v (.pair (.slice (.int .u8)) (.int .i64))),.arg (.v .str)]
abbrev zf108.res:List M:=[.v .str]
noncomputable def zf108.C:Cfg:={ tb:=tb,tab:=fun n f=>Refl.look [(51,(zf121.sg n)),(24,(zf119.sg n))] f,gl:=[],ar:=ar,bld:=bld,pts:=pts }
noncomputable def zf108.A:Ann:={ joins:=[(5,{ live:=[0,1,5,12,13],base:=45 })],loops:=[],ids:=[(1,[(9,[777777]),(10,[])]),(2,[(12,[])]),(6,[(24,[]),(25,[]),(29,[777777])]),(10,[(41,[]),(42,[])])],pids:=[],nroots:=109 }
noncomputable def zf108 (n:Nat) (x:(List Int × Int) × ByteArray):Option (ByteArray × List Int × Int):=evalF zf108.C zf108.A Tryz.f52 zf108.ps zf108.res n x
noncomputable def zf108.K0 (_:Nat):Kont (ByteArray × List Int × Int):=finK zf108.C (Func.results Tryz.f52).toList zf108.ps zf108.res
noncomputable def zf108.K1 (n:Nat):Kont (ByteArray × List Int × Int):=seqK (fun s' k=>joinE zf108.A.joins (codeAt Tryz.f52 [1,1,1]) (fun s''=>evalC zf108.C zf108.A n (codeAt Tryz.f52 [1,1,1]) s'' k) s') (zf108.K0 n)
noncomputable def zf108.K2 (n:Nat):Kont (ByteArray × List Int × Int):=blockK 0 (zf108.K1 n)
noncomputable def zf108.j5 (n:Nat) (x1:ByteArray) (x5 x12:Int) (x13:Bool) (r0_0:List Int) (r0_1:Int):Option (ByteArray × List Int × Int):=holdF (fun s=>evalC zf108.C zf108.A n (codeAt Tryz.f52 [1,1,0,1,0,1]) s (zf108.K2 n)) (St.of 45 109 [(0,.ptr 0 0 0),(1,.val .str x1),(5,.val (.int .i64) x5),(12,.val (.int .i64) x12),(13,.val .bool x13)] [(0,.box 86 [.val (.slice (.int .u8)) r0_0,.val (.int .i64) r0_1])] [0])
theorem zf108.eq (n:Nat) (x0:List Int × Int) (x1:ByteArray):zf108 n (x0,x1)=((Go.Refl.veilO (Go.RowKit.wrap64 ((↑(ByteArray.size x1):Int)+1))).bind fun y0=>((zf121 n ((x0.1,x0.2),y0)).bind fun y1=>((zf121 n ((y1.2.1,y1.2.2),5)).bind fun y2=>(if y2.1=0 then zf108.j5 n (x1) y1.1 y2.1 (Decidable.decide (y2.1=0)) y2.2.1 y2.2.2 else zf108.j5 n (x1) y1.1 y2.1 (Decidable.decide (y2.1=1)) y2.2.1 y2.2.2)))):=by kernel_rfl
theorem zf108.j5_eq (n:Nat) (x1:ByteArray) (x5 x12:Int) (x13:Bool) (r0_0:List Int) (r0_1:Int):zf108.j5 n x1 x5 x12 x13 r0_0 r0_1=(if (x13)=true then (if x5<(↑(ByteArray.size x1):Int) then (if 0≤x5 then (if x5≤(↑(ByteArray.size x1):Int) then ((zf119 n ((r0_0,r0_1),List.set (List.set (List.set (List.set (List.set (List.set (List.set (List.replicate 7 ByteArray.empty) 0 { data:=#[(48:UInt8)] }) 1 { data:=#[(49:UInt8)] }) 2 { data:=#[(32:UInt8)] }) 3 { data:=#[(46:UInt8)] }) 4 { data:=#[(115:UInt8)] }) 5 { data:=#[(10:UInt8)] }) 6 { data:=#[(57:UInt8)] })).bind fun y3=>(if ByteArray.size (ByteArray.extract x1 0 (Int.toNat x5))+ByteArray.size y3.1≤Go.Refl.maxN then ((Go.Refl.veilO (Go.RowKit.wrap64 (x5+1))).bind fun y4=>(if 0≤y4 then (if y4≤(↑(ByteArray.size x1):Int) then (if ByteArray.size (ByteArray.extract x1 0 (Int.toNat x5)++y3.1)+ByteArray.size (ByteArray.extract x1 (Int.toNat y4) (ByteArray.size x1))≤Go.Refl.maxN then some ((ByteArray.extract x1 0 (Int.toNat x5)++y3.1++ByteArray.extract x1 (Int.toNat y4) (ByteArray.size x1),y3.2.1,y3.2.2)) else none) else none) else none)) else none)) else none) else none) else some ((x1,r0_0,r0_1))) else (if x12=2 then (if 0≤x5 then (if x5≤(↑(ByteArray.size x1):Int) then some ((ByteArray.extract x1 0 (Int.toNat x5),r0_0,r0_1)) else none) else none) else (if x12=3 then ((zf119 n ((r0_0,r0_1),List.set (List.set (List.set (List.set (List.replicate 4 ByteArray.empty) 0 { data:=#[(48:UInt8)] }) 1 { data:=#[(32:UInt8)] }) 2 { data:=#[(10:UInt8)] }) 3 { data:=#[(120:UInt8)] })).bind fun y5=>(if ByteArray.size x1+ByteArray.size y5.1≤Go.Refl.maxN then some ((x1++y5.1,y5.2.1,y5.2.2)) else none)) else some ((x1,r0_0,r0_1))))):=(holdF_eq _ _).trans (by kernel_rfl)
noncomputable abbrev zf108.sg (n:Nat):Sig:=⟨zf108.ps,zf108.res,zf108 n⟩
theorem zf108.call:Callable Tryz.prog 52:=⟨Tryz.f52,Tryz.func52,by kernel_rfl,by kernel_rfl⟩
theorem zf108.ok (n:Nat):FC Tryz.prog [] 52 (zf108.sg n):=
  evalF_ok (C:=zf108.C) ⟨tb_ok,fun n _ _ h=>tabOk (l:=[(51,(zf121.sg n)),(24,(zf119.sg n))]) (all_cons ⟨zf121.ok n,zf121.call⟩ (all_cons ⟨zf119.ok n,zf119.call⟩ (all_nil))) h,mixed,ar_ok,bld_ok,pts_ok⟩ zf108.A Tryz.func52 zf108.ps zf108.res n
abbrev zf92.ps:List Pm:=[.box 86 (.v (.pair (.slice (.int .u8)) (.int .i64)))]
abbrev zf92.res:List M:=[.v zt0,.v .str]
noncomputable def zf92.C:Cfg:={ tb:=tb,tab:=fun n f=>Refl.look [(49,(zf90.sg n)),(50,(zf85.sg n)),(51,(zf121.sg n)),(52,(zf108.sg n))] f,gl:=[],ar:=ar,bld:=bld,pts:=pts }
noncomputable def zf92.A:Ann:={ joins:=[],loops:=[],ids:=[(1,[(9,[])]),(2,[(13,[])]),(3,[(15,[])]),(5,[(21,[])]),(7,[(29,[777777]),(30,[])])],pids:=[],nroots:=98 }
noncomputable def zf92 (n:Nat) (x:List Int × Int):Option (zt10 × ByteArray × List Int × Int):=evalF zf92.C zf92.A Tryz.f22 zf92.ps zf92.res n x
theorem zf92.eq (n:Nat) (x0:List Int × Int):zf92 n x0=((zf90 n (x0.1,x0.2)).bind fun y0=>((zf85 n y0.2.1).bind fun y1=>((zf121 n ((y0.2.2.1,y0.2.2.2),4)).bind fun y2=>(if y2.1=0 then ((zf108 n ((y2.2.1,y2.2.2),y1)).bind fun y3=>some (((y0.1.1,y0.1.2.1,y0.1.2.2.1,y0.1.2.2.2.1,y0.1.2.2.2.2),y3.1,y3.2.1,y3.2.2))) else (if y2.1=1 then ((Go.Refl.veilO (Go.RowKit.wrap64 ((↑(ByteArray.size y1):Int)+1))).bind fun y4=>((zf121 n ((y2.2.1,y2.2.2),y4)).bind fun y5=>(if 0≤y5.1 then (if y5.1≤(↑(ByteArray.size y1):Int) then some (((y0.1.1,y0.1.2.1,y0.1.2.2.1,y0.1.2.2.2.1,y0.1.2.2.2.2),ByteArray.extract y1 0 (Int.toNat y5.1),y5.2.1,y5.2.2)) else none) else none))) else some (((y0.1.1,y0.1.2.1,y0.1.2.2.1,y0.1.2.2.2.1,y0.1.2.2.2.2),y1,y2.2.1,y2.2.2))))))):=by kernel_rfl
noncomputable abbrev zf92.sg (n:Nat):Sig:=⟨zf92.ps,zf92.res,zf92 n⟩
theorem zf92.call:Callable Tryz.prog 22:=⟨Tryz.f22,Tryz.func22,by kernel_rfl,by kernel_rfl⟩
theorem zf92.ok (n:Nat):FC Tryz.prog [] 22 (zf92.sg n):=
  evalF_ok (C:=zf92.C) ⟨tb_ok,fun n _ _ h=>tabOk (l:=[(49,(zf90.sg n)),(50,(zf85.sg n)),(51,(zf121.sg n)),(52,(zf108.sg n))]) (all_cons ⟨zf90.ok n,zf90.call⟩ (all_cons ⟨zf85.ok n,zf85.call⟩ (all_cons ⟨zf121.ok n,zf121.call⟩ (all_cons ⟨zf108.ok n,zf108.call⟩ (all_nil))))) h,mixed,ar_ok,bld_ok,pts_ok⟩ zf92.A Tryz.func22 zf92.ps zf92.res n
abbrev zf84.ps:List Pm:=[.arg (.v (.slice (.int .u8)))]
abbrev zf84.res:List M:=[.v zt0,.v .str,.v (.slice .str)]
noncomputable def zf84.C:Cfg:={ tb:=tb,tab:=fun n f=>Refl.look [(21,(zf110.sg n)),(22,(zf92.sg n)),(23,(zf120.sg n)),(24,(zf119.sg n))] f,gl:=[],ar:=ar,bld:=bld,pts:=pts }
noncomputable def zf84.A:Ann:={ joins:=[],loops:=[(5,{ live:=[2,5,6,7,8,9],base:=34 })],ids:=[(2,[(14,[])]),(4,[(19,[]),(20,[])]),(7,[(27,[]),(28,[]),(29,[])])],pids:=[],nroots:=98 }
noncomputable def zf84 (n:Nat) (x:List Int):Option (zt10 × ByteArray × List ByteArray):=evalF zf84.C zf84.A Tryz.f6 zf84.ps zf84.res n x
noncomputable def zf84.K0 (_:Nat):Kont (zt10 × ByteArray × List ByteArray):=finK zf84.C (Func.results Tryz.f6).toList zf84.ps zf84.res
noncomputable def zf84.K1 (n:Nat):Kont (zt10 × ByteArray × List ByteArray):=seqK (fun s' k=>joinE zf84.A.joins (codeAt Tryz.f6 [1,1,1,1,1]) (fun s''=>evalC zf84.C zf84.A n (codeAt Tryz.f6 [1,1,1,1,1]) s'' k) s') (zf84.K0 n)
noncomputable def zf84.K2 (n:Nat):Kont (zt10 × ByteArray × List ByteArray):=blockK 0 (zf84.K1 n)
noncomputable def zf84.l5 (n m5:Nat) (x7:ByteArray) (x9 r34_2:Int) (r34_3 r34_4:Int) (r35_0:List Int) (r35_1:Int) (r36_0:List Int) (r36_1:List zt19) (r36_2 r36_3 r36_4:Int) (r37:List ByteArray):Option (zt10 × ByteArray × List ByteArray):=loopE (cutAt zf84.A.loops (codeAt Tryz.f6 [1,1,1,1,0,1,0,0])) (fun s k=>evalC zf84.C zf84.A n (codeAt Tryz.f6 [1,1,1,1,0,1,0,0]) s k) m5 (St.of 34 98 [(2,.ptr 34 0 0),(5,.ptr 35 0 0),(6,.ptr 36 0 0),(7,.val .str x7),(8,.own 37),(9,.val (.int .i64) x9)] [(34,.box 26 [.nils,.nils,.val (.int .i64) r34_2,.val (.int .i64) r34_3,.val (.int .i64) r34_4]),(35,.box 86 [.val (.slice (.int .u8)) r35_0,.val (.int .i64) r35_1]),(36,.box 26 [.val (.slice (.int .i64)) r36_0,.val (.slice zt8) r36_1,.val (.int .i64) r36_2,.val (.int .i64) r36_3,.val (.int .i64) r36_4]),(37,.row .str 9 r37)] []) (zf84.K2 n)
theorem zf84.eq (n:Nat) (x0:List Int):zf84 n x0=((zf110 n x0).bind fun y0=>((zf92 n (y0.1,y0.2)).bind fun y1=>((zf120 n ((y1.2.2.1,y1.2.2.2),List.set (List.set (List.set (List.set (List.replicate 4 0) 0 4) 1 6) 2 2) 3 0)).bind fun y2=>zf84.l5 n n y1.2.1 y2.1 (0) (0) (0) y2.2.1 y2.2.2 y1.1.1 y1.1.2.1 y1.1.2.2.1 y1.1.2.2.2.1 y1.1.2.2.2.2 (List.replicate 0 ByteArray.empty)))):=by kernel_rfl
theorem zf84.l5_succ (n m5:Nat) (x7:ByteArray) (x9 r34_2:Int) (r34_3 r34_4:Int) (r35_0:List Int) (r35_1:Int) (r36_0:List Int) (r36_1:List zt19) (r36_2 r36_3 r36_4:Int) (r37:List ByteArray):zf84.l5 n (m5+1) x7 x9 r34_2 r34_3 r34_4 r35_0 r35_1 r36_0 r36_1 r36_2 r36_3 r36_4 r37=(if x9 > 0 then ((zf119 n ((r35_0,r35_1),List.set (List.set (List.set (List.set (List.set (List.set (List.set (List.set (List.set (List.set (List.set (List.set (List.replicate 12 ByteArray.empty) 0 { data:=#[(115:UInt8),(116:UInt8),(97:UInt8),(107:UInt8),(101:UInt8),(32:UInt8),(48:UInt8)] }) 1 { data:=#[(115:UInt8),(116:UInt8),(97:UInt8),(107:UInt8),(101:UInt8),(32:UInt8),(49:UInt8)] }) 2 { data:=#[(115:UInt8),(116:UInt8),(97:UInt8),(107:UInt8),(101:UInt8),(32:UInt8),(57:UInt8)] }) 3 { data:=#[(115:UInt8),(116:UInt8),(97:UInt8),(107:UInt8),(101:UInt8),(32:UInt8),(48:UInt8),(49:UInt8)] }) 4 { data:=#[(98:UInt8),(111:UInt8),(120:UInt8)] }) 5 { data:=#[(108:UInt8),(111:UInt8),(97:UInt8),(110:UInt8),(115:UInt8)] }) 6 { data:=#[(110:UInt8),(105:UInt8),(103:UInt8),(104:UInt8),(116:UInt8)] }) 7 { data:=#[(115:UInt8),(117:UInt8),(114:UInt8),(112:UInt8),(108:UInt8),(117:UInt8),(115:UInt8)] }) 8 { data:=#[(115:UInt8),(97:UInt8),(102:UInt8),(101:UInt8)] }) 9 { data:=#[(119:UInt8),(101:UInt8),(97:UInt8),(107:UInt8),(101:UInt8),(115:UInt8),(116:UInt8)] }) 10 { data:=#[(104:UInt8),(101:UInt8),(108:UInt8),(112:UInt8)] }) 11 { data:=#[] })).bind fun y3=>(if List.length r37+List.length (List.set (List.replicate (1:Nat) ByteArray.empty) (0:Nat) y3.1)≤Go.Refl.maxN then zf84.l5 n m5 (x7) (Go.RowKit.wrap64 (x9-1)) (r34_2) (r34_3) (r34_4) y3.2.1 y3.2.2 (r36_0) (r36_1) (r36_2) (r36_3) (r36_4) (r37++List.set (List.replicate 1 ByteArray.empty) 0 y3.1) else none)) else some (((r36_0,r36_1,r36_2,r36_3,r36_4),x7,r37))):=by kernel_rfl
noncomputable abbrev zf84.sg (n:Nat):Sig:=⟨zf84.ps,zf84.res,zf84 n⟩
theorem zf84.call:Callable Tryz.prog 6:=⟨Tryz.f6,Tryz.func6,by kernel_rfl,by kernel_rfl⟩
theorem zf84.ok (n:Nat):FC Tryz.prog [] 6 (zf84.sg n):=
  evalF_ok (C:=zf84.C) ⟨tb_ok,fun n _ _ h=>tabOk (l:=[(21,(zf110.sg n)),(22,(zf92.sg n)),(23,(zf120.sg n)),(24,(zf119.sg n))]) (all_cons ⟨zf110.ok n,zf110.call⟩ (all_cons ⟨zf92.ok n,zf92.call⟩ (all_cons ⟨zf120.ok n,zf120.call⟩ (all_cons ⟨zf119.ok n,zf119.call⟩ (all_nil))))) h,mixed,ar_ok,bld_ok,pts_ok⟩ zf84.A Tryz.func6 zf84.ps zf84.res n
abbrev zf61.ps:List Pm:=[.arg (.v .str)]
abbrev zf61.res:List M:=[.v (.int .i64)]
noncomputable def zf61.C:Cfg:={ tb:=tb,tab:=fun n f=>Refl.look [] f,gl:=[],ar:=ar,bld:=bld,pts:=pts }
noncomputable def zf61.A:Ann:={ joins:=[],loops:=[(3,{ live:=[0,3,4],base:=18 })],ids:=[],pids:=[],nroots:=82 }
noncomputable def zf61 (n:Nat) (x:ByteArray):Option (Int):=evalF zf61.C zf61.A Tryz.f20 zf61.ps zf61.res n x
noncomputable def zf61.K0 (_:Nat):Kont (Int):=finK zf61.C (Func.results Tryz.f20).toList zf61.ps zf61.res
noncomputable def zf61.K1 (n:Nat):Kont (Int):=seqK (fun s' k=>joinE zf61.A.joins (codeAt Tryz.f20 [1,1,1]) (fun s''=>evalC zf61.C zf61.A n (codeAt Tryz.f20 [1,1,1]) s'' k) s') (zf61.K0 n)
noncomputable def zf61.K2 (n:Nat):Kont (Int):=blockK 0 (zf61.K1 n)
noncomputable def zf61.l3 (n m3:Nat) (x0:ByteArray) (x3 x4:Int):Option (Int):=loopE (cutAt zf61.A.loops (codeAt Tryz.f20 [1,1,0,1,0,0])) (fun s k=>evalC zf61.C zf61.A n (codeAt Tryz.f20 [1,1,0,1,0,0]) s k) m3 (St.of 18 82 [(0,.val .str x0),(3,.val (.int .i64) x3),(4,.val (.int .i64) x4)] [] []) (zf61.K2 n)
theorem zf61.eq (n:Nat) (x0:ByteArray):zf61 n x0=zf61.l3 n n (x0) (0) (0):=by kernel_rfl
theorem zf61.l3_succ (n m3:Nat) (x0:ByteArray) (x3 x4:Int):zf61.l3 n (m3+1) x0 x3 x4=(if x4<(↑(ByteArray.size x0):Int) then (if 0≤x4 then (if x4<(↑(ByteArray.size x0):Int) then (if (↑(UInt8.toNat (List.getD (Array.toList (ByteArray.data x0)) (Int.toNat x4) (0:UInt8))):Int)=10 then zf61.l3 n m3 (x0) (Go.RowKit.wrap64 (x3+1)) (Go.RowKit.wrap64 (x4+1)) else zf61.l3 n m3 (x0) (x3) (Go.RowKit.wrap64 (x4+1))) else none) else none) else some (x3)):=by kernel_rfl
noncomputable abbrev zf61.sg (n:Nat):Sig:=⟨zf61.ps,zf61.res,zf61 n⟩
theorem zf61.call:Callable Tryz.prog 20:=⟨Tryz.f20,Tryz.func20,by kernel_rfl,by kernel_rfl⟩
theorem zf61.ok (n:Nat):FC Tryz.prog [] 20 (zf61.sg n):=
  evalF_ok (C:=zf61.C) ⟨tb_ok,fun n _ _ h=>tabOk (l:=[]) (all_nil) h,mixed,ar_ok,bld_ok,pts_ok⟩ zf61.A Tryz.func20 zf61.ps zf61.res n
abbrev zf54.ps:List Pm:=[.arg (.v (.slice (.int .u8)))]
abbrev zf54.res:List M:=[.v .bool]
noncomputable def zf54.C:Cfg:={ tb:=tb,tab:=fun n f=>Refl.look [(6,(zf84.sg n)),(7,(zf23.sg n)),(8,(zf87.sg n)),(9,(zf27.sg n)),(20,(zf61.sg n))] f,gl:=[g0,g2,g3,g4],ar:=ar,bld:=bld,pts:=pts }
noncomputable def zf54.A:Ann:={ joins:=[],loops:=[(8,{ live:=[3,4,5,6,7],base:=74 })],ids:=[(3,[(14,[])]),(4,[(21,[])]),(5,[(26,[]),(30,[])]),(6,[(42,[])]),(10,[(55,[])]),(13,[(70,[])])],pids:=[],nroots:=138 }
noncomputable def zf54 (n:Nat) (x:List Int):Option (Bool):=evalF zf54.C zf54.A Tryz.f5 zf54.ps zf54.res n x
noncomputable def zf54.K0 (_:Nat):Kont (Bool):=finK zf54.C (Func.results Tryz.f5).toList zf54.ps zf54.res
noncomputable def zf54.K1 (n:Nat):Kont (Bool):=seqK (fun s' k=>joinE zf54.A.joins (codeAt Tryz.f5 [1,1,1,1,1,1]) (fun s''=>evalC zf54.C zf54.A n (codeAt Tryz.f5 [1,1,1,1,1,1]) s'' k) s') (zf54.K0 n)
noncomputable def zf54.K2 (n:Nat):Kont (Bool):=blockK 0 (zf54.K1 n)
noncomputable def zf54.l8 (n m8:Nat) (x4:ByteArray) (x5:List ByteArray) (x6:ByteArray) (x7:Int) (r74_0:List Int) (r74_1:List zt19) (r74_2 r74_3 r74_4:Int):Option (Bool):=loopE (cutAt zf54.A.loops (codeAt Tryz.f5 [1,1,1,1,1,0,1,0,0])) (fun s k=>evalC zf54.C zf54.A n (codeAt Tryz.f5 [1,1,1,1,1,0,1,0,0]) s k) m8 (St.of 74 138 [(3,.ptr 74 0 0),(4,.val .str x4),(5,.val (.slice .str) x5),(6,.val .str x6),(7,.val (.int .i64) x7)] [(74,.box 26 [.val (.slice (.int .i64)) r74_0,.val (.slice zt8) r74_1,.val (.int .i64) r74_2,.val (.int .i64) r74_3,.val (.int .i64) r74_4])] []) (zf54.K2 n)
theorem zf54.eq (n:Nat) (x0:List Int):zf54 n x0=(if (↑(List.length x0):Int) > 1048576 then some (Bool.true) else ((zf84 n x0).bind fun y0=>((zf23 n ((y0.1.1,y0.1.2.1,y0.1.2.2.1,y0.1.2.2.2.1,y0.1.2.2.2.2),y0.2.1,y0.2.2)).bind fun y1=>((zf87 n ((y0.1.1,y0.1.2.1,y0.1.2.2.1,y0.1.2.2.2.1,y0.1.2.2.2.2),y0.2.1,y0.2.2)).bind fun y2=>(if y1=y2 then ((zf27 n (y0.1.1,y0.1.2.1,y0.1.2.2.1,y0.1.2.2.2.1,y0.1.2.2.2.2)).bind fun y3=>(if (!y3)=Bool.true then ((zf87 n ((y0.1.1,y0.1.2.1,y0.1.2.2.1,y0.1.2.2.2.1,y0.1.2.2.2.2),y0.2.1,y0.2.2)).bind fun y4=>some (Decidable.decide (y1=y4))) else (if (↑(List.length y0.2.2):Int) > 20 then ((zf87 n ((y0.1.1,y0.1.2.1,y0.1.2.2.1,y0.1.2.2.2.1,y0.1.2.2.2.2),y0.2.1,y0.2.2)).bind fun y5=>some (Decidable.decide (y1=y5))) else zf54.l8 n n y0.2.1 y0.2.2 (y1) (0) y0.1.1 y0.1.2.1 y0.1.2.2.1 y0.1.2.2.2.1 y0.1.2.2.2.2))) else ((zf87 n ((y0.1.1,y0.1.2.1,y0.1.2.2.1,y0.1.2.2.2.1,y0.1.2.2.2.2),y0.2.1,y0.2.2)).bind fun y6=>some (Decidable.decide (y1=y6)))))))):=by kernel_rfl
theorem zf54.l8_succ (n m8:Nat) (x4:ByteArray) (x5:List ByteArray) (x6:ByteArray) (x7:Int) (r74_0:List Int) (r74_1:List zt19) (r74_2 r74_3 r74_4:Int):zf54.l8 n (m8+1) x4 x5 x6 x7 r74_0 r74_1 r74_2 r74_3 r74_4=(if x7≤(↑(List.length x5):Int) then (if 0≤x7 then (if x7≤(↑(List.length x5):Int) then ((zf23 n ((r74_0,r74_1,r74_2,r74_3,r74_4),x4,List.take (Int.toNat x7) x5)).bind fun y7=>(if (↑(ByteArray.size y7):Int) > (↑(ByteArray.size x6):Int) then some (Bool.false) else (if 0≤(↑(ByteArray.size y7):Int) then (if (↑(ByteArray.size y7):Int)≤(↑(ByteArray.size x6):Int) then (if ByteArray.extract x6 0 (Int.toNat (↑(ByteArray.size y7):Int))=y7 then zf54.l8 n m8 (x4) (x5) (x6) (Go.RowKit.wrap64 (x7+1)) (r74_0) (r74_1) (r74_2) (r74_3) (r74_4) else some (Bool.false)) else none) else none))) else none) else none) else ((zf61 n x6).bind fun y8=>some (Decidable.decide (y8=(↑(List.length x5):Int))))):=by kernel_rfl
noncomputable abbrev zf54.sg (n:Nat):Sig:=⟨zf54.ps,zf54.res,zf54 n⟩
theorem zf54.call:Callable Tryz.prog 5:=⟨Tryz.f5,Tryz.func5,by kernel_rfl,by kernel_rfl⟩
theorem zf54.ok (n:Nat):FC Tryz.prog [g0,g2,g3,g4] 5 (zf54.sg n):=
  evalF_ok (C:=zf54.C) ⟨tb_ok,fun n _ _ h=>tabOk (l:=[(6,(zf84.sg n)),(7,(zf23.sg n)),(8,(zf87.sg n)),(9,(zf27.sg n)),(20,(zf61.sg n))]) (all_cons ⟨(.mono (gl:=[]) (gl':=[g0,g2,g3,g4]) (all_nil) (zf84.ok n)),zf84.call⟩ (all_cons ⟨zf23.ok n,zf23.call⟩ (all_cons ⟨(.mono (gl:=[]) (gl':=[g0,g2,g3,g4]) (all_nil) (zf87.ok n)),zf87.call⟩ (all_cons ⟨(.mono (gl:=[]) (gl':=[g0,g2,g3,g4]) (all_nil) (zf27.ok n)),zf27.call⟩ (all_cons ⟨(.mono (gl:=[]) (gl':=[g0,g2,g3,g4]) (all_nil) (zf61.ok n)),zf61.call⟩ (all_nil)))))) h,mixed,ar_ok,bld_ok,pts_ok⟩ zf54.A Tryz.func5 zf54.ps zf54.res n
abbrev zf55.ps:List Pm:=[.arg (.v (.slice (.int .u8)))]
abbrev zf55.res:List M:=[.v .bool]
noncomputable def zf55.C:Cfg:={ tb:=tb,tab:=fun n f=>Refl.look [(6,(zf84.sg n)),(7,(zf23.sg n)),(8,(zf87.sg n)),(9,(zf27.sg n)),(11,{ params:=zf20.ps,res:=[.v (.slice zt1)],run:=zf20 n }),(10,{ params:=zf22.ps,res:=[.v zt0,.v .bool],run:=zf22 n }),(12,(zf24.sg n)),(13,(zf25.sg n))] f,gl:=[g0,g2,g3,g4],ar:=ar,bld:=bld,pts:=pts }
noncomputable def zf55.A:Ann:={ joins:=[],loops:=[],ids:=[(3,[(15,[])]),(4,[(22,[])]),(5,[(27,[]),(31,[])]),(6,[(38,[])]),(7,[(43,[]),(44,[])]),(8,[(49,[]),(50,[])]),(11,[(59,[])]),(12,[(63,[])]),(13,[(69,[])])],pids:=[],nroots:=136 }
noncomputable def zf55 (n:Nat) (x:List Int):Option (Bool):=evalF zf55.C zf55.A Tryz.f3 zf55.ps zf55.res n x
theorem zf55.eq (n:Nat) (x0:List Int):zf55 n x0=(if (↑(List.length x0):Int) > 1048576 then some (Bool.true) else ((zf84 n x0).bind fun y0=>((zf23 n ((y0.1.1,y0.1.2.1,y0.1.2.2.1,y0.1.2.2.2.1,y0.1.2.2.2.2),y0.2.1,y0.2.2)).bind fun y1=>((zf87 n ((y0.1.1,y0.1.2.1,y0.1.2.2.1,y0.1.2.2.2.1,y0.1.2.2.2.2),y0.2.1,y0.2.2)).bind fun y2=>(if y1=y2 then ((zf27 n (y0.1.1,y0.1.2.1,y0.1.2.2.1,y0.1.2.2.2.1,y0.1.2.2.2.2)).bind fun y3=>(if (!y3)=true then ((zf87 n ((y0.1.1,y0.1.2.1,y0.1.2.2.1,y0.1.2.2.2.1,y0.1.2.2.2.2),y0.2.1,y0.2.2)).bind fun y4=>some (Decidable.decide (y1=y4))) else ((zf20 n y0.2.1).bind fun y5=>((zf22 n ((y0.1.1,y0.1.2.1,y0.1.2.2.1,y0.1.2.2.2.1,y0.1.2.2.2.2),y5)).bind fun y6=>((zf23 n ((y0.1.1,y0.1.2.1,y0.1.2.2.1,y0.1.2.2.2.1,y0.1.2.2.2.2),y0.2.1,List.set (List.set (List.replicate 2 ByteArray.empty) 0 { data:=#[(98:UInt8),(111:UInt8),(120:UInt8)] }) 1 { data:=#[(115:UInt8),(97:UInt8),(102:UInt8),(101:UInt8)] })).bind fun y7=>(if (!y6.2)=true then some (Decidable.decide (y7={ data:=#[(99:UInt8),(108:UInt8),(111:UInt8),(115:UInt8),(101:UInt8),(100:UInt8),(10:UInt8),(99:UInt8),(108:UInt8),(111:UInt8),(115:UInt8),(101:UInt8),(100:UInt8),(10:UInt8)] })) else ((zf24 n (y6.1.1,y6.1.2.1)).bind fun y8=>(if (y8)=true then ((zf25 n y6.1.2.2.1).bind fun y9=>(if ByteArray.size y9+ByteArray.size { data:=#[(10:UInt8),(121:UInt8),(101:UInt8),(115:UInt8),(10:UInt8)] }≤Go.Refl.maxN then some (Decidable.decide (y7=y9++{ data:=#[(10:UInt8),(121:UInt8),(101:UInt8),(115:UInt8),(10:UInt8)] })) else none)) else ((zf25 n y6.1.2.2.1).bind fun y10=>(if ByteArray.size y10+ByteArray.size { data:=#[(10:UInt8),(110:UInt8),(111:UInt8),(10:UInt8)] }≤Go.Refl.maxN then some (Decidable.decide (y7=y10++{ data:=#[(10:UInt8),(110:UInt8),(111:UInt8),(10:UInt8)] })) else none)))))))))) else ((zf87 n ((y0.1.1,y0.1.2.1,y0.1.2.2.1,y0.1.2.2.2.1,y0.1.2.2.2.2),y0.2.1,y0.2.2)).bind fun y11=>some (Decidable.decide (y1=y11)))))))):=by kernel_rfl
noncomputable abbrev zf55.sg (n:Nat):Sig:=⟨zf55.ps,zf55.res,zf55 n⟩
theorem zf55.call:Callable Tryz.prog 3:=⟨Tryz.f3,Tryz.func3,by kernel_rfl,by kernel_rfl⟩
theorem zf55.ok (n:Nat):FC Tryz.prog [g0,g2,g3,g4] 3 (zf55.sg n):=
  evalF_ok (C:=zf55.C) ⟨tb_ok,fun n _ _ h=>tabOk (l:=[(6,(zf84.sg n)),(7,(zf23.sg n)),(8,(zf87.sg n)),(9,(zf27.sg n)),(11,{ params:=zf20.ps,res:=[.v (.slice zt1)],run:=zf20 n }),(10,{ params:=zf22.ps,res:=[.v zt0,.v .bool],run:=zf22 n }),(12,(zf24.sg n)),(13,(zf25.sg n))]) (all_cons ⟨(.mono (gl:=[]) (gl':=[g0,g2,g3,g4]) (all_nil) (zf84.ok n)),zf84.call⟩ (all_cons ⟨zf23.ok n,zf23.call⟩ (all_cons ⟨(.mono (gl:=[]) (gl':=[g0,g2,g3,g4]) (all_nil) (zf87.ok n)),zf87.call⟩ (all_cons ⟨(.mono (gl:=[]) (gl':=[g0,g2,g3,g4]) (all_nil) (zf27.ok n)),zf27.call⟩ (all_cons ⟨FC.weak (.cons (.own _ _) .nil) HEq.rfl (zf20.ok n),zf20.call⟩ (all_cons ⟨FC.weak (.cons (.refl _) (.cons (.refl _) .nil)) HEq.rfl (.mono (gl:=[]) (gl':=[g0,g2,g3,g4]) (all_nil) (zf22.ok n)),zf22.call⟩ (all_cons ⟨(.mono (gl:=[]) (gl':=[g0,g2,g3,g4]) (all_nil) (zf24.ok n)),zf24.call⟩ (all_cons ⟨(.mono (gl:=[g2]) (gl':=[g0,g2,g3,g4]) (all_cons (.tail _ (.head _)) (all_nil)) (zf25.ok n)),zf25.call⟩ (all_nil))))))))) h,mixed,ar_ok,bld_ok,pts_ok⟩ zf55.A Tryz.func3 zf55.ps zf55.res n
end Go.Proofs.YtbgamdkmlikgjaaGreatDoorG
end
