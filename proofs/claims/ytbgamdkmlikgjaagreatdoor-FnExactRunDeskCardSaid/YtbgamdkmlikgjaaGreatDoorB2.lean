import Derived.Shelf.Strings.Builder1
import Derived.Shelf.Strconv.Itoa3
import Derived.Shelf.Strings.Search3
import Derived.Shelf.Strings.Count
import Derived.Shelf.Strconv.AtoiAll
import Derived.Below
import Derived.Test.YtbgamdkmlikgjaaGreatDoorB1
/- Proof texts: library of a small machine over plain data. No condition. -/
set_option linter.unusedVariables false
set_option linter.unusedSimpArgs false
section
namespace Go.Refl
open Go Go.RowKit
variable {P:Program} {w0 w w':World} {Mo:Given} {F0 F F':Nat→Prop} {L L':Nat→Value} {s s':St} {a:Act}
theorem Fresh.sub {X:Nat→Prop} {L1 L2:Nat→Value} {s1 s2:St} {b1 b2:List Nat} (h:Fresh X w0 Mo F0 F L1 L2 s1 s2 w b1) (hb:∀b ∈ b1,b ∈ b2):Fresh X w0 Mo F0 F L1 L2 s1 s2 w b2:=
 ⟨h.core,h.go,h.tmps,fun r hr=>(h.old r hr).imp_right fun k g hg=>hb g (k g hg)⟩
theorem vp_rel {rs:List Root} {t:Ty} {x:t.den} {v:Value} (h:VpRep w F t x v):CRel w F L rs (.vptr t [x] 0 0) v:=by
 obtain ⟨p,cs,h1,h2,h3,h4⟩:=h
 refine ⟨p,cs,h1,by simp,size_pos t,⟨cs,[],by simp,h3,rfl⟩,h2,fun m u hm=>h4 m u (by simpa using hm)⟩
theorem vps_rel {rs:List Root}:∀{l:List Ty} {x:tys l} {vs:List Value},TysRep w F l x vs→All2 (CRel w F L rs) (enterP.vps l x) vs
 | [],_,vs,h=>by cases h;exact trivial
 | [t],x,vs,⟨v,h,h1⟩=>by subst h;exact ⟨vp_rel h1,trivial⟩
 | t::u::l,x,vs,⟨v,vs',h,h1,h2⟩=>by subst h;exact ⟨vp_rel h1,vps_rel h2⟩
def PairsOk (L:Nat→Value) (s:St):List Nat→List Value→Prop
 | [],[]=>True
 | r::rs,v::vs=>((s.root r).isDead=false∧L r=v)∧PairsOk L s rs vs
 | _,_=>False
theorem PairsOk.goes:∀{rs:List Nat} {vs:List Value},PairsOk L s rs vs→Goes w w' F F' L L' s.roots s'.roots→PairsOk L' s' rs vs
 | [],[],_,_=>trivial
 | r::rs,v::vs,h,g=>by
  obtain ⟨h1,h2⟩:=g.l r h.1.1
  exact ⟨⟨h2.live h.1.1,h1.trans h.1.2⟩,PairsOk.goes h.2 g⟩
 | [],_::_,h,_=>h.elim
 | _::_,[],h,_=>h.elim
theorem PairsOk.append:∀{rs rs':List Nat} {vs vs':List Value},PairsOk L s rs vs→PairsOk L s rs' vs'→PairsOk L s (rs++rs') (vs++vs')
 | [],_,[],_,_,h=>h
 | r::rs,_,v::vs,_,h,h'=>⟨h.1,PairsOk.append h.2 h'⟩
 | [],_,_::_,_,h,_=>h.elim
 | _::_,_,[],_,h,_=>h.elim
theorem all2_undef {rs:List Root}:∀{cs:List Value},(∀u ∈ cs,u.oneCell'=true)→All2 (Cel w F L rs) (List.replicate cs.length .undef) cs
 | [],_=>trivial
 | c::cs,h=>⟨⟨trivial,h c (List.mem_cons_self ..)⟩,all2_undef fun u hu=>h u (List.mem_cons_of_mem _ hu)⟩
theorem one_ok {X:Nat→Prop} {pids:List (Nat × List Nat)} {p:Pm} (hpb:p.isBld=false) {x:p.den} {v:Value} {mv ln:List Nat} {i:Nat} (h:PRep w F p x v mv ln) (hc:CoreX X w0 Mo F0 F L s w) (hn:s.news (enterP.one pids i p x).2=some s') (hnd:(mv++ln).Nodup) (hb:∀b ∈ mv++ln,BlOk w0 Mo F L s w b) :
  ∃L',Fresh X w0 Mo F0 F L L' s s' w (mv++ln)∧VRel1 w F L' s'.roots (enterP.one pids i p x).1 v∧PairsOk L' s' (lentIds [p] i) (lentVals [p] [v]):=by
 cases p with
 | arg m=>
  obtain ⟨rfl,cs,rfl,h⟩:=h
  rw[List.append_nil] at hnd hb ⊢
  obtain ⟨L',h1,h2⟩:=emit_rel h hc hn hnd hb
  exact ⟨L',h1,h2,trivial⟩
 | inout e E=>
  obtain ⟨rfl,h⟩:=h
  rw[List.nil_append] at hnd hb ⊢
  obtain ⟨L',h1,h2⟩:=emitC_rel (.own e E) (ids:=[i]) h hc hn hnd hb
  refine ⟨L',h1,h2.1.1,⟨?_,h2.1.1.1.symm⟩,trivial⟩
  obtain ⟨_,e1,E1,xs,hr⟩:=h2.1.1
  exact not_dead hr
 | box T m=>
  obtain ⟨g,cur,rfl,hg,h,rfl⟩:=h
  have hp:(mv++[g]).Perm (g::mv):=List.perm_append_comm
  have h':MRep w F (.bx T m) x [.pointer (some ⟨g,0,none⟩)] (g::mv):=⟨g,cur,mv,rfl,hg,h,rfl⟩
  obtain ⟨L',h1,h2⟩:=emitC_rel (.bx T m) (ids:=i::(look pids i).getD []) h' hc hn (hp.nodup_iff.1 hnd) (fun b hb'=>hb b (hp.mem_iff.2 hb'))
  refine ⟨L',h1.sub fun b hb'=>hp.mem_iff.2 hb',h2.1.1,?_⟩
  rcases h2.1.1 with ⟨e,E,xs,g',n,c,_,_,_,_,h6⟩ | ⟨T',cs,g',h3,h4,_,_,h6⟩
  ·obtain ⟨e2,E2,xs2,g2,n2,c2,q1,q2,_⟩ | ⟨T',cs,g',h3,h4,_,_,h6⟩:=h2.1.1
   ·exfalso
    have hbx:∃cs,s'.root i=.box T cs:=by
     simp only[enterP.one] at hn
     rw[news_append,Option.bind_eq_some_iff] at hn
     obtain ⟨s1,n1,n2⟩:=hn
     obtain ⟨k1,k2,rfl⟩:=news_one n2
     exact ⟨_,by rw[root_set,if_pos ⟨rfl,k1⟩]⟩
    obtain ⟨cs,hbx⟩:=hbx
    have:s'.root i=.row e2 E2 xs2:=q1
    rw[hbx] at this;cases this
   ·exact ⟨⟨not_dead' h3,by rw[h4,h6]⟩,trivial⟩
  ·exact ⟨⟨not_dead' h3,by rw[h4,h6]⟩,trivial⟩
 | vp t=>
  obtain ⟨rfl,rfl,h⟩:=h
  simp only[enterP.one,St.news,Option.some.injEq] at hn
  subst hn
  exact ⟨L,.refl hc _,(vp_rel h).v1,trivial⟩
 | fnc f caps=>
  obtain ⟨rfl,rfl,vs,rfl,h⟩:=h
  simp only[enterP.one,St.news,Option.some.injEq] at hn
  subst hn
  exact ⟨L,.refl hc _,⟨vs,rfl,vps_rel h⟩,trivial⟩
 | bldw T E=>cases hpb
 | sin k e E n=>
  obtain ⟨rfl,c1,hd,c2,rfl,rfl,rfl,hone,h⟩:=h
  rw[List.nil_append] at hnd hb ⊢
  obtain ⟨L',h1,h2⟩:=emitC_rel (.own e E) (ids:=[i]) h hc hn hnd hb
  have hcell:Cel w F L' s'.roots (.own i) hd:=h2.1
  refine ⟨L',h1,⟨c1++hd::c2,rfl,?_⟩,⟨?_,?_⟩,trivial⟩
  ·exact All2.append (all2_undef fun u hu=>hone u (List.mem_append_left _ hu)) ⟨hcell,all2_undef fun u hu=>hone u (List.mem_append_right _ (List.mem_cons_of_mem _ hu))⟩
  ·obtain ⟨_,e1,E1,xs,hr⟩:=hcell.1
   exact not_dead hr
  ·rw[←hcell.1.1]
   show hd=(c1++hd::c2).toArray.toList.getD c1.length .nilIface
   rw[List.toList_toArray,List.getD_eq_getElem?_getD,List.getElem?_append_right (Nat.le_refl _),Nat.sub_self]
   rfl
theorem lentIds_cons (p:Pm) (ps:List Pm) (i:Nat):lentIds (p::ps) i=lentIds [p] i++lentIds ps (i+1):=by cases p <;> rfl
theorem enter_ok {X:Nat→Prop} {pids:List (Nat × List Nat)}:∀{ps:List Pm} {x:pdens ps} {vs:List Value} {mv ln:List Nat} {i:Nat} {L:Nat→Value} {s s':St},ps.any Pm.isBld=false→PsRep w F ps x vs mv ln→CoreX X w0 Mo F0 F L s w→s.news (enterP pids ps x i).2=some s'→(mv++ln).Nodup→(∀b ∈ mv++ln,BlOk w0 Mo F L s w b) →
  ∃L',Fresh X w0 Mo F0 F L L' s s' w (mv++ln)∧All2 (VRel1 w F L' s'.roots) (enterP pids ps x i).1 vs∧PairsOk L' s' (lentIds ps i) (lentVals ps vs)
 | [],x,vs,mv,ln,i,L,s,s',_,h,hc,hn,_,_=>by
  obtain ⟨rfl,rfl,rfl⟩:=h
  simp only[enterP,St.news,Option.some.injEq] at hn
  subst hn
  exact ⟨L,.refl hc _,trivial,trivial⟩
 | [p],x,vs,mv,ln,i,L,s,s',hpb,h,hc,hn,hnd,hb=>by
  obtain ⟨v,rfl,h⟩:=h
  obtain ⟨L',h1,h2,h3⟩:=one_ok (by simpa using hpb) h hc hn hnd hb
  exact ⟨L',h1,⟨h2,trivial⟩,h3⟩
 | p::q::ps,x,vs,mv,ln,i,L,s,s',hpb,h,hc,hn,hnd,hb=>by
  rw[List.any_cons,Bool.or_eq_false_iff] at hpb
  obtain ⟨v,vs',m1,m2,l1,l2,rfl,rfl,rfl,h1,h2⟩:=h
  simp only[enterP] at hn ⊢
  rw[news_append,Option.bind_eq_some_iff] at hn
  obtain ⟨s1,n1,n2⟩:=hn
  have hp:((m1++m2)++(l1++l2)).Perm ((m1++l1)++(m2++l2)):=by
   rw[List.append_assoc,List.append_assoc]
   refine List.Perm.append_left _ ?_
   rw[←List.append_assoc,←List.append_assoc]
   exact List.Perm.append_right _ List.perm_append_comm
  have hnd':=hp.nodup_iff.1 hnd
  rw[List.nodup_append] at hnd'
  obtain ⟨L1,f1,v1,p1⟩:=one_ok hpb.1 h1 hc n1 hnd'.1 (fun b hb'=>hb b (hp.mem_iff.2 (List.mem_append.2 (.inl hb'))))
  obtain ⟨L2,f2,v2,p2⟩:=enter_ok hpb.2 h2 f1.core n2 hnd'.2.1 (fun b hb'=>f1.blOk (hb b (hp.mem_iff.2 (List.mem_append.2 (.inr hb')))) fun h=>hnd'.2.2 b h b hb' rfl)
  refine ⟨L2,(f1.trans f2).sub fun b hb'=>hp.mem_iff.2 hb',⟨v1.goes f2.go,v2⟩,?_⟩
  rw[lentIds_cons,lentVals_cons]
  exact (p1.goes f2.go).append p2
theorem PairsOk.mem:∀{rs:List Nat} {vs:List Value},PairsOk L s rs vs→∀p ∈ rs.zip vs,p.1 ∈ rs∧L p.1=p.2
 | [],[],_,p,hp=>by cases hp
 | r::rs,v::vs,h,p,hp=>by
  rcases List.mem_cons.1 hp with rfl | hp
  ·exact ⟨by simp,h.1.2⟩
  ·obtain ⟨h1,h2⟩:=PairsOk.mem h.2 p hp
   exact ⟨by simp[h1],h2⟩
 | [],_::_,h,_,_=>h.elim
 | _::_,[],h,_,_=>h.elim
theorem PairsOk.length:∀{rs:List Nat} {vs:List Value},PairsOk L s rs vs→rs.length=vs.length
 | [],[],_=>rfl
 | r::rs,v::vs,h=>by simp[PairsOk.length h.2]
 | [],_::_,h=>h.elim
 | _::_,[],h=>h.elim
theorem kept_map {K:List (Nat × Value)} (h:Kept K L s):∀{rs:List Nat} {vs:List Value},rs.length=vs.length→(∀p ∈ rs.zip vs,p ∈ K)→(∀r ∈ rs,(s.root r).isDead=false)→rs.map L=vs
 | [],[],_,_,_=>rfl
 | r::rs,v::vs,hl,hm,hd=>by
  rw[List.map_cons,kept_map h (rs:=rs) (vs:=vs) (by simpa using hl) (fun p hp=>hm p (by simp[hp])) (fun q hq=>hd q (by simp[hq]))]
  rw[(h (r,v) (hm _ (by simp))).2 (hd r (by simp))]
 | [],_::_,h,_,_=>by cases h
 | _::_,[],h,_,_=>by cases h
theorem PsRep.len:∀{ps:List Pm} {x:pdens ps} {vs:List Value} {mv ln:List Nat},PsRep w F ps x vs mv ln→vs.length=ps.length
 | [],_,_,_,_,h=>by rw[h.1];rfl
 | [p],_,_,_,_,⟨v,h,_⟩=>by rw[h];rfl
 | p::q::ps,_,_,_,_,⟨v,vs',_,_,_,_,h,_,_,_,h2⟩=>by rw[h,List.length_cons,PsRep.len h2];rfl
theorem All2.undefs {rs:List Root}:∀(n:Nat) (v:Value),All2 (VRel w F L rs) (List.replicate n .undef) (List.replicate n v)
 | 0,_=>trivial
 | n+1,v=>⟨trivial,All2.undefs n v⟩
theorem fin_ok {C:Cfg} (hC:CfgOk P C w0 Mo F0) {fn:Func} {ps:List Pm} {res:List M} {y:dens (res++outs ps)} {vs:List Value} {mv ln:List Nat} (hMo:Mo=⟨(· ∈ mv++ln),(lentIds ps 0).zip (lentVals ps vs)⟩) (hF0:∀b,F0 b→b<w0.heap.size)
  (hlen:(lentIds ps 0).length=(lentVals ps vs).length) (h:finR C fn.results.toList ps res s=some y) (hr:Rel w0 Mo F0 s a w) :
  a.defers=[]∧∃v,(results fn a.tmps).run P w=.ok v w∧∃rs F' b1 b2,Ending.returned v=.returned (oneOrTupV rs)∧MsRep w F' res (splitD res (outs ps) y).1 rs b1∧OutsRep w F' (outKinds ps) (splitD res (outs ps) y).2 (lentVals ps vs) b2 ∧
   (b1++b2).Nodup∧(∀b ∈ b1++b2,¬F' b∧b<w.heap.size∧(w0.heap.size≤b∨b ∈ mv++ln))∧(∀b,F0 b→F' b)∧(∀b,F' b→b<w.heap.size∧(F0 b∨w0.heap.size≤b∨b ∈ mv++ln))∧Evol w0 (· ∈ mv++ln) w:=by
 obtain ⟨hd,F,L,hc,ht⟩:=hr
 refine ⟨hd,?_⟩
 unfold finR at h
 rw[Option.bind_eq_some_iff] at h
 obtain ⟨lvs,hl,h⟩:=h
 obtain ⟨rs,g1,g2⟩:=results_run hC.tb hc ht hl
 refine ⟨_,g1,?_⟩
 split at h
 ·rename_i x1 e1 y1 e2 ha1 ho1
  simp only at h
  split at h
  ·rename_i x l1 z l2 ha ho
   cases hb:(decide (l1++l2).Nodup&&(l1++l2).all (fun r=>(e1++e2).contains r)) with
   | false=>rw[hb] at h;cases h
   | true=>
    rw[hb,cond_true,Option.some.injEq] at h
    rw[Bool.and_eq_true,decide_eq_true_eq,List.all_eq_true] at hb
    obtain ⟨k1,k2⟩:=absorbs_rel hc ha g2
    obtain ⟨j1,j2,j3⟩:=outsIn_rel hc ho
    subst hMo
    have hvals:(lentIds ps 0).map L=lentVals ps vs:=kept_map hc.kp hlen (fun p hp=>hp) j3
    rw[hvals] at j1
    subst h
    rw[show splitD res (outs ps) (joinD res (outs ps) x z)=(x,z) from splitD_join res (outs ps) x z]
    have hlv:∀r ∈ l1++l2,(s.root r).isDead=false:=fun r hr=>(List.mem_append.1 hr).elim (k2 r) (j2 r)
    refine ⟨rs,_,_,_,rfl,k1,j1,?_,fun b hb'=>?_,fun b hb'=>.inl (hc.f0 b hb'),fun b hb'=>?_,hc.evol⟩
    ·rw[←blks_append];exact blks_nodup hc hb.1 hlv
    ·rw[←blks_append] at hb'
     obtain ⟨r,hr,hrb⟩:=mem_blks.1 hb'
     have h1:=hc.live r (hlv r hr) b hrb
     refine ⟨?_,h1.2⟩
     rintro (h2 | ⟨q,q1,q2,q3⟩)
     ·exact h1.1 h2
     ·by_cases e:q=r
      ·subst e
       have q1':(!(e1++e2).contains q)=true:=q1
       rw[hb.2 q hr] at q1';cases q1'
      ·exact hc.apart q r q2 (hlv r hr) e b q3 hrb
    ·rcases hb' with h1 | ⟨q,_,q2,q3⟩
     ·exact hc.fr b h1
     ·have:=hc.live q q2 b q3
      exact ⟨this.2.1,.inr this.2.2⟩
  ·cases h
 ·cases h
theorem evalF_ok {C:Cfg} (hCB:CfgB P C) (A:Ann) {f:Nat} {fn:Func} (hf:P.funcs[f]?=some fn) (ps:List Pm) (res:List M) (n:Nat):FC P C.gl f { params:=ps,res:=res,run:=evalF C A fn ps res n }:=by
 intro x y hy w F vs mv ln hgl hps hnd hb hF
 have hC:CfgOk P C w ⟨(· ∈ mv++ln),(lentIds ps 0).zip (lentVals ps vs)⟩ F:=⟨hCB,hgl,fun b h=>⟨hF b h,fun h'=>(hb b h').1 h⟩⟩
 simp only[evalF] at hy
 split at hy
 case h_2=>cases hy
 rename_i c hbody
 split at hy
 case h_2=>cases hy
 rename_i s hs
 refine calls_of_wp hf hbody ?_
 unfold start at hs
 simp only at hs
 cases hpb:ps.any Pm.isBld with
 | true=>rw[hpb] at hs;cases hs
 | false=>
 rw[hpb,cond_false,Option.map_eq_some_iff] at hs
 obtain ⟨s1,hn,rfl⟩:=hs
 let s0:St:={ tmps:=(enterP A.pids ps x 0).1++List.replicate (fn.ntmps-(enterP A.pids ps x 0).1.length) .undef,roots:=List.replicate A.nroots .dead }
 have hdead:∀r,s0.root r=.dead:=by
  intro r
  show (List.replicate A.nroots Root.dead).getD r .dead=.dead
  rw[List.getD_eq_getElem?_getD,List.getElem?_replicate]
  split <;> rfl
 have hc0:CoreX (fun _=>False) w ⟨(· ∈ mv++ln),[]⟩ F F (fun _=>undef) s0 w:=by
  refine ⟨⟨rfl,rfl,rfl,Nat.le_refl _,fun _ _ _=>rfl⟩,fun _ h=>h,fun b h=>⟨hF b h,.inl h⟩,fun r h=>?_,fun r r' h=>?_,fun r _=>?_,fun p hp=>by cases hp⟩
  ·rw[hdead] at h;cases h
  ·rw[hdead] at h;cases h
  ·rw[hdead];trivial
 obtain ⟨L,f1,v1,p1⟩:=enter_ok hpb hps hc0 hn hnd (fun b hb'=>⟨(hb b hb').1,(hb b hb').2,.inr hb',fun r hr=>by rw[hdead] at hr;cases hr⟩)
 have hc:=f1.core.core (fun _ h=>h)
 have hrel:Rel w ⟨(· ∈ mv++ln),(lentIds ps 0).zip (lentVals ps vs)⟩ F { s1 with lent:=lentIds ps 0 } { tmps:=vs.toArray++Array.replicate (fn.ntmps-vs.toArray.size) undef,defers:=[] } w:=by
  refine ⟨rfl,F,L,⟨hc.evol,hc.f0,hc.fr,hc.live,hc.apart,hc.roots,fun p hp=>?_⟩,?_⟩
  ·obtain ⟨h1,h2⟩:=p1.mem p hp
   exact ⟨List.contains_iff_mem.2 h1,fun _=>h2⟩
  ·show All2 (VRel w F L s1.roots) s1.tmps _
   rw[f1.tmps]
   have hl:=v1.length
   have:(vs.toArray++Array.replicate (fn.ntmps-vs.toArray.size) undef).toList=vs++List.replicate (fn.ntmps-(enterP A.pids ps x 0).1.length) undef:=by
    rw[hl];simp
   rw[this]
   exact (v1.mono fun _ _ h=>h.v).append (All2.undefs ..)
 refine evalC_ok hC A n y c _ _ _ _ w hy hrel fun e s a w' hk hr=>?_
 cases e with
 | exit i=>cases hk
 | normal=>exact fin_ok hC rfl hF p1.length hk hr
 | ret=>exact fin_ok hC rfl hF p1.length hk hr
end Go.Refl
end
section
namespace Go.Refl
open Go Go.RowKit
variable {P:Program}
theorem TOk.of {tb:List (Nat × TI)} {t:TypeId} {ti:TI} (h1:(P.info? t).map (fun i=>(i.size,i.zero))=some (ti.ty.size,some (packV ti.ty (zeroV ti.ty)))) (h2:(P.info? t).map (fun i=>Nat.ble i.bytes 128)=some true)
  (h3:DescOk P tb t ti) (h4:ti.eqOk=true→EqOk P t ti.ty) (h5:ti.cmp=true→(P.info? t).map (·.comparable)=some true:=by intro h;cases h):TOk P tb t ti:=by
 refine ⟨?_,h3,h4,fun h=>by
  obtain ⟨i,hi,e⟩:=Option.map_eq_some_iff.1 (h5 h)
  exact ⟨i,hi,e⟩⟩
 cases h:P.info? t with
 | none=>rw[h] at h1;cases h1
 | some i=>
  rw[h] at h1 h2
  simp only[Option.map_some,Option.some.injEq,Prod.mk.injEq] at h1
  simp only[Option.map_some,Option.some.injEq] at h2
  exact ⟨i,rfl,h1.1,Nat.le_of_ble_eq_true h2,h1.2⟩
def fieldsOk (P:Program) (ti:TI):Option TypeDesc→Bool
 | some (.struct fs)=>Nat.beq ti.offs.length fs.size&&(List.range fs.size).all fun k=>match fs[k]?,ti.offs[k]?,ti.szs[k]? with
  | some f,some o,some z=>Nat.beq o f.offset&&(match P.info? f.type with
   | some i=>Nat.beq z i.size&&Nat.blt 0 i.size
   | none=>false)
  | _,_,_=>false
 | _=>false
theorem descOk_struct {tb:List (Nat × TI)} {t:TypeId} {ti:TI} (hp:ti.ty.isPair=true) (h:fieldsOk P ti (P.underlying t)=true):DescOk P tb t ti:=by
 unfold DescOk
 cases hty:ti.ty with
 | pair a b=>
  cases hu:P.underlying t with
  | none=>rw[hu] at h;cases h
  | some d=>
   rw[hu] at h
   cases d with
   | struct fs=>
    simp only[fieldsOk,Bool.and_eq_true,Nat.beq_eq,List.all_eq_true,List.mem_range] at h
    refine ⟨fs,rfl,h.1,fun k f hf=>?_⟩
    have hk:k<fs.size:=by
     rcases Nat.lt_or_ge k fs.size with hk | hk
     ·exact hk
     ·rw[Array.getElem?_eq_none hk] at hf;cases hf
    have h2:=h.2 k hk
    rw[hf] at h2
    split at h2
    ·rename_i f' o z e1 e2 e3
     cases e1
     rw[Bool.and_eq_true,Nat.beq_eq] at h2
     split at h2
     ·rename_i i hi
      rw[Bool.and_eq_true,Nat.beq_eq,Nat.blt_eq] at h2
      exact ⟨by rw[e2,h2.1],i,hi,by rw[e3,h2.2.1],h2.2.2⟩
     ·cases h2.2
    ·cases h2
   | _=>cases h
 | _=>rw[hty] at hp;cases hp
theorem tbOk {tb:List (Nat × TI)} (h:∀p ∈ tb,TOk P tb p.1 p.2):CfgTb P tb:=fun _ _ hl=>h _ (look_mem hl)
theorem tabOk {gl:List (Nat × GItem)} {l:List (Nat × Sig)} (h:∀p ∈ l,FC P gl p.1 p.2∧Callable P p.1) {f:Nat} {g:Sig} (hl:look l f=some g):FC P gl f g∧Callable P f:=h _ (look_mem hl)
universe u
theorem all_nil {α:Type u} {p:α→Prop}:∀x ∈ ([]:List α),p x:=fun _ h=>by cases h
theorem all_cons {α:Type u} {p:α→Prop} {x:α} {l:List α} (h:p x) (t:∀y ∈ l,p y):∀y ∈ x::l,p y:=fun y hy=>by
 rcases List.mem_cons.1 hy with rfl | hy
 ·exact h
 ·exact t y hy
theorem arOk {l:List (Nat × AI)} (h:∀p ∈ l,AOk P p.1 p.2):∀T ai,look l T=some ai→AOk P T ai:=fun _ _ hl=>h _ (look_mem hl)
theorem bldOk {l:List (Nat × Nat)} (h:∀p ∈ l,BOk P p.1):∀T E,look l T=some E→BOk P T:=fun _ _ hl=>h _ (look_mem hl)
theorem ptsOk {l:List Nat} (h:∀p ∈ l,∃e,P.underlying p=some (.pointer e)) {T:Nat} (hT:T ∈ l):∃e,P.underlying T=some (.pointer e):=h T hT
theorem AOk.of {T:TypeId} {ai:AI} (h1:P.underlying T=some (.array ai.n ai.E)) (h2:(P.info? T).map (·.size)=some (ai.n*ai.e.size)) (h3:(P.info? ai.E).map (·.size)=some ai.e.size)
  (h4:(P.underlying ai.E).map (fun d=>match d with | .struct _ | .array _ _=>true | _=>false)=some false) (h5:ai.e.isPair=false):AOk P T ai:=by
 refine ⟨h1,?_,?_,fun w=>?_,h5⟩
 ·obtain ⟨i,hi,e⟩:=Option.map_eq_some_iff.1 h2;exact ⟨i,hi,e⟩
 ·obtain ⟨i,hi,e⟩:=Option.map_eq_some_iff.1 h3;exact ⟨i,hi,e⟩
 ·obtain ⟨d,hd,e⟩:=Option.map_eq_some_iff.1 h4
  simp only[isAgg,Sem.run_bind,run_underlying hd,Result.andThen_ok]
  rw[←e]
  cases d <;> rfl
theorem BOk.of {T:TypeId} (h1:(P.info? T).map (fun i=>(i.size,i.zero))=some (2,some (.agg #[.pointer none,.slice none 0 0]))) (h2:(P.info? T).map (fun i=>Nat.ble i.bytes 128)=some true):BOk P T:=by
 cases h:P.info? T with
 | none=>rw[h] at h1;cases h1
 | some i=>
  rw[h] at h1 h2
  simp only[Option.map_some,Option.some.injEq,Prod.mk.injEq] at h1 h2
  exact ⟨i,h,h1.1,Nat.le_of_ble_eq_true h2,h1.2⟩
theorem FC.mono {gl gl':List (Nat × GItem)} (h:∀p ∈ gl,p ∈ gl') {f:Nat} {g:Sig} (hf:FC P gl f g):FC P gl' f g:=fun x y hy w F vs mv ln hg=>hf x y hy w F vs mv ln fun p hp=>hg p (h p hp)
theorem eqOk_int {t:TypeId} {k:IntKind}:EqOk P t (.int k):=by
 intro neg x y cs ds w F ox oy hx hy
 simp only[Rep] at hx hy
 subst hx hy
 have e1:packV (.int k) [.int k x]=.int k x:=rfl
 have e2:packV (.int k) [.int k y]=.int k y:=rfl
 rw[e1,e2]
 cases neg
 ·simp only[Bool.false_eq_true,if_false,eqGuard_at_int,binOp_eql,Sem.run_bind,Sem.run_pure,Result.andThen_ok,cond_false]
  rfl
 ·simp only[if_true,eqGuard_at_int,binOp_neq,Sem.run_bind,Sem.run_pure,Result.andThen_ok,cond_true]
  rfl
theorem eqOk_bool {t:TypeId} (h:P.underlying t=some .bool):EqOk P t .bool:=by
 intro neg x y cs ds w F ox oy hx hy
 simp only[Rep] at hx hy
 subst hx hy
 have e1:packV .bool [.bool x]=.bool x:=rfl
 have e2:packV .bool [.bool y]=.bool y:=rfl
 rw[e1,e2]
 cases neg
 ·simp[eqGuard_at_bool,binOp,run_equal_bool w t x y h]
  cases x <;> cases y <;> rfl
 ·simp[eqGuard_at_bool,binOp,run_equal_bool w t x y h]
  cases x <;> cases y <;> rfl
end Go.Refl
end
section
namespace Go.Refl
open Go Go.RowKit
variable {P:Program}
def EqIn (P:Program) (d:Nat) (t:TypeId) (ty:Ty):Prop:=
 ∀(x y:ty.den) (cs ds:List Value) (w:World) (F:Nat→Prop),Rep w F ty x cs→Rep w F ty y ds→(Op.equalIn d t (packV ty cs) (packV ty ds)).run P w=.ok (@decide _ (ty.decEq x y)) w
def fieldChk (P:Program) (rec:TypeId→Ty→Bool) (f:Field) (off:Nat) (ty:Ty):Bool:=
 f.name != "_" && Nat.beq f.offset off&&rec f.type ty&&(!ty.isPair || (match P.info? f.type with
  | some i=>Nat.beq i.size ty.size
  | none=>false))
def chainChk (P:Program) (rec:TypeId→Ty→Bool):List Field→Nat→Ty→Bool
 | [f],off,ty=>fieldChk P rec f off ty
 | f::g::fs,off,.pair a b=>fieldChk P rec f off a&&chainChk P rec (g::fs) (off+a.size) b
 | _,_,_=>false
def eqChk (P:Program):Nat→TypeId→Ty→Bool
 | 0,_,_=>false
 | _+1,t,.int _=>match P.underlying t with
  | some (.int _)=>true
  | _=>false
 | _+1,t,.bool=>match P.underlying t with
  | some .bool=>true
  | _=>false
 | _+1,t,.str=>match P.underlying t with
  | some .string=>true
  | _=>false
 | d+1,t,.pair a b=>match P.underlying t with
  | some (.struct fs)=>!P.stoodInHeld t&&chainChk P (eqChk P d) fs.toList 0 (.pair a b)
  | _=>false
 | _+1,_,.slice _=>false
 | _+1,_,.err=>false
theorem isAgg_run {t:TypeId} {w:World} {d:TypeDesc} (h:P.underlying t=some d):(isAgg t).run P w=.ok (match d with | .struct _ | .array _ _=>true | _=>false) w:=by
 simp only[isAgg,Sem.run_bind,run_underlying h,Result.andThen_ok]
 cases d <;> rfl
theorem extract_toList (xs:Array Value) (i j:Nat):(xs.extract i j).toList=(xs.toList.drop i).take (j-i):=by simp
theorem part_run {rec:TypeId→Ty→Bool} (hrec:∀t ty,rec t ty=true→match ty with
  | .int _=>∃k,P.underlying t=some (.int k)
  | .bool=>P.underlying t=some .bool
  | .str=>P.underlying t=some .string
  | .pair _ _=>∃fs,P.underlying t=some (.struct fs)
  | .slice _=>False
  | .err=>False) {f:Field} {off:Nat} {ty:Ty} (hf:fieldChk P rec f off ty=true) {w:World} {F:Nat→Prop} {x:ty.den} {pre cs post:List Value} (hpre:pre.length=off) (hr:Rep w F ty x cs) :
  (part f.type (pre++cs++post).toArray f.offset).run P w=.ok (packV ty cs) w:=by
 simp only[fieldChk,Bool.and_eq_true,Nat.beq_eq,Bool.or_eq_true,Bool.not_eq_true'] at hf
 obtain ⟨⟨⟨_,h2⟩,h3⟩,h4⟩:=hf
 have hk:=hrec _ _ h3
 have hlen:=Rep.length _ hr
 rw[h2]
 subst hpre
 have one:∀(v:Value),(isAgg f.type).run P w=.ok false w→cs=[v]→packV ty cs=v→(part f.type (pre++cs++post).toArray pre.length).run P w=.ok (packV ty cs) w:=by
  intro v hd hcs hv
  simp only[part,Sem.run_bind,hd,Result.andThen_ok,Bool.false_eq_true,if_false]
  have:(pre++cs++post).toArray[pre.length]?=some v:=by rw[hcs];simp
  rw[this,hv]
  rfl
 cases ty with
 | int k=>obtain ⟨k',hk⟩:=hk;simp only[Rep] at hr;exact one _ (isAgg_run hk) hr (by rw[hr];rfl)
 | bool=>simp only[Rep] at hr;exact one _ (isAgg_run hk) hr (by rw[hr];rfl)
 | str=>simp only[Rep] at hr;exact one _ (isAgg_run hk) hr (by rw[hr];rfl)
 | slice e=>exact hk.elim
 | err=>exact hk.elim
 | pair a b=>
  obtain ⟨fs,hk⟩:=hk
  rcases h4 with h4 | h4
  ·cases h4
  ·split at h4
   ·rename_i i hi
    rw[Nat.beq_eq] at h4
    have hty:(sizeOf f.type).run P w=.ok i.size w:=by
     simp[sizeOf,typeInfo,hi]
    simp only[part,Sem.run_bind,isAgg_run hk,Result.andThen_ok,if_true,hty,Sem.run_pure]
    congr 1
    show Value.agg _=Value.agg _
    congr 1
    apply Array.toList_inj.1
    rw[extract_toList,h4,←hlen]
    simp
   ·cases h4
theorem chain_run {d:Nat} {rec:TypeId→Ty→Bool} (hrec:∀t ty,rec t ty=true→match ty with
  | .int _=>∃k,P.underlying t=some (.int k)
  | .bool=>P.underlying t=some .bool
  | .str=>P.underlying t=some .string
  | .pair _ _=>∃fs,P.underlying t=some (.struct fs)
  | .slice _=>False
  | .err=>False) (heq:∀t ty,rec t ty=true→EqIn P d t ty):∀(fs:List Field) (off:Nat) (ty:Ty),chainChk P rec fs off ty=true→∀(x y:ty.den) (px py cs ds:List Value) (w:World) (F:Nat→Prop),px.length=off→py.length=off→Rep w F ty x cs→Rep w F ty y ds →
  (Op.eqFields d (px++cs).toArray (py++ds).toArray fs).run P w=.ok (@decide _ (ty.decEq x y)) w
 | [f],off,ty,h,x,y,px,py,cs,ds,w,F,hx,hy,rx,ry=>by
  have h':fieldChk P rec f off ty=true:=h
  have h1:=part_run hrec h' (post:=[]) hx rx
  have h2:=part_run hrec h' (post:=[]) hy ry
  rw[List.append_nil] at h1 h2
  simp only[fieldChk,Bool.and_eq_true,bne_iff_ne] at h'
  have h3:=heq _ _ h'.1.2 x y cs ds w F rx ry
  simp only[Op.eqFields]
  rw[if_pos h'.1.1.1]
  simp only[Sem.run_bind,h1,h2,h3,Result.andThen_ok]
  cases @decide _ (ty.decEq x y) <;> simp[Sem.run_pure]
 | f::g::fs,off,.pair a b,h,x,y,px,py,cs,ds,w,F,hx,hy,rx,ry=>by
  simp only[chainChk,Bool.and_eq_true] at h
  obtain ⟨c1,c2,rfl,r1,r2⟩:=rx
  obtain ⟨d1,d2,rfl,q1,q2⟩:=ry
  have h1:=part_run hrec h.1 (post:=c2) hx r1
  have h2:=part_run hrec h.1 (post:=d2) hy q1
  have h':=h.1
  simp only[fieldChk,Bool.and_eq_true,bne_iff_ne] at h'
  have h3:=heq _ _ h'.1.2 x.1 y.1 c1 d1 w F r1 q1
  have ih:=chain_run hrec heq (g::fs) (off+a.size) b h.2 x.2 y.2 (px++c1) (py++d1) c2 d2 w F (by rw[List.length_append,hx,Rep.length _ r1]) (by rw[List.length_append,hy,Rep.length _ q1]) r2 q2
  rw[List.append_assoc] at h1 h2 ih
  rw[List.append_assoc] at ih
  simp only[Op.eqFields]
  rw[if_pos h'.1.1.1]
  simp only[Sem.run_bind,h1,h2,h3,Result.andThen_ok]
  have e:@decide (x=y) (Ty.decEq (.pair a b) x y)=(@decide _ (a.decEq x.1 y.1)&&@decide _ (b.decEq x.2 y.2)):=by
   cases h5:@decide _ (a.decEq x.1 y.1) with
   | true=>
    cases h6:@decide _ (b.decEq x.2 y.2) with
    | true=>
     exact @decide_eq_true _ (Ty.decEq (.pair a b) x y) (Prod.ext (@of_decide_eq_true _ (a.decEq x.1 y.1) h5) (@of_decide_eq_true _ (b.decEq x.2 y.2) h6))
    | false=>
     exact @decide_eq_false _ (Ty.decEq (.pair a b) x y) (fun h=>@of_decide_eq_false _ (b.decEq x.2 y.2) h6 (by rw[h]))
   | false=>exact @decide_eq_false _ (Ty.decEq (.pair a b) x y) (fun h=>@of_decide_eq_false _ (a.decEq x.1 y.1) h5 (by rw[h]))
  rw[e]
  cases @decide _ (a.decEq x.1 y.1) with
  | false=>simp[Sem.run_pure]
  | true=>
   simp only[Bool.not_true,Bool.false_eq_true,if_false,Bool.true_and]
   exact ih
 | [],_,_,h,_,_,_,_,_,_,_,_,_,_,_,_=>by simp[chainChk] at h
 | f::g::fs,_,.int _,h,_,_,_,_,_,_,_,_,_,_,_,_=>by simp[chainChk] at h
 | f::g::fs,_,.bool,h,_,_,_,_,_,_,_,_,_,_,_,_=>by simp[chainChk] at h
 | f::g::fs,_,.str,h,_,_,_,_,_,_,_,_,_,_,_,_=>by simp[chainChk] at h
 | f::g::fs,_,.slice _,h,_,_,_,_,_,_,_,_,_,_,_,_=>by simp[chainChk] at h
 | f::g::fs,_,.err,h,_,_,_,_,_,_,_,_,_,_,_,_=>by simp[chainChk] at h
theorem eqChk_under:∀(d:Nat) (t:TypeId) (ty:Ty),eqChk P d t ty=true→match ty with
  | .int _=>∃k,P.underlying t=some (.int k)
  | .bool=>P.underlying t=some .bool
  | .str=>P.underlying t=some .string
  | .pair _ _=>∃fs,P.underlying t=some (.struct fs)
  | .slice _=>False
  | .err=>False
 | 0,_,_,h=>by cases h
 | d+1,t,.int k,h=>by
  simp only[eqChk] at h
  split at h
  ·rename_i k' hk;exact ⟨k',hk⟩
  ·cases h
 | d+1,t,.bool,h=>by
  simp only[eqChk] at h
  split at h
  ·assumption
  ·cases h
 | d+1,t,.str,h=>by
  simp only[eqChk] at h
  split at h
  ·assumption
  ·cases h
 | d+1,t,.pair a b,h=>by
  simp only[eqChk] at h
  split at h
  ·rename_i fs hk;exact ⟨fs,hk⟩
  ·cases h
 | d+1,t,.slice e,h=>by cases h
 | d+1,t,.err,h=>by cases h
theorem bytes_eq (x y:ByteArray):(x.toList == y.toList)=@decide _ (Ty.decEq .str x y):=by
 have h:(x.toList == y.toList)=true↔x=y:=by
  rw[beq_iff_eq]
  constructor
  ·intro h
   rw[ByteArray.toList_eq,ByteArray.toList_eq] at h
   obtain ⟨⟨x⟩⟩:=x
   obtain ⟨⟨y⟩⟩:=y
   simp only at h
   rw[h]
  ·intro h;rw[h]
 rw[Bool.eq_iff_iff,h]
 exact (@decide_eq_true_iff _ (Ty.decEq .str x y)).symm
theorem eqChk_ok:∀(d:Nat) (t:TypeId) (ty:Ty),eqChk P d t ty=true→EqIn P d t ty
 | 0,_,_,h=>by cases h
 | d+1,t,.int k,h=>by
  obtain ⟨k',hk⟩:=eqChk_under _ _ _ h
  intro x y cs ds w F rx ry
  simp only[Rep] at rx ry
  subst rx ry
  exact run_equalIn_int w d t k k' x y hk
 | d+1,t,.bool,h=>by
  have hk:=eqChk_under _ _ _ h
  intro x y cs ds w F rx ry
  simp only[Rep] at rx ry
  subst rx ry
  have:=run_equalIn_bool w d t x y hk
  refine this.trans ?_
  cases x <;> cases y <;> rfl
 | d+1,t,.str,h=>by
  have hk:=eqChk_under _ _ _ h
  intro x y cs ds w F rx ry
  simp only[Rep] at rx ry
  subst rx ry
  refine (run_equalIn_string w d t x y hk).trans ?_
  rw[bytes_eq]
 | d+1,t,.pair a b,h=>by
  have h0:=h
  simp only[eqChk] at h
  split at h
  ·rename_i fs hk
   rw[Bool.and_eq_true,Bool.not_eq_true'] at h
   intro x y cs ds w F rx ry
   have hf:P.underlying t=some (.struct (P.fieldsOf t)):=by rw[hk];simp[Program.fieldsOf,hk]
   have hfs:P.fieldsOf t=fs:=by rw[hk] at hf;cases hf;rfl
   show (Op.equalIn (d+1) t (.agg cs.toArray) (.agg ds.toArray)).run P w=_
   rw[run_equalIn_agg w d t _ _ hf h.1,hfs]
   exact chain_run (eqChk_under d) (eqChk_ok d) fs.toList 0 (.pair a b) h.2 x y [] [] cs ds w F rfl rfl rx ry
  ·cases h
 | d+1,t,.slice e,h=>by cases h
 | d+1,t,.err,h=>by cases h
theorem eqOk_str {t:TypeId}:EqOk P t .str:=by
 intro neg x y cs ds w F ox oy hx hy
 simp only[Rep] at hx hy
 subst hx hy
 have e1:packV .str [.string x]=.string x:=rfl
 have e2:packV .str [.string y]=.string y:=rfl
 have e3:=bytes_eq x y
 rw[e1,e2]
 cases neg
 ·simp only[Bool.false_eq_true,if_false,eqGuard_at_string,Sem.run_bind,Sem.run_pure,Result.andThen_ok,cond_false,binOp,Op.stringOp,e3]
 ·simp only[if_true,eqGuard_at_string,Sem.run_bind,Sem.run_pure,Result.andThen_ok,cond_true,binOp,Op.stringOp,e3]
theorem eqOk_struct {t:TypeId} {ty:Ty} (hp:ty.isPair=true) (h:eqChk P 10000 t ty=true) (hm:P.eqGuardType P.depth t=false):EqOk P t ty:=by
 cases ty with
 | pair a b=>
  intro neg x y cs ds w F ox oy hx hy
  have h1:=eqChk_ok 10000 t _ h x y cs ds w F hx hy
  have e1:packV (.pair a b) cs=.agg cs.toArray:=rfl
  have e2:packV (.pair a b) ds=.agg ds.toArray:=rfl
  rw[e1,e2] at h1 ⊢
  cases neg
  ·simp only[Bool.false_eq_true,if_false,Sem.run_bind,run_eqGuard_agg w _ t _ _ _ _ hm,Result.andThen_ok,run_eql_struct,h1,cond_false]
  ·simp only[if_true,Sem.run_bind,run_eqGuard_agg w _ t _ _ _ _ hm,Result.andThen_ok,run_neq_struct,h1,cond_true]
 | _=>cases hp
end Go.Refl
end
section
namespace Go.Refl
open Go Go.RowKit
variable {P:Program} {w:World}
inductive Wk:M→M→Prop
 | refl (m:M):Wk m m
 | own (e:Ty) (E:TypeId):Wk (.own e E) (.v (.slice e))
 | pr {a a' b b':M} (h:Wk a a') (k:Wk b b'):Wk (.pr a b) (.pr a' b')
 | vv (s t:Ty):Wk (.pr (.v s) (.v t)) (.v (.pair s t))
 | trans {a b c:M} (h:Wk a b) (k:Wk b c):Wk a c
theorem Wk.den {m m':M} (h:Wk m m'):m.den=m'.den:=by
 induction h with
 | refl m=>rfl
 | own e E=>rfl
 | pr _ _ h k=>simp only[M.den,h,k]
 | vv s t=>rfl
 | trans _ _ h k=>exact h.trans k
theorem prod_heq {A B A' B':Type} (hA:A=A') (hB:B=B') {x:A × B} {x':A' × B'} (h:HEq x x'):HEq x.1 x'.1∧HEq x.2 x'.2:=by
 subst hA hB
 cases h
 exact ⟨.rfl,.rfl⟩
theorem Wk.rep {m m':M} (h:Wk m m'):∀{F:Nat→Prop} {x:m.den} {x':m'.den} {cs:List Value} {bl:List Nat},HEq x x'→bl.Nodup→MRep w F m x cs bl→∃bl',bl'.Sublist bl∧MRep w (fun b=>F b∨(b ∈ bl∧b ∉ bl')) m' x' cs bl'∧packM m' cs=packM m cs:=by
 induction h with
 | refl m=>
  intro F x x' cs bl hx _ hr
  cases hx
  exact ⟨bl,List.Sublist.refl _,hr.mono (fun _ h=>.inl h) (fun _ _=>rfl) _ (fun _ _=>rfl),rfl⟩
 | own e E=>
  intro F x x' cs bl hx _ hr
  cases hx
  obtain ⟨v,flat,rfl,h1,h2,rfl⟩:=hr
  obtain ⟨A,c,g1,g2,g3,g4,g5⟩:=owns_cells h1
  subst g1
  refine ⟨[],List.nil_sublist _,⟨rfl,A,c,flat,rfl,g2,fun h=>(g4 h).2,h2.mono fun _ _ h=>Rep.mono (fun _ h=>.inl h) (fun _ _=>rfl) _ h,fun hn=>?_⟩,rfl⟩
  cases A with
  | none=>
   have h0:=(g4 rfl).1
   rw[h0] at g3
   exact absurd (List.eq_nil_of_length_eq_zero (by simpa using g3)) hn
  | some p=>exact ⟨p,rfl,.inr ⟨by simp[lblk],by simp⟩,(g5 p rfl).2.2⟩
 | pr h k ih ik=>
  intro F x x' cs bl hx hn hr
  obtain ⟨q1,q2⟩:=prod_heq h.den k.den hx
  obtain ⟨c1,c2,b1,b2,rfl,rfl,h1,h2⟩:=hr
  rw[List.nodup_append] at hn
  obtain ⟨n1,n2,n3⟩:=hn
  obtain ⟨b1',s1,r1,_⟩:=ih q1 n1 h1
  obtain ⟨b2',s2,r2,_⟩:=ik q2 n2 h2
  refine ⟨b1'++b2',s1.append s2,⟨c1,c2,b1',b2',rfl,rfl,r1.mono ?_ (fun _ _=>rfl) _ (fun _ _=>rfl),r2.mono ?_ (fun _ _=>rfl) _ (fun _ _=>rfl)⟩,rfl⟩
  ·rintro b (hb | ⟨hb,hb'⟩)
   ·exact .inl hb
   ·refine .inr ⟨by simp[hb],fun hm=>?_⟩
    rcases List.mem_append.1 hm with hm | hm
    ·exact hb' hm
    ·exact n3 b hb b (s2.subset hm) rfl
  ·rintro b (hb | ⟨hb,hb'⟩)
   ·exact .inl hb
   ·refine .inr ⟨by simp[hb],fun hm=>?_⟩
    rcases List.mem_append.1 hm with hm | hm
    ·exact n3 b (s1.subset hm) b hb rfl
    ·exact hb' hm
 | vv s t=>
  intro F x x' cs bl hx _ hr
  cases hx
  obtain ⟨c1,c2,b1,b2,rfl,rfl,⟨rfl,h1⟩,⟨rfl,h2⟩⟩:=hr
  refine ⟨[],List.Sublist.refl _,⟨rfl,?_⟩,rfl⟩
  exact Rep.mono (F:=F) (fun _ h=>.inl h) (fun _ _=>rfl) (.pair s t) ⟨c1,c2,rfl,h1,h2⟩
 | trans h k ih ik=>
  intro F x x' cs bl hx hn hr
  obtain ⟨y,hy⟩:∃y,HEq x y:=⟨cast h.den x,(cast_heq _ _).symm⟩
  obtain ⟨b1,s1,r1,p1⟩:=ih hy hn hr
  obtain ⟨b2,s2,r2,p2⟩:=ik (hy.symm.trans hx) (s1.nodup hn) r1
  refine ⟨b2,s2.trans s1,r2.mono ?_ (fun _ _=>rfl) _ (fun _ _=>rfl),p2.trans p1⟩
  rintro b ((hb | ⟨hb,hb'⟩) | ⟨hb,hb'⟩)
  ·exact .inl hb
  ·exact .inr ⟨hb,fun h=>hb' (s2.subset h)⟩
  ·exact .inr ⟨s1.subset hb,hb'⟩
inductive Wks:List M→List M→Prop
 | nil:Wks [] []
 | cons {m m':M} {ms ms':List M} (h:Wk m m') (k:Wks ms ms'):Wks (m::ms) (m'::ms')
theorem Wks.den {ms ms':List M} (h:Wks ms ms'):dens ms=dens ms':=by
 induction h with
 | nil=>rfl
 | cons h k ih=>
  cases k with
  | nil=>exact h.den
  | cons h' k'=>
   show (_ × _)=(_ × _)
   rw[h.den,ih]
theorem Wks.dens {ms ms':List M} (h:Wks ms ms') (os:List M):Refl.dens (ms++os)=Refl.dens (ms'++os):=by
 induction h with
 | nil=>rfl
 | cons h k ih=>
  cases k with
  | nil=>
   cases os with
   | nil=>exact h.den
   | cons o os=>show (_ × _)=(_ × _);rw[h.den]
  | cons h' k'=>
   show (_ × _)=(_ × _)
   rw[h.den]
   exact congrArg (_ × ·) ih
theorem MsRep.mono' {F F':Nat→Prop} (hF:∀b,F b→F' b):∀{ms:List M} {x:Refl.dens ms} {vs:List Value} {bl:List Nat},MsRep w F ms x vs bl→MsRep w F' ms x vs bl
 | [],_,_,_,h=>h
 | [m],_,_,_,⟨cs,h1,h2⟩=>⟨cs,h1,h2.mono hF (fun _ _=>rfl) _ (fun _ _=>rfl)⟩
 | m::n::ms,_,_,_,⟨cs,b1,vs',b2,h1,h2,h3,h4⟩=>⟨cs,b1,vs',b2,h1,h2,h3.mono hF (fun _ _=>rfl) _ (fun _ _=>rfl),MsRep.mono' hF h4⟩
theorem Wks.rep {ms ms':List M} (h:Wks ms ms'):∀{F:Nat→Prop} {x:Refl.dens ms} {x':Refl.dens ms'} {vs:List Value} {bl:List Nat},HEq x x'→bl.Nodup→MsRep w F ms x vs bl→∃bl',bl'.Sublist bl∧MsRep w (fun b=>F b∨(b ∈ bl∧b ∉ bl')) ms' x' vs bl':=by
 induction h with
 | nil=>
  intro F x x' vs bl _ _ hr
  obtain ⟨rfl,rfl⟩:=hr
  exact ⟨[],List.Sublist.refl _,rfl,rfl⟩
 | cons h k ih=>
  intro F x x' vs bl hx hn hr
  cases k with
  | nil=>
   obtain ⟨cs,rfl,h1⟩:=hr
   obtain ⟨bl',s1,r1,p1⟩:=h.rep hx hn h1
   exact ⟨bl',s1,cs,by rw[p1],r1⟩
  | cons h' k'=>
   obtain ⟨cs,b1,vs',b2,rfl,rfl,h1,h2⟩:=hr
   rw[List.nodup_append] at hn
   obtain ⟨n1,n2,n3⟩:=hn
   obtain ⟨q1,q2⟩:=prod_heq h.den (Wks.cons h' k').den hx
   obtain ⟨b1',s1,r1,p1⟩:=h.rep q1 n1 h1
   obtain ⟨b2',s2,r2⟩:=ih q2 n2 h2
   refine ⟨b1'++b2',s1.append s2,cs,b1',vs',b2',by rw[p1],rfl,r1.mono ?_ (fun _ _=>rfl) _ (fun _ _=>rfl),MsRep.mono' ?_ r2⟩
   ·rintro b (hb | ⟨hb,hb'⟩)
    ·exact .inl hb
    ·refine .inr ⟨by simp[hb],fun hm=>?_⟩
     rcases List.mem_append.1 hm with hm | hm
     ·exact hb' hm
     ·exact n3 b hb b (s2.subset hm) rfl
   ·rintro b (hb | ⟨hb,hb'⟩)
    ·exact .inl hb
    ·refine .inr ⟨by simp[hb],fun hm=>?_⟩
     rcases List.mem_append.1 hm with hm | hm
     ·exact n3 b (s1.subset hm) b hb rfl
     ·exact hb' hm
theorem pair_heq {A B A' B':Type} (hA:A=A') (hB:B=B') {x:A} {x':A'} {y:B} {y':B'} (h:HEq x x') (k:HEq y y'):HEq (x,y) (x',y'):=by
 subst hA hB
 cases h
 cases k
 rfl
theorem Wks.split {ms ms':List M} (h:Wks ms ms'):∀{os:List M} {y:Refl.dens (ms++os)} {y':Refl.dens (ms'++os)},HEq y y'→HEq (splitD ms os y).1 (splitD ms' os y').1∧(splitD ms os y).2=(splitD ms' os y').2:=by
 induction h with
 | nil=>intro os y y' hy;cases hy;exact ⟨.rfl,rfl⟩
 | cons h k ih=>
  intro os y y' hy
  cases k with
  | nil=>
   cases os with
   | nil=>exact ⟨hy,rfl⟩
   | cons o os=>
    have:=prod_heq (A:=_) h.den rfl hy
    exact ⟨this.1,eq_of_heq this.2⟩
  | cons h' k'=>
   have hd:=(Wks.cons h' k').dens os
   have q:=prod_heq h.den hd hy
   obtain ⟨i1,i2⟩:=ih (os:=os) q.2
   refine ⟨?_,i2⟩
   exact pair_heq h.den (Wks.cons h' k').den q.1 i1
theorem run_heq {X A B:Type} (h:A=B) {f:X→Option A} {g:X→Option B} (hfg:HEq f g) {x:X} {y':B} (hy:g x=some y'):∃y,f x=some y∧HEq y y':=by
 subst h
 cases hfg
 exact ⟨y',hy,.rfl⟩
theorem OutsRep.mono' {w:World} {F F':Nat→Prop} (hF:∀b,F b→F' b):∀{os:List (M × Option TypeId)} {x:dens (os.map (·.1))} {vs:List Value} {bl:List Nat},OutsRep w F os x vs bl→OutsRep w F' os x vs bl
 | [],_,_,_,h=>h
 | [o],_,_,_,⟨v,h1,h2⟩=>⟨v,h1,one hF h2⟩
 | o::o'::os,_,_,_,⟨v,b1,vs',b2,h1,h2,h3,h4⟩=>⟨v,b1,vs',b2,h1,h2,one hF h3,OutsRep.mono' hF h4⟩
where
 one {F F':Nat→Prop} (hF:∀b,F b→F' b) {o:M × Option TypeId} {x:o.1.den} {v:Value} {bl:List Nat} (h:OutRep w F o x v bl):OutRep w F' o x v bl:=by
  unfold OutRep at h ⊢
  split at h
  ·exact h.mono hF (fun _ _=>rfl) _ (fun _ _=>rfl)
  ·obtain ⟨g,cur,bl',h1,h2,h3,h4⟩:=h
   exact ⟨g,cur,bl',h1,h2,h3.mono hF (fun _ _=>rfl) _ (fun _ _=>rfl),h4⟩
theorem FC.weak {gl:List (Nat × GItem)} {f:Nat} {ps:List Pm} {res res':List M} {run:pdens ps→Option (dens (res++outs ps))} {run':pdens ps→Option (dens (res'++outs ps))} (hw:Wks res res') (hr:HEq run run') (h:FC P gl f ⟨ps,res,run⟩):FC P gl f ⟨ps,res',run'⟩:=by
 intro x y' hy' w F vs mv ln hgl hp hn hb hF
 obtain ⟨y,hy,hyy⟩:=run_heq (hw.dens (outs ps)) hr hy'
 refine (h x y hy w F vs mv ln hgl hp hn hb hF).mono fun e w' h=>?_
 obtain ⟨rs,F',b1,b2,h1,h2,h3,h4,h5,h6,h7,h8⟩:=h
 obtain ⟨s1,s2⟩:=hw.split (os:=outs ps) hyy
 have h4':=List.nodup_append.1 h4
 obtain ⟨b1',t1,t2⟩:=hw.rep s1 h4'.1 h2
 refine ⟨rs,fun b=>F' b∨(b ∈ b1∧b ∉ b1'),b1',b2,h1,t2,?_,?_,?_,fun b hb=>.inl (h6 b hb),?_,h8⟩
 ·have:=OutsRep.mono' (F':=fun b=>F' b∨(b ∈ b1∧b ∉ b1')) (fun _ h=>.inl h) h3
  have e:(splitD res (outs ps) y).2=(splitD res' (outs ps) y').2:=s2
  show OutsRep w' _ (outKinds ps) (splitD res' (outs ps) y').2 _ b2
  rw[←e]
  exact this
 ·exact List.nodup_append.2 ⟨t1.nodup h4'.1,h4'.2.1,fun a ha b hb=>h4'.2.2 a (t1.subset ha) b hb⟩
 ·intro b hb
  have hbm:b ∈ b1++b2:=(t1.append (List.Sublist.refl b2)).subset hb
  refine ⟨?_,(h5 b hbm).2⟩
  rintro (h | ⟨h,h'⟩)
  ·exact (h5 b hbm).1 h
  ·rcases List.mem_append.1 hb with hb | hb
   ·exact h' hb
   ·exact h4'.2.2 b h b hb rfl
 ·rintro b (h | ⟨h,_⟩)
  ·exact h7 b h
  ·exact ⟨(h5 b (by simp[h])).2.1,.inr (h5 b (by simp[h])).2.2⟩
end Go.Refl
end
section
set_option linter.unusedVariables false
namespace Go.Proofs
open Go Go.Shelf Go.RowKit Go.Refl
variable {P:Program} {ρ:Ren}
def BMo (b:Nat) (u:Value) (k:Nat):Prop:=k=b∨lblk u=some k
theorem append_where_str {w:World} {t q ty e:TypeId} {i:TypeInfo} (hu:P.underlying t=some (.slice e)) (hq:P.underlying q=some .string) (hi:P.info? e=some i) (hz:i.zero=some (.int .u8 0)) (hsize:i.size=1) (hb:i.bytes=1) {v:Value} {n:Nat} {xs:List Value}
  (hown:w.ownsRow 0 e 1 v n xs) {s:ByteArray} (h63:n+s.size≤1099511627776) :
  ∃v' w',(Builtin.append_ #[t,q] ty #[v,.string s]).run P w=.ok v' w'∧w'.ownsRow 0 e 1 v' (n+s.size) (xs++Lib.strCells s)∧w.grownBy w' v.ownBlock∧∀g,lblk v'=some g→lblk v=some g∨w.heap.size≤g:=by
 obtain ⟨v',w',r1,r2,r3,r4⟩:=Lib.run_append_own_string (P:=P) w 0 t q ty e i hu hq hi hz hsize hb v n xs hown s (by simp only[maxLen];omega) (by omega) (Nat.zero_le _)
 refine ⟨v',w',r1,r2,r3,fun g hg=>?_⟩
 rcases hown.2 with ⟨rfl,rfl⟩ | ⟨g',cap,cur,rfl,_,hg',hnc,_,hcs,_⟩
 ·by_cases hm:s.size=0
  ·rw[r4.2 ⟨rfl,hm⟩] at hg;cases hg
  ·have:=run_append_nil_string (P:=P) w t q ty e i (.int .u8 0) hu hq hi hz s (by omega) (by omega) (by rw[hb];omega)
   rw[this] at r1
   cases r1
   cases hg
   exact .inr (Nat.le_refl _)
 ·by_cases hroom:n+s.size≤cap
  ·have:=Lib.run_append_room_string (P:=P) w t q ty e i hu hq hi hsize g' n cap cur hg' s hroom (by omega)
   rw[this] at r1
   cases r1
   exact .inl hg
  ·have:=Lib.run_append_grow_string (P:=P) w t q ty e i (.int .u8 0) hu hq hi hz ⟨g',0,none⟩ n cap xs (by rw[hsize];exact hown.1) (hown.cells (g:=g') rfl) s (by omega) (by omega) (by rw[hb];exact growslice_fits (by omega) (by omega))
   rw[this] at r1
   cases r1
   cases hg
   exact .inr (Nat.le_refl _)
theorem wpList_append_where_str {ops:Array Oper} {rest:List Oper} {o:Oper} {a:Act} {w:World} {Q:Exit→Act→World→Prop} (hgd:o.guard=none) (sl x:Operand) (t u:TypeId)
  (ho:o.op=.call { callee:=.builtin .append,args:=#[sl,x],argTypes:=#[t,u] }) (e:TypeId) (i:TypeInfo) (ht:P.underlying t=some (.slice e)) (hu:P.underlying u=some .string) (hi:P.info? e=some i) (hz:i.zero=some (.int .u8 0)) (hsize:i.size=1) (hby:i.bytes=1)
  (v:Value) (n:Nat) (xs:List Value) (hs:a.eval sl=v) (hown:w.ownsRow 0 e 1 v n xs) (s:ByteArray) (hx:a.eval x=.string s) (h63:n+s.size≤1099511627776)
  (h:∀v' w',w'.ownsRow 0 e 1 v' (n+s.size) (xs++Lib.strCells s)→w.grownBy w' v.ownBlock→(∀g,lblk v'=some g→lblk v=some g∨w.heap.size≤g)→wpList P ops Q rest (a.put o.dst v') w'):wpList P ops Q (o::rest) a w:=by
 refine wpList_plain hgd fun K hK=>?_
 obtain ⟨v',w',hr,h2,h3,h4⟩:=append_where_str (P:=P) (w:=w) (ty:=o.type) ht hu hi hz hsize hby hown h63
 unfold Oper.wp execOp
 simp only[ho,resolve,invoke,builtin,Sem.run_bind,Sem.run_pure,Result.andThen_ok,List.map_toArray,List.map_cons,List.map_nil,hs,hx,hr]
 exact hK _ _ (h v' w' h2 h3 h4)
def CcOk (P:Program) (f:Nat) (T:TypeId):Prop:=∀(b:Nat) (p v:Value) (w:World),w.heap[b]?=some (.cells #[p,v] T (0,0))→(p=.pointer none∨p=.pointer (some ⟨b,0,none⟩)) →
  Calls P f #[.pointer (some ⟨b,0,none⟩)] w fun e w'=>e=.returned (.tuple #[])∧w'.heap[b]?=some (.cells #[.pointer (some ⟨b,0,none⟩),v] T (0,0))∧Evol w (·=b) w'∧w'.heap.size=w.heap.size
theorem evol_set (w:World) (b j:Nat) (u:Value):Evol w (·=b) (w.setCell ⟨b,j,none⟩ u):=
 ⟨rfl,rfl,rfl,by simp[World.setCell],fun k _ hk=>Below.heap_setCell _ _ _ _ hk⟩
structure WsL (P:Program) (ρ:Ren):Prop where
 mixed:P.follows .mixedOrders=true
 f166:P.funcs[ρ.f 166]?=some (Body.n166 ρ)
 e240:∀args w,(callFunc (ρ.f 240) args).run P w=.ok (.enter (ρ.f 240) args) w
 cc:CcOk P (ρ.f 240) (ρ.t 72)
 t0:P.underlying (ρ.t 0)=some (TypeDesc.tuple #[])
 a0:∀w,(isAgg (ρ.t 0)).run P w=.ok false w
 z0:∀w,(Go.sizeOf (ρ.t 0)).run P w=.ok 1 w
 v0:∀w,(zeroValue (ρ.t 0)).run P w=.ok (Value.tuple #[]) w
 t3:P.underlying (ρ.t 3)=some (TypeDesc.int IntKind.i64)
 a3:∀w,(isAgg (ρ.t 3)).run P w=.ok false w
 z3:∀w,(Go.sizeOf (ρ.t 3)).run P w=.ok 1 w
 v3:∀w,(zeroValue (ρ.t 3)).run P w=.ok (Value.int IntKind.i64 0) w
 t9:P.underlying (ρ.t 9)=some (TypeDesc.string)
 a9:∀w,(isAgg (ρ.t 9)).run P w=.ok false w
 z9:∀w,(Go.sizeOf (ρ.t 9)).run P w=.ok 1 w
 v9:∀w,(zeroValue (ρ.t 9)).run P w=.ok (Value.string { data:=#[] }) w
 t37:P.underlying (ρ.t 37)=some (TypeDesc.slice (ρ.t 5))
 a37:∀w,(isAgg (ρ.t 37)).run P w=.ok false w
 z37:∀w,(Go.sizeOf (ρ.t 37)).run P w=.ok 1 w
 v37:∀w,(zeroValue (ρ.t 37)).run P w=.ok (Value.slice none 0 0) w
 t70:P.underlying (ρ.t 70)=some (TypeDesc.pointer (ρ.t 72))
 a70:∀w,(isAgg (ρ.t 70)).run P w=.ok false w
 z70:∀w,(Go.sizeOf (ρ.t 70)).run P w=.ok 1 w
 v70:∀w,(zeroValue (ρ.t 70)).run P w=.ok (Value.pointer none) w
 t72:P.underlying (ρ.t 72)=some (TypeDesc.struct #[{ name:="addr",type:=ρ.t 70,offset:=0,embedded:=false,tag:="",pkgPath:="strings",byteOffset:=0 },{ name:="buf",type:=ρ.t 37,offset:=1,embedded:=false,tag:="",pkgPath:="strings",byteOffset:=8 }])
 a72:∀w,(isAgg (ρ.t 72)).run P w=.ok true w
 z72:∀w,(Go.sizeOf (ρ.t 72)).run P w=.ok 2 w
 v72:∀w,(zeroValue (ρ.t 72)).run P w=.ok (Value.agg #[Value.pointer none,Value.slice none 0 0]) w
theorem owns_of_block {w w':World} {e:TypeId} {v:Value} {n:Nat} {xs:List Value} (h:w.ownsRow 0 e 1 v n xs) (hb:∀b,lblk v=some b→w'.heap[b]?=w.heap[b]?):w'.ownsRow 0 e 1 v n xs:=
 owns_block h fun b hb'=>hb b (by simpa using hb')
set_option maxHeartbeats 2000000 in
set_option maxRecDepth 100000 in
theorem ws_x (L:WsL P ρ) (X:Builder.Extra P ρ) (b:Nat) (u:Value) (x:List Int) (s:ByteArray) (w:World) (h:BldRep w (ρ.t 72) (ρ.t 5) b u x) (hne:lblk u≠some b) (hlen:x.length+s.size≤1099511627776) :
  Calls P (ρ.f 166) #[.pointer (some ⟨b,0,none⟩),.string s] w fun e w'=>e=.returned (.tuple #[.int .i64 s.size,.nilIface])∧∃u',BldRep w' (ρ.t 72) (ρ.t 5) b u' (x++s.data.toList.map fun c=>(c.toNat:Int))∧lblk u'≠some b ∧
   (∀g,lblk u'=some g→g<w'.heap.size∧(lblk u=some g∨w.heap.size≤g))∧Evol w (BMo b u) w':=by
 obtain ⟨p,hbk0,hp,hown0⟩:=h
 obtain ⟨i0,hi,hz0,hz1,hz2⟩:=info_parts X.infoByte
 have mixed:=L.mixed
 have t72:=L.t72;have a72:=L.a72;have z72:=L.z72;have v72:=L.v72;have u72:=run_underlying L.t72
 have t70:=L.t70;have a70:=L.a70;have z70:=L.z70;have v70:=L.v70;have u70:=run_underlying L.t70
 have t37:=L.t37;have a37:=L.a37;have z37:=L.z37;have v37:=L.v37;have u37:=run_underlying L.t37
 have t3:=L.t3;have a3:=L.a3;have z3:=L.z3;have v3:=L.v3;have u3:=run_underlying L.t3
 have t9:=L.t9;have a9:=L.a9;have z9:=L.z9;have v9:=L.v9;have u9:=run_underlying L.t9
 have t5:=X.t5;have a5:=X.a5;have z5:=X.z5;have v5:=X.v5;have u5:=run_underlying X.t5
 have e240:=L.e240
 have t0:=L.t0;have a0:=L.a0;have z0:=L.z0;have v0:=L.v0;have u0:=run_underlying L.t0
 go_enter L.f166,Body.n166_ntmps ρ
 go_wp2_with (go_at_fn (ρ.f 240);refine (L.cc b p u _ hbk0 hp).mono ?_)
 rintro e w1 ⟨rfl,hbk,hev,hsz⟩
 have hown:w1.ownsRow 0 (ρ.t 5) 1 u x.length (x.map (Value.int .u8)):=owns_of_block hown0 fun k hk=>by
  refine hev.old k ?_ (fun e=>hne (by rw[hk,e]))
  obtain ⟨A,c,h1,_,_,_,h5⟩:=owns_cells hown0
  rcases hown0.2 with ⟨h,_⟩ | ⟨g,cap,cur,hv,_,hg,_⟩
  ·rw[h] at hk;cases hk
  ·rw[hv] at hk;cases hk
   rcases Nat.lt_or_ge g w.heap.size with h' | h'
   ·exact h'
   ·simp[Array.getElem?_eq_none h'] at hg
 have c0:w1.cell? ⟨b,0,none⟩=some (.pointer (some ⟨b,0,none⟩)):=by rw[Lib.cell_of_heap hbk];rfl
 have c1:w1.cell? ⟨b,1,none⟩=some u:=by rw[Lib.cell_of_heap hbk];rfl
 go_wp2_with (at_builtin;refine wpList_append_where_str rfl _ _ (ρ.t 37) (ρ.t 9) rfl (ρ.t 5) i0 L.t37 L.t9 hi hz0 hz1 hz2 _ _ _ rfl hown s rfl ?c3 ?_)
 case c3=>omega
 intro v' w2 hown' hgrow hwh
 have hlt:b<w1.heap.size:=by
  rcases Nat.lt_or_ge b w1.heap.size with h' | h'
  ·exact h'
  ·simp[Array.getElem?_eq_none h'] at hbk
 have hub:u.ownBlock=lblk u:=by obtain ⟨A,c,h1,_⟩:=owns_cells hown;exact lblk_own h1
 have hb2:w2.heap[b]?=some (.cells #[.pointer (some ⟨b,0,none⟩),u] (ρ.t 72) (0,0)):=by
  rw[hgrow.block b hlt (fun e=>hne (by rw[←hub,e]))]
  exact hbk
 have d0:w2.cell? ⟨b,0,none⟩=some (.pointer (some ⟨b,0,none⟩)):=by rw[Lib.cell_of_heap hb2];rfl
 have d1:w2.cell? ⟨b,1,none⟩=some u:=by rw[Lib.cell_of_heap hb2];rfl
 have f1:w2.frozen? ⟨b,1,none⟩=false:=Lib.frozen_of_heap hb2 1
 obtain ⟨ao,n',cap,rfl⟩:∃ao n' cap,v'=.slice ao n' cap:=by
  rcases hown'.2 with ⟨hv,_⟩ | ⟨g,cap,cur,hv,_⟩
  ·exact ⟨_,_,_,hv⟩
  ·exact ⟨_,_,_,hv⟩
 have hne':lblk (.slice ao n' cap)≠some b:=by
  intro e
  rcases hwh b e with h | h
  ·exact hne h
  ·omega
 have hlive:∀g,lblk (.slice ao n' cap)=some g→g<w2.heap.size:=by
  intro g hg
  rcases hown'.2 with ⟨h,_⟩ | ⟨g',cap',cur,hv,_,hg',_⟩
  ·rw[h] at hg;cases hg
  ·rw[hv] at hg;cases hg
   rcases Nat.lt_or_ge g' w2.heap.size with h' | h'
   ·exact h'
   ·rw[Array.getElem?_eq_none h'] at hg';cases hg'
 go_wp2
 go_ret2
 refine ⟨rfl,.slice ao n' cap,⟨.pointer (some ⟨b,0,none⟩),?a1,.inr rfl,?a2⟩,hne',?a3,?a4⟩
 case a1=>simp[World.setCell,Array.getElem?_modify,hb2]
 case a2=>
  have:=owns_of_block (w':=w2.setCell ⟨b,1,none⟩ (.slice ao n' cap)) hown' fun k hk=>Below.heap_setCell _ _ _ _ (fun e=>hne' (by rw[hk,e]))
  simpa [Lib.strCells,List.map_map,Function.comp_def] using this
 case a3=>
  intro g hg
  refine ⟨by simpa [World.setCell] using hlive g hg,?_⟩
  rcases hwh g hg with h | h
  ·exact .inl h
  ·exact .inr (by omega)
 case a4=>
  refine ⟨hgrow.os.trans hev.os,hgrow.tape.trans hev.tape,hgrow.output.trans hev.output,?_,fun k hk hm=>?_⟩
  ·have:=hgrow.size;simp only[World.setCell,Array.size_modify];omega
  ·have hk1:k≠b:=fun e=>hm (.inl e)
   rw[Below.heap_setCell _ _ _ _ hk1,hgrow.block k (by omega) (fun e=>hm (.inr (by rw[←hub,e]))),hev.old k hk hk1]
theorem evol_drew (w:World) (Mo:Nat→Prop):Evol w Mo w.drew:=⟨rfl,rfl,rfl,Nat.le_refl _,fun _ _ _=>rfl⟩
theorem evol_freeze0 (w:World) (Mo:Nat→Prop) (p:Addr) (n:Nat) (h:Mo p.block):Evol w Mo (w.freeze p n):=by
 unfold World.freeze
 split
 ·exact ⟨rfl,rfl,rfl,Nat.le_refl _,fun _ _ _=>rfl⟩
 ·exact ⟨rfl,rfl,rfl,by rw[Array.size_modify];exact Nat.le_refl _,fun k hk hm=>by
   have hne:p.block≠k:=by intro e;subst e;exact hm h
   simp only[Array.getElem?_modify]
   rw[if_neg hne]⟩
theorem evol_freeze (w:World) (Mo:Nat→Prop) (p:Addr) (n:Nat) (h:Mo p.block):Evol w Mo (w.drew.freeze p n):=
 have e:=evol_freeze0 w.drew Mo p n h
 ⟨e.os,e.tape,e.output,e.size,e.old⟩
theorem evol_alloc (w:World) (Mo:Nat→Prop) (o:Obj):Evol w Mo (w.drew.alloc o):=
 ⟨rfl,rfl,rfl,by show w.heap.size≤(w.heap.push o).size;rw[Array.size_push];omega,fun k hk _=>Below.heap_alloc w.drew o k hk⟩
set_option maxHeartbeats 2000000 in
set_option maxRecDepth 100000 in
theorem st_x1 (L:Lays.n169 P ρ) (X:Builder.Extra P ρ) (b:Nat) (u:Value) (l:List UInt8) (w:World) (p:Value) (hbk:w.heap[b]?=some (.cells #[p,u] (ρ.t 72) (0,0))) (hown:w.ownsRow 0 (ρ.t 5) 1 u l.length (Lib.byteCells l)) (h0:l≠[]) :
  Calls P (ρ.f 169) #[.pointer (some ⟨b,0,none⟩)] w fun e w'=>e=.returned (.string ⟨l.toArray⟩)∧Evol w (BMo b u) w':=by
 have hl0:l.length≠0:=by simpa using h0
 obtain ⟨g,cap,cur,rfl,hg,hnc,hcm,hcs,htake⟩:∃g cap cur,u=.slice (some ⟨g,0,none⟩) l.length cap∧w.heap[g]?=some (.cells cur (ρ.t 5) (0,0))∧l.length≤cap∧cap≤maxLen∧cur.size=cap*1∧cur.toList.take (l.length*1)=Lib.byteCells l:=by
  rcases hown.2 with ⟨_,hz⟩ | ⟨g,cap,cur,hv,_,r⟩
  ·exact absurd hz hl0
  ·exact ⟨g,cap,cur,hv,r⟩
 have c1:w.drew.cell? ⟨b,1,none⟩=some (.slice (some ⟨g,0,none⟩) l.length cap):=by
  have:w.drew.heap[b]?=some (.cells #[p,.slice (some ⟨g,0,none⟩) l.length cap] (ρ.t 72) (0,0)):=hbk
  rw[Lib.cell_of_heap this];rfl
 have hSD:(Builtin.unsafeSliceData_ #[(ρ.t 37)] (ρ.t 127) #[.slice (some ⟨g,0,none⟩) l.length cap]).run P w.drew=.ok (.pointer (some ⟨g,0,none⟩)) w.drew:=
  Lib.run_unsafeSliceData_row _ _ _ _ _ _ (by omega)
 have hUS:(Builtin.unsafeString_ #[(ρ.t 127),(ρ.t 3)] (ρ.t 9) #[.pointer (some ⟨g,0,none⟩),.int .i64 l.length]).run P w.drew=.ok (.string ⟨l.toArray⟩) (w.drew.freeze ⟨g,0,none⟩ l.length):=by
  refine Lib.run_unsafeString_row w.drew (ρ.t 127) (ρ.t 3) (ρ.t 9) (ρ.t 5) L.t127 X.cellsByte g cur.size (by have hg':w.drew.heap[g]?=some (.cells cur (ρ.t 5) (0,0)):=hg;simp[World.shape?,hg']) l h0 (by omega) (by unfold maxLen at hcm;omega) ?_
  intro j x hx
  have:=hown.cells (g:=g) rfl j (.int .u8 x.toNat) (by simp[Lib.byteCells,hx])
  exact this
 have mixed:=L.mixed
 have t72:=L.t72;have a72:=L.a72;have z72:=L.z72;have v72:=L.v72;have u72:=run_underlying L.t72
 have t70:=L.t70;have a70:=L.a70;have z70:=L.z70;have v70:=L.v70;have u70:=run_underlying L.t70
 have t37:=L.t37;have a37:=L.a37;have z37:=L.z37;have v37:=L.v37;have u37:=run_underlying L.t37
 have t127:=L.t127;have a127:=L.a127;have z127:=L.z127;have v127:=L.v127;have u127:=run_underlying L.t127
 have t3:=L.t3;have a3:=L.a3;have z3:=L.z3;have v3:=L.v3;have u3:=run_underlying L.t3
 have t9:=L.t9;have a9:=L.a9;have z9:=L.z9;have v9:=L.v9;have u9:=run_underlying L.t9
 have t5:=X.t5;have a5:=X.a5;have z5:=X.z5;have v5:=X.v5;have u5:=run_underlying X.t5
 go_enter L.f169,Body.n169_ntmps ρ
 go_wp2
 go_region_o
 all_goals (go_wp2;go_ret;exact ⟨rfl,evol_freeze w _ ⟨g,0,none⟩ _ (.inr rfl)⟩)
set_option maxHeartbeats 2000000 in
set_option maxRecDepth 100000 in
theorem st_x0 (L:Lays.n169 P ρ) (X:Builder.Extra P ρ) (b:Nat) (Mo:Nat→Prop) (u:Value) (w:World) (p:Value) (hbk:w.heap[b]?=some (.cells #[p,u] (ρ.t 72) (0,0))) (q:Option Addr) (hSD:(Builtin.unsafeSliceData_ #[(ρ.t 37)] (ρ.t 127) #[u]).run P w.drew=.ok (.pointer q) w.drew) (hlen:∃A c,u=.slice A 0 c) :
  Calls P (ρ.f 169) #[.pointer (some ⟨b,0,none⟩)] w fun e w'=>e=.returned (.string ⟨#[]⟩)∧Evol w Mo w':=by
 obtain ⟨A,c,rfl⟩:=hlen
 have hUS:=Any.unsafeString_none L X
 have c1:w.drew.cell? ⟨b,1,none⟩=some (.slice A 0 c):=by
  have:w.drew.heap[b]?=some (.cells #[p,.slice A 0 c] (ρ.t 72) (0,0)):=hbk
  rw[Lib.cell_of_heap this];rfl
 have mixed:=L.mixed
 have t72:=L.t72;have a72:=L.a72;have z72:=L.z72;have v72:=L.v72;have u72:=run_underlying L.t72
 have t70:=L.t70;have a70:=L.a70;have z70:=L.z70;have v70:=L.v70;have u70:=run_underlying L.t70
 have t37:=L.t37;have a37:=L.a37;have z37:=L.z37;have v37:=L.v37;have u37:=run_underlying L.t37
 have t127:=L.t127;have a127:=L.a127;have z127:=L.z127;have v127:=L.v127;have u127:=run_underlying L.t127
 have t3:=L.t3;have a3:=L.a3;have z3:=L.z3;have v3:=L.v3;have u3:=run_underlying L.t3
 have t9:=L.t9;have a9:=L.a9;have z9:=L.z9;have v9:=L.v9;have u9:=run_underlying L.t9
 have t5:=X.t5;have a5:=X.a5;have z5:=X.z5;have v5:=X.v5;have u5:=run_underlying X.t5
 go_enter L.f169,Body.n169_ntmps ρ
 go_wp2
 go_region_o
 all_goals (go_wp2;go_ret;exact ⟨rfl,evol_drew w Mo⟩)
set_option maxHeartbeats 2000000 in
set_option maxRecDepth 100000 in
theorem st_x2 (L:Lays.n169 P ρ) (X:Builder.Extra P ρ) (b g:Nat) (Mo:Nat→Prop) (w:World) (p:Value) (cur:Array Value) (hbk:w.heap[b]?=some (.cells #[p,.slice (some ⟨g,0,none⟩) 0 0] (ρ.t 72) (0,0))) (hg:w.heap[g]?=some (.cells cur (ρ.t 5) (0,0))) :
  Calls P (ρ.f 169) #[.pointer (some ⟨b,0,none⟩)] w fun e w'=>e=.returned (.string ⟨#[]⟩)∧Evol w Mo w':=by
 have hUS:=Any.unsafeString_none L X
 have hlt:b<w.heap.size:=by
  rcases Nat.lt_or_ge b w.heap.size with h' | h'
  ·exact h'
  ·simp[Array.getElem?_eq_none h'] at hbk
 have c1:w.drew.cell? ⟨b,1,none⟩=some (.slice (some ⟨g,0,none⟩) 0 0):=by
  have:w.drew.heap[b]?=some (.cells #[p,.slice (some ⟨g,0,none⟩) 0 0] (ρ.t 72) (0,0)):=hbk
  rw[Lib.cell_of_heap this];rfl
 have hSD:(Builtin.unsafeSliceData_ #[(ρ.t 37)] (ρ.t 127) #[.slice (some ⟨g,0,none⟩) 0 0]).run P w.drew=.ok (.pointer (some ⟨w.drew.heap.size,0,none⟩)) (w.drew.alloc (.view ⟨g,0,none⟩ (ρ.t 5))):=
  Lib.run_unsafeSliceData_zero w.drew _ _ (ρ.t 5) L.t127 ⟨g,0,none⟩ 0 ((ρ.t 5),cur.size) (by have hg':w.drew.heap[g]?=some (.cells cur (ρ.t 5) (0,0)):=hg;simp[World.shape?,hg'])
 have c2:(w.drew.alloc (.view ⟨g,0,none⟩ (ρ.t 5))).cell? ⟨b,1,none⟩=some (.slice (some ⟨g,0,none⟩) 0 0):=by
  have:(w.drew.alloc (.view ⟨g,0,none⟩ (ρ.t 5))).heap[b]?=_:=(Lib.alloc_old w.drew _ b hlt).trans hbk
  rw[Lib.cell_of_heap this];rfl
 have c3:(w.alloc (.view ⟨g,0,none⟩ (ρ.t 5))).drew.cell? ⟨b,1,none⟩=some (.slice (some ⟨g,0,none⟩) 0 0):=c2
 have c0:w.cell? ⟨b,1,none⟩=some (.slice (some ⟨g,0,none⟩) 0 0):=c1
 have mixed:=L.mixed
 have t72:=L.t72;have a72:=L.a72;have z72:=L.z72;have v72:=L.v72;have u72:=run_underlying L.t72
 have t70:=L.t70;have a70:=L.a70;have z70:=L.z70;have v70:=L.v70;have u70:=run_underlying L.t70
 have t37:=L.t37;have a37:=L.a37;have z37:=L.z37;have v37:=L.v37;have u37:=run_underlying L.t37
 have t127:=L.t127;have a127:=L.a127;have z127:=L.z127;have v127:=L.v127;have u127:=run_underlying L.t127
 have t3:=L.t3;have a3:=L.a3;have z3:=L.z3;have v3:=L.v3;have u3:=run_underlying L.t3
 have t9:=L.t9;have a9:=L.a9;have z9:=L.z9;have v9:=L.v9;have u9:=run_underlying L.t9
 have t5:=X.t5;have a5:=X.a5;have z5:=X.z5;have v5:=X.v5;have u5:=run_underlying X.t5
 go_enter L.f169,Body.n169_ntmps ρ
 go_wp2
 go_region_o
 all_goals (go_wp2;go_ret;exact ⟨rfl,evol_alloc w Mo _⟩)
theorem st_x (L:Lays.n169 P ρ) (X:Builder.Extra P ρ) (b:Nat) (u:Value) (x:List Int) (w:World) (h:BldRep w (ρ.t 72) (ρ.t 5) b u x) (hx:∀c ∈ x,0≤c∧c<256) :
  Calls P (ρ.f 169) #[.pointer (some ⟨b,0,none⟩)] w fun e w'=>e=.returned (.string ⟨(x.map fun c=>UInt8.ofNat c.toNat).toArray⟩)∧Evol w (BMo b u) w':=by
 obtain ⟨p,hbk,_,hown⟩:=h
 have hcell:x.map (Value.int .u8)=Lib.byteCells (x.map fun c=>UInt8.ofNat c.toNat):=by
  rw[Lib.byteCells,List.map_map]
  refine List.map_congr_left fun c hc=>?_
  have:=hx c hc
  have e:((UInt8.ofNat c.toNat).toNat:Int)=c:=by
   rw[UInt8.toNat_ofNat']
   omega
  show Value.int .u8 c=Value.int .u8 _
  rw[e]
 by_cases h0:x=[]
 ·subst h0
  rcases hown.2 with ⟨rfl,_⟩ | ⟨g,cap,cur,rfl,_,hg,_⟩
  ·exact st_x0 L X b _ _ w p hbk none rfl ⟨_,_,rfl⟩
  ·by_cases hc0:cap=0
   ·subst hc0
    exact st_x2 L X b g _ w p cur hbk hg
   ·exact st_x0 L X b _ _ w p hbk (some ⟨g,0,none⟩) (Lib.run_unsafeSliceData_row _ _ _ _ _ _ hc0) ⟨_,_,rfl⟩
 ·rw[hcell] at hown
  refine st_x1 L X b u _ w p hbk ?_ (by simpa using h0)
  rw[List.length_map]
  exact hown
end Go.Proofs
end
section
set_option linter.unusedVariables false
namespace Go.Refl
open Go Go.Shelf Go.RowKit Go.Proofs
variable {P:Program} {ρ:Ren} {gl:List (Nat × GItem)}
def ofBytes (x:List Int):ByteArray:=⟨(x.map fun c=>UInt8.ofNat c.toNat).toArray⟩
def isByte (c:Int):Bool:=decide (0≤c)&&decide (c<256)
abbrev wsPs (T E:TypeId):List Pm:=[.bldw T E,.arg (.v .str)]
abbrev wsRes:List M:=[.v (.int .i64),.v .err]
def wsRun (x:List Int × ByteArray):Option (Int × List Int × List Int):=
 bif Nat.ble (x.1.length+x.2.size) maxN then some ((x.2.size:Int),[],x.1++bytesI x.2) else none
theorem ws_FC (L:WsL P ρ) (X:Builder.Extra P ρ):FC P gl (ρ.f 166) { params:=wsPs (ρ.t 72) (ρ.t 5),res:=wsRes,run:=wsRun }:=by
 rintro ⟨x,s⟩ y hy w F vs mv ln hgl hps hnd hb hF
 obtain ⟨v,vs',m1,m2,l1,l2,rfl,rfl,rfl,h1,h2⟩:=hps
 obtain ⟨g,u,rfl,hbld,rfl,rfl⟩:=h1
 obtain ⟨v2,rfl,rfl,cs,rfl,rfl,hs⟩:=h2
 have hs':cs=[.string s]:=hs
 subst hs'
 simp only[List.append_nil] at hnd hb ⊢
 have hne:lblk u≠some g:=by
  intro e
  rw[e] at hnd
  simp at hnd
 simp only[wsRun] at hy
 cases hl:Nat.ble (x.length+s.size) maxN with
 | false=>rw[hl] at hy;cases hy
 | true=>
  rw[hl] at hy
  cases hy
  have hlen:=Nat.le_of_ble_eq_true hl
  refine (ws_x L X g u x s w hbld hne hlen).mono ?_
  rintro e w' ⟨rfl,u',k1,k2,k3,k4⟩
  have hev:Evol w (· ∈ (lblk u).toList++[g]) w':=⟨k4.os,k4.tape,k4.output,k4.size,fun k hk hm=>k4.old k hk (by
   rintro (h | h)
   ·exact hm (by simp[h])
   ·exact hm (by simp[h]))⟩
  refine ⟨[.int .i64 s.size,.nilIface],F,[],g::(lblk u').toList,rfl,?_,?_,?_,?_,fun b hb=>hb,fun b hb=>⟨Nat.lt_of_lt_of_le (hF b hb) k4.size,.inl hb⟩,hev⟩
  ·exact ⟨[.int .i64 s.size],[],[.nilIface],[],rfl,rfl,⟨rfl,rfl⟩,[.nilIface],rfl,rfl,.inl ⟨rfl,rfl⟩⟩
  ·exact ⟨_,rfl,g,u',rfl,k1,rfl⟩
  ·rw[List.nil_append,List.nodup_cons]
   refine ⟨fun h=>k2 (by simpa using h),?_⟩
   cases lblk u' <;> simp
  ·intro b hb'
   rw[List.nil_append,List.mem_cons] at hb'
   rcases hb' with rfl | hb'
   ·have:=hb b (by simp)
    exact ⟨this.1,Nat.lt_of_lt_of_le this.2 k4.size,.inr (by simp)⟩
   ·have hb'':lblk u'=some b:=by simpa using hb'
    obtain ⟨q1,q2⟩:=k3 b hb''
    rcases q2 with q2 | q2
    ·have:=hb b (by simp[q2])
     exact ⟨this.1,q1,.inr (by simp[q2])⟩
    ·exact ⟨fun h=>by have:=hF b h;omega,q1,.inl q2⟩
abbrev stPs (T E:TypeId):List Pm:=[.arg (.bld T E)]
abbrev stRes:List M:=[.v .str]
def stRun (x:List Int):Option ByteArray:=bif x.all isByte then some (ofBytes x) else none
theorem st_FC (L:Lays.n169 P ρ) (X:Builder.Extra P ρ):FC P gl (ρ.f 169) { params:=stPs (ρ.t 72) (ρ.t 5),res:=stRes,run:=stRun }:=by
 rintro x y hy w F vs mv ln hgl hps hnd hb hF
 obtain ⟨v,rfl,rfl,cs,rfl,g,u,rfl,hbld,rfl⟩:=hps
 simp only[List.append_nil] at hnd hb ⊢
 simp only[stRun] at hy
 cases hl:x.all isByte with
 | false=>rw[hl] at hy;cases hy
 | true=>
  rw[hl] at hy
  cases hy
  refine (st_x L X g u x w hbld (fun c hc=>by
   have:=List.all_eq_true.1 hl c hc
   simpa [isByte] using this)).mono ?_
  rintro e w' ⟨rfl,k4⟩
  have hev:Evol w (· ∈ g::(lblk u).toList) w':=⟨k4.os,k4.tape,k4.output,k4.size,fun k hk hm=>k4.old k hk (by
   rintro (h | h)
   ·exact hm (by simp[h])
   ·exact hm (by simp[h]))⟩
  exact ⟨[.string (ofBytes x)],F,[],[],rfl,⟨_,rfl,rfl,rfl⟩,⟨rfl,rfl⟩,List.nodup_nil,by simp,fun b hb=>hb,fun b hb=>⟨Nat.lt_of_lt_of_le (hF b hb) k4.size,.inl hb⟩,hev⟩
abbrev itPs:List Pm:=[.arg (.v (.int .i64))]
abbrev itRes:List M:=[.v .str]
def itRun (n:Int):Option ByteArray:=bif decide (-9223372036854775808≤n)&&decide (n≤9223372036854775807) then some ⟨(Lib.itoa n).toArray⟩ else none
theorem ints_rep {w:World} {F:Nat→Prop} {k:IntKind}:∀{zs:List Int} {cs:List Value},RepL (Rep w F (.int k)) zs cs→cs=zs.map (Value.int k)
 | [],_,h=>h
 | z::zs,_,⟨c1,c2,e,h1,h2⟩=>by
  have h1':c1=[.int k z]:=h1
  rw[e,h1',ints_rep h2];rfl
theorem tab_is {w:World} {F:Nat→Prop} {g:Nat} {k:IntKind} {zs:List Int} {name:String} (h:GlRep w F gl) (hm:(g,GItem.row ⟨.int k,zs⟩) ∈ gl) (hn:P.globalNamed name=some g):Lib.TabIs P w name k zs:=by
 obtain ⟨_,flat,T,fz,h1,h2⟩:=h _ hm
 have h3:=ints_rep h2
 show w.var? P name=_
 simp only[World.var?,hn,Option.bind_some,h1]
 rw[←h3]
theorem evol_grow (w:World) (Mo:Nat→Prop) (k:Nat) (os:Array Obj):Evol w Mo (Go.Sort.grow (w.drewN k) os):=
 ⟨rfl,rfl,rfl,by show w.heap.size≤(w.heap++os).size;rw[Array.size_append];omega,fun i hi _=>by
  show (w.heap++os)[i]?=w.heap[i]?
  rw[Array.getElem?_append_left hi]⟩
theorem it_FC (L:LaysM.n171 P ρ) {g:Nat} (hm:(g,GItem.row ⟨.int .u64,Lib.pow10Tab⟩) ∈ gl) (hn:P.globalNamed "internal/strconv.uint64pow10" = some g):FC P gl (ρ.f 171) { params:=itPs,res:=itRes,run:=itRun }:=by
 rintro n y hy w F vs mv ln hgl hps hnd hb hF
 obtain ⟨v,rfl,rfl,cs,rfl,rfl,hs⟩:=hps
 have hs':cs=[.int .i64 n]:=hs
 subst hs'
 simp only[itRun] at hy
 cases hl:(decide (-9223372036854775808≤n)&&decide (n≤9223372036854775807)) with
 | false=>rw[hl] at hy;cases hy
 | true=>
  rw[hl] at hy
  cases hy
  rw[Bool.and_eq_true,decide_eq_true_eq,decide_eq_true_eq] at hl
  refine (Any.strconv_Itoa L n hl.1 hl.2 w (tab_is hgl hm hn)).mono ?_
  rintro e w' ⟨rfl,k,os,rfl⟩
  have hev:=evol_grow w (· ∈ ([]++[]:List Nat)) k os
  exact ⟨[.string ⟨(Lib.itoa n).toArray⟩],F,[],[],rfl,⟨_,rfl,rfl,rfl⟩,⟨rfl,rfl⟩,List.nodup_nil,by simp,fun b hb=>hb,fun b hb=>⟨Nat.lt_of_lt_of_le (hF b hb) hev.size,.inl hb⟩,hev⟩
end Go.Refl
end
section
set_option linter.unusedVariables false
namespace Go.Refl
open Go Go.Shelf Go.RowKit Go.Proofs
variable {P:Program} {ρ:Ren} {gl:List (Nat × GItem)}
abbrev ixPs:List Pm:=[.arg (.v .str),.arg (.v .str)]
abbrev ixRes:List M:=[.v (.int .i64)]
def oneByte (s:ByteArray):Option UInt8:=
 match s.data.toList with
 | [c]=>some c
 | _=>none
theorem oneByte_eq {s:ByteArray} {c:UInt8} (h:oneByte s=some c):s=⟨#[c]⟩:=by
 unfold oneByte at h
 split at h
 ·rename_i c' hc
  cases h
  apply ByteArray.ext
  apply Array.toList_inj.1
  rw[hc]
 ·cases h
def ixRun (x:ByteArray × ByteArray):Option Int:=(oneByte x.2).map fun c=>(Lib.indexByte x.1.data.toList c:Int)
def ctRun (x:ByteArray × ByteArray):Option Int:=(oneByte x.2).map fun c=>(Lib.countByte x.1.data.toList c:Int)
theorem still_FC {f:Nat} {r:ByteArray × ByteArray→Option Int} (h:∀(s t:ByteArray) (n:Int),r (s,t)=some n→∀w:World,Calls P f #[.string s,.string t] w fun e w'=>e=.returned (.int .i64 n)∧w'=w):FC P gl f { params:=ixPs,res:=ixRes,run:=r }:=by
 rintro ⟨s,t⟩ y hy w F vs mv ln hgl hps hnd hb hF
 obtain ⟨v,vs',m1,m2,l1,l2,rfl,rfl,rfl,h1,h2⟩:=hps
 obtain ⟨rfl,cs,rfl,rfl,hs⟩:=h1
 obtain ⟨v2,rfl,rfl,cs2,rfl,rfl,ht⟩:=h2
 have hs':cs=[.string s]:=hs
 have ht':cs2=[.string t]:=ht
 subst hs' ht'
 refine (h s t y hy w).mono ?_
 rintro e w' ⟨rfl,rfl⟩
 exact ⟨[.int .i64 y],F,[],[],rfl,⟨_,rfl,rfl,rfl⟩,⟨rfl,rfl⟩,List.nodup_nil,by simp,fun b hb=>hb,fun b hb=>⟨hF b hb,.inl hb⟩,⟨rfl,rfl,rfl,Nat.le_refl _,fun _ _ _=>rfl⟩⟩
theorem ix_FC (L:Lays.n143 P ρ):FC P gl (ρ.f 143) { params:=ixPs,res:=ixRes,run:=ixRun }:=still_FC fun s t n h w=>by
 simp only[ixRun,Option.map_eq_some_iff] at h
 obtain ⟨c,hc,rfl⟩:=h
 rw[oneByte_eq hc]
 exact Any.strings_Index_one L s c w
theorem ixl_FC (L:Lays.n219 P ρ):FC P gl (ρ.f 219) { params:=ixPs,res:=ixRes,run:=ixRun }:=still_FC fun s t n h w=>by
 simp only[ixRun,Option.map_eq_some_iff] at h
 obtain ⟨c,hc,rfl⟩:=h
 rw[oneByte_eq hc]
 exact Any.stringslite_Index_one L s c w
theorem ct_FC (L:Lays.n138 P ρ):FC P gl (ρ.f 138) { params:=ixPs,res:=ixRes,run:=ctRun }:=still_FC fun s t n h w=>by
 simp only[ctRun,Option.map_eq_some_iff] at h
 obtain ⟨c,hc,rfl⟩:=h
 rw[oneByte_eq hc]
 exact Any.strings_Count_one L s c w
theorem never_FC {f:Nat} {ps:List Pm} {res:List M}:FC P gl f { params:=ps,res:=res,run:=fun _=>none }:=fun _ _ hy=>by cases hy
end Go.Refl
end
section
set_option linter.unusedVariables false
namespace Go.Refl
open Go Go.Shelf Go.RowKit Go.Proofs
variable {P:Program} {ρ:Ren} {gl:List (Nat × GItem)}
abbrev atPs:List Pm:=[.arg (.v .str)]
abbrev atRes:List M:=[.v (.int .i64),.v .err]
def atEnd (s:ByteArray):Lib.NumEnd Int→Int × List Int
 | .ok v=>(v,[])
 | .range=>(Lib.atoiSat s.data.toList,[0])
 | _=>(0,[0])
def atRun (s:ByteArray):Option (Int × List Int):=
 bif Nat.ble s.size 281474976710656 then some (atEnd s (Lib.atoiAll s.data.toList)) else none
theorem gl_cell {w:World} {F:Nat→Prop} {g:Nat} (h:GlRep w F gl) (hm:(g,GItem.iface) ∈ gl):∃t x,w.cell? ⟨g,0,none⟩=some (.iface t x):=by
 obtain ⟨_,T,fz,t,x,h1⟩:=h _ hm
 exact ⟨t,x,by simp only[World.cell?,h1];rfl⟩
theorem Below.evol {w w':World} {Mo:Nat→Prop} (h:Below w.heap.size w w'):Evol w Mo w':=⟨h.os,h.tape,h.output,h.size,fun k hk _=>h.block k hk⟩
theorem at_FC (L:LaysC.n172 P ρ) (m1:(ρ.g 15,GItem.iface) ∈ gl) (m2:(ρ.g 16,GItem.iface) ∈ gl):FC P gl (ρ.f 172) { params:=atPs,res:=atRes,run:=atRun }:=by
 rintro s y hy w F vs mv ln hgl hps hnd hb hF
 obtain ⟨v,rfl,rfl,cs,rfl,rfl,hs⟩:=hps
 have hs':cs=[.string s]:=hs
 subst hs'
 obtain ⟨t1,x1,c1⟩:=gl_cell hgl m1
 obtain ⟨t2,x2,c2⟩:=gl_cell hgl m2
 simp only[atRun] at hy
 cases hl:Nat.ble s.size 281474976710656 with
 | false=>rw[hl] at hy;cases hy
 | true=>
  rw[hl] at hy
  cases hy
  have hlen:=Nat.le_of_ble_eq_true hl
  rcases hr:Lib.atoiAll s.data.toList with v | _ | _
  ·refine (Any.strconv_Atoi_ok L s (by omega) v hr w).mono ?_
   rintro e w' ⟨rfl,hW⟩
   have hbel:Below w.heap.size w w':=by
    rcases hW with rfl | ⟨t,rfl⟩
    ·exact Below.refl _ _
    ·exact Lib.bytesWorld_below _ _ _
   refine ⟨[.int .i64 v,.nilIface],F,[],[],rfl,?_,⟨rfl,rfl⟩,List.nodup_nil,by simp,fun b hb=>hb,fun b hb=>⟨Nat.lt_of_lt_of_le (hF b hb) hbel.size,.inl hb⟩,Below.evol hbel⟩
   exact ⟨[.int .i64 v],[],[.nilIface],[],rfl,rfl,⟨rfl,rfl⟩,[.nilIface],rfl,rfl,.inl ⟨rfl,rfl⟩⟩
  ·refine (Any.strconv_Atoi_syntax L s hlen hr _ w c1 (.inr ⟨t1,x1,rfl⟩)).mono ?_
   rintro e w' ⟨N,rfl,_,_,hbel⟩
   refine ⟨[.int .i64 0,.iface (ρ.t 168) (.pointer (some ⟨N,0,none⟩))],F,[],[],rfl,?_,⟨rfl,rfl⟩,List.nodup_nil,by simp,fun b hb=>hb,fun b hb=>⟨Nat.lt_of_lt_of_le (hF b hb) hbel.size,.inl hb⟩,Below.evol hbel⟩
   exact ⟨[.int .i64 0],[],[.iface (ρ.t 168) (.pointer (some ⟨N,0,none⟩))],[],rfl,rfl,⟨rfl,rfl⟩,[.iface (ρ.t 168) (.pointer (some ⟨N,0,none⟩))],rfl,rfl,.inr ⟨(by decide:([0]:List Int)≠[]),_,_,rfl,fun T k h=>by cases h⟩⟩
  ·refine (Any.strconv_Atoi_range L s hlen hr _ w c2 (.inr ⟨t2,x2,rfl⟩)).mono ?_
   rintro e w' ⟨N,rfl,_,_,hbel⟩
   refine ⟨[.int .i64 (Lib.atoiSat s.data.toList),.iface (ρ.t 168) (.pointer (some ⟨N,0,none⟩))],F,[],[],rfl,?_,⟨rfl,rfl⟩,List.nodup_nil,by simp,fun b hb=>hb,fun b hb=>⟨Nat.lt_of_lt_of_le (hF b hb) hbel.size,.inl hb⟩,Below.evol hbel⟩
   exact ⟨[.int .i64 (Lib.atoiSat s.data.toList)],[],[.iface (ρ.t 168) (.pointer (some ⟨N,0,none⟩))],[],rfl,rfl,⟨rfl,rfl⟩,[.iface (ρ.t 168) (.pointer (some ⟨N,0,none⟩))],rfl,rfl,.inr ⟨(by decide:([0]:List Int)≠[]),_,_,rfl,fun T k h=>by cases h⟩⟩
end Go.Refl
end
section
namespace Go.Refl
open Go Go.RowKit
variable {P:Program}
def WfT:(t:Ty)→t.den→Prop
 | .int k,n=>(Lit.int k n).wf=true
 | .bool,_=>True
 | .str,s=>s.size≤maxLen
 | .err,_=>True
 | .pair a b,x=>WfT a x.1∧WfT b x.2
 | .slice e,xs=>xs.length≤maxLen∧∀y ∈ xs,WfT e y
def IsRow (k:IntKind) (w:World) (a:Option Addr) (len cap:Nat) (zs:List Int):Prop:=
 (a=none∧len=0∧cap=0∧zs=[]) ∨
 ∃x,a=some x∧len≤cap∧cap≤maxLen∧zs.length=cap∧(∀i,i<zs.length→w.cell? (x.add i)=some (.int k (zs.getD i 0)))∧∀n ∈ zs,(Lit.int k n).wf=true
theorem cell_lt {w:World} {p:Addr} {v:Value} (h:w.cell? p=some v):p.block<w.heap.size:=by
 rcases Nat.lt_or_ge p.block w.heap.size with h1 | h1
 ·exact h1
 ·unfold World.cell? at h
  rw[Array.getElem?_eq_none h1] at h
  simp at h
theorem RepL.map {α:Type} {R:α→List Value→Prop} {f:α→Value} (h:∀x,R x [f x]):∀xs:List α,RepL R xs (xs.map f)
 | []=>rfl
 | x::xs=>⟨[f x],xs.map f,rfl,h x,RepL.map h xs⟩
theorem Evol.below {w w':World} (h:Evol w (fun b=>b ∈ ([]++[]:List Nat)) w'):Below w.heap.size w w':=
 ⟨h.os,h.tape,h.output,h.size,fun k hk=>h.old k hk (by simp)⟩
end Go.Refl
end
