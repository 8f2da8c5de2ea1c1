import Derived.WideLaws
import Derived.Lib.ConvBytes
import Derived.LoopN
import Derived.Scope
import Derived.Test.YtbgamdkmlikgjaaGreatDoorB0
/- Proof texts: library of a small machine over plain data. No condition. -/
set_option linter.unusedVariables false
set_option linter.unusedSimpArgs false
section
namespace Go.Refl
open Go Go.RowKit
variable {P:Program} {w0 w w':World} {Mo:Given} {F0 F F':Nat→Prop} {L L':Nat→Value} {s s':St} {a:Act}
theorem mem_blks {l:List Nat} {b:Nat}:b ∈ blks L l↔∃r ∈ l,lblk (L r)=some b:=by simp[blks,List.mem_filterMap]
theorem blks_nodup (hc:Core w0 Mo F0 F L s w):∀{l:List Nat},l.Nodup→(∀r ∈ l,(s.root r).isDead=false)→(blks L l).Nodup
 | [],_,_=>by simp[blks]
 | r::l,hn,hl=>by
  rw[List.nodup_cons] at hn
  have ih:=blks_nodup hc hn.2 (fun q hq=>hl q (by simp[hq]))
  have e:blks L (r::l)=(lblk (L r)).toList++blks L l:=by rw[←blks_one,←blks_append];rfl
  rw[e,List.nodup_append]
  refine ⟨by cases lblk (L r) <;> simp,ih,fun x hx y hy hxy=>?_⟩
  subst hxy
  obtain ⟨q,hq,hqb⟩:=mem_blks.1 hy
  have hr:lblk (L r)=some x:=by simpa using hx
  exact hc.apart r q (hl r (by simp)) (hl q (by simp[hq])) (by rintro rfl;exact hn.1 hq) x hr hqb
theorem MRep.len:∀(m:M) {w w':World} {F F':Nat→Prop} {x x':m.den} {cs cs':List Value} {bl bl':List Nat},MRep w F m x cs bl→MRep w' F' m x' cs' bl'→cs.length=cs'.length
 | .v t,_,_,_,_,_,_,_,_,_,_,⟨_,h⟩,⟨_,k⟩=>by rw[h.length t,k.length t]
 | .own _ _,_,_,_,_,_,_,_,_,_,_,⟨_,_,h,_⟩,⟨_,_,k,_⟩=>by rw[h,k];rfl
 | .bx _ _,_,_,_,_,_,_,_,_,_,_,⟨_,_,_,h,_⟩,⟨_,_,_,k,_⟩=>by rw[h,k];rfl
 | .bld _ _,_,_,_,_,_,_,_,_,_,_,⟨_,_,h,_⟩,⟨_,_,k,_⟩=>by rw[h,k];rfl
 | .pr m n,_,_,_,_,_,_,_,_,_,_,⟨_,_,_,_,h,_,h1,h2⟩,⟨_,_,_,_,k,_,k1,k2⟩=>by
  rw[h,k,List.length_append,List.length_append,MRep.len m h1 k1,MRep.len n h2 k2]
theorem putOut_rel {X:Nat→Prop} {o:M × Option TypeId} {x:o.1.den} {r:Nat} {bl ids ids':List Nat} (hc:CoreX X w0 Mo F0 F L s w) (ho:OutRep w F o x (L r) bl) (hl:LentOk L s o r) (h:putOut s ids r o.1 x o.2=some (s',ids')) (hnd:bl.Nodup)
  (hb:∀b ∈ bl,¬F b∧b<w.heap.size∧(w0.heap.size≤b∨Mo b)∧∀q,(s.root q).isDead=false→lblk (L q)=some b→q=r) :
  ∃L',CoreX (fun q=>X q∧q≠r) w0 Mo F0 F L' s' w∧Goes w w F F L L' s.roots s'.roots∧s'.tmps=s.tmps∧(∀q,(s'.root q).isDead=false→(s.root q).isDead=false∨∀g,lblk (L' q)=some g→g ∈ bl):=by
 obtain ⟨m,T⟩:=o
 cases T with
 | none=>
  rcases hl with ⟨e,E,xs,A,c,hm,hroot,hL⟩ | ⟨T,E,cs,g,hm,hroot,hlen,hL⟩
  case inr=>
   simp only at hm
   subst hm
   cases ids with
   | nil=>simp[putOut] at h
   | cons q ids=>
    simp only[putOut,Option.map_eq_some_iff] at h
    obtain ⟨s1,hn,e⟩:=h
    cases e
    obtain ⟨g',u,h1,⟨a0,h2,h3,h4⟩,rfl⟩:=ho
    simp only[List.cons.injEq,and_true] at h1
    rw[hL] at h1
    cases h1
    rw[List.nodup_cons] at hnd
    have hlr:(s.root r).isDead=false:=by rw[hroot];rfl
    obtain ⟨n1,n2,rfl⟩:=news_one hn
    have hint:∀xs:List Int,RepL (Rep w F (.int .u8)) xs (xs.map (Value.int .u8)):=by
     intro xs
     induction xs with
     | nil=>rfl
     | cons y ys ih=>exact ⟨[_],_,rfl,rfl,ih⟩
    have hnew:=hc.new n1 n2 (x:=.row (.int .u8) E x) (v:=u) (fun go=>⟨_,h4,hint x⟩) (fun b hb'=>by
     have:=hb b (by simp[hb'])
     refine ⟨this.1,this.2.1,this.2.2.1,fun p hp hpb=>?_⟩
     have:=this.2.2.2 p hp hpb
     subst this
     rw[hL] at hpb
     cases hpb
     exact hnd.1 (by simp[hb']))
    have hqr:q≠r:=by
     rintro rfl
     have:=(free_iff.1 n2).1
     rw[hlr] at this;cases this
    have hL1:upd L q u r=L r:=upd_other _ hqr.symm
    have hr1:(s.setRoot q (.row (.int .u8) E x)).root r=.box T cs:=by rw[root_set,if_neg (fun h=>hqr h.1)];exact hroot
    have hq1:(s.setRoot q (.row (.int .u8) E x)).root q=.row (.int .u8) E x:=by rw[root_set,if_pos ⟨rfl,n1⟩]
    have hrl:=root_lt (s:=s.setRoot q (.row (.int .u8) E x)) (r:=r) (by rw[hr1];rfl)
    have hrb:((s.setRoot q (.row (.int .u8) E x)).setRoot r (.box T [.optr r,.own q])).roots.getD r .dead=.box T [.optr r,.own q]:=by
     show ((s.setRoot q (.row (.int .u8) E x)).setRoot r _).root r=_
     rw[root_set,if_pos ⟨rfl,hrl⟩]
    have hqb:((s.setRoot q (.row (.int .u8) E x)).setRoot r (.box T [.optr r,.own q])).roots.getD q .dead=.row (.int .u8) E x:=by
     show ((s.setRoot q (.row (.int .u8) E x)).setRoot r _).root q=_
     rw[root_set,if_neg (fun h=>hqr h.1.symm)];exact hq1
    have hone:u.oneCell'=true:=by
     obtain ⟨A,c,e,_⟩:=owns_cells h4
     rw[e];rfl
    have hone0:a0.oneCell'=true:=by rcases h3 with h | h <;> rw[h] <;> rfl
    have hk:=hnew.1.back (r:=r) (by rw[hr1];rfl) (x:=.box T [.optr r,.own q]) (by rw[hr1];exact ⟨_,rfl,by rw[hlen];rfl⟩) (fun go=>⟨g,#[a0,u],by rw[hL1,hL],h2,⟨⟨?_,hone0⟩,⟨⟨(upd_same ..).symm,_,_,_,hqb⟩,hone⟩,trivial⟩⟩)
    ·refine ⟨_,hk.1,hnew.2.trans hk.2,rfl,fun p hp=>?_⟩
     by_cases e1:p=r
     ·subst e1;exact .inl hlr
     ·rw[root_set,if_neg (fun h=>e1 h.1.symm)] at hp
      by_cases e2:p=q
      ·subst e2;exact .inr fun b hb'=>by rw[upd_same] at hb';simp[hb']
      ·rw[root_set,if_neg (fun h=>e2 h.1.symm)] at hp
       exact .inl hp
    ·rcases h3 with h | h
     ·exact .inl h
     ·exact .inr ⟨by rw[h,hL1,hL],T,_,g,hrb,by rw[hL1,hL]⟩
  simp only at hm
  subst hm
  simp only[putOut,Option.some.injEq,Prod.mk.injEq] at h
  obtain ⟨rfl,_⟩:=h
  obtain ⟨v,flat,hv,h1,h2,h3⟩:=ho
  simp only[List.cons.injEq,and_true] at hv
  subst hv
  have hlen:x.length=xs.length:=by
   obtain ⟨A',c',h4,_⟩:=owns_cells h1
   rw[hL] at h4
   simp only[Value.slice.injEq] at h4
   exact h4.2.1.symm
  have hk:=hc.back (r:=r) (by rw[hroot];rfl) (x:=.row e E x) (by rw[hroot];exact ⟨x,rfl,hlen⟩) (fun _=>⟨flat,h1,h2⟩)
  refine ⟨L,hk.1,hk.2,rfl,fun q hq=>.inl ?_⟩
  by_cases e1:q=r
  ·subst e1;rw[hroot];rfl
  ·rwa [root_set,if_neg (fun h=>e1 h.1.symm)] at hq
 | some T=>
  obtain ⟨cs,g,hroot,hL,_,_,_,ds,_,hm0,hlen⟩:=hl
  simp only[putOut,Option.map_eq_some_iff] at h
  obtain ⟨s1,hn,e⟩:=h
  cases e
  obtain ⟨g',cur,bl',h1,h2,h3,rfl⟩:=ho
  rw[hL] at h1
  cases h1
  rw[List.nodup_cons] at hnd
  have hlr:(s.root r).isDead=false:=by rw[hroot];rfl
  obtain ⟨L1,f1,c1⟩:=emitC_rel m h3 hc (ids:=ids) hn hnd.2 (fun b hb'=>by
   have:=hb b (by simp[hb'])
   refine ⟨this.1,this.2.1,this.2.2.1,fun q hq hqb=>?_⟩
   have:=this.2.2.2 q hq hqb
   subst this
   rw[hL] at hqb
   cases hqb
   exact hnd.1 hb')
  have hL1:=f1.go.l r hlr
  have hroot1:∃cs',s1.root r=.box T cs'∧cs'.length=cs.length:=by
   have:=hL1.2
   rw[show s.roots.getD r .dead=.box T cs from hroot] at this
   exact this
  obtain ⟨cs',hr1,hl1⟩:=hroot1
  have hlen2:(emitC m x ids).1.length=cs'.length:=by rw[c1.length,hl1,hlen];exact MRep.len m h3 hm0
  have hk:=f1.core.back (r:=r) (by rw[hr1];rfl) (x:=.box T (emitC m x ids).1) (by rw[hr1];exact ⟨_,rfl,hlen2⟩) (fun go=>⟨g,cur,by rw[hL1.1,hL],h2,c1.mono fun _ _ h=>Cel.goes go h⟩)
  refine ⟨L1,hk.1,f1.go.trans hk.2,f1.tmps,fun q hq=>?_⟩
  by_cases e1:q=r
  ·subst e1;exact .inl hlr
  ·rw[root_set,if_neg (fun h=>e1 h.1.symm)] at hq
   rcases f1.old q hq with h | h
   ·exact .inl h
   ·exact .inr fun g hg=>by simp[h g hg]
theorem LentOk.goes {o:M × Option TypeId} {r:Nat} (h:LentOk L s o r) (g:Goes w w F F L L' s.roots s'.roots):LentOk L' s' o r:=by
 unfold LentOk at h ⊢
 split at h
 ·rcases h with ⟨e,E,xs,A,c,h1,h2,h3⟩ | ⟨T,E,cs,gg,h1,h2,h3,h4⟩
  ·obtain ⟨g1,g2⟩:=g.l r (not_dead h2)
   rw[show s.roots.getD r .dead=.row e E xs from h2] at g2
   obtain ⟨ys,g3,g4⟩:=g2
   exact .inl ⟨e,E,ys,A,c,h1,g3,by rw[g1,h3,g4]⟩
  ·obtain ⟨g1,g2⟩:=g.l r (not_dead' h2)
   rw[show s.roots.getD r .dead=.box T cs from h2] at g2
   obtain ⟨ys,g3,g4⟩:=g2
   exact .inr ⟨T,E,ys,gg,h1,g3,by omega,by rw[g1,h4]⟩
 ·obtain ⟨cs,gg,h1,h2,h3⟩:=h
  obtain ⟨g1,g2⟩:=g.l r (not_dead' h1)
  rw[show s.roots.getD r .dead=.box _ cs from h1] at g2
  obtain ⟨ys,g3,g4⟩:=g2
  obtain ⟨w,F,x,ds,bl,h4,h5⟩:=h3
  exact ⟨ys,gg,g3,by rw[g1,h2],w,F,x,ds,bl,h4,by omega⟩
theorem LentOk.live {o:M × Option TypeId} {r:Nat} (h:LentOk L s o r):(s.root r).isDead=false:=by
 unfold LentOk at h
 split at h
 ·rcases h with ⟨e,E,xs,A,c,_,h2,_⟩ | ⟨T,E,cs,g,_,h2,_⟩
  ·exact not_dead h2
  ·exact not_dead' h2
 ·obtain ⟨cs,g,h1,_⟩:=h;exact not_dead' h1
theorem OutRep.own {o:M × Option TypeId} {x:o.1.den} {r:Nat} {v:Value} {bl:List Nat} (h:OutRep w F o x v bl) (hl:LentOk L s o r) {g:Nat} (hg:lblk v=some g):g ∈ bl:=by
 obtain ⟨m,T⟩:=o
 cases T with
 | none=>
  rcases hl with ⟨e,E,xs,A,c,hm,_⟩ | ⟨T,E,cs,g0,hm,_⟩
  ·simp only at hm
   subst hm
   obtain ⟨u,flat,hv,h1,h2,rfl⟩:=h
   simp only[List.cons.injEq,and_true] at hv
   subst hv
   simp[hg]
  ·simp only at hm
   subst hm
   obtain ⟨g',u,hv,_,rfl⟩:=h
   simp only[List.cons.injEq,and_true] at hv
   subst hv
   cases hg
   simp
 | some T=>
  obtain ⟨g',cur,bl',rfl,h2,h3,rfl⟩:=h
  cases hg
  simp
theorem all_live:∀{os:List (M × Option TypeId)} {lent:List Nat},All2 (LentOk L s) os lent→∀q ∈ lent,(s.root q).isDead=false
 | [],[],_,q,hq=>by cases hq
 | [],_::_,h,_,_=>h.elim
 | _::_,[],h,_,_=>h.elim
 | _::_,r::lent,h,q,hq=>by
  rcases List.mem_cons.1 hq with h' | h'
  ·subst h';exact h.1.live
  ·exact all_live h.2 q h'
theorem outs_own:∀{os:List (M × Option TypeId)} {x:dens (os.map (·.1))} {lent:List Nat} {bl:List Nat},OutsRep w F os x (lent.map L) bl→All2 (LentOk L s) os lent→∀q ∈ lent,∀g,lblk (L q)=some g→g ∈ bl
 | [],x,lent,bl,h,hl=>by
  match lent,hl with
  | [],_=>intro q hq;cases hq
  | _::_,hl=>exact hl.elim
 | [o],x,lent,bl,h,hl=>by
  match lent,hl with
  | [r],hl=>
   intro q hq g hg
   obtain ⟨v,hv,ho⟩:=h
   simp only[List.map_cons,List.map_nil,List.cons.injEq,and_true] at hv
   subst hv
   have:q=r:=by simpa using hq
   subst this
   exact ho.own hl.1 hg
  | [],hl=>exact hl.elim
  | _::_::_,hl=>exact hl.2.elim
 | o::o'::os,x,lent,bl,h,hl=>by
  match lent,hl with
  | [],hl=>exact hl.elim
  | r::lent,hl=>
   intro q hq g hg
   obtain ⟨v,b1,vs',b2,hv,hb,o1,o2⟩:=h
   simp only[List.map_cons,List.cons.injEq] at hv
   obtain ⟨rfl,rfl⟩:=hv
   rw[hb]
   rcases List.mem_cons.1 hq with h | h
   ·subst h;exact List.mem_append.2 (.inl (o1.own hl.1 hg))
   ·exact List.mem_append.2 (.inr (outs_own o2 hl.2 q h g hg))
theorem putOuts_rel:∀{os:List (M × Option TypeId)} {x:dens (os.map (·.1))} {lent:List Nat} {bl ids:List Nat} {X:Nat→Prop} {L:Nat→Value} {s s':St},CoreX X w0 Mo F0 F L s w→OutsRep w F os x (lent.map L) bl→All2 (LentOk L s) os lent→putOuts s ids os lent x=some s'→lent.Nodup→bl.Nodup →
  (∀b ∈ bl,¬F b∧b<w.heap.size∧(w0.heap.size≤b∨Mo b)∧∀q,(s.root q).isDead=false→lblk (L q)=some b→q ∈ lent) →
  ∃L',CoreX (fun q=>X q∧q ∉ lent) w0 Mo F0 F L' s' w∧Goes w w F F L L' s.roots s'.roots∧s'.tmps=s.tmps
 | [],x,lent,bl,ids,X,L,s,s',hc,ho,hl,h,_,_,_=>by
  cases lent with
  | cons _ _=>exact hl.elim
  | nil=>
   simp only[putOuts,Option.some.injEq] at h
   subst h
   exact ⟨L,⟨hc.evol,hc.f0,hc.fr,hc.live,hc.apart,fun r hr=>hc.roots r fun h=>hr ⟨h,by simp⟩,hc.kp⟩,Goes.refl ..,rfl⟩
 | [o],x,lent,bl,ids,X,L,s,s',hc,ho,hl,h,hn,hnd,hb=>by
  match lent,hl with
  | [r],hl=>
   simp only[putOuts,Option.map_eq_some_iff] at h
   obtain ⟨⟨s1,i1⟩,h,rfl⟩:=h
   obtain ⟨v,hv,ho⟩:=ho
   simp only[List.map_cons,List.map_nil,List.cons.injEq,and_true] at hv
   subst hv
   obtain ⟨L',k1,k2,k3,_⟩:=putOut_rel hc ho hl.1 h hnd (fun b hb'=>by
    have:=hb b hb'
    exact ⟨this.1,this.2.1,this.2.2.1,fun q hq hqb=>by simpa using this.2.2.2 q hq hqb⟩)
   exact ⟨L',by simpa using k1,k2,k3⟩
  | [],hl=>exact hl.elim
  | _::_::_,hl=>exact hl.2.elim
 | o::o'::os,x,lent,bl,ids,X,L,s,s',hc,ho,hl,h,hn,hnd,hb=>by
  match lent,hl with
  | [],hl=>exact hl.elim
  | r::lent,hl=>
   simp only[putOuts,Option.bind_eq_some_iff] at h
   obtain ⟨⟨s1,i1⟩,h1,h2⟩:=h
   obtain ⟨v,b1,vs',b2,hv,rfl,o1,o2⟩:=ho
   simp only[List.map_cons,List.cons.injEq] at hv
   obtain ⟨rfl,rfl⟩:=hv
   rw[List.nodup_append] at hnd
   rw[List.nodup_cons] at hn
   have hlr:=hl.1.live
   obtain ⟨L1,k1,k2,k3,k4⟩:=putOut_rel hc o1 hl.1 h1 hnd.1 (fun b hb'=>by
    have:=hb b (by simp[hb'])
    refine ⟨this.1,this.2.1,this.2.2.1,fun q hq hqb=>?_⟩
    rcases List.mem_cons.1 (this.2.2.2 q hq hqb) with h | h
    ·exact h
    ·
     exfalso
     exact hnd.2.2 b hb' b (outs_own o2 hl.2 q h b hqb) rfl)
   have hvals:lent.map L1=lent.map L:=by
    apply List.map_congr_left
    intro q hq
    have hq':(s.root q).isDead=false:=all_live hl.2 q hq
    exact (k2.l q hq').1
   rw[←hvals] at o2
   obtain ⟨L2,j1,j2,j3⟩:=putOuts_rel k1 o2 (hl.2.mono fun _ _ h=>h.goes k2) h2 hn.2 hnd.2.1 (fun b hb'=>by
    have:=hb b (by simp[hb'])
    refine ⟨this.1,this.2.1,this.2.2.1,fun q hq hqb=>?_⟩
    rcases k4 q hq with h | h
    ·rw[(k2.l q h).1] at hqb
     rcases List.mem_cons.1 (this.2.2.2 q h hqb) with h' | h'
     ·subst h'
      exact absurd rfl (hnd.2.2 b (o1.own hl.1 hqb) b hb')
     ·exact h'
    ·exact absurd rfl (hnd.2.2 b (h b hqb) b hb'))
   refine ⟨L2,⟨j1.evol,j1.f0,j1.fr,j1.live,j1.apart,fun q hq=>j1.roots q fun h=>hq ⟨h.1.1,?_⟩,j1.kp⟩,k2.trans j2,j3.trans k3⟩
   rw[List.mem_cons]
   rintro (h' | h')
   ·exact h.1.2 h'
   ·exact h.2 h'
end Go.Refl
end
section
namespace Go.Refl
open Go Go.RowKit
variable {P:Program} {w0 w w':World} {Mo:Given} {F0 F F':Nat→Prop} {L L':Nat→Value} {s s':St} {a:Act}
def Callable (P:Program) (f:Nat):Prop:=∃fn,P.funcs[f]?=some fn∧(fn.name == "runtime.NumGoroutine")=false∧fn.body.isSome=true
structure AOk (P:Program) (T:TypeId) (ai:AI):Prop where
 under:P.underlying T=some (.array ai.n ai.E)
 info:∃i,P.info? T=some i∧i.size=ai.n*ai.e.size
 elem:∃i,P.info? ai.E=some i∧i.size=ai.e.size
 agg:∀w,(isAgg ai.E).run P w=.ok false w
 one:ai.e.isPair=false
structure BOk (P:Program) (T:TypeId):Prop where
 info:∃i,P.info? T=some i∧i.size=2∧i.bytes≤128∧i.zero=some (.agg #[.pointer none,.slice none 0 0])
structure CfgB (P:Program) (C:Cfg):Prop where
 tb:CfgTb P C.tb
 tab:∀n f g,C.tab n f=some g→FC P C.gl f g∧Callable P f
 mixed:P.follows .mixedOrders=true
 ar:∀T ai,look C.ar T=some ai→AOk P T ai
 bld:∀T E,look C.bld T=some E→BOk P T
 pts:∀T,C.pts.contains T=true→∃e,P.underlying T=some (.pointer e)
structure CfgOk (P:Program) (C:Cfg) (w0:World) (Mo:Given) (F0:Nat→Prop):Prop extends CfgB P C where
 gl0:GlRep w0 F0 C.gl
 sep:∀b,F0 b→b<w0.heap.size∧¬Mo b
theorem CfgOk.gl {C:Cfg} (hC:CfgOk P C w0 Mo F0) (hc:Core w0 Mo F0 F L s w):GlRep w F C.gl:=
 hC.gl0.mono hc.f0 fun b hb=>hc.evol.old b (hC.sep b hb).1 (hC.sep b hb).2
theorem exec_call {o:Oper} {c:Call} {fo:Operand} {f:Nat} {caps:List Value} (hP:Callable P f) (ho:o.op=.call c) (hc:c.callee=.value fo) (hf:a.eval fo=.func (.func f) #[] caps.toArray) :
  (execOp a.eval o).run P w=.ok (.enter f (c.args.toList.map a.eval++caps).toArray) w:=by
 obtain ⟨fn,h1,h2,h3⟩:=hP
 have h2':¬fn.name = "runtime.NumGoroutine" :=by simpa using h2
 have h3':¬fn.body=none:=by intro h;rw[h] at h3;cases h3
 have hargs:c.args.map a.eval++caps.toArray=(c.args.toList.map a.eval++caps).toArray:=by
  apply Array.toList_inj.1
  simp
 simp[execOp,ho,resolve,hc,hf,Deferred.ofValue,invoke,callFunc,h1,h2',h3',hargs]
theorem one_rel {rs:List Root} {lvs:List LV} {vs:List Value} (h:All2 (VRel1 w F L rs) lvs vs):VRel w F L rs (oneOrTup lvs) (oneOrTupV vs):=by
 match lvs,vs,h with
 | [],[],h=>exact ⟨[],rfl,trivial⟩
 | [lv],[v],h=>exact h.1.v
 | lv::l2::l,v::v2::l',h=>exact ⟨_,rfl,h⟩
 | [],_::_,h=>exact h.elim
 | _::_,[],h=>exact h.elim
 | [_],_::_::_,h=>exact h.2.elim
 | _::_::_,[_],h=>exact h.2.elim
theorem ok_callF {gl:List (Nat × GItem)} {f:Nat} {g:Sig} (hfc:FC P gl f g) (hgl:∀F L,Core w0 Mo F0 F L s w→GlRep w F gl) (hP:Callable P f) (hr:Rel w0 Mo F0 s a w) {o:Oper} {c:Call} {fo:Operand} {caps:List LV} {ids:List Nat} {lv:LV} (ho:o.op=.call c) (hcl:c.callee=.value fo) (hfo:s.opd fo=.fn f caps)
  (h:(callR s g ids (c.args.toList.map s.opd++caps)).To (lv,s')) (hargs:(c.args.toList.map s.opd).all LV.noTup=true):OpOk P w0 Mo F0 o a w lv s':=by
 obtain ⟨hd,F,L,hc,ht⟩:=hr
 have hf:=opd_rel ht fo
 rw[hfo] at hf
 obtain ⟨cvs,hfv,hcaps⟩:=hf
 have hall:All2 (VRel1 w F L s.roots) (c.args.toList.map s.opd++caps) (c.args.toList.map a.eval++cvs):=by
  refine All2.append ?_ (hcaps.mono fun _ _ h=>h.v1)
  have h1:=opds_rel ht c.args.toList
  have:∀{l1:List LV} {l2:List Value},All2 (VRel w F L s.roots) l1 l2→l1.all LV.noTup=true→All2 (VRel1 w F L s.roots) l1 l2:=by
   intro l1
   induction l1 with
   | nil=>intro l2 h _;cases l2 <;> first | trivial | exact h.elim
   | cons x l1 ih=>
    intro l2 h hh
    cases l2 with
    | nil=>exact h.elim
    | cons y l2=>
     rw[List.all_cons,Bool.and_eq_true] at hh
     refine ⟨?_,ih h.2 hh.2⟩
     have h0:=h.1
     cases x <;> first | exact h0 | simp[LV.noTup] at hh
  exact this h1 hargs
 have hvr:All2 (VRel w F L s.roots) (c.args.toList.map s.opd++caps) (c.args.toList.map a.eval++cvs):=hall.mono fun _ _ h=>h.v
 unfold callR at h
 split at h
 case h_2=>exact h.elim
 rename_i x1 e1 l1 hin1
 simp only at h
 generalize hK:takenR s g (e1++l1) (c.args.toList.map s.opd++caps)=K at h
 generalize hlend:lendR s g (e1++l1) (c.args.toList.map s.opd++caps)=lend at h
 have hKn:∀r ∈ K,(e1++l1).contains r=false:=by
  intro r hr
  rw[←hK] at hr
  unfold takenR at hr
  cases hfl:(g.res++outs g.params).all M.flat || soleV g.params (c.args.toList.map s.opd++caps) with
  | true=>rw[hfl] at hr;cases hr
  | false=>rw[hfl,cond_false,List.mem_filter] at hr;simpa using hr.2
 split at h
 case h_2=>exact h.elim
 rename_i x eaten lent hin
 cases hchk:(decide (eaten++lent).Nodup&&(eaten++lent).all (fun r=>(e1++l1).contains r)) with
 | false=>rw[hchk] at h;exact h.elim
 | true=>
  rw[hchk,cond_true] at h
  rw[Bool.and_eq_true,decide_eq_true_eq,List.all_eq_true] at hchk
  obtain ⟨hnd,hlock⟩:=hchk
  obtain ⟨y,hy,h⟩:=h
  simp only at h
  split at h
  case h_2=>exact h.elim
  rename_i s1 hs1
  split at h
  case h_2=>exact h.elim
  rename_i s2 hs2
  cases h
  obtain ⟨hps,hlv,hvals,hlo⟩:=argsIn_rel hc hin hvr
  rw[List.nodup_append] at hnd
  have hne:∀r ∈ eaten++lent,lend r=false:=by
   intro r hr
   rw[←hlend]
   unfold lendR
   cases (g.res++outs g.params).all M.flat with
   | false=>
    simp only[cond_false]
    cases soleV g.params (c.args.toList.map s.opd++caps) with
    | true=>rfl
    | false=>
    rw[cond_false,hK]
    cases hc:K.contains r with
    | false=>rfl
    | true=>have:=hKn r (List.contains_iff_mem.1 hc);rw[hlock r hr] at this;cases this
   | true=>simp only[cond_true];rw[hlock r hr];rfl
  have hb1:(blks L eaten++blks L lent).Nodup:=by
   rw[←blks_append]
   exact blks_nodup hc (List.nodup_append.2 hnd) hlv
  have hmem:∀b ∈ blks L eaten++blks L lent,∃r ∈ eaten++lent,lblk (L r)=some b:=by
   intro b hb
   rw[←blks_append] at hb
   exact mem_blks.1 hb
  have hb2:∀b ∈ blks L eaten++blks L lent,¬Lent F L s lend b∧b<w.heap.size:=by
   intro b hb
   obtain ⟨r,hr,hrb⟩:=hmem b hb
   have h1:=hc.live r (hlv r hr) b hrb
   refine ⟨?_,h1.2.1⟩
   rintro (h2 | ⟨q,q1,q2,q3⟩)
   ·exact h1.1 h2
   ·by_cases e:q=r
    ·subst e;rw[hne q hr] at q1;cases q1
    ·exact hc.apart q r q2 (hlv r hr) e b q3 hrb
  have hb3:∀b,Lent F L s lend b→b<w.heap.size:=by
   rintro b (h1 | ⟨q,_,q2,q3⟩)
   ·exact (hc.fr b h1).1
   ·exact (hc.live q q2 b q3).2.1
  have hcall:=hfc x y hy w _ _ _ _ ((hgl F L hc).mono (F':=Lent F L s lend) (fun b hb=>.inl hb) (fun _ _=>rfl)) hps hb1 hb2 hb3
  intro KK Q hKK
  unfold Oper.wp
  rw[exec_call hP ho hcl hfv,Oper.upon_enter]
  refine hcall.mono fun e w' hpost=>?_
  obtain ⟨rs,F',b1,b2,rfl,hms,hos,hn12,hbl,hF1,hF2,hev⟩:=hpost
  refine hKK _ _ ?_
  obtain ⟨Fn,n1,n2,n3,n4,n5⟩:∃Fn:Nat→Prop,(∀b,F b→Fn b)∧(∀b,Fn b→F' b)∧MsRep w' Fn g.res (splitD g.res (outs g.params) y).1 rs b1∧OutsRep w' Fn (outKinds g.params) (splitD g.res (outs g.params) y).2 (lentVals g.params (c.args.toList.map a.eval++cvs)) b2∧(∀b,Fn b→b<w'.heap.size∧(F b∨w.heap.size≤b∨b ∈ blks L eaten++blks L lent∨∃q ∈ K,(s.root q).isDead=false∧lblk (L q)=some b)):=by
   cases hfl:(g.res++outs g.params).all M.flat with
   | true=>
    rw[List.all_append,Bool.and_eq_true] at hfl
    exact ⟨F,fun _ h=>h,fun b h=>hF1 b (.inl h),hms.flat hfl.1,hos.flat hfl.2,fun b h=>⟨Nat.lt_of_lt_of_le (hc.fr b h).1 hev.size,.inl h⟩⟩
   | false=>
    refine ⟨F',fun b h=>hF1 b (.inl h),fun _ h=>h,hms,hos,fun b h=>⟨(hF2 b h).1,?_⟩⟩
    rcases (hF2 b h).2 with h1 | h1 | h1
    ·rcases h1 with h1 | ⟨q,q1,q2,q3⟩
     ·exact .inl h1
     ·rw[←hlend] at q1
      unfold lendR at q1
      rw[hfl,cond_false] at q1
      cases hso:soleV g.params (c.args.toList.map s.opd++caps) with
      | true=>rw[hso] at q1;cases q1
      | false=>
      rw[hso,cond_false,hK] at q1
      exact .inr (.inr (.inr ⟨q,List.contains_iff_mem.1 q1,q2,q3⟩))
    ·exact .inr (.inl h1)
    ·exact .inr (.inr (.inl h1))
  rw[←hvals] at n4
  have hFb:∀b,F b→b ∉ blks L eaten++blks L lent:=fun b hb hm=>(hb2 b hm).1 (.inl hb)
  have hFw:∀b,F b→w'.heap[b]?=w.heap[b]?:=fun b hb=>hev.old b (hc.fr b hb).1 (hFb b hb)
  obtain ⟨kc,kt,kl,krow,klen⟩:=hc.kill ht (eaten++K)
  have hMo:∀b,b ∈ blks L eaten++blks L lent→w0.heap.size≤b∨Mo b:=by
   intro b hb
   obtain ⟨r,hr,hrb⟩:=hmem b hb
   exact (hc.live r (hlv r hr) b hrb).2.2
  have hnl:∀r,((s.kill (eaten++K)).root r).isDead=false→r ∉ lent→∀g,lblk (L r)=some g→g ∉ blks L eaten++blks L lent:=by
   intro r hr hrl b hb hm
   obtain ⟨q,hq,hqb⟩:=hmem b hm
   obtain ⟨k1,k2⟩:=kl r hr
   refine hc.apart r q k1 (hlv q hq) ?_ b hb hqb
   rintro rfl
   rcases List.mem_append.1 hq with h | h
   ·rw[List.contains_iff_mem.2 (List.mem_append.2 (.inl h))] at k2;cases k2
   ·exact hrl h
  have hlentb:∀r ∈ lent,∀b,lblk (L r)=some b→b ∈ b2:=fun r hr b hb=>outs_own n4 hlo r hr b hb
  have go:Goes w w' F Fn L L (s.kill (eaten++K)).roots (s.kill (eaten++K)).roots:=⟨n1,hFw,fun r _=>⟨rfl,Compat.refl _⟩⟩
  have cx:CoreX (· ∈ lent) w0 Mo F0 Fn L (s.kill (eaten++K)) w':=by
   refine ⟨hc.evol.trans hev.os hev.tape hev.output hev.size fun k hk hm=>hev.old k (Nat.lt_of_lt_of_le hk hc.evol.size) fun hmm=>?_,fun b h=>n1 b (hc.f0 b h),fun b h=>⟨(n5 b h).1,?_⟩,fun r hr b hb=>?_,kc.apart,fun r hr=>?_,kc.kp⟩
   ·rcases hMo k hmm with h | h
    ·omega
    ·exact hm h
   ·rcases (n5 b h).2 with h1 | h1 | h1
    ·exact (hc.fr b h1).2
    ·exact .inr (.inl (Nat.le_trans hc.evol.size h1))
    ·rcases h1 with h1 | ⟨q,_,q2,q3⟩
     ·exact .inr (hMo b h1)
     ·exact .inr (hc.live q q2 b q3).2.2
   ·have h1:=kc.live r hr b hb
    refine ⟨fun hf=>?_,Nat.lt_of_lt_of_le h1.2.1 hev.size,h1.2.2⟩
    by_cases hrl:r ∈ lent
    ·exact (hbl b (List.mem_append.2 (.inr (hlentb r hrl b hb)))).1 (n2 b hf)
    ·rcases (n5 b hf).2 with h2 | h2 | h2
     ·exact h1.1 h2
     ·omega
     ·rcases h2 with h2 | ⟨q,q1,q2,q3⟩
      ·exact hnl r hr hrl b hb h2
      ·obtain ⟨k1,k2⟩:=kl r hr
       refine hc.apart r q k1 q2 ?_ b hb q3
       rintro rfl
       rw[List.contains_iff_mem.2 (List.mem_append.2 (.inr q1))] at k2
       cases k2
   ·exact (kc.roots r).goes go fun hl b hb=>hev.old b (kc.live r hl b hb).2.1 (hnl r hl hr b hb)
  have hMo':∀b,w.heap.size≤b∨b ∈ blks L eaten++blks L lent→w0.heap.size≤b∨Mo b:=by
   rintro b (h | h)
   ·exact .inl (Nat.le_trans hc.evol.size h)
   ·exact hMo b h
  rw[List.nodup_append] at hn12
  obtain ⟨L1,f1,v1⟩:=emits_rel g.res n3 cx hs1 hn12.1 (fun b hb=>by
   have h1:=hbl b (List.mem_append.2 (.inl hb))
   refine ⟨fun h=>h1.1 (n2 b h),h1.2.1,hMo' b h1.2.2,fun r hr hrb=>?_⟩
   by_cases hrl:r ∈ lent
   ·exact hn12.2.2 b hb b (hlentb r hrl b hrb) rfl
   ·have h2:=hnl r hr hrl b hrb
    rcases h1.2.2 with h3 | h3
    ·have:=(kc.live r hr b hrb).2.1;omega
    ·exact h2 h3)
  have hlk:∀r ∈ lent,((s.kill (eaten++K)).root r).isDead=false:=by
   intro r hr
   have hre:(eaten++K).contains r=false:=by
    cases hcn:(eaten++K).contains r with
    | false=>rfl
    | true=>
     rcases List.mem_append.1 (List.contains_iff_mem.1 hcn) with h | h
     ·exact absurd rfl (hnd.2.2 r h r hr)
     ·have:=hKn r h;rw[hlock r (List.mem_append.2 (.inr hr))] at this;cases this
   have hlr:=hlv r (List.mem_append.2 (.inr hr))
   cases hee:eaten++K with
   | nil=>exact hlr
   | cons q l=>
    rw[hee] at hre
    show ((killRoots (q::l) s.roots).getD r .dead).isDead=false
    rw[root_killRoots,if_neg (by rw[hre];simp),isDead_kill]
    exact hlr
  have hlo':All2 (LentOk L (s.kill (eaten++K))) (outKinds g.params) lent:=by
   have:∀{os:List (M × Option TypeId)} {l:List Nat},All2 (LentOk L s) os l→(∀r ∈ l,r ∈ lent)→All2 (LentOk L (s.kill (eaten++K))) os l:=by
    intro os
    induction os with
    | nil=>intro l h _;cases l <;> first | trivial | exact h.elim
    | cons o os ih=>
     intro l h hm
     cases l with
     | nil=>exact h.elim
     | cons r l=>
      refine ⟨?_,ih h.2 fun q hq=>hm q (by simp[hq])⟩
      have hr:=hm r (by simp)
      have hre:(eaten++K).contains r=false:=by
       cases hcn:(eaten++K).contains r with
       | false=>rfl
       | true=>
        rcases List.mem_append.1 (List.contains_iff_mem.1 hcn) with h | h
        ·exact absurd rfl (hnd.2.2 r h r hr)
        ·have:=hKn r h;rw[hlock r (List.mem_append.2 (.inr hr))] at this;cases this
      have h0:=h.1
      unfold LentOk at h0 ⊢
      split at h0
      ·rcases h0 with ⟨e,E,xs,A,c,q1,q2,q3⟩ | ⟨T,E,cs,gg,q0,q1,q2,q3⟩
       ·exact .inl ⟨e,E,xs,A,c,q1,krow r e E xs hre q2,q3⟩
       ·cases hee:eaten++K with
        | nil=>exact .inr ⟨T,E,cs,gg,q0,q1,q2,q3⟩
        | cons q l2=>
         rw[hee] at hre
         refine .inr ⟨T,E,cs.map (LV.kill (q::l2)),gg,q0,?_,by simpa using q2,q3⟩
         show (killRoots (q::l2) s.roots).getD r .dead=_
         rw[root_killRoots,if_neg (by rw[hre];simp),show s.roots.getD r .dead=.box T cs from q1];rfl
      ·rename_i T hT
       obtain ⟨cs,gg,q1,q2,q3⟩:=h0
       cases hee:eaten++K with
       | nil=>exact ⟨cs,gg,q1,q2,q3⟩
       | cons q l2=>
        rw[hee] at hre
        refine ⟨cs.map (LV.kill (q::l2)),gg,?_,q2,?_⟩
        ·show (killRoots (q::l2) s.roots).getD r .dead=_
         rw[root_killRoots,if_neg (by rw[hre];simp),show s.roots.getD r .dead=.box T cs from q1];rfl
        ·obtain ⟨w,F,x,ds,bl,q4,q5⟩:=q3
         exact ⟨w,F,x,ds,bl,q4,by simpa using q5⟩
   exact this hlo fun _ h=>h
  have hvals1:lent.map L1=lent.map L:=List.map_congr_left fun r hr=>(f1.go.l r (hlk r hr)).1
  rw[←hvals1] at n4
  obtain ⟨L2,g1,g2,g3⟩:=putOuts_rel f1.core n4 (hlo'.mono fun _ _ h=>h.goes f1.go) hs2 hnd.2.1 hn12.2.1 (fun b hb=>by
   have h1:=hbl b (List.mem_append.2 (.inr hb))
   refine ⟨fun h=>h1.1 (n2 b h),h1.2.1,hMo' b h1.2.2,fun r hr hrb=>?_⟩
   rcases f1.old r hr with h2 | h2
   ·rw[(f1.go.l r h2).1] at hrb
    by_cases hrl:r ∈ lent
    ·exact hrl
    ·exfalso
     have h3:=hnl r h2 hrl b hrb
     rcases h1.2.2 with h4 | h4
     ·have:=(kc.live r h2 b hrb).2.1;omega
     ·exact h3 h4
   ·exact absurd rfl (hn12.2.2 b (h2 b hrb) b hb))
  refine ⟨hd,Fn,L2,g1.core (fun r h=>h.2 h.1),?_,(one_rel (v1.mono fun _ _ h=>h.goes g2))⟩
  have e1:s'.tmps=(s.kill (eaten++K)).tmps:=g3.trans f1.tmps
  rw[e1]
  exact kt.mono fun _ _ h=>((h.goes go).goes f1.go).goes g2
end Go.Refl
end
section
namespace Go.Refl
open Go Go.RowKit
variable {P:Program} {w0 w w':World} {Mo:Given} {F0 F F':Nat→Prop} {L L':Nat→Value} {s s':St} {a:Act}
theorem run_eql_iface_int {t T T':Nat} {k k':Int} (w:World) (h:P.underlying t=some (.interface (P.methodsAt t))) (hT:P.underlying T=some (.int .i64)) (hc:∃i,P.info? T=some i∧i.comparable=true) :
  (binOp .eql t (.iface T (.int .i64 k)) (.iface T' (.int .i64 k'))).run P w=.ok (.bool (decide (T=T'∧k=k'))) w:=by
 obtain ⟨i,hi,hcomp⟩:=hc
 have h2:∀d,(Op.equalIn (d+1) T (.int .i64 k) (.int .i64 k')).run P w=.ok (k == k') w:=fun d=>by simp[Op.equalIn,run_underlying hT]
 have key:∀d,(Op.equalIn (d+2) t (.iface T (.int .i64 k)) (.iface T' (.int .i64 k'))).run P w=.ok (decide (T=T'∧k=k')) w:=fun d=>by
  have h3:=h2 d
  by_cases e:T=T'
  ·subst e
   rw[Op.equalIn]
   simp only[Sem.run_bind,run_underlying h,Result.andThen_ok]
   simp[typeInfo,hi,hcomp,h3]
   by_cases hk:k=k' <;> simp[hk]
  ·rw[Op.equalIn]
   simp only[Sem.run_bind,run_underlying h,Result.andThen_ok]
   simp[e]
 have k1:=key 9998
 simp only[binOp,Op.equal,Op.maxDepth]
 simp[k1]
theorem ok_errCmp {tb:List (Nat × TI)} (hT:CfgTb P tb) (hr:Rel w0 Mo F0 s a w) {o:Oper} {op t x y t2 lv} (ho:o.op=.binOp op t x y t2) (h:errCmp tb s op t x y=some lv):OpOk P w0 Mo F0 o a w lv s:=by
 unfold errCmp errCmpV at h
 split at h
 case h_2=>cases h
 rename_i ti e hti hx0
 cases hb:decide (ti.ty=.err) with
 | false=>rw[hb] at h;cases h
 | true=>
  rw[hb,cond_true] at h
  have hty:=of_decide_eq_true hb
  have hd:=(hT t ti hti).desc
  unfold DescOk at hd
  rw[hty] at hd
  have hr':=hr
  obtain ⟨hdf,F,L,hcore,ht⟩:=hr
  have hx:=opd_rel ht x
  rw[hx0] at hx
  obtain ⟨cs,hrep,hv⟩:=hx
  split at h
  ·have exec:∀v,((do eqGuard op t x (.const .nilIface) (a.eval x) .nilIface;binOp op t (a.eval x) .nilIface):Sem Value).run P w=.ok v w→(execOp a.eval o).run P w=.ok (.value v) w:=by
    intro v hv
    simp only[execOp,ho,Sem.run_bind,Act.eval] at hv ⊢
    rw[hv];rfl
   rcases hrep with ⟨rfl,rfl⟩ | ⟨hne,t',x',rfl,_⟩
   ·have hv':a.eval x=.nilIface:=hv
    split at h
    ·cases h
     refine .pure hr' (v:=.bool true) (exec _ ?_) fun F L _ _=>⟨[.bool true],rfl,rfl⟩
     rw[hv',eqGuard_nil_constR]
     simp only[Sem.run_bind,Sem.run_pure,Result.andThen_ok]
     exact run_eql_nil_nil w t hd
    ·cases h
     refine .pure hr' (v:=.bool false) (exec _ ?_) fun F L _ _=>⟨[.bool false],rfl,rfl⟩
     rw[hv',eqGuard_nil_constR]
     simp only[Sem.run_bind,Sem.run_pure,Result.andThen_ok]
     exact run_neq_nil_nil w t hd
    ·cases h
   ·have hv':a.eval x=.iface t' x':=hv
    have he:e.isEmpty=false:=by cases e with
     | nil=>exact absurd rfl hne
     | cons _ _=>rfl
    rw[he] at h
    split at h
    ·cases h
     refine .pure hr' (v:=.bool false) (exec _ ?_) fun F L _ _=>⟨[.bool false],rfl,rfl⟩
     rw[hv',show eqGuard .eql t x (.const .nilIface) (.iface t' x') .nilIface=pure () from rfl]
     simp only[Sem.run_bind,Sem.run_pure,Result.andThen_ok]
     exact run_eql_held_nil w t t' x' hd
    ·cases h
     refine .pure hr' (v:=.bool true) (exec _ ?_) fun F L _ _=>⟨[.bool true],rfl,rfl⟩
     rw[hv',show eqGuard .neq t x (.const .nilIface) (.iface t' x') .nilIface=pure () from rfl]
     simp only[Sem.run_bind,Sem.run_pure,Result.andThen_ok]
     exact run_neq_held_nil w t t' x' hd
    ·cases h
  ·split at h
   case h_2=>cases h
   rename_i T k T' k' hy0
   split at h
   case h_2=>cases h
   rename_i tj htj
   cases hc:(decide (tj.ty=.int .i64)&&tj.cmp) with
   | false=>rw[hc] at h;cases h
   | true=>
    rw[hc,cond_true,Option.some.injEq] at h
    subst h
    rw[Bool.and_eq_true,decide_eq_true_eq] at hc
    have hk:=hT _ tj htj
    have hd2:=hk.desc
    unfold DescOk at hd2
    rw[hc.1] at hd2
    have hy:=opd_rel ht y
    rw[hy0] at hy
    obtain ⟨ds,hrep2,hv2⟩:=hy
    rcases hrep with ⟨e,_⟩ | ⟨_,u,x',rfl,h1⟩
    ·cases e
    rcases hrep2 with ⟨e,_⟩ | ⟨_,u',y',rfl,h2⟩
    ·cases e
    obtain ⟨rfl,rfl⟩:=h1 T k rfl
    obtain ⟨rfl,rfl⟩:=h2 T' k' rfl
    have hv':a.eval x=.iface u (.int .i64 k):=hv
    have hv2':a.eval y=.iface u' (.int .i64 k'):=hv2
    rw[Int.toNat_natCast] at hd2 hk
    refine .pure hr' (v:=.bool (decide (u=u'∧k=k'))) ?_ fun F L _ _=>?_
    ·have hg:eqGuard .eql t x y (.iface u (.int .i64 k)) (.iface u' (.int .i64 k'))=pure ():=rfl
     simp only[execOp,ho,Sem.run_bind,hv',hv2',hg,Sem.run_pure,Result.andThen_ok,run_eql_iface_int w hd hd2 (hk.cmp hc.2)]
    ·show Value.bool _=Value.bool _
     simp only[cond_false,Value.bool.injEq]
     rw[Bool.eq_iff_iff,decide_eq_true_iff,decide_eq_true_iff]
     omega
theorem look_glob {gl:List (Nat × GItem)} (h:GlRep w F gl) {g:Nat} {u:GV} (hl:look gl g=some (.row u)):F g∧∃flat T fz,w.heap[g]?=some (.cells flat T fz)∧RepL (Rep w F u.e) u.xs flat.toList:=by
 have:∀l:List (Nat × GItem),look l g=some (.row u)→(g,GItem.row u) ∈ l:=by
  intro l
  induction l with
  | nil=>intro h;cases h
  | cons p l ih=>
   obtain ⟨k,v⟩:=p
   intro h
   simp only[look] at h
   cases hb:Nat.beq k g with
   | true=>
    rw[hb,cond_true] at h
    cases h
    rw[Nat.beq_eq] at hb
    subst hb
    exact List.mem_cons_self ..
   | false=>rw[hb,cond_false] at h;exact List.mem_cons_of_mem _ (ih h)
 exact h _ (this _ hl)
theorem ok_globArr {C:Cfg} (hC:CfgOk P C w0 Mo F0) (hr:Rel w0 Mo F0 s a w) {o:Oper} {T x lv} (ho:o.op=.load T x) (h:globArr C T (s.opd x)=some lv):OpOk P w0 Mo F0 o a w lv s:=by
 obtain ⟨hdf,F,L,hcore,ht⟩:=hr
 have hx:=opd_rel ht x
 unfold globArr at h
 split at h
 case h_2=>cases h
 rename_i g hx0
 rw[hx0] at hx
 have hv:a.eval x=.pointer (some ⟨g,0,none⟩):=hx
 split at h
 case h_2=>cases h
 rename_i ai u hai hgl
 cases hb:decide (u.e=ai.e)&&Nat.beq u.xs.length ai.n with
 | false=>rw[hb] at h;cases h
 | true=>
  rw[hb,cond_true,Option.some.injEq] at h
  subst h
  rw[Bool.and_eq_true,decide_eq_true_eq,Nat.beq_eq] at hb
  have ha:=hC.ar T ai hai
  obtain ⟨_,flat,T',fz,h1,h2⟩:=look_glob (hC.gl hcore) hgl
  have hlen:=RepL.length (repLen w F u.e) h2
  obtain ⟨i,hi,hsz⟩:=ha.info
  refine .here hdf hcore ht (v:=.agg flat) ?_ ⟨flat.toList,rfl,h2⟩
  have hagg:(isAgg T).run P w=.ok true w:=by simp[isAgg,run_underlying ha.under]
  have hs:(sizeOf T).run P w=.ok flat.toList.length w:=by
   have e:i.size=flat.toList.length:=by rw[hsz,hlen,hb.2,hb.1]
   rw[←e]
   simp[sizeOf,typeInfo,hi]
  have hld:=run_loadCells_list (P:=P) (w:=w) ⟨g,0,none⟩ flat.toList (fun j v hj=>by
   rw[add_lit,World.cell?]
   simp only[h1,Option.isSome_none,Bool.false_eq_true,if_false]
   simpa using hj)
  simp only[execOp,ho,hv,Instr.loadAt,Instr.sureAddr,loadVar,Sem.run_bind,Sem.run_pure,Result.andThen_ok,hagg,if_true,hs,hld]
theorem look_globE {gl:List (Nat × GItem)} (h:GlRep w F gl) {g:Nat} (hl:look gl g=some .iface):∃T fz t x,w.heap[g]?=some (.cells #[.iface t x] T fz):=by
 have:∀l:List (Nat × GItem),look l g=some .iface→(g,GItem.iface) ∈ l:=by
  intro l
  induction l with
  | nil=>intro h;cases h
  | cons p l ih=>
   obtain ⟨k,v⟩:=p
   intro h
   simp only[look] at h
   cases hb:Nat.beq k g with
   | true=>
    rw[hb,cond_true] at h
    cases h
    rw[Nat.beq_eq] at hb
    subst hb
    exact List.mem_cons_self ..
   | false=>rw[hb,cond_false] at h;exact List.mem_cons_of_mem _ (ih h)
 exact (h _ (this _ hl)).2
theorem ok_globErr {C:Cfg} (hC:CfgOk P C w0 Mo F0) (hr:Rel w0 Mo F0 s a w) {o:Oper} {T x ti lv} (ho:o.op=.load T x) (hti:look C.tb T=some ti) (h:globErr C ti (s.opd x)=some lv):OpOk P w0 Mo F0 o a w lv s:=by
 obtain ⟨hdf,F,L,hcore,ht⟩:=hr
 have hx:=opd_rel ht x
 unfold globErr at h
 split at h
 case h_2=>cases h
 rename_i g hx0
 rw[hx0] at hx
 have hv:a.eval x=.pointer (some ⟨g,0,none⟩):=hx
 split at h
 case h_2=>cases h
 rename_i hgl
 cases hb:decide (ti.ty=.err) with
 | false=>rw[hb] at h;cases h
 | true=>
  rw[hb,cond_true,Option.some.injEq] at h
  subst h
  have hty:=of_decide_eq_true hb
  obtain ⟨T',fz,t,y,h1⟩:=look_globE (hC.gl hcore) hgl
  have hld:=run_loadVar_cells (w:=w) (p:=⟨g,0,none⟩) (cs:=[.iface t y]) (hC.tb T ti hti) (by rw[hty];rfl) (fun j u hj=>by
   rw[add_lit,World.cell?]
   simp only[h1,Option.isSome_none,Bool.false_eq_true,if_false]
   simpa using hj)
  rw[hty] at hld
  have hp:packV .err [Value.iface t y]=.iface t y:=rfl
  rw[hp] at hld
  refine .here hdf hcore ht (v:=.iface t y) ?_ ⟨[.iface t y],.inr ⟨by simp,t,y,rfl,fun T k h=>by cases h⟩,rfl⟩
  simp only[execOp,ho,hv,Instr.loadAt,Instr.sureAddr,Sem.run_bind,Sem.run_pure,Result.andThen_ok,hld]
theorem ok_makeIf {C:Cfg} (hC:CfgOk P C w0 Mo F0) (hr:Rel w0 Mo F0 s a w) {o:Oper} {T x lv} (ho:o.op=.makeInterface T x) (h:makeIf C T (s.opd x)=some lv):OpOk P w0 Mo F0 o a w lv s:=by
 obtain ⟨hdf,F,L,hcore,ht⟩:=hr
 have hx:=opd_rel ht x
 unfold makeIf at h
 split at h
 ·rename_i n hx0
  rw[hx0] at hx
  obtain ⟨cs,hrep,hv⟩:=hx
  have hcs:cs=[.int .i64 n]:=hrep
  subst hcs
  have hv':a.eval x=.int .i64 n:=hv
  split at h
  case h_2=>cases h
  rename_i ti hti
  cases hb:decide (ti.ty=.int .i64) with
  | false=>rw[hb] at h;cases h
  | true=>
   rw[hb,cond_true,Option.some.injEq] at h
   subst h
   have hd:=(hC.tb T ti hti).desc
   unfold DescOk at hd
   rw[of_decide_eq_true hb] at hd
   refine .here hdf hcore ht (v:=.iface T (.int .i64 n)) ?_ ⟨[.iface T (.int .i64 n)],.inr ⟨by simp,T,_,rfl,fun T' k h=>by cases h;exact ⟨rfl,rfl⟩⟩,rfl⟩
   simp only[execOp,ho,hv',Instr.makeInterface,Sem.run_bind,run_underlying hd,Result.andThen_ok,Sem.run_pure]
 ·rename_i r i j hx0
  rw[hx0] at hx
  cases hb:C.pts.contains T with
  | false=>rw[hb] at h;cases h
  | true=>
   rw[hb,cond_true,Option.some.injEq] at h
   subst h
   obtain ⟨e,hd⟩:=hC.pts T hb
   refine .here hdf hcore ht (v:=.iface T (a.eval x)) ?_ ⟨[.iface T (a.eval x)],.inr ⟨by simp,T,_,rfl,fun T' k h=>by cases h⟩,rfl⟩
   simp only[execOp,ho,Instr.makeInterface,Sem.run_bind,run_underlying hd,Result.andThen_ok,Sem.run_pure]
 ·cases h
theorem ok_strBytes {tb:List (Nat × TI)} (hT:CfgTb P tb) (hr:Rel w0 Mo F0 s a w) {o:Oper} {src dst x tis ti} {b:ByteArray} (ho:o.op=.convert src dst x) (hts:look tb src=some tis) (htd:look tb dst=some ti) (h1:tis.ty=.str) (h2:ti.ty=.slice (.int .u8)) (hx0:s.opd x=.val .str b) :
  OpOk P w0 Mo F0 o a w (.val (.slice (.int .u8)) (bytesI b)) s:=by
 obtain ⟨hd,F,L,hcore,ht⟩:=hr
 have hx:=opd_rel ht x
 rw[hx0] at hx
 obtain ⟨cs,hrep,hv⟩:=hx
 have hcs:cs=[.string b]:=hrep
 subst hcs
 have hv':a.eval x=.string b:=hv
 have hs:=(hT src tis hts).desc
 unfold DescOk at hs
 rw[h1] at hs
 have hdd:=(hT dst ti htd).desc
 unfold DescOk at hdd
 rw[h2] at hdd
 obtain ⟨hu,ei,hei,hety⟩:=hdd
 have he:=(hT _ ei hei).desc
 unfold DescOk at he
 rw[hety] at he
 have hrun:(execOp a.eval o).run P w=.ok (.value (.slice (some ⟨w.heap.size,0,none⟩) b.size (grownCap w b.size 0 ti.elem))) (Lib.bytesWorld w ti.elem b):=by
  simp only[execOp,ho,hv',Sem.run_bind,Lib.run_convert_string_bytes w src dst ti.elem b hs hu he]
  rfl
 have hold:∀k,k<w.heap.size→(Lib.bytesWorld w ti.elem b).heap[k]?=w.heap[k]?:=fun k hk=>Lib.bytesWorld_at_old w ti.elem b k hk
 have hsz:=Lib.bytesWorld_size w ti.elem b
 have hF:∀c,F c→(Lib.bytesWorld w ti.elem b).heap[c]?=w.heap[c]?:=fun c hc=>hold c (hcore.fr c hc).1
 have go:Goes w (Lib.bytesWorld w ti.elem b) F (fun c=>F c∨c=w.heap.size) L L s.roots s.roots:=⟨fun _ h=>.inl h,hF,fun r _=>⟨rfl,Compat.refl _⟩⟩
 have hlen:(bytesI b).length=b.size:=by unfold bytesI;rw[List.length_map,Array.length_toList];rfl
 have hos:(Lib.bytesWorld w ti.elem b).os=w.os∧(Lib.bytesWorld w ti.elem b).tape=w.tape∧(Lib.bytesWorld w ti.elem b).output=w.output:=by
  unfold Lib.bytesWorld World.freeze
  rw[if_neg (by decide)]
  exact ⟨rfl,rfl,rfl⟩
 refine .value hrun ⟨hd,fun c=>F c∨c=w.heap.size,L,⟨hcore.evol.trans hos.1 hos.2.1 hos.2.2 (by omega) fun k hk _=>hold k (Nat.lt_of_lt_of_le hk hcore.evol.size),fun c h=>.inl (hcore.f0 c h),fun c h=>?_,fun r h g hg=>?_,hcore.apart,fun r=>?_,hcore.kp⟩,ht.mono fun _ _ h=>h.goes go,?_⟩
 ·rcases h with h | rfl
  ·exact ⟨by have:=(hcore.fr c h).1;omega,(hcore.fr c h).2⟩
  ·exact ⟨by omega,.inr (.inl hcore.evol.size)⟩
 ·have:=hcore.live r h g hg
  exact ⟨by rintro (h1 | rfl);exact this.1 h1;exact absurd this.2.1 (Nat.lt_irrefl _),by omega,this.2.2⟩
 ·exact (hcore.roots r).goes go fun hl k hk=>hold k (hcore.live r hl k hk).2.1
 ·refine ⟨[.slice (some ⟨w.heap.size,0,none⟩) (bytesI b).length (grownCap w b.size 0 ti.elem)],⟨_,_,(bytesI b).map (Value.int .u8),rfl,by rw[hlen];exact grownCap_ge w b.size 0 ti.elem,(fun h=>by cases h),?_,fun _=>⟨_,rfl,.inr rfl,fun j u hj=>?_⟩⟩,by rw[hlen];rfl⟩
  ·have:∀l:List Int,RepL (Rep (Lib.bytesWorld w ti.elem b) (fun c=>F c∨c=w.heap.size) (.int .u8)) l (l.map (Value.int .u8)):=by
    intro l
    induction l with
    | nil=>rfl
    | cons n l ih=>exact ⟨[.int .u8 n],l.map (Value.int .u8),rfl,rfl,ih⟩
   exact this _
  ·rw[List.getElem?_map,Option.map_eq_some_iff] at hj
   obtain ⟨n,hn,rfl⟩:=hj
   have hjl:j<b.size:=by rw[←hlen];exact (List.getElem?_eq_some_iff.1 hn).1
   rw[add_lit,Nat.zero_add,Lib.bytesWorld_cell w ti.elem b j hjl]
   unfold bytesI at hn
   rw[List.getElem?_map,Option.map_eq_some_iff] at hn
   obtain ⟨c,hc,rfl⟩:=hn
   rw[List.getD_eq_getElem?_getD,hc]
   rfl
theorem ok_globIx {C:Cfg} (hC:CfgOk P C w0 Mo F0) (hr:Rel w0 Mo F0 s a w) {o:Oper} {T x i lv} (ho:o.op=.indexAddr T x i) (h:(globIx C T (s.opd x) (s.opd i)).To lv):OpOk P w0 Mo F0 o a w lv s:=by
 obtain ⟨hdf,F,L,hcore,ht⟩:=hr
 have hx:=opd_rel ht x
 have hi:=opd_rel ht i
 unfold globIx at h
 split at h
 case h_2=>exact h.elim
 rename_i g k n hx0 hi0
 rw[hx0] at hx
 rw[hi0] at hi
 have hv:a.eval x=.pointer (some ⟨g,0,none⟩):=hx
 have hiv:=int_of hi
 split at h
 case h_2=>exact h.elim
 rename_i ai u hai hgl
 cases hb:decide (u.e=ai.e)&&Nat.beq u.xs.length ai.n with
 | false=>rw[hb] at h;exact h.elim
 | true=>
  rw[hb,cond_true] at h
  rw[Bool.and_eq_true,decide_eq_true_eq,Nat.beq_eq] at hb
  rcases h with ⟨h0,⟨h1,h⟩ | ⟨_,h⟩⟩ | ⟨_,h⟩
  case inl.inr=>exact h.elim
  case inr=>exact h.elim
  cases h
  have ha:=hC.ar T ai hai
  obtain ⟨hF,flat,T',fz,g1,g2⟩:=look_glob (hC.gl hcore) hgl
  obtain ⟨q,hq,hsz⟩:=ha.elem
  have hs:(sizeOf ai.E).run P w=.ok ai.e.size w:=by simp[sizeOf,typeInfo,hq,hsz]
  refine .here hdf hcore ht (v:=.pointer (some ((⟨g,0,none⟩:Addr).add (n.toNat*ai.e.size)))) ?_ ⟨_,flat.toList,rfl,by omega,size_pos _,g2,by rw[add_block];exact hF,fun m v hm=>?_⟩
  ·have h0':(0:Int)≤n:=h0
   have h1':n<(ai.n:Int):=h1
   simp[execOp,ho,hv,hiv,Instr.indexAt,Instr.sureAddr,asIntOf,run_underlying ha.under,h0',h1',hs]
  ·rw[add_add,add_lit,World.cell?]
   simp only[g1,Option.isSome_none,Bool.false_eq_true,if_false]
   rw[←hm,←hb.1]
   simp
theorem ok_arrIx {C:Cfg} (hC:CfgOk P C w0 Mo F0) (hr:Rel w0 Mo F0 s a w) {o:Oper} {T x i lv} (ho:o.op=.index T x i) (h:(arrIx C T (s.opd x) (s.opd i)).To lv):OpOk P w0 Mo F0 o a w lv s:=by
 obtain ⟨hdf,F,L,hcore,ht⟩:=hr
 have hx:=opd_rel ht x
 have hi:=opd_rel ht i
 unfold arrIx at h
 split at h
 case h_2=>exact h.elim
 rename_i e xs k n hx0 hi0
 rw[hx0] at hx
 rw[hi0] at hi
 obtain ⟨flat,hv,hrep⟩:=hx
 have hiv:=int_of hi
 split at h
 case h_2=>exact h.elim
 rename_i ai hai
 cases hb0:decide (e=ai.e) with
 | false=>rw[hb0] at h;exact h.elim
 | true=>
  rw[hb0,cond_true] at h
  rw[decide_eq_true_eq] at hb0
  rcases h with ⟨hb1,h⟩ | ⟨_,h⟩
  case inr=>exact h.elim
  have hb:e=ai.e∧xs.length=ai.n:=⟨hb0,hb1⟩
  rcases h with ⟨h0,⟨h1,h⟩ | ⟨_,h⟩⟩ | ⟨_,h⟩
  case inl.inr=>exact h.elim
  case inr=>exact h.elim
  cases h
  have ha:=hC.ar T ai hai
  have hat:=RepL.at (repLen w F e) n.toNat e.zero hrep (by omega)
  have hp:e.isPair=false:=by rw[hb.1];exact ha.one
  have hs1:e.size=1:=by cases e <;> first | rfl | cases hp
  obtain ⟨q,hq,hsz⟩:=ha.elem
  have hs:(sizeOf ai.E).run P w=.ok ai.e.size w:=by simp[sizeOf,typeInfo,hq,hsz]
  have hc:=packV_one hp hat
  have hl:=Rep.length _ hat
  rw[hs1,Nat.mul_one] at hc hl hat
  have hget:flat[n.toNat]?=some (packV e ((flat.drop n.toNat).take 1)):=by
   have:=congrArg (·[0]?) hc
   simpa [List.getElem?_take,List.getElem?_drop] using this
  refine .here hdf hcore ht (v:=packV e ((flat.drop n.toNat).take 1)) ?_ ⟨_,hat,rfl⟩
  have h0':(0:Int)≤n:=h0
  have h1':n<(ai.n:Int):=h1
  have hes:ai.e.size=1:=by rw[←hb.1];exact hs1
  simp only[execOp,ho,hv,hiv,Instr.index,asIntOf,run_underlying ha.under,Sem.run_bind,Sem.run_pure,Result.andThen_ok,h0',h1',and_self,if_true,hs,part,ha.agg,Bool.false_eq_true,if_false,hes,Nat.mul_one,List.getElem?_toArray,hget]
theorem ok_bldNew {C:Cfg} (hC:CfgOk P C w0 Mo F0) (hr:Rel w0 Mo F0 s a w) {o:Oper} {T ids lv} (ho:o.op=.alloc T) (h:(bldNew C s T ids).To (lv,s')):OpOk P w0 Mo F0 o a w lv s':=by
 obtain ⟨hdf,F,L,hcore,ht⟩:=hr
 unfold bldNew at h
 split at h
 case h_2=>exact h.elim
 rename_i r q E hE
 split at h
 case h_2=>exact h.elim
 rename_i s2 hn
 cases h
 obtain ⟨i,hi,hsz,hby,hz⟩:=(hC.bld T E hE).info
 have hrun:(execOp a.eval o).run P w=.ok (.value (.pointer (some ⟨w.heap.size,0,none⟩))) (w.alloc (.cells #[.pointer none,.slice none 0 0] T)):=by
  simp[execOp,ho,Instr.alloc,zeroValue,typeInfo,hi,hz,newVar,newRow,newObj,Value.cells]
  rfl
 rw[show [(q,Root.row (.int .u8) E []),(r,.box T [.optr r,.own q])]=[(q,Root.row (.int .u8) E [])]++[(r,.box T [.optr r,.own q])] from rfl,news_append,Option.bind_eq_some_iff] at hn
 obtain ⟨s1,hn1,hn2⟩:=hn
 obtain ⟨n1,n2,rfl⟩:=news_one hn1
 have hnew:=(hcore.x (fun _=>False)).new n1 n2 (x:=.row (.int .u8) E []) (v:=.slice none 0 0) (fun go=>⟨[],World.ownsRow_nil ..,rfl⟩) (fun g hg=>by cases hg)
 have c1:=hnew.1.core (fun _ h=>h)
 have hq1:(s.setRoot q (.row (.int .u8) E [])).root q=.row (.int .u8) E []:=by rw[root_set,if_pos ⟨rfl,n1⟩]
 obtain ⟨k1,k2,k3,k4⟩:=c1.alloc hn2 #[.pointer none,.slice none 0 0] T (v:=.pointer (some ⟨w.heap.size,0,none⟩)) (fun g hg=>by cases hg;rfl) (fun w' hw go=>by
  subst hw
  obtain ⟨g1,g2⟩:=go.l q (by show ((s.setRoot q (.row (.int .u8) E [])).root q).isDead=false;rw[hq1];rfl)
  have hq2:(s.setRoot q (.row (.int .u8) E [])).roots.getD q .dead=.row (.int .u8) E []:=hq1
  rw[hq2] at g2
  obtain ⟨ys,g3,_⟩:=g2
  exact ⟨w.heap.size,_,rfl,heap_alloc_new w _,⟨⟨.inl rfl,rfl⟩,⟨⟨by rw[g1,upd_same],_,_,_,g3⟩,rfl⟩,trivial⟩⟩)
 refine .value hrun ⟨hdf,F,_,k1,?_,.inr ⟨T,_,w.heap.size,k3,upd_same ..,rfl,by simp,rfl⟩⟩
 rw[k4]
 exact ht.mono fun _ _ h=>(h.goes hnew.2).goes k2
end Go.Refl
end
section
namespace Go.Refl
open Go Go.RowKit
variable {P:Program} {w0 w w':World} {Mo:Given} {F0 F F':Nat→Prop} {L L':Nat→Value} {s s':St} {a:Act}
theorem isSlice_of {t:Ty} (h:t.isSlice=true):∃e,t=.slice e:=by
 cases t with
 | slice e=>exact ⟨e,rfl⟩
 | _=>cases h
theorem op_ok {C:Cfg} (hC:CfgOk P C w0 Mo F0) {n:Nat} {ids:List Nat} {o:Oper} {lv:LV} (hr:Rel w0 Mo F0 s a w) (h:(opR C n ids o s).To (lv,s')):OpOk P w0 Mo F0 o a w lv s':=by
 unfold opR at h
 split at h
 ·rename_i x ho;cases h;exact ok_move hr (.inl ho)
 ·rename_i x ho;cases h;exact ok_move hr (.inr ho)
 ·rename_i c x y ho
  split at h
  ·rename_i b hb;cases h;exact ok_pick hr ho hb
  ·exact h.elim
 ·rename_i T v ho
  split at h
  ·rename_i ti id hti
   simp only at h
   cases hb:Nat.beq (cellsOf (s.opd v)).length ti.ty.size with
   | false=>rw[hb] at h;exact h.elim
   | true=>rw[hb,cond_true] at h;exact ok_box (ti:=ti.ty) (tb:=C.tb) hr ho (Nat.beq_eq.mp hb) h
  ·rename_i ti hti
   split at h
   ·rename_i u hu
    cases h
    exact ok_box0 (tb:=C.tb) hr ho hu
   ·exact h.elim
  ·exact h.elim
 ·rename_i T ho
  split at h
  ·rename_i ti id hti;exact ok_alloc hC.tb hr ho hti h
  ·exact ok_bldNew hC hr ho h
 ·rename_i T ps ho
  split at h
  ·rename_i ti hti
   split at h
   ·rename_i cs hcs
    cases hp:ti.ty.isPair with
    | false=>rw[hp] at h;exact h.elim
    | true=>rw[hp,cond_true] at h;cases h;exact ok_build hC.tb hr ho hti hp hcs
   ·exact h.elim
  ·exact h.elim
 ·rename_i T len ps ho
  split at h
  ·rename_i ti hti
   split at h
   ·rename_i ei hei
    split at h
    ·rename_i xs hxs
     cases hb:Nat.ble (len*ei.ty.size) 16777216 with
     | false=>rw[hb] at h;exact h.elim
     | true=>
      rw[hb,cond_true] at h
      cases hs:ti.ty.isSlice with
      | false=>rw[hs] at h;exact h.elim
      | true=>
       rw[hs,cond_true] at h
       obtain ⟨e,he⟩:=isSlice_of hs
       have hk:=ok_buildSlice hC.tb hr ho hti he hei hxs (Nat.ble_eq.mp hb)
       split at h
       ·cases h;exact hk.1
       ·exact hk.2 h
       ·exact h.elim
    ·exact h.elim
   ·exact h.elim
  ·exact h.elim
 ·rename_i T p ho
  split at h
  ·rename_i ti hti
   split at h
   ·rename_i v hv;cases h;exact ok_load hC.tb hr ho hti hv
   ·split at h
    ·rename_i v hv;cases h;exact ok_globErr hC hr ho hti hv
    ·exact h.elim
  ·split at h
   ·rename_i v hv;cases h;exact ok_globArr hC hr ho hv
   ·exact h.elim
 ·rename_i T p v ho
  split at h
  ·rename_i ti hti
   split at h
   ·rename_i s1 hs;cases h;exact ok_store hC.tb hr ho hti hs
   ·exact h.elim
  ·exact h.elim
 ·rename_i x ho
  split at h
  ·rename_i r i j hx;cases h;exact ok_nilCheck hr ho hx (.inl ⟨r,i,j,rfl⟩)
  ·rename_i e xs i j hx;cases h;exact ok_nilCheck hr ho hx (.inr ⟨e,xs,i,j,rfl⟩)
  ·exact h.elim
 ·rename_i op t x y t2 ho
  split at h
  ·rename_i v hv;cases h;exact ok_errCmp hC.tb hr ho hv
  ·obtain ⟨v,h1,h2⟩:=Res.bind_to _ h
   cases h2
   exact ok_bin hC.tb hr ho h1
 ·rename_i op t x ho
  split at h
  ·rename_i v hv;cases h;exact ok_un hr ho hv
  ·exact h.elim
 ·rename_i src dst x ho
  split at h
  ·rename_i tis ti k n hts hti hx
   split at h
   ·rename_i k' hk
    cases h
    have hd:=(hC.tb src tis hts).desc
    refine ok_convert (n:=n) hC.tb hr ho hti hk hx ?_
    unfold DescOk at hd
    split at hd
    ·exact ⟨_,hd⟩
    ·exact ⟨_,hd⟩
    ·exact ⟨_,hd⟩
    ·exact ⟨_,hd⟩
    ·exact ⟨_,hd.1⟩
    ·obtain ⟨fs,hd,_⟩:=hd;exact ⟨_,hd⟩
   ·exact h.elim
  ·rename_i si ti b hts hti hx
   cases hb:(decide (si.ty=.str)&&decide (ti.ty=.slice (.int .u8))) with
   | false=>rw[hb] at h;exact h.elim
   | true=>
    rw[hb,cond_true] at h
    rw[Bool.and_eq_true,decide_eq_true_eq,decide_eq_true_eq] at hb
    cases h
    exact ok_strBytes hC.tb hr ho hts hti hb.1 hb.2 hx
  ·exact h.elim
 ·rename_i T x ho
  split at h
  ·rename_i v hv;cases h;exact ok_makeIf hC hr ho hv
  ·exact h.elim
 ·rename_i f first caps ho
  split at h
  ·rename_i hf
   cases hc:(caps.toList.map s.opd).all LV.isCell with
   | false=>rw[hc] at h;exact h.elim
   | true=>rw[hc,cond_true] at h;cases h;exact ok_makeFunc hr ho hf hc
  ·exact h.elim
 ·rename_i T l c ho
  split at h
  ·rename_i ti k1 l k2 c id hti hl hc
   split at h
   ·rename_i ei hei
    cases hs:ti.ty.isSlice with
    | false=>rw[hs] at h;exact h.elim
    | true=>
     rw[hs,cond_true] at h
     obtain ⟨e,he⟩:=isSlice_of hs
     rcases h with ⟨h0,⟨h1,⟨h2,h⟩ | ⟨_,h⟩⟩ | ⟨_,h⟩⟩ | ⟨_,h⟩
     ·exact ok_makeSlice (l:=l) (c:=c) hC.tb hr ho hti he hei hl hc h0 h1 h2 h
     ·exact h.elim
     ·exact h.elim
     ·exact h.elim
   ·exact h.elim
  ·exact h.elim
 ·rename_i t x lo hi mx ho
  split at h
  ·rename_i ti lo' hi' hti hlo hhi
   obtain ⟨v,h1,h2⟩:=Res.bind_to _ h
   cases h2
   exact ok_slice hC.tb hr ho hti hlo hhi h1
  ·rename_i ti m lo' hi' hti hlo hhi
   split at h
   ·rename_i km mv hm
    obtain ⟨v,h1,h2⟩:=Res.bind_to _ h
    cases h2
    exact ok_slice3 (lo':=lo') (hi':=hi') hC.tb hr ho hti hlo hhi hm h1
   ·exact h.elim
  ·exact h.elim
 ·rename_i T x f ho
  split at h
  ·rename_i ti hti
   split at h
   ·rename_i v hv;cases h;exact ok_fieldAddr hC.tb hr ho hti hv
   ·exact h.elim
  ·exact h.elim
 ·rename_i t x i ho
  split at h
  ·rename_i ti hti
   obtain ⟨v,h1,h2⟩:=Res.bind_to _ h
   cases h2
   exact ok_indexAddr hC.tb hr ho hti h1
  ·obtain ⟨v,h1,h2⟩:=Res.bind_to _ h
   cases h2
   exact ok_globIx hC hr ho h1
 ·rename_i t x i ho
  split at h
  ·rename_i ti hti
   cases hb:decide (ti.ty=.str) with
   | false=>rw[hb] at h;exact h.elim
   | true=>
    rw[hb,cond_true] at h
    obtain ⟨v,h1,h2⟩:=Res.bind_to _ h
    cases h2
    have hd:=(hC.tb t ti hti).desc
    unfold DescOk at hd
    rw[of_decide_eq_true hb] at hd
    exact ok_index hr hd ho h1
  ·obtain ⟨v,h1,h2⟩:=Res.bind_to _ h
   cases h2
   exact ok_arrIx hC hr ho h1
 ·rename_i t k ho
  split at h
  ·rename_i vs hvs
   split at h
   ·rename_i v hv;cases h;exact ok_extract hr ho hvs hv
   ·exact h.elim
  ·exact h.elim
 ·rename_i c ho
  split at h
  ·rename_i b hcal
   obtain ⟨callee,cargs,cts⟩:=c
   simp only at hcal h
   subst hcal
   unfold builtinR at h
   split at h
   ·rename_i v hargs
    split at h
    ·rename_i t hts
     split at h
     ·rename_i ti hti
      split at h
      ·rename_i n hn
       cases h
       obtain ⟨x,hx⟩:∃x,cargs=#[x]:=by
        have:cargs.toList.length=1:=by have:=congrArg List.length hargs;simpa using this
        obtain ⟨l⟩:=cargs
        match l,this with
        | [x],_=>exact ⟨x,rfl⟩
       subst hx
       have hts':cts=#[t]:=Array.toList_inj.1 hts
       subst hts'
       simp only[List.map_cons,List.map_nil,List.cons.injEq,and_true] at hargs
       rw[←hargs] at hn
       exact ok_len hC.tb hr ho hti hn
      ·exact h.elim
     ·exact h.elim
    ·exact h.elim
   ·rename_i k m k' n hargs
    cases h
    obtain ⟨x,y,hxy⟩:∃x y,cargs=#[x,y]:=by
     have:cargs.toList.length=2:=by have:=congrArg List.length hargs;simpa using this
     obtain ⟨l⟩:=cargs
     match l,this with
     | [x,y],_=>exact ⟨x,y,rfl⟩
    subst hxy
    simp only[List.map_cons,List.map_nil,List.cons.injEq,and_true] at hargs
    exact ok_minmax (m:=m) (n:=n) hr ho rfl rfl (.inl rfl) hargs.1 hargs.2
   ·rename_i k m k' n hargs
    cases h
    obtain ⟨x,y,hxy⟩:∃x y,cargs=#[x,y]:=by
     have:cargs.toList.length=2:=by have:=congrArg List.length hargs;simpa using this
     obtain ⟨l⟩:=cargs
     match l,this with
     | [x,y],_=>exact ⟨x,y,rfl⟩
    subst hxy
    simp only[List.map_cons,List.map_nil,List.cons.injEq,and_true] at hargs
    exact ok_minmax (m:=m) (n:=n) hr ho rfl rfl (.inr rfl) hargs.1 hargs.2
   ·rename_i va vx hargs
    split at h
    ·rename_i t t' hts
     cases hb:Nat.beq t t' with
     | false=>rw[hb] at h;exact h.elim
     | true=>
      rw[hb,cond_true] at h
      have htt:=Nat.beq_eq.mp hb
      subst htt
      split at h
      ·rename_i ti id hti
       split at h
       ·rename_i ei hei
        cases hs:ti.ty.isSlice with
        | false=>rw[hs] at h;exact h.elim
        | true=>
         rw[hs,cond_true] at h
         obtain ⟨e,he⟩:=isSlice_of hs
         split at h
         ·rename_i ys hys
          obtain ⟨x,y,hxy⟩:∃x y,cargs=#[x,y]:=by
           have:cargs.toList.length=2:=by have:=congrArg List.length hargs;simpa using this
           obtain ⟨l⟩:=cargs
           match l,this with
           | [x,y],_=>exact ⟨x,y,rfl⟩
          subst hxy
          have hts':cts=#[t,t]:=Array.toList_inj.1 hts
          subst hts'
          simp only[List.map_cons,List.map_nil,List.cons.injEq,and_true] at hargs
          obtain ⟨rfl,rfl⟩:=hargs
          exact ok_append hC.tb hr ho hti hei he hys h
         ·exact h.elim
       ·exact h.elim
      ·rename_i ti hti
       split at h
       ·rename_i ei hei
        cases hs:ti.ty.isSlice with
        | false=>rw[hs] at h;exact h.elim
        | true=>
         rw[hs,cond_true] at h
         obtain ⟨e,he⟩:=isSlice_of hs
         split at h
         ·rename_i ys hys
          obtain ⟨x,y,hxy⟩:∃x y,cargs=#[x,y]:=by
           have:cargs.toList.length=2:=by have:=congrArg List.length hargs;simpa using this
           obtain ⟨l⟩:=cargs
           match l,this with
           | [x,y],_=>exact ⟨x,y,rfl⟩
          subst hxy
          have hts':cts=#[t,t]:=Array.toList_inj.1 hts
          subst hts'
          simp only[List.map_cons,List.map_nil,List.cons.injEq,and_true] at hargs
          obtain ⟨rfl,rfl⟩:=hargs
          exact ok_appendIn hC.tb hr ho hti hei he hys h
         ·exact h.elim
       ·exact h.elim
      ·exact h.elim
    ·exact h.elim
   ·rename_i va hargs
    split at h
    ·rename_i t hts
     split at h
     ·rename_i ti hti
      split at h
      ·rename_i ei hei
       cases hs:ti.ty.isSlice with
       | false=>rw[hs] at h;exact h.elim
       | true=>
        rw[hs,cond_true] at h
        obtain ⟨e,he⟩:=isSlice_of hs
        obtain ⟨x,hx⟩:∃x,cargs=#[x]:=by
         have:cargs.toList.length=1:=by have:=congrArg List.length hargs;simpa using this
         obtain ⟨l⟩:=cargs
         match l,this with
         | [x],_=>exact ⟨x,rfl⟩
        subst hx
        have hts':cts=#[t]:=Array.toList_inj.1 hts
        subst hts'
        simp only[List.map_cons,List.map_nil,List.cons.injEq,and_true] at hargs
        rw[←hargs] at h
        have:lv=.tup []:=by
         unfold clearR at h
         split at h
         ·cases h;rfl
         ·split at h
          ·split at h
           ·cases h;rfl
           ·exact h.elim
          ·exact h.elim
         ·split at h
          ·split at h
           ·cases h;rfl
           ·exact h.elim
          ·exact h.elim
         ·exact h.elim
        subst this
        exact ok_clear hC.tb hr ho hti hei he h
      ·exact h.elim
     ·exact h.elim
    ·exact h.elim
   ·exact h.elim
  ·rename_i fo hcal
   split at h
   ·rename_i f caps hfo
    split at h
    ·rename_i g hg
     cases hb:(c.args.toList.map s.opd).all LV.noTup with
     | false=>rw[hb] at h;exact h.elim
     | true=>
      rw[hb,cond_true] at h
      obtain ⟨h1,h2⟩:=hC.tab _ _ _ hg
      exact ok_callF h1 (fun _ _ hc=>hC.gl hc) h2 hr ho hcal hfo h hb
    ·exact h.elim
   ·exact h.elim
  ·exact h.elim
 ·exact h.elim
end Go.Refl
end
section
namespace Go.Refl
open Go Go.RowKit
variable {P:Program} {w0 w w':World} {Mo:Given} {F0 F F':Nat→Prop} {L L':Nat→Value} {s s':St} {a:Act}
theorem split_rel {rs:List Root} {b:Nat} {lv lv':LV} {v:Value} (h:(splitR b lv).To lv') (hv:VRel w F L rs lv v):VRel w F L rs lv' v:=by
 unfold splitR at h
 split at h
 ·rename_i x
  have hb:=bool_of hv
  rcases h with ⟨h1,h⟩ | ⟨h1,h⟩
  ·cases h;rw[hb,h1];exact of_bool
  ·cases h
   have:x=false:=by simpa using h1
   rw[hb,this];exact of_bool
 ·rename_i c d neg
  have hb:v=.bool (bif neg then !(@decide c d) else @decide c d):=hv
  rcases h with ⟨h1,h⟩ | ⟨h1,h⟩
  ·cases h
   have:@decide c d=true:=@decide_eq_true c d h1
   rw[hb,this]
   cases neg <;> exact of_bool
  ·cases h
   have:@decide c d=false:=@decide_eq_false c d h1
   rw[hb,this]
   cases neg <;> exact of_bool
 ·obtain ⟨y,h1,h⟩:=h
  rw[veilO_eq] at h1
  cases h1;cases h;exact hv
 ·cases h;exact hv
theorem tmp_of (ht:All2 (VRel w F L s.roots) s.tmps a.tmps.toList) {d:Nat} {lv:LV} (h:s.get d=lv) (hne:lv≠.undef):∃v,a.tmps[d]?=some v∧VRel w F L s.roots lv v:=by
 unfold St.get at h
 rw[List.getD_eq_getElem?_getD] at h
 cases hg:s.tmps[d]? with
 | none=>rw[hg] at h;exact absurd h.symm hne
 | some x=>
  rw[hg] at h
  obtain ⟨v,h1,h2⟩:=ht.get d x hg
  simp only[Option.getD_some] at h
  subst h
  exact ⟨v,by rw[←Array.getElem?_toList];exact h1,h2⟩
theorem wanted_ok {ops:Array Oper} (ht:All2 (VRel w F L s.roots) s.tmps a.tmps.toList) {o:Oper} {b:Bool} (h:wantedV (ops.toList.map (·.dst)) s o=some b):Region.wanted o (yielded ops a.tmps)=b:=by
 unfold wantedV at h
 split at h
 ·rename_i hg;cases h;simp[Region.wanted,hg]
 ·rename_i j wnt hg
  split at h
  ·rename_i d hd
   have hdst:∃oj,ops[j]?=some oj∧oj.dst=some d:=by
    simp only[List.getElem?_map,Option.map_eq_some_iff] at hd
    obtain ⟨oj,h1,h2⟩:=hd
    exact ⟨oj,by rw[←Array.getElem?_toList];exact h1,h2⟩
   obtain ⟨oj,hj,hjd⟩:=hdst
   split at h
   ·rename_i hs
    cases h
    obtain ⟨v,h1,h2⟩:=tmp_of ht hs (by simp)
    have hb:=bool_of h2
    subst hb
    cases b <;> simp[Region.wanted,hg,yielded,hj,hjd,h1]
   ·rename_i hs
    cases h
    obtain ⟨v,h1,h2⟩:=tmp_of ht hs (by simp)
    have hb:=bool_of h2
    subst hb
    cases wnt <;> simp[Region.wanted,hg,yielded,hj,hjd,h1]
   ·rename_i hs
    cases h
    obtain ⟨v,h1,h2⟩:=tmp_of ht hs (by simp)
    obtain ⟨cs,h3,h4⟩:=h2
    have:cs=[]:=by cases cs <;> first | rfl | exact h4.elim
    subst this
    subst h3
    simp[Region.wanted,hg,yielded,hj,hjd,h1]
   ·cases h
  ·cases h
def StepTo (C:Cfg) (n:Nat) (ids:List Nat) (dsts:List (Option Nat)) (sp:Nat) (o:Oper) (s s':St):Prop:=
 (wantedV dsts s o=some true∧∃p v,(opR C n ids o s).To p∧(splitR sp p.1).To v∧s'=p.2.put o.dst v)∨(wantedV dsts s o=some false∧s'=s.put o.dst (.tup []))
def stepK (C:Cfg) (n:Nat) (ids:List Nat) (dsts:List (Option Nat)) (s:St) (o:Oper):Nat × List Nat × List Nat:=
 match wantedV dsts s o with
 | some true=>tag C n ids s o
 | _=>(0,[],[])
theorem opsR_cons {C:Cfg} {n:Nat} {ids:List (Nat × List Nat)} {dsts:List (Option Nat)} {dr:Option (List Oper)} {o:Oper} {rest:List Oper} {i:Nat} {ks:List (Nat × List Nat × List Nat)} (h:(opsR C n ids dsts dr (o::rest) i ks s).To s') :
  ∃s1,StepTo C n (opIds ids o i) dsts (spl (usesGuard i rest) (opIds ids o i)) o s s1∧(opsR C n ids dsts dr rest (i+1) (stepK C n (opIds ids o i) dsts s o::ks) s1).To s':=by
 simp only[opsR] at h
 split at h
 ·rename_i hw
  obtain ⟨p,hp,h⟩:=Res.bind_to _ h
  obtain ⟨v,hv,h⟩:=Res.bind_to _ h
  refine ⟨_,.inl ⟨hw,p,v,hp,hv,rfl⟩,?_⟩
  rw[show stepK C n (opIds ids o i) dsts s o=tag C n (opIds ids o i) s o by unfold stepK;rw[hw]]
  exact h
 ·rename_i hw
  refine ⟨_,.inr ⟨hw,rfl⟩,?_⟩
  rw[show stepK C n (opIds ids o i) dsts s o=(0,[],[]) by unfold stepK;rw[hw]]
  exact h
 ·exact h.elim
theorem undef_rel {rs:List Root}:VRel w F L rs (.tup []) undef:=⟨[],rfl,trivial⟩
theorem step_ok {C:Cfg} (hC:CfgOk P C w0 Mo F0) {n:Nat} {ids:List Nat} {ops:Array Oper} {sp:Nat} {o:Oper} {Q:Exit→Act→World→Prop} {j:Nat} {rest:List Nat} (hr:Rel w0 Mo F0 s a w) (ho:ops[j]?=some o)
  (h:StepTo C n ids (ops.toList.map (·.dst)) sp o s s') (hk:∀a' w',Rel w0 Mo F0 s' a' w'→wpOps P ops Q rest a' w'):wpOps P ops Q (j::rest) a w:=by
 simp only[wpOps,ho]
 obtain ⟨hd,F,L,hc,ht⟩:=hr
 rcases h with ⟨hw,p,v,h1,h2,rfl⟩ | ⟨hw,rfl⟩
 ·rw[if_pos (wanted_ok ht hw)]
  left
  refine op_ok hC ⟨hd,F,L,hc,ht⟩ (lv:=p.1) (s':=p.2) h1 _ _ fun v' w' hv'=>hk _ _ ?_
  obtain ⟨hd',F',L',hc',ht',hv''⟩:=hv'
  exact RelV.put ⟨hd',F',L',hc',ht',split_rel h2 hv''⟩ o.dst
 ·rw[if_neg (by rw[wanted_ok ht hw];simp)]
  exact hk _ _ (RelV.put ⟨hd,F,L,hc,ht,undef_rel⟩ o.dst)
theorem keepAt_rel {R R':LV→Value→Prop} {f:LV→LV} (hf:∀lv v,R lv v→R' (f lv) v) (hu:∀v,R' .undef v) (live:List Nat):∀(i:Nat) {lvs:List LV} {vs:List Value},All2 R lvs vs→All2 R' (keepAt live f i lvs) vs
 | _,[],[],_=>trivial
 | i,lv::lvs,v::vs,h=>by
  refine ⟨?_,keepAt_rel hf hu live (i+1) h.2⟩
  cases live.contains i with
  | true=>exact hf _ _ h.1
  | false=>exact hu v
 | _,[],_::_,h=>h.elim
 | _,_::_,[],h=>h.elim
theorem Lent.freeze {l:List Nat}:True:=trivial
theorem CRel.thaw (hc:Core w0 Mo F0 F L s w) {l:List Nat} {rs':List Root} {Fn:Nat→Prop} (hF:∀b,F b→Fn b) (hl:∀r ∈ l,(∃e E xs,s.root r=.row e E xs)→∀g,lblk (L r)=some g→Fn g)
  (hrs:∀r,(l.contains r=false∨∃T cs,s.root r=.box T cs)→(s.root r).isDead=false→Compat (s.root r) (rs'.getD r .dead)) {lv v} (h:CRel w F L s.roots lv v):CRel w Fn L rs' (lv.thaw s l) v:=by
 have go:∀lv:LV,CRel w F L s.roots lv v→(∀r,(lv=.own r∨(∃lo n,lv=.sub r lo n)∨(∃i j,lv=.ptr r i j))→l.contains r=false∨∃T cs,s.root r=.box T cs)→CRel w Fn L rs' lv v:=by
  intro lv h hm
  cases lv with
  | undef=>trivial
  | val t x=>obtain ⟨cs,h1,h2⟩:=h;exact ⟨cs,h1.mono hF (fun _ _=>rfl),h2⟩
  | dec c d neg=>exact h
  | nilq c d=>exact h
  | nils=>exact h
  | own r=>
   obtain ⟨h1,e,E,xs,h2⟩:=h
   have:=hrs r (hm r (.inl rfl)) (not_dead h2)
   rw[show s.root r=.row e E xs from h2] at this
   obtain ⟨ys,g3,_⟩:=this
   exact ⟨h1,e,E,ys,g3⟩
  | sub r lo n=>
   obtain ⟨e,E,xs,A,c,A',h2,h3,h4,h5⟩:=h
   have:=hrs r (hm r (.inr (.inl ⟨_,_,rfl⟩))) (not_dead h2)
   rw[show s.root r=.row e E xs from h2] at this
   obtain ⟨ys,g3,g4⟩:=this
   exact ⟨e,E,ys,A,c,A',g3,by rw[h3,g4],by omega,h5⟩
  | ptr r i j=>
   rcases h with ⟨e,E,xs,gg,n,c,h2,h3,h4,h5,h6⟩ | ⟨T,cs,gg,h2,h3,h4,h5,h6⟩
   ·have:=hrs r (hm r (.inr (.inr ⟨_,_,rfl⟩))) (not_dead h2)
    rw[show s.root r=.row e E xs from h2] at this
    obtain ⟨ys,g3,g4⟩:=this
    exact .inl ⟨e,E,ys,gg,n,c,g3,h3,by omega,h5,h6⟩
   ·have:=hrs r (hm r (.inr (.inr ⟨_,_,rfl⟩))) (not_dead' h2)
    rw[show s.root r=.box T cs from h2] at this
    obtain ⟨ys,g3,g4⟩:=this
    exact .inr ⟨T,ys,gg,g3,h3,h4,by omega,h6⟩
  | vptr e xs i j=>
   obtain ⟨p,flat,h1,h2,h3,h4,h5,h6⟩:=h
   exact ⟨p,flat,h1,h2,h3,h4.mono fun _ _ h=>h.mono hF (fun _ _=>rfl),hF _ h5,h6⟩
  | optr r=>
   rcases h with h | ⟨h1,T,cs,gg,h2,h3⟩
   ·exact .inl h
   ·have:=hrs r (.inr ⟨T,cs,h2⟩) (not_dead' h2)
    rw[show s.root r=.box T cs from h2] at this
    obtain ⟨ys,g3,_⟩:=this
    exact .inr ⟨h1,T,ys,gg,g3,h3⟩
  | glob g=>exact h
  | garr e xs=>exact h.elim
  | agg vs=>exact h.elim
  | tup vs=>exact h.elim
  | fn f vs=>exact h.elim
 cases lv with
 | own r=>
  show CRel _ _ _ _ (bif l.contains r then (match s.root r with | .row e _ xs=>.val (.slice e) xs | _=>.undef) else .own r) v
  cases hcn:l.contains r with
  | false=>exact go _ h fun q hq=>by rcases hq with hq | ⟨_,_,hq⟩ | ⟨_,_,hq⟩ <;> cases hq;exact .inl hcn
  | true=>
   rw[cond_true]
   obtain ⟨h1,e,E,xs,h2⟩:=h
   have h2':s.root r=.row e E xs:=h2
   rw[h2']
   obtain ⟨A,c,flat,g1,g2,g3,_,g4,g5,g6⟩:=hc.row h2'
   refine ⟨[v],⟨A,c,flat,by rw[h1,g1],g2,fun h=>(g5 h).2,g3.mono fun _ _ h=>h.mono hF (fun _ _=>rfl),fun hn=>?_⟩,rfl⟩
   cases A with
   | none=>
    have h0:=(g5 rfl).1
    rw[h0] at g4
    exact absurd (List.eq_nil_of_length_eq_zero (by simpa using g4)) hn
   | some a=>
    obtain ⟨_,h7,h8⟩:=g6 a rfl
    exact ⟨a,rfl,hl r (List.contains_iff_mem.1 hcn) ⟨e,E,xs,h2'⟩ _ h7,h8⟩
 | sub r lo n=>
  show CRel _ _ _ _ (bif l.contains r then (match s.root r with | .row e _ xs=>.val (.slice e) ((xs.drop lo).take n) | _=>.undef) else .sub r lo n) v
  cases hcn:l.contains r with
  | false=>exact go _ h fun q hq=>by rcases hq with hq | ⟨_,_,hq⟩ | ⟨_,_,hq⟩ <;> cases hq;exact .inl hcn
  | true=>
   rw[cond_true]
   obtain ⟨e,E,xs,A,c,A9,h2,h3,h4,h5,h7,h8,h9⟩:=h
   have h2':s.root r=.row e E xs:=h2
   rw[h2']
   obtain ⟨A',c',flat,g1,g2,g3,_,g4,g5,g6⟩:=hc.row h2'
   rw[h3] at g1
   cases g1
   have hln:((xs.drop lo).take n).length=n:=by simp;omega
   refine ⟨[v],⟨A9,c-lo,(flat.drop (lo*e.size)).take (n*e.size),by rw[h5];exact congrArg (fun q=>[Value.slice A9 q _]) hln.symm,?_,h7,RepL.take (repLen w Fn e) n (RepL.drop (repLen w Fn e) lo (g3.mono fun _ _ h=>h.mono hF (fun _ _=>rfl))),fun hn=>?_⟩,rfl⟩
   ·show ((xs.drop lo).take n).length≤_
    omega
   ·have hnp:0<n*e.size:=by
     rcases Nat.eq_zero_or_pos (n*e.size) with h0 | h0
     ·rw[h0] at hn;simp at hn
     ·exact h0
    have hn0:n≠0:=by rintro rfl;simp at hnp
    cases A with
    | none=>have:=(g5 rfl).1;omega
    | some a=>
     obtain ⟨_,k7,k8⟩:=g6 a rfl
     refine ⟨a.add (lo*e.size),by rw[h9 (by omega)];rfl,by rw[add_block];exact hl r (List.contains_iff_mem.1 hcn) ⟨e,E,xs,h2'⟩ _ k7,fun j u hj=>?_⟩
     rw[add_add]
     apply k8
     rw[List.getElem?_take] at hj
     split at hj
     ·rwa [List.getElem?_drop] at hj
     ·cases hj
 | ptr r i j=>
  show CRel _ _ _ _ (bif l.contains r then (match s.root r with | .row e _ xs=>.vptr e xs i j | .box _ _=>.ptr r i j | _=>.undef) else .ptr r i j) v
  cases hcn:l.contains r with
  | false=>exact go _ h fun q hq=>by rcases hq with hq | ⟨_,_,hq⟩ | ⟨_,_,hq⟩ <;> cases hq;exact .inl hcn
  | true=>
   rw[cond_true]
   rcases h with ⟨e,E,xs,gg,n,c,h2,h3,h4,h5,h6⟩ | ⟨T,cs,gg,h2,h3⟩
   ·have h2':s.root r=.row e E xs:=h2
    rw[h2']
    obtain ⟨A',c',flat,g1,g2,g3,_,g4,g5,g6⟩:=hc.row h2'
    rw[h3] at g1
    cases g1
    obtain ⟨q1,q2,q3⟩:=g6 _ rfl
    refine ⟨_,flat,h6,h4,h5,g3.mono fun _ _ h=>h.mono hF (fun _ _=>rfl),hl r (List.contains_iff_mem.1 hcn) ⟨e,E,xs,h2'⟩ _ q2,fun m u hm=>?_⟩
    have:=q3 _ u hm
    rw[add_lit] at this ⊢
    rw[←this];congr 2;omega
   ·have h2':s.root r=.box T cs:=h2
    rw[h2']
    exact go _ (.inr ⟨T,cs,gg,h2,h3⟩) fun q hq=>by rcases hq with hq | ⟨_,_,hq⟩ | ⟨_,_,hq⟩ <;> cases hq;exact .inr ⟨T,cs,h2'⟩
 | undef=>trivial
 | val t x=>exact go _ h fun q hq=>by rcases hq with hq | ⟨_,_,hq⟩ | ⟨_,_,hq⟩ <;> cases hq
 | dec c d neg=>exact h
 | nilq c d=>exact h
 | nils=>exact h
 | vptr e xs i j=>exact go _ h fun q hq=>by rcases hq with hq | ⟨_,_,hq⟩ | ⟨_,_,hq⟩ <;> cases hq
 | optr r=>
  have h0:=go _ h fun q hq=>by rcases hq with hq | ⟨_,_,hq⟩ | ⟨_,_,hq⟩ <;> cases hq
  show CRel _ _ _ _ (bif l.contains r then (match s.root r with | .box _ _=>.optr r | _=>.undef) else .optr r) v
  cases l.contains r with
  | false=>exact h0
  | true=>
   rw[cond_true]
   cases s.root r with
   | box T cs=>exact h0
   | _=>trivial
 | glob g=>exact h
 | garr e xs=>exact h.elim
 | agg vs=>exact h.elim
 | tup vs=>exact h.elim
 | fn f vs=>exact h.elim
end Go.Refl
end
section
namespace Go.Refl
open Go Go.RowKit
variable {P:Program} {w0 w w':World} {Mo:Given} {F0 F F':Nat→Prop} {L L':Nat→Value} {s s':St} {a:Act}
theorem frozenRoots_get (s:St) (l:List Nat):∀(i:Nat) (rs:List Root) (r:Nat),(frozenRoots s l i rs).getD r .dead=(bif l.contains (i+r) then (match rs.getD r .dead with | .row _ _ _=>.dead | x=>x.thaw s l) else (rs.getD r .dead).thaw s l)
 | i,[],r=>by
  simp only[frozenRoots,List.getD_nil]
  cases l.contains (i+r) <;> rfl
 | i,x::xs,0=>by
  simp only[frozenRoots,List.getD_cons_zero,Nat.add_zero]
  cases l.contains i <;> cases x <;> rfl
 | i,x::xs,r+1=>by
  simp only[frozenRoots,List.getD_cons_succ]
  rw[frozenRoots_get s l (i+1) xs r]
  rw[show i+1+r=i+(r+1) by omega]
theorem frozen_ok (hr:Rel w0 Mo F0 s a w) (l:List Nat):Rel w0 Mo F0 (s.freeze l) a w:=by
 obtain ⟨hd,F,L,hc,ht⟩:=hr
 cases l with
 | nil=>exact ⟨hd,F,L,hc,ht⟩
 | cons q0 l0=>
  generalize hl:q0::l0=l
  have hfz:s.freeze l={ s with tmps:=s.tmps.map (LV.thaws s l),roots:=frozenRoots s l 0 s.roots }:=by rw[←hl];rfl
  rw[hfz]
  have hroot:∀r,(frozenRoots s l 0 s.roots).getD r .dead=(bif l.contains r then (match s.root r with | .row _ _ _=>.dead | x=>x.thaw s l) else (s.root r).thaw s l):=by
   intro r
   have:=frozenRoots_get s l 0 s.roots r
   rw[Nat.zero_add] at this
   exact this
  have hthd:∀x:Root,(x.thaw s l).isDead=x.isDead:=by intro x;cases x <;> rfl
  have hlive:∀r,((frozenRoots s l 0 s.roots).getD r .dead).isDead=false→(s.root r).isDead=false∧(l.contains r=false∨∃T cs,s.root r=.box T cs):=by
   intro r h
   rw[hroot] at h
   cases hcn:l.contains r with
   | false=>rw[hcn,cond_false,hthd] at h;exact ⟨h,.inl rfl⟩
   | true=>
    rw[hcn,cond_true] at h
    cases hx:s.root r with
    | dead=>rw[hx] at h;cases h
    | row e E xs=>rw[hx] at h;cases h
    | box T cs=>exact ⟨rfl,.inr ⟨T,cs,rfl⟩⟩
  have hcomp:∀r,(l.contains r=false∨∃T cs,s.root r=.box T cs)→(s.root r).isDead=false→Compat (s.root r) ((frozenRoots s l 0 s.roots).getD r .dead):=by
   intro r h hd
   rw[hroot]
   cases hcn:l.contains r with
   | false=>
    rw[cond_false]
    cases hx:s.root r with
    | dead=>trivial
    | row e E xs=>exact ⟨xs,rfl,rfl⟩
    | box T cs=>exact ⟨_,rfl,by simp⟩
   | true=>
    rw[cond_true]
    obtain ⟨T,cs,hx⟩:=h.resolve_left (by rw[hcn];simp)
    rw[hx]
    exact ⟨_,rfl,by simp⟩
  let Fn:Nat→Prop:=fun b=>F b∨∃r ∈ l,(∃e E xs,s.root r=.row e E xs)∧lblk (L r)=some b
  have hFn:∀b,F b→Fn b:=fun _ h=>.inl h
  have hl1:∀r ∈ l,(∃e E xs,s.root r=.row e E xs)→∀g,lblk (L r)=some g→Fn g:=fun r h1 h2 g h3=>.inr ⟨r,h1,h2,h3⟩
  have cth:∀lv v,CRel w F L s.roots lv v→CRel w Fn L (frozenRoots s l 0 s.roots) (lv.thaw s l) v:=fun lv v h=>CRel.thaw hc hFn hl1 hcomp h
  have v1:∀lv v,VRel1 w F L s.roots lv v→VRel1 w Fn L (frozenRoots s l 0 s.roots) (lv.thaws s l) v:=by
   intro lv v h
   cases lv with
   | agg vs=>
    obtain ⟨cs,h1,h2⟩:=h
    refine ⟨cs,h1,?_⟩
    have:=h2.map (f:=LV.thaw s l) (g:=id) (R':=Cel w Fn L (frozenRoots s l 0 s.roots)) (fun _ _ h=>⟨cth _ _ h.1,h.2⟩)
    simpa using this
   | fn f vs=>
    obtain ⟨cs,h1,h2⟩:=h
    refine ⟨cs,h1,?_⟩
    have:=h2.map (f:=LV.thaw s l) (g:=id) (R':=CRel w Fn L (frozenRoots s l 0 s.roots)) (fun _ _ h=>cth _ _ h)
    simpa using this
   | tup vs=>exact h.elim
   | undef=>trivial
   | val t x=>exact (cth (.val t x) v h).v1
   | dec c d neg=>exact (cth (.dec c d neg) v h).v1
   | nilq c d=>exact (cth (.nilq c d) v h).v1
   | nils=>exact (cth .nils v h).v1
   | own r=>exact (cth (.own r) v h).v1
   | sub r lo n=>exact (cth (.sub r lo n) v h).v1
   | ptr r i j=>exact (cth (.ptr r i j) v h).v1
   | vptr e xs i j=>exact (cth (.vptr e xs i j) v h).v1
   | optr r=>exact (cth (.optr r) v h).v1
   | glob r=>exact (cth (.glob r) v h).v1
   | garr e xs=>obtain ⟨flat,h1,h2⟩:=h;exact ⟨flat,h1,h2.mono fun _ _ h=>h.mono hFn (fun _ _=>rfl)⟩
  have plain:∀lv v,lv.plain=true→VRel1 w F L s.roots lv v→VRel1 w Fn L (frozenRoots s l 0 s.roots) lv v:=by
   intro lv v hp h
   cases lv with
   | undef=>trivial
   | val t x=>exact v1 (.val t x) v h
   | dec c d neg=>exact v1 (.dec c d neg) v h
   | nilq c d=>exact v1 (.nilq c d) v h
   | nils=>exact v1 .nils v h
   | vptr e xs i j=>exact v1 (.vptr e xs i j) v h
   | glob r=>exact v1 (.glob r) v h
   | garr e xs=>exact v1 (.garr e xs) v h
   | _=>cases hp
  refine ⟨hd,Fn,L,⟨hc.evol,fun b h=>.inl (hc.f0 b h),fun b h=>?_,fun r h g hg=>?_,fun r r' h h'=>hc.apart r r' (hlive r h).1 (hlive r' h').1,fun r=>?_,hc.kp.same rfl fun r h=>(hlive r h).1⟩,?_⟩
  ·rcases h with h | ⟨r,h1,⟨e,E,xs,h2⟩,h3⟩
   ·exact hc.fr b h
   ·have:=hc.live r (not_dead h2) b h3
    exact ⟨this.2.1,.inr this.2.2⟩
  ·obtain ⟨h1,h2⟩:=hlive r h
   have h3:=hc.live r h1 g hg
   refine ⟨?_,h3.2⟩
   rintro (h4 | ⟨q,h4,⟨e,E,xs,h5⟩,h6⟩)
   ·exact h3.1 h4
   ·by_cases e1:q=r
    ·subst e1
     rcases h2 with h2 | ⟨T,cs,h2⟩
     ·rw[List.contains_iff_mem.2 h4] at h2;cases h2
     ·rw[h5] at h2;cases h2
    ·exact hc.apart q r (not_dead h5) h1 e1 g h6 hg
  ·show RootRel w Fn L (frozenRoots s l 0 s.roots) (L r) ((frozenRoots s l 0 s.roots).getD r .dead)
   have h0:=hc.roots r
   have box:∀T cs,s.root r=.box T cs→RootRel w Fn L (frozenRoots s l 0 s.roots) (L r) (.box T (cs.map (LV.thaw s l))):=by
    intro T cs hx
    rw[hx] at h0
    obtain ⟨g,cur,h1,h2,h3⟩:=h0
    refine ⟨g,cur,h1,h2,?_⟩
    have:=h3.map (f:=LV.thaw s l) (g:=id) (R':=Cel w Fn L (frozenRoots s l 0 s.roots)) (fun _ _ h=>⟨cth _ _ h.1,h.2⟩)
    simpa using this
   rw[hroot]
   cases hcn:l.contains r with
   | false=>
    rw[cond_false]
    cases hx:s.root r with
    | dead=>trivial
    | row e E xs=>
     rw[hx] at h0
     obtain ⟨flat,h1,h2⟩:=h0
     exact ⟨flat,h1,h2.mono fun _ _ h=>h.mono hFn (fun _ _=>rfl)⟩
    | box T cs=>exact box T cs hx
   | true=>
    rw[cond_true]
    cases hx:s.root r with
    | dead=>trivial
    | row e E xs=>trivial
    | box T cs=>exact box T cs hx
  ·have:=ht.map (f:=LV.thaws s l) (g:=id) (R':=VRel w Fn L (frozenRoots s l 0 s.roots)) (fun lv v h=>?_)
   ·simpa using this
   ·cases lv with
    | tup vs=>
     obtain ⟨cs,h1,h2⟩:=h
     show VRel _ _ _ _ (bif vs.all LV.plain then .tup vs else .undef) v
     cases hp:vs.all LV.plain with
     | false=>trivial
     | true=>
      refine ⟨cs,h1,?_⟩
      have:∀{vs:List LV} {cs:List Value},vs.all LV.plain=true→All2 (VRel1 w F L s.roots) vs cs→All2 (VRel1 w Fn L (frozenRoots s l 0 s.roots)) vs cs:=by
       intro vs
       induction vs with
       | nil=>intro cs _ h;cases cs <;> first | trivial | exact h.elim
       | cons x vs ih=>
        intro cs hp h
        cases cs with
        | nil=>exact h.elim
        | cons c cs=>
         rw[List.all_cons,Bool.and_eq_true] at hp
         exact ⟨plain _ _ hp.1 h.1,ih hp.2 h.2⟩
      exact this hp h2
    | agg vs=>exact (v1 (.agg vs) v h).v
    | fn f vs=>exact (v1 (.fn f vs) v h).v
    | undef=>trivial
    | val t x=>exact (v1 (.val t x) v h).v
    | dec c d neg=>exact (v1 (.dec c d neg) v h).v
    | nilq c d=>exact (v1 (.nilq c d) v h).v
    | nils=>exact (v1 .nils v h).v
    | own r=>exact (v1 (.own r) v h).v
    | sub r lo n=>exact (v1 (.sub r lo n) v h).v
    | ptr r i j=>exact (v1 (.ptr r i j) v h).v
    | vptr e xs i j=>exact (v1 (.vptr e xs i j) v h).v
    | optr r=>exact (v1 (.optr r) v h).v
    | glob r=>exact (v1 (.glob r) v h).v
    | garr e xs=>exact (v1 (.garr e xs) v h).v
theorem grow_ok:∀(l:List (Nat × Nat × Ty × TypeId)) {s:St},Rel w0 Mo F0 s a w→Rel w0 Mo F0 (s.grow l) a w
 | [],_,h=>h
 | (t,r,e,E)::l,s,h=>by
  simp only[St.grow]
  split
  ·rename_i hg
   split
   ·rename_i s1 hn
    apply grow_ok l
    obtain ⟨hd,F,L,hc,ht⟩:=h
    obtain ⟨n1,n2,rfl⟩:=news_one hn
    have hnew:=(hc.x (fun _=>False)).new n1 n2 (x:=.row e E []) (v:=.slice none 0 0) (fun _=>⟨[],World.ownsRow_nil ..,rfl⟩) (fun g hg=>by cases hg)
    obtain ⟨v,h1,h2⟩:=tmp_of ht hg (by simp)
    have hv:v=.slice none 0 0:=h2
    have hlen:=ht.length
    have hset:a.tmps.toList=a.tmps.toList.set t v:=by
     rw[←Array.getElem?_toList] at h1
     obtain ⟨q1,q2⟩:=List.getElem?_eq_some_iff.1 h1
     rw[←q2,List.set_getElem_self]
    refine ⟨hd,F,_,(hnew.1.core fun _ h=>h).put (some t) (.own r),?_⟩
    rw[hset]
    refine All2.set ?_ (ht.mono fun _ _ h=>h.goes hnew.2) t
    refine ⟨by rw[hv];exact (upd_same ..).symm,e,E,[],?_⟩
    show (s.setRoot r _).root r=_
    rw[root_set,if_pos ⟨rfl,n1⟩]
   ·exact grow_ok l h
  ·exact grow_ok l h
theorem growB_ok:∀(l:List (Nat × Nat × Nat × Ty × TypeId)) {s:St},Rel w0 Mo F0 s a w→Rel w0 Mo F0 (s.growB l) a w
 | [],_,h=>h
 | (t,j,r,e,E)::l,s,h=>by
  simp only[St.growB]
  split
  case h_2=>exact growB_ok l h
  rename_i q hq
  split
  case h_2=>exact growB_ok l h
  rename_i T cs hroot
  split
  case h_2=>exact growB_ok l h
  rename_i hj
  split
  case h_2=>exact growB_ok l h
  rename_i s1 hn
  apply growB_ok l
  obtain ⟨hd,F,L,hc,ht⟩:=h
  obtain ⟨n1,n2,rfl⟩:=news_one hn
  have hnew:=(hc.x (fun _=>False)).new n1 n2 (x:=.row e E []) (v:=.slice none 0 0) (fun _=>⟨[],World.ownsRow_nil ..,rfl⟩) (fun g hg=>by cases hg)
  have hc1:=hnew.1.core fun _ h=>h
  have hlive:(s.root q).isDead=false:=by rw[hroot];rfl
  have hne:q≠r:=by
   rintro rfl
   have:=(free_iff.1 n2).1
   rw[hlive] at this;cases this
  have hroot1:(s.setRoot r (.row e E [])).root q=.box T cs:=by rw[root_set,if_neg (fun h=>hne h.1.symm),hroot]
  have hrr:(s.setRoot r (.row e E [])).root r=.row e E []:=by rw[root_set,if_pos ⟨rfl,n1⟩]
  have hwr:=Core.write (w':=w) hc1 (r:=q) (x:=.box T (cs.set j (.own r))) (by rw[hroot1];rfl) hc1.evol (Nat.le_refl _) (fun _ _=>rfl) (by rw[hroot1];exact ⟨_,rfl,by simp⟩) (fun go=>by
   have hb:=hc1.roots q
   rw[hroot1] at hb
   obtain ⟨g,cur,g1,g2,g3⟩:=hb
   refine ⟨g,cur,g1,g2,?_⟩
   obtain ⟨v,q1,q2⟩:=g3.get j _ hj
   have hv:v=.slice none 0 0:=q2.1
   have hset:cur.toList=cur.toList.set j v:=by
    obtain ⟨p1,p2⟩:=List.getElem?_eq_some_iff.1 q1
    rw[←p2,List.set_getElem_self]
   rw[hset]
   refine All2.set ?_ (g3.mono fun _ _ h=>Cel.goes go h) j
   refine ⟨⟨by rw[hv];exact (upd_same ..).symm,e,E,[],?_⟩,by rw[hv];rfl⟩
   show ((s.setRoot r _).setRoot q _).root r=_
   rw[root_set,if_neg (fun h=>hne h.1),hrr])
  exact ⟨hd,F,_,hwr.1,(ht.mono fun _ _ h=>h.goes hnew.2).mono fun _ _ h=>h.goes hwr.2⟩
end Go.Refl
end
section
namespace Go.Refl
open Go Go.RowKit
variable {P:Program} {w0 w w':World} {Mo:Given} {F0 F F':Nat→Prop} {L L':Nat→Value} {s s':St} {a:Act}
theorem look_mem {α:Type}:∀{m:List (Nat × α)} {r:Nat} {q:α},look m r=some q→(r,q) ∈ m
 | (k,v)::m,r,q,h=>by
  simp only[look] at h
  cases hk:Nat.beq k r with
  | true=>
   rw[hk,cond_true] at h
   cases h
   rw[Nat.eq_of_beq_eq_true hk]
   exact List.mem_cons_self ..
  | false=>
   rw[hk,cond_false] at h
   exact List.mem_cons_of_mem _ (look_mem h)
 | [],_,_,h=>by cases h
def pre:List (Nat × Nat)→Nat→Option Nat
 | [],_=>none
 | (r,q)::m,t=>if q=t then some r else pre m t
theorem pre_some:∀{m:List (Nat × Nat)} {t r},pre m t=some r→(r,t) ∈ m
 | (k,v)::m,t,r,h=>by
  simp only[pre] at h
  split at h
  ·rename_i e;cases h;subst e;exact List.mem_cons_self ..
  ·exact List.mem_cons_of_mem _ (pre_some h)
 | [],_,_,h=>by cases h
theorem pre_of:∀{m:List (Nat × Nat)} {t r},(m.map (·.2)).Nodup→(r,t) ∈ m→pre m t=some r
 | (k,v)::m,t,r,hn,h=>by
  simp only[List.map_cons,List.nodup_cons] at hn
  simp only[pre]
  rcases List.mem_cons.1 h with h | h
  ·cases h;rw[if_pos rfl]
  ·rw[if_neg,pre_of hn.2 h]
   rintro rfl
   exact hn.1 (List.mem_map.2 ⟨(r,v),h,rfl⟩)
 | [],_,_,_,h=>by cases h
theorem renRoots_len (s:St) (m0:List (Nat × Nat)) (k:Nat):∀m,(renRoots s m0 k m).length=k
 | []=>by simp[renRoots]
 | p::m=>by simp[renRoots,renRoots_len s m0 k m]
theorem renRoots_get (s:St) (m0:List (Nat × Nat)) (k:Nat):∀(m:List (Nat × Nat)),(∀p ∈ m,p.2<k)→∀q,(renRoots s m0 k m).getD q .dead=(match pre m q with | some r=>(s.root r).ren m0 | none=>.dead)
 | [],_,q=>by
  simp only[renRoots,pre,List.getD_eq_getElem?_getD,List.getElem?_replicate]
  split <;> rfl
 | (r,t)::m,h,q=>by
  simp only[renRoots,pre]
  by_cases e:t=q
  ·subst e
   rw[if_pos rfl,List.getD_eq_getElem?_getD,List.getElem?_set_self (by rw[renRoots_len];exact h _ (List.mem_cons_self ..))]
   rfl
  ·rw[if_neg e,←renRoots_get s m0 k m (fun p hp=>h p (List.mem_cons_of_mem _ hp)) q,List.getD_eq_getElem?_getD,List.getElem?_set_ne e,←List.getD_eq_getElem?_getD]
theorem renOk_elim {m:List (Nat × Nat)} (h:renOk s m=true):(m.map (·.1)).Nodup∧(m.map (·.2)).Nodup∧(∀p ∈ m,p.2<s.roots.length)∧∀p ∈ m,s.lent.contains p.2=true→p.1=p.2:=by
 simp only[renOk,Bool.and_eq_true,decide_eq_true_eq,List.all_eq_true] at h
 refine ⟨h.1.1,h.1.2,fun p hp=>?_,fun p hp hl=>?_⟩
 ·have:=h.2 p hp
  rw[Nat.blt_eq] at this
  exact this.1
 ·have:=(h.2 p hp).2
  rw[hl] at this
  simpa using this
theorem nodup_fst {α β:Type} {m:List (α × β)} (h:(m.map (·.1)).Nodup) {r:α} {p q:β} (h1:(r,p) ∈ m) (h2:(r,q) ∈ m):p=q:=by
 induction m with
 | nil=>cases h1
 | cons x m ih=>
  simp only[List.map_cons,List.nodup_cons] at h
  rcases List.mem_cons.1 h1 with e1 | e1 <;> rcases List.mem_cons.1 h2 with e2 | e2
  ·rw[←e1] at e2;cases e2;rfl
  ·subst e1;exact (h.1 (List.mem_map.2 ⟨_,e2,rfl⟩)).elim
  ·subst e2;exact (h.1 (List.mem_map.2 ⟨_,e1,rfl⟩)).elim
  ·exact ih h.2 e1 e2
theorem ren_ok {live:List Nat} {m:List (Nat × Nat)} (hm:renOk s m=true) (hr:Rel w0 Mo F0 s a w):Rel w0 Mo F0 (s.ren live m) a w:=by
 obtain ⟨h1,h2,h3,h5⟩:=renOk_elim hm
 obtain ⟨hd,F,L,hc,ht⟩:=hr
 let Ln:Nat→Value:=fun q=>match pre m q with | some r=>L r | none=>undef
 have hroot:∀q,(renRoots s m s.roots.length m).getD q .dead=(match pre m q with | some r=>(s.root r).ren m | none=>.dead):=renRoots_get s m s.roots.length m h3
 have hrd:∀x:Root,(x.ren m).isDead=x.isDead:=by intro x;cases x <;> rfl
 have hLn:∀{r q},pre m q=some r→Ln q=L r:=by intro r q h;simp only[Ln,h]
 have hlk:∀{r q},look m r=some q→pre m q=some r:=fun h=>pre_of h2 (look_mem h)
 have hlive:∀q,((renRoots s m s.roots.length m).getD q .dead).isDead=false→∃r,pre m q=some r∧(s.root r).isDead=false:=by
  intro q h
  rw[hroot] at h
  cases hp:pre m q with
  | none=>rw[hp] at h;cases h
  | some r=>rw[hp] at h;exact ⟨r,rfl,by rw[←hrd];exact h⟩
 have cr:∀lv v,CRel w F L s.roots lv v→CRel w F Ln (renRoots s m s.roots.length m) (lv.ren m) v:=by
  intro lv v h
  cases lv with
  | undef=>trivial
  | val t x=>exact h
  | dec c d neg=>exact ⟨_,rfl,h⟩
  | nilq c d=>exact h
  | nils=>exact h
  | own r=>
   simp only[LV.ren]
   cases hl:look m r with
   | none=>trivial
   | some q=>
    obtain ⟨g1,e,E,xs,g2⟩:=h
    refine ⟨by rw[hLn (hlk hl),g1],e,E,xs,?_⟩
    rw[hroot,hlk hl]
    show (s.root r).ren m=_
    rw[show s.root r=_ from g2];rfl
  | sub r lo n=>
   simp only[LV.ren]
   cases hl:look m r with
   | none=>trivial
   | some q=>
    obtain ⟨e,E,xs,A,c,A',g2,g3,g4⟩:=h
    refine ⟨e,E,xs,A,c,A',?_,by rw[hLn (hlk hl),g3],g4⟩
    rw[hroot,hlk hl]
    show (s.root r).ren m=_
    rw[show s.root r=_ from g2];rfl
  | ptr r i j=>
   simp only[LV.ren]
   cases hl:look m r with
   | none=>trivial
   | some q=>
    rcases h with ⟨e,E,xs,g,n,c,g2,g3,g4⟩ | ⟨T,cs,g,g2,g3,g4,g5,g6⟩
    ·refine .inl ⟨e,E,xs,g,n,c,?_,by rw[hLn (hlk hl),g3],g4⟩
     rw[hroot,hlk hl]
     show (s.root r).ren m=_
     rw[show s.root r=_ from g2];rfl
    ·refine .inr ⟨T,cs.map (LV.ren m),g,?_,by rw[hLn (hlk hl),g3],g4,by simpa using g5,g6⟩
     rw[hroot,hlk hl]
     show (s.root r).ren m=_
     rw[show s.root r=_ from g2];rfl
  | vptr e xs i j=>exact h
  | optr r=>
   simp only[LV.ren]
   cases hl:look m r with
   | none=>trivial
   | some q=>
    rcases h with h | ⟨g1,T,cs,g,g2,g3⟩
    ·exact .inl h
    ·refine .inr ⟨by rw[hLn (hlk hl),g1],T,cs.map (LV.ren m),g,?_,by rw[hLn (hlk hl),g3]⟩
     rw[hroot,hlk hl]
     show (s.root r).ren m=_
     rw[show s.root r=_ from g2];rfl
  | glob g=>exact h
  | garr e xs=>exact h.elim
  | agg vs=>exact h.elim
  | tup vs=>exact h.elim
  | fn f vs=>exact h.elim
 have v1:∀lv v,VRel1 w F L s.roots lv v→VRel1 w F Ln (renRoots s m s.roots.length m) (lv.rens m) v:=by
  intro lv v h
  cases lv with
  | agg vs=>
   obtain ⟨cs,g1,g2⟩:=h
   refine ⟨cs,g1,?_⟩
   have:=g2.map (f:=LV.ren m) (g:=id) (R':=Cel w F Ln (renRoots s m s.roots.length m)) (fun _ _ h=>⟨cr _ _ h.1,h.2⟩)
   simpa using this
  | fn f vs=>
   obtain ⟨cs,g1,g2⟩:=h
   refine ⟨cs,g1,?_⟩
   have:=g2.map (f:=LV.ren m) (g:=id) (R':=CRel w F Ln (renRoots s m s.roots.length m)) (fun _ _ h=>cr _ _ h)
   simpa using this
  | tup vs=>exact h.elim
  | undef=>trivial
  | val t x=>exact (cr (.val t x) v h).v1
  | dec c d neg=>exact (cr (.dec c d neg) v h).v1
  | nilq c d=>exact (cr (.nilq c d) v h).v1
  | nils=>exact (cr .nils v h).v1
  | own r=>exact (cr (.own r) v h).v1
  | sub r lo n=>exact (cr (.sub r lo n) v h).v1
  | ptr r i j=>exact (cr (.ptr r i j) v h).v1
  | vptr e xs i j=>exact (cr (.vptr e xs i j) v h).v1
  | optr r=>exact (cr (.optr r) v h).v1
  | glob r=>exact (cr (.glob r) v h).v1
  | garr e xs=>exact h
 have plain:∀lv v,lv.plain=true→VRel1 w F L s.roots lv v→VRel1 w F Ln (renRoots s m s.roots.length m) lv v:=by
  intro lv v hp h
  cases lv with
  | undef=>trivial
  | val t x=>exact h
  | dec c d neg=>exact h
  | nilq c d=>exact h
  | nils=>exact h
  | vptr e xs i j=>exact h
  | glob r=>exact h
  | garr e xs=>exact h
  | _=>cases hp
 refine ⟨hd,F,Ln,⟨hc.evol,hc.f0,hc.fr,fun q h g hg=>?_,fun q q' h h' hne=>?_,fun q=>?_,fun p hp=>⟨(hc.kp p hp).1,fun h=>?_⟩⟩,?_⟩
 ·obtain ⟨r,g1,g2⟩:=hlive q h
  rw[hLn g1] at hg
  exact hc.live r g2 g hg
 ·obtain ⟨r,g1,g2⟩:=hlive q h
  obtain ⟨r',g1',g2'⟩:=hlive q' h'
  intro g hg
  rw[hLn g1] at hg
  rw[hLn g1']
  refine hc.apart r r' g2 g2' ?_ g hg
  rintro rfl
  exact hne (nodup_fst h1 (pre_some g1) (pre_some g1'))
 ·show RootRel w F Ln (renRoots s m s.roots.length m) (Ln q) ((renRoots s m s.roots.length m).getD q .dead)
  rw[hroot]
  cases hp:pre m q with
  | none=>trivial
  | some r=>
   show RootRel w F Ln _ (Ln q) ((s.root r).ren m)
   rw[hLn hp]
   have h0:=hc.roots r
   cases hx:s.root r with
   | dead=>trivial
   | row e E xs=>rw[hx] at h0;exact h0
   | box T cs=>
    rw[hx] at h0
    obtain ⟨g,cur,k1,k2,k3⟩:=h0
    refine ⟨g,cur,k1,k2,?_⟩
    have:=k3.map (f:=LV.ren m) (g:=id) (R':=Cel w F Ln (renRoots s m s.roots.length m)) (fun _ _ h=>⟨cr _ _ h.1,h.2⟩)
    simpa using this
 ·obtain ⟨r,g1,g2⟩:=hlive p.1 h
  have:=h5 _ (pre_some g1) (hc.kp p hp).1
  simp only at this
  subst this
  show Ln p.1=p.2
  rw[hLn g1]
  exact (hc.kp p hp).2 g2
 ·refine keepAt_rel (R:=VRel w F L s.roots) (fun lv v h=>?_) (fun v=>?_) live 0 ht
  ·cases lv with
   | tup vs=>
    obtain ⟨cs,g1,g2⟩:=h
    show VRel _ _ _ _ (bif vs.all LV.plain then .tup vs else .undef) v
    cases hp:vs.all LV.plain with
    | false=>trivial
    | true=>
     refine ⟨cs,g1,?_⟩
     have:∀{vs:List LV} {cs:List Value},vs.all LV.plain=true→All2 (VRel1 w F L s.roots) vs cs→All2 (VRel1 w F Ln (renRoots s m s.roots.length m)) vs cs:=by
      intro vs
      induction vs with
      | nil=>intro cs _ h;cases cs <;> first | trivial | exact h.elim
      | cons x vs ih=>
       intro cs hp h
       cases cs with
       | nil=>exact h.elim
       | cons c cs=>
        rw[List.all_cons,Bool.and_eq_true] at hp
        exact ⟨plain _ _ hp.1 h.1,ih hp.2 h.2⟩
     exact this hp g2
   | agg vs=>exact (v1 (.agg vs) v h).v
   | fn f vs=>exact (v1 (.fn f vs) v h).v
   | undef=>trivial
   | val t x=>exact (v1 (.val t x) v h).v
   | dec c d neg=>exact (v1 (.dec c d neg) v h).v
   | nilq c d=>exact (v1 (.nilq c d) v h).v
   | nils=>exact (v1 .nils v h).v
   | own r=>exact (v1 (.own r) v h).v
   | sub r lo n=>exact (v1 (.sub r lo n) v h).v
   | ptr r i j=>exact (v1 (.ptr r i j) v h).v
   | vptr e xs i j=>exact (v1 (.vptr e xs i j) v h).v
   | optr r=>exact (v1 (.optr r) v h).v
   | glob r=>exact (v1 (.glob r) v h).v
   | garr e xs=>exact (v1 (.garr e xs) v h).v
  ·trivial
theorem cut_ok (c:Cut) (hr:Rel w0 Mo F0 s a w):Rel w0 Mo F0 (c.apply s) a w:=by
 unfold Cut.apply
 have h1:=growB_ok c.growB (grow_ok c.grow (frozen_ok hr (c.freeze.flatMap fun t=>(s.get t).roots)))
 simp only
 cases h:renOk (((s.freeze (c.freeze.flatMap fun t=>(s.get t).roots)).grow c.grow).growB c.growB) ((((s.freeze (c.freeze.flatMap fun t=>(s.get t).roots)).grow c.grow).growB c.growB).renaming c.live c.base) with
 | true=>rw[cond_true];exact ren_ok h h1
 | false=>rw[cond_false];exact ren_ok (by rfl) h1
theorem cutAt_ok (l:List (Nat × Cut)) (c:Code) (hr:Rel w0 Mo F0 s a w):Rel w0 Mo F0 (cutAt l c s) a w:=by
 unfold cutAt
 split
 ·split
  ·exact cut_ok _ hr
  ·exact hr
 ·exact hr
end Go.Refl
end
section
namespace Go.Refl
open Go Go.RowKit
variable (s:St) (T:List LV)
theorem asV1_t (lend:Nat→Bool) (t:Ty) (v:LV):asV1 { s with tmps:=T } lend t v=asV1 s lend t v:=by cases v <;> rfl
theorem assemble_t (lend:Nat→Bool):∀(t:Ty) (vs:List LV),assemble { s with tmps:=T } lend t vs=assemble s lend t vs
 | .pair a b,vs=>by
  simp only[assemble,assemble_t lend a,assemble_t lend b]
 | .int _,vs=>by cases vs <;> simp only[assemble,asV1_t]
 | .bool,vs=>by cases vs <;> simp only[assemble,asV1_t]
 | .str,vs=>by cases vs <;> simp only[assemble,asV1_t]
 | .err,vs=>by cases vs <;> simp only[assemble,asV1_t]
 | .slice _,vs=>by cases vs <;> simp only[assemble,asV1_t]
theorem asV_t (lend:Nat→Bool) (t:Ty) (v:LV):asV { s with tmps:=T } lend t v=asV s lend t v:=by
 cases v <;> simp only[asV,assemble_t,asV1_t]
theorem ofCells_t (t:Ty) (l:List LV):ofCells { s with tmps:=T } t l=ofCells s t l:=by simp only[ofCells,assemble_t]
theorem loadV_t (ti:TI) (v:LV):loadV { s with tmps:=T } ti v=loadV s ti v:=by
 cases v <;> simp only[loadV,ofCells_t] <;> rfl
theorem binR_t (tb:List (Nat × TI)) (op:BinOp) (t:TypeId) (x y:LV):binR tb { s with tmps:=T } op t x y=binR tb s op t x y:=by
 unfold binR
 split <;> first | (simp only[eqlR,asV_t];done) | (simp only[eqlR,asV_t];rfl) | rfl
theorem sliceR_t (t:Ty) (x:LV) (a b:Option Int):sliceR { s with tmps:=T } t x a b=sliceR s t x a b:=rfl
theorem slice3R_t (t:Ty) (x:LV) (a b c:Int):slice3R { s with tmps:=T } t x a b c=slice3R s t x a b c:=rfl
theorem fieldAddrV_t (ti:TI) (f:Nat) (x:LV):fieldAddrV { s with tmps:=T } ti f x=fieldAddrV s ti f x:=rfl
theorem indexAddrR_t (t:Ty) (x i:LV):indexAddrR { s with tmps:=T } t x i=indexAddrR s t x i:=rfl
theorem lenV_t (t:Ty) (x:LV):lenV { s with tmps:=T } t x=lenV s t x:=rfl
theorem storeV_t (ti:TI) (p v:LV):storeV { s with tmps:=T } ti p v=(storeV s ti p v).map fun s'=>{ s' with tmps:=T }:=by
 unfold storeV
 cases p with
 | ptr r i j=>
  simp only[root_tt]
  cases s.root r with
  | dead=>rfl
  | row e E xs=>
   simp only[asV_t]
   split <;> rfl
  | box T' cs=>
   simp only
   cases (Nat.beq i 0&&Nat.ble (j+ti.ty.size) cs.length&&Nat.beq (cellsOf v).length ti.ty.size) <;> rfl
 | _=>rfl
where root_tt (r:Nat):({ s with tmps:=T }:St).root r=s.root r:=rfl
theorem news1_t (id:Nat) (x:Root):({ s with tmps:=T }:St).news [(id,x)]=(s.news [(id,x)]).map fun s'=>{ s' with tmps:=T }:=by
 simp only[St.news]
 show (bif Nat.blt id s.roots.length&&s.free id then _ else _)=_
 cases (Nat.blt id s.roots.length&&s.free id) <;> rfl
theorem absorbC_t (lend:Nat→Bool):∀(m:M) (vs:List LV),absorbC { s with tmps:=T } lend m vs=absorbC s lend m vs
 | .v t,vs=>by simp only[absorbC,assemble_t]
 | .own e E,vs=>by
  cases vs with
  | nil=>rfl
  | cons v vs=>cases v <;> rfl
 | .bx U a,vs=>by
  have ih:=absorbC_t lend a
  unfold absorbC
  simp only[ih]
  rfl
 | .pr a b,vs=>by simp only[absorbC,absorbC_t lend a,absorbC_t lend b]
 | .bld T' E,vs=>rfl
theorem absorb_t (lend:Nat→Bool) (m:M) (v:LV):absorb { s with tmps:=T } lend m v=absorb s lend m v:=by
 cases m <;> simp only[absorb,absorbC_t,asV_t]
theorem vpIn_t (lend:Nat→Bool) (t:Ty) (v:LV):capsIn.vpIn { s with tmps:=T } lend t v=capsIn.vpIn s lend t v:=by
 unfold capsIn.vpIn
 simp only[assemble_t]
 rfl
theorem capsIn_t (lend:Nat→Bool):∀(l:List Ty) (vs:List LV),capsIn { s with tmps:=T } lend l vs=capsIn s lend l vs
 | [],vs=>by cases vs <;> rfl
 | [t],vs=>by
  match vs with
  | []=>rfl
  | [v]=>simp only[capsIn,vpIn_t]
  | _::_::_=>rfl
 | t::u::l,vs=>by
  match vs with
  | []=>rfl
  | v::vs=>simp only[capsIn,vpIn_t,capsIn_t lend (u::l)]
theorem argIn_t (lend:Nat→Bool) (p:Pm) (v:LV):argIn { s with tmps:=T } lend p v=argIn s lend p v:=by
 cases p with
 | arg m=>simp only[argIn,absorb_t]
 | inout e E=>cases v <;> rfl
 | box U m=>simp only[argIn,absorbC_t];rfl
 | vp t=>simp only[argIn,vpIn_t]
 | fnc f caps=>simp only[argIn,capsIn_t]
 | bldw T' E=>cases v <;> rfl
 | sin k e E n=>cases v <;> rfl
theorem argsIn_t (lend:Nat→Bool):∀(ps:List Pm) (vs:List LV),argsIn { s with tmps:=T } lend ps vs=argsIn s lend ps vs
 | [],vs=>by cases vs <;> rfl
 | [p],vs=>by
  match vs with
  | []=>rfl
  | [v]=>simp only[argsIn,argIn_t]
  | _::_::_=>rfl
 | p::q::ps,vs=>by
  match vs with
  | []=>rfl
  | v::vs=>simp only[argsIn,argIn_t,argsIn_t lend (q::ps)]
end Go.Refl
end
section
namespace Go.Refl
open Go Go.RowKit
theorem bind_ret {α β:Type} {r:Res α} {g:α→β} {p:β} (h:(r.bind fun v=>.ret (g v)).To p):∃v,r.To v∧p=g v:=by
 obtain ⟨v,h1,h2⟩:=Res.bind_to _ h
 exact ⟨v,h1,by cases h2;rfl⟩
theorem to_bind_ret {α β:Type} {g:α→β}:∀{r:Res α} {v:α},r.To v→(r.bind fun v=>.ret (g v)).To (g v)
 | .ret a,v,h=>by cases h;rfl
 | .fail,v,h=>h.elim
 | .ite c d t e,v,h=>by
  rcases h with ⟨h1,h2⟩ | ⟨h1,h2⟩
  ·exact .inl ⟨h1,to_bind_ret h2⟩
  ·exact .inr ⟨h1,to_bind_ret h2⟩
 | .call o k,v,h=>by
  obtain ⟨y,h1,h2⟩:=h
  exact ⟨y,h1,to_bind_ret h2⟩
theorem asV1_r {s s1:St} {lend:Nat→Bool} {t:Ty} {v:LV} (h:v.rootless1=true):asV1 s1 lend t v=asV1 s lend t v:=by
 cases v <;> first | rfl | cases h
theorem assemble_r {s s1:St} {lend:Nat→Bool}:∀(t:Ty) {vs:List LV},vs.all LV.rootless1=true→assemble s1 lend t vs=assemble s lend t vs
 | .pair a b,vs,h=>by
  simp only[assemble,assemble_r (s:=s) (s1:=s1) a h]
  cases ha:assemble s lend a vs with
  | none=>rfl
  | some p=>
   have hr:=assemble_rest (x:=p.1) (rest:=p.2) ha
   have h2:p.2.all LV.rootless1=true:=by
    rw[hr,List.all_eq_true]
    intro x hx
    exact List.all_eq_true.1 h x (List.mem_of_mem_drop hx)
   simp only[Option.bind_some,assemble_r (s:=s) (s1:=s1) b h2]
 | .int _,vs,h=>by
  cases vs with
  | nil=>rfl
  | cons v vs=>rw[List.all_cons,Bool.and_eq_true] at h;simp only[assemble,asV1_r (s:=s) (s1:=s1) h.1]
 | .bool,vs,h=>by
  cases vs with
  | nil=>rfl
  | cons v vs=>rw[List.all_cons,Bool.and_eq_true] at h;simp only[assemble,asV1_r (s:=s) (s1:=s1) h.1]
 | .str,vs,h=>by
  cases vs with
  | nil=>rfl
  | cons v vs=>rw[List.all_cons,Bool.and_eq_true] at h;simp only[assemble,asV1_r (s:=s) (s1:=s1) h.1]
 | .err,vs,h=>by
  cases vs with
  | nil=>rfl
  | cons v vs=>rw[List.all_cons,Bool.and_eq_true] at h;simp only[assemble,asV1_r (s:=s) (s1:=s1) h.1]
 | .slice _,vs,h=>by
  cases vs with
  | nil=>rfl
  | cons v vs=>rw[List.all_cons,Bool.and_eq_true] at h;simp only[assemble,asV1_r (s:=s) (s1:=s1) h.1]
theorem asV_r {s s1:St} {lend:Nat→Bool} {t:Ty} {v:LV} (h:v.rootless=true):asV s1 lend t v=asV s lend t v:=by
 cases v with
 | agg vs=>simp only[asV,assemble_r (s:=s) (s1:=s1) t h]
 | val t x=>rfl
 | dec c d neg=>rfl
 | nilq c d=>rfl
 | nils=>rfl
 | vptr e xs i j=>rfl
 | undef=>cases h
 | own r=>cases h
 | sub r lo n=>cases h
 | ptr r i j=>cases h
 | tup vs=>cases h
 | fn f vs=>rfl
 | optr r=>cases h
 | glob g=>rfl
 | garr e xs=>rfl
theorem errCmp_r {tb:List (Nat × TI)} {s s1:St} {op:BinOp} {t:TypeId} {x y:Operand} (h:s1.opd x=s.opd x) (h2:s1.opd y=s.opd y):errCmp tb s1 op t x y=errCmp tb s op t x y:=by
 unfold errCmp
 rw[h,h2]
theorem lenV_r {s s1:St} {t:Ty} {v:LV} (h:v.rootless=true):lenV s1 t v=lenV s t v:=by
 cases v with
 | val t x=>cases t <;> rfl
 | own r=>cases h
 | sub r lo n=>cases h
 | _=>rfl
theorem partsV_r {s s1:St} {e:Ty}:∀{ps:List (Nat × Operand)} {xs:List e.den},(∀p ∈ ps,s1.opd p.2=s.opd p.2∧(s.opd p.2).rootless=true)→partsV s1 e ps xs=partsV s e ps xs
 | [],_,_=>rfl
 | (i,x)::ps,xs,h=>by
  obtain ⟨h1,h2⟩:=h (i,x) (by simp)
  simp only at h1 h2
  simp only[partsV,h1,asV_r (s:=s) (s1:=s1) h2]
  congr 2
  funext y
  exact partsV_r (fun p hp=>h p (by simp[hp]))
theorem rootless_of {s:St} {o:Oper} {k:Nat} (hk:(bif rootlessAll s o then 0 else k+1)=0) {x:Operand} (hx:x ∈ o.op.operands):(s.opd x).rootless=true:=by
 cases h:rootlessAll s o with
 | false=>rw[h] at hk;cases hk
 | true=>exact List.all_eq_true.1 h x (Array.mem_toList_iff.2 hx)
theorem builtin_0 {C:Cfg} {s s2:St} {b:Builtin} {ts:List TypeId} {ids:List Nat} {vs:List LV} {v:LV} (hb:b=.len∨b=.min∨b=.max) (hr:∀x ∈ vs,x.rootless=true) (h:(builtinR C s b ts ids vs).To (v,s2)):s2=s∧∀s1:St,(builtinR C s1 b ts ids vs).To (v,s1):=by
 unfold builtinR at h ⊢
 split at h
 ·rename_i v0
  split at h
  ·split at h
   ·rename_i ti h1
    split at h
    ·rename_i u h2
     cases h
     refine ⟨rfl,fun s1=>?_⟩
     simp only[h1,lenV_r (s:=s) (s1:=s1) (hr v0 (by simp)),h2]
     rfl
    ·exact h.elim
   ·exact h.elim
  ·exact h.elim
 ·cases h;exact ⟨rfl,fun s1=>rfl⟩
 ·cases h;exact ⟨rfl,fun s1=>rfl⟩
 ·rcases hb with hb | hb | hb <;> cases hb
 ·rcases hb with hb | hb | hb <;> cases hb
 ·exact h.elim
theorem opR_0 {C:Cfg} {n:Nat} {ids:List Nat} {o:Oper} {s s2:St} {v:LV} (hk:kls C n ids s o=0) (h:(opR C n ids o s).To (v,s2)):s2=s∧∀s1:St,(∀x ∈ o.op.operands,s1.opd x=s.opd x)→(opR C n ids o s1).To (v,s1):=by
 unfold kls at hk
 unfold opR at h ⊢
 cases hop:o.op with
 | move x=>
  simp only[hop] at h ⊢
  cases h
  exact ⟨rfl,fun s1 ho=>by rw[ho x (by simp[Op.operands])];rfl⟩
 | assign x=>
  simp only[hop] at h ⊢
  cases h
  exact ⟨rfl,fun s1 ho=>by rw[ho x (by simp[Op.operands])];rfl⟩
 | pick c a b=>
  simp only[hop] at h ⊢
  split at h
  ·rename_i t ht
   cases h
   refine ⟨rfl,fun s1 ho=>?_⟩
   rw[ho c (by simp[Op.operands]),ho a (by simp[Op.operands]),ho b (by simp[Op.operands]),ht]
   rfl
  ·exact h.elim
 | nilCheck x=>
  simp only[hop] at h ⊢
  split at h
  ·rename_i ht
   cases h
   exact ⟨rfl,fun s1 ho=>by rw[ho x (by simp[Op.operands]),ht];rfl⟩
  ·rename_i ht
   cases h
   exact ⟨rfl,fun s1 ho=>by rw[ho x (by simp[Op.operands]),ht];rfl⟩
  ·exact h.elim
 | unOp op t x=>
  simp only[hop] at h ⊢
  split at h
  ·rename_i u hu
   cases h
   exact ⟨rfl,fun s1 ho=>by rw[ho x (by simp[Op.operands]),hu];rfl⟩
  ·exact h.elim
 | convert a b x=>
  simp only[hop] at h ⊢
  split at h
  ·rename_i h1 h2 h3
   split at h
   ·rename_i h4
    cases h
    refine ⟨rfl,fun s1 ho=>?_⟩
    rw[ho x (by simp[Op.operands]),h1,h2,h3]
    simp only[h4]
    rfl
   ·exact h.elim
  ·rename_i si ti b h1 h2 h3
   cases hb:(decide (si.ty=.str)&&decide (ti.ty=.slice (.int .u8))) with
   | false=>rw[hb] at h;exact h.elim
   | true=>
    rw[hb,cond_true] at h
    cases h
    refine ⟨rfl,fun s1 ho=>?_⟩
    rw[ho x (by simp[Op.operands]),h1,h2,h3]
    simp only[hb,cond_true]
    rfl
  ·exact h.elim
 | makeInterface T x=>
  simp only[hop] at h ⊢
  split at h
  ·rename_i u hu
   cases h
   refine ⟨rfl,fun s1 ho=>?_⟩
   rw[ho x (by simp[Op.operands]),hu]
   rfl
  ·exact h.elim
 | makeFunc fo first caps=>
  simp only[hop] at h ⊢
  cases fo with
  | func f=>
   simp only at h ⊢
   split at h
   ·rename_i hf
    cases hb:(caps.toList.map s.opd).all LV.isCell with
    | false=>rw[hb] at h;exact h.elim
    | true=>
     rw[hb,cond_true] at h
     cases h
     refine ⟨rfl,fun s1 ho=>?_⟩
     have e:caps.toList.map s1.opd=caps.toList.map s.opd:=List.map_congr_left fun x hx=>ho x (by simp only[Op.operands];exact Array.mem_append.2 (.inr (Array.mem_toList_iff.1 hx)))
     simp only[hf,e,hb,cond_true]
     rfl
   ·exact h.elim
  | _=>exact h.elim
 | index t x i=>
  simp only[hop] at h ⊢
  split at h
  ·rename_i ti hti
   cases hb:decide (ti.ty=.str) with
   | false=>rw[hb] at h;exact h.elim
   | true=>
    rw[hb,cond_true] at h
    obtain ⟨u,h1,h2⟩:=bind_ret h
    cases h2
    refine ⟨rfl,fun s1 ho=>?_⟩
    simp only[hb,cond_true]
    rw[ho x (by simp[Op.operands]),ho i (by simp[Op.operands])]
    exact to_bind_ret h1
  ·obtain ⟨u,h1,h2⟩:=bind_ret h
   cases h2
   refine ⟨rfl,fun s1 ho=>?_⟩
   rw[ho x (by simp[Op.operands]),ho i (by simp[Op.operands])]
   exact to_bind_ret h1
 | extract t k=>
  simp only[hop] at h ⊢
  split at h
  ·rename_i vs hv
   split at h
   ·rename_i u hu
    cases h
    refine ⟨rfl,fun s1 ho=>?_⟩
    rw[ho t (by simp[Op.operands]),hv]
    simp only[hu]
    rfl
   ·exact h.elim
  ·exact h.elim
 | load U x=>
  simp only[hop] at h hk ⊢
  have hx:=rootless_of hk (x:=x) (by simp[hop,Op.operands])
  split at h
  ·rename_i ti h1
   split at h
   ·rename_i u h2
    cases h
    refine ⟨rfl,fun s1 ho=>?_⟩
    have e:loadV s1 ti (s.opd x)=loadV s ti (s.opd x):=by
     cases hv:s.opd x with
     | ptr r i j=>rw[hv] at hx;cases hx
     | _=>rfl
    simp only[ho x (by simp[Op.operands]),e,h2]
    rfl
   ·rename_i h2
    split at h
    ·rename_i u h3
     cases h
     refine ⟨rfl,fun s1 ho=>?_⟩
     have e:loadV s1 ti (s.opd x)=loadV s ti (s.opd x):=by
      cases hv:s.opd x with
      | ptr r i j=>rw[hv] at hx;cases hx
      | _=>rfl
     simp only[ho x (by simp[Op.operands]),e,h2,h3]
     rfl
    ·exact h.elim
  ·split at h
   ·rename_i u h2
    cases h
    refine ⟨rfl,fun s1 ho=>?_⟩
    simp only[ho x (by simp[Op.operands]),h2]
    rfl
   ·exact h.elim
 | binOp op t x y w=>
  simp only[hop] at h hk ⊢
  have hx:=rootless_of hk (x:=x) (by simp[hop,Op.operands])
  have hy:=rootless_of hk (x:=y) (by simp[hop,Op.operands])
  split at h
  ·rename_i u h2
   cases h
   refine ⟨rfl,fun s1 ho=>?_⟩
   rw[errCmp_r (ho x (by simp[Op.operands])) (ho y (by simp[Op.operands])),h2]
   rfl
  rename_i hec
  obtain ⟨u,h1,h2⟩:=bind_ret h
  cases h2
  refine ⟨rfl,fun s1 ho=>?_⟩
  rw[errCmp_r (ho x (by simp[Op.operands])) (ho y (by simp[Op.operands])),hec]
  have e:binR C.tb s1 op t (s.opd x) (s.opd y)=binR C.tb s op t (s.opd x) (s.opd y):=by
   have eq:∀neg,eqlR C.tb s1 t neg (s.opd x) (s.opd y)=eqlR C.tb s t neg (s.opd x) (s.opd y):=by
    intro neg
    simp only[eqlR,asV_r (s:=s) (s1:=s1) hx,asV_r (s:=s) (s1:=s1) hy,lenV_r (s:=s) (s1:=s1) hx]
   unfold binR
   split
   ·exact eq false
   ·exact eq true
   ·rfl
  simp only[ho x (by simp[Op.operands]),ho y (by simp[Op.operands]),e]
  exact to_bind_ret h1
 | fieldAddr U x f=>
  simp only[hop] at h hk ⊢
  have hx:=rootless_of hk (x:=x) (by simp[hop,Op.operands])
  split at h
  ·rename_i ti h1
   split at h
   ·rename_i u h2
    cases h
    refine ⟨rfl,fun s1 ho=>?_⟩
    have e:fieldAddrV s1 ti f (s.opd x)=fieldAddrV s ti f (s.opd x):=by
     cases hv:s.opd x with
     | ptr r i j=>rw[hv] at hx;cases hx
     | _=>rfl
    simp only[ho x (by simp[Op.operands]),e,h2]
    rfl
   ·exact h.elim
  ·exact h.elim
 | indexAddr U x i=>
  simp only[hop] at h hk ⊢
  have hx:=rootless_of hk (x:=x) (by simp[hop,Op.operands])
  split at h
  ·rename_i ti h1
   obtain ⟨u,h3,h2⟩:=bind_ret h
   cases h2
   refine ⟨rfl,fun s1 ho=>?_⟩
   have e:indexAddrR s1 ti.ty (s.opd x) (s.opd i)=indexAddrR s ti.ty (s.opd x) (s.opd i):=by
    unfold indexAddrR
    split
    ·unfold indexAddrI
     cases hv:s.opd x with
     | own r=>rw[hv] at hx;cases hx
     | sub r lo n=>rw[hv] at hx;cases hx
     | val t _=>cases t <;> rfl
     | _=>rfl
    ·rfl
   simp only[ho x (by simp[Op.operands]),ho i (by simp[Op.operands]),e]
   exact to_bind_ret h3
  ·obtain ⟨u,h3,h2⟩:=bind_ret h
   cases h2
   refine ⟨rfl,fun s1 ho=>?_⟩
   simp only[ho x (by simp[Op.operands]),ho i (by simp[Op.operands])]
   exact to_bind_ret h3
 | buildSlice T l ps=>
  simp only[hop] at h hk ⊢
  cases hi:ids.isEmpty with
  | false=>rw[hi] at hk;cases hk
  | true=>
   rw[hi,cond_true] at hk
   have hid:ids=[]:=by cases ids <;> first | rfl | cases hi
   subst hid
   have hps:∀p ∈ ps.toList,p.2 ∈ o.op.operands:=fun p hp=>by simp only[hop,Op.operands];simp only[List.mem_toArray,List.mem_map];exact ⟨p,hp,rfl⟩
   split at h
   ·rename_i ti h1
    split at h
    ·rename_i ei h2
     split at h
     ·rename_i xs h3
      cases hb:Nat.ble (l*ei.ty.size) 16777216 with
      | false=>rw[hb] at h;exact h.elim
      | true=>
       rw[hb,cond_true] at h
       cases hs:ti.ty.isSlice with
       | false=>rw[hs] at h;exact h.elim
       | true=>
        rw[hs,cond_true] at h
        cases h
        refine ⟨rfl,fun s1 ho=>?_⟩
        rw[hop] at hps
        simp only[partsV_r (s:=s) (s1:=s1) (fun p hp=>⟨ho _ (hps p hp),rootless_of hk (x:=p.2) (by rw[hop];exact hps p hp)⟩),h3,hb,hs,cond_true]
        rfl
     ·exact h.elim
    ·exact h.elim
   ·exact h.elim
 | box U x=>simp only[hop] at hk;cases hi:ids.isEmpty <;> (rw[hi] at hk;cases hk)
 | call c=>
  simp only[hop] at h hk ⊢
  cases hcl:c.callee with
  | builtin b=>
   simp only[hcl] at h hk ⊢
   have hb:b=.len∨b=.min∨b=.max:=by
    cases b <;> first | exact .inl rfl | exact .inr (.inl rfl) | exact .inr (.inr rfl) | (simp only at hk;omega)
   have hk':(bif rootlessAll s o then 0 else 0+1)=0:=by
    rcases hb with rfl | rfl | rfl <;> exact hk
   have hargs:∀x ∈ c.args.toList,x ∈ o.op.operands:=fun x hx=>by simp only[hop,Op.operands,Call.operands];exact Array.mem_append.2 (.inr (Array.mem_toList_iff.1 hx))
   have h3:=builtin_0 hb (vs:=c.args.toList.map s.opd) (fun y hy=>by
    obtain ⟨x,hx,rfl⟩:=List.mem_map.1 hy
    exact rootless_of hk' (hargs x hx)) h
   refine ⟨h3.1,fun s1 ho=>?_⟩
   have e:c.args.toList.map s1.opd=c.args.toList.map s.opd:=List.map_congr_left fun x hx=>ho x (by have:=hargs x hx;rw[hop] at this;exact this)
   rw[e]
   exact h3.2 s1
  | value fo=>
   exfalso
   simp only[hcl] at hk
   cases fo with
   | func f=>
    simp only at hk
    cases hg:C.tab n f with
    | none=>rw[hg] at hk;cases hk
    | some g=>
     simp only[hg] at hk
     cases hf:((g.res++outs g.params).all M.flat || rootlessAll s o || soleV g.params (c.args.toList.map s.opd)) with
     | false=>rw[hf] at hk;cases hs:g.params.all Pm.stays <;> (rw[hs] at hk;cases hk)
     | true=>
      rw[hf,cond_true] at hk
      cases hq:g.quiet ids with
      | true=>rw[hq] at hk;cases hk
      | false=>rw[hq] at hk;cases hs:g.params.all Pm.stays <;> (rw[hs] at hk;cases hk)
   | _=>simp only at hk;cases hk
  | invoke a b=>simp only[hcl] at hk;cases hk
 | _=>simp only[hop] at hk;cases hk
end Go.Refl
end
section
namespace Go.Refl
open Go Go.RowKit
variable {s s2:St} {T:List LV} {C:Cfg} {n:Nat} {ids:List Nat} {o:Oper} {v:LV}
theorem buildCells_t {offs szs:List Nat}:∀{ps:List (Nat × Operand)} {cs:List LV},(∀p ∈ ps,({ s with tmps:=T }:St).opd p.2=s.opd p.2)→buildCells offs szs { s with tmps:=T } ps cs=buildCells offs szs s ps cs
 | [],_,_=>rfl
 | (i,x)::ps,cs,h=>by
  simp only[buildCells,h (i,x) (by simp)]
  split
  ·rw[buildCells_t (fun p hp=>h p (by simp[hp]))]
  ·rfl
theorem partsV_t {e:Ty}:∀{ps:List (Nat × Operand)} {xs:List e.den},(∀p ∈ ps,({ s with tmps:=T }:St).opd p.2=s.opd p.2)→partsV { s with tmps:=T } e ps xs=partsV s e ps xs
 | [],_,_=>rfl
 | (i,x)::ps,xs,h=>by
  simp only[partsV,h (i,x) (by simp),asV_t]
  congr 2
  funext y
  exact partsV_t (fun p hp=>h p (by simp[hp]))
def Moved (r:Res (LV × St)) (s:St) (T:List LV) (k:Nat) (v:LV) (s2:St):Prop:=
 s2={ s with roots:=s2.roots }∧(k≤1→s2.roots=s.roots)∧r.To (v,{ s2 with tmps:=T })
theorem Moved.same {r:Res (LV × St)} {k:Nat} (h1:s2=s) (h2:r.To (v,{ s with tmps:=T })):Moved r s T k v s2:=by
 subst h1
 exact ⟨rfl,fun _=>rfl,h2⟩
theorem mkR_t {id:Nat} {lv:LV} {x:Root} (h:(mkR s id lv x).To (v,s2)):Moved (mkR { s with tmps:=T } id lv x) s T 2 v s2:=by
 unfold mkR at h ⊢
 split at h
 ·rename_i s1 h1
  cases h
  have h0:=h1
  obtain ⟨_,_,rfl⟩:=news_one h1
  refine ⟨rfl,fun h=>by omega,?_⟩
  rw[news1_t,h0]
  rfl
 ·exact h.elim
theorem builtin_t {k:Nat} {b:Builtin} {ts:List TypeId} {vs:List LV} (hb:b=.len∨b=.min∨b=.max) (h:(builtinR C s b ts ids vs).To (v,s2)):Moved (builtinR C { s with tmps:=T } b ts ids vs) s T k v s2:=by
 unfold builtinR at h ⊢
 split at h
 ·split at h
  ·split at h
   ·rename_i ti h1
    split at h
    ·rename_i u h2
     cases h
     refine .same rfl ?_
     simp only[h1,lenV_t,h2]
     rfl
    ·exact h.elim
   ·exact h.elim
  ·exact h.elim
 ·cases h;exact .same rfl rfl
 ·cases h;exact .same rfl rfl
 ·rcases hb with hb | hb | hb <;> cases hb
 ·rcases hb with hb | hb | hb <;> cases hb
 ·exact h.elim
theorem quiet_arg {lend:Nat→Bool} {p:Pm} {v:LV} {x:p.den} {e:List Nat} {l:Option Nat} (hq:p.quiet=true) (h:argIn s lend p v=some (x,e,l)):e=[]∧l=none:=by
  cases p with
  | arg m=>
   cases m with
   | v t=>
    simp only[argIn,absorb,Option.map_eq_some_iff] at h
    obtain ⟨⟨y,e1⟩,⟨z,_,hz⟩,h⟩:=h
    cases hz;cases h
    exact ⟨rfl,rfl⟩
   | _=>cases hq
  | vp t=>
   simp only[argIn,Option.map_eq_some_iff] at h
   obtain ⟨y,_,h⟩:=h
   cases h
   exact ⟨rfl,rfl⟩
  | fnc f caps=>
   simp only[argIn] at h
   split at h
   ·rename_i g vs
    cases hb:Nat.beq f g with
    | false=>rw[hb] at h;cases h
    | true=>
     rw[hb,cond_true,Option.map_eq_some_iff] at h
     obtain ⟨y,_,h⟩:=h
     cases h
     exact ⟨rfl,rfl⟩
   ·cases h
  | _=>cases hq
theorem quiet_args {lend:Nat→Bool}:∀{ps:List Pm} {vs:List LV} {x:pdens ps} {e l:List Nat},ps.all Pm.quiet=true→argsIn s lend ps vs=some (x,e,l)→e=[]∧l=[]
 | [],vs,x,e,l,_,h=>by
  cases vs with
  | nil=>simp only[argsIn,Option.some.injEq,Prod.mk.injEq] at h;exact ⟨h.2.1.symm,h.2.2.symm⟩
  | cons _ _=>simp[argsIn] at h
 | [p],vs,x,e,l,hq,h=>by
  match vs with
  | []=>simp[argsIn] at h
  | [v]=>
   simp only[argsIn,Option.map_eq_some_iff] at h
   obtain ⟨⟨y,e1,l1⟩,hy,h⟩:=h
   have:=quiet_arg (by simpa using hq) hy
   cases h
   exact ⟨this.1,by rw[this.2];rfl⟩
  | _::_::_=>simp[argsIn] at h
 | p::q::ps,vs,x,e,l,hq,h=>by
  match vs with
  | []=>simp[argsIn] at h
  | v::vs=>
   simp only[argsIn,Option.bind_eq_some_iff,Option.map_eq_some_iff] at h
   obtain ⟨⟨y,e1,l1⟩,hy,⟨z,e2,l2⟩,hz,h⟩:=h
   rw[List.all_cons,Bool.and_eq_true] at hq
   have h1:=quiet_arg hq.1 hy
   have h2:=quiet_args hq.2 hz
   cases h
   exact ⟨by rw[h1.1,h2.1];rfl,by rw[h1.2,h2.2];rfl⟩
theorem quiet_emits:∀{ms:List M} {x:dens ms} {ids:List Nat},ms.all M.isV=true→(emits ms x ids).2.1=[]
 | [],_,_,_=>rfl
 | [m],x,ids,h=>by
  cases m with
  | v t=>rfl
  | _=>simp[M.isV] at h
 | m::n::ms,x,ids,h=>by
  rw[List.all_cons,Bool.and_eq_true] at h
  cases m with
  | v t=>simp only[emits,emit,quiet_emits h.2];rfl
  | _=>cases h.1
theorem quiet_outs:∀{ps:List Pm},ps.all Pm.quiet=true→outKinds ps=[]
 | [],_=>rfl
 | p::ps,h=>by
  rw[List.all_cons,Bool.and_eq_true] at h
  cases p with
  | inout _ _=>cases h.1
  | box _ _=>cases h.1
  | arg _=>exact quiet_outs (ps:=ps) h.2
  | vp _=>exact quiet_outs (ps:=ps) h.2
  | fnc _ _=>exact quiet_outs (ps:=ps) h.2
  | bldw _ _=>cases h.1
  | sin _ _ _ _=>cases h.1
theorem taken_nil {g:Sig} {el:List Nat} {vs:List LV} (h:(g.res++outs g.params).all M.flat=true∨vs.flatMap LV.roots=[]∨soleV g.params vs=true):takenR s g el vs=[]:=by
 unfold takenR
 rcases h with h | h | h
 ·rw[h];rfl
 ·rw[h]
  cases (g.res++outs g.params).all M.flat || soleV g.params vs <;> rfl
 ·rw[h,Bool.or_true];rfl
theorem lendR_t {g:Sig} {el:List Nat} {vs:List LV}:lendR { s with tmps:=T } g el vs=lendR s g el vs:=rfl
theorem takenR_t {g:Sig} {el:List Nat} {vs:List LV}:takenR { s with tmps:=T } g el vs=takenR s g el vs:=rfl
theorem call_t {g:Sig} {vs:List LV} (hK:(g.res++outs g.params).all M.flat=true∨vs.flatMap LV.roots=[]∨soleV g.params vs=true) (hq:g.quiet ids=true) (h:(callR s g ids vs).To (v,s2)):Moved (callR { s with tmps:=T } g ids vs) s T 1 v s2:=by
 simp only[Sig.quiet,Bool.and_eq_true] at hq
 unfold callR at h ⊢
 simp only[argsIn_t,lendR_t,takenR_t,taken_nil (s:=s) hK,List.append_nil] at h ⊢
 split at h
 ·rename_i x1 e1 l1 h1
  try simp only at h ⊢
  split at h
  ·rename_i x e l h2
   obtain ⟨rfl,rfl⟩:=quiet_args hq.1.1 h2
   try simp only[h1,h2]
   cases hc:(decide ([]++[]:List Nat).Nodup&&([]++[]:List Nat).all fun r=>(e1++l1).contains r) with
   | false=>rw[hc] at h;exact h.elim
   | true=>
    rw[hc,cond_true] at h
    rw[cond_true]
    obtain ⟨y,hy,h⟩:=h
    simp only[quiet_emits hq.1.2] at h
    simp only[St.kill,St.news] at h
    split at h
    ·rename_i s3 h3
     cases h
     have hs:∀(s s3:St) (l:List Nat) (os:List (M × Option TypeId)) (d:dens (os.map (·.1))),os=[]→putOuts s l os [] d=some s3→s3=s:=by
      intro s s3 l os d ho hp
      subst ho
      simp only[putOuts,Option.some.injEq] at hp
      exact hp.symm
     have hs':∀(s:St) (l:List Nat) (os:List (M × Option TypeId)) (d:dens (os.map (·.1))),os=[]→putOuts s l os [] d=some s:=by
      intro s l os d ho
      subst ho
      rfl
     refine .same (hs _ _ _ _ _ (quiet_outs hq.1.1) h3) ⟨y,hy,?_⟩
     simp only[quiet_emits hq.1.2,St.kill,St.news]
     split
     ·rename_i s4 h4
      have:=hs _ _ _ _ _ (quiet_outs hq.1.1) h4
      subst this
      rfl
     ·rename_i h4
      have:=(hs' { s with tmps:=T } _ _ _ (quiet_outs hq.1.1)).symm.trans h4
      cases this
    ·exact h.elim
  ·exact h.elim
 ·exact h.elim
theorem stays_arg {lend:Nat→Bool} {p:Pm} {v:LV} {x:p.den} {e:List Nat} {l:Option Nat} (hq:p.stays=true) (h:argIn s lend p v=some (x,e,l)):e=[]:=by
 cases p with
 | arg m=>
  cases m with
  | v t=>
   simp only[argIn,absorb,Option.map_eq_some_iff] at h
   obtain ⟨⟨y,e1⟩,⟨z,_,hz⟩,h⟩:=h
   cases hz;cases h
   rfl
  | _=>cases hq
 | inout e' E=>
  simp only[argIn] at h
  split at h
  ·split at h
   ·rename_i r e2 E2 xs hr
    cases hb:Nat.beq E E2 with
    | false=>rw[hb] at h;cases h
    | true=>
     rw[hb,cond_true,Option.map_eq_some_iff] at h
     obtain ⟨y,_,h⟩:=h
     cases h
     rfl
   ·cases h
  ·cases h
 | box T m=>
  cases m with
  | v t=>
   simp only[argIn] at h
   split at h
   ·split at h
    ·rename_i r T' vs hr
     cases hb:Nat.beq T T' with
     | false=>rw[hb] at h;cases h
     | true=>
      rw[hb,cond_true,Option.bind_eq_some_iff] at h
      obtain ⟨p,hp,h⟩:=h
      simp only[absorbC,Option.map_eq_some_iff] at hp
      obtain ⟨q,_,rfl⟩:=hp
      split at h
      ·cases h;rfl
      ·cases h
    ·cases h
   ·cases h
  | _=>cases hq
 | vp t=>
  simp only[argIn,Option.map_eq_some_iff] at h
  obtain ⟨y,_,h⟩:=h
  cases h
  rfl
 | fnc f caps=>
  simp only[argIn] at h
  split at h
  ·rename_i g vs
   cases hb:Nat.beq f g with
   | false=>rw[hb] at h;cases h
   | true=>
    rw[hb,cond_true,Option.map_eq_some_iff] at h
    obtain ⟨y,_,h⟩:=h
    cases h
    rfl
  ·cases h
 | bldw T E=>cases hq
 | sin _ _ _ _=>cases hq
theorem stays_args {lend:Nat→Bool}:∀{ps:List Pm} {vs:List LV} {x:pdens ps} {e l:List Nat},ps.all Pm.stays=true→argsIn s lend ps vs=some (x,e,l)→e=[]
 | [],vs,x,e,l,_,h=>by
  cases vs with
  | nil=>simp only[argsIn,Option.some.injEq,Prod.mk.injEq] at h;exact h.2.1.symm
  | cons _ _=>simp[argsIn] at h
 | [p],vs,x,e,l,hq,h=>by
  match vs with
  | []=>simp[argsIn] at h
  | [v]=>
   simp only[argsIn,Option.map_eq_some_iff] at h
   obtain ⟨⟨y,e1,l1⟩,hy,h⟩:=h
   have:=stays_arg (by simpa using hq) hy
   cases h
   exact this
  | _::_::_=>simp[argsIn] at h
 | p::q::ps,vs,x,e,l,hq,h=>by
  match vs with
  | []=>simp[argsIn] at h
  | v::vs=>
   simp only[argsIn,Option.bind_eq_some_iff,Option.map_eq_some_iff] at h
   obtain ⟨⟨y,e1,l1⟩,hy,⟨z,e2,l2⟩,hz,h⟩:=h
   rw[List.all_cons,Bool.and_eq_true] at hq
   have h1:=stays_arg hq.1 hy
   have h2:=stays_args hq.2 hz
   cases h
   rw[h1,h2];rfl
theorem news_t:∀(l:List (Nat × Root)) (s:St),({ s with tmps:=T }:St).news l=(s.news l).map fun s'=>{ s' with tmps:=T }
 | [],s=>rfl
 | (r,x)::l,s=>by
  simp only[St.news]
  show (bif Nat.blt r s.roots.length&&s.free r then _ else _)=_
  cases (Nat.blt r s.roots.length&&s.free r) with
  | false=>rfl
  | true=>exact news_t l (s.setRoot r x)
theorem news_keep:∀(l:List (Nat × Root)) {s s1:St},s.news l=some s1→s1.tmps=s.tmps∧s1.lent=s.lent
 | [],s,s1,h=>by cases h;exact ⟨rfl,rfl⟩
 | (r,x)::l,s,s1,h=>by
  simp only[St.news] at h
  cases hb:(Nat.blt r s.roots.length&&s.free r) with
  | false=>rw[hb] at h;cases h
  | true=>rw[hb] at h;exact news_keep l (s:=s.setRoot r x) h
theorem putOut_t (s:St) (ids:List Nat) (r:Nat) (m:M) (x:m.den) (U:Option TypeId):putOut { s with tmps:=T } ids r m x U=(putOut s ids r m x U).map fun p=>({ p.1 with tmps:=T },p.2):=by
 cases U with
 | none=>
  cases m with
  | bld U E=>
   cases ids with
   | nil=>rfl
   | cons q ids=>
    simp only[putOut,news_t]
    cases s.news [(q,Root.row (.int .u8) E x)] <;> rfl
  | _=>rfl
 | some U=>
  simp only[putOut,news_t]
  cases s.news (emitC m x ids).2.1 <;> rfl
theorem putOut_keep {s:St} {ids:List Nat} {r:Nat} {m:M} {x:m.den} {U:Option TypeId} {p:St × List Nat} (h:putOut s ids r m x U=some p):p.1.tmps=s.tmps∧p.1.lent=s.lent:=by
 cases U with
 | none=>
  cases m with
  | own e E=>simp only[putOut] at h;cases h;exact ⟨rfl,rfl⟩
  | bld U E=>
   cases ids with
   | nil=>simp only[putOut] at h;cases h
   | cons q ids=>
    simp only[putOut,Option.map_eq_some_iff] at h
    obtain ⟨s1,h1,rfl⟩:=h
    have:=news_keep _ h1
    exact this
  | _=>simp only[putOut] at h;cases h
 | some U=>
  simp only[putOut,Option.map_eq_some_iff] at h
  obtain ⟨s1,h1,rfl⟩:=h
  have:=news_keep _ h1
  exact this
theorem putOuts_t:∀(os:List (M × Option TypeId)) (s:St) (ids:List Nat) (l:List Nat) (d:dens (os.map (·.1))),putOuts { s with tmps:=T } ids os l d=(putOuts s ids os l d).map fun s'=>{ s' with tmps:=T }
 | [],s,ids,l,d=>by cases l <;> rfl
 | [o],s,ids,l,d=>by
  match l with
  | []=>rfl
  | [r]=>simp only[putOuts,putOut_t];cases putOut s ids r o.1 d o.2 <;> rfl
  | _::_::_=>rfl
 | o::o'::os,s,ids,l,d=>by
  match l with
  | []=>rfl
  | r::l=>
   simp only[putOuts,putOut_t]
   cases putOut s ids r o.1 d.1 o.2 with
   | none=>rfl
   | some p=>exact putOuts_t (o'::os) p.1 p.2 l d.2
theorem putOuts_keep:∀(os:List (M × Option TypeId)) {s s1:St} {ids:List Nat} {l:List Nat} {d:dens (os.map (·.1))},putOuts s ids os l d=some s1→s1.tmps=s.tmps∧s1.lent=s.lent
 | [],s,s1,ids,l,d,h=>by
  cases l with
  | nil=>simp only[putOuts,Option.some.injEq] at h;subst h;exact ⟨rfl,rfl⟩
  | cons _ _=>simp[putOuts] at h
 | [o],s,s1,ids,l,d,h=>by
  match l with
  | []=>simp[putOuts] at h
  | [r]=>
   simp only[putOuts,Option.map_eq_some_iff] at h
   obtain ⟨p,hp,rfl⟩:=h
   exact putOut_keep hp
  | _::_::_=>simp[putOuts] at h
 | o::o'::os,s,s1,ids,l,d,h=>by
  match l with
  | []=>simp[putOuts] at h
  | r::l=>
   simp only[putOuts,Option.bind_eq_some_iff] at h
   obtain ⟨p,hp,h⟩:=h
   have h1:=putOut_keep hp
   have h2:=putOuts_keep (o'::os) h
   exact ⟨h2.1.trans h1.1,h2.2.trans h1.2⟩
theorem call_t2 {g:Sig} {vs:List LV} (hK:(g.res++outs g.params).all M.flat=true∨vs.flatMap LV.roots=[]∨soleV g.params vs=true) (hq:g.params.all Pm.stays=true) (h:(callR s g ids vs).To (v,s2)):Moved (callR { s with tmps:=T } g ids vs) s T 2 v s2:=by
 unfold callR at h ⊢
 simp only[argsIn_t,lendR_t,takenR_t,taken_nil (s:=s) hK,List.append_nil] at h ⊢
 split at h
 ·rename_i x1 e1 l1 h1
  try simp only at h ⊢
  split at h
  ·rename_i x e l h2
   obtain rfl:=stays_args hq h2
   try simp only[h1,h2]
   cases hc:(decide ([]++l:List Nat).Nodup&&([]++l:List Nat).all fun r=>(e1++l1).contains r) with
   | false=>rw[hc] at h;exact h.elim
   | true=>
    rw[hc,cond_true] at h
    rw[cond_true]
    obtain ⟨y,hy,h⟩:=h
    simp only[St.kill] at h
    split at h
    ·rename_i s3 h3
     split at h
     ·rename_i s4 h4
      cases h
      have k3:=news_keep _ h3
      have k4:=putOuts_keep _ h4
      refine ⟨?_,fun h=>by omega,⟨y,hy,?_⟩⟩
      ·cases s2
       cases s
       simp only at k3 k4 ⊢
       rw[k4.1,k4.2,k3.1,k3.2]
      ·simp only[St.kill,news_t,h3,Option.map_some,putOuts_t]
       split
       ·rename_i s5 h5
        have h6:=(putOuts_t (T:=T) _ s3 _ l _).symm.trans h5
        have h7:=(congrArg (Option.map fun s':St=>{ s' with tmps:=T }) h4).symm.trans h6
        cases h7
        rfl
       ·rename_i h5
        have h6:=(putOuts_t (T:=T) _ s3 _ l _).symm.trans h5
        have h7:=(congrArg (Option.map fun s':St=>{ s' with tmps:=T }) h4).symm.trans h6
        cases h7
     ·exact h.elim
    ·exact h.elim
  ·exact h.elim
 ·exact h.elim
theorem rootless_roots {xs:List Operand} (h:∀x ∈ xs,(s.opd x).rootless=true):(xs.map s.opd).flatMap LV.roots=[]:=by
 rw[List.flatMap_eq_nil_iff]
 intro v hv
 obtain ⟨x,hx,rfl⟩:=List.mem_map.1 hv
 have h1:=h x hx
 cases hv:s.opd x with
 | agg vs=>
  rw[hv] at h1
  show (vs.flatMap _)=[]
  rw[List.flatMap_eq_nil_iff]
  intro u hu
  have h2:=List.all_eq_true.1 h1 u hu
  cases u <;> first | rfl | cases h2
 | own r=>rw[hv] at h1;cases h1
 | sub r lo n=>rw[hv] at h1;cases h1
 | ptr r i j=>rw[hv] at h1;cases h1
 | optr r=>rw[hv] at h1;cases h1
 | fn f vs=>
  rw[hv] at h1
  show (vs.flatMap _)=[]
  rw[List.flatMap_eq_nil_iff]
  intro u hu
  have h2:=List.all_eq_true.1 h1 u hu
  cases u <;> first | rfl | cases h2
 | _=>rfl
theorem opR_12 (hk:kls C n ids s o≤2) (hk0:kls C n ids s o≠0) (h:(opR C n ids o s).To (v,s2)) (ho:∀x ∈ o.op.operands,({ s with tmps:=T }:St).opd x=s.opd x):Moved (opR C n ids o { s with tmps:=T }) s T (kls C n ids s o) v s2:=by
 unfold kls at hk hk0 ⊢
 unfold opR at h ⊢
 cases hop:o.op with
 | move x=>simp only[hop] at hk0;exact absurd rfl hk0
 | assign x=>simp only[hop] at hk0;exact absurd rfl hk0
 | pick a b c=>simp only[hop] at hk0;exact absurd rfl hk0
 | nilCheck x=>simp only[hop] at hk0;exact absurd rfl hk0
 | unOp a b c=>simp only[hop] at hk0;exact absurd rfl hk0
 | convert a b c=>simp only[hop] at hk0;exact absurd rfl hk0
 | makeFunc a b c=>simp only[hop] at hk0;exact absurd rfl hk0
 | makeInterface a b=>simp only[hop] at hk0;exact absurd rfl hk0
 | index a b c=>simp only[hop] at hk0;exact absurd rfl hk0
 | extract a b=>simp only[hop] at hk0;exact absurd rfl hk0
 | box U x=>
  simp only[hop] at h ⊢
  split at h
  ·rename_i ti id h1
   cases hb:Nat.beq (cellsOf (s.opd x)).length ti.ty.size with
   | false=>simp only[hb] at h;exact h.elim
   | true=>
    simp only[hb,cond_true] at h
    simp only[h1,ho x (by simp[hop,Op.operands]),hb,cond_true]
    exact mkR_t h
  ·rename_i ti h1
   split at h
   ·rename_i u hu
    cases h
    refine .same rfl ?_
    simp only[h1,ho x (by simp[hop,Op.operands]),asV_t,hu]
    rfl
   ·exact h.elim
  ·exact h.elim
 | alloc U=>
  simp only[hop] at h ⊢
  split at h
  ·rename_i ti id h1
   try simp only[h1]
   exact mkR_t h
  ·rename_i h0
   unfold bldNew at h
   split at h
   ·rename_i r q E h1
    split at h
    ·rename_i s1 h2
     cases h
     have k2:=news_keep _ h2
     refine ⟨?_,fun h=>by omega,?_⟩
     ·cases s2
      cases s
      simp only at k2 ⊢
      rw[k2.1,k2.2]
     ·simp only[bldNew,h1,news_t,h2,Option.map_some]
      rfl
    ·exact h.elim
   ·exact h.elim
 | build U ps=>
  simp only[hop] at h ⊢
  have hps:∀p ∈ ps.toList,({ s with tmps:=T }:St).opd p.2=s.opd p.2:=fun p hp=>ho _ (by simp only[hop,Op.operands];simp only[List.mem_toArray,List.mem_map];exact ⟨p,hp,rfl⟩)
  split at h
  ·rename_i ti h1
   split at h
   ·rename_i cs h2
    cases hb:ti.ty.isPair with
    | false=>rw[hb] at h;exact h.elim
    | true=>
     rw[hb,cond_true] at h
     cases h
     refine .same rfl ?_
     simp only[h1,buildCells_t hps,h2,hb,cond_true,ofCells_t]
     rfl
   ·exact h.elim
  ·exact h.elim
 | buildSlice U len ps=>
  simp only[hop] at h ⊢
  have hps:∀p ∈ ps.toList,({ s with tmps:=T }:St).opd p.2=s.opd p.2:=fun p hp=>ho _ (by simp only[hop,Op.operands];simp only[List.mem_toArray,List.mem_map];exact ⟨p,hp,rfl⟩)
  split at h
  ·rename_i ti h1
   split at h
   ·rename_i ei h2
    split at h
    ·rename_i xs h3
     cases hb:Nat.ble (len*ei.ty.size) 16777216 with
     | false=>rw[hb] at h;exact h.elim
     | true=>
      rw[hb,cond_true] at h
      cases hs:ti.ty.isSlice with
      | false=>rw[hs] at h;exact h.elim
      | true=>
       rw[hs,cond_true] at h
       simp only[h1,h2,partsV_t hps,h3,hb,hs,cond_true]
       split at h
       ·cases h
        exact .same rfl rfl
       ·exact mkR_t h
       ·exact h.elim
    ·exact h.elim
   ·exact h.elim
  ·exact h.elim
 | load U x=>
  simp only[hop] at h ⊢
  split at h
  ·rename_i ti h1
   split at h
   ·rename_i u h2
    cases h
    refine .same rfl ?_
    simp only[h1,ho x (by simp[hop,Op.operands]),loadV_t,h2]
    rfl
   ·rename_i h2
    split at h
    ·rename_i u h3
     cases h
     refine .same rfl ?_
     simp only[h1,ho x (by simp[hop,Op.operands]),loadV_t,h2,h3]
     rfl
    ·exact h.elim
  ·rename_i h1
   split at h
   ·rename_i u h2
    cases h
    refine .same rfl ?_
    simp only[h1,ho x (by simp[hop,Op.operands]),h2]
    rfl
   ·exact h.elim
 | store U x y=>
  simp only[hop] at h ⊢
  split at h
  ·rename_i ti h1
   split at h
   ·rename_i s1 h2
    cases h
    have h3:s2={ s with roots:=s2.roots }:=by
     unfold storeV at h2
     split at h2
     ·split at h2
      ·split at h2
       ·cases h2;rfl
       ·cases h2
      ·rename_i r0 i0 j0 _ _ _ cs0 _
       cases hb:(Nat.beq i0 0&&Nat.ble (j0+ti.ty.size) cs0.length&&Nat.beq (cellsOf (s.opd y)).length ti.ty.size) with
       | true=>rw[hb,cond_true] at h2;cases h2;rfl
       | false=>rw[hb,cond_false] at h2;cases h2
      ·cases h2
     ·cases h2
    refine ⟨h3,fun h=>by omega,?_⟩
    simp only[h1,ho x (by simp[hop,Op.operands]),ho y (by simp[hop,Op.operands]),storeV_t,h2]
    rfl
   ·exact h.elim
  ·exact h.elim
 | binOp op t x y w=>
  simp only[hop] at h ⊢
  split at h
  ·rename_i u h2
   cases h
   refine .same rfl ?_
   rw[errCmp_r (ho x (by simp[hop,Op.operands])) (ho y (by simp[hop,Op.operands])),h2]
   rfl
  rename_i hec
  obtain ⟨u,h1,h2⟩:=bind_ret h
  cases h2
  refine .same rfl ?_
  rw[errCmp_r (ho x (by simp[hop,Op.operands])) (ho y (by simp[hop,Op.operands])),hec]
  simp only[ho x (by simp[hop,Op.operands]),ho y (by simp[hop,Op.operands]),binR_t]
  exact to_bind_ret h1
 | fieldAddr U x f=>
  simp only[hop] at h ⊢
  split at h
  ·rename_i ti h1
   split at h
   ·rename_i u h2
    cases h
    refine .same rfl ?_
    simp only[h1,ho x (by simp[hop,Op.operands]),fieldAddrV_t,h2]
    rfl
   ·exact h.elim
  ·exact h.elim
 | indexAddr U x i=>
  simp only[hop] at h ⊢
  split at h
  ·rename_i ti h1
   obtain ⟨u,h3,h2⟩:=bind_ret h
   cases h2
   refine .same rfl ?_
   simp only[h1,ho x (by simp[hop,Op.operands]),ho i (by simp[hop,Op.operands]),indexAddrR_t]
   exact to_bind_ret h3
  ·rename_i h1
   obtain ⟨u,h3,h2⟩:=bind_ret h
   cases h2
   refine .same rfl ?_
   simp only[h1,ho x (by simp[hop,Op.operands]),ho i (by simp[hop,Op.operands])]
   exact to_bind_ret h3
 | makeSlice U l c=>
  simp only[hop] at h ⊢
  split at h
  ·rename_i ti _ a _ b id h1 h2 h3
   split at h
   ·rename_i ei h4
    cases hs:ti.ty.isSlice with
    | false=>rw[hs] at h;exact h.elim
    | true=>
     rw[hs,cond_true] at h
     rcases h with ⟨c1,⟨c2,⟨c3,h⟩ | ⟨_,h⟩⟩ | ⟨_,h⟩⟩ | ⟨_,h⟩
     ·have:=mkR_t (T:=T) h
      refine ⟨this.1,this.2.1,?_⟩
      simp only[h1,ho l (by simp[hop,Op.operands]),ho c (by simp[hop,Op.operands]),h2,h3,h4,hs,cond_true]
      exact .inl ⟨c1,.inl ⟨c2,.inl ⟨c3,this.2.2⟩⟩⟩
     ·exact h.elim
     ·exact h.elim
     ·exact h.elim
   ·exact h.elim
  ·exact h.elim
 | slice t x lo hi mx=>
  simp only[hop] at h ⊢
  have e1:lo.map ({ s with tmps:=T }:St).opd=lo.map s.opd:=by
   cases lo with
   | none=>rfl
   | some y=>simp only[Option.map_some];rw[ho y (by simp[hop,Op.operands])]
  have e2:hi.map ({ s with tmps:=T }:St).opd=hi.map s.opd:=by
   cases hi with
   | none=>rfl
   | some y=>simp only[Option.map_some];rw[ho y (by simp[hop,Op.operands])]
  rw[e1,e2]
  split at h
  ·rename_i ti lo' hi' h1 h2 h3
   obtain ⟨u,h4,h5⟩:=bind_ret h
   cases h5
   refine .same rfl ?_
   simp only[h1,h2,h3,ho x (by simp[hop,Op.operands]),sliceR_t]
   exact to_bind_ret h4
  ·rename_i ti m lo' hi' h1 h2 h3
   split at h
   ·rename_i km mv hm
    obtain ⟨u,h4,h5⟩:=bind_ret h
    cases h5
    refine .same rfl ?_
    simp only[h1,h2,h3,ho x (by simp[hop,Op.operands]),ho m (by simp[hop,Op.operands]),hm,slice3R_t]
    exact to_bind_ret h4
   ·exact h.elim
  ·exact h.elim
 | call c=>
  have hargs:c.args.toList.map ({ s with tmps:=T }:St).opd=c.args.toList.map s.opd:=List.map_congr_left fun x hx=>ho x (by simp only[hop,Op.operands,Call.operands];exact Array.mem_append.2 (.inr (Array.mem_toList_iff.1 hx)))
  simp only[hop] at h hk ⊢
  cases hcl:c.callee with
  | builtin b=>
   simp only[hcl] at h hk ⊢
   rw[hargs]
   have hb:b=.len∨b=.min∨b=.max:=by
    cases b <;> first | exact .inl rfl | exact .inr (.inl rfl) | exact .inr (.inr rfl) | (have h9:3≤2:=hk;omega) | (have h9:4≤2:=hk;omega)
   exact builtin_t hb h
  | value fo=>
   simp only[hcl] at h hk ⊢
   cases fo with
   | func f=>
    simp only[St.opd] at h hk ⊢
    cases hg:C.tab n f with
    | none=>rw[hg] at h;exact h.elim
    | some g=>
     simp only[hg] at h hk ⊢
     simp only[hargs]
     cases hn:(c.args.toList.map s.opd).all LV.noTup with
     | false=>rw[hn] at h;exact h.elim
     | true=>
      rw[hn,cond_true] at h
      rw[cond_true]
      simp only[List.append_nil] at h ⊢
      have hmem:∀x ∈ c.args.toList,x ∈ o.op.operands:=fun x hx=>by simp only[hop,Op.operands,Call.operands];exact Array.mem_append.2 (.inr (Array.mem_toList_iff.1 hx))
      cases hfr:((g.res++outs g.params).all M.flat || rootlessAll s o || soleV g.params (c.args.toList.map s.opd)) with
      | false=>rw[hfr] at hk;cases hs:g.params.all Pm.stays <;> (rw[hs] at hk;simp at hk)
      | true=>
       have hK:(g.res++outs g.params).all M.flat=true∨(c.args.toList.map s.opd).flatMap LV.roots=[]∨soleV g.params (c.args.toList.map s.opd)=true:=by
        rw[Bool.or_eq_true,Bool.or_eq_true] at hfr
        rcases hfr with (h | h) | h
        ·exact .inl h
        ·exact .inr (.inl (rootless_roots (fun x hx=>List.all_eq_true.1 h x (Array.mem_toList_iff.2 (hmem x hx)))))
        ·exact .inr (.inr h)
       rw[hfr,cond_true] at hk
       rw[cond_true]
       cases hq:g.quiet ids with
       | false=>
        cases hs:g.params.all Pm.stays with
        | false=>rw[hq,hs] at hk;simp at hk
        | true=>
         rw[cond_false,cond_true]
         exact call_t2 hK hs h
       | true=>
        rw[cond_true]
        exact call_t hK hq h
   | _=>simp only at hk;omega
  | invoke a b=>simp only[hcl] at hk;omega
 | _=>simp only[hop] at hk;omega
end Go.Refl
end
section
namespace Go.Refl
open Go Go.RowKit
variable {C:Cfg} {n:Nat} {ids:List Nat} {o:Oper} {v:LV} {s s1 s2:St} {R:List Nat}
theorem asV1_no (t:Ty) (v:LV):asV1 s1 lendNo t v=asV1 s lendNo t v:=by cases v <;> rfl
theorem assemble_no:∀(t:Ty) (vs:List LV),assemble s1 lendNo t vs=assemble s lendNo t vs
 | .pair a b,vs=>by
  rw[assemble,assemble,assemble_no a vs]
  congr 1
  funext p
  rw[assemble_no b]
 | .int _,vs=>by cases vs with | nil=>rfl | cons v vs=>rw[assemble,assemble,asV1_no (s:=s) (s1:=s1)]
 | .bool,vs=>by cases vs with | nil=>rfl | cons v vs=>rw[assemble,assemble,asV1_no (s:=s) (s1:=s1)]
 | .str,vs=>by cases vs with | nil=>rfl | cons v vs=>rw[assemble,assemble,asV1_no (s:=s) (s1:=s1)]
 | .err,vs=>by cases vs with | nil=>rfl | cons v vs=>rw[assemble,assemble,asV1_no (s:=s) (s1:=s1)]
 | .slice _,vs=>by cases vs with | nil=>rfl | cons v vs=>rw[assemble,assemble,asV1_no (s:=s) (s1:=s1)]
theorem asV_no (t:Ty) (v:LV):asV s1 lendNo t v=asV s lendNo t v:=by
 cases v with
 | agg vs=>simp only[asV,assemble_no (s:=s) (s1:=s1)]
 | val t x=>rfl
 | _=>simp only[asV,asV1_no (s:=s) (s1:=s1)]
theorem ofCells_no (t:Ty) (cs:List LV):ofCells s1 t cs=ofCells s t cs:=by simp only[ofCells,assemble_no (s:=s) (s1:=s1)]
structure Same (s s2:St) (R:List Nat):Prop where
 tmps:s2.tmps=s.tmps
 lent:s2.lent=s.lent
 len:s2.roots.length=s.roots.length
 root:∀r,r ∉ R→s2.root r=s.root r
theorem Same.refl (s:St) (R:List Nat):Same s s R:=⟨rfl,rfl,rfl,fun _ _=>rfl⟩
theorem Same.trans {s3:St} (h:Same s s2 R) (k:Same s2 s3 R):Same s s3 R:=⟨k.tmps.trans h.tmps,k.lent.trans h.lent,k.len.trans h.len,fun r hr=>(k.root r hr).trans (h.root r hr)⟩
theorem Same.set {r:Nat} (hr:r ∈ R) (x:Root):Same s (s.setRoot r x) R:=
 ⟨rfl,rfl,by simp[St.setRoot],fun q hq=>by rw[root_set,if_neg];rintro ⟨rfl,_⟩;exact hq hr⟩
structure Agree (s s1:St) (R:List Nat):Prop where
 lent:s1.lent=s.lent
 len:s1.roots.length=s.roots.length
 root:∀r ∈ R,s1.root r=s.root r
theorem Agree.set (h:Agree s s1 R) (r:Nat) (x:Root):Agree (s.setRoot r x) (s1.setRoot r x) R:=
 ⟨h.lent,by simp[St.setRoot,h.len],fun q hq=>by rw[root_set,root_set,h.len,h.root q hq]⟩
def Touch (r1:Res (LV × St)) (s s1:St) (R:List Nat) (v:LV) (s2:St):Prop:=
 Same s s2 R∧∃s3,r1.To (v,s3)∧Same s1 s3 R∧∀r ∈ R,s3.root r=s2.root r
theorem Touch.same {r1:Res (LV × St)} (ha:Agree s s1 R) (h:s2=s) (k:r1.To (v,s1)):Touch r1 s s1 R v s2:=by
 subst h
 exact ⟨.refl _ _,s1,k,.refl _ _,ha.root⟩
theorem free_eq (ha:Agree s s1 R) {r:Nat} (hr:r ∈ R):s1.free r=s.free r:=by unfold St.free;rw[ha.root r hr,ha.lent]
theorem news_g:∀(l:List (Nat × Root)) {s s1 s2:St},Agree s s1 R→(∀p ∈ l,p.1 ∈ R)→s.news l=some s2→Same s s2 R∧∃s3,s1.news l=some s3∧Same s1 s3 R∧Agree s2 s3 R
 | [],s,s1,s2,ha,_,h=>by cases h;exact ⟨.refl _ _,s1,rfl,.refl _ _,ha⟩
 | (r,x)::l,s,s1,s2,ha,hl,h=>by
  have hr:=hl (r,x) (by simp)
  simp only[St.news] at h ⊢
  rw[free_eq ha hr,ha.len]
  cases hb:(Nat.blt r s.roots.length&&s.free r) with
  | false=>rw[hb] at h;cases h
  | true=>
   rw[hb,cond_true] at h
   rw[cond_true]
   obtain ⟨h1,s3,h2,h3,h4⟩:=news_g l (ha.set r x) (fun p hp=>hl p (by simp[hp])) h
   exact ⟨(Same.set hr x).trans h1,s3,h2,(Same.set hr x).trans h3,h4⟩
theorem emitC_ids:∀(m:M) (x:m.den) (ids:List Nat),(∀p ∈ (emitC m x ids).2.1,p.1 ∈ ids)∧(∀i ∈ (emitC m x ids).2.2,i ∈ ids)
 | .v t,x,ids=>by simp[emitC]
 | .own e E,xs,ids=>by cases ids <;> simp[emitC];exact fun i h=>.inr h
 | .bx T a,x,ids=>by
  cases ids with
  | nil=>simp[emitC]
  | cons r ids=>
   obtain ⟨h1,h2⟩:=emitC_ids a x ids
   simp only[emitC]
   refine ⟨fun p hp=>?_,fun i hi=>by simp[h2 i hi]⟩
   rcases List.mem_append.1 hp with hp | hp
   ·simp[h1 p hp]
   ·simp only[List.mem_singleton] at hp;subst hp;simp
 | .pr a b,x,ids=>by
  obtain ⟨h1,h2⟩:=emitC_ids a x.1 ids
  obtain ⟨h3,h4⟩:=emitC_ids b x.2 (emitC a x.1 ids).2.2
  simp only[emitC]
  refine ⟨fun p hp=>?_,fun i hi=>h2 i (h4 i hi)⟩
  rcases List.mem_append.1 hp with hp | hp
  ·exact h1 p hp
  ·exact h2 _ (h3 p hp)
 | .bld T E,x,ids=>by simp[emitC]
theorem emit_ids (m:M) (x:m.den) (ids:List Nat):(∀p ∈ (emit m x ids).2.1,p.1 ∈ ids)∧(∀i ∈ (emit m x ids).2.2,i ∈ ids):=by
 cases m with
 | v t=>simp[emit]
 | own e E=>exact emitC_ids (.own e E) x ids
 | bx T a=>exact emitC_ids (.bx T a) x ids
 | pr a b=>exact emitC_ids (.pr a b) x ids
 | bld T E=>exact emitC_ids (.bld T E) x ids
theorem emits_ids:∀(ms:List M) (x:dens ms) (ids:List Nat),(∀p ∈ (emits ms x ids).2.1,p.1 ∈ ids)∧(∀i ∈ (emits ms x ids).2.2,i ∈ ids)
 | [],x,ids=>by simp[emits]
 | [m],x,ids=>by simp only[emits];exact emit_ids m x ids
 | m::n::ms,x,ids=>by
  obtain ⟨h1,h2⟩:=emit_ids m x.1 ids
  obtain ⟨h3,h4⟩:=emits_ids (n::ms) x.2 (emit m x.1 ids).2.2
  simp only[emits]
  refine ⟨fun p hp=>?_,fun i hi=>h2 i (h4 i hi)⟩
  rcases List.mem_append.1 hp with hp | hp
  ·exact h1 p hp
  ·exact h2 _ (h3 p hp)
theorem putOut_g {r:Nat} {m:M} {x:m.den} {U:Option TypeId} {p:St × List Nat} {ids:List Nat} (ha:Agree s s1 R) (hr:r ∈ R) (hi:∀i ∈ ids,i ∈ R) (h:putOut s ids r m x U=some p) :
  Same s p.1 R∧(∀i ∈ p.2,i ∈ R)∧∃s3,putOut s1 ids r m x U=some (s3,p.2)∧Same s1 s3 R∧Agree p.1 s3 R:=by
 cases U with
 | none=>
  cases m with
  | own e E=>simp only[putOut] at h ⊢;cases h;exact ⟨.set hr _,hi,_,rfl,.set hr _,ha.set _ _⟩
  | v _=>simp only[putOut] at h;cases h
  | bx _ _=>simp only[putOut] at h;cases h
  | pr _ _=>simp only[putOut] at h;cases h
  | bld U E=>
   cases ids with
   | nil=>simp only[putOut] at h;cases h
   | cons q ids=>
    simp only[putOut,Option.map_eq_some_iff] at h ⊢
    obtain ⟨s3,h3,rfl⟩:=h
    obtain ⟨h1,s4,h4,h5,h6⟩:=news_g _ ha (fun p hp=>by simp only[List.mem_singleton] at hp;subst hp;exact hi q (by simp)) h3
    exact ⟨h1.trans (.set hr _),fun i h=>hi i (by simp[h]),_,⟨s4,h4,rfl⟩,h5.trans (.set hr _),h6.set _ _⟩
 | some U=>
  simp only[putOut,Option.map_eq_some_iff] at h ⊢
  obtain ⟨s3,h3,rfl⟩:=h
  obtain ⟨e1,e2⟩:=emitC_ids m x ids
  obtain ⟨h1,s4,h4,h5,h6⟩:=news_g _ ha (fun p hp=>hi _ (e1 p hp)) h3
  exact ⟨h1.trans (.set hr _),fun i h=>hi i (e2 i h),_,⟨s4,h4,rfl⟩,h5.trans (.set hr _),h6.set _ _⟩
theorem putOuts_g:∀(os:List (M × Option TypeId)) {s s1 s2:St} {ids:List Nat} {l:List Nat} {d:dens (os.map (·.1))},Agree s s1 R→(∀r ∈ l,r ∈ R)→(∀i ∈ ids,i ∈ R)→putOuts s ids os l d=some s2 →
  Same s s2 R∧∃s3,putOuts s1 ids os l d=some s3∧Same s1 s3 R∧Agree s2 s3 R
 | [],s,s1,s2,ids,l,d,ha,_,_,h=>by
  cases l with
  | nil=>simp only[putOuts,Option.some.injEq] at h ⊢;subst h;exact ⟨.refl _ _,s1,rfl,.refl _ _,ha⟩
  | cons _ _=>simp[putOuts] at h
 | [o],s,s1,s2,ids,l,d,ha,hl,hi,h=>by
  match l with
  | []=>simp[putOuts] at h
  | [r]=>
   simp only[putOuts,Option.map_eq_some_iff] at h ⊢
   obtain ⟨p,hp,rfl⟩:=h
   obtain ⟨h1,_,s3,h3,h4,h5⟩:=putOut_g ha (hl r (by simp)) hi hp
   exact ⟨h1,s3,⟨_,h3,rfl⟩,h4,h5⟩
  | _::_::_=>simp[putOuts] at h
 | o::o'::os,s,s1,s2,ids,l,d,ha,hl,hi,h=>by
  match l with
  | []=>simp[putOuts] at h
  | r::l=>
   simp only[putOuts,Option.bind_eq_some_iff] at h ⊢
   obtain ⟨p,hp,h⟩:=h
   obtain ⟨h1,h2,s3,h3,h4,h5⟩:=putOut_g ha (hl r (by simp)) hi hp
   obtain ⟨k1,s4,k2,k3,k4⟩:=putOuts_g (o'::os) h5 (fun r hr=>hl r (by simp[hr])) h2 h
   exact ⟨h1.trans k1,s4,⟨_,h3,k2⟩,h4.trans k3,k4⟩
theorem asV1_g {lend:Nat→Bool} {t:Ty} {v:LV} (h:∀r ∈ v.roots,s1.root r=s.root r):asV1 s1 lend t v=asV1 s lend t v:=by
 cases v with
 | own r=>simp only[asV1,h r (by simp[LV.roots])]
 | sub r lo n=>simp only[asV1,h r (by simp[LV.roots])]
 | _=>rfl
def one (v:LV):List Nat:=match v with
 | .own r | .sub r _ _ | .ptr r _ _ | .optr r=>[r]
 | _=>[]
theorem asV1_o {lend:Nat→Bool} {t:Ty} {v:LV} (h:∀r ∈ one v,s1.root r=s.root r):asV1 s1 lend t v=asV1 s lend t v:=by
 cases v with
 | own r=>simp only[asV1,h r (by simp[one])]
 | sub r lo n=>simp only[asV1,h r (by simp[one])]
 | _=>rfl
theorem assemble_g {lend:Nat→Bool}:∀(t:Ty) {vs:List LV},(∀r ∈ vs.flatMap one,s1.root r=s.root r)→assemble s1 lend t vs=assemble s lend t vs
 | .pair a b,vs,h=>by
  rw[assemble,assemble,assemble_g a h]
  cases ha:assemble s lend a vs with
  | none=>rfl
  | some p=>
   have hr:=assemble_rest (x:=p.1) (rest:=p.2) ha
   rw[Option.bind_some,Option.bind_some,assemble_g b (vs:=p.2)]
   intro r hrr
   refine h r ?_
   rw[List.mem_flatMap] at hrr ⊢
   obtain ⟨x,hx,hx2⟩:=hrr
   rw[hr] at hx
   exact ⟨x,List.mem_of_mem_drop hx,hx2⟩
 | .int _,vs,h=>by cases vs with | nil=>rfl | cons v vs=>rw[assemble,assemble,asV1_o (s:=s) (s1:=s1) (fun r hr=>h r (by simp[hr]))]
 | .bool,vs,h=>by cases vs with | nil=>rfl | cons v vs=>rw[assemble,assemble,asV1_o (s:=s) (s1:=s1) (fun r hr=>h r (by simp[hr]))]
 | .str,vs,h=>by cases vs with | nil=>rfl | cons v vs=>rw[assemble,assemble,asV1_o (s:=s) (s1:=s1) (fun r hr=>h r (by simp[hr]))]
 | .err,vs,h=>by cases vs with | nil=>rfl | cons v vs=>rw[assemble,assemble,asV1_o (s:=s) (s1:=s1) (fun r hr=>h r (by simp[hr]))]
 | .slice _,vs,h=>by cases vs with | nil=>rfl | cons v vs=>rw[assemble,assemble,asV1_o (s:=s) (s1:=s1) (fun r hr=>h r (by simp[hr]))]
theorem asV_g {lend:Nat→Bool} {t:Ty} {v:LV} (h:∀r ∈ v.roots,s1.root r=s.root r):asV s1 lend t v=asV s lend t v:=by
 cases v with
 | agg vs=>simp only[asV,assemble_g (s:=s) (s1:=s1) t (vs:=vs) h]
 | val t x=>rfl
 | own r=>simp only[asV,asV1_g (s:=s) (s1:=s1) h]
 | sub r lo n=>simp only[asV,asV1_g (s:=s) (s1:=s1) h]
 | _=>rfl
theorem lenV_g {t:Ty} {v:LV} (h:∀r ∈ v.roots,s1.root r=s.root r):lenV s1 t v=lenV s t v:=by
 cases v with
 | own r=>simp only[lenV,h r (by simp[LV.roots])]
 | val t x=>cases t <;> rfl
 | _=>rfl
theorem vpIn_g {lend:Nat→Bool} {t:Ty} {v:LV} (h:∀r ∈ v.roots,s1.root r=s.root r∧∀q ∈ (s.root r).roots,s1.root q=s.root q):capsIn.vpIn s1 lend t v=capsIn.vpIn s lend t v:=by
 unfold capsIn.vpIn
 split
 ·rename_i r
  obtain ⟨h1,h2⟩:=h r (by simp[LV.roots])
  rw[h1]
  cases hr:s.root r with
  | box T cs=>
   rw[hr] at h2
   simp only[assemble_g (s:=s) (s1:=s1) t (vs:=cs) h2]
  | _=>rfl
 ·rfl
 ·rfl
theorem capsIn_g {lend:Nat→Bool}:∀(l:List Ty) {vs:List LV},(∀r ∈ vs.flatMap one,s1.root r=s.root r∧∀q ∈ (s.root r).roots,s1.root q=s.root q)→capsIn s1 lend l vs=capsIn s lend l vs
 | [],vs,_=>by cases vs <;> rfl
 | [t],vs,h=>by
  match vs with
  | []=>rfl
  | [v]=>
   simp only[capsIn]
   exact vpIn_g' (vs:=[v]) h
  | _::_::_=>rfl
 | t::u::l,vs,h=>by
  match vs with
  | []=>rfl
  | v::vs=>
   simp only[capsIn]
   rw[vpIn_g' (vs:=v::vs) (v:=v) (lend:=lend) (t:=t) (by
    intro r hr
    exact h r (by simpa using hr)),capsIn_g (u::l) (vs:=vs) (fun r hr=>h r (by rw[List.flatMap_cons];exact List.mem_append.2 (.inr hr)))]
where
 vpIn_g' {lend:Nat→Bool} {t:Ty} {v:LV} {vs:List LV} (h:∀r ∈ (v::vs.tail).flatMap one,s1.root r=s.root r∧∀q ∈ (s.root r).roots,s1.root q=s.root q):capsIn.vpIn s1 lend t v=capsIn.vpIn s lend t v:=by
  cases v with
  | ptr r i j=>exact vpIn_g (fun q hq=>h q (by rw[List.flatMap_cons];exact List.mem_append.2 (.inl hq)))
  | agg vs=>rfl
  | tup vs=>rfl
  | fn f vs=>rfl
  | _=>exact vpIn_g (by intro r hr;first | (simp[LV.roots] at hr;done) | exact h r (by rw[List.flatMap_cons];exact List.mem_append.2 (.inl hr)))
theorem argIn_g {lend:Nat→Bool} {p:Pm} {v:LV} (hp:p.stays=true) (h:∀r ∈ v.roots,s1.root r=s.root r∧∀q ∈ (s.root r).roots,s1.root q=s.root q):argIn s1 lend p v=argIn s lend p v:=by
 cases p with
 | arg m=>
  cases m with
  | v t=>simp only[argIn,absorb,asV_g (s:=s) (s1:=s1) (fun r hr=>(h r hr).1)]
  | _=>cases hp
 | inout e E=>
  cases v with
  | own r=>simp only[argIn,(h r (by simp[LV.roots])).1]
  | _=>rfl
 | box T m=>
  cases m with
  | v t=>
   simp only[argIn]
   split
   ·rename_i r
    obtain ⟨h1,h2⟩:=h r (by simp[LV.roots])
    rw[h1]
    cases hr:s.root r with
    | box T' cs=>
     rw[hr] at h2
     simp only[absorbC,assemble_g (s:=s) (s1:=s1) t (vs:=cs) h2]
    | _=>rfl
   ·rfl
  | _=>cases hp
 | vp t=>simp only[argIn,vpIn_g (s:=s) (s1:=s1) h]
 | fnc f caps=>
  cases v with
  | fn g vs=>simp only[argIn,capsIn_g (s:=s) (s1:=s1) caps (vs:=vs) h]
  | _=>rfl
 | bldw T E=>cases hp
 | sin _ _ _ _=>cases hp
theorem argsIn_g {lend:Nat→Bool}:∀(ps:List Pm) {vs:List LV},ps.all Pm.stays=true→(∀r ∈ vs.flatMap LV.roots,s1.root r=s.root r∧∀q ∈ (s.root r).roots,s1.root q=s.root q)→argsIn s1 lend ps vs=argsIn s lend ps vs
 | [],vs,_,_=>by cases vs <;> rfl
 | [p],vs,hp,h=>by
  match vs with
  | []=>rfl
  | [v]=>simp only[argsIn,argIn_g (s:=s) (s1:=s1) (by simpa using hp) (fun r hr=>h r (by simpa using hr))]
  | _::_::_=>rfl
 | p::q::ps,vs,hp,h=>by
  match vs with
  | []=>rfl
  | v::vs=>
   rw[List.all_cons,Bool.and_eq_true] at hp
   simp only[argsIn]
   rw[argIn_g (s:=s) (s1:=s1) hp.1 (fun r hr=>h r (by rw[List.flatMap_cons];exact List.mem_append.2 (.inl hr))),argsIn_g (q::ps) hp.2 (fun r hr=>h r (by rw[List.flatMap_cons];exact List.mem_append.2 (.inr hr)))]
theorem arg_lent {lend:Nat→Bool} {p:Pm} {v:LV} {x:p.den} {e:List Nat} {r:Nat} (h:argIn s lend p v=some (x,e,some r)):r ∈ v.roots:=by
 cases p with
 | arg m=>simp only[argIn,Option.map_eq_some_iff] at h;obtain ⟨_,_,h⟩:=h;cases h
 | inout e' E=>
  simp only[argIn] at h
  split at h
  ·split at h
   ·rename_i r' e2 E2 xs hr
    cases hb:Nat.beq E E2 with
    | false=>rw[hb] at h;cases h
    | true=>rw[hb,cond_true,Option.map_eq_some_iff] at h;obtain ⟨_,_,h⟩:=h;cases h;simp[LV.roots]
   ·cases h
  ·cases h
 | box T m=>
  simp only[argIn] at h
  split at h
  ·split at h
   ·rename_i r' T' vs hr
    cases hb:Nat.beq T T' with
    | false=>rw[hb] at h;cases h
    | true=>
     rw[hb,cond_true,Option.bind_eq_some_iff] at h
     obtain ⟨_,_,h⟩:=h
     split at h
     ·cases h;simp[LV.roots]
     ·cases h
   ·cases h
  ·cases h
 | vp t=>simp only[argIn,Option.map_eq_some_iff] at h;obtain ⟨_,_,h⟩:=h;cases h
 | fnc f caps=>
  simp only[argIn] at h
  split at h
  ·rename_i g vs
   cases hb:Nat.beq f g with
   | false=>rw[hb] at h;cases h
   | true=>rw[hb,cond_true,Option.map_eq_some_iff] at h;obtain ⟨_,_,h⟩:=h;cases h
  ·cases h
 | bldw T E=>
  simp only[argIn] at h
  split at h
  ·rw[Option.map_eq_some_iff] at h;obtain ⟨_,_,h⟩:=h;cases h;simp[LV.roots]
  ·cases h
 | sin k e' E n=>
  simp only[argIn] at h
  split at h
  ·rename_i vs
   cases hb0:Nat.beq vs.length (k+(n+1)) with
   | false=>rw[hb0] at h;cases h
   | true=>
    rw[hb0,cond_true] at h
    split at h
    ·rename_i r0 hk
     split at h
     ·rename_i e2 E2 xs hr
      cases hb:Nat.beq E E2 with
      | false=>rw[hb] at h;cases h
      | true=>
       rw[hb,cond_true,Option.map_eq_some_iff] at h
       obtain ⟨_,_,h⟩:=h
       cases h
       rw[Nat.beq_eq] at hb0
       have hm:LV.own r ∈ vs:=by
        rw[←hk,List.getD_eq_getElem?_getD,List.getElem?_eq_getElem (by omega)]
        exact List.getElem_mem _
       simp only[LV.roots]
       exact List.mem_flatMap.2 ⟨_,hm,by simp⟩
     ·cases h
    ·cases h
  ·cases h
theorem args_lent {lend:Nat→Bool}:∀{ps:List Pm} {vs:List LV} {x:pdens ps} {e l:List Nat},argsIn s lend ps vs=some (x,e,l)→∀r ∈ l,r ∈ vs.flatMap LV.roots
 | [],vs,x,e,l,h=>by
  cases vs with
  | nil=>simp only[argsIn,Option.some.injEq,Prod.mk.injEq] at h;rw[←h.2.2];simp
  | cons _ _=>simp[argsIn] at h
 | [p],vs,x,e,l,h=>by
  match vs with
  | []=>simp[argsIn] at h
  | [v]=>
   simp only[argsIn,Option.map_eq_some_iff] at h
   obtain ⟨⟨y,e1,l1⟩,hy,h⟩:=h
   cases h
   intro r hr
   rw[Option.mem_toList] at hr
   simp only at hr
   rw[hr] at hy
   simpa using arg_lent hy
  | _::_::_=>simp[argsIn] at h
 | p::q::ps,vs,x,e,l,h=>by
  match vs with
  | []=>simp[argsIn] at h
  | v::vs=>
   simp only[argsIn,Option.bind_eq_some_iff,Option.map_eq_some_iff] at h
   obtain ⟨⟨y,e1,l1⟩,hy,⟨z,e2,l2⟩,hz,h⟩:=h
   cases h
   intro r hr
   rw[List.flatMap_cons]
   rcases List.mem_append.1 hr with hr | hr
   ·rw[Option.mem_toList] at hr
    simp only at hr
    rw[hr] at hy
    exact List.mem_append.2 (.inl (arg_lent hy))
   ·exact List.mem_append.2 (.inr (args_lent hz r hr))
theorem lendR_g {g:Sig} {el:List Nat} {vs:List LV} (hK:(g.res++outs g.params).all M.flat=true∨vs.flatMap LV.roots=[]∨soleV g.params vs=true):lendR s1 g el vs=lendR s g el vs:=by
 unfold lendR
 rw[taken_nil (s:=s1) hK,taken_nil (s:=s) hK]
theorem call_g {g:Sig} {vs:List LV} (hK:(g.res++outs g.params).all M.flat=true∨vs.flatMap LV.roots=[]∨soleV g.params vs=true) (hq:g.params.all Pm.stays=true) (ha:Agree s s1 R) (hi:∀i ∈ ids,i ∈ R) (hv:∀r ∈ vs.flatMap LV.roots,r ∈ R∧∀q ∈ (s.root r).roots,q ∈ R) (h:(callR s g ids vs).To (v,s2)) :
  Touch (callR s1 g ids vs) s s1 R v s2:=by
 have hag:∀r ∈ vs.flatMap LV.roots,s1.root r=s.root r∧∀q ∈ (s.root r).roots,s1.root q=s.root q:=fun r hr=>⟨ha.root r (hv r hr).1,fun q hqq=>ha.root q ((hv r hr).2 q hqq)⟩
 unfold callR at h ⊢
 simp only[argsIn_g (s:=s) (s1:=s1) g.params hq hag,lendR_g (s:=s) (s1:=s1) hK,taken_nil (s:=s) hK,taken_nil (s:=s1) hK,List.append_nil] at h ⊢
 split at h
 ·rename_i x1 e1 l1 h1
  try simp only at h ⊢
  split at h
  ·rename_i x e l h2
   obtain rfl:=stays_args hq h2
   have hl:=args_lent h2
   try simp only[h1,h2]
   cases hc:(decide ([]++l:List Nat).Nodup&&([]++l:List Nat).all fun r=>(e1++l1).contains r) with
   | false=>rw[hc] at h;exact h.elim
   | true=>
    rw[hc,cond_true] at h
    rw[cond_true]
    obtain ⟨y,hy,h⟩:=h
    simp only[St.kill] at h
    split at h
    ·rename_i s3 h3
     split at h
     ·rename_i s4 h4
      cases h
      obtain ⟨i1,i2⟩:=emits_ids g.res (splitD g.res (outs g.params) y).1 ids
      obtain ⟨k1,s5,k2,k3,k4⟩:=news_g _ ha (fun p hp=>hi _ (i1 p hp)) h3
      obtain ⟨m1,s6,m2,m3,m4⟩:=putOuts_g _ k4 (fun r hr=>(hv r (hl r hr)).1) (fun i h=>hi i (i2 i h)) h4
      refine ⟨k1.trans m1,s6,⟨y,hy,?_⟩,k3.trans m3,m4.root⟩
      simp only[St.kill,k2]
      split
      ·rename_i s7 h7
       have:=m2.symm.trans h7
       cases this
       rfl
      ·rename_i h7
       have:=m2.symm.trans h7
       cases this
     ·exact h.elim
    ·exact h.elim
  ·exact h.elim
 ·exact h.elim
theorem mkR_g {id:Nat} {lv:LV} {x:Root} (ha:Agree s s1 R) (hi:id ∈ R) (h:(mkR s id lv x).To (v,s2)):Touch (mkR s1 id lv x) s s1 R v s2:=by
 unfold mkR at h ⊢
 split at h
 ·rename_i s3 h3
  cases h
  obtain ⟨k1,s4,k2,k3,k4⟩:=news_g _ ha (fun p hp=>by simp at hp;subst hp;exact hi) h3
  refine ⟨k1,s4,?_,k3,k4.root⟩
  rw[k2]
  rfl
 ·exact h.elim
theorem mem_addNew:∀{m l:List Nat} {r:Nat},r ∈ addNew l m↔r ∈ l∨r ∈ m
 | [],l,r=>by simp[addNew]
 | x::m,l,r=>by
  rw[addNew,mem_addNew]
  cases h:l.contains x with
  | true=>
   have hx:x ∈ l:=List.contains_iff_mem.1 h
   simp only[cond_true,List.mem_cons]
   constructor
   ·rintro (h | h)
    ·exact .inl h
    ·exact .inr (.inr h)
   ·rintro (h | rfl | h)
    ·exact .inl h
    ·exact .inl hx
    ·exact .inr h
  | false=>
   simp only[cond_false,List.mem_append,List.mem_cons,List.not_mem_nil,or_false]
   exact or_assoc
theorem fp_ids {i:Nat} (hi:i ∈ ids):i ∈ fpR s ids o:=by
 unfold fpR
 split <;> exact List.mem_append.2 (.inl hi)
theorem fp_opd {x:Operand} (hx:x ∈ o.op.operands) {r:Nat} (hr:r ∈ (s.opd x).roots):r ∈ fpR s ids o:=by
 have h:r ∈ o.op.operands.toList.flatMap fun x=>(s.opd x).roots:=List.mem_flatMap.2 ⟨x,Array.mem_toList_iff.2 hx,hr⟩
 unfold fpR
 split
 ·exact List.mem_append.2 (.inr h)
 ·exact List.mem_append.2 (.inr (mem_addNew.2 (.inl h)))
theorem fp_reach {c:Call} (hc:o.op=.call c) {x:Operand} (hx:x ∈ o.op.operands) {r q:Nat} (hr:r ∈ (s.opd x).roots) (hq:q ∈ (s.root r).roots):q ∈ fpR s ids o:=by
 unfold fpR
 split
 ·rename_i h;rw[hc] at h;cases h
 ·refine List.mem_append.2 (.inr ?_)
  unfold St.reach
  exact mem_addNew.2 (.inr (List.mem_flatMap.2 ⟨r,List.mem_flatMap.2 ⟨x,Array.mem_toList_iff.2 hx,hr⟩,hq⟩))
theorem opR_g (hk:kls C n ids s o≤2) (h:(opR C n ids o s).To (v,s2)) (ha:Agree s s1 (fpR s ids o)) (ho:∀x ∈ o.op.operands,s1.opd x=s.opd x):Touch (opR C n ids o s1) s s1 (fpR s ids o) v s2:=by
 by_cases hk0:kls C n ids s o=0
 ·obtain ⟨h1,h2⟩:=opR_0 hk0 h
  exact .same ha h1 (h2 s1 ho)
 replace hk0:kls C n ids s o≠0:=hk0
 have hid:∀i ∈ ids,i ∈ fpR s ids o:=fun i hi=>fp_ids hi
 have hrt:∀x ∈ o.op.operands,∀r ∈ (s.opd x).roots,s1.root r=s.root r:=fun x hx r hr=>ha.root r (fp_opd hx hr)
 generalize hR:fpR s ids o=R at ha hid ⊢
 unfold kls at hk hk0
 unfold opR at h ⊢
 cases hop:o.op with
 | move x=>simp only[hop] at hk0;exact absurd rfl hk0
 | assign x=>simp only[hop] at hk0;exact absurd rfl hk0
 | pick a b c=>simp only[hop] at hk0;exact absurd rfl hk0
 | nilCheck x=>simp only[hop] at hk0;exact absurd rfl hk0
 | unOp a b c=>simp only[hop] at hk0;exact absurd rfl hk0
 | convert a b c=>simp only[hop] at hk0;exact absurd rfl hk0
 | makeFunc a b c=>simp only[hop] at hk0;exact absurd rfl hk0
 | makeInterface a b=>simp only[hop] at hk0;exact absurd rfl hk0
 | index a b c=>simp only[hop] at hk0;exact absurd rfl hk0
 | extract a b=>simp only[hop] at hk0;exact absurd rfl hk0
 | box U x=>
  simp only[hop] at h ⊢
  split at h
  ·rename_i ti id h1
   cases hb:Nat.beq (cellsOf (s.opd x)).length ti.ty.size with
   | false=>simp only[hb] at h;exact h.elim
   | true=>
    simp only[hb,cond_true] at h
    simp only[h1,ho x (by simp[hop,Op.operands]),hb,cond_true]
    exact mkR_g ha (hid _ (by simp)) h
  ·rename_i ti h1
   split at h
   ·rename_i u hu
    cases h
    refine .same ha rfl ?_
    simp only[h1,ho x (by simp[hop,Op.operands]),asV_no (s:=s) (s1:=s1),hu]
    rfl
   ·exact h.elim
  ·exact h.elim
 | alloc U=>
  simp only[hop] at h ⊢
  split at h
  ·rename_i ti id h1
   try simp only[h1]
   exact mkR_g ha (hid _ (by simp)) h
  ·unfold bldNew at h
   split at h
   ·rename_i r q E hE hnn
    split at h
    ·rename_i s3 h2
     cases h
     obtain ⟨k1,s4,k2,k3,k4⟩:=news_g _ ha (fun p hp=>hid _ (by
      simp only[List.mem_cons,List.not_mem_nil,or_false] at hp
      rcases hp with rfl | rfl <;> simp)) h2
     refine ⟨k1,s4,?_,k3,k4.root⟩
     simp only[bldNew,hE,k2]
     rfl
    ·exact h.elim
   ·exact h.elim
 | build U ps=>
  simp only[hop] at h ⊢
  have hps:∀p ∈ ps.toList,s1.opd p.2=s.opd p.2:=fun p hp=>ho _ (by simp only[hop,Op.operands];simp only[List.mem_toArray,List.mem_map];exact ⟨p,hp,rfl⟩)
  have hbc:∀(ps:List (Nat × Operand)) (offs szs:List Nat) (cs:List LV),(∀p ∈ ps,s1.opd p.2=s.opd p.2)→buildCells offs szs s1 ps cs=buildCells offs szs s ps cs:=by
   intro ps
   induction ps with
   | nil=>intros;rfl
   | cons p ps ih=>
    intro offs szs cs hp
    obtain ⟨i,x⟩:=p
    simp only[buildCells,hp (i,x) (by simp)]
    split
    ·rw[ih _ _ _ (fun q hq=>hp q (by simp[hq]))]
    ·rfl
  split at h
  ·rename_i ti h1
   split at h
   ·rename_i cs h2
    cases hb:ti.ty.isPair with
    | false=>rw[hb] at h;exact h.elim
    | true=>
     rw[hb,cond_true] at h
     cases h
     refine .same ha rfl ?_
     simp only[hbc ps.toList _ _ _ hps,h2,hb,cond_true,ofCells_no (s:=s) (s1:=s1)]
     rfl
   ·exact h.elim
  ·exact h.elim
 | buildSlice U len ps=>
  simp only[hop] at h ⊢
  have hps:∀p ∈ ps.toList,s1.opd p.2=s.opd p.2:=fun p hp=>ho _ (by simp only[hop,Op.operands];simp only[List.mem_toArray,List.mem_map];exact ⟨p,hp,rfl⟩)
  have hbc:∀(e:Ty) (ps:List (Nat × Operand)) (xs:List e.den),(∀p ∈ ps,s1.opd p.2=s.opd p.2)→partsV s1 e ps xs=partsV s e ps xs:=by
   intro e ps
   induction ps with
   | nil=>intros;rfl
   | cons p ps ih=>
    intro xs hp
    obtain ⟨i,x⟩:=p
    simp only[partsV,hp (i,x) (by simp),asV_no (s:=s) (s1:=s1)]
    congr 2
    funext y
    exact ih _ (fun q hq=>hp q (by simp[hq]))
  split at h
  ·rename_i ti h1
   split at h
   ·rename_i ei h2
    split at h
    ·rename_i xs h3
     cases hb:Nat.ble (len*ei.ty.size) 16777216 with
     | false=>rw[hb] at h;exact h.elim
     | true=>
      rw[hb,cond_true] at h
      cases hs:ti.ty.isSlice with
      | false=>rw[hs] at h;exact h.elim
      | true=>
       rw[hs,cond_true] at h
       simp only[h1,h2,hbc _ ps.toList _ hps,h3,hb,hs,cond_true]
       split at h
       ·cases h
        exact .same ha rfl rfl
       ·exact mkR_g ha (hid _ (by simp)) h
       ·exact h.elim
    ·exact h.elim
   ·exact h.elim
  ·exact h.elim
 | load U x=>
  simp only[hop] at h ⊢
  have hx:=hrt x (by simp[hop,Op.operands])
  have e:∀ti:TI,loadV s1 ti (s.opd x)=loadV s ti (s.opd x):=by
   intro ti
   cases hv:s.opd x with
   | ptr r i j=>simp only[loadV,hx r (by rw[hv];simp[LV.roots]),ofCells_no (s:=s) (s1:=s1)]
   | _=>rfl
  split at h
  ·rename_i ti h1
   split at h
   ·rename_i u h2
    cases h
    refine .same ha rfl ?_
    simp only[ho x (by simp[hop,Op.operands]),e,h2]
    rfl
   ·rename_i h2
    split at h
    ·rename_i u h3
     cases h
     refine .same ha rfl ?_
     simp only[ho x (by simp[hop,Op.operands]),e,h2,h3]
     rfl
    ·exact h.elim
  ·split at h
   ·rename_i u h2
    cases h
    refine .same ha rfl ?_
    simp only[ho x (by simp[hop,Op.operands]),h2]
    rfl
   ·exact h.elim
 | store U x y=>
  simp only[hop] at h ⊢
  have hx:=hrt x (by simp[hop,Op.operands])
  have hfx:∀r ∈ (s.opd x).roots,r ∈ R:=fun r hr=>hR ▸ fp_opd (x:=x) (by simp[hop,Op.operands]) hr
  split at h
  ·rename_i ti h1
   split at h
   ·rename_i s3 h2
    cases h
    have key:∃r X,r ∈ R∧s2=s.setRoot r X∧storeV s1 ti (s.opd x) (s.opd y)=some (s1.setRoot r X):=by
     unfold storeV at h2 ⊢
     cases hv:s.opd x with
     | ptr r i j=>
      rw[hv] at h2
      have hrr:r ∈ (s.opd x).roots:=by rw[hv];simp[LV.roots]
      simp only[hx r hrr] at h2 ⊢
      cases hroot:s.root r with
      | dead=>rw[hroot] at h2;cases h2
      | row e E xs=>
       rw[hroot] at h2
       simp only[asV_no (s:=s) (s1:=s1)] at h2 ⊢
       split at h2
       ·rename_i l u hl hu
        cases h2
        exact ⟨r,_,hfx r hrr,rfl,by simp only[hl,hu]⟩
       ·cases h2
      | box T cs=>
       rw[hroot] at h2
       simp only at h2 ⊢
       cases hb:(Nat.beq i 0&&Nat.ble (j+ti.ty.size) cs.length&&Nat.beq (cellsOf (s.opd y)).length ti.ty.size) with
       | true=>rw[hb,cond_true] at h2;cases h2;exact ⟨r,_,hfx r hrr,rfl,rfl⟩
       | false=>rw[hb,cond_false] at h2;cases h2
     | _=>rw[hv] at h2;cases h2
    obtain ⟨r,X,hr,rfl,h3⟩:=key
    refine ⟨.set hr X,s1.setRoot r X,?_,.set hr X,fun q hq=>(ha.set r X).root q hq⟩
    simp only[ho x (by simp[hop,Op.operands]),ho y (by simp[hop,Op.operands]),h3]
    rfl
   ·exact h.elim
  ·exact h.elim
 | binOp op t x y w=>
  simp only[hop] at h ⊢
  have hx:=hrt x (by simp[hop,Op.operands])
  split at h
  ·rename_i u h2
   cases h
   refine .same ha rfl ?_
   rw[errCmp_r (ho x (by simp[hop,Op.operands])) (ho y (by simp[hop,Op.operands])),h2]
   rfl
  rename_i hec
  obtain ⟨u,h1,h2⟩:=bind_ret h
  cases h2
  refine .same ha rfl ?_
  rw[errCmp_r (ho x (by simp[hop,Op.operands])) (ho y (by simp[hop,Op.operands])),hec]
  have e:binR C.tb s1 op t (s.opd x) (s.opd y)=binR C.tb s op t (s.opd x) (s.opd y):=by
   have eq:∀neg,eqlR C.tb s1 t neg (s.opd x) (s.opd y)=eqlR C.tb s t neg (s.opd x) (s.opd y):=by
    intro neg
    simp only[eqlR,asV_no (s:=s) (s1:=s1),lenV_g (s:=s) (s1:=s1) hx]
   unfold binR
   split
   ·exact eq false
   ·exact eq true
   ·rfl
  simp only[ho x (by simp[hop,Op.operands]),ho y (by simp[hop,Op.operands]),e]
  exact to_bind_ret h1
 | fieldAddr U x f=>
  simp only[hop] at h ⊢
  have hx:=hrt x (by simp[hop,Op.operands])
  split at h
  ·rename_i ti h1
   split at h
   ·rename_i u h2
    cases h
    refine .same ha rfl ?_
    have e:fieldAddrV s1 ti f (s.opd x)=fieldAddrV s ti f (s.opd x):=by
     cases hv:s.opd x with
     | ptr r i j=>simp only[fieldAddrV,hx r (by rw[hv];simp[LV.roots])]
     | _=>rfl
    simp only[ho x (by simp[hop,Op.operands]),e,h2]
    rfl
   ·exact h.elim
  ·exact h.elim
 | indexAddr U x i=>
  simp only[hop] at h ⊢
  have hx:=hrt x (by simp[hop,Op.operands])
  split at h
  ·rename_i ti h1
   obtain ⟨u,h3,h2⟩:=bind_ret h
   cases h2
   refine .same ha rfl ?_
   have e:indexAddrR s1 ti.ty (s.opd x) (s.opd i)=indexAddrR s ti.ty (s.opd x) (s.opd i):=by
    unfold indexAddrR
    split
    ·unfold indexAddrI
     cases hv:s.opd x with
     | own r=>simp only[hx r (by rw[hv];simp[LV.roots])]
     | sub r lo n=>simp only[hx r (by rw[hv];simp[LV.roots])]
     | val t _=>cases t <;> rfl
     | _=>rfl
    ·rfl
   simp only[ho x (by simp[hop,Op.operands]),ho i (by simp[hop,Op.operands]),e]
   exact to_bind_ret h3
  ·obtain ⟨u,h3,h2⟩:=bind_ret h
   cases h2
   refine .same ha rfl ?_
   simp only[ho x (by simp[hop,Op.operands]),ho i (by simp[hop,Op.operands])]
   exact to_bind_ret h3
 | makeSlice U l c=>
  simp only[hop] at h ⊢
  split at h
  ·rename_i ti _ a _ b id h1 h2 h3
   split at h
   ·rename_i ei h4
    cases hs:ti.ty.isSlice with
    | false=>rw[hs] at h;exact h.elim
    | true=>
     rw[hs,cond_true] at h
     rcases h with ⟨c1,⟨c2,⟨c3,h⟩ | ⟨_,h⟩⟩ | ⟨_,h⟩⟩ | ⟨_,h⟩
     ·obtain ⟨k1,s4,k2,k3,k4⟩:=mkR_g ha (hid _ (by simp)) h
      refine ⟨k1,s4,?_,k3,k4⟩
      simp only[h1,ho l (by simp[hop,Op.operands]),ho c (by simp[hop,Op.operands]),h2,h3,h4,hs,cond_true]
      exact .inl ⟨c1,.inl ⟨c2,.inl ⟨c3,k2⟩⟩⟩
     ·exact h.elim
     ·exact h.elim
     ·exact h.elim
   ·exact h.elim
  ·exact h.elim
 | slice t x lo hi mx=>
  simp only[hop] at h ⊢
  have hx:=hrt x (by simp[hop,Op.operands])
  have e1:lo.map s1.opd=lo.map s.opd:=by
   cases lo with
   | none=>rfl
   | some y=>simp only[Option.map_some];rw[ho y (by simp[hop,Op.operands])]
  have e2:hi.map s1.opd=hi.map s.opd:=by
   cases hi with
   | none=>rfl
   | some y=>simp only[Option.map_some];rw[ho y (by simp[hop,Op.operands])]
  rw[e1,e2]
  split at h
  ·rename_i ti lo' hi' h1 h2 h3
   obtain ⟨u,h4,h5⟩:=bind_ret h
   cases h5
   refine .same ha rfl ?_
   have e:sliceR s1 ti.ty (s.opd x) lo' hi'=sliceR s ti.ty (s.opd x) lo' hi':=by
    unfold sliceR
    cases hv:s.opd x with
    | own r=>simp only[hx r (by rw[hv];simp[LV.roots])]
    | sub r lo n=>simp only[hx r (by rw[hv];simp[LV.roots])]
    | val t _=>cases t <;> rfl
    | _=>rfl
   simp only[h1,h2,h3,ho x (by simp[hop,Op.operands]),e]
   exact to_bind_ret h4
  ·rename_i ti m lo' hi' h1 h2 h3
   split at h
   ·rename_i km mv hm
    obtain ⟨u,h4,h5⟩:=bind_ret h
    cases h5
    refine .same ha rfl ?_
    have e:slice3R s1 ti.ty (s.opd x) lo' hi' mv=slice3R s ti.ty (s.opd x) lo' hi' mv:=by
     unfold slice3R
     rw[lenV_g (s:=s) (s1:=s1) hx]
    simp only[h1,h2,h3,ho x (by simp[hop,Op.operands]),ho m (by simp[hop,Op.operands]),hm,e]
    exact to_bind_ret h4
   ·exact h.elim
  ·exact h.elim
 | call c=>
  have hargs:c.args.toList.map s1.opd=c.args.toList.map s.opd:=List.map_congr_left fun x hx=>ho x (by simp only[hop,Op.operands,Call.operands];exact Array.mem_append.2 (.inr (Array.mem_toList_iff.1 hx)))
  have hmem:∀x ∈ c.args.toList,x ∈ o.op.operands:=fun x hx=>by simp only[hop,Op.operands,Call.operands];exact Array.mem_append.2 (.inr (Array.mem_toList_iff.1 hx))
  have hfl:∀r ∈ (c.args.toList.map s.opd).flatMap LV.roots,r ∈ R∧∀q ∈ (s.root r).roots,q ∈ R:=by
   intro r hr
   obtain ⟨w,hw,hr⟩:=List.mem_flatMap.1 hr
   obtain ⟨x,hx,rfl⟩:=List.mem_map.1 hw
   exact ⟨hR ▸ fp_opd (hmem x hx) hr,fun q hq=>hR ▸ fp_reach hop (hmem x hx) hr hq⟩
  simp only[hop] at h hk ⊢
  cases hcl:c.callee with
  | builtin b=>
   simp only[hcl] at h hk ⊢
   rw[hargs]
   have hb:b=.len∨b=.min∨b=.max:=by
    cases b <;> first | exact .inl rfl | exact .inr (.inl rfl) | exact .inr (.inr rfl) | (have h9:3≤2:=hk;omega) | (have h9:4≤2:=hk;omega)
   generalize hvs:c.args.toList.map s.opd=vs at h hfl
   unfold builtinR at h ⊢
   split at h
   ·rename_i v0
    split at h
    ·split at h
     ·rename_i ti h1
      split at h
      ·rename_i u h2
       cases h
       refine .same ha rfl ?_
       simp only[h1,lenV_g (s:=s) (s1:=s1) (v:=v0) (fun r hr=>ha.root r (hfl r (by simpa using hr)).1),h2]
       rfl
      ·exact h.elim
     ·exact h.elim
    ·exact h.elim
   ·cases h;exact .same ha rfl rfl
   ·cases h;exact .same ha rfl rfl
   ·rcases hb with hb | hb | hb <;> cases hb
   ·rcases hb with hb | hb | hb <;> cases hb
   ·exact h.elim
  | value fo=>
   simp only[hcl] at h hk ⊢
   cases fo with
   | func f=>
    simp only[St.opd] at h hk ⊢
    cases hg:C.tab n f with
    | none=>rw[hg] at h;exact h.elim
    | some g=>
     simp only[hg] at h hk ⊢
     simp only[hargs]
     cases hn:(c.args.toList.map s.opd).all LV.noTup with
     | false=>rw[hn] at h;exact h.elim
     | true=>
      rw[hn,cond_true] at h
      rw[cond_true]
      simp only[List.append_nil] at h ⊢
      cases hfr:((g.res++outs g.params).all M.flat || rootlessAll s o || soleV g.params (c.args.toList.map s.opd)) with
      | false=>rw[hfr] at hk;cases hs:g.params.all Pm.stays <;> (rw[hs] at hk;simp at hk)
      | true=>
       have hK:(g.res++outs g.params).all M.flat=true∨(c.args.toList.map s.opd).flatMap LV.roots=[]∨soleV g.params (c.args.toList.map s.opd)=true:=by
        rw[Bool.or_eq_true,Bool.or_eq_true] at hfr
        rcases hfr with (h | h) | h
        ·exact .inl h
        ·exact .inr (.inl (rootless_roots (fun x hx=>List.all_eq_true.1 h x (Array.mem_toList_iff.2 (hmem x hx)))))
        ·exact .inr (.inr h)
       rw[hfr,cond_true] at hk
       have hst:g.params.all Pm.stays=true:=by
        cases hq:g.quiet ids with
        | true=>
         simp only[Sig.quiet,Bool.and_eq_true] at hq
         rw[List.all_eq_true] at hq ⊢
         intro p hp
         have:=hq.1.1 p hp
         cases p with
         | arg m=>cases m <;> first | rfl | cases this
         | vp t=>rfl
         | fnc f caps=>rfl
         | _=>cases this
        | false=>
         cases hs:g.params.all Pm.stays with
         | true=>rfl
         | false=>rw[hq,hs] at hk;simp at hk
       exact call_g hK hst ha hid hfl h
   | _=>simp only at hk;omega
  | invoke a b=>simp only[hcl] at hk;omega
 | _=>simp only[hop] at hk;omega
end Go.Refl
end
section
namespace Go.Refl
open Go Go.RowKit
variable {P:Program} {w0 w w':World} {Mo:Given} {F0 F F':Nat→Prop} {L L':Nat→Value} {s s':St} {a:Act}
def Steps (C:Cfg) (n:Nat) (ids:List (Nat × List Nat)) (ops:List Oper) (ks:Nat→Nat × List Nat × List Nat):List Nat→St→St→Prop
 | [],s,s'=>s'=s
 | j::l,s,s'=>∃o s1,ops[j]?=some o∧StepTo C n (opIds ids o j) (ops.map (·.dst)) (spl (usesGuard j (ops.drop (j+1))) (opIds ids o j)) o s s1∧stepK C n (opIds ids o j) (ops.map (·.dst)) s o=ks j∧Steps C n ids ops ks l s1 s'
theorem steps_text {C:Cfg} {n:Nat} {ids:List (Nat × List Nat)} {ops:List Oper} {dr:Option (List Oper)}:∀(l:List Oper) (i:Nat) {ks:List (Nat × List Nat × List Nat)} {s s':St},ops.drop i=l→ks.length=i→(opsR C n ids (ops.map (·.dst)) dr l i ks s).To s' →
  ∃ks',ks'.length=i+l.length∧(∀j,j<i→ks'[j]?=ks.reverse[j]?)∧(∀all,dr=some all→orderFree all ks'=true)∧Steps C n ids ops (fun j=>ks'.getD j (3,[],[])) (List.range' i l.length) s s'
 | [],i,ks,s,s',_,hi,h=>by
  simp only[opsR] at h
  split at h
  ·cases h;exact ⟨ks.reverse,by simpa using hi,fun _ _=>rfl,by simp,rfl⟩
  ·rename_i all
   cases ho:orderFree all ks.reverse with
   | false=>rw[ho] at h;exact h.elim
   | true=>rw[ho] at h;cases h;exact ⟨ks.reverse,by simpa using hi,fun _ _=>rfl,fun a ha=>by cases ha;exact ho,rfl⟩
 | o::l,i,ks,s,s',hl,hi,h=>by
  obtain ⟨s1,h1,h2⟩:=opsR_cons h
  have ho:ops[i]?=some o:=by
   have:=congrArg (·[0]?) hl
   simpa using this
  have hl2:ops.drop (i+1)=l:=by
   have:=congrArg (·.drop 1) hl
   simpa [List.drop_drop,Nat.add_comm] using this
  obtain ⟨ks',k1,k2,k3,k4⟩:=steps_text l (i+1) hl2 (by simp[hi]) h2
  refine ⟨ks',by rw[k1,List.length_cons];omega,fun j hj=>?_,k3,?_⟩
  ·rw[k2 j (by omega),List.reverse_cons,List.getElem?_append_left (by simp;omega)]
  ·rw[List.length_cons,List.range'_succ]
   refine ⟨o,s1,ho,by rw[hl2];exact h1,?_,k4⟩
   have:=k2 i (by omega)
   rw[List.reverse_cons,List.getElem?_append_right (by simp;omega)] at this
   simp only[List.length_reverse,hi,Nat.sub_self,List.getElem?_cons_zero] at this
   show _=ks'.getD i (3,[],[])
   rw[List.getD_eq_getElem?_getD,this]
   rfl
theorem steps_ok {C:Cfg} (hC:CfgOk P C w0 Mo F0) {n:Nat} {ids:List (Nat × List Nat)} {ops:Array Oper} {ks:Nat→Nat × List Nat × List Nat} {Q:Exit→Act→World→Prop}:∀(l:List Nat) (s s':St) (a:Act) (w:World),Steps C n ids ops.toList ks l s s'→Rel w0 Mo F0 s a w→(∀a' w',Rel w0 Mo F0 s' a' w'→Q .normal a' w') →
  wpOps P ops Q l a w
 | [],s,s',a,w,h,hr,hQ=>by
  cases h
  exact hQ _ _ hr
 | j::l,s,s',a,w,h,hr,hQ=>by
  obtain ⟨o,s1,h0,h1,_,h2⟩:=h
  exact step_ok hC hr (by rw[←Array.getElem?_toList];exact h0) h1 fun a' w' hr'=>steps_ok hC l s1 s' a' w' h2 hr' hQ
theorem rootlessAll_eq {s s1:St} {o:Oper} (ho:∀x ∈ o.op.operands,s1.opd x=s.opd x):rootlessAll s1 o=rootlessAll s o:=by
 unfold rootlessAll
 rw[Bool.eq_iff_iff,List.all_eq_true,List.all_eq_true]
 constructor
 ·intro h x hx;rw[←ho x (Array.mem_toList_iff.1 hx)];exact h x hx
 ·intro h x hx;rw[ho x (Array.mem_toList_iff.1 hx)];exact h x hx
theorem kls_eq {C:Cfg} {n:Nat} {ids:List Nat} {s s1:St} {o:Oper} (ho:∀x ∈ o.op.operands,s1.opd x=s.opd x):kls C n ids s1 o=kls C n ids s o:=by
 unfold kls
 simp only[rootlessAll_eq ho]
 cases hop:o.op with
 | call c=>
  have e:c.args.toList.map s1.opd=c.args.toList.map s.opd:=List.map_congr_left fun x hx=>ho x (by simp only[hop,Op.operands,Call.operands];exact Array.mem_append.2 (.inr (Array.mem_toList_iff.1 hx)))
  simp only[e]
 | _=>rfl
theorem fpR_eq {ids:List Nat} {s s1:St} {o:Oper} (ho:∀x ∈ o.op.operands,s1.opd x=s.opd x) (hr:(∃T x f,o.op=.fieldAddr T x f)∨∀r ∈ fpR s ids o,s1.root r=s.root r):fpR s1 ids o=fpR s ids o:=by
 have e:(o.op.operands.toList.flatMap fun x=>(s1.opd x).roots)=o.op.operands.toList.flatMap fun x=>(s.opd x).roots:=by
  rw[List.flatMap_def,List.flatMap_def]
  congr 1
  exact List.map_congr_left fun x hx=>by rw[ho x (Array.mem_toList_iff.1 hx)]
 rcases hr with ⟨T,x,f,h⟩ | hr
 ·unfold fpR
  rw[e]
  simp only[h]
 ·have e2:(o.op.operands.toList.flatMap fun x=>(s.opd x).roots).flatMap (fun r=>(s1.root r).roots)=(o.op.operands.toList.flatMap fun x=>(s.opd x).roots).flatMap fun r=>(s.root r).roots:=by
   rw[List.flatMap_def,List.flatMap_def (f:=fun r=>(s.root r).roots)]
   congr 1
   refine List.map_congr_left fun r hm=>?_
   rw[hr r]
   obtain ⟨x,hx,hx2⟩:=List.mem_flatMap.1 hm
   exact fp_opd (Array.mem_toList_iff.1 hx) hx2
  unfold fpR St.reach
  rw[e,e2]
theorem handles_eq {s s1:St} {o:Oper} (ho:∀x ∈ o.op.operands,s1.opd x=s.opd x):handlesOf s1 o=handlesOf s o:=by
 unfold handlesOf
 rw[List.flatMap_def,List.flatMap_def]
 congr 1
 exact List.map_congr_left fun x hx=>by rw[ho x (Array.mem_toList_iff.1 hx)]
theorem tag_fst {C:Cfg} {n:Nat} {ids:List Nat} {s:St} {o:Oper}:(tag C n ids s o).1=kls C n ids s o:=by
 unfold tag
 cases h:Nat.beq (kls C n ids s o) 0 with
 | true=>exact (Nat.beq_eq.mp h).symm
 | false=>
  cases h4:Nat.beq (kls C n ids s o) 4 with
  | true=>exact (Nat.beq_eq.mp h4).symm
  | false=>rfl
theorem tag_snd {C:Cfg} {n:Nat} {ids:List Nat} {s:St} {o:Oper} (h:kls C n ids s o≠0) (h4:kls C n ids s o≠4):(tag C n ids s o).2.1=fpR s ids o:=by
 unfold tag
 cases h':Nat.beq (kls C n ids s o) 0 with
 | true=>exact absurd (Nat.beq_eq.mp h') h
 | false=>
  cases h5:Nat.beq (kls C n ids s o) 4 with
  | true=>exact absurd (Nat.beq_eq.mp h5) h4
  | false=>rfl
theorem tag_zero {C:Cfg} {n:Nat} {ids:List Nat} {s:St} {o:Oper} (h:kls C n ids s o=0):tag C n ids s o=(0,[],handlesOf s o):=by
 unfold tag
 rw[h]
 rfl
theorem tag_four {C:Cfg} {n:Nat} {ids:List Nat} {s:St} {o:Oper} (h:kls C n ids s o=4):tag C n ids s o=(4,[],takesOf s ids o):=by
 unfold tag
 rw[h]
 rfl
theorem takes_eq {ids:List Nat} {s s1:St} {o:Oper} (ho:∀x ∈ o.op.operands,s1.opd x=s.opd x) (hr:∀r,s1.root r=s.root r):takesOf s1 ids o=takesOf s ids o:=by
 have e:(o.op.operands.toList.flatMap fun x=>(s1.opd x).roots)=o.op.operands.toList.flatMap fun x=>(s.opd x).roots:=by
  rw[List.flatMap_def,List.flatMap_def]
  congr 1
  exact List.map_congr_left fun x hx=>by rw[ho x (Array.mem_toList_iff.1 hx)]
 have e2:∀l:List Nat,l.flatMap (fun r=>(s1.root r).roots)=l.flatMap fun r=>(s.root r).roots:=fun l=>by
  rw[List.flatMap_def,List.flatMap_def]
  congr 1
  exact List.map_congr_left fun r _=>by rw[hr r]
 unfold takesOf St.reach
 rw[e,e2]
theorem takes_roots {ids:List Nat} {s:St} {o:Oper} {x:Operand} (hx:x ∈ o.op.operands) {r:Nat} (hr:r ∈ (s.opd x).roots):r ∈ takesOf s ids o:=
 List.mem_cons_of_mem _ (List.mem_append.2 (.inr (mem_addNew.2 (.inl (List.mem_flatMap.2 ⟨x,Array.mem_toList_iff.2 hx,hr⟩)))))
theorem takes_ids {ids:List Nat} {s:St} {o:Oper} {i:Nat} (hi:i ∈ ids):i ∈ takesOf s ids o:=List.mem_cons_of_mem _ (List.mem_append.2 (.inl hi))
theorem stepK_eq {C:Cfg} {n:Nat} {ids:List Nat} {dsts:List (Option Nat)} {s s1:St} {o:Oper} {k:Nat × List Nat × List Nat} (hk:stepK C n ids dsts s o=k) (ho:∀x ∈ o.op.operands,s1.opd x=s.opd x) (hw:wantedV dsts s1 o=wantedV dsts s o) (hr:(k.1=0∨∃T x f,o.op=.fieldAddr T x f)∨(k.1=4∧∀r,s1.root r=s.root r)∨(k.1≤2∧∀r ∈ k.2.1,s1.root r=s.root r)):stepK C n ids dsts s1 o=k:=by
 subst hk
 unfold stepK at hr ⊢
 rw[hw]
 split
 ·rename_i h
  rw[h] at hr
  simp only[tag_fst] at hr
  by_cases h0:kls C n ids s o=0
  ·rw[tag_zero h0,tag_zero ((kls_eq ho).trans h0),handles_eq ho]
  ·by_cases h4:kls C n ids s o=4
   ·have hr':∀r,s1.root r=s.root r:=by
     rcases hr with (hr | ⟨T,x,f,hr⟩) | hr | hr
     ·exact absurd hr h0
     ·exfalso
      unfold kls at h4
      rw[hr] at h4
      revert h4
      cases rootlessAll s o <;> intro h4 <;> cases h4
     ·exact hr.2
     ·have:=hr.1;omega
    rw[tag_four h4,tag_four ((kls_eq ho).trans h4),takes_eq ho hr']
   ·rw[tag_snd h0 h4] at hr
    have hr':(∃T x f,o.op=.fieldAddr T x f)∨∀r ∈ fpR s ids o,s1.root r=s.root r:=by
     rcases hr with (hr | hr) | hr | hr
     ·exact absurd hr h0
     ·exact .inl hr
     ·exact absurd hr.1 h4
     ·exact .inr hr.2
    unfold tag
    rw[kls_eq ho,fpR_eq ho hr',handles_eq ho]
    have hb:Nat.beq (kls C n ids s o) 4=false:=by
     cases hb:Nat.beq (kls C n ids s o) 4 with
     | false=>rfl
     | true=>exact absurd (Nat.beq_eq.mp hb) h4
    rw[hb]
    rfl
 ·rfl
theorem step_local {C:Cfg} {n:Nat} {ids:List Nat} {dsts:List (Option Nat)} {sp:Nat} {o:Oper} {k:Nat × List Nat × List Nat} (hk:stepK C n ids dsts s o=k) (hc:k.1≤2) (h:StepTo C n ids dsts sp o s s') :
  ∃q v,s'=q.put o.dst v∧Same s q k.2.1∧∀s1:St,Agree s s1 k.2.1→(∀x ∈ o.op.operands,s1.opd x=s.opd x)→wantedV dsts s1 o=wantedV dsts s o →
   ∃q1,StepTo C n ids dsts sp o s1 (q1.put o.dst v)∧Same s1 q1 k.2.1∧∀r ∈ k.2.1,q1.root r=q.root r:=by
 rcases h with ⟨hw,⟨v0,s2⟩,v,h1,h2,rfl⟩ | ⟨hw,rfl⟩
 ·have hkk:tag C n ids s o=k:=by rw[←hk];unfold stepK;rw[hw]
  subst hkk
  rw[tag_fst] at hc
  by_cases h0:kls C n ids s o=0
  ·obtain ⟨rfl,h3⟩:=opR_0 h0 h1
   exact ⟨s2,v,rfl,.refl _ _,fun s1 ha ho hww=>⟨s1,.inl ⟨by rw[hww,hw],(v0,s1),v,h3 s1 ho,h2,rfl⟩,.refl _ _,ha.root⟩⟩
  ·rw[tag_snd h0 (by omega)]
   have hself:=opR_g (s1:=s) hc h1 ⟨rfl,rfl,fun _ _=>rfl⟩ (fun _ _=>rfl)
   refine ⟨s2,v,rfl,hself.1,fun s1 ha ho hww=>?_⟩
   obtain ⟨_,s3,k1,k2,k3⟩:=opR_g hc h1 ha ho
   exact ⟨s3,.inl ⟨by rw[hww,hw],_,v,k1,h2,rfl⟩,k2,k3⟩
 ·refine ⟨s,.tup [],rfl,.refl _ _,fun s1 ha ho hww=>⟨s1,.inr ⟨by rw[hww,hw],rfl⟩,.refl _ _,fun r hr=>ha.root r hr⟩⟩
theorem step_frame {C:Cfg} {n:Nat} {ids:List Nat} {dsts:List (Option Nat)} {sp:Nat} {o:Oper} {k:Nat × List Nat × List Nat} (hk:stepK C n ids dsts s o=k) (hc:k.1≤2) (h:StepTo C n ids dsts sp o s s') :
  ∃R v,s'=({ s with roots:=R }:St).put o.dst v∧(k.1≤1→R=s.roots)∧∀s1:St,s1.lent=s.lent→(k.1=0∨s1.roots=s.roots)→(∀x ∈ o.op.operands,s1.opd x=s.opd x)→wantedV dsts s1 o=wantedV dsts s o →
   StepTo C n ids dsts sp o s1 (({ s1 with roots:=if k.1=0 then s1.roots else R }:St).put o.dst v):=by
 rcases h with ⟨hw,⟨v0,s2⟩,v,h1,h2,rfl⟩ | ⟨hw,rfl⟩
 ·have hkk:kls C n ids s o=k.1:=by rw[←hk];unfold stepK;rw[hw];exact tag_fst.symm
  by_cases hk0:k.1=0
  ·obtain ⟨rfl,h3⟩:=opR_0 (hkk.trans hk0) h1
   refine ⟨s2.roots,v,rfl,fun _=>rfl,fun s1 _ _ ho hww=>.inl ⟨by rw[hww,hw],(v0,s1),v,h3 s1 ho,h2,?_⟩⟩
   rw[if_pos hk0]
  ·have hc':kls C n ids s o≤2:=by omega
   have hk':kls C n ids s o≠0:=by omega
   refine ⟨s2.roots,v,?_,?_,?_⟩
   ·have:=(opR_12 (T:=s.tmps) hc' hk' h1 (fun _ _=>rfl)).1
    exact congrArg (fun q:St=>q.put o.dst v) this
   ·rw[←hkk];exact (opR_12 (T:=s.tmps) hc' hk' h1 (fun _ _=>rfl)).2.1
   ·intro s1 hl hr ho hww
    have hr':=hr.resolve_left hk0
    have e:s1={ s with tmps:=s1.tmps }:=by
     cases s1
     simp only at hl hr'
     subst hl hr'
     rfl
    rw[e] at ho
    have h4:=opR_12 (T:=s1.tmps) hc' hk' h1 ho
    rw[←e] at h4
    refine .inl ⟨by rw[hww,hw],_,v,h4.2.2,h2,?_⟩
    rw[if_neg hk0]
    have h5:=h4.1
    have:({ s2 with tmps:=s1.tmps }:St)={ s1 with roots:=s2.roots }:=by
     rw[h5]
     cases s1
     simp only at hl
     subst hl
     rfl
    show _=St.put { s2 with tmps:=s1.tmps } o.dst v
    rw[this]
 ·refine ⟨s.roots,.tup [],rfl,fun _=>rfl,fun s1 _ hr _ hww=>.inr ⟨by rw[hww,hw],?_⟩⟩
  by_cases hk0:k.1=0
  ·rw[if_pos hk0]
  ·rw[if_neg hk0,←hr.resolve_left hk0]
theorem get_put {s:St} {R:List Root} {d:Option Nat} {v:LV} {t:Nat} (h:∀q,d=some q→q≠t):(({ s with roots:=R }:St).put d v).get t=s.get t:=by
 cases d with
 | none=>rfl
 | some q=>
  show (s.tmps.set q v).getD t .undef=s.tmps.getD t .undef
  rw[List.getD_eq_getElem?_getD,List.getElem?_set_ne (h q rfl),←List.getD_eq_getElem?_getD]
theorem opd_put {s:St} {R:List Root} {d:Option Nat} {v:LV} {ops:Array Oper} {y:Oper} (h:∀q,d=some q→q ∉ y.looksAt ops) {x:Operand} (hx:x ∈ y.op.operands):(({ s with roots:=R }:St).put d v).opd x=s.opd x:=by
 cases x with
 | tmp t=>
  refine get_put fun q hq=>?_
  rintro rfl
  refine h q hq ?_
  unfold Oper.looksAt
  refine List.mem_append.2 (.inl ?_)
  rw[List.mem_filterMap]
  exact ⟨.tmp q,Array.mem_toList_iff.2 hx,rfl⟩
 | _=>rfl
theorem wanted_put {s:St} {R:List Root} {d:Option Nat} {v:LV} {ops:Array Oper} {y:Oper} (h:∀q,d=some q→q ∉ y.looksAt ops):wantedV (ops.toList.map (·.dst)) (({ s with roots:=R }:St).put d v) y=wantedV (ops.toList.map (·.dst)) s y:=by
 unfold wantedV
 split
 ·rfl
 ·rename_i j w hg
  split
  ·rename_i t ht
   rw[get_put]
   intro q hq
   rintro rfl
   refine h q hq ?_
   unfold Oper.looksAt
   refine List.mem_append.2 (.inr ?_)
   rw[hg]
   simp only[List.getElem?_map,Option.map_eq_some_iff] at ht
   obtain ⟨o,h1,h2⟩:=ht
   have:ops[j]?=some o:=by rw[←Array.getElem?_toList];exact h1
   simp[this,h2]
  ·rfl
theorem put_comm {s:St} {R R':List Root} {d d':Option Nat} {v v':LV} (h:∀q,d=some q→d'≠some q):({ (({ s with roots:=R }:St).put d v) with roots:=R' }:St).put d' v'=(({ s with roots:=R' }:St).put d' v').put d v:=by
 cases d with
 | none=>cases d' <;> rfl
 | some q=>
  cases d' with
  | none=>rfl
  | some q'=>
   have hne:q≠q':=fun e=>h q rfl (by rw[e])
   show St.mk _ _ _=St.mk _ _ _
   congr 1
   exact List.set_comm _ _ hne
theorem swap_cls {C:Cfg} {n:Nat} {ix iy:List Nat} {ops:Array Oper} {px py:Nat} {x y:Oper} {s1 s2:St} {kx ky:Nat × List Nat × List Nat} (hkx:stepK C n ix (ops.toList.map (·.dst)) s x=kx) (hky:stepK C n iy (ops.toList.map (·.dst)) s1 y=ky) (hc:clsOk kx.1 ky.1=true) (ha:Oper.apart ops x y=true)
  (hx:StepTo C n ix (ops.toList.map (·.dst)) px x s s1) (hy:StepTo C n iy (ops.toList.map (·.dst)) py y s1 s2):∃t,StepTo C n iy (ops.toList.map (·.dst)) py y s t∧stepK C n iy (ops.toList.map (·.dst)) s y=ky∧StepTo C n ix (ops.toList.map (·.dst)) px x t s2∧stepK C n ix (ops.toList.map (·.dst)) t x=kx:=by
 obtain ⟨a1,a2,a3⟩:=Oper.apart_spec ha
 have hcl:(kx.1≤1∧ky.1≤1)∨(kx.1=0∧ky.1≤2)∨(kx.1≤2∧ky.1=0):=by
  simp only[clsOk,Bool.or_eq_true,Bool.and_eq_true,Nat.ble_eq,Nat.beq_eq] at hc
  rcases hc with (hc | hc) | hc
  ·exact .inl hc
  ·exact .inr (.inl hc)
  ·exact .inr (.inr hc)
 obtain ⟨Rx,vx,e1,r1,f1⟩:=step_frame hkx (by omega) hx
 subst e1
 obtain ⟨Ry,vy,e2,r2,f2⟩:=step_frame hky (by omega) hy
 have g2:=f2 s (by cases x.dst <;> rfl) (by
  rcases hcl with h | h | h
  ·right;rw[roots_put];exact (r1 h.1).symm
  ·right;rw[roots_put];exact (r1 (by omega)).symm
  ·left;exact h.2) (fun z hz=>(opd_put a1 hz).symm) (wanted_put a1).symm
 have hky':stepK C n iy (ops.toList.map (·.dst)) s y=ky:=stepK_eq hky (fun z hz=>(opd_put a1 hz).symm) (wanted_put a1).symm (by
  by_cases h0:ky.1=0
  ·exact .inl (.inl h0)
  ·refine .inr (.inr ⟨by omega,fun r _=>?_⟩)
   have hx1:kx.1≤1:=by omega
   rw[root_put]
   unfold St.root
   rw[r1 hx1])
 refine ⟨_,g2,hky',?_⟩
 have hroots:∀q:St,(q.put y.dst vy).roots=q.roots:=fun q=>roots_put ..
 have hry:ky.1≤1→Ry=Rx:=fun h=>(r2 h).trans (roots_put ..)
 have g1:=f1 ((({ s with roots:=if ky.1=0 then s.roots else Ry }:St)).put y.dst vy) (by cases y.dst <;> rfl) (by
  rw[hroots]
  by_cases h0:ky.1=0
  ·right;exact if_pos h0
  ·rcases hcl with h | h | h
   ·right;show (if _ then _ else _)=_;rw[if_neg h0,hry h.2,r1 h.1]
   ·left;exact h.1
   ·exact absurd h.2 h0) (fun z hz=>opd_put a3 hz) (wanted_put a3)
 have hfin:s2=({ (({ s with roots:=if ky.1=0 then s.roots else Ry }:St).put y.dst vy) with roots:=if kx.1=0 then (({ s with roots:=if ky.1=0 then s.roots else Ry }:St).put y.dst vy).roots else Rx }:St).put x.dst vx:=by
  have hR:(if kx.1=0 then (({ s with roots:=if ky.1=0 then s.roots else Ry }:St).put y.dst vy).roots else Rx)=Ry:=by
   rw[hroots]
   by_cases h0:kx.1=0
   ·rw[if_pos h0]
    show (if _ then _ else _)=_
    by_cases h1:ky.1=0
    ·rw[if_pos h1,hry (by omega),r1 (by omega)]
    ·rw[if_neg h1]
   ·rw[if_neg h0]
    exact (hry (by omega)).symm
  rw[hR,e2]
  have e3:=put_comm (s:=s) (R:=Rx) (R':=Ry) (v:=vx) (v':=vy) (fun q hq=>a2 q hq)
  refine e3.trans ?_
  cases y.dst <;> rfl
 rw[hfin]
 refine ⟨g1,stepK_eq hkx (fun z hz=>opd_put a3 hz) (wanted_put a3) ?_⟩
 by_cases h0:kx.1=0
 ·exact .inl (.inl h0)
 ·refine .inr (.inr ⟨by omega,fun r _=>?_⟩)
  rw[root_put]
  unfold St.root
  show (if _ then _ else _:List Root).getD r .dead=_
  by_cases h1:ky.1=0
  ·rw[if_pos h1]
  ·rw[if_neg h1,hry (by omega),r1 (by omega)]
theorem swap_pair {C:Cfg} {n:Nat} {ix iy:List Nat} {ops:Array Oper} {px py:Nat} {x y:Oper} {s1 s2:St} {kx ky:Nat × List Nat × List Nat} (hkx:stepK C n ix (ops.toList.map (·.dst)) s x=kx) (hky:stepK C n iy (ops.toList.map (·.dst)) s1 y=ky) (hc:pairOk kx ky=true) (ha:Oper.apart ops x y=true)
  (hx:StepTo C n ix (ops.toList.map (·.dst)) px x s s1) (hy:StepTo C n iy (ops.toList.map (·.dst)) py y s1 s2):∃t,StepTo C n iy (ops.toList.map (·.dst)) py y s t∧stepK C n iy (ops.toList.map (·.dst)) s y=ky∧StepTo C n ix (ops.toList.map (·.dst)) px x t s2∧stepK C n ix (ops.toList.map (·.dst)) t x=kx:=by
 unfold pairOk at hc
 rw[Bool.or_eq_true] at hc
 rcases hc with hc | hc
 ·exact swap_cls hkx hky hc ha hx hy
 ·simp only[Bool.and_eq_true,Nat.ble_eq,List.all_eq_true,Bool.not_eq_true'] at hc
  obtain ⟨⟨c1,c2⟩,c3⟩:=hc
  have hd:∀r,r ∈ kx.2.1→r ∉ ky.2.1:=fun r h1 h2=>by
   have:=c3 r h1
   rw[List.contains_iff_mem.2 h2] at this
   cases this
  obtain ⟨a1,a2,a3⟩:=Oper.apart_spec ha
  obtain ⟨q,vx,rfl,fx,gx⟩:=step_local hkx c1 hx
  obtain ⟨q2,vy,rfl,fy,gy⟩:=step_local hky c2 hy
  have hput:∀(q:St) d v,(q.put d v).lent=q.lent∧(q.put d v).roots=q.roots:=fun q d v=>by cases d <;> exact ⟨rfl,rfl⟩
  have hop:∀(q q':St) d v,q'.tmps=q.tmps→(∀e,d=some e→e ∉ y.looksAt ops)→(∀z ∈ y.op.operands,(q'.put d v).opd z=q.opd z)∧wantedV (ops.toList.map (·.dst)) (q'.put d v) y=wantedV (ops.toList.map (·.dst)) q y:=fun q q' d v e h=>by
   have e':q'={ q' with roots:=q'.roots }:=rfl
   have h1:∀z ∈ y.op.operands,(q'.put d v).opd z=q'.opd z:=fun z hz=>opd_put (s:=q') (R:=q'.roots) h hz
   have h2:wantedV (ops.toList.map (·.dst)) (q'.put d v) y=wantedV (ops.toList.map (·.dst)) q' y:=wanted_put (s:=q') (R:=q'.roots) h
   exact ⟨fun z hz=>(h1 z hz).trans (by cases z <;> simp only[St.opd,St.get,e]),h2.trans (by unfold wantedV St.get;rw[e])⟩
  have hopx:∀(q q':St) d v,q'.tmps=q.tmps→(∀e,d=some e→e ∉ x.looksAt ops)→(∀z ∈ x.op.operands,(q'.put d v).opd z=q.opd z)∧wantedV (ops.toList.map (·.dst)) (q'.put d v) x=wantedV (ops.toList.map (·.dst)) q x:=fun q q' d v e h=>by
   have h1:∀z ∈ x.op.operands,(q'.put d v).opd z=q'.opd z:=fun z hz=>opd_put (s:=q') (R:=q'.roots) h hz
   have h2:wantedV (ops.toList.map (·.dst)) (q'.put d v) x=wantedV (ops.toList.map (·.dst)) q' x:=wanted_put (s:=q') (R:=q'.roots) h
   exact ⟨fun z hz=>(h1 z hz).trans (by cases z <;> simp only[St.opd,St.get,e]),h2.trans (by unfold wantedV St.get;rw[e])⟩
  have oy:=hop s q x.dst vx fx.tmps a1
  have ray:∀r ∈ ky.2.1,s.root r=(q.put x.dst vx).root r:=fun r hr=>by
   rw[root_put]
   exact (fx.root r (fun h=>hd r h hr)).symm
  obtain ⟨t1,h1,h2,h3⟩:=gy s ⟨by rw[(hput ..).1,fx.lent],by rw[(hput ..).2,fx.len],ray⟩ (fun z hz=>(oy.1 z hz).symm) oy.2.symm
  have ox:=hopx s t1 y.dst vy h2.tmps a3
  obtain ⟨t2,k1,k2,k3⟩:=gx (t1.put y.dst vy) ⟨by rw[(hput ..).1,h2.lent],by rw[(hput ..).2,h2.len],fun r hr=>by
   rw[root_put]
   exact h2.root r (hd r hr)⟩ ox.1 ox.2
  refine ⟨_,h1,stepK_eq hky (fun z hz=>(oy.1 z hz).symm) oy.2.symm (.inr (.inr ⟨c2,ray⟩)),?_⟩
  have hfin:q2.put y.dst vy=t2.put x.dst vx:=by
   have htm:(q2.put y.dst vy).tmps=(t2.put x.dst vx).tmps:=by
    have e1:q2.tmps=(q.put x.dst vx).tmps:=fy.tmps
    have e2:t2.tmps=(t1.put y.dst vy).tmps:=k2.tmps
    have e3:q.tmps=s.tmps:=fx.tmps
    have e4:t1.tmps=s.tmps:=h2.tmps
    cases hdx:x.dst with
    | none=>
     rw[hdx] at e1
     cases hdy:y.dst with
     | none=>rw[hdy] at e2;simp only[St.put] at e1 e2 ⊢;rw[e1,e2,e3,e4]
     | some d=>rw[hdy] at e2;simp only[St.put] at e1 e2 ⊢;rw[e1,e2,e3,e4]
    | some d=>
     rw[hdx] at e1
     cases hdy:y.dst with
     | none=>rw[hdy] at e2;simp only[St.put] at e1 e2 ⊢;rw[e1,e2,e3,e4]
     | some d'=>
      rw[hdy] at e2
      simp only[St.put] at e1 e2 ⊢
      rw[e1,e2,e3,e4]
      exact List.set_comm _ _ (fun e=>a2 d hdx (by rw[hdy,e]))
   have hln:(q2.put y.dst vy).lent=(t2.put x.dst vx).lent:=by
    rw[(hput ..).1,(hput ..).1,fy.lent,k2.lent,(hput ..).1,(hput ..).1,fx.lent,h2.lent]
   have hrt:(q2.put y.dst vy).roots=(t2.put x.dst vx).roots:=by
    rw[(hput ..).2,(hput ..).2]
    have hl:q2.roots.length=t2.roots.length:=by rw[fy.len,k2.len,(hput ..).2,(hput ..).2,fx.len,h2.len]
    have hr:∀r,q2.root r=t2.root r:=by
     intro r
     by_cases hrx:r ∈ kx.2.1
     ·rw[k3 r hrx,fy.root r (hd r hrx),root_put]
     ·by_cases hry:r ∈ ky.2.1
      ·rw[k2.root r hrx,root_put,h3 r hry]
      ·rw[k2.root r hrx,root_put,h2.root r hry,fy.root r hry,root_put,fx.root r hrx]
    apply List.ext_getElem?
    intro i
    have:=hr i
    unfold St.root at this
    rw[List.getD_eq_getElem?_getD,List.getD_eq_getElem?_getD] at this
    by_cases hi:i<q2.roots.length
    ·rw[List.getElem?_eq_getElem hi,List.getElem?_eq_getElem (by omega)] at this ⊢
     simp only[Option.getD_some] at this
     rw[this]
    ·rw[List.getElem?_eq_none (by omega),List.getElem?_eq_none (by omega)]
   generalize q2.put y.dst vy=A at htm hln hrt ⊢
   generalize t2.put x.dst vx=B at htm hln hrt ⊢
   cases A
   cases B
   simp only at htm hln hrt
   subst htm hln hrt
   rfl
  rw[hfin]
  exact ⟨k1,stepK_eq hkx ox.1 ox.2 (.inr <| .inr <| And.intro c1 fun r hr=>by rw[root_put];exact h2.root r (hd r hr))⟩
def appKill (v:LV) (T:List LV):List LV:=
 match v with
 | .own r | .sub r _ _=>T.map (LV.kill [r])
 | _=>T
theorem append_t {s s2:St} {e:Ty} {E:TypeId} {id:Nat} {a v:LV} {ys:List e.den} (h:(appendR s e E id a ys).To (v,s2)) (T:List LV) :
  s2.tmps=appKill a s.tmps∧s2.lent=s.lent∧(∀r,Root.width (s2.root r)=Root.width (s.root r)∨r ∈ a.handles∨r=id)∧(appendR { s with tmps:=T } e E id a ys).To (v,{ s2 with tmps:=appKill a T }):=by
 have hw:∀(l:List Nat) (id:Nat) (x:Root) (s1:St),(s.kill l).news [(id,x)]=some s1→∀r,Root.width (s1.root r)=Root.width (s.root r)∨r ∈ l∨r=id:=by
  intro l id x s1 h1 r
  obtain ⟨n1,n2,rfl⟩:=news_one h1
  by_cases hl:r ∈ l
  ·exact .inr (.inl hl)
  by_cases hid:r=id
  ·exact .inr (.inr hid)
  ·left
   have hk:((s.kill l).root r)=s.root r∨((s.kill l).root r)=(s.root r).kill l:=by
    cases l with
    | nil=>exact .inl rfl
    | cons q l=>
     right
     show (killRoots (q::l) s.roots).getD r .dead=_
     rw[root_killRoots,if_neg (by rw[List.contains_iff_mem];exact hl)]
     rfl
   have hwk:Root.width ((s.kill l).root r)=Root.width (s.root r):=by
    rcases hk with h | h
    ·rw[h]
    ·rw[h];cases s.root r <;> simp[Root.kill,Root.width]
   rw[root_set,if_neg (fun h=>hid h.1.symm),hwk]
 have mk:∀(l:List Nat) (lv:LV) (x:Root),l≠[]→(mkR (s.kill l) id lv x).To (v,s2)→s2.tmps=s.tmps.map (LV.kill l)∧s2.lent=s.lent∧(∀r,Root.width (s2.root r)=Root.width (s.root r)∨r ∈ l∨r=id)∧(mkR (({ s with tmps:=T }:St).kill l) id lv x).To (v,{ s2 with tmps:=T.map (LV.kill l) }):=by
  intro l lv x hl h
  have e:(({ s with tmps:=T }:St).kill l)={ s.kill l with tmps:=T.map (LV.kill l) }:=by
   cases l with
   | nil=>exact absurd rfl hl
   | cons q l=>rfl
  have e2:(s.kill l).tmps=s.tmps.map (LV.kill l)∧(s.kill l).lent=s.lent:=by
   cases l with
   | nil=>exact absurd rfl hl
   | cons q l=>exact ⟨rfl,rfl⟩
  rw[e]
  unfold mkR at h ⊢
  split at h
  ·rename_i s1 h1
   cases h
   have h0:=h1
   have hww:=hw l id x _ h1
   obtain ⟨_,_,rfl⟩:=news_one h1
   refine ⟨e2.1,e2.2,hww,?_⟩
   rw[news1_t,h0]
   rfl
  ·exact h.elim
 unfold appendR at h ⊢
 split at h
 ·rcases h with ⟨h1,h⟩ | ⟨_,h⟩
  ·unfold mkR at h ⊢
   split at h
   ·rename_i s1 h1'
    cases h
    have h0:=h1'
    have hww:=hw [] id _ _ h1'
    obtain ⟨_,_,rfl⟩:=news_one h1'
    refine ⟨rfl,rfl,fun r=>(hww r).imp_right (fun h=>by rcases h with h | h;cases h;exact .inr h),.inl ⟨h1,?_⟩⟩
    rw[news1_t,h0]
    rfl
   ·exact h.elim
  ·exact h.elim
 ·rename_i r
  show _∧_∧_∧Res.To (match s.root r with | .row e' E' xs=>_ | _=>_) _
  split at h
  ·rename_i e' E' xs hroot
   split at h
   ·rename_i hh
    obtain ⟨rfl,rfl⟩:=hh
    rcases h with ⟨h1,h⟩ | ⟨_,h⟩
    ·obtain ⟨k1,k2,k3,k4⟩:=mk [r] _ _ (by simp) h
     refine ⟨k1,k2,fun q=>(k3 q).imp_right (fun h=>h.imp_left fun h=>by simpa [LV.handles] using h),?_⟩
     rw[hroot]
     simp only[and_self,dite_true]
     exact .inl ⟨h1,k4⟩
    ·exact h.elim
   ·exact h.elim
  ·exact h.elim
 ·rename_i r n
  show _∧_∧_∧Res.To (match s.root r with | .row e' E' xs=>_ | _=>_) _
  split at h
  ·rename_i e' E' xs hroot
   split at h
   ·rename_i hh
    obtain ⟨rfl,rfl⟩:=hh
    rcases h with ⟨h1,h⟩ | ⟨_,h⟩
    ·obtain ⟨k1,k2,k3,k4⟩:=mk [r] _ _ (by simp) h
     refine ⟨k1,k2,fun q=>(k3 q).imp_right (fun h=>h.imp_left fun h=>by simpa [LV.handles] using h),?_⟩
     rw[hroot]
     simp only[and_self,dite_true]
     exact .inl ⟨h1,k4⟩
    ·exact h.elim
   ·exact h.elim
  ·exact h.elim
 ·exact h.elim
theorem kill_keep {l:List Nat} {v:LV} (h:∀q ∈ v.handles,q ∉ l∧q≠mark):v.kill l=v:=by
 have hc:∀q,q ∉ l→l.contains q=false:=fun q hq=>by
  cases hh:l.contains q with
  | false=>rfl
  | true=>exact absurd (List.contains_iff_mem.1 hh) hq
 cases v with
 | own q=>simp only[LV.kill,hc q (h q (by simp[LV.handles])).1];rfl
 | sub q lo n=>simp only[LV.kill,hc q (h q (by simp[LV.handles])).1];rfl
 | ptr q i j=>simp only[LV.kill,hc q (h q (by simp[LV.handles])).1];rfl
 | optr q=>simp only[LV.kill,hc q (h q (by simp[LV.handles])).1];rfl
 | agg vs=>exact absurd rfl (h mark (by simp[LV.handles])).2
 | tup vs=>exact absurd rfl (h mark (by simp[LV.handles])).2
 | fn f vs=>exact absurd rfl (h mark (by simp[LV.handles])).2
 | undef=>exact absurd rfl (h mark (by simp[LV.handles])).2
 | _=>rfl
theorem kill_or (l:List Nat) (v:LV):v.kill l=v∨v.kill l=.undef:=by
 cases v with
 | own q=>simp only[LV.kill];cases l.contains q <;> simp
 | sub q lo n=>simp only[LV.kill];cases l.contains q <;> simp
 | ptr q i j=>simp only[LV.kill];cases l.contains q <;> simp
 | optr q=>simp only[LV.kill];cases l.contains q <;> simp
 | agg vs=>simp only[LV.kill];cases vs.any (LV.has l) <;> simp
 | tup vs=>simp only[LV.kill];cases vs.any (LV.has l) <;> simp
 | fn f vs=>simp only[LV.kill];cases vs.any (LV.has l) <;> simp
 | _=>exact .inl rfl
theorem width_kill (l:List Nat) (s:St) (r:Nat) (hl:r ∉ l):Root.width ((s.kill l).root r)=Root.width (s.root r):=by
 cases l with
 | nil=>rfl
 | cons q l=>
  have:(s.kill (q::l)).root r=(s.root r).kill (q::l):=by
   show (killRoots (q::l) s.roots).getD r .dead=_
   rw[root_killRoots,if_neg (by rw[List.contains_iff_mem];exact hl)]
   rfl
  rw[this]
  cases s.root r <;> simp[Root.kill,Root.width]
theorem call_app {g:Sig} {ids:List Nat} {vs:List LV} {s s2:St} {v:LV} {R:List Nat} (hq:g.params.all Pm.stays=true) (hi:∀i ∈ ids,i ∈ R) (hv:∀r ∈ s.reach (vs.flatMap LV.roots),r ∈ R) (h:(callR s g ids vs).To (v,s2)) :
  ∃G:LV→LV,(∀v:LV,(∀r ∈ v.handles,r ∉ R∧r≠mark)→G v=v)∧G (.tup [])=.tup []∧(∀v,G v=v∨G v=.undef)∧s2.tmps=s.tmps.map G∧s2.lent=s.lent∧(∀r,r ∉ R→Root.width (s2.root r)=Root.width (s.root r)) ∧
   ∀T,(callR { s with tmps:=T } g ids vs).To (v,{ s2 with tmps:=T.map G }):=by
 unfold callR at h
 split at h
 case h_2=>exact h.elim
 rename_i x1 e1 l1 h1
 simp only at h
 split at h
 case h_2=>exact h.elim
 rename_i x e l h2
 obtain rfl:=stays_args hq h2
 have hl:=args_lent h2
 generalize hK:takenR s g (e1++l1) vs=K at h
 have hKR:∀r ∈ K,r ∈ R:=by
  intro r hr
  rw[←hK] at hr
  unfold takenR at hr
  cases hfl:(g.res++outs g.params).all M.flat || soleV g.params vs with
  | true=>rw[hfl] at hr;cases hr
  | false=>rw[hfl,cond_false,List.mem_filter] at hr;exact hv r hr.1
 cases hc:(decide ([]++l:List Nat).Nodup&&([]++l:List Nat).all fun r=>(e1++l1).contains r) with
 | false=>rw[hc] at h;exact h.elim
 | true=>
  rw[hc,cond_true] at h
  obtain ⟨y,hy,h⟩:=h
  simp only[List.nil_append] at h
  split at h
  case h_2=>exact h.elim
  rename_i s3 h3
  split at h
  case h_2=>exact h.elim
  rename_i s4 h4
  cases h
  have k3:=news_keep _ h3
  have k4:=putOuts_keep _ h4
  obtain ⟨i1,i2⟩:=emits_ids g.res (splitD g.res (outs g.params) y).1 ids
  obtain ⟨m1,_⟩:=news_g _ (R:=R) (s1:=s.kill K) ⟨rfl,rfl,fun _ _=>rfl⟩ (fun p hp=>hi _ (i1 p hp)) h3
  obtain ⟨m2,_⟩:=putOuts_g _ (R:=R) (s1:=s3) ⟨rfl,rfl,fun _ _=>rfl⟩ (fun r hr=>hv r (mem_addNew.2 (.inl (hl r hr)))) (fun i h=>hi i (i2 i h)) h4
  have hkt:∃G:LV→LV,(∀v:LV,(∀r ∈ v.handles,r ∉ R∧r≠mark)→G v=v)∧G (.tup [])=.tup []∧(∀v,G v=v∨G v=.undef)∧∀T,({ s with tmps:=T }:St).kill K={ s.kill K with tmps:=T.map G }:=by
   cases K with
   | nil=>exact ⟨fun v=>v,fun _ _=>rfl,rfl,fun _=>.inl rfl,fun T=>by simp[St.kill]⟩
   | cons q K=>exact ⟨LV.kill (q::K),fun v hv=>kill_keep fun r hr=>⟨fun h=>(hv r hr).1 (hKR r h),(hv r hr).2⟩,rfl,kill_or _,fun T=>rfl⟩
  obtain ⟨G,G1,G2,G3,G4⟩:=hkt
  have hs:(s.kill K).tmps=s.tmps.map G:=by
   have:=congrArg St.tmps (G4 s.tmps)
   exact this
  have hlt:(s.kill K).lent=s.lent:=by cases K <;> rfl
  refine ⟨G,G1,G2,G3,by rw[k4.1,k3.1,hs],by rw[k4.2,k3.2,hlt],fun r hr=>?_,fun T=>?_⟩
  ·rw[m2.root r hr,m1.root r hr,width_kill K s r (fun h=>hr (hKR r h))]
  ·unfold callR
   simp only[argsIn_t,lendR_t,takenR_t,h1,h2,hK,hc,cond_true]
   refine ⟨y,hy,?_⟩
   simp only[List.nil_append,G4 T,news_t,h3,Option.map_some]
   split
   ·rename_i s5 h5
    have h6:=(putOuts_t (T:=T.map G) _ s3 _ l _).symm.trans h5
    have h7:=(congrArg (Option.map fun s':St=>{ s' with tmps:=T.map G }) h4).symm.trans h6
    cases h7
    rfl
   ·rename_i h5
    have h6:=(putOuts_t (T:=T.map G) _ s3 _ l _).symm.trans h5
    have h7:=(congrArg (Option.map fun s':St=>{ s' with tmps:=T.map G }) h4).symm.trans h6
    cases h7
theorem app_t {C:Cfg} {n:Nat} {ids:List Nat} {o:Oper} {s s2:St} {v:LV} (hk:kls C n ids s o=4) (h:(opR C n ids o s).To (v,s2)) :
  ∃g:LV→LV,(∀v:LV,(∀r ∈ v.handles,r ∉ takesOf s ids o)→g v=v)∧g (.tup [])=.tup []∧(∀v,g v=v∨g v=.undef)∧s2.tmps=s.tmps.map g∧s2.lent=s.lent∧(∀r,r ∉ takesOf s ids o→Root.width (s2.root r)=Root.width (s.root r)) ∧
   ∀T,(∀x ∈ o.op.operands,({ s with tmps:=T }:St).opd x=s.opd x)→(opR C n ids o { s with tmps:=T }).To (v,{ s2 with tmps:=T.map g }):=by
 have hop:∃c,o.op=.call c∧(c.callee=.builtin .append∨∃f g,c.callee=.value (.func f)∧C.tab n f=some g∧g.params.all Pm.stays=true):=by
  unfold kls at hk
  cases hop:o.op with
  | call c=>
   simp only[hop] at hk
   refine ⟨c,rfl,?_⟩
   cases hcl:c.callee with
   | builtin b=>
    left
    simp only[hcl] at hk
    cases b <;> first | rfl | (simp only at hk;done) | (revert hk;cases rootlessAll s o <;> intro hk <;> cases hk) | cases hk
   | value fo=>
    right
    simp only[hcl] at hk
    cases fo with
    | func f=>
     simp only at hk
     cases hg:C.tab n f with
     | none=>rw[hg] at hk;cases hk
     | some g=>
      simp only[hg] at hk
      refine ⟨f,g,rfl,hg,?_⟩
      revert hk
      cases ((g.res++outs g.params).all M.flat || rootlessAll s o || soleV g.params (c.args.toList.map s.opd)) <;> cases g.quiet ids <;> cases g.params.all Pm.stays <;> intro hk <;> first | rfl | cases hk
    | _=>simp only at hk;cases hk
   | invoke a b=>simp only[hcl] at hk;cases hk
  | _=>
   simp only[hop] at hk
   first | cases hk | (revert hk;cases rootlessAll s o <;> intro hk <;> cases hk) | (revert hk;cases ids.isEmpty <;> cases rootlessAll s o <;> intro hk <;> cases hk) | (revert hk;cases ids.isEmpty <;> intro hk <;> cases hk)
 obtain ⟨c,hc,hcl⟩:=hop
 have hmem:∀x ∈ c.args.toList,x ∈ o.op.operands:=fun x hx=>by simp only[hc,Op.operands,Call.operands];exact Array.mem_append.2 (.inr (Array.mem_toList_iff.1 hx))
 have args:∀T,(∀x ∈ o.op.operands,({ s with tmps:=T }:St).opd x=s.opd x)→c.args.toList.map ({ s with tmps:=T }:St).opd=c.args.toList.map s.opd:=fun T ho=>List.map_congr_left fun x hx=>ho x (hmem x hx)
 rcases hcl with hcl | ⟨f,g,hcl,hg,hst⟩
 case inr=>
  unfold opR at h
  simp only[hc,hcl,St.opd,hg,List.append_nil] at h
  cases hn:(c.args.toList.map s.opd).all LV.noTup with
  | false=>rw[hn] at h;exact h.elim
  | true=>
   rw[hn,cond_true] at h
   obtain ⟨G,g1,g2,g3,g4,g5,g6,g7⟩:=call_app (R:=takesOf s ids o) hst (fun i hi=>takes_ids hi) (fun r hr=>by
    refine List.mem_cons_of_mem _ (List.mem_append.2 (.inr ?_))
    have e:∀q,q ∈ (c.args.toList.map s.opd).flatMap LV.roots→q ∈ o.op.operands.toList.flatMap fun x=>(s.opd x).roots:=fun q hq=>by
     obtain ⟨w,hw,hq⟩:=List.mem_flatMap.1 hq
     obtain ⟨x,hx,rfl⟩:=List.mem_map.1 hw
     exact List.mem_flatMap.2 ⟨x,Array.mem_toList_iff.2 (hmem x hx),hq⟩
    unfold St.reach at hr ⊢
    rcases mem_addNew.1 hr with hr | hr
    ·exact mem_addNew.2 (.inl (e r hr))
    ·obtain ⟨q,hq,hr⟩:=List.mem_flatMap.1 hr
     exact mem_addNew.2 (.inr (List.mem_flatMap.2 ⟨q,e q hq,hr⟩))) h
   refine ⟨G,fun v hv=>g1 v fun r hr=>⟨hv r hr,fun e=>hv r hr (by rw[e];exact List.mem_cons_self ..)⟩,g2,g3,g4,g5,g6,fun T ho=>?_⟩
   unfold opR
   simp only[hc,hcl,St.opd,hg,List.append_nil]
   have:=args T ho
   simp only[this,hn,cond_true]
   exact g7 T
 have hh:∀w ∈ c.args.toList.map s.opd,∀r ∈ w.roots,r ∈ takesOf s ids o:=by
  intro w hw r hr
  obtain ⟨x,hx,rfl⟩:=List.mem_map.1 hw
  exact takes_roots (hmem x hx) hr
 have hids:∀i ∈ ids,i ∈ takesOf s ids o:=fun i hi=>takes_ids hi
 have hmk:mark ∈ takesOf s ids o:=List.mem_cons_self ..
 generalize hR:takesOf s ids o=R at hh hids hmk ⊢
 have key:∀vs,vs=c.args.toList.map s.opd→(builtinR C s .append c.argTypes.toList ids vs).To (v,s2) →
   ∃g:LV→LV,(∀v:LV,(∀r ∈ v.handles,r ∉ R)→g v=v)∧g (.tup [])=.tup []∧(∀v,g v=v∨g v=.undef)∧s2.tmps=s.tmps.map g∧s2.lent=s.lent∧(∀r,r ∉ R→Root.width (s2.root r)=Root.width (s.root r)) ∧
   ∀T,(builtinR C { s with tmps:=T } .append c.argTypes.toList ids vs).To (v,{ s2 with tmps:=T.map g }):=by
  clear hk h hR
  intro vs hvs h
  unfold builtinR at h ⊢
  split at h
  ·have hb:Builtin.append=Builtin.len:=by assumption
   cases hb
  ·have hb:Builtin.append=Builtin.min:=by assumption
   cases hb
  ·have hb:Builtin.append=Builtin.max:=by assumption
   cases hb
  ·rename_i a x hb
   split at h
   ·rename_i t t' hts
    cases hbt:Nat.beq t t' with
    | false=>rw[hbt] at h;exact h.elim
    | true=>
     rw[hbt,cond_true] at h
     split at h
     ·rename_i ti id hti
      split at h
      ·rename_i ei hei
       cases hs:ti.ty.isSlice with
       | false=>rw[hs] at h;exact h.elim
       | true=>
        rw[hs,cond_true] at h
        split at h
        ·rename_i ys hys
         have ha:∀r ∈ a.roots,r ∈ R:=hh a (by rw[←hvs];simp)
         have hg:∃g:LV→LV,(∀T,appKill a T=T.map g)∧(∀v:LV,(∀r ∈ v.handles,r ∉ R)→g v=v)∧g (.tup [])=.tup []∧(∀v,g v=v∨g v=.undef):=by
          have killed:∀r,r ∈ a.roots→∀v:LV,(∀r ∈ v.handles,r ∉ R)→v.kill [r]=v:=fun r hr v hv=>kill_keep fun q hq=>⟨fun e=>hv q hq (by simp at e;rw[e];exact ha r hr),fun e=>hv q hq (by rw[e];exact hmk)⟩
          cases a with
          | own r=>exact ⟨LV.kill [r],fun _=>rfl,killed r (by simp[LV.roots]),rfl,kill_or _⟩
          | sub r lo n=>exact ⟨LV.kill [r],fun _=>rfl,killed r (by simp[LV.roots]),rfl,kill_or _⟩
          | _=>exact ⟨fun v=>v,fun T=>by simp[appKill],fun _ _=>rfl,rfl,fun _=>.inl rfl⟩
         obtain ⟨g,e1,e2,e3,e4⟩:=hg
         have hah:∀r ∈ a.handles,r ∈ R:=fun r hr=>by
          cases a with
          | own q=>exact ha r (by simpa [LV.handles,LV.roots] using hr)
          | sub q lo n=>exact ha r (by simpa [LV.handles,LV.roots] using hr)
          | ptr q i j=>exact ha r (by simpa [LV.handles,LV.roots] using hr)
          | optr q=>exact ha r (by simpa [LV.handles,LV.roots] using hr)
          | agg vs=>simp only[LV.handles,List.mem_singleton] at hr;rw[hr];exact hmk
          | tup vs=>simp only[LV.handles,List.mem_singleton] at hr;rw[hr];exact hmk
          | fn f vs=>simp only[LV.handles,List.mem_singleton] at hr;rw[hr];exact hmk
          | undef=>simp only[LV.handles,List.mem_singleton] at hr;rw[hr];exact hmk
          | _=>cases hr
         obtain ⟨k1,k2,k3,_⟩:=append_t h s.tmps
         refine ⟨g,e2,e3,e4,by rw[k1,e1],k2,fun r hr=>(k3 r).resolve_right (fun h=>hr (h.elim (hah r) (fun h=>hids r (by simp[h])))),fun T=>?_⟩
         obtain ⟨_,_,_,k4⟩:=append_t h T
         simp only[hbt,cond_true,hti,hei,hs,asV_t,hys]
         rw[←e1]
         exact k4
        ·exact h.elim
      ·exact h.elim
     ·rename_i ti hti
      split at h
      ·rename_i ei hei
       cases hs:ti.ty.isSlice with
       | false=>rw[hs] at h;exact h.elim
       | true=>
        rw[hs,cond_true] at h
        split at h
        ·rename_i ys hys
         unfold appendIn at h
         split at h
         case h_2=>exact h.elim
         rename_i r m
         split at h
         case h_2=>exact h.elim
         rename_i e' E' xs hroot
         split at h
         case isFalse=>exact h.elim
         rename_i hh2
         obtain ⟨rfl,rfl⟩:=hh2
         rcases h with ⟨c1,⟨c2,h⟩ | ⟨_,h⟩⟩ | ⟨_,h⟩
         case inl.inr=>exact h.elim
         case inr=>exact h.elim
         cases h
         refine ⟨fun v=>v,fun _ _=>rfl,rfl,fun _=>.inl rfl,by simp[St.setRoot],rfl,fun q _=>?_,fun T=>?_⟩
         ·rw[root_set]
          split
          ·rename_i hq
           rw[←hq.1,hroot]
           rfl
          ·rfl
         ·simp only[hbt,cond_true,hti,hei,hs,asV_t,hys]
          unfold appendIn
          show Res.To (match s.root r with | .row e' E' xs=>_ | _=>_) _
          rw[hroot]
          simp only[and_self,dite_true]
          exact .inl ⟨c1,.inl ⟨c2,by simp[St.setRoot];rfl⟩⟩
        ·exact h.elim
      ·exact h.elim
     ·exact h.elim
   ·exact h.elim
  ·have hb:Builtin.append=Builtin.clear:=by assumption
   cases hb
  ·exact h.elim
 unfold opR at h
 simp only[hc,hcl] at h
 obtain ⟨g,g1,g2,g3,g4,g5,g6,g7⟩:=key _ rfl h
 refine ⟨g,g1,g2,g3,g4,g5,g6,fun T ho=>?_⟩
 unfold opR
 simp only[hc,hcl]
 rw[args T ho]
 exact g7 T
theorem split_handles {sp:Nat} {u v:LV} (h:(splitR sp u).To v):∀r ∈ v.handles,r ∈ u.handles:=by
 unfold splitR at h
 split at h
 ·rcases h with ⟨_,h⟩ | ⟨_,h⟩ <;> (cases h;intro r hr;cases hr)
 ·rcases h with ⟨_,h⟩ | ⟨_,h⟩ <;> (cases h;intro r hr;cases hr)
 ·obtain ⟨y,_,h⟩:=h
  cases h;intro r hr;cases hr
 ·cases h;exact fun r hr=>hr
theorem simple_step {C:Cfg} {n:Nat} {ids:List Nat} {dsts:List (Option Nat)} {sp:Nat} {y:Oper} (hs:Oper.simple y=true) (h:StepTo C n ids dsts sp y s s') :
  ∃v,s'=s.put y.dst v∧(v=.tup []∨∀r ∈ v.handles,r ∈ handlesOf s y)∧∀s1:St,(∀x ∈ y.op.operands,s1.opd x=s.opd x)→wantedV dsts s1 y=wantedV dsts s y→(∀r ∈ handlesOf s y,Root.width (s.root r)≤Root.width (s1.root r))→StepTo C n ids dsts sp y s1 (s1.put y.dst v):=by
 rcases h with ⟨hw,⟨v0,s2⟩,v,h1,h2,rfl⟩ | ⟨hw,rfl⟩
 ·have hin:∀x ∈ y.op.operands,∀r ∈ (s.opd x).handles,r ∈ handlesOf s y:=fun x hx r hr=>List.mem_flatMap.2 ⟨x,Array.mem_toList_iff.2 hx,hr⟩
  have key:s2=s∧(∀r ∈ v0.handles,r ∈ handlesOf s y)∧∀s1:St,(∀x ∈ y.op.operands,s1.opd x=s.opd x)→(∀r ∈ handlesOf s y,Root.width (s.root r)≤Root.width (s1.root r))→(opR C n ids y s1).To (v0,s1):=by
   unfold Oper.simple at hs
   unfold opR at h1 ⊢
   cases hop:y.op with
   | move x=>
    simp only[hop] at h1 ⊢
    cases h1
    exact ⟨rfl,hin x (by simp[hop,Op.operands]),fun s1 ho _=>by rw[ho x (by simp[Op.operands])];rfl⟩
   | assign x=>
    simp only[hop] at h1 ⊢
    cases h1
    exact ⟨rfl,hin x (by simp[hop,Op.operands]),fun s1 ho _=>by rw[ho x (by simp[Op.operands])];rfl⟩
   | nilCheck x=>
    simp only[hop] at h1 ⊢
    have hx:=hin x (by simp[hop,Op.operands])
    split at h1
    ·rename_i ht
     cases h1
     exact ⟨rfl,by rw[←ht];exact hx,fun s1 ho _=>by rw[ho x (by simp[Op.operands]),ht];rfl⟩
    ·rename_i ht
     cases h1
     exact ⟨rfl,by rw[←ht];exact hx,fun s1 ho _=>by rw[ho x (by simp[Op.operands]),ht];rfl⟩
    ·exact h1.elim
   | fieldAddr U x f=>
    simp only[hop] at h1 ⊢
    have hx:=hin x (by simp[hop,Op.operands])
    split at h1
    ·rename_i ti hti
     split at h1
     ·rename_i u hu
      cases h1
      have fin:(∀r ∈ v0.handles,r ∈ handlesOf s y)∧∀s1:St,(∀r ∈ handlesOf s y,Root.width (s.root r)≤Root.width (s1.root r))→fieldAddrV s1 ti f (s.opd x)=some v0:=by
       unfold fieldAddrV at hu ⊢
       cases hp:ti.ty.isPair with
       | false=>rw[hp] at hu;cases hu
       | true=>
        rw[hp,cond_true] at hu
        cases hof:ti.offs[f]? with
        | none=>rw[hof] at hu;cases hu
        | some off=>
         rw[hof] at hu
         cases hv:s.opd x with
         | ptr r i j=>
          rw[hv] at hu hx
          simp only at hu ⊢
          cases hb:Nat.blt (j+off) (s.root r).width with
          | false=>rw[hb] at hu;cases hu
          | true=>
           rw[hb,cond_true] at hu
           cases hu
           refine ⟨hx,fun s1 hw=>?_⟩
           have:=hw r (hx r (by simp[LV.handles]))
           rw[Nat.blt_eq] at hb
           have hb2:Nat.blt (j+off) (s1.root r).width=true:=by rw[Nat.blt_eq];omega
           rw[hb2]
           rfl
         | vptr e xs i j=>
          rw[hv] at hu
          simp only at hu ⊢
          cases hb:Nat.blt (j+off) e.size with
          | false=>rw[hb] at hu;cases hu
          | true=>
           rw[hb,cond_true] at hu
           cases hu
           exact ⟨(fun r hr=>by cases hr),fun s1 _=>rfl⟩
         | _=>rw[hv] at hu;cases hu
      refine ⟨rfl,fin.1,fun s1 ho hw=>?_⟩
      simp only[ho x (by simp[Op.operands]),fin.2 s1 hw]
      rfl
     ·exact h1.elim
    ·exact h1.elim
   | _=>rw[hop] at hs;cases hs
  obtain ⟨rfl,k1,k2⟩:=key
  exact ⟨v,rfl,.inr fun r hr=>k1 r (split_handles h2 r hr),fun s1 ho hww hwd=>.inl ⟨by rw[hww,hw],(v0,s1),v,k2 s1 ho hwd,h2,rfl⟩⟩
 ·exact ⟨.tup [],rfl,.inl rfl,fun s1 _ hww _=>.inr ⟨by rw[hww,hw],rfl⟩⟩
theorem simple_field {C:Cfg} {n:Nat} {ids:List Nat} {dsts:List (Option Nat)} {y:Oper} {k:Nat × List Nat × List Nat} (hs:Oper.simple y=true) (hk:stepK C n ids dsts s y=k):k.1=0∨∃T x f,y.op=.fieldAddr T x f:=by
 subst hk
 unfold stepK
 split
 ·rw[tag_fst]
  unfold Oper.simple at hs
  unfold kls
  cases hop:y.op with
  | fieldAddr T x f=>exact .inr ⟨T,x,f,rfl⟩
  | move x=>exact .inl rfl
  | assign x=>exact .inl rfl
  | nilCheck x=>exact .inl rfl
  | _=>rw[hop] at hs;cases hs
 ·exact .inl rfl
theorem four_wanted {C:Cfg} {n:Nat} {ids:List Nat} {dsts:List (Option Nat)} {sp:Nat} {x:Oper} {k:Nat × List Nat × List Nat} (hk:stepK C n ids dsts s x=k) (h4:k.1=4) (h:StepTo C n ids dsts sp x s s') :
  wantedV dsts s x=some true∧kls C n ids s x=4∧k.2.2=takesOf s ids x∧∃p v,(opR C n ids x s).To p∧(splitR sp p.1).To v∧s'=p.2.put x.dst v:=by
 rcases h with ⟨hw,p,v,h1,h2,h3⟩ | ⟨hw,_⟩
 ·have hkk:kls C n ids s x=4:=by rw[←h4,←hk];unfold stepK;rw[hw];exact tag_fst.symm
  refine ⟨hw,hkk,?_,p,v,h1,h2,h3⟩
  rw[←hk]
  unfold stepK
  rw[hw]
  simp only
  rw[tag_four hkk]
 ·exfalso
  rw[←hk] at h4
  unfold stepK at h4
  rw[hw] at h4
  cases h4
theorem tag_handles {C:Cfg} {n:Nat} {ids:List Nat} {dsts:List (Option Nat)} {o:Oper} {k:Nat × List Nat × List Nat} (hs:Oper.simple o=true) (hk:stepK C n ids dsts s o=k) (hw:wantedV dsts s o=some true):∀r ∈ handlesOf s o,r ∈ k.2.2:=by
 have hf:=simple_field hs hk
 subst hk
 unfold stepK at hf ⊢
 rw[hw] at hf ⊢
 simp only[tag_fst] at hf ⊢
 have h4:kls C n ids s o≠4:=by
  rcases hf with h | ⟨T,x,f,h⟩
  ·omega
  ·unfold kls;rw[h];cases rootlessAll s o <;> simp
 unfold tag
 intro r hr
 cases Nat.beq (kls C n ids s o) 0 with
 | true=>exact hr
 | false=>
  cases hb:Nat.beq (kls C n ids s o) 4 with
  | true=>exact absurd (Nat.beq_eq.mp hb) h4
  | false=>exact hr
theorem get_map {g:LV→LV} {q q':St} (hu:g .undef=.undef) (h:q'.tmps=q.tmps.map g) (t:Nat):q'.get t=g (q.get t):=by
 unfold St.get
 rw[h]
 simp only[List.getD_eq_getElem?_getD,List.getElem?_map]
 cases q.tmps[t]? with
 | none=>exact hu.symm
 | some v=>rfl
theorem put_comm2 {q:St} {d d':Option Nat} {v v':LV} (h:∀e,d=some e→d'≠some e):(q.put d v).put d' v'=(q.put d' v').put d v:=by
 cases d with
 | none=>rfl
 | some e=>
  cases d' with
  | none=>rfl
  | some e'=>
   have hne:e≠e':=fun h'=>h e rfl (by rw[h'])
   show St.mk _ _ _=St.mk _ _ _
   congr 1
   exact List.set_comm _ _ hne
theorem put_t (q:St) (d:Option Nat) (v:LV):q.put d v={ q with tmps:=(q.put d v).tmps }:=by cases d <;> rfl
theorem put_map {g:LV→LV} {q q':St} {d:Option Nat} {v:LV} (hg:g v=v) (h:q'.tmps=q.tmps.map g):({ q' with tmps:=(q.put d v).tmps.map g }:St)=q'.put d v:=by
 cases d with
 | none=>show ({ q' with tmps:=q.tmps.map g }:St)=q';rw[←h]
 | some d=>
  show ({ q' with tmps:=(q.tmps.set d v).map g }:St)={ q' with tmps:=q'.tmps.set d v }
  rw[List.map_set,hg,h]
theorem stepK_false {C:Cfg} {n:Nat} {ids:List Nat} {dsts:List (Option Nat)} {o:Oper} (hw:wantedV dsts s o=some false):stepK C n ids dsts s o=(0,[],[]):=by
 unfold stepK
 rw[hw]
theorem swap_app1 {C:Cfg} {n:Nat} {ix iy:List Nat} {ops:Array Oper} {px py:Nat} {x y:Oper} {s1 s2:St} {kx ky:Nat × List Nat × List Nat} (hkx:stepK C n ix (ops.toList.map (·.dst)) s x=kx) (hky:stepK C n iy (ops.toList.map (·.dst)) s1 y=ky) (hc:appOk y kx ky=true) (ha:Oper.apart ops x y=true)
  (hx:StepTo C n ix (ops.toList.map (·.dst)) px x s s1) (hy:StepTo C n iy (ops.toList.map (·.dst)) py y s1 s2):∃t,StepTo C n iy (ops.toList.map (·.dst)) py y s t∧stepK C n iy (ops.toList.map (·.dst)) s y=ky∧StepTo C n ix (ops.toList.map (·.dst)) px x t s2∧stepK C n ix (ops.toList.map (·.dst)) t x=kx:=by
 simp only[appOk,Bool.and_eq_true,Nat.beq_eq,List.all_eq_true,Bool.not_eq_true'] at hc
 obtain ⟨⟨h4,hsim⟩,hdis⟩:=hc
 obtain ⟨a1,a2,a3⟩:=Oper.apart_spec ha
 obtain ⟨hwx,hkx4,hkh,⟨v0,q⟩,vx,o1,o2,rfl⟩:=four_wanted hkx h4 hx
 obtain ⟨g,g1,g2,g3,g4,g5,g6,g7⟩:=app_t hkx4 o1
 have hdis':∀r ∈ ky.2.2,r ∉ takesOf s ix x:=fun r hr hm=>by
  rw[←hkh] at hm
  have:=hdis r hm
  rw[List.contains_iff_mem.2 hr] at this
  cases this
 have gu:g .undef=.undef:=by rcases g3 .undef with h | h <;> exact h
 have q4:q.tmps=s.tmps.map g:=g4
 have hop1:∀z ∈ y.op.operands,(q.put x.dst vx).opd z=q.opd z:=fun z hz=>opd_put (s:=q) (R:=q.roots) a1 hz
 have hw1:wantedV (ops.toList.map (·.dst)) (q.put x.dst vx) y=wantedV (ops.toList.map (·.dst)) q y:=wanted_put (s:=q) (R:=q.roots) a1
 have hwq:∀w,wantedV (ops.toList.map (·.dst)) q y=some w→wantedV (ops.toList.map (·.dst)) s y=some w:=by
  intro w h
  unfold wantedV at h ⊢
  split at h
  ·exact h
  ·split at h
   ·rename_i d hd
    rw[get_map gu q4] at h
    rcases g3 (s.get d) with e | e
    ·rw[e] at h;exact h
    ·rw[e] at h;cases h
   ·cases h
 have main:∃vy,s2=(q.put x.dst vx).put y.dst vy∧g vy=vy∧StepTo C n iy (ops.toList.map (·.dst)) py y s (s.put y.dst vy)∧stepK C n iy (ops.toList.map (·.dst)) s y=ky:=by
  rcases hy':hy with ⟨hws,_⟩ | ⟨hws,h2⟩
  ·have hopd:∀z ∈ y.op.operands,s.opd z=(q.put x.dst vx).opd z:=by
    intro z hz
    rw[hop1 z hz]
    cases z with
    | tmp t=>
     show s.get t=q.get t
     rw[get_map gu q4]
     rcases g3 (s.get t) with e | e
     ·exact e.symm
     ·exfalso
      have hh:mark ∈ handlesOf (q.put x.dst vx) y:=by
       refine List.mem_flatMap.2 ⟨.tmp t,Array.mem_toList_iff.2 hz,?_⟩
       rw[hop1 _ hz]
       show mark ∈ (q.get t).handles
       rw[get_map gu q4,e]
       simp[LV.handles]
      exact hdis' mark (tag_handles hsim hky hws mark hh) (List.mem_cons_self ..)
    | _=>rfl
   have hwe:wantedV (ops.toList.map (·.dst)) s y=wantedV (ops.toList.map (·.dst)) (q.put x.dst vx) y:=by
    rw[hws]
    exact hwq true (hw1 ▸ hws)
   obtain ⟨vy,h2,hvy,sy⟩:=simple_step hsim hy
   refine ⟨vy,h2,?_,sy s hopd hwe fun r hr=>?_,stepK_eq hky hopd hwe (.inl (simple_field hsim hky))⟩
   ·rcases hvy with rfl | hvy
    ·exact g2
    ·exact g1 vy fun r hr=>hdis' r (tag_handles hsim hky hws r (hvy r hr))
   ·rw[root_put]
    exact Nat.le_of_eq (g6 r fun h=>hdis' r (tag_handles hsim hky hws r hr) h)
  ·refine ⟨.tup [],h2,g2,.inr ⟨hwq false (hw1 ▸ hws),rfl⟩,?_⟩
   rw[stepK_false (hwq false (hw1 ▸ hws)),←hky,stepK_false hws]
 obtain ⟨vy,rfl,hgv,hsy,hks⟩:=main
 have hopx:∀z ∈ x.op.operands,(s.put y.dst vy).opd z=s.opd z:=fun z hz=>opd_put (s:=s) (R:=s.roots) a3 hz
 have hwx2:wantedV (ops.toList.map (·.dst)) (s.put y.dst vy) x=wantedV (ops.toList.map (·.dst)) s x:=wanted_put (s:=s) (R:=s.roots) a3
 refine ⟨_,hsy,hks,.inl ⟨by rw[hwx2,hwx],(v0,q.put y.dst vy),vx,?_,o2,(put_comm2 (fun e h=>a2 e h))⟩,stepK_eq hkx hopx hwx2 (.inr (.inl ⟨h4,fun r=>by rw[root_put]⟩))⟩
 have:=g7 (s.put y.dst vy).tmps (fun z hz=>by
  rw[←put_t]
  exact hopx z hz)
 rw[←put_t,put_map hgv q4] at this
 exact this
theorem swap_app2 {C:Cfg} {n:Nat} {ix iy:List Nat} {ops:Array Oper} {px py:Nat} {x y:Oper} {s1 s2:St} {kx ky:Nat × List Nat × List Nat} (hkx:stepK C n ix (ops.toList.map (·.dst)) s x=kx) (hky:stepK C n iy (ops.toList.map (·.dst)) s1 y=ky) (hc:appOk x ky kx=true) (ha:Oper.apart ops x y=true)
  (hx:StepTo C n ix (ops.toList.map (·.dst)) px x s s1) (hy:StepTo C n iy (ops.toList.map (·.dst)) py y s1 s2):∃t,StepTo C n iy (ops.toList.map (·.dst)) py y s t∧stepK C n iy (ops.toList.map (·.dst)) s y=ky∧StepTo C n ix (ops.toList.map (·.dst)) px x t s2∧stepK C n ix (ops.toList.map (·.dst)) t x=kx:=by
 simp only[appOk,Bool.and_eq_true,Nat.beq_eq,List.all_eq_true,Bool.not_eq_true'] at hc
 obtain ⟨⟨h4,hsim⟩,hdis⟩:=hc
 obtain ⟨a1,a2,a3⟩:=Oper.apart_spec ha
 obtain ⟨hwy,hky4,hkh,⟨v0,q⟩,vy,o1,o2,rfl⟩:=four_wanted hky h4 hy
 obtain ⟨g,g1,g2,g3,g4,g5,g6,g7⟩:=app_t hky4 o1
 have hdis':∀r ∈ kx.2.2,r ∉ takesOf s1 iy y:=fun r hr hm=>by
  rw[←hkh] at hm
  have:=hdis r hm
  rw[List.contains_iff_mem.2 hr] at this
  cases this
 have gu:g .undef=.undef:=by rcases g3 .undef with h | h <;> exact h
 have s1v:∃vx,s1=s.put x.dst vx∧g vx=vx:=by
  rcases hx':hx with ⟨hws,_⟩ | ⟨_,h2⟩
  ·obtain ⟨vx,h2,hvx,_⟩:=simple_step hsim hx
   refine ⟨vx,h2,?_⟩
   rcases hvx with rfl | hvx
   ·exact g2
   ·exact g1 vx fun r hr=>hdis' r (tag_handles hsim hkx hws r (hvx r hr))
  ·exact ⟨_,h2,g2⟩
 obtain ⟨vx0,hs1,hgvx⟩:=s1v
 have hrs:s1.roots=s.roots:=by rw[hs1];exact roots_put ..
 have hls:s1.lent=s.lent:=by rw[hs1];cases x.dst <;> rfl
 have hback:({ s1 with tmps:=s.tmps }:St)=s:=by
  cases s1
  simp only at hrs hls
  subst hrs hls
  rfl
 have hopy:∀z ∈ y.op.operands,s.opd z=s1.opd z:=fun z hz=>by rw[hs1];exact (opd_put (s:=s) (R:=s.roots) a1 hz).symm
 have hwy2:wantedV (ops.toList.map (·.dst)) s y=wantedV (ops.toList.map (·.dst)) s1 y:=by rw[hs1];exact (wanted_put (s:=s) (R:=s.roots) a1).symm
 have ys:=g7 s.tmps (fun z hz=>by rw[hback];exact hopy z hz)
 rw[hback] at ys
 have hq:q=({ q with tmps:=s.tmps.map g }:St).put x.dst vx0:=by
  have e:q.tmps=s1.tmps.map g:=g4
  have:=put_map (g:=g) (q:=s) (q':={ q with tmps:=s.tmps.map g }) (d:=x.dst) (v:=vx0) hgvx rfl
  rw[←this,←hs1,←e]
 have hsy:StepTo C n iy (ops.toList.map (·.dst)) py y s (({ q with tmps:=s.tmps.map g }:St).put y.dst vy):=.inl ⟨by rw[hwy2,hwy],_,vy,ys,o2,rfl⟩
 have hks:stepK C n iy (ops.toList.map (·.dst)) s y=ky:=stepK_eq hky hopy hwy2 (.inr (.inl ⟨h4,fun r=>by unfold St.root;rw[hrs]⟩))
 refine ⟨_,hsy,hks,?_⟩
 have tq:∀t,(({ q with tmps:=s.tmps.map g }:St)).get t=g (s.get t):=fun t=>get_map gu rfl t
 have hopt:∀z ∈ x.op.operands,(({ q with tmps:=s.tmps.map g }:St).put y.dst vy).opd z=({ q with tmps:=s.tmps.map g }:St).opd z:=fun z hz=>opd_put (s:={ q with tmps:=s.tmps.map g }) (R:=q.roots) a3 hz
 have hwt:wantedV (ops.toList.map (·.dst)) (({ q with tmps:=s.tmps.map g }:St).put y.dst vy) x=wantedV (ops.toList.map (·.dst)) ({ q with tmps:=s.tmps.map g }:St) x:=wanted_put (s:={ q with tmps:=s.tmps.map g }) (R:=q.roots) a3
 have hwg:∀w,wantedV (ops.toList.map (·.dst)) s x=some w→wantedV (ops.toList.map (·.dst)) ({ q with tmps:=s.tmps.map g }:St) x=some w:=by
  intro w h
  unfold wantedV at h ⊢
  split at h
  ·exact h
  ·split at h
   ·rename_i d hd
    rw[tq]
    split at h
    ·rename_i e;rw[e,g1 _ (by intro r hr;cases hr)];exact h
    ·rename_i e;rw[e,g1 _ (by intro r hr;cases hr)];exact h
    ·rename_i e;rw[e,g2];exact h
    ·cases h
   ·cases h
 rcases hx':hx with ⟨hws,_⟩ | ⟨hws,h2⟩
 ·obtain ⟨vx,h2,hvx,sx⟩:=simple_step hsim hx
  have hgv:g vx=vx:=by
   rcases hvx with rfl | hvx
   ·exact g2
   ·exact g1 vx fun r hr=>hdis' r (tag_handles hsim hkx hws r (hvx r hr))
  have hq2:q=({ q with tmps:=s.tmps.map g }:St).put x.dst vx:=by
   have e:q.tmps=s1.tmps.map g:=g4
   have:=put_map (g:=g) (q:=s) (q':={ q with tmps:=s.tmps.map g }) (d:=x.dst) (v:=vx) hgv rfl
   rw[←this,←h2,←e]
  have hopx:∀z ∈ x.op.operands,(({ q with tmps:=s.tmps.map g }:St).put y.dst vy).opd z=s.opd z:=by
   intro z hz
   rw[hopt z hz]
   cases z with
   | tmp t=>
    show (({ q with tmps:=s.tmps.map g }:St)).get t=s.get t
    rw[tq]
    exact g1 _ fun r hr=>hdis' r (tag_handles hsim hkx hws r (List.mem_flatMap.2 ⟨.tmp t,Array.mem_toList_iff.2 hz,hr⟩))
   | _=>rfl
  have hwe:wantedV (ops.toList.map (·.dst)) (({ q with tmps:=s.tmps.map g }:St).put y.dst vy) x=wantedV (ops.toList.map (·.dst)) s x:=by rw[hwt,hwg true hws,hws]
  refine ⟨?_,stepK_eq hkx hopx hwe (.inl (simple_field hsim hkx))⟩
  have:=sx _ hopx hwe (fun r hr=>by
   rw[root_put]
   have h6:=g6 r (fun h=>hdis' r (tag_handles hsim hkx hws r hr) h)
   have e1:s1.root r=s.root r:=by unfold St.root;rw[hrs]
   rw[e1] at h6
   exact Nat.le_of_eq h6.symm)
  have e3:q.put y.dst vy=(({ q with tmps:=s.tmps.map g }:St).put y.dst vy).put x.dst vx:=by
   conv=>lhs;rw[hq2]
   exact put_comm2 (fun e h=>a2 e h)
  rw[e3]
  exact this
 ·have hwe:wantedV (ops.toList.map (·.dst)) (({ q with tmps:=s.tmps.map g }:St).put y.dst vy) x=some false:=by rw[hwt,hwg false hws]
  refine ⟨.inr ⟨hwe,?_⟩,by rw[stepK_false hwe,←hkx,stepK_false hws]⟩
  have hq2:q=({ q with tmps:=s.tmps.map g }:St).put x.dst (.tup []):=by
   have e:q.tmps=s1.tmps.map g:=g4
   have:=put_map (g:=g) (q:=s) (q':={ q with tmps:=s.tmps.map g }) (d:=x.dst) (v:=.tup []) g2 rfl
   rw[←this,←h2,←e]
  conv=>lhs;rw[hq2]
  exact put_comm2 (fun e h=>a2 e h)
theorem swap_ok {C:Cfg} {n:Nat} {ix iy:List Nat} {ops:Array Oper} {px py:Nat} {x y:Oper} {s1 s2:St} {kx ky:Nat × List Nat × List Nat} (hkx:stepK C n ix (ops.toList.map (·.dst)) s x=kx) (hky:stepK C n iy (ops.toList.map (·.dst)) s1 y=ky) (hc:(pairOk kx ky || appOk y kx ky || appOk x ky kx)=true) (ha:Oper.apart ops x y=true)
  (hx:StepTo C n ix (ops.toList.map (·.dst)) px x s s1) (hy:StepTo C n iy (ops.toList.map (·.dst)) py y s1 s2):∃t,StepTo C n iy (ops.toList.map (·.dst)) py y s t∧stepK C n iy (ops.toList.map (·.dst)) s y=ky∧StepTo C n ix (ops.toList.map (·.dst)) px x t s2∧stepK C n ix (ops.toList.map (·.dst)) t x=kx:=by
 rw[Bool.or_eq_true,Bool.or_eq_true] at hc
 rcases hc with (hc | hc) | hc
 ·exact swap_pair hkx hky hc ha hx hy
 ·exact swap_app1 hkx hky hc ha hx hy
 ·exact swap_app2 hkx hky hc ha hx hy
theorem bubble {C:Cfg} {n:Nat} {ids:List (Nat × List Nat)} {ops:Array Oper} {ks:Nat→Nat × List Nat × List Nat} {i:Nat} {y:Oper} (hi:ops[i]?=some y) {post:List Nat}:∀{pre:List Nat} {s s':St},(∀p ∈ pre,∀x,ops[p]?=some x→((pairOk (ks p) (ks i) || appOk y (ks p) (ks i) || appOk x (ks i) (ks p))=true∧Oper.apart ops x y=true)) →
  Steps C n ids ops.toList ks (pre++i::post) s s'→Steps C n ids ops.toList ks (i::(pre++post)) s s'
 | [],s,s',_,h=>h
 | p::pre,s,s',hp,h=>by
  obtain ⟨x,s1,h0,h1,hkx,h2⟩:=h
  obtain ⟨y',s2,k0,k1,hky,k2⟩:=bubble hi (fun q hq=>hp q (by simp[hq])) h2
  have e:y'=y:=by rw[Array.getElem?_toList,hi] at k0;exact (Option.some.inj k0).symm
  subst e
  obtain ⟨hc,ha⟩:=hp p (by simp) x (by rw[←Array.getElem?_toList];exact h0)
  obtain ⟨t,g1,g3,g2,g4⟩:=swap_ok hkx hky hc ha h1 k1
  exact ⟨y',t,k0,g1,g3,x,s2,h0,g2,g4,k2⟩
def remain (m:Nat) (listed:Array Bool):List Nat:=(List.range m).filter fun i=>!listed.getD i true
def Closed (ops:Array Oper) (listed:Array Bool):Prop:=∀(i:Nat) (o:Oper),ops[i]?=some o→listed.getD i false=true→∀e ∈ o.after,Region.binds .any e=true→listed.getD e.on false=true
theorem waits_closed {ops:Array Oper} {listed:Array Bool} (hcl:Closed ops listed) {p:Nat}:∀(k:Nat) (i:Nat) (o:Oper),ops[i]?=some o→(∀e ∈ o.after,Region.binds .any e=true→listed.getD e.on false=true)→waits ops.toList p k i=true→listed.getD p false=true
 | 0,_,_,_,_,h=>by simp[waits] at h
 | k+1,i,o,ho,hl,h=>by
  have ho':ops.toList[i]?=some o:=by rw[Array.getElem?_toList];exact ho
  simp only[waits,ho',List.any_eq_true,Bool.and_eq_true,Bool.or_eq_true,Nat.beq_eq] at h
  obtain ⟨e,he,hb,h⟩:=h
  have he':e ∈ o.after:=Array.mem_toList_iff.1 he
  have hon:=hl e he' hb
  rcases h with h | h
  ·rw[←h];exact hon
  ·cases hx:ops[e.on]? with
   | none=>
    have hx':ops.toList[e.on]?=none:=by rw[Array.getElem?_toList];exact hx
    cases k <;> simp[waits,hx'] at h
   | some o'=>exact waits_closed hcl k e.on o' hx (hcl e.on o' hx hon) h
theorem filter_split {α:Type} {q:α→Bool} {i:α}:∀{l:List α},l.Nodup→i ∈ l→q i=true→∃pre post,l.filter q=pre++i::post∧(∀q':α→Bool,q' i=false→(∀j,j≠i→q' j=q j)→l.filter q'=pre++post)∧(∀p ∈ pre,p ∈ l∧q p=true∧p≠i)
 | [],_,h,_=>by cases h
 | a::l,hn,h,hq=>by
  rw[List.nodup_cons] at hn
  by_cases e:a=i
  ·subst e
   refine ⟨[],l.filter q,by simp[hq],fun q' h1 h2=>?_,by simp⟩
   have:l.filter q'=l.filter q:=List.filter_congr fun x hx=>h2 x (by rintro rfl;exact hn.1 hx)
   simp[h1,this]
  ·have hm:i ∈ l:=by rcases List.mem_cons.1 h with h | h;exact absurd h.symm e;exact h
   obtain ⟨pre,post,h1,h2,h3⟩:=filter_split hn.2 hm hq
   cases ha:q a with
   | true=>
    refine ⟨a::pre,post,by simp[ha,h1],fun q' k1 k2=>?_,fun p hp=>?_⟩
    ·have:=k2 a e
     simp[this,ha,h2 q' k1 k2]
    ·rcases List.mem_cons.1 hp with rfl | hp
     ·exact ⟨by simp,ha,e⟩
     ·have:=h3 p hp;exact ⟨by simp[this.1],this.2⟩
   | false=>
    refine ⟨pre,post,by simp[ha,h1],fun q' k1 k2=>?_,fun p hp=>?_⟩
    ·have:=k2 a e
     simp[this,ha,h2 q' k1 k2]
    ·have:=h3 p hp;exact ⟨by simp[this.1],this.2⟩
theorem sorted_pre {i:Nat}:∀{l pre post:List Nat},l.Pairwise (· < ·)→l=pre++i::post→∀p ∈ pre,p<i
 | l,pre,post,hs,e,p,hp=>by
  subst e
  rw[List.pairwise_append] at hs
  exact hs.2.2 p hp i (by simp)
theorem go_ok {C:Cfg} {n:Nat} {ids:List (Nat × List Nat)} {ops:Array Oper} {ks:List (Nat × List Nat × List Nat)} (ho:orderFree ops.toList ks=true):∀(fuel t:Nat) (listed:Array Bool) (s s':St),listed.size=ops.size→Closed ops listed→(remain ops.size listed).length≤fuel→Steps C n ids ops.toList (fun j=>ks.getD j (3,[],[])) (remain ops.size listed) s s' →
  Steps C n ids ops.toList (fun j=>ks.getD j (3,[],[])) (Region.linearise.go .any ops fuel t listed []) s s'
 | 0,t,listed,s,s',hsz,hcl,hlen,h=>by
  have:remain ops.size listed=[]:=List.eq_nil_of_length_eq_zero (by omega)
  rw[this] at h
  simpa [Region.linearise.go] using h
 | fuel+1,t,listed,s,s',hsz,hcl,hlen,h=>by
  simp only[Region.linearise.go]
  change Steps C n ids ops.toList (fun j=>ks.getD j (3,[],[])) (match (Region.ready .any ops listed)[t % (Region.ready .any ops listed).length]? with
   | some i=>Region.linearise.go .any ops fuel (t / (Region.ready .any ops listed).length) (listed.setIfInBounds i true) [i]
   | none=>[].reverse) s s'
  have ho1:=ho
  simp only[orderFree,Bool.and_eq_true,List.all_eq_true,Array.length_toList] at ho1
  obtain ⟨hdown,hpair⟩:=ho1
  have hzip:∀(j:Nat) (o:Oper),ops[j]?=some o→(o,j) ∈ ops.toList.zipIdx:=by
   intro j o hj
   rw[List.mem_zipIdx_iff_getElem?,Array.getElem?_toList]
   exact hj
  have hgetD:∀i,listed.getD i true=false→listed.getD i false=false:=by
   intro i hi
   unfold Array.getD at hi ⊢
   split at hi <;> simp_all
  have hgetD':∀i,i<ops.size→listed.getD i false=listed.getD i true:=by
   intro i hi
   unfold Array.getD
   rw[dif_pos (by omega),dif_pos (by omega)]
  cases hi:(Region.ready .any ops listed)[t % (Region.ready .any ops listed).length]? with
  | none=>
   have hnil:Region.ready .any ops listed=[]:=by
    cases hr:Region.ready .any ops listed with
    | nil=>rfl
    | cons x xs=>
     rw[hr] at hi
     have hlt:t % (x::xs).length<(x::xs).length:=Nat.mod_lt _ (by simp)
     simp at hi
     simp at hlt
     omega
   have hrem:remain ops.size listed=[]:=by
    cases hr:remain ops.size listed with
    | nil=>rfl
    | cons x xs=>
     exfalso
     have hx:x ∈ remain ops.size listed:=by rw[hr];simp
     have hx':=hx
     simp only[remain,List.mem_filter,List.mem_range,Bool.not_eq_true'] at hx'
     have hmin:∀p,p<x→listed.getD p true=true:=by
      intro p hp
      cases hb:listed.getD p true with
      | true=>rfl
      | false=>
       have hpm:p ∈ remain ops.size listed:=by
        simp only[remain,List.mem_filter,List.mem_range,Bool.not_eq_true']
        exact ⟨by omega,hb⟩
       rw[hr] at hpm
       have hs:(x::xs).Pairwise (· < ·):=by
        rw[←hr]
        exact List.Pairwise.filter _ List.pairwise_lt_range
       rcases List.mem_cons.1 hpm with rfl | hm
       ·omega
       ·have:=(List.pairwise_cons.1 hs).1 p hm;omega
     have hrdy:x ∈ Region.ready .any ops listed:=by
      rw[mem_ready]
      refine ⟨hx'.2,ops[x]'hx'.1,by simp,?_⟩
      intro e he hb
      have:=hdown (ops[x]'hx'.1,x) (hzip x _ (by simp)) e (Array.mem_toList_iff.2 he)
      rw[hb,Bool.not_true,Bool.false_or,Nat.blt_eq] at this
      rw[hgetD' _ (by have h9:=hx'.1;exact Nat.lt_trans this h9)]
      exact hmin _ this
     rw[hnil] at hrdy
     cases hrdy
   rw[hrem] at h
   exact h
  | some i=>
   simp only[]
   rw[linearise_go_acc,List.reverse_singleton,List.singleton_append]
   have hir:=List.mem_of_getElem? hi
   rw[mem_ready] at hir
   obtain ⟨hnl,y,hy,hready⟩:=hir
   have hlt:i<ops.size:=(Array.getElem?_eq_some_iff.1 hy).1
   obtain ⟨pre,post,e1,e2,e3⟩:=filter_split (q:=fun i=>!listed.getD i true) (List.nodup_range (n:=ops.size)) (List.mem_range.2 hlt) (by simp[hnl])
   have hrem2:remain ops.size (listed.setIfInBounds i true)=pre++post:=by
    refine e2 _ ?_ ?_
    ·have:i<listed.size:=by omega
     simp[Array.getD,this]
    ·intro j hj
     congr 1
     unfold Array.getD
     simp only[Array.size_setIfInBounds]
     split
     ·rw[Array.getInternal_eq_getElem,Array.getInternal_eq_getElem,Array.getElem_setIfInBounds_ne _ (Ne.symm hj)]
     ·rfl
   have hlt':∀p ∈ pre,p<i:=sorted_pre (l:=remain ops.size listed) (List.Pairwise.filter _ List.pairwise_lt_range) e1
   have h':Steps C n ids ops.toList (fun j=>ks.getD j (3,[],[])) (pre++i::post) s s':=by
    have:remain ops.size listed=pre++i::post:=e1
    rwa [this] at h
   have hb:=bubble hy (fun p hp x hx=>by
    have h3:=e3 p hp
    have hpl:listed.getD p true=false:=by simpa using h3.2.1
    have:=hpair (x,p) (hzip p x hx) (y,i) (hzip i y hy)
    simp only[Bool.or_eq_true,Bool.and_eq_true,Bool.not_eq_true'] at this
    rcases this with (h4 | h4) | h4
    ·have h5:Nat.blt p i=true:=by rw[Nat.blt_eq];exact hlt' p hp
     rw[h5] at h4;cases h4
    ·have:=waits_closed hcl _ i y hy hready h4
     rw[hgetD p hpl] at this;cases this
    ·exact ⟨by simpa only [Bool.or_eq_true] using h4.1,h4.2⟩) h'
   obtain ⟨o,s1,g0,g1,g3,g2⟩:=hb
   refine ⟨o,s1,g0,g1,g3,?_⟩
   refine go_ok ho fuel _ _ s1 s' (by simp[hsz]) ?_ ?_ ?_
   ·intro j o' hj hlj e he hb
    have hset:∀q,listed.getD q false=true→(listed.setIfInBounds i true).getD q false=true:=by
     intro q hq
     unfold Array.getD at hq ⊢
     simp only[Array.size_setIfInBounds]
     split at hq
     ·rename_i hql
      rw[dif_pos hql]
      rw[Array.getInternal_eq_getElem] at hq ⊢
      rw[Array.getElem_setIfInBounds]
      split
      ·rfl
      ·exact hq
     ·cases hq
    by_cases hji:j=i
    ·subst hji
     have:o'=y:=by rw[hy] at hj;exact (Option.some.inj hj).symm
     subst this
     exact hset _ (hready e he hb)
    ·have hlj':listed.getD j false=true:=by
      unfold Array.getD at hlj ⊢
      simp only[Array.size_setIfInBounds] at hlj
      split at hlj
      ·rename_i hql
       rw[dif_pos hql]
       rw[Array.getInternal_eq_getElem] at hlj ⊢
       rwa [Array.getElem_setIfInBounds_ne _ (Ne.symm hji)] at hlj
      ·cases hlj
     exact hset _ (hcl j o' hj hlj' e he hb)
   ·rw[hrem2]
    have h6:(remain ops.size listed).length=(pre++i::post).length:=congrArg List.length e1
    simp only[List.length_append,List.length_cons] at h6 ⊢
    omega
   ·rw[hrem2];exact g2
theorem order_ok {C:Cfg} {n:Nat} {ids:List (Nat × List Nat)} {ops:Array Oper} {ks:List (Nat × List Nat × List Nat)} (ho:orderFree ops.toList ks=true) (h:Steps C n ids ops.toList (fun j=>ks.getD j (3,[],[])) (List.range ops.size) s s') (t:Nat):Steps C n ids ops.toList (fun j=>ks.getD j (3,[],[])) (Region.linearise .any ops t) s s':=by
 have hrem:remain ops.size (Array.replicate ops.size false)=List.range ops.size:=by
  unfold remain
  rw[List.filter_eq_self]
  intro i hi
  have:=List.mem_range.1 hi
  simp[Array.getD,this]
 refine go_ok ho ops.size t _ s s' (by simp) ?_ ?_ (by rw[hrem];exact h)
 ·intro i o _ hl
  exfalso
  unfold Array.getD at hl
  split at hl
  ·simp at hl
  ·cases hl
 ·rw[hrem,List.length_range];exact Nat.le_refl _
end Go.Refl
end
section
namespace Go.Refl
open Go Go.RowKit
variable {P:Program} {w0 w w':World} {Mo:Given} {F0 F F':Nat→Prop} {L L':Nat→Value} {s s':St} {a:Act}
def Ex.at:Ex→Exit
 | .normal=>.normal
 | .exit i=>.exit i
 | .ret=>.ret
def KOk {ρ:Type} (P:Program) (w0:World) (Mo:Given) (F0:Nat→Prop) (k:Kont ρ) (r:ρ) (Q:Exit→Act→World→Prop):Prop:=
 ∀e s a w,k e s=some r→Rel w0 Mo F0 s a w→Q e.at a w
theorem Rel.drawn (h:Rel w0 Mo F0 s a w):Rel w0 Mo F0 s a { w with drawn:=w.drawn+1 }:=by
 obtain ⟨hd,F,L,hc,ht⟩:=h
 have go:Goes w { w with drawn:=w.drawn+1 } F F L L s.roots s.roots:=⟨fun _ h=>h,fun _ _=>rfl,fun _ _=>⟨rfl,Compat.refl _⟩⟩
 refine ⟨hd,F,L,⟨⟨hc.evol.os,hc.evol.tape,hc.evol.output,hc.evol.size,hc.evol.old⟩,hc.f0,hc.fr,hc.live,hc.apart,fun r=>(hc.roots r).goes go fun _ _ _=>rfl,hc.kp⟩,ht.mono fun _ _ h=>h.goes go⟩
theorem loopE_ok {ρ:Type} {r:ρ} {cut:St→St} {body:St→Kont ρ→Option ρ} {c:Code} (hcut:∀s a w,Rel w0 Mo F0 s a w→Rel w0 Mo F0 (cut s) a w)
  (hb:∀(s:St) (k:Kont ρ) (Q:Exit→Act→World→Prop) (a:Act) (w:World),body s k=some r→Rel w0 Mo F0 s a w→KOk P w0 Mo F0 k r Q→c.wp P Q a w) (k:Kont ρ) (Q:Exit→Act→World→Prop) (hk:KOk P w0 Mo F0 k r Q) :
  ∀(n:Nat) (s:St) (a:Act) (w:World),loopE cut body n s k=some r→Rel w0 Mo F0 s a w→Code.rounds P c Q n a w
 | 0,s,a,w,h,_=>by cases h
 | n+1,s,a,w,h,hr=>by
  simp only[loopE] at h
  rw[rounds_succ]
  refine hb s _ _ a w h hr fun e s' a' w' h' hr'=>?_
  cases e with
  | normal=>exact loopE_ok hcut hb k Q hk n (cut s') a' w' h' (hcut _ _ _ hr')
  | exit i=>exact hk (.exit i) s' a' w' h' hr'
  | ret=>exact hk .ret s' a' w' h' hr'
theorem both_some {ρ:Type} {x y:Option ρ} {r:ρ} (h:both x y=some r):x=some r∧y=some r:=by
 unfold both at h
 split at h
 ·rename_i e
  exact ⟨h,e ▸ h⟩
 ·cases h
theorem evalC_ok {ρ:Type} {C:Cfg} (hC:CfgOk P C w0 Mo F0) (A:Ann) (n:Nat) (r:ρ):∀(c:Code) (s:St) (k:Kont ρ) (Q:Exit→Act→World→Prop) (a:Act) (w:World),evalC C A n c s k=some r→Rel w0 Mo F0 s a w→KOk P w0 Mo F0 k r Q→c.wp P Q a w
 | .skip,s,k,Q,a,w,h,hr,hk=>wp_skip (hk .normal s a w h hr)
 | .region id ops dr,s,k,Q,a,w,h,hr,hk=>by
  simp only[evalC] at h
  obtain ⟨s',h1,h2⟩:=Res.run_to _ h
  obtain ⟨ks,_,_,ho,hst⟩:=steps_text ops.toList 0 (ops:=ops.toList) (ks:=[]) (by simp) rfl h1
  rw[←List.range_eq_range',Array.length_toList] at hst
  cases dr with
  | false=>
   apply wp_region
   exact steps_ok hC _ s s' a w hst hr fun a' w' hr'=>hk .normal s' a' w' h2 hr'
  | true=>
   apply wp_region_draw
   intro t
   rw[hC.mixed,show Region.schedule true ops t=Region.linearise .any ops t from rfl]
   exact steps_ok hC _ s s' a _ (order_ok (ho _ rfl) hst t) hr.drawn fun a' w' hr'=>hk .normal s' a' w' h2 hr'
 | .seq x y,s,k,Q,a,w,h,hr,hk=>by
  simp only[evalC] at h
  apply wp_seq
  refine evalC_ok hC A n r x s _ _ a w h hr fun e s' a' w' h' hr'=>?_
  cases e with
  | normal=>exact evalC_ok hC A n r y _ k Q a' w' ((joinE_eq _ _ _ _).symm.trans h') (cutAt_ok _ _ hr') hk
  | exit i=>exact hk (.exit i) s' a' w' h' hr'
  | ret=>exact hk .ret s' a' w' h' hr'
 | .cond c x y,s,k,Q,a,w,h,hr,hk=>by
  simp only[evalC] at h
  have hb:∀lv,s.opd c=lv→∃F L,VRel w F L s.roots lv (a.eval c):=by
   intro lv hlv
   obtain ⟨hd,F,L,hc,ht⟩:=hr
   exact ⟨F,L,hlv ▸ opd_rel ht c⟩
  split at h
  ·rename_i t hv
   obtain ⟨F,L,hrel⟩:=hb _ hv
   have hcv:=bool_of hrel
   split at h
   ·rename_i ht
    exact wp_cond (t:=true) (by rw[hcv,ht]) (evalC_ok hC A n r x s k Q a w h hr hk)
   ·rename_i ht
    have:t=false:=by simpa using ht
    exact wp_cond (t:=false) (by rw[hcv,this]) (evalC_ok hC A n r y s k Q a w h hr hk)
  ·rename_i p d neg hv
   obtain ⟨F,L,hrel⟩:=hb _ hv
   have hcv:a.eval c=.bool (bif neg then !(@decide p d) else @decide p d):=hrel
   by_cases hp:p
   ·rw[if_pos hp] at h
    have:@decide p d=true:=@decide_eq_true p d hp
    rw[this] at hcv
    cases neg with
    | true=>exact wp_cond (t:=false) hcv (evalC_ok hC A n r y s k Q a w h hr hk)
    | false=>exact wp_cond (t:=true) hcv (evalC_ok hC A n r x s k Q a w h hr hk)
   ·rw[if_neg hp] at h
    have:@decide p d=false:=@decide_eq_false p d hp
    rw[this] at hcv
    cases neg with
    | true=>exact wp_cond (t:=true) hcv (evalC_ok hC A n r x s k Q a w h hr hk)
    | false=>exact wp_cond (t:=false) hcv (evalC_ok hC A n r y s k Q a w h hr hk)
  ·rename_i m neg hv
   obtain ⟨F,L,hrel⟩:=hb _ hv
   obtain ⟨t,hcv,ht⟩:=(show ∃t:Bool,a.eval c=.bool (bif neg then !t else t)∧(t=true→m=0) from hrel)
   by_cases hm:m=0
   ·rw[if_pos hm] at h
    obtain ⟨h1,h2⟩:=both_some h
    cases hq:(bif neg then !t else t) with
    | true=>exact wp_cond (t:=true) (by rw[hcv,hq]) (evalC_ok hC A n r x s k Q a w h1 hr hk)
    | false=>exact wp_cond (t:=false) (by rw[hcv,hq]) (evalC_ok hC A n r y s k Q a w h2 hr hk)
   ·rw[if_neg hm] at h
    have htf:t=false:=by
     cases t with
     | false=>rfl
     | true=>exact absurd (ht rfl) hm
    subst htf
    cases neg with
    | true=>exact wp_cond (t:=true) hcv (evalC_ok hC A n r x s k Q a w h hr hk)
    | false=>exact wp_cond (t:=false) hcv (evalC_ok hC A n r y s k Q a w h hr hk)
  ·cases h
 | .block id c,s,k,Q,a,w,h,hr,hk=>by
  simp only[evalC] at h
  apply wp_block
  refine evalC_ok hC A n r c s _ _ a w h hr fun e s' a' w' h' hr'=>?_
  cases e with
  | normal=>exact hk .normal s' a' w' h' hr'
  | exit i=>
   simp only[blockK] at h'
   show if i=id then Q .normal a' w' else Q (.exit i) a' w'
   cases hb:Nat.beq i id with
   | true=>rw[hb,cond_true] at h';rw[if_pos (Nat.eq_of_beq_eq_true hb)];exact hk .normal s' a' w' h' hr'
   | false=>rw[hb,cond_false] at h';rw[if_neg (Nat.ne_of_beq_eq_false hb)];exact hk (.exit i) s' a' w' h' hr'
  | ret=>exact hk .ret s' a' w' h' hr'
 | .loop c,s,k,Q,a,w,h,hr,hk=>by
  simp only[evalC] at h
  exact wp_loop_rounds n (loopE_ok (fun s a w h=>cutAt_ok _ _ h) (fun s k Q a w h hr hk=>evalC_ok hC A n r c s k Q a w h hr hk) k Q hk n _ a w h (cutAt_ok _ _ hr))
 | .scope c,s,k,Q,a,w,h,hr,hk=>by
  simp only[evalC] at h
  apply wp_scope_straight
  refine evalC_ok hC A n r c s k _ a w h hr fun e s' a' w' h' hr'=>?_
  have:=hk e s' a' w' h' hr'
  cases e <;> exact this
 | .exit id,s,k,Q,a,w,h,hr,hk=>wp_exit (hk (.exit id) s a w h hr)
 | .ret,s,k,Q,a,w,h,hr,hk=>wp_ret (hk .ret s a w h hr)
 | .rangeFunc ..,s,k,Q,a,w,h,hr,hk=>by cases h
 | .label _,s,k,Q,a,w,h,hr,hk=>by cases h
 | .goto _,s,k,Q,a,w,h,hr,hk=>by cases h
 | .refuse _,s,k,Q,a,w,h,hr,hk=>by cases h
end Go.Refl
end
section
namespace Go.Refl
open Go Go.RowKit
variable {P:Program} {w0 w w':World} {Mo:Given} {F0 F F':Nat→Prop} {L L':Nat→Value} {s s':St} {a:Act}
theorem splitD_join:∀(ms ns:List M) (x:dens ms) (y:dens ns),splitD ms ns (joinD ms ns x y)=(x,y)
 | [],_,_,_=>rfl
 | [_],[],_,_=>rfl
 | [_],_::_,_,_=>rfl
 | _::n::ms,ns,x,y=>by
  simp only[splitD,joinD]
  rw[splitD_join (n::ms) ns x.2 y]
theorem absorbs_rel (hc:Core w0 Mo F0 F L s w) {lend:Nat→Bool}:∀{ms:List M} {x:dens ms} {lvs vs eaten},absorbs s lend ms lvs=some (x,eaten)→All2 (VRel w F L s.roots) lvs vs →
  MsRep w (Lent F L s lend) ms x vs (blks L eaten)∧∀r ∈ eaten,(s.root r).isDead=false
 | [],x,[],[],eaten,h,_=>by
  simp only[absorbs,Option.some.injEq,Prod.mk.injEq] at h
  obtain ⟨_,rfl⟩:=h
  exact ⟨⟨rfl,rfl⟩,by simp⟩
 | [],x,[],_::_,_,_,h=>h.elim
 | [],x,_::_,_,_,h,_=>by simp[absorbs] at h
 | [m],x,[],_,_,h,_=>by simp[absorbs] at h
 | [m],x,[lv],[],_,h,hv=>hv.elim
 | [m],x,[lv],_::_::_,_,h,hv=>hv.2.elim
 | [m],x,_::_::_,_,_,h,_=>by simp[absorbs] at h
 | [m],x,[lv],[v],eaten,h,hv=>by
  simp only[absorbs] at h
  obtain ⟨cs,h1,h2,h3⟩:=absorb_rel hc h hv.1
  exact ⟨⟨cs,by rw[h1],h2⟩,h3⟩
 | m::n::ms,x,[],_,_,h,_=>by simp[absorbs] at h
 | m::n::ms,x,lv::lvs,[],_,h,hv=>hv.elim
 | m::n::ms,x,lv::lvs,v::vs,eaten,h,hv=>by
  simp only[absorbs,Option.bind_eq_some_iff,Option.map_eq_some_iff] at h
  obtain ⟨⟨y,e1⟩,hy,⟨z,e2⟩,hz,e⟩:=h
  cases e
  obtain ⟨cs,h1,h2,h3⟩:=absorb_rel hc hy hv.1
  obtain ⟨k1,k2⟩:=absorbs_rel hc hz hv.2
  refine ⟨⟨cs,_,vs,_,by rw[h1],blks_append ..,h2,k1⟩,fun r hr=>?_⟩
  rcases List.mem_append.1 hr with hr | hr
  ·exact h3 r hr
  ·exact k2 r hr
theorem outIn_rel (hc:Core w0 Mo F0 F L s w) {lend:Nat→Bool} {o:M × Option TypeId} {x:o.1.den} {r:Nat} {eaten:List Nat} (h:outIn s lend r o.1 o.2=some (x,eaten)) :
  OutRep w (Lent F L s lend) o x (L r) (blks L eaten)∧(∀q ∈ eaten,(s.root q).isDead=false)∧(s.root r).isDead=false:=by
 obtain ⟨m,T⟩:=o
 cases T with
 | none=>
  simp only[outIn] at h
  have hown:∃e E xs,s.root r=.row e E xs:=by
   cases m with
   | own e E=>
    simp only[absorb] at h
    have:=whole_some h
    simp only[absorbC] at this
    split at this
    ·rename_i e' E' xs hx
     exact ⟨_,_,_,hx⟩
    ·cases this
   | v t=>
    simp only[absorb,Option.map_eq_some_iff] at h
    obtain ⟨y,hy,_⟩:=h
    by_cases hx:∃e E xs,s.root r=.row e E xs
    ·exact hx
    ·exfalso
     unfold asV at hy
     simp only at hy
     cases hr:s.root r with
     | row e E xs=>exact hx ⟨_,_,_,hr⟩
     | dead=>simp[hr,asV1] at hy
     | box T cs=>simp[hr,asV1] at hy
   | bx T a=>simp[absorb] at h
   | pr a b=>simp[absorb] at h
   | bld T E=>simp[absorb] at h
  obtain ⟨e,E,xs,hroot⟩:=hown
  have hv:VRel w F L s.roots (.own r) (L r):=⟨rfl,e,E,xs,hroot⟩
  obtain ⟨cs,h1,h2,h3⟩:=absorb_rel hc h hv
  refine ⟨?_,h3,by rw[hroot];rfl⟩
  show MRep _ _ m x [L r] _
  have:cs=[L r]:=by
   have hlen:cs.length=1:=by
    cases m with
    | own e E=>obtain ⟨v,flat,rfl,_⟩:=h2;rfl
    | v t=>
     obtain ⟨_,h4⟩:=h2
     cases t with
     | pair a b=>
      have:packM (.v (.pair a b)) cs=.agg cs.toArray:=rfl
      rw[this] at h1
      obtain ⟨A,c,flat,g1,_⟩:=hc.row hroot
      rw[g1] at h1;cases h1
     | _=>exact h4.length _
    | bx T a=>simp[absorb] at h
    | pr a b=>simp[absorb] at h
    | bld T E=>simp[absorb] at h
   match cs,hlen with
   | [c],_=>
    rw[h1]
    cases m with
    | v t=>
     cases t with
     | pair a b=>
      have:packM (.v (.pair a b)) [c]=.agg [c].toArray:=rfl
      rw[this] at h1
      obtain ⟨A,c',flat,g1,_⟩:=hc.row hroot
      rw[g1] at h1;cases h1
     | _=>rfl
    | own e E=>rfl
    | bx T a=>simp[absorb] at h
    | pr a b=>simp[absorb] at h
    | bld T E=>simp[absorb] at h
  rw[←this]
  exact h2
 | some T=>
  simp only[outIn] at h
  split at h
  ·rename_i T' cs hroot
   cases hb:Nat.beq T T' with
   | false=>rw[hb] at h;cases h
   | true=>
    rw[hb,cond_true] at h
    rw[Nat.beq_eq] at hb
    subst hb
    split at h
    ·rename_i y l hp
     cases h
     have hrr:=hc.roots r
     rw[hroot] at hrr
     obtain ⟨g,cur,g1,g2,g3⟩:=hrr
     obtain ⟨c1,c2,k1,k2,k3,k4⟩:=absorbC_rel hc m hp g3
     cases c2 with
     | cons _ _=>exact k3.elim
     | nil=>
      rw[List.append_nil] at k1
      have hlv:(s.root r).isDead=false:=by rw[hroot];rfl
      refine ⟨⟨g,cur,blks L l,g1,g2,by rw[k1];exact k2,?_⟩,fun q hq=>?_,hlv⟩
      ·have:blks L (r::l)=(lblk (L r)).toList++blks L l:=by rw[←blks_one,←blks_append];rfl
       rw[this,g1];rfl
      ·rcases List.mem_cons.1 hq with rfl | hq
       ·exact hlv
       ·exact k4 q hq
    ·cases h
  ·cases h
theorem outsIn_rel (hc:Core w0 Mo F0 F L s w) {lend:Nat→Bool}:∀{os:List (M × Option TypeId)} {x:dens (os.map (·.1))} {rs eaten},outsIn s lend os rs=some (x,eaten) →
  OutsRep w (Lent F L s lend) os x (rs.map L) (blks L eaten)∧(∀q ∈ eaten,(s.root q).isDead=false)∧∀r ∈ rs,(s.root r).isDead=false
 | [],x,[],eaten,h=>by
  simp only[outsIn,Option.some.injEq,Prod.mk.injEq] at h
  obtain ⟨_,rfl⟩:=h
  exact ⟨⟨rfl,rfl⟩,by simp,by simp⟩
 | [],x,_::_,_,h=>by simp[outsIn] at h
 | [o],x,[],_,h=>by simp[outsIn] at h
 | [o],x,_::_::_,_,h=>by simp[outsIn] at h
 | [o],x,[r],eaten,h=>by
  simp only[outsIn] at h
  obtain ⟨h1,h2,h3⟩:=outIn_rel hc h
  exact ⟨⟨_,rfl,h1⟩,h2,by simpa using h3⟩
 | o::o'::os,x,[],_,h=>by simp[outsIn] at h
 | o::o'::os,x,r::rs,eaten,h=>by
  simp only[outsIn,Option.bind_eq_some_iff,Option.map_eq_some_iff] at h
  obtain ⟨⟨y,e1⟩,hy,⟨z,e2⟩,hz,e⟩:=h
  cases e
  obtain ⟨h1,h2,h3⟩:=outIn_rel hc hy
  obtain ⟨k1,k2,k3⟩:=outsIn_rel hc hz
  refine ⟨⟨_,_,_,_,rfl,blks_append ..,h1,k1⟩,fun q hq=>?_,fun q hq=>?_⟩
  ·rcases List.mem_append.1 hq with hq | hq
   ·exact h2 q hq
   ·exact k2 q hq
  ·rcases List.mem_cons.1 hq with rfl | hq
   ·exact h3
   ·exact k3 q hq
theorem mapM_run {β:Type} (f:ResultVar→Sem β):∀(l:List ResultVar) (vs:List β),All2 (fun x v=>(f x).run P w=.ok v w) l vs→(l.mapM f).run P w=.ok vs w
 | [],[],_=>by simp[Sem.run_pure]
 | [],_::_,h=>h.elim
 | _::_,[],h=>h.elim
 | x::l,v::vs,h=>by
  rw[List.mapM_cons]
  simp only[Sem.run_bind,h.1,Result.andThen_ok,mapM_run f l vs h.2,Sem.run_pure]
def resRun (tmps:Array Value):ResultVar→Sem Value
 | .tmp t=>pure (tmps.getD t undef)
 | .cell b t=>do loadVar t (←asAddr (tmps.getD b undef))
theorem resVs_rel {C:Cfg} (hT:CfgTb P C.tb) (hc:Core w0 Mo F0 F L s w) (ht:All2 (VRel w F L s.roots) s.tmps a.tmps.toList):∀{rv:List ResultVar} {lvs:List LV},resVs C s rv=some lvs →
  ∃vs,All2 (fun (x:ResultVar) v=>(resRun a.tmps x).run P w=.ok v w) rv vs∧All2 (VRel w F L s.roots) lvs vs
 | [],lvs,h=>by
  cases h
  exact ⟨[],trivial,trivial⟩
 | r::rv,lvs,h=>by
  simp only[resVs,Option.bind_eq_some_iff,Option.map_eq_some_iff] at h
  obtain ⟨lv,h1,lvs',h2,rfl⟩:=h
  obtain ⟨vs,k1,k2⟩:=resVs_rel hT hc ht h2
  cases r with
  | tmp t=>
   cases h1
   exact ⟨_::vs,⟨Sem.run_pure ..,k1⟩,opd_rel ht (.tmp t),k2⟩
  | cell b T=>
   simp only[resV,Option.bind_eq_some_iff] at h1
   obtain ⟨ti,g1,g2⟩:=h1
   obtain ⟨p,v,q1,q2,q3⟩:=load_ok (hT T ti g1) hc g2 (opd_rel ht (.tmp b))
   refine ⟨v::vs,⟨?_,k1⟩,q3,k2⟩
   have:a.tmps.getD b undef=.pointer (some p):=q1
   simp only[resRun,this,asAddr,Sem.run_bind,Sem.run_pure,Result.andThen_ok,q2]
theorem oneOrTupV_eq (vs:List Value):(if h:vs.toArray.size=1 then vs.toArray[0] else .tuple vs.toArray)=oneOrTupV vs:=by
 match vs with
 | []=>rfl
 | [v]=>rfl
 | v::u::l=>rfl
theorem results_run {C:Cfg} (hT:CfgTb P C.tb) {fn:Func} (hc:Core w0 Mo F0 F L s w) (ht:All2 (VRel w F L s.roots) s.tmps a.tmps.toList) {lvs:List LV} (h:resVs C s fn.results.toList=some lvs) :
  ∃vs,(results fn a.tmps).run P w=.ok (oneOrTupV vs) w∧All2 (VRel w F L s.roots) lvs vs:=by
 obtain ⟨vs,h1,h2⟩:=resVs_rel hT hc ht h
 refine ⟨vs,?_,h2⟩
 have:=mapM_run _ _ _ h1
 have e:results fn a.tmps=(do let vs ←fn.results.mapM (resRun a.tmps);pure (if h:vs.size=1 then vs[0] else .tuple vs)):=rfl
 rw[e,Array.mapM_eq_mapM_toList]
 simp only[Sem.run_bind,Sem.run_pure,map_eq_pure_bind,this,Result.andThen_ok]
 rw[oneOrTupV_eq]
end Go.Refl
end
