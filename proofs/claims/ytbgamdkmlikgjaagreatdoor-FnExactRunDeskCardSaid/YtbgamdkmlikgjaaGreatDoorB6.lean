import Derived.Test.YtbgamdkmlikgjaaGreatDoorB5
/- FnExactRunDesk: mathematics of the law. No condition. -/
set_option linter.unusedVariables false
set_option linter.unusedSimpArgs false
section
set_option linter.unusedVariables false
namespace Go.Proofs.YtbgamdkmlikgjaaGreatDoorG
open Go Go.Refl Go.Refl.Math Go.RowKit
theorem takeFrom_E (n:Nat) (st:Nat→Int) (m:Nat) (a:Int) (hm:m<n) (hst:Bd st) (ha:0≤a∧a≤100001) :
  E (fun k=>zf45 (k 0) (tab n st,(m:Int),a)) (a-mn (st m) a,tab n (tk st m a)):=by
 have h:=hst m
 have h2:=mn_le (st m) a
 have h3:=mn_nn h.1 ha.1
 refine E.congr (fun k=>zf45.eq (k 0) ..) ?_
 simp only[Int.toNat_natCast,tab_length,tab_get _ hm]
 (repeat first | (with_reducible refine E.pos ?_ ?_;· omega) | (with_reducible refine E.neg ?_ ?_;· omega))
 rw[wrap_id (x:=a-mn (st m) a) (by omega) (by omega),wrap_id (x:=st m-mn (st m) a) (by omega) (by omega),tk_set]
 exact E.now _
theorem failOne_l5 (n:Nat) (hn:n≤12) (gs:List Int) (s st:Nat→Int) (b a:Int) (hgl:gs.length≤12) (hst:Bd st) (hs:∀i,0≤s i∧s i≤100001) (hg:∀g ∈ gs,0≤g∧g≤(n:Int)-1):∀(d i:Nat),i+d=gs.length →
  E (fun k=>zf36.l5 (k 0) (k 1) (failN gs s (st,0,[]) i).2.1 (gs.length:Int) (i:Int) (tab n (failN gs s (st,0,[]) i).1) b a gs (failN gs s (st,0,[]) i).2.2 (tab gs.length s))
   ((failN gs s (st,0,[]) gs.length).2.1,(failN gs s (st,0,[]) gs.length).2.2,tab n (failN gs s (st,0,[]) gs.length).1)
 | 0,i,hi=>by
  refine E.step 1 (fun v w h1 h2=>by rewrite [h1,h2 0 (by decide)];exact zf36.l5_succ ..) ?_
  exact E.neg (by omega) (E.now' (by rw[show i=gs.length by omega]))
 | d+1,i,hi=>by
  have ih:=failOne_l5 n hn gs s st b a hgl hst hs hg d (i+1) (by omega)
  have inv:=failN_inv (n:=n) hst hs hg i (by omega)
  have hsi:=hs i
  have hgi:gs.getD i 0 ∈ gs:=getD_mem 0 (by omega)
  have hgb:=hg _ hgi
  obtain ⟨g,hge⟩:∃g:Nat,gs.getD i 0=g:=⟨(gs.getD i 0).toNat,by omega⟩
  have hm:=mn_le ((failN gs s (st,0,[]) i).1 g) (s i)
  have hil:i<gs.length:=by omega
  have hgn:g<n:=by omega
  have hb:=inv.bd g
  have h3:=mn_nn hb.1 hsi.1
  have hls:=inv.ls
  refine E.step 1 (fun v w h1 h2=>by rewrite [h1,h2 0 (by decide)];exact zf36.l5_succ ..) ?_
  simp only[Int.toNat_natCast,hge,tab_length,tab_get _ hil,set_one]
  (repeat first | (with_reducible refine E.pos ?_ ?_;· omega) | (with_reducible refine E.neg ?_ ?_;· omega))
  rw[wrap_nat (by omega)]
  refine E.bind (takeFrom_E n _ g (s i) (by omega) inv.bd hsi) ?_
  simp only[failN,fstep,hge,Int.toNat_natCast] at ih
  refine E.ite (fun h=>?_) (fun h=>?_)
  ·simp only at h
   (repeat first | (with_reducible refine E.pos ?_ ?_;· omega) | (with_reducible refine E.neg ?_ ?_;· omega))
   refine E.pos (by have:=inv.ln;simp[maxN];omega) ?_
   rw[if_pos (by omega)] at ih
   rw[wrap_id (by simp only;omega) (by simp only;omega)]
   exact ih
  ·simp only at h
   rw[if_neg (by omega),show s i-mn ((failN gs s (st,0,[]) i).1 g) (s i)=0 by omega,Int.add_zero] at ih
   exact ih
theorem failOne_E (n:Nat) (hn:n≤12) (st:Nat→Int) (l:Ln) (hst:Bd st) (hv:vL l n=true) :
  E (fun k=>zf36 (k 0) (tab n st,l)) ((failM st l).2.1,(failM st l).2.2,tab n (failM st l).1):=by
 have hw:=vL_iff.1 hv
 obtain ⟨b,hb⟩:∃b:Nat,l.1=b:=⟨l.1.toNat,by omega⟩
 have hl:=lack_bd hst hv
 have hbt:l.1.toNat=b:=by omega
 have e:lack st l=l.2.1-mn (st b) l.2.1:=by unfold lack;rw[hbt]
 refine E.congr (fun k=>zf36.eq (k 0) ..) ?_
 have ht:=takeFrom_E n st b l.2.1 (by omega) hst (by omega)
 rw[←hb] at ht
 refine E.bind ht ?_
 rw[←e]
 refine E.bind (splitEven_E (lack st l) l.2.2.length hl.1 (by omega) (by omega) (by omega)) ?_
 rw[tab_length]
 have:=failOne_l5 n hn l.2.2 (prt (lack st l) l.2.2.length) (tk st b l.2.1) l.1 l.2.1 (by omega) (tk_bd hst _ (by omega)) (spl_bd2 hl.1 hl.2 (by omega)) hw.2.1.2.1 l.2.2.length 0 (by omega)
 unfold failM
 rw[hbt]
 exact E.ren (fun _=>0) this
theorem implCascade_l16 (n:Nat) (ls:List Ln) (st:Nat→Int) (loss:Int) (F:List Int) (next i:Int) (r:List Int × Int × List Int) (un:List Int) (hF:F.length≤100) (hul:un.length≤12)
  (nx:E (fun k=>zf5.l10 (k 0) (k 1) (k 2) ls loss next ls (ls.length:Int) (i+1) (tab n st) (addNew F un)) r) (hi:0≤i∧i≤1000):∀(post pre:List Int),pre++post=un→(addNew F pre).length≤100+pre.length →
  E (fun k=>zf5.l16 (k 0) (k 1) (k 2) (k 3) ls loss next ls (ls.length:Int) i (un.length:Int) (pre.length:Int) (tab n st) (addNew F pre) un) r
 | [],pre,e,_=>by
  have e2:pre=un:=by simpa using e
  refine E.step 3 (fun v w h1 h2=>by rewrite [h1,h2 0 (by decide),h2 1 (by decide),h2 2 (by decide)];exact zf5.l16_succ ..) ?_
  refine E.neg (by rw[e2];omega) ?_
  rw[wrap_id (x:=i+1) (by omega) (by omega),e2]
  exact nx
 | g::post,pre,e,hp=>by
  have ih:=implCascade_l16 n ls st loss F next i r un hF hul nx hi post (pre++[g]) (by simpa using e) (by rw[addNew_snoc];split <;> simp <;> omega)
  rw[show (pre++[g]).length=pre.length+1 from by simp,addNew_snoc] at ih
  have hpl:pre.length<un.length:=by rw[←e];simp
  have hg:un.getD pre.length 0=g:=by rw[←e];exact getD_mid ..
  refine E.step 3 (fun v w h1 h2=>by rewrite [h1,h2 0 (by decide),h2 1 (by decide),h2 2 (by decide)];exact zf5.l16_succ ..) ?_
  simp only[Int.toNat_natCast,hg,set_one]
  (repeat first | (with_reducible refine E.pos ?_ ?_;· omega) | (with_reducible refine E.neg ?_ ?_;· omega))
  rw[wrap_nat (by omega)]
  refine E.bind (contains_E _ _ (by omega)) (E.ite (fun h=>E.pos (by simp[maxN];omega) ?_) (fun h=>?_))
  ·rw[if_neg (by simpa using h)] at ih;exact ih
  ·rw[if_pos (by simpa using h)] at ih;exact ih
theorem implCascade_l10 (n:Nat) (hn:n≤12) (ls:List Ln) (hll:ls.length≤16) (hv:∀l ∈ ls,vL l n=true) (first:Int) (st0:Nat→Int) (next:Nat) (f:Int) (r:List Int × Int × List Int):∀(post pre:List Ln) (A:Int) (S:CS),pre++post=ls→CInv n first st0 A S→A+100000*post.length≤40000000→next<S.2.2.length→S.2.2.getD next 0=f →
  E (fun k=>zf5.l7 (k 0) (k 1) ls (proc f S post).2.1 ((next+1:Nat):Int) (tab n (proc f S post).1) (proc f S post).2.2) r →
  E (fun k=>zf5.l10 (k 0) (k 1) (k 2) ls S.2.1 (next:Int) ls (ls.length:Int) (pre.length:Int) (tab n S.1) S.2.2) r
 | [],pre,A,S,e,h,_,hnx,hf,nx=>by
  have:=h.len
  refine E.step 2 (fun v w h1 h2=>by rewrite [h1,h2 0 (by decide),h2 1 (by decide)];exact zf5.l10_succ ..) ?_
  refine E.neg (by rw[←e];simp) ?_
  rw[wrap_nat (by omega)]
  exact nx
 | l::post,pre,A,S,e,h,hA,hnx,hf,nx=>by
  have hpl:pre.length<ls.length:=by rw[←e];simp
  have hvl:=hv l (by rw[←e];simp)
  have hw:=vL_iff.1 hvl
  have hlen:=h.len
  obtain ⟨h2,t,ht⟩:=cstep_pre f S l hn h hvl
  simp only[List.length_cons] at hA
  have ih:=implCascade_l10 n hn ls hll hv first st0 next f r post (pre++[l]) _ (cstep f S l) (by simpa using e) h2 (by split <;> omega) (by rw[ht];simp;omega) (by rw[ht,getD_append hnx];exact hf) nx
  rw[show (pre++[l]).length=pre.length+1 from by simp] at ih
  have hld:ls.getD pre.length (0,0,[])=l:=by rw[←e];exact getD_mid ..
  refine E.step 2 (fun v w h1 h2=>by rewrite [h1,h2 0 (by decide),h2 1 (by decide)];exact zf5.l10_succ ..) ?_
  simp only[Int.toNat_natCast,hld,hf]
  (repeat first | (with_reducible refine E.pos ?_ ?_;· omega) | (with_reducible refine E.neg ?_ ?_;· omega))
  rw[wrap_nat (by omega)]
  refine E.ite (fun hb=>?_) (fun hb=>?_)
  ·have m:=failM_inv hn h.bd hvl
   have hmsm:=m.sm
   have hle:=sumN_le m.le n
   have hls:=m.ls
   have hsl:=h.ls
   refine E.bind (failOne_E n hn S.1 l h.bd hvl) ?_
   simp only
   rw[wrap_id (x:=S.2.1+(failM S.1 l).2.1) (by omega) (by omega)]
   unfold cstep at ih
   rw[if_pos hb] at ih
   exact E.ren (fun i=>if i=3 then 0 else i) (implCascade_l16 n ls _ _ S.2.2 next _ r (failM S.1 l).2.2 (by omega) m.ln ih (by omega) (failM S.1 l).2.2 [] rfl (by simp[addNew];omega))
  ·unfold cstep at ih
   rw[if_neg hb] at ih
   exact ih
theorem implCascade_l7 (n:Nat) (hn:n≤12) (ls:List Ln) (hll:ls.length≤16) (hv:∀l ∈ ls,vL l n=true) (first:Int) (st0:Nat→Int):∀(d i:Nat) (S:CS),i+d=n→i≤S.2.2.length→CInv n first st0 (amtS (S.2.2.take i) ls) S →
  E (fun k=>zf5.l7 (k 0) (k 1) ls S.2.1 (i:Int) (tab n S.1) S.2.2) (tab n (run ls d i S).1,(run ls d i S).2.1,(run ls d i S).2.2)
 | 0,i,S,hi,hle,h=>by
  have:=h.len
  refine E.step 1 (fun v w h1 h2=>by rewrite [h1,h2 0 (by decide)];exact zf5.l7_succ ..) ?_
  exact E.neg (by omega) (E.now _)
 | d+1,i,S,hi,hle,h=>by
  have hlen:=h.len
  unfold run
  refine E.step 1 (fun v w h1 h2=>by rewrite [h1,h2 0 (by decide)];exact zf5.l7_succ ..) ?_
  by_cases hlt:i<S.2.2.length
  ·rw[if_pos hlt]
   obtain ⟨h2,t,e⟩:=proc_inv (S.2.2.getD i 0) hn ls _ _ h hv
   have hg:S.2.2.getD i 0=S.2.2[i]:=by simp[List.getD_eq_getElem?_getD,hlt]
   have hnm:S.2.2.getD i 0 ∉ S.2.2.take i:=by
    intro hm
    have hp:=h.nd
    rw[←List.take_append_drop i S.2.2,List.nodup_append] at hp
    refine hp.2.2 _ hm (S.2.2.getD i 0) ?_ rfl
    rw[hg,List.drop_eq_getElem_cons hlt]
    exact List.mem_cons_self ..
   have hb:=amtS_bd (F:=S.2.2.take i) hv
   have ih:=implCascade_l7 n hn ls hll hv first st0 d (i+1) (proc (S.2.2.getD i 0) S ls) (by omega) (by rw[e];simp;omega) (by
    rw[e,List.take_append_of_le_length (by omega),List.take_succ_eq_append_getElem hlt,←hg,amtS_snoc hnm]
    exact h2)
   refine E.pos (by omega) ?_
   exact E.ren (fun i=>if i=2 then 0 else i) (implCascade_l10 n hn ls hll hv first st0 i (S.2.2.getD i 0) _ ls [] _ S rfl h (by omega) hlt rfl ih)
  ·rw[if_neg hlt]
   exact E.neg (by omega) (E.now _)
theorem implCascade_E (st:List Int) (ls:List Ln) (a:Int):E (fun k=>zf5 (k 0) (st,ls,a)) (casM st ls a):=by
 refine E.congr (fun k=>zf5.eq (k 0) ..) (E.bind (implValidStakes_E st) (E.ite (fun h=>E.now' ?_) fun h=>E.bind (implValidLoans_E ls _) (E.ite (fun h2=>E.now' ?_) fun h2=>E.ite (fun h3=>E.now' ?_) fun h3=>E.ite (fun h4=>E.now' ?_) fun h4=>?_)))
 ·simp only[Bool.not_eq_true'] at h
  unfold casM
  rw[h,Bool.false_and,Bool.false_and];rfl
 ·simp only[Bool.not_eq_true'] at h2
  unfold casM
  rw[h2,Bool.and_false,Bool.false_and];rfl
 ·unfold casM
  rw[decide_eq_false (by omega),Bool.and_false];rfl
 ·unfold casM
  rw[decide_eq_false (by omega),Bool.and_false];rfl
 ·simp only[Bool.not_eq_true',Bool.not_eq_false] at h h2
  have hs2:=vS_iff.1 h
  have hw:=vLs_iff.1 h2
  rw[casM_pos h h2 (by omega)]
  refine E.bind (clone_E st (by omega)) ?_
  have:=implCascade_l7 st.length (by omega) ls hw.1.1 hw.2 a (stF st) st.length 0 (stF st,0,[a]) (by omega) (by simp) (start_inv ls (by omega) (stF_bd h))
  simp only at this
  rw[show tab st.length (stF st)=st from (tab_of st).symm] at this
  exact E.ren (fun _=>0) this
end Go.Proofs.YtbgamdkmlikgjaaGreatDoorG
end
section
set_option linter.unusedVariables false
namespace Go.Proofs.YtbgamdkmlikgjaaGreatDoorG
open Go Go.Refl Go.Refl.Math Go.RowKit
theorem isFailed_E (l:Ln) (F:List Int) (hF:F.length≤1000):E (fun k=>zf8 (k 0) (l,F)) (decide (l.1 ∈ F)):=
 E.congr (fun k=>zf8.eq (k 0) ..) (E.bind (contains_E F l.1 (by omega)) (E.now _))
theorem indexFunc_l2 (F:List Int) (hF:F.length≤1000):∀(post pre:List Ln),(pre++post).length≤1000000→(∀l ∈ pre,l.1 ∉ F) →
  ∃r,E (fun k=>zf76.l2 (k 0) (k 1) (pre++post) [F] ((pre++post).length:Int) (pre.length:Int)) r ∧
   ((r=-1∧∀l ∈ pre++post,l.1 ∉ F)∨∃p x q,pre++post=p++x::q∧r=(p.length:Int)∧x.1 ∈ F∧∀l ∈ p,l.1 ∉ F)
 | [],pre,hl,hp=>by
  refine ⟨-1,?_,.inl ⟨rfl,by simpa using hp⟩⟩
  refine E.step 1 (fun v w h1 h2=>by rewrite [h1,h2 0 (by decide)];exact zf76.l2_succ ..) ?_
  exact E.neg (by simp) (E.now _)
 | x::post,pre,hl,hp=>by
  have hlen:(pre++x::post).length=pre.length+(post.length+1):=by simp
  have hx:=isFailed_E x F hF
  by_cases h:x.1 ∈ F
  ·refine ⟨pre.length,?_,.inr ⟨pre,x,post,rfl,rfl,h,hp⟩⟩
   refine E.step 1 (fun v w h1 h2=>by rewrite [h1,h2 0 (by decide)];exact zf76.l2_succ ..) ?_
   simp only[Int.toNat_natCast,getD_mid]
   (repeat first | (with_reducible refine E.pos ?_ ?_;· omega) | (with_reducible refine E.neg ?_ ?_;· omega))
   exact E.bind hx (E.pos (by simpa using h) (E.now _))
  ·obtain ⟨r,hr,hc⟩:=indexFunc_l2 F hF post (pre++[x]) (by simpa using hl) (fun l hm=>by
    rcases List.mem_append.1 hm with h1 | h1
    ·exact hp l h1
    ·simp at h1;subst h1;exact h)
   rw[show (pre++[x]).length=pre.length+1 from by simp,List.append_assoc] at hr
   simp only[List.append_assoc,List.cons_append,List.nil_append] at hc hr
   refine ⟨r,?_,hc⟩
   refine E.step 1 (fun v w h1 h2=>by rewrite [h1,h2 0 (by decide)];exact zf76.l2_succ ..) ?_
   simp only[Int.toNat_natCast,getD_mid]
   (repeat first | (with_reducible refine E.pos ?_ ?_;· omega) | (with_reducible refine E.neg ?_ ?_;· omega))
   refine E.bind hx (E.neg (by simpa using h) ?_)
   rw[wrap_nat (by omega)]
   exact hr
theorem deleteFunc_l5 (F:List Int) (hF:F.length≤1000):∀(post kept:List Ln) (y:Ln) (junk:List Ln),(kept++y::junk++post).length≤1000000 →
  E (fun k=>zf74.l5 (k 0) (k 1) [F] (kept.length:Int) ((kept++y::junk).length:Int) (kept++y::junk++post)) (kept++leftL F post)
 | [],kept,y,junk,hl=>by
  have hlen:(kept++y::junk++[]).length=kept.length+(junk.length+1):=by simp
  refine E.step 1 (fun v w h1 h2=>by rewrite [h1,h2 0 (by decide)];exact zf74.l5_succ ..) ?_
  refine E.neg (by simp) ?_
  simp only[Int.toNat_natCast,Nat.sub_zero]
  have e1:List.take kept.length (kept++y::junk++[])=kept:=by simp
  rw[e1]
  refine E.pos (by omega) (E.pos (by omega) (E.pos (by omega) (E.pos (by simp;omega) (E.now' ?_))))
  rw[List.append_assoc,List.take_left]
  simp[leftL]
 | x::post,kept,y,junk,hl=>by
  have hlen:(kept++y::junk++x::post).length=kept.length+(junk.length+1)+(post.length+1):=by simp;omega
  have hlen2:(kept++y::junk).length=kept.length+(junk.length+1):=by simp
  have hx:=isFailed_E x F hF
  have hg:(kept++y::junk++x::post).getD (kept++y::junk).length (0,0,[])=x:=getD_mid ..
  refine E.step 1 (fun v w h1 h2=>by rewrite [h1,h2 0 (by decide)];exact zf74.l5_succ ..) ?_
  simp only[Int.toNat_natCast,hg]
  refine E.pos (by omega) (E.pos (by omega) (E.pos (by omega) (E.bind hx (E.ite (fun h=>?_) (fun h=>?_)))))
  ·have hn:x.1 ∉ F:=by simpa using h
   refine E.pos (by omega) (E.pos (by omega) ?_)
   have hset:(kept++y::junk++x::post).set kept.length x=(kept++x::junk)++x::post:=by simp
   rw[hset,wrap_nat (by omega),wrap_nat (by omega)]
   have el:leftL F (x::post)=x::leftL F post:=by simp[leftL,hn]
   rw[el]
   cases junk with
   | nil=>
    have ih:=deleteFunc_l5 F hF post (kept++[x]) x [] (by simp at hl ⊢;omega)
    simp only[List.append_assoc,List.cons_append,List.nil_append,List.length_append,List.length_cons,List.length_nil,Nat.zero_add] at ih ⊢
    exact ih
   | cons z junk=>
    have ih:=deleteFunc_l5 F hF post (kept++[x]) z (junk++[x]) (by simp at hl ⊢;omega)
    simp only[List.append_assoc,List.cons_append,List.nil_append,List.length_append,List.length_cons,List.length_nil,Nat.zero_add] at ih ⊢
    first | exact ih | (rw[show kept.length+(1+(junk.length+1+1))=kept.length+(junk.length+1+1+1) by omega];exact ih) | (rw[show kept.length+(junk.length+1+1)+1=kept.length+(junk.length+1+1+1) by omega];exact ih)
  ·have hn:x.1 ∈ F:=by simpa using h
   have ih:=deleteFunc_l5 F hF post kept y (junk++[x]) (by simp at hl ⊢;omega)
   rw[wrap_nat (by omega)]
   have el:leftL F (x::post)=leftL F post:=by simp[leftL,hn]
   rw[el]
   simp only[List.append_assoc,List.cons_append,List.nil_append,List.length_append,List.length_cons,List.length_nil,Nat.zero_add] at ih ⊢
   exact ih
theorem leftL_none {F:List Int} {ls:List Ln} (h:∀l ∈ ls,l.1 ∉ F):leftL F ls=ls:=by
 unfold leftL
 rw[List.filter_eq_self]
 intro l hl
 simpa using h l hl
theorem deleteFunc_E (F:List Int) (hF:F.length≤1000) (ls:List Ln) (hl:ls.length≤1000000):E (fun k=>zf74 (k 0) (ls,F)) (leftL F ls):=by
 obtain ⟨r,hr,hc⟩:=indexFunc_l2 F hF ls [] (by simpa using hl) (fun l h=>by cases h)
 have hi:E (fun k=>zf76 (k 0) (ls,F)) r:=E.congr (fun k=>zf76.eq (k 0) ..) (E.ren (fun _=>0) hr)
 refine E.congr (fun k=>zf74.eq (k 0) ..) (E.bind hi ?_)
 rcases hc with ⟨rfl,hn⟩ | ⟨p,x,q,e,rfl,hx,hp⟩
 ·exact E.pos rfl (E.now' (leftL_none (by simpa using hn)).symm)
 ·have e':ls=p++x::q:=by simpa using e
  subst e'
  have hlen:(p++x::q).length=p.length+(q.length+1):=by simp
  refine E.neg (by omega) ?_
  rw[wrap_nat (by omega)]
  have:=deleteFunc_l5 F hF q p x [] (by simpa using hl)
  rw[show leftL F (p++x::q)=p++leftL F q from by
   have:=leftL_none hp
   unfold leftL at this ⊢
   rw[List.filter_append,this]
   simp[hx]]
  simp only[List.append_assoc,List.cons_append,List.nil_append,List.length_append,List.length_cons,List.length_nil,Nat.zero_add] at this
  exact E.ren (fun _=>0) this
theorem implFail_E (c:Clb) (hc:vC c=true) (m:Int):E (fun k=>zf7 (k 0) (c,m)) (if okFail c m then (true,failedC c m) else (false,c)):=by
 obtain ⟨h1,h2,h3⟩:=vC_parts hc
 have a1:=vS_iff.1 h1
 have a2:=vLs_iff.1 h2
 refine E.congr (fun k=>zf7.eq (k 0) c m) (E.bind (implCascade_E c.1 c.2.1 m) ?_)
 by_cases ho:okFail c m=true
 ·rw[if_pos ho]
  have hm:0≤m∧m<(c.1.length:Int):=of_decide_eq_true ho
  have hb:=casM_bd h1 h2 hm
  refine E.neg (by omega) (E.bind (deleteFunc_E _ (by omega) c.2.1 (by omega)) (E.now' ?_))
  rw[wrap_id (by omega) (by omega)]
  rfl
 ·rw[if_neg ho]
  have hm:¬(0≤m∧m<(c.1.length:Int)):=fun h=>ho (decide_eq_true h)
  have e:casM c.1 c.2.1 m=([],-1,[]):=by
   unfold casM
   rw[decide_eq_false hm,Bool.and_false];rfl
  rw[e]
  exact E.pos (by simp only;omega) (E.now _)
theorem change_E (c:Clb) (hc:vC c=true) (e:Ev7) (hl:e.2.2.2.2.1.length≤1000000000):∃p,E (fun k=>zf6 (k 0) (c,e)) p∧(p.1=true→evOut c e=some p.2)∧(p.1=false→evOut c e=none):=by
 obtain ⟨h1,h2,h3⟩:=vC_parts hc
 have a1:=vS_iff.1 h1
 have e0:∀k:Nat→Nat,zf6 (k 0) (c,e)=_:=fun k=>zf6.eq (k 0) c e
 by_cases k0:e.1=0
 ·exact ⟨_,E.congr e0 (E.pos k0 (E.pos (by simp[maxN];omega) (E.now _))),fun _=>by unfold evOut;rw[if_pos k0];rfl,fun h=>by cases h⟩
 by_cases k1:e.1=1
 ·refine ⟨_,E.congr e0 (E.neg k0 (E.pos k1 (E.bind (implMove_E c hc e 1 (.inl rfl)) (E.now _)))),?_,?_⟩
  ·intro h
   by_cases ho:okMove c e.2.1 e.2.2.1=true
   ·rw[if_pos ho,Int.one_mul];unfold evOut;rw[if_neg k0,if_pos k1,if_pos ho]
   ·rw[if_neg ho] at h;cases h
  ·intro h
   by_cases ho:okMove c e.2.1 e.2.2.1=true
   ·rw[if_pos ho] at h;cases h
   ·unfold evOut;rw[if_neg k0,if_pos k1,if_neg ho]
 by_cases k2:e.1=2
 ·by_cases ho:okMove c e.2.1 e.2.2.1=true
  ·have hm:=implMove_E c hc e (-1) (.inr rfl)
   rw[if_pos ho,show (-1:Int)*e.2.2.1=-e.2.2.1 by omega] at hm
   refine ⟨_,E.congr e0 (E.neg k0 (E.neg k1 (E.pos k2 (E.bind hm (E.pos rfl (E.bind (safeLoans_E _ _) (E.now _))))))),?_,?_⟩
   ·intro h
    simp only at h
    unfold evOut;rw[if_neg k0,if_neg k1,if_pos k2,ho]
    rw[show safeB (moved c e.2.1 (-e.2.2.1)).1 c.2.1=true from h];rfl
   ·intro h
    simp only at h
    unfold evOut;rw[if_neg k0,if_neg k1,if_pos k2,ho]
    rw[show safeB (moved c e.2.1 (-e.2.2.1)).1 c.2.1=false from h];rfl
  ·have hm:=implMove_E c hc e (-1) (.inr rfl)
   rw[if_neg ho] at hm
   refine ⟨_,E.congr e0 (E.neg k0 (E.neg k1 (E.pos k2 (E.bind hm (E.neg (by simp) (E.now _)))))),fun h=>(by cases h),fun _=>?_⟩
   unfold evOut;rw[if_neg k0,if_neg k1,if_pos k2,Bool.eq_false_iff.2 ho];rfl
 by_cases k3:e.1=3
 ·refine ⟨_,E.congr e0 (E.neg k0 (E.neg k1 (E.neg k2 (E.pos k3 (E.bind (implLend_E c hc e hl) (E.now _)))))),?_,?_⟩
  ·intro h
   by_cases ho:safeB c.1 (c.2.1++[(e.2.1,e.2.2.1,e.2.2.2.2.1)])=true
   ·rw[if_pos ho];unfold evOut;rw[if_neg k0,if_neg k1,if_neg k2,if_pos k3,if_pos ho]
   ·rw[if_neg ho] at h;cases h
  ·intro h
   by_cases ho:safeB c.1 (c.2.1++[(e.2.1,e.2.2.1,e.2.2.2.2.1)])=true
   ·rw[if_pos ho] at h;cases h
   ·unfold evOut;rw[if_neg k0,if_neg k1,if_neg k2,if_pos k3,if_neg ho]
 by_cases k4:e.1=4
 ·refine ⟨_,E.congr e0 (E.neg k0 (E.neg k1 (E.neg k2 (E.neg k3 (E.pos k4 (E.bind (implRepay_E c hc e) (E.now _))))))),?_,?_⟩
  ·intro h
   by_cases ho:okPay c e=true
   ·rw[if_pos ho];unfold evOut;rw[if_neg k0,if_neg k1,if_neg k2,if_neg k3,if_pos k4,if_pos ho]
   ·rw[if_neg ho] at h;cases h
  ·intro h
   by_cases ho:okPay c e=true
   ·rw[if_pos ho] at h;cases h
   ·unfold evOut;rw[if_neg k0,if_neg k1,if_neg k2,if_neg k3,if_pos k4,if_neg ho]
 by_cases k5:e.1=5
 ·refine ⟨_,E.congr e0 (E.neg k0 (E.neg k1 (E.neg k2 (E.neg k3 (E.neg k4 (E.pos k5 (E.bind (implFail_E c hc e.2.1) (E.now _)))))))),?_,?_⟩
  ·intro h
   by_cases ho:okFail c e.2.1=true
   ·rw[if_pos ho];unfold evOut;rw[if_neg k0,if_neg k1,if_neg k2,if_neg k3,if_neg k4,if_pos k5,if_pos ho]
   ·rw[if_neg ho] at h;cases h
  ·intro h
   by_cases ho:okFail c e.2.1=true
   ·rw[if_pos ho] at h;cases h
   ·unfold evOut;rw[if_neg k0,if_neg k1,if_neg k2,if_neg k3,if_neg k4,if_pos k5,if_neg ho]
 by_cases k6:e.1=6
 ·refine ⟨_,E.congr e0 (E.neg k0 (E.neg k1 (E.neg k2 (E.neg k3 (E.neg k4 (E.neg k5 (E.pos k6 (E.bind (implNight_E c hc e.2.2.2.2.2) (E.now _))))))))),?_,?_⟩
  ·intro h
   by_cases ho:okRate e.2.2.2.2.2=true
   ·rw[if_pos ho];unfold evOut;rw[if_neg k0,if_neg k1,if_neg k2,if_neg k3,if_neg k4,if_neg k5,if_pos k6,if_pos ho]
   ·rw[if_neg ho] at h;cases h
  ·intro h
   by_cases ho:okRate e.2.2.2.2.2=true
   ·rw[if_pos ho] at h;cases h
   ·unfold evOut;rw[if_neg k0,if_neg k1,if_neg k2,if_neg k3,if_neg k4,if_neg k5,if_pos k6,if_neg ho]
 by_cases k7:e.1=7
 ·refine ⟨_,E.congr e0 (E.neg k0 (E.neg k1 (E.neg k2 (E.neg k3 (E.neg k4 (E.neg k5 (E.neg k6 (E.pos k7 (E.bind (implShare_E c hc) (E.now _)))))))))),?_,?_⟩
  ·intro h
   by_cases ho:c.2.2.2.1<0
   ·rw[if_pos ho] at h;cases h
   ·rw[if_neg ho];unfold evOut;rw[if_neg k0,if_neg k1,if_neg k2,if_neg k3,if_neg k4,if_neg k5,if_neg k6,if_pos k7,if_neg ho]
  ·intro h
   by_cases ho:c.2.2.2.1<0
   ·unfold evOut;rw[if_neg k0,if_neg k1,if_neg k2,if_neg k3,if_neg k4,if_neg k5,if_neg k6,if_pos k7,if_pos ho]
   ·rw[if_neg ho] at h;cases h
 ·refine ⟨_,E.congr e0 (E.neg k0 (E.neg k1 (E.neg k2 (E.neg k3 (E.neg k4 (E.neg k5 (E.neg k6 (E.neg k7 (E.now _))))))))),fun h=>(by cases h),fun _=>?_⟩
  unfold evOut;rw[if_neg k0,if_neg k1,if_neg k2,if_neg k3,if_neg k4,if_neg k5,if_neg k6,if_neg k7]
def applyV (c:Clb) (e:Ev7):Option Clb:=if vC c then stepC c e else none
theorem implApply_E (c:Clb) (e:Ev7) (hl:e.2.2.2.2.1.length≤1000000000):E (fun k=>zf2 (k 0) (c,e)) (tellC (applyV c e)):=by
 refine E.congr (fun k=>zf2.eq (k 0) c e) (E.bind (implValidClub_E c) (E.ite (fun h=>E.now' ?_) (fun h=>?_)))
 ·simp only[Bool.not_eq_true'] at h
  unfold applyV;rw[if_neg (by rw[h];decide)];rfl
 ·simp only[Bool.not_eq_true',Bool.not_eq_false] at h
  obtain ⟨p,hp,y,z⟩:=change_E c h e hl
  unfold applyV;rw[if_pos h]
  refine E.bind (implCopyClub_E c (vC_fits h)) (E.bind hp (E.ite (fun h2=>E.now' ?_) (fun h2=>E.bind (implValidClub_E _) (E.ite (fun h3=>E.now' ?_) (fun h3=>E.now' ?_)))))
  ·simp only[Bool.not_eq_true'] at h2
   unfold stepC;rw[z h2];rfl
  ·simp only[Bool.not_eq_true',Bool.not_eq_false] at h2 h3
   unfold stepC;rw[y h2]
   show _=tellC (checkC p.2)
   unfold checkC;rw[if_neg (by rw[show vC p.2=false from h3];decide)];rfl
  ·simp only[Bool.not_eq_true',Bool.not_eq_false] at h2 h3
   unfold stepC;rw[y h2]
   show _=tellC (checkC p.2)
   unfold checkC;rw[if_pos (show vC p.2=true from h3)];rfl
end Go.Proofs.YtbgamdkmlikgjaaGreatDoorG
end
section
set_option linter.unusedVariables false
namespace Go.Proofs.YtbgamdkmlikgjaaGreatDoorG
open Go Go.Refl Go.Refl.Math Go.RowKit
def lnsB (l:List UInt8):List (List UInt8):=(splitB 10 l).dropLast
theorem splitB_ne (c:UInt8) (l:List UInt8):splitB c l≠[]:=by
 intro h
 have:=splitB_length c l
 rw[h] at this
 simp at this
theorem lnsB_none {l:List UInt8} (h:(10:UInt8) ∉ l):lnsB l=[]:=by unfold lnsB;rw[splitB_none h];rfl
theorem lnsB_at {a b:List UInt8} (h:(10:UInt8) ∉ a):lnsB (a++10::b)=a::lnsB b:=by
 unfold lnsB
 rw[splitB_at h]
 cases hs:splitB 10 b with
 | nil=>exact absurd hs (splitB_ne _ _)
 | cons x y=>rfl
noncomputable def recL:Nat→List ByteArray→List EvT
 | 0,_=>[]
 | _+1,[]=>[]
 | k+1,w::ws=>if (parseT w).2=true then (parseT w).1::recL k ws else []
noncomputable def linesT (s:ByteArray):List ByteArray:=(lnsB s.data.toList).map mkB
noncomputable def recT (s:ByteArray):List EvT:=recL 30 (linesT s)
theorem nl_index_E (x:ByteArray):E (fun k=>zf52 (k 0) (x,{ data:=#[(10:UInt8)] })) (Go.Lib.indexByte x.data.toList 10):=E.congr (fun _=>rfl) (E.now _)
theorem index_none {c:UInt8}:∀{l:List UInt8},c ∉ l→Go.Lib.indexByte l c=-1
 | [],_=>rfl
 | x::l,h=>by
  have h1:x≠c:=fun e=>h (by rw[e];exact List.mem_cons_self ..)
  rw[Go.Lib.indexByte,if_neg (by simpa using h1),index_none (fun h'=>h (List.mem_cons_of_mem _ h'))]
  rfl
theorem cut_yes {x:ByteArray} {a b:List UInt8} (h:x.data.toList=a++10::b) (ha:(10:UInt8) ∉ a) (hx:x.size<1000000000):E (fun k=>zf145 (k 0) (x,{ data:=#[(10:UInt8)] })) (mkB a,mkB b,true):=by
 have q1:ByteArray.size { data:=#[(10:UInt8)] }=1:=rfl
 have hc:x.data.toList.count 10=b.count 10+1:=by
  rw[h,List.count_append,List.count_eq_zero.2 ha,List.count_cons_self];omega
 obtain ⟨a',b',h1,h2,h3,_⟩:=index_split hc
 have hs1:=splitB_at (c:=10) (m:=b) ha
 have hs2:=splitB_at (c:=10) (m:=b') h2
 rw[←h] at hs1
 rw[←h1,hs1] at hs2
 obtain rfl:=(List.cons.inj hs2).1
 obtain rfl:b=b':=by
  rw[h] at h1
  exact (List.cons.inj (List.append_cancel_left h1)).2
 have hz:x.size=a.length+(b.length+1):=by rw[ba_size,h];simp
 have e1:x.extract (a.length+1) x.size=mkB b:=by
  have:=ext_mk (x:=x) (a:=a++[10]) (b:=b) (c:=[]) (by rw[h];simp)
  have hlen:(a++[(10:UInt8)]).length=a.length+1:=by simp
  rw[hlen,show a.length+1+b.length=x.size by omega] at this
  exact this
 have e2:x.extract 0 a.length=mkB a:=by
  have:=ext_mk (x:=x) (a:=[]) (b:=a) (c:=10::b) (by rw[h];rfl)
  simpa using this
 refine E.congr (fun k=>zf145.eq (k 0) x _) (E.bind (a:=(mkB a,mkB b,true)) (E.congr (fun k=>zf49.eq (k 0) x _) (E.bind (nl_index_E x) ?_)) (E.now _))
 rw[h3]
 simp only[q1]
 rw[show wrap64 ((a.length:Int)+((1:Nat):Int))=((a.length+1:Nat):Int) from wrap_nat (by omega)]
 simp only[Int.toNat_natCast]
 rw[e1,e2]
 exact E.pos (by omega) (E.pos (by omega) (E.pos (by omega) (E.pos (by omega) (E.pos (by omega) (E.now _)))))
theorem cut_no {x:ByteArray} (h:(10:UInt8) ∉ x.data.toList):E (fun k=>zf145 (k 0) (x,{ data:=#[(10:UInt8)] })) (x,{ data:=#[] },false):=by
 refine E.congr (fun k=>zf145.eq (k 0) x _) (E.bind (a:=(x,{ data:=#[] },false)) (E.congr (fun k=>zf49.eq (k 0) x _) (E.bind (nl_index_E x) ?_)) (E.now _))
 rw[index_none h]
 exact E.neg (by decide) (E.now _)
theorem recL_len:∀(k:Nat) (ws:List ByteArray),(recL k ws).length≤k
 | 0,_=>Nat.le_refl _
 | k+1,[]=>Nat.zero_le _
 | k+1,w::ws=>by
  rw[recL]
  split
  ·have:=recL_len k ws;simp;omega
  ·exact Nat.zero_le _
theorem implRec_l2:∀(n:Nat) (x:ByteArray) (out:List EvT),x.data.toList.count 10=n→x.size<400000000→out.length≤30 →
  E (fun k=>zf20.l2 (k 0) (k 1) x out) (out++recL (30-out.length) (linesT x))
 | n,x,out,hc,hx,ho=>by
  by_cases h30:out.length<30
  ·by_cases hn:(10:UInt8) ∈ x.data.toList
   ·match n,hc with
    | 0,hc=>exact absurd hn (List.count_eq_zero.1 hc)
    | n+1,hc=>
     obtain ⟨a,b,h1,h2,_,h4⟩:=index_split hc
     have hz:x.size=a.length+(b.length+1):=by rw[ba_size,h1];simp
     have hl:linesT x=mkB a::linesT (mkB b):=by unfold linesT;rw[h1,lnsB_at h2,mkB_list];rfl
     obtain ⟨m,hm⟩:∃m,30-out.length=m+1:=⟨29-out.length,by omega⟩
     have hp:=implParse_E (mkB a) (by rw[mkB_size];omega)
     have hcut:=cut_yes h1 h2 (by omega)
     rw[hl,hm,recL]
     cases hq:parseT (mkB a) with
     | mk e ok=>
      rw[hq] at hp
      cases ok with
      | false=>
       rw[if_neg (by simp)]
       refine E.step 1 (fun v w h1 h2=>by rewrite [h1,h2 0 (by decide)];exact zf20.l2_succ ..) ?_
       exact E.pos (by omega) (E.bind hcut (E.neg (by simp) (E.bind hp (E.pos rfl (E.now' (by simp))))))
      | true=>
       have ih:=implRec_l2 n (mkB b) (out++[e]) (by rw[mkB_list];exact h4) (by rw[mkB_size];omega) (by simp;omega)
       rw[show 30-(out++[e]).length=m by simp;omega] at ih
       rw[if_pos rfl]
       refine E.step 1 (fun v w h1 h2=>by rewrite [h1,h2 0 (by decide)];exact zf20.l2_succ ..) ?_
       refine E.pos (by omega) (E.bind hcut (E.neg (by simp) (E.bind hp (E.neg (by simp) (E.pos ?_ (E.is ih (by simp)))))))
       simp only[List.length_set,List.length_replicate,maxN];omega
   ·have hl:linesT x=[]:=by unfold linesT;rw[lnsB_none hn];rfl
    have hr:recL (30-out.length) (linesT x)=[]:=by
     rw[hl]
     cases 30-out.length <;> rfl
    rw[hr,List.append_nil]
    refine E.step 1 (fun v w h1 h2=>by rewrite [h1,h2 0 (by decide)];exact zf20.l2_succ ..) ?_
    exact E.pos (by omega) (E.bind (cut_no hn) (E.pos rfl (E.now _)))
  ·have h0:30-out.length=0:=by omega
   rw[h0,recL,List.append_nil]
   refine E.step 1 (fun v w h1 h2=>by rewrite [h1,h2 0 (by decide)];exact zf20.l2_succ ..) ?_
   exact E.neg (by omega) (E.now _)
theorem implRec_E (x:ByteArray) (hx:x.size<400000000):E (fun k=>zf20 (k 0) x) (recT x):=by
 have h:=implRec_l2 _ x [] rfl hx (by simp)
 exact E.congr (fun k=>zf20.eq (k 0) x) (E.ren (fun _=>0) h)
theorem specRec_l4 (last:ByteArray):∀(post pre:List ByteArray) (out:List EvT),(∀w ∈ post,w.size<400000000)→(pre++post).length≤400000000→out.length≤30 →
  E (fun k=>zf122.l4 (k 0) (k 1) (pre.length:Int) out (pre++(post++[last]))) (out++recL (30-out.length) post)
 | [],pre,out,hw,hl,ho=>by
  have hr:recL (30-out.length) []=[]:=by cases 30-out.length <;> rfl
  rw[hr,List.append_nil]
  have hlen:(pre++([]++[last])).length=pre.length+1:=by simp
  refine E.step 1 (fun v w h1 h2=>by rewrite [h1,h2 0 (by decide)];exact zf122.l4_succ ..) ?_
  rw[wrap_nat (by simp at hl;omega)]
  exact E.neg (by omega) (E.now _)
 | w::post,pre,out,hw,hl,ho=>by
  have hlen:(pre++(w::post++[last])).length=pre.length+(post.length+2):=by simp
  have hl2:pre.length+(post.length+1)≤400000000:=by simpa using hl
  have hget:(pre++(w::post++[last])).getD pre.length ByteArray.empty=w:=getD_mid _ _ _
  have hp:=specParse_E w (hw w (List.mem_cons_self ..))
  cases hq:parseT w with
  | mk e ok=>
   rw[hq] at hp
   cases ok with
   | false=>
    have hr:recL (30-out.length) (w::post)=[]:=by
     cases 30-out.length with
     | zero=>rfl
     | succ m=>rw[recL,hq,if_neg (by simp)]
    rw[hr,List.append_nil]
    refine E.step 1 (fun v w h1 h2=>by rewrite [h1,h2 0 (by decide)];exact zf122.l4_succ ..) ?_
    rw[wrap_nat (by omega),Int.toNat_natCast,hget]
    exact E.pos (by omega) (E.pos (by omega) (E.pos (by omega) (E.bind hp (E.pos rfl (E.now _)))))
   | true=>
    by_cases h30:out.length=30
    ·have hr:recL (30-out.length) (w::post)=[]:=by rw[h30];rfl
     rw[hr,List.append_nil]
     refine E.step 1 (fun v w h1 h2=>by rewrite [h1,h2 0 (by decide)];exact zf122.l4_succ ..) ?_
     rw[wrap_nat (by omega),Int.toNat_natCast,hget]
     exact E.pos (by omega) (E.pos (by omega) (E.pos (by omega) (E.bind hp (E.neg (fun h=>by cases (show false=true from h)) (E.pos (by omega) (E.now _))))))
    ·obtain ⟨m,hm⟩:∃m,30-out.length=m+1:=⟨29-out.length,by omega⟩
     have ih:=specRec_l4 last post (pre++[w]) (out++[e]) (fun y hy=>hw y (List.mem_cons_of_mem _ hy)) (by simpa using hl) (by simp;omega)
     rw[show 30-(out++[e]).length=m by simp;omega,show (pre++[w]).length=pre.length+1 by simp,List.append_assoc] at ih
     rw[hm,recL,hq,if_pos rfl]
     refine E.step 1 (fun v w h1 h2=>by rewrite [h1,h2 0 (by decide)];exact zf122.l4_succ ..) ?_
     rw[wrap_nat (by omega),Int.toNat_natCast,hget]
     refine E.pos (by omega) (E.pos (by omega) (E.pos (by omega) (E.bind hp (E.neg (fun h=>by cases (show false=true from h)) (E.neg (by omega) (E.pos ?_ (E.is ih (by simp))))))))
     simp only[List.length_set,List.length_replicate,maxN];omega
theorem lines_small {x w:ByteArray} (h:w ∈ linesT x):w.size≤x.size:=by
 unfold linesT lnsB at h
 obtain ⟨l,hl,rfl⟩:=List.mem_map.1 h
 have:=splitB_small 10 _ l (List.dropLast_subset _ hl)
 rw[←ba_size] at this
 rw[mkB_size];exact this
theorem specRec_E (x:ByteArray) (hx:x.size<300000000):E (fun k=>zf122 (k 0) x) (recT x):=by
 have hs:E (fun k=>zf132 (k 0) (x,10)) ((splitB 10 x.data.toList).map mkB):=specSplit_E x 10 (by omega)
 have hc:x.data.toList.count 10≤x.size:=by rw[ba_size];exact List.count_le_length
 have hsl:=splitB_length 10 x.data.toList
 have hne:=splitB_ne 10 x.data.toList
 have hd:(splitB 10 x.data.toList).map mkB=linesT x++[mkB ((splitB 10 x.data.toList).getLast hne)]:=by
  unfold linesT lnsB
  rw[←List.map_singleton (f:=mkB),←List.map_append,List.dropLast_concat_getLast]
 have hll:(linesT x).length+1=x.data.toList.count 10+1:=by
  have:=congrArg List.length hd
  rw[List.length_map,hsl] at this
  simpa using this.symm
 have hl:=specRec_l4 (mkB ((splitB 10 x.data.toList).getLast hne)) (linesT x) [] [] (fun w hw=>by have:=lines_small hw;omega) (by simp only[List.nil_append];omega) (by simp)
 rw[hd] at hs
 exact E.congr (fun k=>zf122.eq (k 0) x) (E.bind hs (E.ren (fun _=>0) hl))
theorem parse_back {w:ByteArray} (h:(parseT w).2=true):evtT (parseT w).1=w∧w≠ByteArray.empty:=by
 rcases parse_is w with ⟨e,h1,h2,h3⟩ | ⟨h3,_⟩
 ·rw[h3];exact ⟨by rw[evtT_canon];exact h1,h2⟩
 ·rw[h3] at h;cases h
theorem recL_text:∀(k:Nat) (n:Nat) (l:List UInt8),l.count 10=n→∃m,l=(linT (recL k ((lnsB l).map mkB))).data.toList++m∧(linT (recL k ((lnsB l).map mkB))).data.toList.count 10=(recL k ((lnsB l).map mkB)).length∧(∀e ∈ recL k ((lnsB l).map mkB),evtT e≠ByteArray.empty∧∃w,(parseT w).2=true∧(parseT w).1=e∧w.size+1≤l.length)
 | 0,n,l,_=>⟨l,rfl,rfl,fun e he=>by cases he⟩
 | k+1,0,l,h=>by
  rw[lnsB_none (List.count_eq_zero.1 h)]
  exact ⟨l,rfl,rfl,fun e he=>by cases he⟩
 | k+1,n+1,l,h=>by
  obtain ⟨a,b,h1,h2,_,h4⟩:=index_split h
  obtain ⟨m,i1,i2,i3⟩:=recL_text k n b h4
  rw[h1,lnsB_at h2,List.map_cons,recL]
  by_cases hq:(parseT (mkB a)).2=true
  ·obtain ⟨p1,p2⟩:=parse_back hq
   rw[if_pos hq,linT,p1]
   have e1:(mkB a++nlT++linT (recL k ((lnsB b).map mkB))).data.toList=a++10::(linT (recL k ((lnsB b).map mkB))).data.toList:=by
    simp[ByteArray.data_append,mkB,nlT]
   rw[e1]
   refine ⟨m,?_,?_,fun e he=>?_⟩
   ·rw[List.append_assoc,List.cons_append,←i1]
   ·rw[List.count_append,List.count_cons_self,i2,List.count_eq_zero.2 h2,List.length_cons];omega
   ·rcases List.mem_cons.1 he with rfl | he
    ·exact ⟨by rw[p1];exact p2,mkB a,hq,rfl,by rw[mkB_size];simp⟩
    ·obtain ⟨j1,w,j2,j3,j4⟩:=i3 e he
     exact ⟨j1,w,j2,j3,by simp;omega⟩
  ·rw[if_neg hq]
   exact ⟨a++10::b,rfl,rfl,fun e he=>by cases he⟩
theorem recT_text (s:ByteArray):∃m,s.data.toList=(linT (recT s)).data.toList++m∧(linT (recT s)).data.toList.count 10=(recT s).length∧(∀e ∈ recT s,evtT e≠ByteArray.empty∧∃w,(parseT w).2=true∧(parseT w).1=e∧w.size+1≤s.size):=by
 obtain ⟨m,h1,h2,h3⟩:=recL_text 30 _ s.data.toList rfl
 exact ⟨m,h1,h2,fun e he=>by obtain ⟨j1,w,j2,j3,j4⟩:=h3 e he;exact ⟨j1,w,j2,j3,by rw[ba_size];exact j4⟩⟩
theorem recT_len (s:ByteArray):(recT s).length≤30:=recL_len _ _
theorem recT_ok {s:ByteArray} (h:s.size≤1048576):∀e ∈ recT s,e.2.2.2.2.1.length≤1048576∧(-1000≤e.2.2.2.2.2.1∧e.2.2.2.2.2.1≤1000)∧(-1000≤e.2.2.2.2.2.2∧e.2.2.2.2.2.2≤1000):=fun e he=>by
 obtain ⟨_,_,_,h3⟩:=recT_text s
 obtain ⟨_,w,_,j3,j4⟩:=h3 e he
 obtain ⟨g1,g2,g3⟩:=parse_small (s:=w) (by omega)
 rw[j3] at g1 g2 g3
 omega
theorem recT_evs {s:ByteArray} (h:s.size≤1048576):EvsOk (recT s):=recT_ok h
end Go.Proofs.YtbgamdkmlikgjaaGreatDoorG
end
section
set_option linter.unusedVariables false
namespace Go.Proofs.YtbgamdkmlikgjaaGreatDoorG
open Go Go.Refl Go.Refl.Math Go.RowKit
def runV (c:Clb) (l:List Ev7):Option Clb:=if vC c then (if l.length≤30 then runC c l else none) else none
theorem applyV_of {c:Clb} (h:vC c=true) (e:Ev7):applyV c e=stepC c e:=by unfold applyV;rw[if_pos h]
theorem implRun_l5 (z1 z2 z3:Int):∀(post pre:List Ev7) (d:Clb),(pre++post).length≤1000→EvsOk post→vC d=true →
  E (fun k=>zf22.l5 (k 0) (k 1) (pre++post) ((pre++post).length:Int) (pre.length:Int) z1 z2 z3 d.1 d.2.1 d.2.2.1 d.2.2.2.1 d.2.2.2.2) (tellC (runC d post))
 | [],pre,d,hl,he,hv=>by
  refine E.step 1 (fun v w h1 h2=>by rewrite [h1,h2 0 (by decide)];exact zf22.l5_succ ..) ?_
  exact E.neg (by simp) (E.now _)
 | e::post,pre,d,hl,he,hv=>by
  have hlen:(pre++e::post).length=pre.length+(post.length+1):=by simp
  have ha:=implApply_E d e (by have:=he e (List.mem_cons_self ..);omega)
  rw[applyV_of hv] at ha
  refine E.step 1 (fun v w h1 h2=>by rewrite [h1,h2 0 (by decide)];exact zf22.l5_succ ..) ?_
  simp only[Int.toNat_natCast,getD_mid]
  refine E.pos (by omega) (E.pos (by omega) (E.pos (by omega) (E.bind (E.ren (fun _=>0) ha) ?_)))
  unfold runC
  cases hs:stepC d e with
  | none=>exact E.pos rfl (E.now _)
  | some d1=>
   have ih:=implRun_l5 z1 z2 z3 post (pre++[e]) d1 (by simpa using hl) (fun x hx=>he x (List.mem_cons_of_mem _ hx)) (stepC_valid hs)
   rw[show (pre++[e]).length=pre.length+1 from by simp,List.append_assoc] at ih
   refine E.neg (by simp[tellC]) ?_
   rw[wrap_nat (by omega)]
   exact ih
theorem implRun_E (c:Clb) (l:List Ev7) (he:EvsOk l):E (fun k=>zf22 (k 0) (c,l)) (tellC (runV c l)):=by
 refine E.congr (fun k=>zf22.eq (k 0) c l) (E.bind (implValidClub_E c) (E.ite (fun h=>E.now' ?_) (fun h=>E.ite (fun h2=>E.now' ?_) (fun h2=>?_))))
 ·simp only[Bool.not_eq_true'] at h
  unfold runV;rw[if_neg (by rw[h];decide)];rfl
 ·simp only[Bool.not_eq_true',Bool.not_eq_false] at h
  unfold runV;rw[if_pos h,if_neg (by omega)];rfl
 ·simp only[Bool.not_eq_true',Bool.not_eq_false] at h
  unfold runV;rw[if_pos h,if_pos (by omega)]
  exact E.bind (implCopyClub_E c (vC_fits h)) (E.ren (fun _=>0) (implRun_l5 0 0 0 l [] c (by simp;omega) he h))
theorem specRun_l3 (z1 z2 z3:Int):∀(post pre:List Ev7) (d:Clb),(pre++post).length≤1000→EvsOk post→vC d=true →
  E (fun k=>zf124.l3 (k 0) (k 1) (pre++post) (pre.length:Int) d.1 d.2.1 d.2.2.1 d.2.2.2.1 d.2.2.2.2 z1 z2 z3) (tellC (runC d post))
 | [],pre,d,hl,he,hv=>by
  refine E.step 1 (fun v w h1 h2=>by rewrite [h1,h2 0 (by decide)];exact zf124.l3_succ ..) ?_
  exact E.neg (by simp) (E.now _)
 | e::post,pre,d,hl,he,hv=>by
  have hlen:(pre++e::post).length=pre.length+(post.length+1):=by simp
  have ha:=specApply_E d hv e (by have:=he e (List.mem_cons_self ..);omega)
  refine E.step 1 (fun v w h1 h2=>by rewrite [h1,h2 0 (by decide)];exact zf124.l3_succ ..) ?_
  simp only[Int.toNat_natCast,getD_mid]
  refine E.pos (by omega) (E.pos (by omega) (E.pos (by omega) (E.bind ha ?_)))
  unfold runC
  cases hs:stepC d e with
  | none=>exact E.pos rfl (E.now _)
  | some d1=>
   have ih:=specRun_l3 z1 z2 z3 post (pre++[e]) d1 (by simpa using hl) (fun x hx=>he x (List.mem_cons_of_mem _ hx)) (stepC_valid hs)
   rw[show (pre++[e]).length=pre.length+1 from by simp,List.append_assoc] at ih
   refine E.neg (by simp[tellC]) ?_
   rw[wrap_nat (by omega)]
   exact ih
theorem specRun1_E (c:Clb) (l:List Ev7) (he:EvsOk l) (hl:l.length≤1000) (h:vC c=true):E (fun k=>zf124 (k 0) (c,l)) (tellC (runC c l)):=
 E.congr (fun k=>zf124.eq (k 0) c l) (E.bind (specCopyClub_E c (vC_fits h)) (E.ren (fun _=>0) (specRun_l3 0 0 0 l [] c (by simpa using hl) he h)))
theorem runV_valid {c d:Clb} {l:List Ev7} (h:runV c l=some d):vC c=true∧l.length≤30∧runC c l=some d∧vC d=true:=by
 unfold runV at h
 split at h
 ·rename_i hc
  split at h
  ·rename_i hl;exact ⟨hc,hl,h,runC_valid l hc h⟩
  ·cases h
 ·cases h
theorem EvsOk.set {l:List Ev7} (h:EvsOk l) (i:Nat) (x:Ev7) (hx:x.2.2.2.2.1.length≤1048576∧(-1000≤x.2.2.2.2.2.1∧x.2.2.2.2.2.1≤1000)∧(-1000≤x.2.2.2.2.2.2∧x.2.2.2.2.2.2≤1000)):EvsOk (l.set i x):=fun e he=>by
 rcases List.mem_or_eq_of_mem_set he with h1 | h1
 ·exact h e h1
 ·rw[h1];exact hx
theorem EvsD.set {l:List Ev7} (h:EvsD l) (i:Nat) (x:Ev7) (hx:x.2.2.2.2.1.length≤12∧(-1000≤x.2.2.2.2.2.1∧x.2.2.2.2.2.1≤1000)∧(-1000≤x.2.2.2.2.2.2∧x.2.2.2.2.2.2≤1000)):EvsD (l.set i x):=fun e he=>by
 rcases List.mem_or_eq_of_mem_set he with h1 | h1
 ·exact h e h1
 ·rw[h1];exact hx
end Go.Proofs.YtbgamdkmlikgjaaGreatDoorG
end
section
set_option linter.unusedVariables false
namespace Go.Proofs.YtbgamdkmlikgjaaGreatDoorG
open Go Go.Refl Go.Refl.Math Go.RowKit
def keyF (f:List Int) (y:Int):Int:=f.getD y.toNat 0
def slide (f:List Int) (x:Int):List Int→List Int→List Int
 | [],b=>x::b
 | y::r,b=>if keyF f y > keyF f x then slide f x r (y::b) else (y::r).reverse++x::b
def sortI (f:List Int):List Int→List Int→List Int
 | out,[]=>out
 | out,x::rest=>sortI f (slide f x out.reverse []) rest
def InR (f:List Int) (l:List Int):Prop:=∀y ∈ l,0≤y∧y<(f.length:Int)
theorem slide_length (f:List Int) (x:Int):∀r b:List Int,(slide f x r b).length=r.length+b.length+1
 | [],b=>by simp[slide]
 | y::r,b=>by
  rw[slide]
  split
  ·rw[slide_length f x r (y::b)];simp;omega
  ·simp;omega
theorem slide_mem (f:List Int) (x:Int):∀r b:List Int,∀z ∈ slide f x r b,z=x∨z ∈ r∨z ∈ b
 | [],b,z,h=>by
  rcases List.mem_cons.1 h with h | h
  ·exact .inl h
  ·exact .inr (.inr h)
 | y::r,b,z,h=>by
  rw[slide] at h
  split at h
  ·rcases slide_mem f x r (y::b) z h with h | h | h
   ·exact .inl h
   ·exact .inr (.inl (List.mem_cons_of_mem _ h))
   ·rcases List.mem_cons.1 h with h | h
    ·exact .inr (.inl (by rw[h];exact List.mem_cons_self ..))
    ·exact .inr (.inr h)
  ·rcases List.mem_append.1 h with h | h
   ·exact .inr (.inl (List.mem_reverse.1 h))
   ·rcases List.mem_cons.1 h with h | h
    ·exact .inl h
    ·exact .inr (.inr h)
theorem byRisk1_E (f:List Int) {x y:Int} (hx:0≤x∧x<(f.length:Int)) (hy:0≤y∧y<(f.length:Int)):E (fun k=>zf4 (k 0) (x,y,f)) (if keyF f x<keyF f y then -1 else if keyF f x > keyF f y then 1 else 0):=
 E.congr (fun k=>zf4.eq (k 0) x y f) (E.pos hx.1 (E.pos hx.2 (E.pos hy.1 (E.pos hy.2 (E.bind (keyI_E _ _) (E.now _))))))
theorem swap_mid (a t:List Int) (x y:Int):((a++y::x::t).set (a.length+1) y).set a.length x=a++x::y::t:=by
 rw[List.set_append_right _ _ (by omega),List.set_append_right _ _ (by omega)]
 simp
theorem insI_l4 {f:List Int} {N i:Int} {R:List Int} {x:Int} (rest:List Int) (hx:0≤x∧x<(f.length:Int)):∀(r b:List Int),InR f r→r.length+b.length+rest.length≤1000000 →
  E (fun k=>zf80.l1 (k 0) (k 1) 0 N [f] (wrap64 (i+1)) (slide f x r b++rest)) R →
  E (fun k=>zf80.l4 (k 0) (k 1) (k 2) 0 N [f] i (r.length:Int) (r.reverse++x::(b++rest))) R
 | [],b,hr,hl,hk=>by
  refine E.step 2 (fun v w h1 h2=>by rewrite [h1,h2 0 (by decide),h2 1 (by decide)];exact zf80.l4_succ ..) ?_
  exact E.neg (by simp) (E.is (E.congr (fun k=>by simp[slide]) hk) rfl)
 | y::r,b,hr,hl,hk=>by
  have hy:=hr y (List.mem_cons_self ..)
  have hr':InR f r:=fun z hz=>hr z (List.mem_cons_of_mem _ hz)
  simp only[List.length_cons] at hl
  have hL:(y::r).reverse++x::(b++rest)=r.reverse++y::x::(b++rest):=by simp
  have hlen:(r.reverse++y::x::(b++rest)).length=r.length+(b.length+rest.length+2):=by simp
  have g1:(r.reverse++y::x::(b++rest)).getD (r.length+1) 0=x:=by
   have:=getD_mid (d:=(0:Int)) (r.reverse++[y]) (b++rest) x
   rw[show (r.reverse++[y]).length=r.length+1 by simp,List.append_assoc] at this
   exact this
  have g2:(r.reverse++y::x::(b++rest)).getD r.length 0=y:=by
   have:=getD_mid (d:=(0:Int)) r.reverse (x::(b++rest)) y
   rw[List.length_reverse] at this
   exact this
  have ew:wrap64 (((r.length+1:Nat):Int)-1)=(r.length:Int):=by rw[wrap_id (by omega) (by omega)];omega
  have hs:((r.reverse++y::x::(b++rest)).set (r.length+1) y).set r.length x=r.reverse++x::(y::b++rest):=by
   have:=swap_mid r.reverse (b++rest) x y
   rw[List.length_reverse] at this
   exact this
  have hls:((r.reverse++y::x::(b++rest)).set (r.length+1) y).length=r.length+(b.length+rest.length+2):=by rw[List.length_set,hlen]
  rw[hL]
  refine E.step 2 (fun v w h1 h2=>by rewrite [h1,h2 0 (by decide),h2 1 (by decide)];exact zf80.l4_succ ..) ?_
  rw[List.length_cons,ew]
  simp only[Int.toNat_natCast,g1,g2,hs,hls]
  have ec:List.getD [f] 0 []=f:=rfl
  rw[ec]
  refine E.pos (by omega) (E.pos (by omega) (E.pos (by omega) (E.pos (by omega) (E.pos (by omega) (E.bind (byRisk1_E f hx hy) ?_)))))
  by_cases hc:keyF f y > keyF f x
  ·have ih:=insI_l4 (N:=N) (i:=i) (R:=R) rest hx r (y::b) hr' (by simp;omega) (by rw[slide,if_pos hc] at hk;exact hk)
   rw[if_pos (show keyF f x<keyF f y from hc)]
   exact E.pos (by decide) (E.pos (by omega) (E.pos (by omega) (E.pos (by omega) (E.pos (by omega) (E.pos (by omega) (E.pos (by omega) (E.pos (by omega) (E.pos (by omega) ih))))))))
  ·have hk':=hk
   rw[slide,if_neg hc] at hk'
   rw[if_neg (show ¬keyF f x<keyF f y from hc)]
   refine E.neg (by split <;> decide) (E.congr (fun k=>?_) hk')
   congr 1
   simp
theorem insI_l1 {f:List Int}:∀(rest out:List Int),InR f out→InR f rest→(out++rest).length≤1000000→1≤out.length →
  E (fun k=>zf80.l1 (k 0) (k 1) 0 ((out++rest).length:Int) [f] (out.length:Int) (out++rest)) (sortI f out rest)
 | [],out,ho,hr,hl,h1=>by
  refine E.step 1 (fun v w h1 h2=>by rewrite [h1,h2 0 (by decide)];exact zf80.l1_succ ..) ?_
  exact E.neg (by simp) (E.now' (by simp[sortI]))
 | x::rest,out,ho,hr,hl,h1=>by
  have hx:=hr x (List.mem_cons_self ..)
  have hlen:(out++x::rest).length=out.length+(rest.length+1):=by simp
  have hsl:=slide_length f x out.reverse []
  rw[List.length_reverse,List.length_nil] at hsl
  have ih:=insI_l1 rest (slide f x out.reverse []) (fun z hz=>by
   rcases slide_mem f x out.reverse [] z hz with h | h | h
   ·rw[h];exact hx
   ·exact ho z (List.mem_reverse.1 h)
   ·cases h) (fun z hz=>hr z (List.mem_cons_of_mem _ hz)) (by rw[List.length_append,hsl];omega) (by omega)
  have hN:(slide f x out.reverse []++rest).length=(out++x::rest).length:=by rw[List.length_append,hsl,hlen];omega
  rw[hN,hsl] at ih
  have hk:E (fun k=>zf80.l1 (k 0) (k 1) 0 ((out++x::rest).length:Int) [f] (wrap64 ((out.length:Int)+1)) (slide f x out.reverse []++rest)) (sortI f out (x::rest)):=by
   rw[wrap_nat (by omega)]
   exact ih
  have h4:=insI_l4 (x:=x) rest hx out.reverse [] (fun z hz=>ho z (List.mem_reverse.1 hz)) (by simp;omega) hk
  rw[List.reverse_reverse,List.length_reverse,List.nil_append] at h4
  refine E.step 1 (fun v w h1 h2=>by rewrite [h1,h2 0 (by decide)];exact zf80.l1_succ ..) ?_
  exact E.pos (by omega) (E.ren (fun i=>if i=2 then 0 else i) h4)
def iotaI (a:Nat):Nat→List Int
 | 0=>[]
 | n+1=>(a:Int)::iotaI (a+1) n
theorem iotaI_length:∀(n a:Nat),(iotaI a n).length=n
 | 0,_=>rfl
 | n+1,a=>by rw[iotaI,List.length_cons,iotaI_length n]
theorem iotaI_mem:∀(n a:Nat),∀y ∈ iotaI a n,0≤y∧y<((a+n:Nat):Int)
 | 0,a,y,h=>by cases h
 | n+1,a,y,h=>by
  rcases List.mem_cons.1 h with rfl | h
  ·omega
  ·have:=iotaI_mem n (a+1) y h;omega
theorem stableI_E {f:List Int} (l:List Int) (hl:l.length≤12) (hr:InR f l):E (fun k=>zf79 (k 0) (l,f)) (sortI f [] l):=by
 have hi:E (fun k=>zf80 (k 0) (l,0,(l.length:Int),f)) (sortI f [] l):=by
  refine E.congr (fun k=>zf80.eq (k 0) l 0 (l.length:Int) f) ?_
  cases l with
  | nil=>
   have:E (fun k=>zf80.l1 (k 0) (k 1) 0 (([]:List Int).length:Int) [f] (wrap64 (0+1)) []) (sortI f [] []):=by
    refine E.step 1 (fun v w h1 h2=>by rewrite [h1,h2 0 (by decide)];exact zf80.l1_succ ..) ?_
    exact E.neg (by rw[wrap_id (x:=0+1) (by decide) (by decide)];decide) (E.now _)
   exact E.ren (fun _=>0) this
  | cons x rest=>
   have:=insI_l1 (f:=f) rest [x] (fun z hz=>by rw[List.mem_singleton.1 hz];exact hr x (List.mem_cons_self ..)) (fun z hz=>hr z (List.mem_cons_of_mem _ hz)) (by simp at hl ⊢;omega) (by simp)
   have h1:wrap64 (0+1)=(([x]:List Int).length:Int):=by rw[wrap_id (x:=0+1) (by decide) (by decide)];rfl
   rw[h1]
   exact E.ren (fun _=>0) this
 have h7:E (fun k=>zf81.l7 (k 0) (k 1) (l.length:Int) [f] 20 (sortI f [] l)) (sortI f [] l):=by
  refine E.step 1 (fun v w h1 h2=>by rewrite [h1,h2 0 (by decide)];exact zf81.l7_succ ..) ?_
  exact E.neg (by omega) (E.now _)
 have h2:E (fun k=>zf81.l2 (k 0) (k 1) (l.length:Int) [f] 20 0 20 l) (sortI f [] l):=by
  refine E.step 1 (fun v w h1 h2=>by rewrite [h1,h2 0 (by decide)];exact zf81.l2_succ ..) ?_
  exact E.neg (by omega) (E.bind hi (E.ren (fun _=>0) h7))
 exact E.congr (fun k=>zf79.eq (k 0) l f) (E.bind (E.congr (fun k=>zf81.eq (k 0) l (l.length:Int) f) (E.ren (fun _=>0) h2)) (E.now _))
theorem iotaI_snoc:∀(n a:Nat),iotaI a (n+1)=iotaI a n++[((a+n:Nat):Int)]
 | 0,a=>rfl
 | n+1,a=>by
  rw[iotaI,iotaI_snoc n (a+1),iotaI,List.cons_append,show a+1+n=a+(n+1) by omega]
theorem byRisk_l4 {f:List Int} (hf:f.length≤12):∀(d i:Nat),i+d=f.length →
  E (fun k=>zf3.l4 (k 0) (k 1) (f.length:Int) (i:Int) (iotaI 0 i) f) (sortI f [] (iotaI 0 f.length))
 | 0,i,h=>by
  have hi:i=f.length:=by omega
  subst hi
  have hs:=stableI_E (f:=f) (iotaI 0 f.length) (by rw[iotaI_length];exact hf) (fun y hy=>by have:=iotaI_mem _ _ y hy;omega)
  refine E.step 1 (fun v w h1 h2=>by rewrite [h1,h2 0 (by decide)];exact zf3.l4_succ ..) ?_
  exact E.neg (by omega) (E.bind hs (E.now _))
 | d+1,i,h=>by
  have ih:=byRisk_l4 hf d (i+1) (by omega)
  rw[iotaI_snoc,Nat.zero_add] at ih
  have hil:=iotaI_length i 0
  refine E.step 1 (fun v w h1 h2=>by rewrite [h1,h2 0 (by decide)];exact zf3.l4_succ ..) ?_
  rw[wrap_nat (by omega)]
  refine E.pos (by omega) (E.pos ?_ ih)
  simp only[List.length_set,List.length_replicate,maxN];omega
def riskC (st:List Int) (ls:List Ln):List Int:=sortI (tab st.length (freeF st ls)) [] (iotaI 0 st.length)
theorem implRisk_E (st:List Int) (ls:List Ln) (hs:vS st=true) (hv:vLs ls st.length=true):E (fun k=>zf3 (k 0) (st,ls)) (riskC st ls):=by
 have hf:=freeStakes_E st ls
 rw[hs,hv] at hf
 have hn:=(vS_iff.1 hs).1
 have hl:=byRisk_l4 (f:=tab st.length (freeF st ls)) (by rw[tab_length];omega) st.length 0 (by rw[tab_length];omega)
 rw[tab_length] at hl
 refine E.congr (fun k=>zf3.eq (k 0) st ls) (E.bind hf ?_)
 simp only[Bool.and_self,if_true,tab_length]
 exact E.ren (fun _=>0) hl
theorem specRisk_l9 {f:List Int} {x:Int} {R:List Int} (hx:0≤x∧x<(f.length:Int)):∀(r b:List Int),InR f r→r.length+b.length≤1000000 →
  E (fun k=>zf83.l6 (k 0) (k 1) (wrap64 (x+1)) f (slide f x r b)) R →
  E (fun k=>zf83.l9 (k 0) (k 1) (k 2) x (r.length:Int) f (r.reverse++b)) R
 | r,b,hr,hl,hk=>by
  have hlen:(r.reverse++b).length=r.length+b.length:=by simp
  have hd:List.take ((r.reverse++b).length-r.length) (List.drop r.length (r.reverse++b))=b:=by
   rw[List.drop_left' (by simp),hlen,Nat.add_sub_cancel_left,List.take_length]
  have ht:List.take r.length (r.reverse++b)=r.reverse:=List.take_left' (by simp)
  have hc:=specCopyInts_E b (by omega)
  have stop:(E (fun k=>zf83.l6 (k 0) (k 1) (wrap64 (x+1)) f (r.reverse++x::b)) R)→E (fun k=>(if 0≤(r.length:Int) then (if (r.length:Int)≤(((r.reverse++b).length:Nat):Int) then ((zf95 (k 0) (List.take ((r.reverse++b).length-Int.toNat (r.length:Int)) (List.drop (Int.toNat (r.length:Int)) (r.reverse++b)))).bind fun y4=>(if 0≤(r.length:Int) then (if (r.length:Int)≤(((r.reverse++b).length:Nat):Int) then (if Int.toNat (r.length:Int)-0+(List.set (List.replicate (1:Nat) (0:Int)) (0:Nat) x).length≤maxN then (if (List.take (Int.toNat (r.length:Int)-(0:Nat)) (r.reverse++b)++List.set (List.replicate (1:Nat) (0:Int)) (0:Nat) x).length+y4.length≤maxN then zf83.l6 (k 0) (k 1) (wrap64 (x+1)) f (List.take (Int.toNat (r.length:Int)-0) (r.reverse++b)++List.set (List.replicate 1 0) 0 x++y4) else none) else none) else none) else none)) else none) else none)) R:=fun h=>by
   simp only[Int.toNat_natCast,hd,Nat.sub_zero,ht]
   refine E.pos (by omega) (E.pos (by omega) (E.bind hc (E.pos (by omega) (E.pos (by omega) (E.pos ?_ (E.pos ?_ (E.congr (fun k=>?_) h)))))))
   ·simp only[List.length_set,List.length_replicate,maxN];omega
   ·simp only[List.length_append,List.length_reverse,List.length_set,List.length_replicate,maxN];omega
   ·congr 1
    simp
  match r,hr,hl,hk,hlen,hd,ht,stop with
  | [],hr,hl,hk,hlen,hd,ht,stop=>
   refine E.step 2 (fun v w h1 h2=>by rewrite [h1,h2 0 (by decide),h2 1 (by decide)];exact zf83.l9_succ ..) ?_
   exact E.neg (by simp) (stop hk)
  | y::r,hr,hl,hk,hlen,hd,ht,stop=>
   have hy:=hr y (List.mem_cons_self ..)
   have hr':InR f r:=fun z hz=>hr z (List.mem_cons_of_mem _ hz)
   simp only[List.length_cons] at hl
   have ew:wrap64 (((r.length+1:Nat):Int)-1)=(r.length:Int):=by rw[wrap_id (by omega) (by omega)];omega
   have g2:((y::r).reverse++b).getD r.length 0=y:=by
    have:=getD_mid (d:=(0:Int)) r.reverse b y
    rw[List.length_reverse] at this
    rw[List.reverse_cons,List.append_assoc]
    exact this
   refine E.step 2 (fun v w h1 h2=>by rewrite [h1,h2 0 (by decide),h2 1 (by decide)];exact zf83.l9_succ ..) ?_
   rw[List.length_cons] at stop hlen ⊢
   simp only[ew,Int.toNat_natCast,g2]
   refine E.pos (by omega) (E.pos (by omega) (E.pos (by omega) (E.pos hy.1 (E.pos hy.2 (E.pos hx.1 (E.pos hx.2 (E.ite (fun hc=>?_) (fun hc=>?_))))))))
   ·have hc':keyF f y > keyF f x:=hc
    have ih:=specRisk_l9 (x:=x) (R:=R) hx r (y::b) hr' (by simp;omega) (by rw[slide,if_pos hc'] at hk;exact hk)
    refine E.congr (fun k=>?_) ih
    congr 1
    simp
   ·have hc':¬keyF f y > keyF f x:=hc
    rw[slide,if_neg hc'] at hk
    simp only[Int.toNat_natCast] at stop
    exact stop hk
theorem slide_in {f:List Int} {x:Int} {r b:List Int} (hx:0≤x∧x<(f.length:Int)) (hr:InR f r) (hb:InR f b):InR f (slide f x r b):=fun z hz=>by
 rcases slide_mem f x r b z hz with h | h | h
 ·rw[h];exact hx
 ·exact hr z h
 ·exact hb z h
theorem specRisk_l6 {f:List Int} (hf:f.length≤12):∀(d i:Nat) (out:List Int),i+d=f.length→out.length=i→InR f out →
  E (fun k=>zf83.l6 (k 0) (k 1) (i:Int) f out) (sortI f out (iotaI i d))
 | 0,i,out,h,ho,hr=>by
  refine E.step 1 (fun v w h1 h2=>by rewrite [h1,h2 0 (by decide)];exact zf83.l6_succ ..) ?_
  exact E.neg (by omega) (E.now' (by simp[iotaI,sortI]))
 | d+1,i,out,h,ho,hr=>by
  have hx:0≤(i:Int)∧(i:Int)<(f.length:Int):=by omega
  have ih:=specRisk_l6 hf d (i+1) (slide f (i:Int) out.reverse []) (by omega) (by rw[slide_length,List.length_reverse,List.length_nil];omega) (slide_in hx (fun z hz=>hr z (List.mem_reverse.1 hz)) (fun z hz=>by cases hz))
  have hk:E (fun k=>zf83.l6 (k 0) (k 1) (wrap64 ((i:Int)+1)) f (slide f (i:Int) out.reverse [])) (sortI f out (iotaI i (d+1))):=by
   rw[wrap_nat (by omega)]
   exact ih
  have h9:=specRisk_l9 hx out.reverse [] (fun z hz=>hr z (List.mem_reverse.1 hz)) (by simp;omega) hk
  rw[List.reverse_reverse,List.length_reverse,List.append_nil] at h9
  refine E.step 1 (fun v w h1 h2=>by rewrite [h1,h2 0 (by decide)];exact zf83.l6_succ ..) ?_
  exact E.pos (by omega) (E.ren (fun i=>if i=2 then 0 else i) h9)
theorem specRisk_E (st:List Int) (ls:List Ln) (hs:vS st=true) (hv:vLs ls st.length=true) (h1:ls.length<4611686018427387904) (h2:∀l ∈ ls,l.2.2.length<4611686018427387904):E (fun k=>zf83 (k 0) (st,ls)) (riskC st ls):=by
 have hn:=(vS_iff.1 hs).1
 have hl:=specRisk_l6 (f:=tab st.length (freeF st ls)) (by rw[tab_length];omega) st.length 0 [] (by rw[tab_length];omega) rfl (fun z hz=>by cases hz)
 have a:=specValidStakes_E st
 have b:=specValidLoans_E ls st.length (by omega) (by omega) h1 h2
 rw[hs] at a
 rw[hv] at b
 exact E.congr (fun k=>zf83.eq (k 0) st ls) (E.bind a (E.neg (by decide) (E.bind b (E.neg (by decide) (E.bind (specFree_E st ls hs hv) (E.ren (fun _=>0) hl))))))
theorem sortI_in {f:List Int}:∀(rest out:List Int),InR f out→InR f rest→InR f (sortI f out rest)∧(sortI f out rest).length=out.length+rest.length
 | [],out,ho,_=>⟨ho,rfl⟩
 | x::rest,out,ho,hr=>by
  have hx:=hr x (List.mem_cons_self ..)
  obtain ⟨i1,i2⟩:=sortI_in rest (slide f x out.reverse []) (slide_in hx (fun z hz=>ho z (List.mem_reverse.1 hz)) (fun z hz=>by cases hz)) (fun z hz=>hr z (List.mem_cons_of_mem _ hz))
  refine ⟨i1,?_⟩
  rw[sortI,i2,slide_length,List.length_reverse,List.length_nil,List.length_cons]
  omega
theorem riskC_facts (st:List Int) (ls:List Ln):(riskC st ls).length=st.length∧∀y ∈ riskC st ls,0≤y∧y<(st.length:Int):=by
 obtain ⟨h1,h2⟩:=sortI_in (f:=tab st.length (freeF st ls)) (iotaI 0 st.length) [] (fun z hz=>by cases hz) (fun y hy=>by have:=iotaI_mem _ _ y hy;rw[tab_length];omega)
 rw[List.length_nil,iotaI_length,Nat.zero_add] at h2
 refine ⟨h2,fun y hy=>?_⟩
 have:=h1 y hy
 rw[tab_length] at this
 exact this
end Go.Proofs.YtbgamdkmlikgjaaGreatDoorG
end
section
set_option linter.unusedVariables false
namespace Go.Proofs.YtbgamdkmlikgjaaGreatDoorG
open Go Go.Refl Go.Refl.Math Go.RowKit
def tBox:ByteArray:={ data:=#[(98:UInt8),(111:UInt8),(120:UInt8)] }
def tLoans:ByteArray:={ data:=#[(108:UInt8),(111:UInt8),(97:UInt8),(110:UInt8),(115:UInt8)] }
def tNight:ByteArray:={ data:=#[(110:UInt8),(105:UInt8),(103:UInt8),(104:UInt8),(116:UInt8)] }
def tSur:ByteArray:={ data:=#[(115:UInt8),(117:UInt8),(114:UInt8),(112:UInt8),(108:UInt8),(117:UInt8),(115:UInt8)] }
def tSafe:ByteArray:={ data:=#[(115:UInt8),(97:UInt8),(102:UInt8),(101:UInt8)] }
def tWeak:ByteArray:={ data:=#[(119:UInt8),(101:UInt8),(97:UInt8),(107:UInt8),(101:UInt8),(115:UInt8),(116:UInt8)] }
def tWhat:ByteArray:={ data:=#[(119:UInt8),(104:UInt8),(97:UInt8),(116:UInt8)] }
def tDash:ByteArray:={ data:=#[(45:UInt8)] }
def tYes:ByteArray:={ data:=#[(121:UInt8),(101:UInt8),(115:UInt8)] }
def tNo:ByteArray:={ data:=#[(110:UInt8),(111:UInt8)] }
def tNone:ByteArray:={ data:=#[(110:UInt8),(111:UInt8),(110:UInt8),(101:UInt8)] }
def tStake:ByteArray:={ data:=#[(115:UInt8),(116:UInt8),(97:UInt8),(107:UInt8),(101:UInt8)] }
def tStakeS:ByteArray:={ data:=#[(115:UInt8),(116:UInt8),(97:UInt8),(107:UInt8),(101:UInt8),(32:UInt8)] }
def swT (c:Clb) (w:ByteArray):ByteArray:=
 if w=tBox then monT c.2.2.1.toNat else if w=tLoans then decT c.2.1.length else if w=tNight then decT c.2.2.2.2.toNat
 else if w=tSur then (if c.2.2.2.1<0 then tDash++monT (-c.2.2.2.1).toNat else monT c.2.2.2.1.toNat)
 else if w=tSafe then (if safeB c.1 c.2.1=true then tYes else tNo)
 else if w=tWeak then decT ((riskC c.1 c.2.1).getD 0 0).toNat else tWhat
theorem weak_facts {c:Clb} (hc:vC c=true):0<(riskC c.1 c.2.1).length∧0≤(riskC c.1 c.2.1).getD 0 0∧(riskC c.1 c.2.1).getD 0 0≤12:=by
 obtain ⟨h1,h2⟩:=riskC_facts c.1 c.2.1
 have hn:=(vS_iff.1 (vC_parts hc).1).1
 have h3:=h2 _ (getD_mem (xs:=riskC c.1 c.2.1) (i:=0) 0 (by omega))
 omega
theorem implSw_E {c:Clb} (hc:vC c=true) (w:ByteArray):E (fun k=>(if w={ data:=#[(98:UInt8),(111:UInt8),(120:UInt8)] } then ((zf25 (k 0) (Prod.fst (Prod.snd (Prod.snd c)))).bind fun y2=>some (y2)) else (if w={ data:=#[(108:UInt8),(111:UInt8),(97:UInt8),(110:UInt8),(115:UInt8)] } then ((zf141 (k 0) (↑(List.length (Prod.fst (Prod.snd c))):Int)).bind fun y3=>some (y3)) else (if w={ data:=#[(110:UInt8),(105:UInt8),(103:UInt8),(104:UInt8),(116:UInt8)] } then ((zf141 (k 0) (Prod.snd (Prod.snd (Prod.snd (Prod.snd c))))).bind fun y4=>some (y4)) else (if w={ data:=#[(115:UInt8),(117:UInt8),(114:UInt8),(112:UInt8),(108:UInt8),(117:UInt8),(115:UInt8)] } then (if Prod.fst (Prod.snd (Prod.snd (Prod.snd c)))<0 then ((zf25 (k 0) (wrap64 (0-Prod.fst (Prod.snd (Prod.snd (Prod.snd c)))))).bind fun y5=>(if ByteArray.size { data:=#[(45:UInt8)] }+ByteArray.size y5≤maxN then some ({ data:=#[(45:UInt8)] }++y5) else none)) else ((zf25 (k 0) (Prod.fst (Prod.snd (Prod.snd (Prod.snd c))))).bind fun y6=>some (y6))) else (if w={ data:=#[(115:UInt8),(97:UInt8),(102:UInt8),(101:UInt8)] } then ((zf24 (k 0) (Prod.fst c,Prod.fst (Prod.snd c))).bind fun y7=>(if (y7)=true then some ({ data:=#[(121:UInt8),(101:UInt8),(115:UInt8)] }) else some ({ data:=#[(110:UInt8),(111:UInt8)] }))) else (if w={ data:=#[(119:UInt8),(101:UInt8),(97:UInt8),(107:UInt8),(101:UInt8),(115:UInt8),(116:UInt8)] } then ((zf3 (k 0) (Prod.fst c,Prod.fst (Prod.snd c))).bind fun y8=>(if 0<(↑(List.length y8):Int) then ((zf141 (k 0) (List.getD y8 0 0)).bind fun y9=>some (y9)) else none)) else some ({ data:=#[(119:UInt8),(104:UInt8),(97:UInt8),(116:UInt8)] })))))))) (swT c w):=by
 obtain ⟨hs,hv,hb⟩:=vC_parts hc
 have hl:=(vLs_iff.1 hv).1
 have q1:ByteArray.size { data:=#[(45:UInt8)] }=1:=rfl
 unfold swT
 by_cases h1:w=tBox
 ·rw[if_pos h1];exact E.pos h1 (E.bind (showMoney_E (by omega) (by omega)) (E.now _))
 rw[if_neg h1]
 refine E.neg h1 ?_
 by_cases h2:w=tLoans
 ·rw[if_pos h2];exact E.pos h2 (E.bind (itoa_E (by omega) (by omega)) (E.now' (by rw[Int.toNat_natCast])))
 rw[if_neg h2]
 refine E.neg h2 ?_
 by_cases h3:w=tNight
 ·rw[if_pos h3];exact E.pos h3 (E.bind (itoa_E (by omega) (by omega)) (E.now _))
 rw[if_neg h3]
 refine E.neg h3 ?_
 by_cases h4:w=tSur
 ·rw[if_pos h4]
  refine E.pos h4 (E.ite (fun h=>?_) (fun h=>?_))
  ·have ew:wrap64 (0-c.2.2.2.1)=-c.2.2.2.1:=by rw[wrap_id (by omega) (by omega)];omega
   have hz:=monT_size (-c.2.2.2.1).toNat
   rw[if_pos h,ew]
   exact E.bind (showMoney_E (by omega) (by omega)) (E.pos (by rw[q1];simp only[maxN];omega) (E.now _))
  ·rw[if_neg h]
   exact E.bind (showMoney_E (by omega) (by omega)) (E.now _)
 rw[if_neg h4]
 refine E.neg h4 ?_
 by_cases h5:w=tSafe
 ·rw[if_pos h5]
  refine E.pos h5 (E.bind (safeLoans_E c.1 c.2.1) (E.ite (fun h=>E.now' (by rw[if_pos h];rfl)) (fun h=>E.now' (by rw[if_neg h];rfl))))
 rw[if_neg h5]
 refine E.neg h5 ?_
 by_cases h6:w=tWeak
 ·rw[if_pos h6]
  have hf:=weak_facts hc
  exact E.pos h6 (E.bind (implRisk_E c.1 c.2.1 hs hv) (E.pos (by omega) (E.bind (itoa_E hf.2.1 (by omega)) (E.now _))))
 rw[if_neg h6]
 exact E.neg h6 (E.now _)
theorem specSw_E {c:Clb} (hc:vC c=true) (w:ByteArray):E (fun k=>(if w={ data:=#[(98:UInt8),(111:UInt8),(120:UInt8)] } then ((zf106 (k 0) (Prod.fst (Prod.snd (Prod.snd c)))).bind fun y5=>some (y5)) else (if w={ data:=#[(108:UInt8),(111:UInt8),(97:UInt8),(110:UInt8),(115:UInt8)] } then ((zf112 (k 0) (↑(List.length (Prod.fst (Prod.snd c))):Int)).bind fun y6=>some (y6)) else (if w={ data:=#[(110:UInt8),(105:UInt8),(103:UInt8),(104:UInt8),(116:UInt8)] } then ((zf112 (k 0) (Prod.snd (Prod.snd (Prod.snd (Prod.snd c))))).bind fun y7=>some (y7)) else (if w={ data:=#[(115:UInt8),(117:UInt8),(114:UInt8),(112:UInt8),(108:UInt8),(117:UInt8),(115:UInt8)] } then (if Prod.fst (Prod.snd (Prod.snd (Prod.snd c)))<0 then ((zf106 (k 0) (wrap64 (0-Prod.fst (Prod.snd (Prod.snd (Prod.snd c)))))).bind fun y8=>(if ByteArray.size { data:=#[(45:UInt8)] }+ByteArray.size y8≤maxN then some ({ data:=#[(45:UInt8)] }++y8) else none)) else ((zf106 (k 0) (Prod.fst (Prod.snd (Prod.snd (Prod.snd c))))).bind fun y9=>some (y9))) else (if w={ data:=#[(115:UInt8),(97:UInt8),(102:UInt8),(101:UInt8)] } then ((zf125 (k 0) (Prod.fst c,Prod.fst (Prod.snd c))).bind fun y10=>(if (y10)=true then some ({ data:=#[(121:UInt8),(101:UInt8),(115:UInt8)] }) else some ({ data:=#[(110:UInt8),(111:UInt8)] }))) else (if w={ data:=#[(119:UInt8),(101:UInt8),(97:UInt8),(107:UInt8),(101:UInt8),(115:UInt8),(116:UInt8)] } then ((zf83 (k 0) (Prod.fst c,Prod.fst (Prod.snd c))).bind fun y11=>(if 0<(↑(List.length y11):Int) then ((zf112 (k 0) (List.getD y11 0 0)).bind fun y12=>some (y12)) else none)) else some ({ data:=#[(119:UInt8),(104:UInt8),(97:UInt8),(116:UInt8)] })))))))) (swT c w):=by
 obtain ⟨hs,hv,hb⟩:=vC_parts hc
 have hl:=(vLs_iff.1 hv).1
 have fs:=(vC_fits hc).small
 have q1:ByteArray.size { data:=#[(45:UInt8)] }=1:=rfl
 unfold swT
 by_cases h1:w=tBox
 ·rw[if_pos h1];exact E.pos h1 (E.bind (specMoney_E (by omega) (by omega)) (E.now _))
 rw[if_neg h1]
 refine E.neg h1 ?_
 by_cases h2:w=tLoans
 ·rw[if_pos h2];exact E.pos h2 (E.bind (specNum_E (by omega) (by omega)) (E.now' (by rw[Int.toNat_natCast])))
 rw[if_neg h2]
 refine E.neg h2 ?_
 by_cases h3:w=tNight
 ·rw[if_pos h3];exact E.pos h3 (E.bind (specNum_E (by omega) (by omega)) (E.now _))
 rw[if_neg h3]
 refine E.neg h3 ?_
 by_cases h4:w=tSur
 ·rw[if_pos h4]
  refine E.pos h4 (E.ite (fun h=>?_) (fun h=>?_))
  ·have ew:wrap64 (0-c.2.2.2.1)=-c.2.2.2.1:=by rw[wrap_id (by omega) (by omega)];omega
   have hz:=monT_size (-c.2.2.2.1).toNat
   rw[if_pos h,ew]
   exact E.bind (specMoney_E (by omega) (by omega)) (E.pos (by rw[q1];simp only[maxN];omega) (E.now _))
  ·rw[if_neg h]
   exact E.bind (specMoney_E (by omega) (by omega)) (E.now _)
 rw[if_neg h4]
 refine E.neg h4 ?_
 by_cases h5:w=tSafe
 ·rw[if_pos h5]
  refine E.pos h5 (E.bind (specSafe_E c.1 c.2.1 hs hv) (E.ite (fun h=>E.now' (by rw[if_pos h];rfl)) (fun h=>E.now' (by rw[if_neg h];rfl))))
 rw[if_neg h5]
 refine E.neg h5 ?_
 by_cases h6:w=tWeak
 ·rw[if_pos h6]
  have hf:=weak_facts hc
  exact E.pos h6 (E.bind (specRisk_E c.1 c.2.1 hs hv fs.1 fs.2) (E.pos (by omega) (E.bind (specNum_E hf.2.1 (by omega)) (E.now _))))
 rw[if_neg h6]
 exact E.neg h6 (E.now _)
def preS (w:ByteArray):Prop:=6≤w.size∧w.extract 0 6=tStakeS
instance (w:ByteArray):Decidable (preS w):=by unfold preS;infer_instance
def restS (w:ByteArray):ByteArray:=w.extract 6 w.size
noncomputable def ansT (c:Clb) (w:ByteArray):ByteArray:=
 if preS w then (if 0≤numV 9999999 (restS w) then (if numV 9999999 (restS w)≥(c.1.length:Int) then tNone else monT (c.1.getD (numV 9999999 (restS w)).toNat 0).toNat) else tWhat) else swT c w
theorem cutP_E (w:ByteArray):E (fun k=>zf146 (k 0) (w,tStakeS)) (if preS w then (restS w,true) else (w,false)):=by
 have q1:tStakeS.size=6:=rfl
 refine E.congr (fun k=>zf146.eq (k 0) w tStakeS) (E.bind (a:=if preS w then (restS w,true) else (w,false)) (E.congr (fun k=>zf50.eq (k 0) w tStakeS) (E.bind (a:=decide (preS w)) (E.congr (fun k=>zf51.eq (k 0) w tStakeS) ?_) ?_)) (E.now _))
 ·rw[q1]
  refine E.ite (fun h=>E.pos (by omega) (E.pos (by omega) (E.now' ?_))) (fun h=>E.now' ?_)
  ·rw[decide_eq_decide]
   exact ⟨fun h'=>⟨by omega,h'⟩,fun h'=>h'.2⟩
  ·symm
   rw[decide_eq_false_iff_not]
   exact fun h'=>h (by have:=h'.1;omega)
 ·rw[q1]
  by_cases h:preS w
  ·rw[decide_eq_true h,if_pos h]
   have:=h.1
   exact E.neg (by decide) (E.pos (by omega) (E.pos (by omega) (E.now' rfl)))
  ·rw[decide_eq_false h,if_neg h]
   exact E.pos rfl (E.now _)
theorem isN_l4 {x:ByteArray} (hx:x.size≤7) {R:Bool}:∀(post pre:List UInt8),x.data.toList=pre++post →
  (x.data.toList.all dgt=true→(if x={ data:=#[(48:UInt8)] } then true else (if x={ data:=#[] } then false else !decide (x.data.toList.getD 0 0=48)))=R)→(¬x.data.toList.all dgt=true→R=false)→pre.all dgt=true →
  E (fun k=>zf37.l4 (k 0) (k 1) x (x.size:Int) (pre.length:Int)) R
 | [],pre,he,h1,h2,hp=>by
  rw[List.append_nil] at he
  have hz:x.size=pre.length:=by rw[ba_size,he]
  have h1':=h1 (by rw[he];exact hp)
  refine E.step 1 (fun v w h1 h2=>by rewrite [h1,h2 0 (by decide)];exact zf37.l4_succ ..) ?_
  refine E.neg (by omega) ?_
  by_cases e0:x={ data:=#[(48:UInt8)] }
  ·rw[if_pos e0] at h1';exact E.pos e0 (E.now' h1')
  rw[if_neg e0] at h1'
  refine E.neg e0 ?_
  by_cases e1:x={ data:=#[] }
  ·rw[if_pos e1] at h1';exact E.pos e1 (E.now' h1')
  rw[if_neg e1] at h1'
  have hpos:0<x.size:=by
   rcases Nat.eq_zero_or_pos x.size with h0 | h0
   ·exact absurd (ba_ext (List.eq_nil_of_length_eq_zero (by rw[←ba_size];exact h0))) e1
   ·exact h0
  refine E.neg e1 (E.pos (by omega) (E.now' ?_))
  rw[←h1']
  congr 1
  rw[decide_eq_decide]
  exact byte_eq (n:=48) (by decide)
 | b::post,pre,he,h1,h2,hp=>by
  have hz:x.size=pre.length+(post.length+1):=by rw[ba_size,he];simp
  have hget:x.data.toList.getD pre.length 0=b:=by rw[he,getD_mid]
  have no:¬dgt b=true→false=R:=fun hd=>(h2 (fun h'=>hd (List.all_eq_true.1 h' b (by rw[he];simp)))).symm
  refine E.step 1 (fun v w h1 h2=>by rewrite [h1,h2 0 (by decide)];exact zf37.l4_succ ..) ?_
  simp only[Int.toNat_natCast,hget]
  rw[wrap_nat (by omega)]
  refine E.pos (by omega) (E.pos (by omega) (E.pos (by omega) (E.ite (fun h=>E.now' (no (by rw[dgt_iff];omega))) (fun h3=>E.pos (by omega) (E.pos (by omega) (E.ite (fun h=>E.now' (no (by rw[dgt_iff];omega))) (fun h4=>?_)))))))
  have ih:=isN_l4 hx (R:=R) post (pre++[b]) (by rw[he];simp) h1 h2 (by rw[List.all_append,hp];simpa using dgt_iff.2 (by omega))
  rw[show (pre++[b]).length=pre.length+1 from by simp] at ih
  exact ih
theorem num_yes {x:ByteArray} (hx:x.size≤7) (hne:x≠{ data:=#[] }) (hd:x.data.toList.all dgt=true) (h0:x={ data:=#[(48:UInt8)] }∨x.data.toList.getD 0 0≠48):0≤numV 9999999 x:=by
 have hpos:0<x.size:=by
  rcases Nat.eq_zero_or_pos x.size with h0 | h0
  ·exact absurd (ba_ext (List.eq_nil_of_length_eq_zero (by rw[←ba_size];exact h0))) hne
  ·exact h0
 have hl:x.data.toList.length=x.size:=(ba_size x).symm
 have hdec:=(dec_of (x.size-1) x.data.toList (by omega) hd (by
  rcases h0 with h0 | h0
  ·left;rw[h0];rfl
  ·right
   intro e
   apply h0
   cases hx':x.data.toList with
   | nil=>rw[hx'] at e;cases e
   | cons a t=>rw[hx'] at e;simpa using e)).1
 have hlt:=dval_lt x.data.toList 0 0 hd (by decide)
 have hle:10 ^ (0+x.data.toList.length)≤10 ^ 7:=Nat.pow_le_pow_right (by decide) (by omega)
 have hb:dval 0 x.data.toList≤9999999:=by
  have:(10:Nat) ^ 7=10000000:=by decide
  omega
 have hx2:x=decT (dval 0 x.data.toList):=by
  apply ba_ext
  rw[decT_list,hdec]
 have:=numV_dec hb
 rw[←hx2] at this
 omega
theorem isNum_E (x:ByteArray):E (fun k=>zf37 (k 0) x) (decide (0≤numV 9999999 x)):=by
 have fwd:0≤numV 9999999 x→∃n:Nat,n≤9999999∧x=decT n:=fun h=>by
  rcases numV_P 9999999 x with ⟨n,hn,e,_⟩ | ⟨_,e⟩
  ·exact ⟨n,hn,e⟩
  ·omega
 by_cases h7:x.size > 7
 ·have:¬0≤numV 9999999 x:=fun h=>by
   obtain ⟨n,hn,e⟩:=fwd h
   have h2:=decT_pow 6 n (by omega)
   rw[←e] at h2
   omega
  rw[decide_eq_false this]
  exact E.congr (fun k=>zf37.eq (k 0) x) (E.pos (by omega) (E.now _))
 ·have hl:=isN_l4 (x:=x) (by omega) (R:=decide (0≤numV 9999999 x)) x.data.toList [] rfl (fun hd=>?_) (fun hd=>?_) rfl
  ·exact E.congr (fun k=>zf37.eq (k 0) x) (E.neg (by omega) (E.ren (fun _=>0) hl))
  ·by_cases e0:x={ data:=#[(48:UInt8)] }
   ·rw[if_pos e0]
    exact (decide_eq_true (num_yes (by omega) (by rw[e0];decide) hd (.inl e0))).symm
   ·rw[if_neg e0]
    by_cases e1:x={ data:=#[] }
    ·rw[if_pos e1]
     symm
     rw[decide_eq_false_iff_not]
     intro h
     obtain ⟨n,_,e⟩:=fwd h
     exact decT_ne n (e ▸ e1)
    ·rw[if_neg e1]
     by_cases e2:x.data.toList.getD 0 0=48
     ·rw[decide_eq_true e2]
      symm
      show decide _=false
      rw[decide_eq_false_iff_not]
      intro h
      obtain ⟨n,hn,e⟩:=fwd h
      by_cases n0:n=0
      ·subst n0
       exact e0 (by rw[e];exact decT_lt (by omega))
      ·have hh:=(dval_dec n).2.2.2 (by omega)
       rw[e,decT_list] at e2
       cases hd2:Go.Lib.decDigits n with
       | nil=>exact (dval_dec n).2.2.1 hd2
       | cons a t=>
        rw[hd2] at e2 hh
        exact hh (congrArg some e2)
     ·rw[decide_eq_false e2]
      exact (decide_eq_true (num_yes (by omega) e1 hd (.inr e2))).symm
  ·rw[decide_eq_false_iff_not]
   intro h
   obtain ⟨n,hn,e⟩:=fwd h
   exact hd (by rw[e,decT_list];exact (dval_dec n).1)
theorem stake_mem {c:Clb} (hc:vC c=true) (i:Nat) (hi:i<c.1.length):0≤c.1.getD i 0∧c.1.getD i 0≤100000:=(vS_iff.1 (vC_parts hc).1).2 _ (getD_mem _ hi)
theorem implStake_E {c:Clb} (hc:vC c=true) (r:ByteArray) (hr:r.size≤400000000):E (fun k=>zf32 (k 0) (c,r)) (if 0≤numV 9999999 r then (if numV 9999999 r≥(c.1.length:Int) then tNone else monT (c.1.getD (numV 9999999 r).toNat 0).toNat) else tWhat):=by
 have hn:=(vS_iff.1 (vC_parts hc).1).1
 refine E.congr (fun k=>zf32.eq (k 0) c r) (E.bind (isNum_E r) ?_)
 by_cases h:0≤numV 9999999 r
 ·rw[if_pos h,decide_eq_true h]
  have ew:wrap64 ((c.1.length:Int)-1)=((c.1.length-1:Nat):Int):=by rw[wrap_id (by omega) (by omega)];omega
  have h1:=implNum_E r (c.1.length-1) hr (by omega)
  obtain ⟨n,hnn,e,ev⟩:∃n:Nat,n≤9999999∧r=decT n∧numV 9999999 r=(n:Int):=by
   rcases numV_P 9999999 r with ⟨n,a,b,d⟩ | ⟨_,e⟩
   ·exact ⟨n,a,b,d⟩
   ·omega
  rw[ev,ew]
  refine E.neg (by decide) ?_
  by_cases hge:(n:Int)≥(c.1.length:Int)
  ·have hm:numV (c.1.length-1) r=-1:=by
    rcases numV_P (c.1.length-1) r with ⟨m,a,b,_⟩ | ⟨_,e'⟩
    ·have:=decT_inj (b.symm.trans e)
     omega
    ·exact e'
   rw[hm] at h1
   rw[if_pos hge]
   exact E.bind h1 (E.pos (by decide) (E.now _))
  ·have hm:numV (c.1.length-1) r=(n:Int):=by rw[e];exact numV_dec (by omega)
   have hs:=stake_mem hc n (by omega)
   rw[hm] at h1
   rw[if_neg hge,Int.toNat_natCast]
   refine E.bind h1 (E.neg (by omega) (E.pos (by omega) (E.pos (by omega) ?_)))
   rw[Int.toNat_natCast]
   exact E.bind (showMoney_E hs.1 (by omega)) (E.now _)
 ·rw[if_neg h,decide_eq_false h]
  exact E.pos rfl (E.now _)
theorem implAns_E {c:Clb} (hc:vC c=true) (w:ByteArray) (hw:w.size≤300000000):E (fun k=>zf31 (k 0) (c,w)) (ansT c w):=by
 have hcut:=cutP_E w
 refine E.congr (fun k=>zf31.eq (k 0) c w) (E.bind hcut ?_)
 unfold ansT
 by_cases h:preS w
 ·rw[if_pos h,if_pos h]
  have hr:(restS w).size≤400000000:=by unfold restS;rw[ByteArray.size_extract];omega
  exact E.pos rfl (E.bind (implStake_E hc (restS w) hr) (E.now _))
 ·rw[if_neg h,if_neg h]
  exact E.neg (fun h'=>by cases (show false=true from h')) (implSw_E hc w)
theorem splitB_two {c:UInt8}:∀{l a b:List UInt8} {t:List (List UInt8)},splitB c l=a::b::t→∃m,l=a++c::m∧splitB c m=b::t
 | [],a,b,t,h=>by simp[splitB] at h
 | x::l,a,b,t,h=>by
  rw[splitB] at h
  by_cases hx:x=c
  ·rw[if_pos hx] at h
   obtain ⟨h1,h2⟩:=List.cons.inj h
   exact ⟨l,by rw[←h1,hx];rfl,h2⟩
  ·rw[if_neg hx] at h
   cases hs:splitB c l with
   | nil=>exact absurd hs (splitB_ne _ _)
   | cons y z=>
    rw[hs] at h
    obtain ⟨h1,h2⟩:=List.cons.inj h
    rw[h2] at hs
    obtain ⟨m,k1,k2⟩:=splitB_two hs
    exact ⟨m,by rw[←h1,k1];rfl,k2⟩
theorem pre_list {w:ByteArray} (h:preS w):w.data.toList=tStake.data.toList++32::(restS w).data.toList:=by
 have h1:(w.data.toList.drop 0).take (6-0)=tStakeS.data.toList:=by rw[←ext_list,h.2]
 have h2:(restS w).data.toList=w.data.toList.drop 6:=by
  unfold restS
  rw[ext_list]
  have:w.size-6=(w.data.toList.drop 6).length:=by rw[List.length_drop,ba_size]
  rw[this,List.take_length]
 have e:tStake.data.toList++32::(restS w).data.toList=tStakeS.data.toList++w.data.toList.drop 6:=by rw[h2];rfl
 rw[e,←h1,List.drop_zero,Nat.sub_zero,List.take_append_drop]
theorem pre_of {w:ByteArray} {m:List UInt8} (h:w.data.toList=tStake.data.toList++32::m):preS w:=by
 have e:w.data.toList=tStakeS.data.toList++m:=by rw[h];rfl
 have q:tStakeS.data.toList.length=6:=rfl
 refine ⟨by rw[ba_size,e,List.length_append,q];omega,ba_ext ?_⟩
 rw[ext_list,e,List.drop_zero,Nat.sub_zero,List.take_left' q]
theorem pre_words {w:ByteArray} (h:preS w):wordsT w=tStake::wordsT (restS w):=by
 have hn:(32:UInt8) ∉ tStake.data.toList:=by decide
 unfold wordsT
 rw[pre_list h,splitB_at hn,List.map_cons,mkB_of]
theorem sw_what {w:ByteArray} (c:Clb) (h:preS w):swT c w=tWhat:=by
 unfold swT
 rw[if_neg (fun e=>by rw[e] at h;exact absurd h (by decide)),if_neg (fun e=>by rw[e] at h;exact absurd h (by decide)),if_neg (fun e=>by rw[e] at h;exact absurd h (by decide)),if_neg (fun e=>by rw[e] at h;exact absurd h (by decide)),if_neg (fun e=>by rw[e] at h;exact absurd h (by decide)),if_neg (fun e=>by rw[e] at h;exact absurd h (by decide))]
theorem specAns_E {c:Clb} (hc:vC c=true) (w:ByteArray) (hw:w.size≤300000000):E (fun k=>zf89 (k 0) (c,w)) (ansT c w):=by
 have sw:=specSw_E hc w
 have hn:=(vS_iff.1 (vC_parts hc).1).1
 have hsp:E (fun k=>zf132 (k 0) (w,32)) (wordsT w):=specSplit_E w 32 (by omega)
 have hwl:=words_length w
 have hok:=words_ok (s:=w) (by omega)
 refine E.congr (fun k=>zf89.eq (k 0) c w) (E.bind hsp ?_)
 by_cases h2:((wordsT w).length:Int)=2
 ·by_cases hst:(wordsT w).getD 0 ByteArray.empty=tStake
  ·obtain ⟨w1,hws⟩:∃w1,wordsT w=[tStake,w1]:=by
    match hq:wordsT w,h2 with
    | [a,b],_=>rw[hq] at hst;exact ⟨b,by rw[←hst];rfl⟩
   have hpre:preS w:=by
    have hw2:=hws
    unfold wordsT at hw2
    match hs:splitB 32 w.data.toList,hw2 with
    | [a,b],hw2=>
     obtain ⟨m,k1,_⟩:=splitB_two hs
     have ha:a=tStake.data.toList:=by
      have:=(List.cons.inj hw2).1
      rw[←this,mkB_list]
     rw[ha] at k1
     exact pre_of k1
   have hr1:w1=restS w:=by
    have h3:=pre_words hpre
    rw[hws] at h3
    have h4:=(List.cons.inj h3).2
    have h5:=words_length (restS w)
    rw[←h4] at h5
    have h6:(32:UInt8) ∉ (restS w).data.toList:=List.count_eq_zero.1 (by simpa using h5.symm)
    have h7:wordsT (restS w)=[restS w]:=by unfold wordsT;rw[splitB_none h6];simp[mkB_of]
    rw[h7] at h4
    exact (List.cons.inj h4).1
   have hz:w1.size≤400000000:=hok.2 w1 (by rw[hws];simp)
   have hnum:=specNumR_E w1 hz
   have hg1:(wordsT w).getD 1 ByteArray.empty=w1:=by rw[hws];rfl
   have hlen:((wordsT w).length:Int)=2:=h2
   unfold ansT
   rw[if_pos hpre,←hr1]
   refine E.pos h2 (E.pos (by omega) (E.pos hst (E.pos (by omega) ?_)))
   rw[hg1]
   refine E.bind hnum ?_
   by_cases hpos:0≤numV 9999999 w1
   ·rw[if_pos hpos]
    refine E.pos hpos (E.pos (by omega) (E.bind hnum ?_))
    by_cases hge:numV 9999999 w1≥(c.1.length:Int)
    ·rw[if_pos hge];exact E.pos hge (E.now _)
    ·rw[if_neg hge]
     have hs:=stake_mem hc (numV 9999999 w1).toNat (by omega)
     exact E.neg hge (E.pos (by omega) (E.bind hnum (E.pos hpos (E.pos (by omega) (E.bind (specMoney_E hs.1 (by omega)) (E.now _))))))
   ·rw[if_neg hpos,←sw_what c hpre]
    exact E.neg hpos sw
  ·have hnp:¬preS w:=fun hp=>hst (by rw[pre_words hp];rfl)
   unfold ansT
   rw[if_neg hnp]
   exact E.pos h2 (E.pos (by omega) (E.neg hst sw))
 ·unfold ansT
  by_cases hpre:preS w
  ·have hneg:¬0≤numV 9999999 (restS w):=fun hp=>by
    rcases numV_P 9999999 (restS w) with ⟨n,_,e,_⟩ | ⟨_,e⟩
    ·have h7:wordsT (restS w)=[restS w]:=by
      unfold wordsT
      rw[splitB_none (by rw[e];exact nosp_dec n)]
      simp[mkB_of]
     rw[pre_words hpre,h7] at h2
     exact h2 rfl
    ·omega
   rw[if_pos hpre,if_neg hneg,←sw_what c hpre]
   exact E.neg h2 sw
  ·rw[if_neg hpre]
   exact E.neg h2 sw
end Go.Proofs.YtbgamdkmlikgjaaGreatDoorG
end
section
set_option linter.unusedVariables false
namespace Go.Proofs.YtbgamdkmlikgjaaGreatDoorG
open Go Go.Refl Go.Refl.Math Go.RowKit
def tClosed:ByteArray:={ data:=#[(99:UInt8),(108:UInt8),(111:UInt8),(115:UInt8),(101:UInt8),(100:UInt8)] }
noncomputable def rowA (ok:Bool) (c:Clb) (w:ByteArray):ByteArray:=if ok=true then ansT c w else tClosed
noncomputable def rowT (ok:Bool) (c:Clb):List ByteArray→ByteArray
 | []=>ByteArray.empty
 | w::ws=>rowA ok c w++nlT++rowT ok c ws
theorem swT_size {c:Clb} (hc:vC c=true) (w:ByteArray):(swT c w).size≤20000:=by
 obtain ⟨hs,hv,hb⟩:=vC_parts hc
 have hl:=(vLs_iff.1 hv).1
 have hf:=weak_facts hc
 have s1:=monT_size c.2.2.1.toNat
 have s2:=decT_sz c.2.1.length
 have s3:=decT_sz c.2.2.2.2.toNat
 have s4:=monT_size (-c.2.2.2.1).toNat
 have s5:=monT_size c.2.2.2.1.toNat
 have s6:=decT_sz ((riskC c.1 c.2.1).getD 0 0).toNat
 have q1:tDash.size=1:=rfl
 have q2:tYes.size=3:=rfl
 have q3:tNo.size=2:=rfl
 have q4:tWhat.size=4:=rfl
 unfold swT
 refine size_if (fun _=>by omega) (fun _=>size_if (fun _=>by omega) (fun _=>size_if (fun _=>by omega) (fun _=>size_if (fun _=>size_if (fun _=>?_) (fun _=>by omega)) (fun _=>size_if (fun _=>size_if (fun _=>by omega) (fun _=>by omega)) (fun _=>size_if (fun _=>by omega) (fun _=>by omega))))))
 rw[ByteArray.size_append];omega
theorem ansT_size {c:Clb} (hc:vC c=true) (w:ByteArray):(ansT c w).size≤20000:=by
 have q1:tNone.size=4:=rfl
 have q2:tWhat.size=4:=rfl
 unfold ansT
 refine size_if (fun _=>size_if (fun h=>size_if (fun _=>by omega) (fun h2=>?_)) (fun _=>by omega)) (fun _=>swT_size hc w)
 have hs:=stake_mem hc (numV 9999999 (restS w)).toNat (by omega)
 have:=monT_size (c.1.getD (numV 9999999 (restS w)).toNat 0).toNat
 omega
theorem rowA_size {ok:Bool} {c:Clb} (hc:ok=true→vC c=true) (w:ByteArray):(rowA ok c w).size≤20000:=by
 unfold rowA
 have q:tClosed.size=6:=rfl
 exact size_if (fun h=>ansT_size (hc h) w) (fun _=>by omega)
theorem implDesk_l6 {ok:Bool} {c:Clb} (hc:ok=true→vC c=true):∀(post pre:List ByteArray) (acc:ByteArray),(∀w ∈ post,w.size≤300000000)→(pre++post).length≤1000→acc.size+30000*post.length≤100000000 →
  E (fun k=>zf23.l6 (k 0) (k 1) ok (pre++post) ((pre++post).length:Int) (pre.length:Int) c.1 c.2.1 c.2.2.1 c.2.2.2.1 c.2.2.2.2 (bytesI acc)) (acc++rowT ok c post)
 | [],pre,acc,hw,hl,hs=>by
  refine E.step 1 (fun v w h1 h2=>by rewrite [h1,h2 0 (by decide)];exact zf23.l6_succ ..) ?_
  exact E.neg (by simp) (E.bind (string_E acc) (E.now' (by rw[rowT,ByteArray.append_empty])))
 | w::post,pre,acc,hw,hl,hs=>by
  have hlen:(pre++w::post).length=pre.length+(post.length+1):=by simp
  have hz:=rowA_size hc w
  have q1:ByteArray.size { data:=#[(10:UInt8)] }=1:=rfl
  simp only[List.length_cons] at hs
  have ih:=implDesk_l6 hc post (pre++[w]) (acc++rowA ok c w++nlT) (fun x hx=>hw x (List.mem_cons_of_mem _ hx)) (by simpa using hl) (by simp only[ByteArray.size_append,nlT_size];omega)
  rw[show (pre++[w]).length=pre.length+1 from by simp,List.append_assoc,bytesI_append,bytesI_append] at ih
  have fin:acc++rowA ok c w++nlT++rowT ok c post=acc++rowT ok c (w::post):=by rw[rowT];simp only[ByteArray.append_assoc]
  rw[fin] at ih
  refine E.step 1 (fun v w h1 h2=>by rewrite [h1,h2 0 (by decide)];exact zf23.l6_succ ..) ?_
  simp only[Int.toNat_natCast,getD_mid]
  rw[wrap_nat (by omega)]
  refine E.pos (by omega) (E.pos (by omega) (E.pos (by omega) ?_))
  cases ok with
  | true=>
   have ha:rowA true c w=ansT c w:=if_pos rfl
   rw[ha] at ih hz
   have han:=implAns_E (hc rfl) w (hw w (List.mem_cons_self ..))
   refine E.pos rfl (E.bind han (E.bind (write_E (by rw[bytesI_len];omega)) (E.bind (write_E ?_) ih)))
   rw[List.length_append,bytesI_len,bytesI_len,q1];omega
  | false=>
   have ha:rowA false c w=tClosed:=if_neg (by decide)
   have hq:tClosed.size=6:=rfl
   rw[ha] at ih
   refine E.neg (by decide) (E.bind (write_E (s:=tClosed) (by rw[bytesI_len,hq];omega)) (E.bind (write_E ?_) ih))
   rw[List.length_append,bytesI_len,bytesI_len,q1,hq];omega
theorem specDesk_l6 {ok:Bool} {c:Clb} (hc:ok=true→vC c=true):∀(post pre:List ByteArray) (acc:ByteArray),(∀w ∈ post,w.size≤300000000)→(pre++post).length≤1000→acc.size+30000*post.length≤100000000 →
  E (fun k=>zf87.l6 (k 0) (k 1) (pre++post) ok acc (pre.length:Int) c.1 c.2.1 c.2.2.1 c.2.2.2.1 c.2.2.2.2) (acc++rowT ok c post)
 | [],pre,acc,hw,hl,hs=>by
  refine E.step 1 (fun v w h1 h2=>by rewrite [h1,h2 0 (by decide)];exact zf87.l6_succ ..) ?_
  exact E.neg (by simp) (E.now' (by rw[rowT,ByteArray.append_empty]))
 | w::post,pre,acc,hw,hl,hs=>by
  have hlen:(pre++w::post).length=pre.length+(post.length+1):=by simp
  have hz:=rowA_size hc w
  have q1:ByteArray.size { data:=#[(10:UInt8)] }=1:=rfl
  simp only[List.length_cons] at hs
  have ih:=specDesk_l6 hc post (pre++[w]) (acc++rowA ok c w++nlT) (fun x hx=>hw x (List.mem_cons_of_mem _ hx)) (by simpa using hl) (by simp only[ByteArray.size_append,nlT_size];omega)
  rw[show (pre++[w]).length=pre.length+1 from by simp,List.append_assoc] at ih
  have fin:acc++rowA ok c w++nlT++rowT ok c post=acc++rowT ok c (w::post):=by rw[rowT];simp only[ByteArray.append_assoc]
  rw[fin] at ih
  refine E.step 1 (fun v w h1 h2=>by rewrite [h1,h2 0 (by decide)];exact zf87.l6_succ ..) ?_
  simp only[Int.toNat_natCast,getD_mid]
  rw[wrap_nat (by omega)]
  refine E.pos (by omega) ?_
  cases ok with
  | true=>
   have ha:rowA true c w=ansT c w:=if_pos rfl
   rw[ha] at ih hz
   have han:=specAns_E (hc rfl) w (hw w (List.mem_cons_self ..))
   refine E.pos rfl (E.pos (by omega) (E.pos (by omega) (E.bind han (E.pos (by simp only[maxN];omega) (E.pos ?_ ih)))))
   rw[ByteArray.size_append,q1];simp only[maxN];omega
  | false=>
   have ha:rowA false c w=tClosed:=if_neg (by decide)
   have hq:ByteArray.size { data:=#[(99:UInt8),(108:UInt8),(111:UInt8),(115:UInt8),(101:UInt8),(100:UInt8),(10:UInt8)] }=7:=rfl
   have hcl:acc++{ data:=#[(99:UInt8),(108:UInt8),(111:UInt8),(115:UInt8),(101:UInt8),(100:UInt8),(10:UInt8)] }=acc++tClosed++nlT:=by
    rw[ByteArray.append_assoc]
    congr 1
   rw[ha,←hcl] at ih
   exact E.neg (by decide) (E.pos (by rw[hq];simp only[maxN];omega) ih)
noncomputable def rdesk (c:Clb) (book:ByteArray) (lines:List ByteArray):ByteArray:=
 if vC c=true∧lines.length≤20 then rowT (tellC (runV c (recT book))).2 (tellC (runV c (recT book))).1 lines else ByteArray.empty
theorem tell_ok (c:Clb) (l:List Ev7):(tellC (runV c l)).2=true→vC (tellC (runV c l)).1=true:=by
 cases h:runV c l with
 | none=>intro q;cases q
 | some d=>intro _;exact (runV_valid h).2.2.2
theorem implDesk_E (c:Clb) (book:ByteArray) (lines:List ByteArray) (hb:book.size≤1048576) (hw:∀w ∈ lines,w.size≤300000000):E (fun k=>zf23 (k 0) (c,book,lines)) (rdesk c book lines):=by
 refine E.congr (fun k=>zf23.eq (k 0) c book lines) (E.bind (implValidClub_E c) ?_)
 unfold rdesk
 by_cases hv:vC c=true
 ·by_cases hl:lines.length≤20
  ·rw[if_pos ⟨hv,hl⟩]
   have hrun:=implRun_E c (recT book) (recT_evs hb)
   have ht:=tell_ok c (recT book)
   generalize tellC (runV c (recT book))=t at hrun ht
   obtain ⟨d,ok⟩:=t
   have hlp:=implDesk_l6 (ok:=ok) (c:=d) ht lines [] ByteArray.empty hw (by simp;omega) (by show 0+_≤_;omega)
   rw[ByteArray.empty_append] at hlp
   rw[hv]
   exact E.neg (by decide) (E.neg (by omega) (E.bind (implRec_E book (by omega)) (E.bind hrun (E.ren (fun _=>0) hlp))))
  ·rw[if_neg (fun h=>hl h.2),hv]
   exact E.neg (by decide) (E.pos (by omega) (E.now _))
 ·have hv':vC c=false:=by simpa using hv
  rw[if_neg (fun h=>hv h.1),hv']
  exact E.pos rfl (E.now _)
theorem specDesk_E (c:Clb) (hs:Small c) (book:ByteArray) (lines:List ByteArray) (hb:book.size≤1048576) (hw:∀w ∈ lines,w.size≤300000000):E (fun k=>zf87 (k 0) (c,book,lines)) (rdesk c book lines):=by
 refine E.congr (fun k=>zf87.eq (k 0) c book lines) ?_
 unfold rdesk
 by_cases hl:lines.length≤20
 ·by_cases hv:vC c=true
  ·rw[if_pos ⟨hv,hl⟩]
   have hvc:=specValidClub_E c hs.1 hs.2
   have hrun:=specRun1_E c (recT book) (recT_evs hb) (by have:=recT_len book;omega) hv
   have hr:runV c (recT book)=runC c (recT book):=by unfold runV;rw[if_pos hv,if_pos (recT_len book)]
   rw[←hr] at hrun
   have ht:=tell_ok c (recT book)
   generalize tellC (runV c (recT book))=t at hrun ht
   obtain ⟨d,ok⟩:=t
   have hlp:=specDesk_l6 (ok:=ok) (c:=d) ht lines [] ByteArray.empty hw (by simp;omega) (by show 0+_≤_;omega)
   rw[ByteArray.empty_append] at hlp
   rw[hv] at hvc
   exact E.neg (by omega) (E.bind hvc (E.neg (by decide) (E.bind (specRec_E book (by omega)) (E.bind hrun (E.ren (fun _=>0) hlp)))))
  ·have hv':vC c=false:=by simpa using hv
   have hvc:=specValidClub_E c hs.1 hs.2
   rw[hv'] at hvc
   rw[if_neg (fun h=>hv h.1)]
   exact E.neg (by omega) (E.bind hvc (E.pos rfl (E.now _)))
 ·rw[if_neg (fun h=>hl h.2)]
  exact E.pos (by omega) (E.now _)
end Go.Proofs.YtbgamdkmlikgjaaGreatDoorG
end
section
set_option linter.unusedVariables false
namespace Go.Proofs.YtbgamdkmlikgjaaGreatDoorG
open Go Go.Refl Go.Refl.Math Go.RowKit
theorem szLn_E (e:Ln) (left:Int) (h1:-9223372036854775808≤left-(e.2.2.length:Int)) (h2:left≤9000000000000000000):E (fun k=>zf64 (k 0) (e,left)) (if left-(e.2.2.length:Int)<0 then -1 else left-(e.2.2.length:Int)):=by
 refine E.congr (fun k=>zf64.eq (k 0) e left) (E.bind (szI_E _ left h1 h2) (E.ite (fun h=>E.now' ?_) (fun h=>E.now _)))
 by_cases q:left-(e.2.2.length:Int)<0
 ·rw[if_pos q]
 ·rw[if_neg q] at h;exact absurd h q
theorem szLns_l5:∀(post pre:List Ln) (left:Int),(pre++post).length<1000000000→0≤left→left≤1048576→(∀e ∈ post,(e.2.2.length:Int)≤9223372036854775807) →
  ∃r,E (fun k=>zf65.l5 (k 0) (k 1) (pre++post) left (pre.length:Int)) r∧(0≤r→r≤1048576∧∀e ∈ post,e.2.2.length≤1048576)
 | [],pre,left,hl,h0,h1,hw=>by
  refine ⟨left,?_,fun _=>⟨h1,fun e he=>by cases he⟩⟩
  refine E.step 1 (fun v w h1 h2=>by rewrite [h1,h2 0 (by decide)];exact zf65.l5_succ ..) ?_
  exact E.neg (by simp) (E.now _)
 | e::post,pre,left,hl,h0,h1,hw=>by
  have hlen:(pre++e::post).length=pre.length+(post.length+1):=by simp
  have he:=hw e (List.mem_cons_self ..)
  have sz:=szLn_E e left (by omega) (by omega)
  by_cases q:left-(e.2.2.length:Int)<0
  ·rw[if_pos q] at sz
   refine ⟨-1,?_,fun h=>by omega⟩
   refine E.step 1 (fun v w h1 h2=>by rewrite [h1,h2 0 (by decide)];exact zf65.l5_succ ..) ?_
   simp only[Int.toNat_natCast,getD_mid]
   exact E.pos (by omega) (E.pos (by omega) (E.pos (by omega) (E.bind sz (E.pos (by decide) (E.now _)))))
  ·rw[if_neg q] at sz
   obtain ⟨r,hr,hb⟩:=szLns_l5 post (pre++[e]) (left-(e.2.2.length:Int)) (by simpa using hl) (by omega) (by omega) (fun x hx=>hw x (List.mem_cons_of_mem _ hx))
   rw[show (pre++[e]).length=pre.length+1 from by simp,List.append_assoc] at hr
   refine ⟨r,?_,fun h=>⟨(hb h).1,fun x hx=>?_⟩⟩
   ·refine E.step 1 (fun v w h1 h2=>by rewrite [h1,h2 0 (by decide)];exact zf65.l5_succ ..) ?_
    simp only[Int.toNat_natCast,getD_mid]
    rw[wrap_nat (by omega)]
    exact E.pos (by omega) (E.pos (by omega) (E.pos (by omega) (E.bind sz (E.neg q hr))))
   ·rcases List.mem_cons.1 hx with rfl | hx
    ·omega
    ·exact (hb h).2 x hx
theorem szLns_E (l:List Ln) (left:Int) (h0:0≤left) (h1:left≤1048576) (hl:(l.length:Int)≤9223372036854775807) (hw:∀e ∈ l,(e.2.2.length:Int)≤9223372036854775807) :
  ∃r,E (fun k=>zf65 (k 0) (l,left)) r∧(0≤r→r≤1048576∧l.length≤1048576∧∀e ∈ l,e.2.2.length≤1048576):=by
 have w:wrap64 (left-(l.length:Int))=left-(l.length:Int):=wrap_id (by omega) (by omega)
 by_cases q:left-(l.length:Int)<0
 ·refine ⟨-1,E.congr (fun k=>zf65.eq (k 0) l left) ?_,fun h=>by omega⟩
  rw[w]
  exact E.pos q (E.now _)
 ·obtain ⟨r,hr,hb⟩:=szLns_l5 l [] (left-(l.length:Int)) (by simp;omega) (by omega) (by omega) hw
  refine ⟨r,E.congr (fun k=>zf65.eq (k 0) l left) ?_,fun h=>⟨(hb h).1,by omega,(hb h).2⟩⟩
  rw[w]
  exact E.neg q (E.ren (fun _=>0) hr)
theorem szClb_E (c:Clb) (hs:(c.1.length:Int)≤9223372036854775807) (hl:(c.2.1.length:Int)≤9223372036854775807) (hw:∀e ∈ c.2.1,(e.2.2.length:Int)≤9223372036854775807) :
  ∃r,E (fun k=>zf62 (k 0) (c,1048576)) r∧(0≤r→r≤1048576∧c.1.length≤1048576∧c.2.1.length≤1048576∧∀e ∈ c.2.1,e.2.2.length≤1048576):=by
 have sz:=szI_E c.1 1048576 (by omega) (by omega)
 by_cases q:(1048576:Int)-(c.1.length:Int)<0
 ·rw[if_pos q] at sz
  exact ⟨-1,E.congr (fun k=>zf62.eq (k 0) c 1048576) (E.bind sz (E.pos (by decide) (E.now _))),fun h=>by omega⟩
 ·rw[if_neg q] at sz
  obtain ⟨r,hr,hb⟩:=szLns_E c.2.1 (1048576-(c.1.length:Int)) (by omega) (by omega) hl hw
  by_cases q2:r<0
  ·exact ⟨-1,E.congr (fun k=>zf62.eq (k 0) c 1048576) (E.bind sz (E.neg q (E.bind hr (E.pos q2 (E.now _))))),fun h=>by omega⟩
  ·exact ⟨r,E.congr (fun k=>zf62.eq (k 0) c 1048576) (E.bind sz (E.neg q (E.bind hr (E.neg q2 (E.now _))))),fun h=>⟨(hb h).1,by omega,(hb h).2.1,(hb h).2.2⟩⟩
theorem szStrs_l5:∀(post pre:List ByteArray) (left:Int),(pre++post).length<1000000000→0≤left→left≤1048576→(∀e ∈ post,(e.size:Int)≤9223372036854775807) →
  ∃r,E (fun k=>zf66.l5 (k 0) (k 1) (pre++post) left (pre.length:Int)) r∧(0≤r→∀e ∈ post,e.size≤1048576)
 | [],pre,left,hl,h0,h1,hw=>by
  refine ⟨left,?_,fun _ e he=>by cases he⟩
  refine E.step 1 (fun v w h1 h2=>by rewrite [h1,h2 0 (by decide)];exact zf66.l5_succ ..) ?_
  exact E.neg (by simp) (E.now _)
 | e::post,pre,left,hl,h0,h1,hw=>by
  have hlen:(pre++e::post).length=pre.length+(post.length+1):=by simp
  have he:=hw e (List.mem_cons_self ..)
  have w:wrap64 (left-(e.size:Int))=left-(e.size:Int):=wrap_id (by omega) (by omega)
  by_cases q:left-(e.size:Int)<0
  ·refine ⟨-1,?_,fun h=>by omega⟩
   refine E.step 1 (fun v w h1 h2=>by rewrite [h1,h2 0 (by decide)];exact zf66.l5_succ ..) ?_
   simp only[Int.toNat_natCast,getD_mid]
   rw[w]
   exact E.pos (by omega) (E.pos (by omega) (E.pos (by omega) (E.pos q (E.now _))))
  ·obtain ⟨r,hr,hb⟩:=szStrs_l5 post (pre++[e]) (left-(e.size:Int)) (by simpa using hl) (by omega) (by omega) (fun x hx=>hw x (List.mem_cons_of_mem _ hx))
   rw[show (pre++[e]).length=pre.length+1 from by simp,List.append_assoc] at hr
   refine ⟨r,?_,fun h x hx=>?_⟩
   ·refine E.step 1 (fun v w h1 h2=>by rewrite [h1,h2 0 (by decide)];exact zf66.l5_succ ..) ?_
    simp only[Int.toNat_natCast,getD_mid]
    rw[wrap_nat (by omega),w]
    exact E.pos (by omega) (E.pos (by omega) (E.pos (by omega) (E.neg q hr)))
   ·rcases List.mem_cons.1 hx with rfl | hx
    ·omega
    ·exact hb h x hx
theorem szStrs_E (l:List ByteArray) (left:Int) (h0:0≤left) (h1:left≤1048576) (hl:(l.length:Int)≤9223372036854775807) (hw:∀e ∈ l,(e.size:Int)≤9223372036854775807) :
  ∃r,E (fun k=>zf66 (k 0) (l,left)) r∧(0≤r→l.length≤1048576∧∀e ∈ l,e.size≤1048576):=by
 have w:wrap64 (left-(l.length:Int))=left-(l.length:Int):=wrap_id (by omega) (by omega)
 by_cases q:left-(l.length:Int)<0
 ·refine ⟨-1,E.congr (fun k=>zf66.eq (k 0) l left) ?_,fun h=>by omega⟩
  rw[w]
  exact E.pos q (E.now _)
 ·obtain ⟨r,hr,hb⟩:=szStrs_l5 l [] (left-(l.length:Int)) (by simp;omega) (by omega) (by omega) hw
  refine ⟨r,E.congr (fun k=>zf66.eq (k 0) l left) ?_,fun h=>⟨by omega,hb h⟩⟩
  rw[w]
  exact E.neg q (E.ren (fun _=>0) hr)
theorem toLn_E (e:Ln) (hl:e.2.2.length<1000000000):E (fun k=>zf69 (k 0) e) e:=
 E.congr (fun k=>zf69.eq (k 0) e) (E.bind (toI_E _ hl) (E.now' rfl))
abbrev zLn0:Ln:=(0,0,[])
theorem toLns_l3:∀(post pre:List Ln) (m:Nat),post.length=m→(pre++post).length<1000000000→(∀e ∈ post,e.2.2.length<1000000000) →
  E (fun k=>zf70.l3 (k 0) (k 1) (pre++post) (pre.length:Int) (pre++List.replicate m zLn0)) (pre++post)
 | [],pre,m,hm,hl,_=>by
  have hm0:m=0:=by simpa using hm.symm
  subst hm0
  refine E.step 1 (fun v w h1 h2=>by rewrite [h1,h2 0 (by decide)];exact zf70.l3_succ ..) ?_
  exact E.neg (by simp) (E.now' (by simp))
 | x::post,pre,0,hm,hl,_=>by simp at hm
 | x::post,pre,m+1,hm,hl,hv=>by
  have hlen:(pre++x::post).length=pre.length+(post.length+1):=by simp
  have ih:=toLns_l3 post (pre++[x]) m (by simpa using hm) (by simpa using hl) (fun y hy=>hv y (List.mem_cons_of_mem _ hy))
  rw[show (pre++[x]).length=pre.length+1 from by simp,List.append_assoc] at ih
  have hlr:(pre++List.replicate (m+1) zLn0).length=pre.length+(m+1):=by simp
  have hset:(pre++List.replicate (m+1) zLn0).set pre.length x=(pre++[x])++List.replicate m zLn0:=by rw[List.replicate_succ];simp
  refine E.step 1 (fun v w h1 h2=>by rewrite [h1,h2 0 (by decide)];exact zf70.l3_succ ..) ?_
  simp only[Int.toNat_natCast,getD_mid]
  rw[wrap_nat (by omega)]
  exact E.pos (by omega) (E.pos (by omega) (E.pos (by omega) (E.bind (toLn_E x (hv x (List.mem_cons_self ..))) (E.pos (by omega) (E.pos (by omega) (by rw[hset];simpa using ih))))))
theorem toLns_E (l:List Ln) (hl:l.length<1000000000) (hv:∀e ∈ l,e.2.2.length<1000000000):E (fun k=>zf70 (k 0) l) l:=by
 have:=toLns_l3 l [] l.length rfl (by simpa using hl) hv
 refine E.congr (fun k=>zf70.eq (k 0) l) (E.pos (by omega) (E.pos (by omega) (E.pos (by simp[maxN];omega) ?_)))
 rw[Int.toNat_natCast]
 exact E.ren (fun _=>0) this
theorem toClb_E (c:Clb) (hs:c.1.length<1000000000) (hl:c.2.1.length<1000000000) (hv:∀e ∈ c.2.1,e.2.2.length<1000000000):E (fun k=>zf67 (k 0) c) c:=
 E.congr (fun k=>zf67.eq (k 0) c) (E.bind (toI_E _ hs) (E.bind (toLns_E _ hl hv) (E.now' rfl)))
theorem toStrs_l3:∀(post pre:List ByteArray) (m:Nat),post.length=m→(pre++post).length<1000000000 →
  E (fun k=>zf71.l3 (k 0) (k 1) (pre++post) (pre.length:Int) (pre++List.replicate m ByteArray.empty)) (pre++post)
 | [],pre,m,hm,hl=>by
  have hm0:m=0:=by simpa using hm.symm
  subst hm0
  refine E.step 1 (fun v w h1 h2=>by rewrite [h1,h2 0 (by decide)];exact zf71.l3_succ ..) ?_
  exact E.neg (by simp) (E.now' (by simp))
 | x::post,pre,0,hm,hl=>by simp at hm
 | x::post,pre,m+1,hm,hl=>by
  have hlen:(pre++x::post).length=pre.length+(post.length+1):=by simp
  have ih:=toStrs_l3 post (pre++[x]) m (by simpa using hm) (by simpa using hl)
  rw[show (pre++[x]).length=pre.length+1 from by simp,List.append_assoc] at ih
  have hlr:(pre++List.replicate (m+1) ByteArray.empty).length=pre.length+(m+1):=by simp
  have hset:(pre++List.replicate (m+1) ByteArray.empty).set pre.length x=(pre++[x])++List.replicate m ByteArray.empty:=by rw[List.replicate_succ];simp
  refine E.step 1 (fun v w h1 h2=>by rewrite [h1,h2 0 (by decide)];exact zf71.l3_succ ..) ?_
  simp only[Int.toNat_natCast,getD_mid]
  rw[wrap_nat (by omega)]
  exact E.pos (by omega) (E.pos (by omega) (E.pos (by omega) (E.pos (by omega) (E.pos (by omega) (by rw[hset];simpa using ih)))))
theorem toStrs_E (l:List ByteArray) (hl:l.length<1000000000):E (fun k=>zf71 (k 0) l) l:=by
 have:=toStrs_l3 l [] l.length rfl (by simpa using hl)
 refine E.congr (fun k=>zf71.eq (k 0) l) (E.pos (by omega) (E.pos (by omega) (E.pos (by simp[maxN];omega) ?_)))
 rw[Int.toNat_natCast]
 exact E.ren (fun _=>0) this
theorem eqLn_E (e:Ln) (hl:e.2.2.length<1000000000):E (fun k=>zf58 (k 0) (e,e)) true:=
 E.congr (fun k=>zf58.eq (k 0) e e) (E.pos (by first | exact rfl | trivial) (E.pos (by first | exact rfl | trivial) (E.bind (eqI_E _ hl) (E.neg (by decide) (E.now _)))))
theorem eqLns_l4:∀(post pre:List Ln),(pre++post).length<1000000000→(∀e ∈ post,e.2.2.length<1000000000) →
  E (fun k=>zf59.l4 (k 0) (k 1) (pre++post) (pre++post) (pre.length:Int)) true
 | [],pre,hl,_=>by
  refine E.step 1 (fun v w h1 h2=>by rewrite [h1,h2 0 (by decide)];exact zf59.l4_succ ..) ?_
  exact E.neg (by simp) (E.now _)
 | x::post,pre,hl,hv=>by
  have hlen:(pre++x::post).length=pre.length+(post.length+1):=by simp
  have ih:=eqLns_l4 post (pre++[x]) (by simpa using hl) (fun y hy=>hv y (List.mem_cons_of_mem _ hy))
  rw[show (pre++[x]).length=pre.length+1 from by simp,List.append_assoc] at ih
  refine E.step 1 (fun v w h1 h2=>by rewrite [h1,h2 0 (by decide)];exact zf59.l4_succ ..) ?_
  simp only[Int.toNat_natCast,getD_mid]
  rw[wrap_nat (by omega)]
  exact E.pos (by omega) (E.pos (by omega) (E.pos (by omega) (E.pos (by omega) (E.pos (by omega) (E.bind (eqLn_E x (hv x (List.mem_cons_self ..))) (E.neg (by decide) ih))))))
theorem eqLns_E (l:List Ln) (hl:l.length<1000000000) (hv:∀e ∈ l,e.2.2.length<1000000000):E (fun k=>zf59 (k 0) (l,l)) true:=
 E.congr (fun k=>zf59.eq (k 0) l l) (E.pos (by first | exact rfl | trivial) (E.ren (fun _=>0) (eqLns_l4 l [] (by simpa using hl) hv)))
theorem eqClb_E (c:Clb) (hs:c.1.length<1000000000) (hl:c.2.1.length<1000000000) (hv:∀e ∈ c.2.1,e.2.2.length<1000000000):E (fun k=>zf56 (k 0) (c,c)) true:=
 E.congr (fun k=>zf56.eq (k 0) c c) (E.bind (eqI_E _ hs) (E.neg (by decide) (E.bind (eqLns_E _ hl hv) (E.neg (by decide) (E.pos (by first | exact rfl | trivial) (E.pos (by first | exact rfl | trivial) (E.pos (by first | exact rfl | trivial) (E.now _))))))))
theorem eqStrs_l4:∀(post pre:List ByteArray),(pre++post).length<1000000000 →
  E (fun k=>zf60.l4 (k 0) (k 1) (pre++post) (pre++post) (pre.length:Int)) true
 | [],pre,hl=>by
  refine E.step 1 (fun v w h1 h2=>by rewrite [h1,h2 0 (by decide)];exact zf60.l4_succ ..) ?_
  exact E.neg (by simp) (E.now _)
 | x::post,pre,hl=>by
  have hlen:(pre++x::post).length=pre.length+(post.length+1):=by simp
  have ih:=eqStrs_l4 post (pre++[x]) (by simpa using hl)
  rw[show (pre++[x]).length=pre.length+1 from by simp,List.append_assoc] at ih
  refine E.step 1 (fun v w h1 h2=>by rewrite [h1,h2 0 (by decide)];exact zf60.l4_succ ..) ?_
  simp only[Int.toNat_natCast,getD_mid]
  rw[wrap_nat (by omega)]
  exact E.pos (by omega) (E.pos (by omega) (E.pos (by omega) (E.pos (by omega) (E.pos (by omega) (E.pos (by first | exact rfl | trivial) ih)))))
theorem eqStrs_E (l:List ByteArray) (hl:l.length<1000000000):E (fun k=>zf60 (k 0) (l,l)) true:=
 E.congr (fun k=>zf60.eq (k 0) l l) (E.pos (by first | exact rfl | trivial) (E.ren (fun _=>0) (eqStrs_l4 l [] (by simpa using hl))))
theorem FnExactRunDesk_pure (c:Clb) (t:ByteArray) (ls:List ByteArray) (hc:WfT (.pair (.slice (.int .i64)) (.pair (.slice (.pair (.int .i64) (.pair (.int .i64) (.slice (.int .i64))))) (.pair (.int .i64) (.pair (.int .i64) (.int .i64))))) c) (ht:WfT .str t) (hls:WfT (.slice .str) ls):∃n,zf53 n (c,t,ls)=some true:=by
 have m1:(c.1.length:Int)≤9223372036854775807:=by have:=hc.1.1;unfold maxLen at this;omega
 have m2:(c.2.1.length:Int)≤9223372036854775807:=by have:=hc.2.1.1;unfold maxLen at this;omega
 have m3:∀e ∈ c.2.1,(e.2.2.length:Int)≤9223372036854775807:=fun e he=>by have:=(hc.2.1.2 e he).2.2.1;unfold maxLen at this;omega
 have m4:(ls.length:Int)≤9223372036854775807:=by have:=hls.1;unfold maxLen at this;omega
 have m5:∀e ∈ ls,(e.size:Int)≤9223372036854775807:=fun e he=>by
  have:e.size≤maxLen:=hls.2 e he
  unfold maxLen at this;omega
 refine E.one (E.congr (fun k=>zf53.eq (k 0) c t ls) (E.ite (fun h=>E.now _) (fun hsz=>?_)))
 obtain ⟨r,hr,hb⟩:=szClb_E c m1 m2 m3
 refine E.bind hr (E.ite (fun h=>E.now _) (fun h=>?_))
 obtain ⟨b0,b1,b2,b3⟩:=hb (by omega)
 obtain ⟨r2,hr2,hb2⟩:=szStrs_E ls r (by omega) b0 m4 m5
 refine E.bind hr2 (E.ite (fun h=>E.now _) (fun h2=>?_))
 obtain ⟨b4,b5⟩:=hb2 (by omega)
 have b3':∀e ∈ c.2.1,e.2.2.length<1000000000:=fun e he=>by have:=b3 e he;omega
 have tc:=toClb_E c (by omega) (by omega) b3'
 have ts:=toStrs_E ls (by omega)
 have sp:=specDesk_E c ⟨by omega,fun l hl=>by have:=b3 l hl;omega⟩ t ls (by omega) (fun w hw=>by have:=b5 w hw;omega)
 have im:=implDesk_E c t ls (by omega) (fun w hw=>by have:=b5 w hw;omega)
 have ec:=eqClb_E c (by omega) (by omega) b3'
 have es:=eqStrs_E ls (by omega)
 exact E.bind tc (E.bind ts (E.bind sp (E.bind tc (E.bind ts (E.bind im (E.pos rfl (E.bind tc (E.bind ec (E.neg (by decide) (E.bind ts (E.bind es (E.neg (by decide) (E.now _)))))))))))))
end Go.Proofs.YtbgamdkmlikgjaaGreatDoorG
end
