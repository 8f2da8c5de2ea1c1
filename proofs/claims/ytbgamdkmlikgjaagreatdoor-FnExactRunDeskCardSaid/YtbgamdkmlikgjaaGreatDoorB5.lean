import Derived.Lib.AtoiAllCases
import Derived.Test.YtbgamdkmlikgjaaGreatDoorB4
/- FnExactRunDesk: mathematics of the law. No condition. -/
set_option linter.unusedVariables false
set_option linter.unusedSimpArgs false
section
set_option linter.unusedVariables false
namespace Go.Refl.Math
open Go Go.Refl Go.RowKit
def E {α:Type} (f:(Nat→Nat)→Option α) (r:α):Prop:=∃K,∀v:Nat→Nat,(∀i,K≤v i)→f v=some r
variable {α β:Type}
theorem E.now (r:α):E (fun _=>some r) r:=⟨0,fun _ _=>rfl⟩
theorem E.now' {r r':α} (h:r=r'):E (fun _=>some r) r':=h ▸ E.now r
theorem E.is {f:(Nat→Nat)→Option α} {r r':α} (k:E f r) (h:r=r'):E f r':=h ▸ k
theorem E.congr {f g:(Nat→Nat)→Option α} {r:α} (h:∀v,f v=g v) (k:E g r):E f r:=by
 obtain ⟨K,k⟩:=k
 exact ⟨K,fun v hv=>(h v).trans (k v hv)⟩
theorem E.bind {f:(Nat→Nat)→Option α} {g:(Nat→Nat)→α→Option β} {a:α} {r:β} (h:E f a) (k:E (fun v=>g v a) r):E (fun v=>(f v).bind (g v)) r:=by
 obtain ⟨K,h⟩:=h
 obtain ⟨L,k⟩:=k
 exact ⟨max K L,fun v hv=>by
  show (f v).bind (g v)=some r
  rw[h v (fun i=>Nat.le_trans (Nat.le_max_left ..) (hv i))]
  exact k v (fun i=>Nat.le_trans (Nat.le_max_right ..) (hv i))⟩
theorem E.pos {c:Prop} [Decidable c] {f g:(Nat→Nat)→Option α} {r:α} (h:c) (k:E f r):E (fun v=>if c then f v else g v) r:=by
 obtain ⟨K,k⟩:=k
 exact ⟨K,fun v hv=>by simp only[if_pos h];exact k v hv⟩
theorem E.neg {c:Prop} [Decidable c] {f g:(Nat→Nat)→Option α} {r:α} (h:¬c) (k:E g r):E (fun v=>if c then f v else g v) r:=by
 obtain ⟨K,k⟩:=k
 exact ⟨K,fun v hv=>by simp only[if_neg h];exact k v hv⟩
theorem E.ite {c:Prop} [Decidable c] {f g:(Nat→Nat)→Option α} {r:α} (h1:c→E f r) (h2:¬c→E g r):E (fun v=>if c then f v else g v) r:=by
 by_cases h:c
 ·exact E.pos h (h1 h)
 ·exact E.neg h (h2 h)
theorem E.step (i:Nat) {f g:(Nat→Nat)→Option α} {r:α} (h:∀v w:Nat→Nat,v i=w i+1→(∀j,j≠i→v j=w j)→f v=g w) (k:E g r):E f r:=by
 obtain ⟨K,k⟩:=k
 refine ⟨K+1,fun v hv=>?_⟩
 have h1:=h v (fun j=>if j=i then v i-1 else v j) (by simp;have:=hv i;omega) (fun j hj=>by simp[hj])
 rw[h1]
 refine k _ fun j=>?_
 by_cases hj:j=i
 ·simp only[hj,if_true];have:=hv i;omega
 ·simp only[hj,if_false];have:=hv j;omega
theorem E.ren (σ:Nat→Nat) {f:(Nat→Nat)→Option α} {r:α} (k:E f r):E (fun v=>f (fun i=>v (σ i))) r:=by
 obtain ⟨K,k⟩:=k
 exact ⟨K,fun v hv=>k _ fun i=>hv (σ i)⟩
theorem E.one {f:Nat→Option α} {r:α} (k:E (fun v=>f (v 0)) r):∃n,f n=some r:=by
 obtain ⟨K,k⟩:=k
 exact ⟨K,k (fun _=>K) fun _=>Nat.le_refl _⟩
theorem wrap_id {x:Int} (h1:-9223372036854775808≤x) (h2:x≤9223372036854775807):wrap64 x=x:=by unfold wrap64;omega
theorem wrap_nat {n:Nat} (h:n<4611686018427387904):wrap64 ((n:Int)+1)=((n+1:Nat):Int):=by unfold wrap64;omega
theorem getD_mid {d:α} (pre post:List α) (x:α):(pre++x::post).getD pre.length d=x:=by
 simp[List.getD_eq_getElem?_getD]
theorem getD_mem {xs:List α} {i:Nat} (d:α) (h:i<xs.length):xs.getD i d ∈ xs:=by
 rw[List.getD_eq_getElem?_getD,List.getElem?_eq_getElem h]
 exact List.getElem_mem _
def tab (n:Nat) (h:Nat→α):List α:=(List.range n).map h
theorem tab_length (n:Nat) (h:Nat→α):(tab n h).length=n:=by simp[tab]
theorem tab_get {n i:Nat} {h:Nat→α} (d:α) (hi:i<n):(tab n h).getD i d=h i:=by
 simp[tab,List.getD_eq_getElem?_getD,hi]
theorem tab_set {n:Nat} (i:Nat) {h:Nat→α} (v:α):(tab n h).set i v=tab n (fun j=>if j=i then v else h j):=by
 apply List.ext_getElem?
 intro j
 simp only[tab,List.getElem?_set,List.getElem?_map,List.length_map,List.length_range]
 by_cases hj:j<n
 ·by_cases hij:i=j
  ·subst hij;simp[hj]
  ·simp[hj,hij,Ne.symm hij]
 ·by_cases hij:i=j
  ·subst hij;simp[hj]
  ·simp[hj,hij]
theorem tab_ext {n:Nat} {h h':Nat→α} (e:∀j,j<n→h j=h' j):tab n h=tab n h':=by
 unfold tab
 exact List.map_congr_left (fun j hj=>e j (List.mem_range.1 hj))
theorem tab_succ (n:Nat) (h:Nat→α):tab (n+1) h=tab n h++[h n]:=by simp[tab,List.range_succ]
theorem replicate_tab (n:Nat) (v:α):List.replicate n v=tab n (fun _=>v):=by
 apply List.ext_getElem?
 intro j
 simp[tab,List.getElem?_replicate]
 by_cases hj:j<n <;> simp[hj]
theorem tab_of (xs:List Int):xs=tab xs.length (fun j=>xs.getD j 0):=by
 apply List.ext_getElem?
 intro j
 by_cases hj:j<xs.length
 ·simp[tab,hj,List.getD_eq_getElem?_getD]
 ·simp[tab,hj]
theorem mem_tab {n:Nat} {h:Nat→α} {x:α}:x ∈ tab n h↔∃j,j<n∧h j=x:=by simp[tab]
def allW (xs:List Int) (lo hi:Int):Bool:=xs.all fun x=>decide (lo≤x)&&decide (x≤hi)
theorem allW_iff {xs:List Int} {lo hi:Int}:allW xs lo hi=true↔∀x ∈ xs,lo≤x∧x≤hi:=by simp[allW]
theorem allW_cons (x:Int) (xs:List Int) (lo hi:Int):allW (x::xs) lo hi=(decide (lo≤x)&&decide (x≤hi)&&allW xs lo hi):=by simp[allW]
def idxI (xs:List Int) (v:Int):Int:=if v ∈ xs then (xs.idxOf v:Int) else -1
theorem idxI_neg {xs:List Int} {v:Int}:idxI xs v<0↔v ∉ xs:=by
 unfold idxI
 by_cases h:v ∈ xs <;> simp[h]
theorem nodup_le [DecidableEq α]:∀(l m:List α),l.Nodup→(∀x ∈ l,x ∈ m)→l.length≤m.length
 | [],_,_,_=>Nat.zero_le _
 | a::t,m,hn,hs=>by
  have ha:=hs a (List.mem_cons_self ..)
  have ih:=nodup_le t (m.erase a) (List.nodup_cons.1 hn).2 (fun x hx=>(List.mem_erase_of_ne (by rintro rfl;exact (List.nodup_cons.1 hn).1 hx)).2 (hs x (List.mem_cons_of_mem _ hx)))
  rw[List.length_erase_of_mem ha] at ih
  have:=List.length_pos_of_mem ha
  simp
  omega
def sumN (f:Nat→Int):Nat→Int
 | 0=>0
 | n+1=>sumN f n+f n
def prt (x p:Int) (i:Nat):Int:=x / p+if (i:Int)<x % p then 1 else 0
theorem spl_sum (x p:Int) (h:0≤x % p) (i:Nat):sumN (prt x p) i=x / p*i+if (i:Int)<x % p then (i:Int) else x % p:=by
 induction i with
 | zero=>simp[sumN];omega
 | succ i ih=>
  simp only[sumN];rw[ih];unfold prt
  rw[show x / p*((i+1:Nat):Int)=x / p*i+x / p from by rw[Int.natCast_succ,Int.mul_add,Int.mul_one]]
  generalize x / p*i=a
  generalize x / p=b
  (repeat' split) <;> omega
theorem spl_all (x:Int) (p:Nat) (hp:0<p):sumN (prt x p) p=x:=by
 rw[spl_sum _ _ (Int.emod_nonneg _ (by omega))]
 have:=Int.emod_lt_of_pos x (show (0:Int)<p by omega)
 have e:=Int.mul_ediv_add_emod x p
 rw[if_neg (by omega),Int.mul_comm]
 exact e
theorem spl_bd {x:Int} {p:Nat} (hx:0≤x) (hp:0<p) (i:Nat):0≤prt x p i∧prt x p i≤x+1:=by
 unfold prt
 have h1:=Int.ediv_nonneg hx (show (0:Int)≤p by omega)
 have h2:=Int.ediv_le_self (b:=(p:Int)) hx
 constructor <;> split <;> omega
theorem mul_bd {a b A B:Int} (ha:0≤a) (hA:a≤A) (hb:0≤b) (hB:b≤B):0≤a*b∧a*b≤A*B:=
 ⟨Int.mul_nonneg ha hb,Int.mul_le_mul hA hB hb (by omega)⟩
end Go.Refl.Math
end
section
set_option linter.unusedVariables false
namespace Go.Proofs.YtbgamdkmlikgjaaGreatDoorG
open Go Go.Refl Go.Refl.Math Go.RowKit
theorem inRange_E (n lo hi:Int):E (fun k=>zf103 (k 0) (n,lo,hi)) (decide (lo≤n)&&decide (n≤hi)):=
 E.congr (fun k=>zf103.eq (k 0) n lo hi) (E.ite (fun h=>E.now' (by simp[h])) (fun h=>E.now' (by simp[h])))
theorem allIn_l2 (lo hi:Int):∀(post pre:List Int),(pre++post).length<4611686018427387904 →
  E (fun k=>zf88.l2 (k 0) (k 1) (pre++post) lo hi (pre.length:Int)) (allW post lo hi)
 | [],pre,_=>by
  refine E.step 1 (fun v w h1 h2=>by rewrite [h1,h2 0 (by decide)];exact zf88.l2_succ ..) ?_
  exact E.neg (by simp) (E.now' (by simp[allW]))
 | x::post,pre,hl=>by
  have ih:=allIn_l2 lo hi post (pre++[x]) (by simpa using hl)
  refine E.step 1 (fun v w h1 h2=>by rewrite [h1,h2 0 (by decide)];exact zf88.l2_succ ..) ?_
  refine E.pos (by simp;omega) (E.pos (by omega) (E.pos (by simp;omega) ?_))
  simp only[Int.toNat_natCast,getD_mid]
  rw[wrap_nat (by simp at hl;omega)]
  rw[show (pre++[x]).length=pre.length+1 from by simp,List.append_assoc] at ih
  refine E.bind (E.ren (fun _=>0) (inRange_E ..)) (E.ite (fun h=>E.now' ?_) (fun h=>E.is ih ?_))
  ·rw[allW_cons];simp only[Bool.not_eq_true'] at h;rw[h,Bool.false_and]
  ·rw[allW_cons];simp only[Bool.not_eq_true',Bool.not_eq_false] at h;rw[h,Bool.true_and]
theorem allIn_E (xs:List Int) (lo hi:Int) (hl:xs.length<4611686018427387904):E (fun k=>zf88 (k 0) (xs,lo,hi)) (allW xs lo hi):=
 E.congr (fun k=>zf88.eq (k 0) ..) (E.ren (fun _=>0) (allIn_l2 lo hi xs [] (by simpa using hl)))
def vS (xs:List Int):Bool:=decide (1≤xs.length∧xs.length≤12)&&allW xs 0 100000
theorem vS_iff {xs:List Int}:vS xs=true↔(1≤xs.length∧xs.length≤12)∧∀x ∈ xs,0≤x∧x≤100000:=by
 unfold vS;rw[Bool.and_eq_true,decide_eq_true_iff,allW_iff]
theorem specValidStakes_E (xs:List Int):E (fun k=>zf139 (k 0) xs) (vS xs):=by
 refine E.congr (fun k=>zf139.eq (k 0) xs) (E.bind (inRange_E ..) (E.ite (fun h=>?_) (fun h=>E.now' ?_)))
 ·simp at h
  refine E.bind (allIn_E xs 0 100000 (by omega)) (E.now' ?_)
  unfold vS
  rw[decide_eq_true (by omega),Bool.true_and]
 ·simp at h
  unfold vS
  rw[decide_eq_false (by omega),Bool.false_and]
theorem sum_bd {B:Int}:∀{xs:List Int},(∀x ∈ xs,0≤x∧x≤B)→0≤xs.sum∧xs.sum≤B*xs.length
 | [],_=>by simp
 | x::xs,h=>by
  have h1:=h x (List.mem_cons_self ..)
  have ih:=sum_bd (xs:=xs) fun y hy=>h y (List.mem_cons_of_mem _ hy)
  simp only[List.sum_cons,List.length_cons]
  rw[show B*((xs.length+1:Nat):Int)=B*xs.length+B from by rw[Int.natCast_succ,Int.mul_add,Int.mul_one]]
  omega
theorem total_l3:∀(post pre:List Int) (a:Int),(pre++post).length≤1000000→(∀x ∈ post,0≤x∧x≤1000000)→0≤a→a+1000000*(post.length:Int)≤1000000000000000 →
  E (fun k=>zf133.l3 (k 0) (k 1) (pre++post) a (pre.length:Int)) (a+post.sum)
 | [],pre,a,hl,_,h0,h1=>by
  refine E.step 1 (fun v w h1 h2=>by rewrite [h1,h2 0 (by decide)];exact zf133.l3_succ ..) ?_
  exact E.neg (by simp) (E.now' (by simp))
 | x::post,pre,a,hl,hx,h0,h1=>by
  have hx0:=hx x (List.mem_cons_self ..)
  simp only[List.length_cons] at h1
  have ih:=total_l3 post (pre++[x]) (a+x) (by simpa using hl) (fun y hy=>hx y (List.mem_cons_of_mem _ hy)) (by omega) (by omega)
  refine E.step 1 (fun v w h1 h2=>by rewrite [h1,h2 0 (by decide)];exact zf133.l3_succ ..) ?_
  refine E.pos (by simp;omega) (E.pos (by omega) (E.pos (by simp;omega) ?_))
  simp only[Int.toNat_natCast,getD_mid]
  rw[wrap_nat (by simp at hl;omega),wrap_id (by omega) (by omega)]
  rw[show (pre++[x]).length=pre.length+1 from by simp,List.append_assoc] at ih
  exact E.is ih (by simp;omega)
theorem specTotal_E (xs:List Int) (hl:xs.length≤1000) (h:∀x ∈ xs,0≤x∧x≤1000000):E (fun k=>zf133 (k 0) xs) xs.sum:=
 E.congr (fun k=>zf133.eq (k 0) xs) (E.is (E.ren (fun _=>0) (total_l3 xs [] 0 (by simp;omega) h (by omega) (by omega))) (by simp))
theorem sumOf_l3:∀(post pre:List Int) (a:Int),(pre++post).length≤1000000→(∀x ∈ post,0≤x∧x≤1000000)→0≤a→a+1000000*(post.length:Int)≤1000000000000000 →
  E (fun k=>zf44.l3 (k 0) (k 1) a (pre++post) ((pre++post).length:Int) (pre.length:Int)) (a+post.sum)
 | [],pre,a,hl,_,h0,h1=>by
  refine E.step 1 (fun v w h1 h2=>by rewrite [h1,h2 0 (by decide)];exact zf44.l3_succ ..) ?_
  exact E.neg (by simp) (E.now' (by simp))
 | x::post,pre,a,hl,hx,h0,h1=>by
  have hx0:=hx x (List.mem_cons_self ..)
  simp only[List.length_cons] at h1
  have ih:=sumOf_l3 post (pre++[x]) (a+x) (by simpa using hl) (fun y hy=>hx y (List.mem_cons_of_mem _ hy)) (by omega) (by omega)
  refine E.step 1 (fun v w h1 h2=>by rewrite [h1,h2 0 (by decide)];exact zf44.l3_succ ..) ?_
  refine E.pos (by simp;omega) (E.pos (by omega) (E.pos (by simp;omega) ?_))
  simp only[Int.toNat_natCast,getD_mid]
  rw[wrap_nat (by simp at hl;omega),wrap_id (by omega) (by omega)]
  rw[show (pre++[x]).length=pre.length+1 from by simp,List.append_assoc] at ih
  exact E.is ih (by simp;omega)
theorem sumOf_E (xs:List Int) (hl:xs.length≤1000) (h:∀x ∈ xs,0≤x∧x≤1000000):E (fun k=>zf44 (k 0) xs) xs.sum:=
 E.congr (fun k=>zf44.eq (k 0) xs) (E.is (E.ren (fun _=>0) (sumOf_l3 xs [] 0 (by simp;omega) h (by omega) (by omega))) (by simp))
abbrev Ln:=Int × Int × List Int
def lentS (ls:List Ln):Int:=(ls.map fun l=>l.2.1).sum
theorem lentS_bd {ls:List Ln} (h:∀l ∈ ls,0≤l.2.1∧l.2.1≤100000):0≤lentS ls∧lentS ls≤100000*ls.length:=by
 have:=sum_bd (B:=100000) (xs:=ls.map fun l=>l.2.1) (fun x hx=>by obtain ⟨l,hl,rfl⟩:=List.mem_map.1 hx;exact h l hl)
 simpa [lentS] using this
theorem lent_l3:∀(post pre:List Ln) (a:Int),(pre++post).length≤1000000→(∀x ∈ post,0≤x.2.1∧x.2.1≤1000000)→0≤a→a+1000000*(post.length:Int)≤1000000000000000 →
  E (fun k=>zf105.l3 (k 0) (k 1) (pre++post) a (pre.length:Int)) (a+lentS post)
 | [],pre,a,hl,_,h0,h1=>by
  refine E.step 1 (fun v w h1 h2=>by rewrite [h1,h2 0 (by decide)];exact zf105.l3_succ ..) ?_
  exact E.neg (by simp) (E.now' (by simp[lentS]))
 | x::post,pre,a,hl,hx,h0,h1=>by
  have hx0:=hx x (List.mem_cons_self ..)
  simp only[List.length_cons] at h1
  have ih:=lent_l3 post (pre++[x]) (a+x.2.1) (by simpa using hl) (fun y hy=>hx y (List.mem_cons_of_mem _ hy)) (by omega) (by omega)
  refine E.step 1 (fun v w h1 h2=>by rewrite [h1,h2 0 (by decide)];exact zf105.l3_succ ..) ?_
  refine E.pos (by simp;omega) (E.pos (by omega) (E.pos (by simp;omega) ?_))
  simp only[Int.toNat_natCast,getD_mid]
  rw[wrap_nat (by simp at hl;omega),wrap_id (by omega) (by omega)]
  rw[show (pre++[x]).length=pre.length+1 from by simp,List.append_assoc] at ih
  exact E.is ih (by simp[lentS];omega)
theorem specLent_E (ls:List Ln) (hl:ls.length≤1000) (h:∀l ∈ ls,0≤l.2.1∧l.2.1≤1000000):E (fun k=>zf105 (k 0) ls) (lentS ls):=
 E.congr (fun k=>zf105.eq (k 0) ls) (E.is (E.ren (fun _=>0) (lent_l3 ls [] 0 (by simp;omega) h (by omega) (by omega))) (by simp))
theorem loansOf_l3:∀(post pre:List Ln) (a:Int),(pre++post).length≤1000000→(∀x ∈ post,0≤x.2.1∧x.2.1≤1000000)→0≤a→a+1000000*(post.length:Int)≤1000000000000000 →
  E (fun k=>zf38.l3 (k 0) (k 1) a (pre++post) ((pre++post).length:Int) (pre.length:Int)) (a+lentS post)
 | [],pre,a,hl,_,h0,h1=>by
  refine E.step 1 (fun v w h1 h2=>by rewrite [h1,h2 0 (by decide)];exact zf38.l3_succ ..) ?_
  exact E.neg (by simp) (E.now' (by simp[lentS]))
 | x::post,pre,a,hl,hx,h0,h1=>by
  have hx0:=hx x (List.mem_cons_self ..)
  simp only[List.length_cons] at h1
  have ih:=loansOf_l3 post (pre++[x]) (a+x.2.1) (by simpa using hl) (fun y hy=>hx y (List.mem_cons_of_mem _ hy)) (by omega) (by omega)
  refine E.step 1 (fun v w h1 h2=>by rewrite [h1,h2 0 (by decide)];exact zf38.l3_succ ..) ?_
  refine E.pos (by simp;omega) (E.pos (by omega) (E.pos (by simp;omega) ?_))
  simp only[Int.toNat_natCast,getD_mid]
  rw[wrap_nat (by simp at hl;omega),wrap_id (by omega) (by omega)]
  rw[show (pre++[x]).length=pre.length+1 from by simp,List.append_assoc] at ih
  exact E.is ih (by simp[lentS];omega)
theorem loansOf_E (ls:List Ln) (hl:ls.length≤1000) (h:∀l ∈ ls,0≤l.2.1∧l.2.1≤1000000):E (fun k=>zf38 (k 0) ls) (lentS ls):=
 E.congr (fun k=>zf38.eq (k 0) ls) (E.is (E.ren (fun _=>0) (loansOf_l3 ls [] 0 (by simp;omega) h (by omega) (by omega))) (by simp))
theorem allWithin_l2 (lo hi:Int):∀(post pre:List Int),(pre++post).length<4611686018427387904 →
  E (fun k=>zf30.l2 (k 0) (k 1) lo hi (pre++post) ((pre++post).length:Int) (pre.length:Int)) (allW post lo hi)
 | [],pre,_=>by
  refine E.step 1 (fun v w h1 h2=>by rewrite [h1,h2 0 (by decide)];exact zf30.l2_succ ..) ?_
  exact E.neg (by simp) (E.now' (by simp[allW]))
 | x::post,pre,hl=>by
  have ih:=allWithin_l2 lo hi post (pre++[x]) (by simpa using hl)
  refine E.step 1 (fun v w h1 h2=>by rewrite [h1,h2 0 (by decide)];exact zf30.l2_succ ..) ?_
  refine E.pos (by simp;omega) (E.pos (by omega) (E.pos (by simp;omega) ?_))
  simp only[Int.toNat_natCast,getD_mid]
  rw[wrap_nat (by simp at hl;omega)]
  rw[show (pre++[x]).length=pre.length+1 from by simp,List.append_assoc] at ih
  refine E.ite (fun h=>E.now' (by simp[allW];omega)) (fun h=>E.ite (fun h2=>E.now' (by simp[allW];omega)) (fun h2=>E.is ih ?_))
  rw[allW_cons]
  simp;omega
theorem allWithin_E (xs:List Int) (lo hi:Int) (hl:xs.length<4611686018427387904):E (fun k=>zf30 (k 0) (xs,lo,hi)) (allW xs lo hi):=
 E.congr (fun k=>zf30.eq (k 0) ..) (E.ren (fun _=>0) (allWithin_l2 lo hi xs [] (by simpa using hl)))
theorem implValidStakes_E (xs:List Int):E (fun k=>zf47 (k 0) xs) (vS xs):=by
 refine E.congr (fun k=>zf47.eq (k 0) xs) (E.ite (fun h=>E.ite (fun h2=>?_) (fun h2=>E.now' ?_)) (fun h=>E.now' ?_))
 ·refine E.bind (allWithin_E xs 0 100000 (by omega)) (E.now' ?_)
  unfold vS
  rw[decide_eq_true (by omega),Bool.true_and]
 ·unfold vS
  rw[decide_eq_false (by omega),Bool.false_and]
 ·unfold vS
  rw[decide_eq_false (by omega),Bool.false_and]
theorem index_l2 (v:Int):∀(post pre:List Int),(pre++post).length<4611686018427387904→v ∉ pre →
  E (fun k=>zf77.l2 (k 0) (k 1) (pre++post) v ((pre++post).length:Int) (pre.length:Int)) (idxI (pre++post) v)
 | [],pre,_,hv=>by
  refine E.step 1 (fun v w h1 h2=>by rewrite [h1,h2 0 (by decide)];exact zf77.l2_succ ..) ?_
  exact E.neg (by simp) (E.now' (by simp[idxI,hv]))
 | x::post,pre,hl,hv=>by
  refine E.step 1 (fun v w h1 h2=>by rewrite [h1,h2 0 (by decide)];exact zf77.l2_succ ..) ?_
  refine E.pos (by simp;omega) (E.pos (by omega) (E.pos (by simp;omega) ?_))
  simp only[Int.toNat_natCast,getD_mid]
  rw[wrap_nat (by simp at hl;omega)]
  refine E.ite (fun h=>E.now' ?_) (fun h=>?_)
  ·subst h
   simp[idxI,List.idxOf_append,hv]
  ·have ih:=index_l2 v post (pre++[x]) (by simpa using hl) (by simp[hv,h])
   rwa [show (pre++[x]).length=pre.length+1 from by simp,List.append_assoc] at ih
theorem index_E (xs:List Int) (v:Int) (hl:xs.length<4611686018427387904):E (fun k=>zf77 (k 0) (xs,v)) (idxI xs v):=
 E.congr (fun k=>zf77.eq (k 0) ..) (E.ren (fun _=>0) (index_l2 v xs [] (by simpa using hl) (by simp)))
theorem contains_E (xs:List Int) (v:Int) (hl:xs.length<4611686018427387904):E (fun k=>zf73 (k 0) (xs,v)) (decide (v ∈ xs)):=
 E.congr (fun k=>zf73.eq (k 0) ..) (E.bind (index_E xs v hl) (E.now' (by
  have:=@idxI_neg xs v
  by_cases h:v ∈ xs
  ·simp only[h,decide_true,decide_eq_true_eq];have:=mt this.1 (by simpa using h);omega
  ·simp only[h,decide_false,decide_eq_false_iff_not];have:=this.2 h;omega)))
theorem placeIn_l2 (v:Int):∀(post pre:List Int),(pre++post).length<4611686018427387904→v ∉ pre →
  E (fun k=>zf114.l2 (k 0) (k 1) (pre++post) v (pre.length:Int)) (idxI (pre++post) v)
 | [],pre,_,hv=>by
  refine E.step 1 (fun v w h1 h2=>by rewrite [h1,h2 0 (by decide)];exact zf114.l2_succ ..) ?_
  exact E.neg (by simp) (E.now' (by simp[idxI,hv]))
 | x::post,pre,hl,hv=>by
  refine E.step 1 (fun v w h1 h2=>by rewrite [h1,h2 0 (by decide)];exact zf114.l2_succ ..) ?_
  refine E.pos (by simp;omega) (E.pos (by omega) (E.pos (by simp;omega) ?_))
  simp only[Int.toNat_natCast,getD_mid]
  rw[wrap_nat (by simp at hl;omega)]
  refine E.ite (fun h=>E.now' ?_) (fun h=>?_)
  ·subst h
   simp[idxI,List.idxOf_append,hv]
  ·have ih:=placeIn_l2 v post (pre++[x]) (by simpa using hl) (by simp[hv,Ne.symm h])
   rwa [show (pre++[x]).length=pre.length+1 from by simp,List.append_assoc] at ih
theorem placeIn_E (xs:List Int) (v:Int) (hl:xs.length<4611686018427387904):E (fun k=>zf114 (k 0) (xs,v)) (idxI xs v):=
 E.congr (fun k=>zf114.eq (k 0) ..) (E.ren (fun _=>0) (placeIn_l2 v xs [] (by simpa using hl) (by simp)))
def diffB (xs:List Int) (n:Int):Bool:=decide ((xs.length:Int)≤n)&&allW xs 0 (n-1)&&decide xs.Nodup
theorem diffB_iff {xs:List Int} {n:Int}:diffB xs n=true↔(xs.length:Int)≤n∧(∀x ∈ xs,0≤x∧x≤n-1)∧xs.Nodup:=by
 unfold diffB
 rw[Bool.and_eq_true,Bool.and_eq_true,allW_iff,decide_eq_true_iff,decide_eq_true_iff]
 exact ⟨fun h=>⟨h.1.1,h.1.2,h.2⟩,fun h=>⟨⟨h.1,h.2.1⟩,h.2.2⟩⟩
theorem diffB_len {xs:List Int} {n:Int} (h:diffB xs n=true):(xs.length:Int)≤n:=(diffB_iff.1 h).1
theorem differentBelow_l5 (n:Nat):∀(post pre:List Int) (seen:Nat→Bool),(pre++post).length<4611686018427387904 →
  (∀j,j<n→(seen j=true↔(j:Int) ∈ pre)) →
  E (fun k=>zf35.l5 (k 0) (k 1) (n:Int) (pre++post) ((pre++post).length:Int) (pre.length:Int) (tab n seen)) (allW post 0 ((n:Int)-1)&&decide (post.Nodup∧∀x ∈ post,x ∉ pre))
 | [],pre,_,_,_=>by
  refine E.step 1 (fun v w h1 h2=>by rewrite [h1,h2 0 (by decide)];exact zf35.l5_succ ..) ?_
  exact E.neg (by simp) (E.now' (by simp[allW]))
 | x::post,pre,seen,hl,hs=>by
  refine E.step 1 (fun v w h1 h2=>by rewrite [h1,h2 0 (by decide)];exact zf35.l5_succ ..) ?_
  refine E.pos (by simp;omega) (E.pos (by omega) (E.pos (by simp;omega) ?_))
  simp only[Int.toNat_natCast,getD_mid]
  rw[wrap_nat (by simp at hl;omega)]
  refine E.ite (fun h=>E.now' (by simp[allW];omega)) (fun h=>E.ite (fun h2=>E.now' (by simp[allW];omega)) (fun h2=>?_))
  obtain ⟨m,rfl⟩:∃m:Nat,x=m:=⟨x.toNat,by omega⟩
  have hm:m<n:=by omega
  have hsm:=hs m hm
  refine E.pos (by omega) (E.pos (by rw[tab_length];omega) ?_)
  simp only[Int.toNat_natCast,tab_get _ hm,tab_set]
  refine E.ite (fun h3=>E.now' ?_) (fun h3=>E.pos (by omega) (E.pos (by rw[tab_length];omega) ?_))
  ·have:=hsm.1 h3
   simp[this]
  ·have hmp:(m:Int) ∉ pre:=fun hh=>h3 (hsm.2 hh)
   have ih:=differentBelow_l5 n post (pre++[(m:Int)]) (fun j=>if j=m then true else seen j) (by simpa using hl) (by
    intro j hj
    by_cases e:j=m
    ·subst e;simp
    ·have:=hs j hj
     simp only[if_neg e,this,List.mem_append,List.mem_cons,List.not_mem_nil,or_false]
     constructor
     ·exact fun hh=>.inl hh
     ·rintro (hh | hh)
      ·exact hh
      ·exact absurd (by omega) e)
   rw[show (pre++[(m:Int)]).length=pre.length+1 from by simp,List.append_assoc] at ih
   refine E.is ih ?_
   rw[allW_cons]
   have e1:(decide ((0:Int)≤m)&&decide ((m:Int)≤(n:Int)-1))=true:=by simp;omega
   rw[e1,Bool.true_and]
   congr 1
   simp only[List.nodup_cons,List.mem_append,List.mem_cons,List.not_mem_nil,or_false,decide_eq_decide]
   constructor
   ·rintro ⟨h1,h4⟩
    refine ⟨⟨fun hh=>(h4 _ hh) (.inr rfl),h1⟩,?_⟩
    rintro y (rfl | hy)
    ·exact hmp
    ·exact fun hh=>h4 y hy (.inl hh)
   ·rintro ⟨⟨h1,h4⟩,h5⟩
    refine ⟨h4,fun y hy=>?_⟩
    rintro (hh | rfl)
    ·exact h5 y (.inr hy) hh
    ·exact h1 hy
theorem differentBelow_E (xs:List Int) (n:Int) (h0:0≤n) (hn:n≤1000000):E (fun k=>zf35 (k 0) (xs,n)) (diffB xs n):=by
 obtain ⟨m,rfl⟩:∃m:Nat,n=m:=⟨n.toNat,by omega⟩
 refine E.congr (fun k=>zf35.eq (k 0) xs _) (E.ite (fun h=>E.now' ?_) (fun h=>E.pos (by omega) (E.pos (by omega) (E.pos (by simp only[maxN];omega) ?_))))
 ·simp[diffB];omega
 ·rw[Int.toNat_natCast,replicate_tab]
  have:=differentBelow_l5 m xs [] (fun _=>false) (by simp;omega) (by simp)
  refine E.is (E.ren (fun _=>0) this) ?_
  have e:decide ((xs.length:Int)≤m)=true:=by simp;omega
  simp only[diffB,e,Bool.true_and]
  simp
def vL (l:Ln) (m:Int):Bool:=decide (0≤l.1∧l.1<m∧1≤l.2.1∧l.2.1≤100000∧1≤l.2.2.length)&&diffB l.2.2 m&&decide (l.1 ∉ l.2.2)
def vLs (ls:List Ln) (m:Int):Bool:=decide (ls.length≤16∧1≤m∧m≤12)&&ls.all fun l=>vL l m
theorem vL_iff {l:Ln} {m:Int}:vL l m=true↔(0≤l.1∧l.1<m∧1≤l.2.1∧l.2.1≤100000∧1≤l.2.2.length)∧((l.2.2.length:Int)≤m∧(∀x ∈ l.2.2,0≤x∧x≤m-1)∧l.2.2.Nodup)∧l.1 ∉ l.2.2:=by
 unfold vL
 rw[Bool.and_eq_true,Bool.and_eq_true,decide_eq_true_iff,decide_eq_true_iff,diffB_iff]
 exact ⟨fun h=>⟨h.1.1,h.1.2,h.2⟩,fun h=>⟨⟨h.1,h.2.1⟩,h.2.2⟩⟩
theorem vLs_iff {ls:List Ln} {m:Int}:vLs ls m=true↔(ls.length≤16∧1≤m∧m≤12)∧∀l ∈ ls,vL l m=true:=by
 unfold vLs
 rw[Bool.and_eq_true,decide_eq_true_iff,List.all_eq_true]
theorem implValidLoans_l4 (m:Int) (hm:1≤m∧m≤12):∀(post pre:List Ln),(pre++post).length≤16 →
  E (fun k=>zf28.l4 (k 0) (k 1) m (pre++post) ((pre++post).length:Int) (pre.length:Int)) (post.all fun l=>vL l m)
 | [],pre,_=>by
  refine E.step 1 (fun v w h1 h2=>by rewrite [h1,h2 0 (by decide)];exact zf28.l4_succ ..) ?_
  exact E.neg (by simp) (E.now _)
 | x::post,pre,hl=>by
  have ih:=implValidLoans_l4 m hm post (pre++[x]) (by simpa using hl)
  rw[show (pre++[x]).length=pre.length+1 from by simp,List.append_assoc] at ih
  have no:vL x m≠true→false=((x::post).all fun l=>vL l m):=by
   intro h
   rw[List.all_cons,Bool.eq_false_iff.2 h,Bool.false_and]
  refine E.step 1 (fun v w h1 h2=>by rewrite [h1,h2 0 (by decide)];exact zf28.l4_succ ..) ?_
  refine E.pos (by simp;omega) (E.pos (by omega) (E.pos (by simp;omega) ?_))
  simp only[Int.toNat_natCast,getD_mid]
  refine E.ite (fun h=>E.now' (no fun hv=>by have:=(vL_iff.1 hv).1;omega)) (fun h1=>E.ite (fun h=>E.now' (no fun hv=>by have:=(vL_iff.1 hv).1;omega)) (fun h2=>E.ite (fun h=>E.now' (no fun hv=>by have:=(vL_iff.1 hv).1;omega)) (fun h3=>E.ite (fun h=>E.now' (no fun hv=>by have:=(vL_iff.1 hv).1;omega)) (fun h4=>E.ite (fun h=>E.now' (no fun hv=>by have:=(vL_iff.1 hv).1;omega)) (fun h5=>?_)))))
  refine E.bind (E.ren (fun _=>0) (differentBelow_E x.2.2 m (by omega) (by omega))) (E.ite (fun h=>E.now' (no fun hv=>?_)) (fun hd=>?_))
  ·rw[diffB_iff.2 (vL_iff.1 hv).2.1] at h;cases h
  simp only[Bool.not_eq_true',Bool.not_eq_false] at hd
  refine E.bind (E.ren (fun _=>0) (contains_E x.2.2 x.1 (by have:=diffB_len hd;omega))) (E.ite (fun h=>E.now' (no fun hv=>?_)) (fun hc=>?_))
  ·exact (vL_iff.1 hv).2.2 (by simpa using h)
  ·rw[wrap_nat (by simp at hl;omega)]
   refine E.is ih ?_
   rw[List.all_cons,vL_iff.2 ⟨⟨by omega,by omega,by omega,by omega,by omega⟩,diffB_iff.1 hd,by simpa using hc⟩,Bool.true_and]
theorem implValidLoans_E (ls:List Ln) (m:Int):E (fun k=>zf28 (k 0) (ls,m)) (vLs ls m):=by
 have no:¬(ls.length≤16∧1≤m∧m≤12)→false=vLs ls m:=by
  intro h;unfold vLs;rw[decide_eq_false h,Bool.false_and]
 refine E.congr (fun k=>zf28.eq (k 0) ls m) (E.ite (fun h=>E.now' (no (by omega))) fun h=>E.ite (fun h2=>E.now' (no (by omega))) fun h2=>E.ite (fun h3=>E.now' (no (by omega))) fun h3=>?_)
 refine E.is (E.ren (fun _=>0) (implValidLoans_l4 m (by omega) ls [] (by simp;omega))) ?_
 unfold vLs
 rw[decide_eq_true (by omega),Bool.true_and]
theorem len_of {xs:List Int} {m:Int} (h0:0≤m) (h:∀x ∈ xs,0≤x∧x≤m-1) (hn:xs.Nodup):(xs.length:Int)≤m:=by
 have:=nodup_le xs (tab m.toNat fun j=>(j:Int)) hn (fun x hx=>mem_tab.2 ⟨x.toNat,by have:=h x hx;omega,by have:=h x hx;omega⟩)
 rw[tab_length] at this
 omega
theorem validMembers_l2 (m:Int) (h0:0≤m) (hm:m≤1000000):∀(post pre:List Int),(pre++post).length<4611686018427387904 →
  E (fun k=>zf137.l2 (k 0) (k 1) (pre++post) m (pre.length:Int)) (allW post 0 (m-1)&&decide (post.Nodup∧∀x ∈ post,x ∉ pre))
 | [],pre,_=>by
  refine E.step 1 (fun v w h1 h2=>by rewrite [h1,h2 0 (by decide)];exact zf137.l2_succ ..) ?_
  exact E.neg (by simp) (E.now' (by simp[allW]))
 | x::post,pre,hl=>by
  have ih:=validMembers_l2 m h0 hm post (pre++[x]) (by simpa using hl)
  rw[show (pre++[x]).length=pre.length+1 from by simp,List.append_assoc] at ih
  refine E.step 1 (fun v w h1 h2=>by rewrite [h1,h2 0 (by decide)];exact zf137.l2_succ ..) ?_
  refine E.pos (by simp;omega) (E.pos (by omega) (E.pos (by simp;omega) ?_))
  simp only[Int.toNat_natCast,getD_mid]
  rw[wrap_nat (by simp at hl;omega),wrap_id (x:=m-1) (by omega) (by omega),List.take_left]
  refine E.bind (E.ren (fun _=>0) (inRange_E x 0 (m-1))) (E.ite (fun h=>E.now' ?_) (fun h=>?_))
  ·rw[allW_cons];simp only[Bool.not_eq_true'] at h;rw[h,Bool.false_and,Bool.false_and]
  simp only[Bool.not_eq_true',Bool.not_eq_false] at h
  refine E.pos (by omega) (E.pos (by simp;omega) (E.pos (by omega) (E.pos (by simp;omega) ?_)))
  refine E.bind (E.ren (fun _=>0) (placeIn_E pre x (by simp at hl;omega))) (E.ite (fun h2=>E.now' ?_) (fun h2=>E.is ih ?_))
  ·have:x ∈ pre:=Classical.byContradiction fun hh=>by have:=idxI_neg.2 hh;omega
   simp[this]
  ·have hx:x ∉ pre:=idxI_neg.1 (by omega)
   rw[allW_cons,h,Bool.true_and]
   congr 1
   simp only[List.nodup_cons,List.mem_append,List.mem_cons,List.not_mem_nil,or_false,decide_eq_decide]
   constructor
   ·rintro ⟨h1,h4⟩
    refine ⟨⟨fun hh=>(h4 _ hh) (.inr rfl),h1⟩,?_⟩
    rintro y (rfl | hy)
    ·exact hx
    ·exact fun hh=>h4 y hy (.inl hh)
   ·rintro ⟨⟨h1,h4⟩,h5⟩
    refine ⟨h4,fun y hy=>?_⟩
    rintro (hh | rfl)
    ·exact h5 y (.inr hy) hh
    ·exact h1 hy
theorem validMembers_E (xs:List Int) (m:Int) (h0:0≤m) (hm:m≤1000000) (hl:xs.length<4611686018427387904):E (fun k=>zf137 (k 0) (xs,m)) (diffB xs m):=by
 refine E.congr (fun k=>zf137.eq (k 0) ..) (E.is (E.ren (fun _=>0) (validMembers_l2 m h0 hm xs [] (by simpa using hl))) ?_)
 unfold diffB
 by_cases h:allW xs 0 (m-1)=true
 ·by_cases h2:xs.Nodup
  ·have:=len_of h0 (allW_iff.1 h) h2
   simp[h,h2,this]
  ·simp[h2]
 ·rw[Bool.not_eq_true] at h
  simp[h]
theorem specValidLoans_l2 (m:Int) (h0:0≤m) (hm:m≤1000000):∀(post pre:List Ln),(pre++post).length<4611686018427387904→(∀l ∈ post,l.2.2.length<4611686018427387904) →
  E (fun k=>zf136.l2 (k 0) (k 1) (pre++post) m (pre.length:Int)) ((post.all fun l=>vL l m)&&decide ((pre++post).length≤16∧1≤m∧m≤12))
 | [],pre,_,_=>by
  refine E.step 1 (fun v w h1 h2=>by rewrite [h1,h2 0 (by decide)];exact zf136.l2_succ ..) ?_
  refine E.neg (by simp) (E.ite (fun h=>E.bind (E.ren (fun _=>0) (inRange_E m 1 12)) (E.now' ?_)) (fun h=>E.now' ?_))
  ·simp at h ⊢
   intros
   omega
  ·simp at h ⊢
   omega
 | x::post,pre,hl,hi=>by
  have ih:=specValidLoans_l2 m h0 hm post (pre++[x]) (by simpa using hl) (fun l h=>hi l (List.mem_cons_of_mem _ h))
  rw[show (pre++[x]).length=pre.length+1 from by simp,List.append_assoc] at ih
  have hix:=hi x (List.mem_cons_self ..)
  have no:vL x m≠true→false=(((x::post).all fun l=>vL l m)&&decide ((pre++x::post).length≤16∧1≤m∧m≤12)):=by
   intro h
   rw[List.all_cons,Bool.eq_false_iff.2 h,Bool.false_and,Bool.false_and]
  refine E.step 1 (fun v w h1 h2=>by rewrite [h1,h2 0 (by decide)];exact zf136.l2_succ ..) ?_
  refine E.pos (by simp;omega) (E.pos (by omega) (E.pos (by simp;omega) ?_))
  simp only[Int.toNat_natCast,getD_mid]
  rw[wrap_nat (by simp at hl;omega),wrap_id (x:=m-1) (by omega) (by omega)]
  refine E.bind (E.ren (fun _=>0) (inRange_E x.1 0 (m-1))) (E.ite (fun h=>E.now' (no fun hv=>?_)) (fun h1=>?_))
  ·have:=(vL_iff.1 hv).1;simp at h;omega
  refine E.bind (E.ren (fun _=>0) (inRange_E x.2.1 1 100000)) (E.ite (fun h=>E.now' (no fun hv=>?_)) (fun h2=>?_))
  ·have:=(vL_iff.1 hv).1;simp at h;omega
  simp at h1 h2
  refine E.ite (fun h=>E.now' (no fun hv=>?_)) (fun h3=>?_)
  ·have:=(vL_iff.1 hv).1;omega
  refine E.bind (E.ren (fun _=>0) (validMembers_E x.2.2 m h0 hm hix)) (E.ite (fun h=>E.now' (no fun hv=>?_)) (fun hd=>?_))
  ·rw[diffB_iff.2 (vL_iff.1 hv).2.1] at h;cases h
  simp only[Bool.not_eq_true',Bool.not_eq_false] at hd
  refine E.bind (E.ren (fun _=>0) (placeIn_E x.2.2 x.1 hix)) (E.ite (fun h=>E.now' (no fun hv=>?_)) (fun hc=>E.is ih ?_))
  ·have:=idxI_neg.2 (vL_iff.1 hv).2.2;omega
  ·have hc':x.1 ∉ x.2.2:=idxI_neg.1 (by omega)
   rw[List.all_cons,vL_iff.2 ⟨⟨by omega,by omega,by omega,by omega,by omega⟩,diffB_iff.1 hd,hc'⟩,Bool.true_and]
   simp
theorem specValidLoans_E (ls:List Ln) (m:Int) (h0:0≤m) (hm:m≤1000000) (hl:ls.length<4611686018427387904) (hi:∀l ∈ ls,l.2.2.length<4611686018427387904):E (fun k=>zf136 (k 0) (ls,m)) (vLs ls m):=by
 refine E.congr (fun k=>zf136.eq (k 0) ..) (E.is (E.ren (fun _=>0) (specValidLoans_l2 m h0 hm ls [] (by simpa using hl) hi)) ?_)
 unfold vLs
 rw[Bool.and_comm]
 rfl
abbrev Clb:=List Int × List Ln × Int × Int × Int
def vC (c:Clb):Bool:=vS c.1&&(vLs c.2.1 c.1.length&&decide (0≤c.2.2.1∧c.2.2.1≤1000000∧-1000000≤c.2.2.2.1∧c.2.2.2.1≤1000000∧0≤c.2.2.2.2∧c.2.2.2.2≤999∧c.2.2.1+lentS c.2.1=c.1.sum+c.2.2.2.1))
theorem vL_amt {l:Ln} {m:Int} (h:vL l m=true):0≤l.2.1∧l.2.1≤1000000:=by have:=(vL_iff.1 h).1;omega
theorem vLs_amt {ls:List Ln} {m:Int} (h:vLs ls m=true):∀l ∈ ls,0≤l.2.1∧l.2.1≤1000000:=fun l hl=>vL_amt ((vLs_iff.1 h).2 l hl)
theorem vC_sums {c:Clb} (h1:vS c.1=true) (h2:vLs c.2.1 c.1.length=true):0≤c.1.sum∧c.1.sum≤100000*12∧0≤lentS c.2.1∧lentS c.2.1≤100000*16:=by
 obtain ⟨a,b⟩:=vS_iff.1 h1
 have s:=sum_bd b
 have l:=lentS_bd (ls:=c.2.1) fun l hl=>by have:=(vL_iff.1 ((vLs_iff.1 h2).2 l hl)).1;omega
 have:=(vLs_iff.1 h2).1
 omega
theorem specValidClub_E (c:Clb) (hl:c.2.1.length<4611686018427387904) (hi:∀l ∈ c.2.1,l.2.2.length<4611686018427387904):E (fun k=>zf135 (k 0) c) (vC c):=by
 refine E.congr (fun k=>zf135.eq (k 0) c) (E.bind (specValidStakes_E c.1) (E.ite (fun h=>E.now' ?_) (fun h1=>?_)))
 ·simp only[Bool.not_eq_true'] at h;unfold vC;rw[h,Bool.false_and]
 simp only[Bool.not_eq_true',Bool.not_eq_false] at h1
 have hs:=vS_iff.1 h1
 refine E.bind (specValidLoans_E c.2.1 c.1.length (by omega) (by omega) hl hi) (E.ite (fun h=>E.now' ?_) (fun h2=>?_))
 ·simp only[Bool.not_eq_true'] at h;unfold vC;rw[h,Bool.false_and,Bool.and_false]
 simp only[Bool.not_eq_true',Bool.not_eq_false] at h2
 have hb:=vC_sums h1 h2
 have e:vC c=decide (0≤c.2.2.1∧c.2.2.1≤1000000∧-1000000≤c.2.2.2.1∧c.2.2.2.1≤1000000∧0≤c.2.2.2.2∧c.2.2.2.2≤999∧c.2.2.1+lentS c.2.1=c.1.sum+c.2.2.2.1):=by
  unfold vC;rw[h1,h2,Bool.true_and,Bool.true_and]
 rw[e]
 have va:E (fun k=>zf134 (k 0) c.2.2.1) (decide (0≤c.2.2.1)&&decide (c.2.2.1≤1000000)):=
  E.congr (fun k=>zf134.eq (k 0) _) (E.bind (inRange_E ..) (E.now _))
 refine E.bind va (E.ite (fun h=>E.now' ?_) (fun h3=>?_))
 ·simp at h ⊢;omega
 refine E.bind (inRange_E ..) (E.ite (fun h=>E.now' ?_) (fun h4=>?_))
 ·simp at h ⊢;omega
 refine E.bind (inRange_E ..) (E.ite (fun h=>E.now' ?_) (fun h5=>?_))
 ·simp at h ⊢;omega
 simp at h3 h4 h5
 refine E.bind (specLent_E c.2.1 (by have:=(vLs_iff.1 h2).1;omega) (vLs_amt h2)) (E.bind (specTotal_E c.1 (by omega) (fun x hx=>by have:=hs.2 x hx;omega)) (E.now' ?_))
 rw[wrap_id (by omega) (by omega),wrap_id (by omega) (by omega)]
 simp only[decide_eq_decide]
 omega
theorem implValidClub_E (c:Clb):E (fun k=>zf27 (k 0) c) (vC c):=by
 refine E.congr (fun k=>zf27.eq (k 0) c) (E.bind (implValidStakes_E c.1) (E.ite (fun h=>E.now' ?_) (fun h1=>?_)))
 ·simp only[Bool.not_eq_true'] at h;unfold vC;rw[h,Bool.false_and]
 simp only[Bool.not_eq_true',Bool.not_eq_false] at h1
 have hs:=vS_iff.1 h1
 refine E.bind (implValidLoans_E c.2.1 c.1.length) (E.ite (fun h=>E.now' ?_) (fun h2=>?_))
 ·simp only[Bool.not_eq_true'] at h;unfold vC;rw[h,Bool.false_and,Bool.and_false]
 simp only[Bool.not_eq_true',Bool.not_eq_false] at h2
 have hb:=vC_sums h1 h2
 have e:vC c=decide (0≤c.2.2.1∧c.2.2.1≤1000000∧-1000000≤c.2.2.2.1∧c.2.2.2.1≤1000000∧0≤c.2.2.2.2∧c.2.2.2.2≤999∧c.2.2.1+lentS c.2.1=c.1.sum+c.2.2.2.1):=by
  unfold vC;rw[h1,h2,Bool.true_and,Bool.true_and]
 rw[e]
 refine E.ite (fun h=>E.now' ?_) (fun h3=>E.ite (fun h=>E.now' ?_) (fun h4=>E.ite (fun h=>E.now' ?_) (fun h5=>E.ite (fun h=>E.now' ?_) (fun h6=>E.ite (fun h7=>E.ite (fun h8=>?_) (fun h=>E.now' ?_)) (fun h=>E.now' ?_)))))
 ·symm;rw[decide_eq_false_iff_not];omega
 ·symm;rw[decide_eq_false_iff_not];omega
 ·symm;rw[decide_eq_false_iff_not];omega
 ·symm;rw[decide_eq_false_iff_not];omega
 ·refine E.bind (loansOf_E c.2.1 (by have:=(vLs_iff.1 h2).1;omega) (vLs_amt h2)) (E.bind (sumOf_E c.1 (by omega) (fun x hx=>by have:=hs.2 x hx;omega)) (E.now' ?_))
  rw[wrap_id (by omega) (by omega),wrap_id (by omega) (by omega)]
  simp only[decide_eq_decide]
  omega
 ·symm;rw[decide_eq_false_iff_not];omega
 ·symm;rw[decide_eq_false_iff_not];omega
end Go.Proofs.YtbgamdkmlikgjaaGreatDoorG
end
section
set_option linter.unusedVariables false
namespace Go.Proofs.YtbgamdkmlikgjaaGreatDoorG
open Go Go.Refl Go.Refl.Math Go.RowKit
theorem specCopyInts_E (xs:List Int) (h:xs.length≤1000000000):E (fun k=>zf95 (k 0) xs) xs:=
 E.congr (fun k=>zf95.eq (k 0) xs) (E.pos (by simp[maxN];omega) (E.now' (by simp)))
theorem clone_E (xs:List Int) (h:xs.length≤1000000000):E (fun k=>zf72 (k 0) xs) xs:=by
 refine E.congr (fun k=>zf72.eq (k 0) xs) (E.ite (fun h0=>?_) (fun h0=>E.pos (by simp[maxN];omega) (E.now' (by simp))))
 have:xs=[]:=List.eq_nil_of_length_eq_zero (by simpa using h0)
 subst this
 exact E.congr (g:=fun _=>some []) (fun _=>by simp[both,maxN]) (E.now _)
theorem specCopyLoans_l3:∀(post pre:List Ln),(pre++post).length≤1000000000→(∀l ∈ post,l.2.2.length≤1000000000) →
  E (fun k=>zf96.l3 (k 0) (k 1) (pre++post) (pre.length:Int) pre) (pre++post)
 | [],pre,hl,hi=>by
  refine E.step 1 (fun v w h1 h2=>by rewrite [h1,h2 0 (by decide)];exact zf96.l3_succ ..) ?_
  exact E.neg (by simp) (E.now' (by simp))
 | x::post,pre,hl,hi=>by
  have ih:=specCopyLoans_l3 post (pre++[x]) (by simpa using hl) (fun l h=>hi l (List.mem_cons_of_mem _ h))
  have hx:=hi x (List.mem_cons_self ..)
  have h1:(pre.length:Int)<((pre++x::post).length:Int):=by simp;omega
  have h0:(0:Int)≤pre.length:=by omega
  refine E.step 1 (fun v w h1 h2=>by rewrite [h1,h2 0 (by decide)];exact zf96.l3_succ ..) ?_
  refine E.pos h1 (E.pos h0 (E.pos h1 (E.pos h0 (E.pos h1 (E.pos h0 (E.pos h1 ?_))))))
  simp only[Int.toNat_natCast,getD_mid]
  refine E.bind (E.ren (fun _=>0) (specCopyInts_E x.2.2 hx)) (E.pos (by simp at hl;simp[maxN];omega) ?_)
  rw[wrap_nat (by simp at hl;omega)]
  rw[show (pre++[x]).length=pre.length+1 from by simp,List.append_assoc] at ih
  exact ih
theorem specCopyLoans_E (ls:List Ln) (hl:ls.length≤1000000000) (hi:∀l ∈ ls,l.2.2.length≤1000000000):E (fun k=>zf96 (k 0) ls) ls:=
 E.congr (fun k=>zf96.eq (k 0) ls) (E.ren (fun _=>0) (specCopyLoans_l3 ls [] (by simpa using hl) hi))
theorem implCopyLoans_l3:∀(post pre:List Ln),(pre++post).length≤1000000000→(∀l ∈ post,l.2.2.length≤1000000000) →
  E (fun k=>zf34.l3 (k 0) (k 1) (pre++post) ((pre++post).length:Int) (pre.length:Int) pre) (pre++post)
 | [],pre,hl,hi=>by
  refine E.step 1 (fun v w h1 h2=>by rewrite [h1,h2 0 (by decide)];exact zf34.l3_succ ..) ?_
  exact E.neg (by simp) (E.now' (by simp))
 | x::post,pre,hl,hi=>by
  have ih:=implCopyLoans_l3 post (pre++[x]) (by simpa using hl) (fun l h=>hi l (List.mem_cons_of_mem _ h))
  have hx:=hi x (List.mem_cons_self ..)
  have h1:(pre.length:Int)<((pre++x::post).length:Int):=by simp;omega
  have h0:(0:Int)≤pre.length:=by omega
  refine E.step 1 (fun v w h1 h2=>by rewrite [h1,h2 0 (by decide)];exact zf34.l3_succ ..) ?_
  refine E.pos h1 (E.pos h0 (E.pos h1 ?_))
  simp only[Int.toNat_natCast,getD_mid]
  refine E.bind (E.ren (fun _=>0) (clone_E x.2.2 hx)) (E.pos (by simp at hl;simp[maxN];omega) ?_)
  rw[wrap_nat (by simp at hl;omega)]
  rw[show (pre++[x]).length=pre.length+1 from by simp,List.append_assoc] at ih
  exact ih
theorem implCopyLoans_E (ls:List Ln) (hl:ls.length≤1000000000) (hi:∀l ∈ ls,l.2.2.length≤1000000000):E (fun k=>zf34 (k 0) ls) ls:=
 E.congr (fun k=>zf34.eq (k 0) ls) (E.ren (fun _=>0) (implCopyLoans_l3 ls [] (by simpa using hl) hi))
structure Fits (c:Clb):Prop where
 stakes:c.1.length≤1000000000
 loans:c.2.1.length≤1000000000
 inner:∀l ∈ c.2.1,l.2.2.length≤1000000000
theorem vC_parts {c:Clb} (h:vC c=true):vS c.1=true∧vLs c.2.1 c.1.length=true∧(0≤c.2.2.1∧c.2.2.1≤1000000∧-1000000≤c.2.2.2.1∧c.2.2.2.1≤1000000∧0≤c.2.2.2.2∧c.2.2.2.2≤999∧c.2.2.1+lentS c.2.1=c.1.sum+c.2.2.2.1):=by
 unfold vC at h
 rw[Bool.and_eq_true,Bool.and_eq_true,decide_eq_true_iff] at h
 exact ⟨h.1,h.2.1,h.2.2⟩
theorem vC_fits {c:Clb} (h:vC c=true):Fits c:=by
 obtain ⟨h1,h2,h3⟩:=vC_parts h
 have a:=vS_iff.1 h1
 have b:=vLs_iff.1 h2
 exact ⟨by omega,by omega,fun l hl=>by have:=(vL_iff.1 (b.2 l hl)).2.1.1;omega⟩
theorem specCopyClub_E (c:Clb) (h:Fits c):E (fun k=>zf94 (k 0) c) c:=
 E.congr (fun k=>zf94.eq (k 0) c) (E.bind (specCopyInts_E c.1 h.stakes) (E.bind (specCopyLoans_E c.2.1 h.loans h.inner) (E.now _)))
theorem implCopyClub_E (c:Clb) (h:Fits c):E (fun k=>zf33 (k 0) c) c:=
 E.congr (fun k=>zf33.eq (k 0) c) (E.bind (clone_E c.1 h.stakes) (E.bind (implCopyLoans_E c.2.1 h.loans h.inner) (E.now _)))
end Go.Proofs.YtbgamdkmlikgjaaGreatDoorG
end
section
set_option linter.unusedVariables false
namespace Go.Proofs.YtbgamdkmlikgjaaGreatDoorG
open Go Go.Refl Go.Refl.Math Go.RowKit
theorem stake_bd {st:List Int} (h:vS st=true) {j:Nat} (hj:j<st.length):0≤st.getD j 0∧st.getD j 0≤100000:=(vS_iff.1 h).2 _ (getD_mem 0 hj)
theorem split_l3 (x:Int) (p:Nat) (hx:0≤x) (hx2:x≤1000000) (hp2:p≤1000):∀(d i:Nat),i+d=p →
  E (fun k=>zf131.l3 (k 0) (k 1) x (p:Int) (i:Int) (tab i (prt x p))) (tab p (prt x p))
 | 0,i,hi=>by
  refine E.step 1 (fun v w h1 h2=>by rewrite [h1,h2 0 (by decide)];exact zf131.l3_succ ..) ?_
  exact E.neg (by omega) (E.now' (by rw[show i=p by omega]))
 | d+1,i,hi=>by
  have ih:=split_l3 x p hx hx2 hp2 d (i+1) (by omega)
  refine E.step 1 (fun v w h1 h2=>by rewrite [h1,h2 0 (by decide)];exact zf131.l3_succ ..) ?_
  refine E.pos (by omega) (E.neg (by omega) (E.neg (by omega) ?_))
  have hq0:=Int.ediv_nonneg hx (show (0:Int)≤(p:Int) by omega)
  have hq1:=Int.ediv_le_self (b:=(p:Int)) hx
  rw[Int.tdiv_eq_ediv_of_nonneg hx,Int.tmod_eq_emod_of_nonneg hx,wrap_nat (by omega),wrap_id (x:=x / p) (by omega) (by omega),wrap_id (x:=x / p+1) (by omega) (by omega)]
  rw[tab_succ] at ih
  refine E.ite (fun h=>E.pos (by rw[tab_length];simp[maxN];omega) ?_) (fun h=>E.pos (by rw[tab_length];simp[maxN];omega) ?_)
  ·rwa [show prt x p i=x / p+1 from by simp[prt,h]] at ih
  ·rwa [show prt x p i=x / p from by simp[prt,h]] at ih
theorem split_E (x:Int) (p:Nat) (hx:0≤x) (hx2:x≤1000000) (hp2:p≤1000):E (fun k=>zf131 (k 0) (x,(p:Int))) (tab p (prt x p)):=
 E.congr (fun k=>zf131.eq (k 0) ..) (E.ren (fun _=>0) (split_l3 x p hx hx2 hp2 p 0 (by omega)))
theorem splitEven_l5 (x:Int) (p:Nat) (hx:0≤x) (hx2:x≤1000000) (hp:0<p) (hp2:p≤12):∀(d i:Nat),i+d=p →
  E (fun k=>zf26.l5 (k 0) (k 1) x (p:Int) (p:Int) (i:Int) (tab p (fun j=>if j<i then prt x p j else 0))) (tab p (prt x p))
 | 0,i,hi=>by
  refine E.step 1 (fun v w h1 h2=>by rewrite [h1,h2 0 (by decide)];exact zf26.l5_succ ..) ?_
  exact E.neg (by omega) (E.now' (tab_ext fun j hj=>if_pos (by omega)))
 | d+1,i,hi=>by
  have ih:=splitEven_l5 x p hx hx2 hp hp2 d (i+1) (by omega)
  have hi':i<p:=by omega
  refine E.step 1 (fun v w h1 h2=>by rewrite [h1,h2 0 (by decide)];exact zf26.l5_succ ..) ?_
  refine E.pos (by omega) (E.neg (by omega) (E.pos (by omega) (E.pos (by rw[tab_length];omega) (E.neg (by omega) ?_))))
  have hq0:=Int.ediv_nonneg hx (show (0:Int)≤(p:Int) by omega)
  have hq1:=Int.ediv_le_self (b:=(p:Int)) hx
  simp only[Int.tdiv_eq_ediv_of_nonneg hx,Int.tmod_eq_emod_of_nonneg hx,Int.toNat_natCast,tab_set,tab_length,tab_get _ hi',if_true]
  rw[wrap_nat (by omega),wrap_id (x:=x / p) (by omega) (by omega),wrap_id (x:=x / p+1) (by omega) (by omega)]
  refine E.ite (fun h=>E.pos (by omega) (E.pos (by omega) (E.pos (by omega) (E.pos (by omega) ?_)))) (fun h=>?_)
  ·refine E.congr (fun k=>?_) ih
   congr 1
   refine tab_ext fun j hj=>?_
   by_cases e:j=i
   ·subst e;simp[prt,h]
   ·simp only[if_neg e];by_cases e2:j<i
    ·rw[if_pos e2,if_pos (by omega)]
    ·rw[if_neg e2,if_neg (by omega)]
  ·refine E.congr (fun k=>?_) ih
   congr 1
   refine tab_ext fun j hj=>?_
   by_cases e:j=i
   ·subst e;simp[prt,h]
   ·simp only[if_neg e];by_cases e2:j<i
    ·rw[if_pos e2,if_pos (by omega)]
    ·rw[if_neg e2,if_neg (by omega)]
theorem splitEven_E (x:Int) (p:Nat) (hx:0≤x) (hx2:x≤1000000) (hp:0<p) (hp2:p≤12):E (fun k=>zf26 (k 0) (x,(p:Int))) (tab p (prt x p)):=by
 refine E.congr (fun k=>zf26.eq (k 0) ..) (E.neg (by omega) (E.neg (by omega) (E.neg (by omega) (E.neg (by omega) (E.pos (by omega) (E.pos (by omega) (E.pos (by simp only[maxN];omega) ?_)))))))
 rw[Int.toNat_natCast,List.length_replicate,replicate_tab]
 exact E.ren (fun _=>0) (splitEven_l5 x p hx hx2 hp hp2 p 0 (by omega))
def gAdd (e:Nat→Int) (gs:List Int) (s:Nat→Int):Nat→Nat→Int
 | 0=>e
 | i+1=>fun j=>if (j:Int)=gs.getD i 0 then gAdd e gs s i j+s i else gAdd e gs s i j
theorem gAdd_bd {e:Nat→Int} {gs:List Int} {s:Nat→Int} {A B:Int} (he:∀j,0≤e j∧e j≤A) (hs:∀i,0≤s i∧s i≤B):∀i j,0≤gAdd e gs s i j∧gAdd e gs s i j≤A+B*i
 | 0,j=>by have:=he j;simp[gAdd];omega
 | i+1,j=>by
  have:=gAdd_bd (gs:=gs) he hs i j
  have:=hs i
  have e2:B*((i+1:Nat):Int)=B*i+B:=by rw[Int.natCast_succ,Int.mul_add,Int.mul_one]
  simp only[gAdd]
  rw[e2]
  split <;> omega
def expo (ls:List Ln):Nat→Int:=ls.foldl (fun e l=>gAdd e l.2.2 (prt l.2.1 l.2.2.length) l.2.2.length) (fun _=>0)
theorem expo_snoc (ls:List Ln) (l:Ln):expo (ls++[l])=gAdd (expo ls) l.2.2 (prt l.2.1 l.2.2.length) l.2.2.length:=by simp[expo,List.foldl_append]
theorem expo_fold {m:Int} (hm:m≤12):∀(ls:List Ln) (e:Nat→Int) (n:Nat),(∀l ∈ ls,vL l m=true)→(∀j,0≤e j∧e j≤1300000*n)→∀j,0≤ls.foldl (fun e l=>gAdd e l.2.2 (prt l.2.1 l.2.2.length) l.2.2.length) e j∧ls.foldl (fun e l=>gAdd e l.2.2 (prt l.2.1 l.2.2.length) l.2.2.length) e j≤1300000*((n+ls.length:Nat):Int)
 | [],e,n,_,he,j=>he j
 | l::ls,e,n,hl,he,j=>by
  have hv:=vL_iff.1 (hl l (List.mem_cons_self ..))
  have h1:∀i,0≤prt l.2.1 l.2.2.length i∧prt l.2.1 l.2.2.length i≤100001:=fun i=>by
   have:=spl_bd (x:=l.2.1) (p:=l.2.2.length) (by omega) (by omega) i
   omega
  have:=expo_fold hm ls (gAdd e l.2.2 (prt l.2.1 l.2.2.length) l.2.2.length) (n+1) (fun l' h'=>hl l' (List.mem_cons_of_mem _ h')) (fun j=>by
   have:=gAdd_bd (gs:=l.2.2) he h1 l.2.2.length j
   omega) j
  rw[List.length_cons,show n+(ls.length+1)=n+1+ls.length by omega]
  exact this
theorem expo_bd {m:Int} (hm:m≤12) {ls:List Ln} (hv:∀l ∈ ls,vL l m=true) (hl:ls.length≤17) (j:Nat):0≤expo ls j∧expo ls j≤30000000:=by
 have:=expo_fold hm ls (fun _=>0) 0 hv (fun j=>by simp) j
 unfold expo
 omega
theorem exposureOf_l8 (n:Nat) (hn:n≤12) (e:Nat→Int) (l:Ln) (L:List Ln) (t:Nat) (r:List Int) (ht:t≤20) (hv:vL l n=true) (he:∀j,0≤e j∧e j≤30000000)
  (nx:E (fun k=>zf14.l5 (k 0) (k 1) L (L.length:Int) ((t+1:Nat):Int) (tab n (gAdd e l.2.2 (prt l.2.1 l.2.2.length) l.2.2.length))) r):∀(d i:Nat),i+d=l.2.2.length →
  E (fun k=>zf14.l8 (k 0) (k 1) (k 2) L (L.length:Int) (t:Int) (l.2.2.length:Int) (i:Int) (tab n (gAdd e l.2.2 (prt l.2.1 l.2.2.length) i)) l.1 l.2.1 l.2.2 (tab l.2.2.length (prt l.2.1 l.2.2.length))) r
 | 0,i,hi=>by
  refine E.step 2 (fun v w h1 h2=>by rewrite [h1,h2 0 (by decide),h2 1 (by decide)];exact zf14.l8_succ ..) ?_
  refine E.neg (by omega) ?_
  rw[wrap_nat (by omega),show i=l.2.2.length by omega]
  exact nx
 | d+1,i,hi=>by
  have ih:=exposureOf_l8 n hn e l L t r ht hv he nx d (i+1) (by omega)
  have hw:=vL_iff.1 hv
  have hil:i<l.2.2.length:=by omega
  have h1:∀i,0≤prt l.2.1 l.2.2.length i∧prt l.2.1 l.2.2.length i≤100001:=fun i=>by
   have:=spl_bd (x:=l.2.1) (p:=l.2.2.length) (by omega) (by omega) i
   omega
  have hgm:=hw.2.1.2.1 _ (getD_mem 0 hil)
  obtain ⟨g,hg⟩:∃g:Nat,l.2.2.getD i 0=g:=⟨(l.2.2.getD i 0).toNat,by omega⟩
  have hbd:=gAdd_bd (gs:=l.2.2) he h1 i g
  have hgn:g<n:=by omega
  refine E.step 2 (fun v w h1 h2=>by rewrite [h1,h2 0 (by decide),h2 1 (by decide)];exact zf14.l8_succ ..) ?_
  simp only[Int.toNat_natCast,tab_length,hg,tab_get _ hgn,tab_get _ hil,tab_set]
  refine E.pos (by omega) (E.pos (by omega) (E.pos (by omega) (E.pos (by omega) (E.pos (by omega) (E.pos (by omega) (E.pos (by omega) (E.pos (by omega) (E.pos (by omega) ?_))))))))
  have:=h1 i
  rw[wrap_nat (by omega),wrap_id (by omega) (by omega)]
  refine E.congr (fun k=>?_) ih
  congr 1
  refine tab_ext fun j hj=>?_
  simp only[gAdd,hg]
  by_cases e1:j=g
  ·subst e1;simp
  ·rw[if_neg e1,if_neg (by omega)]
theorem exposureOf_l5 (n:Nat) (hn:n≤12):∀(post pre:List Ln),(pre++post).length≤16→(∀l ∈ pre++post,vL l n=true) →
  E (fun k=>zf14.l5 (k 0) (k 1) (pre++post) ((pre++post).length:Int) (pre.length:Int) (tab n (expo pre))) (tab n (expo (pre++post)))
 | [],pre,_,_=>by
  refine E.step 1 (fun v w h1 h2=>by rewrite [h1,h2 0 (by decide)];exact zf14.l5_succ ..) ?_
  exact E.neg (by simp) (E.now' (by simp))
 | l::post,pre,hl,hv=>by
  have ih:=exposureOf_l5 n hn post (pre++[l]) (by simpa using hl) (by simpa using hv)
  rw[show (pre++[l]).length=pre.length+1 from by simp,List.append_assoc,expo_snoc] at ih
  have hv1:=hv l (by simp)
  have hw:=vL_iff.1 hv1
  have hb:=fun j=>expo_bd (m:=(n:Int)) (by omega) (ls:=pre) (fun l' h'=>hv l' (by simp[h'])) (by simp at hl;omega) j
  refine E.step 1 (fun v w h1 h2=>by rewrite [h1,h2 0 (by decide)];exact zf14.l5_succ ..) ?_
  refine E.pos (by simp;omega) (E.pos (by omega) (E.pos (by simp;omega) ?_))
  simp only[Int.toNat_natCast,getD_mid]
  refine E.bind (E.ren (fun _=>0) (splitEven_E _ _ (by omega) (by omega) (by omega) (by omega))) ?_
  rw[tab_length]
  exact E.ren (fun i=>if i=2 then 0 else i) (exposureOf_l8 n hn (expo pre) l (pre++l::post) pre.length _ (by simp at hl;omega) hv1 hb ih l.2.2.length 0 (by omega))
theorem exposureOf_E (ls:List Ln) (n:Nat):E (fun k=>zf14 (k 0) (ls,(n:Int))) (if vLs ls n then tab n (expo ls) else []):=by
 refine E.congr (fun k=>zf14.eq (k 0) ..) (E.bind (implValidLoans_E ls n) (E.ite (fun h=>?_) fun h=>?_))
 ·simp only[Bool.not_eq_true'] at h
  rw[h];exact E.now _
 ·simp only[Bool.not_eq_true',Bool.not_eq_false] at h
  have hw:=vLs_iff.1 h
  rw[if_pos h]
  refine E.pos (by omega) (E.pos (by omega) (E.pos (by simp only[maxN];omega) ?_))
  rw[Int.toNat_natCast,replicate_tab]
  exact E.ren (fun _=>0) (exposureOf_l5 n (by omega) ls [] hw.1.1 hw.2)
def freeF (st:List Int) (ls:List Ln) (j:Nat):Int:=st.getD j 0-expo ls j
theorem freeStakes_l5 (st:List Int) (ls:List Ln) (hs:vS st=true) (hv:vLs ls st.length=true):∀(d i:Nat),i+d=st.length →
  E (fun k=>zf16.l5 (k 0) (k 1) st (st.length:Int) (i:Int) (tab i (freeF st ls)) (tab st.length (expo ls))) (tab st.length (freeF st ls))
 | 0,i,hi=>by
  refine E.step 1 (fun v w h1 h2=>by rewrite [h1,h2 0 (by decide)];exact zf16.l5_succ ..) ?_
  exact E.neg (by omega) (E.now' (by rw[show i=st.length by omega]))
 | d+1,i,hi=>by
  have ih:=freeStakes_l5 st ls hs hv d (i+1) (by omega)
  have hw:=vLs_iff.1 hv
  have hi':i<st.length:=by omega
  have hb:=expo_bd (m:=(st.length:Int)) (by omega) hw.2 (by omega) i
  have hst:=stake_bd hs (j:=i) (by omega)
  refine E.step 1 (fun v w h1 h2=>by rewrite [h1,h2 0 (by decide)];exact zf16.l5_succ ..) ?_
  simp only[Int.toNat_natCast,tab_length,tab_get _ hi']
  refine E.pos (by omega) (E.pos (by omega) (E.pos (by omega) (E.pos (by omega) (E.pos (by omega) (E.pos (by simp[maxN];omega) ?_)))))
  rw[wrap_nat (by omega),wrap_id (by omega) (by omega)]
  rw[tab_succ] at ih
  exact ih
theorem freeStakes_E (st:List Int) (ls:List Ln):E (fun k=>zf16 (k 0) (st,ls)) (if vS st&&vLs ls st.length then tab st.length (freeF st ls) else []):=by
 refine E.congr (fun k=>zf16.eq (k 0) ..) (E.bind (implValidStakes_E st) (E.ite (fun h=>?_) fun h=>E.bind (exposureOf_E ls st.length) ?_))
 ·simp only[Bool.not_eq_true'] at h
  rw[h,Bool.false_and];exact E.now _
 ·simp only[Bool.not_eq_true',Bool.not_eq_false] at h
  rw[h,Bool.true_and]
  by_cases hv:vLs ls st.length=true
  ·rw[if_pos hv,if_pos hv,tab_length]
   exact E.ren (fun _=>0) (freeStakes_l5 st ls h hv st.length 0 (by omega))
  ·rw[if_neg hv,if_neg hv]
   refine E.ren (f:=fun k=>zf16.l5 (k 0) (k 1) st 0 0 [] []) (fun _=>0) ?_
   refine E.step 1 (fun v w h1 h2=>by rewrite [h1,h2 0 (by decide)];exact zf16.l5_succ ..) ?_
   exact E.neg (by simp) (E.now _)
theorem min_l5:∀(post pre:List Int) (m:Int),(pre++post).length<4611686018427387904→∃r,E (fun k=>zf78.l5 (k 0) (k 1) (pre++post) m (pre.length:Int)) r∧(0≤r↔0≤m∧∀x ∈ post,0≤x)
 | [],pre,m,_=>by
  refine ⟨m,?_,by simp⟩
  refine E.step 1 (fun v w h1 h2=>by rewrite [h1,h2 0 (by decide)];exact zf78.l5_succ ..) ?_
  exact E.neg (by simp) (E.now _)
 | x::post,pre,m,hl=>by
  obtain ⟨r,ih,hr⟩:=min_l5 post (pre++[x]) (mn m x) (by simpa using hl)
  rw[show (pre++[x]).length=pre.length+1 from by simp,List.append_assoc] at ih
  refine ⟨r,?_,?_⟩
  ·refine E.step 1 (fun v w h1 h2=>by rewrite [h1,h2 0 (by decide)];exact zf78.l5_succ ..) ?_
   refine E.pos (by simp;omega) (E.pos (by omega) (E.pos (by simp;omega) ?_))
   simp only[Int.toNat_natCast,getD_mid]
   rw[wrap_nat (by simp at hl;omega)]
   exact ih
  ·rw[hr,List.forall_mem_cons]
   unfold mn
   split <;> constructor <;> rintro ⟨h1,h2⟩ <;> refine ⟨?_,?_⟩ <;> first | omega | exact h2 | exact h2.2 | exact ⟨by omega,h2⟩
theorem min_E (xs:List Int) (h0:0<xs.length) (hl:xs.length<4611686018427387904):∃r,E (fun k=>zf78 (k 0) xs) r∧(0≤r↔∀x ∈ xs,0≤x):=by
 cases xs with
 | nil=>simp at h0
 | cons x xs=>
  obtain ⟨r,h,hr⟩:=min_l5 xs [x] x (by simpa using hl)
  exact ⟨r,E.congr (fun k=>zf78.eq (k 0) _) (E.neg (by omega) (E.pos (by omega) (E.ren (fun _=>0) h))),by rw[hr,List.forall_mem_cons]⟩
def safeB (st:List Int) (ls:List Ln):Bool:=vS st&&vLs ls st.length&&(tab st.length (freeF st ls)).all fun x=>decide (0≤x)
theorem safeLoans_E (st:List Int) (ls:List Ln):E (fun k=>zf24 (k 0) (st,ls)) (safeB st ls):=by
 refine E.congr (fun k=>zf24.eq (k 0) ..) (E.bind (freeStakes_E st ls) ?_)
 unfold safeB
 by_cases h:(vS st&&vLs ls st.length)=true
 ·rw[if_pos h,h,Bool.true_and,tab_length]
  have hs:=(vS_iff.1 ((Bool.and_eq_true _ _).mp h).1)
  obtain ⟨r,hr,hr2⟩:=min_E (tab st.length (freeF st ls)) (by rw[tab_length];omega) (by rw[tab_length];omega)
  refine E.pos (by omega) (E.bind hr (E.now' ?_))
  rw[Bool.eq_iff_iff,decide_eq_true_iff,List.all_eq_true]
  simp only[decide_eq_true_iff]
  exact hr2
 ·rw[if_neg h,Bool.eq_false_iff.2 h,Bool.false_and]
  exact E.neg (by simp) (E.now _)
end Go.Proofs.YtbgamdkmlikgjaaGreatDoorG
end
section
set_option linter.unusedVariables false
namespace Go.Proofs.YtbgamdkmlikgjaaGreatDoorG
open Go Go.Refl Go.Refl.Math Go.RowKit
theorem exposures_l7 (n:Nat) (hn:n≤12) (e:Nat→Int) (l:Ln) (L:List Ln) (t:Nat) (r:List Int) (ht:t<L.length) (ht2:t≤20) (hL:L.getD t (0,0,[])=l) (hv:vL l n=true) (he:∀j,0≤e j∧e j≤30000000)
  (nx:E (fun k=>zf98.l3 (k 0) (k 1) L ((t+1:Nat):Int) (tab n (gAdd e l.2.2 (prt l.2.1 l.2.2.length) l.2.2.length))) r):∀(d i:Nat),i+d=l.2.2.length →
  E (fun k=>zf98.l7 (k 0) (k 1) (k 2) L (t:Int) (i:Int) (tab n (gAdd e l.2.2 (prt l.2.1 l.2.2.length) i)) (tab l.2.2.length (prt l.2.1 l.2.2.length))) r
 | 0,i,hi=>by
  refine E.step 2 (fun v w h1 h2=>by rewrite [h1,h2 0 (by decide),h2 1 (by decide)];exact zf98.l7_succ ..) ?_
  refine E.neg (by rw[tab_length];omega) ?_
  rw[wrap_nat (by omega),show i=l.2.2.length by omega]
  exact nx
 | d+1,i,hi=>by
  have ih:=exposures_l7 n hn e l L t r ht ht2 hL hv he nx d (i+1) (by omega)
  have hw:=vL_iff.1 hv
  have hil:i<l.2.2.length:=by omega
  have h1:∀i,0≤prt l.2.1 l.2.2.length i∧prt l.2.1 l.2.2.length i≤100001:=fun i=>by
   have:=spl_bd (x:=l.2.1) (p:=l.2.2.length) (by omega) (by omega) i
   omega
  have hgm:=hw.2.1.2.1 _ (getD_mem 0 hil)
  obtain ⟨g,hg⟩:∃g:Nat,l.2.2.getD i 0=g:=⟨(l.2.2.getD i 0).toNat,by omega⟩
  have hbd:=gAdd_bd (gs:=l.2.2) he h1 i g
  have hgn:g<n:=by omega
  refine E.step 2 (fun v w h1 h2=>by rewrite [h1,h2 0 (by decide),h2 1 (by decide)];exact zf98.l7_succ ..) ?_
  simp only[Int.toNat_natCast,hL,tab_length,hg,tab_get _ hgn,tab_get _ hil,tab_set]
  refine E.pos (by omega) (E.pos (by omega) (E.pos (by omega) (E.pos (by omega) (E.pos (by omega) (E.pos (by omega) (E.pos (by omega) (E.pos (by omega) (E.pos (by omega) (E.pos (by omega) (E.pos (by omega) (E.pos (by omega) (E.pos (by omega) (E.pos (by omega) (E.pos (by omega) ?_))))))))))))))
  have:=h1 i
  rw[wrap_nat (by omega),wrap_id (by omega) (by omega)]
  refine E.congr (fun k=>?_) ih
  congr 1
  refine tab_ext fun j hj=>?_
  simp only[gAdd,hg]
  by_cases e1:j=g
  ·subst e1;simp
  ·rw[if_neg e1,if_neg (by omega)]
theorem exposures_l3 (n:Nat) (hn:n≤12):∀(post pre:List Ln),(pre++post).length≤16→(∀l ∈ pre++post,vL l n=true) →
  E (fun k=>zf98.l3 (k 0) (k 1) (pre++post) (pre.length:Int) (tab n (expo pre))) (tab n (expo (pre++post)))
 | [],pre,_,_=>by
  refine E.step 1 (fun v w h1 h2=>by rewrite [h1,h2 0 (by decide)];exact zf98.l3_succ ..) ?_
  exact E.neg (by simp) (E.now' (by simp))
 | l::post,pre,hl,hv=>by
  have ih:=exposures_l3 n hn post (pre++[l]) (by simpa using hl) (by simpa using hv)
  rw[show (pre++[l]).length=pre.length+1 from by simp,List.append_assoc,expo_snoc] at ih
  have hv1:=hv l (by simp)
  have hw:=vL_iff.1 hv1
  have hb:=fun j=>expo_bd (m:=(n:Int)) (by omega) (ls:=pre) (fun l' h'=>hv l' (by simp[h'])) (by simp at hl;omega) j
  have h1:(pre.length:Int)<((pre++l::post).length:Int):=by simp;omega
  refine E.step 1 (fun v w h1 h2=>by rewrite [h1,h2 0 (by decide)];exact zf98.l3_succ ..) ?_
  refine E.pos h1 (E.pos (by omega) (E.pos h1 (E.pos (by omega) (E.pos h1 ?_))))
  simp only[Int.toNat_natCast,getD_mid]
  refine E.bind (E.ren (fun _=>0) (split_E _ _ (by omega) (by omega) (by omega))) ?_
  exact E.ren (fun i=>if i=2 then 0 else i) (exposures_l7 n hn (expo pre) l (pre++l::post) pre.length _ (by simp) (by simp at hl;omega) (getD_mid ..) hv1 hb ih l.2.2.length 0 (by omega))
theorem exposures_E (ls:List Ln) (n:Nat) (hv:vLs ls n=true):E (fun k=>zf98 (k 0) (ls,(n:Int))) (tab n (expo ls)):=by
 have hw:=vLs_iff.1 hv
 refine E.congr (fun k=>zf98.eq (k 0) ..) (E.pos (by omega) (E.pos (by omega) (E.pos (by simp only[maxN];omega) ?_)))
 rw[Int.toNat_natCast,replicate_tab]
 exact E.ren (fun _=>0) (exposures_l3 n (by omega) ls [] hw.1.1 hw.2)
theorem specFree_l3 (st:List Int) (ls:List Ln) (hs:vS st=true) (hv:vLs ls st.length=true):∀(d i:Nat),i+d=st.length →
  E (fun k=>zf102.l3 (k 0) (k 1) st (i:Int) (tab st.length (fun j=>if j<i then freeF st ls j else expo ls j))) (tab st.length (freeF st ls))
 | 0,i,hi=>by
  refine E.step 1 (fun v w h1 h2=>by rewrite [h1,h2 0 (by decide)];exact zf102.l3_succ ..) ?_
  exact E.neg (by rw[tab_length];omega) (E.now' (tab_ext fun j hj=>if_pos (by omega)))
 | d+1,i,hi=>by
  have ih:=specFree_l3 st ls hs hv d (i+1) (by omega)
  have hw:=vLs_iff.1 hv
  have hi':i<st.length:=by omega
  have hb:=expo_bd (m:=(st.length:Int)) (by omega) hw.2 (by omega) i
  have hst:=stake_bd hs (j:=i) (by omega)
  refine E.step 1 (fun v w h1 h2=>by rewrite [h1,h2 0 (by decide)];exact zf102.l3_succ ..) ?_
  simp only[Int.toNat_natCast,tab_length,tab_get _ hi',tab_set]
  refine E.pos (by omega) (E.pos (by omega) (E.pos (by omega) (E.pos (by omega) (E.pos (by omega) (E.pos (by omega) (E.pos (by omega) ?_))))))
  rw[wrap_nat (by omega),if_neg (by omega),wrap_id (by omega) (by omega)]
  refine E.congr (fun k=>?_) ih
  congr 1
  refine tab_ext fun j hj=>?_
  by_cases e:j=i
  ·subst e;rw[if_pos rfl,if_pos (by omega)];rfl
  ·rw[if_neg e]
   by_cases e2:j<i
   ·rw[if_pos e2,if_pos (by omega)]
   ·rw[if_neg e2,if_neg (by omega)]
theorem specFree_E (st:List Int) (ls:List Ln) (hs:vS st=true) (hv:vLs ls st.length=true):E (fun k=>zf102 (k 0) (st,ls)) (tab st.length (freeF st ls)):=by
 refine E.congr (fun k=>zf102.eq (k 0) ..) (E.bind (exposures_E ls st.length hv) ?_)
 have:=specFree_l3 st ls hs hv st.length 0 (by omega)
 refine E.congr (fun k=>?_) (E.ren (fun _=>0) this)
 congr 1
theorem specSafe_E (st:List Int) (ls:List Ln) (hs:vS st=true) (hv:vLs ls st.length=true):E (fun k=>zf125 (k 0) (st,ls)) (safeB st ls):=by
 have hw:=vLs_iff.1 hv
 have hs2:=vS_iff.1 hs
 refine E.congr (fun k=>zf125.eq (k 0) ..) (E.bind (specFree_E st ls hs hv) (E.bind (allIn_E _ _ _ (by rw[tab_length];omega)) (E.now' ?_)))
 unfold safeB
 rw[hs,hv,Bool.true_and,Bool.true_and,Bool.eq_iff_iff,allW_iff,List.all_eq_true]
 simp only[decide_eq_true_iff]
 refine ⟨fun h x hx=>(h x hx).1,fun h x hx=>⟨h x hx,?_⟩⟩
 obtain ⟨j,hj,rfl⟩:=mem_tab.1 hx
 have:=stake_bd hs hj
 have:=expo_bd (m:=(st.length:Int)) (by omega) hw.2 (by omega) j
 unfold freeF
 omega
end Go.Proofs.YtbgamdkmlikgjaaGreatDoorG
end
section
set_option linter.unusedVariables false
namespace Go.Proofs.YtbgamdkmlikgjaaGreatDoorG
open Go Go.Refl Go.Refl.Math Go.RowKit
abbrev Ev7:=Int × Int × Int × Int × List Int × Int × Int
def moved (c:Clb) (i d:Int):Clb:=(c.1.set i.toNat (c.1.getD i.toNat 0+d),c.2.1,c.2.2.1+d,c.2.2.2.1,c.2.2.2.2)
def okMove (c:Clb) (i a:Int):Bool:=decide (0≤i∧i<(c.1.length:Int)∧1≤a∧a≤100000)
theorem specMove_E (c:Clb) (hc:vC c=true) (e:Ev7):E (fun k=>zf107 (k 0) (c,e))
  (if okMove c e.2.1 e.2.2.1 then (moved c e.2.1 (if e.1=2 then -e.2.2.1 else e.2.2.1),vS (moved c e.2.1 (if e.1=2 then -e.2.2.1 else e.2.2.1)).1&&(decide (e.1≠2) || safeB (moved c e.2.1 (if e.1=2 then -e.2.2.1 else e.2.2.1)).1 c.2.1)) else (c,false)):=by
 obtain ⟨h1,h2,h3⟩:=vC_parts hc
 have a1:=vS_iff.1 h1
 refine E.congr (fun k=>zf107.eq (k 0) c e) ?_
 rw[wrap_id (x:=(c.1.length:Int)-1) (by omega) (by omega)]
 refine E.bind (inRange_E ..) (E.ite (fun h=>E.now' ?_) (fun g1=>E.bind (inRange_E ..) (E.ite (fun h=>E.now' ?_) (fun g2=>?_))))
 ·rw[if_neg (by unfold okMove;simp at h ⊢;omega)]
 ·rw[if_neg (by unfold okMove;simp at h ⊢;omega)]
 simp at g1 g2
 have hok:okMove c e.2.1 e.2.2.1=true:=by unfold okMove;simp;omega
 rw[if_pos hok]
 have hst:=stake_bd h1 (j:=e.2.1.toNat) (by omega)
 refine E.ite (fun hk=>?_) (fun hk=>?_)
 ·rw[if_pos hk,wrap_id (x:=0-e.2.2.1) (by omega) (by omega),wrap_id (by omega) (by omega),wrap_id (by omega) (by omega)]
  rw[show (0:Int)-e.2.2.1=-e.2.2.1 by omega]
  refine E.pos (by omega) (E.pos (by omega) (E.pos (by omega) (E.pos (by omega) (E.bind (specValidStakes_E _) (E.ite (fun hv=>E.neg (by omega) (E.bind (specSafe_E _ c.2.1 hv (by rw[List.length_set];exact h2)) (E.now' ?_))) (fun hv=>E.now' ?_))))))
  ·have:vS (moved c e.2.1 (-e.2.2.1)).1=true:=hv
   rw[this]
   simp[moved,hk]
  ·have:vS (moved c e.2.1 (-e.2.2.1)).1=false:=Bool.eq_false_iff.2 hv
   rw[this,Bool.false_and]
   rfl
 ·rw[if_neg hk,wrap_id (by omega) (by omega),wrap_id (by omega) (by omega)]
  refine E.pos (by omega) (E.pos (by omega) (E.pos (by omega) (E.pos (by omega) (E.bind (specValidStakes_E _) (E.ite (fun hv=>E.pos (by omega) (E.now' ?_)) (fun hv=>E.now' ?_))))))
  ·have:vS (moved c e.2.1 e.2.2.1).1=true:=hv
   rw[this]
   simp[moved,hk]
  ·have:vS (moved c e.2.1 e.2.2.1).1=false:=Bool.eq_false_iff.2 hv
   rw[this,Bool.false_and]
   rfl
theorem implMove_E (c:Clb) (hc:vC c=true) (e:Ev7) (s:Int) (hs:s=1∨s=-1):E (fun k=>zf10 (k 0) (c,e,s))
  (if okMove c e.2.1 e.2.2.1 then (true,moved c e.2.1 (s*e.2.2.1)) else (false,c)):=by
 obtain ⟨h1,h2,h3⟩:=vC_parts hc
 have a1:=vS_iff.1 h1
 refine E.congr (fun k=>zf10.eq (k 0) c e s) (E.ite (fun h=>E.now' ?_) (fun g1=>E.ite (fun h=>E.now' ?_) (fun g2=>E.ite (fun h=>E.now' ?_) (fun g3=>E.ite (fun h=>E.now' ?_) (fun g4=>?_)))))
 ·rw[if_neg (by unfold okMove;simp;omega)]
 ·rw[if_neg (by unfold okMove;simp;omega)]
 ·rw[if_neg (by unfold okMove;simp;omega)]
 ·rw[if_neg (by unfold okMove;simp;omega)]
 have hok:okMove c e.2.1 e.2.2.1=true:=by unfold okMove;simp;omega
 have hst:=stake_bd h1 (j:=e.2.1.toNat) (by omega)
 rw[if_pos hok]
 have hm:s*e.2.2.1=e.2.2.1∨s*e.2.2.1=-e.2.2.1:=by
  rcases hs with rfl | rfl
  ·left;omega
  ·right;omega
 refine E.pos (by omega) (E.pos (by omega) (E.pos (by omega) (E.pos (by omega) (E.now' ?_))))
 rw[wrap_id (x:=s*e.2.2.1) (by omega) (by omega),wrap_id (by omega) (by omega),wrap_id (by omega) (by omega)]
 rfl
end Go.Proofs.YtbgamdkmlikgjaaGreatDoorG
end
section
set_option linter.unusedVariables false
namespace Go.Proofs.YtbgamdkmlikgjaaGreatDoorG
open Go Go.Refl Go.Refl.Math Go.RowKit
def lentTo (c:Clb) (l:Ln) (d:Int):Clb:=(c.1,c.2.1++[l],c.2.2.1-d,c.2.2.2.1,c.2.2.2.2)
theorem specLend_E (c:Clb) (hc:vC c=true) (l:Ln) (hl:l.2.2.length≤1000000000):E (fun k=>zf104 (k 0) (c,l))
  (if safeB c.1 (c.2.1++[l]) then (lentTo c l l.2.1,true) else (lentTo c l 0,false)):=by
 obtain ⟨h1,h2,h3⟩:=vC_parts hc
 have a1:=vS_iff.1 h1
 have a2:=vLs_iff.1 h2
 have f:=vC_fits hc
 have e:∀x:Ln,List.set (List.replicate 1 ((0:Int),(0:Int),([]:List Int))) 0 x=[x]:=fun _=>rfl
 refine E.congr (fun k=>zf104.eq (k 0) c l) ?_
 simp only[e]
 refine E.pos (by simp[maxN];omega) (E.bind (specValidLoans_E (c.2.1++[l]) c.1.length (by omega) (by omega) (by simp;omega) (fun x hx=>?_)) (E.ite (fun h=>E.now' ?_) (fun g=>?_)))
 ·rcases List.mem_append.1 hx with h | h
  ·have:=f.inner x h;omega
  ·simp at h;subst h;omega
 ·simp only[Bool.not_eq_true'] at h
  have:safeB c.1 (c.2.1++[l])=false:=by
   unfold safeB
   rw[show vLs (c.2.1++[l]) c.1.length=false from h,Bool.and_false,Bool.false_and]
  rw[this]
  simp[lentTo]
 ·simp only[Bool.not_eq_true',Bool.not_eq_false] at g
  refine E.bind (specSafe_E c.1 (c.2.1++[l]) h1 g) (E.ite (fun h=>E.now' ?_) (fun h=>E.now' ?_))
  ·simp only[Bool.not_eq_true'] at h
   rw[h]
   simp[lentTo]
  ·simp only[Bool.not_eq_true',Bool.not_eq_false] at h
   have hv:=(vLs_iff.1 g).2 l (by simp)
   have:=(vL_iff.1 hv).1
   rw[h,wrap_id (by omega) (by omega)]
   rfl
theorem implLend_E (c:Clb) (hc:vC c=true) (e:Ev7) (hl:e.2.2.2.2.1.length≤1000000000):E (fun k=>zf9 (k 0) (c,e))
  (if safeB c.1 (c.2.1++[(e.2.1,e.2.2.1,e.2.2.2.2.1)]) then (true,lentTo c (e.2.1,e.2.2.1,e.2.2.2.2.1) e.2.2.1) else (false,lentTo c (e.2.1,e.2.2.1,e.2.2.2.2.1) 0)):=by
 obtain ⟨h1,h2,h3⟩:=vC_parts hc
 have a1:=vS_iff.1 h1
 have a2:=vLs_iff.1 h2
 have e0:∀x:Ln,List.set (List.replicate 1 ((0:Int),(0:Int),([]:List Int))) 0 x=[x]:=fun _=>rfl
 refine E.congr (fun k=>zf9.eq (k 0) c e) ?_
 simp only[e0]
 refine E.bind (clone_E _ hl) (E.pos (by simp[maxN];omega) (E.bind (safeLoans_E _ _) (E.ite (fun h=>E.now' ?_) (fun h=>E.now' ?_))))
 ·simp only[Bool.not_eq_true'] at h
  rw[h]
  simp[lentTo]
 ·simp only[Bool.not_eq_true',Bool.not_eq_false] at h
  have hb:vLs (c.2.1++[(e.2.1,e.2.2.1,e.2.2.2.2.1)]) c.1.length=true:=by
   unfold safeB at h
   rw[Bool.and_eq_true,Bool.and_eq_true] at h
   exact h.1.2
  have hv:=(vLs_iff.1 hb).2 (e.2.1,e.2.2.1,e.2.2.2.2.1) (by simp)
  have:=(vL_iff.1 hv).1
  simp only at this
  rw[h,wrap_id (by omega) (by omega)]
  rfl
end Go.Proofs.YtbgamdkmlikgjaaGreatDoorG
end
section
set_option linter.unusedVariables false
namespace Go.Proofs.YtbgamdkmlikgjaaGreatDoorG
open Go Go.Refl Go.Refl.Math Go.RowKit
theorem del_eq {α:Type} (L:List α) (i:Nat):List.take (i-0) L++List.take (L.length-(i+1)) (List.drop (i+1) L)=L.eraseIdx i:=by
 have h:List.take (L.length-(i+1)) (List.drop (i+1) L)=List.drop (i+1) L:=List.take_of_length_le (by simp)
 rw[h,List.eraseIdx_eq_take_drop_succ,Nat.sub_zero]
theorem del_len {α:Type} (L:List α) (i:Nat) (h:i<L.length):i-0+(List.take (L.length-(i+1)) (List.drop (i+1) L)).length=L.length-1:=by
 rw[List.take_of_length_le (by simp),List.length_drop];omega
theorem delete_E (L:List Ln) (i:Nat) (h:i<L.length) (hl:L.length≤1000000000):E (fun k=>zf75 (k 0) (L,(i:Int),((i+1:Nat):Int))) (L.eraseIdx i):=by
 refine E.congr (fun k=>zf75.eq (k 0) ..) ?_
 simp only[Int.toNat_natCast,del_len L i h,del_eq]
 have he:(L.eraseIdx i).length=L.length-1:=by rw[List.length_eraseIdx,if_pos h]
 refine E.pos (by omega) (E.pos (by omega) (E.pos (by omega) (E.pos (by omega) (E.neg (by omega) (E.pos (by omega) (E.pos (by omega) (E.pos (by omega) (E.pos (by omega) (E.pos (by omega) (E.pos (by omega) (E.pos (by omega) (E.pos (by omega) (E.pos (by simp[he] <;> omega) (E.now' ?_))))))))))))))
 rw[Nat.zero_add,List.take_left' he,List.append_assoc,List.take_left' he]
def payL (ls:List Ln) (i:Nat) (a:Int):List Ln:=
 if (ls.getD i (0,0,[])).2.1-a=0 then ls.eraseIdx i else ls.set i ((ls.getD i (0,0,[])).1,(ls.getD i (0,0,[])).2.1-a,(ls.getD i (0,0,[])).2.2)
def okPay (c:Clb) (e:Ev7):Bool:=decide (0≤e.2.1∧e.2.1<(c.2.1.length:Int))&&decide (1≤e.2.2.1∧e.2.2.1≤(c.2.1.getD e.2.1.toNat (0,0,[])).2.1∧0≤e.2.2.2.1∧e.2.2.2.1≤100000)
def paid (c:Clb) (e:Ev7):Clb:=(c.1,payL c.2.1 e.2.1.toNat e.2.2.1,c.2.2.1+e.2.2.1+e.2.2.2.1,c.2.2.2.1+e.2.2.2.1,c.2.2.2.2)
theorem getD_set_self {α:Type} {d x:α} {L:List α} {i:Nat} (h:i<L.length):(L.set i x).getD i d=x:=by
 simp[List.getD_eq_getElem?_getD,h]
theorem specRepay_E (c:Clb) (hc:vC c=true) (e:Ev7):E (fun k=>zf123 (k 0) (c,e)) (if okPay c e then (paid c e,true) else (c,false)):=by
 obtain ⟨h1,h2,h3⟩:=vC_parts hc
 have a1:=vS_iff.1 h1
 have a2:=vLs_iff.1 h2
 refine E.congr (fun k=>zf123.eq (k 0) c e) ?_
 rw[wrap_id (x:=(c.2.1.length:Int)-1) (by omega) (by omega)]
 refine E.bind (inRange_E ..) (E.ite (fun h=>E.now' ?_) (fun g1=>?_))
 ·rw[if_neg (by unfold okPay;simp at h ⊢;omega)]
 simp at g1
 refine E.pos (by omega) (E.pos (by omega) (E.bind (inRange_E ..) (E.ite (fun h=>E.now' ?_) (fun g2=>E.bind (inRange_E ..) (E.ite (fun h=>E.now' ?_) (fun g3=>?_))))))
 ·rw[if_neg (by unfold okPay;simp at h ⊢;omega)]
 ·rw[if_neg (by unfold okPay;simp at h ⊢;omega)]
 simp only[Bool.not_eq_true',Bool.not_eq_false,Bool.and_eq_true,decide_eq_true_eq] at g2 g3
 have hok:okPay c e=true:=by
  unfold okPay
  rw[Bool.and_eq_true,decide_eq_true_iff,decide_eq_true_iff]
  omega
 have hi:e.2.1.toNat<c.2.1.length:=by omega
 have hv:=(vL_iff.1 (a2.2 _ (getD_mem (0,0,[]) hi))).1
 rw[if_pos hok]
 simp only[List.length_set,getD_set_self hi]
 rw[show wrap64 (e.2.1+1)=((e.2.1.toNat+1:Nat):Int) by rw[wrap_id (by omega) (by omega)];omega,Int.toNat_natCast]
 simp only[wrap_id (x:=(c.2.1.getD e.2.1.toNat (0,0,[])).2.1-e.2.2.1) (by omega) (by omega),wrap_id (x:=c.2.2.1+e.2.2.1) (by omega) (by omega),wrap_id (x:=c.2.2.1+e.2.2.1+e.2.2.2.1) (by omega) (by omega),wrap_id (x:=c.2.2.2.1+e.2.2.2.1) (by omega) (by omega)]
 refine E.pos (by omega) (E.pos (by omega) (E.pos (by omega) (E.pos (by omega) (E.pos (by omega) (E.pos (by omega) (E.ite (fun hz=>?_) (fun hz=>E.now' ?_)))))))
 ·have d:=fun x=>del_eq (c.2.1.set e.2.1.toNat x) e.2.1.toNat
  have dl:=fun x=>del_len (c.2.1.set e.2.1.toNat x) e.2.1.toNat (by rw[List.length_set];exact hi)
  simp only[List.length_set] at d dl
  refine E.pos (by omega) (E.pos (by omega) (E.pos (by omega) (E.pos (by omega) (E.pos (by rw[dl];simp only[maxN];omega) (E.now' ?_)))))
  rw[d,List.eraseIdx_set_eq]
  unfold paid payL
  rw[if_pos hz]
 ·unfold paid payL
  rw[if_neg hz]
theorem payLoan_E (ls:List Ln) (m i a:Int) (hv:vLs ls m=true) (hi:0≤i∧i<(ls.length:Int)) (ha:1≤a∧a≤(ls.getD i.toNat (0,0,[])).2.1) (hin:∀l ∈ ls,l.2.2.length≤1000000000):E (fun k=>zf18 (k 0) (ls,m,i,a)) (payL ls i.toNat a):=by
 have a2:=vLs_iff.1 hv
 have hi':i.toNat<ls.length:=by omega
 have hl:=(vL_iff.1 (a2.2 _ (getD_mem (0,0,[]) hi'))).1
 refine E.congr (fun k=>zf18.eq (k 0) ..) (E.bind (implValidLoans_E ls m) (E.neg (by rw[hv];decide) (E.neg (by omega) (E.neg (by omega) (E.neg (by omega) (E.pos (by omega) (E.pos (by omega) (E.neg (by omega) (E.bind (implCopyLoans_E ls (by omega) hin) ?_)))))))))
 simp only[List.length_set,getD_set_self hi',wrap_id (x:=(ls.getD i.toNat (0,0,[])).2.1-a) (by omega) (by omega)]
 rw[show wrap64 (i+1)=((i.toNat+1:Nat):Int) by rw[wrap_id (by omega) (by omega)];omega]
 refine E.pos (by omega) (E.pos (by omega) (E.pos (by omega) (E.pos (by omega) (E.pos (by omega) (E.pos (by omega) (E.ite (fun hz=>?_) (fun hz=>E.now' ?_)))))))
 ·have d:=delete_E (ls.set i.toNat ((ls.getD i.toNat (0,0,[])).1,(ls.getD i.toNat (0,0,[])).2.1-a,(ls.getD i.toNat (0,0,[])).2.2)) i.toNat (by rw[List.length_set];exact hi') (by rw[List.length_set];omega)
  rw[List.eraseIdx_set_eq,show ((i.toNat:Nat):Int)=i by omega] at d
  refine E.bind d (E.now' ?_)
  unfold payL
  rw[if_pos hz]
 ·unfold payL
  rw[if_neg hz]
theorem implRepay_E (c:Clb) (hc:vC c=true) (e:Ev7):E (fun k=>zf12 (k 0) (c,e)) (if okPay c e then (true,paid c e) else (false,c)):=by
 obtain ⟨h1,h2,h3⟩:=vC_parts hc
 have a1:=vS_iff.1 h1
 have a2:=vLs_iff.1 h2
 have no:¬(0≤e.2.1∧e.2.1<(c.2.1.length:Int))∨¬(1≤e.2.2.1∧e.2.2.1≤(c.2.1.getD e.2.1.toNat (0,0,[])).2.1∧0≤e.2.2.2.1∧e.2.2.2.1≤100000)→(false,c)=(if okPay c e then (true,paid c e) else (false,c)):=by
  intro h
  rw[if_neg]
  unfold okPay
  rw[Bool.and_eq_true,decide_eq_true_iff,decide_eq_true_iff]
  omega
 refine E.congr (fun k=>zf12.eq (k 0) c e) (E.ite (fun h=>E.now' (no (by omega))) fun g1=>E.ite (fun h=>E.now' (no (by omega))) fun g2=>E.ite (fun h=>E.now' (no (by omega))) fun g3=>E.ite (fun h=>E.now' (no (by omega))) fun g4=>E.ite (fun h=>E.now' (no (by omega))) fun g5=>E.pos (by omega) (E.pos (by omega) (E.ite (fun h=>E.now' (no (by omega))) fun g6=>?_)))
 have hi:e.2.1.toNat<c.2.1.length:=by omega
 have hl:=(vL_iff.1 (a2.2 _ (getD_mem (0,0,[]) hi))).1
 have hok:okPay c e=true:=by
  unfold okPay
  rw[Bool.and_eq_true,decide_eq_true_iff,decide_eq_true_iff]
  omega
 rw[if_pos hok,wrap_id (x:=e.2.2.1+e.2.2.2.1) (by omega) (by omega),wrap_id (by omega) (by omega),wrap_id (by omega) (by omega)]
 refine E.bind (payLoan_E c.2.1 c.1.length e.2.1 e.2.2.1 h2 (by omega) (by omega) (vC_fits hc).inner) (E.now' ?_)
 unfold paid
 rw[Int.add_assoc]
end Go.Proofs.YtbgamdkmlikgjaaGreatDoorG
end
section
set_option linter.unusedVariables false
namespace Go.Proofs.YtbgamdkmlikgjaaGreatDoorG
open Go Go.Refl Go.Refl.Math Go.RowKit
def shared (c:Clb):Clb:=(tab c.1.length fun j=>c.1.getD j 0+prt c.2.2.2.1 c.1.length j,c.2.1,c.2.2.1,0,c.2.2.2.2)
theorem share_ext (st s:Nat→Int) (n i:Nat):tab n (fun j=>if j=i then (if j<i then st j+s j else st j)+s j else if j<i then st j+s j else st j)=tab n (fun j=>if j<i+1 then st j+s j else st j):=by
 refine tab_ext fun j hj=>?_
 by_cases e:j=i
 ·subst e;simp
 ·rw[if_neg e]
  by_cases e2:j<i
  ·rw[if_pos e2,if_pos (by omega)]
  ·rw[if_neg e2,if_neg (by omega)]
theorem specSharing_l5 (st s:Nat→Int) (n:Nat) (hn:n≤1000) (hb:∀j,j<n→0≤st j∧st j≤100000000∧0≤s j∧s j≤100000000) (a b c a' b' c':Int) (ls:List Ln):∀(d i:Nat),i+d=n →
  E (fun k=>zf126.l5 (k 0) (k 1) (i:Int) a b c a' b' c' (tab n s) (tab n fun j=>if j<i then st j+s j else st j) ls) ((tab n (fun j=>st j+s j),ls,a,0,c),true)
 | 0,i,hi=>by
  refine E.step 1 (fun v w h1 h2=>by rewrite [h1,h2 0 (by decide)];exact zf126.l5_succ ..) ?_
  refine E.neg (by rw[tab_length];omega) (E.now' ?_)
  rw[show (tab n fun j=>if j<i then st j+s j else st j)=tab n (fun j=>st j+s j) from tab_ext fun j hj=>if_pos (by omega)]
 | d+1,i,hi=>by
  have ih:=specSharing_l5 st s n hn hb a b c a' b' c' ls d (i+1) (by omega)
  have hi':i<n:=by omega
  have h:=hb i hi'
  refine E.step 1 (fun v w h1 h2=>by rewrite [h1,h2 0 (by decide)];exact zf126.l5_succ ..) ?_
  simp only[Int.toNat_natCast,tab_length,tab_get _ hi',tab_set,Nat.lt_irrefl,if_false]
  refine E.pos (by omega) (E.pos (by omega) (E.pos (by omega) (E.pos (by omega) (E.pos (by omega) (E.pos (by omega) (E.pos (by omega) ?_))))))
  rw[wrap_nat (by omega),wrap_id (by omega) (by omega)]
  refine E.congr (fun k=>?_) ih
  congr 1
  rw[←share_ext]
  refine tab_ext fun j hj=>?_
  by_cases e:j=i
  ·subst e;simp
  ·rw[if_neg e,if_neg e]
theorem implShare_l4 (st s:Nat→Int) (n:Nat) (hn:n≤1000) (hb:∀j,j<n→0≤st j∧st j≤100000000∧0≤s j∧s j≤100000000) (a b c:Int) (ls:List Ln):∀(d i:Nat),i+d=n →
  E (fun k=>zf13.l4 (k 0) (k 1) (n:Int) (i:Int) a b c (tab n s) (tab n fun j=>if j<i then st j+s j else st j) ls) (true,tab n (fun j=>st j+s j),ls,a,0,c)
 | 0,i,hi=>by
  refine E.step 1 (fun v w h1 h2=>by rewrite [h1,h2 0 (by decide)];exact zf13.l4_succ ..) ?_
  refine E.neg (by omega) (E.now' ?_)
  rw[show (tab n fun j=>if j<i then st j+s j else st j)=tab n (fun j=>st j+s j) from tab_ext fun j hj=>if_pos (by omega)]
 | d+1,i,hi=>by
  have ih:=implShare_l4 st s n hn hb a b c ls d (i+1) (by omega)
  have hi':i<n:=by omega
  have h:=hb i hi'
  refine E.step 1 (fun v w h1 h2=>by rewrite [h1,h2 0 (by decide)];exact zf13.l4_succ ..) ?_
  simp only[Int.toNat_natCast,tab_length,tab_get _ hi',tab_set,Nat.lt_irrefl,if_false]
  refine E.pos (by omega) (E.pos (by omega) (E.pos (by omega) (E.pos (by omega) (E.pos (by omega) (E.pos (by omega) (E.pos (by omega) ?_))))))
  rw[wrap_nat (by omega),wrap_id (by omega) (by omega)]
  refine E.congr (fun k=>?_) ih
  congr 1
  rw[←share_ext]
  refine tab_ext fun j hj=>?_
  by_cases e:j=i
  ·subst e;simp
  ·rw[if_neg e,if_neg e]
theorem share_start {x:Int} {p:Nat} (st:List Int):(tab st.length fun j=>if j<0 then st.getD j 0+prt x p j else st.getD j 0)=st:=by
 conv=>rhs;rw[tab_of st]
 exact tab_ext fun j hj=>if_neg (by omega)
theorem specSharing_E (c:Clb) (hc:vC c=true):E (fun k=>zf126 (k 0) c) (if c.2.2.2.1<0 then (c,false) else (shared c,true)):=by
 obtain ⟨h1,h2,h3⟩:=vC_parts hc
 have a1:=vS_iff.1 h1
 refine E.congr (fun k=>zf126.eq (k 0) c) (E.ite (fun h=>E.now' (by rw[if_pos h])) (fun h=>?_))
 rw[if_neg h]
 refine E.bind (split_E _ _ (by omega) (by omega) (by omega)) ?_
 have:=specSharing_l5 (fun j=>c.1.getD j 0) (prt c.2.2.2.1 c.1.length) c.1.length (by omega) (fun j hj=>by
  have:=stake_bd h1 hj
  have:=spl_bd (x:=c.2.2.2.1) (p:=c.1.length) (by omega) (by omega) j
  omega) c.2.2.1 c.2.2.2.1 c.2.2.2.2 0 0 0 c.2.1 c.1.length 0 (by omega)
 rw[share_start] at this
 exact E.ren (fun _=>0) this
theorem implShare_E (c:Clb) (hc:vC c=true):E (fun k=>zf13 (k 0) c) (if c.2.2.2.1<0 then (false,c) else (true,shared c)):=by
 obtain ⟨h1,h2,h3⟩:=vC_parts hc
 have a1:=vS_iff.1 h1
 refine E.congr (fun k=>zf13.eq (k 0) c) (E.ite (fun h=>E.now' (by rw[if_pos h])) (fun h=>?_))
 rw[if_neg h]
 refine E.bind (splitEven_E _ _ (by omega) (by omega) (by omega) (by omega)) ?_
 rw[tab_length]
 have:=implShare_l4 (fun j=>c.1.getD j 0) (prt c.2.2.2.1 c.1.length) c.1.length (by omega) (fun j hj=>by
  have:=stake_bd h1 hj
  have:=spl_bd (x:=c.2.2.2.1) (p:=c.1.length) (by omega) (by omega) j
  omega) c.2.2.1 c.2.2.2.1 c.2.2.2.2 c.2.1 c.1.length 0 (by omega)
 rw[share_start] at this
 exact E.ren (fun _=>0) this
end Go.Proofs.YtbgamdkmlikgjaaGreatDoorG
end
section
set_option linter.unusedVariables false
set_option maxHeartbeats 200000
namespace Go.Proofs.YtbgamdkmlikgjaaGreatDoorG
open Go Go.Refl Go.Refl.Math Go.RowKit
theorem half_parts {t q:Int} (ht:0≤t) (hq:0<q) :
  (2*t+q) / (2*q)=(if q≤2*(t % q) then t / q+1 else t / q)∧((2*t) % q=0↔2*(t % q)=0∨2*(t % q)=q)∧(2*t) / q=(if q≤2*(t % q) then 2*(t / q)+1 else 2*(t / q)):=by
 have e:=Int.mul_ediv_add_emod t q
 have r0:=Int.emod_nonneg t (show q≠0 by omega)
 have r1:=Int.emod_lt_of_pos t hq
 generalize t / q=d at *
 generalize t % q=r at *
 have m2:2*q*d=2*(q*d):=by rw[Int.mul_assoc]
 have m3:q*(2*d)=2*(q*d):=by rw[←Int.mul_assoc,Int.mul_comm q 2,Int.mul_assoc]
 have m4:q*(2*d+1)=2*(q*d)+q:=by rw[Int.mul_add,m3,Int.mul_one]
 refine ⟨?_,?_,?_⟩
 ·split
  ·have:2*t+q=(2*r-q)+2*q*(d+1):=by rw[Int.mul_add,m2,Int.mul_one];omega
   rw[this,Int.add_mul_ediv_left _ _ (by omega),Int.ediv_eq_zero_of_lt (by omega) (by omega)];omega
  ·have:2*t+q=(2*r+q)+2*q*d:=by rw[m2];omega
   rw[this,Int.add_mul_ediv_left _ _ (by omega),Int.ediv_eq_zero_of_lt (by omega) (by omega)];omega
 ·by_cases h:q≤2*r
  ·have:2*t=(2*r-q)+q*(2*d+1):=by rw[m4];omega
   rw[this,Int.add_mul_emod_self_left,Int.emod_eq_of_lt (by omega) (by omega)];omega
  ·have:2*t=2*r+q*(2*d):=by rw[m3];omega
   rw[this,Int.add_mul_emod_self_left,Int.emod_eq_of_lt (by omega) (by omega)];omega
 ·split
  ·have:2*t=(2*r-q)+q*(2*d+1):=by rw[m4];omega
   rw[this,Int.add_mul_ediv_left _ _ (by omega),Int.ediv_eq_zero_of_lt (by omega) (by omega)];omega
  ·have:2*t=2*r+q*(2*d):=by rw[m3];omega
   rw[this,Int.add_mul_ediv_left _ _ (by omega),Int.ediv_eq_zero_of_lt (by omega) (by omega)];omega
def evenP (t q:Int):Int:=if q<2*(t % q) then t / q+1 else if 2*(t % q)=q then (if t / q % 2=1 then t / q+1 else t / q) else t / q
theorem evenP_bd {x p q:Int} (hx:0≤x) (hp:0≤p) (hpq:p≤q) (hq:0<q):0≤evenP (x*p) q∧evenP (x*p) q≤x+1:=by
 have h0:0≤x*p:=Int.mul_nonneg hx hp
 have h1:x*p / q≤x:=Int.ediv_le_of_le_mul hq (Int.mul_le_mul_of_nonneg_left hpq hx)
 have h2:=Int.ediv_nonneg h0 (show 0≤q by omega)
 unfold evenP
 (repeat' split) <;> omega
theorem specEven_E (x p q:Int) (hx:0≤x∧x≤1000000) (hp:0≤p∧p≤q) (hq:1≤q∧q≤1000):E (fun k=>zf97 (k 0) (x,p,q)) (evenP (x*p) q):=by
 have hb:=mul_bd hx.1 hx.2 hp.1 (show p≤1000 by omega)
 have e1:wrap64 (2*x)=2*x:=wrap_id (by omega) (by omega)
 have e2:2*x*p=2*(x*p):=Int.mul_assoc ..
 obtain ⟨f1,f2,f3⟩:=half_parts (t:=x*p) (q:=q) hb.1 (by omega)
 have f4:=Int.emod_nonneg (x*p) (show q≠0 by omega)
 have f5:=Int.emod_lt_of_pos (x*p) (show 0<q by omega)
 have f6:=Int.ediv_nonneg hb.1 (show 0≤q by omega)
 have f7:=Int.ediv_le_self (b:=q) hb.1
 have hn:E (fun k=>zf109 (k 0) (x,p,q)) ((2*(x*p)+q) / (2*q)):=by
  refine E.congr (fun k=>zf109.eq (k 0) x (p,q)) ?_
  simp only[e1,e2]
  rw[wrap_id (x:=2*q) (by omega) (by omega),wrap_id (x:=2*(x*p)) (by omega) (by omega),wrap_id (x:=2*(x*p)+q) (by omega) (by omega)]
  refine E.neg (by omega) (E.now' ?_)
  rw[Int.tdiv_eq_ediv_of_nonneg (by omega),f1]
  split <;> exact wrap_id (by omega) (by omega)
 refine E.congr (fun k=>zf97.eq (k 0) x (p,q)) (E.bind hn ?_)
 simp only[e1,e2]
 rw[wrap_id (x:=2*(x*p)) (by omega) (by omega),Int.tmod_eq_emod_of_nonneg (a:=2*(x*p)) (by omega),Int.tdiv_eq_ediv_of_nonneg (a:=2*(x*p)) (by omega),f1,f3]
 generalize hd':x*p / q=d at *
 generalize hr':x*p % q=r at *
 have hd:∀y:Int,0≤y→Int.tmod y 2=y % 2:=fun y hy=>Int.tmod_eq_emod_of_nonneg hy
 refine E.neg (by omega) ?_
 have g:evenP (x*p) q=if q<2*r then d+1 else if 2*r=q then (if d % 2=1 then d+1 else d) else d:=by
  unfold evenP;simp only[hr',hd']
 rw[g]
 rcases Int.lt_trichotomy (2*r) q with h | h | h
 ·rw[if_neg (show ¬q≤2*r by omega),if_neg (show ¬q≤2*r by omega),if_neg (show ¬q<2*r by omega),if_neg (show ¬2*r=q by omega)]
  refine E.ite (fun h0=>E.neg (by omega) (E.neg ?_ (E.now _))) (fun h0=>E.now _)
  rw[wrap_id (by omega) (by omega),hd _ (by omega)];omega
 ·rw[if_pos (show q≤2*r by omega),if_pos (show q≤2*r by omega),if_neg (show ¬q<2*r by omega),if_pos h]
  refine E.pos (f2.2 (.inr h)) (E.neg (by omega) (E.pos ?_ ?_))
  ·rw[wrap_id (by omega) (by omega),hd _ (by omega)];omega
  ·rw[hd _ (by omega),wrap_id (by omega) (by omega)]
   refine E.ite (fun h1=>E.now' ?_) (fun h1=>E.now' ?_)
   ·rw[if_neg (by omega)];omega
   ·rw[if_pos (by omega)]
 ·rw[if_pos (show q≤2*r by omega),if_pos (show q≤2*r by omega),if_pos h]
  refine E.neg (fun h0=>?_) (E.now _)
  have:=f2.1 h0
  omega
theorem validRate_specE (p q:Int):E (fun k=>zf138 (k 0) (p,q)) (decide (1≤q∧q≤1000∧0≤p∧p≤q)):=by
 refine E.congr (fun k=>zf138.eq (k 0) (p,q)) (E.bind (inRange_E ..) (E.ite (fun h=>E.bind (inRange_E ..) (E.now' ?_)) (fun h=>E.now' ?_)))
 ·simp at h
  rw[Bool.eq_iff_iff]
  simp
  omega
 ·simp at h ⊢
  omega
theorem validRate_implE (p q:Int):E (fun k=>zf29 (k 0) (p,q)) (decide (1≤q∧q≤1000∧0≤p∧p≤q)):=by
 refine E.congr (fun k=>zf29.eq (k 0) (p,q)) (E.ite (fun h=>E.ite (fun h2=>E.ite (fun h3=>E.now' ?_) (fun h3=>E.now' ?_)) (fun h2=>E.now' ?_)) (fun h=>E.now' ?_))
 ·simp only[decide_eq_decide];simp only at *;omega
 ·symm;rw[decide_eq_false_iff_not];simp only at *;omega
 ·symm;rw[decide_eq_false_iff_not];simp only at *;omega
 ·symm;rw[decide_eq_false_iff_not];simp only at *;omega
theorem roundEven_E (x p q:Int) (hx:0≤x∧x≤1000000) (hp:0≤p∧p≤q) (hq:1≤q∧q≤1000):E (fun k=>zf21 (k 0) (x,p,q)) (evenP (x*p) q):=by
 have hb:=mul_bd hx.1 hx.2 hp.1 (show p≤1000 by omega)
 have f4:=Int.emod_nonneg (x*p) (show q≠0 by omega)
 have f5:=Int.emod_lt_of_pos (x*p) (show 0<q by omega)
 have f6:=Int.ediv_nonneg hb.1 (show 0≤q by omega)
 have f7:=Int.ediv_le_self (b:=q) hb.1
 have hv:E (fun k=>zf46 (k 0) (x,p,q)) true:=
  E.congr (fun k=>zf46.eq (k 0) x (p,q)) (E.pos (by omega) (E.pos (by omega) (E.bind (validRate_implE p q) (E.now' (by simp;omega)))))
 refine E.congr (fun k=>zf21.eq (k 0) x (p,q)) (E.bind hv (E.neg (by decide) (E.neg (by omega) (E.neg (by omega) ?_))))
 simp only
 rw[wrap_id (x:=x*p) (by omega) (by omega),Int.tmod_eq_emod_of_nonneg hb.1,Int.tdiv_eq_ediv_of_nonneg hb.1]
 unfold evenP
 generalize x*p / q=d at *
 generalize x*p % q=r at *
 rw[wrap_id (x:=2*r) (by omega) (by omega),wrap_id (x:=d) (by omega) (by omega),wrap_id (x:=d+1) (by omega) (by omega),Int.tmod_eq_emod_of_nonneg f6]
 refine E.ite (fun h=>E.now' ?_) (fun h=>E.ite (fun h2=>E.ite (fun h3=>E.now' ?_) (fun h3=>E.now' ?_)) (fun h2=>E.now' ?_))
 ·rw[if_pos h]
 ·rw[if_neg (by omega),if_pos h2,if_pos h3]
 ·rw[if_neg (by omega),if_pos h2,if_neg h3]
 ·rw[if_neg (by omega),if_neg h2]
def nightOf (p q:Int) (l:Ln):Ln:=(l.1,l.2.1+evenP (l.2.1*p) q,l.2.2)
def nightL (p q:Int) (ls:List Ln):List Ln:=ls.map (nightOf p q)
def nightS (p q:Int) (ls:List Ln):Int:=(ls.map fun l=>evenP (l.2.1*p) q).sum
theorem specNight_l4 (p q:Int) (hp:0≤p∧p≤q) (hq:1≤q∧q≤1000) (a c4:Int) (st:List Int) (z1 z2 z3:Int):∀(post P:List Ln) (c3:Int),(P++post).length≤1000→(∀l ∈ post,0≤l.2.1∧l.2.1≤100000)→-2000000≤c3→c3+100001*(post.length:Int)≤1000000000 →
  E (fun k=>zf111.l4 (k 0) (k 1) (P.length:Int) a c3 c4 p q z1 z2 z3 st (P++post)) ((st,P++nightL p q post,a,c3+nightS p q post,wrap64 (c4+1)),true)
 | [],P,c3,hl,hx,h0,h1=>by
  refine E.step 1 (fun v w h1 h2=>by rewrite [h1,h2 0 (by decide)];exact zf111.l4_succ ..) ?_
  exact E.neg (by simp) (E.now' (by simp[nightL,nightS]))
 | x::post,P,c3,hl,hx,h0,h1=>by
  have hx0:=hx x (List.mem_cons_self ..)
  have hy:=evenP_bd (x:=x.2.1) (p:=p) (q:=q) hx0.1 hp.1 hp.2 (by omega)
  simp only[List.length_cons] at h1
  have hlen:(P++x::post).length=P.length+(post.length+1):=by simp
  have ih:=specNight_l4 p q hp hq a c4 st z1 z2 z3 post (P++[nightOf p q x]) (c3+evenP (x.2.1*p) q) (by simp at hl ⊢;omega) (fun y hy=>hx y (List.mem_cons_of_mem _ hy)) (by omega) (by omega)
  rw[show (P++[nightOf p q x]).length=P.length+1 from by simp,List.append_assoc] at ih
  refine E.step 1 (fun v w h1 h2=>by rewrite [h1,h2 0 (by decide)];exact zf111.l4_succ ..) ?_
  refine E.pos (by omega) (E.pos (by omega) (E.pos (by omega) ?_))
  simp only[Int.toNat_natCast,getD_mid]
  refine E.bind (specEven_E x.2.1 p q (by omega) hp hq) (E.pos (by omega) (E.pos (by omega) (E.pos (by omega) (E.pos (by omega) ?_))))
  have es:∀y:Ln,(P++x::post).set P.length y=P++y::post:=fun y=>by simp
  rw[es,wrap_nat (by simp at hl;omega),wrap_id (by omega) (by omega),wrap_id (by omega) (by omega)]
  have en:(x.1,x.2.1+evenP (x.2.1*p) q,x.2.2)=nightOf p q x:=rfl
  rw[en]
  rw[List.singleton_append] at ih
  refine E.is ih ?_
  simp[nightL,nightS,Int.add_assoc]
theorem implNight_l4 (p q:Int) (hp:0≤p∧p≤q) (hq:1≤q∧q≤1000) (a c4:Int) (st:List Int) (n:Nat):∀(post P:List Ln) (c3:Int),(P++post).length=n→n≤1000→(∀l ∈ post,0≤l.2.1∧l.2.1≤100000)→-2000000≤c3→c3+100001*(post.length:Int)≤1000000000 →
  E (fun k=>zf11.l4 (k 0) (k 1) (n:Int) (P.length:Int) a c3 c4 p q st (P++post)) (true,st,P++nightL p q post,a,c3+nightS p q post,wrap64 (c4+1))
 | [],P,c3,hn,hl,hx,h0,h1=>by
  refine E.step 1 (fun v w h1 h2=>by rewrite [h1,h2 0 (by decide)];exact zf11.l4_succ ..) ?_
  exact E.neg (by simp at hn;omega) (E.now' (by simp[nightL,nightS]))
 | x::post,P,c3,hn,hl,hx,h0,h1=>by
  have hx0:=hx x (List.mem_cons_self ..)
  have hy:=evenP_bd (x:=x.2.1) (p:=p) (q:=q) hx0.1 hp.1 hp.2 (by omega)
  simp only[List.length_cons] at h1
  have hlen:(P++x::post).length=P.length+(post.length+1):=by simp
  have ih:=implNight_l4 p q hp hq a c4 st n post (P++[nightOf p q x]) (c3+evenP (x.2.1*p) q) (by simp at hn ⊢;omega) hl (fun y hy=>hx y (List.mem_cons_of_mem _ hy)) (by omega) (by omega)
  rw[show (P++[nightOf p q x]).length=P.length+1 from by simp,List.append_assoc] at ih
  refine E.step 1 (fun v w h1 h2=>by rewrite [h1,h2 0 (by decide)];exact zf11.l4_succ ..) ?_
  refine E.pos (by omega) (E.pos (by omega) (E.pos (by omega) ?_))
  simp only[Int.toNat_natCast,getD_mid]
  refine E.bind (roundEven_E x.2.1 p q (by omega) hp hq) (E.pos (by omega) (E.pos (by omega) (E.pos (by omega) (E.pos (by omega) ?_))))
  have es:∀y:Ln,(P++x::post).set P.length y=P++y::post:=fun y=>by simp
  rw[es,wrap_nat (by omega),wrap_id (by omega) (by omega),wrap_id (by omega) (by omega)]
  have en:(x.1,x.2.1+evenP (x.2.1*p) q,x.2.2)=nightOf p q x:=rfl
  rw[en]
  rw[List.singleton_append] at ih
  refine E.is ih ?_
  simp[nightL,nightS,Int.add_assoc]
def okRate (e:Int × Int):Bool:=decide (1≤e.2∧e.2≤1000∧0≤e.1∧e.1≤e.2)
def nighted (c:Clb) (e:Int × Int):Clb:=(c.1,nightL e.1 e.2 c.2.1,c.2.2.1,c.2.2.2.1+nightS e.1 e.2 c.2.1,c.2.2.2.2+1)
theorem specNight_E (c:Clb) (hc:vC c=true) (e:Int × Int):E (fun k=>zf111 (k 0) (c,e)) (if okRate e then (nighted c e,true) else (c,false)):=by
 obtain ⟨h1,h2,h3⟩:=vC_parts hc
 have a2:=vLs_iff.1 h2
 refine E.congr (fun k=>zf111.eq (k 0) c e) (E.bind (validRate_specE e.1 e.2) (E.ite (fun h=>E.now' ?_) (fun h=>?_)))
 ·simp only[Bool.not_eq_true'] at h
  rw[if_neg (by rw[Bool.not_eq_true];exact h)]
 ·simp only[Bool.not_eq_true',Bool.not_eq_false] at h
  rw[if_pos (show okRate e=true from h)]
  have hr:=of_decide_eq_true h
  have:=specNight_l4 e.1 e.2 (by omega) (by omega) c.2.2.1 c.2.2.2.2 c.1 0 0 0 c.2.1 [] c.2.2.2.1 (by simp;omega) (fun l hl=>by have:=(vL_iff.1 (a2.2 l hl)).1;omega) (by omega) (by omega)
  rw[wrap_id (by omega) (by omega)] at this
  exact E.ren (fun _=>0) this
theorem implNight_E (c:Clb) (hc:vC c=true) (e:Int × Int):E (fun k=>zf11 (k 0) (c,e)) (if okRate e then (true,nighted c e) else (false,c)):=by
 obtain ⟨h1,h2,h3⟩:=vC_parts hc
 have a2:=vLs_iff.1 h2
 refine E.congr (fun k=>zf11.eq (k 0) c e) (E.bind (validRate_implE e.1 e.2) (E.ite (fun h=>E.now' ?_) (fun h=>?_)))
 ·simp only[Bool.not_eq_true'] at h
  rw[if_neg (by rw[Bool.not_eq_true];exact h)]
 ·simp only[Bool.not_eq_true',Bool.not_eq_false] at h
  rw[if_pos (show okRate e=true from h)]
  have hr:=of_decide_eq_true h
  have:=implNight_l4 e.1 e.2 (by omega) (by omega) c.2.2.1 c.2.2.2.2 c.1 c.2.1.length c.2.1 [] c.2.2.2.1 (by simp) (by omega) (fun l hl=>by have:=(vL_iff.1 (a2.2 l hl)).1;omega) (by omega) (by omega)
  rw[wrap_id (by omega) (by omega)] at this
  exact E.ren (fun _=>0) this
end Go.Proofs.YtbgamdkmlikgjaaGreatDoorG
end
section
set_option linter.unusedVariables false
namespace Go.Proofs.YtbgamdkmlikgjaaGreatDoorG
open Go Go.Refl Go.Refl.Math Go.RowKit
theorem mn_le (a b:Int):mn a b≤a∧mn a b≤b∧(mn a b=a∨mn a b=b):=by
 unfold mn
 split <;> omega
def tk (st:Nat→Int) (m:Nat) (a:Int) (j:Nat):Int:=if j=m then st j-mn (st j) a else st j
theorem sumN_tk (st:Nat→Int) (m:Nat) (a:Int):∀n,sumN (tk st m a) n=sumN st n-(if m<n then mn (st m) a else 0)
 | 0=>by simp[sumN]
 | n+1=>by
  simp only[sumN]
  rw[sumN_tk st m a n]
  unfold tk
  by_cases h:n=m
  ·subst h;rw[if_neg (by omega),if_pos rfl,if_pos (by omega)];omega
  ·rw[if_neg h]
   by_cases h2:m<n
   ·rw[if_pos h2,if_pos (by omega)];omega
   ·rw[if_neg h2,if_neg (by omega)];omega
abbrev CS:=(Nat→Int) × Int × List Int
def fstep (gs:List Int) (s:Nat→Int) (S:CS) (i:Nat):CS:=
 (tk S.1 (gs.getD i 0).toNat (s i),S.2.1+(s i-mn (S.1 (gs.getD i 0).toNat) (s i)),if mn (S.1 (gs.getD i 0).toNat) (s i)<s i then S.2.2++[gs.getD i 0] else S.2.2)
def failN (gs:List Int) (s:Nat→Int) (S:CS):Nat→CS
 | 0=>S
 | i+1=>fstep gs s (failN gs s S i) i
def lack (st:Nat→Int) (l:Ln):Int:=l.2.1-mn (st l.1.toNat) l.2.1
def failM (st:Nat→Int) (l:Ln):CS:=failN l.2.2 (prt (lack st l) l.2.2.length) (tk st l.1.toNat l.2.1,0,[]) l.2.2.length
def Bd (st:Nat→Int):Prop:=∀j,0≤st j∧st j≤100000
theorem tk_bd {st:Nat→Int} (h:Bd st) (m:Nat) {a:Int} (ha:0≤a):Bd (tk st m a):=fun j=>by
 have:=h j
 have:=mn_le (st j) a
 have:0≤mn (st j) a:=by unfold mn;split <;> omega
 unfold tk
 split <;> omega
structure FInv (n:Nat) (gs:List Int) (s:Nat→Int) (st:Nat→Int) (i:Nat) (S:CS):Prop where
 bd:Bd S.1
 le:∀j,S.1 j≤st j
 ls:0≤S.2.1∧S.2.1≤100001*i
 un:∀g ∈ S.2.2,g ∈ gs∧S.1 g.toNat=0
 ln:S.2.2.length≤i
 sm:sumN st n-sumN S.1 n+S.2.1=sumN s i
theorem failN_inv {n:Nat} {gs:List Int} {s st:Nat→Int} (hst:Bd st) (hs:∀i,0≤s i∧s i≤100001) (hg:∀g ∈ gs,0≤g∧g≤(n:Int)-1):∀i,i≤gs.length→FInv n gs s st i (failN gs s (st,0,[]) i)
 | 0,_=>⟨hst,fun _=>Int.le_refl _,by simp[failN],by simp[failN],by simp[failN],by simp[failN,sumN]⟩
 | i+1,hi=>by
  have ih:=failN_inv hst hs hg i (by omega)
  have hsi:=hs i
  have hgi:gs.getD i 0 ∈ gs:=by exact getD_mem 0 (by omega)
  have hgb:=hg _ hgi
  obtain ⟨g,hge⟩:∃g:Nat,gs.getD i 0=g:=⟨(gs.getD i 0).toNat,by omega⟩
  have hm:=mn_le ((failN gs s (st,0,[]) i).1 g) (s i)
  have hbd:=ih.bd g
  simp only[failN,fstep,hge,Int.toNat_natCast]
  refine ⟨tk_bd ih.bd g hsi.1,fun j=>?_,by have:=ih.ls;simp only;omega,fun x hx=>?_,?_,?_⟩
  ·have:=ih.le j
   have h2:=tk_bd ih.bd g hsi.1 j
   simp only[tk] at h2 ⊢
   split
   ·rename_i e;subst e
    have:0≤mn ((failN gs s (st,0,[]) i).1 j) (s i):=by unfold mn;split <;> omega
    omega
   ·omega
  ·have zero:∀y:Int,(failN gs s (st,0,[]) i).1 y.toNat=0→tk (failN gs s (st,0,[]) i).1 g (s i) y.toNat=0:=fun y hy=>by
    unfold tk
    split
    ·rw[hy];unfold mn;split <;> omega
    ·exact hy
   split at hx
   ·rename_i hlt
    rw[List.mem_append] at hx
    rcases hx with hx | hx
    ·exact ⟨(ih.un x hx).1,zero x (ih.un x hx).2⟩
    ·simp at hx
     subst hx
     refine ⟨hge ▸ hgi,?_⟩
     simp only[tk,Int.toNat_natCast,if_true]
     omega
   ·exact ⟨(ih.un x hx).1,zero x (ih.un x hx).2⟩
  ·have:=ih.ln
   split <;> simp <;> omega
  ·rw[sumN_tk,if_pos (by omega)]
   have:=ih.sm
   simp only[sumN]
   omega
theorem lack_bd {st:Nat→Int} (hst:Bd st) {l:Ln} {m:Int} (hv:vL l m=true):0≤lack st l∧lack st l≤100000:=by
 have hw:=vL_iff.1 hv
 have:=mn_le (st l.1.toNat) l.2.1
 have:0≤mn (st l.1.toNat) l.2.1:=by have:=hst l.1.toNat;unfold mn;split <;> omega
 unfold lack
 omega
theorem spl_bd2 {x:Int} {p:Nat} (hx:0≤x) (hx2:x≤100000) (hp:0<p) (i:Nat):0≤prt x p i∧prt x p i≤100001:=by
 have:=spl_bd hx hp i
 omega
structure MInv (n:Nat) (l:Ln) (st:Nat→Int) (S:CS):Prop where
 bd:Bd S.1
 le:∀j,S.1 j≤st j
 ls:0≤S.2.1
 un:∀g ∈ S.2.2,(0≤g∧g<(n:Int))∧S.1 g.toNat=0
 ln:S.2.2.length≤12
 sm:sumN st n-sumN S.1 n+S.2.1=l.2.1
theorem failM_inv {n:Nat} (hn:n≤12) {st:Nat→Int} (hst:Bd st) {l:Ln} (hv:vL l n=true):MInv n l st (failM st l):=by
 have hw:=vL_iff.1 hv
 have hl:=lack_bd hst hv
 have h:=failN_inv (n:=n) (gs:=l.2.2) (s:=prt (lack st l) l.2.2.length) (st:=tk st l.1.toNat l.2.1) (tk_bd hst _ (by omega)) (spl_bd2 hl.1 hl.2 (by omega)) hw.2.1.2.1 l.2.2.length (Nat.le_refl _)
 have hm:0≤mn (st l.1.toNat) l.2.1:=by have:=hst l.1.toNat;unfold mn;split <;> omega
 refine ⟨h.bd,fun j=>?_,h.ls.1,fun g hg=>?_,by have:=h.ln;show (failM st l).2.2.length≤12;unfold failM;omega,?_⟩
 ·refine Int.le_trans (h.le j) ?_
  unfold tk
  split
  ·rename_i e;subst e;omega
  ·omega
 ·have:=h.un g hg
  have:=hw.2.1.2.1 g this.1
  exact ⟨by omega,(h.un g hg).2⟩
 ·have:=h.sm
  rw[sumN_tk,if_pos (by omega),spl_all _ _ (by omega)] at this
  unfold failM
  unfold lack at this ⊢
  omega
def addNew (F un:List Int):List Int:=un.foldl (fun F g=>if g ∈ F then F else F++[g]) F
theorem addNew_snoc (F un:List Int) (g:Int):addNew F (un++[g])=if g ∈ addNew F un then addNew F un else addNew F un++[g]:=by unfold addNew;rw[List.foldl_append];rfl
theorem addNew_inv {n:Nat}:∀(un F:List Int),F.Nodup→(∀x ∈ F,0≤x∧x<(n:Int))→(∀x ∈ un,0≤x∧x<(n:Int)) →
  (addNew F un).Nodup∧(∀x ∈ addNew F un,0≤x∧x<(n:Int))∧(∃t,addNew F un=F++t∧∀x ∈ t,x ∈ un)
 | [],F,h1,h2,_=>⟨h1,h2,[],by simp[addNew],by simp⟩
 | g::un,F,h1,h2,h3=>by
  have e:addNew F (g::un)=addNew (if g ∈ F then F else F++[g]) un:=rfl
  by_cases hg:g ∈ F
  ·rw[e,if_pos hg]
   obtain ⟨a,b,t,c,d⟩:=addNew_inv un F h1 h2 (fun x hx=>h3 x (List.mem_cons_of_mem _ hx))
   exact ⟨a,b,t,c,fun x hx=>List.mem_cons_of_mem _ (d x hx)⟩
  ·rw[e,if_neg hg]
   obtain ⟨a,b,t,c,d⟩:=addNew_inv un (F++[g]) (by rw[List.nodup_append];exact ⟨h1,by simp,fun a ha b hb=>by simp at hb;subst hb;exact fun e=>hg (e ▸ ha)⟩) (by
    intro x hx
    rw[List.mem_append] at hx
    rcases hx with hx | hx
    ·exact h2 x hx
    ·simp at hx;subst hx;exact h3 x (List.mem_cons_self ..)) (fun x hx=>h3 x (List.mem_cons_of_mem _ hx))
   refine ⟨a,b,g::t,by rw[c];simp,fun x hx=>?_⟩
   rcases List.mem_cons.1 hx with hx | hx
   ·subst hx;exact List.mem_cons_self ..
   ·exact List.mem_cons_of_mem _ (d x hx)
def cstep (f:Int) (S:CS) (l:Ln):CS:=if l.1=f then ((failM S.1 l).1,S.2.1+(failM S.1 l).2.1,addNew S.2.2 (failM S.1 l).2.2) else S
def proc (f:Int) (S:CS) (ls:List Ln):CS:=ls.foldl (cstep f) S
def run (ls:List Ln):Nat→Nat→CS→CS
 | 0,_,S=>S
 | d+1,i,S=>if i<S.2.2.length then run ls d (i+1) (proc (S.2.2.getD i 0) S ls) else S
def amtF (f:Int) (ls:List Ln):Int:=ls.foldr (fun l a=>(if l.1=f then l.2.1 else 0)+a) 0
def amtS (F:List Int) (ls:List Ln):Int:=ls.foldr (fun l a=>(if l.1 ∈ F then l.2.1 else 0)+a) 0
theorem amtS_snoc {F:List Int} {f:Int} (h:f ∉ F):∀ls:List Ln,amtS (F++[f]) ls=amtS F ls+amtF f ls
 | []=>rfl
 | l::ls=>by
  have ih:=amtS_snoc h ls
  simp only[amtS,amtF,List.foldr_cons] at ih ⊢
  rw[ih]
  by_cases h1:l.1=f
  ·rw[if_pos (by simp[h1]),if_neg (by rw[h1];exact h),if_pos h1];omega
  ·by_cases h2:l.1 ∈ F
   ·rw[if_pos (by simp[h2]),if_pos h2,if_neg h1];omega
   ·rw[if_neg (by simp[h2,h1]),if_neg h2,if_neg h1];omega
theorem amtS_nil (ls:List Ln):amtS [] ls=0:=by
 induction ls with
 | nil=>rfl
 | cons l ls ih=>simp only[amtS,List.foldr_cons] at ih ⊢;rw[ih];simp
structure CInv (n:Nat) (first:Int) (st0:Nat→Int) (A:Int) (S:CS):Prop where
 nd:S.2.2.Nodup
 rg:∀x ∈ S.2.2,0≤x∧x<(n:Int)
 hd:0<S.2.2.length∧S.2.2.getD 0 0=first
 bd:Bd S.1
 le:∀j,S.1 j≤st0 j
 zr:∀i,0<i→i<S.2.2.length→S.1 (S.2.2.getD i 0).toNat=0
 ls:0≤S.2.1∧S.2.1≤A
 sm:sumN st0 n-sumN S.1 n+S.2.1=A
theorem sumN_le {f g:Nat→Int} (h:∀j,f j≤g j):∀n,sumN f n≤sumN g n
 | 0=>Int.le_refl _
 | n+1=>by have:=sumN_le h n;have:=h n;simp only[sumN];omega
theorem CInv.len {n:Nat} {first:Int} {st0:Nat→Int} {A:Int} {S:CS} (h:CInv n first st0 A S):S.2.2.length≤n:=by
 have:=nodup_le S.2.2 (tab n (fun j=>(j:Int))) h.nd (fun x hx=>mem_tab.2 ⟨x.toNat,by have:=h.rg x hx;omega,by have:=h.rg x hx;omega⟩)
 rwa [tab_length] at this
theorem getD_append {F t:List Int} {i:Nat} (h:i<F.length):(F++t).getD i 0=F.getD i 0:=by
 simp[List.getD_eq_getElem?_getD,List.getElem?_append_left h]
theorem cstep_pre (f:Int) (S:CS) (l:Ln) {n:Nat} (hn:n≤12) {first:Int} {st0:Nat→Int} {A:Int} (h:CInv n first st0 A S) (hv:vL l n=true) :
  CInv n first st0 (A+if l.1=f then l.2.1 else 0) (cstep f S l)∧∃t,(cstep f S l).2.2=S.2.2++t:=by
 unfold cstep
 by_cases e:l.1=f
 ·rw[if_pos e,if_pos e]
  have m:=failM_inv hn h.bd hv
  have hw:=vL_iff.1 hv
  obtain ⟨a,b,t,c,d⟩:=addNew_inv (n:=n) (failM S.1 l).2.2 S.2.2 h.nd h.rg (fun x hx=>(m.un x hx).1)
  have hle:=sumN_le m.le n
  refine ⟨⟨a,b,?_,m.bd,fun j=>Int.le_trans (m.le j) (h.le j),fun i h0 h1=>?_,?_,?_⟩,t,c⟩
  ·simp only;rw[c,getD_append h.hd.1]
   exact ⟨by simp;have:=h.hd.1;omega,h.hd.2⟩
  ·simp only at h1 ⊢
   rw[c] at h1 ⊢
   by_cases h2:i<S.2.2.length
   ·rw[getD_append h2]
    have z:=h.zr i h0 h2
    have:=m.le (S.2.2.getD i 0).toNat
    have:=m.bd (S.2.2.getD i 0).toNat
    omega
   ·have:(S.2.2++t).getD i 0 ∈ t:=by
     rw[List.getD_eq_getElem?_getD,List.getElem?_append_right (by omega)]
     rw[List.length_append] at h1
     rw[List.getElem?_eq_getElem (by omega)]
     exact List.getElem_mem _
    exact (m.un _ (d _ this)).2
  ·have:=h.ls;have:=m.ls;have:=m.sm
   simp only
   omega
  ·have:=h.sm;have:=m.sm
   simp only
   omega
 ·rw[if_neg e,if_neg e,Int.add_zero]
  exact ⟨h,[],by simp⟩
theorem proc_inv (f:Int) {n:Nat} (hn:n≤12) {first:Int} {st0:Nat→Int}:∀(ls:List Ln) (A:Int) (S:CS),CInv n first st0 A S→(∀l ∈ ls,vL l n=true) →
  CInv n first st0 (A+amtF f ls) (proc f S ls)∧∃t,(proc f S ls).2.2=S.2.2++t
 | [],A,S,h,_=>⟨by simpa [amtF,proc] using h,[],by simp[proc]⟩
 | l::ls,A,S,h,hv=>by
  obtain ⟨h1,t1,e1⟩:=cstep_pre f S l hn h (hv l (List.mem_cons_self ..))
  obtain ⟨h2,t2,e2⟩:=proc_inv f hn ls _ _ h1 (fun l' h'=>hv l' (List.mem_cons_of_mem _ h'))
  refine ⟨?_,t1++t2,?_⟩
  ·have:A+amtF f (l::ls)=A+(if l.1=f then l.2.1 else 0)+amtF f ls:=by simp only[amtF,List.foldr_cons];omega
   rw[this]
   exact h2
  ·have:proc f S (l::ls)=proc f (cstep f S l) ls:=rfl
   rw[this,e2,e1,List.append_assoc]
theorem run_inv {n:Nat} (hn:n≤12) {first:Int} {st0:Nat→Int} (ls:List Ln) (hv:∀l ∈ ls,vL l n=true):∀(d i:Nat) (S:CS),i+d=n→i≤S.2.2.length→CInv n first st0 (amtS (S.2.2.take i) ls) S →
  CInv n first st0 (amtS (run ls d i S).2.2 ls) (run ls d i S)
 | 0,i,S,hi,hle,h=>by
  have:=h.len
  have e:S.2.2.take i=S.2.2:=List.take_of_length_le (by omega)
  rw[e] at h
  exact h
 | d+1,i,S,hi,hle,h=>by
  unfold run
  by_cases hlt:i<S.2.2.length
  ·rw[if_pos hlt]
   obtain ⟨h2,t,e⟩:=proc_inv (S.2.2.getD i 0) hn ls _ _ h hv
   have hg:S.2.2.getD i 0=S.2.2[i]:=by simp[List.getD_eq_getElem?_getD,hlt]
   have hnm:S.2.2.getD i 0 ∉ S.2.2.take i:=by
    intro hm
    have hp:=h.nd
    rw[←List.take_append_drop i S.2.2,List.nodup_append] at hp
    refine hp.2.2 _ hm (S.2.2.getD i 0) ?_ rfl
    rw[hg,List.drop_eq_getElem_cons hlt]
    exact List.mem_cons_self ..
   refine run_inv hn ls hv d (i+1) _ (by omega) (by rw[e];simp;omega) ?_
   rw[e,List.take_append_of_le_length (by omega),List.take_succ_eq_append_getElem hlt,←hg,amtS_snoc hnm]
   exact h2
  ·rw[if_neg hlt]
   have e:S.2.2.take i=S.2.2:=List.take_of_length_le (by omega)
   rw[e] at h
   exact h
theorem start_inv {n:Nat} {first:Int} {st0:Nat→Int} (ls:List Ln) (h0:0≤first∧first<(n:Int)) (hst:Bd st0):CInv n first st0 (amtS (([first]:List Int).take 0) ls) (st0,0,[first]):=by
 rw[List.take_zero,amtS_nil]
 exact ⟨by simp,by simp;exact h0,by simp,hst,fun _=>Int.le_refl _,fun i h1 h2=>by simp at h2;omega,by simp,by simp⟩
end Go.Proofs.YtbgamdkmlikgjaaGreatDoorG
end
section
set_option linter.unusedVariables false
namespace Go.Proofs.YtbgamdkmlikgjaaGreatDoorG
open Go Go.Refl Go.Refl.Math Go.RowKit
theorem mn_nn {a b:Int} (ha:0≤a) (hb:0≤b):0≤mn a b:=by unfold mn;split <;> omega
theorem set_one (x:Int):List.set (List.replicate 1 (0:Int)) 0 x=[x]:=rfl
theorem tk_set (n:Nat) (st:Nat→Int) (g:Nat) (a:Int):(tab n st).set g (st g-mn (st g) a)=tab n (tk st g a):=by
 rw[tab_set]
 refine tab_ext fun j hj=>?_
 unfold tk
 by_cases e:j=g
 ·rw[if_pos e,if_pos e,e]
 ·rw[if_neg e,if_neg e]
theorem specFail_l8 (n:Nat) (hn:n≤12) (gs:List Int) (s st:Nat→Int) (b a:Int) (hgl:gs.length≤12) (hst:Bd st) (hs:∀i,0≤s i∧s i≤100001) (hg:∀g ∈ gs,0≤g∧g≤(n:Int)-1):∀(d i:Nat),i+d=gs.length →
  E (fun k=>zf99.l8 (k 0) (k 1) (failN gs s (st,0,[]) i).2.1 (i:Int) b a gs (tab n (failN gs s (st,0,[]) i).1) (failN gs s (st,0,[]) i).2.2 (tab gs.length s))
   (tab n (failN gs s (st,0,[]) gs.length).1,(failN gs s (st,0,[]) gs.length).2.1,(failN gs s (st,0,[]) gs.length).2.2)
 | 0,i,hi=>by
  refine E.step 1 (fun v w h1 h2=>by rewrite [h1,h2 0 (by decide)];exact zf99.l8_succ ..) ?_
  exact E.neg (by rw[tab_length];omega) (E.now' (by rw[show i=gs.length by omega]))
 | d+1,i,hi=>by
  have ih:=specFail_l8 n hn gs s st b a hgl hst hs hg d (i+1) (by omega)
  have inv:=failN_inv (n:=n) hst hs hg i (by omega)
  have hsi:=hs i
  have hgi:gs.getD i 0 ∈ gs:=getD_mem 0 (by omega)
  have hgb:=hg _ hgi
  obtain ⟨g,hge⟩:∃g:Nat,gs.getD i 0=g:=⟨(gs.getD i 0).toNat,by omega⟩
  have hm:=mn_le ((failN gs s (st,0,[]) i).1 g) (s i)
  have hb:=inv.bd g
  have h3:=mn_nn hb.1 hsi.1
  have hls:=inv.ls
  have hil:i<gs.length:=by omega
  have hgn:g<n:=by omega
  simp only[failN,fstep,hge,Int.toNat_natCast] at ih
  refine E.step 1 (fun v w h1 h2=>by rewrite [h1,h2 0 (by decide)];exact zf99.l8_succ ..) ?_
  simp only[Int.toNat_natCast,hge,tab_length,tab_get _ hil,tab_get _ hgn]
  (repeat first | (with_reducible refine E.pos ?_ ?_;· omega) | (with_reducible refine E.neg ?_ ?_;· omega))
  have hw:wrap64 (wrap64 ((failN gs s (st,0,[]) i).2.1+s i)-mn ((failN gs s (st,0,[]) i).1 g) (s i))=(failN gs s (st,0,[]) i).2.1+(s i-mn ((failN gs s (st,0,[]) i).1 g) (s i)):=by
   rw[wrap_id (x:=(failN gs s (st,0,[]) i).2.1+s i) (by omega) (by omega),wrap_id (by omega) (by omega)]
   omega
  rw[hw,wrap_nat (by omega),wrap_id (x:=(failN gs s (st,0,[]) i).1 g-mn ((failN gs s (st,0,[]) i).1 g) (s i)) (by omega) (by omega),tk_set]
  simp only[set_one]
  refine E.ite (fun h=>E.pos (by have:=inv.ln;simp[maxN];omega) ?_) (fun h=>?_)
  ·rw[if_pos h] at ih;exact ih
  ·rw[if_neg h] at ih;exact ih
theorem specFail_E (n:Nat) (hn:n≤12) (st:Nat→Int) (l:Ln) (hst:Bd st) (hv:vL l n=true) :
  E (fun k=>zf99 (k 0) (tab n st,l)) (tab n (failM st l).1,(failM st l).2.1,(failM st l).2.2):=by
 have hw:=vL_iff.1 hv
 obtain ⟨b,hb⟩:∃b:Nat,l.1=b:=⟨l.1.toNat,by omega⟩
 have hl:=lack_bd hst hv
 have hbt:l.1.toNat=b:=by omega
 have hbn:b<n:=by omega
 have e:lack st l=l.2.1-mn (st b) l.2.1:=by unfold lack;rw[hbt]
 have hsb:=hst b
 have hm:=mn_le (st b) l.2.1
 have h3:=mn_nn hsb.1 (show 0≤l.2.1 by omega)
 refine E.congr (fun k=>zf99.eq (k 0) ..) (E.bind (specCopyInts_E _ (by rw[tab_length];omega)) ?_)
 simp only[tab_length,tab_get _ hbn,hb,Int.toNat_natCast]
 (repeat first | (with_reducible refine E.pos ?_ ?_;· omega) | (with_reducible refine E.neg ?_ ?_;· omega))
 rw[wrap_id (x:=l.2.1-mn (st b) l.2.1) (by omega) (by omega),←e,wrap_id (x:=st b-mn (st b) l.2.1) (by omega) (by omega),tk_set]
 refine E.bind (split_E (lack st l) l.2.2.length hl.1 (by omega) (by omega)) ?_
 have:=specFail_l8 n hn l.2.2 (prt (lack st l) l.2.2.length) (tk st b l.2.1) b l.2.1 (by omega) (tk_bd hst _ (by omega)) (spl_bd2 hl.1 hl.2 (by omega)) hw.2.1.2.1 l.2.2.length 0 (by omega)
 unfold failM
 rw[hbt]
 exact E.ren (fun _=>0) this
theorem specCascade_l16 (n:Nat) (ls:List Ln) (st:Nat→Int) (loss:Int) (F:List Int) (dn:List Bool) (next i:Int) (r:List Int × Int × List Int) (un:List Int) (hF:F.length≤100) (hul:un.length≤12)
  (nx:E (fun k=>zf93.l8 (k 0) (k 1) (k 2) ls loss next (i+1) (tab n st) (addNew F un) dn) r) (hi:0≤i∧i≤1000):∀(post pre:List Int),pre++post=un→(addNew F pre).length≤100+pre.length →
  E (fun k=>zf93.l16 (k 0) (k 1) (k 2) (k 3) ls loss next i (pre.length:Int) (tab n st) (addNew F pre) dn un) r
 | [],pre,e,_=>by
  have e2:pre=un:=by simpa using e
  refine E.step 3 (fun v w h1 h2=>by rewrite [h1,h2 0 (by decide),h2 1 (by decide),h2 2 (by decide)];exact zf93.l16_succ ..) ?_
  refine E.neg (by rw[e2];omega) ?_
  rw[wrap_id (x:=i+1) (by omega) (by omega),e2]
  exact nx
 | g::post,pre,e,hp=>by
  have ih:=specCascade_l16 n ls st loss F dn next i r un hF hul nx hi post (pre++[g]) (by simpa using e) (by rw[addNew_snoc];split <;> simp <;> omega)
  rw[show (pre++[g]).length=pre.length+1 from by simp,addNew_snoc] at ih
  have hpl:pre.length<un.length:=by rw[←e];simp
  have hg:un.getD pre.length 0=g:=by rw[←e];exact getD_mid ..
  refine E.step 3 (fun v w h1 h2=>by rewrite [h1,h2 0 (by decide),h2 1 (by decide),h2 2 (by decide)];exact zf93.l16_succ ..) ?_
  simp only[Int.toNat_natCast,hg,set_one]
  (repeat first | (with_reducible refine E.pos ?_ ?_;· omega) | (with_reducible refine E.neg ?_ ?_;· omega))
  rw[wrap_nat (by omega)]
  refine E.bind (placeIn_E _ _ (by omega)) (E.ite (fun h=>?_) (fun h=>?_))
  ·(repeat first | (with_reducible refine E.pos ?_ ?_;· omega) | (with_reducible refine E.neg ?_ ?_;· omega))
   refine E.pos (by simp[maxN];omega) ?_
   rw[if_neg (idxI_neg.1 h)] at ih;exact ih
  ·rw[if_pos (Classical.byContradiction fun hc=>h (idxI_neg.2 hc))] at ih;exact ih
def dnF (ls:List Ln) (G:List Int) (f:Int) (i j:Nat):Bool:=decide ((ls.getD j (0,0,[])).1 ∈ G∨j<i∧(ls.getD j (0,0,[])).1=f)
theorem specCascade_l8 (n:Nat) (hn:n≤12) (ls:List Ln) (hll:ls.length≤16) (hv:∀l ∈ ls,vL l n=true) (first:Int) (st0:Nat→Int) (next:Nat) (f:Int) (G:List Int) (hfG:f ∉ G) (r:List Int × Int × List Int):∀(post pre:List Ln) (A:Int) (S:CS),pre++post=ls→CInv n first st0 A S→A+100000*post.length≤40000000→next<S.2.2.length→S.2.2.getD next 0=f →
  E (fun k=>zf93.l5 (k 0) (k 1) ls (proc f S post).2.1 ((next+1:Nat):Int) (tab n (proc f S post).1) (proc f S post).2.2 (tab ls.length (dnF ls G f ls.length))) r →
  E (fun k=>zf93.l8 (k 0) (k 1) (k 2) ls S.2.1 (next:Int) (pre.length:Int) (tab n S.1) S.2.2 (tab ls.length (dnF ls G f pre.length))) r
 | [],pre,A,S,e,h,_,hnx,hf,nx=>by
  have:=h.len
  have e2:pre=ls:=by simpa using e
  refine E.step 2 (fun v w h1 h2=>by rewrite [h1,h2 0 (by decide),h2 1 (by decide)];exact zf93.l8_succ ..) ?_
  refine E.neg (by rw[e2];omega) ?_
  rw[wrap_nat (by omega),e2]
  exact nx
 | l::post,pre,A,S,e,h,hA,hnx,hf,nx=>by
  have hpl:pre.length<ls.length:=by rw[←e];simp
  have hvl:=hv l (by rw[←e];simp)
  have hw:=vL_iff.1 hvl
  have hlen:=h.len
  obtain ⟨h2,t,ht⟩:=cstep_pre f S l hn h hvl
  simp only[List.length_cons] at hA
  have ih:=specCascade_l8 n hn ls hll hv first st0 next f G hfG r post (pre++[l]) _ (cstep f S l) (by simpa using e) h2 (by split <;> omega) (by rw[ht];simp;omega) (by rw[ht,getD_append hnx];exact hf) nx
  rw[show (pre++[l]).length=pre.length+1 from by simp] at ih
  have hld:ls.getD pre.length (0,0,[])=l:=by rw[←e];exact getD_mid ..
  have hskip:l.1≠f→tab ls.length (dnF ls G f (pre.length+1))=tab ls.length (dnF ls G f pre.length):=fun hne=>by
   refine tab_ext fun j hj=>?_
   unfold dnF
   rw[decide_eq_decide]
   constructor
   ·rintro (h1 | ⟨h1,h2⟩)
    ·exact .inl h1
    ·refine .inr ⟨?_,h2⟩
     rcases Nat.lt_or_ge j pre.length with h3 | h3
     ·exact h3
     ·rw[show j=pre.length by omega,hld] at h2
      exact absurd h2 hne
   ·rintro (h1 | ⟨h1,h2⟩)
    ·exact .inl h1
    ·exact .inr ⟨by omega,h2⟩
  refine E.step 2 (fun v w h1 h2=>by rewrite [h1,h2 0 (by decide),h2 1 (by decide)];exact zf93.l8_succ ..) ?_
  simp only[Int.toNat_natCast,hld,hf,tab_length,tab_get _ hpl]
  rw[wrap_nat (by omega)]
  refine E.pos (by omega) ?_
  refine E.pos (by omega) ?_
  refine E.pos (by omega) ?_
  refine E.ite (fun hd=>?_) (fun hd=>?_)
  ·have hne:l.1≠f:=by
    unfold dnF at hd
    rw[decide_eq_true_iff,hld] at hd
    intro he
    rcases hd with hd | hd
    ·exact hfG (he ▸ hd)
    ·exact absurd hd.1 (Nat.lt_irrefl _)
   rw[hskip hne] at ih
   unfold cstep at ih
   rw[if_neg hne] at ih
   exact ih
  ·(repeat first | (with_reducible refine E.pos ?_ ?_;· omega) | (with_reducible refine E.neg ?_ ?_;· omega))
   refine E.ite (fun hb=>?_) (fun hb=>?_)
   ·have m:=failM_inv hn h.bd hvl
    have hmsm:=m.sm
    have hle:=sumN_le m.le n
    have hls:=m.ls
    have hsl:=h.ls
    (repeat first | (with_reducible refine E.pos ?_ ?_;· omega) | (with_reducible refine E.neg ?_ ?_;· omega))
    refine E.bind (specFail_E n hn S.1 l h.bd hvl) ?_
    simp only
    rw[wrap_id (x:=S.2.1+(failM S.1 l).2.1) (by omega) (by omega),tab_set]
    unfold cstep at ih
    rw[if_pos hb] at ih
    have hdn:tab ls.length (fun j=>if j=pre.length then true else dnF ls G f pre.length j)=tab ls.length (dnF ls G f (pre.length+1)):=by
     refine tab_ext fun j hj=>?_
     by_cases ej:j=pre.length
     ·subst ej
      rw[if_pos rfl]
      unfold dnF
      rw[eq_comm,decide_eq_true_iff,hld]
      exact .inr ⟨by omega,hb⟩
     ·rw[if_neg ej]
      unfold dnF
      rw[decide_eq_decide]
      constructor
      ·rintro (h1 | ⟨h1,h2⟩)
       ·exact .inl h1
       ·exact .inr ⟨by omega,h2⟩
      ·rintro (h1 | ⟨h1,h2⟩)
       ·exact .inl h1
       ·exact .inr ⟨by omega,h2⟩
    rw[hdn]
    exact E.ren (fun i=>if i=3 then 0 else i) (specCascade_l16 n ls _ _ S.2.2 _ next _ r (failM S.1 l).2.2 (by omega) m.ln ih (by omega) (failM S.1 l).2.2 [] rfl (by simp[addNew];omega))
   ·rw[hskip hb] at ih
    unfold cstep at ih
    rw[if_neg hb] at ih
    exact ih
theorem amtS_bd {n:Int} {F:List Int}:∀{ls:List Ln},(∀l ∈ ls,vL l n=true)→0≤amtS F ls∧amtS F ls≤100000*ls.length
 | [],_=>by simp[amtS]
 | l::ls,h=>by
  have ih:=amtS_bd (F:=F) (ls:=ls) (fun l' h'=>h l' (List.mem_cons_of_mem _ h'))
  have hw:=vL_iff.1 (h l (List.mem_cons_self ..))
  simp only[amtS,List.foldr_cons,List.length_cons] at ih ⊢
  split <;> omega
theorem specCascade_l5 (n:Nat) (hn:n≤12) (ls:List Ln) (hll:ls.length≤16) (hv:∀l ∈ ls,vL l n=true) (first:Int) (st0:Nat→Int):∀(d i:Nat) (S:CS),i+d=n→i≤S.2.2.length→CInv n first st0 (amtS (S.2.2.take i) ls) S →
  E (fun k=>zf93.l5 (k 0) (k 1) ls S.2.1 (i:Int) (tab n S.1) S.2.2 (tab ls.length (fun j=>decide ((ls.getD j (0,0,[])).1 ∈ S.2.2.take i)))) (tab n (run ls d i S).1,(run ls d i S).2.1,(run ls d i S).2.2)
 | 0,i,S,hi,hle,h=>by
  have:=h.len
  refine E.step 1 (fun v w h1 h2=>by rewrite [h1,h2 0 (by decide)];exact zf93.l5_succ ..) ?_
  exact E.neg (by omega) (E.now _)
 | d+1,i,S,hi,hle,h=>by
  have hlen:=h.len
  unfold run
  refine E.step 1 (fun v w h1 h2=>by rewrite [h1,h2 0 (by decide)];exact zf93.l5_succ ..) ?_
  by_cases hlt:i<S.2.2.length
  ·rw[if_pos hlt]
   obtain ⟨h2,t,e⟩:=proc_inv (S.2.2.getD i 0) hn ls _ _ h hv
   have hg:S.2.2.getD i 0=S.2.2[i]:=by simp[List.getD_eq_getElem?_getD,hlt]
   have hnm:S.2.2.getD i 0 ∉ S.2.2.take i:=by
    intro hm
    have hp:=h.nd
    rw[←List.take_append_drop i S.2.2,List.nodup_append] at hp
    refine hp.2.2 _ hm (S.2.2.getD i 0) ?_ rfl
    rw[hg,List.drop_eq_getElem_cons hlt]
    exact List.mem_cons_self ..
   have hb:=amtS_bd (F:=S.2.2.take i) hv
   have htk:(proc (S.2.2.getD i 0) S ls).2.2.take (i+1)=S.2.2.take i++[S.2.2.getD i 0]:=by
    rw[e,List.take_append_of_le_length (by omega),List.take_succ_eq_append_getElem hlt,←hg]
   have ih:=specCascade_l5 n hn ls hll hv first st0 d (i+1) (proc (S.2.2.getD i 0) S ls) (by omega) (by rw[e];simp;omega) (by
    rw[htk,amtS_snoc hnm]
    exact h2)
   have hd1:tab ls.length (fun j=>decide ((ls.getD j (0,0,[])).1 ∈ (proc (S.2.2.getD i 0) S ls).2.2.take (i+1)))=tab ls.length (dnF ls (S.2.2.take i) (S.2.2.getD i 0) ls.length):=by
    refine tab_ext fun j hj=>?_
    rw[htk]
    unfold dnF
    rw[decide_eq_decide]
    simp[hj]
   have hd0:tab ls.length (fun j=>decide ((ls.getD j (0,0,[])).1 ∈ S.2.2.take i))=tab ls.length (dnF ls (S.2.2.take i) (S.2.2.getD i 0) 0):=by
    refine tab_ext fun j hj=>?_
    unfold dnF
    rw[decide_eq_decide]
    simp
   rw[hd1] at ih
   rw[hd0]
   refine E.pos (by omega) ?_
   exact E.ren (fun i=>if i=2 then 0 else i) (specCascade_l8 n hn ls hll hv first st0 i (S.2.2.getD i 0) (S.2.2.take i) hnm _ ls [] _ S rfl h (by omega) hlt rfl ih)
  ·rw[if_neg hlt]
   exact E.neg (by omega) (E.now _)
def stF (st:List Int) (j:Nat):Int:=st.getD j 0
theorem stF_bd {st:List Int} (h:vS st=true):Bd (stF st):=fun j=>by
 by_cases hj:j<st.length
 ·exact stake_bd h hj
 ·unfold stF
  rw[List.getD_eq_getElem?_getD,List.getElem?_eq_none (by omega)]
  simp
def casM (st:List Int) (ls:List Ln) (a:Int):List Int × Int × List Int:=
 if vS st&&vLs ls st.length&&decide (0≤a∧a<st.length) then
  (tab st.length (run ls st.length 0 (stF st,0,[a])).1,(run ls st.length 0 (stF st,0,[a])).2.1,(run ls st.length 0 (stF st,0,[a])).2.2)
 else ([],-1,[])
theorem casM_pos {st:List Int} {ls:List Ln} {a:Int} (hs:vS st=true) (hv:vLs ls st.length=true) (ha:0≤a∧a<st.length):casM st ls a=(tab st.length (run ls st.length 0 (stF st,0,[a])).1,(run ls st.length 0 (stF st,0,[a])).2.1,(run ls st.length 0 (stF st,0,[a])).2.2):=by
 unfold casM
 rw[hs,hv,decide_eq_true ha]
 rfl
theorem casM_inv {st:List Int} {ls:List Ln} {a:Int} (hs:vS st=true) (hv:vLs ls st.length=true) (ha:0≤a∧a<st.length) :
  CInv st.length a (stF st) (amtS (casM st ls a).2.2 ls) (run ls st.length 0 (stF st,0,[a])):=by
 have hs2:=vS_iff.1 hs
 have hw:=vLs_iff.1 hv
 rw[casM_pos hs hv ha]
 exact run_inv (by omega) ls hw.2 st.length 0 (stF st,0,[a]) (by omega) (by simp) (start_inv ls (by omega) (stF_bd hs))
theorem cascade_E (st:List Int) (ls:List Ln) (a:Int) (hs:vS st=true) (hv:vLs ls st.length=true) (ha:0≤a∧a<st.length):E (fun k=>zf93 (k 0) (st,ls,a)) (casM st ls a):=by
 have hs2:=vS_iff.1 hs
 have hw:=vLs_iff.1 hv
 rw[casM_pos hs hv ha]
 refine E.congr (fun k=>zf93.eq (k 0) ..) (E.pos (by omega) (E.pos (by omega) (E.pos (by simp only[maxN];omega) ?_)))
 have:=specCascade_l5 st.length (by omega) ls hw.1.1 hw.2 a (stF st) st.length 0 (stF st,0,[a]) (by omega) (by simp) (start_inv ls (by omega) (stF_bd hs))
 simp only at this
 rw[show tab st.length (stF st)=st from (tab_of st).symm] at this
 simp only[set_one,Int.toNat_natCast]
 rw[show List.replicate ls.length false=tab ls.length (fun _=>false) from replicate_tab ..]
 rw[show (tab ls.length fun j=>decide ((ls.getD j (0,0,[])).1 ∈ List.take 0 [a]))=tab ls.length (fun _=>false) from tab_ext fun j hj=>by simp] at this
 exact E.ren (fun _=>0) this
end Go.Proofs.YtbgamdkmlikgjaaGreatDoorG
end
section
set_option linter.unusedVariables false
namespace Go.Proofs.YtbgamdkmlikgjaaGreatDoorG
open Go Go.Refl Go.Refl.Math Go.RowKit
theorem failing_l6 (F:List Int) (hF:F.length≤1000) (x7 a c3 c4 z1 z2 z3:Int) (st:List Int):∀(post pre kept:List Ln),(pre++post).length≤1000→kept.length≤pre.length →
  E (fun k=>zf100.l6 (k 0) (k 1) x7 (pre.length:Int) a c3 c4 z1 z2 z3 st F kept (pre++post)) ((st,kept++post.filter (fun l=>decide (l.1 ∉ F)),a,wrap64 (c3-x7),c4),true)
 | [],pre,kept,hl,hk=>by
  refine E.step 1 (fun v w h1 h2=>by rewrite [h1,h2 0 (by decide)];exact zf100.l6_succ ..) ?_
  exact E.neg (by simp) (E.now' (by simp))
 | x::post,pre,kept,hl,hk=>by
  have hlen:(pre++x::post).length=pre.length+(post.length+1):=by simp
  have e0:∀x:Ln,List.set (List.replicate 1 ((0:Int),(0:Int),([]:List Int))) 0 x=[x]:=fun _=>rfl
  refine E.step 1 (fun v w h1 h2=>by rewrite [h1,h2 0 (by decide)];exact zf100.l6_succ ..) ?_
  refine E.pos (by omega) (E.pos (by omega) (E.pos (by omega) ?_))
  simp only[Int.toNat_natCast,getD_mid,e0]
  rw[wrap_nat (by omega)]
  refine E.bind (placeIn_E F x.1 (by omega)) (E.ite (fun h=>E.pos (by omega) (E.pos (by omega) (E.pos (by simp[maxN];omega) ?_))) (fun h=>?_))
  ·have ih:=failing_l6 F hF x7 a c3 c4 z1 z2 z3 st post (pre++[x]) (kept++[x]) (by simp at hl ⊢;omega) (by simp;omega)
   rw[show (pre++[x]).length=pre.length+1 from by simp,List.append_assoc] at ih
   have hn:x.1 ∉ F:=idxI_neg.1 h
   exact E.is ih (by simp[hn])
  ·have ih:=failing_l6 F hF x7 a c3 c4 z1 z2 z3 st post (pre++[x]) kept (by simp at hl ⊢;omega) (by simp;omega)
   rw[show (pre++[x]).length=pre.length+1 from by simp,List.append_assoc] at ih
   have hn:x.1 ∈ F:=Classical.byContradiction fun hh=>h (idxI_neg.2 hh)
   exact E.is ih (by simp[hn])
def okFail (c:Clb) (m:Int):Bool:=decide (0≤m∧m<(c.1.length:Int))
def leftL (F:List Int) (ls:List Ln):List Ln:=ls.filter fun l=>decide (l.1 ∉ F)
def failedC (c:Clb) (m:Int):Clb:=((casM c.1 c.2.1 m).1,leftL (casM c.1 c.2.1 m).2.2 c.2.1,c.2.2.1,c.2.2.2.1-(casM c.1 c.2.1 m).2.1,c.2.2.2.2)
theorem casM_bd {st:List Int} {ls:List Ln} {a:Int} (hs:vS st=true) (hv:vLs ls st.length=true) (ha:0≤a∧a<st.length) :
  0≤(casM st ls a).2.1∧(casM st ls a).2.1≤1600000∧(casM st ls a).2.2.length≤12∧(casM st ls a).1.length=st.length:=by
 have hs2:=vS_iff.1 hs
 have hw:=vLs_iff.1 hv
 have h:=casM_inv hs hv ha
 have hb:=amtS_bd (F:=(casM st ls a).2.2) hw.2
 have h1:=h.ls
 have h2:=h.len
 rw[casM_pos hs hv ha] at hb h1 ⊢
 simp only at *
 exact ⟨by omega,by omega,by omega,tab_length ..⟩
theorem specFailing_E (c:Clb) (hc:vC c=true) (m:Int):E (fun k=>zf100 (k 0) (c,m)) (if okFail c m then (failedC c m,true) else (c,false)):=by
 obtain ⟨h1,h2,h3⟩:=vC_parts hc
 have a1:=vS_iff.1 h1
 have a2:=vLs_iff.1 h2
 refine E.congr (fun k=>zf100.eq (k 0) c m) ?_
 rw[wrap_id (x:=(c.1.length:Int)-1) (by omega) (by omega)]
 refine E.bind (inRange_E ..) (E.ite (fun h=>E.now' ?_) (fun g=>?_))
 ·rw[if_neg (by unfold okFail;simp at h ⊢;omega)]
 simp at g
 have hm:0≤m∧m<(c.1.length:Int):=by omega
 rw[if_pos (show okFail c m=true from decide_eq_true hm)]
 have hb:=casM_bd h1 h2 hm
 refine E.bind (cascade_E c.1 c.2.1 m h1 h2 hm) ?_
 have:=failing_l6 (casM c.1 c.2.1 m).2.2 (by omega) (casM c.1 c.2.1 m).2.1 c.2.2.1 c.2.2.2.1 c.2.2.2.2 0 0 0 (casM c.1 c.2.1 m).1 c.2.1 [] [] (by simp;omega) (by simp)
 rw[wrap_id (by omega) (by omega)] at this
 exact E.ren (fun _=>0) this
end Go.Proofs.YtbgamdkmlikgjaaGreatDoorG
end
section
set_option linter.unusedVariables false
namespace Go.Proofs.YtbgamdkmlikgjaaGreatDoorG
open Go Go.Refl Go.Refl.Math Go.RowKit
def zeroC:Clb:=([],[],0,0,0)
def joined (c:Clb):Clb:=(c.1++[0],c.2)
def evOut (c:Clb) (e:Ev7):Option Clb:=
 if e.1=0 then some (joined c)
 else if e.1=1 then (if okMove c e.2.1 e.2.2.1 then some (moved c e.2.1 e.2.2.1) else none)
 else if e.1=2 then (if okMove c e.2.1 e.2.2.1&&safeB (moved c e.2.1 (-e.2.2.1)).1 c.2.1 then some (moved c e.2.1 (-e.2.2.1)) else none)
 else if e.1=3 then (if safeB c.1 (c.2.1++[(e.2.1,e.2.2.1,e.2.2.2.2.1)]) then some (lentTo c (e.2.1,e.2.2.1,e.2.2.2.2.1) e.2.2.1) else none)
 else if e.1=4 then (if okPay c e then some (paid c e) else none)
 else if e.1=5 then (if okFail c e.2.1 then some (failedC c e.2.1) else none)
 else if e.1=6 then (if okRate e.2.2.2.2.2 then some (nighted c e.2.2.2.2.2) else none)
 else if e.1=7 then (if c.2.2.2.1<0 then none else some (shared c))
 else none
def checkC (d:Clb):Option Clb:=if vC d then some d else none
def stepC (c:Clb) (e:Ev7):Option Clb:=(evOut c e).bind checkC
def tellC (o:Option Clb):Clb × Bool:=match o with
 | some d=>(d,true)
 | none=>(zeroC,false)
def Small (d:Clb):Prop:=d.2.1.length<4611686018427387904∧∀l ∈ d.2.1,l.2.2.length<4611686018427387904
theorem Fits.small {d:Clb} (h:Fits d):Small d:=⟨by have:=h.loans;omega,fun l hl=>by have:=h.inner l hl;omega⟩
theorem stepC_valid {c d:Clb} {e:Ev7} (h:stepC c e=some d):vC d=true:=by
 unfold stepC checkC at h
 obtain ⟨x,_,hx⟩:=Option.bind_eq_some_iff.1 h
 split at hx
 ·rename_i hv;cases hx;exact hv
 ·cases hx
theorem check_E (d:Clb) (hd:Small d):E (fun k=>(zf135 (k 0) d).bind fun y=>if (!y)=true then some (zeroC,false) else some (d,true)) (tellC (checkC d)):=by
 refine E.bind (specValidClub_E d hd.1 hd.2) (E.ite (fun h=>E.now' ?_) (fun h=>E.now' ?_))
 ·simp only[Bool.not_eq_true'] at h
  unfold checkC;rw[if_neg (by rw[h];decide)];rfl
 ·simp only[Bool.not_eq_true',Bool.not_eq_false] at h
  unfold checkC;rw[if_pos h];rfl
theorem inner_set {ls:List Ln} {B:Nat} (h:∀l ∈ ls,l.2.2.length≤B) (i:Nat) (x:Ln) (hx:x.2.2.length≤B):∀l ∈ ls.set i x,l.2.2.length≤B:=fun l hl=>by
 rcases List.mem_or_eq_of_mem_set hl with h1 | h1
 ·exact h l h1
 ·rw[h1];exact hx
theorem payL_small {ls:List Ln} (h1:ls.length≤1000000000) (h2:∀l ∈ ls,l.2.2.length≤1000000000) (i:Nat) (a:Int):(payL ls i a).length≤1000000000∧∀l ∈ payL ls i a,l.2.2.length≤1000000000:=by
 unfold payL
 split
 ·refine ⟨?_,fun l hl=>h2 l (List.mem_of_mem_eraseIdx hl)⟩
  have:=List.length_eraseIdx_le (l:=ls) (i:=i)
  omega
 ·rw[List.length_set]
  refine ⟨h1,inner_set h2 i _ ?_⟩
  by_cases hi:i<ls.length
  ·show (ls.getD i (0,0,[])).2.2.length≤_
   exact h2 _ (getD_mem (0,0,[]) hi)
  ·simp[List.getD_eq_getElem?_getD,List.getElem?_eq_none (show ls.length≤i by omega)]
theorem specApply_E (c:Clb) (hc:vC c=true) (e:Ev7) (hl:e.2.2.2.2.1.length≤1000000000):E (fun k=>zf91 (k 0) (c,e)) (tellC (stepC c e)):=by
 obtain ⟨h1,h2,h3⟩:=vC_parts hc
 have a1:=vS_iff.1 h1
 have f:=vC_fits hc
 refine E.congr (fun k=>zf91.eq (k 0) c e) (E.bind (specCopyClub_E c f) ?_)
 have no:∀{x:Clb × Bool} {g:(Nat→Nat)→Option (Clb × Bool)},x.2=false→stepC c e=none→E (fun k=>if (!x.2)=true then some (zeroC,false) else g k) (tellC (stepC c e)):=fun hx hn=>E.pos (by rw[hx];rfl) (E.now' (by rw[hn];rfl))
 have yes:∀{x:Clb × Bool},x.2=true→Small x.1→evOut c e=some x.1→E (fun k=>if (!x.2)=true then some (zeroC,false) else (zf135 (k 0) x.1).bind fun y=>if (!y)=true then some (zeroC,false) else some (x.1,true)) (tellC (stepC c e)):=fun hx hs hn=>by
  refine E.neg (by rw[hx];decide) (E.is (check_E _ hs) ?_)
  unfold stepC;rw[hn];rfl
 by_cases k0:e.1=0
 ·refine E.pos k0 (E.pos (by simp[maxN];omega) ?_)
  refine E.is (check_E (joined c) f.small) ?_
  unfold stepC evOut;rw[if_pos k0];rfl
 by_cases k1:e.1=1
 ·(repeat first | (with_reducible refine E.pos ?_ ?_;· omega) | (with_reducible refine E.neg ?_ ?_;· omega))
  refine E.bind (specMove_E c hc e) ?_
  rw[if_neg (show ¬e.1=2 by omega)]
  by_cases ho:okMove c e.2.1 e.2.2.1=true
  ·rw[if_pos ho]
   have he:evOut c e=some (moved c e.2.1 e.2.2.1):=by unfold evOut;rw[if_neg k0,if_pos k1,if_pos ho]
   by_cases hv:vS (moved c e.2.1 e.2.2.1).1=true
   ·exact yes (x:=(moved c e.2.1 e.2.2.1,_)) (by simp[hv,k1]) f.small he
   ·refine no (by simp[hv]) ?_
    unfold stepC checkC;rw[he]
    simp only[Option.bind_some]
    rw[if_neg]
    exact fun h=>hv (vC_parts h).1
  ·rw[if_neg ho]
   exact no rfl (by unfold stepC evOut;rw[if_neg k0,if_pos k1,if_neg ho];rfl)
 by_cases k2:e.1=2
 ·(repeat first | (with_reducible refine E.pos ?_ ?_;· omega) | (with_reducible refine E.neg ?_ ?_;· omega))
  refine E.bind (specMove_E c hc e) ?_
  rw[if_pos k2]
  by_cases ho:okMove c e.2.1 e.2.2.1=true
  ·rw[if_pos ho]
   by_cases hs:safeB (moved c e.2.1 (-e.2.2.1)).1 c.2.1=true
   ·have he:evOut c e=some (moved c e.2.1 (-e.2.2.1)):=by unfold evOut;rw[if_neg k0,if_neg k1,if_pos k2,ho,hs];rfl
    have hv:vS (moved c e.2.1 (-e.2.2.1)).1=true:=by
     unfold safeB at hs
     simp only[Bool.and_eq_true] at hs
     exact hs.1.1
    exact yes (x:=(moved c e.2.1 (-e.2.2.1),_)) (by simp[hv,hs]) f.small he
   ·have he:evOut c e=none:=by unfold evOut;rw[if_neg k0,if_neg k1,if_pos k2,ho,Bool.eq_false_iff.2 hs];rfl
    refine no (by simp[k2,hs]) ?_
    unfold stepC;rw[he];rfl
  ·rw[if_neg ho]
   exact no rfl (by unfold stepC evOut;rw[if_neg k0,if_neg k1,if_pos k2,Bool.eq_false_iff.2 ho];rfl)
 by_cases k3:e.1=3
 ·(repeat first | (with_reducible refine E.pos ?_ ?_;· omega) | (with_reducible refine E.neg ?_ ?_;· omega))
  refine E.bind (specCopyInts_E _ hl) (E.bind (specLend_E c hc (e.2.1,e.2.2.1,e.2.2.2.2.1) hl) ?_)
  by_cases ho:safeB c.1 (c.2.1++[(e.2.1,e.2.2.1,e.2.2.2.2.1)])=true
  ·rw[if_pos ho]
   refine yes (x:=(lentTo c (e.2.1,e.2.2.1,e.2.2.2.2.1) e.2.2.1,true)) rfl ⟨?_,?_⟩ (by unfold evOut;rw[if_neg k0,if_neg k1,if_neg k2,if_pos k3,if_pos ho])
   ·have:=f.loans
    simp[lentTo];omega
   ·intro l hm
    rcases List.mem_append.1 hm with h | h
    ·have:=f.inner l h;omega
    ·simp at h;subst h;simp only;omega
  ·rw[if_neg ho]
   exact no rfl (by unfold stepC evOut;rw[if_neg k0,if_neg k1,if_neg k2,if_pos k3,if_neg ho];rfl)
 by_cases k4:e.1=4
 ·(repeat first | (with_reducible refine E.pos ?_ ?_;· omega) | (with_reducible refine E.neg ?_ ?_;· omega))
  refine E.bind (specRepay_E c hc e) ?_
  by_cases ho:okPay c e=true
  ·rw[if_pos ho]
   have hp:=payL_small f.loans f.inner e.2.1.toNat e.2.2.1
   exact yes (x:=(paid c e,true)) rfl ⟨by have:=hp.1;simp only[paid];omega,fun l hm=>by have:=hp.2 l hm;omega⟩ (by unfold evOut;rw[if_neg k0,if_neg k1,if_neg k2,if_neg k3,if_pos k4,if_pos ho])
  ·rw[if_neg ho]
   exact no rfl (by unfold stepC evOut;rw[if_neg k0,if_neg k1,if_neg k2,if_neg k3,if_pos k4,if_neg ho];rfl)
 by_cases k5:e.1=5
 ·(repeat first | (with_reducible refine E.pos ?_ ?_;· omega) | (with_reducible refine E.neg ?_ ?_;· omega))
  refine E.bind (specFailing_E c hc e.2.1) ?_
  by_cases ho:okFail c e.2.1=true
  ·rw[if_pos ho]
   refine yes (x:=(failedC c e.2.1,true)) rfl ⟨?_,fun l hm=>f.small.2 l (List.mem_filter.1 hm).1⟩ (by unfold evOut;rw[if_neg k0,if_neg k1,if_neg k2,if_neg k3,if_neg k4,if_pos k5,if_pos ho])
   have:=List.length_filter_le (fun l:Ln=>decide (l.1 ∉ (casM c.1 c.2.1 e.2.1).2.2)) c.2.1
   have:=f.loans
   simp only[failedC,leftL]
   omega
  ·rw[if_neg ho]
   exact no rfl (by unfold stepC evOut;rw[if_neg k0,if_neg k1,if_neg k2,if_neg k3,if_neg k4,if_pos k5,if_neg ho];rfl)
 by_cases k6:e.1=6
 ·(repeat first | (with_reducible refine E.pos ?_ ?_;· omega) | (with_reducible refine E.neg ?_ ?_;· omega))
  refine E.bind (specNight_E c hc e.2.2.2.2.2) ?_
  by_cases ho:okRate e.2.2.2.2.2=true
  ·rw[if_pos ho]
   refine yes (x:=(nighted c e.2.2.2.2.2,true)) rfl ⟨?_,fun l hm=>?_⟩ (by unfold evOut;rw[if_neg k0,if_neg k1,if_neg k2,if_neg k3,if_neg k4,if_neg k5,if_pos k6,if_pos ho])
   ·have:=f.loans
    simp only[nighted,nightL,List.length_map];omega
   ·obtain ⟨x,hx,rfl⟩:=List.mem_map.1 hm
    exact f.small.2 x hx
  ·rw[if_neg ho]
   exact no rfl (by unfold stepC evOut;rw[if_neg k0,if_neg k1,if_neg k2,if_neg k3,if_neg k4,if_neg k5,if_pos k6,if_neg ho];rfl)
 by_cases k7:e.1=7
 ·(repeat first | (with_reducible refine E.pos ?_ ?_;· omega) | (with_reducible refine E.neg ?_ ?_;· omega))
  refine E.bind (specSharing_E c hc) ?_
  by_cases ho:c.2.2.2.1<0
  ·rw[if_pos ho]
   exact no rfl (by unfold stepC evOut;rw[if_neg k0,if_neg k1,if_neg k2,if_neg k3,if_neg k4,if_neg k5,if_neg k6,if_pos k7,if_pos ho];rfl)
  ·rw[if_neg ho]
   exact yes (x:=(shared c,true)) rfl f.small (by unfold evOut;rw[if_neg k0,if_neg k1,if_neg k2,if_neg k3,if_neg k4,if_neg k5,if_neg k6,if_pos k7,if_neg ho])
 ·(repeat first | (with_reducible refine E.pos ?_ ?_;· omega) | (with_reducible refine E.neg ?_ ?_;· omega))
  refine E.now' ?_
  unfold stepC evOut;rw[if_neg k0,if_neg k1,if_neg k2,if_neg k3,if_neg k4,if_neg k5,if_neg k6,if_neg k7];rfl
end Go.Proofs.YtbgamdkmlikgjaaGreatDoorG
end
section
set_option linter.unusedVariables false
namespace Go.Proofs.YtbgamdkmlikgjaaGreatDoorG
open Go Go.Refl Go.Refl.Math Go.RowKit
def EvsOk (l:List Ev7):Prop:=∀e ∈ l,e.2.2.2.2.1.length≤1048576∧(-1000≤e.2.2.2.2.2.1∧e.2.2.2.2.2.1≤1000)∧(-1000≤e.2.2.2.2.2.2∧e.2.2.2.2.2.2≤1000)
def EvsD (l:List Ev7):Prop:=∀e ∈ l,e.2.2.2.2.1.length≤12∧(-1000≤e.2.2.2.2.2.1∧e.2.2.2.2.2.1≤1000)∧(-1000≤e.2.2.2.2.2.2∧e.2.2.2.2.2.2≤1000)
theorem EvsD.ok {l:List Ev7} (h:EvsD l):EvsOk l:=fun e he=>⟨Nat.le_trans (h e he).1 (by decide),(h e he).2⟩
def runC (c:Clb):List Ev7→Option Clb
 | []=>some c
 | e::l=>(stepC c e).bind fun d=>runC d l
theorem runC_valid:∀(l:List Ev7) {c d:Clb},vC c=true→runC c l=some d→vC d=true
 | [],c,d,hc,h=>by cases h;exact hc
 | e::l,c,d,hc,h=>by
  simp only[runC,Option.bind_eq_some_iff] at h
  obtain ⟨x,hx,h⟩:=h
  exact runC_valid l (stepC_valid hx) h
end Go.Proofs.YtbgamdkmlikgjaaGreatDoorG
end
section
set_option linter.unusedVariables false
namespace Go.Proofs.YtbgamdkmlikgjaaGreatDoorG
open Go Go.Refl Go.Refl.Math Go.RowKit
abbrev Ent:=Int × Int × Int × Int
theorem specInR_E (n lo hi:Int):E (fun k=>zf103 (k 0) (n,lo,hi)) (decide (lo≤n∧n≤hi)):=
 E.is (inRange_E n lo hi) (by rw[Bool.eq_iff_iff];simp)
end Go.Proofs.YtbgamdkmlikgjaaGreatDoorG
end
section
set_option linter.unusedVariables false
namespace Go.Proofs.YtbgamdkmlikgjaaGreatDoorG
open Go Go.Refl Go.Refl.Math Go.RowKit
def AmtOk (l:List Ent):Prop:=∀e ∈ l,0≤e.2.2.2∧e.2.2.2<10000000
end Go.Proofs.YtbgamdkmlikgjaaGreatDoorG
end
section
set_option linter.unusedVariables false
namespace Go.Proofs.YtbgamdkmlikgjaaGreatDoorG
open Go Go.Refl Go.Refl.Math Go.RowKit
theorem AmtOk.one {e:Ent} (h:0≤e.2.2.2∧e.2.2.2<10000000):AmtOk [e]:=fun x hx=>by
 simp at hx;subst hx;exact h
theorem AmtOk.set {l:List Ent} (h:AmtOk l) (i:Nat) (x:Ent) (hx:0≤x.2.2.2∧x.2.2.2<10000000):AmtOk (l.set i x):=fun e he=>by
 rcases List.mem_or_eq_of_mem_set he with h1 | h1
 ·exact h e h1
 ·rw[h1];exact hx
end Go.Proofs.YtbgamdkmlikgjaaGreatDoorG
end
section
set_option linter.unusedVariables false
namespace Go.Proofs.YtbgamdkmlikgjaaGreatDoorG
open Go Go.Refl Go.Refl.Math Go.RowKit
theorem keyI_E (x y:Int):E (fun k=>zf0 (k 0) (x,y)) (if x<y then -1 else if x > y then 1 else 0):=by
 have nn:∀z:Int,E (fun k=>zf1 (k 0) z) false:=fun z=>E.congr (fun k=>zf1.eq (k 0) z) (E.now' (by simp))
 refine E.congr (fun k=>zf0.eq (k 0) x y) (E.bind (nn x) (E.bind (nn y) (E.neg (by simp) (E.neg (by simp) ?_))))
 refine E.ite (fun h=>E.now' (by rw[if_pos h])) (fun h=>E.ite (fun h2=>E.now' (by rw[if_neg h,if_pos h2])) (fun h2=>E.now' (by rw[if_neg h,if_neg h2])))
end Go.Proofs.YtbgamdkmlikgjaaGreatDoorG
end
section
set_option linter.unusedVariables false
namespace Go.Proofs.YtbgamdkmlikgjaaGreatDoorG
open Go Go.Refl Go.Refl.Math Go.RowKit
def decT (n:Nat):ByteArray:=⟨(Go.Lib.decDigits n).toArray⟩
theorem decT_lt {n:Nat} (h:n<10):decT n=⟨#[UInt8.ofNat (48+n)]⟩:=by unfold decT;rw[Go.Lib.decDigits,dif_pos h]
theorem decT_ge {n:Nat} (h:¬n<10):decT n=decT (n / 10)++decT (n % 10):=by
 rw[decT_lt (n:=n % 10) (by omega)]
 unfold decT
 rw[Go.Lib.decDigits,dif_neg h]
 apply ByteArray.ext
 rw[ByteArray.data_append]
 simp
theorem decT_one {n:Nat} (h:n<10):(decT n).size=1:=by rw[decT_lt h];rfl
theorem decT_size:∀(k n:Nat),n≤k→(decT n).size≤n+1
 | 0,n,h=>by rw[decT_one (by omega)];omega
 | k+1,n,h=>by
  by_cases h1:n<10
  ·rw[decT_one h1];omega
  ·have ih:=decT_size k (n / 10) (by omega)
   rw[decT_ge h1,ByteArray.size_append,decT_one (n:=n % 10) (by omega)]
   omega
theorem decT_sz (n:Nat):(decT n).size≤n+1:=decT_size n n (Nat.le_refl n)
theorem decT_two {n:Nat} (h:10≤n):2≤(decT n).size:=by
 rw[decT_ge (by omega),ByteArray.size_append,decT_one (n:=n % 10) (by omega)]
 have:1≤(decT (n / 10)).size:=by
  by_cases h1:n / 10<10
  ·rw[decT_one h1];omega
  ·rw[decT_ge h1,ByteArray.size_append,decT_one (n:=n / 10 % 10) (by omega)];omega
 omega
theorem digit_text:∀n:Nat,n<10→ByteArray.extract { data:=#[(48:UInt8),(49:UInt8),(50:UInt8),(51:UInt8),(52:UInt8),(53:UInt8),(54:UInt8),(55:UInt8),(56:UInt8),(57:UInt8)] } n (n+1)=⟨#[UInt8.ofNat (48+n)]⟩:=by
 intro n hn
 have:n=0∨n=1∨n=2∨n=3∨n=4∨n=5∨n=6∨n=7∨n=8∨n=9:=by omega
 rcases this with rfl | rfl | rfl | rfl | rfl | rfl | rfl | rfl | rfl | rfl <;> decide
theorem specNum_k:∀(k x:Nat),x≤k→x≤10000000→∀n,k<n→zf112 n (x:Int)=some (decT x)
 | k,x,hx,hb,0,hn=>by omega
 | k,x,hx,hb,n+1,hn=>by
  rw[zf112.succ,zf112.eq]
  by_cases h:x<10
  ·rw[if_pos (by omega),if_pos (by omega),wrap_id (x:=(x:Int)+1) (by omega) (by omega),if_pos (by omega),if_pos (by
    have:((ByteArray.size { data:=#[(48:UInt8),(49:UInt8),(50:UInt8),(51:UInt8),(52:UInt8),(53:UInt8),(54:UInt8),(55:UInt8),(56:UInt8),(57:UInt8)] }:Nat):Int)=10:=rfl
    rw[this];omega)]
   rw[show Int.toNat ((x:Int)+1)=x+1 by omega,Int.toNat_natCast,digit_text x h,decT_lt h]
  ·match k,hx,hn with
   | 0,hx,hn=>omega
   | k+1,hx,hn=>
    rw[if_neg (by omega),Int.tdiv_eq_ediv_of_nonneg (by omega),Int.tmod_eq_emod_of_nonneg (by omega),wrap_id (by omega) (by omega)]
    rw[show (x:Int) / 10=((x / 10:Nat):Int) by omega,show (x:Int) % 10=((x % 10:Nat):Int) by omega]
    rw[specNum_k k (x / 10) (by omega) (by omega) n (by omega),specNum_k k (x % 10) (by omega) (by omega) n (by omega)]
    have s1:=decT_sz (x / 10)
    have s2:=decT_sz (x % 10)
    simp only[Option.bind_some]
    rw[if_pos (by simp only[maxN];omega),←decT_ge h]
theorem specNum_E {x:Int} (h0:0≤x) (h1:x≤10000000):E (fun k=>zf112 (k 0) x) (decT x.toNat):=by
 obtain ⟨a,rfl⟩:=Int.eq_ofNat_of_zero_le h0
 refine ⟨a+1,fun v hv=>?_⟩
 show zf112 (v 0) (a:Int)=_
 rw[specNum_k a a (Nat.le_refl a) (by omega) _ (by have:=hv 0;omega),Int.toNat_natCast]
theorem itoa_E {x:Int} (h0:0≤x) (h1:x≤10000000):E (fun k=>zf141 (k 0) x) (decT x.toNat):=by
 refine E.congr (fun k=>?_) (E.now _)
 show itRun x=_
 unfold itRun
 rw[decide_eq_true (by omega),decide_eq_true (by omega)]
 show some _=some _
 unfold decT Go.Lib.itoa
 rw[if_neg (by omega)]
def spT:ByteArray:={ data:=#[(32:UInt8)] }
def dotT:ByteArray:={ data:=#[(46:UInt8)] }
def nlT:ByteArray:={ data:=#[(10:UInt8)] }
def zT:ByteArray:={ data:=#[(48:UInt8)] }
theorem spT_size:spT.size=1:=rfl
theorem dotT_size:dotT.size=1:=rfl
theorem nlT_size:nlT.size=1:=rfl
def monT (x:Nat):ByteArray:=decT (x / 100)++dotT++decT (x / 10 % 10)++decT (x % 10)
theorem monT_size (x:Nat):(monT x).size≤x / 100+4:=by
 unfold monT
 rw[ByteArray.size_append,ByteArray.size_append,ByteArray.size_append,decT_one (n:=x / 10 % 10) (by omega),decT_one (n:=x % 10) (by omega),dotT_size]
 have:=decT_sz (x / 100)
 omega
theorem showMoney_E {x:Int} (h0:0≤x) (h1:x≤1000000):E (fun k=>zf25 (k 0) x) (monT x.toNat):=by
 obtain ⟨a,rfl⟩:=Int.eq_ofNat_of_zero_le h0
 rw[Int.toNat_natCast]
 have e1:Int.tmod (a:Int) 100=((a % 100:Nat):Int):=by rw[Int.tmod_eq_emod_of_nonneg (by omega)];omega
 have e2:wrap64 (Int.tdiv (a:Int) 100)=((a / 100:Nat):Int):=by rw[Int.tdiv_eq_ediv_of_nonneg (by omega),wrap_id (by omega) (by omega)];omega
 have i1:E (fun k=>zf141 (k 0) (Int.tmod (a:Int) 100)) (decT (a % 100)):=by rw[e1];exact itoa_E (by omega) (by omega)
 have i2:E (fun k=>zf141 (k 0) (wrap64 (Int.tdiv (a:Int) 100))) (decT (a / 100)):=by rw[e2];exact itoa_E (by omega) (by omega)
 have s1:=decT_sz (a / 100)
 have s2:=decT_sz (a % 100)
 refine E.congr (fun k=>zf25.eq (k 0) _) (E.neg (by omega) (E.neg (by omega) (E.bind i1 ?_)))
 by_cases h:a % 100<10
 ·have s3:=decT_one h
  refine E.pos (by omega) (E.pos (by rw[s3];exact (by decide)) (E.bind i2 (E.pos (by show _+1≤maxN;simp only[maxN];omega) (E.pos ?_ (E.now' ?_)))))
  ·rw[ByteArray.size_append,ByteArray.size_append,s3];show _+1+(1+1)≤maxN;simp only[maxN];omega
  ·show decT (a / 100)++dotT++(zT++decT (a % 100))=_
   unfold monT
   rw[show a % 100=a % 10 by omega,show a / 10 % 10=0 by omega,show decT 0=zT from decT_lt (by omega),←ByteArray.append_assoc]
 ·have s3:=decT_two (n:=a % 100) (by omega)
  refine E.neg (by omega) (E.bind i2 (E.pos (by show _+1≤maxN;simp only[maxN];omega) (E.pos ?_ (E.now' ?_))))
  ·rw[ByteArray.size_append];show _+1+_≤maxN;simp only[maxN];omega
  ·show decT (a / 100)++dotT++decT (a % 100)=_
   unfold monT
   rw[decT_ge (n:=a % 100) h,show a % 100 / 10=a / 10 % 10 by omega,show a % 100 % 10=a % 10 by omega,←ByteArray.append_assoc]
theorem bytesI_append (a b:ByteArray):bytesI (a++b)=bytesI a++bytesI b:=by
 unfold bytesI
 rw[ByteArray.data_append]
 simp
theorem bytesI_len (s:ByteArray):(bytesI s).length=s.size:=by unfold bytesI;rw[List.length_map,Array.length_toList];rfl
theorem bytesI_byte (s:ByteArray):(bytesI s).all isByte=true:=by
 rw[List.all_eq_true]
 intro c hc
 unfold bytesI at hc
 obtain ⟨b,_,rfl⟩:=List.mem_map.1 hc
 have:=UInt8.toNat_lt b
 unfold isByte
 rw[Bool.and_eq_true,decide_eq_true_eq,decide_eq_true_eq]
 omega
theorem ofBytes_bytesI (s:ByteArray):ofBytes (bytesI s)=s:=by
 apply ByteArray.ext
 unfold ofBytes bytesI
 simp[Function.comp_def]
theorem write_E {r:List Int} {s:ByteArray} (h:r.length+s.size≤1000000000000):E (fun k=>zf143 (k 0) (r,s)) ((s.size:Int),([]:List Int),r++bytesI s):=by
 refine E.congr (fun k=>?_) (E.now _)
 show wsRun (r,s)=_
 unfold wsRun
 rw[Nat.ble_eq_true_of_le (by simp only[maxN];omega)]
 rfl
theorem string_E (s:ByteArray):E (fun k=>zf142 (k 0) (bytesI s)) s:=by
 refine E.congr (fun k=>?_) (E.now _)
 show stRun (bytesI s)=_
 unfold stRun
 rw[bytesI_byte,ofBytes_bytesI]
 rfl
end Go.Proofs.YtbgamdkmlikgjaaGreatDoorG
end
section
set_option linter.unusedVariables false
namespace Go.Proofs.YtbgamdkmlikgjaaGreatDoorG
open Go Go.Refl Go.Refl.Math Go.RowKit
abbrev EvT:=Int × Int × Int × Int × List Int × Int × Int
def mV (m:Int):Bool:=decide (0≤m∧m≤99)
def aV (a:Int):Bool:=decide (0≤a∧a≤1000000)
def rV (n d:Int):Bool:=decide (1≤d∧d≤1000∧0≤n∧n≤d)
theorem mV_iff {m:Int}:mV m=true↔0≤m∧m≤99:=decide_eq_true_iff
theorem aV_iff {m:Int}:aV m=true↔0≤m∧m≤1000000:=decide_eq_true_iff
theorem rV_iff {n d:Int}:rV n d=true↔1≤d∧d≤1000∧0≤n∧n≤d:=decide_eq_true_iff
def bnT (m:Int):ByteArray:=spT++decT m.toNat
def bmT (a:Int):ByteArray:=spT++monT a.toNat
def memT:List Int→ByteArray
 | []=>ByteArray.empty
 | m::ms=>bnT m++memT ms
def kjoin:ByteArray:={ data:=#[(106:UInt8),(111:UInt8),(105:UInt8),(110:UInt8)] }
def ksave:ByteArray:={ data:=#[(115:UInt8),(97:UInt8),(118:UInt8),(101:UInt8)] }
def ktake:ByteArray:={ data:=#[(116:UInt8),(97:UInt8),(107:UInt8),(101:UInt8)] }
def klend:ByteArray:={ data:=#[(108:UInt8),(101:UInt8),(110:UInt8),(100:UInt8)] }
def krepay:ByteArray:={ data:=#[(114:UInt8),(101:UInt8),(112:UInt8),(97:UInt8),(121:UInt8)] }
def kfail:ByteArray:={ data:=#[(102:UInt8),(97:UInt8),(105:UInt8),(108:UInt8)] }
def knight:ByteArray:={ data:=#[(110:UInt8),(105:UInt8),(103:UInt8),(104:UInt8),(116:UInt8)] }
def kshare:ByteArray:={ data:=#[(115:UInt8),(104:UInt8),(97:UInt8),(114:UInt8),(101:UInt8)] }
theorem ksave_sp:({ data:=#[(115:UInt8),(97:UInt8),(118:UInt8),(101:UInt8),(32:UInt8)] }:ByteArray)=ksave++spT:=by apply ByteArray.ext;rw[ByteArray.data_append];rfl
theorem ktake_sp:({ data:=#[(116:UInt8),(97:UInt8),(107:UInt8),(101:UInt8),(32:UInt8)] }:ByteArray)=ktake++spT:=by apply ByteArray.ext;rw[ByteArray.data_append];rfl
theorem klend_sp:({ data:=#[(108:UInt8),(101:UInt8),(110:UInt8),(100:UInt8),(32:UInt8)] }:ByteArray)=klend++spT:=by apply ByteArray.ext;rw[ByteArray.data_append];rfl
theorem krepay_sp:({ data:=#[(114:UInt8),(101:UInt8),(112:UInt8),(97:UInt8),(121:UInt8),(32:UInt8)] }:ByteArray)=krepay++spT:=by apply ByteArray.ext;rw[ByteArray.data_append];rfl
theorem kfail_sp:({ data:=#[(102:UInt8),(97:UInt8),(105:UInt8),(108:UInt8),(32:UInt8)] }:ByteArray)=kfail++spT:=by apply ByteArray.ext;rw[ByteArray.data_append];rfl
theorem knight_sp:({ data:=#[(110:UInt8),(105:UInt8),(103:UInt8),(104:UInt8),(116:UInt8),(32:UInt8)] }:ByteArray)=knight++spT:=by apply ByteArray.ext;rw[ByteArray.data_append];rfl
def evtT (e:EvT):ByteArray:=
 if e.1=0 then kjoin else if e.1=7 then kshare else if e.1=6 then (if rV e.2.2.2.2.2.1 e.2.2.2.2.2.2=true then knight++(bnT e.2.2.2.2.2.1++bnT e.2.2.2.2.2.2) else ByteArray.empty)
 else if mV e.2.1=true then (if e.1=5 then kfail++bnT e.2.1 else if aV e.2.2.1=true then
  (if e.1=1 then ksave++(bnT e.2.1++bmT e.2.2.1) else if e.1=2 then ktake++(bnT e.2.1++bmT e.2.2.1)
  else if e.1=4 then (if aV e.2.2.2.1=true then krepay++(bnT e.2.1++bmT e.2.2.1++bmT e.2.2.2.1) else ByteArray.empty)
  else if e.1=3 then (if e.2.2.2.2.1.all mV=true then klend++(bnT e.2.1++bmT e.2.2.1++memT e.2.2.2.2.1) else ByteArray.empty) else ByteArray.empty) else ByteArray.empty) else ByteArray.empty
theorem bnT_size' {m:Int} (h:m≤99):(bnT m).size≤101:=by
 unfold bnT
 rw[ByteArray.size_append,spT_size]
 have:=decT_sz m.toNat
 omega
theorem bmT_size {a:Int} (h:a≤1000000):(bmT a).size≤10005:=by
 unfold bmT
 rw[ByteArray.size_append,spT_size]
 have:=monT_size a.toNat
 omega
theorem memT_size:∀{l:List Int},l.all mV=true→(memT l).size≤l.length*101
 | [],_=>by show 0≤_;omega
 | m::l,h=>by
  rw[List.all_cons,Bool.and_eq_true] at h
  have ih:=memT_size h.2
  have h1:=bnT_size' (mV_iff.1 h.1).2
  simp only[memT,ByteArray.size_append,List.length_cons]
  omega
theorem specAmt_E (x:Int):E (fun k=>zf134 (k 0) x) (aV x):=E.congr (fun k=>zf134.eq (k 0) x) (E.bind (specInR_E ..) (E.now _))
theorem specRate_E (n d:Int):E (fun k=>zf138 (k 0) (n,d)) (rV n d):=by
 refine E.congr (fun k=>zf138.eq (k 0) (n,d)) (E.bind (specInR_E ..) (E.ite (fun h=>E.bind (specInR_E ..) (E.now' ?_)) (fun h=>E.now' ?_)))
 ·simp only[decide_eq_true_eq] at h
  unfold rV;rw[decide_eq_decide];omega
 ·simp only[decide_eq_true_eq] at h
  unfold rV;symm;rw[decide_eq_false_iff_not];omega
theorem specMoneyB_E {x:Int} (h0:0≤x) (h1:x≤1000001):E (fun k=>zf106 (k 0) x) (monT x.toNat):=by
 obtain ⟨x,rfl⟩:=Int.eq_ofNat_of_zero_le h0
 have e1:wrap64 (Int.tdiv (x:Int) 100)=((x / 100:Nat):Int):=by rw[Int.tdiv_eq_ediv_of_nonneg (by omega),wrap_id (by omega) (by omega)];omega
 have e2:Int.tmod (wrap64 (Int.tdiv (x:Int) 10)) 10=((x / 10 % 10:Nat):Int):=by rw[Int.tdiv_eq_ediv_of_nonneg (by omega),wrap_id (by omega) (by omega),Int.tmod_eq_emod_of_nonneg (by omega)];omega
 have e3:Int.tmod (x:Int) 10=((x % 10:Nat):Int):=by rw[Int.tmod_eq_emod_of_nonneg (by omega)];omega
 have s4:=decT_sz (x / 100)
 have s5:=decT_sz (x / 10 % 10)
 have s6:=decT_sz (x % 10)
 have n4:E (fun k=>zf112 (k 0) (wrap64 (Int.tdiv (x:Int) 100))) (decT (x / 100)):=by rw[e1];exact specNum_E (by omega) (by omega)
 have n5:E (fun k=>zf112 (k 0) (Int.tmod (wrap64 (Int.tdiv (x:Int) 10)) 10)) (decT (x / 10 % 10)):=by rw[e2];exact specNum_E (by omega) (by omega)
 have n6:E (fun k=>zf112 (k 0) (Int.tmod (x:Int) 10)) (decT (x % 10)):=by rw[e3];exact specNum_E (by omega) (by omega)
 have q2:ByteArray.size { data:=#[(46:UInt8)] }=1:=rfl
 have bd:∀n:Nat,n≤100000→n≤maxN:=fun n h=>by simp only[maxN];omega
 refine E.congr (fun k=>zf106.eq (k 0) _) ?_
 simp only[ByteArray.size_append,q2]
 refine E.bind n4 (E.pos (bd _ (by omega)) (E.bind n5 (E.pos (bd _ (by omega)) (E.bind n6 (E.pos (bd _ (by omega)) (E.now' ?_))))))
 rfl
theorem specMoney_E {x:Int} (h0:0≤x) (h1:x≤1000000):E (fun k=>zf106 (k 0) x) (monT x.toNat):=specMoneyB_E h0 (by omega)
theorem specEvt_l27 {a b c d f g:Int}:∀(post pre:List Int) (acc:ByteArray),(pre++post).length<1000000000→acc.size+200*post.length≤1000000000000 →
  E (fun k=>zf127.l27 (k 0) (k 1) acc (pre.length:Int) a b c d (pre++post) f g) (if post.all mV=true then acc++memT post else ByteArray.empty)
 | [],pre,acc,hl,hs=>by
  refine E.step 1 (fun v w h1 h2=>by rewrite [h1,h2 0 (by decide)];exact zf127.l27_succ ..) ?_
  exact E.neg (by simp) (E.now' (by rw[if_pos (by rfl),memT,ByteArray.append_empty]))
 | m::post,pre,acc,hl,hs=>by
  have hlen:(pre++m::post).length=pre.length+(post.length+1):=by simp
  have ih:=specEvt_l27 (a:=a) (b:=b) (c:=c) (d:=d) (f:=f) (g:=g) post (pre++[m])
  rw[show (pre++[m]).length=pre.length+1 from by simp,List.append_assoc] at ih
  rw[List.length_cons] at hs
  have q1:ByteArray.size { data:=#[(32:UInt8)] }=1:=rfl
  refine E.step 1 (fun v w h1 h2=>by rewrite [h1,h2 0 (by decide)];exact zf127.l27_succ ..) ?_
  simp only[Int.toNat_natCast,getD_mid,ByteArray.size_append,q1]
  rw[wrap_nat (by omega)]
  refine E.pos (by omega) (E.pos (by omega) (E.pos (by omega) (E.bind (specInR_E ..) (E.ite (fun h=>E.now' ?_) (fun h=>?_)))))
  ·have hm:mV m=false:=by unfold mV;rw[decide_eq_false_iff_not];simp only[Bool.not_eq_true',decide_eq_false_iff_not] at h;exact h
   rw[if_neg (by rw[List.all_cons,hm];simp)]
   rfl
  ·have hm:mV m=true:=by unfold mV;simp only[Bool.not_eq_true',decide_eq_false_iff_not,Decidable.not_not] at h;exact decide_eq_true h
   have hm':=mV_iff.1 hm
   have s1:=decT_sz m.toNat
   refine E.pos (by simp only[maxN];omega) (E.pos (by omega) (E.pos (by omega) (E.bind (specNum_E hm'.1 (by omega)) (E.pos (by simp only[maxN];omega) ?_))))
   refine E.is (ih (acc++spT++decT m.toNat) (by simpa using hl) (by simp only[ByteArray.size_append,spT_size];omega)) ?_
   rw[List.all_cons,hm,Bool.true_and]
   congr 1
   simp only[memT,bnT,ByteArray.append_assoc]
theorem specEvt_E (e:EvT) (hl:e.2.2.2.2.1.length<1000000000):E (fun k=>zf127 (k 0) e) (evtT e):=by
 obtain ⟨kd,m,a,rest,ms,n,d⟩:=e
 simp only at hl
 have q1:ByteArray.size { data:=#[(32:UInt8)] }=1:=rfl
 have bd:∀n:Nat,n≤100000→n≤maxN:=fun n h=>by simp only[maxN];omega
 have z5:∀a b c d e:UInt8,ByteArray.size { data:=#[a,b,c,d,e] }=5:=fun _ _ _ _ _=>rfl
 have z6:∀a b c d e f:UInt8,ByteArray.size { data:=#[a,b,c,d,e,f] }=6:=fun _ _ _ _ _ _=>rfl
 have s1:=decT_sz m.toNat
 have s2:=monT_size a.toNat
 have s3:=monT_size rest.toNat
 have s4:=decT_sz n.toNat
 have s5:=decT_sz d.toNat
 refine E.congr (fun k=>zf127.eq (k 0) _) ?_
 simp only[ByteArray.size_append,q1,z5,z6]
 unfold evtT
 simp only
 refine E.ite (fun h=>E.now' (by rw[if_pos h];rfl)) (fun h0=>?_)
 rw[if_neg h0]
 refine E.ite (fun h=>E.now' (by rw[if_pos h];rfl)) (fun h7=>?_)
 rw[if_neg h7]
 refine E.ite (fun h6=>?_) (fun h6=>?_)
 ·rw[if_pos h6]
  refine E.bind (specRate_E n d) (E.ite (fun h=>?_) (fun h=>E.now' (by rw[if_neg h];rfl)))
  have hr:=rV_iff.1 h
  rw[if_pos h]
  refine E.bind (specNum_E (by omega) (by omega)) (E.pos (bd _ (by omega)) (E.pos (bd _ (by omega)) (E.bind (specNum_E (by omega) (by omega)) (E.pos (bd _ (by omega)) (E.now' ?_)))))
  rw[knight_sp]
  simp only[bnT,ByteArray.append_assoc]
  rfl
 rw[if_neg h6]
 refine E.bind (specInR_E ..) (E.ite (fun h=>E.now' ?_) (fun h=>?_))
 ·have hm:mV m=false:=by unfold mV;rw[decide_eq_false_iff_not];simp only[Bool.not_eq_true',decide_eq_false_iff_not] at h;exact h
  rw[if_neg (by rw[hm];simp)]
  rfl
 have hm:mV m=true:=by unfold mV;simp only[Bool.not_eq_true',decide_eq_false_iff_not,Decidable.not_not] at h;exact decide_eq_true h
 have hm':=mV_iff.1 hm
 rw[if_pos hm]
 refine E.ite (fun h5=>?_) (fun h5=>?_)
 ·rw[if_pos h5]
  refine E.bind (specNum_E (by omega) (by omega)) (E.pos (bd _ (by omega)) (E.now' ?_))
  rw[kfail_sp]
  simp only[bnT,ByteArray.append_assoc]
 rw[if_neg h5]
 refine E.bind (specAmt_E a) (E.ite (fun h=>E.now' ?_) (fun h=>?_))
 ·have ha:aV a=false:=by simpa using h
  rw[if_neg (by rw[ha];simp)]
  rfl
 have ha:aV a=true:=by simpa using h
 have ha':=aV_iff.1 ha
 rw[if_pos ha]
 have num:=specNum_E (x:=m) (by omega) (by omega)
 have mon:=specMoney_E ha'.1 ha'.2
 refine E.ite (fun h1=>?_) (fun h1=>?_)
 ·rw[if_pos h1]
  refine E.bind num (E.pos (bd _ (by omega)) (E.pos (bd _ (by omega)) (E.bind mon (E.pos (bd _ (by omega)) (E.now' ?_)))))
  rw[ksave_sp]
  simp only[bnT,bmT,ByteArray.append_assoc]
  rfl
 rw[if_neg h1]
 refine E.ite (fun h2=>?_) (fun h2=>?_)
 ·rw[if_pos h2]
  refine E.bind num (E.pos (bd _ (by omega)) (E.pos (bd _ (by omega)) (E.bind mon (E.pos (bd _ (by omega)) (E.now' ?_)))))
  rw[ktake_sp]
  simp only[bnT,bmT,ByteArray.append_assoc]
  rfl
 rw[if_neg h2]
 refine E.ite (fun h4=>?_) (fun h4=>?_)
 ·rw[if_pos h4]
  refine E.bind (specAmt_E rest) (E.ite (fun h=>?_) (fun h=>E.now' (by rw[if_neg h];rfl)))
  have hb:=aV_iff.1 h
  rw[if_pos h]
  refine E.bind num (E.pos (bd _ (by omega)) (E.pos (bd _ (by omega)) (E.bind mon (E.pos (bd _ (by omega)) (E.pos (bd _ (by omega)) (E.bind (specMoney_E hb.1 hb.2) (E.pos (bd _ (by omega)) (E.now' ?_))))))))
  rw[krepay_sp]
  simp only[bnT,bmT,ByteArray.append_assoc]
  rfl
 rw[if_neg h4]
 refine E.ite (fun h3=>?_) (fun h3=>E.now' (by rw[if_neg h3];rfl))
 rw[if_pos h3]
 refine E.bind num (E.pos (bd _ (by omega)) (E.pos (bd _ (by omega)) (E.bind mon (E.pos (bd _ (by omega)) ?_))))
 have lp:=specEvt_l27 (a:=kd) (b:=m) (c:=a) (d:=rest) (f:=n) (g:=d) ms [] ({ data:=#[(108:UInt8),(101:UInt8),(110:UInt8),(100:UInt8),(32:UInt8)] }++decT m.toNat++spT++monT a.toNat) (by simpa using hl) (by simp only[ByteArray.size_append,spT_size,z5];omega)
 refine E.is (E.ren (fun _=>0) lp) ?_
 rw[klend_sp]
 simp only[bnT,bmT,ByteArray.append_assoc]
end Go.Proofs.YtbgamdkmlikgjaaGreatDoorG
end
section
set_option linter.unusedVariables false
namespace Go.Proofs.YtbgamdkmlikgjaaGreatDoorG
open Go Go.Refl Go.Refl.Math Go.RowKit
def itG (x:Int):ByteArray:=⟨(Go.Lib.itoa x).toArray⟩
theorem itG_nat {x:Int} (h:0≤x):itG x=decT x.toNat:=by unfold itG decT Go.Lib.itoa;rw[if_neg (by omega)]
theorem decT_pow:∀(k u:Nat),u<10 ^ (k+1)→(decT u).size≤k+1
 | 0,u,h=>by rw[decT_one (by simpa using h)];exact Nat.le_refl _
 | k+1,u,h=>by
  by_cases h1:u<10
  ·rw[decT_one h1];omega
  ·have ih:=decT_pow k (u / 10) (by rw[Nat.pow_succ] at h;omega)
   rw[decT_ge h1,ByteArray.size_append,decT_one (n:=u % 10) (by omega)]
   omega
theorem itG_size {x:Int} (h0:-9223372036854775808≤x) (h1:x≤9223372036854775807):(itG x).size≤30:=by
 by_cases h:0≤x
 ·rw[itG_nat h]
  have:=decT_pow 18 x.toNat (by omega)
  omega
 ·have h2:=decT_pow 18 x.natAbs (by omega)
  have e:(itG x).size=1+(decT x.natAbs).size:=by
   unfold itG decT Go.Lib.itoa
   rw[if_pos (by omega)]
   simp[ByteArray.size]
   omega
  omega
theorem itoaG_E {x:Int} (h0:-9223372036854775808≤x) (h1:x≤9223372036854775807):E (fun k=>zf141 (k 0) x) (itG x):=by
 refine E.congr (fun k=>?_) (E.now _)
 show itRun x=_
 unfold itRun
 rw[decide_eq_true (by omega),decide_eq_true (by omega)]
 rfl
theorem members_l3:∀(post pre:List Int) (acc:ByteArray),(pre++post).length<1000000000→acc.size+200*post.length≤900000000000 →
  E (fun k=>zf43.l3 (k 0) (k 1) (pre++post) ((pre++post).length:Int) (pre.length:Int) (bytesI acc)) (if post.all mV=true then (acc++memT post,true) else (ByteArray.empty,false))
 | [],pre,acc,hl,hs=>by
  refine E.step 1 (fun v w h1 h2=>by rewrite [h1,h2 0 (by decide)];exact zf43.l3_succ ..) ?_
  exact E.neg (by simp) (E.bind (string_E acc) (E.now' (by rw[if_pos (by rfl),memT,ByteArray.append_empty])))
 | m::post,pre,acc,hl,hs=>by
  have hlen:(pre++m::post).length=pre.length+(post.length+1):=by simp
  have ih:=members_l3 post (pre++[m]) (acc++(spT++decT m.toNat)) (by simpa using hl)
  rw[show (pre++[m]).length=pre.length+1 from by simp,List.append_assoc,bytesI_append] at ih
  rw[List.length_cons] at hs
  have q1:ByteArray.size { data:=#[(32:UInt8)] }=1:=rfl
  have no:mV m=false→(ByteArray.empty,false)=if (m::post).all mV=true then (acc++memT (m::post),true) else (ByteArray.empty,false):=fun h=>by
   rw[if_neg (by rw[List.all_cons,h];simp)]
  refine E.step 1 (fun v w h1 h2=>by rewrite [h1,h2 0 (by decide)];exact zf43.l3_succ ..) ?_
  simp only[Int.toNat_natCast,getD_mid]
  rw[wrap_nat (by omega)]
  refine E.pos (by omega) (E.pos (by omega) (E.pos (by omega) (E.ite (fun h=>E.now' (no (decide_eq_false (by omega)))) (fun h1=>E.ite (fun h=>E.now' (no (decide_eq_false (by omega)))) (fun h2=>?_)))))
  have hm:mV m=true:=mV_iff.2 (by omega)
  have s1:=decT_sz m.toNat
  refine E.bind (itoa_E (by omega) (by omega)) (E.pos (by rw[q1];simp only[maxN];omega) (E.bind (write_E (by rw[bytesI_len,ByteArray.size_append,q1];omega)) ?_))
  refine E.is (ih (by simp only[ByteArray.size_append,spT_size];omega)) ?_
  rw[List.all_cons,hm,Bool.true_and]
  simp only[memT,bnT,ByteArray.append_assoc]
theorem members_E (l:List Int) (hl:l.length<1000000000):E (fun k=>zf43 (k 0) l) (if l.all mV=true then (memT l,true) else (ByteArray.empty,false)):=by
 refine E.congr (fun k=>zf43.eq (k 0) l) ?_
 have h0:ByteArray.size ByteArray.empty=0:=rfl
 have:=members_l3 l [] ByteArray.empty (by simpa using hl) (by rw[h0];omega)
 refine E.is (E.ren (fun _=>0) this) ?_
 rw[ByteArray.empty_append]
theorem monT_ne (x:Nat):monT x≠{ data:=#[] }:=by
 intro h
 have h1:=congrArg ByteArray.size h
 have h2:ByteArray.size { data:=#[] }=0:=rfl
 unfold monT at h1
 simp only[ByteArray.size_append,dotT_size,h2] at h1
 omega
theorem money_no {x:Int} (h:aV x=false):E (fun k=>zf25 (k 0) x) { data:=#[] }:=by
 have h':¬(0≤x∧x≤1000000):=of_decide_eq_false h
 exact E.congr (fun k=>zf25.eq (k 0) x) (E.ite (fun h=>E.now _) (fun h1=>E.ite (fun h=>E.now _) (fun h2=>absurd ⟨by omega,by omega⟩ h')))
theorem amounts_E (a:Int):E (fun k=>zf41 (k 0) [a]) (if aV a=true then (bmT a,true) else (ByteArray.empty,false)):=by
 refine E.congr (fun k=>zf41.eq (k 0) [a]) ?_
 have lp:E (fun k=>zf41.l3 (k 0) (k 1) { data:=#[] } [a] 1 0) (if aV a=true then (bmT a,true) else (ByteArray.empty,false)):=by
  refine E.step 1 (fun v w h1 h2=>by rewrite [h1,h2 0 (by decide)];exact zf41.l3_succ ..) ?_
  refine E.pos (by decide) (E.pos (by decide) (E.pos (by simp) ?_))
  show E (fun k=>(zf25 (k 0) a).bind _) _
  by_cases h:aV a=true
  ·have ha:=aV_iff.1 h
   have s1:=monT_size a.toNat
   have q1:ByteArray.size { data:=#[(32:UInt8)] }=1:=rfl
   have q0:ByteArray.size { data:=#[] }=0:=rfl
   rw[if_pos h]
   refine E.bind (showMoney_E ha.1 ha.2) (E.neg (monT_ne _) (E.pos (by rw[q1];simp only[maxN];omega) (E.pos (by rw[ByteArray.size_append,q1,q0];simp only[maxN];omega) ?_)))
   refine E.step 1 (fun v w h1 h2=>by rewrite [h1,h2 0 (by decide)];exact zf41.l3_succ ..) ?_
   refine E.neg (by rw[wrap_id (by omega) (by omega)];omega) (E.now' ?_)
   show (ByteArray.empty++(spT++monT a.toNat),true)=_
   rw[ByteArray.empty_append];rfl
  ·rw[if_neg h]
   exact E.bind (money_no (by simpa using h)) (E.pos rfl (E.now' rfl))
 exact E.ren (fun _=>0) lp
theorem implRate_E (n d:Int):E (fun k=>zf29 (k 0) (n,d)) (rV n d):=by
 refine E.congr (fun k=>zf29.eq (k 0) (n,d)) (E.ite (fun h1=>E.ite (fun h2=>E.ite (fun h3=>E.now' ?_) (fun h3=>E.now' ?_)) (fun h2=>E.now' ?_)) (fun h1=>E.now' ?_))
 ·unfold rV;rw[decide_eq_decide];simp only at h1 h2 h3 ⊢;omega
 all_goals (unfold rV;symm;rw[decide_eq_false_iff_not];simp only at *;omega)
def memP (l:List Int):ByteArray × Bool:=if l.all mV=true then (memT l,true) else (ByteArray.empty,false)
def amtP (a:Int):ByteArray × Bool:=if aV a=true then (bmT a,true) else (ByteArray.empty,false)
def detP (e:EvT):ByteArray × Bool:=
 if e.1=0 then (ByteArray.empty,true) else if e.1=7 then (ByteArray.empty,true) else if e.1=6 then (spT++itG e.2.2.2.2.2.1++spT++itG e.2.2.2.2.2.2,rV e.2.2.2.2.2.1 e.2.2.2.2.2.2)
 else if e.1=5 then memP [e.2.1] else if e.1=4 then ((memP [e.2.1]).1++(amtP e.2.2.1).1++(amtP e.2.2.2.1).1,(memP [e.2.1]).2&&(amtP e.2.2.1).2&&(amtP e.2.2.2.1).2)
 else if e.1=3 then ((memP [e.2.1]).1++(amtP e.2.2.1).1++(memP e.2.2.2.2.1).1,(memP [e.2.1]).2&&(amtP e.2.2.1).2&&(memP e.2.2.2.2.1).2)
 else ((memP [e.2.1]).1++(amtP e.2.2.1).1,(memP [e.2.1]).2&&(amtP e.2.2.1).2)
theorem memP_size (l:List Int):(memP l).1.size≤l.length*101:=by
 unfold memP
 split
 ·rename_i h;exact memT_size h
 ·exact Nat.zero_le _
theorem amtP_size (a:Int):(amtP a).1.size≤10005:=by
 unfold amtP
 split
 ·rename_i h;exact bmT_size (aV_iff.1 h).2
 ·exact Nat.zero_le _
theorem details_E (e:EvT) (hl:e.2.2.2.2.1.length<1000000000) (b1:-9223372036854775808≤e.2.2.2.2.2.1) (b2:e.2.2.2.2.2.1≤9223372036854775807) (b3:-9223372036854775808≤e.2.2.2.2.2.2) (b4:e.2.2.2.2.2.2≤9223372036854775807) :
  E (fun k=>zf42 (k 0) e) (detP e):=by
 obtain ⟨kd,m,a,rest,ms,n,d⟩:=e
 simp only at hl b1 b2 b3 b4
 have q1:ByteArray.size { data:=#[(32:UInt8)] }=1:=rfl
 have bd:∀n:Nat,n≤1000000000000→n≤maxN:=fun n h=>by simp only[maxN];omega
 have s1:=memP_size [m]
 have s2:=amtP_size a
 have s3:=amtP_size rest
 have s4:=memP_size ms
 have s5:=itG_size b1 b2
 have s6:=itG_size b3 b4
 have mE:=members_E [m] (by simp)
 have aE:=amounts_E a
 have rE:=amounts_E rest
 have lE:=members_E ms hl
 rw[List.length_singleton] at s1
 refine E.congr (fun k=>zf42.eq (k 0) _) ?_
 simp only[ByteArray.size_append,q1]
 unfold detP
 simp only
 refine E.ite (fun h0=>E.pos h0 (E.now' (by rw[if_pos h0];rfl))) (fun h0=>?_)
 rw[if_neg h0]
 refine E.ite (fun h7=>E.now' (by rw[if_pos h7];rfl)) (fun h7=>?_)
 rw[if_neg h7]
 refine E.ite (fun h6=>?_) (fun h6=>?_)
 ·rw[if_pos h6]
  exact E.bind (itoaG_E b1 b2) (E.pos (bd _ (by omega)) (E.pos (bd _ (by omega)) (E.bind (itoaG_E b3 b4) (E.pos (bd _ (by omega)) (E.bind (implRate_E n d) (E.now' rfl))))))
 rw[if_neg h6]
 refine E.bind mE (E.ite (fun h5=>E.now' (by rw[if_pos h5];rfl)) (fun h5=>?_))
 rw[if_neg h5]
 have t1:(if [m].all mV=true then (memT [m],true) else (ByteArray.empty,false))=memP [m]:=rfl
 have t2:(if aV a=true then (bmT a,true) else (ByteArray.empty,false))=amtP a:=rfl
 have t3:(if aV rest=true then (bmT rest,true) else (ByteArray.empty,false))=amtP rest:=rfl
 have t4:(if ms.all mV=true then (memT ms,true) else (ByteArray.empty,false))=memP ms:=rfl
 rw[t1]
 refine E.bind aE ?_
 rw[t2]
 refine E.ite (fun h4=>?_) (fun h4=>?_)
 ·rw[if_pos h4]
  refine E.bind rE ?_
  rw[t3]
  refine E.pos (bd _ (by omega)) (E.pos (bd _ (by omega)) (E.ite (fun g1=>E.ite (fun g2=>E.now' ?_) (fun g2=>E.now' ?_)) (fun g1=>E.now' ?_)))
  ·rw[g1,g2];rfl
  ·rw[g1,show (amtP a).2=false by simpa using g2];rfl
  ·rw[show (memP [m]).2=false by simpa using g1];rfl
 rw[if_neg h4]
 refine E.ite (fun h3=>?_) (fun h3=>?_)
 ·rw[if_pos h3]
  refine E.bind lE ?_
  rw[t4]
  refine E.pos (bd _ (by omega)) (E.pos (bd _ (by omega)) (E.ite (fun g1=>E.ite (fun g2=>E.now' ?_) (fun g2=>E.now' ?_)) (fun g1=>E.now' ?_)))
  ·rw[g1,g2];rfl
  ·rw[g1,show (amtP a).2=false by simpa using g2];rfl
  ·rw[show (memP [m]).2=false by simpa using g1];rfl
 rw[if_neg h3]
 refine E.pos (bd _ (by omega)) (E.ite (fun g1=>E.now' ?_) (fun g1=>E.now' ?_))
 ·rw[g1];rfl
 ·rw[show (memP [m]).2=false by simpa using g1];rfl
theorem detP_size (e:EvT) (hl:e.2.2.2.2.1.length<1000000000) (b1:-9223372036854775808≤e.2.2.2.2.2.1) (b2:e.2.2.2.2.2.1≤9223372036854775807) (b3:-9223372036854775808≤e.2.2.2.2.2.2) (b4:e.2.2.2.2.2.2≤9223372036854775807):(detP e).1.size≤200000000000:=by
 have s1:=memP_size [e.2.1]
 have s2:=amtP_size e.2.2.1
 have s3:=amtP_size e.2.2.2.1
 have s4:=memP_size e.2.2.2.2.1
 have s5:=itG_size b1 b2
 have s6:=itG_size b3 b4
 rw[List.length_singleton] at s1
 have h0:ByteArray.size ByteArray.empty=0:=rfl
 unfold detP
 (repeat' split) <;> (try simp only[ByteArray.size_append,spT_size,h0]) <;> omega
def kindN (k:Nat):ByteArray:=List.getD [kjoin,ksave,ktake,klend,krepay,kfail,knight,kshare] k ByteArray.empty
theorem evt_of (e:EvT) (h0:0≤e.1) (h7:e.1≤7):(if (detP e).2=true then kindN e.1.toNat++(detP e).1 else ByteArray.empty)=evtT e:=by
 obtain ⟨kd,m,a,rest,ms,n,d⟩:=e
 simp only at h0 h7
 have hm:memP [m]=if mV m=true then (bnT m,true) else (ByteArray.empty,false):=by
  unfold memP
  simp only[List.all_cons,List.all_nil,Bool.and_true,memT,ByteArray.append_empty]
 have:kd=0∨kd=1∨kd=2∨kd=3∨kd=4∨kd=5∨kd=6∨kd=7:=by omega
 rcases this with rfl | rfl | rfl | rfl | rfl | rfl | rfl | rfl
 ·show kjoin++ByteArray.empty=kjoin
  rw[ByteArray.append_empty]
 ·show (if ((memP [m]).2&&(amtP a).2)=true then ksave++((memP [m]).1++(amtP a).1) else ByteArray.empty)=if mV m=true then (if aV a=true then ksave++(bnT m++bmT a) else ByteArray.empty) else ByteArray.empty
  rw[hm];unfold amtP
  cases mV m <;> cases aV a <;> rfl
 ·show (if ((memP [m]).2&&(amtP a).2)=true then ktake++((memP [m]).1++(amtP a).1) else ByteArray.empty)=if mV m=true then (if aV a=true then ktake++(bnT m++bmT a) else ByteArray.empty) else ByteArray.empty
  rw[hm];unfold amtP
  cases mV m <;> cases aV a <;> rfl
 ·show (if ((memP [m]).2&&(amtP a).2&&(memP ms).2)=true then klend++((memP [m]).1++(amtP a).1++(memP ms).1) else ByteArray.empty)=if mV m=true then (if aV a=true then (if ms.all mV=true then klend++(bnT m++bmT a++memT ms) else ByteArray.empty) else ByteArray.empty) else ByteArray.empty
  rw[hm];unfold amtP memP
  cases mV m <;> cases aV a <;> cases ms.all mV <;> rfl
 ·show (if ((memP [m]).2&&(amtP a).2&&(amtP rest).2)=true then krepay++((memP [m]).1++(amtP a).1++(amtP rest).1) else ByteArray.empty)=if mV m=true then (if aV a=true then (if aV rest=true then krepay++(bnT m++bmT a++bmT rest) else ByteArray.empty) else ByteArray.empty) else ByteArray.empty
  rw[hm];unfold amtP
  cases mV m <;> cases aV a <;> cases aV rest <;> rfl
 ·show (if (memP [m]).2=true then kfail++(memP [m]).1 else ByteArray.empty)=if mV m=true then kfail++bnT m else ByteArray.empty
  rw[hm]
  cases mV m <;> rfl
 ·show (if rV n d=true then knight++(spT++itG n++spT++itG d) else ByteArray.empty)=if rV n d=true then knight++(bnT n++bnT d) else ByteArray.empty
  by_cases h:rV n d=true
  ·have hr:=rV_iff.1 h
   rw[if_pos h,if_pos h,itG_nat (by omega),itG_nat (by omega)]
   simp only[bnT,ByteArray.append_assoc]
  ·rw[if_neg h,if_neg h]
 ·show kshare++ByteArray.empty=kshare
  rw[ByteArray.append_empty]
theorem evt_out (e:EvT) (h:e.1<0∨7<e.1):ByteArray.empty=evtT e:=by
 have n0:¬e.1=0:=by omega
 have n1:¬e.1=1:=by omega
 have n2:¬e.1=2:=by omega
 have n3:¬e.1=3:=by omega
 have n4:¬e.1=4:=by omega
 have n5:¬e.1=5:=by omega
 have n6:¬e.1=6:=by omega
 have n7:¬e.1=7:=by omega
 unfold evtT
 rw[if_neg n0,if_neg n7,if_neg n6,if_neg n5,if_neg n1,if_neg n2,if_neg n4,if_neg n3]
 simp
theorem kindN_size:∀i,i<8→(kindN i).size≤5:=by
 intro i hi
 have:i=0∨i=1∨i=2∨i=3∨i=4∨i=5∨i=6∨i=7:=by omega
 rcases this with rfl | rfl | rfl | rfl | rfl | rfl | rfl | rfl <;> decide
theorem implEvt_E (e:EvT) (hl:e.2.2.2.2.1.length<1000000000) (b1:-9223372036854775808≤e.2.2.2.2.2.1) (b2:e.2.2.2.2.2.1≤9223372036854775807) (b3:-9223372036854775808≤e.2.2.2.2.2.2) (b4:e.2.2.2.2.2.2≤9223372036854775807) :
  E (fun k=>zf15 (k 0) e) (evtT e):=by
 have dE:=details_E e hl b1 b2 b3 b4
 have ds:=detP_size e hl b1 b2 b3 b4
 refine E.congr (fun k=>zf15.eq (k 0) e) (E.ite (fun h=>E.now' (evt_out e (.inl h))) (fun h0=>E.ite (fun h=>E.now' (evt_out e (.inr (by omega)))) (fun h7=>E.bind dE (E.ite (fun h=>E.now' ?_) (fun h=>?_)))))
 ·rw[←evt_of e (by omega) (by omega),if_neg (by simpa using h)];rfl
 ·have kn:=kindN_size e.1.toNat (by omega)
  refine E.pos (by omega) (E.pos (by omega) (E.pos ?_ (E.now' ?_)))
  ·show (kindN e.1.toNat).size+(detP e).1.size≤maxN
   simp only[maxN];omega
  ·show kindN e.1.toNat++(detP e).1=evtT e
   rw[←evt_of e (by omega) (by omega),if_pos (by simpa using h)]
end Go.Proofs.YtbgamdkmlikgjaaGreatDoorG
end
section
set_option linter.unusedVariables false
namespace Go.Proofs.YtbgamdkmlikgjaaGreatDoorG
open Go Go.Refl Go.Refl.Math Go.RowKit
theorem szI_E (l:List Int) (left:Int) (h1:-9223372036854775808≤left-(l.length:Int)) (h2:left≤9000000000000000000):E (fun k=>zf63 (k 0) (l,left)) (if left-(l.length:Int)<0 then -1 else left-(l.length:Int)):=by
 refine E.congr (fun k=>zf63.eq (k 0) l left) ?_
 rw[wrap_id (x:=left-(l.length:Int)) (by omega) (by omega)]
 refine E.ite (fun h=>E.now' (by rw[if_pos h])) (fun h=>E.now' (by rw[if_neg h]))
theorem toI_l3:∀(post pre:List Int) (m:Nat),post.length=m→(pre++post).length<1000000000 →
  E (fun k=>zf68.l3 (k 0) (k 1) (pre++post) (pre.length:Int) (pre++List.replicate m 0)) (pre++post)
 | [],pre,m,hm,hl=>by
  have hm0:m=0:=by simpa using hm.symm
  subst hm0
  refine E.step 1 (fun v w h1 h2=>by rewrite [h1,h2 0 (by decide)];exact zf68.l3_succ ..) ?_
  exact E.neg (by simp) (E.now' (by simp))
 | x::post,pre,0,hm,hl=>by simp at hm
 | x::post,pre,m+1,hm,hl=>by
  have hlen:(pre++x::post).length=pre.length+(post.length+1):=by simp
  have ih:=toI_l3 post (pre++[x]) m (by simpa using hm) (by simpa using hl)
  rw[show (pre++[x]).length=pre.length+1 from by simp,List.append_assoc] at ih
  have hlr:(pre++List.replicate (m+1) (0:Int)).length=pre.length+(m+1):=by simp
  have hset:(pre++List.replicate (m+1) (0:Int)).set pre.length x=(pre++[x])++List.replicate m 0:=by rw[List.replicate_succ];simp
  refine E.step 1 (fun v w h1 h2=>by rewrite [h1,h2 0 (by decide)];exact zf68.l3_succ ..) ?_
  simp only[Int.toNat_natCast,getD_mid]
  rw[wrap_nat (by omega)]
  exact E.pos (by omega) (E.pos (by omega) (E.pos (by omega) (E.pos (by omega) (E.pos (by omega) (by rw[hset];simpa using ih)))))
theorem toI_E (l:List Int) (hl:l.length<1000000000):E (fun k=>zf68 (k 0) l) l:=by
 have:=toI_l3 l [] l.length rfl (by simpa using hl)
 refine E.congr (fun k=>zf68.eq (k 0) l) (E.pos (by omega) (E.pos (by omega) (E.pos (by simp[maxN];omega) ?_)))
 rw[Int.toNat_natCast]
 exact E.ren (fun _=>0) this
theorem eqI_l4:∀(post pre:List Int),(pre++post).length<1000000000 →
  E (fun k=>zf57.l4 (k 0) (k 1) (pre++post) (pre++post) (pre.length:Int)) true
 | [],pre,hl=>by
  refine E.step 1 (fun v w h1 h2=>by rewrite [h1,h2 0 (by decide)];exact zf57.l4_succ ..) ?_
  exact E.neg (by simp) (E.now _)
 | x::post,pre,hl=>by
  have hlen:(pre++x::post).length=pre.length+(post.length+1):=by simp
  have ih:=eqI_l4 post (pre++[x]) (by simpa using hl)
  rw[show (pre++[x]).length=pre.length+1 from by simp,List.append_assoc] at ih
  refine E.step 1 (fun v w h1 h2=>by rewrite [h1,h2 0 (by decide)];exact zf57.l4_succ ..) ?_
  simp only[Int.toNat_natCast,getD_mid]
  rw[wrap_nat (by omega)]
  exact E.pos (by omega) (E.pos (by omega) (E.pos (by omega) (E.pos (by omega) (E.pos (by omega) (E.pos trivial ih)))))
theorem eqI_E (l:List Int) (hl:l.length<1000000000):E (fun k=>zf57 (k 0) (l,l)) true:=
 E.congr (fun k=>zf57.eq (k 0) l l) (E.pos rfl (E.ren (fun _=>0) (eqI_l4 l [] (by simpa using hl))))
end Go.Proofs.YtbgamdkmlikgjaaGreatDoorG
end
section
set_option linter.unusedVariables false
namespace Go.Proofs.YtbgamdkmlikgjaaGreatDoorG
open Go Go.Refl Go.Refl.Math Go.RowKit
def linT:List EvT→ByteArray
 | []=>ByteArray.empty
 | e::es=>evtT e++nlT++linT es
end Go.Proofs.YtbgamdkmlikgjaaGreatDoorG
end
section
set_option linter.unusedVariables false
namespace Go.Proofs.YtbgamdkmlikgjaaGreatDoorG
open Go Go.Refl Go.Refl.Math Go.RowKit
def dgt (b:UInt8):Bool:=decide (48≤b.toNat)&&decide (b.toNat≤57)
theorem dgt_iff {b:UInt8}:dgt b=true↔48≤b.toNat∧b.toNat≤57:=by simp[dgt]
def dval:Nat→List UInt8→Nat
 | a,[]=>a
 | a,b::l=>dval (10*a+(b.toNat-48)) l
theorem dval_append:∀(l m:List UInt8) (a:Nat),dval a (l++m)=dval (dval a l) m
 | [],m,a=>rfl
 | c::l,m,a=>dval_append l m _
theorem dval_ge:∀(l:List UInt8) (a:Nat),a≤dval a l
 | [],a=>Nat.le_refl a
 | c::l,a=>Nat.le_trans (by omega) (dval_ge l _)
theorem dval_lt:∀(l:List UInt8) (a k:Nat),l.all dgt=true→a<10 ^ k→dval a l<10 ^ (k+l.length)
 | [],a,k,_,h=>h
 | c::l,a,k,hd,h=>by
  rw[List.all_cons,Bool.and_eq_true] at hd
  have h1:=dgt_iff.1 hd.1
  have h2:=dval_lt l (10*a+(c.toNat-48)) (k+1) hd.2 (by rw[Nat.pow_succ];omega)
  rw[List.length_cons,show k+(l.length+1)=k+1+l.length by omega]
  exact h2
theorem byte_back {b:UInt8} {n:Nat} (h:n=b.toNat):UInt8.ofNat n=b:=by rw[h];exact UInt8.ofNat_toNat
theorem dec_of:∀(k:Nat) (l:List UInt8),l.length=k+1→l.all dgt=true→(k=0∨l.head?≠some 48)→Go.Lib.decDigits (dval 0 l)=l∧(l.head?≠some 48→1≤dval 0 l)
 | 0,l,hl,hd,_=>by
  obtain ⟨b,rfl⟩:=List.length_eq_one_iff.1 hl
  have hb:=dgt_iff.1 (show dgt b=true by simpa using hd)
  refine ⟨?_,fun h=>?_⟩
  ·show Go.Lib.decDigits (10*0+(b.toNat-48))=[b]
   rw[Go.Lib.decDigits,dif_pos (by omega),byte_back (b:=b) (by omega)]
  ·show 1≤10*0+(b.toNat-48)
   have:b.toNat≠48:=fun e=>h (by
    have:b=48:=UInt8.toNat_inj.1 e
    rw[this];rfl)
   omega
 | k+1,l,hl,hd,hh=>by
  have hne:l≠[]:=by intro h;rw[h] at hl;cases hl
  obtain ⟨init,b,rfl⟩:∃init b,l=init++[b]:=⟨l.dropLast,l.getLast hne,(List.dropLast_concat_getLast hne).symm⟩
  have hil:init.length=k+1:=by simpa using hl
  have hhd:(init++[b]).head?=init.head?:=by cases init with
   | nil=>cases hil
   | cons c i=>rfl
  rw[List.all_append,Bool.and_eq_true] at hd
  have hb:=dgt_iff.1 (show dgt b=true by simpa using hd.2)
  have hh':init.head?≠some 48:=by
   rcases hh with h | h
   ·cases h
   ·rwa [hhd] at h
  obtain ⟨e1,e2⟩:=dec_of k init hil hd.1 (.inr hh')
  have g:=e2 hh'
  rw[dval_append]
  show Go.Lib.decDigits (10*dval 0 init+(b.toNat-48))=init++[b]∧((init++[b]).head?≠some 48→1≤10*dval 0 init+(b.toNat-48))
  refine ⟨?_,fun _=>by omega⟩
  rw[Go.Lib.decDigits,dif_neg (by omega),show (10*dval 0 init+(b.toNat-48)) / 10=dval 0 init by omega,e1,byte_back (b:=b) (by omega)]
theorem dgt_of {n:Nat} (h:n<10):dgt (UInt8.ofNat (48+n))=true∧(UInt8.ofNat (48+n)).toNat=48+n:=by
 have e:(UInt8.ofNat (48+n)).toNat=48+n:=by
  rw[UInt8.toNat_ofNat']
  exact Nat.mod_eq_of_lt (by omega)
 exact ⟨dgt_iff.2 (by omega),e⟩
theorem dval_dec (n:Nat):(Go.Lib.decDigits n).all dgt=true∧dval 0 (Go.Lib.decDigits n)=n∧Go.Lib.decDigits n≠[]∧(1≤n→(Go.Lib.decDigits n).head?≠some 48):=by
 induction n using Nat.strongRecOn with
 | ind n ih=>
  by_cases h:n<10
  ·obtain ⟨h1,h2⟩:=dgt_of h
   rw[Go.Lib.decDigits,dif_pos h]
   refine ⟨by simpa using h1,?_,by simp,fun hn e=>?_⟩
   ·show 10*0+((UInt8.ofNat (48+n)).toNat-48)=n
    omega
   ·have e':UInt8.ofNat (48+n)=48:=by simpa using e
    rw[e'] at h2
    have:(48:UInt8).toNat=48:=rfl
    omega
  ·obtain ⟨i1,i2,i3,i4⟩:=ih (n / 10) (by omega)
   obtain ⟨h1,h2⟩:=dgt_of (n:=n % 10) (by omega)
   rw[Go.Lib.decDigits,dif_neg h]
   refine ⟨by rw[List.all_append,i1];simpa using h1,?_,by simp,fun _=>?_⟩
   ·rw[dval_append,i2]
    show 10*(n / 10)+((UInt8.ofNat (48+n % 10)).toNat-48)=n
    omega
   ·have:=i4 (by omega)
    cases hd:Go.Lib.decDigits (n / 10) with
    | nil=>exact absurd hd i3
    | cons c r=>rw[hd] at this;exact this
theorem decT_inj {m n:Nat} (h:decT m=decT n):m=n:=by
 have h1:(Go.Lib.decDigits m).toArray=(Go.Lib.decDigits n).toArray:=congrArg ByteArray.data h
 have h2:Go.Lib.decDigits m=Go.Lib.decDigits n:=by simpa using congrArg Array.toList h1
 rw[←(dval_dec m).2.1,h2,(dval_dec n).2.1]
theorem decT_list (n:Nat):(decT n).data.toList=Go.Lib.decDigits n:=rfl
theorem decT_ne (n:Nat):decT n≠{ data:=#[] }:=by
 intro h
 have h1:(Go.Lib.decDigits n).toArray=#[]:=congrArg ByteArray.data h
 exact (dval_dec n).2.2.1 (by simpa using congrArg Array.toList h1)
theorem ba_ext {s t:ByteArray} (h:s.data.toList=t.data.toList):s=t:=ByteArray.ext (Array.toList_inj.1 h)
theorem ba_size (s:ByteArray):s.size=s.data.toList.length:=by
 show s.data.size=_
 rw[Array.length_toList]
def numP (lim:Nat) (s:ByteArray) (r:Int):Prop:=(∃n:Nat,n≤lim∧s=decT n∧r=(n:Int))∨((∀n:Nat,n≤lim→s≠decT n)∧r=-1)
theorem digit_step {a:Nat} {b:UInt8} (ha:a≤10000000000) (h1:48≤b.toNat) (h2:b.toNat≤57):wrap64 (wrap64 (10*(a:Int))+wrap64 (((b.toNat:Int)-48) % 256))=((10*a+(b.toNat-48):Nat):Int):=by
 rw[Int.emod_eq_of_lt (by omega) (by omega),wrap_id (x:=10*(a:Int)) (by omega) (by omega),wrap_id (x:=(b.toNat:Int)-48) (by omega) (by omega),wrap_id (by omega) (by omega)]
 omega
theorem specRead_l3 {x:ByteArray} (hx:x.size<1000000000):∀(post pre:List UInt8) (a:Nat),x.data.toList=pre++post→pre.all dgt=true→a=dval 0 pre→a≤9999999 →
  ∃r,E (fun k=>zf118.l3 (k 0) (k 1) x (a:Int) (pre.length:Int)) r∧numP 9999999 x r
 | [],pre,a,he,hp,ha,hb=>by
  rw[List.append_nil] at he
  have hz:x.size=pre.length:=by rw[ba_size,he]
  by_cases h0:x={ data:=#[] }
  ·refine ⟨-1,?_,.inr ⟨fun n _ h=>decT_ne n (h ▸ h0),rfl⟩⟩
   refine E.step 1 (fun v w h1 h2=>by rewrite [h1,h2 0 (by decide)];exact zf118.l3_succ ..) ?_
   exact E.neg (by omega) (E.pos h0 (E.now _))
  ·by_cases h1:x=decT a
   ·refine ⟨(a:Int),?_,.inl ⟨a,hb,h1,rfl⟩⟩
    refine E.step 1 (fun v w h1 h2=>by rewrite [h1,h2 0 (by decide)];exact zf118.l3_succ ..) ?_
    exact E.neg (by omega) (E.neg h0 (E.bind (specNum_E (by omega) (by omega)) (E.pos (by rw[Int.toNat_natCast];exact h1) (E.now _))))
   ·refine ⟨-1,?_,.inr ⟨fun n hn h=>?_,rfl⟩⟩
    ·refine E.step 1 (fun v w h1 h2=>by rewrite [h1,h2 0 (by decide)];exact zf118.l3_succ ..) ?_
     exact E.neg (by omega) (E.neg h0 (E.bind (specNum_E (by omega) (by omega)) (E.neg (by rw[Int.toNat_natCast];exact h1) (E.now _))))
    ·have e1:pre=Go.Lib.decDigits n:=by rw[←he,h,decT_list]
     rw[e1,(dval_dec n).2.1] at ha
     exact h1 (by rw[ha];exact h)
 | b::post,pre,a,he,hp,ha,hb=>by
  have hz:x.size=pre.length+(post.length+1):=by rw[ba_size,he];simp
  have no:(¬dgt b=true)→numP 9999999 x (-1):=fun hd=>.inr ⟨fun n _ h=>by
   have e1:pre++b::post=Go.Lib.decDigits n:=by rw[←he,h,decT_list]
   have:=(dval_dec n).1
   rw[←e1,List.all_append,List.all_cons,Bool.and_eq_true,Bool.and_eq_true] at this
   exact hd this.2.1,rfl⟩
  by_cases h1:b.toNat<48
  ·refine ⟨-1,?_,no (by rw[dgt_iff];omega)⟩
   refine E.step 1 (fun v w h1 h2=>by rewrite [h1,h2 0 (by decide)];exact zf118.l3_succ ..) ?_
   rw[he,Int.toNat_natCast,getD_mid]
   exact E.pos (by omega) (E.pos (by omega) (E.pos (by omega) (E.pos (by omega) (E.now _))))
  ·by_cases h2:b.toNat > 57
   ·refine ⟨-1,?_,no (by rw[dgt_iff];omega)⟩
    refine E.step 1 (fun v w h1 h2=>by rewrite [h1,h2 0 (by decide)];exact zf118.l3_succ ..) ?_
    rw[he,Int.toNat_natCast,getD_mid]
    exact E.pos (by omega) (E.pos (by omega) (E.pos (by omega) (E.neg (by omega) (E.pos (by omega) (E.pos (by omega) (E.pos (by omega) (E.now _)))))))
   ·have hd:dgt b=true:=dgt_iff.2 (by omega)
    by_cases h3:a > 999999
    ·refine ⟨-1,?_,.inr ⟨fun n hn h=>?_,rfl⟩⟩
     ·refine E.step 1 (fun v w h1 h2=>by rewrite [h1,h2 0 (by decide)];exact zf118.l3_succ ..) ?_
      rw[he,Int.toNat_natCast,getD_mid]
      exact E.pos (by omega) (E.pos (by omega) (E.pos (by omega) (E.neg (by omega) (E.pos (by omega) (E.pos (by omega) (E.neg (by omega) (E.pos (by omega) (E.now _))))))))
     ·have e1:pre++b::post=Go.Lib.decDigits n:=by rw[←he,h,decT_list]
      have e2:=(dval_dec n).2.1
      rw[←e1,dval_append,←ha] at e2
      have e3:=dval_ge post (10*a+(b.toNat-48))
      have e4:dval a (b::post)=dval (10*a+(b.toNat-48)) post:=rfl
      omega
    ·obtain ⟨r,ih,hr⟩:=specRead_l3 hx post (pre++[b]) (10*a+(b.toNat-48)) (by rw[he];simp) (by rw[List.all_append,hp];simpa using hd) (by rw[dval_append,←ha];rfl) (by omega)
     refine ⟨r,?_,hr⟩
     refine E.step 1 (fun v w h1 h2=>by rewrite [h1,h2 0 (by decide)];exact zf118.l3_succ ..) ?_
     rw[he,Int.toNat_natCast,getD_mid]
     rw[digit_step (by omega) (by omega) (by omega),wrap_nat (by omega)]
     rw[show (pre++[b]).length=pre.length+1 from by simp] at ih
     exact E.pos (by omega) (E.pos (by omega) (E.pos (by omega) (E.neg (by omega) (E.pos (by omega) (E.pos (by omega) (E.neg (by omega) (E.neg (by omega) (E.pos (by omega) (E.pos (by omega) ih)))))))))
theorem specRead_E (x:ByteArray) (hx:x.size<1000000000):∃r,E (fun k=>zf118 (k 0) x) r∧numP 9999999 x r:=by
 obtain ⟨r,h,hr⟩:=specRead_l3 hx x.data.toList [] 0 rfl rfl rfl (by omega)
 exact ⟨r,E.congr (fun k=>zf118.eq (k 0) x) (E.ren (fun _=>0) h),hr⟩
theorem parse_dec:∀(l:List UInt8) (a:Nat),l.all dgt=true→dval a l≤1000000000000→Go.Lib.parseUint10 a l=.ok (dval a l)
 | [],a,_,_=>rfl
 | c::l,a,hd,h=>by
  rw[List.all_cons,Bool.and_eq_true] at hd
  have h1:=dgt_iff.1 hd.1
  have e:dval a (c::l)=dval (10*a+(c.toNat-48)) l:=rfl
  have h2:=dval_ge l (10*a+(c.toNat-48))
  rw[e] at h ⊢
  rw[Go.Lib.parseUint10,if_pos h1,if_neg (by omega),if_neg (by omega),show a*10+(c.toNat-48)=10*a+(c.toNat-48) by omega]
  exact parse_dec l _ hd.2 h
theorem atoi_dec {n:Nat} (hn:n≤1000000000000):Go.Lib.atoiAll (Go.Lib.decDigits n)=.ok (n:Int):=by
 obtain ⟨h1,h2,h3,_⟩:=dval_dec n
 cases hd:Go.Lib.decDigits n with
 | nil=>exact absurd hd h3
 | cons c r=>
  have hc:dgt c=true:=by
   rw[hd,List.all_cons,Bool.and_eq_true] at h1
   exact h1.1
  have hc':=dgt_iff.1 hc
  rw[Go.Lib.atoiAll_plain c r (by omega) (by omega),←hd]
  have hm:Go.Lib.parseMag (Go.Lib.decDigits n)=.ok n:=by
   unfold Go.Lib.parseMag
   rw[if_neg h3,parse_dec _ 0 h1 (by omega),h2]
  rw[hm]
  show (if 9223372036854775808≤n then Go.Lib.NumEnd.range else Go.Lib.NumEnd.ok (n:Int))=_
  rw[if_neg (by omega)]
theorem atoi_E (s:ByteArray) (h:s.size≤1000000000):E (fun k=>zf140 (k 0) s) (atEnd s (Go.Lib.atoiAll s.data.toList)):=by
 refine E.congr (fun k=>?_) (E.now _)
 show atRun s=_
 unfold atRun
 rw[Nat.ble_eq_true_of_le (by omega)]
 rfl
theorem implRead_E (s:ByteArray) (lim:Nat) (hs:s.size≤1000000000) (hl:lim≤10000000):∃r,E (fun k=>zf40 (k 0) (s,(lim:Int))) r∧numP lim s r:=by
 have key:∀n:Nat,n≤lim→s=decT n→Go.Lib.atoiAll s.data.toList=.ok (n:Int):=fun n hn h=>by rw[h,decT_list];exact atoi_dec (by omega)
 have ha:=atoi_E s hs
 rcases hr:Go.Lib.atoiAll s.data.toList with v | _ | _
 rotate_left
 ·rw[hr] at ha
  refine ⟨-1,E.congr (fun k=>zf40.eq (k 0) s (lim:Int)) (E.bind ha (E.pos (by rfl) (E.now _))),.inr ⟨fun n hn h=>?_,rfl⟩⟩
  rw[key n hn h] at hr;cases hr
 ·rw[hr] at ha
  refine ⟨-1,E.congr (fun k=>zf40.eq (k 0) s (lim:Int)) (E.bind ha (E.pos (by rfl) (E.now _))),.inr ⟨fun n hn h=>?_,rfl⟩⟩
  rw[key n hn h] at hr;cases hr
 ·rw[hr] at ha
  have no:∀n:Nat,n≤lim→s=decT n→v=(n:Int):=fun n hn h=>by
   rw[key n hn h] at hr
   cases hr
   rfl
  by_cases h0:v<0
  ·exact ⟨-1,E.congr (fun k=>zf40.eq (k 0) s (lim:Int)) (E.bind ha (E.neg (fun h=>by cases (show false=true from h)) (E.pos h0 (E.now _)))),.inr ⟨fun n hn h=>by have:=no n hn h;omega,rfl⟩⟩
  ·by_cases h1:v > (lim:Int)
   ·exact ⟨-1,E.congr (fun k=>zf40.eq (k 0) s (lim:Int)) (E.bind ha (E.neg (fun h=>by cases (show false=true from h)) (E.neg h0 (E.pos h1 (E.now _))))),.inr ⟨fun n hn h=>by have:=no n hn h;omega,rfl⟩⟩
   ·by_cases h2:decT v.toNat=s
    ·exact ⟨v,E.congr (fun k=>zf40.eq (k 0) s (lim:Int)) (E.bind ha (E.neg (fun h=>by cases (show false=true from h)) (E.neg h0 (E.neg h1 (E.bind (itoa_E (x:=v) (by omega) (by omega)) (E.pos h2 (E.now _))))))),.inl ⟨v.toNat,by omega,h2.symm,by omega⟩⟩
    ·exact ⟨-1,E.congr (fun k=>zf40.eq (k 0) s (lim:Int)) (E.bind ha (E.neg (fun h=>by cases (show false=true from h)) (E.neg h0 (E.neg h1 (E.bind (itoa_E (x:=v) (by omega) (by omega)) (E.neg h2 (E.now _))))))),.inr ⟨fun n hn h=>h2 (by rw[no n hn h,Int.toNat_natCast,h]),rfl⟩⟩
end Go.Proofs.YtbgamdkmlikgjaaGreatDoorG
end
section
set_option linter.unusedVariables false
namespace Go.Proofs.YtbgamdkmlikgjaaGreatDoorG
open Go Go.Refl Go.Refl.Math Go.RowKit
def monP (s:ByteArray) (r:Int):Prop:=(∃n:Nat,n≤1000000∧s=monT n∧r=(n:Int))∨((∀n:Nat,n≤1000000→s≠monT n)∧r=-1)
def skp (p:Nat) (l:List UInt8):List UInt8:=l.take p++l.drop (p+1)
theorem skp_nil (p:Nat):skp p []=[]:=by
 unfold skp
 rw[List.take_nil,List.drop_nil]
 rfl
theorem skp_at {p:Nat} {l:List UInt8} {b:UInt8} (h:l.length=p):skp p (l++[b])=skp p l:=by
 unfold skp
 rw[List.drop_of_length_le (by simp;omega),List.drop_of_length_le (by omega),List.take_of_length_le (l:=l) (by omega),List.append_nil,List.append_nil,←h,List.take_left' rfl]
theorem skp_off {p:Nat} {l:List UInt8} {b:UInt8} (h:l.length≠p):skp p (l++[b])=skp p l++[b]:=by
 unfold skp
 rcases Nat.lt_or_ge l.length p with h1 | h1
 ·rw[List.drop_of_length_le (by simp;omega),List.drop_of_length_le (by omega),List.take_of_length_le (l:=l) (by omega),List.take_of_length_le (by simp;omega),List.append_nil,List.append_nil]
 ·rw[List.take_append_of_le_length (by omega),List.drop_append_of_le_length (by omega),List.append_assoc]
theorem skp_mem {p:Nat} {l m:List UInt8} {b:UInt8} (h:l.length≠p):b ∈ skp p (l++b::m):=by
 unfold skp
 rcases Nat.lt_or_ge l.length p with h1 | h1
 ·refine List.mem_append_left _ ?_
  rw[List.take_append,List.mem_append]
  right
  rw[show p-l.length=(p-l.length-1)+1 by omega,List.take_succ_cons]
  exact List.mem_cons_self ..
 ·refine List.mem_append_right _ ?_
  rw[List.drop_append_of_le_length (by omega)]
  exact List.mem_append_right _ (List.mem_cons_self ..)
theorem ten_le {n k:Nat} (h:k≤10) (hn:n<10 ^ k):n<10000000000:=Nat.lt_of_lt_of_le hn (show 10 ^ k≤10 ^ 10 from Nat.pow_le_pow_right (by decide) h)
theorem digit_step' {a:Nat} {b:UInt8} (ha:a≤10000000000) (h1:48≤b.toNat) (h2:b.toNat≤57):wrap64 (wrap64 ((a:Int)*10)+wrap64 (((b.toNat:Int)-48) % 256))=((10*a+(b.toNat-48):Nat):Int):=by
 rw[Int.mul_comm];exact digit_step ha h1 h2
theorem specMon_l5 {x:ByteArray} {p:Nat} (hp:p+3=x.size) (hx:x.size≤10):∀(post pre:List UInt8) (a:Nat),x.data.toList=pre++post→(skp p pre).all dgt=true→a=dval 0 (skp p pre)→a<10 ^ pre.length →
  E (fun k=>zf117.l5 (k 0) (k 1) x (a:Int) (pre.length:Int)) (if (skp p x.data.toList).all dgt=true then (if dval 0 (skp p x.data.toList)≤1000000 then (dval 0 (skp p x.data.toList):Int) else -1) else -1)
 | [],pre,a,he,hd,ha,hb=>by
  rw[List.append_nil] at he
  have hz:x.size=pre.length:=by rw[ba_size,he]
  rw[he,if_pos hd,←ha]
  refine E.step 1 (fun v w h1 h2=>by rewrite [h1,h2 0 (by decide)];exact zf117.l5_succ ..) ?_
  refine E.neg (by omega) (E.ite (fun h=>E.now' (by rw[if_neg (by omega)])) (fun h=>E.now' (by rw[if_pos (by omega)])))
 | b::post,pre,a,he,hd,ha,hb=>by
  have hz:x.size=pre.length+(post.length+1):=by rw[ba_size,he];simp
  have hbig:=ten_le (by omega) hb
  have ew:wrap64 ((x.size:Int)-3)=(p:Int):=by rw[wrap_id (by omega) (by omega)];omega
  have hl:(pre++[b]).length=pre.length+1:=by simp
  by_cases hq:pre.length=p
  ·have ih:=specMon_l5 hp hx post (pre++[b]) a (by rw[he];simp) (by rw[skp_at hq];exact hd) (by rw[skp_at hq];exact ha) (Nat.lt_of_lt_of_le hb (Nat.pow_le_pow_right (by decide) (by simp)))
   rw[hl] at ih
   refine E.step 1 (fun v w h1 h2=>by rewrite [h1,h2 0 (by decide)];exact zf117.l5_succ ..) ?_
   rw[ew,wrap_nat (by omega)]
   exact E.pos (by omega) (E.pos (by omega) ih)
  ·have no:¬dgt b=true→(-1:Int)=(if (skp p x.data.toList).all dgt=true then (if dval 0 (skp p x.data.toList)≤1000000 then (dval 0 (skp p x.data.toList):Int) else -1) else -1):=fun h=>by
    rw[if_neg (fun h'=>h (List.all_eq_true.1 h' b (by rw[he];exact skp_mem hq)))]
   have go:48≤b.toNat→b.toNat≤57→E (fun k=>zf117.l5 (k 0) (k 1) x ((10*a+(b.toNat-48):Nat):Int) ((pre.length+1:Nat):Int)) (if (skp p x.data.toList).all dgt=true then (if dval 0 (skp p x.data.toList)≤1000000 then (dval 0 (skp p x.data.toList):Int) else -1) else -1):=fun h1 h2=>by
    have ih:=specMon_l5 hp hx post (pre++[b]) (10*a+(b.toNat-48)) (by rw[he];simp) (by rw[skp_off hq,List.all_append,hd];simpa using dgt_iff.2 ⟨h1,h2⟩) (by rw[skp_off hq,dval_append,←ha];rfl) (by rw[hl,Nat.pow_succ];omega)
    rw[hl] at ih
    exact ih
   refine E.step 1 (fun v w h1 h2=>by rewrite [h1,h2 0 (by decide)];exact zf117.l5_succ ..) ?_
   rw[ew]
   have hget:x.data.toList.getD pre.length 0=b:=by rw[he,getD_mid]
   simp only[Int.toNat_natCast,hget]
   rw[wrap_nat (by omega)]
   refine E.pos (by omega) (E.neg (by omega) (E.pos (by omega) (E.pos (by omega) (E.ite (fun h=>E.now' (no (by rw[dgt_iff];omega))) (fun h1=>E.pos (by omega) (E.pos (by omega) (E.ite (fun h=>E.now' (no (by rw[dgt_iff];omega))) (fun h2=>E.pos (by omega) (E.pos (by omega) ?_)))))))))
   rw[digit_step (by omega) (by omega) (by omega)]
   exact go (by omega) (by omega)
theorem implMon_l5 {x:ByteArray} {p:Nat} (hp:p+3=x.size) (hx:x.size≤10):∀(post pre:List UInt8) (a:Nat),x.data.toList=pre++post→(skp p pre).all dgt=true→a=dval 0 (skp p pre)→a<10 ^ pre.length →
  E (fun k=>zf19.l5 (k 0) (k 1) x (a:Int) (x.size:Int) (pre.length:Int)) (if (skp p x.data.toList).all dgt=true then (if dval 0 (skp p x.data.toList)≤1000000∧monT (dval 0 (skp p x.data.toList))=x then (dval 0 (skp p x.data.toList):Int) else -1) else -1)
 | [],pre,a,he,hd,ha,hb=>by
  rw[List.append_nil] at he
  have hz:x.size=pre.length:=by rw[ba_size,he]
  have hne:x≠{ data:=#[] }:=by
   intro h
   have:x.size=0:=by rw[h];rfl
   omega
  rw[he,if_pos hd,←ha]
  refine E.step 1 (fun v w h1 h2=>by rewrite [h1,h2 0 (by decide)];exact zf19.l5_succ ..) ?_
  by_cases hv:a≤1000000
  ·refine E.neg (by omega) (E.bind (showMoney_E (by omega) (by omega)) ?_)
   rw[Int.toNat_natCast]
   refine E.ite (fun h=>E.now' (by rw[if_pos ⟨hv,h⟩])) (fun h=>E.now' (by rw[if_neg (fun h'=>h h'.2)]))
  ·refine E.neg (by omega) (E.bind (money_no (x:=(a:Int)) (by unfold aV;rw[decide_eq_false_iff_not];omega)) (E.neg (fun h=>hne h.symm) (E.now' ?_)))
   rw[if_neg (fun h'=>hv h'.1)]
 | b::post,pre,a,he,hd,ha,hb=>by
  have hz:x.size=pre.length+(post.length+1):=by rw[ba_size,he];simp
  have hbig:=ten_le (by omega) hb
  have ew:wrap64 ((x.size:Int)-3)=(p:Int):=by rw[wrap_id (by omega) (by omega)];omega
  have hl:(pre++[b]).length=pre.length+1:=by simp
  by_cases hq:pre.length=p
  ·have ih:=implMon_l5 hp hx post (pre++[b]) a (by rw[he];simp) (by rw[skp_at hq];exact hd) (by rw[skp_at hq];exact ha) (Nat.lt_of_lt_of_le hb (Nat.pow_le_pow_right (by decide) (by simp)))
   rw[hl] at ih
   refine E.step 1 (fun v w h1 h2=>by rewrite [h1,h2 0 (by decide)];exact zf19.l5_succ ..) ?_
   rw[ew,wrap_nat (by omega)]
   exact E.pos (by omega) (E.pos (by omega) ih)
  ·have no:¬dgt b=true→(-1:Int)=(if (skp p x.data.toList).all dgt=true then (if dval 0 (skp p x.data.toList)≤1000000∧monT (dval 0 (skp p x.data.toList))=x then (dval 0 (skp p x.data.toList):Int) else -1) else -1):=fun h=>by
    rw[if_neg (fun h'=>h (List.all_eq_true.1 h' b (by rw[he];exact skp_mem hq)))]
   have go:48≤b.toNat→b.toNat≤57→E (fun k=>zf19.l5 (k 0) (k 1) x ((10*a+(b.toNat-48):Nat):Int) (x.size:Int) ((pre.length+1:Nat):Int)) (if (skp p x.data.toList).all dgt=true then (if dval 0 (skp p x.data.toList)≤1000000∧monT (dval 0 (skp p x.data.toList))=x then (dval 0 (skp p x.data.toList):Int) else -1) else -1):=fun h1 h2=>by
    have ih:=implMon_l5 hp hx post (pre++[b]) (10*a+(b.toNat-48)) (by rw[he];simp) (by rw[skp_off hq,List.all_append,hd];simpa using dgt_iff.2 ⟨h1,h2⟩) (by rw[skp_off hq,dval_append,←ha];rfl) (by rw[hl,Nat.pow_succ];omega)
    rw[hl] at ih
    exact ih
   refine E.step 1 (fun v w h1 h2=>by rewrite [h1,h2 0 (by decide)];exact zf19.l5_succ ..) ?_
   rw[ew]
   have hget:x.data.toList.getD pre.length 0=b:=by rw[he,getD_mid]
   simp only[Int.toNat_natCast,hget]
   rw[wrap_nat (by omega)]
   refine E.pos (by omega) (E.neg (by omega) (E.pos (by omega) (E.pos (by omega) (E.ite (fun h=>E.now' (no (by rw[dgt_iff];omega))) (fun h1=>E.pos (by omega) (E.pos (by omega) (E.ite (fun h=>E.now' (no (by rw[dgt_iff];omega))) (fun h2=>E.pos (by omega) (E.pos (by omega) ?_)))))))))
   rw[digit_step' (by omega) (by omega) (by omega)]
   exact go (by omega) (by omega)
theorem one_digit {n:Nat} (h:n<10):(decT n).data.toList=[UInt8.ofNat (48+n)]:=by rw[decT_lt h]
theorem monT_list (n:Nat):(monT n).data.toList=Go.Lib.decDigits (n / 100)++[46,UInt8.ofNat (48+n / 10 % 10),UInt8.ofNat (48+n % 10)]:=by
 unfold monT
 simp only[ByteArray.data_append,Array.toList_append,one_digit (n:=n / 10 % 10) (by omega),one_digit (n:=n % 10) (by omega),decT_list]
 simp[dotT]
theorem skp_split {a c:List UInt8} {b:UInt8}:skp a.length (a++b::c)=a++c:=by
 unfold skp
 rw[List.take_left' rfl,show a++b::c=(a++[b])++c by simp,List.drop_left' (by simp)]
theorem digits_lt (n k:Nat) (h:n<10 ^ (k+1)):(Go.Lib.decDigits n).length≤k+1:=by
 have:=decT_pow k n h
 rw[ba_size,decT_list] at this
 exact this
theorem mon_facts {n:Nat} (h:n≤1000000):∃p,p+3=(monT n).size∧1≤p∧p≤5∧(monT n).data.toList.getD p 0=46∧(skp p (monT n).data.toList).all dgt=true∧dval 0 (skp p (monT n).data.toList)=n∧((monT n).data.toList.getD 0 0=48→p=1):=by
 obtain ⟨h1,h2,h3,h4⟩:=dval_dec (n / 100)
 obtain ⟨d1,d1'⟩:=dgt_of (n:=n / 10 % 10) (by omega)
 obtain ⟨d2,d2'⟩:=dgt_of (n:=n % 10) (by omega)
 have hlen:=digits_lt (n / 100) 4 (by omega)
 have hpos:=List.length_pos_iff.2 h3
 rw[ba_size,monT_list]
 refine ⟨(Go.Lib.decDigits (n / 100)).length,by simp,by omega,by omega,getD_mid _ _ _,?_,?_,?_⟩
 ·rw[skp_split,List.all_append,h1,List.all_cons,List.all_cons,d1,d2]
  rfl
 ·rw[skp_split,dval_append,h2]
  show 10*(10*(n / 100)+((UInt8.ofNat (48+n / 10 % 10)).toNat-48))+((UInt8.ofNat (48+n % 10)).toNat-48)=n
  omega
 ·intro hz
  by_cases hn:n / 100<10
  ·have:=one_digit hn
   rw[decT_list] at this
   rw[this];rfl
  ·have:=h4 (by omega)
   cases hd:Go.Lib.decDigits (n / 100) with
   | nil=>exact absurd hd h3
   | cons c r=>
    rw[hd] at this hz
    exact absurd (by show some c=some 48;exact congrArg some hz) this
theorem mon_back {x:ByteArray} {p:Nat} (hp:p+3=x.size) (hp1:1≤p) (hdot:x.data.toList.getD p 0=46) (hd:(skp p x.data.toList).all dgt=true) (hz:x.data.toList.getD 0 0=48→p=1):monT (dval 0 (skp p x.data.toList))=x:=by
 have hl:x.data.toList.length=p+3:=by rw[←ba_size];omega
 generalize hX:x.data.toList=l at hdot hd hz hl ⊢
 obtain ⟨a,b,c,d,rfl,ha⟩:∃a b c d,l=a++[b,c,d]∧a.length=p:=by
  refine ⟨l.take p,l[p],l[p+1],l[p+2],?_,by simp;omega⟩
  apply List.ext_getElem
  ·simp;omega
  ·intro i h1 h2
   rcases Nat.lt_or_ge i p with q | q
   ·rw[List.getElem_append_left (by simp;omega)];simp
   ·rw[List.getElem_append_right (by simp;omega)]
    have:i=p∨i=p+1∨i=p+2:=by omega
    have e:(l.take p).length=p:=by simp;omega
    rcases this with e1 | e1 | e1 <;> simp[e1,show min p l.length=p by omega]
 subst ha
 have hb:b=46:=by rw[←hdot];exact (getD_mid a [c,d] b).symm
 subst hb
 rw[skp_split] at hd ⊢
 rw[List.all_append,Bool.and_eq_true,List.all_cons,List.all_cons,Bool.and_eq_true,Bool.and_eq_true] at hd
 have hc:=dgt_iff.1 hd.2.1
 have hd':=dgt_iff.1 hd.2.2.1
 have hdec:=(dec_of (a.length-1) a (by omega) hd.1 (by
  by_cases q:a.length=1
  ·left;omega
  ·right
   intro e
   cases a with
   | nil=>cases e
   | cons h t=>
    have:h=48:=by simpa using e
    exact q (hz (by rw[this];rfl)))).1
 have hv:dval 0 (a++[c,d])=10*(10*dval 0 a+(c.toNat-48))+(d.toNat-48):=by rw[dval_append];rfl
 apply ba_ext
 rw[hX,monT_list,hv]
 rw[show (10*(10*dval 0 a+(c.toNat-48))+(d.toNat-48)) / 100=dval 0 a by omega,hdec]
 rw[byte_back (b:=c) (by omega),byte_back (b:=d) (by omega)]
theorem monT_inj {m n:Nat} (hm:m≤1000000) (hn:n≤1000000) (h:monT m=monT n):m=n:=by
 obtain ⟨p,h1,_,_,_,_,h2,_⟩:=mon_facts hm
 obtain ⟨q,g1,_,_,_,_,g2,_⟩:=mon_facts hn
 rw[←h] at g1 g2
 obtain rfl:p=q:=by omega
 rw[←h2,g2]
theorem byte_eq {b:UInt8} {n:Nat} (hn:n<256):(b.toNat:Int)=(n:Int)↔b=UInt8.ofNat n:=by
 constructor
 ·intro h
  rw[byte_back (b:=b) (by omega)]
 ·intro h
  rw[h,UInt8.toNat_ofNat',Nat.mod_eq_of_lt (by omega)]
theorem specMon_E (x:ByteArray) (hx:x.size<1000000000):∃r,E (fun k=>zf117 (k 0) x) r∧monP x r:=by
 have out:x.size<4∨8<x.size→∀n:Nat,n≤1000000→x≠monT n:=fun h n hn e=>by
  obtain ⟨p,h1,h2,h3,_⟩:=mon_facts hn
  rw[←e] at h1
  omega
 by_cases h4:x.size<4
 ·exact ⟨-1,E.congr (fun k=>zf117.eq (k 0) x) (E.pos (by omega) (E.now _)),.inr ⟨out (.inl h4),rfl⟩⟩
 ·by_cases h10:10<x.size
  ·exact ⟨-1,E.congr (fun k=>zf117.eq (k 0) x) (E.neg (by omega) (E.pos (by omega) (E.now _))),.inr ⟨out (.inr (by omega)),rfl⟩⟩
  ·obtain ⟨p,hp⟩:∃p,p+3=x.size:=⟨x.size-3,by omega⟩
   have ew:wrap64 ((x.size:Int)-3)=(p:Int):=by rw[wrap_id (by omega) (by omega)];omega
   have e0:Int.toNat 0=0:=rfl
   by_cases hdot:x.data.toList.getD p 0=46
   ·have hdot':((x.data.toList.getD p 0).toNat:Int)=46:=by rw[hdot];rfl
    by_cases hz:x.data.toList.getD 0 0=48∧4<x.size
    ·have hz':((x.data.toList.getD 0 0).toNat:Int)=48:=by rw[hz.1];rfl
     have hz2:¬(x.size:Int)<4∧¬(x.size:Int) > 10∧0≤(p:Int)∧(p:Int)<(x.size:Int)∧0<(x.size:Int)∧(x.size:Int) > 4:=by have:=hz.2;omega
     refine ⟨-1,E.congr (fun k=>zf117.eq (k 0) x) ?_,.inr ⟨fun n hn e=>?_,rfl⟩⟩
     ·rw[ew,Int.toNat_natCast,e0]
      refine E.neg hz2.1 (E.neg hz2.2.1 (E.pos hz2.2.2.1 (E.pos hz2.2.2.2.1 (E.pos hdot' (E.pos hz2.2.2.2.2.1 (E.pos hz' (E.pos hz2.2.2.2.2.2 ?_)))))))
      exact E.now _
     ·obtain ⟨q,g1,_,_,_,_,_,g⟩:=mon_facts hn
      rw[←e] at g1 g
      have:=g hz.1
      omega
    ·have hl:=specMon_l5 hp (by omega) x.data.toList [] 0 rfl (by rw[skp_nil];rfl) (by rw[skp_nil];rfl) (by decide)
     have hlp:=E.ren (fun _=>0) hl
     have hE:E (fun k=>zf117 (k 0) x) (if (skp p x.data.toList).all dgt=true then (if dval 0 (skp p x.data.toList)≤1000000 then (dval 0 (skp p x.data.toList):Int) else -1) else -1):=by
      refine E.congr (fun k=>zf117.eq (k 0) x) ?_
      rw[ew,Int.toNat_natCast,e0]
      refine E.neg (by omega) (E.neg (by omega) (E.pos (by omega) (E.pos (by omega) (E.pos hdot' (E.pos (by omega) (E.ite (fun h=>E.neg ?_ hlp) (fun h=>hlp)))))))
      intro h'
      exact hz ⟨(byte_eq (b:=x.data.toList.getD 0 0) (n:=48) (by decide)).1 h,by omega⟩
     refine ⟨_,hE,?_⟩
     by_cases hd:(skp p x.data.toList).all dgt=true
     ·rw[if_pos hd]
      by_cases hv:dval 0 (skp p x.data.toList)≤1000000
      ·rw[if_pos hv]
       refine .inl ⟨_,hv,(mon_back hp (by omega) hdot hd (fun h=>?_)).symm,rfl⟩
       have:¬4<x.size:=fun h'=>hz ⟨h,h'⟩
       omega
      ·rw[if_neg hv]
       refine .inr ⟨fun n hn e=>?_,rfl⟩
       obtain ⟨q,g1,_,_,_,_,g,_⟩:=mon_facts hn
       rw[←e] at g1 g
       obtain rfl:p=q:=by omega
       omega
     ·rw[if_neg hd]
      refine .inr ⟨fun n hn e=>?_,rfl⟩
      obtain ⟨q,g1,_,_,_,g,_,_⟩:=mon_facts hn
      rw[←e] at g1 g
      obtain rfl:p=q:=by omega
      exact hd g
   ·have hdot':¬((x.data.toList.getD p 0).toNat:Int)=46:=fun h=>hdot ((byte_eq (n:=46) (by decide)).1 h)
    refine ⟨-1,E.congr (fun k=>zf117.eq (k 0) x) ?_,.inr ⟨fun n hn e=>?_,rfl⟩⟩
    ·rw[ew,Int.toNat_natCast]
     exact E.neg (by omega) (E.neg (by omega) (E.pos (by omega) (E.pos (by omega) (E.neg hdot' (E.now _)))))
    ·obtain ⟨q,g1,_,_,g,_⟩:=mon_facts hn
     rw[←e] at g1 g
     obtain rfl:p=q:=by omega
     exact hdot g
theorem implMon_E (x:ByteArray) (hx:x.size<1000000000):∃r,E (fun k=>zf19 (k 0) x) r∧monP x r:=by
 have out:x.size<4∨8<x.size→∀n:Nat,n≤1000000→x≠monT n:=fun h n hn e=>by
  obtain ⟨p,h1,h2,h3,_⟩:=mon_facts hn
  rw[←e] at h1
  omega
 by_cases h4:x.size<4
 ·exact ⟨-1,E.congr (fun k=>zf19.eq (k 0) x) (E.pos (by omega) (E.now _)),.inr ⟨out (.inl h4),rfl⟩⟩
 ·by_cases h8:8<x.size
  ·exact ⟨-1,E.congr (fun k=>zf19.eq (k 0) x) (E.neg (by omega) (E.pos (by omega) (E.now _))),.inr ⟨out (.inr (by omega)),rfl⟩⟩
  ·obtain ⟨p,hp⟩:∃p,p+3=x.size:=⟨x.size-3,by omega⟩
   have ew:wrap64 ((x.size:Int)-3)=(p:Int):=by rw[wrap_id (by omega) (by omega)];omega
   by_cases hdot:x.data.toList.getD p 0=46
   ·have hdot':((x.data.toList.getD p 0).toNat:Int)=46:=by rw[hdot];rfl
    have hl:=implMon_l5 hp (by omega) x.data.toList [] 0 rfl (by rw[skp_nil];rfl) (by rw[skp_nil];rfl) (by decide)
    have hlp:=E.ren (fun _=>0) hl
    have hE:E (fun k=>zf19 (k 0) x) (if (skp p x.data.toList).all dgt=true then (if dval 0 (skp p x.data.toList)≤1000000∧monT (dval 0 (skp p x.data.toList))=x then (dval 0 (skp p x.data.toList):Int) else -1) else -1):=by
     refine E.congr (fun k=>zf19.eq (k 0) x) ?_
     rw[ew,Int.toNat_natCast]
     exact E.neg (by omega) (E.neg (by omega) (E.pos (by omega) (E.pos (by omega) (E.pos hdot' hlp))))
    refine ⟨_,hE,?_⟩
    have no:∀n:Nat,n≤1000000→x=monT n→(skp p x.data.toList).all dgt=true∧dval 0 (skp p x.data.toList)=n:=fun n hn e=>by
     obtain ⟨q,g1,_,_,_,g,g2,_⟩:=mon_facts hn
     rw[←e] at g1 g g2
     obtain rfl:p=q:=by omega
     exact ⟨g,g2⟩
    by_cases hd:(skp p x.data.toList).all dgt=true
    ·rw[if_pos hd]
     by_cases hv:dval 0 (skp p x.data.toList)≤1000000∧monT (dval 0 (skp p x.data.toList))=x
     ·rw[if_pos hv]
      exact .inl ⟨_,hv.1,hv.2.symm,rfl⟩
     ·rw[if_neg hv]
      refine .inr ⟨fun n hn e=>?_,rfl⟩
      have:=(no n hn e).2
      exact hv (by rw[this];exact ⟨hn,e.symm⟩)
    ·rw[if_neg hd]
     exact .inr ⟨fun n hn e=>hd (no n hn e).1,rfl⟩
   ·have hdot':¬((x.data.toList.getD p 0).toNat:Int)=46:=fun h=>hdot ((byte_eq (n:=46) (by decide)).1 h)
    refine ⟨-1,E.congr (fun k=>zf19.eq (k 0) x) ?_,.inr ⟨fun n hn e=>?_,rfl⟩⟩
    ·rw[ew,Int.toNat_natCast]
     exact E.neg (by omega) (E.neg (by omega) (E.pos (by omega) (E.pos (by omega) (E.neg hdot' (E.now _)))))
    ·obtain ⟨q,g1,_,_,g,_⟩:=mon_facts hn
     rw[←e] at g1 g
     obtain rfl:p=q:=by omega
     exact hdot g
theorem monP_one {x:ByteArray} {r r':Int} (h:monP x r) (h':monP x r'):r=r':=by
 rcases h with ⟨n,hn,e,rfl⟩ | ⟨hn,rfl⟩ <;> rcases h' with ⟨m,hm,e',rfl⟩ | ⟨hm,rfl⟩
 ·rw[monT_inj hn hm (e.symm.trans e')]
 ·exact absurd e (hm n hn)
 ·exact absurd e' (hn m hm)
 ·rfl
theorem numP_one {lim:Nat} {x:ByteArray} {r r':Int} (h:numP lim x r) (h':numP lim x r'):r=r':=by
 rcases h with ⟨n,hn,e,rfl⟩ | ⟨hn,rfl⟩ <;> rcases h' with ⟨m,hm,e',rfl⟩ | ⟨hm,rfl⟩
 ·rw[decT_inj (e.symm.trans e')]
 ·exact absurd e (hm n hn)
 ·exact absurd e' (hn m hm)
 ·rfl
end Go.Proofs.YtbgamdkmlikgjaaGreatDoorG
end
section
set_option linter.unusedVariables false
namespace Go.Proofs.YtbgamdkmlikgjaaGreatDoorG
open Go Go.Refl Go.Refl.Math Go.RowKit
def mkB (l:List UInt8):ByteArray:=⟨l.toArray⟩
theorem mkB_list (l:List UInt8):(mkB l).data.toList=l:=by simp[mkB]
theorem mkB_of (s:ByteArray):mkB s.data.toList=s:=ba_ext (mkB_list _)
theorem mkB_size (l:List UInt8):(mkB l).size=l.length:=by rw[ba_size,mkB_list]
def splitB (c:UInt8):List UInt8→List (List UInt8)
 | []=>[[]]
 | b::l=>if b=c then []::splitB c l else match splitB c l with
  | []=>[[b]]
  | h::t=>(b::h)::t
theorem splitB_none {c:UInt8}:∀{l:List UInt8},c ∉ l→splitB c l=[l]
 | [],_=>rfl
 | b::l,h=>by
  have h1:b≠c:=fun e=>h (by rw[e];exact List.mem_cons_self ..)
  rw[splitB,if_neg h1,splitB_none (fun h'=>h (List.mem_cons_of_mem _ h'))]
theorem splitB_at {c:UInt8}:∀{l m:List UInt8},c ∉ l→splitB c (l++c::m)=l::splitB c m
 | [],m,_=>by
  show splitB c (c::m)=_
  rw[splitB,if_pos rfl]
 | b::l,m,h=>by
  have h1:b≠c:=fun e=>h (by rw[e];exact List.mem_cons_self ..)
  show splitB c (b::(l++c::m))=_
  rw[splitB,if_neg h1,splitB_at (fun h'=>h (List.mem_cons_of_mem _ h'))]
theorem splitB_length (c:UInt8):∀l:List UInt8,(splitB c l).length=l.count c+1
 | []=>rfl
 | b::l=>by
  have ih:=splitB_length c l
  rw[splitB]
  by_cases h:b=c
  ·rw[if_pos h,List.length_cons,ih,h,List.count_cons_self]
  ·rw[if_neg h,List.count_cons_of_ne h]
   cases hs:splitB c l with
   | nil=>rw[hs] at ih;simp at ih
   | cons x y=>rw[hs] at ih;simpa using ih
def wordsT (s:ByteArray):List ByteArray:=(splitB 32 s.data.toList).map mkB
theorem ext_list (x:ByteArray) (i j:Nat):(x.extract i j).data.toList=(x.data.toList.drop i).take (j-i):=by
 rw[ByteArray.data_extract,Array.toList_extract]
theorem ext_mk {x:ByteArray} {a b c:List UInt8} (h:x.data.toList=a++(b++c)):x.extract a.length (a.length+b.length)=mkB b:=by
 apply ba_ext
 rw[ext_list,mkB_list,h,List.drop_left' rfl,List.take_left' (by omega)]
theorem specSplit_l4 {x:ByteArray} {c:UInt8} (hx:x.size<1000000000):∀(post cur done:List UInt8) (acc:List ByteArray),x.data.toList=done++(cur++post)→c ∉ cur→acc.length+post.length≤1000000000 →
  E (fun k=>zf132.l4 (k 0) (k 1) x (c.toNat:Int) (done.length:Int) ((done.length+cur.length:Nat):Int) acc) (acc++(splitB c (cur++post)).map mkB)
 | [],cur,done,acc,he,hc,hl=>by
  have hz:x.size=done.length+cur.length:=by rw[ba_size,he];simp
  have hx1:x.extract done.length x.size=mkB cur:=by rw[hz];exact ext_mk he
  simp only[List.length_nil] at hl
  refine E.step 1 (fun v w h1 h2=>by rewrite [h1,h2 0 (by decide)];exact zf132.l4_succ ..) ?_
  simp only[Int.toNat_natCast]
  rw[hx1]
  refine E.neg (by omega) (E.pos (by omega) (E.pos (by omega) (E.pos ?_ (E.now' ?_))))
  ·simp only[List.length_set,List.length_replicate,maxN];omega
  ·rw[List.append_nil,splitB_none hc];rfl
 | b::post,cur,done,acc,he,hc,hl=>by
  have hz:x.size=done.length+cur.length+(post.length+1):=by rw[ba_size,he];simp;omega
  have hget:x.data.toList.getD (done.length+cur.length) 0=b:=by
   rw[he,←List.append_assoc,show done.length+cur.length=(done++cur).length by simp]
   exact getD_mid _ _ _
  simp only[List.length_cons] at hl
  by_cases hb:b=c
  ·have ih:=specSplit_l4 (c:=c) hx post [] (done++(cur++[b])) (acc++[mkB cur]) (by rw[he];simp) (by simp) (by simp;omega)
   have hx1:x.extract done.length (done.length+cur.length)=mkB cur:=ext_mk he
   rw[show (done++(cur++[b])).length=done.length+cur.length+1 by simp;omega] at ih
   simp only[List.length_nil,Nat.add_zero,List.nil_append] at ih
   refine E.step 1 (fun v w h1 h2=>by rewrite [h1,h2 0 (by decide)];exact zf132.l4_succ ..) ?_
   simp only[Int.toNat_natCast,hget]
   rw[hx1,wrap_nat (by omega)]
   refine E.pos (by omega) (E.pos (by omega) (E.pos (by omega) (E.pos (by rw[hb]) (E.pos (by omega) (E.pos (by omega) (E.pos (by omega) (E.pos ?_ (E.is ih ?_))))))))
   ·simp only[List.length_set,List.length_replicate,maxN];omega
   ·rw[hb,splitB_at hc];simp
  ·have ih:=specSplit_l4 (c:=c) hx post (cur++[b]) done acc (by rw[he];simp) (by
    intro h
    rcases List.mem_append.1 h with h | h
    ·exact hc h
    ·exact hb (by simpa using h:c=b).symm) (by omega)
   rw[show done.length+(cur++[b]).length=done.length+cur.length+1 by simp;omega] at ih
   refine E.step 1 (fun v w h1 h2=>by rewrite [h1,h2 0 (by decide)];exact zf132.l4_succ ..) ?_
   simp only[Int.toNat_natCast,hget]
   rw[wrap_nat (by omega)]
   refine E.pos (by omega) (E.pos (by omega) (E.pos (by omega) (E.neg ?_ (E.is ih (by simp)))))
   intro h
   exact hb (UInt8.toNat_inj.1 (by omega))
theorem specSplit_E (x:ByteArray) (c:UInt8) (hx:x.size<1000000000):E (fun k=>zf132 (k 0) (x,(c.toNat:Int))) ((splitB c x.data.toList).map mkB):=by
 have:=specSplit_l4 (c:=c) hx x.data.toList [] [] [] rfl (by simp) (by rw[←ba_size];simp;omega)
 exact E.congr (fun k=>zf132.eq (k 0) x (c.toNat:Int)) (E.ren (fun _=>0) this)
theorem index_split {c:UInt8}:∀{l:List UInt8} {k:Nat},l.count c=k+1→∃a b,l=a++c::b∧c ∉ a∧Go.Lib.indexByte l c=(a.length:Int)∧b.count c=k
 | [],k,h=>by simp at h
 | x::l,k,h=>by
  by_cases hx:x=c
  ·refine ⟨[],l,by rw[hx];rfl,by simp,?_,?_⟩
   ·rw[Go.Lib.indexByte,if_pos (by simpa using hx)];rfl
   ·rw[hx,List.count_cons_self] at h;omega
  ·rw[List.count_cons_of_ne hx] at h
   obtain ⟨a,b,h1,h2,h3,h4⟩:=index_split h
   refine ⟨x::a,b,by rw[h1];rfl,?_,?_,h4⟩
   ·intro h'
    rcases List.mem_cons.1 h' with e | e
    ·exact hx e.symm
    ·exact h2 e
   ·have e1:(Go.Lib.indexByte l c == -1)=false:=by
     rw[h3,beq_eq_false_iff_ne];omega
    rw[Go.Lib.indexByte,if_neg (by simpa using hx),e1,h3]
    simp
theorem sIndex_E (x:ByteArray):E (fun k=>zf147 (k 0) (x,{ data:=#[(32:UInt8)] })) (Go.Lib.indexByte x.data.toList 32):=E.congr (fun _=>rfl) (E.now _)
theorem sCount_E (x:ByteArray):E (fun k=>zf144 (k 0) (x,{ data:=#[(32:UInt8)] })) ((x.data.toList.count 32:Nat):Int):=E.congr (fun _=>rfl) (E.now _)
theorem set_rep {α:Type} (l:List α) (k:Nat) (e v:α):(l++List.replicate (k+1) e).set l.length v=l++v::List.replicate k e:=by
 rw[List.set_append_right _ _ (Nat.le_refl _),Nat.sub_self,List.replicate_succ,List.set_cons_zero]
theorem gen_l11 {m:Int}:∀(k:Nat) (x:ByteArray) (done:List ByteArray),x.data.toList.count 32=k→x.size<1000000000→done.length+k<1000000000→m=((done.length+k:Nat):Int)→k<1000000000 →
  E (fun f=>zf150.l11 (f 0) (f 1) x { data:=#[(32:UInt8)] } 0 m (done.length:Int) (done++List.replicate (k+1) ByteArray.empty)) (done++wordsT x)
 | 0,x,done,hc,hx,hd,hm,hk=>by
  have hn:(32:UInt8) ∉ x.data.toList:=List.count_eq_zero.1 hc
  have hw:wordsT x=[x]:=by unfold wordsT;rw[splitB_none hn];simp[mkB_of]
  refine E.step 1 (fun v w h1 h2=>by rewrite [h1,h2 0 (by decide)];exact zf150.l11_succ ..) ?_
  simp only[Int.toNat_natCast]
  rw[wrap_nat (by omega),set_rep]
  have e1:(done++List.replicate (0+1) ByteArray.empty).length=done.length+1:=by simp
  have e2:(done++x::List.replicate 0 ByteArray.empty).length=done.length+1:=by simp
  rw[e1,e2]
  refine E.neg (by omega) (E.pos (by omega) (E.pos (by omega) (E.pos (by omega) (E.pos (by omega) (E.now' ?_)))))
  rw[hw,Int.toNat_natCast,Nat.sub_zero,←e2]
  exact List.take_length
 | k+1,x,done,hc,hx,hd,hm,hk=>by
  obtain ⟨a,b,h1,h2,h3,h4⟩:=index_split hc
  have q1:ByteArray.size { data:=#[(32:UInt8)] }=1:=rfl
  have hz:x.size=a.length+(b.length+1):=by rw[ba_size,h1];simp
  have hw:wordsT x=mkB a::wordsT (mkB b):=by unfold wordsT;rw[h1,splitB_at h2,mkB_list];rfl
  have e1:x.extract (a.length+1) x.size=mkB b:=by
   have:=ext_mk (x:=x) (a:=a++[32]) (b:=b) (c:=[]) (by rw[h1];simp)
   have hlen:(a++[(32:UInt8)]).length=a.length+1:=by simp
   rw[hlen,show a.length+1+b.length=x.size by omega] at this
   exact this
  have e2:x.extract 0 a.length=mkB a:=by
   have:=ext_mk (x:=x) (a:=[]) (b:=a) (c:=32::b) (by rw[h1];rfl)
   simpa using this
  have ih:=gen_l11 (m:=m) k (mkB b) (done++[mkB a]) (by rw[mkB_list];exact h4) (by rw[mkB_size];omega) (by simp;omega) (by rw[hm];simp;omega) (by omega)
  rw[show (done++[mkB a]).length=done.length+1 by simp] at ih
  refine E.step 1 (fun v w h1 h2=>by rewrite [h1,h2 0 (by decide)];exact zf150.l11_succ ..) ?_
  refine E.pos (by omega) (E.bind (sIndex_E x) ?_)
  rw[h3]
  simp only[q1,Int.add_zero]
  rw[show wrap64 ((a.length:Int)+((1:Nat):Int))=((a.length+1:Nat):Int) from wrap_nat (by omega),wrap_nat (n:=done.length) (by omega),wrap_id (x:=(a.length:Int)) (by omega) (by omega)]
  simp only[Int.toNat_natCast]
  have e3:(done++List.replicate (k+1+1) ByteArray.empty).length=done.length+(k+2):=by simp
  rw[e1,e2,set_rep,set_rep,e3]
  refine E.neg (by omega) (E.pos (by omega) (E.pos (by omega) (E.pos (by omega) (E.pos (by omega) (E.pos (by omega) (E.pos (by omega) (E.is (E.congr (fun _=>?_) ih) ?_)))))))
  ·congr 1;simp
  ·rw[hw];simp
theorem words_length (s:ByteArray):(wordsT s).length=s.data.toList.count 32+1:=by unfold wordsT;rw[List.length_map,splitB_length]
theorem sSplit_E (x:ByteArray) (hx:x.size<400000000):E (fun k=>zf148 (k 0) (x,{ data:=#[(32:UInt8)] })) (wordsT x):=by
 have hc:x.data.toList.count 32≤x.size:=by rw[ba_size];exact List.count_le_length
 have hmn:mn (wrap64 (((x.data.toList.count 32:Nat):Int)+1)) (wrap64 ((x.size:Int)+1))=((x.data.toList.count 32+1:Nat):Int):=by
  rw[wrap_nat (by omega),wrap_nat (by omega)]
  unfold mn
  rw[if_neg (by omega)]
 have hl:=gen_l11 (m:=((x.data.toList.count 32:Nat):Int)) (x.data.toList.count 32) x [] rfl (by omega) (by simp only[List.length_nil];omega) (by simp) (by omega)
 have hne:¬({ data:=#[(32:UInt8)] }:ByteArray)={ data:=#[] }:=by
  intro h
  have:=congrArg ByteArray.size h
  exact absurd this (by decide)
 refine E.congr (fun k=>zf148.eq (k 0) x { data:=#[(32:UInt8)] }) (E.bind (E.congr (fun k=>zf150.eq (k 0) x { data:=#[(32:UInt8)] } 0 (-1)) (E.neg (by decide) (E.neg hne (E.pos (by decide) (E.bind (sCount_E x) ?_))))) (E.now _))
 rw[hmn,show wrap64 (((x.data.toList.count 32+1:Nat):Int)-1)=((x.data.toList.count 32:Nat):Int) by rw[wrap_id (by omega) (by omega)];omega]
 refine E.pos (by omega) (E.pos (by omega) (E.pos (by simp only[maxN];omega) ?_))
 rw[Int.toNat_natCast]
 exact E.ren (fun _=>0) hl
end Go.Proofs.YtbgamdkmlikgjaaGreatDoorG
end
section
set_option linter.unusedVariables false
namespace Go.Proofs.YtbgamdkmlikgjaaGreatDoorG
open Go Go.Refl Go.Refl.Math Go.RowKit
noncomputable def numV (lim:Nat) (s:ByteArray):Int:=@dite _ (∃n:Nat,n≤lim∧s=decT n) (Classical.propDecidable _) (fun h=>(h.choose:Int)) (fun _=>-1)
noncomputable def monV (s:ByteArray):Int:=@dite _ (∃n:Nat,n≤1000000∧s=monT n) (Classical.propDecidable _) (fun h=>(h.choose:Int)) (fun _=>-1)
theorem numV_P (lim:Nat) (s:ByteArray):numP lim s (numV lim s):=by
 unfold numV
 split
 ·rename_i h;exact .inl ⟨_,h.choose_spec.1,h.choose_spec.2,rfl⟩
 ·rename_i h;exact .inr ⟨fun n hn e=>h ⟨n,hn,e⟩,rfl⟩
theorem monV_P (s:ByteArray):monP s (monV s):=by
 unfold monV
 split
 ·rename_i h;exact .inl ⟨_,h.choose_spec.1,h.choose_spec.2,rfl⟩
 ·rename_i h;exact .inr ⟨fun n hn e=>h ⟨n,hn,e⟩,rfl⟩
theorem numV_dec {lim n:Nat} (h:n≤lim):numV lim (decT n)=(n:Int):=numP_one (numV_P _ _) (.inl ⟨n,h,rfl,rfl⟩)
theorem monV_mon {n:Nat} (h:n≤1000000):monV (monT n)=(n:Int):=monP_one (monV_P _) (.inl ⟨n,h,rfl,rfl⟩)
theorem numV_bd (lim:Nat) (s:ByteArray):-1≤numV lim s∧numV lim s≤lim:=by
 rcases numV_P lim s with ⟨n,hn,_,h⟩ | ⟨_,h⟩ <;> rw[h] <;> omega
theorem implNum_E (s:ByteArray) (lim:Nat) (hs:s.size≤400000000) (hl:lim≤10000000):E (fun k=>zf40 (k 0) (s,(lim:Int))) (numV lim s):=by
 obtain ⟨r,h,hr⟩:=implRead_E s lim (by omega) hl
 exact E.is h (numP_one hr (numV_P _ _))
theorem specNumR_E (s:ByteArray) (hs:s.size≤400000000):E (fun k=>zf118 (k 0) s) (numV 9999999 s):=by
 obtain ⟨r,h,hr⟩:=specRead_E s (by omega)
 exact E.is h (numP_one hr (numV_P _ _))
theorem implMonR_E (s:ByteArray) (hs:s.size≤400000000):E (fun k=>zf19 (k 0) s) (monV s):=by
 obtain ⟨r,h,hr⟩:=implMon_E s (by omega)
 exact E.is h (monP_one hr (monV_P _))
theorem specMonR_E (s:ByteArray) (hs:s.size≤400000000):E (fun k=>zf117 (k 0) s) (monV s):=by
 obtain ⟨r,h,hr⟩:=specMon_E s (by omega)
 exact E.is h (monP_one hr (monV_P _))
def wd (ws:List ByteArray) (i:Nat):ByteArray:=ws.getD i ByteArray.empty
def WsOk (ws:List ByteArray):Prop:=ws.length≤400000000∧∀w ∈ ws,w.size≤400000000
theorem wd_size {ws:List ByteArray} (h:WsOk ws) (i:Nat):(wd ws i).size≤400000000:=by
 unfold wd
 rcases Nat.lt_or_ge i ws.length with h1 | h1
 ·exact h.2 _ (getD_mem _ h1)
 ·rw[List.getD_eq_getElem?_getD,List.getElem?_eq_none h1]
  exact Nat.zero_le _
theorem wordAt_E (ws:List ByteArray) (i:Nat):E (fun k=>zf48 (k 0) (ws,(i:Int))) (wd ws i):=by
 refine E.congr (fun k=>zf48.eq (k 0) ws (i:Int)) (E.ite (fun h=>E.now' ?_) (fun h=>E.pos (by omega) (E.pos (by omega) (E.now' (by rw[Int.toNat_natCast];rfl)))))
 unfold wd
 rw[List.getD_eq_getElem?_getD,List.getElem?_eq_none (by omega)]
 rfl
def zEvR:EvT:=(0,0,0,0,[],0,0)
noncomputable def rdT (k:Int) (ws:List ByteArray):EvT:=
 if k=0∨k=7 then (k,0,0,0,[],0,0) else if k=6 then (k,0,0,0,[],numV 1000 (wd ws 1),numV 1000 (wd ws 2))
 else if k=5 then (k,numV 99 (wd ws 1),0,0,[],0,0)
 else if k=4 then (k,numV 99 (wd ws 1),monV (wd ws 2),monV (wd ws 3),[],0,0)
 else if k=3 then (k,numV 99 (wd ws 1),monV (wd ws 2),0,(ws.drop 3).map (numV 99),0,0)
 else (k,numV 99 (wd ws 1),monV (wd ws 2),0,[],0,0)
theorem read_l17 {a b c d e f z1 z2 z3 z4 z5 z6:Int}:∀(post pre:List ByteArray) (acc:List Int),WsOk (pre++post)→acc.length+post.length≤400000000 →
  E (fun k=>zf39.l17 (k 0) (k 1) (pre++post) ((pre++post).length:Int) (pre.length:Int) z1 z2 z3 z4 z5 z6 a b c d e f acc) (a,b,c,d,acc++post.map (numV 99),e,f)
 | [],pre,acc,hw,hl=>by
  refine E.step 1 (fun v w h1 h2=>by rewrite [h1,h2 0 (by decide)];exact zf39.l17_succ ..) ?_
  exact E.neg (by simp) (E.now' (by simp))
 | w::post,pre,acc,hw,hl=>by
  have hlen:(pre++w::post).length=pre.length+(post.length+1):=by simp
  have h1:=hw.1
  have hws:w.size≤400000000:=hw.2 w (by simp)
  simp only[List.length_cons] at hl
  have ih:=read_l17 (a:=a) (b:=b) (c:=c) (d:=d) (e:=e) (f:=f) (z1:=z1) (z2:=z2) (z3:=z3) (z4:=z4) (z5:=z5) (z6:=z6) post (pre++[w]) (acc++[numV 99 w]) (by simpa using hw) (by simp;omega)
  rw[show (pre++[w]).length=pre.length+1 from by simp,List.append_assoc] at ih
  refine E.step 1 (fun v w h1 h2=>by rewrite [h1,h2 0 (by decide)];exact zf39.l17_succ ..) ?_
  simp only[Int.toNat_natCast,getD_mid]
  rw[wrap_nat (by omega)]
  refine E.pos (by omega) (E.pos (by omega) (E.pos (by omega) (E.bind (implNum_E w 99 hws (by decide)) (E.pos ?_ (E.is ih (by simp))))))
  simp only[List.length_set,List.length_replicate,maxN];omega
theorem readD_E (k:Int) (ws:List ByteArray) (hw:WsOk ws):E (fun f=>zf39 (f 0) (k,ws)) (rdT k ws):=by
 have hn:=fun i=>implNum_E (wd ws i) 99 (wd_size hw i) (by decide)
 have hk:=fun i=>implNum_E (wd ws i) 1000 (wd_size hw i) (by decide)
 have hm:=fun i=>implMonR_E (wd ws i) (wd_size hw i)
 have w1:=wordAt_E ws 1
 have w2:=wordAt_E ws 2
 have w3:=wordAt_E ws 3
 have h1:=hw.1
 have rest:¬(k=0∨k=7)→E (fun f=>(if k=6 then ((zf48 (f 0) (ws,1)).bind fun y0=>((zf40 (f 0) (y0,1000)).bind fun y1=>((zf48 (f 0) (ws,2)).bind fun y2=>((zf40 (f 0) (y2,1000)).bind fun y3=>some ((k,0,0,0,[],y1,y3)))))) else ((zf48 (f 0) (ws,1)).bind fun y4=>((zf40 (f 0) (y4,99)).bind fun y5=>(if k=5 then some ((k,y5,0,0,[],0,0)) else ((zf48 (f 0) (ws,2)).bind fun y6=>((zf19 (f 0) y6).bind fun y7=>(if k=4 then ((zf48 (f 0) (ws,3)).bind fun y8=>((zf19 (f 0) y8).bind fun y9=>some ((k,y5,y7,y9,[],0,0)))) else (if k=3 then (if (ws.length:Int) > 3 then (if 3≤(ws.length:Int) then zf39.l17 (f 0) (f 0) (List.drop (Int.toNat 3) ws) (((List.drop (Int.toNat 3) ws).length:Nat):Int) 0 0 0 0 0 0 0 k y5 y7 0 0 0 [] else none) else some ((k,y5,y7,0,[],0,0))) else some ((k,y5,y7,0,[],0,0))))))))):Option EvT)) (rdT k ws):=fun h0=>by
  unfold rdT
  rw[if_neg h0]
  by_cases k6:k=6
  ·rw[if_pos k6]
   exact E.pos k6 (E.bind w1 (E.bind (hk 1) (E.bind w2 (E.bind (hk 2) (E.now _)))))
  rw[if_neg k6]
  refine E.neg k6 (E.bind w1 (E.bind (hn 1) ?_))
  by_cases k5:k=5
  ·rw[if_pos k5];exact E.pos k5 (E.now _)
  rw[if_neg k5]
  refine E.neg k5 (E.bind w2 (E.bind (hm 2) ?_))
  by_cases k4:k=4
  ·rw[if_pos k4];exact E.pos k4 (E.bind w3 (E.bind (hm 3) (E.now _)))
  rw[if_neg k4]
  refine E.neg k4 ?_
  by_cases k3:k=3
  ·rw[if_pos k3]
   refine E.pos k3 (E.ite (fun hl=>E.pos (by omega) ?_) (fun hl=>E.now' ?_))
   ·have e3:Int.toNat 3=3:=rfl
    rw[e3]
    have:=read_l17 (a:=k) (b:=numV 99 (wd ws 1)) (c:=monV (wd ws 2)) (d:=0) (e:=0) (f:=0) (z1:=0) (z2:=0) (z3:=0) (z4:=0) (z5:=0) (z6:=0) (ws.drop 3) [] [] ⟨by simp;omega,fun w h=>hw.2 w (List.mem_of_mem_drop h)⟩ (by simp;omega)
    exact E.ren (fun _=>0) this
   ·rw[List.drop_of_length_le (by omega)];rfl
  ·rw[if_neg k3];exact E.neg k3 (E.now _)
 refine E.congr (fun f=>zf39.eq (f 0) k ws) (E.ite (fun h=>E.pos h (E.now' ?_)) (fun h=>E.ite (fun h7=>E.now' ?_) (fun h7=>rest (by omega))))
 ·unfold rdT;rw[if_pos (.inl h)]
 ·unfold rdT;rw[if_pos (.inr h7)]
noncomputable def lendR (ws:List ByteArray):EvT:=(3,numV 9999999 (wd ws 1),monV (wd ws 2),0,(ws.drop 3).map (numV 9999999),0,0)
theorem specLend_l3 {a b c d e f z1 z2 z3 z4 z5 z6:Int}:∀(post pre:List ByteArray) (acc:List Int),WsOk (pre++post)→acc.length+post.length≤400000000 →
  E (fun k=>zf116.l3 (k 0) (k 1) (pre++post) (pre.length:Int) z1 z2 z3 z4 z5 z6 a b c d e f acc) (a,b,c,d,acc++post.map (numV 9999999),e,f)
 | [],pre,acc,hw,hl=>by
  refine E.step 1 (fun v w h1 h2=>by rewrite [h1,h2 0 (by decide)];exact zf116.l3_succ ..) ?_
  exact E.neg (by simp) (E.now' (by simp))
 | w::post,pre,acc,hw,hl=>by
  have hlen:(pre++w::post).length=pre.length+(post.length+1):=by simp
  have h1:=hw.1
  have hws:w.size≤400000000:=hw.2 w (by simp)
  simp only[List.length_cons] at hl
  have ih:=specLend_l3 (a:=a) (b:=b) (c:=c) (d:=d) (e:=e) (f:=f) (z1:=z1) (z2:=z2) (z3:=z3) (z4:=z4) (z5:=z5) (z6:=z6) post (pre++[w]) (acc++[numV 9999999 w]) (by simpa using hw) (by simp;omega)
  rw[show (pre++[w]).length=pre.length+1 from by simp,List.append_assoc] at ih
  refine E.step 1 (fun v w h1 h2=>by rewrite [h1,h2 0 (by decide)];exact zf116.l3_succ ..) ?_
  simp only[Int.toNat_natCast,getD_mid]
  rw[wrap_nat (by omega)]
  refine E.pos (by omega) (E.pos (by omega) (E.pos (by omega) (E.bind (specNumR_E w hws) (E.pos ?_ (E.is ih (by simp))))))
  simp only[List.length_set,List.length_replicate,maxN];omega
theorem specLendR_E {ws:List ByteArray} (hw:WsOk ws) (hl:3≤ws.length):E (fun k=>zf116 (k 0) ws) (lendR ws):=by
 have h1:=hw.1
 have:=specLend_l3 (a:=3) (b:=numV 9999999 (wd ws 1)) (c:=monV (wd ws 2)) (d:=0) (e:=0) (f:=0) (z1:=0) (z2:=0) (z3:=0) (z4:=0) (z5:=0) (z6:=0) (ws.drop 3) (ws.take 3) [] (by rw[List.take_append_drop];exact hw) (by simp;omega)
 rw[List.take_append_drop,show (ws.take 3).length=3 by simp;omega] at this
 exact E.congr (fun k=>zf116.eq (k 0) ws) (E.pos (by omega) (E.bind (specNumR_E _ (wd_size hw 1)) (E.pos (by omega) (E.bind (specMonR_E _ (wd_size hw 2)) (E.ren (fun _=>0) this)))))
noncomputable def rs17 (ws:List ByteArray):EvT × Bool:=if wd ws 0=klend∧(ws.length:Int)≥3 then (lendR ws,true) else (zEvR,false)
noncomputable def rs15 (ws:List ByteArray):EvT × Bool:=if wd ws 0=krepay∧(ws.length:Int)=4 then ((4,numV 9999999 (wd ws 1),monV (wd ws 2),monV (wd ws 3),[],0,0),true) else rs17 ws
noncomputable def rs13 (ws:List ByteArray):EvT × Bool:=if wd ws 0=ktake∧(ws.length:Int)=3 then ((2,numV 9999999 (wd ws 1),monV (wd ws 2),0,[],0,0),true) else rs15 ws
noncomputable def rs11 (ws:List ByteArray):EvT × Bool:=if wd ws 0=ksave∧(ws.length:Int)=3 then ((1,numV 9999999 (wd ws 1),monV (wd ws 2),0,[],0,0),true) else rs13 ws
noncomputable def rs9 (ws:List ByteArray):EvT × Bool:=if wd ws 0=kfail∧(ws.length:Int)=2 then ((5,numV 9999999 (wd ws 1),0,0,[],0,0),true) else rs11 ws
noncomputable def rs7 (ws:List ByteArray):EvT × Bool:=if wd ws 0=knight∧(ws.length:Int)=3 then ((6,0,0,0,[],numV 9999999 (wd ws 1),numV 9999999 (wd ws 2)),true) else rs9 ws
noncomputable def rs5 (ws:List ByteArray):EvT × Bool:=if wd ws 0=kshare∧(ws.length:Int)=1 then ((7,0,0,0,[],0,0),true) else rs7 ws
noncomputable def rs3 (ws:List ByteArray):EvT × Bool:=if wd ws 0=kjoin∧(ws.length:Int)=1 then ((0,0,0,0,[],0,0),true) else rs5 ws
theorem ite_both {α:Type} {p q:Prop} [Decidable p] [Decidable q] (hp:p) (a b:α):(if decide q=true then a else b)=if p∧q then a else b:=by
 by_cases hq:q
 ·rw[if_pos (decide_eq_true hq),if_pos ⟨hp,hq⟩]
 ·rw[if_neg (by rw[decide_eq_false hq];decide),if_neg (fun h=>hq h.2)]
theorem ite_off {α:Type} {p q:Prop} [Decidable p] [Decidable q] (hp:¬p) (a b:α):(if false=true then a else b)=if p∧q then a else b:=by
 rw[if_neg (by decide),if_neg (fun h=>hp h.1)]
variable {ws:List ByteArray}
theorem sj17_E (hw:WsOk ws) (b:Bool) (hb:b=true→(ws.length:Int)≥3):E (fun k=>zf115.j17 (k 0) ws b 0 0 0 0 0 0) (if b=true then (lendR ws,true) else (zEvR,false)):=by
 refine E.congr (fun k=>zf115.j17_eq (k 0) ..) (E.ite (fun h=>?_) (fun h=>E.now' (by rw[if_neg h];rfl)))
 rw[if_pos h]
 have:=hb h
 have hL:=specLendR_E hw (by omega)
 generalize lendR ws=L at hL ⊢
 exact E.bind hL (E.now _)
theorem sj15_E (hw:WsOk ws) (h0:0<ws.length) (b:Bool) (hb:b=true→(ws.length:Int)=4):E (fun k=>zf115.j15 (k 0) ws (ws.length:Int) b 0 0 0 0 0 0) (if b=true then ((4,numV 9999999 (wd ws 1),monV (wd ws 2),monV (wd ws 3),[],0,0),true) else rs17 ws):=by
 refine E.congr (fun k=>zf115.j15_eq (k 0) ..) (E.ite (fun h=>?_) (fun h=>?_))
 ·rw[if_pos h]
  have:=hb h
  exact E.pos (by omega) (E.bind (specNumR_E _ (wd_size hw 1)) (E.pos (by omega) (E.bind (specMonR_E _ (wd_size hw 2)) (E.pos (by omega) (E.bind (specMonR_E _ (wd_size hw 3)) (E.now _))))))
 ·rw[if_neg h]
  refine E.pos (by omega) (E.ite (fun hk=>E.is (sj17_E hw _ (fun h=>of_decide_eq_true h)) ?_) (fun hk=>E.is (sj17_E hw _ (fun h=>by cases h)) ?_))
  ·exact ite_both (p:=wd ws 0=klend) hk _ _
  ·exact ite_off (p:=wd ws 0=klend) hk _ _
theorem sj13_E (hw:WsOk ws) (h0:0<ws.length) (b:Bool) (hb:b=true→(ws.length:Int)=3):E (fun k=>zf115.j13 (k 0) ws (ws.length:Int) b 0 0 0 0 0 0) (if b=true then ((2,numV 9999999 (wd ws 1),monV (wd ws 2),0,[],0,0),true) else rs15 ws):=by
 refine E.congr (fun k=>zf115.j13_eq (k 0) ..) (E.ite (fun h=>?_) (fun h=>?_))
 ·rw[if_pos h]
  have:=hb h
  exact E.pos (by omega) (E.bind (specNumR_E _ (wd_size hw 1)) (E.pos (by omega) (E.bind (specMonR_E _ (wd_size hw 2)) (E.now _))))
 ·rw[if_neg h]
  refine E.pos (by omega) (E.ite (fun hk=>E.is (sj15_E hw h0 _ (fun h=>of_decide_eq_true h)) ?_) (fun hk=>E.is (sj15_E hw h0 _ (fun h=>by cases h)) ?_))
  ·exact ite_both (p:=wd ws 0=krepay) hk _ _
  ·exact ite_off (p:=wd ws 0=krepay) hk _ _
theorem sj11_E (hw:WsOk ws) (h0:0<ws.length) (b:Bool) (hb:b=true→(ws.length:Int)=3):E (fun k=>zf115.j11 (k 0) ws (ws.length:Int) b 0 0 0 0 0 0) (if b=true then ((1,numV 9999999 (wd ws 1),monV (wd ws 2),0,[],0,0),true) else rs13 ws):=by
 refine E.congr (fun k=>zf115.j11_eq (k 0) ..) (E.ite (fun h=>?_) (fun h=>?_))
 ·rw[if_pos h]
  have:=hb h
  exact E.pos (by omega) (E.bind (specNumR_E _ (wd_size hw 1)) (E.pos (by omega) (E.bind (specMonR_E _ (wd_size hw 2)) (E.now _))))
 ·rw[if_neg h]
  refine E.pos (by omega) (E.ite (fun hk=>E.is (sj13_E hw h0 _ (fun h=>of_decide_eq_true h)) ?_) (fun hk=>E.is (sj13_E hw h0 _ (fun h=>by cases h)) ?_))
  ·exact ite_both (p:=wd ws 0=ktake) hk _ _
  ·exact ite_off (p:=wd ws 0=ktake) hk _ _
theorem sj9_E (hw:WsOk ws) (h0:0<ws.length) (b:Bool) (hb:b=true→(ws.length:Int)=2):E (fun k=>zf115.j9 (k 0) ws (ws.length:Int) b 0 0 0 0 0 0) (if b=true then ((5,numV 9999999 (wd ws 1),0,0,[],0,0),true) else rs11 ws):=by
 refine E.congr (fun k=>zf115.j9_eq (k 0) ..) (E.ite (fun h=>?_) (fun h=>?_))
 ·rw[if_pos h]
  have:=hb h
  exact E.pos (by omega) (E.bind (specNumR_E _ (wd_size hw 1)) (E.now _))
 ·rw[if_neg h]
  refine E.pos (by omega) (E.ite (fun hk=>E.is (sj11_E hw h0 _ (fun h=>of_decide_eq_true h)) ?_) (fun hk=>E.is (sj11_E hw h0 _ (fun h=>by cases h)) ?_))
  ·exact ite_both (p:=wd ws 0=ksave) hk _ _
  ·exact ite_off (p:=wd ws 0=ksave) hk _ _
theorem sj7_E (hw:WsOk ws) (h0:0<ws.length) (b:Bool) (hb:b=true→(ws.length:Int)=3):E (fun k=>zf115.j7 (k 0) ws (ws.length:Int) b 0 0 0 0 0 0) (if b=true then ((6,0,0,0,[],numV 9999999 (wd ws 1),numV 9999999 (wd ws 2)),true) else rs9 ws):=by
 refine E.congr (fun k=>zf115.j7_eq (k 0) ..) (E.ite (fun h=>?_) (fun h=>?_))
 ·rw[if_pos h]
  have:=hb h
  exact E.pos (by omega) (E.bind (specNumR_E _ (wd_size hw 1)) (E.pos (by omega) (E.bind (specNumR_E _ (wd_size hw 2)) (E.now _))))
 ·rw[if_neg h]
  refine E.pos (by omega) (E.ite (fun hk=>E.is (sj9_E hw h0 _ (fun h=>of_decide_eq_true h)) ?_) (fun hk=>E.is (sj9_E hw h0 _ (fun h=>by cases h)) ?_))
  ·exact ite_both (p:=wd ws 0=kfail) hk _ _
  ·exact ite_off (p:=wd ws 0=kfail) hk _ _
theorem sj5_E (hw:WsOk ws) (h0:0<ws.length) (b:Bool):E (fun k=>zf115.j5 (k 0) ws (ws.length:Int) b 0 0 0 0 0 0) (if b=true then ((7,0,0,0,[],0,0),true) else rs7 ws):=by
 refine E.congr (fun k=>zf115.j5_eq (k 0) ..) (E.ite (fun h=>E.now' (by rw[if_pos h])) (fun h=>?_))
 rw[if_neg h]
 refine E.pos (by omega) (E.ite (fun hk=>E.is (sj7_E hw h0 _ (fun h=>of_decide_eq_true h)) ?_) (fun hk=>E.is (sj7_E hw h0 _ (fun h=>by cases h)) ?_))
 ·exact ite_both (p:=wd ws 0=knight) hk _ _
 ·exact ite_off (p:=wd ws 0=knight) hk _ _
theorem sj3_E (hw:WsOk ws) (h0:0<ws.length) (b:Bool):E (fun k=>zf115.j3 (k 0) ws (ws.length:Int) b 0 0 0 0 0 0) (if b=true then ((0,0,0,0,[],0,0),true) else rs5 ws):=by
 refine E.congr (fun k=>zf115.j3_eq (k 0) ..) (E.ite (fun h=>E.now' (by rw[if_pos h])) (fun h=>?_))
 rw[if_neg h]
 refine E.pos (by omega) (E.ite (fun hk=>E.is (sj5_E hw h0 _) ?_) (fun hk=>E.is (sj5_E hw h0 _) ?_))
 ·exact ite_both (p:=wd ws 0=kshare) hk _ _
 ·exact ite_off (p:=wd ws 0=kshare) hk _ _
theorem specReadE_E (hw:WsOk ws) (h0:0<ws.length):E (fun k=>zf115 (k 0) ws) (rs3 ws):=by
 refine E.congr (fun k=>zf115.eq (k 0) ws) (E.pos (by omega) (E.ite (fun hk=>E.is (sj3_E hw h0 _) ?_) (fun hk=>E.is (sj3_E hw h0 _) ?_)))
 ·exact ite_both (p:=wd ws 0=kjoin) hk _ _
 ·exact ite_off (p:=wd ws 0=kjoin) hk _ _
end Go.Proofs.YtbgamdkmlikgjaaGreatDoorG
end
section
set_option linter.unusedVariables false
namespace Go.Proofs.YtbgamdkmlikgjaaGreatDoorG
open Go Go.Refl Go.Refl.Math Go.RowKit
def canon (e:EvT):EvT:=
 if e.1=0∨e.1=7 then (e.1,0,0,0,[],0,0) else if e.1=6 then (e.1,0,0,0,[],e.2.2.2.2.2.1,e.2.2.2.2.2.2)
 else if e.1=5 then (e.1,e.2.1,0,0,[],0,0) else if e.1=4 then (e.1,e.2.1,e.2.2.1,e.2.2.2.1,[],0,0)
 else if e.1=3 then (e.1,e.2.1,e.2.2.1,0,e.2.2.2.2.1,0,0) else (e.1,e.2.1,e.2.2.1,0,[],0,0)
def nosp (s:ByteArray):Prop:=(32:UInt8) ∉ s.data.toList
def tailT:List ByteArray→ByteArray
 | []=>ByteArray.empty
 | x::xs=>spT++x++tailT xs
theorem words_join:∀(xs:List ByteArray) (w:ByteArray),nosp w→(∀x ∈ xs,nosp x)→wordsT (w++tailT xs)=w::xs
 | [],w,h,_=>by
  rw[tailT,ByteArray.append_empty]
  unfold wordsT
  rw[splitB_none h,List.map_cons,mkB_of]
  rfl
 | x::xs,w,h,hx=>by
  have ih:=words_join xs x (hx x (List.mem_cons_self ..)) (fun y hy=>hx y (List.mem_cons_of_mem _ hy))
  have e:(w++tailT (x::xs)).data.toList=w.data.toList++32::(x++tailT xs).data.toList:=by
   simp[tailT,ByteArray.data_append,spT]
  unfold wordsT at ih ⊢
  rw[e,splitB_at h,List.map_cons,mkB_of,ih]
theorem nosp_dec (n:Nat):nosp (decT n):=by
 intro h
 rw[decT_list] at h
 exact absurd (List.all_eq_true.1 (dval_dec n).1 _ h) (by decide)
theorem nosp_mon (n:Nat):nosp (monT n):=by
 intro h
 rw[monT_list] at h
 rcases List.mem_append.1 h with h | h
 ·exact absurd (List.all_eq_true.1 (dval_dec _).1 _ h) (by decide)
 ·simp only[List.mem_cons,List.not_mem_nil,or_false] at h
  have d1:=(dgt_of (n:=n / 10 % 10) (by omega)).1
  have d2:=(dgt_of (n:=n % 10) (by omega)).1
  rcases h with h | h | h
  ·exact absurd h (by decide)
  ·rw[←h] at d1;exact absurd d1 (by decide)
  ·rw[←h] at d2;exact absurd d2 (by decide)
theorem memT_tail:∀l:List Int,memT l=tailT (l.map fun x=>decT x.toNat)
 | []=>rfl
 | m::l=>by rw[memT,memT_tail l];rfl
theorem numV_m {m:Int} {lim:Nat} (h0:0≤m) (h1:m≤lim):numV lim (decT m.toNat)=m:=by
 rw[numV_dec (by omega)];omega
theorem monV_a {a:Int} (h:aV a=true):monV (monT a.toNat)=a:=by
 have:=aV_iff.1 h
 rw[monV_mon (by omega)];omega
theorem nums_m {lim:Nat} (hl:99≤lim):∀{g:List Int},g.all mV=true→(g.map fun x=>decT x.toNat).map (numV lim)=g
 | [],_=>rfl
 | x::g,h=>by
  rw[List.all_cons,Bool.and_eq_true] at h
  have:=mV_iff.1 h.1
  rw[List.map_cons,List.map_cons,nums_m hl h.2,numV_m (by omega) (by omega)]
theorem rs3_go {K:ByteArray} {xs:List ByteArray} (h:K≠kjoin):rs3 (K::xs)=rs5 (K::xs):=if_neg (fun q=>h q.1)
theorem rs5_go {K:ByteArray} {xs:List ByteArray} (h:K≠kshare):rs5 (K::xs)=rs7 (K::xs):=if_neg (fun q=>h q.1)
theorem rs7_go {K:ByteArray} {xs:List ByteArray} (h:K≠knight):rs7 (K::xs)=rs9 (K::xs):=if_neg (fun q=>h q.1)
theorem rs9_go {K:ByteArray} {xs:List ByteArray} (h:K≠kfail):rs9 (K::xs)=rs11 (K::xs):=if_neg (fun q=>h q.1)
theorem rs11_go {K:ByteArray} {xs:List ByteArray} (h:K≠ksave):rs11 (K::xs)=rs13 (K::xs):=if_neg (fun q=>h q.1)
theorem rs13_go {K:ByteArray} {xs:List ByteArray} (h:K≠ktake):rs13 (K::xs)=rs15 (K::xs):=if_neg (fun q=>h q.1)
theorem rs15_go {K:ByteArray} {xs:List ByteArray} (h:K≠krepay):rs15 (K::xs)=rs17 (K::xs):=if_neg (fun q=>h q.1)
theorem nosp_kind:∀k,k<8→nosp (kindN k):=by
 intro k h
 have:k=0∨k=1∨k=2∨k=3∨k=4∨k=5∨k=6∨k=7:=by omega
 unfold nosp
 rcases this with rfl | rfl | rfl | rfl | rfl | rfl | rfl | rfl <;> decide
theorem evt_shape (e:EvT) (h:evtT e≠ByteArray.empty):∃k xs,k<8∧e.1=((k:Nat):Int)∧evtT e=kindN k++tailT xs∧(∀x ∈ xs,nosp x)∧rdT e.1 (kindN k::xs)=canon e∧rs3 (kindN k::xs)=(canon e,true):=by
 obtain ⟨k,m,a,b,g,nu,de⟩:=e
 by_cases k0:k=0
 ·subst k0
  refine ⟨0,[],by omega,rfl,?_,by simp,by unfold rdT canon;rw[if_pos (.inl rfl),if_pos (.inl rfl)],?_⟩
  ·show kjoin=kjoin++tailT []
   rw[tailT,ByteArray.append_empty]
  ·exact if_pos ⟨rfl,rfl⟩
 by_cases k7:k=7
 ·subst k7
  refine ⟨7,[],by omega,rfl,?_,by simp,by unfold rdT canon;rw[if_pos (.inr rfl),if_pos (.inr rfl)],?_⟩
  ·show kshare=kshare++tailT []
   rw[tailT,ByteArray.append_empty]
  ·show rs3 (kshare::[])=_
   rw[rs3_go (by decide)]
   exact if_pos ⟨rfl,rfl⟩
 by_cases k6:k=6
 ·subst k6
  by_cases hr:rV nu de=true
  ·have hr':=rV_iff.1 hr
   have e1:evtT (6,m,a,b,g,nu,de)=knight++(bnT nu++bnT de):=by
    unfold evtT
    simp[hr]
   refine ⟨6,[decT nu.toNat,decT de.toNat],by omega,rfl,?_,?_,?_,?_⟩
   ·rw[e1]
    show _=knight++tailT _
    simp only[tailT,bnT,ByteArray.append_assoc,ByteArray.append_empty]
   ·intro x hx
    simp only[List.mem_cons,List.not_mem_nil,or_false] at hx
    rcases hx with rfl | rfl <;> exact nosp_dec _
   ·show (6,0,0,0,[],numV 1000 (decT nu.toNat),numV 1000 (decT de.toNat))=((6,0,0,0,[],nu,de):EvT)
    rw[numV_m (by omega) (by omega),numV_m (by omega) (by omega)]
   ·show rs3 (knight::[decT nu.toNat,decT de.toNat])=((6,0,0,0,[],nu,de),true)
    rw[rs3_go (by decide),rs5_go (by decide),rs7,if_pos ⟨rfl,rfl⟩]
    show ((6,0,0,0,[],numV 9999999 (decT nu.toNat),numV 9999999 (decT de.toNat)),true)=(((6,0,0,0,[],nu,de),true):EvT × Bool)
    rw[numV_m (by omega) (by omega),numV_m (by omega) (by omega)]
  ·exact absurd (by unfold evtT;simp[hr]) h
 by_cases hm:mV m=true
 case neg=>exact absurd (by unfold evtT;simp[k0,k7,k6,hm]) h
 have hm':=mV_iff.1 hm
 by_cases k5:k=5
 ·subst k5
  have e1:evtT (5,m,a,b,g,nu,de)=kfail++bnT m:=by
   unfold evtT
   simp[hm]
  refine ⟨5,[decT m.toNat],by omega,rfl,?_,?_,?_,?_⟩
  ·rw[e1]
   show _=kfail++tailT _
   simp only[tailT,bnT,ByteArray.append_empty]
  ·intro x hx
   rw[List.mem_singleton.1 hx];exact nosp_dec _
  ·show (5,numV 99 (decT m.toNat),0,0,[],0,0)=((5,m,0,0,[],0,0):EvT)
   rw[numV_m (by omega) (by omega)]
  ·show rs3 (kfail::[decT m.toNat])=((5,m,0,0,[],0,0),true)
   rw[rs3_go (by decide),rs5_go (by decide),rs7_go (by decide),rs9,if_pos ⟨rfl,rfl⟩]
   show ((5,numV 9999999 (decT m.toNat),0,0,[],0,0),true)=(((5,m,0,0,[],0,0),true):EvT × Bool)
   rw[numV_m (by omega) (by omega)]
 by_cases ha:aV a=true
 case neg=>exact absurd (by unfold evtT;simp[k0,k7,k6,k5,hm,ha]) h
 by_cases k1:k=1
 ·subst k1
  have e1:evtT (1,m,a,b,g,nu,de)=ksave++(bnT m++bmT a):=by
   unfold evtT
   simp[hm,ha]
  refine ⟨1,[decT m.toNat,monT a.toNat],by omega,rfl,?_,?_,?_,?_⟩
  ·rw[e1]
   show _=ksave++tailT _
   simp only[tailT,bnT,bmT,ByteArray.append_assoc,ByteArray.append_empty]
  ·intro x hx
   simp only[List.mem_cons,List.not_mem_nil,or_false] at hx
   rcases hx with rfl | rfl
   ·exact nosp_dec _
   ·exact nosp_mon _
  ·show (1,numV 99 (decT m.toNat),monV (monT a.toNat),0,[],0,0)=((1,m,a,0,[],0,0):EvT)
   rw[numV_m (by omega) (by omega),monV_a ha]
  ·show rs3 (ksave::[decT m.toNat,monT a.toNat])=((1,m,a,0,[],0,0),true)
   rw[rs3_go (by decide),rs5_go (by decide),rs7_go (by decide),rs9_go (by decide),rs11,if_pos ⟨rfl,rfl⟩]
   show ((1,numV 9999999 (decT m.toNat),monV (monT a.toNat),0,[],0,0),true)=(((1,m,a,0,[],0,0),true):EvT × Bool)
   rw[numV_m (by omega) (by omega),monV_a ha]
 by_cases k2:k=2
 ·subst k2
  have e1:evtT (2,m,a,b,g,nu,de)=ktake++(bnT m++bmT a):=by
   unfold evtT
   simp[hm,ha]
  refine ⟨2,[decT m.toNat,monT a.toNat],by omega,rfl,?_,?_,?_,?_⟩
  ·rw[e1]
   show _=ktake++tailT _
   simp only[tailT,bnT,bmT,ByteArray.append_assoc,ByteArray.append_empty]
  ·intro x hx
   simp only[List.mem_cons,List.not_mem_nil,or_false] at hx
   rcases hx with rfl | rfl
   ·exact nosp_dec _
   ·exact nosp_mon _
  ·show (2,numV 99 (decT m.toNat),monV (monT a.toNat),0,[],0,0)=((2,m,a,0,[],0,0):EvT)
   rw[numV_m (by omega) (by omega),monV_a ha]
  ·show rs3 (ktake::[decT m.toNat,monT a.toNat])=((2,m,a,0,[],0,0),true)
   rw[rs3_go (by decide),rs5_go (by decide),rs7_go (by decide),rs9_go (by decide),rs11_go (by decide),rs13,if_pos ⟨rfl,rfl⟩]
   show ((2,numV 9999999 (decT m.toNat),monV (monT a.toNat),0,[],0,0),true)=(((2,m,a,0,[],0,0),true):EvT × Bool)
   rw[numV_m (by omega) (by omega),monV_a ha]
 by_cases k4:k=4
 ·subst k4
  by_cases hb:aV b=true
  case neg=>exact absurd (by unfold evtT;simp[hm,ha,hb]) h
  have e1:evtT (4,m,a,b,g,nu,de)=krepay++(bnT m++bmT a++bmT b):=by
   unfold evtT
   simp[hm,ha,hb]
  refine ⟨4,[decT m.toNat,monT a.toNat,monT b.toNat],by omega,rfl,?_,?_,?_,?_⟩
  ·rw[e1]
   show _=krepay++tailT _
   simp only[tailT,bnT,bmT,ByteArray.append_assoc,ByteArray.append_empty]
  ·intro x hx
   simp only[List.mem_cons,List.not_mem_nil,or_false] at hx
   rcases hx with rfl | rfl | rfl
   ·exact nosp_dec _
   ·exact nosp_mon _
   ·exact nosp_mon _
  ·show (4,numV 99 (decT m.toNat),monV (monT a.toNat),monV (monT b.toNat),[],0,0)=((4,m,a,b,[],0,0):EvT)
   rw[numV_m (by omega) (by omega),monV_a ha,monV_a hb]
  ·show rs3 (krepay::[decT m.toNat,monT a.toNat,monT b.toNat])=((4,m,a,b,[],0,0),true)
   rw[rs3_go (by decide),rs5_go (by decide),rs7_go (by decide),rs9_go (by decide),rs11_go (by decide),rs13_go (by decide),rs15,if_pos ⟨rfl,rfl⟩]
   show ((4,numV 9999999 (decT m.toNat),monV (monT a.toNat),monV (monT b.toNat),[],0,0),true)=(((4,m,a,b,[],0,0),true):EvT × Bool)
   rw[numV_m (by omega) (by omega),monV_a ha,monV_a hb]
 by_cases k3:k=3
 case neg=>exact absurd (by unfold evtT;simp[k0,k7,k6,k5,k1,k2,k4,k3,hm,ha]) h
 subst k3
 by_cases hg:g.all mV=true
 case neg=>exact absurd (by unfold evtT;rw[if_neg k0,if_neg k7,if_neg k6,if_pos hm,if_neg k5,if_pos ha,if_neg k1,if_neg k2,if_neg k4,if_pos rfl,if_neg hg]) h
 have e1:evtT (3,m,a,b,g,nu,de)=klend++(bnT m++bmT a++memT g):=by
  unfold evtT
  rw[if_neg k0,if_neg k7,if_neg k6,if_pos hm,if_neg k5,if_pos ha,if_neg k1,if_neg k2,if_neg k4,if_pos rfl,if_pos hg]
 refine ⟨3,decT m.toNat::monT a.toNat::g.map fun x=>decT x.toNat,by omega,rfl,?_,?_,?_,?_⟩
 ·rw[e1,memT_tail]
  show _=klend++tailT _
  simp only[tailT,bnT,bmT,ByteArray.append_assoc]
 ·intro x hx
  rcases List.mem_cons.1 hx with rfl | hx
  ·exact nosp_dec _
  rcases List.mem_cons.1 hx with rfl | hx
  ·exact nosp_mon _
  ·obtain ⟨y,_,rfl⟩:=List.mem_map.1 hx
   exact nosp_dec _
 ·show (3,numV 99 (decT m.toNat),monV (monT a.toNat),0,(g.map fun x=>decT x.toNat).map (numV 99),0,0)=((3,m,a,0,g,0,0):EvT)
  rw[numV_m (by omega) (by omega),monV_a ha,nums_m (by omega) hg]
 ·show rs3 (klend::decT m.toNat::monT a.toNat::g.map fun x=>decT x.toNat)=((3,m,a,0,g,0,0),true)
  rw[rs3_go (by decide),rs5_go (by decide),rs7_go (by decide),rs9_go (by decide),rs11_go (by decide),rs13_go (by decide),rs15_go (by decide),rs17,if_pos ⟨rfl,by simp;omega⟩]
  show ((3,numV 9999999 (decT m.toNat),monV (monT a.toNat),0,(g.map fun x=>decT x.toNat).map (numV 9999999),0,0),true)=(((3,m,a,0,g,0,0),true):EvT × Bool)
  rw[numV_m (by omega) (by omega),monV_a ha,nums_m (by omega) hg]
end Go.Proofs.YtbgamdkmlikgjaaGreatDoorG
end
section
set_option linter.unusedVariables false
namespace Go.Proofs.YtbgamdkmlikgjaaGreatDoorG
open Go Go.Refl Go.Refl.Math Go.RowKit
theorem kindN_inj:∀i j,i<8→j<8→kindN i=kindN j→i=j:=by
 intro i j hi hj h
 have a:i=0∨i=1∨i=2∨i=3∨i=4∨i=5∨i=6∨i=7:=by omega
 have b:j=0∨j=1∨j=2∨j=3∨j=4∨j=5∨j=6∨j=7:=by omega
 rcases a with rfl | rfl | rfl | rfl | rfl | rfl | rfl | rfl <;> rcases b with rfl | rfl | rfl | rfl | rfl | rfl | rfl | rfl <;> first | rfl | exact absurd h (by decide)
theorem kindN_ne:∀i,i<8→kindN i≠ByteArray.empty:=by
 intro i hi h
 have a:i=0∨i=1∨i=2∨i=3∨i=4∨i=5∨i=6∨i=7:=by omega
 rcases a with rfl | rfl | rfl | rfl | rfl | rfl | rfl | rfl <;> exact absurd h (by decide)
theorem evt_words (e:EvT) (h:evtT e≠ByteArray.empty):∃k,k<8∧e.1=((k:Nat):Int)∧wd (wordsT (evtT e)) 0=kindN k∧rdT e.1 (wordsT (evtT e))=canon e∧rs3 (wordsT (evtT e))=(canon e,true):=by
 obtain ⟨k,xs,h1,h2,h3,h4,h5,h6⟩:=evt_shape e h
 have hw:wordsT (evtT e)=kindN k::xs:=by rw[h3];exact words_join xs _ (nosp_kind k h1) h4
 rw[hw]
 exact ⟨k,h1,h2,rfl,h5,h6⟩
theorem evtT_canon (e:EvT):evtT (canon e)=evtT e:=by
 obtain ⟨k,m,a,b,g,nu,de⟩:=e
 unfold canon
 by_cases h0:k=0∨k=7
 ·rw[if_pos h0]
  rcases h0 with h0 | h0 <;> · subst h0;simp[evtT]
 rw[if_neg h0]
 by_cases h6:k=6
 ·rw[if_pos h6];subst h6;simp[evtT]
 rw[if_neg h6]
 by_cases h5:k=5
 ·rw[if_pos h5];subst h5;simp[evtT]
 rw[if_neg h5]
 by_cases h4:k=4
 ·rw[if_pos h4];subst h4;simp[evtT]
 rw[if_neg h4]
 by_cases h3:k=3
 ·rw[if_pos h3];subst h3;simp[evtT]
 rw[if_neg h3]
 have n0:¬k=0:=fun h=>h0 (.inl h)
 have n7:¬k=7:=fun h=>h0 (.inr h)
 simp[evtT,n0,n7,h6,h5,h4,h3]
theorem canon_rdT (k:Int) (ws:List ByteArray):canon (rdT k ws)=rdT k ws:=by
 unfold rdT
 by_cases h0:k=0∨k=7
 ·rw[if_pos h0];unfold canon;rw[if_pos h0]
 rw[if_neg h0]
 by_cases h6:k=6
 ·rw[if_pos h6];unfold canon;rw[if_neg h0,if_pos h6]
 rw[if_neg h6]
 by_cases h5:k=5
 ·rw[if_pos h5];unfold canon;rw[if_neg h0,if_neg h6,if_pos h5]
 rw[if_neg h5]
 by_cases h4:k=4
 ·rw[if_pos h4];unfold canon;rw[if_neg h0,if_neg h6,if_neg h5,if_pos h4]
 rw[if_neg h4]
 by_cases h3:k=3
 ·rw[if_pos h3];unfold canon;rw[if_neg h0,if_neg h6,if_neg h5,if_neg h4,if_pos h3]
 rw[if_neg h3];unfold canon;rw[if_neg h0,if_neg h6,if_neg h5,if_neg h4,if_neg h3]
noncomputable def parseT (s:ByteArray):EvT × Bool:=@dite _ (∃e,evtT e=s∧s≠ByteArray.empty) (Classical.propDecidable _) (fun h=>(canon h.choose,true)) (fun _=>(zEvR,false))
theorem parse_yes {e:EvT} {s:ByteArray} (h:evtT e=s) (hs:s≠ByteArray.empty):parseT s=(canon e,true):=by
 have hx:∃e,evtT e=s∧s≠ByteArray.empty:=⟨e,h,hs⟩
 unfold parseT
 rw[dif_pos hx]
 have h1:=hx.choose_spec.1
 generalize hx.choose=e2 at h1
 obtain ⟨_,_,_,_,_,q1⟩:=evt_words e (by rw[h];exact hs)
 obtain ⟨_,_,_,_,_,q2⟩:=evt_words e2 (by rw[h1];exact hs)
 rw[h] at q1
 rw[h1,q1] at q2
 exact q2.symm
theorem parse_no {s:ByteArray} (h:∀e,evtT e=s→s=ByteArray.empty):parseT s=(zEvR,false):=by
 unfold parseT
 exact dif_neg (fun ⟨e,h1,h2⟩=>h2 (h e h1))
theorem parse_is (s:ByteArray):(∃e,evtT e=s∧s≠ByteArray.empty∧parseT s=(canon e,true))∨(parseT s=(zEvR,false)∧∀e,evtT e=s→s=ByteArray.empty):=by
 by_cases h:∃e,evtT e=s∧s≠ByteArray.empty
 ·obtain ⟨e,h1,h2⟩:=h
  exact .inl ⟨e,h1,h2,parse_yes h1 h2⟩
 ·have h':∀e,evtT e=s→s=ByteArray.empty:=fun e h1=>by
   by_cases h2:s=ByteArray.empty
   ·exact h2
   ·exact absurd ⟨e,h1,h2⟩ h
  exact .inr ⟨parse_no h',h'⟩
theorem splitB_small (c:UInt8):∀(l:List UInt8),∀w ∈ splitB c l,w.length≤l.length
 | [],w,h=>by rw[List.mem_singleton.1 h];exact Nat.zero_le _
 | b::l,w,h=>by
  have ih:=splitB_small c l
  rw[splitB] at h
  by_cases hb:b=c
  ·rw[if_pos hb] at h
   rcases List.mem_cons.1 h with rfl | h
   ·exact Nat.zero_le _
   ·have:=ih w h;simp;omega
  ·rw[if_neg hb] at h
   cases hs:splitB c l with
   | nil=>rw[hs] at h;rw[List.mem_singleton.1 h];simp
   | cons x y=>
    rw[hs] at h ih
    rcases List.mem_cons.1 h with rfl | h
    ·have:=ih x (List.mem_cons_self ..);simp;omega
    ·have:=ih w (List.mem_cons_of_mem _ h);simp;omega
theorem words_ok {s:ByteArray} (h:s.size<400000000):WsOk (wordsT s):=by
 have hc:s.data.toList.count 32≤s.size:=by rw[ba_size];exact List.count_le_length
 refine ⟨by rw[words_length];omega,fun w hw=>?_⟩
 obtain ⟨l,hl,rfl⟩:=List.mem_map.1 hw
 have:=splitB_small 32 _ l hl
 rw[←ba_size] at this
 rw[mkB_size];omega
theorem words_empty:wd (wordsT ByteArray.empty) 0=ByteArray.empty:=rfl
theorem rdT_len (k:Int) (ws:List ByteArray):(rdT k ws).2.2.2.2.1.length≤ws.length∧-1≤(rdT k ws).2.2.2.2.2.1∧(rdT k ws).2.2.2.2.2.1≤1000∧-1≤(rdT k ws).2.2.2.2.2.2∧(rdT k ws).2.2.2.2.2.2≤1000:=by
 have b1:=numV_bd 1000 (wd ws 1)
 have b2:=numV_bd 1000 (wd ws 2)
 unfold rdT
 by_cases h0:k=0∨k=7
 ·rw[if_pos h0];simp
 rw[if_neg h0]
 by_cases h6:k=6
 ·rw[if_pos h6]
  refine ⟨Nat.zero_le _,?_⟩
  show -1≤numV 1000 (wd ws 1)∧numV 1000 (wd ws 1)≤1000∧-1≤numV 1000 (wd ws 2)∧numV 1000 (wd ws 2)≤1000
  omega
 rw[if_neg h6]
 by_cases h5:k=5
 ·rw[if_pos h5];simp
 rw[if_neg h5]
 by_cases h4:k=4
 ·rw[if_pos h4];simp
 rw[if_neg h4]
 by_cases h3:k=3
 ·rw[if_pos h3]
  refine ⟨?_,by show (-1:Int)≤0;decide,by show (0:Int)≤1000;decide,by show (-1:Int)≤0;decide,by show (0:Int)≤1000;decide⟩
  show ((ws.drop 3).map (numV 99)).length≤_
  rw[List.length_map,List.length_drop];omega
 rw[if_neg h3];simp
theorem parse_l3 (x:ByteArray) (hx:x.size<400000000):∀(d i:Nat),i+d=8→(∀j,j<i→wd (wordsT x) 0≠kindN j) →
  E (fun k=>zf17.l3 (k 0) (k 1) x [kjoin,ksave,ktake,klend,krepay,kfail,knight,kshare] (i:Int) 0 0 0 0 0 0 (wordsT x)) (parseT x)
 | 0,i,hi,hn=>by
  have hp:parseT x=(zEvR,false):=parse_no fun e he=>by
   by_cases h:x=ByteArray.empty
   ·exact h
   ·obtain ⟨k,k1,_,k2,_⟩:=evt_words e (by rw[he];exact h)
    rw[he] at k2
    exact absurd k2 (hn k (by omega))
  rw[hp]
  refine E.step 1 (fun v w h1 h2=>by rewrite [h1,h2 0 (by decide)];exact zf17.l3_succ ..) ?_
  exact E.neg (by omega) (E.now _)
 | d+1,i,hi,hn=>by
  have hlen:0<(wordsT x).length:=by rw[words_length];omega
  have hcs:x.data.toList.count 32≤x.size:=by rw[ba_size];exact List.count_le_length
  refine E.step 1 (fun v w h1 h2=>by rewrite [h1,h2 0 (by decide)];exact zf17.l3_succ ..) ?_
  rw[Int.toNat_natCast,wrap_nat (by omega)]
  refine E.pos (by omega) (E.pos (by rfl) (E.pos (by omega) (E.pos (by omega) (E.pos (by omega) (E.ite (fun h=>?_) (fun h=>?_))))))
  ·have hw:wd (wordsT x) 0=kindN i:=h
   have hrd:=readD_E (i:Int) (wordsT x) (words_ok hx)
   have hl:=rdT_len (i:Int) (wordsT x)
   have hcr:=canon_rdT (i:Int) (wordsT x)
   have hwl:=words_length x
   have hne:x≠ByteArray.empty:=fun h'=>by
    rw[h',words_empty] at hw
    exact kindN_ne i (by omega) hw.symm
   have huniq:∀e,evtT e=x→rdT (i:Int) (wordsT x)=canon e:=fun e he=>by
    obtain ⟨k,k1,k2,k3,k4,_⟩:=evt_words e (by rw[he];exact hne)
    rw[he] at k3 k4
    rw[hw] at k3
    obtain rfl:=kindN_inj i k (by omega) k1 k3
    rw[←k2];exact k4
   generalize rdT (i:Int) (wordsT x)=r at hrd hl hcr huniq
   have hf:=implEvt_E r (by omega) (by omega) (by omega) (by omega) (by omega)
   refine E.bind hrd (E.bind hf (E.ite (fun h2=>E.now' ?_) (fun h2=>E.now' ?_)))
   ·rw[parse_yes h2 hne,hcr]
   ·refine (parse_no fun e he=>?_).symm
    exact absurd (by rw[huniq e he,evtT_canon,he]) h2
  ·have ih:=parse_l3 x hx d (i+1) (by omega) (fun j hj=>by
    rcases Nat.lt_succ_iff_lt_or_eq.1 hj with h1 | h1
    ·exact hn j h1
    ·rw[h1];exact h)
   exact ih
theorem implParse_E (x:ByteArray) (hx:x.size<400000000):E (fun k=>zf17 (k 0) x) (parseT x):=by
 have h:=parse_l3 x hx 8 0 (by omega) (fun j hj=>by omega)
 exact E.congr (fun k=>zf17.eq (k 0) x) (E.bind (sSplit_E x hx) (E.ren (fun _=>0) h))
theorem rs3_true {ws:List ByteArray} {r:EvT} (h:rs3 ws=(r,true)):canon r=r∧(∃k,k<8∧wd ws 0=kindN k)∧r.2.2.2.2.1.length≤ws.length:=by
 unfold rs3 at h
 split at h
 ·rename_i q;cases h;exact ⟨rfl,⟨0,by omega,q.1⟩,Nat.zero_le _⟩
 unfold rs5 at h
 split at h
 ·rename_i q;cases h;exact ⟨rfl,⟨7,by omega,q.1⟩,Nat.zero_le _⟩
 unfold rs7 at h
 split at h
 ·rename_i q;rw[Prod.mk.injEq] at h;rw[←h.1];exact ⟨by unfold canon;rw[if_neg (by simp),if_pos rfl],⟨6,by omega,q.1⟩,Nat.zero_le _⟩
 unfold rs9 at h
 split at h
 ·rename_i q;rw[Prod.mk.injEq] at h;rw[←h.1];exact ⟨by unfold canon;rw[if_neg (by simp),if_neg (by simp),if_pos rfl],⟨5,by omega,q.1⟩,Nat.zero_le _⟩
 unfold rs11 at h
 split at h
 ·rename_i q;rw[Prod.mk.injEq] at h;rw[←h.1];exact ⟨by unfold canon;rw[if_neg (by simp),if_neg (by simp),if_neg (by simp),if_neg (by simp),if_neg (by simp)],⟨1,by omega,q.1⟩,Nat.zero_le _⟩
 unfold rs13 at h
 split at h
 ·rename_i q;rw[Prod.mk.injEq] at h;rw[←h.1];exact ⟨by unfold canon;rw[if_neg (by simp),if_neg (by simp),if_neg (by simp),if_neg (by simp),if_neg (by simp)],⟨2,by omega,q.1⟩,Nat.zero_le _⟩
 unfold rs15 at h
 split at h
 ·rename_i q;rw[Prod.mk.injEq] at h;rw[←h.1];exact ⟨by unfold canon;rw[if_neg (by simp),if_neg (by simp),if_neg (by simp),if_pos rfl],⟨4,by omega,q.1⟩,Nat.zero_le _⟩
 unfold rs17 at h
 split at h
 ·rename_i q;rw[Prod.mk.injEq] at h;rw[←h.1]
  refine ⟨by unfold canon lendR;rw[if_neg (by simp),if_neg (by simp),if_neg (by simp),if_neg (by simp),if_pos rfl],⟨3,by omega,q.1⟩,?_⟩
  show ((ws.drop 3).map (numV 9999999)).length≤_
  rw[List.length_map,List.length_drop];omega
 ·rw[Prod.mk.injEq] at h;cases h.2
theorem specParse_E (x:ByteArray) (hx:x.size<400000000):E (fun k=>zf113 (k 0) x) (parseT x):=by
 have hlen:0<(wordsT x).length:=by rw[words_length];omega
 have hcs:x.data.toList.count 32≤x.size:=by rw[ba_size];exact List.count_le_length
 have hwl:=words_length x
 have hsp:E (fun k=>zf132 (k 0) (x,32)) (wordsT x):=specSplit_E x 32 (by omega)
 have hr:=specReadE_E (words_ok hx) hlen
 refine E.congr (fun k=>zf113.eq (k 0) x) (E.bind hsp ?_)
 cases hq:rs3 (wordsT x) with
 | mk r ok=>
  rw[hq] at hr
  cases ok with
  | false=>
   have hp:parseT x=(zEvR,false):=parse_no fun e he=>by
    by_cases h:x=ByteArray.empty
    ·exact h
    ·obtain ⟨k,_,_,_,_,k2⟩:=evt_words e (by rw[he];exact h)
     rw[he,hq] at k2
     cases (Prod.mk.inj k2).2
   rw[hp]
   exact E.bind hr (E.pos rfl (E.now _))
  | true=>
   obtain ⟨g1,⟨k,g2,g3⟩,g4⟩:=rs3_true hq
   have hne:x≠ByteArray.empty:=fun h'=>by
    rw[h',words_empty] at g3
    exact kindN_ne k g2 g3.symm
   have hs:=specEvt_E r (by omega)
   refine E.bind hr (E.neg (fun h=>by cases (show false=true from h)) (E.bind hs (E.ite (fun h2=>E.now' ?_) (fun h2=>E.now' ?_))))
   ·rw[parse_yes h2 hne,g1]
   ·refine (parse_no fun e he=>?_).symm
    obtain ⟨k,_,_,_,_,k2⟩:=evt_words e (by rw[he];exact hne)
    rw[he,hq] at k2
    have k3:=(Prod.mk.inj k2).1
    exact absurd (by rw[k3,evtT_canon,he]) h2
theorem size_if {c:Prop} [Decidable c] {a b:ByteArray} {n:Nat} (h1:c→a.size≤n) (h2:¬c→b.size≤n):(if c then a else b).size≤n:=by
 by_cases h:c
 ·rw[if_pos h];exact h1 h
 ·rw[if_neg h];exact h2 h
end Go.Proofs.YtbgamdkmlikgjaaGreatDoorG
end
section
set_option linter.unusedVariables false
namespace Go.Proofs.YtbgamdkmlikgjaaGreatDoorG
open Go Go.Refl Go.Refl.Math Go.RowKit
theorem parse_small {s:ByteArray} (hs:s.size<400000000):(parseT s).1.2.2.2.2.1.length≤s.size+1∧(-1≤(parseT s).1.2.2.2.2.2.1∧(parseT s).1.2.2.2.2.2.1≤1000)∧(-1≤(parseT s).1.2.2.2.2.2.2∧(parseT s).1.2.2.2.2.2.2≤1000):=by
 rcases parse_is s with ⟨e,h1,h2,h3⟩ | ⟨h3,_⟩
 ·obtain ⟨k,k1,k2,k3,k4,_⟩:=evt_words e (by rw[h1];exact h2)
  rw[h3]
  rw[h1] at k4
  have hl:=rdT_len e.1 (wordsT s)
  rw[k4] at hl
  have hc:s.data.toList.count 32≤s.size:=by rw[ba_size];exact List.count_le_length
  have hw:=words_length s
  exact ⟨by show (canon e).2.2.2.2.1.length≤_;omega,⟨hl.2.1,hl.2.2.1⟩,⟨hl.2.2.2.1,hl.2.2.2.2⟩⟩
 ·rw[h3]
  exact ⟨Nat.zero_le _,⟨by show (-1:Int)≤0;decide,by show (0:Int)≤1000;decide⟩,⟨by show (-1:Int)≤0;decide,by show (0:Int)≤1000;decide⟩⟩
end Go.Proofs.YtbgamdkmlikgjaaGreatDoorG
end
