import Derived.ChangeArms
import Derived.ChangeOld
import Derived.ProofKit
import Derived.OpenShut
import Derived.LaidMore
import Derived.LaidLaws
import Derived.Lay
import Derived.Lib.LaidTab
import Derived.ChangeVars
import Derived.Below
import Derived.Test.YtbgamdkmlikgjaaGreatDoorB6
/- FnExactRunDesk: mathematics of the law. No condition. -/
set_option linter.unusedVariables false
set_option linter.unusedSimpArgs false
section
namespace Go.Refl
open Go Go.RowKit Go.ChangeShapes Go.WideShapes
variable {P:Program}
def chainT (P:Program) (rec:TypeId→Ty→Bool):List Field→Nat→Ty→Bool
 | [f],off,ty=>Nat.beq f.offset off&&Nat.beq (P.cellsOf f.type) ty.size&&rec f.type ty
 | f::g::fs,off,.pair a b=>Nat.beq f.offset off&&Nat.beq (P.cellsOf f.type) a.size&&rec f.type a&&chainT P rec (g::fs) (off+a.size) b
 | _,_,_=>false
def tyChk (P:Program):Nat→TypeId→Ty→Bool
 | 0,_,_=>false
 | _+1,t,.int k=>match P.underlying t with
  | some (.int k')=>decide (k'=k)
  | _=>false
 | _+1,t,.bool=>match P.underlying t with
  | some .bool=>true
  | _=>false
 | _+1,t,.str=>match P.underlying t with
  | some .string=>true
  | _=>false
 | d+1,t,.pair a b=>match P.underlying t with
  | some (.struct fs)=>Nat.beq (P.cellsOf t) (Ty.pair a b).size&&chainT P (tyChk P d) fs.toList 0 (.pair a b)
  | _=>false
 | d+1,t,.slice e=>match P.underlying t with
  | some (.slice E)=>Nat.beq (P.cellsOf E) e.size&&tyChk P d E e
  | _=>false
 | _+1,_,.err=>false
def OpnT (P:Program) (t:TypeId) (ty:Ty):Prop:=
 ∀(H:Type) (enc:TypeId × Value→H) (w:World) (spare:Nat→Bool) (held:Bool) (fuel:Nat) (cs:List Value) (x:DataW H × List MemPlace),
  DataW.trod enc P w 0 spare held fuel t cs=some x→∃a:ty.den,Rep w (fun b=>b<w.heap.size) ty a cs∧WfT ty a
theorem rows_rep {H:Type} {enc:TypeId × Value→H} {w:World} {spare:Nat→Bool} {held:Bool} {n:Nat} {E:TypeId} {e:Ty} (he:OpnT P E e) (hs:P.cellsOf E=e.size) {a:Addr} {elems:List (DataW H × List MemPlace)}:∀k,k≤elems.length →
  (∀i,i<k→(w.cells? 0 (a.add (i*P.cellsOf E)) (P.cellsOf E)).bind (DataW.trod enc P w 0 spare held n E)=elems[i]?) →
  ∃(xs:List e.den) (flat:List Value),xs.length=k∧RepL (Rep w (fun b=>b<w.heap.size) e) xs flat∧(∀j u,flat[j]?=some u→w.cell? (a.add j)=some u)∧∀y ∈ xs,WfT e y
 | 0,_,_=>⟨[],[],rfl,rfl,by simp,by simp⟩
 | k+1,hk,h=>by
  obtain ⟨xs,flat,h1,h2,h3,h4⟩:=rows_rep he hs k (by omega) (fun i hi=>h i (by omega))
  have h5:=h k (by omega)
  rw[List.getElem?_eq_getElem (by omega),Option.bind_eq_some_iff] at h5
  obtain ⟨c,h6,h7⟩:=h5
  obtain ⟨y,h8,h9⟩:=he _ _ _ _ _ _ _ _ h7
  have hf:flat.length=k*e.size:=by rw[RepL.length (fun _ _=>Rep.length e) h2,h1]
  obtain ⟨hc,q2,q3⟩:=World.cells?_some h6
  refine ⟨xs++[y],flat++c,by simp[h1],h2.append ⟨c,[],by simp,h8,rfl⟩,fun j u hj=>?_,fun z hz=>?_⟩
  ·rcases Nat.lt_or_ge j flat.length with hlt | hge
   ·rw[List.getElem?_append_left hlt] at hj
    exact h3 j u hj
   ·rw[List.getElem?_append_right hge] at hj
    have hj2:=(List.getElem?_eq_some_iff.1 hj).1
    have:=q3 (j-flat.length) (by omega)
    rw[add_add,hs,←hf,show flat.length+(j-flat.length)=j by omega] at this
    rw[this,hj]
  ·rcases List.mem_append.1 hz with hz | hz
   ·exact h4 z hz
   ·rw[List.mem_singleton.1 hz];exact h9
theorem chainT_ok {rec:TypeId→Ty→Bool} (hrec:∀t ty,rec t ty=true→OpnT P t ty) {H:Type} {enc:TypeId × Value→H} {w:World} {spare:Nat→Bool} {held:Bool} {n:Nat} {cs:List Value}:∀(fs:List Field) (off:Nat) (ty:Ty),chainT P rec fs off ty=true→cs.length=off+ty.size →
  (∀f ∈ fs,∃x,DataW.trod enc P w 0 spare held n f.type ((cs.drop f.offset).take (P.cellsOf f.type))=some x)→∃a:ty.den,Rep w (fun b=>b<w.heap.size) ty a (cs.drop off)∧WfT ty a
 | [f],off,ty,h,hl,hx=>by
  have h':(Nat.beq f.offset off&&Nat.beq (P.cellsOf f.type) ty.size&&rec f.type ty)=true:=h
  simp only[Bool.and_eq_true,Nat.beq_eq] at h'
  obtain ⟨x,hx⟩:=hx f (List.mem_singleton.2 rfl)
  rw[h'.1.1,h'.1.2,List.take_of_length_le (by rw[List.length_drop];omega)] at hx
  exact hrec _ _ h'.2 _ _ _ _ _ _ _ _ hx
 | f::g::fs,off,.pair a b,h,hl,hx=>by
  simp only[chainT,Bool.and_eq_true,Nat.beq_eq] at h
  obtain ⟨x,hx0⟩:=hx f (List.mem_cons_self ..)
  rw[h.1.1.1,h.1.1.2] at hx0
  obtain ⟨y,h1,h2⟩:=hrec _ _ h.1.2 _ _ _ _ _ _ _ _ hx0
  simp only[Ty.size] at hl
  obtain ⟨z,h3,h4⟩:=chainT_ok hrec (g::fs) (off+a.size) b h.2 (by omega) (fun f' hf'=>hx f' (List.mem_cons_of_mem _ hf'))
  refine ⟨(y,z),⟨_,_,?_,h1,h3⟩,h2,h4⟩
  rw[←List.drop_drop,List.take_append_drop]
 | [],_,_,h,_,_=>by simp[chainT] at h
 | f::g::fs,_,.int _,h,_,_=>by simp[chainT] at h
 | f::g::fs,_,.bool,h,_,_=>by simp[chainT] at h
 | f::g::fs,_,.str,h,_,_=>by simp[chainT] at h
 | f::g::fs,_,.slice _,h,_,_=>by simp[chainT] at h
 | f::g::fs,_,.err,h,_,_=>by simp[chainT] at h
theorem tyChk_ok:∀(d:Nat) (t:TypeId) (ty:Ty),tyChk P d t ty=true→OpnT P t ty
 | 0,_,_,h=>by cases h
 | d+1,t,.int k,h=>by
  simp only[tyChk] at h
  split at h
  ·rename_i k' hk
   have:=of_decide_eq_true h
   subst this
   intro H enc w spare held fuel cs x hx
   obtain ⟨m,rfl,_,hw⟩:=DataW.trod_int hk hx
   exact ⟨m,rfl,hw⟩
  ·cases h
 | d+1,t,.bool,h=>by
  simp only[tyChk] at h
  split at h
  ·rename_i hk
   intro H enc w spare held fuel cs x hx
   obtain ⟨m,rfl,_⟩:=DataW.trod_bool hk hx
   exact ⟨m,rfl,trivial⟩
  ·cases h
 | d+1,t,.str,h=>by
  simp only[tyChk] at h
  split at h
  ·rename_i hk
   intro H enc w spare held fuel cs x hx
   obtain ⟨m,rfl,_,hw⟩:=DataW.trod_string hk hx
   exact ⟨m,rfl,hw⟩
  ·cases h
 | d+1,t,.pair a b,h=>by
  simp only[tyChk] at h
  split at h
  ·rename_i fs hk
   rw[Bool.and_eq_true,Nat.beq_eq] at h
   intro H enc w spare held fuel cs x hx
   obtain ⟨xs,n,_,_,hl,hn,hi⟩:=DataW.trod_struct hk hx
   have:=chainT_ok (P:=P) (cs:=cs) (n:=n) (enc:=enc) (w:=w) (spare:=spare) (held:=held) (tyChk_ok d) fs.toList 0 (.pair a b) h.2 (by omega) (fun f hf=>by
    obtain ⟨i,hi',rfl⟩:=List.getElem_of_mem hf
    have hi2:i<fs.size:=by simpa using hi'
    refine ⟨xs[i]'(by omega),?_⟩
    rw[hi i _ (by simp[hi2]),List.getElem?_eq_getElem])
   simpa using this
  ·cases h
 | d+1,t,.slice e,h=>by
  simp only[tyChk] at h
  split at h
  ·rename_i E hk
   rw[Bool.and_eq_true,Nat.beq_eq] at h
   intro H enc w spare held fuel cs x hx
   rcases DataW.trod_slice hk hx with ⟨rfl,_⟩ | ⟨a,len,cap,elems,rest,n,_,rfl,_,_,hl,hm,hlen,hel,_,_⟩
   ·exact ⟨[],⟨none,0,[],rfl,Nat.le_refl _,fun _=>rfl,rfl,fun h=>absurd rfl h⟩,by simp,by simp⟩
   ·obtain ⟨xs,flat,h1,h2,h3,h4⟩:=rows_rep (tyChk_ok d E e h.2) h.1 (a:=a) (elems:=elems) len (by omega) hel
    refine ⟨xs,⟨some a,cap,flat,by rw[h1],by omega,(fun h=>by cases h),h2,fun hn=>⟨a,rfl,?_,h3⟩⟩,by omega,h4⟩
    cases hz:flat with
    | nil=>exact absurd hz hn
    | cons u us=>
     have:=cell_lt (h3 0 u (by rw[hz];rfl))
     rwa [add_block] at this
  ·cases h
 | d+1,t,.err,h=>by cases h
theorem opensT {H:Type} {enc:TypeId × Value→H} {w:World} {spare:Nat→Bool} {held:Bool} {v:Value} {d:DataW H} {ps:List MemPlace} {t:TypeId} {ty:Ty} (n:Nat) (h:tyChk P n t ty=true) (hv:DataW.Trod enc P w 0 spare held t v d ps) :
  ∃a:ty.den,Rep w (fun b=>b<w.heap.size) ty a v.cells.toList∧WfT ty a:=by
 obtain ⟨m,hm⟩:=hv
 exact tyChk_ok n t ty h _ _ _ _ _ _ _ _ hm
theorem law_calls2 {gl:List (Nat × GItem)} {f:Nat} {ps:List Pm} {run:pdens ps→Option (dens ([.v .bool]++outs ps))} (h:FC P gl f ⟨ps,[.v .bool],run⟩) {x:pdens ps} {y:dens ([.v .bool]++outs ps)} (hy:run x=some y) (hb:(splitD [.v .bool] (outs ps) y).1=true)
  {W:World} (hgl:GlRep W (fun b=>b<W.heap.size) gl) {vs:List Value} (hx:PsRep W (fun b=>b<W.heap.size) ps x vs [] []):Calls P f vs.toArray W fun e w'=>e=.returned (.bool true)∧Below W.heap.size W w':=by
 refine (h x y hy W (fun b=>b<W.heap.size) vs [] [] hgl hx List.nodup_nil (by simp) (fun b h=>h)).mono fun e w' h=>?_
 obtain ⟨rs,F',b1,b2,h1,h2,_,_,_,_,_,h8⟩:=h
 refine ⟨?_,h8.below⟩
 obtain ⟨cs,rfl,_,h2⟩:=h2
 have h2':cs=[.bool (splitD [.v .bool] (outs ps) y).1]:=h2
 rw[hb] at h2'
 subst h2'
 exact h1
end Go.Refl
end
section
namespace Go.Refl
open Go Go.RowKit Go.ChangeShapes Go.WideShapes
variable {P:Program}
def GlOne (w:World) (F:Nat→Prop) (q:Nat × GItem):Prop:=F q.1∧match q.2 with
 | .row v=>∃flat T fz,w.heap[q.1]?=some (.cells flat T fz)∧RepL (Rep w F v.e) v.xs flat.toList
 | .iface=>∃T fz t x,w.heap[q.1]?=some (.cells #[.iface t x] T fz)
theorem glRep_of {w:World} {F:Nat→Prop} {gl:List (Nat × GItem)} (h:∀p ∈ gl,GlOne w F p):GlRep w F gl:=fun p hp=>by
 obtain ⟨h1,h2⟩:=h p hp
 refine ⟨h1,?_⟩
 cases hq:p.2 with
 | row v=>rw[hq] at h2;exact h2
 | iface=>rw[hq] at h2;exact h2
theorem laid_mem {w:World}:∀{l:List (String × DataW Unit)} {ps:List MemPlace},DataW.LaidVars P w l ps→∀x ∈ l,∃g t cs fuel p,P.globalNamed x.1=some g∧(P.globals[g]?).map (·.type)=some t∧w.var? P x.1=some cs∧DataW.trod (fun _=>()) P w 0 (fun _=>true) false fuel t cs.toList=some (x.2,p)
 | [],_,_,x,hx=>by cases hx
 | (n,d)::r,ps,h,x,hx=>by
  obtain ⟨g,t,cs,fuel,p,q,h1,h2,h3,h4,h5,_⟩:=h
  rcases List.mem_cons.1 hx with rfl | hx
  ·exact ⟨g,t,cs,fuel,p,h1,h2,h3,h4⟩
  ·exact laid_mem h5 x hx
theorem var_heap {w:World} {name:String} {g:Nat} {cs:Array Value} (hg:P.globalNamed name=some g) (h:w.var? P name=some cs):g<w.heap.size∧∃T fz,w.heap[g]?=some (.cells cs T fz):=by
 simp only[World.var?,hg,Option.bind_some] at h
 split at h
 ·rename_i c T fz hh
  cases h
  refine ⟨?_,T,fz,hh⟩
  rcases Nat.lt_or_ge g w.heap.size with h1 | h1
  ·exact h1
  ·rw[Array.getElem?_eq_none h1] at hh;cases hh
 ·cases h
theorem gl_ints {w:World} {l:List (String × DataW Unit)} {name:String} {g t e n:Nat} {k:IntKind} {zs:List Int} (hl:laidMet P l w) (hm:(name,Lib.tabData k zs) ∈ l) (hg:P.globalNamed name=some g) (ht:(P.globals[g]?).map (·.type)=some t)
  (hu:P.underlying t=some (.array n e)) (he:P.underlying e=some (.int k)) (hce:P.cellsOf e=1) (hct:P.cellsOf t=n):GlOne w (fun b=>b<w.heap.size) (g,.row ⟨.int k,zs⟩):=by
 obtain ⟨ps,hL,_⟩:=hl
 obtain ⟨g',t',cs,fuel,p,h1,h2,h3,h4⟩:=laid_mem hL _ hm
 obtain rfl:=Option.some.inj (hg.symm.trans h1)
 obtain rfl:=Option.some.inj (ht.symm.trans h2)
 obtain ⟨h5,T,fz,h6⟩:=var_heap hg h3
 refine ⟨h5,cs,T,fz,h6,?_⟩
 rw[Lib.cells_of_tab hu he hce hct h4]
 exact RepL.map (R:=Rep w _ (.int k)) (f:=Value.int k) (fun _=>rfl) _
theorem gl_iface {w:World} {l:List (String × DataW Unit)} {name n:String} {d:DataW Unit} {g t:Nat} {ms:Array (String × TypeId)} (hl:laidMet P l w) (hm:(name,DataW.iface n d) ∈ l) (hg:P.globalNamed name=some g) (ht:(P.globals[g]?).map (·.type)=some t)
  (hu:P.underlying t=some (.interface ms)):GlOne w (fun b=>b<w.heap.size) (g,.iface):=by
 obtain ⟨ps,hL,_⟩:=hl
 obtain ⟨g',t',cs,fuel,p,h1,h2,h3,h4⟩:=laid_mem hL _ hm
 obtain rfl:=Option.some.inj (hg.symm.trans h1)
 obtain rfl:=Option.some.inj (ht.symm.trans h2)
 obtain ⟨h5,T,fz,h6⟩:=var_heap hg h3
 obtain ⟨_,u,v,hc,_⟩:=iface_of_trod hu h4
 refine ⟨h5,T,fz,u,v,?_⟩
 rw[h6]
 have:cs=#[.iface u v]:=by cases cs;simp_all
 rw[this]
def textData (ss:List ByteArray):DataW Unit:=.agg (ss.map fun s=>.lit (.string s.data.toList))
theorem gl_texts {w:World} {l:List (String × DataW Unit)} {name:String} {g t e n:Nat} {ss:List ByteArray} (hl:laidMet P l w) (hm:(name,textData ss) ∈ l) (hg:P.globalNamed name=some g) (ht:(P.globals[g]?).map (·.type)=some t)
  (hu:P.underlying t=some (.array n e)) (he:P.underlying e=some .string) (hce:P.cellsOf e=1) (hct:P.cellsOf t=n):GlOne w (fun b=>b<w.heap.size) (g,.row ⟨.str,ss⟩):=by
 obtain ⟨ps,hL,_⟩:=hl
 obtain ⟨g',t',cs,fuel,p,h1,h2,h3,h4⟩:=laid_mem hL _ hm
 obtain rfl:=Option.some.inj (hg.symm.trans h1)
 obtain rfl:=Option.some.inj (ht.symm.trans h2)
 obtain ⟨h5,T,fz,h6⟩:=var_heap hg h3
 refine ⟨h5,cs,T,fz,h6,?_⟩
 obtain ⟨xs,m,_,ex,hlen,hx,hel⟩:=DataW.trod_array hu h4
 have e3:xs.map (·.1)=ss.map fun s=>.lit (.string s.data.toList):=(DataW.agg.inj (Prod.mk.inj ex).1).symm
 have hsl:ss.length=n:=by
  have:=congrArg List.length e3
  simpa [hx] using this.symm
 have hcs:cs.toList=ss.map Value.string:=by
  apply List.ext_getElem?
  intro i
  by_cases hi:i<n
  ·have h7:=hel i hi
   rw[hce,Nat.mul_one,List.getElem?_eq_getElem (by omega)] at h7
   obtain ⟨s,e1,e2,_⟩:=DataW.trod_string he h7
   have e4:(xs.map (·.1))[i]?=(ss.map fun s=>(DataW.lit (.string s.data.toList):DataW Unit))[i]?:=by rw[e3]
   rw[List.getElem?_map,List.getElem?_map,List.getElem?_eq_getElem (by omega:i<xs.length),List.getElem?_eq_getElem (by omega:i<ss.length),e2] at e4
   simp only[Option.map_some,Option.some.injEq,DataW.lit.injEq,Lit.string.injEq] at e4
   have e5:s=ss[i]'(by omega):=ByteArray.ext (Array.toList_inj.1 e4)
   have h0:((cs.toList.drop i).take 1)[0]?=some (.string s):=by rw[e1];rfl
   have h8:cs.toList[i]?=some (.string s):=by simpa using h0
   rw[h8,List.getElem?_map,List.getElem?_eq_getElem (by omega:i<ss.length),e5]
   rfl
  ·rw[List.getElem?_eq_none (by omega),List.getElem?_eq_none (by simp;omega)]
 rw[hcs]
 exact RepL.map (R:=Rep w _ .str) (f:=Value.string) (fun _=>rfl) _
theorem vars_stay {H:Type} {enc:TypeId × Value→H} (hl:laidOutB P=true) {W W':World} {n:String} {gs:List (DataW H)} {ps:List MemPlace} {g t:Nat} (hg:P.globalNamed n=some g) (ht:(P.globals[g]?).map (·.type)=some t) (hr:P.readableRec t=true) (hrow:t<P.types.size)
  (h:DataW.TrodVars enc P W (fun _=>true) [n] gs ps) (hb:Below W.heap.size W W'):DataW.TrodVars enc P W' (fun b=>decide (b<W.heap.size)) [n] gs ps:=by
 obtain ⟨g',t',cs,fuel,d,p,rfl,h1,h2,h3,h4,rfl⟩:=trodVars_one h
 obtain rfl:=Option.some.inj (hg.symm.trans h1)
 obtain rfl:=Option.some.inj (ht.symm.trans h2)
 obtain ⟨hlt,T,fz,hh⟩:=var_heap hg h3
 have k:DataW.Trod enc P W 0 (fun _=>true) true t (.agg cs) d p:=⟨fuel,h4⟩
 obtain ⟨m,hm⟩:=Below.trod hl hr hrow k hb (DataW.trod_lt _ _ _ _ h4)
 refine trodVars_mk1 hg ht ?_ hm
 simp only[World.var?,hg,Option.bind_some,hb.block g hlt,hh]
end Go.Refl
end
