import Derived.Test.YtmnmbjnhhhdegaaGreatDoorB5
/- FnFormatBookCrash: mathematics of the law. No condition. -/
set_option linter.unusedVariables false
set_option linter.unusedSimpArgs false
section
set_option linter.unusedVariables false
namespace Go.Proofs.YtmnmbjnhhhdegaaGreatDoorG
open Go Go.Refl Go.Refl.Math Go.RowKit
theorem takeFrom_E (n : Nat) (st : Nat → Int) (m : Nat) (a : Int) (hm : m < n) (hst : Bd st) (ha : 0 ≤ a ∧ a ≤ 100001) :
  E (fun k => zf40 (k 0) (tab n st, (m : Int), a)) (a - mn (st m) a, tab n (tk st m a)) := by
 have h := hst m
 have h2 := mn_le (st m) a
 have h3 := mn_nn h.1 ha.1
 refine E.congr (fun k => zf40.eq (k 0) ..) ?_
 simp only [Int.toNat_natCast, tab_length, tab_get _ hm]
 (repeat first | (with_reducible refine E.pos ?_ ?_; · omega) | (with_reducible refine E.neg ?_ ?_; · omega))
 rw [wrap_id (x := a - mn (st m) a) (by omega) (by omega), wrap_id (x := st m - mn (st m) a) (by omega) (by omega), tk_set]
 exact E.now _
theorem failOne_l5 (n : Nat) (hn : n ≤ 12) (gs : List Int) (s st : Nat → Int) (b a : Int) (hgl : gs.length ≤ 12) (hst : Bd st) (hs : ∀ i, 0 ≤ s i ∧ s i ≤ 100001) (hg : ∀ g ∈ gs, 0 ≤ g ∧ g ≤ (n : Int) - 1) : ∀ (d i : Nat), i + d = gs.length →
  E (fun k => zf32.l5 (k 0) (k 1) (failN gs s (st, 0, []) i).2.1 (gs.length : Int) (i : Int) (tab n (failN gs s (st, 0, []) i).1) b a gs (failN gs s (st, 0, []) i).2.2 (tab gs.length s))
   ((failN gs s (st, 0, []) gs.length).2.1, (failN gs s (st, 0, []) gs.length).2.2, tab n (failN gs s (st, 0, []) gs.length).1)
 | 0, i, hi => by
  refine E.step 1 (fun v w h1 h2 => by rewrite [h1, h2 0 (by decide)]; exact zf32.l5_succ ..) ?_
  exact E.neg (by omega) (E.now' (by rw [show i = gs.length by omega]))
 | d + 1, i, hi => by
  have ih := failOne_l5 n hn gs s st b a hgl hst hs hg d (i + 1) (by omega)
  have inv := failN_inv (n := n) hst hs hg i (by omega)
  have hsi := hs i
  have hgi : gs.getD i 0 ∈ gs := getD_mem 0 (by omega)
  have hgb := hg _ hgi
  obtain ⟨g, hge⟩ : ∃ g : Nat, gs.getD i 0 = g := ⟨(gs.getD i 0).toNat, by omega⟩
  have hm := mn_le ((failN gs s (st, 0, []) i).1 g) (s i)
  have hil : i < gs.length := by omega
  have hgn : g < n := by omega
  have hb := inv.bd g
  have h3 := mn_nn hb.1 hsi.1
  have hls := inv.ls
  refine E.step 1 (fun v w h1 h2 => by rewrite [h1, h2 0 (by decide)]; exact zf32.l5_succ ..) ?_
  simp only [Int.toNat_natCast, hge, tab_length, tab_get _ hil, set_one]
  (repeat first | (with_reducible refine E.pos ?_ ?_; · omega) | (with_reducible refine E.neg ?_ ?_; · omega))
  rw [wrap_nat (by omega)]
  refine E.bind (takeFrom_E n _ g (s i) (by omega) inv.bd hsi) ?_
  simp only [failN, fstep, hge, Int.toNat_natCast] at ih
  refine E.ite (fun h => ?_) (fun h => ?_)
  ·simp only at h
   (repeat first | (with_reducible refine E.pos ?_ ?_; · omega) | (with_reducible refine E.neg ?_ ?_; · omega))
   refine E.pos (by have := inv.ln; simp [maxN]; omega) ?_
   rw [if_pos (by omega)] at ih
   rw [wrap_id (by simp only; omega) (by simp only; omega)]
   exact ih
  ·simp only at h
   rw [if_neg (by omega), show s i - mn ((failN gs s (st, 0, []) i).1 g) (s i) = 0 by omega, Int.add_zero] at ih
   exact ih
theorem failOne_E (n : Nat) (hn : n ≤ 12) (st : Nat → Int) (l : Ln) (hst : Bd st) (hv : vL l n = true) :
  E (fun k => zf32 (k 0) (tab n st, l)) ((failM st l).2.1, (failM st l).2.2, tab n (failM st l).1) := by
 have hw := vL_iff.1 hv
 obtain ⟨b, hb⟩ : ∃ b : Nat, l.1 = b := ⟨l.1.toNat, by omega⟩
 have hl := lack_bd hst hv
 have hbt : l.1.toNat = b := by omega
 have e : lack st l = l.2.1 - mn (st b) l.2.1 := by unfold lack; rw [hbt]
 refine E.congr (fun k => zf32.eq (k 0) ..) ?_
 have ht := takeFrom_E n st b l.2.1 (by omega) hst (by omega)
 rw [← hb] at ht
 refine E.bind ht ?_
 rw [← e]
 refine E.bind (splitEven_E (lack st l) l.2.2.length hl.1 (by omega) (by omega) (by omega)) ?_
 rw [tab_length]
 have := failOne_l5 n hn l.2.2 (prt (lack st l) l.2.2.length) (tk st b l.2.1) l.1 l.2.1 (by omega) (tk_bd hst _ (by omega)) (spl_bd2 hl.1 hl.2 (by omega)) hw.2.1.2.1 l.2.2.length 0 (by omega)
 unfold failM
 rw [hbt]
 exact E.ren (fun _ => 0) this
theorem implCascade_l16 (n : Nat) (ls : List Ln) (st : Nat → Int) (loss : Int) (F : List Int) (next i : Int) (r : List Int × Int × List Int) (un : List Int) (hF : F.length ≤ 100) (hul : un.length ≤ 12)
  (nx : E (fun k => zf3.l10 (k 0) (k 1) (k 2) ls loss next ls (ls.length : Int) (i + 1) (tab n st) (addNew F un)) r) (hi : 0 ≤ i ∧ i ≤ 1000) : ∀ (post pre : List Int), pre ++ post = un → (addNew F pre).length ≤ 100 + pre.length →
  E (fun k => zf3.l16 (k 0) (k 1) (k 2) (k 3) ls loss next ls (ls.length : Int) i (un.length : Int) (pre.length : Int) (tab n st) (addNew F pre) un) r
 | [], pre, e, _ => by
  have e2 : pre = un := by simpa using e
  refine E.step 3 (fun v w h1 h2 => by rewrite [h1, h2 0 (by decide), h2 1 (by decide), h2 2 (by decide)]; exact zf3.l16_succ ..) ?_
  refine E.neg (by rw [e2]; omega) ?_
  rw [wrap_id (x := i + 1) (by omega) (by omega), e2]
  exact nx
 | g :: post, pre, e, hp => by
  have ih := implCascade_l16 n ls st loss F next i r un hF hul nx hi post (pre ++ [g]) (by simpa using e) (by rw [addNew_snoc]; split <;> simp <;> omega)
  rw [show (pre ++ [g]).length = pre.length + 1 from by simp, addNew_snoc] at ih
  have hpl : pre.length < un.length := by rw [← e]; simp
  have hg : un.getD pre.length 0 = g := by rw [← e]; exact getD_mid ..
  refine E.step 3 (fun v w h1 h2 => by rewrite [h1, h2 0 (by decide), h2 1 (by decide), h2 2 (by decide)]; exact zf3.l16_succ ..) ?_
  simp only [Int.toNat_natCast, hg, set_one]
  (repeat first | (with_reducible refine E.pos ?_ ?_; · omega) | (with_reducible refine E.neg ?_ ?_; · omega))
  rw [wrap_nat (by omega)]
  refine E.bind (contains_E _ _ (by omega)) (E.ite (fun h => E.pos (by simp [maxN]; omega) ?_) (fun h => ?_))
  ·rw [if_neg (by simpa using h)] at ih; exact ih
  ·rw [if_pos (by simpa using h)] at ih; exact ih
theorem implCascade_l10 (n : Nat) (hn : n ≤ 12) (ls : List Ln) (hll : ls.length ≤ 16) (hv : ∀ l ∈ ls, vL l n = true) (first : Int) (st0 : Nat → Int) (next : Nat) (f : Int) (r : List Int × Int × List Int) : ∀ (post pre : List Ln) (A : Int) (S : CS), pre ++ post = ls → CInv n first st0 A S → A + 100000 * post.length ≤ 40000000 → next < S.2.2.length → S.2.2.getD next 0 = f →
  E (fun k => zf3.l7 (k 0) (k 1) ls (proc f S post).2.1 ((next + 1 : Nat) : Int) (tab n (proc f S post).1) (proc f S post).2.2) r →
  E (fun k => zf3.l10 (k 0) (k 1) (k 2) ls S.2.1 (next : Int) ls (ls.length : Int) (pre.length : Int) (tab n S.1) S.2.2) r
 | [], pre, A, S, e, h, _, hnx, hf, nx => by
  have := h.len
  refine E.step 2 (fun v w h1 h2 => by rewrite [h1, h2 0 (by decide), h2 1 (by decide)]; exact zf3.l10_succ ..) ?_
  refine E.neg (by rw [← e]; simp) ?_
  rw [wrap_nat (by omega)]
  exact nx
 | l :: post, pre, A, S, e, h, hA, hnx, hf, nx => by
  have hpl : pre.length < ls.length := by rw [← e]; simp
  have hvl := hv l (by rw [← e]; simp)
  have hw := vL_iff.1 hvl
  have hlen := h.len
  obtain ⟨h2, t, ht⟩ := cstep_pre f S l hn h hvl
  simp only [List.length_cons] at hA
  have ih := implCascade_l10 n hn ls hll hv first st0 next f r post (pre ++ [l]) _ (cstep f S l) (by simpa using e) h2 (by split <;> omega) (by rw [ht]; simp; omega) (by rw [ht, getD_append hnx]; exact hf) nx
  rw [show (pre ++ [l]).length = pre.length + 1 from by simp] at ih
  have hld : ls.getD pre.length (0, 0, []) = l := by rw [← e]; exact getD_mid ..
  refine E.step 2 (fun v w h1 h2 => by rewrite [h1, h2 0 (by decide), h2 1 (by decide)]; exact zf3.l10_succ ..) ?_
  simp only [Int.toNat_natCast, hld, hf]
  (repeat first | (with_reducible refine E.pos ?_ ?_; · omega) | (with_reducible refine E.neg ?_ ?_; · omega))
  rw [wrap_nat (by omega)]
  refine E.ite (fun hb => ?_) (fun hb => ?_)
  ·have m := failM_inv hn h.bd hvl
   have hmsm := m.sm
   have hle := sumN_le m.le n
   have hls := m.ls
   have hsl := h.ls
   refine E.bind (failOne_E n hn S.1 l h.bd hvl) ?_
   simp only
   rw [wrap_id (x := S.2.1 + (failM S.1 l).2.1) (by omega) (by omega)]
   unfold cstep at ih
   rw [if_pos hb] at ih
   exact E.ren (fun i => if i = 3 then 0 else i) (implCascade_l16 n ls _ _ S.2.2 next _ r (failM S.1 l).2.2 (by omega) m.ln ih (by omega) (failM S.1 l).2.2 [] rfl (by simp [addNew]; omega))
  ·unfold cstep at ih
   rw [if_neg hb] at ih
   exact ih
theorem implCascade_l7 (n : Nat) (hn : n ≤ 12) (ls : List Ln) (hll : ls.length ≤ 16) (hv : ∀ l ∈ ls, vL l n = true) (first : Int) (st0 : Nat → Int) : ∀ (d i : Nat) (S : CS), i + d = n → i ≤ S.2.2.length → CInv n first st0 (amtS (S.2.2.take i) ls) S →
  E (fun k => zf3.l7 (k 0) (k 1) ls S.2.1 (i : Int) (tab n S.1) S.2.2) (tab n (run ls d i S).1, (run ls d i S).2.1, (run ls d i S).2.2)
 | 0, i, S, hi, hle, h => by
  have := h.len
  refine E.step 1 (fun v w h1 h2 => by rewrite [h1, h2 0 (by decide)]; exact zf3.l7_succ ..) ?_
  exact E.neg (by omega) (E.now _)
 | d + 1, i, S, hi, hle, h => by
  have hlen := h.len
  unfold run
  refine E.step 1 (fun v w h1 h2 => by rewrite [h1, h2 0 (by decide)]; exact zf3.l7_succ ..) ?_
  by_cases hlt : i < S.2.2.length
  ·rw [if_pos hlt]
   obtain ⟨h2, t, e⟩ := proc_inv (S.2.2.getD i 0) hn ls _ _ h hv
   have hg : S.2.2.getD i 0 = S.2.2[i] := by simp [List.getD_eq_getElem?_getD, hlt]
   have hnm : S.2.2.getD i 0 ∉ S.2.2.take i := by
    intro hm
    have hp := h.nd
    rw [← List.take_append_drop i S.2.2, List.nodup_append] at hp
    refine hp.2.2 _ hm (S.2.2.getD i 0) ?_ rfl
    rw [hg, List.drop_eq_getElem_cons hlt]
    exact List.mem_cons_self ..
   have hb := amtS_bd (F := S.2.2.take i) hv
   have ih := implCascade_l7 n hn ls hll hv first st0 d (i + 1) (proc (S.2.2.getD i 0) S ls) (by omega) (by rw [e]; simp; omega) (by
    rw [e, List.take_append_of_le_length (by omega), List.take_succ_eq_append_getElem hlt, ← hg, amtS_snoc hnm]
    exact h2)
   refine E.pos (by omega) ?_
   exact E.ren (fun i => if i = 2 then 0 else i) (implCascade_l10 n hn ls hll hv first st0 i (S.2.2.getD i 0) _ ls [] _ S rfl h (by omega) hlt rfl ih)
  ·rw [if_neg hlt]
   exact E.neg (by omega) (E.now _)
theorem implCascade_E (st : List Int) (ls : List Ln) (a : Int) : E (fun k => zf3 (k 0) (st, ls, a)) (casM st ls a) := by
 refine E.congr (fun k => zf3.eq (k 0) ..) (E.bind (implValidStakes_E st) (E.ite (fun h => E.now' ?_) fun h => E.bind (implValidLoans_E ls _) (E.ite (fun h2 => E.now' ?_) fun h2 => E.ite (fun h3 => E.now' ?_) fun h3 => E.ite (fun h4 => E.now' ?_) fun h4 => ?_)))
 ·simp only [Bool.not_eq_true'] at h
  unfold casM
  rw [h, Bool.false_and, Bool.false_and]; rfl
 ·simp only [Bool.not_eq_true'] at h2
  unfold casM
  rw [h2, Bool.and_false, Bool.false_and]; rfl
 ·unfold casM
  rw [decide_eq_false (by omega), Bool.and_false]; rfl
 ·unfold casM
  rw [decide_eq_false (by omega), Bool.and_false]; rfl
 ·simp only [Bool.not_eq_true', Bool.not_eq_false] at h h2
  have hs2 := vS_iff.1 h
  have hw := vLs_iff.1 h2
  rw [casM_pos h h2 (by omega)]
  refine E.bind (clone_E st (by omega)) ?_
  have := implCascade_l7 st.length (by omega) ls hw.1.1 hw.2 a (stF st) st.length 0 (stF st, 0, [a]) (by omega) (by simp) (start_inv ls (by omega) (stF_bd h))
  simp only at this
  rw [show tab st.length (stF st) = st from (tab_of st).symm] at this
  exact E.ren (fun _ => 0) this
end Go.Proofs.YtmnmbjnhhhdegaaGreatDoorG
end
section
set_option linter.unusedVariables false
namespace Go.Proofs.YtmnmbjnhhhdegaaGreatDoorG
open Go Go.Refl Go.Refl.Math Go.RowKit
theorem isFailed_E (l : Ln) (F : List Int) (hF : F.length ≤ 1000) : E (fun k => zf6 (k 0) (l, F)) (decide (l.1 ∈ F)) :=
 E.congr (fun k => zf6.eq (k 0) ..) (E.bind (contains_E F l.1 (by omega)) (E.now _))
theorem indexFunc_l2 (F : List Int) (hF : F.length ≤ 1000) : ∀ (post pre : List Ln), (pre ++ post).length ≤ 1000000 → (∀ l ∈ pre, l.1 ∉ F) →
  ∃ r, E (fun k => zf64.l2 (k 0) (k 1) (pre ++ post) [F] ((pre ++ post).length : Int) (pre.length : Int)) r ∧
   ((r = -1 ∧ ∀ l ∈ pre ++ post, l.1 ∉ F) ∨ ∃ p x q, pre ++ post = p ++ x :: q ∧ r = (p.length : Int) ∧ x.1 ∈ F ∧ ∀ l ∈ p, l.1 ∉ F)
 | [], pre, hl, hp => by
  refine ⟨-1, ?_, .inl ⟨rfl, by simpa using hp⟩⟩
  refine E.step 1 (fun v w h1 h2 => by rewrite [h1, h2 0 (by decide)]; exact zf64.l2_succ ..) ?_
  exact E.neg (by simp) (E.now _)
 | x :: post, pre, hl, hp => by
  have hlen : (pre ++ x :: post).length = pre.length + (post.length + 1) := by simp
  have hx := isFailed_E x F hF
  by_cases h : x.1 ∈ F
  ·refine ⟨pre.length, ?_, .inr ⟨pre, x, post, rfl, rfl, h, hp⟩⟩
   refine E.step 1 (fun v w h1 h2 => by rewrite [h1, h2 0 (by decide)]; exact zf64.l2_succ ..) ?_
   simp only [Int.toNat_natCast, getD_mid]
   (repeat first | (with_reducible refine E.pos ?_ ?_; · omega) | (with_reducible refine E.neg ?_ ?_; · omega))
   exact E.bind hx (E.pos (by simpa using h) (E.now _))
  ·obtain ⟨r, hr, hc⟩ := indexFunc_l2 F hF post (pre ++ [x]) (by simpa using hl) (fun l hm => by
    rcases List.mem_append.1 hm with h1 | h1
    ·exact hp l h1
    ·simp at h1; subst h1; exact h)
   rw [show (pre ++ [x]).length = pre.length + 1 from by simp, List.append_assoc] at hr
   simp only [List.append_assoc, List.cons_append, List.nil_append] at hc hr
   refine ⟨r, ?_, hc⟩
   refine E.step 1 (fun v w h1 h2 => by rewrite [h1, h2 0 (by decide)]; exact zf64.l2_succ ..) ?_
   simp only [Int.toNat_natCast, getD_mid]
   (repeat first | (with_reducible refine E.pos ?_ ?_; · omega) | (with_reducible refine E.neg ?_ ?_; · omega))
   refine E.bind hx (E.neg (by simpa using h) ?_)
   rw [wrap_nat (by omega)]
   exact hr
theorem deleteFunc_l5 (F : List Int) (hF : F.length ≤ 1000) : ∀ (post kept : List Ln) (y : Ln) (junk : List Ln), (kept ++ y :: junk ++ post).length ≤ 1000000 →
  E (fun k => zf62.l5 (k 0) (k 1) [F] (kept.length : Int) ((kept ++ y :: junk).length : Int) (kept ++ y :: junk ++ post)) (kept ++ leftL F post)
 | [], kept, y, junk, hl => by
  have hlen : (kept ++ y :: junk ++ []).length = kept.length + (junk.length + 1) := by simp
  refine E.step 1 (fun v w h1 h2 => by rewrite [h1, h2 0 (by decide)]; exact zf62.l5_succ ..) ?_
  refine E.neg (by simp) ?_
  simp only [Int.toNat_natCast, Nat.sub_zero]
  have e1 : List.take kept.length (kept ++ y :: junk ++ []) = kept := by simp
  rw [e1]
  refine E.pos (by omega) (E.pos (by omega) (E.pos (by omega) (E.pos (by simp; omega) (E.now' ?_))))
  rw [List.append_assoc, List.take_left]
  simp [leftL]
 | x :: post, kept, y, junk, hl => by
  have hlen : (kept ++ y :: junk ++ x :: post).length = kept.length + (junk.length + 1) + (post.length + 1) := by simp; omega
  have hlen2 : (kept ++ y :: junk).length = kept.length + (junk.length + 1) := by simp
  have hx := isFailed_E x F hF
  have hg : (kept ++ y :: junk ++ x :: post).getD (kept ++ y :: junk).length (0, 0, []) = x := getD_mid ..
  refine E.step 1 (fun v w h1 h2 => by rewrite [h1, h2 0 (by decide)]; exact zf62.l5_succ ..) ?_
  simp only [Int.toNat_natCast, hg]
  refine E.pos (by omega) (E.pos (by omega) (E.pos (by omega) (E.bind hx (E.ite (fun h => ?_) (fun h => ?_)))))
  ·have hn : x.1 ∉ F := by simpa using h
   refine E.pos (by omega) (E.pos (by omega) ?_)
   have hset : (kept ++ y :: junk ++ x :: post).set kept.length x = (kept ++ x :: junk) ++ x :: post := by simp
   rw [hset, wrap_nat (by omega), wrap_nat (by omega)]
   have el : leftL F (x :: post) = x :: leftL F post := by simp [leftL, hn]
   rw [el]
   cases junk with
   | nil =>
    have ih := deleteFunc_l5 F hF post (kept ++ [x]) x [] (by simp at hl ⊢; omega)
    simp only [List.append_assoc, List.cons_append, List.nil_append, List.length_append, List.length_cons, List.length_nil, Nat.zero_add] at ih ⊢
    exact ih
   | cons z junk =>
    have ih := deleteFunc_l5 F hF post (kept ++ [x]) z (junk ++ [x]) (by simp at hl ⊢; omega)
    simp only [List.append_assoc, List.cons_append, List.nil_append, List.length_append, List.length_cons, List.length_nil, Nat.zero_add] at ih ⊢
    first | exact ih | (rw [show kept.length + (1 + (junk.length + 1 + 1)) = kept.length + (junk.length + 1 + 1 + 1) by omega]; exact ih) | (rw [show kept.length + (junk.length + 1 + 1) + 1 = kept.length + (junk.length + 1 + 1 + 1) by omega]; exact ih)
  ·have hn : x.1 ∈ F := by simpa using h
   have ih := deleteFunc_l5 F hF post kept y (junk ++ [x]) (by simp at hl ⊢; omega)
   rw [wrap_nat (by omega)]
   have el : leftL F (x :: post) = leftL F post := by simp [leftL, hn]
   rw [el]
   simp only [List.append_assoc, List.cons_append, List.nil_append, List.length_append, List.length_cons, List.length_nil, Nat.zero_add] at ih ⊢
   exact ih
theorem leftL_none {F : List Int} {ls : List Ln} (h : ∀ l ∈ ls, l.1 ∉ F) : leftL F ls = ls := by
 unfold leftL
 rw [List.filter_eq_self]
 intro l hl
 simpa using h l hl
theorem deleteFunc_E (F : List Int) (hF : F.length ≤ 1000) (ls : List Ln) (hl : ls.length ≤ 1000000) : E (fun k => zf62 (k 0) (ls, F)) (leftL F ls) := by
 obtain ⟨r, hr, hc⟩ := indexFunc_l2 F hF ls [] (by simpa using hl) (fun l h => by cases h)
 have hi : E (fun k => zf64 (k 0) (ls, F)) r := E.congr (fun k => zf64.eq (k 0) ..) (E.ren (fun _ => 0) hr)
 refine E.congr (fun k => zf62.eq (k 0) ..) (E.bind hi ?_)
 rcases hc with ⟨rfl, hn⟩ | ⟨p, x, q, e, rfl, hx, hp⟩
 ·exact E.pos rfl (E.now' (leftL_none (by simpa using hn)).symm)
 ·have e' : ls = p ++ x :: q := by simpa using e
  subst e'
  have hlen : (p ++ x :: q).length = p.length + (q.length + 1) := by simp
  refine E.neg (by omega) ?_
  rw [wrap_nat (by omega)]
  have := deleteFunc_l5 F hF q p x [] (by simpa using hl)
  rw [show leftL F (p ++ x :: q) = p ++ leftL F q from by
   have := leftL_none hp
   unfold leftL at this ⊢
   rw [List.filter_append, this]
   simp [hx]]
  simp only [List.append_assoc, List.cons_append, List.nil_append, List.length_append, List.length_cons, List.length_nil, Nat.zero_add] at this
  exact E.ren (fun _ => 0) this
theorem implFail_E (c : Clb) (hc : vC c = true) (m : Int) : E (fun k => zf5 (k 0) (c, m)) (if okFail c m then (true, failedC c m) else (false, c)) := by
 obtain ⟨h1, h2, h3⟩ := vC_parts hc
 have a1 := vS_iff.1 h1
 have a2 := vLs_iff.1 h2
 refine E.congr (fun k => zf5.eq (k 0) c m) (E.bind (implCascade_E c.1 c.2.1 m) ?_)
 by_cases ho : okFail c m = true
 ·rw [if_pos ho]
  have hm : 0 ≤ m ∧ m < (c.1.length : Int) := of_decide_eq_true ho
  have hb := casM_bd h1 h2 hm
  refine E.neg (by omega) (E.bind (deleteFunc_E _ (by omega) c.2.1 (by omega)) (E.now' ?_))
  rw [wrap_id (by omega) (by omega)]
  rfl
 ·rw [if_neg ho]
  have hm : ¬ (0 ≤ m ∧ m < (c.1.length : Int)) := fun h => ho (decide_eq_true h)
  have e : casM c.1 c.2.1 m = ([], -1, []) := by
   unfold casM
   rw [decide_eq_false hm, Bool.and_false]; rfl
  rw [e]
  exact E.pos (by simp only; omega) (E.now _)
theorem change_E (c : Clb) (hc : vC c = true) (e : Ev7) (hl : e.2.2.2.2.1.length ≤ 1000000000) : ∃ p, E (fun k => zf4 (k 0) (c, e)) p ∧ (p.1 = true → evOut c e = some p.2) ∧ (p.1 = false → evOut c e = none) := by
 obtain ⟨h1, h2, h3⟩ := vC_parts hc
 have a1 := vS_iff.1 h1
 have e0 : ∀ k : Nat → Nat, zf4 (k 0) (c, e) = _ := fun k => zf4.eq (k 0) c e
 by_cases k0 : e.1 = 0
 ·exact ⟨_, E.congr e0 (E.pos k0 (E.pos (by simp [maxN]; omega) (E.now _))), fun _ => by unfold evOut; rw [if_pos k0]; rfl, fun h => by cases h⟩
 by_cases k1 : e.1 = 1
 ·refine ⟨_, E.congr e0 (E.neg k0 (E.pos k1 (E.bind (implMove_E c hc e 1 (.inl rfl)) (E.now _)))), ?_, ?_⟩
  ·intro h
   by_cases ho : okMove c e.2.1 e.2.2.1 = true
   ·rw [if_pos ho, Int.one_mul]; unfold evOut; rw [if_neg k0, if_pos k1, if_pos ho]
   ·rw [if_neg ho] at h; cases h
  ·intro h
   by_cases ho : okMove c e.2.1 e.2.2.1 = true
   ·rw [if_pos ho] at h; cases h
   ·unfold evOut; rw [if_neg k0, if_pos k1, if_neg ho]
 by_cases k2 : e.1 = 2
 ·by_cases ho : okMove c e.2.1 e.2.2.1 = true
  ·have hm := implMove_E c hc e (-1) (.inr rfl)
   rw [if_pos ho, show (-1 : Int) * e.2.2.1 = -e.2.2.1 by omega] at hm
   refine ⟨_, E.congr e0 (E.neg k0 (E.neg k1 (E.pos k2 (E.bind hm (E.pos rfl (E.bind (safeLoans_E _ _) (E.now _))))))), ?_, ?_⟩
   ·intro h
    simp only at h
    unfold evOut; rw [if_neg k0, if_neg k1, if_pos k2, ho]
    rw [show safeB (moved c e.2.1 (-e.2.2.1)).1 c.2.1 = true from h]; rfl
   ·intro h
    simp only at h
    unfold evOut; rw [if_neg k0, if_neg k1, if_pos k2, ho]
    rw [show safeB (moved c e.2.1 (-e.2.2.1)).1 c.2.1 = false from h]; rfl
  ·have hm := implMove_E c hc e (-1) (.inr rfl)
   rw [if_neg ho] at hm
   refine ⟨_, E.congr e0 (E.neg k0 (E.neg k1 (E.pos k2 (E.bind hm (E.neg (by simp) (E.now _)))))), fun h => (by cases h), fun _ => ?_⟩
   unfold evOut; rw [if_neg k0, if_neg k1, if_pos k2, Bool.eq_false_iff.2 ho]; rfl
 by_cases k3 : e.1 = 3
 ·refine ⟨_, E.congr e0 (E.neg k0 (E.neg k1 (E.neg k2 (E.pos k3 (E.bind (implLend_E c hc e hl) (E.now _)))))), ?_, ?_⟩
  ·intro h
   by_cases ho : safeB c.1 (c.2.1 ++ [(e.2.1, e.2.2.1, e.2.2.2.2.1)]) = true
   ·rw [if_pos ho]; unfold evOut; rw [if_neg k0, if_neg k1, if_neg k2, if_pos k3, if_pos ho]
   ·rw [if_neg ho] at h; cases h
  ·intro h
   by_cases ho : safeB c.1 (c.2.1 ++ [(e.2.1, e.2.2.1, e.2.2.2.2.1)]) = true
   ·rw [if_pos ho] at h; cases h
   ·unfold evOut; rw [if_neg k0, if_neg k1, if_neg k2, if_pos k3, if_neg ho]
 by_cases k4 : e.1 = 4
 ·refine ⟨_, E.congr e0 (E.neg k0 (E.neg k1 (E.neg k2 (E.neg k3 (E.pos k4 (E.bind (implRepay_E c hc e) (E.now _))))))), ?_, ?_⟩
  ·intro h
   by_cases ho : okPay c e = true
   ·rw [if_pos ho]; unfold evOut; rw [if_neg k0, if_neg k1, if_neg k2, if_neg k3, if_pos k4, if_pos ho]
   ·rw [if_neg ho] at h; cases h
  ·intro h
   by_cases ho : okPay c e = true
   ·rw [if_pos ho] at h; cases h
   ·unfold evOut; rw [if_neg k0, if_neg k1, if_neg k2, if_neg k3, if_pos k4, if_neg ho]
 by_cases k5 : e.1 = 5
 ·refine ⟨_, E.congr e0 (E.neg k0 (E.neg k1 (E.neg k2 (E.neg k3 (E.neg k4 (E.pos k5 (E.bind (implFail_E c hc e.2.1) (E.now _)))))))), ?_, ?_⟩
  ·intro h
   by_cases ho : okFail c e.2.1 = true
   ·rw [if_pos ho]; unfold evOut; rw [if_neg k0, if_neg k1, if_neg k2, if_neg k3, if_neg k4, if_pos k5, if_pos ho]
   ·rw [if_neg ho] at h; cases h
  ·intro h
   by_cases ho : okFail c e.2.1 = true
   ·rw [if_pos ho] at h; cases h
   ·unfold evOut; rw [if_neg k0, if_neg k1, if_neg k2, if_neg k3, if_neg k4, if_pos k5, if_neg ho]
 by_cases k6 : e.1 = 6
 ·refine ⟨_, E.congr e0 (E.neg k0 (E.neg k1 (E.neg k2 (E.neg k3 (E.neg k4 (E.neg k5 (E.pos k6 (E.bind (implNight_E c hc e.2.2.2.2.2) (E.now _))))))))), ?_, ?_⟩
  ·intro h
   by_cases ho : okRate e.2.2.2.2.2 = true
   ·rw [if_pos ho]; unfold evOut; rw [if_neg k0, if_neg k1, if_neg k2, if_neg k3, if_neg k4, if_neg k5, if_pos k6, if_pos ho]
   ·rw [if_neg ho] at h; cases h
  ·intro h
   by_cases ho : okRate e.2.2.2.2.2 = true
   ·rw [if_pos ho] at h; cases h
   ·unfold evOut; rw [if_neg k0, if_neg k1, if_neg k2, if_neg k3, if_neg k4, if_neg k5, if_pos k6, if_neg ho]
 by_cases k7 : e.1 = 7
 ·refine ⟨_, E.congr e0 (E.neg k0 (E.neg k1 (E.neg k2 (E.neg k3 (E.neg k4 (E.neg k5 (E.neg k6 (E.pos k7 (E.bind (implShare_E c hc) (E.now _)))))))))), ?_, ?_⟩
  ·intro h
   by_cases ho : c.2.2.2.1 < 0
   ·rw [if_pos ho] at h; cases h
   ·rw [if_neg ho]; unfold evOut; rw [if_neg k0, if_neg k1, if_neg k2, if_neg k3, if_neg k4, if_neg k5, if_neg k6, if_pos k7, if_neg ho]
  ·intro h
   by_cases ho : c.2.2.2.1 < 0
   ·unfold evOut; rw [if_neg k0, if_neg k1, if_neg k2, if_neg k3, if_neg k4, if_neg k5, if_neg k6, if_pos k7, if_pos ho]
   ·rw [if_neg ho] at h; cases h
 ·refine ⟨_, E.congr e0 (E.neg k0 (E.neg k1 (E.neg k2 (E.neg k3 (E.neg k4 (E.neg k5 (E.neg k6 (E.neg k7 (E.now _))))))))), fun h => (by cases h), fun _ => ?_⟩
  unfold evOut; rw [if_neg k0, if_neg k1, if_neg k2, if_neg k3, if_neg k4, if_neg k5, if_neg k6, if_neg k7]
def applyV (c : Clb) (e : Ev7) : Option Clb := if vC c then stepC c e else none
theorem implApply_E (c : Clb) (e : Ev7) (hl : e.2.2.2.2.1.length ≤ 1000000000) : E (fun k => zf2 (k 0) (c, e)) (tellC (applyV c e)) := by
 refine E.congr (fun k => zf2.eq (k 0) c e) (E.bind (implValidClub_E c) (E.ite (fun h => E.now' ?_) (fun h => ?_)))
 ·simp only [Bool.not_eq_true'] at h
  unfold applyV; rw [if_neg (by rw [h]; decide)]; rfl
 ·simp only [Bool.not_eq_true', Bool.not_eq_false] at h
  obtain ⟨p, hp, y, z⟩ := change_E c h e hl
  unfold applyV; rw [if_pos h]
  refine E.bind (implCopyClub_E c (vC_fits h)) (E.bind hp (E.ite (fun h2 => E.now' ?_) (fun h2 => E.bind (implValidClub_E _) (E.ite (fun h3 => E.now' ?_) (fun h3 => E.now' ?_)))))
  ·simp only [Bool.not_eq_true'] at h2
   unfold stepC; rw [z h2]; rfl
  ·simp only [Bool.not_eq_true', Bool.not_eq_false] at h2 h3
   unfold stepC; rw [y h2]
   show _ = tellC (checkC p.2)
   unfold checkC; rw [if_neg (by rw [show vC p.2 = false from h3]; decide)]; rfl
  ·simp only [Bool.not_eq_true', Bool.not_eq_false] at h2 h3
   unfold stepC; rw [y h2]
   show _ = tellC (checkC p.2)
   unfold checkC; rw [if_pos (show vC p.2 = true from h3)]; rfl
end Go.Proofs.YtmnmbjnhhhdegaaGreatDoorG
end
section
set_option linter.unusedVariables false
namespace Go.Proofs.YtmnmbjnhhhdegaaGreatDoorG
open Go Go.Refl Go.Refl.Math Go.RowKit
theorem equalNone_E : E (fun k => zf52 (k 0) (zeroC, zeroC)) true := equalTell_E none (fun d h => by cases h)
end Go.Proofs.YtmnmbjnhhhdegaaGreatDoorG
end
section
set_option linter.unusedVariables false
namespace Go.Proofs.YtmnmbjnhhhdegaaGreatDoorG
open Go Go.Refl Go.Refl.Math Go.RowKit
def runV (c : Clb) (l : List Ev7) : Option Clb := if vC c then (if l.length ≤ 30 then runC c l else none) else none
theorem applyV_of {c : Clb} (h : vC c = true) (e : Ev7) : applyV c e = stepC c e := by unfold applyV; rw [if_pos h]
theorem implRun_l5 (z1 z2 z3 : Int) : ∀ (post pre : List Ev7) (d : Clb), (pre ++ post).length ≤ 1000 → EvsOk post → vC d = true →
  E (fun k => zf21.l5 (k 0) (k 1) (pre ++ post) ((pre ++ post).length : Int) (pre.length : Int) z1 z2 z3 d.1 d.2.1 d.2.2.1 d.2.2.2.1 d.2.2.2.2) (tellC (runC d post))
 | [], pre, d, hl, he, hv => by
  refine E.step 1 (fun v w h1 h2 => by rewrite [h1, h2 0 (by decide)]; exact zf21.l5_succ ..) ?_
  exact E.neg (by simp) (E.now _)
 | e :: post, pre, d, hl, he, hv => by
  have hlen : (pre ++ e :: post).length = pre.length + (post.length + 1) := by simp
  have ha := implApply_E d e (by have := he e (List.mem_cons_self ..); omega)
  rw [applyV_of hv] at ha
  refine E.step 1 (fun v w h1 h2 => by rewrite [h1, h2 0 (by decide)]; exact zf21.l5_succ ..) ?_
  simp only [Int.toNat_natCast, getD_mid]
  refine E.pos (by omega) (E.pos (by omega) (E.pos (by omega) (E.bind (E.ren (fun _ => 0) ha) ?_)))
  unfold runC
  cases hs : stepC d e with
  | none => exact E.pos rfl (E.now _)
  | some d1 =>
   have ih := implRun_l5 z1 z2 z3 post (pre ++ [e]) d1 (by simpa using hl) (fun x hx => he x (List.mem_cons_of_mem _ hx)) (stepC_valid hs)
   rw [show (pre ++ [e]).length = pre.length + 1 from by simp, List.append_assoc] at ih
   refine E.neg (by simp [tellC]) ?_
   rw [wrap_nat (by omega)]
   exact ih
theorem implRun_E (c : Clb) (l : List Ev7) (he : EvsOk l) : E (fun k => zf21 (k 0) (c, l)) (tellC (runV c l)) := by
 refine E.congr (fun k => zf21.eq (k 0) c l) (E.bind (implValidClub_E c) (E.ite (fun h => E.now' ?_) (fun h => E.ite (fun h2 => E.now' ?_) (fun h2 => ?_))))
 ·simp only [Bool.not_eq_true'] at h
  unfold runV; rw [if_neg (by rw [h]; decide)]; rfl
 ·simp only [Bool.not_eq_true', Bool.not_eq_false] at h
  unfold runV; rw [if_pos h, if_neg (by omega)]; rfl
 ·simp only [Bool.not_eq_true', Bool.not_eq_false] at h
  unfold runV; rw [if_pos h, if_pos (by omega)]
  exact E.bind (implCopyClub_E c (vC_fits h)) (E.ren (fun _ => 0) (implRun_l5 0 0 0 l [] c (by simp; omega) he h))
theorem specRun_l3 (z1 z2 z3 : Int) : ∀ (post pre : List Ev7) (d : Clb), (pre ++ post).length ≤ 1000 → EvsOk post → vC d = true →
  E (fun k => zf113.l3 (k 0) (k 1) (pre ++ post) (pre.length : Int) d.1 d.2.1 d.2.2.1 d.2.2.2.1 d.2.2.2.2 z1 z2 z3) (tellC (runC d post))
 | [], pre, d, hl, he, hv => by
  refine E.step 1 (fun v w h1 h2 => by rewrite [h1, h2 0 (by decide)]; exact zf113.l3_succ ..) ?_
  exact E.neg (by simp) (E.now _)
 | e :: post, pre, d, hl, he, hv => by
  have hlen : (pre ++ e :: post).length = pre.length + (post.length + 1) := by simp
  have ha := specApply_E d hv e (by have := he e (List.mem_cons_self ..); omega)
  refine E.step 1 (fun v w h1 h2 => by rewrite [h1, h2 0 (by decide)]; exact zf113.l3_succ ..) ?_
  simp only [Int.toNat_natCast, getD_mid]
  refine E.pos (by omega) (E.pos (by omega) (E.pos (by omega) (E.bind ha ?_)))
  unfold runC
  cases hs : stepC d e with
  | none => exact E.pos rfl (E.now _)
  | some d1 =>
   have ih := specRun_l3 z1 z2 z3 post (pre ++ [e]) d1 (by simpa using hl) (fun x hx => he x (List.mem_cons_of_mem _ hx)) (stepC_valid hs)
   rw [show (pre ++ [e]).length = pre.length + 1 from by simp, List.append_assoc] at ih
   refine E.neg (by simp [tellC]) ?_
   rw [wrap_nat (by omega)]
   exact ih
theorem specRun1_E (c : Clb) (l : List Ev7) (he : EvsOk l) (hl : l.length ≤ 1000) (h : vC c = true) : E (fun k => zf113 (k 0) (c, l)) (tellC (runC c l)) :=
 E.congr (fun k => zf113.eq (k 0) c l) (E.bind (specCopyClub_E c (vC_fits h)) (E.ren (fun _ => 0) (specRun_l3 0 0 0 l [] c (by simpa using hl) he h)))
theorem specRun_E (c : Clb) (l : List Ev7) (hs : Small c) (he : EvsOk l) : E (fun k => zf76 (k 0) (c, l)) (tellC (runV c l)) := by
 refine E.congr (fun k => zf76.eq (k 0) c l) (E.bind (specValidClub_E c hs.1 hs.2) (E.ite (fun h => E.now' ?_) (fun h => E.ite (fun h2 => E.now' ?_) (fun h2 => ?_))))
 ·simp only [Bool.not_eq_true'] at h
  unfold runV; rw [if_neg (by rw [h]; decide)]; rfl
 ·simp only [Bool.not_eq_true', Bool.not_eq_false] at h
  unfold runV; rw [if_pos h, if_neg (by omega)]; rfl
 ·simp only [Bool.not_eq_true', Bool.not_eq_false] at h
  unfold runV; rw [if_pos h, if_pos (by omega)]
  exact E.bind (specRun1_E c l he (by omega) h) (E.now _)
theorem runV_valid {c d : Clb} {l : List Ev7} (h : runV c l = some d) : vC c = true ∧ l.length ≤ 30 ∧ runC c l = some d ∧ vC d = true := by
 unfold runV at h
 split at h
 ·rename_i hc
  split at h
  ·rename_i hl; exact ⟨hc, hl, h, runC_valid l hc h⟩
  ·cases h
 ·cases h
theorem EvsOk.set {l : List Ev7} (h : EvsOk l) (i : Nat) (x : Ev7) (hx : x.2.2.2.2.1.length ≤ 1048576 ∧ (-1000 ≤ x.2.2.2.2.2.1 ∧ x.2.2.2.2.2.1 ≤ 1000) ∧ (-1000 ≤ x.2.2.2.2.2.2 ∧ x.2.2.2.2.2.2 ≤ 1000)) : EvsOk (l.set i x) := fun e he => by
 rcases List.mem_or_eq_of_mem_set he with h1 | h1
 ·exact h e h1
 ·rw [h1]; exact hx
theorem EvsOk.at {l : List Ev7} (h : EvsOk l) (i : Nat) : (l.getD i (0, 0, 0, 0, [], 0, 0)).2.2.2.2.1.length ≤ 1048576 ∧ (-1000 ≤ (l.getD i (0, 0, 0, 0, [], 0, 0)).2.2.2.2.2.1 ∧ (l.getD i (0, 0, 0, 0, [], 0, 0)).2.2.2.2.2.1 ≤ 1000) ∧ (-1000 ≤ (l.getD i (0, 0, 0, 0, [], 0, 0)).2.2.2.2.2.2 ∧ (l.getD i (0, 0, 0, 0, [], 0, 0)).2.2.2.2.2.2 ≤ 1000) := by
 by_cases hi : i < l.length
 ·exact h _ (getD_mem _ hi)
 ·simp [List.getD_eq_getElem?_getD, List.getElem?_eq_none (show l.length ≤ i by omega)]
theorem EvsD.set {l : List Ev7} (h : EvsD l) (i : Nat) (x : Ev7) (hx : x.2.2.2.2.1.length ≤ 12 ∧ (-1000 ≤ x.2.2.2.2.2.1 ∧ x.2.2.2.2.2.1 ≤ 1000) ∧ (-1000 ≤ x.2.2.2.2.2.2 ∧ x.2.2.2.2.2.2 ≤ 1000)) : EvsD (l.set i x) := fun e he => by
 rcases List.mem_or_eq_of_mem_set he with h1 | h1
 ·exact h e h1
 ·rw [h1]; exact hx
theorem EvsD.at {l : List Ev7} (h : EvsD l) (i : Nat) : (l.getD i (0, 0, 0, 0, [], 0, 0)).2.2.2.2.1.length ≤ 12 ∧ (-1000 ≤ (l.getD i (0, 0, 0, 0, [], 0, 0)).2.2.2.2.2.1 ∧ (l.getD i (0, 0, 0, 0, [], 0, 0)).2.2.2.2.2.1 ≤ 1000) ∧ (-1000 ≤ (l.getD i (0, 0, 0, 0, [], 0, 0)).2.2.2.2.2.2 ∧ (l.getD i (0, 0, 0, 0, [], 0, 0)).2.2.2.2.2.2 ≤ 1000) := by
 by_cases hi : i < l.length
 ·exact h _ (getD_mem _ hi)
 ·simp [List.getD_eq_getElem?_getD, List.getElem?_eq_none (show l.length ≤ i by omega)]
theorem anyBook_D {s : List Int} {p b : Int} (hr : RdOk (s, p) b) (hb : b ≤ 500000000) :
  ∃ c l p', E (fun k => zf78 (k 0) (s, p)) (c, l, s, p') ∧ vC c = true ∧ EvsD l ∧ l.length ≤ 18 ∧ RdOk (s, p') (b + 600) := by
 obtain ⟨c, p0, h0, v0, r0⟩ := firstClub_D hr (by omega)
 obtain ⟨l, c1, p1, h1, v1, _, r1, _, hl, g⟩ := someBook_D c v0 r0 (by omega)
 have e0 : ∀ k : Nat → Nat, zf78 (k 0) (s, p) = _ := fun k => zf78.eq (k 0) (s, p)
 by_cases hn : ((l.length : Nat) : Int) > 1
 ·obtain ⟨x, h2, _, _, r2⟩ := pick_D r1 (by omega) 10
  by_cases k0 : x = 0
  ·refine ⟨_, _, _, E.congr e0 (E.bind h0 (E.bind h1 (E.pos hn (E.bind h2 (E.pos k0 (E.pos (show (1 : Int) ≤ (l.length : Int) by omega) (E.now _))))))), v0, fun e he => ?_, ?_, r2.mono (by omega)⟩
   ·exact g e (List.mem_of_mem_drop (List.mem_of_mem_take he))
   ·simp; omega
  by_cases k1 : x = 1
  ·obtain ⟨y, h3, y0, y1, r3⟩ := pick_D r2 (by omega) (l.length : Int)
   obtain ⟨z, h4, _, r4⟩ := one_D r3 (by omega) (List.set (List.set (List.set (List.replicate 3 0) 0 (-1)) 1 100) 2 1) (by simp)
   have y2 := y1 (by omega)
   exact ⟨_, _, _, E.congr e0 (E.bind h0 (E.bind h1 (E.pos hn (E.bind h2 (E.neg k0 (E.pos k1 (E.bind h3 (E.bind h4 (E.pos y0 (E.pos y2 (E.now _))))))))))), v0, g.set _ _ (g.at _), by rw [List.length_set]; exact hl, r4.mono (by omega)⟩
  by_cases k2 : x = 2
  ·obtain ⟨y, h3, y0, y1, r3⟩ := pick_D r2 (by omega) (l.length : Int)
   obtain ⟨z, h4, _, r4⟩ := one_D r3 (by omega) (List.set (List.set (List.set (List.replicate 3 0) 0 (-1)) 1 1000001) 2 3) (by simp)
   have y2 := y1 (by omega)
   exact ⟨_, _, _, E.congr e0 (E.bind h0 (E.bind h1 (E.pos hn (E.bind h2 (E.neg k0 (E.neg k1 (E.pos k2 (E.bind h3 (E.bind h4 (E.pos y0 (E.pos y2 (E.now _)))))))))))), v0, g.set _ _ (g.at _), by rw [List.length_set]; exact hl, r4.mono (by omega)⟩
  ·exact ⟨_, _, _, E.congr e0 (E.bind h0 (E.bind h1 (E.pos hn (E.bind h2 (E.neg k0 (E.neg k1 (E.neg k2 (E.now _)))))))), v0, g, hl, r2.mono (by omega)⟩
 ·exact ⟨_, _, _, E.congr e0 (E.bind h0 (E.bind h1 (E.neg hn (E.now _)))), v0, g, hl, r1.mono (by omega)⟩
theorem drawRun_D (x : List Int) (hx : ∀ b ∈ x, 0 ≤ b ∧ b < 256) : ∃ c l, E (fun k => zf71 (k 0) x) (c, l) ∧ vC c = true ∧ EvsOk l ∧ l.length ≤ 18 ∧ EvsD l := by
 obtain ⟨c, l, p', h, v, g, hl, _⟩ := anyBook_D (start_rd hx) (by omega)
 exact ⟨c, l, E.congr (fun k => zf71.eq (k 0) x) (E.bind (newReader_E x) (E.bind h (E.now _))), v, g.ok, hl, g⟩
theorem run_none {c : Clb} {l : List Ev7} (hv : vC c = true) (g : EvsOk l) (ho : runV c l = none) : E (fun k => zf21 (k 0) (c, l)) (zeroC, false) ∧ E (fun k => zf76 (k 0) (c, l)) (zeroC, false) := by
 have h1 := implRun_E c l g
 have h2 := specRun_E c l (vC_fits hv).small g
 rw [ho] at h1 h2
 exact ⟨h1, h2⟩
theorem run_some {c d : Clb} {l : List Ev7} (hv : vC c = true) (g : EvsOk l) (ho : runV c l = some d) : E (fun k => zf21 (k 0) (c, l)) (d, true) ∧ E (fun k => zf76 (k 0) (c, l)) (d, true) := by
 have h1 := implRun_E c l g
 have h2 := specRun_E c l (vC_fits hv).small g
 rw [ho] at h1 h2
 exact ⟨h1, h2⟩
theorem run_last {c d : Clb} {l : List Ev7} (h : runV c l = some d) (h0 : 0 < l.length) : ∃ m, runV c (l.take (l.length - 1)) = some m ∧ stepC m (l.getD (l.length - 1) (0, 0, 0, 0, [], 0, 0)) = some d := by
 obtain ⟨hc, hl, hr, hd⟩ := runV_valid h
 obtain ⟨l', e, rfl⟩ : ∃ l' e, l = l' ++ [e] := ⟨l.dropLast, l.getLast (List.ne_nil_of_length_pos h0), (List.dropLast_concat_getLast _).symm⟩
 rw [runC_snoc, Option.bind_eq_some_iff] at hr
 obtain ⟨m, hm, hs⟩ := hr
 have e1 : (l' ++ [e]).length - 1 = l'.length := by simp
 rw [e1, List.take_left, show (l' ++ [e]).getD l'.length (0, 0, 0, 0, [], 0, 0) = e from getD_mid ..]
 refine ⟨m, ?_, hs⟩
 unfold runV
 rw [if_pos hc, if_pos (by simp at hl; omega)]
 exact hm
end Go.Proofs.YtmnmbjnhhhdegaaGreatDoorG
end
section
set_option linter.unusedVariables false
namespace Go.Proofs.YtmnmbjnhhhdegaaGreatDoorG
open Go Go.Refl Go.Refl.Math Go.RowKit
theorem linT_size {N : Nat} : ∀ (l : List EvT), (∀ e ∈ l, (evtT e).size ≤ N) → (linT l).size ≤ l.length * (N + 1)
 | [], _ => by show 0 ≤ _; omega
 | e :: l, h => by
  have ih := linT_size l (fun x hx => h x (List.mem_cons_of_mem _ hx))
  have he := h e (List.mem_cons_self ..)
  rw [linT, ByteArray.size_append, ByteArray.size_append, nlT_size, List.length_cons, Nat.add_mul]
  omega
theorem booK_size {l : List EvT} (h : EvsD l) (hl : l.length ≤ 18) : (booK l).size ≤ 760000 := by
 have h1 := linT_size (N := 41212) l (fun e he => by
  have := evtT_size e
  have := (h e he).1
  omega)
 unfold booK
 refine size_if (fun _ => size_if (fun _ => ?_) (fun _ => ?_)) (fun _ => ?_)
 ·have : l.length * (41212 + 1) ≤ 18 * (41212 + 1) := Nat.mul_le_mul_right _ hl
  omega
 ·exact Nat.zero_le _
 ·exact Nat.zero_le _
end Go.Proofs.YtmnmbjnhhhdegaaGreatDoorG
end
section
set_option linter.unusedVariables false
namespace Go.Proofs.YtmnmbjnhhhdegaaGreatDoorG
open Go Go.Refl Go.Refl.Math Go.RowKit
theorem evOut_canon (c : Clb) (e : Ev7) : evOut c (canon e) = evOut c e := by
 obtain ⟨k, m, a, b, g, nu, de⟩ := e
 unfold canon
 by_cases h0 : k = 0 ∨ k = 7
 ·rw [if_pos h0]
  rcases h0 with h0 | h0
  ·subst h0; rfl
  ·subst h0; rfl
 rw [if_neg h0]
 by_cases h6 : k = 6
 ·rw [if_pos h6]; subst h6; rfl
 rw [if_neg h6]
 by_cases h5 : k = 5
 ·rw [if_pos h5]; subst h5; rfl
 rw [if_neg h5]
 by_cases h4 : k = 4
 ·rw [if_pos h4]; subst h4; rfl
 rw [if_neg h4]
 by_cases h3 : k = 3
 ·rw [if_pos h3]; subst h3; rfl
 rw [if_neg h3]
 have n0 : ¬ k = 0 := fun h => h0 (.inl h)
 have n7 : ¬ k = 7 := fun h => h0 (.inr h)
 unfold evOut
 simp only [n0, h6, h5, h4, h3, n7, if_false]
theorem stepC_canon (c : Clb) (e : Ev7) : stepC c (canon e) = stepC c e := by unfold stepC; rw [evOut_canon]
theorem runC_canon : ∀ (l : List Ev7) (c : Clb), runC c (l.map canon) = runC c l
 | [], _ => rfl
 | e :: l, c => by
  rw [List.map_cons, runC, runC, stepC_canon]
  congr 1
  funext d
  exact runC_canon l d
theorem runV_canon (c : Clb) (l : List Ev7) : runV c (l.map canon) = runV c l := by unfold runV; rw [List.length_map, runC_canon]
def nonl (s : ByteArray) : Prop := (10 : UInt8) ∉ s.data.toList
theorem nonl_app {s t : ByteArray} (hs : nonl s) (ht : nonl t) : nonl (s ++ t) := by
 unfold nonl at *
 rw [ByteArray.data_append, Array.toList_append, List.mem_append]
 exact fun h => h.elim hs ht
theorem nonl_dec (n : Nat) : nonl (decT n) := by
 intro h
 rw [decT_list] at h
 exact absurd (List.all_eq_true.1 (dval_dec n).1 _ h) (by decide)
theorem nonl_mon (n : Nat) : nonl (monT n) := by
 intro h
 rw [monT_list] at h
 rcases List.mem_append.1 h with h | h
 ·exact absurd (List.all_eq_true.1 (dval_dec _).1 _ h) (by decide)
 ·simp only [List.mem_cons, List.not_mem_nil, or_false] at h
  have d1 := (dgt_of (n := n / 10 % 10) (by omega)).1
  have d2 := (dgt_of (n := n % 10) (by omega)).1
  rcases h with h | h | h
  ·exact absurd h (by decide)
  ·rw [← h] at d1; exact absurd d1 (by decide)
  ·rw [← h] at d2; exact absurd d2 (by decide)
theorem nonl_sp : nonl spT := by unfold nonl; decide
theorem nonl_bn (m : Int) : nonl (bnT m) := nonl_app nonl_sp (nonl_dec _)
theorem nonl_bm (m : Int) : nonl (bmT m) := nonl_app nonl_sp (nonl_mon _)
theorem nonl_mem : ∀ l : List Int, nonl (memT l)
 | [] => by unfold nonl memT; decide
 | m :: l => nonl_app (nonl_bn m) (nonl_mem l)
theorem nonl_if {c : Prop} [Decidable c] {a b : ByteArray} (h1 : nonl a) (h2 : nonl b) : nonl (if c then a else b) := by
 by_cases h : c
 ·rw [if_pos h]; exact h1
 ·rw [if_neg h]; exact h2
theorem nonl_evt (e : EvT) : nonl (evtT e) := by
 have h0 : nonl ByteArray.empty := by unfold nonl; decide
 have s0 : nonl kjoin := by unfold nonl; decide
 have s1 : nonl ksave := by unfold nonl; decide
 have s2 : nonl ktake := by unfold nonl; decide
 have s3 : nonl klend := by unfold nonl; decide
 have s4 : nonl krepay := by unfold nonl; decide
 have s5 : nonl kfail := by unfold nonl; decide
 have s6 : nonl knight := by unfold nonl; decide
 have s7 : nonl kshare := by unfold nonl; decide
 unfold evtT
 exact nonl_if s0 (nonl_if s7 (nonl_if (nonl_if (nonl_app s6 (nonl_app (nonl_bn _) (nonl_bn _))) h0) (nonl_if (nonl_if (nonl_app s5 (nonl_bn _)) (nonl_if (nonl_if (nonl_app s1 (nonl_app (nonl_bn _) (nonl_bm _))) (nonl_if (nonl_app s2 (nonl_app (nonl_bn _) (nonl_bm _))) (nonl_if (nonl_if (nonl_app s4 (nonl_app (nonl_app (nonl_bn _) (nonl_bm _)) (nonl_bm _))) h0) (nonl_if (nonl_if (nonl_app s3 (nonl_app (nonl_app (nonl_bn _) (nonl_bm _)) (nonl_mem _))) h0) h0)))) h0)) h0)))
theorem lines_lin : ∀ (l : List EvT) (r : List UInt8), (10 : UInt8) ∉ r → (lnsB ((linT l).data.toList ++ r)).map mkB = l.map evtT
 | [], r, h => by
  have e : (linT []).data.toList ++ r = r := rfl
  rw [e, lnsB_none h]; rfl
 | e :: l, r, h => by
  have e1 : (linT (e :: l)).data.toList ++ r = (evtT e).data.toList ++ 10 :: ((linT l).data.toList ++ r) := by
   simp [linT, ByteArray.data_append, nlT]
  rw [e1, lnsB_at (nonl_evt e), List.map_cons, lines_lin l r h, mkB_of]
  rfl
theorem recL_lin : ∀ (k : Nat) (l : List EvT), (∀ e ∈ l, evtT e ≠ ByteArray.empty) → l.length ≤ k → recL k (l.map evtT) = l.map canon
 | 0, l, _, hl => by
  have : l = [] := List.eq_nil_of_length_eq_zero (by omega)
  subst this
  rfl
 | k + 1, [], _, _ => rfl
 | k + 1, e :: l, h, hl => by
  simp only [List.length_cons] at hl
  have hp := parse_yes rfl (h e (List.mem_cons_self ..))
  rw [List.map_cons, List.map_cons, recL, hp, if_pos rfl, recL_lin k l (fun x hx => h x (List.mem_cons_of_mem _ hx)) (by omega)]
theorem recT_lin {s : ByteArray} (l : List EvT) (r : List UInt8) (hs : s.data.toList = (linT l).data.toList ++ r) (hr : (10 : UInt8) ∉ r) (h : ∀ e ∈ l, evtT e ≠ ByteArray.empty) (hl : l.length ≤ 30) : recT s = l.map canon := by
 unfold recT linesT
 rw [hs, lines_lin l r hr]
 exact recL_lin 30 l h hl
theorem booK_ne {l : List EvT} (h : booK l ≠ ByteArray.empty) : booK l = linT l ∧ (∀ e ∈ l, evtT e ≠ ByteArray.empty) ∧ l.length ≤ 30 := by
 unfold booK at h ⊢
 by_cases h1 : l.length ≤ 30
 ·rw [if_pos h1] at h ⊢
  by_cases h2 : bokT l = true
  ·rw [if_pos h2]
   refine ⟨rfl, fun e he => ?_, h1⟩
   have := List.all_eq_true.1 h2 e he
   simp only [Bool.not_eq_true', decide_eq_false_iff_not] at this
   exact this
  ·rw [if_neg h2] at h; exact absurd rfl h
 ·rw [if_neg h1] at h; exact absurd rfl h
theorem linT_app : ∀ (l m : List EvT), linT (l ++ m) = linT l ++ linT m
 | [], m => by show linT m = ByteArray.empty ++ linT m; rw [ByteArray.empty_append]
 | e :: l, m => by
  show evtT e ++ nlT ++ linT (l ++ m) = evtT e ++ nlT ++ linT l ++ linT m
  rw [linT_app l m]
  simp only [ByteArray.append_assoc]
theorem FnFormatBookCrash_pure (x : List Int) (hw : WfT (.slice (.int .u8)) x) : ∃ n, zf47 n x = some true := by
 have hx := u8_lt hw
 refine E.one (E.congr (fun k => zf47.eq (k 0) x) (E.ite (fun h => E.now _) (fun h => ?_)))
 obtain ⟨c, l, hd, hc, g, hl, gd⟩ := drawRun_D x hx
 cases ho : runV c l with
 | none =>
  obtain ⟨g1, g2⟩ := run_none hc g ho
  exact E.bind hd (E.bind g1 (E.bind g2 (E.bind equalNone_E (E.neg (by decide) (E.pos rfl (E.pos rfl (E.bind equalNone_E (E.pos rfl (E.now' (by simp))))))))))
 | some d =>
  obtain ⟨g1, g2⟩ := run_some hc g ho
  have hv := (runV_valid ho).2.2.2
  have hb := implBook_E l (okEv_of g)
  have hz := booK_size gd hl
  refine E.bind hd (E.bind g1 (E.bind g2 (E.bind (equalSelf_E d hv) (E.neg (by decide) (E.pos rfl (E.neg (by simp) (E.bind hb ?_)))))))
  by_cases he : booK l = ByteArray.empty
  ·exact E.pos he (E.now _)
  ·obtain ⟨k1, k2, k3⟩ := booK_ne he
   have hl0 : 0 < l.length := by
    rcases Nat.eq_zero_or_pos l.length with h0 | h0
    ·have : l = [] := List.eq_nil_of_length_eq_zero h0
     subst this
     exact absurd k1 he
    ·exact h0
   obtain ⟨m, hm, hs⟩ := run_last ho hl0
   have hmv := (runV_valid hm).2.2.2
   have hsz : 0 < (booK l).size := by
    rcases Nat.eq_zero_or_pos (booK l).size with h0 | h0
    ·exact absurd (ba_ext (List.eq_nil_of_length_eq_zero (by rw [← ba_size]; exact h0))) he
    ·exact h0
   have ew : wrap64 (((booK l).size : Int) - 1) = (((booK l).size - 1 : Nat) : Int) := by rw [wrap_id (by omega) (by omega)]; omega
   have el : wrap64 ((l.length : Int) - 1) = ((l.length - 1 : Nat) : Int) := by rw [wrap_id (by omega) (by omega)]; omega
   have hne : l ≠ [] := fun h => by rw [h] at hl0; cases hl0
   have hcut : ((booK l).extract 0 ((booK l).size - 1)).data.toList = (linT (l.take (l.length - 1))).data.toList ++ (evtT (l.getLast hne)).data.toList := by
    have e1 : l = l.take (l.length - 1) ++ [l.getLast hne] := by rw [← List.dropLast_eq_take, List.dropLast_concat_getLast]
    have e2 : (booK l).data.toList = ((linT (l.take (l.length - 1))).data.toList ++ (evtT (l.getLast hne)).data.toList) ++ [10] := by
     rw [k1]
     conv => lhs; rw [e1]
     rw [linT_app]
     simp [linT, ByteArray.data_append, nlT]
    rw [ext_list, e2]
    have e3 : (booK l).size - 1 = ((linT (l.take (l.length - 1))).data.toList ++ (evtT (l.getLast hne)).data.toList).length := by
     rw [ba_size, e2, List.length_append]; simp
    rw [List.drop_zero, Nat.sub_zero, e3, List.take_left' rfl]
   have hrt : recT ((booK l).extract 0 ((booK l).size - 1)) = (l.take (l.length - 1)).map canon := recT_lin _ _ hcut (nonl_evt _) (fun e he' => k2 e (List.mem_of_mem_take he')) (by rw [List.length_take]; omega)
   have hxz : ((booK l).extract 0 ((booK l).size - 1)).size ≤ 760000 := by rw [ByteArray.size_extract]; omega
   have hr := implRec_E ((booK l).extract 0 ((booK l).size - 1)) (by omega)
   have hok := recT_evs (s := (booK l).extract 0 ((booK l).size - 1)) (by omega)
   have hrun := implRun_E c _ hok
   rw [hrt] at hr hrun
   rw [runV_canon, hm] at hrun
   have q2 := implApply_E m (l.getD (l.length - 1) (0, 0, 0, 0, [], 0, 0)) (by have := g.at (l.length - 1); omega)
   rw [applyV_of hmv, hs] at q2
   refine E.neg he ?_
   rw [ew, el]
   simp only [Int.toNat_natCast]
   refine E.pos (by omega) (E.pos (by omega) (E.bind hr (E.bind hrun (E.pos (by omega) (E.pos (by omega) (E.bind q2 (E.pos ?_ (E.pos rfl (E.pos rfl (E.bind (equalSelf_E d hv) (E.now _)))))))))))
   rw [List.length_map, List.length_take]
   omega
end Go.Proofs.YtmnmbjnhhhdegaaGreatDoorG
end
