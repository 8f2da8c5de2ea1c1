import Derived.Test.YtmnmbjnhhhdegaaGreatDoorB5
/- FnFormatEventSame: mathematics of the law. No condition. -/
set_option linter.unusedVariables false
set_option linter.unusedSimpArgs false
section
set_option linter.unusedVariables false
namespace Go.Proofs.YtmnmbjnhhhdegaaGreatDoorG
open Go Go.Refl Go.Refl.Math Go.RowKit
theorem isFailed_E (l : Ln) (F : List Int) (hF : F.length ≤ 1000) : E (fun k => zf6 (k 0) (l, F)) (decide (l.1 ∈ F)) :=
 E.congr (fun k => zf6.eq (k 0) ..) (E.bind (contains_E F l.1 (by omega)) (E.now _))
theorem indexFunc_l2 (F : List Int) (hF : F.length ≤ 1000) : ∀ (post pre : List Ln), (pre ++ post).length ≤ 1000000 → (∀ l ∈ pre, l.1 ∉ F) →
  ∃ r, E (fun k => zf64.l2 (k 0) (k 1) (pre ++ post) [F] ((pre ++ post).length : Int) (pre.length : Int)) r ∧
   ((r = -1 ∧ ∀ l ∈ pre ++ post, l.1 ∉ F) ∨ ∃ p x q, pre ++ post = p ++ x :: q ∧ r = (p.length : Int) ∧ x.1 ∈ F ∧ ∀ l ∈ p, l.1 ∉ F)
 | [], pre, hl, hp => by
  refine ⟨-1, ?_, .inl ⟨rfl, by simpa using hp⟩⟩
  refine E.step 1 (fun v w h1 h2 => by rewrite [h1, h2 0 (by decide)]; exact zf64.l2_succ ..) ?_
  exact E.neg (by simp) (E.now _)
 | x :: post, pre, hl, hp => by
  have hlen : (pre ++ x :: post).length = pre.length + (post.length + 1) := by simp
  have hx := isFailed_E x F hF
  by_cases h : x.1 ∈ F
  ·refine ⟨pre.length, ?_, .inr ⟨pre, x, post, rfl, rfl, h, hp⟩⟩
   refine E.step 1 (fun v w h1 h2 => by rewrite [h1, h2 0 (by decide)]; exact zf64.l2_succ ..) ?_
   simp only [Int.toNat_natCast, getD_mid]
   (repeat first | (with_reducible refine E.pos ?_ ?_; · omega) | (with_reducible refine E.neg ?_ ?_; · omega))
   exact E.bind hx (E.pos (by simpa using h) (E.now _))
  ·obtain ⟨r, hr, hc⟩ := indexFunc_l2 F hF post (pre ++ [x]) (by simpa using hl) (fun l hm => by
    rcases List.mem_append.1 hm with h1 | h1
    ·exact hp l h1
    ·simp at h1; subst h1; exact h)
   rw [show (pre ++ [x]).length = pre.length + 1 from by simp, List.append_assoc] at hr
   simp only [List.append_assoc, List.cons_append, List.nil_append] at hc hr
   refine ⟨r, ?_, hc⟩
   refine E.step 1 (fun v w h1 h2 => by rewrite [h1, h2 0 (by decide)]; exact zf64.l2_succ ..) ?_
   simp only [Int.toNat_natCast, getD_mid]
   (repeat first | (with_reducible refine E.pos ?_ ?_; · omega) | (with_reducible refine E.neg ?_ ?_; · omega))
   refine E.bind hx (E.neg (by simpa using h) ?_)
   rw [wrap_nat (by omega)]
   exact hr
theorem deleteFunc_l5 (F : List Int) (hF : F.length ≤ 1000) : ∀ (post kept : List Ln) (y : Ln) (junk : List Ln), (kept ++ y :: junk ++ post).length ≤ 1000000 →
  E (fun k => zf62.l5 (k 0) (k 1) [F] (kept.length : Int) ((kept ++ y :: junk).length : Int) (kept ++ y :: junk ++ post)) (kept ++ leftL F post)
 | [], kept, y, junk, hl => by
  have hlen : (kept ++ y :: junk ++ []).length = kept.length + (junk.length + 1) := by simp
  refine E.step 1 (fun v w h1 h2 => by rewrite [h1, h2 0 (by decide)]; exact zf62.l5_succ ..) ?_
  refine E.neg (by simp) ?_
  simp only [Int.toNat_natCast, Nat.sub_zero]
  have e1 : List.take kept.length (kept ++ y :: junk ++ []) = kept := by simp
  rw [e1]
  refine E.pos (by omega) (E.pos (by omega) (E.pos (by omega) (E.pos (by simp; omega) (E.now' ?_))))
  rw [List.append_assoc, List.take_left]
  simp [leftL]
 | x :: post, kept, y, junk, hl => by
  have hlen : (kept ++ y :: junk ++ x :: post).length = kept.length + (junk.length + 1) + (post.length + 1) := by simp; omega
  have hlen2 : (kept ++ y :: junk).length = kept.length + (junk.length + 1) := by simp
  have hx := isFailed_E x F hF
  have hg : (kept ++ y :: junk ++ x :: post).getD (kept ++ y :: junk).length (0, 0, []) = x := getD_mid ..
  refine E.step 1 (fun v w h1 h2 => by rewrite [h1, h2 0 (by decide)]; exact zf62.l5_succ ..) ?_
  simp only [Int.toNat_natCast, hg]
  refine E.pos (by omega) (E.pos (by omega) (E.pos (by omega) (E.bind hx (E.ite (fun h => ?_) (fun h => ?_)))))
  ·have hn : x.1 ∉ F := by simpa using h
   refine E.pos (by omega) (E.pos (by omega) ?_)
   have hset : (kept ++ y :: junk ++ x :: post).set kept.length x = (kept ++ x :: junk) ++ x :: post := by simp
   rw [hset, wrap_nat (by omega), wrap_nat (by omega)]
   have el : leftL F (x :: post) = x :: leftL F post := by simp [leftL, hn]
   rw [el]
   cases junk with
   | nil =>
    have ih := deleteFunc_l5 F hF post (kept ++ [x]) x [] (by simp at hl ⊢; omega)
    simp only [List.append_assoc, List.cons_append, List.nil_append, List.length_append, List.length_cons, List.length_nil, Nat.zero_add] at ih ⊢
    exact ih
   | cons z junk =>
    have ih := deleteFunc_l5 F hF post (kept ++ [x]) z (junk ++ [x]) (by simp at hl ⊢; omega)
    simp only [List.append_assoc, List.cons_append, List.nil_append, List.length_append, List.length_cons, List.length_nil, Nat.zero_add] at ih ⊢
    first | exact ih | (rw [show kept.length + (1 + (junk.length + 1 + 1)) = kept.length + (junk.length + 1 + 1 + 1) by omega]; exact ih) | (rw [show kept.length + (junk.length + 1 + 1) + 1 = kept.length + (junk.length + 1 + 1 + 1) by omega]; exact ih)
  ·have hn : x.1 ∈ F := by simpa using h
   have ih := deleteFunc_l5 F hF post kept y (junk ++ [x]) (by simp at hl ⊢; omega)
   rw [wrap_nat (by omega)]
   have el : leftL F (x :: post) = leftL F post := by simp [leftL, hn]
   rw [el]
   simp only [List.append_assoc, List.cons_append, List.nil_append, List.length_append, List.length_cons, List.length_nil, Nat.zero_add] at ih ⊢
   exact ih
theorem leftL_none {F : List Int} {ls : List Ln} (h : ∀ l ∈ ls, l.1 ∉ F) : leftL F ls = ls := by
 unfold leftL
 rw [List.filter_eq_self]
 intro l hl
 simpa using h l hl
theorem deleteFunc_E (F : List Int) (hF : F.length ≤ 1000) (ls : List Ln) (hl : ls.length ≤ 1000000) : E (fun k => zf62 (k 0) (ls, F)) (leftL F ls) := by
 obtain ⟨r, hr, hc⟩ := indexFunc_l2 F hF ls [] (by simpa using hl) (fun l h => by cases h)
 have hi : E (fun k => zf64 (k 0) (ls, F)) r := E.congr (fun k => zf64.eq (k 0) ..) (E.ren (fun _ => 0) hr)
 refine E.congr (fun k => zf62.eq (k 0) ..) (E.bind hi ?_)
 rcases hc with ⟨rfl, hn⟩ | ⟨p, x, q, e, rfl, hx, hp⟩
 ·exact E.pos rfl (E.now' (leftL_none (by simpa using hn)).symm)
 ·have e' : ls = p ++ x :: q := by simpa using e
  subst e'
  have hlen : (p ++ x :: q).length = p.length + (q.length + 1) := by simp
  refine E.neg (by omega) ?_
  rw [wrap_nat (by omega)]
  have := deleteFunc_l5 F hF q p x [] (by simpa using hl)
  rw [show leftL F (p ++ x :: q) = p ++ leftL F q from by
   have := leftL_none hp
   unfold leftL at this ⊢
   rw [List.filter_append, this]
   simp [hx]]
  simp only [List.append_assoc, List.cons_append, List.nil_append, List.length_append, List.length_cons, List.length_nil, Nat.zero_add] at this
  exact E.ren (fun _ => 0) this
theorem implFail_E (c : Clb) (hc : vC c = true) (m : Int) : E (fun k => zf5 (k 0) (c, m)) (if okFail c m then (true, failedC c m) else (false, c)) := by
 obtain ⟨h1, h2, h3⟩ := vC_parts hc
 have a1 := vS_iff.1 h1
 have a2 := vLs_iff.1 h2
 refine E.congr (fun k => zf5.eq (k 0) c m) (E.bind (implCascade_E c.1 c.2.1 m) ?_)
 by_cases ho : okFail c m = true
 ·rw [if_pos ho]
  have hm : 0 ≤ m ∧ m < (c.1.length : Int) := of_decide_eq_true ho
  have hb := casM_bd h1 h2 hm
  refine E.neg (by omega) (E.bind (deleteFunc_E _ (by omega) c.2.1 (by omega)) (E.now' ?_))
  rw [wrap_id (by omega) (by omega)]
  rfl
 ·rw [if_neg ho]
  have hm : ¬ (0 ≤ m ∧ m < (c.1.length : Int)) := fun h => ho (decide_eq_true h)
  have e : casM c.1 c.2.1 m = ([], -1, []) := by
   unfold casM
   rw [decide_eq_false hm, Bool.and_false]; rfl
  rw [e]
  exact E.pos (by simp only; omega) (E.now _)
theorem change_E (c : Clb) (hc : vC c = true) (e : Ev7) (hl : e.2.2.2.2.1.length ≤ 1000000000) : ∃ p, E (fun k => zf4 (k 0) (c, e)) p ∧ (p.1 = true → evOut c e = some p.2) ∧ (p.1 = false → evOut c e = none) := by
 obtain ⟨h1, h2, h3⟩ := vC_parts hc
 have a1 := vS_iff.1 h1
 have e0 : ∀ k : Nat → Nat, zf4 (k 0) (c, e) = _ := fun k => zf4.eq (k 0) c e
 by_cases k0 : e.1 = 0
 ·exact ⟨_, E.congr e0 (E.pos k0 (E.pos (by simp [maxN]; omega) (E.now _))), fun _ => by unfold evOut; rw [if_pos k0]; rfl, fun h => by cases h⟩
 by_cases k1 : e.1 = 1
 ·refine ⟨_, E.congr e0 (E.neg k0 (E.pos k1 (E.bind (implMove_E c hc e 1 (.inl rfl)) (E.now _)))), ?_, ?_⟩
  ·intro h
   by_cases ho : okMove c e.2.1 e.2.2.1 = true
   ·rw [if_pos ho, Int.one_mul]; unfold evOut; rw [if_neg k0, if_pos k1, if_pos ho]
   ·rw [if_neg ho] at h; cases h
  ·intro h
   by_cases ho : okMove c e.2.1 e.2.2.1 = true
   ·rw [if_pos ho] at h; cases h
   ·unfold evOut; rw [if_neg k0, if_pos k1, if_neg ho]
 by_cases k2 : e.1 = 2
 ·by_cases ho : okMove c e.2.1 e.2.2.1 = true
  ·have hm := implMove_E c hc e (-1) (.inr rfl)
   rw [if_pos ho, show (-1 : Int) * e.2.2.1 = -e.2.2.1 by omega] at hm
   refine ⟨_, E.congr e0 (E.neg k0 (E.neg k1 (E.pos k2 (E.bind hm (E.pos rfl (E.bind (safeLoans_E _ _) (E.now _))))))), ?_, ?_⟩
   ·intro h
    simp only at h
    unfold evOut; rw [if_neg k0, if_neg k1, if_pos k2, ho]
    rw [show safeB (moved c e.2.1 (-e.2.2.1)).1 c.2.1 = true from h]; rfl
   ·intro h
    simp only at h
    unfold evOut; rw [if_neg k0, if_neg k1, if_pos k2, ho]
    rw [show safeB (moved c e.2.1 (-e.2.2.1)).1 c.2.1 = false from h]; rfl
  ·have hm := implMove_E c hc e (-1) (.inr rfl)
   rw [if_neg ho] at hm
   refine ⟨_, E.congr e0 (E.neg k0 (E.neg k1 (E.pos k2 (E.bind hm (E.neg (by simp) (E.now _)))))), fun h => (by cases h), fun _ => ?_⟩
   unfold evOut; rw [if_neg k0, if_neg k1, if_pos k2, Bool.eq_false_iff.2 ho]; rfl
 by_cases k3 : e.1 = 3
 ·refine ⟨_, E.congr e0 (E.neg k0 (E.neg k1 (E.neg k2 (E.pos k3 (E.bind (implLend_E c hc e hl) (E.now _)))))), ?_, ?_⟩
  ·intro h
   by_cases ho : safeB c.1 (c.2.1 ++ [(e.2.1, e.2.2.1, e.2.2.2.2.1)]) = true
   ·rw [if_pos ho]; unfold evOut; rw [if_neg k0, if_neg k1, if_neg k2, if_pos k3, if_pos ho]
   ·rw [if_neg ho] at h; cases h
  ·intro h
   by_cases ho : safeB c.1 (c.2.1 ++ [(e.2.1, e.2.2.1, e.2.2.2.2.1)]) = true
   ·rw [if_pos ho] at h; cases h
   ·unfold evOut; rw [if_neg k0, if_neg k1, if_neg k2, if_pos k3, if_neg ho]
 by_cases k4 : e.1 = 4
 ·refine ⟨_, E.congr e0 (E.neg k0 (E.neg k1 (E.neg k2 (E.neg k3 (E.pos k4 (E.bind (implRepay_E c hc e) (E.now _))))))), ?_, ?_⟩
  ·intro h
   by_cases ho : okPay c e = true
   ·rw [if_pos ho]; unfold evOut; rw [if_neg k0, if_neg k1, if_neg k2, if_neg k3, if_pos k4, if_pos ho]
   ·rw [if_neg ho] at h; cases h
  ·intro h
   by_cases ho : okPay c e = true
   ·rw [if_pos ho] at h; cases h
   ·unfold evOut; rw [if_neg k0, if_neg k1, if_neg k2, if_neg k3, if_pos k4, if_neg ho]
 by_cases k5 : e.1 = 5
 ·refine ⟨_, E.congr e0 (E.neg k0 (E.neg k1 (E.neg k2 (E.neg k3 (E.neg k4 (E.pos k5 (E.bind (implFail_E c hc e.2.1) (E.now _)))))))), ?_, ?_⟩
  ·intro h
   by_cases ho : okFail c e.2.1 = true
   ·rw [if_pos ho]; unfold evOut; rw [if_neg k0, if_neg k1, if_neg k2, if_neg k3, if_neg k4, if_pos k5, if_pos ho]
   ·rw [if_neg ho] at h; cases h
  ·intro h
   by_cases ho : okFail c e.2.1 = true
   ·rw [if_pos ho] at h; cases h
   ·unfold evOut; rw [if_neg k0, if_neg k1, if_neg k2, if_neg k3, if_neg k4, if_pos k5, if_neg ho]
 by_cases k6 : e.1 = 6
 ·refine ⟨_, E.congr e0 (E.neg k0 (E.neg k1 (E.neg k2 (E.neg k3 (E.neg k4 (E.neg k5 (E.pos k6 (E.bind (implNight_E c hc e.2.2.2.2.2) (E.now _))))))))), ?_, ?_⟩
  ·intro h
   by_cases ho : okRate e.2.2.2.2.2 = true
   ·rw [if_pos ho]; unfold evOut; rw [if_neg k0, if_neg k1, if_neg k2, if_neg k3, if_neg k4, if_neg k5, if_pos k6, if_pos ho]
   ·rw [if_neg ho] at h; cases h
  ·intro h
   by_cases ho : okRate e.2.2.2.2.2 = true
   ·rw [if_pos ho] at h; cases h
   ·unfold evOut; rw [if_neg k0, if_neg k1, if_neg k2, if_neg k3, if_neg k4, if_neg k5, if_pos k6, if_neg ho]
 by_cases k7 : e.1 = 7
 ·refine ⟨_, E.congr e0 (E.neg k0 (E.neg k1 (E.neg k2 (E.neg k3 (E.neg k4 (E.neg k5 (E.neg k6 (E.pos k7 (E.bind (implShare_E c hc) (E.now _)))))))))), ?_, ?_⟩
  ·intro h
   by_cases ho : c.2.2.2.1 < 0
   ·rw [if_pos ho] at h; cases h
   ·rw [if_neg ho]; unfold evOut; rw [if_neg k0, if_neg k1, if_neg k2, if_neg k3, if_neg k4, if_neg k5, if_neg k6, if_pos k7, if_neg ho]
  ·intro h
   by_cases ho : c.2.2.2.1 < 0
   ·unfold evOut; rw [if_neg k0, if_neg k1, if_neg k2, if_neg k3, if_neg k4, if_neg k5, if_neg k6, if_pos k7, if_pos ho]
   ·rw [if_neg ho] at h; cases h
 ·refine ⟨_, E.congr e0 (E.neg k0 (E.neg k1 (E.neg k2 (E.neg k3 (E.neg k4 (E.neg k5 (E.neg k6 (E.neg k7 (E.now _))))))))), fun h => (by cases h), fun _ => ?_⟩
  unfold evOut; rw [if_neg k0, if_neg k1, if_neg k2, if_neg k3, if_neg k4, if_neg k5, if_neg k6, if_neg k7]
def applyV (c : Clb) (e : Ev7) : Option Clb := if vC c then stepC c e else none
theorem implApply_E (c : Clb) (e : Ev7) (hl : e.2.2.2.2.1.length ≤ 1000000000) : E (fun k => zf2 (k 0) (c, e)) (tellC (applyV c e)) := by
 refine E.congr (fun k => zf2.eq (k 0) c e) (E.bind (implValidClub_E c) (E.ite (fun h => E.now' ?_) (fun h => ?_)))
 ·simp only [Bool.not_eq_true'] at h
  unfold applyV; rw [if_neg (by rw [h]; decide)]; rfl
 ·simp only [Bool.not_eq_true', Bool.not_eq_false] at h
  obtain ⟨p, hp, y, z⟩ := change_E c h e hl
  unfold applyV; rw [if_pos h]
  refine E.bind (implCopyClub_E c (vC_fits h)) (E.bind hp (E.ite (fun h2 => E.now' ?_) (fun h2 => E.bind (implValidClub_E _) (E.ite (fun h3 => E.now' ?_) (fun h3 => E.now' ?_)))))
  ·simp only [Bool.not_eq_true'] at h2
   unfold stepC; rw [z h2]; rfl
  ·simp only [Bool.not_eq_true', Bool.not_eq_false] at h2 h3
   unfold stepC; rw [y h2]
   show _ = tellC (checkC p.2)
   unfold checkC; rw [if_neg (by rw [show vC p.2 = false from h3]; decide)]; rfl
  ·simp only [Bool.not_eq_true', Bool.not_eq_false] at h2 h3
   unfold stepC; rw [y h2]
   show _ = tellC (checkC p.2)
   unfold checkC; rw [if_pos (show vC p.2 = true from h3)]; rfl
theorem specApply2_E (c : Clb) (e : Ev7) (hs : Small c) (hl : e.2.2.2.2.1.length ≤ 1000000000) : E (fun k => zf67 (k 0) (c, e)) (tellC (applyV c e)) := by
 refine E.congr (fun k => zf67.eq (k 0) c e) (E.bind (specValidClub_E c hs.1 hs.2) (E.ite (fun h => E.now' ?_) (fun h => ?_)))
 ·simp only [Bool.not_eq_true'] at h
  unfold applyV; rw [if_neg (by rw [h]; decide)]; rfl
 ·simp only [Bool.not_eq_true', Bool.not_eq_false] at h
  unfold applyV; rw [if_pos h]
  exact E.bind (specApply_E c h e hl) (E.now _)
end Go.Proofs.YtmnmbjnhhhdegaaGreatDoorG
end
section
set_option linter.unusedVariables false
namespace Go.Proofs.YtmnmbjnhhhdegaaGreatDoorG
open Go Go.Refl Go.Refl.Math Go.RowKit
theorem applyV_some {c d : Clb} {e : Ev7} (h : applyV c e = some d) : vC c = true ∧ stepC c e = some d := by
 unfold applyV at h
 split at h
 ·rename_i hv; exact ⟨hv, h⟩
 ·cases h
theorem applyV_valid {c d : Clb} {e : Ev7} (h : applyV c e = some d) : vC d = true := stepC_valid (applyV_some h).2
theorem drawApply_D (x : List Int) (hx : ∀ b ∈ x, 0 ≤ b ∧ b < 256) : ∃ c e, E (fun k => zf68 (k 0) x) (c, e) ∧ Fits c ∧ e.2.2.2.2.1.length ≤ 1000000000 ∧ e.2.2.2.2.1.length ≤ 12 ∧ (-1000 ≤ e.2.2.2.2.2.1 ∧ e.2.2.2.2.2.1 ≤ 1000) ∧ (-1000 ≤ e.2.2.2.2.2.2 ∧ e.2.2.2.2.2.2 ≤ 1000) := by
 obtain ⟨c, p1, h1, f, r1⟩ := anyClub_D (start_rd hx) (by omega)
 have e0 : ∀ k : Nat → Nat, zf68 (k 0) x = _ := fun k => zf68.eq (k 0) x
 have hv := specValidClub_E c f.small.1 f.small.2
 by_cases v : vC c = true
 ·have a1 := vS_iff.1 (vC_parts v).1
  obtain ⟨e, p2, h2, r2, g⟩ := someEvent_D c (by omega) (by omega) r1 (by omega)
  obtain ⟨y, h3, _, _, r3⟩ := pick_D r2 (by omega) 16
  by_cases k0 : y = 0
  ·obtain ⟨z, h4, _, _⟩ := one_D r3 (by omega) (List.set (List.set (List.set (List.set (List.replicate 4 0) 0 8) 1 (-1)) 2 1) 3 3) (by simp)
   exact ⟨_, _, E.congr e0 (E.bind (newReader_E x) (E.bind h1 (E.bind hv (E.pos v (E.bind h2 (E.bind h3 (E.pos k0 (E.bind h4 (E.now _))))))))), f, by simp only; omega, by simp only; omega, g.2⟩
  by_cases k1 : y = 1
  ·obtain ⟨z, h4, _, _⟩ := one_D r3 (by omega) (List.set (List.set (List.set (List.set (List.replicate 4 0) 0 0) 1 100001) 2 1000001) 3 (-1)) (by simp)
   exact ⟨_, _, E.congr e0 (E.bind (newReader_E x) (E.bind h1 (E.bind hv (E.pos v (E.bind h2 (E.bind h3 (E.neg k0 (E.pos k1 (E.bind h4 (E.now _)))))))))), f, by simp only; omega, by simp only; omega, g.2⟩
  by_cases k2 : y = 2
  ·obtain ⟨z, h4, _, _⟩ := one_D r3 (by omega) (List.set (List.set (List.set (List.replicate 3 0) 0 (-1)) 1 12) 2 100) (by simp)
   exact ⟨_, _, E.congr e0 (E.bind (newReader_E x) (E.bind h1 (E.bind hv (E.pos v (E.bind h2 (E.bind h3 (E.neg k0 (E.neg k1 (E.pos k2 (E.bind h4 (E.now _))))))))))), f, by simp only; omega, by simp only; omega, g.2⟩
  ·exact ⟨_, _, E.congr e0 (E.bind (newReader_E x) (E.bind h1 (E.bind hv (E.pos v (E.bind h2 (E.bind h3 (E.neg k0 (E.neg k1 (E.neg k2 (E.now _)))))))))), f, by simp only; omega, by simp only; omega, g.2⟩
 ·obtain ⟨y, h3, _, _, r3⟩ := pick_D r1 (by omega) 16
  by_cases k0 : y = 0
  ·obtain ⟨z, h4, _, _⟩ := one_D r3 (by omega) (List.set (List.set (List.set (List.set (List.replicate 4 0) 0 8) 1 (-1)) 2 1) 3 3) (by simp)
   exact ⟨_, _, E.congr e0 (E.bind (newReader_E x) (E.bind h1 (E.bind hv (E.neg v (E.bind h3 (E.pos k0 (E.bind h4 (E.now _)))))))), f, by simp, by simp, by simp, by simp⟩
  by_cases k1 : y = 1
  ·obtain ⟨z, h4, _, _⟩ := one_D r3 (by omega) (List.set (List.set (List.set (List.set (List.replicate 4 0) 0 0) 1 100001) 2 1000001) 3 (-1)) (by simp)
   exact ⟨_, _, E.congr e0 (E.bind (newReader_E x) (E.bind h1 (E.bind hv (E.neg v (E.bind h3 (E.neg k0 (E.pos k1 (E.bind h4 (E.now _))))))))), f, by simp, by simp, by simp, by simp⟩
  by_cases k2 : y = 2
  ·obtain ⟨z, h4, _, _⟩ := one_D r3 (by omega) (List.set (List.set (List.set (List.replicate 3 0) 0 (-1)) 1 12) 2 100) (by simp)
   exact ⟨_, _, E.congr e0 (E.bind (newReader_E x) (E.bind h1 (E.bind hv (E.neg v (E.bind h3 (E.neg k0 (E.neg k1 (E.pos k2 (E.bind h4 (E.now _)))))))))), f, by simp, by simp, by simp, by simp⟩
  ·exact ⟨_, _, E.congr e0 (E.bind (newReader_E x) (E.bind h1 (E.bind hv (E.neg v (E.bind h3 (E.neg k0 (E.neg k1 (E.neg k2 (E.now _)))))))) ), f, by simp, by simp, by simp, by simp⟩
theorem equalNone_E : E (fun k => zf52 (k 0) (zeroC, zeroC)) true := equalTell_E none (fun d h => by cases h)
theorem apply_none {c : Clb} {e : Ev7} (f : Fits c) (hl : e.2.2.2.2.1.length ≤ 1000000000) (ho : applyV c e = none) : E (fun k => zf2 (k 0) (c, e)) (zeroC, false) ∧ E (fun k => zf67 (k 0) (c, e)) (zeroC, false) := by
 have h1 := implApply_E c e hl
 have h2 := specApply2_E c e f.small hl
 rw [ho] at h1 h2
 exact ⟨h1, h2⟩
theorem apply_some {c d : Clb} {e : Ev7} (f : Fits c) (hl : e.2.2.2.2.1.length ≤ 1000000000) (ho : applyV c e = some d) : E (fun k => zf2 (k 0) (c, e)) (d, true) ∧ E (fun k => zf67 (k 0) (c, e)) (d, true) := by
 have h1 := implApply_E c e hl
 have h2 := specApply2_E c e f.small hl
 rw [ho] at h1 h2
 exact ⟨h1, h2⟩
end Go.Proofs.YtmnmbjnhhhdegaaGreatDoorG
end
section
set_option linter.unusedVariables false
namespace Go.Proofs.YtmnmbjnhhhdegaaGreatDoorG
open Go Go.Refl Go.Refl.Math Go.RowKit
theorem applyV_of {c : Clb} (h : vC c = true) (e : Ev7) : applyV c e = stepC c e := by unfold applyV; rw [if_pos h]
theorem EvsOk.set {l : List Ev7} (h : EvsOk l) (i : Nat) (x : Ev7) (hx : x.2.2.2.2.1.length ≤ 1048576 ∧ (-1000 ≤ x.2.2.2.2.2.1 ∧ x.2.2.2.2.2.1 ≤ 1000) ∧ (-1000 ≤ x.2.2.2.2.2.2 ∧ x.2.2.2.2.2.2 ≤ 1000)) : EvsOk (l.set i x) := fun e he => by
 rcases List.mem_or_eq_of_mem_set he with h1 | h1
 ·exact h e h1
 ·rw [h1]; exact hx
theorem EvsD.set {l : List Ev7} (h : EvsD l) (i : Nat) (x : Ev7) (hx : x.2.2.2.2.1.length ≤ 12 ∧ (-1000 ≤ x.2.2.2.2.2.1 ∧ x.2.2.2.2.2.1 ≤ 1000) ∧ (-1000 ≤ x.2.2.2.2.2.2 ∧ x.2.2.2.2.2.2 ≤ 1000)) : EvsD (l.set i x) := fun e he => by
 rcases List.mem_or_eq_of_mem_set he with h1 | h1
 ·exact h e h1
 ·rw [h1]; exact hx
end Go.Proofs.YtmnmbjnhhhdegaaGreatDoorG
end
section
set_option linter.unusedVariables false
namespace Go.Proofs.YtmnmbjnhhhdegaaGreatDoorG
open Go Go.Refl Go.Refl.Math Go.RowKit
theorem evOut_canon (c : Clb) (e : Ev7) : evOut c (canon e) = evOut c e := by
 obtain ⟨k, m, a, b, g, nu, de⟩ := e
 unfold canon
 by_cases h0 : k = 0 ∨ k = 7
 ·rw [if_pos h0]
  rcases h0 with h0 | h0
  ·subst h0; rfl
  ·subst h0; rfl
 rw [if_neg h0]
 by_cases h6 : k = 6
 ·rw [if_pos h6]; subst h6; rfl
 rw [if_neg h6]
 by_cases h5 : k = 5
 ·rw [if_pos h5]; subst h5; rfl
 rw [if_neg h5]
 by_cases h4 : k = 4
 ·rw [if_pos h4]; subst h4; rfl
 rw [if_neg h4]
 by_cases h3 : k = 3
 ·rw [if_pos h3]; subst h3; rfl
 rw [if_neg h3]
 have n0 : ¬ k = 0 := fun h => h0 (.inl h)
 have n7 : ¬ k = 7 := fun h => h0 (.inr h)
 unfold evOut
 simp only [n0, h6, h5, h4, h3, n7, if_false]
theorem stepC_canon (c : Clb) (e : Ev7) : stepC c (canon e) = stepC c e := by unfold stepC; rw [evOut_canon]
theorem FnFormatEventSame_pure (x : List Int) (hw : WfT (.slice (.int .u8)) x) : ∃ n, zf48 n x = some true := by
 have hx := u8_lt hw
 refine E.one (E.congr (fun k => zf48.eq (k 0) x) (E.ite (fun h => E.now _) (fun h => ?_)))
 obtain ⟨c, e, hd, f, hl, b1, b2, b3⟩ := drawApply_D x hx
 cases ho : applyV c e with
 | none =>
  obtain ⟨g1, g2⟩ := apply_none f hl ho
  exact E.bind hd (E.bind g1 (E.bind g2 (E.bind equalNone_E (E.neg (by decide) (E.pos rfl (E.pos rfl (E.bind equalNone_E (E.pos rfl (E.now' (by simp))))))))))
 | some d =>
  obtain ⟨g1, g2⟩ := apply_some f hl ho
  obtain ⟨hc, hs⟩ := applyV_some ho
  have hv := applyV_valid ho
  have h1 := implEvt_E e (by omega) (by omega) (by omega) (by omega) (by omega)
  have hz : (evtT e).size < 400000000 := by have := evtT_size e; omega
  have h3 := implParse_E (evtT e) hz
  refine E.bind hd (E.bind g1 (E.bind g2 (E.bind (equalSelf_E d hv) (E.neg (by decide) (E.pos rfl (E.neg (by simp) (E.bind h1 ?_)))))))
  by_cases he : evtT e = ByteArray.empty
  ·have hp : parseT (evtT e) = (zEvR, false) := parse_no fun e' h' => he
   rw [hp] at h3
   exact E.bind h3 (E.pos rfl (E.bind h1 (E.now' (decide_eq_true he))))
  ·have hp := parse_yes rfl he
   obtain ⟨q1, _, _⟩ := parse_small hz
   have hst : applyV c (canon e) = some d := by rw [applyV_of hc, stepC_canon]; exact hs
   rw [hp] at h3 q1
   generalize canon e = r at h3 q1 hst
   simp only at q1
   obtain ⟨g3, _⟩ := apply_some (e := r) f (by omega) hst
   exact E.bind h3 (E.neg (fun h => by cases (show false = true from h)) (E.bind g3 (E.pos rfl (E.bind (equalSelf_E d hv) (E.now _)))))
end Go.Proofs.YtmnmbjnhhhdegaaGreatDoorG
end
