/- Both ways to find the greatest loan answer alike, for all arguments. -/
import Derived.Test.YtifohlgdkdcpeaaMathFnExactMostLoan
import Derived.Test.YtifohlgdkdcpeaaSaysFnExactMostLoan
namespace Go.Proofs.Ytifohlgdkdcpeaa.Pure
open Go.RowKit Go.Proofs.Ytifohlgdkdcpeaa.PFnExactMostLoan Go.Proofs.Ytifohlgdkdcpeaa.M Go.Proofs.YtifohlgdkdcpeaaW.PrintWords Go.Proofs.YtifohlgdkdcpeaaW.PrintLast Go.Proofs.YtifohlgdkdcpeaaW.PrintMore
theorem allWithin_loop (lo hi : Int) : ∀ (post pre : List Int), (pre ++ post).length < 4611686018427387904 →
    Ev (fun k => impl_allWithin.l0 k lo hi (pre ++ post) ((pre ++ post).length : Int) (pre.length : Int)) (allW post lo hi)
  | [], pre, _ => Ev.step (fun _ => impl_allWithin.l0.eq_2 ..) (Ev.neg (by simp) (Ev.now' (by simp [allW])))
  | x :: post, pre, hl => by
    have ih := allWithin_loop lo hi post (pre ++ [x]) (by simpa using hl)
    refine Ev.step (fun _ => impl_allWithin.l0.eq_2 ..) (Ev.pos (by simp; omega) (Ev.pos (by omega) (Ev.pos (by simp; omega) ?_)))
    simp only [rd_mid]
    rw [wrap_nat (by simp at hl; omega)]
    rw [show (pre ++ [x]).length = pre.length + 1 from by simp, List.append_assoc] at ih
    refine Ev.ite (fun h => Ev.now' (by simp [allW]; omega)) (fun h => Ev.ite (fun h2 => Ev.now' (by simp [allW]; omega)) (fun h2 => Ev.is ih ?_))
    rw [allW_cons]
    simp; omega
theorem allWithin_ev (xs : List Int) (lo hi : Int) (hl : xs.length < 4611686018427387904) : Ev (fun k => impl_allWithin.f k xs lo hi) (allW xs lo hi) :=
  Ev.congr (fun _ => impl_allWithin.f.eq_1 ..) (allWithin_loop lo hi xs [] (by simpa using hl))
theorem inRange_eq (n lo hi : Int) : spec_inRange.f n lo hi = some (decide (lo ≤ n) && decide (n ≤ hi)) := by
  unfold spec_inRange.f
  by_cases h : lo ≤ n <;> simp [h]
theorem allIn_loop (lo hi : Int) : ∀ (post pre : List Int), (pre ++ post).length < 4611686018427387904 →
    Ev (fun k => spec_allIn.l0 k (pre ++ post) lo hi (pre.length : Int)) (allW post lo hi)
  | [], pre, _ => Ev.step (fun _ => spec_allIn.l0.eq_2 ..) (Ev.neg (by simp) (Ev.now' (by simp [allW])))
  | x :: post, pre, hl => by
    have ih := allIn_loop lo hi post (pre ++ [x]) (by simpa using hl)
    refine Ev.step (fun _ => spec_allIn.l0.eq_2 ..) (Ev.pos (by simp; omega) (Ev.pos (by omega) ?_))
    simp only [rd_mid]
    rw [wrap_nat (by simp at hl; omega)]
    rw [show (pre ++ [x]).length = pre.length + 1 from by simp, List.append_assoc] at ih
    refine Ev.bind0 (inRange_eq ..) (Ev.ite (fun h => Ev.is ih ?_) (fun h => Ev.now' ?_))
    · rw [allW_cons, h, Bool.true_and]
    · rw [allW_cons, Bool.eq_false_iff.2 h, Bool.false_and]
theorem allIn_ev (xs : List Int) (lo hi : Int) (hl : xs.length < 4611686018427387904) : Ev (fun k => spec_allIn.f k xs lo hi) (allW xs lo hi) :=
  Ev.congr (fun _ => spec_allIn.f.eq_1 ..) (allIn_loop lo hi xs [] (by simpa using hl))
theorem index_loop (v : Int) : ∀ (post pre : List Int), (pre ++ post).length < 4611686018427387904 → v ∉ pre →
    Ev (fun k => slices_Index_int_int.l0 k (pre ++ post) v ((pre ++ post).length : Int) (pre.length : Int)) (idxI (pre ++ post) v)
  | [], pre, _, hv => Ev.step (fun _ => slices_Index_int_int.l0.eq_2 ..) (Ev.neg (by simp) (Ev.now' (by simp [idxI, hv])))
  | x :: post, pre, hl, hv => by
    refine Ev.step (fun _ => slices_Index_int_int.l0.eq_2 ..) (Ev.pos (by simp; omega) (Ev.pos (by omega) (Ev.pos (by simp; omega) ?_)))
    simp only [rd_mid]
    rw [wrap_nat (by simp at hl; omega)]
    refine Ev.ite (fun h => Ev.now' ?_) (fun h => ?_)
    · subst h
      simp [idxI, List.idxOf_append, hv]
    · have ih := index_loop v post (pre ++ [x]) (by simpa using hl) (by simp [hv, h])
      rwa [show (pre ++ [x]).length = pre.length + 1 from by simp, List.append_assoc] at ih
theorem index_ev (xs : List Int) (v : Int) (hl : xs.length < 4611686018427387904) : Ev (fun k => slices_Index_int_int.f k xs v) (idxI xs v) :=
  Ev.congr (fun _ => slices_Index_int_int.f.eq_1 ..) (index_loop v xs [] (by simpa using hl) (by simp))
theorem contains_ev (xs : List Int) (v : Int) (hl : xs.length < 4611686018427387904) : Ev (fun k => slices_Contains_int_int.f k xs v) (decide (v ∈ xs)) := by
  refine Ev.congr (fun _ => slices_Contains_int_int.f.eq_1 ..) (Ev.bind (index_ev xs v hl) (Ev.now' ?_))
  have := idxI_neg (xs := xs) (v := v)
  by_cases h : v ∈ xs <;> simp [h] at this ⊢ <;> omega
theorem placeIn_loop (v : Int) : ∀ (post pre : List Int), (pre ++ post).length < 4611686018427387904 → v ∉ pre →
    Ev (fun k => spec_placeIn.l0 k (pre ++ post) v (pre.length : Int)) (idxI (pre ++ post) v)
  | [], pre, _, hv => Ev.step (fun _ => spec_placeIn.l0.eq_2 ..) (Ev.neg (by simp) (Ev.now' (by simp [idxI, hv])))
  | x :: post, pre, hl, hv => by
    refine Ev.step (fun _ => spec_placeIn.l0.eq_2 ..) (Ev.pos (by simp; omega) (Ev.pos (by omega) ?_))
    simp only [rd_mid]
    rw [wrap_nat (by simp at hl; omega)]
    refine Ev.ite (fun h => Ev.now' ?_) (fun h => ?_)
    · subst h
      simp [idxI, List.idxOf_append, hv]
    · have ih := placeIn_loop v post (pre ++ [x]) (by simpa using hl) (by simp [hv, Ne.symm h])
      rwa [show (pre ++ [x]).length = pre.length + 1 from by simp, List.append_assoc] at ih
theorem placeIn_ev (xs : List Int) (v : Int) (hl : xs.length < 4611686018427387904) : Ev (fun k => spec_placeIn.f k xs v) (idxI xs v) :=
  Ev.congr (fun _ => spec_placeIn.f.eq_1 ..) (placeIn_loop v xs [] (by simpa using hl) (by simp))
/-- Different numbers below a bound. -/
def diffB (xs : List Int) (n : Int) : Bool := decide ((xs.length : Int) ≤ n) && allW xs 0 (n - 1) && decide xs.Nodup
theorem differentBelow_loop (n : Nat) : ∀ (post pre : List Int) (seen : Nat → Bool), (pre ++ post).length < 4611686018427387904 →
    (∀ j, j < n → (seen j = true ↔ (j : Int) ∈ pre)) →
    Ev (fun k => impl_differentBelow.l0 k (n : Int) (tab n seen) (pre ++ post) ((pre ++ post).length : Int) (pre.length : Int)) (allW post 0 ((n : Int) - 1) && decide (post.Nodup ∧ ∀ x ∈ post, x ∉ pre))
  | [], pre, _, _, _ => Ev.step (fun _ => impl_differentBelow.l0.eq_2 ..) (Ev.neg (by simp) (Ev.now' (by simp [allW])))
  | x :: post, pre, seen, hl, hs => by
    refine Ev.step (fun _ => impl_differentBelow.l0.eq_2 ..) (Ev.pos (by simp; omega) (Ev.pos (by omega) (Ev.pos (by simp; omega) ?_)))
    simp only [rd_mid]
    rw [wrap_nat (by simp at hl; omega)]
    refine Ev.ite (fun h => Ev.now' (by simp [allW]; omega)) (fun h => Ev.ite (fun h2 => Ev.now' (by simp [allW]; omega)) (fun h2 => ?_))
    obtain ⟨m, rfl⟩ : ∃ m : Nat, x = m := ⟨x.toNat, by omega⟩
    have hm : m < n := by omega
    have hsm := hs m hm
    refine Ev.pos (by omega) (Ev.pos (by rw [tab_length]; omega) ?_)
    rw [show rdOf false (tab n seen) (m : Int) = seen m from by unfold rdOf; rw [Int.toNat_natCast, tab_get _ hm], Int.toNat_natCast, tab_set]
    refine Ev.ite (fun h3 => Ev.now' ?_) (fun h3 => ?_)
    · have := hsm.1 h3
      simp [this]
    · have hmp : (m : Int) ∉ pre := fun hh => h3 (hsm.2 hh)
      have ih := differentBelow_loop n post (pre ++ [(m : Int)]) (fun j => if j = m then true else seen j) (by simpa using hl) (by
        intro j hj
        by_cases e : j = m
        · subst e; simp
        · have := hs j hj
          simp only [if_neg e, this, List.mem_append, List.mem_cons, List.not_mem_nil, or_false]
          constructor
          · exact fun hh => .inl hh
          · rintro (hh | hh)
            · exact hh
            · exact absurd (by omega) e)
      rw [show (pre ++ [(m : Int)]).length = pre.length + 1 from by simp, List.append_assoc] at ih
      refine Ev.is ih ?_
      rw [allW_cons]
      have e1 : (decide ((0 : Int) ≤ m) && decide ((m : Int) ≤ (n : Int) - 1)) = true := by simp; omega
      rw [e1, Bool.true_and]
      congr 1
      simp only [List.nodup_cons, List.mem_append, List.mem_cons, List.not_mem_nil, or_false, decide_eq_decide]
      constructor
      · rintro ⟨h1, h4⟩
        refine ⟨⟨fun hh => (h4 _ hh) (.inr rfl), h1⟩, ?_⟩
        rintro y (rfl | hy)
        · exact hmp
        · exact fun hh => h4 y hy (.inl hh)
      · rintro ⟨⟨h1, h4⟩, h5⟩
        refine ⟨h4, fun y hy => ?_⟩
        rintro (hh | rfl)
        · exact h5 y (.inr hy) hh
        · exact h1 hy
theorem differentBelow_ev (xs : List Int) (n : Nat) (hn : n ≤ 281474976710656) : Ev (fun k => impl_differentBelow.f k xs (n : Int)) (diffB xs n) := by
  refine Ev.congr (fun _ => impl_differentBelow.f.eq_1 ..) (Ev.ite (fun h => Ev.now' ?_) (fun h => Ev.pos (by omega) (Ev.pos (by omega) ?_)))
  · simp [diffB]; omega
  · rw [Int.toNat_natCast, replicate_tab]
    have := differentBelow_loop n xs [] (fun _ => false) (by simp; omega) (by simp)
    refine Ev.is this ?_
    have e : decide ((xs.length : Int) ≤ n) = true := by simp; omega
    simp only [diffB, e, Bool.true_and]
    simp
theorem splitEven_loop (x : Int) (p : Nat) (hx : 0 ≤ x) (hx2 : x ≤ 1000000) (hp : 0 < p) (hp2 : p ≤ 12) : ∀ (d i : Nat), i + d = p →
    Ev (fun k => impl_SplitEven.l0 k x (p : Int) (tab p (fun j => if j < i then spl x p j else 0)) (p : Int) (i : Int)) (tab p (spl x p))
  | 0, i, hi => Ev.step (fun _ => impl_SplitEven.l0.eq_2 ..) (Ev.neg (by omega) (Ev.now' (tab_ext fun j hj => if_pos (by omega))))
  | d + 1, i, hi => by
    have ih := splitEven_loop x p hx hx2 hp hp2 d (i + 1) (by omega)
    refine Ev.step (fun _ => impl_SplitEven.l0.eq_2 ..) (Ev.pos (by omega) (Ev.neg (by omega) (Ev.pos (by omega) (Ev.pos (by rw [tab_length]; omega) (Ev.bind0 rfl ?_)))))
    have hq0 := Int.ediv_nonneg hx (show (0 : Int) ≤ (p : Int) by omega)
    have hq1 := Int.ediv_le_self (b := (p : Int)) hx
    rw [Int.tdiv_eq_ediv_of_nonneg hx, Int.tmod_eq_emod_of_nonneg hx, Int.toNat_natCast, tab_set, tab_set, tab_rd (by omega), wrap_nat (by omega), if_pos rfl, wrap_id (x := x / p) (by omega) (by omega), wrap_id (x := x / p + 1) (by omega) (by omega)]
    refine Ev.ite (fun h => Ev.is ?_ rfl) (fun h => Ev.is ?_ rfl)
    · refine Ev.is (Ev.congr (fun k => ?_) ih) rfl
      congr 1
      refine tab_ext fun j hj => ?_
      by_cases e : j = i
      · subst e; simp [spl, h]
      · simp only [if_neg e]; by_cases e2 : j < i
        · rw [if_pos e2, if_pos (by omega)]
        · rw [if_neg e2, if_neg (by omega)]
    · refine Ev.is (Ev.congr (fun k => ?_) ih) rfl
      congr 1
      refine tab_ext fun j hj => ?_
      by_cases e : j = i
      · subst e; simp [spl, h]
      · simp only [if_neg e]; by_cases e2 : j < i
        · rw [if_pos e2, if_pos (by omega)]
        · rw [if_neg e2, if_neg (by omega)]
theorem splitEven_ev (x : Int) (p : Nat) (hx : 0 ≤ x) (hx2 : x ≤ 1000000) (hp : 0 < p) (hp2 : p ≤ 12) : Ev (fun k => impl_SplitEven.f k x (p : Int)) (tab p (spl x p)) := by
  refine Ev.congr (fun _ => impl_SplitEven.f.eq_1 ..) (Ev.neg (by omega) (Ev.neg (by omega) (Ev.neg (by omega) (Ev.step (fun _ => impl_SplitEven.j0.eq_2 ..) (Ev.neg (by simp; omega) (Ev.pos (by omega) (Ev.pos (by omega) (Ev.bind0 rfl ?_))))))))
  rw [Int.toNat_natCast, List.length_replicate, replicate_tab]
  exact splitEven_loop x p hx hx2 hp hp2 p 0 (by omega)
theorem splitEven_none (x p : Int) (h : x < 0 ∨ 1000000 < x ∨ p < 1 ∨ 12 < p) : Ev (fun k => impl_SplitEven.f k x p) [] := by
  refine Ev.congr (fun _ => impl_SplitEven.f.eq_1 ..) (Ev.ite (fun _ => ?_) fun _ => Ev.ite (fun _ => ?_) fun _ => Ev.ite (fun _ => ?_) fun _ => ?_)
  all_goals exact Ev.step (fun _ => impl_SplitEven.j0.eq_2 ..) (Ev.pos (by first | rfl | (simp; omega)) (Ev.now _))
theorem split_loop (x : Int) (p : Nat) (hx : 0 ≤ x) (hx2 : x ≤ 1000000) (hp2 : p ≤ 1000) : ∀ (d i : Nat), i + d = p →
    Ev (fun k => spec_split.l0 k x (p : Int) (tab i (spl x p)) (i : Int)) (tab p (spl x p))
  | 0, i, hi => Ev.step (fun _ => spec_split.l0.eq_2 ..) (Ev.neg (by omega) (Ev.now' (by rw [show i = p by omega])))
  | d + 1, i, hi => by
    have ih := split_loop x p hx hx2 hp2 d (i + 1) (by omega)
    refine Ev.step (fun _ => spec_split.l0.eq_2 ..) (Ev.pos (by omega) (Ev.neg (by omega) ?_))
    have hq0 := Int.ediv_nonneg hx (show (0 : Int) ≤ (p : Int) by omega)
    have hq1 := Int.ediv_le_self (b := (p : Int)) hx
    rw [Int.tdiv_eq_ediv_of_nonneg hx, Int.tmod_eq_emod_of_nonneg hx, wrap_nat (by omega), wrap_id (x := x / p) (by omega) (by omega), wrap_id (x := x / p + 1) (by omega) (by omega)]
    rw [tab_succ] at ih
    refine Ev.ite (fun h => Ev.pos (by rw [tab_length]; omega) ?_) (fun h => Ev.pos (by rw [tab_length]; omega) ?_)
    · rwa [show spl x p i = x / p + 1 from by simp [spl, h]] at ih
    · rwa [show spl x p i = x / p from by simp [spl, h]] at ih
theorem split_ev (x : Int) (p : Nat) (hx : 0 ≤ x) (hx2 : x ≤ 1000000) (hp2 : p ≤ 1000) : Ev (fun k => spec_split.f k x (p : Int)) (tab p (spl x p)) :=
  Ev.congr (fun _ => spec_split.f.eq_1 ..) (split_loop x p hx hx2 hp2 p 0 (by omega))
/-- A valid loan. -/
def vL (l : S42) (m : Int) : Bool := decide (0 ≤ l.f0 ∧ l.f0 < m ∧ 1 ≤ l.f1 ∧ l.f1 ≤ 100000 ∧ 1 ≤ l.f2.length) && diffB l.f2 m && decide (l.f0 ∉ l.f2)
def vLs (ls : List S42) (m : Int) : Bool := decide (ls.length ≤ 16 ∧ 1 ≤ m ∧ m ≤ 12) && ls.all fun l => vL l m
theorem diffB_iff {xs : List Int} {n : Int} : diffB xs n = true ↔ (xs.length : Int) ≤ n ∧ (∀ x ∈ xs, 0 ≤ x ∧ x ≤ n - 1) ∧ xs.Nodup := by
  unfold diffB
  rw [Bool.and_eq_true, Bool.and_eq_true, allW_iff, decide_eq_true_iff, decide_eq_true_iff]
  exact ⟨fun h => ⟨h.1.1, h.1.2, h.2⟩, fun h => ⟨⟨h.1, h.2.1⟩, h.2.2⟩⟩
theorem vL_iff {l : S42} {m : Int} : vL l m = true ↔ (0 ≤ l.f0 ∧ l.f0 < m ∧ 1 ≤ l.f1 ∧ l.f1 ≤ 100000 ∧ 1 ≤ l.f2.length) ∧ ((l.f2.length : Int) ≤ m ∧ (∀ x ∈ l.f2, 0 ≤ x ∧ x ≤ m - 1) ∧ l.f2.Nodup) ∧ l.f0 ∉ l.f2 := by
  unfold vL
  rw [Bool.and_eq_true, Bool.and_eq_true, decide_eq_true_iff, decide_eq_true_iff, diffB_iff]
  exact ⟨fun h => ⟨h.1.1, h.1.2, h.2⟩, fun h => ⟨⟨h.1, h.2.1⟩, h.2.2⟩⟩
theorem vLs_iff {ls : List S42} {m : Int} : vLs ls m = true ↔ (ls.length ≤ 16 ∧ 1 ≤ m ∧ m ≤ 12) ∧ ∀ l ∈ ls, vL l m = true := by
  unfold vLs
  rw [Bool.and_eq_true, decide_eq_true_iff, List.all_eq_true]
theorem rdT_mid (pre post : List S42) (x : S42) : rd_T42 (pre ++ x :: post) (pre.length : Int) = x := by
  unfold rd_T42
  rw [Int.toNat_natCast]
  simp [List.getD_eq_getElem?_getD]
theorem diffB_len {xs : List Int} {n : Int} (h : diffB xs n = true) : (xs.length : Int) ≤ n := (diffB_iff.1 h).1
theorem differentBelow_any (xs : List Int) (n : Int) (h0 : 0 ≤ n) (hn : n ≤ 281474976710656) : Ev (fun k => impl_differentBelow.f k xs n) (diffB xs n) := by
  obtain ⟨m, rfl⟩ : ∃ m : Nat, n = m := ⟨n.toNat, by omega⟩
  exact differentBelow_ev xs m (by omega)
theorem validLoans_loop (m : Int) (hm : 1 ≤ m ∧ m ≤ 12) : ∀ (post pre : List S42), (pre ++ post).length ≤ 16 →
    Ev (fun k => impl_ValidLoans.l0 k m (pre ++ post) ((pre ++ post).length : Int) (pre.length : Int)) (post.all fun l => vL l m)
  | [], pre, _ => Ev.step (fun _ => impl_ValidLoans.l0.eq_2 ..) (Ev.neg (by simp) (Ev.now _))
  | x :: post, pre, hl => by
    have ih := validLoans_loop m hm post (pre ++ [x]) (by simpa using hl)
    rw [show (pre ++ [x]).length = pre.length + 1 from by simp, List.append_assoc] at ih
    have no : vL x m ≠ true → ((x :: post).all fun l => vL l m) = false := by
      intro h
      rw [List.all_cons, Bool.eq_false_iff.2 h, Bool.false_and]
    have j2 : ∀ b : Bool, (b = true → vL x m ≠ true) → (b = false → 0 ≤ x.f0 ∧ x.f0 < m ∧ 1 ≤ x.f1 ∧ x.f1 ≤ 100000) →
        Ev (fun k => impl_ValidLoans.j2 k m (pre ++ x :: post) ((pre ++ x :: post).length : Int) (pre.length : Int) b x.f0 x.f1 x.f2) ((x :: post).all fun l => vL l m) := by
      intro b h1 h2
      refine Ev.step (fun _ => impl_ValidLoans.j2.eq_2 ..) (Ev.ite (fun hb => Ev.now' (no (h1 hb)).symm) (fun hb => ?_))
      have hb := h2 (by simpa using hb)
      refine Ev.ite (fun hg => Ev.now' (no ?_).symm) (fun hg => Ev.bind (differentBelow_any _ _ (by omega) (by omega)) (Ev.ite (fun hd => Ev.bind (contains_ev _ _ (by have := diffB_len hd; omega)) (Ev.ite (fun hc => Ev.now' (no ?_).symm) (fun hc => ?_))) (fun hd => Ev.now' (no ?_).symm)))
      · intro hv; have := (vL_iff.1 hv).1; omega
      · intro hv; exact (vL_iff.1 hv).2.2 (by simpa using hc)
      · rw [wrap_nat (by simp at hl; omega)]
        refine Ev.is ih ?_
        rw [List.all_cons, vL_iff.2 ⟨⟨hb.1, hb.2.1, hb.2.2.1, hb.2.2.2, by omega⟩, diffB_iff.1 hd, by simpa using hc⟩, Bool.true_and]
      · intro hv; exact hd (diffB_iff.2 (vL_iff.1 hv).2.1)
    refine Ev.step (fun _ => impl_ValidLoans.l0.eq_2 ..) (Ev.pos (by simp; omega) (Ev.pos (by omega) (Ev.pos (by simp; omega) ?_)))
    simp only [rdT_mid]
    refine Ev.ite (fun h => ?_) (fun h => Ev.ite (fun h2 => ?_) (fun h2 => Ev.ite (fun h3 => ?_) (fun h3 => ?_)))
    · exact j2 true (fun _ hv => by have := (vL_iff.1 hv).1; omega) (fun e => by cases e)
    · exact j2 true (fun _ hv => by have := (vL_iff.1 hv).1; omega) (fun e => by cases e)
    · exact j2 true (fun _ hv => by have := (vL_iff.1 hv).1; omega) (fun e => by cases e)
    · exact j2 _ (fun e hv => by have := (vL_iff.1 hv).1; simp at e; omega) (fun e => by simp at e; omega)
theorem validLoans_ev (ls : List S42) (m : Int) : Ev (fun k => impl_ValidLoans.f k ls m) (vLs ls m) := by
  have no : ¬ (ls.length ≤ 16 ∧ 1 ≤ m ∧ m ≤ 12) → vLs ls m = false := by
    intro h; unfold vLs; rw [decide_eq_false h, Bool.false_and]
  refine Ev.congr (fun _ => impl_ValidLoans.f.eq_1 ..) (Ev.ite (fun h => ?_) fun h => Ev.ite (fun h2 => ?_) fun h2 => Ev.step (fun _ => impl_ValidLoans.j0.eq_2 ..) (Ev.ite (fun h3 => Ev.now' (no (by simp at h3; omega)).symm) fun h3 => ?_))
  · exact Ev.step (fun _ => impl_ValidLoans.j0.eq_2 ..) (Ev.pos rfl (Ev.now' (no (by omega)).symm))
  · exact Ev.step (fun _ => impl_ValidLoans.j0.eq_2 ..) (Ev.pos rfl (Ev.now' (no (by omega)).symm))
  · simp at h3
    refine Ev.is (validLoans_loop m (by omega) ls [] (by simp; omega)) ?_
    unfold vLs
    rw [decide_eq_true (by omega), Bool.true_and]
theorem validStakes_ev (xs : List Int) : Ev (fun k => impl_validStakes.f k xs) (decide (1 ≤ xs.length ∧ xs.length ≤ 12) && allW xs 0 100000) := by
  refine Ev.congr (fun _ => impl_validStakes.f.eq_1 ..) (Ev.ite (fun h => Ev.ite (fun h2 => Ev.bind (allWithin_ev _ _ _ (by omega)) (Ev.now' ?_)) fun h2 => Ev.now' ?_) fun h => Ev.now' ?_)
  · rw [decide_eq_true (by omega), Bool.true_and]
  · rw [decide_eq_false (by omega), Bool.false_and]
  · rw [decide_eq_false (by omega), Bool.false_and]
def vS (xs : List Int) : Bool := decide (1 ≤ xs.length ∧ xs.length ≤ 12) && allW xs 0 100000
theorem vS_iff {xs : List Int} : vS xs = true ↔ (1 ≤ xs.length ∧ xs.length ≤ 12) ∧ ∀ x ∈ xs, 0 ≤ x ∧ x ≤ 100000 := by
  unfold vS
  rw [Bool.and_eq_true, allW_iff, decide_eq_true_iff]

theorem stake_bd {st : List Int} (h : vS st = true) {j : Nat} (hj : j < st.length) : 0 ≤ st.getD j 0 ∧ st.getD j 0 ≤ 100000 := by
  have := (vS_iff.1 h).2 _ (rd_mem (xs := st) (i := (j : Int)) (by omega) (by omega))
  rwa [rd_nat] at this
/-- What is added to places, one after the other. -/
def gAdd (e : Nat → Int) (gs : List Int) (s : Nat → Int) : Nat → Nat → Int
  | 0 => e
  | i + 1 => fun j => if (j : Int) = gs.getD i 0 then gAdd e gs s i j + s i else gAdd e gs s i j
theorem gAdd_bd {e : Nat → Int} {gs : List Int} {s : Nat → Int} {A B : Int} (he : ∀ j, 0 ≤ e j ∧ e j ≤ A) (hs : ∀ i, 0 ≤ s i ∧ s i ≤ B) : ∀ i j, 0 ≤ gAdd e gs s i j ∧ gAdd e gs s i j ≤ A + B * i
  | 0, j => by have := he j; simp [gAdd]; omega
  | i + 1, j => by
    have := gAdd_bd (gs := gs) he hs i j
    have := hs i
    have e2 : B * ((i + 1 : Nat) : Int) = B * i + B := by rw [Int.natCast_succ, Int.mul_add, Int.mul_one]
    simp only [gAdd]
    rw [e2]
    split <;> omega
/-- What each member answers for. -/
def expo (ls : List S42) : Nat → Int := ls.foldl (fun e l => gAdd e l.f2 (spl l.f1 l.f2.length) l.f2.length) (fun _ => 0)
theorem expo_snoc (ls : List S42) (l : S42) : expo (ls ++ [l]) = gAdd (expo ls) l.f2 (spl l.f1 l.f2.length) l.f2.length := by simp [expo, List.foldl_append]
theorem expo_fold {m : Int} (hm : m ≤ 12) : ∀ (ls : List S42) (e : Nat → Int) (n : Nat), (∀ l ∈ ls, vL l m = true) → (∀ j, 0 ≤ e j ∧ e j ≤ 1300000 * n) → ∀ j, 0 ≤ ls.foldl (fun e l => gAdd e l.f2 (spl l.f1 l.f2.length) l.f2.length) e j ∧ ls.foldl (fun e l => gAdd e l.f2 (spl l.f1 l.f2.length) l.f2.length) e j ≤ 1300000 * ((n + ls.length : Nat) : Int)
  | [], e, n, _, he, j => he j
  | l :: ls, e, n, hl, he, j => by
    have hv := vL_iff.1 (hl l (List.mem_cons_self ..))
    have h1 : ∀ i, 0 ≤ spl l.f1 l.f2.length i ∧ spl l.f1 l.f2.length i ≤ 100001 := fun i => by
      have := spl_bd (x := l.f1) (p := l.f2.length) (by omega) (by omega) i
      omega
    have := expo_fold hm ls (gAdd e l.f2 (spl l.f1 l.f2.length) l.f2.length) (n + 1) (fun l' h' => hl l' (List.mem_cons_of_mem _ h')) (fun j => by
      have := gAdd_bd (gs := l.f2) he h1 l.f2.length j
      omega) j
    rw [List.length_cons, show n + (ls.length + 1) = n + 1 + ls.length by omega]
    exact this
theorem expo_bd {m : Int} (hm : m ≤ 12) {ls : List S42} (hv : ∀ l ∈ ls, vL l m = true) (hl : ls.length ≤ 17) (j : Nat) : 0 ≤ expo ls j ∧ expo ls j ≤ 30000000 := by
  have := expo_fold hm ls (fun _ => 0) 0 hv (fun j => by simp) j
  unfold expo
  omega
theorem exposureOf_l1 (n : Nat) (hn : n ≤ 12) (e : Nat → Int) (l : S42) (L : List S42) (t : Nat) (r : List Int) (ht : t ≤ 20) (hv : vL l n = true) (he : ∀ j, 0 ≤ e j ∧ e j ≤ 30000000)
    (nx : Ev (fun k => impl_ExposureOf.l0 k (tab n (gAdd e l.f2 (spl l.f1 l.f2.length) l.f2.length)) L (L.length : Int) ((t + 1 : Nat) : Int)) r) : ∀ (d i : Nat), i + d = l.f2.length →
    Ev (fun k => impl_ExposureOf.l1 k (tab n (gAdd e l.f2 (spl l.f1 l.f2.length) i)) L (L.length : Int) (t : Int) (tab l.f2.length (spl l.f1 l.f2.length)) (l.f2.length : Int) (i : Int) l.f0 l.f1 l.f2) r
  | 0, i, hi => by
    refine Ev.step (fun _ => impl_ExposureOf.l1.eq_2 ..) (Ev.neg (by omega) ?_)
    rw [wrap_nat (by omega), show i = l.f2.length by omega]
    exact nx
  | d + 1, i, hi => by
    have ih := exposureOf_l1 n hn e l L t r ht hv he nx d (i + 1) (by omega)
    have hw := vL_iff.1 hv
    have h1 : ∀ i, 0 ≤ spl l.f1 l.f2.length i ∧ spl l.f1 l.f2.length i ≤ 100001 := fun i => by
      have := spl_bd (x := l.f1) (p := l.f2.length) (by omega) (by omega) i
      omega
    have hgm := hw.2.1.2.1 _ (rd_mem (xs := l.f2) (i := (i : Int)) (by omega) (by omega))
    obtain ⟨g, hg⟩ : ∃ g : Nat, rd l.f2 (i : Int) = g := ⟨(rd l.f2 i).toNat, by omega⟩
    have hgd : l.f2.getD i 0 = g := by rw [← rd_nat]; exact hg
    have hbd := gAdd_bd (gs := l.f2) he h1 i g
    refine Ev.step (fun _ => impl_ExposureOf.l1.eq_2 ..) (Ev.pos (by omega) (Ev.pos (by omega) (Ev.pos (by rw [tab_length]; omega) (Ev.pos (by omega) ?_))))
    rw [hg]
    refine Ev.pos (by omega) (Ev.pos (by rw [tab_length]; omega) ?_)
    have := h1 i
    rw [wrap_nat (by omega), Int.toNat_natCast, tab_set, tab_rd (by omega), tab_rd (by omega), wrap_id (by omega) (by omega)]
    refine Ev.is (Ev.congr (fun k => ?_) ih) rfl
    congr 1
    refine tab_ext fun j hj => ?_
    simp only [gAdd, hgd]
    by_cases e1 : j = g
    · subst e1; simp
    · rw [if_neg e1, if_neg (by omega)]
theorem exposureOf_l0 (n : Nat) (hn : n ≤ 12) : ∀ (post pre : List S42), (pre ++ post).length ≤ 16 → (∀ l ∈ pre ++ post, vL l n = true) →
    Ev (fun k => impl_ExposureOf.l0 k (tab n (expo pre)) (pre ++ post) ((pre ++ post).length : Int) (pre.length : Int)) (tab n (expo (pre ++ post)))
  | [], pre, _, _ => Ev.step (fun _ => impl_ExposureOf.l0.eq_2 ..) (Ev.neg (by simp) (Ev.now' (by simp)))
  | l :: post, pre, hl, hv => by
    have ih := exposureOf_l0 n hn post (pre ++ [l]) (by simpa using hl) (by simpa using hv)
    rw [show (pre ++ [l]).length = pre.length + 1 from by simp, List.append_assoc, expo_snoc] at ih
    have hv1 := hv l (by simp)
    have hw := vL_iff.1 hv1
    have hb := fun j => expo_bd (m := (n : Int)) (by omega) (ls := pre) (fun l' h' => hv l' (by simp [h'])) (by simp at hl; omega) j
    refine Ev.step (fun _ => impl_ExposureOf.l0.eq_2 ..) (Ev.pos (by simp; omega) (Ev.pos (by omega) (Ev.pos (by simp; omega) ?_)))
    simp only [rdT_mid]
    refine Ev.bind (splitEven_ev _ _ (by omega) (by omega) (by omega) (by omega)) ?_
    rw [tab_length]
    exact exposureOf_l1 n hn (expo pre) l (pre ++ l :: post) pre.length _ (by simp at hl; omega) hv1 hb ih l.f2.length 0 (by omega)
theorem exposureOf_ev (ls : List S42) (n : Nat) : Ev (fun k => impl_ExposureOf.f k ls (n : Int)) (if vLs ls n then tab n (expo ls) else []) := by
  refine Ev.congr (fun _ => impl_ExposureOf.f.eq_1 ..) (Ev.bind (validLoans_ev ls n) (Ev.ite (fun h => ?_) fun h => ?_))
  · have hw := vLs_iff.1 h
    rw [if_pos h]
    refine Ev.pos (by omega) (Ev.pos (by omega) ?_)
    rw [Int.toNat_natCast, replicate_tab]
    exact exposureOf_l0 n (by omega) ls [] hw.1.1 hw.2
  · rw [if_neg h]; exact Ev.now _
/-- What is free of each stake. -/
def freeF (st : List Int) (ls : List S42) (j : Nat) : Int := st.getD j 0 - expo ls j
theorem freeStakes_loop (st : List Int) (ls : List S42) (hs : vS st = true) (hv : vLs ls st.length = true) : ∀ (d i : Nat), i + d = st.length →
    Ev (fun k => impl_FreeStakes.l0 k st (tab i (freeF st ls)) (tab st.length (expo ls)) (st.length : Int) (i : Int)) (tab st.length (freeF st ls))
  | 0, i, hi => Ev.step (fun _ => impl_FreeStakes.l0.eq_2 ..) (Ev.neg (by omega) (Ev.now' (by rw [show i = st.length by omega])))
  | d + 1, i, hi => by
    have ih := freeStakes_loop st ls hs hv d (i + 1) (by omega)
    have hw := vLs_iff.1 hv
    have hb := expo_bd (m := (st.length : Int)) (by omega) hw.2 (by omega) i
    have hst := stake_bd hs (j := i) (by omega)
    refine Ev.step (fun _ => impl_FreeStakes.l0.eq_2 ..) (Ev.pos (by omega) (Ev.pos (by omega) (Ev.pos (by rw [tab_length]; omega) (Ev.pos (by omega) (Ev.pos (by rw [tab_length]; omega) ?_)))))
    rw [wrap_nat (by omega), tab_rd (by omega), rd_nat, wrap_id (by omega) (by omega)]
    rw [tab_succ] at ih
    exact ih
theorem freeStakes_ev (st : List Int) (ls : List S42) : Ev (fun k => impl_FreeStakes.f k st ls) (if vS st && vLs ls st.length then tab st.length (freeF st ls) else []) := by
  refine Ev.congr (fun _ => impl_FreeStakes.f.eq_1 ..) (Ev.bind (validStakes_ev st) (Ev.ite (fun h => Ev.bind (exposureOf_ev ls st.length) ?_) fun h => ?_))
  · have hs : vS st = true := h
    rw [hs, Bool.true_and]
    by_cases hv : vLs ls st.length = true
    · rw [if_pos hv, if_pos hv, tab_length]
      exact freeStakes_loop st ls hs hv st.length 0 (by omega)
    · rw [if_neg hv, if_neg hv]
      exact Ev.step (fun _ => impl_FreeStakes.l0.eq_2 ..) (Ev.neg (by simp) (Ev.now _))
  · have hs : vS st = false := Bool.eq_false_iff.2 h
    rw [hs, Bool.false_and]
    exact Ev.now _
theorem min_loop : ∀ (post pre : List Int) (m : Int), (pre ++ post).length < 4611686018427387904 → ∃ r, Ev (fun k => slices_Min_int_int.l0 k (pre ++ post) m (pre.length : Int)) r ∧ (0 ≤ r ↔ 0 ≤ m ∧ ∀ x ∈ post, 0 ≤ x)
  | [], pre, m, _ => ⟨m, Ev.step (fun _ => slices_Min_int_int.l0.eq_2 ..) (Ev.neg (by simp) (Ev.now _)), by simp⟩
  | x :: post, pre, m, hl => by
    obtain ⟨r, ih, hr⟩ := min_loop post (pre ++ [x]) (mn m x) (by simpa using hl)
    rw [show (pre ++ [x]).length = pre.length + 1 from by simp, List.append_assoc] at ih
    refine ⟨r, Ev.step (fun _ => slices_Min_int_int.l0.eq_2 ..) (Ev.pos (by simp; omega) (Ev.pos (by omega) ?_)), ?_⟩
    · rw [rd_mid, wrap_nat (by simp at hl; omega)]
      exact ih
    · rw [hr, List.forall_mem_cons]
      unfold mn
      split <;> constructor <;> rintro ⟨h1, h2⟩ <;> refine ⟨?_, ?_⟩ <;> first | omega | exact h2 | exact h2.2 | exact ⟨by omega, h2⟩
theorem min_ev (xs : List Int) (h0 : 0 < xs.length) (hl : xs.length < 4611686018427387904) : ∃ r, Ev (fun k => slices_Min_int_int.f k xs) r ∧ (0 ≤ r ↔ ∀ x ∈ xs, 0 ≤ x) := by
  cases xs with
  | nil => simp at h0
  | cons x xs =>
    obtain ⟨r, h, hr⟩ := min_loop xs [x] x (by simpa using hl)
    refine ⟨r, Ev.congr (fun _ => slices_Min_int_int.f.eq_1 ..) (Ev.neg (by omega) (Ev.pos (by omega) ?_)), by rw [hr, List.forall_mem_cons]⟩
    have e : rd (x :: xs) 0 = x := rfl
    rw [e]
    exact h
/-- Is no stake too small? -/
def safeB (st : List Int) (ls : List S42) : Bool := vS st && vLs ls st.length && (tab st.length (freeF st ls)).all fun x => decide (0 ≤ x)
theorem safeLoans_ev (st : List Int) (ls : List S42) : Ev (fun k => impl_SafeLoans.f k st ls) (safeB st ls) := by
  refine Ev.congr (fun _ => impl_SafeLoans.f.eq_1 ..) (Ev.bind (freeStakes_ev st ls) ?_)
  unfold safeB
  by_cases h : (vS st && vLs ls st.length) = true
  · rw [if_pos h, h, Bool.true_and, tab_length]
    have hs := (vS_iff.1 ((Bool.and_eq_true _ _).mp h).1)
    obtain ⟨r, hr, hr2⟩ := min_ev (tab st.length (freeF st ls)) (by rw [tab_length]; omega) (by rw [tab_length]; omega)
    refine Ev.pos (by omega) (Ev.bind hr (Ev.now' ?_))
    rw [Bool.eq_iff_iff, decide_eq_true_iff, List.all_eq_true]
    simp only [decide_eq_true_iff]
    exact hr2
  · rw [if_neg h, Bool.eq_false_iff.2 h, Bool.false_and]
    exact Ev.neg (by simp) (Ev.now _)
theorem specValidStakes_ev (xs : List Int) : Ev (fun k => spec_validStakes.f k xs) (vS xs) := by
  refine Ev.congr (fun _ => spec_validStakes.f.eq_1 ..) (Ev.bind0 (inRange_eq ..) (Ev.ite (fun h => Ev.bind (allIn_ev _ _ _ (by simp at h; omega)) (Ev.now' ?_)) fun h => Ev.now' ?_))
  · simp at h
    unfold vS
    rw [decide_eq_true (by omega), Bool.true_and]
  · simp at h
    unfold vS
    rw [decide_eq_false (by omega), Bool.false_and]
theorem validMembers_loop (m : Int) (hm : 1 ≤ m ∧ m ≤ 9000000000000000000) : ∀ (post pre : List Int), (pre ++ post).length < 4611686018427387904 →
    Ev (fun k => spec_validMembers.l0 k (pre ++ post) m (pre.length : Int)) (allW post 0 (m - 1) && decide (post.Nodup ∧ ∀ x ∈ post, x ∉ pre))
  | [], pre, _ => Ev.step (fun _ => spec_validMembers.l0.eq_2 ..) (Ev.neg (by simp) (Ev.now' (by simp [allW])))
  | x :: post, pre, hl => by
    have ih := validMembers_loop m hm post (pre ++ [x]) (by simpa using hl)
    rw [show (pre ++ [x]).length = pre.length + 1 from by simp, List.append_assoc] at ih
    refine Ev.step (fun _ => spec_validMembers.l0.eq_2 ..) (Ev.pos (by simp; omega) (Ev.pos (by omega) ?_))
    rw [rd_mid, wrap_id (x := m - 1) (by omega) (by omega), wrap_nat (by simp at hl; omega), Int.toNat_natCast, List.take_left]
    refine Ev.bind0 (inRange_eq ..) (Ev.ite (fun h => Ev.pos (by simp; omega) (Ev.bind (placeIn_ev _ _ (by simp at hl; omega)) (Ev.ite (fun h2 => Ev.now' ?_) fun h2 => Ev.is ih ?_))) fun h => Ev.now' ?_)
    · have : x ∈ pre := Classical.byContradiction fun hc => by have := idxI_neg.2 hc; omega
      simp [this]
    · have hn : x ∉ pre := idxI_neg.1 (by omega)
      rw [allW_cons, h, Bool.true_and]
      congr 1
      simp only [List.nodup_cons, List.mem_append, List.mem_cons, List.not_mem_nil, or_false, decide_eq_decide]
      constructor
      · rintro ⟨h1, h4⟩
        refine ⟨⟨fun hh => (h4 _ hh) (.inr rfl), h1⟩, ?_⟩
        rintro y (rfl | hy)
        · exact hn
        · exact fun hh => h4 y hy (.inl hh)
      · rintro ⟨⟨h1, h4⟩, h5⟩
        refine ⟨h4, fun y hy => ?_⟩
        rintro (hh | rfl)
        · exact h5 y (.inr hy) hh
        · exact h1 hy
    · rw [allW_cons, Bool.eq_false_iff.2 h, Bool.false_and, Bool.false_and]
theorem validMembers_ev (xs : List Int) (m : Int) (hm : 1 ≤ m ∧ m ≤ 9000000000000000000) (hl : xs.length < 4611686018427387904) : Ev (fun k => spec_validMembers.f k xs m) (diffB xs m) := by
  refine Ev.congr (fun _ => spec_validMembers.f.eq_1 ..) (Ev.is (validMembers_loop m hm xs [] (by simpa using hl)) ?_)
  rw [Bool.eq_iff_iff, diffB_iff, Bool.and_eq_true, allW_iff, decide_eq_true_iff]
  constructor
  · rintro ⟨h1, h2, _⟩
    refine ⟨?_, h1, h2⟩
    have := nodup_le xs (tab m.toNat (fun j => (j : Int))) h2 (fun x hx => mem_tab.2 ⟨x.toNat, by have := h1 x hx; omega, by have := h1 x hx; omega⟩)
    rw [tab_length] at this
    omega
  · rintro ⟨_, h1, h2⟩
    exact ⟨h1, h2, fun x hx => by simp⟩
theorem specValidLoans_loop (m : Int) (hm : 1 ≤ m ∧ m ≤ 12) : ∀ (post pre : List S42), (pre ++ post).length < 4611686018427387904 → (∀ l ∈ post, l.f2.length < 4611686018427387904) →
    Ev (fun k => spec_validLoans.l0 k (pre ++ post) m (pre.length : Int)) (decide ((pre ++ post).length ≤ 16) && post.all fun l => vL l m)
  | [], pre, _, _ => by
    refine Ev.step (fun _ => spec_validLoans.l0.eq_2 ..) (Ev.neg (by simp) (Ev.ite (fun h => Ev.bind0 (inRange_eq ..) (Ev.now' ?_)) fun h => Ev.now' ?_))
    · rw [decide_eq_true hm.1, decide_eq_true hm.2, decide_eq_true (by omega)]; rfl
    · rw [decide_eq_false (by omega)]; rfl
  | x :: post, pre, hl, hg => by
    have ih := specValidLoans_loop m hm post (pre ++ [x]) (by simpa using hl) (fun l h => hg l (List.mem_cons_of_mem _ h))
    rw [show (pre ++ [x]).length = pre.length + 1 from by simp, List.append_assoc] at ih
    have hgx := hg x (List.mem_cons_self ..)
    have no : vL x m ≠ true → (decide ((pre ++ x :: post).length ≤ 16) && ((x :: post).all fun l => vL l m)) = false := by
      intro h
      rw [List.all_cons, Bool.eq_false_iff.2 h, Bool.false_and, Bool.and_false]
    refine Ev.step (fun _ => spec_validLoans.l0.eq_2 ..) (Ev.pos (by simp; omega) (Ev.pos (by omega) ?_))
    rw [wrap_id (x := m - 1) (by omega) (by omega), wrap_nat (by simp at hl; omega)]
    simp only [rdT_mid]
    refine Ev.bind0 (inRange_eq ..) (Ev.ite (fun h1 => Ev.bind0 (inRange_eq ..) (Ev.ite (fun h2 => Ev.ite (fun h3 => Ev.now' (no ?_).symm) fun h3 => Ev.bind (validMembers_ev _ _ (by omega) hgx) (Ev.ite (fun h4 => Ev.bind (placeIn_ev _ _ hgx) (Ev.ite (fun h5 => Ev.now' (no ?_).symm) fun h5 => Ev.is ih ?_)) fun h4 => Ev.now' (no ?_).symm)) fun h2 => Ev.now' (no ?_).symm)) fun h1 => Ev.now' (no ?_).symm)
    · intro hv; have := (vL_iff.1 hv).1; omega
    · intro hv; exact absurd (idxI_neg.2 (vL_iff.1 hv).2.2) (by omega)
    · simp at h1 h2
      rw [List.all_cons, vL_iff.2 ⟨⟨h1.1, by omega, h2.1, h2.2, by omega⟩, diffB_iff.1 h4, idxI_neg.1 (by omega)⟩, Bool.true_and]
      rfl
    · intro hv; exact h4 (diffB_iff.2 (vL_iff.1 hv).2.1)
    · intro hv; have := (vL_iff.1 hv).1; simp at h2; omega
    · intro hv; have := (vL_iff.1 hv).1; simp at h1; omega
theorem specValidLoans_ev (ls : List S42) (m : Int) (hm : 1 ≤ m ∧ m ≤ 12) (hl : ls.length < 4611686018427387904) (hg : ∀ l ∈ ls, l.f2.length < 4611686018427387904) : Ev (fun k => spec_validLoans.f k ls m) (vLs ls m) := by
  refine Ev.congr (fun _ => spec_validLoans.f.eq_1 ..) (Ev.is (specValidLoans_loop m hm ls [] (by simpa using hl) hg) ?_)
  unfold vLs
  congr 1
  simp; omega
theorem exposures_l1 (n : Nat) (hn : n ≤ 12) (e : Nat → Int) (l : S42) (L : List S42) (t : Nat) (r : List Int) (ht : t < L.length) (ht2 : t ≤ 20) (hL : rd_T42 L (t : Int) = l) (hv : vL l n = true) (he : ∀ j, 0 ≤ e j ∧ e j ≤ 30000000)
    (nx : Ev (fun k => spec_exposures.l0 k L (tab n (gAdd e l.f2 (spl l.f1 l.f2.length) l.f2.length)) ((t + 1 : Nat) : Int)) r) : ∀ (d i : Nat), i + d = l.f2.length →
    Ev (fun k => spec_exposures.l1 k L (tab n (gAdd e l.f2 (spl l.f1 l.f2.length) i)) (t : Int) (tab l.f2.length (spl l.f1 l.f2.length)) (i : Int)) r
  | 0, i, hi => by
    refine Ev.step (fun _ => spec_exposures.l1.eq_2 ..) (Ev.neg (by rw [tab_length]; omega) ?_)
    rw [wrap_nat (by omega), show i = l.f2.length by omega]
    exact nx
  | d + 1, i, hi => by
    have ih := exposures_l1 n hn e l L t r ht ht2 hL hv he nx d (i + 1) (by omega)
    have hw := vL_iff.1 hv
    have h1 : ∀ i, 0 ≤ spl l.f1 l.f2.length i ∧ spl l.f1 l.f2.length i ≤ 100001 := fun i => by
      have := spl_bd (x := l.f1) (p := l.f2.length) (by omega) (by omega) i
      omega
    have hgm := hw.2.1.2.1 _ (rd_mem (xs := l.f2) (i := (i : Int)) (by omega) (by omega))
    obtain ⟨g, hg⟩ : ∃ g : Nat, rd l.f2 (i : Int) = g := ⟨(rd l.f2 i).toNat, by omega⟩
    have hgd : l.f2.getD i 0 = g := by rw [← rd_nat]; exact hg
    have hbd := gAdd_bd (gs := l.f2) he h1 i g
    refine Ev.step (fun _ => spec_exposures.l1.eq_2 ..) (Ev.pos (by rw [tab_length]; omega) (Ev.pos (by omega) (Ev.pos (by omega) (Ev.pos (by omega) ?_))))
    rw [hL]
    refine Ev.pos (by omega) ?_
    rw [hg]
    refine Ev.pos (by omega) (Ev.pos (by rw [tab_length]; omega) ?_)
    have := h1 i
    rw [wrap_nat (by omega), Int.toNat_natCast, tab_set, tab_rd (by omega), tab_rd (by omega), wrap_id (by omega) (by omega)]
    refine Ev.is (Ev.congr (fun k => ?_) ih) rfl
    congr 1
    refine tab_ext fun j hj => ?_
    simp only [gAdd, hgd]
    by_cases e1 : j = g
    · subst e1; simp
    · rw [if_neg e1, if_neg (by omega)]
theorem exposures_l0 (n : Nat) (hn : n ≤ 12) : ∀ (post pre : List S42), (pre ++ post).length ≤ 16 → (∀ l ∈ pre ++ post, vL l n = true) →
    Ev (fun k => spec_exposures.l0 k (pre ++ post) (tab n (expo pre)) (pre.length : Int)) (tab n (expo (pre ++ post)))
  | [], pre, _, _ => Ev.step (fun _ => spec_exposures.l0.eq_2 ..) (Ev.neg (by simp) (Ev.now' (by simp)))
  | l :: post, pre, hl, hv => by
    have ih := exposures_l0 n hn post (pre ++ [l]) (by simpa using hl) (by simpa using hv)
    rw [show (pre ++ [l]).length = pre.length + 1 from by simp, List.append_assoc, expo_snoc] at ih
    have hv1 := hv l (by simp)
    have hw := vL_iff.1 hv1
    have hb := fun j => expo_bd (m := (n : Int)) (by omega) (ls := pre) (fun l' h' => hv l' (by simp [h'])) (by simp at hl; omega) j
    refine Ev.step (fun _ => spec_exposures.l0.eq_2 ..) (Ev.pos (by simp; omega) (Ev.pos (by omega) ?_))
    simp only [rdT_mid]
    refine Ev.bind (split_ev _ _ (by omega) (by omega) (by omega)) ?_
    exact exposures_l1 n hn (expo pre) l (pre ++ l :: post) pre.length _ (by simp) (by simp at hl; omega) (rdT_mid ..) hv1 hb ih l.f2.length 0 (by omega)
theorem exposures_ev (ls : List S42) (n : Nat) (hv : vLs ls n = true) : Ev (fun k => spec_exposures.f k ls (n : Int)) (tab n (expo ls)) := by
  have hw := vLs_iff.1 hv
  refine Ev.congr (fun _ => spec_exposures.f.eq_1 ..) (Ev.pos (by omega) (Ev.pos (by omega) ?_))
  rw [Int.toNat_natCast, replicate_tab]
  exact exposures_l0 n (by omega) ls [] hw.1.1 hw.2
theorem specFree_loop (st : List Int) (ls : List S42) (hs : vS st = true) (hv : vLs ls st.length = true) : ∀ (d i : Nat), i + d = st.length →
    Ev (fun k => spec_free.l0 k st (tab st.length (fun j => if j < i then freeF st ls j else expo ls j)) (i : Int)) (tab st.length (freeF st ls))
  | 0, i, hi => Ev.step (fun _ => spec_free.l0.eq_2 ..) (Ev.neg (by rw [tab_length]; omega) (Ev.now' (tab_ext fun j hj => if_pos (by omega))))
  | d + 1, i, hi => by
    have ih := specFree_loop st ls hs hv d (i + 1) (by omega)
    have hw := vLs_iff.1 hv
    have hb := expo_bd (m := (st.length : Int)) (by omega) hw.2 (by omega) i
    have hst := stake_bd hs (j := i) (by omega)
    refine Ev.step (fun _ => spec_free.l0.eq_2 ..) (Ev.pos (by rw [tab_length]; omega) (Ev.pos (by omega) (Ev.pos (by omega) ?_)))
    rw [wrap_nat (by omega), tab_rd (by omega), rd_nat, if_neg (by omega), wrap_id (by omega) (by omega), Int.toNat_natCast, tab_set]
    refine Ev.is (Ev.congr (fun k => ?_) ih) rfl
    congr 1
    refine tab_ext fun j hj => ?_
    by_cases e : j = i
    · subst e; rw [if_pos rfl, if_pos (by omega)]; rfl
    · rw [if_neg e]
      by_cases e2 : j < i
      · rw [if_pos e2, if_pos (by omega)]
      · rw [if_neg e2, if_neg (by omega)]
theorem specFree_ev (st : List Int) (ls : List S42) (hs : vS st = true) (hv : vLs ls st.length = true) : Ev (fun k => spec_free.f k st ls) (tab st.length (freeF st ls)) := by
  refine Ev.congr (fun _ => spec_free.f.eq_1 ..) (Ev.bind (exposures_ev ls st.length hv) ?_)
  have := specFree_loop st ls hs hv st.length 0 (by omega)
  refine Ev.is (Ev.congr (fun k => ?_) this) rfl
  congr 1
theorem specSafe_ev (st : List Int) (ls : List S42) (hs : vS st = true) (hv : vLs ls st.length = true) : Ev (fun k => spec_safe.f k st ls) (safeB st ls) := by
  have hw := vLs_iff.1 hv
  have hs2 := vS_iff.1 hs
  refine Ev.congr (fun _ => spec_safe.f.eq_1 ..) (Ev.bind (specFree_ev st ls hs hv) (Ev.bind (allIn_ev _ _ _ (by rw [tab_length]; omega)) (Ev.now' ?_)))
  unfold safeB
  rw [hs, hv, Bool.true_and, Bool.true_and, Bool.eq_iff_iff, allW_iff, List.all_eq_true]
  simp only [decide_eq_true_iff]
  refine ⟨fun h x hx => (h x hx).1, fun h x hx => ⟨h x hx, ?_⟩⟩
  obtain ⟨j, hj, rfl⟩ := mem_tab.1 hx
  have := stake_bd hs hj
  have := expo_bd (m := (st.length : Int)) (by omega) hw.2 (by omega) j
  unfold freeF
  omega
/-- The greatest number by halving. -/
def srch (P : Int → Bool) : Nat → Int → Int → Int
  | 0, lo, _ => lo
  | d + 1, lo, hi => if lo < hi then (if P ((lo + hi + 1) / 2) then srch P d ((lo + hi + 1) / 2) hi else srch P d lo ((lo + hi + 1) / 2 - 1)) else lo
theorem set_last (ls : List S42) (x y : S42) : (ls ++ [x]).set ((ls.length : Int)).toNat y = ls ++ [y] := by
  rw [Int.toNat_natCast]
  simp
theorem mid_eq {lo hi : Int} (h1 : 0 ≤ lo) (h2 : lo ≤ hi) (h3 : hi ≤ 100000) : wrap64 (Int.tdiv (wrap64 (wrap64 (lo + hi) + 1)) 2) = (lo + hi + 1) / 2 := by
  rw [wrap_id (x := lo + hi) (by omega) (by omega), wrap_id (x := lo + hi + 1) (by omega) (by omega), Int.tdiv_eq_ediv_of_nonneg (by omega), wrap_id (by omega) (by omega)]
theorem mostLoan_loop (st : List Int) (ls : List S42) (b : Int) (g : List Int) : ∀ (d : Nat) (lo hi c : Int), hi - lo ≤ d → 0 ≤ lo → lo ≤ hi → hi ≤ 100000 →
    Ev (fun k => impl_MostLoan.l0 k st ls (ls ++ [⟨b, c, g⟩]) lo hi) (srch (fun a => safeB st (ls ++ [⟨b, a, g⟩])) d lo hi)
  | 0, lo, hi, c, h1, h2, h3, h4 => Ev.step (fun _ => impl_MostLoan.l0.eq_2 ..) (Ev.neg (by omega) (Ev.now _))
  | d + 1, lo, hi, c, h1, h2, h3, h4 => by
    unfold srch
    refine Ev.step (fun _ => impl_MostLoan.l0.eq_2 ..) (Ev.ite (fun h => Ev.pos (by omega) (Ev.pos (by simp; omega) (Ev.bind0 rfl ?_))) fun h => ?_)
    · rw [if_pos h, mid_eq h2 h3 h4, set_last, rdT_mid, wrap_id (x := (lo + hi + 1) / 2 - 1) (by omega) (by omega)]
      refine Ev.bind (safeLoans_ev _ _) (Ev.ite (fun hp => ?_) (fun hp => ?_))
      · rw [if_pos hp]
        exact mostLoan_loop st ls b g d _ _ _ (by omega) (by omega) (by omega) h4
      · rw [if_neg hp]
        exact mostLoan_loop st ls b g d _ _ _ (by omega) h2 (by omega) (by omega)
    · rw [if_neg h]; exact Ev.now _
theorem vLs_append {ls : List S42} {l : S42} {m : Int} : vLs (ls ++ [l]) m = true ↔ ((ls ++ [l]).length ≤ 16 ∧ 1 ≤ m ∧ m ≤ 12) ∧ (∀ x ∈ ls, vL x m = true) ∧ vL l m = true := by
  rw [vLs_iff]
  simp only [List.mem_append, List.mem_singleton]
  constructor
  · rintro ⟨h1, h2⟩
    exact ⟨h1, fun x hx => h2 x (.inl hx), h2 l (.inr rfl)⟩
  · rintro ⟨h1, h2, h3⟩
    refine ⟨h1, ?_⟩
    rintro x (hx | hx)
    · exact h2 x hx
    · rw [hx]; exact h3
theorem vLs_amt {ls : List S42} {b a : Int} {g : List Int} {m : Int} (h : vLs (ls ++ [⟨b, 1, g⟩]) m = true) (ha : 1 ≤ a ∧ a ≤ 100000) : vLs (ls ++ [⟨b, a, g⟩]) m = true := by
  rw [vLs_append] at h ⊢
  refine ⟨by simpa using h.1, h.2.1, ?_⟩
  have h2 := vL_iff.1 h.2.2
  exact vL_iff.2 ⟨⟨h2.1.1, h2.1.2.1, ha.1, ha.2, h2.1.2.2.2.2⟩, h2.2⟩
theorem specMostLoan_loop (st : List Int) (ls : List S42) (b : Int) (g : List Int) (hs : vS st = true) (hv : vLs (ls ++ [⟨b, 1, g⟩]) st.length = true) : ∀ (d : Nat) (lo hi c : Int), hi - lo ≤ d → 0 ≤ lo → lo ≤ hi → hi ≤ 100000 →
    Ev (fun k => spec_MostLoan.l0 k st ls (ls ++ [⟨b, c, g⟩]) lo hi) (srch (fun a => safeB st (ls ++ [⟨b, a, g⟩])) d lo hi)
  | 0, lo, hi, c, h1, h2, h3, h4 => Ev.step (fun _ => spec_MostLoan.l0.eq_2 ..) (Ev.neg (by omega) (Ev.now _))
  | d + 1, lo, hi, c, h1, h2, h3, h4 => by
    unfold srch
    refine Ev.step (fun _ => spec_MostLoan.l0.eq_2 ..) (Ev.ite (fun h => Ev.pos (by omega) (Ev.pos (by simp; omega) (Ev.bind0 rfl ?_))) fun h => ?_)
    · rw [if_pos h, mid_eq h2 h3 h4, set_last, rdT_mid, wrap_id (x := (lo + hi + 1) / 2 - 1) (by omega) (by omega)]
      refine Ev.bind (specSafe_ev _ _ hs (vLs_amt hv (by omega))) (Ev.ite (fun hp => ?_) (fun hp => ?_))
      · rw [if_pos hp]
        exact specMostLoan_loop st ls b g hs hv d _ _ _ (by omega) (by omega) (by omega) h4
      · rw [if_neg hp]
        exact specMostLoan_loop st ls b g hs hv d _ _ _ (by omega) h2 (by omega) (by omega)
    · rw [if_neg h]; exact Ev.now _
def mostM (st : List Int) (ls : List S42) (b : Int) (g : List Int) : Int :=
  if safeB st ls && vLs (ls ++ [⟨b, 1, g⟩]) st.length then srch (fun a => safeB st (ls ++ [⟨b, a, g⟩])) 100000 0 100000 else -1
theorem mostLoan_ev (st : List Int) (ls : List S42) (b a : Int) (g : List Int) (hl : ls.length ≤ 2000000) : Ev (fun k => impl_MostLoan.f k st ls b a g) (mostM st ls b g) := by
  refine Ev.congr (fun _ => impl_MostLoan.f.eq_1 ..) (Ev.bind (safeLoans_ev st ls) (Ev.ite (fun h => ?_) fun h => Ev.now' ?_))
  · have hc : impl_Loan.f ls = some ls := by
      unfold impl_Loan.f
      simp
      omega
    refine Ev.bind0 hc (Ev.bind0 rfl (Ev.pos (by simp; omega) (Ev.bind0 rfl (Ev.bind (validLoans_ev _ _) (Ev.ite (fun h2 => ?_) fun h2 => Ev.now' ?_)))))
    · unfold mostM
      rw [h, h2]
      exact mostLoan_loop st ls b g 100000 0 100000 1 (by omega) (by omega) (by omega) (by omega)
    · unfold mostM
      rw [Bool.eq_false_iff.2 h2, Bool.and_false]
      rfl
  · unfold mostM
    rw [Bool.eq_false_iff.2 h, Bool.false_and]
    rfl
theorem specMostLoan_ev (st : List Int) (ls : List S42) (b a : Int) (g : List Int) (hl : ls.length ≤ 2000000) (hgs : ∀ l ∈ ls, l.f2.length ≤ 2000000) (hg : g.length ≤ 2000000) : Ev (fun k => spec_MostLoan.f k st ls b a g) (mostM st ls b g) := by
  refine Ev.congr (fun _ => spec_MostLoan.f.eq_1 ..) (Ev.bind0 rfl (Ev.pos (by simp; omega) (Ev.bind0 rfl (Ev.bind0 rfl (Ev.pos (by simp; omega) (Ev.bind0 rfl (Ev.bind (specValidStakes_ev st) ?_)))))))
  rw [List.nil_append]
  have no : ¬ (vS st = true ∧ vLs (ls ++ [⟨b, 1, g⟩]) st.length = true ∧ safeB st ls = true) → mostM st ls b g = -1 := by
    intro h
    unfold mostM
    rw [if_neg]
    rw [Bool.and_eq_true]
    rintro ⟨h1, h2⟩
    refine h ⟨?_, h2, h1⟩
    unfold safeB at h1
    rw [Bool.and_eq_true, Bool.and_eq_true] at h1
    exact h1.1.1
  refine Ev.ite (fun hs => ?_) fun hs => ?_
  · have hs2 := vS_iff.1 hs
    refine Ev.bind (specValidLoans_ev (ls ++ [⟨b, 1, g⟩]) _ (by omega) (by simp; omega) (fun l h => by
      rw [List.mem_append] at h
      rcases h with h | h
      · have := hgs l h; omega
      · simp at h; rw [h]; simp only; omega)) (Ev.ite (fun hv => ?_) fun hv => ?_)
    · have h3 := vLs_append.1 hv
      have hvl : vLs ls st.length = true := vLs_iff.2 ⟨⟨by have h9 := h3.1.1; rw [List.length_append] at h9; omega, h3.1.2⟩, h3.2.1⟩
      refine Ev.bind (specSafe_ev st ls hs hvl) (Ev.step (fun _ => spec_MostLoan.j0.eq_2 ..) (Ev.ite (fun h => Ev.now' (no ?_).symm) fun h => ?_))
      · intro h5; rw [h5.2.2] at h; simp at h
      · have hsf : safeB st ls = true := by simpa using h
        unfold mostM
        rw [hsf, hv]
        exact specMostLoan_loop st ls b g hs hv 100000 0 100000 1 (by omega) (by omega) (by omega) (by omega)
    · exact Ev.step (fun _ => spec_MostLoan.j0.eq_2 ..) (Ev.pos rfl (Ev.now' (no (fun h5 => hv h5.2.1)).symm))
  · exact Ev.step (fun _ => spec_MostLoan.j0.eq_2 ..) (Ev.pos rfl (Ev.now' (no (fun h5 => hs h5.1)).symm))
theorem toIntS_loop : ∀ (post pre : List Int), (pre ++ post).length < 4611686018427387904 →
    Ev (fun k => laws_toIntS.l0 k (pre ++ post) (pre ++ List.replicate post.length 0) (pre.length : Int)) (pre ++ post)
  | [], pre, _ => Ev.step (fun _ => laws_toIntS.l0.eq_2 ..) (Ev.neg (by simp) (Ev.now' (by simp)))
  | x :: post, pre, hl => by
    have ih := toIntS_loop post (pre ++ [x]) (by simpa using hl)
    simp only [List.length_append, List.length_cons] at hl
    refine Ev.step (fun _ => laws_toIntS.l0.eq_2 ..) (Ev.pos (by simp; omega) (Ev.pos (by omega) (Ev.pos (by simp; omega) ?_)))
    have e : (pre ++ List.replicate (x :: post).length (0 : Int)).set pre.length x = pre ++ [x] ++ List.replicate post.length 0 := by simp [List.replicate_succ]
    rw [rd_mid, wrap_nat (by omega), Int.toNat_natCast, e]
    simpa using ih
theorem toIntS_ev (l : List Int) (h : l.length ≤ 1048576) : Ev (fun k => laws_toIntS.f k l) l := by
  refine Ev.congr (fun _ => laws_toIntS.f.eq_1 ..) (Ev.pos (by omega) (Ev.pos (by omega) ?_))
  rw [Int.toNat_natCast]
  exact toIntS_loop l [] (by simp; omega)
theorem eqIntS_loop (a : List Int) (ha : a.length < 4611686018427387904) : ∀ (d i : Nat), i + d = a.length → Ev (fun k => laws_eqIntS.l0 k a a (i : Int)) true
  | 0, i, h => Ev.step (fun _ => laws_eqIntS.l0.eq_2 ..) (Ev.neg (by omega) (Ev.now _))
  | d + 1, i, h => by
    refine Ev.step (fun _ => laws_eqIntS.l0.eq_2 ..) (Ev.pos (by omega) (Ev.pos (by omega) (Ev.pos (by omega) (Ev.pos rfl ?_))))
    rw [wrap_nat (by omega)]
    exact eqIntS_loop a ha d (i + 1) (by omega)
theorem eqIntS_refl (a : List Int) (ha : a.length < 4611686018427387904) : Ev (fun k => laws_eqIntS.f k a a) true :=
  Ev.congr (fun _ => laws_eqIntS.f.eq_1 ..) (Ev.pos rfl (eqIntS_loop a ha a.length 0 (by omega)))
def conv (x : S47) : S42 := ⟨x.f0, x.f1, x.f2⟩
theorem rdL_mid (pre post : List S47) (x : S47) : rd_T47 (pre ++ x :: post) (pre.length : Int) = x := by
  unfold rd_T47
  rw [Int.toNat_natCast]
  simp [List.getD_eq_getElem?_getD]
theorem szLoan_eq (b a : Int) (g : List Int) (left : Int) (h0 : 0 ≤ left) (h1 : left ≤ 1048576) (hg : g.length ≤ maxLen) : ∃ r, laws_szLoan.f b a g left = some r ∧ (0 ≤ r → r ≤ left ∧ g.length ≤ 1048576) ∧ r ≤ left := by
  unfold maxLen at hg
  unfold laws_szLoan.f laws_szIntS.f
  rw [wrap_id (by omega) (by omega)]
  by_cases h : left - (g.length : Int) < 0
  · rw [if_pos h]
    exact ⟨-1, rfl, by omega, by omega⟩
  · rw [if_neg h]
    refine ⟨left - (g.length : Int), ?_, by omega, by omega⟩
    show (if left - (g.length : Int) < 0 then some (-1) else some (left - (g.length : Int))) = _
    rw [if_neg h]
theorem szLoanS_loop : ∀ (post pre : List S47) (left : Int), (pre ++ post).length < 4611686018427387904 → 0 ≤ left → left ≤ 1048576 → (∀ x ∈ post, x.f2.length ≤ maxLen) →
    ∃ r, Ev (fun k => laws_szLoanS.l0 k (pre ++ post) left (pre.length : Int)) r ∧ (0 ≤ r → ∀ x ∈ post, x.f2.length ≤ 1048576) ∧ r ≤ 1048576
  | [], pre, left, _, _, _, _ => ⟨left, Ev.step (fun _ => laws_szLoanS.l0.eq_2 ..) (Ev.neg (by simp) (Ev.now _)), by simp, by omega⟩
  | x :: post, pre, left, hl, h0, h1, hx => by
    obtain ⟨t, ht, ht2, ht3⟩ := szLoan_eq x.f0 x.f1 x.f2 left h0 h1 (hx x (List.mem_cons_self ..))
    by_cases h : t < 0
    · refine ⟨-1, Ev.step (fun _ => laws_szLoanS.l0.eq_2 ..) (Ev.pos (by simp; omega) (Ev.pos (by omega) ?_)), by omega, by omega⟩
      simp only [rdL_mid]
      exact Ev.bind0 ht (Ev.pos h (Ev.now _))
    · obtain ⟨r, hr, hr2, hr3⟩ := szLoanS_loop post (pre ++ [x]) t (by simpa using hl) (by omega) (by omega) (fun y hy => hx y (List.mem_cons_of_mem _ hy))
      simp only [List.length_append, List.length_cons] at hl
      refine ⟨r, Ev.step (fun _ => laws_szLoanS.l0.eq_2 ..) (Ev.pos (by simp; omega) (Ev.pos (by omega) ?_)), ?_, hr3⟩
      · simp only [rdL_mid]
        refine Ev.bind0 ht (Ev.neg h ?_)
        rw [wrap_nat (by omega)]
        simpa using hr
      · intro h5 y hy
        rcases List.mem_cons.1 hy with rfl | hy
        · exact (ht2 (by omega)).2
        · exact hr2 h5 y hy
theorem szLoanS_ev (l : List S47) (left : Int) (h0 : 0 ≤ left) (h1 : left ≤ 1048576) (hl : l.length ≤ maxLen) (hx : ∀ x ∈ l, x.f2.length ≤ maxLen) :
    ∃ r, Ev (fun k => laws_szLoanS.f k l left) r ∧ (0 ≤ r → l.length ≤ 1048576 ∧ ∀ x ∈ l, x.f2.length ≤ 1048576) ∧ r ≤ 1048576 := by
  unfold maxLen at hl
  by_cases h : left - (l.length : Int) < 0
  · refine ⟨-1, Ev.congr (fun _ => laws_szLoanS.f.eq_1 ..) (Ev.pos ?_ (Ev.now _)), by omega, by omega⟩
    rw [wrap_id (by omega) (by omega)]
    exact h
  · obtain ⟨r, hr, hr2, hr3⟩ := szLoanS_loop l [] (left - (l.length : Int)) (by simp; omega) (by omega) (by omega) hx
    refine ⟨r, Ev.congr (fun _ => laws_szLoanS.f.eq_1 ..) ?_, fun h5 => ⟨by omega, hr2 h5⟩, hr3⟩
    rw [wrap_id (by omega) (by omega)]
    exact Ev.neg h hr
theorem toLoan_ev (b a : Int) (g : List Int) (hg : g.length ≤ 1048576) : Ev (fun k => laws_toLoan.f k b a g) (b, a, g) :=
  Ev.congr (fun _ => laws_toLoan.f.eq_1 ..) (Ev.bind (toIntS_ev g hg) (Ev.now _))
theorem toLoanS_loop : ∀ (post pre : List S47), (pre ++ post).length < 4611686018427387904 → (∀ x ∈ post, x.f2.length ≤ 1048576) →
    Ev (fun k => laws_toLoanS.l0 k (pre ++ post) (pre.map conv ++ List.replicate post.length z42) (pre.length : Int)) ((pre ++ post).map conv)
  | [], pre, _, _ => Ev.step (fun _ => laws_toLoanS.l0.eq_2 ..) (Ev.neg (by simp) (Ev.now' (by simp)))
  | x :: post, pre, hl, hx => by
    have ih := toLoanS_loop post (pre ++ [x]) (by simpa using hl) (fun y hy => hx y (List.mem_cons_of_mem _ hy))
    simp only [List.length_append, List.length_cons] at hl
    refine Ev.step (fun _ => laws_toLoanS.l0.eq_2 ..) (Ev.pos (by simp; omega) (Ev.pos (by omega) ?_))
    simp only [rdL_mid]
    refine Ev.bind (toLoan_ev x.f0 x.f1 x.f2 (hx x (List.mem_cons_self ..))) (Ev.pos (by simp; omega) ?_)
    have e : (pre.map conv ++ List.replicate (x :: post).length z42).set pre.length (conv x) = (pre ++ [x]).map conv ++ List.replicate post.length z42 := by
      have h2 : pre.length = (pre.map conv).length := by simp
      rw [h2]
      simp [List.replicate_succ]
    rw [wrap_nat (by omega), Int.toNat_natCast, show (⟨x.f0, x.f1, x.f2⟩ : S42) = conv x from rfl, e]
    simpa using ih
theorem toLoanS_ev (l : List S47) (hl : l.length ≤ 1048576) (hx : ∀ x ∈ l, x.f2.length ≤ 1048576) : Ev (fun k => laws_toLoanS.f k l) (l.map conv) := by
  refine Ev.congr (fun _ => laws_toLoanS.f.eq_1 ..) (Ev.pos (by omega) (Ev.pos (by omega) ?_))
  rw [Int.toNat_natCast]
  exact toLoanS_loop l [] (by simp; omega) hx
theorem eqLoan_refl (b a : Int) (g : List Int) (hg : g.length < 4611686018427387904) : Ev (fun k => laws_eqLoan.f k b a g b a g) true :=
  Ev.congr (fun _ => laws_eqLoan.f.eq_1 ..) (Ev.pos rfl (Ev.pos rfl (Ev.bind (eqIntS_refl g hg) (Ev.pos rfl (Ev.now _)))))
theorem eqLoanS_loop (a : List S42) (ha : a.length < 4611686018427387904) (hg : ∀ x ∈ a, x.f2.length < 4611686018427387904) : ∀ (d i : Nat), i + d = a.length → Ev (fun k => laws_eqLoanS.l0 k a a (i : Int)) true
  | 0, i, h => Ev.step (fun _ => laws_eqLoanS.l0.eq_2 ..) (Ev.neg (by omega) (Ev.now _))
  | d + 1, i, h => by
    have hm : rd_T42 a (i : Int) ∈ a := by
      unfold rd_T42
      rw [Int.toNat_natCast, List.getD_eq_getElem?_getD, List.getElem?_eq_getElem (by omega)]
      exact List.getElem_mem _
    refine Ev.step (fun _ => laws_eqLoanS.l0.eq_2 ..) (Ev.pos (by omega) (Ev.pos (by omega) (Ev.pos (by omega) (Ev.bind (eqLoan_refl _ _ _ (hg _ hm)) (Ev.pos rfl ?_)))))
    rw [wrap_nat (by omega)]
    exact eqLoanS_loop a ha hg d (i + 1) (by omega)
theorem eqLoanS_refl (a : List S42) (ha : a.length < 4611686018427387904) (hg : ∀ x ∈ a, x.f2.length < 4611686018427387904) : Ev (fun k => laws_eqLoanS.f k a a) true :=
  Ev.congr (fun _ => laws_eqLoanS.f.eq_1 ..) (Ev.pos rfl (eqLoanS_loop a ha hg a.length 0 (by omega)))
theorem FnExactMostLoan : laws_FnExactMostLoan.Pure := by
  intro l0 l1 b a g h0 h1 h2
  apply Ev.rounds
  refine Ev.congr (fun _ => laws_FnExactMostLoan.f.eq_1 ..) (Ev.ite (fun _ => Ev.now _) fun hl => ?_)
  obtain ⟨r, hr, hr2, hr3⟩ := szLoanS_ev l1 1048576 (by omega) (by omega) h1.1 (fun x hx => (h1.2 x hx).2.2.1)
  refine Ev.bind hr (Ev.ite (fun _ => Ev.now _) fun h3 => ?_)
  have h4 := hr2 (by omega)
  obtain ⟨t, ht, ht2, ht3⟩ := szLoan_eq b a g r (by omega) hr3 h2.2.2.1
  refine Ev.bind0 ht (Ev.ite (fun _ => Ev.now _) fun h5 => ?_)
  have h6 := (ht2 (by omega)).2
  have I := toIntS_ev l0 (by omega)
  have L := toLoanS_ev l1 h4.1 h4.2
  have T := toLoan_ev b a g h6
  have hm : ∀ x ∈ l1.map conv, x.f2.length ≤ 1048576 := by
    intro x hx
    obtain ⟨y, hy, rfl⟩ := List.mem_map.1 hx
    exact h4.2 y hy
  have hml : (l1.map conv).length ≤ 1048576 := by simpa using h4.1
  refine Ev.bind I (Ev.bind L (Ev.bind T (Ev.bind (specMostLoan_ev l0 (l1.map conv) b a g (by omega) (fun x hx => by have := hm x hx; omega) (by omega)) (Ev.bind I (Ev.bind L (Ev.bind T (Ev.bind (mostLoan_ev l0 (l1.map conv) b a g (by omega)) (Ev.pos rfl ?_))))))))
  exact Ev.bind I (Ev.bind (eqIntS_refl l0 (by omega)) (Ev.pos rfl (Ev.bind L (Ev.bind (eqLoanS_refl _ (by omega) (fun x hx => by have := hm x hx; omega)) (Ev.pos rfl (Ev.bind T (Ev.bind (eqLoan_refl b a g (by omega)) (Ev.pos rfl (Ev.now _)))))))))
end Go.Proofs.Ytifohlgdkdcpeaa.Pure
