/- What stakes lose and what is lost together are all loans of those who fail, each of whom fails once, the first one first, and who has nothing left but for the first one; for every code, without any condition. -/
import Derived.Test.YtakneceldonjdaaMathFnCascade
import Derived.Test.YtakneceldonjdaaPFnCascadex11
namespace Go.Proofs.Ytakneceldonjdaa.Pure
open Go.RowKit Go.Proofs.Ytakneceldonjdaa.PFnCascade Go.Proofs.Ytakneceldonjdaa.M Go.Proofs.YtakneceldonjdaaW.PrintWords Go.Proofs.YtakneceldonjdaaW.PrintLast Go.Proofs.YtakneceldonjdaaW.PrintMore
theorem allWithin_loop (lo hi : Int) : ∀ (post pre : List Int), (pre ++ post).length < 4611686018427387904 →
    Ev (fun k => impl_allWithin.l0 k lo hi (pre ++ post) ((pre ++ post).length : Int) (pre.length : Int)) (allW post lo hi)
  | [], pre, _ => Ev.step (fun _ => impl_allWithin.l0.eq_2 ..) (Ev.neg (by simp) (Ev.now' (by simp [allW])))
  | x :: post, pre, hl => by
    have ih := allWithin_loop lo hi post (pre ++ [x]) (by simpa using hl)
    refine Ev.step (fun _ => impl_allWithin.l0.eq_2 ..) (Ev.pos (by simp; omega) (Ev.pos (by omega) (Ev.pos (by simp; omega) ?_)))
    simp only [rd_mid]
    rw [wrap_nat (by simp at hl; omega)]
    rw [show (pre ++ [x]).length = pre.length + 1 from by simp, List.append_assoc] at ih
    refine Ev.ite (fun h => Ev.now' (by simp [allW]; omega)) (fun h => Ev.ite (fun h2 => Ev.now' (by simp [allW]; omega)) (fun h2 => Ev.is ih ?_))
    rw [allW_cons]
    simp; omega
theorem allWithin_ev (xs : List Int) (lo hi : Int) (hl : xs.length < 4611686018427387904) : Ev (fun k => impl_allWithin.f k xs lo hi) (allW xs lo hi) :=
  Ev.congr (fun _ => impl_allWithin.f.eq_1 ..) (allWithin_loop lo hi xs [] (by simpa using hl))
theorem inRange_eq (n lo hi : Int) : spec_inRange.f n lo hi = some (decide (lo ≤ n) && decide (n ≤ hi)) := by
  unfold spec_inRange.f
  by_cases h : lo ≤ n <;> simp [h]
theorem allIn_loop (lo hi : Int) : ∀ (post pre : List Int), (pre ++ post).length < 4611686018427387904 →
    Ev (fun k => spec_allIn.l0 k (pre ++ post) lo hi (pre.length : Int)) (allW post lo hi)
  | [], pre, _ => Ev.step (fun _ => spec_allIn.l0.eq_2 ..) (Ev.neg (by simp) (Ev.now' (by simp [allW])))
  | x :: post, pre, hl => by
    have ih := allIn_loop lo hi post (pre ++ [x]) (by simpa using hl)
    refine Ev.step (fun _ => spec_allIn.l0.eq_2 ..) (Ev.pos (by simp; omega) (Ev.pos (by omega) ?_))
    simp only [rd_mid]
    rw [wrap_nat (by simp at hl; omega)]
    rw [show (pre ++ [x]).length = pre.length + 1 from by simp, List.append_assoc] at ih
    refine Ev.bind0 (inRange_eq ..) (Ev.ite (fun h => Ev.is ih ?_) (fun h => Ev.now' ?_))
    · rw [allW_cons, h, Bool.true_and]
    · rw [allW_cons, Bool.eq_false_iff.2 h, Bool.false_and]
theorem allIn_ev (xs : List Int) (lo hi : Int) (hl : xs.length < 4611686018427387904) : Ev (fun k => spec_allIn.f k xs lo hi) (allW xs lo hi) :=
  Ev.congr (fun _ => spec_allIn.f.eq_1 ..) (allIn_loop lo hi xs [] (by simpa using hl))
theorem index_loop (v : Int) : ∀ (post pre : List Int), (pre ++ post).length < 4611686018427387904 → v ∉ pre →
    Ev (fun k => slices_Index_int_int.l0 k (pre ++ post) v ((pre ++ post).length : Int) (pre.length : Int)) (idxI (pre ++ post) v)
  | [], pre, _, hv => Ev.step (fun _ => slices_Index_int_int.l0.eq_2 ..) (Ev.neg (by simp) (Ev.now' (by simp [idxI, hv])))
  | x :: post, pre, hl, hv => by
    refine Ev.step (fun _ => slices_Index_int_int.l0.eq_2 ..) (Ev.pos (by simp; omega) (Ev.pos (by omega) (Ev.pos (by simp; omega) ?_)))
    simp only [rd_mid]
    rw [wrap_nat (by simp at hl; omega)]
    refine Ev.ite (fun h => Ev.now' ?_) (fun h => ?_)
    · subst h
      simp [idxI, List.idxOf_append, hv]
    · have ih := index_loop v post (pre ++ [x]) (by simpa using hl) (by simp [hv, h])
      rwa [show (pre ++ [x]).length = pre.length + 1 from by simp, List.append_assoc] at ih
theorem index_ev (xs : List Int) (v : Int) (hl : xs.length < 4611686018427387904) : Ev (fun k => slices_Index_int_int.f k xs v) (idxI xs v) :=
  Ev.congr (fun _ => slices_Index_int_int.f.eq_1 ..) (index_loop v xs [] (by simpa using hl) (by simp))
theorem contains_ev (xs : List Int) (v : Int) (hl : xs.length < 4611686018427387904) : Ev (fun k => slices_Contains_int_int.f k xs v) (decide (v ∈ xs)) := by
  refine Ev.congr (fun _ => slices_Contains_int_int.f.eq_1 ..) (Ev.bind (index_ev xs v hl) (Ev.now' ?_))
  have := idxI_neg (xs := xs) (v := v)
  by_cases h : v ∈ xs <;> simp [h] at this ⊢ <;> omega
theorem placeIn_loop (v : Int) : ∀ (post pre : List Int), (pre ++ post).length < 4611686018427387904 → v ∉ pre →
    Ev (fun k => spec_placeIn.l0 k (pre ++ post) v (pre.length : Int)) (idxI (pre ++ post) v)
  | [], pre, _, hv => Ev.step (fun _ => spec_placeIn.l0.eq_2 ..) (Ev.neg (by simp) (Ev.now' (by simp [idxI, hv])))
  | x :: post, pre, hl, hv => by
    refine Ev.step (fun _ => spec_placeIn.l0.eq_2 ..) (Ev.pos (by simp; omega) (Ev.pos (by omega) ?_))
    simp only [rd_mid]
    rw [wrap_nat (by simp at hl; omega)]
    refine Ev.ite (fun h => Ev.now' ?_) (fun h => ?_)
    · subst h
      simp [idxI, List.idxOf_append, hv]
    · have ih := placeIn_loop v post (pre ++ [x]) (by simpa using hl) (by simp [hv, Ne.symm h])
      rwa [show (pre ++ [x]).length = pre.length + 1 from by simp, List.append_assoc] at ih
theorem placeIn_ev (xs : List Int) (v : Int) (hl : xs.length < 4611686018427387904) : Ev (fun k => spec_placeIn.f k xs v) (idxI xs v) :=
  Ev.congr (fun _ => spec_placeIn.f.eq_1 ..) (placeIn_loop v xs [] (by simpa using hl) (by simp))
/-- Different numbers below a bound. -/
def diffB (xs : List Int) (n : Int) : Bool := decide ((xs.length : Int) ≤ n) && allW xs 0 (n - 1) && decide xs.Nodup
theorem differentBelow_loop (n : Nat) : ∀ (post pre : List Int) (seen : Nat → Bool), (pre ++ post).length < 4611686018427387904 →
    (∀ j, j < n → (seen j = true ↔ (j : Int) ∈ pre)) →
    Ev (fun k => impl_differentBelow.l0 k (n : Int) (tab n seen) (pre ++ post) ((pre ++ post).length : Int) (pre.length : Int)) (allW post 0 ((n : Int) - 1) && decide (post.Nodup ∧ ∀ x ∈ post, x ∉ pre))
  | [], pre, _, _, _ => Ev.step (fun _ => impl_differentBelow.l0.eq_2 ..) (Ev.neg (by simp) (Ev.now' (by simp [allW])))
  | x :: post, pre, seen, hl, hs => by
    refine Ev.step (fun _ => impl_differentBelow.l0.eq_2 ..) (Ev.pos (by simp; omega) (Ev.pos (by omega) (Ev.pos (by simp; omega) ?_)))
    simp only [rd_mid]
    rw [wrap_nat (by simp at hl; omega)]
    refine Ev.ite (fun h => Ev.now' (by simp [allW]; omega)) (fun h => Ev.ite (fun h2 => Ev.now' (by simp [allW]; omega)) (fun h2 => ?_))
    obtain ⟨m, rfl⟩ : ∃ m : Nat, x = m := ⟨x.toNat, by omega⟩
    have hm : m < n := by omega
    have hsm := hs m hm
    refine Ev.pos (by omega) (Ev.pos (by rw [tab_length]; omega) ?_)
    rw [show rdOf false (tab n seen) (m : Int) = seen m from by unfold rdOf; rw [Int.toNat_natCast, tab_get _ hm], Int.toNat_natCast, tab_set]
    refine Ev.ite (fun h3 => Ev.now' ?_) (fun h3 => ?_)
    · have := hsm.1 h3
      simp [this]
    · have hmp : (m : Int) ∉ pre := fun hh => h3 (hsm.2 hh)
      have ih := differentBelow_loop n post (pre ++ [(m : Int)]) (fun j => if j = m then true else seen j) (by simpa using hl) (by
        intro j hj
        by_cases e : j = m
        · subst e; simp
        · have := hs j hj
          simp only [if_neg e, this, List.mem_append, List.mem_cons, List.not_mem_nil, or_false]
          constructor
          · exact fun hh => .inl hh
          · rintro (hh | hh)
            · exact hh
            · exact absurd (by omega) e)
      rw [show (pre ++ [(m : Int)]).length = pre.length + 1 from by simp, List.append_assoc] at ih
      refine Ev.is ih ?_
      rw [allW_cons]
      have e1 : (decide ((0 : Int) ≤ m) && decide ((m : Int) ≤ (n : Int) - 1)) = true := by simp; omega
      rw [e1, Bool.true_and]
      congr 1
      simp only [List.nodup_cons, List.mem_append, List.mem_cons, List.not_mem_nil, or_false, decide_eq_decide]
      constructor
      · rintro ⟨h1, h4⟩
        refine ⟨⟨fun hh => (h4 _ hh) (.inr rfl), h1⟩, ?_⟩
        rintro y (rfl | hy)
        · exact hmp
        · exact fun hh => h4 y hy (.inl hh)
      · rintro ⟨⟨h1, h4⟩, h5⟩
        refine ⟨h4, fun y hy => ?_⟩
        rintro (hh | rfl)
        · exact h5 y (.inr hy) hh
        · exact h1 hy
theorem differentBelow_ev (xs : List Int) (n : Nat) (hn : n ≤ 281474976710656) : Ev (fun k => impl_differentBelow.f k xs (n : Int)) (diffB xs n) := by
  refine Ev.congr (fun _ => impl_differentBelow.f.eq_1 ..) (Ev.ite (fun h => Ev.now' ?_) (fun h => Ev.pos (by omega) (Ev.pos (by omega) ?_)))
  · simp [diffB]; omega
  · rw [Int.toNat_natCast, replicate_tab]
    have := differentBelow_loop n xs [] (fun _ => false) (by simp; omega) (by simp)
    refine Ev.is this ?_
    have e : decide ((xs.length : Int) ≤ n) = true := by simp; omega
    simp only [diffB, e, Bool.true_and]
    simp
theorem newReader_eq (s : List Int) : spec_newReader.f s = some (s.take 2000, 0) := by
  unfold spec_newReader.f
  split
  · rw [if_pos (by omega)]
  · rw [List.take_of_length_le (by omega)]
theorem pick_ev (s : List Int) (hs : ∀ x ∈ s, 0 ≤ x ∧ x ≤ 255) (hl : s.length ≤ 2000) (p n : Int) (hp : 0 ≤ p) (hp2 : p ≤ 1000000000) :
    ∃ v, Ev (fun k => spec_reader_pick.f k s p n) (v, p + 1) ∧ 0 ≤ v ∧ (1 ≤ n → v < n) := by
  have e1 : wrap64 (p + 1) = p + 1 := wrap_id (by omega) (by omega)
  have e2 : wrap64 (p + 1 - 1) = p := by rw [wrap_id (by omega) (by omega)]; omega
  by_cases hn : n < 1
  · refine ⟨0, Ev.congr (fun _ => spec_reader_pick.f.eq_1 ..) (Ev.pos hn (Ev.step (fun _ => spec_reader_pick.j0.eq_2 ..) (Ev.pos rfl ?_))), Int.le_refl _, fun h => by omega⟩
    rw [e1]; exact Ev.now _
  by_cases hz : s.length = 0
  · refine ⟨0, Ev.congr (fun _ => spec_reader_pick.f.eq_1 ..) (Ev.neg hn (Ev.step (fun _ => spec_reader_pick.j0.eq_2 ..) (Ev.pos (by simp [hz]) ?_))), Int.le_refl _, fun h => by omega⟩
    rw [e1]; exact Ev.now _
  have hrd : ∀ i : Int, 0 ≤ i → i < (s.length : Int) → 0 ≤ rd s i ∧ rd s i ≤ 255 := fun i h0 h1 => hs _ (rd_mem h0 h1)
  have key : ∀ x : Int, 0 ≤ x → 0 ≤ Int.tmod x n ∧ Int.tmod x n < n := by
    intro x hx
    rw [Int.tmod_eq_emod_of_nonneg hx]
    exact ⟨Int.emod_nonneg _ (by omega), Int.emod_lt_of_pos _ (by omega)⟩
  by_cases hlt : p < (s.length : Int)
  · obtain ⟨h0, h1⟩ := hrd p hp hlt
    refine ⟨Int.tmod (rd s p) n, Ev.congr (fun _ => spec_reader_pick.f.eq_1 ..) (Ev.neg hn (Ev.step (fun _ => spec_reader_pick.j0.eq_2 ..) (Ev.neg (by rw [beq_eq_false_iff_ne.2 (show (s.length : Int) ≠ 0 by omega)]; decide) ?_))), (key _ h0).1, fun _ => (key _ h0).2⟩
    rw [e1, e2]
    refine Ev.pos hlt (Ev.pos hp (Ev.neg (by omega) ?_))
    rw [wrap_id (x := rd s p) (by omega) (by omega)]
    exact Ev.now _
  · have hsl : (0 : Int) < s.length := by omega
    have hm1 : Int.tmod p s.length = p % s.length := Int.tmod_eq_emod_of_nonneg hp
    have hd1 : Int.tdiv p s.length = p / s.length := Int.tdiv_eq_ediv_of_nonneg hp
    have ha0 := Int.emod_nonneg p (show (s.length : Int) ≠ 0 by omega)
    have ha1 := Int.emod_lt_of_pos p hsl
    have hb0 := Int.emod_nonneg (p * 7 + 3) (show (s.length : Int) ≠ 0 by omega)
    have hb1 := Int.emod_lt_of_pos (p * 7 + 3) hsl
    have hq0 := Int.ediv_nonneg hp (show (0 : Int) ≤ s.length by omega)
    have hq1 := Int.ediv_le_self (b := (s.length : Int)) hp
    obtain ⟨hx0, hx1⟩ := hrd _ ha0 ha1
    obtain ⟨hy0, hy1⟩ := hrd _ hb0 hb1
    have ew1 : wrap64 (wrap64 (p * 7) + 3) = p * 7 + 3 := by rw [wrap_id (x := p * 7) (by omega) (by omega), wrap_id (by omega) (by omega)]
    have hm2 : Int.tmod (p * 7 + 3) s.length = (p * 7 + 3) % s.length := Int.tmod_eq_emod_of_nonneg (by omega)
    generalize hX : rd s (p % s.length) = X at hx0 hx1
    generalize hY : rd s ((p * 7 + 3) % s.length) = Y at hy0 hy1
    generalize hQ : p / s.length = q at hq0 hq1
    have big : wrap64 (wrap64 (wrap64 (wrap64 (wrap64 X * 131) + wrap64 (wrap64 Y * 1117)) + wrap64 (p * 29)) + wrap64 (wrap64 q * 53)) = X * 131 + Y * 1117 + p * 29 + q * 53 := by
      rw [wrap_id (x := X) (by omega) (by omega), wrap_id (x := Y) (by omega) (by omega), wrap_id (x := q) (by omega) (by omega), wrap_id (x := X * 131) (by omega) (by omega), wrap_id (x := Y * 1117) (by omega) (by omega), wrap_id (x := p * 29) (by omega) (by omega), wrap_id (x := q * 53) (by omega) (by omega), wrap_id (x := X * 131 + Y * 1117) (by omega) (by omega), wrap_id (x := X * 131 + Y * 1117 + p * 29) (by omega) (by omega), wrap_id (by omega) (by omega)]
    have hB : 0 ≤ X * 131 + Y * 1117 + p * 29 + q * 53 ∧ X * 131 + Y * 1117 + p * 29 + q * 53 < 1099511627776 := by omega
    generalize hV : X * 131 + Y * 1117 + p * 29 + q * 53 = V at big hB
    have hc : wrap64 (Int.tdiv V 64) = V / 64 := by rw [Int.tdiv_eq_ediv_of_nonneg hB.1, wrap_id (by omega) (by omega)]
    have hz0 := xor_nonneg (x := V) (y := V / 64) hB.1 hB.2 (by omega) (by omega)
    refine ⟨Int.tmod (Go.bits .xor .i64 V (V / 64)) n, Ev.congr (fun _ => spec_reader_pick.f.eq_1 ..) (Ev.neg hn (Ev.step (fun _ => spec_reader_pick.j0.eq_2 ..) (Ev.neg (by rw [beq_eq_false_iff_ne.2 (show (s.length : Int) ≠ 0 by omega)]; decide) ?_))), (key _ hz0).1, fun _ => (key _ hz0).2⟩
    rw [e1, e2, ew1, hm1, hm2, hX, hY, hd1, hQ, big, hc]
    exact Ev.neg hlt (Ev.neg (by omega) (Ev.pos ha0 (Ev.pos ha1 (Ev.pos hb0 (Ev.pos hb1 (Ev.neg (by omega) (Ev.now _)))))))
/-- One of the numbers of a list that isn't empty. -/
theorem one_ev (s : List Int) (hs : ∀ x ∈ s, 0 ≤ x ∧ x ≤ 255) (hl : s.length ≤ 2000) (p : Int) (hp : 0 ≤ p) (hp2 : p ≤ 1000000000) (xs : List Int) (hx : 0 < xs.length) :
    ∃ v, Ev (fun k => spec_reader_one.f k s p xs) (v, p + 1) ∧ v ∈ xs := by
  obtain ⟨v, h, h0, h1⟩ := pick_ev s hs hl p xs.length hp hp2
  have hv : v < (xs.length : Int) := h1 (by omega)
  exact ⟨rd xs v, Ev.congr (fun _ => spec_reader_one.f.eq_1 ..) (Ev.bind h (Ev.pos h0 (Ev.pos hv (Ev.now _)))), rd_mem h0 hv⟩
theorem splitEven_loop (x : Int) (p : Nat) (hx : 0 ≤ x) (hx2 : x ≤ 1000000) (hp : 0 < p) (hp2 : p ≤ 12) : ∀ (d i : Nat), i + d = p →
    Ev (fun k => impl_SplitEven.l0 k x (p : Int) (tab p (fun j => if j < i then spl x p j else 0)) (p : Int) (i : Int)) (tab p (spl x p))
  | 0, i, hi => Ev.step (fun _ => impl_SplitEven.l0.eq_2 ..) (Ev.neg (by omega) (Ev.now' (tab_ext fun j hj => if_pos (by omega))))
  | d + 1, i, hi => by
    have ih := splitEven_loop x p hx hx2 hp hp2 d (i + 1) (by omega)
    refine Ev.step (fun _ => impl_SplitEven.l0.eq_2 ..) (Ev.pos (by omega) (Ev.neg (by omega) (Ev.pos (by omega) (Ev.pos (by rw [tab_length]; omega) (Ev.bind0 rfl ?_)))))
    have hq0 := Int.ediv_nonneg hx (show (0 : Int) ≤ (p : Int) by omega)
    have hq1 := Int.ediv_le_self (b := (p : Int)) hx
    rw [Int.tdiv_eq_ediv_of_nonneg hx, Int.tmod_eq_emod_of_nonneg hx, Int.toNat_natCast, tab_set, tab_set, tab_rd (by omega), wrap_nat (by omega), if_pos rfl, wrap_id (x := x / p) (by omega) (by omega), wrap_id (x := x / p + 1) (by omega) (by omega)]
    refine Ev.ite (fun h => Ev.is ?_ rfl) (fun h => Ev.is ?_ rfl)
    · refine Ev.is (Ev.congr (fun k => ?_) ih) rfl
      congr 1
      refine tab_ext fun j hj => ?_
      by_cases e : j = i
      · subst e; simp [spl, h]
      · simp only [if_neg e]; by_cases e2 : j < i
        · rw [if_pos e2, if_pos (by omega)]
        · rw [if_neg e2, if_neg (by omega)]
    · refine Ev.is (Ev.congr (fun k => ?_) ih) rfl
      congr 1
      refine tab_ext fun j hj => ?_
      by_cases e : j = i
      · subst e; simp [spl, h]
      · simp only [if_neg e]; by_cases e2 : j < i
        · rw [if_pos e2, if_pos (by omega)]
        · rw [if_neg e2, if_neg (by omega)]
theorem splitEven_ev (x : Int) (p : Nat) (hx : 0 ≤ x) (hx2 : x ≤ 1000000) (hp : 0 < p) (hp2 : p ≤ 12) : Ev (fun k => impl_SplitEven.f k x (p : Int)) (tab p (spl x p)) := by
  refine Ev.congr (fun _ => impl_SplitEven.f.eq_1 ..) (Ev.neg (by omega) (Ev.neg (by omega) (Ev.neg (by omega) (Ev.step (fun _ => impl_SplitEven.j0.eq_2 ..) (Ev.neg (by simp; omega) (Ev.pos (by omega) (Ev.pos (by omega) (Ev.bind0 rfl ?_))))))))
  rw [Int.toNat_natCast, List.length_replicate, replicate_tab]
  exact splitEven_loop x p hx hx2 hp hp2 p 0 (by omega)
theorem splitEven_none (x p : Int) (h : x < 0 ∨ 1000000 < x ∨ p < 1 ∨ 12 < p) : Ev (fun k => impl_SplitEven.f k x p) [] := by
  refine Ev.congr (fun _ => impl_SplitEven.f.eq_1 ..) (Ev.ite (fun _ => ?_) fun _ => Ev.ite (fun _ => ?_) fun _ => Ev.ite (fun _ => ?_) fun _ => ?_)
  all_goals exact Ev.step (fun _ => impl_SplitEven.j0.eq_2 ..) (Ev.pos (by first | rfl | (simp; omega)) (Ev.now _))
theorem split_loop (x : Int) (p : Nat) (hx : 0 ≤ x) (hx2 : x ≤ 1000000) (hp2 : p ≤ 1000) : ∀ (d i : Nat), i + d = p →
    Ev (fun k => spec_split.l0 k x (p : Int) (tab i (spl x p)) (i : Int)) (tab p (spl x p))
  | 0, i, hi => Ev.step (fun _ => spec_split.l0.eq_2 ..) (Ev.neg (by omega) (Ev.now' (by rw [show i = p by omega])))
  | d + 1, i, hi => by
    have ih := split_loop x p hx hx2 hp2 d (i + 1) (by omega)
    refine Ev.step (fun _ => spec_split.l0.eq_2 ..) (Ev.pos (by omega) (Ev.neg (by omega) ?_))
    have hq0 := Int.ediv_nonneg hx (show (0 : Int) ≤ (p : Int) by omega)
    have hq1 := Int.ediv_le_self (b := (p : Int)) hx
    rw [Int.tdiv_eq_ediv_of_nonneg hx, Int.tmod_eq_emod_of_nonneg hx, wrap_nat (by omega), wrap_id (x := x / p) (by omega) (by omega), wrap_id (x := x / p + 1) (by omega) (by omega)]
    rw [tab_succ] at ih
    refine Ev.ite (fun h => Ev.pos (by rw [tab_length]; omega) ?_) (fun h => Ev.pos (by rw [tab_length]; omega) ?_)
    · rwa [show spl x p i = x / p + 1 from by simp [spl, h]] at ih
    · rwa [show spl x p i = x / p from by simp [spl, h]] at ih
theorem split_ev (x : Int) (p : Nat) (hx : 0 ≤ x) (hx2 : x ≤ 1000000) (hp2 : p ≤ 1000) : Ev (fun k => spec_split.f k x (p : Int)) (tab p (spl x p)) :=
  Ev.congr (fun _ => spec_split.f.eq_1 ..) (split_loop x p hx hx2 hp2 p 0 (by omega))
theorem equalInts_loop : ∀ (b post pre : List Int), (pre ++ post).length < 4611686018427387904 → b.length = (pre ++ post).length → b.take pre.length = pre →
    Ev (fun k => laws_equalInts.l0 k (pre ++ post) b (pre.length : Int)) (decide (pre ++ post = b))
  | b, [], pre, _, hb, ht => Ev.step (fun _ => laws_equalInts.l0.eq_2 ..) (Ev.neg (by simp) (Ev.now' (by
      simp at hb
      rw [List.take_of_length_le (by omega)] at ht
      simp [ht])))
  | b, x :: post, pre, hl, hb, ht => by
    simp only [List.length_append, List.length_cons] at hl hb
    refine Ev.step (fun _ => laws_equalInts.l0.eq_2 ..) (Ev.pos (by simp; omega) (Ev.pos (by omega) (Ev.pos (by omega) ?_)))
    rw [rd_mid, wrap_nat (by omega), rd_nat]
    have hg : b.getD pre.length 0 = b[pre.length]'(by omega) := by simp [List.getD_eq_getElem?_getD, show pre.length < b.length by omega]
    refine Ev.ite (fun h => ?_) (fun h => Ev.now' ?_)
    · have ih := equalInts_loop b post (pre ++ [x]) (by simp; omega) (by simp; omega) (by
        rw [show (pre ++ [x]).length = pre.length + 1 from by simp, List.take_succ_eq_append_getElem (by omega), ht, h, hg])
      rwa [show (pre ++ [x]).length = pre.length + 1 from by simp, List.append_assoc] at ih
    · symm
      rw [decide_eq_false_iff_not]
      rintro rfl
      apply h
      simp [List.getD_eq_getElem?_getD]
theorem equalInts_ev (a b : List Int) (h : a.length < 4611686018427387904) : Ev (fun k => laws_equalInts.f k a b) (decide (a = b)) := by
  refine Ev.congr (fun _ => laws_equalInts.f.eq_1 ..) (Ev.ite (fun e => ?_) (fun e => Ev.now' ?_))
  · exact equalInts_loop b a [] (by simpa using h) (by simp; omega) (by simp)
  · symm
    rw [decide_eq_false_iff_not]
    rintro rfl
    exact e rfl
/-- A valid loan. -/
def vL (l : S46) (m : Int) : Bool := decide (0 ≤ l.f0 ∧ l.f0 < m ∧ 1 ≤ l.f1 ∧ l.f1 ≤ 100000 ∧ 1 ≤ l.f2.length) && diffB l.f2 m && decide (l.f0 ∉ l.f2)
def vLs (ls : List S46) (m : Int) : Bool := decide (ls.length ≤ 16 ∧ 1 ≤ m ∧ m ≤ 12) && ls.all fun l => vL l m
theorem diffB_iff {xs : List Int} {n : Int} : diffB xs n = true ↔ (xs.length : Int) ≤ n ∧ (∀ x ∈ xs, 0 ≤ x ∧ x ≤ n - 1) ∧ xs.Nodup := by
  unfold diffB
  rw [Bool.and_eq_true, Bool.and_eq_true, allW_iff, decide_eq_true_iff, decide_eq_true_iff]
  exact ⟨fun h => ⟨h.1.1, h.1.2, h.2⟩, fun h => ⟨⟨h.1, h.2.1⟩, h.2.2⟩⟩
theorem vL_iff {l : S46} {m : Int} : vL l m = true ↔ (0 ≤ l.f0 ∧ l.f0 < m ∧ 1 ≤ l.f1 ∧ l.f1 ≤ 100000 ∧ 1 ≤ l.f2.length) ∧ ((l.f2.length : Int) ≤ m ∧ (∀ x ∈ l.f2, 0 ≤ x ∧ x ≤ m - 1) ∧ l.f2.Nodup) ∧ l.f0 ∉ l.f2 := by
  unfold vL
  rw [Bool.and_eq_true, Bool.and_eq_true, decide_eq_true_iff, decide_eq_true_iff, diffB_iff]
  exact ⟨fun h => ⟨h.1.1, h.1.2, h.2⟩, fun h => ⟨⟨h.1, h.2.1⟩, h.2.2⟩⟩
theorem vLs_iff {ls : List S46} {m : Int} : vLs ls m = true ↔ (ls.length ≤ 16 ∧ 1 ≤ m ∧ m ≤ 12) ∧ ∀ l ∈ ls, vL l m = true := by
  unfold vLs
  rw [Bool.and_eq_true, decide_eq_true_iff, List.all_eq_true]
theorem rdT_mid (pre post : List S46) (x : S46) : rd_T46 (pre ++ x :: post) (pre.length : Int) = x := by
  unfold rd_T46
  rw [Int.toNat_natCast]
  simp [List.getD_eq_getElem?_getD]
theorem diffB_len {xs : List Int} {n : Int} (h : diffB xs n = true) : (xs.length : Int) ≤ n := (diffB_iff.1 h).1
theorem differentBelow_any (xs : List Int) (n : Int) (h0 : 0 ≤ n) (hn : n ≤ 281474976710656) : Ev (fun k => impl_differentBelow.f k xs n) (diffB xs n) := by
  obtain ⟨m, rfl⟩ : ∃ m : Nat, n = m := ⟨n.toNat, by omega⟩
  exact differentBelow_ev xs m (by omega)
theorem validLoans_loop (m : Int) (hm : 1 ≤ m ∧ m ≤ 12) : ∀ (post pre : List S46), (pre ++ post).length ≤ 16 →
    Ev (fun k => impl_ValidLoans.l0 k m (pre ++ post) ((pre ++ post).length : Int) (pre.length : Int)) (post.all fun l => vL l m)
  | [], pre, _ => Ev.step (fun _ => impl_ValidLoans.l0.eq_2 ..) (Ev.neg (by simp) (Ev.now _))
  | x :: post, pre, hl => by
    have ih := validLoans_loop m hm post (pre ++ [x]) (by simpa using hl)
    rw [show (pre ++ [x]).length = pre.length + 1 from by simp, List.append_assoc] at ih
    have no : vL x m ≠ true → ((x :: post).all fun l => vL l m) = false := by
      intro h
      rw [List.all_cons, Bool.eq_false_iff.2 h, Bool.false_and]
    have j2 : ∀ b : Bool, (b = true → vL x m ≠ true) → (b = false → 0 ≤ x.f0 ∧ x.f0 < m ∧ 1 ≤ x.f1 ∧ x.f1 ≤ 100000) →
        Ev (fun k => impl_ValidLoans.j2 k m (pre ++ x :: post) ((pre ++ x :: post).length : Int) (pre.length : Int) b x.f0 x.f1 x.f2) ((x :: post).all fun l => vL l m) := by
      intro b h1 h2
      refine Ev.step (fun _ => impl_ValidLoans.j2.eq_2 ..) (Ev.ite (fun hb => Ev.now' (no (h1 hb)).symm) (fun hb => ?_))
      have hb := h2 (by simpa using hb)
      refine Ev.ite (fun hg => Ev.now' (no ?_).symm) (fun hg => Ev.bind (differentBelow_any _ _ (by omega) (by omega)) (Ev.ite (fun hd => Ev.bind (contains_ev _ _ (by have := diffB_len hd; omega)) (Ev.ite (fun hc => Ev.now' (no ?_).symm) (fun hc => ?_))) (fun hd => Ev.now' (no ?_).symm)))
      · intro hv; have := (vL_iff.1 hv).1; omega
      · intro hv; exact (vL_iff.1 hv).2.2 (by simpa using hc)
      · rw [wrap_nat (by simp at hl; omega)]
        refine Ev.is ih ?_
        rw [List.all_cons, vL_iff.2 ⟨⟨hb.1, hb.2.1, hb.2.2.1, hb.2.2.2, by omega⟩, diffB_iff.1 hd, by simpa using hc⟩, Bool.true_and]
      · intro hv; exact hd (diffB_iff.2 (vL_iff.1 hv).2.1)
    refine Ev.step (fun _ => impl_ValidLoans.l0.eq_2 ..) (Ev.pos (by simp; omega) (Ev.pos (by omega) (Ev.pos (by simp; omega) ?_)))
    simp only [rdT_mid]
    refine Ev.ite (fun h => ?_) (fun h => Ev.ite (fun h2 => ?_) (fun h2 => Ev.ite (fun h3 => ?_) (fun h3 => ?_)))
    · exact j2 true (fun _ hv => by have := (vL_iff.1 hv).1; omega) (fun e => by cases e)
    · exact j2 true (fun _ hv => by have := (vL_iff.1 hv).1; omega) (fun e => by cases e)
    · exact j2 true (fun _ hv => by have := (vL_iff.1 hv).1; omega) (fun e => by cases e)
    · exact j2 _ (fun e hv => by have := (vL_iff.1 hv).1; simp at e; omega) (fun e => by simp at e; omega)
theorem validLoans_ev (ls : List S46) (m : Int) : Ev (fun k => impl_ValidLoans.f k ls m) (vLs ls m) := by
  have no : ¬ (ls.length ≤ 16 ∧ 1 ≤ m ∧ m ≤ 12) → vLs ls m = false := by
    intro h; unfold vLs; rw [decide_eq_false h, Bool.false_and]
  refine Ev.congr (fun _ => impl_ValidLoans.f.eq_1 ..) (Ev.ite (fun h => ?_) fun h => Ev.ite (fun h2 => ?_) fun h2 => Ev.step (fun _ => impl_ValidLoans.j0.eq_2 ..) (Ev.ite (fun h3 => Ev.now' (no (by simp at h3; omega)).symm) fun h3 => ?_))
  · exact Ev.step (fun _ => impl_ValidLoans.j0.eq_2 ..) (Ev.pos rfl (Ev.now' (no (by omega)).symm))
  · exact Ev.step (fun _ => impl_ValidLoans.j0.eq_2 ..) (Ev.pos rfl (Ev.now' (no (by omega)).symm))
  · simp at h3
    refine Ev.is (validLoans_loop m (by omega) ls [] (by simp; omega)) ?_
    unfold vLs
    rw [decide_eq_true (by omega), Bool.true_and]
theorem validStakes_ev (xs : List Int) : Ev (fun k => impl_validStakes.f k xs) (decide (1 ≤ xs.length ∧ xs.length ≤ 12) && allW xs 0 100000) := by
  refine Ev.congr (fun _ => impl_validStakes.f.eq_1 ..) (Ev.ite (fun h => Ev.ite (fun h2 => Ev.bind (allWithin_ev _ _ _ (by omega)) (Ev.now' ?_)) fun h2 => Ev.now' ?_) fun h => Ev.now' ?_)
  · rw [decide_eq_true (by omega), Bool.true_and]
  · rw [decide_eq_false (by omega), Bool.false_and]
  · rw [decide_eq_false (by omega), Bool.false_and]
def vS (xs : List Int) : Bool := decide (1 ≤ xs.length ∧ xs.length ≤ 12) && allW xs 0 100000
theorem vS_iff {xs : List Int} : vS xs = true ↔ (1 ≤ xs.length ∧ xs.length ≤ 12) ∧ ∀ x ∈ xs, 0 ≤ x ∧ x ≤ 100000 := by
  unfold vS
  rw [Bool.and_eq_true, allW_iff, decide_eq_true_iff]

theorem stake_bd {st : List Int} (h : vS st = true) {j : Nat} (hj : j < st.length) : 0 ≤ st.getD j 0 ∧ st.getD j 0 ≤ 100000 := by
  have := (vS_iff.1 h).2 _ (rd_mem (xs := st) (i := (j : Int)) (by omega) (by omega))
  rwa [rd_nat] at this
theorem specValidStakes_ev (xs : List Int) : Ev (fun k => spec_validStakes.f k xs) (vS xs) := by
  refine Ev.congr (fun _ => spec_validStakes.f.eq_1 ..) (Ev.bind0 (inRange_eq ..) (Ev.ite (fun h => Ev.bind (allIn_ev _ _ _ (by simp at h; omega)) (Ev.now' ?_)) fun h => Ev.now' ?_))
  · simp at h
    unfold vS
    rw [decide_eq_true (by omega), Bool.true_and]
  · simp at h
    unfold vS
    rw [decide_eq_false (by omega), Bool.false_and]
theorem validMembers_loop (m : Int) (hm : 1 ≤ m ∧ m ≤ 9000000000000000000) : ∀ (post pre : List Int), (pre ++ post).length < 4611686018427387904 →
    Ev (fun k => spec_validMembers.l0 k (pre ++ post) m (pre.length : Int)) (allW post 0 (m - 1) && decide (post.Nodup ∧ ∀ x ∈ post, x ∉ pre))
  | [], pre, _ => Ev.step (fun _ => spec_validMembers.l0.eq_2 ..) (Ev.neg (by simp) (Ev.now' (by simp [allW])))
  | x :: post, pre, hl => by
    have ih := validMembers_loop m hm post (pre ++ [x]) (by simpa using hl)
    rw [show (pre ++ [x]).length = pre.length + 1 from by simp, List.append_assoc] at ih
    refine Ev.step (fun _ => spec_validMembers.l0.eq_2 ..) (Ev.pos (by simp; omega) (Ev.pos (by omega) ?_))
    rw [rd_mid, wrap_id (x := m - 1) (by omega) (by omega), wrap_nat (by simp at hl; omega), Int.toNat_natCast, List.take_left]
    refine Ev.bind0 (inRange_eq ..) (Ev.ite (fun h => Ev.pos (by simp; omega) (Ev.bind (placeIn_ev _ _ (by simp at hl; omega)) (Ev.ite (fun h2 => Ev.now' ?_) fun h2 => Ev.is ih ?_))) fun h => Ev.now' ?_)
    · have : x ∈ pre := Classical.byContradiction fun hc => by have := idxI_neg.2 hc; omega
      simp [this]
    · have hn : x ∉ pre := idxI_neg.1 (by omega)
      rw [allW_cons, h, Bool.true_and]
      congr 1
      simp only [List.nodup_cons, List.mem_append, List.mem_cons, List.not_mem_nil, or_false, decide_eq_decide]
      constructor
      · rintro ⟨h1, h4⟩
        refine ⟨⟨fun hh => (h4 _ hh) (.inr rfl), h1⟩, ?_⟩
        rintro y (rfl | hy)
        · exact hn
        · exact fun hh => h4 y hy (.inl hh)
      · rintro ⟨⟨h1, h4⟩, h5⟩
        refine ⟨h4, fun y hy => ?_⟩
        rintro (hh | rfl)
        · exact h5 y (.inr hy) hh
        · exact h1 hy
    · rw [allW_cons, Bool.eq_false_iff.2 h, Bool.false_and, Bool.false_and]
theorem validMembers_ev (xs : List Int) (m : Int) (hm : 1 ≤ m ∧ m ≤ 9000000000000000000) (hl : xs.length < 4611686018427387904) : Ev (fun k => spec_validMembers.f k xs m) (diffB xs m) := by
  refine Ev.congr (fun _ => spec_validMembers.f.eq_1 ..) (Ev.is (validMembers_loop m hm xs [] (by simpa using hl)) ?_)
  rw [Bool.eq_iff_iff, diffB_iff, Bool.and_eq_true, allW_iff, decide_eq_true_iff]
  constructor
  · rintro ⟨h1, h2, _⟩
    refine ⟨?_, h1, h2⟩
    have := nodup_le xs (tab m.toNat (fun j => (j : Int))) h2 (fun x hx => mem_tab.2 ⟨x.toNat, by have := h1 x hx; omega, by have := h1 x hx; omega⟩)
    rw [tab_length] at this
    omega
  · rintro ⟨_, h1, h2⟩
    exact ⟨h1, h2, fun x hx => by simp⟩
theorem specValidLoans_loop (m : Int) (hm : 1 ≤ m ∧ m ≤ 12) : ∀ (post pre : List S46), (pre ++ post).length < 4611686018427387904 → (∀ l ∈ post, l.f2.length < 4611686018427387904) →
    Ev (fun k => spec_validLoans.l0 k (pre ++ post) m (pre.length : Int)) (decide ((pre ++ post).length ≤ 16) && post.all fun l => vL l m)
  | [], pre, _, _ => by
    refine Ev.step (fun _ => spec_validLoans.l0.eq_2 ..) (Ev.neg (by simp) (Ev.ite (fun h => Ev.bind0 (inRange_eq ..) (Ev.now' ?_)) fun h => Ev.now' ?_))
    · rw [decide_eq_true hm.1, decide_eq_true hm.2, decide_eq_true (by omega)]; rfl
    · rw [decide_eq_false (by omega)]; rfl
  | x :: post, pre, hl, hg => by
    have ih := specValidLoans_loop m hm post (pre ++ [x]) (by simpa using hl) (fun l h => hg l (List.mem_cons_of_mem _ h))
    rw [show (pre ++ [x]).length = pre.length + 1 from by simp, List.append_assoc] at ih
    have hgx := hg x (List.mem_cons_self ..)
    have no : vL x m ≠ true → (decide ((pre ++ x :: post).length ≤ 16) && ((x :: post).all fun l => vL l m)) = false := by
      intro h
      rw [List.all_cons, Bool.eq_false_iff.2 h, Bool.false_and, Bool.and_false]
    refine Ev.step (fun _ => spec_validLoans.l0.eq_2 ..) (Ev.pos (by simp; omega) (Ev.pos (by omega) ?_))
    rw [wrap_id (x := m - 1) (by omega) (by omega), wrap_nat (by simp at hl; omega)]
    simp only [rdT_mid]
    refine Ev.bind0 (inRange_eq ..) (Ev.ite (fun h1 => Ev.bind0 (inRange_eq ..) (Ev.ite (fun h2 => Ev.ite (fun h3 => Ev.now' (no ?_).symm) fun h3 => Ev.bind (validMembers_ev _ _ (by omega) hgx) (Ev.ite (fun h4 => Ev.bind (placeIn_ev _ _ hgx) (Ev.ite (fun h5 => Ev.now' (no ?_).symm) fun h5 => Ev.is ih ?_)) fun h4 => Ev.now' (no ?_).symm)) fun h2 => Ev.now' (no ?_).symm)) fun h1 => Ev.now' (no ?_).symm)
    · intro hv; have := (vL_iff.1 hv).1; omega
    · intro hv; exact absurd (idxI_neg.2 (vL_iff.1 hv).2.2) (by omega)
    · simp at h1 h2
      rw [List.all_cons, vL_iff.2 ⟨⟨h1.1, by omega, h2.1, h2.2, by omega⟩, diffB_iff.1 h4, idxI_neg.1 (by omega)⟩, Bool.true_and]
      rfl
    · intro hv; exact h4 (diffB_iff.2 (vL_iff.1 hv).2.1)
    · intro hv; have := (vL_iff.1 hv).1; simp at h2; omega
    · intro hv; have := (vL_iff.1 hv).1; simp at h1; omega
theorem specValidLoans_ev (ls : List S46) (m : Int) (hm : 1 ≤ m ∧ m ≤ 12) (hl : ls.length < 4611686018427387904) (hg : ∀ l ∈ ls, l.f2.length < 4611686018427387904) : Ev (fun k => spec_validLoans.f k ls m) (vLs ls m) := by
  refine Ev.congr (fun _ => spec_validLoans.f.eq_1 ..) (Ev.is (specValidLoans_loop m hm ls [] (by simpa using hl) hg) ?_)
  unfold vLs
  congr 1
  simp; omega
theorem copyInts_eq (xs : List Int) (h : xs.length < 17592186044416) : spec_copyInts.f xs = some xs := by
  unfold spec_copyInts.f
  simp [h]
/-- Drawn loans: few, each with few guards. -/
structure Few (ls : List S46) (a b : Nat) : Prop where
  len : ls.length ≤ a
  gs : ∀ l ∈ ls, l.f2.length ≤ b
theorem someLoans_l1' (s : List Int) (hs : ∀ x ∈ s, 0 ≤ x ∧ x ≤ 255) (hl : s.length ≤ 2000) (n : Nat) (hn : 2 ≤ n ∧ n ≤ 8) (acc : List S46) (c b a : Int) (P : List S46 × Int → Prop) (hc : 1 ≤ c ∧ c ≤ 10) (ha : acc.length ≤ 100) (B : Int)
    (nx : ∀ (g : List Int) (p : Int), g.length ≤ n → 0 ≤ p → p ≤ B + 20 → ∃ r, Ev (fun k => spec_someLoans.l0 k (n : Int) (acc ++ [⟨b, a, g⟩]) (c - 1) s p) r ∧ (P r)) : ∀ (d i : Nat) (p : Int) (g : List Int), i + d = n → g.length ≤ i → 0 ≤ p → p ≤ B + i → B ≤ 1000000 →
    ∃ r, Ev (fun k => spec_someLoans.l1 k (n : Int) acc c (i : Int) s p b a g) r ∧ P r
  | 0, i, p, g, hi, hg, hp, hp2, hB => by
    by_cases h : g.length = 0
    · obtain ⟨r, hr, h2⟩ := nx [Int.tmod (wrap64 (b + 1)) (n : Int)] p (by simp; omega) hp (by omega)
      refine ⟨r, Ev.step (fun _ => spec_someLoans.l1.eq_2 ..) (Ev.neg (by omega) (Ev.pos (by omega) (Ev.neg (by omega) (Ev.pos (by omega) ?_)))), h2⟩
      rw [wrap_id (x := c - 1) (by omega) (by omega)]
      exact hr
    · obtain ⟨r, hr, h2⟩ := nx g p (by omega) hp (by omega)
      refine ⟨r, Ev.step (fun _ => spec_someLoans.l1.eq_2 ..) (Ev.neg (by omega) (Ev.neg (by omega) (Ev.pos (by omega) ?_))), h2⟩
      rw [wrap_id (x := c - 1) (by omega) (by omega)]
      exact hr
  | d + 1, i, p, g, hi, hg, hp, hp2, hB => by
    by_cases hb : (i : Int) = b
    · obtain ⟨r, hr, h2⟩ := someLoans_l1' s hs hl n hn acc c b a P hc ha B nx d (i + 1) p g (by omega) (by omega) hp (by omega) hB
      refine ⟨r, Ev.step (fun _ => spec_someLoans.l1.eq_2 ..) (Ev.pos (by omega) (Ev.pos hb ?_)), h2⟩
      rw [wrap_nat (by omega)]
      exact hr
    · obtain ⟨v, hv, _, _⟩ := pick_ev s hs hl p 3 hp (by omega)
      by_cases h : v = 0
      · obtain ⟨r, hr, h2⟩ := someLoans_l1' s hs hl n hn acc c b a P hc ha B nx d (i + 1) (p + 1) (g ++ [(i : Int)]) (by omega) (by simp; omega) (by omega) (by omega) hB
        refine ⟨r, Ev.step (fun _ => spec_someLoans.l1.eq_2 ..) (Ev.pos (by omega) (Ev.neg hb (Ev.bind hv (Ev.pos h (Ev.pos (by omega) ?_))))), h2⟩
        rw [wrap_nat (by omega)]
        exact hr
      · obtain ⟨r, hr, h2⟩ := someLoans_l1' s hs hl n hn acc c b a P hc ha B nx d (i + 1) (p + 1) g (by omega) (by omega) (by omega) (by omega) hB
        refine ⟨r, Ev.step (fun _ => spec_someLoans.l1.eq_2 ..) (Ev.pos (by omega) (Ev.neg hb (Ev.bind hv (Ev.neg h ?_)))), h2⟩
        rw [wrap_nat (by omega)]
        exact hr
theorem someLoans_l0 (s : List Int) (hs : ∀ x ∈ s, 0 ≤ x ∧ x ≤ 255) (hl : s.length ≤ 2000) (n : Nat) (hn : 2 ≤ n ∧ n ≤ 8) : ∀ (c : Nat) (p : Int) (acc : List S46), c ≤ 10 → Few acc (10 - c) 8 → 0 ≤ p → p ≤ 200 + 70000 * (10 - c) →
    ∃ r, Ev (fun k => spec_someLoans.l0 k (n : Int) acc (c : Int) s p) r ∧ (Few r.1 10 8 ∧ 0 ≤ r.2 ∧ r.2 ≤ 800000)
  | 0, p, acc, hc, ha, hp, hp2 => ⟨(acc, p), Ev.step (fun _ => spec_someLoans.l0.eq_2 ..) (Ev.neg (by omega) (Ev.now _)), ⟨by have := ha.len; simp; omega, ha.gs⟩, hp, by simp; omega⟩
  | c + 1, p, acc, hc, ha, hp, hp2 => by
    obtain ⟨b, hb, _, _⟩ := pick_ev s hs hl p n hp (by omega)
    obtain ⟨u, hu, _, _⟩ := pick_ev s hs hl (p + 1) 200 (by omega) (by omega)
    obtain ⟨a, ha2, _⟩ := one_ev s hs hl (p + 1 + 1) (by omega) (by omega) [100, 50, wrap64 (1 + u), 33] (by simp)
    obtain ⟨r, hr, h2⟩ := someLoans_l1' s hs hl n hn acc (c + 1 : Nat) b a (fun r => Few r.1 10 8 ∧ 0 ≤ r.2 ∧ r.2 ≤ 800000) (by omega) (by have := ha.len; omega) (p + 1 + 1 + 1) (by
      intro g p' hg h0 h1
      have := someLoans_l0 s hs hl n hn c p' (acc ++ [⟨b, a, g⟩]) (by omega) ⟨by have := ha.len; simp; omega, by
        intro l hl'
        rw [List.mem_append] at hl'
        rcases hl' with hl' | hl'
        · exact ha.gs l hl'
        · simp at hl'; subst hl'; simp; omega⟩ h0 (by omega)
      rwa [show ((c + 1 : Nat) : Int) - 1 = c by omega]) n 0 (p + 1 + 1 + 1) [] (by omega) (by simp) (by omega) (by omega) (by omega)
    exact ⟨r, Ev.step (fun _ => spec_someLoans.l0.eq_2 ..) (Ev.pos (by omega) (Ev.bind hb (Ev.bind hu (Ev.bind ha2 hr)))), h2⟩
theorem someLoans_ev (s : List Int) (hs : ∀ x ∈ s, 0 ≤ x ∧ x ≤ 255) (hl : s.length ≤ 2000) (n : Int) (hn : n ≤ 8) (p : Int) (hp : 0 ≤ p) (hp2 : p ≤ 100) :
    ∃ r, Ev (fun k => spec_someLoans.f k s p n) r ∧ (Few r.1 10 8 ∧ 0 ≤ r.2 ∧ r.2 ≤ 800000) := by
  by_cases h : n < 2
  · exact ⟨([], p), Ev.congr (fun _ => spec_someLoans.f.eq_1 ..) (Ev.bind0 rfl (Ev.pos h (Ev.now _))), ⟨by simp, by simp⟩, hp, by simp; omega⟩
  · obtain ⟨c, hc, hm⟩ := one_ev s hs hl p hp (by omega) [3, 2, 4, 1, 0, 6] (by simp)
    obtain ⟨m, rfl⟩ : ∃ m : Nat, n = m := ⟨n.toNat, by omega⟩
    have hc2 : 0 ≤ c ∧ c ≤ 6 := by simp at hm; omega
    obtain ⟨q, rfl⟩ : ∃ q : Nat, c = q := ⟨c.toNat, by omega⟩
    obtain ⟨r, hr, h2⟩ := someLoans_l0 s hs hl m (by omega) q (p + 1) [] (by omega) ⟨by simp, by simp⟩ (by omega) (by omega)
    exact ⟨r, Ev.congr (fun _ => spec_someLoans.f.eq_1 ..) (Ev.bind0 rfl (Ev.neg h (Ev.bind hc hr))), h2⟩
theorem anyLoans_ev (s : List Int) (hs : ∀ x ∈ s, 0 ≤ x ∧ x ≤ 255) (hl : s.length ≤ 2000) (p : Int) (hp : 0 ≤ p) (hp2 : p ≤ 50) :
    ∃ ls m q, Ev (fun k => spec_anyLoans.f k s p) (ls, m, q) ∧ Few ls 10 9 ∧ 0 ≤ m ∧ m ≤ 13 ∧ 0 ≤ q ∧ q ≤ 900000 := by
  obtain ⟨n, hn, hm⟩ := one_ev s hs hl p hp (by omega) [4, 3, 5, 2, 1, 8] (by simp)
  have hn2 : 0 ≤ n ∧ n ≤ 8 := by simp at hm; omega
  obtain ⟨⟨ls, q⟩, hr, hf, hq, hq2⟩ := someLoans_ev s hs hl n hn2.2 (p + 1) (by omega) (by omega)
  simp only at hf hq hq2
  have hf9 : Few ls 10 9 := ⟨hf.len, fun l h => by have := hf.gs l h; omega⟩
  by_cases h : (ls.length : Int) > 0
  · obtain ⟨v, hv, _, _⟩ := pick_ev s hs hl q 20 hq (by omega)
    have hset : ∀ x : S46, x.f2.length ≤ 9 → Few (ls.set (0 : Int).toNat x) 10 9 := fun x hx => ⟨by rw [List.length_set]; exact hf.len, fun l hl' => by
      rcases List.mem_or_eq_of_mem_set hl' with h' | h'
      · exact hf9.gs l h'
      · rw [h']; exact hx⟩
    have hd : (rd_T46 ls 0).f2.length ≤ 8 := by
      unfold rd_T46
      rw [List.getD_eq_getElem?_getD, List.getElem?_eq_getElem (by omega)]
      exact hf.gs _ (List.getElem_mem _)
    by_cases h0 : v = 0
    · obtain ⟨u, hu, _⟩ := one_ev s hs hl (q + 1) (by omega) (by omega) [0, 100001] (by simp)
      exact ⟨_, _, _, Ev.congr (fun _ => spec_anyLoans.f.eq_1 ..) (Ev.bind hn (Ev.bind hr (Ev.pos h (Ev.bind hv (Ev.pos h0 (Ev.bind hu (Ev.pos h (Ev.now _)))))))), hset _ (by simp only; omega), hn2.1, by omega, by omega, by omega⟩
    · by_cases h1 : v = 1
      · obtain ⟨u, hu, _⟩ := one_ev s hs hl (q + 1) (by omega) (by omega) [(rd_T46 ls 0).f0, n, (-1)] (by simp)
        exact ⟨_, _, _, Ev.congr (fun _ => spec_anyLoans.f.eq_1 ..) (Ev.bind hn (Ev.bind hr (Ev.pos h (Ev.bind hv (Ev.neg h0 (Ev.pos h1 (Ev.pos h (Ev.bind0 (copyInts_eq (rd_T46 ls 0).f2 (by omega)) (Ev.bind hu (Ev.pos (show (rd_T46 ls 0).f2.length < 17592186044416 by omega) (Ev.now _))))))))))), hset _ (by simp; omega), hn2.1, by omega, by omega, by omega⟩
      · by_cases h2 : v = 2
        · obtain ⟨u, hu, hum⟩ := one_ev s hs hl (q + 1) (by omega) (by omega) [0, 1, 13] (by simp)
          have : 0 ≤ u ∧ u ≤ 13 := by simp at hum; omega
          exact ⟨_, _, _, Ev.congr (fun _ => spec_anyLoans.f.eq_1 ..) (Ev.bind hn (Ev.bind hr (Ev.pos h (Ev.bind hv (Ev.neg h0 (Ev.neg h1 (Ev.pos h2 (Ev.bind hu (Ev.now _)))))))) ), hf9, this.1, this.2, by omega, by omega⟩
        · exact ⟨_, _, _, Ev.congr (fun _ => spec_anyLoans.f.eq_1 ..) (Ev.bind hn (Ev.bind hr (Ev.pos h (Ev.bind hv (Ev.neg h0 (Ev.neg h1 (Ev.neg h2 (Ev.now _)))))))), hf9, hn2.1, by omega, by omega, by omega⟩
  · exact ⟨_, _, _, Ev.congr (fun _ => spec_anyLoans.f.eq_1 ..) (Ev.bind hn (Ev.bind hr (Ev.neg h (Ev.now _)))), hf9, hn2.1, by omega, by omega, by omega⟩
theorem stakesOf_loop (s : List Int) (hs : ∀ x ∈ s, 0 ≤ x ∧ x ≤ 255) (hl : s.length ≤ 2000) (ls : List S46) (m : Nat) (hm : m ≤ 13) : ∀ (d i : Nat) (p : Int) (acc : List Int), i + d = m → acc.length = i → 0 ≤ p → p + 2 * d ≤ 990000 →
    ∃ st q, Ev (fun k => spec_stakesOf.l0 k ls (m : Int) acc (i : Int) s p) (st, ls, q) ∧ st.length = m ∧ 0 ≤ q ∧ q ≤ 1000000
  | 0, i, p, acc, hi, ha, hp, hp2 => by
    by_cases h : (acc.length : Int) > 0
    · obtain ⟨v, hv, _, _⟩ := pick_ev s hs hl p 20 hp (by omega)
      by_cases h0 : v = 0
      · obtain ⟨u, hu, _⟩ := one_ev s hs hl (p + 1) (by omega) (by omega) [(-1), 100001] (by simp)
        exact ⟨_, _, Ev.step (fun _ => spec_stakesOf.l0.eq_2 ..) (Ev.neg (by omega) (Ev.pos h (Ev.bind hv (Ev.pos h0 (Ev.bind hu (Ev.pos h (Ev.now _))))))), by rw [List.length_set]; omega, by omega, by omega⟩
      · exact ⟨_, _, Ev.step (fun _ => spec_stakesOf.l0.eq_2 ..) (Ev.neg (by omega) (Ev.pos h (Ev.bind hv (Ev.neg h0 (Ev.now _))))), by omega, by omega, by omega⟩
    · exact ⟨_, _, Ev.step (fun _ => spec_stakesOf.l0.eq_2 ..) (Ev.neg (by omega) (Ev.neg h (Ev.now _))), by omega, by omega, by omega⟩
  | d + 1, i, p, acc, hi, ha, hp, hp2 => by
    obtain ⟨v, hv, _, _⟩ := pick_ev s hs hl p 250 hp (by omega)
    obtain ⟨u, hu, _⟩ := one_ev s hs hl (p + 1) (by omega) (by omega) [200, 100, v, 0, 1000] (by simp)
    obtain ⟨st, q, ih, h2⟩ := stakesOf_loop s hs hl ls m hm d (i + 1) (p + 1 + 1) (acc ++ [u]) (by omega) (by simp; omega) (by omega) (by omega)
    refine ⟨st, q, Ev.step (fun _ => spec_stakesOf.l0.eq_2 ..) (Ev.pos (by omega) (Ev.bind hv (Ev.bind hu (Ev.pos (by omega) ?_)))), h2⟩
    rw [wrap_nat (by omega)]
    exact ih
theorem stakesOf_ev (s : List Int) (hs : ∀ x ∈ s, 0 ≤ x ∧ x ≤ 255) (hl : s.length ≤ 2000) (p : Int) (hp : 0 ≤ p) (hp2 : p ≤ 50) :
    ∃ st ls q, Ev (fun k => spec_stakesOf.f k s p) (st, ls, q) ∧ Few ls 10 9 ∧ st.length ≤ 13 ∧ 0 ≤ q ∧ q ≤ 1000000 := by
  obtain ⟨ls, m, q, h, hf, hm, hm2, hq, hq2⟩ := anyLoans_ev s hs hl p hp hp2
  obtain ⟨n, rfl⟩ : ∃ n : Nat, m = n := ⟨m.toNat, by omega⟩
  obtain ⟨st, q2, h2, hl2, h3⟩ := stakesOf_loop s hs hl ls n (by omega) n 0 q [] (by omega) rfl hq (by omega)
  exact ⟨st, ls, q2, Ev.congr (fun _ => spec_stakesOf.f.eq_1 ..) (Ev.bind h h2), hf, by omega, h3⟩
theorem mn_le (a b : Int) : mn a b ≤ a ∧ mn a b ≤ b ∧ (mn a b = a ∨ mn a b = b) := by
  unfold mn
  split <;> omega
/-- As much as can be is taken from a stake. -/
def tk (st : Nat → Int) (m : Nat) (a : Int) (j : Nat) : Int := if j = m then st j - mn (st j) a else st j
theorem sumN_tk (st : Nat → Int) (m : Nat) (a : Int) : ∀ n, sumN (tk st m a) n = sumN st n - (if m < n then mn (st m) a else 0)
  | 0 => by simp [sumN]
  | n + 1 => by
    simp only [sumN]
    rw [sumN_tk st m a n]
    unfold tk
    by_cases h : n = m
    · subst h; rw [if_neg (by omega), if_pos rfl, if_pos (by omega)]; omega
    · rw [if_neg h]
      by_cases h2 : m < n
      · rw [if_pos h2, if_pos (by omega)]; omega
      · rw [if_neg h2, if_neg (by omega)]; omega
/-- Stakes, the loss, and who could not bear its part. -/
abbrev CS := (Nat → Int) × Int × List Int
def fstep (gs : List Int) (s : Nat → Int) (S : CS) (i : Nat) : CS :=
  (tk S.1 (gs.getD i 0).toNat (s i), S.2.1 + (s i - mn (S.1 (gs.getD i 0).toNat) (s i)), if mn (S.1 (gs.getD i 0).toNat) (s i) < s i then S.2.2 ++ [gs.getD i 0] else S.2.2)
def failN (gs : List Int) (s : Nat → Int) (S : CS) : Nat → CS
  | 0 => S
  | i + 1 => fstep gs s (failN gs s S i) i
def lack (st : Nat → Int) (l : S46) : Int := l.f1 - mn (st l.f0.toNat) l.f1
def failM (st : Nat → Int) (l : S46) : CS := failN l.f2 (spl (lack st l) l.f2.length) (tk st l.f0.toNat l.f1, 0, []) l.f2.length
def Bd (st : Nat → Int) : Prop := ∀ j, 0 ≤ st j ∧ st j ≤ 100000
theorem tk_bd {st : Nat → Int} (h : Bd st) (m : Nat) {a : Int} (ha : 0 ≤ a) : Bd (tk st m a) := fun j => by
  have := h j
  have := mn_le (st j) a
  have : 0 ≤ mn (st j) a := by unfold mn; split <;> omega
  unfold tk
  split <;> omega
structure FInv (n : Nat) (gs : List Int) (s : Nat → Int) (st : Nat → Int) (i : Nat) (S : CS) : Prop where
  bd : Bd S.1
  le : ∀ j, S.1 j ≤ st j
  ls : 0 ≤ S.2.1 ∧ S.2.1 ≤ 100001 * i
  un : ∀ g ∈ S.2.2, g ∈ gs ∧ S.1 g.toNat = 0
  ln : S.2.2.length ≤ i
  sm : sumN st n - sumN S.1 n + S.2.1 = sumN s i
theorem failN_inv {n : Nat} {gs : List Int} {s st : Nat → Int} (hst : Bd st) (hs : ∀ i, 0 ≤ s i ∧ s i ≤ 100001) (hg : ∀ g ∈ gs, 0 ≤ g ∧ g ≤ (n : Int) - 1) : ∀ i, i ≤ gs.length → FInv n gs s st i (failN gs s (st, 0, []) i)
  | 0, _ => ⟨hst, fun _ => Int.le_refl _, by simp [failN], by simp [failN], by simp [failN], by simp [failN, sumN]⟩
  | i + 1, hi => by
    have ih := failN_inv hst hs hg i (by omega)
    have hsi := hs i
    have hgi : gs.getD i 0 ∈ gs := by rw [← rd_nat]; exact rd_mem (by omega) (by omega)
    have hgb := hg _ hgi
    obtain ⟨g, hge⟩ : ∃ g : Nat, gs.getD i 0 = g := ⟨(gs.getD i 0).toNat, by omega⟩
    have hm := mn_le ((failN gs s (st, 0, []) i).1 g) (s i)
    have hbd := ih.bd g
    simp only [failN, fstep, hge, Int.toNat_natCast]
    refine ⟨tk_bd ih.bd g hsi.1, fun j => ?_, by have := ih.ls; simp only; omega, fun x hx => ?_, ?_, ?_⟩
    · have := ih.le j
      have h2 := tk_bd ih.bd g hsi.1 j
      simp only [tk] at h2 ⊢
      split
      · rename_i e; subst e
        have : 0 ≤ mn ((failN gs s (st, 0, []) i).1 j) (s i) := by unfold mn; split <;> omega
        omega
      · omega
    · have zero : ∀ y : Int, (failN gs s (st, 0, []) i).1 y.toNat = 0 → tk (failN gs s (st, 0, []) i).1 g (s i) y.toNat = 0 := fun y hy => by
        unfold tk
        split
        · rw [hy]; unfold mn; split <;> omega
        · exact hy
      split at hx
      · rename_i hlt
        rw [List.mem_append] at hx
        rcases hx with hx | hx
        · exact ⟨(ih.un x hx).1, zero x (ih.un x hx).2⟩
        · simp at hx
          subst hx
          refine ⟨hge ▸ hgi, ?_⟩
          simp only [tk, Int.toNat_natCast, if_true]
          omega
      · exact ⟨(ih.un x hx).1, zero x (ih.un x hx).2⟩
    · have := ih.ln
      split <;> simp <;> omega
    · rw [sumN_tk, if_pos (by omega)]
      have := ih.sm
      simp only [sumN]
      omega
theorem lack_bd {st : Nat → Int} (hst : Bd st) {l : S46} {m : Int} (hv : vL l m = true) : 0 ≤ lack st l ∧ lack st l ≤ 100000 := by
  have hw := vL_iff.1 hv
  have := mn_le (st l.f0.toNat) l.f1
  have : 0 ≤ mn (st l.f0.toNat) l.f1 := by have := hst l.f0.toNat; unfold mn; split <;> omega
  unfold lack
  omega
theorem spl_bd2 {x : Int} {p : Nat} (hx : 0 ≤ x) (hx2 : x ≤ 100000) (hp : 0 < p) (i : Nat) : 0 ≤ spl x p i ∧ spl x p i ≤ 100001 := by
  have := spl_bd hx hp i
  omega
structure MInv (n : Nat) (l : S46) (st : Nat → Int) (S : CS) : Prop where
  bd : Bd S.1
  le : ∀ j, S.1 j ≤ st j
  ls : 0 ≤ S.2.1
  un : ∀ g ∈ S.2.2, (0 ≤ g ∧ g < (n : Int)) ∧ S.1 g.toNat = 0
  ln : S.2.2.length ≤ 12
  sm : sumN st n - sumN S.1 n + S.2.1 = l.f1
theorem failM_inv {n : Nat} (hn : n ≤ 12) {st : Nat → Int} (hst : Bd st) {l : S46} (hv : vL l n = true) : MInv n l st (failM st l) := by
  have hw := vL_iff.1 hv
  have hl := lack_bd hst hv
  have h := failN_inv (n := n) (gs := l.f2) (s := spl (lack st l) l.f2.length) (st := tk st l.f0.toNat l.f1) (tk_bd hst _ (by omega)) (spl_bd2 hl.1 hl.2 (by omega)) hw.2.1.2.1 l.f2.length (Nat.le_refl _)
  have hm : 0 ≤ mn (st l.f0.toNat) l.f1 := by have := hst l.f0.toNat; unfold mn; split <;> omega
  refine ⟨h.bd, fun j => ?_, h.ls.1, fun g hg => ?_, by have := h.ln; show (failM st l).2.2.length ≤ 12; unfold failM; omega, ?_⟩
  · refine Int.le_trans (h.le j) ?_
    unfold tk
    split
    · rename_i e; subst e; omega
    · omega
  · have := h.un g hg
    have := hw.2.1.2.1 g this.1
    exact ⟨by omega, (h.un g hg).2⟩
  · have := h.sm
    rw [sumN_tk, if_pos (by omega), spl_all _ _ (by omega)] at this
    unfold failM
    unfold lack at this ⊢
    omega
def addNew (F un : List Int) : List Int := un.foldl (fun F g => if g ∈ F then F else F ++ [g]) F
theorem addNew_snoc (F un : List Int) (g : Int) : addNew F (un ++ [g]) = if g ∈ addNew F un then addNew F un else addNew F un ++ [g] := by unfold addNew; rw [List.foldl_append]; rfl
theorem addNew_inv {n : Nat} : ∀ (un F : List Int), F.Nodup → (∀ x ∈ F, 0 ≤ x ∧ x < (n : Int)) → (∀ x ∈ un, 0 ≤ x ∧ x < (n : Int)) →
    (addNew F un).Nodup ∧ (∀ x ∈ addNew F un, 0 ≤ x ∧ x < (n : Int)) ∧ (∃ t, addNew F un = F ++ t ∧ ∀ x ∈ t, x ∈ un)
  | [], F, h1, h2, _ => ⟨h1, h2, [], by simp [addNew], by simp⟩
  | g :: un, F, h1, h2, h3 => by
    have e : addNew F (g :: un) = addNew (if g ∈ F then F else F ++ [g]) un := rfl
    by_cases hg : g ∈ F
    · rw [e, if_pos hg]
      obtain ⟨a, b, t, c, d⟩ := addNew_inv un F h1 h2 (fun x hx => h3 x (List.mem_cons_of_mem _ hx))
      exact ⟨a, b, t, c, fun x hx => List.mem_cons_of_mem _ (d x hx)⟩
    · rw [e, if_neg hg]
      obtain ⟨a, b, t, c, d⟩ := addNew_inv un (F ++ [g]) (by rw [List.nodup_append]; exact ⟨h1, by simp, fun a ha b hb => by simp at hb; subst hb; exact fun e => hg (e ▸ ha)⟩) (by
        intro x hx
        rw [List.mem_append] at hx
        rcases hx with hx | hx
        · exact h2 x hx
        · simp at hx; subst hx; exact h3 x (List.mem_cons_self ..)) (fun x hx => h3 x (List.mem_cons_of_mem _ hx))
      refine ⟨a, b, g :: t, by rw [c]; simp, fun x hx => ?_⟩
      rcases List.mem_cons.1 hx with hx | hx
      · subst hx; exact List.mem_cons_self ..
      · exact List.mem_cons_of_mem _ (d x hx)
def cstep (f : Int) (S : CS) (l : S46) : CS := if l.f0 = f then ((failM S.1 l).1, S.2.1 + (failM S.1 l).2.1, addNew S.2.2 (failM S.1 l).2.2) else S
def proc (f : Int) (S : CS) (ls : List S46) : CS := ls.foldl (cstep f) S
def run (ls : List S46) : Nat → Nat → CS → CS
  | 0, _, S => S
  | d + 1, i, S => if i < S.2.2.length then run ls d (i + 1) (proc (S.2.2.getD i 0) S ls) else S
def amtF (f : Int) (ls : List S46) : Int := ls.foldr (fun l a => (if l.f0 = f then l.f1 else 0) + a) 0
def amtS (F : List Int) (ls : List S46) : Int := ls.foldr (fun l a => (if l.f0 ∈ F then l.f1 else 0) + a) 0
theorem amtS_snoc {F : List Int} {f : Int} (h : f ∉ F) : ∀ ls : List S46, amtS (F ++ [f]) ls = amtS F ls + amtF f ls
  | [] => rfl
  | l :: ls => by
    have ih := amtS_snoc h ls
    simp only [amtS, amtF, List.foldr_cons] at ih ⊢
    rw [ih]
    by_cases h1 : l.f0 = f
    · rw [if_pos (by simp [h1]), if_neg (by rw [h1]; exact h), if_pos h1]; omega
    · by_cases h2 : l.f0 ∈ F
      · rw [if_pos (by simp [h2]), if_pos h2, if_neg h1]; omega
      · rw [if_neg (by simp [h2, h1]), if_neg h2, if_neg h1]; omega
theorem amtS_nil (ls : List S46) : amtS [] ls = 0 := by
  induction ls with
  | nil => rfl
  | cons l ls ih => simp only [amtS, List.foldr_cons] at ih ⊢; rw [ih]; simp
/-- What holds of stakes, loss and members who fail, all the while. -/
structure CInv (n : Nat) (first : Int) (st0 : Nat → Int) (A : Int) (S : CS) : Prop where
  nd : S.2.2.Nodup
  rg : ∀ x ∈ S.2.2, 0 ≤ x ∧ x < (n : Int)
  hd : 0 < S.2.2.length ∧ S.2.2.getD 0 0 = first
  bd : Bd S.1
  le : ∀ j, S.1 j ≤ st0 j
  zr : ∀ i, 0 < i → i < S.2.2.length → S.1 (S.2.2.getD i 0).toNat = 0
  ls : 0 ≤ S.2.1 ∧ S.2.1 ≤ A
  sm : sumN st0 n - sumN S.1 n + S.2.1 = A
theorem sumN_le {f g : Nat → Int} (h : ∀ j, f j ≤ g j) : ∀ n, sumN f n ≤ sumN g n
  | 0 => Int.le_refl _
  | n + 1 => by have := sumN_le h n; have := h n; simp only [sumN]; omega
theorem CInv.len {n : Nat} {first : Int} {st0 : Nat → Int} {A : Int} {S : CS} (h : CInv n first st0 A S) : S.2.2.length ≤ n := by
  have := nodup_le S.2.2 (tab n (fun j => (j : Int))) h.nd (fun x hx => mem_tab.2 ⟨x.toNat, by have := h.rg x hx; omega, by have := h.rg x hx; omega⟩)
  rwa [tab_length] at this
theorem getD_append {F t : List Int} {i : Nat} (h : i < F.length) : (F ++ t).getD i 0 = F.getD i 0 := by
  simp [List.getD_eq_getElem?_getD, List.getElem?_append_left h]
theorem cstep_pre (f : Int) (S : CS) (l : S46) {n : Nat} (hn : n ≤ 12) {first : Int} {st0 : Nat → Int} {A : Int} (h : CInv n first st0 A S) (hv : vL l n = true) :
    CInv n first st0 (A + if l.f0 = f then l.f1 else 0) (cstep f S l) ∧ ∃ t, (cstep f S l).2.2 = S.2.2 ++ t := by
  unfold cstep
  by_cases e : l.f0 = f
  · rw [if_pos e, if_pos e]
    have m := failM_inv hn h.bd hv
    have hw := vL_iff.1 hv
    obtain ⟨a, b, t, c, d⟩ := addNew_inv (n := n) (failM S.1 l).2.2 S.2.2 h.nd h.rg (fun x hx => (m.un x hx).1)
    have hle := sumN_le m.le n
    refine ⟨⟨a, b, ?_, m.bd, fun j => Int.le_trans (m.le j) (h.le j), fun i h0 h1 => ?_, ?_, ?_⟩, t, c⟩
    · simp only; rw [c, getD_append h.hd.1]
      exact ⟨by simp; have := h.hd.1; omega, h.hd.2⟩
    · simp only at h1 ⊢
      rw [c] at h1 ⊢
      by_cases h2 : i < S.2.2.length
      · rw [getD_append h2]
        have z := h.zr i h0 h2
        have := m.le (S.2.2.getD i 0).toNat
        have := m.bd (S.2.2.getD i 0).toNat
        omega
      · have : (S.2.2 ++ t).getD i 0 ∈ t := by
          rw [List.getD_eq_getElem?_getD, List.getElem?_append_right (by omega)]
          rw [List.length_append] at h1
          rw [List.getElem?_eq_getElem (by omega)]
          exact List.getElem_mem _
        exact (m.un _ (d _ this)).2
    · have := h.ls; have := m.ls; have := m.sm
      simp only
      omega
    · have := h.sm; have := m.sm
      simp only
      omega
  · rw [if_neg e, if_neg e, Int.add_zero]
    exact ⟨h, [], by simp⟩
theorem proc_inv (f : Int) {n : Nat} (hn : n ≤ 12) {first : Int} {st0 : Nat → Int} : ∀ (ls : List S46) (A : Int) (S : CS), CInv n first st0 A S → (∀ l ∈ ls, vL l n = true) →
    CInv n first st0 (A + amtF f ls) (proc f S ls) ∧ ∃ t, (proc f S ls).2.2 = S.2.2 ++ t
  | [], A, S, h, _ => ⟨by simpa [amtF, proc] using h, [], by simp [proc]⟩
  | l :: ls, A, S, h, hv => by
    obtain ⟨h1, t1, e1⟩ := cstep_pre f S l hn h (hv l (List.mem_cons_self ..))
    obtain ⟨h2, t2, e2⟩ := proc_inv f hn ls _ _ h1 (fun l' h' => hv l' (List.mem_cons_of_mem _ h'))
    refine ⟨?_, t1 ++ t2, ?_⟩
    · have : A + amtF f (l :: ls) = A + (if l.f0 = f then l.f1 else 0) + amtF f ls := by simp only [amtF, List.foldr_cons]; omega
      rw [this]
      exact h2
    · have : proc f S (l :: ls) = proc f (cstep f S l) ls := rfl
      rw [this, e2, e1, List.append_assoc]
theorem run_inv {n : Nat} (hn : n ≤ 12) {first : Int} {st0 : Nat → Int} (ls : List S46) (hv : ∀ l ∈ ls, vL l n = true) : ∀ (d i : Nat) (S : CS), i + d = n → i ≤ S.2.2.length → CInv n first st0 (amtS (S.2.2.take i) ls) S →
    CInv n first st0 (amtS (run ls d i S).2.2 ls) (run ls d i S)
  | 0, i, S, hi, hle, h => by
    have := h.len
    have e : S.2.2.take i = S.2.2 := List.take_of_length_le (by omega)
    rw [e] at h
    exact h
  | d + 1, i, S, hi, hle, h => by
    unfold run
    by_cases hlt : i < S.2.2.length
    · rw [if_pos hlt]
      obtain ⟨h2, t, e⟩ := proc_inv (S.2.2.getD i 0) hn ls _ _ h hv
      have hg : S.2.2.getD i 0 = S.2.2[i] := by simp [List.getD_eq_getElem?_getD, hlt]
      have hnm : S.2.2.getD i 0 ∉ S.2.2.take i := by
        intro hm
        have hp := h.nd
        rw [← List.take_append_drop i S.2.2, List.nodup_append] at hp
        refine hp.2.2 _ hm (S.2.2.getD i 0) ?_ rfl
        rw [hg, List.drop_eq_getElem_cons hlt]
        exact List.mem_cons_self ..
      refine run_inv hn ls hv d (i + 1) _ (by omega) (by rw [e]; simp; omega) ?_
      rw [e, List.take_append_of_le_length (by omega), List.take_succ_eq_append_getElem hlt, ← hg, amtS_snoc hnm]
      exact h2
    · rw [if_neg hlt]
      have e : S.2.2.take i = S.2.2 := List.take_of_length_le (by omega)
      rw [e] at h
      exact h
theorem start_inv {n : Nat} {first : Int} {st0 : Nat → Int} (ls : List S46) (h0 : 0 ≤ first ∧ first < (n : Int)) (hst : Bd st0) : CInv n first st0 (amtS (([first] : List Int).take 0) ls) (st0, 0, [first]) := by
  rw [List.take_zero, amtS_nil]
  exact ⟨by simp, by simp; exact h0, by simp, hst, fun _ => Int.le_refl _, fun i h1 h2 => by simp at h2; omega, by simp, by simp⟩
theorem clone_eq (xs : List Int) (h : xs.length < 17592186044416) : slices_Clone_int_int.f xs = some xs := by
  unfold slices_Clone_int_int.f
  simp [h]
theorem takeFrom_eq (n : Nat) (st : Nat → Int) (m : Nat) (a : Int) (hm : m < n) (hst : Bd st) (ha : 0 ≤ a ∧ a ≤ 100001) :
    impl_takeFrom.f (tab n st) (m : Int) a = some (a - mn (st m) a, tab n (tk st m a)) := by
  have h := hst m
  have h2 := mn_le (st m) a
  have h3 : 0 ≤ mn (st m) a := by unfold mn; split <;> omega
  unfold impl_takeFrom.f
  rw [if_pos (by omega), if_pos (by rw [tab_length]; omega), tab_rd hm, wrap_id (by omega) (by omega), wrap_id (by omega) (by omega), Int.toNat_natCast, tab_set]
  congr 2
  refine tab_ext fun j hj => ?_
  unfold tk
  by_cases e : j = m
  · rw [if_pos e, if_pos e, e]
  · rw [if_neg e, if_neg e]
theorem failOne_loop (n : Nat) (hn : n ≤ 12) (gs : List Int) (s st : Nat → Int) (b a : Int) (hgl : gs.length ≤ 12) (hst : Bd st) (hs : ∀ i, 0 ≤ s i ∧ s i ≤ 100001) (hg : ∀ g ∈ gs, 0 ≤ g ∧ g ≤ (n : Int) - 1) : ∀ (d i : Nat), i + d = gs.length →
    Ev (fun k => impl_failOne.l0 k (tab n (failN gs s (st, 0, []) i).1) (failN gs s (st, 0, []) i).2.1 (failN gs s (st, 0, []) i).2.2 (tab gs.length s) (gs.length : Int) (i : Int) b a gs)
      ((failN gs s (st, 0, []) gs.length).2.1, (failN gs s (st, 0, []) gs.length).2.2, tab n (failN gs s (st, 0, []) gs.length).1)
  | 0, i, hi => Ev.step (fun _ => impl_failOne.l0.eq_2 ..) (Ev.neg (by omega) (Ev.now' (by rw [show i = gs.length by omega])))
  | d + 1, i, hi => by
    have ih := failOne_loop n hn gs s st b a hgl hst hs hg d (i + 1) (by omega)
    have inv := failN_inv (n := n) hst hs hg i (by omega)
    have hsi := hs i
    have hgi : gs.getD i 0 ∈ gs := by rw [← rd_nat]; exact rd_mem (by omega) (by omega)
    have hgb := hg _ hgi
    obtain ⟨g, hge⟩ : ∃ g : Nat, gs.getD i 0 = g := ⟨(gs.getD i 0).toNat, by omega⟩
    have hm := mn_le ((failN gs s (st, 0, []) i).1 g) (s i)
    refine Ev.step (fun _ => impl_failOne.l0.eq_2 ..) (Ev.pos (by omega) (Ev.pos (by omega) (Ev.pos (by rw [tab_length]; omega) (Ev.pos (by omega) ?_))))
    rw [rd_nat, hge, tab_rd (by omega), wrap_nat (by omega)]
    have hb := inv.bd g
    have h3 : 0 ≤ mn ((failN gs s (st, 0, []) i).1 g) (s i) := by unfold mn; split <;> omega
    refine Ev.bind0 (takeFrom_eq n _ g (s i) (by omega) inv.bd hsi) ?_
    simp only [failN, fstep, hge, Int.toNat_natCast] at ih
    have hls := inv.ls
    refine Ev.ite (fun h => Ev.pos (by have := inv.ln; omega) ?_) (fun h => ?_)
    · rw [if_pos (by simp only at h; omega)] at ih
      rw [wrap_id (by simp only; omega) (by simp only; omega)]
      exact ih
    · rw [if_neg (by simp only at h; omega), show s i - mn ((failN gs s (st, 0, []) i).1 g) (s i) = 0 by simp only at h; omega, Int.add_zero] at ih
      exact ih
theorem failOne_ev (n : Nat) (hn : n ≤ 12) (st : Nat → Int) (l : S46) (hst : Bd st) (hv : vL l n = true) :
    Ev (fun k => impl_failOne.f k (tab n st) l.f0 l.f1 l.f2) ((failM st l).2.1, (failM st l).2.2, tab n (failM st l).1) := by
  have hw := vL_iff.1 hv
  obtain ⟨b, hb⟩ : ∃ b : Nat, l.f0 = b := ⟨l.f0.toNat, by omega⟩
  have hl := lack_bd hst hv
  have hbt : l.f0.toNat = b := by omega
  have e : lack st l = l.f1 - mn (st b) l.f1 := by unfold lack; rw [hbt]
  refine Ev.congr (fun _ => impl_failOne.f.eq_1 ..) ?_
  have ht := takeFrom_eq n st b l.f1 (by omega) hst (by omega)
  rw [← hb] at ht
  refine Ev.bind0 ht ?_
  rw [← e]
  refine Ev.bind (splitEven_ev (lack st l) l.f2.length hl.1 (by omega) (by omega) (by omega)) ?_
  rw [tab_length]
  have := failOne_loop n hn l.f2 (spl (lack st l) l.f2.length) (tk st b l.f1) l.f0 l.f1 (by omega) (tk_bd hst _ (by omega)) (spl_bd2 hl.1 hl.2 (by omega)) hw.2.1.2.1 l.f2.length 0 (by omega)
  unfold failM
  rw [hbt]
  exact this
theorem implCascade_l2 (n : Nat) (ls : List S46) (st : Nat → Int) (loss : Int) (F : List Int) (next i : Int) (r : List Int × Int × List Int) (un : List Int) (hF : F.length ≤ 100) (hul : un.length ≤ 12)
    (nx : Ev (fun k => impl_Cascade.l1 k ls (tab n st) loss (addNew F un) next ls (ls.length : Int) (i + 1)) r) (hi : 0 ≤ i ∧ i ≤ 1000) : ∀ (post pre : List Int), pre ++ post = un → (addNew F pre).length ≤ 100 + pre.length →
    Ev (fun k => impl_Cascade.l2 k ls (tab n st) loss (addNew F pre) next ls (ls.length : Int) i un (un.length : Int) (pre.length : Int)) r
  | [], pre, e, _ => by
    have e2 : pre = un := by simpa using e
    refine Ev.step (fun _ => impl_Cascade.l2.eq_2 ..) (Ev.neg (by rw [e2]; omega) ?_)
    rw [wrap_id (x := i + 1) (by omega) (by omega), e2]
    exact nx
  | g :: post, pre, e, hp => by
    have ih := implCascade_l2 n ls st loss F next i r un hF hul nx hi post (pre ++ [g]) (by simpa using e) (by rw [addNew_snoc]; split <;> simp <;> omega)
    rw [show (pre ++ [g]).length = pre.length + 1 from by simp, addNew_snoc] at ih
    have hpl : pre.length < un.length := by rw [← e]; simp
    refine Ev.step (fun _ => impl_Cascade.l2.eq_2 ..) (Ev.pos (by omega) (Ev.pos (by omega) (Ev.pos (by omega) ?_)))
    rw [show rd un (pre.length : Int) = g from by rw [← e]; exact rd_mid .., wrap_nat (by omega)]
    refine Ev.bind (contains_ev _ _ (by omega)) (Ev.ite (fun h => ?_) (fun h => Ev.pos (by omega) ?_))
    · rw [if_pos (by simpa using h)] at ih; exact ih
    · rw [if_neg (by simpa using h)] at ih; exact ih
theorem implCascade_l1 (n : Nat) (hn : n ≤ 12) (ls : List S46) (hll : ls.length ≤ 16) (hv : ∀ l ∈ ls, vL l n = true) (first : Int) (st0 : Nat → Int) (next : Nat) (f : Int) (r : List Int × Int × List Int) : ∀ (post pre : List S46) (A : Int) (S : CS), pre ++ post = ls → CInv n first st0 A S → A + 100000 * post.length ≤ 40000000 → next < S.2.2.length → S.2.2.getD next 0 = f →
    Ev (fun k => impl_Cascade.l0 k ls (tab n (proc f S post).1) (proc f S post).2.1 (proc f S post).2.2 ((next + 1 : Nat) : Int)) r →
    Ev (fun k => impl_Cascade.l1 k ls (tab n S.1) S.2.1 S.2.2 (next : Int) ls (ls.length : Int) (pre.length : Int)) r
  | [], pre, A, S, e, h, _, hnx, hf, nx => by
    have := h.len
    refine Ev.step (fun _ => impl_Cascade.l1.eq_2 ..) (Ev.neg (by rw [← e]; simp) ?_)
    rw [wrap_nat (by omega)]
    exact nx
  | l :: post, pre, A, S, e, h, hA, hnx, hf, nx => by
    have hpl : pre.length < ls.length := by rw [← e]; simp
    have hvl := hv l (by rw [← e]; simp)
    have hw := vL_iff.1 hvl
    have hlen := h.len
    obtain ⟨h2, t, ht⟩ := cstep_pre f S l hn h hvl
    simp only [List.length_cons] at hA
    have ih := implCascade_l1 n hn ls hll hv first st0 next f r post (pre ++ [l]) _ (cstep f S l) (by simpa using e) h2 (by split <;> omega) (by rw [ht]; simp; omega) (by rw [ht, getD_append hnx]; exact hf) nx
    rw [show (pre ++ [l]).length = pre.length + 1 from by simp] at ih
    refine Ev.step (fun _ => impl_Cascade.l1.eq_2 ..) (Ev.pos (by omega) (Ev.pos (by omega) (Ev.pos (by omega) (Ev.pos (by omega) (Ev.pos (by omega) ?_)))))
    rw [show rd_T46 ls (pre.length : Int) = l from by rw [← e]; exact rdT_mid .., rd_nat, hf, wrap_nat (by omega)]
    refine Ev.ite (fun hb => ?_) (fun hb => ?_)
    · have m := failM_inv hn h.bd hvl
      have hmsm := m.sm
      have hle := sumN_le m.le n
      have hls := m.ls
      have hsl := h.ls
      refine Ev.bind (failOne_ev n hn S.1 l h.bd hvl) ?_
      simp only
      rw [wrap_id (x := S.2.1 + (failM S.1 l).2.1) (by omega) (by omega)]
      unfold cstep at ih
      rw [if_pos hb] at ih
      exact implCascade_l2 n ls _ _ S.2.2 next _ r (failM S.1 l).2.2 (by omega) m.ln ih (by omega) (failM S.1 l).2.2 [] rfl (by simp [addNew]; omega)
    · unfold cstep at ih
      rw [if_neg hb] at ih
      exact ih
theorem amtS_bd {n : Int} {F : List Int} : ∀ {ls : List S46}, (∀ l ∈ ls, vL l n = true) → 0 ≤ amtS F ls ∧ amtS F ls ≤ 100000 * ls.length
  | [], _ => by simp [amtS]
  | l :: ls, h => by
    have ih := amtS_bd (F := F) (ls := ls) (fun l' h' => h l' (List.mem_cons_of_mem _ h'))
    have hw := vL_iff.1 (h l (List.mem_cons_self ..))
    simp only [amtS, List.foldr_cons, List.length_cons] at ih ⊢
    split <;> omega
theorem implCascade_l0 (n : Nat) (hn : n ≤ 12) (ls : List S46) (hll : ls.length ≤ 16) (hv : ∀ l ∈ ls, vL l n = true) (first : Int) (st0 : Nat → Int) : ∀ (d i : Nat) (S : CS), i + d = n → i ≤ S.2.2.length → CInv n first st0 (amtS (S.2.2.take i) ls) S →
    Ev (fun k => impl_Cascade.l0 k ls (tab n S.1) S.2.1 S.2.2 (i : Int)) (tab n (run ls d i S).1, (run ls d i S).2.1, (run ls d i S).2.2)
  | 0, i, S, hi, hle, h => by
    have := h.len
    exact Ev.step (fun _ => impl_Cascade.l0.eq_2 ..) (Ev.neg (by omega) (Ev.now _))
  | d + 1, i, S, hi, hle, h => by
    have hlen := h.len
    unfold run
    by_cases hlt : i < S.2.2.length
    · rw [if_pos hlt]
      obtain ⟨h2, t, e⟩ := proc_inv (S.2.2.getD i 0) hn ls _ _ h hv
      have hg : S.2.2.getD i 0 = S.2.2[i] := by simp [List.getD_eq_getElem?_getD, hlt]
      have hnm : S.2.2.getD i 0 ∉ S.2.2.take i := by
        intro hm
        have hp := h.nd
        rw [← List.take_append_drop i S.2.2, List.nodup_append] at hp
        refine hp.2.2 _ hm (S.2.2.getD i 0) ?_ rfl
        rw [hg, List.drop_eq_getElem_cons hlt]
        exact List.mem_cons_self ..
      have hb := amtS_bd (F := S.2.2.take i) hv
      have ih := implCascade_l0 n hn ls hll hv first st0 d (i + 1) (proc (S.2.2.getD i 0) S ls) (by omega) (by rw [e]; simp; omega) (by
        rw [e, List.take_append_of_le_length (by omega), List.take_succ_eq_append_getElem hlt, ← hg, amtS_snoc hnm]
        exact h2)
      refine Ev.step (fun _ => impl_Cascade.l0.eq_2 ..) (Ev.pos (by omega) ?_)
      exact implCascade_l1 n hn ls hll hv first st0 i (S.2.2.getD i 0) _ ls [] _ S rfl h (by omega) hlt rfl ih
    · rw [if_neg hlt]
      exact Ev.step (fun _ => impl_Cascade.l0.eq_2 ..) (Ev.neg (by omega) (Ev.now _))
def stF (st : List Int) (j : Nat) : Int := st.getD j 0
theorem stF_bd {st : List Int} (h : vS st = true) : Bd (stF st) := fun j => by
  by_cases hj : j < st.length
  · exact stake_bd h hj
  · unfold stF
    rw [List.getD_eq_getElem?_getD, List.getElem?_eq_none (by omega)]
    simp
/-- What Cascade tells. -/
def casM (st : List Int) (ls : List S46) (a : Int) : List Int × Int × List Int :=
  if vS st && vLs ls st.length && decide (0 ≤ a ∧ a < st.length) then
    (tab st.length (run ls st.length 0 (stF st, 0, [a])).1, (run ls st.length 0 (stF st, 0, [a])).2.1, (run ls st.length 0 (stF st, 0, [a])).2.2)
  else ([], -1, [])
theorem implCascade_ev (st : List Int) (ls : List S46) (a : Int) : Ev (fun k => impl_Cascade.f k st ls a) (casM st ls a) := by
  refine Ev.congr (fun _ => impl_Cascade.f.eq_1 ..) (Ev.bind (validStakes_ev st) (Ev.ite (fun h => Ev.bind (validLoans_ev ls _) (Ev.ite (fun h2 => Ev.ite (fun h3 => ?_) fun h3 => Ev.step (fun _ => impl_Cascade.j0.eq_2 ..) (Ev.ite (fun h4 => ?_) fun h4 => ?_)) fun h2 => ?_)) fun h => ?_))
  · unfold casM
    rw [decide_eq_false (by omega), Bool.and_false]
    exact Ev.step (fun _ => impl_Cascade.j0.eq_2 ..) (Ev.pos rfl (Ev.now _))
  · simp at h4
    unfold casM
    rw [decide_eq_false (by omega), Bool.and_false]
    exact Ev.now _
  · simp at h4
    have hs : vS st = true := h
    have hs2 := vS_iff.1 hs
    have hw := vLs_iff.1 h2
    unfold casM
    rw [hs, h2, decide_eq_true (by omega)]
    refine Ev.bind0 (clone_eq st (by omega)) ?_
    have := implCascade_l0 st.length (by omega) ls hw.1.1 hw.2 a (stF st) st.length 0 (stF st, 0, [a]) (by omega) (by simp) (start_inv ls (by omega) (stF_bd hs))
    simp only at this
    rw [show tab st.length (stF st) = st from (tab_of st).symm] at this
    exact this
  · unfold casM
    rw [Bool.eq_false_iff.2 h2, Bool.and_false, Bool.false_and]
    exact Ev.step (fun _ => impl_Cascade.j0.eq_2 ..) (Ev.pos rfl (Ev.now _))
  · have hs : vS st = false := Bool.eq_false_iff.2 h
    unfold casM
    rw [hs, Bool.false_and, Bool.false_and]
    exact Ev.step (fun _ => impl_Cascade.j0.eq_2 ..) (Ev.pos rfl (Ev.now _))
theorem fail_loop (n : Nat) (hn : n ≤ 12) (gs : List Int) (s st : Nat → Int) (b a : Int) (hgl : gs.length ≤ 12) (hst : Bd st) (hs : ∀ i, 0 ≤ s i ∧ s i ≤ 100001) (hg : ∀ g ∈ gs, 0 ≤ g ∧ g ≤ (n : Int) - 1) : ∀ (d i : Nat), i + d = gs.length →
    Ev (fun k => spec_fail.l0 k (tab n (failN gs s (st, 0, []) i).1) (failN gs s (st, 0, []) i).2.2 (tab gs.length s) (failN gs s (st, 0, []) i).2.1 (i : Int) b a gs)
      (tab n (failN gs s (st, 0, []) gs.length).1, (failN gs s (st, 0, []) gs.length).2.1, (failN gs s (st, 0, []) gs.length).2.2)
  | 0, i, hi => Ev.step (fun _ => spec_fail.l0.eq_2 ..) (Ev.neg (by rw [tab_length]; omega) (Ev.now' (by rw [show i = gs.length by omega])))
  | d + 1, i, hi => by
    have ih := fail_loop n hn gs s st b a hgl hst hs hg d (i + 1) (by omega)
    have inv := failN_inv (n := n) hst hs hg i (by omega)
    have hsi := hs i
    have hgi : gs.getD i 0 ∈ gs := by rw [← rd_nat]; exact rd_mem (by omega) (by omega)
    have hgb := hg _ hgi
    obtain ⟨g, hge⟩ : ∃ g : Nat, gs.getD i 0 = g := ⟨(gs.getD i 0).toNat, by omega⟩
    have hm := mn_le ((failN gs s (st, 0, []) i).1 g) (s i)
    refine Ev.step (fun _ => spec_fail.l0.eq_2 ..) (Ev.pos (by rw [tab_length]; omega) (Ev.pos (by omega) (Ev.pos (by omega) ?_)))
    rw [rd_nat, hge, tab_rd (show i < gs.length by omega), tab_rd (show g < n by omega), wrap_nat (by omega)]
    have hb := inv.bd g
    have h3 : 0 ≤ mn ((failN gs s (st, 0, []) i).1 g) (s i) := by unfold mn; split <;> omega
    refine Ev.pos (by omega) (Ev.pos (by rw [tab_length]; omega) (Ev.bind0 rfl ?_))
    simp only [failN, fstep, hge, Int.toNat_natCast] at ih
    have hls := inv.ls
    have hset : (tab n (failN gs s (st, 0, []) i).1).set ((g : Int)).toNat (wrap64 ((failN gs s (st, 0, []) i).1 g - mn ((failN gs s (st, 0, []) i).1 g) (s i))) = tab n (tk (failN gs s (st, 0, []) i).1 g (s i)) := by
      rw [Int.toNat_natCast, tab_set, wrap_id (by omega) (by omega)]
      refine tab_ext fun j hj => ?_
      unfold tk
      by_cases e : j = g
      · rw [if_pos e, if_pos e, e]
      · rw [if_neg e, if_neg e]
    rw [hset]
    have hw : wrap64 (wrap64 ((failN gs s (st, 0, []) i).2.1 + s i) - mn ((failN gs s (st, 0, []) i).1 g) (s i)) = (failN gs s (st, 0, []) i).2.1 + (s i - mn ((failN gs s (st, 0, []) i).1 g) (s i)) := by
      rw [wrap_id (x := (failN gs s (st, 0, []) i).2.1 + s i) (by omega) (by omega), wrap_id (by omega) (by omega)]
      omega
    rw [hw]
    refine Ev.ite (fun h => Ev.pos (by have := inv.ln; omega) ?_) (fun h => ?_)
    · rw [if_pos h] at ih; exact ih
    · rw [if_neg h] at ih; exact ih
theorem fail_ev (n : Nat) (hn : n ≤ 12) (st : Nat → Int) (l : S46) (hst : Bd st) (hv : vL l n = true) :
    Ev (fun k => spec_fail.f k (tab n st) l.f0 l.f1 l.f2) (tab n (failM st l).1, (failM st l).2.1, (failM st l).2.2) := by
  have hw := vL_iff.1 hv
  obtain ⟨b, hb⟩ : ∃ b : Nat, l.f0 = b := ⟨l.f0.toNat, by omega⟩
  have hl := lack_bd hst hv
  have hbt : l.f0.toNat = b := by omega
  have e : lack st l = l.f1 - mn (st b) l.f1 := by unfold lack; rw [hbt]
  have hsb := hst b
  have hm := mn_le (st b) l.f1
  have h3 : 0 ≤ mn (st b) l.f1 := by unfold mn; split <;> omega
  refine Ev.congr (fun _ => spec_fail.f.eq_1 ..) (Ev.bind0 (copyInts_eq _ (by rw [tab_length]; omega)) ?_)
  rw [hb]
  refine Ev.pos (by omega) (Ev.pos (by rw [tab_length]; omega) ?_)
  rw [tab_rd (show b < n by omega), wrap_id (x := l.f1 - mn (st b) l.f1) (by omega) (by omega), ← e]
  refine Ev.bind (split_ev (lack st l) l.f2.length hl.1 (by omega) (by omega)) ?_
  have hset : (tab n st).set ((b : Int)).toNat (wrap64 (st b - mn (st b) l.f1)) = tab n (tk st b l.f1) := by
    rw [Int.toNat_natCast, tab_set, wrap_id (by omega) (by omega)]
    refine tab_ext fun j hj => ?_
    unfold tk
    by_cases e : j = b
    · rw [if_pos e, if_pos e, e]
    · rw [if_neg e, if_neg e]
  rw [hset]
  have := fail_loop n hn l.f2 (spl (lack st l) l.f2.length) (tk st b l.f1) b l.f1 (by omega) (tk_bd hst _ (by omega)) (spl_bd2 hl.1 hl.2 (by omega)) hw.2.1.2.1 l.f2.length 0 (by omega)
  unfold failM
  rw [hbt]
  exact this
theorem cascade_l2 (n : Nat) (ls : List S46) (st : Nat → Int) (loss : Int) (F : List Int) (dn : List Bool) (next i : Int) (r : List Int × Int × List Int) (un : List Int) (hF : F.length ≤ 100) (hul : un.length ≤ 12)
    (nx : Ev (fun k => spec_cascade.l1 k (tab n st) ls (addNew F un) loss dn next (i + 1)) r) (hi : 0 ≤ i ∧ i ≤ 1000) : ∀ (post pre : List Int), pre ++ post = un → (addNew F pre).length ≤ 100 + pre.length →
    Ev (fun k => spec_cascade.l2 k (tab n st) ls (addNew F pre) loss dn next i un (pre.length : Int)) r
  | [], pre, e, _ => by
    have e2 : pre = un := by simpa using e
    refine Ev.step (fun _ => spec_cascade.l2.eq_2 ..) (Ev.neg (by rw [e2]; omega) ?_)
    rw [wrap_id (x := i + 1) (by omega) (by omega), e2]
    exact nx
  | g :: post, pre, e, hp => by
    have ih := cascade_l2 n ls st loss F dn next i r un hF hul nx hi post (pre ++ [g]) (by simpa using e) (by rw [addNew_snoc]; split <;> simp <;> omega)
    rw [show (pre ++ [g]).length = pre.length + 1 from by simp, addNew_snoc] at ih
    have hpl : pre.length < un.length := by rw [← e]; simp
    refine Ev.step (fun _ => spec_cascade.l2.eq_2 ..) (Ev.pos (by omega) (Ev.pos (by omega) ?_))
    rw [show rd un (pre.length : Int) = g from by rw [← e]; exact rd_mid .., wrap_nat (by omega)]
    refine Ev.bind (placeIn_ev _ _ (by omega)) (Ev.ite (fun h => Ev.pos (by omega) ?_) (fun h => ?_))
    · rw [if_neg (idxI_neg.1 h)] at ih; exact ih
    · rw [if_pos (Classical.byContradiction fun hc => h (idxI_neg.2 hc))] at ih; exact ih
/-- Which loans have failed: those of the members before, and those of the present one that lie before. -/
def dnF (ls : List S46) (G : List Int) (f : Int) (i j : Nat) : Bool := decide ((ls.getD j z46).f0 ∈ G ∨ j < i ∧ (ls.getD j z46).f0 = f)
theorem cascade_l1 (n : Nat) (hn : n ≤ 12) (ls : List S46) (hll : ls.length ≤ 16) (hv : ∀ l ∈ ls, vL l n = true) (first : Int) (st0 : Nat → Int) (next : Nat) (f : Int) (G : List Int) (hfG : f ∉ G) (r : List Int × Int × List Int) : ∀ (post pre : List S46) (A : Int) (S : CS), pre ++ post = ls → CInv n first st0 A S → A + 100000 * post.length ≤ 40000000 → next < S.2.2.length → S.2.2.getD next 0 = f →
    Ev (fun k => spec_cascade.l0 k (tab n (proc f S post).1) ls (proc f S post).2.2 (proc f S post).2.1 (tab ls.length (dnF ls G f ls.length)) ((next + 1 : Nat) : Int)) r →
    Ev (fun k => spec_cascade.l1 k (tab n S.1) ls S.2.2 S.2.1 (tab ls.length (dnF ls G f pre.length)) (next : Int) (pre.length : Int)) r
  | [], pre, A, S, e, h, _, hnx, hf, nx => by
    have := h.len
    have e2 : pre = ls := by simpa using e
    refine Ev.step (fun _ => spec_cascade.l1.eq_2 ..) (Ev.neg (by rw [e2]; omega) ?_)
    rw [wrap_nat (by omega), e2]
    exact nx
  | l :: post, pre, A, S, e, h, hA, hnx, hf, nx => by
    have hpl : pre.length < ls.length := by rw [← e]; simp
    have hvl := hv l (by rw [← e]; simp)
    have hw := vL_iff.1 hvl
    have hlen := h.len
    obtain ⟨h2, t, ht⟩ := cstep_pre f S l hn h hvl
    simp only [List.length_cons] at hA
    have ih := cascade_l1 n hn ls hll hv first st0 next f G hfG r post (pre ++ [l]) _ (cstep f S l) (by simpa using e) h2 (by split <;> omega) (by rw [ht]; simp; omega) (by rw [ht, getD_append hnx]; exact hf) nx
    rw [show (pre ++ [l]).length = pre.length + 1 from by simp] at ih
    have hld : ls.getD pre.length z46 = l := by rw [← e]; simp [List.getD_eq_getElem?_getD]
    have hrl : rd_T46 ls (pre.length : Int) = l := by rw [← e]; exact rdT_mid ..
    have hskip : l.f0 ≠ f → tab ls.length (dnF ls G f (pre.length + 1)) = tab ls.length (dnF ls G f pre.length) := fun hne => by
      refine tab_ext fun j hj => ?_
      unfold dnF
      rw [decide_eq_decide]
      constructor
      · rintro (h1 | ⟨h1, h2⟩)
        · exact .inl h1
        · refine .inr ⟨?_, h2⟩
          rcases Nat.lt_or_ge j pre.length with h3 | h3
          · exact h3
          · rw [show j = pre.length by omega, hld] at h2
            exact absurd h2 hne
      · rintro (h1 | ⟨h1, h2⟩)
        · exact .inl h1
        · exact .inr ⟨by omega, h2⟩
    refine Ev.step (fun _ => spec_cascade.l1.eq_2 ..) (Ev.pos (by omega) (Ev.pos (by omega) (Ev.pos (by rw [tab_length]; omega) ?_)))
    rw [show rdOf false (tab ls.length (dnF ls G f pre.length)) (pre.length : Int) = dnF ls G f pre.length pre.length from by unfold rdOf; rw [Int.toNat_natCast, tab_get _ hpl]]
    have no : l.f0 ≠ f → Ev (fun k => spec_cascade.j2 k (tab n S.1) ls S.2.2 S.2.1 (tab ls.length (dnF ls G f pre.length)) (next : Int) (pre.length : Int) true) r := fun hne => by
      refine Ev.step (fun _ => spec_cascade.j2.eq_2 ..) (Ev.pos rfl ?_)
      rw [wrap_nat (by omega)]
      rw [hskip hne] at ih
      unfold cstep at ih
      rw [if_neg hne] at ih
      exact ih
    refine Ev.ite (fun hd => ?_) (fun hd => Ev.pos (by omega) (Ev.pos (by omega) ?_))
    · unfold dnF at hd
      rw [decide_eq_true_iff, hld] at hd
      refine no fun he => ?_
      rcases hd with hd | hd
      · exact hfG (he ▸ hd)
      · exact absurd hd.1 (Nat.lt_irrefl _)
    · rw [hrl, rd_nat, hf]
      by_cases hb : l.f0 = f
      · rw [show (l.f0 != f) = false from by rw [hb]; exact bne_self_eq_false f]
        have m := failM_inv hn h.bd hvl
        have hmsm := m.sm
        have hle := sumN_le m.le n
        have hls := m.ls
        have hsl := h.ls
        refine Ev.step (fun _ => spec_cascade.j2.eq_2 ..) (Ev.neg (by simp) (Ev.pos (by omega) (Ev.pos (by rw [tab_length]; omega) (Ev.pos (by omega) ?_))))
        rw [hrl]
        refine Ev.bind (fail_ev n hn S.1 l h.bd hvl) ?_
        simp only
        rw [wrap_id (x := S.2.1 + (failM S.1 l).2.1) (by omega) (by omega), Int.toNat_natCast, tab_set]
        unfold cstep at ih
        rw [if_pos hb] at ih
        have hdn : tab ls.length (fun j => if j = pre.length then true else dnF ls G f pre.length j) = tab ls.length (dnF ls G f (pre.length + 1)) := by
          refine tab_ext fun j hj => ?_
          by_cases ej : j = pre.length
          · subst ej
            rw [if_pos rfl]
            unfold dnF
            rw [eq_comm, decide_eq_true_iff, hld]
            exact .inr ⟨by omega, hb⟩
          · rw [if_neg ej]
            unfold dnF
            rw [decide_eq_decide]
            constructor
            · rintro (h1 | ⟨h1, h2⟩)
              · exact .inl h1
              · exact .inr ⟨by omega, h2⟩
            · rintro (h1 | ⟨h1, h2⟩)
              · exact .inl h1
              · exact .inr ⟨by omega, h2⟩
        rw [hdn]
        exact cascade_l2 n ls _ _ S.2.2 _ next _ r (failM S.1 l).2.2 (by omega) m.ln ih (by omega) (failM S.1 l).2.2 [] rfl (by simp [addNew]; omega)
      · rw [show (l.f0 != f) = true from by simpa using hb]
        exact no hb
theorem cascade_l0 (n : Nat) (hn : n ≤ 12) (ls : List S46) (hll : ls.length ≤ 16) (hv : ∀ l ∈ ls, vL l n = true) (first : Int) (st0 : Nat → Int) : ∀ (d i : Nat) (S : CS), i + d = n → i ≤ S.2.2.length → CInv n first st0 (amtS (S.2.2.take i) ls) S →
    Ev (fun k => spec_cascade.l0 k (tab n S.1) ls S.2.2 S.2.1 (tab ls.length (fun j => decide ((ls.getD j z46).f0 ∈ S.2.2.take i))) (i : Int)) (tab n (run ls d i S).1, (run ls d i S).2.1, (run ls d i S).2.2)
  | 0, i, S, hi, hle, h => by
    have := h.len
    exact Ev.step (fun _ => spec_cascade.l0.eq_2 ..) (Ev.neg (by omega) (Ev.now _))
  | d + 1, i, S, hi, hle, h => by
    have hlen := h.len
    unfold run
    by_cases hlt : i < S.2.2.length
    · rw [if_pos hlt]
      obtain ⟨h2, t, e⟩ := proc_inv (S.2.2.getD i 0) hn ls _ _ h hv
      have hg : S.2.2.getD i 0 = S.2.2[i] := by simp [List.getD_eq_getElem?_getD, hlt]
      have hnm : S.2.2.getD i 0 ∉ S.2.2.take i := by
        intro hm
        have hp := h.nd
        rw [← List.take_append_drop i S.2.2, List.nodup_append] at hp
        refine hp.2.2 _ hm (S.2.2.getD i 0) ?_ rfl
        rw [hg, List.drop_eq_getElem_cons hlt]
        exact List.mem_cons_self ..
      have hb := amtS_bd (F := S.2.2.take i) hv
      have htk : (proc (S.2.2.getD i 0) S ls).2.2.take (i + 1) = S.2.2.take i ++ [S.2.2.getD i 0] := by
        rw [e, List.take_append_of_le_length (by omega), List.take_succ_eq_append_getElem hlt, ← hg]
      have ih := cascade_l0 n hn ls hll hv first st0 d (i + 1) (proc (S.2.2.getD i 0) S ls) (by omega) (by rw [e]; simp; omega) (by
        rw [htk, amtS_snoc hnm]
        exact h2)
      have hd1 : tab ls.length (fun j => decide ((ls.getD j z46).f0 ∈ (proc (S.2.2.getD i 0) S ls).2.2.take (i + 1))) = tab ls.length (dnF ls (S.2.2.take i) (S.2.2.getD i 0) ls.length) := by
        refine tab_ext fun j hj => ?_
        rw [htk]
        unfold dnF
        rw [decide_eq_decide]
        simp [hj]
      have hd0 : tab ls.length (fun j => decide ((ls.getD j z46).f0 ∈ S.2.2.take i)) = tab ls.length (dnF ls (S.2.2.take i) (S.2.2.getD i 0) 0) := by
        refine tab_ext fun j hj => ?_
        unfold dnF
        rw [decide_eq_decide]
        simp
      rw [hd1] at ih
      rw [hd0]
      refine Ev.step (fun _ => spec_cascade.l0.eq_2 ..) (Ev.pos (by omega) ?_)
      exact cascade_l1 n hn ls hll hv first st0 i (S.2.2.getD i 0) (S.2.2.take i) hnm _ ls [] _ S rfl h (by omega) hlt rfl ih
    · rw [if_neg hlt]
      exact Ev.step (fun _ => spec_cascade.l0.eq_2 ..) (Ev.neg (by omega) (Ev.now _))
theorem cascadeF_ev (st : List Int) (ls : List S46) (a : Int) (hs : vS st = true) (hv : vLs ls st.length = true) (ha : 0 ≤ a ∧ a < st.length) : Ev (fun k => spec_cascade.f k st ls a) (casM st ls a) := by
  have hs2 := vS_iff.1 hs
  have hw := vLs_iff.1 hv
  unfold casM
  rw [hs, hv, decide_eq_true ha]
  refine Ev.congr (fun _ => spec_cascade.f.eq_1 ..) (Ev.pos (by omega) (Ev.pos (by omega) ?_))
  have := cascade_l0 st.length (by omega) ls hw.1.1 hw.2 a (stF st) st.length 0 (stF st, 0, [a]) (by omega) (by simp) (start_inv ls (by omega) (stF_bd hs))
  simp only at this
  rw [show tab st.length (stF st) = st from (tab_of st).symm] at this
  rw [Int.toNat_natCast, replicate_tab]
  refine Ev.is (Ev.congr (fun k => ?_) this) rfl
  congr 1
theorem specCascade_ev (st : List Int) (ls : List S46) (a : Int) (hl : ls.length < 4611686018427387904) (hg : ∀ l ∈ ls, l.f2.length < 4611686018427387904) : Ev (fun k => spec_Cascade.f k st ls a) (casM st ls a) := by
  refine Ev.congr (fun _ => spec_Cascade.f.eq_1 ..) (Ev.bind (specValidStakes_ev st) (Ev.ite (fun h => ?_) fun h => ?_))
  · have hs2 := vS_iff.1 h
    refine Ev.bind (specValidLoans_ev ls _ (by omega) hl hg) (Ev.ite (fun h2 => ?_) fun h2 => ?_)
    · rw [wrap_id (x := (st.length : Int) - 1) (by omega) (by omega)]
      refine Ev.bind0 (inRange_eq ..) (Ev.step (fun _ => spec_Cascade.j0.eq_2 ..) (Ev.ite (fun h3 => Ev.now' ?_) fun h3 => ?_))
      · simp at h3
        unfold casM
        rw [decide_eq_false (by omega), Bool.and_false]
        rfl
      · simp at h3
        refine Ev.bind0 (copyInts_eq _ (by omega)) (Ev.bind (cascadeF_ev st ls a h h2 (by omega)) (Ev.now _))
    · unfold casM
      rw [Bool.eq_false_iff.2 h2, Bool.and_false, Bool.false_and]
      exact Ev.step (fun _ => spec_Cascade.j0.eq_2 ..) (Ev.pos rfl (Ev.now _))
  · unfold casM
    rw [Bool.eq_false_iff.2 h, Bool.false_and, Bool.false_and]
    exact Ev.step (fun _ => spec_Cascade.j0.eq_2 ..) (Ev.pos rfl (Ev.now _))
theorem isIn_loop (v : Int) : ∀ (post pre : List Int), (pre ++ post).length < 4611686018427387904 →
    Ev (fun k => laws_isIn.l0 k (pre ++ post) v (pre.length : Int)) (decide (v ∈ post))
  | [], pre, _ => Ev.step (fun _ => laws_isIn.l0.eq_2 ..) (Ev.neg (by simp) (Ev.now' (by simp)))
  | x :: post, pre, hl => by
    refine Ev.step (fun _ => laws_isIn.l0.eq_2 ..) (Ev.pos (by simp; omega) (Ev.pos (by omega) ?_))
    simp only [rd_mid]
    rw [wrap_nat (by simp at hl; omega)]
    refine Ev.ite (fun h => Ev.now' (by simp [h])) (fun h => ?_)
    have ih := isIn_loop v post (pre ++ [x]) (by simpa using hl)
    rw [show (pre ++ [x]).length = pre.length + 1 from by simp, List.append_assoc] at ih
    exact Ev.is ih (by rw [decide_eq_decide]; simp [Ne.symm h])
theorem isIn_ev (xs : List Int) (v : Int) (hl : xs.length < 4611686018427387904) : Ev (fun k => laws_isIn.f k xs v) (decide (v ∈ xs)) :=
  Ev.congr (fun _ => laws_isIn.f.eq_1 ..) (isIn_loop v xs [] (by simpa using hl))
theorem total_loop (n : Nat) (f : Nat → Int) (hn : n ≤ 1000) (hf : ∀ j, 0 ≤ f j ∧ f j ≤ 1000000000) : ∀ (d i : Nat), i + d = n → (0 ≤ sumN f i ∧ sumN f i ≤ 1000000000 * i) →
    Ev (fun k => laws_total.l0 k (tab n f) (sumN f i) (i : Int)) (sumN f n)
  | 0, i, hi, _ => Ev.step (fun _ => laws_total.l0.eq_2 ..) (Ev.neg (by rw [tab_length]; omega) (Ev.now' (by rw [show i = n by omega])))
  | d + 1, i, hi, hb => by
    have h := hf i
    have ih := total_loop n f hn hf d (i + 1) (by omega) (by simp only [sumN]; omega)
    refine Ev.step (fun _ => laws_total.l0.eq_2 ..) (Ev.pos (by rw [tab_length]; omega) (Ev.pos (by omega) ?_))
    rw [tab_rd (by omega), wrap_nat (by omega), wrap_id (by omega) (by omega)]
    exact ih
theorem total_ev (n : Nat) (f : Nat → Int) (hn : n ≤ 1000) (hf : ∀ j, 0 ≤ f j ∧ f j ≤ 1000000000) : Ev (fun k => laws_total.f k (tab n f)) (sumN f n) :=
  Ev.congr (fun _ => laws_total.f.eq_1 ..) (total_loop n f hn hf n 0 (by omega) (by simp [sumN]))
theorem drawCascade_loop (s : List Int) (hs : ∀ x ∈ s, 0 ≤ x ∧ x ≤ 255) (hl : s.length ≤ 2000) (ls : List S46) : ∀ (d i : Nat) (p : Int) (st : List Int), i + d = st.length → st.length ≤ 13 → 0 ≤ p → p + d ≤ 2000000 →
    ∃ st' a, Ev (fun k => spec_DrawCascade.l0 k st ls (i : Int) s p) (st', ls, a)
  | 0, i, p, st, hi, hn, hp, hp2 => by
    obtain ⟨a, ha, _⟩ := one_ev s hs hl p hp (by omega) [0, 1, 2, (-1), 12] (by simp)
    exact ⟨st, a, Ev.step (fun _ => spec_DrawCascade.l0.eq_2 ..) (Ev.neg (by omega) (Ev.bind ha (Ev.now _)))⟩
  | d + 1, i, p, st, hi, hn, hp, hp2 => by
    obtain ⟨u, hu, _⟩ := one_ev s hs hl p hp (by omega) [30, 10, 60] (by simp)
    obtain ⟨st', a, ih⟩ := drawCascade_loop s hs hl ls d (i + 1) (p + 1) (st.set (i : Int).toNat (mn (rd st i) u)) (by rw [List.length_set]; omega) (by rw [List.length_set]; omega) (by omega) (by omega)
    refine ⟨st', a, Ev.step (fun _ => spec_DrawCascade.l0.eq_2 ..) (Ev.pos (by omega) (Ev.pos (by omega) (Ev.bind hu ?_)))⟩
    rw [wrap_nat (by omega)]
    exact ih
theorem drawCascade_ev (l : List Int) (hb : ∀ x ∈ l.take 2000, 0 ≤ x ∧ x ≤ 255) : ∃ st ls a, Ev (fun k => spec_DrawCascade.f k l) (st, ls, a) ∧ Few ls 10 9 := by
  have hl : (l.take 2000).length ≤ 2000 := by rw [List.length_take]; omega
  obtain ⟨st, ls, q, hd, hf, hsl, hq, hq2⟩ := stakesOf_ev (l.take 2000) hb hl 0 (by omega) (by omega)
  obtain ⟨v, hv, _, _⟩ := pick_ev _ hb hl q 2 hq (by omega)
  by_cases h : v = 0
  · obtain ⟨st', a, h2⟩ := drawCascade_loop _ hb hl ls st.length 0 (q + 1) st (by omega) hsl (by omega) (by omega)
    exact ⟨st', ls, a, Ev.congr (fun _ => spec_DrawCascade.f.eq_1 ..) (Ev.bind0 (newReader_eq l) (Ev.bind hd (Ev.bind hv (Ev.pos h h2)))), hf⟩
  · obtain ⟨a, ha, _⟩ := one_ev _ hb hl (q + 1) (by omega) (by omega) [0, 1, 2, (-1), 12] (by simp)
    exact ⟨st, ls, a, Ev.congr (fun _ => spec_DrawCascade.f.eq_1 ..) (Ev.bind0 (newReader_eq l) (Ev.bind hd (Ev.bind hv (Ev.neg h (Ev.bind ha (Ev.now _)))))), hf⟩
theorem amtS_append (F : List Int) : ∀ (a b : List S46), amtS F (a ++ b) = amtS F a + amtS F b
  | [], b => by simp [amtS]
  | l :: a, b => by
    have ih := amtS_append F a b
    simp only [amtS, List.cons_append, List.foldr_cons] at ih ⊢
    omega
theorem law_l1 (n : Nat) (hn : n ≤ 12) (first : Int) (st0 : Nat → Int) (A : Int) (S : CS) (h : CInv n first st0 A S) (h0 : Bd st0) (st : List Int) (hst : st = tab n st0) (hA : 0 ≤ A ∧ A ≤ 1000000000) : ∀ (d i : Nat), i + d = S.2.2.length →
    Ev (fun k => laws_FnCascade.l1 k st first (tab n S.1) S.2.1 S.2.2 A (i : Int)) true
  | 0, i, hi => by
    have hb := h.bd
    have ht1 := total_ev n st0 (by omega) (fun j => by have := h0 j; omega)
    have ht2 := total_ev n S.1 (by omega) (fun j => by have := hb j; omega)
    have hle := sumN_le h.le n
    have hls := h.ls
    have hsm := h.sm
    refine Ev.step (fun _ => laws_FnCascade.l1.eq_2 ..) (Ev.neg (by omega) ?_)
    rw [hst]
    refine Ev.bind ht1 (Ev.bind ht2 (Ev.pos ?_ (Ev.pos (by have := h.hd.1; omega) (Ev.now' ?_))))
    · rw [wrap_id (x := sumN st0 n - sumN S.1 n) (by omega) (by omega), wrap_id (by omega) (by omega)]
      exact hsm
    · rw [show rd S.2.2 0 = S.2.2.getD 0 0 from rfl, h.hd.2]
      exact beq_self_eq_true first
  | d + 1, i, hi => by
    have ih := law_l1 n hn first st0 A S h h0 st hst hA d (i + 1) (by omega)
    have hlen := h.len
    have hlt : i < S.2.2.length := by omega
    have hg : S.2.2.getD i 0 = S.2.2[i] := by simp [List.getD_eq_getElem?_getD, hlt]
    have hnm : S.2.2.getD i 0 ∉ S.2.2.take i := by
      intro hm
      have hp := h.nd
      rw [← List.take_append_drop i S.2.2, List.nodup_append] at hp
      refine hp.2.2 _ hm (S.2.2.getD i 0) ?_ rfl
      rw [hg, List.drop_eq_getElem_cons hlt]
      exact List.mem_cons_self ..
    have hrg := h.rg (S.2.2.getD i 0) (by rw [hg]; exact List.getElem_mem _)
    obtain ⟨g, hge⟩ : ∃ g : Nat, S.2.2.getD i 0 = g := ⟨(S.2.2.getD i 0).toNat, by omega⟩
    refine Ev.step (fun _ => laws_FnCascade.l1.eq_2 ..) (Ev.pos (by omega) (Ev.pos (by omega) (Ev.pos (by omega) (Ev.bind (isIn_ev _ _ (by rw [List.length_take]; omega)) (Ev.neg ?_ ?_)))))
    · rw [Int.toNat_natCast, rd_nat]
      simpa using hnm
    · rw [wrap_nat (by omega), rd_nat, hge]
      refine Ev.ite (fun h1 => Ev.pos (by omega) (Ev.pos (by rw [tab_length]; omega) (Ev.pos ?_ ih))) (fun _ => ih)
      have := h.zr i (by omega) hlt
      rw [hge, Int.toNat_natCast] at this
      rw [tab_rd (by omega)]
      exact this
theorem law_l0 (n : Nat) (hn : n ≤ 12) (first : Int) (st0 : Nat → Int) (S : CS) (ls : List S46) (hll : ls.length ≤ 16) (hv : ∀ l ∈ ls, vL l n = true) (h : CInv n first st0 (amtS S.2.2 ls) S) (h0 : Bd st0) (st : List Int) (hst : st = tab n st0) : ∀ (post pre : List S46), pre ++ post = ls →
    Ev (fun k => laws_FnCascade.l0 k st ls first (tab n S.1) S.2.1 S.2.2 (amtS S.2.2 pre) (pre.length : Int)) true
  | [], pre, e => by
    have e2 : pre = ls := by simpa using e
    have hb := amtS_bd (F := S.2.2) hv
    refine Ev.step (fun _ => laws_FnCascade.l0.eq_2 ..) (Ev.neg (by rw [e2]; omega) ?_)
    rw [e2]
    exact law_l1 n hn first st0 _ S h h0 st hst (by omega) S.2.2.length 0 (by omega)
  | l :: post, pre, e => by
    have ih := law_l0 n hn first st0 S ls hll hv h h0 st hst post (pre ++ [l]) (by simpa using e)
    have hlen := h.len
    have hpl : pre.length < ls.length := by rw [← e]; simp
    have hw := vL_iff.1 (hv l (by rw [← e]; simp))
    have hb := amtS_bd (F := S.2.2) (ls := pre) (fun l' h' => hv l' (by rw [← e]; simp [h']))
    rw [show (pre ++ [l]).length = pre.length + 1 from by simp, amtS_append] at ih
    have e1 : amtS S.2.2 [l] = if l.f0 ∈ S.2.2 then l.f1 else 0 := by simp [amtS]
    rw [e1] at ih
    refine Ev.step (fun _ => laws_FnCascade.l0.eq_2 ..) (Ev.pos (by omega) (Ev.pos (by omega) ?_))
    rw [show rd_T46 ls (pre.length : Int) = l from by rw [← e]; exact rdT_mid .., wrap_nat (by omega)]
    refine Ev.bind (isIn_ev _ _ (by omega)) (Ev.ite (fun hi => ?_) (fun hi => ?_))
    · rw [if_pos (by simpa using hi)] at ih
      rw [wrap_id (by omega) (by omega)]
      exact ih
    · rw [if_neg (by simpa using hi), Int.add_zero] at ih
      exact ih
theorem casM_len (st : List Int) (ls : List S46) (a : Int) : (casM st ls a).1.length ≤ 12 ∧ (casM st ls a).2.2.length ≤ 12 := by
  unfold casM
  split
  · rename_i h
    rw [Bool.and_eq_true, Bool.and_eq_true, decide_eq_true_iff] at h
    have hs2 := vS_iff.1 h.1.1
    have hw := vLs_iff.1 h.1.2
    have inv := run_inv (n := st.length) (by omega) ls hw.2 st.length 0 (stF st, 0, [a]) (by omega) (by simp) (start_inv ls h.2 (stF_bd h.1.1))
    have := inv.len
    simp only [tab_length]
    omega
  · simp
theorem FnCascade : laws_FnCascade.Pure := by
  intro l _ _ hw
  apply Ev.rounds
  refine Ev.congr (fun _ => laws_FnCascade.f.eq_1 ..) (Ev.ite (fun _ => Ev.now _) (fun _ => ?_))
  have hb : ∀ x ∈ l.take 2000, 0 ≤ x ∧ x ≤ 255 := fun x hx => by have := hw x (List.mem_of_mem_take hx); simpa [Lit.wf, IntKind.min, IntKind.max, IntKind.bits, IntKind.signed] using this
  obtain ⟨st, ls, a, hd, hf⟩ := drawCascade_ev l hb
  have hC := specCascade_ev st ls a (by have := hf.len; omega) (fun l hl => by have := hf.gs l hl; omega)
  have hlen := casM_len st ls a
  refine Ev.bind hd (Ev.bind (implCascade_ev st ls a) (Ev.bind hC (Ev.bind (equalInts_ev _ _ (by omega)) (Ev.pos (by simp) (Ev.pos rfl (Ev.bind (equalInts_ev _ _ (by omega)) (Ev.pos (by simp) (Ev.step (fun _ => laws_FnCascade.j0.eq_2 ..) (Ev.ite (fun h => Ev.bind (equalInts_ev _ _ (by omega)) (Ev.pos (by simp) (Ev.pos rfl (Ev.bind (equalInts_ev _ _ (by omega)) (Ev.now' (by simp)))))) (fun h => ?_))))))))))
  by_cases hk : (vS st && vLs ls st.length && decide (0 ≤ a ∧ a < st.length)) = true
  · have e : casM st ls a = (tab st.length (run ls st.length 0 (stF st, 0, [a])).1, (run ls st.length 0 (stF st, 0, [a])).2.1, (run ls st.length 0 (stF st, 0, [a])).2.2) := by unfold casM; rw [if_pos hk]
    rw [Bool.and_eq_true, Bool.and_eq_true, decide_eq_true_iff] at hk
    have hs2 := vS_iff.1 hk.1.1
    have hw2 := vLs_iff.1 hk.1.2
    have inv := run_inv (n := st.length) (by omega) ls hw2.2 st.length 0 (stF st, 0, [a]) (by omega) (by simp) (start_inv ls hk.2 (stF_bd hk.1.1))
    rw [e]
    exact law_l0 st.length (by omega) a (stF st) _ ls hw2.1.1 hw2.2 inv (stF_bd hk.1.1) st (tab_of st) ls [] rfl
  · have e : casM st ls a = ([], -1, []) := by unfold casM; rw [if_neg hk]
    rw [e] at h
    simp at h
end Go.Proofs.Ytakneceldonjdaa.Pure
