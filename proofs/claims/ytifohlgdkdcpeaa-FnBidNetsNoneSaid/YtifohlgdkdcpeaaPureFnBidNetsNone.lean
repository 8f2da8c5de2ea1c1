/- A table of bids without bids leaves every member with nothing, as the plain club does, in the order of numbers; for every code, without any condition. -/
import Derived.Test.YtifohlgdkdcpeaaMath
import Derived.Test.YtifohlgdkdcpeaaPFnBidNetsNonex7
namespace Go.Proofs.Ytifohlgdkdcpeaa.Pure
open Go.RowKit Go.Proofs.Ytifohlgdkdcpeaa.PFnBidNetsNone Go.Proofs.Ytifohlgdkdcpeaa.M Go.Proofs.YtifohlgdkdcpeaaW.PrintWords Go.Proofs.YtifohlgdkdcpeaaW.PrintLast Go.Proofs.YtifohlgdkdcpeaaW.PrintMore
theorem allWithin_loop (lo hi : Int) : ∀ (post pre : List Int), (pre ++ post).length < 4611686018427387904 →
    Ev (fun k => impl_allWithin.l0 k lo hi (pre ++ post) ((pre ++ post).length : Int) (pre.length : Int)) (allW post lo hi)
  | [], pre, _ => Ev.step (fun _ => impl_allWithin.l0.eq_2 ..) (Ev.neg (by simp) (Ev.now' (by simp [allW])))
  | x :: post, pre, hl => by
    have ih := allWithin_loop lo hi post (pre ++ [x]) (by simpa using hl)
    refine Ev.step (fun _ => impl_allWithin.l0.eq_2 ..) (Ev.pos (by simp; omega) (Ev.pos (by omega) (Ev.pos (by simp; omega) ?_)))
    simp only [rd_mid]
    rw [wrap_nat (by simp at hl; omega)]
    rw [show (pre ++ [x]).length = pre.length + 1 from by simp, List.append_assoc] at ih
    refine Ev.ite (fun h => Ev.now' (by simp [allW]; omega)) (fun h => Ev.ite (fun h2 => Ev.now' (by simp [allW]; omega)) (fun h2 => Ev.is ih ?_))
    rw [allW_cons]
    simp; omega
theorem allWithin_ev (xs : List Int) (lo hi : Int) (hl : xs.length < 4611686018427387904) : Ev (fun k => impl_allWithin.f k xs lo hi) (allW xs lo hi) :=
  Ev.congr (fun _ => impl_allWithin.f.eq_1 ..) (allWithin_loop lo hi xs [] (by simpa using hl))
theorem inRange_eq (n lo hi : Int) : spec_inRange.f n lo hi = some (decide (lo ≤ n) && decide (n ≤ hi)) := by
  unfold spec_inRange.f
  by_cases h : lo ≤ n <;> simp [h]
theorem allIn_loop (lo hi : Int) : ∀ (post pre : List Int), (pre ++ post).length < 4611686018427387904 →
    Ev (fun k => spec_allIn.l0 k (pre ++ post) lo hi (pre.length : Int)) (allW post lo hi)
  | [], pre, _ => Ev.step (fun _ => spec_allIn.l0.eq_2 ..) (Ev.neg (by simp) (Ev.now' (by simp [allW])))
  | x :: post, pre, hl => by
    have ih := allIn_loop lo hi post (pre ++ [x]) (by simpa using hl)
    refine Ev.step (fun _ => spec_allIn.l0.eq_2 ..) (Ev.pos (by simp; omega) (Ev.pos (by omega) ?_))
    simp only [rd_mid]
    rw [wrap_nat (by simp at hl; omega)]
    rw [show (pre ++ [x]).length = pre.length + 1 from by simp, List.append_assoc] at ih
    refine Ev.bind0 (inRange_eq ..) (Ev.ite (fun h => Ev.is ih ?_) (fun h => Ev.now' ?_))
    · rw [allW_cons, h, Bool.true_and]
    · rw [allW_cons, Bool.eq_false_iff.2 h, Bool.false_and]
theorem allIn_ev (xs : List Int) (lo hi : Int) (hl : xs.length < 4611686018427387904) : Ev (fun k => spec_allIn.f k xs lo hi) (allW xs lo hi) :=
  Ev.congr (fun _ => spec_allIn.f.eq_1 ..) (allIn_loop lo hi xs [] (by simpa using hl))
theorem index_loop (v : Int) : ∀ (post pre : List Int), (pre ++ post).length < 4611686018427387904 → v ∉ pre →
    Ev (fun k => slices_Index_int_int.l0 k (pre ++ post) v ((pre ++ post).length : Int) (pre.length : Int)) (idxI (pre ++ post) v)
  | [], pre, _, hv => Ev.step (fun _ => slices_Index_int_int.l0.eq_2 ..) (Ev.neg (by simp) (Ev.now' (by simp [idxI, hv])))
  | x :: post, pre, hl, hv => by
    refine Ev.step (fun _ => slices_Index_int_int.l0.eq_2 ..) (Ev.pos (by simp; omega) (Ev.pos (by omega) (Ev.pos (by simp; omega) ?_)))
    simp only [rd_mid]
    rw [wrap_nat (by simp at hl; omega)]
    refine Ev.ite (fun h => Ev.now' ?_) (fun h => ?_)
    · subst h
      simp [idxI, List.idxOf_append, hv]
    · have ih := index_loop v post (pre ++ [x]) (by simpa using hl) (by simp [hv, h])
      rwa [show (pre ++ [x]).length = pre.length + 1 from by simp, List.append_assoc] at ih
theorem index_ev (xs : List Int) (v : Int) (hl : xs.length < 4611686018427387904) : Ev (fun k => slices_Index_int_int.f k xs v) (idxI xs v) :=
  Ev.congr (fun _ => slices_Index_int_int.f.eq_1 ..) (index_loop v xs [] (by simpa using hl) (by simp))
theorem contains_ev (xs : List Int) (v : Int) (hl : xs.length < 4611686018427387904) : Ev (fun k => slices_Contains_int_int.f k xs v) (decide (v ∈ xs)) := by
  refine Ev.congr (fun _ => slices_Contains_int_int.f.eq_1 ..) (Ev.bind (index_ev xs v hl) (Ev.now' ?_))
  have := idxI_neg (xs := xs) (v := v)
  by_cases h : v ∈ xs <;> simp [h] at this ⊢ <;> omega
theorem placeIn_loop (v : Int) : ∀ (post pre : List Int), (pre ++ post).length < 4611686018427387904 → v ∉ pre →
    Ev (fun k => spec_placeIn.l0 k (pre ++ post) v (pre.length : Int)) (idxI (pre ++ post) v)
  | [], pre, _, hv => Ev.step (fun _ => spec_placeIn.l0.eq_2 ..) (Ev.neg (by simp) (Ev.now' (by simp [idxI, hv])))
  | x :: post, pre, hl, hv => by
    refine Ev.step (fun _ => spec_placeIn.l0.eq_2 ..) (Ev.pos (by simp; omega) (Ev.pos (by omega) ?_))
    simp only [rd_mid]
    rw [wrap_nat (by simp at hl; omega)]
    refine Ev.ite (fun h => Ev.now' ?_) (fun h => ?_)
    · subst h
      simp [idxI, List.idxOf_append, hv]
    · have ih := placeIn_loop v post (pre ++ [x]) (by simpa using hl) (by simp [hv, Ne.symm h])
      rwa [show (pre ++ [x]).length = pre.length + 1 from by simp, List.append_assoc] at ih
theorem placeIn_ev (xs : List Int) (v : Int) (hl : xs.length < 4611686018427387904) : Ev (fun k => spec_placeIn.f k xs v) (idxI xs v) :=
  Ev.congr (fun _ => spec_placeIn.f.eq_1 ..) (placeIn_loop v xs [] (by simpa using hl) (by simp))
/-- Different numbers below a bound. -/
def diffB (xs : List Int) (n : Int) : Bool := decide ((xs.length : Int) ≤ n) && allW xs 0 (n - 1) && decide xs.Nodup
theorem differentBelow_loop (n : Nat) : ∀ (post pre : List Int) (seen : Nat → Bool), (pre ++ post).length < 4611686018427387904 →
    (∀ j, j < n → (seen j = true ↔ (j : Int) ∈ pre)) →
    Ev (fun k => impl_differentBelow.l0 k (n : Int) (tab n seen) (pre ++ post) ((pre ++ post).length : Int) (pre.length : Int)) (allW post 0 ((n : Int) - 1) && decide (post.Nodup ∧ ∀ x ∈ post, x ∉ pre))
  | [], pre, _, _, _ => Ev.step (fun _ => impl_differentBelow.l0.eq_2 ..) (Ev.neg (by simp) (Ev.now' (by simp [allW])))
  | x :: post, pre, seen, hl, hs => by
    refine Ev.step (fun _ => impl_differentBelow.l0.eq_2 ..) (Ev.pos (by simp; omega) (Ev.pos (by omega) (Ev.pos (by simp; omega) ?_)))
    simp only [rd_mid]
    rw [wrap_nat (by simp at hl; omega)]
    refine Ev.ite (fun h => Ev.now' (by simp [allW]; omega)) (fun h => Ev.ite (fun h2 => Ev.now' (by simp [allW]; omega)) (fun h2 => ?_))
    obtain ⟨m, rfl⟩ : ∃ m : Nat, x = m := ⟨x.toNat, by omega⟩
    have hm : m < n := by omega
    have hsm := hs m hm
    refine Ev.pos (by omega) (Ev.pos (by rw [tab_length]; omega) ?_)
    rw [show rdOf false (tab n seen) (m : Int) = seen m from by unfold rdOf; rw [Int.toNat_natCast, tab_get _ hm], Int.toNat_natCast, tab_set]
    refine Ev.ite (fun h3 => Ev.now' ?_) (fun h3 => ?_)
    · have := hsm.1 h3
      simp [this]
    · have hmp : (m : Int) ∉ pre := fun hh => h3 (hsm.2 hh)
      have ih := differentBelow_loop n post (pre ++ [(m : Int)]) (fun j => if j = m then true else seen j) (by simpa using hl) (by
        intro j hj
        by_cases e : j = m
        · subst e; simp
        · have := hs j hj
          simp only [if_neg e, this, List.mem_append, List.mem_cons, List.not_mem_nil, or_false]
          constructor
          · exact fun hh => .inl hh
          · rintro (hh | hh)
            · exact hh
            · exact absurd (by omega) e)
      rw [show (pre ++ [(m : Int)]).length = pre.length + 1 from by simp, List.append_assoc] at ih
      refine Ev.is ih ?_
      rw [allW_cons]
      have e1 : (decide ((0 : Int) ≤ m) && decide ((m : Int) ≤ (n : Int) - 1)) = true := by simp; omega
      rw [e1, Bool.true_and]
      congr 1
      simp only [List.nodup_cons, List.mem_append, List.mem_cons, List.not_mem_nil, or_false, decide_eq_decide]
      constructor
      · rintro ⟨h1, h4⟩
        refine ⟨⟨fun hh => (h4 _ hh) (.inr rfl), h1⟩, ?_⟩
        rintro y (rfl | hy)
        · exact hmp
        · exact fun hh => h4 y hy (.inl hh)
      · rintro ⟨⟨h1, h4⟩, h5⟩
        refine ⟨h4, fun y hy => ?_⟩
        rintro (hh | rfl)
        · exact h5 y (.inr hy) hh
        · exact h1 hy
theorem differentBelow_ev (xs : List Int) (n : Nat) (hn : n ≤ 281474976710656) : Ev (fun k => impl_differentBelow.f k xs (n : Int)) (diffB xs n) := by
  refine Ev.congr (fun _ => impl_differentBelow.f.eq_1 ..) (Ev.ite (fun h => Ev.now' ?_) (fun h => Ev.pos (by omega) (Ev.pos (by omega) ?_)))
  · simp [diffB]; omega
  · rw [Int.toNat_natCast, replicate_tab]
    have := differentBelow_loop n xs [] (fun _ => false) (by simp; omega) (by simp)
    refine Ev.is this ?_
    have e : decide ((xs.length : Int) ≤ n) = true := by simp; omega
    simp only [diffB, e, Bool.true_and]
    simp
theorem newReader_eq (s : List Int) : spec_newReader.f s = some (s.take 2000, 0) := by
  unfold spec_newReader.f
  split
  · rw [if_pos (by omega)]
  · rw [List.take_of_length_le (by omega)]
theorem pick_ev (s : List Int) (hs : ∀ x ∈ s, 0 ≤ x ∧ x ≤ 255) (hl : s.length ≤ 2000) (p n : Int) (hp : 0 ≤ p) (hp2 : p ≤ 1000000000) :
    ∃ v, Ev (fun k => spec_reader_pick.f k s p n) (v, p + 1) ∧ 0 ≤ v ∧ (1 ≤ n → v < n) := by
  have e1 : wrap64 (p + 1) = p + 1 := wrap_id (by omega) (by omega)
  have e2 : wrap64 (p + 1 - 1) = p := by rw [wrap_id (by omega) (by omega)]; omega
  by_cases hn : n < 1
  · refine ⟨0, Ev.congr (fun _ => spec_reader_pick.f.eq_1 ..) (Ev.pos hn (Ev.step (fun _ => spec_reader_pick.j0.eq_2 ..) (Ev.pos rfl ?_))), Int.le_refl _, fun h => by omega⟩
    rw [e1]; exact Ev.now _
  by_cases hz : s.length = 0
  · refine ⟨0, Ev.congr (fun _ => spec_reader_pick.f.eq_1 ..) (Ev.neg hn (Ev.step (fun _ => spec_reader_pick.j0.eq_2 ..) (Ev.pos (by simp [hz]) ?_))), Int.le_refl _, fun h => by omega⟩
    rw [e1]; exact Ev.now _
  have hrd : ∀ i : Int, 0 ≤ i → i < (s.length : Int) → 0 ≤ rd s i ∧ rd s i ≤ 255 := fun i h0 h1 => hs _ (rd_mem h0 h1)
  have key : ∀ x : Int, 0 ≤ x → 0 ≤ Int.tmod x n ∧ Int.tmod x n < n := by
    intro x hx
    rw [Int.tmod_eq_emod_of_nonneg hx]
    exact ⟨Int.emod_nonneg _ (by omega), Int.emod_lt_of_pos _ (by omega)⟩
  by_cases hlt : p < (s.length : Int)
  · obtain ⟨h0, h1⟩ := hrd p hp hlt
    refine ⟨Int.tmod (rd s p) n, Ev.congr (fun _ => spec_reader_pick.f.eq_1 ..) (Ev.neg hn (Ev.step (fun _ => spec_reader_pick.j0.eq_2 ..) (Ev.neg (by rw [beq_eq_false_iff_ne.2 (show (s.length : Int) ≠ 0 by omega)]; decide) ?_))), (key _ h0).1, fun _ => (key _ h0).2⟩
    rw [e1, e2]
    refine Ev.pos hlt (Ev.pos hp (Ev.neg (by omega) ?_))
    rw [wrap_id (x := rd s p) (by omega) (by omega)]
    exact Ev.now _
  · have hsl : (0 : Int) < s.length := by omega
    have hm1 : Int.tmod p s.length = p % s.length := Int.tmod_eq_emod_of_nonneg hp
    have hd1 : Int.tdiv p s.length = p / s.length := Int.tdiv_eq_ediv_of_nonneg hp
    have ha0 := Int.emod_nonneg p (show (s.length : Int) ≠ 0 by omega)
    have ha1 := Int.emod_lt_of_pos p hsl
    have hb0 := Int.emod_nonneg (p * 7 + 3) (show (s.length : Int) ≠ 0 by omega)
    have hb1 := Int.emod_lt_of_pos (p * 7 + 3) hsl
    have hq0 := Int.ediv_nonneg hp (show (0 : Int) ≤ s.length by omega)
    have hq1 := Int.ediv_le_self (b := (s.length : Int)) hp
    obtain ⟨hx0, hx1⟩ := hrd _ ha0 ha1
    obtain ⟨hy0, hy1⟩ := hrd _ hb0 hb1
    have ew1 : wrap64 (wrap64 (p * 7) + 3) = p * 7 + 3 := by rw [wrap_id (x := p * 7) (by omega) (by omega), wrap_id (by omega) (by omega)]
    have hm2 : Int.tmod (p * 7 + 3) s.length = (p * 7 + 3) % s.length := Int.tmod_eq_emod_of_nonneg (by omega)
    generalize hX : rd s (p % s.length) = X at hx0 hx1
    generalize hY : rd s ((p * 7 + 3) % s.length) = Y at hy0 hy1
    generalize hQ : p / s.length = q at hq0 hq1
    have big : wrap64 (wrap64 (wrap64 (wrap64 (wrap64 X * 131) + wrap64 (wrap64 Y * 1117)) + wrap64 (p * 29)) + wrap64 (wrap64 q * 53)) = X * 131 + Y * 1117 + p * 29 + q * 53 := by
      rw [wrap_id (x := X) (by omega) (by omega), wrap_id (x := Y) (by omega) (by omega), wrap_id (x := q) (by omega) (by omega), wrap_id (x := X * 131) (by omega) (by omega), wrap_id (x := Y * 1117) (by omega) (by omega), wrap_id (x := p * 29) (by omega) (by omega), wrap_id (x := q * 53) (by omega) (by omega), wrap_id (x := X * 131 + Y * 1117) (by omega) (by omega), wrap_id (x := X * 131 + Y * 1117 + p * 29) (by omega) (by omega), wrap_id (by omega) (by omega)]
    have hB : 0 ≤ X * 131 + Y * 1117 + p * 29 + q * 53 ∧ X * 131 + Y * 1117 + p * 29 + q * 53 < 1099511627776 := by omega
    generalize hV : X * 131 + Y * 1117 + p * 29 + q * 53 = V at big hB
    have hc : wrap64 (Int.tdiv V 64) = V / 64 := by rw [Int.tdiv_eq_ediv_of_nonneg hB.1, wrap_id (by omega) (by omega)]
    have hz0 := xor_nonneg (x := V) (y := V / 64) hB.1 hB.2 (by omega) (by omega)
    refine ⟨Int.tmod (Go.bits .xor .i64 V (V / 64)) n, Ev.congr (fun _ => spec_reader_pick.f.eq_1 ..) (Ev.neg hn (Ev.step (fun _ => spec_reader_pick.j0.eq_2 ..) (Ev.neg (by rw [beq_eq_false_iff_ne.2 (show (s.length : Int) ≠ 0 by omega)]; decide) ?_))), (key _ hz0).1, fun _ => (key _ hz0).2⟩
    rw [e1, e2, ew1, hm1, hm2, hX, hY, hd1, hQ, big, hc]
    exact Ev.neg hlt (Ev.neg (by omega) (Ev.pos ha0 (Ev.pos ha1 (Ev.pos hb0 (Ev.pos hb1 (Ev.neg (by omega) (Ev.now _)))))))
/-- One of the numbers of a list that isn't empty. -/
theorem one_ev (s : List Int) (hs : ∀ x ∈ s, 0 ≤ x ∧ x ≤ 255) (hl : s.length ≤ 2000) (p : Int) (hp : 0 ≤ p) (hp2 : p ≤ 1000000000) (xs : List Int) (hx : 0 < xs.length) :
    ∃ v, Ev (fun k => spec_reader_one.f k s p xs) (v, p + 1) ∧ v ∈ xs := by
  obtain ⟨v, h, h0, h1⟩ := pick_ev s hs hl p xs.length hp hp2
  have hv : v < (xs.length : Int) := h1 (by omega)
  exact ⟨rd xs v, Ev.congr (fun _ => spec_reader_one.f.eq_1 ..) (Ev.bind h (Ev.pos h0 (Ev.pos hv (Ev.now _)))), rd_mem h0 hv⟩
theorem splitEven_loop (x : Int) (p : Nat) (hx : 0 ≤ x) (hx2 : x ≤ 1000000) (hp : 0 < p) (hp2 : p ≤ 12) : ∀ (d i : Nat), i + d = p →
    Ev (fun k => impl_SplitEven.l0 k x (p : Int) (tab p (fun j => if j < i then spl x p j else 0)) (p : Int) (i : Int)) (tab p (spl x p))
  | 0, i, hi => Ev.step (fun _ => impl_SplitEven.l0.eq_2 ..) (Ev.neg (by omega) (Ev.now' (tab_ext fun j hj => if_pos (by omega))))
  | d + 1, i, hi => by
    have ih := splitEven_loop x p hx hx2 hp hp2 d (i + 1) (by omega)
    refine Ev.step (fun _ => impl_SplitEven.l0.eq_2 ..) (Ev.pos (by omega) (Ev.neg (by omega) (Ev.pos (by omega) (Ev.pos (by rw [tab_length]; omega) (Ev.bind0 rfl ?_)))))
    have hq0 := Int.ediv_nonneg hx (show (0 : Int) ≤ (p : Int) by omega)
    have hq1 := Int.ediv_le_self (b := (p : Int)) hx
    rw [Int.tdiv_eq_ediv_of_nonneg hx, Int.tmod_eq_emod_of_nonneg hx, Int.toNat_natCast, tab_set, tab_set, tab_rd (by omega), wrap_nat (by omega), if_pos rfl, wrap_id (x := x / p) (by omega) (by omega), wrap_id (x := x / p + 1) (by omega) (by omega)]
    refine Ev.ite (fun h => Ev.is ?_ rfl) (fun h => Ev.is ?_ rfl)
    · refine Ev.is (Ev.congr (fun k => ?_) ih) rfl
      congr 1
      refine tab_ext fun j hj => ?_
      by_cases e : j = i
      · subst e; simp [spl, h]
      · simp only [if_neg e]; by_cases e2 : j < i
        · rw [if_pos e2, if_pos (by omega)]
        · rw [if_neg e2, if_neg (by omega)]
    · refine Ev.is (Ev.congr (fun k => ?_) ih) rfl
      congr 1
      refine tab_ext fun j hj => ?_
      by_cases e : j = i
      · subst e; simp [spl, h]
      · simp only [if_neg e]; by_cases e2 : j < i
        · rw [if_pos e2, if_pos (by omega)]
        · rw [if_neg e2, if_neg (by omega)]
theorem splitEven_ev (x : Int) (p : Nat) (hx : 0 ≤ x) (hx2 : x ≤ 1000000) (hp : 0 < p) (hp2 : p ≤ 12) : Ev (fun k => impl_SplitEven.f k x (p : Int)) (tab p (spl x p)) := by
  refine Ev.congr (fun _ => impl_SplitEven.f.eq_1 ..) (Ev.neg (by omega) (Ev.neg (by omega) (Ev.neg (by omega) (Ev.step (fun _ => impl_SplitEven.j0.eq_2 ..) (Ev.neg (by simp; omega) (Ev.pos (by omega) (Ev.pos (by omega) (Ev.bind0 rfl ?_))))))))
  rw [Int.toNat_natCast, List.length_replicate, replicate_tab]
  exact splitEven_loop x p hx hx2 hp hp2 p 0 (by omega)
theorem splitEven_none (x p : Int) (h : x < 0 ∨ 1000000 < x ∨ p < 1 ∨ 12 < p) : Ev (fun k => impl_SplitEven.f k x p) [] := by
  refine Ev.congr (fun _ => impl_SplitEven.f.eq_1 ..) (Ev.ite (fun _ => ?_) fun _ => Ev.ite (fun _ => ?_) fun _ => Ev.ite (fun _ => ?_) fun _ => ?_)
  all_goals exact Ev.step (fun _ => impl_SplitEven.j0.eq_2 ..) (Ev.pos (by first | rfl | (simp; omega)) (Ev.now _))
theorem split_loop (x : Int) (p : Nat) (hx : 0 ≤ x) (hx2 : x ≤ 1000000) (hp2 : p ≤ 1000) : ∀ (d i : Nat), i + d = p →
    Ev (fun k => spec_split.l0 k x (p : Int) (tab i (spl x p)) (i : Int)) (tab p (spl x p))
  | 0, i, hi => Ev.step (fun _ => spec_split.l0.eq_2 ..) (Ev.neg (by omega) (Ev.now' (by rw [show i = p by omega])))
  | d + 1, i, hi => by
    have ih := split_loop x p hx hx2 hp2 d (i + 1) (by omega)
    refine Ev.step (fun _ => spec_split.l0.eq_2 ..) (Ev.pos (by omega) (Ev.neg (by omega) ?_))
    have hq0 := Int.ediv_nonneg hx (show (0 : Int) ≤ (p : Int) by omega)
    have hq1 := Int.ediv_le_self (b := (p : Int)) hx
    rw [Int.tdiv_eq_ediv_of_nonneg hx, Int.tmod_eq_emod_of_nonneg hx, wrap_nat (by omega), wrap_id (x := x / p) (by omega) (by omega), wrap_id (x := x / p + 1) (by omega) (by omega)]
    rw [tab_succ] at ih
    refine Ev.ite (fun h => Ev.pos (by rw [tab_length]; omega) ?_) (fun h => Ev.pos (by rw [tab_length]; omega) ?_)
    · rwa [show spl x p i = x / p + 1 from by simp [spl, h]] at ih
    · rwa [show spl x p i = x / p from by simp [spl, h]] at ih
theorem split_ev (x : Int) (p : Nat) (hx : 0 ≤ x) (hx2 : x ≤ 1000000) (hp2 : p ≤ 1000) : Ev (fun k => spec_split.f k x (p : Int)) (tab p (spl x p)) :=
  Ev.congr (fun _ => spec_split.f.eq_1 ..) (split_loop x p hx hx2 hp2 p 0 (by omega))
theorem equalInts_loop : ∀ (b post pre : List Int), (pre ++ post).length < 4611686018427387904 → b.length = (pre ++ post).length → b.take pre.length = pre →
    Ev (fun k => laws_equalInts.l0 k (pre ++ post) b (pre.length : Int)) (decide (pre ++ post = b))
  | b, [], pre, _, hb, ht => Ev.step (fun _ => laws_equalInts.l0.eq_2 ..) (Ev.neg (by simp) (Ev.now' (by
      simp at hb
      rw [List.take_of_length_le (by omega)] at ht
      simp [ht])))
  | b, x :: post, pre, hl, hb, ht => by
    simp only [List.length_append, List.length_cons] at hl hb
    refine Ev.step (fun _ => laws_equalInts.l0.eq_2 ..) (Ev.pos (by simp; omega) (Ev.pos (by omega) (Ev.pos (by omega) ?_)))
    rw [rd_mid, wrap_nat (by omega), rd_nat]
    have hg : b.getD pre.length 0 = b[pre.length]'(by omega) := by simp [List.getD_eq_getElem?_getD, show pre.length < b.length by omega]
    refine Ev.ite (fun h => ?_) (fun h => Ev.now' ?_)
    · have ih := equalInts_loop b post (pre ++ [x]) (by simp; omega) (by simp; omega) (by
        rw [show (pre ++ [x]).length = pre.length + 1 from by simp, List.take_succ_eq_append_getElem (by omega), ht, h, hg])
      rwa [show (pre ++ [x]).length = pre.length + 1 from by simp, List.append_assoc] at ih
    · symm
      rw [decide_eq_false_iff_not]
      rintro rfl
      apply h
      simp [List.getD_eq_getElem?_getD]
theorem equalInts_ev (a b : List Int) (h : a.length < 4611686018427387904) : Ev (fun k => laws_equalInts.f k a b) (decide (a = b)) := by
  refine Ev.congr (fun _ => laws_equalInts.f.eq_1 ..) (Ev.ite (fun e => ?_) (fun e => Ev.now' ?_))
  · exact equalInts_loop b a [] (by simpa using h) (by simp; omega) (by simp)
  · symm
    rw [decide_eq_false_iff_not]
    rintro rfl
    exact e rfl
theorem numbers_loop (n : Nat) (hn : n ≤ 1000) : ∀ (d i : Nat), i + d = n → Ev (fun k => laws_numbers.l0 k (n : Int) (tab i (fun j => (j : Int))) (i : Int)) (tab n (fun j => (j : Int)))
  | 0, i, hi => Ev.step (fun _ => laws_numbers.l0.eq_2 ..) (Ev.neg (by omega) (Ev.now' (by rw [show i = n by omega])))
  | d + 1, i, hi => by
    have ih := numbers_loop n hn d (i + 1) (by omega)
    refine Ev.step (fun _ => laws_numbers.l0.eq_2 ..) (Ev.pos (by omega) (Ev.pos (by rw [tab_length]; omega) ?_))
    rw [wrap_nat (by omega)]
    rwa [tab_succ] at ih
theorem numbers_ev (n : Nat) (hn : n ≤ 1000) : Ev (fun k => laws_numbers.f k (n : Int)) (tab n (fun j => (j : Int))) :=
  Ev.congr (fun _ => laws_numbers.f.eq_1 ..) (numbers_loop n hn n 0 (by omega))
/-- Are bids valid? -/
def vB (bids : List Int) (pay : Int) : Bool := decide (1 ≤ bids.length ∧ bids.length ≤ 12 ∧ 0 ≤ pay ∧ pay ≤ 10000) && allW bids (-1) (bids.length * pay)
theorem potOf_yes (n : Nat) (pay : Int) (h : 1 ≤ n ∧ n ≤ 12 ∧ 0 ≤ pay ∧ pay ≤ 10000) : impl_PotOf.f (n : Int) pay = some (n * pay) := by
  have := mul_bd (a := (n : Int)) (A := 12) (b := pay) (B := 10000) (by omega) (by omega) (by omega) (by omega)
  unfold impl_PotOf.f
  rw [if_neg (by omega), if_neg (by omega), if_neg (by omega), if_neg (by omega), wrap_id (by omega) (by omega)]
theorem potOf_no (n : Nat) (pay : Int) (h : ¬ (1 ≤ n ∧ n ≤ 12 ∧ 0 ≤ pay ∧ pay ≤ 10000)) : impl_PotOf.f (n : Int) pay = some (-1) := by
  unfold impl_PotOf.f
  (repeat' split) <;> first | rfl | omega
theorem pot_bd {n : Nat} {pay : Int} (h : 1 ≤ n ∧ n ≤ 12 ∧ 0 ≤ pay ∧ pay ≤ 10000) : 0 ≤ (n : Int) * pay ∧ (n : Int) * pay ≤ 120000 :=
  mul_bd (a := (n : Int)) (A := 12) (b := pay) (B := 10000) (by omega) (by omega) (by omega) (by omega)
theorem validBids_ev (bids : List Int) (pay : Int) : Ev (fun k => impl_validBids.f k bids pay) (vB bids pay) := by
  by_cases h : 1 ≤ bids.length ∧ bids.length ≤ 12 ∧ 0 ≤ pay ∧ pay ≤ 10000
  · have hb := pot_bd h
    refine Ev.congr (fun _ => impl_validBids.f.eq_1 ..) (Ev.bind0 (potOf_yes _ _ h) (Ev.pos hb.1 (Ev.bind (allWithin_ev _ _ _ (by omega)) (Ev.now' ?_))))
    simp only [vB, decide_eq_true h, Bool.true_and]
  · refine Ev.congr (fun _ => impl_validBids.f.eq_1 ..) (Ev.bind0 (potOf_no _ _ h) (Ev.neg (by omega) (Ev.now' ?_)))
    simp only [vB, decide_eq_false h, Bool.false_and]
theorem specValidBids_ev (bids : List Int) (pay : Int) : Ev (fun k => spec_validBids.f k bids pay) (vB bids pay) := by
  by_cases h : 1 ≤ bids.length ∧ bids.length ≤ 12 ∧ 0 ≤ pay ∧ pay ≤ 10000
  · have hb := pot_bd h
    refine Ev.congr (fun _ => spec_validBids.f.eq_1 ..) (Ev.bind0 (inRange_eq ..) (Ev.pos (by simp; omega) (Ev.bind0 (inRange_eq ..) (Ev.pos (by simp; omega) ?_))))
    rw [wrap_id (by omega) (by omega)]
    refine Ev.bind (allIn_ev _ _ _ (by omega)) (Ev.now' ?_)
    simp only [vB, decide_eq_true h, Bool.true_and]
  · have e : vB bids pay = false := by simp only [vB, decide_eq_false h, Bool.false_and]
    rw [e]
    refine Ev.congr (fun _ => spec_validBids.f.eq_1 ..) (Ev.bind0 (inRange_eq ..) (Ev.ite (fun h1 => Ev.bind0 (inRange_eq ..) (Ev.ite (fun h2 => ?_) fun _ => Ev.now _)) fun _ => Ev.now _))
    simp at h1 h2
    omega
theorem vB_iff {bids : List Int} {pay : Int} : vB bids pay = true ↔ (1 ≤ bids.length ∧ bids.length ≤ 12 ∧ 0 ≤ pay ∧ pay ≤ 10000) ∧ ∀ x ∈ bids, -1 ≤ x ∧ x ≤ bids.length * pay := by
  unfold vB
  rw [Bool.and_eq_true, allW_iff, decide_eq_true_iff]

/-- The winner of the members from i on, the best one so far being b. -/
def winF (bids done : List Int) : Nat → Int → Nat → Int
  | 0, b, _ => b
  | d + 1, b, i => winF bids done d (if (i : Int) ∈ done then b else if b < 0 then i else if rd bids i > rd bids b then i else b) (i + 1)
def win (bids done : List Int) : Int := winF bids done bids.length (-1) 0
theorem winF_spec (bids done : List Int) : ∀ (d : Nat) (b : Int) (i : Nat), ((b = -1 ∧ ∀ j, j < i → (j : Int) ∈ done) ∨ (0 ≤ b ∧ b < i ∧ b ∉ done)) →
    ((winF bids done d b i = -1 ∧ ∀ j, j < i + d → (j : Int) ∈ done) ∨ (0 ≤ winF bids done d b i ∧ winF bids done d b i < ((i + d : Nat) : Int) ∧ winF bids done d b i ∉ done))
  | 0, b, i, h => h
  | d + 1, b, i, h => by
    unfold winF
    rw [show i + (d + 1) = (i + 1) + d by omega]
    apply winF_spec bids done d _ (i + 1)
    by_cases hm : (i : Int) ∈ done
    · rw [if_pos hm]
      rcases h with ⟨h1, h2⟩ | h
      · refine .inl ⟨h1, fun j hj => ?_⟩
        by_cases e : j = i
        · rw [e]; exact hm
        · exact h2 j (by omega)
      · exact .inr ⟨h.1, by omega, h.2.2⟩
    · rw [if_neg hm]
      refine .inr ?_
      rcases h with ⟨h1, h2⟩ | h
      · rw [if_pos (by omega)]
        exact ⟨by omega, by omega, hm⟩
      · rw [if_neg (by omega)]
        split
        · exact ⟨by omega, by omega, hm⟩
        · exact ⟨h.1, by omega, h.2.2⟩
theorem win_spec {bids done : List Int} (h : done.length < bids.length) : 0 ≤ win bids done ∧ win bids done < bids.length ∧ win bids done ∉ done := by
  rcases winF_spec bids done bids.length (-1) 0 (.inl ⟨rfl, fun j hj => by omega⟩) with ⟨_, h2⟩ | h2
  · obtain ⟨j, hj, hd⟩ := missing h
    exact absurd (h2 j (by omega)) hd
  · simpa [win] using h2
theorem winnerOf_loop (bids done : List Int) (hl : bids.length ≤ 12) (hd : done.length ≤ 12) : ∀ (d : Nat) (b : Int) (i : Nat), i + d = bids.length → (b = -1 ∨ 0 ≤ b ∧ b < i) →
    Ev (fun k => impl_WinnerOf.l0 k bids done b bids (bids.length : Int) (i : Int)) (winF bids done d b i)
  | 0, b, i, hi, _ => Ev.step (fun _ => impl_WinnerOf.l0.eq_2 ..) (Ev.neg (by omega) (Ev.now _))
  | d + 1, b, i, hi, hb => by
    have ih := fun b' hb' => winnerOf_loop bids done hl hd d b' (i + 1) (by omega) hb'
    refine Ev.step (fun _ => impl_WinnerOf.l0.eq_2 ..) (Ev.pos (by omega) (Ev.pos (by omega) (Ev.pos (by omega) (Ev.bind (contains_ev done i (by omega)) ?_))))
    rw [wrap_nat (by omega)]
    unfold winF
    refine Ev.ite (fun h => ?_) (fun h => ?_)
    · rw [if_pos (by simpa using h)]
      exact ih b (by omega)
    · rw [if_neg (by simpa using h)]
      refine Ev.ite (fun h2 => ?_) (fun h2 => Ev.pos (by omega) (Ev.pos (by omega) (Ev.ite (fun h3 => ?_) (fun h3 => ?_))))
      · rw [if_pos h2]; exact ih i (by omega)
      · rw [if_neg h2, if_pos h3]; exact ih i (by omega)
      · rw [if_neg h2, if_neg h3]; exact ih b (by omega)
theorem winnerOf_ev {bids done : List Int} {pay : Int} (hv : vB bids pay = true) (hd : diffB done bids.length = true) (hdl : done.length ≤ 12) : Ev (fun k => impl_WinnerOf.f k bids pay done) (win bids done) := by
  have h := (vB_iff.1 hv).1
  refine Ev.congr (fun _ => impl_WinnerOf.f.eq_1 ..) (Ev.bind (validBids_ev ..) (Ev.pos hv (Ev.bind (differentBelow_ev _ _ (by omega)) ?_)))
  rw [hd]
  exact Ev.step (fun _ => impl_WinnerOf.j0.eq_2 ..) (Ev.neg (by simp) (winnerOf_loop bids done (by omega) hdl bids.length (-1) 0 (by omega) (.inl rfl)))
theorem specWinner_loop (bids done : List Int) (hl : bids.length ≤ 12) (hd : done.length ≤ 12) : ∀ (d : Nat) (b : Int) (i : Nat), i + d = bids.length → (b = -1 ∨ 0 ≤ b ∧ b < i) →
    Ev (fun k => spec_winner.l0 k bids done b (i : Int)) (winF bids done d b i)
  | 0, b, i, hi, _ => Ev.step (fun _ => spec_winner.l0.eq_2 ..) (Ev.neg (by omega) (Ev.now _))
  | d + 1, b, i, hi, hb => by
    have ih := fun b' hb' => specWinner_loop bids done hl hd d b' (i + 1) (by omega) hb'
    refine Ev.step (fun _ => spec_winner.l0.eq_2 ..) (Ev.pos (by omega) (Ev.bind (placeIn_ev done i (by omega)) ?_))
    rw [wrap_nat (by omega)]
    unfold winF
    refine Ev.ite (fun h => ?_) (fun h => ?_)
    · rw [if_neg (idxI_neg.1 h)]
      refine Ev.ite (fun h2 => ?_) (fun h2 => Ev.pos (by omega) (Ev.pos (by omega) (Ev.pos (by omega) (Ev.ite (fun h3 => ?_) (fun h3 => ?_)))))
      · rw [if_pos h2]; exact ih i (by omega)
      · rw [if_neg h2, if_pos h3]; exact ih i (by omega)
      · rw [if_neg h2, if_neg h3]; exact ih b (by omega)
    · rw [if_pos (Classical.byContradiction fun hc => h (idxI_neg.2 hc))]
      exact ih b (by omega)
theorem specWinner_ev (bids done : List Int) (hl : bids.length ≤ 12) (hd : done.length ≤ 12) : Ev (fun k => spec_winner.f k bids done) (win bids done) :=
  Ev.congr (fun _ => spec_winner.f.eq_1 ..) (specWinner_loop bids done hl hd bids.length (-1) 0 (by omega) (.inl rfl))

/-- The place of member j among those who do not win. -/
def posW (w j : Nat) : Nat := if j < w then j else j - 1
def gift (bids : List Int) (w : Nat) : Int := if bids.getD w 0 < 0 then 0 else bids.getD w 0
/-- What member j gets in a round. -/
def payF (n : Nat) (pay : Int) (bids done : List Int) (j : Nat) : Int :=
  let w := (win bids done).toNat
  if j = w then (if n = 1 then (n : Int) * pay else n * pay - gift bids w) else spl (gift bids w) ((n - 1 : Nat) : Int) (posW w j)
theorem gift_bd {bids : List Int} {pay : Int} (hv : vB bids pay = true) {w : Nat} (hw : w < bids.length) : 0 ≤ gift bids w ∧ gift bids w ≤ bids.length * pay := by
  have h := (vB_iff.1 hv)
  have hb := pot_bd h.1
  have := h.2 _ (rd_mem (xs := bids) (i := (w : Int)) (by omega) (by omega))
  rw [rd_nat] at this
  unfold gift
  split <;> omega
theorem payF_bd {bids done : List Int} {pay : Int} (hv : vB bids pay = true) (hd : done.length < bids.length) (j : Nat) : 0 ≤ payF bids.length pay bids done j ∧ payF bids.length pay bids done j ≤ 120001 := by
  have hw := win_spec hd
  have h := (vB_iff.1 hv)
  have hb := pot_bd h.1
  obtain ⟨w, e⟩ : ∃ w : Nat, win bids done = w := ⟨(win bids done).toNat, by omega⟩
  have hg := gift_bd hv (w := w) (by omega)
  unfold payF
  simp only [e, Int.toNat_natCast]
  split
  · split <;> omega
  · by_cases h1 : bids.length = 1
    · rw [h1]
      simp only [spl, Nat.sub_self]
      rw [show ((0 : Nat) : Int) = 0 from rfl, Int.ediv_zero, Int.emod_zero]
      split <;> omega
    · have := spl_bd (x := gift bids w) (p := bids.length - 1) hg.1 (by omega) (posW w j)
      omega
theorem payouts_loop (n w : Nat) (pot : Int) (s : Nat → Int) (hw : w < n) (hn : n ≤ 12) (hs : ∀ i, 0 ≤ s i ∧ s i ≤ 200000) (hp : 0 ≤ pot ∧ pot ≤ 120000) (hsum : ∀ i, i ≤ n → 0 ≤ sumN s i ∧ sumN s i ≤ 3000000) : ∀ (d i : Nat), i + d = n - 1 →
    Ev (fun k => impl_PayoutsOf.l0 k (w : Int) (tab n (fun j => if j = w then pot - sumN s i else if posW w j < i then s (posW w j) else 0)) (tab (n - 1) s) ((n - 1 : Nat) : Int) (i : Int)) (tab n (fun j => if j = w then pot - sumN s (n - 1) else s (posW w j)))
  | 0, i, hi => by
    refine Ev.step (fun _ => impl_PayoutsOf.l0.eq_2 ..) (Ev.neg (by omega) (Ev.now' (tab_ext fun j hj => ?_)))
    rw [show i = n - 1 by omega]
    by_cases e : j = w
    · rw [if_pos e, if_pos e]
    · rw [if_neg e, if_neg e, if_pos (by unfold posW; split <;> omega)]
  | d + 1, i, hi => by
    have ih := payouts_loop n w pot s hw hn hs hp hsum d (i + 1) (by omega)
    have hsi := hs i
    have hsm := hsum i (by omega)
    refine Ev.step (fun _ => impl_PayoutsOf.l0.eq_2 ..) (Ev.pos (by omega) (Ev.pos (by omega) (Ev.pos (by rw [tab_length]; omega) ?_)))
    rw [wrap_nat (by omega), tab_rd (by omega)]
    refine Ev.ite (fun h => Ev.pos (by omega) (Ev.pos (by rw [tab_length]; omega) (Ev.bind0 rfl (Ev.pos (by omega) (Ev.pos (by rw [tab_length]; omega) ?_))))) (fun h => Ev.pos (by rw [tab_length]; omega) (Ev.bind0 rfl (Ev.pos (by omega) (Ev.pos (by rw [tab_length]; omega) ?_))))
    · rw [Int.toNat_natCast, Int.toNat_natCast, tab_set, tab_set, tab_rd hw, if_neg (by omega), if_pos rfl, wrap_id (by omega) (by omega)]
      refine Ev.is (Ev.congr (fun k => ?_) ih) rfl
      congr 1
      refine tab_ext fun j hj => ?_
      by_cases e : j = w
      · rw [if_pos e, if_pos e]; simp only [sumN]; omega
      · simp only [if_neg e]
        by_cases e2 : j = i + 1
        · rw [if_pos e2, if_pos (by unfold posW; split <;> omega)]
          congr 1; unfold posW; split <;> omega
        · rw [if_neg e2]
          by_cases e3 : posW w j < i
          · rw [if_pos e3, if_pos (by omega)]
          · rw [if_neg e3, if_neg (by unfold posW at e3 ⊢; by_cases hj2 : j < w <;> simp only [hj2, if_true, if_false] at e3 ⊢ <;> omega)]
    · rw [Int.toNat_natCast, Int.toNat_natCast, tab_set, tab_set, tab_rd hw, if_neg (by omega), if_pos rfl, wrap_id (by omega) (by omega)]
      refine Ev.is (Ev.congr (fun k => ?_) ih) rfl
      congr 1
      refine tab_ext fun j hj => ?_
      by_cases e : j = w
      · rw [if_pos e, if_pos e]; simp only [sumN]; omega
      · simp only [if_neg e]
        by_cases e2 : j = i
        · rw [if_pos e2, if_pos (by unfold posW; split <;> omega)]
          congr 1; unfold posW; split <;> omega
        · rw [if_neg e2]
          by_cases e3 : posW w j < i
          · rw [if_pos e3, if_pos (by omega)]
          · rw [if_neg e3, if_neg (by unfold posW at e3 ⊢; by_cases hj2 : j < w <;> simp only [hj2, if_true, if_false] at e3 ⊢ <;> omega)]
theorem spl_sum_bd {x : Int} {p : Nat} (hx : 0 ≤ x) (hx2 : x ≤ 120000) (hp : 0 < p) (i : Nat) (hi : i ≤ 12) : 0 ≤ sumN (spl x p) i ∧ sumN (spl x p) i ≤ 120001 * i := by
  induction i with
  | zero => simp [sumN]
  | succ i ih =>
    have := spl_bd hx hp i
    have := ih (by omega)
    simp only [sumN]
    omega
theorem payoutsOf_ev {bids done : List Int} {pay : Int} (hv : vB bids pay = true) (hd : diffB done bids.length = true) (hdl : done.length < bids.length) :
    Ev (fun k => impl_PayoutsOf.f k bids pay done) (tab bids.length (payF bids.length pay bids done)) := by
  have hw := win_spec hdl
  have h := (vB_iff.1 hv)
  have hb := pot_bd h.1
  obtain ⟨w, e⟩ : ∃ w : Nat, win bids done = w := ⟨(win bids done).toNat, by omega⟩
  have hg := gift_bd hv (w := w) (by omega)
  have hwn : w < bids.length := by omega
  refine Ev.congr (fun _ => impl_PayoutsOf.f.eq_1 ..) (Ev.bind (winnerOf_ev hv hd (by omega)) ?_)
  rw [e]
  refine Ev.neg (by omega) (Ev.pos (by omega) (Ev.pos (by omega) (Ev.bind0 rfl (Ev.bind0 (potOf_yes _ _ h.1) (Ev.pos (by omega) (Ev.pos (by simp; omega) (Ev.pos (by omega) ?_)))))))
  rw [Int.toNat_natCast, Int.toNat_natCast, replicate_tab, tab_set, rd_nat]
  have hmx : mx (bids.getD w 0) 0 = gift bids w := by unfold mx gift; rfl
  rw [hmx]
  by_cases h1 : bids.length = 1
  · have e1 : wrap64 ((bids.length : Int) - 1) = 0 := by rw [wrap_id (by omega) (by omega)]; omega
    rw [e1]
    refine Ev.bind (splitEven_none _ _ (by omega)) (Ev.step (fun _ => impl_PayoutsOf.l0.eq_2 ..) (Ev.neg (by simp) (Ev.now' (tab_ext fun j hj => ?_))))
    have ew : w = 0 := by omega
    have ej : j = 0 := by omega
    subst ew; subst ej
    simp [payF, e, h1]
  · have e1 : wrap64 ((bids.length : Int) - 1) = ((bids.length - 1 : Nat) : Int) := by rw [wrap_id (by omega) (by omega)]; omega
    rw [e1]
    refine Ev.bind (splitEven_ev _ _ hg.1 (by omega) (by omega) (by omega)) ?_
    rw [tab_length]
    have := payouts_loop bids.length w (bids.length * pay) (spl (gift bids w) ((bids.length - 1 : Nat) : Int)) hwn (by omega) (fun i => by have := spl_bd (x := gift bids w) (p := bids.length - 1) hg.1 (by omega) i; omega) hb (fun i hi => by have := spl_sum_bd (x := gift bids w) (p := bids.length - 1) hg.1 (by omega) (by omega) i (by omega); omega) (bids.length - 1) 0 (by omega)
    refine Ev.is (Ev.congr (fun k => ?_) this) (tab_ext fun j hj => ?_)
    · congr 1
      refine tab_ext fun j hj => ?_
      by_cases ej : j = w
      · rw [if_pos ej, if_pos ej]; simp [sumN]
      · rw [if_neg ej, if_neg ej, if_neg (by omega)]
    · simp only [payF, e, Int.toNat_natCast]
      rw [spl_all _ _ (by omega), if_neg h1]
theorem specPayouts_loop (n w : Nat) (P : Int) (s : Nat → Int) (hw : w < n) (hn : n ≤ 12) : ∀ (d i : Nat), i + d = n →
    Ev (fun k => spec_payouts.l0 k (n : Int) (tab n (fun j => if j = w then P else if j < i then s (posW w j) else 0)) (w : Int) (tab (n - 1) s) ((if i ≤ w then i else i - 1 : Nat) : Int) (i : Int)) (tab n (fun j => if j = w then P else s (posW w j)))
  | 0, i, hi => by
    refine Ev.step (fun _ => spec_payouts.l0.eq_2 ..) (Ev.neg (by omega) (Ev.now' (tab_ext fun j hj => ?_)))
    by_cases e : j = w
    · rw [if_pos e, if_pos e]
    · rw [if_neg e, if_neg e, if_pos (by omega)]
  | d + 1, i, hi => by
    have ih := specPayouts_loop n w P s hw hn d (i + 1) (by omega)
    refine Ev.step (fun _ => spec_payouts.l0.eq_2 ..) (Ev.pos (by omega) (Ev.ite (fun h => ?_) (fun h => Ev.pos (by omega) (Ev.pos (by rw [tab_length]; split <;> omega) (Ev.pos (by omega) (Ev.pos (by rw [tab_length]; omega) ?_))))))
    · rw [wrap_nat (by omega)]
      rw [if_neg (show ¬ i + 1 ≤ w by omega)] at ih
      rw [if_pos (show i ≤ w by omega)]
      refine Ev.is (Ev.congr (fun k => ?_) ih) rfl
      congr 1
      refine tab_ext fun j hj => ?_
      by_cases e : j = w
      · simp only [if_pos e]
      · simp only [if_neg e]
        by_cases e2 : j < i
        · rw [if_pos e2, if_pos (by omega)]
        · rw [if_neg e2, if_neg (by omega)]
    · have hk : (if i ≤ w then i else i - 1) = posW w i := by unfold posW; (repeat' split) <;> omega
      have hk2 : (if i + 1 ≤ w then i + 1 else i + 1 - 1) = posW w i + 1 := by unfold posW; (repeat' split) <;> omega
      rw [hk2] at ih
      rw [hk, wrap_nat (by unfold posW; split <;> omega), wrap_nat (by omega), Int.toNat_natCast, tab_set, tab_rd (by unfold posW; split <;> omega)]
      refine Ev.is (Ev.congr (fun k => ?_) ih) rfl
      congr 1
      refine tab_ext fun j hj => ?_
      by_cases e : j = w
      · rw [if_neg (by omega)]; simp only [if_pos e]
      · simp only [if_neg e]
        by_cases e2 : j = i
        · rw [if_pos e2, if_pos (by omega), e2]
        · rw [if_neg e2]
          by_cases e3 : j < i
          · rw [if_pos e3, if_pos (by omega)]
          · rw [if_neg e3, if_neg (by omega)]
theorem specPayouts_ev {bids done : List Int} {pay : Int} (hv : vB bids pay = true) (hdl : done.length < bids.length) :
    Ev (fun k => spec_payouts.f k bids pay done) (tab bids.length (payF bids.length pay bids done)) := by
  have hw := win_spec hdl
  have h := (vB_iff.1 hv)
  have hb := pot_bd h.1
  obtain ⟨w, e⟩ : ∃ w : Nat, win bids done = w := ⟨(win bids done).toNat, by omega⟩
  have hg := gift_bd hv (w := w) (by omega)
  have hwn : w < bids.length := by omega
  refine Ev.congr (fun _ => spec_payouts.f.eq_1 ..) (Ev.pos (by omega) (Ev.pos (by omega) (Ev.bind0 rfl (Ev.bind (specWinner_ev bids done (by omega) (by omega)) ?_))))
  rw [e]
  have hmx : mx 0 (rd bids w) = gift bids w := by rw [rd_nat]; unfold mx gift; (repeat' split) <;> omega
  refine Ev.pos (by omega) (Ev.pos (by omega) (Ev.pos (by simp; omega) (Ev.bind0 rfl ?_)))
  rw [hmx, wrap_id (x := (bids.length : Int) * pay) (by omega) (by omega), wrap_id (x := (bids.length : Int) * pay - gift bids w) (by omega) (by omega), Int.toNat_natCast, Int.toNat_natCast, replicate_tab, tab_set, tab_set]
  refine Ev.ite (fun h1 => Ev.now' (tab_ext fun j hj => ?_)) (fun h1 => ?_)
  · have ew : w = 0 := by omega
    have ej : j = 0 := by omega
    subst ew; subst ej
    simp [payF, e, show bids.length = 1 by omega]
  · have e1 : wrap64 ((bids.length : Int) - 1) = ((bids.length - 1 : Nat) : Int) := by rw [wrap_id (by omega) (by omega)]; omega
    rw [e1]
    refine Ev.bind (split_ev _ _ hg.1 (by omega) (by omega)) ?_
    have := specPayouts_loop bids.length w (bids.length * pay - gift bids w) (spl (gift bids w) ((bids.length - 1 : Nat) : Int)) hwn (by omega) bids.length 0 (by omega)
    refine Ev.is (Ev.congr (fun k => ?_) this) (tab_ext fun j hj => ?_)
    · simp
    · simp only [payF, e, Int.toNat_natCast]
      rw [if_neg (show ¬ bids.length = 1 by omega)]

/-- The order of the winners, and what each one got. -/
def rnd (n : Nat) (pay : Int) (rows : List (List Int)) : List Int × (Nat → Int) :=
  rows.foldl (fun s b => (s.1 ++ [win b s.1], fun j => s.2 j + payF n pay b s.1 j)) ([], fun _ => 0)
theorem rnd_snoc (n : Nat) (pay : Int) (rows : List (List Int)) (b : List Int) :
    rnd n pay (rows ++ [b]) = ((rnd n pay rows).1 ++ [win b (rnd n pay rows).1], fun j => (rnd n pay rows).2 j + payF n pay b (rnd n pay rows).1 j) := by
  simp [rnd, List.foldl_append]
def okR (n : Nat) (pay : Int) (rows : List (List Int)) : Prop := ∀ b ∈ rows, b.length = n ∧ vB b pay = true
structure RInv (n : Nat) (i : Nat) (s : List Int × (Nat → Int)) : Prop where
  len : s.1.length = i
  nd : s.1.Nodup
  bd : ∀ x ∈ s.1, 0 ≤ x ∧ x < (n : Int)
  gb : ∀ j, 0 ≤ s.2 j ∧ s.2 j ≤ 120001 * i
theorem rnd_fold (n : Nat) (pay : Int) : ∀ (rows : List (List Int)) (i : Nat) (s : List Int × (Nat → Int)), RInv n i s → okR n pay rows → i + rows.length ≤ n →
    RInv n (i + rows.length) (rows.foldl (fun s b => (s.1 ++ [win b s.1], fun j => s.2 j + payF n pay b s.1 j)) s)
  | [], i, s, h, _, _ => h
  | b :: rows, i, s, h, hr, hl => by
    simp only [List.length_cons] at hl
    obtain ⟨hb1, hb2⟩ := hr b (List.mem_cons_self ..)
    have hw := win_spec (bids := b) (done := s.1) (by rw [h.len]; omega)
    have := rnd_fold n pay rows (i + 1) (s.1 ++ [win b s.1], fun j => s.2 j + payF n pay b s.1 j) ⟨by simp [h.len], by
        rw [List.nodup_append]
        exact ⟨h.nd, by simp, fun a ha b' hb' => by simp at hb'; subst hb'; exact fun e => hw.2.2 (e ▸ ha)⟩, by
        intro x hx
        rw [List.mem_append] at hx
        rcases hx with hx | hx
        · exact h.bd x hx
        · simp at hx; subst hx; omega, by
        intro j
        have h1 := h.gb j
        have h2 := payF_bd (bids := b) (done := s.1) hb2 (by rw [h.len]; omega) j
        rw [hb1] at h2
        simp only
        omega⟩ (fun b' hb' => hr b' (List.mem_cons_of_mem _ hb')) (by omega)
    rw [List.length_cons, show i + (rows.length + 1) = i + 1 + rows.length by omega]
    exact this
theorem rnd_inv {n : Nat} {pay : Int} {rows : List (List Int)} (hr : okR n pay rows) (hl : rows.length ≤ n) : RInv n rows.length (rnd n pay rows) := by
  have := rnd_fold n pay rows 0 ([], fun _ => 0) ⟨rfl, by simp, by simp, fun j => by simp⟩ hr (by omega)
  simpa [rnd] using this
theorem diffB_of {D : List Int} {n : Nat} (h1 : D.length ≤ n) (h2 : ∀ x ∈ D, 0 ≤ x ∧ x < (n : Int)) (h3 : D.Nodup) : diffB D n = true := by
  unfold diffB
  rw [Bool.and_eq_true, Bool.and_eq_true, allW_iff, decide_eq_true_iff, decide_eq_true_iff]
  exact ⟨⟨by omega, fun x hx => by have := h2 x hx; omega⟩, h3⟩
theorem rdL_mid (pre post : List (List Int)) (x : List Int) : rd_L2 (pre ++ x :: post) (pre.length : Int) = x := by
  unfold rd_L2
  rw [Int.toNat_natCast]
  simp [List.getD_eq_getElem?_getD]
theorem bidRounds_l2 (n : Nat) (pay : Int) (D : List Int) (g p : Nat → Int) (b : List Int) (T : List (List Int)) (t : Nat) (r : List Int × List Int) (hn : n ≤ 12) (hT : T.length ≤ 12) (ht : t < T.length) (hD : D.length ≤ 12)
    (hg : ∀ j, 0 ≤ g j ∧ g j ≤ 120001 * 12) (hp : ∀ j, 0 ≤ p j ∧ p j ≤ 120001) (hw : Ev (fun k => impl_WinnerOf.f k b pay D) (win b D))
    (nx : Ev (fun k => impl_bidRounds.l1 k pay (D ++ [win b D]) (tab n (fun j => g j + p j)) T (T.length : Int) ((t + 1 : Nat) : Int)) r) : ∀ (d i : Nat), i + d = n →
    Ev (fun k => impl_bidRounds.l2 k pay D (tab n (fun j => if j < i then g j + p j else g j)) b T (T.length : Int) (t : Int) (tab n p) (n : Int) (i : Int)) r
  | 0, i, hi => by
    refine Ev.step (fun _ => impl_bidRounds.l2.eq_2 ..) (Ev.neg (by omega) (Ev.bind hw (Ev.pos (by omega) ?_)))
    rw [wrap_nat (by omega)]
    refine Ev.is (Ev.congr (fun k => ?_) nx) rfl
    congr 1
    exact tab_ext fun j hj => if_pos (by omega)
  | d + 1, i, hi => by
    have ih := bidRounds_l2 n pay D g p b T t r hn hT ht hD hg hp hw nx d (i + 1) (by omega)
    have hgi := hg i
    have hpi := hp i
    refine Ev.step (fun _ => impl_bidRounds.l2.eq_2 ..) (Ev.pos (by omega) (Ev.pos (by omega) (Ev.pos (by rw [tab_length]; omega) (Ev.pos (by rw [tab_length]; omega) ?_))))
    rw [wrap_nat (by omega), tab_rd (by omega), tab_rd (by omega), Int.toNat_natCast, tab_set, if_neg (by omega), wrap_id (by omega) (by omega)]
    refine Ev.is (Ev.congr (fun k => ?_) ih) rfl
    congr 1
    refine tab_ext fun j hj => ?_
    by_cases e : j = i
    · subst e; rw [if_pos rfl, if_pos (by omega)]
    · rw [if_neg e]
      by_cases e2 : j < i
      · rw [if_pos e2, if_pos (by omega)]
      · rw [if_neg e2, if_neg (by omega)]
theorem bidRounds_l1 (pay : Int) : ∀ (post pre : List (List Int)) (n : Nat), (pre ++ post).length = n → n ≤ 12 → okR n pay (pre ++ post) →
    Ev (fun k => impl_bidRounds.l1 k pay (rnd n pay pre).1 (tab n (rnd n pay pre).2) (pre ++ post) (n : Int) (pre.length : Int)) ((rnd n pay (pre ++ post)).1, tab n (rnd n pay (pre ++ post)).2)
  | [], pre, n, hn, hn2, hr => Ev.step (fun _ => impl_bidRounds.l1.eq_2 ..) (Ev.neg (by simp at hn; omega) (Ev.now' (by simp)))
  | b :: post, pre, n, hn, hn2, hr => by
    have ih := bidRounds_l1 pay post (pre ++ [b]) n (by simpa using hn) hn2 (by simpa using hr)
    rw [List.append_assoc, show [b] ++ post = b :: post from rfl, show (pre ++ [b]).length = pre.length + 1 from by simp, rnd_snoc] at ih
    have hpl : pre.length < n := by simp at hn; omega
    have inv := rnd_inv (n := n) (pay := pay) (rows := pre) (fun b' hb' => hr b' (by simp [hb'])) (by omega)
    obtain ⟨hb1, hb2⟩ := hr b (by simp)
    have hdb : diffB (rnd n pay pre).1 b.length = true := diffB_of (by rw [inv.len, hb1]; omega) (by rw [hb1]; exact inv.bd) inv.nd
    have hpo := payoutsOf_ev (bids := b) (done := (rnd n pay pre).1) hb2 hdb (by rw [inv.len, hb1]; exact hpl)
    rw [hb1] at hpo
    refine Ev.step (fun _ => impl_bidRounds.l1.eq_2 ..) (Ev.pos (by omega) (Ev.pos (by omega) (Ev.pos (by omega) ?_)))
    rw [rdL_mid]
    refine Ev.bind hpo ?_
    rw [tab_length]
    have := bidRounds_l2 n pay (rnd n pay pre).1 (rnd n pay pre).2 (payF n pay b (rnd n pay pre).1) b (pre ++ b :: post) pre.length _ hn2 (by omega) (by omega) (by rw [inv.len]; omega) (fun j => by have := inv.gb j; omega) (fun j => by have := payF_bd (bids := b) (done := (rnd n pay pre).1) hb2 (by rw [inv.len]; omega) j; rw [hb1] at this; exact this) (winnerOf_ev hb2 hdb (by rw [inv.len]; omega)) (by rw [hn]; exact ih) n 0 (by omega)
    rw [hn] at this
    refine Ev.is (Ev.congr (fun k => ?_) this) rfl
    congr 1
/-- Is a table of bids valid? -/
def okT (T : List (List Int)) (pay : Int) : Bool := decide (1 ≤ T.length ∧ T.length ≤ 12) && T.all fun b => decide (b.length = T.length) && vB b pay
theorem okT_iff {T : List (List Int)} {pay : Int} : okT T pay = true ↔ (1 ≤ T.length ∧ T.length ≤ 12) ∧ okR T.length pay T := by
  unfold okT okR
  rw [Bool.and_eq_true, decide_eq_true_iff, List.all_eq_true]
  simp
theorem okT_pay {T : List (List Int)} {pay : Int} (h : okT T pay = true) : 0 ≤ pay ∧ pay ≤ 10000 := by
  have h2 := okT_iff.1 h
  cases T with
  | nil => simp at h2
  | cons b T => have := (vB_iff.1 (h2.2 b (by simp)).2).1; omega
theorem bidRounds_l0 (pay : Int) (T : List (List Int)) (hT : 1 ≤ T.length ∧ T.length ≤ 12) : ∀ (post pre : List (List Int)), pre ++ post = T → okR T.length pay pre →
    Ev (fun k => impl_bidRounds.l0 k T pay T (T.length : Int) (pre.length : Int)) (if okT T pay then ((rnd T.length pay T).1, tab T.length (rnd T.length pay T).2) else ([], []))
  | [], pre, e, hr => by
    have e2 : pre = T := by simpa using e
    rw [e2] at hr
    rw [if_pos (okT_iff.2 ⟨hT, hr⟩)]
    refine Ev.step (fun _ => impl_bidRounds.l0.eq_2 ..) (Ev.neg (by rw [e2]; omega) (Ev.pos (by omega) (Ev.pos (by omega) ?_)))
    rw [Int.toNat_natCast, replicate_tab]
    exact bidRounds_l1 pay T [] T.length rfl hT.2 hr
  | b :: post, pre, e, hr => by
    have hpl : pre.length < T.length := by rw [← e]; simp
    refine Ev.step (fun _ => impl_bidRounds.l0.eq_2 ..) (Ev.pos (by omega) (Ev.pos (by omega) (Ev.pos (by omega) ?_)))
    rw [show rd_L2 T (pre.length : Int) = b from by rw [← e]; exact rdL_mid ..]
    have bad : ¬ (b.length = T.length ∧ vB b pay = true) → okT T pay = false := by
      intro h
      rw [← Bool.not_eq_true]
      intro hk
      exact h ((okT_iff.1 hk).2 b (by rw [← e]; simp))
    refine Ev.ite (fun h1 => Ev.bind (validBids_ev ..) (Ev.ite (fun h2 => ?_) (fun h2 => Ev.now' ?_))) (fun h1 => Ev.now' ?_)
    · have ih := bidRounds_l0 pay T hT post (pre ++ [b]) (by simpa using e) (by
        intro b' hb'
        rw [List.mem_append] at hb'
        rcases hb' with hb' | hb'
        · exact hr b' hb'
        · simp at hb'; subst hb'; exact ⟨by omega, h2⟩)
      rw [show (pre ++ [b]).length = pre.length + 1 from by simp] at ih
      rwa [wrap_nat (by omega)]
    · rw [bad (fun h => h2 h.2)]; rfl
    · rw [bad (fun h => h1 (by omega))]; rfl
theorem bidRounds_ev (T : List (List Int)) (pay : Int) : Ev (fun k => impl_bidRounds.f k T pay) (if okT T pay then ((rnd T.length pay T).1, tab T.length (rnd T.length pay T).2) else ([], [])) := by
  by_cases h : 1 ≤ T.length ∧ T.length ≤ 12 ∧ 0 ≤ pay ∧ pay ≤ 10000
  · have hb := pot_bd h
    exact Ev.congr (fun _ => impl_bidRounds.f.eq_1 ..) (Ev.bind0 (potOf_yes _ _ h) (Ev.neg (by omega) (bidRounds_l0 pay T ⟨h.1, h.2.1⟩ T [] rfl (by intro b hb; simp at hb))))
  · have : okT T pay = false := by
      rw [← Bool.not_eq_true]
      intro hk
      have h1 := (okT_iff.1 hk).1
      have h2 := okT_pay hk
      omega
    rw [this]
    exact Ev.congr (fun _ => impl_bidRounds.f.eq_1 ..) (Ev.bind0 (potOf_no _ _ h) (Ev.pos (by omega) (Ev.now _)))
theorem bidNets_loop (T : List (List Int)) (pay : Int) (n : Nat) (g : Nat → Int) (hT : T.length ≤ 12) (hn : n ≤ 12) (hp : 0 ≤ pay ∧ pay ≤ 10000) (hg : ∀ j, 0 ≤ g j ∧ g j ≤ 120001 * 12) : ∀ (d i : Nat), i + d = n →
    Ev (fun k => impl_BidNets.l0 k T pay (tab n (fun j => if j < i then g j - pay * T.length else g j)) (n : Int) (i : Int)) (tab n (fun j => g j - pay * T.length))
  | 0, i, hi => Ev.step (fun _ => impl_BidNets.l0.eq_2 ..) (Ev.neg (by omega) (Ev.now' (tab_ext fun j hj => if_pos (by omega))))
  | d + 1, i, hi => by
    have ih := bidNets_loop T pay n g hT hn hp hg d (i + 1) (by omega)
    have hgi := hg i
    have hm := mul_bd (a := pay) (A := 10000) (b := (T.length : Int)) (B := 12) hp.1 hp.2 (by omega) (by omega)
    refine Ev.step (fun _ => impl_BidNets.l0.eq_2 ..) (Ev.pos (by omega) (Ev.pos (by omega) (Ev.pos (by rw [tab_length]; omega) ?_)))
    rw [wrap_nat (by omega), tab_rd (by omega), Int.toNat_natCast, tab_set, if_neg (by omega), wrap_id (x := pay * T.length) (by omega) (by omega), wrap_id (by omega) (by omega)]
    refine Ev.is (Ev.congr (fun k => ?_) ih) rfl
    congr 1
    refine tab_ext fun j hj => ?_
    by_cases e : j = i
    · subst e; rw [if_pos rfl, if_pos (by omega)]
    · rw [if_neg e]
      by_cases e2 : j < i
      · rw [if_pos e2, if_pos (by omega)]
      · rw [if_neg e2, if_neg (by omega)]
def netsM (T : List (List Int)) (pay : Int) : List Int := if okT T pay then tab T.length (fun j => (rnd T.length pay T).2 j - pay * T.length) else []
theorem bidNets_ev (T : List (List Int)) (pay : Int) : Ev (fun k => impl_BidNets.f k T pay) (netsM T pay) := by
  refine Ev.congr (fun _ => impl_BidNets.f.eq_1 ..) (Ev.bind (bidRounds_ev T pay) ?_)
  unfold netsM
  by_cases h : okT T pay = true
  · have h2 := okT_iff.1 h
    have inv := rnd_inv (n := T.length) (pay := pay) (rows := T) h2.2 (by omega)
    simp only [h, if_true]
    rw [tab_length]
    have := bidNets_loop T pay T.length (rnd T.length pay T).2 (by omega) (by omega) (okT_pay h) (fun j => by have := inv.gb j; omega) T.length 0 (by omega)
    refine Ev.is (Ev.congr (fun k => ?_) this) rfl
    congr 1
  · simp only [h]
    exact Ev.step (fun _ => impl_BidNets.l0.eq_2 ..) (Ev.neg (by simp) (Ev.now _))
theorem bidOrder_ev (T : List (List Int)) (pay : Int) : Ev (fun k => impl_BidOrder.f k T pay) (if okT T pay then (rnd T.length pay T).1 else []) := by
  refine Ev.congr (fun _ => impl_BidOrder.f.eq_1 ..) (Ev.bind (bidRounds_ev T pay) (Ev.now' ?_))
  split <;> rfl
theorem validTable_loop (pay : Int) (T : List (List Int)) (hT : 1 ≤ T.length ∧ T.length ≤ 12) : ∀ (post pre : List (List Int)), pre ++ post = T → okR T.length pay pre →
    Ev (fun k => spec_validTable.l0 k T pay (pre.length : Int)) (okT T pay)
  | [], pre, e, hr => by
    have e2 : pre = T := by simpa using e
    rw [e2] at hr
    rw [okT_iff.2 ⟨hT, hr⟩]
    exact Ev.step (fun _ => spec_validTable.l0.eq_2 ..) (Ev.neg (by rw [e2]; omega) (Ev.now _))
  | b :: post, pre, e, hr => by
    have hpl : pre.length < T.length := by rw [← e]; simp
    refine Ev.step (fun _ => spec_validTable.l0.eq_2 ..) (Ev.pos (by omega) (Ev.pos (by omega) ?_))
    rw [show rd_L2 T (pre.length : Int) = b from by rw [← e]; exact rdL_mid ..]
    have bad : ¬ (b.length = T.length ∧ vB b pay = true) → okT T pay = false := by
      intro h
      rw [← Bool.not_eq_true]
      intro hk
      exact h ((okT_iff.1 hk).2 b (by rw [← e]; simp))
    refine Ev.ite (fun h1 => Ev.bind (specValidBids_ev ..) (Ev.ite (fun h2 => ?_) (fun h2 => Ev.now' ?_))) (fun h1 => Ev.now' ?_)
    · have ih := validTable_loop pay T hT post (pre ++ [b]) (by simpa using e) (by
        intro b' hb'
        rw [List.mem_append] at hb'
        rcases hb' with hb' | hb'
        · exact hr b' hb'
        · simp at hb'; subst hb'; exact ⟨by omega, h2⟩)
      rw [show (pre ++ [b]).length = pre.length + 1 from by simp] at ih
      rwa [wrap_nat (by omega)]
    · rw [bad (fun h => h2 h.2)]
    · rw [bad (fun h => h1 (by omega))]
theorem validTable_ev (T : List (List Int)) (pay : Int) : Ev (fun k => spec_validTable.f k T pay) (okT T pay) := by
  refine Ev.congr (fun _ => spec_validTable.f.eq_1 ..) (Ev.bind0 (inRange_eq ..) (Ev.ite (fun h => ?_) (fun h => Ev.now' ?_)))
  · simp at h
    exact validTable_loop pay T (by omega) T [] rfl (by intro b hb; simp at hb)
  · simp at h
    unfold okT
    rw [decide_eq_false (by omega)]; rfl
theorem specBidNets_l1 (n : Nat) (pay : Int) (D : List Int) (g p : Nat → Int) (b : List Int) (T : List (List Int)) (t : Nat) (r : List Int) (hn : n ≤ 12) (ht : t < T.length) (htb : rd_L2 T (t : Int) = b) (hD : D.length ≤ 12) (ht2 : t ≤ 12) (hpay : 0 ≤ pay ∧ pay ≤ 10000)
    (hg : ∀ j, -10000000 ≤ g j ∧ g j ≤ 10000000) (hp : ∀ j, 0 ≤ p j ∧ p j ≤ 120001) (hw : Ev (fun k => spec_winner.f k b D) (win b D))
    (nx : Ev (fun k => spec_bidNets.l0 k T pay (tab n (fun j => g j + p j - pay)) (D ++ [win b D]) ((t + 1 : Nat) : Int)) r) : ∀ (d i : Nat), i + d = n →
    Ev (fun k => spec_bidNets.l1 k T pay (tab n (fun j => if j < i then g j + p j - pay else g j)) D (t : Int) (tab n p) (i : Int)) r
  | 0, i, hi => by
    refine Ev.step (fun _ => spec_bidNets.l1.eq_2 ..) (Ev.neg (by rw [tab_length]; omega) (Ev.pos (by omega) (Ev.pos (by omega) ?_)))
    rw [htb]
    refine Ev.bind hw (Ev.pos (by omega) ?_)
    rw [wrap_nat (by omega)]
    refine Ev.is (Ev.congr (fun k => ?_) nx) rfl
    congr 1
    exact tab_ext fun j hj => if_pos (by omega)
  | d + 1, i, hi => by
    have ih := specBidNets_l1 n pay D g p b T t r hn ht htb hD ht2 hpay hg hp hw nx d (i + 1) (by omega)
    have hgi := hg i
    have hpi := hp i
    refine Ev.step (fun _ => spec_bidNets.l1.eq_2 ..) (Ev.pos (by rw [tab_length]; omega) (Ev.pos (by omega) (Ev.pos (by rw [tab_length]; omega) ?_)))
    rw [wrap_nat (by omega), tab_rd (by omega), tab_rd (by omega), Int.toNat_natCast, tab_set, if_neg (by omega), wrap_id (x := g i + p i) (by omega) (by omega), wrap_id (by omega) (by omega)]
    refine Ev.is (Ev.congr (fun k => ?_) ih) rfl
    congr 1
    refine tab_ext fun j hj => ?_
    by_cases e : j = i
    · subst e; rw [if_pos rfl, if_pos (by omega)]
    · rw [if_neg e]
      by_cases e2 : j < i
      · rw [if_pos e2, if_pos (by omega)]
      · rw [if_neg e2, if_neg (by omega)]
theorem specBidNets_l0 (pay : Int) (hpay : 0 ≤ pay ∧ pay ≤ 10000) : ∀ (post pre : List (List Int)) (n : Nat), (pre ++ post).length = n → n ≤ 12 → okR n pay (pre ++ post) →
    Ev (fun k => spec_bidNets.l0 k (pre ++ post) pay (tab n (fun j => (rnd n pay pre).2 j - pay * pre.length)) (rnd n pay pre).1 (pre.length : Int)) (tab n (fun j => (rnd n pay (pre ++ post)).2 j - pay * n))
  | [], pre, n, hn, hn2, hr => Ev.step (fun _ => spec_bidNets.l0.eq_2 ..) (Ev.neg (by simp at hn; simp) (Ev.now' (by simp at hn; simp [hn])))
  | b :: post, pre, n, hn, hn2, hr => by
    have ih := specBidNets_l0 pay hpay post (pre ++ [b]) n (by simpa using hn) hn2 (by simpa using hr)
    rw [List.append_assoc, show [b] ++ post = b :: post from rfl, show (pre ++ [b]).length = pre.length + 1 from by simp, rnd_snoc] at ih
    have hpl : pre.length < n := by simp at hn; omega
    have inv := rnd_inv (n := n) (pay := pay) (rows := pre) (fun b' hb' => hr b' (by simp [hb'])) (by omega)
    obtain ⟨hb1, hb2⟩ := hr b (by simp)
    have hpo := specPayouts_ev (bids := b) (done := (rnd n pay pre).1) hb2 (by rw [inv.len, hb1]; exact hpl)
    rw [hb1] at hpo
    have hm := mul_bd (a := pay) (A := 10000) (b := (pre.length : Int)) (B := 12) hpay.1 hpay.2 (by omega) (by omega)
    refine Ev.step (fun _ => spec_bidNets.l0.eq_2 ..) (Ev.pos (by omega) (Ev.pos (by omega) ?_))
    rw [rdL_mid]
    refine Ev.bind hpo ?_
    have := specBidNets_l1 n pay (rnd n pay pre).1 (fun j => (rnd n pay pre).2 j - pay * pre.length) (payF n pay b (rnd n pay pre).1) b (pre ++ b :: post) pre.length _ hn2 (by omega) (rdL_mid ..) (by rw [inv.len]; omega) (by omega) hpay (fun j => by have := inv.gb j; omega) (fun j => by have := payF_bd (bids := b) (done := (rnd n pay pre).1) hb2 (by rw [inv.len]; omega) j; rw [hb1] at this; exact this) (specWinner_ev _ _ (by omega) (by rw [inv.len]; omega)) (by
        refine Ev.is (Ev.congr (fun k => ?_) ih) rfl
        congr 1
        refine tab_ext fun j hj => ?_
        simp only
        rw [show pay * ((pre.length + 1 : Nat) : Int) = pay * pre.length + pay from by rw [Int.natCast_succ, Int.mul_add, Int.mul_one]]
        omega) n 0 (by omega)
    refine Ev.is (Ev.congr (fun k => ?_) this) rfl
    congr 1
theorem specBidNets_ev (T : List (List Int)) (pay : Int) : Ev (fun k => spec_BidNets.f k T pay) (netsM T pay) := by
  refine Ev.congr (fun _ => spec_BidNets.f.eq_1 ..) (Ev.bind (validTable_ev T pay) ?_)
  unfold netsM
  refine Ev.ite (fun h => ?_) (fun h => ?_)
  · have h2 := okT_iff.1 h
    rw [if_pos h]
    refine Ev.bind (a := tab T.length (fun j => (rnd T.length pay T).2 j - pay * T.length)) ?_ (Ev.now _)
    refine Ev.congr (fun _ => spec_bidNets.f.eq_1 ..) (Ev.pos (by omega) (Ev.pos (by omega) ?_))
    rw [Int.toNat_natCast, replicate_tab]
    have := specBidNets_l0 pay (okT_pay h) T [] T.length rfl (by omega) h2.2
    refine Ev.is (Ev.congr (fun k => ?_) this) rfl
    congr 1
    exact tab_ext fun j hj => by simp [rnd]
  · rw [if_neg h]
    exact Ev.now _
theorem someBids_loop (s : List Int) (hs : ∀ x ∈ s, 0 ≤ x ∧ x ≤ 255) (hl : s.length ≤ 2000) (n pay : Int) : ∀ (d : Nat) (i p : Int) (acc : List Int), 0 ≤ i → i + d = n → n ≤ 100 → (acc.length : Int) = i → 0 ≤ p → p + 2 * d ≤ 1000000 →
    ∃ xs, Ev (fun k => spec_someBids.l0 k n pay acc i s p) (xs, p + 2 * d)
  | 0, i, p, acc, h0, hi, hn, ha, hp, hp2 => ⟨acc, Ev.step (fun _ => spec_someBids.l0.eq_2 ..) (Ev.neg (by omega) (Ev.now' (by simp)))⟩
  | d + 1, i, p, acc, h0, hi, hn, ha, hp, hp2 => by
    obtain ⟨v, hv, _, _⟩ := pick_ev s hs hl p (wrap64 (wrap64 (n * pay) + 1)) hp (by omega)
    obtain ⟨u, hu, _⟩ := one_ev s hs hl (p + 1) (by omega) (by omega) [v, (-1), mn 5 (wrap64 (n * pay)), 0, mn (wrap64 (n * pay)) 20] (by simp)
    obtain ⟨xs, ih⟩ := someBids_loop s hs hl n pay d (i + 1) (p + 1 + 1) (acc ++ [u]) (by omega) (by omega) hn (by simp; omega) (by omega) (by omega)
    refine ⟨xs, Ev.step (fun _ => spec_someBids.l0.eq_2 ..) (Ev.pos (by omega) (Ev.bind hv (Ev.bind hu (Ev.pos (by omega) ?_))))⟩
    rw [wrap_id (x := i + 1) (by omega) (by omega)]
    exact Ev.is ih (by congr 1; omega)
theorem someBids_ev (s : List Int) (hs : ∀ x ∈ s, 0 ≤ x ∧ x ≤ 255) (hl : s.length ≤ 2000) (n : Nat) (pay p : Int) (hn : n ≤ 100) (hp : 0 ≤ p) (hp2 : p + 2 * n ≤ 1000000) : ∃ xs, Ev (fun k => spec_someBids.f k s p (n : Int) pay) (xs, p + 2 * n) := by
  obtain ⟨xs, h⟩ := someBids_loop s hs hl n pay n 0 p [] (by omega) (by omega) (by omega) rfl hp hp2
  exact ⟨xs, Ev.congr (fun _ => spec_someBids.f.eq_1 ..) h⟩
theorem drawBids_loop (s : List Int) (hs : ∀ x ∈ s, 0 ≤ x ∧ x ≤ 255) (hl : s.length ≤ 2000) (n : Nat) (pay : Int) (hn : n ≤ 6) : ∀ (d i : Nat) (p : Int) (acc : List (List Int)), i + d = n → acc.length = i → 0 ≤ p → p + 12 * d ≤ 100000 →
    ∃ T, Ev (fun k => spec_DrawBidOrder.l0 k (n : Int) pay acc (i : Int) s p) (T, pay)
  | 0, i, p, acc, hi, ha, hp, hp2 => by
    obtain ⟨v, hv, _, _⟩ := pick_ev s hs hl p 16 hp (by omega)
    by_cases h : v = 0
    · exact ⟨acc ++ [[1]], Ev.step (fun _ => spec_DrawBidOrder.l0.eq_2 ..) (Ev.neg (by omega) (Ev.bind hv (Ev.pos h (Ev.pos (by omega) (Ev.now _)))))⟩
    · exact ⟨acc, Ev.step (fun _ => spec_DrawBidOrder.l0.eq_2 ..) (Ev.neg (by omega) (Ev.bind hv (Ev.neg h (Ev.now _))))⟩
  | d + 1, i, p, acc, hi, ha, hp, hp2 => by
    obtain ⟨xs, hx⟩ := someBids_ev s hs hl n pay p (by omega) hp (by omega)
    obtain ⟨T, ih⟩ := drawBids_loop s hs hl n pay hn d (i + 1) (p + 2 * n) (acc ++ [xs]) (by omega) (by simp; omega) (by omega) (by omega)
    refine ⟨T, Ev.step (fun _ => spec_DrawBidOrder.l0.eq_2 ..) (Ev.pos (by omega) (Ev.bind hx (Ev.pos (by omega) ?_)))⟩
    rw [wrap_nat (by omega)]
    exact ih
theorem drawBids_ev (l : List Int) (hs : ∀ x ∈ l, 0 ≤ x ∧ x ≤ 255) : ∃ T pay, Ev (fun k => spec_DrawBidNets.f k l) (T, pay) := by
  have hs2 : ∀ x ∈ l.take 2000, 0 ≤ x ∧ x ≤ 255 := fun x hx => hs x (List.mem_of_mem_take hx)
  have hl : (l.take 2000).length ≤ 2000 := by rw [List.length_take]; omega
  obtain ⟨n, hn, hm⟩ := one_ev _ hs2 hl 0 (by omega) (by omega) [4, 3, 5, 1, 2, 6] (by simp)
  obtain ⟨pay, hp, _⟩ := one_ev _ hs2 hl (0 + 1) (by omega) (by omega) [10, 50, 1, 0] (by simp)
  have hn2 : 0 ≤ n ∧ n ≤ 6 := by simp at hm; omega
  obtain ⟨m, rfl⟩ : ∃ m : Nat, n = m := ⟨n.toNat, by omega⟩
  obtain ⟨T, hT⟩ := drawBids_loop _ hs2 hl m pay (by omega) m 0 (0 + 1 + 1) [] (by omega) rfl (by omega) (by omega)
  exact ⟨T, pay, Ev.congr (fun _ => spec_DrawBidNets.f.eq_1 ..) (Ev.bind (Ev.congr (fun _ => spec_DrawBidOrder.f.eq_1 ..) (Ev.bind0 (newReader_eq _) (Ev.bind hn (Ev.bind hp hT)))) (Ev.now _))⟩

theorem winF_zero_after (n : Nat) (D : List Int) (b : Nat) : ∀ (d i : Nat), winF (List.replicate n 0) D d (b : Int) i = b
  | 0, i => rfl
  | d + 1, i => by
    unfold winF
    have h0 : ∀ j : Int, rd (List.replicate n 0) j = 0 := by intro j; unfold rd; simp [List.getD_eq_getElem?_getD, List.getElem?_replicate]; split <;> rfl
    rw [h0, h0, if_neg (show ¬ (b : Int) < 0 by omega), if_neg (show ¬ (0 : Int) > 0 by omega)]
    split <;> exact winF_zero_after n D b d (i + 1)
theorem winF_zero (n i : Nat) : ∀ (d j : Nat), j ≤ i → i < j + d → winF (List.replicate n 0) (tab i (fun j => (j : Int))) d (-1) j = i
  | 0, j, h1, h2 => by omega
  | d + 1, j, h1, h2 => by
    unfold winF
    by_cases e : j < i
    · rw [if_pos (mem_tab.2 ⟨j, e, rfl⟩)]
      exact winF_zero n i d (j + 1) (by omega) (by omega)
    · have e2 : j = i := by omega
      subst e2
      rw [if_neg (by intro h; obtain ⟨q, hq, hq2⟩ := mem_tab.1 h; omega), if_pos (by omega)]
      exact winF_zero_after n _ j d (j + 1)
theorem win_zero {n i : Nat} (h : i < n) : win (List.replicate n 0) (tab i (fun j => (j : Int))) = i := by
  unfold win
  rw [List.length_replicate]
  exact winF_zero n i n 0 (by omega) (by omega)
theorem rnd_zero (n : Nat) (pay : Int) : ∀ i, i ≤ n → rnd n pay (List.replicate i (List.replicate n 0)) = (tab i (fun j => (j : Int)), fun j => if j < i then n * pay else 0)
  | 0, _ => by simp [rnd, tab]
  | i + 1, h => by
    rw [List.replicate_succ', rnd_snoc, rnd_zero n pay i (by omega), win_zero (by omega), tab_succ]
    congr 1
    funext j
    have hg : gift (List.replicate n 0) i = 0 := by unfold gift; simp [List.getD_eq_getElem?_getD, List.getElem?_replicate]; split <;> simp
    simp only [payF, win_zero (show i < n by omega), Int.toNat_natCast, hg]
    by_cases e : j = i
    · subst e
      simp
    · rw [if_neg e]
      have : spl 0 ((n - 1 : Nat) : Int) (posW i j) = 0 := by unfold spl; rw [Int.zero_ediv, Int.zero_emod, if_neg (by omega)]; rfl
      rw [this]
      by_cases e2 : j < i
      · rw [if_pos e2, if_pos (by omega)]; omega
      · rw [if_neg e2, if_neg (by omega)]; rfl
theorem okT_zero {n : Nat} {pay : Int} (hn : 1 ≤ n ∧ n ≤ 12) (hp : 0 ≤ pay ∧ pay ≤ 10000) : okT (List.replicate n (List.replicate n 0)) pay = true := by
  refine okT_iff.2 ⟨by simpa using hn, fun b hb => ?_⟩
  have e := (List.mem_replicate.1 hb).2
  subst e
  refine ⟨by simp, vB_iff.2 ⟨by simp; omega, fun x hx => ?_⟩⟩
  have e := (List.mem_replicate.1 hx).2
  have := pot_bd (n := n) (pay := pay) ⟨hn.1, hn.2, hp.1, hp.2⟩
  simp only [List.length_replicate]
  omega
theorem netAfter_loop (n : Nat) (pay : Int) (hn : n ≤ 12) (hp : 0 ≤ pay ∧ pay ≤ 10000) : ∀ (d i : Nat), i + d = n →
    Ev (fun k => impl_NetAfter.l0 k pay (n : Int) (n * pay) (tab n (fun _ => 0)) (tab n (fun j => (j : Int))) (n : Int) (i : Int)) (tab n (fun _ => 0))
  | 0, i, hi => Ev.step (fun _ => impl_NetAfter.l0.eq_2 ..) (Ev.neg (by omega) (Ev.now _))
  | d + 1, i, hi => by
    have ih := netAfter_loop n pay hn hp d (i + 1) (by omega)
    have hm := mul_bd (a := (n : Int)) (A := 12) (b := pay) (B := 10000) (by omega) (by omega) hp.1 hp.2
    have e1 : -pay * (n : Int) = -(n * pay) := by rw [Int.neg_mul, Int.mul_comm]
    refine Ev.step (fun _ => impl_NetAfter.l0.eq_2 ..) (Ev.pos (by omega) (Ev.pos (by omega) (Ev.pos (by rw [tab_length]; omega) ?_)))
    rw [tab_rd (show i < n by omega)]
    refine Ev.pos (by omega) (Ev.pos (by rw [tab_length]; omega) (Ev.bind0 rfl (Ev.pos (by omega) ?_)))
    rw [wrap_nat (by omega), Int.toNat_natCast, tab_set, tab_set, tab_rd (show i < n by omega), if_pos rfl, wrap_id (x := -pay) (by omega) (by omega), e1, wrap_id (x := -(n * pay)) (by omega) (by omega), wrap_id (by omega) (by omega)]
    refine Ev.is (Ev.congr (fun k => ?_) ih) rfl
    congr 1
    refine tab_ext fun j hj => ?_
    split
    · omega
    · rfl
theorem netAfter_ev {n : Nat} {pay : Int} (hn : 1 ≤ n ∧ n ≤ 12) (hp : 0 ≤ pay ∧ pay ≤ 10000) : Ev (fun k => impl_NetAfter.f k (tab n (fun j => (j : Int))) pay (n : Int)) (tab n (fun _ => 0)) := by
  have hd : diffB (tab n (fun j => (j : Int))) n = true := diffB_of (by rw [tab_length]; omega) (by intro x hx; obtain ⟨j, hj, rfl⟩ := mem_tab.1 hx; omega) (tab_nodup n)
  have hvo : Ev (fun k => impl_ValidOrder.f k (tab n (fun j => (j : Int)))) true := by
    refine Ev.congr (fun _ => impl_ValidOrder.f.eq_1 ..) (Ev.pos (by rw [tab_length]; omega) (Ev.pos (by rw [tab_length]; omega) ?_))
    have := differentBelow_ev (tab n (fun j => (j : Int))) n (by omega)
    rw [hd] at this
    rw [tab_length]
    exact Ev.bind this (Ev.now _)
  have hb := pot_bd (n := n) (pay := pay) ⟨hn.1, hn.2, hp.1, hp.2⟩
  have hpo := potOf_yes n pay ⟨hn.1, hn.2, hp.1, hp.2⟩
  refine Ev.congr (fun _ => impl_NetAfter.f.eq_1 ..) ?_
  rw [tab_length]
  refine Ev.bind0 hpo (Ev.bind hvo (Ev.pos rfl (Ev.neg (by omega) (Ev.neg (by omega) (Ev.step (fun _ => impl_NetAfter.j0.eq_2 ..) (Ev.neg (by simp) ?_))))))
  rw [tab_length]
  refine Ev.pos (by omega) (Ev.pos (by omega) ?_)
  rw [Int.toNat_natCast, replicate_tab]
  exact netAfter_loop n pay hn.2 hp n 0 (by omega)
theorem netsM_length (T : List (List Int)) (pay : Int) : (netsM T pay).length ≤ 12 := by
  unfold netsM
  split
  · rename_i h
    have := (okT_iff.1 h).1
    rw [tab_length]; omega
  · simp
theorem none_loop (T : List (List Int)) (pay : Int) (hT : 1 ≤ T.length ∧ T.length ≤ 12) (hp : 0 ≤ pay ∧ pay ≤ 10000) : ∀ (d i : Nat), i + d = T.length →
    Ev (fun k => laws_FnBidNetsNone.l0 k T pay (List.replicate i (List.replicate T.length 0)) (i : Int)) true
  | 0, i, hi => by
    have e : i = T.length := by omega
    subst e
    have hok := okT_zero hT hp
    have ho := bidOrder_ev (List.replicate T.length (List.replicate T.length 0)) pay
    have hn := bidNets_ev (List.replicate T.length (List.replicate T.length 0)) pay
    unfold netsM at hn
    rw [if_pos hok, List.length_replicate, rnd_zero _ _ _ (Nat.le_refl _)] at hn ho
    refine Ev.step (fun _ => laws_FnBidNetsNone.l0.eq_2 ..) (Ev.neg (by omega) (Ev.bind ho (Ev.bind (numbers_ev _ (by omega)) (Ev.bind (equalInts_ev _ _ (by rw [tab_length]; omega)) (Ev.pos (by simp) (Ev.bind hn ?_))))))
    rw [tab_length]
    refine Ev.bind (netAfter_ev hT hp) (Ev.bind (equalInts_ev _ _ (by rw [tab_length]; omega)) (Ev.now' ?_))
    rw [decide_eq_true_iff]
    refine tab_ext fun j hj => ?_
    simp only [if_pos hj]
    rw [Int.mul_comm]
    omega
  | d + 1, i, hi => by
    have ih := none_loop T pay hT hp d (i + 1) (by omega)
    refine Ev.step (fun _ => laws_FnBidNetsNone.l0.eq_2 ..) (Ev.pos (by omega) (Ev.pos (by omega) (Ev.pos (by omega) (Ev.pos (by rw [List.length_replicate]; omega) ?_))))
    rw [wrap_nat (by omega), Int.toNat_natCast, ← List.replicate_succ']
    exact ih
theorem FnBidNetsNone : laws_FnBidNetsNone.Pure := by
  intro l _ _ hw
  apply Ev.rounds
  refine Ev.congr (fun _ => laws_FnBidNetsNone.f.eq_1 ..) (Ev.ite (fun _ => Ev.now _) (fun _ => ?_))
  obtain ⟨T, pay, hd⟩ := drawBids_ev l (fun x hx => by have := hw x hx; simpa [Lit.wf, IntKind.min, IntKind.max, IntKind.bits, IntKind.signed] using this)
  have hlen := netsM_length T pay
  refine Ev.bind hd (Ev.bind (bidNets_ev T pay) (Ev.bind (specBidNets_ev T pay) (Ev.bind (equalInts_ev _ _ (by omega)) (Ev.pos (by simp) ?_))))
  by_cases h : okT T pay = true
  · have h2 := okT_iff.1 h
    have hl : (netsM T pay).length = T.length := by unfold netsM; rw [if_pos h, tab_length]
    rw [hl]
    exact Ev.step (fun _ => laws_FnBidNetsNone.j0.eq_2 ..) (Ev.neg (by rw [beq_eq_false_iff_ne.2 (show (T.length : Int) ≠ 0 by omega)]; decide) (none_loop T pay h2.1 (okT_pay h) T.length 0 (by omega)))
  · have e : netsM T pay = [] := by unfold netsM; rw [if_neg h]
    have hs := specBidNets_ev T pay
    rw [e] at hs ⊢
    exact Ev.step (fun _ => laws_FnBidNetsNone.j0.eq_2 ..) (Ev.pos (by simp) (Ev.bind hs (Ev.bind (equalInts_ev _ _ (by simp)) (Ev.now' (by simp)))))
end Go.Proofs.Ytifohlgdkdcpeaa.Pure
