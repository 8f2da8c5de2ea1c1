import Derived.Test.YtggofaadaepdkaaB4
/- FnExactExplainBooks: mathematics of the law. No condition. -/
set_option linter.unusedVariables false
set_option linter.unusedSimpArgs false
section
set_option linter.unusedVariables false
namespace Go.Refl.Math
open Go Go.Refl Go.RowKit
def E {α : Type} (f : (Nat → Nat) → Option α) (r : α) : Prop := ∃ K, ∀ v : Nat → Nat, (∀ i, K ≤ v i) → f v = some r
variable {α β : Type}
theorem E.now (r : α) : E (fun _ => some r) r := ⟨0, fun _ _ => rfl⟩
theorem E.now' {r r' : α} (h : r = r') : E (fun _ => some r) r' := h ▸ E.now r
theorem E.is {f : (Nat → Nat) → Option α} {r r' : α} (k : E f r) (h : r = r') : E f r' := h ▸ k
theorem E.congr {f g : (Nat → Nat) → Option α} {r : α} (h : ∀ v, f v = g v) (k : E g r) : E f r := by
  obtain ⟨K, k⟩ := k
  exact ⟨K, fun v hv => (h v).trans (k v hv)⟩
theorem E.bind {f : (Nat → Nat) → Option α} {g : (Nat → Nat) → α → Option β} {a : α} {r : β} (h : E f a) (k : E (fun v => g v a) r) : E (fun v => (f v).bind (g v)) r := by
  obtain ⟨K, h⟩ := h
  obtain ⟨L, k⟩ := k
  exact ⟨max K L, fun v hv => by
    show (f v).bind (g v) = some r
    rw [h v (fun i => Nat.le_trans (Nat.le_max_left ..) (hv i))]
    exact k v (fun i => Nat.le_trans (Nat.le_max_right ..) (hv i))⟩
theorem E.pos {c : Prop} [Decidable c] {f g : (Nat → Nat) → Option α} {r : α} (h : c) (k : E f r) : E (fun v => if c then f v else g v) r := by
  obtain ⟨K, k⟩ := k
  exact ⟨K, fun v hv => by simp only [if_pos h]; exact k v hv⟩
theorem E.neg {c : Prop} [Decidable c] {f g : (Nat → Nat) → Option α} {r : α} (h : ¬ c) (k : E g r) : E (fun v => if c then f v else g v) r := by
  obtain ⟨K, k⟩ := k
  exact ⟨K, fun v hv => by simp only [if_neg h]; exact k v hv⟩
theorem E.ite {c : Prop} [Decidable c] {f g : (Nat → Nat) → Option α} {r : α} (h1 : c → E f r) (h2 : ¬ c → E g r) : E (fun v => if c then f v else g v) r := by
  by_cases h : c
  · exact E.pos h (h1 h)
  · exact E.neg h (h2 h)
theorem E.step (i : Nat) {f g : (Nat → Nat) → Option α} {r : α} (h : ∀ v w : Nat → Nat, v i = w i + 1 → (∀ j, j ≠ i → v j = w j) → f v = g w) (k : E g r) : E f r := by
  obtain ⟨K, k⟩ := k
  refine ⟨K + 1, fun v hv => ?_⟩
  have h1 := h v (fun j => if j = i then v i - 1 else v j) (by simp; have := hv i; omega) (fun j hj => by simp [hj])
  rw [h1]
  refine k _ fun j => ?_
  by_cases hj : j = i
  · simp only [hj, if_true]; have := hv i; omega
  · simp only [hj, if_false]; have := hv j; omega
theorem E.ren (σ : Nat → Nat) {f : (Nat → Nat) → Option α} {r : α} (k : E f r) : E (fun v => f (fun i => v (σ i))) r := by
  obtain ⟨K, k⟩ := k
  exact ⟨K, fun v hv => k _ fun i => hv (σ i)⟩
theorem E.one {f : Nat → Option α} {r : α} (k : E (fun v => f (v 0)) r) : ∃ n, f n = some r := by
  obtain ⟨K, k⟩ := k
  exact ⟨K, k (fun _ => K) fun _ => Nat.le_refl _⟩
theorem wrap_id {x : Int} (h1 : -9223372036854775808 ≤ x) (h2 : x ≤ 9223372036854775807) : wrap64 x = x := by unfold wrap64; omega
theorem wrap_nat {n : Nat} (h : n < 4611686018427387904) : wrap64 ((n : Int) + 1) = ((n + 1 : Nat) : Int) := by unfold wrap64; omega
theorem getD_mid {d : α} (pre post : List α) (x : α) : (pre ++ x :: post).getD pre.length d = x := by
  simp [List.getD_eq_getElem?_getD]
theorem getD_mem {xs : List α} {i : Nat} (d : α) (h : i < xs.length) : xs.getD i d ∈ xs := by
  rw [List.getD_eq_getElem?_getD, List.getElem?_eq_getElem h]
  exact List.getElem_mem _
def tab (n : Nat) (h : Nat → α) : List α := (List.range n).map h
theorem tab_length (n : Nat) (h : Nat → α) : (tab n h).length = n := by simp [tab]
theorem tab_get {n i : Nat} {h : Nat → α} (d : α) (hi : i < n) : (tab n h).getD i d = h i := by
  simp [tab, List.getD_eq_getElem?_getD, hi]
theorem tab_set {n : Nat} (i : Nat) {h : Nat → α} (v : α) : (tab n h).set i v = tab n (fun j => if j = i then v else h j) := by
  apply List.ext_getElem?
  intro j
  simp only [tab, List.getElem?_set, List.getElem?_map, List.length_map, List.length_range]
  by_cases hj : j < n
  · by_cases hij : i = j
    · subst hij; simp [hj]
    · simp [hj, hij, Ne.symm hij]
  · by_cases hij : i = j
    · subst hij; simp [hj]
    · simp [hj, hij]
theorem tab_ext {n : Nat} {h h' : Nat → α} (e : ∀ j, j < n → h j = h' j) : tab n h = tab n h' := by
  unfold tab
  exact List.map_congr_left (fun j hj => e j (List.mem_range.1 hj))
theorem tab_succ (n : Nat) (h : Nat → α) : tab (n + 1) h = tab n h ++ [h n] := by simp [tab, List.range_succ]
theorem tab_zero (h : Nat → α) : tab 0 h = [] := rfl
theorem replicate_tab (n : Nat) (v : α) : List.replicate n v = tab n (fun _ => v) := by
  apply List.ext_getElem?
  intro j
  simp [tab, List.getElem?_replicate]
  by_cases hj : j < n <;> simp [hj]
theorem mem_tab {n : Nat} {h : Nat → α} {x : α} : x ∈ tab n h ↔ ∃ j, j < n ∧ h j = x := by simp [tab]
def idxI (xs : List Int) (v : Int) : Int := if v ∈ xs then (xs.idxOf v : Int) else -1
theorem idxI_neg {xs : List Int} {v : Int} : idxI xs v < 0 ↔ v ∉ xs := by
  unfold idxI
  by_cases h : v ∈ xs <;> simp [h]
end Go.Refl.Math
end
section
set_option linter.unusedVariables false
namespace Go.Proofs.YtggofaadaepdkaaG
open Go Go.Refl Go.Refl.Math Go.RowKit
theorem set_midA {α : Type} (pre post : List α) (x y : α) : (pre ++ x :: post).set pre.length y = pre ++ y :: post := by simp
end Go.Proofs.YtggofaadaepdkaaG
end
section
set_option linter.unusedVariables false
namespace Go.Proofs.YtggofaadaepdkaaG
open Go Go.Refl Go.Refl.Math Go.RowKit
theorem inRange_E (n lo hi : Int) : E (fun k => spec_inRange (k 0) (n, lo, hi)) (decide (lo ≤ n) && decide (n ≤ hi)) :=
  E.congr (fun k => spec_inRange.eq (k 0) n lo hi) (E.ite (fun h => E.now' (by simp [h])) (fun h => E.now' (by simp [h])))
theorem index_l2 (v : Int) : ∀ (post pre : List Int), (pre ++ post).length < 4611686018427387904 → v ∉ pre →
    E (fun k => slices_Index_int.l2 (k 0) (k 1) (pre ++ post) v ((pre ++ post).length : Int) (pre.length : Int)) (idxI (pre ++ post) v)
  | [], pre, _, hv => by
    refine E.step 1 (fun v w h1 h2 => by rewrite [h1, h2 0 (by decide)]; exact slices_Index_int.l2_succ ..) ?_
    exact E.neg (by simp) (E.now' (by simp [idxI, hv]))
  | x :: post, pre, hl, hv => by
    refine E.step 1 (fun v w h1 h2 => by rewrite [h1, h2 0 (by decide)]; exact slices_Index_int.l2_succ ..) ?_
    refine E.pos (by simp; omega) (E.pos (by omega) (E.pos (by simp; omega) ?_))
    simp only [Int.toNat_natCast, getD_mid]
    rw [wrap_nat (by simp at hl; omega)]
    refine E.ite (fun h => E.now' ?_) (fun h => ?_)
    · subst h
      simp [idxI, List.idxOf_append, hv]
    · have ih := index_l2 v post (pre ++ [x]) (by simpa using hl) (by simp [hv, h])
      rwa [show (pre ++ [x]).length = pre.length + 1 from by simp, List.append_assoc] at ih
theorem index_E (xs : List Int) (v : Int) (hl : xs.length < 4611686018427387904) : E (fun k => slices_Index_int (k 0) (xs, v)) (idxI xs v) :=
  E.congr (fun k => slices_Index_int.eq (k 0) ..) (E.ren (fun _ => 0) (index_l2 v xs [] (by simpa using hl) (by simp)))
theorem contains_E (xs : List Int) (v : Int) (hl : xs.length < 4611686018427387904) : E (fun k => slices_Contains_int (k 0) (xs, v)) (decide (v ∈ xs)) :=
  E.congr (fun k => slices_Contains_int.eq (k 0) ..) (E.bind (index_E xs v hl) (E.now' (by
    have := @idxI_neg xs v
    by_cases h : v ∈ xs
    · simp only [h, decide_true, decide_eq_true_eq]; have := mt this.1 (by simpa using h); omega
    · simp only [h, decide_false, decide_eq_false_iff_not]; have := this.2 h; omega)))
theorem placeIn_l2 (v : Int) : ∀ (post pre : List Int), (pre ++ post).length < 4611686018427387904 → v ∉ pre →
    E (fun k => spec_placeIn.l2 (k 0) (k 1) (pre ++ post) v (pre.length : Int)) (idxI (pre ++ post) v)
  | [], pre, _, hv => by
    refine E.step 1 (fun v w h1 h2 => by rewrite [h1, h2 0 (by decide)]; exact spec_placeIn.l2_succ ..) ?_
    exact E.neg (by simp) (E.now' (by simp [idxI, hv]))
  | x :: post, pre, hl, hv => by
    refine E.step 1 (fun v w h1 h2 => by rewrite [h1, h2 0 (by decide)]; exact spec_placeIn.l2_succ ..) ?_
    refine E.pos (by simp; omega) (E.pos (by omega) (E.pos (by simp; omega) ?_))
    simp only [Int.toNat_natCast, getD_mid]
    rw [wrap_nat (by simp at hl; omega)]
    refine E.ite (fun h => E.now' ?_) (fun h => ?_)
    · subst h
      simp [idxI, List.idxOf_append, hv]
    · have ih := placeIn_l2 v post (pre ++ [x]) (by simpa using hl) (by simp [hv, Ne.symm h])
      rwa [show (pre ++ [x]).length = pre.length + 1 from by simp, List.append_assoc] at ih
theorem placeIn_E (xs : List Int) (v : Int) (hl : xs.length < 4611686018427387904) : E (fun k => spec_placeIn (k 0) (xs, v)) (idxI xs v) :=
  E.congr (fun k => spec_placeIn.eq (k 0) ..) (E.ren (fun _ => 0) (placeIn_l2 v xs [] (by simpa using hl) (by simp)))
end Go.Proofs.YtggofaadaepdkaaG
end
section
set_option linter.unusedVariables false
namespace Go.Proofs.YtggofaadaepdkaaG
open Go Go.Refl Go.Refl.Math Go.RowKit
theorem specCopyInts_E (xs : List Int) (h : xs.length ≤ 1000000000) : E (fun k => spec_copyInts (k 0) xs) xs :=
  E.congr (fun k => spec_copyInts.eq (k 0) xs) (E.pos (by simp [maxN]; omega) (E.now' (by simp)))
end Go.Proofs.YtggofaadaepdkaaG
end
section
set_option linter.unusedVariables false
namespace Go.Proofs.YtggofaadaepdkaaG
open Go Go.Refl Go.Refl.Math Go.RowKit
abbrev Ent := Int × Int × Int × Int
def vE (e : Ent) : Bool := decide (0 ≤ e.1 ∧ e.1 ≤ 999 ∧ (0 ≤ e.2.1 ∧ e.2.1 ≤ 7) ∧ (0 ≤ e.2.2.1 ∧ e.2.2.1 ≤ 7) ∧ e.2.1 ≠ e.2.2.1 ∧ 1 ≤ e.2.2.2 ∧ e.2.2.2 ≤ 1000000)
theorem vE_iff {e : Ent} : vE e = true ↔ 0 ≤ e.1 ∧ e.1 ≤ 999 ∧ (0 ≤ e.2.1 ∧ e.2.1 ≤ 7) ∧ (0 ≤ e.2.2.1 ∧ e.2.2.1 ≤ 7) ∧ e.2.1 ≠ e.2.2.1 ∧ 1 ≤ e.2.2.2 ∧ e.2.2.2 ≤ 1000000 := decide_eq_true_iff
def vEs (l : List Ent) : Bool := decide (l.length ≤ 40) && l.all vE
theorem vEs_iff {l : List Ent} : vEs l = true ↔ l.length ≤ 40 ∧ ∀ e ∈ l, vE e = true := by
  unfold vEs; rw [Bool.and_eq_true, decide_eq_true_iff, List.all_eq_true]
theorem specInR_E (n lo hi : Int) : E (fun k => spec_inRange (k 0) (n, lo, hi)) (decide (lo ≤ n ∧ n ≤ hi)) :=
  E.is (inRange_E n lo hi) (by rw [Bool.eq_iff_iff]; simp)
theorem specValidEntry_E (e : Ent) : E (fun k => spec_validEntry (k 0) e) (vE e) := by
  have no : ¬ (0 ≤ e.1 ∧ e.1 ≤ 999 ∧ (0 ≤ e.2.1 ∧ e.2.1 ≤ 7) ∧ (0 ≤ e.2.2.1 ∧ e.2.2.1 ≤ 7) ∧ e.2.1 ≠ e.2.2.1 ∧ 1 ≤ e.2.2.2 ∧ e.2.2.2 ≤ 1000000) → false = vE e := fun h => (decide_eq_false h).symm
  refine E.congr (fun k => spec_validEntry.eq (k 0) e) (E.bind (specInR_E ..) (E.ite (fun h1 => E.bind (specInR_E ..) (E.ite (fun h2 => E.bind (specInR_E ..) (E.ite (fun h3 => E.ite (fun h4 => E.now' (no ?_)) (fun h4 => E.bind (specInR_E ..) (E.now' ?_))) (fun h => E.now' (no ?_)))) (fun h => E.now' (no ?_)))) (fun h => E.now' (no ?_))))
  · exact fun g => g.2.2.2.2.1 h4
  · simp only [decide_eq_true_eq] at h1 h2 h3
    unfold vE
    rw [decide_eq_decide]
    omega
  · simp only [decide_eq_true_eq] at h; omega
  · simp only [decide_eq_true_eq] at h; omega
  · simp only [decide_eq_true_eq] at h; omega
theorem implAccount_E (x : Int) : E (fun k => impl_validAccount (k 0) x) (decide (0 ≤ x ∧ x ≤ 7)) :=
  E.congr (fun k => impl_validAccount.eq (k 0) x) (E.ite (fun h => E.now' (by rw [decide_eq_decide]; omega)) (fun h => E.now' (by symm; rw [decide_eq_false_iff_not]; omega)))
theorem implValidEntry_E (e : Ent) : E (fun k => impl_validEntry (k 0) e) (vE e) := by
  have no : ¬ (0 ≤ e.1 ∧ e.1 ≤ 999 ∧ (0 ≤ e.2.1 ∧ e.2.1 ≤ 7) ∧ (0 ≤ e.2.2.1 ∧ e.2.2.1 ≤ 7) ∧ e.2.1 ≠ e.2.2.1 ∧ 1 ≤ e.2.2.2 ∧ e.2.2.2 ≤ 1000000) → false = vE e := fun h => (decide_eq_false h).symm
  refine E.congr (fun k => impl_validEntry.eq (k 0) e) (E.ite (fun h => E.now' (no (by omega))) fun h1 => E.ite (fun h => E.now' (no (by omega))) fun h2 => E.ite (fun h => E.now' (no (by omega))) fun h3 => E.ite (fun h => E.now' (no (by omega))) fun h4 => E.bind (implAccount_E _) (E.ite (fun h5 => E.bind (implAccount_E _) (E.ite (fun h6 => E.now' ?_) (fun h => E.now' (no ?_)))) (fun h => E.now' (no ?_))))
  · simp only [decide_eq_true_eq] at h5 h6
    rw [Bool.eq_iff_iff, vE_iff]
    simp
    omega
  · simp only [decide_eq_true_eq] at h; omega
  · simp only [decide_eq_true_eq] at h; omega
theorem implValidEntries_l4 : ∀ (post pre : List Ent), (pre ++ post).length ≤ 1000000 →
    E (fun k => impl_ValidEntries.l4 (k 0) (k 1) (pre ++ post) ((pre ++ post).length : Int) (pre.length : Int)) (post.all vE)
  | [], pre, _ => by
    refine E.step 1 (fun v w h1 h2 => by rewrite [h1, h2 0 (by decide)]; exact impl_ValidEntries.l4_succ ..) ?_
    exact E.neg (by simp) (E.now _)
  | x :: post, pre, hl => by
    have hlen : (pre ++ x :: post).length = pre.length + (post.length + 1) := by simp
    have ih := implValidEntries_l4 post (pre ++ [x]) (by simpa using hl)
    rw [show (pre ++ [x]).length = pre.length + 1 from by simp, List.append_assoc] at ih
    refine E.step 1 (fun v w h1 h2 => by rewrite [h1, h2 0 (by decide)]; exact impl_ValidEntries.l4_succ ..) ?_
    simp only [Int.toNat_natCast, getD_mid]
    (repeat first | (with_reducible refine E.pos ?_ ?_; · omega) | (with_reducible refine E.neg ?_ ?_; · omega))
    refine E.bind (implValidEntry_E x) (E.ite (fun h => E.now' ?_) (fun h => ?_))
    · simp only [Bool.not_eq_true'] at h
      rw [List.all_cons, h, Bool.false_and]
    · simp only [Bool.not_eq_true', Bool.not_eq_false] at h
      rw [wrap_nat (by omega)]
      exact E.is ih (by rw [List.all_cons, h, Bool.true_and])
theorem implValidEntries_E (l : List Ent) : E (fun k => impl_ValidEntries (k 0) l) (vEs l) := by
  refine E.congr (fun k => impl_ValidEntries.eq (k 0) l) (E.ite (fun h => E.now' ?_) (fun h => ?_))
  · unfold vEs; rw [decide_eq_false (by omega), Bool.false_and]
  · refine E.is (E.ren (fun _ => 0) (implValidEntries_l4 l [] (by simp; omega))) ?_
    unfold vEs; rw [decide_eq_true (by omega), Bool.true_and]
theorem specValidEntries_l2 : ∀ (post pre : List Ent), (pre ++ post).length < 4611686018427387904 →
    E (fun k => spec_validEntries.l2 (k 0) (k 1) (pre ++ post) (pre.length : Int)) (decide ((pre ++ post).length ≤ 40) && post.all vE)
  | [], pre, _ => by
    refine E.step 1 (fun v w h1 h2 => by rewrite [h1, h2 0 (by decide)]; exact spec_validEntries.l2_succ ..) ?_
    exact E.neg (by simp) (E.now' (by simp; omega))
  | x :: post, pre, hl => by
    have hlen : (pre ++ x :: post).length = pre.length + (post.length + 1) := by simp
    have ih := specValidEntries_l2 post (pre ++ [x]) (by simpa using hl)
    rw [show (pre ++ [x]).length = pre.length + 1 from by simp, List.append_assoc] at ih
    refine E.step 1 (fun v w h1 h2 => by rewrite [h1, h2 0 (by decide)]; exact spec_validEntries.l2_succ ..) ?_
    simp only [Int.toNat_natCast, getD_mid]
    (repeat first | (with_reducible refine E.pos ?_ ?_; · omega) | (with_reducible refine E.neg ?_ ?_; · omega))
    refine E.bind (specValidEntry_E x) (E.ite (fun h => E.now' ?_) (fun h => ?_))
    · simp only [Bool.not_eq_true'] at h
      rw [List.all_cons, h, Bool.false_and, Bool.and_false]
    · simp only [Bool.not_eq_true', Bool.not_eq_false] at h
      rw [wrap_nat (by omega)]
      exact E.is ih (by rw [List.all_cons, h, Bool.true_and]; simp)
theorem specValidEntries_E (l : List Ent) (hl : l.length < 4611686018427387904) : E (fun k => spec_validEntries (k 0) l) (vEs l) :=
  E.congr (fun k => spec_validEntries.eq (k 0) l) (E.ren (fun _ => 0) (specValidEntries_l2 l [] (by simpa using hl)))
end Go.Proofs.YtggofaadaepdkaaG
end
section
set_option linter.unusedVariables false
namespace Go.Proofs.YtggofaadaepdkaaG
open Go Go.Refl Go.Refl.Math Go.RowKit
theorem set_one' (x : Int) : List.set (List.replicate 1 (0 : Int)) 0 x = [x] := rfl
def digs (x k : Nat) : List Int := tab (k + 1) fun i => ((x / 10 ^ (k - i) % 10 : Nat) : Int)
theorem digs_succ (x k : Nat) : digs x (k + 1) = digs (x / 10) k ++ [((x % 10 : Nat) : Int)] := by
  unfold digs
  rw [tab_succ]
  congr 1
  · refine tab_ext fun j hj => ?_
    rw [Nat.div_div_eq_div_mul, ← Nat.pow_succ', show (k - j).succ = k + 1 - j by omega]
  · rw [Nat.sub_self, Nat.pow_zero, Nat.div_one]
theorem digs_len (x k : Nat) : (digs x k).length = k + 1 := tab_length ..
theorem digits_E : ∀ (k x : Nat), x < 10 ^ (k + 1) → (k = 0 ∨ 10 ^ k ≤ x) → x ≤ 1000000000 → k ≤ 100 → E (fun v => spec_digits (v 0) (x : Int)) (digs x k)
  | 0, x, h1, _, _, _ => by
    refine E.step 0 (fun v w h1 h2 => by rewrite [h1]; exact spec_digits.succ ..) (E.congr (fun v => spec_digits.eq ..) (E.pos (by omega) (E.now' ?_)))
    rw [set_one']
    unfold digs
    rw [tab_succ, tab_zero, Nat.sub_self, Nat.pow_zero, Nat.div_one, Nat.mod_eq_of_lt (by omega)]
    rfl
  | k + 1, x, h1, h2, h3, h4 => by
    have h2' : 10 ^ (k + 1) ≤ x := by
      rcases h2 with h | h
      · omega
      · exact h
    have hp : 0 < 10 ^ k := Nat.pow_pos (by decide)
    rw [Nat.pow_succ] at h2'
    rw [Nat.pow_succ] at h1
    have ih := digits_E k (x / 10) (by omega) (by right; omega) (by omega) (by omega)
    refine E.step 0 (fun v w h1 h2 => by rewrite [h1]; exact spec_digits.succ ..) (E.congr (fun v => spec_digits.eq ..) (E.neg (by omega) ?_))
    rw [Int.tdiv_eq_ediv_of_nonneg (by omega), wrap_id (by omega) (by omega), Int.tmod_eq_emod_of_nonneg (by omega), show (x : Int) / 10 = ((x / 10 : Nat) : Int) by omega, show (x : Int) % 10 = ((x % 10 : Nat) : Int) by omega, set_one']
    refine E.bind ih (E.pos (by rw [digs_len]; simp [maxN]; omega) (E.now' ?_))
    rw [digs_succ]
def val (l : List Int) : Int := l.foldl (fun a d => 10 * a + d) 0
theorem val_acc : ∀ (l : List Int) (a : Int), l.foldl (fun a d => 10 * a + d) a = a * 10 ^ l.length + val l
  | [], a => by simp [val]
  | d :: l, a => by
    simp only [List.foldl_cons, List.length_cons, val]
    rw [val_acc l (10 * a + d), val_acc l (10 * 0 + d), Int.pow_succ]
    rw [Int.add_mul, Int.mul_zero, Int.zero_add, Int.mul_comm 10 a, Int.mul_assoc, Int.mul_comm 10 (10 ^ l.length)]
    omega
theorem val_app (a b : List Int) : val (a ++ b) = val a * 10 ^ b.length + val b := by
  unfold val
  rw [List.foldl_append, val_acc]
  rfl
def Dig (l : List Int) : Prop := ∀ d ∈ l, 0 ≤ d ∧ d ≤ 9
theorem digs_dig (x k : Nat) : Dig (digs x k) := fun d hd => by
  obtain ⟨j, _, rfl⟩ := mem_tab.1 hd
  omega
theorem val_bd : ∀ (l : List Int), Dig l → 0 ≤ val l ∧ val l < 10 ^ l.length
  | [], _ => by simp [val]
  | d :: l, h => by
    have ih := val_bd l (fun x hx => h x (List.mem_cons_of_mem _ hx))
    have hd := h d (List.mem_cons_self ..)
    have e : val (d :: l) = d * 10 ^ l.length + val l := by
      have := val_app [d] l
      rw [List.singleton_append] at this
      rw [this]; simp [val]
    rw [e, List.length_cons, Int.pow_succ]
    have hp : (0 : Int) < 10 ^ l.length := Int.pow_pos (by decide)
    have h1 : 0 ≤ d * 10 ^ l.length := Int.mul_nonneg hd.1 (by omega)
    have h2 : d * 10 ^ l.length ≤ 9 * 10 ^ l.length := Int.mul_le_mul_of_nonneg_right hd.2 (by omega)
    generalize (10 : Int) ^ l.length = q at *
    omega
theorem pow_le {n : Nat} (h : n ≤ 12) : (10 : Int) ^ n ≤ 1000000000000 := by
  have : (10 : Nat) ^ n ≤ 10 ^ 12 := Nat.pow_le_pow_right (by decide) h
  have e : ((10 ^ n : Nat) : Int) = (10 : Int) ^ n := by simp
  rw [← e]; omega
theorem valueOf_l3 (hL : Nat) (hL2 : hL ≤ 12) : ∀ (post pre : List Int), (pre ++ post).length = hL → Dig (pre ++ post) →
    E (fun k => spec_valueOf.l3 (k 0) (k 1) (pre ++ post) (val pre) (pre.length : Int)) (val (pre ++ post))
  | [], pre, hl, hd => by
    refine E.step 1 (fun v w h1 h2 => by rewrite [h1, h2 0 (by decide)]; exact spec_valueOf.l3_succ ..) ?_
    exact E.neg (by simp) (E.now' (by simp))
  | x :: post, pre, hl, hd => by
    have hlen : (pre ++ x :: post).length = pre.length + (post.length + 1) := by simp
    have ih := valueOf_l3 hL hL2 post (pre ++ [x]) (by simpa using hl) (by simpa using hd)
    rw [show (pre ++ [x]).length = pre.length + 1 from by simp, List.append_assoc] at ih
    have hb := val_bd pre (fun d h => hd d (by simp [h]))
    have hp := pow_le (n := pre.length) (by omega)
    have hx := hd x (by simp)
    refine E.step 1 (fun v w h1 h2 => by rewrite [h1, h2 0 (by decide)]; exact spec_valueOf.l3_succ ..) ?_
    simp only [Int.toNat_natCast, getD_mid]
    (repeat first | (with_reducible refine E.pos ?_ ?_; · omega) | (with_reducible refine E.neg ?_ ?_; · omega))
    rw [wrap_nat (by omega), wrap_id (x := 10 * val pre) (by omega) (by omega), wrap_id (by omega) (by omega)]
    have e : val (pre ++ [x]) = 10 * val pre + x := by rw [val_app]; simp [val]; omega
    rw [e] at ih
    exact ih
theorem valueOf_E (l : List Int) (hl : l.length ≤ 12) (hd : Dig l) : E (fun k => spec_valueOf (k 0) l) (val l) :=
  E.congr (fun k => spec_valueOf.eq (k 0) l) (E.ren (fun _ => 0) (valueOf_l3 l.length hl l [] (by simp) (by simpa using hd)))
def swQ : List Int → List Int → List Int
  | A, l :: r :: B => (if 0 < (A ++ r :: l :: B).getD 0 0 ∧ l ≠ r then [val (A ++ r :: l :: B)] else []) ++ swQ (A ++ [l]) (r :: B)
  | _, _ => []
theorem Dig.swap {A B : List Int} {l r : Int} (hd : Dig (A ++ l :: r :: B)) : Dig (A ++ r :: l :: B) := fun d h => hd d (by
  simp only [List.mem_append, List.mem_cons] at h ⊢
  rcases h with h | h | h | h
  · exact .inl h
  · exact .inr (.inr (.inl h))
  · exact .inr (.inl h)
  · exact .inr (.inr (.inr h)))
theorem swQ_len : ∀ (B A : List Int), (swQ A B).length ≤ B.length
  | [], A => by simp [swQ]
  | [x], A => by simp [swQ]
  | l :: r :: B, A => by
    have := swQ_len (r :: B) (A ++ [l])
    simp only [swQ, List.length_append, List.length_cons] at this ⊢
    split <;> simp <;> omega
theorem swaps_l4 (hL : Nat) (hL2 : hL ≤ 12) : ∀ (B A out : List Int), (A ++ B).length = hL → B ≠ [] → Dig (A ++ B) → out.length ≤ A.length →
    E (fun k => spec_swaps.l4 (k 0) (k 1) (A.length : Int) out (A ++ B)) (out ++ swQ A B)
  | [], A, out, hl, hB, hd, ho => absurd rfl hB
  | [x], A, out, hl, hB, hd, ho => by
    have hlen : (A ++ [x]).length = A.length + 1 := by simp
    refine E.step 1 (fun v w h1 h2 => by rewrite [h1, h2 0 (by decide)]; exact spec_swaps.l4_succ ..) ?_
    refine E.neg (by rw [wrap_nat (by omega)]; omega) (E.now' (by simp [swQ]))
  | l :: r :: B, A, out, hl, hB, hd, ho => by
    have hlen : (A ++ l :: r :: B).length = A.length + (B.length + 2) := by simp
    have hd2 : Dig (A ++ r :: l :: B) := hd.swap
    have g1 : (A ++ l :: r :: B).getD A.length 0 = l := getD_mid ..
    have g2 : (A ++ l :: r :: B).getD (A.length + 1) 0 = r := by
      have := getD_mid (d := (0 : Int)) (A ++ [l]) B r
      rw [List.append_assoc] at this
      simp only [List.length_append, List.length_cons, List.length_nil, Nat.zero_add, List.cons_append, List.nil_append] at this
      exact this
    have s1 : ((A ++ l :: r :: B).set A.length r).set (A.length + 1) l = A ++ r :: l :: B := by
      rw [List.set_append_right _ _ (Nat.le_refl _), Nat.sub_self, List.set_cons_zero, List.set_append_right _ _ (by omega), show A.length + 1 - A.length = 1 by omega]
      rfl
    have ih := fun o ho' => swaps_l4 hL hL2 (r :: B) (A ++ [l]) o (by simpa using hl) (by simp) (by simpa using hd) ho'
    simp only [show (A ++ [l]).length = A.length + 1 from by simp, List.append_assoc, List.cons_append, List.nil_append] at ih
    refine E.step 1 (fun v w h1 h2 => by rewrite [h1, h2 0 (by decide)]; exact spec_swaps.l4_succ ..) ?_
    rw [wrap_nat (by omega)]
    simp only [Int.toNat_natCast, g1, g2, List.length_set]
    refine E.pos (by omega) (E.bind (E.ren (fun _ => 0) (specCopyInts_E _ (by omega))) ?_)
    simp only [s1]
    (repeat first | (with_reducible refine E.pos ?_ ?_; · omega) | (with_reducible refine E.neg ?_ ?_; · omega))
    have no : (¬ (0 < (A ++ r :: l :: B).getD 0 0 ∧ l ≠ r)) → E (fun k => spec_swaps.l4 (k 0) (k 1) ((A.length + 1 : Nat) : Int) out (A ++ l :: r :: B)) (out ++ swQ A (l :: r :: B)) := fun h => by
      simp only [swQ]; rw [if_neg h, List.nil_append]
      exact ih out (by omega)
    refine E.ite (fun h1 => ?_) (fun h1 => no (fun h => h1 h.1))
    (repeat first | (with_reducible refine E.pos ?_ ?_; · omega) | (with_reducible refine E.neg ?_ ?_; · omega))
    refine E.ite (fun h2 => no (fun h => h.2 h2)) (fun h2 => ?_)
    refine E.bind (E.ren (fun _ => 0) (valueOf_E _ (by rw [show (A ++ r :: l :: B).length = A.length + (B.length + 2) from by simp]; omega) hd2)) (E.pos (by simp [maxN]; omega) ?_)
    rw [set_one']
    simp only [swQ]
    rw [if_pos ⟨h1, h2⟩, ← List.append_assoc]
    exact ih _ (by simp; omega)
def lg (x : Nat) : Nat := if x < 10 then 0 else if x < 100 then 1 else if x < 1000 then 2 else if x < 10000 then 3 else if x < 100000 then 4 else if x < 1000000 then 5 else if x < 10000000 then 6 else if x < 100000000 then 7 else 8
theorem lg_ok {x : Nat} (h : x < 1000000000) : lg x ≤ 8 ∧ x < 10 ^ (lg x + 1) ∧ (lg x = 0 ∨ 10 ^ lg x ≤ x) := by
  unfold lg
  (repeat' split) <;> refine ⟨by omega, by omega, ?_⟩ <;> first | exact .inl rfl | exact .inr (by omega)
def swV (x : Int) : List Int := swQ [] (digs x.toNat (lg x.toNat))
theorem swaps_E (x : Int) (h0 : 0 ≤ x) (h1 : x < 1000000000) : E (fun k => spec_swaps (k 0) x) (swV x) := by
  obtain ⟨n, rfl⟩ : ∃ n : Nat, x = n := ⟨x.toNat, by omega⟩
  obtain ⟨k1, k2, k3⟩ := lg_ok (x := n) (by omega)
  refine E.congr (fun k => spec_swaps.eq (k 0) _) (E.bind (digits_E (lg n) n k2 k3 (by omega) (by omega)) ?_)
  have := swaps_l4 (lg n + 1) (by omega) (digs n (lg n)) [] [] (by rw [List.nil_append, digs_len]) (List.ne_nil_of_length_pos (by rw [digs_len]; omega)) (by simpa using digs_dig n (lg n)) (by simp)
  exact E.ren (fun _ => 0) this
theorem swV_len (x : Int) : (swV x).length ≤ 9 := by
  have h1 := swQ_len (digs x.toNat (lg x.toNat)) []
  rw [digs_len] at h1
  have : lg x.toNat ≤ 8 := by unfold lg; (repeat' split) <;> omega
  show (swQ [] _).length ≤ 9
  omega
end Go.Proofs.YtggofaadaepdkaaG
end
section
set_option linter.unusedVariables false
namespace Go.Proofs.YtggofaadaepdkaaG
open Go Go.Refl Go.Refl.Math Go.RowKit
abbrev zE : Ent := (0, 0, 0, 0)
abbrev Fnd := Int × Ent × Ent
theorem set_oneN (x : Ent) : List.set (List.replicate 1 ((0 : Int), (0 : Int), (0 : Int), (0 : Int))) 0 x = [x] := rfl
def fnd (p : Ent → Bool) : List Ent → (Nat → Bool) → Option Nat
  | [], _ => none
  | x :: b, u => if u 0 = false ∧ p x = true then some 0 else (fnd p b fun j => u (j + 1)).map (· + 1)
def remU : List Ent → (Nat → Bool) → List Ent
  | [], _ => []
  | x :: b, u => if u 0 = false then x :: remU b fun j => u (j + 1) else remU b fun j => u (j + 1)
def upd (u : Nat → Bool) (k : Nat) (j : Nat) : Bool := if j = k then true else u j
theorem remU_free : ∀ b : List Ent, remU b (fun _ => false) = b
  | [] => rfl
  | x :: b => by simp [remU, remU_free b]
theorem fnd_none {p : Ent → Bool} : ∀ {b : List Ent} {u : Nat → Bool}, fnd p b u = none → (remU b u).find? p = none ∧ (remU b u).eraseP p = remU b u
  | [], _, _ => ⟨rfl, rfl⟩
  | x :: b, u, h => by
    simp only [fnd] at h
    split at h
    · cases h
    · rename_i hc
      rw [Option.map_eq_none_iff] at h
      obtain ⟨h1, h2⟩ := fnd_none h
      simp only [remU]
      split
      · rename_i h0
        have hp : p x = false := by
          cases hx : p x with
          | false => rfl
          | true => exact absurd ⟨h0, hx⟩ hc
        exact ⟨by rw [List.find?_cons, hp]; exact h1, by rw [List.eraseP_cons, hp]; simp [h2]⟩
      · exact ⟨h1, h2⟩
theorem fnd_some {p : Ent → Bool} : ∀ {b : List Ent} {u : Nat → Bool} {k : Nat}, fnd p b u = some k → k < b.length ∧ u k = false ∧ p (b.getD k zE) = true ∧ (remU b u).find? p = some (b.getD k zE) ∧ remU b (upd u k) = (remU b u).eraseP p
  | [], _, _, h => by cases h
  | x :: b, u, k, h => by
    simp only [fnd] at h
    split at h
    · rename_i hc
      cases h
      refine ⟨by simp, hc.1, by simpa using hc.2, ?_, ?_⟩
      · simp only [remU]; rw [if_pos hc.1, List.find?_cons, hc.2]; simp
      · simp only [remU]
        rw [if_pos hc.1, if_neg (by simp [upd]), List.eraseP_cons, hc.2]
        simp only [cond_true]
        congr 1
    · rename_i hc
      obtain ⟨k', h', rfl⟩ := Option.map_eq_some_iff.1 h
      obtain ⟨g1, g2, g3, g4, g5⟩ := fnd_some h'
      refine ⟨by simp; omega, g2, by simpa using g3, ?_, ?_⟩
      · simp only [remU]
        split
        · rename_i h0
          have hp : p x = false := by
            cases hx : p x with
            | false => rfl
            | true => exact absurd ⟨h0, hx⟩ hc
          rw [List.find?_cons, hp]
          simpa using g4
        · simpa using g4
      · have e0 : upd u (k' + 1) 0 = u 0 := by simp [upd]
        have e1 : (fun j => upd u (k' + 1) (j + 1)) = upd (fun j => u (j + 1)) k' := funext fun j => by simp [upd]
        simp only [remU]
        rw [e0, e1, g5]
        split
        · rename_i h0
          have hp : p x = false := by
            cases hx : p x with
            | false => rfl
            | true => exact absurd ⟨h0, hx⟩ hc
          rw [List.eraseP_cons, hp]; rfl
        · rfl
theorem fnd_shift {p : Ent → Bool} (x : Ent) (post : List Ent) (u : Nat → Bool) (i : Nat) : fnd p (x :: post) (fun j => u (i + j)) = if u i = false ∧ p x = true then some 0 else (fnd p post fun j => u (i + 1 + j)).map (· + 1) := by
  simp only [fnd, Nat.add_zero]
  have : (fun j => u (i + (j + 1))) = fun j => u (i + 1 + j) := funext fun j => by congr 1; omega
  rw [this]
def parU (b : List Ent) : List Ent → (Nat → Bool) → List Int
  | [], _ => []
  | e :: a, u => match fnd (fun x => decide (x = e)) b u with
    | none => -1 :: parU b a u
    | some k => (k : Int) :: parU b a (upd u k)
theorem parU_len (b : List Ent) : ∀ (a : List Ent) (u : Nat → Bool), (parU b a u).length = a.length
  | [], _ => rfl
  | e :: a, u => by
    simp only [parU]
    split <;> simp [parU_len b a]
theorem upd_tab (n : Nat) (u : Nat → Bool) (k : Nat) : (tab n u).set k true = tab n (upd u k) := by rw [tab_set]; rfl
theorem partners_l8 (a b : List Ent) (hb : b.length ≤ 1000) (e : Ent) (j : Nat) (hj : a.getD j zE = e) (hj2 : j < a.length) (u : Nat → Bool) (out : List Int) (ho : out.length ≤ 1000) (r : List Int)
    (n0 : fnd (fun x => decide (x = e)) b u = none → E (fun k => spec_partners.l4 (k 0) (k 1) a b (wrap64 ((j : Int) + 1)) (tab b.length u) (out ++ [-1])) r)
    (n1 : ∀ m, fnd (fun x => decide (x = e)) b u = some m → E (fun k => spec_partners.l4 (k 0) (k 1) a b (wrap64 ((j : Int) + 1)) (tab b.length (upd u m)) (out ++ [(m : Int)])) r) : ∀ (post pre : List Ent), pre ++ post = b →
    fnd (fun x => decide (x = e)) b u = (fnd (fun x => decide (x = e)) post fun i => u (pre.length + i)).map (· + pre.length) →
    E (fun k => spec_partners.l8 (k 0) (k 1) (k 2) a b (j : Int) (-1) (pre.length : Int) (tab b.length u) out) r
  | [], pre, hp, hf => by
    have e1 : pre = b := by simpa using hp
    refine E.step 2 (fun v w h1 h2 => by rewrite [h1, h2 0 (by decide), h2 1 (by decide)]; exact spec_partners.l8_succ ..) ?_
    rw [set_one']
    refine E.neg (by rw [e1]; omega) (E.pos (by simp [maxN]; omega) (n0 hf))
  | x :: post, pre, hp, hf => by
    have hpl : pre.length < b.length := by rw [← hp]; simp
    have hx : b.getD pre.length zE = x := by rw [← hp]; exact getD_mid ..
    rw [fnd_shift] at hf
    have ih := partners_l8 a b hb e j hj hj2 u out ho r n0 n1 post (pre ++ [x]) (by simpa using hp)
    rw [show (pre ++ [x]).length = pre.length + 1 from by simp] at ih
    have next : ¬ (u pre.length = false ∧ x = e) → E (fun k => spec_partners.l8 (k 0) (k 1) (k 2) a b (j : Int) (-1) ((pre.length + 1 : Nat) : Int) (tab b.length u) out) r := fun hn => by
      rw [if_neg (by simpa using hn), Option.map_map] at hf
      refine ih (hf.trans ?_)
      congr 1
      funext i
      simp; omega
    refine E.step 2 (fun v w h1 h2 => by rewrite [h1, h2 0 (by decide), h2 1 (by decide)]; exact spec_partners.l8_succ ..) ?_
    simp only [Int.toNat_natCast, tab_length, tab_get _ hpl, hx, hj]
    rw [wrap_nat (n := pre.length) (by omega)]
    refine E.pos (by omega) (E.pos (by omega) (E.pos (by omega) (E.pos (by omega) (E.ite (fun h => ?_) (fun h => next (fun hh => h (by rw [hh.1]; rfl)))))))
    have hu : u pre.length = false := by simpa using h
    (repeat first | (with_reducible refine E.pos ?_ ?_; · omega) | (with_reducible refine E.neg ?_ ?_; · omega))
    refine E.ite (fun h2 => ?_) (fun h2 => next (fun hh => h2 hh.2.symm))
    have hf' : fnd (fun x => decide (x = e)) b u = some pre.length := by rw [hf, if_pos ⟨hu, by simp [h2]⟩]; simp
    (repeat first | (with_reducible refine E.pos ?_ ?_; · omega) | (with_reducible refine E.neg ?_ ?_; · omega))
    rw [upd_tab]
    refine E.step 2 (fun v w h1 h2 => by rewrite [h1, h2 0 (by decide), h2 1 (by decide)]; exact spec_partners.l8_succ ..) ?_
    rw [set_one']
    refine E.ite (fun _ => E.neg (by omega) (E.pos (by simp [maxN]; omega) (n1 _ hf'))) (fun _ => E.pos (by simp [maxN]; omega) (n1 _ hf'))
theorem partners_l4 (b : List Ent) (hb : b.length ≤ 1000) : ∀ (post pre : List Ent) (u : Nat → Bool) (out : List Int), (pre ++ post).length ≤ 900 → out.length = pre.length →
    E (fun k => spec_partners.l4 (k 0) (k 1) (pre ++ post) b (pre.length : Int) (tab b.length u) out) (out ++ parU b post u)
  | [], pre, u, out, hl, ho => by
    refine E.step 1 (fun v w h1 h2 => by rewrite [h1, h2 0 (by decide)]; exact spec_partners.l4_succ ..) ?_
    exact E.neg (by simp) (E.now' (by simp [parU]))
  | e :: post, pre, u, out, hl, ho => by
    have hlen : (pre ++ e :: post).length = pre.length + (post.length + 1) := by simp
    have ih := fun u' o (ho' : o.length = pre.length + 1) => partners_l4 b hb post (pre ++ [e]) u' o (by simpa using hl) (by simpa using ho')
    simp only [show (pre ++ [e]).length = pre.length + 1 from by simp, List.append_assoc, List.cons_append, List.nil_append] at ih
    refine E.step 1 (fun v w h1 h2 => by rewrite [h1, h2 0 (by decide)]; exact spec_partners.l4_succ ..) ?_
    refine E.pos (by omega) ?_
    refine E.ren (fun i => if i = 2 then 0 else i) (partners_l8 (pre ++ e :: post) b hb e pre.length (getD_mid ..) (by omega) u out (by omega) _ ?_ ?_ b [] rfl (by simp))
    · intro hf
      have := ih u (out ++ [-1]) (by simp [ho])
      rw [wrap_nat (by omega)]
      refine E.is this ?_
      simp only [parU, hf]; simp
    · intro m hf
      have := ih (upd u m) (out ++ [(m : Int)]) (by simp [ho])
      rw [wrap_nat (by omega)]
      refine E.is this ?_
      simp only [parU, hf]; simp
theorem partners_E (a b : List Ent) (ha : a.length ≤ 900) (hb : b.length ≤ 900) : E (fun k => spec_partners (k 0) (a, b)) (parU b a fun _ => false) := by
  refine E.congr (fun k => spec_partners.eq (k 0) a b) (E.pos (by omega) (E.pos (by omega) (E.pos (by simp only [maxN]; omega) ?_)))
  rw [Int.toNat_natCast, replicate_tab]
  exact E.ren (fun _ => 0) (partners_l4 b (by omega) a [] (fun _ => false) [] (by simpa using ha) rfl)
def selU : List Ent → List Int → List Ent
  | e :: a, p :: ps => if p < 0 then e :: selU a ps else selU a ps
  | _, _ => []
theorem onlyIn_l4 : ∀ (post pre : List Ent) (pp ps : List Int) (out : List Ent), (pre ++ post).length ≤ 900 → pp.length = pre.length → ps.length = post.length → out.length ≤ pre.length →
    E (fun k => spec_onlyIn.l4 (k 0) (k 1) (pre ++ post) (pre.length : Int) out (pp ++ ps)) (out ++ selU post ps)
  | [], pre, pp, ps, out, hl, h1, h2, h3 => by
    have : ps = [] := List.eq_nil_of_length_eq_zero (by simpa using h2)
    subst this
    refine E.step 1 (fun v w h1 h2 => by rewrite [h1, h2 0 (by decide)]; exact spec_onlyIn.l4_succ ..) ?_
    exact E.neg (by simp [h1]) (E.now' (by simp [selU]))
  | e :: post, pre, pp, [], out, hl, h1, h2, h3 => by simp at h2
  | e :: post, pre, pp, p :: ps, out, hl, h1, h2, h3 => by
    have hlen : (pre ++ e :: post).length = pre.length + (post.length + 1) := by simp
    have hlen2 : (pp ++ p :: ps).length = pp.length + (ps.length + 1) := by simp
    have ih := fun o (ho : o.length ≤ pre.length + 1) => onlyIn_l4 post (pre ++ [e]) (pp ++ [p]) ps o (by simpa using hl) (by simp [h1]) (by simpa using h2) (by simpa using ho)
    simp only [show (pre ++ [e]).length = pre.length + 1 from by simp, List.append_assoc, List.cons_append, List.nil_append] at ih
    have hg : (pp ++ p :: ps).getD pre.length 0 = p := by rw [← h1]; exact getD_mid ..
    refine E.step 1 (fun v w h1 h2 => by rewrite [h1, h2 0 (by decide)]; exact spec_onlyIn.l4_succ ..) ?_
    simp only [Int.toNat_natCast, getD_mid, hg, set_oneN]
    rw [wrap_nat (by omega)]
    refine E.pos (by omega) (E.pos (by omega) (E.pos (by omega) (E.ite (fun h => ?_) (fun h => ?_))))
    · refine E.pos (by omega) (E.pos (by omega) (E.pos (by simp [maxN]; omega) (E.is (ih _ (by simp; omega)) ?_)))
      simp [selU, h]
    · exact E.is (ih _ (by omega)) (by simp [selU, h])
def onlyP : List Ent → List Ent → List Ent
  | [], _ => []
  | e :: a, b => if e ∈ b then onlyP a (b.erase e) else e :: onlyP a b
theorem erase_eraseP (b : List Ent) (e : Ent) : b.erase e = b.eraseP fun x => decide (x = e) := by
  rw [List.erase_eq_eraseP]
  congr 1
  funext x
  rw [Bool.eq_iff_iff, beq_iff_eq, decide_eq_true_iff]
  exact eq_comm
theorem sel_par (b : List Ent) : ∀ (a : List Ent) (u : Nat → Bool), selU a (parU b a u) = onlyP a (remU b u)
  | [], u => by simp [selU, onlyP]
  | e :: a, u => by
    simp only [parU]
    cases hf : fnd (fun x => decide (x = e)) b u with
    | none =>
      have h := (fnd_none hf).1
      have hn : e ∉ remU b u := fun hm => by
        have := List.find?_eq_none.1 h e hm
        simp at this
      simp only [selU, onlyP]
      rw [if_pos (by decide), if_neg hn, sel_par b a u]
    | some k =>
      obtain ⟨_, _, g3, g4, g5⟩ := fnd_some hf
      have hm : e ∈ remU b u := by
        have h1 := List.mem_of_find?_eq_some g4
        have h2 : b.getD k zE = e := by simpa using g3
        rwa [h2] at h1
      simp only [selU, onlyP]
      rw [if_neg (by omega), if_pos hm, sel_par b a (upd u k), g5, erase_eraseP]
theorem onlyP_len : ∀ (a b : List Ent), (onlyP a b).length ≤ a.length
  | [], b => by simp [onlyP]
  | e :: a, b => by
    have h1 := onlyP_len a (b.erase e)
    have h2 := onlyP_len a b
    simp only [onlyP]
    split <;> simp <;> omega
theorem specOnly_E (a b : List Ent) (ha : a.length ≤ 900) (hb : b.length ≤ 900) : E (fun k => spec_onlyIn (k 0) (a, b)) (onlyP a b) := by
  refine E.congr (fun k => spec_onlyIn.eq (k 0) a b) (E.bind (partners_E a b ha hb) ?_)
  have := onlyIn_l4 a [] [] (parU b a fun _ => false) [] (by simpa using ha) rfl (parU_len ..) (by simp)
  rw [sel_par, remU_free] at this
  exact E.ren (fun _ => 0) this
end Go.Proofs.YtggofaadaepdkaaG
end
section
set_option linter.unusedVariables false
namespace Go.Proofs.YtggofaadaepdkaaG
open Go Go.Refl Go.Refl.Math Go.RowKit
def mkP (r w : Ent) : Int :=
  if r.1 = w.1 ∧ r.2.1 = w.2.1 ∧ r.2.2.1 = w.2.2.1 ∧ w.2.2.2 ∈ swV r.2.2.2 then 2
  else if r.1 = w.1 ∧ r.2.2.2 = w.2.2.2 ∧ r.2.1 = w.2.2.1 ∧ r.2.2.1 = w.2.1 then 3
  else if r.1 ≠ w.1 ∧ r.2.1 = w.2.1 ∧ r.2.2.1 = w.2.2.1 ∧ r.2.2.2 = w.2.2.2 then 4 else 5
theorem mkP_ne (r w : Ent) : mkP r w ≠ 0 ∧ mkP r w ≠ 1 := by
  unfold mkP
  (repeat' split) <;> decide
theorem ent_eq {a b c d a' b' c' d' : Int} : ((a, b, c, d) : Ent) = (a', b', c', d') ↔ a = a' ∧ b = b' ∧ c = c' ∧ d = d' := by
  simp only [Prod.mk.injEq]
theorem day_E (r w : Ent) (hs : ¬ (r.1 = w.1 ∧ r.2.2.2 = w.2.2.2 ∧ r.2.1 = w.2.2.1 ∧ r.2.2.1 = w.2.1)) (hq : ¬ (r.1 = w.1 ∧ r.2.1 = w.2.1 ∧ r.2.2.1 = w.2.2.1 ∧ w.2.2.2 ∈ swV r.2.2.2)) :
    E (fun _ => if ((w.1, r.2.1, r.2.2.1, r.2.2.2) : Ent) = (w.1, w.2.1, w.2.2.1, w.2.2.2) then (if ((r.1, r.2.1, r.2.2.1, r.2.2.2) : Ent) = (w.1, w.2.1, w.2.2.1, w.2.2.2) then some 5 else some 4) else some 5) (mkP r w) := by
  unfold mkP
  rw [if_neg hq, if_neg hs]
  refine E.ite (fun h => E.ite (fun h2 => E.now' ?_) (fun h2 => E.now' ?_)) (fun h => E.now' ?_)
  · rw [ent_eq] at h h2
    rw [if_neg (fun hh => hh.1 h2.1)]
  · rw [ent_eq] at h h2
    rw [if_pos ⟨fun hh => h2 ⟨hh, h.2⟩, h.2.1, h.2.2.1, h.2.2.2⟩]
  · rw [ent_eq] at h
    rw [if_neg (fun hh => h ⟨rfl, hh.2.1, hh.2.2.1, hh.2.2.2⟩)]
theorem specMistake_E (r w : Ent) (h0 : 0 ≤ r.2.2.2) (h1 : r.2.2.2 < 1000000000) : E (fun k => spec_mistake (k 0) (r, w)) (mkP r w) := by
  have rest : ¬ (r.1 = w.1 ∧ r.2.1 = w.2.1 ∧ r.2.2.1 = w.2.2.1 ∧ w.2.2.2 ∈ swV r.2.2.2) →
      E (fun _ => if r.1 = w.1 then (if r.2.2.2 = w.2.2.2 then (if r.2.1 = w.2.2.1 then (if r.2.2.1 = w.2.1 then some 3 else (if ((w.1, r.2.1, r.2.2.1, r.2.2.2) : Ent) = (w.1, w.2.1, w.2.2.1, w.2.2.2) then (if ((r.1, r.2.1, r.2.2.1, r.2.2.2) : Ent) = (w.1, w.2.1, w.2.2.1, w.2.2.2) then some 5 else some 4) else some 5)) else (if ((w.1, r.2.1, r.2.2.1, r.2.2.2) : Ent) = (w.1, w.2.1, w.2.2.1, w.2.2.2) then (if ((r.1, r.2.1, r.2.2.1, r.2.2.2) : Ent) = (w.1, w.2.1, w.2.2.1, w.2.2.2) then some 5 else some 4) else some 5)) else (if ((w.1, r.2.1, r.2.2.1, r.2.2.2) : Ent) = (w.1, w.2.1, w.2.2.1, w.2.2.2) then (if ((r.1, r.2.1, r.2.2.1, r.2.2.2) : Ent) = (w.1, w.2.1, w.2.2.1, w.2.2.2) then some 5 else some 4) else some 5)) else (if ((w.1, r.2.1, r.2.2.1, r.2.2.2) : Ent) = (w.1, w.2.1, w.2.2.1, w.2.2.2) then (if ((r.1, r.2.1, r.2.2.1, r.2.2.2) : Ent) = (w.1, w.2.1, w.2.2.1, w.2.2.2) then some 5 else some 4) else some 5)) (mkP r w) := by
    intro hq
    refine E.ite (fun k1 => E.ite (fun k2 => E.ite (fun k3 => E.ite (fun k4 => E.now' ?_) (fun k4 => ?_)) (fun k3 => ?_)) (fun k2 => ?_)) (fun k1 => ?_)
    · unfold mkP; rw [if_neg hq, if_pos ⟨k1, k2, k3, k4⟩]
    · exact day_E r w (fun h => k4 h.2.2.2) hq
    · exact day_E r w (fun h => k3 h.2.2.1) hq
    · exact day_E r w (fun h => k2 h.2.1) hq
    · exact day_E r w (fun h => k1 h.1) hq
  refine E.congr (fun k => spec_mistake.eq (k 0) r w) (E.ite (fun h => ?_) (fun h => ?_))
  · refine E.bind (swaps_E _ h0 h1) (E.bind (placeIn_E _ _ (by have := swV_len r.2.2.2; omega)) (E.ite (fun h2 => E.now' ?_) (fun h2 => rest ?_)))
    · rw [ent_eq] at h
      have hm : w.2.2.2 ∈ swV r.2.2.2 := Classical.byContradiction fun hn => by have := idxI_neg.2 hn; omega
      unfold mkP
      rw [if_pos ⟨h.1, h.2.1, h.2.2.1, hm⟩]
    · intro hh
      exact absurd hh.2.2.2 (idxI_neg.1 (by omega))
  · refine rest fun hh => h ?_
    rw [ent_eq]
    exact ⟨hh.1, hh.2.1, hh.2.2.1, rfl⟩
def explP : List Ent → List Ent → List Fnd
  | [], ex => ex.map fun w => (1, zE, w)
  | r :: l, ex => match ex.find? (fun w => decide (mkP r w ≠ 5)) with
    | none => (0, r, zE) :: explP l ex
    | some w => (mkP r w, r, w) :: explP l (ex.eraseP fun w => decide (mkP r w ≠ 5))
theorem explP_len : ∀ (l ex : List Ent), (explP l ex).length ≤ l.length + ex.length
  | [], ex => by simp [explP]
  | r :: l, ex => by
    simp only [explP]
    split
    · have := explP_len l ex
      simp only [List.length_cons]; omega
    · have := explP_len l (ex.eraseP fun w => decide (mkP r w ≠ 5))
      have := List.length_eraseP_le (p := fun w => decide (mkP r w ≠ 5)) (l := ex)
      simp only [List.length_cons]; omega
def AmtOk (l : List Ent) : Prop := ∀ e ∈ l, 0 ≤ e.2.2.2 ∧ e.2.2.2 < 10000000
theorem explain_l19 : ∀ (post pre : List Ent) (u : Nat → Bool) (n : Nat) (out : List Fnd), (pre ++ post).length = n → n ≤ 1000 → out.length ≤ 1000 + pre.length →
    E (fun k => spec_explain.l19 (k 0) (k 1) (pre.length : Int) out (pre ++ post) (tab n u)) (out ++ (remU post fun j => u (pre.length + j)).map fun w => (1, zE, w))
  | [], pre, u, n, out, hn, hl, ho => by
    refine E.step 1 (fun v w h1 h2 => by rewrite [h1, h2 0 (by decide)]; exact spec_explain.l19_succ ..) ?_
    exact E.neg (by simp) (E.now' (by simp [remU]))
  | x :: post, pre, u, n, out, hn, hl, ho => by
    have hlen : (pre ++ x :: post).length = pre.length + (post.length + 1) := by simp
    have hpn : pre.length < n := by omega
    have ih := fun o (ho' : o.length ≤ 1000 + (pre.length + 1)) => explain_l19 post (pre ++ [x]) u n o (by simpa using hn) hl (by simpa using ho')
    simp only [show (pre ++ [x]).length = pre.length + 1 from by simp, List.append_assoc, List.cons_append, List.nil_append] at ih
    have es : (fun j => u (pre.length + (j + 1))) = fun j => u (pre.length + 1 + j) := funext fun j => by congr 1; omega
    refine E.step 1 (fun v w h1 h2 => by rewrite [h1, h2 0 (by decide)]; exact spec_explain.l19_succ ..) ?_
    simp only [Int.toNat_natCast, getD_mid, tab_length, tab_get _ hpn]
    rw [wrap_nat (by omega)]
    refine E.pos (by omega) (E.pos (by omega) (E.pos (by omega) (E.ite (fun h => ?_) (fun h => ?_))))
    · have hu : u pre.length = false := by simpa using h
      refine E.pos (by omega) (E.pos (by omega) (E.pos (by simp [maxN]; omega) ?_))
      refine E.is (ih (out ++ [(1, zE, x)]) (by simp; omega)) ?_
      simp only [remU, Nat.add_zero]
      rw [if_pos hu, es]
      simp
    · have hu : ¬ u pre.length = false := by simpa using h
      refine E.is (ih out (by omega)) ?_
      simp only [remU, Nat.add_zero]
      rw [if_neg hu, es]
theorem explain_l10 (L R : List Ent) (hL : AmtOk L) (hR : R.length ≤ 1000) (r : Ent) (i : Nat) (hi : i < L.length) (hr : L.getD i zE = r) (u : Nat → Bool) (out : List Fnd) (ho : out.length ≤ 5000) (z : List Fnd)
    (n0 : fnd (fun w => decide (mkP r w ≠ 5)) R u = none → E (fun k => spec_explain.l6 (k 0) (k 1) (wrap64 ((i : Int) + 1)) (out ++ [(0, r, zE)]) L R (tab R.length u)) z)
    (n1 : ∀ m, fnd (fun w => decide (mkP r w ≠ 5)) R u = some m → E (fun k => spec_explain.l6 (k 0) (k 1) (wrap64 ((i : Int) + 1)) (out ++ [(mkP r (R.getD m zE), r, R.getD m zE)]) L R (tab R.length (upd u m))) z) : ∀ (post pre : List Ent), pre ++ post = R →
    fnd (fun w => decide (mkP r w ≠ 5)) R u = (fnd (fun w => decide (mkP r w ≠ 5)) post fun j => u (pre.length + j)).map (· + pre.length) →
    E (fun k => spec_explain.l10 (k 0) (k 1) (k 2) (i : Int) (pre.length : Int) out L R (tab R.length u) 0 r.1 r.2.1 r.2.2.1 r.2.2.2 0 0 0 0) z
  | [], pre, hp, hf => by
    have e1 : pre = R := by simpa using hp
    refine E.step 2 (fun v w h1 h2 => by rewrite [h1, h2 0 (by decide), h2 1 (by decide)]; exact spec_explain.l10_succ ..) ?_
    exact E.neg (by rw [e1]; omega) (E.pos (by simp [maxN]; omega) (n0 hf))
  | x :: post, pre, hp, hf => by
    have hpl : pre.length < R.length := by rw [← hp]; simp
    have hx : R.getD pre.length zE = x := by rw [← hp]; exact getD_mid ..
    have hrm : r ∈ L := by rw [← hr]; exact getD_mem zE hi
    have hra := hL r hrm
    rw [fnd_shift] at hf
    have ih := explain_l10 L R hL hR r i hi hr u out ho z n0 n1 post (pre ++ [x]) (by simpa using hp)
    rw [show (pre ++ [x]).length = pre.length + 1 from by simp] at ih
    have next : ¬ (u pre.length = false ∧ mkP r x ≠ 5) → E (fun k => spec_explain.l10 (k 0) (k 1) (k 2) (i : Int) ((pre.length + 1 : Nat) : Int) out L R (tab R.length u) 0 r.1 r.2.1 r.2.2.1 r.2.2.2 0 0 0 0) z := fun hn => by
      rw [if_neg (by simpa using hn), Option.map_map] at hf
      refine ih (hf.trans ?_)
      congr 1
      funext j
      simp; omega
    refine E.step 2 (fun v w h1 h2 => by rewrite [h1, h2 0 (by decide), h2 1 (by decide)]; exact spec_explain.l10_succ ..) ?_
    simp only [Int.toNat_natCast, tab_length, tab_get _ hpl, hx, hr]
    rw [wrap_nat (n := pre.length) (by omega)]
    refine E.pos (by omega) ?_
    refine E.pos (by trivial) ?_
    (repeat first | (with_reducible refine E.pos ?_ ?_; · omega) | (with_reducible refine E.neg ?_ ?_; · omega))
    refine E.bind (specMistake_E r x hra.1 (by omega)) ?_
    (repeat first | (with_reducible refine E.pos ?_ ?_; · omega) | (with_reducible refine E.neg ?_ ?_; · omega))
    refine E.ite (fun h => ?_) (fun h => next (fun hh => h (by rw [hh.1]; rfl)))
    have hu : u pre.length = false := by simpa using h
    refine E.ite (fun h2 => next (fun hh => hh.2 h2)) (fun h2 => ?_)
    have hf' : fnd (fun w => decide (mkP r w ≠ 5)) R u = some pre.length := by rw [hf, if_pos ⟨hu, by simpa using h2⟩]; simp
    have hk := (mkP_ne r x).1
    have q := n1 _ hf'
    rw [hx] at q
    (repeat first | (with_reducible refine E.pos ?_ ?_; · omega) | (with_reducible refine E.neg ?_ ?_; · omega))
    rw [upd_tab]
    refine E.step 2 (fun v w h1 h2 => by rewrite [h1, h2 0 (by decide), h2 1 (by decide)]; exact spec_explain.l10_succ ..) ?_
    refine E.ite (fun _ => E.neg hk (E.pos (by simp [maxN]; omega) q)) (fun _ => E.pos (by simp [maxN]; omega) q)
theorem explain_l6 (R : List Ent) (hR : R.length ≤ 900) : ∀ (post pre : List Ent) (u : Nat → Bool) (out : List Fnd), AmtOk (pre ++ post) → (pre ++ post).length ≤ 900 → out.length ≤ pre.length →
    E (fun k => spec_explain.l6 (k 0) (k 1) (pre.length : Int) out (pre ++ post) R (tab R.length u)) (out ++ explP post (remU R u))
  | [], pre, u, out, ha, hl, ho => by
    have hp : pre.length ≤ 900 := by simpa using hl
    refine E.step 1 (fun v w h1 h2 => by rewrite [h1, h2 0 (by decide)]; exact spec_explain.l6_succ ..) ?_
    refine E.neg (by simp) ?_
    have := explain_l19 R [] u R.length out rfl (by omega) (by simp; omega)
    simp only [List.nil_append, List.length_nil, Nat.zero_add] at this
    exact E.ren (fun _ => 0) this
  | r :: post, pre, u, out, ha, hl, ho => by
    have hlen : (pre ++ r :: post).length = pre.length + (post.length + 1) := by simp
    have ih := fun u' o (ho' : o.length ≤ pre.length + 1) => explain_l6 R hR post (pre ++ [r]) u' o (by simpa using ha) (by simpa using hl) (by simpa using ho')
    simp only [show (pre ++ [r]).length = pre.length + 1 from by simp, List.append_assoc, List.cons_append, List.nil_append] at ih
    refine E.step 1 (fun v w h1 h2 => by rewrite [h1, h2 0 (by decide)]; exact spec_explain.l6_succ ..) ?_
    simp only [Int.toNat_natCast, getD_mid]
    refine E.pos (by omega) (E.pos (by omega) (E.pos (by omega) ?_))
    refine E.ren (fun i => if i = 2 then 0 else i) (explain_l10 (pre ++ r :: post) R ha (by omega) r pre.length (by omega) (getD_mid ..) u out (by omega) _ ?_ ?_ R [] rfl (by simp))
    · intro hf
      have := ih u (out ++ [(0, r, zE)]) (by simp; omega)
      rw [wrap_nat (by omega)]
      refine E.is this ?_
      simp only [explP, (fnd_none hf).1]; simp
    · intro m hf
      obtain ⟨_, _, _, g4, g5⟩ := fnd_some hf
      have := ih (upd u m) (out ++ [(mkP r (R.getD m zE), r, R.getD m zE)]) (by simp; omega)
      rw [wrap_nat (by omega)]
      refine E.is this ?_
      simp only [explP, g4, g5]; simp
theorem onlyP_mem : ∀ (a b : List Ent), ∀ e ∈ onlyP a b, e ∈ a
  | [], b, e, h => by simp [onlyP] at h
  | x :: a, b, e, h => by
    simp only [onlyP] at h
    split at h
    · exact List.mem_cons_of_mem _ (onlyP_mem a _ e h)
    · rcases List.mem_cons.1 h with rfl | h
      · exact List.mem_cons_self ..
      · exact List.mem_cons_of_mem _ (onlyP_mem a _ e h)
theorem specExplain_E (a b : List Ent) (ha : AmtOk a) (hla : a.length ≤ 900) (hlb : b.length ≤ 900) : E (fun k => spec_explain (k 0) (a, b)) (explP (onlyP a b) (onlyP b a)) := by
  have l1 := onlyP_len a b
  have l2 := onlyP_len b a
  refine E.congr (fun k => spec_explain.eq (k 0) a b) (E.bind (specOnly_E a b hla hlb) (E.bind (specOnly_E b a hlb hla) (E.pos (by omega) (E.pos (by omega) (E.pos (by simp only [maxN]; omega) ?_)))))
  rw [Int.toNat_natCast, show List.replicate (onlyP b a).length false = tab (onlyP b a).length (fun _ => false) from replicate_tab ..]
  have := explain_l6 (onlyP b a) (by omega) (onlyP a b) [] (fun _ => false) [] (fun e he => ha e (onlyP_mem a b e (by simpa using he))) (by simp; omega) (by simp)
  rw [remU_free] at this
  exact E.ren (fun _ => 0) this
end Go.Proofs.YtggofaadaepdkaaG
end
section
set_option linter.unusedVariables false
namespace Go.Proofs.YtggofaadaepdkaaG
open Go Go.Refl Go.Refl.Math Go.RowKit
theorem AmtOk.one {e : Ent} (h : 0 ≤ e.2.2.2 ∧ e.2.2.2 < 10000000) : AmtOk [e] := fun x hx => by
  simp at hx; subst hx; exact h
theorem AmtOk.set {l : List Ent} (h : AmtOk l) (i : Nat) (x : Ent) (hx : 0 ≤ x.2.2.2 ∧ x.2.2.2 < 10000000) : AmtOk (l.set i x) := fun e he => by
  rcases List.mem_or_eq_of_mem_set he with h1 | h1
  · exact h e h1
  · rw [h1]; exact hx
end Go.Proofs.YtggofaadaepdkaaG
end
section
set_option linter.unusedVariables false
namespace Go.Proofs.YtggofaadaepdkaaG
open Go Go.Refl Go.Refl.Math Go.RowKit
theorem delE_eq {α : Type} (L : List α) (i : Nat) : List.take (i - 0) L ++ List.take (L.length - (i + 1)) (List.drop (i + 1) L) = L.eraseIdx i := by
  have h : List.take (L.length - (i + 1)) (List.drop (i + 1) L) = List.drop (i + 1) L := List.take_of_length_le (by simp)
  rw [h, List.eraseIdx_eq_take_drop_succ, Nat.sub_zero]
theorem delE_len {α : Type} (L : List α) (i : Nat) (h : i < L.length) : i - 0 + (List.take (L.length - (i + 1)) (List.drop (i + 1) L)).length = L.length - 1 := by
  rw [List.take_of_length_le (by simp), List.length_drop]; omega
theorem deleteE_E (L : List Ent) (i : Nat) (h : i < L.length) (hl : L.length ≤ 1000000000) : E (fun k => slices_Delete_Entry (k 0) (L, (i : Int), ((i + 1 : Nat) : Int))) (L.eraseIdx i) := by
  refine E.congr (fun k => slices_Delete_Entry.eq (k 0) ..) ?_
  simp only [Int.toNat_natCast, delE_len L i h, delE_eq]
  have he : (L.eraseIdx i).length = L.length - 1 := by rw [List.length_eraseIdx, if_pos h]
  refine E.pos (by omega) (E.pos (by omega) (E.pos (by omega) (E.pos (by omega) (E.neg (by omega) (E.pos (by omega) (E.pos (by omega) (E.pos (by omega) (E.pos (by omega) (E.pos (by omega) (E.pos (by omega) (E.pos (by omega) (E.pos (by omega) (E.pos (by simp [he] <;> omega) (E.now' ?_))))))))))))))
  rw [Nat.zero_add, List.take_left' he, List.append_assoc, List.take_left' he]
end Go.Proofs.YtggofaadaepdkaaG
end
section
set_option linter.unusedVariables false
namespace Go.Proofs.YtggofaadaepdkaaG
open Go Go.Refl Go.Refl.Math Go.RowKit
theorem tdivN {x m : Nat} : Int.tdiv (x : Int) (m : Int) = ((x / m : Nat) : Int) := by
  rw [Int.tdiv_eq_ediv_of_nonneg (by omega)]; exact (Int.natCast_ediv ..).symm
theorem tmodN {x m : Nat} : Int.tmod (x : Int) (m : Int) = ((x % m : Nat) : Int) := by
  rw [Int.tmod_eq_emod_of_nonneg (by omega)]; exact (Int.natCast_emod ..).symm
def itS (x m : Nat) : List Int :=
  if x / 10 ^ (m + 1) % 10 = x / 10 ^ m % 10 then [] else if x / 10 ^ m < 10 then [] else if x / 10 ^ m % 10 = 0 ∧ x / 10 ^ (m + 2) = 0 then [] else
  [(x : Int) + (((x / 10 ^ m % 10 : Nat) : Int) - ((x / 10 ^ (m + 1) % 10 : Nat) : Int)) * (((10 ^ (m + 1) : Nat) : Int) - ((10 ^ m : Nat) : Int))]
def swI (x : Nat) : Nat → List Int
  | 0 => []
  | m + 1 => itS x m ++ swI x m
theorem p10 (m : Nat) (h : m ≤ 6) : 0 < 10 ^ m ∧ 10 ^ m ≤ 1000000 := ⟨Nat.pow_pos (by decide), Nat.le_trans (Nat.pow_le_pow_right (by decide) h) (by decide)⟩
theorem swapped_l7 (x : Nat) (hx : x ≤ 1000000) : ∀ (m : Nat) (out : List Int), m ≤ 6 → out.length + m ≤ 100 →
    E (fun k => impl_SwappedOf.l7 (k 0) (k 1) (x : Int) ((10 ^ m : Nat) : Int) out) (out ++ swI x (m + 1))
  | m, out, hm, ho => by
    obtain ⟨hp0, hp1⟩ := p10 m hm
    have e1 : 10 ^ (m + 1) = 10 ^ m * 10 := Nat.pow_succ ..
    have e2 : 10 ^ (m + 2) = 10 ^ m * 100 := by rw [Nat.pow_succ, Nat.pow_succ, Nat.mul_assoc]
    have w1 : wrap64 (((10 ^ m : Nat) : Int) * 10) = ((10 ^ m * 10 : Nat) : Int) := by rw [wrap_id (by omega) (by omega)]; omega
    have w2 : wrap64 (((10 ^ m : Nat) : Int) * 100) = ((10 ^ m * 100 : Nat) : Int) := by rw [wrap_id (by omega) (by omega)]; omega
    have d0 : x / 10 ^ m ≤ x := Nat.div_le_self ..
    have d1 : x / (10 ^ m * 10) ≤ x := Nat.div_le_self ..
    have d2 : x / (10 ^ m * 100) ≤ x := Nat.div_le_self ..
    have wd : ∀ y : Nat, y ≤ x → wrap64 (y : Int) = (y : Int) := fun y hy => wrap_id (by omega) (by omega)
    have m10 : ∀ y : Nat, Int.tmod (y : Int) 10 = ((y % 10 : Nat) : Int) := fun y => tmodN (m := 10)
    have next : ∀ o : List Int, o.length + m ≤ 101 → E (fun k => impl_SwappedOf.l7 (k 0) (k 1) (x : Int) (wrap64 (Int.tdiv ((10 ^ m : Nat) : Int) 10)) o) (o ++ swI x m) := by
      intro o ho'
      rw [show Int.tdiv ((10 ^ m : Nat) : Int) 10 = ((10 ^ m / 10 : Nat) : Int) from tdivN (m := 10), wrap_id (by omega) (by omega)]
      cases m with
      | zero =>
        refine E.step 1 (fun v w h1 h2 => by rewrite [h1, h2 0 (by decide)]; exact impl_SwappedOf.l7_succ ..) ?_
        exact E.neg (by simp) (E.now' (by simp [swI]))
      | succ m' =>
        rw [Nat.pow_succ, Nat.mul_div_cancel _ (by decide)]
        exact swapped_l7 x hx m' o (by omega) (by omega)
    refine E.step 1 (fun v w h1 h2 => by rewrite [h1, h2 0 (by decide)]; exact impl_SwappedOf.l7_succ ..) ?_
    simp only [w1, w2, tdivN, wd _ d0, wd _ d1, wd _ d2, m10, set_one']
    have sw : swI x (m + 1) = itS x m ++ swI x m := rfl
    rw [sw]
    unfold itS
    rw [e1, e2]
    refine E.pos (by omega) (E.neg (by omega) (E.neg (by omega) (E.ite (fun h => ?_) (fun h => E.neg (by omega) (E.ite (fun h2 => ?_) (fun h2 => ?_))))))
    · rw [if_pos (by omega)]; exact next out (by omega)
    · rw [if_neg (by omega), if_pos (by omega)]; exact next out (by omega)
    · have hl : x / (10 ^ m * 10) % 10 < 10 := Nat.mod_lt _ (by decide)
      have hr : x / 10 ^ m % 10 < 10 := Nat.mod_lt _ (by decide)
      generalize hL : x / (10 ^ m * 10) % 10 = l at *
      generalize hR : x / 10 ^ m % 10 = r at *
      have wb : wrap64 (wrap64 (((10 ^ m * 10 : Nat) : Int)) - ((10 ^ m : Nat) : Int)) = ((10 ^ m * 10 : Nat) : Int) - ((10 ^ m : Nat) : Int) := by rw [wrap_id (x := ((10 ^ m * 10 : Nat) : Int)) (by omega) (by omega), wrap_id (by omega) (by omega)]
      have wb' : wrap64 (((10 ^ m * 10 : Nat) : Int) - ((10 ^ m : Nat) : Int)) = ((10 ^ m * 10 : Nat) : Int) - ((10 ^ m : Nat) : Int) := wrap_id (by omega) (by omega)
      have hmul : -90000000 ≤ ((r : Int) - l) * (((10 ^ m * 10 : Nat) : Int) - ((10 ^ m : Nat) : Int)) ∧ ((r : Int) - l) * (((10 ^ m * 10 : Nat) : Int) - ((10 ^ m : Nat) : Int)) ≤ 90000000 := by
        have e9 : ((10 ^ m * 10 : Nat) : Int) - ((10 ^ m : Nat) : Int) = 9 * ((10 ^ m : Nat) : Int) := by omega
        rw [e9]
        have q0 : (0 : Int) ≤ 9 * ((10 ^ m : Nat) : Int) := by omega
        have a1 := Int.mul_le_mul_of_nonneg_right (show (r : Int) - l ≤ 9 by omega) q0
        have a2 := Int.mul_le_mul_of_nonneg_right (show (-9 : Int) ≤ (r : Int) - l by omega) q0
        omega
      have put : E (fun k => if out.length + ([wrap64 ((x : Int) + wrap64 (wrap64 ((r : Int) - l) * wrap64 (((10 ^ m * 10 : Nat) : Int) - ((10 ^ m : Nat) : Int))))] : List Int).length ≤ maxN then impl_SwappedOf.l7 (k 0) (k 1) (x : Int) (wrap64 (Int.tdiv ((10 ^ m : Nat) : Int) 10)) (out ++ [wrap64 ((x : Int) + wrap64 (wrap64 ((r : Int) - l) * wrap64 (((10 ^ m * 10 : Nat) : Int) - ((10 ^ m : Nat) : Int))))]) else none)
          (out ++ ([(x : Int) + ((r : Int) - l) * (((10 ^ m * 10 : Nat) : Int) - ((10 ^ m : Nat) : Int))] ++ swI x m)) := by
        rw [wb', wrap_id (x := (r : Int) - l) (by omega) (by omega), wrap_id (x := ((r : Int) - l) * (((10 ^ m * 10 : Nat) : Int) - ((10 ^ m : Nat) : Int))) (by omega) (by omega), wrap_id (by omega) (by omega), ← List.append_assoc]
        exact E.pos (by simp [maxN]; omega) (next _ (by simp; omega))
      rw [if_neg (by omega), if_neg (by omega)]
      refine E.ite (fun h3 => E.neg (by omega) (E.ite (fun h4 => ?_) (fun h4 => ?_))) (fun h3 => ?_)
      · rw [if_pos (by omega)]; exact next out (by omega)
      · rw [if_neg (by omega)]; simpa only [tdivN] using put
      · rw [if_neg (by omega)]; simpa only [tdivN] using put
theorem swapped_l4 (x : Nat) (hx : x ≤ 1000000) : ∀ (d j : Nat), j + d = lg x - 1 →
    E (fun k => impl_SwappedOf.l4 (k 0) (k 1) (x : Int) ((10 ^ j : Nat) : Int)) (swI x (lg x - 1 + 1))
  | d, j, hj => by
    obtain ⟨k1, k2, k3⟩ := lg_ok (x := x) (by omega)
    have hl6 : lg x ≤ 6 := by unfold lg; (repeat' split) <;> omega
    obtain ⟨hp0, hp1⟩ := p10 j (by omega)
    have d0 : x / 10 ^ j ≤ x := Nat.div_le_self ..
    refine E.step 1 (fun v w h1 h2 => by rewrite [h1, h2 0 (by decide)]; exact impl_SwappedOf.l4_succ ..) ?_
    have wd : ∀ y : Nat, y ≤ x → wrap64 (y : Int) = (y : Int) := fun y hy => wrap_id (by omega) (by omega)
    rw [tdivN, wd _ d0]
    refine E.neg (by omega) ?_
    cases d with
    | zero =>
      have hj' : j = lg x - 1 := by omega
      have hlt : x / 10 ^ j < 100 := by
        rw [Nat.div_lt_iff_lt_mul hp0]
        have : 10 ^ (lg x + 1) ≤ 100 * 10 ^ j := by
          rw [show (100 : Nat) = 10 ^ 2 from rfl, ← Nat.pow_add]
          exact Nat.pow_le_pow_right (by decide) (by omega)
        omega
      refine E.neg (by omega) ?_
      have := swapped_l7 x hx j [] (by omega) (by simp; omega)
      rw [← hj']
      exact E.ren (fun _ => 0) this
    | succ d =>
      have hge : 100 ≤ x / 10 ^ j := by
        rw [Nat.le_div_iff_mul_le hp0]
        have : 100 * 10 ^ j ≤ 10 ^ lg x := by
          rw [show (100 : Nat) = 10 ^ 2 from rfl, ← Nat.pow_add]
          exact Nat.pow_le_pow_right (by decide) (by omega)
        omega
      refine E.pos (by omega) ?_
      rw [show wrap64 (((10 ^ j : Nat) : Int) * 10) = ((10 ^ (j + 1) : Nat) : Int) from by rw [Nat.pow_succ, wrap_id (by omega) (by omega)]; omega]
      exact swapped_l4 x hx d (j + 1) (by omega)
theorem digs_split {x k : Nat} {A B : List Int} {l r : Int} (h : A ++ l :: r :: B = digs x k) : B.length + 1 ≤ k ∧ A.length + B.length + 1 = k ∧ l = ((x / 10 ^ (B.length + 1) % 10 : Nat) : Int) ∧ r = ((x / 10 ^ B.length % 10 : Nat) : Int) := by
  have hl := congrArg List.length h
  rw [digs_len] at hl
  simp at hl
  have hk : A.length + B.length + 1 = k := by omega
  have g : ∀ i, i ≤ k → (digs x k).getD i 0 = ((x / 10 ^ (k - i) % 10 : Nat) : Int) := fun i hi => tab_get 0 (by omega)
  have g1 : (A ++ l :: r :: B).getD A.length 0 = l := getD_mid ..
  have g2 : (A ++ l :: r :: B).getD (A.length + 1) 0 = r := by
    have := getD_mid (d := (0 : Int)) (A ++ [l]) B r
    rw [List.append_assoc] at this
    simp only [List.length_append, List.length_cons, List.length_nil, Nat.zero_add, List.cons_append, List.nil_append] at this
    exact this
  rw [h, g _ (by omega), show k - A.length = B.length + 1 by omega] at g1
  rw [h, g _ (by omega), show k - (A.length + 1) = B.length by omega] at g2
  exact ⟨by omega, hk, g1.symm, g2.symm⟩
theorem digs_val : ∀ (k x : Nat), x < 10 ^ (k + 1) → val (digs x k) = (x : Int)
  | 0, x, h => by
    unfold digs
    rw [tab_succ, tab_zero, Nat.sub_self, Nat.pow_zero, Nat.div_one, Nat.mod_eq_of_lt (by omega)]
    simp [val]
  | k + 1, x, h => by
    rw [digs_succ, val_app, digs_val k (x / 10) (by rw [Nat.pow_succ] at h; omega)]
    simp [val]; omega
theorem sw_eq {x : Nat} (hx : x ≤ 1000000) : ∀ (B A : List Int), A ++ B = digs x (lg x) → swQ A B = swI x (B.length - 1)
  | [], A, h => rfl
  | [y], A, h => rfl
  | l :: r :: B, A, h => by
    obtain ⟨k1, k2, k3⟩ := lg_ok (x := x) (by omega)
    obtain ⟨q1, q2, q3, q4⟩ := digs_split h
    have ih := sw_eq hx (r :: B) (A ++ [l]) (by simpa using h)
    have hk3 : 10 ^ lg x ≤ x := by
      rcases k3 with h | h
      · omega
      · exact h
    have hv := digs_val (lg x) x k2
    rw [← h, val_app] at hv
    simp only [swQ, ih]
    rw [show (l :: r :: B).length - 1 = B.length + 1 from by simp, show (r :: B).length - 1 = B.length from by simp]
    show _ = itS x B.length ++ swI x B.length
    congr 1
    have hd0 : ¬ x / 10 ^ B.length < 10 := by
      rw [Nat.div_lt_iff_lt_mul (Nat.pow_pos (by decide)), ← Nat.pow_succ']
      have : 10 ^ (B.length + 1) ≤ 10 ^ lg x := Nat.pow_le_pow_right (by decide) (by omega)
      omega
    have hlead : 0 < (A ++ r :: l :: B).getD 0 0 ↔ ¬ (x / 10 ^ B.length % 10 = 0 ∧ x / 10 ^ (B.length + 2) = 0) := by
      cases A with
      | nil =>
        simp only [List.nil_append, List.getD_cons_zero]
        have : x / 10 ^ (B.length + 2) = 0 := by
          apply Nat.div_eq_of_lt
          rw [show B.length + 2 = lg x + 1 by simp at q2; omega]
          exact k2
        rw [q4]; omega
      | cons a A =>
        have ha : ((a :: A) ++ l :: r :: B).getD 0 0 = ((x / 10 ^ (lg x - 0) % 10 : Nat) : Int) := by rw [h]; exact tab_get 0 (by omega)
        simp only [List.cons_append, List.getD_cons_zero, Nat.sub_zero] at ha ⊢
        have h1 : 1 ≤ x / 10 ^ lg x := (Nat.le_div_iff_mul_le (Nat.pow_pos (by decide))).2 (by omega)
        have h2 : x / 10 ^ lg x < 10 := by
          rw [Nat.div_lt_iff_lt_mul (Nat.pow_pos (by decide)), ← Nat.pow_succ']; exact k2
        have h3 : x / 10 ^ (B.length + 2) ≠ 0 := by
          have : 10 ^ (B.length + 2) ≤ 10 ^ lg x := Nat.pow_le_pow_right (by decide) (by simp at q2; omega)
          have : 1 ≤ x / 10 ^ (B.length + 2) := (Nat.le_div_iff_mul_le (Nat.pow_pos (by decide))).2 (by omega)
          omega
        rw [ha, Nat.mod_eq_of_lt h2]; omega
    unfold itS
    by_cases hlr : l = r
    · rw [if_neg (fun hh => hh.2 hlr), if_pos (by omega)]
    · rw [if_neg (show ¬ x / 10 ^ (B.length + 1) % 10 = x / 10 ^ B.length % 10 by omega), if_neg hd0]
      by_cases hz : x / 10 ^ B.length % 10 = 0 ∧ x / 10 ^ (B.length + 2) = 0
      · rw [if_neg (fun hh => (hlead.1 hh.1) hz), if_pos hz]
      · rw [if_pos ⟨hlead.2 hz, hlr⟩, if_neg hz]
        congr 1
        have v1 : val (l :: r :: B) = (10 * l + r) * 10 ^ B.length + val B := by
          have := val_app [l, r] B
          simp only [List.cons_append, List.nil_append] at this
          rw [this]; simp [val]
        have v2 : val (r :: l :: B) = (10 * r + l) * 10 ^ B.length + val B := by
          have := val_app [r, l] B
          simp only [List.cons_append, List.nil_append] at this
          rw [this]; simp [val]
        rw [val_app, v2, ← q3, ← q4]
        rw [v1] at hv
        have e : ((10 ^ (B.length + 1) : Nat) : Int) = 10 * ((10 ^ B.length : Nat) : Int) := by rw [Nat.pow_succ]; omega
        have e0 : (10 : Int) ^ B.length = ((10 ^ B.length : Nat) : Int) := by simp
        simp only [List.length_cons] at hv ⊢
        rw [e, ← hv, e0]
        generalize ((10 ^ B.length : Nat) : Int) = q
        have z1 : (10 * l + r) * q = 10 * (l * q) + r * q := by rw [Int.add_mul, Int.mul_assoc]
        have z2 : (10 * r + l) * q = 10 * (r * q) + l * q := by rw [Int.add_mul, Int.mul_assoc]
        have z3 : (r - l) * (10 * q - q) = 9 * (r * q) - 9 * (l * q) := by
          rw [show 10 * q - q = 9 * q by omega, Int.sub_mul, ← Int.mul_assoc, ← Int.mul_assoc, Int.mul_comm r 9, Int.mul_comm l 9, Int.mul_assoc, Int.mul_assoc]
        rw [z1, z2, z3]
        omega
theorem swappedOf_E (x : Int) (h0 : 0 ≤ x) (h1 : x ≤ 1000000) : E (fun k => impl_SwappedOf (k 0) x) (swV x) := by
  obtain ⟨n, rfl⟩ : ∃ n : Nat, x = n := ⟨x.toNat, by omega⟩
  obtain ⟨k1, k2, k3⟩ := lg_ok (x := n) (by omega)
  refine E.congr (fun k => impl_SwappedOf.eq (k 0) _) (E.neg (by omega) (E.neg (by omega) ?_))
  have h := swapped_l4 n (by omega) (lg n - 1) 0 (by omega)
  rw [Nat.pow_zero] at h
  refine E.is (E.ren (fun _ => 0) h) ?_
  show _ = swQ [] (digs n (lg n))
  rw [sw_eq (x := n) (by omega) (digs n (lg n)) [] (by simp), digs_len, Nat.add_sub_cancel]
  by_cases hl : lg n = 0
  · rw [hl]
    have hn : n < 10 := by rw [hl] at k2; omega
    show itS n 0 ++ swI n 0 = swI n 0
    unfold itS
    rw [Nat.pow_zero, Nat.div_one]
    simp only [swI, List.append_nil]
    (repeat' split) <;> first | rfl | omega
  · rw [show lg n - 1 + 1 = lg n by omega]
end Go.Proofs.YtggofaadaepdkaaG
end
section
set_option linter.unusedVariables false
namespace Go.Proofs.YtggofaadaepdkaaG
open Go Go.Refl Go.Refl.Math Go.RowKit
theorem match_l10 (a b : List Ent) (hb : b.length ≤ 1000) (e : Ent) (j : Nat) (hj2 : j < a.length) (u : Nat → Bool) (out : List Int) (ho : out.length ≤ 1000) (r : List Int)
    (n0 : fnd (fun x => decide (x = e)) b u = none → E (fun k => impl_MatchBooks.l6 (k 0) (k 1) b a (a.length : Int) (wrap64 ((j : Int) + 1)) (tab b.length u) (out ++ [-1])) r)
    (n1 : ∀ m, fnd (fun x => decide (x = e)) b u = some m → E (fun k => impl_MatchBooks.l6 (k 0) (k 1) b a (a.length : Int) (wrap64 ((j : Int) + 1)) (tab b.length (upd u m)) (out ++ [(m : Int)])) r) : ∀ (post pre : List Ent), pre ++ post = b →
    fnd (fun x => decide (x = e)) b u = (fnd (fun x => decide (x = e)) post fun i => u (pre.length + i)).map (· + pre.length) →
    E (fun k => impl_MatchBooks.l10 (k 0) (k 1) (k 2) b (-1) a (a.length : Int) (j : Int) b (b.length : Int) (pre.length : Int) (tab b.length u) out e.1 e.2.1 e.2.2.1 e.2.2.2) r
  | [], pre, hp, hf => by
    have e1 : pre = b := by simpa using hp
    refine E.step 2 (fun v w h1 h2 => by rewrite [h1, h2 0 (by decide), h2 1 (by decide)]; exact impl_MatchBooks.l10_succ ..) ?_
    rw [set_one']
    refine E.neg (by rw [e1]; omega) (E.pos (by simp [maxN]; omega) (n0 hf))
  | x :: post, pre, hp, hf => by
    have hpl : pre.length < b.length := by rw [← hp]; simp
    have hx : b.getD pre.length zE = x := by rw [← hp]; exact getD_mid ..
    rw [fnd_shift] at hf
    have ih := match_l10 a b hb e j hj2 u out ho r n0 n1 post (pre ++ [x]) (by simpa using hp)
    rw [show (pre ++ [x]).length = pre.length + 1 from by simp] at ih
    have next : ¬ (u pre.length = false ∧ x = e) → E (fun k => impl_MatchBooks.l10 (k 0) (k 1) (k 2) b (-1) a (a.length : Int) (j : Int) b (b.length : Int) ((pre.length + 1 : Nat) : Int) (tab b.length u) out e.1 e.2.1 e.2.2.1 e.2.2.2) r := fun hn => by
      rw [if_neg (by simpa using hn), Option.map_map] at hf
      refine ih (hf.trans ?_)
      congr 1
      funext i
      simp; omega
    refine E.step 2 (fun v w h1 h2 => by rewrite [h1, h2 0 (by decide), h2 1 (by decide)]; exact impl_MatchBooks.l10_succ ..) ?_
    simp only [Int.toNat_natCast, tab_length, tab_get _ hpl, hx, set_one']
    rw [wrap_nat (n := pre.length) (by omega)]
    refine E.pos (by omega) (E.pos (by omega) (E.pos (by omega) (E.pos (by omega) (E.pos (by omega) ?_))))
    refine E.ite (fun h => ?_) (fun h => next (fun hh => h (by rw [hh.1]; rfl)))
    have hu : u pre.length = false := by simpa using h
    refine E.ite (fun h2 => ?_) (fun h2 => next (fun hh => h2 (by rw [hh.2])))
    have h2' : x = e := h2
    have hf' : fnd (fun x => decide (x = e)) b u = some pre.length := by rw [hf, if_pos ⟨hu, by simp [h2']⟩]; simp
    (repeat first | (with_reducible refine E.pos ?_ ?_; · omega) | (with_reducible refine E.neg ?_ ?_; · omega))
    rw [upd_tab]
    exact E.pos (by simp [maxN]; omega) (n1 _ hf')
theorem match_l6 (b : List Ent) (hb : b.length ≤ 1000) : ∀ (post pre : List Ent) (u : Nat → Bool) (out : List Int), (pre ++ post).length ≤ 900 → out.length = pre.length →
    E (fun k => impl_MatchBooks.l6 (k 0) (k 1) b (pre ++ post) ((pre ++ post).length : Int) (pre.length : Int) (tab b.length u) out) (out ++ parU b post u)
  | [], pre, u, out, hl, ho => by
    refine E.step 1 (fun v w h1 h2 => by rewrite [h1, h2 0 (by decide)]; exact impl_MatchBooks.l6_succ ..) ?_
    exact E.neg (by simp) (E.now' (by simp [parU]))
  | e :: post, pre, u, out, hl, ho => by
    have hlen : (pre ++ e :: post).length = pre.length + (post.length + 1) := by simp
    have ih := fun u' o (ho' : o.length = pre.length + 1) => match_l6 b hb post (pre ++ [e]) u' o (by simpa using hl) (by simpa using ho')
    simp only [show (pre ++ [e]).length = pre.length + 1 from by simp, List.append_assoc, List.cons_append, List.nil_append] at ih
    refine E.step 1 (fun v w h1 h2 => by rewrite [h1, h2 0 (by decide)]; exact impl_MatchBooks.l6_succ ..) ?_
    simp only [Int.toNat_natCast, getD_mid]
    refine E.pos (by omega) (E.pos (by omega) (E.pos (by omega) ?_))
    refine E.ren (fun i => if i = 2 then 0 else i) (match_l10 (pre ++ e :: post) b hb e pre.length (by omega) u out (by omega) _ ?_ ?_ b [] rfl (by simp))
    · intro hf
      have := ih u (out ++ [-1]) (by simp [ho])
      rw [wrap_nat (by omega)]
      refine E.is this ?_
      simp only [parU, hf]; simp
    · intro m hf
      have := ih (upd u m) (out ++ [(m : Int)]) (by simp [ho])
      rw [wrap_nat (by omega)]
      refine E.is this ?_
      simp only [parU, hf]; simp
theorem match_E (a b : List Ent) : E (fun k => impl_MatchBooks (k 0) (a, b)) (if vEs a && vEs b then parU b a fun _ => false else []) := by
  refine E.congr (fun k => impl_MatchBooks.eq (k 0) a b) (E.bind (implValidEntries_E a) (E.ite (fun h => E.now' ?_) (fun h => E.bind (implValidEntries_E b) (E.ite (fun h2 => E.now' ?_) (fun h2 => ?_)))))
  · simp only [Bool.not_eq_true'] at h
    rw [h]; rfl
  · simp only [Bool.not_eq_true'] at h2
    rw [h2, Bool.and_false]; rfl
  · simp only [Bool.not_eq_true', Bool.not_eq_false] at h h2
    have ha := (vEs_iff.1 h).1
    have hb := (vEs_iff.1 h2).1
    rw [h, h2]
    refine E.pos (by omega) (E.pos (by omega) (E.pos (by simp only [maxN]; omega) ?_))
    rw [Int.toNat_natCast, replicate_tab]
    exact E.ren (fun _ => 0) (match_l6 b (by omega) a [] (fun _ => false) [] (by simp; omega) rfl)
theorem implOnly_l3 : ∀ (post pre : List Ent) (pp ps : List Int) (out : List Ent), (pre ++ post).length ≤ 900 → pp.length = pre.length → ps.length = post.length → out.length ≤ pre.length →
    E (fun k => impl_OnlyIn.l3 (k 0) (k 1) (pre ++ post) ((pp ++ ps).length : Int) (pre.length : Int) out (pp ++ ps)) (out ++ selU post ps)
  | [], pre, pp, ps, out, hl, h1, h2, h3 => by
    have : ps = [] := List.eq_nil_of_length_eq_zero (by simpa using h2)
    subst this
    refine E.step 1 (fun v w h1 h2 => by rewrite [h1, h2 0 (by decide)]; exact impl_OnlyIn.l3_succ ..) ?_
    exact E.neg (by simp [h1]) (E.now' (by simp [selU]))
  | e :: post, pre, pp, [], out, hl, h1, h2, h3 => by simp at h2
  | e :: post, pre, pp, p :: ps, out, hl, h1, h2, h3 => by
    have hlen : (pre ++ e :: post).length = pre.length + (post.length + 1) := by simp
    have hlen2 : (pp ++ p :: ps).length = pp.length + (ps.length + 1) := by simp
    have ih := fun o (ho : o.length ≤ pre.length + 1) => implOnly_l3 post (pre ++ [e]) (pp ++ [p]) ps o (by simpa using hl) (by simp [h1]) (by simpa using h2) (by simpa using ho)
    simp only [show (pre ++ [e]).length = pre.length + 1 from by simp, List.append_assoc, List.cons_append, List.nil_append] at ih
    have hg : (pp ++ p :: ps).getD pre.length 0 = p := by rw [← h1]; exact getD_mid ..
    refine E.step 1 (fun v w h1 h2 => by rewrite [h1, h2 0 (by decide)]; exact impl_OnlyIn.l3_succ ..) ?_
    simp only [Int.toNat_natCast, getD_mid, hg, set_oneN]
    rw [wrap_nat (by omega)]
    refine E.pos (by omega) (E.pos (by omega) (E.pos (by omega) (E.ite (fun h => ?_) (fun h => ?_))))
    · refine E.pos (by omega) (E.pos (by omega) (E.pos (by simp [maxN]; omega) (E.is (ih _ (by simp; omega)) ?_)))
      simp [selU, h]
    · exact E.is (ih _ (by omega)) (by simp [selU, h])
theorem implOnly_E (a b : List Ent) (ha : vEs a = true) (hb : vEs b = true) : E (fun k => impl_OnlyIn (k 0) (a, b)) (onlyP a b) := by
  have h1 := match_E a b
  rw [ha, hb] at h1
  have hl := (vEs_iff.1 ha).1
  refine E.congr (fun k => impl_OnlyIn.eq (k 0) a b) (E.bind h1 ?_)
  have := implOnly_l3 a [] [] (parU b a fun _ => false) [] (by simp; omega) rfl (parU_len ..) (by simp)
  rw [sel_par, remU_free] at this
  exact E.ren (fun _ => 0) this
set_option maxHeartbeats 4000000 in
theorem mistakeOf_E (r w : Ent) (hr : vE r = true) (hw : vE w = true) : E (fun k => impl_MistakeOf (k 0) (r, w)) (mkP r w) := by
  have r1 := vE_iff.1 hr
  have sw := swappedOf_E r.2.2.2 (by omega) (by omega)
  have ct := contains_E (swV r.2.2.2) w.2.2.2 (by have := swV_len r.2.2.2; omega)
  refine E.congr (fun k => impl_MistakeOf.eq (k 0) r w) (E.bind (implValidEntry_E r) (E.neg (by rw [hr]; decide) (E.bind (implValidEntry_E w) (E.neg (by rw [hw]; decide) ?_))))
  clear hr hw r1
  have fin : ∀ n : Int, n = mkP r w → E (fun _ => some n) (mkP r w) := fun n h => E.now' h
  repeat' (first | with_reducible refine fin _ ?_ | with_reducible refine E.ite (fun _ => ?_) (fun _ => ?_) | with_reducible refine E.bind sw ?_ | with_reducible refine E.bind ct ?_)
  all_goals clear sw ct fin
  all_goals unfold mkP
  all_goals try simp only [decide_eq_true_eq] at *
  all_goals (repeat' split)
  all_goals first | rfl | (exfalso; simp_all)
theorem isMist_E (r w : Ent) (hr : vE r = true) (hw : vE w = true) : E (fun k => impl_ExplainBooks_1 (k 0) (w, r)) (decide (mkP r w ≠ 5)) :=
  E.congr (fun k => impl_ExplainBooks_1.eq (k 0) ..) (E.bind (mistakeOf_E r w hr hw) (E.now' (by simp)))
theorem indexF_l2 (r : Ent) (hr : vE r = true) : ∀ (post pre : List Ent), (pre ++ post).length ≤ 1000 → (∀ e ∈ pre ++ post, vE e = true) → (∀ w ∈ pre, ¬ mkP r w ≠ 5) →
    ∃ z, E (fun k => slices_IndexFunc_Entry.l2 (k 0) (k 1) (pre ++ post) [r] ((pre ++ post).length : Int) (pre.length : Int)) z ∧
      ((z = -1 ∧ (pre ++ post).find? (fun w => decide (mkP r w ≠ 5)) = none) ∨
       ∃ m : Nat, z = m ∧ m < (pre ++ post).length ∧ (pre ++ post).find? (fun w => decide (mkP r w ≠ 5)) = some ((pre ++ post).getD m zE) ∧ (pre ++ post).eraseIdx m = (pre ++ post).eraseP fun w => decide (mkP r w ≠ 5))
  | [], pre, hl, hv, hp => by
    refine ⟨-1, ?_, .inl ⟨rfl, List.find?_eq_none.2 fun w hw => by simpa using hp w (by simpa using hw)⟩⟩
    refine E.step 1 (fun v w h1 h2 => by rewrite [h1, h2 0 (by decide)]; exact slices_IndexFunc_Entry.l2_succ ..) ?_
    exact E.neg (by simp) (E.now _)
  | x :: post, pre, hl, hv, hp => by
    have hlen : (pre ++ x :: post).length = pre.length + (post.length + 1) := by simp
    have hx := isMist_E r x hr (hv x (by simp))
    by_cases h : mkP r x ≠ 5
    · refine ⟨(pre.length : Int), ?_, .inr ⟨pre.length, rfl, by omega, ?_, ?_⟩⟩
      · refine E.step 1 (fun v w h1 h2 => by rewrite [h1, h2 0 (by decide)]; exact slices_IndexFunc_Entry.l2_succ ..) ?_
        simp only [Int.toNat_natCast, getD_mid]
        (repeat first | (with_reducible refine E.pos ?_ ?_; · omega) | (with_reducible refine E.neg ?_ ?_; · omega))
        exact E.bind hx (E.pos (by simpa using h) (E.now _))
      · rw [getD_mid, List.find?_append, List.find?_eq_none.2 (fun w hw => by simpa using hp w hw)]
        simp [h]
      · rw [List.eraseIdx_append_of_length_le (Nat.le_refl _), Nat.sub_self, List.eraseP_append_right _ (fun w hw => by simpa using hp w hw)]
        simp [h]
    · obtain ⟨z, hz, hc⟩ := indexF_l2 r hr post (pre ++ [x]) (by simpa using hl) (by simpa using hv) (fun w hw => by
        rcases List.mem_append.1 hw with h1 | h1
        · exact hp w h1
        · simp at h1; subst h1; exact h)
      rw [show (pre ++ [x]).length = pre.length + 1 from by simp] at hz
      simp only [List.append_assoc, List.cons_append, List.nil_append] at hc hz
      refine ⟨z, ?_, hc⟩
      refine E.step 1 (fun v w h1 h2 => by rewrite [h1, h2 0 (by decide)]; exact slices_IndexFunc_Entry.l2_succ ..) ?_
      simp only [Int.toNat_natCast, getD_mid]
      (repeat first | (with_reducible refine E.pos ?_ ?_; · omega) | (with_reducible refine E.neg ?_ ?_; · omega))
      refine E.bind hx (E.neg (by simpa using h) ?_)
      rw [wrap_nat (by omega)]
      exact hz
theorem implExpl_l15 : ∀ (post pre : List Ent) (out : List Fnd), (pre ++ post).length ≤ 1000 → out.length ≤ 1000 + pre.length →
    E (fun k => impl_ExplainBooks.l15 (k 0) (k 1) ((pre ++ post).length : Int) (pre.length : Int) out (pre ++ post)) (out ++ post.map fun w => (1, zE, w))
  | [], pre, out, hl, ho => by
    refine E.step 1 (fun v w h1 h2 => by rewrite [h1, h2 0 (by decide)]; exact impl_ExplainBooks.l15_succ ..) ?_
    exact E.neg (by simp) (E.now' (by simp))
  | x :: post, pre, out, hl, ho => by
    have hlen : (pre ++ x :: post).length = pre.length + (post.length + 1) := by simp
    have ih := fun o (ho' : o.length ≤ 1000 + (pre.length + 1)) => implExpl_l15 post (pre ++ [x]) o (by simpa using hl) (by simpa [Nat.add_assoc] using ho')
    simp only [show (pre ++ [x]).length = pre.length + 1 from by simp, List.append_assoc, List.cons_append, List.nil_append] at ih
    refine E.step 1 (fun v w h1 h2 => by rewrite [h1, h2 0 (by decide)]; exact impl_ExplainBooks.l15_succ ..) ?_
    simp only [Int.toNat_natCast, getD_mid]
    rw [wrap_nat (by omega)]
    refine E.pos (by omega) (E.pos (by omega) (E.pos (by omega) (E.pos (by simp [maxN]; omega) ?_)))
    refine E.is (ih (out ++ [(1, zE, x)]) (by simp; omega)) ?_
    simp
theorem implExpl_l6 : ∀ (post pre : List Ent) (ex : List Ent) (out : List Fnd), (pre ++ post).length ≤ 900 → ex.length ≤ 900 → (∀ e ∈ post, vE e = true) → (∀ e ∈ ex, vE e = true) → out.length ≤ pre.length →
    E (fun k => impl_ExplainBooks.l6 (k 0) (k 1) ((pre ++ post).length : Int) (pre.length : Int) ex out (pre ++ post)) (out ++ explP post ex)
  | [], pre, ex, out, hl, hx, h1, h2, ho => by
    have hp : pre.length ≤ 900 := by simpa using hl
    refine E.step 1 (fun v w h1 h2 => by rewrite [h1, h2 0 (by decide)]; exact impl_ExplainBooks.l6_succ ..) ?_
    refine E.neg (by simp) ?_
    have := implExpl_l15 ex [] out (by simp; omega) (by simp; omega)
    exact E.ren (fun _ => 0) this
  | r :: post, pre, ex, out, hl, hx, h1, h2, ho => by
    have hlen : (pre ++ r :: post).length = pre.length + (post.length + 1) := by simp
    have hr := h1 r (List.mem_cons_self ..)
    have ih := fun ex' o (hx' : ex'.length ≤ 900) (h2' : ∀ e ∈ ex', vE e = true) (ho' : o.length ≤ pre.length + 1) => implExpl_l6 post (pre ++ [r]) ex' o (by simpa using hl) hx' (fun e he => h1 e (List.mem_cons_of_mem _ he)) h2' (by simpa using ho')
    simp only [show (pre ++ [r]).length = pre.length + 1 from by simp, List.append_assoc, List.cons_append, List.nil_append] at ih
    obtain ⟨z, hz, hc⟩ := indexF_l2 r hr ex [] (by simp; omega) (by simpa using h2) (fun w hw => by cases hw)
    have hi : E (fun k => slices_IndexFunc_Entry (k 0) (ex, r)) z := E.congr (fun k => slices_IndexFunc_Entry.eq (k 0) ..) (E.ren (fun _ => 0) hz)
    simp only [List.nil_append] at hc
    refine E.step 1 (fun v w h1 h2 => by rewrite [h1, h2 0 (by decide)]; exact impl_ExplainBooks.l6_succ ..) ?_
    simp only [Int.toNat_natCast, getD_mid]
    rw [wrap_nat (by omega)]
    refine E.pos (by omega) (E.pos (by omega) (E.pos (by omega) (E.bind hi ?_)))
    rcases hc with ⟨rfl, hn⟩ | ⟨m, rfl, hm, hf, he⟩
    · refine E.pos (by omega) (E.pos (by simp [maxN]; omega) ?_)
      refine E.is (ih ex (out ++ [(0, r, zE)]) hx h2 (by simp; omega)) ?_
      simp only [explP, hn]; simp
    · have hw := h2 _ (getD_mem zE hm)
      have hle : (ex.eraseIdx m).length ≤ 900 := by have := List.length_eraseIdx_le (l := ex) (i := m); omega
      simp only [Int.toNat_natCast]
      rw [wrap_nat (by omega)]
      refine E.neg (by omega) (E.pos (by omega) (E.pos (by omega) (E.bind (mistakeOf_E r _ hr hw) (E.pos (by omega) (E.pos (by omega) (E.pos (by simp [maxN]; omega) (E.bind (deleteE_E ex m hm (by omega)) ?_)))))))
      refine E.is (ih (ex.eraseIdx m) (out ++ [(mkP r (ex.getD m zE), r, ex.getD m zE)]) hle (fun e h => h2 e (List.mem_of_mem_eraseIdx h)) (by simp; omega)) ?_
      simp only [explP, hf, he]; simp
def findV (a b : List Ent) : List Fnd := if vEs a && vEs b then explP (onlyP a b) (onlyP b a) else []
theorem onlyP_vE {a b : List Ent} (h : vEs a = true) : ∀ e ∈ onlyP a b, vE e = true := fun e he => (vEs_iff.1 h).2 e (onlyP_mem a b e he)
theorem implExpl_E (a b : List Ent) : E (fun k => impl_ExplainBooks (k 0) (a, b)) (findV a b) := by
  refine E.congr (fun k => impl_ExplainBooks.eq (k 0) a b) (E.bind (implValidEntries_E a) (E.ite (fun h => E.now' ?_) (fun h => E.bind (implValidEntries_E b) (E.ite (fun h2 => E.now' ?_) (fun h2 => ?_)))))
  · simp only [Bool.not_eq_true'] at h
    unfold findV; rw [h]; rfl
  · simp only [Bool.not_eq_true'] at h2
    unfold findV; rw [h2, Bool.and_false]; rfl
  · simp only [Bool.not_eq_true', Bool.not_eq_false] at h h2
    have l1 := onlyP_len a b
    have l2 := onlyP_len b a
    have ha := (vEs_iff.1 h).1
    have hb := (vEs_iff.1 h2).1
    unfold findV; rw [h, h2]
    refine E.bind (implOnly_E b a h2 h) (E.bind (implOnly_E a b h h2) ?_)
    exact E.ren (fun _ => 0) (implExpl_l6 (onlyP a b) [] (onlyP b a) [] (by simp; omega) (by omega) (onlyP_vE h) (onlyP_vE h2) (by simp))
theorem vEs_amt {a : List Ent} (h : vEs a = true) : AmtOk a := fun e he => by have := vE_iff.1 ((vEs_iff.1 h).2 e he); omega
theorem specExpl_E (a b : List Ent) (ha : a.length ≤ 900) (hb : b.length ≤ 900) : E (fun k => spec_ExplainBooks (k 0) (a, b)) (findV a b) := by
  refine E.congr (fun k => spec_ExplainBooks.eq (k 0) a b) (E.bind (specValidEntries_E a (by omega)) (E.ite (fun h => E.now' ?_) (fun h => E.bind (specValidEntries_E b (by omega)) (E.ite (fun h2 => E.now' ?_) (fun h2 => ?_)))))
  · simp only [Bool.not_eq_true'] at h
    unfold findV; rw [h]; rfl
  · simp only [Bool.not_eq_true'] at h2
    unfold findV; rw [h2, Bool.and_false]; rfl
  · simp only [Bool.not_eq_true', Bool.not_eq_false] at h h2
    unfold findV; rw [h, h2]
    exact E.bind (specExplain_E a b (vEs_amt h) ha hb) (E.now _)
end Go.Proofs.YtggofaadaepdkaaG
end
section
set_option linter.unusedVariables false
namespace Go.Proofs.YtggofaadaepdkaaG
open Go Go.Refl Go.Refl.Math Go.RowKit
theorem sz_E (l : List Ent) (left : Int) (h1 : -9223372036854775808 ≤ left - (l.length : Int)) (h2 : left ≤ 9000000000000000000) : E (fun k => laws_szEntryS (k 0) (l, left)) (if left - (l.length : Int) < 0 then -1 else left - (l.length : Int)) := by
  refine E.congr (fun k => laws_szEntryS.eq (k 0) l left) ?_
  rw [wrap_id (x := left - (l.length : Int)) (by omega) (by omega)]
  refine E.ite (fun h => E.now' (by rw [if_pos h])) (fun h => E.now' (by rw [if_neg h]))
theorem toEnt_E (e : Ent) : E (fun k => laws_toEntry (k 0) e) e := E.congr (fun k => laws_toEntry.eq (k 0) e) (E.now _)
theorem toEnts_l3 : ∀ (post pre : List Ent) (m : Nat), post.length = m → (pre ++ post).length < 1000000000 →
    E (fun k => laws_toEntryS.l3 (k 0) (k 1) (pre ++ post) (pre.length : Int) (pre ++ List.replicate m zE)) (pre ++ post)
  | [], pre, m, hm, hl => by
    have hm0 : m = 0 := by simpa using hm.symm
    subst hm0
    refine E.step 1 (fun v w h1 h2 => by rewrite [h1, h2 0 (by decide)]; exact laws_toEntryS.l3_succ ..) ?_
    exact E.neg (by simp) (E.now' (by simp))
  | x :: post, pre, 0, hm, hl => by simp at hm
  | x :: post, pre, m + 1, hm, hl => by
    have hlen : (pre ++ x :: post).length = pre.length + (post.length + 1) := by simp
    have ih := toEnts_l3 post (pre ++ [x]) m (by simpa using hm) (by simpa using hl)
    rw [show (pre ++ [x]).length = pre.length + 1 from by simp, List.append_assoc] at ih
    have hlr : (pre ++ List.replicate (m + 1) zE).length = pre.length + (m + 1) := by simp
    have hset : (pre ++ List.replicate (m + 1) zE).set pre.length x = (pre ++ [x]) ++ List.replicate m zE := by rw [List.replicate_succ]; simp
    refine E.step 1 (fun v w h1 h2 => by rewrite [h1, h2 0 (by decide)]; exact laws_toEntryS.l3_succ ..) ?_
    simp only [Int.toNat_natCast, getD_mid]
    rw [wrap_nat (by omega)]
    exact E.pos (by omega) (E.pos (by omega) (E.pos (by omega) (E.bind (toEnt_E x) (E.pos (by omega) (E.pos (by omega) (by rw [hset]; simpa using ih))))))
theorem toEnts_E (l : List Ent) (hl : l.length < 1000000000) : E (fun k => laws_toEntryS (k 0) l) l := by
  have := toEnts_l3 l [] l.length rfl (by simpa using hl)
  refine E.congr (fun k => laws_toEntryS.eq (k 0) l) (E.pos (by omega) (E.pos (by omega) (E.pos (by simp [maxN]; omega) ?_)))
  rw [Int.toNat_natCast]
  exact E.ren (fun _ => 0) this
theorem eqEnt_E (a b : Ent) : E (fun k => laws_eqEntry (k 0) (a, b)) (decide (a = b)) := by
  obtain ⟨a1, a2, a3, a4⟩ := a
  obtain ⟨b1, b2, b3, b4⟩ := b
  refine E.congr (fun k => laws_eqEntry.eq (k 0) ..) ?_
  refine E.ite (fun h1 => E.ite (fun h2 => E.ite (fun h3 => E.ite (fun h4 => E.now' ?_) (fun h4 => E.now' ?_)) (fun h3 => E.now' ?_)) (fun h2 => E.now' ?_)) (fun h1 => E.now' ?_)
  all_goals (rw [Bool.eq_iff_iff]; simp only [decide_eq_true_eq, Prod.mk.injEq] at *; simp_all)
theorem eqEnts_l4 : ∀ (post post2 pre pre2 : List Ent), (pre ++ post).length < 1000000000 → pre.length = pre2.length → post.length = post2.length → pre = pre2 →
    E (fun k => laws_eqEntryS.l4 (k 0) (k 1) (pre ++ post) (pre2 ++ post2) (pre.length : Int)) (decide (pre ++ post = pre2 ++ post2))
  | [], [], pre, pre2, hl, h1, h2, h3 => by
    refine E.step 1 (fun v w h1 h2 => by rewrite [h1, h2 0 (by decide)]; exact laws_eqEntryS.l4_succ ..) ?_
    exact E.neg (by simp) (E.now' (by simp [h3]))
  | x :: post, [], pre, pre2, hl, h1, h2, h3 => by simp at h2
  | [], y :: post2, pre, pre2, hl, h1, h2, h3 => by simp at h2
  | x :: post, y :: post2, pre, pre2, hl, h1, h2, h3 => by
    subst h3
    have hlen : (pre ++ x :: post).length = pre.length + (post.length + 1) := by simp
    have hlen2 : (pre ++ y :: post2).length = pre.length + (post2.length + 1) := by simp
    refine E.step 1 (fun v w h1 h2 => by rewrite [h1, h2 0 (by decide)]; exact laws_eqEntryS.l4_succ ..) ?_
    simp only [Int.toNat_natCast, getD_mid]
    rw [wrap_nat (by omega)]
    refine E.pos (by omega) (E.pos (by omega) (E.pos (by omega) (E.pos (by omega) (E.pos (by omega) (E.bind (eqEnt_E x y) ?_)))))
    by_cases hxy : x = y
    · subst hxy
      have ih := eqEnts_l4 post post2 (pre ++ [x]) (pre ++ [x]) (by simpa using hl) rfl (by simpa using h2) rfl
      rw [show (pre ++ [x]).length = pre.length + 1 from by simp] at ih
      refine E.neg (by simp) ?_
      simpa using ih
    · exact E.pos (by simp [hxy]) (E.now' (by simp [hxy]))
theorem eqEnts_E (a b : List Ent) (hl : a.length < 1000000000) : E (fun k => laws_eqEntryS (k 0) (a, b)) (decide (a = b)) := by
  refine E.congr (fun k => laws_eqEntryS.eq (k 0) a b) (E.ite (fun h => ?_) (fun h => E.now' ?_))
  · exact E.ren (fun _ => 0) (eqEnts_l4 a b [] [] (by simpa using hl) rfl (by omega) rfl)
  · have : a ≠ b := fun e => h (by rw [e])
    simp [this]
def mkE (k : Int) : Nat → List Ent
  | 0 => []
  | n + 1 => (k, k + 1, k + 2, k + 3) :: mkE (k + 4) n
theorem markEnts_l2 : ∀ (post pre : List Ent) (x : Int), (pre ++ post).length < 1000000000 → 0 ≤ x → x + 4 * (post.length : Int) < 1000000000000 →
    E (fun k => laws_markEntryS.l2 (k 0) (k 1) x (pre.length : Int) (pre ++ post)) (x + 4 * (post.length : Int), pre ++ mkE x post.length)
  | [], pre, x, hl, h0, h1 => by
    refine E.step 1 (fun v w h1 h2 => by rewrite [h1, h2 0 (by decide)]; exact laws_markEntryS.l2_succ ..) ?_
    exact E.neg (by simp) (E.now' (by simp [mkE]))
  | e :: post, pre, x, hl, h0, h1 => by
    have hlen : (pre ++ e :: post).length = pre.length + (post.length + 1) := by simp
    simp only [List.length_cons] at h1
    have ih := markEnts_l2 post (pre ++ [(x, x + 1, x + 2, x + 3)]) (x + 4) (by simpa using hl) (by omega) (by omega)
    rw [show (pre ++ [(x, x + 1, x + 2, x + 3)]).length = pre.length + 1 from by simp, List.append_assoc] at ih
    have w1 : wrap64 (x + 1) = x + 1 := wrap_id (by omega) (by omega)
    have w2 : wrap64 (x + 1 + 1) = x + 2 := by rw [wrap_id (by omega) (by omega)]; omega
    have w3 : wrap64 (x + 2 + 1) = x + 3 := by rw [wrap_id (by omega) (by omega)]; omega
    have w4 : wrap64 (x + 3 + 1) = x + 4 := by rw [wrap_id (by omega) (by omega)]; omega
    have q1 : (pre.length : Int) < ((pre ++ e :: post).length : Int) := by omega
    have ql : ∀ y : Ent, (pre.length : Int) < ((pre ++ y :: post).length : Int) := fun y => by simp; omega
    refine E.step 1 (fun v w h1 h2 => by rewrite [h1, h2 0 (by decide)]; exact laws_markEntryS.l2_succ ..) ?_
    simp only [Int.toNat_natCast, getD_mid, set_midA]
    refine E.pos q1 (E.pos (Int.natCast_nonneg _) (E.pos q1 ?_))
    refine E.congr (fun k => laws_markEntryS.j5_eq ..) ?_
    simp only [Int.toNat_natCast, getD_mid, set_midA, w1]
    refine E.pos (Int.natCast_nonneg _) (E.pos (ql _) ?_)
    refine E.congr (fun k => laws_markEntryS.j7_eq ..) ?_
    simp only [Int.toNat_natCast, getD_mid, set_midA, w2]
    refine E.pos (Int.natCast_nonneg _) (E.pos (ql _) ?_)
    refine E.congr (fun k => laws_markEntryS.j9_eq ..) ?_
    simp only [Int.toNat_natCast, getD_mid, set_midA, w3]
    refine E.pos (Int.natCast_nonneg _) (E.pos (ql _) ?_)
    refine E.congr (fun k => laws_markEntryS.j11_eq ..) ?_
    simp only [w4]
    rw [wrap_nat (by omega)]
    have e1 : x + 4 + 4 * (post.length : Int) = x + 4 * ((e :: post).length : Int) := by rw [List.length_cons]; omega
    rw [e1] at ih
    simpa [mkE] using ih
theorem markEnts_E (l : List Ent) (x : Int) (hl : l.length < 1000000000) (h0 : 0 ≤ x) (h1 : x ≤ 100000000000) : E (fun k => laws_markEntryS (k 0) (l, x)) (x + 4 * (l.length : Int), mkE x l.length) := by
  refine E.congr (fun k => laws_markEntryS.eq (k 0) l x) ?_
  have := markEnts_l2 l [] x (by simpa using hl) h0 (by omega)
  exact E.ren (fun _ => 0) this
end Go.Proofs.YtggofaadaepdkaaG
end
section
set_option linter.unusedVariables false
namespace Go.Proofs.YtggofaadaepdkaaG
open Go Go.Refl Go.Refl.Math Go.RowKit
theorem eqFnd_E (a b : Fnd) : E (fun k => laws_eqFinding (k 0) (a, b)) (decide (a = b)) := by
  obtain ⟨a1, a2, a3⟩ := a
  obtain ⟨b1, b2, b3⟩ := b
  refine E.congr (fun k => laws_eqFinding.eq (k 0) ..) ?_
  have p := eqEnt_E a2 b2
  have q := eqEnt_E a3 b3
  refine E.ite (fun h1 => E.bind p (E.ite (fun h2 => E.now' ?_) (fun h2 => E.bind q (E.ite (fun h3 => E.now' ?_) (fun h3 => E.now' ?_))))) (fun h1 => E.now' ?_)
  all_goals (rw [Bool.eq_iff_iff]; simp only [decide_eq_true_eq, Prod.mk.injEq, Bool.not_eq_true', decide_eq_false_iff_not, Classical.not_not] at *; simp_all)
theorem eqFnds_l4 : ∀ (post post2 pre pre2 : List Fnd), (pre ++ post).length < 1000000000 → pre.length = pre2.length → post.length = post2.length → pre = pre2 →
    E (fun k => laws_eqFindingS.l4 (k 0) (k 1) (pre ++ post) (pre2 ++ post2) (pre.length : Int)) (decide (pre ++ post = pre2 ++ post2))
  | [], [], pre, pre2, hl, h1, h2, h3 => by
    refine E.step 1 (fun v w h1 h2 => by rewrite [h1, h2 0 (by decide)]; exact laws_eqFindingS.l4_succ ..) ?_
    exact E.neg (by simp) (E.now' (by simp [h3]))
  | x :: post, [], pre, pre2, hl, h1, h2, h3 => by simp at h2
  | [], y :: post2, pre, pre2, hl, h1, h2, h3 => by simp at h2
  | x :: post, y :: post2, pre, pre2, hl, h1, h2, h3 => by
    subst h3
    have hlen : (pre ++ x :: post).length = pre.length + (post.length + 1) := by simp
    have hlen2 : (pre ++ y :: post2).length = pre.length + (post2.length + 1) := by simp
    refine E.step 1 (fun v w h1 h2 => by rewrite [h1, h2 0 (by decide)]; exact laws_eqFindingS.l4_succ ..) ?_
    simp only [Int.toNat_natCast, getD_mid]
    rw [wrap_nat (by omega)]
    refine E.pos (by omega) (E.pos (by omega) (E.pos (by omega) (E.pos (by omega) (E.pos (by omega) (E.bind (eqFnd_E x y) ?_)))))
    by_cases hxy : x = y
    · subst hxy
      have ih := eqFnds_l4 post post2 (pre ++ [x]) (pre ++ [x]) (by simpa using hl) rfl (by simpa using h2) rfl
      rw [show (pre ++ [x]).length = pre.length + 1 from by simp] at ih
      refine E.neg (by simp) ?_
      simpa using ih
    · exact E.pos (by simp [hxy]) (E.now' (by simp [hxy]))
theorem eqFnds_E (a b : List Fnd) (hl : a.length < 1000000000) : E (fun k => laws_eqFindingS (k 0) (a, b)) (decide (a = b)) := by
  refine E.congr (fun k => laws_eqFindingS.eq (k 0) a b) (E.ite (fun h => ?_) (fun h => E.now' ?_))
  · exact E.ren (fun _ => 0) (eqFnds_l4 a b [] [] (by simpa using hl) rfl (by omega) rfl)
  · have : a ≠ b := fun e => h (by rw [e])
    simp [this]
def mkF (k : Int) : Nat → List Fnd
  | 0 => []
  | n + 1 => (k, (k + 1, k + 2, k + 3, k + 4), k + 5, k + 6, k + 7, k + 8) :: mkF (k + 9) n
theorem mkF_len (k : Int) : ∀ n, (mkF k n).length = n := by
  intro n
  induction n generalizing k with
  | zero => rfl
  | succ n ih => simp [mkF, ih]
theorem markFnds_l2 : ∀ (post pre : List Fnd) (x : Int), (pre ++ post).length < 1000000000 → 0 ≤ x → x + 9 * (post.length : Int) < 1000000000000 →
    E (fun k => laws_markFindingS.l2 (k 0) (k 1) x (pre.length : Int) (pre ++ post)) (x + 9 * (post.length : Int), pre ++ mkF x post.length)
  | [], pre, x, hl, h0, h1 => by
    refine E.step 1 (fun v w h1 h2 => by rewrite [h1, h2 0 (by decide)]; exact laws_markFindingS.l2_succ ..) ?_
    exact E.neg (by simp) (E.now' (by simp [mkF]))
  | e :: post, pre, x, hl, h0, h1 => by
    have hlen : (pre ++ e :: post).length = pre.length + (post.length + 1) := by simp
    simp only [List.length_cons] at h1
    have ih := markFnds_l2 post (pre ++ [(x, (x + 1, x + 2, x + 3, x + 4), x + 5, x + 6, x + 7, x + 8)]) (x + 9) (by simpa using hl) (by omega) (by omega)
    rw [show (pre ++ [(x, (x + 1, x + 2, x + 3, x + 4), x + 5, x + 6, x + 7, x + 8)]).length = pre.length + 1 from by simp, List.append_assoc] at ih
    have w1 : wrap64 (x + 1) = x + 1 := wrap_id (by omega) (by omega)
    have w2 : wrap64 (x + 1 + 1) = x + 2 := by rw [wrap_id (by omega) (by omega)]; omega
    have w3 : wrap64 (x + 2 + 1) = x + 3 := by rw [wrap_id (by omega) (by omega)]; omega
    have w4 : wrap64 (x + 3 + 1) = x + 4 := by rw [wrap_id (by omega) (by omega)]; omega
    have w5 : wrap64 (x + 4 + 1) = x + 5 := by rw [wrap_id (by omega) (by omega)]; omega
    have w6 : wrap64 (x + 5 + 1) = x + 6 := by rw [wrap_id (by omega) (by omega)]; omega
    have w7 : wrap64 (x + 6 + 1) = x + 7 := by rw [wrap_id (by omega) (by omega)]; omega
    have w8 : wrap64 (x + 7 + 1) = x + 8 := by rw [wrap_id (by omega) (by omega)]; omega
    have w9 : wrap64 (x + 8 + 1) = x + 9 := by rw [wrap_id (by omega) (by omega)]; omega
    have q1 : (pre.length : Int) < ((pre ++ e :: post).length : Int) := by omega
    have ql : ∀ y : Fnd, (pre.length : Int) < ((pre ++ y :: post).length : Int) := fun y => by simp; omega
    refine E.step 1 (fun v w h1 h2 => by rewrite [h1, h2 0 (by decide)]; exact laws_markFindingS.l2_succ ..) ?_
    simp only [Int.toNat_natCast, getD_mid, set_midA]
    refine E.pos q1 (E.pos (Int.natCast_nonneg _) (E.pos q1 ?_))
    refine E.congr (fun k => laws_markFindingS.j5_eq ..) ?_
    simp only [Int.toNat_natCast, getD_mid, set_midA, w1]
    refine E.pos (Int.natCast_nonneg _) (E.pos (ql _) ?_)
    refine E.congr (fun k => laws_markFindingS.j7_eq ..) ?_
    simp only [Int.toNat_natCast, getD_mid, set_midA, w2]
    refine E.pos (Int.natCast_nonneg _) (E.pos (ql _) ?_)
    refine E.congr (fun k => laws_markFindingS.j9_eq ..) ?_
    simp only [Int.toNat_natCast, getD_mid, set_midA, w3]
    refine E.pos (Int.natCast_nonneg _) (E.pos (ql _) ?_)
    refine E.congr (fun k => laws_markFindingS.j11_eq ..) ?_
    simp only [Int.toNat_natCast, getD_mid, set_midA, w4]
    refine E.pos (Int.natCast_nonneg _) (E.pos (ql _) ?_)
    refine E.congr (fun k => laws_markFindingS.j13_eq ..) ?_
    simp only [Int.toNat_natCast, getD_mid, set_midA, w5]
    refine E.pos (Int.natCast_nonneg _) (E.pos (ql _) ?_)
    refine E.congr (fun k => laws_markFindingS.j15_eq ..) ?_
    simp only [Int.toNat_natCast, getD_mid, set_midA, w6]
    refine E.pos (Int.natCast_nonneg _) (E.pos (ql _) ?_)
    refine E.congr (fun k => laws_markFindingS.j17_eq ..) ?_
    simp only [Int.toNat_natCast, getD_mid, set_midA, w7]
    refine E.pos (Int.natCast_nonneg _) (E.pos (ql _) ?_)
    refine E.congr (fun k => laws_markFindingS.j19_eq ..) ?_
    simp only [Int.toNat_natCast, getD_mid, set_midA, w8]
    refine E.pos (Int.natCast_nonneg _) (E.pos (ql _) ?_)
    refine E.congr (fun k => laws_markFindingS.j21_eq ..) ?_
    simp only [w9]
    rw [wrap_nat (by omega)]
    have e1 : x + 9 + 9 * (post.length : Int) = x + 9 * ((e :: post).length : Int) := by rw [List.length_cons]; omega
    rw [e1] at ih
    simpa [mkF] using ih
theorem markFnds_E (l : List Fnd) (x : Int) (hl : l.length < 1000000000) (h0 : 0 ≤ x) (h1 : x ≤ 100000000000) : E (fun k => laws_markFindingS (k 0) (l, x)) (x + 9 * (l.length : Int), mkF x l.length) := by
  refine E.congr (fun k => laws_markFindingS.eq (k 0) l x) ?_
  have := markFnds_l2 l [] x (by simpa using hl) h0 (by omega)
  exact E.ren (fun _ => 0) this
theorem heldFnds_l2 : ∀ (n : Nat) (pre : List Fnd) (x : Int), pre.length + n < 1000000000 → 0 ≤ x → x + 9 * (n : Int) < 1000000000000 →
    E (fun k => laws_heldFindingS.l2 (k 0) (k 1) (pre ++ mkF x n) x (pre.length : Int)) (x + 9 * (n : Int))
  | 0, pre, x, hl, h0, h1 => by
    refine E.step 1 (fun v w h1 h2 => by rewrite [h1, h2 0 (by decide)]; exact laws_heldFindingS.l2_succ ..) ?_
    exact E.neg (by simp [mkF]) (E.now' (by simp))
  | n + 1, pre, x, hl, h0, h1 => by
    have ih := heldFnds_l2 n (pre ++ [(x, (x + 1, x + 2, x + 3, x + 4), x + 5, x + 6, x + 7, x + 8)]) (x + 9) (by simp; omega) (by omega) (by omega)
    rw [show (pre ++ [(x, (x + 1, x + 2, x + 3, x + 4), x + 5, x + 6, x + 7, x + 8)]).length = pre.length + 1 from by simp, List.append_assoc, show x + 9 + 9 * (n : Int) = x + 9 * ((n + 1 : Nat) : Int) by omega] at ih
    have w1 : wrap64 (x + 1) = x + 1 := wrap_id (by omega) (by omega)
    have w2 : wrap64 (x + 1 + 1) = x + 2 := by rw [wrap_id (by omega) (by omega)]; omega
    have w3 : wrap64 (x + 2 + 1) = x + 3 := by rw [wrap_id (by omega) (by omega)]; omega
    have w4 : wrap64 (x + 3 + 1) = x + 4 := by rw [wrap_id (by omega) (by omega)]; omega
    have w5 : wrap64 (x + 4 + 1) = x + 5 := by rw [wrap_id (by omega) (by omega)]; omega
    have w6 : wrap64 (x + 5 + 1) = x + 6 := by rw [wrap_id (by omega) (by omega)]; omega
    have w7 : wrap64 (x + 6 + 1) = x + 7 := by rw [wrap_id (by omega) (by omega)]; omega
    have w8 : wrap64 (x + 7 + 1) = x + 8 := by rw [wrap_id (by omega) (by omega)]; omega
    have w9 : wrap64 (x + 8 + 1) = x + 9 := by rw [wrap_id (by omega) (by omega)]; omega
    have q1 : (pre.length : Int) < ((pre ++ mkF x (n + 1)).length : Int) := by rw [List.length_append, mkF_len]; omega
    have gx : (pre ++ mkF x (n + 1)).getD pre.length (0, zE, zE) = (x, (x + 1, x + 2, x + 3, x + 4), x + 5, x + 6, x + 7, x + 8) := getD_mid ..
    refine E.step 1 (fun v w h1 h2 => by rewrite [h1, h2 0 (by decide)]; exact laws_heldFindingS.l2_succ ..) ?_
    simp only [Int.toNat_natCast, gx, w1, w2, w3, w4, w5, w6, w7, w8, w9]
    rw [wrap_nat (by omega)]
    have p0 := Int.natCast_nonneg pre.length
    refine E.pos q1 (E.pos p0 (E.pos q1 (E.pos trivial (E.pos p0 (E.pos q1 (E.pos trivial (E.pos p0 (E.pos q1 (E.pos trivial (E.pos p0 (E.pos q1 (E.pos trivial ?_))))))))))))
    refine E.pos p0 (E.pos q1 (E.pos trivial (E.pos p0 (E.pos q1 (E.pos trivial (E.pos p0 (E.pos q1 (E.pos trivial (E.pos p0 (E.pos q1 (E.pos trivial (E.pos p0 (E.pos q1 (E.pos trivial ?_))))))))))))))
    exact ih
theorem heldFnds_E (n : Nat) (x : Int) (hl : n < 1000000000) (h0 : 0 ≤ x) (h1 : x ≤ 100000000000) : E (fun k => laws_heldFindingS (k 0) (mkF x n, x)) (x + 9 * (n : Int)) := by
  refine E.congr (fun k => laws_heldFindingS.eq (k 0) ..) ?_
  have := heldFnds_l2 n [] x (by simpa using hl) h0 (by omega)
  exact E.ren (fun _ => 0) this
theorem findV_le (a b : List Ent) : (findV a b).length ≤ 100 := by
  unfold findV
  split
  · rename_i h
    rw [Bool.and_eq_true] at h
    have := explP_len (onlyP a b) (onlyP b a)
    have h1 := onlyP_len a b
    have h2 := onlyP_len b a
    have h3 := (vEs_iff.1 h.1).1
    have h4 := (vEs_iff.1 h.2).1
    omega
  · simp
theorem big_not {a : List Ent} (h : ¬ a.length ≤ 900) : vEs a = false := by
  cases hc : vEs a with
  | false => rfl
  | true => have := (vEs_iff.1 hc).1; omega
theorem specExpl_big (a b : List Ent) (ha : a.length < 1000000000) (hb : b.length < 1000000000) : E (fun k => spec_ExplainBooks (k 0) (a, b)) (findV a b) := by
  by_cases h : a.length ≤ 900
  · by_cases h2 : b.length ≤ 900
    · exact specExpl_E a b h h2
    · have hv := big_not h2
      refine E.congr (fun k => spec_ExplainBooks.eq (k 0) a b) (E.bind (specValidEntries_E a (by omega)) (E.ite (fun h => E.now' ?_) (fun h => E.bind (specValidEntries_E b (by omega)) (E.pos (by rw [hv]; rfl) (E.now' ?_)))))
      all_goals (unfold findV; rw [hv, Bool.and_false]; rfl)
  · have hv := big_not h
    refine E.congr (fun k => spec_ExplainBooks.eq (k 0) a b) (E.bind (specValidEntries_E a (by omega)) (E.pos (by rw [hv]; rfl) (E.now' ?_)))
    unfold findV; rw [hv]; rfl
theorem FnExactExplainBooks_pure (a b : List Ent) (hw : WfT (.slice (.pair (.int .i64) (.pair (.int .i64) (.pair (.int .i64) (.int .i64))))) a) (hw2 : WfT (.slice (.pair (.int .i64) (.pair (.int .i64) (.pair (.int .i64) (.int .i64))))) b) : ∃ n, laws_FnExactExplainBooks n (a, b) = some true := by
  have hml := hw.1
  have hml2 := hw2.1
  have hm1 : (a.length : Int) ≤ 9223372036854775807 := by unfold maxLen at hml; omega
  have hm2 : (b.length : Int) ≤ 9223372036854775807 := by unfold maxLen at hml2; omega
  refine E.one (E.congr (fun k => laws_FnExactExplainBooks.eq (k 0) a b) (E.bind (sz_E a 1048576 (by omega) (by omega)) (E.ite (fun h => E.now _) (fun h => ?_))))
  have hl : (a.length : Int) ≤ 1048576 := by
    by_cases q : (1048576 : Int) - (a.length : Int) < 0
    · rw [if_pos q] at h; exact absurd (show (-1 : Int) < 0 by decide) h
    · omega
  rw [if_neg (by omega)]
  refine E.bind (sz_E b (1048576 - (a.length : Int)) (by omega) (by omega)) (E.ite (fun h => E.now _) (fun h => ?_))
  have hl2 : (b.length : Int) ≤ 1048576 := by
    by_cases q : (1048576 : Int) - (a.length : Int) - (b.length : Int) < 0
    · rw [if_pos q] at h; exact absurd (show (-1 : Int) < 0 by decide) h
    · omega
  have toa := toEnts_E a (by omega)
  have tob := toEnts_E b (by omega)
  have gs := specExpl_big a b (by omega) (by omega)
  have gi := implExpl_E a b
  have hb := findV_le a b
  generalize findV a b = F at gs gi hb
  have e1 := eqFnds_E F F (by omega)
  have ea := eqEnts_E a a (by omega)
  have eb := eqEnts_E b b (by omega)
  rw [show decide (F = F) = true by simp] at e1
  rw [show decide (a = a) = true by simp] at ea
  rw [show decide (b = b) = true by simp] at eb
  have m1 := markEnts_E a 1 (by omega) (by omega) (by omega)
  have m2 := markEnts_E b (1 + 4 * (a.length : Int)) (by omega) (by omega) (by omega)
  have m3 := markFnds_E F 1 (by omega) (by omega) (by omega)
  have h3 := heldFnds_E F.length 1 (by omega) (by omega) (by omega)
  refine E.bind toa (E.bind tob (E.bind gs (E.bind toa (E.bind tob (E.bind gi (E.bind e1 (E.neg (by decide) (E.bind toa (E.bind ea (E.neg (by decide) (E.bind tob (E.bind eb (E.neg (by decide) ?_)))))))))))))
  refine E.bind m1 (E.bind m2 (E.neg (by simp only; omega) (E.bind e1 (E.neg (by decide) (E.bind m3 (E.bind h3 (E.neg (by omega) (E.pos rfl ?_))))))))
  exact E.bind toa (E.bind tob (E.bind gi (E.bind e1 (E.neg (by decide) (E.bind h3 (E.neg (by omega) (E.pos rfl (E.now _))))))))
end Go.Proofs.YtggofaadaepdkaaG
end
