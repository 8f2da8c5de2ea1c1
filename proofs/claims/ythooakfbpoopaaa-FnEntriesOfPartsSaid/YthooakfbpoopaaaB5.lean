import Derived.Test.YthooakfbpoopaaaB4
/- FnEntriesOfParts: mathematics of the law. No condition. -/
set_option linter.unusedVariables false
set_option linter.unusedSimpArgs false
section
set_option linter.unusedVariables false
namespace Go.Refl.Math
open Go Go.Refl Go.RowKit
def E {α : Type} (f : (Nat → Nat) → Option α) (r : α) : Prop := ∃ K, ∀ v : Nat → Nat, (∀ i, K ≤ v i) → f v = some r
variable {α β : Type}
theorem E.now (r : α) : E (fun _ => some r) r := ⟨0, fun _ _ => rfl⟩
theorem E.now' {r r' : α} (h : r = r') : E (fun _ => some r) r' := h ▸ E.now r
theorem E.is {f : (Nat → Nat) → Option α} {r r' : α} (k : E f r) (h : r = r') : E f r' := h ▸ k
theorem E.congr {f g : (Nat → Nat) → Option α} {r : α} (h : ∀ v, f v = g v) (k : E g r) : E f r := by
  obtain ⟨K, k⟩ := k
  exact ⟨K, fun v hv => (h v).trans (k v hv)⟩
theorem E.veil (r : α) : E (fun _ => veilO r) r := E.congr (fun _ => veilO_eq r) (E.now r)
theorem E.bind {f : (Nat → Nat) → Option α} {g : (Nat → Nat) → α → Option β} {a : α} {r : β} (h : E f a) (k : E (fun v => g v a) r) : E (fun v => (f v).bind (g v)) r := by
  obtain ⟨K, h⟩ := h
  obtain ⟨L, k⟩ := k
  exact ⟨max K L, fun v hv => by
    show (f v).bind (g v) = some r
    rw [h v (fun i => Nat.le_trans (Nat.le_max_left ..) (hv i))]
    exact k v (fun i => Nat.le_trans (Nat.le_max_right ..) (hv i))⟩
theorem E.pos {c : Prop} [Decidable c] {f g : (Nat → Nat) → Option α} {r : α} (h : c) (k : E f r) : E (fun v => if c then f v else g v) r := by
  obtain ⟨K, k⟩ := k
  exact ⟨K, fun v hv => by simp only [if_pos h]; exact k v hv⟩
theorem E.neg {c : Prop} [Decidable c] {f g : (Nat → Nat) → Option α} {r : α} (h : ¬ c) (k : E g r) : E (fun v => if c then f v else g v) r := by
  obtain ⟨K, k⟩ := k
  exact ⟨K, fun v hv => by simp only [if_neg h]; exact k v hv⟩
theorem E.ite {c : Prop} [Decidable c] {f g : (Nat → Nat) → Option α} {r : α} (h1 : c → E f r) (h2 : ¬ c → E g r) : E (fun v => if c then f v else g v) r := by
  by_cases h : c
  · exact E.pos h (h1 h)
  · exact E.neg h (h2 h)
theorem E.step (i : Nat) {f g : (Nat → Nat) → Option α} {r : α} (h : ∀ v w : Nat → Nat, v i = w i + 1 → (∀ j, j ≠ i → v j = w j) → f v = g w) (k : E g r) : E f r := by
  obtain ⟨K, k⟩ := k
  refine ⟨K + 1, fun v hv => ?_⟩
  have h1 := h v (fun j => if j = i then v i - 1 else v j) (by simp; have := hv i; omega) (fun j hj => by simp [hj])
  rw [h1]
  refine k _ fun j => ?_
  by_cases hj : j = i
  · simp only [hj, if_true]; have := hv i; omega
  · simp only [hj, if_false]; have := hv j; omega
theorem E.ren (σ : Nat → Nat) {f : (Nat → Nat) → Option α} {r : α} (k : E f r) : E (fun v => f (fun i => v (σ i))) r := by
  obtain ⟨K, k⟩ := k
  exact ⟨K, fun v hv => k _ fun i => hv (σ i)⟩
theorem E.one {f : Nat → Option α} {r : α} (k : E (fun v => f (v 0)) r) : ∃ n, f n = some r := by
  obtain ⟨K, k⟩ := k
  exact ⟨K, k (fun _ => K) fun _ => Nat.le_refl _⟩
theorem wrap_id {x : Int} (h1 : -9223372036854775808 ≤ x) (h2 : x ≤ 9223372036854775807) : wrap64 x = x := by unfold wrap64; omega
theorem wrap_nat {n : Nat} (h : n < 4611686018427387904) : wrap64 ((n : Int) + 1) = ((n + 1 : Nat) : Int) := by unfold wrap64; omega
theorem getD_mid {d : α} (pre post : List α) (x : α) : (pre ++ x :: post).getD pre.length d = x := by
  simp [List.getD_eq_getElem?_getD]
theorem getD_mem {xs : List α} {i : Nat} (d : α) (h : i < xs.length) : xs.getD i d ∈ xs := by
  rw [List.getD_eq_getElem?_getD, List.getElem?_eq_getElem h]
  exact List.getElem_mem _
theorem i64w (x : Int) : IntKind.wrap .i64 x = wrap64 x := by
  rw [IntKind.wrap_i64]
  unfold wrap64
  omega
theorem xor_bd {x y : Int} (hx : 0 ≤ x) (hx2 : x < 1099511627776) (hy : 0 ≤ y) (hy2 : y < 1099511627776) :
    0 ≤ IntKind.wrap .i64 ((BitVec.toNat (BitVec.ofInt (IntKind.bits .i64) x ^^^ BitVec.ofInt (IntKind.bits .i64) y) : Nat) : Int) := by
  obtain ⟨a, rfl⟩ : ∃ a : Nat, x = a := ⟨x.toNat, by omega⟩
  obtain ⟨b, rfl⟩ : ∃ b : Nat, y = b := ⟨y.toNat, by omega⟩
  have h : (a ^^^ b) < 2 ^ 40 := Nat.xor_lt_two_pow (by omega) (by omega)
  simp only [BitVec.ofInt_natCast, BitVec.toNat_xor, BitVec.toNat_ofNat]
  rw [Nat.mod_eq_of_lt (show a < 2 ^ IntKind.i64.bits by simp [IntKind.bits]; omega), Nat.mod_eq_of_lt (show b < 2 ^ IntKind.i64.bits by simp [IntKind.bits]; omega), i64w, wrap_id (by omega) (by omega)]
  omega
def tab (n : Nat) (h : Nat → α) : List α := (List.range n).map h
theorem tab_length (n : Nat) (h : Nat → α) : (tab n h).length = n := by simp [tab]
theorem tab_get {n i : Nat} {h : Nat → α} (d : α) (hi : i < n) : (tab n h).getD i d = h i := by
  simp [tab, List.getD_eq_getElem?_getD, hi]
theorem tab_set {n : Nat} (i : Nat) {h : Nat → α} (v : α) : (tab n h).set i v = tab n (fun j => if j = i then v else h j) := by
  apply List.ext_getElem?
  intro j
  simp only [tab, List.getElem?_set, List.getElem?_map, List.length_map, List.length_range]
  by_cases hj : j < n
  · by_cases hij : i = j
    · subst hij; simp [hj]
    · simp [hj, hij, Ne.symm hij]
  · by_cases hij : i = j
    · subst hij; simp [hj]
    · simp [hj, hij]
theorem tab_ext {n : Nat} {h h' : Nat → α} (e : ∀ j, j < n → h j = h' j) : tab n h = tab n h' := by
  unfold tab
  exact List.map_congr_left (fun j hj => e j (List.mem_range.1 hj))
theorem tab_succ (n : Nat) (h : Nat → α) : tab (n + 1) h = tab n h ++ [h n] := by simp [tab, List.range_succ]
theorem replicate_tab (n : Nat) (v : α) : List.replicate n v = tab n (fun _ => v) := by
  apply List.ext_getElem?
  intro j
  simp [tab, List.getElem?_replicate]
  by_cases hj : j < n <;> simp [hj]
theorem tab_of (xs : List Int) : xs = tab xs.length (fun j => xs.getD j 0) := by
  apply List.ext_getElem?
  intro j
  by_cases hj : j < xs.length
  · simp [tab, hj, List.getD_eq_getElem?_getD]
  · simp [tab, hj]
theorem mem_tab {n : Nat} {h : Nat → α} {x : α} : x ∈ tab n h ↔ ∃ j, j < n ∧ h j = x := by simp [tab]
def allW (xs : List Int) (lo hi : Int) : Bool := xs.all fun x => decide (lo ≤ x) && decide (x ≤ hi)
theorem allW_iff {xs : List Int} {lo hi : Int} : allW xs lo hi = true ↔ ∀ x ∈ xs, lo ≤ x ∧ x ≤ hi := by simp [allW]
theorem allW_cons (x : Int) (xs : List Int) (lo hi : Int) : allW (x :: xs) lo hi = (decide (lo ≤ x) && decide (x ≤ hi) && allW xs lo hi) := by simp [allW]
def idxI (xs : List Int) (v : Int) : Int := if v ∈ xs then (xs.idxOf v : Int) else -1
theorem idxI_neg {xs : List Int} {v : Int} : idxI xs v < 0 ↔ v ∉ xs := by
  unfold idxI
  by_cases h : v ∈ xs <;> simp [h]
theorem nodup_le [DecidableEq α] : ∀ (l m : List α), l.Nodup → (∀ x ∈ l, x ∈ m) → l.length ≤ m.length
  | [], _, _, _ => Nat.zero_le _
  | a :: t, m, hn, hs => by
    have ha := hs a (List.mem_cons_self ..)
    have ih := nodup_le t (m.erase a) (List.nodup_cons.1 hn).2 (fun x hx => (List.mem_erase_of_ne (by rintro rfl; exact (List.nodup_cons.1 hn).1 hx)).2 (hs x (List.mem_cons_of_mem _ hx)))
    rw [List.length_erase_of_mem ha] at ih
    have := List.length_pos_of_mem ha
    simp
    omega
def sumN (f : Nat → Int) : Nat → Int
  | 0 => 0
  | n + 1 => sumN f n + f n
def prt (x p : Int) (i : Nat) : Int := x / p + if (i : Int) < x % p then 1 else 0
theorem spl_sum (x p : Int) (h : 0 ≤ x % p) (i : Nat) : sumN (prt x p) i = x / p * i + if (i : Int) < x % p then (i : Int) else x % p := by
  induction i with
  | zero => simp [sumN]; omega
  | succ i ih =>
    simp only [sumN]; rw [ih]; unfold prt
    rw [show x / p * ((i + 1 : Nat) : Int) = x / p * i + x / p from by rw [Int.natCast_succ, Int.mul_add, Int.mul_one]]
    generalize x / p * i = a
    generalize x / p = b
    (repeat' split) <;> omega
theorem spl_all (x : Int) (p : Nat) (hp : 0 < p) : sumN (prt x p) p = x := by
  rw [spl_sum _ _ (Int.emod_nonneg _ (by omega))]
  have := Int.emod_lt_of_pos x (show (0 : Int) < p by omega)
  have e := Int.mul_ediv_add_emod x p
  rw [if_neg (by omega), Int.mul_comm]
  exact e
theorem spl_bd {x : Int} {p : Nat} (hx : 0 ≤ x) (hp : 0 < p) (i : Nat) : 0 ≤ prt x p i ∧ prt x p i ≤ x + 1 := by
  unfold prt
  have h1 := Int.ediv_nonneg hx (show (0 : Int) ≤ p by omega)
  have h2 := Int.ediv_le_self (b := (p : Int)) hx
  constructor <;> split <;> omega
theorem mul_bd {a b A B : Int} (ha : 0 ≤ a) (hA : a ≤ A) (hb : 0 ≤ b) (hB : b ≤ B) : 0 ≤ a * b ∧ a * b ≤ A * B :=
  ⟨Int.mul_nonneg ha hb, Int.mul_le_mul hA hB hb (by omega)⟩
end Go.Refl.Math
end
section
set_option linter.unusedVariables false
namespace Go.Proofs.YthooakfbpoopaaaG
open Go Go.Refl Go.Refl.Math Go.RowKit
theorem inRange_E (n lo hi : Int) : E (fun k => spec_inRange (k 0) (n, lo, hi)) (decide (lo ≤ n) && decide (n ≤ hi)) :=
  E.congr (fun k => spec_inRange.eq (k 0) n lo hi) (E.ite (fun h => E.now' (by simp [h])) (fun h => E.now' (by simp [h])))
theorem allIn_l2 (lo hi : Int) : ∀ (post pre : List Int), (pre ++ post).length < 4611686018427387904 →
    E (fun k => spec_allIn.l2 (k 0) (k 1) (pre ++ post) lo hi (pre.length : Int)) (allW post lo hi)
  | [], pre, _ => by
    refine E.step 1 (fun v w h1 h2 => by rewrite [h1, h2 0 (by decide)]; exact spec_allIn.l2_succ ..) ?_
    exact E.neg (by simp) (E.now' (by simp [allW]))
  | x :: post, pre, hl => by
    have ih := allIn_l2 lo hi post (pre ++ [x]) (by simpa using hl)
    refine E.step 1 (fun v w h1 h2 => by rewrite [h1, h2 0 (by decide)]; exact spec_allIn.l2_succ ..) ?_
    refine E.pos (by simp; omega) (E.pos (by omega) (E.pos (by simp; omega) ?_))
    simp only [Int.toNat_natCast, getD_mid]
    rw [wrap_nat (by simp at hl; omega)]
    rw [show (pre ++ [x]).length = pre.length + 1 from by simp, List.append_assoc] at ih
    refine E.bind (E.ren (fun _ => 0) (inRange_E ..)) (E.ite (fun h => E.now' ?_) (fun h => E.is ih ?_))
    · rw [allW_cons]; simp only [Bool.not_eq_true'] at h; rw [h, Bool.false_and]
    · rw [allW_cons]; simp only [Bool.not_eq_true', Bool.not_eq_false] at h; rw [h, Bool.true_and]
theorem allIn_E (xs : List Int) (lo hi : Int) (hl : xs.length < 4611686018427387904) : E (fun k => spec_allIn (k 0) (xs, lo, hi)) (allW xs lo hi) :=
  E.congr (fun k => spec_allIn.eq (k 0) ..) (E.ren (fun _ => 0) (allIn_l2 lo hi xs [] (by simpa using hl)))
def vS (xs : List Int) : Bool := decide (1 ≤ xs.length ∧ xs.length ≤ 12) && allW xs 0 100000
theorem vS_iff {xs : List Int} : vS xs = true ↔ (1 ≤ xs.length ∧ xs.length ≤ 12) ∧ ∀ x ∈ xs, 0 ≤ x ∧ x ≤ 100000 := by
  unfold vS; rw [Bool.and_eq_true, decide_eq_true_iff, allW_iff]
theorem specValidStakes_E (xs : List Int) : E (fun k => spec_validStakes (k 0) xs) (vS xs) := by
  refine E.congr (fun k => spec_validStakes.eq (k 0) xs) (E.bind (inRange_E ..) (E.ite (fun h => ?_) (fun h => E.now' ?_)))
  · simp at h
    refine E.bind (allIn_E xs 0 100000 (by omega)) (E.now' ?_)
    unfold vS
    rw [decide_eq_true (by omega), Bool.true_and]
  · simp at h
    unfold vS
    rw [decide_eq_false (by omega), Bool.false_and]
theorem sum_bd {B : Int} : ∀ {xs : List Int}, (∀ x ∈ xs, 0 ≤ x ∧ x ≤ B) → 0 ≤ xs.sum ∧ xs.sum ≤ B * xs.length
  | [], _ => by simp
  | x :: xs, h => by
    have h1 := h x (List.mem_cons_self ..)
    have ih := sum_bd (xs := xs) fun y hy => h y (List.mem_cons_of_mem _ hy)
    simp only [List.sum_cons, List.length_cons]
    rw [show B * ((xs.length + 1 : Nat) : Int) = B * xs.length + B from by rw [Int.natCast_succ, Int.mul_add, Int.mul_one]]
    omega
theorem total_l3 : ∀ (post pre : List Int) (a : Int), (pre ++ post).length ≤ 1000000 → (∀ x ∈ post, 0 ≤ x ∧ x ≤ 1000000) → 0 ≤ a → a + 1000000 * (post.length : Int) ≤ 1000000000000000 →
    E (fun k => spec_total.l3 (k 0) (k 1) (pre ++ post) a (pre.length : Int)) (a + post.sum)
  | [], pre, a, hl, _, h0, h1 => by
    refine E.step 1 (fun v w h1 h2 => by rewrite [h1, h2 0 (by decide)]; exact spec_total.l3_succ ..) ?_
    exact E.neg (by simp) (E.now' (by simp))
  | x :: post, pre, a, hl, hx, h0, h1 => by
    have hx0 := hx x (List.mem_cons_self ..)
    simp only [List.length_cons] at h1
    have ih := total_l3 post (pre ++ [x]) (a + x) (by simpa using hl) (fun y hy => hx y (List.mem_cons_of_mem _ hy)) (by omega) (by omega)
    refine E.step 1 (fun v w h1 h2 => by rewrite [h1, h2 0 (by decide)]; exact spec_total.l3_succ ..) ?_
    refine E.pos (by simp; omega) (E.pos (by omega) (E.pos (by simp; omega) ?_))
    simp only [Int.toNat_natCast, getD_mid]
    rw [wrap_nat (by simp at hl; omega), wrap_id (by omega) (by omega)]
    rw [show (pre ++ [x]).length = pre.length + 1 from by simp, List.append_assoc] at ih
    exact E.is ih (by simp; omega)
theorem specTotal_E (xs : List Int) (hl : xs.length ≤ 1000) (h : ∀ x ∈ xs, 0 ≤ x ∧ x ≤ 1000000) : E (fun k => spec_total (k 0) xs) xs.sum :=
  E.congr (fun k => spec_total.eq (k 0) xs) (E.is (E.ren (fun _ => 0) (total_l3 xs [] 0 (by simp; omega) h (by omega) (by omega))) (by simp))
theorem sumOf_l3 : ∀ (post pre : List Int) (a : Int), (pre ++ post).length ≤ 1000000 → (∀ x ∈ post, 0 ≤ x ∧ x ≤ 1000000) → 0 ≤ a → a + 1000000 * (post.length : Int) ≤ 1000000000000000 →
    E (fun k => impl_sumOf.l3 (k 0) (k 1) a (pre ++ post) ((pre ++ post).length : Int) (pre.length : Int)) (a + post.sum)
  | [], pre, a, hl, _, h0, h1 => by
    refine E.step 1 (fun v w h1 h2 => by rewrite [h1, h2 0 (by decide)]; exact impl_sumOf.l3_succ ..) ?_
    exact E.neg (by simp) (E.now' (by simp))
  | x :: post, pre, a, hl, hx, h0, h1 => by
    have hx0 := hx x (List.mem_cons_self ..)
    simp only [List.length_cons] at h1
    have ih := sumOf_l3 post (pre ++ [x]) (a + x) (by simpa using hl) (fun y hy => hx y (List.mem_cons_of_mem _ hy)) (by omega) (by omega)
    refine E.step 1 (fun v w h1 h2 => by rewrite [h1, h2 0 (by decide)]; exact impl_sumOf.l3_succ ..) ?_
    refine E.pos (by simp; omega) (E.pos (by omega) (E.pos (by simp; omega) ?_))
    simp only [Int.toNat_natCast, getD_mid]
    rw [wrap_nat (by simp at hl; omega), wrap_id (by omega) (by omega)]
    rw [show (pre ++ [x]).length = pre.length + 1 from by simp, List.append_assoc] at ih
    exact E.is ih (by simp; omega)
theorem sumOf_E (xs : List Int) (hl : xs.length ≤ 1000) (h : ∀ x ∈ xs, 0 ≤ x ∧ x ≤ 1000000) : E (fun k => impl_sumOf (k 0) xs) xs.sum :=
  E.congr (fun k => impl_sumOf.eq (k 0) xs) (E.is (E.ren (fun _ => 0) (sumOf_l3 xs [] 0 (by simp; omega) h (by omega) (by omega))) (by simp))
abbrev Ln := Int × Int × List Int
def lentS (ls : List Ln) : Int := (ls.map fun l => l.2.1).sum
theorem lentS_bd {ls : List Ln} (h : ∀ l ∈ ls, 0 ≤ l.2.1 ∧ l.2.1 ≤ 100000) : 0 ≤ lentS ls ∧ lentS ls ≤ 100000 * ls.length := by
  have := sum_bd (B := 100000) (xs := ls.map fun l => l.2.1) (fun x hx => by obtain ⟨l, hl, rfl⟩ := List.mem_map.1 hx; exact h l hl)
  simpa [lentS] using this
theorem lent_l3 : ∀ (post pre : List Ln) (a : Int), (pre ++ post).length ≤ 1000000 → (∀ x ∈ post, 0 ≤ x.2.1 ∧ x.2.1 ≤ 1000000) → 0 ≤ a → a + 1000000 * (post.length : Int) ≤ 1000000000000000 →
    E (fun k => spec_lent.l3 (k 0) (k 1) (pre ++ post) a (pre.length : Int)) (a + lentS post)
  | [], pre, a, hl, _, h0, h1 => by
    refine E.step 1 (fun v w h1 h2 => by rewrite [h1, h2 0 (by decide)]; exact spec_lent.l3_succ ..) ?_
    exact E.neg (by simp) (E.now' (by simp [lentS]))
  | x :: post, pre, a, hl, hx, h0, h1 => by
    have hx0 := hx x (List.mem_cons_self ..)
    simp only [List.length_cons] at h1
    have ih := lent_l3 post (pre ++ [x]) (a + x.2.1) (by simpa using hl) (fun y hy => hx y (List.mem_cons_of_mem _ hy)) (by omega) (by omega)
    refine E.step 1 (fun v w h1 h2 => by rewrite [h1, h2 0 (by decide)]; exact spec_lent.l3_succ ..) ?_
    refine E.pos (by simp; omega) (E.pos (by omega) (E.pos (by simp; omega) ?_))
    simp only [Int.toNat_natCast, getD_mid]
    rw [wrap_nat (by simp at hl; omega), wrap_id (by omega) (by omega)]
    rw [show (pre ++ [x]).length = pre.length + 1 from by simp, List.append_assoc] at ih
    exact E.is ih (by simp [lentS]; omega)
theorem specLent_E (ls : List Ln) (hl : ls.length ≤ 1000) (h : ∀ l ∈ ls, 0 ≤ l.2.1 ∧ l.2.1 ≤ 1000000) : E (fun k => spec_lent (k 0) ls) (lentS ls) :=
  E.congr (fun k => spec_lent.eq (k 0) ls) (E.is (E.ren (fun _ => 0) (lent_l3 ls [] 0 (by simp; omega) h (by omega) (by omega))) (by simp))
theorem loansOf_l3 : ∀ (post pre : List Ln) (a : Int), (pre ++ post).length ≤ 1000000 → (∀ x ∈ post, 0 ≤ x.2.1 ∧ x.2.1 ≤ 1000000) → 0 ≤ a → a + 1000000 * (post.length : Int) ≤ 1000000000000000 →
    E (fun k => impl_loansOf.l3 (k 0) (k 1) a (pre ++ post) ((pre ++ post).length : Int) (pre.length : Int)) (a + lentS post)
  | [], pre, a, hl, _, h0, h1 => by
    refine E.step 1 (fun v w h1 h2 => by rewrite [h1, h2 0 (by decide)]; exact impl_loansOf.l3_succ ..) ?_
    exact E.neg (by simp) (E.now' (by simp [lentS]))
  | x :: post, pre, a, hl, hx, h0, h1 => by
    have hx0 := hx x (List.mem_cons_self ..)
    simp only [List.length_cons] at h1
    have ih := loansOf_l3 post (pre ++ [x]) (a + x.2.1) (by simpa using hl) (fun y hy => hx y (List.mem_cons_of_mem _ hy)) (by omega) (by omega)
    refine E.step 1 (fun v w h1 h2 => by rewrite [h1, h2 0 (by decide)]; exact impl_loansOf.l3_succ ..) ?_
    refine E.pos (by simp; omega) (E.pos (by omega) (E.pos (by simp; omega) ?_))
    simp only [Int.toNat_natCast, getD_mid]
    rw [wrap_nat (by simp at hl; omega), wrap_id (by omega) (by omega)]
    rw [show (pre ++ [x]).length = pre.length + 1 from by simp, List.append_assoc] at ih
    exact E.is ih (by simp [lentS]; omega)
theorem loansOf_E (ls : List Ln) (hl : ls.length ≤ 1000) (h : ∀ l ∈ ls, 0 ≤ l.2.1 ∧ l.2.1 ≤ 1000000) : E (fun k => impl_loansOf (k 0) ls) (lentS ls) :=
  E.congr (fun k => impl_loansOf.eq (k 0) ls) (E.is (E.ren (fun _ => 0) (loansOf_l3 ls [] 0 (by simp; omega) h (by omega) (by omega))) (by simp))
theorem allWithin_l2 (lo hi : Int) : ∀ (post pre : List Int), (pre ++ post).length < 4611686018427387904 →
    E (fun k => impl_allWithin.l2 (k 0) (k 1) lo hi (pre ++ post) ((pre ++ post).length : Int) (pre.length : Int)) (allW post lo hi)
  | [], pre, _ => by
    refine E.step 1 (fun v w h1 h2 => by rewrite [h1, h2 0 (by decide)]; exact impl_allWithin.l2_succ ..) ?_
    exact E.neg (by simp) (E.now' (by simp [allW]))
  | x :: post, pre, hl => by
    have ih := allWithin_l2 lo hi post (pre ++ [x]) (by simpa using hl)
    refine E.step 1 (fun v w h1 h2 => by rewrite [h1, h2 0 (by decide)]; exact impl_allWithin.l2_succ ..) ?_
    refine E.pos (by simp; omega) (E.pos (by omega) (E.pos (by simp; omega) ?_))
    simp only [Int.toNat_natCast, getD_mid]
    rw [wrap_nat (by simp at hl; omega)]
    rw [show (pre ++ [x]).length = pre.length + 1 from by simp, List.append_assoc] at ih
    refine E.ite (fun h => E.now' (by simp [allW]; omega)) (fun h => E.ite (fun h2 => E.now' (by simp [allW]; omega)) (fun h2 => E.is ih ?_))
    rw [allW_cons]
    simp; omega
theorem allWithin_E (xs : List Int) (lo hi : Int) (hl : xs.length < 4611686018427387904) : E (fun k => impl_allWithin (k 0) (xs, lo, hi)) (allW xs lo hi) :=
  E.congr (fun k => impl_allWithin.eq (k 0) ..) (E.ren (fun _ => 0) (allWithin_l2 lo hi xs [] (by simpa using hl)))
theorem implValidStakes_E (xs : List Int) : E (fun k => impl_validStakes (k 0) xs) (vS xs) := by
  refine E.congr (fun k => impl_validStakes.eq (k 0) xs) (E.ite (fun h => E.ite (fun h2 => ?_) (fun h2 => E.now' ?_)) (fun h => E.now' ?_))
  · refine E.bind (allWithin_E xs 0 100000 (by omega)) (E.now' ?_)
    unfold vS
    rw [decide_eq_true (by omega), Bool.true_and]
  · unfold vS
    rw [decide_eq_false (by omega), Bool.false_and]
  · unfold vS
    rw [decide_eq_false (by omega), Bool.false_and]
theorem index_l2 (v : Int) : ∀ (post pre : List Int), (pre ++ post).length < 4611686018427387904 → v ∉ pre →
    E (fun k => slices_Index_int.l2 (k 0) (k 1) (pre ++ post) v ((pre ++ post).length : Int) (pre.length : Int)) (idxI (pre ++ post) v)
  | [], pre, _, hv => by
    refine E.step 1 (fun v w h1 h2 => by rewrite [h1, h2 0 (by decide)]; exact slices_Index_int.l2_succ ..) ?_
    exact E.neg (by simp) (E.now' (by simp [idxI, hv]))
  | x :: post, pre, hl, hv => by
    refine E.step 1 (fun v w h1 h2 => by rewrite [h1, h2 0 (by decide)]; exact slices_Index_int.l2_succ ..) ?_
    refine E.pos (by simp; omega) (E.pos (by omega) (E.pos (by simp; omega) ?_))
    simp only [Int.toNat_natCast, getD_mid]
    rw [wrap_nat (by simp at hl; omega)]
    refine E.ite (fun h => E.now' ?_) (fun h => ?_)
    · subst h
      simp [idxI, List.idxOf_append, hv]
    · have ih := index_l2 v post (pre ++ [x]) (by simpa using hl) (by simp [hv, h])
      rwa [show (pre ++ [x]).length = pre.length + 1 from by simp, List.append_assoc] at ih
theorem index_E (xs : List Int) (v : Int) (hl : xs.length < 4611686018427387904) : E (fun k => slices_Index_int (k 0) (xs, v)) (idxI xs v) :=
  E.congr (fun k => slices_Index_int.eq (k 0) ..) (E.ren (fun _ => 0) (index_l2 v xs [] (by simpa using hl) (by simp)))
theorem contains_E (xs : List Int) (v : Int) (hl : xs.length < 4611686018427387904) : E (fun k => slices_Contains_int (k 0) (xs, v)) (decide (v ∈ xs)) :=
  E.congr (fun k => slices_Contains_int.eq (k 0) ..) (E.bind (index_E xs v hl) (E.now' (by
    have := @idxI_neg xs v
    by_cases h : v ∈ xs
    · simp only [h, decide_true, decide_eq_true_eq]; have := mt this.1 (by simpa using h); omega
    · simp only [h, decide_false, decide_eq_false_iff_not]; have := this.2 h; omega)))
theorem placeIn_l2 (v : Int) : ∀ (post pre : List Int), (pre ++ post).length < 4611686018427387904 → v ∉ pre →
    E (fun k => spec_placeIn.l2 (k 0) (k 1) (pre ++ post) v (pre.length : Int)) (idxI (pre ++ post) v)
  | [], pre, _, hv => by
    refine E.step 1 (fun v w h1 h2 => by rewrite [h1, h2 0 (by decide)]; exact spec_placeIn.l2_succ ..) ?_
    exact E.neg (by simp) (E.now' (by simp [idxI, hv]))
  | x :: post, pre, hl, hv => by
    refine E.step 1 (fun v w h1 h2 => by rewrite [h1, h2 0 (by decide)]; exact spec_placeIn.l2_succ ..) ?_
    refine E.pos (by simp; omega) (E.pos (by omega) (E.pos (by simp; omega) ?_))
    simp only [Int.toNat_natCast, getD_mid]
    rw [wrap_nat (by simp at hl; omega)]
    refine E.ite (fun h => E.now' ?_) (fun h => ?_)
    · subst h
      simp [idxI, List.idxOf_append, hv]
    · have ih := placeIn_l2 v post (pre ++ [x]) (by simpa using hl) (by simp [hv, Ne.symm h])
      rwa [show (pre ++ [x]).length = pre.length + 1 from by simp, List.append_assoc] at ih
theorem placeIn_E (xs : List Int) (v : Int) (hl : xs.length < 4611686018427387904) : E (fun k => spec_placeIn (k 0) (xs, v)) (idxI xs v) :=
  E.congr (fun k => spec_placeIn.eq (k 0) ..) (E.ren (fun _ => 0) (placeIn_l2 v xs [] (by simpa using hl) (by simp)))
def diffB (xs : List Int) (n : Int) : Bool := decide ((xs.length : Int) ≤ n) && allW xs 0 (n - 1) && decide xs.Nodup
theorem diffB_iff {xs : List Int} {n : Int} : diffB xs n = true ↔ (xs.length : Int) ≤ n ∧ (∀ x ∈ xs, 0 ≤ x ∧ x ≤ n - 1) ∧ xs.Nodup := by
  unfold diffB
  rw [Bool.and_eq_true, Bool.and_eq_true, allW_iff, decide_eq_true_iff, decide_eq_true_iff]
  exact ⟨fun h => ⟨h.1.1, h.1.2, h.2⟩, fun h => ⟨⟨h.1, h.2.1⟩, h.2.2⟩⟩
theorem diffB_len {xs : List Int} {n : Int} (h : diffB xs n = true) : (xs.length : Int) ≤ n := (diffB_iff.1 h).1
theorem differentBelow_l5 (n : Nat) : ∀ (post pre : List Int) (seen : Nat → Bool), (pre ++ post).length < 4611686018427387904 →
    (∀ j, j < n → (seen j = true ↔ (j : Int) ∈ pre)) →
    E (fun k => impl_differentBelow.l5 (k 0) (k 1) (n : Int) (pre ++ post) ((pre ++ post).length : Int) (pre.length : Int) (tab n seen)) (allW post 0 ((n : Int) - 1) && decide (post.Nodup ∧ ∀ x ∈ post, x ∉ pre))
  | [], pre, _, _, _ => by
    refine E.step 1 (fun v w h1 h2 => by rewrite [h1, h2 0 (by decide)]; exact impl_differentBelow.l5_succ ..) ?_
    exact E.neg (by simp) (E.now' (by simp [allW]))
  | x :: post, pre, seen, hl, hs => by
    refine E.step 1 (fun v w h1 h2 => by rewrite [h1, h2 0 (by decide)]; exact impl_differentBelow.l5_succ ..) ?_
    refine E.pos (by simp; omega) (E.pos (by omega) (E.pos (by simp; omega) ?_))
    simp only [Int.toNat_natCast, getD_mid]
    rw [wrap_nat (by simp at hl; omega)]
    refine E.ite (fun h => E.now' (by simp [allW]; omega)) (fun h => E.ite (fun h2 => E.now' (by simp [allW]; omega)) (fun h2 => ?_))
    obtain ⟨m, rfl⟩ : ∃ m : Nat, x = m := ⟨x.toNat, by omega⟩
    have hm : m < n := by omega
    have hsm := hs m hm
    refine E.pos (by omega) (E.pos (by rw [tab_length]; omega) ?_)
    simp only [Int.toNat_natCast, tab_get _ hm, tab_set]
    refine E.ite (fun h3 => E.now' ?_) (fun h3 => E.pos (by omega) (E.pos (by rw [tab_length]; omega) ?_))
    · have := hsm.1 h3
      simp [this]
    · have hmp : (m : Int) ∉ pre := fun hh => h3 (hsm.2 hh)
      have ih := differentBelow_l5 n post (pre ++ [(m : Int)]) (fun j => if j = m then true else seen j) (by simpa using hl) (by
        intro j hj
        by_cases e : j = m
        · subst e; simp
        · have := hs j hj
          simp only [if_neg e, this, List.mem_append, List.mem_cons, List.not_mem_nil, or_false]
          constructor
          · exact fun hh => .inl hh
          · rintro (hh | hh)
            · exact hh
            · exact absurd (by omega) e)
      rw [show (pre ++ [(m : Int)]).length = pre.length + 1 from by simp, List.append_assoc] at ih
      refine E.is ih ?_
      rw [allW_cons]
      have e1 : (decide ((0 : Int) ≤ m) && decide ((m : Int) ≤ (n : Int) - 1)) = true := by simp; omega
      rw [e1, Bool.true_and]
      congr 1
      simp only [List.nodup_cons, List.mem_append, List.mem_cons, List.not_mem_nil, or_false, decide_eq_decide]
      constructor
      · rintro ⟨h1, h4⟩
        refine ⟨⟨fun hh => (h4 _ hh) (.inr rfl), h1⟩, ?_⟩
        rintro y (rfl | hy)
        · exact hmp
        · exact fun hh => h4 y hy (.inl hh)
      · rintro ⟨⟨h1, h4⟩, h5⟩
        refine ⟨h4, fun y hy => ?_⟩
        rintro (hh | rfl)
        · exact h5 y (.inr hy) hh
        · exact h1 hy
theorem differentBelow_E (xs : List Int) (n : Int) (h0 : 0 ≤ n) (hn : n ≤ 1000000) : E (fun k => impl_differentBelow (k 0) (xs, n)) (diffB xs n) := by
  obtain ⟨m, rfl⟩ : ∃ m : Nat, n = m := ⟨n.toNat, by omega⟩
  refine E.congr (fun k => impl_differentBelow.eq (k 0) xs _) (E.ite (fun h => E.now' ?_) (fun h => E.pos (by omega) (E.pos (by omega) (E.pos (by simp only [maxN]; omega) ?_))))
  · simp [diffB]; omega
  · rw [Int.toNat_natCast, replicate_tab]
    have := differentBelow_l5 m xs [] (fun _ => false) (by simp; omega) (by simp)
    refine E.is (E.ren (fun _ => 0) this) ?_
    have e : decide ((xs.length : Int) ≤ m) = true := by simp; omega
    simp only [diffB, e, Bool.true_and]
    simp
def vL (l : Ln) (m : Int) : Bool := decide (0 ≤ l.1 ∧ l.1 < m ∧ 1 ≤ l.2.1 ∧ l.2.1 ≤ 100000 ∧ 1 ≤ l.2.2.length) && diffB l.2.2 m && decide (l.1 ∉ l.2.2)
def vLs (ls : List Ln) (m : Int) : Bool := decide (ls.length ≤ 16 ∧ 1 ≤ m ∧ m ≤ 12) && ls.all fun l => vL l m
theorem vL_iff {l : Ln} {m : Int} : vL l m = true ↔ (0 ≤ l.1 ∧ l.1 < m ∧ 1 ≤ l.2.1 ∧ l.2.1 ≤ 100000 ∧ 1 ≤ l.2.2.length) ∧ ((l.2.2.length : Int) ≤ m ∧ (∀ x ∈ l.2.2, 0 ≤ x ∧ x ≤ m - 1) ∧ l.2.2.Nodup) ∧ l.1 ∉ l.2.2 := by
  unfold vL
  rw [Bool.and_eq_true, Bool.and_eq_true, decide_eq_true_iff, decide_eq_true_iff, diffB_iff]
  exact ⟨fun h => ⟨h.1.1, h.1.2, h.2⟩, fun h => ⟨⟨h.1, h.2.1⟩, h.2.2⟩⟩
theorem vLs_iff {ls : List Ln} {m : Int} : vLs ls m = true ↔ (ls.length ≤ 16 ∧ 1 ≤ m ∧ m ≤ 12) ∧ ∀ l ∈ ls, vL l m = true := by
  unfold vLs
  rw [Bool.and_eq_true, decide_eq_true_iff, List.all_eq_true]
theorem implValidLoans_l4 (m : Int) (hm : 1 ≤ m ∧ m ≤ 12) : ∀ (post pre : List Ln), (pre ++ post).length ≤ 16 →
    E (fun k => impl_ValidLoans.l4 (k 0) (k 1) m (pre ++ post) ((pre ++ post).length : Int) (pre.length : Int)) (post.all fun l => vL l m)
  | [], pre, _ => by
    refine E.step 1 (fun v w h1 h2 => by rewrite [h1, h2 0 (by decide)]; exact impl_ValidLoans.l4_succ ..) ?_
    exact E.neg (by simp) (E.now _)
  | x :: post, pre, hl => by
    have ih := implValidLoans_l4 m hm post (pre ++ [x]) (by simpa using hl)
    rw [show (pre ++ [x]).length = pre.length + 1 from by simp, List.append_assoc] at ih
    have no : vL x m ≠ true → false = ((x :: post).all fun l => vL l m) := by
      intro h
      rw [List.all_cons, Bool.eq_false_iff.2 h, Bool.false_and]
    refine E.step 1 (fun v w h1 h2 => by rewrite [h1, h2 0 (by decide)]; exact impl_ValidLoans.l4_succ ..) ?_
    refine E.pos (by simp; omega) (E.pos (by omega) (E.pos (by simp; omega) ?_))
    simp only [Int.toNat_natCast, getD_mid]
    refine E.ite (fun h => E.now' (no fun hv => by have := (vL_iff.1 hv).1; omega)) (fun h1 => E.ite (fun h => E.now' (no fun hv => by have := (vL_iff.1 hv).1; omega)) (fun h2 => E.ite (fun h => E.now' (no fun hv => by have := (vL_iff.1 hv).1; omega)) (fun h3 => E.ite (fun h => E.now' (no fun hv => by have := (vL_iff.1 hv).1; omega)) (fun h4 => E.ite (fun h => E.now' (no fun hv => by have := (vL_iff.1 hv).1; omega)) (fun h5 => ?_)))))
    refine E.bind (E.ren (fun _ => 0) (differentBelow_E x.2.2 m (by omega) (by omega))) (E.ite (fun h => E.now' (no fun hv => ?_)) (fun hd => ?_))
    · rw [diffB_iff.2 (vL_iff.1 hv).2.1] at h; cases h
    simp only [Bool.not_eq_true', Bool.not_eq_false] at hd
    refine E.bind (E.ren (fun _ => 0) (contains_E x.2.2 x.1 (by have := diffB_len hd; omega))) (E.ite (fun h => E.now' (no fun hv => ?_)) (fun hc => ?_))
    · exact (vL_iff.1 hv).2.2 (by simpa using h)
    · rw [wrap_nat (by simp at hl; omega)]
      refine E.is ih ?_
      rw [List.all_cons, vL_iff.2 ⟨⟨by omega, by omega, by omega, by omega, by omega⟩, diffB_iff.1 hd, by simpa using hc⟩, Bool.true_and]
theorem implValidLoans_E (ls : List Ln) (m : Int) : E (fun k => impl_ValidLoans (k 0) (ls, m)) (vLs ls m) := by
  have no : ¬ (ls.length ≤ 16 ∧ 1 ≤ m ∧ m ≤ 12) → false = vLs ls m := by
    intro h; unfold vLs; rw [decide_eq_false h, Bool.false_and]
  refine E.congr (fun k => impl_ValidLoans.eq (k 0) ls m) (E.ite (fun h => E.now' (no (by omega))) fun h => E.ite (fun h2 => E.now' (no (by omega))) fun h2 => E.ite (fun h3 => E.now' (no (by omega))) fun h3 => ?_)
  refine E.is (E.ren (fun _ => 0) (implValidLoans_l4 m (by omega) ls [] (by simp; omega))) ?_
  unfold vLs
  rw [decide_eq_true (by omega), Bool.true_and]
theorem len_of {xs : List Int} {m : Int} (h0 : 0 ≤ m) (h : ∀ x ∈ xs, 0 ≤ x ∧ x ≤ m - 1) (hn : xs.Nodup) : (xs.length : Int) ≤ m := by
  have := nodup_le xs (tab m.toNat fun j => (j : Int)) hn (fun x hx => mem_tab.2 ⟨x.toNat, by have := h x hx; omega, by have := h x hx; omega⟩)
  rw [tab_length] at this
  omega
theorem validMembers_l2 (m : Int) (h0 : 0 ≤ m) (hm : m ≤ 1000000) : ∀ (post pre : List Int), (pre ++ post).length < 4611686018427387904 →
    E (fun k => spec_validMembers.l2 (k 0) (k 1) (pre ++ post) m (pre.length : Int)) (allW post 0 (m - 1) && decide (post.Nodup ∧ ∀ x ∈ post, x ∉ pre))
  | [], pre, _ => by
    refine E.step 1 (fun v w h1 h2 => by rewrite [h1, h2 0 (by decide)]; exact spec_validMembers.l2_succ ..) ?_
    exact E.neg (by simp) (E.now' (by simp [allW]))
  | x :: post, pre, hl => by
    have ih := validMembers_l2 m h0 hm post (pre ++ [x]) (by simpa using hl)
    rw [show (pre ++ [x]).length = pre.length + 1 from by simp, List.append_assoc] at ih
    refine E.step 1 (fun v w h1 h2 => by rewrite [h1, h2 0 (by decide)]; exact spec_validMembers.l2_succ ..) ?_
    refine E.pos (by simp; omega) (E.pos (by omega) (E.pos (by simp; omega) ?_))
    simp only [Int.toNat_natCast, getD_mid]
    rw [wrap_nat (by simp at hl; omega), wrap_id (x := m - 1) (by omega) (by omega), List.take_left]
    refine E.bind (E.ren (fun _ => 0) (inRange_E x 0 (m - 1))) (E.ite (fun h => E.now' ?_) (fun h => ?_))
    · rw [allW_cons]; simp only [Bool.not_eq_true'] at h; rw [h, Bool.false_and, Bool.false_and]
    simp only [Bool.not_eq_true', Bool.not_eq_false] at h
    refine E.pos (by omega) (E.pos (by simp; omega) (E.pos (by omega) (E.pos (by simp; omega) ?_)))
    refine E.bind (E.ren (fun _ => 0) (placeIn_E pre x (by simp at hl; omega))) (E.ite (fun h2 => E.now' ?_) (fun h2 => E.is ih ?_))
    · have : x ∈ pre := Classical.byContradiction fun hh => by have := idxI_neg.2 hh; omega
      simp [this]
    · have hx : x ∉ pre := idxI_neg.1 (by omega)
      rw [allW_cons, h, Bool.true_and]
      congr 1
      simp only [List.nodup_cons, List.mem_append, List.mem_cons, List.not_mem_nil, or_false, decide_eq_decide]
      constructor
      · rintro ⟨h1, h4⟩
        refine ⟨⟨fun hh => (h4 _ hh) (.inr rfl), h1⟩, ?_⟩
        rintro y (rfl | hy)
        · exact hx
        · exact fun hh => h4 y hy (.inl hh)
      · rintro ⟨⟨h1, h4⟩, h5⟩
        refine ⟨h4, fun y hy => ?_⟩
        rintro (hh | rfl)
        · exact h5 y (.inr hy) hh
        · exact h1 hy
theorem validMembers_E (xs : List Int) (m : Int) (h0 : 0 ≤ m) (hm : m ≤ 1000000) (hl : xs.length < 4611686018427387904) : E (fun k => spec_validMembers (k 0) (xs, m)) (diffB xs m) := by
  refine E.congr (fun k => spec_validMembers.eq (k 0) ..) (E.is (E.ren (fun _ => 0) (validMembers_l2 m h0 hm xs [] (by simpa using hl))) ?_)
  unfold diffB
  by_cases h : allW xs 0 (m - 1) = true
  · by_cases h2 : xs.Nodup
    · have := len_of h0 (allW_iff.1 h) h2
      simp [h, h2, this]
    · simp [h2]
  · rw [Bool.not_eq_true] at h
    simp [h]
theorem specValidLoans_l2 (m : Int) (h0 : 0 ≤ m) (hm : m ≤ 1000000) : ∀ (post pre : List Ln), (pre ++ post).length < 4611686018427387904 → (∀ l ∈ post, l.2.2.length < 4611686018427387904) →
    E (fun k => spec_validLoans.l2 (k 0) (k 1) (pre ++ post) m (pre.length : Int)) ((post.all fun l => vL l m) && decide ((pre ++ post).length ≤ 16 ∧ 1 ≤ m ∧ m ≤ 12))
  | [], pre, _, _ => by
    refine E.step 1 (fun v w h1 h2 => by rewrite [h1, h2 0 (by decide)]; exact spec_validLoans.l2_succ ..) ?_
    refine E.neg (by simp) (E.ite (fun h => E.bind (E.ren (fun _ => 0) (inRange_E m 1 12)) (E.now' ?_)) (fun h => E.now' ?_))
    · simp at h ⊢
      intros
      omega
    · simp at h ⊢
      omega
  | x :: post, pre, hl, hi => by
    have ih := specValidLoans_l2 m h0 hm post (pre ++ [x]) (by simpa using hl) (fun l h => hi l (List.mem_cons_of_mem _ h))
    rw [show (pre ++ [x]).length = pre.length + 1 from by simp, List.append_assoc] at ih
    have hix := hi x (List.mem_cons_self ..)
    have no : vL x m ≠ true → false = (((x :: post).all fun l => vL l m) && decide ((pre ++ x :: post).length ≤ 16 ∧ 1 ≤ m ∧ m ≤ 12)) := by
      intro h
      rw [List.all_cons, Bool.eq_false_iff.2 h, Bool.false_and, Bool.false_and]
    refine E.step 1 (fun v w h1 h2 => by rewrite [h1, h2 0 (by decide)]; exact spec_validLoans.l2_succ ..) ?_
    refine E.pos (by simp; omega) (E.pos (by omega) (E.pos (by simp; omega) ?_))
    simp only [Int.toNat_natCast, getD_mid]
    rw [wrap_nat (by simp at hl; omega), wrap_id (x := m - 1) (by omega) (by omega)]
    refine E.bind (E.ren (fun _ => 0) (inRange_E x.1 0 (m - 1))) (E.ite (fun h => E.now' (no fun hv => ?_)) (fun h1 => ?_))
    · have := (vL_iff.1 hv).1; simp at h; omega
    refine E.bind (E.ren (fun _ => 0) (inRange_E x.2.1 1 100000)) (E.ite (fun h => E.now' (no fun hv => ?_)) (fun h2 => ?_))
    · have := (vL_iff.1 hv).1; simp at h; omega
    simp at h1 h2
    refine E.ite (fun h => E.now' (no fun hv => ?_)) (fun h3 => ?_)
    · have := (vL_iff.1 hv).1; omega
    refine E.bind (E.ren (fun _ => 0) (validMembers_E x.2.2 m h0 hm hix)) (E.ite (fun h => E.now' (no fun hv => ?_)) (fun hd => ?_))
    · rw [diffB_iff.2 (vL_iff.1 hv).2.1] at h; cases h
    simp only [Bool.not_eq_true', Bool.not_eq_false] at hd
    refine E.bind (E.ren (fun _ => 0) (placeIn_E x.2.2 x.1 hix)) (E.ite (fun h => E.now' (no fun hv => ?_)) (fun hc => E.is ih ?_))
    · have := idxI_neg.2 (vL_iff.1 hv).2.2; omega
    · have hc' : x.1 ∉ x.2.2 := idxI_neg.1 (by omega)
      rw [List.all_cons, vL_iff.2 ⟨⟨by omega, by omega, by omega, by omega, by omega⟩, diffB_iff.1 hd, hc'⟩, Bool.true_and]
      simp
theorem specValidLoans_E (ls : List Ln) (m : Int) (h0 : 0 ≤ m) (hm : m ≤ 1000000) (hl : ls.length < 4611686018427387904) (hi : ∀ l ∈ ls, l.2.2.length < 4611686018427387904) : E (fun k => spec_validLoans (k 0) (ls, m)) (vLs ls m) := by
  refine E.congr (fun k => spec_validLoans.eq (k 0) ..) (E.is (E.ren (fun _ => 0) (specValidLoans_l2 m h0 hm ls [] (by simpa using hl) hi)) ?_)
  unfold vLs
  rw [Bool.and_comm]
  rfl
abbrev Clb := List Int × List Ln × Int × Int × Int
def vC (c : Clb) : Bool := vS c.1 && (vLs c.2.1 c.1.length && decide (0 ≤ c.2.2.1 ∧ c.2.2.1 ≤ 1000000 ∧ -1000000 ≤ c.2.2.2.1 ∧ c.2.2.2.1 ≤ 1000000 ∧ 0 ≤ c.2.2.2.2 ∧ c.2.2.2.2 ≤ 999 ∧ c.2.2.1 + lentS c.2.1 = c.1.sum + c.2.2.2.1))
theorem vL_amt {l : Ln} {m : Int} (h : vL l m = true) : 0 ≤ l.2.1 ∧ l.2.1 ≤ 1000000 := by have := (vL_iff.1 h).1; omega
theorem vLs_amt {ls : List Ln} {m : Int} (h : vLs ls m = true) : ∀ l ∈ ls, 0 ≤ l.2.1 ∧ l.2.1 ≤ 1000000 := fun l hl => vL_amt ((vLs_iff.1 h).2 l hl)
theorem vC_sums {c : Clb} (h1 : vS c.1 = true) (h2 : vLs c.2.1 c.1.length = true) : 0 ≤ c.1.sum ∧ c.1.sum ≤ 100000 * 12 ∧ 0 ≤ lentS c.2.1 ∧ lentS c.2.1 ≤ 100000 * 16 := by
  obtain ⟨a, b⟩ := vS_iff.1 h1
  have s := sum_bd b
  have l := lentS_bd (ls := c.2.1) fun l hl => by have := (vL_iff.1 ((vLs_iff.1 h2).2 l hl)).1; omega
  have := (vLs_iff.1 h2).1
  omega
theorem specValidClub_E (c : Clb) (hl : c.2.1.length < 4611686018427387904) (hi : ∀ l ∈ c.2.1, l.2.2.length < 4611686018427387904) : E (fun k => spec_validClub (k 0) c) (vC c) := by
  refine E.congr (fun k => spec_validClub.eq (k 0) c) (E.bind (specValidStakes_E c.1) (E.ite (fun h => E.now' ?_) (fun h1 => ?_)))
  · simp only [Bool.not_eq_true'] at h; unfold vC; rw [h, Bool.false_and]
  simp only [Bool.not_eq_true', Bool.not_eq_false] at h1
  have hs := vS_iff.1 h1
  refine E.bind (specValidLoans_E c.2.1 c.1.length (by omega) (by omega) hl hi) (E.ite (fun h => E.now' ?_) (fun h2 => ?_))
  · simp only [Bool.not_eq_true'] at h; unfold vC; rw [h, Bool.false_and, Bool.and_false]
  simp only [Bool.not_eq_true', Bool.not_eq_false] at h2
  have hb := vC_sums h1 h2
  have e : vC c = decide (0 ≤ c.2.2.1 ∧ c.2.2.1 ≤ 1000000 ∧ -1000000 ≤ c.2.2.2.1 ∧ c.2.2.2.1 ≤ 1000000 ∧ 0 ≤ c.2.2.2.2 ∧ c.2.2.2.2 ≤ 999 ∧ c.2.2.1 + lentS c.2.1 = c.1.sum + c.2.2.2.1) := by
    unfold vC; rw [h1, h2, Bool.true_and, Bool.true_and]
  rw [e]
  have va : E (fun k => spec_validAmount (k 0) c.2.2.1) (decide (0 ≤ c.2.2.1) && decide (c.2.2.1 ≤ 1000000)) :=
    E.congr (fun k => spec_validAmount.eq (k 0) _) (E.bind (inRange_E ..) (E.now _))
  refine E.bind va (E.ite (fun h => E.now' ?_) (fun h3 => ?_))
  · simp at h ⊢; omega
  refine E.bind (inRange_E ..) (E.ite (fun h => E.now' ?_) (fun h4 => ?_))
  · simp at h ⊢; omega
  refine E.bind (inRange_E ..) (E.ite (fun h => E.now' ?_) (fun h5 => ?_))
  · simp at h ⊢; omega
  simp at h3 h4 h5
  refine E.bind (specLent_E c.2.1 (by have := (vLs_iff.1 h2).1; omega) (vLs_amt h2)) (E.bind (specTotal_E c.1 (by omega) (fun x hx => by have := hs.2 x hx; omega)) (E.now' ?_))
  rw [wrap_id (by omega) (by omega), wrap_id (by omega) (by omega)]
  simp only [decide_eq_decide]
  omega
theorem implValidClub_E (c : Clb) : E (fun k => impl_ValidClub (k 0) c) (vC c) := by
  refine E.congr (fun k => impl_ValidClub.eq (k 0) c) (E.bind (implValidStakes_E c.1) (E.ite (fun h => E.now' ?_) (fun h1 => ?_)))
  · simp only [Bool.not_eq_true'] at h; unfold vC; rw [h, Bool.false_and]
  simp only [Bool.not_eq_true', Bool.not_eq_false] at h1
  have hs := vS_iff.1 h1
  refine E.bind (implValidLoans_E c.2.1 c.1.length) (E.ite (fun h => E.now' ?_) (fun h2 => ?_))
  · simp only [Bool.not_eq_true'] at h; unfold vC; rw [h, Bool.false_and, Bool.and_false]
  simp only [Bool.not_eq_true', Bool.not_eq_false] at h2
  have hb := vC_sums h1 h2
  have e : vC c = decide (0 ≤ c.2.2.1 ∧ c.2.2.1 ≤ 1000000 ∧ -1000000 ≤ c.2.2.2.1 ∧ c.2.2.2.1 ≤ 1000000 ∧ 0 ≤ c.2.2.2.2 ∧ c.2.2.2.2 ≤ 999 ∧ c.2.2.1 + lentS c.2.1 = c.1.sum + c.2.2.2.1) := by
    unfold vC; rw [h1, h2, Bool.true_and, Bool.true_and]
  rw [e]
  refine E.ite (fun h => E.now' ?_) (fun h3 => E.ite (fun h => E.now' ?_) (fun h4 => E.ite (fun h => E.now' ?_) (fun h5 => E.ite (fun h => E.now' ?_) (fun h6 => E.ite (fun h7 => E.ite (fun h8 => ?_) (fun h => E.now' ?_)) (fun h => E.now' ?_)))))
  · symm; rw [decide_eq_false_iff_not]; omega
  · symm; rw [decide_eq_false_iff_not]; omega
  · symm; rw [decide_eq_false_iff_not]; omega
  · symm; rw [decide_eq_false_iff_not]; omega
  · refine E.bind (loansOf_E c.2.1 (by have := (vLs_iff.1 h2).1; omega) (vLs_amt h2)) (E.bind (sumOf_E c.1 (by omega) (fun x hx => by have := hs.2 x hx; omega)) (E.now' ?_))
    rw [wrap_id (by omega) (by omega), wrap_id (by omega) (by omega)]
    simp only [decide_eq_decide]
    omega
  · symm; rw [decide_eq_false_iff_not]; omega
  · symm; rw [decide_eq_false_iff_not]; omega
end Go.Proofs.YthooakfbpoopaaaG
end
section
set_option linter.unusedVariables false
namespace Go.Proofs.YthooakfbpoopaaaG
open Go Go.Refl Go.Refl.Math Go.RowKit
theorem specCopyInts_E (xs : List Int) (h : xs.length ≤ 1000000000) : E (fun k => spec_copyInts (k 0) xs) xs :=
  E.congr (fun k => spec_copyInts.eq (k 0) xs) (E.pos (by simp [maxN]; omega) (E.now' (by simp)))
theorem clone_E (xs : List Int) (h : xs.length ≤ 1000000000) : E (fun k => slices_Clone_int (k 0) xs) xs := by
  refine E.congr (fun k => slices_Clone_int.eq (k 0) xs) (E.ite (fun h0 => ?_) (fun h0 => E.pos (by simp [maxN]; omega) (E.now' (by simp))))
  have : xs = [] := List.eq_nil_of_length_eq_zero (by simpa using h0)
  subst this
  exact E.congr (g := fun _ => some []) (fun _ => by simp [both, maxN]) (E.now _)
theorem specCopyLoans_l3 : ∀ (post pre : List Ln), (pre ++ post).length ≤ 1000000000 → (∀ l ∈ post, l.2.2.length ≤ 1000000000) →
    E (fun k => spec_copyLoans.l3 (k 0) (k 1) (pre ++ post) (pre.length : Int) pre) (pre ++ post)
  | [], pre, hl, hi => by
    refine E.step 1 (fun v w h1 h2 => by rewrite [h1, h2 0 (by decide)]; exact spec_copyLoans.l3_succ ..) ?_
    exact E.neg (by simp) (E.now' (by simp))
  | x :: post, pre, hl, hi => by
    have ih := specCopyLoans_l3 post (pre ++ [x]) (by simpa using hl) (fun l h => hi l (List.mem_cons_of_mem _ h))
    have hx := hi x (List.mem_cons_self ..)
    have h1 : (pre.length : Int) < ((pre ++ x :: post).length : Int) := by simp; omega
    have h0 : (0 : Int) ≤ pre.length := by omega
    refine E.step 1 (fun v w h1 h2 => by rewrite [h1, h2 0 (by decide)]; exact spec_copyLoans.l3_succ ..) ?_
    refine E.pos h1 (E.pos h0 (E.pos h1 (E.pos h0 (E.pos h1 (E.pos h0 (E.pos h1 ?_))))))
    simp only [Int.toNat_natCast, getD_mid]
    refine E.bind (E.ren (fun _ => 0) (specCopyInts_E x.2.2 hx)) (E.pos (by simp at hl; simp [maxN]; omega) ?_)
    rw [wrap_nat (by simp at hl; omega)]
    rw [show (pre ++ [x]).length = pre.length + 1 from by simp, List.append_assoc] at ih
    exact ih
theorem specCopyLoans_E (ls : List Ln) (hl : ls.length ≤ 1000000000) (hi : ∀ l ∈ ls, l.2.2.length ≤ 1000000000) : E (fun k => spec_copyLoans (k 0) ls) ls :=
  E.congr (fun k => spec_copyLoans.eq (k 0) ls) (E.ren (fun _ => 0) (specCopyLoans_l3 ls [] (by simpa using hl) hi))
theorem implCopyLoans_l3 : ∀ (post pre : List Ln), (pre ++ post).length ≤ 1000000000 → (∀ l ∈ post, l.2.2.length ≤ 1000000000) →
    E (fun k => impl_copyLoans.l3 (k 0) (k 1) (pre ++ post) ((pre ++ post).length : Int) (pre.length : Int) pre) (pre ++ post)
  | [], pre, hl, hi => by
    refine E.step 1 (fun v w h1 h2 => by rewrite [h1, h2 0 (by decide)]; exact impl_copyLoans.l3_succ ..) ?_
    exact E.neg (by simp) (E.now' (by simp))
  | x :: post, pre, hl, hi => by
    have ih := implCopyLoans_l3 post (pre ++ [x]) (by simpa using hl) (fun l h => hi l (List.mem_cons_of_mem _ h))
    have hx := hi x (List.mem_cons_self ..)
    have h1 : (pre.length : Int) < ((pre ++ x :: post).length : Int) := by simp; omega
    have h0 : (0 : Int) ≤ pre.length := by omega
    refine E.step 1 (fun v w h1 h2 => by rewrite [h1, h2 0 (by decide)]; exact impl_copyLoans.l3_succ ..) ?_
    refine E.pos h1 (E.pos h0 (E.pos h1 ?_))
    simp only [Int.toNat_natCast, getD_mid]
    refine E.bind (E.ren (fun _ => 0) (clone_E x.2.2 hx)) (E.pos (by simp at hl; simp [maxN]; omega) ?_)
    rw [wrap_nat (by simp at hl; omega)]
    rw [show (pre ++ [x]).length = pre.length + 1 from by simp, List.append_assoc] at ih
    exact ih
theorem implCopyLoans_E (ls : List Ln) (hl : ls.length ≤ 1000000000) (hi : ∀ l ∈ ls, l.2.2.length ≤ 1000000000) : E (fun k => impl_copyLoans (k 0) ls) ls :=
  E.congr (fun k => impl_copyLoans.eq (k 0) ls) (E.ren (fun _ => 0) (implCopyLoans_l3 ls [] (by simpa using hl) hi))
structure Fits (c : Clb) : Prop where
  stakes : c.1.length ≤ 1000000000
  loans : c.2.1.length ≤ 1000000000
  inner : ∀ l ∈ c.2.1, l.2.2.length ≤ 1000000000
theorem vC_parts {c : Clb} (h : vC c = true) : vS c.1 = true ∧ vLs c.2.1 c.1.length = true ∧ (0 ≤ c.2.2.1 ∧ c.2.2.1 ≤ 1000000 ∧ -1000000 ≤ c.2.2.2.1 ∧ c.2.2.2.1 ≤ 1000000 ∧ 0 ≤ c.2.2.2.2 ∧ c.2.2.2.2 ≤ 999 ∧ c.2.2.1 + lentS c.2.1 = c.1.sum + c.2.2.2.1) := by
  unfold vC at h
  rw [Bool.and_eq_true, Bool.and_eq_true, decide_eq_true_iff] at h
  exact ⟨h.1, h.2.1, h.2.2⟩
theorem vC_fits {c : Clb} (h : vC c = true) : Fits c := by
  obtain ⟨h1, h2, h3⟩ := vC_parts h
  have a := vS_iff.1 h1
  have b := vLs_iff.1 h2
  exact ⟨by omega, by omega, fun l hl => by have := (vL_iff.1 (b.2 l hl)).2.1.1; omega⟩
theorem specCopyClub_E (c : Clb) (h : Fits c) : E (fun k => spec_copyClub (k 0) c) c :=
  E.congr (fun k => spec_copyClub.eq (k 0) c) (E.bind (specCopyInts_E c.1 h.stakes) (E.bind (specCopyLoans_E c.2.1 h.loans h.inner) (E.now _)))
theorem implCopyClub_E (c : Clb) (h : Fits c) : E (fun k => impl_copyClub (k 0) c) c :=
  E.congr (fun k => impl_copyClub.eq (k 0) c) (E.bind (clone_E c.1 h.stakes) (E.bind (implCopyLoans_E c.2.1 h.loans h.inner) (E.now _)))
end Go.Proofs.YthooakfbpoopaaaG
end
section
set_option linter.unusedVariables false
namespace Go.Proofs.YthooakfbpoopaaaG
open Go Go.Refl Go.Refl.Math Go.RowKit
theorem stake_bd {st : List Int} (h : vS st = true) {j : Nat} (hj : j < st.length) : 0 ≤ st.getD j 0 ∧ st.getD j 0 ≤ 100000 := (vS_iff.1 h).2 _ (getD_mem 0 hj)
theorem split_l3 (x : Int) (p : Nat) (hx : 0 ≤ x) (hx2 : x ≤ 1000000) (hp2 : p ≤ 1000) : ∀ (d i : Nat), i + d = p →
    E (fun k => spec_split.l3 (k 0) (k 1) x (p : Int) (i : Int) (tab i (prt x p))) (tab p (prt x p))
  | 0, i, hi => by
    refine E.step 1 (fun v w h1 h2 => by rewrite [h1, h2 0 (by decide)]; exact spec_split.l3_succ ..) ?_
    exact E.neg (by omega) (E.now' (by rw [show i = p by omega]))
  | d + 1, i, hi => by
    have ih := split_l3 x p hx hx2 hp2 d (i + 1) (by omega)
    refine E.step 1 (fun v w h1 h2 => by rewrite [h1, h2 0 (by decide)]; exact spec_split.l3_succ ..) ?_
    refine E.pos (by omega) (E.neg (by omega) (E.neg (by omega) ?_))
    have hq0 := Int.ediv_nonneg hx (show (0 : Int) ≤ (p : Int) by omega)
    have hq1 := Int.ediv_le_self (b := (p : Int)) hx
    rw [Int.tdiv_eq_ediv_of_nonneg hx, Int.tmod_eq_emod_of_nonneg hx, wrap_nat (by omega), wrap_id (x := x / p) (by omega) (by omega), wrap_id (x := x / p + 1) (by omega) (by omega)]
    rw [tab_succ] at ih
    refine E.ite (fun h => E.pos (by rw [tab_length]; simp [maxN]; omega) ?_) (fun h => E.pos (by rw [tab_length]; simp [maxN]; omega) ?_)
    · rwa [show prt x p i = x / p + 1 from by simp [prt, h]] at ih
    · rwa [show prt x p i = x / p from by simp [prt, h]] at ih
theorem split_E (x : Int) (p : Nat) (hx : 0 ≤ x) (hx2 : x ≤ 1000000) (hp2 : p ≤ 1000) : E (fun k => spec_split (k 0) (x, (p : Int))) (tab p (prt x p)) :=
  E.congr (fun k => spec_split.eq (k 0) ..) (E.ren (fun _ => 0) (split_l3 x p hx hx2 hp2 p 0 (by omega)))
theorem splitEven_l5 (x : Int) (p : Nat) (hx : 0 ≤ x) (hx2 : x ≤ 1000000) (hp : 0 < p) (hp2 : p ≤ 12) : ∀ (d i : Nat), i + d = p →
    E (fun k => impl_SplitEven.l5 (k 0) (k 1) x (p : Int) (p : Int) (i : Int) (tab p (fun j => if j < i then prt x p j else 0))) (tab p (prt x p))
  | 0, i, hi => by
    refine E.step 1 (fun v w h1 h2 => by rewrite [h1, h2 0 (by decide)]; exact impl_SplitEven.l5_succ ..) ?_
    exact E.neg (by omega) (E.now' (tab_ext fun j hj => if_pos (by omega)))
  | d + 1, i, hi => by
    have ih := splitEven_l5 x p hx hx2 hp hp2 d (i + 1) (by omega)
    have hi' : i < p := by omega
    refine E.step 1 (fun v w h1 h2 => by rewrite [h1, h2 0 (by decide)]; exact impl_SplitEven.l5_succ ..) ?_
    refine E.pos (by omega) (E.neg (by omega) (E.pos (by omega) (E.pos (by rw [tab_length]; omega) (E.neg (by omega) ?_))))
    have hq0 := Int.ediv_nonneg hx (show (0 : Int) ≤ (p : Int) by omega)
    have hq1 := Int.ediv_le_self (b := (p : Int)) hx
    simp only [Int.tdiv_eq_ediv_of_nonneg hx, Int.tmod_eq_emod_of_nonneg hx, Int.toNat_natCast, tab_set, tab_length, tab_get _ hi', if_true]
    rw [wrap_nat (by omega), wrap_id (x := x / p) (by omega) (by omega), wrap_id (x := x / p + 1) (by omega) (by omega)]
    refine E.ite (fun h => E.pos (by omega) (E.pos (by omega) (E.pos (by omega) (E.pos (by omega) ?_)))) (fun h => ?_)
    · refine E.congr (fun k => ?_) ih
      congr 1
      refine tab_ext fun j hj => ?_
      by_cases e : j = i
      · subst e; simp [prt, h]
      · simp only [if_neg e]; by_cases e2 : j < i
        · rw [if_pos e2, if_pos (by omega)]
        · rw [if_neg e2, if_neg (by omega)]
    · refine E.congr (fun k => ?_) ih
      congr 1
      refine tab_ext fun j hj => ?_
      by_cases e : j = i
      · subst e; simp [prt, h]
      · simp only [if_neg e]; by_cases e2 : j < i
        · rw [if_pos e2, if_pos (by omega)]
        · rw [if_neg e2, if_neg (by omega)]
theorem splitEven_E (x : Int) (p : Nat) (hx : 0 ≤ x) (hx2 : x ≤ 1000000) (hp : 0 < p) (hp2 : p ≤ 12) : E (fun k => impl_SplitEven (k 0) (x, (p : Int))) (tab p (prt x p)) := by
  refine E.congr (fun k => impl_SplitEven.eq (k 0) ..) (E.neg (by omega) (E.neg (by omega) (E.neg (by omega) (E.neg (by omega) (E.pos (by omega) (E.pos (by omega) (E.pos (by simp only [maxN]; omega) ?_)))))))
  rw [Int.toNat_natCast, List.length_replicate, replicate_tab]
  exact E.ren (fun _ => 0) (splitEven_l5 x p hx hx2 hp hp2 p 0 (by omega))
def gAdd (e : Nat → Int) (gs : List Int) (s : Nat → Int) : Nat → Nat → Int
  | 0 => e
  | i + 1 => fun j => if (j : Int) = gs.getD i 0 then gAdd e gs s i j + s i else gAdd e gs s i j
theorem gAdd_bd {e : Nat → Int} {gs : List Int} {s : Nat → Int} {A B : Int} (he : ∀ j, 0 ≤ e j ∧ e j ≤ A) (hs : ∀ i, 0 ≤ s i ∧ s i ≤ B) : ∀ i j, 0 ≤ gAdd e gs s i j ∧ gAdd e gs s i j ≤ A + B * i
  | 0, j => by have := he j; simp [gAdd]; omega
  | i + 1, j => by
    have := gAdd_bd (gs := gs) he hs i j
    have := hs i
    have e2 : B * ((i + 1 : Nat) : Int) = B * i + B := by rw [Int.natCast_succ, Int.mul_add, Int.mul_one]
    simp only [gAdd]
    rw [e2]
    split <;> omega
def expo (ls : List Ln) : Nat → Int := ls.foldl (fun e l => gAdd e l.2.2 (prt l.2.1 l.2.2.length) l.2.2.length) (fun _ => 0)
theorem expo_snoc (ls : List Ln) (l : Ln) : expo (ls ++ [l]) = gAdd (expo ls) l.2.2 (prt l.2.1 l.2.2.length) l.2.2.length := by simp [expo, List.foldl_append]
theorem expo_fold {m : Int} (hm : m ≤ 12) : ∀ (ls : List Ln) (e : Nat → Int) (n : Nat), (∀ l ∈ ls, vL l m = true) → (∀ j, 0 ≤ e j ∧ e j ≤ 1300000 * n) → ∀ j, 0 ≤ ls.foldl (fun e l => gAdd e l.2.2 (prt l.2.1 l.2.2.length) l.2.2.length) e j ∧ ls.foldl (fun e l => gAdd e l.2.2 (prt l.2.1 l.2.2.length) l.2.2.length) e j ≤ 1300000 * ((n + ls.length : Nat) : Int)
  | [], e, n, _, he, j => he j
  | l :: ls, e, n, hl, he, j => by
    have hv := vL_iff.1 (hl l (List.mem_cons_self ..))
    have h1 : ∀ i, 0 ≤ prt l.2.1 l.2.2.length i ∧ prt l.2.1 l.2.2.length i ≤ 100001 := fun i => by
      have := spl_bd (x := l.2.1) (p := l.2.2.length) (by omega) (by omega) i
      omega
    have := expo_fold hm ls (gAdd e l.2.2 (prt l.2.1 l.2.2.length) l.2.2.length) (n + 1) (fun l' h' => hl l' (List.mem_cons_of_mem _ h')) (fun j => by
      have := gAdd_bd (gs := l.2.2) he h1 l.2.2.length j
      omega) j
    rw [List.length_cons, show n + (ls.length + 1) = n + 1 + ls.length by omega]
    exact this
theorem expo_bd {m : Int} (hm : m ≤ 12) {ls : List Ln} (hv : ∀ l ∈ ls, vL l m = true) (hl : ls.length ≤ 17) (j : Nat) : 0 ≤ expo ls j ∧ expo ls j ≤ 30000000 := by
  have := expo_fold hm ls (fun _ => 0) 0 hv (fun j => by simp) j
  unfold expo
  omega
theorem exposureOf_l8 (n : Nat) (hn : n ≤ 12) (e : Nat → Int) (l : Ln) (L : List Ln) (t : Nat) (r : List Int) (ht : t ≤ 20) (hv : vL l n = true) (he : ∀ j, 0 ≤ e j ∧ e j ≤ 30000000)
    (nx : E (fun k => impl_ExposureOf.l5 (k 0) (k 1) L (L.length : Int) ((t + 1 : Nat) : Int) (tab n (gAdd e l.2.2 (prt l.2.1 l.2.2.length) l.2.2.length))) r) : ∀ (d i : Nat), i + d = l.2.2.length →
    E (fun k => impl_ExposureOf.l8 (k 0) (k 1) (k 2) L (L.length : Int) (t : Int) (l.2.2.length : Int) (i : Int) (tab n (gAdd e l.2.2 (prt l.2.1 l.2.2.length) i)) l.1 l.2.1 l.2.2 (tab l.2.2.length (prt l.2.1 l.2.2.length))) r
  | 0, i, hi => by
    refine E.step 2 (fun v w h1 h2 => by rewrite [h1, h2 0 (by decide), h2 1 (by decide)]; exact impl_ExposureOf.l8_succ ..) ?_
    refine E.neg (by omega) ?_
    rw [wrap_nat (by omega), show i = l.2.2.length by omega]
    exact nx
  | d + 1, i, hi => by
    have ih := exposureOf_l8 n hn e l L t r ht hv he nx d (i + 1) (by omega)
    have hw := vL_iff.1 hv
    have hil : i < l.2.2.length := by omega
    have h1 : ∀ i, 0 ≤ prt l.2.1 l.2.2.length i ∧ prt l.2.1 l.2.2.length i ≤ 100001 := fun i => by
      have := spl_bd (x := l.2.1) (p := l.2.2.length) (by omega) (by omega) i
      omega
    have hgm := hw.2.1.2.1 _ (getD_mem 0 hil)
    obtain ⟨g, hg⟩ : ∃ g : Nat, l.2.2.getD i 0 = g := ⟨(l.2.2.getD i 0).toNat, by omega⟩
    have hbd := gAdd_bd (gs := l.2.2) he h1 i g
    have hgn : g < n := by omega
    refine E.step 2 (fun v w h1 h2 => by rewrite [h1, h2 0 (by decide), h2 1 (by decide)]; exact impl_ExposureOf.l8_succ ..) ?_
    simp only [Int.toNat_natCast, tab_length, hg, tab_get _ hgn, tab_get _ hil, tab_set]
    refine E.pos (by omega) (E.pos (by omega) (E.pos (by omega) (E.pos (by omega) (E.pos (by omega) (E.pos (by omega) (E.pos (by omega) (E.pos (by omega) (E.pos (by omega) ?_))))))))
    have := h1 i
    rw [wrap_nat (by omega), wrap_id (by omega) (by omega)]
    refine E.congr (fun k => ?_) ih
    congr 1
    refine tab_ext fun j hj => ?_
    simp only [gAdd, hg]
    by_cases e1 : j = g
    · subst e1; simp
    · rw [if_neg e1, if_neg (by omega)]
theorem exposureOf_l5 (n : Nat) (hn : n ≤ 12) : ∀ (post pre : List Ln), (pre ++ post).length ≤ 16 → (∀ l ∈ pre ++ post, vL l n = true) →
    E (fun k => impl_ExposureOf.l5 (k 0) (k 1) (pre ++ post) ((pre ++ post).length : Int) (pre.length : Int) (tab n (expo pre))) (tab n (expo (pre ++ post)))
  | [], pre, _, _ => by
    refine E.step 1 (fun v w h1 h2 => by rewrite [h1, h2 0 (by decide)]; exact impl_ExposureOf.l5_succ ..) ?_
    exact E.neg (by simp) (E.now' (by simp))
  | l :: post, pre, hl, hv => by
    have ih := exposureOf_l5 n hn post (pre ++ [l]) (by simpa using hl) (by simpa using hv)
    rw [show (pre ++ [l]).length = pre.length + 1 from by simp, List.append_assoc, expo_snoc] at ih
    have hv1 := hv l (by simp)
    have hw := vL_iff.1 hv1
    have hb := fun j => expo_bd (m := (n : Int)) (by omega) (ls := pre) (fun l' h' => hv l' (by simp [h'])) (by simp at hl; omega) j
    refine E.step 1 (fun v w h1 h2 => by rewrite [h1, h2 0 (by decide)]; exact impl_ExposureOf.l5_succ ..) ?_
    refine E.pos (by simp; omega) (E.pos (by omega) (E.pos (by simp; omega) ?_))
    simp only [Int.toNat_natCast, getD_mid]
    refine E.bind (E.ren (fun _ => 0) (splitEven_E _ _ (by omega) (by omega) (by omega) (by omega))) ?_
    rw [tab_length]
    exact E.ren (fun i => if i = 2 then 0 else i) (exposureOf_l8 n hn (expo pre) l (pre ++ l :: post) pre.length _ (by simp at hl; omega) hv1 hb ih l.2.2.length 0 (by omega))
theorem exposureOf_E (ls : List Ln) (n : Nat) : E (fun k => impl_ExposureOf (k 0) (ls, (n : Int))) (if vLs ls n then tab n (expo ls) else []) := by
  refine E.congr (fun k => impl_ExposureOf.eq (k 0) ..) (E.bind (implValidLoans_E ls n) (E.ite (fun h => ?_) fun h => ?_))
  · simp only [Bool.not_eq_true'] at h
    rw [h]; exact E.now _
  · simp only [Bool.not_eq_true', Bool.not_eq_false] at h
    have hw := vLs_iff.1 h
    rw [if_pos h]
    refine E.pos (by omega) (E.pos (by omega) (E.pos (by simp only [maxN]; omega) ?_))
    rw [Int.toNat_natCast, replicate_tab]
    exact E.ren (fun _ => 0) (exposureOf_l5 n (by omega) ls [] hw.1.1 hw.2)
def freeF (st : List Int) (ls : List Ln) (j : Nat) : Int := st.getD j 0 - expo ls j
theorem freeStakes_l5 (st : List Int) (ls : List Ln) (hs : vS st = true) (hv : vLs ls st.length = true) : ∀ (d i : Nat), i + d = st.length →
    E (fun k => impl_FreeStakes.l5 (k 0) (k 1) st (st.length : Int) (i : Int) (tab i (freeF st ls)) (tab st.length (expo ls))) (tab st.length (freeF st ls))
  | 0, i, hi => by
    refine E.step 1 (fun v w h1 h2 => by rewrite [h1, h2 0 (by decide)]; exact impl_FreeStakes.l5_succ ..) ?_
    exact E.neg (by omega) (E.now' (by rw [show i = st.length by omega]))
  | d + 1, i, hi => by
    have ih := freeStakes_l5 st ls hs hv d (i + 1) (by omega)
    have hw := vLs_iff.1 hv
    have hi' : i < st.length := by omega
    have hb := expo_bd (m := (st.length : Int)) (by omega) hw.2 (by omega) i
    have hst := stake_bd hs (j := i) (by omega)
    refine E.step 1 (fun v w h1 h2 => by rewrite [h1, h2 0 (by decide)]; exact impl_FreeStakes.l5_succ ..) ?_
    simp only [Int.toNat_natCast, tab_length, tab_get _ hi']
    refine E.pos (by omega) (E.pos (by omega) (E.pos (by omega) (E.pos (by omega) (E.pos (by omega) (E.pos (by simp [maxN]; omega) ?_)))))
    rw [wrap_nat (by omega), wrap_id (by omega) (by omega)]
    rw [tab_succ] at ih
    exact ih
theorem freeStakes_E (st : List Int) (ls : List Ln) : E (fun k => impl_FreeStakes (k 0) (st, ls)) (if vS st && vLs ls st.length then tab st.length (freeF st ls) else []) := by
  refine E.congr (fun k => impl_FreeStakes.eq (k 0) ..) (E.bind (implValidStakes_E st) (E.ite (fun h => ?_) fun h => E.bind (exposureOf_E ls st.length) ?_))
  · simp only [Bool.not_eq_true'] at h
    rw [h, Bool.false_and]; exact E.now _
  · simp only [Bool.not_eq_true', Bool.not_eq_false] at h
    rw [h, Bool.true_and]
    by_cases hv : vLs ls st.length = true
    · rw [if_pos hv, if_pos hv, tab_length]
      exact E.ren (fun _ => 0) (freeStakes_l5 st ls h hv st.length 0 (by omega))
    · rw [if_neg hv, if_neg hv]
      refine E.ren (f := fun k => impl_FreeStakes.l5 (k 0) (k 1) st 0 0 [] []) (fun _ => 0) ?_
      refine E.step 1 (fun v w h1 h2 => by rewrite [h1, h2 0 (by decide)]; exact impl_FreeStakes.l5_succ ..) ?_
      exact E.neg (by simp) (E.now _)
theorem min_l5 : ∀ (post pre : List Int) (m : Int), (pre ++ post).length < 4611686018427387904 → ∃ r, E (fun k => slices_Min_int.l5 (k 0) (k 1) (pre ++ post) m (pre.length : Int)) r ∧ (0 ≤ r ↔ 0 ≤ m ∧ ∀ x ∈ post, 0 ≤ x)
  | [], pre, m, _ => by
    refine ⟨m, ?_, by simp⟩
    refine E.step 1 (fun v w h1 h2 => by rewrite [h1, h2 0 (by decide)]; exact slices_Min_int.l5_succ ..) ?_
    exact E.neg (by simp) (E.now _)
  | x :: post, pre, m, hl => by
    obtain ⟨r, ih, hr⟩ := min_l5 post (pre ++ [x]) (mn m x) (by simpa using hl)
    rw [show (pre ++ [x]).length = pre.length + 1 from by simp, List.append_assoc] at ih
    refine ⟨r, ?_, ?_⟩
    · refine E.step 1 (fun v w h1 h2 => by rewrite [h1, h2 0 (by decide)]; exact slices_Min_int.l5_succ ..) ?_
      refine E.pos (by simp; omega) (E.pos (by omega) (E.pos (by simp; omega) ?_))
      simp only [Int.toNat_natCast, getD_mid]
      rw [wrap_nat (by simp at hl; omega)]
      exact ih
    · rw [hr, List.forall_mem_cons]
      unfold mn
      split <;> constructor <;> rintro ⟨h1, h2⟩ <;> refine ⟨?_, ?_⟩ <;> first | omega | exact h2 | exact h2.2 | exact ⟨by omega, h2⟩
theorem min_E (xs : List Int) (h0 : 0 < xs.length) (hl : xs.length < 4611686018427387904) : ∃ r, E (fun k => slices_Min_int (k 0) xs) r ∧ (0 ≤ r ↔ ∀ x ∈ xs, 0 ≤ x) := by
  cases xs with
  | nil => simp at h0
  | cons x xs =>
    obtain ⟨r, h, hr⟩ := min_l5 xs [x] x (by simpa using hl)
    exact ⟨r, E.congr (fun k => slices_Min_int.eq (k 0) _) (E.neg (by omega) (E.pos (by omega) (E.ren (fun _ => 0) h))), by rw [hr, List.forall_mem_cons]⟩
def safeB (st : List Int) (ls : List Ln) : Bool := vS st && vLs ls st.length && (tab st.length (freeF st ls)).all fun x => decide (0 ≤ x)
theorem safeLoans_E (st : List Int) (ls : List Ln) : E (fun k => impl_SafeLoans (k 0) (st, ls)) (safeB st ls) := by
  refine E.congr (fun k => impl_SafeLoans.eq (k 0) ..) (E.bind (freeStakes_E st ls) ?_)
  unfold safeB
  by_cases h : (vS st && vLs ls st.length) = true
  · rw [if_pos h, h, Bool.true_and, tab_length]
    have hs := (vS_iff.1 ((Bool.and_eq_true _ _).mp h).1)
    obtain ⟨r, hr, hr2⟩ := min_E (tab st.length (freeF st ls)) (by rw [tab_length]; omega) (by rw [tab_length]; omega)
    refine E.pos (by omega) (E.bind hr (E.now' ?_))
    rw [Bool.eq_iff_iff, decide_eq_true_iff, List.all_eq_true]
    simp only [decide_eq_true_iff]
    exact hr2
  · rw [if_neg h, Bool.eq_false_iff.2 h, Bool.false_and]
    exact E.neg (by simp) (E.now _)
end Go.Proofs.YthooakfbpoopaaaG
end
section
set_option linter.unusedVariables false
namespace Go.Proofs.YthooakfbpoopaaaG
open Go Go.Refl Go.Refl.Math Go.RowKit
theorem exposures_l7 (n : Nat) (hn : n ≤ 12) (e : Nat → Int) (l : Ln) (L : List Ln) (t : Nat) (r : List Int) (ht : t < L.length) (ht2 : t ≤ 20) (hL : L.getD t (0, 0, []) = l) (hv : vL l n = true) (he : ∀ j, 0 ≤ e j ∧ e j ≤ 30000000)
    (nx : E (fun k => spec_exposures.l3 (k 0) (k 1) L ((t + 1 : Nat) : Int) (tab n (gAdd e l.2.2 (prt l.2.1 l.2.2.length) l.2.2.length))) r) : ∀ (d i : Nat), i + d = l.2.2.length →
    E (fun k => spec_exposures.l7 (k 0) (k 1) (k 2) L (t : Int) (i : Int) (tab n (gAdd e l.2.2 (prt l.2.1 l.2.2.length) i)) (tab l.2.2.length (prt l.2.1 l.2.2.length))) r
  | 0, i, hi => by
    refine E.step 2 (fun v w h1 h2 => by rewrite [h1, h2 0 (by decide), h2 1 (by decide)]; exact spec_exposures.l7_succ ..) ?_
    refine E.neg (by rw [tab_length]; omega) ?_
    rw [wrap_nat (by omega), show i = l.2.2.length by omega]
    exact nx
  | d + 1, i, hi => by
    have ih := exposures_l7 n hn e l L t r ht ht2 hL hv he nx d (i + 1) (by omega)
    have hw := vL_iff.1 hv
    have hil : i < l.2.2.length := by omega
    have h1 : ∀ i, 0 ≤ prt l.2.1 l.2.2.length i ∧ prt l.2.1 l.2.2.length i ≤ 100001 := fun i => by
      have := spl_bd (x := l.2.1) (p := l.2.2.length) (by omega) (by omega) i
      omega
    have hgm := hw.2.1.2.1 _ (getD_mem 0 hil)
    obtain ⟨g, hg⟩ : ∃ g : Nat, l.2.2.getD i 0 = g := ⟨(l.2.2.getD i 0).toNat, by omega⟩
    have hbd := gAdd_bd (gs := l.2.2) he h1 i g
    have hgn : g < n := by omega
    refine E.step 2 (fun v w h1 h2 => by rewrite [h1, h2 0 (by decide), h2 1 (by decide)]; exact spec_exposures.l7_succ ..) ?_
    simp only [Int.toNat_natCast, hL, tab_length, hg, tab_get _ hgn, tab_get _ hil, tab_set]
    refine E.pos (by omega) (E.pos (by omega) (E.pos (by omega) (E.pos (by omega) (E.pos (by omega) (E.pos (by omega) (E.pos (by omega) (E.pos (by omega) (E.pos (by omega) (E.pos (by omega) (E.pos (by omega) (E.pos (by omega) (E.pos (by omega) (E.pos (by omega) (E.pos (by omega) ?_))))))))))))))
    have := h1 i
    rw [wrap_nat (by omega), wrap_id (by omega) (by omega)]
    refine E.congr (fun k => ?_) ih
    congr 1
    refine tab_ext fun j hj => ?_
    simp only [gAdd, hg]
    by_cases e1 : j = g
    · subst e1; simp
    · rw [if_neg e1, if_neg (by omega)]
theorem exposures_l3 (n : Nat) (hn : n ≤ 12) : ∀ (post pre : List Ln), (pre ++ post).length ≤ 16 → (∀ l ∈ pre ++ post, vL l n = true) →
    E (fun k => spec_exposures.l3 (k 0) (k 1) (pre ++ post) (pre.length : Int) (tab n (expo pre))) (tab n (expo (pre ++ post)))
  | [], pre, _, _ => by
    refine E.step 1 (fun v w h1 h2 => by rewrite [h1, h2 0 (by decide)]; exact spec_exposures.l3_succ ..) ?_
    exact E.neg (by simp) (E.now' (by simp))
  | l :: post, pre, hl, hv => by
    have ih := exposures_l3 n hn post (pre ++ [l]) (by simpa using hl) (by simpa using hv)
    rw [show (pre ++ [l]).length = pre.length + 1 from by simp, List.append_assoc, expo_snoc] at ih
    have hv1 := hv l (by simp)
    have hw := vL_iff.1 hv1
    have hb := fun j => expo_bd (m := (n : Int)) (by omega) (ls := pre) (fun l' h' => hv l' (by simp [h'])) (by simp at hl; omega) j
    have h1 : (pre.length : Int) < ((pre ++ l :: post).length : Int) := by simp; omega
    refine E.step 1 (fun v w h1 h2 => by rewrite [h1, h2 0 (by decide)]; exact spec_exposures.l3_succ ..) ?_
    refine E.pos h1 (E.pos (by omega) (E.pos h1 (E.pos (by omega) (E.pos h1 ?_))))
    simp only [Int.toNat_natCast, getD_mid]
    refine E.bind (E.ren (fun _ => 0) (split_E _ _ (by omega) (by omega) (by omega))) ?_
    exact E.ren (fun i => if i = 2 then 0 else i) (exposures_l7 n hn (expo pre) l (pre ++ l :: post) pre.length _ (by simp) (by simp at hl; omega) (getD_mid ..) hv1 hb ih l.2.2.length 0 (by omega))
theorem exposures_E (ls : List Ln) (n : Nat) (hv : vLs ls n = true) : E (fun k => spec_exposures (k 0) (ls, (n : Int))) (tab n (expo ls)) := by
  have hw := vLs_iff.1 hv
  refine E.congr (fun k => spec_exposures.eq (k 0) ..) (E.pos (by omega) (E.pos (by omega) (E.pos (by simp only [maxN]; omega) ?_)))
  rw [Int.toNat_natCast, replicate_tab]
  exact E.ren (fun _ => 0) (exposures_l3 n (by omega) ls [] hw.1.1 hw.2)
theorem specFree_l3 (st : List Int) (ls : List Ln) (hs : vS st = true) (hv : vLs ls st.length = true) : ∀ (d i : Nat), i + d = st.length →
    E (fun k => spec_free.l3 (k 0) (k 1) st (i : Int) (tab st.length (fun j => if j < i then freeF st ls j else expo ls j))) (tab st.length (freeF st ls))
  | 0, i, hi => by
    refine E.step 1 (fun v w h1 h2 => by rewrite [h1, h2 0 (by decide)]; exact spec_free.l3_succ ..) ?_
    exact E.neg (by rw [tab_length]; omega) (E.now' (tab_ext fun j hj => if_pos (by omega)))
  | d + 1, i, hi => by
    have ih := specFree_l3 st ls hs hv d (i + 1) (by omega)
    have hw := vLs_iff.1 hv
    have hi' : i < st.length := by omega
    have hb := expo_bd (m := (st.length : Int)) (by omega) hw.2 (by omega) i
    have hst := stake_bd hs (j := i) (by omega)
    refine E.step 1 (fun v w h1 h2 => by rewrite [h1, h2 0 (by decide)]; exact spec_free.l3_succ ..) ?_
    simp only [Int.toNat_natCast, tab_length, tab_get _ hi', tab_set]
    refine E.pos (by omega) (E.pos (by omega) (E.pos (by omega) (E.pos (by omega) (E.pos (by omega) (E.pos (by omega) (E.pos (by omega) ?_))))))
    rw [wrap_nat (by omega), if_neg (by omega), wrap_id (by omega) (by omega)]
    refine E.congr (fun k => ?_) ih
    congr 1
    refine tab_ext fun j hj => ?_
    by_cases e : j = i
    · subst e; rw [if_pos rfl, if_pos (by omega)]; rfl
    · rw [if_neg e]
      by_cases e2 : j < i
      · rw [if_pos e2, if_pos (by omega)]
      · rw [if_neg e2, if_neg (by omega)]
theorem specFree_E (st : List Int) (ls : List Ln) (hs : vS st = true) (hv : vLs ls st.length = true) : E (fun k => spec_free (k 0) (st, ls)) (tab st.length (freeF st ls)) := by
  refine E.congr (fun k => spec_free.eq (k 0) ..) (E.bind (exposures_E ls st.length hv) ?_)
  have := specFree_l3 st ls hs hv st.length 0 (by omega)
  refine E.congr (fun k => ?_) (E.ren (fun _ => 0) this)
  congr 1
theorem specSafe_E (st : List Int) (ls : List Ln) (hs : vS st = true) (hv : vLs ls st.length = true) : E (fun k => spec_safe (k 0) (st, ls)) (safeB st ls) := by
  have hw := vLs_iff.1 hv
  have hs2 := vS_iff.1 hs
  refine E.congr (fun k => spec_safe.eq (k 0) ..) (E.bind (specFree_E st ls hs hv) (E.bind (allIn_E _ _ _ (by rw [tab_length]; omega)) (E.now' ?_)))
  unfold safeB
  rw [hs, hv, Bool.true_and, Bool.true_and, Bool.eq_iff_iff, allW_iff, List.all_eq_true]
  simp only [decide_eq_true_iff]
  refine ⟨fun h x hx => (h x hx).1, fun h x hx => ⟨h x hx, ?_⟩⟩
  obtain ⟨j, hj, rfl⟩ := mem_tab.1 hx
  have := stake_bd hs hj
  have := expo_bd (m := (st.length : Int)) (by omega) hw.2 (by omega) j
  unfold freeF
  omega
end Go.Proofs.YthooakfbpoopaaaG
end
section
set_option linter.unusedVariables false
namespace Go.Proofs.YthooakfbpoopaaaG
open Go Go.Refl Go.Refl.Math Go.RowKit
abbrev Ev7 := Int × Int × Int × Int × List Int × Int × Int
def moved (c : Clb) (i d : Int) : Clb := (c.1.set i.toNat (c.1.getD i.toNat 0 + d), c.2.1, c.2.2.1 + d, c.2.2.2.1, c.2.2.2.2)
def okMove (c : Clb) (i a : Int) : Bool := decide (0 ≤ i ∧ i < (c.1.length : Int) ∧ 1 ≤ a ∧ a ≤ 100000)
theorem specMove_E (c : Clb) (hc : vC c = true) (e : Ev7) : E (fun k => spec_moveMoney (k 0) (c, e))
    (if okMove c e.2.1 e.2.2.1 then (moved c e.2.1 (if e.1 = 2 then -e.2.2.1 else e.2.2.1), vS (moved c e.2.1 (if e.1 = 2 then -e.2.2.1 else e.2.2.1)).1 && (decide (e.1 ≠ 2) || safeB (moved c e.2.1 (if e.1 = 2 then -e.2.2.1 else e.2.2.1)).1 c.2.1)) else (c, false)) := by
  obtain ⟨h1, h2, h3⟩ := vC_parts hc
  have a1 := vS_iff.1 h1
  refine E.congr (fun k => spec_moveMoney.eq (k 0) c e) ?_
  rw [wrap_id (x := (c.1.length : Int) - 1) (by omega) (by omega)]
  refine E.bind (inRange_E ..) (E.ite (fun h => E.now' ?_) (fun g1 => E.bind (inRange_E ..) (E.ite (fun h => E.now' ?_) (fun g2 => ?_))))
  · rw [if_neg (by unfold okMove; simp at h ⊢; omega)]
  · rw [if_neg (by unfold okMove; simp at h ⊢; omega)]
  simp at g1 g2
  have hok : okMove c e.2.1 e.2.2.1 = true := by unfold okMove; simp; omega
  rw [if_pos hok]
  have hst := stake_bd h1 (j := e.2.1.toNat) (by omega)
  refine E.ite (fun hk => ?_) (fun hk => ?_)
  · rw [if_pos hk, wrap_id (x := 0 - e.2.2.1) (by omega) (by omega), wrap_id (by omega) (by omega), wrap_id (by omega) (by omega)]
    rw [show (0 : Int) - e.2.2.1 = -e.2.2.1 by omega]
    refine E.pos (by omega) (E.pos (by omega) (E.pos (by omega) (E.pos (by omega) (E.bind (specValidStakes_E _) (E.ite (fun hv => E.neg (by omega) (E.bind (specSafe_E _ c.2.1 hv (by rw [List.length_set]; exact h2)) (E.now' ?_))) (fun hv => E.now' ?_))))))
    · have : vS (moved c e.2.1 (-e.2.2.1)).1 = true := hv
      rw [this]
      simp [moved, hk]
    · have : vS (moved c e.2.1 (-e.2.2.1)).1 = false := Bool.eq_false_iff.2 hv
      rw [this, Bool.false_and]
      rfl
  · rw [if_neg hk, wrap_id (by omega) (by omega), wrap_id (by omega) (by omega)]
    refine E.pos (by omega) (E.pos (by omega) (E.pos (by omega) (E.pos (by omega) (E.bind (specValidStakes_E _) (E.ite (fun hv => E.pos (by omega) (E.now' ?_)) (fun hv => E.now' ?_))))))
    · have : vS (moved c e.2.1 e.2.2.1).1 = true := hv
      rw [this]
      simp [moved, hk]
    · have : vS (moved c e.2.1 e.2.2.1).1 = false := Bool.eq_false_iff.2 hv
      rw [this, Bool.false_and]
      rfl
theorem implMove_E (c : Clb) (hc : vC c = true) (e : Ev7) (s : Int) (hs : s = 1 ∨ s = -1) : E (fun k => impl_Club_moveMoney (k 0) (c, e, s))
    (if okMove c e.2.1 e.2.2.1 then (true, moved c e.2.1 (s * e.2.2.1)) else (false, c)) := by
  obtain ⟨h1, h2, h3⟩ := vC_parts hc
  have a1 := vS_iff.1 h1
  refine E.congr (fun k => impl_Club_moveMoney.eq (k 0) c e s) (E.ite (fun h => E.now' ?_) (fun g1 => E.ite (fun h => E.now' ?_) (fun g2 => E.ite (fun h => E.now' ?_) (fun g3 => E.ite (fun h => E.now' ?_) (fun g4 => ?_)))))
  · rw [if_neg (by unfold okMove; simp; omega)]
  · rw [if_neg (by unfold okMove; simp; omega)]
  · rw [if_neg (by unfold okMove; simp; omega)]
  · rw [if_neg (by unfold okMove; simp; omega)]
  have hok : okMove c e.2.1 e.2.2.1 = true := by unfold okMove; simp; omega
  have hst := stake_bd h1 (j := e.2.1.toNat) (by omega)
  rw [if_pos hok]
  have hm : s * e.2.2.1 = e.2.2.1 ∨ s * e.2.2.1 = -e.2.2.1 := by
    rcases hs with rfl | rfl
    · left; omega
    · right; omega
  refine E.pos (by omega) (E.pos (by omega) (E.pos (by omega) (E.pos (by omega) (E.now' ?_))))
  rw [wrap_id (x := s * e.2.2.1) (by omega) (by omega), wrap_id (by omega) (by omega), wrap_id (by omega) (by omega)]
  rfl
end Go.Proofs.YthooakfbpoopaaaG
end
section
set_option linter.unusedVariables false
namespace Go.Proofs.YthooakfbpoopaaaG
open Go Go.Refl Go.Refl.Math Go.RowKit
def lentTo (c : Clb) (l : Ln) (d : Int) : Clb := (c.1, c.2.1 ++ [l], c.2.2.1 - d, c.2.2.2.1, c.2.2.2.2)
theorem specLend_E (c : Clb) (hc : vC c = true) (l : Ln) (hl : l.2.2.length ≤ 1000000000) : E (fun k => spec_lend (k 0) (c, l))
    (if safeB c.1 (c.2.1 ++ [l]) then (lentTo c l l.2.1, true) else (lentTo c l 0, false)) := by
  obtain ⟨h1, h2, h3⟩ := vC_parts hc
  have a1 := vS_iff.1 h1
  have a2 := vLs_iff.1 h2
  have f := vC_fits hc
  have e : ∀ x : Ln, List.set (List.replicate 1 ((0 : Int), (0 : Int), ([] : List Int))) 0 x = [x] := fun _ => rfl
  refine E.congr (fun k => spec_lend.eq (k 0) c l) ?_
  simp only [e]
  refine E.pos (by simp [maxN]; omega) (E.bind (specValidLoans_E (c.2.1 ++ [l]) c.1.length (by omega) (by omega) (by simp; omega) (fun x hx => ?_)) (E.ite (fun h => E.now' ?_) (fun g => ?_)))
  · rcases List.mem_append.1 hx with h | h
    · have := f.inner x h; omega
    · simp at h; subst h; omega
  · simp only [Bool.not_eq_true'] at h
    have : safeB c.1 (c.2.1 ++ [l]) = false := by
      unfold safeB
      rw [show vLs (c.2.1 ++ [l]) c.1.length = false from h, Bool.and_false, Bool.false_and]
    rw [this]
    simp [lentTo]
  · simp only [Bool.not_eq_true', Bool.not_eq_false] at g
    refine E.bind (specSafe_E c.1 (c.2.1 ++ [l]) h1 g) (E.ite (fun h => E.now' ?_) (fun h => E.now' ?_))
    · simp only [Bool.not_eq_true'] at h
      rw [h]
      simp [lentTo]
    · simp only [Bool.not_eq_true', Bool.not_eq_false] at h
      have hv := (vLs_iff.1 g).2 l (by simp)
      have := (vL_iff.1 hv).1
      rw [h, wrap_id (by omega) (by omega)]
      rfl
theorem implLend_E (c : Clb) (hc : vC c = true) (e : Ev7) (hl : e.2.2.2.2.1.length ≤ 1000000000) : E (fun k => impl_Club_lend (k 0) (c, e))
    (if safeB c.1 (c.2.1 ++ [(e.2.1, e.2.2.1, e.2.2.2.2.1)]) then (true, lentTo c (e.2.1, e.2.2.1, e.2.2.2.2.1) e.2.2.1) else (false, lentTo c (e.2.1, e.2.2.1, e.2.2.2.2.1) 0)) := by
  obtain ⟨h1, h2, h3⟩ := vC_parts hc
  have a1 := vS_iff.1 h1
  have a2 := vLs_iff.1 h2
  have e0 : ∀ x : Ln, List.set (List.replicate 1 ((0 : Int), (0 : Int), ([] : List Int))) 0 x = [x] := fun _ => rfl
  refine E.congr (fun k => impl_Club_lend.eq (k 0) c e) ?_
  simp only [e0]
  refine E.bind (clone_E _ hl) (E.pos (by simp [maxN]; omega) (E.bind (safeLoans_E _ _) (E.ite (fun h => E.now' ?_) (fun h => E.now' ?_))))
  · simp only [Bool.not_eq_true'] at h
    rw [h]
    simp [lentTo]
  · simp only [Bool.not_eq_true', Bool.not_eq_false] at h
    have hb : vLs (c.2.1 ++ [(e.2.1, e.2.2.1, e.2.2.2.2.1)]) c.1.length = true := by
      unfold safeB at h
      rw [Bool.and_eq_true, Bool.and_eq_true] at h
      exact h.1.2
    have hv := (vLs_iff.1 hb).2 (e.2.1, e.2.2.1, e.2.2.2.2.1) (by simp)
    have := (vL_iff.1 hv).1
    simp only at this
    rw [h, wrap_id (by omega) (by omega)]
    rfl
end Go.Proofs.YthooakfbpoopaaaG
end
section
set_option linter.unusedVariables false
namespace Go.Proofs.YthooakfbpoopaaaG
open Go Go.Refl Go.Refl.Math Go.RowKit
theorem del_eq {α : Type} (L : List α) (i : Nat) : List.take (i - 0) L ++ List.take (L.length - (i + 1)) (List.drop (i + 1) L) = L.eraseIdx i := by
  have h : List.take (L.length - (i + 1)) (List.drop (i + 1) L) = List.drop (i + 1) L := List.take_of_length_le (by simp)
  rw [h, List.eraseIdx_eq_take_drop_succ, Nat.sub_zero]
theorem del_len {α : Type} (L : List α) (i : Nat) (h : i < L.length) : i - 0 + (List.take (L.length - (i + 1)) (List.drop (i + 1) L)).length = L.length - 1 := by
  rw [List.take_of_length_le (by simp), List.length_drop]; omega
theorem delete_E (L : List Ln) (i : Nat) (h : i < L.length) (hl : L.length ≤ 1000000000) : E (fun k => slices_Delete_Loan (k 0) (L, (i : Int), ((i + 1 : Nat) : Int))) (L.eraseIdx i) := by
  refine E.congr (fun k => slices_Delete_Loan.eq (k 0) ..) ?_
  simp only [Int.toNat_natCast, del_len L i h, del_eq]
  have he : (L.eraseIdx i).length = L.length - 1 := by rw [List.length_eraseIdx, if_pos h]
  refine E.pos (by omega) (E.pos (by omega) (E.pos (by omega) (E.pos (by omega) (E.neg (by omega) (E.pos (by omega) (E.pos (by omega) (E.pos (by omega) (E.pos (by omega) (E.pos (by omega) (E.pos (by omega) (E.pos (by omega) (E.pos (by omega) (E.pos (by simp [he] <;> omega) (E.now' ?_))))))))))))))
  rw [Nat.zero_add, List.take_left' he, List.append_assoc, List.take_left' he]
def payL (ls : List Ln) (i : Nat) (a : Int) : List Ln :=
  if (ls.getD i (0, 0, [])).2.1 - a = 0 then ls.eraseIdx i else ls.set i ((ls.getD i (0, 0, [])).1, (ls.getD i (0, 0, [])).2.1 - a, (ls.getD i (0, 0, [])).2.2)
def okPay (c : Clb) (e : Ev7) : Bool := decide (0 ≤ e.2.1 ∧ e.2.1 < (c.2.1.length : Int)) && decide (1 ≤ e.2.2.1 ∧ e.2.2.1 ≤ (c.2.1.getD e.2.1.toNat (0, 0, [])).2.1 ∧ 0 ≤ e.2.2.2.1 ∧ e.2.2.2.1 ≤ 100000)
def paid (c : Clb) (e : Ev7) : Clb := (c.1, payL c.2.1 e.2.1.toNat e.2.2.1, c.2.2.1 + e.2.2.1 + e.2.2.2.1, c.2.2.2.1 + e.2.2.2.1, c.2.2.2.2)
theorem getD_set_self {α : Type} {d x : α} {L : List α} {i : Nat} (h : i < L.length) : (L.set i x).getD i d = x := by
  simp [List.getD_eq_getElem?_getD, h]
theorem specRepay_E (c : Clb) (hc : vC c = true) (e : Ev7) : E (fun k => spec_repay (k 0) (c, e)) (if okPay c e then (paid c e, true) else (c, false)) := by
  obtain ⟨h1, h2, h3⟩ := vC_parts hc
  have a1 := vS_iff.1 h1
  have a2 := vLs_iff.1 h2
  refine E.congr (fun k => spec_repay.eq (k 0) c e) ?_
  rw [wrap_id (x := (c.2.1.length : Int) - 1) (by omega) (by omega)]
  refine E.bind (inRange_E ..) (E.ite (fun h => E.now' ?_) (fun g1 => ?_))
  · rw [if_neg (by unfold okPay; simp at h ⊢; omega)]
  simp at g1
  refine E.pos (by omega) (E.pos (by omega) (E.bind (inRange_E ..) (E.ite (fun h => E.now' ?_) (fun g2 => E.bind (inRange_E ..) (E.ite (fun h => E.now' ?_) (fun g3 => ?_))))))
  · rw [if_neg (by unfold okPay; simp at h ⊢; omega)]
  · rw [if_neg (by unfold okPay; simp at h ⊢; omega)]
  simp only [Bool.not_eq_true', Bool.not_eq_false, Bool.and_eq_true, decide_eq_true_eq] at g2 g3
  have hok : okPay c e = true := by
    unfold okPay
    rw [Bool.and_eq_true, decide_eq_true_iff, decide_eq_true_iff]
    omega
  have hi : e.2.1.toNat < c.2.1.length := by omega
  have hv := (vL_iff.1 (a2.2 _ (getD_mem (0, 0, []) hi))).1
  rw [if_pos hok]
  simp only [List.length_set, getD_set_self hi]
  rw [show wrap64 (e.2.1 + 1) = ((e.2.1.toNat + 1 : Nat) : Int) by rw [wrap_id (by omega) (by omega)]; omega, Int.toNat_natCast]
  simp only [wrap_id (x := (c.2.1.getD e.2.1.toNat (0, 0, [])).2.1 - e.2.2.1) (by omega) (by omega), wrap_id (x := c.2.2.1 + e.2.2.1) (by omega) (by omega), wrap_id (x := c.2.2.1 + e.2.2.1 + e.2.2.2.1) (by omega) (by omega), wrap_id (x := c.2.2.2.1 + e.2.2.2.1) (by omega) (by omega)]
  refine E.pos (by omega) (E.pos (by omega) (E.pos (by omega) (E.pos (by omega) (E.pos (by omega) (E.pos (by omega) (E.ite (fun hz => ?_) (fun hz => E.now' ?_)))))))
  · have d := fun x => del_eq (c.2.1.set e.2.1.toNat x) e.2.1.toNat
    have dl := fun x => del_len (c.2.1.set e.2.1.toNat x) e.2.1.toNat (by rw [List.length_set]; exact hi)
    simp only [List.length_set] at d dl
    refine E.pos (by omega) (E.pos (by omega) (E.pos (by omega) (E.pos (by omega) (E.pos (by rw [dl]; simp only [maxN]; omega) (E.now' ?_)))))
    rw [d, List.eraseIdx_set_eq]
    unfold paid payL
    rw [if_pos hz]
  · unfold paid payL
    rw [if_neg hz]
theorem payLoan_E (ls : List Ln) (m i a : Int) (hv : vLs ls m = true) (hi : 0 ≤ i ∧ i < (ls.length : Int)) (ha : 1 ≤ a ∧ a ≤ (ls.getD i.toNat (0, 0, [])).2.1) (hin : ∀ l ∈ ls, l.2.2.length ≤ 1000000000) : E (fun k => impl_PayLoan (k 0) (ls, m, i, a)) (payL ls i.toNat a) := by
  have a2 := vLs_iff.1 hv
  have hi' : i.toNat < ls.length := by omega
  have hl := (vL_iff.1 (a2.2 _ (getD_mem (0, 0, []) hi'))).1
  refine E.congr (fun k => impl_PayLoan.eq (k 0) ..) (E.bind (implValidLoans_E ls m) (E.neg (by rw [hv]; decide) (E.neg (by omega) (E.neg (by omega) (E.neg (by omega) (E.pos (by omega) (E.pos (by omega) (E.neg (by omega) (E.bind (implCopyLoans_E ls (by omega) hin) ?_)))))))))
  simp only [List.length_set, getD_set_self hi', wrap_id (x := (ls.getD i.toNat (0, 0, [])).2.1 - a) (by omega) (by omega)]
  rw [show wrap64 (i + 1) = ((i.toNat + 1 : Nat) : Int) by rw [wrap_id (by omega) (by omega)]; omega]
  refine E.pos (by omega) (E.pos (by omega) (E.pos (by omega) (E.pos (by omega) (E.pos (by omega) (E.pos (by omega) (E.ite (fun hz => ?_) (fun hz => E.now' ?_)))))))
  · have d := delete_E (ls.set i.toNat ((ls.getD i.toNat (0, 0, [])).1, (ls.getD i.toNat (0, 0, [])).2.1 - a, (ls.getD i.toNat (0, 0, [])).2.2)) i.toNat (by rw [List.length_set]; exact hi') (by rw [List.length_set]; omega)
    rw [List.eraseIdx_set_eq, show ((i.toNat : Nat) : Int) = i by omega] at d
    refine E.bind d (E.now' ?_)
    unfold payL
    rw [if_pos hz]
  · unfold payL
    rw [if_neg hz]
theorem implRepay_E (c : Clb) (hc : vC c = true) (e : Ev7) : E (fun k => impl_Club_repay (k 0) (c, e)) (if okPay c e then (true, paid c e) else (false, c)) := by
  obtain ⟨h1, h2, h3⟩ := vC_parts hc
  have a1 := vS_iff.1 h1
  have a2 := vLs_iff.1 h2
  have no : ¬ (0 ≤ e.2.1 ∧ e.2.1 < (c.2.1.length : Int)) ∨ ¬ (1 ≤ e.2.2.1 ∧ e.2.2.1 ≤ (c.2.1.getD e.2.1.toNat (0, 0, [])).2.1 ∧ 0 ≤ e.2.2.2.1 ∧ e.2.2.2.1 ≤ 100000) → (false, c) = (if okPay c e then (true, paid c e) else (false, c)) := by
    intro h
    rw [if_neg]
    unfold okPay
    rw [Bool.and_eq_true, decide_eq_true_iff, decide_eq_true_iff]
    omega
  refine E.congr (fun k => impl_Club_repay.eq (k 0) c e) (E.ite (fun h => E.now' (no (by omega))) fun g1 => E.ite (fun h => E.now' (no (by omega))) fun g2 => E.ite (fun h => E.now' (no (by omega))) fun g3 => E.ite (fun h => E.now' (no (by omega))) fun g4 => E.ite (fun h => E.now' (no (by omega))) fun g5 => E.pos (by omega) (E.pos (by omega) (E.ite (fun h => E.now' (no (by omega))) fun g6 => ?_)))
  have hi : e.2.1.toNat < c.2.1.length := by omega
  have hl := (vL_iff.1 (a2.2 _ (getD_mem (0, 0, []) hi))).1
  have hok : okPay c e = true := by
    unfold okPay
    rw [Bool.and_eq_true, decide_eq_true_iff, decide_eq_true_iff]
    omega
  rw [if_pos hok, wrap_id (x := e.2.2.1 + e.2.2.2.1) (by omega) (by omega), wrap_id (by omega) (by omega), wrap_id (by omega) (by omega)]
  refine E.bind (payLoan_E c.2.1 c.1.length e.2.1 e.2.2.1 h2 (by omega) (by omega) (vC_fits hc).inner) (E.now' ?_)
  unfold paid
  rw [Int.add_assoc]
end Go.Proofs.YthooakfbpoopaaaG
end
section
set_option linter.unusedVariables false
namespace Go.Proofs.YthooakfbpoopaaaG
open Go Go.Refl Go.Refl.Math Go.RowKit
def shared (c : Clb) : Clb := (tab c.1.length fun j => c.1.getD j 0 + prt c.2.2.2.1 c.1.length j, c.2.1, c.2.2.1, 0, c.2.2.2.2)
theorem share_ext (st s : Nat → Int) (n i : Nat) : tab n (fun j => if j = i then (if j < i then st j + s j else st j) + s j else if j < i then st j + s j else st j) = tab n (fun j => if j < i + 1 then st j + s j else st j) := by
  refine tab_ext fun j hj => ?_
  by_cases e : j = i
  · subst e; simp
  · rw [if_neg e]
    by_cases e2 : j < i
    · rw [if_pos e2, if_pos (by omega)]
    · rw [if_neg e2, if_neg (by omega)]
theorem specSharing_l5 (st s : Nat → Int) (n : Nat) (hn : n ≤ 1000) (hb : ∀ j, j < n → 0 ≤ st j ∧ st j ≤ 100000000 ∧ 0 ≤ s j ∧ s j ≤ 100000000) (a b c a' b' c' : Int) (ls : List Ln) : ∀ (d i : Nat), i + d = n →
    E (fun k => spec_sharing.l5 (k 0) (k 1) (i : Int) a b c a' b' c' (tab n s) (tab n fun j => if j < i then st j + s j else st j) ls) ((tab n (fun j => st j + s j), ls, a, 0, c), true)
  | 0, i, hi => by
    refine E.step 1 (fun v w h1 h2 => by rewrite [h1, h2 0 (by decide)]; exact spec_sharing.l5_succ ..) ?_
    refine E.neg (by rw [tab_length]; omega) (E.now' ?_)
    rw [show (tab n fun j => if j < i then st j + s j else st j) = tab n (fun j => st j + s j) from tab_ext fun j hj => if_pos (by omega)]
  | d + 1, i, hi => by
    have ih := specSharing_l5 st s n hn hb a b c a' b' c' ls d (i + 1) (by omega)
    have hi' : i < n := by omega
    have h := hb i hi'
    refine E.step 1 (fun v w h1 h2 => by rewrite [h1, h2 0 (by decide)]; exact spec_sharing.l5_succ ..) ?_
    simp only [Int.toNat_natCast, tab_length, tab_get _ hi', tab_set, Nat.lt_irrefl, if_false]
    refine E.pos (by omega) (E.pos (by omega) (E.pos (by omega) (E.pos (by omega) (E.pos (by omega) (E.pos (by omega) (E.pos (by omega) ?_))))))
    rw [wrap_nat (by omega), wrap_id (by omega) (by omega)]
    refine E.congr (fun k => ?_) ih
    congr 1
    rw [← share_ext]
    refine tab_ext fun j hj => ?_
    by_cases e : j = i
    · subst e; simp
    · rw [if_neg e, if_neg e]
theorem implShare_l4 (st s : Nat → Int) (n : Nat) (hn : n ≤ 1000) (hb : ∀ j, j < n → 0 ≤ st j ∧ st j ≤ 100000000 ∧ 0 ≤ s j ∧ s j ≤ 100000000) (a b c : Int) (ls : List Ln) : ∀ (d i : Nat), i + d = n →
    E (fun k => impl_Club_share.l4 (k 0) (k 1) (n : Int) (i : Int) a b c (tab n s) (tab n fun j => if j < i then st j + s j else st j) ls) (true, tab n (fun j => st j + s j), ls, a, 0, c)
  | 0, i, hi => by
    refine E.step 1 (fun v w h1 h2 => by rewrite [h1, h2 0 (by decide)]; exact impl_Club_share.l4_succ ..) ?_
    refine E.neg (by omega) (E.now' ?_)
    rw [show (tab n fun j => if j < i then st j + s j else st j) = tab n (fun j => st j + s j) from tab_ext fun j hj => if_pos (by omega)]
  | d + 1, i, hi => by
    have ih := implShare_l4 st s n hn hb a b c ls d (i + 1) (by omega)
    have hi' : i < n := by omega
    have h := hb i hi'
    refine E.step 1 (fun v w h1 h2 => by rewrite [h1, h2 0 (by decide)]; exact impl_Club_share.l4_succ ..) ?_
    simp only [Int.toNat_natCast, tab_length, tab_get _ hi', tab_set, Nat.lt_irrefl, if_false]
    refine E.pos (by omega) (E.pos (by omega) (E.pos (by omega) (E.pos (by omega) (E.pos (by omega) (E.pos (by omega) (E.pos (by omega) ?_))))))
    rw [wrap_nat (by omega), wrap_id (by omega) (by omega)]
    refine E.congr (fun k => ?_) ih
    congr 1
    rw [← share_ext]
    refine tab_ext fun j hj => ?_
    by_cases e : j = i
    · subst e; simp
    · rw [if_neg e, if_neg e]
theorem share_start {x : Int} {p : Nat} (st : List Int) : (tab st.length fun j => if j < 0 then st.getD j 0 + prt x p j else st.getD j 0) = st := by
  conv => rhs; rw [tab_of st]
  exact tab_ext fun j hj => if_neg (by omega)
theorem specSharing_E (c : Clb) (hc : vC c = true) : E (fun k => spec_sharing (k 0) c) (if c.2.2.2.1 < 0 then (c, false) else (shared c, true)) := by
  obtain ⟨h1, h2, h3⟩ := vC_parts hc
  have a1 := vS_iff.1 h1
  refine E.congr (fun k => spec_sharing.eq (k 0) c) (E.ite (fun h => E.now' (by rw [if_pos h])) (fun h => ?_))
  rw [if_neg h]
  refine E.bind (split_E _ _ (by omega) (by omega) (by omega)) ?_
  have := specSharing_l5 (fun j => c.1.getD j 0) (prt c.2.2.2.1 c.1.length) c.1.length (by omega) (fun j hj => by
    have := stake_bd h1 hj
    have := spl_bd (x := c.2.2.2.1) (p := c.1.length) (by omega) (by omega) j
    omega) c.2.2.1 c.2.2.2.1 c.2.2.2.2 0 0 0 c.2.1 c.1.length 0 (by omega)
  rw [share_start] at this
  exact E.ren (fun _ => 0) this
theorem implShare_E (c : Clb) (hc : vC c = true) : E (fun k => impl_Club_share (k 0) c) (if c.2.2.2.1 < 0 then (false, c) else (true, shared c)) := by
  obtain ⟨h1, h2, h3⟩ := vC_parts hc
  have a1 := vS_iff.1 h1
  refine E.congr (fun k => impl_Club_share.eq (k 0) c) (E.ite (fun h => E.now' (by rw [if_pos h])) (fun h => ?_))
  rw [if_neg h]
  refine E.bind (splitEven_E _ _ (by omega) (by omega) (by omega) (by omega)) ?_
  rw [tab_length]
  have := implShare_l4 (fun j => c.1.getD j 0) (prt c.2.2.2.1 c.1.length) c.1.length (by omega) (fun j hj => by
    have := stake_bd h1 hj
    have := spl_bd (x := c.2.2.2.1) (p := c.1.length) (by omega) (by omega) j
    omega) c.2.2.1 c.2.2.2.1 c.2.2.2.2 c.2.1 c.1.length 0 (by omega)
  rw [share_start] at this
  exact E.ren (fun _ => 0) this
end Go.Proofs.YthooakfbpoopaaaG
end
section
set_option linter.unusedVariables false
set_option maxHeartbeats 200000
namespace Go.Proofs.YthooakfbpoopaaaG
open Go Go.Refl Go.Refl.Math Go.RowKit
theorem half_parts {t q : Int} (ht : 0 ≤ t) (hq : 0 < q) :
    (2 * t + q) / (2 * q) = (if q ≤ 2 * (t % q) then t / q + 1 else t / q) ∧ ((2 * t) % q = 0 ↔ 2 * (t % q) = 0 ∨ 2 * (t % q) = q) ∧ (2 * t) / q = (if q ≤ 2 * (t % q) then 2 * (t / q) + 1 else 2 * (t / q)) := by
  have e := Int.mul_ediv_add_emod t q
  have r0 := Int.emod_nonneg t (show q ≠ 0 by omega)
  have r1 := Int.emod_lt_of_pos t hq
  generalize t / q = d at *
  generalize t % q = r at *
  have m2 : 2 * q * d = 2 * (q * d) := by rw [Int.mul_assoc]
  have m3 : q * (2 * d) = 2 * (q * d) := by rw [← Int.mul_assoc, Int.mul_comm q 2, Int.mul_assoc]
  have m4 : q * (2 * d + 1) = 2 * (q * d) + q := by rw [Int.mul_add, m3, Int.mul_one]
  refine ⟨?_, ?_, ?_⟩
  · split
    · have : 2 * t + q = (2 * r - q) + 2 * q * (d + 1) := by rw [Int.mul_add, m2, Int.mul_one]; omega
      rw [this, Int.add_mul_ediv_left _ _ (by omega), Int.ediv_eq_zero_of_lt (by omega) (by omega)]; omega
    · have : 2 * t + q = (2 * r + q) + 2 * q * d := by rw [m2]; omega
      rw [this, Int.add_mul_ediv_left _ _ (by omega), Int.ediv_eq_zero_of_lt (by omega) (by omega)]; omega
  · by_cases h : q ≤ 2 * r
    · have : 2 * t = (2 * r - q) + q * (2 * d + 1) := by rw [m4]; omega
      rw [this, Int.add_mul_emod_self_left, Int.emod_eq_of_lt (by omega) (by omega)]; omega
    · have : 2 * t = 2 * r + q * (2 * d) := by rw [m3]; omega
      rw [this, Int.add_mul_emod_self_left, Int.emod_eq_of_lt (by omega) (by omega)]; omega
  · split
    · have : 2 * t = (2 * r - q) + q * (2 * d + 1) := by rw [m4]; omega
      rw [this, Int.add_mul_ediv_left _ _ (by omega), Int.ediv_eq_zero_of_lt (by omega) (by omega)]; omega
    · have : 2 * t = 2 * r + q * (2 * d) := by rw [m3]; omega
      rw [this, Int.add_mul_ediv_left _ _ (by omega), Int.ediv_eq_zero_of_lt (by omega) (by omega)]; omega
def evenP (t q : Int) : Int := if q < 2 * (t % q) then t / q + 1 else if 2 * (t % q) = q then (if t / q % 2 = 1 then t / q + 1 else t / q) else t / q
theorem evenP_bd {x p q : Int} (hx : 0 ≤ x) (hp : 0 ≤ p) (hpq : p ≤ q) (hq : 0 < q) : 0 ≤ evenP (x * p) q ∧ evenP (x * p) q ≤ x + 1 := by
  have h0 : 0 ≤ x * p := Int.mul_nonneg hx hp
  have h1 : x * p / q ≤ x := Int.ediv_le_of_le_mul hq (Int.mul_le_mul_of_nonneg_left hpq hx)
  have h2 := Int.ediv_nonneg h0 (show 0 ≤ q by omega)
  unfold evenP
  (repeat' split) <;> omega
theorem specEven_E (x p q : Int) (hx : 0 ≤ x ∧ x ≤ 1000000) (hp : 0 ≤ p ∧ p ≤ q) (hq : 1 ≤ q ∧ q ≤ 1000) : E (fun k => spec_even (k 0) (x, p, q)) (evenP (x * p) q) := by
  have hb := mul_bd hx.1 hx.2 hp.1 (show p ≤ 1000 by omega)
  have e1 : wrap64 (2 * x) = 2 * x := wrap_id (by omega) (by omega)
  have e2 : 2 * x * p = 2 * (x * p) := Int.mul_assoc ..
  obtain ⟨f1, f2, f3⟩ := half_parts (t := x * p) (q := q) hb.1 (by omega)
  have f4 := Int.emod_nonneg (x * p) (show q ≠ 0 by omega)
  have f5 := Int.emod_lt_of_pos (x * p) (show 0 < q by omega)
  have f6 := Int.ediv_nonneg hb.1 (show 0 ≤ q by omega)
  have f7 := Int.ediv_le_self (b := q) hb.1
  have hn : E (fun k => spec_near (k 0) (x, p, q)) ((2 * (x * p) + q) / (2 * q)) := by
    refine E.congr (fun k => spec_near.eq (k 0) x (p, q)) ?_
    simp only [e1, e2]
    rw [wrap_id (x := 2 * q) (by omega) (by omega), wrap_id (x := 2 * (x * p)) (by omega) (by omega), wrap_id (x := 2 * (x * p) + q) (by omega) (by omega)]
    refine E.neg (by omega) (E.now' ?_)
    rw [Int.tdiv_eq_ediv_of_nonneg (by omega), f1]
    split <;> exact wrap_id (by omega) (by omega)
  refine E.congr (fun k => spec_even.eq (k 0) x (p, q)) (E.bind hn ?_)
  simp only [e1, e2]
  rw [wrap_id (x := 2 * (x * p)) (by omega) (by omega), Int.tmod_eq_emod_of_nonneg (a := 2 * (x * p)) (by omega), Int.tdiv_eq_ediv_of_nonneg (a := 2 * (x * p)) (by omega), f1, f3]
  generalize hd' : x * p / q = d at *
  generalize hr' : x * p % q = r at *
  have hd : ∀ y : Int, 0 ≤ y → Int.tmod y 2 = y % 2 := fun y hy => Int.tmod_eq_emod_of_nonneg hy
  refine E.neg (by omega) ?_
  have g : evenP (x * p) q = if q < 2 * r then d + 1 else if 2 * r = q then (if d % 2 = 1 then d + 1 else d) else d := by
    unfold evenP; simp only [hr', hd']
  rw [g]
  rcases Int.lt_trichotomy (2 * r) q with h | h | h
  · rw [if_neg (show ¬ q ≤ 2 * r by omega), if_neg (show ¬ q ≤ 2 * r by omega), if_neg (show ¬ q < 2 * r by omega), if_neg (show ¬ 2 * r = q by omega)]
    refine E.ite (fun h0 => E.neg (by omega) (E.neg ?_ (E.now _))) (fun h0 => E.now _)
    rw [wrap_id (by omega) (by omega), hd _ (by omega)]; omega
  · rw [if_pos (show q ≤ 2 * r by omega), if_pos (show q ≤ 2 * r by omega), if_neg (show ¬ q < 2 * r by omega), if_pos h]
    refine E.pos (f2.2 (.inr h)) (E.neg (by omega) (E.pos ?_ ?_))
    · rw [wrap_id (by omega) (by omega), hd _ (by omega)]; omega
    · rw [hd _ (by omega), wrap_id (by omega) (by omega)]
      refine E.ite (fun h1 => E.now' ?_) (fun h1 => E.now' ?_)
      · rw [if_neg (by omega)]; omega
      · rw [if_pos (by omega)]
  · rw [if_pos (show q ≤ 2 * r by omega), if_pos (show q ≤ 2 * r by omega), if_pos h]
    refine E.neg (fun h0 => ?_) (E.now _)
    have := f2.1 h0
    omega
theorem validRate_specE (p q : Int) : E (fun k => spec_validRate (k 0) (p, q)) (decide (1 ≤ q ∧ q ≤ 1000 ∧ 0 ≤ p ∧ p ≤ q)) := by
  refine E.congr (fun k => spec_validRate.eq (k 0) (p, q)) (E.bind (inRange_E ..) (E.ite (fun h => E.bind (inRange_E ..) (E.now' ?_)) (fun h => E.now' ?_)))
  · simp at h
    rw [Bool.eq_iff_iff]
    simp
    omega
  · simp at h ⊢
    omega
theorem validRate_implE (p q : Int) : E (fun k => impl_ValidRate (k 0) (p, q)) (decide (1 ≤ q ∧ q ≤ 1000 ∧ 0 ≤ p ∧ p ≤ q)) := by
  refine E.congr (fun k => impl_ValidRate.eq (k 0) (p, q)) (E.ite (fun h => E.ite (fun h2 => E.ite (fun h3 => E.now' ?_) (fun h3 => E.now' ?_)) (fun h2 => E.now' ?_)) (fun h => E.now' ?_))
  · simp only [decide_eq_decide]; simp only at *; omega
  · symm; rw [decide_eq_false_iff_not]; simp only at *; omega
  · symm; rw [decide_eq_false_iff_not]; simp only at *; omega
  · symm; rw [decide_eq_false_iff_not]; simp only at *; omega
theorem roundEven_E (x p q : Int) (hx : 0 ≤ x ∧ x ≤ 1000000) (hp : 0 ≤ p ∧ p ≤ q) (hq : 1 ≤ q ∧ q ≤ 1000) : E (fun k => impl_RoundEven (k 0) (x, p, q)) (evenP (x * p) q) := by
  have hb := mul_bd hx.1 hx.2 hp.1 (show p ≤ 1000 by omega)
  have f4 := Int.emod_nonneg (x * p) (show q ≠ 0 by omega)
  have f5 := Int.emod_lt_of_pos (x * p) (show 0 < q by omega)
  have f6 := Int.ediv_nonneg hb.1 (show 0 ≤ q by omega)
  have f7 := Int.ediv_le_self (b := q) hb.1
  have hv : E (fun k => impl_validPart (k 0) (x, p, q)) true :=
    E.congr (fun k => impl_validPart.eq (k 0) x (p, q)) (E.pos (by omega) (E.pos (by omega) (E.bind (validRate_implE p q) (E.now' (by simp; omega)))))
  refine E.congr (fun k => impl_RoundEven.eq (k 0) x (p, q)) (E.bind hv (E.neg (by decide) (E.neg (by omega) (E.neg (by omega) ?_))))
  simp only
  rw [wrap_id (x := x * p) (by omega) (by omega), Int.tmod_eq_emod_of_nonneg hb.1, Int.tdiv_eq_ediv_of_nonneg hb.1]
  unfold evenP
  generalize x * p / q = d at *
  generalize x * p % q = r at *
  rw [wrap_id (x := 2 * r) (by omega) (by omega), wrap_id (x := d) (by omega) (by omega), wrap_id (x := d + 1) (by omega) (by omega), Int.tmod_eq_emod_of_nonneg f6]
  refine E.ite (fun h => E.now' ?_) (fun h => E.ite (fun h2 => E.ite (fun h3 => E.now' ?_) (fun h3 => E.now' ?_)) (fun h2 => E.now' ?_))
  · rw [if_pos h]
  · rw [if_neg (by omega), if_pos h2, if_pos h3]
  · rw [if_neg (by omega), if_pos h2, if_neg h3]
  · rw [if_neg (by omega), if_neg h2]
def nightOf (p q : Int) (l : Ln) : Ln := (l.1, l.2.1 + evenP (l.2.1 * p) q, l.2.2)
def nightL (p q : Int) (ls : List Ln) : List Ln := ls.map (nightOf p q)
def nightS (p q : Int) (ls : List Ln) : Int := (ls.map fun l => evenP (l.2.1 * p) q).sum
theorem specNight_l4 (p q : Int) (hp : 0 ≤ p ∧ p ≤ q) (hq : 1 ≤ q ∧ q ≤ 1000) (a c4 : Int) (st : List Int) (z1 z2 z3 : Int) : ∀ (post P : List Ln) (c3 : Int), (P ++ post).length ≤ 1000 → (∀ l ∈ post, 0 ≤ l.2.1 ∧ l.2.1 ≤ 100000) → -2000000 ≤ c3 → c3 + 100001 * (post.length : Int) ≤ 1000000000 →
    E (fun k => spec_night.l4 (k 0) (k 1) (P.length : Int) a c3 c4 p q z1 z2 z3 st (P ++ post)) ((st, P ++ nightL p q post, a, c3 + nightS p q post, wrap64 (c4 + 1)), true)
  | [], P, c3, hl, hx, h0, h1 => by
    refine E.step 1 (fun v w h1 h2 => by rewrite [h1, h2 0 (by decide)]; exact spec_night.l4_succ ..) ?_
    exact E.neg (by simp) (E.now' (by simp [nightL, nightS]))
  | x :: post, P, c3, hl, hx, h0, h1 => by
    have hx0 := hx x (List.mem_cons_self ..)
    have hy := evenP_bd (x := x.2.1) (p := p) (q := q) hx0.1 hp.1 hp.2 (by omega)
    simp only [List.length_cons] at h1
    have hlen : (P ++ x :: post).length = P.length + (post.length + 1) := by simp
    have ih := specNight_l4 p q hp hq a c4 st z1 z2 z3 post (P ++ [nightOf p q x]) (c3 + evenP (x.2.1 * p) q) (by simp at hl ⊢; omega) (fun y hy => hx y (List.mem_cons_of_mem _ hy)) (by omega) (by omega)
    rw [show (P ++ [nightOf p q x]).length = P.length + 1 from by simp, List.append_assoc] at ih
    refine E.step 1 (fun v w h1 h2 => by rewrite [h1, h2 0 (by decide)]; exact spec_night.l4_succ ..) ?_
    refine E.pos (by omega) (E.pos (by omega) (E.pos (by omega) ?_))
    simp only [Int.toNat_natCast, getD_mid]
    refine E.bind (specEven_E x.2.1 p q (by omega) hp hq) (E.pos (by omega) (E.pos (by omega) (E.pos (by omega) (E.pos (by omega) ?_))))
    have es : ∀ y : Ln, (P ++ x :: post).set P.length y = P ++ y :: post := fun y => by simp
    rw [es, wrap_nat (by simp at hl; omega), wrap_id (by omega) (by omega), wrap_id (by omega) (by omega)]
    have en : (x.1, x.2.1 + evenP (x.2.1 * p) q, x.2.2) = nightOf p q x := rfl
    rw [en]
    rw [List.singleton_append] at ih
    refine E.is ih ?_
    simp [nightL, nightS, Int.add_assoc]
theorem implNight_l4 (p q : Int) (hp : 0 ≤ p ∧ p ≤ q) (hq : 1 ≤ q ∧ q ≤ 1000) (a c4 : Int) (st : List Int) (n : Nat) : ∀ (post P : List Ln) (c3 : Int), (P ++ post).length = n → n ≤ 1000 → (∀ l ∈ post, 0 ≤ l.2.1 ∧ l.2.1 ≤ 100000) → -2000000 ≤ c3 → c3 + 100001 * (post.length : Int) ≤ 1000000000 →
    E (fun k => impl_Club_passNight.l4 (k 0) (k 1) (n : Int) (P.length : Int) a c3 c4 p q st (P ++ post)) (true, st, P ++ nightL p q post, a, c3 + nightS p q post, wrap64 (c4 + 1))
  | [], P, c3, hn, hl, hx, h0, h1 => by
    refine E.step 1 (fun v w h1 h2 => by rewrite [h1, h2 0 (by decide)]; exact impl_Club_passNight.l4_succ ..) ?_
    exact E.neg (by simp at hn; omega) (E.now' (by simp [nightL, nightS]))
  | x :: post, P, c3, hn, hl, hx, h0, h1 => by
    have hx0 := hx x (List.mem_cons_self ..)
    have hy := evenP_bd (x := x.2.1) (p := p) (q := q) hx0.1 hp.1 hp.2 (by omega)
    simp only [List.length_cons] at h1
    have hlen : (P ++ x :: post).length = P.length + (post.length + 1) := by simp
    have ih := implNight_l4 p q hp hq a c4 st n post (P ++ [nightOf p q x]) (c3 + evenP (x.2.1 * p) q) (by simp at hn ⊢; omega) hl (fun y hy => hx y (List.mem_cons_of_mem _ hy)) (by omega) (by omega)
    rw [show (P ++ [nightOf p q x]).length = P.length + 1 from by simp, List.append_assoc] at ih
    refine E.step 1 (fun v w h1 h2 => by rewrite [h1, h2 0 (by decide)]; exact impl_Club_passNight.l4_succ ..) ?_
    refine E.pos (by omega) (E.pos (by omega) (E.pos (by omega) ?_))
    simp only [Int.toNat_natCast, getD_mid]
    refine E.bind (roundEven_E x.2.1 p q (by omega) hp hq) (E.pos (by omega) (E.pos (by omega) (E.pos (by omega) (E.pos (by omega) ?_))))
    have es : ∀ y : Ln, (P ++ x :: post).set P.length y = P ++ y :: post := fun y => by simp
    rw [es, wrap_nat (by omega), wrap_id (by omega) (by omega), wrap_id (by omega) (by omega)]
    have en : (x.1, x.2.1 + evenP (x.2.1 * p) q, x.2.2) = nightOf p q x := rfl
    rw [en]
    rw [List.singleton_append] at ih
    refine E.is ih ?_
    simp [nightL, nightS, Int.add_assoc]
def okRate (e : Int × Int) : Bool := decide (1 ≤ e.2 ∧ e.2 ≤ 1000 ∧ 0 ≤ e.1 ∧ e.1 ≤ e.2)
def nighted (c : Clb) (e : Int × Int) : Clb := (c.1, nightL e.1 e.2 c.2.1, c.2.2.1, c.2.2.2.1 + nightS e.1 e.2 c.2.1, c.2.2.2.2 + 1)
theorem specNight_E (c : Clb) (hc : vC c = true) (e : Int × Int) : E (fun k => spec_night (k 0) (c, e)) (if okRate e then (nighted c e, true) else (c, false)) := by
  obtain ⟨h1, h2, h3⟩ := vC_parts hc
  have a2 := vLs_iff.1 h2
  refine E.congr (fun k => spec_night.eq (k 0) c e) (E.bind (validRate_specE e.1 e.2) (E.ite (fun h => E.now' ?_) (fun h => ?_)))
  · simp only [Bool.not_eq_true'] at h
    rw [if_neg (by rw [Bool.not_eq_true]; exact h)]
  · simp only [Bool.not_eq_true', Bool.not_eq_false] at h
    rw [if_pos (show okRate e = true from h)]
    have hr := of_decide_eq_true h
    have := specNight_l4 e.1 e.2 (by omega) (by omega) c.2.2.1 c.2.2.2.2 c.1 0 0 0 c.2.1 [] c.2.2.2.1 (by simp; omega) (fun l hl => by have := (vL_iff.1 (a2.2 l hl)).1; omega) (by omega) (by omega)
    rw [wrap_id (by omega) (by omega)] at this
    exact E.ren (fun _ => 0) this
theorem implNight_E (c : Clb) (hc : vC c = true) (e : Int × Int) : E (fun k => impl_Club_passNight (k 0) (c, e)) (if okRate e then (true, nighted c e) else (false, c)) := by
  obtain ⟨h1, h2, h3⟩ := vC_parts hc
  have a2 := vLs_iff.1 h2
  refine E.congr (fun k => impl_Club_passNight.eq (k 0) c e) (E.bind (validRate_implE e.1 e.2) (E.ite (fun h => E.now' ?_) (fun h => ?_)))
  · simp only [Bool.not_eq_true'] at h
    rw [if_neg (by rw [Bool.not_eq_true]; exact h)]
  · simp only [Bool.not_eq_true', Bool.not_eq_false] at h
    rw [if_pos (show okRate e = true from h)]
    have hr := of_decide_eq_true h
    have := implNight_l4 e.1 e.2 (by omega) (by omega) c.2.2.1 c.2.2.2.2 c.1 c.2.1.length c.2.1 [] c.2.2.2.1 (by simp) (by omega) (fun l hl => by have := (vL_iff.1 (a2.2 l hl)).1; omega) (by omega) (by omega)
    rw [wrap_id (by omega) (by omega)] at this
    exact E.ren (fun _ => 0) this
end Go.Proofs.YthooakfbpoopaaaG
end
section
set_option linter.unusedVariables false
namespace Go.Proofs.YthooakfbpoopaaaG
open Go Go.Refl Go.Refl.Math Go.RowKit
theorem mn_le (a b : Int) : mn a b ≤ a ∧ mn a b ≤ b ∧ (mn a b = a ∨ mn a b = b) := by
  unfold mn
  split <;> omega
def tk (st : Nat → Int) (m : Nat) (a : Int) (j : Nat) : Int := if j = m then st j - mn (st j) a else st j
theorem sumN_tk (st : Nat → Int) (m : Nat) (a : Int) : ∀ n, sumN (tk st m a) n = sumN st n - (if m < n then mn (st m) a else 0)
  | 0 => by simp [sumN]
  | n + 1 => by
    simp only [sumN]
    rw [sumN_tk st m a n]
    unfold tk
    by_cases h : n = m
    · subst h; rw [if_neg (by omega), if_pos rfl, if_pos (by omega)]; omega
    · rw [if_neg h]
      by_cases h2 : m < n
      · rw [if_pos h2, if_pos (by omega)]; omega
      · rw [if_neg h2, if_neg (by omega)]; omega
abbrev CS := (Nat → Int) × Int × List Int
def fstep (gs : List Int) (s : Nat → Int) (S : CS) (i : Nat) : CS :=
  (tk S.1 (gs.getD i 0).toNat (s i), S.2.1 + (s i - mn (S.1 (gs.getD i 0).toNat) (s i)), if mn (S.1 (gs.getD i 0).toNat) (s i) < s i then S.2.2 ++ [gs.getD i 0] else S.2.2)
def failN (gs : List Int) (s : Nat → Int) (S : CS) : Nat → CS
  | 0 => S
  | i + 1 => fstep gs s (failN gs s S i) i
def lack (st : Nat → Int) (l : Ln) : Int := l.2.1 - mn (st l.1.toNat) l.2.1
def failM (st : Nat → Int) (l : Ln) : CS := failN l.2.2 (prt (lack st l) l.2.2.length) (tk st l.1.toNat l.2.1, 0, []) l.2.2.length
def Bd (st : Nat → Int) : Prop := ∀ j, 0 ≤ st j ∧ st j ≤ 100000
theorem tk_bd {st : Nat → Int} (h : Bd st) (m : Nat) {a : Int} (ha : 0 ≤ a) : Bd (tk st m a) := fun j => by
  have := h j
  have := mn_le (st j) a
  have : 0 ≤ mn (st j) a := by unfold mn; split <;> omega
  unfold tk
  split <;> omega
structure FInv (n : Nat) (gs : List Int) (s : Nat → Int) (st : Nat → Int) (i : Nat) (S : CS) : Prop where
  bd : Bd S.1
  le : ∀ j, S.1 j ≤ st j
  ls : 0 ≤ S.2.1 ∧ S.2.1 ≤ 100001 * i
  un : ∀ g ∈ S.2.2, g ∈ gs ∧ S.1 g.toNat = 0
  ln : S.2.2.length ≤ i
  sm : sumN st n - sumN S.1 n + S.2.1 = sumN s i
theorem failN_inv {n : Nat} {gs : List Int} {s st : Nat → Int} (hst : Bd st) (hs : ∀ i, 0 ≤ s i ∧ s i ≤ 100001) (hg : ∀ g ∈ gs, 0 ≤ g ∧ g ≤ (n : Int) - 1) : ∀ i, i ≤ gs.length → FInv n gs s st i (failN gs s (st, 0, []) i)
  | 0, _ => ⟨hst, fun _ => Int.le_refl _, by simp [failN], by simp [failN], by simp [failN], by simp [failN, sumN]⟩
  | i + 1, hi => by
    have ih := failN_inv hst hs hg i (by omega)
    have hsi := hs i
    have hgi : gs.getD i 0 ∈ gs := by exact getD_mem 0 (by omega)
    have hgb := hg _ hgi
    obtain ⟨g, hge⟩ : ∃ g : Nat, gs.getD i 0 = g := ⟨(gs.getD i 0).toNat, by omega⟩
    have hm := mn_le ((failN gs s (st, 0, []) i).1 g) (s i)
    have hbd := ih.bd g
    simp only [failN, fstep, hge, Int.toNat_natCast]
    refine ⟨tk_bd ih.bd g hsi.1, fun j => ?_, by have := ih.ls; simp only; omega, fun x hx => ?_, ?_, ?_⟩
    · have := ih.le j
      have h2 := tk_bd ih.bd g hsi.1 j
      simp only [tk] at h2 ⊢
      split
      · rename_i e; subst e
        have : 0 ≤ mn ((failN gs s (st, 0, []) i).1 j) (s i) := by unfold mn; split <;> omega
        omega
      · omega
    · have zero : ∀ y : Int, (failN gs s (st, 0, []) i).1 y.toNat = 0 → tk (failN gs s (st, 0, []) i).1 g (s i) y.toNat = 0 := fun y hy => by
        unfold tk
        split
        · rw [hy]; unfold mn; split <;> omega
        · exact hy
      split at hx
      · rename_i hlt
        rw [List.mem_append] at hx
        rcases hx with hx | hx
        · exact ⟨(ih.un x hx).1, zero x (ih.un x hx).2⟩
        · simp at hx
          subst hx
          refine ⟨hge ▸ hgi, ?_⟩
          simp only [tk, Int.toNat_natCast, if_true]
          omega
      · exact ⟨(ih.un x hx).1, zero x (ih.un x hx).2⟩
    · have := ih.ln
      split <;> simp <;> omega
    · rw [sumN_tk, if_pos (by omega)]
      have := ih.sm
      simp only [sumN]
      omega
theorem lack_bd {st : Nat → Int} (hst : Bd st) {l : Ln} {m : Int} (hv : vL l m = true) : 0 ≤ lack st l ∧ lack st l ≤ 100000 := by
  have hw := vL_iff.1 hv
  have := mn_le (st l.1.toNat) l.2.1
  have : 0 ≤ mn (st l.1.toNat) l.2.1 := by have := hst l.1.toNat; unfold mn; split <;> omega
  unfold lack
  omega
theorem spl_bd2 {x : Int} {p : Nat} (hx : 0 ≤ x) (hx2 : x ≤ 100000) (hp : 0 < p) (i : Nat) : 0 ≤ prt x p i ∧ prt x p i ≤ 100001 := by
  have := spl_bd hx hp i
  omega
structure MInv (n : Nat) (l : Ln) (st : Nat → Int) (S : CS) : Prop where
  bd : Bd S.1
  le : ∀ j, S.1 j ≤ st j
  ls : 0 ≤ S.2.1
  un : ∀ g ∈ S.2.2, (0 ≤ g ∧ g < (n : Int)) ∧ S.1 g.toNat = 0
  ln : S.2.2.length ≤ 12
  sm : sumN st n - sumN S.1 n + S.2.1 = l.2.1
theorem failM_inv {n : Nat} (hn : n ≤ 12) {st : Nat → Int} (hst : Bd st) {l : Ln} (hv : vL l n = true) : MInv n l st (failM st l) := by
  have hw := vL_iff.1 hv
  have hl := lack_bd hst hv
  have h := failN_inv (n := n) (gs := l.2.2) (s := prt (lack st l) l.2.2.length) (st := tk st l.1.toNat l.2.1) (tk_bd hst _ (by omega)) (spl_bd2 hl.1 hl.2 (by omega)) hw.2.1.2.1 l.2.2.length (Nat.le_refl _)
  have hm : 0 ≤ mn (st l.1.toNat) l.2.1 := by have := hst l.1.toNat; unfold mn; split <;> omega
  refine ⟨h.bd, fun j => ?_, h.ls.1, fun g hg => ?_, by have := h.ln; show (failM st l).2.2.length ≤ 12; unfold failM; omega, ?_⟩
  · refine Int.le_trans (h.le j) ?_
    unfold tk
    split
    · rename_i e; subst e; omega
    · omega
  · have := h.un g hg
    have := hw.2.1.2.1 g this.1
    exact ⟨by omega, (h.un g hg).2⟩
  · have := h.sm
    rw [sumN_tk, if_pos (by omega), spl_all _ _ (by omega)] at this
    unfold failM
    unfold lack at this ⊢
    omega
def addNew (F un : List Int) : List Int := un.foldl (fun F g => if g ∈ F then F else F ++ [g]) F
theorem addNew_snoc (F un : List Int) (g : Int) : addNew F (un ++ [g]) = if g ∈ addNew F un then addNew F un else addNew F un ++ [g] := by unfold addNew; rw [List.foldl_append]; rfl
theorem addNew_inv {n : Nat} : ∀ (un F : List Int), F.Nodup → (∀ x ∈ F, 0 ≤ x ∧ x < (n : Int)) → (∀ x ∈ un, 0 ≤ x ∧ x < (n : Int)) →
    (addNew F un).Nodup ∧ (∀ x ∈ addNew F un, 0 ≤ x ∧ x < (n : Int)) ∧ (∃ t, addNew F un = F ++ t ∧ ∀ x ∈ t, x ∈ un)
  | [], F, h1, h2, _ => ⟨h1, h2, [], by simp [addNew], by simp⟩
  | g :: un, F, h1, h2, h3 => by
    have e : addNew F (g :: un) = addNew (if g ∈ F then F else F ++ [g]) un := rfl
    by_cases hg : g ∈ F
    · rw [e, if_pos hg]
      obtain ⟨a, b, t, c, d⟩ := addNew_inv un F h1 h2 (fun x hx => h3 x (List.mem_cons_of_mem _ hx))
      exact ⟨a, b, t, c, fun x hx => List.mem_cons_of_mem _ (d x hx)⟩
    · rw [e, if_neg hg]
      obtain ⟨a, b, t, c, d⟩ := addNew_inv un (F ++ [g]) (by rw [List.nodup_append]; exact ⟨h1, by simp, fun a ha b hb => by simp at hb; subst hb; exact fun e => hg (e ▸ ha)⟩) (by
        intro x hx
        rw [List.mem_append] at hx
        rcases hx with hx | hx
        · exact h2 x hx
        · simp at hx; subst hx; exact h3 x (List.mem_cons_self ..)) (fun x hx => h3 x (List.mem_cons_of_mem _ hx))
      refine ⟨a, b, g :: t, by rw [c]; simp, fun x hx => ?_⟩
      rcases List.mem_cons.1 hx with hx | hx
      · subst hx; exact List.mem_cons_self ..
      · exact List.mem_cons_of_mem _ (d x hx)
def cstep (f : Int) (S : CS) (l : Ln) : CS := if l.1 = f then ((failM S.1 l).1, S.2.1 + (failM S.1 l).2.1, addNew S.2.2 (failM S.1 l).2.2) else S
def proc (f : Int) (S : CS) (ls : List Ln) : CS := ls.foldl (cstep f) S
def run (ls : List Ln) : Nat → Nat → CS → CS
  | 0, _, S => S
  | d + 1, i, S => if i < S.2.2.length then run ls d (i + 1) (proc (S.2.2.getD i 0) S ls) else S
def amtF (f : Int) (ls : List Ln) : Int := ls.foldr (fun l a => (if l.1 = f then l.2.1 else 0) + a) 0
def amtS (F : List Int) (ls : List Ln) : Int := ls.foldr (fun l a => (if l.1 ∈ F then l.2.1 else 0) + a) 0
theorem amtS_snoc {F : List Int} {f : Int} (h : f ∉ F) : ∀ ls : List Ln, amtS (F ++ [f]) ls = amtS F ls + amtF f ls
  | [] => rfl
  | l :: ls => by
    have ih := amtS_snoc h ls
    simp only [amtS, amtF, List.foldr_cons] at ih ⊢
    rw [ih]
    by_cases h1 : l.1 = f
    · rw [if_pos (by simp [h1]), if_neg (by rw [h1]; exact h), if_pos h1]; omega
    · by_cases h2 : l.1 ∈ F
      · rw [if_pos (by simp [h2]), if_pos h2, if_neg h1]; omega
      · rw [if_neg (by simp [h2, h1]), if_neg h2, if_neg h1]; omega
theorem amtS_nil (ls : List Ln) : amtS [] ls = 0 := by
  induction ls with
  | nil => rfl
  | cons l ls ih => simp only [amtS, List.foldr_cons] at ih ⊢; rw [ih]; simp
structure CInv (n : Nat) (first : Int) (st0 : Nat → Int) (A : Int) (S : CS) : Prop where
  nd : S.2.2.Nodup
  rg : ∀ x ∈ S.2.2, 0 ≤ x ∧ x < (n : Int)
  hd : 0 < S.2.2.length ∧ S.2.2.getD 0 0 = first
  bd : Bd S.1
  le : ∀ j, S.1 j ≤ st0 j
  zr : ∀ i, 0 < i → i < S.2.2.length → S.1 (S.2.2.getD i 0).toNat = 0
  ls : 0 ≤ S.2.1 ∧ S.2.1 ≤ A
  sm : sumN st0 n - sumN S.1 n + S.2.1 = A
theorem sumN_le {f g : Nat → Int} (h : ∀ j, f j ≤ g j) : ∀ n, sumN f n ≤ sumN g n
  | 0 => Int.le_refl _
  | n + 1 => by have := sumN_le h n; have := h n; simp only [sumN]; omega
theorem CInv.len {n : Nat} {first : Int} {st0 : Nat → Int} {A : Int} {S : CS} (h : CInv n first st0 A S) : S.2.2.length ≤ n := by
  have := nodup_le S.2.2 (tab n (fun j => (j : Int))) h.nd (fun x hx => mem_tab.2 ⟨x.toNat, by have := h.rg x hx; omega, by have := h.rg x hx; omega⟩)
  rwa [tab_length] at this
theorem getD_append {F t : List Int} {i : Nat} (h : i < F.length) : (F ++ t).getD i 0 = F.getD i 0 := by
  simp [List.getD_eq_getElem?_getD, List.getElem?_append_left h]
theorem cstep_pre (f : Int) (S : CS) (l : Ln) {n : Nat} (hn : n ≤ 12) {first : Int} {st0 : Nat → Int} {A : Int} (h : CInv n first st0 A S) (hv : vL l n = true) :
    CInv n first st0 (A + if l.1 = f then l.2.1 else 0) (cstep f S l) ∧ ∃ t, (cstep f S l).2.2 = S.2.2 ++ t := by
  unfold cstep
  by_cases e : l.1 = f
  · rw [if_pos e, if_pos e]
    have m := failM_inv hn h.bd hv
    have hw := vL_iff.1 hv
    obtain ⟨a, b, t, c, d⟩ := addNew_inv (n := n) (failM S.1 l).2.2 S.2.2 h.nd h.rg (fun x hx => (m.un x hx).1)
    have hle := sumN_le m.le n
    refine ⟨⟨a, b, ?_, m.bd, fun j => Int.le_trans (m.le j) (h.le j), fun i h0 h1 => ?_, ?_, ?_⟩, t, c⟩
    · simp only; rw [c, getD_append h.hd.1]
      exact ⟨by simp; have := h.hd.1; omega, h.hd.2⟩
    · simp only at h1 ⊢
      rw [c] at h1 ⊢
      by_cases h2 : i < S.2.2.length
      · rw [getD_append h2]
        have z := h.zr i h0 h2
        have := m.le (S.2.2.getD i 0).toNat
        have := m.bd (S.2.2.getD i 0).toNat
        omega
      · have : (S.2.2 ++ t).getD i 0 ∈ t := by
          rw [List.getD_eq_getElem?_getD, List.getElem?_append_right (by omega)]
          rw [List.length_append] at h1
          rw [List.getElem?_eq_getElem (by omega)]
          exact List.getElem_mem _
        exact (m.un _ (d _ this)).2
    · have := h.ls; have := m.ls; have := m.sm
      simp only
      omega
    · have := h.sm; have := m.sm
      simp only
      omega
  · rw [if_neg e, if_neg e, Int.add_zero]
    exact ⟨h, [], by simp⟩
theorem proc_inv (f : Int) {n : Nat} (hn : n ≤ 12) {first : Int} {st0 : Nat → Int} : ∀ (ls : List Ln) (A : Int) (S : CS), CInv n first st0 A S → (∀ l ∈ ls, vL l n = true) →
    CInv n first st0 (A + amtF f ls) (proc f S ls) ∧ ∃ t, (proc f S ls).2.2 = S.2.2 ++ t
  | [], A, S, h, _ => ⟨by simpa [amtF, proc] using h, [], by simp [proc]⟩
  | l :: ls, A, S, h, hv => by
    obtain ⟨h1, t1, e1⟩ := cstep_pre f S l hn h (hv l (List.mem_cons_self ..))
    obtain ⟨h2, t2, e2⟩ := proc_inv f hn ls _ _ h1 (fun l' h' => hv l' (List.mem_cons_of_mem _ h'))
    refine ⟨?_, t1 ++ t2, ?_⟩
    · have : A + amtF f (l :: ls) = A + (if l.1 = f then l.2.1 else 0) + amtF f ls := by simp only [amtF, List.foldr_cons]; omega
      rw [this]
      exact h2
    · have : proc f S (l :: ls) = proc f (cstep f S l) ls := rfl
      rw [this, e2, e1, List.append_assoc]
theorem run_inv {n : Nat} (hn : n ≤ 12) {first : Int} {st0 : Nat → Int} (ls : List Ln) (hv : ∀ l ∈ ls, vL l n = true) : ∀ (d i : Nat) (S : CS), i + d = n → i ≤ S.2.2.length → CInv n first st0 (amtS (S.2.2.take i) ls) S →
    CInv n first st0 (amtS (run ls d i S).2.2 ls) (run ls d i S)
  | 0, i, S, hi, hle, h => by
    have := h.len
    have e : S.2.2.take i = S.2.2 := List.take_of_length_le (by omega)
    rw [e] at h
    exact h
  | d + 1, i, S, hi, hle, h => by
    unfold run
    by_cases hlt : i < S.2.2.length
    · rw [if_pos hlt]
      obtain ⟨h2, t, e⟩ := proc_inv (S.2.2.getD i 0) hn ls _ _ h hv
      have hg : S.2.2.getD i 0 = S.2.2[i] := by simp [List.getD_eq_getElem?_getD, hlt]
      have hnm : S.2.2.getD i 0 ∉ S.2.2.take i := by
        intro hm
        have hp := h.nd
        rw [← List.take_append_drop i S.2.2, List.nodup_append] at hp
        refine hp.2.2 _ hm (S.2.2.getD i 0) ?_ rfl
        rw [hg, List.drop_eq_getElem_cons hlt]
        exact List.mem_cons_self ..
      refine run_inv hn ls hv d (i + 1) _ (by omega) (by rw [e]; simp; omega) ?_
      rw [e, List.take_append_of_le_length (by omega), List.take_succ_eq_append_getElem hlt, ← hg, amtS_snoc hnm]
      exact h2
    · rw [if_neg hlt]
      have e : S.2.2.take i = S.2.2 := List.take_of_length_le (by omega)
      rw [e] at h
      exact h
theorem start_inv {n : Nat} {first : Int} {st0 : Nat → Int} (ls : List Ln) (h0 : 0 ≤ first ∧ first < (n : Int)) (hst : Bd st0) : CInv n first st0 (amtS (([first] : List Int).take 0) ls) (st0, 0, [first]) := by
  rw [List.take_zero, amtS_nil]
  exact ⟨by simp, by simp; exact h0, by simp, hst, fun _ => Int.le_refl _, fun i h1 h2 => by simp at h2; omega, by simp, by simp⟩
end Go.Proofs.YthooakfbpoopaaaG
end
section
set_option linter.unusedVariables false
namespace Go.Proofs.YthooakfbpoopaaaG
open Go Go.Refl Go.Refl.Math Go.RowKit
theorem mn_nn {a b : Int} (ha : 0 ≤ a) (hb : 0 ≤ b) : 0 ≤ mn a b := by unfold mn; split <;> omega
theorem set_one (x : Int) : List.set (List.replicate 1 (0 : Int)) 0 x = [x] := rfl
theorem tk_set (n : Nat) (st : Nat → Int) (g : Nat) (a : Int) : (tab n st).set g (st g - mn (st g) a) = tab n (tk st g a) := by
  rw [tab_set]
  refine tab_ext fun j hj => ?_
  unfold tk
  by_cases e : j = g
  · rw [if_pos e, if_pos e, e]
  · rw [if_neg e, if_neg e]
theorem specFail_l8 (n : Nat) (hn : n ≤ 12) (gs : List Int) (s st : Nat → Int) (b a : Int) (hgl : gs.length ≤ 12) (hst : Bd st) (hs : ∀ i, 0 ≤ s i ∧ s i ≤ 100001) (hg : ∀ g ∈ gs, 0 ≤ g ∧ g ≤ (n : Int) - 1) : ∀ (d i : Nat), i + d = gs.length →
    E (fun k => spec_fail.l8 (k 0) (k 1) (failN gs s (st, 0, []) i).2.1 (i : Int) b a gs (tab n (failN gs s (st, 0, []) i).1) (failN gs s (st, 0, []) i).2.2 (tab gs.length s))
      (tab n (failN gs s (st, 0, []) gs.length).1, (failN gs s (st, 0, []) gs.length).2.1, (failN gs s (st, 0, []) gs.length).2.2)
  | 0, i, hi => by
    refine E.step 1 (fun v w h1 h2 => by rewrite [h1, h2 0 (by decide)]; exact spec_fail.l8_succ ..) ?_
    exact E.neg (by rw [tab_length]; omega) (E.now' (by rw [show i = gs.length by omega]))
  | d + 1, i, hi => by
    have ih := specFail_l8 n hn gs s st b a hgl hst hs hg d (i + 1) (by omega)
    have inv := failN_inv (n := n) hst hs hg i (by omega)
    have hsi := hs i
    have hgi : gs.getD i 0 ∈ gs := getD_mem 0 (by omega)
    have hgb := hg _ hgi
    obtain ⟨g, hge⟩ : ∃ g : Nat, gs.getD i 0 = g := ⟨(gs.getD i 0).toNat, by omega⟩
    have hm := mn_le ((failN gs s (st, 0, []) i).1 g) (s i)
    have hb := inv.bd g
    have h3 := mn_nn hb.1 hsi.1
    have hls := inv.ls
    have hil : i < gs.length := by omega
    have hgn : g < n := by omega
    simp only [failN, fstep, hge, Int.toNat_natCast] at ih
    refine E.step 1 (fun v w h1 h2 => by rewrite [h1, h2 0 (by decide)]; exact spec_fail.l8_succ ..) ?_
    simp only [Int.toNat_natCast, hge, tab_length, tab_get _ hil, tab_get _ hgn]
    (repeat first | (with_reducible refine E.pos ?_ ?_; · omega) | (with_reducible refine E.neg ?_ ?_; · omega))
    have hw : wrap64 (wrap64 ((failN gs s (st, 0, []) i).2.1 + s i) - mn ((failN gs s (st, 0, []) i).1 g) (s i)) = (failN gs s (st, 0, []) i).2.1 + (s i - mn ((failN gs s (st, 0, []) i).1 g) (s i)) := by
      rw [wrap_id (x := (failN gs s (st, 0, []) i).2.1 + s i) (by omega) (by omega), wrap_id (by omega) (by omega)]
      omega
    rw [hw, wrap_nat (by omega), wrap_id (x := (failN gs s (st, 0, []) i).1 g - mn ((failN gs s (st, 0, []) i).1 g) (s i)) (by omega) (by omega), tk_set]
    simp only [set_one]
    refine E.ite (fun h => E.pos (by have := inv.ln; simp [maxN]; omega) ?_) (fun h => ?_)
    · rw [if_pos h] at ih; exact ih
    · rw [if_neg h] at ih; exact ih
theorem specFail_E (n : Nat) (hn : n ≤ 12) (st : Nat → Int) (l : Ln) (hst : Bd st) (hv : vL l n = true) :
    E (fun k => spec_fail (k 0) (tab n st, l)) (tab n (failM st l).1, (failM st l).2.1, (failM st l).2.2) := by
  have hw := vL_iff.1 hv
  obtain ⟨b, hb⟩ : ∃ b : Nat, l.1 = b := ⟨l.1.toNat, by omega⟩
  have hl := lack_bd hst hv
  have hbt : l.1.toNat = b := by omega
  have hbn : b < n := by omega
  have e : lack st l = l.2.1 - mn (st b) l.2.1 := by unfold lack; rw [hbt]
  have hsb := hst b
  have hm := mn_le (st b) l.2.1
  have h3 := mn_nn hsb.1 (show 0 ≤ l.2.1 by omega)
  refine E.congr (fun k => spec_fail.eq (k 0) ..) (E.bind (specCopyInts_E _ (by rw [tab_length]; omega)) ?_)
  simp only [tab_length, tab_get _ hbn, hb, Int.toNat_natCast]
  (repeat first | (with_reducible refine E.pos ?_ ?_; · omega) | (with_reducible refine E.neg ?_ ?_; · omega))
  rw [wrap_id (x := l.2.1 - mn (st b) l.2.1) (by omega) (by omega), ← e, wrap_id (x := st b - mn (st b) l.2.1) (by omega) (by omega), tk_set]
  refine E.bind (split_E (lack st l) l.2.2.length hl.1 (by omega) (by omega)) ?_
  have := specFail_l8 n hn l.2.2 (prt (lack st l) l.2.2.length) (tk st b l.2.1) b l.2.1 (by omega) (tk_bd hst _ (by omega)) (spl_bd2 hl.1 hl.2 (by omega)) hw.2.1.2.1 l.2.2.length 0 (by omega)
  unfold failM
  rw [hbt]
  exact E.ren (fun _ => 0) this
theorem specCascade_l16 (n : Nat) (ls : List Ln) (st : Nat → Int) (loss : Int) (F : List Int) (dn : List Bool) (next i : Int) (r : List Int × Int × List Int) (un : List Int) (hF : F.length ≤ 100) (hul : un.length ≤ 12)
    (nx : E (fun k => spec_cascade.l8 (k 0) (k 1) (k 2) ls loss next (i + 1) (tab n st) (addNew F un) dn) r) (hi : 0 ≤ i ∧ i ≤ 1000) : ∀ (post pre : List Int), pre ++ post = un → (addNew F pre).length ≤ 100 + pre.length →
    E (fun k => spec_cascade.l16 (k 0) (k 1) (k 2) (k 3) ls loss next i (pre.length : Int) (tab n st) (addNew F pre) dn un) r
  | [], pre, e, _ => by
    have e2 : pre = un := by simpa using e
    refine E.step 3 (fun v w h1 h2 => by rewrite [h1, h2 0 (by decide), h2 1 (by decide), h2 2 (by decide)]; exact spec_cascade.l16_succ ..) ?_
    refine E.neg (by rw [e2]; omega) ?_
    rw [wrap_id (x := i + 1) (by omega) (by omega), e2]
    exact nx
  | g :: post, pre, e, hp => by
    have ih := specCascade_l16 n ls st loss F dn next i r un hF hul nx hi post (pre ++ [g]) (by simpa using e) (by rw [addNew_snoc]; split <;> simp <;> omega)
    rw [show (pre ++ [g]).length = pre.length + 1 from by simp, addNew_snoc] at ih
    have hpl : pre.length < un.length := by rw [← e]; simp
    have hg : un.getD pre.length 0 = g := by rw [← e]; exact getD_mid ..
    refine E.step 3 (fun v w h1 h2 => by rewrite [h1, h2 0 (by decide), h2 1 (by decide), h2 2 (by decide)]; exact spec_cascade.l16_succ ..) ?_
    simp only [Int.toNat_natCast, hg, set_one]
    (repeat first | (with_reducible refine E.pos ?_ ?_; · omega) | (with_reducible refine E.neg ?_ ?_; · omega))
    rw [wrap_nat (by omega)]
    refine E.bind (placeIn_E _ _ (by omega)) (E.ite (fun h => ?_) (fun h => ?_))
    · (repeat first | (with_reducible refine E.pos ?_ ?_; · omega) | (with_reducible refine E.neg ?_ ?_; · omega))
      refine E.pos (by simp [maxN]; omega) ?_
      rw [if_neg (idxI_neg.1 h)] at ih; exact ih
    · rw [if_pos (Classical.byContradiction fun hc => h (idxI_neg.2 hc))] at ih; exact ih
def dnF (ls : List Ln) (G : List Int) (f : Int) (i j : Nat) : Bool := decide ((ls.getD j (0, 0, [])).1 ∈ G ∨ j < i ∧ (ls.getD j (0, 0, [])).1 = f)
theorem specCascade_l8 (n : Nat) (hn : n ≤ 12) (ls : List Ln) (hll : ls.length ≤ 16) (hv : ∀ l ∈ ls, vL l n = true) (first : Int) (st0 : Nat → Int) (next : Nat) (f : Int) (G : List Int) (hfG : f ∉ G) (r : List Int × Int × List Int) : ∀ (post pre : List Ln) (A : Int) (S : CS), pre ++ post = ls → CInv n first st0 A S → A + 100000 * post.length ≤ 40000000 → next < S.2.2.length → S.2.2.getD next 0 = f →
    E (fun k => spec_cascade.l5 (k 0) (k 1) ls (proc f S post).2.1 ((next + 1 : Nat) : Int) (tab n (proc f S post).1) (proc f S post).2.2 (tab ls.length (dnF ls G f ls.length))) r →
    E (fun k => spec_cascade.l8 (k 0) (k 1) (k 2) ls S.2.1 (next : Int) (pre.length : Int) (tab n S.1) S.2.2 (tab ls.length (dnF ls G f pre.length))) r
  | [], pre, A, S, e, h, _, hnx, hf, nx => by
    have := h.len
    have e2 : pre = ls := by simpa using e
    refine E.step 2 (fun v w h1 h2 => by rewrite [h1, h2 0 (by decide), h2 1 (by decide)]; exact spec_cascade.l8_succ ..) ?_
    refine E.neg (by rw [e2]; omega) ?_
    rw [wrap_nat (by omega), e2]
    exact nx
  | l :: post, pre, A, S, e, h, hA, hnx, hf, nx => by
    have hpl : pre.length < ls.length := by rw [← e]; simp
    have hvl := hv l (by rw [← e]; simp)
    have hw := vL_iff.1 hvl
    have hlen := h.len
    obtain ⟨h2, t, ht⟩ := cstep_pre f S l hn h hvl
    simp only [List.length_cons] at hA
    have ih := specCascade_l8 n hn ls hll hv first st0 next f G hfG r post (pre ++ [l]) _ (cstep f S l) (by simpa using e) h2 (by split <;> omega) (by rw [ht]; simp; omega) (by rw [ht, getD_append hnx]; exact hf) nx
    rw [show (pre ++ [l]).length = pre.length + 1 from by simp] at ih
    have hld : ls.getD pre.length (0, 0, []) = l := by rw [← e]; exact getD_mid ..
    have hskip : l.1 ≠ f → tab ls.length (dnF ls G f (pre.length + 1)) = tab ls.length (dnF ls G f pre.length) := fun hne => by
      refine tab_ext fun j hj => ?_
      unfold dnF
      rw [decide_eq_decide]
      constructor
      · rintro (h1 | ⟨h1, h2⟩)
        · exact .inl h1
        · refine .inr ⟨?_, h2⟩
          rcases Nat.lt_or_ge j pre.length with h3 | h3
          · exact h3
          · rw [show j = pre.length by omega, hld] at h2
            exact absurd h2 hne
      · rintro (h1 | ⟨h1, h2⟩)
        · exact .inl h1
        · exact .inr ⟨by omega, h2⟩
    refine E.step 2 (fun v w h1 h2 => by rewrite [h1, h2 0 (by decide), h2 1 (by decide)]; exact spec_cascade.l8_succ ..) ?_
    simp only [Int.toNat_natCast, hld, hf, tab_length, tab_get _ hpl]
    rw [wrap_nat (by omega)]
    refine E.pos (by omega) ?_
    refine E.pos (by omega) ?_
    refine E.pos (by omega) ?_
    refine E.ite (fun hd => ?_) (fun hd => ?_)
    · have hne : l.1 ≠ f := by
        unfold dnF at hd
        rw [decide_eq_true_iff, hld] at hd
        intro he
        rcases hd with hd | hd
        · exact hfG (he ▸ hd)
        · exact absurd hd.1 (Nat.lt_irrefl _)
      rw [hskip hne] at ih
      unfold cstep at ih
      rw [if_neg hne] at ih
      exact ih
    · (repeat first | (with_reducible refine E.pos ?_ ?_; · omega) | (with_reducible refine E.neg ?_ ?_; · omega))
      refine E.ite (fun hb => ?_) (fun hb => ?_)
      · have m := failM_inv hn h.bd hvl
        have hmsm := m.sm
        have hle := sumN_le m.le n
        have hls := m.ls
        have hsl := h.ls
        (repeat first | (with_reducible refine E.pos ?_ ?_; · omega) | (with_reducible refine E.neg ?_ ?_; · omega))
        refine E.bind (specFail_E n hn S.1 l h.bd hvl) ?_
        simp only
        rw [wrap_id (x := S.2.1 + (failM S.1 l).2.1) (by omega) (by omega), tab_set]
        unfold cstep at ih
        rw [if_pos hb] at ih
        have hdn : tab ls.length (fun j => if j = pre.length then true else dnF ls G f pre.length j) = tab ls.length (dnF ls G f (pre.length + 1)) := by
          refine tab_ext fun j hj => ?_
          by_cases ej : j = pre.length
          · subst ej
            rw [if_pos rfl]
            unfold dnF
            rw [eq_comm, decide_eq_true_iff, hld]
            exact .inr ⟨by omega, hb⟩
          · rw [if_neg ej]
            unfold dnF
            rw [decide_eq_decide]
            constructor
            · rintro (h1 | ⟨h1, h2⟩)
              · exact .inl h1
              · exact .inr ⟨by omega, h2⟩
            · rintro (h1 | ⟨h1, h2⟩)
              · exact .inl h1
              · exact .inr ⟨by omega, h2⟩
        rw [hdn]
        exact E.ren (fun i => if i = 3 then 0 else i) (specCascade_l16 n ls _ _ S.2.2 _ next _ r (failM S.1 l).2.2 (by omega) m.ln ih (by omega) (failM S.1 l).2.2 [] rfl (by simp [addNew]; omega))
      · rw [hskip hb] at ih
        unfold cstep at ih
        rw [if_neg hb] at ih
        exact ih
theorem amtS_bd {n : Int} {F : List Int} : ∀ {ls : List Ln}, (∀ l ∈ ls, vL l n = true) → 0 ≤ amtS F ls ∧ amtS F ls ≤ 100000 * ls.length
  | [], _ => by simp [amtS]
  | l :: ls, h => by
    have ih := amtS_bd (F := F) (ls := ls) (fun l' h' => h l' (List.mem_cons_of_mem _ h'))
    have hw := vL_iff.1 (h l (List.mem_cons_self ..))
    simp only [amtS, List.foldr_cons, List.length_cons] at ih ⊢
    split <;> omega
theorem specCascade_l5 (n : Nat) (hn : n ≤ 12) (ls : List Ln) (hll : ls.length ≤ 16) (hv : ∀ l ∈ ls, vL l n = true) (first : Int) (st0 : Nat → Int) : ∀ (d i : Nat) (S : CS), i + d = n → i ≤ S.2.2.length → CInv n first st0 (amtS (S.2.2.take i) ls) S →
    E (fun k => spec_cascade.l5 (k 0) (k 1) ls S.2.1 (i : Int) (tab n S.1) S.2.2 (tab ls.length (fun j => decide ((ls.getD j (0, 0, [])).1 ∈ S.2.2.take i)))) (tab n (run ls d i S).1, (run ls d i S).2.1, (run ls d i S).2.2)
  | 0, i, S, hi, hle, h => by
    have := h.len
    refine E.step 1 (fun v w h1 h2 => by rewrite [h1, h2 0 (by decide)]; exact spec_cascade.l5_succ ..) ?_
    exact E.neg (by omega) (E.now _)
  | d + 1, i, S, hi, hle, h => by
    have hlen := h.len
    unfold run
    refine E.step 1 (fun v w h1 h2 => by rewrite [h1, h2 0 (by decide)]; exact spec_cascade.l5_succ ..) ?_
    by_cases hlt : i < S.2.2.length
    · rw [if_pos hlt]
      obtain ⟨h2, t, e⟩ := proc_inv (S.2.2.getD i 0) hn ls _ _ h hv
      have hg : S.2.2.getD i 0 = S.2.2[i] := by simp [List.getD_eq_getElem?_getD, hlt]
      have hnm : S.2.2.getD i 0 ∉ S.2.2.take i := by
        intro hm
        have hp := h.nd
        rw [← List.take_append_drop i S.2.2, List.nodup_append] at hp
        refine hp.2.2 _ hm (S.2.2.getD i 0) ?_ rfl
        rw [hg, List.drop_eq_getElem_cons hlt]
        exact List.mem_cons_self ..
      have hb := amtS_bd (F := S.2.2.take i) hv
      have htk : (proc (S.2.2.getD i 0) S ls).2.2.take (i + 1) = S.2.2.take i ++ [S.2.2.getD i 0] := by
        rw [e, List.take_append_of_le_length (by omega), List.take_succ_eq_append_getElem hlt, ← hg]
      have ih := specCascade_l5 n hn ls hll hv first st0 d (i + 1) (proc (S.2.2.getD i 0) S ls) (by omega) (by rw [e]; simp; omega) (by
        rw [htk, amtS_snoc hnm]
        exact h2)
      have hd1 : tab ls.length (fun j => decide ((ls.getD j (0, 0, [])).1 ∈ (proc (S.2.2.getD i 0) S ls).2.2.take (i + 1))) = tab ls.length (dnF ls (S.2.2.take i) (S.2.2.getD i 0) ls.length) := by
        refine tab_ext fun j hj => ?_
        rw [htk]
        unfold dnF
        rw [decide_eq_decide]
        simp [hj]
      have hd0 : tab ls.length (fun j => decide ((ls.getD j (0, 0, [])).1 ∈ S.2.2.take i)) = tab ls.length (dnF ls (S.2.2.take i) (S.2.2.getD i 0) 0) := by
        refine tab_ext fun j hj => ?_
        unfold dnF
        rw [decide_eq_decide]
        simp
      rw [hd1] at ih
      rw [hd0]
      refine E.pos (by omega) ?_
      exact E.ren (fun i => if i = 2 then 0 else i) (specCascade_l8 n hn ls hll hv first st0 i (S.2.2.getD i 0) (S.2.2.take i) hnm _ ls [] _ S rfl h (by omega) hlt rfl ih)
    · rw [if_neg hlt]
      exact E.neg (by omega) (E.now _)
def stF (st : List Int) (j : Nat) : Int := st.getD j 0
theorem stF_bd {st : List Int} (h : vS st = true) : Bd (stF st) := fun j => by
  by_cases hj : j < st.length
  · exact stake_bd h hj
  · unfold stF
    rw [List.getD_eq_getElem?_getD, List.getElem?_eq_none (by omega)]
    simp
def casM (st : List Int) (ls : List Ln) (a : Int) : List Int × Int × List Int :=
  if vS st && vLs ls st.length && decide (0 ≤ a ∧ a < st.length) then
    (tab st.length (run ls st.length 0 (stF st, 0, [a])).1, (run ls st.length 0 (stF st, 0, [a])).2.1, (run ls st.length 0 (stF st, 0, [a])).2.2)
  else ([], -1, [])
theorem casM_pos {st : List Int} {ls : List Ln} {a : Int} (hs : vS st = true) (hv : vLs ls st.length = true) (ha : 0 ≤ a ∧ a < st.length) : casM st ls a = (tab st.length (run ls st.length 0 (stF st, 0, [a])).1, (run ls st.length 0 (stF st, 0, [a])).2.1, (run ls st.length 0 (stF st, 0, [a])).2.2) := by
  unfold casM
  rw [hs, hv, decide_eq_true ha]
  rfl
theorem casM_inv {st : List Int} {ls : List Ln} {a : Int} (hs : vS st = true) (hv : vLs ls st.length = true) (ha : 0 ≤ a ∧ a < st.length) :
    CInv st.length a (stF st) (amtS (casM st ls a).2.2 ls) (run ls st.length 0 (stF st, 0, [a])) := by
  have hs2 := vS_iff.1 hs
  have hw := vLs_iff.1 hv
  rw [casM_pos hs hv ha]
  exact run_inv (by omega) ls hw.2 st.length 0 (stF st, 0, [a]) (by omega) (by simp) (start_inv ls (by omega) (stF_bd hs))
theorem cascade_E (st : List Int) (ls : List Ln) (a : Int) (hs : vS st = true) (hv : vLs ls st.length = true) (ha : 0 ≤ a ∧ a < st.length) : E (fun k => spec_cascade (k 0) (st, ls, a)) (casM st ls a) := by
  have hs2 := vS_iff.1 hs
  have hw := vLs_iff.1 hv
  rw [casM_pos hs hv ha]
  refine E.congr (fun k => spec_cascade.eq (k 0) ..) (E.pos (by omega) (E.pos (by omega) (E.pos (by simp only [maxN]; omega) ?_)))
  have := specCascade_l5 st.length (by omega) ls hw.1.1 hw.2 a (stF st) st.length 0 (stF st, 0, [a]) (by omega) (by simp) (start_inv ls (by omega) (stF_bd hs))
  simp only at this
  rw [show tab st.length (stF st) = st from (tab_of st).symm] at this
  simp only [set_one, Int.toNat_natCast]
  rw [show List.replicate ls.length false = tab ls.length (fun _ => false) from replicate_tab ..]
  rw [show (tab ls.length fun j => decide ((ls.getD j (0, 0, [])).1 ∈ List.take 0 [a])) = tab ls.length (fun _ => false) from tab_ext fun j hj => by simp] at this
  exact E.ren (fun _ => 0) this
end Go.Proofs.YthooakfbpoopaaaG
end
section
set_option linter.unusedVariables false
namespace Go.Proofs.YthooakfbpoopaaaG
open Go Go.Refl Go.Refl.Math Go.RowKit
theorem failing_l6 (F : List Int) (hF : F.length ≤ 1000) (x7 a c3 c4 z1 z2 z3 : Int) (st : List Int) : ∀ (post pre kept : List Ln), (pre ++ post).length ≤ 1000 → kept.length ≤ pre.length →
    E (fun k => spec_failing.l6 (k 0) (k 1) x7 (pre.length : Int) a c3 c4 z1 z2 z3 st F kept (pre ++ post)) ((st, kept ++ post.filter (fun l => decide (l.1 ∉ F)), a, wrap64 (c3 - x7), c4), true)
  | [], pre, kept, hl, hk => by
    refine E.step 1 (fun v w h1 h2 => by rewrite [h1, h2 0 (by decide)]; exact spec_failing.l6_succ ..) ?_
    exact E.neg (by simp) (E.now' (by simp))
  | x :: post, pre, kept, hl, hk => by
    have hlen : (pre ++ x :: post).length = pre.length + (post.length + 1) := by simp
    have e0 : ∀ x : Ln, List.set (List.replicate 1 ((0 : Int), (0 : Int), ([] : List Int))) 0 x = [x] := fun _ => rfl
    refine E.step 1 (fun v w h1 h2 => by rewrite [h1, h2 0 (by decide)]; exact spec_failing.l6_succ ..) ?_
    refine E.pos (by omega) (E.pos (by omega) (E.pos (by omega) ?_))
    simp only [Int.toNat_natCast, getD_mid, e0]
    rw [wrap_nat (by omega)]
    refine E.bind (placeIn_E F x.1 (by omega)) (E.ite (fun h => E.pos (by omega) (E.pos (by omega) (E.pos (by simp [maxN]; omega) ?_))) (fun h => ?_))
    · have ih := failing_l6 F hF x7 a c3 c4 z1 z2 z3 st post (pre ++ [x]) (kept ++ [x]) (by simp at hl ⊢; omega) (by simp; omega)
      rw [show (pre ++ [x]).length = pre.length + 1 from by simp, List.append_assoc] at ih
      have hn : x.1 ∉ F := idxI_neg.1 h
      exact E.is ih (by simp [hn])
    · have ih := failing_l6 F hF x7 a c3 c4 z1 z2 z3 st post (pre ++ [x]) kept (by simp at hl ⊢; omega) (by simp; omega)
      rw [show (pre ++ [x]).length = pre.length + 1 from by simp, List.append_assoc] at ih
      have hn : x.1 ∈ F := Classical.byContradiction fun hh => h (idxI_neg.2 hh)
      exact E.is ih (by simp [hn])
def okFail (c : Clb) (m : Int) : Bool := decide (0 ≤ m ∧ m < (c.1.length : Int))
def leftL (F : List Int) (ls : List Ln) : List Ln := ls.filter fun l => decide (l.1 ∉ F)
def failedC (c : Clb) (m : Int) : Clb := ((casM c.1 c.2.1 m).1, leftL (casM c.1 c.2.1 m).2.2 c.2.1, c.2.2.1, c.2.2.2.1 - (casM c.1 c.2.1 m).2.1, c.2.2.2.2)
theorem casM_bd {st : List Int} {ls : List Ln} {a : Int} (hs : vS st = true) (hv : vLs ls st.length = true) (ha : 0 ≤ a ∧ a < st.length) :
    0 ≤ (casM st ls a).2.1 ∧ (casM st ls a).2.1 ≤ 1600000 ∧ (casM st ls a).2.2.length ≤ 12 ∧ (casM st ls a).1.length = st.length := by
  have hs2 := vS_iff.1 hs
  have hw := vLs_iff.1 hv
  have h := casM_inv hs hv ha
  have hb := amtS_bd (F := (casM st ls a).2.2) hw.2
  have h1 := h.ls
  have h2 := h.len
  rw [casM_pos hs hv ha] at hb h1 ⊢
  simp only at *
  exact ⟨by omega, by omega, by omega, tab_length ..⟩
theorem specFailing_E (c : Clb) (hc : vC c = true) (m : Int) : E (fun k => spec_failing (k 0) (c, m)) (if okFail c m then (failedC c m, true) else (c, false)) := by
  obtain ⟨h1, h2, h3⟩ := vC_parts hc
  have a1 := vS_iff.1 h1
  have a2 := vLs_iff.1 h2
  refine E.congr (fun k => spec_failing.eq (k 0) c m) ?_
  rw [wrap_id (x := (c.1.length : Int) - 1) (by omega) (by omega)]
  refine E.bind (inRange_E ..) (E.ite (fun h => E.now' ?_) (fun g => ?_))
  · rw [if_neg (by unfold okFail; simp at h ⊢; omega)]
  simp at g
  have hm : 0 ≤ m ∧ m < (c.1.length : Int) := by omega
  rw [if_pos (show okFail c m = true from decide_eq_true hm)]
  have hb := casM_bd h1 h2 hm
  refine E.bind (cascade_E c.1 c.2.1 m h1 h2 hm) ?_
  have := failing_l6 (casM c.1 c.2.1 m).2.2 (by omega) (casM c.1 c.2.1 m).2.1 c.2.2.1 c.2.2.2.1 c.2.2.2.2 0 0 0 (casM c.1 c.2.1 m).1 c.2.1 [] [] (by simp; omega) (by simp)
  rw [wrap_id (by omega) (by omega)] at this
  exact E.ren (fun _ => 0) this
end Go.Proofs.YthooakfbpoopaaaG
end
section
set_option linter.unusedVariables false
namespace Go.Proofs.YthooakfbpoopaaaG
open Go Go.Refl Go.Refl.Math Go.RowKit
def zeroC : Clb := ([], [], 0, 0, 0)
def joined (c : Clb) : Clb := (c.1 ++ [0], c.2)
def evOut (c : Clb) (e : Ev7) : Option Clb :=
  if e.1 = 0 then some (joined c)
  else if e.1 = 1 then (if okMove c e.2.1 e.2.2.1 then some (moved c e.2.1 e.2.2.1) else none)
  else if e.1 = 2 then (if okMove c e.2.1 e.2.2.1 && safeB (moved c e.2.1 (-e.2.2.1)).1 c.2.1 then some (moved c e.2.1 (-e.2.2.1)) else none)
  else if e.1 = 3 then (if safeB c.1 (c.2.1 ++ [(e.2.1, e.2.2.1, e.2.2.2.2.1)]) then some (lentTo c (e.2.1, e.2.2.1, e.2.2.2.2.1) e.2.2.1) else none)
  else if e.1 = 4 then (if okPay c e then some (paid c e) else none)
  else if e.1 = 5 then (if okFail c e.2.1 then some (failedC c e.2.1) else none)
  else if e.1 = 6 then (if okRate e.2.2.2.2.2 then some (nighted c e.2.2.2.2.2) else none)
  else if e.1 = 7 then (if c.2.2.2.1 < 0 then none else some (shared c))
  else none
def checkC (d : Clb) : Option Clb := if vC d then some d else none
def stepC (c : Clb) (e : Ev7) : Option Clb := (evOut c e).bind checkC
def tellC (o : Option Clb) : Clb × Bool := match o with
  | some d => (d, true)
  | none => (zeroC, false)
def Small (d : Clb) : Prop := d.2.1.length < 4611686018427387904 ∧ ∀ l ∈ d.2.1, l.2.2.length < 4611686018427387904
theorem Fits.small {d : Clb} (h : Fits d) : Small d := ⟨by have := h.loans; omega, fun l hl => by have := h.inner l hl; omega⟩
theorem stepC_valid {c d : Clb} {e : Ev7} (h : stepC c e = some d) : vC d = true := by
  unfold stepC checkC at h
  obtain ⟨x, _, hx⟩ := Option.bind_eq_some_iff.1 h
  split at hx
  · rename_i hv; cases hx; exact hv
  · cases hx
theorem check_E (d : Clb) (hd : Small d) : E (fun k => (spec_validClub (k 0) d).bind fun y => if (!y) = true then some (zeroC, false) else some (d, true)) (tellC (checkC d)) := by
  refine E.bind (specValidClub_E d hd.1 hd.2) (E.ite (fun h => E.now' ?_) (fun h => E.now' ?_))
  · simp only [Bool.not_eq_true'] at h
    unfold checkC; rw [if_neg (by rw [h]; decide)]; rfl
  · simp only [Bool.not_eq_true', Bool.not_eq_false] at h
    unfold checkC; rw [if_pos h]; rfl
theorem inner_set {ls : List Ln} {B : Nat} (h : ∀ l ∈ ls, l.2.2.length ≤ B) (i : Nat) (x : Ln) (hx : x.2.2.length ≤ B) : ∀ l ∈ ls.set i x, l.2.2.length ≤ B := fun l hl => by
  rcases List.mem_or_eq_of_mem_set hl with h1 | h1
  · exact h l h1
  · rw [h1]; exact hx
theorem payL_small {ls : List Ln} (h1 : ls.length ≤ 1000000000) (h2 : ∀ l ∈ ls, l.2.2.length ≤ 1000000000) (i : Nat) (a : Int) : (payL ls i a).length ≤ 1000000000 ∧ ∀ l ∈ payL ls i a, l.2.2.length ≤ 1000000000 := by
  unfold payL
  split
  · refine ⟨?_, fun l hl => h2 l (List.mem_of_mem_eraseIdx hl)⟩
    have := List.length_eraseIdx_le (l := ls) (i := i)
    omega
  · rw [List.length_set]
    refine ⟨h1, inner_set h2 i _ ?_⟩
    by_cases hi : i < ls.length
    · show (ls.getD i (0, 0, [])).2.2.length ≤ _
      exact h2 _ (getD_mem (0, 0, []) hi)
    · simp [List.getD_eq_getElem?_getD, List.getElem?_eq_none (show ls.length ≤ i by omega)]
theorem specApply_E (c : Clb) (hc : vC c = true) (e : Ev7) (hl : e.2.2.2.2.1.length ≤ 1000000000) : E (fun k => spec_applyEvent (k 0) (c, e)) (tellC (stepC c e)) := by
  obtain ⟨h1, h2, h3⟩ := vC_parts hc
  have a1 := vS_iff.1 h1
  have f := vC_fits hc
  refine E.congr (fun k => spec_applyEvent.eq (k 0) c e) (E.bind (specCopyClub_E c f) ?_)
  have no : ∀ {x : Clb × Bool} {g : (Nat → Nat) → Option (Clb × Bool)}, x.2 = false → stepC c e = none → E (fun k => if (!x.2) = true then some (zeroC, false) else g k) (tellC (stepC c e)) := fun hx hn => E.pos (by rw [hx]; rfl) (E.now' (by rw [hn]; rfl))
  have yes : ∀ {x : Clb × Bool}, x.2 = true → Small x.1 → evOut c e = some x.1 → E (fun k => if (!x.2) = true then some (zeroC, false) else (spec_validClub (k 0) x.1).bind fun y => if (!y) = true then some (zeroC, false) else some (x.1, true)) (tellC (stepC c e)) := fun hx hs hn => by
    refine E.neg (by rw [hx]; decide) (E.is (check_E _ hs) ?_)
    unfold stepC; rw [hn]; rfl
  by_cases k0 : e.1 = 0
  · refine E.pos k0 (E.pos (by simp [maxN]; omega) ?_)
    refine E.is (check_E (joined c) f.small) ?_
    unfold stepC evOut; rw [if_pos k0]; rfl
  by_cases k1 : e.1 = 1
  · (repeat first | (with_reducible refine E.pos ?_ ?_; · omega) | (with_reducible refine E.neg ?_ ?_; · omega))
    refine E.bind (specMove_E c hc e) ?_
    rw [if_neg (show ¬ e.1 = 2 by omega)]
    by_cases ho : okMove c e.2.1 e.2.2.1 = true
    · rw [if_pos ho]
      have he : evOut c e = some (moved c e.2.1 e.2.2.1) := by unfold evOut; rw [if_neg k0, if_pos k1, if_pos ho]
      by_cases hv : vS (moved c e.2.1 e.2.2.1).1 = true
      · exact yes (x := (moved c e.2.1 e.2.2.1, _)) (by simp [hv, k1]) f.small he
      · refine no (by simp [hv]) ?_
        unfold stepC checkC; rw [he]
        simp only [Option.bind_some]
        rw [if_neg]
        exact fun h => hv (vC_parts h).1
    · rw [if_neg ho]
      exact no rfl (by unfold stepC evOut; rw [if_neg k0, if_pos k1, if_neg ho]; rfl)
  by_cases k2 : e.1 = 2
  · (repeat first | (with_reducible refine E.pos ?_ ?_; · omega) | (with_reducible refine E.neg ?_ ?_; · omega))
    refine E.bind (specMove_E c hc e) ?_
    rw [if_pos k2]
    by_cases ho : okMove c e.2.1 e.2.2.1 = true
    · rw [if_pos ho]
      by_cases hs : safeB (moved c e.2.1 (-e.2.2.1)).1 c.2.1 = true
      · have he : evOut c e = some (moved c e.2.1 (-e.2.2.1)) := by unfold evOut; rw [if_neg k0, if_neg k1, if_pos k2, ho, hs]; rfl
        have hv : vS (moved c e.2.1 (-e.2.2.1)).1 = true := by
          unfold safeB at hs
          simp only [Bool.and_eq_true] at hs
          exact hs.1.1
        exact yes (x := (moved c e.2.1 (-e.2.2.1), _)) (by simp [hv, hs]) f.small he
      · have he : evOut c e = none := by unfold evOut; rw [if_neg k0, if_neg k1, if_pos k2, ho, Bool.eq_false_iff.2 hs]; rfl
        refine no (by simp [k2, hs]) ?_
        unfold stepC; rw [he]; rfl
    · rw [if_neg ho]
      exact no rfl (by unfold stepC evOut; rw [if_neg k0, if_neg k1, if_pos k2, Bool.eq_false_iff.2 ho]; rfl)
  by_cases k3 : e.1 = 3
  · (repeat first | (with_reducible refine E.pos ?_ ?_; · omega) | (with_reducible refine E.neg ?_ ?_; · omega))
    refine E.bind (specCopyInts_E _ hl) (E.bind (specLend_E c hc (e.2.1, e.2.2.1, e.2.2.2.2.1) hl) ?_)
    by_cases ho : safeB c.1 (c.2.1 ++ [(e.2.1, e.2.2.1, e.2.2.2.2.1)]) = true
    · rw [if_pos ho]
      refine yes (x := (lentTo c (e.2.1, e.2.2.1, e.2.2.2.2.1) e.2.2.1, true)) rfl ⟨?_, ?_⟩ (by unfold evOut; rw [if_neg k0, if_neg k1, if_neg k2, if_pos k3, if_pos ho])
      · have := f.loans
        simp [lentTo]; omega
      · intro l hm
        rcases List.mem_append.1 hm with h | h
        · have := f.inner l h; omega
        · simp at h; subst h; simp only; omega
    · rw [if_neg ho]
      exact no rfl (by unfold stepC evOut; rw [if_neg k0, if_neg k1, if_neg k2, if_pos k3, if_neg ho]; rfl)
  by_cases k4 : e.1 = 4
  · (repeat first | (with_reducible refine E.pos ?_ ?_; · omega) | (with_reducible refine E.neg ?_ ?_; · omega))
    refine E.bind (specRepay_E c hc e) ?_
    by_cases ho : okPay c e = true
    · rw [if_pos ho]
      have hp := payL_small f.loans f.inner e.2.1.toNat e.2.2.1
      exact yes (x := (paid c e, true)) rfl ⟨by have := hp.1; simp only [paid]; omega, fun l hm => by have := hp.2 l hm; omega⟩ (by unfold evOut; rw [if_neg k0, if_neg k1, if_neg k2, if_neg k3, if_pos k4, if_pos ho])
    · rw [if_neg ho]
      exact no rfl (by unfold stepC evOut; rw [if_neg k0, if_neg k1, if_neg k2, if_neg k3, if_pos k4, if_neg ho]; rfl)
  by_cases k5 : e.1 = 5
  · (repeat first | (with_reducible refine E.pos ?_ ?_; · omega) | (with_reducible refine E.neg ?_ ?_; · omega))
    refine E.bind (specFailing_E c hc e.2.1) ?_
    by_cases ho : okFail c e.2.1 = true
    · rw [if_pos ho]
      refine yes (x := (failedC c e.2.1, true)) rfl ⟨?_, fun l hm => f.small.2 l (List.mem_filter.1 hm).1⟩ (by unfold evOut; rw [if_neg k0, if_neg k1, if_neg k2, if_neg k3, if_neg k4, if_pos k5, if_pos ho])
      have := List.length_filter_le (fun l : Ln => decide (l.1 ∉ (casM c.1 c.2.1 e.2.1).2.2)) c.2.1
      have := f.loans
      simp only [failedC, leftL]
      omega
    · rw [if_neg ho]
      exact no rfl (by unfold stepC evOut; rw [if_neg k0, if_neg k1, if_neg k2, if_neg k3, if_neg k4, if_pos k5, if_neg ho]; rfl)
  by_cases k6 : e.1 = 6
  · (repeat first | (with_reducible refine E.pos ?_ ?_; · omega) | (with_reducible refine E.neg ?_ ?_; · omega))
    refine E.bind (specNight_E c hc e.2.2.2.2.2) ?_
    by_cases ho : okRate e.2.2.2.2.2 = true
    · rw [if_pos ho]
      refine yes (x := (nighted c e.2.2.2.2.2, true)) rfl ⟨?_, fun l hm => ?_⟩ (by unfold evOut; rw [if_neg k0, if_neg k1, if_neg k2, if_neg k3, if_neg k4, if_neg k5, if_pos k6, if_pos ho])
      · have := f.loans
        simp only [nighted, nightL, List.length_map]; omega
      · obtain ⟨x, hx, rfl⟩ := List.mem_map.1 hm
        exact f.small.2 x hx
    · rw [if_neg ho]
      exact no rfl (by unfold stepC evOut; rw [if_neg k0, if_neg k1, if_neg k2, if_neg k3, if_neg k4, if_neg k5, if_pos k6, if_neg ho]; rfl)
  by_cases k7 : e.1 = 7
  · (repeat first | (with_reducible refine E.pos ?_ ?_; · omega) | (with_reducible refine E.neg ?_ ?_; · omega))
    refine E.bind (specSharing_E c hc) ?_
    by_cases ho : c.2.2.2.1 < 0
    · rw [if_pos ho]
      exact no rfl (by unfold stepC evOut; rw [if_neg k0, if_neg k1, if_neg k2, if_neg k3, if_neg k4, if_neg k5, if_neg k6, if_pos k7, if_pos ho]; rfl)
    · rw [if_neg ho]
      exact yes (x := (shared c, true)) rfl f.small (by unfold evOut; rw [if_neg k0, if_neg k1, if_neg k2, if_neg k3, if_neg k4, if_neg k5, if_neg k6, if_pos k7, if_neg ho])
  · (repeat first | (with_reducible refine E.pos ?_ ?_; · omega) | (with_reducible refine E.neg ?_ ?_; · omega))
    refine E.now' ?_
    unfold stepC evOut; rw [if_neg k0, if_neg k1, if_neg k2, if_neg k3, if_neg k4, if_neg k5, if_neg k6, if_neg k7]; rfl
end Go.Proofs.YthooakfbpoopaaaG
end
section
set_option linter.unusedVariables false
namespace Go.Proofs.YthooakfbpoopaaaG
open Go Go.Refl Go.Refl.Math Go.RowKit
theorem newReader_E (s : List Int) : E (fun k => spec_newReader (k 0) s) (s.take 2000, 0) := by
  refine E.congr (fun k => spec_newReader.eq (k 0) s) ?_
  refine E.ite (fun h => E.pos (by omega) (E.now _)) (fun h => ?_)
  rw [List.take_of_length_le (by omega)]
  exact E.now _
structure RdOk (r : List Int × Int) (b : Int) : Prop where
  bytes : ∀ x ∈ r.1, 0 ≤ x ∧ x ≤ 255
  len : r.1.length ≤ 2000
  lo : 0 ≤ r.2
  hi : r.2 ≤ b
theorem RdOk.next {s : List Int} {p b : Int} (h : RdOk (s, p) b) : RdOk (s, p + 1) (b + 1) := ⟨h.bytes, h.len, by have := h.lo; simp only at this ⊢; omega, by have := h.hi; simp only at this ⊢; omega⟩
theorem RdOk.mono {r : List Int × Int} {b c : Int} (h : RdOk r b) (hc : b ≤ c) : RdOk r c := ⟨h.bytes, h.len, h.lo, Int.le_trans h.hi hc⟩
theorem pick_E (s : List Int) (p n : Int) (hr : RdOk (s, p) 1000000000) :
    ∃ v, E (fun k => spec_reader_pick (k 0) ((s, p), n)) (v, s, p + 1) ∧ 0 ≤ v ∧ (1 ≤ n → v < n) := by
  obtain ⟨hs, hl, hp, hp2⟩ := hr
  simp only at hs hl hp hp2
  have e1 : wrap64 (p + 1) = p + 1 := wrap_id (by omega) (by omega)
  have e2 : wrap64 (p + 1 - 1) = p := by rw [wrap_id (by omega) (by omega)]; omega
  by_cases hn : n < 1
  · refine ⟨0, E.congr (fun k => spec_reader_pick.eq (k 0) (s, p) n) (E.pos hn ?_), Int.le_refl _, fun h => by omega⟩
    rw [e1]; exact E.now _
  by_cases hz : s.length = 0
  · refine ⟨0, E.congr (fun k => spec_reader_pick.eq (k 0) (s, p) n) (E.neg hn (E.pos (by simp only; omega) ?_)), Int.le_refl _, fun h => by omega⟩
    rw [e1]; exact E.now _
  have hrd : ∀ i : Int, 0 ≤ i → i < (s.length : Int) → 0 ≤ s.getD i.toNat 0 ∧ s.getD i.toNat 0 ≤ 255 := fun i h0 h1 => hs _ (getD_mem 0 (by omega))
  have key : ∀ x : Int, 0 ≤ x → 0 ≤ Int.tmod x n ∧ Int.tmod x n < n := by
    intro x hx
    rw [Int.tmod_eq_emod_of_nonneg hx]
    exact ⟨Int.emod_nonneg _ (by omega), Int.emod_lt_of_pos _ (by omega)⟩
  by_cases hlt : p < (s.length : Int)
  · obtain ⟨h0, h1⟩ := hrd p hp hlt
    refine ⟨Int.tmod (s.getD p.toNat 0) n, E.congr (fun k => spec_reader_pick.eq (k 0) (s, p) n) (E.neg hn (E.neg (by simp only; omega) ?_)), (key _ h0).1, fun _ => (key _ h0).2⟩
    simp only [e1, e2]
    refine E.pos hlt (E.pos hp (E.pos hlt (E.neg (by omega) ?_)))
    rw [wrap_id (x := s.getD p.toNat 0) (by omega) (by omega)]
    exact E.now _
  · have hsl : (0 : Int) < s.length := by omega
    have hm1 : Int.tmod p s.length = p % s.length := Int.tmod_eq_emod_of_nonneg hp
    have hd1 : Int.tdiv p s.length = p / s.length := Int.tdiv_eq_ediv_of_nonneg hp
    have ha0 := Int.emod_nonneg p (show (s.length : Int) ≠ 0 by omega)
    have ha1 := Int.emod_lt_of_pos p hsl
    have hb0 := Int.emod_nonneg (p * 7 + 3) (show (s.length : Int) ≠ 0 by omega)
    have hb1 := Int.emod_lt_of_pos (p * 7 + 3) hsl
    have hq0 := Int.ediv_nonneg hp (show (0 : Int) ≤ s.length by omega)
    have hq1 := Int.ediv_le_self (b := (s.length : Int)) hp
    obtain ⟨hx0, hx1⟩ := hrd _ ha0 ha1
    obtain ⟨hy0, hy1⟩ := hrd _ hb0 hb1
    have ew1 : wrap64 (wrap64 (p * 7) + 3) = p * 7 + 3 := by rw [wrap_id (x := p * 7) (by omega) (by omega), wrap_id (by omega) (by omega)]
    have hm2 : Int.tmod (p * 7 + 3) s.length = (p * 7 + 3) % s.length := Int.tmod_eq_emod_of_nonneg (by omega)
    generalize hX : s.getD (p % s.length).toNat 0 = X at hx0 hx1
    generalize hY : s.getD ((p * 7 + 3) % s.length).toNat 0 = Y at hy0 hy1
    generalize hQ : p / s.length = q at hq0 hq1
    have big : wrap64 (wrap64 (wrap64 (wrap64 (wrap64 X * 131) + wrap64 (wrap64 Y * 1117)) + wrap64 (p * 29)) + wrap64 (wrap64 q * 53)) = X * 131 + Y * 1117 + p * 29 + q * 53 := by
      rw [wrap_id (x := X) (by omega) (by omega), wrap_id (x := Y) (by omega) (by omega), wrap_id (x := q) (by omega) (by omega), wrap_id (x := X * 131) (by omega) (by omega), wrap_id (x := Y * 1117) (by omega) (by omega), wrap_id (x := p * 29) (by omega) (by omega), wrap_id (x := q * 53) (by omega) (by omega), wrap_id (x := X * 131 + Y * 1117) (by omega) (by omega), wrap_id (x := X * 131 + Y * 1117 + p * 29) (by omega) (by omega), wrap_id (by omega) (by omega)]
    have hB : 0 ≤ X * 131 + Y * 1117 + p * 29 + q * 53 ∧ X * 131 + Y * 1117 + p * 29 + q * 53 < 1099511627776 := by omega
    generalize hV : X * 131 + Y * 1117 + p * 29 + q * 53 = V at big hB
    have hc : wrap64 (Int.tdiv V 64) = V / 64 := by rw [Int.tdiv_eq_ediv_of_nonneg hB.1, wrap_id (by omega) (by omega)]
    have hz0 := xor_bd (x := V) (y := V / 64) hB.1 hB.2 (by omega) (by omega)
    refine ⟨_, E.congr (fun k => spec_reader_pick.eq (k 0) (s, p) n) (E.neg hn (E.neg (by simp only; omega) ?_)), (key _ hz0).1, fun _ => (key _ hz0).2⟩
    simp only [e1, e2, ew1, hm1, hm2, hX, hY, hd1, hQ, big, hc]
    exact E.neg hlt (E.neg (by omega) (E.pos ha0 (E.pos ha1 (E.neg (by omega) (E.pos hb0 (E.pos hb1 (E.neg (by omega) (E.neg (by omega) (E.now _)))))))))
theorem one_E (s : List Int) (p : Int) (xs : List Int) (hr : RdOk (s, p) 1000000000) (hx : 0 < xs.length) :
    ∃ v, E (fun k => spec_reader_one (k 0) ((s, p), xs)) (v, s, p + 1) ∧ v ∈ xs := by
  obtain ⟨v, h, h0, h1⟩ := pick_E s p xs.length hr
  have hv : v < (xs.length : Int) := h1 (by omega)
  exact ⟨xs.getD v.toNat 0, E.congr (fun k => spec_reader_one.eq (k 0) (s, p) xs) (E.bind h (E.pos h0 (E.pos hv (E.now _)))), getD_mem 0 (by omega)⟩
end Go.Proofs.YthooakfbpoopaaaG
end
section
set_option linter.unusedVariables false
namespace Go.Proofs.YthooakfbpoopaaaG
open Go Go.Refl Go.Refl.Math Go.RowKit
abbrev Cl := List Int × List (Int × Int × List Int) × Int × Int × Int
theorem pick_D {s : List Int} {p b : Int} (hr : RdOk (s, p) b) (hb : b ≤ 1000000000) (n : Int) :
    ∃ v, E (fun k => spec_reader_pick (k 0) ((s, p), n)) (v, s, p + 1) ∧ 0 ≤ v ∧ (1 ≤ n → v < n) ∧ RdOk (s, p + 1) (b + 1) := by
  obtain ⟨v, h1, h2, h3⟩ := pick_E s p n (hr.mono hb)
  exact ⟨v, h1, h2, h3, hr.next⟩
theorem one_D {s : List Int} {p b : Int} (hr : RdOk (s, p) b) (hb : b ≤ 1000000000) (xs : List Int) (hx : 0 < xs.length) :
    ∃ v, E (fun k => spec_reader_one (k 0) ((s, p), xs)) (v, s, p + 1) ∧ v ∈ xs ∧ RdOk (s, p + 1) (b + 1) := by
  obtain ⟨v, h1, h2⟩ := one_E s p xs (hr.mono hb) hx
  exact ⟨v, h1, h2, hr.next⟩
theorem someRate_D {s : List Int} {p b : Int} (hr : RdOk (s, p) b) (hb : b ≤ 900000000) :
    ∃ v, E (fun k => spec_someRate (k 0) (s, p)) (v, s, p + 4) ∧ RdOk (s, p + 4) (b + 4) := by
  obtain ⟨v0, h0, _, _, r0⟩ := pick_D hr (by omega) 50
  obtain ⟨v1, h1, _, r1⟩ := one_D r0 (by omega) (List.set (List.set (List.set (List.set (List.set (List.set (List.set (List.set (List.set (List.replicate 9 0) 0 100) 1 12) 2 2) 3 4) 4 1000) 5 8) 6 1) 7 365) 8 (wrap64 (1 + v0))) (by simp)
  obtain ⟨v2, h2, _, _, r2⟩ := pick_D r1 (by omega) (wrap64 (v1 + 1))
  obtain ⟨v3, h3, _, r3⟩ := one_D r2 (by omega) (List.set (List.set (List.set (List.set (List.set (List.set (List.replicate 6 0) 0 1) 1 0) 2 (mn 5 v1)) 3 v1) 4 v2) 5 (mn 3 v1)) (by simp)
  have e : p + 1 + 1 + 1 + 1 = p + 4 := by omega
  rw [e] at h3 r3
  exact ⟨(v3, v1), E.congr (fun k => spec_someRate.eq (k 0) (s, p)) (E.bind h0 (E.bind h1 (E.bind h2 (E.bind h3 (E.now _))))), r3.mono (by omega)⟩
theorem someEvent_l13 (x5 x6 a0 a1 a2 a3 a5 a6 b0 b1 b2 b3 b5 b6 : Int) (s : List Int) (hx : x5 ≤ 1000000) : ∀ (d : Nat) (x8 p b : Int) (l : List Int), 0 ≤ x8 → x5 - x8 ≤ d → RdOk (s, p) b → b + d ≤ 900000000 → l.length ≤ x8.toNat → (∀ x ∈ l, 0 ≤ x ∧ x < x5) →
    ∃ v p', E (fun k => spec_someEvent.l13 (k 0) (k 1) x5 x6 x8 s p a0 a1 a2 a3 a5 a6 b0 b1 b2 b3 b5 b6 l) ((b0, b1, b2, b3, v, b5, b6), s, p') ∧ RdOk (s, p') (b + d) ∧ v.length ≤ x8.toNat + d
  | 0, x8, p, b, l, h0, hd, hr, hb, hl, hm => by
    refine ⟨l, p, ?_, hr.mono (by omega), by omega⟩
    refine E.step 1 (fun v w h1 h2 => by rewrite [h1, h2 0 (by decide)]; exact spec_someEvent.l13_succ ..) ?_
    exact E.neg (by omega) (E.now _)
  | d + 1, x8, p, b, l, h0, hd, hr, hb, hl, hm => by
    by_cases hlt : x8 < x5
    · have ew : wrap64 (x8 + 1) = x8 + 1 := wrap_id (by omega) (by omega)
      by_cases he : x8 = x6
      · obtain ⟨v, p', h, r, g⟩ := someEvent_l13 x5 x6 a0 a1 a2 a3 a5 a6 b0 b1 b2 b3 b5 b6 s hx d (x8 + 1) p b l (by omega) (by omega) hr (by omega) (by omega) hm
        refine ⟨v, p', ?_, r.mono (by omega), by omega⟩
        refine E.step 1 (fun v w h1 h2 => by rewrite [h1, h2 0 (by decide)]; exact spec_someEvent.l13_succ ..) ?_
        refine E.pos hlt (E.pos he ?_)
        rw [ew]; exact h
      · obtain ⟨y, hy, _, _, r1⟩ := pick_D hr (by omega) 2
        by_cases hz : y = 0
        · obtain ⟨v, p', h, r, g⟩ := someEvent_l13 x5 x6 a0 a1 a2 a3 a5 a6 b0 b1 b2 b3 b5 b6 s hx d (x8 + 1) (p + 1) (b + 1) (l ++ [x8]) (by omega) (by omega) r1 (by omega) (by simp; omega) (fun x hx' => by
            rcases List.mem_append.1 hx' with h | h
            · exact hm x h
            · simp at h; omega)
          refine ⟨v, p', ?_, r.mono (by omega), by omega⟩
          refine E.step 1 (fun v w h1 h2 => by rewrite [h1, h2 0 (by decide)]; exact spec_someEvent.l13_succ ..) ?_
          refine E.pos hlt (E.neg he (E.bind hy (E.pos hz (E.pos ?_ ?_))))
          · simp [maxN]; omega
          · rw [ew]; exact h
        · obtain ⟨v, p', h, r, g⟩ := someEvent_l13 x5 x6 a0 a1 a2 a3 a5 a6 b0 b1 b2 b3 b5 b6 s hx d (x8 + 1) (p + 1) (b + 1) l (by omega) (by omega) r1 (by omega) (by omega) hm
          refine ⟨v, p', ?_, r.mono (by omega), by omega⟩
          refine E.step 1 (fun v w h1 h2 => by rewrite [h1, h2 0 (by decide)]; exact spec_someEvent.l13_succ ..) ?_
          refine E.pos hlt (E.neg he (E.bind hy (E.neg hz ?_)))
          rw [ew]; exact h
    · refine ⟨l, p, ?_, hr.mono (by omega), by omega⟩
      refine E.step 1 (fun v w h1 h2 => by rewrite [h1, h2 0 (by decide)]; exact spec_someEvent.l13_succ ..) ?_
      exact E.neg hlt (E.now _)
theorem someEvent_j29 (x6 a0 a1 a2 a3 a5 a6 : Int) {s : List Int} {p b : Int} (hr : RdOk (s, p) b) (hb : b ≤ 900000000) :
    ∃ e p', E (fun k => spec_someEvent.j29 (k 0) x6 s p a0 a1 a2 a3 a5 a6) (e, s, p') ∧ RdOk (s, p') (b + 10) ∧ e.2.2.2.2.1 = [] := by
  obtain ⟨v0, h0, _, _, r0⟩ := pick_D hr (by omega) 250
  obtain ⟨v1, h1, _, r1⟩ := one_D r0 (by omega) (List.set (List.set (List.set (List.set (List.replicate 4 0) 0 100) 1 250) 2 (wrap64 (1 + v0))) 3 1000) (by simp)
  exact ⟨_, _, E.congr (fun k => spec_someEvent.j29_eq (k 0) ..) (E.bind h0 (E.bind h1 (E.now _))), r1.mono (by omega), rfl⟩
theorem someEvent_j20 (c : Cl) (x6 x17 : Int) (x67 : Bool) (a0 a1 a2 a3 a5 a6 : Int) {s : List Int} {p b : Int} (hr : RdOk (s, p) b) (hb : b ≤ 900000000) :
    ∃ e p', E (fun k => spec_someEvent.j20 (k 0) [c] x6 x17 x67 s p a0 a1 a2 a3 a5 a6) (e, s, p') ∧ RdOk (s, p') (b + 10) ∧ e.2.2.2.2.1 = [] := by
  obtain ⟨ej, pj, hj, rj, gj⟩ := someEvent_j29 x6 a0 a1 a2 a3 a5 a6 hr hb
  by_cases h67 : x67 = true
  · by_cases hl : ((c.2.1.length : Nat) : Int) > 0
    · obtain ⟨v5, h5, g5, g5', r5⟩ := pick_D hr (by omega) ((c.2.1.length : Nat) : Int)
      have g6 := g5' (by omega)
      obtain ⟨v6, h6, _, _, r6⟩ := pick_D r5 (by omega) (c.2.1.getD v5.toNat (0, 0, [])).2.1
      obtain ⟨v7, h7, _, r7⟩ := one_D r6 (by omega) (List.set (List.set (List.replicate 2 0) 0 (c.2.1.getD v5.toNat (0, 0, [])).2.1) 1 (wrap64 (1 + v6))) (by simp)
      obtain ⟨v8, h8, _, _, r8⟩ := pick_D r7 (by omega) 30
      obtain ⟨v9, h9, _, r9⟩ := one_D r8 (by omega) (List.set (List.set (List.set (List.replicate 3 0) 0 0) 1 5) 2 v8) (by simp)
      exact ⟨_, _, E.congr (fun k => spec_someEvent.j20_eq (k 0) ..) (E.pos h67 (E.pos hl (E.bind h5 (E.pos g5 (E.pos g6 (E.pos g5 (E.pos g6 (E.bind h6 (E.bind h7 (E.bind h8 (E.bind h9 (E.now _)))))))))))), r9.mono (by omega), rfl⟩
    · exact ⟨_, _, E.congr (fun k => spec_someEvent.j20_eq (k 0) ..) (E.pos h67 (E.neg hl hj)), rj, gj⟩
  · by_cases h7 : x17 = 7
    · obtain ⟨v, h, r⟩ := someRate_D hr hb
      exact ⟨_, _, E.congr (fun k => spec_someEvent.j20_eq (k 0) ..) (E.neg h67 (E.pos h7 (E.bind h (E.now _)))), r.mono (by omega), rfl⟩
    · by_cases h8 : x17 = 8
      · obtain ⟨v, h, _, _, r⟩ := pick_D hr (by omega) 2
        by_cases hv : v = 0
        · exact ⟨_, _, E.congr (fun k => spec_someEvent.j20_eq (k 0) ..) (E.neg h67 (E.neg h7 (E.pos h8 (E.bind h (E.pos hv (E.now _)))))), r.mono (by omega), rfl⟩
        · exact ⟨_, _, E.congr (fun k => spec_someEvent.j20_eq (k 0) ..) (E.neg h67 (E.neg h7 (E.pos h8 (E.bind h (E.neg hv (E.now _)))))), r.mono (by omega), rfl⟩
      · exact ⟨_, _, E.congr (fun k => spec_someEvent.j20_eq (k 0) ..) (E.neg h67 (E.neg h7 (E.neg h8 hj))), rj, gj⟩
theorem someEvent_j11 (c : Cl) (hc : c.1.length ≤ 1000000) (x6 x17 : Int) (x34 : Bool) (a0 a1 a2 a3 a5 a6 : Int) {s : List Int} {p b : Int} (hr : RdOk (s, p) b) (hb : b ≤ 800000000) :
    ∃ e p', E (fun k => spec_someEvent.j11 (k 0) [c] ((c.1.length : Nat) : Int) x6 x17 x34 s p a0 a1 a2 a3 a5 a6) (e, s, p') ∧ RdOk (s, p') (b + c.1.length + 10) ∧ e.2.2.2.2.1.length ≤ 1000000 := by
  by_cases h34 : x34 = true
  · obtain ⟨v, h, _, _, r⟩ := pick_D hr (by omega) (mn (mx c.2.2.1 1) 150)
    obtain ⟨l, p', hl, rl, gl⟩ := someEvent_l13 ((c.1.length : Nat) : Int) x6 a0 a1 a2 a3 a5 a6 3 x6 (wrap64 (1 + v)) 0 0 0 s (by omega) c.1.length 0 (p + 1) (b + 1) [] (by omega) (by omega) r (by omega) (by simp) (by simp)
    exact ⟨_, _, E.congr (fun k => spec_someEvent.j11_eq (k 0) ..) (E.pos h34 (E.bind h (E.ren (fun _ => 0) hl))), rl.mono (by omega), by simp only; omega⟩
  · by_cases h5 : x17 = 5
    · obtain ⟨e, p', h, r, g⟩ := someEvent_j20 c x6 x17 (decide (x17 = 5)) a0 a1 a2 a3 a5 a6 hr (by omega)
      exact ⟨_, _, E.congr (fun k => spec_someEvent.j11_eq (k 0) ..) (E.neg h34 (E.pos h5 h)), r.mono (by omega), by rw [g]; simp⟩
    · obtain ⟨e, p', h, r, g⟩ := someEvent_j20 c x6 x17 (decide (x17 = 6)) a0 a1 a2 a3 a5 a6 hr (by omega)
      exact ⟨_, _, E.congr (fun k => spec_someEvent.j11_eq (k 0) ..) (E.neg h34 (E.neg h5 h)), r.mono (by omega), by rw [g]; simp⟩
theorem someEvent_D (c : Cl) (hc0 : 0 < c.1.length) (hc : c.1.length ≤ 1000000) {s : List Int} {p b : Int} (hr : RdOk (s, p) b) (hb : b ≤ 700000000) :
    ∃ e p', E (fun k => spec_someEvent (k 0) ((s, p), c)) (e, s, p') ∧ RdOk (s, p') (b + c.1.length + 14) ∧ e.2.2.2.2.1.length ≤ 1000000 := by
  obtain ⟨v0, h0, g0, g0', r0⟩ := pick_D hr (by omega) ((c.1.length : Nat) : Int)
  obtain ⟨v1, h1, _, _, r1⟩ := pick_D r0 (by omega) 12
  have e0 : ∀ k : Nat → Nat, spec_someEvent (k 0) ((s, p), c) = _ := fun k => spec_someEvent.eq (k 0) (s, p) c
  by_cases k0 : v1 = 0
  · exact ⟨_, _, E.congr e0 (E.bind h0 (E.bind h1 (E.pos k0 (E.now _)))), r1.mono (by omega), by simp⟩
  by_cases k1 : v1 = 1
  · obtain ⟨v2, h2, _, _, r2⟩ := pick_D r1 (by omega) (mx (c.1.getD v0.toNat 0) 1)
    exact ⟨_, _, E.congr e0 (E.bind h0 (E.bind h1 (E.neg k0 (E.pos k1 (E.pos g0 (E.pos (g0' (by omega)) (E.bind h2 (E.now _)))))))), r2.mono (by omega), by simp⟩
  by_cases k2 : v1 = 2
  · obtain ⟨e, p', h, r, g⟩ := someEvent_j11 c hc v0 v1 (decide (v1 = 2)) 0 0 0 0 0 0 r1 (by omega)
    exact ⟨_, _, E.congr e0 (E.bind h0 (E.bind h1 (E.neg k0 (E.neg k1 (E.pos k2 h))))), r.mono (by omega), g⟩
  by_cases k3 : v1 = 3
  · obtain ⟨e, p', h, r, g⟩ := someEvent_j11 c hc v0 v1 (decide (v1 = 3)) 0 0 0 0 0 0 r1 (by omega)
    exact ⟨_, _, E.congr e0 (E.bind h0 (E.bind h1 (E.neg k0 (E.neg k1 (E.neg k2 (E.pos k3 h)))))), r.mono (by omega), g⟩
  · obtain ⟨e, p', h, r, g⟩ := someEvent_j11 c hc v0 v1 (decide (v1 = 4)) 0 0 0 0 0 0 r1 (by omega)
    exact ⟨_, _, E.congr e0 (E.bind h0 (E.bind h1 (E.neg k0 (E.neg k1 (E.neg k2 (E.neg k3 h)))))), r.mono (by omega), g⟩
end Go.Proofs.YthooakfbpoopaaaG
end
section
set_option linter.unusedVariables false
namespace Go.Proofs.YthooakfbpoopaaaG
open Go Go.Refl Go.Refl.Math Go.RowKit
def EvsOk (l : List Ev7) : Prop := ∀ e ∈ l, e.2.2.2.2.1.length ≤ 1000000
def runC (c : Clb) : List Ev7 → Option Clb
  | [] => some c
  | e :: l => (stepC c e).bind fun d => runC d l
theorem runC_snoc (e : Ev7) : ∀ (l : List Ev7) (c : Clb), runC c (l ++ [e]) = (runC c l).bind fun d => stepC d e
  | [], c => by simp [runC]
  | x :: l, c => by
    simp only [List.cons_append, runC]
    cases stepC c x with
    | none => rfl
    | some d => exact runC_snoc e l d
theorem runC_valid : ∀ (l : List Ev7) {c d : Clb}, vC c = true → runC c l = some d → vC d = true
  | [], c, d, hc, h => by cases h; exact hc
  | e :: l, c, d, hc, h => by
    simp only [runC, Option.bind_eq_some_iff] at h
    obtain ⟨x, hx, h⟩ := h
    exact runC_valid l (stepC_valid hx) h
theorem someBook_l3 (c0 : Clb) (s : List Int) (z1 z2 z3 : Int) : ∀ (d : Nat) (c : Clb) (p b : Int) (out : List Ev7), vC c = true → runC c0 out = some c → RdOk (s, p) b → b + 26 * d ≤ 700000000 → d ≤ 100 → out.length + d ≤ 200 → EvsOk out →
    ∃ l c' p', E (fun k => spec_someBook.l3 (k 0) (k 1) (d : Int) s p c.1 c.2.1 c.2.2.1 c.2.2.2.1 c.2.2.2.2 z1 z2 z3 out) (l, c', s, p') ∧ vC c' = true ∧ runC c0 l = some c' ∧ RdOk (s, p') (b + 26 * d) ∧ EvsOk l ∧ l.length ≤ out.length + d
  | 0, c, p, b, out, hc, hr0, hr, hb, hd, hl, he => by
    refine ⟨out, c, p, ?_, hc, hr0, hr.mono (by omega), he, by omega⟩
    refine E.step 1 (fun v w h1 h2 => by rewrite [h1, h2 0 (by decide)]; exact spec_someBook.l3_succ ..) ?_
    exact E.neg (by omega) (E.now _)
  | d + 1, c, p, b, out, hc, hr0, hr, hb, hd, hl, he => by
    obtain ⟨h1, h2, h3⟩ := vC_parts hc
    have a1 := vS_iff.1 h1
    obtain ⟨e, p1, e1, r1, g1⟩ := someEvent_D c (by omega) (by omega) hr (by omega)
    have e2 := specApply_E c hc e (by omega)
    have ew : wrap64 (((d + 1 : Nat) : Int) - 1) = (d : Int) := by rw [wrap_id (by omega) (by omega)]; omega
    cases hs : stepC c e with
    | none =>
      obtain ⟨l, c', p', h, v, hr0', r, g, hll⟩ := someBook_l3 c0 s z1 z2 z3 d c p1 (b + 26) out hc hr0 (r1.mono (by omega)) (by omega) (by omega) (by omega) he
      refine ⟨l, c', p', ?_, v, hr0', r.mono (by omega), g, by omega⟩
      rw [hs] at e2
      refine E.step 1 (fun v w h1 h2 => by rewrite [h1, h2 0 (by decide)]; exact spec_someBook.l3_succ ..) ?_
      refine E.pos (by omega) (E.bind e1 (E.bind e2 (E.neg (by simp [tellC]) ?_)))
      rw [ew]; exact h
    | some c1 =>
      have hv := stepC_valid hs
      have he' : EvsOk (out ++ [e]) := fun x hx => by
        rcases List.mem_append.1 hx with h | h
        · exact he x h
        · simp at h; subst h; exact g1
      obtain ⟨l, c', p', h, v, hr0', r, g, hll⟩ := someBook_l3 c0 s z1 z2 z3 d c1 p1 (b + 26) (out ++ [e]) hv (by rw [runC_snoc, hr0]; exact hs) (r1.mono (by omega)) (by omega) (by omega) (by simp; omega) he'
      refine ⟨l, c', p', ?_, v, hr0', r.mono (by omega), g, by simp at hll; omega⟩
      rw [hs] at e2
      refine E.step 1 (fun v w h1 h2 => by rewrite [h1, h2 0 (by decide)]; exact spec_someBook.l3_succ ..) ?_
      refine E.pos (by omega) (E.bind e1 (E.bind e2 (E.pos rfl (E.pos (by simp [maxN]; omega) ?_))))
      rw [ew]; exact h
theorem someBook_D (c : Clb) (hc : vC c = true) {s : List Int} {p b : Int} (hr : RdOk (s, p) b) (hb : b ≤ 600000000) :
    ∃ l c' p', E (fun k => spec_someBook (k 0) ((s, p), c)) (l, c', s, p') ∧ vC c' = true ∧ runC c l = some c' ∧ RdOk (s, p') (b + 500) ∧ EvsOk l ∧ l.length ≤ 18 := by
  obtain ⟨v, h, hv, r⟩ := one_D hr (by omega) (List.set (List.set (List.set (List.set (List.set (List.set (List.replicate 6 0) 0 8) 1 12) 2 5) 3 18) 4 0) 5 2) (by simp)
  have hv2 : 0 ≤ v ∧ v ≤ 18 := by
    simp at hv
    omega
  obtain ⟨d, rfl⟩ : ∃ d : Nat, v = d := ⟨v.toNat, by omega⟩
  obtain ⟨l, c', p', h2, v2, hr0, r2, g, hll⟩ := someBook_l3 c s 0 0 0 d c (p + 1) (b + 1) [] hc rfl r (by omega) (by omega) (by simp; omega) (fun x hx => by cases hx)
  refine ⟨l, c', p', E.congr (fun k => spec_someBook.eq (k 0) ..) (E.bind h (E.ren (fun _ => 0) h2)), v2, hr0, r2.mono (by omega), g, by simp at hll; omega⟩
theorem newClub_valid {n : Nat} (h0 : 1 ≤ n) (h1 : n ≤ 12) : vC (List.replicate n 0, [], 0, 0, 0) = true := by
  unfold vC
  rw [Bool.and_eq_true, Bool.and_eq_true, decide_eq_true_iff]
  refine ⟨vS_iff.2 ⟨by simp; omega, fun x hx => ?_⟩, vLs_iff.2 ⟨by simp; omega, fun l hl => by cases hl⟩, ?_⟩
  · have := (List.mem_replicate.1 hx).2; omega
  · simp [lentS]
theorem firstClub_D {s : List Int} {p b : Int} (hr : RdOk (s, p) b) (hb : b ≤ 600000000) :
    ∃ c p', E (fun k => spec_firstClub (k 0) (s, p)) (c, s, p') ∧ vC c = true ∧ RdOk (s, p') (b + 1) := by
  obtain ⟨v, h, hv, r⟩ := one_D hr (by omega) (List.set (List.set (List.set (List.set (List.set (List.replicate 5 0) 0 3) 1 4) 2 2) 3 5) 4 1) (by simp)
  have hv2 : 1 ≤ v ∧ v ≤ 5 := by
    simp at hv
    omega
  obtain ⟨d, rfl⟩ : ∃ d : Nat, v = d := ⟨v.toNat, by omega⟩
  refine ⟨(List.replicate d 0, [], 0, 0, 0), p + 1, E.congr (fun k => spec_firstClub.eq (k 0) ..) (E.bind h (E.bind (E.congr (fun k => spec_NewClub.eq (k 0) ..) (E.bind (inRange_E ..) (E.neg (by simp; omega) (E.pos (by omega) (E.pos (by omega) (E.pos (by simp only [maxN]; omega) (E.now _))))))) (E.now _))), newClub_valid (by omega) (by omega), r⟩
theorem start_rd {x : List Int} (hx : ∀ b ∈ x, 0 ≤ b ∧ b < 256) : RdOk (x.take 2000, 0) 0 :=
  ⟨fun y hy => by have := hx y (List.mem_of_mem_take hy); omega, by simp; omega, Int.le_refl _, Int.le_refl _⟩
end Go.Proofs.YthooakfbpoopaaaG
end
section
set_option linter.unusedVariables false
namespace Go.Proofs.YthooakfbpoopaaaG
open Go Go.Refl Go.Refl.Math Go.RowKit
theorem takeFrom_E (n : Nat) (st : Nat → Int) (m : Nat) (a : Int) (hm : m < n) (hst : Bd st) (ha : 0 ≤ a ∧ a ≤ 100001) :
    E (fun k => impl_takeFrom (k 0) (tab n st, (m : Int), a)) (a - mn (st m) a, tab n (tk st m a)) := by
  have h := hst m
  have h2 := mn_le (st m) a
  have h3 := mn_nn h.1 ha.1
  refine E.congr (fun k => impl_takeFrom.eq (k 0) ..) ?_
  simp only [Int.toNat_natCast, tab_length, tab_get _ hm]
  (repeat first | (with_reducible refine E.pos ?_ ?_; · omega) | (with_reducible refine E.neg ?_ ?_; · omega))
  rw [wrap_id (x := a - mn (st m) a) (by omega) (by omega), wrap_id (x := st m - mn (st m) a) (by omega) (by omega), tk_set]
  exact E.now _
theorem failOne_l5 (n : Nat) (hn : n ≤ 12) (gs : List Int) (s st : Nat → Int) (b a : Int) (hgl : gs.length ≤ 12) (hst : Bd st) (hs : ∀ i, 0 ≤ s i ∧ s i ≤ 100001) (hg : ∀ g ∈ gs, 0 ≤ g ∧ g ≤ (n : Int) - 1) : ∀ (d i : Nat), i + d = gs.length →
    E (fun k => impl_failOne.l5 (k 0) (k 1) (failN gs s (st, 0, []) i).2.1 (gs.length : Int) (i : Int) (tab n (failN gs s (st, 0, []) i).1) b a gs (failN gs s (st, 0, []) i).2.2 (tab gs.length s))
      ((failN gs s (st, 0, []) gs.length).2.1, (failN gs s (st, 0, []) gs.length).2.2, tab n (failN gs s (st, 0, []) gs.length).1)
  | 0, i, hi => by
    refine E.step 1 (fun v w h1 h2 => by rewrite [h1, h2 0 (by decide)]; exact impl_failOne.l5_succ ..) ?_
    exact E.neg (by omega) (E.now' (by rw [show i = gs.length by omega]))
  | d + 1, i, hi => by
    have ih := failOne_l5 n hn gs s st b a hgl hst hs hg d (i + 1) (by omega)
    have inv := failN_inv (n := n) hst hs hg i (by omega)
    have hsi := hs i
    have hgi : gs.getD i 0 ∈ gs := getD_mem 0 (by omega)
    have hgb := hg _ hgi
    obtain ⟨g, hge⟩ : ∃ g : Nat, gs.getD i 0 = g := ⟨(gs.getD i 0).toNat, by omega⟩
    have hm := mn_le ((failN gs s (st, 0, []) i).1 g) (s i)
    have hil : i < gs.length := by omega
    have hgn : g < n := by omega
    have hb := inv.bd g
    have h3 := mn_nn hb.1 hsi.1
    have hls := inv.ls
    refine E.step 1 (fun v w h1 h2 => by rewrite [h1, h2 0 (by decide)]; exact impl_failOne.l5_succ ..) ?_
    simp only [Int.toNat_natCast, hge, tab_length, tab_get _ hil, set_one]
    (repeat first | (with_reducible refine E.pos ?_ ?_; · omega) | (with_reducible refine E.neg ?_ ?_; · omega))
    rw [wrap_nat (by omega)]
    refine E.bind (takeFrom_E n _ g (s i) (by omega) inv.bd hsi) ?_
    simp only [failN, fstep, hge, Int.toNat_natCast] at ih
    refine E.ite (fun h => ?_) (fun h => ?_)
    · simp only at h
      (repeat first | (with_reducible refine E.pos ?_ ?_; · omega) | (with_reducible refine E.neg ?_ ?_; · omega))
      refine E.pos (by have := inv.ln; simp [maxN]; omega) ?_
      rw [if_pos (by omega)] at ih
      rw [wrap_id (by simp only; omega) (by simp only; omega)]
      exact ih
    · simp only at h
      rw [if_neg (by omega), show s i - mn ((failN gs s (st, 0, []) i).1 g) (s i) = 0 by omega, Int.add_zero] at ih
      exact ih
theorem failOne_E (n : Nat) (hn : n ≤ 12) (st : Nat → Int) (l : Ln) (hst : Bd st) (hv : vL l n = true) :
    E (fun k => impl_failOne (k 0) (tab n st, l)) ((failM st l).2.1, (failM st l).2.2, tab n (failM st l).1) := by
  have hw := vL_iff.1 hv
  obtain ⟨b, hb⟩ : ∃ b : Nat, l.1 = b := ⟨l.1.toNat, by omega⟩
  have hl := lack_bd hst hv
  have hbt : l.1.toNat = b := by omega
  have e : lack st l = l.2.1 - mn (st b) l.2.1 := by unfold lack; rw [hbt]
  refine E.congr (fun k => impl_failOne.eq (k 0) ..) ?_
  have ht := takeFrom_E n st b l.2.1 (by omega) hst (by omega)
  rw [← hb] at ht
  refine E.bind ht ?_
  rw [← e]
  refine E.bind (splitEven_E (lack st l) l.2.2.length hl.1 (by omega) (by omega) (by omega)) ?_
  rw [tab_length]
  have := failOne_l5 n hn l.2.2 (prt (lack st l) l.2.2.length) (tk st b l.2.1) l.1 l.2.1 (by omega) (tk_bd hst _ (by omega)) (spl_bd2 hl.1 hl.2 (by omega)) hw.2.1.2.1 l.2.2.length 0 (by omega)
  unfold failM
  rw [hbt]
  exact E.ren (fun _ => 0) this
theorem implCascade_l16 (n : Nat) (ls : List Ln) (st : Nat → Int) (loss : Int) (F : List Int) (next i : Int) (r : List Int × Int × List Int) (un : List Int) (hF : F.length ≤ 100) (hul : un.length ≤ 12)
    (nx : E (fun k => impl_Cascade.l10 (k 0) (k 1) (k 2) ls loss next ls (ls.length : Int) (i + 1) (tab n st) (addNew F un)) r) (hi : 0 ≤ i ∧ i ≤ 1000) : ∀ (post pre : List Int), pre ++ post = un → (addNew F pre).length ≤ 100 + pre.length →
    E (fun k => impl_Cascade.l16 (k 0) (k 1) (k 2) (k 3) ls loss next ls (ls.length : Int) i (un.length : Int) (pre.length : Int) (tab n st) (addNew F pre) un) r
  | [], pre, e, _ => by
    have e2 : pre = un := by simpa using e
    refine E.step 3 (fun v w h1 h2 => by rewrite [h1, h2 0 (by decide), h2 1 (by decide), h2 2 (by decide)]; exact impl_Cascade.l16_succ ..) ?_
    refine E.neg (by rw [e2]; omega) ?_
    rw [wrap_id (x := i + 1) (by omega) (by omega), e2]
    exact nx
  | g :: post, pre, e, hp => by
    have ih := implCascade_l16 n ls st loss F next i r un hF hul nx hi post (pre ++ [g]) (by simpa using e) (by rw [addNew_snoc]; split <;> simp <;> omega)
    rw [show (pre ++ [g]).length = pre.length + 1 from by simp, addNew_snoc] at ih
    have hpl : pre.length < un.length := by rw [← e]; simp
    have hg : un.getD pre.length 0 = g := by rw [← e]; exact getD_mid ..
    refine E.step 3 (fun v w h1 h2 => by rewrite [h1, h2 0 (by decide), h2 1 (by decide), h2 2 (by decide)]; exact impl_Cascade.l16_succ ..) ?_
    simp only [Int.toNat_natCast, hg, set_one]
    (repeat first | (with_reducible refine E.pos ?_ ?_; · omega) | (with_reducible refine E.neg ?_ ?_; · omega))
    rw [wrap_nat (by omega)]
    refine E.bind (contains_E _ _ (by omega)) (E.ite (fun h => E.pos (by simp [maxN]; omega) ?_) (fun h => ?_))
    · rw [if_neg (by simpa using h)] at ih; exact ih
    · rw [if_pos (by simpa using h)] at ih; exact ih
theorem implCascade_l10 (n : Nat) (hn : n ≤ 12) (ls : List Ln) (hll : ls.length ≤ 16) (hv : ∀ l ∈ ls, vL l n = true) (first : Int) (st0 : Nat → Int) (next : Nat) (f : Int) (r : List Int × Int × List Int) : ∀ (post pre : List Ln) (A : Int) (S : CS), pre ++ post = ls → CInv n first st0 A S → A + 100000 * post.length ≤ 40000000 → next < S.2.2.length → S.2.2.getD next 0 = f →
    E (fun k => impl_Cascade.l7 (k 0) (k 1) ls (proc f S post).2.1 ((next + 1 : Nat) : Int) (tab n (proc f S post).1) (proc f S post).2.2) r →
    E (fun k => impl_Cascade.l10 (k 0) (k 1) (k 2) ls S.2.1 (next : Int) ls (ls.length : Int) (pre.length : Int) (tab n S.1) S.2.2) r
  | [], pre, A, S, e, h, _, hnx, hf, nx => by
    have := h.len
    refine E.step 2 (fun v w h1 h2 => by rewrite [h1, h2 0 (by decide), h2 1 (by decide)]; exact impl_Cascade.l10_succ ..) ?_
    refine E.neg (by rw [← e]; simp) ?_
    rw [wrap_nat (by omega)]
    exact nx
  | l :: post, pre, A, S, e, h, hA, hnx, hf, nx => by
    have hpl : pre.length < ls.length := by rw [← e]; simp
    have hvl := hv l (by rw [← e]; simp)
    have hw := vL_iff.1 hvl
    have hlen := h.len
    obtain ⟨h2, t, ht⟩ := cstep_pre f S l hn h hvl
    simp only [List.length_cons] at hA
    have ih := implCascade_l10 n hn ls hll hv first st0 next f r post (pre ++ [l]) _ (cstep f S l) (by simpa using e) h2 (by split <;> omega) (by rw [ht]; simp; omega) (by rw [ht, getD_append hnx]; exact hf) nx
    rw [show (pre ++ [l]).length = pre.length + 1 from by simp] at ih
    have hld : ls.getD pre.length (0, 0, []) = l := by rw [← e]; exact getD_mid ..
    refine E.step 2 (fun v w h1 h2 => by rewrite [h1, h2 0 (by decide), h2 1 (by decide)]; exact impl_Cascade.l10_succ ..) ?_
    simp only [Int.toNat_natCast, hld, hf]
    (repeat first | (with_reducible refine E.pos ?_ ?_; · omega) | (with_reducible refine E.neg ?_ ?_; · omega))
    rw [wrap_nat (by omega)]
    refine E.ite (fun hb => ?_) (fun hb => ?_)
    · have m := failM_inv hn h.bd hvl
      have hmsm := m.sm
      have hle := sumN_le m.le n
      have hls := m.ls
      have hsl := h.ls
      refine E.bind (failOne_E n hn S.1 l h.bd hvl) ?_
      simp only
      rw [wrap_id (x := S.2.1 + (failM S.1 l).2.1) (by omega) (by omega)]
      unfold cstep at ih
      rw [if_pos hb] at ih
      exact E.ren (fun i => if i = 3 then 0 else i) (implCascade_l16 n ls _ _ S.2.2 next _ r (failM S.1 l).2.2 (by omega) m.ln ih (by omega) (failM S.1 l).2.2 [] rfl (by simp [addNew]; omega))
    · unfold cstep at ih
      rw [if_neg hb] at ih
      exact ih
theorem implCascade_l7 (n : Nat) (hn : n ≤ 12) (ls : List Ln) (hll : ls.length ≤ 16) (hv : ∀ l ∈ ls, vL l n = true) (first : Int) (st0 : Nat → Int) : ∀ (d i : Nat) (S : CS), i + d = n → i ≤ S.2.2.length → CInv n first st0 (amtS (S.2.2.take i) ls) S →
    E (fun k => impl_Cascade.l7 (k 0) (k 1) ls S.2.1 (i : Int) (tab n S.1) S.2.2) (tab n (run ls d i S).1, (run ls d i S).2.1, (run ls d i S).2.2)
  | 0, i, S, hi, hle, h => by
    have := h.len
    refine E.step 1 (fun v w h1 h2 => by rewrite [h1, h2 0 (by decide)]; exact impl_Cascade.l7_succ ..) ?_
    exact E.neg (by omega) (E.now _)
  | d + 1, i, S, hi, hle, h => by
    have hlen := h.len
    unfold run
    refine E.step 1 (fun v w h1 h2 => by rewrite [h1, h2 0 (by decide)]; exact impl_Cascade.l7_succ ..) ?_
    by_cases hlt : i < S.2.2.length
    · rw [if_pos hlt]
      obtain ⟨h2, t, e⟩ := proc_inv (S.2.2.getD i 0) hn ls _ _ h hv
      have hg : S.2.2.getD i 0 = S.2.2[i] := by simp [List.getD_eq_getElem?_getD, hlt]
      have hnm : S.2.2.getD i 0 ∉ S.2.2.take i := by
        intro hm
        have hp := h.nd
        rw [← List.take_append_drop i S.2.2, List.nodup_append] at hp
        refine hp.2.2 _ hm (S.2.2.getD i 0) ?_ rfl
        rw [hg, List.drop_eq_getElem_cons hlt]
        exact List.mem_cons_self ..
      have hb := amtS_bd (F := S.2.2.take i) hv
      have ih := implCascade_l7 n hn ls hll hv first st0 d (i + 1) (proc (S.2.2.getD i 0) S ls) (by omega) (by rw [e]; simp; omega) (by
        rw [e, List.take_append_of_le_length (by omega), List.take_succ_eq_append_getElem hlt, ← hg, amtS_snoc hnm]
        exact h2)
      refine E.pos (by omega) ?_
      exact E.ren (fun i => if i = 2 then 0 else i) (implCascade_l10 n hn ls hll hv first st0 i (S.2.2.getD i 0) _ ls [] _ S rfl h (by omega) hlt rfl ih)
    · rw [if_neg hlt]
      exact E.neg (by omega) (E.now _)
theorem implCascade_E (st : List Int) (ls : List Ln) (a : Int) : E (fun k => impl_Cascade (k 0) (st, ls, a)) (casM st ls a) := by
  refine E.congr (fun k => impl_Cascade.eq (k 0) ..) (E.bind (implValidStakes_E st) (E.ite (fun h => E.now' ?_) fun h => E.bind (implValidLoans_E ls _) (E.ite (fun h2 => E.now' ?_) fun h2 => E.ite (fun h3 => E.now' ?_) fun h3 => E.ite (fun h4 => E.now' ?_) fun h4 => ?_)))
  · simp only [Bool.not_eq_true'] at h
    unfold casM
    rw [h, Bool.false_and, Bool.false_and]; rfl
  · simp only [Bool.not_eq_true'] at h2
    unfold casM
    rw [h2, Bool.and_false, Bool.false_and]; rfl
  · unfold casM
    rw [decide_eq_false (by omega), Bool.and_false]; rfl
  · unfold casM
    rw [decide_eq_false (by omega), Bool.and_false]; rfl
  · simp only [Bool.not_eq_true', Bool.not_eq_false] at h h2
    have hs2 := vS_iff.1 h
    have hw := vLs_iff.1 h2
    rw [casM_pos h h2 (by omega)]
    refine E.bind (clone_E st (by omega)) ?_
    have := implCascade_l7 st.length (by omega) ls hw.1.1 hw.2 a (stF st) st.length 0 (stF st, 0, [a]) (by omega) (by simp) (start_inv ls (by omega) (stF_bd h))
    simp only at this
    rw [show tab st.length (stF st) = st from (tab_of st).symm] at this
    exact E.ren (fun _ => 0) this
end Go.Proofs.YthooakfbpoopaaaG
end
section
set_option linter.unusedVariables false
namespace Go.Proofs.YthooakfbpoopaaaG
open Go Go.Refl Go.Refl.Math Go.RowKit
theorem isFailed_E (l : Ln) (F : List Int) (hF : F.length ≤ 1000) : E (fun k => impl_Club_fail_1 (k 0) (l, F)) (decide (l.1 ∈ F)) :=
  E.congr (fun k => impl_Club_fail_1.eq (k 0) ..) (E.bind (contains_E F l.1 (by omega)) (E.now _))
theorem indexFunc_l2 (F : List Int) (hF : F.length ≤ 1000) : ∀ (post pre : List Ln), (pre ++ post).length ≤ 1000000 → (∀ l ∈ pre, l.1 ∉ F) →
    ∃ r, E (fun k => slices_IndexFunc_Loan.l2 (k 0) (k 1) (pre ++ post) [F] ((pre ++ post).length : Int) (pre.length : Int)) r ∧
      ((r = -1 ∧ ∀ l ∈ pre ++ post, l.1 ∉ F) ∨ ∃ p x q, pre ++ post = p ++ x :: q ∧ r = (p.length : Int) ∧ x.1 ∈ F ∧ ∀ l ∈ p, l.1 ∉ F)
  | [], pre, hl, hp => by
    refine ⟨-1, ?_, .inl ⟨rfl, by simpa using hp⟩⟩
    refine E.step 1 (fun v w h1 h2 => by rewrite [h1, h2 0 (by decide)]; exact slices_IndexFunc_Loan.l2_succ ..) ?_
    exact E.neg (by simp) (E.now _)
  | x :: post, pre, hl, hp => by
    have hlen : (pre ++ x :: post).length = pre.length + (post.length + 1) := by simp
    have hx := isFailed_E x F hF
    by_cases h : x.1 ∈ F
    · refine ⟨pre.length, ?_, .inr ⟨pre, x, post, rfl, rfl, h, hp⟩⟩
      refine E.step 1 (fun v w h1 h2 => by rewrite [h1, h2 0 (by decide)]; exact slices_IndexFunc_Loan.l2_succ ..) ?_
      simp only [Int.toNat_natCast, getD_mid]
      (repeat first | (with_reducible refine E.pos ?_ ?_; · omega) | (with_reducible refine E.neg ?_ ?_; · omega))
      exact E.bind hx (E.pos (by simpa using h) (E.now _))
    · obtain ⟨r, hr, hc⟩ := indexFunc_l2 F hF post (pre ++ [x]) (by simpa using hl) (fun l hm => by
        rcases List.mem_append.1 hm with h1 | h1
        · exact hp l h1
        · simp at h1; subst h1; exact h)
      rw [show (pre ++ [x]).length = pre.length + 1 from by simp, List.append_assoc] at hr
      simp only [List.append_assoc, List.cons_append, List.nil_append] at hc hr
      refine ⟨r, ?_, hc⟩
      refine E.step 1 (fun v w h1 h2 => by rewrite [h1, h2 0 (by decide)]; exact slices_IndexFunc_Loan.l2_succ ..) ?_
      simp only [Int.toNat_natCast, getD_mid]
      (repeat first | (with_reducible refine E.pos ?_ ?_; · omega) | (with_reducible refine E.neg ?_ ?_; · omega))
      refine E.bind hx (E.neg (by simpa using h) ?_)
      rw [wrap_nat (by omega)]
      exact hr
theorem deleteFunc_l5 (F : List Int) (hF : F.length ≤ 1000) : ∀ (post kept : List Ln) (y : Ln) (junk : List Ln), (kept ++ y :: junk ++ post).length ≤ 1000000 →
    E (fun k => slices_DeleteFunc_Loan.l5 (k 0) (k 1) [F] (kept.length : Int) ((kept ++ y :: junk).length : Int) (kept ++ y :: junk ++ post)) (kept ++ leftL F post)
  | [], kept, y, junk, hl => by
    have hlen : (kept ++ y :: junk ++ []).length = kept.length + (junk.length + 1) := by simp
    refine E.step 1 (fun v w h1 h2 => by rewrite [h1, h2 0 (by decide)]; exact slices_DeleteFunc_Loan.l5_succ ..) ?_
    refine E.neg (by simp) ?_
    simp only [Int.toNat_natCast, Nat.sub_zero]
    have e1 : List.take kept.length (kept ++ y :: junk ++ []) = kept := by simp
    rw [e1]
    refine E.pos (by omega) (E.pos (by omega) (E.pos (by omega) (E.pos (by simp; omega) (E.now' ?_))))
    rw [List.append_assoc, List.take_left]
    simp [leftL]
  | x :: post, kept, y, junk, hl => by
    have hlen : (kept ++ y :: junk ++ x :: post).length = kept.length + (junk.length + 1) + (post.length + 1) := by simp; omega
    have hlen2 : (kept ++ y :: junk).length = kept.length + (junk.length + 1) := by simp
    have hx := isFailed_E x F hF
    have hg : (kept ++ y :: junk ++ x :: post).getD (kept ++ y :: junk).length (0, 0, []) = x := getD_mid ..
    refine E.step 1 (fun v w h1 h2 => by rewrite [h1, h2 0 (by decide)]; exact slices_DeleteFunc_Loan.l5_succ ..) ?_
    simp only [Int.toNat_natCast, hg]
    refine E.pos (by omega) (E.pos (by omega) (E.pos (by omega) (E.bind hx (E.ite (fun h => ?_) (fun h => ?_)))))
    · have hn : x.1 ∉ F := by simpa using h
      refine E.pos (by omega) (E.pos (by omega) ?_)
      have hset : (kept ++ y :: junk ++ x :: post).set kept.length x = (kept ++ x :: junk) ++ x :: post := by simp
      rw [hset, wrap_nat (by omega), wrap_nat (by omega)]
      have el : leftL F (x :: post) = x :: leftL F post := by simp [leftL, hn]
      rw [el]
      cases junk with
      | nil =>
        have ih := deleteFunc_l5 F hF post (kept ++ [x]) x [] (by simp at hl ⊢; omega)
        simp only [List.append_assoc, List.cons_append, List.nil_append, List.length_append, List.length_cons, List.length_nil, Nat.zero_add] at ih ⊢
        exact ih
      | cons z junk =>
        have ih := deleteFunc_l5 F hF post (kept ++ [x]) z (junk ++ [x]) (by simp at hl ⊢; omega)
        simp only [List.append_assoc, List.cons_append, List.nil_append, List.length_append, List.length_cons, List.length_nil, Nat.zero_add] at ih ⊢
        first | exact ih | (rw [show kept.length + (1 + (junk.length + 1 + 1)) = kept.length + (junk.length + 1 + 1 + 1) by omega]; exact ih) | (rw [show kept.length + (junk.length + 1 + 1) + 1 = kept.length + (junk.length + 1 + 1 + 1) by omega]; exact ih)
    · have hn : x.1 ∈ F := by simpa using h
      have ih := deleteFunc_l5 F hF post kept y (junk ++ [x]) (by simp at hl ⊢; omega)
      rw [wrap_nat (by omega)]
      have el : leftL F (x :: post) = leftL F post := by simp [leftL, hn]
      rw [el]
      simp only [List.append_assoc, List.cons_append, List.nil_append, List.length_append, List.length_cons, List.length_nil, Nat.zero_add] at ih ⊢
      exact ih
theorem leftL_none {F : List Int} {ls : List Ln} (h : ∀ l ∈ ls, l.1 ∉ F) : leftL F ls = ls := by
  unfold leftL
  rw [List.filter_eq_self]
  intro l hl
  simpa using h l hl
theorem deleteFunc_E (F : List Int) (hF : F.length ≤ 1000) (ls : List Ln) (hl : ls.length ≤ 1000000) : E (fun k => slices_DeleteFunc_Loan (k 0) (ls, F)) (leftL F ls) := by
  obtain ⟨r, hr, hc⟩ := indexFunc_l2 F hF ls [] (by simpa using hl) (fun l h => by cases h)
  have hi : E (fun k => slices_IndexFunc_Loan (k 0) (ls, F)) r := E.congr (fun k => slices_IndexFunc_Loan.eq (k 0) ..) (E.ren (fun _ => 0) hr)
  refine E.congr (fun k => slices_DeleteFunc_Loan.eq (k 0) ..) (E.bind hi ?_)
  rcases hc with ⟨rfl, hn⟩ | ⟨p, x, q, e, rfl, hx, hp⟩
  · exact E.pos rfl (E.now' (leftL_none (by simpa using hn)).symm)
  · have e' : ls = p ++ x :: q := by simpa using e
    subst e'
    have hlen : (p ++ x :: q).length = p.length + (q.length + 1) := by simp
    refine E.neg (by omega) ?_
    rw [wrap_nat (by omega)]
    have := deleteFunc_l5 F hF q p x [] (by simpa using hl)
    rw [show leftL F (p ++ x :: q) = p ++ leftL F q from by
      have := leftL_none hp
      unfold leftL at this ⊢
      rw [List.filter_append, this]
      simp [hx]]
    simp only [List.append_assoc, List.cons_append, List.nil_append, List.length_append, List.length_cons, List.length_nil, Nat.zero_add] at this
    exact E.ren (fun _ => 0) this
theorem implFail_E (c : Clb) (hc : vC c = true) (m : Int) : E (fun k => impl_Club_fail (k 0) (c, m)) (if okFail c m then (true, failedC c m) else (false, c)) := by
  obtain ⟨h1, h2, h3⟩ := vC_parts hc
  have a1 := vS_iff.1 h1
  have a2 := vLs_iff.1 h2
  refine E.congr (fun k => impl_Club_fail.eq (k 0) c m) (E.bind (implCascade_E c.1 c.2.1 m) ?_)
  by_cases ho : okFail c m = true
  · rw [if_pos ho]
    have hm : 0 ≤ m ∧ m < (c.1.length : Int) := of_decide_eq_true ho
    have hb := casM_bd h1 h2 hm
    refine E.neg (by omega) (E.bind (deleteFunc_E _ (by omega) c.2.1 (by omega)) (E.now' ?_))
    rw [wrap_id (by omega) (by omega)]
    rfl
  · rw [if_neg ho]
    have hm : ¬ (0 ≤ m ∧ m < (c.1.length : Int)) := fun h => ho (decide_eq_true h)
    have e : casM c.1 c.2.1 m = ([], -1, []) := by
      unfold casM
      rw [decide_eq_false hm, Bool.and_false]; rfl
    rw [e]
    exact E.pos (by simp only; omega) (E.now _)
theorem change_E (c : Clb) (hc : vC c = true) (e : Ev7) (hl : e.2.2.2.2.1.length ≤ 1000000000) : ∃ p, E (fun k => impl_Club_change (k 0) (c, e)) p ∧ (p.1 = true → evOut c e = some p.2) ∧ (p.1 = false → evOut c e = none) := by
  obtain ⟨h1, h2, h3⟩ := vC_parts hc
  have a1 := vS_iff.1 h1
  have e0 : ∀ k : Nat → Nat, impl_Club_change (k 0) (c, e) = _ := fun k => impl_Club_change.eq (k 0) c e
  by_cases k0 : e.1 = 0
  · exact ⟨_, E.congr e0 (E.pos k0 (E.pos (by simp [maxN]; omega) (E.now _))), fun _ => by unfold evOut; rw [if_pos k0]; rfl, fun h => by cases h⟩
  by_cases k1 : e.1 = 1
  · refine ⟨_, E.congr e0 (E.neg k0 (E.pos k1 (E.bind (implMove_E c hc e 1 (.inl rfl)) (E.now _)))), ?_, ?_⟩
    · intro h
      by_cases ho : okMove c e.2.1 e.2.2.1 = true
      · rw [if_pos ho, Int.one_mul]; unfold evOut; rw [if_neg k0, if_pos k1, if_pos ho]
      · rw [if_neg ho] at h; cases h
    · intro h
      by_cases ho : okMove c e.2.1 e.2.2.1 = true
      · rw [if_pos ho] at h; cases h
      · unfold evOut; rw [if_neg k0, if_pos k1, if_neg ho]
  by_cases k2 : e.1 = 2
  · by_cases ho : okMove c e.2.1 e.2.2.1 = true
    · have hm := implMove_E c hc e (-1) (.inr rfl)
      rw [if_pos ho, show (-1 : Int) * e.2.2.1 = -e.2.2.1 by omega] at hm
      refine ⟨_, E.congr e0 (E.neg k0 (E.neg k1 (E.pos k2 (E.bind hm (E.pos rfl (E.bind (safeLoans_E _ _) (E.now _))))))), ?_, ?_⟩
      · intro h
        simp only at h
        unfold evOut; rw [if_neg k0, if_neg k1, if_pos k2, ho]
        rw [show safeB (moved c e.2.1 (-e.2.2.1)).1 c.2.1 = true from h]; rfl
      · intro h
        simp only at h
        unfold evOut; rw [if_neg k0, if_neg k1, if_pos k2, ho]
        rw [show safeB (moved c e.2.1 (-e.2.2.1)).1 c.2.1 = false from h]; rfl
    · have hm := implMove_E c hc e (-1) (.inr rfl)
      rw [if_neg ho] at hm
      refine ⟨_, E.congr e0 (E.neg k0 (E.neg k1 (E.pos k2 (E.bind hm (E.neg (by simp) (E.now _)))))), fun h => (by cases h), fun _ => ?_⟩
      unfold evOut; rw [if_neg k0, if_neg k1, if_pos k2, Bool.eq_false_iff.2 ho]; rfl
  by_cases k3 : e.1 = 3
  · refine ⟨_, E.congr e0 (E.neg k0 (E.neg k1 (E.neg k2 (E.pos k3 (E.bind (implLend_E c hc e hl) (E.now _)))))), ?_, ?_⟩
    · intro h
      by_cases ho : safeB c.1 (c.2.1 ++ [(e.2.1, e.2.2.1, e.2.2.2.2.1)]) = true
      · rw [if_pos ho]; unfold evOut; rw [if_neg k0, if_neg k1, if_neg k2, if_pos k3, if_pos ho]
      · rw [if_neg ho] at h; cases h
    · intro h
      by_cases ho : safeB c.1 (c.2.1 ++ [(e.2.1, e.2.2.1, e.2.2.2.2.1)]) = true
      · rw [if_pos ho] at h; cases h
      · unfold evOut; rw [if_neg k0, if_neg k1, if_neg k2, if_pos k3, if_neg ho]
  by_cases k4 : e.1 = 4
  · refine ⟨_, E.congr e0 (E.neg k0 (E.neg k1 (E.neg k2 (E.neg k3 (E.pos k4 (E.bind (implRepay_E c hc e) (E.now _))))))), ?_, ?_⟩
    · intro h
      by_cases ho : okPay c e = true
      · rw [if_pos ho]; unfold evOut; rw [if_neg k0, if_neg k1, if_neg k2, if_neg k3, if_pos k4, if_pos ho]
      · rw [if_neg ho] at h; cases h
    · intro h
      by_cases ho : okPay c e = true
      · rw [if_pos ho] at h; cases h
      · unfold evOut; rw [if_neg k0, if_neg k1, if_neg k2, if_neg k3, if_pos k4, if_neg ho]
  by_cases k5 : e.1 = 5
  · refine ⟨_, E.congr e0 (E.neg k0 (E.neg k1 (E.neg k2 (E.neg k3 (E.neg k4 (E.pos k5 (E.bind (implFail_E c hc e.2.1) (E.now _)))))))), ?_, ?_⟩
    · intro h
      by_cases ho : okFail c e.2.1 = true
      · rw [if_pos ho]; unfold evOut; rw [if_neg k0, if_neg k1, if_neg k2, if_neg k3, if_neg k4, if_pos k5, if_pos ho]
      · rw [if_neg ho] at h; cases h
    · intro h
      by_cases ho : okFail c e.2.1 = true
      · rw [if_pos ho] at h; cases h
      · unfold evOut; rw [if_neg k0, if_neg k1, if_neg k2, if_neg k3, if_neg k4, if_pos k5, if_neg ho]
  by_cases k6 : e.1 = 6
  · refine ⟨_, E.congr e0 (E.neg k0 (E.neg k1 (E.neg k2 (E.neg k3 (E.neg k4 (E.neg k5 (E.pos k6 (E.bind (implNight_E c hc e.2.2.2.2.2) (E.now _))))))))), ?_, ?_⟩
    · intro h
      by_cases ho : okRate e.2.2.2.2.2 = true
      · rw [if_pos ho]; unfold evOut; rw [if_neg k0, if_neg k1, if_neg k2, if_neg k3, if_neg k4, if_neg k5, if_pos k6, if_pos ho]
      · rw [if_neg ho] at h; cases h
    · intro h
      by_cases ho : okRate e.2.2.2.2.2 = true
      · rw [if_pos ho] at h; cases h
      · unfold evOut; rw [if_neg k0, if_neg k1, if_neg k2, if_neg k3, if_neg k4, if_neg k5, if_pos k6, if_neg ho]
  by_cases k7 : e.1 = 7
  · refine ⟨_, E.congr e0 (E.neg k0 (E.neg k1 (E.neg k2 (E.neg k3 (E.neg k4 (E.neg k5 (E.neg k6 (E.pos k7 (E.bind (implShare_E c hc) (E.now _)))))))))), ?_, ?_⟩
    · intro h
      by_cases ho : c.2.2.2.1 < 0
      · rw [if_pos ho] at h; cases h
      · rw [if_neg ho]; unfold evOut; rw [if_neg k0, if_neg k1, if_neg k2, if_neg k3, if_neg k4, if_neg k5, if_neg k6, if_pos k7, if_neg ho]
    · intro h
      by_cases ho : c.2.2.2.1 < 0
      · unfold evOut; rw [if_neg k0, if_neg k1, if_neg k2, if_neg k3, if_neg k4, if_neg k5, if_neg k6, if_pos k7, if_pos ho]
      · rw [if_neg ho] at h; cases h
  · refine ⟨_, E.congr e0 (E.neg k0 (E.neg k1 (E.neg k2 (E.neg k3 (E.neg k4 (E.neg k5 (E.neg k6 (E.neg k7 (E.now _))))))))), fun h => (by cases h), fun _ => ?_⟩
    unfold evOut; rw [if_neg k0, if_neg k1, if_neg k2, if_neg k3, if_neg k4, if_neg k5, if_neg k6, if_neg k7]
def applyV (c : Clb) (e : Ev7) : Option Clb := if vC c then stepC c e else none
theorem implApply_E (c : Clb) (e : Ev7) (hl : e.2.2.2.2.1.length ≤ 1000000000) : E (fun k => impl_ApplyEvent (k 0) (c, e)) (tellC (applyV c e)) := by
  refine E.congr (fun k => impl_ApplyEvent.eq (k 0) c e) (E.bind (implValidClub_E c) (E.ite (fun h => E.now' ?_) (fun h => ?_)))
  · simp only [Bool.not_eq_true'] at h
    unfold applyV; rw [if_neg (by rw [h]; decide)]; rfl
  · simp only [Bool.not_eq_true', Bool.not_eq_false] at h
    obtain ⟨p, hp, y, z⟩ := change_E c h e hl
    unfold applyV; rw [if_pos h]
    refine E.bind (implCopyClub_E c (vC_fits h)) (E.bind hp (E.ite (fun h2 => E.now' ?_) (fun h2 => E.bind (implValidClub_E _) (E.ite (fun h3 => E.now' ?_) (fun h3 => E.now' ?_)))))
    · simp only [Bool.not_eq_true'] at h2
      unfold stepC; rw [z h2]; rfl
    · simp only [Bool.not_eq_true', Bool.not_eq_false] at h2 h3
      unfold stepC; rw [y h2]
      show _ = tellC (checkC p.2)
      unfold checkC; rw [if_neg (by rw [show vC p.2 = false from h3]; decide)]; rfl
    · simp only [Bool.not_eq_true', Bool.not_eq_false] at h2 h3
      unfold stepC; rw [y h2]
      show _ = tellC (checkC p.2)
      unfold checkC; rw [if_pos (show vC p.2 = true from h3)]; rfl
end Go.Proofs.YthooakfbpoopaaaG
end
section
set_option linter.unusedVariables false
namespace Go.Proofs.YthooakfbpoopaaaG
open Go Go.Refl Go.Refl.Math Go.RowKit
def runV (c : Clb) (l : List Ev7) : Option Clb := if vC c then (if l.length ≤ 30 then runC c l else none) else none
theorem applyV_of {c : Clb} (h : vC c = true) (e : Ev7) : applyV c e = stepC c e := by unfold applyV; rw [if_pos h]
theorem implRun_l5 (z1 z2 z3 : Int) : ∀ (post pre : List Ev7) (d : Clb), (pre ++ post).length ≤ 1000 → EvsOk post → vC d = true →
    E (fun k => impl_RunBook.l5 (k 0) (k 1) (pre ++ post) ((pre ++ post).length : Int) (pre.length : Int) z1 z2 z3 d.1 d.2.1 d.2.2.1 d.2.2.2.1 d.2.2.2.2) (tellC (runC d post))
  | [], pre, d, hl, he, hv => by
    refine E.step 1 (fun v w h1 h2 => by rewrite [h1, h2 0 (by decide)]; exact impl_RunBook.l5_succ ..) ?_
    exact E.neg (by simp) (E.now _)
  | e :: post, pre, d, hl, he, hv => by
    have hlen : (pre ++ e :: post).length = pre.length + (post.length + 1) := by simp
    have ha := implApply_E d e (by have := he e (List.mem_cons_self ..); omega)
    rw [applyV_of hv] at ha
    refine E.step 1 (fun v w h1 h2 => by rewrite [h1, h2 0 (by decide)]; exact impl_RunBook.l5_succ ..) ?_
    simp only [Int.toNat_natCast, getD_mid]
    refine E.pos (by omega) (E.pos (by omega) (E.pos (by omega) (E.bind (E.ren (fun _ => 0) ha) ?_)))
    unfold runC
    cases hs : stepC d e with
    | none => exact E.pos rfl (E.now _)
    | some d1 =>
      have ih := implRun_l5 z1 z2 z3 post (pre ++ [e]) d1 (by simpa using hl) (fun x hx => he x (List.mem_cons_of_mem _ hx)) (stepC_valid hs)
      rw [show (pre ++ [e]).length = pre.length + 1 from by simp, List.append_assoc] at ih
      refine E.neg (by simp [tellC]) ?_
      rw [wrap_nat (by omega)]
      exact ih
theorem implRun_E (c : Clb) (l : List Ev7) (he : EvsOk l) : E (fun k => impl_RunBook (k 0) (c, l)) (tellC (runV c l)) := by
  refine E.congr (fun k => impl_RunBook.eq (k 0) c l) (E.bind (implValidClub_E c) (E.ite (fun h => E.now' ?_) (fun h => E.ite (fun h2 => E.now' ?_) (fun h2 => ?_))))
  · simp only [Bool.not_eq_true'] at h
    unfold runV; rw [if_neg (by rw [h]; decide)]; rfl
  · simp only [Bool.not_eq_true', Bool.not_eq_false] at h
    unfold runV; rw [if_pos h, if_neg (by omega)]; rfl
  · simp only [Bool.not_eq_true', Bool.not_eq_false] at h
    unfold runV; rw [if_pos h, if_pos (by omega)]
    exact E.bind (implCopyClub_E c (vC_fits h)) (E.ren (fun _ => 0) (implRun_l5 0 0 0 l [] c (by simp; omega) he h))
theorem specRun_l3 (z1 z2 z3 : Int) : ∀ (post pre : List Ev7) (d : Clb), (pre ++ post).length ≤ 1000 → EvsOk post → vC d = true →
    E (fun k => spec_runBook.l3 (k 0) (k 1) (pre ++ post) (pre.length : Int) d.1 d.2.1 d.2.2.1 d.2.2.2.1 d.2.2.2.2 z1 z2 z3) (tellC (runC d post))
  | [], pre, d, hl, he, hv => by
    refine E.step 1 (fun v w h1 h2 => by rewrite [h1, h2 0 (by decide)]; exact spec_runBook.l3_succ ..) ?_
    exact E.neg (by simp) (E.now _)
  | e :: post, pre, d, hl, he, hv => by
    have hlen : (pre ++ e :: post).length = pre.length + (post.length + 1) := by simp
    have ha := specApply_E d hv e (by have := he e (List.mem_cons_self ..); omega)
    refine E.step 1 (fun v w h1 h2 => by rewrite [h1, h2 0 (by decide)]; exact spec_runBook.l3_succ ..) ?_
    simp only [Int.toNat_natCast, getD_mid]
    refine E.pos (by omega) (E.pos (by omega) (E.pos (by omega) (E.bind ha ?_)))
    unfold runC
    cases hs : stepC d e with
    | none => exact E.pos rfl (E.now _)
    | some d1 =>
      have ih := specRun_l3 z1 z2 z3 post (pre ++ [e]) d1 (by simpa using hl) (fun x hx => he x (List.mem_cons_of_mem _ hx)) (stepC_valid hs)
      rw [show (pre ++ [e]).length = pre.length + 1 from by simp, List.append_assoc] at ih
      refine E.neg (by simp [tellC]) ?_
      rw [wrap_nat (by omega)]
      exact ih
theorem specRun1_E (c : Clb) (l : List Ev7) (he : EvsOk l) (hl : l.length ≤ 1000) (h : vC c = true) : E (fun k => spec_runBook (k 0) (c, l)) (tellC (runC c l)) :=
  E.congr (fun k => spec_runBook.eq (k 0) c l) (E.bind (specCopyClub_E c (vC_fits h)) (E.ren (fun _ => 0) (specRun_l3 0 0 0 l [] c (by simpa using hl) he h)))
theorem specRun_E (c : Clb) (l : List Ev7) (hs : Small c) (he : EvsOk l) : E (fun k => spec_RunBook (k 0) (c, l)) (tellC (runV c l)) := by
  refine E.congr (fun k => spec_RunBook.eq (k 0) c l) (E.bind (specValidClub_E c hs.1 hs.2) (E.ite (fun h => E.now' ?_) (fun h => E.ite (fun h2 => E.now' ?_) (fun h2 => ?_))))
  · simp only [Bool.not_eq_true'] at h
    unfold runV; rw [if_neg (by rw [h]; decide)]; rfl
  · simp only [Bool.not_eq_true', Bool.not_eq_false] at h
    unfold runV; rw [if_pos h, if_neg (by omega)]; rfl
  · simp only [Bool.not_eq_true', Bool.not_eq_false] at h
    unfold runV; rw [if_pos h, if_pos (by omega)]
    exact E.bind (specRun1_E c l he (by omega) h) (E.now _)
theorem EvsOk.set {l : List Ev7} (h : EvsOk l) (i : Nat) (x : Ev7) (hx : x.2.2.2.2.1.length ≤ 1000000) : EvsOk (l.set i x) := fun e he => by
  rcases List.mem_or_eq_of_mem_set he with h1 | h1
  · exact h e h1
  · rw [h1]; exact hx
theorem EvsOk.at {l : List Ev7} (h : EvsOk l) (i : Nat) : (l.getD i (0, 0, 0, 0, [], 0, 0)).2.2.2.2.1.length ≤ 1000000 := by
  by_cases hi : i < l.length
  · exact h _ (getD_mem _ hi)
  · simp [List.getD_eq_getElem?_getD, List.getElem?_eq_none (show l.length ≤ i by omega)]
theorem anyBook_D {s : List Int} {p b : Int} (hr : RdOk (s, p) b) (hb : b ≤ 500000000) :
    ∃ c l p', E (fun k => spec_anyBook (k 0) (s, p)) (c, l, s, p') ∧ vC c = true ∧ EvsOk l ∧ l.length ≤ 18 ∧ RdOk (s, p') (b + 600) := by
  obtain ⟨c, p0, h0, v0, r0⟩ := firstClub_D hr (by omega)
  obtain ⟨l, c1, p1, h1, v1, _, r1, g, hl⟩ := someBook_D c v0 r0 (by omega)
  have e0 : ∀ k : Nat → Nat, spec_anyBook (k 0) (s, p) = _ := fun k => spec_anyBook.eq (k 0) (s, p)
  by_cases hn : ((l.length : Nat) : Int) > 1
  · obtain ⟨x, h2, _, _, r2⟩ := pick_D r1 (by omega) 10
    by_cases k0 : x = 0
    · refine ⟨_, _, _, E.congr e0 (E.bind h0 (E.bind h1 (E.pos hn (E.bind h2 (E.pos k0 (E.pos (show (1 : Int) ≤ (l.length : Int) by omega) (E.now _))))))), v0, fun e he => ?_, ?_, r2.mono (by omega)⟩
      · exact g e (List.mem_of_mem_drop (List.mem_of_mem_take he))
      · simp; omega
    by_cases k1 : x = 1
    · obtain ⟨y, h3, y0, y1, r3⟩ := pick_D r2 (by omega) (l.length : Int)
      obtain ⟨z, h4, _, r4⟩ := one_D r3 (by omega) (List.set (List.set (List.set (List.replicate 3 0) 0 (-1)) 1 100) 2 1) (by simp)
      have y2 := y1 (by omega)
      exact ⟨_, _, _, E.congr e0 (E.bind h0 (E.bind h1 (E.pos hn (E.bind h2 (E.neg k0 (E.pos k1 (E.bind h3 (E.bind h4 (E.pos y0 (E.pos y2 (E.now _))))))))))), v0, g.set _ _ (g.at _), by rw [List.length_set]; exact hl, r4.mono (by omega)⟩
    by_cases k2 : x = 2
    · obtain ⟨y, h3, y0, y1, r3⟩ := pick_D r2 (by omega) (l.length : Int)
      obtain ⟨z, h4, _, r4⟩ := one_D r3 (by omega) (List.set (List.set (List.set (List.replicate 3 0) 0 (-1)) 1 1000001) 2 3) (by simp)
      have y2 := y1 (by omega)
      exact ⟨_, _, _, E.congr e0 (E.bind h0 (E.bind h1 (E.pos hn (E.bind h2 (E.neg k0 (E.neg k1 (E.pos k2 (E.bind h3 (E.bind h4 (E.pos y0 (E.pos y2 (E.now _)))))))))))), v0, g.set _ _ (g.at _), by rw [List.length_set]; exact hl, r4.mono (by omega)⟩
    · exact ⟨_, _, _, E.congr e0 (E.bind h0 (E.bind h1 (E.pos hn (E.bind h2 (E.neg k0 (E.neg k1 (E.neg k2 (E.now _)))))))), v0, g, hl, r2.mono (by omega)⟩
  · exact ⟨_, _, _, E.congr e0 (E.bind h0 (E.bind h1 (E.neg hn (E.now _)))), v0, g, hl, r1.mono (by omega)⟩
theorem run_some {c d : Clb} {l : List Ev7} (hv : vC c = true) (g : EvsOk l) (ho : runV c l = some d) : E (fun k => impl_RunBook (k 0) (c, l)) (d, true) ∧ E (fun k => spec_RunBook (k 0) (c, l)) (d, true) := by
  have h1 := implRun_E c l g
  have h2 := specRun_E c l (vC_fits hv).small g
  rw [ho] at h1 h2
  exact ⟨h1, h2⟩
end Go.Proofs.YthooakfbpoopaaaG
end
section
set_option linter.unusedVariables false
namespace Go.Proofs.YthooakfbpoopaaaG
open Go Go.Refl Go.Refl.Math Go.RowKit
abbrev Ent := Int × Int × Int × Int
def vE (e : Ent) : Bool := decide (0 ≤ e.1 ∧ e.1 ≤ 999 ∧ (0 ≤ e.2.1 ∧ e.2.1 ≤ 7) ∧ (0 ≤ e.2.2.1 ∧ e.2.2.1 ≤ 7) ∧ e.2.1 ≠ e.2.2.1 ∧ 1 ≤ e.2.2.2 ∧ e.2.2.2 ≤ 1000000)
theorem vE_iff {e : Ent} : vE e = true ↔ 0 ≤ e.1 ∧ e.1 ≤ 999 ∧ (0 ≤ e.2.1 ∧ e.2.1 ≤ 7) ∧ (0 ≤ e.2.2.1 ∧ e.2.2.1 ≤ 7) ∧ e.2.1 ≠ e.2.2.1 ∧ 1 ≤ e.2.2.2 ∧ e.2.2.2 ≤ 1000000 := decide_eq_true_iff
def vEs (l : List Ent) : Bool := decide (l.length ≤ 40) && l.all vE
theorem vEs_iff {l : List Ent} : vEs l = true ↔ l.length ≤ 40 ∧ ∀ e ∈ l, vE e = true := by
  unfold vEs; rw [Bool.and_eq_true, decide_eq_true_iff, List.all_eq_true]
theorem specInR_E (n lo hi : Int) : E (fun k => spec_inRange (k 0) (n, lo, hi)) (decide (lo ≤ n ∧ n ≤ hi)) :=
  E.is (inRange_E n lo hi) (by rw [Bool.eq_iff_iff]; simp)
theorem specValidEntry_E (e : Ent) : E (fun k => spec_validEntry (k 0) e) (vE e) := by
  have no : ¬ (0 ≤ e.1 ∧ e.1 ≤ 999 ∧ (0 ≤ e.2.1 ∧ e.2.1 ≤ 7) ∧ (0 ≤ e.2.2.1 ∧ e.2.2.1 ≤ 7) ∧ e.2.1 ≠ e.2.2.1 ∧ 1 ≤ e.2.2.2 ∧ e.2.2.2 ≤ 1000000) → false = vE e := fun h => (decide_eq_false h).symm
  refine E.congr (fun k => spec_validEntry.eq (k 0) e) (E.bind (specInR_E ..) (E.ite (fun h1 => E.bind (specInR_E ..) (E.ite (fun h2 => E.bind (specInR_E ..) (E.ite (fun h3 => E.ite (fun h4 => E.now' (no ?_)) (fun h4 => E.bind (specInR_E ..) (E.now' ?_))) (fun h => E.now' (no ?_)))) (fun h => E.now' (no ?_)))) (fun h => E.now' (no ?_))))
  · exact fun g => g.2.2.2.2.1 h4
  · simp only [decide_eq_true_eq] at h1 h2 h3
    unfold vE
    rw [decide_eq_decide]
    omega
  · simp only [decide_eq_true_eq] at h; omega
  · simp only [decide_eq_true_eq] at h; omega
  · simp only [decide_eq_true_eq] at h; omega
theorem implAccount_E (x : Int) : E (fun k => impl_validAccount (k 0) x) (decide (0 ≤ x ∧ x ≤ 7)) :=
  E.congr (fun k => impl_validAccount.eq (k 0) x) (E.ite (fun h => E.now' (by rw [decide_eq_decide]; omega)) (fun h => E.now' (by symm; rw [decide_eq_false_iff_not]; omega)))
theorem implValidEntry_E (e : Ent) : E (fun k => impl_validEntry (k 0) e) (vE e) := by
  have no : ¬ (0 ≤ e.1 ∧ e.1 ≤ 999 ∧ (0 ≤ e.2.1 ∧ e.2.1 ≤ 7) ∧ (0 ≤ e.2.2.1 ∧ e.2.2.1 ≤ 7) ∧ e.2.1 ≠ e.2.2.1 ∧ 1 ≤ e.2.2.2 ∧ e.2.2.2 ≤ 1000000) → false = vE e := fun h => (decide_eq_false h).symm
  refine E.congr (fun k => impl_validEntry.eq (k 0) e) (E.ite (fun h => E.now' (no (by omega))) fun h1 => E.ite (fun h => E.now' (no (by omega))) fun h2 => E.ite (fun h => E.now' (no (by omega))) fun h3 => E.ite (fun h => E.now' (no (by omega))) fun h4 => E.bind (implAccount_E _) (E.ite (fun h5 => E.bind (implAccount_E _) (E.ite (fun h6 => E.now' ?_) (fun h => E.now' (no ?_)))) (fun h => E.now' (no ?_))))
  · simp only [decide_eq_true_eq] at h5 h6
    rw [Bool.eq_iff_iff, vE_iff]
    simp
    omega
  · simp only [decide_eq_true_eq] at h; omega
  · simp only [decide_eq_true_eq] at h; omega
theorem implValidEntries_l4 : ∀ (post pre : List Ent), (pre ++ post).length ≤ 1000000 →
    E (fun k => impl_ValidEntries.l4 (k 0) (k 1) (pre ++ post) ((pre ++ post).length : Int) (pre.length : Int)) (post.all vE)
  | [], pre, _ => by
    refine E.step 1 (fun v w h1 h2 => by rewrite [h1, h2 0 (by decide)]; exact impl_ValidEntries.l4_succ ..) ?_
    exact E.neg (by simp) (E.now _)
  | x :: post, pre, hl => by
    have hlen : (pre ++ x :: post).length = pre.length + (post.length + 1) := by simp
    have ih := implValidEntries_l4 post (pre ++ [x]) (by simpa using hl)
    rw [show (pre ++ [x]).length = pre.length + 1 from by simp, List.append_assoc] at ih
    refine E.step 1 (fun v w h1 h2 => by rewrite [h1, h2 0 (by decide)]; exact impl_ValidEntries.l4_succ ..) ?_
    simp only [Int.toNat_natCast, getD_mid]
    (repeat first | (with_reducible refine E.pos ?_ ?_; · omega) | (with_reducible refine E.neg ?_ ?_; · omega))
    refine E.bind (implValidEntry_E x) (E.ite (fun h => E.now' ?_) (fun h => ?_))
    · simp only [Bool.not_eq_true'] at h
      rw [List.all_cons, h, Bool.false_and]
    · simp only [Bool.not_eq_true', Bool.not_eq_false] at h
      rw [wrap_nat (by omega)]
      exact E.is ih (by rw [List.all_cons, h, Bool.true_and])
theorem implValidEntries_E (l : List Ent) : E (fun k => impl_ValidEntries (k 0) l) (vEs l) := by
  refine E.congr (fun k => impl_ValidEntries.eq (k 0) l) (E.ite (fun h => E.now' ?_) (fun h => ?_))
  · unfold vEs; rw [decide_eq_false (by omega), Bool.false_and]
  · refine E.is (E.ren (fun _ => 0) (implValidEntries_l4 l [] (by simp; omega))) ?_
    unfold vEs; rw [decide_eq_true (by omega), Bool.true_and]
theorem specValidEntries_l2 : ∀ (post pre : List Ent), (pre ++ post).length < 4611686018427387904 →
    E (fun k => spec_validEntries.l2 (k 0) (k 1) (pre ++ post) (pre.length : Int)) (decide ((pre ++ post).length ≤ 40) && post.all vE)
  | [], pre, _ => by
    refine E.step 1 (fun v w h1 h2 => by rewrite [h1, h2 0 (by decide)]; exact spec_validEntries.l2_succ ..) ?_
    exact E.neg (by simp) (E.now' (by simp; omega))
  | x :: post, pre, hl => by
    have hlen : (pre ++ x :: post).length = pre.length + (post.length + 1) := by simp
    have ih := specValidEntries_l2 post (pre ++ [x]) (by simpa using hl)
    rw [show (pre ++ [x]).length = pre.length + 1 from by simp, List.append_assoc] at ih
    refine E.step 1 (fun v w h1 h2 => by rewrite [h1, h2 0 (by decide)]; exact spec_validEntries.l2_succ ..) ?_
    simp only [Int.toNat_natCast, getD_mid]
    (repeat first | (with_reducible refine E.pos ?_ ?_; · omega) | (with_reducible refine E.neg ?_ ?_; · omega))
    refine E.bind (specValidEntry_E x) (E.ite (fun h => E.now' ?_) (fun h => ?_))
    · simp only [Bool.not_eq_true'] at h
      rw [List.all_cons, h, Bool.false_and, Bool.and_false]
    · simp only [Bool.not_eq_true', Bool.not_eq_false] at h
      rw [wrap_nat (by omega)]
      exact E.is ih (by rw [List.all_cons, h, Bool.true_and]; simp)
theorem specValidEntries_E (l : List Ent) (hl : l.length < 4611686018427387904) : E (fun k => spec_validEntries (k 0) l) (vEs l) :=
  E.congr (fun k => spec_validEntries.eq (k 0) l) (E.ren (fun _ => 0) (specValidEntries_l2 l [] (by simpa using hl)))
theorem equalEntries_l4 : ∀ (post post2 pre pre2 : List Ent), (pre ++ post).length < 4611686018427387904 → pre.length = pre2.length → post.length = post2.length →
    E (fun k => laws_equalEntries.l4 (k 0) (k 1) (pre ++ post) (pre2 ++ post2) (pre.length : Int)) (decide (post = post2))
  | [], post2, pre, pre2, hl, hp, hq => by
    have : post2 = [] := List.eq_nil_of_length_eq_zero (by simpa using hq.symm)
    subst this
    refine E.step 1 (fun v w h1 h2 => by rewrite [h1, h2 0 (by decide)]; exact laws_equalEntries.l4_succ ..) ?_
    exact E.neg (by simp) (E.now' (by simp))
  | x :: post, [], pre, pre2, hl, hp, hq => by simp at hq
  | x :: post, y :: post2, pre, pre2, hl, hp, hq => by
    have hlen : (pre ++ x :: post).length = pre.length + (post.length + 1) := by simp
    have hlen2 : (pre2 ++ y :: post2).length = pre2.length + (post2.length + 1) := by simp
    have ih := equalEntries_l4 post post2 (pre ++ [x]) (pre2 ++ [y]) (by simpa using hl) (by simp [hp]) (by simpa using hq)
    rw [show (pre ++ [x]).length = pre.length + 1 from by simp, List.append_assoc, List.append_assoc] at ih
    have hg : (pre2 ++ y :: post2).getD pre.length (0, 0, 0, 0) = y := by rw [hp]; exact getD_mid ..
    refine E.step 1 (fun v w h1 h2 => by rewrite [h1, h2 0 (by decide)]; exact laws_equalEntries.l4_succ ..) ?_
    simp only [Int.toNat_natCast, getD_mid, hg]
    (repeat first | (with_reducible refine E.pos ?_ ?_; · omega) | (with_reducible refine E.neg ?_ ?_; · omega))
    refine E.ite (fun h => ?_) (fun h => E.now' (by simp [h]))
    rw [wrap_nat (by omega)]
    exact E.is ih (by simp [h])
theorem equalEntries_E (xs ys : List Ent) (hl : xs.length < 4611686018427387904) : E (fun k => laws_equalEntries (k 0) (xs, ys)) (decide (xs = ys)) := by
  refine E.congr (fun k => laws_equalEntries.eq (k 0) ..) (E.ite (fun h => ?_) (fun h => E.now' ?_))
  · exact E.ren (fun _ => 0) (equalEntries_l4 xs ys [] [] (by simpa using hl) rfl (by omega))
  · symm; rw [decide_eq_false_iff_not]; intro e; exact h (by rw [e])
theorem equalEnt_E (xs : List Ent) (hl : xs.length < 4611686018427387904) : E (fun k => laws_equalEntries (k 0) (xs, xs)) true :=
  E.is (equalEntries_E xs xs hl) (by simp)
end Go.Proofs.YthooakfbpoopaaaG
end
section
set_option linter.unusedVariables false
namespace Go.Proofs.YthooakfbpoopaaaG
open Go Go.Refl Go.Refl.Math Go.RowKit
def flowE (day from_ to_ n : Int) : List Ent := if 0 < n then [(day, from_, to_, n)] else if n < 0 then [(day, to_, from_, -n)] else []
theorem flow_len (day f t n : Int) : (flowE day f t n).length ≤ 1 := by unfold flowE; (repeat' split) <;> simp
def stepE (a b : Clb) : List Ent := flowE a.2.2.2.2 1 0 (b.1.sum - a.1.sum) ++ flowE a.2.2.2.2 3 0 (b.2.2.2.1 - a.2.2.2.1) ++ flowE a.2.2.2.2 2 0 (lentS a.2.1 - lentS b.2.1)
theorem stepE_len (a b : Clb) : (stepE a b).length ≤ 3 := by
  unfold stepE
  have h1 := flow_len a.2.2.2.2 1 0 (b.1.sum - a.1.sum)
  have h2 := flow_len a.2.2.2.2 3 0 (b.2.2.2.1 - a.2.2.2.1)
  have h3 := flow_len a.2.2.2.2 2 0 (lentS a.2.1 - lentS b.2.1)
  simp only [List.length_append]
  omega
def allE (c : Clb) : List Ev7 → Option (List Ent)
  | [] => some []
  | e :: l => (stepC c e).bind fun d => (allE d l).map fun r => stepE c d ++ r
theorem allE_app : ∀ (l m : List Ev7) (c : Clb), allE c (l ++ m) = (runC c l).bind fun d => (allE c l).bind fun r => (allE d m).map fun q => r ++ q
  | [], m, c => by simp [allE, runC]
  | e :: l, m, c => by
    simp only [List.cons_append, allE, runC]
    cases stepC c e with
    | none => rfl
    | some d =>
      simp only [Option.bind_some]
      rw [allE_app l m d]
      cases runC d l with
      | none => rfl
      | some o =>
        cases allE d l with
        | none => rfl
        | some r =>
          simp only [Option.bind_some, Option.map_some]
          cases allE o m with
          | none => rfl
          | some q => simp
structure ClubNums (c : Clb) : Prop where
  sum : 0 ≤ c.1.sum ∧ c.1.sum ≤ 1200000
  lent : 0 ≤ lentS c.2.1 ∧ lentS c.2.1 ≤ 1600000
  sur : -1000000 ≤ c.2.2.2.1 ∧ c.2.2.2.1 ≤ 1000000
  box : 0 ≤ c.2.2.1 ∧ c.2.2.1 ≤ 1000000
  bal : c.2.2.1 + lentS c.2.1 = c.1.sum + c.2.2.2.1
theorem clubNums {c : Clb} (h : vC c = true) : ClubNums c := by
  obtain ⟨h1, h2, h3⟩ := vC_parts h
  have := vC_sums h1 h2
  exact ⟨by omega, by omega, by omega, by omega, by omega⟩
theorem specFlow_E (day f t n : Int) (hn : -10000000 ≤ n ∧ n ≤ 10000000) : E (fun k => spec_flow (k 0) (day, f, t, n)) (flowE day f t n) := by
  refine E.congr (fun k => spec_flow.eq (k 0) ..) (E.ite (fun h => E.now' ?_) (fun h => E.ite (fun h2 => E.now' ?_) (fun h2 => E.now' ?_)))
  · unfold flowE; rw [if_pos (by omega)]; rfl
  · unfold flowE; rw [if_neg (by omega), if_pos h2, wrap_id (by omega) (by omega), show (0 : Int) - n = -n by omega]; rfl
  · unfold flowE; rw [if_neg (by omega), if_neg h2]; rfl
theorem specSums_E {c : Clb} (h : vC c = true) : E (fun k => spec_total (k 0) c.1) c.1.sum ∧ E (fun k => spec_lent (k 0) c.2.1) (lentS c.2.1) := by
  have hs := vS_iff.1 (vC_parts h).1
  have h2 := (vC_parts h).2.1
  exact ⟨specTotal_E c.1 (by omega) (fun x hx => by have := hs.2 x hx; omega), specLent_E c.2.1 (by have := (vLs_iff.1 h2).1; omega) (vLs_amt h2)⟩
theorem implSums_E {c : Clb} (h : vC c = true) : E (fun k => impl_sumOf (k 0) c.1) c.1.sum ∧ E (fun k => impl_loansOf (k 0) c.2.1) (lentS c.2.1) := by
  have hs := vS_iff.1 (vC_parts h).1
  have h2 := (vC_parts h).2.1
  exact ⟨sumOf_E c.1 (by omega) (fun x hx => by have := hs.2 x hx; omega), loansOf_E c.2.1 (by have := (vLs_iff.1 h2).1; omega) (vLs_amt h2)⟩
theorem specEntries_E (a b : Clb) (ha : vC a = true) (hb : vC b = true) : E (fun k => spec_entriesOf (k 0) (a, b)) (stepE a b) := by
  have na := clubNums ha
  have nb := clubNums hb
  have n1 := na.sum; have n2 := na.lent; have n3 := na.sur
  have m1 := nb.sum; have m2 := nb.lent; have m3 := nb.sur
  have l1 := flow_len a.2.2.2.2 1 0 (b.1.sum - a.1.sum)
  have l2 := flow_len a.2.2.2.2 3 0 (b.2.2.2.1 - a.2.2.2.1)
  have l3 := flow_len a.2.2.2.2 2 0 (lentS a.2.1 - lentS b.2.1)
  refine E.congr (fun k => spec_entriesOf.eq (k 0) a b) (E.bind (specSums_E hb).1 (E.bind (specSums_E ha).1 ?_))
  rw [wrap_id (x := b.1.sum - a.1.sum) (by omega) (by omega), wrap_id (x := b.2.2.2.1 - a.2.2.2.1) (by omega) (by omega)]
  refine E.bind (specFlow_E _ _ _ _ (by omega)) (E.bind (specFlow_E _ _ _ _ (by omega)) (E.pos (by simp only [maxN]; omega) (E.bind (specSums_E ha).2 (E.bind (specSums_E hb).2 ?_))))
  rw [wrap_id (x := lentS a.2.1 - lentS b.2.1) (by omega) (by omega)]
  exact E.bind (specFlow_E _ _ _ _ (by omega)) (E.pos (by simp only [maxN, List.length_append]; omega) (E.now _))
theorem toBox_E (l : List Ent) (day ac n : Int) (hl : l.length ≤ 1000000) (hn : -10000000 ≤ n ∧ n ≤ 10000000) : E (fun k => impl_toBox (k 0) (l, day, ac, n)) (l ++ flowE day ac 0 n) := by
  have e0 : ∀ x : Ent, List.set (List.replicate 1 ((0 : Int), (0 : Int), (0 : Int), (0 : Int))) 0 x = [x] := fun _ => rfl
  refine E.congr (fun k => impl_toBox.eq (k 0) ..) ?_
  simp only [e0]
  refine E.ite (fun h => E.pos (by simp [maxN]; omega) (E.now' ?_)) (fun h => E.ite (fun h2 => E.pos (by simp [maxN]; omega) (E.now' ?_)) (fun h2 => E.now' ?_))
  · unfold flowE; rw [if_pos (by omega)]
  · unfold flowE; rw [if_neg (by omega), if_pos h2, wrap_id (by omega) (by omega), show (0 : Int) - n = -n by omega]
  · unfold flowE; rw [if_neg (by omega), if_neg h2]; simp
def tellE (o : Option (List Ent)) : List Ent × Bool := match o with
  | some d => (d, true)
  | none => ([], false)
def checkE (r : List Ent) : Option (List Ent) := if vEs r then some r else none
def entV (c : Clb) (l : List Ev7) : Option (List Ent) := if vC c then (if l.length ≤ 30 then (allE c l).bind checkE else none) else none
theorem implEnt_l6 : ∀ (post pre : List Ev7) (d : Clb) (r : List Ent), (pre ++ post).length ≤ 1000 → EvsOk post → vC d = true → r.length ≤ 3 * pre.length →
    E (fun k => impl_EntriesOf.l6 (k 0) (k 1) (pre ++ post) ((pre ++ post).length : Int) (pre.length : Int) r d.1 d.2.1 d.2.2.1 d.2.2.2.1 d.2.2.2.2) (tellE ((allE d post).bind fun q => checkE (r ++ q)))
  | [], pre, d, r, hl, he, hv, hr => by
    refine E.step 1 (fun v w h1 h2 => by rewrite [h1, h2 0 (by decide)]; exact impl_EntriesOf.l6_succ ..) ?_
    refine E.neg (by simp) (E.bind (E.ren (fun _ => 0) (implValidEntries_E r)) ?_)
    simp only [allE, Option.bind_some, List.append_nil]
    unfold checkE
    by_cases h : vEs r = true
    · rw [if_pos h]; exact E.neg (by rw [h]; decide) (E.now _)
    · rw [if_neg h]; exact E.pos (by rw [Bool.eq_false_iff.2 h]; rfl) (E.now _)
  | e :: post, pre, d, r, hl, he, hv, hr => by
    have hlen : (pre ++ e :: post).length = pre.length + (post.length + 1) := by simp
    have ha := implApply_E d e (by have := he e (List.mem_cons_self ..); omega)
    rw [applyV_of hv] at ha
    refine E.step 1 (fun v w h1 h2 => by rewrite [h1, h2 0 (by decide)]; exact impl_EntriesOf.l6_succ ..) ?_
    simp only [Int.toNat_natCast, getD_mid]
    refine E.pos (by omega) (E.pos (by omega) (E.pos (by omega) (E.bind ha ?_)))
    unfold allE
    cases hs : stepC d e with
    | none => exact E.pos rfl (E.now _)
    | some d1 =>
      have hv1 := stepC_valid hs
      have na := clubNums hv
      have nb := clubNums hv1
      have n1 := na.sum; have n2 := na.lent; have n3 := na.sur
      have m1 := nb.sum; have m2 := nb.lent; have m3 := nb.sur
      have l1 := flow_len d.2.2.2.2 1 0 (d1.1.sum - d.1.sum)
      have l2 := flow_len d.2.2.2.2 3 0 (d1.2.2.2.1 - d.2.2.2.1)
      have ih := implEnt_l6 post (pre ++ [e]) d1 (r ++ stepE d d1) (by simpa using hl) (fun x hx => he x (List.mem_cons_of_mem _ hx)) hv1 (by have := stepE_len d d1; simp; omega)
      rw [show (pre ++ [e]).length = pre.length + 1 from by simp, List.append_assoc] at ih
      refine E.neg (by simp [tellC]) (E.bind (implSums_E hv1).1 (E.bind (implSums_E hv).1 ?_))
      dsimp only [tellC]
      rw [wrap_nat (by omega), wrap_id (x := d1.1.sum - d.1.sum) (by omega) (by omega), wrap_id (x := d1.2.2.2.1 - d.2.2.2.1) (by omega) (by omega)]
      refine E.bind (toBox_E _ _ _ _ (by omega) (by omega)) (E.bind (toBox_E _ _ _ _ (by simp; omega) (by omega)) (E.bind (implSums_E hv).2 (E.bind (implSums_E hv1).2 ?_)))
      rw [wrap_id (x := lentS d.2.1 - lentS d1.2.1) (by omega) (by omega)]
      refine E.bind (toBox_E _ _ _ _ (by simp; omega) (by omega)) ?_
      have e1 : r ++ flowE d.2.2.2.2 1 0 (d1.1.sum - d.1.sum) ++ flowE d.2.2.2.2 3 0 (d1.2.2.2.1 - d.2.2.2.1) ++ flowE d.2.2.2.2 2 0 (lentS d.2.1 - lentS d1.2.1) = r ++ stepE d d1 := by unfold stepE; simp
      rw [e1]
      refine E.is ih ?_
      simp only [Option.bind_some]
      cases allE d1 post with
      | none => rfl
      | some q => simp
theorem implEnt_E (c : Clb) (l : List Ev7) (he : EvsOk l) : E (fun k => impl_EntriesOf (k 0) (c, l)) (tellE (entV c l)) := by
  refine E.congr (fun k => impl_EntriesOf.eq (k 0) c l) (E.bind (implValidClub_E c) (E.ite (fun h => E.now' ?_) (fun h => E.ite (fun h2 => E.now' ?_) (fun h2 => ?_))))
  · simp only [Bool.not_eq_true'] at h
    unfold entV; rw [if_neg (by rw [h]; decide)]; rfl
  · simp only [Bool.not_eq_true', Bool.not_eq_false] at h
    unfold entV; rw [if_pos h, if_neg (by omega)]; rfl
  · simp only [Bool.not_eq_true', Bool.not_eq_false] at h
    unfold entV; rw [if_pos h, if_pos (by omega)]
    exact E.ren (fun _ => 0) (implEnt_l6 l [] c [] (by simp; omega) he h (by simp))
theorem specEnt_l5 : ∀ (post pre : List Ev7) (d : Clb) (r : List Ent), (pre ++ post).length ≤ 1000 → EvsOk post → vC d = true → r.length ≤ 3 * pre.length →
    E (fun k => spec_EntriesOf.l5 (k 0) (k 1) (pre ++ post) (pre.length : Int) d.1 d.2.1 d.2.2.1 d.2.2.2.1 d.2.2.2.2 r) (tellE ((allE d post).bind fun q => checkE (r ++ q)))
  | [], pre, d, r, hl, he, hv, hr => by
    have hp : pre.length ≤ 1000 := by simpa using hl
    refine E.step 1 (fun v w h1 h2 => by rewrite [h1, h2 0 (by decide)]; exact spec_EntriesOf.l5_succ ..) ?_
    refine E.neg (by simp) (E.bind (E.ren (fun _ => 0) (specValidEntries_E r (by omega))) ?_)
    simp only [allE, Option.bind_some, List.append_nil]
    unfold checkE
    by_cases h : vEs r = true
    · rw [if_pos h]; exact E.neg (by rw [h]; decide) (E.now _)
    · rw [if_neg h]; exact E.pos (by rw [Bool.eq_false_iff.2 h]; rfl) (E.now _)
  | e :: post, pre, d, r, hl, he, hv, hr => by
    have hlen : (pre ++ e :: post).length = pre.length + (post.length + 1) := by simp
    have ha := specApply_E d hv e (by have := he e (List.mem_cons_self ..); omega)
    refine E.step 1 (fun v w h1 h2 => by rewrite [h1, h2 0 (by decide)]; exact spec_EntriesOf.l5_succ ..) ?_
    simp only [Int.toNat_natCast, getD_mid]
    refine E.pos (by omega) (E.pos (by omega) (E.pos (by omega) (E.bind ha ?_)))
    unfold allE
    cases hs : stepC d e with
    | none => exact E.pos rfl (E.now _)
    | some d1 =>
      have hv1 := stepC_valid hs
      have sl := stepE_len d d1
      have ih := specEnt_l5 post (pre ++ [e]) d1 (r ++ stepE d d1) (by simpa using hl) (fun x hx => he x (List.mem_cons_of_mem _ hx)) hv1 (by simp; omega)
      rw [show (pre ++ [e]).length = pre.length + 1 from by simp, List.append_assoc] at ih
      refine E.neg (by simp [tellC]) (E.bind (specEntries_E d d1 hv hv1) (E.pos (by simp only [maxN]; omega) ?_))
      dsimp only [tellC]
      rw [wrap_nat (by omega)]
      refine E.is ih ?_
      simp only [Option.bind_some]
      cases allE d1 post with
      | none => rfl
      | some q => simp
theorem specEnt_E (c : Clb) (l : List Ev7) (hs : Small c) (he : EvsOk l) : E (fun k => spec_EntriesOf (k 0) (c, l)) (tellE (entV c l)) := by
  refine E.congr (fun k => spec_EntriesOf.eq (k 0) c l) (E.bind (specValidClub_E c hs.1 hs.2) (E.ite (fun h => E.now' ?_) (fun h => E.ite (fun h2 => E.now' ?_) (fun h2 => ?_))))
  · simp only [Bool.not_eq_true'] at h
    unfold entV; rw [if_neg (by rw [h]; decide)]; rfl
  · simp only [Bool.not_eq_true', Bool.not_eq_false] at h
    unfold entV; rw [if_pos h, if_neg (by omega)]; rfl
  · simp only [Bool.not_eq_true', Bool.not_eq_false] at h
    unfold entV; rw [if_pos h, if_pos (by omega)]
    exact E.ren (fun _ => 0) (specEnt_l5 l [] c [] (by simp; omega) he h (by simp))
theorem entV_some {c : Clb} {l : List Ev7} {r : List Ent} (h : entV c l = some r) : vC c = true ∧ l.length ≤ 30 ∧ allE c l = some r ∧ vEs r = true := by
  unfold entV at h
  split at h
  · rename_i hc
    split at h
    · rename_i hl
      obtain ⟨q, hq, h⟩ := Option.bind_eq_some_iff.1 h
      unfold checkE at h
      split at h
      · rename_i hv; cases h; exact ⟨hc, hl, hq, hv⟩
      · cases h
    · cases h
  · cases h
theorem ent_none {c : Clb} {l : List Ev7} (hv : vC c = true) (g : EvsOk l) (ho : entV c l = none) : E (fun k => impl_EntriesOf (k 0) (c, l)) ([], false) ∧ E (fun k => spec_EntriesOf (k 0) (c, l)) ([], false) := by
  have h1 := implEnt_E c l g
  have h2 := specEnt_E c l (vC_fits hv).small g
  rw [ho] at h1 h2
  exact ⟨h1, h2⟩
theorem ent_some {c : Clb} {d : List Ent} {l : List Ev7} (hv : vC c = true) (g : EvsOk l) (ho : entV c l = some d) : E (fun k => impl_EntriesOf (k 0) (c, l)) (d, true) ∧ E (fun k => spec_EntriesOf (k 0) (c, l)) (d, true) := by
  have h1 := implEnt_E c l g
  have h2 := specEnt_E c l (vC_fits hv).small g
  rw [ho] at h1 h2
  exact ⟨h1, h2⟩
theorem drawEnt_D (x : List Int) (hx : ∀ b ∈ x, 0 ≤ b ∧ b < 256) : ∃ c l, E (fun k => spec_DrawEntriesOf (k 0) x) (c, l) ∧ vC c = true ∧ EvsOk l ∧ l.length ≤ 18 := by
  obtain ⟨c, l, p', h, v, g, hl, _⟩ := anyBook_D (start_rd hx) (by omega)
  exact ⟨c, l, E.congr (fun k => spec_DrawEntriesOf.eq (k 0) x) (E.bind (newReader_E x) (E.bind h (E.now _))), v, g, hl⟩
end Go.Proofs.YthooakfbpoopaaaG
end
section
set_option linter.unusedVariables false
namespace Go.Proofs.YthooakfbpoopaaaG
open Go Go.Refl Go.Refl.Math Go.RowKit
theorem vEs_app {a b : List Ent} (h : vEs (a ++ b) = true) : vEs a = true ∧ vEs b = true := by
  obtain ⟨h1, h2⟩ := vEs_iff.1 h
  rw [List.length_append] at h1
  exact ⟨vEs_iff.2 ⟨by omega, fun e he => h2 e (by simp [he])⟩, vEs_iff.2 ⟨by omega, fun e he => h2 e (by simp [he])⟩⟩
theorem FnEntriesOfParts_pure (x : List Int) (hx : ∀ b ∈ x, 0 ≤ b ∧ b < 256) : ∃ n, laws_FnEntriesOfParts n x = some true := by
  refine E.one (E.congr (fun k => laws_FnEntriesOfParts.eq (k 0) x) (E.ite (fun h => E.now _) (fun h => ?_)))
  obtain ⟨c, l, hd, hc, g, hl⟩ := drawEnt_D x hx
  cases ho : entV c l with
  | none =>
    obtain ⟨g1, g2⟩ := ent_none hc g ho
    have q := equalEnt_E [] (by simp)
    exact E.bind hd (E.bind g1 (E.bind g2 (E.bind q (E.neg (by decide) (E.pos rfl (E.pos rfl (E.bind q (E.pos rfl (E.now' (by simp))))))))))
  | some r =>
  obtain ⟨g1, g2⟩ := ent_some hc g ho
  obtain ⟨_, hl2, ha, hv⟩ := entV_some ho
  have hrl := (vEs_iff.1 hv).1
  have q := equalEnt_E r (by omega)
  refine E.bind hd (E.bind g1 (E.bind g2 (E.bind q (E.neg (by decide) (E.pos rfl (E.neg (by simp) ?_))))))
  dsimp only
  obtain ⟨k, hk⟩ : ∃ k : Nat, k = l.length / 2 := ⟨_, rfl⟩
  have ek : wrap64 (Int.tdiv (l.length : Int) 2) = (k : Int) := by
    rw [Int.tdiv_eq_ediv_of_nonneg (by omega), wrap_id (by omega) (by omega)]; omega
  have hkl : k ≤ l.length := by omega
  have ha2 := ha
  rw [← List.take_append_drop k l, allE_app] at ha2
  obtain ⟨m, hm, ha2⟩ := Option.bind_eq_some_iff.1 ha2
  obtain ⟨r1, hr1, ha2⟩ := Option.bind_eq_some_iff.1 ha2
  obtain ⟨r2, hr2, hr⟩ := Option.map_eq_some_iff.1 ha2
  subst hr
  obtain ⟨v1, v2⟩ := vEs_app hv
  have hmv := runC_valid _ hc hm
  have gt : EvsOk (l.take k) := fun e he => g e (List.mem_of_mem_take he)
  have gd : EvsOk (l.drop k) := fun e he => g e (List.mem_of_mem_drop he)
  have hlt : (l.take k).length ≤ 30 := by rw [List.length_take]; omega
  have hld : (l.drop k).length ≤ 30 := by rw [List.length_drop]; omega
  have o1 : runV c (l.take k) = some m := by unfold runV; rw [if_pos hc, if_pos hlt]; exact hm
  have o2 : entV c (l.take k) = some r1 := by unfold entV checkE; rw [if_pos hc, if_pos hlt, hr1]; simp only [Option.bind_some]; rw [if_pos v1]
  have o3 : entV m (l.drop k) = some r2 := by unfold entV checkE; rw [if_pos hmv, if_pos hld, hr2]; simp only [Option.bind_some]; rw [if_pos v2]
  have e1 := (run_some hc gt o1).1
  have e2 := (ent_some hc gt o2).1
  have e3 := (ent_some hmv gd o3).1
  have l1 := (vEs_iff.1 v1).1
  have l2 := (vEs_iff.1 v2).1
  refine E.congr (fun k => laws_FnEntriesOfParts.j8_eq (k 0) ..) (E.bind (E.veil _) ?_)
  simp only [ek, Int.toNat_natCast]
  refine E.pos (by omega) (E.pos (by omega) (E.bind e1 (E.pos (by omega) (E.pos (by omega) (E.bind e2 (E.pos (by omega) (E.pos (by omega) (E.bind e3 (E.pos rfl (E.pos rfl (E.pos rfl (E.pos ?_ (E.pos ?_ ?_)))))))))))))
  · simp [maxN]; omega
  · simp [maxN]; omega
  · exact E.bind (E.is (equalEntries_E _ _ (by simp; omega)) (by simp)) (E.now _)
end Go.Proofs.YthooakfbpoopaaaG
end
