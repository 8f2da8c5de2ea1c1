import Derived.Test.YtpgfkoeodhfkgaaDoorB3
/- FnExactFormatEntries: mathematics of the law. No condition. -/
set_option linter.unusedVariables false
set_option linter.unusedSimpArgs false
section
set_option linter.unusedVariables false
namespace Go.Refl.Math
open Go Go.Refl Go.RowKit
def E {α : Type} (f : (Nat → Nat) → Option α) (r : α) : Prop := ∃ K, ∀ v : Nat → Nat, (∀ i, K ≤ v i) → f v = some r
variable {α β : Type}
theorem E.now (r : α) : E (fun _ => some r) r := ⟨0, fun _ _ => rfl⟩
theorem E.now' {r r' : α} (h : r = r') : E (fun _ => some r) r' := h ▸ E.now r
theorem E.is {f : (Nat → Nat) → Option α} {r r' : α} (k : E f r) (h : r = r') : E f r' := h ▸ k
theorem E.congr {f g : (Nat → Nat) → Option α} {r : α} (h : ∀ v, f v = g v) (k : E g r) : E f r := by
  obtain ⟨K, k⟩ := k
  exact ⟨K, fun v hv => (h v).trans (k v hv)⟩
theorem E.bind {f : (Nat → Nat) → Option α} {g : (Nat → Nat) → α → Option β} {a : α} {r : β} (h : E f a) (k : E (fun v => g v a) r) : E (fun v => (f v).bind (g v)) r := by
  obtain ⟨K, h⟩ := h
  obtain ⟨L, k⟩ := k
  exact ⟨max K L, fun v hv => by
    show (f v).bind (g v) = some r
    rw [h v (fun i => Nat.le_trans (Nat.le_max_left ..) (hv i))]
    exact k v (fun i => Nat.le_trans (Nat.le_max_right ..) (hv i))⟩
theorem E.pos {c : Prop} [Decidable c] {f g : (Nat → Nat) → Option α} {r : α} (h : c) (k : E f r) : E (fun v => if c then f v else g v) r := by
  obtain ⟨K, k⟩ := k
  exact ⟨K, fun v hv => by simp only [if_pos h]; exact k v hv⟩
theorem E.neg {c : Prop} [Decidable c] {f g : (Nat → Nat) → Option α} {r : α} (h : ¬ c) (k : E g r) : E (fun v => if c then f v else g v) r := by
  obtain ⟨K, k⟩ := k
  exact ⟨K, fun v hv => by simp only [if_neg h]; exact k v hv⟩
theorem E.ite {c : Prop} [Decidable c] {f g : (Nat → Nat) → Option α} {r : α} (h1 : c → E f r) (h2 : ¬ c → E g r) : E (fun v => if c then f v else g v) r := by
  by_cases h : c
  · exact E.pos h (h1 h)
  · exact E.neg h (h2 h)
theorem E.step (i : Nat) {f g : (Nat → Nat) → Option α} {r : α} (h : ∀ v w : Nat → Nat, v i = w i + 1 → (∀ j, j ≠ i → v j = w j) → f v = g w) (k : E g r) : E f r := by
  obtain ⟨K, k⟩ := k
  refine ⟨K + 1, fun v hv => ?_⟩
  have h1 := h v (fun j => if j = i then v i - 1 else v j) (by simp; have := hv i; omega) (fun j hj => by simp [hj])
  rw [h1]
  refine k _ fun j => ?_
  by_cases hj : j = i
  · simp only [hj, if_true]; have := hv i; omega
  · simp only [hj, if_false]; have := hv j; omega
theorem E.ren (σ : Nat → Nat) {f : (Nat → Nat) → Option α} {r : α} (k : E f r) : E (fun v => f (fun i => v (σ i))) r := by
  obtain ⟨K, k⟩ := k
  exact ⟨K, fun v hv => k _ fun i => hv (σ i)⟩
theorem E.one {f : Nat → Option α} {r : α} (k : E (fun v => f (v 0)) r) : ∃ n, f n = some r := by
  obtain ⟨K, k⟩ := k
  exact ⟨K, k (fun _ => K) fun _ => Nat.le_refl _⟩
theorem wrap_id {x : Int} (h1 : -9223372036854775808 ≤ x) (h2 : x ≤ 9223372036854775807) : wrap64 x = x := by unfold wrap64; omega
theorem wrap_nat {n : Nat} (h : n < 4611686018427387904) : wrap64 ((n : Int) + 1) = ((n + 1 : Nat) : Int) := by unfold wrap64; omega
theorem getD_mid {d : α} (pre post : List α) (x : α) : (pre ++ x :: post).getD pre.length d = x := by
  simp [List.getD_eq_getElem?_getD]
end Go.Refl.Math
end
section
set_option linter.unusedVariables false
namespace Go.Proofs.YtpgfkoeodhfkgaaDoorG
open Go Go.Refl Go.Refl.Math Go.RowKit
theorem inRange_E (n lo hi : Int) : E (fun k => spec_inRange (k 0) (n, lo, hi)) (decide (lo ≤ n) && decide (n ≤ hi)) :=
  E.congr (fun k => spec_inRange.eq (k 0) n lo hi) (E.ite (fun h => E.now' (by simp [h])) (fun h => E.now' (by simp [h])))
end Go.Proofs.YtpgfkoeodhfkgaaDoorG
end
section
set_option linter.unusedVariables false
namespace Go.Proofs.YtpgfkoeodhfkgaaDoorG
open Go Go.Refl Go.Refl.Math Go.RowKit
abbrev Ent := Int × Int × Int × Int
def vE (e : Ent) : Bool := decide (0 ≤ e.1 ∧ e.1 ≤ 999 ∧ (0 ≤ e.2.1 ∧ e.2.1 ≤ 7) ∧ (0 ≤ e.2.2.1 ∧ e.2.2.1 ≤ 7) ∧ e.2.1 ≠ e.2.2.1 ∧ 1 ≤ e.2.2.2 ∧ e.2.2.2 ≤ 1000000)
theorem vE_iff {e : Ent} : vE e = true ↔ 0 ≤ e.1 ∧ e.1 ≤ 999 ∧ (0 ≤ e.2.1 ∧ e.2.1 ≤ 7) ∧ (0 ≤ e.2.2.1 ∧ e.2.2.1 ≤ 7) ∧ e.2.1 ≠ e.2.2.1 ∧ 1 ≤ e.2.2.2 ∧ e.2.2.2 ≤ 1000000 := decide_eq_true_iff
def vEs (l : List Ent) : Bool := decide (l.length ≤ 40) && l.all vE
theorem vEs_iff {l : List Ent} : vEs l = true ↔ l.length ≤ 40 ∧ ∀ e ∈ l, vE e = true := by
  unfold vEs; rw [Bool.and_eq_true, decide_eq_true_iff, List.all_eq_true]
theorem specInR_E (n lo hi : Int) : E (fun k => spec_inRange (k 0) (n, lo, hi)) (decide (lo ≤ n ∧ n ≤ hi)) :=
  E.is (inRange_E n lo hi) (by rw [Bool.eq_iff_iff]; simp)
theorem specValidEntry_E (e : Ent) : E (fun k => spec_validEntry (k 0) e) (vE e) := by
  have no : ¬ (0 ≤ e.1 ∧ e.1 ≤ 999 ∧ (0 ≤ e.2.1 ∧ e.2.1 ≤ 7) ∧ (0 ≤ e.2.2.1 ∧ e.2.2.1 ≤ 7) ∧ e.2.1 ≠ e.2.2.1 ∧ 1 ≤ e.2.2.2 ∧ e.2.2.2 ≤ 1000000) → false = vE e := fun h => (decide_eq_false h).symm
  refine E.congr (fun k => spec_validEntry.eq (k 0) e) (E.bind (specInR_E ..) (E.ite (fun h1 => E.bind (specInR_E ..) (E.ite (fun h2 => E.bind (specInR_E ..) (E.ite (fun h3 => E.ite (fun h4 => E.now' (no ?_)) (fun h4 => E.bind (specInR_E ..) (E.now' ?_))) (fun h => E.now' (no ?_)))) (fun h => E.now' (no ?_)))) (fun h => E.now' (no ?_))))
  · exact fun g => g.2.2.2.2.1 h4
  · simp only [decide_eq_true_eq] at h1 h2 h3
    unfold vE
    rw [decide_eq_decide]
    omega
  · simp only [decide_eq_true_eq] at h; omega
  · simp only [decide_eq_true_eq] at h; omega
  · simp only [decide_eq_true_eq] at h; omega
theorem implAccount_E (x : Int) : E (fun k => impl_validAccount (k 0) x) (decide (0 ≤ x ∧ x ≤ 7)) :=
  E.congr (fun k => impl_validAccount.eq (k 0) x) (E.ite (fun h => E.now' (by rw [decide_eq_decide]; omega)) (fun h => E.now' (by symm; rw [decide_eq_false_iff_not]; omega)))
theorem implValidEntry_E (e : Ent) : E (fun k => impl_validEntry (k 0) e) (vE e) := by
  have no : ¬ (0 ≤ e.1 ∧ e.1 ≤ 999 ∧ (0 ≤ e.2.1 ∧ e.2.1 ≤ 7) ∧ (0 ≤ e.2.2.1 ∧ e.2.2.1 ≤ 7) ∧ e.2.1 ≠ e.2.2.1 ∧ 1 ≤ e.2.2.2 ∧ e.2.2.2 ≤ 1000000) → false = vE e := fun h => (decide_eq_false h).symm
  refine E.congr (fun k => impl_validEntry.eq (k 0) e) (E.ite (fun h => E.now' (no (by omega))) fun h1 => E.ite (fun h => E.now' (no (by omega))) fun h2 => E.ite (fun h => E.now' (no (by omega))) fun h3 => E.ite (fun h => E.now' (no (by omega))) fun h4 => E.bind (implAccount_E _) (E.ite (fun h5 => E.bind (implAccount_E _) (E.ite (fun h6 => E.now' ?_) (fun h => E.now' (no ?_)))) (fun h => E.now' (no ?_))))
  · simp only [decide_eq_true_eq] at h5 h6
    rw [Bool.eq_iff_iff, vE_iff]
    simp
    omega
  · simp only [decide_eq_true_eq] at h; omega
  · simp only [decide_eq_true_eq] at h; omega
theorem implValidEntries_l4 : ∀ (post pre : List Ent), (pre ++ post).length ≤ 1000000 →
    E (fun k => impl_ValidEntries.l4 (k 0) (k 1) (pre ++ post) ((pre ++ post).length : Int) (pre.length : Int)) (post.all vE)
  | [], pre, _ => by
    refine E.step 1 (fun v w h1 h2 => by rewrite [h1, h2 0 (by decide)]; exact impl_ValidEntries.l4_succ ..) ?_
    exact E.neg (by simp) (E.now _)
  | x :: post, pre, hl => by
    have hlen : (pre ++ x :: post).length = pre.length + (post.length + 1) := by simp
    have ih := implValidEntries_l4 post (pre ++ [x]) (by simpa using hl)
    rw [show (pre ++ [x]).length = pre.length + 1 from by simp, List.append_assoc] at ih
    refine E.step 1 (fun v w h1 h2 => by rewrite [h1, h2 0 (by decide)]; exact impl_ValidEntries.l4_succ ..) ?_
    simp only [Int.toNat_natCast, getD_mid]
    (repeat first | (with_reducible refine E.pos ?_ ?_; · omega) | (with_reducible refine E.neg ?_ ?_; · omega))
    refine E.bind (implValidEntry_E x) (E.ite (fun h => E.now' ?_) (fun h => ?_))
    · simp only [Bool.not_eq_true'] at h
      rw [List.all_cons, h, Bool.false_and]
    · simp only [Bool.not_eq_true', Bool.not_eq_false] at h
      rw [wrap_nat (by omega)]
      exact E.is ih (by rw [List.all_cons, h, Bool.true_and])
theorem implValidEntries_E (l : List Ent) : E (fun k => impl_ValidEntries (k 0) l) (vEs l) := by
  refine E.congr (fun k => impl_ValidEntries.eq (k 0) l) (E.ite (fun h => E.now' ?_) (fun h => ?_))
  · unfold vEs; rw [decide_eq_false (by omega), Bool.false_and]
  · refine E.is (E.ren (fun _ => 0) (implValidEntries_l4 l [] (by simp; omega))) ?_
    unfold vEs; rw [decide_eq_true (by omega), Bool.true_and]
theorem specValidEntries_l2 : ∀ (post pre : List Ent), (pre ++ post).length < 4611686018427387904 →
    E (fun k => spec_validEntries.l2 (k 0) (k 1) (pre ++ post) (pre.length : Int)) (decide ((pre ++ post).length ≤ 40) && post.all vE)
  | [], pre, _ => by
    refine E.step 1 (fun v w h1 h2 => by rewrite [h1, h2 0 (by decide)]; exact spec_validEntries.l2_succ ..) ?_
    exact E.neg (by simp) (E.now' (by simp; omega))
  | x :: post, pre, hl => by
    have hlen : (pre ++ x :: post).length = pre.length + (post.length + 1) := by simp
    have ih := specValidEntries_l2 post (pre ++ [x]) (by simpa using hl)
    rw [show (pre ++ [x]).length = pre.length + 1 from by simp, List.append_assoc] at ih
    refine E.step 1 (fun v w h1 h2 => by rewrite [h1, h2 0 (by decide)]; exact spec_validEntries.l2_succ ..) ?_
    simp only [Int.toNat_natCast, getD_mid]
    (repeat first | (with_reducible refine E.pos ?_ ?_; · omega) | (with_reducible refine E.neg ?_ ?_; · omega))
    refine E.bind (specValidEntry_E x) (E.ite (fun h => E.now' ?_) (fun h => ?_))
    · simp only [Bool.not_eq_true'] at h
      rw [List.all_cons, h, Bool.false_and, Bool.and_false]
    · simp only [Bool.not_eq_true', Bool.not_eq_false] at h
      rw [wrap_nat (by omega)]
      exact E.is ih (by rw [List.all_cons, h, Bool.true_and]; simp)
theorem specValidEntries_E (l : List Ent) (hl : l.length < 4611686018427387904) : E (fun k => spec_validEntries (k 0) l) (vEs l) :=
  E.congr (fun k => spec_validEntries.eq (k 0) l) (E.ren (fun _ => 0) (specValidEntries_l2 l [] (by simpa using hl)))
end Go.Proofs.YtpgfkoeodhfkgaaDoorG
end
section
set_option linter.unusedVariables false
namespace Go.Proofs.YtpgfkoeodhfkgaaDoorG
open Go Go.Refl Go.Refl.Math Go.RowKit
abbrev zE : Ent := (0, 0, 0, 0)
end Go.Proofs.YtpgfkoeodhfkgaaDoorG
end
section
set_option linter.unusedVariables false
namespace Go.Proofs.YtpgfkoeodhfkgaaDoorG
open Go Go.Refl Go.Refl.Math Go.RowKit
def AmtOk (l : List Ent) : Prop := ∀ e ∈ l, 0 ≤ e.2.2.2 ∧ e.2.2.2 < 10000000
end Go.Proofs.YtpgfkoeodhfkgaaDoorG
end
section
set_option linter.unusedVariables false
namespace Go.Proofs.YtpgfkoeodhfkgaaDoorG
open Go Go.Refl Go.Refl.Math Go.RowKit
theorem AmtOk.one {e : Ent} (h : 0 ≤ e.2.2.2 ∧ e.2.2.2 < 10000000) : AmtOk [e] := fun x hx => by
  simp at hx; subst hx; exact h
theorem AmtOk.set {l : List Ent} (h : AmtOk l) (i : Nat) (x : Ent) (hx : 0 ≤ x.2.2.2 ∧ x.2.2.2 < 10000000) : AmtOk (l.set i x) := fun e he => by
  rcases List.mem_or_eq_of_mem_set he with h1 | h1
  · exact h e h1
  · rw [h1]; exact hx
end Go.Proofs.YtpgfkoeodhfkgaaDoorG
end
section
set_option linter.unusedVariables false
namespace Go.Proofs.YtpgfkoeodhfkgaaDoorG
open Go Go.Refl Go.Refl.Math Go.RowKit
theorem sz_E (l : List Ent) (left : Int) (h1 : -9223372036854775808 ≤ left - (l.length : Int)) (h2 : left ≤ 9000000000000000000) : E (fun k => laws_szEntryS (k 0) (l, left)) (if left - (l.length : Int) < 0 then -1 else left - (l.length : Int)) := by
  refine E.congr (fun k => laws_szEntryS.eq (k 0) l left) ?_
  rw [wrap_id (x := left - (l.length : Int)) (by omega) (by omega)]
  refine E.ite (fun h => E.now' (by rw [if_pos h])) (fun h => E.now' (by rw [if_neg h]))
theorem toEnt_E (e : Ent) : E (fun k => laws_toEntry (k 0) e) e := E.congr (fun k => laws_toEntry.eq (k 0) e) (E.now _)
theorem toEnts_l3 : ∀ (post pre : List Ent) (m : Nat), post.length = m → (pre ++ post).length < 1000000000 →
    E (fun k => laws_toEntryS.l3 (k 0) (k 1) (pre ++ post) (pre.length : Int) (pre ++ List.replicate m zE)) (pre ++ post)
  | [], pre, m, hm, hl => by
    have hm0 : m = 0 := by simpa using hm.symm
    subst hm0
    refine E.step 1 (fun v w h1 h2 => by rewrite [h1, h2 0 (by decide)]; exact laws_toEntryS.l3_succ ..) ?_
    exact E.neg (by simp) (E.now' (by simp))
  | x :: post, pre, 0, hm, hl => by simp at hm
  | x :: post, pre, m + 1, hm, hl => by
    have hlen : (pre ++ x :: post).length = pre.length + (post.length + 1) := by simp
    have ih := toEnts_l3 post (pre ++ [x]) m (by simpa using hm) (by simpa using hl)
    rw [show (pre ++ [x]).length = pre.length + 1 from by simp, List.append_assoc] at ih
    have hlr : (pre ++ List.replicate (m + 1) zE).length = pre.length + (m + 1) := by simp
    have hset : (pre ++ List.replicate (m + 1) zE).set pre.length x = (pre ++ [x]) ++ List.replicate m zE := by rw [List.replicate_succ]; simp
    refine E.step 1 (fun v w h1 h2 => by rewrite [h1, h2 0 (by decide)]; exact laws_toEntryS.l3_succ ..) ?_
    simp only [Int.toNat_natCast, getD_mid]
    rw [wrap_nat (by omega)]
    exact E.pos (by omega) (E.pos (by omega) (E.pos (by omega) (E.bind (toEnt_E x) (E.pos (by omega) (E.pos (by omega) (by rw [hset]; simpa using ih))))))
theorem toEnts_E (l : List Ent) (hl : l.length < 1000000000) : E (fun k => laws_toEntryS (k 0) l) l := by
  have := toEnts_l3 l [] l.length rfl (by simpa using hl)
  refine E.congr (fun k => laws_toEntryS.eq (k 0) l) (E.pos (by omega) (E.pos (by omega) (E.pos (by simp [maxN]; omega) ?_)))
  rw [Int.toNat_natCast]
  exact E.ren (fun _ => 0) this
theorem eqEnt_E (a b : Ent) : E (fun k => laws_eqEntry (k 0) (a, b)) (decide (a = b)) := by
  obtain ⟨a1, a2, a3, a4⟩ := a
  obtain ⟨b1, b2, b3, b4⟩ := b
  refine E.congr (fun k => laws_eqEntry.eq (k 0) ..) ?_
  refine E.ite (fun h1 => E.ite (fun h2 => E.ite (fun h3 => E.ite (fun h4 => E.now' ?_) (fun h4 => E.now' ?_)) (fun h3 => E.now' ?_)) (fun h2 => E.now' ?_)) (fun h1 => E.now' ?_)
  all_goals (rw [Bool.eq_iff_iff]; simp only [decide_eq_true_eq, Prod.mk.injEq] at *; simp_all)
theorem eqEnts_l4 : ∀ (post post2 pre pre2 : List Ent), (pre ++ post).length < 1000000000 → pre.length = pre2.length → post.length = post2.length → pre = pre2 →
    E (fun k => laws_eqEntryS.l4 (k 0) (k 1) (pre ++ post) (pre2 ++ post2) (pre.length : Int)) (decide (pre ++ post = pre2 ++ post2))
  | [], [], pre, pre2, hl, h1, h2, h3 => by
    refine E.step 1 (fun v w h1 h2 => by rewrite [h1, h2 0 (by decide)]; exact laws_eqEntryS.l4_succ ..) ?_
    exact E.neg (by simp) (E.now' (by simp [h3]))
  | x :: post, [], pre, pre2, hl, h1, h2, h3 => by simp at h2
  | [], y :: post2, pre, pre2, hl, h1, h2, h3 => by simp at h2
  | x :: post, y :: post2, pre, pre2, hl, h1, h2, h3 => by
    subst h3
    have hlen : (pre ++ x :: post).length = pre.length + (post.length + 1) := by simp
    have hlen2 : (pre ++ y :: post2).length = pre.length + (post2.length + 1) := by simp
    refine E.step 1 (fun v w h1 h2 => by rewrite [h1, h2 0 (by decide)]; exact laws_eqEntryS.l4_succ ..) ?_
    simp only [Int.toNat_natCast, getD_mid]
    rw [wrap_nat (by omega)]
    refine E.pos (by omega) (E.pos (by omega) (E.pos (by omega) (E.pos (by omega) (E.pos (by omega) (E.bind (eqEnt_E x y) ?_)))))
    by_cases hxy : x = y
    · subst hxy
      have ih := eqEnts_l4 post post2 (pre ++ [x]) (pre ++ [x]) (by simpa using hl) rfl (by simpa using h2) rfl
      rw [show (pre ++ [x]).length = pre.length + 1 from by simp] at ih
      refine E.neg (by simp) ?_
      simpa using ih
    · exact E.pos (by simp [hxy]) (E.now' (by simp [hxy]))
theorem eqEnts_E (a b : List Ent) (hl : a.length < 1000000000) : E (fun k => laws_eqEntryS (k 0) (a, b)) (decide (a = b)) := by
  refine E.congr (fun k => laws_eqEntryS.eq (k 0) a b) (E.ite (fun h => ?_) (fun h => E.now' ?_))
  · exact E.ren (fun _ => 0) (eqEnts_l4 a b [] [] (by simpa using hl) rfl (by omega) rfl)
  · have : a ≠ b := fun e => h (by rw [e])
    simp [this]
end Go.Proofs.YtpgfkoeodhfkgaaDoorG
end
section
set_option linter.unusedVariables false
namespace Go.Proofs.YtpgfkoeodhfkgaaDoorG
open Go Go.Refl Go.Refl.Math Go.RowKit
def decT (n : Nat) : ByteArray := ⟨(Go.Lib.decDigits n).toArray⟩
theorem decT_lt {n : Nat} (h : n < 10) : decT n = ⟨#[UInt8.ofNat (48 + n)]⟩ := by unfold decT; rw [Go.Lib.decDigits, dif_pos h]
theorem decT_ge {n : Nat} (h : ¬ n < 10) : decT n = decT (n / 10) ++ decT (n % 10) := by
  rw [decT_lt (n := n % 10) (by omega)]
  unfold decT
  rw [Go.Lib.decDigits, dif_neg h]
  apply ByteArray.ext
  rw [ByteArray.data_append]
  simp
theorem decT_one {n : Nat} (h : n < 10) : (decT n).size = 1 := by rw [decT_lt h]; rfl
theorem decT_size : ∀ (k n : Nat), n ≤ k → (decT n).size ≤ n + 1
  | 0, n, h => by rw [decT_one (by omega)]; omega
  | k + 1, n, h => by
    by_cases h1 : n < 10
    · rw [decT_one h1]; omega
    · have ih := decT_size k (n / 10) (by omega)
      rw [decT_ge h1, ByteArray.size_append, decT_one (n := n % 10) (by omega)]
      omega
theorem decT_sz (n : Nat) : (decT n).size ≤ n + 1 := decT_size n n (Nat.le_refl n)
theorem decT_two {n : Nat} (h : 10 ≤ n) : 2 ≤ (decT n).size := by
  rw [decT_ge (by omega), ByteArray.size_append, decT_one (n := n % 10) (by omega)]
  have : 1 ≤ (decT (n / 10)).size := by
    by_cases h1 : n / 10 < 10
    · rw [decT_one h1]; omega
    · rw [decT_ge h1, ByteArray.size_append, decT_one (n := n / 10 % 10) (by omega)]; omega
  omega
theorem digit_text : ∀ n : Nat, n < 10 → ByteArray.extract { data := #[(48 : UInt8), (49 : UInt8), (50 : UInt8), (51 : UInt8), (52 : UInt8), (53 : UInt8), (54 : UInt8), (55 : UInt8), (56 : UInt8), (57 : UInt8)] } n (n + 1) = ⟨#[UInt8.ofNat (48 + n)]⟩ := by
  intro n hn
  have : n = 0 ∨ n = 1 ∨ n = 2 ∨ n = 3 ∨ n = 4 ∨ n = 5 ∨ n = 6 ∨ n = 7 ∨ n = 8 ∨ n = 9 := by omega
  rcases this with rfl | rfl | rfl | rfl | rfl | rfl | rfl | rfl | rfl | rfl <;> decide
theorem specNum_k : ∀ (k x : Nat), x ≤ k → x ≤ 10000000 → ∀ n, k < n → spec_number n (x : Int) = some (decT x)
  | k, x, hx, hb, 0, hn => by omega
  | k, x, hx, hb, n + 1, hn => by
    rw [spec_number.succ, spec_number.eq]
    by_cases h : x < 10
    · rw [if_pos (by omega), if_pos (by omega), wrap_id (x := (x : Int) + 1) (by omega) (by omega), if_pos (by omega), if_pos (by
        have : ((ByteArray.size { data := #[(48 : UInt8), (49 : UInt8), (50 : UInt8), (51 : UInt8), (52 : UInt8), (53 : UInt8), (54 : UInt8), (55 : UInt8), (56 : UInt8), (57 : UInt8)] } : Nat) : Int) = 10 := rfl
        rw [this]; omega)]
      rw [show Int.toNat ((x : Int) + 1) = x + 1 by omega, Int.toNat_natCast, digit_text x h, decT_lt h]
    · match k, hx, hn with
      | 0, hx, hn => omega
      | k + 1, hx, hn =>
        rw [if_neg (by omega), Int.tdiv_eq_ediv_of_nonneg (by omega), Int.tmod_eq_emod_of_nonneg (by omega), wrap_id (by omega) (by omega)]
        rw [show (x : Int) / 10 = ((x / 10 : Nat) : Int) by omega, show (x : Int) % 10 = ((x % 10 : Nat) : Int) by omega]
        rw [specNum_k k (x / 10) (by omega) (by omega) n (by omega), specNum_k k (x % 10) (by omega) (by omega) n (by omega)]
        have s1 := decT_sz (x / 10)
        have s2 := decT_sz (x % 10)
        simp only [Option.bind_some]
        rw [if_pos (by simp only [maxN]; omega), ← decT_ge h]
theorem specNum_E {x : Int} (h0 : 0 ≤ x) (h1 : x ≤ 10000000) : E (fun k => spec_number (k 0) x) (decT x.toNat) := by
  obtain ⟨a, rfl⟩ := Int.eq_ofNat_of_zero_le h0
  refine ⟨a + 1, fun v hv => ?_⟩
  show spec_number (v 0) (a : Int) = _
  rw [specNum_k a a (Nat.le_refl a) (by omega) _ (by have := hv 0; omega), Int.toNat_natCast]
theorem itoa_E {x : Int} (h0 : 0 ≤ x) (h1 : x ≤ 10000000) : E (fun k => strconv_Itoa (k 0) x) (decT x.toNat) := by
  refine E.congr (fun k => ?_) (E.now _)
  show itRun x = _
  unfold itRun
  rw [decide_eq_true (by omega), decide_eq_true (by omega)]
  show some _ = some _
  unfold decT Go.Lib.itoa
  rw [if_neg (by omega)]
def spT : ByteArray := { data := #[(32 : UInt8)] }
def dotT : ByteArray := { data := #[(46 : UInt8)] }
def nlT : ByteArray := { data := #[(10 : UInt8)] }
def zT : ByteArray := { data := #[(48 : UInt8)] }
theorem spT_size : spT.size = 1 := rfl
theorem dotT_size : dotT.size = 1 := rfl
theorem nlT_size : nlT.size = 1 := rfl
def monT (x : Nat) : ByteArray := decT (x / 100) ++ dotT ++ decT (x / 10 % 10) ++ decT (x % 10)
theorem monT_size (x : Nat) : (monT x).size ≤ x / 100 + 4 := by
  unfold monT
  rw [ByteArray.size_append, ByteArray.size_append, ByteArray.size_append, decT_one (n := x / 10 % 10) (by omega), decT_one (n := x % 10) (by omega), dotT_size]
  have := decT_sz (x / 100)
  omega
theorem showMoney_E {x : Int} (h0 : 0 ≤ x) (h1 : x ≤ 1000000) : E (fun k => impl_ShowMoney (k 0) x) (monT x.toNat) := by
  obtain ⟨a, rfl⟩ := Int.eq_ofNat_of_zero_le h0
  rw [Int.toNat_natCast]
  have e1 : Int.tmod (a : Int) 100 = ((a % 100 : Nat) : Int) := by rw [Int.tmod_eq_emod_of_nonneg (by omega)]; omega
  have e2 : wrap64 (Int.tdiv (a : Int) 100) = ((a / 100 : Nat) : Int) := by rw [Int.tdiv_eq_ediv_of_nonneg (by omega), wrap_id (by omega) (by omega)]; omega
  have i1 : E (fun k => strconv_Itoa (k 0) (Int.tmod (a : Int) 100)) (decT (a % 100)) := by rw [e1]; exact itoa_E (by omega) (by omega)
  have i2 : E (fun k => strconv_Itoa (k 0) (wrap64 (Int.tdiv (a : Int) 100))) (decT (a / 100)) := by rw [e2]; exact itoa_E (by omega) (by omega)
  have s1 := decT_sz (a / 100)
  have s2 := decT_sz (a % 100)
  refine E.congr (fun k => impl_ShowMoney.eq (k 0) _) (E.neg (by omega) (E.neg (by omega) (E.bind i1 ?_)))
  by_cases h : a % 100 < 10
  · have s3 := decT_one h
    refine E.pos (by omega) (E.pos (by rw [s3]; exact (by decide)) (E.bind i2 (E.pos (by show _ + 1 ≤ maxN; simp only [maxN]; omega) (E.pos ?_ (E.now' ?_)))))
    · rw [ByteArray.size_append, ByteArray.size_append, s3]; show _ + 1 + (1 + 1) ≤ maxN; simp only [maxN]; omega
    · show decT (a / 100) ++ dotT ++ (zT ++ decT (a % 100)) = _
      unfold monT
      rw [show a % 100 = a % 10 by omega, show a / 10 % 10 = 0 by omega, show decT 0 = zT from decT_lt (by omega), ← ByteArray.append_assoc]
  · have s3 := decT_two (n := a % 100) (by omega)
    refine E.neg (by omega) (E.bind i2 (E.pos (by show _ + 1 ≤ maxN; simp only [maxN]; omega) (E.pos ?_ (E.now' ?_))))
    · rw [ByteArray.size_append]; show _ + 1 + _ ≤ maxN; simp only [maxN]; omega
    · show decT (a / 100) ++ dotT ++ decT (a % 100) = _
      unfold monT
      rw [decT_ge (n := a % 100) h, show a % 100 / 10 = a / 10 % 10 by omega, show a % 100 % 10 = a % 10 by omega, ← ByteArray.append_assoc]
def entT (e : Ent) : ByteArray := decT e.1.toNat ++ spT ++ decT e.2.1.toNat ++ spT ++ decT e.2.2.1.toNat ++ spT ++ decT (e.2.2.2.toNat / 100) ++ dotT ++ decT (e.2.2.2.toNat / 10 % 10) ++ decT (e.2.2.2.toNat % 10)
theorem entT_eq (e : Ent) : entT e = decT e.1.toNat ++ spT ++ (decT e.2.1.toNat ++ spT) ++ (decT e.2.2.1.toNat ++ spT) ++ monT e.2.2.2.toNat := by
  unfold entT monT
  simp only [ByteArray.append_assoc]
theorem entT_size {e : Ent} (h : vE e = true) : (entT e).size ≤ 20000 := by
  rw [vE_iff] at h
  rw [entT_eq]
  simp only [ByteArray.size_append, spT_size]
  have s1 := decT_sz e.1.toNat
  have s2 := decT_sz e.2.1.toNat
  have s3 := decT_sz e.2.2.1.toNat
  have s4 := monT_size e.2.2.2.toNat
  omega
theorem showEntry_E {e : Ent} (h : vE e = true) : E (fun k => spec_showEntry (k 0) e) (entT e) := by
  rw [vE_iff] at h
  obtain ⟨d, a, b, x⟩ := e
  simp only at h
  obtain ⟨x, rfl⟩ := Int.eq_ofNat_of_zero_le (show 0 ≤ x by omega)
  have e1 : wrap64 (Int.tdiv (x : Int) 100) = ((x / 100 : Nat) : Int) := by rw [Int.tdiv_eq_ediv_of_nonneg (by omega), wrap_id (by omega) (by omega)]; omega
  have e2 : Int.tmod (wrap64 (Int.tdiv (x : Int) 10)) 10 = ((x / 10 % 10 : Nat) : Int) := by rw [Int.tdiv_eq_ediv_of_nonneg (by omega), wrap_id (by omega) (by omega), Int.tmod_eq_emod_of_nonneg (by omega)]; omega
  have e3 : Int.tmod (x : Int) 10 = ((x % 10 : Nat) : Int) := by rw [Int.tmod_eq_emod_of_nonneg (by omega)]; omega
  have s1 := decT_sz d.toNat
  have s2 := decT_sz a.toNat
  have s3 := decT_sz b.toNat
  have s4 := decT_sz (x / 100)
  have s5 := decT_sz (x / 10 % 10)
  have s6 := decT_sz (x % 10)
  have n4 : E (fun k => spec_number (k 0) (wrap64 (Int.tdiv (x : Int) 100))) (decT (x / 100)) := by rw [e1]; exact specNum_E (by omega) (by omega)
  have n5 : E (fun k => spec_number (k 0) (Int.tmod (wrap64 (Int.tdiv (x : Int) 10)) 10)) (decT (x / 10 % 10)) := by rw [e2]; exact specNum_E (by omega) (by omega)
  have n6 : E (fun k => spec_number (k 0) (Int.tmod (x : Int) 10)) (decT (x % 10)) := by rw [e3]; exact specNum_E (by omega) (by omega)
  have q1 : ByteArray.size { data := #[(32 : UInt8)] } = 1 := rfl
  have q2 : ByteArray.size { data := #[(46 : UInt8)] } = 1 := rfl
  have bd : ∀ n : Nat, n ≤ 100000 → n ≤ maxN := fun n h => by simp only [maxN]; omega
  refine E.congr (fun k => spec_showEntry.eq (k 0) _) ?_
  simp only [ByteArray.size_append, q1, q2]
  refine E.bind (specNum_E (by omega) (by omega)) (E.pos (bd _ (by omega)) (E.bind (specNum_E (by omega) (by omega)) (E.pos (bd _ (by omega)) (E.pos (bd _ (by omega)) (E.bind (specNum_E (by omega) (by omega)) (E.pos (bd _ (by omega)) (E.pos (bd _ (by omega)) ?_)))))))
  refine E.bind n4 (E.pos (bd _ (by omega)) (E.pos (bd _ (by omega)) (E.bind n5 (E.pos (bd _ (by omega)) (E.bind n6 (E.pos (bd _ (by omega)) (E.now' ?_)))))))
  unfold entT
  simp only [Int.toNat_natCast]
  rfl
def booT : List Ent → ByteArray
  | [] => ByteArray.empty
  | e :: es => entT e ++ nlT ++ booT es
theorem booT_size : ∀ {es : List Ent}, (∀ e ∈ es, vE e = true) → (booT es).size ≤ es.length * 30000
  | [], _ => by show 0 ≤ _; omega
  | e :: es, h => by
    have ih := booT_size (es := es) (fun x hx => h x (List.mem_cons_of_mem _ hx))
    have h1 := entT_size (h e (List.mem_cons_self ..))
    simp only [booT, ByteArray.size_append, nlT_size, List.length_cons]
    omega
theorem specFmt_l5 : ∀ (post pre : List Ent) (acc : ByteArray), (∀ e ∈ post, vE e = true) → (pre ++ post).length ≤ 1000 → acc.size ≤ 1000000000 →
    (acc.size + (booT post).size ≤ 1000000000) → E (fun k => spec_FormatEntries.l5 (k 0) (k 1) (pre ++ post) acc (pre.length : Int)) (acc ++ booT post)
  | [], pre, acc, _, hl, _, _ => by
    refine E.step 1 (fun v w h1 h2 => by rewrite [h1, h2 0 (by decide)]; exact spec_FormatEntries.l5_succ ..) ?_
    exact E.neg (by simp) (E.now' (by rw [booT, ByteArray.append_empty]))
  | e :: post, pre, acc, hv, hl, hs, ht => by
    have hlen : (pre ++ e :: post).length = pre.length + (post.length + 1) := by simp
    have h1 := entT_size (hv e (List.mem_cons_self ..))
    have ht2 := ht
    simp only [booT, ByteArray.size_append, nlT_size] at ht2
    have ih := specFmt_l5 post (pre ++ [e]) (acc ++ entT e ++ nlT) (fun x hx => hv x (List.mem_cons_of_mem _ hx)) (by simpa using hl) (by simp only [ByteArray.size_append, nlT_size]; omega) (by simp only [ByteArray.size_append, nlT_size]; omega)
    rw [show (pre ++ [e]).length = pre.length + 1 from by simp, List.append_assoc] at ih
    have q1 : ByteArray.size { data := #[(10 : UInt8)] } = 1 := rfl
    refine E.step 1 (fun v w h1 h2 => by rewrite [h1, h2 0 (by decide)]; exact spec_FormatEntries.l5_succ ..) ?_
    simp only [Int.toNat_natCast, getD_mid, ByteArray.size_append, q1]
    rw [wrap_nat (by omega)]
    refine E.pos (by omega) (E.pos (by omega) (E.pos (by omega) (E.bind (showEntry_E (hv e (List.mem_cons_self ..))) (E.pos (by simp only [maxN]; omega) (E.pos (by simp only [maxN]; omega) ?_)))))
    refine E.is ih ?_
    rw [booT]
    simp only [ByteArray.append_assoc]
theorem specFmt_E (l : List Ent) (hl : l.length < 1000000000) : E (fun k => spec_FormatEntries (k 0) l) (if vEs l = true then booT l else ByteArray.empty) := by
  refine E.congr (fun k => spec_FormatEntries.eq (k 0) l) (E.bind (specValidEntries_E l (by omega)) (E.ite (fun h => E.now' ?_) (fun h => ?_)))
  · rw [if_neg (by simpa using h)]; rfl
  · have hv : vEs l = true := by simpa using h
    rw [if_pos hv]
    rw [vEs_iff] at hv
    have hb := booT_size hv.2
    have h0 : ByteArray.size { data := #[] } = 0 := rfl
    refine E.is (E.ren (fun _ => 0) (specFmt_l5 l [] { data := #[] } hv.2 (by simp; omega) (by rw [h0]; omega) (by rw [h0]; omega))) ?_
    exact ByteArray.empty_append
theorem bytesI_append (a b : ByteArray) : bytesI (a ++ b) = bytesI a ++ bytesI b := by
  unfold bytesI
  rw [ByteArray.data_append]
  simp
theorem bytesI_len (s : ByteArray) : (bytesI s).length = s.size := by unfold bytesI; rw [List.length_map, Array.length_toList]; rfl
theorem bytesI_byte (s : ByteArray) : (bytesI s).all isByte = true := by
  rw [List.all_eq_true]
  intro c hc
  unfold bytesI at hc
  obtain ⟨b, _, rfl⟩ := List.mem_map.1 hc
  have := UInt8.toNat_lt b
  unfold isByte
  rw [Bool.and_eq_true, decide_eq_true_eq, decide_eq_true_eq]
  omega
theorem ofBytes_bytesI (s : ByteArray) : ofBytes (bytesI s) = s := by
  apply ByteArray.ext
  unfold ofBytes bytesI
  simp [Function.comp_def]
theorem write_E {r : List Int} {s : ByteArray} (h : r.length + s.size ≤ 1000000000000) : E (fun k => strings_Builder_WriteString (k 0) (r, s)) ((s.size : Int), false, r ++ bytesI s) := by
  refine E.congr (fun k => ?_) (E.now _)
  show wsRun (r, s) = _
  unfold wsRun
  rw [Nat.ble_eq_true_of_le (by simp only [maxN]; omega)]
  rfl
theorem string_E (s : ByteArray) : E (fun k => strings_Builder_String (k 0) (bytesI s)) s := by
  refine E.congr (fun k => ?_) (E.now _)
  show stRun (bytesI s) = _
  unfold stRun
  rw [bytesI_byte, ofBytes_bytesI]
  rfl
def itT : List Int → ByteArray
  | [] => ByteArray.empty
  | x :: xs => decT x.toNat ++ spT ++ itT xs
theorem implFmt_l8 {x11 : List Ent} {x12 x13 a b c d : Int} {R : ByteArray} (h0 : 0 ≤ d) (h1 : d ≤ 1000000) : ∀ (post pre : List Int) (acc : ByteArray), (∀ x ∈ post, 0 ≤ x ∧ x ≤ 999) → (pre ++ post).length ≤ 10 → acc.size + (itT post).size ≤ 1000000000 →
    E (fun k => impl_FormatEntries.l5 (k 0) (k 1) x11 x12 (wrap64 (x13 + 1)) (bytesI (acc ++ itT post ++ (monT d.toNat ++ nlT)))) R →
    E (fun k => impl_FormatEntries.l8 (k 0) (k 1) (k 2) x11 x12 x13 (pre ++ post) ((pre ++ post).length : Int) (pre.length : Int) a b c d (bytesI acc)) R
  | [], pre, acc, hv, hl, hs, hk => by
    have s4 := monT_size d.toNat
    have q1 : ByteArray.size { data := #[(10 : UInt8)] } = 1 := rfl
    have q2 : (itT []).size = 0 := rfl
    rw [itT, ByteArray.append_empty, bytesI_append] at hk
    refine E.step 2 (fun v w h1 h2 => by rewrite [h1, h2 0 (by decide), h2 1 (by decide)]; exact impl_FormatEntries.l8_succ ..) ?_
    refine E.neg (by simp) (E.bind (showMoney_E h0 h1) (E.pos (by rw [q1]; simp only [maxN]; omega) (E.bind (write_E (by rw [bytesI_len, ByteArray.size_append, q1]; omega)) ?_)))
    exact hk
  | x :: post, pre, acc, hv, hl, hs, hk => by
    have hx := hv x (List.mem_cons_self ..)
    have hlen : (pre ++ x :: post).length = pre.length + (post.length + 1) := by simp
    have s1 := decT_sz x.toNat
    have q1 : ByteArray.size { data := #[(32 : UInt8)] } = 1 := rfl
    have hs2 := hs
    simp only [itT, ByteArray.size_append, spT_size] at hs2
    have ih := implFmt_l8 (x11 := x11) (x12 := x12) (x13 := x13) (a := a) (b := b) (c := c) (R := R) h0 h1 post (pre ++ [x]) (acc ++ (decT x.toNat ++ spT)) (fun y hy => hv y (List.mem_cons_of_mem _ hy)) (by simpa using hl) (by simp only [ByteArray.size_append, spT_size]; omega) (by
      refine E.is (E.congr (fun k => ?_) hk) rfl
      rw [itT]
      simp only [ByteArray.append_assoc])
    rw [show (pre ++ [x]).length = pre.length + 1 from by simp, List.append_assoc, bytesI_append] at ih
    refine E.step 2 (fun v w h1 h2 => by rewrite [h1, h2 0 (by decide), h2 1 (by decide)]; exact impl_FormatEntries.l8_succ ..) ?_
    simp only [Int.toNat_natCast, getD_mid]
    rw [wrap_nat (by omega)]
    refine E.pos (by omega) (E.pos (by omega) (E.pos (by omega) (E.bind (itoa_E hx.1 (by omega)) (E.pos (by rw [q1]; simp only [maxN]; omega) (E.bind (write_E (by rw [bytesI_len, ByteArray.size_append, q1]; omega)) ?_)))))
    exact ih
theorem implFmt_l5 : ∀ (post pre : List Ent) (acc : ByteArray), (∀ e ∈ post, vE e = true) → (pre ++ post).length ≤ 1000 → acc.size + (booT post).size ≤ 1000000000 →
    E (fun k => impl_FormatEntries.l5 (k 0) (k 1) (pre ++ post) ((pre ++ post).length : Int) (pre.length : Int) (bytesI acc)) (acc ++ booT post)
  | [], pre, acc, _, hl, _ => by
    refine E.step 1 (fun v w h1 h2 => by rewrite [h1, h2 0 (by decide)]; exact impl_FormatEntries.l5_succ ..) ?_
    exact E.neg (by simp) (E.bind (string_E acc) (E.now' (by rw [booT, ByteArray.append_empty])))
  | e :: post, pre, acc, hv, hl, hs => by
    have hlen : (pre ++ e :: post).length = pre.length + (post.length + 1) := by simp
    have he := vE_iff.1 (hv e (List.mem_cons_self ..))
    have hs2 := hs
    simp only [booT, ByteArray.size_append, nlT_size] at hs2
    have ih := implFmt_l5 post (pre ++ [e]) (acc ++ entT e ++ nlT) (fun x hx => hv x (List.mem_cons_of_mem _ hx)) (by simpa using hl) (by simp only [ByteArray.size_append, nlT_size]; omega)
    rw [show (pre ++ [e]).length = pre.length + 1 from by simp, List.append_assoc] at ih
    have hsz : (itT [e.1, e.2.1, e.2.2.1]).size ≤ (entT e).size := by
      rw [entT_eq]
      simp only [itT, ByteArray.size_append, spT_size, ByteArray.size_empty]
      omega
    have hk := implFmt_l8 (x11 := pre ++ e :: post) (x12 := ((pre ++ e :: post).length : Int)) (x13 := (pre.length : Int)) (a := e.1) (b := e.2.1) (c := e.2.2.1) (d := e.2.2.2) (R := acc ++ booT (e :: post)) (by omega) (by omega) [e.1, e.2.1, e.2.2.1] [] acc (by
      intro x hx
      simp only [List.mem_cons, List.not_mem_nil, or_false] at hx
      rcases hx with rfl | rfl | rfl <;> omega) (by simp) (by omega) (by
      rw [wrap_nat (by omega)]
      refine E.is (E.congr (fun k => ?_) ih) ?_
      · congr 1
        rw [entT_eq]
        simp only [itT, ByteArray.append_assoc, ByteArray.append_empty]
      · rw [booT]
        simp only [ByteArray.append_assoc])
    refine E.step 1 (fun v w h1 h2 => by rewrite [h1, h2 0 (by decide)]; exact impl_FormatEntries.l5_succ ..) ?_
    simp only [Int.toNat_natCast, getD_mid]
    refine E.pos (by omega) (E.pos (by omega) (E.pos (by omega) ?_))
    exact E.ren (fun i => if i = 2 then 0 else i) hk
theorem implFmt_E (l : List Ent) (hl : l.length < 1000000000) : E (fun k => impl_FormatEntries (k 0) l) (if vEs l = true then booT l else ByteArray.empty) := by
  refine E.congr (fun k => impl_FormatEntries.eq (k 0) l) (E.bind (implValidEntries_E l) (E.ite (fun h => E.now' ?_) (fun h => ?_)))
  · rw [if_neg (by simpa using h)]; rfl
  · have hv : vEs l = true := by simpa using h
    rw [if_pos hv]
    rw [vEs_iff] at hv
    have hb := booT_size hv.2
    have h0 : ByteArray.size ByteArray.empty = 0 := rfl
    refine E.is (E.ren (fun _ => 0) (implFmt_l5 l [] ByteArray.empty hv.2 (by simp; omega) (by rw [h0]; omega))) ?_
    exact ByteArray.empty_append
theorem FnExactFormatEntries_pure (l : List Ent) (hw : WfT (.slice (.pair (.int .i64) (.pair (.int .i64) (.pair (.int .i64) (.int .i64))))) l) : ∃ n, laws_FnExactFormatEntries n l = some true := by
  have hml := hw.1
  have hm63 : (l.length : Int) ≤ 9223372036854775807 := by unfold maxLen at hml; omega
  refine E.one (E.congr (fun k => laws_FnExactFormatEntries.eq (k 0) l) (E.bind (sz_E l 1048576 (by omega) (by omega)) (E.ite (fun h => E.now _) (fun h => ?_))))
  have hl : l.length ≤ 1048576 := by
    by_cases q : (1048576 : Int) - (l.length : Int) < 0
    · rw [if_pos q] at h; exact absurd (show (-1 : Int) < 0 by decide) h
    · omega
  have to := toEnts_E l (by omega)
  have e2 := eqEnts_E l l (by omega)
  rw [show decide (l = l) = true by simp] at e2
  exact E.bind to (E.bind (specFmt_E l (by omega)) (E.bind to (E.bind (implFmt_E l (by omega)) (E.pos rfl (E.bind to (E.bind e2 (E.neg (by decide) (E.now _))))))))
end Go.Proofs.YtpgfkoeodhfkgaaDoorG
end
