/-
Plain lemmas on lists, numbers and rounds: what the pure proofs share.
-/
import Derived.Test.YtifohlgdkdcpeaaQFnExactMostLoan0
namespace Go.Proofs.Ytifohlgdkdcpeaa.M
open Go.RowKit Go.Proofs.YtifohlgdkdcpeaaW.PrintWords Go.Proofs.YtifohlgdkdcpeaaW.PrintLast Go.Proofs.YtifohlgdkdcpeaaW.PrintMore

theorem Ev.pos {α : Type} {c : Prop} [Decidable c] {f g : Nat → Option α} {r : α} (h : c) (k : Ev f r) : Ev (fun n => if c then f n else g n) r := by
  obtain ⟨K, k⟩ := k
  exact ⟨K, fun n hn => by simp only [if_pos h]; exact k n hn⟩
theorem Ev.neg {α : Type} {c : Prop} [Decidable c] {f g : Nat → Option α} {r : α} (h : ¬ c) (k : Ev g r) : Ev (fun n => if c then f n else g n) r := by
  obtain ⟨K, k⟩ := k
  exact ⟨K, fun n hn => by simp only [if_neg h]; exact k n hn⟩
theorem Ev.ite {α : Type} {c : Prop} [Decidable c] {f g : Nat → Option α} {r : α} (h1 : c → Ev f r) (h2 : ¬ c → Ev g r) : Ev (fun n => if c then f n else g n) r := by
  by_cases h : c
  · exact Ev.pos h (h1 h)
  · exact Ev.neg h (h2 h)
theorem Ev.bind0 {α β : Type} {o : Option α} {f : Nat → α → Option β} {a : α} {r : β} (h : o = some a) (k : Ev (fun n => f n a) r) : Ev (fun n => o.bind (f n)) r := by
  obtain ⟨K, k⟩ := k
  exact ⟨K, fun n hn => by rw [h]; exact k n hn⟩
theorem Ev.is {α : Type} {f : Nat → Option α} {r r' : α} (k : Ev f r) (h : r = r') : Ev f r' := h ▸ k
theorem Ev.now' {α : Type} {r r' : α} (h : r = r') : Ev (fun _ => some r) r' := h ▸ Ev.now r

theorem wrap_id {x : Int} (h1 : -9223372036854775808 ≤ x) (h2 : x ≤ 9223372036854775807) : wrap64 x = x := by unfold wrap64; omega
theorem wrap_nat {n : Nat} (h : n < 4611686018427387904) : wrap64 ((n : Int) + 1) = ((n + 1 : Nat) : Int) := by unfold wrap64; omega
theorem rd_mid (pre post : List Int) (x : Int) : rd (pre ++ x :: post) (pre.length : Int) = x := by
  unfold rd
  rw [Int.toNat_natCast]
  simp [List.getD_eq_getElem?_getD]
theorem rd_nat (xs : List Int) (i : Nat) : rd xs (i : Int) = xs.getD i 0 := by unfold rd; rw [Int.toNat_natCast]
theorem rd_mem {xs : List Int} {i : Int} (h0 : 0 ≤ i) (h : i < (xs.length : Int)) : rd xs i ∈ xs := by
  unfold rd
  rw [List.getD_eq_getElem?_getD, List.getElem?_eq_getElem (by omega)]
  exact List.getElem_mem _

/-- A list by its places. -/
def tab {α : Type} (n : Nat) (h : Nat → α) : List α := (List.range n).map h
theorem tab_length {α : Type} (n : Nat) (h : Nat → α) : (tab n h).length = n := by simp [tab]
theorem tab_get {α : Type} {n i : Nat} {h : Nat → α} (d : α) (hi : i < n) : (tab n h).getD i d = h i := by
  simp [tab, List.getD_eq_getElem?_getD, hi]
theorem tab_rd {n i : Nat} {h : Nat → Int} (hi : i < n) : rd (tab n h) (i : Int) = h i := by rw [rd_nat, tab_get _ hi]
theorem tab_set {α : Type} {n : Nat} (i : Nat) {h : Nat → α} (v : α) : (tab n h).set i v = tab n (fun j => if j = i then v else h j) := by
  apply List.ext_getElem?
  intro j
  simp only [tab, List.getElem?_set, List.getElem?_map, List.length_map, List.length_range]
  by_cases hj : j < n
  · by_cases hij : i = j
    · subst hij; simp [hj]
    · simp [hj, hij, Ne.symm hij]
  · by_cases hij : i = j
    · subst hij; simp [hj]
    · simp [hj, hij]
theorem tab_ext {α : Type} {n : Nat} {h h' : Nat → α} (e : ∀ j, j < n → h j = h' j) : tab n h = tab n h' := by
  unfold tab
  exact List.map_congr_left (fun j hj => e j (List.mem_range.1 hj))
theorem tab_succ {α : Type} (n : Nat) (h : Nat → α) : tab (n + 1) h = tab n h ++ [h n] := by simp [tab, List.range_succ]
theorem tab_zero {α : Type} (h : Nat → α) : tab 0 h = [] := rfl
theorem replicate_tab {α : Type} (n : Nat) (v : α) : List.replicate n v = tab n (fun _ => v) := by
  apply List.ext_getElem?
  intro j
  simp [tab, List.getElem?_replicate]
  by_cases hj : j < n <;> simp [hj]
theorem tab_of (xs : List Int) : xs = tab xs.length (fun j => xs.getD j 0) := by
  apply List.ext_getElem?
  intro j
  by_cases hj : j < xs.length
  · simp [tab, hj, List.getD_eq_getElem?_getD]
  · simp [tab, hj]
theorem mem_tab {α : Type} {n : Nat} {h : Nat → α} {x : α} : x ∈ tab n h ↔ ∃ j, j < n ∧ h j = x := by simp [tab]

/-- All numbers in a range. -/
def allW (xs : List Int) (lo hi : Int) : Bool := xs.all fun x => decide (lo ≤ x) && decide (x ≤ hi)
theorem allW_iff {xs : List Int} {lo hi : Int} : allW xs lo hi = true ↔ ∀ x ∈ xs, lo ≤ x ∧ x ≤ hi := by simp [allW]
theorem allW_cons (x : Int) (xs : List Int) (lo hi : Int) : allW (x :: xs) lo hi = (decide (lo ≤ x) && decide (x ≤ hi) && allW xs lo hi) := by simp [allW]

/-- The first place of a number, -1 if there is none. -/
def idxI (xs : List Int) (v : Int) : Int := if v ∈ xs then (xs.idxOf v : Int) else -1
theorem idxI_neg {xs : List Int} {v : Int} : idxI xs v < 0 ↔ v ∉ xs := by
  unfold idxI
  by_cases h : v ∈ xs <;> simp [h]
theorem idxI_nil (v : Int) : idxI [] v = -1 := by simp [idxI]

/-- Different members of a list are no more than its length. -/
theorem nodup_le {α : Type} [DecidableEq α] : ∀ (l m : List α), l.Nodup → (∀ x ∈ l, x ∈ m) → l.length ≤ m.length
  | [], _, _, _ => Nat.zero_le _
  | a :: t, m, hn, hs => by
    have ha := hs a (List.mem_cons_self ..)
    have ih := nodup_le t (m.erase a) (List.nodup_cons.1 hn).2 (fun x hx => (List.mem_erase_of_ne (by rintro rfl; exact (List.nodup_cons.1 hn).1 hx)).2 (hs x (List.mem_cons_of_mem _ hx)))
    rw [List.length_erase_of_mem ha] at ih
    have := List.length_pos_of_mem ha
    simp
    omega
theorem tab_nodup (n : Nat) : (tab n (fun j => (j : Int))).Nodup := by
  unfold tab
  exact List.Pairwise.map _ (fun a b h e => h (by omega)) List.nodup_range
/-- Fewer different numbers than n: one is missing. -/
theorem missing {n : Nat} {D : List Int} (h : D.length < n) : ∃ j, j < n ∧ (j : Int) ∉ D := by
  apply Classical.byContradiction
  intro hc
  have h2 : ∀ x ∈ tab n (fun j => (j : Int)), x ∈ D := by
    intro x hx
    obtain ⟨j, hj, rfl⟩ := mem_tab.1 hx
    exact Classical.byContradiction fun hd => hc ⟨j, hj, hd⟩
  have := nodup_le _ _ (tab_nodup n) h2
  rw [tab_length] at this
  omega
def sumN (f : Nat → Int) : Nat → Int
  | 0 => 0
  | n + 1 => sumN f n + f n
theorem sumN_ext {f g : Nat → Int} {n : Nat} (h : ∀ j, j < n → f j = g j) : sumN f n = sumN g n := by
  induction n with
  | zero => rfl
  | succ n ih => simp only [sumN]; rw [ih (fun j hj => h j (by omega)), h n (by omega)]
/-- An amount divided into equal parts. -/
def spl (x p : Int) (i : Nat) : Int := x / p + if (i : Int) < x % p then 1 else 0
theorem spl_sum (x p : Int) (h : 0 ≤ x % p) (i : Nat) : sumN (spl x p) i = x / p * i + if (i : Int) < x % p then (i : Int) else x % p := by
  induction i with
  | zero => simp [sumN]; omega
  | succ i ih =>
    simp only [sumN]; rw [ih]; unfold spl
    rw [show x / p * ((i + 1 : Nat) : Int) = x / p * i + x / p from by rw [Int.natCast_succ, Int.mul_add, Int.mul_one]]
    generalize x / p * i = a
    generalize x / p = b
    (repeat' split) <;> omega
theorem spl_all (x : Int) (p : Nat) (hp : 0 < p) : sumN (spl x p) p = x := by
  rw [spl_sum _ _ (Int.emod_nonneg _ (by omega))]
  have := Int.emod_lt_of_pos x (show (0 : Int) < p by omega)
  have e := Int.mul_ediv_add_emod x p
  rw [if_neg (by omega), Int.mul_comm]
  exact e
theorem spl_bd {x : Int} {p : Nat} (hx : 0 ≤ x) (hp : 0 < p) (i : Nat) : 0 ≤ spl x p i ∧ spl x p i ≤ x + 1 := by
  unfold spl
  have h1 := Int.ediv_nonneg hx (show (0 : Int) ≤ p by omega)
  have h2 := Int.ediv_le_self (b := (p : Int)) hx
  constructor <;> split <;> omega
theorem mul_bd {a b A B : Int} (ha : 0 ≤ a) (hA : a ≤ A) (hb : 0 ≤ b) (hB : b ≤ B) : 0 ≤ a * b ∧ a * b ≤ A * B :=
  ⟨Int.mul_nonneg ha hb, Int.mul_le_mul hA hB hb (by omega)⟩
theorem xor_nonneg {x y : Int} (hx : 0 ≤ x) (hx2 : x < 1099511627776) (hy : 0 ≤ y) (hy2 : y < 1099511627776) : 0 ≤ Go.bits .xor .i64 x y := by
  obtain ⟨a, rfl⟩ : ∃ a : Nat, x = a := ⟨x.toNat, by omega⟩
  obtain ⟨b, rfl⟩ : ∃ b : Nat, y = b := ⟨y.toNat, by omega⟩
  have h : (a ^^^ b) < 2 ^ 40 := Nat.xor_lt_two_pow (by omega) (by omega)
  simp only [Go.bits, BitVec.ofInt_natCast, BitVec.toNat_xor, BitVec.toNat_ofNat]
  rw [Nat.mod_eq_of_lt (show a < 2 ^ IntKind.i64.bits by simp [IntKind.bits]; omega), Nat.mod_eq_of_lt (show b < 2 ^ IntKind.i64.bits by simp [IntKind.bits]; omega)]
  rw [qa5]
  rw [wrap_id (by omega) (by omega)]
  omega

end Go.Proofs.Ytifohlgdkdcpeaa.M
