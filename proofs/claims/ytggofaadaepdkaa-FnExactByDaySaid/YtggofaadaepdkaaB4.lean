import Derived.Test.YtggofaadaepdkaaB3
/- FnExactByDay: mathematics of the law. No condition. -/
set_option linter.unusedVariables false
set_option linter.unusedSimpArgs false
section
set_option linter.unusedVariables false
namespace Go.Refl.Math
open Go Go.Refl Go.RowKit
def E {α : Type} (f : (Nat → Nat) → Option α) (r : α) : Prop := ∃ K, ∀ v : Nat → Nat, (∀ i, K ≤ v i) → f v = some r
variable {α β : Type}
theorem E.now (r : α) : E (fun _ => some r) r := ⟨0, fun _ _ => rfl⟩
theorem E.now' {r r' : α} (h : r = r') : E (fun _ => some r) r' := h ▸ E.now r
theorem E.is {f : (Nat → Nat) → Option α} {r r' : α} (k : E f r) (h : r = r') : E f r' := h ▸ k
theorem E.congr {f g : (Nat → Nat) → Option α} {r : α} (h : ∀ v, f v = g v) (k : E g r) : E f r := by
  obtain ⟨K, k⟩ := k
  exact ⟨K, fun v hv => (h v).trans (k v hv)⟩
theorem E.bind {f : (Nat → Nat) → Option α} {g : (Nat → Nat) → α → Option β} {a : α} {r : β} (h : E f a) (k : E (fun v => g v a) r) : E (fun v => (f v).bind (g v)) r := by
  obtain ⟨K, h⟩ := h
  obtain ⟨L, k⟩ := k
  exact ⟨max K L, fun v hv => by
    show (f v).bind (g v) = some r
    rw [h v (fun i => Nat.le_trans (Nat.le_max_left ..) (hv i))]
    exact k v (fun i => Nat.le_trans (Nat.le_max_right ..) (hv i))⟩
theorem E.pos {c : Prop} [Decidable c] {f g : (Nat → Nat) → Option α} {r : α} (h : c) (k : E f r) : E (fun v => if c then f v else g v) r := by
  obtain ⟨K, k⟩ := k
  exact ⟨K, fun v hv => by simp only [if_pos h]; exact k v hv⟩
theorem E.neg {c : Prop} [Decidable c] {f g : (Nat → Nat) → Option α} {r : α} (h : ¬ c) (k : E g r) : E (fun v => if c then f v else g v) r := by
  obtain ⟨K, k⟩ := k
  exact ⟨K, fun v hv => by simp only [if_neg h]; exact k v hv⟩
theorem E.ite {c : Prop} [Decidable c] {f g : (Nat → Nat) → Option α} {r : α} (h1 : c → E f r) (h2 : ¬ c → E g r) : E (fun v => if c then f v else g v) r := by
  by_cases h : c
  · exact E.pos h (h1 h)
  · exact E.neg h (h2 h)
theorem E.step (i : Nat) {f g : (Nat → Nat) → Option α} {r : α} (h : ∀ v w : Nat → Nat, v i = w i + 1 → (∀ j, j ≠ i → v j = w j) → f v = g w) (k : E g r) : E f r := by
  obtain ⟨K, k⟩ := k
  refine ⟨K + 1, fun v hv => ?_⟩
  have h1 := h v (fun j => if j = i then v i - 1 else v j) (by simp; have := hv i; omega) (fun j hj => by simp [hj])
  rw [h1]
  refine k _ fun j => ?_
  by_cases hj : j = i
  · simp only [hj, if_true]; have := hv i; omega
  · simp only [hj, if_false]; have := hv j; omega
theorem E.ren (σ : Nat → Nat) {f : (Nat → Nat) → Option α} {r : α} (k : E f r) : E (fun v => f (fun i => v (σ i))) r := by
  obtain ⟨K, k⟩ := k
  exact ⟨K, fun v hv => k _ fun i => hv (σ i)⟩
theorem E.one {f : Nat → Option α} {r : α} (k : E (fun v => f (v 0)) r) : ∃ n, f n = some r := by
  obtain ⟨K, k⟩ := k
  exact ⟨K, k (fun _ => K) fun _ => Nat.le_refl _⟩
theorem E.enter {f : Nat → Nat → Option α} {r : α} (k : E (fun v => f (v 0) (v 1)) r) : E (fun v => f (v 0) (v 0)) r := E.ren (fun _ => 0) k
theorem E.enter2 {f : Nat → Nat → Nat → Option α} {r : α} (k : E (fun v => f (v 0) (v 1) (v 2)) r) : E (fun v => f (v 0) (v 1) (v 0)) r := E.ren (fun i => if i = 2 then 0 else i) k
theorem wrap_id {x : Int} (h1 : -9223372036854775808 ≤ x) (h2 : x ≤ 9223372036854775807) : wrap64 x = x := by unfold wrap64; omega
theorem wrap_nat {n : Nat} (h : n < 4611686018427387904) : wrap64 ((n : Int) + 1) = ((n + 1 : Nat) : Int) := by unfold wrap64; omega
theorem getD_mid {d : α} (pre post : List α) (x : α) : (pre ++ x :: post).getD pre.length d = x := by
  simp [List.getD_eq_getElem?_getD]
end Go.Refl.Math
end
section
set_option linter.unusedVariables false
namespace Go.Proofs.YtggofaadaepdkaaG
open Go Go.Refl Go.Refl.Math Go.RowKit
def Srt {α : Type} (κ : α → Int) (l : List α) : Prop := l.Pairwise fun a b => κ a ≤ κ b
def fil {α : Type} (κ : α → Int) (d : Int) (l : List α) : List α := l.filter fun e => decide (κ e = d)
theorem fil_app {α : Type} (κ : α → Int) (d : Int) (a b : List α) : fil κ d (a ++ b) = fil κ d a ++ fil κ d b := List.filter_append ..
theorem fil_cons {α : Type} (κ : α → Int) (d : Int) (x : α) (b : List α) : fil κ d (x :: b) = if κ x = d then x :: fil κ d b else fil κ d b := by
  unfold fil
  rw [List.filter_cons]
  by_cases h : κ x = d <;> simp [h]
theorem fil_mem {α : Type} {κ : α → Int} {d : Int} {x : α} {l : List α} : x ∈ fil κ d l ↔ x ∈ l ∧ κ x = d := by simp [fil]
theorem mem_of_fil {α : Type} {κ : α → Int} {l r : List α} (h : ∀ d, fil κ d r = fil κ d l) (x : α) : x ∈ r ↔ x ∈ l := by
  have := h (κ x)
  constructor
  · intro hx
    exact (fil_mem.1 (this ▸ fil_mem.2 ⟨hx, rfl⟩)).1
  · intro hx
    exact (fil_mem.1 (this ▸ fil_mem.2 ⟨hx, rfl⟩)).1
theorem srt_uniq {α : Type} {κ : α → Int} : ∀ {r r' : List α}, Srt κ r → Srt κ r' → (∀ d, fil κ d r = fil κ d r') → r = r'
  | [], [], _, _, _ => rfl
  | [], y :: r', _, _, h => by have := h (κ y); simp [fil] at this
  | x :: r, [], _, _, h => by have := h (κ x); simp [fil] at this
  | x :: r, y :: r', hr, hr', h => by
    have h1 := (List.pairwise_cons.1 hr)
    have h2 := (List.pairwise_cons.1 hr')
    have hx : x ∈ y :: r' := (mem_of_fil h x).1 (List.mem_cons_self ..)
    have hy : y ∈ x :: r := (mem_of_fil h y).2 (List.mem_cons_self ..)
    have hxy : κ x = κ y := by
      have a : κ y ≤ κ x := by
        rcases List.mem_cons.1 hx with rfl | hx
        · exact Int.le_refl _
        · exact h2.1 x hx
      have b : κ x ≤ κ y := by
        rcases List.mem_cons.1 hy with rfl | hy
        · exact Int.le_refl _
        · exact h1.1 y hy
      omega
    have e := h (κ y)
    rw [fil_cons, fil_cons, if_pos hxy, if_pos rfl] at e
    obtain ⟨rfl, e2⟩ := List.cons.inj e
    have : r = r' := srt_uniq h1.2 h2.2 (fun d => by
      have := h d
      rw [fil_cons, fil_cons] at this
      by_cases hd : κ x = d
      · rw [if_pos hd, if_pos hd] at this
        exact (List.cons.inj this).2
      · rw [if_neg hd, if_neg hd] at this
        exact this)
    rw [this]
theorem srt_app {α : Type} {κ : α → Int} {a b : List α} : Srt κ (a ++ b) ↔ Srt κ a ∧ Srt κ b ∧ ∀ x ∈ a, ∀ y ∈ b, κ x ≤ κ y := List.pairwise_append
theorem srt_cons {α : Type} {κ : α → Int} {x : α} {b : List α} : Srt κ (x :: b) ↔ (∀ y ∈ b, κ x ≤ κ y) ∧ Srt κ b := List.pairwise_cons
theorem fil_swap {α : Type} {κ : α → Int} {x y : α} (h : κ x ≠ κ y) (d : Int) (t s : List α) : fil κ d (t ++ x :: y :: s) = fil κ d (t ++ y :: x :: s) := by
  simp only [fil_app, fil_cons]
  by_cases h1 : κ x = d
  · rw [if_pos h1, if_neg (by omega), if_neg (by omega), if_pos h1]
  · rw [if_neg h1, if_neg h1]
def insA {α : Type} (κ : α → Int) (x : α) : List α → List α
  | [] => [x]
  | y :: l => if κ x ≤ κ y then x :: y :: l else y :: insA κ x l
def ssA {α : Type} (κ : α → Int) : List α → List α
  | [] => []
  | x :: l => insA κ x (ssA κ l)
theorem insA_mem {α : Type} {κ : α → Int} {x z : α} : ∀ {l : List α}, z ∈ insA κ x l ↔ z = x ∨ z ∈ l
  | [] => by simp [insA]
  | y :: l => by
    unfold insA
    split
    · simp
    · rw [List.mem_cons, insA_mem, List.mem_cons]
      constructor
      · rintro (h | h | h)
        · exact .inr (.inl h)
        · exact .inl h
        · exact .inr (.inr h)
      · rintro (h | h | h)
        · exact .inr (.inl h)
        · exact .inl h
        · exact .inr (.inr h)
theorem insA_srt {α : Type} {κ : α → Int} {x : α} : ∀ {l : List α}, Srt κ l → Srt κ (insA κ x l)
  | [], _ => List.pairwise_singleton ..
  | y :: l, h => by
    have h1 := srt_cons.1 h
    unfold insA
    split
    · rename_i hxy
      exact srt_cons.2 ⟨fun z hz => by
        rcases List.mem_cons.1 hz with rfl | hz
        · exact hxy
        · have := h1.1 z hz; omega, h⟩
    · exact srt_cons.2 ⟨fun z hz => by
        rcases insA_mem.1 hz with rfl | hz
        · omega
        · exact h1.1 z hz, insA_srt h1.2⟩
theorem insA_fil {α : Type} {κ : α → Int} {x : α} (d : Int) : ∀ (l : List α), fil κ d (insA κ x l) = fil κ d (x :: l)
  | [] => rfl
  | y :: l => by
    unfold insA
    split
    · rfl
    · rename_i h
      have := fil_swap (κ := κ) (x := x) (y := y) (by omega) d [] l
      simp only [List.nil_append] at this
      rw [this, fil_cons, insA_fil d l, fil_cons κ d y]
theorem ssA_srt {α : Type} (κ : α → Int) : ∀ l : List α, Srt κ (ssA κ l)
  | [] => List.Pairwise.nil
  | x :: l => insA_srt (ssA_srt κ l)
theorem ssA_fil {α : Type} (κ : α → Int) (d : Int) : ∀ l : List α, fil κ d (ssA κ l) = fil κ d l
  | [] => rfl
  | x :: l => by rw [ssA, insA_fil, fil_cons, ssA_fil κ d l, ← fil_cons]
theorem ssA_is {α : Type} {κ : α → Int} {l r : List α} (h : Srt κ r) (hf : ∀ d, fil κ d r = fil κ d l) : r = ssA κ l :=
  srt_uniq h (ssA_srt κ l) fun d => by rw [hf d, ssA_fil]
theorem ssA_self {α : Type} {κ : α → Int} {l : List α} (h : Srt κ l) : ssA κ l = l := (ssA_is h fun _ => rfl).symm
theorem ssA_congr {α : Type} {κ : α → Int} {l r : List α} (hf : ∀ d, fil κ d r = fil κ d l) : ssA κ r = ssA κ l :=
  ssA_is (ssA_srt κ r) fun d => by rw [ssA_fil, hf d]
theorem insA_perm {α : Type} {κ : α → Int} {x : α} : ∀ (l : List α), (insA κ x l).Perm (x :: l)
  | [] => .refl _
  | y :: l => by
    unfold insA
    split
    · exact .refl _
    · exact ((insA_perm l).cons y).trans (.swap ..)
theorem ssA_perm {α : Type} (κ : α → Int) : ∀ l : List α, (ssA κ l).Perm l
  | [] => .refl _
  | x :: l => (insA_perm _).trans ((ssA_perm κ l).cons x)
theorem ssA_len {α : Type} (κ : α → Int) (l : List α) : (ssA κ l).length = l.length := (ssA_perm κ l).length_eq
theorem ssA_mem {α : Type} {κ : α → Int} {l : List α} {x : α} : x ∈ ssA κ l ↔ x ∈ l := (ssA_perm κ l).mem_iff
theorem fil_comm {α : Type} {κ : α → Int} {X Y : List α} (h : ∀ x ∈ X, ∀ y ∈ Y, κ x ≠ κ y) (d : Int) : fil κ d X ++ fil κ d Y = fil κ d Y ++ fil κ d X := by
  by_cases hx : fil κ d X = []
  · rw [hx]; simp
  · obtain ⟨x, hx⟩ := List.exists_mem_of_ne_nil _ hx
    have hx := fil_mem.1 hx
    have : fil κ d Y = [] := by
      rw [List.eq_nil_iff_forall_not_mem]
      intro y hy
      have hy := fil_mem.1 hy
      exact h x hx.1 y hy.1 (by omega)
    rw [this]; simp
theorem ssA_split {α : Type} {κ : α → Int} {A1 A2 B1 B2 : List α} (hA : Srt κ (A1 ++ A2)) (hB : Srt κ (B1 ++ B2)) (h1 : ∀ x ∈ A1, ∀ y ∈ B2, κ x ≤ κ y) (h2 : ∀ x ∈ B1, ∀ y ∈ A2, κ x < κ y) :
    ssA κ (A1 ++ B1) ++ ssA κ (A2 ++ B2) = ssA κ (A1 ++ A2 ++ (B1 ++ B2)) := by
  have hA' := srt_app.1 hA
  have hB' := srt_app.1 hB
  refine ssA_is (srt_app.2 ⟨ssA_srt .., ssA_srt .., fun x hx y hy => ?_⟩) fun d => ?_
  · rcases List.mem_append.1 (ssA_mem.1 hx) with hx | hx <;> rcases List.mem_append.1 (ssA_mem.1 hy) with hy | hy
    · exact hA'.2.2 x hx y hy
    · exact h1 x hx y hy
    · exact Int.le_of_lt (h2 x hx y hy)
    · exact hB'.2.2 x hx y hy
  · have := fil_comm (κ := κ) (X := B1) (Y := A2) (fun x hx y hy => by have := h2 x hx y hy; omega) d
    simp only [fil_app, ssA_fil, List.append_assoc]
    rw [← List.append_assoc (fil κ d B1), this, List.append_assoc]
theorem set_midA {α : Type} (pre post : List α) (x y : α) : (pre ++ x :: post).set pre.length y = pre ++ y :: post := by simp
theorem swap_adj {α : Type} (P S : List α) (x y : α) : ((P ++ y :: x :: S).set (P.length + 1) y).set P.length x = P ++ x :: y :: S := by
  have e1 : P ++ y :: x :: S = (P ++ [y]) ++ x :: S := by simp
  have e2 : P.length + 1 = (P ++ [y]).length := by simp
  have e3 : (P ++ [y]) ++ y :: S = P ++ y :: y :: S := by simp
  rw [e1, e2, set_midA, e3, set_midA]
theorem swap_adj2 {α : Type} (P S : List α) (x y : α) : ((P ++ y :: x :: S).set P.length x).set (P.length + 1) y = P ++ x :: y :: S := by
  have e1 : P ++ x :: x :: S = (P ++ [x]) ++ x :: S := by simp
  have e2 : P.length + 1 = (P ++ [x]).length := by simp
  rw [set_midA, e1, e2, set_midA]
  simp
theorem swap_two {α : Type} (P M S : List α) (u v : α) : ((P ++ u :: (M ++ v :: S)).set P.length v).set (P.length + 1 + M.length) u = P ++ v :: (M ++ u :: S) := by
  rw [set_midA]
  have e1 : P ++ v :: (M ++ v :: S) = (P ++ v :: M) ++ v :: S := by simp
  have e2 : P.length + 1 + M.length = (P ++ v :: M).length := by simp; omega
  have e3 : (P ++ v :: M) ++ u :: S = P ++ v :: (M ++ u :: S) := by simp
  rw [e1, e2, set_midA, e3]
theorem rd_two {α : Type} (P M S : List α) (u v d : α) : (P ++ u :: (M ++ v :: S)).getD (P.length + 1 + M.length) d = v := by
  have e1 : P ++ u :: (M ++ v :: S) = (P ++ u :: M) ++ v :: S := by simp
  have e2 : P.length + 1 + M.length = (P ++ u :: M).length := by simp; omega
  rw [e1, e2, getD_mid]
theorem mid_id {a b : Nat} (h : a + b < 4611686018427387904) : wrap64 (Int.fdiv (IntKind.wrap .u64 (wrap64 ((a : Int) + (b : Int)))) (2 ^ Min.min (Int.toNat 1) (IntKind.bits .u64))) = (((a + b) / 2 : Nat) : Int) := by
  rw [wrap_id (x := (a : Int) + b) (by omega) (by omega)]
  have e1 : IntKind.wrap .u64 ((a : Int) + b) = ((a + b : Nat) : Int) := by
    rw [show IntKind.wrap .u64 ((a : Int) + b) = ((a : Int) + b) % 18446744073709551616 by simp [IntKind.wrap, IntKind.bits, IntKind.signed]]
    omega
  have e2 : (2 : Int) ^ Min.min (Int.toNat 1) (IntKind.bits .u64) = 2 := by decide
  rw [e1, e2, wrap_id] <;> (rw [Int.fdiv_eq_ediv_of_nonneg _ (by omega)]; omega)
end Go.Proofs.YtggofaadaepdkaaG
end
section
set_option linter.unusedVariables false
namespace Go.Proofs.YtggofaadaepdkaaG
open Go Go.Refl Go.Refl.Math Go.RowKit
theorem inRange_E (n lo hi : Int) : E (fun k => spec_inRange (k 0) (n, lo, hi)) (decide (lo ≤ n) && decide (n ≤ hi)) :=
  E.congr (fun k => spec_inRange.eq (k 0) n lo hi) (E.ite (fun h => E.now' (by simp [h])) (fun h => E.now' (by simp [h])))
end Go.Proofs.YtggofaadaepdkaaG
end
section
set_option linter.unusedVariables false
namespace Go.Proofs.YtggofaadaepdkaaG
open Go Go.Refl Go.Refl.Math Go.RowKit
abbrev Ent := Int × Int × Int × Int
def vE (e : Ent) : Bool := decide (0 ≤ e.1 ∧ e.1 ≤ 999 ∧ (0 ≤ e.2.1 ∧ e.2.1 ≤ 7) ∧ (0 ≤ e.2.2.1 ∧ e.2.2.1 ≤ 7) ∧ e.2.1 ≠ e.2.2.1 ∧ 1 ≤ e.2.2.2 ∧ e.2.2.2 ≤ 1000000)
theorem vE_iff {e : Ent} : vE e = true ↔ 0 ≤ e.1 ∧ e.1 ≤ 999 ∧ (0 ≤ e.2.1 ∧ e.2.1 ≤ 7) ∧ (0 ≤ e.2.2.1 ∧ e.2.2.1 ≤ 7) ∧ e.2.1 ≠ e.2.2.1 ∧ 1 ≤ e.2.2.2 ∧ e.2.2.2 ≤ 1000000 := decide_eq_true_iff
def vEs (l : List Ent) : Bool := decide (l.length ≤ 40) && l.all vE
theorem vEs_iff {l : List Ent} : vEs l = true ↔ l.length ≤ 40 ∧ ∀ e ∈ l, vE e = true := by
  unfold vEs; rw [Bool.and_eq_true, decide_eq_true_iff, List.all_eq_true]
theorem specInR_E (n lo hi : Int) : E (fun k => spec_inRange (k 0) (n, lo, hi)) (decide (lo ≤ n ∧ n ≤ hi)) :=
  E.is (inRange_E n lo hi) (by rw [Bool.eq_iff_iff]; simp)
theorem specValidEntry_E (e : Ent) : E (fun k => spec_validEntry (k 0) e) (vE e) := by
  have no : ¬ (0 ≤ e.1 ∧ e.1 ≤ 999 ∧ (0 ≤ e.2.1 ∧ e.2.1 ≤ 7) ∧ (0 ≤ e.2.2.1 ∧ e.2.2.1 ≤ 7) ∧ e.2.1 ≠ e.2.2.1 ∧ 1 ≤ e.2.2.2 ∧ e.2.2.2 ≤ 1000000) → false = vE e := fun h => (decide_eq_false h).symm
  refine E.congr (fun k => spec_validEntry.eq (k 0) e) (E.bind (specInR_E ..) (E.ite (fun h1 => E.bind (specInR_E ..) (E.ite (fun h2 => E.bind (specInR_E ..) (E.ite (fun h3 => E.ite (fun h4 => E.now' (no ?_)) (fun h4 => E.bind (specInR_E ..) (E.now' ?_))) (fun h => E.now' (no ?_)))) (fun h => E.now' (no ?_)))) (fun h => E.now' (no ?_))))
  · exact fun g => g.2.2.2.2.1 h4
  · simp only [decide_eq_true_eq] at h1 h2 h3
    unfold vE
    rw [decide_eq_decide]
    omega
  · simp only [decide_eq_true_eq] at h; omega
  · simp only [decide_eq_true_eq] at h; omega
  · simp only [decide_eq_true_eq] at h; omega
theorem implAccount_E (x : Int) : E (fun k => impl_validAccount (k 0) x) (decide (0 ≤ x ∧ x ≤ 7)) :=
  E.congr (fun k => impl_validAccount.eq (k 0) x) (E.ite (fun h => E.now' (by rw [decide_eq_decide]; omega)) (fun h => E.now' (by symm; rw [decide_eq_false_iff_not]; omega)))
theorem implValidEntry_E (e : Ent) : E (fun k => impl_validEntry (k 0) e) (vE e) := by
  have no : ¬ (0 ≤ e.1 ∧ e.1 ≤ 999 ∧ (0 ≤ e.2.1 ∧ e.2.1 ≤ 7) ∧ (0 ≤ e.2.2.1 ∧ e.2.2.1 ≤ 7) ∧ e.2.1 ≠ e.2.2.1 ∧ 1 ≤ e.2.2.2 ∧ e.2.2.2 ≤ 1000000) → false = vE e := fun h => (decide_eq_false h).symm
  refine E.congr (fun k => impl_validEntry.eq (k 0) e) (E.ite (fun h => E.now' (no (by omega))) fun h1 => E.ite (fun h => E.now' (no (by omega))) fun h2 => E.ite (fun h => E.now' (no (by omega))) fun h3 => E.ite (fun h => E.now' (no (by omega))) fun h4 => E.bind (implAccount_E _) (E.ite (fun h5 => E.bind (implAccount_E _) (E.ite (fun h6 => E.now' ?_) (fun h => E.now' (no ?_)))) (fun h => E.now' (no ?_))))
  · simp only [decide_eq_true_eq] at h5 h6
    rw [Bool.eq_iff_iff, vE_iff]
    simp
    omega
  · simp only [decide_eq_true_eq] at h; omega
  · simp only [decide_eq_true_eq] at h; omega
theorem implValidEntries_l4 : ∀ (post pre : List Ent), (pre ++ post).length ≤ 1000000 →
    E (fun k => impl_ValidEntries.l4 (k 0) (k 1) (pre ++ post) ((pre ++ post).length : Int) (pre.length : Int)) (post.all vE)
  | [], pre, _ => by
    refine E.step 1 (fun v w h1 h2 => by rewrite [h1, h2 0 (by decide)]; exact impl_ValidEntries.l4_succ ..) ?_
    exact E.neg (by simp) (E.now _)
  | x :: post, pre, hl => by
    have hlen : (pre ++ x :: post).length = pre.length + (post.length + 1) := by simp
    have ih := implValidEntries_l4 post (pre ++ [x]) (by simpa using hl)
    rw [show (pre ++ [x]).length = pre.length + 1 from by simp, List.append_assoc] at ih
    refine E.step 1 (fun v w h1 h2 => by rewrite [h1, h2 0 (by decide)]; exact impl_ValidEntries.l4_succ ..) ?_
    simp only [Int.toNat_natCast, getD_mid]
    (repeat first | (with_reducible refine E.pos ?_ ?_; · omega) | (with_reducible refine E.neg ?_ ?_; · omega))
    refine E.bind (implValidEntry_E x) (E.ite (fun h => E.now' ?_) (fun h => ?_))
    · simp only [Bool.not_eq_true'] at h
      rw [List.all_cons, h, Bool.false_and]
    · simp only [Bool.not_eq_true', Bool.not_eq_false] at h
      rw [wrap_nat (by omega)]
      exact E.is ih (by rw [List.all_cons, h, Bool.true_and])
theorem implValidEntries_E (l : List Ent) : E (fun k => impl_ValidEntries (k 0) l) (vEs l) := by
  refine E.congr (fun k => impl_ValidEntries.eq (k 0) l) (E.ite (fun h => E.now' ?_) (fun h => ?_))
  · unfold vEs; rw [decide_eq_false (by omega), Bool.false_and]
  · refine E.is (E.ren (fun _ => 0) (implValidEntries_l4 l [] (by simp; omega))) ?_
    unfold vEs; rw [decide_eq_true (by omega), Bool.true_and]
theorem specValidEntries_l2 : ∀ (post pre : List Ent), (pre ++ post).length < 4611686018427387904 →
    E (fun k => spec_validEntries.l2 (k 0) (k 1) (pre ++ post) (pre.length : Int)) (decide ((pre ++ post).length ≤ 40) && post.all vE)
  | [], pre, _ => by
    refine E.step 1 (fun v w h1 h2 => by rewrite [h1, h2 0 (by decide)]; exact spec_validEntries.l2_succ ..) ?_
    exact E.neg (by simp) (E.now' (by simp; omega))
  | x :: post, pre, hl => by
    have hlen : (pre ++ x :: post).length = pre.length + (post.length + 1) := by simp
    have ih := specValidEntries_l2 post (pre ++ [x]) (by simpa using hl)
    rw [show (pre ++ [x]).length = pre.length + 1 from by simp, List.append_assoc] at ih
    refine E.step 1 (fun v w h1 h2 => by rewrite [h1, h2 0 (by decide)]; exact spec_validEntries.l2_succ ..) ?_
    simp only [Int.toNat_natCast, getD_mid]
    (repeat first | (with_reducible refine E.pos ?_ ?_; · omega) | (with_reducible refine E.neg ?_ ?_; · omega))
    refine E.bind (specValidEntry_E x) (E.ite (fun h => E.now' ?_) (fun h => ?_))
    · simp only [Bool.not_eq_true'] at h
      rw [List.all_cons, h, Bool.false_and, Bool.and_false]
    · simp only [Bool.not_eq_true', Bool.not_eq_false] at h
      rw [wrap_nat (by omega)]
      exact E.is ih (by rw [List.all_cons, h, Bool.true_and]; simp)
theorem specValidEntries_E (l : List Ent) (hl : l.length < 4611686018427387904) : E (fun k => spec_validEntries (k 0) l) (vEs l) :=
  E.congr (fun k => spec_validEntries.eq (k 0) l) (E.ren (fun _ => 0) (specValidEntries_l2 l [] (by simpa using hl)))
end Go.Proofs.YtggofaadaepdkaaG
end
section
set_option linter.unusedVariables false
namespace Go.Proofs.YtggofaadaepdkaaG
open Go Go.Refl Go.Refl.Math Go.RowKit
def Dig (l : List Int) : Prop := ∀ d ∈ l, 0 ≤ d ∧ d ≤ 9
theorem Dig.swap {A B : List Int} {l r : Int} (hd : Dig (A ++ l :: r :: B)) : Dig (A ++ r :: l :: B) := fun d h => hd d (by
  simp only [List.mem_append, List.mem_cons] at h ⊢
  rcases h with h | h | h | h
  · exact .inl h
  · exact .inr (.inr (.inl h))
  · exact .inr (.inl h)
  · exact .inr (.inr (.inr h)))
end Go.Proofs.YtggofaadaepdkaaG
end
section
set_option linter.unusedVariables false
namespace Go.Proofs.YtggofaadaepdkaaG
open Go Go.Refl Go.Refl.Math Go.RowKit
abbrev zE : Ent := (0, 0, 0, 0)
end Go.Proofs.YtggofaadaepdkaaG
end
section
set_option linter.unusedVariables false
namespace Go.Proofs.YtggofaadaepdkaaG
open Go Go.Refl Go.Refl.Math Go.RowKit
def AmtOk (l : List Ent) : Prop := ∀ e ∈ l, 0 ≤ e.2.2.2 ∧ e.2.2.2 < 10000000
end Go.Proofs.YtggofaadaepdkaaG
end
section
set_option linter.unusedVariables false
namespace Go.Proofs.YtggofaadaepdkaaG
open Go Go.Refl Go.Refl.Math Go.RowKit
theorem AmtOk.one {e : Ent} (h : 0 ≤ e.2.2.2 ∧ e.2.2.2 < 10000000) : AmtOk [e] := fun x hx => by
  simp at hx; subst hx; exact h
theorem AmtOk.set {l : List Ent} (h : AmtOk l) (i : Nat) (x : Ent) (hx : 0 ≤ x.2.2.2 ∧ x.2.2.2 < 10000000) : AmtOk (l.set i x) := fun e he => by
  rcases List.mem_or_eq_of_mem_set he with h1 | h1
  · exact h e h1
  · rw [h1]; exact hx
end Go.Proofs.YtggofaadaepdkaaG
end
section
set_option linter.unusedVariables false
namespace Go.Proofs.YtggofaadaepdkaaG
open Go Go.Refl Go.Refl.Math Go.RowKit
theorem cloneE_E (xs : List Ent) (h : xs.length ≤ 1000000000) : E (fun k => slices_Clone_Entry (k 0) xs) xs := by
  refine E.congr (fun k => slices_Clone_Entry.eq (k 0) xs) (E.ite (fun h0 => ?_) (fun h0 => E.pos (by simp [maxN]; omega) (E.now' (by simp))))
  have : xs = [] := List.eq_nil_of_length_eq_zero (by simpa using h0)
  subst this
  exact E.congr (g := fun _ => some []) (fun _ => by simp [both, maxN]) (E.now _)
end Go.Proofs.YtggofaadaepdkaaG
end
section
set_option linter.unusedVariables false
namespace Go.Proofs.YtggofaadaepdkaaG
open Go Go.Refl Go.Refl.Math Go.RowKit
def cvE (x y : Ent) : Int := if x.1 < y.1 then -1 else if x.1 > y.1 then 1 else 0
theorem cvE_neg {x y : Ent} : cvE x y < 0 ↔ x.1 < y.1 := by
  unfold cvE
  by_cases h : x.1 < y.1
  · simp [h]
  · rw [if_neg h]
    by_cases h2 : x.1 > y.1 <;> simp [h, h2]
theorem keyI_E (x y : Int) : E (fun k => cmp_Compare_int (k 0) (x, y)) (if x < y then -1 else if x > y then 1 else 0) := by
  have nn : ∀ z : Int, E (fun k => cmp_isNaN_int (k 0) z) false := fun z => E.congr (fun k => cmp_isNaN_int.eq (k 0) z) (E.now' (by simp))
  refine E.congr (fun k => cmp_Compare_int.eq (k 0) x y) (E.bind (nn x) (E.bind (nn y) (E.neg (by simp) (E.neg (by simp) ?_))))
  refine E.ite (fun h => E.now' (by rw [if_pos h])) (fun h => E.ite (fun h2 => E.now' (by rw [if_neg h, if_pos h2])) (fun h2 => E.now' (by rw [if_neg h, if_neg h2])))
theorem keyc_E (x y : Ent) : E (fun k => impl_ByDay_1 (k 0) (x, y)) (cvE x y) :=
  E.congr (fun k => impl_ByDay_1.eq (k 0) ..) (E.bind (keyI_E x.1 y.1) (E.now _))
theorem ins_l4 (pre post : List Ent) (b i : Nat) (hi : i < 4000000000) (z : List Ent) : ∀ (n : Nat) (s1 s2 : List Ent) (x : Ent), s1.length = n → pre.length + s1.length + s2.length + post.length < 4000000000 → Srt (Prod.fst : Ent → Int) (s1 ++ s2) → (∀ y ∈ s2, x.1 < y.1) →
    E (fun k => slices_insertionSortCmpFunc_Entry.l1 (k 0) (k 1) (pre.length : Int) (b : Int) ((i + 1 : Nat) : Int) (pre ++ ssA (Prod.fst : Ent → Int) (s1 ++ x :: s2) ++ post)) z →
    E (fun k => slices_insertionSortCmpFunc_Entry.l4 (k 0) (k 1) (k 2) (pre.length : Int) (b : Int) (i : Int) ((pre.length + s1.length : Nat) : Int) (pre ++ s1 ++ x :: s2 ++ post)) z
  | 0, s1, s2, x, hn, hl, hs, hx, hr => by
    obtain rfl : s1 = [] := List.length_eq_zero_iff.1 hn
    have hss : ssA (Prod.fst : Ent → Int) (x :: s2) = x :: s2 := ssA_self (srt_cons.2 ⟨fun y hy => by have := hx y hy; omega, by simpa using hs⟩)
    refine E.step 2 (fun v w h1 h2 => by rewrite [h1, h2 0 (by decide), h2 1 (by decide)]; exact slices_insertionSortCmpFunc_Entry.l4_succ ..) ?_
    refine E.neg (by simp) ?_
    rw [wrap_nat (by omega)]
    rw [List.nil_append, hss] at hr
    simpa using hr
  | n + 1, s1, s2, x, hn, hl, hs, hx, hr => by
    obtain ⟨t, y, rfl⟩ : ∃ t y, s1 = t ++ [y] := by
      rcases List.eq_nil_or_concat s1 with rfl | ⟨t, y, rfl⟩
      · simp at hn
      · exact ⟨t, y, by simp⟩
    have htl : t.length = n := by simpa using hn
    simp only [List.length_append, List.length_singleton] at hl
    have b1 : pre.length + t.length + 1 < 4000000000 := by omega
    have b2 : pre.length + t.length + 1 < pre.length + t.length + 2 + s2.length + post.length := by omega
    have hD : pre ++ (t ++ [y]) ++ x :: s2 ++ post = (pre ++ t) ++ y :: x :: (s2 ++ post) := by simp
    have hDl : ((pre ++ t) ++ y :: x :: (s2 ++ post)).length = pre.length + t.length + 2 + s2.length + post.length := by simp; omega
    have hj : (pre.length + (t ++ [y]).length : Nat) = (pre ++ t).length + 1 := by simp; omega
    have e1 : ((pre ++ t) ++ y :: x :: (s2 ++ post)).getD ((pre ++ t).length + 1) zE = x := by
      have := getD_mid (d := zE) (pre ++ t ++ [y]) (s2 ++ post) x
      simpa [Nat.add_assoc] using this
    have e0 : ((pre ++ t) ++ y :: x :: (s2 ++ post)).getD ((pre ++ t).length) zE = y := getD_mid ..
    have hpt : (pre ++ t).length = pre.length + t.length := by simp
    have ew : wrap64 ((((pre ++ t).length + 1 : Nat) : Int) - 1) = ((pre ++ t).length : Int) := by
      generalize (pre ++ t).length = p at hpt
      clear hj hDl
      rw [wrap_id (by omega) (by omega)]; omega
    have hs4 := srt_app.1 hs
    have hs5 := srt_app.1 hs4.1
    rw [hD, hj]
    refine E.step 2 (fun v w h1 h2 => by rewrite [h1, h2 0 (by decide), h2 1 (by decide)]; exact slices_insertionSortCmpFunc_Entry.l4_succ ..) ?_
    simp only [ew, Int.toNat_natCast, e1, e0, swap_adj, List.length_set]
    rw [hDl, hpt]
    have c1 : ((pre.length + t.length : Nat) : Int) < ((pre.length + t.length + 2 + s2.length + post.length : Nat) : Int) := by clear ew hpt hj hDl; omega
    have c2 : ((pre.length + t.length + 1 : Nat) : Int) < ((pre.length + t.length + 2 + s2.length + post.length : Nat) : Int) := by clear ew hpt hj hDl; omega
    refine E.pos (by clear ew hpt hj hDl; omega) ?_
    refine E.pos (Int.natCast_nonneg _) ?_
    refine E.pos c2 ?_
    refine E.pos (Int.natCast_nonneg _) ?_
    refine E.pos c1 ?_
    refine E.bind (keyc_E x y) ?_
    refine E.ite (fun h => ?_) (fun h => ?_)
    · have hxy := cvE_neg.1 h
      refine E.pos (Int.natCast_nonneg _) ?_
      refine E.pos c1 ?_
      refine E.pos (Int.natCast_nonneg _) ?_
      refine E.pos c2 ?_
      refine E.pos (Int.natCast_nonneg _) ?_
      refine E.pos c2 ?_
      refine E.pos (Int.natCast_nonneg _) ?_
      refine E.pos c1 ?_
      have ih := ins_l4 pre post b i hi z n t (y :: s2) x htl (by simp; omega) (by simpa using hs) (fun w hw => by
        rcases List.mem_cons.1 hw with rfl | hw
        · exact hxy
        · exact hx w hw) (by
          rw [ssA_congr (l := t ++ [y] ++ x :: s2) (fun d => by rw [fil_swap (κ := (Prod.fst : Ent → Int)) (x := x) (y := y) (by show x.1 ≠ y.1; omega)]; simp)]
          exact hr)
      simpa using ih
    · have hxy : y.1 ≤ x.1 := Int.not_lt.1 fun h2 => h (cvE_neg.2 h2)
      have hss : ssA (Prod.fst : Ent → Int) (t ++ [y] ++ x :: s2) = t ++ [y] ++ x :: s2 := ssA_self (by
        refine srt_app.2 ⟨hs4.1, srt_cons.2 ⟨fun z hz => by have := hx z hz; omega, hs4.2.1⟩, fun z hz w hw => ?_⟩
        have hzx : z.1 ≤ x.1 := by
          rcases List.mem_append.1 hz with hz | hz
          · have := hs5.2.2 z hz y (List.mem_singleton.2 rfl)
            omega
          · rw [List.mem_singleton.1 hz]; exact hxy
        rcases List.mem_cons.1 hw with rfl | hw
        · exact hzx
        · exact hs4.2.2 z hz w hw)
      rw [hss] at hr
      rw [wrap_nat (by omega)]
      simpa using hr
theorem ins_l1 (pre post : List Ent) : ∀ (rest s : List Ent), pre.length + s.length + rest.length + post.length < 3000000000 → Srt (Prod.fst : Ent → Int) s →
    E (fun k => slices_insertionSortCmpFunc_Entry.l1 (k 0) (k 1) (pre.length : Int) ((pre.length + s.length + rest.length : Nat) : Int) ((pre.length + s.length : Nat) : Int) (pre ++ s ++ rest ++ post)) (pre ++ ssA (Prod.fst : Ent → Int) (s ++ rest) ++ post)
  | [], s, hl, hs => by
    refine E.step 1 (fun v w h1 h2 => by rewrite [h1, h2 0 (by decide)]; exact slices_insertionSortCmpFunc_Entry.l1_succ ..) ?_
    exact E.neg (by simp) (E.now' (by rw [List.append_nil, List.append_nil, ssA_self hs]))
  | x :: rest, s, hl, hs => by
    simp only [List.length_cons] at hl
    have e2 : (pre.length + s.length + (x :: rest).length : Nat) = pre.length + (ssA (Prod.fst : Ent → Int) (s ++ [x])).length + rest.length := by rw [ssA_len]; simp; omega
    have e3 : (pre.length + s.length + 1 : Nat) = pre.length + (ssA (Prod.fst : Ent → Int) (s ++ [x])).length := by rw [ssA_len]; simp; omega
    have ih := ins_l1 pre post rest (ssA (Prod.fst : Ent → Int) (s ++ [x])) (by omega) (ssA_srt ..)
    rw [← e2, ← e3, ssA_congr (l := s ++ x :: rest) (r := ssA (Prod.fst : Ent → Int) (s ++ [x]) ++ rest) (fun d => by rw [fil_app, ssA_fil, ← fil_app]; simp)] at ih
    have h4 := ins_l4 pre (rest ++ post) (pre.length + s.length + (x :: rest).length) (pre.length + s.length) (by omega) _ s.length s [] x rfl (by simp; omega) (by simpa using hs) (by simp) (by simpa using ih)
    refine E.step 1 (fun v w h1 h2 => by rewrite [h1, h2 0 (by decide)]; exact slices_insertionSortCmpFunc_Entry.l1_succ ..) ?_
    refine E.pos (by simp only [List.length_cons]; clear e2 e3; omega) ?_
    have := E.ren (fun i => if i = 2 then 0 else i) h4
    simpa using this
theorem ins_E (pre seg post : List Ent) (hl : pre.length + seg.length + post.length < 3000000000) :
    E (fun k => slices_insertionSortCmpFunc_Entry (k 0) (pre ++ seg ++ post, (pre.length : Int), ((pre.length + seg.length : Nat) : Int), ())) (pre ++ ssA (Prod.fst : Ent → Int) seg ++ post) := by
  refine E.congr (fun k => slices_insertionSortCmpFunc_Entry.eq (k 0) ..) ?_
  rw [wrap_nat (by omega)]
  cases seg with
  | nil =>
    refine E.enter (f := fun a b => slices_insertionSortCmpFunc_Entry.l1 a b (pre.length : Int) ((pre.length + ([] : List Ent).length : Nat) : Int) ((pre.length + 1 : Nat) : Int) (pre ++ [] ++ post)) ?_
    refine E.step 1 (fun v w h1 h2 => by rewrite [h1, h2 0 (by decide)]; exact slices_insertionSortCmpFunc_Entry.l1_succ ..) ?_
    exact E.neg (by simp; omega) (E.now' (by simp [ssA]))
  | cons x rest =>
    simp only [List.length_cons] at hl
    have := E.ren (fun _ => 0) (ins_l1 pre post rest [x] (by simp; omega) (List.pairwise_singleton ..))
    simpa [Nat.add_assoc, Nat.add_comm 1] using this
theorem wr_add (a v c : Nat) (h : a + v = c) (hc : a + v < 4000000000) : wrap64 ((a : Int) + (v : Int)) = (c : Int) := by
  subst h
  rw [wrap_id (by omega) (by omega)]
  omega
theorem swp_l1 (P M S : List Ent) (a b n : Nat) : ∀ (U2 V2 V1 U1 : List Ent), U2.length = V2.length → V1.length = U1.length → a = P.length → b = P.length + V1.length + U2.length + M.length → n = V1.length + U2.length → b + n + S.length < 4000000000 →
    E (fun k => slices_swapRangeCmpFunc_Entry.l1 (k 0) (k 1) (a : Int) (b : Int) (n : Int) (V1.length : Int) (P ++ V1 ++ U2 ++ M ++ U1 ++ V2 ++ S)) (P ++ V1 ++ V2 ++ M ++ U1 ++ U2 ++ S)
  | [], [], V1, U1, _, _, _, _, hn, _ => by
    refine E.step 1 (fun v w h1 h2 => by rewrite [h1, h2 0 (by decide)]; exact slices_swapRangeCmpFunc_Entry.l1_succ ..) ?_
    simp at hn
    exact E.neg (by omega) (E.now _)
  | [], v :: V2, V1, U1, h, _, _, _, _, _ => by simp at h
  | u :: U2, [], V1, U1, h, _, _, _, _, _ => by simp at h
  | u :: U2, v :: V2, V1, U1, h, h1, ha, hb, hn, hs => by
    simp only [List.length_cons] at h hb hn
    have eD : P ++ V1 ++ (u :: U2) ++ M ++ U1 ++ (v :: V2) ++ S = (P ++ V1) ++ u :: ((U2 ++ M ++ U1) ++ v :: (V2 ++ S)) := by simp
    have eL : ((P ++ V1) ++ u :: ((U2 ++ M ++ U1) ++ v :: (V2 ++ S))).length = b + n + S.length := by simp; omega
    have b1 : a + V1.length < 4000000000 := by omega
    have b2 : b + V1.length < 4000000000 := by omega
    have b3 : a + V1.length < b + n + S.length := by omega
    have b4 : b + V1.length < b + n + S.length := by omega
    have b5 : V1.length < n := by omega
    have l1 : a + V1.length = (P ++ V1).length := by simp; omega
    have l2 : b + V1.length = (P ++ V1).length + 1 + (U2 ++ M ++ U1).length := by simp; omega
    have ih := swp_l1 P M S a b n U2 V2 (V1 ++ [v]) (U1 ++ [u]) (by omega) (by simp; omega) ha (by simp; omega) (by simp; omega) hs
    have e4 : P ++ (V1 ++ [v]) ++ U2 ++ M ++ (U1 ++ [u]) ++ V2 ++ S = (P ++ V1) ++ v :: ((U2 ++ M ++ U1) ++ u :: (V2 ++ S)) := by simp
    have e5 : P ++ (V1 ++ [v]) ++ V2 ++ M ++ (U1 ++ [u]) ++ U2 ++ S = P ++ V1 ++ v :: V2 ++ M ++ U1 ++ u :: U2 ++ S := by simp
    rw [e4, e5, List.length_append, List.length_singleton] at ih
    have w1 := wr_add _ _ _ l1 b1
    have w2 := wr_add _ _ _ l2 b2
    rw [eD]
    refine E.step 1 (fun v w h1 h2 => by rewrite [h1, h2 0 (by decide)]; exact slices_swapRangeCmpFunc_Entry.l1_succ ..) ?_
    simp only [w1, w2, Int.toNat_natCast, getD_mid, rd_two, swap_two, List.length_set]
    have w3 := wrap_nat (n := V1.length) (by clear eL l1 l2 w1 w2 ih; omega)
    rw [eL, ← l2, ← l1, w3]
    refine E.pos (Int.ofNat_lt.2 b5) ?_
    refine E.pos (Int.natCast_nonneg _) ?_
    refine E.pos (Int.ofNat_lt.2 b4) ?_
    refine E.pos (Int.natCast_nonneg _) ?_
    refine E.pos (Int.ofNat_lt.2 b3) ?_
    refine E.pos (Int.natCast_nonneg _) ?_
    refine E.pos (Int.ofNat_lt.2 b3) ?_
    refine E.pos (Int.natCast_nonneg _) ?_
    refine E.pos (Int.ofNat_lt.2 b4) ?_
    exact ih
theorem swp_E (P U M V S : List Ent) (h : U.length = V.length) (hs : P.length + U.length + M.length + V.length + S.length < 3000000000) :
    E (fun k => slices_swapRangeCmpFunc_Entry (k 0) (P ++ U ++ M ++ V ++ S, (P.length : Int), ((P.length + U.length + M.length : Nat) : Int), (U.length : Int), ())) (P ++ V ++ M ++ U ++ S) := by
  have := swp_l1 P M S P.length (P.length + U.length + M.length) U.length U V [] [] h rfl rfl (by simp) (by simp) (by omega)
  refine E.congr (fun k => slices_swapRangeCmpFunc_Entry.eq (k 0) ..) ?_
  have := E.ren (fun _ => 0) this
  simpa using this
theorem rot_l2 (m : Nat) : ∀ (N : Nat) (P X Y S : List Ent), X.length + Y.length ≤ N → 0 < X.length → 0 < Y.length → m = P.length + X.length → P.length + X.length + Y.length + S.length < 3000000000 →
    E (fun k => slices_rotateCmpFunc_Entry.l2 (k 0) (k 1) (m : Int) (X.length : Int) (Y.length : Int) (P ++ X ++ Y ++ S)) (P ++ Y ++ X ++ S)
  | 0, P, X, Y, S, hN, hX, _, _, _ => by omega
  | N + 1, P, X, Y, S, hN, hX, hY, hm, hs => by
    have w1 : wrap64 ((m : Int) - (X.length : Int)) = (P.length : Int) := by rw [wrap_id (by omega) (by omega)]; omega
    refine E.step 1 (fun v w h1 h2 => by rewrite [h1, h2 0 (by decide)]; exact slices_rotateCmpFunc_Entry.l2_succ ..) ?_
    rw [w1]
    refine E.ite (fun h => ?_) (fun h => E.ite (fun h2 => ?_) (fun h2 => ?_))
    · have := swp_E P X [] Y S (by omega) (by simp; omega)
      refine E.bind (a := P ++ Y ++ X ++ S) ?_ (E.now _)
      rw [hm]
      simpa using this
    · have hx : X = X.take Y.length ++ X.drop Y.length := (List.take_append_drop ..).symm
      generalize e1 : X.take Y.length = X1 at hx
      generalize e2 : X.drop Y.length = X2 at hx
      have l1 : X1.length = Y.length := by rw [← e1, List.length_take]; omega
      subst hx
      simp only [List.length_append] at hN hX hm hs h2 h w1 ⊢
      have s := swp_E P X1 X2 Y S (by omega) (by omega)
      have ih := rot_l2 m N (P ++ Y) X2 X1 S (by omega) (by omega) (by omega) (by simp; omega) (by simp; omega)
      refine E.bind (a := P ++ Y ++ X2 ++ X1 ++ S) ?_ ?_
      · have e3 : (m : Int) = ((P.length + X1.length + X2.length : Nat) : Int) := by omega
        rw [e3, ← l1]
        simpa using s
      · have w2 : wrap64 (((X1.length + X2.length : Nat) : Int) - (Y.length : Int)) = (X2.length : Int) := by rw [wrap_id (by omega) (by omega)]; omega
        rw [w2, ← l1]
        simpa using ih
    · have hy : Y = Y.take (Y.length - X.length) ++ Y.drop (Y.length - X.length) := (List.take_append_drop ..).symm
      generalize e1 : Y.take (Y.length - X.length) = Y1 at hy
      generalize e2 : Y.drop (Y.length - X.length) = Y2 at hy
      have l2 : Y2.length = X.length := by rw [← e2, List.length_drop]; omega
      subst hy
      simp only [List.length_append] at hN hY hs h2 h ⊢
      have s := swp_E P X Y1 Y2 S (by omega) (by omega)
      have ih := rot_l2 m N P Y2 Y1 (X ++ S) (by omega) (by omega) (by omega) (by omega) (by simp; omega)
      have w3 : wrap64 (wrap64 ((m : Int) + ((Y1.length + Y2.length : Nat) : Int)) - (X.length : Int)) = ((P.length + X.length + Y1.length : Nat) : Int) := by rw [wrap_id (x := (m : Int) + _) (by omega) (by omega), wrap_id (by omega) (by omega)]; omega
      rw [w3]
      refine E.bind (a := P ++ Y2 ++ Y1 ++ X ++ S) ?_ ?_
      · simpa using s
      · have w2 : wrap64 (((Y1.length + Y2.length : Nat) : Int) - (X.length : Int)) = (Y1.length : Int) := by rw [wrap_id (by omega) (by omega)]; omega
        rw [w2, ← l2]
        simpa using ih
theorem rot_E (P X Y S : List Ent) (hX : 0 < X.length) (hY : 0 < Y.length) (hs : P.length + X.length + Y.length + S.length < 3000000000) :
    E (fun k => slices_rotateCmpFunc_Entry (k 0) (P ++ X ++ Y ++ S, (P.length : Int), ((P.length + X.length : Nat) : Int), ((P.length + X.length + Y.length : Nat) : Int), ())) (P ++ Y ++ X ++ S) := by
  refine E.congr (fun k => slices_rotateCmpFunc_Entry.eq (k 0) ..) ?_
  have w1 : wrap64 (((P.length + X.length : Nat) : Int) - (P.length : Int)) = (X.length : Int) := by rw [wrap_id (by omega) (by omega)]; omega
  have w2 : wrap64 (((P.length + X.length + Y.length : Nat) : Int) - ((P.length + X.length : Nat) : Int)) = (Y.length : Int) := by rw [wrap_id (by omega) (by omega)]; omega
  rw [w1, w2]
  exact E.ren (fun _ => 0) (rot_l2 (P.length + X.length) (X.length + Y.length) P X Y S (Nat.le_refl _) hX hY rfl hs)
end Go.Proofs.YtggofaadaepdkaaG
end
section
set_option linter.unusedVariables false
namespace Go.Proofs.YtggofaadaepdkaaG
open Go Go.Refl Go.Refl.Math Go.RowKit
theorem sm_l9 (S : List Ent) (x : Ent) : ∀ (B P : List Ent) (e : Nat), e = P.length + B.length + 1 → P.length + B.length + S.length < 3000000000 →
    E (fun k => slices_symMergeCmpFunc_Entry.l9 (slices_symMergeCmpFunc_Entry (k 0)) (k 0) (k 1) (e : Int) (P.length : Int) (P ++ x :: (B ++ S))) (P ++ (B ++ x :: S))
  | [], P, e, he, hl => by
    simp only [List.length_nil] at he hl
    have w1 : wrap64 ((e : Int) - 1) = (P.length : Int) := by rw [wrap_id (by omega) (by omega)]; omega
    refine E.step 1 (fun v w h1 h2 => by rewrite [h1, h2 0 (by decide)]; exact slices_symMergeCmpFunc_Entry.l9_succ ..) ?_
    rw [w1]
    exact E.neg (by omega) (E.now _)
  | y :: B, P, e, he, hl => by
    simp only [List.length_cons] at he hl
    have b1 : P.length < P.length + B.length + 1 := by omega
    have b2 : P.length + 1 < P.length + 2 + B.length + S.length := by omega
    have b3 : P.length < P.length + 2 + B.length + S.length := by omega
    have w1 : wrap64 ((e : Int) - 1) = ((P.length + B.length + 1 : Nat) : Int) := by rw [wrap_id (by omega) (by omega)]; omega
    have w2 := wrap_nat (n := P.length) (by omega)
    have ih := sm_l9 S x B (P ++ [y]) e (by simp; omega) (by simp; omega)
    rw [show (P ++ [y]).length = P.length + 1 from by simp] at ih
    have eL : (P ++ x :: y :: (B ++ S)).length = P.length + 2 + B.length + S.length := by simp; omega
    have e0 : (P ++ x :: y :: (B ++ S)).getD P.length zE = x := getD_mid ..
    have e1 : (P ++ x :: y :: (B ++ S)).getD (P.length + 1) zE = y := by
      simp
    refine E.step 1 (fun v w h1 h2 => by rewrite [h1, h2 0 (by decide)]; exact slices_symMergeCmpFunc_Entry.l9_succ ..) ?_
    simp only [List.cons_append, w1, w2, Int.toNat_natCast, e0, e1, swap_adj2, List.length_set]
    rw [eL]
    refine E.pos (Int.ofNat_lt.2 b1) ?_
    refine E.pos (Int.natCast_nonneg _) ?_
    refine E.pos (Int.ofNat_lt.2 b2) ?_
    refine E.pos (Int.natCast_nonneg _) ?_
    refine E.pos (Int.ofNat_lt.2 b3) ?_
    refine E.pos (Int.natCast_nonneg _) ?_
    refine E.pos (Int.ofNat_lt.2 b3) ?_
    refine E.pos (Int.natCast_nonneg _) ?_
    refine E.pos (Int.ofNat_lt.2 b2) ?_
    simpa using ih
theorem sm_l21 (P : List Ent) (y : Ent) : ∀ (n : Nat) (A S : List Ent), A.length = n → P.length + A.length + S.length < 3000000000 →
    E (fun k => slices_symMergeCmpFunc_Entry.l21 (slices_symMergeCmpFunc_Entry (k 0)) (k 0) (k 1) (P.length : Int) ((P.length + A.length : Nat) : Int) (P ++ A ++ y :: S)) (P ++ y :: (A ++ S))
  | 0, A, S, hn, hl => by
    obtain rfl : A = [] := List.length_eq_zero_iff.1 hn
    refine E.step 1 (fun v w h1 h2 => by rewrite [h1, h2 0 (by decide)]; exact slices_symMergeCmpFunc_Entry.l21_succ ..) ?_
    exact E.neg (by simp) (E.now' (by simp))
  | n + 1, A, S, hn, hl => by
    obtain ⟨t, x, rfl⟩ : ∃ t x, A = t ++ [x] := by
      rcases List.eq_nil_or_concat A with rfl | ⟨t, y, rfl⟩
      · simp at hn
      · exact ⟨t, y, by simp⟩
    have htl : t.length = n := by simpa using hn
    simp only [List.length_append, List.length_singleton] at hl ⊢
    have ih := sm_l21 P y n t (x :: S) htl (by simp; omega)
    have b0 : P.length < P.length + (t.length + 1) := by omega
    have b1 : P.length + t.length < P.length + t.length + 2 + S.length := by omega
    have b2 : P.length + (t.length + 1) < P.length + t.length + 2 + S.length := by omega
    have w1 : wrap64 (((P.length + (t.length + 1) : Nat) : Int) - 1) = ((P.length + t.length : Nat) : Int) := by rw [wrap_id (by omega) (by omega)]; omega
    have hD : P ++ (t ++ [x]) ++ y :: S = (P ++ t) ++ x :: y :: S := by simp
    have eL : ((P ++ t) ++ x :: y :: S).length = P.length + t.length + 2 + S.length := by simp; omega
    have e0 : ((P ++ t) ++ x :: y :: S).getD (P.length + t.length) zE = x := by
      have := getD_mid (d := zE) (P ++ t) (y :: S) x
      rwa [List.length_append] at this
    have e1 : ((P ++ t) ++ x :: y :: S).getD (P.length + (t.length + 1)) zE = y := by
      simp
    have e2 : (((P ++ t) ++ x :: y :: S).set (P.length + (t.length + 1)) x).set (P.length + t.length) y = (P ++ t) ++ y :: x :: S := by
      have := swap_adj (P ++ t) S y x
      rwa [show (P ++ t).length + 1 = P.length + (t.length + 1) from by simp [Nat.add_assoc], List.length_append] at this
    rw [hD]
    refine E.step 1 (fun v w h1 h2 => by rewrite [h1, h2 0 (by decide)]; exact slices_symMergeCmpFunc_Entry.l21_succ ..) ?_
    simp only [w1, Int.toNat_natCast, e0, e1, e2, List.length_set]
    rw [eL]
    refine E.pos (Int.ofNat_lt.2 b0) ?_
    refine E.pos (Int.natCast_nonneg _) ?_
    refine E.pos (Int.ofNat_lt.2 b1) ?_
    refine E.pos (Int.natCast_nonneg _) ?_
    refine E.pos (Int.ofNat_lt.2 b2) ?_
    refine E.pos (Int.natCast_nonneg _) ?_
    refine E.pos (Int.ofNat_lt.2 b2) ?_
    refine E.pos (Int.natCast_nonneg _) ?_
    refine E.pos (Int.ofNat_lt.2 b1) ?_
    simpa using ih
theorem cvE_neg' {x y : Ent} : ¬ cvE x y < 0 ↔ y.1 ≤ x.1 := by rw [cvE_neg]; omega
theorem sm_l3 (D : List Ent) (a : Nat) (z : List Ent) (ha : a < D.length) (hD : D.length < 1000000000) (lo hi : Nat) (hh : hi ≤ D.length)
    (H : ∀ t, lo ≤ t → t ≤ hi → (lo < t → (D.getD (t - 1) zE).1 < (D.getD a zE).1) → (t < hi → (D.getD a zE).1 ≤ (D.getD t zE).1) →
      E (fun k => slices_symMergeCmpFunc_Entry.l9 (slices_symMergeCmpFunc_Entry (k 0)) (k 0) (k 1) (t : Int) (a : Int) D) z) :
    ∀ (n i j : Nat), j - i ≤ n → lo ≤ i → i ≤ j → j ≤ hi → (lo < i → (D.getD (i - 1) zE).1 < (D.getD a zE).1) → (j < hi → (D.getD a zE).1 ≤ (D.getD j zE).1) →
    E (fun k => slices_symMergeCmpFunc_Entry.l3 (slices_symMergeCmpFunc_Entry (k 0)) (k 0) (k 1) (a : Int) (i : Int) (j : Int) D) z
  | n, i, j, hn, h1, h2, h3, g1, g2 => by
    refine E.step 1 (fun v w h1 h2 => by rewrite [h1, h2 0 (by decide)]; exact slices_symMergeCmpFunc_Entry.l3_succ ..) ?_
    rw [mid_id (by omega)]
    refine E.ite (fun h => ?_) (fun h => ?_)
    · have hij : i < j := by omega
      obtain ⟨m, rfl⟩ : ∃ m, n = m + 1 := ⟨n - 1, by omega⟩
      have q1 : (i + j) / 2 < j := by omega
      have q2 : i ≤ (i + j) / 2 := by omega
      have qD : (i + j) / 2 < D.length := by omega
      rw [wrap_nat (n := (i + j) / 2) (by omega)]
      simp only [Int.toNat_natCast]
      refine E.pos (Int.natCast_nonneg _) ?_
      refine E.pos (Int.ofNat_lt.2 qD) ?_
      refine E.pos (Int.natCast_nonneg _) ?_
      refine E.pos (Int.ofNat_lt.2 ha) ?_
      refine E.bind (keyc_E _ _) ?_
      refine E.ite (fun hc => ?_) (fun hc => ?_)
      · exact sm_l3 D a z ha hD lo hi hh H m ((i + j) / 2 + 1) j (by omega) (by omega) (by omega) h3 (fun _ => by simpa using cvE_neg.1 hc) g2
      · exact sm_l3 D a z ha hD lo hi hh H m i ((i + j) / 2) (by omega) h1 (by omega) (by omega) g1 (fun _ => cvE_neg'.1 hc)
    · obtain rfl : i = j := by omega
      exact E.ren (fun _ => 0) (H i h1 h3 g1 g2)
  termination_by n => n
theorem sm_l15 (D : List Ent) (b : Nat) (z : List Ent) (hb : b < D.length) (hD : D.length < 1000000000) (lo hi : Nat) (hh : hi ≤ D.length)
    (H : ∀ t, lo ≤ t → t ≤ hi → (lo < t → (D.getD (t - 1) zE).1 ≤ (D.getD b zE).1) → (t < hi → (D.getD b zE).1 < (D.getD t zE).1) →
      E (fun k => slices_symMergeCmpFunc_Entry.l21 (slices_symMergeCmpFunc_Entry (k 0)) (k 0) (k 1) (t : Int) (b : Int) D) z) :
    ∀ (n i j : Nat), j - i ≤ n → lo ≤ i → i ≤ j → j ≤ hi → (lo < i → (D.getD (i - 1) zE).1 ≤ (D.getD b zE).1) → (j < hi → (D.getD b zE).1 < (D.getD j zE).1) →
    E (fun k => slices_symMergeCmpFunc_Entry.l15 (slices_symMergeCmpFunc_Entry (k 0)) (k 0) (k 1) (b : Int) (i : Int) (j : Int) D) z
  | n, i, j, hn, h1, h2, h3, g1, g2 => by
    refine E.step 1 (fun v w h1 h2 => by rewrite [h1, h2 0 (by decide)]; exact slices_symMergeCmpFunc_Entry.l15_succ ..) ?_
    rw [mid_id (by omega)]
    refine E.ite (fun h => ?_) (fun h => ?_)
    · have hij : i < j := by omega
      obtain ⟨m, rfl⟩ : ∃ m, n = m + 1 := ⟨n - 1, by omega⟩
      have q1 : (i + j) / 2 < j := by omega
      have q2 : i ≤ (i + j) / 2 := by omega
      have qD : (i + j) / 2 < D.length := by omega
      rw [wrap_nat (n := (i + j) / 2) (by omega)]
      simp only [Int.toNat_natCast]
      refine E.pos (Int.natCast_nonneg _) ?_
      refine E.pos (Int.ofNat_lt.2 hb) ?_
      refine E.pos (Int.natCast_nonneg _) ?_
      refine E.pos (Int.ofNat_lt.2 qD) ?_
      refine E.bind (keyc_E _ _) ?_
      refine E.ite (fun hc => ?_) (fun hc => ?_)
      · exact sm_l15 D b z hb hD lo hi hh H m i ((i + j) / 2) (by omega) h1 (by omega) (by omega) g1 (fun _ => cvE_neg.1 hc)
      · exact sm_l15 D b z hb hD lo hi hh H m ((i + j) / 2 + 1) j (by omega) (by omega) (by omega) h3 (fun _ => by simpa using cvE_neg'.1 hc) g2
    · obtain rfl : i = j := by omega
      exact E.ren (fun _ => 0) (H i h1 h3 g1 g2)
  termination_by n => n
end Go.Proofs.YtggofaadaepdkaaG
end
section
set_option linter.unusedVariables false
namespace Go.Proofs.YtggofaadaepdkaaG
open Go Go.Refl Go.Refl.Math Go.RowKit
theorem srt_take {l : List Ent} (h : Srt (Prod.fst : Ent → Int) l) {q : Nat} (hq : 0 < q) (hq2 : q ≤ l.length) {x : Ent} (hx : x ∈ l.take q) : x.1 ≤ (l.getD (q - 1) zE).1 := by
  obtain ⟨i, hi, rfl⟩ := List.getElem_of_mem hx
  rw [List.length_take] at hi
  rw [List.getElem_take, List.getD_eq_getElem?_getD, List.getElem?_eq_getElem (by omega)]
  show (l[i]).1 ≤ (l[q - 1]).1
  by_cases h1 : i = q - 1
  · subst h1; exact Int.le_refl _
  · exact List.pairwise_iff_getElem.1 h i (q - 1) (by omega) (by omega) (by omega)
theorem srt_drop {l : List Ent} (h : Srt (Prod.fst : Ent → Int) l) {q : Nat} {x : Ent} (hx : x ∈ l.drop q) : (l.getD q zE).1 ≤ x.1 := by
  obtain ⟨i, hi, rfl⟩ := List.getElem_of_mem hx
  rw [List.length_drop] at hi
  rw [List.getElem_drop, List.getD_eq_getElem?_getD, List.getElem?_eq_getElem (by omega)]
  show (l[q]).1 ≤ (l[q + i]).1
  by_cases h1 : i = 0
  · subst h1; exact Int.le_refl _
  · exact List.pairwise_iff_getElem.1 h q (q + i) (by omega) (by omega) (by omega)
theorem getD_seg (P A S : List Ent) (i : Nat) (h : i < A.length) : (P ++ (A ++ S)).getD (P.length + i) zE = A.getD i zE := by
  rw [List.getD_eq_getElem?_getD, List.getElem?_append_right (by omega), show P.length + i - P.length = i by omega, List.getElem?_append_left h, List.getD_eq_getElem?_getD]
def SmOk (N : Nat) : Prop := ∀ (A B P S : List Ent), A.length + B.length < N → 0 < A.length → 0 < B.length → Srt (Prod.fst : Ent → Int) A → Srt (Prod.fst : Ent → Int) B → P.length + A.length + B.length + S.length < 1000000000 → ∀ (a m b : Nat), a = P.length → m = a + A.length → b = m + B.length →
  E (fun k => slices_symMergeCmpFunc_Entry (k 0) (P ++ (A ++ (B ++ S)), (a : Int), (m : Int), (b : Int), ())) (P ++ (ssA (Prod.fst : Ent → Int) (A ++ B) ++ S))
theorem sm_half {N : Nat} (IH : SmOk N) (A B P S : List Ent) (hN : A.length + B.length < N) (hA : Srt (Prod.fst : Ent → Int) A) (hB : Srt (Prod.fst : Ent → Int) B) (hl : P.length + A.length + B.length + S.length < 1000000000) (a m b : Nat) (ha : a = P.length) (hm : m = a + A.length) (hb : b = m + B.length)
    {z : List Ent} {g : (Nat → Nat) → List Ent → Option (List Ent)} (h : E (fun k => g k (P ++ (ssA (Prod.fst : Ent → Int) (A ++ B) ++ S))) z) :
    E (fun k => if (a : Int) < (m : Int) then (if (m : Int) < (b : Int) then (slices_symMergeCmpFunc_Entry (k 0) (P ++ (A ++ (B ++ S)), (a : Int), (m : Int), (b : Int), ())).bind fun y => g k y else g k (P ++ (A ++ (B ++ S)))) else g k (P ++ (A ++ (B ++ S)))) z := by
  have same : A.length = 0 ∨ B.length = 0 → P ++ (A ++ (B ++ S)) = P ++ (ssA (Prod.fst : Ent → Int) (A ++ B) ++ S) := by
    rintro (h0 | h0)
    · rw [List.length_eq_zero_iff.1 h0]; simp [ssA_self hB]
    · rw [List.length_eq_zero_iff.1 h0]; simp [ssA_self hA]
  refine E.ite (fun h1 => E.ite (fun h2 => ?_) (fun h2 => ?_)) (fun h1 => ?_)
  · exact E.bind (IH A B P S hN (by omega) (by omega) hA hB hl a m b ha hm hb) h
  · rw [same (.inr (by omega))]; exact h
  · rw [same (.inl (by omega))]; exact h
theorem sm_tail {N : Nat} (IH : SmOk N) (A1 B1 A2 B2 P S : List Ent) (h1 : A1.length + B1.length < N) (h2 : A2.length + B2.length < N) (sA1 : Srt (Prod.fst : Ent → Int) A1) (sB1 : Srt (Prod.fst : Ent → Int) B1) (sA2 : Srt (Prod.fst : Ent → Int) A2) (sB2 : Srt (Prod.fst : Ent → Int) B2)
    (hl : P.length + A1.length + B1.length + A2.length + B2.length + S.length < 1000000000) (a s m e b : Nat) (ha : a = P.length) (hs : s = a + A1.length) (hm : m = s + B1.length) (he : e = m + A2.length) (hb : b = e + B2.length) (D : List Ent) (hD : D = P ++ (A1 ++ (B1 ++ (A2 ++ (B2 ++ S))))) :
    E (fun k => if (a : Int) < (s : Int) then (if (s : Int) < (m : Int) then (slices_symMergeCmpFunc_Entry (k 0) (D, (a : Int), (s : Int), (m : Int), ())).bind fun y =>
        (if (m : Int) < (e : Int) then (if (e : Int) < (b : Int) then (slices_symMergeCmpFunc_Entry (k 0) (y, (m : Int), (e : Int), (b : Int), ())).bind fun y5 => some y5 else some y) else some y)
      else (if (m : Int) < (e : Int) then (if (e : Int) < (b : Int) then (slices_symMergeCmpFunc_Entry (k 0) (D, (m : Int), (e : Int), (b : Int), ())).bind fun y5 => some y5 else some D) else some D))
      else (if (m : Int) < (e : Int) then (if (e : Int) < (b : Int) then (slices_symMergeCmpFunc_Entry (k 0) (D, (m : Int), (e : Int), (b : Int), ())).bind fun y5 => some y5 else some D) else some D))
      (P ++ (ssA (Prod.fst : Ent → Int) (A1 ++ B1) ++ (ssA (Prod.fst : Ent → Int) (A2 ++ B2) ++ S))) := by
  subst hD
  refine sm_half IH A1 B1 P (A2 ++ (B2 ++ S)) h1 sA1 sB1 (by simp; omega) a s m ha hs hm (g := fun k y => if (m : Int) < (e : Int) then (if (e : Int) < (b : Int) then (slices_symMergeCmpFunc_Entry (k 0) (y, (m : Int), (e : Int), (b : Int), ())).bind fun y5 => some y5 else some y) else some y) ?_
  have := sm_half IH A2 B2 (P ++ ssA (Prod.fst : Ent → Int) (A1 ++ B1)) S h2 sA2 sB2 (by simp [ssA_len]; omega) m e b (by simp [ssA_len]; omega) he hb (z := P ++ (ssA (Prod.fst : Ent → Int) (A1 ++ B1) ++ (ssA (Prod.fst : Ent → Int) (A2 ++ B2) ++ S))) (g := fun k y => some y) (E.now' (by simp))
  simpa using this
end Go.Proofs.YtggofaadaepdkaaG
end
section
set_option linter.unusedVariables false
namespace Go.Proofs.YtggofaadaepdkaaG
open Go Go.Refl Go.Refl.Math Go.RowKit
theorem sm_cut (A B P S : List Ent) (sA : Srt (Prod.fst : Ent → Int) A) (sB : Srt (Prod.fst : Ent → Int) B) (a m b mid p s0 r0 t : Nat) (ha : a = P.length) (hm : m = a + A.length) (hb : b = m + B.length) (hmid : mid = (a + b) / 2) (hp : p + 1 = mid + m)
    (hc : (m > mid ∧ s0 + b = mid + m ∧ r0 = mid) ∨ (m ≤ mid ∧ s0 = a ∧ r0 = m)) (D : List Ent) (hD : D = P ++ (A ++ (B ++ S))) (h1 : s0 ≤ t) (h2 : t ≤ r0)
    (g1 : s0 < t → (D.getD (t - 1) zE).1 ≤ (D.getD (p - (t - 1)) zE).1) (g2 : t < r0 → (D.getD (p - t) zE).1 < (D.getD t zE).1) :
    ∃ A1 A2 B1 B2 : List Ent, A = A1 ++ A2 ∧ B = B1 ++ B2 ∧ t = a + A1.length ∧ mid = t + B1.length ∧ mid + m - t = mid + A2.length ∧ b = mid + A2.length + B2.length ∧ (∀ x ∈ A1, ∀ y ∈ B2, x.1 ≤ y.1) ∧ (∀ x ∈ B1, ∀ y ∈ A2, x.1 < y.1) := by
  have k1 : a ≤ t := by omega
  have k2 : t ≤ m := by omega
  have k3 : t ≤ mid := by omega
  have k4 : mid + m - t ≤ b := by omega
  have lA : (A.take (t - a)).length = t - a := by rw [List.length_take]; omega
  have lB : (B.take (mid - t)).length = mid - t := by rw [List.length_take]; omega
  have lA2 : (A.drop (t - a)).length = A.length - (t - a) := List.length_drop
  have lB2 : (B.drop (mid - t)).length = B.length - (mid - t) := List.length_drop
  have gA : ∀ i, i < A.length → D.getD (a + i) zE = A.getD i zE := fun i hi => by rw [hD, ha]; exact getD_seg P A (B ++ S) i hi
  have gB : ∀ i, i < B.length → D.getD (m + i) zE = B.getD i zE := fun i hi => by
    have e : m = (P ++ A).length := by rw [List.length_append]; omega
    rw [hD, e, ← List.append_assoc]; exact getD_seg (P ++ A) B S i hi
  refine ⟨A.take (t - a), A.drop (t - a), B.take (mid - t), B.drop (mid - t), (List.take_append_drop ..).symm, (List.take_append_drop ..).symm, by rw [lA]; omega, by rw [lB]; omega, by rw [lA2]; omega, by rw [lA2, lB2]; omega, fun x hx y hy => ?_, fun x hx y hy => ?_⟩
  · have q1 : 0 < (A.take (t - a)).length := List.length_pos_of_mem hx
    have q2 : 0 < (B.drop (mid - t)).length := List.length_pos_of_mem hy
    rw [lA] at q1
    rw [lB2] at q2
    clear lA lB lA2 lB2
    have c1 := srt_take sA q1 (by omega) hx
    have c2 := srt_drop sB hy
    have c3 := g1 (by omega)
    have e1 : t - 1 = a + (t - a - 1) := by omega
    have e2 : p - (t - 1) = m + (mid - t) := by omega
    rw [e2, gB _ (by omega), e1, gA _ (by omega)] at c3
    omega
  · have q1 : 0 < (B.take (mid - t)).length := List.length_pos_of_mem hx
    have q2 : 0 < (A.drop (t - a)).length := List.length_pos_of_mem hy
    rw [lB] at q1
    rw [lA2] at q2
    clear lA lB lA2 lB2
    have c1 := srt_take sB q1 (by omega) hx
    have c2 := srt_drop sA hy
    have c3 := g2 (by omega)
    have e1 : t = a + (t - a) := by omega
    have e2 : p - t = m + (mid - t - 1) := by omega
    rw [e2, gB _ (by omega)] at c3
    rw [e1, gA _ (by omega), ← e1] at c3
    omega
theorem sm_l33 {N : Nat} (IH : SmOk N) (A B P S : List Ent) (hN : A.length + B.length = N) (hA : 2 ≤ A.length) (hB : 2 ≤ B.length) (sA : Srt (Prod.fst : Ent → Int) A) (sB : Srt (Prod.fst : Ent → Int) B) (a m b mid p s0 r0 : Nat) (ha : a = P.length) (hm : m = a + A.length) (hb : b = m + B.length) (hmid : mid = (a + b) / 2) (hp : p + 1 = mid + m)
    (hc : (m > mid ∧ s0 + b = mid + m ∧ r0 = mid) ∨ (m ≤ mid ∧ s0 = a ∧ r0 = m)) (D : List Ent) (hD : D = P ++ (A ++ (B ++ S))) (hl : b + S.length < 1000000000) (DL : D.length = b + S.length) :
    ∀ (n i j : Nat), j - i ≤ n → s0 ≤ i → i ≤ j → j ≤ r0 → (s0 < i → (D.getD (i - 1) zE).1 ≤ (D.getD (p - (i - 1)) zE).1) → (j < r0 → (D.getD (p - j) zE).1 < (D.getD j zE).1) →
    E (fun k => slices_symMergeCmpFunc_Entry.l33 (slices_symMergeCmpFunc_Entry (k 0)) (k 0) (k 1) (a : Int) (m : Int) (b : Int) (mid : Int) ((mid + m : Nat) : Int) (i : Int) (j : Int) (p : Int) D) (P ++ (ssA (Prod.fst : Ent → Int) (A ++ B) ++ S))
  | n, i, j, hn, h1, h2, h3, g1, g2 => by
    refine E.step 1 (fun v w h1 h2 => by rewrite [h1, h2 0 (by decide)]; exact slices_symMergeCmpFunc_Entry.l33_succ ..) ?_
    rw [mid_id (by omega)]
    refine E.ite (fun h => ?_) (fun h => ?_)
    · have hij : i < j := by omega
      obtain ⟨n', rfl⟩ : ∃ n', n = n' + 1 := ⟨n - 1, by omega⟩
      have q1 : (i + j) / 2 < j := by omega
      have q2 : i ≤ (i + j) / 2 := by omega
      have qD : (i + j) / 2 < D.length := by omega
      have qp : p - (i + j) / 2 < D.length := by omega
      have w1 : wrap64 ((p : Int) - (((i + j) / 2 : Nat) : Int)) = ((p - (i + j) / 2 : Nat) : Int) := by rw [wrap_id (by omega) (by omega)]; omega
      rw [wrap_nat (n := (i + j) / 2) (by omega)]
      simp only [w1, Int.toNat_natCast]
      refine E.pos (Int.natCast_nonneg _) ?_
      refine E.pos (Int.ofNat_lt.2 qp) ?_
      refine E.pos (Int.natCast_nonneg _) ?_
      refine E.pos (Int.ofNat_lt.2 qD) ?_
      refine E.bind (keyc_E _ _) ?_
      refine E.ite (fun hc' => ?_) (fun hc' => ?_)
      · exact sm_l33 IH A B P S hN hA hB sA sB a m b mid p s0 r0 ha hm hb hmid hp hc D hD hl DL n' i ((i + j) / 2) (by omega) h1 (by omega) (by omega) g1 (fun _ => cvE_neg.1 hc')
      · exact sm_l33 IH A B P S hN hA hB sA sB a m b mid p s0 r0 ha hm hb hmid hp hc D hD hl DL n' ((i + j) / 2 + 1) j (by omega) (by omega) (by omega) h3 (fun _ => by simpa using cvE_neg'.1 hc') g2
    · obtain rfl : i = j := by omega
      obtain ⟨A1, A2, B1, B2, rfl, rfl, e1, e2, e3, e4, c1, c2⟩ := sm_cut A B P S sA sB a m b mid p s0 r0 i ha hm hb hmid hp hc D hD h1 h3 g1 g2
      have w1 : wrap64 (((mid + m : Nat) : Int) - (i : Int)) = ((mid + A2.length : Nat) : Int) := by rw [wrap_id (by omega) (by omega)]; omega
      rw [List.length_append] at hA hB hN hm hb
      rw [List.length_append] at hN
      rw [← ssA_split sA sB c1 c2]
      have sA' := srt_app.1 sA
      have sB' := srt_app.1 sB
      simp only [w1]
      have tail := fun D' hD' => sm_tail IH A1 B1 A2 B2 P S (by omega) (by omega) sA'.1 sB'.1 sA'.2.1 sB'.2.1 (by omega) a i mid (mid + A2.length) b ha e1 e2 rfl e4 D' hD'
      simp only [List.append_assoc] at tail ⊢
      have rot : 0 < A2.length → 0 < B1.length → E (fun k => slices_rotateCmpFunc_Entry (k 0) (D, (i : Int), (m : Int), ((mid + A2.length : Nat) : Int), ())) (P ++ (A1 ++ (B1 ++ (A2 ++ (B2 ++ S))))) := fun p1 p2 => by
        have := rot_E (P ++ A1) A2 B1 (B2 ++ S) p1 p2 (by simp; omega)
        rw [List.length_append, ← ha, ← e1, show i + A2.length = m by omega, show m + B1.length = mid + A2.length by omega] at this
        rw [hD]
        simpa using this
      have same : A2.length = 0 ∨ B1.length = 0 → D = P ++ (A1 ++ (B1 ++ (A2 ++ (B2 ++ S)))) := by
        rintro (h0 | h0)
        · rw [hD, List.length_eq_zero_iff.1 h0]; simp
        · rw [hD, List.length_eq_zero_iff.1 h0]; simp
      refine E.ite (fun h5 => E.ite (fun h6 => ?_) (fun h6 => ?_)) (fun h5 => ?_)
      · exact E.bind (rot (by omega) (by omega)) (tail _ rfl)
      · exact tail _ (same (.inr (by omega)))
      · exact tail _ (same (.inl (by omega)))
  termination_by n => n
end Go.Proofs.YtggofaadaepdkaaG
end
section
set_option linter.unusedVariables false
namespace Go.Proofs.YtggofaadaepdkaaG
open Go Go.Refl Go.Refl.Math Go.RowKit
theorem sm_one (x : Ent) (B P S : List Ent) (sB : Srt (Prod.fst : Ent → Int) B) (a m b t : Nat) (ha : a = P.length) (hm : m = a + 1) (hb : b = m + B.length) (D : List Ent) (hD : D = P ++ ([x] ++ (B ++ S))) (hl : b + S.length < 1000000000)
    (h1 : m ≤ t) (h2 : t ≤ b) (g1 : m < t → (D.getD (t - 1) zE).1 < (D.getD a zE).1) (g2 : t < b → (D.getD a zE).1 ≤ (D.getD t zE).1) :
    E (fun k => slices_symMergeCmpFunc_Entry.l9 (slices_symMergeCmpFunc_Entry (k 0)) (k 0) (k 1) (t : Int) (a : Int) D) (P ++ (ssA (Prod.fst : Ent → Int) ([x] ++ B) ++ S)) := by
  have gB : ∀ i, i < B.length → D.getD (m + i) zE = B.getD i zE := fun i hi => by
    have e : m = (P ++ [x]).length := by rw [List.length_append, List.length_singleton]; omega
    rw [hD, e, ← List.append_assoc]; exact getD_seg (P ++ [x]) B S i hi
  have gx : D.getD a zE = x := by rw [hD, ha]; exact getD_mid ..
  rw [gx] at g1 g2
  have lB : (B.take (t - m)).length = t - m := by rw [List.length_take]; omega
  have eB : B = B.take (t - m) ++ B.drop (t - m) := (List.take_append_drop ..).symm
  have c1 : ∀ z ∈ B.take (t - m), z.1 < x.1 := fun z hz => by
    have q := List.length_pos_of_mem hz
    rw [lB] at q
    have c := g1 (by omega)
    rw [show t - 1 = m + (t - m - 1) by omega, gB _ (by omega)] at c
    have := srt_take sB q (by omega) hz
    omega
  have c2 : ∀ z ∈ B.drop (t - m), x.1 ≤ z.1 := fun z hz => by
    have q := List.length_pos_of_mem hz
    rw [List.length_drop] at q
    have c := g2 (by omega)
    rw [show t = m + (t - m) by omega, gB _ (by omega)] at c
    have := srt_drop sB hz
    omega
  generalize B.take (t - m) = B1 at *
  generalize B.drop (t - m) = B2 at *
  subst eB
  have sB' := srt_app.1 sB
  have := sm_l9 (B2 ++ S) x B1 P t (by omega) (by rw [List.length_append] at *; omega)
  have e := ssA_split (κ := (Prod.fst : Ent → Int)) (A1 := []) (A2 := [x]) (B1 := B1) (B2 := B2) (List.pairwise_singleton ..) sB (by simp) (fun z hz w hw => by rw [List.mem_singleton.1 hw]; exact c1 z hz)
  rw [List.nil_append, List.nil_append, ssA_self sB'.1, List.singleton_append, ssA_self (srt_cons.2 ⟨c2, sB'.2.1⟩)] at e
  rw [← ha] at this
  rw [← e, hD]
  simpa using this
theorem sm_two (y : Ent) (A P S : List Ent) (sA : Srt (Prod.fst : Ent → Int) A) (a m t : Nat) (ha : a = P.length) (hm : m = a + A.length) (D : List Ent) (hD : D = P ++ (A ++ ([y] ++ S))) (hl : m + S.length < 1000000000)
    (h1 : a ≤ t) (h2 : t ≤ m) (g1 : a < t → (D.getD (t - 1) zE).1 ≤ (D.getD m zE).1) (g2 : t < m → (D.getD m zE).1 < (D.getD t zE).1) :
    E (fun k => slices_symMergeCmpFunc_Entry.l21 (slices_symMergeCmpFunc_Entry (k 0)) (k 0) (k 1) (t : Int) (m : Int) D) (P ++ (ssA (Prod.fst : Ent → Int) (A ++ [y]) ++ S)) := by
  have gA : ∀ i, i < A.length → D.getD (a + i) zE = A.getD i zE := fun i hi => by rw [hD, ha]; exact getD_seg P A ([y] ++ S) i hi
  have gy : D.getD m zE = y := by
    have e : m = (P ++ A).length := by rw [List.length_append]; omega
    rw [hD, e, ← List.append_assoc]; exact getD_mid ..
  rw [gy] at g1 g2
  have lA : (A.take (t - a)).length = t - a := by rw [List.length_take]; omega
  have eA : A = A.take (t - a) ++ A.drop (t - a) := (List.take_append_drop ..).symm
  have c1 : ∀ z ∈ A.take (t - a), z.1 ≤ y.1 := fun z hz => by
    have q := List.length_pos_of_mem hz
    rw [lA] at q
    have c := g1 (by omega)
    rw [show t - 1 = a + (t - a - 1) by omega, gA _ (by omega)] at c
    have := srt_take sA q (by omega) hz
    omega
  have c2 : ∀ z ∈ A.drop (t - a), y.1 < z.1 := fun z hz => by
    have q := List.length_pos_of_mem hz
    rw [List.length_drop] at q
    have c := g2 (by omega)
    rw [show t = a + (t - a) by omega, gA _ (by omega)] at c
    have := srt_drop sA hz
    omega
  generalize A.take (t - a) = A1 at *
  generalize A.drop (t - a) = A2 at *
  subst eA
  have sA' := srt_app.1 sA
  rw [List.length_append] at hm
  have := sm_l21 (P ++ A1) y A2.length A2 S rfl (by rw [List.length_append]; omega)
  rw [List.length_append, ← ha, show a + A1.length = t by omega] at this
  have e := ssA_split (κ := (Prod.fst : Ent → Int)) (A1 := A1) (A2 := A2) (B1 := [y]) (B2 := []) sA (List.pairwise_singleton ..) (by simp) (fun z hz w hw => by rw [List.mem_singleton.1 hz]; exact c2 w hw)
  rw [List.append_nil, List.append_nil, ssA_self sA'.2.1, ssA_self (srt_app.2 ⟨sA'.1, List.pairwise_singleton .., fun z hz w hw => by rw [List.mem_singleton.1 hw]; exact c1 z hz⟩)] at e
  rw [← e, hD]
  rw [show m = t + A2.length by omega]
  simpa using this
theorem sm_mono {M N : Nat} (h : SmOk N) (hm : M ≤ N) : SmOk M := fun A B P S h1 => h A B P S (by omega)
set_option maxHeartbeats 1000000 in
theorem sm_ok : ∀ N, SmOk N
  | 0 => fun A B P S h => by omega
  | N + 1 => fun A B P S hN hA hB sA sB hl a m b ha hm hb => by
    have IH := sm_ok N
    have DL : (P ++ (A ++ (B ++ S))).length = b + S.length := by simp; omega
    generalize hD : P ++ (A ++ (B ++ S)) = D at DL ⊢
    have w1 : wrap64 ((m : Int) - (a : Int)) = (A.length : Int) := by rw [wrap_id (by omega) (by omega)]; omega
    have w2 : wrap64 ((b : Int) - (m : Int)) = (B.length : Int) := by rw [wrap_id (by omega) (by omega)]; omega
    refine E.step 0 (fun v w h1 h2 => by rewrite [h1]; exact (slices_symMergeCmpFunc_Entry.succ (w 0) _).trans (slices_symMergeCmpFunc_Entry.eq ..)) ?_
    rw [w1, w2, mid_id (by omega)]
    refine E.ite (fun h => ?_) (fun h => E.ite (fun h' => ?_) (fun h' => ?_))
    · obtain ⟨x, rfl⟩ := List.length_eq_one_iff.1 (show A.length = 1 by omega)
      exact E.ren (fun _ => 0) (sm_l3 D a _ (by omega) (by omega) m b (by omega) (fun t h1 h2 g1 g2 => sm_one x B P S sB a m b t ha hm hb _ hD.symm (by omega) h1 h2 g1 g2) (b - m) m b (by omega) (by omega) (by omega) (by omega) (by omega) (by omega))
    · obtain ⟨y, rfl⟩ := List.length_eq_one_iff.1 (show B.length = 1 by omega)
      exact E.ren (fun _ => 0) (sm_l15 D m _ (by omega) (by omega) a m (by omega) (fun t h1 h2 g1 g2 => sm_two y A P S sA a m t ha hm _ hD.symm (by omega) h1 h2 g1 g2) (m - a) a m (by omega) (by omega) (by omega) (by omega) (by omega) (by omega))
    · have IH' : SmOk (A.length + B.length) := sm_mono IH (by omega)
      have lA : 2 ≤ A.length := by omega
      have lB : 2 ≤ B.length := by omega
      have hl' : b + S.length < 1000000000 := by omega
      clear w1 w2 h h' IH hN hA hB hl
      obtain ⟨mid, hmid⟩ : ∃ mid, mid = (a + b) / 2 := ⟨_, rfl⟩
      rw [← hmid]
      have hmb : mid < 1000000000 := by clear DL; omega
      have hma : a + 2 ≤ m := by clear DL hmid; omega
      have hmb2 : m + 2 ≤ b := by clear DL hmid; omega
      have hmid2 : 2 * mid ≤ a + b ∧ a + b ≤ 2 * mid + 1 := by clear DL; omega
      obtain ⟨p, hp⟩ : ∃ p, p + 1 = mid + m := ⟨mid + m - 1, by omega⟩
      have w3 : wrap64 ((mid : Int) + (m : Int)) = ((mid + m : Nat) : Int) := wr_add _ _ _ rfl (by clear DL hmid; omega)
      have w4 : wrap64 (((mid + m : Nat) : Int) - 1) = (p : Int) := by clear DL hmid; rw [wrap_id (by omega) (by omega)]; omega
      rw [w3, w4]
      refine E.ite (fun h5 => ?_) (fun h5 => ?_)
      · obtain ⟨s0, hs⟩ : ∃ s0, s0 + b = mid + m := ⟨mid + m - b, by clear DL hmid; omega⟩
        have w5 : wrap64 (((mid + m : Nat) : Int) - (b : Int)) = (s0 : Int) := by clear DL hmid; rw [wrap_id (by omega) (by omega)]; omega
        rw [w5]
        have q1 : s0 ≤ mid := by clear DL hmid; omega
        have q2 : m > mid := by clear DL hmid; omega
        have := sm_l33 IH' A B P S rfl lA lB sA sB a m b mid p s0 mid ha hm hb hmid hp (.inl ⟨q2, hs, rfl⟩) D hD.symm hl' DL mid s0 mid (Nat.sub_le ..) (Nat.le_refl _) q1 (Nat.le_refl _) (fun h => absurd h (Nat.lt_irrefl _)) (fun h => absurd h (Nat.lt_irrefl _))
        exact E.ren (fun _ => 0) this
      · have q2 : m ≤ mid := by clear DL hmid; omega
        have := sm_l33 IH' A B P S rfl lA lB sA sB a m b mid p a m ha hm hb hmid hp (.inr ⟨q2, rfl, rfl⟩) D hD.symm hl' DL m a m (Nat.sub_le ..) (Nat.le_refl _) (Nat.le_trans (Nat.le_add_right a 2) hma) (Nat.le_refl _) (fun h => absurd h (Nat.lt_irrefl _)) (fun h => absurd h (Nat.lt_irrefl _))
        exact E.ren (fun _ => 0) this
end Go.Proofs.YtggofaadaepdkaaG
end
section
set_option linter.unusedVariables false
namespace Go.Proofs.YtggofaadaepdkaaG
open Go Go.Refl Go.Refl.Math Go.RowKit
theorem insAt (P A S : List Ent) (a b : Nat) (ha : a = P.length) (hb : b = a + A.length) (hl : b + S.length < 1000000) :
    E (fun k => slices_insertionSortCmpFunc_Entry (k 0) (P ++ (A ++ S), (a : Int), (b : Int), ())) (P ++ (ssA (Prod.fst : Ent → Int) A ++ S)) := by
  have := ins_E P A S (by omega)
  rw [← ha, ← hb] at this
  simpa using this
theorem stab_l7 (L : List Ent) (n x : Nat) (h : n ≤ x) : E (fun k => slices_stableCmpFunc_Entry.l7 (k 0) (k 1) (n : Int) (x : Int) L) L := by
  refine E.step 1 (fun v w h1 h2 => by rewrite [h1, h2 0 (by decide)]; exact slices_stableCmpFunc_Entry.l7_succ ..) ?_
  exact E.neg (by omega) (E.now _)
theorem stab_m (X Y : List Ent) (hX : X.length = 20) (hY : Y.length ≤ 20) (sX : Srt (Prod.fst : Ent → Int) X) (sY : Srt (Prod.fst : Ent → Int) Y) :
    E (fun k => slices_stableCmpFunc_Entry.l7 (k 0) (k 1) ((20 + Y.length : Nat) : Int) 20 (X ++ Y)) (ssA (Prod.fst : Ent → Int) (X ++ Y)) := by
  by_cases h0 : Y.length = 0
  · have e : Y = [] := List.length_eq_zero_iff.1 h0
    subst e
    rw [List.append_nil, ssA_self sX]
    exact stab_l7 X _ 20 (by simp)
  · have hm := sm_ok (X.length + Y.length + 1) X Y [] [] (by omega) (by omega) (by omega) sX sY (by simp; omega) 0 20 (20 + Y.length) rfl (by omega) rfl
    simp only [List.nil_append, List.append_nil] at hm
    refine E.step 1 (fun v w h1 h2 => by rewrite [h1, h2 0 (by decide)]; exact slices_stableCmpFunc_Entry.l7_succ ..) ?_
    refine E.pos (by omega) ?_
    refine E.enter2 (f := fun a b c => slices_stableCmpFunc_Entry.l9 a b c ((20 + Y.length : Nat) : Int) 20 0 (wrap64 (2 * 20)) (X ++ Y)) ?_
    refine E.step 2 (fun v w h1 h2 => by rewrite [h1, h2 0 (by decide), h2 1 (by decide)]; exact slices_stableCmpFunc_Entry.l9_succ ..) ?_
    have w1 : wrap64 (2 * 20) = 40 := by decide
    have w2 : wrap64 (0 + 20) = 20 := by decide
    have w3 : wrap64 (20 * 2) = 40 := by decide
    have w4 : wrap64 (40 + wrap64 (2 * 20)) = 80 := by decide
    have w5 : wrap64 (40 + 20) = 60 := by decide
    simp only [w1, w2, w3]
    refine E.ite (fun h => ?_) (fun h => E.pos (by omega) (E.bind hm (stab_l7 _ _ 40 (by omega))))
    have hY2 : Y.length = 20 := by omega
    rw [hY2] at hm ⊢
    refine E.bind hm ?_
    refine E.step 2 (fun v w h1 h2 => by rewrite [h1, h2 0 (by decide), h2 1 (by decide)]; exact slices_stableCmpFunc_Entry.l9_succ ..) ?_
    exact E.neg (by decide) (E.neg (by decide) (stab_l7 _ 40 40 (by omega)))
theorem stab_E (L : List Ent) (hL : L.length ≤ 40) : E (fun k => slices_stableCmpFunc_Entry (k 0) (L, (L.length : Int), ())) (ssA (Prod.fst : Ent → Int) L) := by
  refine E.congr (fun k => slices_stableCmpFunc_Entry.eq (k 0) ..) ?_
  refine E.enter (f := fun a b => slices_stableCmpFunc_Entry.l2 a b (L.length : Int) 20 0 20 L) ?_
  have w1 : wrap64 (20 + 20) = 40 := by decide
  have w2 : wrap64 (40 + 20) = 60 := by decide
  refine E.step 1 (fun v w h1 h2 => by rewrite [h1, h2 0 (by decide)]; exact slices_stableCmpFunc_Entry.l2_succ ..) ?_
  by_cases h : L.length < 20
  · have := insAt [] L [] 0 L.length rfl (by omega) (by simp; omega)
    simp only [List.nil_append, List.append_nil] at this
    exact E.neg (by omega) (E.bind this (E.ren (fun _ => 0) (stab_l7 _ L.length 20 (by omega))))
  · obtain ⟨X, Y, hX, rfl⟩ : ∃ X Y, X.length = 20 ∧ L = X ++ Y := ⟨L.take 20, L.drop 20, by rw [List.length_take]; omega, (List.take_append_drop ..).symm⟩
    rw [List.length_append, hX] at hL h ⊢
    have lX : (ssA (Prod.fst : Ent → Int) X).length = 20 := by rw [ssA_len, hX]
    have lY : (ssA (Prod.fst : Ent → Int) Y).length = Y.length := ssA_len ..
    have i1 := insAt [] X Y 0 20 rfl (by omega) (by omega)
    simp only [List.nil_append] at i1
    have fin := stab_m (ssA (Prod.fst : Ent → Int) X) (ssA (Prod.fst : Ent → Int) Y) lX (by omega) (ssA_srt ..) (ssA_srt ..)
    rw [lY, ssA_congr (κ := (Prod.fst : Ent → Int)) (l := X ++ Y) (r := ssA (Prod.fst : Ent → Int) X ++ ssA (Prod.fst : Ent → Int) Y) (fun d => by rw [fil_app, fil_app, ssA_fil, ssA_fil])] at fin
    refine E.pos (by omega) (E.bind i1 ?_)
    refine E.step 1 (fun v w h1 h2 => by rewrite [h1, h2 0 (by decide)]; exact slices_stableCmpFunc_Entry.l2_succ ..) ?_
    simp only [w1, w2]
    refine E.ite (fun h2 => ?_) (fun h2 => ?_)
    · have hY : Y.length = 20 := by omega
      have i2 := insAt (ssA (Prod.fst : Ent → Int) X) Y [] 20 40 (by omega) (by omega) (by simp)
      have i3 := insAt (ssA (Prod.fst : Ent → Int) X ++ ssA (Prod.fst : Ent → Int) Y) [] [] 40 40 (by rw [List.length_append]; omega) (by simp) (by simp)
      simp only [List.append_nil, ssA] at i2 i3
      rw [hY] at fin ⊢
      refine E.bind i2 ?_
      refine E.step 1 (fun v w h1 h2 => by rewrite [h1, h2 0 (by decide)]; exact slices_stableCmpFunc_Entry.l2_succ ..) ?_
      exact E.neg (by decide) (E.bind i3 (E.ren (fun _ => 0) fin))
    · have i2 := insAt (ssA (Prod.fst : Ent → Int) X) Y [] 20 (20 + Y.length) (by omega) (by omega) (by simp; omega)
      simp only [List.append_nil] at i2
      exact E.bind i2 (E.ren (fun _ => 0) fin)
theorem sortStable_E (L : List Ent) (hL : L.length ≤ 40) : E (fun k => slices_SortStableFunc_Entry (k 0) (L, ())) (ssA (Prod.fst : Ent → Int) L) :=
  E.congr (fun k => slices_SortStableFunc_Entry.eq (k 0) ..) (E.bind (stab_E L hL) (E.now _))
end Go.Proofs.YtggofaadaepdkaaG
end
section
set_option linter.unusedVariables false
namespace Go.Proofs.YtggofaadaepdkaaG
open Go Go.Refl Go.Refl.Math Go.RowKit
def byV (L : List Ent) : List Ent := if vEs L then ssA (Prod.fst : Ent → Int) L else []
theorem implByDay_E (L : List Ent) (hL : L.length ≤ 1000) : E (fun k => impl_ByDay (k 0) L) (byV L) := by
  refine E.congr (fun k => impl_ByDay.eq (k 0) L) (E.bind (implValidEntries_E L) ?_)
  unfold byV
  by_cases h : vEs L = true
  · rw [if_pos h]
    exact E.neg (by rw [h]; decide) (E.bind (cloneE_E L (by omega)) (E.bind (sortStable_E L (vEs_iff.1 h).1) (E.now _)))
  · rw [if_neg h]
    exact E.pos (by rw [Bool.eq_false_iff.2 h]; rfl) (E.now _)
theorem ss_snoc {P s1 s2 : List Ent} {x : Ent} (hs : Srt (Prod.fst : Ent → Int) (s1 ++ s2)) (h1 : ∀ y ∈ s1, y.1 ≤ x.1) (h2 : ∀ y ∈ s2, x.1 < y.1) (hf : ∀ d, fil (Prod.fst : Ent → Int) d (s1 ++ s2) = fil (Prod.fst : Ent → Int) d P) : s1 ++ x :: s2 = ssA (Prod.fst : Ent → Int) (P ++ [x]) := by
  have hs' := srt_app.1 hs
  refine ssA_is (srt_app.2 ⟨hs'.1, srt_cons.2 ⟨fun y hy => Int.le_of_lt (h2 y hy), hs'.2.1⟩, fun a ha b hb => ?_⟩) fun d => ?_
  · rcases List.mem_cons.1 hb with rfl | hb
    · exact h1 a ha
    · exact hs'.2.2 a ha b hb
  · rw [fil_app, fil_app, ← hf d, fil_app, fil_cons, fil_cons]
    by_cases hd : x.1 = d
    · have : fil (Prod.fst : Ent → Int) d s2 = [] := by
        rw [List.eq_nil_iff_forall_not_mem]
        intro y hy
        have := fil_mem.1 hy
        have := h2 y this.1
        omega
      rw [if_pos hd, if_pos hd, this]; simp [fil]
    · rw [if_neg hd, if_neg hd]; simp [fil]
theorem put_eq (s1 s2 : List Ent) (x : Ent) : List.take (s1.length - 0) (s1 ++ s2) ++ List.set (List.replicate 1 ((0 : Int), (0 : Int), (0 : Int), (0 : Int))) 0 x ++ (List.replicate 0 ((0 : Int), (0 : Int), (0 : Int), (0 : Int)) ++ List.take ((s1 ++ s2).length - s1.length) (List.drop s1.length (s1 ++ s2))) = s1 ++ x :: s2 := by simp
theorem byDay_l6 (L P : List Ent) (i : Nat) (x : Ent) (hi : i < L.length) (hL : L.length ≤ 1000) (hx : L.getD i zE = x) (z : List Ent)
    (hr : E (fun k => spec_byDay.l3 (k 0) (k 1) L ((i + 1 : Nat) : Int) (ssA (Prod.fst : Ent → Int) (P ++ [x]))) z) : ∀ (n : Nat) (s1 s2 : List Ent), s1.length = n → (s1 ++ s2).length ≤ 1000 → Srt (Prod.fst : Ent → Int) (s1 ++ s2) → (∀ y ∈ s2, x.1 < y.1) → (∀ d, fil (Prod.fst : Ent → Int) d (s1 ++ s2) = fil (Prod.fst : Ent → Int) d P) →
    E (fun k => spec_byDay.l6 (k 0) (k 1) (k 2) L (i : Int) (s1.length : Int) (s1 ++ s2)) z
  | n, s1, s2, hn, hl, hs, h2, hf => by
    have hlen : (s1 ++ s2).length = s1.length + s2.length := List.length_append
    have w0 := wrap_nat (n := i) (by omega)
    have tail : (∀ y ∈ s1, y.1 ≤ x.1) → E (fun k => spec_byDay.l3 (k 0) (k 1) L (wrap64 ((i : Int) + 1)) (List.take (s1.length - 0) (s1 ++ s2) ++ List.set (List.replicate 1 ((0 : Int), (0 : Int), (0 : Int), (0 : Int))) 0 x ++ (List.replicate 0 ((0 : Int), (0 : Int), (0 : Int), (0 : Int)) ++ List.take ((s1 ++ s2).length - s1.length) (List.drop s1.length (s1 ++ s2))))) z := fun h1 => by
      rw [put_eq, ss_snoc hs h1 h2 hf, w0]
      exact hr
    obtain rfl | ⟨t, y, rfl⟩ : s1 = [] ∨ ∃ t y, s1 = t ++ [y] := by
      rcases List.eq_nil_or_concat s1 with h | ⟨t, y, h⟩
      · exact .inl h
      · exact .inr ⟨t, y, by simpa using h⟩
    · refine E.step 2 (fun v w h1 h2 => by rewrite [h1, h2 0 (by decide), h2 1 (by decide)]; exact spec_byDay.l6_succ ..) ?_
      simp only [Int.toNat_natCast, hx]
      refine E.neg (by simp) ?_
      refine E.pos (by simp) (E.pos (by simp) (E.pos (by simp [maxN]; simp at hl; omega) (E.pos (by simp) (E.pos (by simp) (E.pos (by omega) (E.pos (by omega) (E.pos (by simp [maxN]) (E.pos (by simp [maxN]; simp at hl; omega) ?_))))))))
      exact tail (by simp)
    · have e1 : (t ++ [y]).length = t.length + 1 := by simp
      have w1 : wrap64 (((t ++ [y]).length : Int) - 1) = (t.length : Int) := by rw [e1, wrap_id (by omega) (by omega)]; omega
      have e2 : ((t ++ [y]) ++ s2).getD t.length zE = y := by
        simp
      refine E.step 2 (fun v w h1 h2 => by rewrite [h1, h2 0 (by decide), h2 1 (by decide)]; exact spec_byDay.l6_succ ..) ?_
      simp only [w1, Int.toNat_natCast, hx, e2]
      refine E.pos (by omega) (E.pos (by omega) (E.pos (by rw [hlen, e1]; omega) (E.pos (by omega) (E.pos (by omega) (E.ite (fun h => ?_) (fun h => ?_))))))
      · have ih := byDay_l6 L P i x hi hL hx z hr t.length t (y :: s2) rfl (by simpa using hl) (by simpa using hs) (fun u hu => by
          rcases List.mem_cons.1 hu with rfl | hu
          · exact h
          · exact h2 u hu) (by simpa using hf)
        have e3 : t ++ y :: s2 = (t ++ [y]) ++ s2 := by simp
        rwa [e3] at ih
      · refine E.pos (by omega) (E.pos (by rw [hlen]; omega) (E.pos (by simp [maxN]; simp at hl; omega) (E.pos (by omega) (E.pos (by rw [hlen]; omega) (E.pos (by omega) (E.pos (by omega) (E.pos (by simp [maxN]; simp at hl; omega) (E.pos (by simp [maxN]; simp at hl; omega) ?_))))))))
        refine tail fun u hu => ?_
        rcases List.mem_append.1 hu with hu | hu
        · have := (srt_app.1 (srt_app.1 hs).1).2.2 u hu y (by simp)
          have h' : ¬ y.1 > x.1 := h
          omega
        · rw [List.mem_singleton.1 hu]
          have h' : ¬ y.1 > x.1 := h
          omega
termination_by n => n
decreasing_by omega
theorem byDay_l3 : ∀ (post pre : List Ent), (pre ++ post).length ≤ 1000 →
    E (fun k => spec_byDay.l3 (k 0) (k 1) (pre ++ post) (pre.length : Int) (ssA (Prod.fst : Ent → Int) pre)) (ssA (Prod.fst : Ent → Int) (pre ++ post))
  | [], pre, hl => by
    refine E.step 1 (fun v w h1 h2 => by rewrite [h1, h2 0 (by decide)]; exact spec_byDay.l3_succ ..) ?_
    exact E.neg (by simp) (E.now' (by simp))
  | x :: post, pre, hl => by
    have hlen : (pre ++ x :: post).length = pre.length + (post.length + 1) := by simp
    have ih := byDay_l3 post (pre ++ [x]) (by simpa using hl)
    rw [show (pre ++ [x]).length = pre.length + 1 from by simp, List.append_assoc] at ih
    refine E.step 1 (fun v w h1 h2 => by rewrite [h1, h2 0 (by decide)]; exact spec_byDay.l3_succ ..) ?_
    refine E.pos (by omega) ?_
    have := byDay_l6 (pre ++ x :: post) pre pre.length x (by omega) hl (getD_mid ..) _ ih (ssA (Prod.fst : Ent → Int) pre).length (ssA (Prod.fst : Ent → Int) pre) [] rfl (by simp [ssA_len]; omega) (by simpa using ssA_srt (Prod.fst : Ent → Int) pre) (by simp) (fun d => by rw [List.append_nil, ssA_fil])
    rw [List.append_nil] at this
    exact E.ren (fun i => if i = 2 then 0 else i) this
theorem specByDay_E (L : List Ent) (hL : L.length ≤ 1000) : E (fun k => spec_ByDay (k 0) L) (byV L) := by
  refine E.congr (fun k => spec_ByDay.eq (k 0) L) (E.bind (specValidEntries_E L (by omega)) ?_)
  unfold byV
  by_cases h : vEs L = true
  · rw [if_pos h]
    have := byDay_l3 L [] (by simpa using hL)
    exact E.neg (by rw [h]; decide) (E.bind (E.congr (fun k => spec_byDay.eq (k 0) L) (E.ren (fun _ => 0) this)) (E.now _))
  · rw [if_neg h]
    exact E.pos (by rw [Bool.eq_false_iff.2 h]; rfl) (E.now _)
end Go.Proofs.YtggofaadaepdkaaG
end
section
set_option linter.unusedVariables false
namespace Go.Proofs.YtggofaadaepdkaaG
open Go Go.Refl Go.Refl.Math Go.RowKit
theorem sz_E (l : List Ent) (left : Int) (h1 : -9223372036854775808 ≤ left - (l.length : Int)) (h2 : left ≤ 9000000000000000000) : E (fun k => laws_szEntryS (k 0) (l, left)) (if left - (l.length : Int) < 0 then -1 else left - (l.length : Int)) := by
  refine E.congr (fun k => laws_szEntryS.eq (k 0) l left) ?_
  rw [wrap_id (x := left - (l.length : Int)) (by omega) (by omega)]
  refine E.ite (fun h => E.now' (by rw [if_pos h])) (fun h => E.now' (by rw [if_neg h]))
theorem toEnt_E (e : Ent) : E (fun k => laws_toEntry (k 0) e) e := E.congr (fun k => laws_toEntry.eq (k 0) e) (E.now _)
theorem toEnts_l3 : ∀ (post pre : List Ent) (m : Nat), post.length = m → (pre ++ post).length < 1000000000 →
    E (fun k => laws_toEntryS.l3 (k 0) (k 1) (pre ++ post) (pre.length : Int) (pre ++ List.replicate m zE)) (pre ++ post)
  | [], pre, m, hm, hl => by
    have hm0 : m = 0 := by simpa using hm.symm
    subst hm0
    refine E.step 1 (fun v w h1 h2 => by rewrite [h1, h2 0 (by decide)]; exact laws_toEntryS.l3_succ ..) ?_
    exact E.neg (by simp) (E.now' (by simp))
  | x :: post, pre, 0, hm, hl => by simp at hm
  | x :: post, pre, m + 1, hm, hl => by
    have hlen : (pre ++ x :: post).length = pre.length + (post.length + 1) := by simp
    have ih := toEnts_l3 post (pre ++ [x]) m (by simpa using hm) (by simpa using hl)
    rw [show (pre ++ [x]).length = pre.length + 1 from by simp, List.append_assoc] at ih
    have hlr : (pre ++ List.replicate (m + 1) zE).length = pre.length + (m + 1) := by simp
    have hset : (pre ++ List.replicate (m + 1) zE).set pre.length x = (pre ++ [x]) ++ List.replicate m zE := by rw [List.replicate_succ]; simp
    refine E.step 1 (fun v w h1 h2 => by rewrite [h1, h2 0 (by decide)]; exact laws_toEntryS.l3_succ ..) ?_
    simp only [Int.toNat_natCast, getD_mid]
    rw [wrap_nat (by omega)]
    exact E.pos (by omega) (E.pos (by omega) (E.pos (by omega) (E.bind (toEnt_E x) (E.pos (by omega) (E.pos (by omega) (by rw [hset]; simpa using ih))))))
theorem toEnts_E (l : List Ent) (hl : l.length < 1000000000) : E (fun k => laws_toEntryS (k 0) l) l := by
  have := toEnts_l3 l [] l.length rfl (by simpa using hl)
  refine E.congr (fun k => laws_toEntryS.eq (k 0) l) (E.pos (by omega) (E.pos (by omega) (E.pos (by simp [maxN]; omega) ?_)))
  rw [Int.toNat_natCast]
  exact E.ren (fun _ => 0) this
theorem eqEnt_E (a b : Ent) : E (fun k => laws_eqEntry (k 0) (a, b)) (decide (a = b)) := by
  obtain ⟨a1, a2, a3, a4⟩ := a
  obtain ⟨b1, b2, b3, b4⟩ := b
  refine E.congr (fun k => laws_eqEntry.eq (k 0) ..) ?_
  refine E.ite (fun h1 => E.ite (fun h2 => E.ite (fun h3 => E.ite (fun h4 => E.now' ?_) (fun h4 => E.now' ?_)) (fun h3 => E.now' ?_)) (fun h2 => E.now' ?_)) (fun h1 => E.now' ?_)
  all_goals (rw [Bool.eq_iff_iff]; simp only [decide_eq_true_eq, Prod.mk.injEq] at *; simp_all)
theorem eqEnts_l4 : ∀ (post post2 pre pre2 : List Ent), (pre ++ post).length < 1000000000 → pre.length = pre2.length → post.length = post2.length → pre = pre2 →
    E (fun k => laws_eqEntryS.l4 (k 0) (k 1) (pre ++ post) (pre2 ++ post2) (pre.length : Int)) (decide (pre ++ post = pre2 ++ post2))
  | [], [], pre, pre2, hl, h1, h2, h3 => by
    refine E.step 1 (fun v w h1 h2 => by rewrite [h1, h2 0 (by decide)]; exact laws_eqEntryS.l4_succ ..) ?_
    exact E.neg (by simp) (E.now' (by simp [h3]))
  | x :: post, [], pre, pre2, hl, h1, h2, h3 => by simp at h2
  | [], y :: post2, pre, pre2, hl, h1, h2, h3 => by simp at h2
  | x :: post, y :: post2, pre, pre2, hl, h1, h2, h3 => by
    subst h3
    have hlen : (pre ++ x :: post).length = pre.length + (post.length + 1) := by simp
    have hlen2 : (pre ++ y :: post2).length = pre.length + (post2.length + 1) := by simp
    refine E.step 1 (fun v w h1 h2 => by rewrite [h1, h2 0 (by decide)]; exact laws_eqEntryS.l4_succ ..) ?_
    simp only [Int.toNat_natCast, getD_mid]
    rw [wrap_nat (by omega)]
    refine E.pos (by omega) (E.pos (by omega) (E.pos (by omega) (E.pos (by omega) (E.pos (by omega) (E.bind (eqEnt_E x y) ?_)))))
    by_cases hxy : x = y
    · subst hxy
      have ih := eqEnts_l4 post post2 (pre ++ [x]) (pre ++ [x]) (by simpa using hl) rfl (by simpa using h2) rfl
      rw [show (pre ++ [x]).length = pre.length + 1 from by simp] at ih
      refine E.neg (by simp) ?_
      simpa using ih
    · exact E.pos (by simp [hxy]) (E.now' (by simp [hxy]))
theorem eqEnts_E (a b : List Ent) (hl : a.length < 1000000000) : E (fun k => laws_eqEntryS (k 0) (a, b)) (decide (a = b)) := by
  refine E.congr (fun k => laws_eqEntryS.eq (k 0) a b) (E.ite (fun h => ?_) (fun h => E.now' ?_))
  · exact E.ren (fun _ => 0) (eqEnts_l4 a b [] [] (by simpa using hl) rfl (by omega) rfl)
  · have : a ≠ b := fun e => h (by rw [e])
    simp [this]
def mkE (k : Int) : Nat → List Ent
  | 0 => []
  | n + 1 => (k, k + 1, k + 2, k + 3) :: mkE (k + 4) n
theorem mkE_len (k : Int) : ∀ n, (mkE k n).length = n := by
  intro n
  induction n generalizing k with
  | zero => rfl
  | succ n ih => simp [mkE, ih]
theorem markEnts_l2 : ∀ (post pre : List Ent) (x : Int), (pre ++ post).length < 1000000000 → 0 ≤ x → x + 4 * (post.length : Int) < 1000000000000 →
    E (fun k => laws_markEntryS.l2 (k 0) (k 1) x (pre.length : Int) (pre ++ post)) (x + 4 * (post.length : Int), pre ++ mkE x post.length)
  | [], pre, x, hl, h0, h1 => by
    refine E.step 1 (fun v w h1 h2 => by rewrite [h1, h2 0 (by decide)]; exact laws_markEntryS.l2_succ ..) ?_
    exact E.neg (by simp) (E.now' (by simp [mkE]))
  | e :: post, pre, x, hl, h0, h1 => by
    have hlen : (pre ++ e :: post).length = pre.length + (post.length + 1) := by simp
    simp only [List.length_cons] at h1
    have ih := markEnts_l2 post (pre ++ [(x, x + 1, x + 2, x + 3)]) (x + 4) (by simpa using hl) (by omega) (by omega)
    rw [show (pre ++ [(x, x + 1, x + 2, x + 3)]).length = pre.length + 1 from by simp, List.append_assoc] at ih
    have w1 : wrap64 (x + 1) = x + 1 := wrap_id (by omega) (by omega)
    have w2 : wrap64 (x + 1 + 1) = x + 2 := by rw [wrap_id (by omega) (by omega)]; omega
    have w3 : wrap64 (x + 2 + 1) = x + 3 := by rw [wrap_id (by omega) (by omega)]; omega
    have w4 : wrap64 (x + 3 + 1) = x + 4 := by rw [wrap_id (by omega) (by omega)]; omega
    have q1 : (pre.length : Int) < ((pre ++ e :: post).length : Int) := by omega
    have ql : ∀ y : Ent, (pre.length : Int) < ((pre ++ y :: post).length : Int) := fun y => by simp; omega
    refine E.step 1 (fun v w h1 h2 => by rewrite [h1, h2 0 (by decide)]; exact laws_markEntryS.l2_succ ..) ?_
    simp only [Int.toNat_natCast, getD_mid, set_midA]
    refine E.pos q1 (E.pos (Int.natCast_nonneg _) (E.pos q1 ?_))
    refine E.congr (fun k => laws_markEntryS.j5_eq ..) ?_
    simp only [Int.toNat_natCast, getD_mid, set_midA, w1]
    refine E.pos (Int.natCast_nonneg _) (E.pos (ql _) ?_)
    refine E.congr (fun k => laws_markEntryS.j7_eq ..) ?_
    simp only [Int.toNat_natCast, getD_mid, set_midA, w2]
    refine E.pos (Int.natCast_nonneg _) (E.pos (ql _) ?_)
    refine E.congr (fun k => laws_markEntryS.j9_eq ..) ?_
    simp only [Int.toNat_natCast, getD_mid, set_midA, w3]
    refine E.pos (Int.natCast_nonneg _) (E.pos (ql _) ?_)
    refine E.congr (fun k => laws_markEntryS.j11_eq ..) ?_
    simp only [w4]
    rw [wrap_nat (by omega)]
    have e1 : x + 4 + 4 * (post.length : Int) = x + 4 * ((e :: post).length : Int) := by rw [List.length_cons]; omega
    rw [e1] at ih
    simpa [mkE] using ih
theorem markEnts_E (l : List Ent) (x : Int) (hl : l.length < 1000000000) (h0 : 0 ≤ x) (h1 : x ≤ 100000000000) : E (fun k => laws_markEntryS (k 0) (l, x)) (x + 4 * (l.length : Int), mkE x l.length) := by
  refine E.congr (fun k => laws_markEntryS.eq (k 0) l x) ?_
  have := markEnts_l2 l [] x (by simpa using hl) h0 (by omega)
  exact E.ren (fun _ => 0) this
theorem heldEnts_l2 : ∀ (n : Nat) (pre : List Ent) (x : Int), pre.length + n < 1000000000 → 0 ≤ x → x + 4 * (n : Int) < 1000000000000 →
    E (fun k => laws_heldEntryS.l2 (k 0) (k 1) (pre ++ mkE x n) x (pre.length : Int)) (x + 4 * (n : Int))
  | 0, pre, x, hl, h0, h1 => by
    refine E.step 1 (fun v w h1 h2 => by rewrite [h1, h2 0 (by decide)]; exact laws_heldEntryS.l2_succ ..) ?_
    exact E.neg (by simp [mkE]) (E.now' (by simp))
  | n + 1, pre, x, hl, h0, h1 => by
    have ih := heldEnts_l2 n (pre ++ [(x, x + 1, x + 2, x + 3)]) (x + 4) (by simp; omega) (by omega) (by omega)
    rw [show (pre ++ [(x, x + 1, x + 2, x + 3)]).length = pre.length + 1 from by simp, List.append_assoc, show x + 4 + 4 * (n : Int) = x + 4 * ((n + 1 : Nat) : Int) by omega] at ih
    have w1 : wrap64 (x + 1) = x + 1 := wrap_id (by omega) (by omega)
    have w2 : wrap64 (x + 1 + 1) = x + 2 := by rw [wrap_id (by omega) (by omega)]; omega
    have w3 : wrap64 (x + 2 + 1) = x + 3 := by rw [wrap_id (by omega) (by omega)]; omega
    have w4 : wrap64 (x + 3 + 1) = x + 4 := by rw [wrap_id (by omega) (by omega)]; omega
    have q1 : (pre.length : Int) < ((pre ++ mkE x (n + 1)).length : Int) := by rw [List.length_append, mkE_len]; omega
    have gx : (pre ++ mkE x (n + 1)).getD pre.length zE = (x, x + 1, x + 2, x + 3) := getD_mid ..
    refine E.step 1 (fun v w h1 h2 => by rewrite [h1, h2 0 (by decide)]; exact laws_heldEntryS.l2_succ ..) ?_
    simp only [Int.toNat_natCast, gx, w1, w2, w3, w4]
    rw [wrap_nat (by omega)]
    have p0 := Int.natCast_nonneg pre.length
    refine E.pos q1 (E.pos p0 (E.pos q1 (E.pos trivial (E.pos p0 (E.pos q1 (E.pos trivial (E.pos p0 (E.pos q1 (E.pos trivial (E.pos p0 (E.pos q1 (E.pos trivial ?_))))))))))))
    exact ih
theorem heldEnts_E (n : Nat) (x : Int) (hl : n < 1000000000) (h0 : 0 ≤ x) (h1 : x ≤ 100000000000) : E (fun k => laws_heldEntryS (k 0) (mkE x n, x)) (x + 4 * (n : Int)) := by
  refine E.congr (fun k => laws_heldEntryS.eq (k 0) ..) ?_
  have := heldEnts_l2 n [] x (by simpa using hl) h0 (by omega)
  exact E.ren (fun _ => 0) this
theorem byV_le (L : List Ent) : (byV L).length ≤ 40 := by
  unfold byV
  split
  · rename_i h
    rw [ssA_len]; exact (vEs_iff.1 h).1
  · simp
theorem specByDay_big (L : List Ent) (hL : L.length < 1000000000) : E (fun k => spec_ByDay (k 0) L) (byV L) := by
  by_cases h : L.length ≤ 1000
  · exact specByDay_E L h
  · have hv : vEs L = false := by
      cases hc : vEs L with
      | false => rfl
      | true => have := (vEs_iff.1 hc).1; omega
    refine E.congr (fun k => spec_ByDay.eq (k 0) L) (E.bind (specValidEntries_E L (by omega)) (E.pos (by rw [hv]; rfl) (E.now' ?_)))
    unfold byV; rw [hv]; simp
theorem implByDay_big (L : List Ent) (hL : L.length < 1000000000) : E (fun k => impl_ByDay (k 0) L) (byV L) := by
  by_cases h : L.length ≤ 1000
  · exact implByDay_E L h
  · have hv : vEs L = false := by
      cases hc : vEs L with
      | false => rfl
      | true => have := (vEs_iff.1 hc).1; omega
    refine E.congr (fun k => impl_ByDay.eq (k 0) L) (E.bind (implValidEntries_E L) (E.pos (by rw [hv]; rfl) (E.now' ?_)))
    unfold byV; rw [hv]; simp
theorem FnExactByDay_pure (l : List Ent) (hw : WfT (.slice (.pair (.int .i64) (.pair (.int .i64) (.pair (.int .i64) (.int .i64))))) l) : ∃ n, laws_FnExactByDay n l = some true := by
  have hml := hw.1
  have hm63 : (l.length : Int) ≤ 9223372036854775807 := by unfold maxLen at hml; omega
  refine E.one (E.congr (fun k => laws_FnExactByDay.eq (k 0) l) (E.bind (sz_E l 1048576 (by omega) (by omega)) (E.ite (fun h => E.now _) (fun h => ?_))))
  have hl : l.length ≤ 1048576 := by
    by_cases q : (1048576 : Int) - (l.length : Int) < 0
    · rw [if_pos q] at h; exact absurd (show (-1 : Int) < 0 by decide) h
    · omega
  have to := toEnts_E l (by omega)
  have gs := specByDay_big l (by omega)
  have gi := implByDay_big l (by omega)
  have hb := byV_le l
  have e1 := eqEnts_E (byV l) (byV l) (by omega)
  have e2 := eqEnts_E l l (by omega)
  have m1 := markEnts_E l 1 (by omega) (by omega) (by omega)
  have m2 := markEnts_E (byV l) 1 (by omega) (by omega) (by omega)
  have h2 := heldEnts_E (byV l).length 1 (by omega) (by omega) (by omega)
  rw [show decide (byV l = byV l) = true by simp] at e1
  rw [show decide (l = l) = true by simp] at e2
  refine E.bind to (E.bind gs (E.bind to (E.bind gi (E.bind e1 (E.neg (by decide) (E.bind to (E.bind e2 (E.neg (by decide) (E.bind m1 (E.neg (by simp only; omega) (E.bind e1 (E.neg (by decide) (E.bind m2 (E.bind h2 (E.neg (by omega) (E.pos rfl ?_))))))))))))))))
  exact E.bind to (E.bind gi (E.bind e1 (E.neg (by decide) (E.bind h2 (E.neg (by omega) (E.pos rfl (E.now _)))))))
end Go.Proofs.YtggofaadaepdkaaG
end
