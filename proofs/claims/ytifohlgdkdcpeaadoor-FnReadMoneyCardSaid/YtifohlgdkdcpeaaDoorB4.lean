import Derived.Lib.AtoiAllCases
import Derived.Test.YtifohlgdkdcpeaaDoorB3
/- FnReadMoney: mathematics of the law. No condition. -/
set_option linter.unusedVariables false
set_option linter.unusedSimpArgs false
section
set_option linter.unusedVariables false
namespace Go.Refl.Math
open Go Go.Refl Go.RowKit
def E {α : Type} (f : (Nat → Nat) → Option α) (r : α) : Prop := ∃ K, ∀ v : Nat → Nat, (∀ i, K ≤ v i) → f v = some r
variable {α β : Type}
theorem E.now (r : α) : E (fun _ => some r) r := ⟨0, fun _ _ => rfl⟩
theorem E.now' {r r' : α} (h : r = r') : E (fun _ => some r) r' := h ▸ E.now r
theorem E.congr {f g : (Nat → Nat) → Option α} {r : α} (h : ∀ v, f v = g v) (k : E g r) : E f r := by
  obtain ⟨K, k⟩ := k
  exact ⟨K, fun v hv => (h v).trans (k v hv)⟩
theorem E.veil (r : α) : E (fun _ => veilO r) r := E.congr (fun _ => veilO_eq r) (E.now r)
theorem E.bind {f : (Nat → Nat) → Option α} {g : (Nat → Nat) → α → Option β} {a : α} {r : β} (h : E f a) (k : E (fun v => g v a) r) : E (fun v => (f v).bind (g v)) r := by
  obtain ⟨K, h⟩ := h
  obtain ⟨L, k⟩ := k
  exact ⟨max K L, fun v hv => by
    show (f v).bind (g v) = some r
    rw [h v (fun i => Nat.le_trans (Nat.le_max_left ..) (hv i))]
    exact k v (fun i => Nat.le_trans (Nat.le_max_right ..) (hv i))⟩
theorem E.pos {c : Prop} [Decidable c] {f g : (Nat → Nat) → Option α} {r : α} (h : c) (k : E f r) : E (fun v => if c then f v else g v) r := by
  obtain ⟨K, k⟩ := k
  exact ⟨K, fun v hv => by simp only [if_pos h]; exact k v hv⟩
theorem E.neg {c : Prop} [Decidable c] {f g : (Nat → Nat) → Option α} {r : α} (h : ¬ c) (k : E g r) : E (fun v => if c then f v else g v) r := by
  obtain ⟨K, k⟩ := k
  exact ⟨K, fun v hv => by simp only [if_neg h]; exact k v hv⟩
theorem E.ite {c : Prop} [Decidable c] {f g : (Nat → Nat) → Option α} {r : α} (h1 : c → E f r) (h2 : ¬ c → E g r) : E (fun v => if c then f v else g v) r := by
  by_cases h : c
  · exact E.pos h (h1 h)
  · exact E.neg h (h2 h)
theorem E.step (i : Nat) {f g : (Nat → Nat) → Option α} {r : α} (h : ∀ v w : Nat → Nat, v i = w i + 1 → (∀ j, j ≠ i → v j = w j) → f v = g w) (k : E g r) : E f r := by
  obtain ⟨K, k⟩ := k
  refine ⟨K + 1, fun v hv => ?_⟩
  have h1 := h v (fun j => if j = i then v i - 1 else v j) (by simp; have := hv i; omega) (fun j hj => by simp [hj])
  rw [h1]
  refine k _ fun j => ?_
  by_cases hj : j = i
  · simp only [hj, if_true]; have := hv i; omega
  · simp only [hj, if_false]; have := hv j; omega
theorem E.ren (σ : Nat → Nat) {f : (Nat → Nat) → Option α} {r : α} (k : E f r) : E (fun v => f (fun i => v (σ i))) r := by
  obtain ⟨K, k⟩ := k
  exact ⟨K, fun v hv => k _ fun i => hv (σ i)⟩
theorem E.one {f : Nat → Option α} {r : α} (k : E (fun v => f (v 0)) r) : ∃ n, f n = some r := by
  obtain ⟨K, k⟩ := k
  exact ⟨K, k (fun _ => K) fun _ => Nat.le_refl _⟩
theorem wrap_id {x : Int} (h1 : -9223372036854775808 ≤ x) (h2 : x ≤ 9223372036854775807) : wrap64 x = x := by unfold wrap64; omega
theorem wrap_nat {n : Nat} (h : n < 4611686018427387904) : wrap64 ((n : Int) + 1) = ((n + 1 : Nat) : Int) := by unfold wrap64; omega
theorem getD_mid {d : α} (pre post : List α) (x : α) : (pre ++ x :: post).getD pre.length d = x := by
  simp [List.getD_eq_getElem?_getD]
theorem getD_mem {xs : List α} {i : Nat} (d : α) (h : i < xs.length) : xs.getD i d ∈ xs := by
  rw [List.getD_eq_getElem?_getD, List.getElem?_eq_getElem h]
  exact List.getElem_mem _
theorem i64w (x : Int) : IntKind.wrap .i64 x = wrap64 x := by
  rw [IntKind.wrap_i64]
  unfold wrap64
  omega
theorem xor_bd {x y : Int} (hx : 0 ≤ x) (hx2 : x < 1099511627776) (hy : 0 ≤ y) (hy2 : y < 1099511627776) :
    0 ≤ IntKind.wrap .i64 ((BitVec.toNat (BitVec.ofInt (IntKind.bits .i64) x ^^^ BitVec.ofInt (IntKind.bits .i64) y) : Nat) : Int) := by
  obtain ⟨a, rfl⟩ : ∃ a : Nat, x = a := ⟨x.toNat, by omega⟩
  obtain ⟨b, rfl⟩ : ∃ b : Nat, y = b := ⟨y.toNat, by omega⟩
  have h : (a ^^^ b) < 2 ^ 40 := Nat.xor_lt_two_pow (by omega) (by omega)
  simp only [BitVec.ofInt_natCast, BitVec.toNat_xor, BitVec.toNat_ofNat]
  rw [Nat.mod_eq_of_lt (show a < 2 ^ IntKind.i64.bits by simp [IntKind.bits]; omega), Nat.mod_eq_of_lt (show b < 2 ^ IntKind.i64.bits by simp [IntKind.bits]; omega), i64w, wrap_id (by omega) (by omega)]
  omega
def tab (n : Nat) (h : Nat → α) : List α := (List.range n).map h
theorem tab_length (n : Nat) (h : Nat → α) : (tab n h).length = n := by simp [tab]
theorem mem_tab {n : Nat} {h : Nat → α} {x : α} : x ∈ tab n h ↔ ∃ j, j < n ∧ h j = x := by simp [tab]
theorem nodup_le [DecidableEq α] : ∀ (l m : List α), l.Nodup → (∀ x ∈ l, x ∈ m) → l.length ≤ m.length
  | [], _, _, _ => Nat.zero_le _
  | a :: t, m, hn, hs => by
    have ha := hs a (List.mem_cons_self ..)
    have ih := nodup_le t (m.erase a) (List.nodup_cons.1 hn).2 (fun x hx => (List.mem_erase_of_ne (by rintro rfl; exact (List.nodup_cons.1 hn).1 hx)).2 (hs x (List.mem_cons_of_mem _ hx)))
    rw [List.length_erase_of_mem ha] at ih
    have := List.length_pos_of_mem ha
    simp
    omega
def sumN (f : Nat → Int) : Nat → Int
  | 0 => 0
  | n + 1 => sumN f n + f n
end Go.Refl.Math
end
section
set_option linter.unusedVariables false
namespace Go.Proofs.YtifohlgdkdcpeaaDoorG
open Go Go.Refl Go.Refl.Math Go.RowKit
abbrev CS := (Nat → Int) × Int × List Int
def Bd (st : Nat → Int) : Prop := ∀ j, 0 ≤ st j ∧ st j ≤ 100000
structure CInv (n : Nat) (first : Int) (st0 : Nat → Int) (A : Int) (S : CS) : Prop where
  nd : S.2.2.Nodup
  rg : ∀ x ∈ S.2.2, 0 ≤ x ∧ x < (n : Int)
  hd : 0 < S.2.2.length ∧ S.2.2.getD 0 0 = first
  bd : Bd S.1
  le : ∀ j, S.1 j ≤ st0 j
  zr : ∀ i, 0 < i → i < S.2.2.length → S.1 (S.2.2.getD i 0).toNat = 0
  ls : 0 ≤ S.2.1 ∧ S.2.1 ≤ A
  sm : sumN st0 n - sumN S.1 n + S.2.1 = A
theorem CInv.len {n : Nat} {first : Int} {st0 : Nat → Int} {A : Int} {S : CS} (h : CInv n first st0 A S) : S.2.2.length ≤ n := by
  have := nodup_le S.2.2 (tab n (fun j => (j : Int))) h.nd (fun x hx => mem_tab.2 ⟨x.toNat, by have := h.rg x hx; omega, by have := h.rg x hx; omega⟩)
  rwa [tab_length] at this
end Go.Proofs.YtifohlgdkdcpeaaDoorG
end
section
set_option linter.unusedVariables false
namespace Go.Proofs.YtifohlgdkdcpeaaDoorG
open Go Go.Refl Go.Refl.Math Go.RowKit
theorem newReader_E (s : List Int) : E (fun k => spec_newReader (k 0) s) (s.take 2000, 0) := by
  refine E.congr (fun k => spec_newReader.eq (k 0) s) ?_
  refine E.ite (fun h => E.pos (by omega) (E.now _)) (fun h => ?_)
  rw [List.take_of_length_le (by omega)]
  exact E.now _
structure RdOk (r : List Int × Int) (b : Int) : Prop where
  bytes : ∀ x ∈ r.1, 0 ≤ x ∧ x ≤ 255
  len : r.1.length ≤ 2000
  lo : 0 ≤ r.2
  hi : r.2 ≤ b
theorem RdOk.next {s : List Int} {p b : Int} (h : RdOk (s, p) b) : RdOk (s, p + 1) (b + 1) := ⟨h.bytes, h.len, by have := h.lo; simp only at this ⊢; omega, by have := h.hi; simp only at this ⊢; omega⟩
theorem RdOk.mono {r : List Int × Int} {b c : Int} (h : RdOk r b) (hc : b ≤ c) : RdOk r c := ⟨h.bytes, h.len, h.lo, Int.le_trans h.hi hc⟩
theorem pick_E (s : List Int) (p n : Int) (hr : RdOk (s, p) 1000000000) :
    ∃ v, E (fun k => spec_reader_pick (k 0) ((s, p), n)) (v, s, p + 1) ∧ 0 ≤ v ∧ (1 ≤ n → v < n) := by
  obtain ⟨hs, hl, hp, hp2⟩ := hr
  simp only at hs hl hp hp2
  have e1 : wrap64 (p + 1) = p + 1 := wrap_id (by omega) (by omega)
  have e2 : wrap64 (p + 1 - 1) = p := by rw [wrap_id (by omega) (by omega)]; omega
  by_cases hn : n < 1
  · refine ⟨0, E.congr (fun k => spec_reader_pick.eq (k 0) (s, p) n) (E.pos hn ?_), Int.le_refl _, fun h => by omega⟩
    rw [e1]; exact E.now _
  by_cases hz : s.length = 0
  · refine ⟨0, E.congr (fun k => spec_reader_pick.eq (k 0) (s, p) n) (E.neg hn (E.pos (by simp only; omega) ?_)), Int.le_refl _, fun h => by omega⟩
    rw [e1]; exact E.now _
  have hrd : ∀ i : Int, 0 ≤ i → i < (s.length : Int) → 0 ≤ s.getD i.toNat 0 ∧ s.getD i.toNat 0 ≤ 255 := fun i h0 h1 => hs _ (getD_mem 0 (by omega))
  have key : ∀ x : Int, 0 ≤ x → 0 ≤ Int.tmod x n ∧ Int.tmod x n < n := by
    intro x hx
    rw [Int.tmod_eq_emod_of_nonneg hx]
    exact ⟨Int.emod_nonneg _ (by omega), Int.emod_lt_of_pos _ (by omega)⟩
  by_cases hlt : p < (s.length : Int)
  · obtain ⟨h0, h1⟩ := hrd p hp hlt
    refine ⟨Int.tmod (s.getD p.toNat 0) n, E.congr (fun k => spec_reader_pick.eq (k 0) (s, p) n) (E.neg hn (E.neg (by simp only; omega) ?_)), (key _ h0).1, fun _ => (key _ h0).2⟩
    simp only [e1, e2]
    refine E.pos hlt (E.pos hp (E.pos hlt (E.neg (by omega) ?_)))
    rw [wrap_id (x := s.getD p.toNat 0) (by omega) (by omega)]
    exact E.now _
  · have hsl : (0 : Int) < s.length := by omega
    have hm1 : Int.tmod p s.length = p % s.length := Int.tmod_eq_emod_of_nonneg hp
    have hd1 : Int.tdiv p s.length = p / s.length := Int.tdiv_eq_ediv_of_nonneg hp
    have ha0 := Int.emod_nonneg p (show (s.length : Int) ≠ 0 by omega)
    have ha1 := Int.emod_lt_of_pos p hsl
    have hb0 := Int.emod_nonneg (p * 7 + 3) (show (s.length : Int) ≠ 0 by omega)
    have hb1 := Int.emod_lt_of_pos (p * 7 + 3) hsl
    have hq0 := Int.ediv_nonneg hp (show (0 : Int) ≤ s.length by omega)
    have hq1 := Int.ediv_le_self (b := (s.length : Int)) hp
    obtain ⟨hx0, hx1⟩ := hrd _ ha0 ha1
    obtain ⟨hy0, hy1⟩ := hrd _ hb0 hb1
    have ew1 : wrap64 (wrap64 (p * 7) + 3) = p * 7 + 3 := by rw [wrap_id (x := p * 7) (by omega) (by omega), wrap_id (by omega) (by omega)]
    have hm2 : Int.tmod (p * 7 + 3) s.length = (p * 7 + 3) % s.length := Int.tmod_eq_emod_of_nonneg (by omega)
    generalize hX : s.getD (p % s.length).toNat 0 = X at hx0 hx1
    generalize hY : s.getD ((p * 7 + 3) % s.length).toNat 0 = Y at hy0 hy1
    generalize hQ : p / s.length = q at hq0 hq1
    have big : wrap64 (wrap64 (wrap64 (wrap64 (wrap64 X * 131) + wrap64 (wrap64 Y * 1117)) + wrap64 (p * 29)) + wrap64 (wrap64 q * 53)) = X * 131 + Y * 1117 + p * 29 + q * 53 := by
      rw [wrap_id (x := X) (by omega) (by omega), wrap_id (x := Y) (by omega) (by omega), wrap_id (x := q) (by omega) (by omega), wrap_id (x := X * 131) (by omega) (by omega), wrap_id (x := Y * 1117) (by omega) (by omega), wrap_id (x := p * 29) (by omega) (by omega), wrap_id (x := q * 53) (by omega) (by omega), wrap_id (x := X * 131 + Y * 1117) (by omega) (by omega), wrap_id (x := X * 131 + Y * 1117 + p * 29) (by omega) (by omega), wrap_id (by omega) (by omega)]
    have hB : 0 ≤ X * 131 + Y * 1117 + p * 29 + q * 53 ∧ X * 131 + Y * 1117 + p * 29 + q * 53 < 1099511627776 := by omega
    generalize hV : X * 131 + Y * 1117 + p * 29 + q * 53 = V at big hB
    have hc : wrap64 (Int.tdiv V 64) = V / 64 := by rw [Int.tdiv_eq_ediv_of_nonneg hB.1, wrap_id (by omega) (by omega)]
    have hz0 := xor_bd (x := V) (y := V / 64) hB.1 hB.2 (by omega) (by omega)
    refine ⟨_, E.congr (fun k => spec_reader_pick.eq (k 0) (s, p) n) (E.neg hn (E.neg (by simp only; omega) ?_)), (key _ hz0).1, fun _ => (key _ hz0).2⟩
    simp only [e1, e2, ew1, hm1, hm2, hX, hY, hd1, hQ, big, hc]
    exact E.neg hlt (E.neg (by omega) (E.pos ha0 (E.pos ha1 (E.neg (by omega) (E.pos hb0 (E.pos hb1 (E.neg (by omega) (E.neg (by omega) (E.now _)))))))))
theorem one_E (s : List Int) (p : Int) (xs : List Int) (hr : RdOk (s, p) 1000000000) (hx : 0 < xs.length) :
    ∃ v, E (fun k => spec_reader_one (k 0) ((s, p), xs)) (v, s, p + 1) ∧ v ∈ xs := by
  obtain ⟨v, h, h0, h1⟩ := pick_E s p xs.length hr
  have hv : v < (xs.length : Int) := h1 (by omega)
  exact ⟨xs.getD v.toNat 0, E.congr (fun k => spec_reader_one.eq (k 0) (s, p) xs) (E.bind h (E.pos h0 (E.pos hv (E.now _)))), getD_mem 0 (by omega)⟩
end Go.Proofs.YtifohlgdkdcpeaaDoorG
end
section
set_option linter.unusedVariables false
namespace Go.Proofs.YtifohlgdkdcpeaaDoorG
open Go Go.Refl Go.Refl.Math Go.RowKit
theorem pick_D {s : List Int} {p b : Int} (hr : RdOk (s, p) b) (hb : b ≤ 1000000000) (n : Int) :
    ∃ v, E (fun k => spec_reader_pick (k 0) ((s, p), n)) (v, s, p + 1) ∧ 0 ≤ v ∧ (1 ≤ n → v < n) ∧ RdOk (s, p + 1) (b + 1) := by
  obtain ⟨v, h1, h2, h3⟩ := pick_E s p n (hr.mono hb)
  exact ⟨v, h1, h2, h3, hr.next⟩
theorem one_D {s : List Int} {p b : Int} (hr : RdOk (s, p) b) (hb : b ≤ 1000000000) (xs : List Int) (hx : 0 < xs.length) :
    ∃ v, E (fun k => spec_reader_one (k 0) ((s, p), xs)) (v, s, p + 1) ∧ v ∈ xs ∧ RdOk (s, p + 1) (b + 1) := by
  obtain ⟨v, h1, h2⟩ := one_E s p xs (hr.mono hb) hx
  exact ⟨v, h1, h2, hr.next⟩
end Go.Proofs.YtifohlgdkdcpeaaDoorG
end
section
set_option linter.unusedVariables false
namespace Go.Proofs.YtifohlgdkdcpeaaDoorG
open Go Go.Refl Go.Refl.Math Go.RowKit
abbrev Ent := Int × Int × Int × Int
end Go.Proofs.YtifohlgdkdcpeaaDoorG
end
section
set_option linter.unusedVariables false
namespace Go.Proofs.YtifohlgdkdcpeaaDoorG
open Go Go.Refl Go.Refl.Math Go.RowKit
def AmtOk (l : List Ent) : Prop := ∀ e ∈ l, 0 ≤ e.2.2.2 ∧ e.2.2.2 < 10000000
end Go.Proofs.YtifohlgdkdcpeaaDoorG
end
section
set_option linter.unusedVariables false
namespace Go.Proofs.YtifohlgdkdcpeaaDoorG
open Go Go.Refl Go.Refl.Math Go.RowKit
theorem AmtOk.one {e : Ent} (h : 0 ≤ e.2.2.2 ∧ e.2.2.2 < 10000000) : AmtOk [e] := fun x hx => by
  simp at hx; subst hx; exact h
theorem AmtOk.set {l : List Ent} (h : AmtOk l) (i : Nat) (x : Ent) (hx : 0 ≤ x.2.2.2 ∧ x.2.2.2 < 10000000) : AmtOk (l.set i x) := fun e he => by
  rcases List.mem_or_eq_of_mem_set he with h1 | h1
  · exact h e h1
  · rw [h1]; exact hx
end Go.Proofs.YtifohlgdkdcpeaaDoorG
end
section
set_option linter.unusedVariables false
namespace Go.Proofs.YtifohlgdkdcpeaaDoorG
open Go Go.Refl Go.Refl.Math Go.RowKit
def decT (n : Nat) : ByteArray := ⟨(Go.Lib.decDigits n).toArray⟩
theorem decT_lt {n : Nat} (h : n < 10) : decT n = ⟨#[UInt8.ofNat (48 + n)]⟩ := by unfold decT; rw [Go.Lib.decDigits, dif_pos h]
theorem decT_ge {n : Nat} (h : ¬ n < 10) : decT n = decT (n / 10) ++ decT (n % 10) := by
  rw [decT_lt (n := n % 10) (by omega)]
  unfold decT
  rw [Go.Lib.decDigits, dif_neg h]
  apply ByteArray.ext
  rw [ByteArray.data_append]
  simp
theorem decT_one {n : Nat} (h : n < 10) : (decT n).size = 1 := by rw [decT_lt h]; rfl
theorem decT_size : ∀ (k n : Nat), n ≤ k → (decT n).size ≤ n + 1
  | 0, n, h => by rw [decT_one (by omega)]; omega
  | k + 1, n, h => by
    by_cases h1 : n < 10
    · rw [decT_one h1]; omega
    · have ih := decT_size k (n / 10) (by omega)
      rw [decT_ge h1, ByteArray.size_append, decT_one (n := n % 10) (by omega)]
      omega
theorem decT_sz (n : Nat) : (decT n).size ≤ n + 1 := decT_size n n (Nat.le_refl n)
theorem decT_two {n : Nat} (h : 10 ≤ n) : 2 ≤ (decT n).size := by
  rw [decT_ge (by omega), ByteArray.size_append, decT_one (n := n % 10) (by omega)]
  have : 1 ≤ (decT (n / 10)).size := by
    by_cases h1 : n / 10 < 10
    · rw [decT_one h1]; omega
    · rw [decT_ge h1, ByteArray.size_append, decT_one (n := n / 10 % 10) (by omega)]; omega
  omega
theorem digit_text : ∀ n : Nat, n < 10 → ByteArray.extract { data := #[(48 : UInt8), (49 : UInt8), (50 : UInt8), (51 : UInt8), (52 : UInt8), (53 : UInt8), (54 : UInt8), (55 : UInt8), (56 : UInt8), (57 : UInt8)] } n (n + 1) = ⟨#[UInt8.ofNat (48 + n)]⟩ := by
  intro n hn
  have : n = 0 ∨ n = 1 ∨ n = 2 ∨ n = 3 ∨ n = 4 ∨ n = 5 ∨ n = 6 ∨ n = 7 ∨ n = 8 ∨ n = 9 := by omega
  rcases this with rfl | rfl | rfl | rfl | rfl | rfl | rfl | rfl | rfl | rfl <;> decide
theorem specNum_k : ∀ (k x : Nat), x ≤ k → x ≤ 10000000 → ∀ n, k < n → spec_number n (x : Int) = some (decT x)
  | k, x, hx, hb, 0, hn => by omega
  | k, x, hx, hb, n + 1, hn => by
    rw [spec_number.succ, spec_number.eq]
    by_cases h : x < 10
    · rw [if_pos (by omega), if_pos (by omega), wrap_id (x := (x : Int) + 1) (by omega) (by omega), if_pos (by omega), if_pos (by
        have : ((ByteArray.size { data := #[(48 : UInt8), (49 : UInt8), (50 : UInt8), (51 : UInt8), (52 : UInt8), (53 : UInt8), (54 : UInt8), (55 : UInt8), (56 : UInt8), (57 : UInt8)] } : Nat) : Int) = 10 := rfl
        rw [this]; omega)]
      rw [show Int.toNat ((x : Int) + 1) = x + 1 by omega, Int.toNat_natCast, digit_text x h, decT_lt h]
    · match k, hx, hn with
      | 0, hx, hn => omega
      | k + 1, hx, hn =>
        rw [if_neg (by omega), Int.tdiv_eq_ediv_of_nonneg (by omega), Int.tmod_eq_emod_of_nonneg (by omega), wrap_id (by omega) (by omega)]
        rw [show (x : Int) / 10 = ((x / 10 : Nat) : Int) by omega, show (x : Int) % 10 = ((x % 10 : Nat) : Int) by omega]
        rw [specNum_k k (x / 10) (by omega) (by omega) n (by omega), specNum_k k (x % 10) (by omega) (by omega) n (by omega)]
        have s1 := decT_sz (x / 10)
        have s2 := decT_sz (x % 10)
        simp only [Option.bind_some]
        rw [if_pos (by simp only [maxN]; omega), ← decT_ge h]
theorem specNum_E {x : Int} (h0 : 0 ≤ x) (h1 : x ≤ 10000000) : E (fun k => spec_number (k 0) x) (decT x.toNat) := by
  obtain ⟨a, rfl⟩ := Int.eq_ofNat_of_zero_le h0
  refine ⟨a + 1, fun v hv => ?_⟩
  show spec_number (v 0) (a : Int) = _
  rw [specNum_k a a (Nat.le_refl a) (by omega) _ (by have := hv 0; omega), Int.toNat_natCast]
theorem itoa_E {x : Int} (h0 : 0 ≤ x) (h1 : x ≤ 10000000) : E (fun k => strconv_Itoa (k 0) x) (decT x.toNat) := by
  refine E.congr (fun k => ?_) (E.now _)
  show itRun x = _
  unfold itRun
  rw [decide_eq_true (by omega), decide_eq_true (by omega)]
  show some _ = some _
  unfold decT Go.Lib.itoa
  rw [if_neg (by omega)]
def dotT : ByteArray := { data := #[(46 : UInt8)] }
def zT : ByteArray := { data := #[(48 : UInt8)] }
theorem dotT_size : dotT.size = 1 := rfl
def monT (x : Nat) : ByteArray := decT (x / 100) ++ dotT ++ decT (x / 10 % 10) ++ decT (x % 10)
theorem monT_size (x : Nat) : (monT x).size ≤ x / 100 + 4 := by
  unfold monT
  rw [ByteArray.size_append, ByteArray.size_append, ByteArray.size_append, decT_one (n := x / 10 % 10) (by omega), decT_one (n := x % 10) (by omega), dotT_size]
  have := decT_sz (x / 100)
  omega
theorem showMoney_E {x : Int} (h0 : 0 ≤ x) (h1 : x ≤ 1000000) : E (fun k => impl_ShowMoney (k 0) x) (monT x.toNat) := by
  obtain ⟨a, rfl⟩ := Int.eq_ofNat_of_zero_le h0
  rw [Int.toNat_natCast]
  have e1 : Int.tmod (a : Int) 100 = ((a % 100 : Nat) : Int) := by rw [Int.tmod_eq_emod_of_nonneg (by omega)]; omega
  have e2 : wrap64 (Int.tdiv (a : Int) 100) = ((a / 100 : Nat) : Int) := by rw [Int.tdiv_eq_ediv_of_nonneg (by omega), wrap_id (by omega) (by omega)]; omega
  have i1 : E (fun k => strconv_Itoa (k 0) (Int.tmod (a : Int) 100)) (decT (a % 100)) := by rw [e1]; exact itoa_E (by omega) (by omega)
  have i2 : E (fun k => strconv_Itoa (k 0) (wrap64 (Int.tdiv (a : Int) 100))) (decT (a / 100)) := by rw [e2]; exact itoa_E (by omega) (by omega)
  have s1 := decT_sz (a / 100)
  have s2 := decT_sz (a % 100)
  refine E.congr (fun k => impl_ShowMoney.eq (k 0) _) (E.neg (by omega) (E.neg (by omega) (E.bind i1 ?_)))
  by_cases h : a % 100 < 10
  · have s3 := decT_one h
    refine E.pos (by omega) (E.pos (by rw [s3]; exact (by decide)) (E.bind i2 (E.pos (by show _ + 1 ≤ maxN; simp only [maxN]; omega) (E.pos ?_ (E.now' ?_)))))
    · rw [ByteArray.size_append, ByteArray.size_append, s3]; show _ + 1 + (1 + 1) ≤ maxN; simp only [maxN]; omega
    · show decT (a / 100) ++ dotT ++ (zT ++ decT (a % 100)) = _
      unfold monT
      rw [show a % 100 = a % 10 by omega, show a / 10 % 10 = 0 by omega, show decT 0 = zT from decT_lt (by omega), ← ByteArray.append_assoc]
  · have s3 := decT_two (n := a % 100) (by omega)
    refine E.neg (by omega) (E.bind i2 (E.pos (by show _ + 1 ≤ maxN; simp only [maxN]; omega) (E.pos ?_ (E.now' ?_))))
    · rw [ByteArray.size_append]; show _ + 1 + _ ≤ maxN; simp only [maxN]; omega
    · show decT (a / 100) ++ dotT ++ decT (a % 100) = _
      unfold monT
      rw [decT_ge (n := a % 100) h, show a % 100 / 10 = a / 10 % 10 by omega, show a % 100 % 10 = a % 10 by omega, ← ByteArray.append_assoc]
end Go.Proofs.YtifohlgdkdcpeaaDoorG
end
section
set_option linter.unusedVariables false
namespace Go.Proofs.YtifohlgdkdcpeaaDoorG
open Go Go.Refl Go.Refl.Math Go.RowKit
def aV (a : Int) : Bool := decide (0 ≤ a ∧ a ≤ 1000000)
theorem specMoneyB_E {x : Int} (h0 : 0 ≤ x) (h1 : x ≤ 1000001) : E (fun k => spec_money (k 0) x) (monT x.toNat) := by
  obtain ⟨x, rfl⟩ := Int.eq_ofNat_of_zero_le h0
  have e1 : wrap64 (Int.tdiv (x : Int) 100) = ((x / 100 : Nat) : Int) := by rw [Int.tdiv_eq_ediv_of_nonneg (by omega), wrap_id (by omega) (by omega)]; omega
  have e2 : Int.tmod (wrap64 (Int.tdiv (x : Int) 10)) 10 = ((x / 10 % 10 : Nat) : Int) := by rw [Int.tdiv_eq_ediv_of_nonneg (by omega), wrap_id (by omega) (by omega), Int.tmod_eq_emod_of_nonneg (by omega)]; omega
  have e3 : Int.tmod (x : Int) 10 = ((x % 10 : Nat) : Int) := by rw [Int.tmod_eq_emod_of_nonneg (by omega)]; omega
  have s4 := decT_sz (x / 100)
  have s5 := decT_sz (x / 10 % 10)
  have s6 := decT_sz (x % 10)
  have n4 : E (fun k => spec_number (k 0) (wrap64 (Int.tdiv (x : Int) 100))) (decT (x / 100)) := by rw [e1]; exact specNum_E (by omega) (by omega)
  have n5 : E (fun k => spec_number (k 0) (Int.tmod (wrap64 (Int.tdiv (x : Int) 10)) 10)) (decT (x / 10 % 10)) := by rw [e2]; exact specNum_E (by omega) (by omega)
  have n6 : E (fun k => spec_number (k 0) (Int.tmod (x : Int) 10)) (decT (x % 10)) := by rw [e3]; exact specNum_E (by omega) (by omega)
  have q2 : ByteArray.size { data := #[(46 : UInt8)] } = 1 := rfl
  have bd : ∀ n : Nat, n ≤ 100000 → n ≤ maxN := fun n h => by simp only [maxN]; omega
  refine E.congr (fun k => spec_money.eq (k 0) _) ?_
  simp only [ByteArray.size_append, q2]
  refine E.bind n4 (E.pos (bd _ (by omega)) (E.bind n5 (E.pos (bd _ (by omega)) (E.bind n6 (E.pos (bd _ (by omega)) (E.now' ?_))))))
  rfl
end Go.Proofs.YtifohlgdkdcpeaaDoorG
end
section
set_option linter.unusedVariables false
namespace Go.Proofs.YtifohlgdkdcpeaaDoorG
open Go Go.Refl Go.Refl.Math Go.RowKit
theorem decT_pow : ∀ (k u : Nat), u < 10 ^ (k + 1) → (decT u).size ≤ k + 1
  | 0, u, h => by rw [decT_one (by simpa using h)]; exact Nat.le_refl _
  | k + 1, u, h => by
    by_cases h1 : u < 10
    · rw [decT_one h1]; omega
    · have ih := decT_pow k (u / 10) (by rw [Nat.pow_succ] at h; omega)
      rw [decT_ge h1, ByteArray.size_append, decT_one (n := u % 10) (by omega)]
      omega
theorem money_no {x : Int} (h : aV x = false) : E (fun k => impl_ShowMoney (k 0) x) { data := #[] } := by
  have h' : ¬ (0 ≤ x ∧ x ≤ 1000000) := of_decide_eq_false h
  exact E.congr (fun k => impl_ShowMoney.eq (k 0) x) (E.ite (fun h => E.now _) (fun h1 => E.ite (fun h => E.now _) (fun h2 => absurd ⟨by omega, by omega⟩ h')))
end Go.Proofs.YtifohlgdkdcpeaaDoorG
end
section
set_option linter.unusedVariables false
namespace Go.Proofs.YtifohlgdkdcpeaaDoorG
open Go Go.Refl Go.Refl.Math Go.RowKit
def dgt (b : UInt8) : Bool := decide (48 ≤ b.toNat) && decide (b.toNat ≤ 57)
theorem dgt_iff {b : UInt8} : dgt b = true ↔ 48 ≤ b.toNat ∧ b.toNat ≤ 57 := by simp [dgt]
def dval : Nat → List UInt8 → Nat
  | a, [] => a
  | a, b :: l => dval (10 * a + (b.toNat - 48)) l
theorem dval_append : ∀ (l m : List UInt8) (a : Nat), dval a (l ++ m) = dval (dval a l) m
  | [], m, a => rfl
  | c :: l, m, a => dval_append l m _
theorem byte_back {b : UInt8} {n : Nat} (h : n = b.toNat) : UInt8.ofNat n = b := by rw [h]; exact UInt8.ofNat_toNat
theorem dec_of : ∀ (k : Nat) (l : List UInt8), l.length = k + 1 → l.all dgt = true → (k = 0 ∨ l.head? ≠ some 48) → Go.Lib.decDigits (dval 0 l) = l ∧ (l.head? ≠ some 48 → 1 ≤ dval 0 l)
  | 0, l, hl, hd, _ => by
    obtain ⟨b, rfl⟩ := List.length_eq_one_iff.1 hl
    have hb := dgt_iff.1 (show dgt b = true by simpa using hd)
    refine ⟨?_, fun h => ?_⟩
    · show Go.Lib.decDigits (10 * 0 + (b.toNat - 48)) = [b]
      rw [Go.Lib.decDigits, dif_pos (by omega), byte_back (b := b) (by omega)]
    · show 1 ≤ 10 * 0 + (b.toNat - 48)
      have : b.toNat ≠ 48 := fun e => h (by
        have : b = 48 := UInt8.toNat_inj.1 e
        rw [this]; rfl)
      omega
  | k + 1, l, hl, hd, hh => by
    have hne : l ≠ [] := by intro h; rw [h] at hl; cases hl
    obtain ⟨init, b, rfl⟩ : ∃ init b, l = init ++ [b] := ⟨l.dropLast, l.getLast hne, (List.dropLast_concat_getLast hne).symm⟩
    have hil : init.length = k + 1 := by simpa using hl
    have hhd : (init ++ [b]).head? = init.head? := by cases init with
      | nil => cases hil
      | cons c i => rfl
    rw [List.all_append, Bool.and_eq_true] at hd
    have hb := dgt_iff.1 (show dgt b = true by simpa using hd.2)
    have hh' : init.head? ≠ some 48 := by
      rcases hh with h | h
      · cases h
      · rwa [hhd] at h
    obtain ⟨e1, e2⟩ := dec_of k init hil hd.1 (.inr hh')
    have g := e2 hh'
    rw [dval_append]
    show Go.Lib.decDigits (10 * dval 0 init + (b.toNat - 48)) = init ++ [b] ∧ ((init ++ [b]).head? ≠ some 48 → 1 ≤ 10 * dval 0 init + (b.toNat - 48))
    refine ⟨?_, fun _ => by omega⟩
    rw [Go.Lib.decDigits, dif_neg (by omega), show (10 * dval 0 init + (b.toNat - 48)) / 10 = dval 0 init by omega, e1, byte_back (b := b) (by omega)]
theorem dgt_of {n : Nat} (h : n < 10) : dgt (UInt8.ofNat (48 + n)) = true ∧ (UInt8.ofNat (48 + n)).toNat = 48 + n := by
  have e : (UInt8.ofNat (48 + n)).toNat = 48 + n := by
    rw [UInt8.toNat_ofNat']
    exact Nat.mod_eq_of_lt (by omega)
  exact ⟨dgt_iff.2 (by omega), e⟩
theorem dval_dec (n : Nat) : (Go.Lib.decDigits n).all dgt = true ∧ dval 0 (Go.Lib.decDigits n) = n ∧ Go.Lib.decDigits n ≠ [] ∧ (1 ≤ n → (Go.Lib.decDigits n).head? ≠ some 48) := by
  induction n using Nat.strongRecOn with
  | ind n ih =>
    by_cases h : n < 10
    · obtain ⟨h1, h2⟩ := dgt_of h
      rw [Go.Lib.decDigits, dif_pos h]
      refine ⟨by simpa using h1, ?_, by simp, fun hn e => ?_⟩
      · show 10 * 0 + ((UInt8.ofNat (48 + n)).toNat - 48) = n
        omega
      · have e' : UInt8.ofNat (48 + n) = 48 := by simpa using e
        rw [e'] at h2
        have : (48 : UInt8).toNat = 48 := rfl
        omega
    · obtain ⟨i1, i2, i3, i4⟩ := ih (n / 10) (by omega)
      obtain ⟨h1, h2⟩ := dgt_of (n := n % 10) (by omega)
      rw [Go.Lib.decDigits, dif_neg h]
      refine ⟨by rw [List.all_append, i1]; simpa using h1, ?_, by simp, fun _ => ?_⟩
      · rw [dval_append, i2]
        show 10 * (n / 10) + ((UInt8.ofNat (48 + n % 10)).toNat - 48) = n
        omega
      · have := i4 (by omega)
        cases hd : Go.Lib.decDigits (n / 10) with
        | nil => exact absurd hd i3
        | cons c r => rw [hd] at this; exact this
theorem decT_list (n : Nat) : (decT n).data.toList = Go.Lib.decDigits n := rfl
theorem ba_ext {s t : ByteArray} (h : s.data.toList = t.data.toList) : s = t := ByteArray.ext (Array.toList_inj.1 h)
theorem ba_size (s : ByteArray) : s.size = s.data.toList.length := by
  show s.data.size = _
  rw [Array.length_toList]
theorem digit_step {a : Nat} {b : UInt8} (ha : a ≤ 10000000000) (h1 : 48 ≤ b.toNat) (h2 : b.toNat ≤ 57) : wrap64 (wrap64 (10 * (a : Int)) + wrap64 (((b.toNat : Int) - 48) % 256)) = ((10 * a + (b.toNat - 48) : Nat) : Int) := by
  rw [Int.emod_eq_of_lt (by omega) (by omega), wrap_id (x := 10 * (a : Int)) (by omega) (by omega), wrap_id (x := (b.toNat : Int) - 48) (by omega) (by omega), wrap_id (by omega) (by omega)]
  omega
end Go.Proofs.YtifohlgdkdcpeaaDoorG
end
section
set_option linter.unusedVariables false
namespace Go.Proofs.YtifohlgdkdcpeaaDoorG
open Go Go.Refl Go.Refl.Math Go.RowKit
def monP (s : ByteArray) (r : Int) : Prop := (∃ n : Nat, n ≤ 1000000 ∧ s = monT n ∧ r = (n : Int)) ∨ ((∀ n : Nat, n ≤ 1000000 → s ≠ monT n) ∧ r = -1)
def skp (p : Nat) (l : List UInt8) : List UInt8 := l.take p ++ l.drop (p + 1)
theorem skp_nil (p : Nat) : skp p [] = [] := by
  unfold skp
  rw [List.take_nil, List.drop_nil]
  rfl
theorem skp_at {p : Nat} {l : List UInt8} {b : UInt8} (h : l.length = p) : skp p (l ++ [b]) = skp p l := by
  unfold skp
  rw [List.drop_of_length_le (by simp; omega), List.drop_of_length_le (by omega), List.take_of_length_le (l := l) (by omega), List.append_nil, List.append_nil, ← h, List.take_left' rfl]
theorem skp_off {p : Nat} {l : List UInt8} {b : UInt8} (h : l.length ≠ p) : skp p (l ++ [b]) = skp p l ++ [b] := by
  unfold skp
  rcases Nat.lt_or_ge l.length p with h1 | h1
  · rw [List.drop_of_length_le (by simp; omega), List.drop_of_length_le (by omega), List.take_of_length_le (l := l) (by omega), List.take_of_length_le (by simp; omega), List.append_nil, List.append_nil]
  · rw [List.take_append_of_le_length (by omega), List.drop_append_of_le_length (by omega), List.append_assoc]
theorem skp_mem {p : Nat} {l m : List UInt8} {b : UInt8} (h : l.length ≠ p) : b ∈ skp p (l ++ b :: m) := by
  unfold skp
  rcases Nat.lt_or_ge l.length p with h1 | h1
  · refine List.mem_append_left _ ?_
    rw [List.take_append, List.mem_append]
    right
    rw [show p - l.length = (p - l.length - 1) + 1 by omega, List.take_succ_cons]
    exact List.mem_cons_self ..
  · refine List.mem_append_right _ ?_
    rw [List.drop_append_of_le_length (by omega)]
    exact List.mem_append_right _ (List.mem_cons_self ..)
theorem ten_le {n k : Nat} (h : k ≤ 10) (hn : n < 10 ^ k) : n < 10000000000 := Nat.lt_of_lt_of_le hn (show 10 ^ k ≤ 10 ^ 10 from Nat.pow_le_pow_right (by decide) h)
theorem digit_step' {a : Nat} {b : UInt8} (ha : a ≤ 10000000000) (h1 : 48 ≤ b.toNat) (h2 : b.toNat ≤ 57) : wrap64 (wrap64 ((a : Int) * 10) + wrap64 (((b.toNat : Int) - 48) % 256)) = ((10 * a + (b.toNat - 48) : Nat) : Int) := by
  rw [Int.mul_comm]; exact digit_step ha h1 h2
theorem specMon_l5 {x : ByteArray} {p : Nat} (hp : p + 3 = x.size) (hx : x.size ≤ 10) : ∀ (post pre : List UInt8) (a : Nat), x.data.toList = pre ++ post → (skp p pre).all dgt = true → a = dval 0 (skp p pre) → a < 10 ^ pre.length →
    E (fun k => spec_readMoney.l5 (k 0) (k 1) x (a : Int) (pre.length : Int)) (if (skp p x.data.toList).all dgt = true then (if dval 0 (skp p x.data.toList) ≤ 1000000 then (dval 0 (skp p x.data.toList) : Int) else -1) else -1)
  | [], pre, a, he, hd, ha, hb => by
    rw [List.append_nil] at he
    have hz : x.size = pre.length := by rw [ba_size, he]
    rw [he, if_pos hd, ← ha]
    refine E.step 1 (fun v w h1 h2 => by rewrite [h1, h2 0 (by decide)]; exact spec_readMoney.l5_succ ..) ?_
    refine E.neg (by omega) (E.ite (fun h => E.now' (by rw [if_neg (by omega)])) (fun h => E.now' (by rw [if_pos (by omega)])))
  | b :: post, pre, a, he, hd, ha, hb => by
    have hz : x.size = pre.length + (post.length + 1) := by rw [ba_size, he]; simp
    have hbig := ten_le (by omega) hb
    have ew : wrap64 ((x.size : Int) - 3) = (p : Int) := by rw [wrap_id (by omega) (by omega)]; omega
    have hl : (pre ++ [b]).length = pre.length + 1 := by simp
    by_cases hq : pre.length = p
    · have ih := specMon_l5 hp hx post (pre ++ [b]) a (by rw [he]; simp) (by rw [skp_at hq]; exact hd) (by rw [skp_at hq]; exact ha) (Nat.lt_of_lt_of_le hb (Nat.pow_le_pow_right (by decide) (by simp)))
      rw [hl] at ih
      refine E.step 1 (fun v w h1 h2 => by rewrite [h1, h2 0 (by decide)]; exact spec_readMoney.l5_succ ..) ?_
      rw [ew, wrap_nat (by omega)]
      exact E.pos (by omega) (E.pos (by omega) ih)
    · have no : ¬ dgt b = true → (-1 : Int) = (if (skp p x.data.toList).all dgt = true then (if dval 0 (skp p x.data.toList) ≤ 1000000 then (dval 0 (skp p x.data.toList) : Int) else -1) else -1) := fun h => by
        rw [if_neg (fun h' => h (List.all_eq_true.1 h' b (by rw [he]; exact skp_mem hq)))]
      have go : 48 ≤ b.toNat → b.toNat ≤ 57 → E (fun k => spec_readMoney.l5 (k 0) (k 1) x ((10 * a + (b.toNat - 48) : Nat) : Int) ((pre.length + 1 : Nat) : Int)) (if (skp p x.data.toList).all dgt = true then (if dval 0 (skp p x.data.toList) ≤ 1000000 then (dval 0 (skp p x.data.toList) : Int) else -1) else -1) := fun h1 h2 => by
        have ih := specMon_l5 hp hx post (pre ++ [b]) (10 * a + (b.toNat - 48)) (by rw [he]; simp) (by rw [skp_off hq, List.all_append, hd]; simpa using dgt_iff.2 ⟨h1, h2⟩) (by rw [skp_off hq, dval_append, ← ha]; rfl) (by rw [hl, Nat.pow_succ]; omega)
        rw [hl] at ih
        exact ih
      refine E.step 1 (fun v w h1 h2 => by rewrite [h1, h2 0 (by decide)]; exact spec_readMoney.l5_succ ..) ?_
      rw [ew]
      have hget : x.data.toList.getD pre.length 0 = b := by rw [he, getD_mid]
      simp only [Int.toNat_natCast, hget]
      rw [wrap_nat (by omega)]
      refine E.pos (by omega) (E.neg (by omega) (E.pos (by omega) (E.pos (by omega) (E.ite (fun h => E.now' (no (by rw [dgt_iff]; omega))) (fun h1 => E.pos (by omega) (E.pos (by omega) (E.ite (fun h => E.now' (no (by rw [dgt_iff]; omega))) (fun h2 => E.pos (by omega) (E.pos (by omega) ?_)))))))))
      rw [digit_step (by omega) (by omega) (by omega)]
      exact go (by omega) (by omega)
theorem implMon_l5 {x : ByteArray} {p : Nat} (hp : p + 3 = x.size) (hx : x.size ≤ 10) : ∀ (post pre : List UInt8) (a : Nat), x.data.toList = pre ++ post → (skp p pre).all dgt = true → a = dval 0 (skp p pre) → a < 10 ^ pre.length →
    E (fun k => impl_ReadMoney.l5 (k 0) (k 1) x (a : Int) (x.size : Int) (pre.length : Int)) (if (skp p x.data.toList).all dgt = true then (if dval 0 (skp p x.data.toList) ≤ 1000000 ∧ monT (dval 0 (skp p x.data.toList)) = x then (dval 0 (skp p x.data.toList) : Int) else -1) else -1)
  | [], pre, a, he, hd, ha, hb => by
    rw [List.append_nil] at he
    have hz : x.size = pre.length := by rw [ba_size, he]
    have hne : x ≠ { data := #[] } := by
      intro h
      have : x.size = 0 := by rw [h]; rfl
      omega
    rw [he, if_pos hd, ← ha]
    refine E.step 1 (fun v w h1 h2 => by rewrite [h1, h2 0 (by decide)]; exact impl_ReadMoney.l5_succ ..) ?_
    by_cases hv : a ≤ 1000000
    · refine E.neg (by omega) (E.bind (showMoney_E (by omega) (by omega)) ?_)
      rw [Int.toNat_natCast]
      refine E.ite (fun h => E.now' (by rw [if_pos ⟨hv, h⟩])) (fun h => E.now' (by rw [if_neg (fun h' => h h'.2)]))
    · refine E.neg (by omega) (E.bind (money_no (x := (a : Int)) (by unfold aV; rw [decide_eq_false_iff_not]; omega)) (E.neg (fun h => hne h.symm) (E.now' ?_)))
      rw [if_neg (fun h' => hv h'.1)]
  | b :: post, pre, a, he, hd, ha, hb => by
    have hz : x.size = pre.length + (post.length + 1) := by rw [ba_size, he]; simp
    have hbig := ten_le (by omega) hb
    have ew : wrap64 ((x.size : Int) - 3) = (p : Int) := by rw [wrap_id (by omega) (by omega)]; omega
    have hl : (pre ++ [b]).length = pre.length + 1 := by simp
    by_cases hq : pre.length = p
    · have ih := implMon_l5 hp hx post (pre ++ [b]) a (by rw [he]; simp) (by rw [skp_at hq]; exact hd) (by rw [skp_at hq]; exact ha) (Nat.lt_of_lt_of_le hb (Nat.pow_le_pow_right (by decide) (by simp)))
      rw [hl] at ih
      refine E.step 1 (fun v w h1 h2 => by rewrite [h1, h2 0 (by decide)]; exact impl_ReadMoney.l5_succ ..) ?_
      rw [ew, wrap_nat (by omega)]
      exact E.pos (by omega) (E.pos (by omega) ih)
    · have no : ¬ dgt b = true → (-1 : Int) = (if (skp p x.data.toList).all dgt = true then (if dval 0 (skp p x.data.toList) ≤ 1000000 ∧ monT (dval 0 (skp p x.data.toList)) = x then (dval 0 (skp p x.data.toList) : Int) else -1) else -1) := fun h => by
        rw [if_neg (fun h' => h (List.all_eq_true.1 h' b (by rw [he]; exact skp_mem hq)))]
      have go : 48 ≤ b.toNat → b.toNat ≤ 57 → E (fun k => impl_ReadMoney.l5 (k 0) (k 1) x ((10 * a + (b.toNat - 48) : Nat) : Int) (x.size : Int) ((pre.length + 1 : Nat) : Int)) (if (skp p x.data.toList).all dgt = true then (if dval 0 (skp p x.data.toList) ≤ 1000000 ∧ monT (dval 0 (skp p x.data.toList)) = x then (dval 0 (skp p x.data.toList) : Int) else -1) else -1) := fun h1 h2 => by
        have ih := implMon_l5 hp hx post (pre ++ [b]) (10 * a + (b.toNat - 48)) (by rw [he]; simp) (by rw [skp_off hq, List.all_append, hd]; simpa using dgt_iff.2 ⟨h1, h2⟩) (by rw [skp_off hq, dval_append, ← ha]; rfl) (by rw [hl, Nat.pow_succ]; omega)
        rw [hl] at ih
        exact ih
      refine E.step 1 (fun v w h1 h2 => by rewrite [h1, h2 0 (by decide)]; exact impl_ReadMoney.l5_succ ..) ?_
      rw [ew]
      have hget : x.data.toList.getD pre.length 0 = b := by rw [he, getD_mid]
      simp only [Int.toNat_natCast, hget]
      rw [wrap_nat (by omega)]
      refine E.pos (by omega) (E.neg (by omega) (E.pos (by omega) (E.pos (by omega) (E.ite (fun h => E.now' (no (by rw [dgt_iff]; omega))) (fun h1 => E.pos (by omega) (E.pos (by omega) (E.ite (fun h => E.now' (no (by rw [dgt_iff]; omega))) (fun h2 => E.pos (by omega) (E.pos (by omega) ?_)))))))))
      rw [digit_step' (by omega) (by omega) (by omega)]
      exact go (by omega) (by omega)
theorem one_digit {n : Nat} (h : n < 10) : (decT n).data.toList = [UInt8.ofNat (48 + n)] := by rw [decT_lt h]
theorem monT_list (n : Nat) : (monT n).data.toList = Go.Lib.decDigits (n / 100) ++ [46, UInt8.ofNat (48 + n / 10 % 10), UInt8.ofNat (48 + n % 10)] := by
  unfold monT
  simp only [ByteArray.data_append, Array.toList_append, one_digit (n := n / 10 % 10) (by omega), one_digit (n := n % 10) (by omega), decT_list]
  simp [dotT]
theorem skp_split {a c : List UInt8} {b : UInt8} : skp a.length (a ++ b :: c) = a ++ c := by
  unfold skp
  rw [List.take_left' rfl, show a ++ b :: c = (a ++ [b]) ++ c by simp, List.drop_left' (by simp)]
theorem digits_lt (n k : Nat) (h : n < 10 ^ (k + 1)) : (Go.Lib.decDigits n).length ≤ k + 1 := by
  have := decT_pow k n h
  rw [ba_size, decT_list] at this
  exact this
theorem mon_facts {n : Nat} (h : n ≤ 1000000) : ∃ p, p + 3 = (monT n).size ∧ 1 ≤ p ∧ p ≤ 5 ∧ (monT n).data.toList.getD p 0 = 46 ∧ (skp p (monT n).data.toList).all dgt = true ∧ dval 0 (skp p (monT n).data.toList) = n ∧ ((monT n).data.toList.getD 0 0 = 48 → p = 1) := by
  obtain ⟨h1, h2, h3, h4⟩ := dval_dec (n / 100)
  obtain ⟨d1, d1'⟩ := dgt_of (n := n / 10 % 10) (by omega)
  obtain ⟨d2, d2'⟩ := dgt_of (n := n % 10) (by omega)
  have hlen := digits_lt (n / 100) 4 (by omega)
  have hpos := List.length_pos_iff.2 h3
  rw [ba_size, monT_list]
  refine ⟨(Go.Lib.decDigits (n / 100)).length, by simp, by omega, by omega, getD_mid _ _ _, ?_, ?_, ?_⟩
  · rw [skp_split, List.all_append, h1, List.all_cons, List.all_cons, d1, d2]
    rfl
  · rw [skp_split, dval_append, h2]
    show 10 * (10 * (n / 100) + ((UInt8.ofNat (48 + n / 10 % 10)).toNat - 48)) + ((UInt8.ofNat (48 + n % 10)).toNat - 48) = n
    omega
  · intro hz
    by_cases hn : n / 100 < 10
    · have := one_digit hn
      rw [decT_list] at this
      rw [this]; rfl
    · have := h4 (by omega)
      cases hd : Go.Lib.decDigits (n / 100) with
      | nil => exact absurd hd h3
      | cons c r =>
        rw [hd] at this hz
        exact absurd (by show some c = some 48; exact congrArg some hz) this
theorem mon_back {x : ByteArray} {p : Nat} (hp : p + 3 = x.size) (hp1 : 1 ≤ p) (hdot : x.data.toList.getD p 0 = 46) (hd : (skp p x.data.toList).all dgt = true) (hz : x.data.toList.getD 0 0 = 48 → p = 1) : monT (dval 0 (skp p x.data.toList)) = x := by
  have hl : x.data.toList.length = p + 3 := by rw [← ba_size]; omega
  generalize hX : x.data.toList = l at hdot hd hz hl ⊢
  obtain ⟨a, b, c, d, rfl, ha⟩ : ∃ a b c d, l = a ++ [b, c, d] ∧ a.length = p := by
    refine ⟨l.take p, l[p], l[p + 1], l[p + 2], ?_, by simp; omega⟩
    apply List.ext_getElem
    · simp; omega
    · intro i h1 h2
      rcases Nat.lt_or_ge i p with q | q
      · rw [List.getElem_append_left (by simp; omega)]; simp
      · rw [List.getElem_append_right (by simp; omega)]
        have : i = p ∨ i = p + 1 ∨ i = p + 2 := by omega
        have e : (l.take p).length = p := by simp; omega
        rcases this with e1 | e1 | e1 <;> simp [e1, show min p l.length = p by omega]
  subst ha
  have hb : b = 46 := by rw [← hdot]; exact (getD_mid a [c, d] b).symm
  subst hb
  rw [skp_split] at hd ⊢
  rw [List.all_append, Bool.and_eq_true, List.all_cons, List.all_cons, Bool.and_eq_true, Bool.and_eq_true] at hd
  have hc := dgt_iff.1 hd.2.1
  have hd' := dgt_iff.1 hd.2.2.1
  have hdec := (dec_of (a.length - 1) a (by omega) hd.1 (by
    by_cases q : a.length = 1
    · left; omega
    · right
      intro e
      cases a with
      | nil => cases e
      | cons h t =>
        have : h = 48 := by simpa using e
        exact q (hz (by rw [this]; rfl)))).1
  have hv : dval 0 (a ++ [c, d]) = 10 * (10 * dval 0 a + (c.toNat - 48)) + (d.toNat - 48) := by rw [dval_append]; rfl
  apply ba_ext
  rw [hX, monT_list, hv]
  rw [show (10 * (10 * dval 0 a + (c.toNat - 48)) + (d.toNat - 48)) / 100 = dval 0 a by omega, hdec]
  rw [byte_back (b := c) (by omega), byte_back (b := d) (by omega)]
theorem monT_inj {m n : Nat} (hm : m ≤ 1000000) (hn : n ≤ 1000000) (h : monT m = monT n) : m = n := by
  obtain ⟨p, h1, _, _, _, _, h2, _⟩ := mon_facts hm
  obtain ⟨q, g1, _, _, _, _, g2, _⟩ := mon_facts hn
  rw [← h] at g1 g2
  obtain rfl : p = q := by omega
  rw [← h2, g2]
theorem byte_eq {b : UInt8} {n : Nat} (hn : n < 256) : (b.toNat : Int) = (n : Int) ↔ b = UInt8.ofNat n := by
  constructor
  · intro h
    rw [byte_back (b := b) (by omega)]
  · intro h
    rw [h, UInt8.toNat_ofNat', Nat.mod_eq_of_lt (by omega)]
theorem specMon_E (x : ByteArray) (hx : x.size < 1000000000) : ∃ r, E (fun k => spec_readMoney (k 0) x) r ∧ monP x r := by
  have out : x.size < 4 ∨ 8 < x.size → ∀ n : Nat, n ≤ 1000000 → x ≠ monT n := fun h n hn e => by
    obtain ⟨p, h1, h2, h3, _⟩ := mon_facts hn
    rw [← e] at h1
    omega
  by_cases h4 : x.size < 4
  · exact ⟨-1, E.congr (fun k => spec_readMoney.eq (k 0) x) (E.pos (by omega) (E.now _)), .inr ⟨out (.inl h4), rfl⟩⟩
  · by_cases h10 : 10 < x.size
    · exact ⟨-1, E.congr (fun k => spec_readMoney.eq (k 0) x) (E.neg (by omega) (E.pos (by omega) (E.now _))), .inr ⟨out (.inr (by omega)), rfl⟩⟩
    · obtain ⟨p, hp⟩ : ∃ p, p + 3 = x.size := ⟨x.size - 3, by omega⟩
      have ew : wrap64 ((x.size : Int) - 3) = (p : Int) := by rw [wrap_id (by omega) (by omega)]; omega
      have e0 : Int.toNat 0 = 0 := rfl
      by_cases hdot : x.data.toList.getD p 0 = 46
      · have hdot' : ((x.data.toList.getD p 0).toNat : Int) = 46 := by rw [hdot]; rfl
        by_cases hz : x.data.toList.getD 0 0 = 48 ∧ 4 < x.size
        · have hz' : ((x.data.toList.getD 0 0).toNat : Int) = 48 := by rw [hz.1]; rfl
          have hz2 : ¬ (x.size : Int) < 4 ∧ ¬ (x.size : Int) > 10 ∧ 0 ≤ (p : Int) ∧ (p : Int) < (x.size : Int) ∧ 0 < (x.size : Int) ∧ (x.size : Int) > 4 := by have := hz.2; omega
          refine ⟨-1, E.congr (fun k => spec_readMoney.eq (k 0) x) ?_, .inr ⟨fun n hn e => ?_, rfl⟩⟩
          · rw [ew, Int.toNat_natCast, e0]
            refine E.neg hz2.1 (E.neg hz2.2.1 (E.pos hz2.2.2.1 (E.pos hz2.2.2.2.1 (E.pos hdot' (E.pos hz2.2.2.2.2.1 (E.pos hz' (E.pos hz2.2.2.2.2.2 ?_)))))))
            exact E.now _
          · obtain ⟨q, g1, _, _, _, _, _, g⟩ := mon_facts hn
            rw [← e] at g1 g
            have := g hz.1
            omega
        · have hl := specMon_l5 hp (by omega) x.data.toList [] 0 rfl (by rw [skp_nil]; rfl) (by rw [skp_nil]; rfl) (by decide)
          have hlp := E.ren (fun _ => 0) hl
          have hE : E (fun k => spec_readMoney (k 0) x) (if (skp p x.data.toList).all dgt = true then (if dval 0 (skp p x.data.toList) ≤ 1000000 then (dval 0 (skp p x.data.toList) : Int) else -1) else -1) := by
            refine E.congr (fun k => spec_readMoney.eq (k 0) x) ?_
            rw [ew, Int.toNat_natCast, e0]
            refine E.neg (by omega) (E.neg (by omega) (E.pos (by omega) (E.pos (by omega) (E.pos hdot' (E.pos (by omega) (E.ite (fun h => E.neg ?_ hlp) (fun h => hlp)))))))
            intro h'
            exact hz ⟨(byte_eq (b := x.data.toList.getD 0 0) (n := 48) (by decide)).1 h, by omega⟩
          refine ⟨_, hE, ?_⟩
          by_cases hd : (skp p x.data.toList).all dgt = true
          · rw [if_pos hd]
            by_cases hv : dval 0 (skp p x.data.toList) ≤ 1000000
            · rw [if_pos hv]
              refine .inl ⟨_, hv, (mon_back hp (by omega) hdot hd (fun h => ?_)).symm, rfl⟩
              have : ¬ 4 < x.size := fun h' => hz ⟨h, h'⟩
              omega
            · rw [if_neg hv]
              refine .inr ⟨fun n hn e => ?_, rfl⟩
              obtain ⟨q, g1, _, _, _, _, g, _⟩ := mon_facts hn
              rw [← e] at g1 g
              obtain rfl : p = q := by omega
              omega
          · rw [if_neg hd]
            refine .inr ⟨fun n hn e => ?_, rfl⟩
            obtain ⟨q, g1, _, _, _, g, _, _⟩ := mon_facts hn
            rw [← e] at g1 g
            obtain rfl : p = q := by omega
            exact hd g
      · have hdot' : ¬ ((x.data.toList.getD p 0).toNat : Int) = 46 := fun h => hdot ((byte_eq (n := 46) (by decide)).1 h)
        refine ⟨-1, E.congr (fun k => spec_readMoney.eq (k 0) x) ?_, .inr ⟨fun n hn e => ?_, rfl⟩⟩
        · rw [ew, Int.toNat_natCast]
          exact E.neg (by omega) (E.neg (by omega) (E.pos (by omega) (E.pos (by omega) (E.neg hdot' (E.now _)))))
        · obtain ⟨q, g1, _, _, g, _⟩ := mon_facts hn
          rw [← e] at g1 g
          obtain rfl : p = q := by omega
          exact hdot g
theorem implMon_E (x : ByteArray) (hx : x.size < 1000000000) : ∃ r, E (fun k => impl_ReadMoney (k 0) x) r ∧ monP x r := by
  have out : x.size < 4 ∨ 8 < x.size → ∀ n : Nat, n ≤ 1000000 → x ≠ monT n := fun h n hn e => by
    obtain ⟨p, h1, h2, h3, _⟩ := mon_facts hn
    rw [← e] at h1
    omega
  by_cases h4 : x.size < 4
  · exact ⟨-1, E.congr (fun k => impl_ReadMoney.eq (k 0) x) (E.pos (by omega) (E.now _)), .inr ⟨out (.inl h4), rfl⟩⟩
  · by_cases h8 : 8 < x.size
    · exact ⟨-1, E.congr (fun k => impl_ReadMoney.eq (k 0) x) (E.neg (by omega) (E.pos (by omega) (E.now _))), .inr ⟨out (.inr (by omega)), rfl⟩⟩
    · obtain ⟨p, hp⟩ : ∃ p, p + 3 = x.size := ⟨x.size - 3, by omega⟩
      have ew : wrap64 ((x.size : Int) - 3) = (p : Int) := by rw [wrap_id (by omega) (by omega)]; omega
      by_cases hdot : x.data.toList.getD p 0 = 46
      · have hdot' : ((x.data.toList.getD p 0).toNat : Int) = 46 := by rw [hdot]; rfl
        have hl := implMon_l5 hp (by omega) x.data.toList [] 0 rfl (by rw [skp_nil]; rfl) (by rw [skp_nil]; rfl) (by decide)
        have hlp := E.ren (fun _ => 0) hl
        have hE : E (fun k => impl_ReadMoney (k 0) x) (if (skp p x.data.toList).all dgt = true then (if dval 0 (skp p x.data.toList) ≤ 1000000 ∧ monT (dval 0 (skp p x.data.toList)) = x then (dval 0 (skp p x.data.toList) : Int) else -1) else -1) := by
          refine E.congr (fun k => impl_ReadMoney.eq (k 0) x) ?_
          rw [ew, Int.toNat_natCast]
          exact E.neg (by omega) (E.neg (by omega) (E.pos (by omega) (E.pos (by omega) (E.pos hdot' hlp))))
        refine ⟨_, hE, ?_⟩
        have no : ∀ n : Nat, n ≤ 1000000 → x = monT n → (skp p x.data.toList).all dgt = true ∧ dval 0 (skp p x.data.toList) = n := fun n hn e => by
          obtain ⟨q, g1, _, _, _, g, g2, _⟩ := mon_facts hn
          rw [← e] at g1 g g2
          obtain rfl : p = q := by omega
          exact ⟨g, g2⟩
        by_cases hd : (skp p x.data.toList).all dgt = true
        · rw [if_pos hd]
          by_cases hv : dval 0 (skp p x.data.toList) ≤ 1000000 ∧ monT (dval 0 (skp p x.data.toList)) = x
          · rw [if_pos hv]
            exact .inl ⟨_, hv.1, hv.2.symm, rfl⟩
          · rw [if_neg hv]
            refine .inr ⟨fun n hn e => ?_, rfl⟩
            have := (no n hn e).2
            exact hv (by rw [this]; exact ⟨hn, e.symm⟩)
        · rw [if_neg hd]
          exact .inr ⟨fun n hn e => hd (no n hn e).1, rfl⟩
      · have hdot' : ¬ ((x.data.toList.getD p 0).toNat : Int) = 46 := fun h => hdot ((byte_eq (n := 46) (by decide)).1 h)
        refine ⟨-1, E.congr (fun k => impl_ReadMoney.eq (k 0) x) ?_, .inr ⟨fun n hn e => ?_, rfl⟩⟩
        · rw [ew, Int.toNat_natCast]
          exact E.neg (by omega) (E.neg (by omega) (E.pos (by omega) (E.pos (by omega) (E.neg hdot' (E.now _)))))
        · obtain ⟨q, g1, _, _, g, _⟩ := mon_facts hn
          rw [← e] at g1 g
          obtain rfl : p = q := by omega
          exact hdot g
theorem monP_one {x : ByteArray} {r r' : Int} (h : monP x r) (h' : monP x r') : r = r' := by
  rcases h with ⟨n, hn, e, rfl⟩ | ⟨hn, rfl⟩ <;> rcases h' with ⟨m, hm, e', rfl⟩ | ⟨hm, rfl⟩
  · rw [monT_inj hn hm (e.symm.trans e')]
  · exact absurd e (hm n hn)
  · exact absurd e' (hn m hm)
  · rfl
theorem u8_of {s : List Int} (h : WfT (.slice (.int .u8)) s) : ∀ x ∈ s, 0 ≤ x ∧ x ≤ 255 := fun x hx => by
  have h' : (Lit.int .u8 x).wf = true := h.2 x hx
  simp only [Lit.wf, Bool.and_eq_true, decide_eq_true_eq] at h'
  have e1 : IntKind.u8.min = 0 := rfl
  have e2 : IntKind.u8.max = 255 := rfl
  omega
theorem of_D {s : List Int} {p b : Int} (hr : RdOk (s, p) b) (hb : b ≤ 1000000000) (xs : List ByteArray) (hx : 0 < xs.length) :
    ∃ v, E (fun k => spec_reader_of (k 0) ((s, p), xs)) (v, s, p + 1) ∧ v ∈ xs ∧ RdOk (s, p + 1) (b + 1) := by
  obtain ⟨v, h, h0, h1, hr'⟩ := pick_D hr hb xs.length
  have hv : v < (xs.length : Int) := h1 (by omega)
  exact ⟨xs.getD v.toNat ByteArray.empty, E.congr (fun k => spec_reader_of.eq (k 0) (s, p) xs) (E.bind h (E.pos h0 (E.pos hv (E.now _)))), getD_mem _ (by omega), hr'⟩
theorem one_byte {xs : List ByteArray} (h : xs.all (fun x => decide (x.size = 1)) = true) {v : ByteArray} (hv : v ∈ xs) : v.size = 1 := of_decide_eq_true (List.all_eq_true.1 h v hv)
theorem mutate_D {s : List Int} {p b : Int} (hr : RdOk (s, p) b) (hb : b ≤ 900000000) (t : ByteArray) (ht : t.size ≤ 100000000000) :
    ∃ v p', E (fun k => spec_mutate (k 0) ((s, p), t)) (v, s, p') ∧ v.size ≤ t.size + 1 ∧ RdOk (s, p') (b + 3) := by
  have ew : wrap64 ((t.size : Int) + 1) = (t.size : Int) + 1 := wrap_id (by omega) (by omega)
  obtain ⟨v0, h0, g0, g0', r0⟩ := pick_D hr (by omega) ((t.size : Int) + 1)
  have g1 := g0' (by omega)
  obtain ⟨v1, h1, _, _, r1⟩ := pick_D r0 (by omega) 5
  obtain ⟨v2, h2, m2, r2⟩ := of_D r1 (by omega) (List.set (List.set (List.set (List.set (List.set (List.set (List.set (List.replicate 7 ByteArray.empty) 0 { data := #[(48 : UInt8)] }) 1 { data := #[(49 : UInt8)] }) 2 { data := #[(32 : UInt8)] }) 3 { data := #[(46 : UInt8)] }) 4 { data := #[(115 : UInt8)] }) 5 { data := #[(10 : UInt8)] }) 6 { data := #[(57 : UInt8)] }) (by simp)
  obtain ⟨v3, h3, m3, r3⟩ := of_D r1 (by omega) (List.set (List.set (List.set (List.set (List.replicate 4 ByteArray.empty) 0 { data := #[(48 : UInt8)] }) 1 { data := #[(32 : UInt8)] }) 2 { data := #[(10 : UInt8)] }) 3 { data := #[(120 : UInt8)] }) (by simp)
  have s2 : v2.size = 1 := one_byte (by decide) m2
  have s3 : v3.size = 1 := one_byte (by decide) m3
  have bd : ∀ n : Nat, n ≤ 1000000000000 → n ≤ maxN := fun n h => by simp only [maxN]; omega
  have two : ∃ v p', E (fun k => spec_mutate.j5 (k 0) t v0 v1 true s (p + 1 + 1)) (v, s, p') ∧ v.size ≤ t.size + 1 ∧ RdOk (s, p') (b + 3) := by
    by_cases hk : v0 < (t.size : Int)
    · have ek : wrap64 (v0 + 1) = v0 + 1 := wrap_id (by omega) (by omega)
      refine ⟨t.extract 0 v0.toNat ++ v2 ++ t.extract (v0 + 1).toNat t.size, p + 1 + 1 + 1, E.congr (fun k => spec_mutate.j5_eq (k 0) t v0 v1 true s (p + 1 + 1)) ?_, ?_, r2.mono (by omega)⟩
      · refine E.pos rfl (E.pos hk (E.pos g0 (E.pos (by omega) (E.bind h2 (E.pos (bd _ ?_) (E.bind (E.veil _) ?_))))))
        · simp only [ByteArray.size_extract]; omega
        · rw [ek]
          refine E.pos (by omega) (E.pos (by omega) (E.pos (bd _ ?_) (E.now _)))
          simp only [ByteArray.size_append, ByteArray.size_extract]; omega
      · simp only [ByteArray.size_append, ByteArray.size_extract]; omega
    · exact ⟨t, p + 1 + 1, E.congr (fun k => spec_mutate.j5_eq (k 0) t v0 v1 true s (p + 1 + 1)) (E.pos rfl (E.neg hk (E.now _))), by omega, r1.mono (by omega)⟩
  have one : v1 ≠ 0 → v1 ≠ 1 → ∃ v p', E (fun k => spec_mutate.j5 (k 0) t v0 v1 false s (p + 1 + 1)) (v, s, p') ∧ v.size ≤ t.size + 1 ∧ RdOk (s, p') (b + 3) := fun n0 n1 => by
    by_cases q2 : v1 = 2
    · refine ⟨t.extract 0 v0.toNat, p + 1 + 1, E.congr (fun k => spec_mutate.j5_eq (k 0) t v0 v1 false s (p + 1 + 1)) (E.neg (by decide) (E.pos q2 (E.pos g0 (E.pos (by omega) (E.now _))))), ?_, r1.mono (by omega)⟩
      simp only [ByteArray.size_extract]; omega
    · by_cases q3 : v1 = 3
      · refine ⟨t ++ v3, p + 1 + 1 + 1, E.congr (fun k => spec_mutate.j5_eq (k 0) t v0 v1 false s (p + 1 + 1)) (E.neg (by decide) (E.neg q2 (E.pos q3 (E.bind h3 (E.pos ?_ (E.now _)))))), ?_, r3.mono (by omega)⟩
        · show t.size + v3.size ≤ maxN
          exact bd _ (by omega)
        · rw [ByteArray.size_append]; omega
      · exact ⟨t, p + 1 + 1, E.congr (fun k => spec_mutate.j5_eq (k 0) t v0 v1 false s (p + 1 + 1)) (E.neg (by decide) (E.neg q2 (E.neg q3 (E.now _)))), by omega, r1.mono (by omega)⟩
  by_cases n0 : v1 = 0
  · obtain ⟨v, p', h, hs, hr'⟩ := two
    refine ⟨v, p', E.congr (fun k => spec_mutate.eq (k 0) (s, p) t) (E.bind (E.veil _) ?_), hs, hr'⟩
    rw [ew]
    refine E.bind h0 (E.bind h1 (E.pos n0 ?_))
    rw [decide_eq_true n0]
    exact h
  · by_cases n1 : v1 = 1
    · obtain ⟨v, p', h, hs, hr'⟩ := two
      refine ⟨v, p', E.congr (fun k => spec_mutate.eq (k 0) (s, p) t) (E.bind (E.veil _) ?_), hs, hr'⟩
      rw [ew]
      refine E.bind h0 (E.bind h1 (E.neg n0 ?_))
      rw [decide_eq_true n1]
      exact h
    · obtain ⟨v, p', h, hs, hr'⟩ := one n0 n1
      refine ⟨v, p', E.congr (fun k => spec_mutate.eq (k 0) (s, p) t) (E.bind (E.veil _) ?_), hs, hr'⟩
      rw [ew]
      refine E.bind h0 (E.bind h1 (E.neg n0 ?_))
      rw [decide_eq_false n1]
      exact h
theorem anAmount_D {s : List Int} {p b : Int} (hr : RdOk (s, p) b) (hb : b ≤ 900000000) :
    ∃ v p', E (fun k => spec_anAmount (k 0) (s, p)) (v, s, p') ∧ v ≤ 1000001 ∧ RdOk (s, p') (b + 3) := by
  obtain ⟨v0, h0, g0, g0', r0⟩ := pick_D hr (by omega) 200
  obtain ⟨v1, h1, g1, g1', r1⟩ := pick_D r0 (by omega) 250
  obtain ⟨v2, h2, m2, r2⟩ := one_D r1 (by omega) (List.set (List.set (List.set (List.set (List.set (List.set (List.set (List.set (List.set (List.set (List.set (List.set (List.replicate 12 0) 0 1000) 1 (wrap64 (10 * v0))) 2 v1) 3 0) 4 12345) 5 1000000) 6 999999) 7 (-1)) 8 1000001) 9 25) 10 90909) 11 50) (by simp)
  have q0 := g0' (by omega)
  have q1 := g1' (by omega)
  refine ⟨v2, p + 1 + 1 + 1, E.congr (fun k => spec_anAmount.eq (k 0) (s, p)) (E.bind h0 (E.bind h1 (E.bind h2 (E.now _)))), ?_, r2.mono (by omega)⟩
  rw [wrap_id (x := 10 * v0) (by omega) (by omega)] at m2
  simp [List.set, List.replicate] at m2
  omega
theorem FnReadMoney_pure (s : List Int) (hw : WfT (.slice (.int .u8)) s) : ∃ n, laws_FnReadMoney n s = some true := by
  have hs := u8_of hw
  refine E.one (E.congr (fun k => laws_FnReadMoney.eq (k 0) s) (E.ite (fun h => E.now _) (fun h => ?_)))
  have hr : RdOk (s.take 2000, 0) 0 := ⟨fun x hx => hs x (List.mem_of_mem_take hx), by simp; omega, by simp, by simp⟩
  obtain ⟨a, p1, ha, la, r1⟩ := anAmount_D hr (by omega)
  have hmx : 0 ≤ mx a 0 ∧ mx a 0 ≤ 1000001 := by unfold mx; split <;> omega
  have hm := specMoneyB_E hmx.1 hmx.2
  have hms : (monT (mx a 0).toNat).size ≤ 1000000 := by have := monT_size (mx a 0).toNat; omega
  obtain ⟨v3, h3, _, _, r3⟩ := pick_D r1 (by omega) 3
  obtain ⟨t, p2, ht, hts, _⟩ := mutate_D r3 (by omega) (monT (mx a 0).toNat) (by omega)
  obtain ⟨x, hx, hxs⟩ : ∃ x, E (fun k => spec_DrawReadMoney (k 0) s) x ∧ x.size < 1000000000 := by
    by_cases q : v3 = 0
    · exact ⟨t, E.congr (fun k => spec_DrawReadMoney.eq (k 0) s) (E.bind (newReader_E s) (E.bind ha (E.bind hm (E.bind h3 (E.pos q (E.bind ht (E.now _))))))), by omega⟩
    · exact ⟨_, E.congr (fun k => spec_DrawReadMoney.eq (k 0) s) (E.bind (newReader_E s) (E.bind ha (E.bind hm (E.bind h3 (E.neg q (E.now _)))))), by omega⟩
  obtain ⟨r, hi, hri⟩ := implMon_E x hxs
  obtain ⟨r', hsp, hrs⟩ := specMon_E x hxs
  obtain rfl := monP_one hri hrs
  have hsp' : E (fun k => spec_ReadMoney (k 0) x) r := E.congr (fun k => spec_ReadMoney.eq (k 0) x) (E.bind hsp (E.now _))
  refine E.bind hx (E.bind hi (E.bind hsp' (E.pos rfl ?_)))
  rcases hri with ⟨n, hn, e, rfl⟩ | ⟨_, rfl⟩
  · exact E.neg (by omega) (E.bind (showMoney_E (by omega) (by omega)) (E.now' (by rw [Int.toNat_natCast, e, decide_eq_true rfl])))
  · exact E.pos (by omega) (E.bind hsp' (E.now' (decide_eq_true rfl)))
end Go.Proofs.YtifohlgdkdcpeaaDoorG
end
