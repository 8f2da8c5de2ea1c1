import Derived.Lib.AtoiAllCases
import Derived.Test.YtpgfkoeodhfkgaaGreatDoorB4
/- FnFormatEvent: mathematics of the law. No condition. -/
set_option linter.unusedVariables false
set_option linter.unusedSimpArgs false
section
set_option linter.unusedVariables false
namespace Go.Refl.Math
open Go Go.Refl Go.RowKit
def E {α : Type} (f : (Nat → Nat) → Option α) (r : α) : Prop := ∃ K, ∀ v : Nat → Nat, (∀ i, K ≤ v i) → f v = some r
variable {α β : Type}
theorem E.now (r : α) : E (fun _ => some r) r := ⟨0, fun _ _ => rfl⟩
theorem E.now' {r r' : α} (h : r = r') : E (fun _ => some r) r' := h ▸ E.now r
theorem E.is {f : (Nat → Nat) → Option α} {r r' : α} (k : E f r) (h : r = r') : E f r' := h ▸ k
theorem E.congr {f g : (Nat → Nat) → Option α} {r : α} (h : ∀ v, f v = g v) (k : E g r) : E f r := by
 obtain ⟨K, k⟩ := k
 exact ⟨K, fun v hv => (h v).trans (k v hv)⟩
theorem E.bind {f : (Nat → Nat) → Option α} {g : (Nat → Nat) → α → Option β} {a : α} {r : β} (h : E f a) (k : E (fun v => g v a) r) : E (fun v => (f v).bind (g v)) r := by
 obtain ⟨K, h⟩ := h
 obtain ⟨L, k⟩ := k
 exact ⟨max K L, fun v hv => by
  show (f v).bind (g v) = some r
  rw [h v (fun i => Nat.le_trans (Nat.le_max_left ..) (hv i))]
  exact k v (fun i => Nat.le_trans (Nat.le_max_right ..) (hv i))⟩
theorem E.pos {c : Prop} [Decidable c] {f g : (Nat → Nat) → Option α} {r : α} (h : c) (k : E f r) : E (fun v => if c then f v else g v) r := by
 obtain ⟨K, k⟩ := k
 exact ⟨K, fun v hv => by simp only [if_pos h]; exact k v hv⟩
theorem E.neg {c : Prop} [Decidable c] {f g : (Nat → Nat) → Option α} {r : α} (h : ¬ c) (k : E g r) : E (fun v => if c then f v else g v) r := by
 obtain ⟨K, k⟩ := k
 exact ⟨K, fun v hv => by simp only [if_neg h]; exact k v hv⟩
theorem E.ite {c : Prop} [Decidable c] {f g : (Nat → Nat) → Option α} {r : α} (h1 : c → E f r) (h2 : ¬ c → E g r) : E (fun v => if c then f v else g v) r := by
 by_cases h : c
 ·exact E.pos h (h1 h)
 ·exact E.neg h (h2 h)
theorem E.step (i : Nat) {f g : (Nat → Nat) → Option α} {r : α} (h : ∀ v w : Nat → Nat, v i = w i + 1 → (∀ j, j ≠ i → v j = w j) → f v = g w) (k : E g r) : E f r := by
 obtain ⟨K, k⟩ := k
 refine ⟨K + 1, fun v hv => ?_⟩
 have h1 := h v (fun j => if j = i then v i - 1 else v j) (by simp; have := hv i; omega) (fun j hj => by simp [hj])
 rw [h1]
 refine k _ fun j => ?_
 by_cases hj : j = i
 ·simp only [hj, if_true]; have := hv i; omega
 ·simp only [hj, if_false]; have := hv j; omega
theorem E.ren (σ : Nat → Nat) {f : (Nat → Nat) → Option α} {r : α} (k : E f r) : E (fun v => f (fun i => v (σ i))) r := by
 obtain ⟨K, k⟩ := k
 exact ⟨K, fun v hv => k _ fun i => hv (σ i)⟩
theorem E.one {f : Nat → Option α} {r : α} (k : E (fun v => f (v 0)) r) : ∃ n, f n = some r := by
 obtain ⟨K, k⟩ := k
 exact ⟨K, k (fun _ => K) fun _ => Nat.le_refl _⟩
theorem wrap_id {x : Int} (h1 : -9223372036854775808 ≤ x) (h2 : x ≤ 9223372036854775807) : wrap64 x = x := by unfold wrap64; omega
theorem wrap_nat {n : Nat} (h : n < 4611686018427387904) : wrap64 ((n : Int) + 1) = ((n + 1 : Nat) : Int) := by unfold wrap64; omega
theorem getD_mid {d : α} (pre post : List α) (x : α) : (pre ++ x :: post).getD pre.length d = x := by
 simp [List.getD_eq_getElem?_getD]
theorem getD_mem {xs : List α} {i : Nat} (d : α) (h : i < xs.length) : xs.getD i d ∈ xs := by
 rw [List.getD_eq_getElem?_getD, List.getElem?_eq_getElem h]
 exact List.getElem_mem _
end Go.Refl.Math
end
section
set_option linter.unusedVariables false
namespace Go.Proofs.YtpgfkoeodhfkgaaGreatDoorG
open Go Go.Refl Go.Refl.Math Go.RowKit
theorem inRange_E (n lo hi : Int) : E (fun k => spec_inRange (k 0) (n, lo, hi)) (decide (lo ≤ n) && decide (n ≤ hi)) :=
 E.congr (fun k => spec_inRange.eq (k 0) n lo hi) (E.ite (fun h => E.now' (by simp [h])) (fun h => E.now' (by simp [h])))
end Go.Proofs.YtpgfkoeodhfkgaaGreatDoorG
end
section
set_option linter.unusedVariables false
namespace Go.Proofs.YtpgfkoeodhfkgaaGreatDoorG
open Go Go.Refl Go.Refl.Math Go.RowKit
abbrev Ev7 := Int × Int × Int × Int × List Int × Int × Int
end Go.Proofs.YtpgfkoeodhfkgaaGreatDoorG
end
section
set_option linter.unusedVariables false
namespace Go.Proofs.YtpgfkoeodhfkgaaGreatDoorG
open Go Go.Refl Go.Refl.Math Go.RowKit
def EvsOk (l : List Ev7) : Prop := ∀ e ∈ l, e.2.2.2.2.1.length ≤ 1048576 ∧ (-1000 ≤ e.2.2.2.2.2.1 ∧ e.2.2.2.2.2.1 ≤ 1000) ∧ (-1000 ≤ e.2.2.2.2.2.2 ∧ e.2.2.2.2.2.2 ≤ 1000)
def EvsD (l : List Ev7) : Prop := ∀ e ∈ l, e.2.2.2.2.1.length ≤ 12 ∧ (-1000 ≤ e.2.2.2.2.2.1 ∧ e.2.2.2.2.2.1 ≤ 1000) ∧ (-1000 ≤ e.2.2.2.2.2.2 ∧ e.2.2.2.2.2.2 ≤ 1000)
theorem EvsD.ok {l : List Ev7} (h : EvsD l) : EvsOk l := fun e he => ⟨Nat.le_trans (h e he).1 (by decide), (h e he).2⟩
end Go.Proofs.YtpgfkoeodhfkgaaGreatDoorG
end
section
set_option linter.unusedVariables false
namespace Go.Proofs.YtpgfkoeodhfkgaaGreatDoorG
open Go Go.Refl Go.Refl.Math Go.RowKit
abbrev Ent := Int × Int × Int × Int
theorem specInR_E (n lo hi : Int) : E (fun k => spec_inRange (k 0) (n, lo, hi)) (decide (lo ≤ n ∧ n ≤ hi)) :=
 E.is (inRange_E n lo hi) (by rw [Bool.eq_iff_iff]; simp)
end Go.Proofs.YtpgfkoeodhfkgaaGreatDoorG
end
section
set_option linter.unusedVariables false
namespace Go.Proofs.YtpgfkoeodhfkgaaGreatDoorG
open Go Go.Refl Go.Refl.Math Go.RowKit
def AmtOk (l : List Ent) : Prop := ∀ e ∈ l, 0 ≤ e.2.2.2 ∧ e.2.2.2 < 10000000
end Go.Proofs.YtpgfkoeodhfkgaaGreatDoorG
end
section
set_option linter.unusedVariables false
namespace Go.Proofs.YtpgfkoeodhfkgaaGreatDoorG
open Go Go.Refl Go.Refl.Math Go.RowKit
theorem AmtOk.one {e : Ent} (h : 0 ≤ e.2.2.2 ∧ e.2.2.2 < 10000000) : AmtOk [e] := fun x hx => by
 simp at hx; subst hx; exact h
theorem AmtOk.set {l : List Ent} (h : AmtOk l) (i : Nat) (x : Ent) (hx : 0 ≤ x.2.2.2 ∧ x.2.2.2 < 10000000) : AmtOk (l.set i x) := fun e he => by
 rcases List.mem_or_eq_of_mem_set he with h1 | h1
 ·exact h e h1
 ·rw [h1]; exact hx
end Go.Proofs.YtpgfkoeodhfkgaaGreatDoorG
end
section
set_option linter.unusedVariables false
namespace Go.Proofs.YtpgfkoeodhfkgaaGreatDoorG
open Go Go.Refl Go.Refl.Math Go.RowKit
def decT (n : Nat) : ByteArray := ⟨(Go.Lib.decDigits n).toArray⟩
theorem decT_lt {n : Nat} (h : n < 10) : decT n = ⟨#[UInt8.ofNat (48 + n)]⟩ := by unfold decT; rw [Go.Lib.decDigits, dif_pos h]
theorem decT_ge {n : Nat} (h : ¬ n < 10) : decT n = decT (n / 10) ++ decT (n % 10) := by
 rw [decT_lt (n := n % 10) (by omega)]
 unfold decT
 rw [Go.Lib.decDigits, dif_neg h]
 apply ByteArray.ext
 rw [ByteArray.data_append]
 simp
theorem decT_one {n : Nat} (h : n < 10) : (decT n).size = 1 := by rw [decT_lt h]; rfl
theorem decT_size : ∀ (k n : Nat), n ≤ k → (decT n).size ≤ n + 1
 | 0, n, h => by rw [decT_one (by omega)]; omega
 | k + 1, n, h => by
  by_cases h1 : n < 10
  ·rw [decT_one h1]; omega
  ·have ih := decT_size k (n / 10) (by omega)
   rw [decT_ge h1, ByteArray.size_append, decT_one (n := n % 10) (by omega)]
   omega
theorem decT_sz (n : Nat) : (decT n).size ≤ n + 1 := decT_size n n (Nat.le_refl n)
theorem decT_two {n : Nat} (h : 10 ≤ n) : 2 ≤ (decT n).size := by
 rw [decT_ge (by omega), ByteArray.size_append, decT_one (n := n % 10) (by omega)]
 have : 1 ≤ (decT (n / 10)).size := by
  by_cases h1 : n / 10 < 10
  ·rw [decT_one h1]; omega
  ·rw [decT_ge h1, ByteArray.size_append, decT_one (n := n / 10 % 10) (by omega)]; omega
 omega
theorem digit_text : ∀ n : Nat, n < 10 → ByteArray.extract { data := #[(48 : UInt8), (49 : UInt8), (50 : UInt8), (51 : UInt8), (52 : UInt8), (53 : UInt8), (54 : UInt8), (55 : UInt8), (56 : UInt8), (57 : UInt8)] } n (n + 1) = ⟨#[UInt8.ofNat (48 + n)]⟩ := by
 intro n hn
 have : n = 0 ∨ n = 1 ∨ n = 2 ∨ n = 3 ∨ n = 4 ∨ n = 5 ∨ n = 6 ∨ n = 7 ∨ n = 8 ∨ n = 9 := by omega
 rcases this with rfl | rfl | rfl | rfl | rfl | rfl | rfl | rfl | rfl | rfl <;> decide
theorem specNum_k : ∀ (k x : Nat), x ≤ k → x ≤ 10000000 → ∀ n, k < n → spec_number n (x : Int) = some (decT x)
 | k, x, hx, hb, 0, hn => by omega
 | k, x, hx, hb, n + 1, hn => by
  rw [spec_number.succ, spec_number.eq]
  by_cases h : x < 10
  ·rw [if_pos (by omega), if_pos (by omega), wrap_id (x := (x : Int) + 1) (by omega) (by omega), if_pos (by omega), if_pos (by
    have : ((ByteArray.size { data := #[(48 : UInt8), (49 : UInt8), (50 : UInt8), (51 : UInt8), (52 : UInt8), (53 : UInt8), (54 : UInt8), (55 : UInt8), (56 : UInt8), (57 : UInt8)] } : Nat) : Int) = 10 := rfl
    rw [this]; omega)]
   rw [show Int.toNat ((x : Int) + 1) = x + 1 by omega, Int.toNat_natCast, digit_text x h, decT_lt h]
  ·match k, hx, hn with
   | 0, hx, hn => omega
   | k + 1, hx, hn =>
    rw [if_neg (by omega), Int.tdiv_eq_ediv_of_nonneg (by omega), Int.tmod_eq_emod_of_nonneg (by omega), wrap_id (by omega) (by omega)]
    rw [show (x : Int) / 10 = ((x / 10 : Nat) : Int) by omega, show (x : Int) % 10 = ((x % 10 : Nat) : Int) by omega]
    rw [specNum_k k (x / 10) (by omega) (by omega) n (by omega), specNum_k k (x % 10) (by omega) (by omega) n (by omega)]
    have s1 := decT_sz (x / 10)
    have s2 := decT_sz (x % 10)
    simp only [Option.bind_some]
    rw [if_pos (by simp only [maxN]; omega), ← decT_ge h]
theorem specNum_E {x : Int} (h0 : 0 ≤ x) (h1 : x ≤ 10000000) : E (fun k => spec_number (k 0) x) (decT x.toNat) := by
 obtain ⟨a, rfl⟩ := Int.eq_ofNat_of_zero_le h0
 refine ⟨a + 1, fun v hv => ?_⟩
 show spec_number (v 0) (a : Int) = _
 rw [specNum_k a a (Nat.le_refl a) (by omega) _ (by have := hv 0; omega), Int.toNat_natCast]
theorem itoa_E {x : Int} (h0 : 0 ≤ x) (h1 : x ≤ 10000000) : E (fun k => strconv_Itoa (k 0) x) (decT x.toNat) := by
 refine E.congr (fun k => ?_) (E.now _)
 show itRun x = _
 unfold itRun
 rw [decide_eq_true (by omega), decide_eq_true (by omega)]
 show some _ = some _
 unfold decT Go.Lib.itoa
 rw [if_neg (by omega)]
def spT : ByteArray := { data := #[(32 : UInt8)] }
def dotT : ByteArray := { data := #[(46 : UInt8)] }
def zT : ByteArray := { data := #[(48 : UInt8)] }
theorem spT_size : spT.size = 1 := rfl
theorem dotT_size : dotT.size = 1 := rfl
def monT (x : Nat) : ByteArray := decT (x / 100) ++ dotT ++ decT (x / 10 % 10) ++ decT (x % 10)
theorem monT_size (x : Nat) : (monT x).size ≤ x / 100 + 4 := by
 unfold monT
 rw [ByteArray.size_append, ByteArray.size_append, ByteArray.size_append, decT_one (n := x / 10 % 10) (by omega), decT_one (n := x % 10) (by omega), dotT_size]
 have := decT_sz (x / 100)
 omega
theorem showMoney_E {x : Int} (h0 : 0 ≤ x) (h1 : x ≤ 1000000) : E (fun k => impl_ShowMoney (k 0) x) (monT x.toNat) := by
 obtain ⟨a, rfl⟩ := Int.eq_ofNat_of_zero_le h0
 rw [Int.toNat_natCast]
 have e1 : Int.tmod (a : Int) 100 = ((a % 100 : Nat) : Int) := by rw [Int.tmod_eq_emod_of_nonneg (by omega)]; omega
 have e2 : wrap64 (Int.tdiv (a : Int) 100) = ((a / 100 : Nat) : Int) := by rw [Int.tdiv_eq_ediv_of_nonneg (by omega), wrap_id (by omega) (by omega)]; omega
 have i1 : E (fun k => strconv_Itoa (k 0) (Int.tmod (a : Int) 100)) (decT (a % 100)) := by rw [e1]; exact itoa_E (by omega) (by omega)
 have i2 : E (fun k => strconv_Itoa (k 0) (wrap64 (Int.tdiv (a : Int) 100))) (decT (a / 100)) := by rw [e2]; exact itoa_E (by omega) (by omega)
 have s1 := decT_sz (a / 100)
 have s2 := decT_sz (a % 100)
 refine E.congr (fun k => impl_ShowMoney.eq (k 0) _) (E.neg (by omega) (E.neg (by omega) (E.bind i1 ?_)))
 by_cases h : a % 100 < 10
 ·have s3 := decT_one h
  refine E.pos (by omega) (E.pos (by rw [s3]; exact (by decide)) (E.bind i2 (E.pos (by show _ + 1 ≤ maxN; simp only [maxN]; omega) (E.pos ?_ (E.now' ?_)))))
  ·rw [ByteArray.size_append, ByteArray.size_append, s3]; show _ + 1 + (1 + 1) ≤ maxN; simp only [maxN]; omega
  ·show decT (a / 100) ++ dotT ++ (zT ++ decT (a % 100)) = _
   unfold monT
   rw [show a % 100 = a % 10 by omega, show a / 10 % 10 = 0 by omega, show decT 0 = zT from decT_lt (by omega), ← ByteArray.append_assoc]
 ·have s3 := decT_two (n := a % 100) (by omega)
  refine E.neg (by omega) (E.bind i2 (E.pos (by show _ + 1 ≤ maxN; simp only [maxN]; omega) (E.pos ?_ (E.now' ?_))))
  ·rw [ByteArray.size_append]; show _ + 1 + _ ≤ maxN; simp only [maxN]; omega
  ·show decT (a / 100) ++ dotT ++ decT (a % 100) = _
   unfold monT
   rw [decT_ge (n := a % 100) h, show a % 100 / 10 = a / 10 % 10 by omega, show a % 100 % 10 = a % 10 by omega, ← ByteArray.append_assoc]
theorem bytesI_append (a b : ByteArray) : bytesI (a ++ b) = bytesI a ++ bytesI b := by
 unfold bytesI
 rw [ByteArray.data_append]
 simp
theorem bytesI_len (s : ByteArray) : (bytesI s).length = s.size := by unfold bytesI; rw [List.length_map, Array.length_toList]; rfl
theorem bytesI_byte (s : ByteArray) : (bytesI s).all isByte = true := by
 rw [List.all_eq_true]
 intro c hc
 unfold bytesI at hc
 obtain ⟨b, _, rfl⟩ := List.mem_map.1 hc
 have := UInt8.toNat_lt b
 unfold isByte
 rw [Bool.and_eq_true, decide_eq_true_eq, decide_eq_true_eq]
 omega
theorem ofBytes_bytesI (s : ByteArray) : ofBytes (bytesI s) = s := by
 apply ByteArray.ext
 unfold ofBytes bytesI
 simp [Function.comp_def]
theorem write_E {r : List Int} {s : ByteArray} (h : r.length + s.size ≤ 1000000000000) : E (fun k => strings_Builder_WriteString (k 0) (r, s)) ((s.size : Int), ([] : List Int), r ++ bytesI s) := by
 refine E.congr (fun k => ?_) (E.now _)
 show wsRun (r, s) = _
 unfold wsRun
 rw [Nat.ble_eq_true_of_le (by simp only [maxN]; omega)]
 rfl
theorem string_E (s : ByteArray) : E (fun k => strings_Builder_String (k 0) (bytesI s)) s := by
 refine E.congr (fun k => ?_) (E.now _)
 show stRun (bytesI s) = _
 unfold stRun
 rw [bytesI_byte, ofBytes_bytesI]
 rfl
end Go.Proofs.YtpgfkoeodhfkgaaGreatDoorG
end
section
set_option linter.unusedVariables false
namespace Go.Proofs.YtpgfkoeodhfkgaaGreatDoorG
open Go Go.Refl Go.Refl.Math Go.RowKit
abbrev EvT := Int × Int × Int × Int × List Int × Int × Int
def mV (m : Int) : Bool := decide (0 ≤ m ∧ m ≤ 99)
def aV (a : Int) : Bool := decide (0 ≤ a ∧ a ≤ 1000000)
def rV (n d : Int) : Bool := decide (1 ≤ d ∧ d ≤ 1000 ∧ 0 ≤ n ∧ n ≤ d)
theorem mV_iff {m : Int} : mV m = true ↔ 0 ≤ m ∧ m ≤ 99 := decide_eq_true_iff
theorem aV_iff {m : Int} : aV m = true ↔ 0 ≤ m ∧ m ≤ 1000000 := decide_eq_true_iff
theorem rV_iff {n d : Int} : rV n d = true ↔ 1 ≤ d ∧ d ≤ 1000 ∧ 0 ≤ n ∧ n ≤ d := decide_eq_true_iff
def bnT (m : Int) : ByteArray := spT ++ decT m.toNat
def bmT (a : Int) : ByteArray := spT ++ monT a.toNat
def memT : List Int → ByteArray
 | [] => ByteArray.empty
 | m :: ms => bnT m ++ memT ms
def kjoin : ByteArray := { data := #[(106 : UInt8), (111 : UInt8), (105 : UInt8), (110 : UInt8)] }
def ksave : ByteArray := { data := #[(115 : UInt8), (97 : UInt8), (118 : UInt8), (101 : UInt8)] }
def ktake : ByteArray := { data := #[(116 : UInt8), (97 : UInt8), (107 : UInt8), (101 : UInt8)] }
def klend : ByteArray := { data := #[(108 : UInt8), (101 : UInt8), (110 : UInt8), (100 : UInt8)] }
def krepay : ByteArray := { data := #[(114 : UInt8), (101 : UInt8), (112 : UInt8), (97 : UInt8), (121 : UInt8)] }
def kfail : ByteArray := { data := #[(102 : UInt8), (97 : UInt8), (105 : UInt8), (108 : UInt8)] }
def knight : ByteArray := { data := #[(110 : UInt8), (105 : UInt8), (103 : UInt8), (104 : UInt8), (116 : UInt8)] }
def kshare : ByteArray := { data := #[(115 : UInt8), (104 : UInt8), (97 : UInt8), (114 : UInt8), (101 : UInt8)] }
theorem ksave_sp : ({ data := #[(115 : UInt8), (97 : UInt8), (118 : UInt8), (101 : UInt8), (32 : UInt8)] } : ByteArray) = ksave ++ spT := by apply ByteArray.ext; rw [ByteArray.data_append]; rfl
theorem ktake_sp : ({ data := #[(116 : UInt8), (97 : UInt8), (107 : UInt8), (101 : UInt8), (32 : UInt8)] } : ByteArray) = ktake ++ spT := by apply ByteArray.ext; rw [ByteArray.data_append]; rfl
theorem klend_sp : ({ data := #[(108 : UInt8), (101 : UInt8), (110 : UInt8), (100 : UInt8), (32 : UInt8)] } : ByteArray) = klend ++ spT := by apply ByteArray.ext; rw [ByteArray.data_append]; rfl
theorem krepay_sp : ({ data := #[(114 : UInt8), (101 : UInt8), (112 : UInt8), (97 : UInt8), (121 : UInt8), (32 : UInt8)] } : ByteArray) = krepay ++ spT := by apply ByteArray.ext; rw [ByteArray.data_append]; rfl
theorem kfail_sp : ({ data := #[(102 : UInt8), (97 : UInt8), (105 : UInt8), (108 : UInt8), (32 : UInt8)] } : ByteArray) = kfail ++ spT := by apply ByteArray.ext; rw [ByteArray.data_append]; rfl
theorem knight_sp : ({ data := #[(110 : UInt8), (105 : UInt8), (103 : UInt8), (104 : UInt8), (116 : UInt8), (32 : UInt8)] } : ByteArray) = knight ++ spT := by apply ByteArray.ext; rw [ByteArray.data_append]; rfl
def evtT (e : EvT) : ByteArray :=
 if e.1 = 0 then kjoin else if e.1 = 7 then kshare else if e.1 = 6 then (if rV e.2.2.2.2.2.1 e.2.2.2.2.2.2 = true then knight ++ (bnT e.2.2.2.2.2.1 ++ bnT e.2.2.2.2.2.2) else ByteArray.empty)
 else if mV e.2.1 = true then (if e.1 = 5 then kfail ++ bnT e.2.1 else if aV e.2.2.1 = true then
  (if e.1 = 1 then ksave ++ (bnT e.2.1 ++ bmT e.2.2.1) else if e.1 = 2 then ktake ++ (bnT e.2.1 ++ bmT e.2.2.1)
  else if e.1 = 4 then (if aV e.2.2.2.1 = true then krepay ++ (bnT e.2.1 ++ bmT e.2.2.1 ++ bmT e.2.2.2.1) else ByteArray.empty)
  else if e.1 = 3 then (if e.2.2.2.2.1.all mV = true then klend ++ (bnT e.2.1 ++ bmT e.2.2.1 ++ memT e.2.2.2.2.1) else ByteArray.empty) else ByteArray.empty) else ByteArray.empty) else ByteArray.empty
theorem bnT_size {m : Int} (h : m ≤ 1000) : (bnT m).size ≤ 1002 := by
 unfold bnT
 rw [ByteArray.size_append, spT_size]
 have := decT_sz m.toNat
 omega
theorem bnT_size' {m : Int} (h : m ≤ 99) : (bnT m).size ≤ 101 := by
 unfold bnT
 rw [ByteArray.size_append, spT_size]
 have := decT_sz m.toNat
 omega
theorem bmT_size {a : Int} (h : a ≤ 1000000) : (bmT a).size ≤ 10005 := by
 unfold bmT
 rw [ByteArray.size_append, spT_size]
 have := monT_size a.toNat
 omega
theorem memT_size : ∀ {l : List Int}, l.all mV = true → (memT l).size ≤ l.length * 101
 | [], _ => by show 0 ≤ _; omega
 | m :: l, h => by
  rw [List.all_cons, Bool.and_eq_true] at h
  have ih := memT_size h.2
  have h1 := bnT_size' (mV_iff.1 h.1).2
  simp only [memT, ByteArray.size_append, List.length_cons]
  omega
theorem specAmt_E (x : Int) : E (fun k => spec_validAmount (k 0) x) (aV x) := E.congr (fun k => spec_validAmount.eq (k 0) x) (E.bind (specInR_E ..) (E.now _))
theorem specRate_E (n d : Int) : E (fun k => spec_validRate (k 0) (n, d)) (rV n d) := by
 refine E.congr (fun k => spec_validRate.eq (k 0) (n, d)) (E.bind (specInR_E ..) (E.ite (fun h => E.bind (specInR_E ..) (E.now' ?_)) (fun h => E.now' ?_)))
 ·simp only [decide_eq_true_eq] at h
  unfold rV; rw [decide_eq_decide]; omega
 ·simp only [decide_eq_true_eq] at h
  unfold rV; symm; rw [decide_eq_false_iff_not]; omega
theorem specMoneyB_E {x : Int} (h0 : 0 ≤ x) (h1 : x ≤ 1000001) : E (fun k => spec_money (k 0) x) (monT x.toNat) := by
 obtain ⟨x, rfl⟩ := Int.eq_ofNat_of_zero_le h0
 have e1 : wrap64 (Int.tdiv (x : Int) 100) = ((x / 100 : Nat) : Int) := by rw [Int.tdiv_eq_ediv_of_nonneg (by omega), wrap_id (by omega) (by omega)]; omega
 have e2 : Int.tmod (wrap64 (Int.tdiv (x : Int) 10)) 10 = ((x / 10 % 10 : Nat) : Int) := by rw [Int.tdiv_eq_ediv_of_nonneg (by omega), wrap_id (by omega) (by omega), Int.tmod_eq_emod_of_nonneg (by omega)]; omega
 have e3 : Int.tmod (x : Int) 10 = ((x % 10 : Nat) : Int) := by rw [Int.tmod_eq_emod_of_nonneg (by omega)]; omega
 have s4 := decT_sz (x / 100)
 have s5 := decT_sz (x / 10 % 10)
 have s6 := decT_sz (x % 10)
 have n4 : E (fun k => spec_number (k 0) (wrap64 (Int.tdiv (x : Int) 100))) (decT (x / 100)) := by rw [e1]; exact specNum_E (by omega) (by omega)
 have n5 : E (fun k => spec_number (k 0) (Int.tmod (wrap64 (Int.tdiv (x : Int) 10)) 10)) (decT (x / 10 % 10)) := by rw [e2]; exact specNum_E (by omega) (by omega)
 have n6 : E (fun k => spec_number (k 0) (Int.tmod (x : Int) 10)) (decT (x % 10)) := by rw [e3]; exact specNum_E (by omega) (by omega)
 have q2 : ByteArray.size { data := #[(46 : UInt8)] } = 1 := rfl
 have bd : ∀ n : Nat, n ≤ 100000 → n ≤ maxN := fun n h => by simp only [maxN]; omega
 refine E.congr (fun k => spec_money.eq (k 0) _) ?_
 simp only [ByteArray.size_append, q2]
 refine E.bind n4 (E.pos (bd _ (by omega)) (E.bind n5 (E.pos (bd _ (by omega)) (E.bind n6 (E.pos (bd _ (by omega)) (E.now' ?_))))))
 rfl
theorem specMoney_E {x : Int} (h0 : 0 ≤ x) (h1 : x ≤ 1000000) : E (fun k => spec_money (k 0) x) (monT x.toNat) := specMoneyB_E h0 (by omega)
theorem specEvt_l27 {a b c d f g : Int} : ∀ (post pre : List Int) (acc : ByteArray), (pre ++ post).length < 1000000000 → acc.size + 200 * post.length ≤ 1000000000000 →
  E (fun k => spec_showEvent.l27 (k 0) (k 1) acc (pre.length : Int) a b c d (pre ++ post) f g) (if post.all mV = true then acc ++ memT post else ByteArray.empty)
 | [], pre, acc, hl, hs => by
  refine E.step 1 (fun v w h1 h2 => by rewrite [h1, h2 0 (by decide)]; exact spec_showEvent.l27_succ ..) ?_
  exact E.neg (by simp) (E.now' (by rw [if_pos (by rfl), memT, ByteArray.append_empty]))
 | m :: post, pre, acc, hl, hs => by
  have hlen : (pre ++ m :: post).length = pre.length + (post.length + 1) := by simp
  have ih := specEvt_l27 (a := a) (b := b) (c := c) (d := d) (f := f) (g := g) post (pre ++ [m])
  rw [show (pre ++ [m]).length = pre.length + 1 from by simp, List.append_assoc] at ih
  rw [List.length_cons] at hs
  have q1 : ByteArray.size { data := #[(32 : UInt8)] } = 1 := rfl
  refine E.step 1 (fun v w h1 h2 => by rewrite [h1, h2 0 (by decide)]; exact spec_showEvent.l27_succ ..) ?_
  simp only [Int.toNat_natCast, getD_mid, ByteArray.size_append, q1]
  rw [wrap_nat (by omega)]
  refine E.pos (by omega) (E.pos (by omega) (E.pos (by omega) (E.bind (specInR_E ..) (E.ite (fun h => E.now' ?_) (fun h => ?_)))))
  ·have hm : mV m = false := by unfold mV; rw [decide_eq_false_iff_not]; simp only [Bool.not_eq_true', decide_eq_false_iff_not] at h; exact h
   rw [if_neg (by rw [List.all_cons, hm]; simp)]
   rfl
  ·have hm : mV m = true := by unfold mV; simp only [Bool.not_eq_true', decide_eq_false_iff_not, Decidable.not_not] at h; exact decide_eq_true h
   have hm' := mV_iff.1 hm
   have s1 := decT_sz m.toNat
   refine E.pos (by simp only [maxN]; omega) (E.pos (by omega) (E.pos (by omega) (E.bind (specNum_E hm'.1 (by omega)) (E.pos (by simp only [maxN]; omega) ?_))))
   refine E.is (ih (acc ++ spT ++ decT m.toNat) (by simpa using hl) (by simp only [ByteArray.size_append, spT_size]; omega)) ?_
   rw [List.all_cons, hm, Bool.true_and]
   congr 1
   simp only [memT, bnT, ByteArray.append_assoc]
theorem specEvt_E (e : EvT) (hl : e.2.2.2.2.1.length < 1000000000) : E (fun k => spec_showEvent (k 0) e) (evtT e) := by
 obtain ⟨kd, m, a, rest, ms, n, d⟩ := e
 simp only at hl
 have q1 : ByteArray.size { data := #[(32 : UInt8)] } = 1 := rfl
 have bd : ∀ n : Nat, n ≤ 100000 → n ≤ maxN := fun n h => by simp only [maxN]; omega
 have z5 : ∀ a b c d e : UInt8, ByteArray.size { data := #[a, b, c, d, e] } = 5 := fun _ _ _ _ _ => rfl
 have z6 : ∀ a b c d e f : UInt8, ByteArray.size { data := #[a, b, c, d, e, f] } = 6 := fun _ _ _ _ _ _ => rfl
 have s1 := decT_sz m.toNat
 have s2 := monT_size a.toNat
 have s3 := monT_size rest.toNat
 have s4 := decT_sz n.toNat
 have s5 := decT_sz d.toNat
 refine E.congr (fun k => spec_showEvent.eq (k 0) _) ?_
 simp only [ByteArray.size_append, q1, z5, z6]
 unfold evtT
 simp only
 refine E.ite (fun h => E.now' (by rw [if_pos h]; rfl)) (fun h0 => ?_)
 rw [if_neg h0]
 refine E.ite (fun h => E.now' (by rw [if_pos h]; rfl)) (fun h7 => ?_)
 rw [if_neg h7]
 refine E.ite (fun h6 => ?_) (fun h6 => ?_)
 ·rw [if_pos h6]
  refine E.bind (specRate_E n d) (E.ite (fun h => ?_) (fun h => E.now' (by rw [if_neg h]; rfl)))
  have hr := rV_iff.1 h
  rw [if_pos h]
  refine E.bind (specNum_E (by omega) (by omega)) (E.pos (bd _ (by omega)) (E.pos (bd _ (by omega)) (E.bind (specNum_E (by omega) (by omega)) (E.pos (bd _ (by omega)) (E.now' ?_)))))
  rw [knight_sp]
  simp only [bnT, ByteArray.append_assoc]
  rfl
 rw [if_neg h6]
 refine E.bind (specInR_E ..) (E.ite (fun h => E.now' ?_) (fun h => ?_))
 ·have hm : mV m = false := by unfold mV; rw [decide_eq_false_iff_not]; simp only [Bool.not_eq_true', decide_eq_false_iff_not] at h; exact h
  rw [if_neg (by rw [hm]; simp)]
  rfl
 have hm : mV m = true := by unfold mV; simp only [Bool.not_eq_true', decide_eq_false_iff_not, Decidable.not_not] at h; exact decide_eq_true h
 have hm' := mV_iff.1 hm
 rw [if_pos hm]
 refine E.ite (fun h5 => ?_) (fun h5 => ?_)
 ·rw [if_pos h5]
  refine E.bind (specNum_E (by omega) (by omega)) (E.pos (bd _ (by omega)) (E.now' ?_))
  rw [kfail_sp]
  simp only [bnT, ByteArray.append_assoc]
 rw [if_neg h5]
 refine E.bind (specAmt_E a) (E.ite (fun h => E.now' ?_) (fun h => ?_))
 ·have ha : aV a = false := by simpa using h
  rw [if_neg (by rw [ha]; simp)]
  rfl
 have ha : aV a = true := by simpa using h
 have ha' := aV_iff.1 ha
 rw [if_pos ha]
 have num := specNum_E (x := m) (by omega) (by omega)
 have mon := specMoney_E ha'.1 ha'.2
 refine E.ite (fun h1 => ?_) (fun h1 => ?_)
 ·rw [if_pos h1]
  refine E.bind num (E.pos (bd _ (by omega)) (E.pos (bd _ (by omega)) (E.bind mon (E.pos (bd _ (by omega)) (E.now' ?_)))))
  rw [ksave_sp]
  simp only [bnT, bmT, ByteArray.append_assoc]
  rfl
 rw [if_neg h1]
 refine E.ite (fun h2 => ?_) (fun h2 => ?_)
 ·rw [if_pos h2]
  refine E.bind num (E.pos (bd _ (by omega)) (E.pos (bd _ (by omega)) (E.bind mon (E.pos (bd _ (by omega)) (E.now' ?_)))))
  rw [ktake_sp]
  simp only [bnT, bmT, ByteArray.append_assoc]
  rfl
 rw [if_neg h2]
 refine E.ite (fun h4 => ?_) (fun h4 => ?_)
 ·rw [if_pos h4]
  refine E.bind (specAmt_E rest) (E.ite (fun h => ?_) (fun h => E.now' (by rw [if_neg h]; rfl)))
  have hb := aV_iff.1 h
  rw [if_pos h]
  refine E.bind num (E.pos (bd _ (by omega)) (E.pos (bd _ (by omega)) (E.bind mon (E.pos (bd _ (by omega)) (E.pos (bd _ (by omega)) (E.bind (specMoney_E hb.1 hb.2) (E.pos (bd _ (by omega)) (E.now' ?_))))))))
  rw [krepay_sp]
  simp only [bnT, bmT, ByteArray.append_assoc]
  rfl
 rw [if_neg h4]
 refine E.ite (fun h3 => ?_) (fun h3 => E.now' (by rw [if_neg h3]; rfl))
 rw [if_pos h3]
 refine E.bind num (E.pos (bd _ (by omega)) (E.pos (bd _ (by omega)) (E.bind mon (E.pos (bd _ (by omega)) ?_))))
 have lp := specEvt_l27 (a := kd) (b := m) (c := a) (d := rest) (f := n) (g := d) ms [] ({ data := #[(108 : UInt8), (101 : UInt8), (110 : UInt8), (100 : UInt8), (32 : UInt8)] } ++ decT m.toNat ++ spT ++ monT a.toNat) (by simpa using hl) (by simp only [ByteArray.size_append, spT_size, z5]; omega)
 refine E.is (E.ren (fun _ => 0) lp) ?_
 rw [klend_sp]
 simp only [bnT, bmT, ByteArray.append_assoc]
end Go.Proofs.YtpgfkoeodhfkgaaGreatDoorG
end
section
set_option linter.unusedVariables false
namespace Go.Proofs.YtpgfkoeodhfkgaaGreatDoorG
open Go Go.Refl Go.Refl.Math Go.RowKit
def itG (x : Int) : ByteArray := ⟨(Go.Lib.itoa x).toArray⟩
theorem itG_nat {x : Int} (h : 0 ≤ x) : itG x = decT x.toNat := by unfold itG decT Go.Lib.itoa; rw [if_neg (by omega)]
theorem decT_pow : ∀ (k u : Nat), u < 10 ^ (k + 1) → (decT u).size ≤ k + 1
 | 0, u, h => by rw [decT_one (by simpa using h)]; exact Nat.le_refl _
 | k + 1, u, h => by
  by_cases h1 : u < 10
  ·rw [decT_one h1]; omega
  ·have ih := decT_pow k (u / 10) (by rw [Nat.pow_succ] at h; omega)
   rw [decT_ge h1, ByteArray.size_append, decT_one (n := u % 10) (by omega)]
   omega
theorem itG_size {x : Int} (h0 : -9223372036854775808 ≤ x) (h1 : x ≤ 9223372036854775807) : (itG x).size ≤ 30 := by
 by_cases h : 0 ≤ x
 ·rw [itG_nat h]
  have := decT_pow 18 x.toNat (by omega)
  omega
 ·have h2 := decT_pow 18 x.natAbs (by omega)
  have e : (itG x).size = 1 + (decT x.natAbs).size := by
   unfold itG decT Go.Lib.itoa
   rw [if_pos (by omega)]
   simp [ByteArray.size]
   omega
  omega
theorem itoaG_E {x : Int} (h0 : -9223372036854775808 ≤ x) (h1 : x ≤ 9223372036854775807) : E (fun k => strconv_Itoa (k 0) x) (itG x) := by
 refine E.congr (fun k => ?_) (E.now _)
 show itRun x = _
 unfold itRun
 rw [decide_eq_true (by omega), decide_eq_true (by omega)]
 rfl
theorem members_l3 : ∀ (post pre : List Int) (acc : ByteArray), (pre ++ post).length < 1000000000 → acc.size + 200 * post.length ≤ 900000000000 →
  E (fun k => impl_showMembers.l3 (k 0) (k 1) (pre ++ post) ((pre ++ post).length : Int) (pre.length : Int) (bytesI acc)) (if post.all mV = true then (acc ++ memT post, true) else (ByteArray.empty, false))
 | [], pre, acc, hl, hs => by
  refine E.step 1 (fun v w h1 h2 => by rewrite [h1, h2 0 (by decide)]; exact impl_showMembers.l3_succ ..) ?_
  exact E.neg (by simp) (E.bind (string_E acc) (E.now' (by rw [if_pos (by rfl), memT, ByteArray.append_empty])))
 | m :: post, pre, acc, hl, hs => by
  have hlen : (pre ++ m :: post).length = pre.length + (post.length + 1) := by simp
  have ih := members_l3 post (pre ++ [m]) (acc ++ (spT ++ decT m.toNat)) (by simpa using hl)
  rw [show (pre ++ [m]).length = pre.length + 1 from by simp, List.append_assoc, bytesI_append] at ih
  rw [List.length_cons] at hs
  have q1 : ByteArray.size { data := #[(32 : UInt8)] } = 1 := rfl
  have no : mV m = false → (ByteArray.empty, false) = if (m :: post).all mV = true then (acc ++ memT (m :: post), true) else (ByteArray.empty, false) := fun h => by
   rw [if_neg (by rw [List.all_cons, h]; simp)]
  refine E.step 1 (fun v w h1 h2 => by rewrite [h1, h2 0 (by decide)]; exact impl_showMembers.l3_succ ..) ?_
  simp only [Int.toNat_natCast, getD_mid]
  rw [wrap_nat (by omega)]
  refine E.pos (by omega) (E.pos (by omega) (E.pos (by omega) (E.ite (fun h => E.now' (no (decide_eq_false (by omega)))) (fun h1 => E.ite (fun h => E.now' (no (decide_eq_false (by omega)))) (fun h2 => ?_)))))
  have hm : mV m = true := mV_iff.2 (by omega)
  have s1 := decT_sz m.toNat
  refine E.bind (itoa_E (by omega) (by omega)) (E.pos (by rw [q1]; simp only [maxN]; omega) (E.bind (write_E (by rw [bytesI_len, ByteArray.size_append, q1]; omega)) ?_))
  refine E.is (ih (by simp only [ByteArray.size_append, spT_size]; omega)) ?_
  rw [List.all_cons, hm, Bool.true_and]
  simp only [memT, bnT, ByteArray.append_assoc]
theorem members_E (l : List Int) (hl : l.length < 1000000000) : E (fun k => impl_showMembers (k 0) l) (if l.all mV = true then (memT l, true) else (ByteArray.empty, false)) := by
 refine E.congr (fun k => impl_showMembers.eq (k 0) l) ?_
 have h0 : ByteArray.size ByteArray.empty = 0 := rfl
 have := members_l3 l [] ByteArray.empty (by simpa using hl) (by rw [h0]; omega)
 refine E.is (E.ren (fun _ => 0) this) ?_
 rw [ByteArray.empty_append]
theorem monT_ne (x : Nat) : monT x ≠ { data := #[] } := by
 intro h
 have h1 := congrArg ByteArray.size h
 have h2 : ByteArray.size { data := #[] } = 0 := rfl
 unfold monT at h1
 simp only [ByteArray.size_append, dotT_size, h2] at h1
 omega
theorem money_no {x : Int} (h : aV x = false) : E (fun k => impl_ShowMoney (k 0) x) { data := #[] } := by
 have h' : ¬ (0 ≤ x ∧ x ≤ 1000000) := of_decide_eq_false h
 exact E.congr (fun k => impl_ShowMoney.eq (k 0) x) (E.ite (fun h => E.now _) (fun h1 => E.ite (fun h => E.now _) (fun h2 => absurd ⟨by omega, by omega⟩ h')))
theorem amounts_E (a : Int) : E (fun k => impl_showAmounts (k 0) [a]) (if aV a = true then (bmT a, true) else (ByteArray.empty, false)) := by
 refine E.congr (fun k => impl_showAmounts.eq (k 0) [a]) ?_
 have lp : E (fun k => impl_showAmounts.l3 (k 0) (k 1) { data := #[] } [a] 1 0) (if aV a = true then (bmT a, true) else (ByteArray.empty, false)) := by
  refine E.step 1 (fun v w h1 h2 => by rewrite [h1, h2 0 (by decide)]; exact impl_showAmounts.l3_succ ..) ?_
  refine E.pos (by decide) (E.pos (by decide) (E.pos (by simp) ?_))
  show E (fun k => (impl_ShowMoney (k 0) a).bind _) _
  by_cases h : aV a = true
  ·have ha := aV_iff.1 h
   have s1 := monT_size a.toNat
   have q1 : ByteArray.size { data := #[(32 : UInt8)] } = 1 := rfl
   have q0 : ByteArray.size { data := #[] } = 0 := rfl
   rw [if_pos h]
   refine E.bind (showMoney_E ha.1 ha.2) (E.neg (monT_ne _) (E.pos (by rw [q1]; simp only [maxN]; omega) (E.pos (by rw [ByteArray.size_append, q1, q0]; simp only [maxN]; omega) ?_)))
   refine E.step 1 (fun v w h1 h2 => by rewrite [h1, h2 0 (by decide)]; exact impl_showAmounts.l3_succ ..) ?_
   refine E.neg (by rw [wrap_id (by omega) (by omega)]; omega) (E.now' ?_)
   show (ByteArray.empty ++ (spT ++ monT a.toNat), true) = _
   rw [ByteArray.empty_append]; rfl
  ·rw [if_neg h]
   exact E.bind (money_no (by simpa using h)) (E.pos rfl (E.now' rfl))
 exact E.ren (fun _ => 0) lp
theorem implRate_E (n d : Int) : E (fun k => impl_ValidRate (k 0) (n, d)) (rV n d) := by
 refine E.congr (fun k => impl_ValidRate.eq (k 0) (n, d)) (E.ite (fun h1 => E.ite (fun h2 => E.ite (fun h3 => E.now' ?_) (fun h3 => E.now' ?_)) (fun h2 => E.now' ?_)) (fun h1 => E.now' ?_))
 ·unfold rV; rw [decide_eq_decide]; simp only at h1 h2 h3 ⊢; omega
 all_goals (unfold rV; symm; rw [decide_eq_false_iff_not]; simp only at *; omega)
def memP (l : List Int) : ByteArray × Bool := if l.all mV = true then (memT l, true) else (ByteArray.empty, false)
def amtP (a : Int) : ByteArray × Bool := if aV a = true then (bmT a, true) else (ByteArray.empty, false)
def detP (e : EvT) : ByteArray × Bool :=
 if e.1 = 0 then (ByteArray.empty, true) else if e.1 = 7 then (ByteArray.empty, true) else if e.1 = 6 then (spT ++ itG e.2.2.2.2.2.1 ++ spT ++ itG e.2.2.2.2.2.2, rV e.2.2.2.2.2.1 e.2.2.2.2.2.2)
 else if e.1 = 5 then memP [e.2.1] else if e.1 = 4 then ((memP [e.2.1]).1 ++ (amtP e.2.2.1).1 ++ (amtP e.2.2.2.1).1, (memP [e.2.1]).2 && (amtP e.2.2.1).2 && (amtP e.2.2.2.1).2)
 else if e.1 = 3 then ((memP [e.2.1]).1 ++ (amtP e.2.2.1).1 ++ (memP e.2.2.2.2.1).1, (memP [e.2.1]).2 && (amtP e.2.2.1).2 && (memP e.2.2.2.2.1).2)
 else ((memP [e.2.1]).1 ++ (amtP e.2.2.1).1, (memP [e.2.1]).2 && (amtP e.2.2.1).2)
theorem memP_size (l : List Int) : (memP l).1.size ≤ l.length * 101 := by
 unfold memP
 split
 ·rename_i h; exact memT_size h
 ·exact Nat.zero_le _
theorem amtP_size (a : Int) : (amtP a).1.size ≤ 10005 := by
 unfold amtP
 split
 ·rename_i h; exact bmT_size (aV_iff.1 h).2
 ·exact Nat.zero_le _
theorem details_E (e : EvT) (hl : e.2.2.2.2.1.length < 1000000000) (b1 : -9223372036854775808 ≤ e.2.2.2.2.2.1) (b2 : e.2.2.2.2.2.1 ≤ 9223372036854775807) (b3 : -9223372036854775808 ≤ e.2.2.2.2.2.2) (b4 : e.2.2.2.2.2.2 ≤ 9223372036854775807) :
  E (fun k => impl_showDetails (k 0) e) (detP e) := by
 obtain ⟨kd, m, a, rest, ms, n, d⟩ := e
 simp only at hl b1 b2 b3 b4
 have q1 : ByteArray.size { data := #[(32 : UInt8)] } = 1 := rfl
 have bd : ∀ n : Nat, n ≤ 1000000000000 → n ≤ maxN := fun n h => by simp only [maxN]; omega
 have s1 := memP_size [m]
 have s2 := amtP_size a
 have s3 := amtP_size rest
 have s4 := memP_size ms
 have s5 := itG_size b1 b2
 have s6 := itG_size b3 b4
 have mE := members_E [m] (by simp)
 have aE := amounts_E a
 have rE := amounts_E rest
 have lE := members_E ms hl
 rw [List.length_singleton] at s1
 refine E.congr (fun k => impl_showDetails.eq (k 0) _) ?_
 simp only [ByteArray.size_append, q1]
 unfold detP
 simp only
 refine E.ite (fun h0 => E.pos h0 (E.now' (by rw [if_pos h0]; rfl))) (fun h0 => ?_)
 rw [if_neg h0]
 refine E.ite (fun h7 => E.now' (by rw [if_pos h7]; rfl)) (fun h7 => ?_)
 rw [if_neg h7]
 refine E.ite (fun h6 => ?_) (fun h6 => ?_)
 ·rw [if_pos h6]
  exact E.bind (itoaG_E b1 b2) (E.pos (bd _ (by omega)) (E.pos (bd _ (by omega)) (E.bind (itoaG_E b3 b4) (E.pos (bd _ (by omega)) (E.bind (implRate_E n d) (E.now' rfl))))))
 rw [if_neg h6]
 refine E.bind mE (E.ite (fun h5 => E.now' (by rw [if_pos h5]; rfl)) (fun h5 => ?_))
 rw [if_neg h5]
 have t1 : (if [m].all mV = true then (memT [m], true) else (ByteArray.empty, false)) = memP [m] := rfl
 have t2 : (if aV a = true then (bmT a, true) else (ByteArray.empty, false)) = amtP a := rfl
 have t3 : (if aV rest = true then (bmT rest, true) else (ByteArray.empty, false)) = amtP rest := rfl
 have t4 : (if ms.all mV = true then (memT ms, true) else (ByteArray.empty, false)) = memP ms := rfl
 rw [t1]
 refine E.bind aE ?_
 rw [t2]
 refine E.ite (fun h4 => ?_) (fun h4 => ?_)
 ·rw [if_pos h4]
  refine E.bind rE ?_
  rw [t3]
  refine E.pos (bd _ (by omega)) (E.pos (bd _ (by omega)) (E.ite (fun g1 => E.ite (fun g2 => E.now' ?_) (fun g2 => E.now' ?_)) (fun g1 => E.now' ?_)))
  ·rw [g1, g2]; rfl
  ·rw [g1, show (amtP a).2 = false by simpa using g2]; rfl
  ·rw [show (memP [m]).2 = false by simpa using g1]; rfl
 rw [if_neg h4]
 refine E.ite (fun h3 => ?_) (fun h3 => ?_)
 ·rw [if_pos h3]
  refine E.bind lE ?_
  rw [t4]
  refine E.pos (bd _ (by omega)) (E.pos (bd _ (by omega)) (E.ite (fun g1 => E.ite (fun g2 => E.now' ?_) (fun g2 => E.now' ?_)) (fun g1 => E.now' ?_)))
  ·rw [g1, g2]; rfl
  ·rw [g1, show (amtP a).2 = false by simpa using g2]; rfl
  ·rw [show (memP [m]).2 = false by simpa using g1]; rfl
 rw [if_neg h3]
 refine E.pos (bd _ (by omega)) (E.ite (fun g1 => E.now' ?_) (fun g1 => E.now' ?_))
 ·rw [g1]; rfl
 ·rw [show (memP [m]).2 = false by simpa using g1]; rfl
theorem detP_size (e : EvT) (hl : e.2.2.2.2.1.length < 1000000000) (b1 : -9223372036854775808 ≤ e.2.2.2.2.2.1) (b2 : e.2.2.2.2.2.1 ≤ 9223372036854775807) (b3 : -9223372036854775808 ≤ e.2.2.2.2.2.2) (b4 : e.2.2.2.2.2.2 ≤ 9223372036854775807) : (detP e).1.size ≤ 200000000000 := by
 have s1 := memP_size [e.2.1]
 have s2 := amtP_size e.2.2.1
 have s3 := amtP_size e.2.2.2.1
 have s4 := memP_size e.2.2.2.2.1
 have s5 := itG_size b1 b2
 have s6 := itG_size b3 b4
 rw [List.length_singleton] at s1
 have h0 : ByteArray.size ByteArray.empty = 0 := rfl
 unfold detP
 (repeat' split) <;> (try simp only [ByteArray.size_append, spT_size, h0]) <;> omega
def kindN (k : Nat) : ByteArray := List.getD [kjoin, ksave, ktake, klend, krepay, kfail, knight, kshare] k ByteArray.empty
theorem evt_of (e : EvT) (h0 : 0 ≤ e.1) (h7 : e.1 ≤ 7) : (if (detP e).2 = true then kindN e.1.toNat ++ (detP e).1 else ByteArray.empty) = evtT e := by
 obtain ⟨kd, m, a, rest, ms, n, d⟩ := e
 simp only at h0 h7
 have hm : memP [m] = if mV m = true then (bnT m, true) else (ByteArray.empty, false) := by
  unfold memP
  simp only [List.all_cons, List.all_nil, Bool.and_true, memT, ByteArray.append_empty]
 have : kd = 0 ∨ kd = 1 ∨ kd = 2 ∨ kd = 3 ∨ kd = 4 ∨ kd = 5 ∨ kd = 6 ∨ kd = 7 := by omega
 rcases this with rfl | rfl | rfl | rfl | rfl | rfl | rfl | rfl
 ·show kjoin ++ ByteArray.empty = kjoin
  rw [ByteArray.append_empty]
 ·show (if ((memP [m]).2 && (amtP a).2) = true then ksave ++ ((memP [m]).1 ++ (amtP a).1) else ByteArray.empty) = if mV m = true then (if aV a = true then ksave ++ (bnT m ++ bmT a) else ByteArray.empty) else ByteArray.empty
  rw [hm]; unfold amtP
  cases mV m <;> cases aV a <;> rfl
 ·show (if ((memP [m]).2 && (amtP a).2) = true then ktake ++ ((memP [m]).1 ++ (amtP a).1) else ByteArray.empty) = if mV m = true then (if aV a = true then ktake ++ (bnT m ++ bmT a) else ByteArray.empty) else ByteArray.empty
  rw [hm]; unfold amtP
  cases mV m <;> cases aV a <;> rfl
 ·show (if ((memP [m]).2 && (amtP a).2 && (memP ms).2) = true then klend ++ ((memP [m]).1 ++ (amtP a).1 ++ (memP ms).1) else ByteArray.empty) = if mV m = true then (if aV a = true then (if ms.all mV = true then klend ++ (bnT m ++ bmT a ++ memT ms) else ByteArray.empty) else ByteArray.empty) else ByteArray.empty
  rw [hm]; unfold amtP memP
  cases mV m <;> cases aV a <;> cases ms.all mV <;> rfl
 ·show (if ((memP [m]).2 && (amtP a).2 && (amtP rest).2) = true then krepay ++ ((memP [m]).1 ++ (amtP a).1 ++ (amtP rest).1) else ByteArray.empty) = if mV m = true then (if aV a = true then (if aV rest = true then krepay ++ (bnT m ++ bmT a ++ bmT rest) else ByteArray.empty) else ByteArray.empty) else ByteArray.empty
  rw [hm]; unfold amtP
  cases mV m <;> cases aV a <;> cases aV rest <;> rfl
 ·show (if (memP [m]).2 = true then kfail ++ (memP [m]).1 else ByteArray.empty) = if mV m = true then kfail ++ bnT m else ByteArray.empty
  rw [hm]
  cases mV m <;> rfl
 ·show (if rV n d = true then knight ++ (spT ++ itG n ++ spT ++ itG d) else ByteArray.empty) = if rV n d = true then knight ++ (bnT n ++ bnT d) else ByteArray.empty
  by_cases h : rV n d = true
  ·have hr := rV_iff.1 h
   rw [if_pos h, if_pos h, itG_nat (by omega), itG_nat (by omega)]
   simp only [bnT, ByteArray.append_assoc]
  ·rw [if_neg h, if_neg h]
 ·show kshare ++ ByteArray.empty = kshare
  rw [ByteArray.append_empty]
theorem evt_out (e : EvT) (h : e.1 < 0 ∨ 7 < e.1) : ByteArray.empty = evtT e := by
 have n0 : ¬ e.1 = 0 := by omega
 have n1 : ¬ e.1 = 1 := by omega
 have n2 : ¬ e.1 = 2 := by omega
 have n3 : ¬ e.1 = 3 := by omega
 have n4 : ¬ e.1 = 4 := by omega
 have n5 : ¬ e.1 = 5 := by omega
 have n6 : ¬ e.1 = 6 := by omega
 have n7 : ¬ e.1 = 7 := by omega
 unfold evtT
 rw [if_neg n0, if_neg n7, if_neg n6, if_neg n5, if_neg n1, if_neg n2, if_neg n4, if_neg n3]
 simp
theorem kindN_size : ∀ i, i < 8 → (kindN i).size ≤ 5 := by
 intro i hi
 have : i = 0 ∨ i = 1 ∨ i = 2 ∨ i = 3 ∨ i = 4 ∨ i = 5 ∨ i = 6 ∨ i = 7 := by omega
 rcases this with rfl | rfl | rfl | rfl | rfl | rfl | rfl | rfl <;> decide
theorem implEvt_E (e : EvT) (hl : e.2.2.2.2.1.length < 1000000000) (b1 : -9223372036854775808 ≤ e.2.2.2.2.2.1) (b2 : e.2.2.2.2.2.1 ≤ 9223372036854775807) (b3 : -9223372036854775808 ≤ e.2.2.2.2.2.2) (b4 : e.2.2.2.2.2.2 ≤ 9223372036854775807) :
  E (fun k => impl_FormatEvent (k 0) e) (evtT e) := by
 have dE := details_E e hl b1 b2 b3 b4
 have ds := detP_size e hl b1 b2 b3 b4
 refine E.congr (fun k => impl_FormatEvent.eq (k 0) e) (E.ite (fun h => E.now' (evt_out e (.inl h))) (fun h0 => E.ite (fun h => E.now' (evt_out e (.inr (by omega)))) (fun h7 => E.bind dE (E.ite (fun h => E.now' ?_) (fun h => ?_)))))
 ·rw [← evt_of e (by omega) (by omega), if_neg (by simpa using h)]; rfl
 ·have kn := kindN_size e.1.toNat (by omega)
  refine E.pos (by omega) (E.pos (by omega) (E.pos ?_ (E.now' ?_)))
  ·show (kindN e.1.toNat).size + (detP e).1.size ≤ maxN
   simp only [maxN]; omega
  ·show kindN e.1.toNat ++ (detP e).1 = evtT e
   rw [← evt_of e (by omega) (by omega), if_pos (by simpa using h)]
end Go.Proofs.YtpgfkoeodhfkgaaGreatDoorG
end
section
set_option linter.unusedVariables false
namespace Go.Proofs.YtpgfkoeodhfkgaaGreatDoorG
open Go Go.Refl Go.Refl.Math Go.RowKit
theorem specFmtEvt_E (e : EvT) (hl : e.2.2.2.2.1.length < 1000000000) : E (fun k => spec_FormatEvent (k 0) e) (evtT e) :=
 E.congr (fun k => spec_FormatEvent.eq (k 0) e) (E.bind (specEvt_E e hl) (E.now _))
end Go.Proofs.YtpgfkoeodhfkgaaGreatDoorG
end
section
set_option linter.unusedVariables false
namespace Go.Proofs.YtpgfkoeodhfkgaaGreatDoorG
open Go Go.Refl Go.Refl.Math Go.RowKit
def dgt (b : UInt8) : Bool := decide (48 ≤ b.toNat) && decide (b.toNat ≤ 57)
theorem dgt_iff {b : UInt8} : dgt b = true ↔ 48 ≤ b.toNat ∧ b.toNat ≤ 57 := by simp [dgt]
def dval : Nat → List UInt8 → Nat
 | a, [] => a
 | a, b :: l => dval (10 * a + (b.toNat - 48)) l
theorem dval_append : ∀ (l m : List UInt8) (a : Nat), dval a (l ++ m) = dval (dval a l) m
 | [], m, a => rfl
 | c :: l, m, a => dval_append l m _
theorem dval_ge : ∀ (l : List UInt8) (a : Nat), a ≤ dval a l
 | [], a => Nat.le_refl a
 | c :: l, a => Nat.le_trans (by omega) (dval_ge l _)
theorem byte_back {b : UInt8} {n : Nat} (h : n = b.toNat) : UInt8.ofNat n = b := by rw [h]; exact UInt8.ofNat_toNat
theorem dgt_of {n : Nat} (h : n < 10) : dgt (UInt8.ofNat (48 + n)) = true ∧ (UInt8.ofNat (48 + n)).toNat = 48 + n := by
 have e : (UInt8.ofNat (48 + n)).toNat = 48 + n := by
  rw [UInt8.toNat_ofNat']
  exact Nat.mod_eq_of_lt (by omega)
 exact ⟨dgt_iff.2 (by omega), e⟩
theorem dval_dec (n : Nat) : (Go.Lib.decDigits n).all dgt = true ∧ dval 0 (Go.Lib.decDigits n) = n ∧ Go.Lib.decDigits n ≠ [] ∧ (1 ≤ n → (Go.Lib.decDigits n).head? ≠ some 48) := by
 induction n using Nat.strongRecOn with
 | ind n ih =>
  by_cases h : n < 10
  ·obtain ⟨h1, h2⟩ := dgt_of h
   rw [Go.Lib.decDigits, dif_pos h]
   refine ⟨by simpa using h1, ?_, by simp, fun hn e => ?_⟩
   ·show 10 * 0 + ((UInt8.ofNat (48 + n)).toNat - 48) = n
    omega
   ·have e' : UInt8.ofNat (48 + n) = 48 := by simpa using e
    rw [e'] at h2
    have : (48 : UInt8).toNat = 48 := rfl
    omega
  ·obtain ⟨i1, i2, i3, i4⟩ := ih (n / 10) (by omega)
   obtain ⟨h1, h2⟩ := dgt_of (n := n % 10) (by omega)
   rw [Go.Lib.decDigits, dif_neg h]
   refine ⟨by rw [List.all_append, i1]; simpa using h1, ?_, by simp, fun _ => ?_⟩
   ·rw [dval_append, i2]
    show 10 * (n / 10) + ((UInt8.ofNat (48 + n % 10)).toNat - 48) = n
    omega
   ·have := i4 (by omega)
    cases hd : Go.Lib.decDigits (n / 10) with
    | nil => exact absurd hd i3
    | cons c r => rw [hd] at this; exact this
theorem decT_inj {m n : Nat} (h : decT m = decT n) : m = n := by
 have h1 : (Go.Lib.decDigits m).toArray = (Go.Lib.decDigits n).toArray := congrArg ByteArray.data h
 have h2 : Go.Lib.decDigits m = Go.Lib.decDigits n := by simpa using congrArg Array.toList h1
 rw [← (dval_dec m).2.1, h2, (dval_dec n).2.1]
theorem decT_list (n : Nat) : (decT n).data.toList = Go.Lib.decDigits n := rfl
theorem ba_ext {s t : ByteArray} (h : s.data.toList = t.data.toList) : s = t := ByteArray.ext (Array.toList_inj.1 h)
theorem ba_size (s : ByteArray) : s.size = s.data.toList.length := by
 show s.data.size = _
 rw [Array.length_toList]
def numP (lim : Nat) (s : ByteArray) (r : Int) : Prop := (∃ n : Nat, n ≤ lim ∧ s = decT n ∧ r = (n : Int)) ∨ ((∀ n : Nat, n ≤ lim → s ≠ decT n) ∧ r = -1)
theorem digit_step {a : Nat} {b : UInt8} (ha : a ≤ 10000000000) (h1 : 48 ≤ b.toNat) (h2 : b.toNat ≤ 57) : wrap64 (wrap64 (10 * (a : Int)) + wrap64 (((b.toNat : Int) - 48) % 256)) = ((10 * a + (b.toNat - 48) : Nat) : Int) := by
 rw [Int.emod_eq_of_lt (by omega) (by omega), wrap_id (x := 10 * (a : Int)) (by omega) (by omega), wrap_id (x := (b.toNat : Int) - 48) (by omega) (by omega), wrap_id (by omega) (by omega)]
 omega
theorem parse_dec : ∀ (l : List UInt8) (a : Nat), l.all dgt = true → dval a l ≤ 1000000000000 → Go.Lib.parseUint10 a l = .ok (dval a l)
 | [], a, _, _ => rfl
 | c :: l, a, hd, h => by
  rw [List.all_cons, Bool.and_eq_true] at hd
  have h1 := dgt_iff.1 hd.1
  have e : dval a (c :: l) = dval (10 * a + (c.toNat - 48)) l := rfl
  have h2 := dval_ge l (10 * a + (c.toNat - 48))
  rw [e] at h ⊢
  rw [Go.Lib.parseUint10, if_pos h1, if_neg (by omega), if_neg (by omega), show a * 10 + (c.toNat - 48) = 10 * a + (c.toNat - 48) by omega]
  exact parse_dec l _ hd.2 h
theorem atoi_dec {n : Nat} (hn : n ≤ 1000000000000) : Go.Lib.atoiAll (Go.Lib.decDigits n) = .ok (n : Int) := by
 obtain ⟨h1, h2, h3, _⟩ := dval_dec n
 cases hd : Go.Lib.decDigits n with
 | nil => exact absurd hd h3
 | cons c r =>
  have hc : dgt c = true := by
   rw [hd, List.all_cons, Bool.and_eq_true] at h1
   exact h1.1
  have hc' := dgt_iff.1 hc
  rw [Go.Lib.atoiAll_plain c r (by omega) (by omega), ← hd]
  have hm : Go.Lib.parseMag (Go.Lib.decDigits n) = .ok n := by
   unfold Go.Lib.parseMag
   rw [if_neg h3, parse_dec _ 0 h1 (by omega), h2]
  rw [hm]
  show (if 9223372036854775808 ≤ n then Go.Lib.NumEnd.range else Go.Lib.NumEnd.ok (n : Int)) = _
  rw [if_neg (by omega)]
theorem atoi_E (s : ByteArray) (h : s.size ≤ 1000000000) : E (fun k => strconv_Atoi (k 0) s) (atEnd s (Go.Lib.atoiAll s.data.toList)) := by
 refine E.congr (fun k => ?_) (E.now _)
 show atRun s = _
 unfold atRun
 rw [Nat.ble_eq_true_of_le (by omega)]
 rfl
theorem implRead_E (s : ByteArray) (lim : Nat) (hs : s.size ≤ 1000000000) (hl : lim ≤ 10000000) : ∃ r, E (fun k => impl_readNumber (k 0) (s, (lim : Int))) r ∧ numP lim s r := by
 have key : ∀ n : Nat, n ≤ lim → s = decT n → Go.Lib.atoiAll s.data.toList = .ok (n : Int) := fun n hn h => by rw [h, decT_list]; exact atoi_dec (by omega)
 have ha := atoi_E s hs
 rcases hr : Go.Lib.atoiAll s.data.toList with v | _ | _
 rotate_left
 ·rw [hr] at ha
  refine ⟨-1, E.congr (fun k => impl_readNumber.eq (k 0) s (lim : Int)) (E.bind ha (E.pos (by rfl) (E.now _))), .inr ⟨fun n hn h => ?_, rfl⟩⟩
  rw [key n hn h] at hr; cases hr
 ·rw [hr] at ha
  refine ⟨-1, E.congr (fun k => impl_readNumber.eq (k 0) s (lim : Int)) (E.bind ha (E.pos (by rfl) (E.now _))), .inr ⟨fun n hn h => ?_, rfl⟩⟩
  rw [key n hn h] at hr; cases hr
 ·rw [hr] at ha
  have no : ∀ n : Nat, n ≤ lim → s = decT n → v = (n : Int) := fun n hn h => by
   rw [key n hn h] at hr
   cases hr
   rfl
  by_cases h0 : v < 0
  ·exact ⟨-1, E.congr (fun k => impl_readNumber.eq (k 0) s (lim : Int)) (E.bind ha (E.neg (fun h => by cases (show false = true from h)) (E.pos h0 (E.now _)))), .inr ⟨fun n hn h => by have := no n hn h; omega, rfl⟩⟩
  ·by_cases h1 : v > (lim : Int)
   ·exact ⟨-1, E.congr (fun k => impl_readNumber.eq (k 0) s (lim : Int)) (E.bind ha (E.neg (fun h => by cases (show false = true from h)) (E.neg h0 (E.pos h1 (E.now _))))), .inr ⟨fun n hn h => by have := no n hn h; omega, rfl⟩⟩
   ·by_cases h2 : decT v.toNat = s
    ·exact ⟨v, E.congr (fun k => impl_readNumber.eq (k 0) s (lim : Int)) (E.bind ha (E.neg (fun h => by cases (show false = true from h)) (E.neg h0 (E.neg h1 (E.bind (itoa_E (x := v) (by omega) (by omega)) (E.pos h2 (E.now _))))))), .inl ⟨v.toNat, by omega, h2.symm, by omega⟩⟩
    ·exact ⟨-1, E.congr (fun k => impl_readNumber.eq (k 0) s (lim : Int)) (E.bind ha (E.neg (fun h => by cases (show false = true from h)) (E.neg h0 (E.neg h1 (E.bind (itoa_E (x := v) (by omega) (by omega)) (E.neg h2 (E.now _))))))), .inr ⟨fun n hn h => h2 (by rw [no n hn h, Int.toNat_natCast, h]), rfl⟩⟩
end Go.Proofs.YtpgfkoeodhfkgaaGreatDoorG
end
section
set_option linter.unusedVariables false
namespace Go.Proofs.YtpgfkoeodhfkgaaGreatDoorG
open Go Go.Refl Go.Refl.Math Go.RowKit
def monP (s : ByteArray) (r : Int) : Prop := (∃ n : Nat, n ≤ 1000000 ∧ s = monT n ∧ r = (n : Int)) ∨ ((∀ n : Nat, n ≤ 1000000 → s ≠ monT n) ∧ r = -1)
def skp (p : Nat) (l : List UInt8) : List UInt8 := l.take p ++ l.drop (p + 1)
theorem skp_nil (p : Nat) : skp p [] = [] := by
 unfold skp
 rw [List.take_nil, List.drop_nil]
 rfl
theorem skp_at {p : Nat} {l : List UInt8} {b : UInt8} (h : l.length = p) : skp p (l ++ [b]) = skp p l := by
 unfold skp
 rw [List.drop_of_length_le (by simp; omega), List.drop_of_length_le (by omega), List.take_of_length_le (l := l) (by omega), List.append_nil, List.append_nil, ← h, List.take_left' rfl]
theorem skp_off {p : Nat} {l : List UInt8} {b : UInt8} (h : l.length ≠ p) : skp p (l ++ [b]) = skp p l ++ [b] := by
 unfold skp
 rcases Nat.lt_or_ge l.length p with h1 | h1
 ·rw [List.drop_of_length_le (by simp; omega), List.drop_of_length_le (by omega), List.take_of_length_le (l := l) (by omega), List.take_of_length_le (by simp; omega), List.append_nil, List.append_nil]
 ·rw [List.take_append_of_le_length (by omega), List.drop_append_of_le_length (by omega), List.append_assoc]
theorem skp_mem {p : Nat} {l m : List UInt8} {b : UInt8} (h : l.length ≠ p) : b ∈ skp p (l ++ b :: m) := by
 unfold skp
 rcases Nat.lt_or_ge l.length p with h1 | h1
 ·refine List.mem_append_left _ ?_
  rw [List.take_append, List.mem_append]
  right
  rw [show p - l.length = (p - l.length - 1) + 1 by omega, List.take_succ_cons]
  exact List.mem_cons_self ..
 ·refine List.mem_append_right _ ?_
  rw [List.drop_append_of_le_length (by omega)]
  exact List.mem_append_right _ (List.mem_cons_self ..)
theorem ten_le {n k : Nat} (h : k ≤ 10) (hn : n < 10 ^ k) : n < 10000000000 := Nat.lt_of_lt_of_le hn (show 10 ^ k ≤ 10 ^ 10 from Nat.pow_le_pow_right (by decide) h)
theorem digit_step' {a : Nat} {b : UInt8} (ha : a ≤ 10000000000) (h1 : 48 ≤ b.toNat) (h2 : b.toNat ≤ 57) : wrap64 (wrap64 ((a : Int) * 10) + wrap64 (((b.toNat : Int) - 48) % 256)) = ((10 * a + (b.toNat - 48) : Nat) : Int) := by
 rw [Int.mul_comm]; exact digit_step ha h1 h2
theorem implMon_l5 {x : ByteArray} {p : Nat} (hp : p + 3 = x.size) (hx : x.size ≤ 10) : ∀ (post pre : List UInt8) (a : Nat), x.data.toList = pre ++ post → (skp p pre).all dgt = true → a = dval 0 (skp p pre) → a < 10 ^ pre.length →
  E (fun k => impl_ReadMoney.l5 (k 0) (k 1) x (a : Int) (x.size : Int) (pre.length : Int)) (if (skp p x.data.toList).all dgt = true then (if dval 0 (skp p x.data.toList) ≤ 1000000 ∧ monT (dval 0 (skp p x.data.toList)) = x then (dval 0 (skp p x.data.toList) : Int) else -1) else -1)
 | [], pre, a, he, hd, ha, hb => by
  rw [List.append_nil] at he
  have hz : x.size = pre.length := by rw [ba_size, he]
  have hne : x ≠ { data := #[] } := by
   intro h
   have : x.size = 0 := by rw [h]; rfl
   omega
  rw [he, if_pos hd, ← ha]
  refine E.step 1 (fun v w h1 h2 => by rewrite [h1, h2 0 (by decide)]; exact impl_ReadMoney.l5_succ ..) ?_
  by_cases hv : a ≤ 1000000
  ·refine E.neg (by omega) (E.bind (showMoney_E (by omega) (by omega)) ?_)
   rw [Int.toNat_natCast]
   refine E.ite (fun h => E.now' (by rw [if_pos ⟨hv, h⟩])) (fun h => E.now' (by rw [if_neg (fun h' => h h'.2)]))
  ·refine E.neg (by omega) (E.bind (money_no (x := (a : Int)) (by unfold aV; rw [decide_eq_false_iff_not]; omega)) (E.neg (fun h => hne h.symm) (E.now' ?_)))
   rw [if_neg (fun h' => hv h'.1)]
 | b :: post, pre, a, he, hd, ha, hb => by
  have hz : x.size = pre.length + (post.length + 1) := by rw [ba_size, he]; simp
  have hbig := ten_le (by omega) hb
  have ew : wrap64 ((x.size : Int) - 3) = (p : Int) := by rw [wrap_id (by omega) (by omega)]; omega
  have hl : (pre ++ [b]).length = pre.length + 1 := by simp
  by_cases hq : pre.length = p
  ·have ih := implMon_l5 hp hx post (pre ++ [b]) a (by rw [he]; simp) (by rw [skp_at hq]; exact hd) (by rw [skp_at hq]; exact ha) (Nat.lt_of_lt_of_le hb (Nat.pow_le_pow_right (by decide) (by simp)))
   rw [hl] at ih
   refine E.step 1 (fun v w h1 h2 => by rewrite [h1, h2 0 (by decide)]; exact impl_ReadMoney.l5_succ ..) ?_
   rw [ew, wrap_nat (by omega)]
   exact E.pos (by omega) (E.pos (by omega) ih)
  ·have no : ¬ dgt b = true → (-1 : Int) = (if (skp p x.data.toList).all dgt = true then (if dval 0 (skp p x.data.toList) ≤ 1000000 ∧ monT (dval 0 (skp p x.data.toList)) = x then (dval 0 (skp p x.data.toList) : Int) else -1) else -1) := fun h => by
    rw [if_neg (fun h' => h (List.all_eq_true.1 h' b (by rw [he]; exact skp_mem hq)))]
   have go : 48 ≤ b.toNat → b.toNat ≤ 57 → E (fun k => impl_ReadMoney.l5 (k 0) (k 1) x ((10 * a + (b.toNat - 48) : Nat) : Int) (x.size : Int) ((pre.length + 1 : Nat) : Int)) (if (skp p x.data.toList).all dgt = true then (if dval 0 (skp p x.data.toList) ≤ 1000000 ∧ monT (dval 0 (skp p x.data.toList)) = x then (dval 0 (skp p x.data.toList) : Int) else -1) else -1) := fun h1 h2 => by
    have ih := implMon_l5 hp hx post (pre ++ [b]) (10 * a + (b.toNat - 48)) (by rw [he]; simp) (by rw [skp_off hq, List.all_append, hd]; simpa using dgt_iff.2 ⟨h1, h2⟩) (by rw [skp_off hq, dval_append, ← ha]; rfl) (by rw [hl, Nat.pow_succ]; omega)
    rw [hl] at ih
    exact ih
   refine E.step 1 (fun v w h1 h2 => by rewrite [h1, h2 0 (by decide)]; exact impl_ReadMoney.l5_succ ..) ?_
   rw [ew]
   have hget : x.data.toList.getD pre.length 0 = b := by rw [he, getD_mid]
   simp only [Int.toNat_natCast, hget]
   rw [wrap_nat (by omega)]
   refine E.pos (by omega) (E.neg (by omega) (E.pos (by omega) (E.pos (by omega) (E.ite (fun h => E.now' (no (by rw [dgt_iff]; omega))) (fun h1 => E.pos (by omega) (E.pos (by omega) (E.ite (fun h => E.now' (no (by rw [dgt_iff]; omega))) (fun h2 => E.pos (by omega) (E.pos (by omega) ?_)))))))))
   rw [digit_step' (by omega) (by omega) (by omega)]
   exact go (by omega) (by omega)
theorem one_digit {n : Nat} (h : n < 10) : (decT n).data.toList = [UInt8.ofNat (48 + n)] := by rw [decT_lt h]
theorem monT_list (n : Nat) : (monT n).data.toList = Go.Lib.decDigits (n / 100) ++ [46, UInt8.ofNat (48 + n / 10 % 10), UInt8.ofNat (48 + n % 10)] := by
 unfold monT
 simp only [ByteArray.data_append, Array.toList_append, one_digit (n := n / 10 % 10) (by omega), one_digit (n := n % 10) (by omega), decT_list]
 simp [dotT]
theorem skp_split {a c : List UInt8} {b : UInt8} : skp a.length (a ++ b :: c) = a ++ c := by
 unfold skp
 rw [List.take_left' rfl, show a ++ b :: c = (a ++ [b]) ++ c by simp, List.drop_left' (by simp)]
theorem digits_lt (n k : Nat) (h : n < 10 ^ (k + 1)) : (Go.Lib.decDigits n).length ≤ k + 1 := by
 have := decT_pow k n h
 rw [ba_size, decT_list] at this
 exact this
theorem mon_facts {n : Nat} (h : n ≤ 1000000) : ∃ p, p + 3 = (monT n).size ∧ 1 ≤ p ∧ p ≤ 5 ∧ (monT n).data.toList.getD p 0 = 46 ∧ (skp p (monT n).data.toList).all dgt = true ∧ dval 0 (skp p (monT n).data.toList) = n ∧ ((monT n).data.toList.getD 0 0 = 48 → p = 1) := by
 obtain ⟨h1, h2, h3, h4⟩ := dval_dec (n / 100)
 obtain ⟨d1, d1'⟩ := dgt_of (n := n / 10 % 10) (by omega)
 obtain ⟨d2, d2'⟩ := dgt_of (n := n % 10) (by omega)
 have hlen := digits_lt (n / 100) 4 (by omega)
 have hpos := List.length_pos_iff.2 h3
 rw [ba_size, monT_list]
 refine ⟨(Go.Lib.decDigits (n / 100)).length, by simp, by omega, by omega, getD_mid _ _ _, ?_, ?_, ?_⟩
 ·rw [skp_split, List.all_append, h1, List.all_cons, List.all_cons, d1, d2]
  rfl
 ·rw [skp_split, dval_append, h2]
  show 10 * (10 * (n / 100) + ((UInt8.ofNat (48 + n / 10 % 10)).toNat - 48)) + ((UInt8.ofNat (48 + n % 10)).toNat - 48) = n
  omega
 ·intro hz
  by_cases hn : n / 100 < 10
  ·have := one_digit hn
   rw [decT_list] at this
   rw [this]; rfl
  ·have := h4 (by omega)
   cases hd : Go.Lib.decDigits (n / 100) with
   | nil => exact absurd hd h3
   | cons c r =>
    rw [hd] at this hz
    exact absurd (by show some c = some 48; exact congrArg some hz) this
theorem monT_inj {m n : Nat} (hm : m ≤ 1000000) (hn : n ≤ 1000000) (h : monT m = monT n) : m = n := by
 obtain ⟨p, h1, _, _, _, _, h2, _⟩ := mon_facts hm
 obtain ⟨q, g1, _, _, _, _, g2, _⟩ := mon_facts hn
 rw [← h] at g1 g2
 obtain rfl : p = q := by omega
 rw [← h2, g2]
theorem byte_eq {b : UInt8} {n : Nat} (hn : n < 256) : (b.toNat : Int) = (n : Int) ↔ b = UInt8.ofNat n := by
 constructor
 ·intro h
  rw [byte_back (b := b) (by omega)]
 ·intro h
  rw [h, UInt8.toNat_ofNat', Nat.mod_eq_of_lt (by omega)]
theorem implMon_E (x : ByteArray) (hx : x.size < 1000000000) : ∃ r, E (fun k => impl_ReadMoney (k 0) x) r ∧ monP x r := by
 have out : x.size < 4 ∨ 8 < x.size → ∀ n : Nat, n ≤ 1000000 → x ≠ monT n := fun h n hn e => by
  obtain ⟨p, h1, h2, h3, _⟩ := mon_facts hn
  rw [← e] at h1
  omega
 by_cases h4 : x.size < 4
 ·exact ⟨-1, E.congr (fun k => impl_ReadMoney.eq (k 0) x) (E.pos (by omega) (E.now _)), .inr ⟨out (.inl h4), rfl⟩⟩
 ·by_cases h8 : 8 < x.size
  ·exact ⟨-1, E.congr (fun k => impl_ReadMoney.eq (k 0) x) (E.neg (by omega) (E.pos (by omega) (E.now _))), .inr ⟨out (.inr (by omega)), rfl⟩⟩
  ·obtain ⟨p, hp⟩ : ∃ p, p + 3 = x.size := ⟨x.size - 3, by omega⟩
   have ew : wrap64 ((x.size : Int) - 3) = (p : Int) := by rw [wrap_id (by omega) (by omega)]; omega
   by_cases hdot : x.data.toList.getD p 0 = 46
   ·have hdot' : ((x.data.toList.getD p 0).toNat : Int) = 46 := by rw [hdot]; rfl
    have hl := implMon_l5 hp (by omega) x.data.toList [] 0 rfl (by rw [skp_nil]; rfl) (by rw [skp_nil]; rfl) (by decide)
    have hlp := E.ren (fun _ => 0) hl
    have hE : E (fun k => impl_ReadMoney (k 0) x) (if (skp p x.data.toList).all dgt = true then (if dval 0 (skp p x.data.toList) ≤ 1000000 ∧ monT (dval 0 (skp p x.data.toList)) = x then (dval 0 (skp p x.data.toList) : Int) else -1) else -1) := by
     refine E.congr (fun k => impl_ReadMoney.eq (k 0) x) ?_
     rw [ew, Int.toNat_natCast]
     exact E.neg (by omega) (E.neg (by omega) (E.pos (by omega) (E.pos (by omega) (E.pos hdot' hlp))))
    refine ⟨_, hE, ?_⟩
    have no : ∀ n : Nat, n ≤ 1000000 → x = monT n → (skp p x.data.toList).all dgt = true ∧ dval 0 (skp p x.data.toList) = n := fun n hn e => by
     obtain ⟨q, g1, _, _, _, g, g2, _⟩ := mon_facts hn
     rw [← e] at g1 g g2
     obtain rfl : p = q := by omega
     exact ⟨g, g2⟩
    by_cases hd : (skp p x.data.toList).all dgt = true
    ·rw [if_pos hd]
     by_cases hv : dval 0 (skp p x.data.toList) ≤ 1000000 ∧ monT (dval 0 (skp p x.data.toList)) = x
     ·rw [if_pos hv]
      exact .inl ⟨_, hv.1, hv.2.symm, rfl⟩
     ·rw [if_neg hv]
      refine .inr ⟨fun n hn e => ?_, rfl⟩
      have := (no n hn e).2
      exact hv (by rw [this]; exact ⟨hn, e.symm⟩)
    ·rw [if_neg hd]
     exact .inr ⟨fun n hn e => hd (no n hn e).1, rfl⟩
   ·have hdot' : ¬ ((x.data.toList.getD p 0).toNat : Int) = 46 := fun h => hdot ((byte_eq (n := 46) (by decide)).1 h)
    refine ⟨-1, E.congr (fun k => impl_ReadMoney.eq (k 0) x) ?_, .inr ⟨fun n hn e => ?_, rfl⟩⟩
    ·rw [ew, Int.toNat_natCast]
     exact E.neg (by omega) (E.neg (by omega) (E.pos (by omega) (E.pos (by omega) (E.neg hdot' (E.now _)))))
    ·obtain ⟨q, g1, _, _, g, _⟩ := mon_facts hn
     rw [← e] at g1 g
     obtain rfl : p = q := by omega
     exact hdot g
theorem monP_one {x : ByteArray} {r r' : Int} (h : monP x r) (h' : monP x r') : r = r' := by
 rcases h with ⟨n, hn, e, rfl⟩ | ⟨hn, rfl⟩ <;> rcases h' with ⟨m, hm, e', rfl⟩ | ⟨hm, rfl⟩
 ·rw [monT_inj hn hm (e.symm.trans e')]
 ·exact absurd e (hm n hn)
 ·exact absurd e' (hn m hm)
 ·rfl
theorem numP_one {lim : Nat} {x : ByteArray} {r r' : Int} (h : numP lim x r) (h' : numP lim x r') : r = r' := by
 rcases h with ⟨n, hn, e, rfl⟩ | ⟨hn, rfl⟩ <;> rcases h' with ⟨m, hm, e', rfl⟩ | ⟨hm, rfl⟩
 ·rw [decT_inj (e.symm.trans e')]
 ·exact absurd e (hm n hn)
 ·exact absurd e' (hn m hm)
 ·rfl
theorem u8_of {s : List Int} (h : WfT (.slice (.int .u8)) s) : ∀ x ∈ s, 0 ≤ x ∧ x ≤ 255 := fun x hx => by
 have h' : (Lit.int .u8 x).wf = true := h.2 x hx
 simp only [Lit.wf, Bool.and_eq_true, decide_eq_true_eq] at h'
 have e1 : IntKind.u8.min = 0 := rfl
 have e2 : IntKind.u8.max = 255 := rfl
 omega
end Go.Proofs.YtpgfkoeodhfkgaaGreatDoorG
end
section
set_option linter.unusedVariables false
namespace Go.Proofs.YtpgfkoeodhfkgaaGreatDoorG
open Go Go.Refl Go.Refl.Math Go.RowKit
def mkB (l : List UInt8) : ByteArray := ⟨l.toArray⟩
theorem mkB_list (l : List UInt8) : (mkB l).data.toList = l := by simp [mkB]
theorem mkB_of (s : ByteArray) : mkB s.data.toList = s := ba_ext (mkB_list _)
theorem mkB_size (l : List UInt8) : (mkB l).size = l.length := by rw [ba_size, mkB_list]
def splitB (c : UInt8) : List UInt8 → List (List UInt8)
 | [] => [[]]
 | b :: l => if b = c then [] :: splitB c l else match splitB c l with
  | [] => [[b]]
  | h :: t => (b :: h) :: t
theorem splitB_none {c : UInt8} : ∀ {l : List UInt8}, c ∉ l → splitB c l = [l]
 | [], _ => rfl
 | b :: l, h => by
  have h1 : b ≠ c := fun e => h (by rw [e]; exact List.mem_cons_self ..)
  rw [splitB, if_neg h1, splitB_none (fun h' => h (List.mem_cons_of_mem _ h'))]
theorem splitB_at {c : UInt8} : ∀ {l m : List UInt8}, c ∉ l → splitB c (l ++ c :: m) = l :: splitB c m
 | [], m, _ => by
  show splitB c (c :: m) = _
  rw [splitB, if_pos rfl]
 | b :: l, m, h => by
  have h1 : b ≠ c := fun e => h (by rw [e]; exact List.mem_cons_self ..)
  show splitB c (b :: (l ++ c :: m)) = _
  rw [splitB, if_neg h1, splitB_at (fun h' => h (List.mem_cons_of_mem _ h'))]
theorem splitB_length (c : UInt8) : ∀ l : List UInt8, (splitB c l).length = l.count c + 1
 | [] => rfl
 | b :: l => by
  have ih := splitB_length c l
  rw [splitB]
  by_cases h : b = c
  ·rw [if_pos h, List.length_cons, ih, h, List.count_cons_self]
  ·rw [if_neg h, List.count_cons_of_ne h]
   cases hs : splitB c l with
   | nil => rw [hs] at ih; simp at ih
   | cons x y => rw [hs] at ih; simpa using ih
def wordsT (s : ByteArray) : List ByteArray := (splitB 32 s.data.toList).map mkB
theorem ext_list (x : ByteArray) (i j : Nat) : (x.extract i j).data.toList = (x.data.toList.drop i).take (j - i) := by
 rw [ByteArray.data_extract, Array.toList_extract]
theorem ext_mk {x : ByteArray} {a b c : List UInt8} (h : x.data.toList = a ++ (b ++ c)) : x.extract a.length (a.length + b.length) = mkB b := by
 apply ba_ext
 rw [ext_list, mkB_list, h, List.drop_left' rfl, List.take_left' (by omega)]
theorem index_split {c : UInt8} : ∀ {l : List UInt8} {k : Nat}, l.count c = k + 1 → ∃ a b, l = a ++ c :: b ∧ c ∉ a ∧ Go.Lib.indexByte l c = (a.length : Int) ∧ b.count c = k
 | [], k, h => by simp at h
 | x :: l, k, h => by
  by_cases hx : x = c
  ·refine ⟨[], l, by rw [hx]; rfl, by simp, ?_, ?_⟩
   ·rw [Go.Lib.indexByte, if_pos (by simpa using hx)]; rfl
   ·rw [hx, List.count_cons_self] at h; omega
  ·rw [List.count_cons_of_ne hx] at h
   obtain ⟨a, b, h1, h2, h3, h4⟩ := index_split h
   refine ⟨x :: a, b, by rw [h1]; rfl, ?_, ?_, h4⟩
   ·intro h'
    rcases List.mem_cons.1 h' with e | e
    ·exact hx e.symm
    ·exact h2 e
   ·have e1 : (Go.Lib.indexByte l c == -1) = false := by
     rw [h3, beq_eq_false_iff_ne]; omega
    rw [Go.Lib.indexByte, if_neg (by simpa using hx), e1, h3]
    simp
theorem sIndex_E (x : ByteArray) : E (fun k => strings_Index (k 0) (x, { data := #[(32 : UInt8)] })) (Go.Lib.indexByte x.data.toList 32) := E.congr (fun _ => rfl) (E.now _)
theorem sCount_E (x : ByteArray) : E (fun k => strings_Count (k 0) (x, { data := #[(32 : UInt8)] })) ((x.data.toList.count 32 : Nat) : Int) := E.congr (fun _ => rfl) (E.now _)
theorem set_rep {α : Type} (l : List α) (k : Nat) (e v : α) : (l ++ List.replicate (k + 1) e).set l.length v = l ++ v :: List.replicate k e := by
 rw [List.set_append_right _ _ (Nat.le_refl _), Nat.sub_self, List.replicate_succ, List.set_cons_zero]
theorem gen_l11 {m : Int} : ∀ (k : Nat) (x : ByteArray) (done : List ByteArray), x.data.toList.count 32 = k → x.size < 1000000000 → done.length + k < 1000000000 → m = ((done.length + k : Nat) : Int) → k < 1000000000 →
  E (fun f => strings_genSplit.l11 (f 0) (f 1) x { data := #[(32 : UInt8)] } 0 m (done.length : Int) (done ++ List.replicate (k + 1) ByteArray.empty)) (done ++ wordsT x)
 | 0, x, done, hc, hx, hd, hm, hk => by
  have hn : (32 : UInt8) ∉ x.data.toList := List.count_eq_zero.1 hc
  have hw : wordsT x = [x] := by unfold wordsT; rw [splitB_none hn]; simp [mkB_of]
  refine E.step 1 (fun v w h1 h2 => by rewrite [h1, h2 0 (by decide)]; exact strings_genSplit.l11_succ ..) ?_
  simp only [Int.toNat_natCast]
  rw [wrap_nat (by omega), set_rep]
  have e1 : (done ++ List.replicate (0 + 1) ByteArray.empty).length = done.length + 1 := by simp
  have e2 : (done ++ x :: List.replicate 0 ByteArray.empty).length = done.length + 1 := by simp
  rw [e1, e2]
  refine E.neg (by omega) (E.pos (by omega) (E.pos (by omega) (E.pos (by omega) (E.pos (by omega) (E.now' ?_)))))
  rw [hw, Int.toNat_natCast, Nat.sub_zero, ← e2]
  exact List.take_length
 | k + 1, x, done, hc, hx, hd, hm, hk => by
  obtain ⟨a, b, h1, h2, h3, h4⟩ := index_split hc
  have q1 : ByteArray.size { data := #[(32 : UInt8)] } = 1 := rfl
  have hz : x.size = a.length + (b.length + 1) := by rw [ba_size, h1]; simp
  have hw : wordsT x = mkB a :: wordsT (mkB b) := by unfold wordsT; rw [h1, splitB_at h2, mkB_list]; rfl
  have e1 : x.extract (a.length + 1) x.size = mkB b := by
   have := ext_mk (x := x) (a := a ++ [32]) (b := b) (c := []) (by rw [h1]; simp)
   have hlen : (a ++ [(32 : UInt8)]).length = a.length + 1 := by simp
   rw [hlen, show a.length + 1 + b.length = x.size by omega] at this
   exact this
  have e2 : x.extract 0 a.length = mkB a := by
   have := ext_mk (x := x) (a := []) (b := a) (c := 32 :: b) (by rw [h1]; rfl)
   simpa using this
  have ih := gen_l11 (m := m) k (mkB b) (done ++ [mkB a]) (by rw [mkB_list]; exact h4) (by rw [mkB_size]; omega) (by simp; omega) (by rw [hm]; simp; omega) (by omega)
  rw [show (done ++ [mkB a]).length = done.length + 1 by simp] at ih
  refine E.step 1 (fun v w h1 h2 => by rewrite [h1, h2 0 (by decide)]; exact strings_genSplit.l11_succ ..) ?_
  refine E.pos (by omega) (E.bind (sIndex_E x) ?_)
  rw [h3]
  simp only [q1, Int.add_zero]
  rw [show wrap64 ((a.length : Int) + ((1 : Nat) : Int)) = ((a.length + 1 : Nat) : Int) from wrap_nat (by omega), wrap_nat (n := done.length) (by omega), wrap_id (x := (a.length : Int)) (by omega) (by omega)]
  simp only [Int.toNat_natCast]
  have e3 : (done ++ List.replicate (k + 1 + 1) ByteArray.empty).length = done.length + (k + 2) := by simp
  rw [e1, e2, set_rep, set_rep, e3]
  refine E.neg (by omega) (E.pos (by omega) (E.pos (by omega) (E.pos (by omega) (E.pos (by omega) (E.pos (by omega) (E.pos (by omega) (E.is (E.congr (fun _ => ?_) ih) ?_)))))))
  ·congr 1; simp
  ·rw [hw]; simp
theorem words_length (s : ByteArray) : (wordsT s).length = s.data.toList.count 32 + 1 := by unfold wordsT; rw [List.length_map, splitB_length]
theorem sSplit_E (x : ByteArray) (hx : x.size < 400000000) : E (fun k => strings_Split (k 0) (x, { data := #[(32 : UInt8)] })) (wordsT x) := by
 have hc : x.data.toList.count 32 ≤ x.size := by rw [ba_size]; exact List.count_le_length
 have hmn : mn (wrap64 (((x.data.toList.count 32 : Nat) : Int) + 1)) (wrap64 ((x.size : Int) + 1)) = ((x.data.toList.count 32 + 1 : Nat) : Int) := by
  rw [wrap_nat (by omega), wrap_nat (by omega)]
  unfold mn
  rw [if_neg (by omega)]
 have hl := gen_l11 (m := ((x.data.toList.count 32 : Nat) : Int)) (x.data.toList.count 32) x [] rfl (by omega) (by simp only [List.length_nil]; omega) (by simp) (by omega)
 have hne : ¬ ({ data := #[(32 : UInt8)] } : ByteArray) = { data := #[] } := by
  intro h
  have := congrArg ByteArray.size h
  exact absurd this (by decide)
 refine E.congr (fun k => strings_Split.eq (k 0) x { data := #[(32 : UInt8)] }) (E.bind (E.congr (fun k => strings_genSplit.eq (k 0) x { data := #[(32 : UInt8)] } 0 (-1)) (E.neg (by decide) (E.neg hne (E.pos (by decide) (E.bind (sCount_E x) ?_))))) (E.now _))
 rw [hmn, show wrap64 (((x.data.toList.count 32 + 1 : Nat) : Int) - 1) = ((x.data.toList.count 32 : Nat) : Int) by rw [wrap_id (by omega) (by omega)]; omega]
 refine E.pos (by omega) (E.pos (by omega) (E.pos (by simp only [maxN]; omega) ?_))
 rw [Int.toNat_natCast]
 exact E.ren (fun _ => 0) hl
end Go.Proofs.YtpgfkoeodhfkgaaGreatDoorG
end
section
set_option linter.unusedVariables false
namespace Go.Proofs.YtpgfkoeodhfkgaaGreatDoorG
open Go Go.Refl Go.Refl.Math Go.RowKit
noncomputable def numV (lim : Nat) (s : ByteArray) : Int := @dite _ (∃ n : Nat, n ≤ lim ∧ s = decT n) (Classical.propDecidable _) (fun h => (h.choose : Int)) (fun _ => -1)
noncomputable def monV (s : ByteArray) : Int := @dite _ (∃ n : Nat, n ≤ 1000000 ∧ s = monT n) (Classical.propDecidable _) (fun h => (h.choose : Int)) (fun _ => -1)
theorem numV_P (lim : Nat) (s : ByteArray) : numP lim s (numV lim s) := by
 unfold numV
 split
 ·rename_i h; exact .inl ⟨_, h.choose_spec.1, h.choose_spec.2, rfl⟩
 ·rename_i h; exact .inr ⟨fun n hn e => h ⟨n, hn, e⟩, rfl⟩
theorem monV_P (s : ByteArray) : monP s (monV s) := by
 unfold monV
 split
 ·rename_i h; exact .inl ⟨_, h.choose_spec.1, h.choose_spec.2, rfl⟩
 ·rename_i h; exact .inr ⟨fun n hn e => h ⟨n, hn, e⟩, rfl⟩
theorem numV_dec {lim n : Nat} (h : n ≤ lim) : numV lim (decT n) = (n : Int) := numP_one (numV_P _ _) (.inl ⟨n, h, rfl, rfl⟩)
theorem monV_mon {n : Nat} (h : n ≤ 1000000) : monV (monT n) = (n : Int) := monP_one (monV_P _) (.inl ⟨n, h, rfl, rfl⟩)
theorem numV_bd (lim : Nat) (s : ByteArray) : -1 ≤ numV lim s ∧ numV lim s ≤ lim := by
 rcases numV_P lim s with ⟨n, hn, _, h⟩ | ⟨_, h⟩ <;> rw [h] <;> omega
theorem implNum_E (s : ByteArray) (lim : Nat) (hs : s.size ≤ 400000000) (hl : lim ≤ 10000000) : E (fun k => impl_readNumber (k 0) (s, (lim : Int))) (numV lim s) := by
 obtain ⟨r, h, hr⟩ := implRead_E s lim (by omega) hl
 exact E.is h (numP_one hr (numV_P _ _))
theorem implMonR_E (s : ByteArray) (hs : s.size ≤ 400000000) : E (fun k => impl_ReadMoney (k 0) s) (monV s) := by
 obtain ⟨r, h, hr⟩ := implMon_E s (by omega)
 exact E.is h (monP_one hr (monV_P _))
def wd (ws : List ByteArray) (i : Nat) : ByteArray := ws.getD i ByteArray.empty
def WsOk (ws : List ByteArray) : Prop := ws.length ≤ 400000000 ∧ ∀ w ∈ ws, w.size ≤ 400000000
theorem wd_size {ws : List ByteArray} (h : WsOk ws) (i : Nat) : (wd ws i).size ≤ 400000000 := by
 unfold wd
 rcases Nat.lt_or_ge i ws.length with h1 | h1
 ·exact h.2 _ (getD_mem _ h1)
 ·rw [List.getD_eq_getElem?_getD, List.getElem?_eq_none h1]
  exact Nat.zero_le _
theorem wordAt_E (ws : List ByteArray) (i : Nat) : E (fun k => impl_wordAt (k 0) (ws, (i : Int))) (wd ws i) := by
 refine E.congr (fun k => impl_wordAt.eq (k 0) ws (i : Int)) (E.ite (fun h => E.now' ?_) (fun h => E.pos (by omega) (E.pos (by omega) (E.now' (by rw [Int.toNat_natCast]; rfl)))))
 unfold wd
 rw [List.getD_eq_getElem?_getD, List.getElem?_eq_none (by omega)]
 rfl
def zEvR : EvT := (0, 0, 0, 0, [], 0, 0)
noncomputable def rdT (k : Int) (ws : List ByteArray) : EvT :=
 if k = 0 ∨ k = 7 then (k, 0, 0, 0, [], 0, 0) else if k = 6 then (k, 0, 0, 0, [], numV 1000 (wd ws 1), numV 1000 (wd ws 2))
 else if k = 5 then (k, numV 99 (wd ws 1), 0, 0, [], 0, 0)
 else if k = 4 then (k, numV 99 (wd ws 1), monV (wd ws 2), monV (wd ws 3), [], 0, 0)
 else if k = 3 then (k, numV 99 (wd ws 1), monV (wd ws 2), 0, (ws.drop 3).map (numV 99), 0, 0)
 else (k, numV 99 (wd ws 1), monV (wd ws 2), 0, [], 0, 0)
theorem read_l17 {a b c d e f z1 z2 z3 z4 z5 z6 : Int} : ∀ (post pre : List ByteArray) (acc : List Int), WsOk (pre ++ post) → acc.length + post.length ≤ 400000000 →
  E (fun k => impl_readDetails.l17 (k 0) (k 1) (pre ++ post) ((pre ++ post).length : Int) (pre.length : Int) z1 z2 z3 z4 z5 z6 a b c d e f acc) (a, b, c, d, acc ++ post.map (numV 99), e, f)
 | [], pre, acc, hw, hl => by
  refine E.step 1 (fun v w h1 h2 => by rewrite [h1, h2 0 (by decide)]; exact impl_readDetails.l17_succ ..) ?_
  exact E.neg (by simp) (E.now' (by simp))
 | w :: post, pre, acc, hw, hl => by
  have hlen : (pre ++ w :: post).length = pre.length + (post.length + 1) := by simp
  have h1 := hw.1
  have hws : w.size ≤ 400000000 := hw.2 w (by simp)
  simp only [List.length_cons] at hl
  have ih := read_l17 (a := a) (b := b) (c := c) (d := d) (e := e) (f := f) (z1 := z1) (z2 := z2) (z3 := z3) (z4 := z4) (z5 := z5) (z6 := z6) post (pre ++ [w]) (acc ++ [numV 99 w]) (by simpa using hw) (by simp; omega)
  rw [show (pre ++ [w]).length = pre.length + 1 from by simp, List.append_assoc] at ih
  refine E.step 1 (fun v w h1 h2 => by rewrite [h1, h2 0 (by decide)]; exact impl_readDetails.l17_succ ..) ?_
  simp only [Int.toNat_natCast, getD_mid]
  rw [wrap_nat (by omega)]
  refine E.pos (by omega) (E.pos (by omega) (E.pos (by omega) (E.bind (implNum_E w 99 hws (by decide)) (E.pos ?_ (E.is ih (by simp))))))
  simp only [List.length_set, List.length_replicate, maxN]; omega
theorem readD_E (k : Int) (ws : List ByteArray) (hw : WsOk ws) : E (fun f => impl_readDetails (f 0) (k, ws)) (rdT k ws) := by
 have hn := fun i => implNum_E (wd ws i) 99 (wd_size hw i) (by decide)
 have hk := fun i => implNum_E (wd ws i) 1000 (wd_size hw i) (by decide)
 have hm := fun i => implMonR_E (wd ws i) (wd_size hw i)
 have w1 := wordAt_E ws 1
 have w2 := wordAt_E ws 2
 have w3 := wordAt_E ws 3
 have h1 := hw.1
 have rest : ¬ (k = 0 ∨ k = 7) → E (fun f => (if k = 6 then ((impl_wordAt (f 0) (ws, 1)).bind fun y0 => ((impl_readNumber (f 0) (y0, 1000)).bind fun y1 => ((impl_wordAt (f 0) (ws, 2)).bind fun y2 => ((impl_readNumber (f 0) (y2, 1000)).bind fun y3 => some ((k, 0, 0, 0, [], y1, y3)))))) else ((impl_wordAt (f 0) (ws, 1)).bind fun y4 => ((impl_readNumber (f 0) (y4, 99)).bind fun y5 => (if k = 5 then some ((k, y5, 0, 0, [], 0, 0)) else ((impl_wordAt (f 0) (ws, 2)).bind fun y6 => ((impl_ReadMoney (f 0) y6).bind fun y7 => (if k = 4 then ((impl_wordAt (f 0) (ws, 3)).bind fun y8 => ((impl_ReadMoney (f 0) y8).bind fun y9 => some ((k, y5, y7, y9, [], 0, 0)))) else (if k = 3 then (if (ws.length : Int) > 3 then (if 3 ≤ (ws.length : Int) then impl_readDetails.l17 (f 0) (f 0) (List.drop (Int.toNat 3) ws) (((List.drop (Int.toNat 3) ws).length : Nat) : Int) 0 0 0 0 0 0 0 k y5 y7 0 0 0 [] else none) else some ((k, y5, y7, 0, [], 0, 0))) else some ((k, y5, y7, 0, [], 0, 0))))))))) : Option EvT)) (rdT k ws) := fun h0 => by
  unfold rdT
  rw [if_neg h0]
  by_cases k6 : k = 6
  ·rw [if_pos k6]
   exact E.pos k6 (E.bind w1 (E.bind (hk 1) (E.bind w2 (E.bind (hk 2) (E.now _)))))
  rw [if_neg k6]
  refine E.neg k6 (E.bind w1 (E.bind (hn 1) ?_))
  by_cases k5 : k = 5
  ·rw [if_pos k5]; exact E.pos k5 (E.now _)
  rw [if_neg k5]
  refine E.neg k5 (E.bind w2 (E.bind (hm 2) ?_))
  by_cases k4 : k = 4
  ·rw [if_pos k4]; exact E.pos k4 (E.bind w3 (E.bind (hm 3) (E.now _)))
  rw [if_neg k4]
  refine E.neg k4 ?_
  by_cases k3 : k = 3
  ·rw [if_pos k3]
   refine E.pos k3 (E.ite (fun hl => E.pos (by omega) ?_) (fun hl => E.now' ?_))
   ·have e3 : Int.toNat 3 = 3 := rfl
    rw [e3]
    have := read_l17 (a := k) (b := numV 99 (wd ws 1)) (c := monV (wd ws 2)) (d := 0) (e := 0) (f := 0) (z1 := 0) (z2 := 0) (z3 := 0) (z4 := 0) (z5 := 0) (z6 := 0) (ws.drop 3) [] [] ⟨by simp; omega, fun w h => hw.2 w (List.mem_of_mem_drop h)⟩ (by simp; omega)
    exact E.ren (fun _ => 0) this
   ·rw [List.drop_of_length_le (by omega)]; rfl
  ·rw [if_neg k3]; exact E.neg k3 (E.now _)
 refine E.congr (fun f => impl_readDetails.eq (f 0) k ws) (E.ite (fun h => E.pos h (E.now' ?_)) (fun h => E.ite (fun h7 => E.now' ?_) (fun h7 => rest (by omega))))
 ·unfold rdT; rw [if_pos (.inl h)]
 ·unfold rdT; rw [if_pos (.inr h7)]
noncomputable def lendR (ws : List ByteArray) : EvT := (3, numV 9999999 (wd ws 1), monV (wd ws 2), 0, (ws.drop 3).map (numV 9999999), 0, 0)
noncomputable def rs17 (ws : List ByteArray) : EvT × Bool := if wd ws 0 = klend ∧ (ws.length : Int) ≥ 3 then (lendR ws, true) else (zEvR, false)
noncomputable def rs15 (ws : List ByteArray) : EvT × Bool := if wd ws 0 = krepay ∧ (ws.length : Int) = 4 then ((4, numV 9999999 (wd ws 1), monV (wd ws 2), monV (wd ws 3), [], 0, 0), true) else rs17 ws
noncomputable def rs13 (ws : List ByteArray) : EvT × Bool := if wd ws 0 = ktake ∧ (ws.length : Int) = 3 then ((2, numV 9999999 (wd ws 1), monV (wd ws 2), 0, [], 0, 0), true) else rs15 ws
noncomputable def rs11 (ws : List ByteArray) : EvT × Bool := if wd ws 0 = ksave ∧ (ws.length : Int) = 3 then ((1, numV 9999999 (wd ws 1), monV (wd ws 2), 0, [], 0, 0), true) else rs13 ws
noncomputable def rs9 (ws : List ByteArray) : EvT × Bool := if wd ws 0 = kfail ∧ (ws.length : Int) = 2 then ((5, numV 9999999 (wd ws 1), 0, 0, [], 0, 0), true) else rs11 ws
noncomputable def rs7 (ws : List ByteArray) : EvT × Bool := if wd ws 0 = knight ∧ (ws.length : Int) = 3 then ((6, 0, 0, 0, [], numV 9999999 (wd ws 1), numV 9999999 (wd ws 2)), true) else rs9 ws
noncomputable def rs5 (ws : List ByteArray) : EvT × Bool := if wd ws 0 = kshare ∧ (ws.length : Int) = 1 then ((7, 0, 0, 0, [], 0, 0), true) else rs7 ws
noncomputable def rs3 (ws : List ByteArray) : EvT × Bool := if wd ws 0 = kjoin ∧ (ws.length : Int) = 1 then ((0, 0, 0, 0, [], 0, 0), true) else rs5 ws
variable {ws : List ByteArray}
end Go.Proofs.YtpgfkoeodhfkgaaGreatDoorG
end
section
set_option linter.unusedVariables false
namespace Go.Proofs.YtpgfkoeodhfkgaaGreatDoorG
open Go Go.Refl Go.Refl.Math Go.RowKit
def canon (e : EvT) : EvT :=
 if e.1 = 0 ∨ e.1 = 7 then (e.1, 0, 0, 0, [], 0, 0) else if e.1 = 6 then (e.1, 0, 0, 0, [], e.2.2.2.2.2.1, e.2.2.2.2.2.2)
 else if e.1 = 5 then (e.1, e.2.1, 0, 0, [], 0, 0) else if e.1 = 4 then (e.1, e.2.1, e.2.2.1, e.2.2.2.1, [], 0, 0)
 else if e.1 = 3 then (e.1, e.2.1, e.2.2.1, 0, e.2.2.2.2.1, 0, 0) else (e.1, e.2.1, e.2.2.1, 0, [], 0, 0)
def nosp (s : ByteArray) : Prop := (32 : UInt8) ∉ s.data.toList
def tailT : List ByteArray → ByteArray
 | [] => ByteArray.empty
 | x :: xs => spT ++ x ++ tailT xs
theorem words_join : ∀ (xs : List ByteArray) (w : ByteArray), nosp w → (∀ x ∈ xs, nosp x) → wordsT (w ++ tailT xs) = w :: xs
 | [], w, h, _ => by
  rw [tailT, ByteArray.append_empty]
  unfold wordsT
  rw [splitB_none h, List.map_cons, mkB_of]
  rfl
 | x :: xs, w, h, hx => by
  have ih := words_join xs x (hx x (List.mem_cons_self ..)) (fun y hy => hx y (List.mem_cons_of_mem _ hy))
  have e : (w ++ tailT (x :: xs)).data.toList = w.data.toList ++ 32 :: (x ++ tailT xs).data.toList := by
   simp [tailT, ByteArray.data_append, spT]
  unfold wordsT at ih ⊢
  rw [e, splitB_at h, List.map_cons, mkB_of, ih]
theorem nosp_dec (n : Nat) : nosp (decT n) := by
 intro h
 rw [decT_list] at h
 exact absurd (List.all_eq_true.1 (dval_dec n).1 _ h) (by decide)
theorem nosp_mon (n : Nat) : nosp (monT n) := by
 intro h
 rw [monT_list] at h
 rcases List.mem_append.1 h with h | h
 ·exact absurd (List.all_eq_true.1 (dval_dec _).1 _ h) (by decide)
 ·simp only [List.mem_cons, List.not_mem_nil, or_false] at h
  have d1 := (dgt_of (n := n / 10 % 10) (by omega)).1
  have d2 := (dgt_of (n := n % 10) (by omega)).1
  rcases h with h | h | h
  ·exact absurd h (by decide)
  ·rw [← h] at d1; exact absurd d1 (by decide)
  ·rw [← h] at d2; exact absurd d2 (by decide)
theorem memT_tail : ∀ l : List Int, memT l = tailT (l.map fun x => decT x.toNat)
 | [] => rfl
 | m :: l => by rw [memT, memT_tail l]; rfl
theorem numV_m {m : Int} {lim : Nat} (h0 : 0 ≤ m) (h1 : m ≤ lim) : numV lim (decT m.toNat) = m := by
 rw [numV_dec (by omega)]; omega
theorem monV_a {a : Int} (h : aV a = true) : monV (monT a.toNat) = a := by
 have := aV_iff.1 h
 rw [monV_mon (by omega)]; omega
theorem nums_m {lim : Nat} (hl : 99 ≤ lim) : ∀ {g : List Int}, g.all mV = true → (g.map fun x => decT x.toNat).map (numV lim) = g
 | [], _ => rfl
 | x :: g, h => by
  rw [List.all_cons, Bool.and_eq_true] at h
  have := mV_iff.1 h.1
  rw [List.map_cons, List.map_cons, nums_m hl h.2, numV_m (by omega) (by omega)]
theorem rs3_go {K : ByteArray} {xs : List ByteArray} (h : K ≠ kjoin) : rs3 (K :: xs) = rs5 (K :: xs) := if_neg (fun q => h q.1)
theorem rs5_go {K : ByteArray} {xs : List ByteArray} (h : K ≠ kshare) : rs5 (K :: xs) = rs7 (K :: xs) := if_neg (fun q => h q.1)
theorem rs7_go {K : ByteArray} {xs : List ByteArray} (h : K ≠ knight) : rs7 (K :: xs) = rs9 (K :: xs) := if_neg (fun q => h q.1)
theorem rs9_go {K : ByteArray} {xs : List ByteArray} (h : K ≠ kfail) : rs9 (K :: xs) = rs11 (K :: xs) := if_neg (fun q => h q.1)
theorem rs11_go {K : ByteArray} {xs : List ByteArray} (h : K ≠ ksave) : rs11 (K :: xs) = rs13 (K :: xs) := if_neg (fun q => h q.1)
theorem rs13_go {K : ByteArray} {xs : List ByteArray} (h : K ≠ ktake) : rs13 (K :: xs) = rs15 (K :: xs) := if_neg (fun q => h q.1)
theorem rs15_go {K : ByteArray} {xs : List ByteArray} (h : K ≠ krepay) : rs15 (K :: xs) = rs17 (K :: xs) := if_neg (fun q => h q.1)
theorem nosp_kind : ∀ k, k < 8 → nosp (kindN k) := by
 intro k h
 have : k = 0 ∨ k = 1 ∨ k = 2 ∨ k = 3 ∨ k = 4 ∨ k = 5 ∨ k = 6 ∨ k = 7 := by omega
 unfold nosp
 rcases this with rfl | rfl | rfl | rfl | rfl | rfl | rfl | rfl <;> decide
theorem evt_shape (e : EvT) (h : evtT e ≠ ByteArray.empty) : ∃ k xs, k < 8 ∧ e.1 = ((k : Nat) : Int) ∧ evtT e = kindN k ++ tailT xs ∧ (∀ x ∈ xs, nosp x) ∧ rdT e.1 (kindN k :: xs) = canon e ∧ rs3 (kindN k :: xs) = (canon e, true) := by
 obtain ⟨k, m, a, b, g, nu, de⟩ := e
 by_cases k0 : k = 0
 ·subst k0
  refine ⟨0, [], by omega, rfl, ?_, by simp, by unfold rdT canon; rw [if_pos (.inl rfl), if_pos (.inl rfl)], ?_⟩
  ·show kjoin = kjoin ++ tailT []
   rw [tailT, ByteArray.append_empty]
  ·exact if_pos ⟨rfl, rfl⟩
 by_cases k7 : k = 7
 ·subst k7
  refine ⟨7, [], by omega, rfl, ?_, by simp, by unfold rdT canon; rw [if_pos (.inr rfl), if_pos (.inr rfl)], ?_⟩
  ·show kshare = kshare ++ tailT []
   rw [tailT, ByteArray.append_empty]
  ·show rs3 (kshare :: []) = _
   rw [rs3_go (by decide)]
   exact if_pos ⟨rfl, rfl⟩
 by_cases k6 : k = 6
 ·subst k6
  by_cases hr : rV nu de = true
  ·have hr' := rV_iff.1 hr
   have e1 : evtT (6, m, a, b, g, nu, de) = knight ++ (bnT nu ++ bnT de) := by
    unfold evtT
    simp [hr]
   refine ⟨6, [decT nu.toNat, decT de.toNat], by omega, rfl, ?_, ?_, ?_, ?_⟩
   ·rw [e1]
    show _ = knight ++ tailT _
    simp only [tailT, bnT, ByteArray.append_assoc, ByteArray.append_empty]
   ·intro x hx
    simp only [List.mem_cons, List.not_mem_nil, or_false] at hx
    rcases hx with rfl | rfl <;> exact nosp_dec _
   ·show (6, 0, 0, 0, [], numV 1000 (decT nu.toNat), numV 1000 (decT de.toNat)) = ((6, 0, 0, 0, [], nu, de) : EvT)
    rw [numV_m (by omega) (by omega), numV_m (by omega) (by omega)]
   ·show rs3 (knight :: [decT nu.toNat, decT de.toNat]) = ((6, 0, 0, 0, [], nu, de), true)
    rw [rs3_go (by decide), rs5_go (by decide), rs7, if_pos ⟨rfl, rfl⟩]
    show ((6, 0, 0, 0, [], numV 9999999 (decT nu.toNat), numV 9999999 (decT de.toNat)), true) = (((6, 0, 0, 0, [], nu, de), true) : EvT × Bool)
    rw [numV_m (by omega) (by omega), numV_m (by omega) (by omega)]
  ·exact absurd (by unfold evtT; simp [hr]) h
 by_cases hm : mV m = true
 case neg => exact absurd (by unfold evtT; simp [k0, k7, k6, hm]) h
 have hm' := mV_iff.1 hm
 by_cases k5 : k = 5
 ·subst k5
  have e1 : evtT (5, m, a, b, g, nu, de) = kfail ++ bnT m := by
   unfold evtT
   simp [hm]
  refine ⟨5, [decT m.toNat], by omega, rfl, ?_, ?_, ?_, ?_⟩
  ·rw [e1]
   show _ = kfail ++ tailT _
   simp only [tailT, bnT, ByteArray.append_empty]
  ·intro x hx
   rw [List.mem_singleton.1 hx]; exact nosp_dec _
  ·show (5, numV 99 (decT m.toNat), 0, 0, [], 0, 0) = ((5, m, 0, 0, [], 0, 0) : EvT)
   rw [numV_m (by omega) (by omega)]
  ·show rs3 (kfail :: [decT m.toNat]) = ((5, m, 0, 0, [], 0, 0), true)
   rw [rs3_go (by decide), rs5_go (by decide), rs7_go (by decide), rs9, if_pos ⟨rfl, rfl⟩]
   show ((5, numV 9999999 (decT m.toNat), 0, 0, [], 0, 0), true) = (((5, m, 0, 0, [], 0, 0), true) : EvT × Bool)
   rw [numV_m (by omega) (by omega)]
 by_cases ha : aV a = true
 case neg => exact absurd (by unfold evtT; simp [k0, k7, k6, k5, hm, ha]) h
 by_cases k1 : k = 1
 ·subst k1
  have e1 : evtT (1, m, a, b, g, nu, de) = ksave ++ (bnT m ++ bmT a) := by
   unfold evtT
   simp [hm, ha]
  refine ⟨1, [decT m.toNat, monT a.toNat], by omega, rfl, ?_, ?_, ?_, ?_⟩
  ·rw [e1]
   show _ = ksave ++ tailT _
   simp only [tailT, bnT, bmT, ByteArray.append_assoc, ByteArray.append_empty]
  ·intro x hx
   simp only [List.mem_cons, List.not_mem_nil, or_false] at hx
   rcases hx with rfl | rfl
   ·exact nosp_dec _
   ·exact nosp_mon _
  ·show (1, numV 99 (decT m.toNat), monV (monT a.toNat), 0, [], 0, 0) = ((1, m, a, 0, [], 0, 0) : EvT)
   rw [numV_m (by omega) (by omega), monV_a ha]
  ·show rs3 (ksave :: [decT m.toNat, monT a.toNat]) = ((1, m, a, 0, [], 0, 0), true)
   rw [rs3_go (by decide), rs5_go (by decide), rs7_go (by decide), rs9_go (by decide), rs11, if_pos ⟨rfl, rfl⟩]
   show ((1, numV 9999999 (decT m.toNat), monV (monT a.toNat), 0, [], 0, 0), true) = (((1, m, a, 0, [], 0, 0), true) : EvT × Bool)
   rw [numV_m (by omega) (by omega), monV_a ha]
 by_cases k2 : k = 2
 ·subst k2
  have e1 : evtT (2, m, a, b, g, nu, de) = ktake ++ (bnT m ++ bmT a) := by
   unfold evtT
   simp [hm, ha]
  refine ⟨2, [decT m.toNat, monT a.toNat], by omega, rfl, ?_, ?_, ?_, ?_⟩
  ·rw [e1]
   show _ = ktake ++ tailT _
   simp only [tailT, bnT, bmT, ByteArray.append_assoc, ByteArray.append_empty]
  ·intro x hx
   simp only [List.mem_cons, List.not_mem_nil, or_false] at hx
   rcases hx with rfl | rfl
   ·exact nosp_dec _
   ·exact nosp_mon _
  ·show (2, numV 99 (decT m.toNat), monV (monT a.toNat), 0, [], 0, 0) = ((2, m, a, 0, [], 0, 0) : EvT)
   rw [numV_m (by omega) (by omega), monV_a ha]
  ·show rs3 (ktake :: [decT m.toNat, monT a.toNat]) = ((2, m, a, 0, [], 0, 0), true)
   rw [rs3_go (by decide), rs5_go (by decide), rs7_go (by decide), rs9_go (by decide), rs11_go (by decide), rs13, if_pos ⟨rfl, rfl⟩]
   show ((2, numV 9999999 (decT m.toNat), monV (monT a.toNat), 0, [], 0, 0), true) = (((2, m, a, 0, [], 0, 0), true) : EvT × Bool)
   rw [numV_m (by omega) (by omega), monV_a ha]
 by_cases k4 : k = 4
 ·subst k4
  by_cases hb : aV b = true
  case neg => exact absurd (by unfold evtT; simp [hm, ha, hb]) h
  have e1 : evtT (4, m, a, b, g, nu, de) = krepay ++ (bnT m ++ bmT a ++ bmT b) := by
   unfold evtT
   simp [hm, ha, hb]
  refine ⟨4, [decT m.toNat, monT a.toNat, monT b.toNat], by omega, rfl, ?_, ?_, ?_, ?_⟩
  ·rw [e1]
   show _ = krepay ++ tailT _
   simp only [tailT, bnT, bmT, ByteArray.append_assoc, ByteArray.append_empty]
  ·intro x hx
   simp only [List.mem_cons, List.not_mem_nil, or_false] at hx
   rcases hx with rfl | rfl | rfl
   ·exact nosp_dec _
   ·exact nosp_mon _
   ·exact nosp_mon _
  ·show (4, numV 99 (decT m.toNat), monV (monT a.toNat), monV (monT b.toNat), [], 0, 0) = ((4, m, a, b, [], 0, 0) : EvT)
   rw [numV_m (by omega) (by omega), monV_a ha, monV_a hb]
  ·show rs3 (krepay :: [decT m.toNat, monT a.toNat, monT b.toNat]) = ((4, m, a, b, [], 0, 0), true)
   rw [rs3_go (by decide), rs5_go (by decide), rs7_go (by decide), rs9_go (by decide), rs11_go (by decide), rs13_go (by decide), rs15, if_pos ⟨rfl, rfl⟩]
   show ((4, numV 9999999 (decT m.toNat), monV (monT a.toNat), monV (monT b.toNat), [], 0, 0), true) = (((4, m, a, b, [], 0, 0), true) : EvT × Bool)
   rw [numV_m (by omega) (by omega), monV_a ha, monV_a hb]
 by_cases k3 : k = 3
 case neg => exact absurd (by unfold evtT; simp [k0, k7, k6, k5, k1, k2, k4, k3, hm, ha]) h
 subst k3
 by_cases hg : g.all mV = true
 case neg => exact absurd (by unfold evtT; rw [if_neg k0, if_neg k7, if_neg k6, if_pos hm, if_neg k5, if_pos ha, if_neg k1, if_neg k2, if_neg k4, if_pos rfl, if_neg hg]) h
 have e1 : evtT (3, m, a, b, g, nu, de) = klend ++ (bnT m ++ bmT a ++ memT g) := by
  unfold evtT
  rw [if_neg k0, if_neg k7, if_neg k6, if_pos hm, if_neg k5, if_pos ha, if_neg k1, if_neg k2, if_neg k4, if_pos rfl, if_pos hg]
 refine ⟨3, decT m.toNat :: monT a.toNat :: g.map fun x => decT x.toNat, by omega, rfl, ?_, ?_, ?_, ?_⟩
 ·rw [e1, memT_tail]
  show _ = klend ++ tailT _
  simp only [tailT, bnT, bmT, ByteArray.append_assoc]
 ·intro x hx
  rcases List.mem_cons.1 hx with rfl | hx
  ·exact nosp_dec _
  rcases List.mem_cons.1 hx with rfl | hx
  ·exact nosp_mon _
  ·obtain ⟨y, _, rfl⟩ := List.mem_map.1 hx
   exact nosp_dec _
 ·show (3, numV 99 (decT m.toNat), monV (monT a.toNat), 0, (g.map fun x => decT x.toNat).map (numV 99), 0, 0) = ((3, m, a, 0, g, 0, 0) : EvT)
  rw [numV_m (by omega) (by omega), monV_a ha, nums_m (by omega) hg]
 ·show rs3 (klend :: decT m.toNat :: monT a.toNat :: g.map fun x => decT x.toNat) = ((3, m, a, 0, g, 0, 0), true)
  rw [rs3_go (by decide), rs5_go (by decide), rs7_go (by decide), rs9_go (by decide), rs11_go (by decide), rs13_go (by decide), rs15_go (by decide), rs17, if_pos ⟨rfl, by simp; omega⟩]
  show ((3, numV 9999999 (decT m.toNat), monV (monT a.toNat), 0, (g.map fun x => decT x.toNat).map (numV 9999999), 0, 0), true) = (((3, m, a, 0, g, 0, 0), true) : EvT × Bool)
  rw [numV_m (by omega) (by omega), monV_a ha, nums_m (by omega) hg]
end Go.Proofs.YtpgfkoeodhfkgaaGreatDoorG
end
section
set_option linter.unusedVariables false
namespace Go.Proofs.YtpgfkoeodhfkgaaGreatDoorG
open Go Go.Refl Go.Refl.Math Go.RowKit
theorem kindN_inj : ∀ i j, i < 8 → j < 8 → kindN i = kindN j → i = j := by
 intro i j hi hj h
 have a : i = 0 ∨ i = 1 ∨ i = 2 ∨ i = 3 ∨ i = 4 ∨ i = 5 ∨ i = 6 ∨ i = 7 := by omega
 have b : j = 0 ∨ j = 1 ∨ j = 2 ∨ j = 3 ∨ j = 4 ∨ j = 5 ∨ j = 6 ∨ j = 7 := by omega
 rcases a with rfl | rfl | rfl | rfl | rfl | rfl | rfl | rfl <;> rcases b with rfl | rfl | rfl | rfl | rfl | rfl | rfl | rfl <;> first | rfl | exact absurd h (by decide)
theorem kindN_ne : ∀ i, i < 8 → kindN i ≠ ByteArray.empty := by
 intro i hi h
 have a : i = 0 ∨ i = 1 ∨ i = 2 ∨ i = 3 ∨ i = 4 ∨ i = 5 ∨ i = 6 ∨ i = 7 := by omega
 rcases a with rfl | rfl | rfl | rfl | rfl | rfl | rfl | rfl <;> exact absurd h (by decide)
theorem evt_words (e : EvT) (h : evtT e ≠ ByteArray.empty) : ∃ k, k < 8 ∧ e.1 = ((k : Nat) : Int) ∧ wd (wordsT (evtT e)) 0 = kindN k ∧ rdT e.1 (wordsT (evtT e)) = canon e ∧ rs3 (wordsT (evtT e)) = (canon e, true) := by
 obtain ⟨k, xs, h1, h2, h3, h4, h5, h6⟩ := evt_shape e h
 have hw : wordsT (evtT e) = kindN k :: xs := by rw [h3]; exact words_join xs _ (nosp_kind k h1) h4
 rw [hw]
 exact ⟨k, h1, h2, rfl, h5, h6⟩
theorem evtT_canon (e : EvT) : evtT (canon e) = evtT e := by
 obtain ⟨k, m, a, b, g, nu, de⟩ := e
 unfold canon
 by_cases h0 : k = 0 ∨ k = 7
 ·rw [if_pos h0]
  rcases h0 with h0 | h0 <;> · subst h0; simp [evtT]
 rw [if_neg h0]
 by_cases h6 : k = 6
 ·rw [if_pos h6]; subst h6; simp [evtT]
 rw [if_neg h6]
 by_cases h5 : k = 5
 ·rw [if_pos h5]; subst h5; simp [evtT]
 rw [if_neg h5]
 by_cases h4 : k = 4
 ·rw [if_pos h4]; subst h4; simp [evtT]
 rw [if_neg h4]
 by_cases h3 : k = 3
 ·rw [if_pos h3]; subst h3; simp [evtT]
 rw [if_neg h3]
 have n0 : ¬ k = 0 := fun h => h0 (.inl h)
 have n7 : ¬ k = 7 := fun h => h0 (.inr h)
 simp [evtT, n0, n7, h6, h5, h4, h3]
theorem canon_rdT (k : Int) (ws : List ByteArray) : canon (rdT k ws) = rdT k ws := by
 unfold rdT
 by_cases h0 : k = 0 ∨ k = 7
 ·rw [if_pos h0]; unfold canon; rw [if_pos h0]
 rw [if_neg h0]
 by_cases h6 : k = 6
 ·rw [if_pos h6]; unfold canon; rw [if_neg h0, if_pos h6]
 rw [if_neg h6]
 by_cases h5 : k = 5
 ·rw [if_pos h5]; unfold canon; rw [if_neg h0, if_neg h6, if_pos h5]
 rw [if_neg h5]
 by_cases h4 : k = 4
 ·rw [if_pos h4]; unfold canon; rw [if_neg h0, if_neg h6, if_neg h5, if_pos h4]
 rw [if_neg h4]
 by_cases h3 : k = 3
 ·rw [if_pos h3]; unfold canon; rw [if_neg h0, if_neg h6, if_neg h5, if_neg h4, if_pos h3]
 rw [if_neg h3]; unfold canon; rw [if_neg h0, if_neg h6, if_neg h5, if_neg h4, if_neg h3]
noncomputable def parseT (s : ByteArray) : EvT × Bool := @dite _ (∃ e, evtT e = s ∧ s ≠ ByteArray.empty) (Classical.propDecidable _) (fun h => (canon h.choose, true)) (fun _ => (zEvR, false))
theorem parse_yes {e : EvT} {s : ByteArray} (h : evtT e = s) (hs : s ≠ ByteArray.empty) : parseT s = (canon e, true) := by
 have hx : ∃ e, evtT e = s ∧ s ≠ ByteArray.empty := ⟨e, h, hs⟩
 unfold parseT
 rw [dif_pos hx]
 have h1 := hx.choose_spec.1
 generalize hx.choose = e2 at h1
 obtain ⟨_, _, _, _, _, q1⟩ := evt_words e (by rw [h]; exact hs)
 obtain ⟨_, _, _, _, _, q2⟩ := evt_words e2 (by rw [h1]; exact hs)
 rw [h] at q1
 rw [h1, q1] at q2
 exact q2.symm
theorem parse_no {s : ByteArray} (h : ∀ e, evtT e = s → s = ByteArray.empty) : parseT s = (zEvR, false) := by
 unfold parseT
 exact dif_neg (fun ⟨e, h1, h2⟩ => h2 (h e h1))
theorem parse_is (s : ByteArray) : (∃ e, evtT e = s ∧ s ≠ ByteArray.empty ∧ parseT s = (canon e, true)) ∨ (parseT s = (zEvR, false) ∧ ∀ e, evtT e = s → s = ByteArray.empty) := by
 by_cases h : ∃ e, evtT e = s ∧ s ≠ ByteArray.empty
 ·obtain ⟨e, h1, h2⟩ := h
  exact .inl ⟨e, h1, h2, parse_yes h1 h2⟩
 ·have h' : ∀ e, evtT e = s → s = ByteArray.empty := fun e h1 => by
   by_cases h2 : s = ByteArray.empty
   ·exact h2
   ·exact absurd ⟨e, h1, h2⟩ h
  exact .inr ⟨parse_no h', h'⟩
theorem splitB_small (c : UInt8) : ∀ (l : List UInt8), ∀ w ∈ splitB c l, w.length ≤ l.length
 | [], w, h => by rw [List.mem_singleton.1 h]; exact Nat.zero_le _
 | b :: l, w, h => by
  have ih := splitB_small c l
  rw [splitB] at h
  by_cases hb : b = c
  ·rw [if_pos hb] at h
   rcases List.mem_cons.1 h with rfl | h
   ·exact Nat.zero_le _
   ·have := ih w h; simp; omega
  ·rw [if_neg hb] at h
   cases hs : splitB c l with
   | nil => rw [hs] at h; rw [List.mem_singleton.1 h]; simp
   | cons x y =>
    rw [hs] at h ih
    rcases List.mem_cons.1 h with rfl | h
    ·have := ih x (List.mem_cons_self ..); simp; omega
    ·have := ih w (List.mem_cons_of_mem _ h); simp; omega
theorem words_ok {s : ByteArray} (h : s.size < 400000000) : WsOk (wordsT s) := by
 have hc : s.data.toList.count 32 ≤ s.size := by rw [ba_size]; exact List.count_le_length
 refine ⟨by rw [words_length]; omega, fun w hw => ?_⟩
 obtain ⟨l, hl, rfl⟩ := List.mem_map.1 hw
 have := splitB_small 32 _ l hl
 rw [← ba_size] at this
 rw [mkB_size]; omega
theorem words_empty : wd (wordsT ByteArray.empty) 0 = ByteArray.empty := rfl
theorem rdT_len (k : Int) (ws : List ByteArray) : (rdT k ws).2.2.2.2.1.length ≤ ws.length ∧ -1 ≤ (rdT k ws).2.2.2.2.2.1 ∧ (rdT k ws).2.2.2.2.2.1 ≤ 1000 ∧ -1 ≤ (rdT k ws).2.2.2.2.2.2 ∧ (rdT k ws).2.2.2.2.2.2 ≤ 1000 := by
 have b1 := numV_bd 1000 (wd ws 1)
 have b2 := numV_bd 1000 (wd ws 2)
 unfold rdT
 by_cases h0 : k = 0 ∨ k = 7
 ·rw [if_pos h0]; simp
 rw [if_neg h0]
 by_cases h6 : k = 6
 ·rw [if_pos h6]
  refine ⟨Nat.zero_le _, ?_⟩
  show -1 ≤ numV 1000 (wd ws 1) ∧ numV 1000 (wd ws 1) ≤ 1000 ∧ -1 ≤ numV 1000 (wd ws 2) ∧ numV 1000 (wd ws 2) ≤ 1000
  omega
 rw [if_neg h6]
 by_cases h5 : k = 5
 ·rw [if_pos h5]; simp
 rw [if_neg h5]
 by_cases h4 : k = 4
 ·rw [if_pos h4]; simp
 rw [if_neg h4]
 by_cases h3 : k = 3
 ·rw [if_pos h3]
  refine ⟨?_, by show (-1 : Int) ≤ 0; decide, by show (0 : Int) ≤ 1000; decide, by show (-1 : Int) ≤ 0; decide, by show (0 : Int) ≤ 1000; decide⟩
  show ((ws.drop 3).map (numV 99)).length ≤ _
  rw [List.length_map, List.length_drop]; omega
 rw [if_neg h3]; simp
theorem parse_l3 (x : ByteArray) (hx : x.size < 400000000) : ∀ (d i : Nat), i + d = 8 → (∀ j, j < i → wd (wordsT x) 0 ≠ kindN j) →
  E (fun k => impl_ParseEvent.l3 (k 0) (k 1) x [kjoin, ksave, ktake, klend, krepay, kfail, knight, kshare] (i : Int) 0 0 0 0 0 0 (wordsT x)) (parseT x)
 | 0, i, hi, hn => by
  have hp : parseT x = (zEvR, false) := parse_no fun e he => by
   by_cases h : x = ByteArray.empty
   ·exact h
   ·obtain ⟨k, k1, _, k2, _⟩ := evt_words e (by rw [he]; exact h)
    rw [he] at k2
    exact absurd k2 (hn k (by omega))
  rw [hp]
  refine E.step 1 (fun v w h1 h2 => by rewrite [h1, h2 0 (by decide)]; exact impl_ParseEvent.l3_succ ..) ?_
  exact E.neg (by omega) (E.now _)
 | d + 1, i, hi, hn => by
  have hlen : 0 < (wordsT x).length := by rw [words_length]; omega
  have hcs : x.data.toList.count 32 ≤ x.size := by rw [ba_size]; exact List.count_le_length
  refine E.step 1 (fun v w h1 h2 => by rewrite [h1, h2 0 (by decide)]; exact impl_ParseEvent.l3_succ ..) ?_
  rw [Int.toNat_natCast, wrap_nat (by omega)]
  refine E.pos (by omega) (E.pos (by rfl) (E.pos (by omega) (E.pos (by omega) (E.pos (by omega) (E.ite (fun h => ?_) (fun h => ?_))))))
  ·have hw : wd (wordsT x) 0 = kindN i := h
   have hrd := readD_E (i : Int) (wordsT x) (words_ok hx)
   have hl := rdT_len (i : Int) (wordsT x)
   have hcr := canon_rdT (i : Int) (wordsT x)
   have hwl := words_length x
   have hne : x ≠ ByteArray.empty := fun h' => by
    rw [h', words_empty] at hw
    exact kindN_ne i (by omega) hw.symm
   have huniq : ∀ e, evtT e = x → rdT (i : Int) (wordsT x) = canon e := fun e he => by
    obtain ⟨k, k1, k2, k3, k4, _⟩ := evt_words e (by rw [he]; exact hne)
    rw [he] at k3 k4
    rw [hw] at k3
    obtain rfl := kindN_inj i k (by omega) k1 k3
    rw [← k2]; exact k4
   generalize rdT (i : Int) (wordsT x) = r at hrd hl hcr huniq
   have hf := implEvt_E r (by omega) (by omega) (by omega) (by omega) (by omega)
   refine E.bind hrd (E.bind hf (E.ite (fun h2 => E.now' ?_) (fun h2 => E.now' ?_)))
   ·rw [parse_yes h2 hne, hcr]
   ·refine (parse_no fun e he => ?_).symm
    exact absurd (by rw [huniq e he, evtT_canon, he]) h2
  ·have ih := parse_l3 x hx d (i + 1) (by omega) (fun j hj => by
    rcases Nat.lt_succ_iff_lt_or_eq.1 hj with h1 | h1
    ·exact hn j h1
    ·rw [h1]; exact h)
   exact ih
theorem implParse_E (x : ByteArray) (hx : x.size < 400000000) : E (fun k => impl_ParseEvent (k 0) x) (parseT x) := by
 have h := parse_l3 x hx 8 0 (by omega) (fun j hj => by omega)
 exact E.congr (fun k => impl_ParseEvent.eq (k 0) x) (E.bind (sSplit_E x hx) (E.ren (fun _ => 0) h))
theorem size_if {c : Prop} [Decidable c] {a b : ByteArray} {n : Nat} (h1 : c → a.size ≤ n) (h2 : ¬ c → b.size ≤ n) : (if c then a else b).size ≤ n := by
 by_cases h : c
 ·rw [if_pos h]; exact h1 h
 ·rw [if_neg h]; exact h2 h
theorem evtT_size (e : EvT) : (evtT e).size ≤ 40000 + 101 * e.2.2.2.2.1.length := by
 obtain ⟨k, m, a, b, g, nu, de⟩ := e
 have h0 : ByteArray.size ByteArray.empty = 0 := rfl
 have s0 : kjoin.size = 4 := rfl
 have s1 : ksave.size = 4 := rfl
 have s2 : ktake.size = 4 := rfl
 have s3 : klend.size = 4 := rfl
 have s4 : krepay.size = 5 := rfl
 have s5 : kfail.size = 4 := rfl
 have s6 : knight.size = 5 := rfl
 have s7 : kshare.size = 5 := rfl
 have bm : mV m = true → (bnT m).size ≤ 101 := fun h => bnT_size' (mV_iff.1 h).2
 have ba : aV a = true → (bmT a).size ≤ 10005 := fun h => bmT_size (aV_iff.1 h).2
 have bb : aV b = true → (bmT b).size ≤ 10005 := fun h => bmT_size (aV_iff.1 h).2
 have bg : g.all mV = true → (memT g).size ≤ g.length * 101 := memT_size
 have br : rV nu de = true → (bnT nu).size ≤ 1002 ∧ (bnT de).size ≤ 1002 := fun h => by
  have := rV_iff.1 h
  exact ⟨bnT_size (by omega), bnT_size (by omega)⟩
 unfold evtT
 refine size_if (fun _ => by omega) (fun _ => size_if (fun _ => by omega) (fun _ => size_if (fun _ => size_if (fun h => ?_) (fun _ => by omega)) (fun _ => size_if (fun hm => size_if (fun _ => ?_) (fun _ => size_if (fun ha => size_if (fun _ => ?_) (fun _ => size_if (fun _ => ?_) (fun _ => size_if (fun _ => size_if (fun hb => ?_) (fun _ => by omega)) (fun _ => size_if (fun _ => size_if (fun hg => ?_) (fun _ => by omega)) (fun _ => by omega))))) (fun _ => by omega))) (fun _ => by omega))))
 ·have := br h; simp only [ByteArray.size_append]; omega
 ·have := bm hm; simp only [ByteArray.size_append]; omega
 ·have := bm hm; have := ba ha; simp only [ByteArray.size_append]; omega
 ·have := bm hm; have := ba ha; simp only [ByteArray.size_append]; omega
 ·have := bm hm; have := ba ha; have := bb hb; simp only [ByteArray.size_append]; omega
 ·have := bm hm; have := ba ha; have := bg hg; simp only [ByteArray.size_append]; omega
end Go.Proofs.YtpgfkoeodhfkgaaGreatDoorG
end
section
set_option linter.unusedVariables false
namespace Go.Proofs.YtpgfkoeodhfkgaaGreatDoorG
open Go Go.Refl Go.Refl.Math Go.RowKit
theorem u8_lt {s : List Int} (h : WfT (.slice (.int .u8)) s) : ∀ x ∈ s, 0 ≤ x ∧ x < 256 := fun x hx => by have := u8_of h x hx; omega
theorem parse_small {s : ByteArray} (hs : s.size < 400000000) : (parseT s).1.2.2.2.2.1.length ≤ s.size + 1 ∧ (-1 ≤ (parseT s).1.2.2.2.2.2.1 ∧ (parseT s).1.2.2.2.2.2.1 ≤ 1000) ∧ (-1 ≤ (parseT s).1.2.2.2.2.2.2 ∧ (parseT s).1.2.2.2.2.2.2 ≤ 1000) := by
 rcases parse_is s with ⟨e, h1, h2, h3⟩ | ⟨h3, _⟩
 ·obtain ⟨k, k1, k2, k3, k4, _⟩ := evt_words e (by rw [h1]; exact h2)
  rw [h3]
  rw [h1] at k4
  have hl := rdT_len e.1 (wordsT s)
  rw [k4] at hl
  have hc : s.data.toList.count 32 ≤ s.size := by rw [ba_size]; exact List.count_le_length
  have hw := words_length s
  exact ⟨by show (canon e).2.2.2.2.1.length ≤ _; omega, ⟨hl.2.1, hl.2.2.1⟩, ⟨hl.2.2.2.1, hl.2.2.2.2⟩⟩
 ·rw [h3]
  exact ⟨Nat.zero_le _, ⟨by show (-1 : Int) ≤ 0; decide, by show (0 : Int) ≤ 1000; decide⟩, ⟨by show (-1 : Int) ≤ 0; decide, by show (0 : Int) ≤ 1000; decide⟩⟩
end Go.Proofs.YtpgfkoeodhfkgaaGreatDoorG
end
section
set_option linter.unusedVariables false
namespace Go.Proofs.YtpgfkoeodhfkgaaGreatDoorG
open Go Go.Refl Go.Refl.Math Go.RowKit
theorem canon_fst (e : EvT) : (canon e).1 = e.1 := by
 unfold canon
 by_cases h0 : e.1 = 0 ∨ e.1 = 7
 ·rw [if_pos h0]
 rw [if_neg h0]
 by_cases h6 : e.1 = 6
 ·rw [if_pos h6]
 rw [if_neg h6]
 by_cases h5 : e.1 = 5
 ·rw [if_pos h5]
 rw [if_neg h5]
 by_cases h4 : e.1 = 4
 ·rw [if_pos h4]
 rw [if_neg h4]
 by_cases h3 : e.1 = 3
 ·rw [if_pos h3]
 rw [if_neg h3]
theorem FnFormatEvent_pure (x : List Int) (hw : WfT (.slice (.int .u8)) x) : ∃ n, laws_FnFormatEvent n x = some true := by
 have hx := u8_lt hw
 refine E.one (E.congr (fun k => laws_FnFormatEvent.eq (k 0) x) (E.ite (fun h => E.now _) (fun h => ?_)))
 obtain ⟨c, e, hd, _, _, g1, g2, g3⟩ := drawApply_D x hx
 have hdr : E (fun k => spec_DrawFormatEvent (k 0) x) e := E.congr (fun k => spec_DrawFormatEvent.eq (k 0) x) (E.bind hd (E.now _))
 have h1 := implEvt_E e (by omega) (by omega) (by omega) (by omega) (by omega)
 have h2 := specFmtEvt_E e (by omega)
 have hs : (evtT e).size < 400000000 := by have := evtT_size e; omega
 refine E.bind hdr (E.bind h1 (E.bind h2 (E.pos rfl ?_)))
 by_cases he : evtT e = ByteArray.empty
 ·have hb : decide (evtT e = { data := #[] }) = true := decide_eq_true he
  rw [hb]
  exact E.congr (fun k => laws_FnFormatEvent.j6_eq (k 0) ..) (E.pos rfl (E.bind h2 (E.now' (decide_eq_true rfl))))
 ·have hb : decide (evtT e = { data := #[] }) = false := decide_eq_false he
  rw [hb]
  have hp := parse_yes rfl he
  have h3 := implParse_E (evtT e) hs
  obtain ⟨q1, q2, q3⟩ := parse_small hs
  have hc := canon_fst e
  have ht := evtT_canon e
  rw [hp] at h3 q1 q2 q3
  generalize canon e = r at h3 q1 q2 q3 hc ht
  simp only at q1 q2 q3
  have h4 := implEvt_E r (by omega) (by omega) (by omega) (by omega) (by omega)
  exact E.congr (fun k => laws_FnFormatEvent.j6_eq (k 0) ..) (E.neg (by decide) (E.bind h3 (E.pos rfl (E.bind h4 (E.pos ht (E.now' (decide_eq_true hc)))))))
end Go.Proofs.YtpgfkoeodhfkgaaGreatDoorG
end
