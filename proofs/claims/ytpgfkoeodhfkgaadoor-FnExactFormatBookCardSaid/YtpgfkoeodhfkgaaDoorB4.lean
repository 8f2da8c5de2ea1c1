import Derived.Test.YtpgfkoeodhfkgaaDoorB3
/- FnExactFormatBook: mathematics of the law. No condition. -/
set_option linter.unusedVariables false
set_option linter.unusedSimpArgs false
section
set_option linter.unusedVariables false
namespace Go.Refl.Math
open Go Go.Refl Go.RowKit
def E {α : Type} (f : (Nat → Nat) → Option α) (r : α) : Prop := ∃ K, ∀ v : Nat → Nat, (∀ i, K ≤ v i) → f v = some r
variable {α β : Type}
theorem E.now (r : α) : E (fun _ => some r) r := ⟨0, fun _ _ => rfl⟩
theorem E.now' {r r' : α} (h : r = r') : E (fun _ => some r) r' := h ▸ E.now r
theorem E.is {f : (Nat → Nat) → Option α} {r r' : α} (k : E f r) (h : r = r') : E f r' := h ▸ k
theorem E.congr {f g : (Nat → Nat) → Option α} {r : α} (h : ∀ v, f v = g v) (k : E g r) : E f r := by
  obtain ⟨K, k⟩ := k
  exact ⟨K, fun v hv => (h v).trans (k v hv)⟩
theorem E.bind {f : (Nat → Nat) → Option α} {g : (Nat → Nat) → α → Option β} {a : α} {r : β} (h : E f a) (k : E (fun v => g v a) r) : E (fun v => (f v).bind (g v)) r := by
  obtain ⟨K, h⟩ := h
  obtain ⟨L, k⟩ := k
  exact ⟨max K L, fun v hv => by
    show (f v).bind (g v) = some r
    rw [h v (fun i => Nat.le_trans (Nat.le_max_left ..) (hv i))]
    exact k v (fun i => Nat.le_trans (Nat.le_max_right ..) (hv i))⟩
theorem E.pos {c : Prop} [Decidable c] {f g : (Nat → Nat) → Option α} {r : α} (h : c) (k : E f r) : E (fun v => if c then f v else g v) r := by
  obtain ⟨K, k⟩ := k
  exact ⟨K, fun v hv => by simp only [if_pos h]; exact k v hv⟩
theorem E.neg {c : Prop} [Decidable c] {f g : (Nat → Nat) → Option α} {r : α} (h : ¬ c) (k : E g r) : E (fun v => if c then f v else g v) r := by
  obtain ⟨K, k⟩ := k
  exact ⟨K, fun v hv => by simp only [if_neg h]; exact k v hv⟩
theorem E.ite {c : Prop} [Decidable c] {f g : (Nat → Nat) → Option α} {r : α} (h1 : c → E f r) (h2 : ¬ c → E g r) : E (fun v => if c then f v else g v) r := by
  by_cases h : c
  · exact E.pos h (h1 h)
  · exact E.neg h (h2 h)
theorem E.step (i : Nat) {f g : (Nat → Nat) → Option α} {r : α} (h : ∀ v w : Nat → Nat, v i = w i + 1 → (∀ j, j ≠ i → v j = w j) → f v = g w) (k : E g r) : E f r := by
  obtain ⟨K, k⟩ := k
  refine ⟨K + 1, fun v hv => ?_⟩
  have h1 := h v (fun j => if j = i then v i - 1 else v j) (by simp; have := hv i; omega) (fun j hj => by simp [hj])
  rw [h1]
  refine k _ fun j => ?_
  by_cases hj : j = i
  · simp only [hj, if_true]; have := hv i; omega
  · simp only [hj, if_false]; have := hv j; omega
theorem E.ren (σ : Nat → Nat) {f : (Nat → Nat) → Option α} {r : α} (k : E f r) : E (fun v => f (fun i => v (σ i))) r := by
  obtain ⟨K, k⟩ := k
  exact ⟨K, fun v hv => k _ fun i => hv (σ i)⟩
theorem E.one {f : Nat → Option α} {r : α} (k : E (fun v => f (v 0)) r) : ∃ n, f n = some r := by
  obtain ⟨K, k⟩ := k
  exact ⟨K, k (fun _ => K) fun _ => Nat.le_refl _⟩
theorem wrap_id {x : Int} (h1 : -9223372036854775808 ≤ x) (h2 : x ≤ 9223372036854775807) : wrap64 x = x := by unfold wrap64; omega
theorem wrap_nat {n : Nat} (h : n < 4611686018427387904) : wrap64 ((n : Int) + 1) = ((n + 1 : Nat) : Int) := by unfold wrap64; omega
theorem getD_mid {d : α} (pre post : List α) (x : α) : (pre ++ x :: post).getD pre.length d = x := by
  simp [List.getD_eq_getElem?_getD]
end Go.Refl.Math
end
section
set_option linter.unusedVariables false
namespace Go.Proofs.YtpgfkoeodhfkgaaDoorG
open Go Go.Refl Go.Refl.Math Go.RowKit
theorem inRange_E (n lo hi : Int) : E (fun k => spec_inRange (k 0) (n, lo, hi)) (decide (lo ≤ n) && decide (n ≤ hi)) :=
  E.congr (fun k => spec_inRange.eq (k 0) n lo hi) (E.ite (fun h => E.now' (by simp [h])) (fun h => E.now' (by simp [h])))
end Go.Proofs.YtpgfkoeodhfkgaaDoorG
end
section
set_option linter.unusedVariables false
namespace Go.Proofs.YtpgfkoeodhfkgaaDoorG
open Go Go.Refl Go.Refl.Math Go.RowKit
abbrev Ent := Int × Int × Int × Int
theorem specInR_E (n lo hi : Int) : E (fun k => spec_inRange (k 0) (n, lo, hi)) (decide (lo ≤ n ∧ n ≤ hi)) :=
  E.is (inRange_E n lo hi) (by rw [Bool.eq_iff_iff]; simp)
end Go.Proofs.YtpgfkoeodhfkgaaDoorG
end
section
set_option linter.unusedVariables false
namespace Go.Proofs.YtpgfkoeodhfkgaaDoorG
open Go Go.Refl Go.Refl.Math Go.RowKit
def AmtOk (l : List Ent) : Prop := ∀ e ∈ l, 0 ≤ e.2.2.2 ∧ e.2.2.2 < 10000000
end Go.Proofs.YtpgfkoeodhfkgaaDoorG
end
section
set_option linter.unusedVariables false
namespace Go.Proofs.YtpgfkoeodhfkgaaDoorG
open Go Go.Refl Go.Refl.Math Go.RowKit
theorem AmtOk.one {e : Ent} (h : 0 ≤ e.2.2.2 ∧ e.2.2.2 < 10000000) : AmtOk [e] := fun x hx => by
  simp at hx; subst hx; exact h
theorem AmtOk.set {l : List Ent} (h : AmtOk l) (i : Nat) (x : Ent) (hx : 0 ≤ x.2.2.2 ∧ x.2.2.2 < 10000000) : AmtOk (l.set i x) := fun e he => by
  rcases List.mem_or_eq_of_mem_set he with h1 | h1
  · exact h e h1
  · rw [h1]; exact hx
end Go.Proofs.YtpgfkoeodhfkgaaDoorG
end
section
set_option linter.unusedVariables false
namespace Go.Proofs.YtpgfkoeodhfkgaaDoorG
open Go Go.Refl Go.Refl.Math Go.RowKit
def decT (n : Nat) : ByteArray := ⟨(Go.Lib.decDigits n).toArray⟩
theorem decT_lt {n : Nat} (h : n < 10) : decT n = ⟨#[UInt8.ofNat (48 + n)]⟩ := by unfold decT; rw [Go.Lib.decDigits, dif_pos h]
theorem decT_ge {n : Nat} (h : ¬ n < 10) : decT n = decT (n / 10) ++ decT (n % 10) := by
  rw [decT_lt (n := n % 10) (by omega)]
  unfold decT
  rw [Go.Lib.decDigits, dif_neg h]
  apply ByteArray.ext
  rw [ByteArray.data_append]
  simp
theorem decT_one {n : Nat} (h : n < 10) : (decT n).size = 1 := by rw [decT_lt h]; rfl
theorem decT_size : ∀ (k n : Nat), n ≤ k → (decT n).size ≤ n + 1
  | 0, n, h => by rw [decT_one (by omega)]; omega
  | k + 1, n, h => by
    by_cases h1 : n < 10
    · rw [decT_one h1]; omega
    · have ih := decT_size k (n / 10) (by omega)
      rw [decT_ge h1, ByteArray.size_append, decT_one (n := n % 10) (by omega)]
      omega
theorem decT_sz (n : Nat) : (decT n).size ≤ n + 1 := decT_size n n (Nat.le_refl n)
theorem decT_two {n : Nat} (h : 10 ≤ n) : 2 ≤ (decT n).size := by
  rw [decT_ge (by omega), ByteArray.size_append, decT_one (n := n % 10) (by omega)]
  have : 1 ≤ (decT (n / 10)).size := by
    by_cases h1 : n / 10 < 10
    · rw [decT_one h1]; omega
    · rw [decT_ge h1, ByteArray.size_append, decT_one (n := n / 10 % 10) (by omega)]; omega
  omega
theorem digit_text : ∀ n : Nat, n < 10 → ByteArray.extract { data := #[(48 : UInt8), (49 : UInt8), (50 : UInt8), (51 : UInt8), (52 : UInt8), (53 : UInt8), (54 : UInt8), (55 : UInt8), (56 : UInt8), (57 : UInt8)] } n (n + 1) = ⟨#[UInt8.ofNat (48 + n)]⟩ := by
  intro n hn
  have : n = 0 ∨ n = 1 ∨ n = 2 ∨ n = 3 ∨ n = 4 ∨ n = 5 ∨ n = 6 ∨ n = 7 ∨ n = 8 ∨ n = 9 := by omega
  rcases this with rfl | rfl | rfl | rfl | rfl | rfl | rfl | rfl | rfl | rfl <;> decide
theorem specNum_k : ∀ (k x : Nat), x ≤ k → x ≤ 10000000 → ∀ n, k < n → spec_number n (x : Int) = some (decT x)
  | k, x, hx, hb, 0, hn => by omega
  | k, x, hx, hb, n + 1, hn => by
    rw [spec_number.succ, spec_number.eq]
    by_cases h : x < 10
    · rw [if_pos (by omega), if_pos (by omega), wrap_id (x := (x : Int) + 1) (by omega) (by omega), if_pos (by omega), if_pos (by
        have : ((ByteArray.size { data := #[(48 : UInt8), (49 : UInt8), (50 : UInt8), (51 : UInt8), (52 : UInt8), (53 : UInt8), (54 : UInt8), (55 : UInt8), (56 : UInt8), (57 : UInt8)] } : Nat) : Int) = 10 := rfl
        rw [this]; omega)]
      rw [show Int.toNat ((x : Int) + 1) = x + 1 by omega, Int.toNat_natCast, digit_text x h, decT_lt h]
    · match k, hx, hn with
      | 0, hx, hn => omega
      | k + 1, hx, hn =>
        rw [if_neg (by omega), Int.tdiv_eq_ediv_of_nonneg (by omega), Int.tmod_eq_emod_of_nonneg (by omega), wrap_id (by omega) (by omega)]
        rw [show (x : Int) / 10 = ((x / 10 : Nat) : Int) by omega, show (x : Int) % 10 = ((x % 10 : Nat) : Int) by omega]
        rw [specNum_k k (x / 10) (by omega) (by omega) n (by omega), specNum_k k (x % 10) (by omega) (by omega) n (by omega)]
        have s1 := decT_sz (x / 10)
        have s2 := decT_sz (x % 10)
        simp only [Option.bind_some]
        rw [if_pos (by simp only [maxN]; omega), ← decT_ge h]
theorem specNum_E {x : Int} (h0 : 0 ≤ x) (h1 : x ≤ 10000000) : E (fun k => spec_number (k 0) x) (decT x.toNat) := by
  obtain ⟨a, rfl⟩ := Int.eq_ofNat_of_zero_le h0
  refine ⟨a + 1, fun v hv => ?_⟩
  show spec_number (v 0) (a : Int) = _
  rw [specNum_k a a (Nat.le_refl a) (by omega) _ (by have := hv 0; omega), Int.toNat_natCast]
theorem itoa_E {x : Int} (h0 : 0 ≤ x) (h1 : x ≤ 10000000) : E (fun k => strconv_Itoa (k 0) x) (decT x.toNat) := by
  refine E.congr (fun k => ?_) (E.now _)
  show itRun x = _
  unfold itRun
  rw [decide_eq_true (by omega), decide_eq_true (by omega)]
  show some _ = some _
  unfold decT Go.Lib.itoa
  rw [if_neg (by omega)]
def spT : ByteArray := { data := #[(32 : UInt8)] }
def dotT : ByteArray := { data := #[(46 : UInt8)] }
def nlT : ByteArray := { data := #[(10 : UInt8)] }
def zT : ByteArray := { data := #[(48 : UInt8)] }
theorem spT_size : spT.size = 1 := rfl
theorem dotT_size : dotT.size = 1 := rfl
theorem nlT_size : nlT.size = 1 := rfl
def monT (x : Nat) : ByteArray := decT (x / 100) ++ dotT ++ decT (x / 10 % 10) ++ decT (x % 10)
theorem monT_size (x : Nat) : (monT x).size ≤ x / 100 + 4 := by
  unfold monT
  rw [ByteArray.size_append, ByteArray.size_append, ByteArray.size_append, decT_one (n := x / 10 % 10) (by omega), decT_one (n := x % 10) (by omega), dotT_size]
  have := decT_sz (x / 100)
  omega
theorem showMoney_E {x : Int} (h0 : 0 ≤ x) (h1 : x ≤ 1000000) : E (fun k => impl_ShowMoney (k 0) x) (monT x.toNat) := by
  obtain ⟨a, rfl⟩ := Int.eq_ofNat_of_zero_le h0
  rw [Int.toNat_natCast]
  have e1 : Int.tmod (a : Int) 100 = ((a % 100 : Nat) : Int) := by rw [Int.tmod_eq_emod_of_nonneg (by omega)]; omega
  have e2 : wrap64 (Int.tdiv (a : Int) 100) = ((a / 100 : Nat) : Int) := by rw [Int.tdiv_eq_ediv_of_nonneg (by omega), wrap_id (by omega) (by omega)]; omega
  have i1 : E (fun k => strconv_Itoa (k 0) (Int.tmod (a : Int) 100)) (decT (a % 100)) := by rw [e1]; exact itoa_E (by omega) (by omega)
  have i2 : E (fun k => strconv_Itoa (k 0) (wrap64 (Int.tdiv (a : Int) 100))) (decT (a / 100)) := by rw [e2]; exact itoa_E (by omega) (by omega)
  have s1 := decT_sz (a / 100)
  have s2 := decT_sz (a % 100)
  refine E.congr (fun k => impl_ShowMoney.eq (k 0) _) (E.neg (by omega) (E.neg (by omega) (E.bind i1 ?_)))
  by_cases h : a % 100 < 10
  · have s3 := decT_one h
    refine E.pos (by omega) (E.pos (by rw [s3]; exact (by decide)) (E.bind i2 (E.pos (by show _ + 1 ≤ maxN; simp only [maxN]; omega) (E.pos ?_ (E.now' ?_)))))
    · rw [ByteArray.size_append, ByteArray.size_append, s3]; show _ + 1 + (1 + 1) ≤ maxN; simp only [maxN]; omega
    · show decT (a / 100) ++ dotT ++ (zT ++ decT (a % 100)) = _
      unfold monT
      rw [show a % 100 = a % 10 by omega, show a / 10 % 10 = 0 by omega, show decT 0 = zT from decT_lt (by omega), ← ByteArray.append_assoc]
  · have s3 := decT_two (n := a % 100) (by omega)
    refine E.neg (by omega) (E.bind i2 (E.pos (by show _ + 1 ≤ maxN; simp only [maxN]; omega) (E.pos ?_ (E.now' ?_))))
    · rw [ByteArray.size_append]; show _ + 1 + _ ≤ maxN; simp only [maxN]; omega
    · show decT (a / 100) ++ dotT ++ decT (a % 100) = _
      unfold monT
      rw [decT_ge (n := a % 100) h, show a % 100 / 10 = a / 10 % 10 by omega, show a % 100 % 10 = a % 10 by omega, ← ByteArray.append_assoc]
theorem bytesI_append (a b : ByteArray) : bytesI (a ++ b) = bytesI a ++ bytesI b := by
  unfold bytesI
  rw [ByteArray.data_append]
  simp
theorem bytesI_len (s : ByteArray) : (bytesI s).length = s.size := by unfold bytesI; rw [List.length_map, Array.length_toList]; rfl
theorem bytesI_byte (s : ByteArray) : (bytesI s).all isByte = true := by
  rw [List.all_eq_true]
  intro c hc
  unfold bytesI at hc
  obtain ⟨b, _, rfl⟩ := List.mem_map.1 hc
  have := UInt8.toNat_lt b
  unfold isByte
  rw [Bool.and_eq_true, decide_eq_true_eq, decide_eq_true_eq]
  omega
theorem ofBytes_bytesI (s : ByteArray) : ofBytes (bytesI s) = s := by
  apply ByteArray.ext
  unfold ofBytes bytesI
  simp [Function.comp_def]
theorem write_E {r : List Int} {s : ByteArray} (h : r.length + s.size ≤ 1000000000000) : E (fun k => strings_Builder_WriteString (k 0) (r, s)) ((s.size : Int), false, r ++ bytesI s) := by
  refine E.congr (fun k => ?_) (E.now _)
  show wsRun (r, s) = _
  unfold wsRun
  rw [Nat.ble_eq_true_of_le (by simp only [maxN]; omega)]
  rfl
theorem string_E (s : ByteArray) : E (fun k => strings_Builder_String (k 0) (bytesI s)) s := by
  refine E.congr (fun k => ?_) (E.now _)
  show stRun (bytesI s) = _
  unfold stRun
  rw [bytesI_byte, ofBytes_bytesI]
  rfl
end Go.Proofs.YtpgfkoeodhfkgaaDoorG
end
section
set_option linter.unusedVariables false
namespace Go.Proofs.YtpgfkoeodhfkgaaDoorG
open Go Go.Refl Go.Refl.Math Go.RowKit
abbrev EvT := Int × Int × Int × Int × List Int × Int × Int
def mV (m : Int) : Bool := decide (0 ≤ m ∧ m ≤ 99)
def aV (a : Int) : Bool := decide (0 ≤ a ∧ a ≤ 1000000)
def rV (n d : Int) : Bool := decide (1 ≤ d ∧ d ≤ 1000 ∧ 0 ≤ n ∧ n ≤ d)
theorem mV_iff {m : Int} : mV m = true ↔ 0 ≤ m ∧ m ≤ 99 := decide_eq_true_iff
theorem aV_iff {m : Int} : aV m = true ↔ 0 ≤ m ∧ m ≤ 1000000 := decide_eq_true_iff
theorem rV_iff {n d : Int} : rV n d = true ↔ 1 ≤ d ∧ d ≤ 1000 ∧ 0 ≤ n ∧ n ≤ d := decide_eq_true_iff
def bnT (m : Int) : ByteArray := spT ++ decT m.toNat
def bmT (a : Int) : ByteArray := spT ++ monT a.toNat
def memT : List Int → ByteArray
  | [] => ByteArray.empty
  | m :: ms => bnT m ++ memT ms
def kjoin : ByteArray := { data := #[(106 : UInt8), (111 : UInt8), (105 : UInt8), (110 : UInt8)] }
def ksave : ByteArray := { data := #[(115 : UInt8), (97 : UInt8), (118 : UInt8), (101 : UInt8)] }
def ktake : ByteArray := { data := #[(116 : UInt8), (97 : UInt8), (107 : UInt8), (101 : UInt8)] }
def klend : ByteArray := { data := #[(108 : UInt8), (101 : UInt8), (110 : UInt8), (100 : UInt8)] }
def krepay : ByteArray := { data := #[(114 : UInt8), (101 : UInt8), (112 : UInt8), (97 : UInt8), (121 : UInt8)] }
def kfail : ByteArray := { data := #[(102 : UInt8), (97 : UInt8), (105 : UInt8), (108 : UInt8)] }
def knight : ByteArray := { data := #[(110 : UInt8), (105 : UInt8), (103 : UInt8), (104 : UInt8), (116 : UInt8)] }
def kshare : ByteArray := { data := #[(115 : UInt8), (104 : UInt8), (97 : UInt8), (114 : UInt8), (101 : UInt8)] }
theorem ksave_sp : ({ data := #[(115 : UInt8), (97 : UInt8), (118 : UInt8), (101 : UInt8), (32 : UInt8)] } : ByteArray) = ksave ++ spT := by apply ByteArray.ext; rw [ByteArray.data_append]; rfl
theorem ktake_sp : ({ data := #[(116 : UInt8), (97 : UInt8), (107 : UInt8), (101 : UInt8), (32 : UInt8)] } : ByteArray) = ktake ++ spT := by apply ByteArray.ext; rw [ByteArray.data_append]; rfl
theorem klend_sp : ({ data := #[(108 : UInt8), (101 : UInt8), (110 : UInt8), (100 : UInt8), (32 : UInt8)] } : ByteArray) = klend ++ spT := by apply ByteArray.ext; rw [ByteArray.data_append]; rfl
theorem krepay_sp : ({ data := #[(114 : UInt8), (101 : UInt8), (112 : UInt8), (97 : UInt8), (121 : UInt8), (32 : UInt8)] } : ByteArray) = krepay ++ spT := by apply ByteArray.ext; rw [ByteArray.data_append]; rfl
theorem kfail_sp : ({ data := #[(102 : UInt8), (97 : UInt8), (105 : UInt8), (108 : UInt8), (32 : UInt8)] } : ByteArray) = kfail ++ spT := by apply ByteArray.ext; rw [ByteArray.data_append]; rfl
theorem knight_sp : ({ data := #[(110 : UInt8), (105 : UInt8), (103 : UInt8), (104 : UInt8), (116 : UInt8), (32 : UInt8)] } : ByteArray) = knight ++ spT := by apply ByteArray.ext; rw [ByteArray.data_append]; rfl
def evtT (e : EvT) : ByteArray :=
  if e.1 = 0 then kjoin else if e.1 = 7 then kshare else if e.1 = 6 then (if rV e.2.2.2.2.2.1 e.2.2.2.2.2.2 = true then knight ++ (bnT e.2.2.2.2.2.1 ++ bnT e.2.2.2.2.2.2) else ByteArray.empty)
  else if mV e.2.1 = true then (if e.1 = 5 then kfail ++ bnT e.2.1 else if aV e.2.2.1 = true then
    (if e.1 = 1 then ksave ++ (bnT e.2.1 ++ bmT e.2.2.1) else if e.1 = 2 then ktake ++ (bnT e.2.1 ++ bmT e.2.2.1)
     else if e.1 = 4 then (if aV e.2.2.2.1 = true then krepay ++ (bnT e.2.1 ++ bmT e.2.2.1 ++ bmT e.2.2.2.1) else ByteArray.empty)
     else if e.1 = 3 then (if e.2.2.2.2.1.all mV = true then klend ++ (bnT e.2.1 ++ bmT e.2.2.1 ++ memT e.2.2.2.2.1) else ByteArray.empty) else ByteArray.empty) else ByteArray.empty) else ByteArray.empty
theorem bnT_size' {m : Int} (h : m ≤ 99) : (bnT m).size ≤ 101 := by
  unfold bnT
  rw [ByteArray.size_append, spT_size]
  have := decT_sz m.toNat
  omega
theorem bmT_size {a : Int} (h : a ≤ 1000000) : (bmT a).size ≤ 10005 := by
  unfold bmT
  rw [ByteArray.size_append, spT_size]
  have := monT_size a.toNat
  omega
theorem memT_size : ∀ {l : List Int}, l.all mV = true → (memT l).size ≤ l.length * 101
  | [], _ => by show 0 ≤ _; omega
  | m :: l, h => by
    rw [List.all_cons, Bool.and_eq_true] at h
    have ih := memT_size h.2
    have h1 := bnT_size' (mV_iff.1 h.1).2
    simp only [memT, ByteArray.size_append, List.length_cons]
    omega
theorem specAmt_E (x : Int) : E (fun k => spec_validAmount (k 0) x) (aV x) := E.congr (fun k => spec_validAmount.eq (k 0) x) (E.bind (specInR_E ..) (E.now _))
theorem specRate_E (n d : Int) : E (fun k => spec_validRate (k 0) (n, d)) (rV n d) := by
  refine E.congr (fun k => spec_validRate.eq (k 0) (n, d)) (E.bind (specInR_E ..) (E.ite (fun h => E.bind (specInR_E ..) (E.now' ?_)) (fun h => E.now' ?_)))
  · simp only [decide_eq_true_eq] at h
    unfold rV; rw [decide_eq_decide]; omega
  · simp only [decide_eq_true_eq] at h
    unfold rV; symm; rw [decide_eq_false_iff_not]; omega
theorem specMoney_E {x : Int} (h0 : 0 ≤ x) (h1 : x ≤ 1000000) : E (fun k => spec_money (k 0) x) (monT x.toNat) := by
  obtain ⟨x, rfl⟩ := Int.eq_ofNat_of_zero_le h0
  have e1 : wrap64 (Int.tdiv (x : Int) 100) = ((x / 100 : Nat) : Int) := by rw [Int.tdiv_eq_ediv_of_nonneg (by omega), wrap_id (by omega) (by omega)]; omega
  have e2 : Int.tmod (wrap64 (Int.tdiv (x : Int) 10)) 10 = ((x / 10 % 10 : Nat) : Int) := by rw [Int.tdiv_eq_ediv_of_nonneg (by omega), wrap_id (by omega) (by omega), Int.tmod_eq_emod_of_nonneg (by omega)]; omega
  have e3 : Int.tmod (x : Int) 10 = ((x % 10 : Nat) : Int) := by rw [Int.tmod_eq_emod_of_nonneg (by omega)]; omega
  have s4 := decT_sz (x / 100)
  have s5 := decT_sz (x / 10 % 10)
  have s6 := decT_sz (x % 10)
  have n4 : E (fun k => spec_number (k 0) (wrap64 (Int.tdiv (x : Int) 100))) (decT (x / 100)) := by rw [e1]; exact specNum_E (by omega) (by omega)
  have n5 : E (fun k => spec_number (k 0) (Int.tmod (wrap64 (Int.tdiv (x : Int) 10)) 10)) (decT (x / 10 % 10)) := by rw [e2]; exact specNum_E (by omega) (by omega)
  have n6 : E (fun k => spec_number (k 0) (Int.tmod (x : Int) 10)) (decT (x % 10)) := by rw [e3]; exact specNum_E (by omega) (by omega)
  have q2 : ByteArray.size { data := #[(46 : UInt8)] } = 1 := rfl
  have bd : ∀ n : Nat, n ≤ 100000 → n ≤ maxN := fun n h => by simp only [maxN]; omega
  refine E.congr (fun k => spec_money.eq (k 0) _) ?_
  simp only [ByteArray.size_append, q2]
  refine E.bind n4 (E.pos (bd _ (by omega)) (E.bind n5 (E.pos (bd _ (by omega)) (E.bind n6 (E.pos (bd _ (by omega)) (E.now' ?_))))))
  rfl
theorem specEvt_l27 {a b c d f g : Int} : ∀ (post pre : List Int) (acc : ByteArray), (pre ++ post).length < 1000000000 → acc.size + 200 * post.length ≤ 1000000000000 →
    E (fun k => spec_showEvent.l27 (k 0) (k 1) acc (pre.length : Int) a b c d (pre ++ post) f g) (if post.all mV = true then acc ++ memT post else ByteArray.empty)
  | [], pre, acc, hl, hs => by
    refine E.step 1 (fun v w h1 h2 => by rewrite [h1, h2 0 (by decide)]; exact spec_showEvent.l27_succ ..) ?_
    exact E.neg (by simp) (E.now' (by rw [if_pos (by rfl), memT, ByteArray.append_empty]))
  | m :: post, pre, acc, hl, hs => by
    have hlen : (pre ++ m :: post).length = pre.length + (post.length + 1) := by simp
    have ih := specEvt_l27 (a := a) (b := b) (c := c) (d := d) (f := f) (g := g) post (pre ++ [m])
    rw [show (pre ++ [m]).length = pre.length + 1 from by simp, List.append_assoc] at ih
    rw [List.length_cons] at hs
    have q1 : ByteArray.size { data := #[(32 : UInt8)] } = 1 := rfl
    refine E.step 1 (fun v w h1 h2 => by rewrite [h1, h2 0 (by decide)]; exact spec_showEvent.l27_succ ..) ?_
    simp only [Int.toNat_natCast, getD_mid, ByteArray.size_append, q1]
    rw [wrap_nat (by omega)]
    refine E.pos (by omega) (E.pos (by omega) (E.pos (by omega) (E.bind (specInR_E ..) (E.ite (fun h => E.now' ?_) (fun h => ?_)))))
    · have hm : mV m = false := by unfold mV; rw [decide_eq_false_iff_not]; simp only [Bool.not_eq_true', decide_eq_false_iff_not] at h; exact h
      rw [if_neg (by rw [List.all_cons, hm]; simp)]
      rfl
    · have hm : mV m = true := by unfold mV; simp only [Bool.not_eq_true', decide_eq_false_iff_not, Decidable.not_not] at h; exact decide_eq_true h
      have hm' := mV_iff.1 hm
      have s1 := decT_sz m.toNat
      refine E.pos (by simp only [maxN]; omega) (E.pos (by omega) (E.pos (by omega) (E.bind (specNum_E hm'.1 (by omega)) (E.pos (by simp only [maxN]; omega) ?_))))
      refine E.is (ih (acc ++ spT ++ decT m.toNat) (by simpa using hl) (by simp only [ByteArray.size_append, spT_size]; omega)) ?_
      rw [List.all_cons, hm, Bool.true_and]
      congr 1
      simp only [memT, bnT, ByteArray.append_assoc]
theorem specEvt_E (e : EvT) (hl : e.2.2.2.2.1.length < 1000000000) : E (fun k => spec_showEvent (k 0) e) (evtT e) := by
  obtain ⟨kd, m, a, rest, ms, n, d⟩ := e
  simp only at hl
  have q1 : ByteArray.size { data := #[(32 : UInt8)] } = 1 := rfl
  have bd : ∀ n : Nat, n ≤ 100000 → n ≤ maxN := fun n h => by simp only [maxN]; omega
  have z5 : ∀ a b c d e : UInt8, ByteArray.size { data := #[a, b, c, d, e] } = 5 := fun _ _ _ _ _ => rfl
  have z6 : ∀ a b c d e f : UInt8, ByteArray.size { data := #[a, b, c, d, e, f] } = 6 := fun _ _ _ _ _ _ => rfl
  have s1 := decT_sz m.toNat
  have s2 := monT_size a.toNat
  have s3 := monT_size rest.toNat
  have s4 := decT_sz n.toNat
  have s5 := decT_sz d.toNat
  refine E.congr (fun k => spec_showEvent.eq (k 0) _) ?_
  simp only [ByteArray.size_append, q1, z5, z6]
  unfold evtT
  simp only
  refine E.ite (fun h => E.now' (by rw [if_pos h]; rfl)) (fun h0 => ?_)
  rw [if_neg h0]
  refine E.ite (fun h => E.now' (by rw [if_pos h]; rfl)) (fun h7 => ?_)
  rw [if_neg h7]
  refine E.ite (fun h6 => ?_) (fun h6 => ?_)
  · rw [if_pos h6]
    refine E.bind (specRate_E n d) (E.ite (fun h => ?_) (fun h => E.now' (by rw [if_neg h]; rfl)))
    have hr := rV_iff.1 h
    rw [if_pos h]
    refine E.bind (specNum_E (by omega) (by omega)) (E.pos (bd _ (by omega)) (E.pos (bd _ (by omega)) (E.bind (specNum_E (by omega) (by omega)) (E.pos (bd _ (by omega)) (E.now' ?_)))))
    rw [knight_sp]
    simp only [bnT, ByteArray.append_assoc]
    rfl
  rw [if_neg h6]
  refine E.bind (specInR_E ..) (E.ite (fun h => E.now' ?_) (fun h => ?_))
  · have hm : mV m = false := by unfold mV; rw [decide_eq_false_iff_not]; simp only [Bool.not_eq_true', decide_eq_false_iff_not] at h; exact h
    rw [if_neg (by rw [hm]; simp)]
    rfl
  have hm : mV m = true := by unfold mV; simp only [Bool.not_eq_true', decide_eq_false_iff_not, Decidable.not_not] at h; exact decide_eq_true h
  have hm' := mV_iff.1 hm
  rw [if_pos hm]
  refine E.ite (fun h5 => ?_) (fun h5 => ?_)
  · rw [if_pos h5]
    refine E.bind (specNum_E (by omega) (by omega)) (E.pos (bd _ (by omega)) (E.now' ?_))
    rw [kfail_sp]
    simp only [bnT, ByteArray.append_assoc]
  rw [if_neg h5]
  refine E.bind (specAmt_E a) (E.ite (fun h => E.now' ?_) (fun h => ?_))
  · have ha : aV a = false := by simpa using h
    rw [if_neg (by rw [ha]; simp)]
    rfl
  have ha : aV a = true := by simpa using h
  have ha' := aV_iff.1 ha
  rw [if_pos ha]
  have num := specNum_E (x := m) (by omega) (by omega)
  have mon := specMoney_E ha'.1 ha'.2
  refine E.ite (fun h1 => ?_) (fun h1 => ?_)
  · rw [if_pos h1]
    refine E.bind num (E.pos (bd _ (by omega)) (E.pos (bd _ (by omega)) (E.bind mon (E.pos (bd _ (by omega)) (E.now' ?_)))))
    rw [ksave_sp]
    simp only [bnT, bmT, ByteArray.append_assoc]
    rfl
  rw [if_neg h1]
  refine E.ite (fun h2 => ?_) (fun h2 => ?_)
  · rw [if_pos h2]
    refine E.bind num (E.pos (bd _ (by omega)) (E.pos (bd _ (by omega)) (E.bind mon (E.pos (bd _ (by omega)) (E.now' ?_)))))
    rw [ktake_sp]
    simp only [bnT, bmT, ByteArray.append_assoc]
    rfl
  rw [if_neg h2]
  refine E.ite (fun h4 => ?_) (fun h4 => ?_)
  · rw [if_pos h4]
    refine E.bind (specAmt_E rest) (E.ite (fun h => ?_) (fun h => E.now' (by rw [if_neg h]; rfl)))
    have hb := aV_iff.1 h
    rw [if_pos h]
    refine E.bind num (E.pos (bd _ (by omega)) (E.pos (bd _ (by omega)) (E.bind mon (E.pos (bd _ (by omega)) (E.pos (bd _ (by omega)) (E.bind (specMoney_E hb.1 hb.2) (E.pos (bd _ (by omega)) (E.now' ?_))))))))
    rw [krepay_sp]
    simp only [bnT, bmT, ByteArray.append_assoc]
    rfl
  rw [if_neg h4]
  refine E.ite (fun h3 => ?_) (fun h3 => E.now' (by rw [if_neg h3]; rfl))
  rw [if_pos h3]
  refine E.bind num (E.pos (bd _ (by omega)) (E.pos (bd _ (by omega)) (E.bind mon (E.pos (bd _ (by omega)) ?_))))
  have lp := specEvt_l27 (a := kd) (b := m) (c := a) (d := rest) (f := n) (g := d) ms [] ({ data := #[(108 : UInt8), (101 : UInt8), (110 : UInt8), (100 : UInt8), (32 : UInt8)] } ++ decT m.toNat ++ spT ++ monT a.toNat) (by simpa using hl) (by simp only [ByteArray.size_append, spT_size, z5]; omega)
  refine E.is (E.ren (fun _ => 0) lp) ?_
  rw [klend_sp]
  simp only [bnT, bmT, ByteArray.append_assoc]
end Go.Proofs.YtpgfkoeodhfkgaaDoorG
end
section
set_option linter.unusedVariables false
namespace Go.Proofs.YtpgfkoeodhfkgaaDoorG
open Go Go.Refl Go.Refl.Math Go.RowKit
def itG (x : Int) : ByteArray := ⟨(Go.Lib.itoa x).toArray⟩
theorem itG_nat {x : Int} (h : 0 ≤ x) : itG x = decT x.toNat := by unfold itG decT Go.Lib.itoa; rw [if_neg (by omega)]
theorem decT_pow : ∀ (k u : Nat), u < 10 ^ (k + 1) → (decT u).size ≤ k + 1
  | 0, u, h => by rw [decT_one (by simpa using h)]; exact Nat.le_refl _
  | k + 1, u, h => by
    by_cases h1 : u < 10
    · rw [decT_one h1]; omega
    · have ih := decT_pow k (u / 10) (by rw [Nat.pow_succ] at h; omega)
      rw [decT_ge h1, ByteArray.size_append, decT_one (n := u % 10) (by omega)]
      omega
theorem itG_size {x : Int} (h0 : -9223372036854775808 ≤ x) (h1 : x ≤ 9223372036854775807) : (itG x).size ≤ 30 := by
  by_cases h : 0 ≤ x
  · rw [itG_nat h]
    have := decT_pow 18 x.toNat (by omega)
    omega
  · have h2 := decT_pow 18 x.natAbs (by omega)
    have e : (itG x).size = 1 + (decT x.natAbs).size := by
      unfold itG decT Go.Lib.itoa
      rw [if_pos (by omega)]
      simp [ByteArray.size]
      omega
    omega
theorem itoaG_E {x : Int} (h0 : -9223372036854775808 ≤ x) (h1 : x ≤ 9223372036854775807) : E (fun k => strconv_Itoa (k 0) x) (itG x) := by
  refine E.congr (fun k => ?_) (E.now _)
  show itRun x = _
  unfold itRun
  rw [decide_eq_true (by omega), decide_eq_true (by omega)]
  rfl
theorem members_l3 : ∀ (post pre : List Int) (acc : ByteArray), (pre ++ post).length < 1000000000 → acc.size + 200 * post.length ≤ 900000000000 →
    E (fun k => impl_showMembers.l3 (k 0) (k 1) (pre ++ post) ((pre ++ post).length : Int) (pre.length : Int) (bytesI acc)) (if post.all mV = true then (acc ++ memT post, true) else (ByteArray.empty, false))
  | [], pre, acc, hl, hs => by
    refine E.step 1 (fun v w h1 h2 => by rewrite [h1, h2 0 (by decide)]; exact impl_showMembers.l3_succ ..) ?_
    exact E.neg (by simp) (E.bind (string_E acc) (E.now' (by rw [if_pos (by rfl), memT, ByteArray.append_empty])))
  | m :: post, pre, acc, hl, hs => by
    have hlen : (pre ++ m :: post).length = pre.length + (post.length + 1) := by simp
    have ih := members_l3 post (pre ++ [m]) (acc ++ (spT ++ decT m.toNat)) (by simpa using hl)
    rw [show (pre ++ [m]).length = pre.length + 1 from by simp, List.append_assoc, bytesI_append] at ih
    rw [List.length_cons] at hs
    have q1 : ByteArray.size { data := #[(32 : UInt8)] } = 1 := rfl
    have no : mV m = false → (ByteArray.empty, false) = if (m :: post).all mV = true then (acc ++ memT (m :: post), true) else (ByteArray.empty, false) := fun h => by
      rw [if_neg (by rw [List.all_cons, h]; simp)]
    refine E.step 1 (fun v w h1 h2 => by rewrite [h1, h2 0 (by decide)]; exact impl_showMembers.l3_succ ..) ?_
    simp only [Int.toNat_natCast, getD_mid]
    rw [wrap_nat (by omega)]
    refine E.pos (by omega) (E.pos (by omega) (E.pos (by omega) (E.ite (fun h => E.now' (no (decide_eq_false (by omega)))) (fun h1 => E.ite (fun h => E.now' (no (decide_eq_false (by omega)))) (fun h2 => ?_)))))
    have hm : mV m = true := mV_iff.2 (by omega)
    have s1 := decT_sz m.toNat
    refine E.bind (itoa_E (by omega) (by omega)) (E.pos (by rw [q1]; simp only [maxN]; omega) (E.bind (write_E (by rw [bytesI_len, ByteArray.size_append, q1]; omega)) ?_))
    refine E.is (ih (by simp only [ByteArray.size_append, spT_size]; omega)) ?_
    rw [List.all_cons, hm, Bool.true_and]
    simp only [memT, bnT, ByteArray.append_assoc]
theorem members_E (l : List Int) (hl : l.length < 1000000000) : E (fun k => impl_showMembers (k 0) l) (if l.all mV = true then (memT l, true) else (ByteArray.empty, false)) := by
  refine E.congr (fun k => impl_showMembers.eq (k 0) l) ?_
  have h0 : ByteArray.size ByteArray.empty = 0 := rfl
  have := members_l3 l [] ByteArray.empty (by simpa using hl) (by rw [h0]; omega)
  refine E.is (E.ren (fun _ => 0) this) ?_
  rw [ByteArray.empty_append]
theorem monT_ne (x : Nat) : monT x ≠ { data := #[] } := by
  intro h
  have h1 := congrArg ByteArray.size h
  have h2 : ByteArray.size { data := #[] } = 0 := rfl
  unfold monT at h1
  simp only [ByteArray.size_append, dotT_size, h2] at h1
  omega
theorem money_no {x : Int} (h : aV x = false) : E (fun k => impl_ShowMoney (k 0) x) { data := #[] } := by
  have h' : ¬ (0 ≤ x ∧ x ≤ 1000000) := of_decide_eq_false h
  exact E.congr (fun k => impl_ShowMoney.eq (k 0) x) (E.ite (fun h => E.now _) (fun h1 => E.ite (fun h => E.now _) (fun h2 => absurd ⟨by omega, by omega⟩ h')))
theorem amounts_E (a : Int) : E (fun k => impl_showAmounts (k 0) [a]) (if aV a = true then (bmT a, true) else (ByteArray.empty, false)) := by
  refine E.congr (fun k => impl_showAmounts.eq (k 0) [a]) ?_
  have lp : E (fun k => impl_showAmounts.l3 (k 0) (k 1) { data := #[] } [a] 1 0) (if aV a = true then (bmT a, true) else (ByteArray.empty, false)) := by
    refine E.step 1 (fun v w h1 h2 => by rewrite [h1, h2 0 (by decide)]; exact impl_showAmounts.l3_succ ..) ?_
    refine E.pos (by decide) (E.pos (by decide) (E.pos (by simp) ?_))
    show E (fun k => (impl_ShowMoney (k 0) a).bind _) _
    by_cases h : aV a = true
    · have ha := aV_iff.1 h
      have s1 := monT_size a.toNat
      have q1 : ByteArray.size { data := #[(32 : UInt8)] } = 1 := rfl
      have q0 : ByteArray.size { data := #[] } = 0 := rfl
      rw [if_pos h]
      refine E.bind (showMoney_E ha.1 ha.2) (E.neg (monT_ne _) (E.pos (by rw [q1]; simp only [maxN]; omega) (E.pos (by rw [ByteArray.size_append, q1, q0]; simp only [maxN]; omega) ?_)))
      refine E.step 1 (fun v w h1 h2 => by rewrite [h1, h2 0 (by decide)]; exact impl_showAmounts.l3_succ ..) ?_
      refine E.neg (by rw [wrap_id (by omega) (by omega)]; omega) (E.now' ?_)
      show (ByteArray.empty ++ (spT ++ monT a.toNat), true) = _
      rw [ByteArray.empty_append]; rfl
    · rw [if_neg h]
      exact E.bind (money_no (by simpa using h)) (E.pos rfl (E.now' rfl))
  exact E.ren (fun _ => 0) lp
theorem implRate_E (n d : Int) : E (fun k => impl_ValidRate (k 0) (n, d)) (rV n d) := by
  refine E.congr (fun k => impl_ValidRate.eq (k 0) (n, d)) (E.ite (fun h1 => E.ite (fun h2 => E.ite (fun h3 => E.now' ?_) (fun h3 => E.now' ?_)) (fun h2 => E.now' ?_)) (fun h1 => E.now' ?_))
  · unfold rV; rw [decide_eq_decide]; simp only at h1 h2 h3 ⊢; omega
  all_goals (unfold rV; symm; rw [decide_eq_false_iff_not]; simp only at *; omega)
def memP (l : List Int) : ByteArray × Bool := if l.all mV = true then (memT l, true) else (ByteArray.empty, false)
def amtP (a : Int) : ByteArray × Bool := if aV a = true then (bmT a, true) else (ByteArray.empty, false)
def detP (e : EvT) : ByteArray × Bool :=
  if e.1 = 0 then (ByteArray.empty, true) else if e.1 = 7 then (ByteArray.empty, true) else if e.1 = 6 then (spT ++ itG e.2.2.2.2.2.1 ++ spT ++ itG e.2.2.2.2.2.2, rV e.2.2.2.2.2.1 e.2.2.2.2.2.2)
  else if e.1 = 5 then memP [e.2.1] else if e.1 = 4 then ((memP [e.2.1]).1 ++ (amtP e.2.2.1).1 ++ (amtP e.2.2.2.1).1, (memP [e.2.1]).2 && (amtP e.2.2.1).2 && (amtP e.2.2.2.1).2)
  else if e.1 = 3 then ((memP [e.2.1]).1 ++ (amtP e.2.2.1).1 ++ (memP e.2.2.2.2.1).1, (memP [e.2.1]).2 && (amtP e.2.2.1).2 && (memP e.2.2.2.2.1).2)
  else ((memP [e.2.1]).1 ++ (amtP e.2.2.1).1, (memP [e.2.1]).2 && (amtP e.2.2.1).2)
theorem memP_size (l : List Int) : (memP l).1.size ≤ l.length * 101 := by
  unfold memP
  split
  · rename_i h; exact memT_size h
  · exact Nat.zero_le _
theorem amtP_size (a : Int) : (amtP a).1.size ≤ 10005 := by
  unfold amtP
  split
  · rename_i h; exact bmT_size (aV_iff.1 h).2
  · exact Nat.zero_le _
theorem details_E (e : EvT) (hl : e.2.2.2.2.1.length < 1000000000) (b1 : -9223372036854775808 ≤ e.2.2.2.2.2.1) (b2 : e.2.2.2.2.2.1 ≤ 9223372036854775807) (b3 : -9223372036854775808 ≤ e.2.2.2.2.2.2) (b4 : e.2.2.2.2.2.2 ≤ 9223372036854775807) :
    E (fun k => impl_showDetails (k 0) e) (detP e) := by
  obtain ⟨kd, m, a, rest, ms, n, d⟩ := e
  simp only at hl b1 b2 b3 b4
  have q1 : ByteArray.size { data := #[(32 : UInt8)] } = 1 := rfl
  have bd : ∀ n : Nat, n ≤ 1000000000000 → n ≤ maxN := fun n h => by simp only [maxN]; omega
  have s1 := memP_size [m]
  have s2 := amtP_size a
  have s3 := amtP_size rest
  have s4 := memP_size ms
  have s5 := itG_size b1 b2
  have s6 := itG_size b3 b4
  have mE := members_E [m] (by simp)
  have aE := amounts_E a
  have rE := amounts_E rest
  have lE := members_E ms hl
  rw [List.length_singleton] at s1
  refine E.congr (fun k => impl_showDetails.eq (k 0) _) ?_
  simp only [ByteArray.size_append, q1]
  unfold detP
  simp only
  refine E.ite (fun h0 => E.pos h0 (E.now' (by rw [if_pos h0]; rfl))) (fun h0 => ?_)
  rw [if_neg h0]
  refine E.ite (fun h7 => E.now' (by rw [if_pos h7]; rfl)) (fun h7 => ?_)
  rw [if_neg h7]
  refine E.ite (fun h6 => ?_) (fun h6 => ?_)
  · rw [if_pos h6]
    exact E.bind (itoaG_E b1 b2) (E.pos (bd _ (by omega)) (E.pos (bd _ (by omega)) (E.bind (itoaG_E b3 b4) (E.pos (bd _ (by omega)) (E.bind (implRate_E n d) (E.now' rfl))))))
  rw [if_neg h6]
  refine E.bind mE (E.ite (fun h5 => E.now' (by rw [if_pos h5]; rfl)) (fun h5 => ?_))
  rw [if_neg h5]
  have t1 : (if [m].all mV = true then (memT [m], true) else (ByteArray.empty, false)) = memP [m] := rfl
  have t2 : (if aV a = true then (bmT a, true) else (ByteArray.empty, false)) = amtP a := rfl
  have t3 : (if aV rest = true then (bmT rest, true) else (ByteArray.empty, false)) = amtP rest := rfl
  have t4 : (if ms.all mV = true then (memT ms, true) else (ByteArray.empty, false)) = memP ms := rfl
  rw [t1]
  refine E.bind aE ?_
  rw [t2]
  refine E.ite (fun h4 => ?_) (fun h4 => ?_)
  · rw [if_pos h4]
    refine E.bind rE ?_
    rw [t3]
    refine E.pos (bd _ (by omega)) (E.pos (bd _ (by omega)) (E.ite (fun g1 => E.ite (fun g2 => E.now' ?_) (fun g2 => E.now' ?_)) (fun g1 => E.now' ?_)))
    · rw [g1, g2]; rfl
    · rw [g1, show (amtP a).2 = false by simpa using g2]; rfl
    · rw [show (memP [m]).2 = false by simpa using g1]; rfl
  rw [if_neg h4]
  refine E.ite (fun h3 => ?_) (fun h3 => ?_)
  · rw [if_pos h3]
    refine E.bind lE ?_
    rw [t4]
    refine E.pos (bd _ (by omega)) (E.pos (bd _ (by omega)) (E.ite (fun g1 => E.ite (fun g2 => E.now' ?_) (fun g2 => E.now' ?_)) (fun g1 => E.now' ?_)))
    · rw [g1, g2]; rfl
    · rw [g1, show (amtP a).2 = false by simpa using g2]; rfl
    · rw [show (memP [m]).2 = false by simpa using g1]; rfl
  rw [if_neg h3]
  refine E.pos (bd _ (by omega)) (E.ite (fun g1 => E.now' ?_) (fun g1 => E.now' ?_))
  · rw [g1]; rfl
  · rw [show (memP [m]).2 = false by simpa using g1]; rfl
theorem detP_size (e : EvT) (hl : e.2.2.2.2.1.length < 1000000000) (b1 : -9223372036854775808 ≤ e.2.2.2.2.2.1) (b2 : e.2.2.2.2.2.1 ≤ 9223372036854775807) (b3 : -9223372036854775808 ≤ e.2.2.2.2.2.2) (b4 : e.2.2.2.2.2.2 ≤ 9223372036854775807) : (detP e).1.size ≤ 200000000000 := by
  have s1 := memP_size [e.2.1]
  have s2 := amtP_size e.2.2.1
  have s3 := amtP_size e.2.2.2.1
  have s4 := memP_size e.2.2.2.2.1
  have s5 := itG_size b1 b2
  have s6 := itG_size b3 b4
  rw [List.length_singleton] at s1
  have h0 : ByteArray.size ByteArray.empty = 0 := rfl
  unfold detP
  (repeat' split) <;> (try simp only [ByteArray.size_append, spT_size, h0]) <;> omega
def kindN (k : Nat) : ByteArray := List.getD [kjoin, ksave, ktake, klend, krepay, kfail, knight, kshare] k ByteArray.empty
theorem evt_of (e : EvT) (h0 : 0 ≤ e.1) (h7 : e.1 ≤ 7) : (if (detP e).2 = true then kindN e.1.toNat ++ (detP e).1 else ByteArray.empty) = evtT e := by
  obtain ⟨kd, m, a, rest, ms, n, d⟩ := e
  simp only at h0 h7
  have hm : memP [m] = if mV m = true then (bnT m, true) else (ByteArray.empty, false) := by
    unfold memP
    simp only [List.all_cons, List.all_nil, Bool.and_true, memT, ByteArray.append_empty]
  have : kd = 0 ∨ kd = 1 ∨ kd = 2 ∨ kd = 3 ∨ kd = 4 ∨ kd = 5 ∨ kd = 6 ∨ kd = 7 := by omega
  rcases this with rfl | rfl | rfl | rfl | rfl | rfl | rfl | rfl
  · show kjoin ++ ByteArray.empty = kjoin
    rw [ByteArray.append_empty]
  · show (if ((memP [m]).2 && (amtP a).2) = true then ksave ++ ((memP [m]).1 ++ (amtP a).1) else ByteArray.empty) = if mV m = true then (if aV a = true then ksave ++ (bnT m ++ bmT a) else ByteArray.empty) else ByteArray.empty
    rw [hm]; unfold amtP
    cases mV m <;> cases aV a <;> rfl
  · show (if ((memP [m]).2 && (amtP a).2) = true then ktake ++ ((memP [m]).1 ++ (amtP a).1) else ByteArray.empty) = if mV m = true then (if aV a = true then ktake ++ (bnT m ++ bmT a) else ByteArray.empty) else ByteArray.empty
    rw [hm]; unfold amtP
    cases mV m <;> cases aV a <;> rfl
  · show (if ((memP [m]).2 && (amtP a).2 && (memP ms).2) = true then klend ++ ((memP [m]).1 ++ (amtP a).1 ++ (memP ms).1) else ByteArray.empty) = if mV m = true then (if aV a = true then (if ms.all mV = true then klend ++ (bnT m ++ bmT a ++ memT ms) else ByteArray.empty) else ByteArray.empty) else ByteArray.empty
    rw [hm]; unfold amtP memP
    cases mV m <;> cases aV a <;> cases ms.all mV <;> rfl
  · show (if ((memP [m]).2 && (amtP a).2 && (amtP rest).2) = true then krepay ++ ((memP [m]).1 ++ (amtP a).1 ++ (amtP rest).1) else ByteArray.empty) = if mV m = true then (if aV a = true then (if aV rest = true then krepay ++ (bnT m ++ bmT a ++ bmT rest) else ByteArray.empty) else ByteArray.empty) else ByteArray.empty
    rw [hm]; unfold amtP
    cases mV m <;> cases aV a <;> cases aV rest <;> rfl
  · show (if (memP [m]).2 = true then kfail ++ (memP [m]).1 else ByteArray.empty) = if mV m = true then kfail ++ bnT m else ByteArray.empty
    rw [hm]
    cases mV m <;> rfl
  · show (if rV n d = true then knight ++ (spT ++ itG n ++ spT ++ itG d) else ByteArray.empty) = if rV n d = true then knight ++ (bnT n ++ bnT d) else ByteArray.empty
    by_cases h : rV n d = true
    · have hr := rV_iff.1 h
      rw [if_pos h, if_pos h, itG_nat (by omega), itG_nat (by omega)]
      simp only [bnT, ByteArray.append_assoc]
    · rw [if_neg h, if_neg h]
  · show kshare ++ ByteArray.empty = kshare
    rw [ByteArray.append_empty]
theorem evt_out (e : EvT) (h : e.1 < 0 ∨ 7 < e.1) : ByteArray.empty = evtT e := by
  have n0 : ¬ e.1 = 0 := by omega
  have n1 : ¬ e.1 = 1 := by omega
  have n2 : ¬ e.1 = 2 := by omega
  have n3 : ¬ e.1 = 3 := by omega
  have n4 : ¬ e.1 = 4 := by omega
  have n5 : ¬ e.1 = 5 := by omega
  have n6 : ¬ e.1 = 6 := by omega
  have n7 : ¬ e.1 = 7 := by omega
  unfold evtT
  rw [if_neg n0, if_neg n7, if_neg n6, if_neg n5, if_neg n1, if_neg n2, if_neg n4, if_neg n3]
  simp
theorem kindN_size : ∀ i, i < 8 → (kindN i).size ≤ 5 := by
  intro i hi
  have : i = 0 ∨ i = 1 ∨ i = 2 ∨ i = 3 ∨ i = 4 ∨ i = 5 ∨ i = 6 ∨ i = 7 := by omega
  rcases this with rfl | rfl | rfl | rfl | rfl | rfl | rfl | rfl <;> decide
theorem implEvt_E (e : EvT) (hl : e.2.2.2.2.1.length < 1000000000) (b1 : -9223372036854775808 ≤ e.2.2.2.2.2.1) (b2 : e.2.2.2.2.2.1 ≤ 9223372036854775807) (b3 : -9223372036854775808 ≤ e.2.2.2.2.2.2) (b4 : e.2.2.2.2.2.2 ≤ 9223372036854775807) :
    E (fun k => impl_FormatEvent (k 0) e) (evtT e) := by
  have dE := details_E e hl b1 b2 b3 b4
  have ds := detP_size e hl b1 b2 b3 b4
  refine E.congr (fun k => impl_FormatEvent.eq (k 0) e) (E.ite (fun h => E.now' (evt_out e (.inl h))) (fun h0 => E.ite (fun h => E.now' (evt_out e (.inr (by omega)))) (fun h7 => E.bind dE (E.ite (fun h => E.now' ?_) (fun h => ?_)))))
  · rw [← evt_of e (by omega) (by omega), if_neg (by simpa using h)]; rfl
  · have kn := kindN_size e.1.toNat (by omega)
    refine E.pos (by omega) (E.pos (by omega) (E.pos ?_ (E.now' ?_)))
    · show (kindN e.1.toNat).size + (detP e).1.size ≤ maxN
      simp only [maxN]; omega
    · show kindN e.1.toNat ++ (detP e).1 = evtT e
      rw [← evt_of e (by omega) (by omega), if_pos (by simpa using h)]
end Go.Proofs.YtpgfkoeodhfkgaaDoorG
end
section
set_option linter.unusedVariables false
namespace Go.Proofs.YtpgfkoeodhfkgaaDoorG
open Go Go.Refl Go.Refl.Math Go.RowKit
theorem szI_E (l : List Int) (left : Int) (h1 : -9223372036854775808 ≤ left - (l.length : Int)) (h2 : left ≤ 9000000000000000000) : E (fun k => laws_szIntS (k 0) (l, left)) (if left - (l.length : Int) < 0 then -1 else left - (l.length : Int)) := by
  refine E.congr (fun k => laws_szIntS.eq (k 0) l left) ?_
  rw [wrap_id (x := left - (l.length : Int)) (by omega) (by omega)]
  refine E.ite (fun h => E.now' (by rw [if_pos h])) (fun h => E.now' (by rw [if_neg h]))
theorem szEvt_E (e : EvT) (left : Int) (h1 : -9223372036854775808 ≤ left - (e.2.2.2.2.1.length : Int)) (h2 : left ≤ 9000000000000000000) : E (fun k => laws_szEvent (k 0) (e, left)) (if left - (e.2.2.2.2.1.length : Int) < 0 then -1 else left - (e.2.2.2.2.1.length : Int)) := by
  refine E.congr (fun k => laws_szEvent.eq (k 0) e left) (E.bind (szI_E _ left h1 h2) (E.ite (fun h => E.now' ?_) (fun h => E.now _)))
  by_cases q : left - (e.2.2.2.2.1.length : Int) < 0
  · rw [if_pos q]
  · rw [if_neg q] at h; exact absurd h q
theorem toI_l3 : ∀ (post pre : List Int) (m : Nat), post.length = m → (pre ++ post).length < 1000000000 →
    E (fun k => laws_toIntS.l3 (k 0) (k 1) (pre ++ post) (pre.length : Int) (pre ++ List.replicate m 0)) (pre ++ post)
  | [], pre, m, hm, hl => by
    have hm0 : m = 0 := by simpa using hm.symm
    subst hm0
    refine E.step 1 (fun v w h1 h2 => by rewrite [h1, h2 0 (by decide)]; exact laws_toIntS.l3_succ ..) ?_
    exact E.neg (by simp) (E.now' (by simp))
  | x :: post, pre, 0, hm, hl => by simp at hm
  | x :: post, pre, m + 1, hm, hl => by
    have hlen : (pre ++ x :: post).length = pre.length + (post.length + 1) := by simp
    have ih := toI_l3 post (pre ++ [x]) m (by simpa using hm) (by simpa using hl)
    rw [show (pre ++ [x]).length = pre.length + 1 from by simp, List.append_assoc] at ih
    have hlr : (pre ++ List.replicate (m + 1) (0 : Int)).length = pre.length + (m + 1) := by simp
    have hset : (pre ++ List.replicate (m + 1) (0 : Int)).set pre.length x = (pre ++ [x]) ++ List.replicate m 0 := by rw [List.replicate_succ]; simp
    refine E.step 1 (fun v w h1 h2 => by rewrite [h1, h2 0 (by decide)]; exact laws_toIntS.l3_succ ..) ?_
    simp only [Int.toNat_natCast, getD_mid]
    rw [wrap_nat (by omega)]
    exact E.pos (by omega) (E.pos (by omega) (E.pos (by omega) (E.pos (by omega) (E.pos (by omega) (by rw [hset]; simpa using ih)))))
theorem toI_E (l : List Int) (hl : l.length < 1000000000) : E (fun k => laws_toIntS (k 0) l) l := by
  have := toI_l3 l [] l.length rfl (by simpa using hl)
  refine E.congr (fun k => laws_toIntS.eq (k 0) l) (E.pos (by omega) (E.pos (by omega) (E.pos (by simp [maxN]; omega) ?_)))
  rw [Int.toNat_natCast]
  exact E.ren (fun _ => 0) this
theorem toEvt_E (e : EvT) (hl : e.2.2.2.2.1.length < 1000000000) : E (fun k => laws_toEvent (k 0) e) e :=
  E.congr (fun k => laws_toEvent.eq (k 0) e) (E.bind (toI_E _ hl) (E.bind (E.congr (fun k => laws_toRate.eq (k 0) _) (E.now _)) (E.now' rfl)))
theorem eqI_l4 : ∀ (post pre : List Int), (pre ++ post).length < 1000000000 →
    E (fun k => laws_eqIntS.l4 (k 0) (k 1) (pre ++ post) (pre ++ post) (pre.length : Int)) true
  | [], pre, hl => by
    refine E.step 1 (fun v w h1 h2 => by rewrite [h1, h2 0 (by decide)]; exact laws_eqIntS.l4_succ ..) ?_
    exact E.neg (by simp) (E.now _)
  | x :: post, pre, hl => by
    have hlen : (pre ++ x :: post).length = pre.length + (post.length + 1) := by simp
    have ih := eqI_l4 post (pre ++ [x]) (by simpa using hl)
    rw [show (pre ++ [x]).length = pre.length + 1 from by simp, List.append_assoc] at ih
    refine E.step 1 (fun v w h1 h2 => by rewrite [h1, h2 0 (by decide)]; exact laws_eqIntS.l4_succ ..) ?_
    simp only [Int.toNat_natCast, getD_mid]
    rw [wrap_nat (by omega)]
    exact E.pos (by omega) (E.pos (by omega) (E.pos (by omega) (E.pos (by omega) (E.pos (by omega) (E.pos trivial ih)))))
theorem eqI_E (l : List Int) (hl : l.length < 1000000000) : E (fun k => laws_eqIntS (k 0) (l, l)) true :=
  E.congr (fun k => laws_eqIntS.eq (k 0) l l) (E.pos rfl (E.ren (fun _ => 0) (eqI_l4 l [] (by simpa using hl))))
theorem eqRate_E (n d : Int) : E (fun k => laws_eqRate (k 0) ((n, d), (n, d))) true :=
  E.congr (fun k => laws_eqRate.eq (k 0) (n, d) (n, d)) (E.pos (by first | exact rfl | trivial) (E.pos (by first | exact rfl | trivial) (E.now _)))
theorem eqEvt_E (e : EvT) (hl : e.2.2.2.2.1.length < 1000000000) : E (fun k => laws_eqEvent (k 0) (e, e)) true := by
  refine E.congr (fun k => laws_eqEvent.eq (k 0) e e) ?_
  refine E.pos (by first | exact rfl | trivial) (E.pos (by first | exact rfl | trivial) (E.pos (by first | exact rfl | trivial) (E.pos (by first | exact rfl | trivial) (E.bind (eqI_E _ hl) (E.neg (by decide) (E.bind (eqRate_E _ _) (E.neg (by decide) (E.now _))))))))
theorem i64_of {x : Int} (h : WfT (.int .i64) x) : -9223372036854775808 ≤ x ∧ x ≤ 9223372036854775807 := by
  have h' : (Lit.int .i64 x).wf = true := h
  simp only [Lit.wf, Bool.and_eq_true, decide_eq_true_eq] at h'
  have e1 : IntKind.i64.min = -9223372036854775808 := rfl
  have e2 : IntKind.i64.max = 9223372036854775807 := rfl
  omega
end Go.Proofs.YtpgfkoeodhfkgaaDoorG
end
section
set_option linter.unusedVariables false
namespace Go.Proofs.YtpgfkoeodhfkgaaDoorG
open Go Go.Refl Go.Refl.Math Go.RowKit
abbrev zEv : EvT := (0, 0, 0, 0, [], 0, 0)
def okEv (e : EvT) : Prop := e.2.2.2.2.1.length ≤ 1048576 ∧ (-9223372036854775808 ≤ e.2.2.2.2.2.1 ∧ e.2.2.2.2.2.1 ≤ 9223372036854775807) ∧ (-9223372036854775808 ≤ e.2.2.2.2.2.2 ∧ e.2.2.2.2.2.2 ≤ 9223372036854775807)
theorem detP_sz {e : EvT} (h : okEv e) : (detP e).1.size ≤ 200000000 := by
  have s1 := memP_size [e.2.1]
  have s2 := amtP_size e.2.2.1
  have s3 := amtP_size e.2.2.2.1
  have s4 := memP_size e.2.2.2.2.1
  have s5 := itG_size h.2.1.1 h.2.1.2
  have s6 := itG_size h.2.2.1 h.2.2.2
  have hl := h.1
  rw [List.length_singleton] at s1
  have h0 : ByteArray.size ByteArray.empty = 0 := rfl
  unfold detP
  (repeat' split) <;> (try simp only [ByteArray.size_append, spT_size, h0]) <;> omega
theorem evtT_sz {e : EvT} (h : okEv e) : (evtT e).size ≤ 300000000 := by
  by_cases q : 0 ≤ e.1 ∧ e.1 ≤ 7
  · have h1 := detP_sz h
    have kn := kindN_size e.1.toNat (by omega)
    rw [← evt_of e q.1 q.2]
    split
    · rw [ByteArray.size_append]; omega
    · exact Nat.zero_le _
  · rw [← evt_out e (by omega)]; exact Nat.zero_le _
def linT : List EvT → ByteArray
  | [] => ByteArray.empty
  | e :: es => evtT e ++ nlT ++ linT es
def bokT (l : List EvT) : Bool := l.all fun e => !decide (evtT e = { data := #[] })
theorem specBook_l5 : ∀ (post pre : List EvT) (acc : ByteArray), (∀ e ∈ post, okEv e) → (pre ++ post).length ≤ 30 → acc.size ≤ 400000000 * pre.length →
    E (fun k => spec_FormatBook.l5 (k 0) (k 1) (pre ++ post) acc (pre.length : Int)) (if bokT post = true then acc ++ linT post else ByteArray.empty)
  | [], pre, acc, _, hl, _ => by
    refine E.step 1 (fun v w h1 h2 => by rewrite [h1, h2 0 (by decide)]; exact spec_FormatBook.l5_succ ..) ?_
    exact E.neg (by simp) (E.now' (by rw [if_pos (by rfl), linT, ByteArray.append_empty]))
  | e :: post, pre, acc, hv, hl, hs => by
    have hlen : (pre ++ e :: post).length = pre.length + (post.length + 1) := by simp
    have he := hv e (List.mem_cons_self ..)
    have h1 := evtT_sz he
    have sp := specEvt_E e (by have := he.1; omega)
    have ih := specBook_l5 post (pre ++ [e]) (acc ++ evtT e ++ nlT) (fun x hx => hv x (List.mem_cons_of_mem _ hx)) (by simpa using hl) (by simp only [ByteArray.size_append, nlT_size, List.length_append, List.length_singleton]; omega)
    rw [show (pre ++ [e]).length = pre.length + 1 from by simp, List.append_assoc] at ih
    have q1 : ByteArray.size { data := #[(10 : UInt8)] } = 1 := rfl
    refine E.step 1 (fun v w h1 h2 => by rewrite [h1, h2 0 (by decide)]; exact spec_FormatBook.l5_succ ..) ?_
    simp only [Int.toNat_natCast, getD_mid, ByteArray.size_append, q1]
    rw [wrap_nat (by omega)]
    refine E.pos (by omega) (E.pos (by omega) (E.pos (by omega) (E.bind sp (E.ite (fun h => E.now' ?_) (fun h => ?_)))))
    · rw [if_neg (by unfold bokT; rw [List.all_cons, decide_eq_true h]; simp)]; rfl
    · refine E.pos (by omega) (E.pos (by omega) (E.bind sp (E.pos (by simp only [maxN]; omega) (E.pos (by simp only [maxN]; omega) ?_))))
      refine E.is ih ?_
      have hb : bokT (e :: post) = bokT post := by unfold bokT; rw [List.all_cons, decide_eq_false h]; simp
      rw [hb, linT]
      congr 1
      simp only [ByteArray.append_assoc]
theorem implBook_l5 : ∀ (post pre : List EvT) (acc : ByteArray), (∀ e ∈ post, okEv e) → (pre ++ post).length ≤ 30 → acc.size ≤ 400000000 * pre.length →
    E (fun k => impl_FormatBook.l5 (k 0) (k 1) (pre ++ post) ((pre ++ post).length : Int) (pre.length : Int) (bytesI acc)) (if bokT post = true then acc ++ linT post else ByteArray.empty)
  | [], pre, acc, _, hl, _ => by
    refine E.step 1 (fun v w h1 h2 => by rewrite [h1, h2 0 (by decide)]; exact impl_FormatBook.l5_succ ..) ?_
    exact E.neg (by simp) (E.bind (string_E acc) (E.now' (by rw [if_pos (by rfl), linT, ByteArray.append_empty])))
  | e :: post, pre, acc, hv, hl, hs => by
    have hlen : (pre ++ e :: post).length = pre.length + (post.length + 1) := by simp
    have he := hv e (List.mem_cons_self ..)
    have h1 := evtT_sz he
    have im := implEvt_E e (by have := he.1; omega) he.2.1.1 he.2.1.2 he.2.2.1 he.2.2.2
    have ih := implBook_l5 post (pre ++ [e]) (acc ++ (evtT e ++ nlT)) (fun x hx => hv x (List.mem_cons_of_mem _ hx)) (by simpa using hl) (by simp only [ByteArray.size_append, nlT_size, List.length_append, List.length_singleton]; omega)
    rw [show (pre ++ [e]).length = pre.length + 1 from by simp, List.append_assoc, bytesI_append] at ih
    have q1 : ByteArray.size { data := #[(10 : UInt8)] } = 1 := rfl
    refine E.step 1 (fun v w h1 h2 => by rewrite [h1, h2 0 (by decide)]; exact impl_FormatBook.l5_succ ..) ?_
    simp only [Int.toNat_natCast, getD_mid]
    rw [wrap_nat (by omega)]
    refine E.pos (by omega) (E.pos (by omega) (E.pos (by omega) (E.bind im (E.ite (fun h => E.now' ?_) (fun h => ?_)))))
    · rw [if_neg (by unfold bokT; rw [List.all_cons, decide_eq_true h]; simp)]; rfl
    · refine E.pos (by rw [q1]; simp only [maxN]; omega) (E.bind (write_E (by rw [bytesI_len, ByteArray.size_append, q1]; omega)) ?_)
      refine E.is ih ?_
      have hb : bokT (e :: post) = bokT post := by unfold bokT; rw [List.all_cons, decide_eq_false h]; simp
      rw [hb, linT]
      congr 1
      simp only [ByteArray.append_assoc]
def booK (l : List EvT) : ByteArray := if l.length ≤ 30 then (if bokT l = true then linT l else ByteArray.empty) else ByteArray.empty
theorem specBook_E (l : List EvT) (hv : ∀ e ∈ l, okEv e) : E (fun k => spec_FormatBook (k 0) l) (booK l) := by
  refine E.congr (fun k => spec_FormatBook.eq (k 0) l) (E.ite (fun h => E.now' ?_) (fun h => ?_))
  · unfold booK; rw [if_neg (by omega)]; rfl
  · have h0 : ByteArray.size ByteArray.empty = 0 := rfl
    refine E.is (E.ren (fun _ => 0) (specBook_l5 l [] ByteArray.empty hv (by simp; omega) (by rw [h0]; exact Nat.zero_le _))) ?_
    unfold booK
    rw [if_pos (show l.length ≤ 30 by omega), ByteArray.empty_append]
theorem implBook_E (l : List EvT) (hv : ∀ e ∈ l, okEv e) : E (fun k => impl_FormatBook (k 0) l) (booK l) := by
  refine E.congr (fun k => impl_FormatBook.eq (k 0) l) (E.ite (fun h => E.now' ?_) (fun h => ?_))
  · unfold booK; rw [if_neg (by omega)]; rfl
  · have h0 : ByteArray.size ByteArray.empty = 0 := rfl
    refine E.is (E.ren (fun _ => 0) (implBook_l5 l [] ByteArray.empty hv (by simp; omega) (by rw [h0]; exact Nat.zero_le _))) ?_
    unfold booK
    rw [if_pos (show l.length ≤ 30 by omega), ByteArray.empty_append]
theorem szEvts_l5 : ∀ (post pre : List EvT) (left : Int), (pre ++ post).length < 1000000000 → 0 ≤ left → left ≤ 1048576 → (∀ e ∈ post, (e.2.2.2.2.1.length : Int) ≤ 9223372036854775807) →
    ∃ r, E (fun k => laws_szEventS.l5 (k 0) (k 1) (pre ++ post) left (pre.length : Int)) r ∧ (0 ≤ r → ∀ e ∈ post, e.2.2.2.2.1.length ≤ 1048576)
  | [], pre, left, hl, h0, h1, hw => by
    refine ⟨left, ?_, fun _ e he => by cases he⟩
    refine E.step 1 (fun v w h1 h2 => by rewrite [h1, h2 0 (by decide)]; exact laws_szEventS.l5_succ ..) ?_
    exact E.neg (by simp) (E.now _)
  | e :: post, pre, left, hl, h0, h1, hw => by
    have hlen : (pre ++ e :: post).length = pre.length + (post.length + 1) := by simp
    have he := hw e (List.mem_cons_self ..)
    have sz := szEvt_E e left (by omega) (by omega)
    by_cases q : left - (e.2.2.2.2.1.length : Int) < 0
    · rw [if_pos q] at sz
      refine ⟨-1, ?_, fun h => by omega⟩
      refine E.step 1 (fun v w h1 h2 => by rewrite [h1, h2 0 (by decide)]; exact laws_szEventS.l5_succ ..) ?_
      simp only [Int.toNat_natCast, getD_mid]
      exact E.pos (by omega) (E.pos (by omega) (E.pos (by omega) (E.bind sz (E.pos (by decide) (E.now _)))))
    · rw [if_neg q] at sz
      obtain ⟨r, hr, hb⟩ := szEvts_l5 post (pre ++ [e]) (left - (e.2.2.2.2.1.length : Int)) (by simpa using hl) (by omega) (by omega) (fun x hx => hw x (List.mem_cons_of_mem _ hx))
      rw [show (pre ++ [e]).length = pre.length + 1 from by simp, List.append_assoc] at hr
      refine ⟨r, ?_, fun h x hx => ?_⟩
      · refine E.step 1 (fun v w h1 h2 => by rewrite [h1, h2 0 (by decide)]; exact laws_szEventS.l5_succ ..) ?_
        simp only [Int.toNat_natCast, getD_mid]
        rw [wrap_nat (by omega)]
        exact E.pos (by omega) (E.pos (by omega) (E.pos (by omega) (E.bind sz (E.neg q hr))))
      · rcases List.mem_cons.1 hx with rfl | hx
        · omega
        · exact hb h x hx
theorem szEvts_E (l : List EvT) (hl : (l.length : Int) ≤ 9223372036854775807) (hw : ∀ e ∈ l, (e.2.2.2.2.1.length : Int) ≤ 9223372036854775807) :
    ∃ r, E (fun k => laws_szEventS (k 0) (l, 1048576)) r ∧ (0 ≤ r → l.length ≤ 1048576 ∧ ∀ e ∈ l, e.2.2.2.2.1.length ≤ 1048576) := by
  have w : wrap64 (1048576 - (l.length : Int)) = 1048576 - (l.length : Int) := wrap_id (by omega) (by omega)
  by_cases q : 1048576 - (l.length : Int) < 0
  · refine ⟨-1, E.congr (fun k => laws_szEventS.eq (k 0) l 1048576) ?_, fun h => by omega⟩
    rw [w]
    exact E.pos q (E.now _)
  · obtain ⟨r, hr, hb⟩ := szEvts_l5 l [] (1048576 - (l.length : Int)) (by simp; omega) (by omega) (by omega) hw
    refine ⟨r, E.congr (fun k => laws_szEventS.eq (k 0) l 1048576) ?_, fun h => ⟨by omega, hb h⟩⟩
    rw [w]
    exact E.neg q (E.ren (fun _ => 0) hr)
theorem toEvts_l3 : ∀ (post pre : List EvT) (m : Nat), post.length = m → (pre ++ post).length < 1000000000 → (∀ e ∈ post, e.2.2.2.2.1.length < 1000000000) →
    E (fun k => laws_toEventS.l3 (k 0) (k 1) (pre ++ post) (pre.length : Int) (pre ++ List.replicate m zEv)) (pre ++ post)
  | [], pre, m, hm, hl, _ => by
    have hm0 : m = 0 := by simpa using hm.symm
    subst hm0
    refine E.step 1 (fun v w h1 h2 => by rewrite [h1, h2 0 (by decide)]; exact laws_toEventS.l3_succ ..) ?_
    exact E.neg (by simp) (E.now' (by simp))
  | x :: post, pre, 0, hm, hl, _ => by simp at hm
  | x :: post, pre, m + 1, hm, hl, hv => by
    have hlen : (pre ++ x :: post).length = pre.length + (post.length + 1) := by simp
    have ih := toEvts_l3 post (pre ++ [x]) m (by simpa using hm) (by simpa using hl) (fun y hy => hv y (List.mem_cons_of_mem _ hy))
    rw [show (pre ++ [x]).length = pre.length + 1 from by simp, List.append_assoc] at ih
    have hlr : (pre ++ List.replicate (m + 1) zEv).length = pre.length + (m + 1) := by simp
    have hset : (pre ++ List.replicate (m + 1) zEv).set pre.length x = (pre ++ [x]) ++ List.replicate m zEv := by rw [List.replicate_succ]; simp
    refine E.step 1 (fun v w h1 h2 => by rewrite [h1, h2 0 (by decide)]; exact laws_toEventS.l3_succ ..) ?_
    simp only [Int.toNat_natCast, getD_mid]
    rw [wrap_nat (by omega)]
    exact E.pos (by omega) (E.pos (by omega) (E.pos (by omega) (E.bind (toEvt_E x (hv x (List.mem_cons_self ..))) (E.pos (by omega) (E.pos (by omega) (by rw [hset]; simpa using ih))))))
theorem toEvts_E (l : List EvT) (hl : l.length < 1000000000) (hv : ∀ e ∈ l, e.2.2.2.2.1.length < 1000000000) : E (fun k => laws_toEventS (k 0) l) l := by
  have := toEvts_l3 l [] l.length rfl (by simpa using hl) hv
  refine E.congr (fun k => laws_toEventS.eq (k 0) l) (E.pos (by omega) (E.pos (by omega) (E.pos (by simp [maxN]; omega) ?_)))
  rw [Int.toNat_natCast]
  exact E.ren (fun _ => 0) this
theorem eqEvts_l4 : ∀ (post pre : List EvT), (pre ++ post).length < 1000000000 → (∀ e ∈ post, e.2.2.2.2.1.length < 1000000000) →
    E (fun k => laws_eqEventS.l4 (k 0) (k 1) (pre ++ post) (pre ++ post) (pre.length : Int)) true
  | [], pre, hl, _ => by
    refine E.step 1 (fun v w h1 h2 => by rewrite [h1, h2 0 (by decide)]; exact laws_eqEventS.l4_succ ..) ?_
    exact E.neg (by simp) (E.now _)
  | x :: post, pre, hl, hv => by
    have hlen : (pre ++ x :: post).length = pre.length + (post.length + 1) := by simp
    have ih := eqEvts_l4 post (pre ++ [x]) (by simpa using hl) (fun y hy => hv y (List.mem_cons_of_mem _ hy))
    rw [show (pre ++ [x]).length = pre.length + 1 from by simp, List.append_assoc] at ih
    refine E.step 1 (fun v w h1 h2 => by rewrite [h1, h2 0 (by decide)]; exact laws_eqEventS.l4_succ ..) ?_
    simp only [Int.toNat_natCast, getD_mid]
    rw [wrap_nat (by omega)]
    exact E.pos (by omega) (E.pos (by omega) (E.pos (by omega) (E.pos (by omega) (E.pos (by omega) (E.bind (eqEvt_E x (hv x (List.mem_cons_self ..))) (E.neg (by decide) ih))))))
theorem eqEvts_E (l : List EvT) (hl : l.length < 1000000000) (hv : ∀ e ∈ l, e.2.2.2.2.1.length < 1000000000) : E (fun k => laws_eqEventS (k 0) (l, l)) true :=
  E.congr (fun k => laws_eqEventS.eq (k 0) l l) (E.pos (by first | exact rfl | trivial) (E.ren (fun _ => 0) (eqEvts_l4 l [] (by simpa using hl) hv)))
theorem FnExactFormatBook_pure (l : List EvT) (hw : WfT (.slice (.pair (.int .i64) (.pair (.int .i64) (.pair (.int .i64) (.pair (.int .i64) (.pair (.slice (.int .i64)) (.pair (.int .i64) (.int .i64)))))))) l) : ∃ n, laws_FnExactFormatBook n l = some true := by
  have hml := hw.1
  have hm63 : (l.length : Int) ≤ 9223372036854775807 := by unfold maxLen at hml; omega
  have hme : ∀ e ∈ l, (e.2.2.2.2.1.length : Int) ≤ 9223372036854775807 := fun e he => by
    have := (hw.2 e he).2.2.2.2.1.1
    unfold maxLen at this; omega
  obtain ⟨r, hr, hb⟩ := szEvts_E l hm63 hme
  refine E.one (E.congr (fun k => laws_FnExactFormatBook.eq (k 0) l) (E.bind hr (E.ite (fun h => E.now _) (fun h => ?_))))
  obtain ⟨hl, hv⟩ := hb (by omega)
  have ok : ∀ e ∈ l, okEv e := fun e he => ⟨hv e he, i64_of (hw.2 e he).2.2.2.2.2.1, i64_of (hw.2 e he).2.2.2.2.2.2⟩
  have hv' : ∀ e ∈ l, e.2.2.2.2.1.length < 1000000000 := fun e he => by have := hv e he; omega
  have to := toEvts_E l (by omega) hv'
  have sp := specBook_E l ok
  have im := implBook_E l ok
  have eq := eqEvts_E l (by omega) hv'
  exact E.bind to (E.bind sp (E.bind to (E.bind im (E.pos (by first | exact rfl | trivial) (E.bind to (E.bind eq (E.neg (by decide) (E.now _))))))))
end Go.Proofs.YtpgfkoeodhfkgaaDoorG
end
