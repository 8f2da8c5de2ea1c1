-- printed by pp.py, a program of this session's own, out of the translation; not the kit's print
-- halved
import Derived.Test.YtifohlgdkdcpeaaPFnExactMostLoanx0
import Derived.Test.YtifohlgdkdcpeaaPFnExactMostLoanx3
import Derived.Test.YtifohlgdkdcpeaaPFnExactMostLoanx4
namespace Go.Proofs.Ytifohlgdkdcpeaa.PFnExactMostLoan
open Go.RowKit Go.Proofs.YtifohlgdkdcpeaaW.PrintWords Go.Proofs.YtifohlgdkdcpeaaW.PrintLast Go.Proofs.YtifohlgdkdcpeaaW.PrintMore
attribute [local go_sem] max2_int min2_int max_two min_two max_three min_three max_four min_four   -- for this text's walks alone
set_option linter.unusedVariables false
set_option linter.unusedSimpArgs false

/-! ### impl_SafeLoans: function 25 -/
def impl_SafeLoans.f (k : Nat) (l0 : List Int) (l1 : List (S42)) : Option (Bool) := (impl_FreeStakes.f k l0 l1).bind fun t178 => (if (t178.length : Int) > 0 then ((slices_Min_int_int.f k t178).bind fun t181 => (some (decide (t181 ≥ 0)))) else (some false))
theorem impl_SafeLoans.mono : ∀ a0 a1 k, LeO (impl_SafeLoans.f k a0 a1) (impl_SafeLoans.f (k + 1) a0 a1) := by
 intro a0 a1 k
 unfold impl_SafeLoans.f
 repeat' first
   | (with_reducible exact impl_FreeStakes.mono _ _ _)
   | (with_reducible exact slices_Min_int_int.mono _ _)
   | (with_reducible exact LeO.refl _)
   | (with_reducible exact LeO.none _)
   | (with_reducible refine LeO.ite ?_ ?_)
   | (with_reducible refine LeO.bind ?_ (fun _ => ?_))
   | exact impl_FreeStakes.mono _ _ _
   | exact slices_Min_int_int.mono _ _
   | exact LeO.none _
   | refine LeO.ite ?_ ?_
   | refine LeO.bind ?_ (fun _ => ?_)
set_option maxHeartbeats 8000000 in
set_option maxRecDepth 100000 in
theorem impl_SafeLoans.calls (k : Nat) (A0 : Option Addr) (c0 : Nat) (l0 : List Int) (A1 : Option Addr) (c1 : Nat) (l1 : List (S42)) (r : Bool) (w : World) (hr0 : Kd.C (Kd.int .i64) w A0 l0.length l0) (hc0 : l0.length ≤ c0) (hr1 : Kd.C k42 w A1 l1.length l1) (hc1 : l1.length ≤ c1) (h : impl_SafeLoans.f k l0 l1 = some r) :
  Calls Try.prog 25 #[.slice A0 l0.length c0, .slice A1 l1.length c1] w fun e w' => e = .returned (.bool r) ∧ Below w.heap.size w w' := by
 have HR0 := Ad.mk hr0
 have HC0 := Ad.mk hc0
 clear hr0 hc0
 have HR1 := Ad.mk hr1
 have HC1 := Ad.mk hc1
 clear hr1 hc1
 have HB := Ad.mk (Below.refl w.heap.size w)
 have H : ((impl_FreeStakes.f k l0 l1).bind fun t178 => (if (t178.length : Int) > 0 then ((slices_Min_int_int.f k t178).bind fun t181 => (some (decide (t181 ≥ 0)))) else (some false))) = some r := h
 clear h
 replace H := Option.bind_eq_some_iff.mp H
 obtain ⟨t178, A30, H⟩ := H
 replace H : (if (t178.length : Int) > 0 then ((slices_Min_int_int.f k t178).bind fun t181 => (some (decide (t181 ≥ 0)))) else (some false)) = some r := H
 have A3 := Ad.mk A30
 clear A30
 by_cases c4 : (t178.length : Int) > 0
 ·rw [if_pos c4] at H
  have c4b0 : decide (0 < (t178.length : Int)) = true := decide_eq_true c4
  have c4b1 : decide (0 < t178.length) = true := decide_eq_true (by omega)
  clear c4
  replace H := Option.bind_eq_some_iff.mp H
  obtain ⟨t181, A50, H⟩ := H
  replace H : (some (decide (t181 ≥ 0))) = some r := H
  have A5 := Ad.mk A50
  clear A50
  obtain rfl := Option.some.inj H
  go_enter Try.func25, Try.ntmps25
  go_wp2_with (first | ((with_reducible refine qa4 (f := 63) rfl ?_); refine goesL_ (some 8) rfl rfl Try.func63 (by kernel_rfl) rfl #[.slice A0 l0.length c0, .slice A1 l1.length c1] rfl (by (try simp only [List.map_toArray, List.map_cons, List.map_nil]); first | done | rfl | (simp only [List.length_drop, List.length_take]; rfl)) ?_; (with_reducible refine (impl_FreeStakes.calls k _ _ l0 _ _ l1 t178 _ ?side1 ?side2 ?side3 ?side4 A3.out).mono ?_); (case side1 => repeat (first | exact HR0.out | (with_reducible refine Kd.C_alloc ?_ _) | (with_reducible refine Kd.C_drewN ?_ _) | (with_reducible refine Kd.C_drew ?_))); (case side2 => exact HC0.out); (case side3 => repeat (first | exact HR1.out | (with_reducible refine Kd.C_alloc ?_ _) | (with_reducible refine Kd.C_drewN ?_ _) | (with_reducible refine Kd.C_drew ?_))); (case side4 => exact HC1.out); rintro e w6 ⟨v179, rfl, ho0, hb⟩; refine ⟨_, rfl, ?_⟩; have n0_ := Ad.mk (Kd.R_lower ho0 (qa0 (by repeat (first | (with_reducible first | exact HB.out | apply bwa | apply bwN | apply bw1) | exact HB.out)))); have n1_ := Ad.mk (qa2 (by repeat (first | (with_reducible first | exact HB.out | apply bwa | apply bwN | apply bw1) | exact HB.out)) hb); clear HB; have HO180 := n0_; have HB := n1_; clear n0_ n1_; (try clear hb); (try clear hb2); (try clear hk); (try clear hi); (try clear ho0); obtain ⟨Ao7, co7, eo7⟩ := Kd.R_slice HO180.out; subst eo7) | (go_at_call 64; (with_reducible refine (slices_Min_int_int.calls k _ _ t178 t181 _ ?side1 ?side2 A5.out).mono ?_); (case side1 => repeat (first | exact (Kd.R_reads' HO180.out).2.2 | (with_reducible refine Kd.C_alloc ?_ _) | (with_reducible refine Kd.C_drewN ?_ _) | (with_reducible refine Kd.C_drew ?_))); (case side2 => exact (Kd.R_reads' HO180.out).2.1); rintro e w8 ⟨rfl, hb⟩; have n0_ := Ad.mk (Kd.R_below (by (with_reducible repeat (first | apply Kd.R_alloc | apply Kd.R_drewN | apply Kd.R_drew)); exact HO180.out) hb); have n1_ := Ad.mk (qa2 (by repeat (first | (with_reducible first | exact HB.out | apply bwa | apply bwN | apply bw1) | exact HB.out)) hb); clear HO180; clear HB; have HO180 := n0_; have HB := n1_; clear n0_ n1_; (try clear hb); (try clear hb2); (try clear hk); (try clear hi)))
  go_ret
  exact ⟨by first | rfl | (simp [errW_none, errW_some] <;> rfl) | (simp [*, errW_none, errW_some] <;> rfl), by repeat (first | (with_reducible first | exact HB.out | apply bwa | apply bwN | apply bw1) | exact HB.out)⟩
 ·rw [if_neg c4] at H
  have c4b0 : decide (0 < (t178.length : Int)) = false := decide_eq_false c4
  have c4b1 : decide (0 < t178.length) = false := decide_eq_false (by omega)
  clear c4
  obtain rfl := Option.some.inj H
  go_enter Try.func25, Try.ntmps25
  go_wp2_with (first | ((with_reducible refine qa4 (f := 63) rfl ?_); refine goesL_ (some 8) rfl rfl Try.func63 (by kernel_rfl) rfl #[.slice A0 l0.length c0, .slice A1 l1.length c1] rfl (by (try simp only [List.map_toArray, List.map_cons, List.map_nil]); first | done | rfl | (simp only [List.length_drop, List.length_take]; rfl)) ?_; (with_reducible refine (impl_FreeStakes.calls k _ _ l0 _ _ l1 t178 _ ?side1 ?side2 ?side3 ?side4 A3.out).mono ?_); (case side1 => repeat (first | exact HR0.out | (with_reducible refine Kd.C_alloc ?_ _) | (with_reducible refine Kd.C_drewN ?_ _) | (with_reducible refine Kd.C_drew ?_))); (case side2 => exact HC0.out); (case side3 => repeat (first | exact HR1.out | (with_reducible refine Kd.C_alloc ?_ _) | (with_reducible refine Kd.C_drewN ?_ _) | (with_reducible refine Kd.C_drew ?_))); (case side4 => exact HC1.out); rintro e w9 ⟨v179, rfl, ho0, hb⟩; refine ⟨_, rfl, ?_⟩; have n0_ := Ad.mk (Kd.R_lower ho0 (qa0 (by repeat (first | (with_reducible first | exact HB.out | apply bwa | apply bwN | apply bw1) | exact HB.out)))); have n1_ := Ad.mk (qa2 (by repeat (first | (with_reducible first | exact HB.out | apply bwa | apply bwN | apply bw1) | exact HB.out)) hb); clear HB; have HO180 := n0_; have HB := n1_; clear n0_ n1_; (try clear hb); (try clear hb2); (try clear hk); (try clear hi); (try clear ho0); obtain ⟨Ao10, co10, eo10⟩ := Kd.R_slice HO180.out; subst eo10))
  go_ret
  exact ⟨by first | rfl | (simp [errW_none, errW_some] <;> rfl) | (simp [*, errW_none, errW_some] <;> rfl), by repeat (first | (with_reducible first | exact HB.out | apply bwa | apply bwN | apply bw1) | exact HB.out)⟩

/-! ### impl_Loan: function 60 -/
def impl_Loan.f (l0 : List (S42)) : Option ((List (S42))) := (some (([] : List (S42)) : List (S42))).bind fun y182 => (if y182.length + l0.length < 3518437208883 then (some (y182 ++ l0)) else (none))
set_option maxHeartbeats 8000000 in
set_option maxRecDepth 100000 in
theorem impl_Loan.calls (P0_ : Nat → Prop) (A0 : Option Addr) (c0 : Nat) (l0 : List (S42)) (r : List (S42)) (w : World) (hs0 : Kd.V k42 42 w w.heap.size (fun k_ => P0_ k_) (.slice A0 l0.length c0) l0) (h : impl_Loan.f l0 = some r) :
  Calls Try.prog 60 #[.slice A0 l0.length c0] w fun e w' => ∃ v0_ : Value, e = .returned (v0_) ∧ Kd.N k42 42 w' w.heap.size (fun k_ => (P0_ k_ ∨ w.heap.size ≤ k_)) v0_ r ∧ Below w.heap.size w w' := by
 have HO0 := Ad.mk (show Kd.V k42 42 w w.heap.size (fun k_ => (P0_ k_ ∨ w.heap.size ≤ k_)) (.slice A0 l0.length c0) l0 from Kd.V_mono hs0 (fun k_ hk => .inl hk))
 have HB := Ad.mk (Below.refl w.heap.size w)
 have H : ((some (([] : List (S42)) : List (S42))).bind fun y182 => (if y182.length + l0.length < 3518437208883 then (some (y182 ++ l0)) else (none))) = some r := h
 clear h
 rcases hA_ : A0 with _ | ad_
 ·have hz_ : l0 = [] := List.eq_nil_of_length_eq_zero (by have h0_ := (Kd.V_reads' HO0.out).2.2; rw [hA_] at h0_; rcases Nat.eq_zero_or_pos l0.length with h1_ | h1_; exact h1_; obtain ⟨a_, h2_, _⟩ := h0_.2.2 h1_; cases h2_)
  subst hA_
  subst hz_
  have hnil_ : ∀ (W : World), (binOp BinOp.eql 34 (.slice none 0 c0) (.slice none 0 0)).run Try.prog W = .ok (.bool true) W := fun W => by rfl
  have H1 : (some ([] : List (S42))) = some r := by simpa using H
  clear H
  have H := H1
  clear H1
  obtain rfl := Option.some.inj H
  go_enter Try.func60, Try.ntmps60
  go_wp2
  go_ret
  exact ⟨_, by first | rfl | (simp [errW_none, errW_some] <;> rfl) | (simp [*, errW_none, errW_some] <;> rfl), by first | exact Kd.S_nil _ _ _ _ _ | exact Kd.N_nil _ _ _ _ _ | exact Kd.V_nil _ _ _ _ _ | exact Kd.Q_nil _ _ _ _ _ | exact Kd.R_nil _ _ _ _ _, by repeat (first | (with_reducible first | exact HB.out | apply bwa | apply bwN | apply bw1) | exact HB.out)⟩
 ·subst hA_
  have hnil_ : ∀ (W : World), (binOp BinOp.eql 34 (.slice (some ad_) l0.length c0) (.slice none 0 0)).run Try.prog W = .ok (.bool false) W := fun W => by rfl
  obtain ⟨y182, hy182⟩ : ∃ y_ : List (S42), y_ = (([] : List (S42))) := ⟨_, rfl⟩
  replace H : (if y182.length + l0.length < 3518437208883 then (some (y182 ++ l0)) else (none)) = some r := by first | (rw [hy182]; with_reducible exact H) | (have H2_ := (Option.bind_some _ _).symm.trans H; rw [hy182]; with_reducible exact H2_) | (have H2_ := (Option.bind_some _ _).symm.trans H; with_reducible exact H2_) | with_reducible exact H | (rw [hy182]; exact H) | exact H
  have Ny182 := Ad.mk hy182
  clear hy182
  by_cases c2 : y182.length + l0.length < 3518437208883
  ·rw [if_pos c2] at H
   have LMc2 := Ad.mk c2
   clear c2
   obtain ⟨y185, hy185⟩ : ∃ y_ : List (S42), y_ = (y182 ++ l0) := ⟨_, rfl⟩
   replace H : (some y185) = some r := by first | (rw [hy185]; with_reducible exact H) | (have H2_ := (Option.bind_some _ _).symm.trans H; rw [hy185]; with_reducible exact H2_) | (have H2_ := (Option.bind_some _ _).symm.trans H; with_reducible exact H2_) | with_reducible exact H | (rw [hy185]; exact H) | exact H
   have Ny185 := Ad.mk hy185
   clear hy185
   obtain rfl := Option.some.inj H
   go_enter Try.func60, Try.ntmps60
   go_wp2_with (first | ((with_reducible refine gate_dst (N := 5) rfl ?_); refine Kd.N_lit k42 _ 42 ?hg (N' := 5) ?hd (xs := ([] : List (S42))) (inner := []) (ok := (fun k_ => (P0_ k_ ∨ w.heap.size ≤ k_))) (okp := (fun k_ => (P0_ k_ ∨ w.heap.size ≤ k_))) ?hr ?hp (fun _ hk => hk) ((show ∀ k_, w.heap.size ≤ k_ → (fun k_ => (P0_ k_ ∨ w.heap.size ≤ k_)) k_ from fun k_ hk => (.inr (Nat.le_trans (qa0 (by repeat (first | (with_reducible first | exact HB.out | apply bwa | apply bwN | apply bw1) | exact HB.out))) hk))) _ (Nat.le_refl _)) (Below.refl _ _) (Nat.le_refl _) (by simp) ?_; (case hd => rfl); (case hg => rfl); (case hr => first | (go_simp; done) | (go_simp; rfl)); (case hp => exact (Reps.none _ _)); intro v183 w3 ho4 hb hg_ hnew_; clear hg_ hnew_; (first | rw [← Ny182.out] at ho4 | (simp only [Int.reduceToNat] at ho4; rw [← Ny182.out] at ho4)); have n0_ := Ad.mk (Kd.V_elder' (by (with_reducible repeat (first | apply Kd.V_alloc | apply Kd.V_drewN | apply Kd.V_drew)); exact HO0.out) (Kd.N_base ho4) hb); have n1_ := Ad.mk (Kd.N_lower ho4 (qa0 (by repeat (first | (with_reducible first | exact HB.out | apply bwa | apply bwN | apply bw1) | exact HB.out)))); have n2_ := Ad.mk (qa2 (by repeat (first | (with_reducible first | exact HB.out | apply bwa | apply bwN | apply bw1) | exact HB.out)) hb); clear HO0; clear HB; have HO0 := n0_; have HO184 := n1_; have HB := n2_; clear n0_ n1_ n2_; clear hb ho4) | ((with_reducible refine gate_builtin (b := .append) (xs := #[.tmp 5, .tmp 6]) rfl ?_); at_builtin; refine Kd.N_append_rows k42 (w0 := w) w.heap.size rfl (.tmp 5) (.tmp 6) 34 42 (.agg #[(.int .i64 0), (.int .i64 0), (.slice none 0 0)]) 40 rfl Try.underlying34 info42 rfl (by decide) (by omega) v183 y182 l0 _ _ _ (fun k_ => (P0_ k_ ∨ w.heap.size ≤ k_)) (fun k_ => ((fun k_ => (P0_ k_ ∨ w.heap.size ≤ k_))) k_ ∧ some k_ ≠ (v183 : Value).ownBlock) rfl rfl ?aO ?aR (fun _ hk => hk) ?aF ?aB ?aS ?aL ?_; (case aR => exact (by skip; exact Kd.V_F (Kd.V_mono (ok' := (fun k_ => ((fun k_ => (P0_ k_ ∨ w.heap.size ≤ k_))) k_ ∧ some k_ ≠ (v183 : Value).ownBlock)) (HO0.out) (fun k_ hk => ⟨hk.1, hk.2⟩)))); (case aB => exact (by repeat (first | (with_reducible first | exact HB.out | apply bwa | apply bwN | apply bw1) | exact HB.out))); (case aF => exact (fun k_ hk => (.inr (Nat.le_trans (qa0 (by repeat (first | (with_reducible first | exact HB.out | apply bwa | apply bwN | apply bw1) | exact HB.out))) hk)))); (case aO => exact (by (with_reducible repeat (first | apply Kd.N_alloc | apply Kd.N_drewN | apply Kd.N_drew)); exact HO184.out)); (case aS => exact (qa0 (by repeat (first | (with_reducible first | exact HB.out | apply bwa | apply bwN | apply bw1) | exact HB.out)))); (case aL => have := LMc2.out; omega); intro v186 w5 ho hb hg hat; rw [← Ny185.out] at ho; have n0_ := Ad.mk (Kd.V_afterv (ok := (fun k_ => (P0_ k_ ∨ w.heap.size ≤ k_))) (by (with_reducible repeat (first | apply Kd.V_alloc | apply Kd.V_drewN | apply Kd.V_drew)); exact HO0.out) hg hat); have n1_ := Ad.mk (hb); have n2_ := Ad.mk (ho); clear HO0; clear HB; clear HO184; have HO0 := n0_; have HB := n1_; have HO187 := n2_; clear n0_ n1_ n2_; clear ho hb hg hat))
   go_ret
   exact ⟨_, by first | rfl | (simp [errW_none, errW_some] <;> rfl) | (simp [*, errW_none, errW_some] <;> rfl), by (with_reducible repeat (first | apply Kd.N_alloc | apply Kd.N_drewN | apply Kd.N_drew)); exact HO187.out, by repeat (first | (with_reducible first | exact HB.out | apply bwa | apply bwN | apply bw1) | exact HB.out)⟩
  ·rw [if_neg c2] at H
   exact absurd H (by simp)

/-! ### impl_MostLoan: function 23 -/
def impl_MostLoan.l0 : Nat → List Int → List (S42) → List (S42) → Int → Int → Option (Int)
 | 0, _, _, _, _, _ => none
 | k + 1, x0, x1, x7, x8, x9 => if x8 < x9 then (if 0 ≤ (x1.length : Int) then (if (x1.length : Int) < (x7.length : Int) then ((some (x7.set ((x1.length : Int) : Int).toNat (⟨(rd_T42 x7 (x1.length : Int)).f0, wrap64 (Int.tdiv (wrap64 ((wrap64 (x8 + x9)) + 1)) 2), (rd_T42 x7 (x1.length : Int)).f2⟩ : S42) : List (S42))).bind fun y200 => ((impl_SafeLoans.f k x0 y200).bind fun t201 => (if t201 = true then (impl_MostLoan.l0 k x0 x1 y200 (wrap64 (Int.tdiv (wrap64 ((wrap64 (x8 + x9)) + 1)) 2)) x9) else (impl_MostLoan.l0 k x0 x1 y200 x8 (wrap64 ((wrap64 (Int.tdiv (wrap64 ((wrap64 (x8 + x9)) + 1)) 2)) - 1)))))) else (none)) else (none)) else (some x8)
def impl_MostLoan.f (k : Nat) (l0 : List Int) (l1 : List (S42)) (a2_0 : Int) (a2_1 : Int) (l2_2 : List Int) : Option (Int) := (impl_SafeLoans.f k l0 l1).bind fun t189 => (if t189 = true then ((impl_Loan.f l1).bind fun t190 => ((some (([(⟨a2_0, 1, l2_2⟩ : S42)] : List (S42)) : List (S42))).bind fun y193 => (if t190.length + y193.length < 3518437208883 then ((some (t190 ++ y193 : List (S42))).bind fun y196 => ((impl_ValidLoans.f k y196 (l0.length : Int)).bind fun t199 => (if t199 = true then (impl_MostLoan.l0 k l0 l1 y196 0 100000) else (some (-1))))) else (none)))) else (some (-1)))
theorem impl_MostLoan.mono_l : ∀ k, (∀ y0 y1 y2 y3 y4, LeO (impl_MostLoan.l0 k y0 y1 y2 y3 y4) (impl_MostLoan.l0 (k + 1) y0 y1 y2 y3 y4))
 | 0 => fun _ _ _ _ _ r h => by simp [impl_MostLoan.l0] at h
 | k + 1 => by
  have ih0 := impl_MostLoan.mono_l k
  ·intro y0 y1 y2 y3 y4
   unfold impl_MostLoan.l0
   repeat' first
   | (with_reducible exact ih0 _ _ _ _ _)
   | (with_reducible exact impl_SafeLoans.mono _ _ _)
   | (with_reducible exact impl_ValidLoans.mono _ _ _)
   | (with_reducible exact LeO.refl _)
   | (with_reducible exact LeO.none _)
   | (with_reducible refine LeO.ite ?_ ?_)
   | (with_reducible refine LeO.bind ?_ (fun _ => ?_))
   | exact ih0 _ _ _ _ _
   | exact impl_SafeLoans.mono _ _ _
   | exact impl_ValidLoans.mono _ _ _
   | exact LeO.none _
   | refine LeO.ite ?_ ?_
   | refine LeO.bind ?_ (fun _ => ?_)
theorem impl_MostLoan.mono : ∀ a0 a1 a2 a3 a4 k, LeO (impl_MostLoan.f k a0 a1 a2 a3 a4) (impl_MostLoan.f (k + 1) a0 a1 a2 a3 a4) := by
 intro a0 a1 a2 a3 a4 k
 have ih0 := impl_MostLoan.mono_l k
 unfold impl_MostLoan.f
 repeat' first
   | (with_reducible exact ih0 _ _ _ _ _)
   | (with_reducible exact impl_SafeLoans.mono _ _ _)
   | (with_reducible exact impl_ValidLoans.mono _ _ _)
   | (with_reducible exact LeO.refl _)
   | (with_reducible exact LeO.none _)
   | (with_reducible refine LeO.ite ?_ ?_)
   | (with_reducible refine LeO.bind ?_ (fun _ => ?_))
   | exact ih0 _ _ _ _ _
   | exact impl_SafeLoans.mono _ _ _
   | exact impl_ValidLoans.mono _ _ _
   | exact LeO.none _
   | refine LeO.ite ?_ ?_
   | refine LeO.bind ?_ (fun _ => ?_)
set_option maxHeartbeats 8000000 in
set_option maxRecDepth 100000 in
theorem impl_MostLoan.calls (k : Nat) (A0 : Option Addr) (c0 : Nat) (l0 : List Int) (P1_ : Nat → Prop) (A1 : Option Addr) (c1 : Nat) (l1 : List (S42)) (a2_0 : Int) (a2_1 : Int) (P2_2_ : Nat → Prop) (A2_2 : Option Addr) (c2_2 : Nat) (l2_2 : List Int) (r : Int) (w : World) (hr0 : Kd.C (Kd.int .i64) w A0 l0.length l0) (hc0 : l0.length ≤ c0) (hs1 : Kd.V k42 42 w w.heap.size (fun k_ => P1_ k_) (.slice A1 l1.length c1) l1) (hs2_2 : Kd.V (Kd.int .i64) 3 w w.heap.size (fun k_ => P2_2_ k_) (.slice A2_2 l2_2.length c2_2) l2_2) (h : impl_MostLoan.f k l0 l1 a2_0 a2_1 l2_2 = some r) :
  Calls Try.prog 23 #[.slice A0 l0.length c0, .slice A1 l1.length c1, .agg #[.int .i64 a2_0, .int .i64 a2_1, .slice A2_2 l2_2.length c2_2]] w fun e w' => e = .returned (.int .i64 r) ∧ Below w.heap.size w w' := by
 have hu42 := Try.underlying42
 have HR0 := Ad.mk hr0
 have HC0 := Ad.mk hc0
 clear hr0 hc0
 have HO1 := Ad.mk (show Kd.V k42 42 w w.heap.size (fun k_ => ((P1_ k_ ∨ P2_2_ k_) ∨ w.heap.size ≤ k_)) (.slice A1 l1.length c1) l1 from Kd.V_mono hs1 (fun k_ hk => .inl (.inl hk)))
 have HO2_2 := Ad.mk (show Kd.V (Kd.int .i64) 3 w w.heap.size (fun k_ => ((P1_ k_ ∨ P2_2_ k_) ∨ w.heap.size ≤ k_)) (.slice A2_2 l2_2.length c2_2) l2_2 from Kd.V_mono hs2_2 (fun k_ hk => .inl (.inr hk)))
 have HB := Ad.mk (Below.refl w.heap.size w)
 have H : ((impl_SafeLoans.f k l0 l1).bind fun t189 => (if t189 = true then ((impl_Loan.f l1).bind fun t190 => ((some (([(⟨a2_0, 1, l2_2⟩ : S42)] : List (S42)) : List (S42))).bind fun y193 => (if t190.length + y193.length < 3518437208883 then ((some (t190 ++ y193 : List (S42))).bind fun y196 => ((impl_ValidLoans.f k y196 (l0.length : Int)).bind fun t199 => (if t199 = true then (impl_MostLoan.l0 k l0 l1 y196 0 100000) else (some (-1))))) else (none)))) else (some (-1)))) = some r := h
 clear h
 replace H := Option.bind_eq_some_iff.mp H
 obtain ⟨t189, A40, H⟩ := H
 replace H : (if t189 = true then ((impl_Loan.f l1).bind fun t190 => ((some (([(⟨a2_0, 1, l2_2⟩ : S42)] : List (S42)) : List (S42))).bind fun y193 => (if t190.length + y193.length < 3518437208883 then ((some (t190 ++ y193 : List (S42))).bind fun y196 => ((impl_ValidLoans.f k y196 (l0.length : Int)).bind fun t199 => (if t199 = true then (impl_MostLoan.l0 k l0 l1 y196 0 100000) else (some (-1))))) else (none)))) else (some (-1))) = some r := H
 have A4 := Ad.mk A40
 clear A40
 by_cases c5 : t189 = true
 ·subst c5
  have H1 : ((impl_Loan.f l1).bind fun t190 => ((some (([(⟨a2_0, 1, l2_2⟩ : S42)] : List (S42)) : List (S42))).bind fun y193 => (if t190.length + y193.length < 3518437208883 then ((some (t190 ++ y193 : List (S42))).bind fun y196 => ((impl_ValidLoans.f k y196 (l0.length : Int)).bind fun t199 => (if t199 = true then (impl_MostLoan.l0 k l0 l1 y196 0 100000) else (some (-1))))) else (none)))) = some r := by rw [if_pos rfl] at H; exact H
  clear H
  have H := H1
  clear H1
  replace H := Option.bind_eq_some_iff.mp H
  obtain ⟨t190, A60, H⟩ := H
  replace H : ((some (([(⟨a2_0, 1, l2_2⟩ : S42)] : List (S42)) : List (S42))).bind fun y193 => (if t190.length + y193.length < 3518437208883 then ((some (t190 ++ y193 : List (S42))).bind fun y196 => ((impl_ValidLoans.f k y196 (l0.length : Int)).bind fun t199 => (if t199 = true then (impl_MostLoan.l0 k l0 l1 y196 0 100000) else (some (-1))))) else (none))) = some r := H
  have A6 := Ad.mk A60
  clear A60
  obtain ⟨y193, hy193⟩ : ∃ y_ : List (S42), y_ = (([(⟨a2_0, 1, l2_2⟩ : S42)] : List (S42))) := ⟨_, rfl⟩
  replace H : (if t190.length + y193.length < 3518437208883 then ((some (t190 ++ y193 : List (S42))).bind fun y196 => ((impl_ValidLoans.f k y196 (l0.length : Int)).bind fun t199 => (if t199 = true then (impl_MostLoan.l0 k l0 l1 y196 0 100000) else (some (-1))))) else (none)) = some r := by first | (rw [hy193]; with_reducible exact H) | (have H2_ := (Option.bind_some _ _).symm.trans H; rw [hy193]; with_reducible exact H2_) | (have H2_ := (Option.bind_some _ _).symm.trans H; with_reducible exact H2_) | with_reducible exact H | (rw [hy193]; exact H) | exact H
  have Ny193 := Ad.mk hy193
  clear hy193
  by_cases c7 : t190.length + y193.length < 3518437208883
  ·rw [if_pos c7] at H
   have LMc7 := Ad.mk c7
   clear c7
   obtain ⟨y196, hy196⟩ : ∃ y_ : List (S42), y_ = (t190 ++ y193) := ⟨_, rfl⟩
   replace H : ((impl_ValidLoans.f k y196 (l0.length : Int)).bind fun t199 => (if t199 = true then (impl_MostLoan.l0 k l0 l1 y196 0 100000) else (some (-1)))) = some r := by first | (rw [hy196]; with_reducible exact H) | (have H2_ := (Option.bind_some _ _).symm.trans H; rw [hy196]; with_reducible exact H2_) | (have H2_ := (Option.bind_some _ _).symm.trans H; with_reducible exact H2_) | with_reducible exact H | (rw [hy196]; exact H) | exact H
   have Ny196 := Ad.mk hy196
   clear hy196
   replace H := Option.bind_eq_some_iff.mp H
   obtain ⟨t199, A80, H⟩ := H
   replace H : (if t199 = true then (impl_MostLoan.l0 k l0 l1 y196 0 100000) else (some (-1))) = some r := H
   have A8 := Ad.mk A80
   clear A80
   by_cases c9 : t199 = true
   ·subst c9
    have H1 : (impl_MostLoan.l0 k l0 l1 y196 0 100000) = some r := by rw [if_pos rfl] at H; exact H
    clear H
    have H := H1
    clear H1
    have H' := Ad.mk H
    clear H
    go_enter Try.func23, Try.ntmps23
    try go_wp2_with (first | ((with_reducible refine gate_dst (N := 5) rfl ?_); refine box_event ?hg (N := 5) ?hd (cs := #[.int .i64 a2_0, .int .i64 a2_1, .slice A2_2 l2_2.length c2_2]) (t := 42) ?hr ?_; (case hd => rfl); (case hg => rfl); (case hr => first | (go_simp; done) | (go_simp; rfl)); intro gb188 hg w10 hbox hb; have n0_ := Ad.mk (Kd.V_below (Kd.V_elderB (by (with_reducible repeat (first | apply Kd.V_alloc | apply Kd.V_drewN | apply Kd.V_drew)); exact HO1.out) gb188 (Nat.le_of_eq hg.symm)) hb); have n1_ := Ad.mk (Kd.V_below (Kd.V_elderB (by (with_reducible repeat (first | apply Kd.V_alloc | apply Kd.V_drewN | apply Kd.V_drew)); exact HO2_2.out) gb188 (Nat.le_of_eq hg.symm)) hb); have n2_ := Ad.mk (qa2 (by repeat (first | (with_reducible first | exact HB.out | apply bwa | apply bwN | apply bw1) | exact HB.out)) hb); have n3_ := Ad.mk (hbox); have n4_ := Ad.mk ((by rw [hg]; exact (qa0 (by repeat (first | (with_reducible first | exact HB.out | apply bwa | apply bwN | apply bw1) | exact HB.out))) : w.heap.size ≤ gb188)); have n5_ := Ad.mk ((by rw [hg]; exact (qa0 (by repeat (first | (with_reducible first | exact HB.out | apply bwa | apply bwN | apply bw1) | exact HB.out))) : w.heap.size ≤ gb188)); clear HO1; clear HO2_2; clear HB; have HO1 := n0_; have HO2_2 := n1_; have HB := n2_; have BK188 := n3_; have GW188 := n4_; have GE188 := n5_; clear n0_ n1_ n2_ n3_ n4_ n5_; clear hb hbox hg) | ((with_reducible refine qa4 (f := 25) rfl ?_); refine goesL_ (some 13) rfl rfl Try.func25 (by kernel_rfl) rfl #[.slice A0 l0.length c0, .slice A1 l1.length c1] rfl (by (try simp only [List.map_toArray, List.map_cons, List.map_nil]); first | done | rfl | (simp only [List.length_drop, List.length_take]; rfl)) ?_; (with_reducible refine (impl_SafeLoans.calls k _ _ l0 _ _ l1 true _ ?side1 ?side2 ?side3 ?side4 A4.out).mono ?_); (case side1 => repeat (first | exact (Kd.C_below HR0.out HB.out) | (with_reducible refine Kd.C_alloc ?_ _) | (with_reducible refine Kd.C_drewN ?_ _) | (with_reducible refine Kd.C_drew ?_))); (case side2 => exact HC0.out); (case side3 => repeat (first | exact (Kd.V_reads' HO1.out).2.2 | (with_reducible refine Kd.C_alloc ?_ _) | (with_reducible refine Kd.C_drewN ?_ _) | (with_reducible refine Kd.C_drew ?_))); (case side4 => exact (Kd.V_reads' HO1.out).2.1); rintro e w11 ⟨rfl, hb⟩; refine ⟨_, rfl, ?_⟩; have n0_ := Ad.mk (Kd.V_below (by (with_reducible repeat (first | apply Kd.V_alloc | apply Kd.V_drewN | apply Kd.V_drew)); exact HO1.out) hb); have n1_ := Ad.mk (Kd.V_below (by (with_reducible repeat (first | apply Kd.V_alloc | apply Kd.V_drewN | apply Kd.V_drew)); exact HO2_2.out) hb); have n2_ := Ad.mk (qa3 (g := gb188) (o := .cells #[.int .i64 a2_0, .int .i64 a2_1, .slice A2_2 l2_2.length c2_2] 42 (0, 0)) (by (with_reducible repeat (first | refine bkN ?_ _ | refine bkd ?_ | refine bka ?_ _)); exact BK188.out) hb); have n3_ := Ad.mk (qa2 (by repeat (first | (with_reducible first | exact HB.out | apply bwa | apply bwN | apply bw1 | refine bws ?_ GE188.out) | exact HB.out)) hb); clear HO1; clear HO2_2; clear BK188; clear HB; have HO1 := n0_; have HO2_2 := n1_; have BK188 := n2_; have HB := n3_; clear n0_ n1_ n2_ n3_; (try clear hb); (try clear hb2); (try clear hk); (try clear hi); have hcz12_0 : w11.cell? ⟨gb188, 0, none⟩ = some (.int .i64 a2_0) := (bkc BK188.out 0).trans rfl; have hcz12_1 : w11.cell? ⟨gb188, 1, none⟩ = some (.int .i64 a2_1) := (bkc BK188.out 1).trans rfl; have hcz12_2 : w11.cell? ⟨gb188, 2, none⟩ = some (.slice A2_2 l2_2.length c2_2) := (bkc BK188.out 2).trans rfl; have hfz12_0 := qa1 BK188.out 0; have hfz12_1 := qa1 BK188.out 1; have hfz12_2 := qa1 BK188.out 2))
    have n0_ : Ad (Kd.V k42 42 (w11.setCell ⟨gb188, 1, none⟩ (.int .i64 1)) w.heap.size (fun k_ => ((P1_ k_ ∨ P2_2_ k_) ∨ w.heap.size ≤ k_) ∧ k_ ≠ gb188) (.slice A1 l1.length c1) l1) := ⟨by (with_reducible repeat (first | apply Kd.V_alloc | apply Kd.V_drewN | apply Kd.V_drew)); exact Kd.V_mono (Kd.V_far (p := ⟨gb188, 1, none⟩) (Kd.V_mono HO1.out (fun k_ hk => (⟨hk, hk.2⟩ : _ ∧ k_ ≠ gb188))) (fun _ hk => hk.2) (.int .i64 1)) (fun _ hk => ⟨hk.1.1, hk.1.2⟩)⟩
    have n1_ : Ad (Kd.V (Kd.int .i64) 3 (w11.setCell ⟨gb188, 1, none⟩ (.int .i64 1)) w.heap.size (fun k_ => ((P1_ k_ ∨ P2_2_ k_) ∨ w.heap.size ≤ k_) ∧ k_ ≠ gb188) (.slice A2_2 l2_2.length c2_2) l2_2) := ⟨by (with_reducible repeat (first | apply Kd.V_alloc | apply Kd.V_drewN | apply Kd.V_drew)); exact Kd.V_mono (Kd.V_far (p := ⟨gb188, 1, none⟩) (Kd.V_mono HO2_2.out (fun k_ hk => (⟨hk, hk.2⟩ : _ ∧ k_ ≠ gb188))) (fun _ hk => hk.2) (.int .i64 1)) (fun _ hk => ⟨hk.1.1, hk.1.2⟩)⟩
    have n2_ : Ad ((w11.setCell ⟨gb188, 1, none⟩ (.int .i64 1)).heap[gb188]? = some (.cells #[.int .i64 a2_0, .int .i64 1, .slice A2_2 l2_2.length c2_2] 42 (0, 0))) := ⟨by (with_reducible repeat (first | refine bkN ?_ _ | refine bkd ?_ | refine bka ?_ _)); refine blk_put (cs := #[.int .i64 a2_0, .int .i64 a2_1, .slice A2_2 l2_2.length c2_2]) ?_ 1 _ rfl; (with_reducible repeat (first | refine bkN ?_ _ | refine bkd ?_ | refine bka ?_ _)); exact BK188.out⟩
    have n3_ : Ad (Below w.heap.size w (w11.setCell ⟨gb188, 1, none⟩ (.int .i64 1))) := ⟨by repeat (first | (with_reducible first | exact HB.out | apply bwa | apply bwN | apply bw1 | refine bws ?_ GE188.out) | exact HB.out)⟩
    (try clear HO1)
    (try clear HO2_2)
    (try clear BK188)
    (try clear HB)
    generalize (w11.setCell ⟨gb188, 1, none⟩ (.int .i64 1)) = w13 at n0_ n1_ n2_ n3_ ⊢
    have HO1 := n0_
    have HO2_2 := n1_
    have BK188 := n2_
    have HB := n3_
    clear n0_ n1_ n2_ n3_
    have n0_ := Ad.mk (Kd.V_drew HO1.out)
    have n1_ := Ad.mk (Kd.V_drew HO2_2.out)
    have n2_ := Ad.mk (bkd BK188.out)
    have n3_ := Ad.mk (bw1 HB.out)
    clear HO1
    clear HO2_2
    clear BK188
    clear HB
    have HO1 := n0_
    have HO2_2 := n1_
    have BK188 := n2_
    have HB := n3_
    clear n0_ n1_ n2_ n3_
    refine start_ (n := 6) (S := fun w' => w'.cell? ⟨gb188, 0, none⟩ = some (.int .i64 a2_0) ∧ w'.cell? ⟨gb188, 1, none⟩ = some (.int .i64 1) ∧ w'.cell? ⟨gb188, 2, none⟩ = some (.slice A2_2 l2_2.length c2_2)) (ds := []) #[false, false, false, false, false, false] (by kernel_rfl) rfl rfl ⟨(bkc BK188.out 0).trans rfl, (bkc BK188.out 1).trans rfl, (bkc BK188.out 2).trans rfl⟩ (fun hHeld => ?_)
    generalize w13.drew = w14 at HO1 HO2_2 BK188 HB hHeld ⊢
    refine pure_ (i := 0) (N := some 16) (v := ?_) (a' := ?_) #[true, false, false, false, false, false] rfl rfl (by kernel_rfl) (fun _ _ _ h => h) (Or.inl ⟨by rfl, ?_⟩) ?_ ?_
    rotate_left
    ·intro w'
     go_simp
     with_reducible rfl
    rotate_left
    ·simp only [Act.put, List.setIfInBounds_toArray, List.set_cons_zero, List.set_cons_succ, qa5, qa6]
     rfl
    refine take_ (i := 2) (N := some 18) (v := ?_) (a' := ?_) #[true, false, true, false, false, false] rfl rfl (by kernel_rfl) (fun _ _ _ h => h) (Or.inl ⟨by rfl, ?_⟩) hHeld ?_ ?_
    rotate_left
    ·rintro w' ⟨s0, s1, s2⟩
     go_simp
     with_reducible rfl
    rotate_left
    ·simp only [Act.put, List.setIfInBounds_toArray, List.set_cons_zero, List.set_cons_succ, qa5, qa6]
     rfl
    refine join_ (σ := Value × Value) 2 #[true, true, true, true, false, false] (fun s_ => [(17, s_.1), (19, s_.2)]) (fun s_ w' => (w'.cell? ⟨gb188, 0, none⟩ = some (.int .i64 a2_0) ∧ w'.cell? ⟨gb188, 1, none⟩ = some (.int .i64 1) ∧ w'.cell? ⟨gb188, 2, none⟩ = some (.slice A2_2 l2_2.length c2_2)) ∧ (Kd.V k42 42 w' w.heap.size (fun k_ => ((P1_ k_ ∨ P2_2_ k_) ∨ w.heap.size ≤ k_) ∧ some k_ ≠ (s_.1 : Value).ownBlock ∧ some k_ ≠ (s_.2 : Value).ownBlock ∧ k_ ≠ gb188) (.slice A1 l1.length c1) l1) ∧ (Kd.N k42 42 w' w.heap.size (fun k_ => ((P1_ k_ ∨ P2_2_ k_) ∨ w.heap.size ≤ k_) ∧ some k_ ≠ (s_.2 : Value).ownBlock ∧ k_ ≠ gb188) s_.1 t190) ∧ (Kd.N k42 42 w' w.heap.size (fun k_ => ((P1_ k_ ∨ P2_2_ k_) ∨ w.heap.size ≤ k_) ∧ some k_ ≠ (s_.1 : Value).ownBlock ∧ k_ ≠ gb188) s_.2 y193) ∧ (Kd.V (Kd.int .i64) 3 w' w.heap.size (fun k_ => ((P1_ k_ ∨ P2_2_ k_) ∨ w.heap.size ≤ k_) ∧ some k_ ≠ (s_.1 : Value).ownBlock ∧ some k_ ≠ (s_.2 : Value).ownBlock ∧ k_ ≠ gb188) (.slice A2_2 l2_2.length c2_2) l2_2) ∧ (w'.heap[gb188]? = some (.cells #[.int .i64 a2_0, .int .i64 1, .slice A2_2 l2_2.length c2_2] 42 (0, 0))) ∧ (Below w.heap.size w w')) ?_ ?_
    rotate_left
    ·intro hCont
     refine two_ (i := 1) (j := 3) (Ni := some 17) (Nj := some 19) #[true, true, true, false, false, false] #[true, false, true, true, false, false] rfl rfl rfl rfl (by kernel_rfl) (by decide) (by decide) (fun K hK => ?_) (fun K hK => ?_)
     ·skip
      refine goes_ Try.func60 (by kernel_rfl) rfl #[.slice A1 l1.length c1] (by rfl) rfl rfl (by (try simp only [List.map_toArray, List.map_cons, List.map_nil]); first | done | rfl | (simp only [List.length_drop, List.length_take]; rfl)) ?_
      with_reducible refine (impl_Loan.calls (fun k_ => (((P1_ k_ ∨ P2_2_ k_) ∨ w.heap.size ≤ k_) ∧ k_ ≠ gb188)) _ _ l1 t190 _ ?side1 A6.out).mono ?_
      (case side1 => exact HO1.out)
      rintro e w15 ⟨v191, rfl, ho0, hb⟩
      refine ⟨_, rfl, ?_⟩
      have n0_ := Ad.mk (Kd.V_elder' (by (with_reducible repeat (first | apply Kd.V_alloc | apply Kd.V_drewN | apply Kd.V_drew)); exact HO1.out) (Kd.N_base ho0) hb)
      have n1_ := Ad.mk (Kd.V_elder' (by (with_reducible repeat (first | apply Kd.V_alloc | apply Kd.V_drewN | apply Kd.V_drew)); exact HO2_2.out) (Kd.N_base ho0) hb)
      have n2_ := Ad.mk (Kd.N_lower (Kd.N_mono (ok' := fun k_ => ((P1_ k_ ∨ P2_2_ k_) ∨ w.heap.size ≤ k_) ∧ k_ ≠ gb188) ho0 (fun k_ hk_ => ⟨Or.elim hk_ (fun hs_ => hs_.1) (fun hn_ => (.inr (Nat.le_trans (qa0 (by repeat (first | (with_reducible first | exact HB.out | apply bwa | apply bwN | apply bw1 | refine bws ?_ GE188.out) | exact HB.out))) hn_))), Or.elim hk_ (fun hs_ => hs_.2) (fun hn_ => (Kd.freshB (g := gb188) (o := .cells #[.int .i64 a2_0, .int .i64 1, .slice A2_2 l2_2.length c2_2] 42 (0, 0)) (by (with_reducible repeat (first | refine bkN ?_ _ | refine bkd ?_ | refine bka ?_ _)); exact BK188.out) k_ hn_))⟩)) (qa0 (by repeat (first | (with_reducible first | exact HB.out | apply bwa | apply bwN | apply bw1 | refine bws ?_ GE188.out) | exact HB.out))))
      have n3_ := Ad.mk (qa3 (g := gb188) (o := .cells #[.int .i64 a2_0, .int .i64 1, .slice A2_2 l2_2.length c2_2] 42 (0, 0)) (by (with_reducible repeat (first | refine bkN ?_ _ | refine bkd ?_ | refine bka ?_ _)); exact BK188.out) hb)
      have n4_ := Ad.mk (qa2 (by repeat (first | (with_reducible first | exact HB.out | apply bwa | apply bwN | apply bw1 | refine bws ?_ GE188.out) | exact HB.out)) hb)
      clear HO1
      clear HO2_2
      clear BK188
      clear HB
      have HO1 := n0_
      have HO2_2 := n1_
      have HO192 := n2_
      have BK188 := n3_
      have HB := n4_
      clear n0_ n1_ n2_ n3_ n4_
      (try clear hb)
      (try clear hb2)
      (try clear hk)
      (try clear hi)
      (try clear ho0)
      refine hK.out _ _ ⟨(bkc BK188.out 0).trans rfl, (bkc BK188.out 1).trans rfl, (bkc BK188.out 2).trans rfl⟩ (fun hHeld => ?_)
      clear hK K
      refine norm_ (a' := ?_) ?_ ?_
      rotate_left
      ·show Act.put _ (some 17) _ = _
       simp only [Act.put, List.setIfInBounds_toArray, List.set_cons_zero, List.set_cons_succ, qa5, qa6]
       rfl
      refine one_ (i := 3) (N := some 19) #[true, true, true, true, false, false] rfl rfl (by kernel_rfl) (by decide) (fun K hK => ?_)
      refine Kd.N_lit_step k42 _ 42 ?hg (N' := 19) ?hd (xs := ([(⟨a2_0, 1, l2_2⟩ : S42)] : List (S42))) (inner := [.int .i64 a2_0, .int .i64 1, .slice A2_2 l2_2.length c2_2]) (ok := (fun k_ => ((P1_ k_ ∨ P2_2_ k_) ∨ w.heap.size ≤ k_) ∧ some k_ ≠ (v191 : Value).ownBlock ∧ k_ ≠ gb188)) (okp := (fun k_ => ((P1_ k_ ∨ P2_2_ k_) ∨ w.heap.size ≤ k_) ∧ some k_ ≠ (v191 : Value).ownBlock ∧ k_ ≠ gb188)) ?hr ?hp (fun _ hk => hk) ((show ∀ k_, w15.heap.size ≤ k_ → (fun k_ => ((P1_ k_ ∨ P2_2_ k_) ∨ w.heap.size ≤ k_) ∧ some k_ ≠ (v191 : Value).ownBlock ∧ k_ ≠ gb188) k_ from fun k_ hk => ⟨(.inr (Nat.le_trans (qa0 (by repeat (first | (with_reducible first | exact HB.out | apply bwa | apply bwN | apply bw1 | refine bws ?_ GE188.out) | exact HB.out))) hk)), Kd.fresh' (Kd.N_lt (by (with_reducible repeat (first | apply Kd.N_alloc | apply Kd.N_drewN | apply Kd.N_drew)); exact HO192.out)) k_ hk, Kd.freshB (g := gb188) (o := .cells #[.int .i64 a2_0, .int .i64 1, .slice A2_2 l2_2.length c2_2] 42 (0, 0)) (by (with_reducible repeat (first | refine bkN ?_ _ | refine bkd ?_ | refine bka ?_ _)); exact BK188.out) k_ hk⟩) _ (Nat.le_refl _)) (Below.refl _ _) (Nat.le_refl _) (by simp) ?_; (case hd => rfl); (case hg => rfl); (case hr => first | (go_simp; done) | (go_simp; rfl)); (case hp => exact (Reps.c3 (show Kd.FK k42 _ _ (⟨a2_0, 1, l2_2⟩ : S42) [.int .i64 a2_0, .int .i64 1, .slice A2_2 l2_2.length c2_2] from (k42_mkF _ _ (⟨a2_0, 1, l2_2⟩ : S42) (Kd.V_reads' (have z_ := HO2_2.out; Kd.V_mono (ok' := (fun k_ => ((P1_ k_ ∨ P2_2_ k_) ∨ w.heap.size ≤ k_) ∧ some k_ ≠ (v191 : Value).ownBlock ∧ k_ ≠ gb188)) z_ (fun k_ hk => ⟨hk.1.1, ⟨hk.2, hk.1.2⟩⟩))).2.1 (Kd.V_F (have z_ := HO2_2.out; Kd.V_mono (ok' := (fun k_ => ((P1_ k_ ∨ P2_2_ k_) ∨ w.heap.size ≤ k_) ∧ some k_ ≠ (v191 : Value).ownBlock ∧ k_ ≠ gb188)) z_ (fun k_ hk => ⟨hk.1.1, ⟨hk.2, hk.1.2⟩⟩))))) (Reps.none _ _)))
      intro v194 w16 ho17 hb hg_ hnew_
      clear hg_ hnew_
      (first | rw [← Ny193.out] at ho17 | (simp only [Int.reduceToNat] at ho17; rw [← Ny193.out] at ho17))
      have n0_ := Ad.mk (Kd.V_elder' (by (with_reducible repeat (first | apply Kd.V_alloc | apply Kd.V_drewN | apply Kd.V_drew)); exact HO1.out) (Kd.N_base ho17) hb)
      have n1_ := Ad.mk (Kd.V_elder' (by (with_reducible repeat (first | apply Kd.V_alloc | apply Kd.V_drewN | apply Kd.V_drew)); exact HO2_2.out) (Kd.N_base ho17) hb)
      have n2_ := Ad.mk (Kd.N_elder' (by (with_reducible repeat (first | apply Kd.N_alloc | apply Kd.N_drewN | apply Kd.N_drew)); exact HO192.out) (Kd.N_base ho17) hb)
      have n3_ := Ad.mk (Kd.N_lower ho17 (qa0 (by repeat (first | (with_reducible first | exact HB.out | apply bwa | apply bwN | apply bw1 | refine bws ?_ GE188.out) | exact HB.out))))
      have n4_ := Ad.mk (qa3 (g := gb188) (o := .cells #[.int .i64 a2_0, .int .i64 1, .slice A2_2 l2_2.length c2_2] 42 (0, 0)) (by (with_reducible repeat (first | refine bkN ?_ _ | refine bkd ?_ | refine bka ?_ _)); exact BK188.out) hb)
      have n5_ := Ad.mk (qa2 (by repeat (first | (with_reducible first | exact HB.out | apply bwa | apply bwN | apply bw1 | refine bws ?_ GE188.out) | exact HB.out)) hb)
      clear HO1
      clear HO2_2
      clear HO192
      clear BK188
      clear HB
      have HO1 := n0_
      have HO2_2 := n1_
      have HO192 := n2_
      have HO195 := n3_
      have BK188 := n4_
      have HB := n5_
      clear n0_ n1_ n2_ n3_ n4_ n5_
      clear hb ho17
      refine hK.out _ _ ⟨(bkc BK188.out 0).trans rfl, (bkc BK188.out 1).trans rfl, (bkc BK188.out 2).trans rfl⟩ (fun hHeld => ?_)
      clear hK K
      refine norm_ (a' := ?_) ?_ ?_
      rotate_left
      ·show Act.put _ (some 19) _ = _
       simp only [Act.put, List.setIfInBounds_toArray, List.set_cons_zero, List.set_cons_succ, qa5, qa6]
       rfl
      exact norm_ (by simp only [putAll, Act.put, List.setIfInBounds_toArray, List.set_cons_zero, List.set_cons_succ]) (hCont (v191, v194) _ ⟨hHeld, (by (with_reducible repeat (first | apply Kd.V_alloc | apply Kd.V_drewN | apply Kd.V_drew)); exact Kd.V_mono HO1.out (fun _ hk => ⟨hk.1.1.1, ⟨hk.1.2, ⟨hk.2, hk.1.1.2⟩⟩⟩)), (by (with_reducible repeat (first | apply Kd.N_alloc | apply Kd.N_drewN | apply Kd.N_drew)); exact Kd.N_mono HO192.out (fun _ hk => ⟨hk.1.1, ⟨hk.2, hk.1.2⟩⟩)), (by (with_reducible repeat (first | apply Kd.N_alloc | apply Kd.N_drewN | apply Kd.N_drew)); exact HO195.out), (by (with_reducible repeat (first | apply Kd.V_alloc | apply Kd.V_drewN | apply Kd.V_drew)); exact Kd.V_mono HO2_2.out (fun _ hk => ⟨hk.1.1.1, ⟨hk.1.2, ⟨hk.2, hk.1.1.2⟩⟩⟩)), (by (with_reducible repeat (first | refine bkN ?_ _ | refine bkd ?_ | refine bka ?_ _)); exact BK188.out), (by repeat (first | (with_reducible first | exact HB.out | apply bwa | apply bwN | apply bw1 | refine bws ?_ GE188.out) | exact HB.out))⟩)
     ·skip
      refine Kd.N_lit_step k42 _ 42 ?hg (N' := 19) ?hd (xs := ([(⟨a2_0, 1, l2_2⟩ : S42)] : List (S42))) (inner := [.int .i64 a2_0, .int .i64 1, .slice A2_2 l2_2.length c2_2]) (ok := (fun k_ => ((P1_ k_ ∨ P2_2_ k_) ∨ w.heap.size ≤ k_) ∧ k_ ≠ gb188)) (okp := (fun k_ => ((P1_ k_ ∨ P2_2_ k_) ∨ w.heap.size ≤ k_) ∧ k_ ≠ gb188)) ?hr ?hp (fun _ hk => hk) ((show ∀ k_, w14.heap.size ≤ k_ → (fun k_ => ((P1_ k_ ∨ P2_2_ k_) ∨ w.heap.size ≤ k_) ∧ k_ ≠ gb188) k_ from fun k_ hk => ⟨(.inr (Nat.le_trans (qa0 (by repeat (first | (with_reducible first | exact HB.out | apply bwa | apply bwN | apply bw1 | refine bws ?_ GE188.out) | exact HB.out))) hk)), Kd.freshB (g := gb188) (o := .cells #[.int .i64 a2_0, .int .i64 1, .slice A2_2 l2_2.length c2_2] 42 (0, 0)) (by (with_reducible repeat (first | refine bkN ?_ _ | refine bkd ?_ | refine bka ?_ _)); exact BK188.out) k_ hk⟩) _ (Nat.le_refl _)) (Below.refl _ _) (Nat.le_refl _) (by simp) ?_; (case hd => rfl); (case hg => rfl); (case hr => first | (go_simp; done) | (go_simp; rfl)); (case hp => exact (Reps.c3 (show Kd.FK k42 _ _ (⟨a2_0, 1, l2_2⟩ : S42) [.int .i64 a2_0, .int .i64 1, .slice A2_2 l2_2.length c2_2] from (k42_mkF _ _ (⟨a2_0, 1, l2_2⟩ : S42) (Kd.V_reads' (have z_ := HO2_2.out; Kd.V_mono (ok' := (fun k_ => ((P1_ k_ ∨ P2_2_ k_) ∨ w.heap.size ≤ k_) ∧ k_ ≠ gb188)) z_ (fun k_ hk => ⟨hk.1, hk.2⟩))).2.1 (Kd.V_F (have z_ := HO2_2.out; Kd.V_mono (ok' := (fun k_ => ((P1_ k_ ∨ P2_2_ k_) ∨ w.heap.size ≤ k_) ∧ k_ ≠ gb188)) z_ (fun k_ hk => ⟨hk.1, hk.2⟩))))) (Reps.none _ _)))
      intro v194 w15 ho16 hb hg_ hnew_
      clear hg_ hnew_
      (first | rw [← Ny193.out] at ho16 | (simp only [Int.reduceToNat] at ho16; rw [← Ny193.out] at ho16))
      have n0_ := Ad.mk (Kd.V_elder' (by (with_reducible repeat (first | apply Kd.V_alloc | apply Kd.V_drewN | apply Kd.V_drew)); exact HO1.out) (Kd.N_base ho16) hb)
      have n1_ := Ad.mk (Kd.V_elder' (by (with_reducible repeat (first | apply Kd.V_alloc | apply Kd.V_drewN | apply Kd.V_drew)); exact HO2_2.out) (Kd.N_base ho16) hb)
      have n2_ := Ad.mk (Kd.N_lower ho16 (qa0 (by repeat (first | (with_reducible first | exact HB.out | apply bwa | apply bwN | apply bw1 | refine bws ?_ GE188.out) | exact HB.out))))
      have n3_ := Ad.mk (qa3 (g := gb188) (o := .cells #[.int .i64 a2_0, .int .i64 1, .slice A2_2 l2_2.length c2_2] 42 (0, 0)) (by (with_reducible repeat (first | refine bkN ?_ _ | refine bkd ?_ | refine bka ?_ _)); exact BK188.out) hb)
      have n4_ := Ad.mk (qa2 (by repeat (first | (with_reducible first | exact HB.out | apply bwa | apply bwN | apply bw1 | refine bws ?_ GE188.out) | exact HB.out)) hb)
      clear HO1
      clear HO2_2
      clear BK188
      clear HB
      have HO1 := n0_
      have HO2_2 := n1_
      have HO195 := n2_
      have BK188 := n3_
      have HB := n4_
      clear n0_ n1_ n2_ n3_ n4_
      clear hb ho16
      refine hK.out _ _ ⟨(bkc BK188.out 0).trans rfl, (bkc BK188.out 1).trans rfl, (bkc BK188.out 2).trans rfl⟩ (fun hHeld => ?_)
      clear hK K
      refine norm_ (a' := ?_) ?_ ?_
      rotate_left
      ·show Act.put _ (some 19) _ = _
       simp only [Act.put, List.setIfInBounds_toArray, List.set_cons_zero, List.set_cons_succ, qa5, qa6]
       rfl
      refine one_ (i := 1) (N := some 17) #[true, true, true, true, false, false] rfl rfl (by kernel_rfl) (by decide) (fun K hK => ?_)
      refine goes_ Try.func60 (by kernel_rfl) rfl #[.slice A1 l1.length c1] (by rfl) rfl rfl (by (try simp only [List.map_toArray, List.map_cons, List.map_nil]); first | done | rfl | (simp only [List.length_drop, List.length_take]; rfl)) ?_
      with_reducible refine (impl_Loan.calls (fun k_ => ((((P1_ k_ ∨ P2_2_ k_) ∨ w.heap.size ≤ k_) ∧ k_ ≠ gb188) ∧ some k_ ≠ (v194 : Value).ownBlock)) _ _ l1 t190 _ ?side1 A6.out).mono ?_
      (case side1 => exact HO1.out)
      rintro e w17 ⟨v191, rfl, ho0, hb⟩
      refine ⟨_, rfl, ?_⟩
      have n0_ := Ad.mk (Kd.V_elder' (by (with_reducible repeat (first | apply Kd.V_alloc | apply Kd.V_drewN | apply Kd.V_drew)); exact HO1.out) (Kd.N_base ho0) hb)
      have n1_ := Ad.mk (Kd.V_elder' (by (with_reducible repeat (first | apply Kd.V_alloc | apply Kd.V_drewN | apply Kd.V_drew)); exact HO2_2.out) (Kd.N_base ho0) hb)
      have n2_ := Ad.mk (Kd.N_elder' (by (with_reducible repeat (first | apply Kd.N_alloc | apply Kd.N_drewN | apply Kd.N_drew)); exact HO195.out) (Kd.N_base ho0) hb)
      have n3_ := Ad.mk (Kd.N_lower (Kd.N_mono (ok' := fun k_ => ((P1_ k_ ∨ P2_2_ k_) ∨ w.heap.size ≤ k_) ∧ some k_ ≠ (v194 : Value).ownBlock ∧ k_ ≠ gb188) ho0 (fun k_ hk_ => ⟨Or.elim hk_ (fun hs_ => hs_.1.1) (fun hn_ => (.inr (Nat.le_trans (qa0 (by repeat (first | (with_reducible first | exact HB.out | apply bwa | apply bwN | apply bw1 | refine bws ?_ GE188.out) | exact HB.out))) hn_))), Or.elim hk_ (fun hs_ => hs_.2) (fun hn_ => (Kd.fresh' (Kd.N_lt (by (with_reducible repeat (first | apply Kd.N_alloc | apply Kd.N_drewN | apply Kd.N_drew)); exact HO195.out)) k_ hn_)), Or.elim hk_ (fun hs_ => hs_.1.2) (fun hn_ => (Kd.freshB (g := gb188) (o := .cells #[.int .i64 a2_0, .int .i64 1, .slice A2_2 l2_2.length c2_2] 42 (0, 0)) (by (with_reducible repeat (first | refine bkN ?_ _ | refine bkd ?_ | refine bka ?_ _)); exact BK188.out) k_ hn_))⟩)) (qa0 (by repeat (first | (with_reducible first | exact HB.out | apply bwa | apply bwN | apply bw1 | refine bws ?_ GE188.out) | exact HB.out))))
      have n4_ := Ad.mk (qa3 (g := gb188) (o := .cells #[.int .i64 a2_0, .int .i64 1, .slice A2_2 l2_2.length c2_2] 42 (0, 0)) (by (with_reducible repeat (first | refine bkN ?_ _ | refine bkd ?_ | refine bka ?_ _)); exact BK188.out) hb)
      have n5_ := Ad.mk (qa2 (by repeat (first | (with_reducible first | exact HB.out | apply bwa | apply bwN | apply bw1 | refine bws ?_ GE188.out) | exact HB.out)) hb)
      clear HO1
      clear HO2_2
      clear HO195
      clear BK188
      clear HB
      have HO1 := n0_
      have HO2_2 := n1_
      have HO195 := n2_
      have HO192 := n3_
      have BK188 := n4_
      have HB := n5_
      clear n0_ n1_ n2_ n3_ n4_ n5_
      (try clear hb)
      (try clear hb2)
      (try clear hk)
      (try clear hi)
      (try clear ho0)
      refine hK.out _ _ ⟨(bkc BK188.out 0).trans rfl, (bkc BK188.out 1).trans rfl, (bkc BK188.out 2).trans rfl⟩ (fun hHeld => ?_)
      clear hK K
      refine norm_ (a' := ?_) ?_ ?_
      rotate_left
      ·show Act.put _ (some 17) _ = _
       simp only [Act.put, List.setIfInBounds_toArray, List.set_cons_zero, List.set_cons_succ, qa5, qa6]
       rfl
      exact norm_ (by simp only [putAll, Act.put, List.setIfInBounds_toArray, List.set_cons_zero, List.set_cons_succ]) (hCont (v191, v194) _ ⟨hHeld, (by (with_reducible repeat (first | apply Kd.V_alloc | apply Kd.V_drewN | apply Kd.V_drew)); exact Kd.V_mono HO1.out (fun _ hk => ⟨hk.1.1.1, ⟨hk.2, ⟨hk.1.2, hk.1.1.2⟩⟩⟩)), (by (with_reducible repeat (first | apply Kd.N_alloc | apply Kd.N_drewN | apply Kd.N_drew)); exact HO192.out), (by (with_reducible repeat (first | apply Kd.N_alloc | apply Kd.N_drewN | apply Kd.N_drew)); exact Kd.N_mono HO195.out (fun _ hk => ⟨hk.1.1, ⟨hk.2, hk.1.2⟩⟩)), (by (with_reducible repeat (first | apply Kd.V_alloc | apply Kd.V_drewN | apply Kd.V_drew)); exact Kd.V_mono HO2_2.out (fun _ hk => ⟨hk.1.1.1, ⟨hk.2, ⟨hk.1.2, hk.1.1.2⟩⟩⟩)), (by (with_reducible repeat (first | refine bkN ?_ _ | refine bkd ?_ | refine bka ?_ _)); exact BK188.out), (by repeat (first | (with_reducible first | exact HB.out | apply bwa | apply bwN | apply bw1 | refine bws ?_ GE188.out) | exact HB.out))⟩)
    rintro ⟨v191, v194⟩ w18 ⟨hS_, h0_, h1_, h2_, h3_, h4_, h5_⟩
    have n0_ : Ad (Kd.V k42 42 w18 w.heap.size (fun k_ => ((P1_ k_ ∨ P2_2_ k_) ∨ w.heap.size ≤ k_) ∧ some k_ ≠ (v191 : Value).ownBlock ∧ some k_ ≠ (v194 : Value).ownBlock ∧ k_ ≠ gb188) (.slice A1 l1.length c1) l1) := ⟨h0_⟩
    have n1_ : Ad (Kd.N k42 42 w18 w.heap.size (fun k_ => ((P1_ k_ ∨ P2_2_ k_) ∨ w.heap.size ≤ k_) ∧ some k_ ≠ (v194 : Value).ownBlock ∧ k_ ≠ gb188) v191 t190) := ⟨h1_⟩
    have n2_ : Ad (Kd.N k42 42 w18 w.heap.size (fun k_ => ((P1_ k_ ∨ P2_2_ k_) ∨ w.heap.size ≤ k_) ∧ some k_ ≠ (v191 : Value).ownBlock ∧ k_ ≠ gb188) v194 y193) := ⟨h2_⟩
    have n3_ : Ad (Kd.V (Kd.int .i64) 3 w18 w.heap.size (fun k_ => ((P1_ k_ ∨ P2_2_ k_) ∨ w.heap.size ≤ k_) ∧ some k_ ≠ (v191 : Value).ownBlock ∧ some k_ ≠ (v194 : Value).ownBlock ∧ k_ ≠ gb188) (.slice A2_2 l2_2.length c2_2) l2_2) := ⟨h3_⟩
    have n4_ : Ad (w18.heap[gb188]? = some (.cells #[.int .i64 a2_0, .int .i64 1, .slice A2_2 l2_2.length c2_2] 42 (0, 0))) := ⟨h4_⟩
    have n5_ : Ad (Below w.heap.size w w18) := ⟨h5_⟩
    clear HO1
    clear HO2_2
    clear BK188
    clear HB
    clear h0_ h1_ h2_ h3_ h4_ h5_
    have HO1 := n0_
    have HO192 := n1_
    have HO195 := n2_
    have HO2_2 := n3_
    have BK188 := n4_
    have HB := n5_
    clear n0_ n1_ n2_ n3_ n4_ n5_
    have hHeld : w18.cell? ⟨gb188, 0, none⟩ = some (.int .i64 a2_0) ∧ w18.cell? ⟨gb188, 1, none⟩ = some (.int .i64 1) ∧ w18.cell? ⟨gb188, 2, none⟩ = some (.slice A2_2 l2_2.length c2_2) := hS_
    obtain ⟨Ao20, co20, eo20⟩ := Kd.N_slice HO195.out
    (first | subst eo20 | (injection eo20 with f1_ f2_ f3_; have f4_ := f1_.symm; have f5_ := f3_.symm; clear f1_ f2_ f3_; subst f4_; subst f5_))
    refine norm_ (a' := ?_) ?_ ?_
    rotate_left
    ·simp only [putAll, Act.put, List.setIfInBounds_toArray, List.set_cons_zero, List.set_cons_succ]
     rfl
    refine one_ (i := 4) (N := some 20) #[true, true, true, true, true, false] rfl rfl (by kernel_rfl) (by decide) (fun K hK => ?_)
    refine Kd.N_append_rows_step k42 (w0 := w) w.heap.size (by rfl) (.tmp 17) (.tmp 19) 34 42 (.agg #[(.int .i64 0), (.int .i64 0), (.slice none 0 0)]) 40 rfl Try.underlying34 info42 rfl (by decide) (by omega) v191 t190 y193 _ _ _ (fun k_ => ((P1_ k_ ∨ P2_2_ k_) ∨ w.heap.size ≤ k_) ∧ k_ ≠ gb188) (fun k_ => ((fun k_ => ((P1_ k_ ∨ P2_2_ k_) ∨ w.heap.size ≤ k_) ∧ k_ ≠ gb188)) k_ ∧ some k_ ≠ (v191 : Value).ownBlock) rfl rfl ?aO ?aR (fun _ hk => hk) ?aF ?aB ?aS ?aL ?_
    (case aR => exact (by skip; exact Kd.N_F (Kd.N_mono (ok' := (fun k_ => ((fun k_ => ((P1_ k_ ∨ P2_2_ k_) ∨ w.heap.size ≤ k_) ∧ k_ ≠ gb188)) k_ ∧ some k_ ≠ (v191 : Value).ownBlock)) (HO195.out) (fun k_ hk => ⟨⟨hk.1, hk.2.2⟩, hk.2.1⟩))))
    (case aB => exact (by repeat (first | (with_reducible first | exact HB.out | apply bwa | apply bwN | apply bw1 | refine bws ?_ GE188.out) | exact HB.out)))
    (case aF => exact (fun k_ hk => ⟨(.inr (Nat.le_trans (qa0 (by repeat (first | (with_reducible first | exact HB.out | apply bwa | apply bwN | apply bw1 | refine bws ?_ GE188.out) | exact HB.out))) hk)), Kd.freshB (g := gb188) (o := .cells #[.int .i64 a2_0, .int .i64 1, .slice A2_2 l2_2.length c2_2] 42 (0, 0)) (by (with_reducible repeat (first | refine bkN ?_ _ | refine bkd ?_ | refine bka ?_ _)); exact BK188.out) k_ hk⟩))
    (case aO => exact (by (with_reducible repeat (first | apply Kd.N_alloc | apply Kd.N_drewN | apply Kd.N_drew)); exact Kd.N_mono HO192.out (fun _ hk => ⟨hk.1, hk.2.2⟩)))
    (case aS => exact (qa0 (by repeat (first | (with_reducible first | exact HB.out | apply bwa | apply bwN | apply bw1 | refine bws ?_ GE188.out) | exact HB.out))))
    (case aL => have := LMc7.out; omega)
    intro v197 w19 ho hb hg hat
    rw [← Ny196.out] at ho
    have n0_ := Ad.mk (Kd.V_afterv (ok := (fun k_ => ((P1_ k_ ∨ P2_2_ k_) ∨ w.heap.size ≤ k_) ∧ some k_ ≠ (.slice Ao20 y193.length co20 : Value).ownBlock ∧ k_ ≠ gb188)) (by (with_reducible repeat (first | apply Kd.V_alloc | apply Kd.V_drewN | apply Kd.V_drew)); exact Kd.V_mono HO1.out (fun _ hk => ⟨⟨hk.1, ⟨hk.2.2.1, hk.2.2.2⟩⟩, hk.2.1⟩)) hg hat)
    have n1_ := Ad.mk (Kd.V_afterv (ok := (fun k_ => ((P1_ k_ ∨ P2_2_ k_) ∨ w.heap.size ≤ k_) ∧ some k_ ≠ (.slice Ao20 y193.length co20 : Value).ownBlock ∧ k_ ≠ gb188)) (by (with_reducible repeat (first | apply Kd.V_alloc | apply Kd.V_drewN | apply Kd.V_drew)); exact Kd.V_mono HO2_2.out (fun _ hk => ⟨⟨hk.1, ⟨hk.2.2.1, hk.2.2.2⟩⟩, hk.2.1⟩)) hg hat)
    have n2_ := Ad.mk (blk_grown (g := gb188) (o := .cells #[.int .i64 a2_0, .int .i64 1, .slice A2_2 l2_2.length c2_2] 42 (0, 0)) (by (with_reducible repeat (first | refine bkN ?_ _ | refine bkd ?_ | refine bka ?_ _)); exact BK188.out) hg (Kd.N_away HO192.out (fun _ hk => hk.2.2)))
    have n3_ := Ad.mk (Kd.N_afterv (ok := (fun k_ => ((P1_ k_ ∨ P2_2_ k_) ∨ w.heap.size ≤ k_) ∧ k_ ≠ gb188)) (by (with_reducible repeat (first | apply Kd.N_alloc | apply Kd.N_drewN | apply Kd.N_drew)); exact Kd.N_mono HO195.out (fun _ hk => ⟨⟨hk.1, hk.2.2⟩, hk.2.1⟩)) hg hat)
    have n4_ := Ad.mk (hb)
    have n5_ := Ad.mk (ho)
    clear HO1
    clear HO2_2
    clear BK188
    clear HO195
    clear HB
    clear HO192
    have HO1 := n0_
    have HO2_2 := n1_
    have BK188 := n2_
    have HO195 := n3_
    have HB := n4_
    have HO198 := n5_
    clear n0_ n1_ n2_ n3_ n4_ n5_
    clear ho hb hg hat
    refine hK.out _ _ ⟨(bkc BK188.out 0).trans rfl, (bkc BK188.out 1).trans rfl, (bkc BK188.out 2).trans rfl⟩ (fun hHeld => ?_)
    clear hK K
    refine norm_ (a' := ?_) ?_ ?_
    rotate_left
    ·show Act.put _ (some 20) _ = _
     simp only [Act.put, List.setIfInBounds_toArray, List.set_cons_zero, List.set_cons_succ, qa5, qa6]
     rfl
    refine pure_ (i := 5) (N := some 7) (v := ?_) (a' := ?_) #[true, true, true, true, true, true] rfl rfl (by kernel_rfl) (fun _ _ _ h => h) (Or.inl ⟨by rfl, ?_⟩) ?_ ?_
    rotate_left
    ·intro w'
     go_simp
     with_reducible rfl
    rotate_left
    ·simp only [Act.put, List.setIfInBounds_toArray, List.set_cons_zero, List.set_cons_succ, qa5, qa6]
     rfl
    refine done_ (by kernel_rfl) ?_
    obtain ⟨Ao21, co21, eo21⟩ := Kd.N_slice HO198.out
    subst eo21
    try go_wp2_with (first | ((with_reducible refine qa4 (f := 49) rfl ?_); refine goesL_ (some 24) rfl rfl Try.func49 (by kernel_rfl) rfl #[.slice Ao21 y196.length co21, .int .i64 (l0.length : Int)] rfl (by (try simp only [List.map_toArray, List.map_cons, List.map_nil]); first | done | rfl | (simp only [List.length_drop, List.length_take]; rfl)) ?_; (with_reducible refine (impl_ValidLoans.calls k _ _ y196 (l0.length : Int) true _ ?side1 ?side2 A8.out).mono ?_); (case side1 => repeat (first | exact (Kd.N_reads' HO198.out).2.2 | (with_reducible refine Kd.C_alloc ?_ _) | (with_reducible refine Kd.C_drewN ?_ _) | (with_reducible refine Kd.C_drew ?_))); (case side2 => exact (Kd.N_reads' HO198.out).2.1); rintro e w22 ⟨rfl, hb⟩; refine ⟨_, rfl, ?_⟩; have n0_ := Ad.mk (Kd.V_below (by (with_reducible repeat (first | apply Kd.V_alloc | apply Kd.V_drewN | apply Kd.V_drew)); exact HO1.out) hb); have n1_ := Ad.mk (Kd.V_below (by (with_reducible repeat (first | apply Kd.V_alloc | apply Kd.V_drewN | apply Kd.V_drew)); exact HO2_2.out) hb); have n2_ := Ad.mk (Kd.N_below (by (with_reducible repeat (first | apply Kd.N_alloc | apply Kd.N_drewN | apply Kd.N_drew)); exact HO195.out) hb); have n3_ := Ad.mk (Kd.N_below (by (with_reducible repeat (first | apply Kd.N_alloc | apply Kd.N_drewN | apply Kd.N_drew)); exact HO198.out) hb); have n4_ := Ad.mk (qa3 (g := gb188) (o := .cells #[.int .i64 a2_0, .int .i64 1, .slice A2_2 l2_2.length c2_2] 42 (0, 0)) (by (with_reducible repeat (first | refine bkN ?_ _ | refine bkd ?_ | refine bka ?_ _)); exact BK188.out) hb); have n5_ := Ad.mk (qa2 (by repeat (first | (with_reducible first | exact HB.out | apply bwa | apply bwN | apply bw1 | refine bws ?_ GE188.out) | exact HB.out)) hb); clear HO1; clear HO2_2; clear HO195; clear HO198; clear BK188; clear HB; have HO1 := n0_; have HO2_2 := n1_; have HO195 := n2_; have HO198 := n3_; have BK188 := n4_; have HB := n5_; clear n0_ n1_ n2_ n3_ n4_ n5_; (try clear hb); (try clear hb2); (try clear hk); (try clear hi)))
    go_loopg [8, 9] k (fun kq v8 v9 w' => ∃ (x7_1 : List (S42)) (x8_1 : Int) (x9_1 : Int) (x189001_1 : Int), v8 = .int .i64 x8_1 ∧ v9 = .int .i64 x9_1 ∧ Ad (impl_MostLoan.l0 kq l0 l1 x7_1 x8_1 x9_1 = some r) ∧ Ad (kq ≤ k) ∧ Ad (Kd.V k42 42 w' w.heap.size (fun k_ => ((P1_ k_ ∨ P2_2_ k_) ∨ w.heap.size ≤ k_) ∧ some k_ ≠ ((.slice Ao21 y196.length co21) : Value).ownBlock ∧ k_ ≠ gb188) (.slice A1 l1.length c1) l1) ∧ Ad (Kd.N k42 42 w' w.heap.size (fun k_ => ((P1_ k_ ∨ P2_2_ k_) ∨ w.heap.size ≤ k_) ∧ k_ ≠ gb188) (.slice Ao21 y196.length co21) x7_1) ∧ Ad (Kd.V (Kd.int .i64) 3 w' w.heap.size (fun k_ => ((P1_ k_ ∨ P2_2_ k_) ∨ w.heap.size ≤ k_) ∧ some k_ ≠ ((.slice Ao21 y196.length co21) : Value).ownBlock ∧ k_ ≠ gb188) (.slice A2_2 l2_2.length c2_2) l2_2) ∧ Ad (w'.heap[gb188]? = some (.cells #[.int .i64 a2_0, .int .i64 x189001_1, (.slice A2_2 l2_2.length c2_2)] 42 (0, 0))) ∧ Ad (Below w.heap.size w w'))
    case atStart => exact ⟨(y196), (0), (100000), (1), (by first | rfl | (simp; done) | (simp [*]; done)), (by first | rfl | (simp; done) | (simp [*]; done)), H', ⟨Nat.le_refl _⟩, ⟨by (with_reducible repeat (first | apply Kd.V_alloc | apply Kd.V_drewN | apply Kd.V_drew)); exact Kd.V_mono HO1.out (fun _ hk => ⟨hk.1.1, ⟨hk.2, hk.1.2.2⟩⟩)⟩, ⟨by (with_reducible repeat (first | apply Kd.N_alloc | apply Kd.N_drewN | apply Kd.N_drew)); exact HO198.out⟩, ⟨by (with_reducible repeat (first | apply Kd.V_alloc | apply Kd.V_drewN | apply Kd.V_drew)); exact Kd.V_mono HO2_2.out (fun _ hk => ⟨hk.1.1, ⟨hk.2, hk.1.2.2⟩⟩)⟩, ⟨by (with_reducible repeat (first | refine bkN ?_ _ | refine bkd ?_ | refine bka ?_ _)); exact BK188.out⟩, ⟨by repeat (first | (with_reducible first | exact HB.out | apply bwa | apply bwN | apply bw1 | refine bws ?_ GE188.out) | exact HB.out)⟩⟩
    case round =>
     clear H'
     try clear c1
     try clear c2
     try clear p2
     try clear c3
     try clear c4
     try clear c5
     try clear c6
     try clear c7
     try clear c9
     try clear hcz12_0
     try clear hcz12_1
     try clear hcz12_2
     try clear hfz12_0
     try clear hfz12_1
     try clear hfz12_2
     obtain ⟨x7_1, x8_1, x9_1, x189001_1, rfl, rfl, HA, HK1, HO_1, HO_7, HO_189002, BK188, HB⟩ := hrel
     have hl7_1 := (Kd.N_reads' HO_7.out).1
     rw [hl7_1] at HO_7
     (try simp only [hl7_1])
     (try simp only [hl7_1] at BK188)
     (try simp only [hl7_1] at HO_1)
     (try simp only [hl7_1] at HO_189002)
     cases gk with
     | zero => exact absurd HA.out (by simp [impl_MostLoan.l0])
     | succ k1 =>
      have H := HA.out
      clear HA
      simp only [impl_MostLoan.l0] at H
      by_cases c23 : x8_1 < x9_1
      ·rw [if_pos c23] at H
       have c23b0 : decide (x8_1 < x9_1) = true := decide_eq_true c23
       clear c23
       by_cases c24 : 0 ≤ (l1.length : Int)
       ·rw [if_pos c24] at H
        have c24b0 : decide (0 ≤ (l1.length : Int)) = true := decide_eq_true c24
        have c24b1 : decide (0 ≤ l1.length) = true := decide_eq_true (by omega)
        clear c24
        by_cases c25 : (l1.length : Int) < (x7_1.length : Int)
        ·rw [if_pos c25] at H
         have c25b0 : decide ((l1.length : Int) < (x7_1.length : Int)) = true := decide_eq_true c25
         have c25b1 : decide (l1.length < x7_1.length) = true := decide_eq_true (Int.ofNat_lt.mp c25)
         clear c25
         obtain ⟨y200, hy200⟩ : ∃ y_ : List (S42), y_ = (x7_1.set ((l1.length : Int) : Int).toNat (⟨(rd_T42 x7_1 (l1.length : Int)).f0, wrap64 (Int.tdiv (wrap64 ((wrap64 (x8_1 + x9_1)) + 1)) 2), (rd_T42 x7_1 (l1.length : Int)).f2⟩ : S42)) := ⟨_, rfl⟩
         replace H : ((impl_SafeLoans.f k1 l0 y200).bind fun t201 => (if t201 = true then (impl_MostLoan.l0 k1 l0 l1 y200 (wrap64 (Int.tdiv (wrap64 ((wrap64 (x8_1 + x9_1)) + 1)) 2)) x9_1) else (impl_MostLoan.l0 k1 l0 l1 y200 x8_1 (wrap64 ((wrap64 (Int.tdiv (wrap64 ((wrap64 (x8_1 + x9_1)) + 1)) 2)) - 1))))) = some r := by first | (rw [hy200]; with_reducible exact H) | (have H2_ := (Option.bind_some _ _).symm.trans H; rw [hy200]; with_reducible exact H2_) | (have H2_ := (Option.bind_some _ _).symm.trans H; with_reducible exact H2_) | with_reducible exact H | (rw [hy200]; exact H) | exact H
         have Ny200 := Ad.mk hy200
         clear hy200
         replace H := Option.bind_eq_some_iff.mp H
         obtain ⟨t201, A270, H⟩ := H
         replace H : (if t201 = true then (impl_MostLoan.l0 k1 l0 l1 y200 (wrap64 (Int.tdiv (wrap64 ((wrap64 (x8_1 + x9_1)) + 1)) 2)) x9_1) else (impl_MostLoan.l0 k1 l0 l1 y200 x8_1 (wrap64 ((wrap64 (Int.tdiv (wrap64 ((wrap64 (x8_1 + x9_1)) + 1)) 2)) - 1)))) = some r := H
         have A27 := Ad.mk A270
         clear A270
         by_cases c28 : t201 = true
         ·subst c28
          have H1 : (impl_MostLoan.l0 k1 l0 l1 y200 (wrap64 (Int.tdiv (wrap64 ((wrap64 (x8_1 + x9_1)) + 1)) 2)) x9_1) = some r := by rw [if_pos rfl] at H; exact H
          clear H
          have H := H1
          clear H1
          have H' := Ad.mk H
          clear H
          have p26 : 0 ≤ ((l1.length : Int) : Int) := of_decide_eq_true (by first | (with_reducible assumption) | assumption)
          have q26 : ((l1.length : Int) : Int) < ((x7_1.length : Int) : Int) := of_decide_eq_true (by first | (with_reducible assumption) | assumption)
          obtain ⟨go26, co26, eo26, gb26, gl26, cl26, HG26⟩ := Kd.N_form HO_7.out (by omega)
          (first | cases eo26 | (injection eo26 with ea_ en_ ec_; (first | subst ea_ | (injection ea_ with ea_; subst ea_)); subst ec_; clear en_))
          have GB26 := Ad.mk gb26
          have GG26 := Ad.mk HG26
          clear gb26 gl26 HG26
          obtain ⟨ce26, hcl26, hM26, hcc26, hfr26⟩ := Kd.N_elem HO_7.out z42 ((l1.length : Int) : Int) p26 q26
          obtain ⟨ua26_2, uc26_2, rfl, ul26_2, ge26_2⟩ := k42_openF hM26
          have hx26_0 : wr.cell? ⟨go26, ((l1.length : Int) : Int).toNat * 3, none⟩ = some (.int .i64 ((rd_T42 x7_1 (l1.length : Int)).f0)) := hcc26 0 _ rfl
          have hx26_1 : wr.cell? ⟨go26, ((l1.length : Int) : Int).toNat * 3 + 1, none⟩ = some (.int .i64 ((rd_T42 x7_1 (l1.length : Int)).f1)) := hcc26 1 _ rfl
          have hx26_2 : wr.cell? ⟨go26, ((l1.length : Int) : Int).toNat * 3 + 2, none⟩ = some (.slice ua26_2 ((rd_T42 x7_1 (l1.length : Int)).f2).length uc26_2) := hcc26 2 _ rfl
          have hf26_0 : wr.frozen? ⟨go26, ((l1.length : Int) : Int).toNat * 3, none⟩ = false := hfr26 0
          have hf26_1 : wr.frozen? ⟨go26, ((l1.length : Int) : Int).toNat * 3 + 1, none⟩ = false := hfr26 1
          have hf26_2 : wr.frozen? ⟨go26, ((l1.length : Int) : Int).toNat * 3 + 2, none⟩ = false := hfr26 2
          clear hcl26 hcc26 hfr26 hM26
          replace p26 := eq_true p26
          replace q26 := eq_true q26
          have HX29 := Ad.mk (show Kd.N k42 42 wr w.heap.size (fun k_ => ((P1_ k_ ∨ P2_2_ k_) ∨ w.heap.size ≤ k_) ∧ k_ ≠ gb188) (.slice (some ⟨go26, 0, none⟩) x7_1.length co21) x7_1 from (by (with_reducible repeat (first | apply Kd.N_alloc | apply Kd.N_drewN | apply Kd.N_drew)); exact HO_7.out))
          obtain ⟨ce29, hcl29, hM29, hcc29, hfr29⟩ := Kd.N_elem HX29.out z42 ((l1.length : Int) : Int) (of_decide_eq_true (by first | (with_reducible assumption) | assumption)) (by have h_ : ((l1.length : Int) : Int) < ((x7_1.length : Int) : Int) := of_decide_eq_true (by first | (with_reducible assumption) | assumption); first | exact h_ | (have e_ := (Kd.N_reads' HO_7.out).1; omega) | simpa using h_)
          obtain ⟨ua29_2, uc29_2, rfl, ul29_2, ge29_2⟩ := k42_openF hM29
          have HP29 := Kd.N_seg HX29.out ((l1.length : Int) : Int) (of_decide_eq_true (by first | (with_reducible assumption) | assumption)) (by have h_ : ((l1.length : Int) : Int) < ((x7_1.length : Int) : Int) := of_decide_eq_true (by first | (with_reducible assumption) | assumption); first | exact h_ | (have e_ := (Kd.N_reads' HO_7.out).1; omega) | simpa using h_) (seg := [.int .i64 (wrap64 (Int.tdiv (wrap64 ((wrap64 (x8_1 + x9_1)) + 1)) 2))]) (j := 1) hcl29 hcc29 (show 2 ≤ 3 from by decide) (x' := (⟨(rd_T42 x7_1 (l1.length : Int)).f0, wrap64 (Int.tdiv (wrap64 ((wrap64 (x8_1 + x9_1)) + 1)) 2), (rd_T42 x7_1 (l1.length : Int)).f2⟩ : S42)) (k42_mkF _ _ (⟨(rd_T42 x7_1 (l1.length : Int)).f0, wrap64 (Int.tdiv (wrap64 ((wrap64 (x8_1 + x9_1)) + 1)) 2), (rd_T42 x7_1 (l1.length : Int)).f2⟩ : S42) ul29_2 ge29_2) (fun _ hk => hk)
          have hx29_1 := hcc29 1 _ rfl
          (try simp only [show (k42).sz = 3 from rfl, Nat.mul_one, Nat.add_zero, Int.toNat_natCast] at hx29_1)
          have hf29_1 := hfr29 1
          (try simp only [show (k42).sz = 3 from rfl, Nat.mul_one, Nat.add_zero, Int.toNat_natCast] at hf29_1)
          clear hcl29 hcc29 hfr29 hM29
          go_wp2_with (first | ((with_reducible refine gate_store (t := 3) (p := 39) rfl ?_); refine store_event (t := 3) (p := 39) (v := ?vo_w30) (w1 := (wr.setCell ⟨go26, ((l1.length : Int) : Int).toNat * 3 + 1, none⟩ (.int .i64 (wrap64 (Int.tdiv (wrap64 ((wrap64 (x8_1 + x9_1)) + 1)) 2))))) ?hg ?ho ?hn ?hr ?_; (case ho => rfl); (case hg => rfl); (case hn => rfl); (case hr => first | (go_simp; done) | (go_simp; rfl)); intro w30 hw; have hg : wr.grownBy w30 (some go26) := (by rw [hw]; exact HP29.2); have hp_ : Kd.N k42 42 w30 w.heap.size (fun k_ => ((P1_ k_ ∨ P2_2_ k_) ∨ w.heap.size ≤ k_) ∧ k_ ≠ gb188) (.slice (some ⟨go26, 0, none⟩) x7_1.length co21) y200 := (by rw [hw, Ny200.out]; exact HP29.1); clear HP29; have n0_ := Ad.mk (Kd.V_afterv (v := (.slice (some ⟨go26, 0, none⟩) x7_1.length co21)) (v1 := (.slice (some ⟨go26, 0, none⟩) x7_1.length co21)) (ok := (fun k_ => ((P1_ k_ ∨ P2_2_ k_) ∨ w.heap.size ≤ k_) ∧ k_ ≠ gb188)) (by (with_reducible repeat (first | apply Kd.V_alloc | apply Kd.V_drewN | apply Kd.V_drew)); exact Kd.V_mono HO_1.out (fun _ hk => ⟨⟨hk.1, hk.2.2⟩, hk.2.1⟩)) hg (.inl rfl)); have n1_ := Ad.mk (hp_); have n2_ := Ad.mk (Kd.V_afterv (v := (.slice (some ⟨go26, 0, none⟩) x7_1.length co21)) (v1 := (.slice (some ⟨go26, 0, none⟩) x7_1.length co21)) (ok := (fun k_ => ((P1_ k_ ∨ P2_2_ k_) ∨ w.heap.size ≤ k_) ∧ k_ ≠ gb188)) (by (with_reducible repeat (first | apply Kd.V_alloc | apply Kd.V_drewN | apply Kd.V_drew)); exact Kd.V_mono HO_189002.out (fun _ hk => ⟨⟨hk.1, hk.2.2⟩, hk.2.1⟩)) hg (.inl rfl)); have n3_ := Ad.mk (blk_grown (g := gb188) (o := .cells #[.int .i64 a2_0, .int .i64 x189001_1, .slice A2_2 l2_2.length c2_2] 42 (0, 0)) (by (with_reducible repeat (first | refine bkN ?_ _ | refine bkd ?_ | refine bka ?_ _)); exact BK188.out) hg (Kd.N_away HO_7.out (fun _ hk => hk.2))); have n4_ := Ad.mk ((by rw [hw]; exact bws (HB.out) GB26.out : Below w.heap.size w w30)); clear HO_1; clear HO_7; clear HO_189002; clear BK188; clear HB; have HO_1 := n0_; have HO_7 := n1_; have HO_189002 := n2_; have BK188 := n3_; have HB := n4_; clear n0_ n1_ n2_ n3_ n4_; clear hg hw hp_) | ((with_reducible refine qa4 (f := 25) rfl ?_); refine goesL_ (some 42) rfl rfl Try.func25 (by kernel_rfl) rfl #[.slice A0 l0.length c0, .slice (some ⟨go26, 0, none⟩) y200.length co21] rfl (by (try simp only [List.map_toArray, List.map_cons, List.map_nil]); first | done | (rw [show y200.length = x7_1.length from (Kd.N_reads' HO_7.out).1.symm] <;> rfl) | rfl | (simp only [List.length_drop, List.length_take]; rfl)) ?_; (with_reducible refine (impl_SafeLoans.calls k1 _ _ l0 _ _ y200 true _ ?side1 ?side2 ?side3 ?side4 A27.out).mono ?_); (case side1 => repeat (first | exact (Kd.C_below HR0.out HB.out) | (with_reducible refine Kd.C_alloc ?_ _) | (with_reducible refine Kd.C_drewN ?_ _) | (with_reducible refine Kd.C_drew ?_))); (case side2 => exact HC0.out); (case side3 => repeat (first | exact (Kd.N_reads' HO_7.out).2.2 | (with_reducible refine Kd.C_alloc ?_ _) | (with_reducible refine Kd.C_drewN ?_ _) | (with_reducible refine Kd.C_drew ?_))); (case side4 => rw [show y200.length = x7_1.length from (Kd.N_reads' HO_7.out).1.symm]; exact (Kd.N_reads' HO_7.out).2.1); rintro e w31 ⟨rfl, hb⟩; refine ⟨_, rfl, ?_⟩; have n0_ := Ad.mk (Kd.V_below (by (with_reducible repeat (first | apply Kd.V_alloc | apply Kd.V_drewN | apply Kd.V_drew)); exact HO_1.out) hb); have n1_ := Ad.mk (Kd.N_below (by (with_reducible repeat (first | apply Kd.N_alloc | apply Kd.N_drewN | apply Kd.N_drew)); exact HO_7.out) hb); have n2_ := Ad.mk (Kd.V_below (by (with_reducible repeat (first | apply Kd.V_alloc | apply Kd.V_drewN | apply Kd.V_drew)); exact HO_189002.out) hb); have n3_ := Ad.mk (qa3 (g := gb188) (o := .cells #[.int .i64 a2_0, .int .i64 x189001_1, .slice A2_2 l2_2.length c2_2] 42 (0, 0)) (by (with_reducible repeat (first | refine bkN ?_ _ | refine bkd ?_ | refine bka ?_ _)); exact BK188.out) hb); have n4_ := Ad.mk (qa2 (by repeat (first | (with_reducible first | exact HB.out | apply bwa | apply bwN | apply bw1 | refine bws ?_ GE188.out) | exact HB.out)) hb); clear HO_1; clear HO_7; clear HO_189002; clear BK188; clear HB; have HO_1 := n0_; have HO_7 := n1_; have HO_189002 := n2_; have BK188 := n3_; have HB := n4_; clear n0_ n1_ n2_ n3_ n4_; (try clear hb); (try clear hb2); (try clear hk); (try clear hi)))
          (try simp only [← hl7_1])
          go_roundg k1
          case measure => have := HK1.out; omega
          case rel => exact ⟨(y200), (wrap64 (Int.tdiv (wrap64 ((wrap64 (x8_1 + x9_1)) + 1)) 2)), (x9_1), (x189001_1), (by first | rfl | (simp; done) | (simp [*]; done)), (by first | rfl | (simp; done) | (simp [*]; done)), H', ⟨by have := HK1.out; omega⟩, ⟨by (try simp only [hl7_1]); (with_reducible repeat (first | apply Kd.V_alloc | apply Kd.V_drewN | apply Kd.V_drew)); exact Kd.V_mono HO_1.out (fun _ hk => ⟨hk.1.1, ⟨hk.2, hk.1.2⟩⟩)⟩, ⟨by (try simp only [hl7_1]); (with_reducible repeat (first | apply Kd.N_alloc | apply Kd.N_drewN | apply Kd.N_drew)); exact HO_7.out⟩, ⟨by (try simp only [hl7_1]); (with_reducible repeat (first | apply Kd.V_alloc | apply Kd.V_drewN | apply Kd.V_drew)); exact Kd.V_mono HO_189002.out (fun _ hk => ⟨hk.1.1, ⟨hk.2, hk.1.2⟩⟩)⟩, ⟨by (try simp only [hl7_1]); (with_reducible repeat (first | refine bkN ?_ _ | refine bkd ?_ | refine bka ?_ _)); exact BK188.out⟩, ⟨by repeat (first | (with_reducible first | exact HB.out | apply bwa | apply bwN | apply bw1 | refine bws ?_ GE188.out) | exact HB.out)⟩⟩
         ·replace c28 := Bool.eq_false_iff.mpr c28
          subst c28
          have H1 : (impl_MostLoan.l0 k1 l0 l1 y200 x8_1 (wrap64 ((wrap64 (Int.tdiv (wrap64 ((wrap64 (x8_1 + x9_1)) + 1)) 2)) - 1))) = some r := by rw [if_neg (show ¬ (false = true) by decide)] at H; exact H
          clear H
          have H := H1
          clear H1
          have H' := Ad.mk H
          clear H
          have p26 : 0 ≤ ((l1.length : Int) : Int) := of_decide_eq_true (by first | (with_reducible assumption) | assumption)
          have q26 : ((l1.length : Int) : Int) < ((x7_1.length : Int) : Int) := of_decide_eq_true (by first | (with_reducible assumption) | assumption)
          obtain ⟨go26, co26, eo26, gb26, gl26, cl26, HG26⟩ := Kd.N_form HO_7.out (by omega)
          (first | cases eo26 | (injection eo26 with ea_ en_ ec_; (first | subst ea_ | (injection ea_ with ea_; subst ea_)); subst ec_; clear en_))
          have GB26 := Ad.mk gb26
          have GG26 := Ad.mk HG26
          clear gb26 gl26 HG26
          obtain ⟨ce26, hcl26, hM26, hcc26, hfr26⟩ := Kd.N_elem HO_7.out z42 ((l1.length : Int) : Int) p26 q26
          obtain ⟨ua26_2, uc26_2, rfl, ul26_2, ge26_2⟩ := k42_openF hM26
          have hx26_0 : wr.cell? ⟨go26, ((l1.length : Int) : Int).toNat * 3, none⟩ = some (.int .i64 ((rd_T42 x7_1 (l1.length : Int)).f0)) := hcc26 0 _ rfl
          have hx26_1 : wr.cell? ⟨go26, ((l1.length : Int) : Int).toNat * 3 + 1, none⟩ = some (.int .i64 ((rd_T42 x7_1 (l1.length : Int)).f1)) := hcc26 1 _ rfl
          have hx26_2 : wr.cell? ⟨go26, ((l1.length : Int) : Int).toNat * 3 + 2, none⟩ = some (.slice ua26_2 ((rd_T42 x7_1 (l1.length : Int)).f2).length uc26_2) := hcc26 2 _ rfl
          have hf26_0 : wr.frozen? ⟨go26, ((l1.length : Int) : Int).toNat * 3, none⟩ = false := hfr26 0
          have hf26_1 : wr.frozen? ⟨go26, ((l1.length : Int) : Int).toNat * 3 + 1, none⟩ = false := hfr26 1
          have hf26_2 : wr.frozen? ⟨go26, ((l1.length : Int) : Int).toNat * 3 + 2, none⟩ = false := hfr26 2
          clear hcl26 hcc26 hfr26 hM26
          replace p26 := eq_true p26
          replace q26 := eq_true q26
          have HX32 := Ad.mk (show Kd.N k42 42 wr w.heap.size (fun k_ => ((P1_ k_ ∨ P2_2_ k_) ∨ w.heap.size ≤ k_) ∧ k_ ≠ gb188) (.slice (some ⟨go26, 0, none⟩) x7_1.length co21) x7_1 from (by (with_reducible repeat (first | apply Kd.N_alloc | apply Kd.N_drewN | apply Kd.N_drew)); exact HO_7.out))
          obtain ⟨ce32, hcl32, hM32, hcc32, hfr32⟩ := Kd.N_elem HX32.out z42 ((l1.length : Int) : Int) (of_decide_eq_true (by first | (with_reducible assumption) | assumption)) (by have h_ : ((l1.length : Int) : Int) < ((x7_1.length : Int) : Int) := of_decide_eq_true (by first | (with_reducible assumption) | assumption); first | exact h_ | (have e_ := (Kd.N_reads' HO_7.out).1; omega) | simpa using h_)
          obtain ⟨ua32_2, uc32_2, rfl, ul32_2, ge32_2⟩ := k42_openF hM32
          have HP32 := Kd.N_seg HX32.out ((l1.length : Int) : Int) (of_decide_eq_true (by first | (with_reducible assumption) | assumption)) (by have h_ : ((l1.length : Int) : Int) < ((x7_1.length : Int) : Int) := of_decide_eq_true (by first | (with_reducible assumption) | assumption); first | exact h_ | (have e_ := (Kd.N_reads' HO_7.out).1; omega) | simpa using h_) (seg := [.int .i64 (wrap64 (Int.tdiv (wrap64 ((wrap64 (x8_1 + x9_1)) + 1)) 2))]) (j := 1) hcl32 hcc32 (show 2 ≤ 3 from by decide) (x' := (⟨(rd_T42 x7_1 (l1.length : Int)).f0, wrap64 (Int.tdiv (wrap64 ((wrap64 (x8_1 + x9_1)) + 1)) 2), (rd_T42 x7_1 (l1.length : Int)).f2⟩ : S42)) (k42_mkF _ _ (⟨(rd_T42 x7_1 (l1.length : Int)).f0, wrap64 (Int.tdiv (wrap64 ((wrap64 (x8_1 + x9_1)) + 1)) 2), (rd_T42 x7_1 (l1.length : Int)).f2⟩ : S42) ul32_2 ge32_2) (fun _ hk => hk)
          have hx32_1 := hcc32 1 _ rfl
          (try simp only [show (k42).sz = 3 from rfl, Nat.mul_one, Nat.add_zero, Int.toNat_natCast] at hx32_1)
          have hf32_1 := hfr32 1
          (try simp only [show (k42).sz = 3 from rfl, Nat.mul_one, Nat.add_zero, Int.toNat_natCast] at hf32_1)
          clear hcl32 hcc32 hfr32 hM32
          go_wp2_with (first | ((with_reducible refine gate_store (t := 3) (p := 39) rfl ?_); refine store_event (t := 3) (p := 39) (v := ?vo_w33) (w1 := (wr.setCell ⟨go26, ((l1.length : Int) : Int).toNat * 3 + 1, none⟩ (.int .i64 (wrap64 (Int.tdiv (wrap64 ((wrap64 (x8_1 + x9_1)) + 1)) 2))))) ?hg ?ho ?hn ?hr ?_; (case ho => rfl); (case hg => rfl); (case hn => rfl); (case hr => first | (go_simp; done) | (go_simp; rfl)); intro w33 hw; have hg : wr.grownBy w33 (some go26) := (by rw [hw]; exact HP32.2); have hp_ : Kd.N k42 42 w33 w.heap.size (fun k_ => ((P1_ k_ ∨ P2_2_ k_) ∨ w.heap.size ≤ k_) ∧ k_ ≠ gb188) (.slice (some ⟨go26, 0, none⟩) x7_1.length co21) y200 := (by rw [hw, Ny200.out]; exact HP32.1); clear HP32; have n0_ := Ad.mk (Kd.V_afterv (v := (.slice (some ⟨go26, 0, none⟩) x7_1.length co21)) (v1 := (.slice (some ⟨go26, 0, none⟩) x7_1.length co21)) (ok := (fun k_ => ((P1_ k_ ∨ P2_2_ k_) ∨ w.heap.size ≤ k_) ∧ k_ ≠ gb188)) (by (with_reducible repeat (first | apply Kd.V_alloc | apply Kd.V_drewN | apply Kd.V_drew)); exact Kd.V_mono HO_1.out (fun _ hk => ⟨⟨hk.1, hk.2.2⟩, hk.2.1⟩)) hg (.inl rfl)); have n1_ := Ad.mk (hp_); have n2_ := Ad.mk (Kd.V_afterv (v := (.slice (some ⟨go26, 0, none⟩) x7_1.length co21)) (v1 := (.slice (some ⟨go26, 0, none⟩) x7_1.length co21)) (ok := (fun k_ => ((P1_ k_ ∨ P2_2_ k_) ∨ w.heap.size ≤ k_) ∧ k_ ≠ gb188)) (by (with_reducible repeat (first | apply Kd.V_alloc | apply Kd.V_drewN | apply Kd.V_drew)); exact Kd.V_mono HO_189002.out (fun _ hk => ⟨⟨hk.1, hk.2.2⟩, hk.2.1⟩)) hg (.inl rfl)); have n3_ := Ad.mk (blk_grown (g := gb188) (o := .cells #[.int .i64 a2_0, .int .i64 x189001_1, .slice A2_2 l2_2.length c2_2] 42 (0, 0)) (by (with_reducible repeat (first | refine bkN ?_ _ | refine bkd ?_ | refine bka ?_ _)); exact BK188.out) hg (Kd.N_away HO_7.out (fun _ hk => hk.2))); have n4_ := Ad.mk ((by rw [hw]; exact bws (HB.out) GB26.out : Below w.heap.size w w33)); clear HO_1; clear HO_7; clear HO_189002; clear BK188; clear HB; have HO_1 := n0_; have HO_7 := n1_; have HO_189002 := n2_; have BK188 := n3_; have HB := n4_; clear n0_ n1_ n2_ n3_ n4_; clear hg hw hp_) | ((with_reducible refine qa4 (f := 25) rfl ?_); refine goesL_ (some 42) rfl rfl Try.func25 (by kernel_rfl) rfl #[.slice A0 l0.length c0, .slice (some ⟨go26, 0, none⟩) y200.length co21] rfl (by (try simp only [List.map_toArray, List.map_cons, List.map_nil]); first | done | (rw [show y200.length = x7_1.length from (Kd.N_reads' HO_7.out).1.symm] <;> rfl) | rfl | (simp only [List.length_drop, List.length_take]; rfl)) ?_; (with_reducible refine (impl_SafeLoans.calls k1 _ _ l0 _ _ y200 false _ ?side1 ?side2 ?side3 ?side4 A27.out).mono ?_); (case side1 => repeat (first | exact (Kd.C_below HR0.out HB.out) | (with_reducible refine Kd.C_alloc ?_ _) | (with_reducible refine Kd.C_drewN ?_ _) | (with_reducible refine Kd.C_drew ?_))); (case side2 => exact HC0.out); (case side3 => repeat (first | exact (Kd.N_reads' HO_7.out).2.2 | (with_reducible refine Kd.C_alloc ?_ _) | (with_reducible refine Kd.C_drewN ?_ _) | (with_reducible refine Kd.C_drew ?_))); (case side4 => rw [show y200.length = x7_1.length from (Kd.N_reads' HO_7.out).1.symm]; exact (Kd.N_reads' HO_7.out).2.1); rintro e w34 ⟨rfl, hb⟩; refine ⟨_, rfl, ?_⟩; have n0_ := Ad.mk (Kd.V_below (by (with_reducible repeat (first | apply Kd.V_alloc | apply Kd.V_drewN | apply Kd.V_drew)); exact HO_1.out) hb); have n1_ := Ad.mk (Kd.N_below (by (with_reducible repeat (first | apply Kd.N_alloc | apply Kd.N_drewN | apply Kd.N_drew)); exact HO_7.out) hb); have n2_ := Ad.mk (Kd.V_below (by (with_reducible repeat (first | apply Kd.V_alloc | apply Kd.V_drewN | apply Kd.V_drew)); exact HO_189002.out) hb); have n3_ := Ad.mk (qa3 (g := gb188) (o := .cells #[.int .i64 a2_0, .int .i64 x189001_1, .slice A2_2 l2_2.length c2_2] 42 (0, 0)) (by (with_reducible repeat (first | refine bkN ?_ _ | refine bkd ?_ | refine bka ?_ _)); exact BK188.out) hb); have n4_ := Ad.mk (qa2 (by repeat (first | (with_reducible first | exact HB.out | apply bwa | apply bwN | apply bw1 | refine bws ?_ GE188.out) | exact HB.out)) hb); clear HO_1; clear HO_7; clear HO_189002; clear BK188; clear HB; have HO_1 := n0_; have HO_7 := n1_; have HO_189002 := n2_; have BK188 := n3_; have HB := n4_; clear n0_ n1_ n2_ n3_ n4_; (try clear hb); (try clear hb2); (try clear hk); (try clear hi)))
          (try simp only [← hl7_1])
          go_roundg k1
          case measure => have := HK1.out; omega
          case rel => exact ⟨(y200), (x8_1), (wrap64 ((wrap64 (Int.tdiv (wrap64 ((wrap64 (x8_1 + x9_1)) + 1)) 2)) - 1)), (x189001_1), (by first | rfl | (simp; done) | (simp [*]; done)), (by first | rfl | (simp; done) | (simp [*]; done)), H', ⟨by have := HK1.out; omega⟩, ⟨by (try simp only [hl7_1]); (with_reducible repeat (first | apply Kd.V_alloc | apply Kd.V_drewN | apply Kd.V_drew)); exact Kd.V_mono HO_1.out (fun _ hk => ⟨hk.1.1, ⟨hk.2, hk.1.2⟩⟩)⟩, ⟨by (try simp only [hl7_1]); (with_reducible repeat (first | apply Kd.N_alloc | apply Kd.N_drewN | apply Kd.N_drew)); exact HO_7.out⟩, ⟨by (try simp only [hl7_1]); (with_reducible repeat (first | apply Kd.V_alloc | apply Kd.V_drewN | apply Kd.V_drew)); exact Kd.V_mono HO_189002.out (fun _ hk => ⟨hk.1.1, ⟨hk.2, hk.1.2⟩⟩)⟩, ⟨by (try simp only [hl7_1]); (with_reducible repeat (first | refine bkN ?_ _ | refine bkd ?_ | refine bka ?_ _)); exact BK188.out⟩, ⟨by repeat (first | (with_reducible first | exact HB.out | apply bwa | apply bwN | apply bw1 | refine bws ?_ GE188.out) | exact HB.out)⟩⟩
        ·rw [if_neg c25] at H
         exact absurd H (by simp)
       ·rw [if_neg c24] at H
        exact absurd H (by simp)
      ·rw [if_neg c23] at H
       have c23b0 : decide (x8_1 < x9_1) = false := decide_eq_false c23
       clear c23
       obtain rfl := Option.some.inj H
       go_wp2
       go_ret
       exact ⟨by first | rfl | (simp [errW_none, errW_some] <;> rfl) | (simp [*, errW_none, errW_some] <;> rfl), by repeat (first | (with_reducible first | exact HB.out | apply bwa | apply bwN | apply bw1 | refine bws ?_ GE188.out) | exact HB.out)⟩
   ·replace c9 := Bool.eq_false_iff.mpr c9
    subst c9
    have H1 : (some (-1)) = some r := by rw [if_neg (show ¬ (false = true) by decide)] at H; exact H
    clear H
    have H := H1
    clear H1
    obtain rfl := Option.some.inj H
    go_enter Try.func23, Try.ntmps23
    try go_wp2_with (first | ((with_reducible refine gate_dst (N := 5) rfl ?_); refine box_event ?hg (N := 5) ?hd (cs := #[.int .i64 a2_0, .int .i64 a2_1, .slice A2_2 l2_2.length c2_2]) (t := 42) ?hr ?_; (case hd => rfl); (case hg => rfl); (case hr => first | (go_simp; done) | (go_simp; rfl)); intro gb188 hg w35 hbox hb; have n0_ := Ad.mk (Kd.V_below (Kd.V_elderB (by (with_reducible repeat (first | apply Kd.V_alloc | apply Kd.V_drewN | apply Kd.V_drew)); exact HO1.out) gb188 (Nat.le_of_eq hg.symm)) hb); have n1_ := Ad.mk (Kd.V_below (Kd.V_elderB (by (with_reducible repeat (first | apply Kd.V_alloc | apply Kd.V_drewN | apply Kd.V_drew)); exact HO2_2.out) gb188 (Nat.le_of_eq hg.symm)) hb); have n2_ := Ad.mk (qa2 (by repeat (first | (with_reducible first | exact HB.out | apply bwa | apply bwN | apply bw1) | exact HB.out)) hb); have n3_ := Ad.mk (hbox); have n4_ := Ad.mk ((by rw [hg]; exact (qa0 (by repeat (first | (with_reducible first | exact HB.out | apply bwa | apply bwN | apply bw1) | exact HB.out))) : w.heap.size ≤ gb188)); have n5_ := Ad.mk ((by rw [hg]; exact (qa0 (by repeat (first | (with_reducible first | exact HB.out | apply bwa | apply bwN | apply bw1) | exact HB.out))) : w.heap.size ≤ gb188)); clear HO1; clear HO2_2; clear HB; have HO1 := n0_; have HO2_2 := n1_; have HB := n2_; have BK188 := n3_; have GW188 := n4_; have GE188 := n5_; clear n0_ n1_ n2_ n3_ n4_ n5_; clear hb hbox hg) | ((with_reducible refine qa4 (f := 25) rfl ?_); refine goesL_ (some 13) rfl rfl Try.func25 (by kernel_rfl) rfl #[.slice A0 l0.length c0, .slice A1 l1.length c1] rfl (by (try simp only [List.map_toArray, List.map_cons, List.map_nil]); first | done | rfl | (simp only [List.length_drop, List.length_take]; rfl)) ?_; (with_reducible refine (impl_SafeLoans.calls k _ _ l0 _ _ l1 true _ ?side1 ?side2 ?side3 ?side4 A4.out).mono ?_); (case side1 => repeat (first | exact (Kd.C_below HR0.out HB.out) | (with_reducible refine Kd.C_alloc ?_ _) | (with_reducible refine Kd.C_drewN ?_ _) | (with_reducible refine Kd.C_drew ?_))); (case side2 => exact HC0.out); (case side3 => repeat (first | exact (Kd.V_reads' HO1.out).2.2 | (with_reducible refine Kd.C_alloc ?_ _) | (with_reducible refine Kd.C_drewN ?_ _) | (with_reducible refine Kd.C_drew ?_))); (case side4 => exact (Kd.V_reads' HO1.out).2.1); rintro e w36 ⟨rfl, hb⟩; refine ⟨_, rfl, ?_⟩; have n0_ := Ad.mk (Kd.V_below (by (with_reducible repeat (first | apply Kd.V_alloc | apply Kd.V_drewN | apply Kd.V_drew)); exact HO1.out) hb); have n1_ := Ad.mk (Kd.V_below (by (with_reducible repeat (first | apply Kd.V_alloc | apply Kd.V_drewN | apply Kd.V_drew)); exact HO2_2.out) hb); have n2_ := Ad.mk (qa3 (g := gb188) (o := .cells #[.int .i64 a2_0, .int .i64 a2_1, .slice A2_2 l2_2.length c2_2] 42 (0, 0)) (by (with_reducible repeat (first | refine bkN ?_ _ | refine bkd ?_ | refine bka ?_ _)); exact BK188.out) hb); have n3_ := Ad.mk (qa2 (by repeat (first | (with_reducible first | exact HB.out | apply bwa | apply bwN | apply bw1 | refine bws ?_ GE188.out) | exact HB.out)) hb); clear HO1; clear HO2_2; clear BK188; clear HB; have HO1 := n0_; have HO2_2 := n1_; have BK188 := n2_; have HB := n3_; clear n0_ n1_ n2_ n3_; (try clear hb); (try clear hb2); (try clear hk); (try clear hi); have hcz37_0 : w36.cell? ⟨gb188, 0, none⟩ = some (.int .i64 a2_0) := (bkc BK188.out 0).trans rfl; have hcz37_1 : w36.cell? ⟨gb188, 1, none⟩ = some (.int .i64 a2_1) := (bkc BK188.out 1).trans rfl; have hcz37_2 : w36.cell? ⟨gb188, 2, none⟩ = some (.slice A2_2 l2_2.length c2_2) := (bkc BK188.out 2).trans rfl; have hfz37_0 := qa1 BK188.out 0; have hfz37_1 := qa1 BK188.out 1; have hfz37_2 := qa1 BK188.out 2))
    have n0_ : Ad (Kd.V k42 42 (w36.setCell ⟨gb188, 1, none⟩ (.int .i64 1)) w.heap.size (fun k_ => ((P1_ k_ ∨ P2_2_ k_) ∨ w.heap.size ≤ k_) ∧ k_ ≠ gb188) (.slice A1 l1.length c1) l1) := ⟨by (with_reducible repeat (first | apply Kd.V_alloc | apply Kd.V_drewN | apply Kd.V_drew)); exact Kd.V_mono (Kd.V_far (p := ⟨gb188, 1, none⟩) (Kd.V_mono HO1.out (fun k_ hk => (⟨hk, hk.2⟩ : _ ∧ k_ ≠ gb188))) (fun _ hk => hk.2) (.int .i64 1)) (fun _ hk => ⟨hk.1.1, hk.1.2⟩)⟩
    have n1_ : Ad (Kd.V (Kd.int .i64) 3 (w36.setCell ⟨gb188, 1, none⟩ (.int .i64 1)) w.heap.size (fun k_ => ((P1_ k_ ∨ P2_2_ k_) ∨ w.heap.size ≤ k_) ∧ k_ ≠ gb188) (.slice A2_2 l2_2.length c2_2) l2_2) := ⟨by (with_reducible repeat (first | apply Kd.V_alloc | apply Kd.V_drewN | apply Kd.V_drew)); exact Kd.V_mono (Kd.V_far (p := ⟨gb188, 1, none⟩) (Kd.V_mono HO2_2.out (fun k_ hk => (⟨hk, hk.2⟩ : _ ∧ k_ ≠ gb188))) (fun _ hk => hk.2) (.int .i64 1)) (fun _ hk => ⟨hk.1.1, hk.1.2⟩)⟩
    have n2_ : Ad ((w36.setCell ⟨gb188, 1, none⟩ (.int .i64 1)).heap[gb188]? = some (.cells #[.int .i64 a2_0, .int .i64 1, .slice A2_2 l2_2.length c2_2] 42 (0, 0))) := ⟨by (with_reducible repeat (first | refine bkN ?_ _ | refine bkd ?_ | refine bka ?_ _)); refine blk_put (cs := #[.int .i64 a2_0, .int .i64 a2_1, .slice A2_2 l2_2.length c2_2]) ?_ 1 _ rfl; (with_reducible repeat (first | refine bkN ?_ _ | refine bkd ?_ | refine bka ?_ _)); exact BK188.out⟩
    have n3_ : Ad (Below w.heap.size w (w36.setCell ⟨gb188, 1, none⟩ (.int .i64 1))) := ⟨by repeat (first | (with_reducible first | exact HB.out | apply bwa | apply bwN | apply bw1 | refine bws ?_ GE188.out) | exact HB.out)⟩
    (try clear HO1)
    (try clear HO2_2)
    (try clear BK188)
    (try clear HB)
    generalize (w36.setCell ⟨gb188, 1, none⟩ (.int .i64 1)) = w38 at n0_ n1_ n2_ n3_ ⊢
    have HO1 := n0_
    have HO2_2 := n1_
    have BK188 := n2_
    have HB := n3_
    clear n0_ n1_ n2_ n3_
    have n0_ := Ad.mk (Kd.V_drew HO1.out)
    have n1_ := Ad.mk (Kd.V_drew HO2_2.out)
    have n2_ := Ad.mk (bkd BK188.out)
    have n3_ := Ad.mk (bw1 HB.out)
    clear HO1
    clear HO2_2
    clear BK188
    clear HB
    have HO1 := n0_
    have HO2_2 := n1_
    have BK188 := n2_
    have HB := n3_
    clear n0_ n1_ n2_ n3_
    refine start_ (n := 6) (S := fun w' => w'.cell? ⟨gb188, 0, none⟩ = some (.int .i64 a2_0) ∧ w'.cell? ⟨gb188, 1, none⟩ = some (.int .i64 1) ∧ w'.cell? ⟨gb188, 2, none⟩ = some (.slice A2_2 l2_2.length c2_2)) (ds := []) #[false, false, false, false, false, false] (by kernel_rfl) rfl rfl ⟨(bkc BK188.out 0).trans rfl, (bkc BK188.out 1).trans rfl, (bkc BK188.out 2).trans rfl⟩ (fun hHeld => ?_)
    generalize w38.drew = w39 at HO1 HO2_2 BK188 HB hHeld ⊢
    refine pure_ (i := 0) (N := some 16) (v := ?_) (a' := ?_) #[true, false, false, false, false, false] rfl rfl (by kernel_rfl) (fun _ _ _ h => h) (Or.inl ⟨by rfl, ?_⟩) ?_ ?_
    rotate_left
    ·intro w'
     go_simp
     with_reducible rfl
    rotate_left
    ·simp only [Act.put, List.setIfInBounds_toArray, List.set_cons_zero, List.set_cons_succ, qa5, qa6]
     rfl
    refine take_ (i := 2) (N := some 18) (v := ?_) (a' := ?_) #[true, false, true, false, false, false] rfl rfl (by kernel_rfl) (fun _ _ _ h => h) (Or.inl ⟨by rfl, ?_⟩) hHeld ?_ ?_
    rotate_left
    ·rintro w' ⟨s0, s1, s2⟩
     go_simp
     with_reducible rfl
    rotate_left
    ·simp only [Act.put, List.setIfInBounds_toArray, List.set_cons_zero, List.set_cons_succ, qa5, qa6]
     rfl
    refine join_ (σ := Value × Value) 2 #[true, true, true, true, false, false] (fun s_ => [(17, s_.1), (19, s_.2)]) (fun s_ w' => (w'.cell? ⟨gb188, 0, none⟩ = some (.int .i64 a2_0) ∧ w'.cell? ⟨gb188, 1, none⟩ = some (.int .i64 1) ∧ w'.cell? ⟨gb188, 2, none⟩ = some (.slice A2_2 l2_2.length c2_2)) ∧ (Kd.V k42 42 w' w.heap.size (fun k_ => ((P1_ k_ ∨ P2_2_ k_) ∨ w.heap.size ≤ k_) ∧ some k_ ≠ (s_.1 : Value).ownBlock ∧ some k_ ≠ (s_.2 : Value).ownBlock ∧ k_ ≠ gb188) (.slice A1 l1.length c1) l1) ∧ (Kd.N k42 42 w' w.heap.size (fun k_ => ((P1_ k_ ∨ P2_2_ k_) ∨ w.heap.size ≤ k_) ∧ some k_ ≠ (s_.2 : Value).ownBlock ∧ k_ ≠ gb188) s_.1 t190) ∧ (Kd.N k42 42 w' w.heap.size (fun k_ => ((P1_ k_ ∨ P2_2_ k_) ∨ w.heap.size ≤ k_) ∧ some k_ ≠ (s_.1 : Value).ownBlock ∧ k_ ≠ gb188) s_.2 y193) ∧ (Kd.V (Kd.int .i64) 3 w' w.heap.size (fun k_ => ((P1_ k_ ∨ P2_2_ k_) ∨ w.heap.size ≤ k_) ∧ some k_ ≠ (s_.1 : Value).ownBlock ∧ some k_ ≠ (s_.2 : Value).ownBlock ∧ k_ ≠ gb188) (.slice A2_2 l2_2.length c2_2) l2_2) ∧ (w'.heap[gb188]? = some (.cells #[.int .i64 a2_0, .int .i64 1, .slice A2_2 l2_2.length c2_2] 42 (0, 0))) ∧ (Below w.heap.size w w')) ?_ ?_
    rotate_left
    ·intro hCont
     refine two_ (i := 1) (j := 3) (Ni := some 17) (Nj := some 19) #[true, true, true, false, false, false] #[true, false, true, true, false, false] rfl rfl rfl rfl (by kernel_rfl) (by decide) (by decide) (fun K hK => ?_) (fun K hK => ?_)
     ·skip
      refine goes_ Try.func60 (by kernel_rfl) rfl #[.slice A1 l1.length c1] (by rfl) rfl rfl (by (try simp only [List.map_toArray, List.map_cons, List.map_nil]); first | done | rfl | (simp only [List.length_drop, List.length_take]; rfl)) ?_
      with_reducible refine (impl_Loan.calls (fun k_ => (((P1_ k_ ∨ P2_2_ k_) ∨ w.heap.size ≤ k_) ∧ k_ ≠ gb188)) _ _ l1 t190 _ ?side1 A6.out).mono ?_
      (case side1 => exact HO1.out)
      rintro e w40 ⟨v191, rfl, ho0, hb⟩
      refine ⟨_, rfl, ?_⟩
      have n0_ := Ad.mk (Kd.V_elder' (by (with_reducible repeat (first | apply Kd.V_alloc | apply Kd.V_drewN | apply Kd.V_drew)); exact HO1.out) (Kd.N_base ho0) hb)
      have n1_ := Ad.mk (Kd.V_elder' (by (with_reducible repeat (first | apply Kd.V_alloc | apply Kd.V_drewN | apply Kd.V_drew)); exact HO2_2.out) (Kd.N_base ho0) hb)
      have n2_ := Ad.mk (Kd.N_lower (Kd.N_mono (ok' := fun k_ => ((P1_ k_ ∨ P2_2_ k_) ∨ w.heap.size ≤ k_) ∧ k_ ≠ gb188) ho0 (fun k_ hk_ => ⟨Or.elim hk_ (fun hs_ => hs_.1) (fun hn_ => (.inr (Nat.le_trans (qa0 (by repeat (first | (with_reducible first | exact HB.out | apply bwa | apply bwN | apply bw1 | refine bws ?_ GE188.out) | exact HB.out))) hn_))), Or.elim hk_ (fun hs_ => hs_.2) (fun hn_ => (Kd.freshB (g := gb188) (o := .cells #[.int .i64 a2_0, .int .i64 1, .slice A2_2 l2_2.length c2_2] 42 (0, 0)) (by (with_reducible repeat (first | refine bkN ?_ _ | refine bkd ?_ | refine bka ?_ _)); exact BK188.out) k_ hn_))⟩)) (qa0 (by repeat (first | (with_reducible first | exact HB.out | apply bwa | apply bwN | apply bw1 | refine bws ?_ GE188.out) | exact HB.out))))
      have n3_ := Ad.mk (qa3 (g := gb188) (o := .cells #[.int .i64 a2_0, .int .i64 1, .slice A2_2 l2_2.length c2_2] 42 (0, 0)) (by (with_reducible repeat (first | refine bkN ?_ _ | refine bkd ?_ | refine bka ?_ _)); exact BK188.out) hb)
      have n4_ := Ad.mk (qa2 (by repeat (first | (with_reducible first | exact HB.out | apply bwa | apply bwN | apply bw1 | refine bws ?_ GE188.out) | exact HB.out)) hb)
      clear HO1
      clear HO2_2
      clear BK188
      clear HB
      have HO1 := n0_
      have HO2_2 := n1_
      have HO192 := n2_
      have BK188 := n3_
      have HB := n4_
      clear n0_ n1_ n2_ n3_ n4_
      (try clear hb)
      (try clear hb2)
      (try clear hk)
      (try clear hi)
      (try clear ho0)
      refine hK.out _ _ ⟨(bkc BK188.out 0).trans rfl, (bkc BK188.out 1).trans rfl, (bkc BK188.out 2).trans rfl⟩ (fun hHeld => ?_)
      clear hK K
      refine norm_ (a' := ?_) ?_ ?_
      rotate_left
      ·show Act.put _ (some 17) _ = _
       simp only [Act.put, List.setIfInBounds_toArray, List.set_cons_zero, List.set_cons_succ, qa5, qa6]
       rfl
      refine one_ (i := 3) (N := some 19) #[true, true, true, true, false, false] rfl rfl (by kernel_rfl) (by decide) (fun K hK => ?_)
      refine Kd.N_lit_step k42 _ 42 ?hg (N' := 19) ?hd (xs := ([(⟨a2_0, 1, l2_2⟩ : S42)] : List (S42))) (inner := [.int .i64 a2_0, .int .i64 1, .slice A2_2 l2_2.length c2_2]) (ok := (fun k_ => ((P1_ k_ ∨ P2_2_ k_) ∨ w.heap.size ≤ k_) ∧ some k_ ≠ (v191 : Value).ownBlock ∧ k_ ≠ gb188)) (okp := (fun k_ => ((P1_ k_ ∨ P2_2_ k_) ∨ w.heap.size ≤ k_) ∧ some k_ ≠ (v191 : Value).ownBlock ∧ k_ ≠ gb188)) ?hr ?hp (fun _ hk => hk) ((show ∀ k_, w40.heap.size ≤ k_ → (fun k_ => ((P1_ k_ ∨ P2_2_ k_) ∨ w.heap.size ≤ k_) ∧ some k_ ≠ (v191 : Value).ownBlock ∧ k_ ≠ gb188) k_ from fun k_ hk => ⟨(.inr (Nat.le_trans (qa0 (by repeat (first | (with_reducible first | exact HB.out | apply bwa | apply bwN | apply bw1 | refine bws ?_ GE188.out) | exact HB.out))) hk)), Kd.fresh' (Kd.N_lt (by (with_reducible repeat (first | apply Kd.N_alloc | apply Kd.N_drewN | apply Kd.N_drew)); exact HO192.out)) k_ hk, Kd.freshB (g := gb188) (o := .cells #[.int .i64 a2_0, .int .i64 1, .slice A2_2 l2_2.length c2_2] 42 (0, 0)) (by (with_reducible repeat (first | refine bkN ?_ _ | refine bkd ?_ | refine bka ?_ _)); exact BK188.out) k_ hk⟩) _ (Nat.le_refl _)) (Below.refl _ _) (Nat.le_refl _) (by simp) ?_; (case hd => rfl); (case hg => rfl); (case hr => first | (go_simp; done) | (go_simp; rfl)); (case hp => exact (Reps.c3 (show Kd.FK k42 _ _ (⟨a2_0, 1, l2_2⟩ : S42) [.int .i64 a2_0, .int .i64 1, .slice A2_2 l2_2.length c2_2] from (k42_mkF _ _ (⟨a2_0, 1, l2_2⟩ : S42) (Kd.V_reads' (have z_ := HO2_2.out; Kd.V_mono (ok' := (fun k_ => ((P1_ k_ ∨ P2_2_ k_) ∨ w.heap.size ≤ k_) ∧ some k_ ≠ (v191 : Value).ownBlock ∧ k_ ≠ gb188)) z_ (fun k_ hk => ⟨hk.1.1, ⟨hk.2, hk.1.2⟩⟩))).2.1 (Kd.V_F (have z_ := HO2_2.out; Kd.V_mono (ok' := (fun k_ => ((P1_ k_ ∨ P2_2_ k_) ∨ w.heap.size ≤ k_) ∧ some k_ ≠ (v191 : Value).ownBlock ∧ k_ ≠ gb188)) z_ (fun k_ hk => ⟨hk.1.1, ⟨hk.2, hk.1.2⟩⟩))))) (Reps.none _ _)))
      intro v194 w41 ho42 hb hg_ hnew_
      clear hg_ hnew_
      (first | rw [← Ny193.out] at ho42 | (simp only [Int.reduceToNat] at ho42; rw [← Ny193.out] at ho42))
      have n0_ := Ad.mk (Kd.V_elder' (by (with_reducible repeat (first | apply Kd.V_alloc | apply Kd.V_drewN | apply Kd.V_drew)); exact HO1.out) (Kd.N_base ho42) hb)
      have n1_ := Ad.mk (Kd.V_elder' (by (with_reducible repeat (first | apply Kd.V_alloc | apply Kd.V_drewN | apply Kd.V_drew)); exact HO2_2.out) (Kd.N_base ho42) hb)
      have n2_ := Ad.mk (Kd.N_elder' (by (with_reducible repeat (first | apply Kd.N_alloc | apply Kd.N_drewN | apply Kd.N_drew)); exact HO192.out) (Kd.N_base ho42) hb)
      have n3_ := Ad.mk (Kd.N_lower ho42 (qa0 (by repeat (first | (with_reducible first | exact HB.out | apply bwa | apply bwN | apply bw1 | refine bws ?_ GE188.out) | exact HB.out))))
      have n4_ := Ad.mk (qa3 (g := gb188) (o := .cells #[.int .i64 a2_0, .int .i64 1, .slice A2_2 l2_2.length c2_2] 42 (0, 0)) (by (with_reducible repeat (first | refine bkN ?_ _ | refine bkd ?_ | refine bka ?_ _)); exact BK188.out) hb)
      have n5_ := Ad.mk (qa2 (by repeat (first | (with_reducible first | exact HB.out | apply bwa | apply bwN | apply bw1 | refine bws ?_ GE188.out) | exact HB.out)) hb)
      clear HO1
      clear HO2_2
      clear HO192
      clear BK188
      clear HB
      have HO1 := n0_
      have HO2_2 := n1_
      have HO192 := n2_
      have HO195 := n3_
      have BK188 := n4_
      have HB := n5_
      clear n0_ n1_ n2_ n3_ n4_ n5_
      clear hb ho42
      refine hK.out _ _ ⟨(bkc BK188.out 0).trans rfl, (bkc BK188.out 1).trans rfl, (bkc BK188.out 2).trans rfl⟩ (fun hHeld => ?_)
      clear hK K
      refine norm_ (a' := ?_) ?_ ?_
      rotate_left
      ·show Act.put _ (some 19) _ = _
       simp only [Act.put, List.setIfInBounds_toArray, List.set_cons_zero, List.set_cons_succ, qa5, qa6]
       rfl
      exact norm_ (by simp only [putAll, Act.put, List.setIfInBounds_toArray, List.set_cons_zero, List.set_cons_succ]) (hCont (v191, v194) _ ⟨hHeld, (by (with_reducible repeat (first | apply Kd.V_alloc | apply Kd.V_drewN | apply Kd.V_drew)); exact Kd.V_mono HO1.out (fun _ hk => ⟨hk.1.1.1, ⟨hk.1.2, ⟨hk.2, hk.1.1.2⟩⟩⟩)), (by (with_reducible repeat (first | apply Kd.N_alloc | apply Kd.N_drewN | apply Kd.N_drew)); exact Kd.N_mono HO192.out (fun _ hk => ⟨hk.1.1, ⟨hk.2, hk.1.2⟩⟩)), (by (with_reducible repeat (first | apply Kd.N_alloc | apply Kd.N_drewN | apply Kd.N_drew)); exact HO195.out), (by (with_reducible repeat (first | apply Kd.V_alloc | apply Kd.V_drewN | apply Kd.V_drew)); exact Kd.V_mono HO2_2.out (fun _ hk => ⟨hk.1.1.1, ⟨hk.1.2, ⟨hk.2, hk.1.1.2⟩⟩⟩)), (by (with_reducible repeat (first | refine bkN ?_ _ | refine bkd ?_ | refine bka ?_ _)); exact BK188.out), (by repeat (first | (with_reducible first | exact HB.out | apply bwa | apply bwN | apply bw1 | refine bws ?_ GE188.out) | exact HB.out))⟩)
     ·skip
      refine Kd.N_lit_step k42 _ 42 ?hg (N' := 19) ?hd (xs := ([(⟨a2_0, 1, l2_2⟩ : S42)] : List (S42))) (inner := [.int .i64 a2_0, .int .i64 1, .slice A2_2 l2_2.length c2_2]) (ok := (fun k_ => ((P1_ k_ ∨ P2_2_ k_) ∨ w.heap.size ≤ k_) ∧ k_ ≠ gb188)) (okp := (fun k_ => ((P1_ k_ ∨ P2_2_ k_) ∨ w.heap.size ≤ k_) ∧ k_ ≠ gb188)) ?hr ?hp (fun _ hk => hk) ((show ∀ k_, w39.heap.size ≤ k_ → (fun k_ => ((P1_ k_ ∨ P2_2_ k_) ∨ w.heap.size ≤ k_) ∧ k_ ≠ gb188) k_ from fun k_ hk => ⟨(.inr (Nat.le_trans (qa0 (by repeat (first | (with_reducible first | exact HB.out | apply bwa | apply bwN | apply bw1 | refine bws ?_ GE188.out) | exact HB.out))) hk)), Kd.freshB (g := gb188) (o := .cells #[.int .i64 a2_0, .int .i64 1, .slice A2_2 l2_2.length c2_2] 42 (0, 0)) (by (with_reducible repeat (first | refine bkN ?_ _ | refine bkd ?_ | refine bka ?_ _)); exact BK188.out) k_ hk⟩) _ (Nat.le_refl _)) (Below.refl _ _) (Nat.le_refl _) (by simp) ?_; (case hd => rfl); (case hg => rfl); (case hr => first | (go_simp; done) | (go_simp; rfl)); (case hp => exact (Reps.c3 (show Kd.FK k42 _ _ (⟨a2_0, 1, l2_2⟩ : S42) [.int .i64 a2_0, .int .i64 1, .slice A2_2 l2_2.length c2_2] from (k42_mkF _ _ (⟨a2_0, 1, l2_2⟩ : S42) (Kd.V_reads' (have z_ := HO2_2.out; Kd.V_mono (ok' := (fun k_ => ((P1_ k_ ∨ P2_2_ k_) ∨ w.heap.size ≤ k_) ∧ k_ ≠ gb188)) z_ (fun k_ hk => ⟨hk.1, hk.2⟩))).2.1 (Kd.V_F (have z_ := HO2_2.out; Kd.V_mono (ok' := (fun k_ => ((P1_ k_ ∨ P2_2_ k_) ∨ w.heap.size ≤ k_) ∧ k_ ≠ gb188)) z_ (fun k_ hk => ⟨hk.1, hk.2⟩))))) (Reps.none _ _)))
      intro v194 w40 ho41 hb hg_ hnew_
      clear hg_ hnew_
      (first | rw [← Ny193.out] at ho41 | (simp only [Int.reduceToNat] at ho41; rw [← Ny193.out] at ho41))
      have n0_ := Ad.mk (Kd.V_elder' (by (with_reducible repeat (first | apply Kd.V_alloc | apply Kd.V_drewN | apply Kd.V_drew)); exact HO1.out) (Kd.N_base ho41) hb)
      have n1_ := Ad.mk (Kd.V_elder' (by (with_reducible repeat (first | apply Kd.V_alloc | apply Kd.V_drewN | apply Kd.V_drew)); exact HO2_2.out) (Kd.N_base ho41) hb)
      have n2_ := Ad.mk (Kd.N_lower ho41 (qa0 (by repeat (first | (with_reducible first | exact HB.out | apply bwa | apply bwN | apply bw1 | refine bws ?_ GE188.out) | exact HB.out))))
      have n3_ := Ad.mk (qa3 (g := gb188) (o := .cells #[.int .i64 a2_0, .int .i64 1, .slice A2_2 l2_2.length c2_2] 42 (0, 0)) (by (with_reducible repeat (first | refine bkN ?_ _ | refine bkd ?_ | refine bka ?_ _)); exact BK188.out) hb)
      have n4_ := Ad.mk (qa2 (by repeat (first | (with_reducible first | exact HB.out | apply bwa | apply bwN | apply bw1 | refine bws ?_ GE188.out) | exact HB.out)) hb)
      clear HO1
      clear HO2_2
      clear BK188
      clear HB
      have HO1 := n0_
      have HO2_2 := n1_
      have HO195 := n2_
      have BK188 := n3_
      have HB := n4_
      clear n0_ n1_ n2_ n3_ n4_
      clear hb ho41
      refine hK.out _ _ ⟨(bkc BK188.out 0).trans rfl, (bkc BK188.out 1).trans rfl, (bkc BK188.out 2).trans rfl⟩ (fun hHeld => ?_)
      clear hK K
      refine norm_ (a' := ?_) ?_ ?_
      rotate_left
      ·show Act.put _ (some 19) _ = _
       simp only [Act.put, List.setIfInBounds_toArray, List.set_cons_zero, List.set_cons_succ, qa5, qa6]
       rfl
      refine one_ (i := 1) (N := some 17) #[true, true, true, true, false, false] rfl rfl (by kernel_rfl) (by decide) (fun K hK => ?_)
      refine goes_ Try.func60 (by kernel_rfl) rfl #[.slice A1 l1.length c1] (by rfl) rfl rfl (by (try simp only [List.map_toArray, List.map_cons, List.map_nil]); first | done | rfl | (simp only [List.length_drop, List.length_take]; rfl)) ?_
      with_reducible refine (impl_Loan.calls (fun k_ => ((((P1_ k_ ∨ P2_2_ k_) ∨ w.heap.size ≤ k_) ∧ k_ ≠ gb188) ∧ some k_ ≠ (v194 : Value).ownBlock)) _ _ l1 t190 _ ?side1 A6.out).mono ?_
      (case side1 => exact HO1.out)
      rintro e w42 ⟨v191, rfl, ho0, hb⟩
      refine ⟨_, rfl, ?_⟩
      have n0_ := Ad.mk (Kd.V_elder' (by (with_reducible repeat (first | apply Kd.V_alloc | apply Kd.V_drewN | apply Kd.V_drew)); exact HO1.out) (Kd.N_base ho0) hb)
      have n1_ := Ad.mk (Kd.V_elder' (by (with_reducible repeat (first | apply Kd.V_alloc | apply Kd.V_drewN | apply Kd.V_drew)); exact HO2_2.out) (Kd.N_base ho0) hb)
      have n2_ := Ad.mk (Kd.N_elder' (by (with_reducible repeat (first | apply Kd.N_alloc | apply Kd.N_drewN | apply Kd.N_drew)); exact HO195.out) (Kd.N_base ho0) hb)
      have n3_ := Ad.mk (Kd.N_lower (Kd.N_mono (ok' := fun k_ => ((P1_ k_ ∨ P2_2_ k_) ∨ w.heap.size ≤ k_) ∧ some k_ ≠ (v194 : Value).ownBlock ∧ k_ ≠ gb188) ho0 (fun k_ hk_ => ⟨Or.elim hk_ (fun hs_ => hs_.1.1) (fun hn_ => (.inr (Nat.le_trans (qa0 (by repeat (first | (with_reducible first | exact HB.out | apply bwa | apply bwN | apply bw1 | refine bws ?_ GE188.out) | exact HB.out))) hn_))), Or.elim hk_ (fun hs_ => hs_.2) (fun hn_ => (Kd.fresh' (Kd.N_lt (by (with_reducible repeat (first | apply Kd.N_alloc | apply Kd.N_drewN | apply Kd.N_drew)); exact HO195.out)) k_ hn_)), Or.elim hk_ (fun hs_ => hs_.1.2) (fun hn_ => (Kd.freshB (g := gb188) (o := .cells #[.int .i64 a2_0, .int .i64 1, .slice A2_2 l2_2.length c2_2] 42 (0, 0)) (by (with_reducible repeat (first | refine bkN ?_ _ | refine bkd ?_ | refine bka ?_ _)); exact BK188.out) k_ hn_))⟩)) (qa0 (by repeat (first | (with_reducible first | exact HB.out | apply bwa | apply bwN | apply bw1 | refine bws ?_ GE188.out) | exact HB.out))))
      have n4_ := Ad.mk (qa3 (g := gb188) (o := .cells #[.int .i64 a2_0, .int .i64 1, .slice A2_2 l2_2.length c2_2] 42 (0, 0)) (by (with_reducible repeat (first | refine bkN ?_ _ | refine bkd ?_ | refine bka ?_ _)); exact BK188.out) hb)
      have n5_ := Ad.mk (qa2 (by repeat (first | (with_reducible first | exact HB.out | apply bwa | apply bwN | apply bw1 | refine bws ?_ GE188.out) | exact HB.out)) hb)
      clear HO1
      clear HO2_2
      clear HO195
      clear BK188
      clear HB
      have HO1 := n0_
      have HO2_2 := n1_
      have HO195 := n2_
      have HO192 := n3_
      have BK188 := n4_
      have HB := n5_
      clear n0_ n1_ n2_ n3_ n4_ n5_
      (try clear hb)
      (try clear hb2)
      (try clear hk)
      (try clear hi)
      (try clear ho0)
      refine hK.out _ _ ⟨(bkc BK188.out 0).trans rfl, (bkc BK188.out 1).trans rfl, (bkc BK188.out 2).trans rfl⟩ (fun hHeld => ?_)
      clear hK K
      refine norm_ (a' := ?_) ?_ ?_
      rotate_left
      ·show Act.put _ (some 17) _ = _
       simp only [Act.put, List.setIfInBounds_toArray, List.set_cons_zero, List.set_cons_succ, qa5, qa6]
       rfl
      exact norm_ (by simp only [putAll, Act.put, List.setIfInBounds_toArray, List.set_cons_zero, List.set_cons_succ]) (hCont (v191, v194) _ ⟨hHeld, (by (with_reducible repeat (first | apply Kd.V_alloc | apply Kd.V_drewN | apply Kd.V_drew)); exact Kd.V_mono HO1.out (fun _ hk => ⟨hk.1.1.1, ⟨hk.2, ⟨hk.1.2, hk.1.1.2⟩⟩⟩)), (by (with_reducible repeat (first | apply Kd.N_alloc | apply Kd.N_drewN | apply Kd.N_drew)); exact HO192.out), (by (with_reducible repeat (first | apply Kd.N_alloc | apply Kd.N_drewN | apply Kd.N_drew)); exact Kd.N_mono HO195.out (fun _ hk => ⟨hk.1.1, ⟨hk.2, hk.1.2⟩⟩)), (by (with_reducible repeat (first | apply Kd.V_alloc | apply Kd.V_drewN | apply Kd.V_drew)); exact Kd.V_mono HO2_2.out (fun _ hk => ⟨hk.1.1.1, ⟨hk.2, ⟨hk.1.2, hk.1.1.2⟩⟩⟩)), (by (with_reducible repeat (first | refine bkN ?_ _ | refine bkd ?_ | refine bka ?_ _)); exact BK188.out), (by repeat (first | (with_reducible first | exact HB.out | apply bwa | apply bwN | apply bw1 | refine bws ?_ GE188.out) | exact HB.out))⟩)
    rintro ⟨v191, v194⟩ w43 ⟨hS_, h0_, h1_, h2_, h3_, h4_, h5_⟩
    have n0_ : Ad (Kd.V k42 42 w43 w.heap.size (fun k_ => ((P1_ k_ ∨ P2_2_ k_) ∨ w.heap.size ≤ k_) ∧ some k_ ≠ (v191 : Value).ownBlock ∧ some k_ ≠ (v194 : Value).ownBlock ∧ k_ ≠ gb188) (.slice A1 l1.length c1) l1) := ⟨h0_⟩
    have n1_ : Ad (Kd.N k42 42 w43 w.heap.size (fun k_ => ((P1_ k_ ∨ P2_2_ k_) ∨ w.heap.size ≤ k_) ∧ some k_ ≠ (v194 : Value).ownBlock ∧ k_ ≠ gb188) v191 t190) := ⟨h1_⟩
    have n2_ : Ad (Kd.N k42 42 w43 w.heap.size (fun k_ => ((P1_ k_ ∨ P2_2_ k_) ∨ w.heap.size ≤ k_) ∧ some k_ ≠ (v191 : Value).ownBlock ∧ k_ ≠ gb188) v194 y193) := ⟨h2_⟩
    have n3_ : Ad (Kd.V (Kd.int .i64) 3 w43 w.heap.size (fun k_ => ((P1_ k_ ∨ P2_2_ k_) ∨ w.heap.size ≤ k_) ∧ some k_ ≠ (v191 : Value).ownBlock ∧ some k_ ≠ (v194 : Value).ownBlock ∧ k_ ≠ gb188) (.slice A2_2 l2_2.length c2_2) l2_2) := ⟨h3_⟩
    have n4_ : Ad (w43.heap[gb188]? = some (.cells #[.int .i64 a2_0, .int .i64 1, .slice A2_2 l2_2.length c2_2] 42 (0, 0))) := ⟨h4_⟩
    have n5_ : Ad (Below w.heap.size w w43) := ⟨h5_⟩
    clear HO1
    clear HO2_2
    clear BK188
    clear HB
    clear h0_ h1_ h2_ h3_ h4_ h5_
    have HO1 := n0_
    have HO192 := n1_
    have HO195 := n2_
    have HO2_2 := n3_
    have BK188 := n4_
    have HB := n5_
    clear n0_ n1_ n2_ n3_ n4_ n5_
    have hHeld : w43.cell? ⟨gb188, 0, none⟩ = some (.int .i64 a2_0) ∧ w43.cell? ⟨gb188, 1, none⟩ = some (.int .i64 1) ∧ w43.cell? ⟨gb188, 2, none⟩ = some (.slice A2_2 l2_2.length c2_2) := hS_
    obtain ⟨Ao45, co45, eo45⟩ := Kd.N_slice HO195.out
    (first | subst eo45 | (injection eo45 with f1_ f2_ f3_; have f4_ := f1_.symm; have f5_ := f3_.symm; clear f1_ f2_ f3_; subst f4_; subst f5_))
    refine norm_ (a' := ?_) ?_ ?_
    rotate_left
    ·simp only [putAll, Act.put, List.setIfInBounds_toArray, List.set_cons_zero, List.set_cons_succ]
     rfl
    refine one_ (i := 4) (N := some 20) #[true, true, true, true, true, false] rfl rfl (by kernel_rfl) (by decide) (fun K hK => ?_)
    refine Kd.N_append_rows_step k42 (w0 := w) w.heap.size (by rfl) (.tmp 17) (.tmp 19) 34 42 (.agg #[(.int .i64 0), (.int .i64 0), (.slice none 0 0)]) 40 rfl Try.underlying34 info42 rfl (by decide) (by omega) v191 t190 y193 _ _ _ (fun k_ => ((P1_ k_ ∨ P2_2_ k_) ∨ w.heap.size ≤ k_) ∧ k_ ≠ gb188) (fun k_ => ((fun k_ => ((P1_ k_ ∨ P2_2_ k_) ∨ w.heap.size ≤ k_) ∧ k_ ≠ gb188)) k_ ∧ some k_ ≠ (v191 : Value).ownBlock) rfl rfl ?aO ?aR (fun _ hk => hk) ?aF ?aB ?aS ?aL ?_
    (case aR => exact (by skip; exact Kd.N_F (Kd.N_mono (ok' := (fun k_ => ((fun k_ => ((P1_ k_ ∨ P2_2_ k_) ∨ w.heap.size ≤ k_) ∧ k_ ≠ gb188)) k_ ∧ some k_ ≠ (v191 : Value).ownBlock)) (HO195.out) (fun k_ hk => ⟨⟨hk.1, hk.2.2⟩, hk.2.1⟩))))
    (case aB => exact (by repeat (first | (with_reducible first | exact HB.out | apply bwa | apply bwN | apply bw1 | refine bws ?_ GE188.out) | exact HB.out)))
    (case aF => exact (fun k_ hk => ⟨(.inr (Nat.le_trans (qa0 (by repeat (first | (with_reducible first | exact HB.out | apply bwa | apply bwN | apply bw1 | refine bws ?_ GE188.out) | exact HB.out))) hk)), Kd.freshB (g := gb188) (o := .cells #[.int .i64 a2_0, .int .i64 1, .slice A2_2 l2_2.length c2_2] 42 (0, 0)) (by (with_reducible repeat (first | refine bkN ?_ _ | refine bkd ?_ | refine bka ?_ _)); exact BK188.out) k_ hk⟩))
    (case aO => exact (by (with_reducible repeat (first | apply Kd.N_alloc | apply Kd.N_drewN | apply Kd.N_drew)); exact Kd.N_mono HO192.out (fun _ hk => ⟨hk.1, hk.2.2⟩)))
    (case aS => exact (qa0 (by repeat (first | (with_reducible first | exact HB.out | apply bwa | apply bwN | apply bw1 | refine bws ?_ GE188.out) | exact HB.out))))
    (case aL => have := LMc7.out; omega)
    intro v197 w44 ho hb hg hat
    rw [← Ny196.out] at ho
    have n0_ := Ad.mk (Kd.V_afterv (ok := (fun k_ => ((P1_ k_ ∨ P2_2_ k_) ∨ w.heap.size ≤ k_) ∧ some k_ ≠ (.slice Ao45 y193.length co45 : Value).ownBlock ∧ k_ ≠ gb188)) (by (with_reducible repeat (first | apply Kd.V_alloc | apply Kd.V_drewN | apply Kd.V_drew)); exact Kd.V_mono HO1.out (fun _ hk => ⟨⟨hk.1, ⟨hk.2.2.1, hk.2.2.2⟩⟩, hk.2.1⟩)) hg hat)
    have n1_ := Ad.mk (Kd.V_afterv (ok := (fun k_ => ((P1_ k_ ∨ P2_2_ k_) ∨ w.heap.size ≤ k_) ∧ some k_ ≠ (.slice Ao45 y193.length co45 : Value).ownBlock ∧ k_ ≠ gb188)) (by (with_reducible repeat (first | apply Kd.V_alloc | apply Kd.V_drewN | apply Kd.V_drew)); exact Kd.V_mono HO2_2.out (fun _ hk => ⟨⟨hk.1, ⟨hk.2.2.1, hk.2.2.2⟩⟩, hk.2.1⟩)) hg hat)
    have n2_ := Ad.mk (blk_grown (g := gb188) (o := .cells #[.int .i64 a2_0, .int .i64 1, .slice A2_2 l2_2.length c2_2] 42 (0, 0)) (by (with_reducible repeat (first | refine bkN ?_ _ | refine bkd ?_ | refine bka ?_ _)); exact BK188.out) hg (Kd.N_away HO192.out (fun _ hk => hk.2.2)))
    have n3_ := Ad.mk (Kd.N_afterv (ok := (fun k_ => ((P1_ k_ ∨ P2_2_ k_) ∨ w.heap.size ≤ k_) ∧ k_ ≠ gb188)) (by (with_reducible repeat (first | apply Kd.N_alloc | apply Kd.N_drewN | apply Kd.N_drew)); exact Kd.N_mono HO195.out (fun _ hk => ⟨⟨hk.1, hk.2.2⟩, hk.2.1⟩)) hg hat)
    have n4_ := Ad.mk (hb)
    have n5_ := Ad.mk (ho)
    clear HO1
    clear HO2_2
    clear BK188
    clear HO195
    clear HB
    clear HO192
    have HO1 := n0_
    have HO2_2 := n1_
    have BK188 := n2_
    have HO195 := n3_
    have HB := n4_
    have HO198 := n5_
    clear n0_ n1_ n2_ n3_ n4_ n5_
    clear ho hb hg hat
    refine hK.out _ _ ⟨(bkc BK188.out 0).trans rfl, (bkc BK188.out 1).trans rfl, (bkc BK188.out 2).trans rfl⟩ (fun hHeld => ?_)
    clear hK K
    refine norm_ (a' := ?_) ?_ ?_
    rotate_left
    ·show Act.put _ (some 20) _ = _
     simp only [Act.put, List.setIfInBounds_toArray, List.set_cons_zero, List.set_cons_succ, qa5, qa6]
     rfl
    refine pure_ (i := 5) (N := some 7) (v := ?_) (a' := ?_) #[true, true, true, true, true, true] rfl rfl (by kernel_rfl) (fun _ _ _ h => h) (Or.inl ⟨by rfl, ?_⟩) ?_ ?_
    rotate_left
    ·intro w'
     go_simp
     with_reducible rfl
    rotate_left
    ·simp only [Act.put, List.setIfInBounds_toArray, List.set_cons_zero, List.set_cons_succ, qa5, qa6]
     rfl
    refine done_ (by kernel_rfl) ?_
    obtain ⟨Ao46, co46, eo46⟩ := Kd.N_slice HO198.out
    subst eo46
    try go_wp2_with (first | ((with_reducible refine qa4 (f := 49) rfl ?_); refine goesL_ (some 24) rfl rfl Try.func49 (by kernel_rfl) rfl #[.slice Ao46 y196.length co46, .int .i64 (l0.length : Int)] rfl (by (try simp only [List.map_toArray, List.map_cons, List.map_nil]); first | done | rfl | (simp only [List.length_drop, List.length_take]; rfl)) ?_; (with_reducible refine (impl_ValidLoans.calls k _ _ y196 (l0.length : Int) false _ ?side1 ?side2 A8.out).mono ?_); (case side1 => repeat (first | exact (Kd.N_reads' HO198.out).2.2 | (with_reducible refine Kd.C_alloc ?_ _) | (with_reducible refine Kd.C_drewN ?_ _) | (with_reducible refine Kd.C_drew ?_))); (case side2 => exact (Kd.N_reads' HO198.out).2.1); rintro e w47 ⟨rfl, hb⟩; refine ⟨_, rfl, ?_⟩; have n0_ := Ad.mk (Kd.V_below (by (with_reducible repeat (first | apply Kd.V_alloc | apply Kd.V_drewN | apply Kd.V_drew)); exact HO1.out) hb); have n1_ := Ad.mk (Kd.V_below (by (with_reducible repeat (first | apply Kd.V_alloc | apply Kd.V_drewN | apply Kd.V_drew)); exact HO2_2.out) hb); have n2_ := Ad.mk (Kd.N_below (by (with_reducible repeat (first | apply Kd.N_alloc | apply Kd.N_drewN | apply Kd.N_drew)); exact HO195.out) hb); have n3_ := Ad.mk (Kd.N_below (by (with_reducible repeat (first | apply Kd.N_alloc | apply Kd.N_drewN | apply Kd.N_drew)); exact HO198.out) hb); have n4_ := Ad.mk (qa3 (g := gb188) (o := .cells #[.int .i64 a2_0, .int .i64 1, .slice A2_2 l2_2.length c2_2] 42 (0, 0)) (by (with_reducible repeat (first | refine bkN ?_ _ | refine bkd ?_ | refine bka ?_ _)); exact BK188.out) hb); have n5_ := Ad.mk (qa2 (by repeat (first | (with_reducible first | exact HB.out | apply bwa | apply bwN | apply bw1 | refine bws ?_ GE188.out) | exact HB.out)) hb); clear HO1; clear HO2_2; clear HO195; clear HO198; clear BK188; clear HB; have HO1 := n0_; have HO2_2 := n1_; have HO195 := n2_; have HO198 := n3_; have BK188 := n4_; have HB := n5_; clear n0_ n1_ n2_ n3_ n4_ n5_; (try clear hb); (try clear hb2); (try clear hk); (try clear hi)))
    go_ret
    exact ⟨by first | rfl | (simp [errW_none, errW_some] <;> rfl) | (simp [*, errW_none, errW_some] <;> rfl), by repeat (first | (with_reducible first | exact HB.out | apply bwa | apply bwN | apply bw1 | refine bws ?_ GE188.out) | exact HB.out)⟩
  ·rw [if_neg c7] at H
   exact absurd H (by simp)
 ·replace c5 := Bool.eq_false_iff.mpr c5
  subst c5
  have H1 : (some (-1)) = some r := by rw [if_neg (show ¬ (false = true) by decide)] at H; exact H
  clear H
  have H := H1
  clear H1
  obtain rfl := Option.some.inj H
  go_enter Try.func23, Try.ntmps23
  go_wp2_with (first | ((with_reducible refine gate_dst (N := 5) rfl ?_); refine box_event ?hg (N := 5) ?hd (cs := #[.int .i64 a2_0, .int .i64 a2_1, .slice A2_2 l2_2.length c2_2]) (t := 42) ?hr ?_; (case hd => rfl); (case hg => rfl); (case hr => first | (go_simp; done) | (go_simp; rfl)); intro gb188 hg w48 hbox hb; have n0_ := Ad.mk (Kd.V_below (Kd.V_elderB (by (with_reducible repeat (first | apply Kd.V_alloc | apply Kd.V_drewN | apply Kd.V_drew)); exact HO1.out) gb188 (Nat.le_of_eq hg.symm)) hb); have n1_ := Ad.mk (Kd.V_below (Kd.V_elderB (by (with_reducible repeat (first | apply Kd.V_alloc | apply Kd.V_drewN | apply Kd.V_drew)); exact HO2_2.out) gb188 (Nat.le_of_eq hg.symm)) hb); have n2_ := Ad.mk (qa2 (by repeat (first | (with_reducible first | exact HB.out | apply bwa | apply bwN | apply bw1) | exact HB.out)) hb); have n3_ := Ad.mk (hbox); have n4_ := Ad.mk ((by rw [hg]; exact (qa0 (by repeat (first | (with_reducible first | exact HB.out | apply bwa | apply bwN | apply bw1) | exact HB.out))) : w.heap.size ≤ gb188)); have n5_ := Ad.mk ((by rw [hg]; exact (qa0 (by repeat (first | (with_reducible first | exact HB.out | apply bwa | apply bwN | apply bw1) | exact HB.out))) : w.heap.size ≤ gb188)); clear HO1; clear HO2_2; clear HB; have HO1 := n0_; have HO2_2 := n1_; have HB := n2_; have BK188 := n3_; have GW188 := n4_; have GE188 := n5_; clear n0_ n1_ n2_ n3_ n4_ n5_; clear hb hbox hg) | ((with_reducible refine qa4 (f := 25) rfl ?_); refine goesL_ (some 13) rfl rfl Try.func25 (by kernel_rfl) rfl #[.slice A0 l0.length c0, .slice A1 l1.length c1] rfl (by (try simp only [List.map_toArray, List.map_cons, List.map_nil]); first | done | rfl | (simp only [List.length_drop, List.length_take]; rfl)) ?_; (with_reducible refine (impl_SafeLoans.calls k _ _ l0 _ _ l1 false _ ?side1 ?side2 ?side3 ?side4 A4.out).mono ?_); (case side1 => repeat (first | exact (Kd.C_below HR0.out HB.out) | (with_reducible refine Kd.C_alloc ?_ _) | (with_reducible refine Kd.C_drewN ?_ _) | (with_reducible refine Kd.C_drew ?_))); (case side2 => exact HC0.out); (case side3 => repeat (first | exact (Kd.V_reads' HO1.out).2.2 | (with_reducible refine Kd.C_alloc ?_ _) | (with_reducible refine Kd.C_drewN ?_ _) | (with_reducible refine Kd.C_drew ?_))); (case side4 => exact (Kd.V_reads' HO1.out).2.1); rintro e w49 ⟨rfl, hb⟩; refine ⟨_, rfl, ?_⟩; have n0_ := Ad.mk (Kd.V_below (by (with_reducible repeat (first | apply Kd.V_alloc | apply Kd.V_drewN | apply Kd.V_drew)); exact HO1.out) hb); have n1_ := Ad.mk (Kd.V_below (by (with_reducible repeat (first | apply Kd.V_alloc | apply Kd.V_drewN | apply Kd.V_drew)); exact HO2_2.out) hb); have n2_ := Ad.mk (qa3 (g := gb188) (o := .cells #[.int .i64 a2_0, .int .i64 a2_1, .slice A2_2 l2_2.length c2_2] 42 (0, 0)) (by (with_reducible repeat (first | refine bkN ?_ _ | refine bkd ?_ | refine bka ?_ _)); exact BK188.out) hb); have n3_ := Ad.mk (qa2 (by repeat (first | (with_reducible first | exact HB.out | apply bwa | apply bwN | apply bw1 | refine bws ?_ GE188.out) | exact HB.out)) hb); clear HO1; clear HO2_2; clear BK188; clear HB; have HO1 := n0_; have HO2_2 := n1_; have BK188 := n2_; have HB := n3_; clear n0_ n1_ n2_ n3_; (try clear hb); (try clear hb2); (try clear hk); (try clear hi)))
  go_ret
  exact ⟨by first | rfl | (simp [errW_none, errW_some] <;> rfl) | (simp [*, errW_none, errW_some] <;> rfl), by repeat (first | (with_reducible first | exact HB.out | apply bwa | apply bwN | apply bw1 | refine bws ?_ GE188.out) | exact HB.out)⟩

end Go.Proofs.Ytifohlgdkdcpeaa.PFnExactMostLoan
