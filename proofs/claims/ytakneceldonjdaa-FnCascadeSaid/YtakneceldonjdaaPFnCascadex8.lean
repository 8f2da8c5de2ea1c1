-- printed by pp.py, a program of this session's own, out of the translation; not the kit's print
-- halved
import Derived.Test.YtakneceldonjdaaPFnCascadex0
import Derived.Test.YtakneceldonjdaaPFnCascadex1
import Derived.Test.YtakneceldonjdaaPFnCascadex7
namespace Go.Proofs.Ytakneceldonjdaa.PFnCascade
open Go.RowKit Go.Proofs.YtakneceldonjdaaW.PrintWords Go.Proofs.YtakneceldonjdaaW.PrintLast Go.Proofs.YtakneceldonjdaaW.PrintMore
attribute [local go_sem] max2_int min2_int max_two min_two max_three min_three max_four min_four   -- for this text's walks alone
set_option linter.unusedVariables false
set_option linter.unusedSimpArgs false

/-! ### spec_fail: function 152 -/
def spec_fail.l0 : Nat → List Int → List Int → List Int → Int → Int → Int → Int → List Int → Option (List Int × Int × List Int)
 | 0, _, _, _, _, _, _, _, _ => none
 | k + 1, x7, x8, x10, x11, x12, x330000, x330001, x330002 => if x12 < (x10.length : Int) then (if 0 ≤ x12 then (if x12 < (x330002.length : Int) then (if 0 ≤ (rd x330002 x12) then (if (rd x330002 x12) < (x7.length : Int) then ((some (x7.set ((rd x330002 x12) : Int).toNat (wrap64 ((rd x7 (rd x330002 x12)) - (mn (rd x7 (rd x330002 x12)) (rd x10 x12)))) : List Int)).bind fun y346 => (if (mn (rd x7 (rd x330002 x12)) (rd x10 x12)) < (rd x10 x12) then (if x8.length < 17592186044416 then (spec_fail.l0 k y346 (x8 ++ [rd x330002 x12]) x10 (wrap64 ((wrap64 (x11 + (rd x10 x12))) - (mn (rd x7 (rd x330002 x12)) (rd x10 x12)))) (wrap64 (x12 + 1)) x330000 x330001 x330002) else (none)) else (spec_fail.l0 k y346 x8 x10 (wrap64 ((wrap64 (x11 + (rd x10 x12))) - (mn (rd x7 (rd x330002 x12)) (rd x10 x12)))) (wrap64 (x12 + 1)) x330000 x330001 x330002))) else (none)) else (none)) else (none)) else (none)) else (some (x7, x11, x8))
def spec_fail.f (k : Nat) (l0 : List Int) (a1_0 : Int) (a1_1 : Int) (l1_2 : List Int) : Option (List Int × Int × List Int) := (spec_copyInts.f l0).bind fun t330 => (if 0 ≤ a1_0 then (if a1_0 < (t330.length : Int) then ((spec_split.f k (wrap64 (a1_1 - (mn (rd t330 a1_0) a1_1))) (l1_2.length : Int)).bind fun t339 => (spec_fail.l0 k (t330.set (a1_0 : Int).toNat (wrap64 ((rd t330 a1_0) - (mn (rd t330 a1_0) a1_1)))) (([] : List Int)) t339 0 0 a1_0 a1_1 l1_2)) else (none)) else (none))
theorem spec_fail.mono_l : ∀ k, (∀ y0 y1 y2 y3 y4 y5 y6 y7, LeO (spec_fail.l0 k y0 y1 y2 y3 y4 y5 y6 y7) (spec_fail.l0 (k + 1) y0 y1 y2 y3 y4 y5 y6 y7))
 | 0 => fun _ _ _ _ _ _ _ _ r h => by simp [spec_fail.l0] at h
 | k + 1 => by
  have ih0 := spec_fail.mono_l k
  ·intro y0 y1 y2 y3 y4 y5 y6 y7
   unfold spec_fail.l0
   repeat' first
   | (with_reducible exact ih0 _ _ _ _ _ _ _ _)
   | (with_reducible exact spec_split.mono _ _ _)
   | (with_reducible exact LeO.refl _)
   | (with_reducible exact LeO.none _)
   | (with_reducible refine LeO.ite ?_ ?_)
   | (with_reducible refine LeO.bind ?_ (fun _ => ?_))
   | exact ih0 _ _ _ _ _ _ _ _
   | exact spec_split.mono _ _ _
   | exact LeO.none _
   | refine LeO.ite ?_ ?_
   | refine LeO.bind ?_ (fun _ => ?_)
theorem spec_fail.mono : ∀ a0 a1 a2 a3 k, LeO (spec_fail.f k a0 a1 a2 a3) (spec_fail.f (k + 1) a0 a1 a2 a3) := by
 intro a0 a1 a2 a3 k
 have ih0 := spec_fail.mono_l k
 unfold spec_fail.f
 repeat' first
   | (with_reducible exact ih0 _ _ _ _ _ _ _ _)
   | (with_reducible exact spec_split.mono _ _ _)
   | (with_reducible exact LeO.refl _)
   | (with_reducible exact LeO.none _)
   | (with_reducible refine LeO.ite ?_ ?_)
   | (with_reducible refine LeO.bind ?_ (fun _ => ?_))
   | exact ih0 _ _ _ _ _ _ _ _
   | exact spec_split.mono _ _ _
   | exact LeO.none _
   | refine LeO.ite ?_ ?_
   | refine LeO.bind ?_ (fun _ => ?_)
def spec_fail.T3 : Bool × List (List Nat × List Nat) := (true, [([], []), ([], []), ([1], [1]), ([0, 2], [0, 2]), ([3], [3]), ([], []), ([5], [5]), ([4, 6], [4, 6]), ([7, 0, 1, 2, 3, 4, 5, 6, 7], [7])])
def spec_fail.B3 : List Nat := [0, 0, 2, 7, 15, 0, 32, 127, 255]
theorem spec_fail.tab3 : rtab .any (opsOf Try.f152 3) = spec_fail.T3 := by kernel_rfl
theorem spec_fail.bits3 : waitsOk spec_fail.T3.2 spec_fail.B3 = true := by kernel_rfl
def spec_fail.T4 : Bool × List (List Nat × List Nat) := (true, [([], []), ([], []), ([1], [1]), ([], []), ([], []), ([4], [4]), ([3, 5], [3, 5]), ([6], [6]), ([], []), ([7, 8], [7, 8]), ([0, 2, 0, 1, 2, 3, 4, 5, 6, 7, 8, 9], [0, 2]), ([10, 9, 0, 1, 2, 3, 4, 5, 6, 7, 8, 9], [9, 10])])
def spec_fail.B4 : List Nat := [0, 0, 2, 0, 0, 16, 56, 120, 0, 504, 1023, 2047]
theorem spec_fail.tab4 : rtab .any (opsOf Try.f152 4) = spec_fail.T4 := by kernel_rfl
theorem spec_fail.bits4 : waitsOk spec_fail.T4.2 spec_fail.B4 = true := by kernel_rfl
def spec_fail.T11 : Bool × List (List Nat × List Nat) := (true, [([], []), ([], []), ([0, 1], [0, 1]), ([2], [2]), ([], []), ([], []), ([4, 5], [4, 5]), ([6], [6]), ([3, 7], [3, 7]), ([8, 0, 1, 2, 3, 4, 5, 6, 7, 8], [8])])
def spec_fail.B11 : List Nat := [0, 0, 3, 7, 0, 0, 48, 112, 255, 511]
theorem spec_fail.tab11 : rtab .any (opsOf Try.f152 11) = spec_fail.T11 := by kernel_rfl
theorem spec_fail.bits11 : waitsOk spec_fail.T11.2 spec_fail.B11 = true := by kernel_rfl
set_option maxHeartbeats 8000000 in
set_option maxRecDepth 100000 in
theorem spec_fail.calls (k : Nat) (A0 : Option Addr) (c0 : Nat) (l0 : List Int) (a1_0 : Int) (a1_1 : Int) (A1_2 : Option Addr) (c1_2 : Nat) (l1_2 : List Int) (r1 : List Int) (r2 : Int) (r3 : List Int) (w : World) (hr0 : Kd.C (Kd.int .i64) w A0 l0.length l0) (hc0 : l0.length ≤ c0) (hr1_2 : Kd.C (Kd.int .i64) w A1_2 l1_2.length l1_2) (hc1_2 : l1_2.length ≤ c1_2) (h : spec_fail.f k l0 a1_0 a1_1 l1_2 = some (r1, r2, r3)) :
  Calls Try.prog 152 #[.slice A0 l0.length c0, .agg #[.int .i64 a1_0, .int .i64 a1_1, .slice A1_2 l1_2.length c1_2]] w fun e w' => ∃ v0_ v2_ : Value, e = .returned (.tuple #[v0_, .int .i64 r2, v2_]) ∧ Kd.R (Kd.int .i64) 3 w' w.heap.size (fun k_ => some k_ ≠ (v2_ : Value).ownBlock) v0_ r1 ∧ Kd.R (Kd.int .i64) 3 w' w.heap.size (fun k_ => some k_ ≠ (v0_ : Value).ownBlock) v2_ r3 ∧ Below w.heap.size w w' := by
 have hu46 := Try.underlying46
 have HR0 := Aside0.mk hr0
 have HC0 := Aside0.mk hc0
 clear hr0 hc0
 have HR1_2 := Aside0.mk hr1_2
 have HC1_2 := Aside0.mk hc1_2
 clear hr1_2 hc1_2
 have HB := Aside0.mk (Below.refl w.heap.size w)
 have H : ((spec_copyInts.f l0).bind fun t330 => (if 0 ≤ a1_0 then (if a1_0 < (t330.length : Int) then ((spec_split.f k (wrap64 (a1_1 - (mn (rd t330 a1_0) a1_1))) (l1_2.length : Int)).bind fun t339 => (spec_fail.l0 k (t330.set (a1_0 : Int).toNat (wrap64 ((rd t330 a1_0) - (mn (rd t330 a1_0) a1_1)))) (([] : List Int)) t339 0 0 a1_0 a1_1 l1_2)) else (none)) else (none))) = some (r1, r2, r3) := h
 clear h
 replace H := Option.bind_eq_some_iff.mp H
 obtain ⟨t330, A30, H⟩ := H
 replace H : (if 0 ≤ a1_0 then (if a1_0 < (t330.length : Int) then ((spec_split.f k (wrap64 (a1_1 - (mn (rd t330 a1_0) a1_1))) (l1_2.length : Int)).bind fun t339 => (spec_fail.l0 k (t330.set (a1_0 : Int).toNat (wrap64 ((rd t330 a1_0) - (mn (rd t330 a1_0) a1_1)))) (([] : List Int)) t339 0 0 a1_0 a1_1 l1_2)) else (none)) else (none)) = some (r1, r2, r3) := H
 have A3 := Aside0.mk A30
 clear A30
 obtain ⟨y333, hy333⟩ : ∃ y_ : List Int, y_ = (([] : List Int)) := ⟨_, rfl⟩
 replace H : (if 0 ≤ a1_0 then (if a1_0 < (t330.length : Int) then ((spec_split.f k (wrap64 (a1_1 - (mn (rd t330 a1_0) a1_1))) (l1_2.length : Int)).bind fun t339 => (spec_fail.l0 k (t330.set (a1_0 : Int).toNat (wrap64 ((rd t330 a1_0) - (mn (rd t330 a1_0) a1_1)))) y333 t339 0 0 a1_0 a1_1 l1_2)) else (none)) else (none)) = some (r1, r2, r3) := by first | (rw [hy333]; with_reducible exact H) | (have H2_ := (Option.bind_some _ _).symm.trans H; rw [hy333]; with_reducible exact H2_) | (have H2_ := (Option.bind_some _ _).symm.trans H; with_reducible exact H2_) | with_reducible exact H | (rw [hy333]; exact H) | exact H
 have Ny333 := Aside0.mk hy333
 clear hy333
 by_cases c4 : 0 ≤ a1_0
 ·rw [if_pos c4] at H
  have c4b0 : decide (0 ≤ a1_0) = true := decide_eq_true c4
  clear c4
  by_cases c5 : a1_0 < (t330.length : Int)
  ·rw [if_pos c5] at H
   have c5b0 : decide (a1_0 < (t330.length : Int)) = true := decide_eq_true c5
   clear c5
   obtain ⟨ji6, hji6⟩ : ∃ j_ : Int, (mn (rd t330 a1_0) a1_1) = j_ := ⟨_, rfl⟩
   replace H : ((spec_split.f k (wrap64 (a1_1 - (ji6))) (l1_2.length : Int)).bind fun t339 => (spec_fail.l0 k (t330.set (a1_0 : Int).toNat (wrap64 ((rd t330 a1_0) - (ji6)))) y333 t339 0 0 a1_0 a1_1 l1_2)) = some (r1, r2, r3) := by first | (rw [hji6] at H; exact H) | (simp only [hji6] at H ⊢; exact H)
   (try rw [hji6] at A3)
   have hji6_ : (if a1_1 < (rd t330 a1_0) then a1_1 else (rd t330 a1_0)) = ji6 := hji6
   obtain ⟨y338, hy338⟩ : ∃ y_ : List Int, y_ = (t330.set (a1_0 : Int).toNat (wrap64 ((rd t330 a1_0) - (ji6)))) := ⟨_, rfl⟩
   replace H : ((spec_split.f k (wrap64 (a1_1 - (ji6))) (l1_2.length : Int)).bind fun t339 => (spec_fail.l0 k y338 y333 t339 0 0 a1_0 a1_1 l1_2)) = some (r1, r2, r3) := by first | (rw [hy338]; with_reducible exact H) | (have H2_ := (Option.bind_some _ _).symm.trans H; rw [hy338]; with_reducible exact H2_) | (have H2_ := (Option.bind_some _ _).symm.trans H; with_reducible exact H2_) | with_reducible exact H | (rw [hy338]; exact H) | exact H
   have Ny338 := Aside0.mk hy338
   clear hy338
   replace H := Option.bind_eq_some_iff.mp H
   obtain ⟨t339, A80, H⟩ := H
   replace H : (spec_fail.l0 k y338 y333 t339 0 0 a1_0 a1_1 l1_2) = some (r1, r2, r3) := H
   have A8 := Aside0.mk A80
   clear A80
   have H' := Aside0.mk H
   clear H
   go_enter Try.func152, Try.ntmps152
   try go_wp2_with (first | ((with_reducible refine gate_dst (N := 3) rfl ?_); refine box_event ?hg (N := 3) ?hd (cs := #[.int .i64 a1_0, .int .i64 a1_1, .slice A1_2 l1_2.length c1_2]) (t := 46) ?hr ?_; (case hd => rfl); (case hg => rfl); (case hr => first | (go_simp; done) | (go_simp; rfl)); intro gb329 hg w9 hbox hb; have n0_ := Aside0.mk (below_step (by repeat (first | (with_reducible first | exact HB.out | apply below_alloc | apply pw_below_drewN | apply below_drew1) | exact HB.out)) hb); have n1_ := Aside0.mk (hbox); have n2_ := Aside0.mk ((by rw [hg]; exact (below_size (by repeat (first | (with_reducible first | exact HB.out | apply below_alloc | apply pw_below_drewN | apply below_drew1) | exact HB.out))) : w.heap.size ≤ gb329)); have n3_ := Aside0.mk ((by rw [hg]; exact (below_size (by repeat (first | (with_reducible first | exact HB.out | apply below_alloc | apply pw_below_drewN | apply below_drew1) | exact HB.out))) : w.heap.size ≤ gb329)); clear HB; have HB := n0_; have BK329 := n1_; have GW329 := n2_; have GE329 := n3_; clear n0_ n1_ n2_ n3_; clear hb hbox hg) | ((with_reducible refine gate_callee (f := 96) rfl ?_); refine goesL_ (some 16) rfl rfl Try.func96 (by kernel_rfl) rfl #[.slice A0 l0.length c0] rfl (by (try simp only [List.map_toArray, List.map_cons, List.map_nil]); first | done | rfl | (simp only [List.length_drop, List.length_take]; rfl)) ?_; (with_reducible refine (spec_copyInts.calls _ _ l0 t330 _ ?side1 ?side2 A3.out).mono ?_); (case side1 => repeat (first | exact (Kd.C_below HR0.out HB.out) | (with_reducible refine Kd.C_alloc ?_ _) | (with_reducible refine Kd.C_drewN ?_ _) | (with_reducible refine Kd.C_drew ?_))); (case side2 => exact HC0.out); rintro e w10 ⟨v331, rfl, ho0, hb⟩; refine ⟨_, rfl, ?_⟩; have n0_ := Aside0.mk (Kd.R_lower ho0 (below_size (by repeat (first | (with_reducible first | exact HB.out | apply below_alloc | apply pw_below_drewN | apply below_drew1 | refine below_set ?_ GE329.out) | exact HB.out)))); have n1_ := Aside0.mk (blk_below (g := gb329) (o := .cells #[.int .i64 a1_0, .int .i64 a1_1, .slice A1_2 l1_2.length c1_2] 46 (0, 0)) (by (with_reducible repeat (first | refine blk_drewN ?_ _ | refine blk_drew ?_ | refine blk_alloc ?_ _)); exact BK329.out) hb); have n2_ := Aside0.mk (below_step (by repeat (first | (with_reducible first | exact HB.out | apply below_alloc | apply pw_below_drewN | apply below_drew1 | refine below_set ?_ GE329.out) | exact HB.out)) hb); clear BK329; clear HB; have HO332 := n0_; have BK329 := n1_; have HB := n2_; clear n0_ n1_ n2_; (try clear hb); (try clear hb2); (try clear hk); (try clear hi); (try clear ho0)) | ((with_reducible refine gate_dst (N := 17) rfl ?_); refine Kd.R_lit (Kd.int .i64) _ 3 ?hg (N := 17) ?hd (xs := ([] : List Int)) (inner := []) (ok := fun _ => True) (okp := fun _ => True) ?hr ?hp (fun _ hk => hk) trivial (Below.refl _ _) (Nat.le_refl _) (by simp) ?_; (case hd => rfl); (case hg => rfl); (case hr => first | (go_simp; done) | (go_simp; rfl)); (case hp => exact (Reps.none _ _)); intro v334 w11 ho12 hb hg_ hnew_; clear hg_ hnew_; (first | rw [← Ny333.out] at ho12 | (simp only [Int.reduceToNat] at ho12; rw [← Ny333.out] at ho12)); have n0_ := Aside0.mk (Kd.R_elder' (by (with_reducible repeat (first | apply Kd.R_alloc | apply Kd.R_drewN | apply Kd.R_drew)); exact HO332.out) (Kd.R_base ho12) hb); have n1_ := Aside0.mk (Kd.R_lower (Kd.R_new' ho12 (Kd.R_lt (by (with_reducible repeat (first | apply Kd.R_alloc | apply Kd.R_drewN | apply Kd.R_drew)); exact HO332.out))) (below_size (by repeat (first | (with_reducible first | exact HB.out | apply below_alloc | apply pw_below_drewN | apply below_drew1 | refine below_set ?_ GE329.out) | exact HB.out)))); have n2_ := Aside0.mk (blk_below (g := gb329) (o := .cells #[.int .i64 a1_0, .int .i64 a1_1, .slice A1_2 l1_2.length c1_2] 46 (0, 0)) (by (with_reducible repeat (first | refine blk_drewN ?_ _ | refine blk_drew ?_ | refine blk_alloc ?_ _)); exact BK329.out) hb); have n3_ := Aside0.mk (below_step (by repeat (first | (with_reducible first | exact HB.out | apply below_alloc | apply pw_below_drewN | apply below_drew1 | refine below_set ?_ GE329.out) | exact HB.out)) hb); clear HO332; clear BK329; clear HB; have HO332 := n0_; have HO335 := n1_; have BK329 := n2_; have HB := n3_; clear n0_ n1_ n2_ n3_; clear hb ho12))
   have n0_ := Aside0.mk (Kd.R_drew HO332.out)
   have n1_ := Aside0.mk (Kd.R_drew HO335.out)
   have n2_ := Aside0.mk (blk_drew BK329.out)
   have n3_ := Aside0.mk (below_drew1 HB.out)
   clear HO332
   clear HO335
   clear BK329
   clear HB
   have HO332 := n0_
   have HO335 := n1_
   have BK329 := n2_
   have HB := n3_
   clear n0_ n1_ n2_ n3_
   obtain ⟨Ao14, co14, eo14⟩ := Kd.R_slice HO332.out
   (first | subst eo14 | (injection eo14 with f1_ f2_ f3_; have f4_ := f1_.symm; have f5_ := f3_.symm; clear f1_ f2_ f3_; subst f4_; subst f5_))
   have p336 : 0 ≤ (a1_0 : Int) := of_decide_eq_true (by first | (with_reducible assumption) | assumption)
   have q336 : a1_0 < (t330.length : Int) := of_decide_eq_true (by first | (with_reducible assumption) | assumption)
   obtain ⟨ad336, e336, hx336_0⟩ := Kd.at_int (Kd.R_reads' HO332.out).2.2 a1_0 p336 q336
   cases e336
   replace p336 := eq_true p336
   replace q336 := eq_true q336
   refine start_ (n := 9) (S := fun w' => w'.cell? ⟨gb329, 0, none⟩ = some (.int .i64 a1_0) ∧ w'.cell? ⟨gb329, 1, none⟩ = some (.int .i64 a1_1) ∧ w'.cell? ⟨gb329, 2, none⟩ = some (.slice A1_2 l1_2.length c1_2) ∧ w'.cell? (ad336.add (a1_0).toNat) = some (.int .i64 (rd t330 a1_0))) (ds := []) #[false, false, false, false, false, false, false, false, false] (by kernel_rfl) rfl rfl ⟨(blk_cell BK329.out 0).trans rfl, (blk_cell BK329.out 1).trans rfl, (blk_cell BK329.out 2).trans rfl, hx336_0⟩ (fun hHeld => ?_); refine with_tabW spec_fail.tab3 spec_fail.bits3 (fun HT_ HW_ => ?_)
   generalize w11.drew = w13 at HO332 HO335 BK329 HB hx336_0 hHeld ⊢
   refine pure_ (i := 0) (N := some 18) (v := ?_) (a' := ?_) #[true, false, false, false, false, false, false, false, false] rfl rfl (any_of HT_.out (by kernel_rfl)) (fun _ _ _ h => h) (Or.inl ⟨by rfl, ?_⟩) ?_ ?_
   rotate_left
   ·intro w'
    go_simp
    with_reducible rfl
   rotate_left
   ·simp only [Act.put, List.setIfInBounds_toArray, List.set_cons_zero, List.set_cons_succ, i64_w, i32_w]
    rfl
   refine pure_ (i := 1) (N := some 19) (v := ?_) (a' := ?_) #[true, true, false, false, false, false, false, false, false] rfl rfl (any_of HT_.out (by kernel_rfl)) (fun _ _ _ h => h) (Or.inl ⟨by rfl, ?_⟩) ?_ ?_
   rotate_left
   ·intro w'
    go_simp
    with_reducible rfl
   rotate_left
   ·simp only [Act.put, List.setIfInBounds_toArray, List.set_cons_zero, List.set_cons_succ, i64_w, i32_w]
    rfl
   refine pure_ (i := 5) (N := some 23) (v := ?_) (a' := ?_) #[true, true, false, false, false, true, false, false, false] rfl rfl (any_of HT_.out (by kernel_rfl)) (fun _ _ _ h => h) (Or.inl ⟨by rfl, ?_⟩) ?_ ?_
   rotate_left
   ·intro w'
    go_simp
    with_reducible rfl
   rotate_left
   ·simp only [Act.put, List.setIfInBounds_toArray, List.set_cons_zero, List.set_cons_succ, i64_w, i32_w]
    rfl
   refine take_ (i := 2) (N := some 20) (v := ?_) (a' := ?_) #[true, true, true, false, false, true, false, false, false] rfl rfl (take_ofW HT_.out HW_.out (by kernel_rfl)) (fun _ _ _ h => h) (Or.inl ⟨by rfl, ?_⟩) hHeld ?_ ?_
   rotate_left
   ·rintro w' ⟨s0, s1, s2, s3⟩
    go_simp
    with_reducible rfl
   rotate_left
   ·simp only [Act.put, List.setIfInBounds_toArray, List.set_cons_zero, List.set_cons_succ, i64_w, i32_w]
    rfl
   refine pure_ (i := 3) (N := some 21) (v := ?_) (a' := ?_) #[true, true, true, true, false, true, false, false, false] rfl rfl (any_of HT_.out (by kernel_rfl)) (fun _ _ _ h => h) (Or.inl ⟨by rfl, ?_⟩) ?_ ?_
   rotate_left
   ·intro w'
    go_simp
    with_reducible rfl
   rotate_left
   ·simp only [Act.put, List.setIfInBounds_toArray, List.set_cons_zero, List.set_cons_succ, i64_w, i32_w]
    rfl
   refine take_ (i := 4) (N := some 22) (v := ?_) (a' := ?_) #[true, true, true, true, true, true, false, false, false] rfl rfl (take_ofW HT_.out HW_.out (by kernel_rfl)) (fun _ _ _ h => h) (Or.inl ⟨by rfl, ?_⟩) hHeld ?_ ?_
   rotate_left
   ·rintro w' ⟨s0, s1, s2, s3⟩
    go_simp
    with_reducible rfl
   rotate_left
   ·simp only [Act.put, List.setIfInBounds_toArray, List.set_cons_zero, List.set_cons_succ, i64_w, i32_w]
    rfl
   refine take_ (i := 6) (N := some 24) (v := ?_) (a' := ?_) #[true, true, true, true, true, true, true, false, false] rfl rfl (take_ofW HT_.out HW_.out (by kernel_rfl)) (fun _ _ _ h => h) (Or.inl ⟨by rfl, ?_⟩) hHeld ?_ ?_
   rotate_left
   ·rintro w' ⟨s0, s1, s2, s3⟩
    go_simp
    with_reducible rfl
   rotate_left
   ·simp only [Act.put, List.setIfInBounds_toArray, List.set_cons_zero, List.set_cons_succ, i64_w, i32_w]
    rfl
   refine pure_ (i := 7) (N := some 25) (v := ?_) (a' := ?_) #[true, true, true, true, true, true, true, true, false] rfl rfl (any_of HT_.out (by kernel_rfl)) (fun _ _ _ h => h) (Or.inl ⟨by rfl, ?_⟩) ?_ ?_
   rotate_left
   ·intro w'
    go_simp
    with_reducible rfl
   rotate_left
   ·simp only [Act.put, List.setIfInBounds_toArray, List.set_cons_zero, List.set_cons_succ, i64_w, i32_w]
    rfl
   refine pure_ (i := 8) (N := some 9) (v := ?_) (a' := ?_) #[true, true, true, true, true, true, true, true, true] rfl rfl (any_of HT_.out (by kernel_rfl)) (fun _ _ _ h => h) (Or.inl ⟨by rfl, ?_⟩) ?_ ?_
   rotate_left
   ·intro w'
    go_simp
    with_reducible rfl
   rotate_left
   ·simp only [Act.put, List.setIfInBounds_toArray, List.set_cons_zero, List.set_cons_succ, i64_w, i32_w]
    rfl
   refine done_ (done_of HT_.out (by kernel_rfl)) ?_
   try go_wp2
   have n0_ := Aside0.mk (Kd.R_drew HO332.out)
   have n1_ := Aside0.mk (Kd.R_drew HO335.out)
   have n2_ := Aside0.mk (blk_drew BK329.out)
   have n3_ := Aside0.mk (below_drew1 HB.out)
   clear HO332
   clear HO335
   clear BK329
   clear HB
   have HO332 := n0_
   have HO335 := n1_
   have BK329 := n2_
   have HB := n3_
   clear n0_ n1_ n2_ n3_
   have p337 : 0 ≤ (a1_0 : Int) := of_decide_eq_true (by first | (with_reducible assumption) | assumption)
   have q337 : a1_0 < (t330.length : Int) := of_decide_eq_true (by first | (with_reducible assumption) | assumption)
   obtain ⟨ad337, e337, hx337_0⟩ := Kd.at_int (Kd.R_reads' HO332.out).2.2 a1_0 p337 q337
   obtain rfl : ad336 = ad337 := (by injection e337)
   replace p337 := eq_true p337
   replace q337 := eq_true q337
   have p7 : 0 ≤ (a1_0 : Int) := of_decide_eq_true (by first | (with_reducible assumption) | assumption)
   have q7 : (a1_0 : Int) < ((t330.length : Int) : Int) := of_decide_eq_true (by first | (with_reducible assumption) | assumption)
   obtain ⟨go7, co7, eo7, gb7, gl7, cl7, HG7⟩ := Kd.R_form HO332.out (by omega)
   (first | cases eo7 | (injection eo7 with ea_ en_ ec_; (first | subst ea_ | (injection ea_ with ea_; subst ea_)); subst ec_; clear en_))
   have GB7 := Aside0.mk gb7
   have GG7 := Aside0.mk HG7
   clear gb7 gl7 HG7
   (first | simp only [add_plain] at hx336_0 | skip)
   (first | simp only [add_plain] at hx337_0 | skip)
   obtain ⟨hx7_0, hf7_0⟩ := Kd.R_celln 0 HO332.out (a1_0 : Int) p7 q7
   replace p7 := eq_true p7
   replace q7 := eq_true q7
   have HP16 := Kd.R_putn HO332.out (a1_0 : Int) (wrap64 ((rd t330 a1_0) - (ji6)))
   rw [← Ny338.out] at HP16
   have HQ16 := Aside0.mk HP16
   clear HP16
   refine start_ (n := 12) (S := fun w' => w'.cell? ⟨gb329, 0, none⟩ = some (.int .i64 a1_0) ∧ w'.cell? ⟨gb329, 1, none⟩ = some (.int .i64 a1_1) ∧ w'.cell? ⟨gb329, 2, none⟩ = some (.slice A1_2 l1_2.length c1_2) ∧ w'.cell? ⟨go7, (a1_0).toNat, none⟩ = some (.int .i64 (rd t330 a1_0))) (ds := [11]) #[false, false, false, false, false, false, false, false, false, false, false, false] (by kernel_rfl) rfl rfl ⟨(blk_cell BK329.out 0).trans rfl, (blk_cell BK329.out 1).trans rfl, (blk_cell BK329.out 2).trans rfl, hx337_0⟩ (fun hHeld => ?_); refine with_tabW spec_fail.tab4 spec_fail.bits4 (fun HT_ HW_ => ?_)
   generalize w13.drew = w15 at HO332 HO335 BK329 HB GG7 HQ16 hf7_0 hx336_0 hx337_0 hx7_0 hHeld ⊢
   refine pure_ (i := 0) (N := some 26) (v := ?_) (a' := ?_) #[true, false, false, false, false, false, false, false, false, false, false, false] rfl rfl (any_of HT_.out (by kernel_rfl)) (fun _ _ _ h => h) (Or.inl ⟨by rfl, ?_⟩) ?_ ?_
   rotate_left
   ·intro w'
    go_simp
    with_reducible rfl
   rotate_left
   ·simp only [Act.put, List.setIfInBounds_toArray, List.set_cons_zero, List.set_cons_succ, i64_w, i32_w]
    rfl
   refine pure_ (i := 1) (N := some 27) (v := ?_) (a' := ?_) #[true, true, false, false, false, false, false, false, false, false, false, false] rfl rfl (any_of HT_.out (by kernel_rfl)) (fun _ _ _ h => h) (Or.inl ⟨by rfl, ?_⟩) ?_ ?_
   rotate_left
   ·intro w'
    go_simp
    with_reducible rfl
   rotate_left
   ·simp only [Act.put, List.setIfInBounds_toArray, List.set_cons_zero, List.set_cons_succ, i64_w, i32_w]
    rfl
   refine pure_ (i := 3) (N := some 29) (v := ?_) (a' := ?_) #[true, true, false, true, false, false, false, false, false, false, false, false] rfl rfl (any_of HT_.out (by kernel_rfl)) (fun _ _ _ h => h) (Or.inl ⟨by rfl, ?_⟩) ?_ ?_
   rotate_left
   ·intro w'
    go_simp
    with_reducible rfl
   rotate_left
   ·simp only [Act.put, List.setIfInBounds_toArray, List.set_cons_zero, List.set_cons_succ, i64_w, i32_w]
    rfl
   refine pure_ (i := 4) (N := some 30) (v := ?_) (a' := ?_) #[true, true, false, true, true, false, false, false, false, false, false, false] rfl rfl (any_of HT_.out (by kernel_rfl)) (fun _ _ _ h => h) (Or.inl ⟨by rfl, ?_⟩) ?_ ?_
   rotate_left
   ·intro w'
    go_simp
    with_reducible rfl
   rotate_left
   ·simp only [Act.put, List.setIfInBounds_toArray, List.set_cons_zero, List.set_cons_succ, i64_w, i32_w]
    rfl
   refine pure_ (i := 8) (N := some 34) (v := ?_) (a' := ?_) #[true, true, false, true, true, false, false, false, true, false, false, false] rfl rfl (any_of HT_.out (by kernel_rfl)) (fun _ _ _ h => h) (Or.inl ⟨by rfl, ?_⟩) ?_ ?_
   rotate_left
   ·intro w'
    go_simp
    with_reducible rfl
   rotate_left
   ·simp only [Act.put, List.setIfInBounds_toArray, List.set_cons_zero, List.set_cons_succ, i64_w, i32_w]
    rfl
   refine take_ (i := 2) (N := some 28) (v := ?_) (a' := ?_) #[true, true, true, true, true, false, false, false, true, false, false, false] rfl rfl (take_ofW HT_.out HW_.out (by kernel_rfl)) (fun _ _ _ h => h) (Or.inl ⟨by rfl, ?_⟩) hHeld ?_ ?_
   rotate_left
   ·rintro w' ⟨s0, s1, s2, s3⟩
    go_simp
    with_reducible rfl
   rotate_left
   ·simp only [Act.put, List.setIfInBounds_toArray, List.set_cons_zero, List.set_cons_succ, i64_w, i32_w]
    rfl
   refine take_ (i := 5) (N := some 31) (v := ?_) (a' := ?_) #[true, true, true, true, true, true, false, false, true, false, false, false] rfl rfl (take_ofW HT_.out HW_.out (by kernel_rfl)) (fun _ _ _ h => h) (Or.inl ⟨by rfl, ?_⟩) hHeld ?_ ?_
   rotate_left
   ·rintro w' ⟨s0, s1, s2, s3⟩
    go_simp
    with_reducible rfl
   rotate_left
   ·simp only [Act.put, List.setIfInBounds_toArray, List.set_cons_zero, List.set_cons_succ, i64_w, i32_w]
    rfl
   refine pure_ (i := 6) (N := some 32) (v := ?_) (a' := ?_) #[true, true, true, true, true, true, true, false, true, false, false, false] rfl rfl (any_of HT_.out (by kernel_rfl)) (fun _ _ _ h => h) (Or.inl ⟨by rfl, ?_⟩) ?_ ?_
   rotate_left
   ·intro w'
    go_simp
    with_reducible rfl
   rotate_left
   ·simp only [Act.put, List.setIfInBounds_toArray, List.set_cons_zero, List.set_cons_succ, i64_w, i32_w]
    rfl
   refine take_ (i := 7) (N := some 33) (v := ?_) (a' := ?_) #[true, true, true, true, true, true, true, true, true, false, false, false] rfl rfl (take_ofW HT_.out HW_.out (by kernel_rfl)) (fun _ _ _ h => h) (Or.inl ⟨by rfl, ?_⟩) hHeld ?_ ?_
   rotate_left
   ·rintro w' ⟨s0, s1, s2, s3⟩
    go_simp
    with_reducible rfl
   rotate_left
   ·simp only [Act.put, List.setIfInBounds_toArray, List.set_cons_zero, List.set_cons_succ, i64_w, i32_w]
    rfl
   refine pure_ (i := 9) (N := some 35) (v := ?_) (a' := ?_) #[true, true, true, true, true, true, true, true, true, true, false, false] rfl rfl (any_of HT_.out (by kernel_rfl)) (fun _ _ _ h => h) (Or.inl ⟨by rfl, ?_⟩) ?_ ?_
   rotate_left
   ·intro w'
    go_simp
    with_reducible rfl
   rotate_left
   ·simp only [Act.put, List.setIfInBounds_toArray, List.set_cons_zero, List.set_cons_succ, i64_w, i32_w]
    rfl
   refine pure_ (i := 10) (N := some 36) (v := ?_) (a' := ?_) #[true, true, true, true, true, true, true, true, true, true, true, false] rfl rfl (any_of HT_.out (by kernel_rfl)) (fun _ _ _ h => h) (Or.inl ⟨by rfl, ?_⟩) ?_ ?_
   rotate_left
   ·intro w'
    go_simp
    with_reducible rfl
   rotate_left
   ·simp only [Act.put, List.setIfInBounds_toArray, List.set_cons_zero, List.set_cons_succ, i64_w, i32_w]
    rfl
   refine last_ (i := 11) (N := none) #[true, true, true, true, true, true, true, true, true, true, true, true] rfl rfl (one_of HT_.out (by kernel_rfl)) (by decide) (fun K hK => ?_)
   refine skip_ (w1 := ?_) (by rfl) rfl ?_ ?_
   rotate_left
   ·go_simp
    rfl
   refine hK.out _ _ ?_
   clear hK K
   refine done_ (done_of HT_.out (by kernel_rfl)) ?_
   have hnr18 : (gb329 : Nat) ≠ go7 := by first | exact (by have h_ := Kd.R_ne HO332.out BK329.out (by decide); intro e_; exact h_ (by rw [e_]; rfl)) | exact Ne.symm (by have h_ := Kd.R_ne HO332.out BK329.out (by decide); intro e_; exact h_ (by rw [e_]; rfl))
   have hns18 := Ne.symm hnr18
   have hcz17_0 : w15.cell? ⟨gb329, 0, none⟩ = some (.int .i64 a1_0) := (blk_cell BK329.out 0).trans rfl
   have hcz17_1 : w15.cell? ⟨gb329, 1, none⟩ = some (.int .i64 a1_1) := (blk_cell BK329.out 1).trans rfl
   have hcz17_2 : w15.cell? ⟨gb329, 2, none⟩ = some (.slice A1_2 l1_2.length c1_2) := (blk_cell BK329.out 2).trans rfl
   have hfz17_0 := blk_frozen BK329.out 0
   have hfz17_1 := blk_frozen BK329.out 1
   have hfz17_2 := blk_frozen BK329.out 2
   try go_wp2_with (first | ((with_reducible refine gate_callee (f := 170) rfl ?_); refine goesL_ (some 44) rfl rfl Try.func170 (by kernel_rfl) rfl #[.int .i64 (wrap64 (a1_1 - (ji6))), .int .i64 (l1_2.length : Int)] rfl (by (try simp only [List.map_toArray, List.map_cons, List.map_nil]); first | done | (simp only [hji6]; rfl) | rfl | (simp only [List.length_drop, List.length_take]; rfl)) ?_; (with_reducible refine (spec_split.calls k (wrap64 (a1_1 - (ji6))) (l1_2.length : Int) t339 _ A8.out).mono ?_); rintro e w19 ⟨v340, rfl, ho0, hb⟩; refine ⟨_, rfl, ?_⟩; have n0_ := Aside0.mk (Kd.R_elder' (by (with_reducible repeat (first | apply Kd.R_alloc | apply Kd.R_drewN | apply Kd.R_drew)); exact HQ16.out) (Kd.R_base ho0) hb); have n1_ := Aside0.mk (Kd.R_elder' (by (with_reducible repeat (first | apply Kd.R_alloc | apply Kd.R_drewN | apply Kd.R_drew)); exact (Kd.R_mono (Kd.R_far (p := ⟨go7, (a1_0 : Int).toNat, none⟩) (Kd.R_mono HO335.out (fun k_ hk => (⟨hk, fun e_ => hk.2 (by rw [e_]; rfl)⟩ : _ ∧ k_ ≠ go7))) (fun _ hk => hk.2) (.int .i64 (wrap64 ((rd t330 a1_0) - (ji6))))) (fun _ h_ => h_.1))) (Kd.R_base ho0) hb); have n2_ := Aside0.mk (Kd.R_lower (Kd.R_new' (Kd.R_new' ho0 (Kd.R_lt (by (with_reducible repeat (first | apply Kd.R_alloc | apply Kd.R_drewN | apply Kd.R_drew)); exact HQ16.out))) (Kd.R_lt (by (with_reducible repeat (first | apply Kd.R_alloc | apply Kd.R_drewN | apply Kd.R_drew)); exact (Kd.R_mono (Kd.R_far (p := ⟨go7, (a1_0 : Int).toNat, none⟩) (Kd.R_mono HO335.out (fun k_ hk => (⟨hk, fun e_ => hk.2 (by rw [e_]; rfl)⟩ : _ ∧ k_ ≠ go7))) (fun _ hk => hk.2) (.int .i64 (wrap64 ((rd t330 a1_0) - (ji6))))) (fun _ h_ => h_.1))))) (below_size (by repeat (first | (with_reducible first | exact HB.out | apply below_alloc | apply pw_below_drewN | apply below_drew1 | refine below_set ?_ GB7.out | refine below_set ?_ GE329.out) | exact HB.out)))); have n3_ := Aside0.mk (blk_below (g := gb329) (o := .cells #[.int .i64 a1_0, .int .i64 a1_1, .slice A1_2 l1_2.length c1_2] 46 (0, 0)) (by (with_reducible repeat (first | refine blk_drewN ?_ _ | refine blk_drew ?_ | refine blk_alloc ?_ _)); refine blk_far ?_ (by have h_ := Kd.R_ne HO332.out BK329.out (by decide); intro e_; exact h_ (by rw [e_]; rfl)) _; (with_reducible repeat (first | refine blk_drewN ?_ _ | refine blk_drew ?_ | refine blk_alloc ?_ _)); exact BK329.out) hb); have n4_ := Aside0.mk (below_step (by repeat (first | (with_reducible first | exact HB.out | apply below_alloc | apply pw_below_drewN | apply below_drew1 | refine below_set ?_ GB7.out | refine below_set ?_ GE329.out) | exact HB.out)) hb); clear HO332; clear HO335; clear BK329; clear HB; have HO332 := n0_; have HO335 := n1_; have HO341 := n2_; have BK329 := n3_; have HB := n4_; clear n0_ n1_ n2_ n3_ n4_; (try clear hb); (try clear hb2); (try clear hk); (try clear hi); (try clear ho0)))
   go_loopg [8, 11, 12] k (fun kq v8 v11 v12 w' => ∃ (x7_1 : List Int) (x8_1 : List Int) (x11_1 : Int) (x12_1 : Int), v11 = .int .i64 x11_1 ∧ v12 = .int .i64 x12_1 ∧ Aside0 (spec_fail.l0 kq x7_1 x8_1 t339 x11_1 x12_1 a1_0 a1_1 l1_2 = some (r1, r2, r3)) ∧ Aside0 (kq ≤ k) ∧ Aside0 (Kd.R (Kd.int .i64) 3 w' w.heap.size (fun k_ => some k_ ≠ (v8 : Value).ownBlock ∧ some k_ ≠ (v340 : Value).ownBlock) (.slice (some ⟨go7, 0, none⟩) t330.length co14) x7_1) ∧ Aside0 (Kd.R (Kd.int .i64) 3 w' w.heap.size (fun k_ => some k_ ≠ ((.slice (some ⟨go7, 0, none⟩) t330.length co14) : Value).ownBlock ∧ some k_ ≠ (v340 : Value).ownBlock) v8 x8_1) ∧ Aside0 (Kd.R (Kd.int .i64) 3 w' w.heap.size (fun k_ => some k_ ≠ ((.slice (some ⟨go7, 0, none⟩) t330.length co14) : Value).ownBlock ∧ some k_ ≠ (v8 : Value).ownBlock) v340 t339) ∧ Aside0 (w'.heap[gb329]? = some (.cells #[.int .i64 a1_0, .int .i64 a1_1, (.slice A1_2 l1_2.length c1_2)] 46 (0, 0))) ∧ Aside0 (Below w.heap.size w w'))
   case atStart => exact ⟨(y338), (y333), (0), (0), (by first | rfl | (simp; done) | (simp [*]; done)), (by first | rfl | (simp; done) | (simp [*]; done)), H', ⟨Nat.le_refl _⟩, ⟨by (with_reducible repeat (first | apply Kd.R_alloc | apply Kd.R_drewN | apply Kd.R_drew)); exact Kd.R_mono HO332.out (fun _ hk => ⟨hk.1.2, hk.2⟩)⟩, ⟨by (with_reducible repeat (first | apply Kd.R_alloc | apply Kd.R_drewN | apply Kd.R_drew)); exact Kd.R_mono HO335.out (fun _ hk => ⟨hk.1.2, hk.2⟩)⟩, ⟨by (with_reducible repeat (first | apply Kd.R_alloc | apply Kd.R_drewN | apply Kd.R_drew)); exact Kd.R_mono HO341.out (fun _ hk => ⟨hk.1.2, hk.2⟩)⟩, ⟨by (with_reducible repeat (first | refine blk_drewN ?_ _ | refine blk_drew ?_ | refine blk_alloc ?_ _)); exact BK329.out⟩, ⟨by repeat (first | (with_reducible first | exact HB.out | apply below_alloc | apply pw_below_drewN | apply below_drew1 | refine below_set ?_ GE329.out) | exact HB.out)⟩⟩
   case round =>
    clear H'
    try clear c1
    try clear p2
    try clear p3
    try clear q3
    try clear hx3
    try clear c4
    try clear c4b0
    try clear c5
    try clear c5b0
    try clear p6
    try clear p7
    try clear q7
    try clear hx7
    try clear hf7
    try clear c9
    try clear c15
    try clear c17
    try clear hcz17_0
    try clear hcz17_1
    try clear hcz17_2
    try clear hfz17_0
    try clear hfz17_1
    try clear hfz17_2
    try clear hx336_0
    try clear hx337_0
    try clear hx7_0
    try clear p336
    try clear p337
    try clear p7
    try clear q336
    try clear q337
    try clear q7
    obtain ⟨x7_1, x8_1, x11_1, x12_1, rfl, rfl, HA, HK1, HO_7, HO_8, HO_10, BK329, HB⟩ := hrel
    have hl7_1 := (Kd.R_reads' HO_7.out).1
    rw [hl7_1] at HO_7
    (try simp only [hl7_1])
    (try simp only [hl7_1] at BK329)
    (try simp only [hl7_1] at HO_8)
    (try simp only [hl7_1] at HO_10)
    cases gk with
    | zero => exact absurd HA.out (by simp [spec_fail.l0])
    | succ k1 =>
     have H := HA.out
     clear HA
     simp only [spec_fail.l0] at H
     by_cases c20 : x12_1 < (t339.length : Int)
     ·rw [if_pos c20] at H
      have c20b0 : decide (x12_1 < (t339.length : Int)) = true := decide_eq_true c20
      clear c20
      by_cases c21 : 0 ≤ x12_1
      ·rw [if_pos c21] at H
       have c21b0 : decide (0 ≤ x12_1) = true := decide_eq_true c21
       clear c21
       by_cases c22 : x12_1 < (l1_2.length : Int)
       ·rw [if_pos c22] at H
        have c22b0 : decide (x12_1 < (l1_2.length : Int)) = true := decide_eq_true c22
        clear c22
        by_cases c23 : 0 ≤ (rd l1_2 x12_1)
        ·rw [if_pos c23] at H
         have c23b0 : decide (0 ≤ (rd l1_2 x12_1)) = true := decide_eq_true c23
         clear c23
         by_cases c24 : (rd l1_2 x12_1) < (x7_1.length : Int)
         ·rw [if_pos c24] at H
          have c24b0 : decide ((rd l1_2 x12_1) < (x7_1.length : Int)) = true := decide_eq_true c24
          clear c24
          obtain ⟨ji25, hji25⟩ : ∃ j_ : Int, (mn (rd x7_1 (rd l1_2 x12_1)) (rd t339 x12_1)) = j_ := ⟨_, rfl⟩
          replace H : ((some (x7_1.set ((rd l1_2 x12_1) : Int).toNat (wrap64 ((rd x7_1 (rd l1_2 x12_1)) - (ji25))) : List Int)).bind fun y346 => (if (ji25) < (rd t339 x12_1) then (if x8_1.length < 17592186044416 then (spec_fail.l0 k1 y346 (x8_1 ++ [rd l1_2 x12_1]) t339 (wrap64 ((wrap64 (x11_1 + (rd t339 x12_1))) - (ji25))) (wrap64 (x12_1 + 1)) a1_0 a1_1 l1_2) else (none)) else (spec_fail.l0 k1 y346 x8_1 t339 (wrap64 ((wrap64 (x11_1 + (rd t339 x12_1))) - (ji25))) (wrap64 (x12_1 + 1)) a1_0 a1_1 l1_2))) = some (r1, r2, r3) := by first | (rw [hji25] at H; exact H) | (simp only [hji25] at H ⊢; exact H)
          have hji25_ : (if (rd t339 x12_1) < (rd x7_1 (rd l1_2 x12_1)) then (rd t339 x12_1) else (rd x7_1 (rd l1_2 x12_1))) = ji25 := hji25
          obtain ⟨y346, hy346⟩ : ∃ y_ : List Int, y_ = (x7_1.set ((rd l1_2 x12_1) : Int).toNat (wrap64 ((rd x7_1 (rd l1_2 x12_1)) - (ji25)))) := ⟨_, rfl⟩
          replace H : (if (ji25) < (rd t339 x12_1) then (if x8_1.length < 17592186044416 then (spec_fail.l0 k1 y346 (x8_1 ++ [rd l1_2 x12_1]) t339 (wrap64 ((wrap64 (x11_1 + (rd t339 x12_1))) - (ji25))) (wrap64 (x12_1 + 1)) a1_0 a1_1 l1_2) else (none)) else (spec_fail.l0 k1 y346 x8_1 t339 (wrap64 ((wrap64 (x11_1 + (rd t339 x12_1))) - (ji25))) (wrap64 (x12_1 + 1)) a1_0 a1_1 l1_2)) = some (r1, r2, r3) := by first | (rw [hy346]; with_reducible exact H) | (have H2_ := (Option.bind_some _ _).symm.trans H; rw [hy346]; with_reducible exact H2_) | (have H2_ := (Option.bind_some _ _).symm.trans H; with_reducible exact H2_) | with_reducible exact H | (rw [hy346]; exact H) | exact H
          have Ny346 := Aside0.mk hy346
          clear hy346
          by_cases c27 : (ji25) < (rd t339 x12_1)
          ·rw [if_pos c27] at H
           have c27b0 : decide ((ji25) < (rd t339 x12_1)) = true := decide_eq_true c27
           clear c27
           by_cases c28 : x8_1.length < 17592186044416
           ·rw [if_pos c28] at H
            have LMc28 := Aside0.mk c28
            clear c28
            obtain ⟨y349, hy349⟩ : ∃ y_ : List Int, y_ = (x8_1 ++ [rd l1_2 x12_1]) := ⟨_, rfl⟩
            replace H : (spec_fail.l0 k1 y346 y349 t339 (wrap64 ((wrap64 (x11_1 + (rd t339 x12_1))) - (ji25))) (wrap64 (x12_1 + 1)) a1_0 a1_1 l1_2) = some (r1, r2, r3) := by first | (rw [hy349]; with_reducible exact H) | (have H2_ := (Option.bind_some _ _).symm.trans H; rw [hy349]; with_reducible exact H2_) | (have H2_ := (Option.bind_some _ _).symm.trans H; with_reducible exact H2_) | with_reducible exact H | (rw [hy349]; exact H) | exact H
            have Ny349 := Aside0.mk hy349
            clear hy349
            have H' := Aside0.mk H
            clear H
            obtain ⟨Ao29, co29, eo29⟩ := Kd.R_slice HO_10.out
            subst eo29
            have hcz30_0 : wr.cell? ⟨gb329, 0, none⟩ = some (.int .i64 a1_0) := (blk_cell BK329.out 0).trans rfl
            have hcz30_1 : wr.cell? ⟨gb329, 1, none⟩ = some (.int .i64 a1_1) := (blk_cell BK329.out 1).trans rfl
            have hcz30_2 : wr.cell? ⟨gb329, 2, none⟩ = some (.slice A1_2 l1_2.length c1_2) := (blk_cell BK329.out 2).trans rfl
            have hfz30_0 := blk_frozen BK329.out 0
            have hfz30_1 := blk_frozen BK329.out 1
            have hfz30_2 := blk_frozen BK329.out 2
            have p342 : 0 ≤ (x12_1 : Int) := of_decide_eq_true (by first | (with_reducible assumption) | assumption)
            have q342 : x12_1 < (l1_2.length : Int) := of_decide_eq_true (by first | (with_reducible assumption) | assumption)
            obtain ⟨ad342, e342, hx342_0⟩ := Kd.at_int HR1_2.out x12_1 p342 q342
            cases e342
            replace hx342_0 := (HB.out.cell (World.block_lt_of_cell? w _ hx342_0)).trans hx342_0
            replace p342 := eq_true p342
            replace q342 := eq_true q342
            try go_wp2
            have n0_ := Aside0.mk (Kd.R_drew HO_7.out)
            have n1_ := Aside0.mk (Kd.R_drew HO_8.out)
            have n2_ := Aside0.mk (Kd.R_drew HO_10.out)
            have n3_ := Aside0.mk (blk_drew BK329.out)
            have n4_ := Aside0.mk (below_drew1 HB.out)
            clear HO_7
            clear HO_8
            clear HO_10
            clear BK329
            clear HB
            have HO_7 := n0_
            have HO_8 := n1_
            have HO_10 := n2_
            have BK329 := n3_
            have HB := n4_
            clear n0_ n1_ n2_ n3_ n4_
            have p343 : 0 ≤ ((rd l1_2 x12_1) : Int) := of_decide_eq_true (by first | (with_reducible assumption) | assumption)
            have q343 : (rd l1_2 x12_1) < (x7_1.length : Int) := of_decide_eq_true (by first | (with_reducible assumption) | assumption)
            obtain ⟨ad343, e343, hx343_0⟩ := Kd.at_int (Kd.R_reads' HO_7.out).2.2 (rd l1_2 x12_1) p343 q343
            obtain rfl : (⟨go7, 0, none⟩ : Addr) = ad343 := (by injection e343)
            (first | simp only [add_plain] at hx343_0 | simp only [add_at] at hx343_0 | simp only [Addr.add, Nat.zero_add] at hx343_0 | skip)
            replace p343 := eq_true p343
            replace q343 := eq_true q343
            have p344 : 0 ≤ (x12_1 : Int) := of_decide_eq_true (by first | (with_reducible assumption) | assumption)
            have q344 : x12_1 < (t339.length : Int) := of_decide_eq_true (by first | (with_reducible assumption) | assumption)
            obtain ⟨ad344, e344, hx344_0⟩ := Kd.at_int (Kd.R_reads' HO_10.out).2.2 x12_1 p344 q344
            cases e344
            replace p344 := eq_true p344
            replace q344 := eq_true q344
            refine start_ (n := 10) (S := fun w' => w'.cell? ⟨go7, ((rd l1_2 x12_1)).toNat, none⟩ = some (.int .i64 (rd x7_1 (rd l1_2 x12_1))) ∧ w'.cell? (ad344.add (x12_1).toNat) = some (.int .i64 (rd t339 x12_1))) (ds := []) #[false, false, false, false, false, false, false, false, false, false] (by kernel_rfl) rfl rfl ⟨hx343_0, hx344_0⟩ (fun hHeld => ?_); refine with_tabW spec_fail.tab11 spec_fail.bits11 (fun HT_ HW_ => ?_)
            generalize wr.drew = w31 at HO_7 HO_8 HO_10 BK329 HB hx343_0 hx344_0 hHeld ⊢
            refine pure_ (i := 0) (N := some 56) (v := ?_) (a' := ?_) #[true, false, false, false, false, false, false, false, false, false] rfl rfl (any_of HT_.out (by kernel_rfl)) (fun _ _ _ h => h) (Or.inl ⟨by rfl, ?_⟩) ?_ ?_
            rotate_left
            ·intro w'
             go_simp
             with_reducible rfl
            rotate_left
            ·simp only [Act.put, List.setIfInBounds_toArray, List.set_cons_zero, List.set_cons_succ, i64_w, i32_w]
             rfl
            refine pure_ (i := 1) (N := some 57) (v := ?_) (a' := ?_) #[true, true, false, false, false, false, false, false, false, false] rfl rfl (any_of HT_.out (by kernel_rfl)) (fun _ _ _ h => h) (Or.inl ⟨by rfl, ?_⟩) ?_ ?_
            rotate_left
            ·intro w'
             go_simp
             with_reducible rfl
            rotate_left
            ·simp only [Act.put, List.setIfInBounds_toArray, List.set_cons_zero, List.set_cons_succ, i64_w, i32_w]
             rfl
            refine pure_ (i := 2) (N := some 58) (v := ?_) (a' := ?_) #[true, true, true, false, false, false, false, false, false, false] rfl rfl (any_of HT_.out (by kernel_rfl)) (fun _ _ _ h => h) (Or.inl ⟨by rfl, ?_⟩) ?_ ?_
            rotate_left
            ·intro w'
             go_simp
             with_reducible rfl
            rotate_left
            ·simp only [Act.put, List.setIfInBounds_toArray, List.set_cons_zero, List.set_cons_succ, i64_w, i32_w]
             rfl
            refine pure_ (i := 4) (N := some 60) (v := ?_) (a' := ?_) #[true, true, true, false, true, false, false, false, false, false] rfl rfl (any_of HT_.out (by kernel_rfl)) (fun _ _ _ h => h) (Or.inl ⟨by rfl, ?_⟩) ?_ ?_
            rotate_left
            ·intro w'
             go_simp
             with_reducible rfl
            rotate_left
            ·simp only [Act.put, List.setIfInBounds_toArray, List.set_cons_zero, List.set_cons_succ, i64_w, i32_w]
             rfl
            refine pure_ (i := 5) (N := some 61) (v := ?_) (a' := ?_) #[true, true, true, false, true, true, false, false, false, false] rfl rfl (any_of HT_.out (by kernel_rfl)) (fun _ _ _ h => h) (Or.inl ⟨by rfl, ?_⟩) ?_ ?_
            rotate_left
            ·intro w'
             go_simp
             with_reducible rfl
            rotate_left
            ·simp only [Act.put, List.setIfInBounds_toArray, List.set_cons_zero, List.set_cons_succ, i64_w, i32_w]
             rfl
            refine pure_ (i := 6) (N := some 62) (v := ?_) (a' := ?_) #[true, true, true, false, true, true, true, false, false, false] rfl rfl (any_of HT_.out (by kernel_rfl)) (fun _ _ _ h => h) (Or.inl ⟨by rfl, ?_⟩) ?_ ?_
            rotate_left
            ·intro w'
             go_simp
             with_reducible rfl
            rotate_left
            ·simp only [Act.put, List.setIfInBounds_toArray, List.set_cons_zero, List.set_cons_succ, i64_w, i32_w]
             rfl
            refine take_ (i := 3) (N := some 59) (v := ?_) (a' := ?_) #[true, true, true, true, true, true, true, false, false, false] rfl rfl (take_ofW HT_.out HW_.out (by kernel_rfl)) (fun _ _ _ h => h) (Or.inl ⟨by rfl, ?_⟩) hHeld ?_ ?_
            rotate_left
            ·rintro w' ⟨s0, s1⟩
             go_simp
             with_reducible rfl
            rotate_left
            ·simp only [Act.put, List.setIfInBounds_toArray, List.set_cons_zero, List.set_cons_succ, i64_w, i32_w]
             rfl
            refine take_ (i := 7) (N := some 63) (v := ?_) (a' := ?_) #[true, true, true, true, true, true, true, true, false, false] rfl rfl (take_ofW HT_.out HW_.out (by kernel_rfl)) (fun _ _ _ h => h) (Or.inl ⟨by rfl, ?_⟩) hHeld ?_ ?_
            rotate_left
            ·rintro w' ⟨s0, s1⟩
             go_simp
             with_reducible rfl
            rotate_left
            ·simp only [Act.put, List.setIfInBounds_toArray, List.set_cons_zero, List.set_cons_succ, i64_w, i32_w]
             rfl
            refine pure_ (i := 8) (N := some 64) (v := ?_) (a' := ?_) #[true, true, true, true, true, true, true, true, true, false] rfl rfl (any_of HT_.out (by kernel_rfl)) (fun _ _ _ h => h) (Or.inl ⟨by rfl, ?_⟩) ?_ ?_
            rotate_left
            ·intro w'
             go_simp
             with_reducible rfl
            rotate_left
            ·simp only [Act.put, List.setIfInBounds_toArray, List.set_cons_zero, List.set_cons_succ, i64_w, i32_w]
             rfl
            refine pure_ (i := 9) (N := some 14) (v := ?_) (a' := ?_) #[true, true, true, true, true, true, true, true, true, true] rfl rfl (any_of HT_.out (by kernel_rfl)) (fun _ _ _ h => h) (Or.inl ⟨by rfl, ?_⟩) ?_ ?_
            rotate_left
            ·intro w'
             go_simp
             with_reducible rfl
            rotate_left
            ·simp only [Act.put, List.setIfInBounds_toArray, List.set_cons_zero, List.set_cons_succ, i64_w, i32_w]
             rfl
            refine done_ (done_of HT_.out (by kernel_rfl)) ?_
            have p345 : 0 ≤ ((rd l1_2 x12_1) : Int) := of_decide_eq_true (by first | (with_reducible assumption) | assumption)
            have q345 : (rd l1_2 x12_1) < (x7_1.length : Int) := of_decide_eq_true (by first | (with_reducible assumption) | assumption)
            obtain ⟨ad345, e345, hx345_0⟩ := Kd.at_int (Kd.R_reads' HO_7.out).2.2 (rd l1_2 x12_1) p345 q345
            obtain rfl : (⟨go7, 0, none⟩ : Addr) = ad345 := (by injection e345)
            (first | simp only [add_plain] at hx345_0 | simp only [add_at] at hx345_0 | simp only [Addr.add, Nat.zero_add] at hx345_0 | skip)
            replace p345 := eq_true p345
            replace q345 := eq_true q345
            have p26 : 0 ≤ ((rd l1_2 x12_1) : Int) := of_decide_eq_true (by first | (with_reducible assumption) | assumption)
            have q26 : ((rd l1_2 x12_1) : Int) < ((x7_1.length : Int) : Int) := of_decide_eq_true (by first | (with_reducible assumption) | assumption)
            obtain ⟨hx26_0, hf26_0⟩ := Kd.R_celln 0 HO_7.out ((rd l1_2 x12_1) : Int) p26 q26
            replace p26 := eq_true p26
            replace q26 := eq_true q26
            obtain ⟨hy32_, hz32_⟩ := Kd.R_celln 0 HO_7.out ((rd l1_2 x12_1) : Int) (of_decide_eq_true (by first | (with_reducible assumption) | assumption)) (of_decide_eq_true (by first | (with_reducible assumption) | assumption))
            have HP32 := Kd.R_putg HO_7.out ((rd l1_2 x12_1) : Int) (wrap64 ((rd x7_1 (rd l1_2 x12_1)) - (ji25)))
            try go_wp2_with (first | ((with_reducible refine gate_store (t := 3) (p := 73) rfl ?_); refine store_event (t := 3) (p := 73) (v := ?vo_w33) (w1 := (w31.setCell ⟨go7, ((rd l1_2 x12_1) : Int).toNat, none⟩ (.int .i64 (wrap64 ((rd x7_1 (rd l1_2 x12_1)) - (ji25)))))) ?hg ?ho ?hn ?hr ?_; (case ho => rfl); (case hg => rfl); (case hn => rfl); (case hr => first | (go_simp; done) | (go_simp; rfl)); intro w33 hw; have hg : w31.grownBy w33 (some go7) := (by rw [hw]; exact HP32.2); have hp_ : Kd.R (Kd.int .i64) 3 w33 w.heap.size (fun k_ => some k_ ≠ (u8 : Value).ownBlock ∧ some k_ ≠ (.slice (some ad344) t339.length co29 : Value).ownBlock) (.slice (some ⟨go7, 0, none⟩) x7_1.length co14) y346 := (by rw [hw, Ny346.out]; exact HP32.1); clear HP32; have n0_ := Aside0.mk (hp_); have n1_ := Aside0.mk (Kd.R_after (v := (.slice (some ⟨go7, 0, none⟩) x7_1.length co14)) (v1 := (.slice (some ⟨go7, 0, none⟩) x7_1.length co14)) (ok := (fun k_ => some k_ ≠ (.slice (some ad344) t339.length co29 : Value).ownBlock)) (by (with_reducible repeat (first | apply Kd.R_alloc | apply Kd.R_drewN | apply Kd.R_drew)); exact Kd.R_mono HO_8.out (fun _ hk => ⟨hk.2, hk.1⟩)) hg (.inl rfl)); have n2_ := Aside0.mk (Kd.R_after (v := (.slice (some ⟨go7, 0, none⟩) x7_1.length co14)) (v1 := (.slice (some ⟨go7, 0, none⟩) x7_1.length co14)) (ok := (fun k_ => some k_ ≠ (u8 : Value).ownBlock)) (by (with_reducible repeat (first | apply Kd.R_alloc | apply Kd.R_drewN | apply Kd.R_drew)); exact Kd.R_mono HO_10.out (fun _ hk => ⟨hk.2, hk.1⟩)) hg (.inl rfl)); have n3_ := Aside0.mk (blk_grown (g := gb329) (o := .cells #[.int .i64 a1_0, .int .i64 a1_1, .slice (some ad342) l1_2.length c1_2] 46 (0, 0)) (by (with_reducible repeat (first | refine blk_drewN ?_ _ | refine blk_drew ?_ | refine blk_alloc ?_ _)); exact BK329.out) hg (Kd.R_ne HO_7.out BK329.out (by decide))); have n4_ := Aside0.mk ((by rw [hw]; exact below_set (HB.out) GB7.out : Below w.heap.size w w33)); clear HO_7; clear HO_8; clear HO_10; clear BK329; clear HB; have HO_7 := n0_; have HO_8 := n1_; have HO_10 := n2_; have BK329 := n3_; have HB := n4_; clear n0_ n1_ n2_ n3_ n4_; clear hg hw hp_; have p347 : 0 ≤ (x12_1 : Int) := of_decide_eq_true (by first | (with_reducible assumption) | assumption); have q347 : x12_1 < (t339.length : Int) := of_decide_eq_true (by first | (with_reducible assumption) | assumption); obtain ⟨ad347, e347, hx347_0⟩ := Kd.at_int (Kd.R_reads' HO_10.out).2.2 x12_1 p347 q347; obtain rfl : ad344 = ad347 := (by injection e347); replace p347 := eq_true p347; replace q347 := eq_true q347; have p348 : 0 ≤ (x12_1 : Int) := of_decide_eq_true (by first | (with_reducible assumption) | assumption); have q348 : x12_1 < (t339.length : Int) := of_decide_eq_true (by first | (with_reducible assumption) | assumption); obtain ⟨ad348, e348, hx348_0⟩ := Kd.at_int (Kd.R_reads' HO_10.out).2.2 x12_1 p348 q348; obtain rfl : ad344 = ad348 := (by injection e348); replace p348 := eq_true p348; replace q348 := eq_true q348) | ((with_reducible refine gate_builtin (b := .append) (xs := #[.tmp 88, .tmp 90]) rfl ?_); at_builtin; refine Kd.R_append (Kd.int .i64) (w0 := w) w.heap.size rfl (.tmp 88) (.tmp 90) 28 3 (.int .i64 0) 8 rfl Try.underlying28 info3 rfl (by decide) (by omega) u8 x8_1 (rd l1_2 x12_1) [.int .i64 (rd l1_2 x12_1)] (fun k_ => some k_ ≠ (.slice (some ⟨go7, 0, none⟩) x7_1.length co14 : Value).ownBlock ∧ some k_ ≠ (.slice (some ad344) t339.length co29 : Value).ownBlock) (fun _ => False) rfl rfl ?aP (fun _ hk => hk.elim) ?aF ?aO ?aB ?aS ?aL ?_; (case aP => exact rfl); (case aB => exact (by repeat (first | (with_reducible first | exact HB.out | apply below_alloc | apply pw_below_drewN | apply below_drew1 | refine below_set ?_ GE329.out) | exact HB.out))); (case aF => exact (fun k_ hk => ⟨Kd.fresh' (Kd.R_lt (by (with_reducible repeat (first | apply Kd.R_alloc | apply Kd.R_drewN | apply Kd.R_drew)); exact HO_7.out)) k_ hk, Kd.fresh' (Kd.R_lt (by (with_reducible repeat (first | apply Kd.R_alloc | apply Kd.R_drewN | apply Kd.R_drew)); exact HO_10.out)) k_ hk⟩)); (case aO => exact (by (with_reducible repeat (first | apply Kd.R_alloc | apply Kd.R_drewN | apply Kd.R_drew)); exact Kd.R_mono HO_8.out (fun _ hk => ⟨hk.2, hk.1⟩))); (case aS => exact (below_size (by repeat (first | (with_reducible first | exact HB.out | apply below_alloc | apply pw_below_drewN | apply below_drew1 | refine below_set ?_ GE329.out) | exact HB.out)))); (case aL => have := LMc28.out; omega); intro v350 w34 ho hb hg hat; rw [← Ny349.out] at ho; have n0_ := Aside0.mk (Kd.R_after (ok := (fun k_ => some k_ ≠ (.slice (some ad344) t339.length co29 : Value).ownBlock)) (by (with_reducible repeat (first | apply Kd.R_alloc | apply Kd.R_drewN | apply Kd.R_drew)); exact Kd.R_mono HO_7.out (fun _ hk => ⟨hk.2, hk.1⟩)) hg hat); have n1_ := Aside0.mk (Kd.R_after (ok := (fun k_ => some k_ ≠ (.slice (some ⟨go7, 0, none⟩) x7_1.length co14 : Value).ownBlock)) (by (with_reducible repeat (first | apply Kd.R_alloc | apply Kd.R_drewN | apply Kd.R_drew)); exact Kd.R_mono HO_10.out (fun _ hk => ⟨hk.2, hk.1⟩)) hg hat); have n2_ := Aside0.mk (blk_grown (g := gb329) (o := .cells #[.int .i64 a1_0, .int .i64 a1_1, .slice (some ad342) l1_2.length c1_2] 46 (0, 0)) (by (with_reducible repeat (first | refine blk_drewN ?_ _ | refine blk_drew ?_ | refine blk_alloc ?_ _)); exact BK329.out) hg (Kd.R_ne HO_8.out BK329.out (by decide))); have n3_ := Aside0.mk (hb); have n4_ := Aside0.mk (ho); clear HO_7; clear HO_10; clear BK329; clear HB; clear HO_8; have HO_7 := n0_; have HO_10 := n1_; have BK329 := n2_; have HB := n3_; have HO351 := n4_; clear n0_ n1_ n2_ n3_ n4_; clear ho hb hg hat))
            (try simp only [← hl7_1])
            go_roundg k1
            case measure => have := HK1.out; omega
            case rel => exact ⟨(y346), (y349), (wrap64 ((wrap64 (x11_1 + (rd t339 x12_1))) - (ji25))), (wrap64 (x12_1 + 1)), (by first | rfl | (simp; done) | (simp only [← hji25] <;> (first | rfl | simp)) | (simp [*]; done)), (by first | rfl | (simp; done) | (simp [*]; done)), H', ⟨by have := HK1.out; omega⟩, ⟨by (try simp only [hl7_1]); (with_reducible repeat (first | apply Kd.R_alloc | apply Kd.R_drewN | apply Kd.R_drew)); exact Kd.R_mono HO_7.out (fun _ hk => ⟨hk.2, hk.1⟩)⟩, ⟨by (try simp only [hl7_1]); (with_reducible repeat (first | apply Kd.R_alloc | apply Kd.R_drewN | apply Kd.R_drew)); exact HO351.out⟩, ⟨by (try simp only [hl7_1]); (with_reducible repeat (first | apply Kd.R_alloc | apply Kd.R_drewN | apply Kd.R_drew)); exact HO_10.out⟩, ⟨by (try simp only [hl7_1]); (with_reducible repeat (first | refine blk_drewN ?_ _ | refine blk_drew ?_ | refine blk_alloc ?_ _)); exact BK329.out⟩, ⟨by repeat (first | (with_reducible first | exact HB.out | apply below_alloc | apply pw_below_drewN | apply below_drew1 | refine below_set ?_ GE329.out) | exact HB.out)⟩⟩
           ·rw [if_neg c28] at H
            exact absurd H (by simp)
          ·rw [if_neg c27] at H
           have c27b0 : decide ((ji25) < (rd t339 x12_1)) = false := decide_eq_false c27
           clear c27
           have H' := Aside0.mk H
           clear H
           obtain ⟨Ao35, co35, eo35⟩ := Kd.R_slice HO_10.out
           subst eo35
           have hcz36_0 : wr.cell? ⟨gb329, 0, none⟩ = some (.int .i64 a1_0) := (blk_cell BK329.out 0).trans rfl
           have hcz36_1 : wr.cell? ⟨gb329, 1, none⟩ = some (.int .i64 a1_1) := (blk_cell BK329.out 1).trans rfl
           have hcz36_2 : wr.cell? ⟨gb329, 2, none⟩ = some (.slice A1_2 l1_2.length c1_2) := (blk_cell BK329.out 2).trans rfl
           have hfz36_0 := blk_frozen BK329.out 0
           have hfz36_1 := blk_frozen BK329.out 1
           have hfz36_2 := blk_frozen BK329.out 2
           have p342 : 0 ≤ (x12_1 : Int) := of_decide_eq_true (by first | (with_reducible assumption) | assumption)
           have q342 : x12_1 < (l1_2.length : Int) := of_decide_eq_true (by first | (with_reducible assumption) | assumption)
           obtain ⟨ad342, e342, hx342_0⟩ := Kd.at_int HR1_2.out x12_1 p342 q342
           cases e342
           replace hx342_0 := (HB.out.cell (World.block_lt_of_cell? w _ hx342_0)).trans hx342_0
           replace p342 := eq_true p342
           replace q342 := eq_true q342
           try go_wp2
           have n0_ := Aside0.mk (Kd.R_drew HO_7.out)
           have n1_ := Aside0.mk (Kd.R_drew HO_8.out)
           have n2_ := Aside0.mk (Kd.R_drew HO_10.out)
           have n3_ := Aside0.mk (blk_drew BK329.out)
           have n4_ := Aside0.mk (below_drew1 HB.out)
           clear HO_7
           clear HO_8
           clear HO_10
           clear BK329
           clear HB
           have HO_7 := n0_
           have HO_8 := n1_
           have HO_10 := n2_
           have BK329 := n3_
           have HB := n4_
           clear n0_ n1_ n2_ n3_ n4_
           have p343 : 0 ≤ ((rd l1_2 x12_1) : Int) := of_decide_eq_true (by first | (with_reducible assumption) | assumption)
           have q343 : (rd l1_2 x12_1) < (x7_1.length : Int) := of_decide_eq_true (by first | (with_reducible assumption) | assumption)
           obtain ⟨ad343, e343, hx343_0⟩ := Kd.at_int (Kd.R_reads' HO_7.out).2.2 (rd l1_2 x12_1) p343 q343
           obtain rfl : (⟨go7, 0, none⟩ : Addr) = ad343 := (by injection e343)
           (first | simp only [add_plain] at hx343_0 | simp only [add_at] at hx343_0 | simp only [Addr.add, Nat.zero_add] at hx343_0 | skip)
           replace p343 := eq_true p343
           replace q343 := eq_true q343
           have p344 : 0 ≤ (x12_1 : Int) := of_decide_eq_true (by first | (with_reducible assumption) | assumption)
           have q344 : x12_1 < (t339.length : Int) := of_decide_eq_true (by first | (with_reducible assumption) | assumption)
           obtain ⟨ad344, e344, hx344_0⟩ := Kd.at_int (Kd.R_reads' HO_10.out).2.2 x12_1 p344 q344
           cases e344
           replace p344 := eq_true p344
           replace q344 := eq_true q344
           refine start_ (n := 10) (S := fun w' => w'.cell? ⟨go7, ((rd l1_2 x12_1)).toNat, none⟩ = some (.int .i64 (rd x7_1 (rd l1_2 x12_1))) ∧ w'.cell? (ad344.add (x12_1).toNat) = some (.int .i64 (rd t339 x12_1))) (ds := []) #[false, false, false, false, false, false, false, false, false, false] (by kernel_rfl) rfl rfl ⟨hx343_0, hx344_0⟩ (fun hHeld => ?_); refine with_tabW spec_fail.tab11 spec_fail.bits11 (fun HT_ HW_ => ?_)
           generalize wr.drew = w37 at HO_7 HO_8 HO_10 BK329 HB hx343_0 hx344_0 hHeld ⊢
           refine pure_ (i := 0) (N := some 56) (v := ?_) (a' := ?_) #[true, false, false, false, false, false, false, false, false, false] rfl rfl (any_of HT_.out (by kernel_rfl)) (fun _ _ _ h => h) (Or.inl ⟨by rfl, ?_⟩) ?_ ?_
           rotate_left
           ·intro w'
            go_simp
            with_reducible rfl
           rotate_left
           ·simp only [Act.put, List.setIfInBounds_toArray, List.set_cons_zero, List.set_cons_succ, i64_w, i32_w]
            rfl
           refine pure_ (i := 1) (N := some 57) (v := ?_) (a' := ?_) #[true, true, false, false, false, false, false, false, false, false] rfl rfl (any_of HT_.out (by kernel_rfl)) (fun _ _ _ h => h) (Or.inl ⟨by rfl, ?_⟩) ?_ ?_
           rotate_left
           ·intro w'
            go_simp
            with_reducible rfl
           rotate_left
           ·simp only [Act.put, List.setIfInBounds_toArray, List.set_cons_zero, List.set_cons_succ, i64_w, i32_w]
            rfl
           refine pure_ (i := 2) (N := some 58) (v := ?_) (a' := ?_) #[true, true, true, false, false, false, false, false, false, false] rfl rfl (any_of HT_.out (by kernel_rfl)) (fun _ _ _ h => h) (Or.inl ⟨by rfl, ?_⟩) ?_ ?_
           rotate_left
           ·intro w'
            go_simp
            with_reducible rfl
           rotate_left
           ·simp only [Act.put, List.setIfInBounds_toArray, List.set_cons_zero, List.set_cons_succ, i64_w, i32_w]
            rfl
           refine pure_ (i := 4) (N := some 60) (v := ?_) (a' := ?_) #[true, true, true, false, true, false, false, false, false, false] rfl rfl (any_of HT_.out (by kernel_rfl)) (fun _ _ _ h => h) (Or.inl ⟨by rfl, ?_⟩) ?_ ?_
           rotate_left
           ·intro w'
            go_simp
            with_reducible rfl
           rotate_left
           ·simp only [Act.put, List.setIfInBounds_toArray, List.set_cons_zero, List.set_cons_succ, i64_w, i32_w]
            rfl
           refine pure_ (i := 5) (N := some 61) (v := ?_) (a' := ?_) #[true, true, true, false, true, true, false, false, false, false] rfl rfl (any_of HT_.out (by kernel_rfl)) (fun _ _ _ h => h) (Or.inl ⟨by rfl, ?_⟩) ?_ ?_
           rotate_left
           ·intro w'
            go_simp
            with_reducible rfl
           rotate_left
           ·simp only [Act.put, List.setIfInBounds_toArray, List.set_cons_zero, List.set_cons_succ, i64_w, i32_w]
            rfl
           refine pure_ (i := 6) (N := some 62) (v := ?_) (a' := ?_) #[true, true, true, false, true, true, true, false, false, false] rfl rfl (any_of HT_.out (by kernel_rfl)) (fun _ _ _ h => h) (Or.inl ⟨by rfl, ?_⟩) ?_ ?_
           rotate_left
           ·intro w'
            go_simp
            with_reducible rfl
           rotate_left
           ·simp only [Act.put, List.setIfInBounds_toArray, List.set_cons_zero, List.set_cons_succ, i64_w, i32_w]
            rfl
           refine take_ (i := 3) (N := some 59) (v := ?_) (a' := ?_) #[true, true, true, true, true, true, true, false, false, false] rfl rfl (take_ofW HT_.out HW_.out (by kernel_rfl)) (fun _ _ _ h => h) (Or.inl ⟨by rfl, ?_⟩) hHeld ?_ ?_
           rotate_left
           ·rintro w' ⟨s0, s1⟩
            go_simp
            with_reducible rfl
           rotate_left
           ·simp only [Act.put, List.setIfInBounds_toArray, List.set_cons_zero, List.set_cons_succ, i64_w, i32_w]
            rfl
           refine take_ (i := 7) (N := some 63) (v := ?_) (a' := ?_) #[true, true, true, true, true, true, true, true, false, false] rfl rfl (take_ofW HT_.out HW_.out (by kernel_rfl)) (fun _ _ _ h => h) (Or.inl ⟨by rfl, ?_⟩) hHeld ?_ ?_
           rotate_left
           ·rintro w' ⟨s0, s1⟩
            go_simp
            with_reducible rfl
           rotate_left
           ·simp only [Act.put, List.setIfInBounds_toArray, List.set_cons_zero, List.set_cons_succ, i64_w, i32_w]
            rfl
           refine pure_ (i := 8) (N := some 64) (v := ?_) (a' := ?_) #[true, true, true, true, true, true, true, true, true, false] rfl rfl (any_of HT_.out (by kernel_rfl)) (fun _ _ _ h => h) (Or.inl ⟨by rfl, ?_⟩) ?_ ?_
           rotate_left
           ·intro w'
            go_simp
            with_reducible rfl
           rotate_left
           ·simp only [Act.put, List.setIfInBounds_toArray, List.set_cons_zero, List.set_cons_succ, i64_w, i32_w]
            rfl
           refine pure_ (i := 9) (N := some 14) (v := ?_) (a' := ?_) #[true, true, true, true, true, true, true, true, true, true] rfl rfl (any_of HT_.out (by kernel_rfl)) (fun _ _ _ h => h) (Or.inl ⟨by rfl, ?_⟩) ?_ ?_
           rotate_left
           ·intro w'
            go_simp
            with_reducible rfl
           rotate_left
           ·simp only [Act.put, List.setIfInBounds_toArray, List.set_cons_zero, List.set_cons_succ, i64_w, i32_w]
            rfl
           refine done_ (done_of HT_.out (by kernel_rfl)) ?_
           have p345 : 0 ≤ ((rd l1_2 x12_1) : Int) := of_decide_eq_true (by first | (with_reducible assumption) | assumption)
           have q345 : (rd l1_2 x12_1) < (x7_1.length : Int) := of_decide_eq_true (by first | (with_reducible assumption) | assumption)
           obtain ⟨ad345, e345, hx345_0⟩ := Kd.at_int (Kd.R_reads' HO_7.out).2.2 (rd l1_2 x12_1) p345 q345
           obtain rfl : (⟨go7, 0, none⟩ : Addr) = ad345 := (by injection e345)
           (first | simp only [add_plain] at hx345_0 | simp only [add_at] at hx345_0 | simp only [Addr.add, Nat.zero_add] at hx345_0 | skip)
           replace p345 := eq_true p345
           replace q345 := eq_true q345
           have p26 : 0 ≤ ((rd l1_2 x12_1) : Int) := of_decide_eq_true (by first | (with_reducible assumption) | assumption)
           have q26 : ((rd l1_2 x12_1) : Int) < ((x7_1.length : Int) : Int) := of_decide_eq_true (by first | (with_reducible assumption) | assumption)
           obtain ⟨hx26_0, hf26_0⟩ := Kd.R_celln 0 HO_7.out ((rd l1_2 x12_1) : Int) p26 q26
           replace p26 := eq_true p26
           replace q26 := eq_true q26
           obtain ⟨hy38_, hz38_⟩ := Kd.R_celln 0 HO_7.out ((rd l1_2 x12_1) : Int) (of_decide_eq_true (by first | (with_reducible assumption) | assumption)) (of_decide_eq_true (by first | (with_reducible assumption) | assumption))
           have HP38 := Kd.R_putg HO_7.out ((rd l1_2 x12_1) : Int) (wrap64 ((rd x7_1 (rd l1_2 x12_1)) - (ji25)))
           try go_wp2_with (first | ((with_reducible refine gate_store (t := 3) (p := 73) rfl ?_); refine store_event (t := 3) (p := 73) (v := ?vo_w39) (w1 := (w37.setCell ⟨go7, ((rd l1_2 x12_1) : Int).toNat, none⟩ (.int .i64 (wrap64 ((rd x7_1 (rd l1_2 x12_1)) - (ji25)))))) ?hg ?ho ?hn ?hr ?_; (case ho => rfl); (case hg => rfl); (case hn => rfl); (case hr => first | (go_simp; done) | (go_simp; rfl)); intro w39 hw; have hg : w37.grownBy w39 (some go7) := (by rw [hw]; exact HP38.2); have hp_ : Kd.R (Kd.int .i64) 3 w39 w.heap.size (fun k_ => some k_ ≠ (u8 : Value).ownBlock ∧ some k_ ≠ (.slice (some ad344) t339.length co35 : Value).ownBlock) (.slice (some ⟨go7, 0, none⟩) x7_1.length co14) y346 := (by rw [hw, Ny346.out]; exact HP38.1); clear HP38; have n0_ := Aside0.mk (hp_); have n1_ := Aside0.mk (Kd.R_after (v := (.slice (some ⟨go7, 0, none⟩) x7_1.length co14)) (v1 := (.slice (some ⟨go7, 0, none⟩) x7_1.length co14)) (ok := (fun k_ => some k_ ≠ (.slice (some ad344) t339.length co35 : Value).ownBlock)) (by (with_reducible repeat (first | apply Kd.R_alloc | apply Kd.R_drewN | apply Kd.R_drew)); exact Kd.R_mono HO_8.out (fun _ hk => ⟨hk.2, hk.1⟩)) hg (.inl rfl)); have n2_ := Aside0.mk (Kd.R_after (v := (.slice (some ⟨go7, 0, none⟩) x7_1.length co14)) (v1 := (.slice (some ⟨go7, 0, none⟩) x7_1.length co14)) (ok := (fun k_ => some k_ ≠ (u8 : Value).ownBlock)) (by (with_reducible repeat (first | apply Kd.R_alloc | apply Kd.R_drewN | apply Kd.R_drew)); exact Kd.R_mono HO_10.out (fun _ hk => ⟨hk.2, hk.1⟩)) hg (.inl rfl)); have n3_ := Aside0.mk (blk_grown (g := gb329) (o := .cells #[.int .i64 a1_0, .int .i64 a1_1, .slice (some ad342) l1_2.length c1_2] 46 (0, 0)) (by (with_reducible repeat (first | refine blk_drewN ?_ _ | refine blk_drew ?_ | refine blk_alloc ?_ _)); exact BK329.out) hg (Kd.R_ne HO_7.out BK329.out (by decide))); have n4_ := Aside0.mk ((by rw [hw]; exact below_set (HB.out) GB7.out : Below w.heap.size w w39)); clear HO_7; clear HO_8; clear HO_10; clear BK329; clear HB; have HO_7 := n0_; have HO_8 := n1_; have HO_10 := n2_; have BK329 := n3_; have HB := n4_; clear n0_ n1_ n2_ n3_ n4_; clear hg hw hp_; have p347 : 0 ≤ (x12_1 : Int) := of_decide_eq_true (by first | (with_reducible assumption) | assumption); have q347 : x12_1 < (t339.length : Int) := of_decide_eq_true (by first | (with_reducible assumption) | assumption); obtain ⟨ad347, e347, hx347_0⟩ := Kd.at_int (Kd.R_reads' HO_10.out).2.2 x12_1 p347 q347; obtain rfl : ad344 = ad347 := (by injection e347); replace p347 := eq_true p347; replace q347 := eq_true q347; have p348 : 0 ≤ (x12_1 : Int) := of_decide_eq_true (by first | (with_reducible assumption) | assumption); have q348 : x12_1 < (t339.length : Int) := of_decide_eq_true (by first | (with_reducible assumption) | assumption); obtain ⟨ad348, e348, hx348_0⟩ := Kd.at_int (Kd.R_reads' HO_10.out).2.2 x12_1 p348 q348; obtain rfl : ad344 = ad348 := (by injection e348); replace p348 := eq_true p348; replace q348 := eq_true q348))
           (try simp only [← hl7_1])
           go_roundg k1
           case measure => have := HK1.out; omega
           case rel => exact ⟨(y346), (x8_1), (wrap64 ((wrap64 (x11_1 + (rd t339 x12_1))) - (ji25))), (wrap64 (x12_1 + 1)), (by first | rfl | (simp; done) | (simp only [← hji25] <;> (first | rfl | simp)) | (simp [*]; done)), (by first | rfl | (simp; done) | (simp [*]; done)), H', ⟨by have := HK1.out; omega⟩, ⟨by (try simp only [hl7_1]); (with_reducible repeat (first | apply Kd.R_alloc | apply Kd.R_drewN | apply Kd.R_drew)); exact HO_7.out⟩, ⟨by (try simp only [hl7_1]); (with_reducible repeat (first | apply Kd.R_alloc | apply Kd.R_drewN | apply Kd.R_drew)); exact Kd.R_mono HO_8.out (fun _ hk => ⟨hk.2, hk.1⟩)⟩, ⟨by (try simp only [hl7_1]); (with_reducible repeat (first | apply Kd.R_alloc | apply Kd.R_drewN | apply Kd.R_drew)); exact Kd.R_mono HO_10.out (fun _ hk => ⟨hk.2, hk.1⟩)⟩, ⟨by (try simp only [hl7_1]); (with_reducible repeat (first | refine blk_drewN ?_ _ | refine blk_drew ?_ | refine blk_alloc ?_ _)); exact BK329.out⟩, ⟨by repeat (first | (with_reducible first | exact HB.out | apply below_alloc | apply pw_below_drewN | apply below_drew1 | refine below_set ?_ GE329.out) | exact HB.out)⟩⟩
         ·rw [if_neg c24] at H
          exact absurd H (by simp)
        ·rw [if_neg c23] at H
         exact absurd H (by simp)
       ·rw [if_neg c22] at H
        exact absurd H (by simp)
      ·rw [if_neg c21] at H
       exact absurd H (by simp)
     ·rw [if_neg c20] at H
      have c20b0 : decide (x12_1 < (t339.length : Int)) = false := decide_eq_false c20
      have c20h0 := c20b0
      (try simp only [hl7_1] at c20h0)
      clear c20
      simp only [Option.some.injEq, Prod.mk.injEq] at H
      obtain ⟨rfl, rfl, rfl⟩ := H
      obtain ⟨Ao40, co40, eo40⟩ := Kd.R_slice HO_10.out
      subst eo40
      go_wp2
      go_ret3
      exact ⟨_, _, by first | rfl | (simp [errW_none, errW_some] <;> rfl) | (simp only [← hji6]; first | rfl | (simp [errW_none, errW_some] <;> rfl)) | (simp [*, errW_none, errW_some] <;> rfl), (by first | exact (by (with_reducible repeat (first | apply Kd.R_alloc | apply Kd.R_drewN | apply Kd.R_drew)); exact Kd.R_mono HO_7.out (fun _ hk => hk.1)) | (simp only [hl7_1]; exact (by (with_reducible repeat (first | apply Kd.R_alloc | apply Kd.R_drewN | apply Kd.R_drew)); exact Kd.R_mono HO_7.out (fun _ hk => hk.1)))), (by first | exact (by (with_reducible repeat (first | apply Kd.R_alloc | apply Kd.R_drewN | apply Kd.R_drew)); exact Kd.R_mono HO_8.out (fun _ hk => hk.1)) | (simp only [hl7_1]; exact (by (with_reducible repeat (first | apply Kd.R_alloc | apply Kd.R_drewN | apply Kd.R_drew)); exact Kd.R_mono HO_8.out (fun _ hk => hk.1)))), by repeat (first | (with_reducible first | exact HB.out | apply below_alloc | apply pw_below_drewN | apply below_drew1 | refine below_set ?_ GE329.out) | exact HB.out)⟩
  ·rw [if_neg c5] at H
   exact absurd H (by simp)
 ·rw [if_neg c4] at H
  exact absurd H (by simp)

end Go.Proofs.Ytakneceldonjdaa.PFnCascade
