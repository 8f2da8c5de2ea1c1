-- printed by pp.py, a program of this session's own, out of the translation; not the kit's print
-- halved
import Derived.Test.YtifohlgdkdcpeaaPFnExactMostLoanx0
import Derived.Test.YtifohlgdkdcpeaaPFnExactMostLoanx1
import Derived.Test.YtifohlgdkdcpeaaPFnExactMostLoanx2
import Derived.Test.YtifohlgdkdcpeaaPFnExactMostLoanx5
import Derived.Test.YtifohlgdkdcpeaaPFnExactMostLoanx9
namespace Go.Proofs.Ytifohlgdkdcpeaa.PFnExactMostLoan
open Go.RowKit Go.Proofs.YtifohlgdkdcpeaaW.PrintWords Go.Proofs.YtifohlgdkdcpeaaW.PrintLast Go.Proofs.YtifohlgdkdcpeaaW.PrintMore
attribute [local go_sem] max2_int min2_int max_two min_two max_three min_three max_four min_four   -- for this text's walks alone
set_option linter.unusedVariables false
set_option linter.unusedSimpArgs false

/-! ### laws_FnExactMostLoan: function 6 -/
def laws_FnExactMostLoan.f (k : Nat) (l0 : List Int) (l1 : List (S47)) (a2_0 : Int) (a2_1 : Int) (l2_2 : List Int) : Option (Bool) := if (l0.length : Int) > 1048576 then (some true) else ((laws_szLoanS.f k l1 1048576).bind fun t272 => (if t272 < 0 then (some true) else ((laws_szLoan.f a2_0 a2_1 l2_2 t272).bind fun t273 => (if t273 < 0 then (some true) else ((laws_toIntS.f k l0).bind fun t274 => ((laws_toLoanS.f k l1).bind fun t277 => ((laws_toLoan.f k a2_0 a2_1 l2_2).bind fun bt280 => ((spec_MostLoan.f k t274 t277 bt280.1 bt280.2.1 bt280.2.2).bind fun t285 => ((laws_toIntS.f k l0).bind fun t286 => ((laws_toLoanS.f k l1).bind fun t289 => ((laws_toLoan.f k a2_0 a2_1 l2_2).bind fun bt292 => ((impl_MostLoan.f k t286 t289 bt292.1 bt292.2.1 bt292.2.2).bind fun t298 => (if t298 = t285 then ((laws_toIntS.f k l0).bind fun t299 => ((laws_eqIntS.f k t286 t299).bind fun t302 => (if t302 = true then ((laws_toLoanS.f k l1).bind fun t303 => ((laws_eqLoanS.f k t289 t303).bind fun t306 => (if t306 = true then ((laws_toLoan.f k a2_0 a2_1 l2_2).bind fun bt307 => ((laws_eqLoan.f k bt292.1 bt292.2.1 bt292.2.2 bt307.1 bt307.2.1 bt307.2.2).bind fun t312 => (if t312 = true then (some true) else (some false)))) else (some false)))) else (some false)))) else (some false))))))))))))))
theorem laws_FnExactMostLoan.mono : ∀ a0 a1 a2 a3 a4 k, LeO (laws_FnExactMostLoan.f k a0 a1 a2 a3 a4) (laws_FnExactMostLoan.f (k + 1) a0 a1 a2 a3 a4) := by
 intro a0 a1 a2 a3 a4 k
 unfold laws_FnExactMostLoan.f
 repeat' first
   | (with_reducible exact impl_MostLoan.mono _ _ _ _ _ _)
   | (with_reducible exact laws_eqIntS.mono _ _ _)
   | (with_reducible exact laws_eqLoan.mono _ _ _ _ _ _ _)
   | (with_reducible exact laws_eqLoanS.mono _ _ _)
   | (with_reducible exact laws_szLoanS.mono _ _ _)
   | (with_reducible exact laws_toIntS.mono _ _)
   | (with_reducible exact laws_toLoan.mono _ _ _ _)
   | (with_reducible exact laws_toLoanS.mono _ _)
   | (with_reducible exact spec_MostLoan.mono _ _ _ _ _ _)
   | (with_reducible exact LeO.refl _)
   | (with_reducible exact LeO.none _)
   | (with_reducible refine LeO.ite ?_ ?_)
   | (with_reducible refine LeO.bind ?_ (fun _ => ?_))
   | exact impl_MostLoan.mono _ _ _ _ _ _
   | exact laws_eqIntS.mono _ _ _
   | exact laws_eqLoan.mono _ _ _ _ _ _ _
   | exact laws_eqLoanS.mono _ _ _
   | exact laws_szLoanS.mono _ _ _
   | exact laws_toIntS.mono _ _
   | exact laws_toLoan.mono _ _ _ _
   | exact laws_toLoanS.mono _ _
   | exact spec_MostLoan.mono _ _ _ _ _ _
   | exact LeO.none _
   | refine LeO.ite ?_ ?_
   | refine LeO.bind ?_ (fun _ => ?_)
def laws_FnExactMostLoan.T10 : Bool × List (List Nat × List Nat) := (true, [([], []), ([0], [0]), ([], []), ([2, 1], [2]), ([], []), ([4, 3], [4]), ([1, 3, 5, 5], [1, 3, 5]), ([6, 6, 0, 1, 2, 3, 4, 5, 6], [6])])
def laws_FnExactMostLoan.B10 : List Nat := [0, 1, 0, 7, 0, 31, 63, 127]
theorem laws_FnExactMostLoan.tab10 : rtab .any (opsOf Try.f6 10) = laws_FnExactMostLoan.T10 := by kernel_rfl
theorem laws_FnExactMostLoan.bits10 : waitsOk laws_FnExactMostLoan.T10.2 laws_FnExactMostLoan.B10 = true := by kernel_rfl
set_option maxHeartbeats 8000000 in
set_option maxRecDepth 100000 in
theorem laws_FnExactMostLoan.calls (k : Nat) (A0 : Option Addr) (c0 : Nat) (l0 : List Int) (A1 : Option Addr) (c1 : Nat) (l1 : List (S47)) (a2_0 : Int) (a2_1 : Int) (A2_2 : Option Addr) (c2_2 : Nat) (l2_2 : List Int) (r : Bool) (w : World) (hr0 : Kd.C (Kd.int .i64) w A0 l0.length l0) (hc0 : l0.length ≤ c0) (hr1 : Kd.C k47 w A1 l1.length l1) (hc1 : l1.length ≤ c1) (hr2_2 : Kd.C (Kd.int .i64) w A2_2 l2_2.length l2_2) (hc2_2 : l2_2.length ≤ c2_2) (h : laws_FnExactMostLoan.f k l0 l1 a2_0 a2_1 l2_2 = some r) :
  Calls Try.prog 6 #[.slice A0 l0.length c0, .slice A1 l1.length c1, .agg #[.int .i64 a2_0, .int .i64 a2_1, .slice A2_2 l2_2.length c2_2]] w fun e w' => e = .returned (.bool r) ∧ Below w.heap.size w w' := by
 have hu47 := Try.underlying47
 have hu42 := Try.underlying42
 have HR0 := Ad.mk hr0
 have HC0 := Ad.mk hc0
 clear hr0 hc0
 have HR1 := Ad.mk hr1
 have HC1 := Ad.mk hc1
 clear hr1 hc1
 have HR2_2 := Ad.mk hr2_2
 have HC2_2 := Ad.mk hc2_2
 clear hr2_2 hc2_2
 have HB := Ad.mk (Below.refl w.heap.size w)
 have H : (if (l0.length : Int) > 1048576 then (some true) else ((laws_szLoanS.f k l1 1048576).bind fun t272 => (if t272 < 0 then (some true) else ((laws_szLoan.f a2_0 a2_1 l2_2 t272).bind fun t273 => (if t273 < 0 then (some true) else ((laws_toIntS.f k l0).bind fun t274 => ((laws_toLoanS.f k l1).bind fun t277 => ((laws_toLoan.f k a2_0 a2_1 l2_2).bind fun bt280 => ((spec_MostLoan.f k t274 t277 bt280.1 bt280.2.1 bt280.2.2).bind fun t285 => ((laws_toIntS.f k l0).bind fun t286 => ((laws_toLoanS.f k l1).bind fun t289 => ((laws_toLoan.f k a2_0 a2_1 l2_2).bind fun bt292 => ((impl_MostLoan.f k t286 t289 bt292.1 bt292.2.1 bt292.2.2).bind fun t298 => (if t298 = t285 then ((laws_toIntS.f k l0).bind fun t299 => ((laws_eqIntS.f k t286 t299).bind fun t302 => (if t302 = true then ((laws_toLoanS.f k l1).bind fun t303 => ((laws_eqLoanS.f k t289 t303).bind fun t306 => (if t306 = true then ((laws_toLoan.f k a2_0 a2_1 l2_2).bind fun bt307 => ((laws_eqLoan.f k bt292.1 bt292.2.1 bt292.2.2 bt307.1 bt307.2.1 bt307.2.2).bind fun t312 => (if t312 = true then (some true) else (some false)))) else (some false)))) else (some false)))) else (some false))))))))))))))) = some r := h
 clear h
 by_cases c4 : (l0.length : Int) > 1048576
 ·rw [if_pos c4] at H
  have c4b0 : decide (1048576 < (l0.length : Int)) = true := decide_eq_true c4
  have c4b1 : decide (1048576 < l0.length) = true := decide_eq_true (by omega)
  clear c4
  obtain rfl := Option.some.inj H
  go_enter Try.func6, Try.ntmps6
  go_wp2_with (first | ((with_reducible refine gate_dst (N := 5) rfl ?_); refine box_event ?hg (N := 5) ?hd (cs := #[.int .i64 a2_0, .int .i64 a2_1, .slice A2_2 l2_2.length c2_2]) (t := 47) ?hr ?_; (case hd => rfl); (case hg => rfl); (case hr => first | (go_simp; done) | (go_simp; rfl)); intro gb271 hg w5 hbox hb; have n0_ := Ad.mk (qa2 (by repeat (first | (with_reducible first | exact HB.out | apply bwa | apply bwN | apply bw1) | exact HB.out)) hb); have n1_ := Ad.mk (hbox); have n2_ := Ad.mk ((by rw [hg]; exact (qa0 (by repeat (first | (with_reducible first | exact HB.out | apply bwa | apply bwN | apply bw1) | exact HB.out))) : w.heap.size ≤ gb271)); have n3_ := Ad.mk ((by rw [hg]; exact (qa0 (by repeat (first | (with_reducible first | exact HB.out | apply bwa | apply bwN | apply bw1) | exact HB.out))) : w.heap.size ≤ gb271)); clear HB; have HB := n0_; have BK271 := n1_; have GW271 := n2_; have GE271 := n3_; clear n0_ n1_ n2_ n3_; clear hb hbox hg))
  go_ret
  exact ⟨by first | rfl | (simp [errW_none, errW_some] <;> rfl) | (simp [*, errW_none, errW_some] <;> rfl), by repeat (first | (with_reducible first | exact HB.out | apply bwa | apply bwN | apply bw1 | refine bws ?_ GE271.out) | exact HB.out)⟩
 ·rw [if_neg c4] at H
  have c4b0 : decide (1048576 < (l0.length : Int)) = false := decide_eq_false c4
  have c4b1 : decide (1048576 < l0.length) = false := decide_eq_false (by omega)
  clear c4
  replace H := Option.bind_eq_some_iff.mp H
  obtain ⟨t272, A60, H⟩ := H
  replace H : (if t272 < 0 then (some true) else ((laws_szLoan.f a2_0 a2_1 l2_2 t272).bind fun t273 => (if t273 < 0 then (some true) else ((laws_toIntS.f k l0).bind fun t274 => ((laws_toLoanS.f k l1).bind fun t277 => ((laws_toLoan.f k a2_0 a2_1 l2_2).bind fun bt280 => ((spec_MostLoan.f k t274 t277 bt280.1 bt280.2.1 bt280.2.2).bind fun t285 => ((laws_toIntS.f k l0).bind fun t286 => ((laws_toLoanS.f k l1).bind fun t289 => ((laws_toLoan.f k a2_0 a2_1 l2_2).bind fun bt292 => ((impl_MostLoan.f k t286 t289 bt292.1 bt292.2.1 bt292.2.2).bind fun t298 => (if t298 = t285 then ((laws_toIntS.f k l0).bind fun t299 => ((laws_eqIntS.f k t286 t299).bind fun t302 => (if t302 = true then ((laws_toLoanS.f k l1).bind fun t303 => ((laws_eqLoanS.f k t289 t303).bind fun t306 => (if t306 = true then ((laws_toLoan.f k a2_0 a2_1 l2_2).bind fun bt307 => ((laws_eqLoan.f k bt292.1 bt292.2.1 bt292.2.2 bt307.1 bt307.2.1 bt307.2.2).bind fun t312 => (if t312 = true then (some true) else (some false)))) else (some false)))) else (some false)))) else (some false))))))))))))) = some r := H
  have A6 := Ad.mk A60
  clear A60
  by_cases c7 : t272 < 0
  ·rw [if_pos c7] at H
   have c7b0 : decide (t272 < 0) = true := decide_eq_true c7
   clear c7
   obtain rfl := Option.some.inj H
   go_enter Try.func6, Try.ntmps6
   go_wp2_with (first | ((with_reducible refine gate_dst (N := 5) rfl ?_); refine box_event ?hg (N := 5) ?hd (cs := #[.int .i64 a2_0, .int .i64 a2_1, .slice A2_2 l2_2.length c2_2]) (t := 47) ?hr ?_; (case hd => rfl); (case hg => rfl); (case hr => first | (go_simp; done) | (go_simp; rfl)); intro gb271 hg w8 hbox hb; have n0_ := Ad.mk (qa2 (by repeat (first | (with_reducible first | exact HB.out | apply bwa | apply bwN | apply bw1) | exact HB.out)) hb); have n1_ := Ad.mk (hbox); have n2_ := Ad.mk ((by rw [hg]; exact (qa0 (by repeat (first | (with_reducible first | exact HB.out | apply bwa | apply bwN | apply bw1) | exact HB.out))) : w.heap.size ≤ gb271)); have n3_ := Ad.mk ((by rw [hg]; exact (qa0 (by repeat (first | (with_reducible first | exact HB.out | apply bwa | apply bwN | apply bw1) | exact HB.out))) : w.heap.size ≤ gb271)); clear HB; have HB := n0_; have BK271 := n1_; have GW271 := n2_; have GE271 := n3_; clear n0_ n1_ n2_ n3_; clear hb hbox hg) | ((with_reducible refine qa4 (f := 15) rfl ?_); refine goesL_ (some 18) rfl rfl Try.func15 (by kernel_rfl) rfl #[.slice A1 l1.length c1, .int .i64 1048576] rfl (by (try simp only [List.map_toArray, List.map_cons, List.map_nil]); first | done | rfl | (simp only [List.length_drop, List.length_take]; rfl)) ?_; (with_reducible refine (laws_szLoanS.calls k _ _ l1 1048576 t272 _ ?side1 ?side2 A6.out).mono ?_); (case side1 => repeat (first | exact (Kd.C_below HR1.out HB.out) | (with_reducible refine Kd.C_alloc ?_ _) | (with_reducible refine Kd.C_drewN ?_ _) | (with_reducible refine Kd.C_drew ?_))); (case side2 => exact HC1.out); rintro e w9 ⟨rfl, hb⟩; refine ⟨_, rfl, ?_⟩; have n0_ := Ad.mk (qa3 (g := gb271) (o := .cells #[.int .i64 a2_0, .int .i64 a2_1, .slice A2_2 l2_2.length c2_2] 47 (0, 0)) (by (with_reducible repeat (first | refine bkN ?_ _ | refine bkd ?_ | refine bka ?_ _)); exact BK271.out) hb); have n1_ := Ad.mk (qa2 (by repeat (first | (with_reducible first | exact HB.out | apply bwa | apply bwN | apply bw1 | refine bws ?_ GE271.out) | exact HB.out)) hb); clear BK271; clear HB; have BK271 := n0_; have HB := n1_; clear n0_ n1_; (try clear hb); (try clear hb2); (try clear hk); (try clear hi)))
   go_ret
   exact ⟨by first | rfl | (simp [errW_none, errW_some] <;> rfl) | (simp [*, errW_none, errW_some] <;> rfl), by repeat (first | (with_reducible first | exact HB.out | apply bwa | apply bwN | apply bw1 | refine bws ?_ GE271.out) | exact HB.out)⟩
  ·rw [if_neg c7] at H
   have c7b0 : decide (t272 < 0) = false := decide_eq_false c7
   clear c7
   replace H := Option.bind_eq_some_iff.mp H
   obtain ⟨t273, A100, H⟩ := H
   replace H : (if t273 < 0 then (some true) else ((laws_toIntS.f k l0).bind fun t274 => ((laws_toLoanS.f k l1).bind fun t277 => ((laws_toLoan.f k a2_0 a2_1 l2_2).bind fun bt280 => ((spec_MostLoan.f k t274 t277 bt280.1 bt280.2.1 bt280.2.2).bind fun t285 => ((laws_toIntS.f k l0).bind fun t286 => ((laws_toLoanS.f k l1).bind fun t289 => ((laws_toLoan.f k a2_0 a2_1 l2_2).bind fun bt292 => ((impl_MostLoan.f k t286 t289 bt292.1 bt292.2.1 bt292.2.2).bind fun t298 => (if t298 = t285 then ((laws_toIntS.f k l0).bind fun t299 => ((laws_eqIntS.f k t286 t299).bind fun t302 => (if t302 = true then ((laws_toLoanS.f k l1).bind fun t303 => ((laws_eqLoanS.f k t289 t303).bind fun t306 => (if t306 = true then ((laws_toLoan.f k a2_0 a2_1 l2_2).bind fun bt307 => ((laws_eqLoan.f k bt292.1 bt292.2.1 bt292.2.2 bt307.1 bt307.2.1 bt307.2.2).bind fun t312 => (if t312 = true then (some true) else (some false)))) else (some false)))) else (some false)))) else (some false))))))))))) = some r := H
   have A10 := Ad.mk A100
   clear A100
   by_cases c11 : t273 < 0
   ·rw [if_pos c11] at H
    have c11b0 : decide (t273 < 0) = true := decide_eq_true c11
    clear c11
    obtain rfl := Option.some.inj H
    go_enter Try.func6, Try.ntmps6
    go_wp2_with (first | ((with_reducible refine gate_dst (N := 5) rfl ?_); refine box_event ?hg (N := 5) ?hd (cs := #[.int .i64 a2_0, .int .i64 a2_1, .slice A2_2 l2_2.length c2_2]) (t := 47) ?hr ?_; (case hd => rfl); (case hg => rfl); (case hr => first | (go_simp; done) | (go_simp; rfl)); intro gb271 hg w12 hbox hb; have n0_ := Ad.mk (qa2 (by repeat (first | (with_reducible first | exact HB.out | apply bwa | apply bwN | apply bw1) | exact HB.out)) hb); have n1_ := Ad.mk (hbox); have n2_ := Ad.mk ((by rw [hg]; exact (qa0 (by repeat (first | (with_reducible first | exact HB.out | apply bwa | apply bwN | apply bw1) | exact HB.out))) : w.heap.size ≤ gb271)); have n3_ := Ad.mk ((by rw [hg]; exact (qa0 (by repeat (first | (with_reducible first | exact HB.out | apply bwa | apply bwN | apply bw1) | exact HB.out))) : w.heap.size ≤ gb271)); clear HB; have HB := n0_; have BK271 := n1_; have GW271 := n2_; have GE271 := n3_; clear n0_ n1_ n2_ n3_; clear hb hbox hg) | ((with_reducible refine qa4 (f := 15) rfl ?_); refine goesL_ (some 18) rfl rfl Try.func15 (by kernel_rfl) rfl #[.slice A1 l1.length c1, .int .i64 1048576] rfl (by (try simp only [List.map_toArray, List.map_cons, List.map_nil]); first | done | rfl | (simp only [List.length_drop, List.length_take]; rfl)) ?_; (with_reducible refine (laws_szLoanS.calls k _ _ l1 1048576 t272 _ ?side1 ?side2 A6.out).mono ?_); (case side1 => repeat (first | exact (Kd.C_below HR1.out HB.out) | (with_reducible refine Kd.C_alloc ?_ _) | (with_reducible refine Kd.C_drewN ?_ _) | (with_reducible refine Kd.C_drew ?_))); (case side2 => exact HC1.out); rintro e w13 ⟨rfl, hb⟩; refine ⟨_, rfl, ?_⟩; have n0_ := Ad.mk (qa3 (g := gb271) (o := .cells #[.int .i64 a2_0, .int .i64 a2_1, .slice A2_2 l2_2.length c2_2] 47 (0, 0)) (by (with_reducible repeat (first | refine bkN ?_ _ | refine bkd ?_ | refine bka ?_ _)); exact BK271.out) hb); have n1_ := Ad.mk (qa2 (by repeat (first | (with_reducible first | exact HB.out | apply bwa | apply bwN | apply bw1 | refine bws ?_ GE271.out) | exact HB.out)) hb); clear BK271; clear HB; have BK271 := n0_; have HB := n1_; clear n0_ n1_; (try clear hb); (try clear hb2); (try clear hk); (try clear hi); have hcz14_0 : w13.cell? ⟨gb271, 0, none⟩ = some (.int .i64 a2_0) := (bkc BK271.out 0).trans rfl; have hcz14_1 : w13.cell? ⟨gb271, 1, none⟩ = some (.int .i64 a2_1) := (bkc BK271.out 1).trans rfl; have hcz14_2 : w13.cell? ⟨gb271, 2, none⟩ = some (.slice A2_2 l2_2.length c2_2) := (bkc BK271.out 2).trans rfl; have hfz14_0 := qa1 BK271.out 0; have hfz14_1 := qa1 BK271.out 1; have hfz14_2 := qa1 BK271.out 2) | ((with_reducible refine qa4 (f := 26) rfl ?_); refine goesL_ (some 23) rfl rfl Try.func26 (by kernel_rfl) rfl #[.agg #[.int .i64 a2_0, .int .i64 a2_1, .slice A2_2 l2_2.length c2_2], .int .i64 t272] rfl (by (try simp only [List.map_toArray, List.map_cons, List.map_nil]); first | done | rfl | (simp only [List.length_drop, List.length_take]; rfl)) ?_; (with_reducible refine (laws_szLoan.calls a2_0 a2_1 _ _ l2_2 t272 t273 _ ?side1 ?side2 A10.out).mono ?_); (case side1 => repeat (first | exact (Kd.C_below HR2_2.out HB.out) | (with_reducible refine Kd.C_alloc ?_ _) | (with_reducible refine Kd.C_drewN ?_ _) | (with_reducible refine Kd.C_drew ?_))); (case side2 => exact HC2_2.out); rintro e w15 ⟨rfl, hb⟩; refine ⟨_, rfl, ?_⟩; have n0_ := Ad.mk (qa3 (g := gb271) (o := .cells #[.int .i64 a2_0, .int .i64 a2_1, .slice A2_2 l2_2.length c2_2] 47 (0, 0)) (by (with_reducible repeat (first | refine bkN ?_ _ | refine bkd ?_ | refine bka ?_ _)); exact BK271.out) hb); have n1_ := Ad.mk (qa2 (by repeat (first | (with_reducible first | exact HB.out | apply bwa | apply bwN | apply bw1 | refine bws ?_ GE271.out) | exact HB.out)) hb); clear BK271; clear HB; have BK271 := n0_; have HB := n1_; clear n0_ n1_; (try clear hb); (try clear hb2); (try clear hk); (try clear hi)))
    go_ret
    exact ⟨by first | rfl | (simp [errW_none, errW_some] <;> rfl) | (simp [*, errW_none, errW_some] <;> rfl), by repeat (first | (with_reducible first | exact HB.out | apply bwa | apply bwN | apply bw1 | refine bws ?_ GE271.out) | exact HB.out)⟩
   ·rw [if_neg c11] at H
    have c11b0 : decide (t273 < 0) = false := decide_eq_false c11
    clear c11
    replace H := Option.bind_eq_some_iff.mp H
    obtain ⟨t274, A160, H⟩ := H
    replace H : ((laws_toLoanS.f k l1).bind fun t277 => ((laws_toLoan.f k a2_0 a2_1 l2_2).bind fun bt280 => ((spec_MostLoan.f k t274 t277 bt280.1 bt280.2.1 bt280.2.2).bind fun t285 => ((laws_toIntS.f k l0).bind fun t286 => ((laws_toLoanS.f k l1).bind fun t289 => ((laws_toLoan.f k a2_0 a2_1 l2_2).bind fun bt292 => ((impl_MostLoan.f k t286 t289 bt292.1 bt292.2.1 bt292.2.2).bind fun t298 => (if t298 = t285 then ((laws_toIntS.f k l0).bind fun t299 => ((laws_eqIntS.f k t286 t299).bind fun t302 => (if t302 = true then ((laws_toLoanS.f k l1).bind fun t303 => ((laws_eqLoanS.f k t289 t303).bind fun t306 => (if t306 = true then ((laws_toLoan.f k a2_0 a2_1 l2_2).bind fun bt307 => ((laws_eqLoan.f k bt292.1 bt292.2.1 bt292.2.2 bt307.1 bt307.2.1 bt307.2.2).bind fun t312 => (if t312 = true then (some true) else (some false)))) else (some false)))) else (some false)))) else (some false))))))))) = some r := H
    have A16 := Ad.mk A160
    clear A160
    replace H := Option.bind_eq_some_iff.mp H
    obtain ⟨t277, A170, H⟩ := H
    replace H : ((laws_toLoan.f k a2_0 a2_1 l2_2).bind fun bt280 => ((spec_MostLoan.f k t274 t277 bt280.1 bt280.2.1 bt280.2.2).bind fun t285 => ((laws_toIntS.f k l0).bind fun t286 => ((laws_toLoanS.f k l1).bind fun t289 => ((laws_toLoan.f k a2_0 a2_1 l2_2).bind fun bt292 => ((impl_MostLoan.f k t286 t289 bt292.1 bt292.2.1 bt292.2.2).bind fun t298 => (if t298 = t285 then ((laws_toIntS.f k l0).bind fun t299 => ((laws_eqIntS.f k t286 t299).bind fun t302 => (if t302 = true then ((laws_toLoanS.f k l1).bind fun t303 => ((laws_eqLoanS.f k t289 t303).bind fun t306 => (if t306 = true then ((laws_toLoan.f k a2_0 a2_1 l2_2).bind fun bt307 => ((laws_eqLoan.f k bt292.1 bt292.2.1 bt292.2.2 bt307.1 bt307.2.1 bt307.2.2).bind fun t312 => (if t312 = true then (some true) else (some false)))) else (some false)))) else (some false)))) else (some false)))))))) = some r := H
    have A17 := Ad.mk A170
    clear A170
    replace H := Option.bind_eq_some_iff.mp H
    obtain ⟨⟨t280, t281, t282⟩, A180, H⟩ := H
    replace H : ((spec_MostLoan.f k t274 t277 t280 t281 t282).bind fun t285 => ((laws_toIntS.f k l0).bind fun t286 => ((laws_toLoanS.f k l1).bind fun t289 => ((laws_toLoan.f k a2_0 a2_1 l2_2).bind fun bt292 => ((impl_MostLoan.f k t286 t289 bt292.1 bt292.2.1 bt292.2.2).bind fun t298 => (if t298 = t285 then ((laws_toIntS.f k l0).bind fun t299 => ((laws_eqIntS.f k t286 t299).bind fun t302 => (if t302 = true then ((laws_toLoanS.f k l1).bind fun t303 => ((laws_eqLoanS.f k t289 t303).bind fun t306 => (if t306 = true then ((laws_toLoan.f k a2_0 a2_1 l2_2).bind fun bt307 => ((laws_eqLoan.f k bt292.1 bt292.2.1 bt292.2.2 bt307.1 bt307.2.1 bt307.2.2).bind fun t312 => (if t312 = true then (some true) else (some false)))) else (some false)))) else (some false)))) else (some false))))))) = some r := H
    have A18 := Ad.mk A180
    clear A180
    replace H := Option.bind_eq_some_iff.mp H
    obtain ⟨t285, A190, H⟩ := H
    replace H : ((laws_toIntS.f k l0).bind fun t286 => ((laws_toLoanS.f k l1).bind fun t289 => ((laws_toLoan.f k a2_0 a2_1 l2_2).bind fun bt292 => ((impl_MostLoan.f k t286 t289 bt292.1 bt292.2.1 bt292.2.2).bind fun t298 => (if t298 = t285 then ((laws_toIntS.f k l0).bind fun t299 => ((laws_eqIntS.f k t286 t299).bind fun t302 => (if t302 = true then ((laws_toLoanS.f k l1).bind fun t303 => ((laws_eqLoanS.f k t289 t303).bind fun t306 => (if t306 = true then ((laws_toLoan.f k a2_0 a2_1 l2_2).bind fun bt307 => ((laws_eqLoan.f k bt292.1 bt292.2.1 bt292.2.2 bt307.1 bt307.2.1 bt307.2.2).bind fun t312 => (if t312 = true then (some true) else (some false)))) else (some false)))) else (some false)))) else (some false)))))) = some r := H
    have A19 := Ad.mk A190
    clear A190
    replace H := Option.bind_eq_some_iff.mp H
    obtain ⟨t286, A200, H⟩ := H
    replace H : ((laws_toLoanS.f k l1).bind fun t289 => ((laws_toLoan.f k a2_0 a2_1 l2_2).bind fun bt292 => ((impl_MostLoan.f k t286 t289 bt292.1 bt292.2.1 bt292.2.2).bind fun t298 => (if t298 = t285 then ((laws_toIntS.f k l0).bind fun t299 => ((laws_eqIntS.f k t286 t299).bind fun t302 => (if t302 = true then ((laws_toLoanS.f k l1).bind fun t303 => ((laws_eqLoanS.f k t289 t303).bind fun t306 => (if t306 = true then ((laws_toLoan.f k a2_0 a2_1 l2_2).bind fun bt307 => ((laws_eqLoan.f k bt292.1 bt292.2.1 bt292.2.2 bt307.1 bt307.2.1 bt307.2.2).bind fun t312 => (if t312 = true then (some true) else (some false)))) else (some false)))) else (some false)))) else (some false))))) = some r := H
    have A20 := Ad.mk A200
    clear A200
    replace H := Option.bind_eq_some_iff.mp H
    obtain ⟨t289, A210, H⟩ := H
    replace H : ((laws_toLoan.f k a2_0 a2_1 l2_2).bind fun bt292 => ((impl_MostLoan.f k t286 t289 bt292.1 bt292.2.1 bt292.2.2).bind fun t298 => (if t298 = t285 then ((laws_toIntS.f k l0).bind fun t299 => ((laws_eqIntS.f k t286 t299).bind fun t302 => (if t302 = true then ((laws_toLoanS.f k l1).bind fun t303 => ((laws_eqLoanS.f k t289 t303).bind fun t306 => (if t306 = true then ((laws_toLoan.f k a2_0 a2_1 l2_2).bind fun bt307 => ((laws_eqLoan.f k bt292.1 bt292.2.1 bt292.2.2 bt307.1 bt307.2.1 bt307.2.2).bind fun t312 => (if t312 = true then (some true) else (some false)))) else (some false)))) else (some false)))) else (some false)))) = some r := H
    have A21 := Ad.mk A210
    clear A210
    replace H := Option.bind_eq_some_iff.mp H
    obtain ⟨⟨t292, t293, t294⟩, A220, H⟩ := H
    replace H : ((impl_MostLoan.f k t286 t289 t292 t293 t294).bind fun t298 => (if t298 = t285 then ((laws_toIntS.f k l0).bind fun t299 => ((laws_eqIntS.f k t286 t299).bind fun t302 => (if t302 = true then ((laws_toLoanS.f k l1).bind fun t303 => ((laws_eqLoanS.f k t289 t303).bind fun t306 => (if t306 = true then ((laws_toLoan.f k a2_0 a2_1 l2_2).bind fun bt307 => ((laws_eqLoan.f k t292 t293 t294 bt307.1 bt307.2.1 bt307.2.2).bind fun t312 => (if t312 = true then (some true) else (some false)))) else (some false)))) else (some false)))) else (some false))) = some r := H
    have A22 := Ad.mk A220
    clear A220
    replace H := Option.bind_eq_some_iff.mp H
    obtain ⟨t298, A230, H⟩ := H
    replace H : (if t298 = t285 then ((laws_toIntS.f k l0).bind fun t299 => ((laws_eqIntS.f k t286 t299).bind fun t302 => (if t302 = true then ((laws_toLoanS.f k l1).bind fun t303 => ((laws_eqLoanS.f k t289 t303).bind fun t306 => (if t306 = true then ((laws_toLoan.f k a2_0 a2_1 l2_2).bind fun bt307 => ((laws_eqLoan.f k t292 t293 t294 bt307.1 bt307.2.1 bt307.2.2).bind fun t312 => (if t312 = true then (some true) else (some false)))) else (some false)))) else (some false)))) else (some false)) = some r := H
    have A23 := Ad.mk A230
    clear A230
    by_cases c24 : t298 = t285
    ·rw [if_pos c24] at H
     have c24b0 : (t298 == t285) = true := beq_iff_eq.mpr c24
     have c24b1 : (t298 != t285) = false := bne_eq_false_iff_eq.mpr c24
     clear c24
     replace H := Option.bind_eq_some_iff.mp H
     obtain ⟨t299, A250, H⟩ := H
     replace H : ((laws_eqIntS.f k t286 t299).bind fun t302 => (if t302 = true then ((laws_toLoanS.f k l1).bind fun t303 => ((laws_eqLoanS.f k t289 t303).bind fun t306 => (if t306 = true then ((laws_toLoan.f k a2_0 a2_1 l2_2).bind fun bt307 => ((laws_eqLoan.f k t292 t293 t294 bt307.1 bt307.2.1 bt307.2.2).bind fun t312 => (if t312 = true then (some true) else (some false)))) else (some false)))) else (some false))) = some r := H
     have A25 := Ad.mk A250
     clear A250
     replace H := Option.bind_eq_some_iff.mp H
     obtain ⟨t302, A260, H⟩ := H
     replace H : (if t302 = true then ((laws_toLoanS.f k l1).bind fun t303 => ((laws_eqLoanS.f k t289 t303).bind fun t306 => (if t306 = true then ((laws_toLoan.f k a2_0 a2_1 l2_2).bind fun bt307 => ((laws_eqLoan.f k t292 t293 t294 bt307.1 bt307.2.1 bt307.2.2).bind fun t312 => (if t312 = true then (some true) else (some false)))) else (some false)))) else (some false)) = some r := H
     have A26 := Ad.mk A260
     clear A260
     by_cases c27 : t302 = true
     ·subst c27
      have H1 : ((laws_toLoanS.f k l1).bind fun t303 => ((laws_eqLoanS.f k t289 t303).bind fun t306 => (if t306 = true then ((laws_toLoan.f k a2_0 a2_1 l2_2).bind fun bt307 => ((laws_eqLoan.f k t292 t293 t294 bt307.1 bt307.2.1 bt307.2.2).bind fun t312 => (if t312 = true then (some true) else (some false)))) else (some false)))) = some r := by rw [if_pos rfl] at H; exact H
      clear H
      have H := H1
      clear H1
      replace H := Option.bind_eq_some_iff.mp H
      obtain ⟨t303, A280, H⟩ := H
      replace H : ((laws_eqLoanS.f k t289 t303).bind fun t306 => (if t306 = true then ((laws_toLoan.f k a2_0 a2_1 l2_2).bind fun bt307 => ((laws_eqLoan.f k t292 t293 t294 bt307.1 bt307.2.1 bt307.2.2).bind fun t312 => (if t312 = true then (some true) else (some false)))) else (some false))) = some r := H
      have A28 := Ad.mk A280
      clear A280
      replace H := Option.bind_eq_some_iff.mp H
      obtain ⟨t306, A290, H⟩ := H
      replace H : (if t306 = true then ((laws_toLoan.f k a2_0 a2_1 l2_2).bind fun bt307 => ((laws_eqLoan.f k t292 t293 t294 bt307.1 bt307.2.1 bt307.2.2).bind fun t312 => (if t312 = true then (some true) else (some false)))) else (some false)) = some r := H
      have A29 := Ad.mk A290
      clear A290
      by_cases c30 : t306 = true
      ·subst c30
       have H1 : ((laws_toLoan.f k a2_0 a2_1 l2_2).bind fun bt307 => ((laws_eqLoan.f k t292 t293 t294 bt307.1 bt307.2.1 bt307.2.2).bind fun t312 => (if t312 = true then (some true) else (some false)))) = some r := by rw [if_pos rfl] at H; exact H
       clear H
       have H := H1
       clear H1
       replace H := Option.bind_eq_some_iff.mp H
       obtain ⟨⟨t307, t308, t309⟩, A310, H⟩ := H
       replace H : ((laws_eqLoan.f k t292 t293 t294 t307 t308 t309).bind fun t312 => (if t312 = true then (some true) else (some false))) = some r := H
       have A31 := Ad.mk A310
       clear A310
       replace H := Option.bind_eq_some_iff.mp H
       obtain ⟨t312, A320, H⟩ := H
       replace H : (if t312 = true then (some true) else (some false)) = some r := H
       have A32 := Ad.mk A320
       clear A320
       by_cases c33 : t312 = true
       ·subst c33
        have H1 : (some true) = some r := by rw [if_pos rfl] at H; exact H
        clear H
        have H := H1
        clear H1
        obtain rfl := Option.some.inj H
        go_enter Try.func6, Try.ntmps6
        try go_wp2_with (first | ((with_reducible refine gate_dst (N := 5) rfl ?_); refine box_event ?hg (N := 5) ?hd (cs := #[.int .i64 a2_0, .int .i64 a2_1, .slice A2_2 l2_2.length c2_2]) (t := 47) ?hr ?_; (case hd => rfl); (case hg => rfl); (case hr => first | (go_simp; done) | (go_simp; rfl)); intro gb271 hg w34 hbox hb; have n0_ := Ad.mk (qa2 (by repeat (first | (with_reducible first | exact HB.out | apply bwa | apply bwN | apply bw1) | exact HB.out)) hb); have n1_ := Ad.mk (hbox); have n2_ := Ad.mk ((by rw [hg]; exact (qa0 (by repeat (first | (with_reducible first | exact HB.out | apply bwa | apply bwN | apply bw1) | exact HB.out))) : w.heap.size ≤ gb271)); have n3_ := Ad.mk ((by rw [hg]; exact (qa0 (by repeat (first | (with_reducible first | exact HB.out | apply bwa | apply bwN | apply bw1) | exact HB.out))) : w.heap.size ≤ gb271)); clear HB; have HB := n0_; have BK271 := n1_; have GW271 := n2_; have GE271 := n3_; clear n0_ n1_ n2_ n3_; clear hb hbox hg) | ((with_reducible refine qa4 (f := 15) rfl ?_); refine goesL_ (some 18) rfl rfl Try.func15 (by kernel_rfl) rfl #[.slice A1 l1.length c1, .int .i64 1048576] rfl (by (try simp only [List.map_toArray, List.map_cons, List.map_nil]); first | done | rfl | (simp only [List.length_drop, List.length_take]; rfl)) ?_; (with_reducible refine (laws_szLoanS.calls k _ _ l1 1048576 t272 _ ?side1 ?side2 A6.out).mono ?_); (case side1 => repeat (first | exact (Kd.C_below HR1.out HB.out) | (with_reducible refine Kd.C_alloc ?_ _) | (with_reducible refine Kd.C_drewN ?_ _) | (with_reducible refine Kd.C_drew ?_))); (case side2 => exact HC1.out); rintro e w35 ⟨rfl, hb⟩; refine ⟨_, rfl, ?_⟩; have n0_ := Ad.mk (qa3 (g := gb271) (o := .cells #[.int .i64 a2_0, .int .i64 a2_1, .slice A2_2 l2_2.length c2_2] 47 (0, 0)) (by (with_reducible repeat (first | refine bkN ?_ _ | refine bkd ?_ | refine bka ?_ _)); exact BK271.out) hb); have n1_ := Ad.mk (qa2 (by repeat (first | (with_reducible first | exact HB.out | apply bwa | apply bwN | apply bw1 | refine bws ?_ GE271.out) | exact HB.out)) hb); clear BK271; clear HB; have BK271 := n0_; have HB := n1_; clear n0_ n1_; (try clear hb); (try clear hb2); (try clear hk); (try clear hi); have hcz36_0 : w35.cell? ⟨gb271, 0, none⟩ = some (.int .i64 a2_0) := (bkc BK271.out 0).trans rfl; have hcz36_1 : w35.cell? ⟨gb271, 1, none⟩ = some (.int .i64 a2_1) := (bkc BK271.out 1).trans rfl; have hcz36_2 : w35.cell? ⟨gb271, 2, none⟩ = some (.slice A2_2 l2_2.length c2_2) := (bkc BK271.out 2).trans rfl; have hfz36_0 := qa1 BK271.out 0; have hfz36_1 := qa1 BK271.out 1; have hfz36_2 := qa1 BK271.out 2) | ((with_reducible refine qa4 (f := 26) rfl ?_); refine goesL_ (some 23) rfl rfl Try.func26 (by kernel_rfl) rfl #[.agg #[.int .i64 a2_0, .int .i64 a2_1, .slice A2_2 l2_2.length c2_2], .int .i64 t272] rfl (by (try simp only [List.map_toArray, List.map_cons, List.map_nil]); first | done | rfl | (simp only [List.length_drop, List.length_take]; rfl)) ?_; (with_reducible refine (laws_szLoan.calls a2_0 a2_1 _ _ l2_2 t272 t273 _ ?side1 ?side2 A10.out).mono ?_); (case side1 => repeat (first | exact (Kd.C_below HR2_2.out HB.out) | (with_reducible refine Kd.C_alloc ?_ _) | (with_reducible refine Kd.C_drewN ?_ _) | (with_reducible refine Kd.C_drew ?_))); (case side2 => exact HC2_2.out); rintro e w37 ⟨rfl, hb⟩; refine ⟨_, rfl, ?_⟩; have n0_ := Ad.mk (qa3 (g := gb271) (o := .cells #[.int .i64 a2_0, .int .i64 a2_1, .slice A2_2 l2_2.length c2_2] 47 (0, 0)) (by (with_reducible repeat (first | refine bkN ?_ _ | refine bkd ?_ | refine bka ?_ _)); exact BK271.out) hb); have n1_ := Ad.mk (qa2 (by repeat (first | (with_reducible first | exact HB.out | apply bwa | apply bwN | apply bw1 | refine bws ?_ GE271.out) | exact HB.out)) hb); clear BK271; clear HB; have BK271 := n0_; have HB := n1_; clear n0_ n1_; (try clear hb); (try clear hb2); (try clear hk); (try clear hi)))
        have n0_ := Ad.mk (bkd BK271.out)
        have n1_ := Ad.mk (bw1 HB.out)
        clear BK271
        clear HB
        have BK271 := n0_
        have HB := n1_
        clear n0_ n1_
        refine start_ (n := 8) (S := fun w' => w'.cell? ⟨gb271, 0, none⟩ = some (.int .i64 a2_0) ∧ w'.cell? ⟨gb271, 1, none⟩ = some (.int .i64 a2_1) ∧ w'.cell? ⟨gb271, 2, none⟩ = some (.slice A2_2 l2_2.length c2_2)) (ds := []) #[false, false, false, false, false, false, false, false] (by kernel_rfl) rfl rfl ⟨(bkc BK271.out 0).trans rfl, (bkc BK271.out 1).trans rfl, (bkc BK271.out 2).trans rfl⟩ (fun hHeld => ?_); refine with_tabW laws_FnExactMostLoan.tab10 laws_FnExactMostLoan.bits10 (fun HT_ HW_ => ?_)
        generalize w37.drew = w38 at BK271 HB hHeld ⊢
        refine pure_ (i := 0) (N := some 26) (v := ?_) (a' := ?_) #[true, false, false, false, false, false, false, false] rfl rfl (any_of HT_.out (by kernel_rfl)) (fun _ _ _ h => h) (Or.inl ⟨by rfl, ?_⟩) ?_ ?_
        rotate_left
        ·intro w'
         go_simp
         with_reducible rfl
        rotate_left
        ·simp only [Act.put, List.setIfInBounds_toArray, List.set_cons_zero, List.set_cons_succ, qa5, qa6]
         rfl
        refine pure_ (i := 2) (N := some 28) (v := ?_) (a' := ?_) #[true, false, true, false, false, false, false, false] rfl rfl (any_of HT_.out (by kernel_rfl)) (fun _ _ _ h => h) (Or.inl ⟨by rfl, ?_⟩) ?_ ?_
        rotate_left
        ·intro w'
         go_simp
         with_reducible rfl
        rotate_left
        ·simp only [Act.put, List.setIfInBounds_toArray, List.set_cons_zero, List.set_cons_succ, qa5, qa6]
         rfl
        refine take_ (i := 4) (N := some 30) (v := ?_) (a' := ?_) #[true, false, true, false, true, false, false, false] rfl rfl (take_ofW HT_.out HW_.out (by kernel_rfl)) (fun _ _ _ h => h) (Or.inl ⟨by rfl, ?_⟩) hHeld ?_ ?_
        rotate_left
        ·rintro w' ⟨s0, s1, s2⟩
         go_simp
         with_reducible rfl
        rotate_left
        ·simp only [Act.put, List.setIfInBounds_toArray, List.set_cons_zero, List.set_cons_succ, qa5, qa6]
         rfl
        refine one_ (i := 1) (N := some 27) #[true, true, true, false, true, false, false, false] rfl rfl (one_of HT_.out (by kernel_rfl)) (by decide) (fun K hK => ?_)
        refine goes_ Try.func27 (by kernel_rfl) rfl #[.slice A0 l0.length c0] (by rfl) rfl rfl (by (try simp only [List.map_toArray, List.map_cons, List.map_nil]); first | done | rfl | (simp only [List.length_drop, List.length_take]; rfl)) ?_
        with_reducible refine (laws_toIntS.calls k _ _ l0 t274 _ ?side1 ?side2 A16.out).mono ?_
        (case side1 => repeat (first | exact (Kd.C_below HR0.out HB.out) | (with_reducible refine Kd.C_alloc ?_ _) | (with_reducible refine Kd.C_drewN ?_ _) | (with_reducible refine Kd.C_drew ?_)))
        (case side2 => exact HC0.out)
        rintro e w39 ⟨v275, rfl, ho0, hb⟩
        refine ⟨_, rfl, ?_⟩
        have n0_ := Ad.mk (Kd.R_lower ho0 (qa0 (by repeat (first | (with_reducible first | exact HB.out | apply bwa | apply bwN | apply bw1 | refine bws ?_ GE271.out) | exact HB.out))))
        have n1_ := Ad.mk (qa3 (g := gb271) (o := .cells #[.int .i64 a2_0, .int .i64 a2_1, .slice A2_2 l2_2.length c2_2] 47 (0, 0)) (by (with_reducible repeat (first | refine bkN ?_ _ | refine bkd ?_ | refine bka ?_ _)); exact BK271.out) hb)
        have n2_ := Ad.mk (qa2 (by repeat (first | (with_reducible first | exact HB.out | apply bwa | apply bwN | apply bw1 | refine bws ?_ GE271.out) | exact HB.out)) hb)
        clear BK271
        clear HB
        have HO276 := n0_
        have BK271 := n1_
        have HB := n2_
        clear n0_ n1_ n2_
        (try clear hb)
        (try clear hb2)
        (try clear hk)
        (try clear hi)
        (try clear ho0)
        refine hK.out _ _ ⟨(bkc BK271.out 0).trans rfl, (bkc BK271.out 1).trans rfl, (bkc BK271.out 2).trans rfl⟩ (fun hHeld => ?_)
        clear hK K
        refine norm_ (a' := ?_) ?_ ?_
        rotate_left
        ·show Act.put _ (some 27) _ = _
         simp only [Act.put, List.setIfInBounds_toArray, List.set_cons_zero, List.set_cons_succ, qa5, qa6]
         rfl
        refine one_ (i := 3) (N := some 29) #[true, true, true, true, true, false, false, false] rfl rfl (one_of HT_.out (by kernel_rfl)) (by decide) (fun K hK => ?_)
        refine goes_ Try.func17 (by kernel_rfl) rfl #[.slice A1 l1.length c1] (by rfl) rfl rfl (by (try simp only [List.map_toArray, List.map_cons, List.map_nil]); first | done | rfl | (simp only [List.length_drop, List.length_take]; rfl)) ?_
        with_reducible refine (laws_toLoanS.calls k _ _ l1 t277 _ ?side1 ?side2 A17.out).mono ?_
        (case side1 => repeat (first | exact (Kd.C_below HR1.out HB.out) | (with_reducible refine Kd.C_alloc ?_ _) | (with_reducible refine Kd.C_drewN ?_ _) | (with_reducible refine Kd.C_drew ?_)))
        (case side2 => exact HC1.out)
        rintro e w40 ⟨v278, rfl, ho0, hb⟩
        refine ⟨_, rfl, ?_⟩
        have n0_ := Ad.mk (Kd.R_below (by (with_reducible repeat (first | apply Kd.R_alloc | apply Kd.R_drewN | apply Kd.R_drew)); exact HO276.out) hb)
        have n1_ := Ad.mk (Kd.S_lower (Kd.S_new' ho0 (Kd.R_lt (by (with_reducible repeat (first | apply Kd.R_alloc | apply Kd.R_drewN | apply Kd.R_drew)); exact HO276.out))) (qa0 (by repeat (first | (with_reducible first | exact HB.out | apply bwa | apply bwN | apply bw1 | refine bws ?_ GE271.out) | exact HB.out))))
        have n2_ := Ad.mk (qa3 (g := gb271) (o := .cells #[.int .i64 a2_0, .int .i64 a2_1, .slice A2_2 l2_2.length c2_2] 47 (0, 0)) (by (with_reducible repeat (first | refine bkN ?_ _ | refine bkd ?_ | refine bka ?_ _)); exact BK271.out) hb)
        have n3_ := Ad.mk (qa2 (by repeat (first | (with_reducible first | exact HB.out | apply bwa | apply bwN | apply bw1 | refine bws ?_ GE271.out) | exact HB.out)) hb)
        clear HO276
        clear BK271
        clear HB
        have HO276 := n0_
        have HO279 := n1_
        have BK271 := n2_
        have HB := n3_
        clear n0_ n1_ n2_ n3_
        (try clear hb)
        (try clear hb2)
        (try clear hk)
        (try clear hi)
        (try clear ho0)
        refine hK.out _ _ ⟨(bkc BK271.out 0).trans rfl, (bkc BK271.out 1).trans rfl, (bkc BK271.out 2).trans rfl⟩ (fun hHeld => ?_)
        clear hK K
        refine norm_ (a' := ?_) ?_ ?_
        rotate_left
        ·show Act.put _ (some 29) _ = _
         simp only [Act.put, List.setIfInBounds_toArray, List.set_cons_zero, List.set_cons_succ, qa5, qa6]
         rfl
        refine one_ (i := 5) (N := some 31) #[true, true, true, true, true, true, false, false] rfl rfl (one_of HT_.out (by kernel_rfl)) (by decide) (fun K hK => ?_)
        refine goes_ Try.func28 (by kernel_rfl) rfl #[.agg #[.int .i64 a2_0, .int .i64 a2_1, .slice A2_2 l2_2.length c2_2]] (by rfl) rfl rfl (by (try simp only [List.map_toArray, List.map_cons, List.map_nil]); first | done | rfl | (simp only [List.length_drop, List.length_take]; rfl)) ?_
        with_reducible refine (laws_toLoan.calls k a2_0 a2_1 _ _ l2_2 t280 t281 t282 _ ?side1 ?side2 A18.out).mono ?_
        (case side1 => repeat (first | exact (Kd.C_below HR2_2.out HB.out) | (with_reducible refine Kd.C_alloc ?_ _) | (with_reducible refine Kd.C_drewN ?_ _) | (with_reducible refine Kd.C_drew ?_)))
        (case side2 => exact HC2_2.out)
        rintro e w41 ⟨v283, rfl, ho0, hb⟩
        refine ⟨_, rfl, ?_⟩
        have n0_ := Ad.mk (Kd.R_elder' (by (with_reducible repeat (first | apply Kd.R_alloc | apply Kd.R_drewN | apply Kd.R_drew)); exact HO276.out) (Kd.R_base ho0) hb)
        have n1_ := Ad.mk (Kd.S_elder' (by (with_reducible repeat (first | apply Kd.S_alloc | apply Kd.S_drewN | apply Kd.S_drew)); exact HO279.out) (Kd.R_base ho0) hb)
        have n2_ := Ad.mk (Kd.R_lower (Kd.R_new' ho0 (Kd.R_lt (by (with_reducible repeat (first | apply Kd.R_alloc | apply Kd.R_drewN | apply Kd.R_drew)); exact HO276.out))) (qa0 (by repeat (first | (with_reducible first | exact HB.out | apply bwa | apply bwN | apply bw1 | refine bws ?_ GE271.out) | exact HB.out))))
        have n3_ := Ad.mk (qa3 (g := gb271) (o := .cells #[.int .i64 a2_0, .int .i64 a2_1, .slice A2_2 l2_2.length c2_2] 47 (0, 0)) (by (with_reducible repeat (first | refine bkN ?_ _ | refine bkd ?_ | refine bka ?_ _)); exact BK271.out) hb)
        have n4_ := Ad.mk (qa2 (by repeat (first | (with_reducible first | exact HB.out | apply bwa | apply bwN | apply bw1 | refine bws ?_ GE271.out) | exact HB.out)) hb)
        clear HO276
        clear HO279
        clear BK271
        clear HB
        have HO276 := n0_
        have HO279 := n1_
        have HO284 := n2_
        have BK271 := n3_
        have HB := n4_
        clear n0_ n1_ n2_ n3_ n4_
        (try clear hb)
        (try clear hb2)
        (try clear hk)
        (try clear hi)
        (try clear ho0)
        obtain ⟨Ao42, co42, eo42⟩ := Kd.R_slice HO276.out
        (first | subst eo42 | (injection eo42 with f1_ f2_ f3_; have f4_ := f1_.symm; have f5_ := f3_.symm; clear f1_ f2_ f3_; subst f4_; subst f5_))
        obtain ⟨Ao43, co43, eo43⟩ := Kd.S_slice HO279.out
        (first | subst eo43 | (injection eo43 with f1_ f2_ f3_; have f4_ := f1_.symm; have f5_ := f3_.symm; clear f1_ f2_ f3_; subst f4_; subst f5_))
        obtain ⟨Ao44, co44, eo44⟩ := Kd.R_slice HO284.out
        (first | subst eo44 | (injection eo44 with f1_ f2_ f3_; have f4_ := f1_.symm; have f5_ := f3_.symm; clear f1_ f2_ f3_; subst f4_; subst f5_))
        refine hK.out _ _ ⟨(bkc BK271.out 0).trans rfl, (bkc BK271.out 1).trans rfl, (bkc BK271.out 2).trans rfl⟩ (fun hHeld => ?_)
        clear hK K
        refine norm_ (a' := ?_) ?_ ?_
        rotate_left
        ·show Act.put _ (some 31) _ = _
         simp only [Act.put, List.setIfInBounds_toArray, List.set_cons_zero, List.set_cons_succ, qa5, qa6]
         rfl
        refine one_ (i := 6) (N := some 32) #[true, true, true, true, true, true, true, false] rfl rfl (one_of HT_.out (by kernel_rfl)) (by decide) (fun K hK => ?_)
        refine goes_ Try.func24 (by kernel_rfl) rfl #[.slice Ao42 t274.length co42, .slice Ao43 t277.length co43, .agg #[.int .i64 t280, .int .i64 t281, .slice Ao44 t282.length co44]] (by rfl) rfl rfl (by (try simp only [List.map_toArray, List.map_cons, List.map_nil]); first | done | rfl | (simp only [List.length_drop, List.length_take]; rfl)) ?_
        with_reducible refine (spec_MostLoan.calls k _ _ t274 (fun k_ => (((True ∧ some k_ ≠ (.slice Ao42 t274.length co42 : Value).ownBlock) ∧ some k_ ≠ (.slice Ao44 t282.length co44 : Value).ownBlock) ∧ k_ ≠ gb271)) _ _ t277 t280 t281 (fun k_ => some k_ = (.slice Ao44 t282.length co44 : Value).ownBlock) _ _ t282 t285 _ ?side1 ?side2 ?side3 ?side4 A19.out).mono ?_
        (case side1 => repeat (first | exact (Kd.R_reads' HO276.out).2.2 | (with_reducible refine Kd.C_alloc ?_ _) | (with_reducible refine Kd.C_drewN ?_ _) | (with_reducible refine Kd.C_drew ?_)))
        (case side2 => exact (Kd.R_reads' HO276.out).2.1)
        (case side3 => exact Kd.S_V (Kd.S_types (HO279.out) BK271.out (by decide)))
        (case side4 => exact Kd.R_V (Kd.R_tight rfl (Kd.R_types (Kd.R_apart' (HO284.out) (Kd.S_typed HO279.out) (by decide)) BK271.out (by decide))))
        rintro e w45 ⟨rfl, hb⟩
        refine ⟨_, rfl, ?_⟩
        have n0_ := Ad.mk (Kd.R_below (by (with_reducible repeat (first | apply Kd.R_alloc | apply Kd.R_drewN | apply Kd.R_drew)); exact HO276.out) hb)
        have n1_ := Ad.mk (Kd.S_below (by (with_reducible repeat (first | apply Kd.S_alloc | apply Kd.S_drewN | apply Kd.S_drew)); exact HO279.out) hb)
        have n2_ := Ad.mk (Kd.R_below (by (with_reducible repeat (first | apply Kd.R_alloc | apply Kd.R_drewN | apply Kd.R_drew)); exact HO284.out) hb)
        have n3_ := Ad.mk (qa3 (g := gb271) (o := .cells #[.int .i64 a2_0, .int .i64 a2_1, .slice A2_2 l2_2.length c2_2] 47 (0, 0)) (by (with_reducible repeat (first | refine bkN ?_ _ | refine bkd ?_ | refine bka ?_ _)); exact BK271.out) hb)
        have n4_ := Ad.mk (qa2 (by repeat (first | (with_reducible first | exact HB.out | apply bwa | apply bwN | apply bw1 | refine bws ?_ GE271.out) | exact HB.out)) hb)
        clear HO276
        clear HO279
        clear HO284
        clear BK271
        clear HB
        have HO276 := n0_
        have HO279 := n1_
        have HO284 := n2_
        have BK271 := n3_
        have HB := n4_
        clear n0_ n1_ n2_ n3_ n4_
        (try clear hb)
        (try clear hb2)
        (try clear hk)
        (try clear hi)
        refine hK.out _ _ ⟨(bkc BK271.out 0).trans rfl, (bkc BK271.out 1).trans rfl, (bkc BK271.out 2).trans rfl⟩ (fun hHeld => ?_)
        clear hK K
        refine norm_ (a' := ?_) ?_ ?_
        rotate_left
        ·show Act.put _ (some 32) _ = _
         simp only [Act.put, List.setIfInBounds_toArray, List.set_cons_zero, List.set_cons_succ, qa5, qa6]
         rfl
        refine pure_ (i := 7) (N := some 8) (v := ?_) (a' := ?_) #[true, true, true, true, true, true, true, true] rfl rfl (any_of HT_.out (by kernel_rfl)) (fun _ _ _ h => h) (Or.inl ⟨by rfl, ?_⟩) ?_ ?_
        rotate_left
        ·intro w'
         go_simp
         with_reducible rfl
        rotate_left
        ·simp only [Act.put, List.setIfInBounds_toArray, List.set_cons_zero, List.set_cons_succ, qa5, qa6]
         rfl
        refine done_ (done_of HT_.out (by kernel_rfl)) ?_
        try go_wp2_with (first | ((with_reducible refine qa4 (f := 27) rfl ?_); refine goesL_ (some 34) rfl rfl Try.func27 (by kernel_rfl) rfl #[.slice A0 l0.length c0] rfl (by (try simp only [List.map_toArray, List.map_cons, List.map_nil]); first | done | rfl | (simp only [List.length_drop, List.length_take]; rfl)) ?_; (with_reducible refine (laws_toIntS.calls k _ _ l0 t286 _ ?side1 ?side2 A20.out).mono ?_); (case side1 => repeat (first | exact (Kd.C_below HR0.out HB.out) | (with_reducible refine Kd.C_alloc ?_ _) | (with_reducible refine Kd.C_drewN ?_ _) | (with_reducible refine Kd.C_drew ?_))); (case side2 => exact HC0.out); rintro e w46 ⟨v287, rfl, ho0, hb⟩; refine ⟨_, rfl, ?_⟩; have n0_ := Ad.mk (Kd.R_elder' (by (with_reducible repeat (first | apply Kd.R_alloc | apply Kd.R_drewN | apply Kd.R_drew)); exact HO276.out) (Kd.R_base ho0) hb); have n1_ := Ad.mk (Kd.S_elder' (by (with_reducible repeat (first | apply Kd.S_alloc | apply Kd.S_drewN | apply Kd.S_drew)); exact HO279.out) (Kd.R_base ho0) hb); have n2_ := Ad.mk (Kd.R_elder' (by (with_reducible repeat (first | apply Kd.R_alloc | apply Kd.R_drewN | apply Kd.R_drew)); exact HO284.out) (Kd.R_base ho0) hb); have n3_ := Ad.mk (Kd.R_lower (Kd.R_new' (Kd.R_new' ho0 (Kd.R_lt (by (with_reducible repeat (first | apply Kd.R_alloc | apply Kd.R_drewN | apply Kd.R_drew)); exact HO276.out))) (Kd.R_lt (by (with_reducible repeat (first | apply Kd.R_alloc | apply Kd.R_drewN | apply Kd.R_drew)); exact HO284.out))) (qa0 (by repeat (first | (with_reducible first | exact HB.out | apply bwa | apply bwN | apply bw1 | refine bws ?_ GE271.out) | exact HB.out)))); have n4_ := Ad.mk (qa3 (g := gb271) (o := .cells #[.int .i64 a2_0, .int .i64 a2_1, .slice A2_2 l2_2.length c2_2] 47 (0, 0)) (by (with_reducible repeat (first | refine bkN ?_ _ | refine bkd ?_ | refine bka ?_ _)); exact BK271.out) hb); have n5_ := Ad.mk (qa2 (by repeat (first | (with_reducible first | exact HB.out | apply bwa | apply bwN | apply bw1 | refine bws ?_ GE271.out) | exact HB.out)) hb); clear HO276; clear HO279; clear HO284; clear BK271; clear HB; have HO276 := n0_; have HO279 := n1_; have HO284 := n2_; have HO288 := n3_; have BK271 := n4_; have HB := n5_; clear n0_ n1_ n2_ n3_ n4_ n5_; (try clear hb); (try clear hb2); (try clear hk); (try clear hi); (try clear ho0)) | ((with_reducible refine qa4 (f := 17) rfl ?_); refine goesL_ (some 36) rfl rfl Try.func17 (by kernel_rfl) rfl #[.slice A1 l1.length c1] rfl (by (try simp only [List.map_toArray, List.map_cons, List.map_nil]); first | done | rfl | (simp only [List.length_drop, List.length_take]; rfl)) ?_; (with_reducible refine (laws_toLoanS.calls k _ _ l1 t289 _ ?side1 ?side2 A21.out).mono ?_); (case side1 => repeat (first | exact (Kd.C_below HR1.out HB.out) | (with_reducible refine Kd.C_alloc ?_ _) | (with_reducible refine Kd.C_drewN ?_ _) | (with_reducible refine Kd.C_drew ?_))); (case side2 => exact HC1.out); rintro e w47 ⟨v290, rfl, ho0, hb⟩; refine ⟨_, rfl, ?_⟩; have n0_ := Ad.mk (Kd.R_below (by (with_reducible repeat (first | apply Kd.R_alloc | apply Kd.R_drewN | apply Kd.R_drew)); exact HO276.out) hb); have n1_ := Ad.mk (Kd.S_elder' (by (with_reducible repeat (first | apply Kd.S_alloc | apply Kd.S_drewN | apply Kd.S_drew)); exact HO279.out) (Kd.S_base ho0) hb); have n2_ := Ad.mk (Kd.R_below (by (with_reducible repeat (first | apply Kd.R_alloc | apply Kd.R_drewN | apply Kd.R_drew)); exact HO284.out) hb); have n3_ := Ad.mk (Kd.R_below (by (with_reducible repeat (first | apply Kd.R_alloc | apply Kd.R_drewN | apply Kd.R_drew)); exact HO288.out) hb); have n4_ := Ad.mk (Kd.S_lower (Kd.S_new' (Kd.S_new' (Kd.S_new' (Kd.S_new' ho0 (Kd.R_lt (by (with_reducible repeat (first | apply Kd.R_alloc | apply Kd.R_drewN | apply Kd.R_drew)); exact HO276.out))) (Kd.S_lt (by (with_reducible repeat (first | apply Kd.S_alloc | apply Kd.S_drewN | apply Kd.S_drew)); exact HO279.out))) (Kd.R_lt (by (with_reducible repeat (first | apply Kd.R_alloc | apply Kd.R_drewN | apply Kd.R_drew)); exact HO284.out))) (Kd.R_lt (by (with_reducible repeat (first | apply Kd.R_alloc | apply Kd.R_drewN | apply Kd.R_drew)); exact HO288.out))) (qa0 (by repeat (first | (with_reducible first | exact HB.out | apply bwa | apply bwN | apply bw1 | refine bws ?_ GE271.out) | exact HB.out)))); have n5_ := Ad.mk (qa3 (g := gb271) (o := .cells #[.int .i64 a2_0, .int .i64 a2_1, .slice A2_2 l2_2.length c2_2] 47 (0, 0)) (by (with_reducible repeat (first | refine bkN ?_ _ | refine bkd ?_ | refine bka ?_ _)); exact BK271.out) hb); have n6_ := Ad.mk (qa2 (by repeat (first | (with_reducible first | exact HB.out | apply bwa | apply bwN | apply bw1 | refine bws ?_ GE271.out) | exact HB.out)) hb); clear HO276; clear HO279; clear HO284; clear HO288; clear BK271; clear HB; have HO276 := n0_; have HO279 := n1_; have HO284 := n2_; have HO288 := n3_; have HO291 := n4_; have BK271 := n5_; have HB := n6_; clear n0_ n1_ n2_ n3_ n4_ n5_ n6_; (try clear hb); (try clear hb2); (try clear hk); (try clear hi); (try clear ho0); have hcz48_0 : w47.cell? ⟨gb271, 0, none⟩ = some (.int .i64 a2_0) := (bkc BK271.out 0).trans rfl; have hcz48_1 : w47.cell? ⟨gb271, 1, none⟩ = some (.int .i64 a2_1) := (bkc BK271.out 1).trans rfl; have hcz48_2 : w47.cell? ⟨gb271, 2, none⟩ = some (.slice A2_2 l2_2.length c2_2) := (bkc BK271.out 2).trans rfl; have hfz48_0 := qa1 BK271.out 0; have hfz48_1 := qa1 BK271.out 1; have hfz48_2 := qa1 BK271.out 2) | ((with_reducible refine qa4 (f := 28) rfl ?_); refine goesL_ (some 38) rfl rfl Try.func28 (by kernel_rfl) rfl #[.agg #[.int .i64 a2_0, .int .i64 a2_1, .slice A2_2 l2_2.length c2_2]] rfl (by (try simp only [List.map_toArray, List.map_cons, List.map_nil]); first | done | rfl | (simp only [List.length_drop, List.length_take]; rfl)) ?_; (with_reducible refine (laws_toLoan.calls k a2_0 a2_1 _ _ l2_2 t292 t293 t294 _ ?side1 ?side2 A22.out).mono ?_); (case side1 => repeat (first | exact (Kd.C_below HR2_2.out HB.out) | (with_reducible refine Kd.C_alloc ?_ _) | (with_reducible refine Kd.C_drewN ?_ _) | (with_reducible refine Kd.C_drew ?_))); (case side2 => exact HC2_2.out); rintro e w49 ⟨v295, rfl, ho0, hb⟩; refine ⟨_, rfl, ?_⟩; have n0_ := Ad.mk (Kd.R_elder' (by (with_reducible repeat (first | apply Kd.R_alloc | apply Kd.R_drewN | apply Kd.R_drew)); exact HO276.out) (Kd.R_base ho0) hb); have n1_ := Ad.mk (Kd.S_elder' (by (with_reducible repeat (first | apply Kd.S_alloc | apply Kd.S_drewN | apply Kd.S_drew)); exact HO279.out) (Kd.R_base ho0) hb); have n2_ := Ad.mk (Kd.R_elder' (by (with_reducible repeat (first | apply Kd.R_alloc | apply Kd.R_drewN | apply Kd.R_drew)); exact HO284.out) (Kd.R_base ho0) hb); have n3_ := Ad.mk (Kd.R_elder' (by (with_reducible repeat (first | apply Kd.R_alloc | apply Kd.R_drewN | apply Kd.R_drew)); exact HO288.out) (Kd.R_base ho0) hb); have n4_ := Ad.mk (Kd.S_elder' (by (with_reducible repeat (first | apply Kd.S_alloc | apply Kd.S_drewN | apply Kd.S_drew)); exact HO291.out) (Kd.R_base ho0) hb); have n5_ := Ad.mk (Kd.R_lower (Kd.R_new' (Kd.R_new' (Kd.R_new' ho0 (Kd.R_lt (by (with_reducible repeat (first | apply Kd.R_alloc | apply Kd.R_drewN | apply Kd.R_drew)); exact HO276.out))) (Kd.R_lt (by (with_reducible repeat (first | apply Kd.R_alloc | apply Kd.R_drewN | apply Kd.R_drew)); exact HO284.out))) (Kd.R_lt (by (with_reducible repeat (first | apply Kd.R_alloc | apply Kd.R_drewN | apply Kd.R_drew)); exact HO288.out))) (qa0 (by repeat (first | (with_reducible first | exact HB.out | apply bwa | apply bwN | apply bw1 | refine bws ?_ GE271.out) | exact HB.out)))); have n6_ := Ad.mk (qa3 (g := gb271) (o := .cells #[.int .i64 a2_0, .int .i64 a2_1, .slice A2_2 l2_2.length c2_2] 47 (0, 0)) (by (with_reducible repeat (first | refine bkN ?_ _ | refine bkd ?_ | refine bka ?_ _)); exact BK271.out) hb); have n7_ := Ad.mk (qa2 (by repeat (first | (with_reducible first | exact HB.out | apply bwa | apply bwN | apply bw1 | refine bws ?_ GE271.out) | exact HB.out)) hb); clear HO276; clear HO279; clear HO284; clear HO288; clear HO291; clear BK271; clear HB; have HO276 := n0_; have HO279 := n1_; have HO284 := n2_; have HO288 := n3_; have HO291 := n4_; have HO296 := n5_; have BK271 := n6_; have HB := n7_; clear n0_ n1_ n2_ n3_ n4_ n5_ n6_ n7_; (try clear hb); (try clear hb2); (try clear hk); (try clear hi); (try clear ho0)) | ((with_reducible refine gate_dst (N := 11) rfl ?_); refine box_event ?hg (N := 11) ?hd (cs := #[.int .i64 0, .int .i64 0, .slice none 0 0]) (t := 42) ?hr ?_; (case hd => rfl); (case hg => rfl); (case hr => first | (go_simp; done) | (go_simp; rfl)); intro gb297 hg w50 hbox hb; have n0_ := Ad.mk (Kd.R_below (by (with_reducible repeat (first | apply Kd.R_alloc | apply Kd.R_drewN | apply Kd.R_drew)); exact HO276.out) hb); have n1_ := Ad.mk (Kd.S_below (Kd.S_elderB (by (with_reducible repeat (first | apply Kd.S_alloc | apply Kd.S_drewN | apply Kd.S_drew)); exact HO279.out) gb297 (Nat.le_of_eq hg.symm)) hb); have n2_ := Ad.mk (Kd.R_below (by (with_reducible repeat (first | apply Kd.R_alloc | apply Kd.R_drewN | apply Kd.R_drew)); exact HO284.out) hb); have n3_ := Ad.mk (Kd.R_below (by (with_reducible repeat (first | apply Kd.R_alloc | apply Kd.R_drewN | apply Kd.R_drew)); exact HO288.out) hb); have n4_ := Ad.mk (Kd.S_below (Kd.S_elderB (by (with_reducible repeat (first | apply Kd.S_alloc | apply Kd.S_drewN | apply Kd.S_drew)); exact HO291.out) gb297 (Nat.le_of_eq hg.symm)) hb); have n5_ := Ad.mk (Kd.R_below (by (with_reducible repeat (first | apply Kd.R_alloc | apply Kd.R_drewN | apply Kd.R_drew)); exact HO296.out) hb); have n6_ := Ad.mk (qa3 (g := gb271) (o := .cells #[.int .i64 a2_0, .int .i64 a2_1, .slice A2_2 l2_2.length c2_2] 47 (0, 0)) (by (with_reducible repeat (first | refine bkN ?_ _ | refine bkd ?_ | refine bka ?_ _)); exact BK271.out) hb); have n7_ := Ad.mk (qa2 (by repeat (first | (with_reducible first | exact HB.out | apply bwa | apply bwN | apply bw1 | refine bws ?_ GE271.out) | exact HB.out)) hb); have n8_ := Ad.mk (hbox); have n9_ := Ad.mk ((by rw [hg]; exact (qa0 (by repeat (first | (with_reducible first | exact HB.out | apply bwa | apply bwN | apply bw1 | refine bws ?_ GE271.out) | exact HB.out))) : w.heap.size ≤ gb297)); have n10_ := Ad.mk ((by rw [hg]; exact (qa0 (by repeat (first | (with_reducible first | exact HB.out | apply bwa | apply bwN | apply bw1 | refine bws ?_ GE271.out) | exact HB.out))) : w.heap.size ≤ gb297)); have n11_ := Ad.mk ((by rw [hg]; exact Nat.ne_of_lt (blk_lt (g := gb271) (o := .cells #[.int .i64 a2_0, .int .i64 a2_1, .slice A2_2 l2_2.length c2_2] 47 (0, 0)) (by (with_reducible repeat (first | refine bkN ?_ _ | refine bkd ?_ | refine bka ?_ _)); exact BK271.out)) : gb271 ≠ gb297)); have n12_ := Ad.mk ((by rw [hg]; exact Nat.ne_of_gt (blk_lt (g := gb271) (o := .cells #[.int .i64 a2_0, .int .i64 a2_1, .slice A2_2 l2_2.length c2_2] 47 (0, 0)) (by (with_reducible repeat (first | refine bkN ?_ _ | refine bkd ?_ | refine bka ?_ _)); exact BK271.out)) : gb297 ≠ gb271)); clear HO276; clear HO279; clear HO284; clear HO288; clear HO291; clear HO296; clear BK271; clear HB; have HO276 := n0_; have HO279 := n1_; have HO284 := n2_; have HO288 := n3_; have HO291 := n4_; have HO296 := n5_; have BK271 := n6_; have HB := n7_; have BK297 := n8_; have GW297 := n9_; have GE297 := n10_; have NB271_297 := n11_; have NB297_271 := n12_; clear n0_ n1_ n2_ n3_ n4_ n5_ n6_ n7_ n8_ n9_ n10_ n11_ n12_; clear hb hbox hg; have hnb51 := NB297_271.out; have hnc51 := NB271_297.out; have hcz52_0 : w50.cell? ⟨gb297, 0, none⟩ = some (.int .i64 0) := (bkc BK297.out 0).trans rfl; have hcz52_1 : w50.cell? ⟨gb297, 1, none⟩ = some (.int .i64 0) := (bkc BK297.out 1).trans rfl; have hcz52_2 : w50.cell? ⟨gb297, 2, none⟩ = some (.slice none 0 0) := (bkc BK297.out 2).trans rfl; have hfz52_0 := qa1 BK297.out 0; have hfz52_1 := qa1 BK297.out 1; have hfz52_2 := qa1 BK297.out 2; obtain ⟨Ao53, co53, eo53⟩ := Kd.R_slice HO296.out; subst eo53) | ((with_reducible refine gate_store (t := 42) (p := 11) rfl ?_); refine store_event (t := 42) (p := 11) (v := ?vo_w54) (w1 := (((w50.setCell ⟨gb297, 0, none⟩ (.int .i64 t292)).setCell ⟨gb297, 1, none⟩ (.int .i64 t293)).setCell ⟨gb297, 2, none⟩ (.slice Ao53 t294.length co53))) ?hg ?ho ?hn ?hr ?_; (case ho => rfl); (case hg => rfl); (case hn => rfl); (case hr => first | (go_simp; done) | (go_simp; rfl)); intro w54 hw; have n0_ : Ad (Kd.R (Kd.int .i64) 3 w54 w.heap.size (fun k_ => some k_ ≠ (.slice Ao44 t282.length co44 : Value).ownBlock ∧ some k_ ≠ (v287 : Value).ownBlock ∧ some k_ ≠ (.slice Ao53 t294.length co53 : Value).ownBlock) (.slice Ao42 t274.length co42) t274) := ⟨(by rw [hw]; exact (by (with_reducible repeat (first | apply Kd.R_alloc | apply Kd.R_drewN | apply Kd.R_drew)); exact Kd.R_mono (Kd.R_far (p := ⟨gb297, 2, none⟩) (Kd.R_far (p := ⟨gb297, 1, none⟩) (Kd.R_far (p := ⟨gb297, 0, none⟩) (Kd.R_types HO276.out BK297.out (by decide)) (fun _ hk => hk.2) (.int .i64 t292)) (fun _ hk => hk.2) (.int .i64 t293)) (fun _ hk => hk.2) (.slice Ao53 t294.length co53)) (fun _ hk => ⟨hk.1.1.1.2, ⟨hk.1.1.2, hk.1.2⟩⟩)))⟩; have n1_ : Ad (Kd.S k42 42 w54 w.heap.size (fun k_ => some k_ ≠ (.slice Ao42 t274.length co42 : Value).ownBlock ∧ some k_ ≠ (.slice Ao44 t282.length co44 : Value).ownBlock ∧ some k_ ≠ (v287 : Value).ownBlock ∧ some k_ ≠ (v290 : Value).ownBlock ∧ some k_ ≠ (.slice Ao53 t294.length co53 : Value).ownBlock ∧ k_ ≠ gb297) (.slice Ao43 t277.length co43) t277) := ⟨(by rw [hw]; exact (by (with_reducible repeat (first | apply Kd.S_alloc | apply Kd.S_drewN | apply Kd.S_drew)); exact Kd.S_mono (Kd.S_far (p := ⟨gb297, 2, none⟩) (Kd.S_far (p := ⟨gb297, 1, none⟩) (Kd.S_far (p := ⟨gb297, 0, none⟩) (Kd.S_mono HO279.out (fun k_ hk => (⟨hk, hk.2⟩ : _ ∧ k_ ≠ gb297))) (fun _ hk => hk.2) (.int .i64 t292)) (fun _ hk => hk.2) (.int .i64 t293)) (fun _ hk => hk.2) (.slice Ao53 t294.length co53)) (fun _ hk => ⟨hk.1.1.1.1.1.1.2, ⟨hk.1.1.1.1.1.2, ⟨hk.1.1.1.1.2, ⟨hk.1.1.1.2, ⟨hk.1.1.2, hk.1.2⟩⟩⟩⟩⟩)))⟩; have n2_ : Ad (Kd.R (Kd.int .i64) 3 w54 w.heap.size (fun k_ => some k_ ≠ (.slice Ao42 t274.length co42 : Value).ownBlock ∧ some k_ ≠ (v287 : Value).ownBlock ∧ some k_ ≠ (.slice Ao53 t294.length co53 : Value).ownBlock) (.slice Ao44 t282.length co44) t282) := ⟨(by rw [hw]; exact (by (with_reducible repeat (first | apply Kd.R_alloc | apply Kd.R_drewN | apply Kd.R_drew)); exact Kd.R_mono (Kd.R_far (p := ⟨gb297, 2, none⟩) (Kd.R_far (p := ⟨gb297, 1, none⟩) (Kd.R_far (p := ⟨gb297, 0, none⟩) (Kd.R_types HO284.out BK297.out (by decide)) (fun _ hk => hk.2) (.int .i64 t292)) (fun _ hk => hk.2) (.int .i64 t293)) (fun _ hk => hk.2) (.slice Ao53 t294.length co53)) (fun _ hk => ⟨hk.1.1.1.2, ⟨hk.1.1.2, hk.1.2⟩⟩)))⟩; have n3_ : Ad (Kd.R (Kd.int .i64) 3 w54 w.heap.size (fun k_ => some k_ ≠ (.slice Ao42 t274.length co42 : Value).ownBlock ∧ some k_ ≠ (.slice Ao44 t282.length co44 : Value).ownBlock ∧ some k_ ≠ (.slice Ao53 t294.length co53 : Value).ownBlock) v287 t286) := ⟨(by rw [hw]; exact (by (with_reducible repeat (first | apply Kd.R_alloc | apply Kd.R_drewN | apply Kd.R_drew)); exact Kd.R_mono (Kd.R_far (p := ⟨gb297, 2, none⟩) (Kd.R_far (p := ⟨gb297, 1, none⟩) (Kd.R_far (p := ⟨gb297, 0, none⟩) (Kd.R_types HO288.out BK297.out (by decide)) (fun _ hk => hk.2) (.int .i64 t292)) (fun _ hk => hk.2) (.int .i64 t293)) (fun _ hk => hk.2) (.slice Ao53 t294.length co53)) (fun _ hk => ⟨hk.1.1.1.2, ⟨hk.1.1.2, hk.1.2⟩⟩)))⟩; have n4_ : Ad (Kd.S k42 42 w54 w.heap.size (fun k_ => some k_ ≠ (.slice Ao42 t274.length co42 : Value).ownBlock ∧ some k_ ≠ (.slice Ao43 t277.length co43 : Value).ownBlock ∧ some k_ ≠ (.slice Ao44 t282.length co44 : Value).ownBlock ∧ some k_ ≠ (v287 : Value).ownBlock ∧ some k_ ≠ (.slice Ao53 t294.length co53 : Value).ownBlock ∧ k_ ≠ gb297) v290 t289) := ⟨(by rw [hw]; exact (by (with_reducible repeat (first | apply Kd.S_alloc | apply Kd.S_drewN | apply Kd.S_drew)); exact Kd.S_mono (Kd.S_far (p := ⟨gb297, 2, none⟩) (Kd.S_far (p := ⟨gb297, 1, none⟩) (Kd.S_far (p := ⟨gb297, 0, none⟩) (Kd.S_mono HO291.out (fun k_ hk => (⟨hk, hk.2⟩ : _ ∧ k_ ≠ gb297))) (fun _ hk => hk.2) (.int .i64 t292)) (fun _ hk => hk.2) (.int .i64 t293)) (fun _ hk => hk.2) (.slice Ao53 t294.length co53)) (fun _ hk => ⟨hk.1.1.1.1.1.1.2, ⟨hk.1.1.1.1.1.2, ⟨hk.1.1.1.1.2, ⟨hk.1.1.1.2, ⟨hk.1.1.2, hk.1.2⟩⟩⟩⟩⟩)))⟩; have n5_ : Ad (Kd.R (Kd.int .i64) 3 w54 w.heap.size (fun k_ => some k_ ≠ (.slice Ao42 t274.length co42 : Value).ownBlock ∧ some k_ ≠ (.slice Ao44 t282.length co44 : Value).ownBlock ∧ some k_ ≠ (v287 : Value).ownBlock) (.slice Ao53 t294.length co53) t294) := ⟨(by rw [hw]; exact (by (with_reducible repeat (first | apply Kd.R_alloc | apply Kd.R_drewN | apply Kd.R_drew)); exact Kd.R_mono (Kd.R_far (p := ⟨gb297, 2, none⟩) (Kd.R_far (p := ⟨gb297, 1, none⟩) (Kd.R_far (p := ⟨gb297, 0, none⟩) (Kd.R_types HO296.out BK297.out (by decide)) (fun _ hk => hk.2) (.int .i64 t292)) (fun _ hk => hk.2) (.int .i64 t293)) (fun _ hk => hk.2) (.slice Ao53 t294.length co53)) (fun _ hk => ⟨hk.1.1.1.2, ⟨hk.1.1.2, hk.1.2⟩⟩)))⟩; have n6_ : Ad (w54.heap[gb271]? = some (.cells #[.int .i64 a2_0, .int .i64 a2_1, .slice A2_2 l2_2.length c2_2] 47 (0, 0))) := ⟨(by rw [hw]; exact (by (with_reducible repeat (first | refine bkN ?_ _ | refine bkd ?_ | refine bka ?_ _)); refine blk_far ?_ NB271_297.out _; (with_reducible repeat (first | refine bkN ?_ _ | refine bkd ?_ | refine bka ?_ _)); refine blk_far ?_ NB271_297.out _; (with_reducible repeat (first | refine bkN ?_ _ | refine bkd ?_ | refine bka ?_ _)); refine blk_far ?_ NB271_297.out _; (with_reducible repeat (first | refine bkN ?_ _ | refine bkd ?_ | refine bka ?_ _)); exact BK271.out))⟩; have n7_ : Ad (w54.heap[gb297]? = some (.cells #[.int .i64 t292, .int .i64 t293, .slice Ao53 t294.length co53] 42 (0, 0))) := ⟨(by rw [hw]; exact (by (with_reducible repeat (first | refine bkN ?_ _ | refine bkd ?_ | refine bka ?_ _)); refine blk_put (cs := #[.int .i64 t292, .int .i64 t293, .slice none 0 0]) ?_ 2 _ rfl; (with_reducible repeat (first | refine bkN ?_ _ | refine bkd ?_ | refine bka ?_ _)); refine blk_put (cs := #[.int .i64 t292, .int .i64 0, .slice none 0 0]) ?_ 1 _ rfl; (with_reducible repeat (first | refine bkN ?_ _ | refine bkd ?_ | refine bka ?_ _)); refine blk_put (cs := #[.int .i64 0, .int .i64 0, .slice none 0 0]) ?_ 0 _ rfl; (with_reducible repeat (first | refine bkN ?_ _ | refine bkd ?_ | refine bka ?_ _)); exact BK297.out))⟩; have n8_ : Ad (Below w.heap.size w w54) := ⟨(by rw [hw]; exact (by repeat (first | (with_reducible first | exact HB.out | apply bwa | apply bwN | apply bw1 | refine bws ?_ GE271.out | refine bws ?_ GE297.out) | exact HB.out)))⟩; clear hw; clear HO276; clear HO279; clear HO284; clear HO288; clear HO291; clear HO296; clear BK271; clear BK297; clear HB; have HO276 := n0_; have HO279 := n1_; have HO284 := n2_; have HO288 := n3_; have HO291 := n4_; have HO296 := n5_; have BK271 := n6_; have BK297 := n7_; have HB := n8_; clear n0_ n1_ n2_ n3_ n4_ n5_ n6_ n7_ n8_; have hcz55_0 : w54.cell? ⟨gb297, 0, none⟩ = some (.int .i64 t292) := (bkc BK297.out 0).trans rfl; have hcz55_1 : w54.cell? ⟨gb297, 1, none⟩ = some (.int .i64 t293) := (bkc BK297.out 1).trans rfl; have hcz55_2 : w54.cell? ⟨gb297, 2, none⟩ = some (.slice Ao53 t294.length co53) := (bkc BK297.out 2).trans rfl; have hfz55_0 := qa1 BK297.out 0; have hfz55_1 := qa1 BK297.out 1; have hfz55_2 := qa1 BK297.out 2; obtain ⟨Ao56, co56, eo56⟩ := Kd.R_slice HO288.out; subst eo56; obtain ⟨Ao57, co57, eo57⟩ := Kd.S_slice HO291.out; subst eo57) | ((with_reducible refine qa4 (f := 23) rfl ?_); refine goesL_ (some 42) rfl rfl Try.func23 (by kernel_rfl) rfl #[.slice Ao56 t286.length co56, .slice Ao57 t289.length co57, .agg #[.int .i64 t292, .int .i64 t293, .slice Ao53 t294.length co53]] rfl (by (try simp only [List.map_toArray, List.map_cons, List.map_nil]); first | done | rfl | (simp only [List.length_drop, List.length_take]; rfl)) ?_; (with_reducible refine (impl_MostLoan.calls k _ _ t286 (fun k_ => ((some k_ ≠ (.slice Ao42 t274.length co42 : Value).ownBlock ∧ (some k_ ≠ (.slice Ao43 t277.length co43 : Value).ownBlock ∧ (some k_ ≠ (.slice Ao44 t282.length co44 : Value).ownBlock ∧ (some k_ ≠ (.slice Ao56 t286.length co56 : Value).ownBlock ∧ (some k_ ≠ (.slice Ao53 t294.length co53 : Value).ownBlock ∧ k_ ≠ gb297))))) ∧ k_ ≠ gb271)) _ _ t289 t292 t293 (fun k_ => some k_ = (.slice Ao53 t294.length co53 : Value).ownBlock) _ _ t294 t298 _ ?side1 ?side2 ?side3 ?side4 A23.out).mono ?_); (case side1 => repeat (first | exact (Kd.R_reads' HO288.out).2.2 | (with_reducible refine Kd.C_alloc ?_ _) | (with_reducible refine Kd.C_drewN ?_ _) | (with_reducible refine Kd.C_drew ?_))); (case side2 => exact (Kd.R_reads' HO288.out).2.1); (case side3 => exact Kd.S_V (Kd.S_types (HO291.out) BK271.out (by decide))); (case side4 => exact Kd.R_V (Kd.R_tight rfl (Kd.R_types (Kd.R_types (Kd.R_apart' (Kd.R_apart' (HO296.out) (Kd.S_typed HO279.out) (by decide)) (Kd.S_typed HO291.out) (by decide)) BK271.out (by decide)) BK297.out (by decide)))); rintro e w58 ⟨rfl, hb⟩; refine ⟨_, rfl, ?_⟩; have n0_ := Ad.mk (Kd.R_below (by (with_reducible repeat (first | apply Kd.R_alloc | apply Kd.R_drewN | apply Kd.R_drew)); exact HO276.out) hb); have n1_ := Ad.mk (Kd.S_below (by (with_reducible repeat (first | apply Kd.S_alloc | apply Kd.S_drewN | apply Kd.S_drew)); exact HO279.out) hb); have n2_ := Ad.mk (Kd.R_below (by (with_reducible repeat (first | apply Kd.R_alloc | apply Kd.R_drewN | apply Kd.R_drew)); exact HO284.out) hb); have n3_ := Ad.mk (Kd.R_below (by (with_reducible repeat (first | apply Kd.R_alloc | apply Kd.R_drewN | apply Kd.R_drew)); exact HO288.out) hb); have n4_ := Ad.mk (Kd.S_below (by (with_reducible repeat (first | apply Kd.S_alloc | apply Kd.S_drewN | apply Kd.S_drew)); exact HO291.out) hb); have n5_ := Ad.mk (Kd.R_below (by (with_reducible repeat (first | apply Kd.R_alloc | apply Kd.R_drewN | apply Kd.R_drew)); exact HO296.out) hb); have n6_ := Ad.mk (qa3 (g := gb271) (o := .cells #[.int .i64 a2_0, .int .i64 a2_1, .slice A2_2 l2_2.length c2_2] 47 (0, 0)) (by (with_reducible repeat (first | refine bkN ?_ _ | refine bkd ?_ | refine bka ?_ _)); exact BK271.out) hb); have n7_ := Ad.mk (qa3 (g := gb297) (o := .cells #[.int .i64 t292, .int .i64 t293, .slice Ao53 t294.length co53] 42 (0, 0)) (by (with_reducible repeat (first | refine bkN ?_ _ | refine bkd ?_ | refine bka ?_ _)); exact BK297.out) hb); have n8_ := Ad.mk (qa2 (by repeat (first | (with_reducible first | exact HB.out | apply bwa | apply bwN | apply bw1 | refine bws ?_ GE271.out | refine bws ?_ GE297.out) | exact HB.out)) hb); clear HO276; clear HO279; clear HO284; clear HO288; clear HO291; clear HO296; clear BK271; clear BK297; clear HB; have HO276 := n0_; have HO279 := n1_; have HO284 := n2_; have HO288 := n3_; have HO291 := n4_; have HO296 := n5_; have BK271 := n6_; have BK297 := n7_; have HB := n8_; clear n0_ n1_ n2_ n3_ n4_ n5_ n6_ n7_ n8_; (try clear hb); (try clear hb2); (try clear hk); (try clear hi)) | ((with_reducible refine qa4 (f := 27) rfl ?_); refine goesL_ (some 48) rfl rfl Try.func27 (by kernel_rfl) rfl #[.slice A0 l0.length c0] rfl (by (try simp only [List.map_toArray, List.map_cons, List.map_nil]); first | done | rfl | (simp only [List.length_drop, List.length_take]; rfl)) ?_; (with_reducible refine (laws_toIntS.calls k _ _ l0 t299 _ ?side1 ?side2 A25.out).mono ?_); (case side1 => repeat (first | exact (Kd.C_below HR0.out HB.out) | (with_reducible refine Kd.C_alloc ?_ _) | (with_reducible refine Kd.C_drewN ?_ _) | (with_reducible refine Kd.C_drew ?_))); (case side2 => exact HC0.out); rintro e w59 ⟨v300, rfl, ho0, hb⟩; refine ⟨_, rfl, ?_⟩; have n0_ := Ad.mk (Kd.R_elder' (by (with_reducible repeat (first | apply Kd.R_alloc | apply Kd.R_drewN | apply Kd.R_drew)); exact HO276.out) (Kd.R_base ho0) hb); have n1_ := Ad.mk (Kd.S_elder' (by (with_reducible repeat (first | apply Kd.S_alloc | apply Kd.S_drewN | apply Kd.S_drew)); exact HO279.out) (Kd.R_base ho0) hb); have n2_ := Ad.mk (Kd.R_elder' (by (with_reducible repeat (first | apply Kd.R_alloc | apply Kd.R_drewN | apply Kd.R_drew)); exact HO284.out) (Kd.R_base ho0) hb); have n3_ := Ad.mk (Kd.R_elder' (by (with_reducible repeat (first | apply Kd.R_alloc | apply Kd.R_drewN | apply Kd.R_drew)); exact HO288.out) (Kd.R_base ho0) hb); have n4_ := Ad.mk (Kd.S_elder' (by (with_reducible repeat (first | apply Kd.S_alloc | apply Kd.S_drewN | apply Kd.S_drew)); exact HO291.out) (Kd.R_base ho0) hb); have n5_ := Ad.mk (Kd.R_elder' (by (with_reducible repeat (first | apply Kd.R_alloc | apply Kd.R_drewN | apply Kd.R_drew)); exact HO296.out) (Kd.R_base ho0) hb); have n6_ := Ad.mk (Kd.R_lower (Kd.R_new' (Kd.R_new' (Kd.R_new' (Kd.R_new' ho0 (Kd.R_lt (by (with_reducible repeat (first | apply Kd.R_alloc | apply Kd.R_drewN | apply Kd.R_drew)); exact HO276.out))) (Kd.R_lt (by (with_reducible repeat (first | apply Kd.R_alloc | apply Kd.R_drewN | apply Kd.R_drew)); exact HO284.out))) (Kd.R_lt (by (with_reducible repeat (first | apply Kd.R_alloc | apply Kd.R_drewN | apply Kd.R_drew)); exact HO288.out))) (Kd.R_lt (by (with_reducible repeat (first | apply Kd.R_alloc | apply Kd.R_drewN | apply Kd.R_drew)); exact HO296.out))) (qa0 (by repeat (first | (with_reducible first | exact HB.out | apply bwa | apply bwN | apply bw1 | refine bws ?_ GE271.out | refine bws ?_ GE297.out) | exact HB.out)))); have n7_ := Ad.mk (qa3 (g := gb271) (o := .cells #[.int .i64 a2_0, .int .i64 a2_1, .slice A2_2 l2_2.length c2_2] 47 (0, 0)) (by (with_reducible repeat (first | refine bkN ?_ _ | refine bkd ?_ | refine bka ?_ _)); exact BK271.out) hb); have n8_ := Ad.mk (qa3 (g := gb297) (o := .cells #[.int .i64 t292, .int .i64 t293, .slice Ao53 t294.length co53] 42 (0, 0)) (by (with_reducible repeat (first | refine bkN ?_ _ | refine bkd ?_ | refine bka ?_ _)); exact BK297.out) hb); have n9_ := Ad.mk (qa2 (by repeat (first | (with_reducible first | exact HB.out | apply bwa | apply bwN | apply bw1 | refine bws ?_ GE271.out | refine bws ?_ GE297.out) | exact HB.out)) hb); clear HO276; clear HO279; clear HO284; clear HO288; clear HO291; clear HO296; clear BK271; clear BK297; clear HB; have HO276 := n0_; have HO279 := n1_; have HO284 := n2_; have HO288 := n3_; have HO291 := n4_; have HO296 := n5_; have HO301 := n6_; have BK271 := n7_; have BK297 := n8_; have HB := n9_; clear n0_ n1_ n2_ n3_ n4_ n5_ n6_ n7_ n8_ n9_; (try clear hb); (try clear hb2); (try clear hk); (try clear hi); (try clear ho0); obtain ⟨Ao60, co60, eo60⟩ := Kd.R_slice HO301.out; subst eo60) | ((with_reducible refine qa4 (f := 29) rfl ?_); refine goesL_ (some 49) rfl rfl Try.func29 (by kernel_rfl) rfl #[.slice Ao56 t286.length co56, .slice Ao60 t299.length co60] rfl (by (try simp only [List.map_toArray, List.map_cons, List.map_nil]); first | done | rfl | (simp only [List.length_drop, List.length_take]; rfl)) ?_; (with_reducible refine (laws_eqIntS.calls k _ _ t286 _ _ t299 true _ ?side1 ?side2 ?side3 ?side4 A26.out).mono ?_); (case side1 => repeat (first | exact (Kd.R_reads' HO288.out).2.2 | (with_reducible refine Kd.C_alloc ?_ _) | (with_reducible refine Kd.C_drewN ?_ _) | (with_reducible refine Kd.C_drew ?_))); (case side2 => exact (Kd.R_reads' HO288.out).2.1); (case side3 => repeat (first | exact (Kd.R_reads' HO301.out).2.2 | (with_reducible refine Kd.C_alloc ?_ _) | (with_reducible refine Kd.C_drewN ?_ _) | (with_reducible refine Kd.C_drew ?_))); (case side4 => exact (Kd.R_reads' HO301.out).2.1); rintro e w' ⟨rfl, ⟨nd, rfl⟩⟩; refine ⟨_, rfl, ?_⟩) | ((with_reducible refine qa4 (f := 17) rfl ?_); refine goesL_ (some 53) rfl rfl Try.func17 (by kernel_rfl) rfl #[.slice A1 l1.length c1] rfl (by (try simp only [List.map_toArray, List.map_cons, List.map_nil]); first | done | rfl | (simp only [List.length_drop, List.length_take]; rfl)) ?_; (with_reducible refine (laws_toLoanS.calls k _ _ l1 t303 _ ?side1 ?side2 A28.out).mono ?_); (case side1 => repeat (first | exact (Kd.C_below HR1.out (by repeat (first | (with_reducible first | exact HB.out | apply bwa | apply bwN | apply bw1 | refine bws ?_ GE271.out | refine bws ?_ GE297.out) | exact HB.out))) | (with_reducible refine Kd.C_alloc ?_ _) | (with_reducible refine Kd.C_drewN ?_ _) | (with_reducible refine Kd.C_drew ?_))); (case side2 => exact HC1.out); rintro e w61 ⟨v304, rfl, ho0, hb⟩; refine ⟨_, rfl, ?_⟩; have n0_ := Ad.mk (Kd.R_below (by (with_reducible repeat (first | apply Kd.R_alloc | apply Kd.R_drewN | apply Kd.R_drew)); exact HO276.out) hb); have n1_ := Ad.mk (Kd.S_elder' (by (with_reducible repeat (first | apply Kd.S_alloc | apply Kd.S_drewN | apply Kd.S_drew)); exact HO279.out) (Kd.S_base ho0) hb); have n2_ := Ad.mk (Kd.R_below (by (with_reducible repeat (first | apply Kd.R_alloc | apply Kd.R_drewN | apply Kd.R_drew)); exact HO284.out) hb); have n3_ := Ad.mk (Kd.R_below (by (with_reducible repeat (first | apply Kd.R_alloc | apply Kd.R_drewN | apply Kd.R_drew)); exact HO288.out) hb); have n4_ := Ad.mk (Kd.S_elder' (by (with_reducible repeat (first | apply Kd.S_alloc | apply Kd.S_drewN | apply Kd.S_drew)); exact HO291.out) (Kd.S_base ho0) hb); have n5_ := Ad.mk (Kd.R_below (by (with_reducible repeat (first | apply Kd.R_alloc | apply Kd.R_drewN | apply Kd.R_drew)); exact HO296.out) hb); have n6_ := Ad.mk (Kd.R_below (by (with_reducible repeat (first | apply Kd.R_alloc | apply Kd.R_drewN | apply Kd.R_drew)); exact HO301.out) hb); have n7_ := Ad.mk (Kd.S_lower (Kd.S_newB (Kd.S_new' (Kd.S_new' (Kd.S_new' (Kd.S_new' (Kd.S_new' (Kd.S_new' (Kd.S_new' ho0 (Kd.R_lt (by (with_reducible repeat (first | apply Kd.R_alloc | apply Kd.R_drewN | apply Kd.R_drew)); exact HO276.out))) (Kd.S_lt (by (with_reducible repeat (first | apply Kd.S_alloc | apply Kd.S_drewN | apply Kd.S_drew)); exact HO279.out))) (Kd.R_lt (by (with_reducible repeat (first | apply Kd.R_alloc | apply Kd.R_drewN | apply Kd.R_drew)); exact HO284.out))) (Kd.R_lt (by (with_reducible repeat (first | apply Kd.R_alloc | apply Kd.R_drewN | apply Kd.R_drew)); exact HO288.out))) (Kd.S_lt (by (with_reducible repeat (first | apply Kd.S_alloc | apply Kd.S_drewN | apply Kd.S_drew)); exact HO291.out))) (Kd.R_lt (by (with_reducible repeat (first | apply Kd.R_alloc | apply Kd.R_drewN | apply Kd.R_drew)); exact HO296.out))) (Kd.R_lt (by (with_reducible repeat (first | apply Kd.R_alloc | apply Kd.R_drewN | apply Kd.R_drew)); exact HO301.out))) (g := gb297) (o := .cells #[.int .i64 t292, .int .i64 t293, .slice Ao53 t294.length co53] 42 (0, 0)) (by (with_reducible repeat (first | refine bkN ?_ _ | refine bkd ?_ | refine bka ?_ _)); exact BK297.out)) (qa0 (by repeat (first | (with_reducible first | exact HB.out | apply bwa | apply bwN | apply bw1 | refine bws ?_ GE271.out | refine bws ?_ GE297.out) | exact HB.out)))); have n8_ := Ad.mk (qa3 (g := gb271) (o := .cells #[.int .i64 a2_0, .int .i64 a2_1, .slice A2_2 l2_2.length c2_2] 47 (0, 0)) (by (with_reducible repeat (first | refine bkN ?_ _ | refine bkd ?_ | refine bka ?_ _)); exact BK271.out) hb); have n9_ := Ad.mk (qa3 (g := gb297) (o := .cells #[.int .i64 t292, .int .i64 t293, .slice Ao53 t294.length co53] 42 (0, 0)) (by (with_reducible repeat (first | refine bkN ?_ _ | refine bkd ?_ | refine bka ?_ _)); exact BK297.out) hb); have n10_ := Ad.mk (qa2 (by repeat (first | (with_reducible first | exact HB.out | apply bwa | apply bwN | apply bw1 | refine bws ?_ GE271.out | refine bws ?_ GE297.out) | exact HB.out)) hb); clear HO276; clear HO279; clear HO284; clear HO288; clear HO291; clear HO296; clear HO301; clear BK271; clear BK297; clear HB; have HO276 := n0_; have HO279 := n1_; have HO284 := n2_; have HO288 := n3_; have HO291 := n4_; have HO296 := n5_; have HO301 := n6_; have HO305 := n7_; have BK271 := n8_; have BK297 := n9_; have HB := n10_; clear n0_ n1_ n2_ n3_ n4_ n5_ n6_ n7_ n8_ n9_ n10_; (try clear hb); (try clear hb2); (try clear hk); (try clear hi); (try clear ho0); obtain ⟨Ao62, co62, eo62⟩ := Kd.S_slice HO305.out; subst eo62) | ((with_reducible refine qa4 (f := 19) rfl ?_); refine goesL_ (some 54) rfl rfl Try.func19 (by kernel_rfl) rfl #[.slice Ao57 t289.length co57, .slice Ao62 t303.length co62] rfl (by (try simp only [List.map_toArray, List.map_cons, List.map_nil]); first | done | rfl | (simp only [List.length_drop, List.length_take]; rfl)) ?_; (with_reducible refine (laws_eqLoanS.calls k _ _ t289 _ _ t303 true _ ?side1 ?side2 ?side3 ?side4 A29.out).mono ?_); (case side1 => repeat (first | exact (Kd.S_reads' HO291.out).2.2 | (with_reducible refine Kd.C_alloc ?_ _) | (with_reducible refine Kd.C_drewN ?_ _) | (with_reducible refine Kd.C_drew ?_))); (case side2 => exact (Kd.S_reads' HO291.out).2.1); (case side3 => repeat (first | exact (Kd.S_reads' HO305.out).2.2 | (with_reducible refine Kd.C_alloc ?_ _) | (with_reducible refine Kd.C_drewN ?_ _) | (with_reducible refine Kd.C_drew ?_))); (case side4 => exact (Kd.S_reads' HO305.out).2.1); rintro e w63 ⟨rfl, hb⟩; refine ⟨_, rfl, ?_⟩; have n0_ := Ad.mk (Kd.R_below (by (with_reducible repeat (first | apply Kd.R_alloc | apply Kd.R_drewN | apply Kd.R_drew)); exact HO276.out) hb); have n1_ := Ad.mk (Kd.S_below (by (with_reducible repeat (first | apply Kd.S_alloc | apply Kd.S_drewN | apply Kd.S_drew)); exact HO279.out) hb); have n2_ := Ad.mk (Kd.R_below (by (with_reducible repeat (first | apply Kd.R_alloc | apply Kd.R_drewN | apply Kd.R_drew)); exact HO284.out) hb); have n3_ := Ad.mk (Kd.R_below (by (with_reducible repeat (first | apply Kd.R_alloc | apply Kd.R_drewN | apply Kd.R_drew)); exact HO288.out) hb); have n4_ := Ad.mk (Kd.S_below (by (with_reducible repeat (first | apply Kd.S_alloc | apply Kd.S_drewN | apply Kd.S_drew)); exact HO291.out) hb); have n5_ := Ad.mk (Kd.R_below (by (with_reducible repeat (first | apply Kd.R_alloc | apply Kd.R_drewN | apply Kd.R_drew)); exact HO296.out) hb); have n6_ := Ad.mk (Kd.R_below (by (with_reducible repeat (first | apply Kd.R_alloc | apply Kd.R_drewN | apply Kd.R_drew)); exact HO301.out) hb); have n7_ := Ad.mk (Kd.S_below (by (with_reducible repeat (first | apply Kd.S_alloc | apply Kd.S_drewN | apply Kd.S_drew)); exact HO305.out) hb); have n8_ := Ad.mk (qa3 (g := gb271) (o := .cells #[.int .i64 a2_0, .int .i64 a2_1, .slice A2_2 l2_2.length c2_2] 47 (0, 0)) (by (with_reducible repeat (first | refine bkN ?_ _ | refine bkd ?_ | refine bka ?_ _)); exact BK271.out) hb); have n9_ := Ad.mk (qa3 (g := gb297) (o := .cells #[.int .i64 t292, .int .i64 t293, .slice Ao53 t294.length co53] 42 (0, 0)) (by (with_reducible repeat (first | refine bkN ?_ _ | refine bkd ?_ | refine bka ?_ _)); exact BK297.out) hb); have n10_ := Ad.mk (qa2 (by repeat (first | (with_reducible first | exact HB.out | apply bwa | apply bwN | apply bw1 | refine bws ?_ GE271.out | refine bws ?_ GE297.out) | exact HB.out)) hb); clear HO276; clear HO279; clear HO284; clear HO288; clear HO291; clear HO296; clear HO301; clear HO305; clear BK271; clear BK297; clear HB; have HO276 := n0_; have HO279 := n1_; have HO284 := n2_; have HO288 := n3_; have HO291 := n4_; have HO296 := n5_; have HO301 := n6_; have HO305 := n7_; have BK271 := n8_; have BK297 := n9_; have HB := n10_; clear n0_ n1_ n2_ n3_ n4_ n5_ n6_ n7_ n8_ n9_ n10_; (try clear hb); (try clear hb2); (try clear hk); (try clear hi)))
        have n0_ := Ad.mk (Kd.R_drew HO276.out)
        have n1_ := Ad.mk (Kd.S_drew HO279.out)
        have n2_ := Ad.mk (Kd.R_drew HO284.out)
        have n3_ := Ad.mk (Kd.R_drew HO288.out)
        have n4_ := Ad.mk (Kd.S_drew HO291.out)
        have n5_ := Ad.mk (Kd.R_drew HO296.out)
        have n6_ := Ad.mk (Kd.R_drew HO301.out)
        have n7_ := Ad.mk (Kd.S_drew HO305.out)
        have n8_ := Ad.mk (bkd BK271.out)
        have n9_ := Ad.mk (bkd BK297.out)
        have n10_ := Ad.mk (bw1 HB.out)
        clear HO276
        clear HO279
        clear HO284
        clear HO288
        clear HO291
        clear HO296
        clear HO301
        clear HO305
        clear BK271
        clear BK297
        clear HB
        have HO276 := n0_
        have HO279 := n1_
        have HO284 := n2_
        have HO288 := n3_
        have HO291 := n4_
        have HO296 := n5_
        have HO301 := n6_
        have HO305 := n7_
        have BK271 := n8_
        have BK297 := n9_
        have HB := n10_
        clear n0_ n1_ n2_ n3_ n4_ n5_ n6_ n7_ n8_ n9_ n10_
        refine start_ (n := 5) (S := fun w' => w'.cell? ⟨gb297, 0, none⟩ = some (.int .i64 t292) ∧ w'.cell? ⟨gb297, 1, none⟩ = some (.int .i64 t293) ∧ w'.cell? ⟨gb297, 2, none⟩ = some (.slice Ao53 t294.length co53) ∧ w'.cell? ⟨gb271, 0, none⟩ = some (.int .i64 a2_0) ∧ w'.cell? ⟨gb271, 1, none⟩ = some (.int .i64 a2_1) ∧ w'.cell? ⟨gb271, 2, none⟩ = some (.slice A2_2 l2_2.length c2_2)) (ds := []) #[false, false, false, false, false] (by kernel_rfl) rfl rfl ⟨(bkc BK297.out 0).trans rfl, (bkc BK297.out 1).trans rfl, (bkc BK297.out 2).trans rfl, (bkc BK271.out 0).trans rfl, (bkc BK271.out 1).trans rfl, (bkc BK271.out 2).trans rfl⟩ (fun hHeld => ?_)
        generalize w63.drew = w64 at HO276 HO279 HO284 HO288 HO291 HO296 HO301 HO305 BK271 BK297 HB hHeld ⊢
        refine take_ (i := 0) (N := some 56) (v := ?_) (a' := ?_) #[true, false, false, false, false] rfl rfl (by kernel_rfl) (fun _ _ _ h => h) (Or.inl ⟨by rfl, ?_⟩) hHeld ?_ ?_
        rotate_left
        ·rintro w' ⟨s0, s1, s2, s3, s4, s5⟩
         go_simp
         with_reducible rfl
        rotate_left
        ·simp only [Act.put, List.setIfInBounds_toArray, List.set_cons_zero, List.set_cons_succ, qa5, qa6]
         rfl
        refine take_ (i := 1) (N := some 57) (v := ?_) (a' := ?_) #[true, true, false, false, false] rfl rfl (by kernel_rfl) (fun _ _ _ h => h) (Or.inl ⟨by rfl, ?_⟩) hHeld ?_ ?_
        rotate_left
        ·rintro w' ⟨s0, s1, s2, s3, s4, s5⟩
         go_simp
         with_reducible rfl
        rotate_left
        ·simp only [Act.put, List.setIfInBounds_toArray, List.set_cons_zero, List.set_cons_succ, qa5, qa6]
         rfl
        refine one_ (i := 2) (N := some 58) #[true, true, true, false, false] rfl rfl (by kernel_rfl) (by decide) (fun K hK => ?_)
        refine goes_ Try.func28 (by kernel_rfl) rfl #[.agg #[.int .i64 a2_0, .int .i64 a2_1, .slice A2_2 l2_2.length c2_2]] (by rfl) rfl rfl (by (try simp only [List.map_toArray, List.map_cons, List.map_nil]); first | done | rfl | (simp only [List.length_drop, List.length_take]; rfl)) ?_
        with_reducible refine (laws_toLoan.calls k a2_0 a2_1 _ _ l2_2 t307 t308 t309 _ ?side1 ?side2 A31.out).mono ?_
        (case side1 => repeat (first | exact (Kd.C_below HR2_2.out HB.out) | (with_reducible refine Kd.C_alloc ?_ _) | (with_reducible refine Kd.C_drewN ?_ _) | (with_reducible refine Kd.C_drew ?_)))
        (case side2 => exact HC2_2.out)
        rintro e w65 ⟨v310, rfl, ho0, hb⟩
        refine ⟨_, rfl, ?_⟩
        have n0_ := Ad.mk (Kd.R_elder' (by (with_reducible repeat (first | apply Kd.R_alloc | apply Kd.R_drewN | apply Kd.R_drew)); exact HO276.out) (Kd.R_base ho0) hb)
        have n1_ := Ad.mk (Kd.S_elder' (by (with_reducible repeat (first | apply Kd.S_alloc | apply Kd.S_drewN | apply Kd.S_drew)); exact HO279.out) (Kd.R_base ho0) hb)
        have n2_ := Ad.mk (Kd.R_elder' (by (with_reducible repeat (first | apply Kd.R_alloc | apply Kd.R_drewN | apply Kd.R_drew)); exact HO284.out) (Kd.R_base ho0) hb)
        have n3_ := Ad.mk (Kd.R_elder' (by (with_reducible repeat (first | apply Kd.R_alloc | apply Kd.R_drewN | apply Kd.R_drew)); exact HO288.out) (Kd.R_base ho0) hb)
        have n4_ := Ad.mk (Kd.S_elder' (by (with_reducible repeat (first | apply Kd.S_alloc | apply Kd.S_drewN | apply Kd.S_drew)); exact HO291.out) (Kd.R_base ho0) hb)
        have n5_ := Ad.mk (Kd.R_elder' (by (with_reducible repeat (first | apply Kd.R_alloc | apply Kd.R_drewN | apply Kd.R_drew)); exact HO296.out) (Kd.R_base ho0) hb)
        have n6_ := Ad.mk (Kd.R_elder' (by (with_reducible repeat (first | apply Kd.R_alloc | apply Kd.R_drewN | apply Kd.R_drew)); exact HO301.out) (Kd.R_base ho0) hb)
        have n7_ := Ad.mk (Kd.S_elder' (by (with_reducible repeat (first | apply Kd.S_alloc | apply Kd.S_drewN | apply Kd.S_drew)); exact HO305.out) (Kd.R_base ho0) hb)
        have n8_ := Ad.mk (Kd.R_lower (Kd.R_new' (Kd.R_new' (Kd.R_new' (Kd.R_new' (Kd.R_new' ho0 (Kd.R_lt (by (with_reducible repeat (first | apply Kd.R_alloc | apply Kd.R_drewN | apply Kd.R_drew)); exact HO276.out))) (Kd.R_lt (by (with_reducible repeat (first | apply Kd.R_alloc | apply Kd.R_drewN | apply Kd.R_drew)); exact HO284.out))) (Kd.R_lt (by (with_reducible repeat (first | apply Kd.R_alloc | apply Kd.R_drewN | apply Kd.R_drew)); exact HO288.out))) (Kd.R_lt (by (with_reducible repeat (first | apply Kd.R_alloc | apply Kd.R_drewN | apply Kd.R_drew)); exact HO296.out))) (Kd.R_lt (by (with_reducible repeat (first | apply Kd.R_alloc | apply Kd.R_drewN | apply Kd.R_drew)); exact HO301.out))) (qa0 (by repeat (first | (with_reducible first | exact HB.out | apply bwa | apply bwN | apply bw1 | refine bws ?_ GE271.out | refine bws ?_ GE297.out) | exact HB.out))))
        have n9_ := Ad.mk (qa3 (g := gb271) (o := .cells #[.int .i64 a2_0, .int .i64 a2_1, .slice A2_2 l2_2.length c2_2] 47 (0, 0)) (by (with_reducible repeat (first | refine bkN ?_ _ | refine bkd ?_ | refine bka ?_ _)); exact BK271.out) hb)
        have n10_ := Ad.mk (qa3 (g := gb297) (o := .cells #[.int .i64 t292, .int .i64 t293, .slice Ao53 t294.length co53] 42 (0, 0)) (by (with_reducible repeat (first | refine bkN ?_ _ | refine bkd ?_ | refine bka ?_ _)); exact BK297.out) hb)
        have n11_ := Ad.mk (qa2 (by repeat (first | (with_reducible first | exact HB.out | apply bwa | apply bwN | apply bw1 | refine bws ?_ GE271.out | refine bws ?_ GE297.out) | exact HB.out)) hb)
        clear HO276
        clear HO279
        clear HO284
        clear HO288
        clear HO291
        clear HO296
        clear HO301
        clear HO305
        clear BK271
        clear BK297
        clear HB
        have HO276 := n0_
        have HO279 := n1_
        have HO284 := n2_
        have HO288 := n3_
        have HO291 := n4_
        have HO296 := n5_
        have HO301 := n6_
        have HO305 := n7_
        have HO311 := n8_
        have BK271 := n9_
        have BK297 := n10_
        have HB := n11_
        clear n0_ n1_ n2_ n3_ n4_ n5_ n6_ n7_ n8_ n9_ n10_ n11_
        (try clear hb)
        (try clear hb2)
        (try clear hk)
        (try clear hi)
        (try clear ho0)
        obtain ⟨Ao66, co66, eo66⟩ := Kd.R_slice HO311.out
        (first | subst eo66 | (injection eo66 with f1_ f2_ f3_; have f4_ := f1_.symm; have f5_ := f3_.symm; clear f1_ f2_ f3_; subst f4_; subst f5_))
        refine hK.out _ _ ⟨(bkc BK297.out 0).trans rfl, (bkc BK297.out 1).trans rfl, (bkc BK297.out 2).trans rfl, (bkc BK271.out 0).trans rfl, (bkc BK271.out 1).trans rfl, (bkc BK271.out 2).trans rfl⟩ (fun hHeld => ?_)
        clear hK K
        refine norm_ (a' := ?_) ?_ ?_
        rotate_left
        ·show Act.put _ (some 58) _ = _
         simp only [Act.put, List.setIfInBounds_toArray, List.set_cons_zero, List.set_cons_succ, qa5, qa6]
         rfl
        refine one_ (i := 3) (N := some 59) #[true, true, true, true, false] rfl rfl (by kernel_rfl) (by decide) (fun K hK => ?_)
        refine goes_ Try.func30 (by kernel_rfl) rfl #[.agg #[.int .i64 t292, .int .i64 t293, .slice Ao53 t294.length co53], .agg #[.int .i64 t307, .int .i64 t308, .slice Ao66 t309.length co66]] (by rfl) rfl rfl (by (try simp only [List.map_toArray, List.map_cons, List.map_nil]); first | done | rfl | (simp only [List.length_drop, List.length_take]; rfl)) ?_
        with_reducible refine (laws_eqLoan.calls k t292 t293 _ _ t294 t307 t308 _ _ t309 true _ ?side1 ?side2 ?side3 ?side4 A32.out).mono ?_
        (case side1 => repeat (first | exact (Kd.R_reads' HO296.out).2.2 | (with_reducible refine Kd.C_alloc ?_ _) | (with_reducible refine Kd.C_drewN ?_ _) | (with_reducible refine Kd.C_drew ?_)))
        (case side2 => exact (Kd.R_reads' HO296.out).2.1)
        (case side3 => repeat (first | exact (Kd.R_reads' HO311.out).2.2 | (with_reducible refine Kd.C_alloc ?_ _) | (with_reducible refine Kd.C_drewN ?_ _) | (with_reducible refine Kd.C_drew ?_)))
        (case side4 => exact (Kd.R_reads' HO311.out).2.1)
        rintro e w67 ⟨rfl, hb⟩
        refine ⟨_, rfl, ?_⟩
        have n0_ := Ad.mk (Kd.R_below (by (with_reducible repeat (first | apply Kd.R_alloc | apply Kd.R_drewN | apply Kd.R_drew)); exact HO276.out) hb)
        have n1_ := Ad.mk (Kd.S_below (by (with_reducible repeat (first | apply Kd.S_alloc | apply Kd.S_drewN | apply Kd.S_drew)); exact HO279.out) hb)
        have n2_ := Ad.mk (Kd.R_below (by (with_reducible repeat (first | apply Kd.R_alloc | apply Kd.R_drewN | apply Kd.R_drew)); exact HO284.out) hb)
        have n3_ := Ad.mk (Kd.R_below (by (with_reducible repeat (first | apply Kd.R_alloc | apply Kd.R_drewN | apply Kd.R_drew)); exact HO288.out) hb)
        have n4_ := Ad.mk (Kd.S_below (by (with_reducible repeat (first | apply Kd.S_alloc | apply Kd.S_drewN | apply Kd.S_drew)); exact HO291.out) hb)
        have n5_ := Ad.mk (Kd.R_below (by (with_reducible repeat (first | apply Kd.R_alloc | apply Kd.R_drewN | apply Kd.R_drew)); exact HO296.out) hb)
        have n6_ := Ad.mk (Kd.R_below (by (with_reducible repeat (first | apply Kd.R_alloc | apply Kd.R_drewN | apply Kd.R_drew)); exact HO301.out) hb)
        have n7_ := Ad.mk (Kd.S_below (by (with_reducible repeat (first | apply Kd.S_alloc | apply Kd.S_drewN | apply Kd.S_drew)); exact HO305.out) hb)
        have n8_ := Ad.mk (Kd.R_below (by (with_reducible repeat (first | apply Kd.R_alloc | apply Kd.R_drewN | apply Kd.R_drew)); exact HO311.out) hb)
        have n9_ := Ad.mk (qa3 (g := gb271) (o := .cells #[.int .i64 a2_0, .int .i64 a2_1, .slice A2_2 l2_2.length c2_2] 47 (0, 0)) (by (with_reducible repeat (first | refine bkN ?_ _ | refine bkd ?_ | refine bka ?_ _)); exact BK271.out) hb)
        have n10_ := Ad.mk (qa3 (g := gb297) (o := .cells #[.int .i64 t292, .int .i64 t293, .slice Ao53 t294.length co53] 42 (0, 0)) (by (with_reducible repeat (first | refine bkN ?_ _ | refine bkd ?_ | refine bka ?_ _)); exact BK297.out) hb)
        have n11_ := Ad.mk (qa2 (by repeat (first | (with_reducible first | exact HB.out | apply bwa | apply bwN | apply bw1 | refine bws ?_ GE271.out | refine bws ?_ GE297.out) | exact HB.out)) hb)
        clear HO276
        clear HO279
        clear HO284
        clear HO288
        clear HO291
        clear HO296
        clear HO301
        clear HO305
        clear HO311
        clear BK271
        clear BK297
        clear HB
        have HO276 := n0_
        have HO279 := n1_
        have HO284 := n2_
        have HO288 := n3_
        have HO291 := n4_
        have HO296 := n5_
        have HO301 := n6_
        have HO305 := n7_
        have HO311 := n8_
        have BK271 := n9_
        have BK297 := n10_
        have HB := n11_
        clear n0_ n1_ n2_ n3_ n4_ n5_ n6_ n7_ n8_ n9_ n10_ n11_
        (try clear hb)
        (try clear hb2)
        (try clear hk)
        (try clear hi)
        refine hK.out _ _ ⟨(bkc BK297.out 0).trans rfl, (bkc BK297.out 1).trans rfl, (bkc BK297.out 2).trans rfl, (bkc BK271.out 0).trans rfl, (bkc BK271.out 1).trans rfl, (bkc BK271.out 2).trans rfl⟩ (fun hHeld => ?_)
        clear hK K
        refine norm_ (a' := ?_) ?_ ?_
        rotate_left
        ·show Act.put _ (some 59) _ = _
         simp only [Act.put, List.setIfInBounds_toArray, List.set_cons_zero, List.set_cons_succ, qa5, qa6]
         rfl
        refine pure_ (i := 4) (N := some 60) (v := ?_) (a' := ?_) #[true, true, true, true, true] rfl rfl (by kernel_rfl) (fun _ _ _ h => h) (Or.inl ⟨by rfl, ?_⟩) ?_ ?_
        rotate_left
        ·intro w'
         go_simp
         with_reducible rfl
        rotate_left
        ·simp only [Act.put, List.setIfInBounds_toArray, List.set_cons_zero, List.set_cons_succ, qa5, qa6]
         rfl
        refine done_ (by kernel_rfl) ?_
        try go_wp2
        go_ret
        exact ⟨by first | rfl | (simp [errW_none, errW_some] <;> rfl) | (simp [*, errW_none, errW_some] <;> rfl), by repeat (first | (with_reducible first | exact HB.out | apply bwa | apply bwN | apply bw1 | refine bws ?_ GE271.out | refine bws ?_ GE297.out) | exact HB.out)⟩
       ·replace c33 := Bool.eq_false_iff.mpr c33
        subst c33
        have H1 : (some false) = some r := by rw [if_neg (show ¬ (false = true) by decide)] at H; exact H
        clear H
        have H := H1
        clear H1
        obtain rfl := Option.some.inj H
        go_enter Try.func6, Try.ntmps6
        try go_wp2_with (first | ((with_reducible refine gate_dst (N := 5) rfl ?_); refine box_event ?hg (N := 5) ?hd (cs := #[.int .i64 a2_0, .int .i64 a2_1, .slice A2_2 l2_2.length c2_2]) (t := 47) ?hr ?_; (case hd => rfl); (case hg => rfl); (case hr => first | (go_simp; done) | (go_simp; rfl)); intro gb271 hg w68 hbox hb; have n0_ := Ad.mk (qa2 (by repeat (first | (with_reducible first | exact HB.out | apply bwa | apply bwN | apply bw1) | exact HB.out)) hb); have n1_ := Ad.mk (hbox); have n2_ := Ad.mk ((by rw [hg]; exact (qa0 (by repeat (first | (with_reducible first | exact HB.out | apply bwa | apply bwN | apply bw1) | exact HB.out))) : w.heap.size ≤ gb271)); have n3_ := Ad.mk ((by rw [hg]; exact (qa0 (by repeat (first | (with_reducible first | exact HB.out | apply bwa | apply bwN | apply bw1) | exact HB.out))) : w.heap.size ≤ gb271)); clear HB; have HB := n0_; have BK271 := n1_; have GW271 := n2_; have GE271 := n3_; clear n0_ n1_ n2_ n3_; clear hb hbox hg) | ((with_reducible refine qa4 (f := 15) rfl ?_); refine goesL_ (some 18) rfl rfl Try.func15 (by kernel_rfl) rfl #[.slice A1 l1.length c1, .int .i64 1048576] rfl (by (try simp only [List.map_toArray, List.map_cons, List.map_nil]); first | done | rfl | (simp only [List.length_drop, List.length_take]; rfl)) ?_; (with_reducible refine (laws_szLoanS.calls k _ _ l1 1048576 t272 _ ?side1 ?side2 A6.out).mono ?_); (case side1 => repeat (first | exact (Kd.C_below HR1.out HB.out) | (with_reducible refine Kd.C_alloc ?_ _) | (with_reducible refine Kd.C_drewN ?_ _) | (with_reducible refine Kd.C_drew ?_))); (case side2 => exact HC1.out); rintro e w69 ⟨rfl, hb⟩; refine ⟨_, rfl, ?_⟩; have n0_ := Ad.mk (qa3 (g := gb271) (o := .cells #[.int .i64 a2_0, .int .i64 a2_1, .slice A2_2 l2_2.length c2_2] 47 (0, 0)) (by (with_reducible repeat (first | refine bkN ?_ _ | refine bkd ?_ | refine bka ?_ _)); exact BK271.out) hb); have n1_ := Ad.mk (qa2 (by repeat (first | (with_reducible first | exact HB.out | apply bwa | apply bwN | apply bw1 | refine bws ?_ GE271.out) | exact HB.out)) hb); clear BK271; clear HB; have BK271 := n0_; have HB := n1_; clear n0_ n1_; (try clear hb); (try clear hb2); (try clear hk); (try clear hi); have hcz70_0 : w69.cell? ⟨gb271, 0, none⟩ = some (.int .i64 a2_0) := (bkc BK271.out 0).trans rfl; have hcz70_1 : w69.cell? ⟨gb271, 1, none⟩ = some (.int .i64 a2_1) := (bkc BK271.out 1).trans rfl; have hcz70_2 : w69.cell? ⟨gb271, 2, none⟩ = some (.slice A2_2 l2_2.length c2_2) := (bkc BK271.out 2).trans rfl; have hfz70_0 := qa1 BK271.out 0; have hfz70_1 := qa1 BK271.out 1; have hfz70_2 := qa1 BK271.out 2) | ((with_reducible refine qa4 (f := 26) rfl ?_); refine goesL_ (some 23) rfl rfl Try.func26 (by kernel_rfl) rfl #[.agg #[.int .i64 a2_0, .int .i64 a2_1, .slice A2_2 l2_2.length c2_2], .int .i64 t272] rfl (by (try simp only [List.map_toArray, List.map_cons, List.map_nil]); first | done | rfl | (simp only [List.length_drop, List.length_take]; rfl)) ?_; (with_reducible refine (laws_szLoan.calls a2_0 a2_1 _ _ l2_2 t272 t273 _ ?side1 ?side2 A10.out).mono ?_); (case side1 => repeat (first | exact (Kd.C_below HR2_2.out HB.out) | (with_reducible refine Kd.C_alloc ?_ _) | (with_reducible refine Kd.C_drewN ?_ _) | (with_reducible refine Kd.C_drew ?_))); (case side2 => exact HC2_2.out); rintro e w71 ⟨rfl, hb⟩; refine ⟨_, rfl, ?_⟩; have n0_ := Ad.mk (qa3 (g := gb271) (o := .cells #[.int .i64 a2_0, .int .i64 a2_1, .slice A2_2 l2_2.length c2_2] 47 (0, 0)) (by (with_reducible repeat (first | refine bkN ?_ _ | refine bkd ?_ | refine bka ?_ _)); exact BK271.out) hb); have n1_ := Ad.mk (qa2 (by repeat (first | (with_reducible first | exact HB.out | apply bwa | apply bwN | apply bw1 | refine bws ?_ GE271.out) | exact HB.out)) hb); clear BK271; clear HB; have BK271 := n0_; have HB := n1_; clear n0_ n1_; (try clear hb); (try clear hb2); (try clear hk); (try clear hi)))
        have n0_ := Ad.mk (bkd BK271.out)
        have n1_ := Ad.mk (bw1 HB.out)
        clear BK271
        clear HB
        have BK271 := n0_
        have HB := n1_
        clear n0_ n1_
        refine start_ (n := 8) (S := fun w' => w'.cell? ⟨gb271, 0, none⟩ = some (.int .i64 a2_0) ∧ w'.cell? ⟨gb271, 1, none⟩ = some (.int .i64 a2_1) ∧ w'.cell? ⟨gb271, 2, none⟩ = some (.slice A2_2 l2_2.length c2_2)) (ds := []) #[false, false, false, false, false, false, false, false] (by kernel_rfl) rfl rfl ⟨(bkc BK271.out 0).trans rfl, (bkc BK271.out 1).trans rfl, (bkc BK271.out 2).trans rfl⟩ (fun hHeld => ?_); refine with_tabW laws_FnExactMostLoan.tab10 laws_FnExactMostLoan.bits10 (fun HT_ HW_ => ?_)
        generalize w71.drew = w72 at BK271 HB hHeld ⊢
        refine pure_ (i := 0) (N := some 26) (v := ?_) (a' := ?_) #[true, false, false, false, false, false, false, false] rfl rfl (any_of HT_.out (by kernel_rfl)) (fun _ _ _ h => h) (Or.inl ⟨by rfl, ?_⟩) ?_ ?_
        rotate_left
        ·intro w'
         go_simp
         with_reducible rfl
        rotate_left
        ·simp only [Act.put, List.setIfInBounds_toArray, List.set_cons_zero, List.set_cons_succ, qa5, qa6]
         rfl
        refine pure_ (i := 2) (N := some 28) (v := ?_) (a' := ?_) #[true, false, true, false, false, false, false, false] rfl rfl (any_of HT_.out (by kernel_rfl)) (fun _ _ _ h => h) (Or.inl ⟨by rfl, ?_⟩) ?_ ?_
        rotate_left
        ·intro w'
         go_simp
         with_reducible rfl
        rotate_left
        ·simp only [Act.put, List.setIfInBounds_toArray, List.set_cons_zero, List.set_cons_succ, qa5, qa6]
         rfl
        refine take_ (i := 4) (N := some 30) (v := ?_) (a' := ?_) #[true, false, true, false, true, false, false, false] rfl rfl (take_ofW HT_.out HW_.out (by kernel_rfl)) (fun _ _ _ h => h) (Or.inl ⟨by rfl, ?_⟩) hHeld ?_ ?_
        rotate_left
        ·rintro w' ⟨s0, s1, s2⟩
         go_simp
         with_reducible rfl
        rotate_left
        ·simp only [Act.put, List.setIfInBounds_toArray, List.set_cons_zero, List.set_cons_succ, qa5, qa6]
         rfl
        refine one_ (i := 1) (N := some 27) #[true, true, true, false, true, false, false, false] rfl rfl (one_of HT_.out (by kernel_rfl)) (by decide) (fun K hK => ?_)
        refine goes_ Try.func27 (by kernel_rfl) rfl #[.slice A0 l0.length c0] (by rfl) rfl rfl (by (try simp only [List.map_toArray, List.map_cons, List.map_nil]); first | done | rfl | (simp only [List.length_drop, List.length_take]; rfl)) ?_
        with_reducible refine (laws_toIntS.calls k _ _ l0 t274 _ ?side1 ?side2 A16.out).mono ?_
        (case side1 => repeat (first | exact (Kd.C_below HR0.out HB.out) | (with_reducible refine Kd.C_alloc ?_ _) | (with_reducible refine Kd.C_drewN ?_ _) | (with_reducible refine Kd.C_drew ?_)))
        (case side2 => exact HC0.out)
        rintro e w73 ⟨v275, rfl, ho0, hb⟩
        refine ⟨_, rfl, ?_⟩
        have n0_ := Ad.mk (Kd.R_lower ho0 (qa0 (by repeat (first | (with_reducible first | exact HB.out | apply bwa | apply bwN | apply bw1 | refine bws ?_ GE271.out) | exact HB.out))))
        have n1_ := Ad.mk (qa3 (g := gb271) (o := .cells #[.int .i64 a2_0, .int .i64 a2_1, .slice A2_2 l2_2.length c2_2] 47 (0, 0)) (by (with_reducible repeat (first | refine bkN ?_ _ | refine bkd ?_ | refine bka ?_ _)); exact BK271.out) hb)
        have n2_ := Ad.mk (qa2 (by repeat (first | (with_reducible first | exact HB.out | apply bwa | apply bwN | apply bw1 | refine bws ?_ GE271.out) | exact HB.out)) hb)
        clear BK271
        clear HB
        have HO276 := n0_
        have BK271 := n1_
        have HB := n2_
        clear n0_ n1_ n2_
        (try clear hb)
        (try clear hb2)
        (try clear hk)
        (try clear hi)
        (try clear ho0)
        refine hK.out _ _ ⟨(bkc BK271.out 0).trans rfl, (bkc BK271.out 1).trans rfl, (bkc BK271.out 2).trans rfl⟩ (fun hHeld => ?_)
        clear hK K
        refine norm_ (a' := ?_) ?_ ?_
        rotate_left
        ·show Act.put _ (some 27) _ = _
         simp only [Act.put, List.setIfInBounds_toArray, List.set_cons_zero, List.set_cons_succ, qa5, qa6]
         rfl
        refine one_ (i := 3) (N := some 29) #[true, true, true, true, true, false, false, false] rfl rfl (one_of HT_.out (by kernel_rfl)) (by decide) (fun K hK => ?_)
        refine goes_ Try.func17 (by kernel_rfl) rfl #[.slice A1 l1.length c1] (by rfl) rfl rfl (by (try simp only [List.map_toArray, List.map_cons, List.map_nil]); first | done | rfl | (simp only [List.length_drop, List.length_take]; rfl)) ?_
        with_reducible refine (laws_toLoanS.calls k _ _ l1 t277 _ ?side1 ?side2 A17.out).mono ?_
        (case side1 => repeat (first | exact (Kd.C_below HR1.out HB.out) | (with_reducible refine Kd.C_alloc ?_ _) | (with_reducible refine Kd.C_drewN ?_ _) | (with_reducible refine Kd.C_drew ?_)))
        (case side2 => exact HC1.out)
        rintro e w74 ⟨v278, rfl, ho0, hb⟩
        refine ⟨_, rfl, ?_⟩
        have n0_ := Ad.mk (Kd.R_below (by (with_reducible repeat (first | apply Kd.R_alloc | apply Kd.R_drewN | apply Kd.R_drew)); exact HO276.out) hb)
        have n1_ := Ad.mk (Kd.S_lower (Kd.S_new' ho0 (Kd.R_lt (by (with_reducible repeat (first | apply Kd.R_alloc | apply Kd.R_drewN | apply Kd.R_drew)); exact HO276.out))) (qa0 (by repeat (first | (with_reducible first | exact HB.out | apply bwa | apply bwN | apply bw1 | refine bws ?_ GE271.out) | exact HB.out))))
        have n2_ := Ad.mk (qa3 (g := gb271) (o := .cells #[.int .i64 a2_0, .int .i64 a2_1, .slice A2_2 l2_2.length c2_2] 47 (0, 0)) (by (with_reducible repeat (first | refine bkN ?_ _ | refine bkd ?_ | refine bka ?_ _)); exact BK271.out) hb)
        have n3_ := Ad.mk (qa2 (by repeat (first | (with_reducible first | exact HB.out | apply bwa | apply bwN | apply bw1 | refine bws ?_ GE271.out) | exact HB.out)) hb)
        clear HO276
        clear BK271
        clear HB
        have HO276 := n0_
        have HO279 := n1_
        have BK271 := n2_
        have HB := n3_
        clear n0_ n1_ n2_ n3_
        (try clear hb)
        (try clear hb2)
        (try clear hk)
        (try clear hi)
        (try clear ho0)
        refine hK.out _ _ ⟨(bkc BK271.out 0).trans rfl, (bkc BK271.out 1).trans rfl, (bkc BK271.out 2).trans rfl⟩ (fun hHeld => ?_)
        clear hK K
        refine norm_ (a' := ?_) ?_ ?_
        rotate_left
        ·show Act.put _ (some 29) _ = _
         simp only [Act.put, List.setIfInBounds_toArray, List.set_cons_zero, List.set_cons_succ, qa5, qa6]
         rfl
        refine one_ (i := 5) (N := some 31) #[true, true, true, true, true, true, false, false] rfl rfl (one_of HT_.out (by kernel_rfl)) (by decide) (fun K hK => ?_)
        refine goes_ Try.func28 (by kernel_rfl) rfl #[.agg #[.int .i64 a2_0, .int .i64 a2_1, .slice A2_2 l2_2.length c2_2]] (by rfl) rfl rfl (by (try simp only [List.map_toArray, List.map_cons, List.map_nil]); first | done | rfl | (simp only [List.length_drop, List.length_take]; rfl)) ?_
        with_reducible refine (laws_toLoan.calls k a2_0 a2_1 _ _ l2_2 t280 t281 t282 _ ?side1 ?side2 A18.out).mono ?_
        (case side1 => repeat (first | exact (Kd.C_below HR2_2.out HB.out) | (with_reducible refine Kd.C_alloc ?_ _) | (with_reducible refine Kd.C_drewN ?_ _) | (with_reducible refine Kd.C_drew ?_)))
        (case side2 => exact HC2_2.out)
        rintro e w75 ⟨v283, rfl, ho0, hb⟩
        refine ⟨_, rfl, ?_⟩
        have n0_ := Ad.mk (Kd.R_elder' (by (with_reducible repeat (first | apply Kd.R_alloc | apply Kd.R_drewN | apply Kd.R_drew)); exact HO276.out) (Kd.R_base ho0) hb)
        have n1_ := Ad.mk (Kd.S_elder' (by (with_reducible repeat (first | apply Kd.S_alloc | apply Kd.S_drewN | apply Kd.S_drew)); exact HO279.out) (Kd.R_base ho0) hb)
        have n2_ := Ad.mk (Kd.R_lower (Kd.R_new' ho0 (Kd.R_lt (by (with_reducible repeat (first | apply Kd.R_alloc | apply Kd.R_drewN | apply Kd.R_drew)); exact HO276.out))) (qa0 (by repeat (first | (with_reducible first | exact HB.out | apply bwa | apply bwN | apply bw1 | refine bws ?_ GE271.out) | exact HB.out))))
        have n3_ := Ad.mk (qa3 (g := gb271) (o := .cells #[.int .i64 a2_0, .int .i64 a2_1, .slice A2_2 l2_2.length c2_2] 47 (0, 0)) (by (with_reducible repeat (first | refine bkN ?_ _ | refine bkd ?_ | refine bka ?_ _)); exact BK271.out) hb)
        have n4_ := Ad.mk (qa2 (by repeat (first | (with_reducible first | exact HB.out | apply bwa | apply bwN | apply bw1 | refine bws ?_ GE271.out) | exact HB.out)) hb)
        clear HO276
        clear HO279
        clear BK271
        clear HB
        have HO276 := n0_
        have HO279 := n1_
        have HO284 := n2_
        have BK271 := n3_
        have HB := n4_
        clear n0_ n1_ n2_ n3_ n4_
        (try clear hb)
        (try clear hb2)
        (try clear hk)
        (try clear hi)
        (try clear ho0)
        obtain ⟨Ao76, co76, eo76⟩ := Kd.R_slice HO276.out
        (first | subst eo76 | (injection eo76 with f1_ f2_ f3_; have f4_ := f1_.symm; have f5_ := f3_.symm; clear f1_ f2_ f3_; subst f4_; subst f5_))
        obtain ⟨Ao77, co77, eo77⟩ := Kd.S_slice HO279.out
        (first | subst eo77 | (injection eo77 with f1_ f2_ f3_; have f4_ := f1_.symm; have f5_ := f3_.symm; clear f1_ f2_ f3_; subst f4_; subst f5_))
        obtain ⟨Ao78, co78, eo78⟩ := Kd.R_slice HO284.out
        (first | subst eo78 | (injection eo78 with f1_ f2_ f3_; have f4_ := f1_.symm; have f5_ := f3_.symm; clear f1_ f2_ f3_; subst f4_; subst f5_))
        refine hK.out _ _ ⟨(bkc BK271.out 0).trans rfl, (bkc BK271.out 1).trans rfl, (bkc BK271.out 2).trans rfl⟩ (fun hHeld => ?_)
        clear hK K
        refine norm_ (a' := ?_) ?_ ?_
        rotate_left
        ·show Act.put _ (some 31) _ = _
         simp only [Act.put, List.setIfInBounds_toArray, List.set_cons_zero, List.set_cons_succ, qa5, qa6]
         rfl
        refine one_ (i := 6) (N := some 32) #[true, true, true, true, true, true, true, false] rfl rfl (one_of HT_.out (by kernel_rfl)) (by decide) (fun K hK => ?_)
        refine goes_ Try.func24 (by kernel_rfl) rfl #[.slice Ao76 t274.length co76, .slice Ao77 t277.length co77, .agg #[.int .i64 t280, .int .i64 t281, .slice Ao78 t282.length co78]] (by rfl) rfl rfl (by (try simp only [List.map_toArray, List.map_cons, List.map_nil]); first | done | rfl | (simp only [List.length_drop, List.length_take]; rfl)) ?_
        with_reducible refine (spec_MostLoan.calls k _ _ t274 (fun k_ => (((True ∧ some k_ ≠ (.slice Ao76 t274.length co76 : Value).ownBlock) ∧ some k_ ≠ (.slice Ao78 t282.length co78 : Value).ownBlock) ∧ k_ ≠ gb271)) _ _ t277 t280 t281 (fun k_ => some k_ = (.slice Ao78 t282.length co78 : Value).ownBlock) _ _ t282 t285 _ ?side1 ?side2 ?side3 ?side4 A19.out).mono ?_
        (case side1 => repeat (first | exact (Kd.R_reads' HO276.out).2.2 | (with_reducible refine Kd.C_alloc ?_ _) | (with_reducible refine Kd.C_drewN ?_ _) | (with_reducible refine Kd.C_drew ?_)))
        (case side2 => exact (Kd.R_reads' HO276.out).2.1)
        (case side3 => exact Kd.S_V (Kd.S_types (HO279.out) BK271.out (by decide)))
        (case side4 => exact Kd.R_V (Kd.R_tight rfl (Kd.R_types (Kd.R_apart' (HO284.out) (Kd.S_typed HO279.out) (by decide)) BK271.out (by decide))))
        rintro e w79 ⟨rfl, hb⟩
        refine ⟨_, rfl, ?_⟩
        have n0_ := Ad.mk (Kd.R_below (by (with_reducible repeat (first | apply Kd.R_alloc | apply Kd.R_drewN | apply Kd.R_drew)); exact HO276.out) hb)
        have n1_ := Ad.mk (Kd.S_below (by (with_reducible repeat (first | apply Kd.S_alloc | apply Kd.S_drewN | apply Kd.S_drew)); exact HO279.out) hb)
        have n2_ := Ad.mk (Kd.R_below (by (with_reducible repeat (first | apply Kd.R_alloc | apply Kd.R_drewN | apply Kd.R_drew)); exact HO284.out) hb)
        have n3_ := Ad.mk (qa3 (g := gb271) (o := .cells #[.int .i64 a2_0, .int .i64 a2_1, .slice A2_2 l2_2.length c2_2] 47 (0, 0)) (by (with_reducible repeat (first | refine bkN ?_ _ | refine bkd ?_ | refine bka ?_ _)); exact BK271.out) hb)
        have n4_ := Ad.mk (qa2 (by repeat (first | (with_reducible first | exact HB.out | apply bwa | apply bwN | apply bw1 | refine bws ?_ GE271.out) | exact HB.out)) hb)
        clear HO276
        clear HO279
        clear HO284
        clear BK271
        clear HB
        have HO276 := n0_
        have HO279 := n1_
        have HO284 := n2_
        have BK271 := n3_
        have HB := n4_
        clear n0_ n1_ n2_ n3_ n4_
        (try clear hb)
        (try clear hb2)
        (try clear hk)
        (try clear hi)
        refine hK.out _ _ ⟨(bkc BK271.out 0).trans rfl, (bkc BK271.out 1).trans rfl, (bkc BK271.out 2).trans rfl⟩ (fun hHeld => ?_)
        clear hK K
        refine norm_ (a' := ?_) ?_ ?_
        rotate_left
        ·show Act.put _ (some 32) _ = _
         simp only [Act.put, List.setIfInBounds_toArray, List.set_cons_zero, List.set_cons_succ, qa5, qa6]
         rfl
        refine pure_ (i := 7) (N := some 8) (v := ?_) (a' := ?_) #[true, true, true, true, true, true, true, true] rfl rfl (any_of HT_.out (by kernel_rfl)) (fun _ _ _ h => h) (Or.inl ⟨by rfl, ?_⟩) ?_ ?_
        rotate_left
        ·intro w'
         go_simp
         with_reducible rfl
        rotate_left
        ·simp only [Act.put, List.setIfInBounds_toArray, List.set_cons_zero, List.set_cons_succ, qa5, qa6]
         rfl
        refine done_ (done_of HT_.out (by kernel_rfl)) ?_
        try go_wp2_with (first | ((with_reducible refine qa4 (f := 27) rfl ?_); refine goesL_ (some 34) rfl rfl Try.func27 (by kernel_rfl) rfl #[.slice A0 l0.length c0] rfl (by (try simp only [List.map_toArray, List.map_cons, List.map_nil]); first | done | rfl | (simp only [List.length_drop, List.length_take]; rfl)) ?_; (with_reducible refine (laws_toIntS.calls k _ _ l0 t286 _ ?side1 ?side2 A20.out).mono ?_); (case side1 => repeat (first | exact (Kd.C_below HR0.out HB.out) | (with_reducible refine Kd.C_alloc ?_ _) | (with_reducible refine Kd.C_drewN ?_ _) | (with_reducible refine Kd.C_drew ?_))); (case side2 => exact HC0.out); rintro e w80 ⟨v287, rfl, ho0, hb⟩; refine ⟨_, rfl, ?_⟩; have n0_ := Ad.mk (Kd.R_elder' (by (with_reducible repeat (first | apply Kd.R_alloc | apply Kd.R_drewN | apply Kd.R_drew)); exact HO276.out) (Kd.R_base ho0) hb); have n1_ := Ad.mk (Kd.S_elder' (by (with_reducible repeat (first | apply Kd.S_alloc | apply Kd.S_drewN | apply Kd.S_drew)); exact HO279.out) (Kd.R_base ho0) hb); have n2_ := Ad.mk (Kd.R_elder' (by (with_reducible repeat (first | apply Kd.R_alloc | apply Kd.R_drewN | apply Kd.R_drew)); exact HO284.out) (Kd.R_base ho0) hb); have n3_ := Ad.mk (Kd.R_lower (Kd.R_new' (Kd.R_new' ho0 (Kd.R_lt (by (with_reducible repeat (first | apply Kd.R_alloc | apply Kd.R_drewN | apply Kd.R_drew)); exact HO276.out))) (Kd.R_lt (by (with_reducible repeat (first | apply Kd.R_alloc | apply Kd.R_drewN | apply Kd.R_drew)); exact HO284.out))) (qa0 (by repeat (first | (with_reducible first | exact HB.out | apply bwa | apply bwN | apply bw1 | refine bws ?_ GE271.out) | exact HB.out)))); have n4_ := Ad.mk (qa3 (g := gb271) (o := .cells #[.int .i64 a2_0, .int .i64 a2_1, .slice A2_2 l2_2.length c2_2] 47 (0, 0)) (by (with_reducible repeat (first | refine bkN ?_ _ | refine bkd ?_ | refine bka ?_ _)); exact BK271.out) hb); have n5_ := Ad.mk (qa2 (by repeat (first | (with_reducible first | exact HB.out | apply bwa | apply bwN | apply bw1 | refine bws ?_ GE271.out) | exact HB.out)) hb); clear HO276; clear HO279; clear HO284; clear BK271; clear HB; have HO276 := n0_; have HO279 := n1_; have HO284 := n2_; have HO288 := n3_; have BK271 := n4_; have HB := n5_; clear n0_ n1_ n2_ n3_ n4_ n5_; (try clear hb); (try clear hb2); (try clear hk); (try clear hi); (try clear ho0)) | ((with_reducible refine qa4 (f := 17) rfl ?_); refine goesL_ (some 36) rfl rfl Try.func17 (by kernel_rfl) rfl #[.slice A1 l1.length c1] rfl (by (try simp only [List.map_toArray, List.map_cons, List.map_nil]); first | done | rfl | (simp only [List.length_drop, List.length_take]; rfl)) ?_; (with_reducible refine (laws_toLoanS.calls k _ _ l1 t289 _ ?side1 ?side2 A21.out).mono ?_); (case side1 => repeat (first | exact (Kd.C_below HR1.out HB.out) | (with_reducible refine Kd.C_alloc ?_ _) | (with_reducible refine Kd.C_drewN ?_ _) | (with_reducible refine Kd.C_drew ?_))); (case side2 => exact HC1.out); rintro e w81 ⟨v290, rfl, ho0, hb⟩; refine ⟨_, rfl, ?_⟩; have n0_ := Ad.mk (Kd.R_below (by (with_reducible repeat (first | apply Kd.R_alloc | apply Kd.R_drewN | apply Kd.R_drew)); exact HO276.out) hb); have n1_ := Ad.mk (Kd.S_elder' (by (with_reducible repeat (first | apply Kd.S_alloc | apply Kd.S_drewN | apply Kd.S_drew)); exact HO279.out) (Kd.S_base ho0) hb); have n2_ := Ad.mk (Kd.R_below (by (with_reducible repeat (first | apply Kd.R_alloc | apply Kd.R_drewN | apply Kd.R_drew)); exact HO284.out) hb); have n3_ := Ad.mk (Kd.R_below (by (with_reducible repeat (first | apply Kd.R_alloc | apply Kd.R_drewN | apply Kd.R_drew)); exact HO288.out) hb); have n4_ := Ad.mk (Kd.S_lower (Kd.S_new' (Kd.S_new' (Kd.S_new' (Kd.S_new' ho0 (Kd.R_lt (by (with_reducible repeat (first | apply Kd.R_alloc | apply Kd.R_drewN | apply Kd.R_drew)); exact HO276.out))) (Kd.S_lt (by (with_reducible repeat (first | apply Kd.S_alloc | apply Kd.S_drewN | apply Kd.S_drew)); exact HO279.out))) (Kd.R_lt (by (with_reducible repeat (first | apply Kd.R_alloc | apply Kd.R_drewN | apply Kd.R_drew)); exact HO284.out))) (Kd.R_lt (by (with_reducible repeat (first | apply Kd.R_alloc | apply Kd.R_drewN | apply Kd.R_drew)); exact HO288.out))) (qa0 (by repeat (first | (with_reducible first | exact HB.out | apply bwa | apply bwN | apply bw1 | refine bws ?_ GE271.out) | exact HB.out)))); have n5_ := Ad.mk (qa3 (g := gb271) (o := .cells #[.int .i64 a2_0, .int .i64 a2_1, .slice A2_2 l2_2.length c2_2] 47 (0, 0)) (by (with_reducible repeat (first | refine bkN ?_ _ | refine bkd ?_ | refine bka ?_ _)); exact BK271.out) hb); have n6_ := Ad.mk (qa2 (by repeat (first | (with_reducible first | exact HB.out | apply bwa | apply bwN | apply bw1 | refine bws ?_ GE271.out) | exact HB.out)) hb); clear HO276; clear HO279; clear HO284; clear HO288; clear BK271; clear HB; have HO276 := n0_; have HO279 := n1_; have HO284 := n2_; have HO288 := n3_; have HO291 := n4_; have BK271 := n5_; have HB := n6_; clear n0_ n1_ n2_ n3_ n4_ n5_ n6_; (try clear hb); (try clear hb2); (try clear hk); (try clear hi); (try clear ho0); have hcz82_0 : w81.cell? ⟨gb271, 0, none⟩ = some (.int .i64 a2_0) := (bkc BK271.out 0).trans rfl; have hcz82_1 : w81.cell? ⟨gb271, 1, none⟩ = some (.int .i64 a2_1) := (bkc BK271.out 1).trans rfl; have hcz82_2 : w81.cell? ⟨gb271, 2, none⟩ = some (.slice A2_2 l2_2.length c2_2) := (bkc BK271.out 2).trans rfl; have hfz82_0 := qa1 BK271.out 0; have hfz82_1 := qa1 BK271.out 1; have hfz82_2 := qa1 BK271.out 2) | ((with_reducible refine qa4 (f := 28) rfl ?_); refine goesL_ (some 38) rfl rfl Try.func28 (by kernel_rfl) rfl #[.agg #[.int .i64 a2_0, .int .i64 a2_1, .slice A2_2 l2_2.length c2_2]] rfl (by (try simp only [List.map_toArray, List.map_cons, List.map_nil]); first | done | rfl | (simp only [List.length_drop, List.length_take]; rfl)) ?_; (with_reducible refine (laws_toLoan.calls k a2_0 a2_1 _ _ l2_2 t292 t293 t294 _ ?side1 ?side2 A22.out).mono ?_); (case side1 => repeat (first | exact (Kd.C_below HR2_2.out HB.out) | (with_reducible refine Kd.C_alloc ?_ _) | (with_reducible refine Kd.C_drewN ?_ _) | (with_reducible refine Kd.C_drew ?_))); (case side2 => exact HC2_2.out); rintro e w83 ⟨v295, rfl, ho0, hb⟩; refine ⟨_, rfl, ?_⟩; have n0_ := Ad.mk (Kd.R_elder' (by (with_reducible repeat (first | apply Kd.R_alloc | apply Kd.R_drewN | apply Kd.R_drew)); exact HO276.out) (Kd.R_base ho0) hb); have n1_ := Ad.mk (Kd.S_elder' (by (with_reducible repeat (first | apply Kd.S_alloc | apply Kd.S_drewN | apply Kd.S_drew)); exact HO279.out) (Kd.R_base ho0) hb); have n2_ := Ad.mk (Kd.R_elder' (by (with_reducible repeat (first | apply Kd.R_alloc | apply Kd.R_drewN | apply Kd.R_drew)); exact HO284.out) (Kd.R_base ho0) hb); have n3_ := Ad.mk (Kd.R_elder' (by (with_reducible repeat (first | apply Kd.R_alloc | apply Kd.R_drewN | apply Kd.R_drew)); exact HO288.out) (Kd.R_base ho0) hb); have n4_ := Ad.mk (Kd.S_elder' (by (with_reducible repeat (first | apply Kd.S_alloc | apply Kd.S_drewN | apply Kd.S_drew)); exact HO291.out) (Kd.R_base ho0) hb); have n5_ := Ad.mk (Kd.R_lower (Kd.R_new' (Kd.R_new' (Kd.R_new' ho0 (Kd.R_lt (by (with_reducible repeat (first | apply Kd.R_alloc | apply Kd.R_drewN | apply Kd.R_drew)); exact HO276.out))) (Kd.R_lt (by (with_reducible repeat (first | apply Kd.R_alloc | apply Kd.R_drewN | apply Kd.R_drew)); exact HO284.out))) (Kd.R_lt (by (with_reducible repeat (first | apply Kd.R_alloc | apply Kd.R_drewN | apply Kd.R_drew)); exact HO288.out))) (qa0 (by repeat (first | (with_reducible first | exact HB.out | apply bwa | apply bwN | apply bw1 | refine bws ?_ GE271.out) | exact HB.out)))); have n6_ := Ad.mk (qa3 (g := gb271) (o := .cells #[.int .i64 a2_0, .int .i64 a2_1, .slice A2_2 l2_2.length c2_2] 47 (0, 0)) (by (with_reducible repeat (first | refine bkN ?_ _ | refine bkd ?_ | refine bka ?_ _)); exact BK271.out) hb); have n7_ := Ad.mk (qa2 (by repeat (first | (with_reducible first | exact HB.out | apply bwa | apply bwN | apply bw1 | refine bws ?_ GE271.out) | exact HB.out)) hb); clear HO276; clear HO279; clear HO284; clear HO288; clear HO291; clear BK271; clear HB; have HO276 := n0_; have HO279 := n1_; have HO284 := n2_; have HO288 := n3_; have HO291 := n4_; have HO296 := n5_; have BK271 := n6_; have HB := n7_; clear n0_ n1_ n2_ n3_ n4_ n5_ n6_ n7_; (try clear hb); (try clear hb2); (try clear hk); (try clear hi); (try clear ho0)) | ((with_reducible refine gate_dst (N := 11) rfl ?_); refine box_event ?hg (N := 11) ?hd (cs := #[.int .i64 0, .int .i64 0, .slice none 0 0]) (t := 42) ?hr ?_; (case hd => rfl); (case hg => rfl); (case hr => first | (go_simp; done) | (go_simp; rfl)); intro gb297 hg w84 hbox hb; have n0_ := Ad.mk (Kd.R_below (by (with_reducible repeat (first | apply Kd.R_alloc | apply Kd.R_drewN | apply Kd.R_drew)); exact HO276.out) hb); have n1_ := Ad.mk (Kd.S_below (Kd.S_elderB (by (with_reducible repeat (first | apply Kd.S_alloc | apply Kd.S_drewN | apply Kd.S_drew)); exact HO279.out) gb297 (Nat.le_of_eq hg.symm)) hb); have n2_ := Ad.mk (Kd.R_below (by (with_reducible repeat (first | apply Kd.R_alloc | apply Kd.R_drewN | apply Kd.R_drew)); exact HO284.out) hb); have n3_ := Ad.mk (Kd.R_below (by (with_reducible repeat (first | apply Kd.R_alloc | apply Kd.R_drewN | apply Kd.R_drew)); exact HO288.out) hb); have n4_ := Ad.mk (Kd.S_below (Kd.S_elderB (by (with_reducible repeat (first | apply Kd.S_alloc | apply Kd.S_drewN | apply Kd.S_drew)); exact HO291.out) gb297 (Nat.le_of_eq hg.symm)) hb); have n5_ := Ad.mk (Kd.R_below (by (with_reducible repeat (first | apply Kd.R_alloc | apply Kd.R_drewN | apply Kd.R_drew)); exact HO296.out) hb); have n6_ := Ad.mk (qa3 (g := gb271) (o := .cells #[.int .i64 a2_0, .int .i64 a2_1, .slice A2_2 l2_2.length c2_2] 47 (0, 0)) (by (with_reducible repeat (first | refine bkN ?_ _ | refine bkd ?_ | refine bka ?_ _)); exact BK271.out) hb); have n7_ := Ad.mk (qa2 (by repeat (first | (with_reducible first | exact HB.out | apply bwa | apply bwN | apply bw1 | refine bws ?_ GE271.out) | exact HB.out)) hb); have n8_ := Ad.mk (hbox); have n9_ := Ad.mk ((by rw [hg]; exact (qa0 (by repeat (first | (with_reducible first | exact HB.out | apply bwa | apply bwN | apply bw1 | refine bws ?_ GE271.out) | exact HB.out))) : w.heap.size ≤ gb297)); have n10_ := Ad.mk ((by rw [hg]; exact (qa0 (by repeat (first | (with_reducible first | exact HB.out | apply bwa | apply bwN | apply bw1 | refine bws ?_ GE271.out) | exact HB.out))) : w.heap.size ≤ gb297)); have n11_ := Ad.mk ((by rw [hg]; exact Nat.ne_of_lt (blk_lt (g := gb271) (o := .cells #[.int .i64 a2_0, .int .i64 a2_1, .slice A2_2 l2_2.length c2_2] 47 (0, 0)) (by (with_reducible repeat (first | refine bkN ?_ _ | refine bkd ?_ | refine bka ?_ _)); exact BK271.out)) : gb271 ≠ gb297)); have n12_ := Ad.mk ((by rw [hg]; exact Nat.ne_of_gt (blk_lt (g := gb271) (o := .cells #[.int .i64 a2_0, .int .i64 a2_1, .slice A2_2 l2_2.length c2_2] 47 (0, 0)) (by (with_reducible repeat (first | refine bkN ?_ _ | refine bkd ?_ | refine bka ?_ _)); exact BK271.out)) : gb297 ≠ gb271)); clear HO276; clear HO279; clear HO284; clear HO288; clear HO291; clear HO296; clear BK271; clear HB; have HO276 := n0_; have HO279 := n1_; have HO284 := n2_; have HO288 := n3_; have HO291 := n4_; have HO296 := n5_; have BK271 := n6_; have HB := n7_; have BK297 := n8_; have GW297 := n9_; have GE297 := n10_; have NB271_297 := n11_; have NB297_271 := n12_; clear n0_ n1_ n2_ n3_ n4_ n5_ n6_ n7_ n8_ n9_ n10_ n11_ n12_; clear hb hbox hg; have hnb85 := NB297_271.out; have hnc85 := NB271_297.out; have hcz86_0 : w84.cell? ⟨gb297, 0, none⟩ = some (.int .i64 0) := (bkc BK297.out 0).trans rfl; have hcz86_1 : w84.cell? ⟨gb297, 1, none⟩ = some (.int .i64 0) := (bkc BK297.out 1).trans rfl; have hcz86_2 : w84.cell? ⟨gb297, 2, none⟩ = some (.slice none 0 0) := (bkc BK297.out 2).trans rfl; have hfz86_0 := qa1 BK297.out 0; have hfz86_1 := qa1 BK297.out 1; have hfz86_2 := qa1 BK297.out 2; obtain ⟨Ao87, co87, eo87⟩ := Kd.R_slice HO296.out; subst eo87) | ((with_reducible refine gate_store (t := 42) (p := 11) rfl ?_); refine store_event (t := 42) (p := 11) (v := ?vo_w88) (w1 := (((w84.setCell ⟨gb297, 0, none⟩ (.int .i64 t292)).setCell ⟨gb297, 1, none⟩ (.int .i64 t293)).setCell ⟨gb297, 2, none⟩ (.slice Ao87 t294.length co87))) ?hg ?ho ?hn ?hr ?_; (case ho => rfl); (case hg => rfl); (case hn => rfl); (case hr => first | (go_simp; done) | (go_simp; rfl)); intro w88 hw; have n0_ : Ad (Kd.R (Kd.int .i64) 3 w88 w.heap.size (fun k_ => some k_ ≠ (.slice Ao78 t282.length co78 : Value).ownBlock ∧ some k_ ≠ (v287 : Value).ownBlock ∧ some k_ ≠ (.slice Ao87 t294.length co87 : Value).ownBlock) (.slice Ao76 t274.length co76) t274) := ⟨(by rw [hw]; exact (by (with_reducible repeat (first | apply Kd.R_alloc | apply Kd.R_drewN | apply Kd.R_drew)); exact Kd.R_mono (Kd.R_far (p := ⟨gb297, 2, none⟩) (Kd.R_far (p := ⟨gb297, 1, none⟩) (Kd.R_far (p := ⟨gb297, 0, none⟩) (Kd.R_types HO276.out BK297.out (by decide)) (fun _ hk => hk.2) (.int .i64 t292)) (fun _ hk => hk.2) (.int .i64 t293)) (fun _ hk => hk.2) (.slice Ao87 t294.length co87)) (fun _ hk => ⟨hk.1.1.1.2, ⟨hk.1.1.2, hk.1.2⟩⟩)))⟩; have n1_ : Ad (Kd.S k42 42 w88 w.heap.size (fun k_ => some k_ ≠ (.slice Ao76 t274.length co76 : Value).ownBlock ∧ some k_ ≠ (.slice Ao78 t282.length co78 : Value).ownBlock ∧ some k_ ≠ (v287 : Value).ownBlock ∧ some k_ ≠ (v290 : Value).ownBlock ∧ some k_ ≠ (.slice Ao87 t294.length co87 : Value).ownBlock ∧ k_ ≠ gb297) (.slice Ao77 t277.length co77) t277) := ⟨(by rw [hw]; exact (by (with_reducible repeat (first | apply Kd.S_alloc | apply Kd.S_drewN | apply Kd.S_drew)); exact Kd.S_mono (Kd.S_far (p := ⟨gb297, 2, none⟩) (Kd.S_far (p := ⟨gb297, 1, none⟩) (Kd.S_far (p := ⟨gb297, 0, none⟩) (Kd.S_mono HO279.out (fun k_ hk => (⟨hk, hk.2⟩ : _ ∧ k_ ≠ gb297))) (fun _ hk => hk.2) (.int .i64 t292)) (fun _ hk => hk.2) (.int .i64 t293)) (fun _ hk => hk.2) (.slice Ao87 t294.length co87)) (fun _ hk => ⟨hk.1.1.1.1.1.1.2, ⟨hk.1.1.1.1.1.2, ⟨hk.1.1.1.1.2, ⟨hk.1.1.1.2, ⟨hk.1.1.2, hk.1.2⟩⟩⟩⟩⟩)))⟩; have n2_ : Ad (Kd.R (Kd.int .i64) 3 w88 w.heap.size (fun k_ => some k_ ≠ (.slice Ao76 t274.length co76 : Value).ownBlock ∧ some k_ ≠ (v287 : Value).ownBlock ∧ some k_ ≠ (.slice Ao87 t294.length co87 : Value).ownBlock) (.slice Ao78 t282.length co78) t282) := ⟨(by rw [hw]; exact (by (with_reducible repeat (first | apply Kd.R_alloc | apply Kd.R_drewN | apply Kd.R_drew)); exact Kd.R_mono (Kd.R_far (p := ⟨gb297, 2, none⟩) (Kd.R_far (p := ⟨gb297, 1, none⟩) (Kd.R_far (p := ⟨gb297, 0, none⟩) (Kd.R_types HO284.out BK297.out (by decide)) (fun _ hk => hk.2) (.int .i64 t292)) (fun _ hk => hk.2) (.int .i64 t293)) (fun _ hk => hk.2) (.slice Ao87 t294.length co87)) (fun _ hk => ⟨hk.1.1.1.2, ⟨hk.1.1.2, hk.1.2⟩⟩)))⟩; have n3_ : Ad (Kd.R (Kd.int .i64) 3 w88 w.heap.size (fun k_ => some k_ ≠ (.slice Ao76 t274.length co76 : Value).ownBlock ∧ some k_ ≠ (.slice Ao78 t282.length co78 : Value).ownBlock ∧ some k_ ≠ (.slice Ao87 t294.length co87 : Value).ownBlock) v287 t286) := ⟨(by rw [hw]; exact (by (with_reducible repeat (first | apply Kd.R_alloc | apply Kd.R_drewN | apply Kd.R_drew)); exact Kd.R_mono (Kd.R_far (p := ⟨gb297, 2, none⟩) (Kd.R_far (p := ⟨gb297, 1, none⟩) (Kd.R_far (p := ⟨gb297, 0, none⟩) (Kd.R_types HO288.out BK297.out (by decide)) (fun _ hk => hk.2) (.int .i64 t292)) (fun _ hk => hk.2) (.int .i64 t293)) (fun _ hk => hk.2) (.slice Ao87 t294.length co87)) (fun _ hk => ⟨hk.1.1.1.2, ⟨hk.1.1.2, hk.1.2⟩⟩)))⟩; have n4_ : Ad (Kd.S k42 42 w88 w.heap.size (fun k_ => some k_ ≠ (.slice Ao76 t274.length co76 : Value).ownBlock ∧ some k_ ≠ (.slice Ao77 t277.length co77 : Value).ownBlock ∧ some k_ ≠ (.slice Ao78 t282.length co78 : Value).ownBlock ∧ some k_ ≠ (v287 : Value).ownBlock ∧ some k_ ≠ (.slice Ao87 t294.length co87 : Value).ownBlock ∧ k_ ≠ gb297) v290 t289) := ⟨(by rw [hw]; exact (by (with_reducible repeat (first | apply Kd.S_alloc | apply Kd.S_drewN | apply Kd.S_drew)); exact Kd.S_mono (Kd.S_far (p := ⟨gb297, 2, none⟩) (Kd.S_far (p := ⟨gb297, 1, none⟩) (Kd.S_far (p := ⟨gb297, 0, none⟩) (Kd.S_mono HO291.out (fun k_ hk => (⟨hk, hk.2⟩ : _ ∧ k_ ≠ gb297))) (fun _ hk => hk.2) (.int .i64 t292)) (fun _ hk => hk.2) (.int .i64 t293)) (fun _ hk => hk.2) (.slice Ao87 t294.length co87)) (fun _ hk => ⟨hk.1.1.1.1.1.1.2, ⟨hk.1.1.1.1.1.2, ⟨hk.1.1.1.1.2, ⟨hk.1.1.1.2, ⟨hk.1.1.2, hk.1.2⟩⟩⟩⟩⟩)))⟩; have n5_ : Ad (Kd.R (Kd.int .i64) 3 w88 w.heap.size (fun k_ => some k_ ≠ (.slice Ao76 t274.length co76 : Value).ownBlock ∧ some k_ ≠ (.slice Ao78 t282.length co78 : Value).ownBlock ∧ some k_ ≠ (v287 : Value).ownBlock) (.slice Ao87 t294.length co87) t294) := ⟨(by rw [hw]; exact (by (with_reducible repeat (first | apply Kd.R_alloc | apply Kd.R_drewN | apply Kd.R_drew)); exact Kd.R_mono (Kd.R_far (p := ⟨gb297, 2, none⟩) (Kd.R_far (p := ⟨gb297, 1, none⟩) (Kd.R_far (p := ⟨gb297, 0, none⟩) (Kd.R_types HO296.out BK297.out (by decide)) (fun _ hk => hk.2) (.int .i64 t292)) (fun _ hk => hk.2) (.int .i64 t293)) (fun _ hk => hk.2) (.slice Ao87 t294.length co87)) (fun _ hk => ⟨hk.1.1.1.2, ⟨hk.1.1.2, hk.1.2⟩⟩)))⟩; have n6_ : Ad (w88.heap[gb271]? = some (.cells #[.int .i64 a2_0, .int .i64 a2_1, .slice A2_2 l2_2.length c2_2] 47 (0, 0))) := ⟨(by rw [hw]; exact (by (with_reducible repeat (first | refine bkN ?_ _ | refine bkd ?_ | refine bka ?_ _)); refine blk_far ?_ NB271_297.out _; (with_reducible repeat (first | refine bkN ?_ _ | refine bkd ?_ | refine bka ?_ _)); refine blk_far ?_ NB271_297.out _; (with_reducible repeat (first | refine bkN ?_ _ | refine bkd ?_ | refine bka ?_ _)); refine blk_far ?_ NB271_297.out _; (with_reducible repeat (first | refine bkN ?_ _ | refine bkd ?_ | refine bka ?_ _)); exact BK271.out))⟩; have n7_ : Ad (w88.heap[gb297]? = some (.cells #[.int .i64 t292, .int .i64 t293, .slice Ao87 t294.length co87] 42 (0, 0))) := ⟨(by rw [hw]; exact (by (with_reducible repeat (first | refine bkN ?_ _ | refine bkd ?_ | refine bka ?_ _)); refine blk_put (cs := #[.int .i64 t292, .int .i64 t293, .slice none 0 0]) ?_ 2 _ rfl; (with_reducible repeat (first | refine bkN ?_ _ | refine bkd ?_ | refine bka ?_ _)); refine blk_put (cs := #[.int .i64 t292, .int .i64 0, .slice none 0 0]) ?_ 1 _ rfl; (with_reducible repeat (first | refine bkN ?_ _ | refine bkd ?_ | refine bka ?_ _)); refine blk_put (cs := #[.int .i64 0, .int .i64 0, .slice none 0 0]) ?_ 0 _ rfl; (with_reducible repeat (first | refine bkN ?_ _ | refine bkd ?_ | refine bka ?_ _)); exact BK297.out))⟩; have n8_ : Ad (Below w.heap.size w w88) := ⟨(by rw [hw]; exact (by repeat (first | (with_reducible first | exact HB.out | apply bwa | apply bwN | apply bw1 | refine bws ?_ GE271.out | refine bws ?_ GE297.out) | exact HB.out)))⟩; clear hw; clear HO276; clear HO279; clear HO284; clear HO288; clear HO291; clear HO296; clear BK271; clear BK297; clear HB; have HO276 := n0_; have HO279 := n1_; have HO284 := n2_; have HO288 := n3_; have HO291 := n4_; have HO296 := n5_; have BK271 := n6_; have BK297 := n7_; have HB := n8_; clear n0_ n1_ n2_ n3_ n4_ n5_ n6_ n7_ n8_; have hcz89_0 : w88.cell? ⟨gb297, 0, none⟩ = some (.int .i64 t292) := (bkc BK297.out 0).trans rfl; have hcz89_1 : w88.cell? ⟨gb297, 1, none⟩ = some (.int .i64 t293) := (bkc BK297.out 1).trans rfl; have hcz89_2 : w88.cell? ⟨gb297, 2, none⟩ = some (.slice Ao87 t294.length co87) := (bkc BK297.out 2).trans rfl; have hfz89_0 := qa1 BK297.out 0; have hfz89_1 := qa1 BK297.out 1; have hfz89_2 := qa1 BK297.out 2; obtain ⟨Ao90, co90, eo90⟩ := Kd.R_slice HO288.out; subst eo90; obtain ⟨Ao91, co91, eo91⟩ := Kd.S_slice HO291.out; subst eo91) | ((with_reducible refine qa4 (f := 23) rfl ?_); refine goesL_ (some 42) rfl rfl Try.func23 (by kernel_rfl) rfl #[.slice Ao90 t286.length co90, .slice Ao91 t289.length co91, .agg #[.int .i64 t292, .int .i64 t293, .slice Ao87 t294.length co87]] rfl (by (try simp only [List.map_toArray, List.map_cons, List.map_nil]); first | done | rfl | (simp only [List.length_drop, List.length_take]; rfl)) ?_; (with_reducible refine (impl_MostLoan.calls k _ _ t286 (fun k_ => ((some k_ ≠ (.slice Ao76 t274.length co76 : Value).ownBlock ∧ (some k_ ≠ (.slice Ao77 t277.length co77 : Value).ownBlock ∧ (some k_ ≠ (.slice Ao78 t282.length co78 : Value).ownBlock ∧ (some k_ ≠ (.slice Ao90 t286.length co90 : Value).ownBlock ∧ (some k_ ≠ (.slice Ao87 t294.length co87 : Value).ownBlock ∧ k_ ≠ gb297))))) ∧ k_ ≠ gb271)) _ _ t289 t292 t293 (fun k_ => some k_ = (.slice Ao87 t294.length co87 : Value).ownBlock) _ _ t294 t298 _ ?side1 ?side2 ?side3 ?side4 A23.out).mono ?_); (case side1 => repeat (first | exact (Kd.R_reads' HO288.out).2.2 | (with_reducible refine Kd.C_alloc ?_ _) | (with_reducible refine Kd.C_drewN ?_ _) | (with_reducible refine Kd.C_drew ?_))); (case side2 => exact (Kd.R_reads' HO288.out).2.1); (case side3 => exact Kd.S_V (Kd.S_types (HO291.out) BK271.out (by decide))); (case side4 => exact Kd.R_V (Kd.R_tight rfl (Kd.R_types (Kd.R_types (Kd.R_apart' (Kd.R_apart' (HO296.out) (Kd.S_typed HO279.out) (by decide)) (Kd.S_typed HO291.out) (by decide)) BK271.out (by decide)) BK297.out (by decide)))); rintro e w92 ⟨rfl, hb⟩; refine ⟨_, rfl, ?_⟩; have n0_ := Ad.mk (Kd.R_below (by (with_reducible repeat (first | apply Kd.R_alloc | apply Kd.R_drewN | apply Kd.R_drew)); exact HO276.out) hb); have n1_ := Ad.mk (Kd.S_below (by (with_reducible repeat (first | apply Kd.S_alloc | apply Kd.S_drewN | apply Kd.S_drew)); exact HO279.out) hb); have n2_ := Ad.mk (Kd.R_below (by (with_reducible repeat (first | apply Kd.R_alloc | apply Kd.R_drewN | apply Kd.R_drew)); exact HO284.out) hb); have n3_ := Ad.mk (Kd.R_below (by (with_reducible repeat (first | apply Kd.R_alloc | apply Kd.R_drewN | apply Kd.R_drew)); exact HO288.out) hb); have n4_ := Ad.mk (Kd.S_below (by (with_reducible repeat (first | apply Kd.S_alloc | apply Kd.S_drewN | apply Kd.S_drew)); exact HO291.out) hb); have n5_ := Ad.mk (Kd.R_below (by (with_reducible repeat (first | apply Kd.R_alloc | apply Kd.R_drewN | apply Kd.R_drew)); exact HO296.out) hb); have n6_ := Ad.mk (qa3 (g := gb271) (o := .cells #[.int .i64 a2_0, .int .i64 a2_1, .slice A2_2 l2_2.length c2_2] 47 (0, 0)) (by (with_reducible repeat (first | refine bkN ?_ _ | refine bkd ?_ | refine bka ?_ _)); exact BK271.out) hb); have n7_ := Ad.mk (qa3 (g := gb297) (o := .cells #[.int .i64 t292, .int .i64 t293, .slice Ao87 t294.length co87] 42 (0, 0)) (by (with_reducible repeat (first | refine bkN ?_ _ | refine bkd ?_ | refine bka ?_ _)); exact BK297.out) hb); have n8_ := Ad.mk (qa2 (by repeat (first | (with_reducible first | exact HB.out | apply bwa | apply bwN | apply bw1 | refine bws ?_ GE271.out | refine bws ?_ GE297.out) | exact HB.out)) hb); clear HO276; clear HO279; clear HO284; clear HO288; clear HO291; clear HO296; clear BK271; clear BK297; clear HB; have HO276 := n0_; have HO279 := n1_; have HO284 := n2_; have HO288 := n3_; have HO291 := n4_; have HO296 := n5_; have BK271 := n6_; have BK297 := n7_; have HB := n8_; clear n0_ n1_ n2_ n3_ n4_ n5_ n6_ n7_ n8_; (try clear hb); (try clear hb2); (try clear hk); (try clear hi)) | ((with_reducible refine qa4 (f := 27) rfl ?_); refine goesL_ (some 48) rfl rfl Try.func27 (by kernel_rfl) rfl #[.slice A0 l0.length c0] rfl (by (try simp only [List.map_toArray, List.map_cons, List.map_nil]); first | done | rfl | (simp only [List.length_drop, List.length_take]; rfl)) ?_; (with_reducible refine (laws_toIntS.calls k _ _ l0 t299 _ ?side1 ?side2 A25.out).mono ?_); (case side1 => repeat (first | exact (Kd.C_below HR0.out HB.out) | (with_reducible refine Kd.C_alloc ?_ _) | (with_reducible refine Kd.C_drewN ?_ _) | (with_reducible refine Kd.C_drew ?_))); (case side2 => exact HC0.out); rintro e w93 ⟨v300, rfl, ho0, hb⟩; refine ⟨_, rfl, ?_⟩; have n0_ := Ad.mk (Kd.R_elder' (by (with_reducible repeat (first | apply Kd.R_alloc | apply Kd.R_drewN | apply Kd.R_drew)); exact HO276.out) (Kd.R_base ho0) hb); have n1_ := Ad.mk (Kd.S_elder' (by (with_reducible repeat (first | apply Kd.S_alloc | apply Kd.S_drewN | apply Kd.S_drew)); exact HO279.out) (Kd.R_base ho0) hb); have n2_ := Ad.mk (Kd.R_elder' (by (with_reducible repeat (first | apply Kd.R_alloc | apply Kd.R_drewN | apply Kd.R_drew)); exact HO284.out) (Kd.R_base ho0) hb); have n3_ := Ad.mk (Kd.R_elder' (by (with_reducible repeat (first | apply Kd.R_alloc | apply Kd.R_drewN | apply Kd.R_drew)); exact HO288.out) (Kd.R_base ho0) hb); have n4_ := Ad.mk (Kd.S_elder' (by (with_reducible repeat (first | apply Kd.S_alloc | apply Kd.S_drewN | apply Kd.S_drew)); exact HO291.out) (Kd.R_base ho0) hb); have n5_ := Ad.mk (Kd.R_elder' (by (with_reducible repeat (first | apply Kd.R_alloc | apply Kd.R_drewN | apply Kd.R_drew)); exact HO296.out) (Kd.R_base ho0) hb); have n6_ := Ad.mk (Kd.R_lower (Kd.R_new' (Kd.R_new' (Kd.R_new' (Kd.R_new' ho0 (Kd.R_lt (by (with_reducible repeat (first | apply Kd.R_alloc | apply Kd.R_drewN | apply Kd.R_drew)); exact HO276.out))) (Kd.R_lt (by (with_reducible repeat (first | apply Kd.R_alloc | apply Kd.R_drewN | apply Kd.R_drew)); exact HO284.out))) (Kd.R_lt (by (with_reducible repeat (first | apply Kd.R_alloc | apply Kd.R_drewN | apply Kd.R_drew)); exact HO288.out))) (Kd.R_lt (by (with_reducible repeat (first | apply Kd.R_alloc | apply Kd.R_drewN | apply Kd.R_drew)); exact HO296.out))) (qa0 (by repeat (first | (with_reducible first | exact HB.out | apply bwa | apply bwN | apply bw1 | refine bws ?_ GE271.out | refine bws ?_ GE297.out) | exact HB.out)))); have n7_ := Ad.mk (qa3 (g := gb271) (o := .cells #[.int .i64 a2_0, .int .i64 a2_1, .slice A2_2 l2_2.length c2_2] 47 (0, 0)) (by (with_reducible repeat (first | refine bkN ?_ _ | refine bkd ?_ | refine bka ?_ _)); exact BK271.out) hb); have n8_ := Ad.mk (qa3 (g := gb297) (o := .cells #[.int .i64 t292, .int .i64 t293, .slice Ao87 t294.length co87] 42 (0, 0)) (by (with_reducible repeat (first | refine bkN ?_ _ | refine bkd ?_ | refine bka ?_ _)); exact BK297.out) hb); have n9_ := Ad.mk (qa2 (by repeat (first | (with_reducible first | exact HB.out | apply bwa | apply bwN | apply bw1 | refine bws ?_ GE271.out | refine bws ?_ GE297.out) | exact HB.out)) hb); clear HO276; clear HO279; clear HO284; clear HO288; clear HO291; clear HO296; clear BK271; clear BK297; clear HB; have HO276 := n0_; have HO279 := n1_; have HO284 := n2_; have HO288 := n3_; have HO291 := n4_; have HO296 := n5_; have HO301 := n6_; have BK271 := n7_; have BK297 := n8_; have HB := n9_; clear n0_ n1_ n2_ n3_ n4_ n5_ n6_ n7_ n8_ n9_; (try clear hb); (try clear hb2); (try clear hk); (try clear hi); (try clear ho0); obtain ⟨Ao94, co94, eo94⟩ := Kd.R_slice HO301.out; subst eo94) | ((with_reducible refine qa4 (f := 29) rfl ?_); refine goesL_ (some 49) rfl rfl Try.func29 (by kernel_rfl) rfl #[.slice Ao90 t286.length co90, .slice Ao94 t299.length co94] rfl (by (try simp only [List.map_toArray, List.map_cons, List.map_nil]); first | done | rfl | (simp only [List.length_drop, List.length_take]; rfl)) ?_; (with_reducible refine (laws_eqIntS.calls k _ _ t286 _ _ t299 true _ ?side1 ?side2 ?side3 ?side4 A26.out).mono ?_); (case side1 => repeat (first | exact (Kd.R_reads' HO288.out).2.2 | (with_reducible refine Kd.C_alloc ?_ _) | (with_reducible refine Kd.C_drewN ?_ _) | (with_reducible refine Kd.C_drew ?_))); (case side2 => exact (Kd.R_reads' HO288.out).2.1); (case side3 => repeat (first | exact (Kd.R_reads' HO301.out).2.2 | (with_reducible refine Kd.C_alloc ?_ _) | (with_reducible refine Kd.C_drewN ?_ _) | (with_reducible refine Kd.C_drew ?_))); (case side4 => exact (Kd.R_reads' HO301.out).2.1); rintro e w' ⟨rfl, ⟨nd, rfl⟩⟩; refine ⟨_, rfl, ?_⟩) | ((with_reducible refine qa4 (f := 17) rfl ?_); refine goesL_ (some 53) rfl rfl Try.func17 (by kernel_rfl) rfl #[.slice A1 l1.length c1] rfl (by (try simp only [List.map_toArray, List.map_cons, List.map_nil]); first | done | rfl | (simp only [List.length_drop, List.length_take]; rfl)) ?_; (with_reducible refine (laws_toLoanS.calls k _ _ l1 t303 _ ?side1 ?side2 A28.out).mono ?_); (case side1 => repeat (first | exact (Kd.C_below HR1.out (by repeat (first | (with_reducible first | exact HB.out | apply bwa | apply bwN | apply bw1 | refine bws ?_ GE271.out | refine bws ?_ GE297.out) | exact HB.out))) | (with_reducible refine Kd.C_alloc ?_ _) | (with_reducible refine Kd.C_drewN ?_ _) | (with_reducible refine Kd.C_drew ?_))); (case side2 => exact HC1.out); rintro e w95 ⟨v304, rfl, ho0, hb⟩; refine ⟨_, rfl, ?_⟩; have n0_ := Ad.mk (Kd.R_below (by (with_reducible repeat (first | apply Kd.R_alloc | apply Kd.R_drewN | apply Kd.R_drew)); exact HO276.out) hb); have n1_ := Ad.mk (Kd.S_elder' (by (with_reducible repeat (first | apply Kd.S_alloc | apply Kd.S_drewN | apply Kd.S_drew)); exact HO279.out) (Kd.S_base ho0) hb); have n2_ := Ad.mk (Kd.R_below (by (with_reducible repeat (first | apply Kd.R_alloc | apply Kd.R_drewN | apply Kd.R_drew)); exact HO284.out) hb); have n3_ := Ad.mk (Kd.R_below (by (with_reducible repeat (first | apply Kd.R_alloc | apply Kd.R_drewN | apply Kd.R_drew)); exact HO288.out) hb); have n4_ := Ad.mk (Kd.S_elder' (by (with_reducible repeat (first | apply Kd.S_alloc | apply Kd.S_drewN | apply Kd.S_drew)); exact HO291.out) (Kd.S_base ho0) hb); have n5_ := Ad.mk (Kd.R_below (by (with_reducible repeat (first | apply Kd.R_alloc | apply Kd.R_drewN | apply Kd.R_drew)); exact HO296.out) hb); have n6_ := Ad.mk (Kd.R_below (by (with_reducible repeat (first | apply Kd.R_alloc | apply Kd.R_drewN | apply Kd.R_drew)); exact HO301.out) hb); have n7_ := Ad.mk (Kd.S_lower (Kd.S_newB (Kd.S_new' (Kd.S_new' (Kd.S_new' (Kd.S_new' (Kd.S_new' (Kd.S_new' (Kd.S_new' ho0 (Kd.R_lt (by (with_reducible repeat (first | apply Kd.R_alloc | apply Kd.R_drewN | apply Kd.R_drew)); exact HO276.out))) (Kd.S_lt (by (with_reducible repeat (first | apply Kd.S_alloc | apply Kd.S_drewN | apply Kd.S_drew)); exact HO279.out))) (Kd.R_lt (by (with_reducible repeat (first | apply Kd.R_alloc | apply Kd.R_drewN | apply Kd.R_drew)); exact HO284.out))) (Kd.R_lt (by (with_reducible repeat (first | apply Kd.R_alloc | apply Kd.R_drewN | apply Kd.R_drew)); exact HO288.out))) (Kd.S_lt (by (with_reducible repeat (first | apply Kd.S_alloc | apply Kd.S_drewN | apply Kd.S_drew)); exact HO291.out))) (Kd.R_lt (by (with_reducible repeat (first | apply Kd.R_alloc | apply Kd.R_drewN | apply Kd.R_drew)); exact HO296.out))) (Kd.R_lt (by (with_reducible repeat (first | apply Kd.R_alloc | apply Kd.R_drewN | apply Kd.R_drew)); exact HO301.out))) (g := gb297) (o := .cells #[.int .i64 t292, .int .i64 t293, .slice Ao87 t294.length co87] 42 (0, 0)) (by (with_reducible repeat (first | refine bkN ?_ _ | refine bkd ?_ | refine bka ?_ _)); exact BK297.out)) (qa0 (by repeat (first | (with_reducible first | exact HB.out | apply bwa | apply bwN | apply bw1 | refine bws ?_ GE271.out | refine bws ?_ GE297.out) | exact HB.out)))); have n8_ := Ad.mk (qa3 (g := gb271) (o := .cells #[.int .i64 a2_0, .int .i64 a2_1, .slice A2_2 l2_2.length c2_2] 47 (0, 0)) (by (with_reducible repeat (first | refine bkN ?_ _ | refine bkd ?_ | refine bka ?_ _)); exact BK271.out) hb); have n9_ := Ad.mk (qa3 (g := gb297) (o := .cells #[.int .i64 t292, .int .i64 t293, .slice Ao87 t294.length co87] 42 (0, 0)) (by (with_reducible repeat (first | refine bkN ?_ _ | refine bkd ?_ | refine bka ?_ _)); exact BK297.out) hb); have n10_ := Ad.mk (qa2 (by repeat (first | (with_reducible first | exact HB.out | apply bwa | apply bwN | apply bw1 | refine bws ?_ GE271.out | refine bws ?_ GE297.out) | exact HB.out)) hb); clear HO276; clear HO279; clear HO284; clear HO288; clear HO291; clear HO296; clear HO301; clear BK271; clear BK297; clear HB; have HO276 := n0_; have HO279 := n1_; have HO284 := n2_; have HO288 := n3_; have HO291 := n4_; have HO296 := n5_; have HO301 := n6_; have HO305 := n7_; have BK271 := n8_; have BK297 := n9_; have HB := n10_; clear n0_ n1_ n2_ n3_ n4_ n5_ n6_ n7_ n8_ n9_ n10_; (try clear hb); (try clear hb2); (try clear hk); (try clear hi); (try clear ho0); obtain ⟨Ao96, co96, eo96⟩ := Kd.S_slice HO305.out; subst eo96) | ((with_reducible refine qa4 (f := 19) rfl ?_); refine goesL_ (some 54) rfl rfl Try.func19 (by kernel_rfl) rfl #[.slice Ao91 t289.length co91, .slice Ao96 t303.length co96] rfl (by (try simp only [List.map_toArray, List.map_cons, List.map_nil]); first | done | rfl | (simp only [List.length_drop, List.length_take]; rfl)) ?_; (with_reducible refine (laws_eqLoanS.calls k _ _ t289 _ _ t303 true _ ?side1 ?side2 ?side3 ?side4 A29.out).mono ?_); (case side1 => repeat (first | exact (Kd.S_reads' HO291.out).2.2 | (with_reducible refine Kd.C_alloc ?_ _) | (with_reducible refine Kd.C_drewN ?_ _) | (with_reducible refine Kd.C_drew ?_))); (case side2 => exact (Kd.S_reads' HO291.out).2.1); (case side3 => repeat (first | exact (Kd.S_reads' HO305.out).2.2 | (with_reducible refine Kd.C_alloc ?_ _) | (with_reducible refine Kd.C_drewN ?_ _) | (with_reducible refine Kd.C_drew ?_))); (case side4 => exact (Kd.S_reads' HO305.out).2.1); rintro e w97 ⟨rfl, hb⟩; refine ⟨_, rfl, ?_⟩; have n0_ := Ad.mk (Kd.R_below (by (with_reducible repeat (first | apply Kd.R_alloc | apply Kd.R_drewN | apply Kd.R_drew)); exact HO276.out) hb); have n1_ := Ad.mk (Kd.S_below (by (with_reducible repeat (first | apply Kd.S_alloc | apply Kd.S_drewN | apply Kd.S_drew)); exact HO279.out) hb); have n2_ := Ad.mk (Kd.R_below (by (with_reducible repeat (first | apply Kd.R_alloc | apply Kd.R_drewN | apply Kd.R_drew)); exact HO284.out) hb); have n3_ := Ad.mk (Kd.R_below (by (with_reducible repeat (first | apply Kd.R_alloc | apply Kd.R_drewN | apply Kd.R_drew)); exact HO288.out) hb); have n4_ := Ad.mk (Kd.S_below (by (with_reducible repeat (first | apply Kd.S_alloc | apply Kd.S_drewN | apply Kd.S_drew)); exact HO291.out) hb); have n5_ := Ad.mk (Kd.R_below (by (with_reducible repeat (first | apply Kd.R_alloc | apply Kd.R_drewN | apply Kd.R_drew)); exact HO296.out) hb); have n6_ := Ad.mk (Kd.R_below (by (with_reducible repeat (first | apply Kd.R_alloc | apply Kd.R_drewN | apply Kd.R_drew)); exact HO301.out) hb); have n7_ := Ad.mk (Kd.S_below (by (with_reducible repeat (first | apply Kd.S_alloc | apply Kd.S_drewN | apply Kd.S_drew)); exact HO305.out) hb); have n8_ := Ad.mk (qa3 (g := gb271) (o := .cells #[.int .i64 a2_0, .int .i64 a2_1, .slice A2_2 l2_2.length c2_2] 47 (0, 0)) (by (with_reducible repeat (first | refine bkN ?_ _ | refine bkd ?_ | refine bka ?_ _)); exact BK271.out) hb); have n9_ := Ad.mk (qa3 (g := gb297) (o := .cells #[.int .i64 t292, .int .i64 t293, .slice Ao87 t294.length co87] 42 (0, 0)) (by (with_reducible repeat (first | refine bkN ?_ _ | refine bkd ?_ | refine bka ?_ _)); exact BK297.out) hb); have n10_ := Ad.mk (qa2 (by repeat (first | (with_reducible first | exact HB.out | apply bwa | apply bwN | apply bw1 | refine bws ?_ GE271.out | refine bws ?_ GE297.out) | exact HB.out)) hb); clear HO276; clear HO279; clear HO284; clear HO288; clear HO291; clear HO296; clear HO301; clear HO305; clear BK271; clear BK297; clear HB; have HO276 := n0_; have HO279 := n1_; have HO284 := n2_; have HO288 := n3_; have HO291 := n4_; have HO296 := n5_; have HO301 := n6_; have HO305 := n7_; have BK271 := n8_; have BK297 := n9_; have HB := n10_; clear n0_ n1_ n2_ n3_ n4_ n5_ n6_ n7_ n8_ n9_ n10_; (try clear hb); (try clear hb2); (try clear hk); (try clear hi)))
        have n0_ := Ad.mk (Kd.R_drew HO276.out)
        have n1_ := Ad.mk (Kd.S_drew HO279.out)
        have n2_ := Ad.mk (Kd.R_drew HO284.out)
        have n3_ := Ad.mk (Kd.R_drew HO288.out)
        have n4_ := Ad.mk (Kd.S_drew HO291.out)
        have n5_ := Ad.mk (Kd.R_drew HO296.out)
        have n6_ := Ad.mk (Kd.R_drew HO301.out)
        have n7_ := Ad.mk (Kd.S_drew HO305.out)
        have n8_ := Ad.mk (bkd BK271.out)
        have n9_ := Ad.mk (bkd BK297.out)
        have n10_ := Ad.mk (bw1 HB.out)
        clear HO276
        clear HO279
        clear HO284
        clear HO288
        clear HO291
        clear HO296
        clear HO301
        clear HO305
        clear BK271
        clear BK297
        clear HB
        have HO276 := n0_
        have HO279 := n1_
        have HO284 := n2_
        have HO288 := n3_
        have HO291 := n4_
        have HO296 := n5_
        have HO301 := n6_
        have HO305 := n7_
        have BK271 := n8_
        have BK297 := n9_
        have HB := n10_
        clear n0_ n1_ n2_ n3_ n4_ n5_ n6_ n7_ n8_ n9_ n10_
        refine start_ (n := 5) (S := fun w' => w'.cell? ⟨gb297, 0, none⟩ = some (.int .i64 t292) ∧ w'.cell? ⟨gb297, 1, none⟩ = some (.int .i64 t293) ∧ w'.cell? ⟨gb297, 2, none⟩ = some (.slice Ao87 t294.length co87) ∧ w'.cell? ⟨gb271, 0, none⟩ = some (.int .i64 a2_0) ∧ w'.cell? ⟨gb271, 1, none⟩ = some (.int .i64 a2_1) ∧ w'.cell? ⟨gb271, 2, none⟩ = some (.slice A2_2 l2_2.length c2_2)) (ds := []) #[false, false, false, false, false] (by kernel_rfl) rfl rfl ⟨(bkc BK297.out 0).trans rfl, (bkc BK297.out 1).trans rfl, (bkc BK297.out 2).trans rfl, (bkc BK271.out 0).trans rfl, (bkc BK271.out 1).trans rfl, (bkc BK271.out 2).trans rfl⟩ (fun hHeld => ?_)
        generalize w97.drew = w98 at HO276 HO279 HO284 HO288 HO291 HO296 HO301 HO305 BK271 BK297 HB hHeld ⊢
        refine take_ (i := 0) (N := some 56) (v := ?_) (a' := ?_) #[true, false, false, false, false] rfl rfl (by kernel_rfl) (fun _ _ _ h => h) (Or.inl ⟨by rfl, ?_⟩) hHeld ?_ ?_
        rotate_left
        ·rintro w' ⟨s0, s1, s2, s3, s4, s5⟩
         go_simp
         with_reducible rfl
        rotate_left
        ·simp only [Act.put, List.setIfInBounds_toArray, List.set_cons_zero, List.set_cons_succ, qa5, qa6]
         rfl
        refine take_ (i := 1) (N := some 57) (v := ?_) (a' := ?_) #[true, true, false, false, false] rfl rfl (by kernel_rfl) (fun _ _ _ h => h) (Or.inl ⟨by rfl, ?_⟩) hHeld ?_ ?_
        rotate_left
        ·rintro w' ⟨s0, s1, s2, s3, s4, s5⟩
         go_simp
         with_reducible rfl
        rotate_left
        ·simp only [Act.put, List.setIfInBounds_toArray, List.set_cons_zero, List.set_cons_succ, qa5, qa6]
         rfl
        refine one_ (i := 2) (N := some 58) #[true, true, true, false, false] rfl rfl (by kernel_rfl) (by decide) (fun K hK => ?_)
        refine goes_ Try.func28 (by kernel_rfl) rfl #[.agg #[.int .i64 a2_0, .int .i64 a2_1, .slice A2_2 l2_2.length c2_2]] (by rfl) rfl rfl (by (try simp only [List.map_toArray, List.map_cons, List.map_nil]); first | done | rfl | (simp only [List.length_drop, List.length_take]; rfl)) ?_
        with_reducible refine (laws_toLoan.calls k a2_0 a2_1 _ _ l2_2 t307 t308 t309 _ ?side1 ?side2 A31.out).mono ?_
        (case side1 => repeat (first | exact (Kd.C_below HR2_2.out HB.out) | (with_reducible refine Kd.C_alloc ?_ _) | (with_reducible refine Kd.C_drewN ?_ _) | (with_reducible refine Kd.C_drew ?_)))
        (case side2 => exact HC2_2.out)
        rintro e w99 ⟨v310, rfl, ho0, hb⟩
        refine ⟨_, rfl, ?_⟩
        have n0_ := Ad.mk (Kd.R_elder' (by (with_reducible repeat (first | apply Kd.R_alloc | apply Kd.R_drewN | apply Kd.R_drew)); exact HO276.out) (Kd.R_base ho0) hb)
        have n1_ := Ad.mk (Kd.S_elder' (by (with_reducible repeat (first | apply Kd.S_alloc | apply Kd.S_drewN | apply Kd.S_drew)); exact HO279.out) (Kd.R_base ho0) hb)
        have n2_ := Ad.mk (Kd.R_elder' (by (with_reducible repeat (first | apply Kd.R_alloc | apply Kd.R_drewN | apply Kd.R_drew)); exact HO284.out) (Kd.R_base ho0) hb)
        have n3_ := Ad.mk (Kd.R_elder' (by (with_reducible repeat (first | apply Kd.R_alloc | apply Kd.R_drewN | apply Kd.R_drew)); exact HO288.out) (Kd.R_base ho0) hb)
        have n4_ := Ad.mk (Kd.S_elder' (by (with_reducible repeat (first | apply Kd.S_alloc | apply Kd.S_drewN | apply Kd.S_drew)); exact HO291.out) (Kd.R_base ho0) hb)
        have n5_ := Ad.mk (Kd.R_elder' (by (with_reducible repeat (first | apply Kd.R_alloc | apply Kd.R_drewN | apply Kd.R_drew)); exact HO296.out) (Kd.R_base ho0) hb)
        have n6_ := Ad.mk (Kd.R_elder' (by (with_reducible repeat (first | apply Kd.R_alloc | apply Kd.R_drewN | apply Kd.R_drew)); exact HO301.out) (Kd.R_base ho0) hb)
        have n7_ := Ad.mk (Kd.S_elder' (by (with_reducible repeat (first | apply Kd.S_alloc | apply Kd.S_drewN | apply Kd.S_drew)); exact HO305.out) (Kd.R_base ho0) hb)
        have n8_ := Ad.mk (Kd.R_lower (Kd.R_new' (Kd.R_new' (Kd.R_new' (Kd.R_new' (Kd.R_new' ho0 (Kd.R_lt (by (with_reducible repeat (first | apply Kd.R_alloc | apply Kd.R_drewN | apply Kd.R_drew)); exact HO276.out))) (Kd.R_lt (by (with_reducible repeat (first | apply Kd.R_alloc | apply Kd.R_drewN | apply Kd.R_drew)); exact HO284.out))) (Kd.R_lt (by (with_reducible repeat (first | apply Kd.R_alloc | apply Kd.R_drewN | apply Kd.R_drew)); exact HO288.out))) (Kd.R_lt (by (with_reducible repeat (first | apply Kd.R_alloc | apply Kd.R_drewN | apply Kd.R_drew)); exact HO296.out))) (Kd.R_lt (by (with_reducible repeat (first | apply Kd.R_alloc | apply Kd.R_drewN | apply Kd.R_drew)); exact HO301.out))) (qa0 (by repeat (first | (with_reducible first | exact HB.out | apply bwa | apply bwN | apply bw1 | refine bws ?_ GE271.out | refine bws ?_ GE297.out) | exact HB.out))))
        have n9_ := Ad.mk (qa3 (g := gb271) (o := .cells #[.int .i64 a2_0, .int .i64 a2_1, .slice A2_2 l2_2.length c2_2] 47 (0, 0)) (by (with_reducible repeat (first | refine bkN ?_ _ | refine bkd ?_ | refine bka ?_ _)); exact BK271.out) hb)
        have n10_ := Ad.mk (qa3 (g := gb297) (o := .cells #[.int .i64 t292, .int .i64 t293, .slice Ao87 t294.length co87] 42 (0, 0)) (by (with_reducible repeat (first | refine bkN ?_ _ | refine bkd ?_ | refine bka ?_ _)); exact BK297.out) hb)
        have n11_ := Ad.mk (qa2 (by repeat (first | (with_reducible first | exact HB.out | apply bwa | apply bwN | apply bw1 | refine bws ?_ GE271.out | refine bws ?_ GE297.out) | exact HB.out)) hb)
        clear HO276
        clear HO279
        clear HO284
        clear HO288
        clear HO291
        clear HO296
        clear HO301
        clear HO305
        clear BK271
        clear BK297
        clear HB
        have HO276 := n0_
        have HO279 := n1_
        have HO284 := n2_
        have HO288 := n3_
        have HO291 := n4_
        have HO296 := n5_
        have HO301 := n6_
        have HO305 := n7_
        have HO311 := n8_
        have BK271 := n9_
        have BK297 := n10_
        have HB := n11_
        clear n0_ n1_ n2_ n3_ n4_ n5_ n6_ n7_ n8_ n9_ n10_ n11_
        (try clear hb)
        (try clear hb2)
        (try clear hk)
        (try clear hi)
        (try clear ho0)
        obtain ⟨Ao100, co100, eo100⟩ := Kd.R_slice HO311.out
        (first | subst eo100 | (injection eo100 with f1_ f2_ f3_; have f4_ := f1_.symm; have f5_ := f3_.symm; clear f1_ f2_ f3_; subst f4_; subst f5_))
        refine hK.out _ _ ⟨(bkc BK297.out 0).trans rfl, (bkc BK297.out 1).trans rfl, (bkc BK297.out 2).trans rfl, (bkc BK271.out 0).trans rfl, (bkc BK271.out 1).trans rfl, (bkc BK271.out 2).trans rfl⟩ (fun hHeld => ?_)
        clear hK K
        refine norm_ (a' := ?_) ?_ ?_
        rotate_left
        ·show Act.put _ (some 58) _ = _
         simp only [Act.put, List.setIfInBounds_toArray, List.set_cons_zero, List.set_cons_succ, qa5, qa6]
         rfl
        refine one_ (i := 3) (N := some 59) #[true, true, true, true, false] rfl rfl (by kernel_rfl) (by decide) (fun K hK => ?_)
        refine goes_ Try.func30 (by kernel_rfl) rfl #[.agg #[.int .i64 t292, .int .i64 t293, .slice Ao87 t294.length co87], .agg #[.int .i64 t307, .int .i64 t308, .slice Ao100 t309.length co100]] (by rfl) rfl rfl (by (try simp only [List.map_toArray, List.map_cons, List.map_nil]); first | done | rfl | (simp only [List.length_drop, List.length_take]; rfl)) ?_
        with_reducible refine (laws_eqLoan.calls k t292 t293 _ _ t294 t307 t308 _ _ t309 false _ ?side1 ?side2 ?side3 ?side4 A32.out).mono ?_
        (case side1 => repeat (first | exact (Kd.R_reads' HO296.out).2.2 | (with_reducible refine Kd.C_alloc ?_ _) | (with_reducible refine Kd.C_drewN ?_ _) | (with_reducible refine Kd.C_drew ?_)))
        (case side2 => exact (Kd.R_reads' HO296.out).2.1)
        (case side3 => repeat (first | exact (Kd.R_reads' HO311.out).2.2 | (with_reducible refine Kd.C_alloc ?_ _) | (with_reducible refine Kd.C_drewN ?_ _) | (with_reducible refine Kd.C_drew ?_)))
        (case side4 => exact (Kd.R_reads' HO311.out).2.1)
        rintro e w101 ⟨rfl, hb⟩
        refine ⟨_, rfl, ?_⟩
        have n0_ := Ad.mk (Kd.R_below (by (with_reducible repeat (first | apply Kd.R_alloc | apply Kd.R_drewN | apply Kd.R_drew)); exact HO276.out) hb)
        have n1_ := Ad.mk (Kd.S_below (by (with_reducible repeat (first | apply Kd.S_alloc | apply Kd.S_drewN | apply Kd.S_drew)); exact HO279.out) hb)
        have n2_ := Ad.mk (Kd.R_below (by (with_reducible repeat (first | apply Kd.R_alloc | apply Kd.R_drewN | apply Kd.R_drew)); exact HO284.out) hb)
        have n3_ := Ad.mk (Kd.R_below (by (with_reducible repeat (first | apply Kd.R_alloc | apply Kd.R_drewN | apply Kd.R_drew)); exact HO288.out) hb)
        have n4_ := Ad.mk (Kd.S_below (by (with_reducible repeat (first | apply Kd.S_alloc | apply Kd.S_drewN | apply Kd.S_drew)); exact HO291.out) hb)
        have n5_ := Ad.mk (Kd.R_below (by (with_reducible repeat (first | apply Kd.R_alloc | apply Kd.R_drewN | apply Kd.R_drew)); exact HO296.out) hb)
        have n6_ := Ad.mk (Kd.R_below (by (with_reducible repeat (first | apply Kd.R_alloc | apply Kd.R_drewN | apply Kd.R_drew)); exact HO301.out) hb)
        have n7_ := Ad.mk (Kd.S_below (by (with_reducible repeat (first | apply Kd.S_alloc | apply Kd.S_drewN | apply Kd.S_drew)); exact HO305.out) hb)
        have n8_ := Ad.mk (Kd.R_below (by (with_reducible repeat (first | apply Kd.R_alloc | apply Kd.R_drewN | apply Kd.R_drew)); exact HO311.out) hb)
        have n9_ := Ad.mk (qa3 (g := gb271) (o := .cells #[.int .i64 a2_0, .int .i64 a2_1, .slice A2_2 l2_2.length c2_2] 47 (0, 0)) (by (with_reducible repeat (first | refine bkN ?_ _ | refine bkd ?_ | refine bka ?_ _)); exact BK271.out) hb)
        have n10_ := Ad.mk (qa3 (g := gb297) (o := .cells #[.int .i64 t292, .int .i64 t293, .slice Ao87 t294.length co87] 42 (0, 0)) (by (with_reducible repeat (first | refine bkN ?_ _ | refine bkd ?_ | refine bka ?_ _)); exact BK297.out) hb)
        have n11_ := Ad.mk (qa2 (by repeat (first | (with_reducible first | exact HB.out | apply bwa | apply bwN | apply bw1 | refine bws ?_ GE271.out | refine bws ?_ GE297.out) | exact HB.out)) hb)
        clear HO276
        clear HO279
        clear HO284
        clear HO288
        clear HO291
        clear HO296
        clear HO301
        clear HO305
        clear HO311
        clear BK271
        clear BK297
        clear HB
        have HO276 := n0_
        have HO279 := n1_
        have HO284 := n2_
        have HO288 := n3_
        have HO291 := n4_
        have HO296 := n5_
        have HO301 := n6_
        have HO305 := n7_
        have HO311 := n8_
        have BK271 := n9_
        have BK297 := n10_
        have HB := n11_
        clear n0_ n1_ n2_ n3_ n4_ n5_ n6_ n7_ n8_ n9_ n10_ n11_
        (try clear hb)
        (try clear hb2)
        (try clear hk)
        (try clear hi)
        refine hK.out _ _ ⟨(bkc BK297.out 0).trans rfl, (bkc BK297.out 1).trans rfl, (bkc BK297.out 2).trans rfl, (bkc BK271.out 0).trans rfl, (bkc BK271.out 1).trans rfl, (bkc BK271.out 2).trans rfl⟩ (fun hHeld => ?_)
        clear hK K
        refine norm_ (a' := ?_) ?_ ?_
        rotate_left
        ·show Act.put _ (some 59) _ = _
         simp only [Act.put, List.setIfInBounds_toArray, List.set_cons_zero, List.set_cons_succ, qa5, qa6]
         rfl
        refine pure_ (i := 4) (N := some 60) (v := ?_) (a' := ?_) #[true, true, true, true, true] rfl rfl (by kernel_rfl) (fun _ _ _ h => h) (Or.inl ⟨by rfl, ?_⟩) ?_ ?_
        rotate_left
        ·intro w'
         go_simp
         with_reducible rfl
        rotate_left
        ·simp only [Act.put, List.setIfInBounds_toArray, List.set_cons_zero, List.set_cons_succ, qa5, qa6]
         rfl
        refine done_ (by kernel_rfl) ?_
        try go_wp2
        go_ret
        exact ⟨by first | rfl | (simp [errW_none, errW_some] <;> rfl) | (simp [*, errW_none, errW_some] <;> rfl), by repeat (first | (with_reducible first | exact HB.out | apply bwa | apply bwN | apply bw1 | refine bws ?_ GE271.out | refine bws ?_ GE297.out) | exact HB.out)⟩
      ·replace c30 := Bool.eq_false_iff.mpr c30
       subst c30
       have H1 : (some false) = some r := by rw [if_neg (show ¬ (false = true) by decide)] at H; exact H
       clear H
       have H := H1
       clear H1
       obtain rfl := Option.some.inj H
       go_enter Try.func6, Try.ntmps6
       try go_wp2_with (first | ((with_reducible refine gate_dst (N := 5) rfl ?_); refine box_event ?hg (N := 5) ?hd (cs := #[.int .i64 a2_0, .int .i64 a2_1, .slice A2_2 l2_2.length c2_2]) (t := 47) ?hr ?_; (case hd => rfl); (case hg => rfl); (case hr => first | (go_simp; done) | (go_simp; rfl)); intro gb271 hg w102 hbox hb; have n0_ := Ad.mk (qa2 (by repeat (first | (with_reducible first | exact HB.out | apply bwa | apply bwN | apply bw1) | exact HB.out)) hb); have n1_ := Ad.mk (hbox); have n2_ := Ad.mk ((by rw [hg]; exact (qa0 (by repeat (first | (with_reducible first | exact HB.out | apply bwa | apply bwN | apply bw1) | exact HB.out))) : w.heap.size ≤ gb271)); have n3_ := Ad.mk ((by rw [hg]; exact (qa0 (by repeat (first | (with_reducible first | exact HB.out | apply bwa | apply bwN | apply bw1) | exact HB.out))) : w.heap.size ≤ gb271)); clear HB; have HB := n0_; have BK271 := n1_; have GW271 := n2_; have GE271 := n3_; clear n0_ n1_ n2_ n3_; clear hb hbox hg) | ((with_reducible refine qa4 (f := 15) rfl ?_); refine goesL_ (some 18) rfl rfl Try.func15 (by kernel_rfl) rfl #[.slice A1 l1.length c1, .int .i64 1048576] rfl (by (try simp only [List.map_toArray, List.map_cons, List.map_nil]); first | done | rfl | (simp only [List.length_drop, List.length_take]; rfl)) ?_; (with_reducible refine (laws_szLoanS.calls k _ _ l1 1048576 t272 _ ?side1 ?side2 A6.out).mono ?_); (case side1 => repeat (first | exact (Kd.C_below HR1.out HB.out) | (with_reducible refine Kd.C_alloc ?_ _) | (with_reducible refine Kd.C_drewN ?_ _) | (with_reducible refine Kd.C_drew ?_))); (case side2 => exact HC1.out); rintro e w103 ⟨rfl, hb⟩; refine ⟨_, rfl, ?_⟩; have n0_ := Ad.mk (qa3 (g := gb271) (o := .cells #[.int .i64 a2_0, .int .i64 a2_1, .slice A2_2 l2_2.length c2_2] 47 (0, 0)) (by (with_reducible repeat (first | refine bkN ?_ _ | refine bkd ?_ | refine bka ?_ _)); exact BK271.out) hb); have n1_ := Ad.mk (qa2 (by repeat (first | (with_reducible first | exact HB.out | apply bwa | apply bwN | apply bw1 | refine bws ?_ GE271.out) | exact HB.out)) hb); clear BK271; clear HB; have BK271 := n0_; have HB := n1_; clear n0_ n1_; (try clear hb); (try clear hb2); (try clear hk); (try clear hi); have hcz104_0 : w103.cell? ⟨gb271, 0, none⟩ = some (.int .i64 a2_0) := (bkc BK271.out 0).trans rfl; have hcz104_1 : w103.cell? ⟨gb271, 1, none⟩ = some (.int .i64 a2_1) := (bkc BK271.out 1).trans rfl; have hcz104_2 : w103.cell? ⟨gb271, 2, none⟩ = some (.slice A2_2 l2_2.length c2_2) := (bkc BK271.out 2).trans rfl; have hfz104_0 := qa1 BK271.out 0; have hfz104_1 := qa1 BK271.out 1; have hfz104_2 := qa1 BK271.out 2) | ((with_reducible refine qa4 (f := 26) rfl ?_); refine goesL_ (some 23) rfl rfl Try.func26 (by kernel_rfl) rfl #[.agg #[.int .i64 a2_0, .int .i64 a2_1, .slice A2_2 l2_2.length c2_2], .int .i64 t272] rfl (by (try simp only [List.map_toArray, List.map_cons, List.map_nil]); first | done | rfl | (simp only [List.length_drop, List.length_take]; rfl)) ?_; (with_reducible refine (laws_szLoan.calls a2_0 a2_1 _ _ l2_2 t272 t273 _ ?side1 ?side2 A10.out).mono ?_); (case side1 => repeat (first | exact (Kd.C_below HR2_2.out HB.out) | (with_reducible refine Kd.C_alloc ?_ _) | (with_reducible refine Kd.C_drewN ?_ _) | (with_reducible refine Kd.C_drew ?_))); (case side2 => exact HC2_2.out); rintro e w105 ⟨rfl, hb⟩; refine ⟨_, rfl, ?_⟩; have n0_ := Ad.mk (qa3 (g := gb271) (o := .cells #[.int .i64 a2_0, .int .i64 a2_1, .slice A2_2 l2_2.length c2_2] 47 (0, 0)) (by (with_reducible repeat (first | refine bkN ?_ _ | refine bkd ?_ | refine bka ?_ _)); exact BK271.out) hb); have n1_ := Ad.mk (qa2 (by repeat (first | (with_reducible first | exact HB.out | apply bwa | apply bwN | apply bw1 | refine bws ?_ GE271.out) | exact HB.out)) hb); clear BK271; clear HB; have BK271 := n0_; have HB := n1_; clear n0_ n1_; (try clear hb); (try clear hb2); (try clear hk); (try clear hi)))
       have n0_ := Ad.mk (bkd BK271.out)
       have n1_ := Ad.mk (bw1 HB.out)
       clear BK271
       clear HB
       have BK271 := n0_
       have HB := n1_
       clear n0_ n1_
       refine start_ (n := 8) (S := fun w' => w'.cell? ⟨gb271, 0, none⟩ = some (.int .i64 a2_0) ∧ w'.cell? ⟨gb271, 1, none⟩ = some (.int .i64 a2_1) ∧ w'.cell? ⟨gb271, 2, none⟩ = some (.slice A2_2 l2_2.length c2_2)) (ds := []) #[false, false, false, false, false, false, false, false] (by kernel_rfl) rfl rfl ⟨(bkc BK271.out 0).trans rfl, (bkc BK271.out 1).trans rfl, (bkc BK271.out 2).trans rfl⟩ (fun hHeld => ?_); refine with_tabW laws_FnExactMostLoan.tab10 laws_FnExactMostLoan.bits10 (fun HT_ HW_ => ?_)
       generalize w105.drew = w106 at BK271 HB hHeld ⊢
       refine pure_ (i := 0) (N := some 26) (v := ?_) (a' := ?_) #[true, false, false, false, false, false, false, false] rfl rfl (any_of HT_.out (by kernel_rfl)) (fun _ _ _ h => h) (Or.inl ⟨by rfl, ?_⟩) ?_ ?_
       rotate_left
       ·intro w'
        go_simp
        with_reducible rfl
       rotate_left
       ·simp only [Act.put, List.setIfInBounds_toArray, List.set_cons_zero, List.set_cons_succ, qa5, qa6]
        rfl
       refine pure_ (i := 2) (N := some 28) (v := ?_) (a' := ?_) #[true, false, true, false, false, false, false, false] rfl rfl (any_of HT_.out (by kernel_rfl)) (fun _ _ _ h => h) (Or.inl ⟨by rfl, ?_⟩) ?_ ?_
       rotate_left
       ·intro w'
        go_simp
        with_reducible rfl
       rotate_left
       ·simp only [Act.put, List.setIfInBounds_toArray, List.set_cons_zero, List.set_cons_succ, qa5, qa6]
        rfl
       refine take_ (i := 4) (N := some 30) (v := ?_) (a' := ?_) #[true, false, true, false, true, false, false, false] rfl rfl (take_ofW HT_.out HW_.out (by kernel_rfl)) (fun _ _ _ h => h) (Or.inl ⟨by rfl, ?_⟩) hHeld ?_ ?_
       rotate_left
       ·rintro w' ⟨s0, s1, s2⟩
        go_simp
        with_reducible rfl
       rotate_left
       ·simp only [Act.put, List.setIfInBounds_toArray, List.set_cons_zero, List.set_cons_succ, qa5, qa6]
        rfl
       refine one_ (i := 1) (N := some 27) #[true, true, true, false, true, false, false, false] rfl rfl (one_of HT_.out (by kernel_rfl)) (by decide) (fun K hK => ?_)
       refine goes_ Try.func27 (by kernel_rfl) rfl #[.slice A0 l0.length c0] (by rfl) rfl rfl (by (try simp only [List.map_toArray, List.map_cons, List.map_nil]); first | done | rfl | (simp only [List.length_drop, List.length_take]; rfl)) ?_
       with_reducible refine (laws_toIntS.calls k _ _ l0 t274 _ ?side1 ?side2 A16.out).mono ?_
       (case side1 => repeat (first | exact (Kd.C_below HR0.out HB.out) | (with_reducible refine Kd.C_alloc ?_ _) | (with_reducible refine Kd.C_drewN ?_ _) | (with_reducible refine Kd.C_drew ?_)))
       (case side2 => exact HC0.out)
       rintro e w107 ⟨v275, rfl, ho0, hb⟩
       refine ⟨_, rfl, ?_⟩
       have n0_ := Ad.mk (Kd.R_lower ho0 (qa0 (by repeat (first | (with_reducible first | exact HB.out | apply bwa | apply bwN | apply bw1 | refine bws ?_ GE271.out) | exact HB.out))))
       have n1_ := Ad.mk (qa3 (g := gb271) (o := .cells #[.int .i64 a2_0, .int .i64 a2_1, .slice A2_2 l2_2.length c2_2] 47 (0, 0)) (by (with_reducible repeat (first | refine bkN ?_ _ | refine bkd ?_ | refine bka ?_ _)); exact BK271.out) hb)
       have n2_ := Ad.mk (qa2 (by repeat (first | (with_reducible first | exact HB.out | apply bwa | apply bwN | apply bw1 | refine bws ?_ GE271.out) | exact HB.out)) hb)
       clear BK271
       clear HB
       have HO276 := n0_
       have BK271 := n1_
       have HB := n2_
       clear n0_ n1_ n2_
       (try clear hb)
       (try clear hb2)
       (try clear hk)
       (try clear hi)
       (try clear ho0)
       refine hK.out _ _ ⟨(bkc BK271.out 0).trans rfl, (bkc BK271.out 1).trans rfl, (bkc BK271.out 2).trans rfl⟩ (fun hHeld => ?_)
       clear hK K
       refine norm_ (a' := ?_) ?_ ?_
       rotate_left
       ·show Act.put _ (some 27) _ = _
        simp only [Act.put, List.setIfInBounds_toArray, List.set_cons_zero, List.set_cons_succ, qa5, qa6]
        rfl
       refine one_ (i := 3) (N := some 29) #[true, true, true, true, true, false, false, false] rfl rfl (one_of HT_.out (by kernel_rfl)) (by decide) (fun K hK => ?_)
       refine goes_ Try.func17 (by kernel_rfl) rfl #[.slice A1 l1.length c1] (by rfl) rfl rfl (by (try simp only [List.map_toArray, List.map_cons, List.map_nil]); first | done | rfl | (simp only [List.length_drop, List.length_take]; rfl)) ?_
       with_reducible refine (laws_toLoanS.calls k _ _ l1 t277 _ ?side1 ?side2 A17.out).mono ?_
       (case side1 => repeat (first | exact (Kd.C_below HR1.out HB.out) | (with_reducible refine Kd.C_alloc ?_ _) | (with_reducible refine Kd.C_drewN ?_ _) | (with_reducible refine Kd.C_drew ?_)))
       (case side2 => exact HC1.out)
       rintro e w108 ⟨v278, rfl, ho0, hb⟩
       refine ⟨_, rfl, ?_⟩
       have n0_ := Ad.mk (Kd.R_below (by (with_reducible repeat (first | apply Kd.R_alloc | apply Kd.R_drewN | apply Kd.R_drew)); exact HO276.out) hb)
       have n1_ := Ad.mk (Kd.S_lower (Kd.S_new' ho0 (Kd.R_lt (by (with_reducible repeat (first | apply Kd.R_alloc | apply Kd.R_drewN | apply Kd.R_drew)); exact HO276.out))) (qa0 (by repeat (first | (with_reducible first | exact HB.out | apply bwa | apply bwN | apply bw1 | refine bws ?_ GE271.out) | exact HB.out))))
       have n2_ := Ad.mk (qa3 (g := gb271) (o := .cells #[.int .i64 a2_0, .int .i64 a2_1, .slice A2_2 l2_2.length c2_2] 47 (0, 0)) (by (with_reducible repeat (first | refine bkN ?_ _ | refine bkd ?_ | refine bka ?_ _)); exact BK271.out) hb)
       have n3_ := Ad.mk (qa2 (by repeat (first | (with_reducible first | exact HB.out | apply bwa | apply bwN | apply bw1 | refine bws ?_ GE271.out) | exact HB.out)) hb)
       clear HO276
       clear BK271
       clear HB
       have HO276 := n0_
       have HO279 := n1_
       have BK271 := n2_
       have HB := n3_
       clear n0_ n1_ n2_ n3_
       (try clear hb)
       (try clear hb2)
       (try clear hk)
       (try clear hi)
       (try clear ho0)
       refine hK.out _ _ ⟨(bkc BK271.out 0).trans rfl, (bkc BK271.out 1).trans rfl, (bkc BK271.out 2).trans rfl⟩ (fun hHeld => ?_)
       clear hK K
       refine norm_ (a' := ?_) ?_ ?_
       rotate_left
       ·show Act.put _ (some 29) _ = _
        simp only [Act.put, List.setIfInBounds_toArray, List.set_cons_zero, List.set_cons_succ, qa5, qa6]
        rfl
       refine one_ (i := 5) (N := some 31) #[true, true, true, true, true, true, false, false] rfl rfl (one_of HT_.out (by kernel_rfl)) (by decide) (fun K hK => ?_)
       refine goes_ Try.func28 (by kernel_rfl) rfl #[.agg #[.int .i64 a2_0, .int .i64 a2_1, .slice A2_2 l2_2.length c2_2]] (by rfl) rfl rfl (by (try simp only [List.map_toArray, List.map_cons, List.map_nil]); first | done | rfl | (simp only [List.length_drop, List.length_take]; rfl)) ?_
       with_reducible refine (laws_toLoan.calls k a2_0 a2_1 _ _ l2_2 t280 t281 t282 _ ?side1 ?side2 A18.out).mono ?_
       (case side1 => repeat (first | exact (Kd.C_below HR2_2.out HB.out) | (with_reducible refine Kd.C_alloc ?_ _) | (with_reducible refine Kd.C_drewN ?_ _) | (with_reducible refine Kd.C_drew ?_)))
       (case side2 => exact HC2_2.out)
       rintro e w109 ⟨v283, rfl, ho0, hb⟩
       refine ⟨_, rfl, ?_⟩
       have n0_ := Ad.mk (Kd.R_elder' (by (with_reducible repeat (first | apply Kd.R_alloc | apply Kd.R_drewN | apply Kd.R_drew)); exact HO276.out) (Kd.R_base ho0) hb)
       have n1_ := Ad.mk (Kd.S_elder' (by (with_reducible repeat (first | apply Kd.S_alloc | apply Kd.S_drewN | apply Kd.S_drew)); exact HO279.out) (Kd.R_base ho0) hb)
       have n2_ := Ad.mk (Kd.R_lower (Kd.R_new' ho0 (Kd.R_lt (by (with_reducible repeat (first | apply Kd.R_alloc | apply Kd.R_drewN | apply Kd.R_drew)); exact HO276.out))) (qa0 (by repeat (first | (with_reducible first | exact HB.out | apply bwa | apply bwN | apply bw1 | refine bws ?_ GE271.out) | exact HB.out))))
       have n3_ := Ad.mk (qa3 (g := gb271) (o := .cells #[.int .i64 a2_0, .int .i64 a2_1, .slice A2_2 l2_2.length c2_2] 47 (0, 0)) (by (with_reducible repeat (first | refine bkN ?_ _ | refine bkd ?_ | refine bka ?_ _)); exact BK271.out) hb)
       have n4_ := Ad.mk (qa2 (by repeat (first | (with_reducible first | exact HB.out | apply bwa | apply bwN | apply bw1 | refine bws ?_ GE271.out) | exact HB.out)) hb)
       clear HO276
       clear HO279
       clear BK271
       clear HB
       have HO276 := n0_
       have HO279 := n1_
       have HO284 := n2_
       have BK271 := n3_
       have HB := n4_
       clear n0_ n1_ n2_ n3_ n4_
       (try clear hb)
       (try clear hb2)
       (try clear hk)
       (try clear hi)
       (try clear ho0)
       obtain ⟨Ao110, co110, eo110⟩ := Kd.R_slice HO276.out
       (first | subst eo110 | (injection eo110 with f1_ f2_ f3_; have f4_ := f1_.symm; have f5_ := f3_.symm; clear f1_ f2_ f3_; subst f4_; subst f5_))
       obtain ⟨Ao111, co111, eo111⟩ := Kd.S_slice HO279.out
       (first | subst eo111 | (injection eo111 with f1_ f2_ f3_; have f4_ := f1_.symm; have f5_ := f3_.symm; clear f1_ f2_ f3_; subst f4_; subst f5_))
       obtain ⟨Ao112, co112, eo112⟩ := Kd.R_slice HO284.out
       (first | subst eo112 | (injection eo112 with f1_ f2_ f3_; have f4_ := f1_.symm; have f5_ := f3_.symm; clear f1_ f2_ f3_; subst f4_; subst f5_))
       refine hK.out _ _ ⟨(bkc BK271.out 0).trans rfl, (bkc BK271.out 1).trans rfl, (bkc BK271.out 2).trans rfl⟩ (fun hHeld => ?_)
       clear hK K
       refine norm_ (a' := ?_) ?_ ?_
       rotate_left
       ·show Act.put _ (some 31) _ = _
        simp only [Act.put, List.setIfInBounds_toArray, List.set_cons_zero, List.set_cons_succ, qa5, qa6]
        rfl
       refine one_ (i := 6) (N := some 32) #[true, true, true, true, true, true, true, false] rfl rfl (one_of HT_.out (by kernel_rfl)) (by decide) (fun K hK => ?_)
       refine goes_ Try.func24 (by kernel_rfl) rfl #[.slice Ao110 t274.length co110, .slice Ao111 t277.length co111, .agg #[.int .i64 t280, .int .i64 t281, .slice Ao112 t282.length co112]] (by rfl) rfl rfl (by (try simp only [List.map_toArray, List.map_cons, List.map_nil]); first | done | rfl | (simp only [List.length_drop, List.length_take]; rfl)) ?_
       with_reducible refine (spec_MostLoan.calls k _ _ t274 (fun k_ => (((True ∧ some k_ ≠ (.slice Ao110 t274.length co110 : Value).ownBlock) ∧ some k_ ≠ (.slice Ao112 t282.length co112 : Value).ownBlock) ∧ k_ ≠ gb271)) _ _ t277 t280 t281 (fun k_ => some k_ = (.slice Ao112 t282.length co112 : Value).ownBlock) _ _ t282 t285 _ ?side1 ?side2 ?side3 ?side4 A19.out).mono ?_
       (case side1 => repeat (first | exact (Kd.R_reads' HO276.out).2.2 | (with_reducible refine Kd.C_alloc ?_ _) | (with_reducible refine Kd.C_drewN ?_ _) | (with_reducible refine Kd.C_drew ?_)))
       (case side2 => exact (Kd.R_reads' HO276.out).2.1)
       (case side3 => exact Kd.S_V (Kd.S_types (HO279.out) BK271.out (by decide)))
       (case side4 => exact Kd.R_V (Kd.R_tight rfl (Kd.R_types (Kd.R_apart' (HO284.out) (Kd.S_typed HO279.out) (by decide)) BK271.out (by decide))))
       rintro e w113 ⟨rfl, hb⟩
       refine ⟨_, rfl, ?_⟩
       have n0_ := Ad.mk (Kd.R_below (by (with_reducible repeat (first | apply Kd.R_alloc | apply Kd.R_drewN | apply Kd.R_drew)); exact HO276.out) hb)
       have n1_ := Ad.mk (Kd.S_below (by (with_reducible repeat (first | apply Kd.S_alloc | apply Kd.S_drewN | apply Kd.S_drew)); exact HO279.out) hb)
       have n2_ := Ad.mk (Kd.R_below (by (with_reducible repeat (first | apply Kd.R_alloc | apply Kd.R_drewN | apply Kd.R_drew)); exact HO284.out) hb)
       have n3_ := Ad.mk (qa3 (g := gb271) (o := .cells #[.int .i64 a2_0, .int .i64 a2_1, .slice A2_2 l2_2.length c2_2] 47 (0, 0)) (by (with_reducible repeat (first | refine bkN ?_ _ | refine bkd ?_ | refine bka ?_ _)); exact BK271.out) hb)
       have n4_ := Ad.mk (qa2 (by repeat (first | (with_reducible first | exact HB.out | apply bwa | apply bwN | apply bw1 | refine bws ?_ GE271.out) | exact HB.out)) hb)
       clear HO276
       clear HO279
       clear HO284
       clear BK271
       clear HB
       have HO276 := n0_
       have HO279 := n1_
       have HO284 := n2_
       have BK271 := n3_
       have HB := n4_
       clear n0_ n1_ n2_ n3_ n4_
       (try clear hb)
       (try clear hb2)
       (try clear hk)
       (try clear hi)
       refine hK.out _ _ ⟨(bkc BK271.out 0).trans rfl, (bkc BK271.out 1).trans rfl, (bkc BK271.out 2).trans rfl⟩ (fun hHeld => ?_)
       clear hK K
       refine norm_ (a' := ?_) ?_ ?_
       rotate_left
       ·show Act.put _ (some 32) _ = _
        simp only [Act.put, List.setIfInBounds_toArray, List.set_cons_zero, List.set_cons_succ, qa5, qa6]
        rfl
       refine pure_ (i := 7) (N := some 8) (v := ?_) (a' := ?_) #[true, true, true, true, true, true, true, true] rfl rfl (any_of HT_.out (by kernel_rfl)) (fun _ _ _ h => h) (Or.inl ⟨by rfl, ?_⟩) ?_ ?_
       rotate_left
       ·intro w'
        go_simp
        with_reducible rfl
       rotate_left
       ·simp only [Act.put, List.setIfInBounds_toArray, List.set_cons_zero, List.set_cons_succ, qa5, qa6]
        rfl
       refine done_ (done_of HT_.out (by kernel_rfl)) ?_
       try go_wp2_with (first | ((with_reducible refine qa4 (f := 27) rfl ?_); refine goesL_ (some 34) rfl rfl Try.func27 (by kernel_rfl) rfl #[.slice A0 l0.length c0] rfl (by (try simp only [List.map_toArray, List.map_cons, List.map_nil]); first | done | rfl | (simp only [List.length_drop, List.length_take]; rfl)) ?_; (with_reducible refine (laws_toIntS.calls k _ _ l0 t286 _ ?side1 ?side2 A20.out).mono ?_); (case side1 => repeat (first | exact (Kd.C_below HR0.out HB.out) | (with_reducible refine Kd.C_alloc ?_ _) | (with_reducible refine Kd.C_drewN ?_ _) | (with_reducible refine Kd.C_drew ?_))); (case side2 => exact HC0.out); rintro e w114 ⟨v287, rfl, ho0, hb⟩; refine ⟨_, rfl, ?_⟩; have n0_ := Ad.mk (Kd.R_elder' (by (with_reducible repeat (first | apply Kd.R_alloc | apply Kd.R_drewN | apply Kd.R_drew)); exact HO276.out) (Kd.R_base ho0) hb); have n1_ := Ad.mk (Kd.S_elder' (by (with_reducible repeat (first | apply Kd.S_alloc | apply Kd.S_drewN | apply Kd.S_drew)); exact HO279.out) (Kd.R_base ho0) hb); have n2_ := Ad.mk (Kd.R_elder' (by (with_reducible repeat (first | apply Kd.R_alloc | apply Kd.R_drewN | apply Kd.R_drew)); exact HO284.out) (Kd.R_base ho0) hb); have n3_ := Ad.mk (Kd.R_lower (Kd.R_new' (Kd.R_new' ho0 (Kd.R_lt (by (with_reducible repeat (first | apply Kd.R_alloc | apply Kd.R_drewN | apply Kd.R_drew)); exact HO276.out))) (Kd.R_lt (by (with_reducible repeat (first | apply Kd.R_alloc | apply Kd.R_drewN | apply Kd.R_drew)); exact HO284.out))) (qa0 (by repeat (first | (with_reducible first | exact HB.out | apply bwa | apply bwN | apply bw1 | refine bws ?_ GE271.out) | exact HB.out)))); have n4_ := Ad.mk (qa3 (g := gb271) (o := .cells #[.int .i64 a2_0, .int .i64 a2_1, .slice A2_2 l2_2.length c2_2] 47 (0, 0)) (by (with_reducible repeat (first | refine bkN ?_ _ | refine bkd ?_ | refine bka ?_ _)); exact BK271.out) hb); have n5_ := Ad.mk (qa2 (by repeat (first | (with_reducible first | exact HB.out | apply bwa | apply bwN | apply bw1 | refine bws ?_ GE271.out) | exact HB.out)) hb); clear HO276; clear HO279; clear HO284; clear BK271; clear HB; have HO276 := n0_; have HO279 := n1_; have HO284 := n2_; have HO288 := n3_; have BK271 := n4_; have HB := n5_; clear n0_ n1_ n2_ n3_ n4_ n5_; (try clear hb); (try clear hb2); (try clear hk); (try clear hi); (try clear ho0)) | ((with_reducible refine qa4 (f := 17) rfl ?_); refine goesL_ (some 36) rfl rfl Try.func17 (by kernel_rfl) rfl #[.slice A1 l1.length c1] rfl (by (try simp only [List.map_toArray, List.map_cons, List.map_nil]); first | done | rfl | (simp only [List.length_drop, List.length_take]; rfl)) ?_; (with_reducible refine (laws_toLoanS.calls k _ _ l1 t289 _ ?side1 ?side2 A21.out).mono ?_); (case side1 => repeat (first | exact (Kd.C_below HR1.out HB.out) | (with_reducible refine Kd.C_alloc ?_ _) | (with_reducible refine Kd.C_drewN ?_ _) | (with_reducible refine Kd.C_drew ?_))); (case side2 => exact HC1.out); rintro e w115 ⟨v290, rfl, ho0, hb⟩; refine ⟨_, rfl, ?_⟩; have n0_ := Ad.mk (Kd.R_below (by (with_reducible repeat (first | apply Kd.R_alloc | apply Kd.R_drewN | apply Kd.R_drew)); exact HO276.out) hb); have n1_ := Ad.mk (Kd.S_elder' (by (with_reducible repeat (first | apply Kd.S_alloc | apply Kd.S_drewN | apply Kd.S_drew)); exact HO279.out) (Kd.S_base ho0) hb); have n2_ := Ad.mk (Kd.R_below (by (with_reducible repeat (first | apply Kd.R_alloc | apply Kd.R_drewN | apply Kd.R_drew)); exact HO284.out) hb); have n3_ := Ad.mk (Kd.R_below (by (with_reducible repeat (first | apply Kd.R_alloc | apply Kd.R_drewN | apply Kd.R_drew)); exact HO288.out) hb); have n4_ := Ad.mk (Kd.S_lower (Kd.S_new' (Kd.S_new' (Kd.S_new' (Kd.S_new' ho0 (Kd.R_lt (by (with_reducible repeat (first | apply Kd.R_alloc | apply Kd.R_drewN | apply Kd.R_drew)); exact HO276.out))) (Kd.S_lt (by (with_reducible repeat (first | apply Kd.S_alloc | apply Kd.S_drewN | apply Kd.S_drew)); exact HO279.out))) (Kd.R_lt (by (with_reducible repeat (first | apply Kd.R_alloc | apply Kd.R_drewN | apply Kd.R_drew)); exact HO284.out))) (Kd.R_lt (by (with_reducible repeat (first | apply Kd.R_alloc | apply Kd.R_drewN | apply Kd.R_drew)); exact HO288.out))) (qa0 (by repeat (first | (with_reducible first | exact HB.out | apply bwa | apply bwN | apply bw1 | refine bws ?_ GE271.out) | exact HB.out)))); have n5_ := Ad.mk (qa3 (g := gb271) (o := .cells #[.int .i64 a2_0, .int .i64 a2_1, .slice A2_2 l2_2.length c2_2] 47 (0, 0)) (by (with_reducible repeat (first | refine bkN ?_ _ | refine bkd ?_ | refine bka ?_ _)); exact BK271.out) hb); have n6_ := Ad.mk (qa2 (by repeat (first | (with_reducible first | exact HB.out | apply bwa | apply bwN | apply bw1 | refine bws ?_ GE271.out) | exact HB.out)) hb); clear HO276; clear HO279; clear HO284; clear HO288; clear BK271; clear HB; have HO276 := n0_; have HO279 := n1_; have HO284 := n2_; have HO288 := n3_; have HO291 := n4_; have BK271 := n5_; have HB := n6_; clear n0_ n1_ n2_ n3_ n4_ n5_ n6_; (try clear hb); (try clear hb2); (try clear hk); (try clear hi); (try clear ho0); have hcz116_0 : w115.cell? ⟨gb271, 0, none⟩ = some (.int .i64 a2_0) := (bkc BK271.out 0).trans rfl; have hcz116_1 : w115.cell? ⟨gb271, 1, none⟩ = some (.int .i64 a2_1) := (bkc BK271.out 1).trans rfl; have hcz116_2 : w115.cell? ⟨gb271, 2, none⟩ = some (.slice A2_2 l2_2.length c2_2) := (bkc BK271.out 2).trans rfl; have hfz116_0 := qa1 BK271.out 0; have hfz116_1 := qa1 BK271.out 1; have hfz116_2 := qa1 BK271.out 2) | ((with_reducible refine qa4 (f := 28) rfl ?_); refine goesL_ (some 38) rfl rfl Try.func28 (by kernel_rfl) rfl #[.agg #[.int .i64 a2_0, .int .i64 a2_1, .slice A2_2 l2_2.length c2_2]] rfl (by (try simp only [List.map_toArray, List.map_cons, List.map_nil]); first | done | rfl | (simp only [List.length_drop, List.length_take]; rfl)) ?_; (with_reducible refine (laws_toLoan.calls k a2_0 a2_1 _ _ l2_2 t292 t293 t294 _ ?side1 ?side2 A22.out).mono ?_); (case side1 => repeat (first | exact (Kd.C_below HR2_2.out HB.out) | (with_reducible refine Kd.C_alloc ?_ _) | (with_reducible refine Kd.C_drewN ?_ _) | (with_reducible refine Kd.C_drew ?_))); (case side2 => exact HC2_2.out); rintro e w117 ⟨v295, rfl, ho0, hb⟩; refine ⟨_, rfl, ?_⟩; have n0_ := Ad.mk (Kd.R_elder' (by (with_reducible repeat (first | apply Kd.R_alloc | apply Kd.R_drewN | apply Kd.R_drew)); exact HO276.out) (Kd.R_base ho0) hb); have n1_ := Ad.mk (Kd.S_elder' (by (with_reducible repeat (first | apply Kd.S_alloc | apply Kd.S_drewN | apply Kd.S_drew)); exact HO279.out) (Kd.R_base ho0) hb); have n2_ := Ad.mk (Kd.R_elder' (by (with_reducible repeat (first | apply Kd.R_alloc | apply Kd.R_drewN | apply Kd.R_drew)); exact HO284.out) (Kd.R_base ho0) hb); have n3_ := Ad.mk (Kd.R_elder' (by (with_reducible repeat (first | apply Kd.R_alloc | apply Kd.R_drewN | apply Kd.R_drew)); exact HO288.out) (Kd.R_base ho0) hb); have n4_ := Ad.mk (Kd.S_elder' (by (with_reducible repeat (first | apply Kd.S_alloc | apply Kd.S_drewN | apply Kd.S_drew)); exact HO291.out) (Kd.R_base ho0) hb); have n5_ := Ad.mk (Kd.R_lower (Kd.R_new' (Kd.R_new' (Kd.R_new' ho0 (Kd.R_lt (by (with_reducible repeat (first | apply Kd.R_alloc | apply Kd.R_drewN | apply Kd.R_drew)); exact HO276.out))) (Kd.R_lt (by (with_reducible repeat (first | apply Kd.R_alloc | apply Kd.R_drewN | apply Kd.R_drew)); exact HO284.out))) (Kd.R_lt (by (with_reducible repeat (first | apply Kd.R_alloc | apply Kd.R_drewN | apply Kd.R_drew)); exact HO288.out))) (qa0 (by repeat (first | (with_reducible first | exact HB.out | apply bwa | apply bwN | apply bw1 | refine bws ?_ GE271.out) | exact HB.out)))); have n6_ := Ad.mk (qa3 (g := gb271) (o := .cells #[.int .i64 a2_0, .int .i64 a2_1, .slice A2_2 l2_2.length c2_2] 47 (0, 0)) (by (with_reducible repeat (first | refine bkN ?_ _ | refine bkd ?_ | refine bka ?_ _)); exact BK271.out) hb); have n7_ := Ad.mk (qa2 (by repeat (first | (with_reducible first | exact HB.out | apply bwa | apply bwN | apply bw1 | refine bws ?_ GE271.out) | exact HB.out)) hb); clear HO276; clear HO279; clear HO284; clear HO288; clear HO291; clear BK271; clear HB; have HO276 := n0_; have HO279 := n1_; have HO284 := n2_; have HO288 := n3_; have HO291 := n4_; have HO296 := n5_; have BK271 := n6_; have HB := n7_; clear n0_ n1_ n2_ n3_ n4_ n5_ n6_ n7_; (try clear hb); (try clear hb2); (try clear hk); (try clear hi); (try clear ho0)) | ((with_reducible refine gate_dst (N := 11) rfl ?_); refine box_event ?hg (N := 11) ?hd (cs := #[.int .i64 0, .int .i64 0, .slice none 0 0]) (t := 42) ?hr ?_; (case hd => rfl); (case hg => rfl); (case hr => first | (go_simp; done) | (go_simp; rfl)); intro gb297 hg w118 hbox hb; have n0_ := Ad.mk (Kd.R_below (by (with_reducible repeat (first | apply Kd.R_alloc | apply Kd.R_drewN | apply Kd.R_drew)); exact HO276.out) hb); have n1_ := Ad.mk (Kd.S_below (Kd.S_elderB (by (with_reducible repeat (first | apply Kd.S_alloc | apply Kd.S_drewN | apply Kd.S_drew)); exact HO279.out) gb297 (Nat.le_of_eq hg.symm)) hb); have n2_ := Ad.mk (Kd.R_below (by (with_reducible repeat (first | apply Kd.R_alloc | apply Kd.R_drewN | apply Kd.R_drew)); exact HO284.out) hb); have n3_ := Ad.mk (Kd.R_below (by (with_reducible repeat (first | apply Kd.R_alloc | apply Kd.R_drewN | apply Kd.R_drew)); exact HO288.out) hb); have n4_ := Ad.mk (Kd.S_below (Kd.S_elderB (by (with_reducible repeat (first | apply Kd.S_alloc | apply Kd.S_drewN | apply Kd.S_drew)); exact HO291.out) gb297 (Nat.le_of_eq hg.symm)) hb); have n5_ := Ad.mk (Kd.R_below (by (with_reducible repeat (first | apply Kd.R_alloc | apply Kd.R_drewN | apply Kd.R_drew)); exact HO296.out) hb); have n6_ := Ad.mk (qa3 (g := gb271) (o := .cells #[.int .i64 a2_0, .int .i64 a2_1, .slice A2_2 l2_2.length c2_2] 47 (0, 0)) (by (with_reducible repeat (first | refine bkN ?_ _ | refine bkd ?_ | refine bka ?_ _)); exact BK271.out) hb); have n7_ := Ad.mk (qa2 (by repeat (first | (with_reducible first | exact HB.out | apply bwa | apply bwN | apply bw1 | refine bws ?_ GE271.out) | exact HB.out)) hb); have n8_ := Ad.mk (hbox); have n9_ := Ad.mk ((by rw [hg]; exact (qa0 (by repeat (first | (with_reducible first | exact HB.out | apply bwa | apply bwN | apply bw1 | refine bws ?_ GE271.out) | exact HB.out))) : w.heap.size ≤ gb297)); have n10_ := Ad.mk ((by rw [hg]; exact (qa0 (by repeat (first | (with_reducible first | exact HB.out | apply bwa | apply bwN | apply bw1 | refine bws ?_ GE271.out) | exact HB.out))) : w.heap.size ≤ gb297)); have n11_ := Ad.mk ((by rw [hg]; exact Nat.ne_of_lt (blk_lt (g := gb271) (o := .cells #[.int .i64 a2_0, .int .i64 a2_1, .slice A2_2 l2_2.length c2_2] 47 (0, 0)) (by (with_reducible repeat (first | refine bkN ?_ _ | refine bkd ?_ | refine bka ?_ _)); exact BK271.out)) : gb271 ≠ gb297)); have n12_ := Ad.mk ((by rw [hg]; exact Nat.ne_of_gt (blk_lt (g := gb271) (o := .cells #[.int .i64 a2_0, .int .i64 a2_1, .slice A2_2 l2_2.length c2_2] 47 (0, 0)) (by (with_reducible repeat (first | refine bkN ?_ _ | refine bkd ?_ | refine bka ?_ _)); exact BK271.out)) : gb297 ≠ gb271)); clear HO276; clear HO279; clear HO284; clear HO288; clear HO291; clear HO296; clear BK271; clear HB; have HO276 := n0_; have HO279 := n1_; have HO284 := n2_; have HO288 := n3_; have HO291 := n4_; have HO296 := n5_; have BK271 := n6_; have HB := n7_; have BK297 := n8_; have GW297 := n9_; have GE297 := n10_; have NB271_297 := n11_; have NB297_271 := n12_; clear n0_ n1_ n2_ n3_ n4_ n5_ n6_ n7_ n8_ n9_ n10_ n11_ n12_; clear hb hbox hg; have hnb119 := NB297_271.out; have hnc119 := NB271_297.out; have hcz120_0 : w118.cell? ⟨gb297, 0, none⟩ = some (.int .i64 0) := (bkc BK297.out 0).trans rfl; have hcz120_1 : w118.cell? ⟨gb297, 1, none⟩ = some (.int .i64 0) := (bkc BK297.out 1).trans rfl; have hcz120_2 : w118.cell? ⟨gb297, 2, none⟩ = some (.slice none 0 0) := (bkc BK297.out 2).trans rfl; have hfz120_0 := qa1 BK297.out 0; have hfz120_1 := qa1 BK297.out 1; have hfz120_2 := qa1 BK297.out 2; obtain ⟨Ao121, co121, eo121⟩ := Kd.R_slice HO296.out; subst eo121) | ((with_reducible refine gate_store (t := 42) (p := 11) rfl ?_); refine store_event (t := 42) (p := 11) (v := ?vo_w122) (w1 := (((w118.setCell ⟨gb297, 0, none⟩ (.int .i64 t292)).setCell ⟨gb297, 1, none⟩ (.int .i64 t293)).setCell ⟨gb297, 2, none⟩ (.slice Ao121 t294.length co121))) ?hg ?ho ?hn ?hr ?_; (case ho => rfl); (case hg => rfl); (case hn => rfl); (case hr => first | (go_simp; done) | (go_simp; rfl)); intro w122 hw; have n0_ : Ad (Kd.R (Kd.int .i64) 3 w122 w.heap.size (fun k_ => some k_ ≠ (.slice Ao112 t282.length co112 : Value).ownBlock ∧ some k_ ≠ (v287 : Value).ownBlock ∧ some k_ ≠ (.slice Ao121 t294.length co121 : Value).ownBlock) (.slice Ao110 t274.length co110) t274) := ⟨(by rw [hw]; exact (by (with_reducible repeat (first | apply Kd.R_alloc | apply Kd.R_drewN | apply Kd.R_drew)); exact Kd.R_mono (Kd.R_far (p := ⟨gb297, 2, none⟩) (Kd.R_far (p := ⟨gb297, 1, none⟩) (Kd.R_far (p := ⟨gb297, 0, none⟩) (Kd.R_types HO276.out BK297.out (by decide)) (fun _ hk => hk.2) (.int .i64 t292)) (fun _ hk => hk.2) (.int .i64 t293)) (fun _ hk => hk.2) (.slice Ao121 t294.length co121)) (fun _ hk => ⟨hk.1.1.1.2, ⟨hk.1.1.2, hk.1.2⟩⟩)))⟩; have n1_ : Ad (Kd.S k42 42 w122 w.heap.size (fun k_ => some k_ ≠ (.slice Ao110 t274.length co110 : Value).ownBlock ∧ some k_ ≠ (.slice Ao112 t282.length co112 : Value).ownBlock ∧ some k_ ≠ (v287 : Value).ownBlock ∧ some k_ ≠ (v290 : Value).ownBlock ∧ some k_ ≠ (.slice Ao121 t294.length co121 : Value).ownBlock ∧ k_ ≠ gb297) (.slice Ao111 t277.length co111) t277) := ⟨(by rw [hw]; exact (by (with_reducible repeat (first | apply Kd.S_alloc | apply Kd.S_drewN | apply Kd.S_drew)); exact Kd.S_mono (Kd.S_far (p := ⟨gb297, 2, none⟩) (Kd.S_far (p := ⟨gb297, 1, none⟩) (Kd.S_far (p := ⟨gb297, 0, none⟩) (Kd.S_mono HO279.out (fun k_ hk => (⟨hk, hk.2⟩ : _ ∧ k_ ≠ gb297))) (fun _ hk => hk.2) (.int .i64 t292)) (fun _ hk => hk.2) (.int .i64 t293)) (fun _ hk => hk.2) (.slice Ao121 t294.length co121)) (fun _ hk => ⟨hk.1.1.1.1.1.1.2, ⟨hk.1.1.1.1.1.2, ⟨hk.1.1.1.1.2, ⟨hk.1.1.1.2, ⟨hk.1.1.2, hk.1.2⟩⟩⟩⟩⟩)))⟩; have n2_ : Ad (Kd.R (Kd.int .i64) 3 w122 w.heap.size (fun k_ => some k_ ≠ (.slice Ao110 t274.length co110 : Value).ownBlock ∧ some k_ ≠ (v287 : Value).ownBlock ∧ some k_ ≠ (.slice Ao121 t294.length co121 : Value).ownBlock) (.slice Ao112 t282.length co112) t282) := ⟨(by rw [hw]; exact (by (with_reducible repeat (first | apply Kd.R_alloc | apply Kd.R_drewN | apply Kd.R_drew)); exact Kd.R_mono (Kd.R_far (p := ⟨gb297, 2, none⟩) (Kd.R_far (p := ⟨gb297, 1, none⟩) (Kd.R_far (p := ⟨gb297, 0, none⟩) (Kd.R_types HO284.out BK297.out (by decide)) (fun _ hk => hk.2) (.int .i64 t292)) (fun _ hk => hk.2) (.int .i64 t293)) (fun _ hk => hk.2) (.slice Ao121 t294.length co121)) (fun _ hk => ⟨hk.1.1.1.2, ⟨hk.1.1.2, hk.1.2⟩⟩)))⟩; have n3_ : Ad (Kd.R (Kd.int .i64) 3 w122 w.heap.size (fun k_ => some k_ ≠ (.slice Ao110 t274.length co110 : Value).ownBlock ∧ some k_ ≠ (.slice Ao112 t282.length co112 : Value).ownBlock ∧ some k_ ≠ (.slice Ao121 t294.length co121 : Value).ownBlock) v287 t286) := ⟨(by rw [hw]; exact (by (with_reducible repeat (first | apply Kd.R_alloc | apply Kd.R_drewN | apply Kd.R_drew)); exact Kd.R_mono (Kd.R_far (p := ⟨gb297, 2, none⟩) (Kd.R_far (p := ⟨gb297, 1, none⟩) (Kd.R_far (p := ⟨gb297, 0, none⟩) (Kd.R_types HO288.out BK297.out (by decide)) (fun _ hk => hk.2) (.int .i64 t292)) (fun _ hk => hk.2) (.int .i64 t293)) (fun _ hk => hk.2) (.slice Ao121 t294.length co121)) (fun _ hk => ⟨hk.1.1.1.2, ⟨hk.1.1.2, hk.1.2⟩⟩)))⟩; have n4_ : Ad (Kd.S k42 42 w122 w.heap.size (fun k_ => some k_ ≠ (.slice Ao110 t274.length co110 : Value).ownBlock ∧ some k_ ≠ (.slice Ao111 t277.length co111 : Value).ownBlock ∧ some k_ ≠ (.slice Ao112 t282.length co112 : Value).ownBlock ∧ some k_ ≠ (v287 : Value).ownBlock ∧ some k_ ≠ (.slice Ao121 t294.length co121 : Value).ownBlock ∧ k_ ≠ gb297) v290 t289) := ⟨(by rw [hw]; exact (by (with_reducible repeat (first | apply Kd.S_alloc | apply Kd.S_drewN | apply Kd.S_drew)); exact Kd.S_mono (Kd.S_far (p := ⟨gb297, 2, none⟩) (Kd.S_far (p := ⟨gb297, 1, none⟩) (Kd.S_far (p := ⟨gb297, 0, none⟩) (Kd.S_mono HO291.out (fun k_ hk => (⟨hk, hk.2⟩ : _ ∧ k_ ≠ gb297))) (fun _ hk => hk.2) (.int .i64 t292)) (fun _ hk => hk.2) (.int .i64 t293)) (fun _ hk => hk.2) (.slice Ao121 t294.length co121)) (fun _ hk => ⟨hk.1.1.1.1.1.1.2, ⟨hk.1.1.1.1.1.2, ⟨hk.1.1.1.1.2, ⟨hk.1.1.1.2, ⟨hk.1.1.2, hk.1.2⟩⟩⟩⟩⟩)))⟩; have n5_ : Ad (Kd.R (Kd.int .i64) 3 w122 w.heap.size (fun k_ => some k_ ≠ (.slice Ao110 t274.length co110 : Value).ownBlock ∧ some k_ ≠ (.slice Ao112 t282.length co112 : Value).ownBlock ∧ some k_ ≠ (v287 : Value).ownBlock) (.slice Ao121 t294.length co121) t294) := ⟨(by rw [hw]; exact (by (with_reducible repeat (first | apply Kd.R_alloc | apply Kd.R_drewN | apply Kd.R_drew)); exact Kd.R_mono (Kd.R_far (p := ⟨gb297, 2, none⟩) (Kd.R_far (p := ⟨gb297, 1, none⟩) (Kd.R_far (p := ⟨gb297, 0, none⟩) (Kd.R_types HO296.out BK297.out (by decide)) (fun _ hk => hk.2) (.int .i64 t292)) (fun _ hk => hk.2) (.int .i64 t293)) (fun _ hk => hk.2) (.slice Ao121 t294.length co121)) (fun _ hk => ⟨hk.1.1.1.2, ⟨hk.1.1.2, hk.1.2⟩⟩)))⟩; have n6_ : Ad (w122.heap[gb271]? = some (.cells #[.int .i64 a2_0, .int .i64 a2_1, .slice A2_2 l2_2.length c2_2] 47 (0, 0))) := ⟨(by rw [hw]; exact (by (with_reducible repeat (first | refine bkN ?_ _ | refine bkd ?_ | refine bka ?_ _)); refine blk_far ?_ NB271_297.out _; (with_reducible repeat (first | refine bkN ?_ _ | refine bkd ?_ | refine bka ?_ _)); refine blk_far ?_ NB271_297.out _; (with_reducible repeat (first | refine bkN ?_ _ | refine bkd ?_ | refine bka ?_ _)); refine blk_far ?_ NB271_297.out _; (with_reducible repeat (first | refine bkN ?_ _ | refine bkd ?_ | refine bka ?_ _)); exact BK271.out))⟩; have n7_ : Ad (w122.heap[gb297]? = some (.cells #[.int .i64 t292, .int .i64 t293, .slice Ao121 t294.length co121] 42 (0, 0))) := ⟨(by rw [hw]; exact (by (with_reducible repeat (first | refine bkN ?_ _ | refine bkd ?_ | refine bka ?_ _)); refine blk_put (cs := #[.int .i64 t292, .int .i64 t293, .slice none 0 0]) ?_ 2 _ rfl; (with_reducible repeat (first | refine bkN ?_ _ | refine bkd ?_ | refine bka ?_ _)); refine blk_put (cs := #[.int .i64 t292, .int .i64 0, .slice none 0 0]) ?_ 1 _ rfl; (with_reducible repeat (first | refine bkN ?_ _ | refine bkd ?_ | refine bka ?_ _)); refine blk_put (cs := #[.int .i64 0, .int .i64 0, .slice none 0 0]) ?_ 0 _ rfl; (with_reducible repeat (first | refine bkN ?_ _ | refine bkd ?_ | refine bka ?_ _)); exact BK297.out))⟩; have n8_ : Ad (Below w.heap.size w w122) := ⟨(by rw [hw]; exact (by repeat (first | (with_reducible first | exact HB.out | apply bwa | apply bwN | apply bw1 | refine bws ?_ GE271.out | refine bws ?_ GE297.out) | exact HB.out)))⟩; clear hw; clear HO276; clear HO279; clear HO284; clear HO288; clear HO291; clear HO296; clear BK271; clear BK297; clear HB; have HO276 := n0_; have HO279 := n1_; have HO284 := n2_; have HO288 := n3_; have HO291 := n4_; have HO296 := n5_; have BK271 := n6_; have BK297 := n7_; have HB := n8_; clear n0_ n1_ n2_ n3_ n4_ n5_ n6_ n7_ n8_; have hcz123_0 : w122.cell? ⟨gb297, 0, none⟩ = some (.int .i64 t292) := (bkc BK297.out 0).trans rfl; have hcz123_1 : w122.cell? ⟨gb297, 1, none⟩ = some (.int .i64 t293) := (bkc BK297.out 1).trans rfl; have hcz123_2 : w122.cell? ⟨gb297, 2, none⟩ = some (.slice Ao121 t294.length co121) := (bkc BK297.out 2).trans rfl; have hfz123_0 := qa1 BK297.out 0; have hfz123_1 := qa1 BK297.out 1; have hfz123_2 := qa1 BK297.out 2; obtain ⟨Ao124, co124, eo124⟩ := Kd.R_slice HO288.out; subst eo124; obtain ⟨Ao125, co125, eo125⟩ := Kd.S_slice HO291.out; subst eo125) | ((with_reducible refine qa4 (f := 23) rfl ?_); refine goesL_ (some 42) rfl rfl Try.func23 (by kernel_rfl) rfl #[.slice Ao124 t286.length co124, .slice Ao125 t289.length co125, .agg #[.int .i64 t292, .int .i64 t293, .slice Ao121 t294.length co121]] rfl (by (try simp only [List.map_toArray, List.map_cons, List.map_nil]); first | done | rfl | (simp only [List.length_drop, List.length_take]; rfl)) ?_; (with_reducible refine (impl_MostLoan.calls k _ _ t286 (fun k_ => ((some k_ ≠ (.slice Ao110 t274.length co110 : Value).ownBlock ∧ (some k_ ≠ (.slice Ao111 t277.length co111 : Value).ownBlock ∧ (some k_ ≠ (.slice Ao112 t282.length co112 : Value).ownBlock ∧ (some k_ ≠ (.slice Ao124 t286.length co124 : Value).ownBlock ∧ (some k_ ≠ (.slice Ao121 t294.length co121 : Value).ownBlock ∧ k_ ≠ gb297))))) ∧ k_ ≠ gb271)) _ _ t289 t292 t293 (fun k_ => some k_ = (.slice Ao121 t294.length co121 : Value).ownBlock) _ _ t294 t298 _ ?side1 ?side2 ?side3 ?side4 A23.out).mono ?_); (case side1 => repeat (first | exact (Kd.R_reads' HO288.out).2.2 | (with_reducible refine Kd.C_alloc ?_ _) | (with_reducible refine Kd.C_drewN ?_ _) | (with_reducible refine Kd.C_drew ?_))); (case side2 => exact (Kd.R_reads' HO288.out).2.1); (case side3 => exact Kd.S_V (Kd.S_types (HO291.out) BK271.out (by decide))); (case side4 => exact Kd.R_V (Kd.R_tight rfl (Kd.R_types (Kd.R_types (Kd.R_apart' (Kd.R_apart' (HO296.out) (Kd.S_typed HO279.out) (by decide)) (Kd.S_typed HO291.out) (by decide)) BK271.out (by decide)) BK297.out (by decide)))); rintro e w126 ⟨rfl, hb⟩; refine ⟨_, rfl, ?_⟩; have n0_ := Ad.mk (Kd.R_below (by (with_reducible repeat (first | apply Kd.R_alloc | apply Kd.R_drewN | apply Kd.R_drew)); exact HO276.out) hb); have n1_ := Ad.mk (Kd.S_below (by (with_reducible repeat (first | apply Kd.S_alloc | apply Kd.S_drewN | apply Kd.S_drew)); exact HO279.out) hb); have n2_ := Ad.mk (Kd.R_below (by (with_reducible repeat (first | apply Kd.R_alloc | apply Kd.R_drewN | apply Kd.R_drew)); exact HO284.out) hb); have n3_ := Ad.mk (Kd.R_below (by (with_reducible repeat (first | apply Kd.R_alloc | apply Kd.R_drewN | apply Kd.R_drew)); exact HO288.out) hb); have n4_ := Ad.mk (Kd.S_below (by (with_reducible repeat (first | apply Kd.S_alloc | apply Kd.S_drewN | apply Kd.S_drew)); exact HO291.out) hb); have n5_ := Ad.mk (Kd.R_below (by (with_reducible repeat (first | apply Kd.R_alloc | apply Kd.R_drewN | apply Kd.R_drew)); exact HO296.out) hb); have n6_ := Ad.mk (qa3 (g := gb271) (o := .cells #[.int .i64 a2_0, .int .i64 a2_1, .slice A2_2 l2_2.length c2_2] 47 (0, 0)) (by (with_reducible repeat (first | refine bkN ?_ _ | refine bkd ?_ | refine bka ?_ _)); exact BK271.out) hb); have n7_ := Ad.mk (qa3 (g := gb297) (o := .cells #[.int .i64 t292, .int .i64 t293, .slice Ao121 t294.length co121] 42 (0, 0)) (by (with_reducible repeat (first | refine bkN ?_ _ | refine bkd ?_ | refine bka ?_ _)); exact BK297.out) hb); have n8_ := Ad.mk (qa2 (by repeat (first | (with_reducible first | exact HB.out | apply bwa | apply bwN | apply bw1 | refine bws ?_ GE271.out | refine bws ?_ GE297.out) | exact HB.out)) hb); clear HO276; clear HO279; clear HO284; clear HO288; clear HO291; clear HO296; clear BK271; clear BK297; clear HB; have HO276 := n0_; have HO279 := n1_; have HO284 := n2_; have HO288 := n3_; have HO291 := n4_; have HO296 := n5_; have BK271 := n6_; have BK297 := n7_; have HB := n8_; clear n0_ n1_ n2_ n3_ n4_ n5_ n6_ n7_ n8_; (try clear hb); (try clear hb2); (try clear hk); (try clear hi)) | ((with_reducible refine qa4 (f := 27) rfl ?_); refine goesL_ (some 48) rfl rfl Try.func27 (by kernel_rfl) rfl #[.slice A0 l0.length c0] rfl (by (try simp only [List.map_toArray, List.map_cons, List.map_nil]); first | done | rfl | (simp only [List.length_drop, List.length_take]; rfl)) ?_; (with_reducible refine (laws_toIntS.calls k _ _ l0 t299 _ ?side1 ?side2 A25.out).mono ?_); (case side1 => repeat (first | exact (Kd.C_below HR0.out HB.out) | (with_reducible refine Kd.C_alloc ?_ _) | (with_reducible refine Kd.C_drewN ?_ _) | (with_reducible refine Kd.C_drew ?_))); (case side2 => exact HC0.out); rintro e w127 ⟨v300, rfl, ho0, hb⟩; refine ⟨_, rfl, ?_⟩; have n0_ := Ad.mk (Kd.R_elder' (by (with_reducible repeat (first | apply Kd.R_alloc | apply Kd.R_drewN | apply Kd.R_drew)); exact HO276.out) (Kd.R_base ho0) hb); have n1_ := Ad.mk (Kd.S_elder' (by (with_reducible repeat (first | apply Kd.S_alloc | apply Kd.S_drewN | apply Kd.S_drew)); exact HO279.out) (Kd.R_base ho0) hb); have n2_ := Ad.mk (Kd.R_elder' (by (with_reducible repeat (first | apply Kd.R_alloc | apply Kd.R_drewN | apply Kd.R_drew)); exact HO284.out) (Kd.R_base ho0) hb); have n3_ := Ad.mk (Kd.R_elder' (by (with_reducible repeat (first | apply Kd.R_alloc | apply Kd.R_drewN | apply Kd.R_drew)); exact HO288.out) (Kd.R_base ho0) hb); have n4_ := Ad.mk (Kd.S_elder' (by (with_reducible repeat (first | apply Kd.S_alloc | apply Kd.S_drewN | apply Kd.S_drew)); exact HO291.out) (Kd.R_base ho0) hb); have n5_ := Ad.mk (Kd.R_elder' (by (with_reducible repeat (first | apply Kd.R_alloc | apply Kd.R_drewN | apply Kd.R_drew)); exact HO296.out) (Kd.R_base ho0) hb); have n6_ := Ad.mk (Kd.R_lower (Kd.R_new' (Kd.R_new' (Kd.R_new' (Kd.R_new' ho0 (Kd.R_lt (by (with_reducible repeat (first | apply Kd.R_alloc | apply Kd.R_drewN | apply Kd.R_drew)); exact HO276.out))) (Kd.R_lt (by (with_reducible repeat (first | apply Kd.R_alloc | apply Kd.R_drewN | apply Kd.R_drew)); exact HO284.out))) (Kd.R_lt (by (with_reducible repeat (first | apply Kd.R_alloc | apply Kd.R_drewN | apply Kd.R_drew)); exact HO288.out))) (Kd.R_lt (by (with_reducible repeat (first | apply Kd.R_alloc | apply Kd.R_drewN | apply Kd.R_drew)); exact HO296.out))) (qa0 (by repeat (first | (with_reducible first | exact HB.out | apply bwa | apply bwN | apply bw1 | refine bws ?_ GE271.out | refine bws ?_ GE297.out) | exact HB.out)))); have n7_ := Ad.mk (qa3 (g := gb271) (o := .cells #[.int .i64 a2_0, .int .i64 a2_1, .slice A2_2 l2_2.length c2_2] 47 (0, 0)) (by (with_reducible repeat (first | refine bkN ?_ _ | refine bkd ?_ | refine bka ?_ _)); exact BK271.out) hb); have n8_ := Ad.mk (qa3 (g := gb297) (o := .cells #[.int .i64 t292, .int .i64 t293, .slice Ao121 t294.length co121] 42 (0, 0)) (by (with_reducible repeat (first | refine bkN ?_ _ | refine bkd ?_ | refine bka ?_ _)); exact BK297.out) hb); have n9_ := Ad.mk (qa2 (by repeat (first | (with_reducible first | exact HB.out | apply bwa | apply bwN | apply bw1 | refine bws ?_ GE271.out | refine bws ?_ GE297.out) | exact HB.out)) hb); clear HO276; clear HO279; clear HO284; clear HO288; clear HO291; clear HO296; clear BK271; clear BK297; clear HB; have HO276 := n0_; have HO279 := n1_; have HO284 := n2_; have HO288 := n3_; have HO291 := n4_; have HO296 := n5_; have HO301 := n6_; have BK271 := n7_; have BK297 := n8_; have HB := n9_; clear n0_ n1_ n2_ n3_ n4_ n5_ n6_ n7_ n8_ n9_; (try clear hb); (try clear hb2); (try clear hk); (try clear hi); (try clear ho0); obtain ⟨Ao128, co128, eo128⟩ := Kd.R_slice HO301.out; subst eo128) | ((with_reducible refine qa4 (f := 29) rfl ?_); refine goesL_ (some 49) rfl rfl Try.func29 (by kernel_rfl) rfl #[.slice Ao124 t286.length co124, .slice Ao128 t299.length co128] rfl (by (try simp only [List.map_toArray, List.map_cons, List.map_nil]); first | done | rfl | (simp only [List.length_drop, List.length_take]; rfl)) ?_; (with_reducible refine (laws_eqIntS.calls k _ _ t286 _ _ t299 true _ ?side1 ?side2 ?side3 ?side4 A26.out).mono ?_); (case side1 => repeat (first | exact (Kd.R_reads' HO288.out).2.2 | (with_reducible refine Kd.C_alloc ?_ _) | (with_reducible refine Kd.C_drewN ?_ _) | (with_reducible refine Kd.C_drew ?_))); (case side2 => exact (Kd.R_reads' HO288.out).2.1); (case side3 => repeat (first | exact (Kd.R_reads' HO301.out).2.2 | (with_reducible refine Kd.C_alloc ?_ _) | (with_reducible refine Kd.C_drewN ?_ _) | (with_reducible refine Kd.C_drew ?_))); (case side4 => exact (Kd.R_reads' HO301.out).2.1); rintro e w' ⟨rfl, ⟨nd, rfl⟩⟩; refine ⟨_, rfl, ?_⟩) | ((with_reducible refine qa4 (f := 17) rfl ?_); refine goesL_ (some 53) rfl rfl Try.func17 (by kernel_rfl) rfl #[.slice A1 l1.length c1] rfl (by (try simp only [List.map_toArray, List.map_cons, List.map_nil]); first | done | rfl | (simp only [List.length_drop, List.length_take]; rfl)) ?_; (with_reducible refine (laws_toLoanS.calls k _ _ l1 t303 _ ?side1 ?side2 A28.out).mono ?_); (case side1 => repeat (first | exact (Kd.C_below HR1.out (by repeat (first | (with_reducible first | exact HB.out | apply bwa | apply bwN | apply bw1 | refine bws ?_ GE271.out | refine bws ?_ GE297.out) | exact HB.out))) | (with_reducible refine Kd.C_alloc ?_ _) | (with_reducible refine Kd.C_drewN ?_ _) | (with_reducible refine Kd.C_drew ?_))); (case side2 => exact HC1.out); rintro e w129 ⟨v304, rfl, ho0, hb⟩; refine ⟨_, rfl, ?_⟩; have n0_ := Ad.mk (Kd.R_below (by (with_reducible repeat (first | apply Kd.R_alloc | apply Kd.R_drewN | apply Kd.R_drew)); exact HO276.out) hb); have n1_ := Ad.mk (Kd.S_elder' (by (with_reducible repeat (first | apply Kd.S_alloc | apply Kd.S_drewN | apply Kd.S_drew)); exact HO279.out) (Kd.S_base ho0) hb); have n2_ := Ad.mk (Kd.R_below (by (with_reducible repeat (first | apply Kd.R_alloc | apply Kd.R_drewN | apply Kd.R_drew)); exact HO284.out) hb); have n3_ := Ad.mk (Kd.R_below (by (with_reducible repeat (first | apply Kd.R_alloc | apply Kd.R_drewN | apply Kd.R_drew)); exact HO288.out) hb); have n4_ := Ad.mk (Kd.S_elder' (by (with_reducible repeat (first | apply Kd.S_alloc | apply Kd.S_drewN | apply Kd.S_drew)); exact HO291.out) (Kd.S_base ho0) hb); have n5_ := Ad.mk (Kd.R_below (by (with_reducible repeat (first | apply Kd.R_alloc | apply Kd.R_drewN | apply Kd.R_drew)); exact HO296.out) hb); have n6_ := Ad.mk (Kd.R_below (by (with_reducible repeat (first | apply Kd.R_alloc | apply Kd.R_drewN | apply Kd.R_drew)); exact HO301.out) hb); have n7_ := Ad.mk (Kd.S_lower (Kd.S_newB (Kd.S_new' (Kd.S_new' (Kd.S_new' (Kd.S_new' (Kd.S_new' (Kd.S_new' (Kd.S_new' ho0 (Kd.R_lt (by (with_reducible repeat (first | apply Kd.R_alloc | apply Kd.R_drewN | apply Kd.R_drew)); exact HO276.out))) (Kd.S_lt (by (with_reducible repeat (first | apply Kd.S_alloc | apply Kd.S_drewN | apply Kd.S_drew)); exact HO279.out))) (Kd.R_lt (by (with_reducible repeat (first | apply Kd.R_alloc | apply Kd.R_drewN | apply Kd.R_drew)); exact HO284.out))) (Kd.R_lt (by (with_reducible repeat (first | apply Kd.R_alloc | apply Kd.R_drewN | apply Kd.R_drew)); exact HO288.out))) (Kd.S_lt (by (with_reducible repeat (first | apply Kd.S_alloc | apply Kd.S_drewN | apply Kd.S_drew)); exact HO291.out))) (Kd.R_lt (by (with_reducible repeat (first | apply Kd.R_alloc | apply Kd.R_drewN | apply Kd.R_drew)); exact HO296.out))) (Kd.R_lt (by (with_reducible repeat (first | apply Kd.R_alloc | apply Kd.R_drewN | apply Kd.R_drew)); exact HO301.out))) (g := gb297) (o := .cells #[.int .i64 t292, .int .i64 t293, .slice Ao121 t294.length co121] 42 (0, 0)) (by (with_reducible repeat (first | refine bkN ?_ _ | refine bkd ?_ | refine bka ?_ _)); exact BK297.out)) (qa0 (by repeat (first | (with_reducible first | exact HB.out | apply bwa | apply bwN | apply bw1 | refine bws ?_ GE271.out | refine bws ?_ GE297.out) | exact HB.out)))); have n8_ := Ad.mk (qa3 (g := gb271) (o := .cells #[.int .i64 a2_0, .int .i64 a2_1, .slice A2_2 l2_2.length c2_2] 47 (0, 0)) (by (with_reducible repeat (first | refine bkN ?_ _ | refine bkd ?_ | refine bka ?_ _)); exact BK271.out) hb); have n9_ := Ad.mk (qa3 (g := gb297) (o := .cells #[.int .i64 t292, .int .i64 t293, .slice Ao121 t294.length co121] 42 (0, 0)) (by (with_reducible repeat (first | refine bkN ?_ _ | refine bkd ?_ | refine bka ?_ _)); exact BK297.out) hb); have n10_ := Ad.mk (qa2 (by repeat (first | (with_reducible first | exact HB.out | apply bwa | apply bwN | apply bw1 | refine bws ?_ GE271.out | refine bws ?_ GE297.out) | exact HB.out)) hb); clear HO276; clear HO279; clear HO284; clear HO288; clear HO291; clear HO296; clear HO301; clear BK271; clear BK297; clear HB; have HO276 := n0_; have HO279 := n1_; have HO284 := n2_; have HO288 := n3_; have HO291 := n4_; have HO296 := n5_; have HO301 := n6_; have HO305 := n7_; have BK271 := n8_; have BK297 := n9_; have HB := n10_; clear n0_ n1_ n2_ n3_ n4_ n5_ n6_ n7_ n8_ n9_ n10_; (try clear hb); (try clear hb2); (try clear hk); (try clear hi); (try clear ho0); obtain ⟨Ao130, co130, eo130⟩ := Kd.S_slice HO305.out; subst eo130) | ((with_reducible refine qa4 (f := 19) rfl ?_); refine goesL_ (some 54) rfl rfl Try.func19 (by kernel_rfl) rfl #[.slice Ao125 t289.length co125, .slice Ao130 t303.length co130] rfl (by (try simp only [List.map_toArray, List.map_cons, List.map_nil]); first | done | rfl | (simp only [List.length_drop, List.length_take]; rfl)) ?_; (with_reducible refine (laws_eqLoanS.calls k _ _ t289 _ _ t303 false _ ?side1 ?side2 ?side3 ?side4 A29.out).mono ?_); (case side1 => repeat (first | exact (Kd.S_reads' HO291.out).2.2 | (with_reducible refine Kd.C_alloc ?_ _) | (with_reducible refine Kd.C_drewN ?_ _) | (with_reducible refine Kd.C_drew ?_))); (case side2 => exact (Kd.S_reads' HO291.out).2.1); (case side3 => repeat (first | exact (Kd.S_reads' HO305.out).2.2 | (with_reducible refine Kd.C_alloc ?_ _) | (with_reducible refine Kd.C_drewN ?_ _) | (with_reducible refine Kd.C_drew ?_))); (case side4 => exact (Kd.S_reads' HO305.out).2.1); rintro e w131 ⟨rfl, hb⟩; refine ⟨_, rfl, ?_⟩; have n0_ := Ad.mk (Kd.R_below (by (with_reducible repeat (first | apply Kd.R_alloc | apply Kd.R_drewN | apply Kd.R_drew)); exact HO276.out) hb); have n1_ := Ad.mk (Kd.S_below (by (with_reducible repeat (first | apply Kd.S_alloc | apply Kd.S_drewN | apply Kd.S_drew)); exact HO279.out) hb); have n2_ := Ad.mk (Kd.R_below (by (with_reducible repeat (first | apply Kd.R_alloc | apply Kd.R_drewN | apply Kd.R_drew)); exact HO284.out) hb); have n3_ := Ad.mk (Kd.R_below (by (with_reducible repeat (first | apply Kd.R_alloc | apply Kd.R_drewN | apply Kd.R_drew)); exact HO288.out) hb); have n4_ := Ad.mk (Kd.S_below (by (with_reducible repeat (first | apply Kd.S_alloc | apply Kd.S_drewN | apply Kd.S_drew)); exact HO291.out) hb); have n5_ := Ad.mk (Kd.R_below (by (with_reducible repeat (first | apply Kd.R_alloc | apply Kd.R_drewN | apply Kd.R_drew)); exact HO296.out) hb); have n6_ := Ad.mk (Kd.R_below (by (with_reducible repeat (first | apply Kd.R_alloc | apply Kd.R_drewN | apply Kd.R_drew)); exact HO301.out) hb); have n7_ := Ad.mk (Kd.S_below (by (with_reducible repeat (first | apply Kd.S_alloc | apply Kd.S_drewN | apply Kd.S_drew)); exact HO305.out) hb); have n8_ := Ad.mk (qa3 (g := gb271) (o := .cells #[.int .i64 a2_0, .int .i64 a2_1, .slice A2_2 l2_2.length c2_2] 47 (0, 0)) (by (with_reducible repeat (first | refine bkN ?_ _ | refine bkd ?_ | refine bka ?_ _)); exact BK271.out) hb); have n9_ := Ad.mk (qa3 (g := gb297) (o := .cells #[.int .i64 t292, .int .i64 t293, .slice Ao121 t294.length co121] 42 (0, 0)) (by (with_reducible repeat (first | refine bkN ?_ _ | refine bkd ?_ | refine bka ?_ _)); exact BK297.out) hb); have n10_ := Ad.mk (qa2 (by repeat (first | (with_reducible first | exact HB.out | apply bwa | apply bwN | apply bw1 | refine bws ?_ GE271.out | refine bws ?_ GE297.out) | exact HB.out)) hb); clear HO276; clear HO279; clear HO284; clear HO288; clear HO291; clear HO296; clear HO301; clear HO305; clear BK271; clear BK297; clear HB; have HO276 := n0_; have HO279 := n1_; have HO284 := n2_; have HO288 := n3_; have HO291 := n4_; have HO296 := n5_; have HO301 := n6_; have HO305 := n7_; have BK271 := n8_; have BK297 := n9_; have HB := n10_; clear n0_ n1_ n2_ n3_ n4_ n5_ n6_ n7_ n8_ n9_ n10_; (try clear hb); (try clear hb2); (try clear hk); (try clear hi)))
       go_ret
       exact ⟨by first | rfl | (simp [errW_none, errW_some] <;> rfl) | (simp [*, errW_none, errW_some] <;> rfl), by repeat (first | (with_reducible first | exact HB.out | apply bwa | apply bwN | apply bw1 | refine bws ?_ GE271.out | refine bws ?_ GE297.out) | exact HB.out)⟩
     ·replace c27 := Bool.eq_false_iff.mpr c27
      subst c27
      have H1 : (some false) = some r := by rw [if_neg (show ¬ (false = true) by decide)] at H; exact H
      clear H
      have H := H1
      clear H1
      obtain rfl := Option.some.inj H
      go_enter Try.func6, Try.ntmps6
      try go_wp2_with (first | ((with_reducible refine gate_dst (N := 5) rfl ?_); refine box_event ?hg (N := 5) ?hd (cs := #[.int .i64 a2_0, .int .i64 a2_1, .slice A2_2 l2_2.length c2_2]) (t := 47) ?hr ?_; (case hd => rfl); (case hg => rfl); (case hr => first | (go_simp; done) | (go_simp; rfl)); intro gb271 hg w132 hbox hb; have n0_ := Ad.mk (qa2 (by repeat (first | (with_reducible first | exact HB.out | apply bwa | apply bwN | apply bw1) | exact HB.out)) hb); have n1_ := Ad.mk (hbox); have n2_ := Ad.mk ((by rw [hg]; exact (qa0 (by repeat (first | (with_reducible first | exact HB.out | apply bwa | apply bwN | apply bw1) | exact HB.out))) : w.heap.size ≤ gb271)); have n3_ := Ad.mk ((by rw [hg]; exact (qa0 (by repeat (first | (with_reducible first | exact HB.out | apply bwa | apply bwN | apply bw1) | exact HB.out))) : w.heap.size ≤ gb271)); clear HB; have HB := n0_; have BK271 := n1_; have GW271 := n2_; have GE271 := n3_; clear n0_ n1_ n2_ n3_; clear hb hbox hg) | ((with_reducible refine qa4 (f := 15) rfl ?_); refine goesL_ (some 18) rfl rfl Try.func15 (by kernel_rfl) rfl #[.slice A1 l1.length c1, .int .i64 1048576] rfl (by (try simp only [List.map_toArray, List.map_cons, List.map_nil]); first | done | rfl | (simp only [List.length_drop, List.length_take]; rfl)) ?_; (with_reducible refine (laws_szLoanS.calls k _ _ l1 1048576 t272 _ ?side1 ?side2 A6.out).mono ?_); (case side1 => repeat (first | exact (Kd.C_below HR1.out HB.out) | (with_reducible refine Kd.C_alloc ?_ _) | (with_reducible refine Kd.C_drewN ?_ _) | (with_reducible refine Kd.C_drew ?_))); (case side2 => exact HC1.out); rintro e w133 ⟨rfl, hb⟩; refine ⟨_, rfl, ?_⟩; have n0_ := Ad.mk (qa3 (g := gb271) (o := .cells #[.int .i64 a2_0, .int .i64 a2_1, .slice A2_2 l2_2.length c2_2] 47 (0, 0)) (by (with_reducible repeat (first | refine bkN ?_ _ | refine bkd ?_ | refine bka ?_ _)); exact BK271.out) hb); have n1_ := Ad.mk (qa2 (by repeat (first | (with_reducible first | exact HB.out | apply bwa | apply bwN | apply bw1 | refine bws ?_ GE271.out) | exact HB.out)) hb); clear BK271; clear HB; have BK271 := n0_; have HB := n1_; clear n0_ n1_; (try clear hb); (try clear hb2); (try clear hk); (try clear hi); have hcz134_0 : w133.cell? ⟨gb271, 0, none⟩ = some (.int .i64 a2_0) := (bkc BK271.out 0).trans rfl; have hcz134_1 : w133.cell? ⟨gb271, 1, none⟩ = some (.int .i64 a2_1) := (bkc BK271.out 1).trans rfl; have hcz134_2 : w133.cell? ⟨gb271, 2, none⟩ = some (.slice A2_2 l2_2.length c2_2) := (bkc BK271.out 2).trans rfl; have hfz134_0 := qa1 BK271.out 0; have hfz134_1 := qa1 BK271.out 1; have hfz134_2 := qa1 BK271.out 2) | ((with_reducible refine qa4 (f := 26) rfl ?_); refine goesL_ (some 23) rfl rfl Try.func26 (by kernel_rfl) rfl #[.agg #[.int .i64 a2_0, .int .i64 a2_1, .slice A2_2 l2_2.length c2_2], .int .i64 t272] rfl (by (try simp only [List.map_toArray, List.map_cons, List.map_nil]); first | done | rfl | (simp only [List.length_drop, List.length_take]; rfl)) ?_; (with_reducible refine (laws_szLoan.calls a2_0 a2_1 _ _ l2_2 t272 t273 _ ?side1 ?side2 A10.out).mono ?_); (case side1 => repeat (first | exact (Kd.C_below HR2_2.out HB.out) | (with_reducible refine Kd.C_alloc ?_ _) | (with_reducible refine Kd.C_drewN ?_ _) | (with_reducible refine Kd.C_drew ?_))); (case side2 => exact HC2_2.out); rintro e w135 ⟨rfl, hb⟩; refine ⟨_, rfl, ?_⟩; have n0_ := Ad.mk (qa3 (g := gb271) (o := .cells #[.int .i64 a2_0, .int .i64 a2_1, .slice A2_2 l2_2.length c2_2] 47 (0, 0)) (by (with_reducible repeat (first | refine bkN ?_ _ | refine bkd ?_ | refine bka ?_ _)); exact BK271.out) hb); have n1_ := Ad.mk (qa2 (by repeat (first | (with_reducible first | exact HB.out | apply bwa | apply bwN | apply bw1 | refine bws ?_ GE271.out) | exact HB.out)) hb); clear BK271; clear HB; have BK271 := n0_; have HB := n1_; clear n0_ n1_; (try clear hb); (try clear hb2); (try clear hk); (try clear hi)))
      have n0_ := Ad.mk (bkd BK271.out)
      have n1_ := Ad.mk (bw1 HB.out)
      clear BK271
      clear HB
      have BK271 := n0_
      have HB := n1_
      clear n0_ n1_
      refine start_ (n := 8) (S := fun w' => w'.cell? ⟨gb271, 0, none⟩ = some (.int .i64 a2_0) ∧ w'.cell? ⟨gb271, 1, none⟩ = some (.int .i64 a2_1) ∧ w'.cell? ⟨gb271, 2, none⟩ = some (.slice A2_2 l2_2.length c2_2)) (ds := []) #[false, false, false, false, false, false, false, false] (by kernel_rfl) rfl rfl ⟨(bkc BK271.out 0).trans rfl, (bkc BK271.out 1).trans rfl, (bkc BK271.out 2).trans rfl⟩ (fun hHeld => ?_); refine with_tabW laws_FnExactMostLoan.tab10 laws_FnExactMostLoan.bits10 (fun HT_ HW_ => ?_)
      generalize w135.drew = w136 at BK271 HB hHeld ⊢
      refine pure_ (i := 0) (N := some 26) (v := ?_) (a' := ?_) #[true, false, false, false, false, false, false, false] rfl rfl (any_of HT_.out (by kernel_rfl)) (fun _ _ _ h => h) (Or.inl ⟨by rfl, ?_⟩) ?_ ?_
      rotate_left
      ·intro w'
       go_simp
       with_reducible rfl
      rotate_left
      ·simp only [Act.put, List.setIfInBounds_toArray, List.set_cons_zero, List.set_cons_succ, qa5, qa6]
       rfl
      refine pure_ (i := 2) (N := some 28) (v := ?_) (a' := ?_) #[true, false, true, false, false, false, false, false] rfl rfl (any_of HT_.out (by kernel_rfl)) (fun _ _ _ h => h) (Or.inl ⟨by rfl, ?_⟩) ?_ ?_
      rotate_left
      ·intro w'
       go_simp
       with_reducible rfl
      rotate_left
      ·simp only [Act.put, List.setIfInBounds_toArray, List.set_cons_zero, List.set_cons_succ, qa5, qa6]
       rfl
      refine take_ (i := 4) (N := some 30) (v := ?_) (a' := ?_) #[true, false, true, false, true, false, false, false] rfl rfl (take_ofW HT_.out HW_.out (by kernel_rfl)) (fun _ _ _ h => h) (Or.inl ⟨by rfl, ?_⟩) hHeld ?_ ?_
      rotate_left
      ·rintro w' ⟨s0, s1, s2⟩
       go_simp
       with_reducible rfl
      rotate_left
      ·simp only [Act.put, List.setIfInBounds_toArray, List.set_cons_zero, List.set_cons_succ, qa5, qa6]
       rfl
      refine one_ (i := 1) (N := some 27) #[true, true, true, false, true, false, false, false] rfl rfl (one_of HT_.out (by kernel_rfl)) (by decide) (fun K hK => ?_)
      refine goes_ Try.func27 (by kernel_rfl) rfl #[.slice A0 l0.length c0] (by rfl) rfl rfl (by (try simp only [List.map_toArray, List.map_cons, List.map_nil]); first | done | rfl | (simp only [List.length_drop, List.length_take]; rfl)) ?_
      with_reducible refine (laws_toIntS.calls k _ _ l0 t274 _ ?side1 ?side2 A16.out).mono ?_
      (case side1 => repeat (first | exact (Kd.C_below HR0.out HB.out) | (with_reducible refine Kd.C_alloc ?_ _) | (with_reducible refine Kd.C_drewN ?_ _) | (with_reducible refine Kd.C_drew ?_)))
      (case side2 => exact HC0.out)
      rintro e w137 ⟨v275, rfl, ho0, hb⟩
      refine ⟨_, rfl, ?_⟩
      have n0_ := Ad.mk (Kd.R_lower ho0 (qa0 (by repeat (first | (with_reducible first | exact HB.out | apply bwa | apply bwN | apply bw1 | refine bws ?_ GE271.out) | exact HB.out))))
      have n1_ := Ad.mk (qa3 (g := gb271) (o := .cells #[.int .i64 a2_0, .int .i64 a2_1, .slice A2_2 l2_2.length c2_2] 47 (0, 0)) (by (with_reducible repeat (first | refine bkN ?_ _ | refine bkd ?_ | refine bka ?_ _)); exact BK271.out) hb)
      have n2_ := Ad.mk (qa2 (by repeat (first | (with_reducible first | exact HB.out | apply bwa | apply bwN | apply bw1 | refine bws ?_ GE271.out) | exact HB.out)) hb)
      clear BK271
      clear HB
      have HO276 := n0_
      have BK271 := n1_
      have HB := n2_
      clear n0_ n1_ n2_
      (try clear hb)
      (try clear hb2)
      (try clear hk)
      (try clear hi)
      (try clear ho0)
      refine hK.out _ _ ⟨(bkc BK271.out 0).trans rfl, (bkc BK271.out 1).trans rfl, (bkc BK271.out 2).trans rfl⟩ (fun hHeld => ?_)
      clear hK K
      refine norm_ (a' := ?_) ?_ ?_
      rotate_left
      ·show Act.put _ (some 27) _ = _
       simp only [Act.put, List.setIfInBounds_toArray, List.set_cons_zero, List.set_cons_succ, qa5, qa6]
       rfl
      refine one_ (i := 3) (N := some 29) #[true, true, true, true, true, false, false, false] rfl rfl (one_of HT_.out (by kernel_rfl)) (by decide) (fun K hK => ?_)
      refine goes_ Try.func17 (by kernel_rfl) rfl #[.slice A1 l1.length c1] (by rfl) rfl rfl (by (try simp only [List.map_toArray, List.map_cons, List.map_nil]); first | done | rfl | (simp only [List.length_drop, List.length_take]; rfl)) ?_
      with_reducible refine (laws_toLoanS.calls k _ _ l1 t277 _ ?side1 ?side2 A17.out).mono ?_
      (case side1 => repeat (first | exact (Kd.C_below HR1.out HB.out) | (with_reducible refine Kd.C_alloc ?_ _) | (with_reducible refine Kd.C_drewN ?_ _) | (with_reducible refine Kd.C_drew ?_)))
      (case side2 => exact HC1.out)
      rintro e w138 ⟨v278, rfl, ho0, hb⟩
      refine ⟨_, rfl, ?_⟩
      have n0_ := Ad.mk (Kd.R_below (by (with_reducible repeat (first | apply Kd.R_alloc | apply Kd.R_drewN | apply Kd.R_drew)); exact HO276.out) hb)
      have n1_ := Ad.mk (Kd.S_lower (Kd.S_new' ho0 (Kd.R_lt (by (with_reducible repeat (first | apply Kd.R_alloc | apply Kd.R_drewN | apply Kd.R_drew)); exact HO276.out))) (qa0 (by repeat (first | (with_reducible first | exact HB.out | apply bwa | apply bwN | apply bw1 | refine bws ?_ GE271.out) | exact HB.out))))
      have n2_ := Ad.mk (qa3 (g := gb271) (o := .cells #[.int .i64 a2_0, .int .i64 a2_1, .slice A2_2 l2_2.length c2_2] 47 (0, 0)) (by (with_reducible repeat (first | refine bkN ?_ _ | refine bkd ?_ | refine bka ?_ _)); exact BK271.out) hb)
      have n3_ := Ad.mk (qa2 (by repeat (first | (with_reducible first | exact HB.out | apply bwa | apply bwN | apply bw1 | refine bws ?_ GE271.out) | exact HB.out)) hb)
      clear HO276
      clear BK271
      clear HB
      have HO276 := n0_
      have HO279 := n1_
      have BK271 := n2_
      have HB := n3_
      clear n0_ n1_ n2_ n3_
      (try clear hb)
      (try clear hb2)
      (try clear hk)
      (try clear hi)
      (try clear ho0)
      refine hK.out _ _ ⟨(bkc BK271.out 0).trans rfl, (bkc BK271.out 1).trans rfl, (bkc BK271.out 2).trans rfl⟩ (fun hHeld => ?_)
      clear hK K
      refine norm_ (a' := ?_) ?_ ?_
      rotate_left
      ·show Act.put _ (some 29) _ = _
       simp only [Act.put, List.setIfInBounds_toArray, List.set_cons_zero, List.set_cons_succ, qa5, qa6]
       rfl
      refine one_ (i := 5) (N := some 31) #[true, true, true, true, true, true, false, false] rfl rfl (one_of HT_.out (by kernel_rfl)) (by decide) (fun K hK => ?_)
      refine goes_ Try.func28 (by kernel_rfl) rfl #[.agg #[.int .i64 a2_0, .int .i64 a2_1, .slice A2_2 l2_2.length c2_2]] (by rfl) rfl rfl (by (try simp only [List.map_toArray, List.map_cons, List.map_nil]); first | done | rfl | (simp only [List.length_drop, List.length_take]; rfl)) ?_
      with_reducible refine (laws_toLoan.calls k a2_0 a2_1 _ _ l2_2 t280 t281 t282 _ ?side1 ?side2 A18.out).mono ?_
      (case side1 => repeat (first | exact (Kd.C_below HR2_2.out HB.out) | (with_reducible refine Kd.C_alloc ?_ _) | (with_reducible refine Kd.C_drewN ?_ _) | (with_reducible refine Kd.C_drew ?_)))
      (case side2 => exact HC2_2.out)
      rintro e w139 ⟨v283, rfl, ho0, hb⟩
      refine ⟨_, rfl, ?_⟩
      have n0_ := Ad.mk (Kd.R_elder' (by (with_reducible repeat (first | apply Kd.R_alloc | apply Kd.R_drewN | apply Kd.R_drew)); exact HO276.out) (Kd.R_base ho0) hb)
      have n1_ := Ad.mk (Kd.S_elder' (by (with_reducible repeat (first | apply Kd.S_alloc | apply Kd.S_drewN | apply Kd.S_drew)); exact HO279.out) (Kd.R_base ho0) hb)
      have n2_ := Ad.mk (Kd.R_lower (Kd.R_new' ho0 (Kd.R_lt (by (with_reducible repeat (first | apply Kd.R_alloc | apply Kd.R_drewN | apply Kd.R_drew)); exact HO276.out))) (qa0 (by repeat (first | (with_reducible first | exact HB.out | apply bwa | apply bwN | apply bw1 | refine bws ?_ GE271.out) | exact HB.out))))
      have n3_ := Ad.mk (qa3 (g := gb271) (o := .cells #[.int .i64 a2_0, .int .i64 a2_1, .slice A2_2 l2_2.length c2_2] 47 (0, 0)) (by (with_reducible repeat (first | refine bkN ?_ _ | refine bkd ?_ | refine bka ?_ _)); exact BK271.out) hb)
      have n4_ := Ad.mk (qa2 (by repeat (first | (with_reducible first | exact HB.out | apply bwa | apply bwN | apply bw1 | refine bws ?_ GE271.out) | exact HB.out)) hb)
      clear HO276
      clear HO279
      clear BK271
      clear HB
      have HO276 := n0_
      have HO279 := n1_
      have HO284 := n2_
      have BK271 := n3_
      have HB := n4_
      clear n0_ n1_ n2_ n3_ n4_
      (try clear hb)
      (try clear hb2)
      (try clear hk)
      (try clear hi)
      (try clear ho0)
      obtain ⟨Ao140, co140, eo140⟩ := Kd.R_slice HO276.out
      (first | subst eo140 | (injection eo140 with f1_ f2_ f3_; have f4_ := f1_.symm; have f5_ := f3_.symm; clear f1_ f2_ f3_; subst f4_; subst f5_))
      obtain ⟨Ao141, co141, eo141⟩ := Kd.S_slice HO279.out
      (first | subst eo141 | (injection eo141 with f1_ f2_ f3_; have f4_ := f1_.symm; have f5_ := f3_.symm; clear f1_ f2_ f3_; subst f4_; subst f5_))
      obtain ⟨Ao142, co142, eo142⟩ := Kd.R_slice HO284.out
      (first | subst eo142 | (injection eo142 with f1_ f2_ f3_; have f4_ := f1_.symm; have f5_ := f3_.symm; clear f1_ f2_ f3_; subst f4_; subst f5_))
      refine hK.out _ _ ⟨(bkc BK271.out 0).trans rfl, (bkc BK271.out 1).trans rfl, (bkc BK271.out 2).trans rfl⟩ (fun hHeld => ?_)
      clear hK K
      refine norm_ (a' := ?_) ?_ ?_
      rotate_left
      ·show Act.put _ (some 31) _ = _
       simp only [Act.put, List.setIfInBounds_toArray, List.set_cons_zero, List.set_cons_succ, qa5, qa6]
       rfl
      refine one_ (i := 6) (N := some 32) #[true, true, true, true, true, true, true, false] rfl rfl (one_of HT_.out (by kernel_rfl)) (by decide) (fun K hK => ?_)
      refine goes_ Try.func24 (by kernel_rfl) rfl #[.slice Ao140 t274.length co140, .slice Ao141 t277.length co141, .agg #[.int .i64 t280, .int .i64 t281, .slice Ao142 t282.length co142]] (by rfl) rfl rfl (by (try simp only [List.map_toArray, List.map_cons, List.map_nil]); first | done | rfl | (simp only [List.length_drop, List.length_take]; rfl)) ?_
      with_reducible refine (spec_MostLoan.calls k _ _ t274 (fun k_ => (((True ∧ some k_ ≠ (.slice Ao140 t274.length co140 : Value).ownBlock) ∧ some k_ ≠ (.slice Ao142 t282.length co142 : Value).ownBlock) ∧ k_ ≠ gb271)) _ _ t277 t280 t281 (fun k_ => some k_ = (.slice Ao142 t282.length co142 : Value).ownBlock) _ _ t282 t285 _ ?side1 ?side2 ?side3 ?side4 A19.out).mono ?_
      (case side1 => repeat (first | exact (Kd.R_reads' HO276.out).2.2 | (with_reducible refine Kd.C_alloc ?_ _) | (with_reducible refine Kd.C_drewN ?_ _) | (with_reducible refine Kd.C_drew ?_)))
      (case side2 => exact (Kd.R_reads' HO276.out).2.1)
      (case side3 => exact Kd.S_V (Kd.S_types (HO279.out) BK271.out (by decide)))
      (case side4 => exact Kd.R_V (Kd.R_tight rfl (Kd.R_types (Kd.R_apart' (HO284.out) (Kd.S_typed HO279.out) (by decide)) BK271.out (by decide))))
      rintro e w143 ⟨rfl, hb⟩
      refine ⟨_, rfl, ?_⟩
      have n0_ := Ad.mk (Kd.R_below (by (with_reducible repeat (first | apply Kd.R_alloc | apply Kd.R_drewN | apply Kd.R_drew)); exact HO276.out) hb)
      have n1_ := Ad.mk (Kd.S_below (by (with_reducible repeat (first | apply Kd.S_alloc | apply Kd.S_drewN | apply Kd.S_drew)); exact HO279.out) hb)
      have n2_ := Ad.mk (Kd.R_below (by (with_reducible repeat (first | apply Kd.R_alloc | apply Kd.R_drewN | apply Kd.R_drew)); exact HO284.out) hb)
      have n3_ := Ad.mk (qa3 (g := gb271) (o := .cells #[.int .i64 a2_0, .int .i64 a2_1, .slice A2_2 l2_2.length c2_2] 47 (0, 0)) (by (with_reducible repeat (first | refine bkN ?_ _ | refine bkd ?_ | refine bka ?_ _)); exact BK271.out) hb)
      have n4_ := Ad.mk (qa2 (by repeat (first | (with_reducible first | exact HB.out | apply bwa | apply bwN | apply bw1 | refine bws ?_ GE271.out) | exact HB.out)) hb)
      clear HO276
      clear HO279
      clear HO284
      clear BK271
      clear HB
      have HO276 := n0_
      have HO279 := n1_
      have HO284 := n2_
      have BK271 := n3_
      have HB := n4_
      clear n0_ n1_ n2_ n3_ n4_
      (try clear hb)
      (try clear hb2)
      (try clear hk)
      (try clear hi)
      refine hK.out _ _ ⟨(bkc BK271.out 0).trans rfl, (bkc BK271.out 1).trans rfl, (bkc BK271.out 2).trans rfl⟩ (fun hHeld => ?_)
      clear hK K
      refine norm_ (a' := ?_) ?_ ?_
      rotate_left
      ·show Act.put _ (some 32) _ = _
       simp only [Act.put, List.setIfInBounds_toArray, List.set_cons_zero, List.set_cons_succ, qa5, qa6]
       rfl
      refine pure_ (i := 7) (N := some 8) (v := ?_) (a' := ?_) #[true, true, true, true, true, true, true, true] rfl rfl (any_of HT_.out (by kernel_rfl)) (fun _ _ _ h => h) (Or.inl ⟨by rfl, ?_⟩) ?_ ?_
      rotate_left
      ·intro w'
       go_simp
       with_reducible rfl
      rotate_left
      ·simp only [Act.put, List.setIfInBounds_toArray, List.set_cons_zero, List.set_cons_succ, qa5, qa6]
       rfl
      refine done_ (done_of HT_.out (by kernel_rfl)) ?_
      try go_wp2_with (first | ((with_reducible refine qa4 (f := 27) rfl ?_); refine goesL_ (some 34) rfl rfl Try.func27 (by kernel_rfl) rfl #[.slice A0 l0.length c0] rfl (by (try simp only [List.map_toArray, List.map_cons, List.map_nil]); first | done | rfl | (simp only [List.length_drop, List.length_take]; rfl)) ?_; (with_reducible refine (laws_toIntS.calls k _ _ l0 t286 _ ?side1 ?side2 A20.out).mono ?_); (case side1 => repeat (first | exact (Kd.C_below HR0.out HB.out) | (with_reducible refine Kd.C_alloc ?_ _) | (with_reducible refine Kd.C_drewN ?_ _) | (with_reducible refine Kd.C_drew ?_))); (case side2 => exact HC0.out); rintro e w144 ⟨v287, rfl, ho0, hb⟩; refine ⟨_, rfl, ?_⟩; have n0_ := Ad.mk (Kd.R_elder' (by (with_reducible repeat (first | apply Kd.R_alloc | apply Kd.R_drewN | apply Kd.R_drew)); exact HO276.out) (Kd.R_base ho0) hb); have n1_ := Ad.mk (Kd.S_elder' (by (with_reducible repeat (first | apply Kd.S_alloc | apply Kd.S_drewN | apply Kd.S_drew)); exact HO279.out) (Kd.R_base ho0) hb); have n2_ := Ad.mk (Kd.R_elder' (by (with_reducible repeat (first | apply Kd.R_alloc | apply Kd.R_drewN | apply Kd.R_drew)); exact HO284.out) (Kd.R_base ho0) hb); have n3_ := Ad.mk (Kd.R_lower (Kd.R_new' (Kd.R_new' ho0 (Kd.R_lt (by (with_reducible repeat (first | apply Kd.R_alloc | apply Kd.R_drewN | apply Kd.R_drew)); exact HO276.out))) (Kd.R_lt (by (with_reducible repeat (first | apply Kd.R_alloc | apply Kd.R_drewN | apply Kd.R_drew)); exact HO284.out))) (qa0 (by repeat (first | (with_reducible first | exact HB.out | apply bwa | apply bwN | apply bw1 | refine bws ?_ GE271.out) | exact HB.out)))); have n4_ := Ad.mk (qa3 (g := gb271) (o := .cells #[.int .i64 a2_0, .int .i64 a2_1, .slice A2_2 l2_2.length c2_2] 47 (0, 0)) (by (with_reducible repeat (first | refine bkN ?_ _ | refine bkd ?_ | refine bka ?_ _)); exact BK271.out) hb); have n5_ := Ad.mk (qa2 (by repeat (first | (with_reducible first | exact HB.out | apply bwa | apply bwN | apply bw1 | refine bws ?_ GE271.out) | exact HB.out)) hb); clear HO276; clear HO279; clear HO284; clear BK271; clear HB; have HO276 := n0_; have HO279 := n1_; have HO284 := n2_; have HO288 := n3_; have BK271 := n4_; have HB := n5_; clear n0_ n1_ n2_ n3_ n4_ n5_; (try clear hb); (try clear hb2); (try clear hk); (try clear hi); (try clear ho0)) | ((with_reducible refine qa4 (f := 17) rfl ?_); refine goesL_ (some 36) rfl rfl Try.func17 (by kernel_rfl) rfl #[.slice A1 l1.length c1] rfl (by (try simp only [List.map_toArray, List.map_cons, List.map_nil]); first | done | rfl | (simp only [List.length_drop, List.length_take]; rfl)) ?_; (with_reducible refine (laws_toLoanS.calls k _ _ l1 t289 _ ?side1 ?side2 A21.out).mono ?_); (case side1 => repeat (first | exact (Kd.C_below HR1.out HB.out) | (with_reducible refine Kd.C_alloc ?_ _) | (with_reducible refine Kd.C_drewN ?_ _) | (with_reducible refine Kd.C_drew ?_))); (case side2 => exact HC1.out); rintro e w145 ⟨v290, rfl, ho0, hb⟩; refine ⟨_, rfl, ?_⟩; have n0_ := Ad.mk (Kd.R_below (by (with_reducible repeat (first | apply Kd.R_alloc | apply Kd.R_drewN | apply Kd.R_drew)); exact HO276.out) hb); have n1_ := Ad.mk (Kd.S_elder' (by (with_reducible repeat (first | apply Kd.S_alloc | apply Kd.S_drewN | apply Kd.S_drew)); exact HO279.out) (Kd.S_base ho0) hb); have n2_ := Ad.mk (Kd.R_below (by (with_reducible repeat (first | apply Kd.R_alloc | apply Kd.R_drewN | apply Kd.R_drew)); exact HO284.out) hb); have n3_ := Ad.mk (Kd.R_below (by (with_reducible repeat (first | apply Kd.R_alloc | apply Kd.R_drewN | apply Kd.R_drew)); exact HO288.out) hb); have n4_ := Ad.mk (Kd.S_lower (Kd.S_new' (Kd.S_new' (Kd.S_new' (Kd.S_new' ho0 (Kd.R_lt (by (with_reducible repeat (first | apply Kd.R_alloc | apply Kd.R_drewN | apply Kd.R_drew)); exact HO276.out))) (Kd.S_lt (by (with_reducible repeat (first | apply Kd.S_alloc | apply Kd.S_drewN | apply Kd.S_drew)); exact HO279.out))) (Kd.R_lt (by (with_reducible repeat (first | apply Kd.R_alloc | apply Kd.R_drewN | apply Kd.R_drew)); exact HO284.out))) (Kd.R_lt (by (with_reducible repeat (first | apply Kd.R_alloc | apply Kd.R_drewN | apply Kd.R_drew)); exact HO288.out))) (qa0 (by repeat (first | (with_reducible first | exact HB.out | apply bwa | apply bwN | apply bw1 | refine bws ?_ GE271.out) | exact HB.out)))); have n5_ := Ad.mk (qa3 (g := gb271) (o := .cells #[.int .i64 a2_0, .int .i64 a2_1, .slice A2_2 l2_2.length c2_2] 47 (0, 0)) (by (with_reducible repeat (first | refine bkN ?_ _ | refine bkd ?_ | refine bka ?_ _)); exact BK271.out) hb); have n6_ := Ad.mk (qa2 (by repeat (first | (with_reducible first | exact HB.out | apply bwa | apply bwN | apply bw1 | refine bws ?_ GE271.out) | exact HB.out)) hb); clear HO276; clear HO279; clear HO284; clear HO288; clear BK271; clear HB; have HO276 := n0_; have HO279 := n1_; have HO284 := n2_; have HO288 := n3_; have HO291 := n4_; have BK271 := n5_; have HB := n6_; clear n0_ n1_ n2_ n3_ n4_ n5_ n6_; (try clear hb); (try clear hb2); (try clear hk); (try clear hi); (try clear ho0); have hcz146_0 : w145.cell? ⟨gb271, 0, none⟩ = some (.int .i64 a2_0) := (bkc BK271.out 0).trans rfl; have hcz146_1 : w145.cell? ⟨gb271, 1, none⟩ = some (.int .i64 a2_1) := (bkc BK271.out 1).trans rfl; have hcz146_2 : w145.cell? ⟨gb271, 2, none⟩ = some (.slice A2_2 l2_2.length c2_2) := (bkc BK271.out 2).trans rfl; have hfz146_0 := qa1 BK271.out 0; have hfz146_1 := qa1 BK271.out 1; have hfz146_2 := qa1 BK271.out 2) | ((with_reducible refine qa4 (f := 28) rfl ?_); refine goesL_ (some 38) rfl rfl Try.func28 (by kernel_rfl) rfl #[.agg #[.int .i64 a2_0, .int .i64 a2_1, .slice A2_2 l2_2.length c2_2]] rfl (by (try simp only [List.map_toArray, List.map_cons, List.map_nil]); first | done | rfl | (simp only [List.length_drop, List.length_take]; rfl)) ?_; (with_reducible refine (laws_toLoan.calls k a2_0 a2_1 _ _ l2_2 t292 t293 t294 _ ?side1 ?side2 A22.out).mono ?_); (case side1 => repeat (first | exact (Kd.C_below HR2_2.out HB.out) | (with_reducible refine Kd.C_alloc ?_ _) | (with_reducible refine Kd.C_drewN ?_ _) | (with_reducible refine Kd.C_drew ?_))); (case side2 => exact HC2_2.out); rintro e w147 ⟨v295, rfl, ho0, hb⟩; refine ⟨_, rfl, ?_⟩; have n0_ := Ad.mk (Kd.R_elder' (by (with_reducible repeat (first | apply Kd.R_alloc | apply Kd.R_drewN | apply Kd.R_drew)); exact HO276.out) (Kd.R_base ho0) hb); have n1_ := Ad.mk (Kd.S_elder' (by (with_reducible repeat (first | apply Kd.S_alloc | apply Kd.S_drewN | apply Kd.S_drew)); exact HO279.out) (Kd.R_base ho0) hb); have n2_ := Ad.mk (Kd.R_elder' (by (with_reducible repeat (first | apply Kd.R_alloc | apply Kd.R_drewN | apply Kd.R_drew)); exact HO284.out) (Kd.R_base ho0) hb); have n3_ := Ad.mk (Kd.R_elder' (by (with_reducible repeat (first | apply Kd.R_alloc | apply Kd.R_drewN | apply Kd.R_drew)); exact HO288.out) (Kd.R_base ho0) hb); have n4_ := Ad.mk (Kd.S_elder' (by (with_reducible repeat (first | apply Kd.S_alloc | apply Kd.S_drewN | apply Kd.S_drew)); exact HO291.out) (Kd.R_base ho0) hb); have n5_ := Ad.mk (Kd.R_lower (Kd.R_new' (Kd.R_new' (Kd.R_new' ho0 (Kd.R_lt (by (with_reducible repeat (first | apply Kd.R_alloc | apply Kd.R_drewN | apply Kd.R_drew)); exact HO276.out))) (Kd.R_lt (by (with_reducible repeat (first | apply Kd.R_alloc | apply Kd.R_drewN | apply Kd.R_drew)); exact HO284.out))) (Kd.R_lt (by (with_reducible repeat (first | apply Kd.R_alloc | apply Kd.R_drewN | apply Kd.R_drew)); exact HO288.out))) (qa0 (by repeat (first | (with_reducible first | exact HB.out | apply bwa | apply bwN | apply bw1 | refine bws ?_ GE271.out) | exact HB.out)))); have n6_ := Ad.mk (qa3 (g := gb271) (o := .cells #[.int .i64 a2_0, .int .i64 a2_1, .slice A2_2 l2_2.length c2_2] 47 (0, 0)) (by (with_reducible repeat (first | refine bkN ?_ _ | refine bkd ?_ | refine bka ?_ _)); exact BK271.out) hb); have n7_ := Ad.mk (qa2 (by repeat (first | (with_reducible first | exact HB.out | apply bwa | apply bwN | apply bw1 | refine bws ?_ GE271.out) | exact HB.out)) hb); clear HO276; clear HO279; clear HO284; clear HO288; clear HO291; clear BK271; clear HB; have HO276 := n0_; have HO279 := n1_; have HO284 := n2_; have HO288 := n3_; have HO291 := n4_; have HO296 := n5_; have BK271 := n6_; have HB := n7_; clear n0_ n1_ n2_ n3_ n4_ n5_ n6_ n7_; (try clear hb); (try clear hb2); (try clear hk); (try clear hi); (try clear ho0)) | ((with_reducible refine gate_dst (N := 11) rfl ?_); refine box_event ?hg (N := 11) ?hd (cs := #[.int .i64 0, .int .i64 0, .slice none 0 0]) (t := 42) ?hr ?_; (case hd => rfl); (case hg => rfl); (case hr => first | (go_simp; done) | (go_simp; rfl)); intro gb297 hg w148 hbox hb; have n0_ := Ad.mk (Kd.R_below (by (with_reducible repeat (first | apply Kd.R_alloc | apply Kd.R_drewN | apply Kd.R_drew)); exact HO276.out) hb); have n1_ := Ad.mk (Kd.S_below (Kd.S_elderB (by (with_reducible repeat (first | apply Kd.S_alloc | apply Kd.S_drewN | apply Kd.S_drew)); exact HO279.out) gb297 (Nat.le_of_eq hg.symm)) hb); have n2_ := Ad.mk (Kd.R_below (by (with_reducible repeat (first | apply Kd.R_alloc | apply Kd.R_drewN | apply Kd.R_drew)); exact HO284.out) hb); have n3_ := Ad.mk (Kd.R_below (by (with_reducible repeat (first | apply Kd.R_alloc | apply Kd.R_drewN | apply Kd.R_drew)); exact HO288.out) hb); have n4_ := Ad.mk (Kd.S_below (Kd.S_elderB (by (with_reducible repeat (first | apply Kd.S_alloc | apply Kd.S_drewN | apply Kd.S_drew)); exact HO291.out) gb297 (Nat.le_of_eq hg.symm)) hb); have n5_ := Ad.mk (Kd.R_below (by (with_reducible repeat (first | apply Kd.R_alloc | apply Kd.R_drewN | apply Kd.R_drew)); exact HO296.out) hb); have n6_ := Ad.mk (qa3 (g := gb271) (o := .cells #[.int .i64 a2_0, .int .i64 a2_1, .slice A2_2 l2_2.length c2_2] 47 (0, 0)) (by (with_reducible repeat (first | refine bkN ?_ _ | refine bkd ?_ | refine bka ?_ _)); exact BK271.out) hb); have n7_ := Ad.mk (qa2 (by repeat (first | (with_reducible first | exact HB.out | apply bwa | apply bwN | apply bw1 | refine bws ?_ GE271.out) | exact HB.out)) hb); have n8_ := Ad.mk (hbox); have n9_ := Ad.mk ((by rw [hg]; exact (qa0 (by repeat (first | (with_reducible first | exact HB.out | apply bwa | apply bwN | apply bw1 | refine bws ?_ GE271.out) | exact HB.out))) : w.heap.size ≤ gb297)); have n10_ := Ad.mk ((by rw [hg]; exact (qa0 (by repeat (first | (with_reducible first | exact HB.out | apply bwa | apply bwN | apply bw1 | refine bws ?_ GE271.out) | exact HB.out))) : w.heap.size ≤ gb297)); have n11_ := Ad.mk ((by rw [hg]; exact Nat.ne_of_lt (blk_lt (g := gb271) (o := .cells #[.int .i64 a2_0, .int .i64 a2_1, .slice A2_2 l2_2.length c2_2] 47 (0, 0)) (by (with_reducible repeat (first | refine bkN ?_ _ | refine bkd ?_ | refine bka ?_ _)); exact BK271.out)) : gb271 ≠ gb297)); have n12_ := Ad.mk ((by rw [hg]; exact Nat.ne_of_gt (blk_lt (g := gb271) (o := .cells #[.int .i64 a2_0, .int .i64 a2_1, .slice A2_2 l2_2.length c2_2] 47 (0, 0)) (by (with_reducible repeat (first | refine bkN ?_ _ | refine bkd ?_ | refine bka ?_ _)); exact BK271.out)) : gb297 ≠ gb271)); clear HO276; clear HO279; clear HO284; clear HO288; clear HO291; clear HO296; clear BK271; clear HB; have HO276 := n0_; have HO279 := n1_; have HO284 := n2_; have HO288 := n3_; have HO291 := n4_; have HO296 := n5_; have BK271 := n6_; have HB := n7_; have BK297 := n8_; have GW297 := n9_; have GE297 := n10_; have NB271_297 := n11_; have NB297_271 := n12_; clear n0_ n1_ n2_ n3_ n4_ n5_ n6_ n7_ n8_ n9_ n10_ n11_ n12_; clear hb hbox hg; have hnb149 := NB297_271.out; have hnc149 := NB271_297.out; have hcz150_0 : w148.cell? ⟨gb297, 0, none⟩ = some (.int .i64 0) := (bkc BK297.out 0).trans rfl; have hcz150_1 : w148.cell? ⟨gb297, 1, none⟩ = some (.int .i64 0) := (bkc BK297.out 1).trans rfl; have hcz150_2 : w148.cell? ⟨gb297, 2, none⟩ = some (.slice none 0 0) := (bkc BK297.out 2).trans rfl; have hfz150_0 := qa1 BK297.out 0; have hfz150_1 := qa1 BK297.out 1; have hfz150_2 := qa1 BK297.out 2; obtain ⟨Ao151, co151, eo151⟩ := Kd.R_slice HO296.out; subst eo151) | ((with_reducible refine gate_store (t := 42) (p := 11) rfl ?_); refine store_event (t := 42) (p := 11) (v := ?vo_w152) (w1 := (((w148.setCell ⟨gb297, 0, none⟩ (.int .i64 t292)).setCell ⟨gb297, 1, none⟩ (.int .i64 t293)).setCell ⟨gb297, 2, none⟩ (.slice Ao151 t294.length co151))) ?hg ?ho ?hn ?hr ?_; (case ho => rfl); (case hg => rfl); (case hn => rfl); (case hr => first | (go_simp; done) | (go_simp; rfl)); intro w152 hw; have n0_ : Ad (Kd.R (Kd.int .i64) 3 w152 w.heap.size (fun k_ => some k_ ≠ (.slice Ao142 t282.length co142 : Value).ownBlock ∧ some k_ ≠ (v287 : Value).ownBlock ∧ some k_ ≠ (.slice Ao151 t294.length co151 : Value).ownBlock) (.slice Ao140 t274.length co140) t274) := ⟨(by rw [hw]; exact (by (with_reducible repeat (first | apply Kd.R_alloc | apply Kd.R_drewN | apply Kd.R_drew)); exact Kd.R_mono (Kd.R_far (p := ⟨gb297, 2, none⟩) (Kd.R_far (p := ⟨gb297, 1, none⟩) (Kd.R_far (p := ⟨gb297, 0, none⟩) (Kd.R_types HO276.out BK297.out (by decide)) (fun _ hk => hk.2) (.int .i64 t292)) (fun _ hk => hk.2) (.int .i64 t293)) (fun _ hk => hk.2) (.slice Ao151 t294.length co151)) (fun _ hk => ⟨hk.1.1.1.2, ⟨hk.1.1.2, hk.1.2⟩⟩)))⟩; have n1_ : Ad (Kd.S k42 42 w152 w.heap.size (fun k_ => some k_ ≠ (.slice Ao140 t274.length co140 : Value).ownBlock ∧ some k_ ≠ (.slice Ao142 t282.length co142 : Value).ownBlock ∧ some k_ ≠ (v287 : Value).ownBlock ∧ some k_ ≠ (v290 : Value).ownBlock ∧ some k_ ≠ (.slice Ao151 t294.length co151 : Value).ownBlock ∧ k_ ≠ gb297) (.slice Ao141 t277.length co141) t277) := ⟨(by rw [hw]; exact (by (with_reducible repeat (first | apply Kd.S_alloc | apply Kd.S_drewN | apply Kd.S_drew)); exact Kd.S_mono (Kd.S_far (p := ⟨gb297, 2, none⟩) (Kd.S_far (p := ⟨gb297, 1, none⟩) (Kd.S_far (p := ⟨gb297, 0, none⟩) (Kd.S_mono HO279.out (fun k_ hk => (⟨hk, hk.2⟩ : _ ∧ k_ ≠ gb297))) (fun _ hk => hk.2) (.int .i64 t292)) (fun _ hk => hk.2) (.int .i64 t293)) (fun _ hk => hk.2) (.slice Ao151 t294.length co151)) (fun _ hk => ⟨hk.1.1.1.1.1.1.2, ⟨hk.1.1.1.1.1.2, ⟨hk.1.1.1.1.2, ⟨hk.1.1.1.2, ⟨hk.1.1.2, hk.1.2⟩⟩⟩⟩⟩)))⟩; have n2_ : Ad (Kd.R (Kd.int .i64) 3 w152 w.heap.size (fun k_ => some k_ ≠ (.slice Ao140 t274.length co140 : Value).ownBlock ∧ some k_ ≠ (v287 : Value).ownBlock ∧ some k_ ≠ (.slice Ao151 t294.length co151 : Value).ownBlock) (.slice Ao142 t282.length co142) t282) := ⟨(by rw [hw]; exact (by (with_reducible repeat (first | apply Kd.R_alloc | apply Kd.R_drewN | apply Kd.R_drew)); exact Kd.R_mono (Kd.R_far (p := ⟨gb297, 2, none⟩) (Kd.R_far (p := ⟨gb297, 1, none⟩) (Kd.R_far (p := ⟨gb297, 0, none⟩) (Kd.R_types HO284.out BK297.out (by decide)) (fun _ hk => hk.2) (.int .i64 t292)) (fun _ hk => hk.2) (.int .i64 t293)) (fun _ hk => hk.2) (.slice Ao151 t294.length co151)) (fun _ hk => ⟨hk.1.1.1.2, ⟨hk.1.1.2, hk.1.2⟩⟩)))⟩; have n3_ : Ad (Kd.R (Kd.int .i64) 3 w152 w.heap.size (fun k_ => some k_ ≠ (.slice Ao140 t274.length co140 : Value).ownBlock ∧ some k_ ≠ (.slice Ao142 t282.length co142 : Value).ownBlock ∧ some k_ ≠ (.slice Ao151 t294.length co151 : Value).ownBlock) v287 t286) := ⟨(by rw [hw]; exact (by (with_reducible repeat (first | apply Kd.R_alloc | apply Kd.R_drewN | apply Kd.R_drew)); exact Kd.R_mono (Kd.R_far (p := ⟨gb297, 2, none⟩) (Kd.R_far (p := ⟨gb297, 1, none⟩) (Kd.R_far (p := ⟨gb297, 0, none⟩) (Kd.R_types HO288.out BK297.out (by decide)) (fun _ hk => hk.2) (.int .i64 t292)) (fun _ hk => hk.2) (.int .i64 t293)) (fun _ hk => hk.2) (.slice Ao151 t294.length co151)) (fun _ hk => ⟨hk.1.1.1.2, ⟨hk.1.1.2, hk.1.2⟩⟩)))⟩; have n4_ : Ad (Kd.S k42 42 w152 w.heap.size (fun k_ => some k_ ≠ (.slice Ao140 t274.length co140 : Value).ownBlock ∧ some k_ ≠ (.slice Ao141 t277.length co141 : Value).ownBlock ∧ some k_ ≠ (.slice Ao142 t282.length co142 : Value).ownBlock ∧ some k_ ≠ (v287 : Value).ownBlock ∧ some k_ ≠ (.slice Ao151 t294.length co151 : Value).ownBlock ∧ k_ ≠ gb297) v290 t289) := ⟨(by rw [hw]; exact (by (with_reducible repeat (first | apply Kd.S_alloc | apply Kd.S_drewN | apply Kd.S_drew)); exact Kd.S_mono (Kd.S_far (p := ⟨gb297, 2, none⟩) (Kd.S_far (p := ⟨gb297, 1, none⟩) (Kd.S_far (p := ⟨gb297, 0, none⟩) (Kd.S_mono HO291.out (fun k_ hk => (⟨hk, hk.2⟩ : _ ∧ k_ ≠ gb297))) (fun _ hk => hk.2) (.int .i64 t292)) (fun _ hk => hk.2) (.int .i64 t293)) (fun _ hk => hk.2) (.slice Ao151 t294.length co151)) (fun _ hk => ⟨hk.1.1.1.1.1.1.2, ⟨hk.1.1.1.1.1.2, ⟨hk.1.1.1.1.2, ⟨hk.1.1.1.2, ⟨hk.1.1.2, hk.1.2⟩⟩⟩⟩⟩)))⟩; have n5_ : Ad (Kd.R (Kd.int .i64) 3 w152 w.heap.size (fun k_ => some k_ ≠ (.slice Ao140 t274.length co140 : Value).ownBlock ∧ some k_ ≠ (.slice Ao142 t282.length co142 : Value).ownBlock ∧ some k_ ≠ (v287 : Value).ownBlock) (.slice Ao151 t294.length co151) t294) := ⟨(by rw [hw]; exact (by (with_reducible repeat (first | apply Kd.R_alloc | apply Kd.R_drewN | apply Kd.R_drew)); exact Kd.R_mono (Kd.R_far (p := ⟨gb297, 2, none⟩) (Kd.R_far (p := ⟨gb297, 1, none⟩) (Kd.R_far (p := ⟨gb297, 0, none⟩) (Kd.R_types HO296.out BK297.out (by decide)) (fun _ hk => hk.2) (.int .i64 t292)) (fun _ hk => hk.2) (.int .i64 t293)) (fun _ hk => hk.2) (.slice Ao151 t294.length co151)) (fun _ hk => ⟨hk.1.1.1.2, ⟨hk.1.1.2, hk.1.2⟩⟩)))⟩; have n6_ : Ad (w152.heap[gb271]? = some (.cells #[.int .i64 a2_0, .int .i64 a2_1, .slice A2_2 l2_2.length c2_2] 47 (0, 0))) := ⟨(by rw [hw]; exact (by (with_reducible repeat (first | refine bkN ?_ _ | refine bkd ?_ | refine bka ?_ _)); refine blk_far ?_ NB271_297.out _; (with_reducible repeat (first | refine bkN ?_ _ | refine bkd ?_ | refine bka ?_ _)); refine blk_far ?_ NB271_297.out _; (with_reducible repeat (first | refine bkN ?_ _ | refine bkd ?_ | refine bka ?_ _)); refine blk_far ?_ NB271_297.out _; (with_reducible repeat (first | refine bkN ?_ _ | refine bkd ?_ | refine bka ?_ _)); exact BK271.out))⟩; have n7_ : Ad (w152.heap[gb297]? = some (.cells #[.int .i64 t292, .int .i64 t293, .slice Ao151 t294.length co151] 42 (0, 0))) := ⟨(by rw [hw]; exact (by (with_reducible repeat (first | refine bkN ?_ _ | refine bkd ?_ | refine bka ?_ _)); refine blk_put (cs := #[.int .i64 t292, .int .i64 t293, .slice none 0 0]) ?_ 2 _ rfl; (with_reducible repeat (first | refine bkN ?_ _ | refine bkd ?_ | refine bka ?_ _)); refine blk_put (cs := #[.int .i64 t292, .int .i64 0, .slice none 0 0]) ?_ 1 _ rfl; (with_reducible repeat (first | refine bkN ?_ _ | refine bkd ?_ | refine bka ?_ _)); refine blk_put (cs := #[.int .i64 0, .int .i64 0, .slice none 0 0]) ?_ 0 _ rfl; (with_reducible repeat (first | refine bkN ?_ _ | refine bkd ?_ | refine bka ?_ _)); exact BK297.out))⟩; have n8_ : Ad (Below w.heap.size w w152) := ⟨(by rw [hw]; exact (by repeat (first | (with_reducible first | exact HB.out | apply bwa | apply bwN | apply bw1 | refine bws ?_ GE271.out | refine bws ?_ GE297.out) | exact HB.out)))⟩; clear hw; clear HO276; clear HO279; clear HO284; clear HO288; clear HO291; clear HO296; clear BK271; clear BK297; clear HB; have HO276 := n0_; have HO279 := n1_; have HO284 := n2_; have HO288 := n3_; have HO291 := n4_; have HO296 := n5_; have BK271 := n6_; have BK297 := n7_; have HB := n8_; clear n0_ n1_ n2_ n3_ n4_ n5_ n6_ n7_ n8_; have hcz153_0 : w152.cell? ⟨gb297, 0, none⟩ = some (.int .i64 t292) := (bkc BK297.out 0).trans rfl; have hcz153_1 : w152.cell? ⟨gb297, 1, none⟩ = some (.int .i64 t293) := (bkc BK297.out 1).trans rfl; have hcz153_2 : w152.cell? ⟨gb297, 2, none⟩ = some (.slice Ao151 t294.length co151) := (bkc BK297.out 2).trans rfl; have hfz153_0 := qa1 BK297.out 0; have hfz153_1 := qa1 BK297.out 1; have hfz153_2 := qa1 BK297.out 2; obtain ⟨Ao154, co154, eo154⟩ := Kd.R_slice HO288.out; subst eo154; obtain ⟨Ao155, co155, eo155⟩ := Kd.S_slice HO291.out; subst eo155) | ((with_reducible refine qa4 (f := 23) rfl ?_); refine goesL_ (some 42) rfl rfl Try.func23 (by kernel_rfl) rfl #[.slice Ao154 t286.length co154, .slice Ao155 t289.length co155, .agg #[.int .i64 t292, .int .i64 t293, .slice Ao151 t294.length co151]] rfl (by (try simp only [List.map_toArray, List.map_cons, List.map_nil]); first | done | rfl | (simp only [List.length_drop, List.length_take]; rfl)) ?_; (with_reducible refine (impl_MostLoan.calls k _ _ t286 (fun k_ => ((some k_ ≠ (.slice Ao140 t274.length co140 : Value).ownBlock ∧ (some k_ ≠ (.slice Ao141 t277.length co141 : Value).ownBlock ∧ (some k_ ≠ (.slice Ao142 t282.length co142 : Value).ownBlock ∧ (some k_ ≠ (.slice Ao154 t286.length co154 : Value).ownBlock ∧ (some k_ ≠ (.slice Ao151 t294.length co151 : Value).ownBlock ∧ k_ ≠ gb297))))) ∧ k_ ≠ gb271)) _ _ t289 t292 t293 (fun k_ => some k_ = (.slice Ao151 t294.length co151 : Value).ownBlock) _ _ t294 t298 _ ?side1 ?side2 ?side3 ?side4 A23.out).mono ?_); (case side1 => repeat (first | exact (Kd.R_reads' HO288.out).2.2 | (with_reducible refine Kd.C_alloc ?_ _) | (with_reducible refine Kd.C_drewN ?_ _) | (with_reducible refine Kd.C_drew ?_))); (case side2 => exact (Kd.R_reads' HO288.out).2.1); (case side3 => exact Kd.S_V (Kd.S_types (HO291.out) BK271.out (by decide))); (case side4 => exact Kd.R_V (Kd.R_tight rfl (Kd.R_types (Kd.R_types (Kd.R_apart' (Kd.R_apart' (HO296.out) (Kd.S_typed HO279.out) (by decide)) (Kd.S_typed HO291.out) (by decide)) BK271.out (by decide)) BK297.out (by decide)))); rintro e w156 ⟨rfl, hb⟩; refine ⟨_, rfl, ?_⟩; have n0_ := Ad.mk (Kd.R_below (by (with_reducible repeat (first | apply Kd.R_alloc | apply Kd.R_drewN | apply Kd.R_drew)); exact HO276.out) hb); have n1_ := Ad.mk (Kd.S_below (by (with_reducible repeat (first | apply Kd.S_alloc | apply Kd.S_drewN | apply Kd.S_drew)); exact HO279.out) hb); have n2_ := Ad.mk (Kd.R_below (by (with_reducible repeat (first | apply Kd.R_alloc | apply Kd.R_drewN | apply Kd.R_drew)); exact HO284.out) hb); have n3_ := Ad.mk (Kd.R_below (by (with_reducible repeat (first | apply Kd.R_alloc | apply Kd.R_drewN | apply Kd.R_drew)); exact HO288.out) hb); have n4_ := Ad.mk (Kd.S_below (by (with_reducible repeat (first | apply Kd.S_alloc | apply Kd.S_drewN | apply Kd.S_drew)); exact HO291.out) hb); have n5_ := Ad.mk (Kd.R_below (by (with_reducible repeat (first | apply Kd.R_alloc | apply Kd.R_drewN | apply Kd.R_drew)); exact HO296.out) hb); have n6_ := Ad.mk (qa3 (g := gb271) (o := .cells #[.int .i64 a2_0, .int .i64 a2_1, .slice A2_2 l2_2.length c2_2] 47 (0, 0)) (by (with_reducible repeat (first | refine bkN ?_ _ | refine bkd ?_ | refine bka ?_ _)); exact BK271.out) hb); have n7_ := Ad.mk (qa3 (g := gb297) (o := .cells #[.int .i64 t292, .int .i64 t293, .slice Ao151 t294.length co151] 42 (0, 0)) (by (with_reducible repeat (first | refine bkN ?_ _ | refine bkd ?_ | refine bka ?_ _)); exact BK297.out) hb); have n8_ := Ad.mk (qa2 (by repeat (first | (with_reducible first | exact HB.out | apply bwa | apply bwN | apply bw1 | refine bws ?_ GE271.out | refine bws ?_ GE297.out) | exact HB.out)) hb); clear HO276; clear HO279; clear HO284; clear HO288; clear HO291; clear HO296; clear BK271; clear BK297; clear HB; have HO276 := n0_; have HO279 := n1_; have HO284 := n2_; have HO288 := n3_; have HO291 := n4_; have HO296 := n5_; have BK271 := n6_; have BK297 := n7_; have HB := n8_; clear n0_ n1_ n2_ n3_ n4_ n5_ n6_ n7_ n8_; (try clear hb); (try clear hb2); (try clear hk); (try clear hi)) | ((with_reducible refine qa4 (f := 27) rfl ?_); refine goesL_ (some 48) rfl rfl Try.func27 (by kernel_rfl) rfl #[.slice A0 l0.length c0] rfl (by (try simp only [List.map_toArray, List.map_cons, List.map_nil]); first | done | rfl | (simp only [List.length_drop, List.length_take]; rfl)) ?_; (with_reducible refine (laws_toIntS.calls k _ _ l0 t299 _ ?side1 ?side2 A25.out).mono ?_); (case side1 => repeat (first | exact (Kd.C_below HR0.out HB.out) | (with_reducible refine Kd.C_alloc ?_ _) | (with_reducible refine Kd.C_drewN ?_ _) | (with_reducible refine Kd.C_drew ?_))); (case side2 => exact HC0.out); rintro e w157 ⟨v300, rfl, ho0, hb⟩; refine ⟨_, rfl, ?_⟩; have n0_ := Ad.mk (Kd.R_elder' (by (with_reducible repeat (first | apply Kd.R_alloc | apply Kd.R_drewN | apply Kd.R_drew)); exact HO276.out) (Kd.R_base ho0) hb); have n1_ := Ad.mk (Kd.S_elder' (by (with_reducible repeat (first | apply Kd.S_alloc | apply Kd.S_drewN | apply Kd.S_drew)); exact HO279.out) (Kd.R_base ho0) hb); have n2_ := Ad.mk (Kd.R_elder' (by (with_reducible repeat (first | apply Kd.R_alloc | apply Kd.R_drewN | apply Kd.R_drew)); exact HO284.out) (Kd.R_base ho0) hb); have n3_ := Ad.mk (Kd.R_elder' (by (with_reducible repeat (first | apply Kd.R_alloc | apply Kd.R_drewN | apply Kd.R_drew)); exact HO288.out) (Kd.R_base ho0) hb); have n4_ := Ad.mk (Kd.S_elder' (by (with_reducible repeat (first | apply Kd.S_alloc | apply Kd.S_drewN | apply Kd.S_drew)); exact HO291.out) (Kd.R_base ho0) hb); have n5_ := Ad.mk (Kd.R_elder' (by (with_reducible repeat (first | apply Kd.R_alloc | apply Kd.R_drewN | apply Kd.R_drew)); exact HO296.out) (Kd.R_base ho0) hb); have n6_ := Ad.mk (Kd.R_lower (Kd.R_new' (Kd.R_new' (Kd.R_new' (Kd.R_new' ho0 (Kd.R_lt (by (with_reducible repeat (first | apply Kd.R_alloc | apply Kd.R_drewN | apply Kd.R_drew)); exact HO276.out))) (Kd.R_lt (by (with_reducible repeat (first | apply Kd.R_alloc | apply Kd.R_drewN | apply Kd.R_drew)); exact HO284.out))) (Kd.R_lt (by (with_reducible repeat (first | apply Kd.R_alloc | apply Kd.R_drewN | apply Kd.R_drew)); exact HO288.out))) (Kd.R_lt (by (with_reducible repeat (first | apply Kd.R_alloc | apply Kd.R_drewN | apply Kd.R_drew)); exact HO296.out))) (qa0 (by repeat (first | (with_reducible first | exact HB.out | apply bwa | apply bwN | apply bw1 | refine bws ?_ GE271.out | refine bws ?_ GE297.out) | exact HB.out)))); have n7_ := Ad.mk (qa3 (g := gb271) (o := .cells #[.int .i64 a2_0, .int .i64 a2_1, .slice A2_2 l2_2.length c2_2] 47 (0, 0)) (by (with_reducible repeat (first | refine bkN ?_ _ | refine bkd ?_ | refine bka ?_ _)); exact BK271.out) hb); have n8_ := Ad.mk (qa3 (g := gb297) (o := .cells #[.int .i64 t292, .int .i64 t293, .slice Ao151 t294.length co151] 42 (0, 0)) (by (with_reducible repeat (first | refine bkN ?_ _ | refine bkd ?_ | refine bka ?_ _)); exact BK297.out) hb); have n9_ := Ad.mk (qa2 (by repeat (first | (with_reducible first | exact HB.out | apply bwa | apply bwN | apply bw1 | refine bws ?_ GE271.out | refine bws ?_ GE297.out) | exact HB.out)) hb); clear HO276; clear HO279; clear HO284; clear HO288; clear HO291; clear HO296; clear BK271; clear BK297; clear HB; have HO276 := n0_; have HO279 := n1_; have HO284 := n2_; have HO288 := n3_; have HO291 := n4_; have HO296 := n5_; have HO301 := n6_; have BK271 := n7_; have BK297 := n8_; have HB := n9_; clear n0_ n1_ n2_ n3_ n4_ n5_ n6_ n7_ n8_ n9_; (try clear hb); (try clear hb2); (try clear hk); (try clear hi); (try clear ho0); obtain ⟨Ao158, co158, eo158⟩ := Kd.R_slice HO301.out; subst eo158) | ((with_reducible refine qa4 (f := 29) rfl ?_); refine goesL_ (some 49) rfl rfl Try.func29 (by kernel_rfl) rfl #[.slice Ao154 t286.length co154, .slice Ao158 t299.length co158] rfl (by (try simp only [List.map_toArray, List.map_cons, List.map_nil]); first | done | rfl | (simp only [List.length_drop, List.length_take]; rfl)) ?_; (with_reducible refine (laws_eqIntS.calls k _ _ t286 _ _ t299 false _ ?side1 ?side2 ?side3 ?side4 A26.out).mono ?_); (case side1 => repeat (first | exact (Kd.R_reads' HO288.out).2.2 | (with_reducible refine Kd.C_alloc ?_ _) | (with_reducible refine Kd.C_drewN ?_ _) | (with_reducible refine Kd.C_drew ?_))); (case side2 => exact (Kd.R_reads' HO288.out).2.1); (case side3 => repeat (first | exact (Kd.R_reads' HO301.out).2.2 | (with_reducible refine Kd.C_alloc ?_ _) | (with_reducible refine Kd.C_drewN ?_ _) | (with_reducible refine Kd.C_drew ?_))); (case side4 => exact (Kd.R_reads' HO301.out).2.1); rintro e w' ⟨rfl, ⟨nd, rfl⟩⟩; refine ⟨_, rfl, ?_⟩))
      go_ret
      exact ⟨by first | rfl | (simp [errW_none, errW_some] <;> rfl) | (simp [*, errW_none, errW_some] <;> rfl), by repeat (first | (with_reducible first | exact HB.out | apply bwa | apply bwN | apply bw1 | refine bws ?_ GE271.out | refine bws ?_ GE297.out) | exact HB.out)⟩
    ·rw [if_neg c24] at H
     have c24b0 : (t298 == t285) = false := beq_eq_false_iff_ne.mpr c24
     have c24b1 : (t298 != t285) = true := bne_iff_ne.mpr c24
     obtain rfl := Option.some.inj H
     go_enter Try.func6, Try.ntmps6
     try go_wp2_with (first | ((with_reducible refine gate_dst (N := 5) rfl ?_); refine box_event ?hg (N := 5) ?hd (cs := #[.int .i64 a2_0, .int .i64 a2_1, .slice A2_2 l2_2.length c2_2]) (t := 47) ?hr ?_; (case hd => rfl); (case hg => rfl); (case hr => first | (go_simp; done) | (go_simp; rfl)); intro gb271 hg w159 hbox hb; have n0_ := Ad.mk (qa2 (by repeat (first | (with_reducible first | exact HB.out | apply bwa | apply bwN | apply bw1) | exact HB.out)) hb); have n1_ := Ad.mk (hbox); have n2_ := Ad.mk ((by rw [hg]; exact (qa0 (by repeat (first | (with_reducible first | exact HB.out | apply bwa | apply bwN | apply bw1) | exact HB.out))) : w.heap.size ≤ gb271)); have n3_ := Ad.mk ((by rw [hg]; exact (qa0 (by repeat (first | (with_reducible first | exact HB.out | apply bwa | apply bwN | apply bw1) | exact HB.out))) : w.heap.size ≤ gb271)); clear HB; have HB := n0_; have BK271 := n1_; have GW271 := n2_; have GE271 := n3_; clear n0_ n1_ n2_ n3_; clear hb hbox hg) | ((with_reducible refine qa4 (f := 15) rfl ?_); refine goesL_ (some 18) rfl rfl Try.func15 (by kernel_rfl) rfl #[.slice A1 l1.length c1, .int .i64 1048576] rfl (by (try simp only [List.map_toArray, List.map_cons, List.map_nil]); first | done | rfl | (simp only [List.length_drop, List.length_take]; rfl)) ?_; (with_reducible refine (laws_szLoanS.calls k _ _ l1 1048576 t272 _ ?side1 ?side2 A6.out).mono ?_); (case side1 => repeat (first | exact (Kd.C_below HR1.out HB.out) | (with_reducible refine Kd.C_alloc ?_ _) | (with_reducible refine Kd.C_drewN ?_ _) | (with_reducible refine Kd.C_drew ?_))); (case side2 => exact HC1.out); rintro e w160 ⟨rfl, hb⟩; refine ⟨_, rfl, ?_⟩; have n0_ := Ad.mk (qa3 (g := gb271) (o := .cells #[.int .i64 a2_0, .int .i64 a2_1, .slice A2_2 l2_2.length c2_2] 47 (0, 0)) (by (with_reducible repeat (first | refine bkN ?_ _ | refine bkd ?_ | refine bka ?_ _)); exact BK271.out) hb); have n1_ := Ad.mk (qa2 (by repeat (first | (with_reducible first | exact HB.out | apply bwa | apply bwN | apply bw1 | refine bws ?_ GE271.out) | exact HB.out)) hb); clear BK271; clear HB; have BK271 := n0_; have HB := n1_; clear n0_ n1_; (try clear hb); (try clear hb2); (try clear hk); (try clear hi); have hcz161_0 : w160.cell? ⟨gb271, 0, none⟩ = some (.int .i64 a2_0) := (bkc BK271.out 0).trans rfl; have hcz161_1 : w160.cell? ⟨gb271, 1, none⟩ = some (.int .i64 a2_1) := (bkc BK271.out 1).trans rfl; have hcz161_2 : w160.cell? ⟨gb271, 2, none⟩ = some (.slice A2_2 l2_2.length c2_2) := (bkc BK271.out 2).trans rfl; have hfz161_0 := qa1 BK271.out 0; have hfz161_1 := qa1 BK271.out 1; have hfz161_2 := qa1 BK271.out 2) | ((with_reducible refine qa4 (f := 26) rfl ?_); refine goesL_ (some 23) rfl rfl Try.func26 (by kernel_rfl) rfl #[.agg #[.int .i64 a2_0, .int .i64 a2_1, .slice A2_2 l2_2.length c2_2], .int .i64 t272] rfl (by (try simp only [List.map_toArray, List.map_cons, List.map_nil]); first | done | rfl | (simp only [List.length_drop, List.length_take]; rfl)) ?_; (with_reducible refine (laws_szLoan.calls a2_0 a2_1 _ _ l2_2 t272 t273 _ ?side1 ?side2 A10.out).mono ?_); (case side1 => repeat (first | exact (Kd.C_below HR2_2.out HB.out) | (with_reducible refine Kd.C_alloc ?_ _) | (with_reducible refine Kd.C_drewN ?_ _) | (with_reducible refine Kd.C_drew ?_))); (case side2 => exact HC2_2.out); rintro e w162 ⟨rfl, hb⟩; refine ⟨_, rfl, ?_⟩; have n0_ := Ad.mk (qa3 (g := gb271) (o := .cells #[.int .i64 a2_0, .int .i64 a2_1, .slice A2_2 l2_2.length c2_2] 47 (0, 0)) (by (with_reducible repeat (first | refine bkN ?_ _ | refine bkd ?_ | refine bka ?_ _)); exact BK271.out) hb); have n1_ := Ad.mk (qa2 (by repeat (first | (with_reducible first | exact HB.out | apply bwa | apply bwN | apply bw1 | refine bws ?_ GE271.out) | exact HB.out)) hb); clear BK271; clear HB; have BK271 := n0_; have HB := n1_; clear n0_ n1_; (try clear hb); (try clear hb2); (try clear hk); (try clear hi)))
     have n0_ := Ad.mk (bkd BK271.out)
     have n1_ := Ad.mk (bw1 HB.out)
     clear BK271
     clear HB
     have BK271 := n0_
     have HB := n1_
     clear n0_ n1_
     refine start_ (n := 8) (S := fun w' => w'.cell? ⟨gb271, 0, none⟩ = some (.int .i64 a2_0) ∧ w'.cell? ⟨gb271, 1, none⟩ = some (.int .i64 a2_1) ∧ w'.cell? ⟨gb271, 2, none⟩ = some (.slice A2_2 l2_2.length c2_2)) (ds := []) #[false, false, false, false, false, false, false, false] (by kernel_rfl) rfl rfl ⟨(bkc BK271.out 0).trans rfl, (bkc BK271.out 1).trans rfl, (bkc BK271.out 2).trans rfl⟩ (fun hHeld => ?_); refine with_tabW laws_FnExactMostLoan.tab10 laws_FnExactMostLoan.bits10 (fun HT_ HW_ => ?_)
     generalize w162.drew = w163 at BK271 HB hHeld ⊢
     refine pure_ (i := 0) (N := some 26) (v := ?_) (a' := ?_) #[true, false, false, false, false, false, false, false] rfl rfl (any_of HT_.out (by kernel_rfl)) (fun _ _ _ h => h) (Or.inl ⟨by rfl, ?_⟩) ?_ ?_
     rotate_left
     ·intro w'
      go_simp
      with_reducible rfl
     rotate_left
     ·simp only [Act.put, List.setIfInBounds_toArray, List.set_cons_zero, List.set_cons_succ, qa5, qa6]
      rfl
     refine pure_ (i := 2) (N := some 28) (v := ?_) (a' := ?_) #[true, false, true, false, false, false, false, false] rfl rfl (any_of HT_.out (by kernel_rfl)) (fun _ _ _ h => h) (Or.inl ⟨by rfl, ?_⟩) ?_ ?_
     rotate_left
     ·intro w'
      go_simp
      with_reducible rfl
     rotate_left
     ·simp only [Act.put, List.setIfInBounds_toArray, List.set_cons_zero, List.set_cons_succ, qa5, qa6]
      rfl
     refine take_ (i := 4) (N := some 30) (v := ?_) (a' := ?_) #[true, false, true, false, true, false, false, false] rfl rfl (take_ofW HT_.out HW_.out (by kernel_rfl)) (fun _ _ _ h => h) (Or.inl ⟨by rfl, ?_⟩) hHeld ?_ ?_
     rotate_left
     ·rintro w' ⟨s0, s1, s2⟩
      go_simp
      with_reducible rfl
     rotate_left
     ·simp only [Act.put, List.setIfInBounds_toArray, List.set_cons_zero, List.set_cons_succ, qa5, qa6]
      rfl
     refine one_ (i := 1) (N := some 27) #[true, true, true, false, true, false, false, false] rfl rfl (one_of HT_.out (by kernel_rfl)) (by decide) (fun K hK => ?_)
     refine goes_ Try.func27 (by kernel_rfl) rfl #[.slice A0 l0.length c0] (by rfl) rfl rfl (by (try simp only [List.map_toArray, List.map_cons, List.map_nil]); first | done | rfl | (simp only [List.length_drop, List.length_take]; rfl)) ?_
     with_reducible refine (laws_toIntS.calls k _ _ l0 t274 _ ?side1 ?side2 A16.out).mono ?_
     (case side1 => repeat (first | exact (Kd.C_below HR0.out HB.out) | (with_reducible refine Kd.C_alloc ?_ _) | (with_reducible refine Kd.C_drewN ?_ _) | (with_reducible refine Kd.C_drew ?_)))
     (case side2 => exact HC0.out)
     rintro e w164 ⟨v275, rfl, ho0, hb⟩
     refine ⟨_, rfl, ?_⟩
     have n0_ := Ad.mk (Kd.R_lower ho0 (qa0 (by repeat (first | (with_reducible first | exact HB.out | apply bwa | apply bwN | apply bw1 | refine bws ?_ GE271.out) | exact HB.out))))
     have n1_ := Ad.mk (qa3 (g := gb271) (o := .cells #[.int .i64 a2_0, .int .i64 a2_1, .slice A2_2 l2_2.length c2_2] 47 (0, 0)) (by (with_reducible repeat (first | refine bkN ?_ _ | refine bkd ?_ | refine bka ?_ _)); exact BK271.out) hb)
     have n2_ := Ad.mk (qa2 (by repeat (first | (with_reducible first | exact HB.out | apply bwa | apply bwN | apply bw1 | refine bws ?_ GE271.out) | exact HB.out)) hb)
     clear BK271
     clear HB
     have HO276 := n0_
     have BK271 := n1_
     have HB := n2_
     clear n0_ n1_ n2_
     (try clear hb)
     (try clear hb2)
     (try clear hk)
     (try clear hi)
     (try clear ho0)
     refine hK.out _ _ ⟨(bkc BK271.out 0).trans rfl, (bkc BK271.out 1).trans rfl, (bkc BK271.out 2).trans rfl⟩ (fun hHeld => ?_)
     clear hK K
     refine norm_ (a' := ?_) ?_ ?_
     rotate_left
     ·show Act.put _ (some 27) _ = _
      simp only [Act.put, List.setIfInBounds_toArray, List.set_cons_zero, List.set_cons_succ, qa5, qa6]
      rfl
     refine one_ (i := 3) (N := some 29) #[true, true, true, true, true, false, false, false] rfl rfl (one_of HT_.out (by kernel_rfl)) (by decide) (fun K hK => ?_)
     refine goes_ Try.func17 (by kernel_rfl) rfl #[.slice A1 l1.length c1] (by rfl) rfl rfl (by (try simp only [List.map_toArray, List.map_cons, List.map_nil]); first | done | rfl | (simp only [List.length_drop, List.length_take]; rfl)) ?_
     with_reducible refine (laws_toLoanS.calls k _ _ l1 t277 _ ?side1 ?side2 A17.out).mono ?_
     (case side1 => repeat (first | exact (Kd.C_below HR1.out HB.out) | (with_reducible refine Kd.C_alloc ?_ _) | (with_reducible refine Kd.C_drewN ?_ _) | (with_reducible refine Kd.C_drew ?_)))
     (case side2 => exact HC1.out)
     rintro e w165 ⟨v278, rfl, ho0, hb⟩
     refine ⟨_, rfl, ?_⟩
     have n0_ := Ad.mk (Kd.R_below (by (with_reducible repeat (first | apply Kd.R_alloc | apply Kd.R_drewN | apply Kd.R_drew)); exact HO276.out) hb)
     have n1_ := Ad.mk (Kd.S_lower (Kd.S_new' ho0 (Kd.R_lt (by (with_reducible repeat (first | apply Kd.R_alloc | apply Kd.R_drewN | apply Kd.R_drew)); exact HO276.out))) (qa0 (by repeat (first | (with_reducible first | exact HB.out | apply bwa | apply bwN | apply bw1 | refine bws ?_ GE271.out) | exact HB.out))))
     have n2_ := Ad.mk (qa3 (g := gb271) (o := .cells #[.int .i64 a2_0, .int .i64 a2_1, .slice A2_2 l2_2.length c2_2] 47 (0, 0)) (by (with_reducible repeat (first | refine bkN ?_ _ | refine bkd ?_ | refine bka ?_ _)); exact BK271.out) hb)
     have n3_ := Ad.mk (qa2 (by repeat (first | (with_reducible first | exact HB.out | apply bwa | apply bwN | apply bw1 | refine bws ?_ GE271.out) | exact HB.out)) hb)
     clear HO276
     clear BK271
     clear HB
     have HO276 := n0_
     have HO279 := n1_
     have BK271 := n2_
     have HB := n3_
     clear n0_ n1_ n2_ n3_
     (try clear hb)
     (try clear hb2)
     (try clear hk)
     (try clear hi)
     (try clear ho0)
     refine hK.out _ _ ⟨(bkc BK271.out 0).trans rfl, (bkc BK271.out 1).trans rfl, (bkc BK271.out 2).trans rfl⟩ (fun hHeld => ?_)
     clear hK K
     refine norm_ (a' := ?_) ?_ ?_
     rotate_left
     ·show Act.put _ (some 29) _ = _
      simp only [Act.put, List.setIfInBounds_toArray, List.set_cons_zero, List.set_cons_succ, qa5, qa6]
      rfl
     refine one_ (i := 5) (N := some 31) #[true, true, true, true, true, true, false, false] rfl rfl (one_of HT_.out (by kernel_rfl)) (by decide) (fun K hK => ?_)
     refine goes_ Try.func28 (by kernel_rfl) rfl #[.agg #[.int .i64 a2_0, .int .i64 a2_1, .slice A2_2 l2_2.length c2_2]] (by rfl) rfl rfl (by (try simp only [List.map_toArray, List.map_cons, List.map_nil]); first | done | rfl | (simp only [List.length_drop, List.length_take]; rfl)) ?_
     with_reducible refine (laws_toLoan.calls k a2_0 a2_1 _ _ l2_2 t280 t281 t282 _ ?side1 ?side2 A18.out).mono ?_
     (case side1 => repeat (first | exact (Kd.C_below HR2_2.out HB.out) | (with_reducible refine Kd.C_alloc ?_ _) | (with_reducible refine Kd.C_drewN ?_ _) | (with_reducible refine Kd.C_drew ?_)))
     (case side2 => exact HC2_2.out)
     rintro e w166 ⟨v283, rfl, ho0, hb⟩
     refine ⟨_, rfl, ?_⟩
     have n0_ := Ad.mk (Kd.R_elder' (by (with_reducible repeat (first | apply Kd.R_alloc | apply Kd.R_drewN | apply Kd.R_drew)); exact HO276.out) (Kd.R_base ho0) hb)
     have n1_ := Ad.mk (Kd.S_elder' (by (with_reducible repeat (first | apply Kd.S_alloc | apply Kd.S_drewN | apply Kd.S_drew)); exact HO279.out) (Kd.R_base ho0) hb)
     have n2_ := Ad.mk (Kd.R_lower (Kd.R_new' ho0 (Kd.R_lt (by (with_reducible repeat (first | apply Kd.R_alloc | apply Kd.R_drewN | apply Kd.R_drew)); exact HO276.out))) (qa0 (by repeat (first | (with_reducible first | exact HB.out | apply bwa | apply bwN | apply bw1 | refine bws ?_ GE271.out) | exact HB.out))))
     have n3_ := Ad.mk (qa3 (g := gb271) (o := .cells #[.int .i64 a2_0, .int .i64 a2_1, .slice A2_2 l2_2.length c2_2] 47 (0, 0)) (by (with_reducible repeat (first | refine bkN ?_ _ | refine bkd ?_ | refine bka ?_ _)); exact BK271.out) hb)
     have n4_ := Ad.mk (qa2 (by repeat (first | (with_reducible first | exact HB.out | apply bwa | apply bwN | apply bw1 | refine bws ?_ GE271.out) | exact HB.out)) hb)
     clear HO276
     clear HO279
     clear BK271
     clear HB
     have HO276 := n0_
     have HO279 := n1_
     have HO284 := n2_
     have BK271 := n3_
     have HB := n4_
     clear n0_ n1_ n2_ n3_ n4_
     (try clear hb)
     (try clear hb2)
     (try clear hk)
     (try clear hi)
     (try clear ho0)
     obtain ⟨Ao167, co167, eo167⟩ := Kd.R_slice HO276.out
     (first | subst eo167 | (injection eo167 with f1_ f2_ f3_; have f4_ := f1_.symm; have f5_ := f3_.symm; clear f1_ f2_ f3_; subst f4_; subst f5_))
     obtain ⟨Ao168, co168, eo168⟩ := Kd.S_slice HO279.out
     (first | subst eo168 | (injection eo168 with f1_ f2_ f3_; have f4_ := f1_.symm; have f5_ := f3_.symm; clear f1_ f2_ f3_; subst f4_; subst f5_))
     obtain ⟨Ao169, co169, eo169⟩ := Kd.R_slice HO284.out
     (first | subst eo169 | (injection eo169 with f1_ f2_ f3_; have f4_ := f1_.symm; have f5_ := f3_.symm; clear f1_ f2_ f3_; subst f4_; subst f5_))
     refine hK.out _ _ ⟨(bkc BK271.out 0).trans rfl, (bkc BK271.out 1).trans rfl, (bkc BK271.out 2).trans rfl⟩ (fun hHeld => ?_)
     clear hK K
     refine norm_ (a' := ?_) ?_ ?_
     rotate_left
     ·show Act.put _ (some 31) _ = _
      simp only [Act.put, List.setIfInBounds_toArray, List.set_cons_zero, List.set_cons_succ, qa5, qa6]
      rfl
     refine one_ (i := 6) (N := some 32) #[true, true, true, true, true, true, true, false] rfl rfl (one_of HT_.out (by kernel_rfl)) (by decide) (fun K hK => ?_)
     refine goes_ Try.func24 (by kernel_rfl) rfl #[.slice Ao167 t274.length co167, .slice Ao168 t277.length co168, .agg #[.int .i64 t280, .int .i64 t281, .slice Ao169 t282.length co169]] (by rfl) rfl rfl (by (try simp only [List.map_toArray, List.map_cons, List.map_nil]); first | done | rfl | (simp only [List.length_drop, List.length_take]; rfl)) ?_
     with_reducible refine (spec_MostLoan.calls k _ _ t274 (fun k_ => (((True ∧ some k_ ≠ (.slice Ao167 t274.length co167 : Value).ownBlock) ∧ some k_ ≠ (.slice Ao169 t282.length co169 : Value).ownBlock) ∧ k_ ≠ gb271)) _ _ t277 t280 t281 (fun k_ => some k_ = (.slice Ao169 t282.length co169 : Value).ownBlock) _ _ t282 t285 _ ?side1 ?side2 ?side3 ?side4 A19.out).mono ?_
     (case side1 => repeat (first | exact (Kd.R_reads' HO276.out).2.2 | (with_reducible refine Kd.C_alloc ?_ _) | (with_reducible refine Kd.C_drewN ?_ _) | (with_reducible refine Kd.C_drew ?_)))
     (case side2 => exact (Kd.R_reads' HO276.out).2.1)
     (case side3 => exact Kd.S_V (Kd.S_types (HO279.out) BK271.out (by decide)))
     (case side4 => exact Kd.R_V (Kd.R_tight rfl (Kd.R_types (Kd.R_apart' (HO284.out) (Kd.S_typed HO279.out) (by decide)) BK271.out (by decide))))
     rintro e w170 ⟨rfl, hb⟩
     refine ⟨_, rfl, ?_⟩
     have n0_ := Ad.mk (Kd.R_below (by (with_reducible repeat (first | apply Kd.R_alloc | apply Kd.R_drewN | apply Kd.R_drew)); exact HO276.out) hb)
     have n1_ := Ad.mk (Kd.S_below (by (with_reducible repeat (first | apply Kd.S_alloc | apply Kd.S_drewN | apply Kd.S_drew)); exact HO279.out) hb)
     have n2_ := Ad.mk (Kd.R_below (by (with_reducible repeat (first | apply Kd.R_alloc | apply Kd.R_drewN | apply Kd.R_drew)); exact HO284.out) hb)
     have n3_ := Ad.mk (qa3 (g := gb271) (o := .cells #[.int .i64 a2_0, .int .i64 a2_1, .slice A2_2 l2_2.length c2_2] 47 (0, 0)) (by (with_reducible repeat (first | refine bkN ?_ _ | refine bkd ?_ | refine bka ?_ _)); exact BK271.out) hb)
     have n4_ := Ad.mk (qa2 (by repeat (first | (with_reducible first | exact HB.out | apply bwa | apply bwN | apply bw1 | refine bws ?_ GE271.out) | exact HB.out)) hb)
     clear HO276
     clear HO279
     clear HO284
     clear BK271
     clear HB
     have HO276 := n0_
     have HO279 := n1_
     have HO284 := n2_
     have BK271 := n3_
     have HB := n4_
     clear n0_ n1_ n2_ n3_ n4_
     (try clear hb)
     (try clear hb2)
     (try clear hk)
     (try clear hi)
     refine hK.out _ _ ⟨(bkc BK271.out 0).trans rfl, (bkc BK271.out 1).trans rfl, (bkc BK271.out 2).trans rfl⟩ (fun hHeld => ?_)
     clear hK K
     refine norm_ (a' := ?_) ?_ ?_
     rotate_left
     ·show Act.put _ (some 32) _ = _
      simp only [Act.put, List.setIfInBounds_toArray, List.set_cons_zero, List.set_cons_succ, qa5, qa6]
      rfl
     refine pure_ (i := 7) (N := some 8) (v := ?_) (a' := ?_) #[true, true, true, true, true, true, true, true] rfl rfl (any_of HT_.out (by kernel_rfl)) (fun _ _ _ h => h) (Or.inl ⟨by rfl, ?_⟩) ?_ ?_
     rotate_left
     ·intro w'
      go_simp
      with_reducible rfl
     rotate_left
     ·simp only [Act.put, List.setIfInBounds_toArray, List.set_cons_zero, List.set_cons_succ, qa5, qa6]
      rfl
     refine done_ (done_of HT_.out (by kernel_rfl)) ?_
     try go_wp2_with (first | ((with_reducible refine qa4 (f := 27) rfl ?_); refine goesL_ (some 34) rfl rfl Try.func27 (by kernel_rfl) rfl #[.slice A0 l0.length c0] rfl (by (try simp only [List.map_toArray, List.map_cons, List.map_nil]); first | done | rfl | (simp only [List.length_drop, List.length_take]; rfl)) ?_; (with_reducible refine (laws_toIntS.calls k _ _ l0 t286 _ ?side1 ?side2 A20.out).mono ?_); (case side1 => repeat (first | exact (Kd.C_below HR0.out HB.out) | (with_reducible refine Kd.C_alloc ?_ _) | (with_reducible refine Kd.C_drewN ?_ _) | (with_reducible refine Kd.C_drew ?_))); (case side2 => exact HC0.out); rintro e w171 ⟨v287, rfl, ho0, hb⟩; refine ⟨_, rfl, ?_⟩; have n0_ := Ad.mk (Kd.R_elder' (by (with_reducible repeat (first | apply Kd.R_alloc | apply Kd.R_drewN | apply Kd.R_drew)); exact HO276.out) (Kd.R_base ho0) hb); have n1_ := Ad.mk (Kd.S_elder' (by (with_reducible repeat (first | apply Kd.S_alloc | apply Kd.S_drewN | apply Kd.S_drew)); exact HO279.out) (Kd.R_base ho0) hb); have n2_ := Ad.mk (Kd.R_elder' (by (with_reducible repeat (first | apply Kd.R_alloc | apply Kd.R_drewN | apply Kd.R_drew)); exact HO284.out) (Kd.R_base ho0) hb); have n3_ := Ad.mk (Kd.R_lower (Kd.R_new' (Kd.R_new' ho0 (Kd.R_lt (by (with_reducible repeat (first | apply Kd.R_alloc | apply Kd.R_drewN | apply Kd.R_drew)); exact HO276.out))) (Kd.R_lt (by (with_reducible repeat (first | apply Kd.R_alloc | apply Kd.R_drewN | apply Kd.R_drew)); exact HO284.out))) (qa0 (by repeat (first | (with_reducible first | exact HB.out | apply bwa | apply bwN | apply bw1 | refine bws ?_ GE271.out) | exact HB.out)))); have n4_ := Ad.mk (qa3 (g := gb271) (o := .cells #[.int .i64 a2_0, .int .i64 a2_1, .slice A2_2 l2_2.length c2_2] 47 (0, 0)) (by (with_reducible repeat (first | refine bkN ?_ _ | refine bkd ?_ | refine bka ?_ _)); exact BK271.out) hb); have n5_ := Ad.mk (qa2 (by repeat (first | (with_reducible first | exact HB.out | apply bwa | apply bwN | apply bw1 | refine bws ?_ GE271.out) | exact HB.out)) hb); clear HO276; clear HO279; clear HO284; clear BK271; clear HB; have HO276 := n0_; have HO279 := n1_; have HO284 := n2_; have HO288 := n3_; have BK271 := n4_; have HB := n5_; clear n0_ n1_ n2_ n3_ n4_ n5_; (try clear hb); (try clear hb2); (try clear hk); (try clear hi); (try clear ho0)) | ((with_reducible refine qa4 (f := 17) rfl ?_); refine goesL_ (some 36) rfl rfl Try.func17 (by kernel_rfl) rfl #[.slice A1 l1.length c1] rfl (by (try simp only [List.map_toArray, List.map_cons, List.map_nil]); first | done | rfl | (simp only [List.length_drop, List.length_take]; rfl)) ?_; (with_reducible refine (laws_toLoanS.calls k _ _ l1 t289 _ ?side1 ?side2 A21.out).mono ?_); (case side1 => repeat (first | exact (Kd.C_below HR1.out HB.out) | (with_reducible refine Kd.C_alloc ?_ _) | (with_reducible refine Kd.C_drewN ?_ _) | (with_reducible refine Kd.C_drew ?_))); (case side2 => exact HC1.out); rintro e w172 ⟨v290, rfl, ho0, hb⟩; refine ⟨_, rfl, ?_⟩; have n0_ := Ad.mk (Kd.R_below (by (with_reducible repeat (first | apply Kd.R_alloc | apply Kd.R_drewN | apply Kd.R_drew)); exact HO276.out) hb); have n1_ := Ad.mk (Kd.S_elder' (by (with_reducible repeat (first | apply Kd.S_alloc | apply Kd.S_drewN | apply Kd.S_drew)); exact HO279.out) (Kd.S_base ho0) hb); have n2_ := Ad.mk (Kd.R_below (by (with_reducible repeat (first | apply Kd.R_alloc | apply Kd.R_drewN | apply Kd.R_drew)); exact HO284.out) hb); have n3_ := Ad.mk (Kd.R_below (by (with_reducible repeat (first | apply Kd.R_alloc | apply Kd.R_drewN | apply Kd.R_drew)); exact HO288.out) hb); have n4_ := Ad.mk (Kd.S_lower (Kd.S_new' (Kd.S_new' (Kd.S_new' (Kd.S_new' ho0 (Kd.R_lt (by (with_reducible repeat (first | apply Kd.R_alloc | apply Kd.R_drewN | apply Kd.R_drew)); exact HO276.out))) (Kd.S_lt (by (with_reducible repeat (first | apply Kd.S_alloc | apply Kd.S_drewN | apply Kd.S_drew)); exact HO279.out))) (Kd.R_lt (by (with_reducible repeat (first | apply Kd.R_alloc | apply Kd.R_drewN | apply Kd.R_drew)); exact HO284.out))) (Kd.R_lt (by (with_reducible repeat (first | apply Kd.R_alloc | apply Kd.R_drewN | apply Kd.R_drew)); exact HO288.out))) (qa0 (by repeat (first | (with_reducible first | exact HB.out | apply bwa | apply bwN | apply bw1 | refine bws ?_ GE271.out) | exact HB.out)))); have n5_ := Ad.mk (qa3 (g := gb271) (o := .cells #[.int .i64 a2_0, .int .i64 a2_1, .slice A2_2 l2_2.length c2_2] 47 (0, 0)) (by (with_reducible repeat (first | refine bkN ?_ _ | refine bkd ?_ | refine bka ?_ _)); exact BK271.out) hb); have n6_ := Ad.mk (qa2 (by repeat (first | (with_reducible first | exact HB.out | apply bwa | apply bwN | apply bw1 | refine bws ?_ GE271.out) | exact HB.out)) hb); clear HO276; clear HO279; clear HO284; clear HO288; clear BK271; clear HB; have HO276 := n0_; have HO279 := n1_; have HO284 := n2_; have HO288 := n3_; have HO291 := n4_; have BK271 := n5_; have HB := n6_; clear n0_ n1_ n2_ n3_ n4_ n5_ n6_; (try clear hb); (try clear hb2); (try clear hk); (try clear hi); (try clear ho0); have hcz173_0 : w172.cell? ⟨gb271, 0, none⟩ = some (.int .i64 a2_0) := (bkc BK271.out 0).trans rfl; have hcz173_1 : w172.cell? ⟨gb271, 1, none⟩ = some (.int .i64 a2_1) := (bkc BK271.out 1).trans rfl; have hcz173_2 : w172.cell? ⟨gb271, 2, none⟩ = some (.slice A2_2 l2_2.length c2_2) := (bkc BK271.out 2).trans rfl; have hfz173_0 := qa1 BK271.out 0; have hfz173_1 := qa1 BK271.out 1; have hfz173_2 := qa1 BK271.out 2) | ((with_reducible refine qa4 (f := 28) rfl ?_); refine goesL_ (some 38) rfl rfl Try.func28 (by kernel_rfl) rfl #[.agg #[.int .i64 a2_0, .int .i64 a2_1, .slice A2_2 l2_2.length c2_2]] rfl (by (try simp only [List.map_toArray, List.map_cons, List.map_nil]); first | done | rfl | (simp only [List.length_drop, List.length_take]; rfl)) ?_; (with_reducible refine (laws_toLoan.calls k a2_0 a2_1 _ _ l2_2 t292 t293 t294 _ ?side1 ?side2 A22.out).mono ?_); (case side1 => repeat (first | exact (Kd.C_below HR2_2.out HB.out) | (with_reducible refine Kd.C_alloc ?_ _) | (with_reducible refine Kd.C_drewN ?_ _) | (with_reducible refine Kd.C_drew ?_))); (case side2 => exact HC2_2.out); rintro e w174 ⟨v295, rfl, ho0, hb⟩; refine ⟨_, rfl, ?_⟩; have n0_ := Ad.mk (Kd.R_elder' (by (with_reducible repeat (first | apply Kd.R_alloc | apply Kd.R_drewN | apply Kd.R_drew)); exact HO276.out) (Kd.R_base ho0) hb); have n1_ := Ad.mk (Kd.S_elder' (by (with_reducible repeat (first | apply Kd.S_alloc | apply Kd.S_drewN | apply Kd.S_drew)); exact HO279.out) (Kd.R_base ho0) hb); have n2_ := Ad.mk (Kd.R_elder' (by (with_reducible repeat (first | apply Kd.R_alloc | apply Kd.R_drewN | apply Kd.R_drew)); exact HO284.out) (Kd.R_base ho0) hb); have n3_ := Ad.mk (Kd.R_elder' (by (with_reducible repeat (first | apply Kd.R_alloc | apply Kd.R_drewN | apply Kd.R_drew)); exact HO288.out) (Kd.R_base ho0) hb); have n4_ := Ad.mk (Kd.S_elder' (by (with_reducible repeat (first | apply Kd.S_alloc | apply Kd.S_drewN | apply Kd.S_drew)); exact HO291.out) (Kd.R_base ho0) hb); have n5_ := Ad.mk (Kd.R_lower (Kd.R_new' (Kd.R_new' (Kd.R_new' ho0 (Kd.R_lt (by (with_reducible repeat (first | apply Kd.R_alloc | apply Kd.R_drewN | apply Kd.R_drew)); exact HO276.out))) (Kd.R_lt (by (with_reducible repeat (first | apply Kd.R_alloc | apply Kd.R_drewN | apply Kd.R_drew)); exact HO284.out))) (Kd.R_lt (by (with_reducible repeat (first | apply Kd.R_alloc | apply Kd.R_drewN | apply Kd.R_drew)); exact HO288.out))) (qa0 (by repeat (first | (with_reducible first | exact HB.out | apply bwa | apply bwN | apply bw1 | refine bws ?_ GE271.out) | exact HB.out)))); have n6_ := Ad.mk (qa3 (g := gb271) (o := .cells #[.int .i64 a2_0, .int .i64 a2_1, .slice A2_2 l2_2.length c2_2] 47 (0, 0)) (by (with_reducible repeat (first | refine bkN ?_ _ | refine bkd ?_ | refine bka ?_ _)); exact BK271.out) hb); have n7_ := Ad.mk (qa2 (by repeat (first | (with_reducible first | exact HB.out | apply bwa | apply bwN | apply bw1 | refine bws ?_ GE271.out) | exact HB.out)) hb); clear HO276; clear HO279; clear HO284; clear HO288; clear HO291; clear BK271; clear HB; have HO276 := n0_; have HO279 := n1_; have HO284 := n2_; have HO288 := n3_; have HO291 := n4_; have HO296 := n5_; have BK271 := n6_; have HB := n7_; clear n0_ n1_ n2_ n3_ n4_ n5_ n6_ n7_; (try clear hb); (try clear hb2); (try clear hk); (try clear hi); (try clear ho0)) | ((with_reducible refine gate_dst (N := 11) rfl ?_); refine box_event ?hg (N := 11) ?hd (cs := #[.int .i64 0, .int .i64 0, .slice none 0 0]) (t := 42) ?hr ?_; (case hd => rfl); (case hg => rfl); (case hr => first | (go_simp; done) | (go_simp; rfl)); intro gb297 hg w175 hbox hb; have n0_ := Ad.mk (Kd.R_below (by (with_reducible repeat (first | apply Kd.R_alloc | apply Kd.R_drewN | apply Kd.R_drew)); exact HO276.out) hb); have n1_ := Ad.mk (Kd.S_below (Kd.S_elderB (by (with_reducible repeat (first | apply Kd.S_alloc | apply Kd.S_drewN | apply Kd.S_drew)); exact HO279.out) gb297 (Nat.le_of_eq hg.symm)) hb); have n2_ := Ad.mk (Kd.R_below (by (with_reducible repeat (first | apply Kd.R_alloc | apply Kd.R_drewN | apply Kd.R_drew)); exact HO284.out) hb); have n3_ := Ad.mk (Kd.R_below (by (with_reducible repeat (first | apply Kd.R_alloc | apply Kd.R_drewN | apply Kd.R_drew)); exact HO288.out) hb); have n4_ := Ad.mk (Kd.S_below (Kd.S_elderB (by (with_reducible repeat (first | apply Kd.S_alloc | apply Kd.S_drewN | apply Kd.S_drew)); exact HO291.out) gb297 (Nat.le_of_eq hg.symm)) hb); have n5_ := Ad.mk (Kd.R_below (by (with_reducible repeat (first | apply Kd.R_alloc | apply Kd.R_drewN | apply Kd.R_drew)); exact HO296.out) hb); have n6_ := Ad.mk (qa3 (g := gb271) (o := .cells #[.int .i64 a2_0, .int .i64 a2_1, .slice A2_2 l2_2.length c2_2] 47 (0, 0)) (by (with_reducible repeat (first | refine bkN ?_ _ | refine bkd ?_ | refine bka ?_ _)); exact BK271.out) hb); have n7_ := Ad.mk (qa2 (by repeat (first | (with_reducible first | exact HB.out | apply bwa | apply bwN | apply bw1 | refine bws ?_ GE271.out) | exact HB.out)) hb); have n8_ := Ad.mk (hbox); have n9_ := Ad.mk ((by rw [hg]; exact (qa0 (by repeat (first | (with_reducible first | exact HB.out | apply bwa | apply bwN | apply bw1 | refine bws ?_ GE271.out) | exact HB.out))) : w.heap.size ≤ gb297)); have n10_ := Ad.mk ((by rw [hg]; exact (qa0 (by repeat (first | (with_reducible first | exact HB.out | apply bwa | apply bwN | apply bw1 | refine bws ?_ GE271.out) | exact HB.out))) : w.heap.size ≤ gb297)); have n11_ := Ad.mk ((by rw [hg]; exact Nat.ne_of_lt (blk_lt (g := gb271) (o := .cells #[.int .i64 a2_0, .int .i64 a2_1, .slice A2_2 l2_2.length c2_2] 47 (0, 0)) (by (with_reducible repeat (first | refine bkN ?_ _ | refine bkd ?_ | refine bka ?_ _)); exact BK271.out)) : gb271 ≠ gb297)); have n12_ := Ad.mk ((by rw [hg]; exact Nat.ne_of_gt (blk_lt (g := gb271) (o := .cells #[.int .i64 a2_0, .int .i64 a2_1, .slice A2_2 l2_2.length c2_2] 47 (0, 0)) (by (with_reducible repeat (first | refine bkN ?_ _ | refine bkd ?_ | refine bka ?_ _)); exact BK271.out)) : gb297 ≠ gb271)); clear HO276; clear HO279; clear HO284; clear HO288; clear HO291; clear HO296; clear BK271; clear HB; have HO276 := n0_; have HO279 := n1_; have HO284 := n2_; have HO288 := n3_; have HO291 := n4_; have HO296 := n5_; have BK271 := n6_; have HB := n7_; have BK297 := n8_; have GW297 := n9_; have GE297 := n10_; have NB271_297 := n11_; have NB297_271 := n12_; clear n0_ n1_ n2_ n3_ n4_ n5_ n6_ n7_ n8_ n9_ n10_ n11_ n12_; clear hb hbox hg; have hnb176 := NB297_271.out; have hnc176 := NB271_297.out; have hcz177_0 : w175.cell? ⟨gb297, 0, none⟩ = some (.int .i64 0) := (bkc BK297.out 0).trans rfl; have hcz177_1 : w175.cell? ⟨gb297, 1, none⟩ = some (.int .i64 0) := (bkc BK297.out 1).trans rfl; have hcz177_2 : w175.cell? ⟨gb297, 2, none⟩ = some (.slice none 0 0) := (bkc BK297.out 2).trans rfl; have hfz177_0 := qa1 BK297.out 0; have hfz177_1 := qa1 BK297.out 1; have hfz177_2 := qa1 BK297.out 2; obtain ⟨Ao178, co178, eo178⟩ := Kd.R_slice HO296.out; subst eo178) | ((with_reducible refine gate_store (t := 42) (p := 11) rfl ?_); refine store_event (t := 42) (p := 11) (v := ?vo_w179) (w1 := (((w175.setCell ⟨gb297, 0, none⟩ (.int .i64 t292)).setCell ⟨gb297, 1, none⟩ (.int .i64 t293)).setCell ⟨gb297, 2, none⟩ (.slice Ao178 t294.length co178))) ?hg ?ho ?hn ?hr ?_; (case ho => rfl); (case hg => rfl); (case hn => rfl); (case hr => first | (go_simp; done) | (go_simp; rfl)); intro w179 hw; have n0_ : Ad (Kd.R (Kd.int .i64) 3 w179 w.heap.size (fun k_ => some k_ ≠ (.slice Ao169 t282.length co169 : Value).ownBlock ∧ some k_ ≠ (v287 : Value).ownBlock ∧ some k_ ≠ (.slice Ao178 t294.length co178 : Value).ownBlock) (.slice Ao167 t274.length co167) t274) := ⟨(by rw [hw]; exact (by (with_reducible repeat (first | apply Kd.R_alloc | apply Kd.R_drewN | apply Kd.R_drew)); exact Kd.R_mono (Kd.R_far (p := ⟨gb297, 2, none⟩) (Kd.R_far (p := ⟨gb297, 1, none⟩) (Kd.R_far (p := ⟨gb297, 0, none⟩) (Kd.R_types HO276.out BK297.out (by decide)) (fun _ hk => hk.2) (.int .i64 t292)) (fun _ hk => hk.2) (.int .i64 t293)) (fun _ hk => hk.2) (.slice Ao178 t294.length co178)) (fun _ hk => ⟨hk.1.1.1.2, ⟨hk.1.1.2, hk.1.2⟩⟩)))⟩; have n1_ : Ad (Kd.S k42 42 w179 w.heap.size (fun k_ => some k_ ≠ (.slice Ao167 t274.length co167 : Value).ownBlock ∧ some k_ ≠ (.slice Ao169 t282.length co169 : Value).ownBlock ∧ some k_ ≠ (v287 : Value).ownBlock ∧ some k_ ≠ (v290 : Value).ownBlock ∧ some k_ ≠ (.slice Ao178 t294.length co178 : Value).ownBlock ∧ k_ ≠ gb297) (.slice Ao168 t277.length co168) t277) := ⟨(by rw [hw]; exact (by (with_reducible repeat (first | apply Kd.S_alloc | apply Kd.S_drewN | apply Kd.S_drew)); exact Kd.S_mono (Kd.S_far (p := ⟨gb297, 2, none⟩) (Kd.S_far (p := ⟨gb297, 1, none⟩) (Kd.S_far (p := ⟨gb297, 0, none⟩) (Kd.S_mono HO279.out (fun k_ hk => (⟨hk, hk.2⟩ : _ ∧ k_ ≠ gb297))) (fun _ hk => hk.2) (.int .i64 t292)) (fun _ hk => hk.2) (.int .i64 t293)) (fun _ hk => hk.2) (.slice Ao178 t294.length co178)) (fun _ hk => ⟨hk.1.1.1.1.1.1.2, ⟨hk.1.1.1.1.1.2, ⟨hk.1.1.1.1.2, ⟨hk.1.1.1.2, ⟨hk.1.1.2, hk.1.2⟩⟩⟩⟩⟩)))⟩; have n2_ : Ad (Kd.R (Kd.int .i64) 3 w179 w.heap.size (fun k_ => some k_ ≠ (.slice Ao167 t274.length co167 : Value).ownBlock ∧ some k_ ≠ (v287 : Value).ownBlock ∧ some k_ ≠ (.slice Ao178 t294.length co178 : Value).ownBlock) (.slice Ao169 t282.length co169) t282) := ⟨(by rw [hw]; exact (by (with_reducible repeat (first | apply Kd.R_alloc | apply Kd.R_drewN | apply Kd.R_drew)); exact Kd.R_mono (Kd.R_far (p := ⟨gb297, 2, none⟩) (Kd.R_far (p := ⟨gb297, 1, none⟩) (Kd.R_far (p := ⟨gb297, 0, none⟩) (Kd.R_types HO284.out BK297.out (by decide)) (fun _ hk => hk.2) (.int .i64 t292)) (fun _ hk => hk.2) (.int .i64 t293)) (fun _ hk => hk.2) (.slice Ao178 t294.length co178)) (fun _ hk => ⟨hk.1.1.1.2, ⟨hk.1.1.2, hk.1.2⟩⟩)))⟩; have n3_ : Ad (Kd.R (Kd.int .i64) 3 w179 w.heap.size (fun k_ => some k_ ≠ (.slice Ao167 t274.length co167 : Value).ownBlock ∧ some k_ ≠ (.slice Ao169 t282.length co169 : Value).ownBlock ∧ some k_ ≠ (.slice Ao178 t294.length co178 : Value).ownBlock) v287 t286) := ⟨(by rw [hw]; exact (by (with_reducible repeat (first | apply Kd.R_alloc | apply Kd.R_drewN | apply Kd.R_drew)); exact Kd.R_mono (Kd.R_far (p := ⟨gb297, 2, none⟩) (Kd.R_far (p := ⟨gb297, 1, none⟩) (Kd.R_far (p := ⟨gb297, 0, none⟩) (Kd.R_types HO288.out BK297.out (by decide)) (fun _ hk => hk.2) (.int .i64 t292)) (fun _ hk => hk.2) (.int .i64 t293)) (fun _ hk => hk.2) (.slice Ao178 t294.length co178)) (fun _ hk => ⟨hk.1.1.1.2, ⟨hk.1.1.2, hk.1.2⟩⟩)))⟩; have n4_ : Ad (Kd.S k42 42 w179 w.heap.size (fun k_ => some k_ ≠ (.slice Ao167 t274.length co167 : Value).ownBlock ∧ some k_ ≠ (.slice Ao168 t277.length co168 : Value).ownBlock ∧ some k_ ≠ (.slice Ao169 t282.length co169 : Value).ownBlock ∧ some k_ ≠ (v287 : Value).ownBlock ∧ some k_ ≠ (.slice Ao178 t294.length co178 : Value).ownBlock ∧ k_ ≠ gb297) v290 t289) := ⟨(by rw [hw]; exact (by (with_reducible repeat (first | apply Kd.S_alloc | apply Kd.S_drewN | apply Kd.S_drew)); exact Kd.S_mono (Kd.S_far (p := ⟨gb297, 2, none⟩) (Kd.S_far (p := ⟨gb297, 1, none⟩) (Kd.S_far (p := ⟨gb297, 0, none⟩) (Kd.S_mono HO291.out (fun k_ hk => (⟨hk, hk.2⟩ : _ ∧ k_ ≠ gb297))) (fun _ hk => hk.2) (.int .i64 t292)) (fun _ hk => hk.2) (.int .i64 t293)) (fun _ hk => hk.2) (.slice Ao178 t294.length co178)) (fun _ hk => ⟨hk.1.1.1.1.1.1.2, ⟨hk.1.1.1.1.1.2, ⟨hk.1.1.1.1.2, ⟨hk.1.1.1.2, ⟨hk.1.1.2, hk.1.2⟩⟩⟩⟩⟩)))⟩; have n5_ : Ad (Kd.R (Kd.int .i64) 3 w179 w.heap.size (fun k_ => some k_ ≠ (.slice Ao167 t274.length co167 : Value).ownBlock ∧ some k_ ≠ (.slice Ao169 t282.length co169 : Value).ownBlock ∧ some k_ ≠ (v287 : Value).ownBlock) (.slice Ao178 t294.length co178) t294) := ⟨(by rw [hw]; exact (by (with_reducible repeat (first | apply Kd.R_alloc | apply Kd.R_drewN | apply Kd.R_drew)); exact Kd.R_mono (Kd.R_far (p := ⟨gb297, 2, none⟩) (Kd.R_far (p := ⟨gb297, 1, none⟩) (Kd.R_far (p := ⟨gb297, 0, none⟩) (Kd.R_types HO296.out BK297.out (by decide)) (fun _ hk => hk.2) (.int .i64 t292)) (fun _ hk => hk.2) (.int .i64 t293)) (fun _ hk => hk.2) (.slice Ao178 t294.length co178)) (fun _ hk => ⟨hk.1.1.1.2, ⟨hk.1.1.2, hk.1.2⟩⟩)))⟩; have n6_ : Ad (w179.heap[gb271]? = some (.cells #[.int .i64 a2_0, .int .i64 a2_1, .slice A2_2 l2_2.length c2_2] 47 (0, 0))) := ⟨(by rw [hw]; exact (by (with_reducible repeat (first | refine bkN ?_ _ | refine bkd ?_ | refine bka ?_ _)); refine blk_far ?_ NB271_297.out _; (with_reducible repeat (first | refine bkN ?_ _ | refine bkd ?_ | refine bka ?_ _)); refine blk_far ?_ NB271_297.out _; (with_reducible repeat (first | refine bkN ?_ _ | refine bkd ?_ | refine bka ?_ _)); refine blk_far ?_ NB271_297.out _; (with_reducible repeat (first | refine bkN ?_ _ | refine bkd ?_ | refine bka ?_ _)); exact BK271.out))⟩; have n7_ : Ad (w179.heap[gb297]? = some (.cells #[.int .i64 t292, .int .i64 t293, .slice Ao178 t294.length co178] 42 (0, 0))) := ⟨(by rw [hw]; exact (by (with_reducible repeat (first | refine bkN ?_ _ | refine bkd ?_ | refine bka ?_ _)); refine blk_put (cs := #[.int .i64 t292, .int .i64 t293, .slice none 0 0]) ?_ 2 _ rfl; (with_reducible repeat (first | refine bkN ?_ _ | refine bkd ?_ | refine bka ?_ _)); refine blk_put (cs := #[.int .i64 t292, .int .i64 0, .slice none 0 0]) ?_ 1 _ rfl; (with_reducible repeat (first | refine bkN ?_ _ | refine bkd ?_ | refine bka ?_ _)); refine blk_put (cs := #[.int .i64 0, .int .i64 0, .slice none 0 0]) ?_ 0 _ rfl; (with_reducible repeat (first | refine bkN ?_ _ | refine bkd ?_ | refine bka ?_ _)); exact BK297.out))⟩; have n8_ : Ad (Below w.heap.size w w179) := ⟨(by rw [hw]; exact (by repeat (first | (with_reducible first | exact HB.out | apply bwa | apply bwN | apply bw1 | refine bws ?_ GE271.out | refine bws ?_ GE297.out) | exact HB.out)))⟩; clear hw; clear HO276; clear HO279; clear HO284; clear HO288; clear HO291; clear HO296; clear BK271; clear BK297; clear HB; have HO276 := n0_; have HO279 := n1_; have HO284 := n2_; have HO288 := n3_; have HO291 := n4_; have HO296 := n5_; have BK271 := n6_; have BK297 := n7_; have HB := n8_; clear n0_ n1_ n2_ n3_ n4_ n5_ n6_ n7_ n8_; have hcz180_0 : w179.cell? ⟨gb297, 0, none⟩ = some (.int .i64 t292) := (bkc BK297.out 0).trans rfl; have hcz180_1 : w179.cell? ⟨gb297, 1, none⟩ = some (.int .i64 t293) := (bkc BK297.out 1).trans rfl; have hcz180_2 : w179.cell? ⟨gb297, 2, none⟩ = some (.slice Ao178 t294.length co178) := (bkc BK297.out 2).trans rfl; have hfz180_0 := qa1 BK297.out 0; have hfz180_1 := qa1 BK297.out 1; have hfz180_2 := qa1 BK297.out 2; obtain ⟨Ao181, co181, eo181⟩ := Kd.R_slice HO288.out; subst eo181; obtain ⟨Ao182, co182, eo182⟩ := Kd.S_slice HO291.out; subst eo182) | ((with_reducible refine qa4 (f := 23) rfl ?_); refine goesL_ (some 42) rfl rfl Try.func23 (by kernel_rfl) rfl #[.slice Ao181 t286.length co181, .slice Ao182 t289.length co182, .agg #[.int .i64 t292, .int .i64 t293, .slice Ao178 t294.length co178]] rfl (by (try simp only [List.map_toArray, List.map_cons, List.map_nil]); first | done | rfl | (simp only [List.length_drop, List.length_take]; rfl)) ?_; (with_reducible refine (impl_MostLoan.calls k _ _ t286 (fun k_ => ((some k_ ≠ (.slice Ao167 t274.length co167 : Value).ownBlock ∧ (some k_ ≠ (.slice Ao168 t277.length co168 : Value).ownBlock ∧ (some k_ ≠ (.slice Ao169 t282.length co169 : Value).ownBlock ∧ (some k_ ≠ (.slice Ao181 t286.length co181 : Value).ownBlock ∧ (some k_ ≠ (.slice Ao178 t294.length co178 : Value).ownBlock ∧ k_ ≠ gb297))))) ∧ k_ ≠ gb271)) _ _ t289 t292 t293 (fun k_ => some k_ = (.slice Ao178 t294.length co178 : Value).ownBlock) _ _ t294 t298 _ ?side1 ?side2 ?side3 ?side4 A23.out).mono ?_); (case side1 => repeat (first | exact (Kd.R_reads' HO288.out).2.2 | (with_reducible refine Kd.C_alloc ?_ _) | (with_reducible refine Kd.C_drewN ?_ _) | (with_reducible refine Kd.C_drew ?_))); (case side2 => exact (Kd.R_reads' HO288.out).2.1); (case side3 => exact Kd.S_V (Kd.S_types (HO291.out) BK271.out (by decide))); (case side4 => exact Kd.R_V (Kd.R_tight rfl (Kd.R_types (Kd.R_types (Kd.R_apart' (Kd.R_apart' (HO296.out) (Kd.S_typed HO279.out) (by decide)) (Kd.S_typed HO291.out) (by decide)) BK271.out (by decide)) BK297.out (by decide)))); rintro e w183 ⟨rfl, hb⟩; refine ⟨_, rfl, ?_⟩; have n0_ := Ad.mk (Kd.R_below (by (with_reducible repeat (first | apply Kd.R_alloc | apply Kd.R_drewN | apply Kd.R_drew)); exact HO276.out) hb); have n1_ := Ad.mk (Kd.S_below (by (with_reducible repeat (first | apply Kd.S_alloc | apply Kd.S_drewN | apply Kd.S_drew)); exact HO279.out) hb); have n2_ := Ad.mk (Kd.R_below (by (with_reducible repeat (first | apply Kd.R_alloc | apply Kd.R_drewN | apply Kd.R_drew)); exact HO284.out) hb); have n3_ := Ad.mk (Kd.R_below (by (with_reducible repeat (first | apply Kd.R_alloc | apply Kd.R_drewN | apply Kd.R_drew)); exact HO288.out) hb); have n4_ := Ad.mk (Kd.S_below (by (with_reducible repeat (first | apply Kd.S_alloc | apply Kd.S_drewN | apply Kd.S_drew)); exact HO291.out) hb); have n5_ := Ad.mk (Kd.R_below (by (with_reducible repeat (first | apply Kd.R_alloc | apply Kd.R_drewN | apply Kd.R_drew)); exact HO296.out) hb); have n6_ := Ad.mk (qa3 (g := gb271) (o := .cells #[.int .i64 a2_0, .int .i64 a2_1, .slice A2_2 l2_2.length c2_2] 47 (0, 0)) (by (with_reducible repeat (first | refine bkN ?_ _ | refine bkd ?_ | refine bka ?_ _)); exact BK271.out) hb); have n7_ := Ad.mk (qa3 (g := gb297) (o := .cells #[.int .i64 t292, .int .i64 t293, .slice Ao178 t294.length co178] 42 (0, 0)) (by (with_reducible repeat (first | refine bkN ?_ _ | refine bkd ?_ | refine bka ?_ _)); exact BK297.out) hb); have n8_ := Ad.mk (qa2 (by repeat (first | (with_reducible first | exact HB.out | apply bwa | apply bwN | apply bw1 | refine bws ?_ GE271.out | refine bws ?_ GE297.out) | exact HB.out)) hb); clear HO276; clear HO279; clear HO284; clear HO288; clear HO291; clear HO296; clear BK271; clear BK297; clear HB; have HO276 := n0_; have HO279 := n1_; have HO284 := n2_; have HO288 := n3_; have HO291 := n4_; have HO296 := n5_; have BK271 := n6_; have BK297 := n7_; have HB := n8_; clear n0_ n1_ n2_ n3_ n4_ n5_ n6_ n7_ n8_; (try clear hb); (try clear hb2); (try clear hk); (try clear hi)))
     go_ret
     exact ⟨by first | rfl | (simp [errW_none, errW_some] <;> rfl) | (simp [*, errW_none, errW_some] <;> rfl), by repeat (first | (with_reducible first | exact HB.out | apply bwa | apply bwN | apply bw1 | refine bws ?_ GE271.out | refine bws ?_ GE297.out) | exact HB.out)⟩

end Go.Proofs.Ytifohlgdkdcpeaa.PFnExactMostLoan
