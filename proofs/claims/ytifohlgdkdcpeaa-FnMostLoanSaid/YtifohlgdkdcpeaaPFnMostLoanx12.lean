-- printed by pp.py, a program of this session's own, out of the translation; not the kit's print
-- halved
import Derived.Test.YtifohlgdkdcpeaaPFnMostLoanx0
import Derived.Test.YtifohlgdkdcpeaaPFnMostLoanx3
import Derived.Test.YtifohlgdkdcpeaaPFnMostLoanx6
import Derived.Test.YtifohlgdkdcpeaaPFnMostLoanx7
import Derived.Test.YtifohlgdkdcpeaaPFnMostLoanx11
namespace Go.Proofs.Ytifohlgdkdcpeaa.PFnMostLoan
open Go.RowKit Go.Proofs.YtifohlgdkdcpeaaW.PrintWords Go.Proofs.YtifohlgdkdcpeaaW.PrintLast Go.Proofs.YtifohlgdkdcpeaaW.PrintMore
attribute [local go_sem] max2_int min2_int max_two min_two max_three min_three max_four min_four   -- for this text's walks alone
set_option linter.unusedVariables false
set_option linter.unusedSimpArgs false

/-! ### laws_FnMostLoan: function 5 -/
mutual
def laws_FnMostLoan.j0 : Nat → List Int → List (S42) → Int → Bool → Int → Int → List Int → Option (Bool)
 | 0, _, _, _, _, _, _, _ => none
 | k + 1, x3, x4, x6, x33, x401000, x401001, x401002 => if x33 = true then ((spec_MostLoan.f k x3 x4 x401000 x401001 x401002).bind fun t403 => (some (x6 == t403))) else ((some (([] : List (S42)) : List (S42))).bind fun y406 => (if y406.length + x4.length < 3518437208883 then ((some (y406 ++ x4 : List (S42))).bind fun y409 => ((some (([(⟨x401000, x6, x401002⟩ : S42)] : List (S42)) : List (S42))).bind fun y412 => (if y409.length + y412.length < 3518437208883 then ((some (([] : List (S42)) : List (S42))).bind fun y418 => (if y418.length + x4.length < 3518437208883 then ((some (y418 ++ x4 : List (S42))).bind fun y421 => ((some (([(⟨x401000, wrap64 (x6 + 1), x401002⟩ : S42)] : List (S42)) : List (S42))).bind fun y424 => (if y421.length + y424.length < 3518437208883 then (laws_FnMostLoan.j1 k x3 x6 (y409 ++ y412) (y421 ++ y424)) else (none)))) else (none))) else (none)))) else (none)))
def laws_FnMostLoan.j1 : Nat → List Int → Int → List (S42) → List (S42) → Option (Bool)
 | 0, _, _, _, _ => none
 | k + 1, x3, x6, x9, x10 => if x6 = 0 then (if x6 = 100000 then (some true) else ((impl_SafeLoans.f k x3 x10).bind fun t430 => (some (!t430)))) else ((impl_SafeLoans.f k x3 x9).bind fun t431 => (if t431 = true then (if x6 = 100000 then (some true) else ((impl_SafeLoans.f k x3 x10).bind fun t432 => (some (!t432)))) else (some false)))
end
def laws_FnMostLoan.f (k : Nat) (l0 : List Int) : Option (Bool) := if (l0.length : Int) > 1048576 then (some true) else ((spec_DrawMostLoan.f k l0).bind fun bt389 => ((impl_MostLoan.f k bt389.1 bt389.2.1 bt389.2.2.1 bt389.2.2.2.1 bt389.2.2.2.2).bind fun t401 => ((spec_MostLoan.f k bt389.1 bt389.2.1 bt389.2.2.1 bt389.2.2.2.1 bt389.2.2.2.2).bind fun t402 => (if t401 = t402 then (laws_FnMostLoan.j0 k bt389.1 bt389.2.1 t401 (decide (t401 < 0)) bt389.2.2.1 bt389.2.2.2.1 bt389.2.2.2.2) else (laws_FnMostLoan.j0 k bt389.1 bt389.2.1 t401 true bt389.2.2.1 bt389.2.2.2.1 bt389.2.2.2.2)))))
theorem laws_FnMostLoan.mono_l : ∀ k, (∀ y0 y1 y2 y3 y4 y5 y6, LeO (laws_FnMostLoan.j0 k y0 y1 y2 y3 y4 y5 y6) (laws_FnMostLoan.j0 (k + 1) y0 y1 y2 y3 y4 y5 y6)) ∧ (∀ y0 y1 y2 y3, LeO (laws_FnMostLoan.j1 k y0 y1 y2 y3) (laws_FnMostLoan.j1 (k + 1) y0 y1 y2 y3))
 | 0 => ⟨fun _ _ _ _ _ _ _ r h => by simp [laws_FnMostLoan.j0] at h, fun _ _ _ _ r h => by simp [laws_FnMostLoan.j1] at h⟩
 | k + 1 => by
  obtain ⟨ih0, ih1⟩ := laws_FnMostLoan.mono_l k
  refine ⟨?_, ?_⟩
  ·intro y0 y1 y2 y3 y4 y5 y6
   unfold laws_FnMostLoan.j0
   repeat' first
   | (with_reducible exact ih0 _ _ _ _ _ _ _)
   | (with_reducible exact ih1 _ _ _ _)
   | (with_reducible exact impl_MostLoan.mono _ _ _ _ _ _)
   | (with_reducible exact impl_SafeLoans.mono _ _ _)
   | (with_reducible exact spec_DrawMostLoan.mono _ _)
   | (with_reducible exact spec_MostLoan.mono _ _ _ _ _ _)
   | (with_reducible exact LeO.refl _)
   | (with_reducible exact LeO.none _)
   | (with_reducible refine LeO.ite ?_ ?_)
   | (with_reducible refine LeO.bind ?_ (fun _ => ?_))
   | exact ih0 _ _ _ _ _ _ _
   | exact ih1 _ _ _ _
   | exact impl_MostLoan.mono _ _ _ _ _ _
   | exact impl_SafeLoans.mono _ _ _
   | exact spec_DrawMostLoan.mono _ _
   | exact spec_MostLoan.mono _ _ _ _ _ _
   | exact LeO.none _
   | refine LeO.ite ?_ ?_
   | refine LeO.bind ?_ (fun _ => ?_)
  ·intro y0 y1 y2 y3
   unfold laws_FnMostLoan.j1
   repeat' first
   | (with_reducible exact ih0 _ _ _ _ _ _ _)
   | (with_reducible exact ih1 _ _ _ _)
   | (with_reducible exact impl_MostLoan.mono _ _ _ _ _ _)
   | (with_reducible exact impl_SafeLoans.mono _ _ _)
   | (with_reducible exact spec_DrawMostLoan.mono _ _)
   | (with_reducible exact spec_MostLoan.mono _ _ _ _ _ _)
   | (with_reducible exact LeO.refl _)
   | (with_reducible exact LeO.none _)
   | (with_reducible refine LeO.ite ?_ ?_)
   | (with_reducible refine LeO.bind ?_ (fun _ => ?_))
   | exact ih0 _ _ _ _ _ _ _
   | exact ih1 _ _ _ _
   | exact impl_MostLoan.mono _ _ _ _ _ _
   | exact impl_SafeLoans.mono _ _ _
   | exact spec_DrawMostLoan.mono _ _
   | exact spec_MostLoan.mono _ _ _ _ _ _
   | exact LeO.none _
   | refine LeO.ite ?_ ?_
   | refine LeO.bind ?_ (fun _ => ?_)
theorem laws_FnMostLoan.mono : ∀ a0 k, LeO (laws_FnMostLoan.f k a0) (laws_FnMostLoan.f (k + 1) a0) := by
 intro a0 k
 obtain ⟨ih0, ih1⟩ := laws_FnMostLoan.mono_l k
 unfold laws_FnMostLoan.f
 repeat' first
   | (with_reducible exact ih0 _ _ _ _ _ _ _)
   | (with_reducible exact ih1 _ _ _ _)
   | (with_reducible exact impl_MostLoan.mono _ _ _ _ _ _)
   | (with_reducible exact impl_SafeLoans.mono _ _ _)
   | (with_reducible exact spec_DrawMostLoan.mono _ _)
   | (with_reducible exact spec_MostLoan.mono _ _ _ _ _ _)
   | (with_reducible exact LeO.refl _)
   | (with_reducible exact LeO.none _)
   | (with_reducible refine LeO.ite ?_ ?_)
   | (with_reducible refine LeO.bind ?_ (fun _ => ?_))
   | exact ih0 _ _ _ _ _ _ _
   | exact ih1 _ _ _ _
   | exact impl_MostLoan.mono _ _ _ _ _ _
   | exact impl_SafeLoans.mono _ _ _
   | exact spec_DrawMostLoan.mono _ _
   | exact spec_MostLoan.mono _ _ _ _ _ _
   | exact LeO.none _
   | refine LeO.ite ?_ ?_
   | refine LeO.bind ?_ (fun _ => ?_)
set_option maxHeartbeats 8000000 in
set_option maxRecDepth 100000 in
theorem laws_FnMostLoan.calls (k : Nat) (A0 : Option Addr) (c0 : Nat) (l0 : List Int) (r : Bool) (w : World) (hr0 : Kd.C (Kd.int .u8) w A0 l0.length l0) (hc0 : l0.length ≤ c0) (h : laws_FnMostLoan.f k l0 = some r) :
  Calls Try.prog 5 #[.slice A0 l0.length c0] w fun e w' => e = .returned (.bool r) ∧ Below w.heap.size w w' := by
 have hu42 := Try.underlying42
 have HR0 := Ad.mk hr0
 have HC0 := Ad.mk hc0
 clear hr0 hc0
 have HB := Ad.mk (Below.refl w.heap.size w)
 have H : (if (l0.length : Int) > 1048576 then (some true) else ((spec_DrawMostLoan.f k l0).bind fun bt389 => ((impl_MostLoan.f k bt389.1 bt389.2.1 bt389.2.2.1 bt389.2.2.2.1 bt389.2.2.2.2).bind fun t401 => ((spec_MostLoan.f k bt389.1 bt389.2.1 bt389.2.2.1 bt389.2.2.2.1 bt389.2.2.2.2).bind fun t402 => (if t401 = t402 then (laws_FnMostLoan.j0 k bt389.1 bt389.2.1 t401 (decide (t401 < 0)) bt389.2.2.1 bt389.2.2.2.1 bt389.2.2.2.2) else (laws_FnMostLoan.j0 k bt389.1 bt389.2.1 t401 true bt389.2.2.1 bt389.2.2.2.1 bt389.2.2.2.2)))))) = some r := h
 clear h
 by_cases c2 : (l0.length : Int) > 1048576
 ·rw [if_pos c2] at H
  have c2b0 : decide (1048576 < (l0.length : Int)) = true := decide_eq_true c2
  have c2b1 : decide (1048576 < l0.length) = true := decide_eq_true (by omega)
  clear c2
  obtain rfl := Option.some.inj H
  go_enter Try.func5, Try.ntmps5
  go_wp2
  go_ret
  exact ⟨by first | rfl | (simp [errW_none, errW_some] <;> rfl) | (simp [*, errW_none, errW_some] <;> rfl), by repeat (first | (with_reducible first | exact HB.out | apply bwa | apply bwN | apply bw1) | exact HB.out)⟩
 ·rw [if_neg c2] at H
  have c2b0 : decide (1048576 < (l0.length : Int)) = false := decide_eq_false c2
  have c2b1 : decide (1048576 < l0.length) = false := decide_eq_false (by omega)
  clear c2
  replace H := Option.bind_eq_some_iff.mp H
  obtain ⟨⟨t389, t392, t395, t396, t397⟩, A30, H⟩ := H
  replace H : ((impl_MostLoan.f k t389 t392 t395 t396 t397).bind fun t401 => ((spec_MostLoan.f k t389 t392 t395 t396 t397).bind fun t402 => (if t401 = t402 then (laws_FnMostLoan.j0 k t389 t392 t401 (decide (t401 < 0)) t395 t396 t397) else (laws_FnMostLoan.j0 k t389 t392 t401 true t395 t396 t397)))) = some r := H
  have A3 := Ad.mk A30
  clear A30
  replace H := Option.bind_eq_some_iff.mp H
  obtain ⟨t401, A40, H⟩ := H
  replace H : ((spec_MostLoan.f k t389 t392 t395 t396 t397).bind fun t402 => (if t401 = t402 then (laws_FnMostLoan.j0 k t389 t392 t401 (decide (t401 < 0)) t395 t396 t397) else (laws_FnMostLoan.j0 k t389 t392 t401 true t395 t396 t397))) = some r := H
  have A4 := Ad.mk A40
  clear A40
  have HC5 := Ad.mk H
  clear H
  go_enter Try.func5, Try.ntmps5
  go_upto_region 5 with (first | ((with_reducible refine qa7 (f := 22) rfl ?_); refine goesL_ (some 16) rfl rfl Try.func22 (by kernel_rfl) rfl #[.slice A0 l0.length c0] rfl (by (try simp only [List.map_toArray, List.map_cons, List.map_nil]); first | done | rfl | (simp only [List.length_drop, List.length_take]; rfl)) ?_; (with_reducible refine (spec_DrawMostLoan.calls k _ _ l0 t389 t392 t395 t396 t397 _ ?side1 ?side2 A3.out).mono ?_); (case side1 => repeat (first | exact HR0.out | (with_reducible refine Kd.C_alloc ?_ _) | (with_reducible refine Kd.C_drewN ?_ _) | (with_reducible refine Kd.C_drew ?_))); (case side2 => exact HC0.out); rintro e w6 ⟨v390, v393, v398, rfl, ho0, ho1, ho2, hb⟩; refine ⟨_, rfl, ?_⟩; have n0_ := Ad.mk (Kd.R_lower (Kd.R_mono (ok' := fun k_ => True) ho0 (fun _ hk_ => trivial)) (qa1 (by repeat (first | (with_reducible first | exact HB.out | apply bwa | apply bwN | apply bw1) | exact HB.out)))); have n1_ := Ad.mk (Kd.N_lower (Kd.N_mono (ok' := fun k_ => some k_ ≠ (v390 : Value).ownBlock) ho1 (fun k_ hk_ => hk_.2)) (qa1 (by repeat (first | (with_reducible first | exact HB.out | apply bwa | apply bwN | apply bw1) | exact HB.out)))); have n2_ := Ad.mk (Kd.V_lower (Kd.V_mono (ok' := fun k_ => some k_ ≠ (v390 : Value).ownBlock ∧ some k_ ≠ (v393 : Value).ownBlock) ho2 (fun k_ hk_ => ⟨hk_.2.1, hk_.2.2⟩)) (qa1 (by repeat (first | (with_reducible first | exact HB.out | apply bwa | apply bwN | apply bw1) | exact HB.out)))); have n3_ := Ad.mk (qa5 (by repeat (first | (with_reducible first | exact HB.out | apply bwa | apply bwN | apply bw1) | exact HB.out)) hb); clear HB; have HO391 := n0_; have HO394 := n1_; have HO399 := n2_; have HB := n3_; clear n0_ n1_ n2_ n3_; (try clear hb); (try clear hb2); (try clear hk); (try clear hi); (try clear ho0); (try clear ho1); (try clear ho2)) | ((with_reducible refine gate_dst (N := 5) rfl ?_); refine box_event ?hg (N := 5) ?hd (cs := #[.int .i64 0, .int .i64 0, .slice none 0 0]) (t := 42) ?hr ?_; (case hd => rfl); (case hg => rfl); (case hr => first | (go_simp; done) | (go_simp; rfl)); intro gb400 hg w7 hbox hb; have n0_ := Ad.mk (Kd.R_below (by (with_reducible repeat (first | apply Kd.R_alloc | apply Kd.R_drewN | apply Kd.R_drew)); exact HO391.out) hb); have n1_ := Ad.mk (Kd.N_below (Kd.N_elderB (by (with_reducible repeat (first | apply Kd.N_alloc | apply Kd.N_drewN | apply Kd.N_drew)); exact HO394.out) gb400 (Nat.le_of_eq hg.symm)) hb); have n2_ := Ad.mk (Kd.V_below (Kd.V_elderB (by (with_reducible repeat (first | apply Kd.V_alloc | apply Kd.V_drewN | apply Kd.V_drew)); exact HO399.out) gb400 (Nat.le_of_eq hg.symm)) hb); have n3_ := Ad.mk (qa5 (by repeat (first | (with_reducible first | exact HB.out | apply bwa | apply bwN | apply bw1) | exact HB.out)) hb); have n4_ := Ad.mk (hbox); have n5_ := Ad.mk ((by rw [hg]; exact (qa1 (by repeat (first | (with_reducible first | exact HB.out | apply bwa | apply bwN | apply bw1) | exact HB.out))) : w.heap.size ≤ gb400)); have n6_ := Ad.mk ((by rw [hg]; exact (qa1 (by repeat (first | (with_reducible first | exact HB.out | apply bwa | apply bwN | apply bw1) | exact HB.out))) : w.heap.size ≤ gb400)); clear HO391; clear HO394; clear HO399; clear HB; have HO391 := n0_; have HO394 := n1_; have HO399 := n2_; have HB := n3_; have BK400 := n4_; have GW400 := n5_; have GE400 := n6_; clear n0_ n1_ n2_ n3_ n4_ n5_ n6_; clear hb hbox hg; have hcz8_0 : w7.cell? ⟨gb400, 0, none⟩ = some (.int .i64 0) := (bkc BK400.out 0).trans rfl; have hcz8_1 : w7.cell? ⟨gb400, 1, none⟩ = some (.int .i64 0) := (bkc BK400.out 1).trans rfl; have hcz8_2 : w7.cell? ⟨gb400, 2, none⟩ = some (.slice none 0 0) := (bkc BK400.out 2).trans rfl; have hfz8_0 := qa0 BK400.out 0; have hfz8_1 := qa0 BK400.out 1; have hfz8_2 := qa0 BK400.out 2; obtain ⟨Ao9, co9, eo9⟩ := Kd.V_slice HO399.out; subst eo9) | ((with_reducible refine gate_store (t := 42) (p := 5) rfl ?_); refine store_event (t := 42) (p := 5) (v := ?vo_w10) (w1 := (((w7.setCell ⟨gb400, 0, none⟩ (.int .i64 t395)).setCell ⟨gb400, 1, none⟩ (.int .i64 t396)).setCell ⟨gb400, 2, none⟩ (.slice Ao9 t397.length co9))) ?hg ?ho ?hn ?hr ?_; (case ho => rfl); (case hg => rfl); (case hn => rfl); (case hr => first | (go_simp; done) | (go_simp; rfl)); intro w10 hw; have n0_ : Ad (Kd.R (Kd.int .i64) 3 w10 w.heap.size (fun _ => True) v390 t389) := ⟨(by rw [hw]; exact (by (with_reducible repeat (first | apply Kd.R_alloc | apply Kd.R_drewN | apply Kd.R_drew)); exact Kd.R_mono (Kd.R_far (p := ⟨gb400, 2, none⟩) (Kd.R_far (p := ⟨gb400, 1, none⟩) (Kd.R_far (p := ⟨gb400, 0, none⟩) (Kd.R_types HO391.out BK400.out (by decide)) (fun _ hk => hk.2) (.int .i64 t395)) (fun _ hk => hk.2) (.int .i64 t396)) (fun _ hk => hk.2) (.slice Ao9 t397.length co9)) (fun _ hk => trivial)))⟩; have n1_ : Ad (Kd.N k42 42 w10 w.heap.size (fun k_ => some k_ ≠ (v390 : Value).ownBlock ∧ k_ ≠ gb400) v393 t392) := ⟨(by rw [hw]; exact (by (with_reducible repeat (first | apply Kd.N_alloc | apply Kd.N_drewN | apply Kd.N_drew)); exact Kd.N_mono (Kd.N_far (p := ⟨gb400, 2, none⟩) (Kd.N_far (p := ⟨gb400, 1, none⟩) (Kd.N_far (p := ⟨gb400, 0, none⟩) (Kd.N_mono HO394.out (fun k_ hk => (⟨hk, hk.2⟩ : _ ∧ k_ ≠ gb400))) (fun _ hk => hk.2) (.int .i64 t395)) (fun _ hk => hk.2) (.int .i64 t396)) (fun _ hk => hk.2) (.slice Ao9 t397.length co9)) (fun _ hk => ⟨hk.1.1, hk.1.2⟩)))⟩; have n2_ : Ad (Kd.V (Kd.int .i64) 3 w10 w.heap.size (fun k_ => some k_ ≠ (v390 : Value).ownBlock ∧ some k_ ≠ (v393 : Value).ownBlock ∧ k_ ≠ gb400) (.slice Ao9 t397.length co9) t397) := ⟨(by rw [hw]; exact (by (with_reducible repeat (first | apply Kd.V_alloc | apply Kd.V_drewN | apply Kd.V_drew)); exact Kd.V_mono (Kd.V_far (p := ⟨gb400, 2, none⟩) (Kd.V_far (p := ⟨gb400, 1, none⟩) (Kd.V_far (p := ⟨gb400, 0, none⟩) (Kd.V_mono HO399.out (fun k_ hk => (⟨hk, hk.2⟩ : _ ∧ k_ ≠ gb400))) (fun _ hk => hk.2) (.int .i64 t395)) (fun _ hk => hk.2) (.int .i64 t396)) (fun _ hk => hk.2) (.slice Ao9 t397.length co9)) (fun _ hk => ⟨hk.1.1.1, ⟨hk.1.1.2, hk.1.2⟩⟩)))⟩; have n3_ : Ad (w10.heap[gb400]? = some (.cells #[.int .i64 t395, .int .i64 t396, .slice Ao9 t397.length co9] 42 (0, 0))) := ⟨(by rw [hw]; exact (by (with_reducible repeat (first | refine bkN ?_ _ | refine bkd ?_ | refine bka ?_ _)); refine blk_put (cs := #[.int .i64 t395, .int .i64 t396, .slice none 0 0]) ?_ 2 _ rfl; (with_reducible repeat (first | refine bkN ?_ _ | refine bkd ?_ | refine bka ?_ _)); refine blk_put (cs := #[.int .i64 t395, .int .i64 0, .slice none 0 0]) ?_ 1 _ rfl; (with_reducible repeat (first | refine bkN ?_ _ | refine bkd ?_ | refine bka ?_ _)); refine blk_put (cs := #[.int .i64 0, .int .i64 0, .slice none 0 0]) ?_ 0 _ rfl; (with_reducible repeat (first | refine bkN ?_ _ | refine bkd ?_ | refine bka ?_ _)); exact BK400.out))⟩; have n4_ : Ad (Below w.heap.size w w10) := ⟨(by rw [hw]; exact (by repeat (first | (with_reducible first | exact HB.out | apply bwa | apply bwN | apply bw1 | refine bws ?_ GE400.out) | exact HB.out)))⟩; clear hw; clear HO391; clear HO394; clear HO399; clear BK400; clear HB; have HO391 := n0_; have HO394 := n1_; have HO399 := n2_; have BK400 := n3_; have HB := n4_; clear n0_ n1_ n2_ n3_ n4_; have hcz11_0 : w10.cell? ⟨gb400, 0, none⟩ = some (.int .i64 t395) := (bkc BK400.out 0).trans rfl; have hcz11_1 : w10.cell? ⟨gb400, 1, none⟩ = some (.int .i64 t396) := (bkc BK400.out 1).trans rfl; have hcz11_2 : w10.cell? ⟨gb400, 2, none⟩ = some (.slice Ao9 t397.length co9) := (bkc BK400.out 2).trans rfl; have hfz11_0 := qa0 BK400.out 0; have hfz11_1 := qa0 BK400.out 1; have hfz11_2 := qa0 BK400.out 2; obtain ⟨Ao12, co12, eo12⟩ := Kd.R_slice HO391.out; subst eo12; obtain ⟨Ao13, co13, eo13⟩ := Kd.N_slice HO394.out; subst eo13) | ((with_reducible refine qa7 (f := 23) rfl ?_); refine goesL_ (some 23) rfl rfl Try.func23 (by kernel_rfl) rfl #[.slice Ao12 t389.length co12, .slice Ao13 t392.length co13, .agg #[.int .i64 t395, .int .i64 t396, .slice Ao9 t397.length co9]] rfl (by (try simp only [List.map_toArray, List.map_cons, List.map_nil]); first | done | rfl | (simp only [List.length_drop, List.length_take]; rfl)) ?_; (with_reducible refine (impl_MostLoan.calls k _ _ t389 (fun k_ => (some k_ ≠ (.slice Ao12 t389.length co12 : Value).ownBlock ∧ k_ ≠ gb400)) _ _ t392 t395 t396 (fun k_ => (some k_ ≠ (.slice Ao12 t389.length co12 : Value).ownBlock ∧ (some k_ ≠ (.slice Ao13 t392.length co13 : Value).ownBlock ∧ k_ ≠ gb400))) _ _ t397 t401 _ ?side1 ?side2 ?side3 ?side4 A4.out).mono ?_); (case side1 => repeat (first | exact (Kd.R_reads' HO391.out).2.2 | (with_reducible refine Kd.C_alloc ?_ _) | (with_reducible refine Kd.C_drewN ?_ _) | (with_reducible refine Kd.C_drew ?_))); (case side2 => exact (Kd.R_reads' HO391.out).2.1); (case side3 => exact Kd.N_V (HO394.out)); (case side4 => exact HO399.out); rintro e w14 ⟨rfl, hb⟩; refine ⟨_, rfl, ?_⟩; have n0_ := Ad.mk (Kd.R_below (by (with_reducible repeat (first | apply Kd.R_alloc | apply Kd.R_drewN | apply Kd.R_drew)); exact HO391.out) hb); have n1_ := Ad.mk (Kd.N_below (by (with_reducible repeat (first | apply Kd.N_alloc | apply Kd.N_drewN | apply Kd.N_drew)); exact HO394.out) hb); have n2_ := Ad.mk (Kd.V_below (by (with_reducible repeat (first | apply Kd.V_alloc | apply Kd.V_drewN | apply Kd.V_drew)); exact HO399.out) hb); have n3_ := Ad.mk (qa6 (g := gb400) (o := .cells #[.int .i64 t395, .int .i64 t396, .slice Ao9 t397.length co9] 42 (0, 0)) (by (with_reducible repeat (first | refine bkN ?_ _ | refine bkd ?_ | refine bka ?_ _)); exact BK400.out) hb); have n4_ := Ad.mk (qa5 (by repeat (first | (with_reducible first | exact HB.out | apply bwa | apply bwN | apply bw1 | refine bws ?_ GE400.out) | exact HB.out)) hb); clear HO391; clear HO394; clear HO399; clear BK400; clear HB; have HO391 := n0_; have HO394 := n1_; have HO399 := n2_; have BK400 := n3_; have HB := n4_; clear n0_ n1_ n2_ n3_ n4_; (try clear hb); (try clear hb2); (try clear hk); (try clear hi)))
  (try simp only [Act.put, List.setIfInBounds_toArray, List.set_cons_zero, List.set_cons_succ])
  go_cut [33] (fun v33 wc => ∃ (kq : Nat) (x33_4 : Bool), v33 = .bool x33_4 ∧ Ad (laws_FnMostLoan.j0 kq t389 t392 t401 x33_4 t395 t396 t397 = some r) ∧ Ad (kq ≤ k) ∧ Ad (Kd.R (Kd.int .i64) 3 wc w.heap.size (fun _ => True) (.slice Ao12 t389.length co12) t389) ∧ Ad (Kd.N k42 42 wc w.heap.size (fun k_ => some k_ ≠ ((.slice Ao12 t389.length co12) : Value).ownBlock ∧ k_ ≠ gb400) (.slice Ao13 t392.length co13) t392) ∧ Ad (Kd.V (Kd.int .i64) 3 wc w.heap.size (fun k_ => some k_ ≠ ((.slice Ao12 t389.length co12) : Value).ownBlock ∧ some k_ ≠ ((.slice Ao13 t392.length co13) : Value).ownBlock ∧ k_ ≠ gb400) (.slice Ao9 t397.length co9) t397) ∧ Ad (wc.heap[gb400]? = some (.cells #[.int .i64 t395, .int .i64 t396, (.slice Ao9 t397.length co9)] 42 (0, 0))) ∧ Ad (Below w.heap.size w wc))
  case first =>
   have H := HC5.out
   clear HC5
   replace H := Option.bind_eq_some_iff.mp H
   obtain ⟨t402, A150, H⟩ := H
   replace H : (if t401 = t402 then (laws_FnMostLoan.j0 k t389 t392 t401 (decide (t401 < 0)) t395 t396 t397) else (laws_FnMostLoan.j0 k t389 t392 t401 true t395 t396 t397)) = some r := H
   have A15 := Ad.mk A150
   clear A150
   by_cases c16 : t401 = t402
   ·rw [if_pos c16] at H
    have c16b0 : (t401 == t402) = true := beq_iff_eq.mpr c16
    have c16b1 : (t401 != t402) = false := bne_eq_false_iff_eq.mpr c16
    clear c16
    (first | rw [c16b0] | (simp only [qa8, qa9]; rw [c16b0]) | skip)
    have H' := Ad.mk H
    clear H
    have hcz17_0 : w14.cell? ⟨gb400, 0, none⟩ = some (.int .i64 t395) := (bkc BK400.out 0).trans rfl
    have hcz17_1 : w14.cell? ⟨gb400, 1, none⟩ = some (.int .i64 t396) := (bkc BK400.out 1).trans rfl
    have hcz17_2 : w14.cell? ⟨gb400, 2, none⟩ = some (.slice Ao9 t397.length co9) := (bkc BK400.out 2).trans rfl
    have hfz17_0 := qa0 BK400.out 0
    have hfz17_1 := qa0 BK400.out 1
    have hfz17_2 := qa0 BK400.out 2
    go_wp2_with (first | ((with_reducible refine qa7 (f := 24) rfl ?_); refine goesL_ (some 28) rfl rfl Try.func24 (by kernel_rfl) rfl #[.slice Ao12 t389.length co12, .slice Ao13 t392.length co13, .agg #[.int .i64 t395, .int .i64 t396, .slice Ao9 t397.length co9]] rfl (by (try simp only [List.map_toArray, List.map_cons, List.map_nil]); first | done | rfl | (simp only [List.length_drop, List.length_take]; rfl)) ?_; (with_reducible refine (spec_MostLoan.calls k _ _ t389 (fun k_ => (some k_ ≠ (.slice Ao12 t389.length co12 : Value).ownBlock ∧ k_ ≠ gb400)) _ _ t392 t395 t396 (fun k_ => (some k_ ≠ (.slice Ao12 t389.length co12 : Value).ownBlock ∧ (some k_ ≠ (.slice Ao13 t392.length co13 : Value).ownBlock ∧ k_ ≠ gb400))) _ _ t397 t402 _ ?side1 ?side2 ?side3 ?side4 A15.out).mono ?_); (case side1 => repeat (first | exact (Kd.R_reads' HO391.out).2.2 | (with_reducible refine Kd.C_alloc ?_ _) | (with_reducible refine Kd.C_drewN ?_ _) | (with_reducible refine Kd.C_drew ?_))); (case side2 => exact (Kd.R_reads' HO391.out).2.1); (case side3 => exact Kd.N_V (HO394.out)); (case side4 => exact HO399.out); rintro e w18 ⟨rfl, hb⟩; refine ⟨_, rfl, ?_⟩; have n0_ := Ad.mk (Kd.R_below (by (with_reducible repeat (first | apply Kd.R_alloc | apply Kd.R_drewN | apply Kd.R_drew)); exact HO391.out) hb); have n1_ := Ad.mk (Kd.N_below (by (with_reducible repeat (first | apply Kd.N_alloc | apply Kd.N_drewN | apply Kd.N_drew)); exact HO394.out) hb); have n2_ := Ad.mk (Kd.V_below (by (with_reducible repeat (first | apply Kd.V_alloc | apply Kd.V_drewN | apply Kd.V_drew)); exact HO399.out) hb); have n3_ := Ad.mk (qa6 (g := gb400) (o := .cells #[.int .i64 t395, .int .i64 t396, .slice Ao9 t397.length co9] 42 (0, 0)) (by (with_reducible repeat (first | refine bkN ?_ _ | refine bkd ?_ | refine bka ?_ _)); exact BK400.out) hb); have n4_ := Ad.mk (qa5 (by repeat (first | (with_reducible first | exact HB.out | apply bwa | apply bwN | apply bw1 | refine bws ?_ GE400.out) | exact HB.out)) hb); clear HO391; clear HO394; clear HO399; clear BK400; clear HB; have HO391 := n0_; have HO394 := n1_; have HO399 := n2_; have BK400 := n3_; have HB := n4_; clear n0_ n1_ n2_ n3_ n4_; (try clear hb); (try clear hb2); (try clear hk); (try clear hi)))
    go_meet
    case rel => exact ⟨_, (decide (t401 < 0)), (by first | rfl | (simp; done) | (simp [*]; done)), H', ⟨by first | omega | exact Nat.le_refl _⟩, ⟨by (with_reducible repeat (first | apply Kd.R_alloc | apply Kd.R_drewN | apply Kd.R_drew)); exact HO391.out⟩, ⟨by (with_reducible repeat (first | apply Kd.N_alloc | apply Kd.N_drewN | apply Kd.N_drew)); exact HO394.out⟩, ⟨by (with_reducible repeat (first | apply Kd.V_alloc | apply Kd.V_drewN | apply Kd.V_drew)); exact HO399.out⟩, ⟨by (with_reducible repeat (first | refine bkN ?_ _ | refine bkd ?_ | refine bka ?_ _)); exact BK400.out⟩, ⟨by repeat (first | (with_reducible first | exact HB.out | apply bwa | apply bwN | apply bw1 | refine bws ?_ GE400.out) | exact HB.out)⟩⟩
   ·rw [if_neg c16] at H
    have c16b0 : (t401 == t402) = false := beq_eq_false_iff_ne.mpr c16
    have c16b1 : (t401 != t402) = true := bne_iff_ne.mpr c16
    (first | rw [c16b0] | (simp only [qa8, qa9]; rw [c16b0]) | skip)
    have H' := Ad.mk H
    clear H
    have hcz19_0 : w14.cell? ⟨gb400, 0, none⟩ = some (.int .i64 t395) := (bkc BK400.out 0).trans rfl
    have hcz19_1 : w14.cell? ⟨gb400, 1, none⟩ = some (.int .i64 t396) := (bkc BK400.out 1).trans rfl
    have hcz19_2 : w14.cell? ⟨gb400, 2, none⟩ = some (.slice Ao9 t397.length co9) := (bkc BK400.out 2).trans rfl
    have hfz19_0 := qa0 BK400.out 0
    have hfz19_1 := qa0 BK400.out 1
    have hfz19_2 := qa0 BK400.out 2
    go_wp2_with (first | ((with_reducible refine qa7 (f := 24) rfl ?_); refine goesL_ (some 28) rfl rfl Try.func24 (by kernel_rfl) rfl #[.slice Ao12 t389.length co12, .slice Ao13 t392.length co13, .agg #[.int .i64 t395, .int .i64 t396, .slice Ao9 t397.length co9]] rfl (by (try simp only [List.map_toArray, List.map_cons, List.map_nil]); first | done | rfl | (simp only [List.length_drop, List.length_take]; rfl)) ?_; (with_reducible refine (spec_MostLoan.calls k _ _ t389 (fun k_ => (some k_ ≠ (.slice Ao12 t389.length co12 : Value).ownBlock ∧ k_ ≠ gb400)) _ _ t392 t395 t396 (fun k_ => (some k_ ≠ (.slice Ao12 t389.length co12 : Value).ownBlock ∧ (some k_ ≠ (.slice Ao13 t392.length co13 : Value).ownBlock ∧ k_ ≠ gb400))) _ _ t397 t402 _ ?side1 ?side2 ?side3 ?side4 A15.out).mono ?_); (case side1 => repeat (first | exact (Kd.R_reads' HO391.out).2.2 | (with_reducible refine Kd.C_alloc ?_ _) | (with_reducible refine Kd.C_drewN ?_ _) | (with_reducible refine Kd.C_drew ?_))); (case side2 => exact (Kd.R_reads' HO391.out).2.1); (case side3 => exact Kd.N_V (HO394.out)); (case side4 => exact HO399.out); rintro e w20 ⟨rfl, hb⟩; refine ⟨_, rfl, ?_⟩; have n0_ := Ad.mk (Kd.R_below (by (with_reducible repeat (first | apply Kd.R_alloc | apply Kd.R_drewN | apply Kd.R_drew)); exact HO391.out) hb); have n1_ := Ad.mk (Kd.N_below (by (with_reducible repeat (first | apply Kd.N_alloc | apply Kd.N_drewN | apply Kd.N_drew)); exact HO394.out) hb); have n2_ := Ad.mk (Kd.V_below (by (with_reducible repeat (first | apply Kd.V_alloc | apply Kd.V_drewN | apply Kd.V_drew)); exact HO399.out) hb); have n3_ := Ad.mk (qa6 (g := gb400) (o := .cells #[.int .i64 t395, .int .i64 t396, .slice Ao9 t397.length co9] 42 (0, 0)) (by (with_reducible repeat (first | refine bkN ?_ _ | refine bkd ?_ | refine bka ?_ _)); exact BK400.out) hb); have n4_ := Ad.mk (qa5 (by repeat (first | (with_reducible first | exact HB.out | apply bwa | apply bwN | apply bw1 | refine bws ?_ GE400.out) | exact HB.out)) hb); clear HO391; clear HO394; clear HO399; clear BK400; clear HB; have HO391 := n0_; have HO394 := n1_; have HO399 := n2_; have BK400 := n3_; have HB := n4_; clear n0_ n1_ n2_ n3_ n4_; (try clear hb); (try clear hb2); (try clear hk); (try clear hi)))
    go_meet
    case rel => exact ⟨_, (true), (by first | rfl | (simp; done) | (simp [*]; done)), H', ⟨by first | omega | exact Nat.le_refl _⟩, ⟨by (with_reducible repeat (first | apply Kd.R_alloc | apply Kd.R_drewN | apply Kd.R_drew)); exact HO391.out⟩, ⟨by (with_reducible repeat (first | apply Kd.N_alloc | apply Kd.N_drewN | apply Kd.N_drew)); exact HO394.out⟩, ⟨by (with_reducible repeat (first | apply Kd.V_alloc | apply Kd.V_drewN | apply Kd.V_drew)); exact HO399.out⟩, ⟨by (with_reducible repeat (first | refine bkN ?_ _ | refine bkd ?_ | refine bka ?_ _)); exact BK400.out⟩, ⟨by repeat (first | (with_reducible first | exact HB.out | apply bwa | apply bwN | apply bw1 | refine bws ?_ GE400.out) | exact HB.out)⟩⟩
  case rest =>
   clear HC5
   try clear c1
   try clear c2
   try clear c2b0
   try clear c2b1
   try clear p2
   try clear c5
   try clear c16
   try clear c16b0
   try clear c16b1
   try clear hcz11_0
   try clear hcz11_1
   try clear hcz11_2
   try clear hcz17_0
   try clear hcz17_1
   try clear hcz17_2
   try clear hcz19_0
   try clear hcz19_1
   try clear hcz19_2
   try clear hcz8_0
   try clear hcz8_1
   try clear hcz8_2
   try clear hfz11_0
   try clear hfz11_1
   try clear hfz11_2
   try clear hfz17_0
   try clear hfz17_1
   try clear hfz17_2
   try clear hfz19_0
   try clear hfz19_1
   try clear hfz19_2
   try clear hfz8_0
   try clear hfz8_1
   try clear hfz8_2
   obtain ⟨kq, x33_4, rfl, HA, HJ4, HO_3, HO_4, HO_401002, BK400, HB⟩ := hcut
   cases kq with
   | zero => exact absurd HA.out (by simp [laws_FnMostLoan.j0])
   | succ kj4 =>
    have H := HA.out
    clear HA
    simp only [laws_FnMostLoan.j0] at H
    by_cases c21 : x33_4 = true
    ·subst c21
     have H1 : ((spec_MostLoan.f kj4 t389 t392 t395 t396 t397).bind fun t403 => (some (t401 == t403))) = some r := by rw [if_pos rfl] at H; exact H
     clear H
     have H := H1
     clear H1
     replace H := Option.bind_eq_some_iff.mp H
     obtain ⟨t403, A220, H⟩ := H
     replace H : (some (t401 == t403)) = some r := H
     have A22 := Ad.mk A220
     clear A220
     obtain rfl := Option.some.inj H
     have hcz23_0 : wc.cell? ⟨gb400, 0, none⟩ = some (.int .i64 t395) := (bkc BK400.out 0).trans rfl
     have hcz23_1 : wc.cell? ⟨gb400, 1, none⟩ = some (.int .i64 t396) := (bkc BK400.out 1).trans rfl
     have hcz23_2 : wc.cell? ⟨gb400, 2, none⟩ = some (.slice Ao9 t397.length co9) := (bkc BK400.out 2).trans rfl
     have hfz23_0 := qa0 BK400.out 0
     have hfz23_1 := qa0 BK400.out 1
     have hfz23_2 := qa0 BK400.out 2
     go_wp2_with (first | ((with_reducible refine qa7 (f := 24) rfl ?_); refine goesL_ (some 38) rfl rfl Try.func24 (by kernel_rfl) rfl #[.slice Ao12 t389.length co12, .slice Ao13 t392.length co13, .agg #[.int .i64 t395, .int .i64 t396, .slice Ao9 t397.length co9]] rfl (by (try simp only [List.map_toArray, List.map_cons, List.map_nil]); first | done | rfl | (simp only [List.length_drop, List.length_take]; rfl)) ?_; (with_reducible refine (spec_MostLoan.calls kj4 _ _ t389 (fun k_ => (some k_ ≠ (.slice Ao12 t389.length co12 : Value).ownBlock ∧ k_ ≠ gb400)) _ _ t392 t395 t396 (fun k_ => (some k_ ≠ (.slice Ao12 t389.length co12 : Value).ownBlock ∧ (some k_ ≠ (.slice Ao13 t392.length co13 : Value).ownBlock ∧ k_ ≠ gb400))) _ _ t397 t403 _ ?side1 ?side2 ?side3 ?side4 A22.out).mono ?_); (case side1 => repeat (first | exact (Kd.R_reads' HO_3.out).2.2 | (with_reducible refine Kd.C_alloc ?_ _) | (with_reducible refine Kd.C_drewN ?_ _) | (with_reducible refine Kd.C_drew ?_))); (case side2 => exact (Kd.R_reads' HO_3.out).2.1); (case side3 => exact Kd.N_V (HO_4.out)); (case side4 => exact HO_401002.out); rintro e w24 ⟨rfl, hb⟩; refine ⟨_, rfl, ?_⟩; have n0_ := Ad.mk (Kd.R_below (by (with_reducible repeat (first | apply Kd.R_alloc | apply Kd.R_drewN | apply Kd.R_drew)); exact HO_3.out) hb); have n1_ := Ad.mk (Kd.N_below (by (with_reducible repeat (first | apply Kd.N_alloc | apply Kd.N_drewN | apply Kd.N_drew)); exact HO_4.out) hb); have n2_ := Ad.mk (Kd.V_below (by (with_reducible repeat (first | apply Kd.V_alloc | apply Kd.V_drewN | apply Kd.V_drew)); exact HO_401002.out) hb); have n3_ := Ad.mk (qa6 (g := gb400) (o := .cells #[.int .i64 t395, .int .i64 t396, .slice Ao9 t397.length co9] 42 (0, 0)) (by (with_reducible repeat (first | refine bkN ?_ _ | refine bkd ?_ | refine bka ?_ _)); exact BK400.out) hb); have n4_ := Ad.mk (qa5 (by repeat (first | (with_reducible first | exact HB.out | apply bwa | apply bwN | apply bw1 | refine bws ?_ GE400.out) | exact HB.out)) hb); clear HO_3; clear HO_4; clear HO_401002; clear BK400; clear HB; have HO_3 := n0_; have HO_4 := n1_; have HO_401002 := n2_; have BK400 := n3_; have HB := n4_; clear n0_ n1_ n2_ n3_ n4_; (try clear hb); (try clear hb2); (try clear hk); (try clear hi)))
     go_ret
     exact ⟨by first | rfl | (simp [errW_none, errW_some] <;> rfl) | (simp [*, errW_none, errW_some] <;> rfl), by repeat (first | (with_reducible first | exact HB.out | apply bwa | apply bwN | apply bw1 | refine bws ?_ GE400.out) | exact HB.out)⟩
    ·replace c21 := Bool.eq_false_iff.mpr c21
     subst c21
     have H1 : ((some (([] : List (S42)) : List (S42))).bind fun y406 => (if y406.length + t392.length < 3518437208883 then ((some (y406 ++ t392 : List (S42))).bind fun y409 => ((some (([(⟨t395, t401, t397⟩ : S42)] : List (S42)) : List (S42))).bind fun y412 => (if y409.length + y412.length < 3518437208883 then ((some (([] : List (S42)) : List (S42))).bind fun y418 => (if y418.length + t392.length < 3518437208883 then ((some (y418 ++ t392 : List (S42))).bind fun y421 => ((some (([(⟨t395, wrap64 (t401 + 1), t397⟩ : S42)] : List (S42)) : List (S42))).bind fun y424 => (if y421.length + y424.length < 3518437208883 then (laws_FnMostLoan.j1 kj4 t389 t401 (y409 ++ y412) (y421 ++ y424)) else (none)))) else (none))) else (none)))) else (none))) = some r := by rw [if_neg (show ¬ (false = true) by decide)] at H; exact H
     clear H
     have H := H1
     clear H1
     obtain ⟨y406, hy406⟩ : ∃ y_ : List (S42), y_ = (([] : List (S42))) := ⟨_, rfl⟩
     replace H : (if y406.length + t392.length < 3518437208883 then ((some (y406 ++ t392 : List (S42))).bind fun y409 => ((some (([(⟨t395, t401, t397⟩ : S42)] : List (S42)) : List (S42))).bind fun y412 => (if y409.length + y412.length < 3518437208883 then ((some (([] : List (S42)) : List (S42))).bind fun y418 => (if y418.length + t392.length < 3518437208883 then ((some (y418 ++ t392 : List (S42))).bind fun y421 => ((some (([(⟨t395, wrap64 (t401 + 1), t397⟩ : S42)] : List (S42)) : List (S42))).bind fun y424 => (if y421.length + y424.length < 3518437208883 then (laws_FnMostLoan.j1 kj4 t389 t401 (y409 ++ y412) (y421 ++ y424)) else (none)))) else (none))) else (none)))) else (none)) = some r := by first | (rw [hy406]; with_reducible exact H) | (have H2_ := (Option.bind_some _ _).symm.trans H; rw [hy406]; with_reducible exact H2_) | (have H2_ := (Option.bind_some _ _).symm.trans H; with_reducible exact H2_) | with_reducible exact H | (rw [hy406]; exact H) | exact H
     have Ny406 := Ad.mk hy406
     clear hy406
     by_cases c25 : y406.length + t392.length < 3518437208883
     ·rw [if_pos c25] at H
      have LMc25 := Ad.mk c25
      clear c25
      obtain ⟨y409, hy409⟩ : ∃ y_ : List (S42), y_ = (y406 ++ t392) := ⟨_, rfl⟩
      replace H : ((some (([(⟨t395, t401, t397⟩ : S42)] : List (S42)) : List (S42))).bind fun y412 => (if y409.length + y412.length < 3518437208883 then ((some (([] : List (S42)) : List (S42))).bind fun y418 => (if y418.length + t392.length < 3518437208883 then ((some (y418 ++ t392 : List (S42))).bind fun y421 => ((some (([(⟨t395, wrap64 (t401 + 1), t397⟩ : S42)] : List (S42)) : List (S42))).bind fun y424 => (if y421.length + y424.length < 3518437208883 then (laws_FnMostLoan.j1 kj4 t389 t401 (y409 ++ y412) (y421 ++ y424)) else (none)))) else (none))) else (none))) = some r := by first | (rw [hy409]; with_reducible exact H) | (have H2_ := (Option.bind_some _ _).symm.trans H; rw [hy409]; with_reducible exact H2_) | (have H2_ := (Option.bind_some _ _).symm.trans H; with_reducible exact H2_) | with_reducible exact H | (rw [hy409]; exact H) | exact H
      have Ny409 := Ad.mk hy409
      clear hy409
      obtain ⟨y412, hy412⟩ : ∃ y_ : List (S42), y_ = (([(⟨t395, t401, t397⟩ : S42)] : List (S42))) := ⟨_, rfl⟩
      replace H : (if y409.length + y412.length < 3518437208883 then ((some (([] : List (S42)) : List (S42))).bind fun y418 => (if y418.length + t392.length < 3518437208883 then ((some (y418 ++ t392 : List (S42))).bind fun y421 => ((some (([(⟨t395, wrap64 (t401 + 1), t397⟩ : S42)] : List (S42)) : List (S42))).bind fun y424 => (if y421.length + y424.length < 3518437208883 then (laws_FnMostLoan.j1 kj4 t389 t401 (y409 ++ y412) (y421 ++ y424)) else (none)))) else (none))) else (none)) = some r := by first | (rw [hy412]; with_reducible exact H) | (have H2_ := (Option.bind_some _ _).symm.trans H; rw [hy412]; with_reducible exact H2_) | (have H2_ := (Option.bind_some _ _).symm.trans H; with_reducible exact H2_) | with_reducible exact H | (rw [hy412]; exact H) | exact H
      have Ny412 := Ad.mk hy412
      clear hy412
      by_cases c26 : y409.length + y412.length < 3518437208883
      ·rw [if_pos c26] at H
       have LMc26 := Ad.mk c26
       clear c26
       obtain ⟨y415, hy415⟩ : ∃ y_ : List (S42), y_ = (y409 ++ y412) := ⟨_, rfl⟩
       replace H : ((some (([] : List (S42)) : List (S42))).bind fun y418 => (if y418.length + t392.length < 3518437208883 then ((some (y418 ++ t392 : List (S42))).bind fun y421 => ((some (([(⟨t395, wrap64 (t401 + 1), t397⟩ : S42)] : List (S42)) : List (S42))).bind fun y424 => (if y421.length + y424.length < 3518437208883 then (laws_FnMostLoan.j1 kj4 t389 t401 y415 (y421 ++ y424)) else (none)))) else (none))) = some r := by first | (rw [hy415]; with_reducible exact H) | (have H2_ := (Option.bind_some _ _).symm.trans H; rw [hy415]; with_reducible exact H2_) | (have H2_ := (Option.bind_some _ _).symm.trans H; with_reducible exact H2_) | with_reducible exact H | (rw [hy415]; exact H) | exact H
       have Ny415 := Ad.mk hy415
       clear hy415
       have HC27 := Ad.mk H
       clear H
       have hcz28_0 : wc.cell? ⟨gb400, 0, none⟩ = some (.int .i64 t395) := (bkc BK400.out 0).trans rfl
       have hcz28_1 : wc.cell? ⟨gb400, 1, none⟩ = some (.int .i64 t396) := (bkc BK400.out 1).trans rfl
       have hcz28_2 : wc.cell? ⟨gb400, 2, none⟩ = some (.slice Ao9 t397.length co9) := (bkc BK400.out 2).trans rfl
       have hfz28_0 := qa0 BK400.out 0
       have hfz28_1 := qa0 BK400.out 1
       have hfz28_2 := qa0 BK400.out 2
       try go_wp2_with (first | ((with_reducible refine gate_dst (N := 7) rfl ?_); refine box_event ?hg (N := 7) ?hd (cs := #[.int .i64 0, .int .i64 0, .slice none 0 0]) (t := 42) ?hr ?_; (case hd => rfl); (case hg => rfl); (case hr => first | (go_simp; done) | (go_simp; rfl)); intro gb404 hg w29 hbox hb; have n0_ := Ad.mk (Kd.R_below (by (with_reducible repeat (first | apply Kd.R_alloc | apply Kd.R_drewN | apply Kd.R_drew)); exact HO_3.out) hb); have n1_ := Ad.mk (Kd.N_below (Kd.N_elderB (by (with_reducible repeat (first | apply Kd.N_alloc | apply Kd.N_drewN | apply Kd.N_drew)); exact HO_4.out) gb404 (Nat.le_of_eq hg.symm)) hb); have n2_ := Ad.mk (Kd.V_below (Kd.V_elderB (by (with_reducible repeat (first | apply Kd.V_alloc | apply Kd.V_drewN | apply Kd.V_drew)); exact HO_401002.out) gb404 (Nat.le_of_eq hg.symm)) hb); have n3_ := Ad.mk (qa6 (g := gb400) (o := .cells #[.int .i64 t395, .int .i64 t396, .slice Ao9 t397.length co9] 42 (0, 0)) (by (with_reducible repeat (first | refine bkN ?_ _ | refine bkd ?_ | refine bka ?_ _)); exact BK400.out) hb); have n4_ := Ad.mk (qa5 (by repeat (first | (with_reducible first | exact HB.out | apply bwa | apply bwN | apply bw1 | refine bws ?_ GE400.out) | exact HB.out)) hb); have n5_ := Ad.mk (hbox); have n6_ := Ad.mk ((by rw [hg]; exact (qa1 (by repeat (first | (with_reducible first | exact HB.out | apply bwa | apply bwN | apply bw1 | refine bws ?_ GE400.out) | exact HB.out))) : w.heap.size ≤ gb404)); have n7_ := Ad.mk ((by rw [hg]; exact (qa1 (by repeat (first | (with_reducible first | exact HB.out | apply bwa | apply bwN | apply bw1 | refine bws ?_ GE400.out) | exact HB.out))) : w.heap.size ≤ gb404)); have n8_ := Ad.mk ((by rw [hg]; exact Nat.ne_of_lt (blk_lt (g := gb400) (o := .cells #[.int .i64 t395, .int .i64 t396, .slice Ao9 t397.length co9] 42 (0, 0)) (by (with_reducible repeat (first | refine bkN ?_ _ | refine bkd ?_ | refine bka ?_ _)); exact BK400.out)) : gb400 ≠ gb404)); have n9_ := Ad.mk ((by rw [hg]; exact Nat.ne_of_gt (blk_lt (g := gb400) (o := .cells #[.int .i64 t395, .int .i64 t396, .slice Ao9 t397.length co9] 42 (0, 0)) (by (with_reducible repeat (first | refine bkN ?_ _ | refine bkd ?_ | refine bka ?_ _)); exact BK400.out)) : gb404 ≠ gb400)); clear HO_3; clear HO_4; clear HO_401002; clear BK400; clear HB; have HO_3 := n0_; have HO_4 := n1_; have HO_401002 := n2_; have BK400 := n3_; have HB := n4_; have BK404 := n5_; have GW404 := n6_; have GE404 := n7_; have NB400_404 := n8_; have NB404_400 := n9_; clear n0_ n1_ n2_ n3_ n4_ n5_ n6_ n7_ n8_ n9_; clear hb hbox hg; have hnb30 := NB404_400.out; have hnc30 := NB400_404.out; have hcz31_0 : w29.cell? ⟨gb404, 0, none⟩ = some (.int .i64 0) := (bkc BK404.out 0).trans rfl; have hcz31_1 : w29.cell? ⟨gb404, 1, none⟩ = some (.int .i64 0) := (bkc BK404.out 1).trans rfl; have hcz31_2 : w29.cell? ⟨gb404, 2, none⟩ = some (.slice none 0 0) := (bkc BK404.out 2).trans rfl; have hfz31_0 := qa0 BK404.out 0; have hfz31_1 := qa0 BK404.out 1; have hfz31_2 := qa0 BK404.out 2; have hcz32_0 : w29.cell? ⟨gb400, 0, none⟩ = some (.int .i64 t395) := (bkc BK400.out 0).trans rfl; have hcz32_1 : w29.cell? ⟨gb400, 1, none⟩ = some (.int .i64 t396) := (bkc BK400.out 1).trans rfl; have hcz32_2 : w29.cell? ⟨gb400, 2, none⟩ = some (.slice Ao9 t397.length co9) := (bkc BK400.out 2).trans rfl; have hfz32_0 := qa0 BK400.out 0; have hfz32_1 := qa0 BK400.out 1; have hfz32_2 := qa0 BK400.out 2) | ((with_reducible refine gate_dst (N := 8) rfl ?_); refine box_event ?hg (N := 8) ?hd (cs := #[.int .i64 0, .int .i64 0, .slice none 0 0]) (t := 42) ?hr ?_; (case hd => rfl); (case hg => rfl); (case hr => first | (go_simp; done) | (go_simp; rfl)); intro gb405 hg w33 hbox hb; have n0_ := Ad.mk (Kd.R_below (by (with_reducible repeat (first | apply Kd.R_alloc | apply Kd.R_drewN | apply Kd.R_drew)); exact (Kd.R_mono (Kd.R_far (p := ⟨gb404, 2, none⟩) (Kd.R_far (p := ⟨gb404, 1, none⟩) (Kd.R_far (p := ⟨gb404, 0, none⟩) (Kd.R_types HO_3.out BK404.out (by decide)) (fun _ hk => hk.2) (.int .i64 t395)) (fun _ hk => hk.2) (.int .i64 t401)) (fun _ hk => hk.2) (.slice Ao9 t397.length co9)) (fun _ h_ => h_.1))) hb); have n1_ := Ad.mk (Kd.N_below (Kd.N_elderB (by (with_reducible repeat (first | apply Kd.N_alloc | apply Kd.N_drewN | apply Kd.N_drew)); exact (Kd.N_mono (Kd.N_far (p := ⟨gb404, 2, none⟩) (Kd.N_far (p := ⟨gb404, 1, none⟩) (Kd.N_far (p := ⟨gb404, 0, none⟩) (Kd.N_mono HO_4.out (fun k_ hk => (⟨hk, hk.2⟩ : _ ∧ k_ ≠ gb404))) (fun _ hk => hk.2) (.int .i64 t395)) (fun _ hk => hk.2) (.int .i64 t401)) (fun _ hk => hk.2) (.slice Ao9 t397.length co9)) (fun _ h_ => h_.1))) gb405 (Nat.le_of_eq hg.symm)) hb); have n2_ := Ad.mk (Kd.V_below (Kd.V_elderB (by (with_reducible repeat (first | apply Kd.V_alloc | apply Kd.V_drewN | apply Kd.V_drew)); exact (Kd.V_mono (Kd.V_far (p := ⟨gb404, 2, none⟩) (Kd.V_far (p := ⟨gb404, 1, none⟩) (Kd.V_far (p := ⟨gb404, 0, none⟩) (Kd.V_mono HO_401002.out (fun k_ hk => (⟨hk, hk.2⟩ : _ ∧ k_ ≠ gb404))) (fun _ hk => hk.2) (.int .i64 t395)) (fun _ hk => hk.2) (.int .i64 t401)) (fun _ hk => hk.2) (.slice Ao9 t397.length co9)) (fun _ h_ => h_.1))) gb405 (Nat.le_of_eq hg.symm)) hb); have n3_ := Ad.mk (qa6 (g := gb400) (o := .cells #[.int .i64 t395, .int .i64 t396, .slice Ao9 t397.length co9] 42 (0, 0)) (by (with_reducible repeat (first | refine bkN ?_ _ | refine bkd ?_ | refine bka ?_ _)); refine blk_far ?_ NB400_404.out _; (with_reducible repeat (first | refine bkN ?_ _ | refine bkd ?_ | refine bka ?_ _)); refine blk_far ?_ NB400_404.out _; (with_reducible repeat (first | refine bkN ?_ _ | refine bkd ?_ | refine bka ?_ _)); refine blk_far ?_ NB400_404.out _; (with_reducible repeat (first | refine bkN ?_ _ | refine bkd ?_ | refine bka ?_ _)); exact BK400.out) hb); have n4_ := Ad.mk (qa6 (g := gb404) (o := .cells #[.int .i64 t395, .int .i64 t401, .slice Ao9 t397.length co9] 42 (0, 0)) (by (with_reducible repeat (first | refine bkN ?_ _ | refine bkd ?_ | refine bka ?_ _)); refine blk_put (cs := #[.int .i64 t395, .int .i64 t401, .slice none 0 0]) ?_ 2 _ rfl; (with_reducible repeat (first | refine bkN ?_ _ | refine bkd ?_ | refine bka ?_ _)); refine blk_put (cs := #[.int .i64 t395, .int .i64 0, .slice none 0 0]) ?_ 1 _ rfl; (with_reducible repeat (first | refine bkN ?_ _ | refine bkd ?_ | refine bka ?_ _)); refine blk_put (cs := #[.int .i64 0, .int .i64 0, .slice none 0 0]) ?_ 0 _ rfl; (with_reducible repeat (first | refine bkN ?_ _ | refine bkd ?_ | refine bka ?_ _)); exact BK404.out) hb); have n5_ := Ad.mk (qa5 (by repeat (first | (with_reducible first | exact HB.out | apply bwa | apply bwN | apply bw1 | refine bws ?_ GE400.out | refine bws ?_ GE404.out) | exact HB.out)) hb); have n6_ := Ad.mk (hbox); have n7_ := Ad.mk ((by rw [hg]; exact (qa1 (by repeat (first | (with_reducible first | exact HB.out | apply bwa | apply bwN | apply bw1 | refine bws ?_ GE400.out | refine bws ?_ GE404.out) | exact HB.out))) : w.heap.size ≤ gb405)); have n8_ := Ad.mk ((by rw [hg]; exact (qa1 (by repeat (first | (with_reducible first | exact HB.out | apply bwa | apply bwN | apply bw1 | refine bws ?_ GE400.out | refine bws ?_ GE404.out) | exact HB.out))) : w.heap.size ≤ gb405)); have n9_ := Ad.mk ((by rw [hg]; exact Nat.ne_of_lt (blk_lt (g := gb400) (o := .cells #[.int .i64 t395, .int .i64 t396, .slice Ao9 t397.length co9] 42 (0, 0)) (by (with_reducible repeat (first | refine bkN ?_ _ | refine bkd ?_ | refine bka ?_ _)); refine blk_far ?_ NB400_404.out _; (with_reducible repeat (first | refine bkN ?_ _ | refine bkd ?_ | refine bka ?_ _)); refine blk_far ?_ NB400_404.out _; (with_reducible repeat (first | refine bkN ?_ _ | refine bkd ?_ | refine bka ?_ _)); refine blk_far ?_ NB400_404.out _; (with_reducible repeat (first | refine bkN ?_ _ | refine bkd ?_ | refine bka ?_ _)); exact BK400.out)) : gb400 ≠ gb405)); have n10_ := Ad.mk ((by rw [hg]; exact Nat.ne_of_gt (blk_lt (g := gb400) (o := .cells #[.int .i64 t395, .int .i64 t396, .slice Ao9 t397.length co9] 42 (0, 0)) (by (with_reducible repeat (first | refine bkN ?_ _ | refine bkd ?_ | refine bka ?_ _)); refine blk_far ?_ NB400_404.out _; (with_reducible repeat (first | refine bkN ?_ _ | refine bkd ?_ | refine bka ?_ _)); refine blk_far ?_ NB400_404.out _; (with_reducible repeat (first | refine bkN ?_ _ | refine bkd ?_ | refine bka ?_ _)); refine blk_far ?_ NB400_404.out _; (with_reducible repeat (first | refine bkN ?_ _ | refine bkd ?_ | refine bka ?_ _)); exact BK400.out)) : gb405 ≠ gb400)); have n11_ := Ad.mk ((by rw [hg]; exact Nat.ne_of_lt (blk_lt (g := gb404) (o := .cells #[.int .i64 t395, .int .i64 t401, .slice Ao9 t397.length co9] 42 (0, 0)) (by (with_reducible repeat (first | refine bkN ?_ _ | refine bkd ?_ | refine bka ?_ _)); refine blk_put (cs := #[.int .i64 t395, .int .i64 t401, .slice none 0 0]) ?_ 2 _ rfl; (with_reducible repeat (first | refine bkN ?_ _ | refine bkd ?_ | refine bka ?_ _)); refine blk_put (cs := #[.int .i64 t395, .int .i64 0, .slice none 0 0]) ?_ 1 _ rfl; (with_reducible repeat (first | refine bkN ?_ _ | refine bkd ?_ | refine bka ?_ _)); refine blk_put (cs := #[.int .i64 0, .int .i64 0, .slice none 0 0]) ?_ 0 _ rfl; (with_reducible repeat (first | refine bkN ?_ _ | refine bkd ?_ | refine bka ?_ _)); exact BK404.out)) : gb404 ≠ gb405)); have n12_ := Ad.mk ((by rw [hg]; exact Nat.ne_of_gt (blk_lt (g := gb404) (o := .cells #[.int .i64 t395, .int .i64 t401, .slice Ao9 t397.length co9] 42 (0, 0)) (by (with_reducible repeat (first | refine bkN ?_ _ | refine bkd ?_ | refine bka ?_ _)); refine blk_put (cs := #[.int .i64 t395, .int .i64 t401, .slice none 0 0]) ?_ 2 _ rfl; (with_reducible repeat (first | refine bkN ?_ _ | refine bkd ?_ | refine bka ?_ _)); refine blk_put (cs := #[.int .i64 t395, .int .i64 0, .slice none 0 0]) ?_ 1 _ rfl; (with_reducible repeat (first | refine bkN ?_ _ | refine bkd ?_ | refine bka ?_ _)); refine blk_put (cs := #[.int .i64 0, .int .i64 0, .slice none 0 0]) ?_ 0 _ rfl; (with_reducible repeat (first | refine bkN ?_ _ | refine bkd ?_ | refine bka ?_ _)); exact BK404.out)) : gb405 ≠ gb404)); clear HO_3; clear HO_4; clear HO_401002; clear BK400; clear BK404; clear HB; have HO_3 := n0_; have HO_4 := n1_; have HO_401002 := n2_; have BK400 := n3_; have BK404 := n4_; have HB := n5_; have BK405 := n6_; have GW405 := n7_; have GE405 := n8_; have NB400_405 := n9_; have NB405_400 := n10_; have NB404_405 := n11_; have NB405_404 := n12_; clear n0_ n1_ n2_ n3_ n4_ n5_ n6_ n7_ n8_ n9_ n10_ n11_ n12_; clear hb hbox hg; have hnb34 := NB405_400.out; have hnc34 := NB400_405.out; have hnb35 := NB405_404.out; have hnc35 := NB404_405.out; have hcz36_0 : w33.cell? ⟨gb405, 0, none⟩ = some (.int .i64 0) := (bkc BK405.out 0).trans rfl; have hcz36_1 : w33.cell? ⟨gb405, 1, none⟩ = some (.int .i64 0) := (bkc BK405.out 1).trans rfl; have hcz36_2 : w33.cell? ⟨gb405, 2, none⟩ = some (.slice none 0 0) := (bkc BK405.out 2).trans rfl; have hfz36_0 := qa0 BK405.out 0; have hfz36_1 := qa0 BK405.out 1; have hfz36_2 := qa0 BK405.out 2))
       have n0_ : Ad (Kd.R (Kd.int .i64) 3 (((w33.setCell ⟨gb405, 0, none⟩ (.int .i64 t395)).setCell ⟨gb405, 1, none⟩ (.int .i64 (wrap64 (t401 + 1)))).setCell ⟨gb405, 2, none⟩ (.slice Ao9 t397.length co9)) w.heap.size (fun _ => True) (.slice Ao12 t389.length co12) t389) := ⟨by (with_reducible repeat (first | apply Kd.R_alloc | apply Kd.R_drewN | apply Kd.R_drew)); exact Kd.R_mono (Kd.R_far (p := ⟨gb405, 2, none⟩) (Kd.R_far (p := ⟨gb405, 1, none⟩) (Kd.R_far (p := ⟨gb405, 0, none⟩) (Kd.R_types HO_3.out BK405.out (by decide)) (fun _ hk => hk.2) (.int .i64 t395)) (fun _ hk => hk.2) (.int .i64 (wrap64 (t401 + 1)))) (fun _ hk => hk.2) (.slice Ao9 t397.length co9)) (fun _ hk => trivial)⟩
       have n1_ : Ad (Kd.N k42 42 (((w33.setCell ⟨gb405, 0, none⟩ (.int .i64 t395)).setCell ⟨gb405, 1, none⟩ (.int .i64 (wrap64 (t401 + 1)))).setCell ⟨gb405, 2, none⟩ (.slice Ao9 t397.length co9)) w.heap.size (fun k_ => some k_ ≠ (.slice Ao12 t389.length co12 : Value).ownBlock ∧ k_ ≠ gb400 ∧ k_ ≠ gb404 ∧ k_ ≠ gb405) (.slice Ao13 t392.length co13) t392) := ⟨by (with_reducible repeat (first | apply Kd.N_alloc | apply Kd.N_drewN | apply Kd.N_drew)); exact Kd.N_mono (Kd.N_far (p := ⟨gb405, 2, none⟩) (Kd.N_far (p := ⟨gb405, 1, none⟩) (Kd.N_far (p := ⟨gb405, 0, none⟩) (Kd.N_mono HO_4.out (fun k_ hk => (⟨hk, hk.2⟩ : _ ∧ k_ ≠ gb405))) (fun _ hk => hk.2) (.int .i64 t395)) (fun _ hk => hk.2) (.int .i64 (wrap64 (t401 + 1)))) (fun _ hk => hk.2) (.slice Ao9 t397.length co9)) (fun _ hk => ⟨hk.1.1.1.1, ⟨hk.1.1.1.2, ⟨hk.1.1.2, hk.1.2⟩⟩⟩)⟩
       have n2_ : Ad (Kd.V (Kd.int .i64) 3 (((w33.setCell ⟨gb405, 0, none⟩ (.int .i64 t395)).setCell ⟨gb405, 1, none⟩ (.int .i64 (wrap64 (t401 + 1)))).setCell ⟨gb405, 2, none⟩ (.slice Ao9 t397.length co9)) w.heap.size (fun k_ => some k_ ≠ (.slice Ao12 t389.length co12 : Value).ownBlock ∧ some k_ ≠ (.slice Ao13 t392.length co13 : Value).ownBlock ∧ k_ ≠ gb400 ∧ k_ ≠ gb404 ∧ k_ ≠ gb405) (.slice Ao9 t397.length co9) t397) := ⟨by (with_reducible repeat (first | apply Kd.V_alloc | apply Kd.V_drewN | apply Kd.V_drew)); exact Kd.V_mono (Kd.V_far (p := ⟨gb405, 2, none⟩) (Kd.V_far (p := ⟨gb405, 1, none⟩) (Kd.V_far (p := ⟨gb405, 0, none⟩) (Kd.V_mono HO_401002.out (fun k_ hk => (⟨hk, hk.2⟩ : _ ∧ k_ ≠ gb405))) (fun _ hk => hk.2) (.int .i64 t395)) (fun _ hk => hk.2) (.int .i64 (wrap64 (t401 + 1)))) (fun _ hk => hk.2) (.slice Ao9 t397.length co9)) (fun _ hk => ⟨hk.1.1.1.1, ⟨hk.1.1.1.2.1, ⟨hk.1.1.1.2.2, ⟨hk.1.1.2, hk.1.2⟩⟩⟩⟩)⟩
       have n3_ : Ad ((((w33.setCell ⟨gb405, 0, none⟩ (.int .i64 t395)).setCell ⟨gb405, 1, none⟩ (.int .i64 (wrap64 (t401 + 1)))).setCell ⟨gb405, 2, none⟩ (.slice Ao9 t397.length co9)).heap[gb400]? = some (.cells #[.int .i64 t395, .int .i64 t396, .slice Ao9 t397.length co9] 42 (0, 0))) := ⟨by (with_reducible repeat (first | refine bkN ?_ _ | refine bkd ?_ | refine bka ?_ _)); refine blk_far ?_ NB400_405.out _; (with_reducible repeat (first | refine bkN ?_ _ | refine bkd ?_ | refine bka ?_ _)); refine blk_far ?_ NB400_405.out _; (with_reducible repeat (first | refine bkN ?_ _ | refine bkd ?_ | refine bka ?_ _)); refine blk_far ?_ NB400_405.out _; (with_reducible repeat (first | refine bkN ?_ _ | refine bkd ?_ | refine bka ?_ _)); exact BK400.out⟩
       have n4_ : Ad ((((w33.setCell ⟨gb405, 0, none⟩ (.int .i64 t395)).setCell ⟨gb405, 1, none⟩ (.int .i64 (wrap64 (t401 + 1)))).setCell ⟨gb405, 2, none⟩ (.slice Ao9 t397.length co9)).heap[gb404]? = some (.cells #[.int .i64 t395, .int .i64 t401, .slice Ao9 t397.length co9] 42 (0, 0))) := ⟨by (with_reducible repeat (first | refine bkN ?_ _ | refine bkd ?_ | refine bka ?_ _)); refine blk_far ?_ NB404_405.out _; (with_reducible repeat (first | refine bkN ?_ _ | refine bkd ?_ | refine bka ?_ _)); refine blk_far ?_ NB404_405.out _; (with_reducible repeat (first | refine bkN ?_ _ | refine bkd ?_ | refine bka ?_ _)); refine blk_far ?_ NB404_405.out _; (with_reducible repeat (first | refine bkN ?_ _ | refine bkd ?_ | refine bka ?_ _)); exact BK404.out⟩
       have n5_ : Ad ((((w33.setCell ⟨gb405, 0, none⟩ (.int .i64 t395)).setCell ⟨gb405, 1, none⟩ (.int .i64 (wrap64 (t401 + 1)))).setCell ⟨gb405, 2, none⟩ (.slice Ao9 t397.length co9)).heap[gb405]? = some (.cells #[.int .i64 t395, .int .i64 (wrap64 (t401 + 1)), .slice Ao9 t397.length co9] 42 (0, 0))) := ⟨by (with_reducible repeat (first | refine bkN ?_ _ | refine bkd ?_ | refine bka ?_ _)); refine blk_put (cs := #[.int .i64 t395, .int .i64 (wrap64 (t401 + 1)), .slice none 0 0]) ?_ 2 _ rfl; (with_reducible repeat (first | refine bkN ?_ _ | refine bkd ?_ | refine bka ?_ _)); refine blk_put (cs := #[.int .i64 t395, .int .i64 0, .slice none 0 0]) ?_ 1 _ rfl; (with_reducible repeat (first | refine bkN ?_ _ | refine bkd ?_ | refine bka ?_ _)); refine blk_put (cs := #[.int .i64 0, .int .i64 0, .slice none 0 0]) ?_ 0 _ rfl; (with_reducible repeat (first | refine bkN ?_ _ | refine bkd ?_ | refine bka ?_ _)); exact BK405.out⟩
       have n6_ : Ad (Below w.heap.size w (((w33.setCell ⟨gb405, 0, none⟩ (.int .i64 t395)).setCell ⟨gb405, 1, none⟩ (.int .i64 (wrap64 (t401 + 1)))).setCell ⟨gb405, 2, none⟩ (.slice Ao9 t397.length co9))) := ⟨by repeat (first | (with_reducible first | exact HB.out | apply bwa | apply bwN | apply bw1 | refine bws ?_ GE400.out | refine bws ?_ GE404.out | refine bws ?_ GE405.out) | exact HB.out)⟩
       (try clear HO_3)
       (try clear HO_4)
       (try clear HO_401002)
       (try clear BK400)
       (try clear BK404)
       (try clear BK405)
       (try clear HB)
       generalize (((w33.setCell ⟨gb405, 0, none⟩ (.int .i64 t395)).setCell ⟨gb405, 1, none⟩ (.int .i64 (wrap64 (t401 + 1)))).setCell ⟨gb405, 2, none⟩ (.slice Ao9 t397.length co9)) = w37 at n0_ n1_ n2_ n3_ n4_ n5_ n6_ ⊢
       have HO_3 := n0_
       have HO_4 := n1_
       have HO_401002 := n2_
       have BK400 := n3_
       have BK404 := n4_
       have BK405 := n5_
       have HB := n6_
       clear n0_ n1_ n2_ n3_ n4_ n5_ n6_
       have n0_ := Ad.mk (Kd.R_drew HO_3.out)
       have n1_ := Ad.mk (Kd.N_drew HO_4.out)
       have n2_ := Ad.mk (Kd.V_drew HO_401002.out)
       have n3_ := Ad.mk (bkd BK400.out)
       have n4_ := Ad.mk (bkd BK404.out)
       have n5_ := Ad.mk (bkd BK405.out)
       have n6_ := Ad.mk (bw1 HB.out)
       clear HO_3
       clear HO_4
       clear HO_401002
       clear BK400
       clear BK404
       clear BK405
       clear HB
       have HO_3 := n0_
       have HO_4 := n1_
       have HO_401002 := n2_
       have BK400 := n3_
       have BK404 := n4_
       have BK405 := n5_
       have HB := n6_
       clear n0_ n1_ n2_ n3_ n4_ n5_ n6_
       refine start_ (n := 7) (S := fun w' => w'.cell? ⟨gb404, 0, none⟩ = some (.int .i64 t395) ∧ w'.cell? ⟨gb404, 1, none⟩ = some (.int .i64 t401) ∧ w'.cell? ⟨gb404, 2, none⟩ = some (.slice Ao9 t397.length co9)) (ds := []) #[false, false, false, false, false, false, false] (by kernel_rfl) rfl rfl ⟨(bkc BK404.out 0).trans rfl, (bkc BK404.out 1).trans rfl, (bkc BK404.out 2).trans rfl⟩ (fun hHeld => ?_)
       generalize w37.drew = w38 at HO_3 HO_4 HO_401002 BK400 BK404 BK405 HB hHeld ⊢
       refine pure_ (i := 1) (N := some 54) (v := ?_) (a' := ?_) #[false, true, false, false, false, false, false] rfl rfl (by kernel_rfl) (fun _ _ _ h => h) (Or.inl ⟨by rfl, ?_⟩) ?_ ?_
       rotate_left
       ·intro w'
        go_simp
        with_reducible rfl
       rotate_left
       ·simp only [Act.put, List.setIfInBounds_toArray, List.set_cons_zero, List.set_cons_succ, qa8, qa9]
        rfl
       refine take_ (i := 3) (N := some 56) (v := ?_) (a' := ?_) #[false, true, false, true, false, false, false] rfl rfl (by kernel_rfl) (fun _ _ _ h => h) (Or.inl ⟨by rfl, ?_⟩) hHeld ?_ ?_
       rotate_left
       ·rintro w' ⟨s0, s1, s2⟩
        go_simp
        with_reducible rfl
       rotate_left
       ·simp only [Act.put, List.setIfInBounds_toArray, List.set_cons_zero, List.set_cons_succ, qa8, qa9]
        rfl
       refine join_ (σ := Value × Value × Value) 2 #[true, true, true, true, true, false, false] (fun s_ => [(53, s_.1), (55, s_.2.1), (57, s_.2.2)]) (fun s_ w' => (w'.cell? ⟨gb404, 0, none⟩ = some (.int .i64 t395) ∧ w'.cell? ⟨gb404, 1, none⟩ = some (.int .i64 t401) ∧ w'.cell? ⟨gb404, 2, none⟩ = some (.slice Ao9 t397.length co9)) ∧ (Kd.N k42 42 w' w.heap.size (fun k_ => some k_ ≠ (s_.2.2 : Value).ownBlock ∧ some k_ ≠ (.slice Ao12 t389.length co12 : Value).ownBlock ∧ k_ ≠ gb400 ∧ k_ ≠ gb404 ∧ k_ ≠ gb405) s_.2.1 y409) ∧ (Kd.N k42 42 w' w.heap.size (fun k_ => some k_ ≠ (s_.2.1 : Value).ownBlock ∧ some k_ ≠ (.slice Ao12 t389.length co12 : Value).ownBlock ∧ some k_ ≠ (.slice Ao13 t392.length co13 : Value).ownBlock ∧ k_ ≠ gb400 ∧ k_ ≠ gb404 ∧ k_ ≠ gb405) s_.2.2 y412) ∧ (Kd.R (Kd.int .i64) 3 w' w.heap.size (fun _ => True) (.slice Ao12 t389.length co12) t389) ∧ (Kd.N k42 42 w' w.heap.size (fun k_ => some k_ ≠ (s_.2.1 : Value).ownBlock ∧ some k_ ≠ (s_.2.2 : Value).ownBlock ∧ some k_ ≠ (.slice Ao12 t389.length co12 : Value).ownBlock ∧ k_ ≠ gb400 ∧ k_ ≠ gb404 ∧ k_ ≠ gb405) (.slice Ao13 t392.length co13) t392) ∧ (Kd.V (Kd.int .i64) 3 w' w.heap.size (fun k_ => some k_ ≠ (s_.2.1 : Value).ownBlock ∧ some k_ ≠ (s_.2.2 : Value).ownBlock ∧ some k_ ≠ (.slice Ao12 t389.length co12 : Value).ownBlock ∧ some k_ ≠ (.slice Ao13 t392.length co13 : Value).ownBlock ∧ k_ ≠ gb400 ∧ k_ ≠ gb404 ∧ k_ ≠ gb405) (.slice Ao9 t397.length co9) t397) ∧ (w'.heap[gb400]? = some (.cells #[.int .i64 t395, .int .i64 t396, .slice Ao9 t397.length co9] 42 (0, 0))) ∧ (w'.heap[gb404]? = some (.cells #[.int .i64 t395, .int .i64 t401, .slice Ao9 t397.length co9] 42 (0, 0))) ∧ (w'.heap[gb405]? = some (.cells #[.int .i64 t395, .int .i64 (wrap64 (t401 + 1)), .slice Ao9 t397.length co9] 42 (0, 0))) ∧ (Below w.heap.size w w')) ?_ ?_
       rotate_left
       ·intro hCont
        refine two_ (i := 0) (j := 4) (Ni := some 53) (Nj := some 57) #[true, true, false, true, false, false, false] #[false, true, false, true, true, false, false] rfl rfl rfl rfl (by kernel_rfl) (by decide) (by decide) (fun K hK => ?_) (fun K hK => ?_)
        ·skip
         refine Kd.N_lit_step k42 _ 42 ?hg (N' := 53) ?hd (xs := ([] : List (S42))) (inner := []) (ok := (fun k_ => some k_ ≠ (.slice Ao12 t389.length co12 : Value).ownBlock ∧ some k_ ≠ (.slice Ao13 t392.length co13 : Value).ownBlock ∧ k_ ≠ gb400 ∧ k_ ≠ gb404 ∧ k_ ≠ gb405)) (okp := (fun k_ => some k_ ≠ (.slice Ao12 t389.length co12 : Value).ownBlock ∧ some k_ ≠ (.slice Ao13 t392.length co13 : Value).ownBlock ∧ k_ ≠ gb400 ∧ k_ ≠ gb404 ∧ k_ ≠ gb405)) ?hr ?hp (fun _ hk => hk) ((show ∀ k_, w38.heap.size ≤ k_ → (fun k_ => some k_ ≠ (.slice Ao12 t389.length co12 : Value).ownBlock ∧ some k_ ≠ (.slice Ao13 t392.length co13 : Value).ownBlock ∧ k_ ≠ gb400 ∧ k_ ≠ gb404 ∧ k_ ≠ gb405) k_ from fun k_ hk => ⟨Kd.fresh' (Kd.R_lt (by (with_reducible repeat (first | apply Kd.R_alloc | apply Kd.R_drewN | apply Kd.R_drew)); exact HO_3.out)) k_ hk, Kd.fresh' (Kd.N_lt (by (with_reducible repeat (first | apply Kd.N_alloc | apply Kd.N_drewN | apply Kd.N_drew)); exact HO_4.out)) k_ hk, Kd.freshB (g := gb400) (o := .cells #[.int .i64 t395, .int .i64 t396, .slice Ao9 t397.length co9] 42 (0, 0)) (by (with_reducible repeat (first | refine bkN ?_ _ | refine bkd ?_ | refine bka ?_ _)); exact BK400.out) k_ hk, Kd.freshB (g := gb404) (o := .cells #[.int .i64 t395, .int .i64 t401, .slice Ao9 t397.length co9] 42 (0, 0)) (by (with_reducible repeat (first | refine bkN ?_ _ | refine bkd ?_ | refine bka ?_ _)); exact BK404.out) k_ hk, Kd.freshB (g := gb405) (o := .cells #[.int .i64 t395, .int .i64 (wrap64 (t401 + 1)), .slice Ao9 t397.length co9] 42 (0, 0)) (by (with_reducible repeat (first | refine bkN ?_ _ | refine bkd ?_ | refine bka ?_ _)); exact BK405.out) k_ hk⟩) _ (Nat.le_refl _)) (Below.refl _ _) (Nat.le_refl _) (by simp) ?_; (case hd => rfl); (case hg => rfl); (case hr => first | (go_simp; done) | (go_simp; rfl)); (case hp => exact (Reps.none _ _))
         intro v407 w39 ho40 hb hg_ hnew_
         clear hg_ hnew_
         (first | rw [← Ny406.out] at ho40 | (simp only [Int.reduceToNat] at ho40; rw [← Ny406.out] at ho40))
         have n0_ := Ad.mk (Kd.R_below (by (with_reducible repeat (first | apply Kd.R_alloc | apply Kd.R_drewN | apply Kd.R_drew)); exact HO_3.out) hb)
         have n1_ := Ad.mk (Kd.N_elder' (by (with_reducible repeat (first | apply Kd.N_alloc | apply Kd.N_drewN | apply Kd.N_drew)); exact HO_4.out) (Kd.N_base ho40) hb)
         have n2_ := Ad.mk (Kd.V_elder' (by (with_reducible repeat (first | apply Kd.V_alloc | apply Kd.V_drewN | apply Kd.V_drew)); exact HO_401002.out) (Kd.N_base ho40) hb)
         have n3_ := Ad.mk (Kd.N_lower ho40 (qa1 (by repeat (first | (with_reducible first | exact HB.out | apply bwa | apply bwN | apply bw1 | refine bws ?_ GE400.out | refine bws ?_ GE404.out | refine bws ?_ GE405.out) | exact HB.out))))
         have n4_ := Ad.mk (qa6 (g := gb400) (o := .cells #[.int .i64 t395, .int .i64 t396, .slice Ao9 t397.length co9] 42 (0, 0)) (by (with_reducible repeat (first | refine bkN ?_ _ | refine bkd ?_ | refine bka ?_ _)); exact BK400.out) hb)
         have n5_ := Ad.mk (qa6 (g := gb404) (o := .cells #[.int .i64 t395, .int .i64 t401, .slice Ao9 t397.length co9] 42 (0, 0)) (by (with_reducible repeat (first | refine bkN ?_ _ | refine bkd ?_ | refine bka ?_ _)); exact BK404.out) hb)
         have n6_ := Ad.mk (qa6 (g := gb405) (o := .cells #[.int .i64 t395, .int .i64 (wrap64 (t401 + 1)), .slice Ao9 t397.length co9] 42 (0, 0)) (by (with_reducible repeat (first | refine bkN ?_ _ | refine bkd ?_ | refine bka ?_ _)); exact BK405.out) hb)
         have n7_ := Ad.mk (qa5 (by repeat (first | (with_reducible first | exact HB.out | apply bwa | apply bwN | apply bw1 | refine bws ?_ GE400.out | refine bws ?_ GE404.out | refine bws ?_ GE405.out) | exact HB.out)) hb)
         clear HO_3
         clear HO_4
         clear HO_401002
         clear BK400
         clear BK404
         clear BK405
         clear HB
         have HO_3 := n0_
         have HO_4 := n1_
         have HO_401002 := n2_
         have HO408 := n3_
         have BK400 := n4_
         have BK404 := n5_
         have BK405 := n6_
         have HB := n7_
         clear n0_ n1_ n2_ n3_ n4_ n5_ n6_ n7_
         clear hb ho40
         refine hK.out _ _ ⟨(bkc BK404.out 0).trans rfl, (bkc BK404.out 1).trans rfl, (bkc BK404.out 2).trans rfl⟩ (fun hHeld => ?_)
         clear hK K
         refine norm_ (a' := ?_) ?_ ?_
         rotate_left
         ·show Act.put _ (some 53) _ = _
          simp only [Act.put, List.setIfInBounds_toArray, List.set_cons_zero, List.set_cons_succ, qa8, qa9]
          rfl
         refine two_ (i := 2) (j := 4) (Ni := some 55) (Nj := some 57) #[true, true, true, true, false, false, false] #[true, true, false, true, true, false, false] rfl rfl rfl rfl (by kernel_rfl) (by decide) (by decide) (fun K hK => ?_) (fun K hK => ?_)
         ·skip
          refine Kd.N_append_rows_step k42 (w0 := w) w.heap.size (by rfl) (.tmp 53) (.tmp 54) 34 42 (.agg #[(.int .i64 0), (.int .i64 0), (.slice none 0 0)]) 40 rfl Try.underlying34 info42 rfl (by decide) (by omega) v407 y406 t392 _ _ _ (fun k_ => some k_ ≠ (.slice Ao12 t389.length co12 : Value).ownBlock ∧ k_ ≠ gb400 ∧ k_ ≠ gb404 ∧ k_ ≠ gb405) (fun k_ => ((fun k_ => some k_ ≠ (.slice Ao12 t389.length co12 : Value).ownBlock ∧ k_ ≠ gb400 ∧ k_ ≠ gb404 ∧ k_ ≠ gb405)) k_ ∧ some k_ ≠ (v407 : Value).ownBlock) rfl rfl ?aO ?aR (fun _ hk => hk) ?aF ?aB ?aS ?aL ?_
          (case aR => exact (by skip; exact Kd.N_F (Kd.N_mono (ok' := (fun k_ => ((fun k_ => some k_ ≠ (.slice Ao12 t389.length co12 : Value).ownBlock ∧ k_ ≠ gb400 ∧ k_ ≠ gb404 ∧ k_ ≠ gb405)) k_ ∧ some k_ ≠ (v407 : Value).ownBlock)) (HO_4.out) (fun k_ hk => ⟨⟨hk.1.1, ⟨hk.1.2.1, ⟨hk.1.2.2.1, hk.1.2.2.2⟩⟩⟩, hk.2⟩))))
          (case aB => exact (by repeat (first | (with_reducible first | exact HB.out | apply bwa | apply bwN | apply bw1 | refine bws ?_ GE400.out | refine bws ?_ GE404.out | refine bws ?_ GE405.out) | exact HB.out)))
          (case aF => exact (fun k_ hk => ⟨Kd.fresh' (Kd.R_lt (by (with_reducible repeat (first | apply Kd.R_alloc | apply Kd.R_drewN | apply Kd.R_drew)); exact HO_3.out)) k_ hk, Kd.freshB (g := gb400) (o := .cells #[.int .i64 t395, .int .i64 t396, .slice Ao9 t397.length co9] 42 (0, 0)) (by (with_reducible repeat (first | refine bkN ?_ _ | refine bkd ?_ | refine bka ?_ _)); exact BK400.out) k_ hk, Kd.freshB (g := gb404) (o := .cells #[.int .i64 t395, .int .i64 t401, .slice Ao9 t397.length co9] 42 (0, 0)) (by (with_reducible repeat (first | refine bkN ?_ _ | refine bkd ?_ | refine bka ?_ _)); exact BK404.out) k_ hk, Kd.freshB (g := gb405) (o := .cells #[.int .i64 t395, .int .i64 (wrap64 (t401 + 1)), .slice Ao9 t397.length co9] 42 (0, 0)) (by (with_reducible repeat (first | refine bkN ?_ _ | refine bkd ?_ | refine bka ?_ _)); exact BK405.out) k_ hk⟩))
          (case aO => exact (by (with_reducible repeat (first | apply Kd.N_alloc | apply Kd.N_drewN | apply Kd.N_drew)); exact Kd.N_mono HO408.out (fun _ hk => ⟨hk.1, ⟨hk.2.2.1, ⟨hk.2.2.2.1, hk.2.2.2.2⟩⟩⟩)))
          (case aS => exact (qa1 (by repeat (first | (with_reducible first | exact HB.out | apply bwa | apply bwN | apply bw1 | refine bws ?_ GE400.out | refine bws ?_ GE404.out | refine bws ?_ GE405.out) | exact HB.out))))
          (case aL => have := LMc25.out; omega)
          intro v410 w41 ho hb hg hat
          rw [← Ny409.out] at ho
          have n0_ := Ad.mk (Kd.R_over' (by (with_reducible repeat (first | apply Kd.R_alloc | apply Kd.R_drewN | apply Kd.R_drew)); exact HO_3.out) (Kd.N_typed (by (with_reducible repeat (first | apply Kd.N_alloc | apply Kd.N_drewN | apply Kd.N_drew)); exact HO408.out)) (by decide) hg)
          have n1_ := Ad.mk (Kd.N_afterv (ok := (fun k_ => some k_ ≠ (.slice Ao12 t389.length co12 : Value).ownBlock ∧ k_ ≠ gb400 ∧ k_ ≠ gb404 ∧ k_ ≠ gb405)) (by (with_reducible repeat (first | apply Kd.N_alloc | apply Kd.N_drewN | apply Kd.N_drew)); exact HO_4.out) hg hat)
          have n2_ := Ad.mk (Kd.V_afterv (ok := (fun k_ => some k_ ≠ (.slice Ao12 t389.length co12 : Value).ownBlock ∧ some k_ ≠ (.slice Ao13 t392.length co13 : Value).ownBlock ∧ k_ ≠ gb400 ∧ k_ ≠ gb404 ∧ k_ ≠ gb405)) (by (with_reducible repeat (first | apply Kd.V_alloc | apply Kd.V_drewN | apply Kd.V_drew)); exact HO_401002.out) hg hat)
          have n3_ := Ad.mk (blk_grown (g := gb400) (o := .cells #[.int .i64 t395, .int .i64 t396, .slice Ao9 t397.length co9] 42 (0, 0)) (by (with_reducible repeat (first | refine bkN ?_ _ | refine bkd ?_ | refine bka ?_ _)); exact BK400.out) hg (Kd.N_away HO408.out (fun _ hk => hk.2.2.1)))
          have n4_ := Ad.mk (blk_grown (g := gb404) (o := .cells #[.int .i64 t395, .int .i64 t401, .slice Ao9 t397.length co9] 42 (0, 0)) (by (with_reducible repeat (first | refine bkN ?_ _ | refine bkd ?_ | refine bka ?_ _)); exact BK404.out) hg (Kd.N_away HO408.out (fun _ hk => hk.2.2.2.1)))
          have n5_ := Ad.mk (blk_grown (g := gb405) (o := .cells #[.int .i64 t395, .int .i64 (wrap64 (t401 + 1)), .slice Ao9 t397.length co9] 42 (0, 0)) (by (with_reducible repeat (first | refine bkN ?_ _ | refine bkd ?_ | refine bka ?_ _)); exact BK405.out) hg (Kd.N_away HO408.out (fun _ hk => hk.2.2.2.2)))
          have n6_ := Ad.mk (hb)
          have n7_ := Ad.mk (ho)
          clear HO_3
          clear HO_4
          clear HO_401002
          clear BK400
          clear BK404
          clear BK405
          clear HB
          clear HO408
          have HO_3 := n0_
          have HO_4 := n1_
          have HO_401002 := n2_
          have BK400 := n3_
          have BK404 := n4_
          have BK405 := n5_
          have HB := n6_
          have HO411 := n7_
          clear n0_ n1_ n2_ n3_ n4_ n5_ n6_ n7_
          clear ho hb hg hat
          refine hK.out _ _ ⟨(bkc BK404.out 0).trans rfl, (bkc BK404.out 1).trans rfl, (bkc BK404.out 2).trans rfl⟩ (fun hHeld => ?_)
          clear hK K
          refine norm_ (a' := ?_) ?_ ?_
          rotate_left
          ·show Act.put _ (some 55) _ = _
           simp only [Act.put, List.setIfInBounds_toArray, List.set_cons_zero, List.set_cons_succ, qa8, qa9]
           rfl
          refine one_ (i := 4) (N := some 57) #[true, true, true, true, true, false, false] rfl rfl (by kernel_rfl) (by decide) (fun K hK => ?_)
          refine Kd.N_lit_step k42 _ 42 ?hg (N' := 57) ?hd (xs := ([(⟨t395, t401, t397⟩ : S42)] : List (S42))) (inner := [.int .i64 t395, .int .i64 t401, .slice Ao9 t397.length co9]) (ok := (fun k_ => some k_ ≠ (.slice Ao12 t389.length co12 : Value).ownBlock ∧ some k_ ≠ (.slice Ao13 t392.length co13 : Value).ownBlock ∧ some k_ ≠ (v410 : Value).ownBlock ∧ k_ ≠ gb400 ∧ k_ ≠ gb404 ∧ k_ ≠ gb405)) (okp := (fun k_ => some k_ ≠ (.slice Ao12 t389.length co12 : Value).ownBlock ∧ some k_ ≠ (.slice Ao13 t392.length co13 : Value).ownBlock ∧ some k_ ≠ (v410 : Value).ownBlock ∧ k_ ≠ gb400 ∧ k_ ≠ gb404 ∧ k_ ≠ gb405)) ?hr ?hp (fun _ hk => hk) ((show ∀ k_, w41.heap.size ≤ k_ → (fun k_ => some k_ ≠ (.slice Ao12 t389.length co12 : Value).ownBlock ∧ some k_ ≠ (.slice Ao13 t392.length co13 : Value).ownBlock ∧ some k_ ≠ (v410 : Value).ownBlock ∧ k_ ≠ gb400 ∧ k_ ≠ gb404 ∧ k_ ≠ gb405) k_ from fun k_ hk => ⟨Kd.fresh' (Kd.R_lt (by (with_reducible repeat (first | apply Kd.R_alloc | apply Kd.R_drewN | apply Kd.R_drew)); exact HO_3.out)) k_ hk, Kd.fresh' (Kd.N_lt (by (with_reducible repeat (first | apply Kd.N_alloc | apply Kd.N_drewN | apply Kd.N_drew)); exact HO_4.out)) k_ hk, Kd.fresh' (Kd.N_lt (by (with_reducible repeat (first | apply Kd.N_alloc | apply Kd.N_drewN | apply Kd.N_drew)); exact HO411.out)) k_ hk, Kd.freshB (g := gb400) (o := .cells #[.int .i64 t395, .int .i64 t396, .slice Ao9 t397.length co9] 42 (0, 0)) (by (with_reducible repeat (first | refine bkN ?_ _ | refine bkd ?_ | refine bka ?_ _)); exact BK400.out) k_ hk, Kd.freshB (g := gb404) (o := .cells #[.int .i64 t395, .int .i64 t401, .slice Ao9 t397.length co9] 42 (0, 0)) (by (with_reducible repeat (first | refine bkN ?_ _ | refine bkd ?_ | refine bka ?_ _)); exact BK404.out) k_ hk, Kd.freshB (g := gb405) (o := .cells #[.int .i64 t395, .int .i64 (wrap64 (t401 + 1)), .slice Ao9 t397.length co9] 42 (0, 0)) (by (with_reducible repeat (first | refine bkN ?_ _ | refine bkd ?_ | refine bka ?_ _)); exact BK405.out) k_ hk⟩) _ (Nat.le_refl _)) (Below.refl _ _) (Nat.le_refl _) (by simp) ?_; (case hd => rfl); (case hg => rfl); (case hr => first | (go_simp; done) | (go_simp; rfl)); (case hp => exact (Reps.c3 (show Kd.FK k42 _ _ (⟨t395, t401, t397⟩ : S42) [.int .i64 t395, .int .i64 t401, .slice Ao9 t397.length co9] from (k42_mkF _ _ (⟨t395, t401, t397⟩ : S42) (Kd.V_reads' (have z_ := HO_401002.out; Kd.V_mono (ok' := (fun k_ => some k_ ≠ (.slice Ao12 t389.length co12 : Value).ownBlock ∧ some k_ ≠ (.slice Ao13 t392.length co13 : Value).ownBlock ∧ some k_ ≠ (v410 : Value).ownBlock ∧ k_ ≠ gb400 ∧ k_ ≠ gb404 ∧ k_ ≠ gb405)) z_ (fun k_ hk => ⟨hk.1.1, ⟨hk.1.2.1, ⟨hk.2, ⟨hk.1.2.2.1, ⟨hk.1.2.2.2.1, hk.1.2.2.2.2⟩⟩⟩⟩⟩))).2.1 (Kd.V_F (have z_ := HO_401002.out; Kd.V_mono (ok' := (fun k_ => some k_ ≠ (.slice Ao12 t389.length co12 : Value).ownBlock ∧ some k_ ≠ (.slice Ao13 t392.length co13 : Value).ownBlock ∧ some k_ ≠ (v410 : Value).ownBlock ∧ k_ ≠ gb400 ∧ k_ ≠ gb404 ∧ k_ ≠ gb405)) z_ (fun k_ hk => ⟨hk.1.1, ⟨hk.1.2.1, ⟨hk.2, ⟨hk.1.2.2.1, ⟨hk.1.2.2.2.1, hk.1.2.2.2.2⟩⟩⟩⟩⟩))))) (Reps.none _ _)))
          intro v413 w42 ho43 hb hg_ hnew_
          clear hg_ hnew_
          (first | rw [← Ny412.out] at ho43 | (simp only [Int.reduceToNat] at ho43; rw [← Ny412.out] at ho43))
          have n0_ := Ad.mk (Kd.R_below (by (with_reducible repeat (first | apply Kd.R_alloc | apply Kd.R_drewN | apply Kd.R_drew)); exact HO_3.out) hb)
          have n1_ := Ad.mk (Kd.N_elder' (by (with_reducible repeat (first | apply Kd.N_alloc | apply Kd.N_drewN | apply Kd.N_drew)); exact HO_4.out) (Kd.N_base ho43) hb)
          have n2_ := Ad.mk (Kd.V_elder' (by (with_reducible repeat (first | apply Kd.V_alloc | apply Kd.V_drewN | apply Kd.V_drew)); exact HO_401002.out) (Kd.N_base ho43) hb)
          have n3_ := Ad.mk (Kd.N_elder' (by (with_reducible repeat (first | apply Kd.N_alloc | apply Kd.N_drewN | apply Kd.N_drew)); exact HO411.out) (Kd.N_base ho43) hb)
          have n4_ := Ad.mk (Kd.N_lower ho43 (qa1 (by repeat (first | (with_reducible first | exact HB.out | apply bwa | apply bwN | apply bw1 | refine bws ?_ GE400.out | refine bws ?_ GE404.out | refine bws ?_ GE405.out) | exact HB.out))))
          have n5_ := Ad.mk (qa6 (g := gb400) (o := .cells #[.int .i64 t395, .int .i64 t396, .slice Ao9 t397.length co9] 42 (0, 0)) (by (with_reducible repeat (first | refine bkN ?_ _ | refine bkd ?_ | refine bka ?_ _)); exact BK400.out) hb)
          have n6_ := Ad.mk (qa6 (g := gb404) (o := .cells #[.int .i64 t395, .int .i64 t401, .slice Ao9 t397.length co9] 42 (0, 0)) (by (with_reducible repeat (first | refine bkN ?_ _ | refine bkd ?_ | refine bka ?_ _)); exact BK404.out) hb)
          have n7_ := Ad.mk (qa6 (g := gb405) (o := .cells #[.int .i64 t395, .int .i64 (wrap64 (t401 + 1)), .slice Ao9 t397.length co9] 42 (0, 0)) (by (with_reducible repeat (first | refine bkN ?_ _ | refine bkd ?_ | refine bka ?_ _)); exact BK405.out) hb)
          have n8_ := Ad.mk (qa5 (by repeat (first | (with_reducible first | exact HB.out | apply bwa | apply bwN | apply bw1 | refine bws ?_ GE400.out | refine bws ?_ GE404.out | refine bws ?_ GE405.out) | exact HB.out)) hb)
          clear HO_3
          clear HO_4
          clear HO_401002
          clear HO411
          clear BK400
          clear BK404
          clear BK405
          clear HB
          have HO_3 := n0_
          have HO_4 := n1_
          have HO_401002 := n2_
          have HO411 := n3_
          have HO414 := n4_
          have BK400 := n5_
          have BK404 := n6_
          have BK405 := n7_
          have HB := n8_
          clear n0_ n1_ n2_ n3_ n4_ n5_ n6_ n7_ n8_
          clear hb ho43
          refine hK.out _ _ ⟨(bkc BK404.out 0).trans rfl, (bkc BK404.out 1).trans rfl, (bkc BK404.out 2).trans rfl⟩ (fun hHeld => ?_)
          clear hK K
          refine norm_ (a' := ?_) ?_ ?_
          rotate_left
          ·show Act.put _ (some 57) _ = _
           simp only [Act.put, List.setIfInBounds_toArray, List.set_cons_zero, List.set_cons_succ, qa8, qa9]
           rfl
          exact norm_ (by simp only [putAll, Act.put, List.setIfInBounds_toArray, List.set_cons_zero, List.set_cons_succ]) (hCont (v407, v410, v413) _ ⟨hHeld, (by (with_reducible repeat (first | apply Kd.N_alloc | apply Kd.N_drewN | apply Kd.N_drew)); exact Kd.N_mono HO411.out (fun _ hk => ⟨hk.2, ⟨hk.1.1, ⟨hk.1.2.1, ⟨hk.1.2.2.1, hk.1.2.2.2⟩⟩⟩⟩)), (by (with_reducible repeat (first | apply Kd.N_alloc | apply Kd.N_drewN | apply Kd.N_drew)); exact Kd.N_mono HO414.out (fun _ hk => ⟨hk.2.2.1, ⟨hk.1, ⟨hk.2.1, ⟨hk.2.2.2.1, ⟨hk.2.2.2.2.1, hk.2.2.2.2.2⟩⟩⟩⟩⟩)), (by (with_reducible repeat (first | apply Kd.R_alloc | apply Kd.R_drewN | apply Kd.R_drew)); exact HO_3.out), (by (with_reducible repeat (first | apply Kd.N_alloc | apply Kd.N_drewN | apply Kd.N_drew)); exact Kd.N_mono HO_4.out (fun _ hk => ⟨hk.1.2, ⟨hk.2, ⟨hk.1.1.1, ⟨hk.1.1.2.1, ⟨hk.1.1.2.2.1, hk.1.1.2.2.2⟩⟩⟩⟩⟩)), (by (with_reducible repeat (first | apply Kd.V_alloc | apply Kd.V_drewN | apply Kd.V_drew)); exact Kd.V_mono HO_401002.out (fun _ hk => ⟨hk.1.2, ⟨hk.2, ⟨hk.1.1.1, ⟨hk.1.1.2.1, ⟨hk.1.1.2.2.1, ⟨hk.1.1.2.2.2.1, hk.1.1.2.2.2.2⟩⟩⟩⟩⟩⟩)), (by (with_reducible repeat (first | refine bkN ?_ _ | refine bkd ?_ | refine bka ?_ _)); exact BK400.out), (by (with_reducible repeat (first | refine bkN ?_ _ | refine bkd ?_ | refine bka ?_ _)); exact BK404.out), (by (with_reducible repeat (first | refine bkN ?_ _ | refine bkd ?_ | refine bka ?_ _)); exact BK405.out), (by repeat (first | (with_reducible first | exact HB.out | apply bwa | apply bwN | apply bw1 | refine bws ?_ GE400.out | refine bws ?_ GE404.out | refine bws ?_ GE405.out) | exact HB.out))⟩)
         ·skip
          refine Kd.N_lit_step k42 _ 42 ?hg (N' := 57) ?hd (xs := ([(⟨t395, t401, t397⟩ : S42)] : List (S42))) (inner := [.int .i64 t395, .int .i64 t401, .slice Ao9 t397.length co9]) (ok := (fun k_ => some k_ ≠ (.slice Ao12 t389.length co12 : Value).ownBlock ∧ some k_ ≠ (.slice Ao13 t392.length co13 : Value).ownBlock ∧ some k_ ≠ (v407 : Value).ownBlock ∧ k_ ≠ gb400 ∧ k_ ≠ gb404 ∧ k_ ≠ gb405)) (okp := (fun k_ => some k_ ≠ (.slice Ao12 t389.length co12 : Value).ownBlock ∧ some k_ ≠ (.slice Ao13 t392.length co13 : Value).ownBlock ∧ some k_ ≠ (v407 : Value).ownBlock ∧ k_ ≠ gb400 ∧ k_ ≠ gb404 ∧ k_ ≠ gb405)) ?hr ?hp (fun _ hk => hk) ((show ∀ k_, w39.heap.size ≤ k_ → (fun k_ => some k_ ≠ (.slice Ao12 t389.length co12 : Value).ownBlock ∧ some k_ ≠ (.slice Ao13 t392.length co13 : Value).ownBlock ∧ some k_ ≠ (v407 : Value).ownBlock ∧ k_ ≠ gb400 ∧ k_ ≠ gb404 ∧ k_ ≠ gb405) k_ from fun k_ hk => ⟨Kd.fresh' (Kd.R_lt (by (with_reducible repeat (first | apply Kd.R_alloc | apply Kd.R_drewN | apply Kd.R_drew)); exact HO_3.out)) k_ hk, Kd.fresh' (Kd.N_lt (by (with_reducible repeat (first | apply Kd.N_alloc | apply Kd.N_drewN | apply Kd.N_drew)); exact HO_4.out)) k_ hk, Kd.fresh' (Kd.N_lt (by (with_reducible repeat (first | apply Kd.N_alloc | apply Kd.N_drewN | apply Kd.N_drew)); exact HO408.out)) k_ hk, Kd.freshB (g := gb400) (o := .cells #[.int .i64 t395, .int .i64 t396, .slice Ao9 t397.length co9] 42 (0, 0)) (by (with_reducible repeat (first | refine bkN ?_ _ | refine bkd ?_ | refine bka ?_ _)); exact BK400.out) k_ hk, Kd.freshB (g := gb404) (o := .cells #[.int .i64 t395, .int .i64 t401, .slice Ao9 t397.length co9] 42 (0, 0)) (by (with_reducible repeat (first | refine bkN ?_ _ | refine bkd ?_ | refine bka ?_ _)); exact BK404.out) k_ hk, Kd.freshB (g := gb405) (o := .cells #[.int .i64 t395, .int .i64 (wrap64 (t401 + 1)), .slice Ao9 t397.length co9] 42 (0, 0)) (by (with_reducible repeat (first | refine bkN ?_ _ | refine bkd ?_ | refine bka ?_ _)); exact BK405.out) k_ hk⟩) _ (Nat.le_refl _)) (Below.refl _ _) (Nat.le_refl _) (by simp) ?_; (case hd => rfl); (case hg => rfl); (case hr => first | (go_simp; done) | (go_simp; rfl)); (case hp => exact (Reps.c3 (show Kd.FK k42 _ _ (⟨t395, t401, t397⟩ : S42) [.int .i64 t395, .int .i64 t401, .slice Ao9 t397.length co9] from (k42_mkF _ _ (⟨t395, t401, t397⟩ : S42) (Kd.V_reads' (have z_ := HO_401002.out; Kd.V_mono (ok' := (fun k_ => some k_ ≠ (.slice Ao12 t389.length co12 : Value).ownBlock ∧ some k_ ≠ (.slice Ao13 t392.length co13 : Value).ownBlock ∧ some k_ ≠ (v407 : Value).ownBlock ∧ k_ ≠ gb400 ∧ k_ ≠ gb404 ∧ k_ ≠ gb405)) z_ (fun k_ hk => ⟨hk.1.1, ⟨hk.1.2.1, ⟨hk.2, ⟨hk.1.2.2.1, ⟨hk.1.2.2.2.1, hk.1.2.2.2.2⟩⟩⟩⟩⟩))).2.1 (Kd.V_F (have z_ := HO_401002.out; Kd.V_mono (ok' := (fun k_ => some k_ ≠ (.slice Ao12 t389.length co12 : Value).ownBlock ∧ some k_ ≠ (.slice Ao13 t392.length co13 : Value).ownBlock ∧ some k_ ≠ (v407 : Value).ownBlock ∧ k_ ≠ gb400 ∧ k_ ≠ gb404 ∧ k_ ≠ gb405)) z_ (fun k_ hk => ⟨hk.1.1, ⟨hk.1.2.1, ⟨hk.2, ⟨hk.1.2.2.1, ⟨hk.1.2.2.2.1, hk.1.2.2.2.2⟩⟩⟩⟩⟩))))) (Reps.none _ _)))
          intro v413 w41 ho42 hb hg_ hnew_
          clear hg_ hnew_
          (first | rw [← Ny412.out] at ho42 | (simp only [Int.reduceToNat] at ho42; rw [← Ny412.out] at ho42))
          have n0_ := Ad.mk (Kd.R_below (by (with_reducible repeat (first | apply Kd.R_alloc | apply Kd.R_drewN | apply Kd.R_drew)); exact HO_3.out) hb)
          have n1_ := Ad.mk (Kd.N_elder' (by (with_reducible repeat (first | apply Kd.N_alloc | apply Kd.N_drewN | apply Kd.N_drew)); exact HO_4.out) (Kd.N_base ho42) hb)
          have n2_ := Ad.mk (Kd.V_elder' (by (with_reducible repeat (first | apply Kd.V_alloc | apply Kd.V_drewN | apply Kd.V_drew)); exact HO_401002.out) (Kd.N_base ho42) hb)
          have n3_ := Ad.mk (Kd.N_elder' (by (with_reducible repeat (first | apply Kd.N_alloc | apply Kd.N_drewN | apply Kd.N_drew)); exact HO408.out) (Kd.N_base ho42) hb)
          have n4_ := Ad.mk (Kd.N_lower ho42 (qa1 (by repeat (first | (with_reducible first | exact HB.out | apply bwa | apply bwN | apply bw1 | refine bws ?_ GE400.out | refine bws ?_ GE404.out | refine bws ?_ GE405.out) | exact HB.out))))
          have n5_ := Ad.mk (qa6 (g := gb400) (o := .cells #[.int .i64 t395, .int .i64 t396, .slice Ao9 t397.length co9] 42 (0, 0)) (by (with_reducible repeat (first | refine bkN ?_ _ | refine bkd ?_ | refine bka ?_ _)); exact BK400.out) hb)
          have n6_ := Ad.mk (qa6 (g := gb404) (o := .cells #[.int .i64 t395, .int .i64 t401, .slice Ao9 t397.length co9] 42 (0, 0)) (by (with_reducible repeat (first | refine bkN ?_ _ | refine bkd ?_ | refine bka ?_ _)); exact BK404.out) hb)
          have n7_ := Ad.mk (qa6 (g := gb405) (o := .cells #[.int .i64 t395, .int .i64 (wrap64 (t401 + 1)), .slice Ao9 t397.length co9] 42 (0, 0)) (by (with_reducible repeat (first | refine bkN ?_ _ | refine bkd ?_ | refine bka ?_ _)); exact BK405.out) hb)
          have n8_ := Ad.mk (qa5 (by repeat (first | (with_reducible first | exact HB.out | apply bwa | apply bwN | apply bw1 | refine bws ?_ GE400.out | refine bws ?_ GE404.out | refine bws ?_ GE405.out) | exact HB.out)) hb)
          clear HO_3
          clear HO_4
          clear HO_401002
          clear HO408
          clear BK400
          clear BK404
          clear BK405
          clear HB
          have HO_3 := n0_
          have HO_4 := n1_
          have HO_401002 := n2_
          have HO408 := n3_
          have HO414 := n4_
          have BK400 := n5_
          have BK404 := n6_
          have BK405 := n7_
          have HB := n8_
          clear n0_ n1_ n2_ n3_ n4_ n5_ n6_ n7_ n8_
          clear hb ho42
          refine hK.out _ _ ⟨(bkc BK404.out 0).trans rfl, (bkc BK404.out 1).trans rfl, (bkc BK404.out 2).trans rfl⟩ (fun hHeld => ?_)
          clear hK K
          refine norm_ (a' := ?_) ?_ ?_
          rotate_left
          ·show Act.put _ (some 57) _ = _
           simp only [Act.put, List.setIfInBounds_toArray, List.set_cons_zero, List.set_cons_succ, qa8, qa9]
           rfl
          refine one_ (i := 2) (N := some 55) #[true, true, true, true, true, false, false] rfl rfl (by kernel_rfl) (by decide) (fun K hK => ?_)
          refine Kd.N_append_rows_step k42 (w0 := w) w.heap.size (by rfl) (.tmp 53) (.tmp 54) 34 42 (.agg #[(.int .i64 0), (.int .i64 0), (.slice none 0 0)]) 40 rfl Try.underlying34 info42 rfl (by decide) (by omega) v407 y406 t392 _ _ _ (fun k_ => some k_ ≠ (.slice Ao12 t389.length co12 : Value).ownBlock ∧ some k_ ≠ (v413 : Value).ownBlock ∧ k_ ≠ gb400 ∧ k_ ≠ gb404 ∧ k_ ≠ gb405) (fun k_ => ((fun k_ => some k_ ≠ (.slice Ao12 t389.length co12 : Value).ownBlock ∧ some k_ ≠ (v413 : Value).ownBlock ∧ k_ ≠ gb400 ∧ k_ ≠ gb404 ∧ k_ ≠ gb405)) k_ ∧ some k_ ≠ (v407 : Value).ownBlock) rfl rfl ?aO ?aR (fun _ hk => hk) ?aF ?aB ?aS ?aL ?_
          (case aR => exact (by skip; exact Kd.N_F (Kd.N_mono (ok' := (fun k_ => ((fun k_ => some k_ ≠ (.slice Ao12 t389.length co12 : Value).ownBlock ∧ some k_ ≠ (v413 : Value).ownBlock ∧ k_ ≠ gb400 ∧ k_ ≠ gb404 ∧ k_ ≠ gb405)) k_ ∧ some k_ ≠ (v407 : Value).ownBlock)) (HO_4.out) (fun k_ hk => ⟨⟨hk.1.1.1, ⟨hk.2, ⟨hk.1.1.2.1, ⟨hk.1.1.2.2.1, hk.1.1.2.2.2⟩⟩⟩⟩, hk.1.2⟩))))
          (case aB => exact (by repeat (first | (with_reducible first | exact HB.out | apply bwa | apply bwN | apply bw1 | refine bws ?_ GE400.out | refine bws ?_ GE404.out | refine bws ?_ GE405.out) | exact HB.out)))
          (case aF => exact (fun k_ hk => ⟨Kd.fresh' (Kd.R_lt (by (with_reducible repeat (first | apply Kd.R_alloc | apply Kd.R_drewN | apply Kd.R_drew)); exact HO_3.out)) k_ hk, Kd.fresh' (Kd.N_lt (by (with_reducible repeat (first | apply Kd.N_alloc | apply Kd.N_drewN | apply Kd.N_drew)); exact HO414.out)) k_ hk, Kd.freshB (g := gb400) (o := .cells #[.int .i64 t395, .int .i64 t396, .slice Ao9 t397.length co9] 42 (0, 0)) (by (with_reducible repeat (first | refine bkN ?_ _ | refine bkd ?_ | refine bka ?_ _)); exact BK400.out) k_ hk, Kd.freshB (g := gb404) (o := .cells #[.int .i64 t395, .int .i64 t401, .slice Ao9 t397.length co9] 42 (0, 0)) (by (with_reducible repeat (first | refine bkN ?_ _ | refine bkd ?_ | refine bka ?_ _)); exact BK404.out) k_ hk, Kd.freshB (g := gb405) (o := .cells #[.int .i64 t395, .int .i64 (wrap64 (t401 + 1)), .slice Ao9 t397.length co9] 42 (0, 0)) (by (with_reducible repeat (first | refine bkN ?_ _ | refine bkd ?_ | refine bka ?_ _)); exact BK405.out) k_ hk⟩))
          (case aO => exact (by (with_reducible repeat (first | apply Kd.N_alloc | apply Kd.N_drewN | apply Kd.N_drew)); exact Kd.N_mono HO408.out (fun _ hk => ⟨hk.1.1, ⟨hk.2, ⟨hk.1.2.2.1, ⟨hk.1.2.2.2.1, hk.1.2.2.2.2⟩⟩⟩⟩)))
          (case aS => exact (qa1 (by repeat (first | (with_reducible first | exact HB.out | apply bwa | apply bwN | apply bw1 | refine bws ?_ GE400.out | refine bws ?_ GE404.out | refine bws ?_ GE405.out) | exact HB.out))))
          (case aL => have := LMc25.out; omega)
          intro v410 w43 ho hb hg hat
          rw [← Ny409.out] at ho
          have n0_ := Ad.mk (Kd.R_over' (by (with_reducible repeat (first | apply Kd.R_alloc | apply Kd.R_drewN | apply Kd.R_drew)); exact HO_3.out) (Kd.N_typed (by (with_reducible repeat (first | apply Kd.N_alloc | apply Kd.N_drewN | apply Kd.N_drew)); exact HO408.out)) (by decide) hg)
          have n1_ := Ad.mk (Kd.N_afterv (ok := (fun k_ => some k_ ≠ (.slice Ao12 t389.length co12 : Value).ownBlock ∧ some k_ ≠ (v413 : Value).ownBlock ∧ k_ ≠ gb400 ∧ k_ ≠ gb404 ∧ k_ ≠ gb405)) (by (with_reducible repeat (first | apply Kd.N_alloc | apply Kd.N_drewN | apply Kd.N_drew)); exact Kd.N_mono HO_4.out (fun _ hk => ⟨⟨hk.1.1.1, ⟨hk.2, ⟨hk.1.1.2.1, ⟨hk.1.1.2.2.1, hk.1.1.2.2.2⟩⟩⟩⟩, hk.1.2⟩)) hg hat)
          have n2_ := Ad.mk (Kd.V_afterv (ok := (fun k_ => some k_ ≠ (.slice Ao12 t389.length co12 : Value).ownBlock ∧ some k_ ≠ (.slice Ao13 t392.length co13 : Value).ownBlock ∧ some k_ ≠ (v413 : Value).ownBlock ∧ k_ ≠ gb400 ∧ k_ ≠ gb404 ∧ k_ ≠ gb405)) (by (with_reducible repeat (first | apply Kd.V_alloc | apply Kd.V_drewN | apply Kd.V_drew)); exact Kd.V_mono HO_401002.out (fun _ hk => ⟨⟨hk.1.1.1, ⟨hk.1.1.2.1, ⟨hk.2, ⟨hk.1.1.2.2.1, ⟨hk.1.1.2.2.2.1, hk.1.1.2.2.2.2⟩⟩⟩⟩⟩, hk.1.2⟩)) hg hat)
          have n3_ := Ad.mk (blk_grown (g := gb400) (o := .cells #[.int .i64 t395, .int .i64 t396, .slice Ao9 t397.length co9] 42 (0, 0)) (by (with_reducible repeat (first | refine bkN ?_ _ | refine bkd ?_ | refine bka ?_ _)); exact BK400.out) hg (Kd.N_away HO408.out (fun _ hk => hk.1.2.2.1)))
          have n4_ := Ad.mk (blk_grown (g := gb404) (o := .cells #[.int .i64 t395, .int .i64 t401, .slice Ao9 t397.length co9] 42 (0, 0)) (by (with_reducible repeat (first | refine bkN ?_ _ | refine bkd ?_ | refine bka ?_ _)); exact BK404.out) hg (Kd.N_away HO408.out (fun _ hk => hk.1.2.2.2.1)))
          have n5_ := Ad.mk (blk_grown (g := gb405) (o := .cells #[.int .i64 t395, .int .i64 (wrap64 (t401 + 1)), .slice Ao9 t397.length co9] 42 (0, 0)) (by (with_reducible repeat (first | refine bkN ?_ _ | refine bkd ?_ | refine bka ?_ _)); exact BK405.out) hg (Kd.N_away HO408.out (fun _ hk => hk.1.2.2.2.2)))
          have n6_ := Ad.mk (Kd.N_afterv (ok := (fun k_ => some k_ ≠ (.slice Ao12 t389.length co12 : Value).ownBlock ∧ some k_ ≠ (.slice Ao13 t392.length co13 : Value).ownBlock ∧ k_ ≠ gb400 ∧ k_ ≠ gb404 ∧ k_ ≠ gb405)) (by (with_reducible repeat (first | apply Kd.N_alloc | apply Kd.N_drewN | apply Kd.N_drew)); exact Kd.N_mono HO414.out (fun _ hk => ⟨⟨hk.1, ⟨hk.2.1, ⟨hk.2.2.2.1, ⟨hk.2.2.2.2.1, hk.2.2.2.2.2⟩⟩⟩⟩, hk.2.2.1⟩)) hg hat)
          have n7_ := Ad.mk (hb)
          have n8_ := Ad.mk (ho)
          clear HO_3
          clear HO_4
          clear HO_401002
          clear BK400
          clear BK404
          clear BK405
          clear HO414
          clear HB
          clear HO408
          have HO_3 := n0_
          have HO_4 := n1_
          have HO_401002 := n2_
          have BK400 := n3_
          have BK404 := n4_
          have BK405 := n5_
          have HO414 := n6_
          have HB := n7_
          have HO411 := n8_
          clear n0_ n1_ n2_ n3_ n4_ n5_ n6_ n7_ n8_
          clear ho hb hg hat
          refine hK.out _ _ ⟨(bkc BK404.out 0).trans rfl, (bkc BK404.out 1).trans rfl, (bkc BK404.out 2).trans rfl⟩ (fun hHeld => ?_)
          clear hK K
          refine norm_ (a' := ?_) ?_ ?_
          rotate_left
          ·show Act.put _ (some 55) _ = _
           simp only [Act.put, List.setIfInBounds_toArray, List.set_cons_zero, List.set_cons_succ, qa8, qa9]
           rfl
          exact norm_ (by simp only [putAll, Act.put, List.setIfInBounds_toArray, List.set_cons_zero, List.set_cons_succ]) (hCont (v407, v410, v413) _ ⟨hHeld, (by (with_reducible repeat (first | apply Kd.N_alloc | apply Kd.N_drewN | apply Kd.N_drew)); exact Kd.N_mono HO411.out (fun _ hk => ⟨hk.2.1, ⟨hk.1, ⟨hk.2.2.1, ⟨hk.2.2.2.1, hk.2.2.2.2⟩⟩⟩⟩)), (by (with_reducible repeat (first | apply Kd.N_alloc | apply Kd.N_drewN | apply Kd.N_drew)); exact Kd.N_mono HO414.out (fun _ hk => ⟨hk.2, ⟨hk.1.1, ⟨hk.1.2.1, ⟨hk.1.2.2.1, ⟨hk.1.2.2.2.1, hk.1.2.2.2.2⟩⟩⟩⟩⟩)), (by (with_reducible repeat (first | apply Kd.R_alloc | apply Kd.R_drewN | apply Kd.R_drew)); exact HO_3.out), (by (with_reducible repeat (first | apply Kd.N_alloc | apply Kd.N_drewN | apply Kd.N_drew)); exact Kd.N_mono HO_4.out (fun _ hk => ⟨hk.2, ⟨hk.1.2.1, ⟨hk.1.1, ⟨hk.1.2.2.1, ⟨hk.1.2.2.2.1, hk.1.2.2.2.2⟩⟩⟩⟩⟩)), (by (with_reducible repeat (first | apply Kd.V_alloc | apply Kd.V_drewN | apply Kd.V_drew)); exact Kd.V_mono HO_401002.out (fun _ hk => ⟨hk.2, ⟨hk.1.2.2.1, ⟨hk.1.1, ⟨hk.1.2.1, ⟨hk.1.2.2.2.1, ⟨hk.1.2.2.2.2.1, hk.1.2.2.2.2.2⟩⟩⟩⟩⟩⟩)), (by (with_reducible repeat (first | refine bkN ?_ _ | refine bkd ?_ | refine bka ?_ _)); exact BK400.out), (by (with_reducible repeat (first | refine bkN ?_ _ | refine bkd ?_ | refine bka ?_ _)); exact BK404.out), (by (with_reducible repeat (first | refine bkN ?_ _ | refine bkd ?_ | refine bka ?_ _)); exact BK405.out), (by repeat (first | (with_reducible first | exact HB.out | apply bwa | apply bwN | apply bw1 | refine bws ?_ GE400.out | refine bws ?_ GE404.out | refine bws ?_ GE405.out) | exact HB.out))⟩)
        ·skip
         refine Kd.N_lit_step k42 _ 42 ?hg (N' := 57) ?hd (xs := ([(⟨t395, t401, t397⟩ : S42)] : List (S42))) (inner := [.int .i64 t395, .int .i64 t401, .slice Ao9 t397.length co9]) (ok := (fun k_ => some k_ ≠ (.slice Ao12 t389.length co12 : Value).ownBlock ∧ some k_ ≠ (.slice Ao13 t392.length co13 : Value).ownBlock ∧ k_ ≠ gb400 ∧ k_ ≠ gb404 ∧ k_ ≠ gb405)) (okp := (fun k_ => some k_ ≠ (.slice Ao12 t389.length co12 : Value).ownBlock ∧ some k_ ≠ (.slice Ao13 t392.length co13 : Value).ownBlock ∧ k_ ≠ gb400 ∧ k_ ≠ gb404 ∧ k_ ≠ gb405)) ?hr ?hp (fun _ hk => hk) ((show ∀ k_, w38.heap.size ≤ k_ → (fun k_ => some k_ ≠ (.slice Ao12 t389.length co12 : Value).ownBlock ∧ some k_ ≠ (.slice Ao13 t392.length co13 : Value).ownBlock ∧ k_ ≠ gb400 ∧ k_ ≠ gb404 ∧ k_ ≠ gb405) k_ from fun k_ hk => ⟨Kd.fresh' (Kd.R_lt (by (with_reducible repeat (first | apply Kd.R_alloc | apply Kd.R_drewN | apply Kd.R_drew)); exact HO_3.out)) k_ hk, Kd.fresh' (Kd.N_lt (by (with_reducible repeat (first | apply Kd.N_alloc | apply Kd.N_drewN | apply Kd.N_drew)); exact HO_4.out)) k_ hk, Kd.freshB (g := gb400) (o := .cells #[.int .i64 t395, .int .i64 t396, .slice Ao9 t397.length co9] 42 (0, 0)) (by (with_reducible repeat (first | refine bkN ?_ _ | refine bkd ?_ | refine bka ?_ _)); exact BK400.out) k_ hk, Kd.freshB (g := gb404) (o := .cells #[.int .i64 t395, .int .i64 t401, .slice Ao9 t397.length co9] 42 (0, 0)) (by (with_reducible repeat (first | refine bkN ?_ _ | refine bkd ?_ | refine bka ?_ _)); exact BK404.out) k_ hk, Kd.freshB (g := gb405) (o := .cells #[.int .i64 t395, .int .i64 (wrap64 (t401 + 1)), .slice Ao9 t397.length co9] 42 (0, 0)) (by (with_reducible repeat (first | refine bkN ?_ _ | refine bkd ?_ | refine bka ?_ _)); exact BK405.out) k_ hk⟩) _ (Nat.le_refl _)) (Below.refl _ _) (Nat.le_refl _) (by simp) ?_; (case hd => rfl); (case hg => rfl); (case hr => first | (go_simp; done) | (go_simp; rfl)); (case hp => exact (Reps.c3 (show Kd.FK k42 _ _ (⟨t395, t401, t397⟩ : S42) [.int .i64 t395, .int .i64 t401, .slice Ao9 t397.length co9] from (k42_mkF _ _ (⟨t395, t401, t397⟩ : S42) (Kd.V_reads' (have z_ := HO_401002.out; Kd.V_mono (ok' := (fun k_ => some k_ ≠ (.slice Ao12 t389.length co12 : Value).ownBlock ∧ some k_ ≠ (.slice Ao13 t392.length co13 : Value).ownBlock ∧ k_ ≠ gb400 ∧ k_ ≠ gb404 ∧ k_ ≠ gb405)) z_ (fun k_ hk => ⟨hk.1, ⟨hk.2.1, ⟨hk.2.2.1, ⟨hk.2.2.2.1, hk.2.2.2.2⟩⟩⟩⟩))).2.1 (Kd.V_F (have z_ := HO_401002.out; Kd.V_mono (ok' := (fun k_ => some k_ ≠ (.slice Ao12 t389.length co12 : Value).ownBlock ∧ some k_ ≠ (.slice Ao13 t392.length co13 : Value).ownBlock ∧ k_ ≠ gb400 ∧ k_ ≠ gb404 ∧ k_ ≠ gb405)) z_ (fun k_ hk => ⟨hk.1, ⟨hk.2.1, ⟨hk.2.2.1, ⟨hk.2.2.2.1, hk.2.2.2.2⟩⟩⟩⟩))))) (Reps.none _ _)))
         intro v413 w39 ho40 hb hg_ hnew_
         clear hg_ hnew_
         (first | rw [← Ny412.out] at ho40 | (simp only [Int.reduceToNat] at ho40; rw [← Ny412.out] at ho40))
         have n0_ := Ad.mk (Kd.R_below (by (with_reducible repeat (first | apply Kd.R_alloc | apply Kd.R_drewN | apply Kd.R_drew)); exact HO_3.out) hb)
         have n1_ := Ad.mk (Kd.N_elder' (by (with_reducible repeat (first | apply Kd.N_alloc | apply Kd.N_drewN | apply Kd.N_drew)); exact HO_4.out) (Kd.N_base ho40) hb)
         have n2_ := Ad.mk (Kd.V_elder' (by (with_reducible repeat (first | apply Kd.V_alloc | apply Kd.V_drewN | apply Kd.V_drew)); exact HO_401002.out) (Kd.N_base ho40) hb)
         have n3_ := Ad.mk (Kd.N_lower ho40 (qa1 (by repeat (first | (with_reducible first | exact HB.out | apply bwa | apply bwN | apply bw1 | refine bws ?_ GE400.out | refine bws ?_ GE404.out | refine bws ?_ GE405.out) | exact HB.out))))
         have n4_ := Ad.mk (qa6 (g := gb400) (o := .cells #[.int .i64 t395, .int .i64 t396, .slice Ao9 t397.length co9] 42 (0, 0)) (by (with_reducible repeat (first | refine bkN ?_ _ | refine bkd ?_ | refine bka ?_ _)); exact BK400.out) hb)
         have n5_ := Ad.mk (qa6 (g := gb404) (o := .cells #[.int .i64 t395, .int .i64 t401, .slice Ao9 t397.length co9] 42 (0, 0)) (by (with_reducible repeat (first | refine bkN ?_ _ | refine bkd ?_ | refine bka ?_ _)); exact BK404.out) hb)
         have n6_ := Ad.mk (qa6 (g := gb405) (o := .cells #[.int .i64 t395, .int .i64 (wrap64 (t401 + 1)), .slice Ao9 t397.length co9] 42 (0, 0)) (by (with_reducible repeat (first | refine bkN ?_ _ | refine bkd ?_ | refine bka ?_ _)); exact BK405.out) hb)
         have n7_ := Ad.mk (qa5 (by repeat (first | (with_reducible first | exact HB.out | apply bwa | apply bwN | apply bw1 | refine bws ?_ GE400.out | refine bws ?_ GE404.out | refine bws ?_ GE405.out) | exact HB.out)) hb)
         clear HO_3
         clear HO_4
         clear HO_401002
         clear BK400
         clear BK404
         clear BK405
         clear HB
         have HO_3 := n0_
         have HO_4 := n1_
         have HO_401002 := n2_
         have HO414 := n3_
         have BK400 := n4_
         have BK404 := n5_
         have BK405 := n6_
         have HB := n7_
         clear n0_ n1_ n2_ n3_ n4_ n5_ n6_ n7_
         clear hb ho40
         refine hK.out _ _ ⟨(bkc BK404.out 0).trans rfl, (bkc BK404.out 1).trans rfl, (bkc BK404.out 2).trans rfl⟩ (fun hHeld => ?_)
         clear hK K
         refine norm_ (a' := ?_) ?_ ?_
         rotate_left
         ·show Act.put _ (some 57) _ = _
          simp only [Act.put, List.setIfInBounds_toArray, List.set_cons_zero, List.set_cons_succ, qa8, qa9]
          rfl
         refine one_ (i := 0) (N := some 53) #[true, true, false, true, true, false, false] rfl rfl (by kernel_rfl) (by decide) (fun K hK => ?_)
         refine Kd.N_lit_step k42 _ 42 ?hg (N' := 53) ?hd (xs := ([] : List (S42))) (inner := []) (ok := (fun k_ => some k_ ≠ (.slice Ao12 t389.length co12 : Value).ownBlock ∧ some k_ ≠ (.slice Ao13 t392.length co13 : Value).ownBlock ∧ some k_ ≠ (v413 : Value).ownBlock ∧ k_ ≠ gb400 ∧ k_ ≠ gb404 ∧ k_ ≠ gb405)) (okp := (fun k_ => some k_ ≠ (.slice Ao12 t389.length co12 : Value).ownBlock ∧ some k_ ≠ (.slice Ao13 t392.length co13 : Value).ownBlock ∧ some k_ ≠ (v413 : Value).ownBlock ∧ k_ ≠ gb400 ∧ k_ ≠ gb404 ∧ k_ ≠ gb405)) ?hr ?hp (fun _ hk => hk) ((show ∀ k_, w39.heap.size ≤ k_ → (fun k_ => some k_ ≠ (.slice Ao12 t389.length co12 : Value).ownBlock ∧ some k_ ≠ (.slice Ao13 t392.length co13 : Value).ownBlock ∧ some k_ ≠ (v413 : Value).ownBlock ∧ k_ ≠ gb400 ∧ k_ ≠ gb404 ∧ k_ ≠ gb405) k_ from fun k_ hk => ⟨Kd.fresh' (Kd.R_lt (by (with_reducible repeat (first | apply Kd.R_alloc | apply Kd.R_drewN | apply Kd.R_drew)); exact HO_3.out)) k_ hk, Kd.fresh' (Kd.N_lt (by (with_reducible repeat (first | apply Kd.N_alloc | apply Kd.N_drewN | apply Kd.N_drew)); exact HO_4.out)) k_ hk, Kd.fresh' (Kd.N_lt (by (with_reducible repeat (first | apply Kd.N_alloc | apply Kd.N_drewN | apply Kd.N_drew)); exact HO414.out)) k_ hk, Kd.freshB (g := gb400) (o := .cells #[.int .i64 t395, .int .i64 t396, .slice Ao9 t397.length co9] 42 (0, 0)) (by (with_reducible repeat (first | refine bkN ?_ _ | refine bkd ?_ | refine bka ?_ _)); exact BK400.out) k_ hk, Kd.freshB (g := gb404) (o := .cells #[.int .i64 t395, .int .i64 t401, .slice Ao9 t397.length co9] 42 (0, 0)) (by (with_reducible repeat (first | refine bkN ?_ _ | refine bkd ?_ | refine bka ?_ _)); exact BK404.out) k_ hk, Kd.freshB (g := gb405) (o := .cells #[.int .i64 t395, .int .i64 (wrap64 (t401 + 1)), .slice Ao9 t397.length co9] 42 (0, 0)) (by (with_reducible repeat (first | refine bkN ?_ _ | refine bkd ?_ | refine bka ?_ _)); exact BK405.out) k_ hk⟩) _ (Nat.le_refl _)) (Below.refl _ _) (Nat.le_refl _) (by simp) ?_; (case hd => rfl); (case hg => rfl); (case hr => first | (go_simp; done) | (go_simp; rfl)); (case hp => exact (Reps.none _ _))
         intro v407 w41 ho42 hb hg_ hnew_
         clear hg_ hnew_
         (first | rw [← Ny406.out] at ho42 | (simp only [Int.reduceToNat] at ho42; rw [← Ny406.out] at ho42))
         have n0_ := Ad.mk (Kd.R_below (by (with_reducible repeat (first | apply Kd.R_alloc | apply Kd.R_drewN | apply Kd.R_drew)); exact HO_3.out) hb)
         have n1_ := Ad.mk (Kd.N_elder' (by (with_reducible repeat (first | apply Kd.N_alloc | apply Kd.N_drewN | apply Kd.N_drew)); exact HO_4.out) (Kd.N_base ho42) hb)
         have n2_ := Ad.mk (Kd.V_elder' (by (with_reducible repeat (first | apply Kd.V_alloc | apply Kd.V_drewN | apply Kd.V_drew)); exact HO_401002.out) (Kd.N_base ho42) hb)
         have n3_ := Ad.mk (Kd.N_elder' (by (with_reducible repeat (first | apply Kd.N_alloc | apply Kd.N_drewN | apply Kd.N_drew)); exact HO414.out) (Kd.N_base ho42) hb)
         have n4_ := Ad.mk (Kd.N_lower ho42 (qa1 (by repeat (first | (with_reducible first | exact HB.out | apply bwa | apply bwN | apply bw1 | refine bws ?_ GE400.out | refine bws ?_ GE404.out | refine bws ?_ GE405.out) | exact HB.out))))
         have n5_ := Ad.mk (qa6 (g := gb400) (o := .cells #[.int .i64 t395, .int .i64 t396, .slice Ao9 t397.length co9] 42 (0, 0)) (by (with_reducible repeat (first | refine bkN ?_ _ | refine bkd ?_ | refine bka ?_ _)); exact BK400.out) hb)
         have n6_ := Ad.mk (qa6 (g := gb404) (o := .cells #[.int .i64 t395, .int .i64 t401, .slice Ao9 t397.length co9] 42 (0, 0)) (by (with_reducible repeat (first | refine bkN ?_ _ | refine bkd ?_ | refine bka ?_ _)); exact BK404.out) hb)
         have n7_ := Ad.mk (qa6 (g := gb405) (o := .cells #[.int .i64 t395, .int .i64 (wrap64 (t401 + 1)), .slice Ao9 t397.length co9] 42 (0, 0)) (by (with_reducible repeat (first | refine bkN ?_ _ | refine bkd ?_ | refine bka ?_ _)); exact BK405.out) hb)
         have n8_ := Ad.mk (qa5 (by repeat (first | (with_reducible first | exact HB.out | apply bwa | apply bwN | apply bw1 | refine bws ?_ GE400.out | refine bws ?_ GE404.out | refine bws ?_ GE405.out) | exact HB.out)) hb)
         clear HO_3
         clear HO_4
         clear HO_401002
         clear HO414
         clear BK400
         clear BK404
         clear BK405
         clear HB
         have HO_3 := n0_
         have HO_4 := n1_
         have HO_401002 := n2_
         have HO414 := n3_
         have HO408 := n4_
         have BK400 := n5_
         have BK404 := n6_
         have BK405 := n7_
         have HB := n8_
         clear n0_ n1_ n2_ n3_ n4_ n5_ n6_ n7_ n8_
         clear hb ho42
         refine hK.out _ _ ⟨(bkc BK404.out 0).trans rfl, (bkc BK404.out 1).trans rfl, (bkc BK404.out 2).trans rfl⟩ (fun hHeld => ?_)
         clear hK K
         refine norm_ (a' := ?_) ?_ ?_
         rotate_left
         ·show Act.put _ (some 53) _ = _
          simp only [Act.put, List.setIfInBounds_toArray, List.set_cons_zero, List.set_cons_succ, qa8, qa9]
          rfl
         refine one_ (i := 2) (N := some 55) #[true, true, true, true, true, false, false] rfl rfl (by kernel_rfl) (by decide) (fun K hK => ?_)
         refine Kd.N_append_rows_step k42 (w0 := w) w.heap.size (by rfl) (.tmp 53) (.tmp 54) 34 42 (.agg #[(.int .i64 0), (.int .i64 0), (.slice none 0 0)]) 40 rfl Try.underlying34 info42 rfl (by decide) (by omega) v407 y406 t392 _ _ _ (fun k_ => some k_ ≠ (.slice Ao12 t389.length co12 : Value).ownBlock ∧ some k_ ≠ (v413 : Value).ownBlock ∧ k_ ≠ gb400 ∧ k_ ≠ gb404 ∧ k_ ≠ gb405) (fun k_ => ((fun k_ => some k_ ≠ (.slice Ao12 t389.length co12 : Value).ownBlock ∧ some k_ ≠ (v413 : Value).ownBlock ∧ k_ ≠ gb400 ∧ k_ ≠ gb404 ∧ k_ ≠ gb405)) k_ ∧ some k_ ≠ (v407 : Value).ownBlock) rfl rfl ?aO ?aR (fun _ hk => hk) ?aF ?aB ?aS ?aL ?_
         (case aR => exact (by skip; exact Kd.N_F (Kd.N_mono (ok' := (fun k_ => ((fun k_ => some k_ ≠ (.slice Ao12 t389.length co12 : Value).ownBlock ∧ some k_ ≠ (v413 : Value).ownBlock ∧ k_ ≠ gb400 ∧ k_ ≠ gb404 ∧ k_ ≠ gb405)) k_ ∧ some k_ ≠ (v407 : Value).ownBlock)) (HO_4.out) (fun k_ hk => ⟨⟨hk.1.1.1, ⟨hk.1.2, ⟨hk.1.1.2.1, ⟨hk.1.1.2.2.1, hk.1.1.2.2.2⟩⟩⟩⟩, hk.2⟩))))
         (case aB => exact (by repeat (first | (with_reducible first | exact HB.out | apply bwa | apply bwN | apply bw1 | refine bws ?_ GE400.out | refine bws ?_ GE404.out | refine bws ?_ GE405.out) | exact HB.out)))
         (case aF => exact (fun k_ hk => ⟨Kd.fresh' (Kd.R_lt (by (with_reducible repeat (first | apply Kd.R_alloc | apply Kd.R_drewN | apply Kd.R_drew)); exact HO_3.out)) k_ hk, Kd.fresh' (Kd.N_lt (by (with_reducible repeat (first | apply Kd.N_alloc | apply Kd.N_drewN | apply Kd.N_drew)); exact HO414.out)) k_ hk, Kd.freshB (g := gb400) (o := .cells #[.int .i64 t395, .int .i64 t396, .slice Ao9 t397.length co9] 42 (0, 0)) (by (with_reducible repeat (first | refine bkN ?_ _ | refine bkd ?_ | refine bka ?_ _)); exact BK400.out) k_ hk, Kd.freshB (g := gb404) (o := .cells #[.int .i64 t395, .int .i64 t401, .slice Ao9 t397.length co9] 42 (0, 0)) (by (with_reducible repeat (first | refine bkN ?_ _ | refine bkd ?_ | refine bka ?_ _)); exact BK404.out) k_ hk, Kd.freshB (g := gb405) (o := .cells #[.int .i64 t395, .int .i64 (wrap64 (t401 + 1)), .slice Ao9 t397.length co9] 42 (0, 0)) (by (with_reducible repeat (first | refine bkN ?_ _ | refine bkd ?_ | refine bka ?_ _)); exact BK405.out) k_ hk⟩))
         (case aO => exact (by (with_reducible repeat (first | apply Kd.N_alloc | apply Kd.N_drewN | apply Kd.N_drew)); exact Kd.N_mono HO408.out (fun _ hk => ⟨hk.1, ⟨hk.2.2.1, ⟨hk.2.2.2.1, ⟨hk.2.2.2.2.1, hk.2.2.2.2.2⟩⟩⟩⟩)))
         (case aS => exact (qa1 (by repeat (first | (with_reducible first | exact HB.out | apply bwa | apply bwN | apply bw1 | refine bws ?_ GE400.out | refine bws ?_ GE404.out | refine bws ?_ GE405.out) | exact HB.out))))
         (case aL => have := LMc25.out; omega)
         intro v410 w43 ho hb hg hat
         rw [← Ny409.out] at ho
         have n0_ := Ad.mk (Kd.R_over' (by (with_reducible repeat (first | apply Kd.R_alloc | apply Kd.R_drewN | apply Kd.R_drew)); exact HO_3.out) (Kd.N_typed (by (with_reducible repeat (first | apply Kd.N_alloc | apply Kd.N_drewN | apply Kd.N_drew)); exact HO408.out)) (by decide) hg)
         have n1_ := Ad.mk (Kd.N_afterv (ok := (fun k_ => some k_ ≠ (.slice Ao12 t389.length co12 : Value).ownBlock ∧ some k_ ≠ (v413 : Value).ownBlock ∧ k_ ≠ gb400 ∧ k_ ≠ gb404 ∧ k_ ≠ gb405)) (by (with_reducible repeat (first | apply Kd.N_alloc | apply Kd.N_drewN | apply Kd.N_drew)); exact Kd.N_mono HO_4.out (fun _ hk => ⟨⟨hk.1.1.1, ⟨hk.1.2, ⟨hk.1.1.2.1, ⟨hk.1.1.2.2.1, hk.1.1.2.2.2⟩⟩⟩⟩, hk.2⟩)) hg hat)
         have n2_ := Ad.mk (Kd.V_afterv (ok := (fun k_ => some k_ ≠ (.slice Ao12 t389.length co12 : Value).ownBlock ∧ some k_ ≠ (.slice Ao13 t392.length co13 : Value).ownBlock ∧ some k_ ≠ (v413 : Value).ownBlock ∧ k_ ≠ gb400 ∧ k_ ≠ gb404 ∧ k_ ≠ gb405)) (by (with_reducible repeat (first | apply Kd.V_alloc | apply Kd.V_drewN | apply Kd.V_drew)); exact Kd.V_mono HO_401002.out (fun _ hk => ⟨⟨hk.1.1.1, ⟨hk.1.1.2.1, ⟨hk.1.2, ⟨hk.1.1.2.2.1, ⟨hk.1.1.2.2.2.1, hk.1.1.2.2.2.2⟩⟩⟩⟩⟩, hk.2⟩)) hg hat)
         have n3_ := Ad.mk (blk_grown (g := gb400) (o := .cells #[.int .i64 t395, .int .i64 t396, .slice Ao9 t397.length co9] 42 (0, 0)) (by (with_reducible repeat (first | refine bkN ?_ _ | refine bkd ?_ | refine bka ?_ _)); exact BK400.out) hg (Kd.N_away HO408.out (fun _ hk => hk.2.2.2.1)))
         have n4_ := Ad.mk (blk_grown (g := gb404) (o := .cells #[.int .i64 t395, .int .i64 t401, .slice Ao9 t397.length co9] 42 (0, 0)) (by (with_reducible repeat (first | refine bkN ?_ _ | refine bkd ?_ | refine bka ?_ _)); exact BK404.out) hg (Kd.N_away HO408.out (fun _ hk => hk.2.2.2.2.1)))
         have n5_ := Ad.mk (blk_grown (g := gb405) (o := .cells #[.int .i64 t395, .int .i64 (wrap64 (t401 + 1)), .slice Ao9 t397.length co9] 42 (0, 0)) (by (with_reducible repeat (first | refine bkN ?_ _ | refine bkd ?_ | refine bka ?_ _)); exact BK405.out) hg (Kd.N_away HO408.out (fun _ hk => hk.2.2.2.2.2)))
         have n6_ := Ad.mk (Kd.N_afterv (ok := (fun k_ => some k_ ≠ (.slice Ao12 t389.length co12 : Value).ownBlock ∧ some k_ ≠ (.slice Ao13 t392.length co13 : Value).ownBlock ∧ k_ ≠ gb400 ∧ k_ ≠ gb404 ∧ k_ ≠ gb405)) (by (with_reducible repeat (first | apply Kd.N_alloc | apply Kd.N_drewN | apply Kd.N_drew)); exact HO414.out) hg hat)
         have n7_ := Ad.mk (hb)
         have n8_ := Ad.mk (ho)
         clear HO_3
         clear HO_4
         clear HO_401002
         clear BK400
         clear BK404
         clear BK405
         clear HO414
         clear HB
         clear HO408
         have HO_3 := n0_
         have HO_4 := n1_
         have HO_401002 := n2_
         have BK400 := n3_
         have BK404 := n4_
         have BK405 := n5_
         have HO414 := n6_
         have HB := n7_
         have HO411 := n8_
         clear n0_ n1_ n2_ n3_ n4_ n5_ n6_ n7_ n8_
         clear ho hb hg hat
         refine hK.out _ _ ⟨(bkc BK404.out 0).trans rfl, (bkc BK404.out 1).trans rfl, (bkc BK404.out 2).trans rfl⟩ (fun hHeld => ?_)
         clear hK K
         refine norm_ (a' := ?_) ?_ ?_
         rotate_left
         ·show Act.put _ (some 55) _ = _
          simp only [Act.put, List.setIfInBounds_toArray, List.set_cons_zero, List.set_cons_succ, qa8, qa9]
          rfl
         exact norm_ (by simp only [putAll, Act.put, List.setIfInBounds_toArray, List.set_cons_zero, List.set_cons_succ]) (hCont (v407, v410, v413) _ ⟨hHeld, (by (with_reducible repeat (first | apply Kd.N_alloc | apply Kd.N_drewN | apply Kd.N_drew)); exact Kd.N_mono HO411.out (fun _ hk => ⟨hk.2.1, ⟨hk.1, ⟨hk.2.2.1, ⟨hk.2.2.2.1, hk.2.2.2.2⟩⟩⟩⟩)), (by (with_reducible repeat (first | apply Kd.N_alloc | apply Kd.N_drewN | apply Kd.N_drew)); exact Kd.N_mono HO414.out (fun _ hk => ⟨hk.2, ⟨hk.1.1, ⟨hk.1.2.1, ⟨hk.1.2.2.1, ⟨hk.1.2.2.2.1, hk.1.2.2.2.2⟩⟩⟩⟩⟩)), (by (with_reducible repeat (first | apply Kd.R_alloc | apply Kd.R_drewN | apply Kd.R_drew)); exact HO_3.out), (by (with_reducible repeat (first | apply Kd.N_alloc | apply Kd.N_drewN | apply Kd.N_drew)); exact Kd.N_mono HO_4.out (fun _ hk => ⟨hk.2, ⟨hk.1.2.1, ⟨hk.1.1, ⟨hk.1.2.2.1, ⟨hk.1.2.2.2.1, hk.1.2.2.2.2⟩⟩⟩⟩⟩)), (by (with_reducible repeat (first | apply Kd.V_alloc | apply Kd.V_drewN | apply Kd.V_drew)); exact Kd.V_mono HO_401002.out (fun _ hk => ⟨hk.2, ⟨hk.1.2.2.1, ⟨hk.1.1, ⟨hk.1.2.1, ⟨hk.1.2.2.2.1, ⟨hk.1.2.2.2.2.1, hk.1.2.2.2.2.2⟩⟩⟩⟩⟩⟩)), (by (with_reducible repeat (first | refine bkN ?_ _ | refine bkd ?_ | refine bka ?_ _)); exact BK400.out), (by (with_reducible repeat (first | refine bkN ?_ _ | refine bkd ?_ | refine bka ?_ _)); exact BK404.out), (by (with_reducible repeat (first | refine bkN ?_ _ | refine bkd ?_ | refine bka ?_ _)); exact BK405.out), (by repeat (first | (with_reducible first | exact HB.out | apply bwa | apply bwN | apply bw1 | refine bws ?_ GE400.out | refine bws ?_ GE404.out | refine bws ?_ GE405.out) | exact HB.out))⟩)
       rintro ⟨v407, v410, v413⟩ w44 ⟨hS_, h0_, h1_, h2_, h3_, h4_, h5_, h6_, h7_, h8_⟩
       have n0_ : Ad (Kd.N k42 42 w44 w.heap.size (fun k_ => some k_ ≠ (v413 : Value).ownBlock ∧ some k_ ≠ (.slice Ao12 t389.length co12 : Value).ownBlock ∧ k_ ≠ gb400 ∧ k_ ≠ gb404 ∧ k_ ≠ gb405) v410 y409) := ⟨h0_⟩
       have n1_ : Ad (Kd.N k42 42 w44 w.heap.size (fun k_ => some k_ ≠ (v410 : Value).ownBlock ∧ some k_ ≠ (.slice Ao12 t389.length co12 : Value).ownBlock ∧ some k_ ≠ (.slice Ao13 t392.length co13 : Value).ownBlock ∧ k_ ≠ gb400 ∧ k_ ≠ gb404 ∧ k_ ≠ gb405) v413 y412) := ⟨h1_⟩
       have n2_ : Ad (Kd.R (Kd.int .i64) 3 w44 w.heap.size (fun _ => True) (.slice Ao12 t389.length co12) t389) := ⟨h2_⟩
       have n3_ : Ad (Kd.N k42 42 w44 w.heap.size (fun k_ => some k_ ≠ (v410 : Value).ownBlock ∧ some k_ ≠ (v413 : Value).ownBlock ∧ some k_ ≠ (.slice Ao12 t389.length co12 : Value).ownBlock ∧ k_ ≠ gb400 ∧ k_ ≠ gb404 ∧ k_ ≠ gb405) (.slice Ao13 t392.length co13) t392) := ⟨h3_⟩
       have n4_ : Ad (Kd.V (Kd.int .i64) 3 w44 w.heap.size (fun k_ => some k_ ≠ (v410 : Value).ownBlock ∧ some k_ ≠ (v413 : Value).ownBlock ∧ some k_ ≠ (.slice Ao12 t389.length co12 : Value).ownBlock ∧ some k_ ≠ (.slice Ao13 t392.length co13 : Value).ownBlock ∧ k_ ≠ gb400 ∧ k_ ≠ gb404 ∧ k_ ≠ gb405) (.slice Ao9 t397.length co9) t397) := ⟨h4_⟩
       have n5_ : Ad (w44.heap[gb400]? = some (.cells #[.int .i64 t395, .int .i64 t396, .slice Ao9 t397.length co9] 42 (0, 0))) := ⟨h5_⟩
       have n6_ : Ad (w44.heap[gb404]? = some (.cells #[.int .i64 t395, .int .i64 t401, .slice Ao9 t397.length co9] 42 (0, 0))) := ⟨h6_⟩
       have n7_ : Ad (w44.heap[gb405]? = some (.cells #[.int .i64 t395, .int .i64 (wrap64 (t401 + 1)), .slice Ao9 t397.length co9] 42 (0, 0))) := ⟨h7_⟩
       have n8_ : Ad (Below w.heap.size w w44) := ⟨h8_⟩
       clear HO_3
       clear HO_4
       clear HO_401002
       clear BK400
       clear BK404
       clear BK405
       clear HB
       clear h0_ h1_ h2_ h3_ h4_ h5_ h6_ h7_ h8_
       have HO411 := n0_
       have HO414 := n1_
       have HO_3 := n2_
       have HO_4 := n3_
       have HO_401002 := n4_
       have BK400 := n5_
       have BK404 := n6_
       have BK405 := n7_
       have HB := n8_
       clear n0_ n1_ n2_ n3_ n4_ n5_ n6_ n7_ n8_
       have hHeld : w44.cell? ⟨gb404, 0, none⟩ = some (.int .i64 t395) ∧ w44.cell? ⟨gb404, 1, none⟩ = some (.int .i64 t401) ∧ w44.cell? ⟨gb404, 2, none⟩ = some (.slice Ao9 t397.length co9) := hS_
       obtain ⟨Ao46, co46, eo46⟩ := Kd.N_slice HO414.out
       (first | subst eo46 | (injection eo46 with f1_ f2_ f3_; have f4_ := f1_.symm; have f5_ := f3_.symm; clear f1_ f2_ f3_; subst f4_; subst f5_))
       refine norm_ (a' := ?_) ?_ ?_
       rotate_left
       ·simp only [putAll, Act.put, List.setIfInBounds_toArray, List.set_cons_zero, List.set_cons_succ]
        rfl
       refine one_ (i := 5) (N := some 58) #[true, true, true, true, true, true, false] rfl rfl (by kernel_rfl) (by decide) (fun K hK => ?_)
       refine Kd.N_append_rows_step k42 (w0 := w) w.heap.size (by rfl) (.tmp 55) (.tmp 57) 34 42 (.agg #[(.int .i64 0), (.int .i64 0), (.slice none 0 0)]) 40 rfl Try.underlying34 info42 rfl (by decide) (by omega) v410 y409 y412 _ _ _ (fun k_ => some k_ ≠ (.slice Ao12 t389.length co12 : Value).ownBlock ∧ k_ ≠ gb400 ∧ k_ ≠ gb404 ∧ k_ ≠ gb405) (fun k_ => ((fun k_ => some k_ ≠ (.slice Ao12 t389.length co12 : Value).ownBlock ∧ k_ ≠ gb400 ∧ k_ ≠ gb404 ∧ k_ ≠ gb405)) k_ ∧ some k_ ≠ (v410 : Value).ownBlock) rfl rfl ?aO ?aR (fun _ hk => hk) ?aF ?aB ?aS ?aL ?_
       (case aR => exact (by skip; exact Kd.N_F (Kd.N_mono (ok' := (fun k_ => ((fun k_ => some k_ ≠ (.slice Ao12 t389.length co12 : Value).ownBlock ∧ k_ ≠ gb400 ∧ k_ ≠ gb404 ∧ k_ ≠ gb405)) k_ ∧ some k_ ≠ (v410 : Value).ownBlock)) (HO414.out) (fun k_ hk => ⟨⟨hk.2.1, ⟨hk.2.2.2.1, ⟨hk.2.2.2.2.1, hk.2.2.2.2.2⟩⟩⟩, hk.1⟩))))
       (case aB => exact (by repeat (first | (with_reducible first | exact HB.out | apply bwa | apply bwN | apply bw1 | refine bws ?_ GE400.out | refine bws ?_ GE404.out | refine bws ?_ GE405.out) | exact HB.out)))
       (case aF => exact (fun k_ hk => ⟨Kd.fresh' (Kd.R_lt (by (with_reducible repeat (first | apply Kd.R_alloc | apply Kd.R_drewN | apply Kd.R_drew)); exact HO_3.out)) k_ hk, Kd.freshB (g := gb400) (o := .cells #[.int .i64 t395, .int .i64 t396, .slice Ao9 t397.length co9] 42 (0, 0)) (by (with_reducible repeat (first | refine bkN ?_ _ | refine bkd ?_ | refine bka ?_ _)); exact BK400.out) k_ hk, Kd.freshB (g := gb404) (o := .cells #[.int .i64 t395, .int .i64 t401, .slice Ao9 t397.length co9] 42 (0, 0)) (by (with_reducible repeat (first | refine bkN ?_ _ | refine bkd ?_ | refine bka ?_ _)); exact BK404.out) k_ hk, Kd.freshB (g := gb405) (o := .cells #[.int .i64 t395, .int .i64 (wrap64 (t401 + 1)), .slice Ao9 t397.length co9] 42 (0, 0)) (by (with_reducible repeat (first | refine bkN ?_ _ | refine bkd ?_ | refine bka ?_ _)); exact BK405.out) k_ hk⟩))
       (case aO => exact (by (with_reducible repeat (first | apply Kd.N_alloc | apply Kd.N_drewN | apply Kd.N_drew)); exact Kd.N_mono HO411.out (fun _ hk => ⟨hk.2.1, ⟨hk.2.2.1, ⟨hk.2.2.2.1, hk.2.2.2.2⟩⟩⟩)))
       (case aS => exact (qa1 (by repeat (first | (with_reducible first | exact HB.out | apply bwa | apply bwN | apply bw1 | refine bws ?_ GE400.out | refine bws ?_ GE404.out | refine bws ?_ GE405.out) | exact HB.out))))
       (case aL => have := LMc26.out; omega)
       intro v416 w45 ho hb hg hat
       rw [← Ny415.out] at ho
       have n0_ := Ad.mk (Kd.R_over' (by (with_reducible repeat (first | apply Kd.R_alloc | apply Kd.R_drewN | apply Kd.R_drew)); exact HO_3.out) (Kd.N_typed (by (with_reducible repeat (first | apply Kd.N_alloc | apply Kd.N_drewN | apply Kd.N_drew)); exact HO411.out)) (by decide) hg)
       have n1_ := Ad.mk (Kd.N_afterv (ok := (fun k_ => some k_ ≠ (.slice Ao12 t389.length co12 : Value).ownBlock ∧ some k_ ≠ (.slice Ao46 y412.length co46 : Value).ownBlock ∧ k_ ≠ gb400 ∧ k_ ≠ gb404 ∧ k_ ≠ gb405)) (by (with_reducible repeat (first | apply Kd.N_alloc | apply Kd.N_drewN | apply Kd.N_drew)); exact Kd.N_mono HO_4.out (fun _ hk => ⟨⟨hk.2.2.1, ⟨hk.2.1, ⟨hk.2.2.2.1, ⟨hk.2.2.2.2.1, hk.2.2.2.2.2⟩⟩⟩⟩, hk.1⟩)) hg hat)
       have n2_ := Ad.mk (Kd.V_afterv (ok := (fun k_ => some k_ ≠ (.slice Ao12 t389.length co12 : Value).ownBlock ∧ some k_ ≠ (.slice Ao13 t392.length co13 : Value).ownBlock ∧ some k_ ≠ (.slice Ao46 y412.length co46 : Value).ownBlock ∧ k_ ≠ gb400 ∧ k_ ≠ gb404 ∧ k_ ≠ gb405)) (by (with_reducible repeat (first | apply Kd.V_alloc | apply Kd.V_drewN | apply Kd.V_drew)); exact Kd.V_mono HO_401002.out (fun _ hk => ⟨⟨hk.2.2.1, ⟨hk.2.2.2.1, ⟨hk.2.1, ⟨hk.2.2.2.2.1, ⟨hk.2.2.2.2.2.1, hk.2.2.2.2.2.2⟩⟩⟩⟩⟩, hk.1⟩)) hg hat)
       have n3_ := Ad.mk (blk_grown (g := gb400) (o := .cells #[.int .i64 t395, .int .i64 t396, .slice Ao9 t397.length co9] 42 (0, 0)) (by (with_reducible repeat (first | refine bkN ?_ _ | refine bkd ?_ | refine bka ?_ _)); exact BK400.out) hg (Kd.N_away HO411.out (fun _ hk => hk.2.2.1)))
       have n4_ := Ad.mk (blk_grown (g := gb404) (o := .cells #[.int .i64 t395, .int .i64 t401, .slice Ao9 t397.length co9] 42 (0, 0)) (by (with_reducible repeat (first | refine bkN ?_ _ | refine bkd ?_ | refine bka ?_ _)); exact BK404.out) hg (Kd.N_away HO411.out (fun _ hk => hk.2.2.2.1)))
       have n5_ := Ad.mk (blk_grown (g := gb405) (o := .cells #[.int .i64 t395, .int .i64 (wrap64 (t401 + 1)), .slice Ao9 t397.length co9] 42 (0, 0)) (by (with_reducible repeat (first | refine bkN ?_ _ | refine bkd ?_ | refine bka ?_ _)); exact BK405.out) hg (Kd.N_away HO411.out (fun _ hk => hk.2.2.2.2)))
       have n6_ := Ad.mk (Kd.N_afterv (ok := (fun k_ => some k_ ≠ (.slice Ao12 t389.length co12 : Value).ownBlock ∧ some k_ ≠ (.slice Ao13 t392.length co13 : Value).ownBlock ∧ k_ ≠ gb400 ∧ k_ ≠ gb404 ∧ k_ ≠ gb405)) (by (with_reducible repeat (first | apply Kd.N_alloc | apply Kd.N_drewN | apply Kd.N_drew)); exact Kd.N_mono HO414.out (fun _ hk => ⟨⟨hk.2.1, ⟨hk.2.2.1, ⟨hk.2.2.2.1, ⟨hk.2.2.2.2.1, hk.2.2.2.2.2⟩⟩⟩⟩, hk.1⟩)) hg hat)
       have n7_ := Ad.mk (hb)
       have n8_ := Ad.mk (ho)
       clear HO_3
       clear HO_4
       clear HO_401002
       clear BK400
       clear BK404
       clear BK405
       clear HO414
       clear HB
       clear HO411
       have HO_3 := n0_
       have HO_4 := n1_
       have HO_401002 := n2_
       have BK400 := n3_
       have BK404 := n4_
       have BK405 := n5_
       have HO414 := n6_
       have HB := n7_
       have HO417 := n8_
       clear n0_ n1_ n2_ n3_ n4_ n5_ n6_ n7_ n8_
       clear ho hb hg hat
       refine hK.out _ _ ⟨(bkc BK404.out 0).trans rfl, (bkc BK404.out 1).trans rfl, (bkc BK404.out 2).trans rfl⟩ (fun hHeld => ?_)
       clear hK K
       refine norm_ (a' := ?_) ?_ ?_
       rotate_left
       ·show Act.put _ (some 58) _ = _
        simp only [Act.put, List.setIfInBounds_toArray, List.set_cons_zero, List.set_cons_succ, qa8, qa9]
        rfl
       refine pure_ (i := 6) (N := some 9) (v := ?_) (a' := ?_) #[true, true, true, true, true, true, true] rfl rfl (by kernel_rfl) (fun _ _ _ h => h) (Or.inl ⟨by rfl, ?_⟩) ?_ ?_
       rotate_left
       ·intro w'
        go_simp
        with_reducible rfl
       rotate_left
       ·simp only [Act.put, List.setIfInBounds_toArray, List.set_cons_zero, List.set_cons_succ, qa8, qa9]
        rfl
       refine done_ (by kernel_rfl) ?_
       go_upto_region 10 with (fail)
       go_cut [10] (fun v10 wc => ∃ (kq : Nat) (x10_26 : List (S42)), Ad (laws_FnMostLoan.j1 kq t389 t401 y415 x10_26 = some r) ∧ Ad (kq ≤ kj4) ∧ Ad (Kd.R (Kd.int .i64) 3 wc w.heap.size (fun _ => True) (.slice Ao12 t389.length co12) t389) ∧ Ad (Kd.N k42 42 wc w.heap.size (fun k_ => some k_ ≠ ((.slice Ao12 t389.length co12) : Value).ownBlock ∧ some k_ ≠ (v10 : Value).ownBlock ∧ k_ ≠ gb400 ∧ k_ ≠ gb404 ∧ k_ ≠ gb405) v416 y415) ∧ Ad (Kd.N k42 42 wc w.heap.size (fun k_ => some k_ ≠ ((.slice Ao12 t389.length co12) : Value).ownBlock ∧ some k_ ≠ (v416 : Value).ownBlock ∧ k_ ≠ gb400 ∧ k_ ≠ gb404 ∧ k_ ≠ gb405) v10 x10_26) ∧ Ad (Kd.V (Kd.int .i64) 3 wc w.heap.size (fun k_ => some k_ ≠ ((.slice Ao12 t389.length co12) : Value).ownBlock ∧ some k_ ≠ (v416 : Value).ownBlock ∧ some k_ ≠ (v10 : Value).ownBlock ∧ k_ ≠ gb400 ∧ k_ ≠ gb404 ∧ k_ ≠ gb405) (.slice Ao9 t397.length co9) t397) ∧ Ad (Kd.V (Kd.int .i64) 3 wc w.heap.size (fun k_ => some k_ ≠ ((.slice Ao12 t389.length co12) : Value).ownBlock ∧ some k_ ≠ (v416 : Value).ownBlock ∧ some k_ ≠ (v10 : Value).ownBlock ∧ k_ ≠ gb400 ∧ k_ ≠ gb404 ∧ k_ ≠ gb405) (.slice Ao9 t397.length co9) t397) ∧ Ad (Kd.V (Kd.int .i64) 3 wc w.heap.size (fun k_ => some k_ ≠ ((.slice Ao12 t389.length co12) : Value).ownBlock ∧ some k_ ≠ (v416 : Value).ownBlock ∧ some k_ ≠ (v10 : Value).ownBlock ∧ k_ ≠ gb400 ∧ k_ ≠ gb404 ∧ k_ ≠ gb405) (.slice Ao9 t397.length co9) t397) ∧ Ad (wc.heap[gb400]? = some (.cells #[.int .i64 t395, .int .i64 t396, (.slice Ao9 t397.length co9)] 42 (0, 0))) ∧ Ad (wc.heap[gb404]? = some (.cells #[.int .i64 t395, .int .i64 t401, (.slice Ao9 t397.length co9)] 42 (0, 0))) ∧ Ad (wc.heap[gb405]? = some (.cells #[.int .i64 t395, .int .i64 (wrap64 (t401 + 1)), (.slice Ao9 t397.length co9)] 42 (0, 0))) ∧ Ad (Below w.heap.size w wc))
       case first =>
        have H := HC27.out
        clear HC27
        obtain ⟨y418, hy418⟩ : ∃ y_ : List (S42), y_ = (([] : List (S42))) := ⟨_, rfl⟩
        replace H : (if y418.length + t392.length < 3518437208883 then ((some (y418 ++ t392 : List (S42))).bind fun y421 => ((some (([(⟨t395, wrap64 (t401 + 1), t397⟩ : S42)] : List (S42)) : List (S42))).bind fun y424 => (if y421.length + y424.length < 3518437208883 then (laws_FnMostLoan.j1 kj4 t389 t401 y415 (y421 ++ y424)) else (none)))) else (none)) = some r := by first | (rw [hy418]; with_reducible exact H) | (have H2_ := (Option.bind_some _ _).symm.trans H; rw [hy418]; with_reducible exact H2_) | (have H2_ := (Option.bind_some _ _).symm.trans H; with_reducible exact H2_) | with_reducible exact H | (rw [hy418]; exact H) | exact H
        have Ny418 := Ad.mk hy418
        clear hy418
        by_cases c47 : y418.length + t392.length < 3518437208883
        ·rw [if_pos c47] at H
         have LMc47 := Ad.mk c47
         clear c47
         obtain ⟨y421, hy421⟩ : ∃ y_ : List (S42), y_ = (y418 ++ t392) := ⟨_, rfl⟩
         replace H : ((some (([(⟨t395, wrap64 (t401 + 1), t397⟩ : S42)] : List (S42)) : List (S42))).bind fun y424 => (if y421.length + y424.length < 3518437208883 then (laws_FnMostLoan.j1 kj4 t389 t401 y415 (y421 ++ y424)) else (none))) = some r := by first | (rw [hy421]; with_reducible exact H) | (have H2_ := (Option.bind_some _ _).symm.trans H; rw [hy421]; with_reducible exact H2_) | (have H2_ := (Option.bind_some _ _).symm.trans H; with_reducible exact H2_) | with_reducible exact H | (rw [hy421]; exact H) | exact H
         have Ny421 := Ad.mk hy421
         clear hy421
         obtain ⟨y424, hy424⟩ : ∃ y_ : List (S42), y_ = (([(⟨t395, wrap64 (t401 + 1), t397⟩ : S42)] : List (S42))) := ⟨_, rfl⟩
         replace H : (if y421.length + y424.length < 3518437208883 then (laws_FnMostLoan.j1 kj4 t389 t401 y415 (y421 ++ y424)) else (none)) = some r := by first | (rw [hy424]; with_reducible exact H) | (have H2_ := (Option.bind_some _ _).symm.trans H; rw [hy424]; with_reducible exact H2_) | (have H2_ := (Option.bind_some _ _).symm.trans H; with_reducible exact H2_) | with_reducible exact H | (rw [hy424]; exact H) | exact H
         have Ny424 := Ad.mk hy424
         clear hy424
         by_cases c48 : y421.length + y424.length < 3518437208883
         ·rw [if_pos c48] at H
          have LMc48 := Ad.mk c48
          clear c48
          obtain ⟨y427, hy427⟩ : ∃ y_ : List (S42), y_ = (y421 ++ y424) := ⟨_, rfl⟩
          replace H : (laws_FnMostLoan.j1 kj4 t389 t401 y415 y427) = some r := by first | (rw [hy427]; with_reducible exact H) | (have H2_ := (Option.bind_some _ _).symm.trans H; rw [hy427]; with_reducible exact H2_) | (have H2_ := (Option.bind_some _ _).symm.trans H; with_reducible exact H2_) | with_reducible exact H | (rw [hy427]; exact H) | exact H
          have Ny427 := Ad.mk hy427
          clear hy427
          have H' := Ad.mk H
          clear H
          try go_wp2
          have n0_ := Ad.mk (Kd.R_drew HO_3.out)
          have n1_ := Ad.mk (Kd.N_drew HO_4.out)
          have n2_ := Ad.mk (Kd.V_drew HO_401002.out)
          have n3_ := Ad.mk (Kd.N_drew HO414.out)
          have n4_ := Ad.mk (Kd.N_drew HO417.out)
          have n5_ := Ad.mk (bkd BK400.out)
          have n6_ := Ad.mk (bkd BK404.out)
          have n7_ := Ad.mk (bkd BK405.out)
          have n8_ := Ad.mk (bw1 HB.out)
          clear HO_3
          clear HO_4
          clear HO_401002
          clear HO414
          clear HO417
          clear BK400
          clear BK404
          clear BK405
          clear HB
          have HO_3 := n0_
          have HO_4 := n1_
          have HO_401002 := n2_
          have HO414 := n3_
          have HO417 := n4_
          have BK400 := n5_
          have BK404 := n6_
          have BK405 := n7_
          have HB := n8_
          clear n0_ n1_ n2_ n3_ n4_ n5_ n6_ n7_ n8_
          refine start_ (n := 7) (S := fun w' => w'.cell? ⟨gb405, 0, none⟩ = some (.int .i64 t395) ∧ w'.cell? ⟨gb405, 1, none⟩ = some (.int .i64 (wrap64 (t401 + 1))) ∧ w'.cell? ⟨gb405, 2, none⟩ = some (.slice Ao9 t397.length co9)) (ds := []) #[false, false, false, false, false, false, false] (by kernel_rfl) rfl rfl ⟨(bkc BK405.out 0).trans rfl, (bkc BK405.out 1).trans rfl, (bkc BK405.out 2).trans rfl⟩ (fun hHeld => ?_)
          generalize w45.drew = w49 at HO_3 HO_4 HO_401002 HO414 HO417 BK400 BK404 BK405 HB hHeld ⊢
          refine pure_ (i := 1) (N := some 60) (v := ?_) (a' := ?_) #[false, true, false, false, false, false, false] rfl rfl (by kernel_rfl) (fun _ _ _ h => h) (Or.inl ⟨by rfl, ?_⟩) ?_ ?_
          rotate_left
          ·intro w'
           go_simp
           with_reducible rfl
          rotate_left
          ·simp only [Act.put, List.setIfInBounds_toArray, List.set_cons_zero, List.set_cons_succ, qa8, qa9]
           rfl
          refine take_ (i := 3) (N := some 62) (v := ?_) (a' := ?_) #[false, true, false, true, false, false, false] rfl rfl (by kernel_rfl) (fun _ _ _ h => h) (Or.inl ⟨by rfl, ?_⟩) hHeld ?_ ?_
          rotate_left
          ·rintro w' ⟨s0, s1, s2⟩
           go_simp
           with_reducible rfl
          rotate_left
          ·simp only [Act.put, List.setIfInBounds_toArray, List.set_cons_zero, List.set_cons_succ, qa8, qa9]
           rfl
          refine join_ (σ := Value × Value × Value) 2 #[true, true, true, true, true, false, false] (fun s_ => [(59, s_.1), (61, s_.2.1), (63, s_.2.2)]) (fun s_ w' => (w'.cell? ⟨gb405, 0, none⟩ = some (.int .i64 t395) ∧ w'.cell? ⟨gb405, 1, none⟩ = some (.int .i64 (wrap64 (t401 + 1))) ∧ w'.cell? ⟨gb405, 2, none⟩ = some (.slice Ao9 t397.length co9)) ∧ (Kd.N k42 42 w' w.heap.size (fun k_ => some k_ ≠ (v416 : Value).ownBlock ∧ some k_ ≠ (s_.2.1 : Value).ownBlock ∧ some k_ ≠ (s_.2.2 : Value).ownBlock ∧ some k_ ≠ (.slice Ao12 t389.length co12 : Value).ownBlock ∧ some k_ ≠ (.slice Ao13 t392.length co13 : Value).ownBlock ∧ k_ ≠ gb400 ∧ k_ ≠ gb404 ∧ k_ ≠ gb405) (.slice Ao46 y412.length co46) y412) ∧ (Kd.N k42 42 w' w.heap.size (fun k_ => some k_ ≠ (s_.2.1 : Value).ownBlock ∧ some k_ ≠ (s_.2.2 : Value).ownBlock ∧ some k_ ≠ (.slice Ao12 t389.length co12 : Value).ownBlock ∧ k_ ≠ gb400 ∧ k_ ≠ gb404 ∧ k_ ≠ gb405) v416 y415) ∧ (Kd.N k42 42 w' w.heap.size (fun k_ => some k_ ≠ (.slice Ao46 y412.length co46 : Value).ownBlock ∧ some k_ ≠ (v416 : Value).ownBlock ∧ some k_ ≠ (s_.2.2 : Value).ownBlock ∧ some k_ ≠ (.slice Ao12 t389.length co12 : Value).ownBlock ∧ k_ ≠ gb400 ∧ k_ ≠ gb404 ∧ k_ ≠ gb405) s_.2.1 y421) ∧ (Kd.N k42 42 w' w.heap.size (fun k_ => some k_ ≠ (.slice Ao46 y412.length co46 : Value).ownBlock ∧ some k_ ≠ (v416 : Value).ownBlock ∧ some k_ ≠ (s_.2.1 : Value).ownBlock ∧ some k_ ≠ (.slice Ao12 t389.length co12 : Value).ownBlock ∧ some k_ ≠ (.slice Ao13 t392.length co13 : Value).ownBlock ∧ k_ ≠ gb400 ∧ k_ ≠ gb404 ∧ k_ ≠ gb405) s_.2.2 y424) ∧ (Kd.R (Kd.int .i64) 3 w' w.heap.size (fun _ => True) (.slice Ao12 t389.length co12) t389) ∧ (Kd.N k42 42 w' w.heap.size (fun k_ => some k_ ≠ (.slice Ao46 y412.length co46 : Value).ownBlock ∧ some k_ ≠ (v416 : Value).ownBlock ∧ some k_ ≠ (s_.2.1 : Value).ownBlock ∧ some k_ ≠ (s_.2.2 : Value).ownBlock ∧ some k_ ≠ (.slice Ao12 t389.length co12 : Value).ownBlock ∧ k_ ≠ gb400 ∧ k_ ≠ gb404 ∧ k_ ≠ gb405) (.slice Ao13 t392.length co13) t392) ∧ (Kd.V (Kd.int .i64) 3 w' w.heap.size (fun k_ => some k_ ≠ (.slice Ao46 y412.length co46 : Value).ownBlock ∧ some k_ ≠ (v416 : Value).ownBlock ∧ some k_ ≠ (s_.2.1 : Value).ownBlock ∧ some k_ ≠ (s_.2.2 : Value).ownBlock ∧ some k_ ≠ (.slice Ao12 t389.length co12 : Value).ownBlock ∧ some k_ ≠ (.slice Ao13 t392.length co13 : Value).ownBlock ∧ k_ ≠ gb400 ∧ k_ ≠ gb404 ∧ k_ ≠ gb405) (.slice Ao9 t397.length co9) t397) ∧ (w'.heap[gb400]? = some (.cells #[.int .i64 t395, .int .i64 t396, .slice Ao9 t397.length co9] 42 (0, 0))) ∧ (w'.heap[gb404]? = some (.cells #[.int .i64 t395, .int .i64 t401, .slice Ao9 t397.length co9] 42 (0, 0))) ∧ (w'.heap[gb405]? = some (.cells #[.int .i64 t395, .int .i64 (wrap64 (t401 + 1)), .slice Ao9 t397.length co9] 42 (0, 0))) ∧ (Below w.heap.size w w')) ?_ ?_
          rotate_left
          ·intro hCont
           refine two_ (i := 0) (j := 4) (Ni := some 59) (Nj := some 63) #[true, true, false, true, false, false, false] #[false, true, false, true, true, false, false] rfl rfl rfl rfl (by kernel_rfl) (by decide) (by decide) (fun K hK => ?_) (fun K hK => ?_)
           ·skip
            refine Kd.N_lit_step k42 _ 42 ?hg (N' := 59) ?hd (xs := ([] : List (S42))) (inner := []) (ok := (fun k_ => some k_ ≠ (.slice Ao12 t389.length co12 : Value).ownBlock ∧ some k_ ≠ (.slice Ao13 t392.length co13 : Value).ownBlock ∧ some k_ ≠ (.slice Ao46 y412.length co46 : Value).ownBlock ∧ some k_ ≠ (v416 : Value).ownBlock ∧ k_ ≠ gb400 ∧ k_ ≠ gb404 ∧ k_ ≠ gb405)) (okp := (fun k_ => some k_ ≠ (.slice Ao12 t389.length co12 : Value).ownBlock ∧ some k_ ≠ (.slice Ao13 t392.length co13 : Value).ownBlock ∧ some k_ ≠ (.slice Ao46 y412.length co46 : Value).ownBlock ∧ some k_ ≠ (v416 : Value).ownBlock ∧ k_ ≠ gb400 ∧ k_ ≠ gb404 ∧ k_ ≠ gb405)) ?hr ?hp (fun _ hk => hk) ((show ∀ k_, w49.heap.size ≤ k_ → (fun k_ => some k_ ≠ (.slice Ao12 t389.length co12 : Value).ownBlock ∧ some k_ ≠ (.slice Ao13 t392.length co13 : Value).ownBlock ∧ some k_ ≠ (.slice Ao46 y412.length co46 : Value).ownBlock ∧ some k_ ≠ (v416 : Value).ownBlock ∧ k_ ≠ gb400 ∧ k_ ≠ gb404 ∧ k_ ≠ gb405) k_ from fun k_ hk => ⟨Kd.fresh' (Kd.R_lt (by (with_reducible repeat (first | apply Kd.R_alloc | apply Kd.R_drewN | apply Kd.R_drew)); exact HO_3.out)) k_ hk, Kd.fresh' (Kd.N_lt (by (with_reducible repeat (first | apply Kd.N_alloc | apply Kd.N_drewN | apply Kd.N_drew)); exact HO_4.out)) k_ hk, Kd.fresh' (Kd.N_lt (by (with_reducible repeat (first | apply Kd.N_alloc | apply Kd.N_drewN | apply Kd.N_drew)); exact HO414.out)) k_ hk, Kd.fresh' (Kd.N_lt (by (with_reducible repeat (first | apply Kd.N_alloc | apply Kd.N_drewN | apply Kd.N_drew)); exact HO417.out)) k_ hk, Kd.freshB (g := gb400) (o := .cells #[.int .i64 t395, .int .i64 t396, .slice Ao9 t397.length co9] 42 (0, 0)) (by (with_reducible repeat (first | refine bkN ?_ _ | refine bkd ?_ | refine bka ?_ _)); exact BK400.out) k_ hk, Kd.freshB (g := gb404) (o := .cells #[.int .i64 t395, .int .i64 t401, .slice Ao9 t397.length co9] 42 (0, 0)) (by (with_reducible repeat (first | refine bkN ?_ _ | refine bkd ?_ | refine bka ?_ _)); exact BK404.out) k_ hk, Kd.freshB (g := gb405) (o := .cells #[.int .i64 t395, .int .i64 (wrap64 (t401 + 1)), .slice Ao9 t397.length co9] 42 (0, 0)) (by (with_reducible repeat (first | refine bkN ?_ _ | refine bkd ?_ | refine bka ?_ _)); exact BK405.out) k_ hk⟩) _ (Nat.le_refl _)) (Below.refl _ _) (Nat.le_refl _) (by simp) ?_; (case hd => rfl); (case hg => rfl); (case hr => first | (go_simp; done) | (go_simp; rfl)); (case hp => exact (Reps.none _ _))
            intro v419 w50 ho51 hb hg_ hnew_
            clear hg_ hnew_
            (first | rw [← Ny418.out] at ho51 | (simp only [Int.reduceToNat] at ho51; rw [← Ny418.out] at ho51))
            have n0_ := Ad.mk (Kd.R_below (by (with_reducible repeat (first | apply Kd.R_alloc | apply Kd.R_drewN | apply Kd.R_drew)); exact HO_3.out) hb)
            have n1_ := Ad.mk (Kd.N_elder' (by (with_reducible repeat (first | apply Kd.N_alloc | apply Kd.N_drewN | apply Kd.N_drew)); exact HO_4.out) (Kd.N_base ho51) hb)
            have n2_ := Ad.mk (Kd.V_elder' (by (with_reducible repeat (first | apply Kd.V_alloc | apply Kd.V_drewN | apply Kd.V_drew)); exact HO_401002.out) (Kd.N_base ho51) hb)
            have n3_ := Ad.mk (Kd.N_elder' (by (with_reducible repeat (first | apply Kd.N_alloc | apply Kd.N_drewN | apply Kd.N_drew)); exact HO414.out) (Kd.N_base ho51) hb)
            have n4_ := Ad.mk (Kd.N_elder' (by (with_reducible repeat (first | apply Kd.N_alloc | apply Kd.N_drewN | apply Kd.N_drew)); exact HO417.out) (Kd.N_base ho51) hb)
            have n5_ := Ad.mk (Kd.N_lower ho51 (qa1 (by repeat (first | (with_reducible first | exact HB.out | apply bwa | apply bwN | apply bw1 | refine bws ?_ GE400.out | refine bws ?_ GE404.out | refine bws ?_ GE405.out) | exact HB.out))))
            have n6_ := Ad.mk (qa6 (g := gb400) (o := .cells #[.int .i64 t395, .int .i64 t396, .slice Ao9 t397.length co9] 42 (0, 0)) (by (with_reducible repeat (first | refine bkN ?_ _ | refine bkd ?_ | refine bka ?_ _)); exact BK400.out) hb)
            have n7_ := Ad.mk (qa6 (g := gb404) (o := .cells #[.int .i64 t395, .int .i64 t401, .slice Ao9 t397.length co9] 42 (0, 0)) (by (with_reducible repeat (first | refine bkN ?_ _ | refine bkd ?_ | refine bka ?_ _)); exact BK404.out) hb)
            have n8_ := Ad.mk (qa6 (g := gb405) (o := .cells #[.int .i64 t395, .int .i64 (wrap64 (t401 + 1)), .slice Ao9 t397.length co9] 42 (0, 0)) (by (with_reducible repeat (first | refine bkN ?_ _ | refine bkd ?_ | refine bka ?_ _)); exact BK405.out) hb)
            have n9_ := Ad.mk (qa5 (by repeat (first | (with_reducible first | exact HB.out | apply bwa | apply bwN | apply bw1 | refine bws ?_ GE400.out | refine bws ?_ GE404.out | refine bws ?_ GE405.out) | exact HB.out)) hb)
            clear HO_3
            clear HO_4
            clear HO_401002
            clear HO414
            clear HO417
            clear BK400
            clear BK404
            clear BK405
            clear HB
            have HO_3 := n0_
            have HO_4 := n1_
            have HO_401002 := n2_
            have HO414 := n3_
            have HO417 := n4_
            have HO420 := n5_
            have BK400 := n6_
            have BK404 := n7_
            have BK405 := n8_
            have HB := n9_
            clear n0_ n1_ n2_ n3_ n4_ n5_ n6_ n7_ n8_ n9_
            clear hb ho51
            refine hK.out _ _ ⟨(bkc BK405.out 0).trans rfl, (bkc BK405.out 1).trans rfl, (bkc BK405.out 2).trans rfl⟩ (fun hHeld => ?_)
            clear hK K
            refine norm_ (a' := ?_) ?_ ?_
            rotate_left
            ·show Act.put _ (some 59) _ = _
             simp only [Act.put, List.setIfInBounds_toArray, List.set_cons_zero, List.set_cons_succ, qa8, qa9]
             rfl
            refine two_ (i := 2) (j := 4) (Ni := some 61) (Nj := some 63) #[true, true, true, true, false, false, false] #[true, true, false, true, true, false, false] rfl rfl rfl rfl (by kernel_rfl) (by decide) (by decide) (fun K hK => ?_) (fun K hK => ?_)
            ·skip
             refine Kd.N_append_rows_step k42 (w0 := w) w.heap.size (by rfl) (.tmp 59) (.tmp 60) 34 42 (.agg #[(.int .i64 0), (.int .i64 0), (.slice none 0 0)]) 40 rfl Try.underlying34 info42 rfl (by decide) (by omega) v419 y418 t392 _ _ _ (fun k_ => some k_ ≠ (.slice Ao12 t389.length co12 : Value).ownBlock ∧ some k_ ≠ (.slice Ao46 y412.length co46 : Value).ownBlock ∧ some k_ ≠ (v416 : Value).ownBlock ∧ k_ ≠ gb400 ∧ k_ ≠ gb404 ∧ k_ ≠ gb405) (fun k_ => ((fun k_ => some k_ ≠ (.slice Ao12 t389.length co12 : Value).ownBlock ∧ some k_ ≠ (.slice Ao46 y412.length co46 : Value).ownBlock ∧ some k_ ≠ (v416 : Value).ownBlock ∧ k_ ≠ gb400 ∧ k_ ≠ gb404 ∧ k_ ≠ gb405)) k_ ∧ some k_ ≠ (v419 : Value).ownBlock) rfl rfl ?aO ?aR (fun _ hk => hk) ?aF ?aB ?aS ?aL ?_
             (case aR => exact (by skip; exact Kd.N_F (Kd.N_mono (ok' := (fun k_ => ((fun k_ => some k_ ≠ (.slice Ao12 t389.length co12 : Value).ownBlock ∧ some k_ ≠ (.slice Ao46 y412.length co46 : Value).ownBlock ∧ some k_ ≠ (v416 : Value).ownBlock ∧ k_ ≠ gb400 ∧ k_ ≠ gb404 ∧ k_ ≠ gb405)) k_ ∧ some k_ ≠ (v419 : Value).ownBlock)) (HO_4.out) (fun k_ hk => ⟨⟨hk.1.1.1, ⟨hk.1.1.2.1, ⟨hk.1.2, ⟨hk.1.1.2.2.1, ⟨hk.1.1.2.2.2.1, hk.1.1.2.2.2.2⟩⟩⟩⟩⟩, hk.2⟩))))
             (case aB => exact (by repeat (first | (with_reducible first | exact HB.out | apply bwa | apply bwN | apply bw1 | refine bws ?_ GE400.out | refine bws ?_ GE404.out | refine bws ?_ GE405.out) | exact HB.out)))
             (case aF => exact (fun k_ hk => ⟨Kd.fresh' (Kd.R_lt (by (with_reducible repeat (first | apply Kd.R_alloc | apply Kd.R_drewN | apply Kd.R_drew)); exact HO_3.out)) k_ hk, Kd.fresh' (Kd.N_lt (by (with_reducible repeat (first | apply Kd.N_alloc | apply Kd.N_drewN | apply Kd.N_drew)); exact HO414.out)) k_ hk, Kd.fresh' (Kd.N_lt (by (with_reducible repeat (first | apply Kd.N_alloc | apply Kd.N_drewN | apply Kd.N_drew)); exact HO417.out)) k_ hk, Kd.freshB (g := gb400) (o := .cells #[.int .i64 t395, .int .i64 t396, .slice Ao9 t397.length co9] 42 (0, 0)) (by (with_reducible repeat (first | refine bkN ?_ _ | refine bkd ?_ | refine bka ?_ _)); exact BK400.out) k_ hk, Kd.freshB (g := gb404) (o := .cells #[.int .i64 t395, .int .i64 t401, .slice Ao9 t397.length co9] 42 (0, 0)) (by (with_reducible repeat (first | refine bkN ?_ _ | refine bkd ?_ | refine bka ?_ _)); exact BK404.out) k_ hk, Kd.freshB (g := gb405) (o := .cells #[.int .i64 t395, .int .i64 (wrap64 (t401 + 1)), .slice Ao9 t397.length co9] 42 (0, 0)) (by (with_reducible repeat (first | refine bkN ?_ _ | refine bkd ?_ | refine bka ?_ _)); exact BK405.out) k_ hk⟩))
             (case aO => exact (by (with_reducible repeat (first | apply Kd.N_alloc | apply Kd.N_drewN | apply Kd.N_drew)); exact Kd.N_mono HO420.out (fun _ hk => ⟨hk.1, ⟨hk.2.2.1, ⟨hk.2.2.2.1, ⟨hk.2.2.2.2.1, ⟨hk.2.2.2.2.2.1, hk.2.2.2.2.2.2⟩⟩⟩⟩⟩)))
             (case aS => exact (qa1 (by repeat (first | (with_reducible first | exact HB.out | apply bwa | apply bwN | apply bw1 | refine bws ?_ GE400.out | refine bws ?_ GE404.out | refine bws ?_ GE405.out) | exact HB.out))))
             (case aL => have := LMc47.out; omega)
             intro v422 w52 ho hb hg hat
             rw [← Ny421.out] at ho
             have n0_ := Ad.mk (Kd.R_over' (by (with_reducible repeat (first | apply Kd.R_alloc | apply Kd.R_drewN | apply Kd.R_drew)); exact HO_3.out) (Kd.N_typed (by (with_reducible repeat (first | apply Kd.N_alloc | apply Kd.N_drewN | apply Kd.N_drew)); exact HO420.out)) (by decide) hg)
             have n1_ := Ad.mk (Kd.N_afterv (ok := (fun k_ => some k_ ≠ (.slice Ao12 t389.length co12 : Value).ownBlock ∧ some k_ ≠ (.slice Ao46 y412.length co46 : Value).ownBlock ∧ some k_ ≠ (v416 : Value).ownBlock ∧ k_ ≠ gb400 ∧ k_ ≠ gb404 ∧ k_ ≠ gb405)) (by (with_reducible repeat (first | apply Kd.N_alloc | apply Kd.N_drewN | apply Kd.N_drew)); exact Kd.N_mono HO_4.out (fun _ hk => ⟨⟨hk.1.1.1, ⟨hk.1.1.2.1, ⟨hk.1.2, ⟨hk.1.1.2.2.1, ⟨hk.1.1.2.2.2.1, hk.1.1.2.2.2.2⟩⟩⟩⟩⟩, hk.2⟩)) hg hat)
             have n2_ := Ad.mk (Kd.V_afterv (ok := (fun k_ => some k_ ≠ (.slice Ao12 t389.length co12 : Value).ownBlock ∧ some k_ ≠ (.slice Ao13 t392.length co13 : Value).ownBlock ∧ some k_ ≠ (.slice Ao46 y412.length co46 : Value).ownBlock ∧ some k_ ≠ (v416 : Value).ownBlock ∧ k_ ≠ gb400 ∧ k_ ≠ gb404 ∧ k_ ≠ gb405)) (by (with_reducible repeat (first | apply Kd.V_alloc | apply Kd.V_drewN | apply Kd.V_drew)); exact Kd.V_mono HO_401002.out (fun _ hk => ⟨⟨hk.1.1.1, ⟨hk.1.1.2.1, ⟨hk.1.1.2.2.1, ⟨hk.1.2, ⟨hk.1.1.2.2.2.1, ⟨hk.1.1.2.2.2.2.1, hk.1.1.2.2.2.2.2⟩⟩⟩⟩⟩⟩, hk.2⟩)) hg hat)
             have n3_ := Ad.mk (blk_grown (g := gb400) (o := .cells #[.int .i64 t395, .int .i64 t396, .slice Ao9 t397.length co9] 42 (0, 0)) (by (with_reducible repeat (first | refine bkN ?_ _ | refine bkd ?_ | refine bka ?_ _)); exact BK400.out) hg (Kd.N_away HO420.out (fun _ hk => hk.2.2.2.2.1)))
             have n4_ := Ad.mk (blk_grown (g := gb404) (o := .cells #[.int .i64 t395, .int .i64 t401, .slice Ao9 t397.length co9] 42 (0, 0)) (by (with_reducible repeat (first | refine bkN ?_ _ | refine bkd ?_ | refine bka ?_ _)); exact BK404.out) hg (Kd.N_away HO420.out (fun _ hk => hk.2.2.2.2.2.1)))
             have n5_ := Ad.mk (blk_grown (g := gb405) (o := .cells #[.int .i64 t395, .int .i64 (wrap64 (t401 + 1)), .slice Ao9 t397.length co9] 42 (0, 0)) (by (with_reducible repeat (first | refine bkN ?_ _ | refine bkd ?_ | refine bka ?_ _)); exact BK405.out) hg (Kd.N_away HO420.out (fun _ hk => hk.2.2.2.2.2.2)))
             have n6_ := Ad.mk (Kd.N_afterv (ok := (fun k_ => some k_ ≠ (.slice Ao12 t389.length co12 : Value).ownBlock ∧ some k_ ≠ (.slice Ao13 t392.length co13 : Value).ownBlock ∧ some k_ ≠ (v416 : Value).ownBlock ∧ k_ ≠ gb400 ∧ k_ ≠ gb404 ∧ k_ ≠ gb405)) (by (with_reducible repeat (first | apply Kd.N_alloc | apply Kd.N_drewN | apply Kd.N_drew)); exact Kd.N_mono HO414.out (fun _ hk => ⟨⟨hk.1.1.1, ⟨hk.1.1.2.1, ⟨hk.1.2, ⟨hk.1.1.2.2.1, ⟨hk.1.1.2.2.2.1, hk.1.1.2.2.2.2⟩⟩⟩⟩⟩, hk.2⟩)) hg hat)
             have n7_ := Ad.mk (Kd.N_afterv (ok := (fun k_ => some k_ ≠ (.slice Ao12 t389.length co12 : Value).ownBlock ∧ k_ ≠ gb400 ∧ k_ ≠ gb404 ∧ k_ ≠ gb405)) (by (with_reducible repeat (first | apply Kd.N_alloc | apply Kd.N_drewN | apply Kd.N_drew)); exact HO417.out) hg hat)
             have n8_ := Ad.mk (hb)
             have n9_ := Ad.mk (ho)
             clear HO_3
             clear HO_4
             clear HO_401002
             clear BK400
             clear BK404
             clear BK405
             clear HO414
             clear HO417
             clear HB
             clear HO420
             have HO_3 := n0_
             have HO_4 := n1_
             have HO_401002 := n2_
             have BK400 := n3_
             have BK404 := n4_
             have BK405 := n5_
             have HO414 := n6_
             have HO417 := n7_
             have HB := n8_
             have HO423 := n9_
             clear n0_ n1_ n2_ n3_ n4_ n5_ n6_ n7_ n8_ n9_
             clear ho hb hg hat
             refine hK.out _ _ ⟨(bkc BK405.out 0).trans rfl, (bkc BK405.out 1).trans rfl, (bkc BK405.out 2).trans rfl⟩ (fun hHeld => ?_)
             clear hK K
             refine norm_ (a' := ?_) ?_ ?_
             rotate_left
             ·show Act.put _ (some 61) _ = _
              simp only [Act.put, List.setIfInBounds_toArray, List.set_cons_zero, List.set_cons_succ, qa8, qa9]
              rfl
             refine one_ (i := 4) (N := some 63) #[true, true, true, true, true, false, false] rfl rfl (by kernel_rfl) (by decide) (fun K hK => ?_)
             refine Kd.N_lit_step k42 _ 42 ?hg (N' := 63) ?hd (xs := ([(⟨t395, wrap64 (t401 + 1), t397⟩ : S42)] : List (S42))) (inner := [.int .i64 t395, .int .i64 (wrap64 (t401 + 1)), .slice Ao9 t397.length co9]) (ok := (fun k_ => some k_ ≠ (.slice Ao12 t389.length co12 : Value).ownBlock ∧ some k_ ≠ (.slice Ao13 t392.length co13 : Value).ownBlock ∧ some k_ ≠ (.slice Ao46 y412.length co46 : Value).ownBlock ∧ some k_ ≠ (v416 : Value).ownBlock ∧ some k_ ≠ (v422 : Value).ownBlock ∧ k_ ≠ gb400 ∧ k_ ≠ gb404 ∧ k_ ≠ gb405)) (okp := (fun k_ => some k_ ≠ (.slice Ao12 t389.length co12 : Value).ownBlock ∧ some k_ ≠ (.slice Ao13 t392.length co13 : Value).ownBlock ∧ some k_ ≠ (.slice Ao46 y412.length co46 : Value).ownBlock ∧ some k_ ≠ (v416 : Value).ownBlock ∧ some k_ ≠ (v422 : Value).ownBlock ∧ k_ ≠ gb400 ∧ k_ ≠ gb404 ∧ k_ ≠ gb405)) ?hr ?hp (fun _ hk => hk) ((show ∀ k_, w52.heap.size ≤ k_ → (fun k_ => some k_ ≠ (.slice Ao12 t389.length co12 : Value).ownBlock ∧ some k_ ≠ (.slice Ao13 t392.length co13 : Value).ownBlock ∧ some k_ ≠ (.slice Ao46 y412.length co46 : Value).ownBlock ∧ some k_ ≠ (v416 : Value).ownBlock ∧ some k_ ≠ (v422 : Value).ownBlock ∧ k_ ≠ gb400 ∧ k_ ≠ gb404 ∧ k_ ≠ gb405) k_ from fun k_ hk => ⟨Kd.fresh' (Kd.R_lt (by (with_reducible repeat (first | apply Kd.R_alloc | apply Kd.R_drewN | apply Kd.R_drew)); exact HO_3.out)) k_ hk, Kd.fresh' (Kd.N_lt (by (with_reducible repeat (first | apply Kd.N_alloc | apply Kd.N_drewN | apply Kd.N_drew)); exact HO_4.out)) k_ hk, Kd.fresh' (Kd.N_lt (by (with_reducible repeat (first | apply Kd.N_alloc | apply Kd.N_drewN | apply Kd.N_drew)); exact HO414.out)) k_ hk, Kd.fresh' (Kd.N_lt (by (with_reducible repeat (first | apply Kd.N_alloc | apply Kd.N_drewN | apply Kd.N_drew)); exact HO417.out)) k_ hk, Kd.fresh' (Kd.N_lt (by (with_reducible repeat (first | apply Kd.N_alloc | apply Kd.N_drewN | apply Kd.N_drew)); exact HO423.out)) k_ hk, Kd.freshB (g := gb400) (o := .cells #[.int .i64 t395, .int .i64 t396, .slice Ao9 t397.length co9] 42 (0, 0)) (by (with_reducible repeat (first | refine bkN ?_ _ | refine bkd ?_ | refine bka ?_ _)); exact BK400.out) k_ hk, Kd.freshB (g := gb404) (o := .cells #[.int .i64 t395, .int .i64 t401, .slice Ao9 t397.length co9] 42 (0, 0)) (by (with_reducible repeat (first | refine bkN ?_ _ | refine bkd ?_ | refine bka ?_ _)); exact BK404.out) k_ hk, Kd.freshB (g := gb405) (o := .cells #[.int .i64 t395, .int .i64 (wrap64 (t401 + 1)), .slice Ao9 t397.length co9] 42 (0, 0)) (by (with_reducible repeat (first | refine bkN ?_ _ | refine bkd ?_ | refine bka ?_ _)); exact BK405.out) k_ hk⟩) _ (Nat.le_refl _)) (Below.refl _ _) (Nat.le_refl _) (by simp) ?_; (case hd => rfl); (case hg => rfl); (case hr => first | (go_simp; done) | (go_simp; rfl)); (case hp => exact (Reps.c3 (show Kd.FK k42 _ _ (⟨t395, wrap64 (t401 + 1), t397⟩ : S42) [.int .i64 t395, .int .i64 (wrap64 (t401 + 1)), .slice Ao9 t397.length co9] from (k42_mkF _ _ (⟨t395, wrap64 (t401 + 1), t397⟩ : S42) (Kd.V_reads' (have z_ := HO_401002.out; Kd.V_mono (ok' := (fun k_ => some k_ ≠ (.slice Ao12 t389.length co12 : Value).ownBlock ∧ some k_ ≠ (.slice Ao13 t392.length co13 : Value).ownBlock ∧ some k_ ≠ (.slice Ao46 y412.length co46 : Value).ownBlock ∧ some k_ ≠ (v416 : Value).ownBlock ∧ some k_ ≠ (v422 : Value).ownBlock ∧ k_ ≠ gb400 ∧ k_ ≠ gb404 ∧ k_ ≠ gb405)) z_ (fun k_ hk => ⟨hk.1.1, ⟨hk.1.2.1, ⟨hk.1.2.2.1, ⟨hk.1.2.2.2.1, ⟨hk.2, ⟨hk.1.2.2.2.2.1, ⟨hk.1.2.2.2.2.2.1, hk.1.2.2.2.2.2.2⟩⟩⟩⟩⟩⟩⟩))).2.1 (Kd.V_F (have z_ := HO_401002.out; Kd.V_mono (ok' := (fun k_ => some k_ ≠ (.slice Ao12 t389.length co12 : Value).ownBlock ∧ some k_ ≠ (.slice Ao13 t392.length co13 : Value).ownBlock ∧ some k_ ≠ (.slice Ao46 y412.length co46 : Value).ownBlock ∧ some k_ ≠ (v416 : Value).ownBlock ∧ some k_ ≠ (v422 : Value).ownBlock ∧ k_ ≠ gb400 ∧ k_ ≠ gb404 ∧ k_ ≠ gb405)) z_ (fun k_ hk => ⟨hk.1.1, ⟨hk.1.2.1, ⟨hk.1.2.2.1, ⟨hk.1.2.2.2.1, ⟨hk.2, ⟨hk.1.2.2.2.2.1, ⟨hk.1.2.2.2.2.2.1, hk.1.2.2.2.2.2.2⟩⟩⟩⟩⟩⟩⟩))))) (Reps.none _ _)))
             intro v425 w53 ho54 hb hg_ hnew_
             clear hg_ hnew_
             (first | rw [← Ny424.out] at ho54 | (simp only [Int.reduceToNat] at ho54; rw [← Ny424.out] at ho54))
             have n0_ := Ad.mk (Kd.R_below (by (with_reducible repeat (first | apply Kd.R_alloc | apply Kd.R_drewN | apply Kd.R_drew)); exact HO_3.out) hb)
             have n1_ := Ad.mk (Kd.N_elder' (by (with_reducible repeat (first | apply Kd.N_alloc | apply Kd.N_drewN | apply Kd.N_drew)); exact HO_4.out) (Kd.N_base ho54) hb)
             have n2_ := Ad.mk (Kd.V_elder' (by (with_reducible repeat (first | apply Kd.V_alloc | apply Kd.V_drewN | apply Kd.V_drew)); exact HO_401002.out) (Kd.N_base ho54) hb)
             have n3_ := Ad.mk (Kd.N_elder' (by (with_reducible repeat (first | apply Kd.N_alloc | apply Kd.N_drewN | apply Kd.N_drew)); exact HO414.out) (Kd.N_base ho54) hb)
             have n4_ := Ad.mk (Kd.N_elder' (by (with_reducible repeat (first | apply Kd.N_alloc | apply Kd.N_drewN | apply Kd.N_drew)); exact HO417.out) (Kd.N_base ho54) hb)
             have n5_ := Ad.mk (Kd.N_elder' (by (with_reducible repeat (first | apply Kd.N_alloc | apply Kd.N_drewN | apply Kd.N_drew)); exact HO423.out) (Kd.N_base ho54) hb)
             have n6_ := Ad.mk (Kd.N_lower ho54 (qa1 (by repeat (first | (with_reducible first | exact HB.out | apply bwa | apply bwN | apply bw1 | refine bws ?_ GE400.out | refine bws ?_ GE404.out | refine bws ?_ GE405.out) | exact HB.out))))
             have n7_ := Ad.mk (qa6 (g := gb400) (o := .cells #[.int .i64 t395, .int .i64 t396, .slice Ao9 t397.length co9] 42 (0, 0)) (by (with_reducible repeat (first | refine bkN ?_ _ | refine bkd ?_ | refine bka ?_ _)); exact BK400.out) hb)
             have n8_ := Ad.mk (qa6 (g := gb404) (o := .cells #[.int .i64 t395, .int .i64 t401, .slice Ao9 t397.length co9] 42 (0, 0)) (by (with_reducible repeat (first | refine bkN ?_ _ | refine bkd ?_ | refine bka ?_ _)); exact BK404.out) hb)
             have n9_ := Ad.mk (qa6 (g := gb405) (o := .cells #[.int .i64 t395, .int .i64 (wrap64 (t401 + 1)), .slice Ao9 t397.length co9] 42 (0, 0)) (by (with_reducible repeat (first | refine bkN ?_ _ | refine bkd ?_ | refine bka ?_ _)); exact BK405.out) hb)
             have n10_ := Ad.mk (qa5 (by repeat (first | (with_reducible first | exact HB.out | apply bwa | apply bwN | apply bw1 | refine bws ?_ GE400.out | refine bws ?_ GE404.out | refine bws ?_ GE405.out) | exact HB.out)) hb)
             clear HO_3
             clear HO_4
             clear HO_401002
             clear HO414
             clear HO417
             clear HO423
             clear BK400
             clear BK404
             clear BK405
             clear HB
             have HO_3 := n0_
             have HO_4 := n1_
             have HO_401002 := n2_
             have HO414 := n3_
             have HO417 := n4_
             have HO423 := n5_
             have HO426 := n6_
             have BK400 := n7_
             have BK404 := n8_
             have BK405 := n9_
             have HB := n10_
             clear n0_ n1_ n2_ n3_ n4_ n5_ n6_ n7_ n8_ n9_ n10_
             clear hb ho54
             refine hK.out _ _ ⟨(bkc BK405.out 0).trans rfl, (bkc BK405.out 1).trans rfl, (bkc BK405.out 2).trans rfl⟩ (fun hHeld => ?_)
             clear hK K
             refine norm_ (a' := ?_) ?_ ?_
             rotate_left
             ·show Act.put _ (some 63) _ = _
              simp only [Act.put, List.setIfInBounds_toArray, List.set_cons_zero, List.set_cons_succ, qa8, qa9]
              rfl
             exact norm_ (by simp only [putAll, Act.put, List.setIfInBounds_toArray, List.set_cons_zero, List.set_cons_succ]) (hCont (v419, v422, v425) _ ⟨hHeld, (by (with_reducible repeat (first | apply Kd.N_alloc | apply Kd.N_drewN | apply Kd.N_drew)); exact Kd.N_mono HO414.out (fun _ hk => ⟨hk.1.1.2.2.1, ⟨hk.1.2, ⟨hk.2, ⟨hk.1.1.1, ⟨hk.1.1.2.1, ⟨hk.1.1.2.2.2.1, ⟨hk.1.1.2.2.2.2.1, hk.1.1.2.2.2.2.2⟩⟩⟩⟩⟩⟩⟩)), (by (with_reducible repeat (first | apply Kd.N_alloc | apply Kd.N_drewN | apply Kd.N_drew)); exact Kd.N_mono HO417.out (fun _ hk => ⟨hk.1.2, ⟨hk.2, ⟨hk.1.1.1, ⟨hk.1.1.2.1, ⟨hk.1.1.2.2.1, hk.1.1.2.2.2⟩⟩⟩⟩⟩)), (by (with_reducible repeat (first | apply Kd.N_alloc | apply Kd.N_drewN | apply Kd.N_drew)); exact Kd.N_mono HO423.out (fun _ hk => ⟨hk.1.2.1, ⟨hk.1.2.2.1, ⟨hk.2, ⟨hk.1.1, ⟨hk.1.2.2.2.1, ⟨hk.1.2.2.2.2.1, hk.1.2.2.2.2.2⟩⟩⟩⟩⟩⟩)), (by (with_reducible repeat (first | apply Kd.N_alloc | apply Kd.N_drewN | apply Kd.N_drew)); exact Kd.N_mono HO426.out (fun _ hk => ⟨hk.2.2.1, ⟨hk.2.2.2.1, ⟨hk.2.2.2.2.1, ⟨hk.1, ⟨hk.2.1, ⟨hk.2.2.2.2.2.1, ⟨hk.2.2.2.2.2.2.1, hk.2.2.2.2.2.2.2⟩⟩⟩⟩⟩⟩⟩)), (by (with_reducible repeat (first | apply Kd.R_alloc | apply Kd.R_drewN | apply Kd.R_drew)); exact HO_3.out), (by (with_reducible repeat (first | apply Kd.N_alloc | apply Kd.N_drewN | apply Kd.N_drew)); exact Kd.N_mono HO_4.out (fun _ hk => ⟨hk.1.1.2.1, ⟨hk.1.1.2.2.1, ⟨hk.1.2, ⟨hk.2, ⟨hk.1.1.1, ⟨hk.1.1.2.2.2.1, ⟨hk.1.1.2.2.2.2.1, hk.1.1.2.2.2.2.2⟩⟩⟩⟩⟩⟩⟩)), (by (with_reducible repeat (first | apply Kd.V_alloc | apply Kd.V_drewN | apply Kd.V_drew)); exact Kd.V_mono HO_401002.out (fun _ hk => ⟨hk.1.1.2.2.1, ⟨hk.1.1.2.2.2.1, ⟨hk.1.2, ⟨hk.2, ⟨hk.1.1.1, ⟨hk.1.1.2.1, ⟨hk.1.1.2.2.2.2.1, ⟨hk.1.1.2.2.2.2.2.1, hk.1.1.2.2.2.2.2.2⟩⟩⟩⟩⟩⟩⟩⟩)), (by (with_reducible repeat (first | refine bkN ?_ _ | refine bkd ?_ | refine bka ?_ _)); exact BK400.out), (by (with_reducible repeat (first | refine bkN ?_ _ | refine bkd ?_ | refine bka ?_ _)); exact BK404.out), (by (with_reducible repeat (first | refine bkN ?_ _ | refine bkd ?_ | refine bka ?_ _)); exact BK405.out), (by repeat (first | (with_reducible first | exact HB.out | apply bwa | apply bwN | apply bw1 | refine bws ?_ GE400.out | refine bws ?_ GE404.out | refine bws ?_ GE405.out) | exact HB.out))⟩)
            ·skip
             refine Kd.N_lit_step k42 _ 42 ?hg (N' := 63) ?hd (xs := ([(⟨t395, wrap64 (t401 + 1), t397⟩ : S42)] : List (S42))) (inner := [.int .i64 t395, .int .i64 (wrap64 (t401 + 1)), .slice Ao9 t397.length co9]) (ok := (fun k_ => some k_ ≠ (.slice Ao12 t389.length co12 : Value).ownBlock ∧ some k_ ≠ (.slice Ao13 t392.length co13 : Value).ownBlock ∧ some k_ ≠ (.slice Ao46 y412.length co46 : Value).ownBlock ∧ some k_ ≠ (v416 : Value).ownBlock ∧ some k_ ≠ (v419 : Value).ownBlock ∧ k_ ≠ gb400 ∧ k_ ≠ gb404 ∧ k_ ≠ gb405)) (okp := (fun k_ => some k_ ≠ (.slice Ao12 t389.length co12 : Value).ownBlock ∧ some k_ ≠ (.slice Ao13 t392.length co13 : Value).ownBlock ∧ some k_ ≠ (.slice Ao46 y412.length co46 : Value).ownBlock ∧ some k_ ≠ (v416 : Value).ownBlock ∧ some k_ ≠ (v419 : Value).ownBlock ∧ k_ ≠ gb400 ∧ k_ ≠ gb404 ∧ k_ ≠ gb405)) ?hr ?hp (fun _ hk => hk) ((show ∀ k_, w50.heap.size ≤ k_ → (fun k_ => some k_ ≠ (.slice Ao12 t389.length co12 : Value).ownBlock ∧ some k_ ≠ (.slice Ao13 t392.length co13 : Value).ownBlock ∧ some k_ ≠ (.slice Ao46 y412.length co46 : Value).ownBlock ∧ some k_ ≠ (v416 : Value).ownBlock ∧ some k_ ≠ (v419 : Value).ownBlock ∧ k_ ≠ gb400 ∧ k_ ≠ gb404 ∧ k_ ≠ gb405) k_ from fun k_ hk => ⟨Kd.fresh' (Kd.R_lt (by (with_reducible repeat (first | apply Kd.R_alloc | apply Kd.R_drewN | apply Kd.R_drew)); exact HO_3.out)) k_ hk, Kd.fresh' (Kd.N_lt (by (with_reducible repeat (first | apply Kd.N_alloc | apply Kd.N_drewN | apply Kd.N_drew)); exact HO_4.out)) k_ hk, Kd.fresh' (Kd.N_lt (by (with_reducible repeat (first | apply Kd.N_alloc | apply Kd.N_drewN | apply Kd.N_drew)); exact HO414.out)) k_ hk, Kd.fresh' (Kd.N_lt (by (with_reducible repeat (first | apply Kd.N_alloc | apply Kd.N_drewN | apply Kd.N_drew)); exact HO417.out)) k_ hk, Kd.fresh' (Kd.N_lt (by (with_reducible repeat (first | apply Kd.N_alloc | apply Kd.N_drewN | apply Kd.N_drew)); exact HO420.out)) k_ hk, Kd.freshB (g := gb400) (o := .cells #[.int .i64 t395, .int .i64 t396, .slice Ao9 t397.length co9] 42 (0, 0)) (by (with_reducible repeat (first | refine bkN ?_ _ | refine bkd ?_ | refine bka ?_ _)); exact BK400.out) k_ hk, Kd.freshB (g := gb404) (o := .cells #[.int .i64 t395, .int .i64 t401, .slice Ao9 t397.length co9] 42 (0, 0)) (by (with_reducible repeat (first | refine bkN ?_ _ | refine bkd ?_ | refine bka ?_ _)); exact BK404.out) k_ hk, Kd.freshB (g := gb405) (o := .cells #[.int .i64 t395, .int .i64 (wrap64 (t401 + 1)), .slice Ao9 t397.length co9] 42 (0, 0)) (by (with_reducible repeat (first | refine bkN ?_ _ | refine bkd ?_ | refine bka ?_ _)); exact BK405.out) k_ hk⟩) _ (Nat.le_refl _)) (Below.refl _ _) (Nat.le_refl _) (by simp) ?_; (case hd => rfl); (case hg => rfl); (case hr => first | (go_simp; done) | (go_simp; rfl)); (case hp => exact (Reps.c3 (show Kd.FK k42 _ _ (⟨t395, wrap64 (t401 + 1), t397⟩ : S42) [.int .i64 t395, .int .i64 (wrap64 (t401 + 1)), .slice Ao9 t397.length co9] from (k42_mkF _ _ (⟨t395, wrap64 (t401 + 1), t397⟩ : S42) (Kd.V_reads' (have z_ := HO_401002.out; Kd.V_mono (ok' := (fun k_ => some k_ ≠ (.slice Ao12 t389.length co12 : Value).ownBlock ∧ some k_ ≠ (.slice Ao13 t392.length co13 : Value).ownBlock ∧ some k_ ≠ (.slice Ao46 y412.length co46 : Value).ownBlock ∧ some k_ ≠ (v416 : Value).ownBlock ∧ some k_ ≠ (v419 : Value).ownBlock ∧ k_ ≠ gb400 ∧ k_ ≠ gb404 ∧ k_ ≠ gb405)) z_ (fun k_ hk => ⟨hk.1.1.1, ⟨hk.1.1.2.1, ⟨hk.1.1.2.2.1, ⟨hk.1.2, ⟨hk.2, ⟨hk.1.1.2.2.2.1, ⟨hk.1.1.2.2.2.2.1, hk.1.1.2.2.2.2.2⟩⟩⟩⟩⟩⟩⟩))).2.1 (Kd.V_F (have z_ := HO_401002.out; Kd.V_mono (ok' := (fun k_ => some k_ ≠ (.slice Ao12 t389.length co12 : Value).ownBlock ∧ some k_ ≠ (.slice Ao13 t392.length co13 : Value).ownBlock ∧ some k_ ≠ (.slice Ao46 y412.length co46 : Value).ownBlock ∧ some k_ ≠ (v416 : Value).ownBlock ∧ some k_ ≠ (v419 : Value).ownBlock ∧ k_ ≠ gb400 ∧ k_ ≠ gb404 ∧ k_ ≠ gb405)) z_ (fun k_ hk => ⟨hk.1.1.1, ⟨hk.1.1.2.1, ⟨hk.1.1.2.2.1, ⟨hk.1.2, ⟨hk.2, ⟨hk.1.1.2.2.2.1, ⟨hk.1.1.2.2.2.2.1, hk.1.1.2.2.2.2.2⟩⟩⟩⟩⟩⟩⟩))))) (Reps.none _ _)))
             intro v425 w52 ho53 hb hg_ hnew_
             clear hg_ hnew_
             (first | rw [← Ny424.out] at ho53 | (simp only [Int.reduceToNat] at ho53; rw [← Ny424.out] at ho53))
             have n0_ := Ad.mk (Kd.R_below (by (with_reducible repeat (first | apply Kd.R_alloc | apply Kd.R_drewN | apply Kd.R_drew)); exact HO_3.out) hb)
             have n1_ := Ad.mk (Kd.N_elder' (by (with_reducible repeat (first | apply Kd.N_alloc | apply Kd.N_drewN | apply Kd.N_drew)); exact HO_4.out) (Kd.N_base ho53) hb)
             have n2_ := Ad.mk (Kd.V_elder' (by (with_reducible repeat (first | apply Kd.V_alloc | apply Kd.V_drewN | apply Kd.V_drew)); exact HO_401002.out) (Kd.N_base ho53) hb)
             have n3_ := Ad.mk (Kd.N_elder' (by (with_reducible repeat (first | apply Kd.N_alloc | apply Kd.N_drewN | apply Kd.N_drew)); exact HO414.out) (Kd.N_base ho53) hb)
             have n4_ := Ad.mk (Kd.N_elder' (by (with_reducible repeat (first | apply Kd.N_alloc | apply Kd.N_drewN | apply Kd.N_drew)); exact HO417.out) (Kd.N_base ho53) hb)
             have n5_ := Ad.mk (Kd.N_elder' (by (with_reducible repeat (first | apply Kd.N_alloc | apply Kd.N_drewN | apply Kd.N_drew)); exact HO420.out) (Kd.N_base ho53) hb)
             have n6_ := Ad.mk (Kd.N_lower ho53 (qa1 (by repeat (first | (with_reducible first | exact HB.out | apply bwa | apply bwN | apply bw1 | refine bws ?_ GE400.out | refine bws ?_ GE404.out | refine bws ?_ GE405.out) | exact HB.out))))
             have n7_ := Ad.mk (qa6 (g := gb400) (o := .cells #[.int .i64 t395, .int .i64 t396, .slice Ao9 t397.length co9] 42 (0, 0)) (by (with_reducible repeat (first | refine bkN ?_ _ | refine bkd ?_ | refine bka ?_ _)); exact BK400.out) hb)
             have n8_ := Ad.mk (qa6 (g := gb404) (o := .cells #[.int .i64 t395, .int .i64 t401, .slice Ao9 t397.length co9] 42 (0, 0)) (by (with_reducible repeat (first | refine bkN ?_ _ | refine bkd ?_ | refine bka ?_ _)); exact BK404.out) hb)
             have n9_ := Ad.mk (qa6 (g := gb405) (o := .cells #[.int .i64 t395, .int .i64 (wrap64 (t401 + 1)), .slice Ao9 t397.length co9] 42 (0, 0)) (by (with_reducible repeat (first | refine bkN ?_ _ | refine bkd ?_ | refine bka ?_ _)); exact BK405.out) hb)
             have n10_ := Ad.mk (qa5 (by repeat (first | (with_reducible first | exact HB.out | apply bwa | apply bwN | apply bw1 | refine bws ?_ GE400.out | refine bws ?_ GE404.out | refine bws ?_ GE405.out) | exact HB.out)) hb)
             clear HO_3
             clear HO_4
             clear HO_401002
             clear HO414
             clear HO417
             clear HO420
             clear BK400
             clear BK404
             clear BK405
             clear HB
             have HO_3 := n0_
             have HO_4 := n1_
             have HO_401002 := n2_
             have HO414 := n3_
             have HO417 := n4_
             have HO420 := n5_
             have HO426 := n6_
             have BK400 := n7_
             have BK404 := n8_
             have BK405 := n9_
             have HB := n10_
             clear n0_ n1_ n2_ n3_ n4_ n5_ n6_ n7_ n8_ n9_ n10_
             clear hb ho53
             refine hK.out _ _ ⟨(bkc BK405.out 0).trans rfl, (bkc BK405.out 1).trans rfl, (bkc BK405.out 2).trans rfl⟩ (fun hHeld => ?_)
             clear hK K
             refine norm_ (a' := ?_) ?_ ?_
             rotate_left
             ·show Act.put _ (some 63) _ = _
              simp only [Act.put, List.setIfInBounds_toArray, List.set_cons_zero, List.set_cons_succ, qa8, qa9]
              rfl
             refine one_ (i := 2) (N := some 61) #[true, true, true, true, true, false, false] rfl rfl (by kernel_rfl) (by decide) (fun K hK => ?_)
             refine Kd.N_append_rows_step k42 (w0 := w) w.heap.size (by rfl) (.tmp 59) (.tmp 60) 34 42 (.agg #[(.int .i64 0), (.int .i64 0), (.slice none 0 0)]) 40 rfl Try.underlying34 info42 rfl (by decide) (by omega) v419 y418 t392 _ _ _ (fun k_ => some k_ ≠ (.slice Ao12 t389.length co12 : Value).ownBlock ∧ some k_ ≠ (.slice Ao46 y412.length co46 : Value).ownBlock ∧ some k_ ≠ (v416 : Value).ownBlock ∧ some k_ ≠ (v425 : Value).ownBlock ∧ k_ ≠ gb400 ∧ k_ ≠ gb404 ∧ k_ ≠ gb405) (fun k_ => ((fun k_ => some k_ ≠ (.slice Ao12 t389.length co12 : Value).ownBlock ∧ some k_ ≠ (.slice Ao46 y412.length co46 : Value).ownBlock ∧ some k_ ≠ (v416 : Value).ownBlock ∧ some k_ ≠ (v425 : Value).ownBlock ∧ k_ ≠ gb400 ∧ k_ ≠ gb404 ∧ k_ ≠ gb405)) k_ ∧ some k_ ≠ (v419 : Value).ownBlock) rfl rfl ?aO ?aR (fun _ hk => hk) ?aF ?aB ?aS ?aL ?_
             (case aR => exact (by skip; exact Kd.N_F (Kd.N_mono (ok' := (fun k_ => ((fun k_ => some k_ ≠ (.slice Ao12 t389.length co12 : Value).ownBlock ∧ some k_ ≠ (.slice Ao46 y412.length co46 : Value).ownBlock ∧ some k_ ≠ (v416 : Value).ownBlock ∧ some k_ ≠ (v425 : Value).ownBlock ∧ k_ ≠ gb400 ∧ k_ ≠ gb404 ∧ k_ ≠ gb405)) k_ ∧ some k_ ≠ (v419 : Value).ownBlock)) (HO_4.out) (fun k_ hk => ⟨⟨hk.1.1.1.1, ⟨hk.1.1.1.2.1, ⟨hk.1.1.2, ⟨hk.2, ⟨hk.1.1.1.2.2.1, ⟨hk.1.1.1.2.2.2.1, hk.1.1.1.2.2.2.2⟩⟩⟩⟩⟩⟩, hk.1.2⟩))))
             (case aB => exact (by repeat (first | (with_reducible first | exact HB.out | apply bwa | apply bwN | apply bw1 | refine bws ?_ GE400.out | refine bws ?_ GE404.out | refine bws ?_ GE405.out) | exact HB.out)))
             (case aF => exact (fun k_ hk => ⟨Kd.fresh' (Kd.R_lt (by (with_reducible repeat (first | apply Kd.R_alloc | apply Kd.R_drewN | apply Kd.R_drew)); exact HO_3.out)) k_ hk, Kd.fresh' (Kd.N_lt (by (with_reducible repeat (first | apply Kd.N_alloc | apply Kd.N_drewN | apply Kd.N_drew)); exact HO414.out)) k_ hk, Kd.fresh' (Kd.N_lt (by (with_reducible repeat (first | apply Kd.N_alloc | apply Kd.N_drewN | apply Kd.N_drew)); exact HO417.out)) k_ hk, Kd.fresh' (Kd.N_lt (by (with_reducible repeat (first | apply Kd.N_alloc | apply Kd.N_drewN | apply Kd.N_drew)); exact HO426.out)) k_ hk, Kd.freshB (g := gb400) (o := .cells #[.int .i64 t395, .int .i64 t396, .slice Ao9 t397.length co9] 42 (0, 0)) (by (with_reducible repeat (first | refine bkN ?_ _ | refine bkd ?_ | refine bka ?_ _)); exact BK400.out) k_ hk, Kd.freshB (g := gb404) (o := .cells #[.int .i64 t395, .int .i64 t401, .slice Ao9 t397.length co9] 42 (0, 0)) (by (with_reducible repeat (first | refine bkN ?_ _ | refine bkd ?_ | refine bka ?_ _)); exact BK404.out) k_ hk, Kd.freshB (g := gb405) (o := .cells #[.int .i64 t395, .int .i64 (wrap64 (t401 + 1)), .slice Ao9 t397.length co9] 42 (0, 0)) (by (with_reducible repeat (first | refine bkN ?_ _ | refine bkd ?_ | refine bka ?_ _)); exact BK405.out) k_ hk⟩))
             (case aO => exact (by (with_reducible repeat (first | apply Kd.N_alloc | apply Kd.N_drewN | apply Kd.N_drew)); exact Kd.N_mono HO420.out (fun _ hk => ⟨hk.1.1, ⟨hk.1.2.2.1, ⟨hk.1.2.2.2.1, ⟨hk.2, ⟨hk.1.2.2.2.2.1, ⟨hk.1.2.2.2.2.2.1, hk.1.2.2.2.2.2.2⟩⟩⟩⟩⟩⟩)))
             (case aS => exact (qa1 (by repeat (first | (with_reducible first | exact HB.out | apply bwa | apply bwN | apply bw1 | refine bws ?_ GE400.out | refine bws ?_ GE404.out | refine bws ?_ GE405.out) | exact HB.out))))
             (case aL => have := LMc47.out; omega)
             intro v422 w54 ho hb hg hat
             rw [← Ny421.out] at ho
             have n0_ := Ad.mk (Kd.R_over' (by (with_reducible repeat (first | apply Kd.R_alloc | apply Kd.R_drewN | apply Kd.R_drew)); exact HO_3.out) (Kd.N_typed (by (with_reducible repeat (first | apply Kd.N_alloc | apply Kd.N_drewN | apply Kd.N_drew)); exact HO420.out)) (by decide) hg)
             have n1_ := Ad.mk (Kd.N_afterv (ok := (fun k_ => some k_ ≠ (.slice Ao12 t389.length co12 : Value).ownBlock ∧ some k_ ≠ (.slice Ao46 y412.length co46 : Value).ownBlock ∧ some k_ ≠ (v416 : Value).ownBlock ∧ some k_ ≠ (v425 : Value).ownBlock ∧ k_ ≠ gb400 ∧ k_ ≠ gb404 ∧ k_ ≠ gb405)) (by (with_reducible repeat (first | apply Kd.N_alloc | apply Kd.N_drewN | apply Kd.N_drew)); exact Kd.N_mono HO_4.out (fun _ hk => ⟨⟨hk.1.1.1.1, ⟨hk.1.1.1.2.1, ⟨hk.1.1.2, ⟨hk.2, ⟨hk.1.1.1.2.2.1, ⟨hk.1.1.1.2.2.2.1, hk.1.1.1.2.2.2.2⟩⟩⟩⟩⟩⟩, hk.1.2⟩)) hg hat)
             have n2_ := Ad.mk (Kd.V_afterv (ok := (fun k_ => some k_ ≠ (.slice Ao12 t389.length co12 : Value).ownBlock ∧ some k_ ≠ (.slice Ao13 t392.length co13 : Value).ownBlock ∧ some k_ ≠ (.slice Ao46 y412.length co46 : Value).ownBlock ∧ some k_ ≠ (v416 : Value).ownBlock ∧ some k_ ≠ (v425 : Value).ownBlock ∧ k_ ≠ gb400 ∧ k_ ≠ gb404 ∧ k_ ≠ gb405)) (by (with_reducible repeat (first | apply Kd.V_alloc | apply Kd.V_drewN | apply Kd.V_drew)); exact Kd.V_mono HO_401002.out (fun _ hk => ⟨⟨hk.1.1.1.1, ⟨hk.1.1.1.2.1, ⟨hk.1.1.1.2.2.1, ⟨hk.1.1.2, ⟨hk.2, ⟨hk.1.1.1.2.2.2.1, ⟨hk.1.1.1.2.2.2.2.1, hk.1.1.1.2.2.2.2.2⟩⟩⟩⟩⟩⟩⟩, hk.1.2⟩)) hg hat)
             have n3_ := Ad.mk (blk_grown (g := gb400) (o := .cells #[.int .i64 t395, .int .i64 t396, .slice Ao9 t397.length co9] 42 (0, 0)) (by (with_reducible repeat (first | refine bkN ?_ _ | refine bkd ?_ | refine bka ?_ _)); exact BK400.out) hg (Kd.N_away HO420.out (fun _ hk => hk.1.2.2.2.2.1)))
             have n4_ := Ad.mk (blk_grown (g := gb404) (o := .cells #[.int .i64 t395, .int .i64 t401, .slice Ao9 t397.length co9] 42 (0, 0)) (by (with_reducible repeat (first | refine bkN ?_ _ | refine bkd ?_ | refine bka ?_ _)); exact BK404.out) hg (Kd.N_away HO420.out (fun _ hk => hk.1.2.2.2.2.2.1)))
             have n5_ := Ad.mk (blk_grown (g := gb405) (o := .cells #[.int .i64 t395, .int .i64 (wrap64 (t401 + 1)), .slice Ao9 t397.length co9] 42 (0, 0)) (by (with_reducible repeat (first | refine bkN ?_ _ | refine bkd ?_ | refine bka ?_ _)); exact BK405.out) hg (Kd.N_away HO420.out (fun _ hk => hk.1.2.2.2.2.2.2)))
             have n6_ := Ad.mk (Kd.N_afterv (ok := (fun k_ => some k_ ≠ (.slice Ao12 t389.length co12 : Value).ownBlock ∧ some k_ ≠ (.slice Ao13 t392.length co13 : Value).ownBlock ∧ some k_ ≠ (v416 : Value).ownBlock ∧ some k_ ≠ (v425 : Value).ownBlock ∧ k_ ≠ gb400 ∧ k_ ≠ gb404 ∧ k_ ≠ gb405)) (by (with_reducible repeat (first | apply Kd.N_alloc | apply Kd.N_drewN | apply Kd.N_drew)); exact Kd.N_mono HO414.out (fun _ hk => ⟨⟨hk.1.1.1.1, ⟨hk.1.1.1.2.1, ⟨hk.1.1.2, ⟨hk.2, ⟨hk.1.1.1.2.2.1, ⟨hk.1.1.1.2.2.2.1, hk.1.1.1.2.2.2.2⟩⟩⟩⟩⟩⟩, hk.1.2⟩)) hg hat)
             have n7_ := Ad.mk (Kd.N_afterv (ok := (fun k_ => some k_ ≠ (.slice Ao12 t389.length co12 : Value).ownBlock ∧ some k_ ≠ (v425 : Value).ownBlock ∧ k_ ≠ gb400 ∧ k_ ≠ gb404 ∧ k_ ≠ gb405)) (by (with_reducible repeat (first | apply Kd.N_alloc | apply Kd.N_drewN | apply Kd.N_drew)); exact Kd.N_mono HO417.out (fun _ hk => ⟨⟨hk.1.1.1, ⟨hk.2, ⟨hk.1.1.2.1, ⟨hk.1.1.2.2.1, hk.1.1.2.2.2⟩⟩⟩⟩, hk.1.2⟩)) hg hat)
             have n8_ := Ad.mk (Kd.N_afterv (ok := (fun k_ => some k_ ≠ (.slice Ao12 t389.length co12 : Value).ownBlock ∧ some k_ ≠ (.slice Ao13 t392.length co13 : Value).ownBlock ∧ some k_ ≠ (.slice Ao46 y412.length co46 : Value).ownBlock ∧ some k_ ≠ (v416 : Value).ownBlock ∧ k_ ≠ gb400 ∧ k_ ≠ gb404 ∧ k_ ≠ gb405)) (by (with_reducible repeat (first | apply Kd.N_alloc | apply Kd.N_drewN | apply Kd.N_drew)); exact Kd.N_mono HO426.out (fun _ hk => ⟨⟨hk.1, ⟨hk.2.1, ⟨hk.2.2.1, ⟨hk.2.2.2.1, ⟨hk.2.2.2.2.2.1, ⟨hk.2.2.2.2.2.2.1, hk.2.2.2.2.2.2.2⟩⟩⟩⟩⟩⟩, hk.2.2.2.2.1⟩)) hg hat)
             have n9_ := Ad.mk (hb)
             have n10_ := Ad.mk (ho)
             clear HO_3
             clear HO_4
             clear HO_401002
             clear BK400
             clear BK404
             clear BK405
             clear HO414
             clear HO417
             clear HO426
             clear HB
             clear HO420
             have HO_3 := n0_
             have HO_4 := n1_
             have HO_401002 := n2_
             have BK400 := n3_
             have BK404 := n4_
             have BK405 := n5_
             have HO414 := n6_
             have HO417 := n7_
             have HO426 := n8_
             have HB := n9_
             have HO423 := n10_
             clear n0_ n1_ n2_ n3_ n4_ n5_ n6_ n7_ n8_ n9_ n10_
             clear ho hb hg hat
             refine hK.out _ _ ⟨(bkc BK405.out 0).trans rfl, (bkc BK405.out 1).trans rfl, (bkc BK405.out 2).trans rfl⟩ (fun hHeld => ?_)
             clear hK K
             refine norm_ (a' := ?_) ?_ ?_
             rotate_left
             ·show Act.put _ (some 61) _ = _
              simp only [Act.put, List.setIfInBounds_toArray, List.set_cons_zero, List.set_cons_succ, qa8, qa9]
              rfl
             exact norm_ (by simp only [putAll, Act.put, List.setIfInBounds_toArray, List.set_cons_zero, List.set_cons_succ]) (hCont (v419, v422, v425) _ ⟨hHeld, (by (with_reducible repeat (first | apply Kd.N_alloc | apply Kd.N_drewN | apply Kd.N_drew)); exact Kd.N_mono HO414.out (fun _ hk => ⟨hk.1.2.2.1, ⟨hk.2, ⟨hk.1.2.2.2.1, ⟨hk.1.1, ⟨hk.1.2.1, ⟨hk.1.2.2.2.2.1, ⟨hk.1.2.2.2.2.2.1, hk.1.2.2.2.2.2.2⟩⟩⟩⟩⟩⟩⟩)), (by (with_reducible repeat (first | apply Kd.N_alloc | apply Kd.N_drewN | apply Kd.N_drew)); exact Kd.N_mono HO417.out (fun _ hk => ⟨hk.2, ⟨hk.1.2.1, ⟨hk.1.1, ⟨hk.1.2.2.1, ⟨hk.1.2.2.2.1, hk.1.2.2.2.2⟩⟩⟩⟩⟩)), (by (with_reducible repeat (first | apply Kd.N_alloc | apply Kd.N_drewN | apply Kd.N_drew)); exact Kd.N_mono HO423.out (fun _ hk => ⟨hk.2.1, ⟨hk.2.2.1, ⟨hk.2.2.2.1, ⟨hk.1, ⟨hk.2.2.2.2.1, ⟨hk.2.2.2.2.2.1, hk.2.2.2.2.2.2⟩⟩⟩⟩⟩⟩)), (by (with_reducible repeat (first | apply Kd.N_alloc | apply Kd.N_drewN | apply Kd.N_drew)); exact Kd.N_mono HO426.out (fun _ hk => ⟨hk.1.2.2.1, ⟨hk.1.2.2.2.1, ⟨hk.2, ⟨hk.1.1, ⟨hk.1.2.1, ⟨hk.1.2.2.2.2.1, ⟨hk.1.2.2.2.2.2.1, hk.1.2.2.2.2.2.2⟩⟩⟩⟩⟩⟩⟩)), (by (with_reducible repeat (first | apply Kd.R_alloc | apply Kd.R_drewN | apply Kd.R_drew)); exact HO_3.out), (by (with_reducible repeat (first | apply Kd.N_alloc | apply Kd.N_drewN | apply Kd.N_drew)); exact Kd.N_mono HO_4.out (fun _ hk => ⟨hk.1.2.1, ⟨hk.1.2.2.1, ⟨hk.2, ⟨hk.1.2.2.2.1, ⟨hk.1.1, ⟨hk.1.2.2.2.2.1, ⟨hk.1.2.2.2.2.2.1, hk.1.2.2.2.2.2.2⟩⟩⟩⟩⟩⟩⟩)), (by (with_reducible repeat (first | apply Kd.V_alloc | apply Kd.V_drewN | apply Kd.V_drew)); exact Kd.V_mono HO_401002.out (fun _ hk => ⟨hk.1.2.2.1, ⟨hk.1.2.2.2.1, ⟨hk.2, ⟨hk.1.2.2.2.2.1, ⟨hk.1.1, ⟨hk.1.2.1, ⟨hk.1.2.2.2.2.2.1, ⟨hk.1.2.2.2.2.2.2.1, hk.1.2.2.2.2.2.2.2⟩⟩⟩⟩⟩⟩⟩⟩)), (by (with_reducible repeat (first | refine bkN ?_ _ | refine bkd ?_ | refine bka ?_ _)); exact BK400.out), (by (with_reducible repeat (first | refine bkN ?_ _ | refine bkd ?_ | refine bka ?_ _)); exact BK404.out), (by (with_reducible repeat (first | refine bkN ?_ _ | refine bkd ?_ | refine bka ?_ _)); exact BK405.out), (by repeat (first | (with_reducible first | exact HB.out | apply bwa | apply bwN | apply bw1 | refine bws ?_ GE400.out | refine bws ?_ GE404.out | refine bws ?_ GE405.out) | exact HB.out))⟩)
           ·skip
            refine Kd.N_lit_step k42 _ 42 ?hg (N' := 63) ?hd (xs := ([(⟨t395, wrap64 (t401 + 1), t397⟩ : S42)] : List (S42))) (inner := [.int .i64 t395, .int .i64 (wrap64 (t401 + 1)), .slice Ao9 t397.length co9]) (ok := (fun k_ => some k_ ≠ (.slice Ao12 t389.length co12 : Value).ownBlock ∧ some k_ ≠ (.slice Ao13 t392.length co13 : Value).ownBlock ∧ some k_ ≠ (.slice Ao46 y412.length co46 : Value).ownBlock ∧ some k_ ≠ (v416 : Value).ownBlock ∧ k_ ≠ gb400 ∧ k_ ≠ gb404 ∧ k_ ≠ gb405)) (okp := (fun k_ => some k_ ≠ (.slice Ao12 t389.length co12 : Value).ownBlock ∧ some k_ ≠ (.slice Ao13 t392.length co13 : Value).ownBlock ∧ some k_ ≠ (.slice Ao46 y412.length co46 : Value).ownBlock ∧ some k_ ≠ (v416 : Value).ownBlock ∧ k_ ≠ gb400 ∧ k_ ≠ gb404 ∧ k_ ≠ gb405)) ?hr ?hp (fun _ hk => hk) ((show ∀ k_, w49.heap.size ≤ k_ → (fun k_ => some k_ ≠ (.slice Ao12 t389.length co12 : Value).ownBlock ∧ some k_ ≠ (.slice Ao13 t392.length co13 : Value).ownBlock ∧ some k_ ≠ (.slice Ao46 y412.length co46 : Value).ownBlock ∧ some k_ ≠ (v416 : Value).ownBlock ∧ k_ ≠ gb400 ∧ k_ ≠ gb404 ∧ k_ ≠ gb405) k_ from fun k_ hk => ⟨Kd.fresh' (Kd.R_lt (by (with_reducible repeat (first | apply Kd.R_alloc | apply Kd.R_drewN | apply Kd.R_drew)); exact HO_3.out)) k_ hk, Kd.fresh' (Kd.N_lt (by (with_reducible repeat (first | apply Kd.N_alloc | apply Kd.N_drewN | apply Kd.N_drew)); exact HO_4.out)) k_ hk, Kd.fresh' (Kd.N_lt (by (with_reducible repeat (first | apply Kd.N_alloc | apply Kd.N_drewN | apply Kd.N_drew)); exact HO414.out)) k_ hk, Kd.fresh' (Kd.N_lt (by (with_reducible repeat (first | apply Kd.N_alloc | apply Kd.N_drewN | apply Kd.N_drew)); exact HO417.out)) k_ hk, Kd.freshB (g := gb400) (o := .cells #[.int .i64 t395, .int .i64 t396, .slice Ao9 t397.length co9] 42 (0, 0)) (by (with_reducible repeat (first | refine bkN ?_ _ | refine bkd ?_ | refine bka ?_ _)); exact BK400.out) k_ hk, Kd.freshB (g := gb404) (o := .cells #[.int .i64 t395, .int .i64 t401, .slice Ao9 t397.length co9] 42 (0, 0)) (by (with_reducible repeat (first | refine bkN ?_ _ | refine bkd ?_ | refine bka ?_ _)); exact BK404.out) k_ hk, Kd.freshB (g := gb405) (o := .cells #[.int .i64 t395, .int .i64 (wrap64 (t401 + 1)), .slice Ao9 t397.length co9] 42 (0, 0)) (by (with_reducible repeat (first | refine bkN ?_ _ | refine bkd ?_ | refine bka ?_ _)); exact BK405.out) k_ hk⟩) _ (Nat.le_refl _)) (Below.refl _ _) (Nat.le_refl _) (by simp) ?_; (case hd => rfl); (case hg => rfl); (case hr => first | (go_simp; done) | (go_simp; rfl)); (case hp => exact (Reps.c3 (show Kd.FK k42 _ _ (⟨t395, wrap64 (t401 + 1), t397⟩ : S42) [.int .i64 t395, .int .i64 (wrap64 (t401 + 1)), .slice Ao9 t397.length co9] from (k42_mkF _ _ (⟨t395, wrap64 (t401 + 1), t397⟩ : S42) (Kd.V_reads' (have z_ := HO_401002.out; Kd.V_mono (ok' := (fun k_ => some k_ ≠ (.slice Ao12 t389.length co12 : Value).ownBlock ∧ some k_ ≠ (.slice Ao13 t392.length co13 : Value).ownBlock ∧ some k_ ≠ (.slice Ao46 y412.length co46 : Value).ownBlock ∧ some k_ ≠ (v416 : Value).ownBlock ∧ k_ ≠ gb400 ∧ k_ ≠ gb404 ∧ k_ ≠ gb405)) z_ (fun k_ hk => ⟨hk.1.1, ⟨hk.1.2.1, ⟨hk.1.2.2.1, ⟨hk.2, ⟨hk.1.2.2.2.1, ⟨hk.1.2.2.2.2.1, hk.1.2.2.2.2.2⟩⟩⟩⟩⟩⟩))).2.1 (Kd.V_F (have z_ := HO_401002.out; Kd.V_mono (ok' := (fun k_ => some k_ ≠ (.slice Ao12 t389.length co12 : Value).ownBlock ∧ some k_ ≠ (.slice Ao13 t392.length co13 : Value).ownBlock ∧ some k_ ≠ (.slice Ao46 y412.length co46 : Value).ownBlock ∧ some k_ ≠ (v416 : Value).ownBlock ∧ k_ ≠ gb400 ∧ k_ ≠ gb404 ∧ k_ ≠ gb405)) z_ (fun k_ hk => ⟨hk.1.1, ⟨hk.1.2.1, ⟨hk.1.2.2.1, ⟨hk.2, ⟨hk.1.2.2.2.1, ⟨hk.1.2.2.2.2.1, hk.1.2.2.2.2.2⟩⟩⟩⟩⟩⟩))))) (Reps.none _ _)))
            intro v425 w50 ho51 hb hg_ hnew_
            clear hg_ hnew_
            (first | rw [← Ny424.out] at ho51 | (simp only [Int.reduceToNat] at ho51; rw [← Ny424.out] at ho51))
            have n0_ := Ad.mk (Kd.R_below (by (with_reducible repeat (first | apply Kd.R_alloc | apply Kd.R_drewN | apply Kd.R_drew)); exact HO_3.out) hb)
            have n1_ := Ad.mk (Kd.N_elder' (by (with_reducible repeat (first | apply Kd.N_alloc | apply Kd.N_drewN | apply Kd.N_drew)); exact HO_4.out) (Kd.N_base ho51) hb)
            have n2_ := Ad.mk (Kd.V_elder' (by (with_reducible repeat (first | apply Kd.V_alloc | apply Kd.V_drewN | apply Kd.V_drew)); exact HO_401002.out) (Kd.N_base ho51) hb)
            have n3_ := Ad.mk (Kd.N_elder' (by (with_reducible repeat (first | apply Kd.N_alloc | apply Kd.N_drewN | apply Kd.N_drew)); exact HO414.out) (Kd.N_base ho51) hb)
            have n4_ := Ad.mk (Kd.N_elder' (by (with_reducible repeat (first | apply Kd.N_alloc | apply Kd.N_drewN | apply Kd.N_drew)); exact HO417.out) (Kd.N_base ho51) hb)
            have n5_ := Ad.mk (Kd.N_lower ho51 (qa1 (by repeat (first | (with_reducible first | exact HB.out | apply bwa | apply bwN | apply bw1 | refine bws ?_ GE400.out | refine bws ?_ GE404.out | refine bws ?_ GE405.out) | exact HB.out))))
            have n6_ := Ad.mk (qa6 (g := gb400) (o := .cells #[.int .i64 t395, .int .i64 t396, .slice Ao9 t397.length co9] 42 (0, 0)) (by (with_reducible repeat (first | refine bkN ?_ _ | refine bkd ?_ | refine bka ?_ _)); exact BK400.out) hb)
            have n7_ := Ad.mk (qa6 (g := gb404) (o := .cells #[.int .i64 t395, .int .i64 t401, .slice Ao9 t397.length co9] 42 (0, 0)) (by (with_reducible repeat (first | refine bkN ?_ _ | refine bkd ?_ | refine bka ?_ _)); exact BK404.out) hb)
            have n8_ := Ad.mk (qa6 (g := gb405) (o := .cells #[.int .i64 t395, .int .i64 (wrap64 (t401 + 1)), .slice Ao9 t397.length co9] 42 (0, 0)) (by (with_reducible repeat (first | refine bkN ?_ _ | refine bkd ?_ | refine bka ?_ _)); exact BK405.out) hb)
            have n9_ := Ad.mk (qa5 (by repeat (first | (with_reducible first | exact HB.out | apply bwa | apply bwN | apply bw1 | refine bws ?_ GE400.out | refine bws ?_ GE404.out | refine bws ?_ GE405.out) | exact HB.out)) hb)
            clear HO_3
            clear HO_4
            clear HO_401002
            clear HO414
            clear HO417
            clear BK400
            clear BK404
            clear BK405
            clear HB
            have HO_3 := n0_
            have HO_4 := n1_
            have HO_401002 := n2_
            have HO414 := n3_
            have HO417 := n4_
            have HO426 := n5_
            have BK400 := n6_
            have BK404 := n7_
            have BK405 := n8_
            have HB := n9_
            clear n0_ n1_ n2_ n3_ n4_ n5_ n6_ n7_ n8_ n9_
            clear hb ho51
            refine hK.out _ _ ⟨(bkc BK405.out 0).trans rfl, (bkc BK405.out 1).trans rfl, (bkc BK405.out 2).trans rfl⟩ (fun hHeld => ?_)
            clear hK K
            refine norm_ (a' := ?_) ?_ ?_
            rotate_left
            ·show Act.put _ (some 63) _ = _
             simp only [Act.put, List.setIfInBounds_toArray, List.set_cons_zero, List.set_cons_succ, qa8, qa9]
             rfl
            refine one_ (i := 0) (N := some 59) #[true, true, false, true, true, false, false] rfl rfl (by kernel_rfl) (by decide) (fun K hK => ?_)
            refine Kd.N_lit_step k42 _ 42 ?hg (N' := 59) ?hd (xs := ([] : List (S42))) (inner := []) (ok := (fun k_ => some k_ ≠ (.slice Ao12 t389.length co12 : Value).ownBlock ∧ some k_ ≠ (.slice Ao13 t392.length co13 : Value).ownBlock ∧ some k_ ≠ (.slice Ao46 y412.length co46 : Value).ownBlock ∧ some k_ ≠ (v416 : Value).ownBlock ∧ some k_ ≠ (v425 : Value).ownBlock ∧ k_ ≠ gb400 ∧ k_ ≠ gb404 ∧ k_ ≠ gb405)) (okp := (fun k_ => some k_ ≠ (.slice Ao12 t389.length co12 : Value).ownBlock ∧ some k_ ≠ (.slice Ao13 t392.length co13 : Value).ownBlock ∧ some k_ ≠ (.slice Ao46 y412.length co46 : Value).ownBlock ∧ some k_ ≠ (v416 : Value).ownBlock ∧ some k_ ≠ (v425 : Value).ownBlock ∧ k_ ≠ gb400 ∧ k_ ≠ gb404 ∧ k_ ≠ gb405)) ?hr ?hp (fun _ hk => hk) ((show ∀ k_, w50.heap.size ≤ k_ → (fun k_ => some k_ ≠ (.slice Ao12 t389.length co12 : Value).ownBlock ∧ some k_ ≠ (.slice Ao13 t392.length co13 : Value).ownBlock ∧ some k_ ≠ (.slice Ao46 y412.length co46 : Value).ownBlock ∧ some k_ ≠ (v416 : Value).ownBlock ∧ some k_ ≠ (v425 : Value).ownBlock ∧ k_ ≠ gb400 ∧ k_ ≠ gb404 ∧ k_ ≠ gb405) k_ from fun k_ hk => ⟨Kd.fresh' (Kd.R_lt (by (with_reducible repeat (first | apply Kd.R_alloc | apply Kd.R_drewN | apply Kd.R_drew)); exact HO_3.out)) k_ hk, Kd.fresh' (Kd.N_lt (by (with_reducible repeat (first | apply Kd.N_alloc | apply Kd.N_drewN | apply Kd.N_drew)); exact HO_4.out)) k_ hk, Kd.fresh' (Kd.N_lt (by (with_reducible repeat (first | apply Kd.N_alloc | apply Kd.N_drewN | apply Kd.N_drew)); exact HO414.out)) k_ hk, Kd.fresh' (Kd.N_lt (by (with_reducible repeat (first | apply Kd.N_alloc | apply Kd.N_drewN | apply Kd.N_drew)); exact HO417.out)) k_ hk, Kd.fresh' (Kd.N_lt (by (with_reducible repeat (first | apply Kd.N_alloc | apply Kd.N_drewN | apply Kd.N_drew)); exact HO426.out)) k_ hk, Kd.freshB (g := gb400) (o := .cells #[.int .i64 t395, .int .i64 t396, .slice Ao9 t397.length co9] 42 (0, 0)) (by (with_reducible repeat (first | refine bkN ?_ _ | refine bkd ?_ | refine bka ?_ _)); exact BK400.out) k_ hk, Kd.freshB (g := gb404) (o := .cells #[.int .i64 t395, .int .i64 t401, .slice Ao9 t397.length co9] 42 (0, 0)) (by (with_reducible repeat (first | refine bkN ?_ _ | refine bkd ?_ | refine bka ?_ _)); exact BK404.out) k_ hk, Kd.freshB (g := gb405) (o := .cells #[.int .i64 t395, .int .i64 (wrap64 (t401 + 1)), .slice Ao9 t397.length co9] 42 (0, 0)) (by (with_reducible repeat (first | refine bkN ?_ _ | refine bkd ?_ | refine bka ?_ _)); exact BK405.out) k_ hk⟩) _ (Nat.le_refl _)) (Below.refl _ _) (Nat.le_refl _) (by simp) ?_; (case hd => rfl); (case hg => rfl); (case hr => first | (go_simp; done) | (go_simp; rfl)); (case hp => exact (Reps.none _ _))
            intro v419 w52 ho53 hb hg_ hnew_
            clear hg_ hnew_
            (first | rw [← Ny418.out] at ho53 | (simp only [Int.reduceToNat] at ho53; rw [← Ny418.out] at ho53))
            have n0_ := Ad.mk (Kd.R_below (by (with_reducible repeat (first | apply Kd.R_alloc | apply Kd.R_drewN | apply Kd.R_drew)); exact HO_3.out) hb)
            have n1_ := Ad.mk (Kd.N_elder' (by (with_reducible repeat (first | apply Kd.N_alloc | apply Kd.N_drewN | apply Kd.N_drew)); exact HO_4.out) (Kd.N_base ho53) hb)
            have n2_ := Ad.mk (Kd.V_elder' (by (with_reducible repeat (first | apply Kd.V_alloc | apply Kd.V_drewN | apply Kd.V_drew)); exact HO_401002.out) (Kd.N_base ho53) hb)
            have n3_ := Ad.mk (Kd.N_elder' (by (with_reducible repeat (first | apply Kd.N_alloc | apply Kd.N_drewN | apply Kd.N_drew)); exact HO414.out) (Kd.N_base ho53) hb)
            have n4_ := Ad.mk (Kd.N_elder' (by (with_reducible repeat (first | apply Kd.N_alloc | apply Kd.N_drewN | apply Kd.N_drew)); exact HO417.out) (Kd.N_base ho53) hb)
            have n5_ := Ad.mk (Kd.N_elder' (by (with_reducible repeat (first | apply Kd.N_alloc | apply Kd.N_drewN | apply Kd.N_drew)); exact HO426.out) (Kd.N_base ho53) hb)
            have n6_ := Ad.mk (Kd.N_lower ho53 (qa1 (by repeat (first | (with_reducible first | exact HB.out | apply bwa | apply bwN | apply bw1 | refine bws ?_ GE400.out | refine bws ?_ GE404.out | refine bws ?_ GE405.out) | exact HB.out))))
            have n7_ := Ad.mk (qa6 (g := gb400) (o := .cells #[.int .i64 t395, .int .i64 t396, .slice Ao9 t397.length co9] 42 (0, 0)) (by (with_reducible repeat (first | refine bkN ?_ _ | refine bkd ?_ | refine bka ?_ _)); exact BK400.out) hb)
            have n8_ := Ad.mk (qa6 (g := gb404) (o := .cells #[.int .i64 t395, .int .i64 t401, .slice Ao9 t397.length co9] 42 (0, 0)) (by (with_reducible repeat (first | refine bkN ?_ _ | refine bkd ?_ | refine bka ?_ _)); exact BK404.out) hb)
            have n9_ := Ad.mk (qa6 (g := gb405) (o := .cells #[.int .i64 t395, .int .i64 (wrap64 (t401 + 1)), .slice Ao9 t397.length co9] 42 (0, 0)) (by (with_reducible repeat (first | refine bkN ?_ _ | refine bkd ?_ | refine bka ?_ _)); exact BK405.out) hb)
            have n10_ := Ad.mk (qa5 (by repeat (first | (with_reducible first | exact HB.out | apply bwa | apply bwN | apply bw1 | refine bws ?_ GE400.out | refine bws ?_ GE404.out | refine bws ?_ GE405.out) | exact HB.out)) hb)
            clear HO_3
            clear HO_4
            clear HO_401002
            clear HO414
            clear HO417
            clear HO426
            clear BK400
            clear BK404
            clear BK405
            clear HB
            have HO_3 := n0_
            have HO_4 := n1_
            have HO_401002 := n2_
            have HO414 := n3_
            have HO417 := n4_
            have HO426 := n5_
            have HO420 := n6_
            have BK400 := n7_
            have BK404 := n8_
            have BK405 := n9_
            have HB := n10_
            clear n0_ n1_ n2_ n3_ n4_ n5_ n6_ n7_ n8_ n9_ n10_
            clear hb ho53
            refine hK.out _ _ ⟨(bkc BK405.out 0).trans rfl, (bkc BK405.out 1).trans rfl, (bkc BK405.out 2).trans rfl⟩ (fun hHeld => ?_)
            clear hK K
            refine norm_ (a' := ?_) ?_ ?_
            rotate_left
            ·show Act.put _ (some 59) _ = _
             simp only [Act.put, List.setIfInBounds_toArray, List.set_cons_zero, List.set_cons_succ, qa8, qa9]
             rfl
            refine one_ (i := 2) (N := some 61) #[true, true, true, true, true, false, false] rfl rfl (by kernel_rfl) (by decide) (fun K hK => ?_)
            refine Kd.N_append_rows_step k42 (w0 := w) w.heap.size (by rfl) (.tmp 59) (.tmp 60) 34 42 (.agg #[(.int .i64 0), (.int .i64 0), (.slice none 0 0)]) 40 rfl Try.underlying34 info42 rfl (by decide) (by omega) v419 y418 t392 _ _ _ (fun k_ => some k_ ≠ (.slice Ao12 t389.length co12 : Value).ownBlock ∧ some k_ ≠ (.slice Ao46 y412.length co46 : Value).ownBlock ∧ some k_ ≠ (v416 : Value).ownBlock ∧ some k_ ≠ (v425 : Value).ownBlock ∧ k_ ≠ gb400 ∧ k_ ≠ gb404 ∧ k_ ≠ gb405) (fun k_ => ((fun k_ => some k_ ≠ (.slice Ao12 t389.length co12 : Value).ownBlock ∧ some k_ ≠ (.slice Ao46 y412.length co46 : Value).ownBlock ∧ some k_ ≠ (v416 : Value).ownBlock ∧ some k_ ≠ (v425 : Value).ownBlock ∧ k_ ≠ gb400 ∧ k_ ≠ gb404 ∧ k_ ≠ gb405)) k_ ∧ some k_ ≠ (v419 : Value).ownBlock) rfl rfl ?aO ?aR (fun _ hk => hk) ?aF ?aB ?aS ?aL ?_
            (case aR => exact (by skip; exact Kd.N_F (Kd.N_mono (ok' := (fun k_ => ((fun k_ => some k_ ≠ (.slice Ao12 t389.length co12 : Value).ownBlock ∧ some k_ ≠ (.slice Ao46 y412.length co46 : Value).ownBlock ∧ some k_ ≠ (v416 : Value).ownBlock ∧ some k_ ≠ (v425 : Value).ownBlock ∧ k_ ≠ gb400 ∧ k_ ≠ gb404 ∧ k_ ≠ gb405)) k_ ∧ some k_ ≠ (v419 : Value).ownBlock)) (HO_4.out) (fun k_ hk => ⟨⟨hk.1.1.1.1, ⟨hk.1.1.1.2.1, ⟨hk.1.1.2, ⟨hk.1.2, ⟨hk.1.1.1.2.2.1, ⟨hk.1.1.1.2.2.2.1, hk.1.1.1.2.2.2.2⟩⟩⟩⟩⟩⟩, hk.2⟩))))
            (case aB => exact (by repeat (first | (with_reducible first | exact HB.out | apply bwa | apply bwN | apply bw1 | refine bws ?_ GE400.out | refine bws ?_ GE404.out | refine bws ?_ GE405.out) | exact HB.out)))
            (case aF => exact (fun k_ hk => ⟨Kd.fresh' (Kd.R_lt (by (with_reducible repeat (first | apply Kd.R_alloc | apply Kd.R_drewN | apply Kd.R_drew)); exact HO_3.out)) k_ hk, Kd.fresh' (Kd.N_lt (by (with_reducible repeat (first | apply Kd.N_alloc | apply Kd.N_drewN | apply Kd.N_drew)); exact HO414.out)) k_ hk, Kd.fresh' (Kd.N_lt (by (with_reducible repeat (first | apply Kd.N_alloc | apply Kd.N_drewN | apply Kd.N_drew)); exact HO417.out)) k_ hk, Kd.fresh' (Kd.N_lt (by (with_reducible repeat (first | apply Kd.N_alloc | apply Kd.N_drewN | apply Kd.N_drew)); exact HO426.out)) k_ hk, Kd.freshB (g := gb400) (o := .cells #[.int .i64 t395, .int .i64 t396, .slice Ao9 t397.length co9] 42 (0, 0)) (by (with_reducible repeat (first | refine bkN ?_ _ | refine bkd ?_ | refine bka ?_ _)); exact BK400.out) k_ hk, Kd.freshB (g := gb404) (o := .cells #[.int .i64 t395, .int .i64 t401, .slice Ao9 t397.length co9] 42 (0, 0)) (by (with_reducible repeat (first | refine bkN ?_ _ | refine bkd ?_ | refine bka ?_ _)); exact BK404.out) k_ hk, Kd.freshB (g := gb405) (o := .cells #[.int .i64 t395, .int .i64 (wrap64 (t401 + 1)), .slice Ao9 t397.length co9] 42 (0, 0)) (by (with_reducible repeat (first | refine bkN ?_ _ | refine bkd ?_ | refine bka ?_ _)); exact BK405.out) k_ hk⟩))
            (case aO => exact (by (with_reducible repeat (first | apply Kd.N_alloc | apply Kd.N_drewN | apply Kd.N_drew)); exact Kd.N_mono HO420.out (fun _ hk => ⟨hk.1, ⟨hk.2.2.1, ⟨hk.2.2.2.1, ⟨hk.2.2.2.2.1, ⟨hk.2.2.2.2.2.1, ⟨hk.2.2.2.2.2.2.1, hk.2.2.2.2.2.2.2⟩⟩⟩⟩⟩⟩)))
            (case aS => exact (qa1 (by repeat (first | (with_reducible first | exact HB.out | apply bwa | apply bwN | apply bw1 | refine bws ?_ GE400.out | refine bws ?_ GE404.out | refine bws ?_ GE405.out) | exact HB.out))))
            (case aL => have := LMc47.out; omega)
            intro v422 w54 ho hb hg hat
            rw [← Ny421.out] at ho
            have n0_ := Ad.mk (Kd.R_over' (by (with_reducible repeat (first | apply Kd.R_alloc | apply Kd.R_drewN | apply Kd.R_drew)); exact HO_3.out) (Kd.N_typed (by (with_reducible repeat (first | apply Kd.N_alloc | apply Kd.N_drewN | apply Kd.N_drew)); exact HO420.out)) (by decide) hg)
            have n1_ := Ad.mk (Kd.N_afterv (ok := (fun k_ => some k_ ≠ (.slice Ao12 t389.length co12 : Value).ownBlock ∧ some k_ ≠ (.slice Ao46 y412.length co46 : Value).ownBlock ∧ some k_ ≠ (v416 : Value).ownBlock ∧ some k_ ≠ (v425 : Value).ownBlock ∧ k_ ≠ gb400 ∧ k_ ≠ gb404 ∧ k_ ≠ gb405)) (by (with_reducible repeat (first | apply Kd.N_alloc | apply Kd.N_drewN | apply Kd.N_drew)); exact Kd.N_mono HO_4.out (fun _ hk => ⟨⟨hk.1.1.1.1, ⟨hk.1.1.1.2.1, ⟨hk.1.1.2, ⟨hk.1.2, ⟨hk.1.1.1.2.2.1, ⟨hk.1.1.1.2.2.2.1, hk.1.1.1.2.2.2.2⟩⟩⟩⟩⟩⟩, hk.2⟩)) hg hat)
            have n2_ := Ad.mk (Kd.V_afterv (ok := (fun k_ => some k_ ≠ (.slice Ao12 t389.length co12 : Value).ownBlock ∧ some k_ ≠ (.slice Ao13 t392.length co13 : Value).ownBlock ∧ some k_ ≠ (.slice Ao46 y412.length co46 : Value).ownBlock ∧ some k_ ≠ (v416 : Value).ownBlock ∧ some k_ ≠ (v425 : Value).ownBlock ∧ k_ ≠ gb400 ∧ k_ ≠ gb404 ∧ k_ ≠ gb405)) (by (with_reducible repeat (first | apply Kd.V_alloc | apply Kd.V_drewN | apply Kd.V_drew)); exact Kd.V_mono HO_401002.out (fun _ hk => ⟨⟨hk.1.1.1.1, ⟨hk.1.1.1.2.1, ⟨hk.1.1.1.2.2.1, ⟨hk.1.1.2, ⟨hk.1.2, ⟨hk.1.1.1.2.2.2.1, ⟨hk.1.1.1.2.2.2.2.1, hk.1.1.1.2.2.2.2.2⟩⟩⟩⟩⟩⟩⟩, hk.2⟩)) hg hat)
            have n3_ := Ad.mk (blk_grown (g := gb400) (o := .cells #[.int .i64 t395, .int .i64 t396, .slice Ao9 t397.length co9] 42 (0, 0)) (by (with_reducible repeat (first | refine bkN ?_ _ | refine bkd ?_ | refine bka ?_ _)); exact BK400.out) hg (Kd.N_away HO420.out (fun _ hk => hk.2.2.2.2.2.1)))
            have n4_ := Ad.mk (blk_grown (g := gb404) (o := .cells #[.int .i64 t395, .int .i64 t401, .slice Ao9 t397.length co9] 42 (0, 0)) (by (with_reducible repeat (first | refine bkN ?_ _ | refine bkd ?_ | refine bka ?_ _)); exact BK404.out) hg (Kd.N_away HO420.out (fun _ hk => hk.2.2.2.2.2.2.1)))
            have n5_ := Ad.mk (blk_grown (g := gb405) (o := .cells #[.int .i64 t395, .int .i64 (wrap64 (t401 + 1)), .slice Ao9 t397.length co9] 42 (0, 0)) (by (with_reducible repeat (first | refine bkN ?_ _ | refine bkd ?_ | refine bka ?_ _)); exact BK405.out) hg (Kd.N_away HO420.out (fun _ hk => hk.2.2.2.2.2.2.2)))
            have n6_ := Ad.mk (Kd.N_afterv (ok := (fun k_ => some k_ ≠ (.slice Ao12 t389.length co12 : Value).ownBlock ∧ some k_ ≠ (.slice Ao13 t392.length co13 : Value).ownBlock ∧ some k_ ≠ (v416 : Value).ownBlock ∧ some k_ ≠ (v425 : Value).ownBlock ∧ k_ ≠ gb400 ∧ k_ ≠ gb404 ∧ k_ ≠ gb405)) (by (with_reducible repeat (first | apply Kd.N_alloc | apply Kd.N_drewN | apply Kd.N_drew)); exact Kd.N_mono HO414.out (fun _ hk => ⟨⟨hk.1.1.1.1, ⟨hk.1.1.1.2.1, ⟨hk.1.1.2, ⟨hk.1.2, ⟨hk.1.1.1.2.2.1, ⟨hk.1.1.1.2.2.2.1, hk.1.1.1.2.2.2.2⟩⟩⟩⟩⟩⟩, hk.2⟩)) hg hat)
            have n7_ := Ad.mk (Kd.N_afterv (ok := (fun k_ => some k_ ≠ (.slice Ao12 t389.length co12 : Value).ownBlock ∧ some k_ ≠ (v425 : Value).ownBlock ∧ k_ ≠ gb400 ∧ k_ ≠ gb404 ∧ k_ ≠ gb405)) (by (with_reducible repeat (first | apply Kd.N_alloc | apply Kd.N_drewN | apply Kd.N_drew)); exact Kd.N_mono HO417.out (fun _ hk => ⟨⟨hk.1.1.1, ⟨hk.1.2, ⟨hk.1.1.2.1, ⟨hk.1.1.2.2.1, hk.1.1.2.2.2⟩⟩⟩⟩, hk.2⟩)) hg hat)
            have n8_ := Ad.mk (Kd.N_afterv (ok := (fun k_ => some k_ ≠ (.slice Ao12 t389.length co12 : Value).ownBlock ∧ some k_ ≠ (.slice Ao13 t392.length co13 : Value).ownBlock ∧ some k_ ≠ (.slice Ao46 y412.length co46 : Value).ownBlock ∧ some k_ ≠ (v416 : Value).ownBlock ∧ k_ ≠ gb400 ∧ k_ ≠ gb404 ∧ k_ ≠ gb405)) (by (with_reducible repeat (first | apply Kd.N_alloc | apply Kd.N_drewN | apply Kd.N_drew)); exact HO426.out) hg hat)
            have n9_ := Ad.mk (hb)
            have n10_ := Ad.mk (ho)
            clear HO_3
            clear HO_4
            clear HO_401002
            clear BK400
            clear BK404
            clear BK405
            clear HO414
            clear HO417
            clear HO426
            clear HB
            clear HO420
            have HO_3 := n0_
            have HO_4 := n1_
            have HO_401002 := n2_
            have BK400 := n3_
            have BK404 := n4_
            have BK405 := n5_
            have HO414 := n6_
            have HO417 := n7_
            have HO426 := n8_
            have HB := n9_
            have HO423 := n10_
            clear n0_ n1_ n2_ n3_ n4_ n5_ n6_ n7_ n8_ n9_ n10_
            clear ho hb hg hat
            refine hK.out _ _ ⟨(bkc BK405.out 0).trans rfl, (bkc BK405.out 1).trans rfl, (bkc BK405.out 2).trans rfl⟩ (fun hHeld => ?_)
            clear hK K
            refine norm_ (a' := ?_) ?_ ?_
            rotate_left
            ·show Act.put _ (some 61) _ = _
             simp only [Act.put, List.setIfInBounds_toArray, List.set_cons_zero, List.set_cons_succ, qa8, qa9]
             rfl
            exact norm_ (by simp only [putAll, Act.put, List.setIfInBounds_toArray, List.set_cons_zero, List.set_cons_succ]) (hCont (v419, v422, v425) _ ⟨hHeld, (by (with_reducible repeat (first | apply Kd.N_alloc | apply Kd.N_drewN | apply Kd.N_drew)); exact Kd.N_mono HO414.out (fun _ hk => ⟨hk.1.2.2.1, ⟨hk.2, ⟨hk.1.2.2.2.1, ⟨hk.1.1, ⟨hk.1.2.1, ⟨hk.1.2.2.2.2.1, ⟨hk.1.2.2.2.2.2.1, hk.1.2.2.2.2.2.2⟩⟩⟩⟩⟩⟩⟩)), (by (with_reducible repeat (first | apply Kd.N_alloc | apply Kd.N_drewN | apply Kd.N_drew)); exact Kd.N_mono HO417.out (fun _ hk => ⟨hk.2, ⟨hk.1.2.1, ⟨hk.1.1, ⟨hk.1.2.2.1, ⟨hk.1.2.2.2.1, hk.1.2.2.2.2⟩⟩⟩⟩⟩)), (by (with_reducible repeat (first | apply Kd.N_alloc | apply Kd.N_drewN | apply Kd.N_drew)); exact Kd.N_mono HO423.out (fun _ hk => ⟨hk.2.1, ⟨hk.2.2.1, ⟨hk.2.2.2.1, ⟨hk.1, ⟨hk.2.2.2.2.1, ⟨hk.2.2.2.2.2.1, hk.2.2.2.2.2.2⟩⟩⟩⟩⟩⟩)), (by (with_reducible repeat (first | apply Kd.N_alloc | apply Kd.N_drewN | apply Kd.N_drew)); exact Kd.N_mono HO426.out (fun _ hk => ⟨hk.1.2.2.1, ⟨hk.1.2.2.2.1, ⟨hk.2, ⟨hk.1.1, ⟨hk.1.2.1, ⟨hk.1.2.2.2.2.1, ⟨hk.1.2.2.2.2.2.1, hk.1.2.2.2.2.2.2⟩⟩⟩⟩⟩⟩⟩)), (by (with_reducible repeat (first | apply Kd.R_alloc | apply Kd.R_drewN | apply Kd.R_drew)); exact HO_3.out), (by (with_reducible repeat (first | apply Kd.N_alloc | apply Kd.N_drewN | apply Kd.N_drew)); exact Kd.N_mono HO_4.out (fun _ hk => ⟨hk.1.2.1, ⟨hk.1.2.2.1, ⟨hk.2, ⟨hk.1.2.2.2.1, ⟨hk.1.1, ⟨hk.1.2.2.2.2.1, ⟨hk.1.2.2.2.2.2.1, hk.1.2.2.2.2.2.2⟩⟩⟩⟩⟩⟩⟩)), (by (with_reducible repeat (first | apply Kd.V_alloc | apply Kd.V_drewN | apply Kd.V_drew)); exact Kd.V_mono HO_401002.out (fun _ hk => ⟨hk.1.2.2.1, ⟨hk.1.2.2.2.1, ⟨hk.2, ⟨hk.1.2.2.2.2.1, ⟨hk.1.1, ⟨hk.1.2.1, ⟨hk.1.2.2.2.2.2.1, ⟨hk.1.2.2.2.2.2.2.1, hk.1.2.2.2.2.2.2.2⟩⟩⟩⟩⟩⟩⟩⟩)), (by (with_reducible repeat (first | refine bkN ?_ _ | refine bkd ?_ | refine bka ?_ _)); exact BK400.out), (by (with_reducible repeat (first | refine bkN ?_ _ | refine bkd ?_ | refine bka ?_ _)); exact BK404.out), (by (with_reducible repeat (first | refine bkN ?_ _ | refine bkd ?_ | refine bka ?_ _)); exact BK405.out), (by repeat (first | (with_reducible first | exact HB.out | apply bwa | apply bwN | apply bw1 | refine bws ?_ GE400.out | refine bws ?_ GE404.out | refine bws ?_ GE405.out) | exact HB.out))⟩)
          rintro ⟨v419, v422, v425⟩ w55 ⟨hS_, h0_, h1_, h2_, h3_, h4_, h5_, h6_, h7_, h8_, h9_, h10_⟩
          have n0_ : Ad (Kd.N k42 42 w55 w.heap.size (fun k_ => some k_ ≠ (v416 : Value).ownBlock ∧ some k_ ≠ (v422 : Value).ownBlock ∧ some k_ ≠ (v425 : Value).ownBlock ∧ some k_ ≠ (.slice Ao12 t389.length co12 : Value).ownBlock ∧ some k_ ≠ (.slice Ao13 t392.length co13 : Value).ownBlock ∧ k_ ≠ gb400 ∧ k_ ≠ gb404 ∧ k_ ≠ gb405) (.slice Ao46 y412.length co46) y412) := ⟨h0_⟩
          have n1_ : Ad (Kd.N k42 42 w55 w.heap.size (fun k_ => some k_ ≠ (v422 : Value).ownBlock ∧ some k_ ≠ (v425 : Value).ownBlock ∧ some k_ ≠ (.slice Ao12 t389.length co12 : Value).ownBlock ∧ k_ ≠ gb400 ∧ k_ ≠ gb404 ∧ k_ ≠ gb405) v416 y415) := ⟨h1_⟩
          have n2_ : Ad (Kd.N k42 42 w55 w.heap.size (fun k_ => some k_ ≠ (.slice Ao46 y412.length co46 : Value).ownBlock ∧ some k_ ≠ (v416 : Value).ownBlock ∧ some k_ ≠ (v425 : Value).ownBlock ∧ some k_ ≠ (.slice Ao12 t389.length co12 : Value).ownBlock ∧ k_ ≠ gb400 ∧ k_ ≠ gb404 ∧ k_ ≠ gb405) v422 y421) := ⟨h2_⟩
          have n3_ : Ad (Kd.N k42 42 w55 w.heap.size (fun k_ => some k_ ≠ (.slice Ao46 y412.length co46 : Value).ownBlock ∧ some k_ ≠ (v416 : Value).ownBlock ∧ some k_ ≠ (v422 : Value).ownBlock ∧ some k_ ≠ (.slice Ao12 t389.length co12 : Value).ownBlock ∧ some k_ ≠ (.slice Ao13 t392.length co13 : Value).ownBlock ∧ k_ ≠ gb400 ∧ k_ ≠ gb404 ∧ k_ ≠ gb405) v425 y424) := ⟨h3_⟩
          have n4_ : Ad (Kd.R (Kd.int .i64) 3 w55 w.heap.size (fun _ => True) (.slice Ao12 t389.length co12) t389) := ⟨h4_⟩
          have n5_ : Ad (Kd.N k42 42 w55 w.heap.size (fun k_ => some k_ ≠ (.slice Ao46 y412.length co46 : Value).ownBlock ∧ some k_ ≠ (v416 : Value).ownBlock ∧ some k_ ≠ (v422 : Value).ownBlock ∧ some k_ ≠ (v425 : Value).ownBlock ∧ some k_ ≠ (.slice Ao12 t389.length co12 : Value).ownBlock ∧ k_ ≠ gb400 ∧ k_ ≠ gb404 ∧ k_ ≠ gb405) (.slice Ao13 t392.length co13) t392) := ⟨h5_⟩
          have n6_ : Ad (Kd.V (Kd.int .i64) 3 w55 w.heap.size (fun k_ => some k_ ≠ (.slice Ao46 y412.length co46 : Value).ownBlock ∧ some k_ ≠ (v416 : Value).ownBlock ∧ some k_ ≠ (v422 : Value).ownBlock ∧ some k_ ≠ (v425 : Value).ownBlock ∧ some k_ ≠ (.slice Ao12 t389.length co12 : Value).ownBlock ∧ some k_ ≠ (.slice Ao13 t392.length co13 : Value).ownBlock ∧ k_ ≠ gb400 ∧ k_ ≠ gb404 ∧ k_ ≠ gb405) (.slice Ao9 t397.length co9) t397) := ⟨h6_⟩
          have n7_ : Ad (w55.heap[gb400]? = some (.cells #[.int .i64 t395, .int .i64 t396, .slice Ao9 t397.length co9] 42 (0, 0))) := ⟨h7_⟩
          have n8_ : Ad (w55.heap[gb404]? = some (.cells #[.int .i64 t395, .int .i64 t401, .slice Ao9 t397.length co9] 42 (0, 0))) := ⟨h8_⟩
          have n9_ : Ad (w55.heap[gb405]? = some (.cells #[.int .i64 t395, .int .i64 (wrap64 (t401 + 1)), .slice Ao9 t397.length co9] 42 (0, 0))) := ⟨h9_⟩
          have n10_ : Ad (Below w.heap.size w w55) := ⟨h10_⟩
          clear HO_3
          clear HO_4
          clear HO_401002
          clear HO414
          clear HO417
          clear BK400
          clear BK404
          clear BK405
          clear HB
          clear h0_ h1_ h2_ h3_ h4_ h5_ h6_ h7_ h8_ h9_ h10_
          have HO414 := n0_
          have HO417 := n1_
          have HO423 := n2_
          have HO426 := n3_
          have HO_3 := n4_
          have HO_4 := n5_
          have HO_401002 := n6_
          have BK400 := n7_
          have BK404 := n8_
          have BK405 := n9_
          have HB := n10_
          clear n0_ n1_ n2_ n3_ n4_ n5_ n6_ n7_ n8_ n9_ n10_
          have hHeld : w55.cell? ⟨gb405, 0, none⟩ = some (.int .i64 t395) ∧ w55.cell? ⟨gb405, 1, none⟩ = some (.int .i64 (wrap64 (t401 + 1))) ∧ w55.cell? ⟨gb405, 2, none⟩ = some (.slice Ao9 t397.length co9) := hS_
          obtain ⟨Ao57, co57, eo57⟩ := Kd.N_slice HO426.out
          (first | subst eo57 | (injection eo57 with f1_ f2_ f3_; have f4_ := f1_.symm; have f5_ := f3_.symm; clear f1_ f2_ f3_; subst f4_; subst f5_))
          refine norm_ (a' := ?_) ?_ ?_
          rotate_left
          ·simp only [putAll, Act.put, List.setIfInBounds_toArray, List.set_cons_zero, List.set_cons_succ]
           rfl
          refine one_ (i := 5) (N := some 64) #[true, true, true, true, true, true, false] rfl rfl (by kernel_rfl) (by decide) (fun K hK => ?_)
          refine Kd.N_append_rows_step k42 (w0 := w) w.heap.size (by rfl) (.tmp 61) (.tmp 63) 34 42 (.agg #[(.int .i64 0), (.int .i64 0), (.slice none 0 0)]) 40 rfl Try.underlying34 info42 rfl (by decide) (by omega) v422 y421 y424 _ _ _ (fun k_ => some k_ ≠ (.slice Ao12 t389.length co12 : Value).ownBlock ∧ some k_ ≠ (.slice Ao46 y412.length co46 : Value).ownBlock ∧ some k_ ≠ (v416 : Value).ownBlock ∧ k_ ≠ gb400 ∧ k_ ≠ gb404 ∧ k_ ≠ gb405) (fun k_ => ((fun k_ => some k_ ≠ (.slice Ao12 t389.length co12 : Value).ownBlock ∧ some k_ ≠ (.slice Ao46 y412.length co46 : Value).ownBlock ∧ some k_ ≠ (v416 : Value).ownBlock ∧ k_ ≠ gb400 ∧ k_ ≠ gb404 ∧ k_ ≠ gb405)) k_ ∧ some k_ ≠ (v422 : Value).ownBlock) rfl rfl ?aO ?aR (fun _ hk => hk) ?aF ?aB ?aS ?aL ?_
          (case aR => exact (by skip; exact Kd.N_F (Kd.N_mono (ok' := (fun k_ => ((fun k_ => some k_ ≠ (.slice Ao12 t389.length co12 : Value).ownBlock ∧ some k_ ≠ (.slice Ao46 y412.length co46 : Value).ownBlock ∧ some k_ ≠ (v416 : Value).ownBlock ∧ k_ ≠ gb400 ∧ k_ ≠ gb404 ∧ k_ ≠ gb405)) k_ ∧ some k_ ≠ (v422 : Value).ownBlock)) (HO426.out) (fun k_ hk => ⟨⟨hk.2.2.2.1, ⟨hk.1, ⟨hk.2.1, ⟨hk.2.2.2.2.2.1, ⟨hk.2.2.2.2.2.2.1, hk.2.2.2.2.2.2.2⟩⟩⟩⟩⟩, hk.2.2.1⟩))))
          (case aB => exact (by repeat (first | (with_reducible first | exact HB.out | apply bwa | apply bwN | apply bw1 | refine bws ?_ GE400.out | refine bws ?_ GE404.out | refine bws ?_ GE405.out) | exact HB.out)))
          (case aF => exact (fun k_ hk => ⟨Kd.fresh' (Kd.R_lt (by (with_reducible repeat (first | apply Kd.R_alloc | apply Kd.R_drewN | apply Kd.R_drew)); exact HO_3.out)) k_ hk, Kd.fresh' (Kd.N_lt (by (with_reducible repeat (first | apply Kd.N_alloc | apply Kd.N_drewN | apply Kd.N_drew)); exact HO414.out)) k_ hk, Kd.fresh' (Kd.N_lt (by (with_reducible repeat (first | apply Kd.N_alloc | apply Kd.N_drewN | apply Kd.N_drew)); exact HO417.out)) k_ hk, Kd.freshB (g := gb400) (o := .cells #[.int .i64 t395, .int .i64 t396, .slice Ao9 t397.length co9] 42 (0, 0)) (by (with_reducible repeat (first | refine bkN ?_ _ | refine bkd ?_ | refine bka ?_ _)); exact BK400.out) k_ hk, Kd.freshB (g := gb404) (o := .cells #[.int .i64 t395, .int .i64 t401, .slice Ao9 t397.length co9] 42 (0, 0)) (by (with_reducible repeat (first | refine bkN ?_ _ | refine bkd ?_ | refine bka ?_ _)); exact BK404.out) k_ hk, Kd.freshB (g := gb405) (o := .cells #[.int .i64 t395, .int .i64 (wrap64 (t401 + 1)), .slice Ao9 t397.length co9] 42 (0, 0)) (by (with_reducible repeat (first | refine bkN ?_ _ | refine bkd ?_ | refine bka ?_ _)); exact BK405.out) k_ hk⟩))
          (case aO => exact (by (with_reducible repeat (first | apply Kd.N_alloc | apply Kd.N_drewN | apply Kd.N_drew)); exact Kd.N_mono HO423.out (fun _ hk => ⟨hk.2.2.2.1, ⟨hk.1, ⟨hk.2.1, ⟨hk.2.2.2.2.1, ⟨hk.2.2.2.2.2.1, hk.2.2.2.2.2.2⟩⟩⟩⟩⟩)))
          (case aS => exact (qa1 (by repeat (first | (with_reducible first | exact HB.out | apply bwa | apply bwN | apply bw1 | refine bws ?_ GE400.out | refine bws ?_ GE404.out | refine bws ?_ GE405.out) | exact HB.out))))
          (case aL => have := LMc48.out; omega)
          intro v428 w56 ho hb hg hat
          rw [← Ny427.out] at ho
          have n0_ := Ad.mk (Kd.R_over' (by (with_reducible repeat (first | apply Kd.R_alloc | apply Kd.R_drewN | apply Kd.R_drew)); exact HO_3.out) (Kd.N_typed (by (with_reducible repeat (first | apply Kd.N_alloc | apply Kd.N_drewN | apply Kd.N_drew)); exact HO423.out)) (by decide) hg)
          have n1_ := Ad.mk (Kd.N_afterv (ok := (fun k_ => some k_ ≠ (.slice Ao12 t389.length co12 : Value).ownBlock ∧ some k_ ≠ (.slice Ao46 y412.length co46 : Value).ownBlock ∧ some k_ ≠ (v416 : Value).ownBlock ∧ some k_ ≠ (.slice Ao57 y424.length co57 : Value).ownBlock ∧ k_ ≠ gb400 ∧ k_ ≠ gb404 ∧ k_ ≠ gb405)) (by (with_reducible repeat (first | apply Kd.N_alloc | apply Kd.N_drewN | apply Kd.N_drew)); exact Kd.N_mono HO_4.out (fun _ hk => ⟨⟨hk.2.2.2.2.1, ⟨hk.1, ⟨hk.2.1, ⟨hk.2.2.2.1, ⟨hk.2.2.2.2.2.1, ⟨hk.2.2.2.2.2.2.1, hk.2.2.2.2.2.2.2⟩⟩⟩⟩⟩⟩, hk.2.2.1⟩)) hg hat)
          have n2_ := Ad.mk (Kd.V_afterv (ok := (fun k_ => some k_ ≠ (.slice Ao12 t389.length co12 : Value).ownBlock ∧ some k_ ≠ (.slice Ao13 t392.length co13 : Value).ownBlock ∧ some k_ ≠ (.slice Ao46 y412.length co46 : Value).ownBlock ∧ some k_ ≠ (v416 : Value).ownBlock ∧ some k_ ≠ (.slice Ao57 y424.length co57 : Value).ownBlock ∧ k_ ≠ gb400 ∧ k_ ≠ gb404 ∧ k_ ≠ gb405)) (by (with_reducible repeat (first | apply Kd.V_alloc | apply Kd.V_drewN | apply Kd.V_drew)); exact Kd.V_mono HO_401002.out (fun _ hk => ⟨⟨hk.2.2.2.2.1, ⟨hk.2.2.2.2.2.1, ⟨hk.1, ⟨hk.2.1, ⟨hk.2.2.2.1, ⟨hk.2.2.2.2.2.2.1, ⟨hk.2.2.2.2.2.2.2.1, hk.2.2.2.2.2.2.2.2⟩⟩⟩⟩⟩⟩⟩, hk.2.2.1⟩)) hg hat)
          have n3_ := Ad.mk (blk_grown (g := gb400) (o := .cells #[.int .i64 t395, .int .i64 t396, .slice Ao9 t397.length co9] 42 (0, 0)) (by (with_reducible repeat (first | refine bkN ?_ _ | refine bkd ?_ | refine bka ?_ _)); exact BK400.out) hg (Kd.N_away HO423.out (fun _ hk => hk.2.2.2.2.1)))
          have n4_ := Ad.mk (blk_grown (g := gb404) (o := .cells #[.int .i64 t395, .int .i64 t401, .slice Ao9 t397.length co9] 42 (0, 0)) (by (with_reducible repeat (first | refine bkN ?_ _ | refine bkd ?_ | refine bka ?_ _)); exact BK404.out) hg (Kd.N_away HO423.out (fun _ hk => hk.2.2.2.2.2.1)))
          have n5_ := Ad.mk (blk_grown (g := gb405) (o := .cells #[.int .i64 t395, .int .i64 (wrap64 (t401 + 1)), .slice Ao9 t397.length co9] 42 (0, 0)) (by (with_reducible repeat (first | refine bkN ?_ _ | refine bkd ?_ | refine bka ?_ _)); exact BK405.out) hg (Kd.N_away HO423.out (fun _ hk => hk.2.2.2.2.2.2)))
          have n6_ := Ad.mk (Kd.N_afterv (ok := (fun k_ => some k_ ≠ (.slice Ao12 t389.length co12 : Value).ownBlock ∧ some k_ ≠ (.slice Ao13 t392.length co13 : Value).ownBlock ∧ some k_ ≠ (v416 : Value).ownBlock ∧ some k_ ≠ (.slice Ao57 y424.length co57 : Value).ownBlock ∧ k_ ≠ gb400 ∧ k_ ≠ gb404 ∧ k_ ≠ gb405)) (by (with_reducible repeat (first | apply Kd.N_alloc | apply Kd.N_drewN | apply Kd.N_drew)); exact Kd.N_mono HO414.out (fun _ hk => ⟨⟨hk.2.2.2.1, ⟨hk.2.2.2.2.1, ⟨hk.1, ⟨hk.2.2.1, ⟨hk.2.2.2.2.2.1, ⟨hk.2.2.2.2.2.2.1, hk.2.2.2.2.2.2.2⟩⟩⟩⟩⟩⟩, hk.2.1⟩)) hg hat)
          have n7_ := Ad.mk (Kd.N_afterv (ok := (fun k_ => some k_ ≠ (.slice Ao12 t389.length co12 : Value).ownBlock ∧ some k_ ≠ (.slice Ao57 y424.length co57 : Value).ownBlock ∧ k_ ≠ gb400 ∧ k_ ≠ gb404 ∧ k_ ≠ gb405)) (by (with_reducible repeat (first | apply Kd.N_alloc | apply Kd.N_drewN | apply Kd.N_drew)); exact Kd.N_mono HO417.out (fun _ hk => ⟨⟨hk.2.2.1, ⟨hk.2.1, ⟨hk.2.2.2.1, ⟨hk.2.2.2.2.1, hk.2.2.2.2.2⟩⟩⟩⟩, hk.1⟩)) hg hat)
          have n8_ := Ad.mk (Kd.N_afterv (ok := (fun k_ => some k_ ≠ (.slice Ao12 t389.length co12 : Value).ownBlock ∧ some k_ ≠ (.slice Ao13 t392.length co13 : Value).ownBlock ∧ some k_ ≠ (.slice Ao46 y412.length co46 : Value).ownBlock ∧ some k_ ≠ (v416 : Value).ownBlock ∧ k_ ≠ gb400 ∧ k_ ≠ gb404 ∧ k_ ≠ gb405)) (by (with_reducible repeat (first | apply Kd.N_alloc | apply Kd.N_drewN | apply Kd.N_drew)); exact Kd.N_mono HO426.out (fun _ hk => ⟨⟨hk.2.2.2.1, ⟨hk.2.2.2.2.1, ⟨hk.1, ⟨hk.2.1, ⟨hk.2.2.2.2.2.1, ⟨hk.2.2.2.2.2.2.1, hk.2.2.2.2.2.2.2⟩⟩⟩⟩⟩⟩, hk.2.2.1⟩)) hg hat)
          have n9_ := Ad.mk (hb)
          have n10_ := Ad.mk (ho)
          clear HO_3
          clear HO_4
          clear HO_401002
          clear BK400
          clear BK404
          clear BK405
          clear HO414
          clear HO417
          clear HO426
          clear HB
          clear HO423
          have HO_3 := n0_
          have HO_4 := n1_
          have HO_401002 := n2_
          have BK400 := n3_
          have BK404 := n4_
          have BK405 := n5_
          have HO414 := n6_
          have HO417 := n7_
          have HO426 := n8_
          have HB := n9_
          have HO429 := n10_
          clear n0_ n1_ n2_ n3_ n4_ n5_ n6_ n7_ n8_ n9_ n10_
          clear ho hb hg hat
          refine hK.out _ _ ⟨(bkc BK405.out 0).trans rfl, (bkc BK405.out 1).trans rfl, (bkc BK405.out 2).trans rfl⟩ (fun hHeld => ?_)
          clear hK K
          refine norm_ (a' := ?_) ?_ ?_
          rotate_left
          ·show Act.put _ (some 64) _ = _
           simp only [Act.put, List.setIfInBounds_toArray, List.set_cons_zero, List.set_cons_succ, qa8, qa9]
           rfl
          refine pure_ (i := 6) (N := some 10) (v := ?_) (a' := ?_) #[true, true, true, true, true, true, true] rfl rfl (by kernel_rfl) (fun _ _ _ h => h) (Or.inl ⟨by rfl, ?_⟩) ?_ ?_
          rotate_left
          ·intro w'
           go_simp
           with_reducible rfl
          rotate_left
          ·simp only [Act.put, List.setIfInBounds_toArray, List.set_cons_zero, List.set_cons_succ, qa8, qa9]
           rfl
          refine done_ (by kernel_rfl) ?_
          try go_wp2
          go_meet
          case rel => exact ⟨_, (y427), H', ⟨by have := HJ4.out; first | omega | exact Nat.le_refl _⟩, ⟨by (with_reducible repeat (first | apply Kd.R_alloc | apply Kd.R_drewN | apply Kd.R_drew)); exact HO_3.out⟩, ⟨by (with_reducible repeat (first | apply Kd.N_alloc | apply Kd.N_drewN | apply Kd.N_drew)); exact Kd.N_mono HO417.out (fun _ hk => ⟨hk.1.1, ⟨hk.2, ⟨hk.1.2.2.1, ⟨hk.1.2.2.2.1, hk.1.2.2.2.2⟩⟩⟩⟩)⟩, ⟨by (with_reducible repeat (first | apply Kd.N_alloc | apply Kd.N_drewN | apply Kd.N_drew)); exact Kd.N_mono HO429.out (fun _ hk => ⟨hk.1, ⟨hk.2.2.1, ⟨hk.2.2.2.1, ⟨hk.2.2.2.2.1, hk.2.2.2.2.2⟩⟩⟩⟩)⟩, ⟨by (with_reducible repeat (first | apply Kd.V_alloc | apply Kd.V_drewN | apply Kd.V_drew)); exact Kd.V_mono HO_401002.out (fun _ hk => ⟨hk.1.1, ⟨hk.1.2.2.2.1, ⟨hk.2, ⟨hk.1.2.2.2.2.2.1, ⟨hk.1.2.2.2.2.2.2.1, hk.1.2.2.2.2.2.2.2⟩⟩⟩⟩⟩)⟩, ⟨by (with_reducible repeat (first | apply Kd.V_alloc | apply Kd.V_drewN | apply Kd.V_drew)); exact Kd.V_mono HO_401002.out (fun _ hk => ⟨hk.1.1, ⟨hk.1.2.2.2.1, ⟨hk.2, ⟨hk.1.2.2.2.2.2.1, ⟨hk.1.2.2.2.2.2.2.1, hk.1.2.2.2.2.2.2.2⟩⟩⟩⟩⟩)⟩, ⟨by (with_reducible repeat (first | apply Kd.V_alloc | apply Kd.V_drewN | apply Kd.V_drew)); exact Kd.V_mono HO_401002.out (fun _ hk => ⟨hk.1.1, ⟨hk.1.2.2.2.1, ⟨hk.2, ⟨hk.1.2.2.2.2.2.1, ⟨hk.1.2.2.2.2.2.2.1, hk.1.2.2.2.2.2.2.2⟩⟩⟩⟩⟩)⟩, ⟨by (with_reducible repeat (first | refine bkN ?_ _ | refine bkd ?_ | refine bka ?_ _)); exact BK400.out⟩, ⟨by (with_reducible repeat (first | refine bkN ?_ _ | refine bkd ?_ | refine bka ?_ _)); exact BK404.out⟩, ⟨by (with_reducible repeat (first | refine bkN ?_ _ | refine bkd ?_ | refine bka ?_ _)); exact BK405.out⟩, ⟨by repeat (first | (with_reducible first | exact HB.out | apply bwa | apply bwN | apply bw1 | refine bws ?_ GE400.out | refine bws ?_ GE404.out | refine bws ?_ GE405.out) | exact HB.out)⟩⟩
         ·rw [if_neg c48] at H
          exact absurd H (by simp)
        ·rw [if_neg c47] at H
         exact absurd H (by simp)
       case rest =>
        clear HC27
        try clear p2
        try clear c3
        try clear c4
        try clear p6
        try clear c47
        try clear c48
        obtain ⟨kq, x10_26, HA, HJ26, HO_3, HO_9, HO_10, HO_401002, HO_405002, HO_406002, BK400, BK404, BK405, HB⟩ := hcut
        cases kq with
        | zero => exact absurd HA.out (by simp [laws_FnMostLoan.j1])
        | succ kj26 =>
         have H := HA.out
         clear HA
         simp only [laws_FnMostLoan.j1] at H
         by_cases c58 : t401 = 0
         ·rw [if_pos c58] at H
          have c58b0 : (t401 == 0) = true := beq_iff_eq.mpr c58
          have c58b1 : (t401 != 0) = false := bne_eq_false_iff_eq.mpr c58
          clear c58
          by_cases c59 : t401 = 100000
          ·rw [if_pos c59] at H
           have c59b0 : (t401 == 100000) = true := beq_iff_eq.mpr c59
           have c59b1 : (t401 != 100000) = false := bne_eq_false_iff_eq.mpr c59
           clear c59
           obtain rfl := Option.some.inj H
           go_wp2
           go_ret
           exact ⟨by first | rfl | (simp [errW_none, errW_some] <;> rfl) | (simp [*, errW_none, errW_some] <;> rfl), by repeat (first | (with_reducible first | exact HB.out | apply bwa | apply bwN | apply bw1 | refine bws ?_ GE400.out | refine bws ?_ GE404.out | refine bws ?_ GE405.out) | exact HB.out)⟩
          ·rw [if_neg c59] at H
           have c59b0 : (t401 == 100000) = false := beq_eq_false_iff_ne.mpr c59
           have c59b1 : (t401 != 100000) = true := bne_iff_ne.mpr c59
           replace H := Option.bind_eq_some_iff.mp H
           obtain ⟨t430, A600, H⟩ := H
           replace H : (some (!t430)) = some r := H
           have A60 := Ad.mk A600
           clear A600
           obtain rfl := Option.some.inj H
           obtain ⟨Ao61, co61, eo61⟩ := Kd.N_slice HO_10.out
           subst eo61
           go_wp2_with (first | (go_at_call 25; (with_reducible refine (impl_SafeLoans.calls kj26 _ _ t389 _ _ x10_26 t430 _ ?side1 ?side2 ?side3 ?side4 A60.out).mono ?_); (case side1 => repeat (first | exact (Kd.R_reads' HO_3.out).2.2 | (with_reducible refine Kd.C_alloc ?_ _) | (with_reducible refine Kd.C_drewN ?_ _) | (with_reducible refine Kd.C_drew ?_))); (case side2 => exact (Kd.R_reads' HO_3.out).2.1); (case side3 => repeat (first | exact (Kd.N_reads' HO_10.out).2.2 | (with_reducible refine Kd.C_alloc ?_ _) | (with_reducible refine Kd.C_drewN ?_ _) | (with_reducible refine Kd.C_drew ?_))); (case side4 => exact (Kd.N_reads' HO_10.out).2.1); rintro e w62 ⟨rfl, hb⟩; have n0_ := Ad.mk (Kd.R_below (by (with_reducible repeat (first | apply Kd.R_alloc | apply Kd.R_drewN | apply Kd.R_drew)); exact HO_3.out) hb); have n1_ := Ad.mk (Kd.N_below (by (with_reducible repeat (first | apply Kd.N_alloc | apply Kd.N_drewN | apply Kd.N_drew)); exact HO_9.out) hb); have n2_ := Ad.mk (Kd.N_below (by (with_reducible repeat (first | apply Kd.N_alloc | apply Kd.N_drewN | apply Kd.N_drew)); exact HO_10.out) hb); have n3_ := Ad.mk (Kd.V_below (by (with_reducible repeat (first | apply Kd.V_alloc | apply Kd.V_drewN | apply Kd.V_drew)); exact HO_401002.out) hb); have n4_ := Ad.mk (Kd.V_below (by (with_reducible repeat (first | apply Kd.V_alloc | apply Kd.V_drewN | apply Kd.V_drew)); exact HO_405002.out) hb); have n5_ := Ad.mk (Kd.V_below (by (with_reducible repeat (first | apply Kd.V_alloc | apply Kd.V_drewN | apply Kd.V_drew)); exact HO_406002.out) hb); have n6_ := Ad.mk (qa6 (g := gb400) (o := .cells #[.int .i64 t395, .int .i64 t396, .slice Ao9 t397.length co9] 42 (0, 0)) (by (with_reducible repeat (first | refine bkN ?_ _ | refine bkd ?_ | refine bka ?_ _)); exact BK400.out) hb); have n7_ := Ad.mk (qa6 (g := gb404) (o := .cells #[.int .i64 t395, .int .i64 t401, .slice Ao9 t397.length co9] 42 (0, 0)) (by (with_reducible repeat (first | refine bkN ?_ _ | refine bkd ?_ | refine bka ?_ _)); exact BK404.out) hb); have n8_ := Ad.mk (qa6 (g := gb405) (o := .cells #[.int .i64 t395, .int .i64 (wrap64 (t401 + 1)), .slice Ao9 t397.length co9] 42 (0, 0)) (by (with_reducible repeat (first | refine bkN ?_ _ | refine bkd ?_ | refine bka ?_ _)); exact BK405.out) hb); have n9_ := Ad.mk (qa5 (by repeat (first | (with_reducible first | exact HB.out | apply bwa | apply bwN | apply bw1 | refine bws ?_ GE400.out | refine bws ?_ GE404.out | refine bws ?_ GE405.out) | exact HB.out)) hb); clear HO_3; clear HO_9; clear HO_10; clear HO_401002; clear HO_405002; clear HO_406002; clear BK400; clear BK404; clear BK405; clear HB; have HO_3 := n0_; have HO_9 := n1_; have HO_10 := n2_; have HO_401002 := n3_; have HO_405002 := n4_; have HO_406002 := n5_; have BK400 := n6_; have BK404 := n7_; have BK405 := n8_; have HB := n9_; clear n0_ n1_ n2_ n3_ n4_ n5_ n6_ n7_ n8_ n9_; (try clear hb); (try clear hb2); (try clear hk); (try clear hi)))
           go_ret
           exact ⟨by first | rfl | (simp [errW_none, errW_some] <;> rfl) | (simp [*, errW_none, errW_some] <;> rfl), by repeat (first | (with_reducible first | exact HB.out | apply bwa | apply bwN | apply bw1 | refine bws ?_ GE400.out | refine bws ?_ GE404.out | refine bws ?_ GE405.out) | exact HB.out)⟩
         ·rw [if_neg c58] at H
          have c58b0 : (t401 == 0) = false := beq_eq_false_iff_ne.mpr c58
          have c58b1 : (t401 != 0) = true := bne_iff_ne.mpr c58
          replace H := Option.bind_eq_some_iff.mp H
          obtain ⟨t431, A630, H⟩ := H
          replace H : (if t431 = true then (if t401 = 100000 then (some true) else ((impl_SafeLoans.f kj26 t389 x10_26).bind fun t432 => (some (!t432)))) else (some false)) = some r := H
          have A63 := Ad.mk A630
          clear A630
          by_cases c64 : t431 = true
          ·subst c64
           have H1 : (if t401 = 100000 then (some true) else ((impl_SafeLoans.f kj26 t389 x10_26).bind fun t432 => (some (!t432)))) = some r := by rw [if_pos rfl] at H; exact H
           clear H
           have H := H1
           clear H1
           by_cases c65 : t401 = 100000
           ·rw [if_pos c65] at H
            have c65b0 : (t401 == 100000) = true := beq_iff_eq.mpr c65
            have c65b1 : (t401 != 100000) = false := bne_eq_false_iff_eq.mpr c65
            clear c65
            obtain rfl := Option.some.inj H
            obtain ⟨Ao66, co66, eo66⟩ := Kd.N_slice HO_9.out
            subst eo66
            go_wp2_with (first | (go_at_call 25; (with_reducible refine (impl_SafeLoans.calls kj26 _ _ t389 _ _ y415 true _ ?side1 ?side2 ?side3 ?side4 A63.out).mono ?_); (case side1 => repeat (first | exact (Kd.R_reads' HO_3.out).2.2 | (with_reducible refine Kd.C_alloc ?_ _) | (with_reducible refine Kd.C_drewN ?_ _) | (with_reducible refine Kd.C_drew ?_))); (case side2 => exact (Kd.R_reads' HO_3.out).2.1); (case side3 => repeat (first | exact (Kd.N_reads' HO_9.out).2.2 | (with_reducible refine Kd.C_alloc ?_ _) | (with_reducible refine Kd.C_drewN ?_ _) | (with_reducible refine Kd.C_drew ?_))); (case side4 => exact (Kd.N_reads' HO_9.out).2.1); rintro e w67 ⟨rfl, hb⟩; have n0_ := Ad.mk (Kd.R_below (by (with_reducible repeat (first | apply Kd.R_alloc | apply Kd.R_drewN | apply Kd.R_drew)); exact HO_3.out) hb); have n1_ := Ad.mk (Kd.N_below (by (with_reducible repeat (first | apply Kd.N_alloc | apply Kd.N_drewN | apply Kd.N_drew)); exact HO_9.out) hb); have n2_ := Ad.mk (Kd.N_below (by (with_reducible repeat (first | apply Kd.N_alloc | apply Kd.N_drewN | apply Kd.N_drew)); exact HO_10.out) hb); have n3_ := Ad.mk (Kd.V_below (by (with_reducible repeat (first | apply Kd.V_alloc | apply Kd.V_drewN | apply Kd.V_drew)); exact HO_401002.out) hb); have n4_ := Ad.mk (Kd.V_below (by (with_reducible repeat (first | apply Kd.V_alloc | apply Kd.V_drewN | apply Kd.V_drew)); exact HO_405002.out) hb); have n5_ := Ad.mk (Kd.V_below (by (with_reducible repeat (first | apply Kd.V_alloc | apply Kd.V_drewN | apply Kd.V_drew)); exact HO_406002.out) hb); have n6_ := Ad.mk (qa6 (g := gb400) (o := .cells #[.int .i64 t395, .int .i64 t396, .slice Ao9 t397.length co9] 42 (0, 0)) (by (with_reducible repeat (first | refine bkN ?_ _ | refine bkd ?_ | refine bka ?_ _)); exact BK400.out) hb); have n7_ := Ad.mk (qa6 (g := gb404) (o := .cells #[.int .i64 t395, .int .i64 t401, .slice Ao9 t397.length co9] 42 (0, 0)) (by (with_reducible repeat (first | refine bkN ?_ _ | refine bkd ?_ | refine bka ?_ _)); exact BK404.out) hb); have n8_ := Ad.mk (qa6 (g := gb405) (o := .cells #[.int .i64 t395, .int .i64 (wrap64 (t401 + 1)), .slice Ao9 t397.length co9] 42 (0, 0)) (by (with_reducible repeat (first | refine bkN ?_ _ | refine bkd ?_ | refine bka ?_ _)); exact BK405.out) hb); have n9_ := Ad.mk (qa5 (by repeat (first | (with_reducible first | exact HB.out | apply bwa | apply bwN | apply bw1 | refine bws ?_ GE400.out | refine bws ?_ GE404.out | refine bws ?_ GE405.out) | exact HB.out)) hb); clear HO_3; clear HO_9; clear HO_10; clear HO_401002; clear HO_405002; clear HO_406002; clear BK400; clear BK404; clear BK405; clear HB; have HO_3 := n0_; have HO_9 := n1_; have HO_10 := n2_; have HO_401002 := n3_; have HO_405002 := n4_; have HO_406002 := n5_; have BK400 := n6_; have BK404 := n7_; have BK405 := n8_; have HB := n9_; clear n0_ n1_ n2_ n3_ n4_ n5_ n6_ n7_ n8_ n9_; (try clear hb); (try clear hb2); (try clear hk); (try clear hi)))
            go_ret
            exact ⟨by first | rfl | (simp [errW_none, errW_some] <;> rfl) | (simp [*, errW_none, errW_some] <;> rfl), by repeat (first | (with_reducible first | exact HB.out | apply bwa | apply bwN | apply bw1 | refine bws ?_ GE400.out | refine bws ?_ GE404.out | refine bws ?_ GE405.out) | exact HB.out)⟩
           ·rw [if_neg c65] at H
            have c65b0 : (t401 == 100000) = false := beq_eq_false_iff_ne.mpr c65
            have c65b1 : (t401 != 100000) = true := bne_iff_ne.mpr c65
            replace H := Option.bind_eq_some_iff.mp H
            obtain ⟨t432, A680, H⟩ := H
            replace H : (some (!t432)) = some r := H
            have A68 := Ad.mk A680
            clear A680
            obtain rfl := Option.some.inj H
            obtain ⟨Ao69, co69, eo69⟩ := Kd.N_slice HO_9.out
            subst eo69
            go_wp2_with (first | (go_at_call 25; (with_reducible refine (impl_SafeLoans.calls kj26 _ _ t389 _ _ y415 true _ ?side1 ?side2 ?side3 ?side4 A63.out).mono ?_); (case side1 => repeat (first | exact (Kd.R_reads' HO_3.out).2.2 | (with_reducible refine Kd.C_alloc ?_ _) | (with_reducible refine Kd.C_drewN ?_ _) | (with_reducible refine Kd.C_drew ?_))); (case side2 => exact (Kd.R_reads' HO_3.out).2.1); (case side3 => repeat (first | exact (Kd.N_reads' HO_9.out).2.2 | (with_reducible refine Kd.C_alloc ?_ _) | (with_reducible refine Kd.C_drewN ?_ _) | (with_reducible refine Kd.C_drew ?_))); (case side4 => exact (Kd.N_reads' HO_9.out).2.1); rintro e w70 ⟨rfl, hb⟩; have n0_ := Ad.mk (Kd.R_below (by (with_reducible repeat (first | apply Kd.R_alloc | apply Kd.R_drewN | apply Kd.R_drew)); exact HO_3.out) hb); have n1_ := Ad.mk (Kd.N_below (by (with_reducible repeat (first | apply Kd.N_alloc | apply Kd.N_drewN | apply Kd.N_drew)); exact HO_9.out) hb); have n2_ := Ad.mk (Kd.N_below (by (with_reducible repeat (first | apply Kd.N_alloc | apply Kd.N_drewN | apply Kd.N_drew)); exact HO_10.out) hb); have n3_ := Ad.mk (Kd.V_below (by (with_reducible repeat (first | apply Kd.V_alloc | apply Kd.V_drewN | apply Kd.V_drew)); exact HO_401002.out) hb); have n4_ := Ad.mk (Kd.V_below (by (with_reducible repeat (first | apply Kd.V_alloc | apply Kd.V_drewN | apply Kd.V_drew)); exact HO_405002.out) hb); have n5_ := Ad.mk (Kd.V_below (by (with_reducible repeat (first | apply Kd.V_alloc | apply Kd.V_drewN | apply Kd.V_drew)); exact HO_406002.out) hb); have n6_ := Ad.mk (qa6 (g := gb400) (o := .cells #[.int .i64 t395, .int .i64 t396, .slice Ao9 t397.length co9] 42 (0, 0)) (by (with_reducible repeat (first | refine bkN ?_ _ | refine bkd ?_ | refine bka ?_ _)); exact BK400.out) hb); have n7_ := Ad.mk (qa6 (g := gb404) (o := .cells #[.int .i64 t395, .int .i64 t401, .slice Ao9 t397.length co9] 42 (0, 0)) (by (with_reducible repeat (first | refine bkN ?_ _ | refine bkd ?_ | refine bka ?_ _)); exact BK404.out) hb); have n8_ := Ad.mk (qa6 (g := gb405) (o := .cells #[.int .i64 t395, .int .i64 (wrap64 (t401 + 1)), .slice Ao9 t397.length co9] 42 (0, 0)) (by (with_reducible repeat (first | refine bkN ?_ _ | refine bkd ?_ | refine bka ?_ _)); exact BK405.out) hb); have n9_ := Ad.mk (qa5 (by repeat (first | (with_reducible first | exact HB.out | apply bwa | apply bwN | apply bw1 | refine bws ?_ GE400.out | refine bws ?_ GE404.out | refine bws ?_ GE405.out) | exact HB.out)) hb); clear HO_3; clear HO_9; clear HO_10; clear HO_401002; clear HO_405002; clear HO_406002; clear BK400; clear BK404; clear BK405; clear HB; have HO_3 := n0_; have HO_9 := n1_; have HO_10 := n2_; have HO_401002 := n3_; have HO_405002 := n4_; have HO_406002 := n5_; have BK400 := n6_; have BK404 := n7_; have BK405 := n8_; have HB := n9_; clear n0_ n1_ n2_ n3_ n4_ n5_ n6_ n7_ n8_ n9_; (try clear hb); (try clear hb2); (try clear hk); (try clear hi); obtain ⟨Ao71, co71, eo71⟩ := Kd.N_slice HO_10.out; subst eo71) | (go_at_call 25; (with_reducible refine (impl_SafeLoans.calls kj26 _ _ t389 _ _ x10_26 t432 _ ?side1 ?side2 ?side3 ?side4 A68.out).mono ?_); (case side1 => repeat (first | exact (Kd.R_reads' HO_3.out).2.2 | (with_reducible refine Kd.C_alloc ?_ _) | (with_reducible refine Kd.C_drewN ?_ _) | (with_reducible refine Kd.C_drew ?_))); (case side2 => exact (Kd.R_reads' HO_3.out).2.1); (case side3 => repeat (first | exact (Kd.N_reads' HO_10.out).2.2 | (with_reducible refine Kd.C_alloc ?_ _) | (with_reducible refine Kd.C_drewN ?_ _) | (with_reducible refine Kd.C_drew ?_))); (case side4 => exact (Kd.N_reads' HO_10.out).2.1); rintro e w72 ⟨rfl, hb⟩; have n0_ := Ad.mk (Kd.R_below (by (with_reducible repeat (first | apply Kd.R_alloc | apply Kd.R_drewN | apply Kd.R_drew)); exact HO_3.out) hb); have n1_ := Ad.mk (Kd.N_below (by (with_reducible repeat (first | apply Kd.N_alloc | apply Kd.N_drewN | apply Kd.N_drew)); exact HO_9.out) hb); have n2_ := Ad.mk (Kd.N_below (by (with_reducible repeat (first | apply Kd.N_alloc | apply Kd.N_drewN | apply Kd.N_drew)); exact HO_10.out) hb); have n3_ := Ad.mk (Kd.V_below (by (with_reducible repeat (first | apply Kd.V_alloc | apply Kd.V_drewN | apply Kd.V_drew)); exact HO_401002.out) hb); have n4_ := Ad.mk (Kd.V_below (by (with_reducible repeat (first | apply Kd.V_alloc | apply Kd.V_drewN | apply Kd.V_drew)); exact HO_405002.out) hb); have n5_ := Ad.mk (Kd.V_below (by (with_reducible repeat (first | apply Kd.V_alloc | apply Kd.V_drewN | apply Kd.V_drew)); exact HO_406002.out) hb); have n6_ := Ad.mk (qa6 (g := gb400) (o := .cells #[.int .i64 t395, .int .i64 t396, .slice Ao9 t397.length co9] 42 (0, 0)) (by (with_reducible repeat (first | refine bkN ?_ _ | refine bkd ?_ | refine bka ?_ _)); exact BK400.out) hb); have n7_ := Ad.mk (qa6 (g := gb404) (o := .cells #[.int .i64 t395, .int .i64 t401, .slice Ao9 t397.length co9] 42 (0, 0)) (by (with_reducible repeat (first | refine bkN ?_ _ | refine bkd ?_ | refine bka ?_ _)); exact BK404.out) hb); have n8_ := Ad.mk (qa6 (g := gb405) (o := .cells #[.int .i64 t395, .int .i64 (wrap64 (t401 + 1)), .slice Ao9 t397.length co9] 42 (0, 0)) (by (with_reducible repeat (first | refine bkN ?_ _ | refine bkd ?_ | refine bka ?_ _)); exact BK405.out) hb); have n9_ := Ad.mk (qa5 (by repeat (first | (with_reducible first | exact HB.out | apply bwa | apply bwN | apply bw1 | refine bws ?_ GE400.out | refine bws ?_ GE404.out | refine bws ?_ GE405.out) | exact HB.out)) hb); clear HO_3; clear HO_9; clear HO_10; clear HO_401002; clear HO_405002; clear HO_406002; clear BK400; clear BK404; clear BK405; clear HB; have HO_3 := n0_; have HO_9 := n1_; have HO_10 := n2_; have HO_401002 := n3_; have HO_405002 := n4_; have HO_406002 := n5_; have BK400 := n6_; have BK404 := n7_; have BK405 := n8_; have HB := n9_; clear n0_ n1_ n2_ n3_ n4_ n5_ n6_ n7_ n8_ n9_; (try clear hb); (try clear hb2); (try clear hk); (try clear hi)))
            go_ret
            exact ⟨by first | rfl | (simp [errW_none, errW_some] <;> rfl) | (simp [*, errW_none, errW_some] <;> rfl), by repeat (first | (with_reducible first | exact HB.out | apply bwa | apply bwN | apply bw1 | refine bws ?_ GE400.out | refine bws ?_ GE404.out | refine bws ?_ GE405.out) | exact HB.out)⟩
          ·replace c64 := Bool.eq_false_iff.mpr c64
           subst c64
           have H1 : (some false) = some r := by rw [if_neg (show ¬ (false = true) by decide)] at H; exact H
           clear H
           have H := H1
           clear H1
           obtain rfl := Option.some.inj H
           obtain ⟨Ao73, co73, eo73⟩ := Kd.N_slice HO_9.out
           subst eo73
           go_wp2_with (first | (go_at_call 25; (with_reducible refine (impl_SafeLoans.calls kj26 _ _ t389 _ _ y415 false _ ?side1 ?side2 ?side3 ?side4 A63.out).mono ?_); (case side1 => repeat (first | exact (Kd.R_reads' HO_3.out).2.2 | (with_reducible refine Kd.C_alloc ?_ _) | (with_reducible refine Kd.C_drewN ?_ _) | (with_reducible refine Kd.C_drew ?_))); (case side2 => exact (Kd.R_reads' HO_3.out).2.1); (case side3 => repeat (first | exact (Kd.N_reads' HO_9.out).2.2 | (with_reducible refine Kd.C_alloc ?_ _) | (with_reducible refine Kd.C_drewN ?_ _) | (with_reducible refine Kd.C_drew ?_))); (case side4 => exact (Kd.N_reads' HO_9.out).2.1); rintro e w74 ⟨rfl, hb⟩; have n0_ := Ad.mk (Kd.R_below (by (with_reducible repeat (first | apply Kd.R_alloc | apply Kd.R_drewN | apply Kd.R_drew)); exact HO_3.out) hb); have n1_ := Ad.mk (Kd.N_below (by (with_reducible repeat (first | apply Kd.N_alloc | apply Kd.N_drewN | apply Kd.N_drew)); exact HO_9.out) hb); have n2_ := Ad.mk (Kd.N_below (by (with_reducible repeat (first | apply Kd.N_alloc | apply Kd.N_drewN | apply Kd.N_drew)); exact HO_10.out) hb); have n3_ := Ad.mk (Kd.V_below (by (with_reducible repeat (first | apply Kd.V_alloc | apply Kd.V_drewN | apply Kd.V_drew)); exact HO_401002.out) hb); have n4_ := Ad.mk (Kd.V_below (by (with_reducible repeat (first | apply Kd.V_alloc | apply Kd.V_drewN | apply Kd.V_drew)); exact HO_405002.out) hb); have n5_ := Ad.mk (Kd.V_below (by (with_reducible repeat (first | apply Kd.V_alloc | apply Kd.V_drewN | apply Kd.V_drew)); exact HO_406002.out) hb); have n6_ := Ad.mk (qa6 (g := gb400) (o := .cells #[.int .i64 t395, .int .i64 t396, .slice Ao9 t397.length co9] 42 (0, 0)) (by (with_reducible repeat (first | refine bkN ?_ _ | refine bkd ?_ | refine bka ?_ _)); exact BK400.out) hb); have n7_ := Ad.mk (qa6 (g := gb404) (o := .cells #[.int .i64 t395, .int .i64 t401, .slice Ao9 t397.length co9] 42 (0, 0)) (by (with_reducible repeat (first | refine bkN ?_ _ | refine bkd ?_ | refine bka ?_ _)); exact BK404.out) hb); have n8_ := Ad.mk (qa6 (g := gb405) (o := .cells #[.int .i64 t395, .int .i64 (wrap64 (t401 + 1)), .slice Ao9 t397.length co9] 42 (0, 0)) (by (with_reducible repeat (first | refine bkN ?_ _ | refine bkd ?_ | refine bka ?_ _)); exact BK405.out) hb); have n9_ := Ad.mk (qa5 (by repeat (first | (with_reducible first | exact HB.out | apply bwa | apply bwN | apply bw1 | refine bws ?_ GE400.out | refine bws ?_ GE404.out | refine bws ?_ GE405.out) | exact HB.out)) hb); clear HO_3; clear HO_9; clear HO_10; clear HO_401002; clear HO_405002; clear HO_406002; clear BK400; clear BK404; clear BK405; clear HB; have HO_3 := n0_; have HO_9 := n1_; have HO_10 := n2_; have HO_401002 := n3_; have HO_405002 := n4_; have HO_406002 := n5_; have BK400 := n6_; have BK404 := n7_; have BK405 := n8_; have HB := n9_; clear n0_ n1_ n2_ n3_ n4_ n5_ n6_ n7_ n8_ n9_; (try clear hb); (try clear hb2); (try clear hk); (try clear hi)))
           go_ret
           exact ⟨by first | rfl | (simp [errW_none, errW_some] <;> rfl) | (simp [*, errW_none, errW_some] <;> rfl), by repeat (first | (with_reducible first | exact HB.out | apply bwa | apply bwN | apply bw1 | refine bws ?_ GE400.out | refine bws ?_ GE404.out | refine bws ?_ GE405.out) | exact HB.out)⟩
      ·rw [if_neg c26] at H
       exact absurd H (by simp)
     ·rw [if_neg c25] at H
      exact absurd H (by simp)

/-- THE ONE PURE STATEMENT of laws_FnMostLoan: yours. -/
def laws_FnMostLoan.Pure : Prop := ∀ (l0 : List Int), l0.length ≤ maxLen → l0.length * 1 ≤ 140737488351232 → (∀ x ∈ l0, (Lit.int .u8 x).wf = true) → ∃ k, laws_FnMostLoan.f k l0 = some true
theorem laws_FnMostLoan.walk (P : laws_FnMostLoan.Pure) (a0 : Option Addr) (len0 cap0 : Nat) (z0 : List Int) (w : World) (w0 : (a0 = none ∧ len0 = 0 ∧ cap0 = 0 ∧ z0 = []) ∨ ∃ x, a0 = some x ∧ len0 ≤ cap0 ∧ cap0 ≤ maxLen ∧ z0.length = cap0 ∧ (∀ i, i < z0.length → w.cell? (x.add i) = some (.int .u8 (z0.getD i 0))) ∧ ∀ n ∈ z0, (Lit.int .u8 n).wf = true) (y0 : len0 * 1 ≤ 140737488351232) :
  Calls Try.prog 5 #[.slice a0 len0 cap0] w fun e w' => e = .returned (.bool true) ∧ Below w.heap.size w w' := by
 obtain ⟨l0, rfl, hr0, hm0, hw0, hc0⟩ := ReadsInt.ofRowC w0
 obtain ⟨k, h⟩ := P l0 hm0 y0 hw0
 refine (laws_FnMostLoan.calls k _ _ l0 true w (Kd.C_of_reads (d := (0 : Int)) (h1 := fun _ => rfl) hr0) hc0 h).mono ?_
 rintro e w' ⟨rfl, hd⟩
 exact ⟨rfl, hd⟩

end Go.Proofs.Ytifohlgdkdcpeaa.PFnMostLoan
