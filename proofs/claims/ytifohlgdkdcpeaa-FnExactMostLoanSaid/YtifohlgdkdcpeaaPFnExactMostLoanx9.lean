-- printed by pp.py, a program of this session's own, out of the translation; not the kit's print
-- halved
import Derived.Test.YtifohlgdkdcpeaaPFnExactMostLoanx0
import Derived.Test.YtifohlgdkdcpeaaPFnExactMostLoanx6
import Derived.Test.YtifohlgdkdcpeaaPFnExactMostLoanx8
namespace Go.Proofs.Ytifohlgdkdcpeaa.PFnExactMostLoan
open Go.RowKit Go.Proofs.YtifohlgdkdcpeaaW.PrintWords Go.Proofs.YtifohlgdkdcpeaaW.PrintLast Go.Proofs.YtifohlgdkdcpeaaW.PrintMore
attribute [local go_sem] max2_int min2_int max_two min_two max_three min_three max_four min_four   -- for this text's walks alone
set_option linter.unusedVariables false
set_option linter.unusedSimpArgs false

/-! ### spec_MostLoan: function 24 -/
mutual
def spec_MostLoan.j0 : Nat → List Int → List (S42) → List (S42) → Bool → Option (Int)
 | 0, _, _, _, _ => none
 | k + 1, x0, x1, x7, x33 => if x33 = true then (some (-1)) else (spec_MostLoan.l0 k x0 x1 x7 0 100000)
def spec_MostLoan.l0 : Nat → List Int → List (S42) → List (S42) → Int → Int → Option (Int)
 | 0, _, _, _, _, _ => none
 | k + 1, x0, x1, x7, x8, x9 => if x8 < x9 then (if 0 ≤ (x1.length : Int) then (if (x1.length : Int) < (x7.length : Int) then ((some (x7.set ((x1.length : Int) : Int).toNat (⟨(rd_T42 x7 (x1.length : Int)).f0, wrap64 (Int.tdiv (wrap64 ((wrap64 (x8 + x9)) + 1)) 2), (rd_T42 x7 (x1.length : Int)).f2⟩ : S42) : List (S42))).bind fun y269 => ((spec_safe.f k x0 y269).bind fun t270 => (if t270 = true then (spec_MostLoan.l0 k x0 x1 y269 (wrap64 (Int.tdiv (wrap64 ((wrap64 (x8 + x9)) + 1)) 2)) x9) else (spec_MostLoan.l0 k x0 x1 y269 x8 (wrap64 ((wrap64 (Int.tdiv (wrap64 ((wrap64 (x8 + x9)) + 1)) 2)) - 1)))))) else (none)) else (none)) else (some x8)
end
def spec_MostLoan.f (k : Nat) (l0 : List Int) (l1 : List (S42)) (a2_0 : Int) (a2_1 : Int) (l2_2 : List Int) : Option (Int) := (some (([] : List (S42)) : List (S42))).bind fun y254 => (if y254.length + l1.length < 3518437208883 then ((some (y254 ++ l1 : List (S42))).bind fun y257 => ((some (([(⟨a2_0, 1, l2_2⟩ : S42)] : List (S42)) : List (S42))).bind fun y260 => (if y257.length + y260.length < 3518437208883 then ((some (y257 ++ y260 : List (S42))).bind fun y263 => ((spec_validStakes.f k l0).bind fun t266 => (if t266 = true then ((spec_validLoans.f k y263 (l0.length : Int)).bind fun t267 => (if t267 = true then ((spec_safe.f k l0 l1).bind fun t268 => (spec_MostLoan.j0 k l0 l1 y263 (!t268))) else (spec_MostLoan.j0 k l0 l1 y263 true))) else (spec_MostLoan.j0 k l0 l1 y263 true)))) else (none)))) else (none))
theorem spec_MostLoan.mono_l : ∀ k, (∀ y0 y1 y2 y3, LeO (spec_MostLoan.j0 k y0 y1 y2 y3) (spec_MostLoan.j0 (k + 1) y0 y1 y2 y3)) ∧ (∀ y0 y1 y2 y3 y4, LeO (spec_MostLoan.l0 k y0 y1 y2 y3 y4) (spec_MostLoan.l0 (k + 1) y0 y1 y2 y3 y4))
 | 0 => ⟨fun _ _ _ _ r h => by simp [spec_MostLoan.j0] at h, fun _ _ _ _ _ r h => by simp [spec_MostLoan.l0] at h⟩
 | k + 1 => by
  obtain ⟨ih0, ih1⟩ := spec_MostLoan.mono_l k
  refine ⟨?_, ?_⟩
  ·intro y0 y1 y2 y3
   unfold spec_MostLoan.j0
   repeat' first
   | (with_reducible exact ih0 _ _ _ _)
   | (with_reducible exact ih1 _ _ _ _ _)
   | (with_reducible exact spec_safe.mono _ _ _)
   | (with_reducible exact spec_validLoans.mono _ _ _)
   | (with_reducible exact spec_validStakes.mono _ _)
   | (with_reducible exact LeO.refl _)
   | (with_reducible exact LeO.none _)
   | (with_reducible refine LeO.ite ?_ ?_)
   | (with_reducible refine LeO.bind ?_ (fun _ => ?_))
   | exact ih0 _ _ _ _
   | exact ih1 _ _ _ _ _
   | exact spec_safe.mono _ _ _
   | exact spec_validLoans.mono _ _ _
   | exact spec_validStakes.mono _ _
   | exact LeO.none _
   | refine LeO.ite ?_ ?_
   | refine LeO.bind ?_ (fun _ => ?_)
  ·intro y0 y1 y2 y3 y4
   unfold spec_MostLoan.l0
   repeat' first
   | (with_reducible exact ih0 _ _ _ _)
   | (with_reducible exact ih1 _ _ _ _ _)
   | (with_reducible exact spec_safe.mono _ _ _)
   | (with_reducible exact spec_validLoans.mono _ _ _)
   | (with_reducible exact spec_validStakes.mono _ _)
   | (with_reducible exact LeO.refl _)
   | (with_reducible exact LeO.none _)
   | (with_reducible refine LeO.ite ?_ ?_)
   | (with_reducible refine LeO.bind ?_ (fun _ => ?_))
   | exact ih0 _ _ _ _
   | exact ih1 _ _ _ _ _
   | exact spec_safe.mono _ _ _
   | exact spec_validLoans.mono _ _ _
   | exact spec_validStakes.mono _ _
   | exact LeO.none _
   | refine LeO.ite ?_ ?_
   | refine LeO.bind ?_ (fun _ => ?_)
theorem spec_MostLoan.mono : ∀ a0 a1 a2 a3 a4 k, LeO (spec_MostLoan.f k a0 a1 a2 a3 a4) (spec_MostLoan.f (k + 1) a0 a1 a2 a3 a4) := by
 intro a0 a1 a2 a3 a4 k
 obtain ⟨ih0, ih1⟩ := spec_MostLoan.mono_l k
 unfold spec_MostLoan.f
 repeat' first
   | (with_reducible exact ih0 _ _ _ _)
   | (with_reducible exact ih1 _ _ _ _ _)
   | (with_reducible exact spec_safe.mono _ _ _)
   | (with_reducible exact spec_validLoans.mono _ _ _)
   | (with_reducible exact spec_validStakes.mono _ _)
   | (with_reducible exact LeO.refl _)
   | (with_reducible exact LeO.none _)
   | (with_reducible refine LeO.ite ?_ ?_)
   | (with_reducible refine LeO.bind ?_ (fun _ => ?_))
   | exact ih0 _ _ _ _
   | exact ih1 _ _ _ _ _
   | exact spec_safe.mono _ _ _
   | exact spec_validLoans.mono _ _ _
   | exact spec_validStakes.mono _ _
   | exact LeO.none _
   | refine LeO.ite ?_ ?_
   | refine LeO.bind ?_ (fun _ => ?_)
set_option maxHeartbeats 8000000 in
set_option maxRecDepth 100000 in
theorem spec_MostLoan.calls (k : Nat) (A0 : Option Addr) (c0 : Nat) (l0 : List Int) (P1_ : Nat → Prop) (A1 : Option Addr) (c1 : Nat) (l1 : List (S42)) (a2_0 : Int) (a2_1 : Int) (P2_2_ : Nat → Prop) (A2_2 : Option Addr) (c2_2 : Nat) (l2_2 : List Int) (r : Int) (w : World) (hr0 : Kd.C (Kd.int .i64) w A0 l0.length l0) (hc0 : l0.length ≤ c0) (hs1 : Kd.V k42 42 w w.heap.size (fun k_ => P1_ k_) (.slice A1 l1.length c1) l1) (hs2_2 : Kd.V (Kd.int .i64) 3 w w.heap.size (fun k_ => P2_2_ k_) (.slice A2_2 l2_2.length c2_2) l2_2) (h : spec_MostLoan.f k l0 l1 a2_0 a2_1 l2_2 = some r) :
  Calls Try.prog 24 #[.slice A0 l0.length c0, .slice A1 l1.length c1, .agg #[.int .i64 a2_0, .int .i64 a2_1, .slice A2_2 l2_2.length c2_2]] w fun e w' => e = .returned (.int .i64 r) ∧ Below w.heap.size w w' := by
 have hu42 := Try.underlying42
 have HR0 := Ad.mk hr0
 have HC0 := Ad.mk hc0
 clear hr0 hc0
 have HO1 := Ad.mk (show Kd.V k42 42 w w.heap.size (fun k_ => ((P1_ k_ ∨ P2_2_ k_) ∨ w.heap.size ≤ k_)) (.slice A1 l1.length c1) l1 from Kd.V_mono hs1 (fun k_ hk => .inl (.inl hk)))
 have HO2_2 := Ad.mk (show Kd.V (Kd.int .i64) 3 w w.heap.size (fun k_ => ((P1_ k_ ∨ P2_2_ k_) ∨ w.heap.size ≤ k_)) (.slice A2_2 l2_2.length c2_2) l2_2 from Kd.V_mono hs2_2 (fun k_ hk => .inl (.inr hk)))
 have HB := Ad.mk (Below.refl w.heap.size w)
 have H : ((some (([] : List (S42)) : List (S42))).bind fun y254 => (if y254.length + l1.length < 3518437208883 then ((some (y254 ++ l1 : List (S42))).bind fun y257 => ((some (([(⟨a2_0, 1, l2_2⟩ : S42)] : List (S42)) : List (S42))).bind fun y260 => (if y257.length + y260.length < 3518437208883 then ((some (y257 ++ y260 : List (S42))).bind fun y263 => ((spec_validStakes.f k l0).bind fun t266 => (if t266 = true then ((spec_validLoans.f k y263 (l0.length : Int)).bind fun t267 => (if t267 = true then ((spec_safe.f k l0 l1).bind fun t268 => (spec_MostLoan.j0 k l0 l1 y263 (!t268))) else (spec_MostLoan.j0 k l0 l1 y263 true))) else (spec_MostLoan.j0 k l0 l1 y263 true)))) else (none)))) else (none))) = some r := h
 clear h
 obtain ⟨y254, hy254⟩ : ∃ y_ : List (S42), y_ = (([] : List (S42))) := ⟨_, rfl⟩
 replace H : (if y254.length + l1.length < 3518437208883 then ((some (y254 ++ l1 : List (S42))).bind fun y257 => ((some (([(⟨a2_0, 1, l2_2⟩ : S42)] : List (S42)) : List (S42))).bind fun y260 => (if y257.length + y260.length < 3518437208883 then ((some (y257 ++ y260 : List (S42))).bind fun y263 => ((spec_validStakes.f k l0).bind fun t266 => (if t266 = true then ((spec_validLoans.f k y263 (l0.length : Int)).bind fun t267 => (if t267 = true then ((spec_safe.f k l0 l1).bind fun t268 => (spec_MostLoan.j0 k l0 l1 y263 (!t268))) else (spec_MostLoan.j0 k l0 l1 y263 true))) else (spec_MostLoan.j0 k l0 l1 y263 true)))) else (none)))) else (none)) = some r := by first | (rw [hy254]; with_reducible exact H) | (have H2_ := (Option.bind_some _ _).symm.trans H; rw [hy254]; with_reducible exact H2_) | (have H2_ := (Option.bind_some _ _).symm.trans H; with_reducible exact H2_) | with_reducible exact H | (rw [hy254]; exact H) | exact H
 have Ny254 := Ad.mk hy254
 clear hy254
 by_cases c4 : y254.length + l1.length < 3518437208883
 ·rw [if_pos c4] at H
  have LMc4 := Ad.mk c4
  clear c4
  obtain ⟨y257, hy257⟩ : ∃ y_ : List (S42), y_ = (y254 ++ l1) := ⟨_, rfl⟩
  replace H : ((some (([(⟨a2_0, 1, l2_2⟩ : S42)] : List (S42)) : List (S42))).bind fun y260 => (if y257.length + y260.length < 3518437208883 then ((some (y257 ++ y260 : List (S42))).bind fun y263 => ((spec_validStakes.f k l0).bind fun t266 => (if t266 = true then ((spec_validLoans.f k y263 (l0.length : Int)).bind fun t267 => (if t267 = true then ((spec_safe.f k l0 l1).bind fun t268 => (spec_MostLoan.j0 k l0 l1 y263 (!t268))) else (spec_MostLoan.j0 k l0 l1 y263 true))) else (spec_MostLoan.j0 k l0 l1 y263 true)))) else (none))) = some r := by first | (rw [hy257]; with_reducible exact H) | (have H2_ := (Option.bind_some _ _).symm.trans H; rw [hy257]; with_reducible exact H2_) | (have H2_ := (Option.bind_some _ _).symm.trans H; with_reducible exact H2_) | with_reducible exact H | (rw [hy257]; exact H) | exact H
  have Ny257 := Ad.mk hy257
  clear hy257
  obtain ⟨y260, hy260⟩ : ∃ y_ : List (S42), y_ = (([(⟨a2_0, 1, l2_2⟩ : S42)] : List (S42))) := ⟨_, rfl⟩
  replace H : (if y257.length + y260.length < 3518437208883 then ((some (y257 ++ y260 : List (S42))).bind fun y263 => ((spec_validStakes.f k l0).bind fun t266 => (if t266 = true then ((spec_validLoans.f k y263 (l0.length : Int)).bind fun t267 => (if t267 = true then ((spec_safe.f k l0 l1).bind fun t268 => (spec_MostLoan.j0 k l0 l1 y263 (!t268))) else (spec_MostLoan.j0 k l0 l1 y263 true))) else (spec_MostLoan.j0 k l0 l1 y263 true)))) else (none)) = some r := by first | (rw [hy260]; with_reducible exact H) | (have H2_ := (Option.bind_some _ _).symm.trans H; rw [hy260]; with_reducible exact H2_) | (have H2_ := (Option.bind_some _ _).symm.trans H; with_reducible exact H2_) | with_reducible exact H | (rw [hy260]; exact H) | exact H
  have Ny260 := Ad.mk hy260
  clear hy260
  by_cases c5 : y257.length + y260.length < 3518437208883
  ·rw [if_pos c5] at H
   have LMc5 := Ad.mk c5
   clear c5
   obtain ⟨y263, hy263⟩ : ∃ y_ : List (S42), y_ = (y257 ++ y260) := ⟨_, rfl⟩
   replace H : ((spec_validStakes.f k l0).bind fun t266 => (if t266 = true then ((spec_validLoans.f k y263 (l0.length : Int)).bind fun t267 => (if t267 = true then ((spec_safe.f k l0 l1).bind fun t268 => (spec_MostLoan.j0 k l0 l1 y263 (!t268))) else (spec_MostLoan.j0 k l0 l1 y263 true))) else (spec_MostLoan.j0 k l0 l1 y263 true))) = some r := by first | (rw [hy263]; with_reducible exact H) | (have H2_ := (Option.bind_some _ _).symm.trans H; rw [hy263]; with_reducible exact H2_) | (have H2_ := (Option.bind_some _ _).symm.trans H; with_reducible exact H2_) | with_reducible exact H | (rw [hy263]; exact H) | exact H
   have Ny263 := Ad.mk hy263
   clear hy263
   have HC6 := Ad.mk H
   clear H
   go_enter Try.func24, Try.ntmps24
   try go_wp2_with (first | ((with_reducible refine gate_dst (N := 5) rfl ?_); (try (refine gate_guard (by rfl) ?_; dsimp only)); refine box_event ?hg (N := 5) ?hd (cs := #[.int .i64 a2_0, .int .i64 a2_1, .slice A2_2 l2_2.length c2_2]) (t := 42) ?hr ?_; (case hd => rfl); (case hg => rfl); (case hr => first | (go_simp; done) | (go_simp; rfl)); intro gb253 hg w7 hbox hb; have n0_ := Ad.mk (Kd.V_below (Kd.V_elderB (by (with_reducible repeat (first | apply Kd.V_alloc | apply Kd.V_drewN | apply Kd.V_drew)); exact HO1.out) gb253 (Nat.le_of_eq hg.symm)) hb); have n1_ := Ad.mk (Kd.V_below (Kd.V_elderB (by (with_reducible repeat (first | apply Kd.V_alloc | apply Kd.V_drewN | apply Kd.V_drew)); exact HO2_2.out) gb253 (Nat.le_of_eq hg.symm)) hb); have n2_ := Ad.mk (qa2 (by repeat (first | (with_reducible first | exact HB.out | apply bwa | apply bwN | apply bw1) | exact HB.out)) hb); have n3_ := Ad.mk (hbox); have n4_ := Ad.mk ((by rw [hg]; exact (qa0 (by repeat (first | (with_reducible first | exact HB.out | apply bwa | apply bwN | apply bw1) | exact HB.out))) : w.heap.size ≤ gb253)); have n5_ := Ad.mk ((by rw [hg]; exact (qa0 (by repeat (first | (with_reducible first | exact HB.out | apply bwa | apply bwN | apply bw1) | exact HB.out))) : w.heap.size ≤ gb253)); clear HO1; clear HO2_2; clear HB; have HO1 := n0_; have HO2_2 := n1_; have HB := n2_; have BK253 := n3_; have GW253 := n4_; have GE253 := n5_; clear n0_ n1_ n2_ n3_ n4_ n5_; clear hb hbox hg; have hcz8_0 : w7.cell? ⟨gb253, 0, none⟩ = some (.int .i64 a2_0) := (bkc BK253.out 0).trans rfl; have hcz8_1 : w7.cell? ⟨gb253, 1, none⟩ = some (.int .i64 a2_1) := (bkc BK253.out 1).trans rfl; have hcz8_2 : w7.cell? ⟨gb253, 2, none⟩ = some (.slice A2_2 l2_2.length c2_2) := (bkc BK253.out 2).trans rfl; have hfz8_0 := qa1 BK253.out 0; have hfz8_1 := qa1 BK253.out 1; have hfz8_2 := qa1 BK253.out 2))
   have n0_ : Ad (Kd.V k42 42 (w7.setCell ⟨gb253, 1, none⟩ (.int .i64 1)) w.heap.size (fun k_ => ((P1_ k_ ∨ P2_2_ k_) ∨ w.heap.size ≤ k_) ∧ k_ ≠ gb253) (.slice A1 l1.length c1) l1) := ⟨by (with_reducible repeat (first | apply Kd.V_alloc | apply Kd.V_drewN | apply Kd.V_drew)); exact Kd.V_mono (Kd.V_far (p := ⟨gb253, 1, none⟩) (Kd.V_mono HO1.out (fun k_ hk => (⟨hk, hk.2⟩ : _ ∧ k_ ≠ gb253))) (fun _ hk => hk.2) (.int .i64 1)) (fun _ hk => ⟨hk.1.1, hk.1.2⟩)⟩
   have n1_ : Ad (Kd.V (Kd.int .i64) 3 (w7.setCell ⟨gb253, 1, none⟩ (.int .i64 1)) w.heap.size (fun k_ => ((P1_ k_ ∨ P2_2_ k_) ∨ w.heap.size ≤ k_) ∧ k_ ≠ gb253) (.slice A2_2 l2_2.length c2_2) l2_2) := ⟨by (with_reducible repeat (first | apply Kd.V_alloc | apply Kd.V_drewN | apply Kd.V_drew)); exact Kd.V_mono (Kd.V_far (p := ⟨gb253, 1, none⟩) (Kd.V_mono HO2_2.out (fun k_ hk => (⟨hk, hk.2⟩ : _ ∧ k_ ≠ gb253))) (fun _ hk => hk.2) (.int .i64 1)) (fun _ hk => ⟨hk.1.1, hk.1.2⟩)⟩
   have n2_ : Ad ((w7.setCell ⟨gb253, 1, none⟩ (.int .i64 1)).heap[gb253]? = some (.cells #[.int .i64 a2_0, .int .i64 1, .slice A2_2 l2_2.length c2_2] 42 (0, 0))) := ⟨by (with_reducible repeat (first | refine bkN ?_ _ | refine bkd ?_ | refine bka ?_ _)); refine blk_put (cs := #[.int .i64 a2_0, .int .i64 a2_1, .slice A2_2 l2_2.length c2_2]) ?_ 1 _ rfl; (with_reducible repeat (first | refine bkN ?_ _ | refine bkd ?_ | refine bka ?_ _)); exact BK253.out⟩
   have n3_ : Ad (Below w.heap.size w (w7.setCell ⟨gb253, 1, none⟩ (.int .i64 1))) := ⟨by repeat (first | (with_reducible first | exact HB.out | apply bwa | apply bwN | apply bw1 | refine bws ?_ GE253.out) | exact HB.out)⟩
   (try clear HO1)
   (try clear HO2_2)
   (try clear BK253)
   (try clear HB)
   generalize (w7.setCell ⟨gb253, 1, none⟩ (.int .i64 1)) = w9 at n0_ n1_ n2_ n3_ ⊢
   have HO1 := n0_
   have HO2_2 := n1_
   have BK253 := n2_
   have HB := n3_
   clear n0_ n1_ n2_ n3_
   have n0_ := Ad.mk (Kd.V_drew HO1.out)
   have n1_ := Ad.mk (Kd.V_drew HO2_2.out)
   have n2_ := Ad.mk (bkd BK253.out)
   have n3_ := Ad.mk (bw1 HB.out)
   clear HO1
   clear HO2_2
   clear BK253
   clear HB
   have HO1 := n0_
   have HO2_2 := n1_
   have BK253 := n2_
   have HB := n3_
   clear n0_ n1_ n2_ n3_
   refine start_ (n := 7) (S := fun w' => w'.cell? ⟨gb253, 0, none⟩ = some (.int .i64 a2_0) ∧ w'.cell? ⟨gb253, 1, none⟩ = some (.int .i64 1) ∧ w'.cell? ⟨gb253, 2, none⟩ = some (.slice A2_2 l2_2.length c2_2)) (ds := []) #[false, false, false, false, false, false, false] (by kernel_rfl) rfl rfl ⟨(bkc BK253.out 0).trans rfl, (bkc BK253.out 1).trans rfl, (bkc BK253.out 2).trans rfl⟩ (fun hHeld => ?_)
   generalize w9.drew = w10 at HO1 HO2_2 BK253 HB hHeld ⊢
   refine pure_ (i := 1) (N := some 13) (v := ?_) (a' := ?_) #[false, true, false, false, false, false, false] rfl rfl (by kernel_rfl) (fun _ _ _ h => h) (Or.inl ⟨by rfl, ?_⟩) ?_ ?_
   rotate_left
   ·intro w'
    go_simp
    with_reducible rfl
   rotate_left
   ·simp only [Act.put, List.setIfInBounds_toArray, List.set_cons_zero, List.set_cons_succ, qa5, qa6]
    rfl
   refine take_ (i := 3) (N := some 15) (v := ?_) (a' := ?_) #[false, true, false, true, false, false, false] rfl rfl (by kernel_rfl) (fun _ _ _ h => h) (Or.inl ⟨by rfl, ?_⟩) hHeld ?_ ?_
   rotate_left
   ·rintro w' ⟨s0, s1, s2⟩
    go_simp
    with_reducible rfl
   rotate_left
   ·simp only [Act.put, List.setIfInBounds_toArray, List.set_cons_zero, List.set_cons_succ, qa5, qa6]
    rfl
   refine join_ (σ := Value × Value × Value) 2 #[true, true, true, true, true, false, false] (fun s_ => [(12, s_.1), (14, s_.2.1), (16, s_.2.2)]) (fun s_ w' => (w'.cell? ⟨gb253, 0, none⟩ = some (.int .i64 a2_0) ∧ w'.cell? ⟨gb253, 1, none⟩ = some (.int .i64 1) ∧ w'.cell? ⟨gb253, 2, none⟩ = some (.slice A2_2 l2_2.length c2_2)) ∧ (Kd.V k42 42 w' w.heap.size (fun k_ => ((P1_ k_ ∨ P2_2_ k_) ∨ w.heap.size ≤ k_) ∧ some k_ ≠ (s_.2.1 : Value).ownBlock ∧ some k_ ≠ (s_.2.2 : Value).ownBlock ∧ k_ ≠ gb253) (.slice A1 l1.length c1) l1) ∧ (Kd.N k42 42 w' w.heap.size (fun k_ => ((P1_ k_ ∨ P2_2_ k_) ∨ w.heap.size ≤ k_) ∧ some k_ ≠ (s_.2.2 : Value).ownBlock ∧ k_ ≠ gb253) s_.2.1 y257) ∧ (Kd.N k42 42 w' w.heap.size (fun k_ => ((P1_ k_ ∨ P2_2_ k_) ∨ w.heap.size ≤ k_) ∧ some k_ ≠ (s_.2.1 : Value).ownBlock ∧ k_ ≠ gb253) s_.2.2 y260) ∧ (Kd.V (Kd.int .i64) 3 w' w.heap.size (fun k_ => ((P1_ k_ ∨ P2_2_ k_) ∨ w.heap.size ≤ k_) ∧ some k_ ≠ (s_.2.1 : Value).ownBlock ∧ some k_ ≠ (s_.2.2 : Value).ownBlock ∧ k_ ≠ gb253) (.slice A2_2 l2_2.length c2_2) l2_2) ∧ (w'.heap[gb253]? = some (.cells #[.int .i64 a2_0, .int .i64 1, .slice A2_2 l2_2.length c2_2] 42 (0, 0))) ∧ (Below w.heap.size w w')) ?_ ?_
   rotate_left
   ·intro hCont
    refine two_ (i := 0) (j := 4) (Ni := some 12) (Nj := some 16) #[true, true, false, true, false, false, false] #[false, true, false, true, true, false, false] rfl rfl rfl rfl (by kernel_rfl) (by decide) (by decide) (fun K hK => ?_) (fun K hK => ?_)
    ·skip
     refine Kd.N_lit_step k42 _ 42 ?hg (N' := 12) ?hd (xs := ([] : List (S42))) (inner := []) (ok := (fun k_ => ((P1_ k_ ∨ P2_2_ k_) ∨ w.heap.size ≤ k_) ∧ k_ ≠ gb253)) (okp := (fun k_ => ((P1_ k_ ∨ P2_2_ k_) ∨ w.heap.size ≤ k_) ∧ k_ ≠ gb253)) ?hr ?hp (fun _ hk => hk) ((show ∀ k_, w10.heap.size ≤ k_ → (fun k_ => ((P1_ k_ ∨ P2_2_ k_) ∨ w.heap.size ≤ k_) ∧ k_ ≠ gb253) k_ from fun k_ hk => ⟨(.inr (Nat.le_trans (qa0 (by repeat (first | (with_reducible first | exact HB.out | apply bwa | apply bwN | apply bw1 | refine bws ?_ GE253.out) | exact HB.out))) hk)), Kd.freshB (g := gb253) (o := .cells #[.int .i64 a2_0, .int .i64 1, .slice A2_2 l2_2.length c2_2] 42 (0, 0)) (by (with_reducible repeat (first | refine bkN ?_ _ | refine bkd ?_ | refine bka ?_ _)); exact BK253.out) k_ hk⟩) _ (Nat.le_refl _)) (Below.refl _ _) (Nat.le_refl _) (by simp) ?_; (case hd => rfl); (case hg => rfl); (case hr => first | (go_simp; done) | (go_simp; rfl)); (case hp => exact (Reps.none _ _))
     intro v255 w11 ho12 hb hg_ hnew_
     clear hg_ hnew_
     (first | rw [← Ny254.out] at ho12 | (simp only [Int.reduceToNat] at ho12; rw [← Ny254.out] at ho12))
     have n0_ := Ad.mk (Kd.V_elder' (by (with_reducible repeat (first | apply Kd.V_alloc | apply Kd.V_drewN | apply Kd.V_drew)); exact HO1.out) (Kd.N_base ho12) hb)
     have n1_ := Ad.mk (Kd.V_elder' (by (with_reducible repeat (first | apply Kd.V_alloc | apply Kd.V_drewN | apply Kd.V_drew)); exact HO2_2.out) (Kd.N_base ho12) hb)
     have n2_ := Ad.mk (Kd.N_lower ho12 (qa0 (by repeat (first | (with_reducible first | exact HB.out | apply bwa | apply bwN | apply bw1 | refine bws ?_ GE253.out) | exact HB.out))))
     have n3_ := Ad.mk (qa3 (g := gb253) (o := .cells #[.int .i64 a2_0, .int .i64 1, .slice A2_2 l2_2.length c2_2] 42 (0, 0)) (by (with_reducible repeat (first | refine bkN ?_ _ | refine bkd ?_ | refine bka ?_ _)); exact BK253.out) hb)
     have n4_ := Ad.mk (qa2 (by repeat (first | (with_reducible first | exact HB.out | apply bwa | apply bwN | apply bw1 | refine bws ?_ GE253.out) | exact HB.out)) hb)
     clear HO1
     clear HO2_2
     clear BK253
     clear HB
     have HO1 := n0_
     have HO2_2 := n1_
     have HO256 := n2_
     have BK253 := n3_
     have HB := n4_
     clear n0_ n1_ n2_ n3_ n4_
     clear hb ho12
     refine hK.out _ _ ⟨(bkc BK253.out 0).trans rfl, (bkc BK253.out 1).trans rfl, (bkc BK253.out 2).trans rfl⟩ (fun hHeld => ?_)
     clear hK K
     refine norm_ (a' := ?_) ?_ ?_
     rotate_left
     ·show Act.put _ (some 12) _ = _
      simp only [Act.put, List.setIfInBounds_toArray, List.set_cons_zero, List.set_cons_succ, qa5, qa6]
      rfl
     refine two_ (i := 2) (j := 4) (Ni := some 14) (Nj := some 16) #[true, true, true, true, false, false, false] #[true, true, false, true, true, false, false] rfl rfl rfl rfl (by kernel_rfl) (by decide) (by decide) (fun K hK => ?_) (fun K hK => ?_)
     ·skip
      refine Kd.N_append_rows_step k42 (w0 := w) w.heap.size (by rfl) (.tmp 12) (.tmp 13) 34 42 (.agg #[(.int .i64 0), (.int .i64 0), (.slice none 0 0)]) 40 rfl Try.underlying34 info42 rfl (by decide) (by omega) v255 y254 l1 _ _ _ (fun k_ => ((P1_ k_ ∨ P2_2_ k_) ∨ w.heap.size ≤ k_) ∧ k_ ≠ gb253) (fun k_ => ((fun k_ => ((P1_ k_ ∨ P2_2_ k_) ∨ w.heap.size ≤ k_) ∧ k_ ≠ gb253)) k_ ∧ some k_ ≠ (v255 : Value).ownBlock) rfl rfl ?aO ?aR (fun _ hk => hk) ?aF ?aB ?aS ?aL ?_
      (case aR => exact (by skip; exact Kd.V_F (Kd.V_mono (ok' := (fun k_ => ((fun k_ => ((P1_ k_ ∨ P2_2_ k_) ∨ w.heap.size ≤ k_) ∧ k_ ≠ gb253)) k_ ∧ some k_ ≠ (v255 : Value).ownBlock)) (HO1.out) (fun k_ hk => ⟨⟨hk.1.1, hk.1.2⟩, hk.2⟩))))
      (case aB => exact (by repeat (first | (with_reducible first | exact HB.out | apply bwa | apply bwN | apply bw1 | refine bws ?_ GE253.out) | exact HB.out)))
      (case aF => exact (fun k_ hk => ⟨(.inr (Nat.le_trans (qa0 (by repeat (first | (with_reducible first | exact HB.out | apply bwa | apply bwN | apply bw1 | refine bws ?_ GE253.out) | exact HB.out))) hk)), Kd.freshB (g := gb253) (o := .cells #[.int .i64 a2_0, .int .i64 1, .slice A2_2 l2_2.length c2_2] 42 (0, 0)) (by (with_reducible repeat (first | refine bkN ?_ _ | refine bkd ?_ | refine bka ?_ _)); exact BK253.out) k_ hk⟩))
      (case aO => exact (by (with_reducible repeat (first | apply Kd.N_alloc | apply Kd.N_drewN | apply Kd.N_drew)); exact HO256.out))
      (case aS => exact (qa0 (by repeat (first | (with_reducible first | exact HB.out | apply bwa | apply bwN | apply bw1 | refine bws ?_ GE253.out) | exact HB.out))))
      (case aL => have := LMc4.out; omega)
      intro v258 w13 ho hb hg hat
      rw [← Ny257.out] at ho
      have n0_ := Ad.mk (Kd.V_afterv (ok := (fun k_ => ((P1_ k_ ∨ P2_2_ k_) ∨ w.heap.size ≤ k_) ∧ k_ ≠ gb253)) (by (with_reducible repeat (first | apply Kd.V_alloc | apply Kd.V_drewN | apply Kd.V_drew)); exact HO1.out) hg hat)
      have n1_ := Ad.mk (Kd.V_afterv (ok := (fun k_ => ((P1_ k_ ∨ P2_2_ k_) ∨ w.heap.size ≤ k_) ∧ k_ ≠ gb253)) (by (with_reducible repeat (first | apply Kd.V_alloc | apply Kd.V_drewN | apply Kd.V_drew)); exact HO2_2.out) hg hat)
      have n2_ := Ad.mk (blk_grown (g := gb253) (o := .cells #[.int .i64 a2_0, .int .i64 1, .slice A2_2 l2_2.length c2_2] 42 (0, 0)) (by (with_reducible repeat (first | refine bkN ?_ _ | refine bkd ?_ | refine bka ?_ _)); exact BK253.out) hg (Kd.N_away HO256.out (fun _ hk => hk.2)))
      have n3_ := Ad.mk (hb)
      have n4_ := Ad.mk (ho)
      clear HO1
      clear HO2_2
      clear BK253
      clear HB
      clear HO256
      have HO1 := n0_
      have HO2_2 := n1_
      have BK253 := n2_
      have HB := n3_
      have HO259 := n4_
      clear n0_ n1_ n2_ n3_ n4_
      clear ho hb hg hat
      refine hK.out _ _ ⟨(bkc BK253.out 0).trans rfl, (bkc BK253.out 1).trans rfl, (bkc BK253.out 2).trans rfl⟩ (fun hHeld => ?_)
      clear hK K
      refine norm_ (a' := ?_) ?_ ?_
      rotate_left
      ·show Act.put _ (some 14) _ = _
       simp only [Act.put, List.setIfInBounds_toArray, List.set_cons_zero, List.set_cons_succ, qa5, qa6]
       rfl
      refine one_ (i := 4) (N := some 16) #[true, true, true, true, true, false, false] rfl rfl (by kernel_rfl) (by decide) (fun K hK => ?_)
      refine Kd.N_lit_step k42 _ 42 ?hg (N' := 16) ?hd (xs := ([(⟨a2_0, 1, l2_2⟩ : S42)] : List (S42))) (inner := [.int .i64 a2_0, .int .i64 1, .slice A2_2 l2_2.length c2_2]) (ok := (fun k_ => ((P1_ k_ ∨ P2_2_ k_) ∨ w.heap.size ≤ k_) ∧ some k_ ≠ (v258 : Value).ownBlock ∧ k_ ≠ gb253)) (okp := (fun k_ => ((P1_ k_ ∨ P2_2_ k_) ∨ w.heap.size ≤ k_) ∧ some k_ ≠ (v258 : Value).ownBlock ∧ k_ ≠ gb253)) ?hr ?hp (fun _ hk => hk) ((show ∀ k_, w13.heap.size ≤ k_ → (fun k_ => ((P1_ k_ ∨ P2_2_ k_) ∨ w.heap.size ≤ k_) ∧ some k_ ≠ (v258 : Value).ownBlock ∧ k_ ≠ gb253) k_ from fun k_ hk => ⟨(.inr (Nat.le_trans (qa0 (by repeat (first | (with_reducible first | exact HB.out | apply bwa | apply bwN | apply bw1 | refine bws ?_ GE253.out) | exact HB.out))) hk)), Kd.fresh' (Kd.N_lt (by (with_reducible repeat (first | apply Kd.N_alloc | apply Kd.N_drewN | apply Kd.N_drew)); exact HO259.out)) k_ hk, Kd.freshB (g := gb253) (o := .cells #[.int .i64 a2_0, .int .i64 1, .slice A2_2 l2_2.length c2_2] 42 (0, 0)) (by (with_reducible repeat (first | refine bkN ?_ _ | refine bkd ?_ | refine bka ?_ _)); exact BK253.out) k_ hk⟩) _ (Nat.le_refl _)) (Below.refl _ _) (Nat.le_refl _) (by simp) ?_; (case hd => rfl); (case hg => rfl); (case hr => first | (go_simp; done) | (go_simp; rfl)); (case hp => exact (Reps.c3 (show Kd.FK k42 _ _ (⟨a2_0, 1, l2_2⟩ : S42) [.int .i64 a2_0, .int .i64 1, .slice A2_2 l2_2.length c2_2] from (k42_mkF _ _ (⟨a2_0, 1, l2_2⟩ : S42) (Kd.V_reads' (have z_ := HO2_2.out; Kd.V_mono (ok' := (fun k_ => ((P1_ k_ ∨ P2_2_ k_) ∨ w.heap.size ≤ k_) ∧ some k_ ≠ (v258 : Value).ownBlock ∧ k_ ≠ gb253)) z_ (fun k_ hk => ⟨hk.1.1, ⟨hk.2, hk.1.2⟩⟩))).2.1 (Kd.V_F (have z_ := HO2_2.out; Kd.V_mono (ok' := (fun k_ => ((P1_ k_ ∨ P2_2_ k_) ∨ w.heap.size ≤ k_) ∧ some k_ ≠ (v258 : Value).ownBlock ∧ k_ ≠ gb253)) z_ (fun k_ hk => ⟨hk.1.1, ⟨hk.2, hk.1.2⟩⟩))))) (Reps.none _ _)))
      intro v261 w14 ho15 hb hg_ hnew_
      clear hg_ hnew_
      (first | rw [← Ny260.out] at ho15 | (simp only [Int.reduceToNat] at ho15; rw [← Ny260.out] at ho15))
      have n0_ := Ad.mk (Kd.V_elder' (by (with_reducible repeat (first | apply Kd.V_alloc | apply Kd.V_drewN | apply Kd.V_drew)); exact HO1.out) (Kd.N_base ho15) hb)
      have n1_ := Ad.mk (Kd.V_elder' (by (with_reducible repeat (first | apply Kd.V_alloc | apply Kd.V_drewN | apply Kd.V_drew)); exact HO2_2.out) (Kd.N_base ho15) hb)
      have n2_ := Ad.mk (Kd.N_elder' (by (with_reducible repeat (first | apply Kd.N_alloc | apply Kd.N_drewN | apply Kd.N_drew)); exact HO259.out) (Kd.N_base ho15) hb)
      have n3_ := Ad.mk (Kd.N_lower ho15 (qa0 (by repeat (first | (with_reducible first | exact HB.out | apply bwa | apply bwN | apply bw1 | refine bws ?_ GE253.out) | exact HB.out))))
      have n4_ := Ad.mk (qa3 (g := gb253) (o := .cells #[.int .i64 a2_0, .int .i64 1, .slice A2_2 l2_2.length c2_2] 42 (0, 0)) (by (with_reducible repeat (first | refine bkN ?_ _ | refine bkd ?_ | refine bka ?_ _)); exact BK253.out) hb)
      have n5_ := Ad.mk (qa2 (by repeat (first | (with_reducible first | exact HB.out | apply bwa | apply bwN | apply bw1 | refine bws ?_ GE253.out) | exact HB.out)) hb)
      clear HO1
      clear HO2_2
      clear HO259
      clear BK253
      clear HB
      have HO1 := n0_
      have HO2_2 := n1_
      have HO259 := n2_
      have HO262 := n3_
      have BK253 := n4_
      have HB := n5_
      clear n0_ n1_ n2_ n3_ n4_ n5_
      clear hb ho15
      refine hK.out _ _ ⟨(bkc BK253.out 0).trans rfl, (bkc BK253.out 1).trans rfl, (bkc BK253.out 2).trans rfl⟩ (fun hHeld => ?_)
      clear hK K
      refine norm_ (a' := ?_) ?_ ?_
      rotate_left
      ·show Act.put _ (some 16) _ = _
       simp only [Act.put, List.setIfInBounds_toArray, List.set_cons_zero, List.set_cons_succ, qa5, qa6]
       rfl
      exact norm_ (by simp only [putAll, Act.put, List.setIfInBounds_toArray, List.set_cons_zero, List.set_cons_succ]) (hCont (v255, v258, v261) _ ⟨hHeld, (by (with_reducible repeat (first | apply Kd.V_alloc | apply Kd.V_drewN | apply Kd.V_drew)); exact Kd.V_mono HO1.out (fun _ hk => ⟨hk.1.1.1, ⟨hk.1.2, ⟨hk.2, hk.1.1.2⟩⟩⟩)), (by (with_reducible repeat (first | apply Kd.N_alloc | apply Kd.N_drewN | apply Kd.N_drew)); exact Kd.N_mono HO259.out (fun _ hk => ⟨hk.1.1, ⟨hk.2, hk.1.2⟩⟩)), (by (with_reducible repeat (first | apply Kd.N_alloc | apply Kd.N_drewN | apply Kd.N_drew)); exact HO262.out), (by (with_reducible repeat (first | apply Kd.V_alloc | apply Kd.V_drewN | apply Kd.V_drew)); exact Kd.V_mono HO2_2.out (fun _ hk => ⟨hk.1.1.1, ⟨hk.1.2, ⟨hk.2, hk.1.1.2⟩⟩⟩)), (by (with_reducible repeat (first | refine bkN ?_ _ | refine bkd ?_ | refine bka ?_ _)); exact BK253.out), (by repeat (first | (with_reducible first | exact HB.out | apply bwa | apply bwN | apply bw1 | refine bws ?_ GE253.out) | exact HB.out))⟩)
     ·skip
      refine Kd.N_lit_step k42 _ 42 ?hg (N' := 16) ?hd (xs := ([(⟨a2_0, 1, l2_2⟩ : S42)] : List (S42))) (inner := [.int .i64 a2_0, .int .i64 1, .slice A2_2 l2_2.length c2_2]) (ok := (fun k_ => ((P1_ k_ ∨ P2_2_ k_) ∨ w.heap.size ≤ k_) ∧ some k_ ≠ (v255 : Value).ownBlock ∧ k_ ≠ gb253)) (okp := (fun k_ => ((P1_ k_ ∨ P2_2_ k_) ∨ w.heap.size ≤ k_) ∧ some k_ ≠ (v255 : Value).ownBlock ∧ k_ ≠ gb253)) ?hr ?hp (fun _ hk => hk) ((show ∀ k_, w11.heap.size ≤ k_ → (fun k_ => ((P1_ k_ ∨ P2_2_ k_) ∨ w.heap.size ≤ k_) ∧ some k_ ≠ (v255 : Value).ownBlock ∧ k_ ≠ gb253) k_ from fun k_ hk => ⟨(.inr (Nat.le_trans (qa0 (by repeat (first | (with_reducible first | exact HB.out | apply bwa | apply bwN | apply bw1 | refine bws ?_ GE253.out) | exact HB.out))) hk)), Kd.fresh' (Kd.N_lt (by (with_reducible repeat (first | apply Kd.N_alloc | apply Kd.N_drewN | apply Kd.N_drew)); exact HO256.out)) k_ hk, Kd.freshB (g := gb253) (o := .cells #[.int .i64 a2_0, .int .i64 1, .slice A2_2 l2_2.length c2_2] 42 (0, 0)) (by (with_reducible repeat (first | refine bkN ?_ _ | refine bkd ?_ | refine bka ?_ _)); exact BK253.out) k_ hk⟩) _ (Nat.le_refl _)) (Below.refl _ _) (Nat.le_refl _) (by simp) ?_; (case hd => rfl); (case hg => rfl); (case hr => first | (go_simp; done) | (go_simp; rfl)); (case hp => exact (Reps.c3 (show Kd.FK k42 _ _ (⟨a2_0, 1, l2_2⟩ : S42) [.int .i64 a2_0, .int .i64 1, .slice A2_2 l2_2.length c2_2] from (k42_mkF _ _ (⟨a2_0, 1, l2_2⟩ : S42) (Kd.V_reads' (have z_ := HO2_2.out; Kd.V_mono (ok' := (fun k_ => ((P1_ k_ ∨ P2_2_ k_) ∨ w.heap.size ≤ k_) ∧ some k_ ≠ (v255 : Value).ownBlock ∧ k_ ≠ gb253)) z_ (fun k_ hk => ⟨hk.1.1, ⟨hk.2, hk.1.2⟩⟩))).2.1 (Kd.V_F (have z_ := HO2_2.out; Kd.V_mono (ok' := (fun k_ => ((P1_ k_ ∨ P2_2_ k_) ∨ w.heap.size ≤ k_) ∧ some k_ ≠ (v255 : Value).ownBlock ∧ k_ ≠ gb253)) z_ (fun k_ hk => ⟨hk.1.1, ⟨hk.2, hk.1.2⟩⟩))))) (Reps.none _ _)))
      intro v261 w13 ho14 hb hg_ hnew_
      clear hg_ hnew_
      (first | rw [← Ny260.out] at ho14 | (simp only [Int.reduceToNat] at ho14; rw [← Ny260.out] at ho14))
      have n0_ := Ad.mk (Kd.V_elder' (by (with_reducible repeat (first | apply Kd.V_alloc | apply Kd.V_drewN | apply Kd.V_drew)); exact HO1.out) (Kd.N_base ho14) hb)
      have n1_ := Ad.mk (Kd.V_elder' (by (with_reducible repeat (first | apply Kd.V_alloc | apply Kd.V_drewN | apply Kd.V_drew)); exact HO2_2.out) (Kd.N_base ho14) hb)
      have n2_ := Ad.mk (Kd.N_elder' (by (with_reducible repeat (first | apply Kd.N_alloc | apply Kd.N_drewN | apply Kd.N_drew)); exact HO256.out) (Kd.N_base ho14) hb)
      have n3_ := Ad.mk (Kd.N_lower ho14 (qa0 (by repeat (first | (with_reducible first | exact HB.out | apply bwa | apply bwN | apply bw1 | refine bws ?_ GE253.out) | exact HB.out))))
      have n4_ := Ad.mk (qa3 (g := gb253) (o := .cells #[.int .i64 a2_0, .int .i64 1, .slice A2_2 l2_2.length c2_2] 42 (0, 0)) (by (with_reducible repeat (first | refine bkN ?_ _ | refine bkd ?_ | refine bka ?_ _)); exact BK253.out) hb)
      have n5_ := Ad.mk (qa2 (by repeat (first | (with_reducible first | exact HB.out | apply bwa | apply bwN | apply bw1 | refine bws ?_ GE253.out) | exact HB.out)) hb)
      clear HO1
      clear HO2_2
      clear HO256
      clear BK253
      clear HB
      have HO1 := n0_
      have HO2_2 := n1_
      have HO256 := n2_
      have HO262 := n3_
      have BK253 := n4_
      have HB := n5_
      clear n0_ n1_ n2_ n3_ n4_ n5_
      clear hb ho14
      refine hK.out _ _ ⟨(bkc BK253.out 0).trans rfl, (bkc BK253.out 1).trans rfl, (bkc BK253.out 2).trans rfl⟩ (fun hHeld => ?_)
      clear hK K
      refine norm_ (a' := ?_) ?_ ?_
      rotate_left
      ·show Act.put _ (some 16) _ = _
       simp only [Act.put, List.setIfInBounds_toArray, List.set_cons_zero, List.set_cons_succ, qa5, qa6]
       rfl
      refine one_ (i := 2) (N := some 14) #[true, true, true, true, true, false, false] rfl rfl (by kernel_rfl) (by decide) (fun K hK => ?_)
      refine Kd.N_append_rows_step k42 (w0 := w) w.heap.size (by rfl) (.tmp 12) (.tmp 13) 34 42 (.agg #[(.int .i64 0), (.int .i64 0), (.slice none 0 0)]) 40 rfl Try.underlying34 info42 rfl (by decide) (by omega) v255 y254 l1 _ _ _ (fun k_ => ((P1_ k_ ∨ P2_2_ k_) ∨ w.heap.size ≤ k_) ∧ some k_ ≠ (v261 : Value).ownBlock ∧ k_ ≠ gb253) (fun k_ => ((fun k_ => ((P1_ k_ ∨ P2_2_ k_) ∨ w.heap.size ≤ k_) ∧ some k_ ≠ (v261 : Value).ownBlock ∧ k_ ≠ gb253)) k_ ∧ some k_ ≠ (v255 : Value).ownBlock) rfl rfl ?aO ?aR (fun _ hk => hk) ?aF ?aB ?aS ?aL ?_
      (case aR => exact (by skip; exact Kd.V_F (Kd.V_mono (ok' := (fun k_ => ((fun k_ => ((P1_ k_ ∨ P2_2_ k_) ∨ w.heap.size ≤ k_) ∧ some k_ ≠ (v261 : Value).ownBlock ∧ k_ ≠ gb253)) k_ ∧ some k_ ≠ (v255 : Value).ownBlock)) (HO1.out) (fun k_ hk => ⟨⟨hk.1.1.1, ⟨hk.2, hk.1.1.2⟩⟩, hk.1.2⟩))))
      (case aB => exact (by repeat (first | (with_reducible first | exact HB.out | apply bwa | apply bwN | apply bw1 | refine bws ?_ GE253.out) | exact HB.out)))
      (case aF => exact (fun k_ hk => ⟨(.inr (Nat.le_trans (qa0 (by repeat (first | (with_reducible first | exact HB.out | apply bwa | apply bwN | apply bw1 | refine bws ?_ GE253.out) | exact HB.out))) hk)), Kd.fresh' (Kd.N_lt (by (with_reducible repeat (first | apply Kd.N_alloc | apply Kd.N_drewN | apply Kd.N_drew)); exact HO262.out)) k_ hk, Kd.freshB (g := gb253) (o := .cells #[.int .i64 a2_0, .int .i64 1, .slice A2_2 l2_2.length c2_2] 42 (0, 0)) (by (with_reducible repeat (first | refine bkN ?_ _ | refine bkd ?_ | refine bka ?_ _)); exact BK253.out) k_ hk⟩))
      (case aO => exact (by (with_reducible repeat (first | apply Kd.N_alloc | apply Kd.N_drewN | apply Kd.N_drew)); exact Kd.N_mono HO256.out (fun _ hk => ⟨hk.1.1, ⟨hk.2, hk.1.2⟩⟩)))
      (case aS => exact (qa0 (by repeat (first | (with_reducible first | exact HB.out | apply bwa | apply bwN | apply bw1 | refine bws ?_ GE253.out) | exact HB.out))))
      (case aL => have := LMc4.out; omega)
      intro v258 w15 ho hb hg hat
      rw [← Ny257.out] at ho
      have n0_ := Ad.mk (Kd.V_afterv (ok := (fun k_ => ((P1_ k_ ∨ P2_2_ k_) ∨ w.heap.size ≤ k_) ∧ some k_ ≠ (v261 : Value).ownBlock ∧ k_ ≠ gb253)) (by (with_reducible repeat (first | apply Kd.V_alloc | apply Kd.V_drewN | apply Kd.V_drew)); exact Kd.V_mono HO1.out (fun _ hk => ⟨⟨hk.1.1.1, ⟨hk.2, hk.1.1.2⟩⟩, hk.1.2⟩)) hg hat)
      have n1_ := Ad.mk (Kd.V_afterv (ok := (fun k_ => ((P1_ k_ ∨ P2_2_ k_) ∨ w.heap.size ≤ k_) ∧ some k_ ≠ (v261 : Value).ownBlock ∧ k_ ≠ gb253)) (by (with_reducible repeat (first | apply Kd.V_alloc | apply Kd.V_drewN | apply Kd.V_drew)); exact Kd.V_mono HO2_2.out (fun _ hk => ⟨⟨hk.1.1.1, ⟨hk.2, hk.1.1.2⟩⟩, hk.1.2⟩)) hg hat)
      have n2_ := Ad.mk (blk_grown (g := gb253) (o := .cells #[.int .i64 a2_0, .int .i64 1, .slice A2_2 l2_2.length c2_2] 42 (0, 0)) (by (with_reducible repeat (first | refine bkN ?_ _ | refine bkd ?_ | refine bka ?_ _)); exact BK253.out) hg (Kd.N_away HO256.out (fun _ hk => hk.1.2)))
      have n3_ := Ad.mk (Kd.N_afterv (ok := (fun k_ => ((P1_ k_ ∨ P2_2_ k_) ∨ w.heap.size ≤ k_) ∧ k_ ≠ gb253)) (by (with_reducible repeat (first | apply Kd.N_alloc | apply Kd.N_drewN | apply Kd.N_drew)); exact Kd.N_mono HO262.out (fun _ hk => ⟨⟨hk.1, hk.2.2⟩, hk.2.1⟩)) hg hat)
      have n4_ := Ad.mk (hb)
      have n5_ := Ad.mk (ho)
      clear HO1
      clear HO2_2
      clear BK253
      clear HO262
      clear HB
      clear HO256
      have HO1 := n0_
      have HO2_2 := n1_
      have BK253 := n2_
      have HO262 := n3_
      have HB := n4_
      have HO259 := n5_
      clear n0_ n1_ n2_ n3_ n4_ n5_
      clear ho hb hg hat
      refine hK.out _ _ ⟨(bkc BK253.out 0).trans rfl, (bkc BK253.out 1).trans rfl, (bkc BK253.out 2).trans rfl⟩ (fun hHeld => ?_)
      clear hK K
      refine norm_ (a' := ?_) ?_ ?_
      rotate_left
      ·show Act.put _ (some 14) _ = _
       simp only [Act.put, List.setIfInBounds_toArray, List.set_cons_zero, List.set_cons_succ, qa5, qa6]
       rfl
      exact norm_ (by simp only [putAll, Act.put, List.setIfInBounds_toArray, List.set_cons_zero, List.set_cons_succ]) (hCont (v255, v258, v261) _ ⟨hHeld, (by (with_reducible repeat (first | apply Kd.V_alloc | apply Kd.V_drewN | apply Kd.V_drew)); exact Kd.V_mono HO1.out (fun _ hk => ⟨hk.1.1, ⟨hk.2, ⟨hk.1.2.1, hk.1.2.2⟩⟩⟩)), (by (with_reducible repeat (first | apply Kd.N_alloc | apply Kd.N_drewN | apply Kd.N_drew)); exact HO259.out), (by (with_reducible repeat (first | apply Kd.N_alloc | apply Kd.N_drewN | apply Kd.N_drew)); exact Kd.N_mono HO262.out (fun _ hk => ⟨hk.1.1, ⟨hk.2, hk.1.2⟩⟩)), (by (with_reducible repeat (first | apply Kd.V_alloc | apply Kd.V_drewN | apply Kd.V_drew)); exact Kd.V_mono HO2_2.out (fun _ hk => ⟨hk.1.1, ⟨hk.2, ⟨hk.1.2.1, hk.1.2.2⟩⟩⟩)), (by (with_reducible repeat (first | refine bkN ?_ _ | refine bkd ?_ | refine bka ?_ _)); exact BK253.out), (by repeat (first | (with_reducible first | exact HB.out | apply bwa | apply bwN | apply bw1 | refine bws ?_ GE253.out) | exact HB.out))⟩)
    ·skip
     refine Kd.N_lit_step k42 _ 42 ?hg (N' := 16) ?hd (xs := ([(⟨a2_0, 1, l2_2⟩ : S42)] : List (S42))) (inner := [.int .i64 a2_0, .int .i64 1, .slice A2_2 l2_2.length c2_2]) (ok := (fun k_ => ((P1_ k_ ∨ P2_2_ k_) ∨ w.heap.size ≤ k_) ∧ k_ ≠ gb253)) (okp := (fun k_ => ((P1_ k_ ∨ P2_2_ k_) ∨ w.heap.size ≤ k_) ∧ k_ ≠ gb253)) ?hr ?hp (fun _ hk => hk) ((show ∀ k_, w10.heap.size ≤ k_ → (fun k_ => ((P1_ k_ ∨ P2_2_ k_) ∨ w.heap.size ≤ k_) ∧ k_ ≠ gb253) k_ from fun k_ hk => ⟨(.inr (Nat.le_trans (qa0 (by repeat (first | (with_reducible first | exact HB.out | apply bwa | apply bwN | apply bw1 | refine bws ?_ GE253.out) | exact HB.out))) hk)), Kd.freshB (g := gb253) (o := .cells #[.int .i64 a2_0, .int .i64 1, .slice A2_2 l2_2.length c2_2] 42 (0, 0)) (by (with_reducible repeat (first | refine bkN ?_ _ | refine bkd ?_ | refine bka ?_ _)); exact BK253.out) k_ hk⟩) _ (Nat.le_refl _)) (Below.refl _ _) (Nat.le_refl _) (by simp) ?_; (case hd => rfl); (case hg => rfl); (case hr => first | (go_simp; done) | (go_simp; rfl)); (case hp => exact (Reps.c3 (show Kd.FK k42 _ _ (⟨a2_0, 1, l2_2⟩ : S42) [.int .i64 a2_0, .int .i64 1, .slice A2_2 l2_2.length c2_2] from (k42_mkF _ _ (⟨a2_0, 1, l2_2⟩ : S42) (Kd.V_reads' (have z_ := HO2_2.out; Kd.V_mono (ok' := (fun k_ => ((P1_ k_ ∨ P2_2_ k_) ∨ w.heap.size ≤ k_) ∧ k_ ≠ gb253)) z_ (fun k_ hk => ⟨hk.1, hk.2⟩))).2.1 (Kd.V_F (have z_ := HO2_2.out; Kd.V_mono (ok' := (fun k_ => ((P1_ k_ ∨ P2_2_ k_) ∨ w.heap.size ≤ k_) ∧ k_ ≠ gb253)) z_ (fun k_ hk => ⟨hk.1, hk.2⟩))))) (Reps.none _ _)))
     intro v261 w11 ho12 hb hg_ hnew_
     clear hg_ hnew_
     (first | rw [← Ny260.out] at ho12 | (simp only [Int.reduceToNat] at ho12; rw [← Ny260.out] at ho12))
     have n0_ := Ad.mk (Kd.V_elder' (by (with_reducible repeat (first | apply Kd.V_alloc | apply Kd.V_drewN | apply Kd.V_drew)); exact HO1.out) (Kd.N_base ho12) hb)
     have n1_ := Ad.mk (Kd.V_elder' (by (with_reducible repeat (first | apply Kd.V_alloc | apply Kd.V_drewN | apply Kd.V_drew)); exact HO2_2.out) (Kd.N_base ho12) hb)
     have n2_ := Ad.mk (Kd.N_lower ho12 (qa0 (by repeat (first | (with_reducible first | exact HB.out | apply bwa | apply bwN | apply bw1 | refine bws ?_ GE253.out) | exact HB.out))))
     have n3_ := Ad.mk (qa3 (g := gb253) (o := .cells #[.int .i64 a2_0, .int .i64 1, .slice A2_2 l2_2.length c2_2] 42 (0, 0)) (by (with_reducible repeat (first | refine bkN ?_ _ | refine bkd ?_ | refine bka ?_ _)); exact BK253.out) hb)
     have n4_ := Ad.mk (qa2 (by repeat (first | (with_reducible first | exact HB.out | apply bwa | apply bwN | apply bw1 | refine bws ?_ GE253.out) | exact HB.out)) hb)
     clear HO1
     clear HO2_2
     clear BK253
     clear HB
     have HO1 := n0_
     have HO2_2 := n1_
     have HO262 := n2_
     have BK253 := n3_
     have HB := n4_
     clear n0_ n1_ n2_ n3_ n4_
     clear hb ho12
     refine hK.out _ _ ⟨(bkc BK253.out 0).trans rfl, (bkc BK253.out 1).trans rfl, (bkc BK253.out 2).trans rfl⟩ (fun hHeld => ?_)
     clear hK K
     refine norm_ (a' := ?_) ?_ ?_
     rotate_left
     ·show Act.put _ (some 16) _ = _
      simp only [Act.put, List.setIfInBounds_toArray, List.set_cons_zero, List.set_cons_succ, qa5, qa6]
      rfl
     refine one_ (i := 0) (N := some 12) #[true, true, false, true, true, false, false] rfl rfl (by kernel_rfl) (by decide) (fun K hK => ?_)
     refine Kd.N_lit_step k42 _ 42 ?hg (N' := 12) ?hd (xs := ([] : List (S42))) (inner := []) (ok := (fun k_ => ((P1_ k_ ∨ P2_2_ k_) ∨ w.heap.size ≤ k_) ∧ some k_ ≠ (v261 : Value).ownBlock ∧ k_ ≠ gb253)) (okp := (fun k_ => ((P1_ k_ ∨ P2_2_ k_) ∨ w.heap.size ≤ k_) ∧ some k_ ≠ (v261 : Value).ownBlock ∧ k_ ≠ gb253)) ?hr ?hp (fun _ hk => hk) ((show ∀ k_, w11.heap.size ≤ k_ → (fun k_ => ((P1_ k_ ∨ P2_2_ k_) ∨ w.heap.size ≤ k_) ∧ some k_ ≠ (v261 : Value).ownBlock ∧ k_ ≠ gb253) k_ from fun k_ hk => ⟨(.inr (Nat.le_trans (qa0 (by repeat (first | (with_reducible first | exact HB.out | apply bwa | apply bwN | apply bw1 | refine bws ?_ GE253.out) | exact HB.out))) hk)), Kd.fresh' (Kd.N_lt (by (with_reducible repeat (first | apply Kd.N_alloc | apply Kd.N_drewN | apply Kd.N_drew)); exact HO262.out)) k_ hk, Kd.freshB (g := gb253) (o := .cells #[.int .i64 a2_0, .int .i64 1, .slice A2_2 l2_2.length c2_2] 42 (0, 0)) (by (with_reducible repeat (first | refine bkN ?_ _ | refine bkd ?_ | refine bka ?_ _)); exact BK253.out) k_ hk⟩) _ (Nat.le_refl _)) (Below.refl _ _) (Nat.le_refl _) (by simp) ?_; (case hd => rfl); (case hg => rfl); (case hr => first | (go_simp; done) | (go_simp; rfl)); (case hp => exact (Reps.none _ _))
     intro v255 w13 ho14 hb hg_ hnew_
     clear hg_ hnew_
     (first | rw [← Ny254.out] at ho14 | (simp only [Int.reduceToNat] at ho14; rw [← Ny254.out] at ho14))
     have n0_ := Ad.mk (Kd.V_elder' (by (with_reducible repeat (first | apply Kd.V_alloc | apply Kd.V_drewN | apply Kd.V_drew)); exact HO1.out) (Kd.N_base ho14) hb)
     have n1_ := Ad.mk (Kd.V_elder' (by (with_reducible repeat (first | apply Kd.V_alloc | apply Kd.V_drewN | apply Kd.V_drew)); exact HO2_2.out) (Kd.N_base ho14) hb)
     have n2_ := Ad.mk (Kd.N_elder' (by (with_reducible repeat (first | apply Kd.N_alloc | apply Kd.N_drewN | apply Kd.N_drew)); exact HO262.out) (Kd.N_base ho14) hb)
     have n3_ := Ad.mk (Kd.N_lower ho14 (qa0 (by repeat (first | (with_reducible first | exact HB.out | apply bwa | apply bwN | apply bw1 | refine bws ?_ GE253.out) | exact HB.out))))
     have n4_ := Ad.mk (qa3 (g := gb253) (o := .cells #[.int .i64 a2_0, .int .i64 1, .slice A2_2 l2_2.length c2_2] 42 (0, 0)) (by (with_reducible repeat (first | refine bkN ?_ _ | refine bkd ?_ | refine bka ?_ _)); exact BK253.out) hb)
     have n5_ := Ad.mk (qa2 (by repeat (first | (with_reducible first | exact HB.out | apply bwa | apply bwN | apply bw1 | refine bws ?_ GE253.out) | exact HB.out)) hb)
     clear HO1
     clear HO2_2
     clear HO262
     clear BK253
     clear HB
     have HO1 := n0_
     have HO2_2 := n1_
     have HO262 := n2_
     have HO256 := n3_
     have BK253 := n4_
     have HB := n5_
     clear n0_ n1_ n2_ n3_ n4_ n5_
     clear hb ho14
     refine hK.out _ _ ⟨(bkc BK253.out 0).trans rfl, (bkc BK253.out 1).trans rfl, (bkc BK253.out 2).trans rfl⟩ (fun hHeld => ?_)
     clear hK K
     refine norm_ (a' := ?_) ?_ ?_
     rotate_left
     ·show Act.put _ (some 12) _ = _
      simp only [Act.put, List.setIfInBounds_toArray, List.set_cons_zero, List.set_cons_succ, qa5, qa6]
      rfl
     refine one_ (i := 2) (N := some 14) #[true, true, true, true, true, false, false] rfl rfl (by kernel_rfl) (by decide) (fun K hK => ?_)
     refine Kd.N_append_rows_step k42 (w0 := w) w.heap.size (by rfl) (.tmp 12) (.tmp 13) 34 42 (.agg #[(.int .i64 0), (.int .i64 0), (.slice none 0 0)]) 40 rfl Try.underlying34 info42 rfl (by decide) (by omega) v255 y254 l1 _ _ _ (fun k_ => ((P1_ k_ ∨ P2_2_ k_) ∨ w.heap.size ≤ k_) ∧ some k_ ≠ (v261 : Value).ownBlock ∧ k_ ≠ gb253) (fun k_ => ((fun k_ => ((P1_ k_ ∨ P2_2_ k_) ∨ w.heap.size ≤ k_) ∧ some k_ ≠ (v261 : Value).ownBlock ∧ k_ ≠ gb253)) k_ ∧ some k_ ≠ (v255 : Value).ownBlock) rfl rfl ?aO ?aR (fun _ hk => hk) ?aF ?aB ?aS ?aL ?_
     (case aR => exact (by skip; exact Kd.V_F (Kd.V_mono (ok' := (fun k_ => ((fun k_ => ((P1_ k_ ∨ P2_2_ k_) ∨ w.heap.size ≤ k_) ∧ some k_ ≠ (v261 : Value).ownBlock ∧ k_ ≠ gb253)) k_ ∧ some k_ ≠ (v255 : Value).ownBlock)) (HO1.out) (fun k_ hk => ⟨⟨hk.1.1.1, ⟨hk.1.2, hk.1.1.2⟩⟩, hk.2⟩))))
     (case aB => exact (by repeat (first | (with_reducible first | exact HB.out | apply bwa | apply bwN | apply bw1 | refine bws ?_ GE253.out) | exact HB.out)))
     (case aF => exact (fun k_ hk => ⟨(.inr (Nat.le_trans (qa0 (by repeat (first | (with_reducible first | exact HB.out | apply bwa | apply bwN | apply bw1 | refine bws ?_ GE253.out) | exact HB.out))) hk)), Kd.fresh' (Kd.N_lt (by (with_reducible repeat (first | apply Kd.N_alloc | apply Kd.N_drewN | apply Kd.N_drew)); exact HO262.out)) k_ hk, Kd.freshB (g := gb253) (o := .cells #[.int .i64 a2_0, .int .i64 1, .slice A2_2 l2_2.length c2_2] 42 (0, 0)) (by (with_reducible repeat (first | refine bkN ?_ _ | refine bkd ?_ | refine bka ?_ _)); exact BK253.out) k_ hk⟩))
     (case aO => exact (by (with_reducible repeat (first | apply Kd.N_alloc | apply Kd.N_drewN | apply Kd.N_drew)); exact HO256.out))
     (case aS => exact (qa0 (by repeat (first | (with_reducible first | exact HB.out | apply bwa | apply bwN | apply bw1 | refine bws ?_ GE253.out) | exact HB.out))))
     (case aL => have := LMc4.out; omega)
     intro v258 w15 ho hb hg hat
     rw [← Ny257.out] at ho
     have n0_ := Ad.mk (Kd.V_afterv (ok := (fun k_ => ((P1_ k_ ∨ P2_2_ k_) ∨ w.heap.size ≤ k_) ∧ some k_ ≠ (v261 : Value).ownBlock ∧ k_ ≠ gb253)) (by (with_reducible repeat (first | apply Kd.V_alloc | apply Kd.V_drewN | apply Kd.V_drew)); exact Kd.V_mono HO1.out (fun _ hk => ⟨⟨hk.1.1.1, ⟨hk.1.2, hk.1.1.2⟩⟩, hk.2⟩)) hg hat)
     have n1_ := Ad.mk (Kd.V_afterv (ok := (fun k_ => ((P1_ k_ ∨ P2_2_ k_) ∨ w.heap.size ≤ k_) ∧ some k_ ≠ (v261 : Value).ownBlock ∧ k_ ≠ gb253)) (by (with_reducible repeat (first | apply Kd.V_alloc | apply Kd.V_drewN | apply Kd.V_drew)); exact Kd.V_mono HO2_2.out (fun _ hk => ⟨⟨hk.1.1.1, ⟨hk.1.2, hk.1.1.2⟩⟩, hk.2⟩)) hg hat)
     have n2_ := Ad.mk (blk_grown (g := gb253) (o := .cells #[.int .i64 a2_0, .int .i64 1, .slice A2_2 l2_2.length c2_2] 42 (0, 0)) (by (with_reducible repeat (first | refine bkN ?_ _ | refine bkd ?_ | refine bka ?_ _)); exact BK253.out) hg (Kd.N_away HO256.out (fun _ hk => hk.2.2)))
     have n3_ := Ad.mk (Kd.N_afterv (ok := (fun k_ => ((P1_ k_ ∨ P2_2_ k_) ∨ w.heap.size ≤ k_) ∧ k_ ≠ gb253)) (by (with_reducible repeat (first | apply Kd.N_alloc | apply Kd.N_drewN | apply Kd.N_drew)); exact HO262.out) hg hat)
     have n4_ := Ad.mk (hb)
     have n5_ := Ad.mk (ho)
     clear HO1
     clear HO2_2
     clear BK253
     clear HO262
     clear HB
     clear HO256
     have HO1 := n0_
     have HO2_2 := n1_
     have BK253 := n2_
     have HO262 := n3_
     have HB := n4_
     have HO259 := n5_
     clear n0_ n1_ n2_ n3_ n4_ n5_
     clear ho hb hg hat
     refine hK.out _ _ ⟨(bkc BK253.out 0).trans rfl, (bkc BK253.out 1).trans rfl, (bkc BK253.out 2).trans rfl⟩ (fun hHeld => ?_)
     clear hK K
     refine norm_ (a' := ?_) ?_ ?_
     rotate_left
     ·show Act.put _ (some 14) _ = _
      simp only [Act.put, List.setIfInBounds_toArray, List.set_cons_zero, List.set_cons_succ, qa5, qa6]
      rfl
     exact norm_ (by simp only [putAll, Act.put, List.setIfInBounds_toArray, List.set_cons_zero, List.set_cons_succ]) (hCont (v255, v258, v261) _ ⟨hHeld, (by (with_reducible repeat (first | apply Kd.V_alloc | apply Kd.V_drewN | apply Kd.V_drew)); exact Kd.V_mono HO1.out (fun _ hk => ⟨hk.1.1, ⟨hk.2, ⟨hk.1.2.1, hk.1.2.2⟩⟩⟩)), (by (with_reducible repeat (first | apply Kd.N_alloc | apply Kd.N_drewN | apply Kd.N_drew)); exact HO259.out), (by (with_reducible repeat (first | apply Kd.N_alloc | apply Kd.N_drewN | apply Kd.N_drew)); exact Kd.N_mono HO262.out (fun _ hk => ⟨hk.1.1, ⟨hk.2, hk.1.2⟩⟩)), (by (with_reducible repeat (first | apply Kd.V_alloc | apply Kd.V_drewN | apply Kd.V_drew)); exact Kd.V_mono HO2_2.out (fun _ hk => ⟨hk.1.1, ⟨hk.2, ⟨hk.1.2.1, hk.1.2.2⟩⟩⟩)), (by (with_reducible repeat (first | refine bkN ?_ _ | refine bkd ?_ | refine bka ?_ _)); exact BK253.out), (by repeat (first | (with_reducible first | exact HB.out | apply bwa | apply bwN | apply bw1 | refine bws ?_ GE253.out) | exact HB.out))⟩)
   rintro ⟨v255, v258, v261⟩ w16 ⟨hS_, h0_, h1_, h2_, h3_, h4_, h5_⟩
   have n0_ : Ad (Kd.V k42 42 w16 w.heap.size (fun k_ => ((P1_ k_ ∨ P2_2_ k_) ∨ w.heap.size ≤ k_) ∧ some k_ ≠ (v258 : Value).ownBlock ∧ some k_ ≠ (v261 : Value).ownBlock ∧ k_ ≠ gb253) (.slice A1 l1.length c1) l1) := ⟨h0_⟩
   have n1_ : Ad (Kd.N k42 42 w16 w.heap.size (fun k_ => ((P1_ k_ ∨ P2_2_ k_) ∨ w.heap.size ≤ k_) ∧ some k_ ≠ (v261 : Value).ownBlock ∧ k_ ≠ gb253) v258 y257) := ⟨h1_⟩
   have n2_ : Ad (Kd.N k42 42 w16 w.heap.size (fun k_ => ((P1_ k_ ∨ P2_2_ k_) ∨ w.heap.size ≤ k_) ∧ some k_ ≠ (v258 : Value).ownBlock ∧ k_ ≠ gb253) v261 y260) := ⟨h2_⟩
   have n3_ : Ad (Kd.V (Kd.int .i64) 3 w16 w.heap.size (fun k_ => ((P1_ k_ ∨ P2_2_ k_) ∨ w.heap.size ≤ k_) ∧ some k_ ≠ (v258 : Value).ownBlock ∧ some k_ ≠ (v261 : Value).ownBlock ∧ k_ ≠ gb253) (.slice A2_2 l2_2.length c2_2) l2_2) := ⟨h3_⟩
   have n4_ : Ad (w16.heap[gb253]? = some (.cells #[.int .i64 a2_0, .int .i64 1, .slice A2_2 l2_2.length c2_2] 42 (0, 0))) := ⟨h4_⟩
   have n5_ : Ad (Below w.heap.size w w16) := ⟨h5_⟩
   clear HO1
   clear HO2_2
   clear BK253
   clear HB
   clear h0_ h1_ h2_ h3_ h4_ h5_
   have HO1 := n0_
   have HO259 := n1_
   have HO262 := n2_
   have HO2_2 := n3_
   have BK253 := n4_
   have HB := n5_
   clear n0_ n1_ n2_ n3_ n4_ n5_
   have hHeld : w16.cell? ⟨gb253, 0, none⟩ = some (.int .i64 a2_0) ∧ w16.cell? ⟨gb253, 1, none⟩ = some (.int .i64 1) ∧ w16.cell? ⟨gb253, 2, none⟩ = some (.slice A2_2 l2_2.length c2_2) := hS_
   obtain ⟨Ao18, co18, eo18⟩ := Kd.N_slice HO262.out
   (first | subst eo18 | (injection eo18 with f1_ f2_ f3_; have f4_ := f1_.symm; have f5_ := f3_.symm; clear f1_ f2_ f3_; subst f4_; subst f5_))
   refine norm_ (a' := ?_) ?_ ?_
   rotate_left
   ·simp only [putAll, Act.put, List.setIfInBounds_toArray, List.set_cons_zero, List.set_cons_succ]
    rfl
   refine one_ (i := 5) (N := some 17) #[true, true, true, true, true, true, false] rfl rfl (by kernel_rfl) (by decide) (fun K hK => ?_)
   refine Kd.N_append_rows_step k42 (w0 := w) w.heap.size (by rfl) (.tmp 14) (.tmp 16) 34 42 (.agg #[(.int .i64 0), (.int .i64 0), (.slice none 0 0)]) 40 rfl Try.underlying34 info42 rfl (by decide) (by omega) v258 y257 y260 _ _ _ (fun k_ => ((P1_ k_ ∨ P2_2_ k_) ∨ w.heap.size ≤ k_) ∧ k_ ≠ gb253) (fun k_ => ((fun k_ => ((P1_ k_ ∨ P2_2_ k_) ∨ w.heap.size ≤ k_) ∧ k_ ≠ gb253)) k_ ∧ some k_ ≠ (v258 : Value).ownBlock) rfl rfl ?aO ?aR (fun _ hk => hk) ?aF ?aB ?aS ?aL ?_
   (case aR => exact (by skip; exact Kd.N_F (Kd.N_mono (ok' := (fun k_ => ((fun k_ => ((P1_ k_ ∨ P2_2_ k_) ∨ w.heap.size ≤ k_) ∧ k_ ≠ gb253)) k_ ∧ some k_ ≠ (v258 : Value).ownBlock)) (HO262.out) (fun k_ hk => ⟨⟨hk.1, hk.2.2⟩, hk.2.1⟩))))
   (case aB => exact (by repeat (first | (with_reducible first | exact HB.out | apply bwa | apply bwN | apply bw1 | refine bws ?_ GE253.out) | exact HB.out)))
   (case aF => exact (fun k_ hk => ⟨(.inr (Nat.le_trans (qa0 (by repeat (first | (with_reducible first | exact HB.out | apply bwa | apply bwN | apply bw1 | refine bws ?_ GE253.out) | exact HB.out))) hk)), Kd.freshB (g := gb253) (o := .cells #[.int .i64 a2_0, .int .i64 1, .slice A2_2 l2_2.length c2_2] 42 (0, 0)) (by (with_reducible repeat (first | refine bkN ?_ _ | refine bkd ?_ | refine bka ?_ _)); exact BK253.out) k_ hk⟩))
   (case aO => exact (by (with_reducible repeat (first | apply Kd.N_alloc | apply Kd.N_drewN | apply Kd.N_drew)); exact Kd.N_mono HO259.out (fun _ hk => ⟨hk.1, hk.2.2⟩)))
   (case aS => exact (qa0 (by repeat (first | (with_reducible first | exact HB.out | apply bwa | apply bwN | apply bw1 | refine bws ?_ GE253.out) | exact HB.out))))
   (case aL => have := LMc5.out; omega)
   intro v264 w17 ho hb hg hat
   rw [← Ny263.out] at ho
   have n0_ := Ad.mk (Kd.V_afterv (ok := (fun k_ => ((P1_ k_ ∨ P2_2_ k_) ∨ w.heap.size ≤ k_) ∧ some k_ ≠ (.slice Ao18 y260.length co18 : Value).ownBlock ∧ k_ ≠ gb253)) (by (with_reducible repeat (first | apply Kd.V_alloc | apply Kd.V_drewN | apply Kd.V_drew)); exact Kd.V_mono HO1.out (fun _ hk => ⟨⟨hk.1, ⟨hk.2.2.1, hk.2.2.2⟩⟩, hk.2.1⟩)) hg hat)
   have n1_ := Ad.mk (Kd.V_afterv (ok := (fun k_ => ((P1_ k_ ∨ P2_2_ k_) ∨ w.heap.size ≤ k_) ∧ some k_ ≠ (.slice Ao18 y260.length co18 : Value).ownBlock ∧ k_ ≠ gb253)) (by (with_reducible repeat (first | apply Kd.V_alloc | apply Kd.V_drewN | apply Kd.V_drew)); exact Kd.V_mono HO2_2.out (fun _ hk => ⟨⟨hk.1, ⟨hk.2.2.1, hk.2.2.2⟩⟩, hk.2.1⟩)) hg hat)
   have n2_ := Ad.mk (blk_grown (g := gb253) (o := .cells #[.int .i64 a2_0, .int .i64 1, .slice A2_2 l2_2.length c2_2] 42 (0, 0)) (by (with_reducible repeat (first | refine bkN ?_ _ | refine bkd ?_ | refine bka ?_ _)); exact BK253.out) hg (Kd.N_away HO259.out (fun _ hk => hk.2.2)))
   have n3_ := Ad.mk (Kd.N_afterv (ok := (fun k_ => ((P1_ k_ ∨ P2_2_ k_) ∨ w.heap.size ≤ k_) ∧ k_ ≠ gb253)) (by (with_reducible repeat (first | apply Kd.N_alloc | apply Kd.N_drewN | apply Kd.N_drew)); exact Kd.N_mono HO262.out (fun _ hk => ⟨⟨hk.1, hk.2.2⟩, hk.2.1⟩)) hg hat)
   have n4_ := Ad.mk (hb)
   have n5_ := Ad.mk (ho)
   clear HO1
   clear HO2_2
   clear BK253
   clear HO262
   clear HB
   clear HO259
   have HO1 := n0_
   have HO2_2 := n1_
   have BK253 := n2_
   have HO262 := n3_
   have HB := n4_
   have HO265 := n5_
   clear n0_ n1_ n2_ n3_ n4_ n5_
   clear ho hb hg hat
   refine hK.out _ _ ⟨(bkc BK253.out 0).trans rfl, (bkc BK253.out 1).trans rfl, (bkc BK253.out 2).trans rfl⟩ (fun hHeld => ?_)
   clear hK K
   refine norm_ (a' := ?_) ?_ ?_
   rotate_left
   ·show Act.put _ (some 17) _ = _
    simp only [Act.put, List.setIfInBounds_toArray, List.set_cons_zero, List.set_cons_succ, qa5, qa6]
    rfl
   refine pure_ (i := 6) (N := some 7) (v := ?_) (a' := ?_) #[true, true, true, true, true, true, true] rfl rfl (by kernel_rfl) (fun _ _ _ h => h) (Or.inl ⟨by rfl, ?_⟩) ?_ ?_
   rotate_left
   ·intro w'
    go_simp
    with_reducible rfl
   rotate_left
   ·simp only [Act.put, List.setIfInBounds_toArray, List.set_cons_zero, List.set_cons_succ, qa5, qa6]
    rfl
   refine done_ (by kernel_rfl) ?_
   go_upto_region 3 with (fail)
   go_cut [33] (fun v33 wc => ∃ (kq : Nat) (x33_5 : Bool), v33 = .bool x33_5 ∧ Ad (spec_MostLoan.j0 kq l0 l1 y263 x33_5 = some r) ∧ Ad (kq ≤ k) ∧ Ad (Kd.V k42 42 wc w.heap.size (fun k_ => ((P1_ k_ ∨ P2_2_ k_) ∨ w.heap.size ≤ k_) ∧ some k_ ≠ (v264 : Value).ownBlock ∧ k_ ≠ gb253) (.slice A1 l1.length c1) l1) ∧ Ad (Kd.N k42 42 wc w.heap.size (fun k_ => ((P1_ k_ ∨ P2_2_ k_) ∨ w.heap.size ≤ k_) ∧ k_ ≠ gb253) v264 y263) ∧ Ad (Kd.V (Kd.int .i64) 3 wc w.heap.size (fun k_ => ((P1_ k_ ∨ P2_2_ k_) ∨ w.heap.size ≤ k_) ∧ some k_ ≠ (v264 : Value).ownBlock ∧ k_ ≠ gb253) (.slice A2_2 l2_2.length c2_2) l2_2) ∧ Ad (wc.heap[gb253]? = some (.cells #[.int .i64 a2_0, .int .i64 1, (.slice A2_2 l2_2.length c2_2)] 42 (0, 0))) ∧ Ad (Below w.heap.size w wc))
   case first =>
    have H := HC6.out
    clear HC6
    replace H := Option.bind_eq_some_iff.mp H
    obtain ⟨t266, A190, H⟩ := H
    replace H : (if t266 = true then ((spec_validLoans.f k y263 (l0.length : Int)).bind fun t267 => (if t267 = true then ((spec_safe.f k l0 l1).bind fun t268 => (spec_MostLoan.j0 k l0 l1 y263 (!t268))) else (spec_MostLoan.j0 k l0 l1 y263 true))) else (spec_MostLoan.j0 k l0 l1 y263 true)) = some r := H
    have A19 := Ad.mk A190
    clear A190
    by_cases c20 : t266 = true
    ·subst c20
     have H1 : ((spec_validLoans.f k y263 (l0.length : Int)).bind fun t267 => (if t267 = true then ((spec_safe.f k l0 l1).bind fun t268 => (spec_MostLoan.j0 k l0 l1 y263 (!t268))) else (spec_MostLoan.j0 k l0 l1 y263 true))) = some r := by rw [if_pos rfl] at H; exact H
     clear H
     have H := H1
     clear H1
     replace H := Option.bind_eq_some_iff.mp H
     obtain ⟨t267, A210, H⟩ := H
     replace H : (if t267 = true then ((spec_safe.f k l0 l1).bind fun t268 => (spec_MostLoan.j0 k l0 l1 y263 (!t268))) else (spec_MostLoan.j0 k l0 l1 y263 true)) = some r := H
     have A21 := Ad.mk A210
     clear A210
     by_cases c22 : t267 = true
     ·subst c22
      have H1 : ((spec_safe.f k l0 l1).bind fun t268 => (spec_MostLoan.j0 k l0 l1 y263 (!t268))) = some r := by rw [if_pos rfl] at H; exact H
      clear H
      have H := H1
      clear H1
      replace H := Option.bind_eq_some_iff.mp H
      obtain ⟨t268, A230, H⟩ := H
      replace H : (spec_MostLoan.j0 k l0 l1 y263 (!t268)) = some r := H
      have A23 := Ad.mk A230
      clear A230
      have H' := Ad.mk H
      clear H
      go_wp2_with (first | ((with_reducible refine qa4 (f := 61) rfl ?_); refine goesL_ (some 19) rfl rfl Try.func61 (by kernel_rfl) rfl #[.slice A0 l0.length c0] rfl (by (try simp only [List.map_toArray, List.map_cons, List.map_nil]); first | done | rfl | (simp only [List.length_drop, List.length_take]; rfl)) ?_; (with_reducible refine (spec_validStakes.calls k _ _ l0 true _ ?side1 ?side2 A19.out).mono ?_); (case side1 => repeat (first | exact (Kd.C_below HR0.out HB.out) | (with_reducible refine Kd.C_alloc ?_ _) | (with_reducible refine Kd.C_drewN ?_ _) | (with_reducible refine Kd.C_drew ?_))); (case side2 => exact HC0.out); rintro e w' ⟨rfl, ⟨nd, rfl⟩⟩; refine ⟨_, rfl, ?_⟩; obtain ⟨Ao24, co24, eo24⟩ := Kd.N_slice HO265.out; subst eo24) | (go_at_call 46; (with_reducible refine (spec_validLoans.calls k _ _ y263 (l0.length : Int) true _ ?side1 ?side2 A21.out).mono ?_); (case side1 => repeat (first | exact (Kd.N_reads' HO265.out).2.2 | (with_reducible refine Kd.C_alloc ?_ _) | (with_reducible refine Kd.C_drewN ?_ _) | (with_reducible refine Kd.C_drew ?_))); (case side2 => exact (Kd.N_reads' HO265.out).2.1); rintro e w25 ⟨rfl, hb⟩; have n0_ := Ad.mk (Kd.V_below (by (with_reducible repeat (first | apply Kd.V_alloc | apply Kd.V_drewN | apply Kd.V_drew)); exact HO1.out) hb); have n1_ := Ad.mk (Kd.V_below (by (with_reducible repeat (first | apply Kd.V_alloc | apply Kd.V_drewN | apply Kd.V_drew)); exact HO2_2.out) hb); have n2_ := Ad.mk (Kd.N_below (by (with_reducible repeat (first | apply Kd.N_alloc | apply Kd.N_drewN | apply Kd.N_drew)); exact HO262.out) hb); have n3_ := Ad.mk (Kd.N_below (by (with_reducible repeat (first | apply Kd.N_alloc | apply Kd.N_drewN | apply Kd.N_drew)); exact HO265.out) hb); have n4_ := Ad.mk (qa3 (g := gb253) (o := .cells #[.int .i64 a2_0, .int .i64 1, .slice A2_2 l2_2.length c2_2] 42 (0, 0)) (by (with_reducible repeat (first | refine bkN ?_ _ | refine bkd ?_ | refine bka ?_ _)); exact BK253.out) hb); have n5_ := Ad.mk (qa2 (by repeat (first | (with_reducible first | exact HB.out | apply bwa | apply bwN | apply bw1 | refine bws ?_ GE253.out) | exact HB.out)) hb); clear HO1; clear HO2_2; clear HO262; clear HO265; clear BK253; clear HB; have HO1 := n0_; have HO2_2 := n1_; have HO262 := n2_; have HO265 := n3_; have BK253 := n4_; have HB := n5_; clear n0_ n1_ n2_ n3_ n4_ n5_; (try clear hb); (try clear hb2); (try clear hk); (try clear hi)) | (go_at_call 62; (with_reducible refine (spec_safe.calls k _ _ l0 _ _ l1 t268 _ ?side1 ?side2 ?side3 ?side4 A23.out).mono ?_); (case side1 => repeat (first | exact (Kd.C_below HR0.out HB.out) | (with_reducible refine Kd.C_alloc ?_ _) | (with_reducible refine Kd.C_drewN ?_ _) | (with_reducible refine Kd.C_drew ?_))); (case side2 => exact HC0.out); (case side3 => repeat (first | exact (Kd.V_reads' HO1.out).2.2 | (with_reducible refine Kd.C_alloc ?_ _) | (with_reducible refine Kd.C_drewN ?_ _) | (with_reducible refine Kd.C_drew ?_))); (case side4 => exact (Kd.V_reads' HO1.out).2.1); rintro e w26 ⟨rfl, hb⟩; have n0_ := Ad.mk (Kd.V_below (by (with_reducible repeat (first | apply Kd.V_alloc | apply Kd.V_drewN | apply Kd.V_drew)); exact HO1.out) hb); have n1_ := Ad.mk (Kd.V_below (by (with_reducible repeat (first | apply Kd.V_alloc | apply Kd.V_drewN | apply Kd.V_drew)); exact HO2_2.out) hb); have n2_ := Ad.mk (Kd.N_below (by (with_reducible repeat (first | apply Kd.N_alloc | apply Kd.N_drewN | apply Kd.N_drew)); exact HO262.out) hb); have n3_ := Ad.mk (Kd.N_below (by (with_reducible repeat (first | apply Kd.N_alloc | apply Kd.N_drewN | apply Kd.N_drew)); exact HO265.out) hb); have n4_ := Ad.mk (qa3 (g := gb253) (o := .cells #[.int .i64 a2_0, .int .i64 1, .slice A2_2 l2_2.length c2_2] 42 (0, 0)) (by (with_reducible repeat (first | refine bkN ?_ _ | refine bkd ?_ | refine bka ?_ _)); exact BK253.out) hb); have n5_ := Ad.mk (qa2 (by repeat (first | (with_reducible first | exact HB.out | apply bwa | apply bwN | apply bw1 | refine bws ?_ GE253.out) | exact HB.out)) hb); clear HO1; clear HO2_2; clear HO262; clear HO265; clear BK253; clear HB; have HO1 := n0_; have HO2_2 := n1_; have HO262 := n2_; have HO265 := n3_; have BK253 := n4_; have HB := n5_; clear n0_ n1_ n2_ n3_ n4_ n5_; (try clear hb); (try clear hb2); (try clear hk); (try clear hi)))
      go_meet
      case rel => exact ⟨_, (!t268), (by first | rfl | (simp; done) | (simp [*]; done)), H', ⟨by first | omega | exact Nat.le_refl _⟩, ⟨by (with_reducible repeat (first | apply Kd.V_alloc | apply Kd.V_drewN | apply Kd.V_drew)); exact Kd.V_mono HO1.out (fun _ hk => ⟨hk.1.1, ⟨hk.2, hk.1.2.2⟩⟩)⟩, ⟨by (with_reducible repeat (first | apply Kd.N_alloc | apply Kd.N_drewN | apply Kd.N_drew)); exact HO265.out⟩, ⟨by (with_reducible repeat (first | apply Kd.V_alloc | apply Kd.V_drewN | apply Kd.V_drew)); exact Kd.V_mono HO2_2.out (fun _ hk => ⟨hk.1.1, ⟨hk.2, hk.1.2.2⟩⟩)⟩, ⟨by (with_reducible repeat (first | refine bkN ?_ _ | refine bkd ?_ | refine bka ?_ _)); exact BK253.out⟩, ⟨by repeat (first | (with_reducible first | exact HB.out | apply bwa | apply bwN | apply bw1 | refine bws ?_ GE253.out) | exact HB.out)⟩⟩
     ·replace c22 := Bool.eq_false_iff.mpr c22
      subst c22
      have H1 : (spec_MostLoan.j0 k l0 l1 y263 true) = some r := by rw [if_neg (show ¬ (false = true) by decide)] at H; exact H
      clear H
      have H := H1
      clear H1
      have H' := Ad.mk H
      clear H
      go_wp2_with (first | ((with_reducible refine qa4 (f := 61) rfl ?_); refine goesL_ (some 19) rfl rfl Try.func61 (by kernel_rfl) rfl #[.slice A0 l0.length c0] rfl (by (try simp only [List.map_toArray, List.map_cons, List.map_nil]); first | done | rfl | (simp only [List.length_drop, List.length_take]; rfl)) ?_; (with_reducible refine (spec_validStakes.calls k _ _ l0 true _ ?side1 ?side2 A19.out).mono ?_); (case side1 => repeat (first | exact (Kd.C_below HR0.out HB.out) | (with_reducible refine Kd.C_alloc ?_ _) | (with_reducible refine Kd.C_drewN ?_ _) | (with_reducible refine Kd.C_drew ?_))); (case side2 => exact HC0.out); rintro e w' ⟨rfl, ⟨nd, rfl⟩⟩; refine ⟨_, rfl, ?_⟩; obtain ⟨Ao27, co27, eo27⟩ := Kd.N_slice HO265.out; subst eo27) | (go_at_call 46; (with_reducible refine (spec_validLoans.calls k _ _ y263 (l0.length : Int) false _ ?side1 ?side2 A21.out).mono ?_); (case side1 => repeat (first | exact (Kd.N_reads' HO265.out).2.2 | (with_reducible refine Kd.C_alloc ?_ _) | (with_reducible refine Kd.C_drewN ?_ _) | (with_reducible refine Kd.C_drew ?_))); (case side2 => exact (Kd.N_reads' HO265.out).2.1); rintro e w28 ⟨rfl, hb⟩; have n0_ := Ad.mk (Kd.V_below (by (with_reducible repeat (first | apply Kd.V_alloc | apply Kd.V_drewN | apply Kd.V_drew)); exact HO1.out) hb); have n1_ := Ad.mk (Kd.V_below (by (with_reducible repeat (first | apply Kd.V_alloc | apply Kd.V_drewN | apply Kd.V_drew)); exact HO2_2.out) hb); have n2_ := Ad.mk (Kd.N_below (by (with_reducible repeat (first | apply Kd.N_alloc | apply Kd.N_drewN | apply Kd.N_drew)); exact HO262.out) hb); have n3_ := Ad.mk (Kd.N_below (by (with_reducible repeat (first | apply Kd.N_alloc | apply Kd.N_drewN | apply Kd.N_drew)); exact HO265.out) hb); have n4_ := Ad.mk (qa3 (g := gb253) (o := .cells #[.int .i64 a2_0, .int .i64 1, .slice A2_2 l2_2.length c2_2] 42 (0, 0)) (by (with_reducible repeat (first | refine bkN ?_ _ | refine bkd ?_ | refine bka ?_ _)); exact BK253.out) hb); have n5_ := Ad.mk (qa2 (by repeat (first | (with_reducible first | exact HB.out | apply bwa | apply bwN | apply bw1 | refine bws ?_ GE253.out) | exact HB.out)) hb); clear HO1; clear HO2_2; clear HO262; clear HO265; clear BK253; clear HB; have HO1 := n0_; have HO2_2 := n1_; have HO262 := n2_; have HO265 := n3_; have BK253 := n4_; have HB := n5_; clear n0_ n1_ n2_ n3_ n4_ n5_; (try clear hb); (try clear hb2); (try clear hk); (try clear hi)))
      go_meet
      case rel => exact ⟨_, (true), (by first | rfl | (simp; done) | (simp [*]; done)), H', ⟨by first | omega | exact Nat.le_refl _⟩, ⟨by (with_reducible repeat (first | apply Kd.V_alloc | apply Kd.V_drewN | apply Kd.V_drew)); exact Kd.V_mono HO1.out (fun _ hk => ⟨hk.1.1, ⟨hk.2, hk.1.2.2⟩⟩)⟩, ⟨by (with_reducible repeat (first | apply Kd.N_alloc | apply Kd.N_drewN | apply Kd.N_drew)); exact HO265.out⟩, ⟨by (with_reducible repeat (first | apply Kd.V_alloc | apply Kd.V_drewN | apply Kd.V_drew)); exact Kd.V_mono HO2_2.out (fun _ hk => ⟨hk.1.1, ⟨hk.2, hk.1.2.2⟩⟩)⟩, ⟨by (with_reducible repeat (first | refine bkN ?_ _ | refine bkd ?_ | refine bka ?_ _)); exact BK253.out⟩, ⟨by repeat (first | (with_reducible first | exact HB.out | apply bwa | apply bwN | apply bw1 | refine bws ?_ GE253.out) | exact HB.out)⟩⟩
    ·replace c20 := Bool.eq_false_iff.mpr c20
     subst c20
     have H1 : (spec_MostLoan.j0 k l0 l1 y263 true) = some r := by rw [if_neg (show ¬ (false = true) by decide)] at H; exact H
     clear H
     have H := H1
     clear H1
     have H' := Ad.mk H
     clear H
     go_wp2_with (first | ((with_reducible refine qa4 (f := 61) rfl ?_); refine goesL_ (some 19) rfl rfl Try.func61 (by kernel_rfl) rfl #[.slice A0 l0.length c0] rfl (by (try simp only [List.map_toArray, List.map_cons, List.map_nil]); first | done | rfl | (simp only [List.length_drop, List.length_take]; rfl)) ?_; (with_reducible refine (spec_validStakes.calls k _ _ l0 false _ ?side1 ?side2 A19.out).mono ?_); (case side1 => repeat (first | exact (Kd.C_below HR0.out HB.out) | (with_reducible refine Kd.C_alloc ?_ _) | (with_reducible refine Kd.C_drewN ?_ _) | (with_reducible refine Kd.C_drew ?_))); (case side2 => exact HC0.out); rintro e w' ⟨rfl, ⟨nd, rfl⟩⟩; refine ⟨_, rfl, ?_⟩))
     go_meet
     case rel => exact ⟨_, (true), (by first | rfl | (simp; done) | (simp [*]; done)), H', ⟨by first | omega | exact Nat.le_refl _⟩, ⟨by (with_reducible repeat (first | apply Kd.V_alloc | apply Kd.V_drewN | apply Kd.V_drew)); exact Kd.V_mono HO1.out (fun _ hk => ⟨hk.1.1, ⟨hk.2, hk.1.2.2⟩⟩)⟩, ⟨by (with_reducible repeat (first | apply Kd.N_alloc | apply Kd.N_drewN | apply Kd.N_drew)); exact HO265.out⟩, ⟨by (with_reducible repeat (first | apply Kd.V_alloc | apply Kd.V_drewN | apply Kd.V_drew)); exact Kd.V_mono HO2_2.out (fun _ hk => ⟨hk.1.1, ⟨hk.2, hk.1.2.2⟩⟩)⟩, ⟨by (with_reducible repeat (first | refine bkN ?_ _ | refine bkd ?_ | refine bka ?_ _)); exact BK253.out⟩, ⟨by repeat (first | (with_reducible first | exact HB.out | apply bwa | apply bwN | apply bw1 | refine bws ?_ GE253.out) | exact HB.out)⟩⟩
   case rest =>
    clear HC6
    try clear c1
    try clear c2
    try clear p2
    try clear c3
    try clear c4
    try clear c5
    try clear c6
    try clear c20
    try clear c22
    try clear c24
    try clear hcz8_0
    try clear hcz8_1
    try clear hcz8_2
    try clear hfz8_0
    try clear hfz8_1
    try clear hfz8_2
    obtain ⟨kq, x33_5, rfl, HA, HJ5, HO_1, HO_7, HO_254002, BK253, HB⟩ := hcut
    cases kq with
    | zero => exact absurd HA.out (by simp [spec_MostLoan.j0])
    | succ kj5 =>
     have H := HA.out
     clear HA
     simp only [spec_MostLoan.j0] at H
     by_cases c29 : x33_5 = true
     ·subst c29
      have H1 : (some (-1)) = some r := by rw [if_pos rfl] at H; exact H
      clear H
      have H := H1
      clear H1
      obtain rfl := Option.some.inj H
      go_wp2
      go_ret
      exact ⟨by first | rfl | (simp [errW_none, errW_some] <;> rfl) | (simp [*, errW_none, errW_some] <;> rfl), by repeat (first | (with_reducible first | exact HB.out | apply bwa | apply bwN | apply bw1 | refine bws ?_ GE253.out) | exact HB.out)⟩
     ·replace c29 := Bool.eq_false_iff.mpr c29
      subst c29
      have H1 : (spec_MostLoan.l0 kj5 l0 l1 y263 0 100000) = some r := by rw [if_neg (show ¬ (false = true) by decide)] at H; exact H
      clear H
      have H := H1
      clear H1
      have H' := Ad.mk H
      clear H
      go_wp2
      go_loopg [8, 9] kj5 (fun kq v8 v9 w' => ∃ (x7_2 : List (S42)) (x8_2 : Int) (x9_2 : Int) (x254001_2 : Int), v8 = .int .i64 x8_2 ∧ v9 = .int .i64 x9_2 ∧ Ad (spec_MostLoan.l0 kq l0 l1 x7_2 x8_2 x9_2 = some r) ∧ Ad (kq ≤ kj5) ∧ Ad (Kd.V k42 42 w' w.heap.size (fun k_ => ((P1_ k_ ∨ P2_2_ k_) ∨ w.heap.size ≤ k_) ∧ some k_ ≠ (v264 : Value).ownBlock ∧ k_ ≠ gb253) (.slice A1 l1.length c1) l1) ∧ Ad (Kd.N k42 42 w' w.heap.size (fun k_ => ((P1_ k_ ∨ P2_2_ k_) ∨ w.heap.size ≤ k_) ∧ k_ ≠ gb253) v264 x7_2) ∧ Ad (Kd.V (Kd.int .i64) 3 w' w.heap.size (fun k_ => ((P1_ k_ ∨ P2_2_ k_) ∨ w.heap.size ≤ k_) ∧ some k_ ≠ (v264 : Value).ownBlock ∧ k_ ≠ gb253) (.slice A2_2 l2_2.length c2_2) l2_2) ∧ Ad (w'.heap[gb253]? = some (.cells #[.int .i64 a2_0, .int .i64 x254001_2, (.slice A2_2 l2_2.length c2_2)] 42 (0, 0))) ∧ Ad (Below w.heap.size w w'))
      case atStart => exact ⟨(y263), (0), (100000), (1), (by first | rfl | (simp; done) | (simp [*]; done)), (by first | rfl | (simp; done) | (simp [*]; done)), H', ⟨Nat.le_refl _⟩, ⟨by (with_reducible repeat (first | apply Kd.V_alloc | apply Kd.V_drewN | apply Kd.V_drew)); exact HO_1.out⟩, ⟨by (with_reducible repeat (first | apply Kd.N_alloc | apply Kd.N_drewN | apply Kd.N_drew)); exact HO_7.out⟩, ⟨by (with_reducible repeat (first | apply Kd.V_alloc | apply Kd.V_drewN | apply Kd.V_drew)); exact HO_254002.out⟩, ⟨by (with_reducible repeat (first | refine bkN ?_ _ | refine bkd ?_ | refine bka ?_ _)); exact BK253.out⟩, ⟨by repeat (first | (with_reducible first | exact HB.out | apply bwa | apply bwN | apply bw1 | refine bws ?_ GE253.out) | exact HB.out)⟩⟩
      case round =>
       clear H'
       try clear c1
       try clear c2
       try clear p2
       try clear c3
       try clear c4
       try clear c5
       try clear c6
       try clear c20
       try clear c22
       try clear c24
       try clear c29
       try clear hcz8_0
       try clear hcz8_1
       try clear hcz8_2
       try clear hfz8_0
       try clear hfz8_1
       try clear hfz8_2
       try clear p2
       obtain ⟨x7_2, x8_2, x9_2, x254001_2, rfl, rfl, HA, HK2, HO_1, HO_7, HO_254002, BK253, HB⟩ := hrel
       cases gk with
       | zero => exact absurd HA.out (by simp [spec_MostLoan.l0])
       | succ k2 =>
        have H := HA.out
        clear HA
        simp only [spec_MostLoan.l0] at H
        by_cases c30 : x8_2 < x9_2
        ·rw [if_pos c30] at H
         have c30b0 : decide (x8_2 < x9_2) = true := decide_eq_true c30
         clear c30
         by_cases c31 : 0 ≤ (l1.length : Int)
         ·rw [if_pos c31] at H
          have c31b0 : decide (0 ≤ (l1.length : Int)) = true := decide_eq_true c31
          have c31b1 : decide (0 ≤ l1.length) = true := decide_eq_true (by omega)
          clear c31
          by_cases c32 : (l1.length : Int) < (x7_2.length : Int)
          ·rw [if_pos c32] at H
           have c32b0 : decide ((l1.length : Int) < (x7_2.length : Int)) = true := decide_eq_true c32
           have c32b1 : decide (l1.length < x7_2.length) = true := decide_eq_true (Int.ofNat_lt.mp c32)
           clear c32
           obtain ⟨y269, hy269⟩ : ∃ y_ : List (S42), y_ = (x7_2.set ((l1.length : Int) : Int).toNat (⟨(rd_T42 x7_2 (l1.length : Int)).f0, wrap64 (Int.tdiv (wrap64 ((wrap64 (x8_2 + x9_2)) + 1)) 2), (rd_T42 x7_2 (l1.length : Int)).f2⟩ : S42)) := ⟨_, rfl⟩
           replace H : ((spec_safe.f k2 l0 y269).bind fun t270 => (if t270 = true then (spec_MostLoan.l0 k2 l0 l1 y269 (wrap64 (Int.tdiv (wrap64 ((wrap64 (x8_2 + x9_2)) + 1)) 2)) x9_2) else (spec_MostLoan.l0 k2 l0 l1 y269 x8_2 (wrap64 ((wrap64 (Int.tdiv (wrap64 ((wrap64 (x8_2 + x9_2)) + 1)) 2)) - 1))))) = some r := by first | (rw [hy269]; with_reducible exact H) | (have H2_ := (Option.bind_some _ _).symm.trans H; rw [hy269]; with_reducible exact H2_) | (have H2_ := (Option.bind_some _ _).symm.trans H; with_reducible exact H2_) | with_reducible exact H | (rw [hy269]; exact H) | exact H
           have Ny269 := Ad.mk hy269
           clear hy269
           replace H := Option.bind_eq_some_iff.mp H
           obtain ⟨t270, A340, H⟩ := H
           replace H : (if t270 = true then (spec_MostLoan.l0 k2 l0 l1 y269 (wrap64 (Int.tdiv (wrap64 ((wrap64 (x8_2 + x9_2)) + 1)) 2)) x9_2) else (spec_MostLoan.l0 k2 l0 l1 y269 x8_2 (wrap64 ((wrap64 (Int.tdiv (wrap64 ((wrap64 (x8_2 + x9_2)) + 1)) 2)) - 1)))) = some r := H
           have A34 := Ad.mk A340
           clear A340
           by_cases c35 : t270 = true
           ·subst c35
            have H1 : (spec_MostLoan.l0 k2 l0 l1 y269 (wrap64 (Int.tdiv (wrap64 ((wrap64 (x8_2 + x9_2)) + 1)) 2)) x9_2) = some r := by rw [if_pos rfl] at H; exact H
            clear H
            have H := H1
            clear H1
            have H' := Ad.mk H
            clear H
            have p33 : 0 ≤ ((l1.length : Int) : Int) := of_decide_eq_true (by first | (with_reducible assumption) | assumption)
            have q33 : ((l1.length : Int) : Int) < ((x7_2.length : Int) : Int) := of_decide_eq_true (by first | (with_reducible assumption) | assumption)
            obtain ⟨go33, co33, eo33, gb33, gl33, cl33, HG33⟩ := Kd.N_form HO_7.out (by omega)
            (first | cases eo33 | (injection eo33 with ea_ en_ ec_; (first | subst ea_ | (injection ea_ with ea_; subst ea_)); subst ec_; clear en_))
            have GB33 := Ad.mk gb33
            have GG33 := Ad.mk HG33
            clear gb33 gl33 HG33
            obtain ⟨ce33, hcl33, hM33, hcc33, hfr33⟩ := Kd.N_elem HO_7.out z42 ((l1.length : Int) : Int) p33 q33
            obtain ⟨ua33_2, uc33_2, rfl, ul33_2, ge33_2⟩ := k42_openF hM33
            have hx33_0 : wr.cell? ⟨go33, ((l1.length : Int) : Int).toNat * 3, none⟩ = some (.int .i64 ((rd_T42 x7_2 (l1.length : Int)).f0)) := hcc33 0 _ rfl
            have hx33_1 : wr.cell? ⟨go33, ((l1.length : Int) : Int).toNat * 3 + 1, none⟩ = some (.int .i64 ((rd_T42 x7_2 (l1.length : Int)).f1)) := hcc33 1 _ rfl
            have hx33_2 : wr.cell? ⟨go33, ((l1.length : Int) : Int).toNat * 3 + 2, none⟩ = some (.slice ua33_2 ((rd_T42 x7_2 (l1.length : Int)).f2).length uc33_2) := hcc33 2 _ rfl
            have hf33_0 : wr.frozen? ⟨go33, ((l1.length : Int) : Int).toNat * 3, none⟩ = false := hfr33 0
            have hf33_1 : wr.frozen? ⟨go33, ((l1.length : Int) : Int).toNat * 3 + 1, none⟩ = false := hfr33 1
            have hf33_2 : wr.frozen? ⟨go33, ((l1.length : Int) : Int).toNat * 3 + 2, none⟩ = false := hfr33 2
            clear hcl33 hcc33 hfr33 hM33
            replace p33 := eq_true p33
            replace q33 := eq_true q33
            have HX36 := Ad.mk (show Kd.N k42 42 wr w.heap.size (fun k_ => ((P1_ k_ ∨ P2_2_ k_) ∨ w.heap.size ≤ k_) ∧ k_ ≠ gb253) (.slice (some ⟨go33, 0, none⟩) x7_2.length co33) x7_2 from (by (with_reducible repeat (first | apply Kd.N_alloc | apply Kd.N_drewN | apply Kd.N_drew)); exact HO_7.out))
            obtain ⟨ce36, hcl36, hM36, hcc36, hfr36⟩ := Kd.N_elem HX36.out z42 ((l1.length : Int) : Int) (of_decide_eq_true (by first | (with_reducible assumption) | assumption)) (by have h_ : ((l1.length : Int) : Int) < ((x7_2.length : Int) : Int) := of_decide_eq_true (by first | (with_reducible assumption) | assumption); first | exact h_ | (have e_ := (Kd.N_reads' HO_7.out).1; omega) | simpa using h_)
            obtain ⟨ua36_2, uc36_2, rfl, ul36_2, ge36_2⟩ := k42_openF hM36
            have HP36 := Kd.N_seg HX36.out ((l1.length : Int) : Int) (of_decide_eq_true (by first | (with_reducible assumption) | assumption)) (by have h_ : ((l1.length : Int) : Int) < ((x7_2.length : Int) : Int) := of_decide_eq_true (by first | (with_reducible assumption) | assumption); first | exact h_ | (have e_ := (Kd.N_reads' HO_7.out).1; omega) | simpa using h_) (seg := [.int .i64 (wrap64 (Int.tdiv (wrap64 ((wrap64 (x8_2 + x9_2)) + 1)) 2))]) (j := 1) hcl36 hcc36 (show 2 ≤ 3 from by decide) (x' := (⟨(rd_T42 x7_2 (l1.length : Int)).f0, wrap64 (Int.tdiv (wrap64 ((wrap64 (x8_2 + x9_2)) + 1)) 2), (rd_T42 x7_2 (l1.length : Int)).f2⟩ : S42)) (k42_mkF _ _ (⟨(rd_T42 x7_2 (l1.length : Int)).f0, wrap64 (Int.tdiv (wrap64 ((wrap64 (x8_2 + x9_2)) + 1)) 2), (rd_T42 x7_2 (l1.length : Int)).f2⟩ : S42) ul36_2 ge36_2) (fun _ hk => hk)
            have hx36_1 := hcc36 1 _ rfl
            (try simp only [show (k42).sz = 3 from rfl, Nat.mul_one, Nat.add_zero, Int.toNat_natCast] at hx36_1)
            have hf36_1 := hfr36 1
            (try simp only [show (k42).sz = 3 from rfl, Nat.mul_one, Nat.add_zero, Int.toNat_natCast] at hf36_1)
            clear hcl36 hcc36 hfr36 hM36
            go_wp2_with (first | ((with_reducible refine gate_store (t := 3) (p := 47) rfl ?_); refine store_event (t := 3) (p := 47) (v := ?vo_w37) (w1 := (wr.setCell ⟨go33, ((l1.length : Int) : Int).toNat * 3 + 1, none⟩ (.int .i64 (wrap64 (Int.tdiv (wrap64 ((wrap64 (x8_2 + x9_2)) + 1)) 2))))) ?hg ?ho ?hn ?hr ?_; (case ho => rfl); (case hg => rfl); (case hn => rfl); (case hr => first | (go_simp; done) | (go_simp; rfl)); intro w37 hw; have hg : wr.grownBy w37 (some go33) := (by rw [hw]; exact HP36.2); have hp_ : Kd.N k42 42 w37 w.heap.size (fun k_ => ((P1_ k_ ∨ P2_2_ k_) ∨ w.heap.size ≤ k_) ∧ k_ ≠ gb253) (.slice (some ⟨go33, 0, none⟩) x7_2.length co33) y269 := (by rw [hw, Ny269.out]; exact HP36.1); clear HP36; have n0_ := Ad.mk (Kd.V_afterv (v := (.slice (some ⟨go33, 0, none⟩) x7_2.length co33)) (v1 := (.slice (some ⟨go33, 0, none⟩) x7_2.length co33)) (ok := (fun k_ => ((P1_ k_ ∨ P2_2_ k_) ∨ w.heap.size ≤ k_) ∧ k_ ≠ gb253)) (by (with_reducible repeat (first | apply Kd.V_alloc | apply Kd.V_drewN | apply Kd.V_drew)); exact Kd.V_mono HO_1.out (fun _ hk => ⟨⟨hk.1, hk.2.2⟩, hk.2.1⟩)) hg (.inl rfl)); have n1_ := Ad.mk (hp_); have n2_ := Ad.mk (Kd.V_afterv (v := (.slice (some ⟨go33, 0, none⟩) x7_2.length co33)) (v1 := (.slice (some ⟨go33, 0, none⟩) x7_2.length co33)) (ok := (fun k_ => ((P1_ k_ ∨ P2_2_ k_) ∨ w.heap.size ≤ k_) ∧ k_ ≠ gb253)) (by (with_reducible repeat (first | apply Kd.V_alloc | apply Kd.V_drewN | apply Kd.V_drew)); exact Kd.V_mono HO_254002.out (fun _ hk => ⟨⟨hk.1, hk.2.2⟩, hk.2.1⟩)) hg (.inl rfl)); have n3_ := Ad.mk (blk_grown (g := gb253) (o := .cells #[.int .i64 a2_0, .int .i64 x254001_2, .slice A2_2 l2_2.length c2_2] 42 (0, 0)) (by (with_reducible repeat (first | refine bkN ?_ _ | refine bkd ?_ | refine bka ?_ _)); exact BK253.out) hg (Kd.N_away HO_7.out (fun _ hk => hk.2))); have n4_ := Ad.mk ((by rw [hw]; exact bws (HB.out) GB33.out : Below w.heap.size w w37)); clear HO_1; clear HO_7; clear HO_254002; clear BK253; clear HB; have HO_1 := n0_; have HO_7 := n1_; have HO_254002 := n2_; have BK253 := n3_; have HB := n4_; clear n0_ n1_ n2_ n3_ n4_; clear hg hw hp_) | ((with_reducible refine qa4 (f := 62) rfl ?_); refine goesL_ (some 50) rfl rfl Try.func62 (by kernel_rfl) rfl #[.slice A0 l0.length c0, .slice (some ⟨go33, 0, none⟩) y269.length co33] rfl (by (try simp only [List.map_toArray, List.map_cons, List.map_nil]); first | done | (rw [show y269.length = x7_2.length from (Kd.N_reads' HO_7.out).1.symm] <;> rfl) | rfl | (simp only [List.length_drop, List.length_take]; rfl)) ?_; (with_reducible refine (spec_safe.calls k2 _ _ l0 _ _ y269 true _ ?side1 ?side2 ?side3 ?side4 A34.out).mono ?_); (case side1 => repeat (first | exact (Kd.C_below HR0.out HB.out) | (with_reducible refine Kd.C_alloc ?_ _) | (with_reducible refine Kd.C_drewN ?_ _) | (with_reducible refine Kd.C_drew ?_))); (case side2 => exact HC0.out); (case side3 => repeat (first | exact (Kd.N_reads' HO_7.out).2.2 | (with_reducible refine Kd.C_alloc ?_ _) | (with_reducible refine Kd.C_drewN ?_ _) | (with_reducible refine Kd.C_drew ?_))); (case side4 => rw [show y269.length = x7_2.length from (Kd.N_reads' HO_7.out).1.symm]; exact (Kd.N_reads' HO_7.out).2.1); rintro e w38 ⟨rfl, hb⟩; refine ⟨_, rfl, ?_⟩; have n0_ := Ad.mk (Kd.V_below (by (with_reducible repeat (first | apply Kd.V_alloc | apply Kd.V_drewN | apply Kd.V_drew)); exact HO_1.out) hb); have n1_ := Ad.mk (Kd.N_below (by (with_reducible repeat (first | apply Kd.N_alloc | apply Kd.N_drewN | apply Kd.N_drew)); exact HO_7.out) hb); have n2_ := Ad.mk (Kd.V_below (by (with_reducible repeat (first | apply Kd.V_alloc | apply Kd.V_drewN | apply Kd.V_drew)); exact HO_254002.out) hb); have n3_ := Ad.mk (qa3 (g := gb253) (o := .cells #[.int .i64 a2_0, .int .i64 x254001_2, .slice A2_2 l2_2.length c2_2] 42 (0, 0)) (by (with_reducible repeat (first | refine bkN ?_ _ | refine bkd ?_ | refine bka ?_ _)); exact BK253.out) hb); have n4_ := Ad.mk (qa2 (by repeat (first | (with_reducible first | exact HB.out | apply bwa | apply bwN | apply bw1 | refine bws ?_ GE253.out) | exact HB.out)) hb); clear HO_1; clear HO_7; clear HO_254002; clear BK253; clear HB; have HO_1 := n0_; have HO_7 := n1_; have HO_254002 := n2_; have BK253 := n3_; have HB := n4_; clear n0_ n1_ n2_ n3_ n4_; (try clear hb); (try clear hb2); (try clear hk); (try clear hi)))
            go_roundg k2
            case measure => have := HJ5.out; have := HK2.out; omega
            case rel => exact ⟨(y269), (wrap64 (Int.tdiv (wrap64 ((wrap64 (x8_2 + x9_2)) + 1)) 2)), (x9_2), (x254001_2), (by first | rfl | (simp; done) | (simp [*]; done)), (by first | rfl | (simp; done) | (simp [*]; done)), H', ⟨by have := HJ5.out; have := HK2.out; omega⟩, ⟨by (with_reducible repeat (first | apply Kd.V_alloc | apply Kd.V_drewN | apply Kd.V_drew)); exact Kd.V_mono HO_1.out (fun _ hk => ⟨hk.1.1, ⟨hk.2, hk.1.2⟩⟩)⟩, ⟨by (with_reducible repeat (first | apply Kd.N_alloc | apply Kd.N_drewN | apply Kd.N_drew)); exact HO_7.out⟩, ⟨by (with_reducible repeat (first | apply Kd.V_alloc | apply Kd.V_drewN | apply Kd.V_drew)); exact Kd.V_mono HO_254002.out (fun _ hk => ⟨hk.1.1, ⟨hk.2, hk.1.2⟩⟩)⟩, ⟨by (with_reducible repeat (first | refine bkN ?_ _ | refine bkd ?_ | refine bka ?_ _)); exact BK253.out⟩, ⟨by repeat (first | (with_reducible first | exact HB.out | apply bwa | apply bwN | apply bw1 | refine bws ?_ GE253.out) | exact HB.out)⟩⟩
           ·replace c35 := Bool.eq_false_iff.mpr c35
            subst c35
            have H1 : (spec_MostLoan.l0 k2 l0 l1 y269 x8_2 (wrap64 ((wrap64 (Int.tdiv (wrap64 ((wrap64 (x8_2 + x9_2)) + 1)) 2)) - 1))) = some r := by rw [if_neg (show ¬ (false = true) by decide)] at H; exact H
            clear H
            have H := H1
            clear H1
            have H' := Ad.mk H
            clear H
            have p33 : 0 ≤ ((l1.length : Int) : Int) := of_decide_eq_true (by first | (with_reducible assumption) | assumption)
            have q33 : ((l1.length : Int) : Int) < ((x7_2.length : Int) : Int) := of_decide_eq_true (by first | (with_reducible assumption) | assumption)
            obtain ⟨go33, co33, eo33, gb33, gl33, cl33, HG33⟩ := Kd.N_form HO_7.out (by omega)
            (first | cases eo33 | (injection eo33 with ea_ en_ ec_; (first | subst ea_ | (injection ea_ with ea_; subst ea_)); subst ec_; clear en_))
            have GB33 := Ad.mk gb33
            have GG33 := Ad.mk HG33
            clear gb33 gl33 HG33
            obtain ⟨ce33, hcl33, hM33, hcc33, hfr33⟩ := Kd.N_elem HO_7.out z42 ((l1.length : Int) : Int) p33 q33
            obtain ⟨ua33_2, uc33_2, rfl, ul33_2, ge33_2⟩ := k42_openF hM33
            have hx33_0 : wr.cell? ⟨go33, ((l1.length : Int) : Int).toNat * 3, none⟩ = some (.int .i64 ((rd_T42 x7_2 (l1.length : Int)).f0)) := hcc33 0 _ rfl
            have hx33_1 : wr.cell? ⟨go33, ((l1.length : Int) : Int).toNat * 3 + 1, none⟩ = some (.int .i64 ((rd_T42 x7_2 (l1.length : Int)).f1)) := hcc33 1 _ rfl
            have hx33_2 : wr.cell? ⟨go33, ((l1.length : Int) : Int).toNat * 3 + 2, none⟩ = some (.slice ua33_2 ((rd_T42 x7_2 (l1.length : Int)).f2).length uc33_2) := hcc33 2 _ rfl
            have hf33_0 : wr.frozen? ⟨go33, ((l1.length : Int) : Int).toNat * 3, none⟩ = false := hfr33 0
            have hf33_1 : wr.frozen? ⟨go33, ((l1.length : Int) : Int).toNat * 3 + 1, none⟩ = false := hfr33 1
            have hf33_2 : wr.frozen? ⟨go33, ((l1.length : Int) : Int).toNat * 3 + 2, none⟩ = false := hfr33 2
            clear hcl33 hcc33 hfr33 hM33
            replace p33 := eq_true p33
            replace q33 := eq_true q33
            have HX39 := Ad.mk (show Kd.N k42 42 wr w.heap.size (fun k_ => ((P1_ k_ ∨ P2_2_ k_) ∨ w.heap.size ≤ k_) ∧ k_ ≠ gb253) (.slice (some ⟨go33, 0, none⟩) x7_2.length co33) x7_2 from (by (with_reducible repeat (first | apply Kd.N_alloc | apply Kd.N_drewN | apply Kd.N_drew)); exact HO_7.out))
            obtain ⟨ce39, hcl39, hM39, hcc39, hfr39⟩ := Kd.N_elem HX39.out z42 ((l1.length : Int) : Int) (of_decide_eq_true (by first | (with_reducible assumption) | assumption)) (by have h_ : ((l1.length : Int) : Int) < ((x7_2.length : Int) : Int) := of_decide_eq_true (by first | (with_reducible assumption) | assumption); first | exact h_ | (have e_ := (Kd.N_reads' HO_7.out).1; omega) | simpa using h_)
            obtain ⟨ua39_2, uc39_2, rfl, ul39_2, ge39_2⟩ := k42_openF hM39
            have HP39 := Kd.N_seg HX39.out ((l1.length : Int) : Int) (of_decide_eq_true (by first | (with_reducible assumption) | assumption)) (by have h_ : ((l1.length : Int) : Int) < ((x7_2.length : Int) : Int) := of_decide_eq_true (by first | (with_reducible assumption) | assumption); first | exact h_ | (have e_ := (Kd.N_reads' HO_7.out).1; omega) | simpa using h_) (seg := [.int .i64 (wrap64 (Int.tdiv (wrap64 ((wrap64 (x8_2 + x9_2)) + 1)) 2))]) (j := 1) hcl39 hcc39 (show 2 ≤ 3 from by decide) (x' := (⟨(rd_T42 x7_2 (l1.length : Int)).f0, wrap64 (Int.tdiv (wrap64 ((wrap64 (x8_2 + x9_2)) + 1)) 2), (rd_T42 x7_2 (l1.length : Int)).f2⟩ : S42)) (k42_mkF _ _ (⟨(rd_T42 x7_2 (l1.length : Int)).f0, wrap64 (Int.tdiv (wrap64 ((wrap64 (x8_2 + x9_2)) + 1)) 2), (rd_T42 x7_2 (l1.length : Int)).f2⟩ : S42) ul39_2 ge39_2) (fun _ hk => hk)
            have hx39_1 := hcc39 1 _ rfl
            (try simp only [show (k42).sz = 3 from rfl, Nat.mul_one, Nat.add_zero, Int.toNat_natCast] at hx39_1)
            have hf39_1 := hfr39 1
            (try simp only [show (k42).sz = 3 from rfl, Nat.mul_one, Nat.add_zero, Int.toNat_natCast] at hf39_1)
            clear hcl39 hcc39 hfr39 hM39
            go_wp2_with (first | ((with_reducible refine gate_store (t := 3) (p := 47) rfl ?_); refine store_event (t := 3) (p := 47) (v := ?vo_w40) (w1 := (wr.setCell ⟨go33, ((l1.length : Int) : Int).toNat * 3 + 1, none⟩ (.int .i64 (wrap64 (Int.tdiv (wrap64 ((wrap64 (x8_2 + x9_2)) + 1)) 2))))) ?hg ?ho ?hn ?hr ?_; (case ho => rfl); (case hg => rfl); (case hn => rfl); (case hr => first | (go_simp; done) | (go_simp; rfl)); intro w40 hw; have hg : wr.grownBy w40 (some go33) := (by rw [hw]; exact HP39.2); have hp_ : Kd.N k42 42 w40 w.heap.size (fun k_ => ((P1_ k_ ∨ P2_2_ k_) ∨ w.heap.size ≤ k_) ∧ k_ ≠ gb253) (.slice (some ⟨go33, 0, none⟩) x7_2.length co33) y269 := (by rw [hw, Ny269.out]; exact HP39.1); clear HP39; have n0_ := Ad.mk (Kd.V_afterv (v := (.slice (some ⟨go33, 0, none⟩) x7_2.length co33)) (v1 := (.slice (some ⟨go33, 0, none⟩) x7_2.length co33)) (ok := (fun k_ => ((P1_ k_ ∨ P2_2_ k_) ∨ w.heap.size ≤ k_) ∧ k_ ≠ gb253)) (by (with_reducible repeat (first | apply Kd.V_alloc | apply Kd.V_drewN | apply Kd.V_drew)); exact Kd.V_mono HO_1.out (fun _ hk => ⟨⟨hk.1, hk.2.2⟩, hk.2.1⟩)) hg (.inl rfl)); have n1_ := Ad.mk (hp_); have n2_ := Ad.mk (Kd.V_afterv (v := (.slice (some ⟨go33, 0, none⟩) x7_2.length co33)) (v1 := (.slice (some ⟨go33, 0, none⟩) x7_2.length co33)) (ok := (fun k_ => ((P1_ k_ ∨ P2_2_ k_) ∨ w.heap.size ≤ k_) ∧ k_ ≠ gb253)) (by (with_reducible repeat (first | apply Kd.V_alloc | apply Kd.V_drewN | apply Kd.V_drew)); exact Kd.V_mono HO_254002.out (fun _ hk => ⟨⟨hk.1, hk.2.2⟩, hk.2.1⟩)) hg (.inl rfl)); have n3_ := Ad.mk (blk_grown (g := gb253) (o := .cells #[.int .i64 a2_0, .int .i64 x254001_2, .slice A2_2 l2_2.length c2_2] 42 (0, 0)) (by (with_reducible repeat (first | refine bkN ?_ _ | refine bkd ?_ | refine bka ?_ _)); exact BK253.out) hg (Kd.N_away HO_7.out (fun _ hk => hk.2))); have n4_ := Ad.mk ((by rw [hw]; exact bws (HB.out) GB33.out : Below w.heap.size w w40)); clear HO_1; clear HO_7; clear HO_254002; clear BK253; clear HB; have HO_1 := n0_; have HO_7 := n1_; have HO_254002 := n2_; have BK253 := n3_; have HB := n4_; clear n0_ n1_ n2_ n3_ n4_; clear hg hw hp_) | ((with_reducible refine qa4 (f := 62) rfl ?_); refine goesL_ (some 50) rfl rfl Try.func62 (by kernel_rfl) rfl #[.slice A0 l0.length c0, .slice (some ⟨go33, 0, none⟩) y269.length co33] rfl (by (try simp only [List.map_toArray, List.map_cons, List.map_nil]); first | done | (rw [show y269.length = x7_2.length from (Kd.N_reads' HO_7.out).1.symm] <;> rfl) | rfl | (simp only [List.length_drop, List.length_take]; rfl)) ?_; (with_reducible refine (spec_safe.calls k2 _ _ l0 _ _ y269 false _ ?side1 ?side2 ?side3 ?side4 A34.out).mono ?_); (case side1 => repeat (first | exact (Kd.C_below HR0.out HB.out) | (with_reducible refine Kd.C_alloc ?_ _) | (with_reducible refine Kd.C_drewN ?_ _) | (with_reducible refine Kd.C_drew ?_))); (case side2 => exact HC0.out); (case side3 => repeat (first | exact (Kd.N_reads' HO_7.out).2.2 | (with_reducible refine Kd.C_alloc ?_ _) | (with_reducible refine Kd.C_drewN ?_ _) | (with_reducible refine Kd.C_drew ?_))); (case side4 => rw [show y269.length = x7_2.length from (Kd.N_reads' HO_7.out).1.symm]; exact (Kd.N_reads' HO_7.out).2.1); rintro e w41 ⟨rfl, hb⟩; refine ⟨_, rfl, ?_⟩; have n0_ := Ad.mk (Kd.V_below (by (with_reducible repeat (first | apply Kd.V_alloc | apply Kd.V_drewN | apply Kd.V_drew)); exact HO_1.out) hb); have n1_ := Ad.mk (Kd.N_below (by (with_reducible repeat (first | apply Kd.N_alloc | apply Kd.N_drewN | apply Kd.N_drew)); exact HO_7.out) hb); have n2_ := Ad.mk (Kd.V_below (by (with_reducible repeat (first | apply Kd.V_alloc | apply Kd.V_drewN | apply Kd.V_drew)); exact HO_254002.out) hb); have n3_ := Ad.mk (qa3 (g := gb253) (o := .cells #[.int .i64 a2_0, .int .i64 x254001_2, .slice A2_2 l2_2.length c2_2] 42 (0, 0)) (by (with_reducible repeat (first | refine bkN ?_ _ | refine bkd ?_ | refine bka ?_ _)); exact BK253.out) hb); have n4_ := Ad.mk (qa2 (by repeat (first | (with_reducible first | exact HB.out | apply bwa | apply bwN | apply bw1 | refine bws ?_ GE253.out) | exact HB.out)) hb); clear HO_1; clear HO_7; clear HO_254002; clear BK253; clear HB; have HO_1 := n0_; have HO_7 := n1_; have HO_254002 := n2_; have BK253 := n3_; have HB := n4_; clear n0_ n1_ n2_ n3_ n4_; (try clear hb); (try clear hb2); (try clear hk); (try clear hi)))
            go_roundg k2
            case measure => have := HJ5.out; have := HK2.out; omega
            case rel => exact ⟨(y269), (x8_2), (wrap64 ((wrap64 (Int.tdiv (wrap64 ((wrap64 (x8_2 + x9_2)) + 1)) 2)) - 1)), (x254001_2), (by first | rfl | (simp; done) | (simp [*]; done)), (by first | rfl | (simp; done) | (simp [*]; done)), H', ⟨by have := HJ5.out; have := HK2.out; omega⟩, ⟨by (with_reducible repeat (first | apply Kd.V_alloc | apply Kd.V_drewN | apply Kd.V_drew)); exact Kd.V_mono HO_1.out (fun _ hk => ⟨hk.1.1, ⟨hk.2, hk.1.2⟩⟩)⟩, ⟨by (with_reducible repeat (first | apply Kd.N_alloc | apply Kd.N_drewN | apply Kd.N_drew)); exact HO_7.out⟩, ⟨by (with_reducible repeat (first | apply Kd.V_alloc | apply Kd.V_drewN | apply Kd.V_drew)); exact Kd.V_mono HO_254002.out (fun _ hk => ⟨hk.1.1, ⟨hk.2, hk.1.2⟩⟩)⟩, ⟨by (with_reducible repeat (first | refine bkN ?_ _ | refine bkd ?_ | refine bka ?_ _)); exact BK253.out⟩, ⟨by repeat (first | (with_reducible first | exact HB.out | apply bwa | apply bwN | apply bw1 | refine bws ?_ GE253.out) | exact HB.out)⟩⟩
          ·rw [if_neg c32] at H
           exact absurd H (by simp)
         ·rw [if_neg c31] at H
          exact absurd H (by simp)
        ·rw [if_neg c30] at H
         have c30b0 : decide (x8_2 < x9_2) = false := decide_eq_false c30
         clear c30
         obtain rfl := Option.some.inj H
         go_wp2
         go_ret
         exact ⟨by first | rfl | (simp [errW_none, errW_some] <;> rfl) | (simp [*, errW_none, errW_some] <;> rfl), by repeat (first | (with_reducible first | exact HB.out | apply bwa | apply bwN | apply bw1 | refine bws ?_ GE253.out) | exact HB.out)⟩
  ·rw [if_neg c5] at H
   exact absurd H (by simp)
 ·rw [if_neg c4] at H
  exact absurd H (by simp)

end Go.Proofs.Ytifohlgdkdcpeaa.PFnExactMostLoan
