-- printed by pp.py, a program of this session's own, out of the translation; not the kit's print
-- halved
import Derived.Test.YtifohlgdkdcpeaaPFnMostLoanx0
import Derived.Test.YtifohlgdkdcpeaaPFnMostLoanx1
import Derived.Test.YtifohlgdkdcpeaaPFnMostLoanx2
namespace Go.Proofs.Ytifohlgdkdcpeaa.PFnMostLoan
open Go.RowKit Go.Proofs.YtifohlgdkdcpeaaW.PrintWords Go.Proofs.YtifohlgdkdcpeaaW.PrintLast Go.Proofs.YtifohlgdkdcpeaaW.PrintMore
attribute [local go_sem] max2_int min2_int max_two min_two max_three min_three max_four min_four   -- for this text's walks alone
set_option linter.unusedVariables false
set_option linter.unusedSimpArgs false

/-! ### spec_stakesOf: function 57 -/
def spec_stakesOf.l0 : Nat → List (S42) → Int → List Int → Int → List Int → Int → Option (List Int × (List (S42)) × Int)
 | 0, _, _, _, _, _, _ => none
 | k + 1, x4, x5, x6, x7, x1000, x1001 => if x7 < x5 then ((spec_reader_pick.f k x1000 x1001 250).bind fun bt192 => ((spec_reader_one.f k x1000 bt192.2 (([200, 100, bt192.1, 0, 1000] : List Int))).bind fun bt197 => (if x6.length < 17592186044416 then (spec_stakesOf.l0 k x4 x5 (x6 ++ [bt197.1]) (wrap64 (x7 + 1)) x1000 bt197.2) else (none)))) else (if (x6.length : Int) > 0 then ((spec_reader_pick.f k x1000 x1001 20).bind fun bt202 => (if bt202.1 = 0 then ((spec_reader_one.f k x1000 bt202.2 (([(-1), 100001] : List Int))).bind fun bt207 => (if 0 < (x6.length : Int) then (some ((x6.set (0 : Int).toNat bt207.1), x4, bt207.2)) else (none))) else (some (x6, x4, bt202.2)))) else (some (x6, x4, x1001)))
def spec_stakesOf.f (k : Nat) (s0_0 : List Int) (s0_1 : Int) : Option (List Int × (List (S42)) × Int) := (spec_anyLoans.f k s0_0 s0_1).bind fun bt184 => (spec_stakesOf.l0 k bt184.1 bt184.2.1 (([] : List Int)) 0 s0_0 bt184.2.2)
theorem spec_stakesOf.mono_l : ∀ k, (∀ y0 y1 y2 y3 y4 y5, LeO (spec_stakesOf.l0 k y0 y1 y2 y3 y4 y5) (spec_stakesOf.l0 (k + 1) y0 y1 y2 y3 y4 y5))
 | 0 => fun _ _ _ _ _ _ r h => by simp [spec_stakesOf.l0] at h
 | k + 1 => by
  have ih0 := spec_stakesOf.mono_l k
  ·intro y0 y1 y2 y3 y4 y5
   unfold spec_stakesOf.l0
   repeat' first
   | (with_reducible exact ih0 _ _ _ _ _ _)
   | (with_reducible exact spec_anyLoans.mono _ _ _)
   | (with_reducible exact spec_reader_one.mono _ _ _ _)
   | (with_reducible exact spec_reader_pick.mono _ _ _ _)
   | (with_reducible exact LeO.refl _)
   | (with_reducible exact LeO.none _)
   | (with_reducible refine LeO.ite ?_ ?_)
   | (with_reducible refine LeO.bind ?_ (fun _ => ?_))
   | exact ih0 _ _ _ _ _ _
   | exact spec_anyLoans.mono _ _ _
   | exact spec_reader_one.mono _ _ _ _
   | exact spec_reader_pick.mono _ _ _ _
   | exact LeO.none _
   | refine LeO.ite ?_ ?_
   | refine LeO.bind ?_ (fun _ => ?_)
theorem spec_stakesOf.mono : ∀ a0 a1 k, LeO (spec_stakesOf.f k a0 a1) (spec_stakesOf.f (k + 1) a0 a1) := by
 intro a0 a1 k
 have ih0 := spec_stakesOf.mono_l k
 unfold spec_stakesOf.f
 repeat' first
   | (with_reducible exact ih0 _ _ _ _ _ _)
   | (with_reducible exact spec_anyLoans.mono _ _ _)
   | (with_reducible exact spec_reader_one.mono _ _ _ _)
   | (with_reducible exact spec_reader_pick.mono _ _ _ _)
   | (with_reducible exact LeO.refl _)
   | (with_reducible exact LeO.none _)
   | (with_reducible refine LeO.ite ?_ ?_)
   | (with_reducible refine LeO.bind ?_ (fun _ => ?_))
   | exact ih0 _ _ _ _ _ _
   | exact spec_anyLoans.mono _ _ _
   | exact spec_reader_one.mono _ _ _ _
   | exact spec_reader_pick.mono _ _ _ _
   | exact LeO.none _
   | refine LeO.ite ?_ ?_
   | refine LeO.bind ?_ (fun _ => ?_)
set_option maxHeartbeats 8000000 in
set_option maxRecDepth 100000 in
theorem spec_stakesOf.calls (k : Nat) (g : Nat) (s0_0 : List Int) (s0_1 : Int) (r1 : List Int) (r2 : List (S42)) (r3 : Int) (w0 w : World) (hI : IsS98 w0 w g s0_0 s0_1) (hB : Below w0.heap.size w0 w) (h : spec_stakesOf.f k s0_0 s0_1 = some (r1, r2, r3)) :
  Calls Try.prog 57 #[.pointer (some ⟨g, 0, none⟩)] w fun e w' => ∃ v0_ v1_ : Value, e = .returned (.tuple #[v0_, v1_]) ∧ Kd.R (Kd.int .i64) 3 w' w.heap.size (fun k_ => (w.heap.size ≤ k_)) v0_ r1 ∧ Kd.N k42 42 w' w.heap.size (fun k_ => (w.heap.size ≤ k_) ∧ some k_ ≠ (v0_ : Value).ownBlock) v1_ r2 ∧ IsS98 w0 w' g s0_0 r3 ∧ Below w0.heap.size w0 w' ∧ KeepBut w w' g none := by
 have HI0 := Ad.mk hI
 have HK := Ad.mk (KeepBut.refl w g none)
 have HL := Ad.mk hB.size
 clear hI
 have HW0 := Ad.mk hB.size
 have HB := Ad.mk hB
 clear hB
 have H : ((spec_anyLoans.f k s0_0 s0_1).bind fun bt184 => (spec_stakesOf.l0 k bt184.1 bt184.2.1 (([] : List Int)) 0 s0_0 bt184.2.2)) = some (r1, r2, r3) := h
 clear h
 replace H := Option.bind_eq_some_iff.mp H
 obtain ⟨⟨t184, t187, t188⟩, A20, H⟩ := H
 replace H : (spec_stakesOf.l0 k t184 t187 (([] : List Int)) 0 s0_0 t188) = some (r1, r2, r3) := H
 have A2 := Ad.mk A20
 clear A20
 obtain ⟨y189, hy189⟩ : ∃ y_ : List Int, y_ = (([] : List Int)) := ⟨_, rfl⟩
 replace H : (spec_stakesOf.l0 k t184 t187 y189 0 s0_0 t188) = some (r1, r2, r3) := by first | (rw [hy189]; with_reducible exact H) | (have H2_ := (Option.bind_some _ _).symm.trans H; rw [hy189]; with_reducible exact H2_) | (have H2_ := (Option.bind_some _ _).symm.trans H; with_reducible exact H2_) | with_reducible exact H | (rw [hy189]; exact H) | exact H
 have Ny189 := Ad.mk hy189
 clear hy189
 have H' := Ad.mk H
 clear H
 go_enter Try.func57, Try.ntmps57
 go_wp2_with (first | ((with_reducible refine qa7 (f := 91) rfl ?_); refine goesL_ (some 10) rfl rfl Try.func91 (by kernel_rfl) rfl #[.pointer (some ⟨g, 0, none⟩)] rfl (by (try simp only [List.map_toArray, List.map_cons, List.map_nil]); first | done | rfl | (simp only [List.length_drop, List.length_take]; rfl)) ?_; (with_reducible refine (spec_anyLoans.calls k g s0_0 s0_1 t184 t187 t188 w0 _ ?side1 ?side2 A2.out).mono ?_); (case side1 => repeat (first | (with_reducible first | exact HI0.out | apply IsS98.alloc | apply IsS98.drewN | apply IsS98.drew | apply IsS98.set_1) | exact HI0.out)); (case side2 => repeat (first | (with_reducible first | exact HB.out | apply bwa | apply bwN | apply bw1 | refine bws ?_ (IsS98.ge HI0.out)) | exact HB.out)); rintro e w3 ⟨v185, rfl, ho0, hi, hb, hk⟩; refine ⟨_, rfl, ?_⟩; have n0_ := Ad.mk (Kd.N_lower (Kd.N_mono (ok' := fun k_ => (w.heap.size ≤ k_) ∧ k_ ≠ g) ho0 (fun k_ hk_ => ⟨(Nat.le_trans (qb0 (w := w) (g := g) (row := none) (by repeat (first | (with_reducible first | exact HK.out | apply KeepBut.set_ | apply qa3 | apply qa4 | apply qa2) | exact HK.out))) hk_), (IsS98.fresh (by repeat (first | (with_reducible first | exact HI0.out | apply IsS98.alloc | apply IsS98.drewN | apply IsS98.drew | apply IsS98.set_1) | exact HI0.out)) k_ hk_)⟩)) (qb0 (w := w) (g := g) (row := none) (by repeat (first | (with_reducible first | exact HK.out | apply KeepBut.set_ | apply qa3 | apply qa4 | apply qa2) | exact HK.out)))); have n1_ := Ad.mk (KeepBut.trans (by repeat (first | (with_reducible first | exact HK.out | apply KeepBut.set_ | apply qa3 | apply qa4 | apply qa2) | exact HK.out)) hk (.inl rfl)); have n2_ := Ad.mk (hb); have n3_ := Ad.mk (hi); clear HK; clear HB; clear HI0; have HO186 := n0_; have HK := n1_; have HB := n2_; have HI0 := n3_; clear n0_ n1_ n2_ n3_; (try clear hb); (try clear hb2); (try clear hk); (try clear hi); (try clear ho0)) | ((with_reducible refine gate_dst (N := 13) rfl ?_); refine Kd.R_lit (Kd.int .i64) _ 3 ?hg (N := 13) ?hd (xs := ([] : List Int)) (inner := []) (ok := fun _ => True) (okp := fun _ => True) ?hr ?hp (fun _ hk => hk) trivial (Below.refl _ _) (Nat.le_refl _) (by simp) ?_; (case hd => rfl); (case hg => rfl); (case hr => first | (go_simp; done) | (go_simp; rfl)); (case hp => exact (Reps.none _ _)); intro v190 w4 ho5 hb hg_ hnew_; clear hg_ hnew_; (first | rw [← Ny189.out] at ho5 | (simp only [Int.reduceToNat] at ho5; rw [← Ny189.out] at ho5)); have n0_ := Ad.mk (Kd.N_elder' (by (with_reducible repeat (first | apply Kd.N_alloc | apply Kd.N_drewN | apply Kd.N_drew)); exact HO186.out) (Kd.R_base ho5) hb); have n1_ := Ad.mk (Kd.R_lower (Kd.R_newM (M := fun k_ => (w.heap.size ≤ k_)) ho5 (qb0 (w := w) (g := g) (row := none) (by repeat (first | (with_reducible first | exact HK.out | apply KeepBut.set_ | apply qa3 | apply qa4 | apply qa2) | exact HK.out))) (fun k_ h_ => h_)) (qb0 (w := w) (g := g) (row := none) (by repeat (first | (with_reducible first | exact HK.out | apply KeepBut.set_ | apply qa3 | apply qa4 | apply qa2) | exact HK.out)))); have n2_ := Ad.mk (IsS98.below (by repeat (first | (with_reducible first | exact HI0.out | apply IsS98.alloc | apply IsS98.drewN | apply IsS98.drew | apply IsS98.set_1) | exact HI0.out)) hb); have n3_ := Ad.mk (KeepBut.trans (by repeat (first | (with_reducible first | exact HK.out | apply KeepBut.set_ | apply qa3 | apply qa4 | apply qa2) | exact HK.out)) (KeepBut.of_below hb g none) (.inl rfl)); have n4_ := Ad.mk (qa5 (by repeat (first | (with_reducible first | exact HB.out | apply bwa | apply bwN | apply bw1 | refine bws ?_ (IsS98.ge HI0.out)) | exact HB.out)) hb); clear HO186; clear HI0; clear HK; clear HB; have HO186 := n0_; have HO191 := n1_; have HI0 := n2_; have HK := n3_; have HB := n4_; clear n0_ n1_ n2_ n3_ n4_; clear hb ho5))
 go_loopg [6, 7] k (fun kq v6 v7 w' => ∃ (x6_1 : List Int) (x7_1 : Int) (x1001_1 : Int), v7 = .int .i64 x7_1 ∧ Ad (spec_stakesOf.l0 kq t184 t187 x6_1 x7_1 s0_0 x1001_1 = some (r1, r2, r3)) ∧ Ad (kq ≤ k) ∧ Ad (Kd.N k42 42 w' w.heap.size (fun k_ => (w.heap.size ≤ k_) ∧ some k_ ≠ (v6 : Value).ownBlock ∧ k_ ≠ g) v185 t184) ∧ Ad (Kd.R (Kd.int .i64) 3 w' w.heap.size (fun k_ => (w.heap.size ≤ k_)) v6 x6_1) ∧ Ad (IsS98 w0 w' g s0_0 x1001_1) ∧ Ad (KeepBut w w' g none) ∧ Ad (Below w0.heap.size w0 w'))
 case atStart => exact ⟨(y189), (0), (t188), (by first | rfl | (simp; done) | (simp [*]; done)), H', ⟨Nat.le_refl _⟩, ⟨by (with_reducible repeat (first | apply Kd.N_alloc | apply Kd.N_drewN | apply Kd.N_drew)); exact Kd.N_mono HO186.out (fun _ hk => ⟨hk.1.1, ⟨hk.2, hk.1.2⟩⟩)⟩, ⟨by (with_reducible repeat (first | apply Kd.R_alloc | apply Kd.R_drewN | apply Kd.R_drew)); exact Kd.R_mono HO191.out (fun _ hk => hk.1)⟩, ⟨by repeat (first | (with_reducible first | exact HI0.out | apply IsS98.alloc | apply IsS98.drewN | apply IsS98.drew | apply IsS98.set_1) | exact HI0.out)⟩, ⟨by repeat (first | (with_reducible first | exact HK.out | apply KeepBut.set_ | apply qa3 | apply qa4 | apply qa2) | exact HK.out)⟩, ⟨by repeat (first | (with_reducible first | exact HB.out | apply bwa | apply bwN | apply bw1 | refine bws ?_ (IsS98.ge HI0.out)) | exact HB.out)⟩⟩
 case round =>
  clear H'
  try clear p2
  try clear c5
  obtain ⟨x6_1, x7_1, x1001_1, rfl, HA, HK1, HO_4, HO_6, HI0, HK, HB⟩ := hrel
  cases gk with
  | zero => exact absurd HA.out (by simp [spec_stakesOf.l0])
  | succ k1 =>
   have H := HA.out
   clear HA
   simp only [spec_stakesOf.l0] at H
   by_cases c6 : x7_1 < t187
   ·rw [if_pos c6] at H
    have c6b0 : decide (x7_1 < t187) = true := decide_eq_true c6
    clear c6
    replace H := Option.bind_eq_some_iff.mp H
    obtain ⟨⟨t192, t193⟩, A70, H⟩ := H
    replace H : ((spec_reader_one.f k1 s0_0 t193 (([200, 100, t192, 0, 1000] : List Int))).bind fun bt197 => (if x6_1.length < 17592186044416 then (spec_stakesOf.l0 k1 t184 t187 (x6_1 ++ [bt197.1]) (wrap64 (x7_1 + 1)) s0_0 bt197.2) else (none))) = some (r1, r2, r3) := H
    have A7 := Ad.mk A70
    clear A70
    obtain ⟨y194, hy194⟩ : ∃ y_ : List Int, y_ = (([200, 100, t192, 0, 1000] : List Int)) := ⟨_, rfl⟩
    replace H : ((spec_reader_one.f k1 s0_0 t193 y194).bind fun bt197 => (if x6_1.length < 17592186044416 then (spec_stakesOf.l0 k1 t184 t187 (x6_1 ++ [bt197.1]) (wrap64 (x7_1 + 1)) s0_0 bt197.2) else (none))) = some (r1, r2, r3) := by first | (rw [hy194]; with_reducible exact H) | (have H2_ := (Option.bind_some _ _).symm.trans H; rw [hy194]; with_reducible exact H2_) | (have H2_ := (Option.bind_some _ _).symm.trans H; with_reducible exact H2_) | with_reducible exact H | (rw [hy194]; exact H) | exact H
    have Ny194 := Ad.mk hy194
    clear hy194
    replace H := Option.bind_eq_some_iff.mp H
    obtain ⟨⟨t197, t198⟩, A80, H⟩ := H
    replace H : (if x6_1.length < 17592186044416 then (spec_stakesOf.l0 k1 t184 t187 (x6_1 ++ [t197]) (wrap64 (x7_1 + 1)) s0_0 t198) else (none)) = some (r1, r2, r3) := H
    have A8 := Ad.mk A80
    clear A80
    by_cases c9 : x6_1.length < 17592186044416
    ·rw [if_pos c9] at H
     have LMc9 := Ad.mk c9
     clear c9
     obtain ⟨y199, hy199⟩ : ∃ y_ : List Int, y_ = (x6_1 ++ [t197]) := ⟨_, rfl⟩
     replace H : (spec_stakesOf.l0 k1 t184 t187 y199 (wrap64 (x7_1 + 1)) s0_0 t198) = some (r1, r2, r3) := by first | (rw [hy199]; with_reducible exact H) | (have H2_ := (Option.bind_some _ _).symm.trans H; rw [hy199]; with_reducible exact H2_) | (have H2_ := (Option.bind_some _ _).symm.trans H; with_reducible exact H2_) | with_reducible exact H | (rw [hy199]; exact H) | exact H
     have Ny199 := Ad.mk hy199
     clear hy199
     have H' := Ad.mk H
     clear H
     go_wp2_with (first | ((with_reducible refine qa7 (f := 58) rfl ?_); refine goesL_ (some 22) rfl rfl Try.func58 (by kernel_rfl) rfl #[.pointer (some ⟨g, 0, none⟩), .int .i64 250] rfl (by (try simp only [List.map_toArray, List.map_cons, List.map_nil]); first | done | rfl | (simp only [List.length_drop, List.length_take]; rfl)) ?_; (with_reducible refine (spec_reader_pick.calls k1 g s0_0 x1001_1 250 t192 t193 w0 _ ?side1 ?side2 A7.out).mono ?_); (case side1 => repeat (first | (with_reducible first | exact HI0.out | apply IsS98.alloc | apply IsS98.drewN | apply IsS98.drew | apply IsS98.set_1) | exact HI0.out)); (case side2 => repeat (first | (with_reducible first | exact HB.out | apply bwa | apply bwN | apply bw1 | refine bws ?_ (IsS98.ge HI0.out)) | exact HB.out)); rintro e w10 ⟨rfl, hi, hb, hk⟩; refine ⟨_, rfl, ?_⟩; have n0_ := Ad.mk (Kd.N_mono (Kd.N_keep (Kd.N_mono (ok := fun k_ => (((w.heap.size ≤ k_)) ∧ (some k_ ≠ (u6 : Value).ownBlock ∧ k_ ≠ g))) (by (with_reducible repeat (first | apply Kd.N_alloc | apply Kd.N_drewN | apply Kd.N_drew)); exact HO_4.out) (fun k_ hk_ => (⟨hk_, hk_.2.2⟩ : _ ∧ k_ ≠ g))) hk (fun _ h => h.2)) (fun _ h => h.1)); have n1_ := Ad.mk (Kd.R_mono (Kd.R_keep (IsS98.apart (show IsS98 w0 _ g s0_0 x1001_1 from by repeat (first | (with_reducible first | exact HI0.out | apply IsS98.alloc | apply IsS98.drewN | apply IsS98.drew | apply IsS98.set_1) | exact HI0.out)) (by (with_reducible repeat (first | apply Kd.R_alloc | apply Kd.R_drewN | apply Kd.R_drew)); exact HO_6.out) (by decide)) hk (fun _ h => h.2)) (fun _ h => h.1)); have n2_ := Ad.mk (KeepBut.trans (by repeat (first | (with_reducible first | exact HK.out | apply KeepBut.set_ | apply qa3 | apply qa4 | apply qa2) | exact HK.out)) hk (.inl rfl)); have n3_ := Ad.mk (hb); have n4_ := Ad.mk (hi); clear HO_4; clear HO_6; clear HK; clear HB; clear HI0; have HO_4 := n0_; have HO_6 := n1_; have HK := n2_; have HB := n3_; have HI0 := n4_; clear n0_ n1_ n2_ n3_ n4_; (try clear hb); (try clear hb2); (try clear hk); (try clear hi)) | ((with_reducible refine gate_dst (N := 23) rfl ?_); refine Kd.R_lit (Kd.int .i64) _ 3 ?hg (N := 23) ?hd (xs := ([200, 100, t192, 0, 1000] : List Int)) (inner := [.int .i64 200, .int .i64 100, .int .i64 t192, .int .i64 0, .int .i64 1000]) (ok := fun _ => True) (okp := fun _ => True) ?hr ?hp (fun _ hk => hk) trivial (Below.refl _ _) (Nat.le_refl _) (by simp) ?_; (case hd => rfl); (case hg => rfl); (case hr => first | (go_simp; done) | (go_simp; rfl)); (case hp => exact (Reps.one (show Kd.M (Kd.int .i64) _ _ _ 200 [.int .i64 200] from rfl) (Reps.one (show Kd.M (Kd.int .i64) _ _ _ 100 [.int .i64 100] from rfl) (Reps.one (show Kd.M (Kd.int .i64) _ _ _ t192 [.int .i64 t192] from rfl) (Reps.one (show Kd.M (Kd.int .i64) _ _ _ 0 [.int .i64 0] from rfl) (Reps.one (show Kd.M (Kd.int .i64) _ _ _ 1000 [.int .i64 1000] from rfl) (Reps.none _ _))))))); intro v195 w11 ho12 hb hg_ hnew_; clear hg_ hnew_; (first | rw [← Ny194.out] at ho12 | (simp only [Int.reduceToNat] at ho12; rw [← Ny194.out] at ho12)); have n0_ := Ad.mk (Kd.N_elder' (by (with_reducible repeat (first | apply Kd.N_alloc | apply Kd.N_drewN | apply Kd.N_drew)); exact HO_4.out) (Kd.R_base ho12) hb); have n1_ := Ad.mk (Kd.R_elder' (by (with_reducible repeat (first | apply Kd.R_alloc | apply Kd.R_drewN | apply Kd.R_drew)); exact HO_6.out) (Kd.R_base ho12) hb); have n2_ := Ad.mk (Kd.R_lower (Kd.R_new' (Kd.R_newM (M := fun k_ => (w.heap.size ≤ k_)) ho12 (qb0 (w := w) (g := g) (row := none) (by repeat (first | (with_reducible first | exact HK.out | apply KeepBut.set_ | apply qa3 | apply qa4 | apply qa2) | exact HK.out))) (fun k_ h_ => h_)) (Kd.R_lt (by (with_reducible repeat (first | apply Kd.R_alloc | apply Kd.R_drewN | apply Kd.R_drew)); exact HO_6.out))) (qb0 (w := w) (g := g) (row := none) (by repeat (first | (with_reducible first | exact HK.out | apply KeepBut.set_ | apply qa3 | apply qa4 | apply qa2) | exact HK.out)))); have n3_ := Ad.mk (IsS98.below (by repeat (first | (with_reducible first | exact HI0.out | apply IsS98.alloc | apply IsS98.drewN | apply IsS98.drew | apply IsS98.set_1) | exact HI0.out)) hb); have n4_ := Ad.mk (KeepBut.trans (by repeat (first | (with_reducible first | exact HK.out | apply KeepBut.set_ | apply qa3 | apply qa4 | apply qa2) | exact HK.out)) (KeepBut.of_below hb g none) (.inl rfl)); have n5_ := Ad.mk (qa5 (by repeat (first | (with_reducible first | exact HB.out | apply bwa | apply bwN | apply bw1 | refine bws ?_ (IsS98.ge HI0.out)) | exact HB.out)) hb); clear HO_4; clear HO_6; clear HI0; clear HK; clear HB; have HO_4 := n0_; have HO_6 := n1_; have HO196 := n2_; have HI0 := n3_; have HK := n4_; have HB := n5_; clear n0_ n1_ n2_ n3_ n4_ n5_; clear hb ho12; obtain ⟨Ao13, co13, eo13⟩ := Kd.R_slice HO196.out; subst eo13) | ((with_reducible refine qa7 (f := 59) rfl ?_); refine goesL_ (some 24) rfl rfl Try.func59 (by kernel_rfl) rfl #[.pointer (some ⟨g, 0, none⟩), .slice Ao13 y194.length co13] rfl (by (try simp only [List.map_toArray, List.map_cons, List.map_nil]); first | done | rfl | (simp only [List.length_drop, List.length_take]; rfl)) ?_; (with_reducible refine (spec_reader_one.calls k1 g s0_0 t193 _ _ y194 t197 t198 w0 _ ?side1 ?side2 ?side3 ?side4 ?side5 A8.out).mono ?_); (case side1 => repeat (first | (with_reducible first | exact HI0.out | apply IsS98.alloc | apply IsS98.drewN | apply IsS98.drew | apply IsS98.set_1) | exact HI0.out)); (case side2 => repeat (first | (with_reducible first | exact HB.out | apply bwa | apply bwN | apply bw1 | refine bws ?_ (IsS98.ge HI0.out)) | exact HB.out)); (case side3 => repeat (first | exact (Kd.R_reads' HO196.out).2.2 | (with_reducible refine Kd.C_alloc ?_ _) | (with_reducible refine Kd.C_drewN ?_ _) | (with_reducible refine Kd.C_drew ?_))); (case side4 => exact (Kd.R_reads' HO196.out).2.1); (case side5 => exact far_slice (IsS98.own_ne HI0.out HO196.out (by decide))); rintro e w14 ⟨rfl, hi, hb, hk⟩; refine ⟨_, rfl, ?_⟩; have n0_ := Ad.mk (Kd.N_mono (Kd.N_keep (Kd.N_mono (ok := fun k_ => ((((w.heap.size ≤ k_)) ∧ (some k_ ≠ (u6 : Value).ownBlock ∧ k_ ≠ g)) ∧ some k_ ≠ (.slice Ao13 y194.length co13 : Value).ownBlock)) (by (with_reducible repeat (first | apply Kd.N_alloc | apply Kd.N_drewN | apply Kd.N_drew)); exact HO_4.out) (fun k_ hk_ => (⟨hk_, hk_.1.2.2⟩ : _ ∧ k_ ≠ g))) hk (fun _ h => h.2)) (fun _ h => h.1)); have n1_ := Ad.mk (Kd.R_mono (Kd.R_keep (IsS98.apart (show IsS98 w0 _ g s0_0 t193 from by repeat (first | (with_reducible first | exact HI0.out | apply IsS98.alloc | apply IsS98.drewN | apply IsS98.drew | apply IsS98.set_1) | exact HI0.out)) (by (with_reducible repeat (first | apply Kd.R_alloc | apply Kd.R_drewN | apply Kd.R_drew)); exact HO_6.out) (by decide)) hk (fun _ h => h.2)) (fun _ h => h.1)); have n2_ := Ad.mk (Kd.R_mono (Kd.R_keep (IsS98.apart (show IsS98 w0 _ g s0_0 t193 from by repeat (first | (with_reducible first | exact HI0.out | apply IsS98.alloc | apply IsS98.drewN | apply IsS98.drew | apply IsS98.set_1) | exact HI0.out)) (by (with_reducible repeat (first | apply Kd.R_alloc | apply Kd.R_drewN | apply Kd.R_drew)); exact HO196.out) (by decide)) hk (fun _ h => h.2)) (fun _ h => h.1)); have n3_ := Ad.mk (KeepBut.trans (by repeat (first | (with_reducible first | exact HK.out | apply KeepBut.set_ | apply qa3 | apply qa4 | apply qa2) | exact HK.out)) hk (.inl rfl)); have n4_ := Ad.mk (hb); have n5_ := Ad.mk (hi); clear HO_4; clear HO_6; clear HO196; clear HK; clear HB; clear HI0; have HO_4 := n0_; have HO_6 := n1_; have HO196 := n2_; have HK := n3_; have HB := n4_; have HI0 := n5_; clear n0_ n1_ n2_ n3_ n4_ n5_; (try clear hb); (try clear hb2); (try clear hk); (try clear hi)) | ((with_reducible refine gate_builtin (b := .append) (xs := #[.tmp 19, .tmp 25]) rfl ?_); at_builtin; refine Kd.R_append (Kd.int .i64) w.heap.size rfl (.tmp 19) (.tmp 25) 26 3 (.int .i64 0) 8 rfl Try.underlying26 info3 rfl (by decide) (by omega) u6 x6_1 t197 [.int .i64 t197] (fun k_ => (w.heap.size ≤ k_) ∧ some k_ ≠ (.slice Ao13 y194.length co13 : Value).ownBlock) (fun _ => False) rfl rfl ?aP (fun _ hk => hk.elim) ?aF ?aO (Below.refl _ _) ?aS ?aL ?_; (case aP => exact rfl); (case aF => exact (fun k_ hk => ⟨(Nat.le_trans (qb0 (w := w) (g := g) (row := none) (by repeat (first | (with_reducible first | exact HK.out | apply KeepBut.set_ | apply qa3 | apply qa4 | apply qa2) | exact HK.out))) hk), Kd.fresh' (Kd.R_lt (by (with_reducible repeat (first | apply Kd.R_alloc | apply Kd.R_drewN | apply Kd.R_drew)); exact HO196.out)) k_ hk⟩)); (case aO => exact (by (with_reducible repeat (first | apply Kd.R_alloc | apply Kd.R_drewN | apply Kd.R_drew)); exact HO_6.out)); (case aS => exact (qb0 (w := w) (g := g) (row := none) (by repeat (first | (with_reducible first | exact HK.out | apply KeepBut.set_ | apply qa3 | apply qa4 | apply qa2) | exact HK.out)))); (case aL => have := LMc9.out; omega); intro v200 w15 ho hb hg hat; rw [← Ny199.out] at ho; have n0_ := Ad.mk (Kd.N_afterv (ok := (fun k_ => (w.heap.size ≤ k_) ∧ some k_ ≠ (.slice Ao13 y194.length co13 : Value).ownBlock ∧ k_ ≠ g)) (by (with_reducible repeat (first | apply Kd.N_alloc | apply Kd.N_drewN | apply Kd.N_drew)); exact Kd.N_mono HO_4.out (fun _ hk => ⟨⟨hk.1.1, ⟨hk.2, hk.1.2.2⟩⟩, hk.1.2.1⟩)) hg hat); have n1_ := Ad.mk (IsS98.grown (by repeat (first | (with_reducible first | exact HI0.out | apply IsS98.alloc | apply IsS98.drewN | apply IsS98.drew | apply IsS98.set_1) | exact HI0.out)) hg (IsS98.own_ne HI0.out HO_6.out (by decide))); have n2_ := Ad.mk (Kd.R_after (ok := (fun k_ => (w.heap.size ≤ k_))) (by (with_reducible repeat (first | apply Kd.R_alloc | apply Kd.R_drewN | apply Kd.R_drew)); exact Kd.R_mono HO196.out (fun _ hk => ⟨hk.1.1, hk.2⟩)) hg hat); have n3_ := Ad.mk (below_weaken (by repeat (first | (with_reducible first | exact HB.out | apply bwa | apply bwN | apply bw1 | refine bws ?_ (IsS98.ge HI0.out)) | exact HB.out)) HL.out hb); have n4_ := Ad.mk (KeepBut.trans (by repeat (first | (with_reducible first | exact HK.out | apply KeepBut.set_ | apply qa3 | apply qa4 | apply qa2) | exact HK.out)) (KeepBut.of_grown hg g) (Kd.R_base2 HO_6.out)); have n5_ := Ad.mk (ho); clear HO_4; clear HI0; clear HO196; clear HB; clear HK; clear HO_6; have HO_4 := n0_; have HI0 := n1_; have HO196 := n2_; have HB := n3_; have HK := n4_; have HO201 := n5_; clear n0_ n1_ n2_ n3_ n4_ n5_; clear ho hb hg hat))
     go_roundg k1
     case measure => have := HK1.out; omega
     case rel => exact ⟨(y199), (wrap64 (x7_1 + 1)), (t198), (by first | rfl | (simp; done) | (simp [*]; done)), H', ⟨by have := HK1.out; omega⟩, ⟨by (with_reducible repeat (first | apply Kd.N_alloc | apply Kd.N_drewN | apply Kd.N_drew)); exact Kd.N_mono HO_4.out (fun _ hk => ⟨hk.1.1, ⟨hk.2, hk.1.2.2⟩⟩)⟩, ⟨by (with_reducible repeat (first | apply Kd.R_alloc | apply Kd.R_drewN | apply Kd.R_drew)); exact Kd.R_mono HO201.out (fun _ hk => hk.1)⟩, ⟨by repeat (first | (with_reducible first | exact HI0.out | apply IsS98.alloc | apply IsS98.drewN | apply IsS98.drew | apply IsS98.set_1) | exact HI0.out)⟩, ⟨by repeat (first | (with_reducible first | exact HK.out | apply KeepBut.set_ | apply qa3 | apply qa4 | apply qa2) | exact HK.out)⟩, ⟨by repeat (first | (with_reducible first | exact HB.out | apply bwa | apply bwN | apply bw1 | refine bws ?_ (IsS98.ge HI0.out)) | exact HB.out)⟩⟩
    ·rw [if_neg c9] at H
     exact absurd H (by simp)
   ·rw [if_neg c6] at H
    have c6b0 : decide (x7_1 < t187) = false := decide_eq_false c6
    clear c6
    by_cases c16 : (x6_1.length : Int) > 0
    ·rw [if_pos c16] at H
     have c16b0 : decide (0 < (x6_1.length : Int)) = true := decide_eq_true c16
     have c16b1 : decide (0 < x6_1.length) = true := decide_eq_true (by omega)
     clear c16
     replace H := Option.bind_eq_some_iff.mp H
     obtain ⟨⟨t202, t203⟩, A170, H⟩ := H
     replace H : (if t202 = 0 then ((spec_reader_one.f k1 s0_0 t203 (([(-1), 100001] : List Int))).bind fun bt207 => (if 0 < (x6_1.length : Int) then (some ((x6_1.set (0 : Int).toNat bt207.1), t184, bt207.2)) else (none))) else (some (x6_1, t184, t203))) = some (r1, r2, r3) := H
     have A17 := Ad.mk A170
     clear A170
     by_cases c18 : t202 = 0
     ·rw [if_pos c18] at H
      have c18b0 : (t202 == 0) = true := beq_iff_eq.mpr c18
      have c18b1 : (t202 != 0) = false := bne_eq_false_iff_eq.mpr c18
      clear c18
      obtain ⟨y204, hy204⟩ : ∃ y_ : List Int, y_ = (([(-1), 100001] : List Int)) := ⟨_, rfl⟩
      replace H : ((spec_reader_one.f k1 s0_0 t203 y204).bind fun bt207 => (if 0 < (x6_1.length : Int) then (some ((x6_1.set (0 : Int).toNat bt207.1), t184, bt207.2)) else (none))) = some (r1, r2, r3) := by first | (rw [hy204]; with_reducible exact H) | (have H2_ := (Option.bind_some _ _).symm.trans H; rw [hy204]; with_reducible exact H2_) | (have H2_ := (Option.bind_some _ _).symm.trans H; with_reducible exact H2_) | with_reducible exact H | (rw [hy204]; exact H) | exact H
      have Ny204 := Ad.mk hy204
      clear hy204
      replace H := Option.bind_eq_some_iff.mp H
      obtain ⟨⟨t207, t208⟩, A190, H⟩ := H
      replace H : (if 0 < (x6_1.length : Int) then (some ((x6_1.set (0 : Int).toNat t207), t184, t208)) else (none)) = some (r1, r2, r3) := H
      have A19 := Ad.mk A190
      clear A190
      by_cases c20 : 0 < (x6_1.length : Int)
      ·rw [if_pos c20] at H
       have c20b0 : decide (0 < (x6_1.length : Int)) = true := decide_eq_true c20
       have c20b1 : decide (0 < x6_1.length) = true := decide_eq_true (by omega)
       clear c20
       obtain ⟨y209, hy209⟩ : ∃ y_ : List Int, y_ = (x6_1.set (0 : Int).toNat t207) := ⟨_, rfl⟩
       replace H : (some (y209, t184, t208)) = some (r1, r2, r3) := by first | (rw [hy209]; with_reducible exact H) | (have H2_ := (Option.bind_some _ _).symm.trans H; rw [hy209]; with_reducible exact H2_) | (have H2_ := (Option.bind_some _ _).symm.trans H; with_reducible exact H2_) | with_reducible exact H | (rw [hy209]; exact H) | exact H
       have Ny209 := Ad.mk hy209
       clear hy209
       simp only [Option.some.injEq, Prod.mk.injEq] at H
       obtain ⟨rfl, rfl, rfl⟩ := H
       obtain ⟨Ao22, co22, eo22⟩ := Kd.R_slice HO_6.out
       subst eo22
       go_wp2_with (first | (go_at_call 58; (with_reducible refine (spec_reader_pick.calls k1 g s0_0 x1001_1 20 t202 t203 w0 _ ?side1 ?side2 A17.out).mono ?_); (case side1 => repeat (first | (with_reducible first | exact HI0.out | apply IsS98.alloc | apply IsS98.drewN | apply IsS98.drew | apply IsS98.set_1) | exact HI0.out)); (case side2 => repeat (first | (with_reducible first | exact HB.out | apply bwa | apply bwN | apply bw1 | refine bws ?_ (IsS98.ge HI0.out)) | exact HB.out)); rintro e w23 ⟨rfl, hi, hb, hk⟩; have n0_ := Ad.mk (Kd.N_mono (Kd.N_keep (Kd.N_mono (ok := fun k_ => (((w.heap.size ≤ k_)) ∧ (some k_ ≠ (.slice Ao22 x6_1.length co22 : Value).ownBlock ∧ k_ ≠ g))) (by (with_reducible repeat (first | apply Kd.N_alloc | apply Kd.N_drewN | apply Kd.N_drew)); exact HO_4.out) (fun k_ hk_ => (⟨hk_, hk_.2.2⟩ : _ ∧ k_ ≠ g))) hk (fun _ h => h.2)) (fun _ h => h.1)); have n1_ := Ad.mk (Kd.R_mono (Kd.R_keep (IsS98.apart (show IsS98 w0 _ g s0_0 x1001_1 from by repeat (first | (with_reducible first | exact HI0.out | apply IsS98.alloc | apply IsS98.drewN | apply IsS98.drew | apply IsS98.set_1) | exact HI0.out)) (by (with_reducible repeat (first | apply Kd.R_alloc | apply Kd.R_drewN | apply Kd.R_drew)); exact HO_6.out) (by decide)) hk (fun _ h => h.2)) (fun _ h => h.1)); have n2_ := Ad.mk (KeepBut.trans (by repeat (first | (with_reducible first | exact HK.out | apply KeepBut.set_ | apply qa3 | apply qa4 | apply qa2) | exact HK.out)) hk (.inl rfl)); have n3_ := Ad.mk (hb); have n4_ := Ad.mk (hi); clear HO_4; clear HO_6; clear HK; clear HB; clear HI0; have HO_4 := n0_; have HO_6 := n1_; have HK := n2_; have HB := n3_; have HI0 := n4_; clear n0_ n1_ n2_ n3_ n4_; (try clear hb); (try clear hb2); (try clear hk); (try clear hi)) | ((with_reducible refine gate_dst (N := 37) rfl ?_); refine Kd.R_lit (Kd.int .i64) _ 3 ?hg (N := 37) ?hd (xs := ([(-1), 100001] : List Int)) (inner := [.int .i64 (-1), .int .i64 100001]) (ok := fun _ => True) (okp := fun _ => True) ?hr ?hp (fun _ hk => hk) trivial (Below.refl _ _) (Nat.le_refl _) (by simp) ?_; (case hd => rfl); (case hg => rfl); (case hr => first | (go_simp; done) | (go_simp; rfl)); (case hp => exact (Reps.one (show Kd.M (Kd.int .i64) _ _ _ (-1) [.int .i64 (-1)] from rfl) (Reps.one (show Kd.M (Kd.int .i64) _ _ _ 100001 [.int .i64 100001] from rfl) (Reps.none _ _)))); intro v205 w24 ho25 hb hg_ hnew_; clear hg_ hnew_; (first | rw [← Ny204.out] at ho25 | (simp only [Int.reduceToNat] at ho25; rw [← Ny204.out] at ho25)); have n0_ := Ad.mk (Kd.N_elder' (by (with_reducible repeat (first | apply Kd.N_alloc | apply Kd.N_drewN | apply Kd.N_drew)); exact HO_4.out) (Kd.R_base ho25) hb); have n1_ := Ad.mk (Kd.R_elder' (by (with_reducible repeat (first | apply Kd.R_alloc | apply Kd.R_drewN | apply Kd.R_drew)); exact HO_6.out) (Kd.R_base ho25) hb); have n2_ := Ad.mk (Kd.R_lower (Kd.R_new' (Kd.R_newM (M := fun k_ => (w.heap.size ≤ k_)) ho25 (qb0 (w := w) (g := g) (row := none) (by repeat (first | (with_reducible first | exact HK.out | apply KeepBut.set_ | apply qa3 | apply qa4 | apply qa2) | exact HK.out))) (fun k_ h_ => h_)) (Kd.R_lt (by (with_reducible repeat (first | apply Kd.R_alloc | apply Kd.R_drewN | apply Kd.R_drew)); exact HO_6.out))) (qb0 (w := w) (g := g) (row := none) (by repeat (first | (with_reducible first | exact HK.out | apply KeepBut.set_ | apply qa3 | apply qa4 | apply qa2) | exact HK.out)))); have n3_ := Ad.mk (IsS98.below (by repeat (first | (with_reducible first | exact HI0.out | apply IsS98.alloc | apply IsS98.drewN | apply IsS98.drew | apply IsS98.set_1) | exact HI0.out)) hb); have n4_ := Ad.mk (KeepBut.trans (by repeat (first | (with_reducible first | exact HK.out | apply KeepBut.set_ | apply qa3 | apply qa4 | apply qa2) | exact HK.out)) (KeepBut.of_below hb g none) (.inl rfl)); have n5_ := Ad.mk (qa5 (by repeat (first | (with_reducible first | exact HB.out | apply bwa | apply bwN | apply bw1 | refine bws ?_ (IsS98.ge HI0.out)) | exact HB.out)) hb); clear HO_4; clear HO_6; clear HI0; clear HK; clear HB; have HO_4 := n0_; have HO_6 := n1_; have HO206 := n2_; have HI0 := n3_; have HK := n4_; have HB := n5_; clear n0_ n1_ n2_ n3_ n4_ n5_; clear hb ho25; obtain ⟨Ao26, co26, eo26⟩ := Kd.R_slice HO206.out; subst eo26) | ((with_reducible refine qa7 (f := 59) rfl ?_); refine goesL_ (some 38) rfl rfl Try.func59 (by kernel_rfl) rfl #[.pointer (some ⟨g, 0, none⟩), .slice Ao26 y204.length co26] rfl (by (try simp only [List.map_toArray, List.map_cons, List.map_nil]); first | done | rfl | (simp only [List.length_drop, List.length_take]; rfl)) ?_; (with_reducible refine (spec_reader_one.calls k1 g s0_0 t203 _ _ y204 t207 t208 w0 _ ?side1 ?side2 ?side3 ?side4 ?side5 A19.out).mono ?_); (case side1 => repeat (first | (with_reducible first | exact HI0.out | apply IsS98.alloc | apply IsS98.drewN | apply IsS98.drew | apply IsS98.set_1) | exact HI0.out)); (case side2 => repeat (first | (with_reducible first | exact HB.out | apply bwa | apply bwN | apply bw1 | refine bws ?_ (IsS98.ge HI0.out)) | exact HB.out)); (case side3 => repeat (first | exact (Kd.R_reads' HO206.out).2.2 | (with_reducible refine Kd.C_alloc ?_ _) | (with_reducible refine Kd.C_drewN ?_ _) | (with_reducible refine Kd.C_drew ?_))); (case side4 => exact (Kd.R_reads' HO206.out).2.1); (case side5 => exact far_slice (IsS98.own_ne HI0.out HO206.out (by decide))); rintro e w27 ⟨rfl, hi, hb, hk⟩; refine ⟨_, rfl, ?_⟩; have n0_ := Ad.mk (Kd.N_mono (Kd.N_keep (Kd.N_mono (ok := fun k_ => ((((w.heap.size ≤ k_)) ∧ (some k_ ≠ (.slice Ao22 x6_1.length co22 : Value).ownBlock ∧ k_ ≠ g)) ∧ some k_ ≠ (.slice Ao26 y204.length co26 : Value).ownBlock)) (by (with_reducible repeat (first | apply Kd.N_alloc | apply Kd.N_drewN | apply Kd.N_drew)); exact HO_4.out) (fun k_ hk_ => (⟨hk_, hk_.1.2.2⟩ : _ ∧ k_ ≠ g))) hk (fun _ h => h.2)) (fun _ h => h.1)); have n1_ := Ad.mk (Kd.R_mono (Kd.R_keep (IsS98.apart (show IsS98 w0 _ g s0_0 t203 from by repeat (first | (with_reducible first | exact HI0.out | apply IsS98.alloc | apply IsS98.drewN | apply IsS98.drew | apply IsS98.set_1) | exact HI0.out)) (by (with_reducible repeat (first | apply Kd.R_alloc | apply Kd.R_drewN | apply Kd.R_drew)); exact HO_6.out) (by decide)) hk (fun _ h => h.2)) (fun _ h => h.1)); have n2_ := Ad.mk (Kd.R_mono (Kd.R_keep (IsS98.apart (show IsS98 w0 _ g s0_0 t203 from by repeat (first | (with_reducible first | exact HI0.out | apply IsS98.alloc | apply IsS98.drewN | apply IsS98.drew | apply IsS98.set_1) | exact HI0.out)) (by (with_reducible repeat (first | apply Kd.R_alloc | apply Kd.R_drewN | apply Kd.R_drew)); exact HO206.out) (by decide)) hk (fun _ h => h.2)) (fun _ h => h.1)); have n3_ := Ad.mk (KeepBut.trans (by repeat (first | (with_reducible first | exact HK.out | apply KeepBut.set_ | apply qa3 | apply qa4 | apply qa2) | exact HK.out)) hk (.inl rfl)); have n4_ := Ad.mk (hb); have n5_ := Ad.mk (hi); clear HO_4; clear HO_6; clear HO206; clear HK; clear HB; clear HI0; have HO_4 := n0_; have HO_6 := n1_; have HO206 := n2_; have HK := n3_; have HB := n4_; have HI0 := n5_; clear n0_ n1_ n2_ n3_ n4_ n5_; (try clear hb); (try clear hb2); (try clear hk); (try clear hi); have p21 : 0 ≤ (0 : Int) := (by omega); have q21 : (0 : Int) < ((x6_1.length : Int) : Int) := of_decide_eq_true (by first | (with_reducible assumption) | assumption); have qi21 : (0 < x6_1.length) = True := eq_true (by omega); obtain ⟨go21, co21, eo21, gb21, gl21, cl21, HG21⟩ := Kd.R_form HO_6.out (by omega); (first | cases eo21 | (injection eo21 with ea_ en_ ec_; (first | subst ea_ | (injection ea_ with ea_; subst ea_)); subst ec_; clear en_)); have GB21 := Ad.mk gb21; have GG21 := Ad.mk HG21; clear gb21 gl21 HG21; obtain ⟨hx21_0, hf21_0⟩ := Kd.R_celln 0 HO_6.out (0 : Int) p21 q21; (try rw [show ((0 : Int)).toNat = 0 from rfl] at hx21_0); (try simp only [Nat.reduceMul, Nat.zero_mul, Nat.zero_add, Nat.reduceAdd] at hx21_0); (try rw [show ((0 : Int)).toNat = 0 from rfl] at hf21_0); (try simp only [Nat.reduceMul, Nat.zero_mul, Nat.zero_add, Nat.reduceAdd] at hf21_0); replace p21 := eq_true p21; replace q21 := eq_true q21; obtain ⟨hy28_, hz28_⟩ := Kd.R_celln 0 HO_6.out (0 : Int) (by omega) (of_decide_eq_true (by first | (with_reducible assumption) | assumption)); (try simp only [Int.reduceToNat, Int.toNat_zero, Int.toNat_ofNat, Nat.reduceMul, Nat.zero_mul, Nat.zero_add] at hy28_ hz28_); (try rw [show ((0 : Int)).toNat = 0 from rfl] at hy28_); (try rw [show ((0 : Int)).toNat = 0 from rfl] at hz28_); have HP28 := Kd.R_putg HO_6.out (0 : Int) t207) | ((with_reducible refine gate_store (t := 3) (p := 39) rfl ?_); refine store_event (t := 3) (p := 39) (v := ?vo_w29) (w1 := (w27.setCell ⟨go21, (0 : Int).toNat, none⟩ (.int .i64 t207))) ?hg ?ho ?hn ?hr ?_; (case ho => rfl); (case hg => rfl); (case hn => rfl); (case hr => first | (go_simp; done) | (go_simp; rfl)); intro w29 hw; have hg : w27.grownBy w29 (some go21) := (by rw [hw]; exact HP28.2); have hp_ : Kd.R (Kd.int .i64) 3 w29 w.heap.size (fun k_ => (w.heap.size ≤ k_) ∧ some k_ ≠ (.slice Ao26 y204.length co26 : Value).ownBlock) (.slice (some ⟨go21, 0, none⟩) x6_1.length co22) y209 := (by rw [hw, Ny209.out]; exact HP28.1); clear HP28; have n0_ := Ad.mk (Kd.N_afterv (v := (.slice (some ⟨go21, 0, none⟩) x6_1.length co22)) (v1 := (.slice (some ⟨go21, 0, none⟩) x6_1.length co22)) (ok := (fun k_ => (w.heap.size ≤ k_) ∧ some k_ ≠ (.slice Ao26 y204.length co26 : Value).ownBlock ∧ k_ ≠ g)) (by (with_reducible repeat (first | apply Kd.N_alloc | apply Kd.N_drewN | apply Kd.N_drew)); exact Kd.N_mono HO_4.out (fun _ hk => ⟨⟨hk.1.1, ⟨hk.2, hk.1.2.2⟩⟩, hk.1.2.1⟩)) hg (.inl rfl)); have n1_ := Ad.mk (hp_); have n2_ := Ad.mk (IsS98.grown (by repeat (first | (with_reducible first | exact HI0.out | apply IsS98.alloc | apply IsS98.drewN | apply IsS98.drew | apply IsS98.set_1) | exact HI0.out)) hg (IsS98.own_ne HI0.out HO_6.out (by decide))); have n3_ := Ad.mk (Kd.R_after (v := (.slice (some ⟨go21, 0, none⟩) x6_1.length co22)) (v1 := (.slice (some ⟨go21, 0, none⟩) x6_1.length co22)) (ok := (fun k_ => (w.heap.size ≤ k_))) (by (with_reducible repeat (first | apply Kd.R_alloc | apply Kd.R_drewN | apply Kd.R_drew)); exact Kd.R_mono HO206.out (fun _ hk => ⟨hk.1.1, hk.2⟩)) hg (.inl rfl)); have n4_ := Ad.mk ((by rw [hw]; exact bws (HB.out) (Nat.le_trans HL.out GB21.out) : Below w0.heap.size w0 w29)); have n5_ := Ad.mk (KeepBut.trans (by repeat (first | (with_reducible first | exact HK.out | apply KeepBut.set_ | apply qa3 | apply qa4 | apply qa2) | exact HK.out)) (KeepBut.of_grown hg g) (Kd.R_base2 HO_6.out)); clear HO_4; clear HO_6; clear HI0; clear HO206; clear HB; clear HK; have HO_4 := n0_; have HO_6 := n1_; have HI0 := n2_; have HO206 := n3_; have HB := n4_; have HK := n5_; clear n0_ n1_ n2_ n3_ n4_ n5_; clear hg hw hp_))
       go_ret2
       exact ⟨_, _, by first | rfl | (simp [errW_none, errW_some] <;> rfl) | (simp [*, errW_none, errW_some] <;> rfl), by (with_reducible repeat (first | apply Kd.R_alloc | apply Kd.R_drewN | apply Kd.R_drew)); exact Kd.R_mono HO_6.out (fun _ hk => hk.1), by (with_reducible repeat (first | apply Kd.N_alloc | apply Kd.N_drewN | apply Kd.N_drew)); exact Kd.N_mono HO_4.out (fun _ hk => ⟨hk.1.1, hk.2⟩), by repeat (first | (with_reducible first | exact HI0.out | apply IsS98.alloc | apply IsS98.drewN | apply IsS98.drew | apply IsS98.set_1) | exact HI0.out), by repeat (first | (with_reducible first | exact HB.out | apply bwa | apply bwN | apply bw1 | refine bws ?_ (IsS98.ge HI0.out)) | exact HB.out), by repeat (first | (with_reducible first | exact HK.out | apply KeepBut.set_ | apply qa3 | apply qa4 | apply qa2) | exact HK.out)⟩
      ·rw [if_neg c20] at H
       exact absurd H (by simp)
     ·rw [if_neg c18] at H
      have c18b0 : (t202 == 0) = false := beq_eq_false_iff_ne.mpr c18
      have c18b1 : (t202 != 0) = true := bne_iff_ne.mpr c18
      simp only [Option.some.injEq, Prod.mk.injEq] at H
      obtain ⟨rfl, rfl, rfl⟩ := H
      obtain ⟨Ao30, co30, eo30⟩ := Kd.R_slice HO_6.out
      subst eo30
      go_wp2_with (first | (go_at_call 58; (with_reducible refine (spec_reader_pick.calls k1 g s0_0 x1001_1 20 t202 t203 w0 _ ?side1 ?side2 A17.out).mono ?_); (case side1 => repeat (first | (with_reducible first | exact HI0.out | apply IsS98.alloc | apply IsS98.drewN | apply IsS98.drew | apply IsS98.set_1) | exact HI0.out)); (case side2 => repeat (first | (with_reducible first | exact HB.out | apply bwa | apply bwN | apply bw1 | refine bws ?_ (IsS98.ge HI0.out)) | exact HB.out)); rintro e w31 ⟨rfl, hi, hb, hk⟩; have n0_ := Ad.mk (Kd.N_mono (Kd.N_keep (Kd.N_mono (ok := fun k_ => (((w.heap.size ≤ k_)) ∧ (some k_ ≠ (.slice Ao30 x6_1.length co30 : Value).ownBlock ∧ k_ ≠ g))) (by (with_reducible repeat (first | apply Kd.N_alloc | apply Kd.N_drewN | apply Kd.N_drew)); exact HO_4.out) (fun k_ hk_ => (⟨hk_, hk_.2.2⟩ : _ ∧ k_ ≠ g))) hk (fun _ h => h.2)) (fun _ h => h.1)); have n1_ := Ad.mk (Kd.R_mono (Kd.R_keep (IsS98.apart (show IsS98 w0 _ g s0_0 x1001_1 from by repeat (first | (with_reducible first | exact HI0.out | apply IsS98.alloc | apply IsS98.drewN | apply IsS98.drew | apply IsS98.set_1) | exact HI0.out)) (by (with_reducible repeat (first | apply Kd.R_alloc | apply Kd.R_drewN | apply Kd.R_drew)); exact HO_6.out) (by decide)) hk (fun _ h => h.2)) (fun _ h => h.1)); have n2_ := Ad.mk (KeepBut.trans (by repeat (first | (with_reducible first | exact HK.out | apply KeepBut.set_ | apply qa3 | apply qa4 | apply qa2) | exact HK.out)) hk (.inl rfl)); have n3_ := Ad.mk (hb); have n4_ := Ad.mk (hi); clear HO_4; clear HO_6; clear HK; clear HB; clear HI0; have HO_4 := n0_; have HO_6 := n1_; have HK := n2_; have HB := n3_; have HI0 := n4_; clear n0_ n1_ n2_ n3_ n4_; (try clear hb); (try clear hb2); (try clear hk); (try clear hi)))
      go_ret2
      exact ⟨_, _, by first | rfl | (simp [errW_none, errW_some] <;> rfl) | (simp [*, errW_none, errW_some] <;> rfl), by (with_reducible repeat (first | apply Kd.R_alloc | apply Kd.R_drewN | apply Kd.R_drew)); exact HO_6.out, by (with_reducible repeat (first | apply Kd.N_alloc | apply Kd.N_drewN | apply Kd.N_drew)); exact Kd.N_mono HO_4.out (fun _ hk => ⟨hk.1, hk.2.1⟩), by repeat (first | (with_reducible first | exact HI0.out | apply IsS98.alloc | apply IsS98.drewN | apply IsS98.drew | apply IsS98.set_1) | exact HI0.out), by repeat (first | (with_reducible first | exact HB.out | apply bwa | apply bwN | apply bw1 | refine bws ?_ (IsS98.ge HI0.out)) | exact HB.out), by repeat (first | (with_reducible first | exact HK.out | apply KeepBut.set_ | apply qa3 | apply qa4 | apply qa2) | exact HK.out)⟩
    ·rw [if_neg c16] at H
     have c16b0 : decide (0 < (x6_1.length : Int)) = false := decide_eq_false c16
     have c16b1 : decide (0 < x6_1.length) = false := decide_eq_false (by omega)
     clear c16
     simp only [Option.some.injEq, Prod.mk.injEq] at H
     obtain ⟨rfl, rfl, rfl⟩ := H
     obtain ⟨Ao32, co32, eo32⟩ := Kd.R_slice HO_6.out
     subst eo32
     go_wp2
     go_ret2
     exact ⟨_, _, by first | rfl | (simp [errW_none, errW_some] <;> rfl) | (simp [*, errW_none, errW_some] <;> rfl), by (with_reducible repeat (first | apply Kd.R_alloc | apply Kd.R_drewN | apply Kd.R_drew)); exact HO_6.out, by (with_reducible repeat (first | apply Kd.N_alloc | apply Kd.N_drewN | apply Kd.N_drew)); exact Kd.N_mono HO_4.out (fun _ hk => ⟨hk.1, hk.2.1⟩), by repeat (first | (with_reducible first | exact HI0.out | apply IsS98.alloc | apply IsS98.drewN | apply IsS98.drew | apply IsS98.set_1) | exact HI0.out), by repeat (first | (with_reducible first | exact HB.out | apply bwa | apply bwN | apply bw1 | refine bws ?_ (IsS98.ge HI0.out)) | exact HB.out), by repeat (first | (with_reducible first | exact HK.out | apply KeepBut.set_ | apply qa3 | apply qa4 | apply qa2) | exact HK.out)⟩

/-! ### spec_DrawMostLoan: function 22 -/
def spec_DrawMostLoan.j0 : Nat → List Int → List (S42) → List Int → Int → Option (List Int × (List (S42)) × Int × Int × List Int)
 | 0, _, _, _, _ => none
 | k + 1, x6, x7, x214000, x214001 => (spec_reader_pick.f k x214000 x214001 3).bind fun bt226 => ((spec_reader_one.f k x214000 bt226.2 (([7, 0, (-1)] : List Int))).bind fun bt231 => ((spec_reader_one.f k x214000 bt231.2 (([1, 2, 0] : List Int))).bind fun bt236 => ((some (([bt236.1] : List Int) : List Int)).bind fun y238 => ((spec_reader_pick.f k x214000 bt236.2 2).bind fun bt242 => (if bt242.1 = 0 then ((spec_reader_one.f k x214000 bt242.2 (([3, 0, 2] : List Int))).bind fun bt247 => (if y238.length < 17592186044416 then (some (x6, x7, bt226.1, bt231.1, (y238 ++ [bt247.1]))) else (none))) else (some (x6, x7, bt226.1, bt231.1, y238)))))))
def spec_DrawMostLoan.f (k : Nat) (l0 : List Int) : Option (List Int × (List (S42)) × Int × Int × List Int) := (spec_newReader.f l0).bind fun bt211 => ((spec_stakesOf.f k bt211.1 bt211.2).bind fun bt214 => ((spec_reader_pick.f k bt211.1 bt214.2.2 2).bind fun bt221 => (if bt221.1 = 0 then (if 0 ≤ (mn 1 (bt214.2.1.length : Int)) then (if (mn 1 (bt214.2.1.length : Int)) ≤ (bt214.2.1.length : Int) then (spec_DrawMostLoan.j0 k bt214.1 (bt214.2.1.take ((mn 1 (bt214.2.1.length : Int)) : Int).toNat) bt211.1 bt221.2) else (none)) else (none)) else (spec_DrawMostLoan.j0 k bt214.1 bt214.2.1 bt211.1 bt221.2))))
theorem spec_DrawMostLoan.mono_l : ∀ k, (∀ y0 y1 y2 y3, LeO (spec_DrawMostLoan.j0 k y0 y1 y2 y3) (spec_DrawMostLoan.j0 (k + 1) y0 y1 y2 y3))
 | 0 => fun _ _ _ _ r h => by simp [spec_DrawMostLoan.j0] at h
 | k + 1 => by
  have ih0 := spec_DrawMostLoan.mono_l k
  ·intro y0 y1 y2 y3
   unfold spec_DrawMostLoan.j0
   repeat' first
   | (with_reducible exact ih0 _ _ _ _)
   | (with_reducible exact spec_reader_one.mono _ _ _ _)
   | (with_reducible exact spec_reader_pick.mono _ _ _ _)
   | (with_reducible exact spec_stakesOf.mono _ _ _)
   | (with_reducible exact LeO.refl _)
   | (with_reducible exact LeO.none _)
   | (with_reducible refine LeO.ite ?_ ?_)
   | (with_reducible refine LeO.bind ?_ (fun _ => ?_))
   | exact ih0 _ _ _ _
   | exact spec_reader_one.mono _ _ _ _
   | exact spec_reader_pick.mono _ _ _ _
   | exact spec_stakesOf.mono _ _ _
   | exact LeO.none _
   | refine LeO.ite ?_ ?_
   | refine LeO.bind ?_ (fun _ => ?_)
theorem spec_DrawMostLoan.mono : ∀ a0 k, LeO (spec_DrawMostLoan.f k a0) (spec_DrawMostLoan.f (k + 1) a0) := by
 intro a0 k
 have ih0 := spec_DrawMostLoan.mono_l k
 unfold spec_DrawMostLoan.f
 repeat' first
   | (with_reducible exact ih0 _ _ _ _)
   | (with_reducible exact spec_reader_one.mono _ _ _ _)
   | (with_reducible exact spec_reader_pick.mono _ _ _ _)
   | (with_reducible exact spec_stakesOf.mono _ _ _)
   | (with_reducible exact LeO.refl _)
   | (with_reducible exact LeO.none _)
   | (with_reducible refine LeO.ite ?_ ?_)
   | (with_reducible refine LeO.bind ?_ (fun _ => ?_))
   | exact ih0 _ _ _ _
   | exact spec_reader_one.mono _ _ _ _
   | exact spec_reader_pick.mono _ _ _ _
   | exact spec_stakesOf.mono _ _ _
   | exact LeO.none _
   | refine LeO.ite ?_ ?_
   | refine LeO.bind ?_ (fun _ => ?_)
def spec_DrawMostLoan.T7 : Bool × List (List Nat × List Nat) := (true, [([], []), ([0], [0]), ([], []), ([], []), ([2, 3], [2, 3]), ([4], [4]), ([1, 5, 4], [1, 5]), ([0, 1, 2, 3, 4, 5, 6], []), ([7, 6, 6, 0, 1, 2, 3, 4, 5, 6], [6, 7])])
def spec_DrawMostLoan.B7 : List Nat := [0, 1, 0, 0, 12, 28, 63, 127, 255]
theorem spec_DrawMostLoan.tab7 : rtab .any (opsOf Try.f22 7) = spec_DrawMostLoan.T7 := by kernel_rfl
theorem spec_DrawMostLoan.bits7 : waitsOk spec_DrawMostLoan.T7.2 spec_DrawMostLoan.B7 = true := by kernel_rfl
set_option maxHeartbeats 8000000 in
set_option maxRecDepth 100000 in
theorem spec_DrawMostLoan.calls (k : Nat) (A0 : Option Addr) (c0 : Nat) (l0 : List Int) (r1 : List Int) (r2 : List (S42)) (r3 : Int) (r4 : Int) (r5 : List Int) (w : World) (hr0 : Kd.C (Kd.int .u8) w A0 l0.length l0) (hc0 : l0.length ≤ c0) (h : spec_DrawMostLoan.f k l0 = some (r1, r2, r3, r4, r5)) :
  Calls Try.prog 22 #[.slice A0 l0.length c0] w fun e w' => ∃ v0_ v1_ v4_ : Value, e = .returned (.tuple #[v0_, v1_, .agg #[.int .i64 r3, .int .i64 r4, v4_]]) ∧ Kd.R (Kd.int .i64) 3 w' w.heap.size (fun k_ => (w.heap.size ≤ k_)) v0_ r1 ∧ Kd.N k42 42 w' w.heap.size (fun k_ => (w.heap.size ≤ k_) ∧ some k_ ≠ (v0_ : Value).ownBlock) v1_ r2 ∧ Kd.V (Kd.int .i64) 3 w' w.heap.size (fun k_ => (w.heap.size ≤ k_) ∧ some k_ ≠ (v0_ : Value).ownBlock ∧ some k_ ≠ (v1_ : Value).ownBlock) v4_ r5 ∧ Below w.heap.size w w' := by
 have hu42 := Try.underlying42
 have HR0 := Ad.mk hr0
 have HC0 := Ad.mk hc0
 clear hr0 hc0
 have HB := Ad.mk (Below.refl w.heap.size w)
 have H : ((spec_newReader.f l0).bind fun bt211 => ((spec_stakesOf.f k bt211.1 bt211.2).bind fun bt214 => ((spec_reader_pick.f k bt211.1 bt214.2.2 2).bind fun bt221 => (if bt221.1 = 0 then (if 0 ≤ (mn 1 (bt214.2.1.length : Int)) then (if (mn 1 (bt214.2.1.length : Int)) ≤ (bt214.2.1.length : Int) then (spec_DrawMostLoan.j0 k bt214.1 (bt214.2.1.take ((mn 1 (bt214.2.1.length : Int)) : Int).toNat) bt211.1 bt221.2) else (none)) else (none)) else (spec_DrawMostLoan.j0 k bt214.1 bt214.2.1 bt211.1 bt221.2))))) = some (r1, r2, r3, r4, r5) := h
 clear h
 replace H := Option.bind_eq_some_iff.mp H
 obtain ⟨⟨t211, t212⟩, A20, H⟩ := H
 replace H : ((spec_stakesOf.f k t211 t212).bind fun bt214 => ((spec_reader_pick.f k t211 bt214.2.2 2).bind fun bt221 => (if bt221.1 = 0 then (if 0 ≤ (mn 1 (bt214.2.1.length : Int)) then (if (mn 1 (bt214.2.1.length : Int)) ≤ (bt214.2.1.length : Int) then (spec_DrawMostLoan.j0 k bt214.1 (bt214.2.1.take ((mn 1 (bt214.2.1.length : Int)) : Int).toNat) t211 bt221.2) else (none)) else (none)) else (spec_DrawMostLoan.j0 k bt214.1 bt214.2.1 t211 bt221.2)))) = some (r1, r2, r3, r4, r5) := H
 have A2 := Ad.mk A20
 clear A20
 replace H := Option.bind_eq_some_iff.mp H
 obtain ⟨⟨t214, t217, t220⟩, A30, H⟩ := H
 replace H : ((spec_reader_pick.f k t211 t220 2).bind fun bt221 => (if bt221.1 = 0 then (if 0 ≤ (mn 1 (t217.length : Int)) then (if (mn 1 (t217.length : Int)) ≤ (t217.length : Int) then (spec_DrawMostLoan.j0 k t214 (t217.take ((mn 1 (t217.length : Int)) : Int).toNat) t211 bt221.2) else (none)) else (none)) else (spec_DrawMostLoan.j0 k t214 t217 t211 bt221.2))) = some (r1, r2, r3, r4, r5) := H
 have A3 := Ad.mk A30
 clear A30
 replace H := Option.bind_eq_some_iff.mp H
 obtain ⟨⟨t221, t222⟩, A40, H⟩ := H
 replace H : (if t221 = 0 then (if 0 ≤ (mn 1 (t217.length : Int)) then (if (mn 1 (t217.length : Int)) ≤ (t217.length : Int) then (spec_DrawMostLoan.j0 k t214 (t217.take ((mn 1 (t217.length : Int)) : Int).toNat) t211 t222) else (none)) else (none)) else (spec_DrawMostLoan.j0 k t214 t217 t211 t222)) = some (r1, r2, r3, r4, r5) := H
 have A4 := Ad.mk A40
 clear A40
 have HC5 := Ad.mk H
 clear H
 go_enter Try.func22, Try.ntmps22
 go_upto_if 18 with (first | ((with_reducible refine gate_dst (N := 4) rfl ?_); refine box_event ?hg (N := 4) ?hd (cs := #[.int .i64 0, .int .i64 0, .slice none 0 0]) (t := 42) ?hr ?_; (case hd => rfl); (case hg => rfl); (case hr => first | (go_simp; done) | (go_simp; rfl)); intro gb210 hg w6 hbox hb; have n0_ := Ad.mk (qa5 (by repeat (first | (with_reducible first | exact HB.out | apply bwa | apply bwN | apply bw1) | exact HB.out)) hb); have n1_ := Ad.mk (hbox); have n2_ := Ad.mk ((by rw [hg]; exact (qa1 (by repeat (first | (with_reducible first | exact HB.out | apply bwa | apply bwN | apply bw1) | exact HB.out))) : w.heap.size ≤ gb210)); have n3_ := Ad.mk ((by rw [hg]; exact (qa1 (by repeat (first | (with_reducible first | exact HB.out | apply bwa | apply bwN | apply bw1) | exact HB.out))) : w.heap.size ≤ gb210)); clear HB; have HB := n0_; have BK210 := n1_; have GW210 := n2_; have GE210 := n3_; clear n0_ n1_ n2_ n3_; clear hb hbox hg) | ((with_reducible refine qa7 (f := 56) rfl ?_); refine goesL_ (some 10) rfl rfl Try.func56 (by kernel_rfl) rfl #[.slice A0 l0.length c0] rfl (by (try simp only [List.map_toArray, List.map_cons, List.map_nil]); first | done | rfl | (simp only [List.length_drop, List.length_take]; rfl)) ?_; (with_reducible refine (spec_newReader.calls _ _ l0 t211 t212 w _ ?side1 ?side2 ?side3 A2.out).mono ?_); (case side1 => repeat (first | (with_reducible first | exact HB.out | apply bwa | apply bwN | apply bw1 | refine bws ?_ GE210.out) | exact HB.out)); (case side2 => exact HR0.out); (case side3 => exact HC0.out); rintro e w7 ⟨g213, rfl, hi, hb, hb2⟩; refine ⟨_, rfl, ?_⟩; have n0_ := Ad.mk (qa6 (g := gb210) (o := .cells #[.int .i64 0, .int .i64 0, .slice none 0 0] 42 (0, 0)) (by (with_reducible repeat (first | refine bkN ?_ _ | refine bkd ?_ | refine bka ?_ _)); exact BK210.out) hb2); have n1_ := Ad.mk (hb); have n2_ := Ad.mk (hi); have n3_ := Ad.mk (IsS98.ne_blk hi (qa6 (g := gb210) (o := .cells #[.int .i64 0, .int .i64 0, .slice none 0 0] 42 (0, 0)) (by (with_reducible repeat (first | refine bkN ?_ _ | refine bkd ?_ | refine bka ?_ _)); exact BK210.out) hb2) (by decide)); have n4_ := Ad.mk (Ne.symm (IsS98.ne_blk hi (qa6 (g := gb210) (o := .cells #[.int .i64 0, .int .i64 0, .slice none 0 0] 42 (0, 0)) (by (with_reducible repeat (first | refine bkN ?_ _ | refine bkd ?_ | refine bka ?_ _)); exact BK210.out) hb2) (by decide))); clear BK210; clear HB; have BK210 := n0_; have HB := n1_; have HI213 := n2_; have NB213_210 := n3_; have NB210_213 := n4_; clear n0_ n1_ n2_ n3_ n4_; (try clear hb); (try clear hb2); (try clear hk); (try clear hi)) | ((with_reducible refine qa7 (f := 57) rfl ?_); refine goesL_ (some 13) rfl rfl Try.func57 (by kernel_rfl) rfl #[.pointer (some ⟨g213, 0, none⟩)] rfl (by (try simp only [List.map_toArray, List.map_cons, List.map_nil]); first | done | rfl | (simp only [List.length_drop, List.length_take]; rfl)) ?_; (with_reducible refine (spec_stakesOf.calls k g213 t211 t212 t214 t217 t220 w _ ?side1 ?side2 A3.out).mono ?_); (case side1 => repeat (first | (with_reducible first | exact HI213.out | apply IsS98.alloc | apply IsS98.drewN | apply IsS98.drew | apply IsS98.set_1 | refine IsS98.far ?_ NB213_210.out _) | exact HI213.out)); (case side2 => repeat (first | (with_reducible first | exact HB.out | apply bwa | apply bwN | apply bw1 | refine bws ?_ (IsS98.ge HI213.out) | refine bws ?_ GE210.out) | exact HB.out)); rintro e w8 ⟨v215, v218, rfl, ho0, ho1, hi, hb, hk⟩; refine ⟨_, rfl, ?_⟩; have n0_ := Ad.mk (KeepBut.blk hk (g' := gb210) (o := .cells #[.int .i64 0, .int .i64 0, .slice none 0 0] 42 (0, 0)) (by (with_reducible repeat (first | refine bkN ?_ _ | refine bkd ?_ | refine bka ?_ _)); exact BK210.out) NB210_213.out (by simp)); have n1_ := Ad.mk (Kd.R_lower (Kd.R_newM (M := fun k_ => (w.heap.size ≤ k_)) (Kd.R_mono (ok' := fun k_ => True) ho0 (fun _ hk_ => trivial)) (qa1 (by repeat (first | (with_reducible first | exact HB.out | apply bwa | apply bwN | apply bw1 | refine bws ?_ (IsS98.ge HI213.out) | refine bws ?_ GE210.out) | exact HB.out))) (fun k_ h_ => h_)) (qa1 (by repeat (first | (with_reducible first | exact HB.out | apply bwa | apply bwN | apply bw1 | refine bws ?_ (IsS98.ge HI213.out) | refine bws ?_ GE210.out) | exact HB.out)))); have n2_ := Ad.mk (Kd.N_lower (Kd.N_mono (ok' := fun k_ => (w.heap.size ≤ k_) ∧ some k_ ≠ (v215 : Value).ownBlock ∧ k_ ≠ gb210 ∧ k_ ≠ g213) ho1 (fun k_ hk_ => ⟨(Nat.le_trans (qa1 (by repeat (first | (with_reducible first | exact HB.out | apply bwa | apply bwN | apply bw1 | refine bws ?_ (IsS98.ge HI213.out) | refine bws ?_ GE210.out) | exact HB.out))) hk_.1), hk_.2, (Kd.freshB (g := gb210) (o := .cells #[.int .i64 0, .int .i64 0, .slice none 0 0] 42 (0, 0)) (by (with_reducible repeat (first | refine bkN ?_ _ | refine bkd ?_ | refine bka ?_ _)); exact BK210.out) k_ hk_.1), (IsS98.fresh (by repeat (first | (with_reducible first | exact HI213.out | apply IsS98.alloc | apply IsS98.drewN | apply IsS98.drew | apply IsS98.set_1 | refine IsS98.far ?_ NB213_210.out _) | exact HI213.out)) k_ hk_.1)⟩)) (qa1 (by repeat (first | (with_reducible first | exact HB.out | apply bwa | apply bwN | apply bw1 | refine bws ?_ (IsS98.ge HI213.out) | refine bws ?_ GE210.out) | exact HB.out)))); have n3_ := Ad.mk (hb); have n4_ := Ad.mk (hi); clear BK210; clear HB; clear HI213; have BK210 := n0_; have HO216 := n1_; have HO219 := n2_; have HB := n3_; have HI213 := n4_; clear n0_ n1_ n2_ n3_ n4_; (try clear hb); (try clear hb2); (try clear hk); (try clear hi); (try clear ho0); (try clear ho1)) | ((with_reducible refine qa7 (f := 58) rfl ?_); refine goesL_ (some 17) rfl rfl Try.func58 (by kernel_rfl) rfl #[.pointer (some ⟨g213, 0, none⟩), .int .i64 2] rfl (by (try simp only [List.map_toArray, List.map_cons, List.map_nil]); first | done | rfl | (simp only [List.length_drop, List.length_take]; rfl)) ?_; (with_reducible refine (spec_reader_pick.calls k g213 t211 t220 2 t221 t222 w _ ?side1 ?side2 A4.out).mono ?_); (case side1 => repeat (first | (with_reducible first | exact HI213.out | apply IsS98.alloc | apply IsS98.drewN | apply IsS98.drew | apply IsS98.set_1 | refine IsS98.far ?_ NB213_210.out _) | exact HI213.out)); (case side2 => repeat (first | (with_reducible first | exact HB.out | apply bwa | apply bwN | apply bw1 | refine bws ?_ (IsS98.ge HI213.out) | refine bws ?_ GE210.out) | exact HB.out)); rintro e w9 ⟨rfl, hi, hb, hk⟩; refine ⟨_, rfl, ?_⟩; have n0_ := Ad.mk (KeepBut.blk hk (g' := gb210) (o := .cells #[.int .i64 0, .int .i64 0, .slice none 0 0] 42 (0, 0)) (by (with_reducible repeat (first | refine bkN ?_ _ | refine bkd ?_ | refine bka ?_ _)); exact BK210.out) NB210_213.out (by simp)); have n1_ := Ad.mk (Kd.R_mono (Kd.R_keep (IsS98.apart (show IsS98 w _ g213 t211 t220 from by repeat (first | (with_reducible first | exact HI213.out | apply IsS98.alloc | apply IsS98.drewN | apply IsS98.drew | apply IsS98.set_1 | refine IsS98.far ?_ NB213_210.out _) | exact HI213.out)) (by (with_reducible repeat (first | apply Kd.R_alloc | apply Kd.R_drewN | apply Kd.R_drew)); exact HO216.out) (by decide)) hk (fun _ h => h.2)) (fun _ h => h.1)); have n2_ := Ad.mk (Kd.N_mono (Kd.N_keep (Kd.N_mono (ok := fun k_ => (((w.heap.size ≤ k_)) ∧ (some k_ ≠ (v215 : Value).ownBlock ∧ (k_ ≠ gb210 ∧ k_ ≠ g213)))) (by (with_reducible repeat (first | apply Kd.N_alloc | apply Kd.N_drewN | apply Kd.N_drew)); exact HO219.out) (fun k_ hk_ => (⟨hk_, hk_.2.2.2⟩ : _ ∧ k_ ≠ g213))) hk (fun _ h => h.2)) (fun _ h => h.1)); have n3_ := Ad.mk (hb); have n4_ := Ad.mk (hi); clear BK210; clear HO216; clear HO219; clear HB; clear HI213; have BK210 := n0_; have HO216 := n1_; have HO219 := n2_; have HB := n3_; have HI213 := n4_; clear n0_ n1_ n2_ n3_ n4_; (try clear hb); (try clear hb2); (try clear hk); (try clear hi)))
 (try simp only [Act.put, List.setIfInBounds_toArray, List.set_cons_zero, List.set_cons_succ])
 go_cut [7] (fun v7 wc => ∃ (kq : Nat) (x7_4 : List (S42)), Ad (spec_DrawMostLoan.j0 kq t214 x7_4 t211 t222 = some (r1, r2, r3, r4, r5)) ∧ Ad (kq ≤ k) ∧ Ad (Kd.R (Kd.int .i64) 3 wc w.heap.size (fun k_ => (w.heap.size ≤ k_)) v215 t214) ∧ Ad (Kd.N k42 42 wc w.heap.size (fun k_ => (w.heap.size ≤ k_) ∧ some k_ ≠ (v215 : Value).ownBlock ∧ k_ ≠ gb210 ∧ k_ ≠ g213) v7 x7_4) ∧ Ad (wc.heap[gb210]? = some (.cells #[.int .i64 0, .int .i64 0, (.slice none 0 0)] 42 (0, 0))) ∧ Ad (IsS98 w wc g213 t211 t222) ∧ Ad (Below w.heap.size w wc))
 case first =>
  have H := HC5.out
  clear HC5
  by_cases c10 : t221 = 0
  ·rw [if_pos c10] at H
   have c10b0 : (t221 == 0) = true := beq_iff_eq.mpr c10
   have c10b1 : (t221 != 0) = false := bne_eq_false_iff_eq.mpr c10
   clear c10
   (first | rw [c10b0] | (simp only [qa8, qa9]; rw [c10b0]) | skip)
   obtain ⟨ji11, hji11⟩ : ∃ j_ : Int, (mn 1 (t217.length : Int)) = j_ := ⟨_, rfl⟩
   replace H : (if 0 ≤ (ji11) then (if (ji11) ≤ (t217.length : Int) then (spec_DrawMostLoan.j0 k t214 (t217.take ((ji11) : Int).toNat) t211 t222) else (none)) else (none)) = some (r1, r2, r3, r4, r5) := by first | (rw [hji11] at H; exact H) | (simp only [hji11] at H ⊢; exact H)
   (try (have hji11h : ji11 ≤ 1 := by (rw [← hji11]; unfold mn; (repeat' split) <;> omega)))
   (try (have hji11g : ji11 ≤ 64 := by omega))
   (try (have hji11l : 0 ≤ ji11 := by (rw [← hji11]; unfold mn; (repeat' split) <;> omega)))
   (try (have hji11m : 0 ≤ ji11 := by omega))
   have hji11_ : (if (t217.length : Int) < 1 then (t217.length : Int) else 1) = ji11 := hji11
   by_cases c12 : 0 ≤ (ji11)
   ·rw [if_pos c12] at H
    have c12b0 := eq_true c12
    have c12b1 : decide (0 ≤ (ji11)) = true := decide_eq_true c12
    clear c12
    by_cases c13 : (ji11) ≤ (t217.length : Int)
    ·rw [if_pos c13] at H
     have c13b0 := eq_true c13
     have c13b1 : decide ((ji11) ≤ (t217.length : Int)) = true := decide_eq_true c13
     clear c13
     obtain ⟨y223, hy223⟩ : ∃ y_ : List (S42), y_ = (t217.take ((ji11) : Int).toNat) := ⟨_, rfl⟩
     replace H : (spec_DrawMostLoan.j0 k t214 y223 t211 t222) = some (r1, r2, r3, r4, r5) := by first | (rw [hy223]; with_reducible exact H) | (have H2_ := (Option.bind_some _ _).symm.trans H; rw [hy223]; with_reducible exact H2_) | (have H2_ := (Option.bind_some _ _).symm.trans H; with_reducible exact H2_) | with_reducible exact H | (rw [hy223]; exact H) | exact H
     have Ny223 := Ad.mk hy223
     clear hy223
     have H' := Ad.mk H
     clear H
     obtain ⟨Ao14, co14, eo14⟩ := Kd.N_slice HO219.out
     subst eo14
     have q15 : ((ji11) : Int) ≤ ((t217.length : Int) : Int) := of_decide_eq_true (by first | (with_reducible assumption) | assumption)
     obtain ⟨i015, hi015, _, hsz15, _⟩ := info_parts info42
     have hcut15 := cut_to (P := Try.prog) 34 42 .i64 Try.underlying34 hi015 Ao14 t217.length co14 (ji11) (of_decide_eq_true (by first | (with_reducible assumption) | assumption)) q15 (Kd.N_reads' HO219.out).2.1
     have hr15 := Kd.N_take (m := ((ji11) : Int).toNat) HO219.out (by omega)
     have hy15 : y223.length = ((ji11) : Int).toNat := (by rw [Ny223.out, List.length_take]; omega)
     rw [← Ny223.out] at hr15
     rw [← hy15] at hr15 hcut15
     clear hy15 hi015 hsz15 HO219
     have HO225 := Ad.mk hr15
     clear hr15
     replace q15 := eq_true q15
     go_wp2
     go_meet
     case rel => exact ⟨_, (y223), H', ⟨by first | omega | exact Nat.le_refl _⟩, ⟨by (with_reducible repeat (first | apply Kd.R_alloc | apply Kd.R_drewN | apply Kd.R_drew)); exact Kd.R_mono HO216.out (fun _ hk => hk.1)⟩, ⟨by (with_reducible repeat (first | apply Kd.N_alloc | apply Kd.N_drewN | apply Kd.N_drew)); exact HO225.out⟩, ⟨by (with_reducible repeat (first | refine bkN ?_ _ | refine bkd ?_ | refine bka ?_ _)); exact BK210.out⟩, ⟨by repeat (first | (with_reducible first | exact HI213.out | apply IsS98.alloc | apply IsS98.drewN | apply IsS98.drew | apply IsS98.set_1 | refine IsS98.far ?_ NB213_210.out _) | exact HI213.out)⟩, ⟨by repeat (first | (with_reducible first | exact HB.out | apply bwa | apply bwN | apply bw1 | refine bws ?_ (IsS98.ge HI213.out) | refine bws ?_ GE210.out) | exact HB.out)⟩⟩
    ·rw [if_neg c13] at H
     exact absurd H (by simp)
   ·rw [if_neg c12] at H
    exact absurd H (by simp)
  ·rw [if_neg c10] at H
   have c10b0 : (t221 == 0) = false := beq_eq_false_iff_ne.mpr c10
   have c10b1 : (t221 != 0) = true := bne_iff_ne.mpr c10
   (first | rw [c10b0] | (simp only [qa8, qa9]; rw [c10b0]) | skip)
   have H' := Ad.mk H
   clear H
   go_wp2
   go_meet
   case rel => exact ⟨_, (t217), H', ⟨by first | omega | exact Nat.le_refl _⟩, ⟨by (with_reducible repeat (first | apply Kd.R_alloc | apply Kd.R_drewN | apply Kd.R_drew)); exact Kd.R_mono HO216.out (fun _ hk => hk.1)⟩, ⟨by (with_reducible repeat (first | apply Kd.N_alloc | apply Kd.N_drewN | apply Kd.N_drew)); exact HO219.out⟩, ⟨by (with_reducible repeat (first | refine bkN ?_ _ | refine bkd ?_ | refine bka ?_ _)); exact BK210.out⟩, ⟨by repeat (first | (with_reducible first | exact HI213.out | apply IsS98.alloc | apply IsS98.drewN | apply IsS98.drew | apply IsS98.set_1 | refine IsS98.far ?_ NB213_210.out _) | exact HI213.out)⟩, ⟨by repeat (first | (with_reducible first | exact HB.out | apply bwa | apply bwN | apply bw1 | refine bws ?_ (IsS98.ge HI213.out) | refine bws ?_ GE210.out) | exact HB.out)⟩⟩
 case rest =>
  clear HC5
  try clear c1
  try clear q1
  try clear c2
  try clear p2
  try clear c5
  try clear c10
  try clear c10b0
  try clear c10b1
  try clear c12
  try clear c12b0
  try clear c12b1
  try clear c13
  try clear c13b0
  try clear c13b1
  try clear q15
  try clear q15
  obtain ⟨kq, x7_4, HA, HJ4, HO_6, HO_7, BK210, HI213, HB⟩ := hcut
  cases kq with
  | zero => exact absurd HA.out (by simp [spec_DrawMostLoan.j0])
  | succ kj4 =>
   have H := HA.out
   clear HA
   simp only [spec_DrawMostLoan.j0] at H
   replace H := Option.bind_eq_some_iff.mp H
   obtain ⟨⟨t226, t227⟩, A160, H⟩ := H
   replace H : ((spec_reader_one.f kj4 t211 t227 (([7, 0, (-1)] : List Int))).bind fun bt231 => ((spec_reader_one.f kj4 t211 bt231.2 (([1, 2, 0] : List Int))).bind fun bt236 => ((some (([bt236.1] : List Int) : List Int)).bind fun y238 => ((spec_reader_pick.f kj4 t211 bt236.2 2).bind fun bt242 => (if bt242.1 = 0 then ((spec_reader_one.f kj4 t211 bt242.2 (([3, 0, 2] : List Int))).bind fun bt247 => (if y238.length < 17592186044416 then (some (t214, x7_4, t226, bt231.1, (y238 ++ [bt247.1]))) else (none))) else (some (t214, x7_4, t226, bt231.1, y238))))))) = some (r1, r2, r3, r4, r5) := H
   have A16 := Ad.mk A160
   clear A160
   obtain ⟨y228, hy228⟩ : ∃ y_ : List Int, y_ = (([7, 0, (-1)] : List Int)) := ⟨_, rfl⟩
   replace H : ((spec_reader_one.f kj4 t211 t227 y228).bind fun bt231 => ((spec_reader_one.f kj4 t211 bt231.2 (([1, 2, 0] : List Int))).bind fun bt236 => ((some (([bt236.1] : List Int) : List Int)).bind fun y238 => ((spec_reader_pick.f kj4 t211 bt236.2 2).bind fun bt242 => (if bt242.1 = 0 then ((spec_reader_one.f kj4 t211 bt242.2 (([3, 0, 2] : List Int))).bind fun bt247 => (if y238.length < 17592186044416 then (some (t214, x7_4, t226, bt231.1, (y238 ++ [bt247.1]))) else (none))) else (some (t214, x7_4, t226, bt231.1, y238))))))) = some (r1, r2, r3, r4, r5) := by first | (rw [hy228]; with_reducible exact H) | (have H2_ := (Option.bind_some _ _).symm.trans H; rw [hy228]; with_reducible exact H2_) | (have H2_ := (Option.bind_some _ _).symm.trans H; with_reducible exact H2_) | with_reducible exact H | (rw [hy228]; exact H) | exact H
   have Ny228 := Ad.mk hy228
   clear hy228
   replace H := Option.bind_eq_some_iff.mp H
   obtain ⟨⟨t231, t232⟩, A170, H⟩ := H
   replace H : ((spec_reader_one.f kj4 t211 t232 (([1, 2, 0] : List Int))).bind fun bt236 => ((some (([bt236.1] : List Int) : List Int)).bind fun y238 => ((spec_reader_pick.f kj4 t211 bt236.2 2).bind fun bt242 => (if bt242.1 = 0 then ((spec_reader_one.f kj4 t211 bt242.2 (([3, 0, 2] : List Int))).bind fun bt247 => (if y238.length < 17592186044416 then (some (t214, x7_4, t226, t231, (y238 ++ [bt247.1]))) else (none))) else (some (t214, x7_4, t226, t231, y238)))))) = some (r1, r2, r3, r4, r5) := H
   have A17 := Ad.mk A170
   clear A170
   obtain ⟨y233, hy233⟩ : ∃ y_ : List Int, y_ = (([1, 2, 0] : List Int)) := ⟨_, rfl⟩
   replace H : ((spec_reader_one.f kj4 t211 t232 y233).bind fun bt236 => ((some (([bt236.1] : List Int) : List Int)).bind fun y238 => ((spec_reader_pick.f kj4 t211 bt236.2 2).bind fun bt242 => (if bt242.1 = 0 then ((spec_reader_one.f kj4 t211 bt242.2 (([3, 0, 2] : List Int))).bind fun bt247 => (if y238.length < 17592186044416 then (some (t214, x7_4, t226, t231, (y238 ++ [bt247.1]))) else (none))) else (some (t214, x7_4, t226, t231, y238)))))) = some (r1, r2, r3, r4, r5) := by first | (rw [hy233]; with_reducible exact H) | (have H2_ := (Option.bind_some _ _).symm.trans H; rw [hy233]; with_reducible exact H2_) | (have H2_ := (Option.bind_some _ _).symm.trans H; with_reducible exact H2_) | with_reducible exact H | (rw [hy233]; exact H) | exact H
   have Ny233 := Ad.mk hy233
   clear hy233
   replace H := Option.bind_eq_some_iff.mp H
   obtain ⟨⟨t236, t237⟩, A180, H⟩ := H
   replace H : ((some (([t236] : List Int) : List Int)).bind fun y238 => ((spec_reader_pick.f kj4 t211 t237 2).bind fun bt242 => (if bt242.1 = 0 then ((spec_reader_one.f kj4 t211 bt242.2 (([3, 0, 2] : List Int))).bind fun bt247 => (if y238.length < 17592186044416 then (some (t214, x7_4, t226, t231, (y238 ++ [bt247.1]))) else (none))) else (some (t214, x7_4, t226, t231, y238))))) = some (r1, r2, r3, r4, r5) := H
   have A18 := Ad.mk A180
   clear A180
   obtain ⟨y238, hy238⟩ : ∃ y_ : List Int, y_ = (([t236] : List Int)) := ⟨_, rfl⟩
   replace H : ((spec_reader_pick.f kj4 t211 t237 2).bind fun bt242 => (if bt242.1 = 0 then ((spec_reader_one.f kj4 t211 bt242.2 (([3, 0, 2] : List Int))).bind fun bt247 => (if y238.length < 17592186044416 then (some (t214, x7_4, t226, t231, (y238 ++ [bt247.1]))) else (none))) else (some (t214, x7_4, t226, t231, y238)))) = some (r1, r2, r3, r4, r5) := by first | (rw [hy238]; with_reducible exact H) | (have H2_ := (Option.bind_some _ _).symm.trans H; rw [hy238]; with_reducible exact H2_) | (have H2_ := (Option.bind_some _ _).symm.trans H; with_reducible exact H2_) | with_reducible exact H | (rw [hy238]; exact H) | exact H
   have Ny238 := Ad.mk hy238
   clear hy238
   replace H := Option.bind_eq_some_iff.mp H
   obtain ⟨⟨t242, t243⟩, A190, H⟩ := H
   replace H : (if t242 = 0 then ((spec_reader_one.f kj4 t211 t243 (([3, 0, 2] : List Int))).bind fun bt247 => (if y238.length < 17592186044416 then (some (t214, x7_4, t226, t231, (y238 ++ [bt247.1]))) else (none))) else (some (t214, x7_4, t226, t231, y238))) = some (r1, r2, r3, r4, r5) := H
   have A19 := Ad.mk A190
   clear A190
   by_cases c20 : t242 = 0
   ·rw [if_pos c20] at H
    have c20b0 : (t242 == 0) = true := beq_iff_eq.mpr c20
    have c20b1 : (t242 != 0) = false := bne_eq_false_iff_eq.mpr c20
    clear c20
    obtain ⟨y244, hy244⟩ : ∃ y_ : List Int, y_ = (([3, 0, 2] : List Int)) := ⟨_, rfl⟩
    replace H : ((spec_reader_one.f kj4 t211 t243 y244).bind fun bt247 => (if y238.length < 17592186044416 then (some (t214, x7_4, t226, t231, (y238 ++ [bt247.1]))) else (none))) = some (r1, r2, r3, r4, r5) := by first | (rw [hy244]; with_reducible exact H) | (have H2_ := (Option.bind_some _ _).symm.trans H; rw [hy244]; with_reducible exact H2_) | (have H2_ := (Option.bind_some _ _).symm.trans H; with_reducible exact H2_) | with_reducible exact H | (rw [hy244]; exact H) | exact H
    have Ny244 := Ad.mk hy244
    clear hy244
    replace H := Option.bind_eq_some_iff.mp H
    obtain ⟨⟨t247, t248⟩, A210, H⟩ := H
    replace H : (if y238.length < 17592186044416 then (some (t214, x7_4, t226, t231, (y238 ++ [t247]))) else (none)) = some (r1, r2, r3, r4, r5) := H
    have A21 := Ad.mk A210
    clear A210
    by_cases c22 : y238.length < 17592186044416
    ·rw [if_pos c22] at H
     have LMc22 := Ad.mk c22
     clear c22
     obtain ⟨y249, hy249⟩ : ∃ y_ : List Int, y_ = (y238 ++ [t247]) := ⟨_, rfl⟩
     replace H : (some (t214, x7_4, t226, t231, y249)) = some (r1, r2, r3, r4, r5) := by first | (rw [hy249]; with_reducible exact H) | (have H2_ := (Option.bind_some _ _).symm.trans H; rw [hy249]; with_reducible exact H2_) | (have H2_ := (Option.bind_some _ _).symm.trans H; with_reducible exact H2_) | with_reducible exact H | (rw [hy249]; exact H) | exact H
     have Ny249 := Ad.mk hy249
     clear hy249
     simp only [Option.some.injEq, Prod.mk.injEq] at H
     obtain ⟨rfl, rfl, rfl, rfl, rfl⟩ := H
     try go_wp2_with (first | ((with_reducible refine qa7 (f := 58) rfl ?_); refine goesL_ (some 25) rfl rfl Try.func58 (by kernel_rfl) rfl #[.pointer (some ⟨g213, 0, none⟩), .int .i64 3] rfl (by (try simp only [List.map_toArray, List.map_cons, List.map_nil]); first | done | rfl | (simp only [List.length_drop, List.length_take]; rfl)) ?_; (with_reducible refine (spec_reader_pick.calls kj4 g213 t211 t222 3 t226 t227 w _ ?side1 ?side2 A16.out).mono ?_); (case side1 => repeat (first | (with_reducible first | exact HI213.out | apply IsS98.alloc | apply IsS98.drewN | apply IsS98.drew | apply IsS98.set_1 | refine IsS98.far ?_ NB213_210.out _) | exact HI213.out)); (case side2 => repeat (first | (with_reducible first | exact HB.out | apply bwa | apply bwN | apply bw1 | refine bws ?_ (IsS98.ge HI213.out) | refine bws ?_ GE210.out) | exact HB.out)); rintro e w23 ⟨rfl, hi, hb, hk⟩; refine ⟨_, rfl, ?_⟩; have n0_ := Ad.mk (Kd.R_mono (Kd.R_keep (IsS98.apart (show IsS98 w _ g213 t211 t222 from by repeat (first | (with_reducible first | exact HI213.out | apply IsS98.alloc | apply IsS98.drewN | apply IsS98.drew | apply IsS98.set_1 | refine IsS98.far ?_ NB213_210.out _) | exact HI213.out)) (by (with_reducible repeat (first | apply Kd.R_alloc | apply Kd.R_drewN | apply Kd.R_drew)); exact HO_6.out) (by decide)) hk (fun _ h => h.2)) (fun _ h => h.1)); have n1_ := Ad.mk (Kd.N_mono (Kd.N_keep (Kd.N_mono (ok := fun k_ => (((w.heap.size ≤ k_)) ∧ (some k_ ≠ (v215 : Value).ownBlock ∧ (k_ ≠ gb210 ∧ k_ ≠ g213)))) (by (with_reducible repeat (first | apply Kd.N_alloc | apply Kd.N_drewN | apply Kd.N_drew)); exact HO_7.out) (fun k_ hk_ => (⟨hk_, hk_.2.2.2⟩ : _ ∧ k_ ≠ g213))) hk (fun _ h => h.2)) (fun _ h => h.1)); have n2_ := Ad.mk (KeepBut.blk hk (g' := gb210) (o := .cells #[.int .i64 0, .int .i64 0, .slice none 0 0] 42 (0, 0)) (by (with_reducible repeat (first | refine bkN ?_ _ | refine bkd ?_ | refine bka ?_ _)); exact BK210.out) NB210_213.out (by simp)); have n3_ := Ad.mk (hb); have n4_ := Ad.mk (hi); clear HO_6; clear HO_7; clear BK210; clear HB; clear HI213; have HO_6 := n0_; have HO_7 := n1_; have BK210 := n2_; have HB := n3_; have HI213 := n4_; clear n0_ n1_ n2_ n3_ n4_; (try clear hb); (try clear hb2); (try clear hk); (try clear hi)) | ((with_reducible refine gate_dst (N := 27) rfl ?_); refine Kd.R_lit (Kd.int .i64) _ 3 ?hg (N := 27) ?hd (xs := ([7, 0, (-1)] : List Int)) (inner := [.int .i64 7, .int .i64 0, .int .i64 (-1)]) (ok := fun _ => True) (okp := fun _ => True) ?hr ?hp (fun _ hk => hk) trivial (Below.refl _ _) (Nat.le_refl _) (by simp) ?_; (case hd => rfl); (case hg => rfl); (case hr => first | (go_simp; done) | (go_simp; rfl)); (case hp => exact (Reps.one (show Kd.M (Kd.int .i64) _ _ _ 7 [.int .i64 7] from rfl) (Reps.one (show Kd.M (Kd.int .i64) _ _ _ 0 [.int .i64 0] from rfl) (Reps.one (show Kd.M (Kd.int .i64) _ _ _ (-1) [.int .i64 (-1)] from rfl) (Reps.none _ _))))); intro v229 w24 ho25 hb hg_ hnew_; clear hg_ hnew_; (first | rw [← Ny228.out] at ho25 | (simp only [Int.reduceToNat] at ho25; rw [← Ny228.out] at ho25)); have n0_ := Ad.mk (Kd.R_elder' (by (with_reducible repeat (first | apply Kd.R_alloc | apply Kd.R_drewN | apply Kd.R_drew)); exact HO_6.out) (Kd.R_base ho25) hb); have n1_ := Ad.mk (Kd.N_elder' (by (with_reducible repeat (first | apply Kd.N_alloc | apply Kd.N_drewN | apply Kd.N_drew)); exact HO_7.out) (Kd.R_base ho25) hb); have n2_ := Ad.mk (Kd.R_lower (Kd.R_new' (Kd.R_newM (M := fun k_ => (w.heap.size ≤ k_)) ho25 (qa1 (by repeat (first | (with_reducible first | exact HB.out | apply bwa | apply bwN | apply bw1 | refine bws ?_ (IsS98.ge HI213.out) | refine bws ?_ GE210.out) | exact HB.out))) (fun k_ h_ => h_)) (Kd.R_lt (by (with_reducible repeat (first | apply Kd.R_alloc | apply Kd.R_drewN | apply Kd.R_drew)); exact HO_6.out))) (qa1 (by repeat (first | (with_reducible first | exact HB.out | apply bwa | apply bwN | apply bw1 | refine bws ?_ (IsS98.ge HI213.out) | refine bws ?_ GE210.out) | exact HB.out)))); have n3_ := Ad.mk (qa6 (g := gb210) (o := .cells #[.int .i64 0, .int .i64 0, .slice none 0 0] 42 (0, 0)) (by (with_reducible repeat (first | refine bkN ?_ _ | refine bkd ?_ | refine bka ?_ _)); exact BK210.out) hb); have n4_ := Ad.mk (IsS98.below (by repeat (first | (with_reducible first | exact HI213.out | apply IsS98.alloc | apply IsS98.drewN | apply IsS98.drew | apply IsS98.set_1 | refine IsS98.far ?_ NB213_210.out _) | exact HI213.out)) hb); have n5_ := Ad.mk (qa5 (by repeat (first | (with_reducible first | exact HB.out | apply bwa | apply bwN | apply bw1 | refine bws ?_ (IsS98.ge HI213.out) | refine bws ?_ GE210.out) | exact HB.out)) hb); clear HO_6; clear HO_7; clear BK210; clear HI213; clear HB; have HO_6 := n0_; have HO_7 := n1_; have HO230 := n2_; have BK210 := n3_; have HI213 := n4_; have HB := n5_; clear n0_ n1_ n2_ n3_ n4_ n5_; clear hb ho25; obtain ⟨Ao26, co26, eo26⟩ := Kd.R_slice HO230.out; subst eo26) | ((with_reducible refine qa7 (f := 59) rfl ?_); refine goesL_ (some 28) rfl rfl Try.func59 (by kernel_rfl) rfl #[.pointer (some ⟨g213, 0, none⟩), .slice Ao26 y228.length co26] rfl (by (try simp only [List.map_toArray, List.map_cons, List.map_nil]); first | done | rfl | (simp only [List.length_drop, List.length_take]; rfl)) ?_; (with_reducible refine (spec_reader_one.calls kj4 g213 t211 t227 _ _ y228 t231 t232 w _ ?side1 ?side2 ?side3 ?side4 ?side5 A17.out).mono ?_); (case side1 => repeat (first | (with_reducible first | exact HI213.out | apply IsS98.alloc | apply IsS98.drewN | apply IsS98.drew | apply IsS98.set_1 | refine IsS98.far ?_ NB213_210.out _) | exact HI213.out)); (case side2 => repeat (first | (with_reducible first | exact HB.out | apply bwa | apply bwN | apply bw1 | refine bws ?_ (IsS98.ge HI213.out) | refine bws ?_ GE210.out) | exact HB.out)); (case side3 => repeat (first | exact (Kd.R_reads' HO230.out).2.2 | (with_reducible refine Kd.C_alloc ?_ _) | (with_reducible refine Kd.C_drewN ?_ _) | (with_reducible refine Kd.C_drew ?_))); (case side4 => exact (Kd.R_reads' HO230.out).2.1); (case side5 => exact far_slice (IsS98.own_ne HI213.out HO230.out (by decide))); rintro e w27 ⟨rfl, hi, hb, hk⟩; refine ⟨_, rfl, ?_⟩; have n0_ := Ad.mk (Kd.R_mono (Kd.R_keep (IsS98.apart (show IsS98 w _ g213 t211 t227 from by repeat (first | (with_reducible first | exact HI213.out | apply IsS98.alloc | apply IsS98.drewN | apply IsS98.drew | apply IsS98.set_1 | refine IsS98.far ?_ NB213_210.out _) | exact HI213.out)) (by (with_reducible repeat (first | apply Kd.R_alloc | apply Kd.R_drewN | apply Kd.R_drew)); exact HO_6.out) (by decide)) hk (fun _ h => h.2)) (fun _ h => h.1)); have n1_ := Ad.mk (Kd.N_mono (Kd.N_keep (Kd.N_mono (ok := fun k_ => ((((w.heap.size ≤ k_)) ∧ (some k_ ≠ (v215 : Value).ownBlock ∧ (k_ ≠ gb210 ∧ k_ ≠ g213))) ∧ some k_ ≠ (.slice Ao26 y228.length co26 : Value).ownBlock)) (by (with_reducible repeat (first | apply Kd.N_alloc | apply Kd.N_drewN | apply Kd.N_drew)); exact HO_7.out) (fun k_ hk_ => (⟨hk_, hk_.1.2.2.2⟩ : _ ∧ k_ ≠ g213))) hk (fun _ h => h.2)) (fun _ h => h.1)); have n2_ := Ad.mk (KeepBut.blk hk (g' := gb210) (o := .cells #[.int .i64 0, .int .i64 0, .slice none 0 0] 42 (0, 0)) (by (with_reducible repeat (first | refine bkN ?_ _ | refine bkd ?_ | refine bka ?_ _)); exact BK210.out) NB210_213.out (by simp)); have n3_ := Ad.mk (Kd.R_mono (Kd.R_keep (IsS98.apart (show IsS98 w _ g213 t211 t227 from by repeat (first | (with_reducible first | exact HI213.out | apply IsS98.alloc | apply IsS98.drewN | apply IsS98.drew | apply IsS98.set_1 | refine IsS98.far ?_ NB213_210.out _) | exact HI213.out)) (by (with_reducible repeat (first | apply Kd.R_alloc | apply Kd.R_drewN | apply Kd.R_drew)); exact HO230.out) (by decide)) hk (fun _ h => h.2)) (fun _ h => h.1)); have n4_ := Ad.mk (hb); have n5_ := Ad.mk (hi); clear HO_6; clear HO_7; clear BK210; clear HO230; clear HB; clear HI213; have HO_6 := n0_; have HO_7 := n1_; have BK210 := n2_; have HO230 := n3_; have HB := n4_; have HI213 := n5_; clear n0_ n1_ n2_ n3_ n4_ n5_; (try clear hb); (try clear hb2); (try clear hk); (try clear hi)) | ((with_reducible refine gate_dst (N := 30) rfl ?_); refine Kd.R_lit (Kd.int .i64) _ 3 ?hg (N := 30) ?hd (xs := ([1, 2, 0] : List Int)) (inner := [.int .i64 1, .int .i64 2, .int .i64 0]) (ok := fun _ => True) (okp := fun _ => True) ?hr ?hp (fun _ hk => hk) trivial (Below.refl _ _) (Nat.le_refl _) (by simp) ?_; (case hd => rfl); (case hg => rfl); (case hr => first | (go_simp; done) | (go_simp; rfl)); (case hp => exact (Reps.one (show Kd.M (Kd.int .i64) _ _ _ 1 [.int .i64 1] from rfl) (Reps.one (show Kd.M (Kd.int .i64) _ _ _ 2 [.int .i64 2] from rfl) (Reps.one (show Kd.M (Kd.int .i64) _ _ _ 0 [.int .i64 0] from rfl) (Reps.none _ _))))); intro v234 w28 ho29 hb hg_ hnew_; clear hg_ hnew_; (first | rw [← Ny233.out] at ho29 | (simp only [Int.reduceToNat] at ho29; rw [← Ny233.out] at ho29)); have n0_ := Ad.mk (Kd.R_elder' (by (with_reducible repeat (first | apply Kd.R_alloc | apply Kd.R_drewN | apply Kd.R_drew)); exact HO_6.out) (Kd.R_base ho29) hb); have n1_ := Ad.mk (Kd.N_elder' (by (with_reducible repeat (first | apply Kd.N_alloc | apply Kd.N_drewN | apply Kd.N_drew)); exact HO_7.out) (Kd.R_base ho29) hb); have n2_ := Ad.mk (Kd.R_elder' (by (with_reducible repeat (first | apply Kd.R_alloc | apply Kd.R_drewN | apply Kd.R_drew)); exact HO230.out) (Kd.R_base ho29) hb); have n3_ := Ad.mk (Kd.R_lower (Kd.R_new' (Kd.R_new' (Kd.R_newM (M := fun k_ => (w.heap.size ≤ k_)) ho29 (qa1 (by repeat (first | (with_reducible first | exact HB.out | apply bwa | apply bwN | apply bw1 | refine bws ?_ (IsS98.ge HI213.out) | refine bws ?_ GE210.out) | exact HB.out))) (fun k_ h_ => h_)) (Kd.R_lt (by (with_reducible repeat (first | apply Kd.R_alloc | apply Kd.R_drewN | apply Kd.R_drew)); exact HO_6.out))) (Kd.R_lt (by (with_reducible repeat (first | apply Kd.R_alloc | apply Kd.R_drewN | apply Kd.R_drew)); exact HO230.out))) (qa1 (by repeat (first | (with_reducible first | exact HB.out | apply bwa | apply bwN | apply bw1 | refine bws ?_ (IsS98.ge HI213.out) | refine bws ?_ GE210.out) | exact HB.out)))); have n4_ := Ad.mk (qa6 (g := gb210) (o := .cells #[.int .i64 0, .int .i64 0, .slice none 0 0] 42 (0, 0)) (by (with_reducible repeat (first | refine bkN ?_ _ | refine bkd ?_ | refine bka ?_ _)); exact BK210.out) hb); have n5_ := Ad.mk (IsS98.below (by repeat (first | (with_reducible first | exact HI213.out | apply IsS98.alloc | apply IsS98.drewN | apply IsS98.drew | apply IsS98.set_1 | refine IsS98.far ?_ NB213_210.out _) | exact HI213.out)) hb); have n6_ := Ad.mk (qa5 (by repeat (first | (with_reducible first | exact HB.out | apply bwa | apply bwN | apply bw1 | refine bws ?_ (IsS98.ge HI213.out) | refine bws ?_ GE210.out) | exact HB.out)) hb); clear HO_6; clear HO_7; clear HO230; clear BK210; clear HI213; clear HB; have HO_6 := n0_; have HO_7 := n1_; have HO230 := n2_; have HO235 := n3_; have BK210 := n4_; have HI213 := n5_; have HB := n6_; clear n0_ n1_ n2_ n3_ n4_ n5_ n6_; clear hb ho29; obtain ⟨Ao30, co30, eo30⟩ := Kd.R_slice HO235.out; subst eo30) | ((with_reducible refine qa7 (f := 59) rfl ?_); refine goesL_ (some 31) rfl rfl Try.func59 (by kernel_rfl) rfl #[.pointer (some ⟨g213, 0, none⟩), .slice Ao30 y233.length co30] rfl (by (try simp only [List.map_toArray, List.map_cons, List.map_nil]); first | done | rfl | (simp only [List.length_drop, List.length_take]; rfl)) ?_; (with_reducible refine (spec_reader_one.calls kj4 g213 t211 t232 _ _ y233 t236 t237 w _ ?side1 ?side2 ?side3 ?side4 ?side5 A18.out).mono ?_); (case side1 => repeat (first | (with_reducible first | exact HI213.out | apply IsS98.alloc | apply IsS98.drewN | apply IsS98.drew | apply IsS98.set_1 | refine IsS98.far ?_ NB213_210.out _) | exact HI213.out)); (case side2 => repeat (first | (with_reducible first | exact HB.out | apply bwa | apply bwN | apply bw1 | refine bws ?_ (IsS98.ge HI213.out) | refine bws ?_ GE210.out) | exact HB.out)); (case side3 => repeat (first | exact (Kd.R_reads' HO235.out).2.2 | (with_reducible refine Kd.C_alloc ?_ _) | (with_reducible refine Kd.C_drewN ?_ _) | (with_reducible refine Kd.C_drew ?_))); (case side4 => exact (Kd.R_reads' HO235.out).2.1); (case side5 => exact far_slice (IsS98.own_ne HI213.out HO235.out (by decide))); rintro e w31 ⟨rfl, hi, hb, hk⟩; refine ⟨_, rfl, ?_⟩; have n0_ := Ad.mk (Kd.R_mono (Kd.R_keep (IsS98.apart (show IsS98 w _ g213 t211 t232 from by repeat (first | (with_reducible first | exact HI213.out | apply IsS98.alloc | apply IsS98.drewN | apply IsS98.drew | apply IsS98.set_1 | refine IsS98.far ?_ NB213_210.out _) | exact HI213.out)) (by (with_reducible repeat (first | apply Kd.R_alloc | apply Kd.R_drewN | apply Kd.R_drew)); exact HO_6.out) (by decide)) hk (fun _ h => h.2)) (fun _ h => h.1)); have n1_ := Ad.mk (Kd.N_mono (Kd.N_keep (Kd.N_mono (ok := fun k_ => (((((w.heap.size ≤ k_)) ∧ (some k_ ≠ (v215 : Value).ownBlock ∧ (k_ ≠ gb210 ∧ k_ ≠ g213))) ∧ some k_ ≠ (.slice Ao26 y228.length co26 : Value).ownBlock) ∧ some k_ ≠ (.slice Ao30 y233.length co30 : Value).ownBlock)) (by (with_reducible repeat (first | apply Kd.N_alloc | apply Kd.N_drewN | apply Kd.N_drew)); exact HO_7.out) (fun k_ hk_ => (⟨hk_, hk_.1.1.2.2.2⟩ : _ ∧ k_ ≠ g213))) hk (fun _ h => h.2)) (fun _ h => h.1)); have n2_ := Ad.mk (KeepBut.blk hk (g' := gb210) (o := .cells #[.int .i64 0, .int .i64 0, .slice none 0 0] 42 (0, 0)) (by (with_reducible repeat (first | refine bkN ?_ _ | refine bkd ?_ | refine bka ?_ _)); exact BK210.out) NB210_213.out (by simp)); have n3_ := Ad.mk (Kd.R_mono (Kd.R_keep (IsS98.apart (show IsS98 w _ g213 t211 t232 from by repeat (first | (with_reducible first | exact HI213.out | apply IsS98.alloc | apply IsS98.drewN | apply IsS98.drew | apply IsS98.set_1 | refine IsS98.far ?_ NB213_210.out _) | exact HI213.out)) (by (with_reducible repeat (first | apply Kd.R_alloc | apply Kd.R_drewN | apply Kd.R_drew)); exact HO230.out) (by decide)) hk (fun _ h => h.2)) (fun _ h => h.1)); have n4_ := Ad.mk (Kd.R_mono (Kd.R_keep (IsS98.apart (show IsS98 w _ g213 t211 t232 from by repeat (first | (with_reducible first | exact HI213.out | apply IsS98.alloc | apply IsS98.drewN | apply IsS98.drew | apply IsS98.set_1 | refine IsS98.far ?_ NB213_210.out _) | exact HI213.out)) (by (with_reducible repeat (first | apply Kd.R_alloc | apply Kd.R_drewN | apply Kd.R_drew)); exact HO235.out) (by decide)) hk (fun _ h => h.2)) (fun _ h => h.1)); have n5_ := Ad.mk (hb); have n6_ := Ad.mk (hi); clear HO_6; clear HO_7; clear BK210; clear HO230; clear HO235; clear HB; clear HI213; have HO_6 := n0_; have HO_7 := n1_; have BK210 := n2_; have HO230 := n3_; have HO235 := n4_; have HB := n5_; have HI213 := n6_; clear n0_ n1_ n2_ n3_ n4_ n5_ n6_; (try clear hb); (try clear hb2); (try clear hk); (try clear hi)) | ((with_reducible refine gate_dst (N := 32) rfl ?_); refine Kd.R_lit (Kd.int .i64) _ 3 ?hg (N := 32) ?hd (xs := ([t236] : List Int)) (inner := [.int .i64 t236]) (ok := fun _ => True) (okp := fun _ => True) ?hr ?hp (fun _ hk => hk) trivial (Below.refl _ _) (Nat.le_refl _) (by simp) ?_; (case hd => rfl); (case hg => rfl); (case hr => first | (go_simp; done) | (go_simp; rfl)); (case hp => exact (Reps.one (show Kd.M (Kd.int .i64) _ _ _ t236 [.int .i64 t236] from rfl) (Reps.none _ _))); intro v239 w32 ho33 hb hg_ hnew_; clear hg_ hnew_; (first | rw [← Ny238.out] at ho33 | (simp only [Int.reduceToNat] at ho33; rw [← Ny238.out] at ho33)); have n0_ := Ad.mk (Kd.R_elder' (by (with_reducible repeat (first | apply Kd.R_alloc | apply Kd.R_drewN | apply Kd.R_drew)); exact HO_6.out) (Kd.R_base ho33) hb); have n1_ := Ad.mk (Kd.N_elder' (by (with_reducible repeat (first | apply Kd.N_alloc | apply Kd.N_drewN | apply Kd.N_drew)); exact HO_7.out) (Kd.R_base ho33) hb); have n2_ := Ad.mk (Kd.R_elder' (by (with_reducible repeat (first | apply Kd.R_alloc | apply Kd.R_drewN | apply Kd.R_drew)); exact HO230.out) (Kd.R_base ho33) hb); have n3_ := Ad.mk (Kd.R_elder' (by (with_reducible repeat (first | apply Kd.R_alloc | apply Kd.R_drewN | apply Kd.R_drew)); exact HO235.out) (Kd.R_base ho33) hb); have n4_ := Ad.mk (Kd.R_lower (Kd.R_new' (Kd.R_new' (Kd.R_new' (Kd.R_newM (M := fun k_ => (w.heap.size ≤ k_)) ho33 (qa1 (by repeat (first | (with_reducible first | exact HB.out | apply bwa | apply bwN | apply bw1 | refine bws ?_ (IsS98.ge HI213.out) | refine bws ?_ GE210.out) | exact HB.out))) (fun k_ h_ => h_)) (Kd.R_lt (by (with_reducible repeat (first | apply Kd.R_alloc | apply Kd.R_drewN | apply Kd.R_drew)); exact HO_6.out))) (Kd.R_lt (by (with_reducible repeat (first | apply Kd.R_alloc | apply Kd.R_drewN | apply Kd.R_drew)); exact HO230.out))) (Kd.R_lt (by (with_reducible repeat (first | apply Kd.R_alloc | apply Kd.R_drewN | apply Kd.R_drew)); exact HO235.out))) (qa1 (by repeat (first | (with_reducible first | exact HB.out | apply bwa | apply bwN | apply bw1 | refine bws ?_ (IsS98.ge HI213.out) | refine bws ?_ GE210.out) | exact HB.out)))); have n5_ := Ad.mk (qa6 (g := gb210) (o := .cells #[.int .i64 0, .int .i64 0, .slice none 0 0] 42 (0, 0)) (by (with_reducible repeat (first | refine bkN ?_ _ | refine bkd ?_ | refine bka ?_ _)); exact BK210.out) hb); have n6_ := Ad.mk (IsS98.below (by repeat (first | (with_reducible first | exact HI213.out | apply IsS98.alloc | apply IsS98.drewN | apply IsS98.drew | apply IsS98.set_1 | refine IsS98.far ?_ NB213_210.out _) | exact HI213.out)) hb); have n7_ := Ad.mk (qa5 (by repeat (first | (with_reducible first | exact HB.out | apply bwa | apply bwN | apply bw1 | refine bws ?_ (IsS98.ge HI213.out) | refine bws ?_ GE210.out) | exact HB.out)) hb); clear HO_6; clear HO_7; clear HO230; clear HO235; clear BK210; clear HI213; clear HB; have HO_6 := n0_; have HO_7 := n1_; have HO230 := n2_; have HO235 := n3_; have HO240 := n4_; have BK210 := n5_; have HI213 := n6_; have HB := n7_; clear n0_ n1_ n2_ n3_ n4_ n5_ n6_ n7_; clear hb ho33; obtain ⟨Ao34, co34, eo34⟩ := Kd.R_slice HO240.out; subst eo34) | ((with_reducible refine gate_dst (N := 8) rfl ?_); refine box_event ?hg (N := 8) ?hd (cs := #[.int .i64 0, .int .i64 0, .slice none 0 0]) (t := 42) ?hr ?_; (case hd => rfl); (case hg => rfl); (case hr => first | (go_simp; done) | (go_simp; rfl)); intro gb241 hg w35 hbox hb; have n0_ := Ad.mk (Kd.R_below (by (with_reducible repeat (first | apply Kd.R_alloc | apply Kd.R_drewN | apply Kd.R_drew)); exact HO_6.out) hb); have n1_ := Ad.mk (Kd.N_below (Kd.N_elderB (by (with_reducible repeat (first | apply Kd.N_alloc | apply Kd.N_drewN | apply Kd.N_drew)); exact HO_7.out) gb241 (Nat.le_of_eq hg.symm)) hb); have n2_ := Ad.mk (Kd.R_below (by (with_reducible repeat (first | apply Kd.R_alloc | apply Kd.R_drewN | apply Kd.R_drew)); exact HO230.out) hb); have n3_ := Ad.mk (Kd.R_below (by (with_reducible repeat (first | apply Kd.R_alloc | apply Kd.R_drewN | apply Kd.R_drew)); exact HO235.out) hb); have n4_ := Ad.mk (Kd.R_below (by (with_reducible repeat (first | apply Kd.R_alloc | apply Kd.R_drewN | apply Kd.R_drew)); exact HO240.out) hb); have n5_ := Ad.mk (qa6 (g := gb210) (o := .cells #[.int .i64 0, .int .i64 0, .slice none 0 0] 42 (0, 0)) (by (with_reducible repeat (first | refine bkN ?_ _ | refine bkd ?_ | refine bka ?_ _)); exact BK210.out) hb); have n6_ := Ad.mk (IsS98.below (by repeat (first | (with_reducible first | exact HI213.out | apply IsS98.alloc | apply IsS98.drewN | apply IsS98.drew | apply IsS98.set_1 | refine IsS98.far ?_ NB213_210.out _) | exact HI213.out)) hb); have n7_ := Ad.mk (qa5 (by repeat (first | (with_reducible first | exact HB.out | apply bwa | apply bwN | apply bw1 | refine bws ?_ (IsS98.ge HI213.out) | refine bws ?_ GE210.out) | exact HB.out)) hb); have n8_ := Ad.mk (hbox); have n9_ := Ad.mk ((by rw [hg]; exact (qa1 (by repeat (first | (with_reducible first | exact HB.out | apply bwa | apply bwN | apply bw1 | refine bws ?_ (IsS98.ge HI213.out) | refine bws ?_ GE210.out) | exact HB.out))) : w.heap.size ≤ gb241)); have n10_ := Ad.mk ((by rw [hg]; exact (qa1 (by repeat (first | (with_reducible first | exact HB.out | apply bwa | apply bwN | apply bw1 | refine bws ?_ (IsS98.ge HI213.out) | refine bws ?_ GE210.out) | exact HB.out))) : w.heap.size ≤ gb241)); have n11_ := Ad.mk ((by rw [hg]; exact Nat.ne_of_lt (blk_lt (g := gb210) (o := .cells #[.int .i64 0, .int .i64 0, .slice none 0 0] 42 (0, 0)) (by (with_reducible repeat (first | refine bkN ?_ _ | refine bkd ?_ | refine bka ?_ _)); exact BK210.out)) : gb210 ≠ gb241)); have n12_ := Ad.mk ((by rw [hg]; exact Nat.ne_of_gt (blk_lt (g := gb210) (o := .cells #[.int .i64 0, .int .i64 0, .slice none 0 0] 42 (0, 0)) (by (with_reducible repeat (first | refine bkN ?_ _ | refine bkd ?_ | refine bka ?_ _)); exact BK210.out)) : gb241 ≠ gb210)); have n13_ := Ad.mk ((by rw [hg]; exact Nat.ne_of_lt (IsS98.lt (show IsS98 w _ g213 t211 t237 from by repeat (first | (with_reducible first | exact HI213.out | apply IsS98.alloc | apply IsS98.drewN | apply IsS98.drew | apply IsS98.set_1 | refine IsS98.far ?_ NB213_210.out _) | exact HI213.out))) : g213 ≠ gb241)); have n14_ := Ad.mk ((by rw [hg]; exact Nat.ne_of_gt (IsS98.lt (show IsS98 w _ g213 t211 t237 from by repeat (first | (with_reducible first | exact HI213.out | apply IsS98.alloc | apply IsS98.drewN | apply IsS98.drew | apply IsS98.set_1 | refine IsS98.far ?_ NB213_210.out _) | exact HI213.out))) : gb241 ≠ g213)); clear HO_6; clear HO_7; clear HO230; clear HO235; clear HO240; clear BK210; clear HI213; clear HB; have HO_6 := n0_; have HO_7 := n1_; have HO230 := n2_; have HO235 := n3_; have HO240 := n4_; have BK210 := n5_; have HI213 := n6_; have HB := n7_; have BK241 := n8_; have GW241 := n9_; have GE241 := n10_; have NB210_241 := n11_; have NB241_210 := n12_; have NB213_241 := n13_; have NB241_213 := n14_; clear n0_ n1_ n2_ n3_ n4_ n5_ n6_ n7_ n8_ n9_ n10_ n11_ n12_ n13_ n14_; clear hb hbox hg; have hnb36 := NB241_210.out; have hnc36 := NB210_241.out; have hnb37 := NB241_213.out; have hnc37 := NB213_241.out; have hcz38_0 : w35.cell? ⟨gb241, 0, none⟩ = some (.int .i64 0) := (bkc BK241.out 0).trans rfl; have hcz38_1 : w35.cell? ⟨gb241, 1, none⟩ = some (.int .i64 0) := (bkc BK241.out 1).trans rfl; have hcz38_2 : w35.cell? ⟨gb241, 2, none⟩ = some (.slice none 0 0) := (bkc BK241.out 2).trans rfl; have hfz38_0 := qa0 BK241.out 0; have hfz38_1 := qa0 BK241.out 1; have hfz38_2 := qa0 BK241.out 2) | ((with_reducible refine qa7 (f := 58) rfl ?_); refine goesL_ (some 35) rfl rfl Try.func58 (by kernel_rfl) rfl #[.pointer (some ⟨g213, 0, none⟩), .int .i64 2] rfl (by (try simp only [List.map_toArray, List.map_cons, List.map_nil]); first | done | rfl | (simp only [List.length_drop, List.length_take]; rfl)) ?_; (with_reducible refine (spec_reader_pick.calls kj4 g213 t211 t237 2 t242 t243 w _ ?side1 ?side2 A19.out).mono ?_); (case side1 => repeat (first | (with_reducible first | exact HI213.out | apply IsS98.alloc | apply IsS98.drewN | apply IsS98.drew | apply IsS98.set_1 | refine IsS98.far ?_ NB213_210.out _ | refine IsS98.far ?_ NB213_241.out _) | exact HI213.out)); (case side2 => repeat (first | (with_reducible first | exact HB.out | apply bwa | apply bwN | apply bw1 | refine bws ?_ (IsS98.ge HI213.out) | refine bws ?_ GE210.out | refine bws ?_ GE241.out) | exact HB.out)); rintro e w39 ⟨rfl, hi, hb, hk⟩; refine ⟨_, rfl, ?_⟩; have n0_ := Ad.mk (Kd.R_mono (Kd.R_keep (IsS98.apart (show IsS98 w _ g213 t211 t237 from by repeat (first | (with_reducible first | exact HI213.out | apply IsS98.alloc | apply IsS98.drewN | apply IsS98.drew | apply IsS98.set_1 | refine IsS98.far ?_ NB213_210.out _ | refine IsS98.far ?_ NB213_241.out _) | exact HI213.out)) (by (with_reducible repeat (first | apply Kd.R_alloc | apply Kd.R_drewN | apply Kd.R_drew)); exact (Kd.R_mono (Kd.R_far (p := ⟨gb241, 2, none⟩) (Kd.R_far (p := ⟨gb241, 1, none⟩) (Kd.R_far (p := ⟨gb241, 0, none⟩) (Kd.R_types HO_6.out BK241.out (by decide)) (fun _ hk => hk.2) (.int .i64 t226)) (fun _ hk => hk.2) (.int .i64 t231)) (fun _ hk => hk.2) (.slice Ao34 y238.length co34)) (fun _ h_ => h_.1))) (by decide)) hk (fun _ h => h.2)) (fun _ h => h.1)); have n1_ := Ad.mk (Kd.N_mono (Kd.N_keep (Kd.N_mono (ok := fun k_ => (((((((w.heap.size ≤ k_)) ∧ (some k_ ≠ (v215 : Value).ownBlock ∧ (k_ ≠ gb210 ∧ k_ ≠ g213))) ∧ some k_ ≠ (.slice Ao26 y228.length co26 : Value).ownBlock) ∧ some k_ ≠ (.slice Ao30 y233.length co30 : Value).ownBlock) ∧ some k_ ≠ (.slice Ao34 y238.length co34 : Value).ownBlock) ∧ k_ ≠ gb241)) (by (with_reducible repeat (first | apply Kd.N_alloc | apply Kd.N_drewN | apply Kd.N_drew)); exact (Kd.N_mono (Kd.N_far (p := ⟨gb241, 2, none⟩) (Kd.N_far (p := ⟨gb241, 1, none⟩) (Kd.N_far (p := ⟨gb241, 0, none⟩) (Kd.N_mono HO_7.out (fun k_ hk => (⟨hk, hk.2⟩ : _ ∧ k_ ≠ gb241))) (fun _ hk => hk.2) (.int .i64 t226)) (fun _ hk => hk.2) (.int .i64 t231)) (fun _ hk => hk.2) (.slice Ao34 y238.length co34)) (fun _ h_ => h_.1))) (fun k_ hk_ => (⟨hk_, hk_.1.1.1.1.2.2.2⟩ : _ ∧ k_ ≠ g213))) hk (fun _ h => h.2)) (fun _ h => h.1)); have n2_ := Ad.mk (KeepBut.blk hk (g' := gb210) (o := .cells #[.int .i64 0, .int .i64 0, .slice none 0 0] 42 (0, 0)) (by (with_reducible repeat (first | refine bkN ?_ _ | refine bkd ?_ | refine bka ?_ _)); refine blk_far ?_ NB210_241.out _; (with_reducible repeat (first | refine bkN ?_ _ | refine bkd ?_ | refine bka ?_ _)); refine blk_far ?_ NB210_241.out _; (with_reducible repeat (first | refine bkN ?_ _ | refine bkd ?_ | refine bka ?_ _)); refine blk_far ?_ NB210_241.out _; (with_reducible repeat (first | refine bkN ?_ _ | refine bkd ?_ | refine bka ?_ _)); exact BK210.out) NB210_213.out (by simp)); have n3_ := Ad.mk (Kd.R_mono (Kd.R_keep (IsS98.apart (show IsS98 w _ g213 t211 t237 from by repeat (first | (with_reducible first | exact HI213.out | apply IsS98.alloc | apply IsS98.drewN | apply IsS98.drew | apply IsS98.set_1 | refine IsS98.far ?_ NB213_210.out _ | refine IsS98.far ?_ NB213_241.out _) | exact HI213.out)) (by (with_reducible repeat (first | apply Kd.R_alloc | apply Kd.R_drewN | apply Kd.R_drew)); exact (Kd.R_mono (Kd.R_far (p := ⟨gb241, 2, none⟩) (Kd.R_far (p := ⟨gb241, 1, none⟩) (Kd.R_far (p := ⟨gb241, 0, none⟩) (Kd.R_types HO230.out BK241.out (by decide)) (fun _ hk => hk.2) (.int .i64 t226)) (fun _ hk => hk.2) (.int .i64 t231)) (fun _ hk => hk.2) (.slice Ao34 y238.length co34)) (fun _ h_ => h_.1))) (by decide)) hk (fun _ h => h.2)) (fun _ h => h.1)); have n4_ := Ad.mk (Kd.R_mono (Kd.R_keep (IsS98.apart (show IsS98 w _ g213 t211 t237 from by repeat (first | (with_reducible first | exact HI213.out | apply IsS98.alloc | apply IsS98.drewN | apply IsS98.drew | apply IsS98.set_1 | refine IsS98.far ?_ NB213_210.out _ | refine IsS98.far ?_ NB213_241.out _) | exact HI213.out)) (by (with_reducible repeat (first | apply Kd.R_alloc | apply Kd.R_drewN | apply Kd.R_drew)); exact (Kd.R_mono (Kd.R_far (p := ⟨gb241, 2, none⟩) (Kd.R_far (p := ⟨gb241, 1, none⟩) (Kd.R_far (p := ⟨gb241, 0, none⟩) (Kd.R_types HO235.out BK241.out (by decide)) (fun _ hk => hk.2) (.int .i64 t226)) (fun _ hk => hk.2) (.int .i64 t231)) (fun _ hk => hk.2) (.slice Ao34 y238.length co34)) (fun _ h_ => h_.1))) (by decide)) hk (fun _ h => h.2)) (fun _ h => h.1)); have n5_ := Ad.mk (Kd.R_mono (Kd.R_keep (IsS98.apart (show IsS98 w _ g213 t211 t237 from by repeat (first | (with_reducible first | exact HI213.out | apply IsS98.alloc | apply IsS98.drewN | apply IsS98.drew | apply IsS98.set_1 | refine IsS98.far ?_ NB213_210.out _ | refine IsS98.far ?_ NB213_241.out _) | exact HI213.out)) (by (with_reducible repeat (first | apply Kd.R_alloc | apply Kd.R_drewN | apply Kd.R_drew)); exact (Kd.R_mono (Kd.R_far (p := ⟨gb241, 2, none⟩) (Kd.R_far (p := ⟨gb241, 1, none⟩) (Kd.R_far (p := ⟨gb241, 0, none⟩) (Kd.R_types HO240.out BK241.out (by decide)) (fun _ hk => hk.2) (.int .i64 t226)) (fun _ hk => hk.2) (.int .i64 t231)) (fun _ hk => hk.2) (.slice Ao34 y238.length co34)) (fun _ h_ => h_.1))) (by decide)) hk (fun _ h => h.2)) (fun _ h => h.1)); have n6_ := Ad.mk (KeepBut.blk hk (g' := gb241) (o := .cells #[.int .i64 t226, .int .i64 t231, .slice Ao34 y238.length co34] 42 (0, 0)) (by (with_reducible repeat (first | refine bkN ?_ _ | refine bkd ?_ | refine bka ?_ _)); refine blk_put (cs := #[.int .i64 t226, .int .i64 t231, .slice none 0 0]) ?_ 2 _ rfl; (with_reducible repeat (first | refine bkN ?_ _ | refine bkd ?_ | refine bka ?_ _)); refine blk_put (cs := #[.int .i64 t226, .int .i64 0, .slice none 0 0]) ?_ 1 _ rfl; (with_reducible repeat (first | refine bkN ?_ _ | refine bkd ?_ | refine bka ?_ _)); refine blk_put (cs := #[.int .i64 0, .int .i64 0, .slice none 0 0]) ?_ 0 _ rfl; (with_reducible repeat (first | refine bkN ?_ _ | refine bkd ?_ | refine bka ?_ _)); exact BK241.out) NB241_213.out (by simp)); have n7_ := Ad.mk (hb); have n8_ := Ad.mk (hi); clear HO_6; clear HO_7; clear BK210; clear HO230; clear HO235; clear HO240; clear BK241; clear HB; clear HI213; have HO_6 := n0_; have HO_7 := n1_; have BK210 := n2_; have HO230 := n3_; have HO235 := n4_; have HO240 := n5_; have BK241 := n6_; have HB := n7_; have HI213 := n8_; clear n0_ n1_ n2_ n3_ n4_ n5_ n6_ n7_ n8_; (try clear hb); (try clear hb2); (try clear hk); (try clear hi)))
     have n0_ := Ad.mk (Kd.R_drew HO_6.out)
     have n1_ := Ad.mk (Kd.N_drew HO_7.out)
     have n2_ := Ad.mk (Kd.R_drew HO230.out)
     have n3_ := Ad.mk (Kd.R_drew HO235.out)
     have n4_ := Ad.mk (Kd.R_drew HO240.out)
     have n5_ := Ad.mk (bkd BK210.out)
     have n6_ := Ad.mk (bkd BK241.out)
     have n7_ := Ad.mk (IsS98.drew HI213.out)
     have n8_ := Ad.mk (bw1 HB.out)
     clear HO_6
     clear HO_7
     clear HO230
     clear HO235
     clear HO240
     clear BK210
     clear BK241
     clear HI213
     clear HB
     have HO_6 := n0_
     have HO_7 := n1_
     have HO230 := n2_
     have HO235 := n3_
     have HO240 := n4_
     have BK210 := n5_
     have BK241 := n6_
     have HI213 := n7_
     have HB := n8_
     clear n0_ n1_ n2_ n3_ n4_ n5_ n6_ n7_ n8_
     refine start_ (n := 9) (S := fun w' => w'.cell? ⟨gb241, 0, none⟩ = some (.int .i64 t226) ∧ w'.cell? ⟨gb241, 1, none⟩ = some (.int .i64 t231) ∧ w'.cell? ⟨gb241, 2, none⟩ = some (.slice Ao34 y238.length co34)) (ds := [8]) #[false, false, false, false, false, false, false, false, false] (by kernel_rfl) rfl rfl ⟨(bkc BK241.out 0).trans rfl, (bkc BK241.out 1).trans rfl, (bkc BK241.out 2).trans rfl⟩ (fun hHeld => ?_); refine with_tabW spec_DrawMostLoan.tab7 spec_DrawMostLoan.bits7 (fun HT_ HW_ => ?_)
     generalize w39.drew = w40 at HO_6 HO_7 HO230 HO235 HO240 BK210 BK241 HI213 HB hHeld ⊢
     refine pure_ (i := 0) (N := some 37) (v := ?_) (a' := ?_) #[true, false, false, false, false, false, false, false, false] rfl rfl (any_of HT_.out (by kernel_rfl)) (fun _ _ _ h => h) (Or.inl ⟨by rfl, ?_⟩) ?_ ?_
     rotate_left
     ·intro w'
      go_simp
      with_reducible rfl
     rotate_left
     ·simp only [Act.put, List.setIfInBounds_toArray, List.set_cons_zero, List.set_cons_succ, qa8, qa9]
      rfl
     refine pure_ (i := 2) (N := some 39) (v := ?_) (a' := ?_) #[true, false, true, false, false, false, false, false, false] rfl rfl (any_of HT_.out (by kernel_rfl)) (fun _ _ _ h => h) (Or.inl ⟨by rfl, ?_⟩) ?_ ?_
     rotate_left
     ·intro w'
      go_simp
      with_reducible rfl
     rotate_left
     ·simp only [Act.put, List.setIfInBounds_toArray, List.set_cons_zero, List.set_cons_succ, qa8, qa9]
      rfl
     refine take_ (i := 1) (N := some 38) (v := ?_) (a' := ?_) #[true, true, true, false, false, false, false, false, false] rfl rfl (take_ofW HT_.out HW_.out (by kernel_rfl)) (fun _ _ _ h => h) (Or.inl ⟨by rfl, ?_⟩) hHeld ?_ ?_
     rotate_left
     ·rintro w' ⟨s0, s1, s2⟩
      go_simp
      with_reducible rfl
     rotate_left
     ·simp only [Act.put, List.setIfInBounds_toArray, List.set_cons_zero, List.set_cons_succ, qa8, qa9]
      rfl
     refine one_ (i := 3) (N := some 40) #[true, true, true, true, false, false, false, false, false] rfl rfl (one_of HT_.out (by kernel_rfl)) (by decide) (fun K hK => ?_)
     refine Kd.R_lit_step (Kd.int .i64) _ 3 ?hg (N := 40) ?hd (xs := ([3, 0, 2] : List Int)) (inner := [.int .i64 3, .int .i64 0, .int .i64 2]) (ok := fun _ => True) (okp := fun _ => True) ?hr ?hp (fun _ hk => hk) trivial (Below.refl _ _) (Nat.le_refl _) (by simp) ?_; (case hd => rfl); (case hg => rfl); (case hr => first | (go_simp; done) | (go_simp; rfl)); (case hp => exact (Reps.one (show Kd.M (Kd.int .i64) _ _ _ 3 [.int .i64 3] from rfl) (Reps.one (show Kd.M (Kd.int .i64) _ _ _ 0 [.int .i64 0] from rfl) (Reps.one (show Kd.M (Kd.int .i64) _ _ _ 2 [.int .i64 2] from rfl) (Reps.none _ _)))))
     intro v245 w41 ho42 hb hg_ hnew_
     clear hg_ hnew_
     (first | rw [← Ny244.out] at ho42 | (simp only [Int.reduceToNat] at ho42; rw [← Ny244.out] at ho42))
     have n0_ := Ad.mk (Kd.R_elder' (by (with_reducible repeat (first | apply Kd.R_alloc | apply Kd.R_drewN | apply Kd.R_drew)); exact HO_6.out) (Kd.R_base ho42) hb)
     have n1_ := Ad.mk (Kd.N_elder' (by (with_reducible repeat (first | apply Kd.N_alloc | apply Kd.N_drewN | apply Kd.N_drew)); exact HO_7.out) (Kd.R_base ho42) hb)
     have n2_ := Ad.mk (Kd.R_elder' (by (with_reducible repeat (first | apply Kd.R_alloc | apply Kd.R_drewN | apply Kd.R_drew)); exact HO230.out) (Kd.R_base ho42) hb)
     have n3_ := Ad.mk (Kd.R_elder' (by (with_reducible repeat (first | apply Kd.R_alloc | apply Kd.R_drewN | apply Kd.R_drew)); exact HO235.out) (Kd.R_base ho42) hb)
     have n4_ := Ad.mk (Kd.R_elder' (by (with_reducible repeat (first | apply Kd.R_alloc | apply Kd.R_drewN | apply Kd.R_drew)); exact HO240.out) (Kd.R_base ho42) hb)
     have n5_ := Ad.mk (Kd.R_lower (Kd.R_new' (Kd.R_new' (Kd.R_new' (Kd.R_new' (Kd.R_newM (M := fun k_ => (w.heap.size ≤ k_)) ho42 (qa1 (by repeat (first | (with_reducible first | exact HB.out | apply bwa | apply bwN | apply bw1 | refine bws ?_ (IsS98.ge HI213.out) | refine bws ?_ GE210.out | refine bws ?_ GE241.out) | exact HB.out))) (fun k_ h_ => h_)) (Kd.R_lt (by (with_reducible repeat (first | apply Kd.R_alloc | apply Kd.R_drewN | apply Kd.R_drew)); exact HO_6.out))) (Kd.R_lt (by (with_reducible repeat (first | apply Kd.R_alloc | apply Kd.R_drewN | apply Kd.R_drew)); exact HO230.out))) (Kd.R_lt (by (with_reducible repeat (first | apply Kd.R_alloc | apply Kd.R_drewN | apply Kd.R_drew)); exact HO235.out))) (Kd.R_lt (by (with_reducible repeat (first | apply Kd.R_alloc | apply Kd.R_drewN | apply Kd.R_drew)); exact HO240.out))) (qa1 (by repeat (first | (with_reducible first | exact HB.out | apply bwa | apply bwN | apply bw1 | refine bws ?_ (IsS98.ge HI213.out) | refine bws ?_ GE210.out | refine bws ?_ GE241.out) | exact HB.out))))
     have n6_ := Ad.mk (qa6 (g := gb210) (o := .cells #[.int .i64 0, .int .i64 0, .slice none 0 0] 42 (0, 0)) (by (with_reducible repeat (first | refine bkN ?_ _ | refine bkd ?_ | refine bka ?_ _)); exact BK210.out) hb)
     have n7_ := Ad.mk (IsS98.below (by repeat (first | (with_reducible first | exact HI213.out | apply IsS98.alloc | apply IsS98.drewN | apply IsS98.drew | apply IsS98.set_1 | refine IsS98.far ?_ NB213_210.out _ | refine IsS98.far ?_ NB213_241.out _) | exact HI213.out)) hb)
     have n8_ := Ad.mk (qa6 (g := gb241) (o := .cells #[.int .i64 t226, .int .i64 t231, .slice Ao34 y238.length co34] 42 (0, 0)) (by (with_reducible repeat (first | refine bkN ?_ _ | refine bkd ?_ | refine bka ?_ _)); exact BK241.out) hb)
     have n9_ := Ad.mk (qa5 (by repeat (first | (with_reducible first | exact HB.out | apply bwa | apply bwN | apply bw1 | refine bws ?_ (IsS98.ge HI213.out) | refine bws ?_ GE210.out | refine bws ?_ GE241.out) | exact HB.out)) hb)
     clear HO_6
     clear HO_7
     clear HO230
     clear HO235
     clear HO240
     clear BK210
     clear HI213
     clear BK241
     clear HB
     have HO_6 := n0_
     have HO_7 := n1_
     have HO230 := n2_
     have HO235 := n3_
     have HO240 := n4_
     have HO246 := n5_
     have BK210 := n6_
     have HI213 := n7_
     have BK241 := n8_
     have HB := n9_
     clear n0_ n1_ n2_ n3_ n4_ n5_ n6_ n7_ n8_ n9_
     clear hb ho42
     obtain ⟨Ao43, co43, eo43⟩ := Kd.R_slice HO246.out
     (first | subst eo43 | (injection eo43 with f1_ f2_ f3_; have f4_ := f1_.symm; have f5_ := f3_.symm; clear f1_ f2_ f3_; subst f4_; subst f5_))
     refine hK.out _ _ ⟨(bkc BK241.out 0).trans rfl, (bkc BK241.out 1).trans rfl, (bkc BK241.out 2).trans rfl⟩ (fun hHeld => ?_)
     clear hK K
     refine norm_ (a' := ?_) ?_ ?_
     rotate_left
     ·show Act.put _ (some 40) _ = _
      simp only [Act.put, List.setIfInBounds_toArray, List.set_cons_zero, List.set_cons_succ, qa8, qa9]
      rfl
     refine one_ (i := 4) (N := some 41) #[true, true, true, true, true, false, false, false, false] rfl rfl (one_of HT_.out (by kernel_rfl)) (by decide) (fun K hK => ?_)
     refine goes_ Try.func59 (by kernel_rfl) rfl #[.pointer (some ⟨g213, 0, none⟩), .slice Ao43 y244.length co43] (by rfl) rfl rfl (by (try simp only [List.map_toArray, List.map_cons, List.map_nil]); first | done | rfl | (simp only [List.length_drop, List.length_take]; rfl)) ?_
     with_reducible refine (spec_reader_one.calls kj4 g213 t211 t243 _ _ y244 t247 t248 w _ ?side1 ?side2 ?side3 ?side4 ?side5 A21.out).mono ?_
     (case side1 => repeat (first | (with_reducible first | exact HI213.out | apply IsS98.alloc | apply IsS98.drewN | apply IsS98.drew | apply IsS98.set_1 | refine IsS98.far ?_ NB213_210.out _ | refine IsS98.far ?_ NB213_241.out _) | exact HI213.out))
     (case side2 => repeat (first | (with_reducible first | exact HB.out | apply bwa | apply bwN | apply bw1 | refine bws ?_ (IsS98.ge HI213.out) | refine bws ?_ GE210.out | refine bws ?_ GE241.out) | exact HB.out))
     (case side3 => repeat (first | exact (Kd.R_reads' HO246.out).2.2 | (with_reducible refine Kd.C_alloc ?_ _) | (with_reducible refine Kd.C_drewN ?_ _) | (with_reducible refine Kd.C_drew ?_)))
     (case side4 => exact (Kd.R_reads' HO246.out).2.1)
     (case side5 => exact far_slice (IsS98.own_ne HI213.out HO246.out (by decide)))
     rintro e w44 ⟨rfl, hi, hb, hk⟩
     refine ⟨_, rfl, ?_⟩
     have n0_ := Ad.mk (Kd.R_mono (Kd.R_keep (IsS98.apart (show IsS98 w _ g213 t211 t243 from by repeat (first | (with_reducible first | exact HI213.out | apply IsS98.alloc | apply IsS98.drewN | apply IsS98.drew | apply IsS98.set_1 | refine IsS98.far ?_ NB213_210.out _ | refine IsS98.far ?_ NB213_241.out _) | exact HI213.out)) (by (with_reducible repeat (first | apply Kd.R_alloc | apply Kd.R_drewN | apply Kd.R_drew)); exact HO_6.out) (by decide)) hk (fun _ h => h.2)) (fun _ h => h.1))
     have n1_ := Ad.mk (Kd.N_mono (Kd.N_keep (Kd.N_mono (ok := fun k_ => ((((((((w.heap.size ≤ k_)) ∧ (some k_ ≠ (v215 : Value).ownBlock ∧ (k_ ≠ gb210 ∧ k_ ≠ g213))) ∧ some k_ ≠ (.slice Ao26 y228.length co26 : Value).ownBlock) ∧ some k_ ≠ (.slice Ao30 y233.length co30 : Value).ownBlock) ∧ some k_ ≠ (.slice Ao34 y238.length co34 : Value).ownBlock) ∧ k_ ≠ gb241) ∧ some k_ ≠ (.slice Ao43 y244.length co43 : Value).ownBlock)) (by (with_reducible repeat (first | apply Kd.N_alloc | apply Kd.N_drewN | apply Kd.N_drew)); exact HO_7.out) (fun k_ hk_ => (⟨hk_, hk_.1.1.1.1.1.2.2.2⟩ : _ ∧ k_ ≠ g213))) hk (fun _ h => h.2)) (fun _ h => h.1))
     have n2_ := Ad.mk (KeepBut.blk hk (g' := gb210) (o := .cells #[.int .i64 0, .int .i64 0, .slice none 0 0] 42 (0, 0)) (by (with_reducible repeat (first | refine bkN ?_ _ | refine bkd ?_ | refine bka ?_ _)); exact BK210.out) NB210_213.out (by simp))
     have n3_ := Ad.mk (Kd.R_mono (Kd.R_keep (IsS98.apart (show IsS98 w _ g213 t211 t243 from by repeat (first | (with_reducible first | exact HI213.out | apply IsS98.alloc | apply IsS98.drewN | apply IsS98.drew | apply IsS98.set_1 | refine IsS98.far ?_ NB213_210.out _ | refine IsS98.far ?_ NB213_241.out _) | exact HI213.out)) (by (with_reducible repeat (first | apply Kd.R_alloc | apply Kd.R_drewN | apply Kd.R_drew)); exact HO230.out) (by decide)) hk (fun _ h => h.2)) (fun _ h => h.1))
     have n4_ := Ad.mk (Kd.R_mono (Kd.R_keep (IsS98.apart (show IsS98 w _ g213 t211 t243 from by repeat (first | (with_reducible first | exact HI213.out | apply IsS98.alloc | apply IsS98.drewN | apply IsS98.drew | apply IsS98.set_1 | refine IsS98.far ?_ NB213_210.out _ | refine IsS98.far ?_ NB213_241.out _) | exact HI213.out)) (by (with_reducible repeat (first | apply Kd.R_alloc | apply Kd.R_drewN | apply Kd.R_drew)); exact HO235.out) (by decide)) hk (fun _ h => h.2)) (fun _ h => h.1))
     have n5_ := Ad.mk (Kd.R_mono (Kd.R_keep (IsS98.apart (show IsS98 w _ g213 t211 t243 from by repeat (first | (with_reducible first | exact HI213.out | apply IsS98.alloc | apply IsS98.drewN | apply IsS98.drew | apply IsS98.set_1 | refine IsS98.far ?_ NB213_210.out _ | refine IsS98.far ?_ NB213_241.out _) | exact HI213.out)) (by (with_reducible repeat (first | apply Kd.R_alloc | apply Kd.R_drewN | apply Kd.R_drew)); exact HO240.out) (by decide)) hk (fun _ h => h.2)) (fun _ h => h.1))
     have n6_ := Ad.mk (KeepBut.blk hk (g' := gb241) (o := .cells #[.int .i64 t226, .int .i64 t231, .slice Ao34 y238.length co34] 42 (0, 0)) (by (with_reducible repeat (first | refine bkN ?_ _ | refine bkd ?_ | refine bka ?_ _)); exact BK241.out) NB241_213.out (by simp))
     have n7_ := Ad.mk (Kd.R_mono (Kd.R_keep (IsS98.apart (show IsS98 w _ g213 t211 t243 from by repeat (first | (with_reducible first | exact HI213.out | apply IsS98.alloc | apply IsS98.drewN | apply IsS98.drew | apply IsS98.set_1 | refine IsS98.far ?_ NB213_210.out _ | refine IsS98.far ?_ NB213_241.out _) | exact HI213.out)) (by (with_reducible repeat (first | apply Kd.R_alloc | apply Kd.R_drewN | apply Kd.R_drew)); exact HO246.out) (by decide)) hk (fun _ h => h.2)) (fun _ h => h.1))
     have n8_ := Ad.mk (hb)
     have n9_ := Ad.mk (hi)
     clear HO_6
     clear HO_7
     clear BK210
     clear HO230
     clear HO235
     clear HO240
     clear BK241
     clear HO246
     clear HB
     clear HI213
     have HO_6 := n0_
     have HO_7 := n1_
     have BK210 := n2_
     have HO230 := n3_
     have HO235 := n4_
     have HO240 := n5_
     have BK241 := n6_
     have HO246 := n7_
     have HB := n8_
     have HI213 := n9_
     clear n0_ n1_ n2_ n3_ n4_ n5_ n6_ n7_ n8_ n9_
     (try clear hb)
     (try clear hb2)
     (try clear hk)
     (try clear hi)
     refine hK.out _ _ ⟨(bkc BK241.out 0).trans rfl, (bkc BK241.out 1).trans rfl, (bkc BK241.out 2).trans rfl⟩ (fun hHeld => ?_)
     clear hK K
     refine norm_ (a' := ?_) ?_ ?_
     rotate_left
     ·show Act.put _ (some 41) _ = _
      simp only [Act.put, List.setIfInBounds_toArray, List.set_cons_zero, List.set_cons_succ, qa8, qa9]
      rfl
     refine one_ (i := 5) (N := some 42) #[true, true, true, true, true, true, false, false, false] rfl rfl (one_of HT_.out (by kernel_rfl)) (by decide) (fun K hK => ?_)
     refine value_ (w1 := ?_) (v := ?_) (by rfl) rfl ?_ ?_
     rotate_left 2
     ·go_simp
      constructor
      ·rfl
      ·rfl
     refine hK.out _ _ ⟨(bkc (bka BK241.out _) 0).trans rfl, (bkc (bka BK241.out _) 1).trans rfl, (bkc (bka BK241.out _) 2).trans rfl⟩ (fun hHeld => ?_)
     clear hK K
     refine norm_ (a' := ?_) ?_ ?_
     rotate_left
     ·show Act.put _ (some 42) _ = _
      simp only [Act.put, List.setIfInBounds_toArray, List.set_cons_zero, List.set_cons_succ, qa8, qa9]
      rfl
     refine one_ (i := 6) (N := some 43) #[true, true, true, true, true, true, true, false, false] rfl rfl (one_of HT_.out (by kernel_rfl)) (by decide) (fun K hK => ?_)
     refine Kd.R_append_step (Kd.int .i64) (w0 := w) w.heap.size (by rfl) (.tmp 38) (.tmp 42) 26 3 (.int .i64 0) 8 rfl Try.underlying26 info3 rfl (by decide) (by omega) (.slice Ao34 y238.length co34) y238 t247 [.int .i64 t247] (fun k_ => (w.heap.size ≤ k_) ∧ some k_ ≠ (v215 : Value).ownBlock ∧ some k_ ≠ (.slice Ao26 y228.length co26 : Value).ownBlock ∧ some k_ ≠ (.slice Ao30 y233.length co30 : Value).ownBlock ∧ some k_ ≠ (.slice Ao43 y244.length co43 : Value).ownBlock) (fun _ => False) rfl rfl ?aP (fun _ hk => hk.elim) ?aF ?aO ?aB ?aS ?aL ?_
     (case aP => exact rfl)
     (case aB => exact (by repeat (first | (with_reducible first | exact HB.out | apply bwa | apply bwN | apply bw1 | refine bws ?_ (IsS98.ge HI213.out) | refine bws ?_ GE210.out | refine bws ?_ GE241.out) | exact HB.out)))
     (case aF => exact (fun k_ hk => ⟨(Nat.le_trans (qa1 (by repeat (first | (with_reducible first | exact HB.out | apply bwa | apply bwN | apply bw1 | refine bws ?_ (IsS98.ge HI213.out) | refine bws ?_ GE210.out | refine bws ?_ GE241.out) | exact HB.out))) hk), Kd.fresh' (Kd.R_lt (by (with_reducible repeat (first | apply Kd.R_alloc | apply Kd.R_drewN | apply Kd.R_drew)); exact HO_6.out)) k_ hk, Kd.fresh' (Kd.R_lt (by (with_reducible repeat (first | apply Kd.R_alloc | apply Kd.R_drewN | apply Kd.R_drew)); exact HO230.out)) k_ hk, Kd.fresh' (Kd.R_lt (by (with_reducible repeat (first | apply Kd.R_alloc | apply Kd.R_drewN | apply Kd.R_drew)); exact HO235.out)) k_ hk, Kd.fresh' (Kd.R_lt (by (with_reducible repeat (first | apply Kd.R_alloc | apply Kd.R_drewN | apply Kd.R_drew)); exact HO246.out)) k_ hk⟩))
     (case aO => exact (by (with_reducible repeat (first | apply Kd.R_alloc | apply Kd.R_drewN | apply Kd.R_drew)); exact Kd.R_mono HO240.out (fun _ hk => ⟨hk.1.1.1.1.1, ⟨hk.1.1.1.2, ⟨hk.1.1.2, ⟨hk.1.2, hk.2⟩⟩⟩⟩)))
     (case aS => exact (qa1 (by repeat (first | (with_reducible first | exact HB.out | apply bwa | apply bwN | apply bw1 | refine bws ?_ (IsS98.ge HI213.out) | refine bws ?_ GE210.out | refine bws ?_ GE241.out) | exact HB.out))))
     (case aL => have := LMc22.out; omega)
     intro v250 w45 ho hb hg hat
     rw [← Ny249.out] at ho
     have n0_ := Ad.mk (Kd.R_after (ok := (fun k_ => (w.heap.size ≤ k_) ∧ some k_ ≠ (.slice Ao26 y228.length co26 : Value).ownBlock ∧ some k_ ≠ (.slice Ao30 y233.length co30 : Value).ownBlock ∧ some k_ ≠ (.slice Ao43 y244.length co43 : Value).ownBlock)) (by (with_reducible repeat (first | apply Kd.R_alloc | apply Kd.R_drewN | apply Kd.R_drew)); exact Kd.R_mono HO_6.out (fun _ hk => ⟨⟨hk.1.1.1.1, ⟨hk.1.1.1.2, ⟨hk.1.1.2, hk.2⟩⟩⟩, hk.1.2⟩)) hg hat)
     have n1_ := Ad.mk (Kd.N_afterv (ok := (fun k_ => (w.heap.size ≤ k_) ∧ some k_ ≠ (v215 : Value).ownBlock ∧ some k_ ≠ (.slice Ao26 y228.length co26 : Value).ownBlock ∧ some k_ ≠ (.slice Ao30 y233.length co30 : Value).ownBlock ∧ some k_ ≠ (.slice Ao43 y244.length co43 : Value).ownBlock ∧ k_ ≠ gb210 ∧ k_ ≠ g213 ∧ k_ ≠ gb241)) (by (with_reducible repeat (first | apply Kd.N_alloc | apply Kd.N_drewN | apply Kd.N_drew)); exact Kd.N_mono HO_7.out (fun _ hk => ⟨⟨hk.1.1.1.1.1.1, ⟨hk.1.1.1.1.1.2.1, ⟨hk.1.1.1.1.2, ⟨hk.1.1.1.2, ⟨hk.2, ⟨hk.1.1.1.1.1.2.2.1, ⟨hk.1.1.1.1.1.2.2.2, hk.1.2⟩⟩⟩⟩⟩⟩⟩, hk.1.1.2⟩)) hg hat)
     have n2_ := Ad.mk (blk_grown (g := gb210) (o := .cells #[.int .i64 0, .int .i64 0, .slice none 0 0] 42 (0, 0)) (by (with_reducible repeat (first | refine bkN ?_ _ | refine bkd ?_ | refine bka ?_ _)); exact BK210.out) hg (Kd.R_ne HO240.out BK210.out (by decide)))
     have n3_ := Ad.mk (IsS98.grown (by repeat (first | (with_reducible first | exact HI213.out | apply IsS98.alloc | apply IsS98.drewN | apply IsS98.drew | apply IsS98.set_1 | refine IsS98.far ?_ NB213_210.out _ | refine IsS98.far ?_ NB213_241.out _) | exact HI213.out)) hg (IsS98.own_ne HI213.out HO240.out (by decide)))
     have n4_ := Ad.mk (Kd.R_after (ok := (fun k_ => (w.heap.size ≤ k_) ∧ some k_ ≠ (v215 : Value).ownBlock ∧ some k_ ≠ (.slice Ao30 y233.length co30 : Value).ownBlock ∧ some k_ ≠ (.slice Ao43 y244.length co43 : Value).ownBlock)) (by (with_reducible repeat (first | apply Kd.R_alloc | apply Kd.R_drewN | apply Kd.R_drew)); exact Kd.R_mono HO230.out (fun _ hk => ⟨⟨hk.1.1.1.1.1, ⟨hk.1.1.1.2, ⟨hk.1.1.2, hk.2⟩⟩⟩, hk.1.2⟩)) hg hat)
     have n5_ := Ad.mk (Kd.R_after (ok := (fun k_ => (w.heap.size ≤ k_) ∧ some k_ ≠ (v215 : Value).ownBlock ∧ some k_ ≠ (.slice Ao26 y228.length co26 : Value).ownBlock ∧ some k_ ≠ (.slice Ao43 y244.length co43 : Value).ownBlock)) (by (with_reducible repeat (first | apply Kd.R_alloc | apply Kd.R_drewN | apply Kd.R_drew)); exact Kd.R_mono HO235.out (fun _ hk => ⟨⟨hk.1.1.1.1.1, ⟨hk.1.1.1.2, ⟨hk.1.1.2, hk.2⟩⟩⟩, hk.1.2⟩)) hg hat)
     have n6_ := Ad.mk (blk_grown (g := gb241) (o := .cells #[.int .i64 t226, .int .i64 t231, .slice Ao34 y238.length co34] 42 (0, 0)) (by (with_reducible repeat (first | refine bkN ?_ _ | refine bkd ?_ | refine bka ?_ _)); exact BK241.out) hg (Kd.R_ne HO240.out BK241.out (by decide)))
     have n7_ := Ad.mk (Kd.R_after (ok := (fun k_ => (w.heap.size ≤ k_) ∧ some k_ ≠ (v215 : Value).ownBlock ∧ some k_ ≠ (.slice Ao26 y228.length co26 : Value).ownBlock ∧ some k_ ≠ (.slice Ao30 y233.length co30 : Value).ownBlock)) (by (with_reducible repeat (first | apply Kd.R_alloc | apply Kd.R_drewN | apply Kd.R_drew)); exact Kd.R_mono HO246.out (fun _ hk => ⟨⟨hk.1.1.1.1.1, ⟨hk.1.1.1.2, ⟨hk.1.1.2, hk.1.2⟩⟩⟩, hk.2⟩)) hg hat)
     have n8_ := Ad.mk (hb)
     have n9_ := Ad.mk (ho)
     clear HO_6
     clear HO_7
     clear BK210
     clear HI213
     clear HO230
     clear HO235
     clear BK241
     clear HO246
     clear HB
     clear HO240
     have HO_6 := n0_
     have HO_7 := n1_
     have BK210 := n2_
     have HI213 := n3_
     have HO230 := n4_
     have HO235 := n5_
     have BK241 := n6_
     have HO246 := n7_
     have HB := n8_
     have HO251 := n9_
     clear n0_ n1_ n2_ n3_ n4_ n5_ n6_ n7_ n8_ n9_
     clear ho hb hg hat
     obtain ⟨Ao46, co46, eo46⟩ := Kd.R_slice HO251.out
     (first | subst eo46 | (injection eo46 with f1_ f2_ f3_; have f4_ := f1_.symm; have f5_ := f3_.symm; clear f1_ f2_ f3_; subst f4_; subst f5_))
     refine hK.out _ _ ⟨(bkc BK241.out 0).trans rfl, (bkc BK241.out 1).trans rfl, (bkc BK241.out 2).trans rfl⟩ (fun hHeld => ?_)
     clear hK K
     refine norm_ (a' := ?_) ?_ ?_
     rotate_left
     ·show Act.put _ (some 43) _ = _
      simp only [Act.put, List.setIfInBounds_toArray, List.set_cons_zero, List.set_cons_succ, qa8, qa9]
      rfl
     refine pure_ (i := 7) (N := some 44) (v := ?_) (a' := ?_) #[true, true, true, true, true, true, true, true, false] rfl rfl (any_of HT_.out (by kernel_rfl)) (fun _ _ _ h => h) (Or.inl ⟨by rfl, ?_⟩) ?_ ?_
     rotate_left
     ·intro w'
      go_simp
      with_reducible rfl
     rotate_left
     ·simp only [Act.put, List.setIfInBounds_toArray, List.set_cons_zero, List.set_cons_succ, qa8, qa9]
      rfl
     refine last_ (i := 8) (N := none) #[true, true, true, true, true, true, true, true, true] rfl rfl (one_of HT_.out (by kernel_rfl)) (by decide) (fun K hK => ?_)
     have hs47 : w45.cell? ⟨gb241, 2, none⟩ = some (.slice Ao34 y238.length co34) := (bkc BK241.out 2).trans rfl
     have hfs47 := qa0 BK241.out 2
     have hns47_0 := NB210_241.out
     have hms47_0 := NB241_210.out
     refine skip_ (w1 := ?_) (by rfl) rfl ?_ ?_
     rotate_left
     ·go_simp
      rfl
     refine hK.out _ _ ?_
     clear hK K
     refine done_ (done_of HT_.out (by kernel_rfl)) ?_
     try go_wp2
     have n0_ : Ad (Kd.R (Kd.int .i64) 3 (w45.setCell ⟨gb241, 2, none⟩ (.slice Ao46 y249.length co46)) w.heap.size (fun k_ => (w.heap.size ≤ k_) ∧ some k_ ≠ (.slice Ao26 y228.length co26 : Value).ownBlock ∧ some k_ ≠ (.slice Ao30 y233.length co30 : Value).ownBlock ∧ some k_ ≠ (.slice Ao43 y244.length co43 : Value).ownBlock ∧ some k_ ≠ (.slice Ao46 y249.length co46 : Value).ownBlock) v215 t214) := ⟨by (with_reducible repeat (first | apply Kd.R_alloc | apply Kd.R_drewN | apply Kd.R_drew)); exact Kd.R_mono (Kd.R_far (p := ⟨gb241, 2, none⟩) (Kd.R_types HO_6.out BK241.out (by decide)) (fun _ hk => hk.2) (.slice Ao46 y249.length co46)) (fun _ hk => ⟨hk.1.1.1, ⟨hk.1.1.2.1, ⟨hk.1.1.2.2.1, ⟨hk.1.1.2.2.2, hk.1.2⟩⟩⟩⟩)⟩
     have n1_ : Ad (Kd.N k42 42 (w45.setCell ⟨gb241, 2, none⟩ (.slice Ao46 y249.length co46)) w.heap.size (fun k_ => (w.heap.size ≤ k_) ∧ some k_ ≠ (v215 : Value).ownBlock ∧ some k_ ≠ (.slice Ao26 y228.length co26 : Value).ownBlock ∧ some k_ ≠ (.slice Ao30 y233.length co30 : Value).ownBlock ∧ some k_ ≠ (.slice Ao43 y244.length co43 : Value).ownBlock ∧ some k_ ≠ (.slice Ao46 y249.length co46 : Value).ownBlock ∧ k_ ≠ gb210 ∧ k_ ≠ g213 ∧ k_ ≠ gb241) u7 x7_4) := ⟨by (with_reducible repeat (first | apply Kd.N_alloc | apply Kd.N_drewN | apply Kd.N_drew)); exact Kd.N_mono (Kd.N_far (p := ⟨gb241, 2, none⟩) (Kd.N_mono HO_7.out (fun k_ hk => (⟨hk, hk.1.2.2.2.2.2.2.2⟩ : _ ∧ k_ ≠ gb241))) (fun _ hk => hk.2) (.slice Ao46 y249.length co46)) (fun _ hk => ⟨hk.1.1.1, ⟨hk.1.1.2.1, ⟨hk.1.1.2.2.1, ⟨hk.1.1.2.2.2.1, ⟨hk.1.1.2.2.2.2.1, ⟨hk.1.2, ⟨hk.1.1.2.2.2.2.2.1, ⟨hk.1.1.2.2.2.2.2.2.1, hk.1.1.2.2.2.2.2.2.2⟩⟩⟩⟩⟩⟩⟩⟩)⟩
     have n2_ : Ad (Kd.R (Kd.int .i64) 3 (w45.setCell ⟨gb241, 2, none⟩ (.slice Ao46 y249.length co46)) w.heap.size (fun k_ => (w.heap.size ≤ k_) ∧ some k_ ≠ (v215 : Value).ownBlock ∧ some k_ ≠ (.slice Ao30 y233.length co30 : Value).ownBlock ∧ some k_ ≠ (.slice Ao43 y244.length co43 : Value).ownBlock ∧ some k_ ≠ (.slice Ao46 y249.length co46 : Value).ownBlock) (.slice Ao26 y228.length co26) y228) := ⟨by (with_reducible repeat (first | apply Kd.R_alloc | apply Kd.R_drewN | apply Kd.R_drew)); exact Kd.R_mono (Kd.R_far (p := ⟨gb241, 2, none⟩) (Kd.R_types HO230.out BK241.out (by decide)) (fun _ hk => hk.2) (.slice Ao46 y249.length co46)) (fun _ hk => ⟨hk.1.1.1, ⟨hk.1.1.2.1, ⟨hk.1.1.2.2.1, ⟨hk.1.1.2.2.2, hk.1.2⟩⟩⟩⟩)⟩
     have n3_ : Ad (Kd.R (Kd.int .i64) 3 (w45.setCell ⟨gb241, 2, none⟩ (.slice Ao46 y249.length co46)) w.heap.size (fun k_ => (w.heap.size ≤ k_) ∧ some k_ ≠ (v215 : Value).ownBlock ∧ some k_ ≠ (.slice Ao26 y228.length co26 : Value).ownBlock ∧ some k_ ≠ (.slice Ao43 y244.length co43 : Value).ownBlock ∧ some k_ ≠ (.slice Ao46 y249.length co46 : Value).ownBlock) (.slice Ao30 y233.length co30) y233) := ⟨by (with_reducible repeat (first | apply Kd.R_alloc | apply Kd.R_drewN | apply Kd.R_drew)); exact Kd.R_mono (Kd.R_far (p := ⟨gb241, 2, none⟩) (Kd.R_types HO235.out BK241.out (by decide)) (fun _ hk => hk.2) (.slice Ao46 y249.length co46)) (fun _ hk => ⟨hk.1.1.1, ⟨hk.1.1.2.1, ⟨hk.1.1.2.2.1, ⟨hk.1.1.2.2.2, hk.1.2⟩⟩⟩⟩)⟩
     have n4_ : Ad (Kd.R (Kd.int .i64) 3 (w45.setCell ⟨gb241, 2, none⟩ (.slice Ao46 y249.length co46)) w.heap.size (fun k_ => (w.heap.size ≤ k_) ∧ some k_ ≠ (v215 : Value).ownBlock ∧ some k_ ≠ (.slice Ao26 y228.length co26 : Value).ownBlock ∧ some k_ ≠ (.slice Ao30 y233.length co30 : Value).ownBlock ∧ some k_ ≠ (.slice Ao46 y249.length co46 : Value).ownBlock) (.slice Ao43 y244.length co43) y244) := ⟨by (with_reducible repeat (first | apply Kd.R_alloc | apply Kd.R_drewN | apply Kd.R_drew)); exact Kd.R_mono (Kd.R_far (p := ⟨gb241, 2, none⟩) (Kd.R_types HO246.out BK241.out (by decide)) (fun _ hk => hk.2) (.slice Ao46 y249.length co46)) (fun _ hk => ⟨hk.1.1.1, ⟨hk.1.1.2.1, ⟨hk.1.1.2.2.1, ⟨hk.1.1.2.2.2, hk.1.2⟩⟩⟩⟩)⟩
     have n5_ : Ad (Kd.R (Kd.int .i64) 3 (w45.setCell ⟨gb241, 2, none⟩ (.slice Ao46 y249.length co46)) w.heap.size (fun k_ => (w.heap.size ≤ k_) ∧ some k_ ≠ (v215 : Value).ownBlock ∧ some k_ ≠ (.slice Ao26 y228.length co26 : Value).ownBlock ∧ some k_ ≠ (.slice Ao30 y233.length co30 : Value).ownBlock ∧ some k_ ≠ (.slice Ao43 y244.length co43 : Value).ownBlock) (.slice Ao46 y249.length co46) y249) := ⟨by (with_reducible repeat (first | apply Kd.R_alloc | apply Kd.R_drewN | apply Kd.R_drew)); exact Kd.R_mono (Kd.R_far (p := ⟨gb241, 2, none⟩) (Kd.R_types HO251.out BK241.out (by decide)) (fun _ hk => hk.2) (.slice Ao46 y249.length co46)) (fun _ hk => ⟨hk.1.1, ⟨hk.1.2.1, ⟨hk.1.2.2.1, ⟨hk.1.2.2.2.1, hk.1.2.2.2.2⟩⟩⟩⟩)⟩
     have n6_ : Ad ((w45.setCell ⟨gb241, 2, none⟩ (.slice Ao46 y249.length co46)).heap[gb210]? = some (.cells #[.int .i64 0, .int .i64 0, .slice none 0 0] 42 (0, 0))) := ⟨by (with_reducible repeat (first | refine bkN ?_ _ | refine bkd ?_ | refine bka ?_ _)); refine blk_far ?_ NB210_241.out _; (with_reducible repeat (first | refine bkN ?_ _ | refine bkd ?_ | refine bka ?_ _)); exact BK210.out⟩
     have n7_ : Ad ((w45.setCell ⟨gb241, 2, none⟩ (.slice Ao46 y249.length co46)).heap[gb241]? = some (.cells #[.int .i64 t226, .int .i64 t231, .slice Ao46 y249.length co46] 42 (0, 0))) := ⟨by (with_reducible repeat (first | refine bkN ?_ _ | refine bkd ?_ | refine bka ?_ _)); refine blk_put (cs := #[.int .i64 t226, .int .i64 t231, .slice Ao34 y238.length co34]) ?_ 2 _ rfl; (with_reducible repeat (first | refine bkN ?_ _ | refine bkd ?_ | refine bka ?_ _)); exact BK241.out⟩
     have n8_ : Ad (IsS98 w (w45.setCell ⟨gb241, 2, none⟩ (.slice Ao46 y249.length co46)) g213 t211 t248) := ⟨by repeat (first | (with_reducible first | exact HI213.out | apply IsS98.alloc | apply IsS98.drewN | apply IsS98.drew | apply IsS98.set_1 | refine IsS98.far ?_ NB213_210.out _ | refine IsS98.far ?_ NB213_241.out _) | exact HI213.out)⟩
     have n9_ : Ad (Below w.heap.size w (w45.setCell ⟨gb241, 2, none⟩ (.slice Ao46 y249.length co46))) := ⟨by repeat (first | (with_reducible first | exact HB.out | apply bwa | apply bwN | apply bw1 | refine bws ?_ (IsS98.ge HI213.out) | refine bws ?_ GE210.out | refine bws ?_ GE241.out) | exact HB.out)⟩
     (try clear HO_6)
     (try clear HO_7)
     (try clear HO230)
     (try clear HO235)
     (try clear HO246)
     (try clear HO251)
     (try clear BK210)
     (try clear BK241)
     (try clear HI213)
     (try clear HB)
     generalize (w45.setCell ⟨gb241, 2, none⟩ (.slice Ao46 y249.length co46)) = w48 at n0_ n1_ n2_ n3_ n4_ n5_ n6_ n7_ n8_ n9_ ⊢
     have HO_6 := n0_
     have HO_7 := n1_
     have HO230 := n2_
     have HO235 := n3_
     have HO246 := n4_
     have HO251 := n5_
     have BK210 := n6_
     have BK241 := n7_
     have HI213 := n8_
     have HB := n9_
     clear n0_ n1_ n2_ n3_ n4_ n5_ n6_ n7_ n8_ n9_
     have n0_ := Ad.mk (Kd.R_drew HO_6.out)
     have n1_ := Ad.mk (Kd.N_drew HO_7.out)
     have n2_ := Ad.mk (Kd.R_drew HO230.out)
     have n3_ := Ad.mk (Kd.R_drew HO235.out)
     have n4_ := Ad.mk (Kd.R_drew HO246.out)
     have n5_ := Ad.mk (Kd.R_drew HO251.out)
     have n6_ := Ad.mk (bkd BK210.out)
     have n7_ := Ad.mk (bkd BK241.out)
     have n8_ := Ad.mk (IsS98.drew HI213.out)
     have n9_ := Ad.mk (bw1 HB.out)
     clear HO_6
     clear HO_7
     clear HO230
     clear HO235
     clear HO246
     clear HO251
     clear BK210
     clear BK241
     clear HI213
     clear HB
     have HO_6 := n0_
     have HO_7 := n1_
     have HO230 := n2_
     have HO235 := n3_
     have HO246 := n4_
     have HO251 := n5_
     have BK210 := n6_
     have BK241 := n7_
     have HI213 := n8_
     have HB := n9_
     clear n0_ n1_ n2_ n3_ n4_ n5_ n6_ n7_ n8_ n9_
     refine start_ (n := 6) (S := fun w' => w'.cell? ⟨gb241, 0, none⟩ = some (.int .i64 t226) ∧ w'.cell? ⟨gb241, 1, none⟩ = some (.int .i64 t231) ∧ w'.cell? ⟨gb241, 2, none⟩ = some (.slice Ao46 y249.length co46)) (ds := []) #[false, false, false, false, false, false] (by kernel_rfl) rfl rfl ⟨(bkc BK241.out 0).trans rfl, (bkc BK241.out 1).trans rfl, (bkc BK241.out 2).trans rfl⟩ (fun hHeld => ?_)
     generalize w48.drew = w49 at HO_6 HO_7 HO230 HO235 HO246 HO251 BK210 BK241 HI213 HB hHeld ⊢
     refine pure_ (i := 0) (N := some 45) (v := ?_) (a' := ?_) #[true, false, false, false, false, false] rfl rfl (by kernel_rfl) (fun _ _ _ h => h) (Or.inl ⟨by rfl, ?_⟩) ?_ ?_
     rotate_left
     ·intro w'
      go_simp
      with_reducible rfl
     rotate_left
     ·simp only [Act.put, List.setIfInBounds_toArray, List.set_cons_zero, List.set_cons_succ, qa8, qa9]
      rfl
     refine pure_ (i := 1) (N := some 46) (v := ?_) (a' := ?_) #[true, true, false, false, false, false] rfl rfl (by kernel_rfl) (fun _ _ _ h => h) (Or.inl ⟨by rfl, ?_⟩) ?_ ?_
     rotate_left
     ·intro w'
      go_simp
      with_reducible rfl
     rotate_left
     ·simp only [Act.put, List.setIfInBounds_toArray, List.set_cons_zero, List.set_cons_succ, qa8, qa9]
      rfl
     refine pure_ (i := 3) (N := some 2) (v := ?_) (a' := ?_) #[true, true, false, true, false, false] rfl rfl (by kernel_rfl) (fun _ _ _ h => h) (Or.inl ⟨by rfl, ?_⟩) ?_ ?_
     rotate_left
     ·intro w'
      go_simp
      with_reducible rfl
     rotate_left
     ·simp only [Act.put, List.setIfInBounds_toArray, List.set_cons_zero, List.set_cons_succ, qa8, qa9]
      rfl
     refine pure_ (i := 4) (N := some 3) (v := ?_) (a' := ?_) #[true, true, false, true, true, false] rfl rfl (by kernel_rfl) (fun _ _ _ h => h) (Or.inl ⟨by rfl, ?_⟩) ?_ ?_
     rotate_left
     ·intro w'
      go_simp
      with_reducible rfl
     rotate_left
     ·simp only [Act.put, List.setIfInBounds_toArray, List.set_cons_zero, List.set_cons_succ, qa8, qa9]
      rfl
     refine take_ (i := 2) (N := some 47) (v := ?_) (a' := ?_) #[true, true, true, true, true, false] rfl rfl (by kernel_rfl) (fun _ _ _ h => h) (Or.inl ⟨by rfl, ?_⟩) hHeld ?_ ?_
     rotate_left
     ·rintro w' ⟨s0, s1, s2⟩
      go_simp
      with_reducible rfl
     rotate_left
     ·simp only [Act.put, List.setIfInBounds_toArray, List.set_cons_zero, List.set_cons_succ, qa8, qa9]
      rfl
     refine one_ (i := 5) (N := none) #[true, true, true, true, true, true] rfl rfl (by kernel_rfl) (by decide) (fun K hK => ?_)
     have hs50 : w49.cell? ⟨gb210, 0, none⟩ = some (.int .i64 0) := (bkc BK210.out 0).trans rfl
     have hfs50 := qa0 BK210.out 0
     have hns50_1 := NB241_210.out
     have hms50_1 := NB210_241.out
     have hs51 : w49.cell? ⟨gb210, 1, none⟩ = some (.int .i64 0) := (bkc BK210.out 1).trans rfl
     have hfs51 := qa0 BK210.out 1
     have hns51_1 := NB241_210.out
     have hms51_1 := NB210_241.out
     have hs52 : w49.cell? ⟨gb210, 2, none⟩ = some (.slice none 0 0) := (bkc BK210.out 2).trans rfl
     have hfs52 := qa0 BK210.out 2
     have hns52_1 := NB241_210.out
     have hms52_1 := NB210_241.out
     refine skip_ (w1 := ?_) (by rfl) rfl ?_ ?_
     rotate_left
     ·go_simp
      rfl
     refine hK.out _ _ ⟨((cell_far (p := ⟨gb210, _, none⟩) NB241_210.out _).trans (((cell_far (p := ⟨gb210, _, none⟩) NB241_210.out _).trans (((cell_far (p := ⟨gb210, _, none⟩) NB241_210.out _).trans (hHeld.1)))))), ((cell_far (p := ⟨gb210, _, none⟩) NB241_210.out _).trans (((cell_far (p := ⟨gb210, _, none⟩) NB241_210.out _).trans (((cell_far (p := ⟨gb210, _, none⟩) NB241_210.out _).trans (hHeld.2.1)))))), ((cell_far (p := ⟨gb210, _, none⟩) NB241_210.out _).trans (((cell_far (p := ⟨gb210, _, none⟩) NB241_210.out _).trans (((cell_far (p := ⟨gb210, _, none⟩) NB241_210.out _).trans (hHeld.2.2))))))⟩ (fun hHeld => ?_)
     clear hK K
     refine done_ (by kernel_rfl) ?_
     try go_wp2
     refine bodyPost_ret (results_list (rs := [.tmp 2, .tmp 3, .cell 4 42]) rfl (by simp) (.tmp (.tmp (.cell gb210 42 #[.int .i64 t226, .int .i64 t231, .slice Ao46 y249.length co46] (0, 0) _ rfl (by (with_reducible repeat (first | refine bkN ?_ _ | refine bkd ?_ | refine bka ?_ _)); refine blk_put (cs := #[.int .i64 t226, .int .i64 t231, .slice none 0 0]) ?_ 2 _ rfl; (with_reducible repeat (first | refine bkN ?_ _ | refine bkd ?_ | refine bka ?_ _)); refine blk_put (cs := #[.int .i64 t226, .int .i64 0, .slice none 0 0]) ?_ 1 _ rfl; (with_reducible repeat (first | refine bkN ?_ _ | refine bkd ?_ | refine bka ?_ _)); refine blk_put (cs := #[.int .i64 0, .int .i64 0, .slice none 0 0]) ?_ 0 _ rfl; (with_reducible repeat (first | refine bkN ?_ _ | refine bkd ?_ | refine bka ?_ _)); exact BK210.out) Try.underlying42 rfl (by kernel_rfl) .nil)))) rfl ?_
     exact ⟨_, _, _, by first | rfl | (simp [errW_none, errW_some] <;> rfl) | (simp [*, errW_none, errW_some] <;> rfl), by (with_reducible repeat (first | apply Kd.R_alloc | apply Kd.R_drewN | apply Kd.R_drew)); exact Kd.R_mono (Kd.R_far (p := ⟨gb210, 2, none⟩) (Kd.R_far (p := ⟨gb210, 1, none⟩) (Kd.R_far (p := ⟨gb210, 0, none⟩) (Kd.R_types HO_6.out BK210.out (by decide)) (fun _ hk => hk.2) (.int .i64 t226)) (fun _ hk => hk.2) (.int .i64 t231)) (fun _ hk => hk.2) (.slice Ao46 y249.length co46)) (fun _ hk => hk.1.1), by (with_reducible repeat (first | apply Kd.N_alloc | apply Kd.N_drewN | apply Kd.N_drew)); exact Kd.N_mono (Kd.N_far (p := ⟨gb210, 2, none⟩) (Kd.N_far (p := ⟨gb210, 1, none⟩) (Kd.N_far (p := ⟨gb210, 0, none⟩) (Kd.N_mono HO_7.out (fun k_ hk => (⟨hk, hk.2.2.2.2.2.2.1⟩ : _ ∧ k_ ≠ gb210))) (fun _ hk => hk.2) (.int .i64 t226)) (fun _ hk => hk.2) (.int .i64 t231)) (fun _ hk => hk.2) (.slice Ao46 y249.length co46)) (fun _ hk => ⟨hk.1.1, hk.1.2.1⟩), Kd.R_V (by (with_reducible repeat (first | apply Kd.R_alloc | apply Kd.R_drewN | apply Kd.R_drew)); exact Kd.R_mono (Kd.R_far (p := ⟨gb210, 2, none⟩) (Kd.R_far (p := ⟨gb210, 1, none⟩) (Kd.R_far (p := ⟨gb210, 0, none⟩) (Kd.R_types (Kd.R_apart' HO251.out (Kd.N_typed HO_7.out) (by decide)) BK210.out (by decide)) (fun _ hk => hk.2) (.int .i64 t226)) (fun _ hk => hk.2) (.int .i64 t231)) (fun _ hk => hk.2) (.slice Ao46 y249.length co46)) (fun _ hk => ⟨hk.1.1.1, ⟨hk.1.1.2.1, hk.1.2⟩⟩)), by repeat (first | (with_reducible first | exact HB.out | apply bwa | apply bwN | apply bw1 | refine bws ?_ (IsS98.ge HI213.out) | refine bws ?_ GE210.out | refine bws ?_ GE241.out) | exact HB.out)⟩
    ·rw [if_neg c22] at H
     exact absurd H (by simp)
   ·rw [if_neg c20] at H
    have c20b0 : (t242 == 0) = false := beq_eq_false_iff_ne.mpr c20
    have c20b1 : (t242 != 0) = true := bne_iff_ne.mpr c20
    simp only [Option.some.injEq, Prod.mk.injEq] at H
    obtain ⟨rfl, rfl, rfl, rfl, rfl⟩ := H
    try go_wp2_with (first | ((with_reducible refine qa7 (f := 58) rfl ?_); refine goesL_ (some 25) rfl rfl Try.func58 (by kernel_rfl) rfl #[.pointer (some ⟨g213, 0, none⟩), .int .i64 3] rfl (by (try simp only [List.map_toArray, List.map_cons, List.map_nil]); first | done | rfl | (simp only [List.length_drop, List.length_take]; rfl)) ?_; (with_reducible refine (spec_reader_pick.calls kj4 g213 t211 t222 3 t226 t227 w _ ?side1 ?side2 A16.out).mono ?_); (case side1 => repeat (first | (with_reducible first | exact HI213.out | apply IsS98.alloc | apply IsS98.drewN | apply IsS98.drew | apply IsS98.set_1 | refine IsS98.far ?_ NB213_210.out _) | exact HI213.out)); (case side2 => repeat (first | (with_reducible first | exact HB.out | apply bwa | apply bwN | apply bw1 | refine bws ?_ (IsS98.ge HI213.out) | refine bws ?_ GE210.out) | exact HB.out)); rintro e w53 ⟨rfl, hi, hb, hk⟩; refine ⟨_, rfl, ?_⟩; have n0_ := Ad.mk (Kd.R_mono (Kd.R_keep (IsS98.apart (show IsS98 w _ g213 t211 t222 from by repeat (first | (with_reducible first | exact HI213.out | apply IsS98.alloc | apply IsS98.drewN | apply IsS98.drew | apply IsS98.set_1 | refine IsS98.far ?_ NB213_210.out _) | exact HI213.out)) (by (with_reducible repeat (first | apply Kd.R_alloc | apply Kd.R_drewN | apply Kd.R_drew)); exact HO_6.out) (by decide)) hk (fun _ h => h.2)) (fun _ h => h.1)); have n1_ := Ad.mk (Kd.N_mono (Kd.N_keep (Kd.N_mono (ok := fun k_ => (((w.heap.size ≤ k_)) ∧ (some k_ ≠ (v215 : Value).ownBlock ∧ (k_ ≠ gb210 ∧ k_ ≠ g213)))) (by (with_reducible repeat (first | apply Kd.N_alloc | apply Kd.N_drewN | apply Kd.N_drew)); exact HO_7.out) (fun k_ hk_ => (⟨hk_, hk_.2.2.2⟩ : _ ∧ k_ ≠ g213))) hk (fun _ h => h.2)) (fun _ h => h.1)); have n2_ := Ad.mk (KeepBut.blk hk (g' := gb210) (o := .cells #[.int .i64 0, .int .i64 0, .slice none 0 0] 42 (0, 0)) (by (with_reducible repeat (first | refine bkN ?_ _ | refine bkd ?_ | refine bka ?_ _)); exact BK210.out) NB210_213.out (by simp)); have n3_ := Ad.mk (hb); have n4_ := Ad.mk (hi); clear HO_6; clear HO_7; clear BK210; clear HB; clear HI213; have HO_6 := n0_; have HO_7 := n1_; have BK210 := n2_; have HB := n3_; have HI213 := n4_; clear n0_ n1_ n2_ n3_ n4_; (try clear hb); (try clear hb2); (try clear hk); (try clear hi)) | ((with_reducible refine gate_dst (N := 27) rfl ?_); refine Kd.R_lit (Kd.int .i64) _ 3 ?hg (N := 27) ?hd (xs := ([7, 0, (-1)] : List Int)) (inner := [.int .i64 7, .int .i64 0, .int .i64 (-1)]) (ok := fun _ => True) (okp := fun _ => True) ?hr ?hp (fun _ hk => hk) trivial (Below.refl _ _) (Nat.le_refl _) (by simp) ?_; (case hd => rfl); (case hg => rfl); (case hr => first | (go_simp; done) | (go_simp; rfl)); (case hp => exact (Reps.one (show Kd.M (Kd.int .i64) _ _ _ 7 [.int .i64 7] from rfl) (Reps.one (show Kd.M (Kd.int .i64) _ _ _ 0 [.int .i64 0] from rfl) (Reps.one (show Kd.M (Kd.int .i64) _ _ _ (-1) [.int .i64 (-1)] from rfl) (Reps.none _ _))))); intro v229 w54 ho55 hb hg_ hnew_; clear hg_ hnew_; (first | rw [← Ny228.out] at ho55 | (simp only [Int.reduceToNat] at ho55; rw [← Ny228.out] at ho55)); have n0_ := Ad.mk (Kd.R_elder' (by (with_reducible repeat (first | apply Kd.R_alloc | apply Kd.R_drewN | apply Kd.R_drew)); exact HO_6.out) (Kd.R_base ho55) hb); have n1_ := Ad.mk (Kd.N_elder' (by (with_reducible repeat (first | apply Kd.N_alloc | apply Kd.N_drewN | apply Kd.N_drew)); exact HO_7.out) (Kd.R_base ho55) hb); have n2_ := Ad.mk (Kd.R_lower (Kd.R_new' (Kd.R_newM (M := fun k_ => (w.heap.size ≤ k_)) ho55 (qa1 (by repeat (first | (with_reducible first | exact HB.out | apply bwa | apply bwN | apply bw1 | refine bws ?_ (IsS98.ge HI213.out) | refine bws ?_ GE210.out) | exact HB.out))) (fun k_ h_ => h_)) (Kd.R_lt (by (with_reducible repeat (first | apply Kd.R_alloc | apply Kd.R_drewN | apply Kd.R_drew)); exact HO_6.out))) (qa1 (by repeat (first | (with_reducible first | exact HB.out | apply bwa | apply bwN | apply bw1 | refine bws ?_ (IsS98.ge HI213.out) | refine bws ?_ GE210.out) | exact HB.out)))); have n3_ := Ad.mk (qa6 (g := gb210) (o := .cells #[.int .i64 0, .int .i64 0, .slice none 0 0] 42 (0, 0)) (by (with_reducible repeat (first | refine bkN ?_ _ | refine bkd ?_ | refine bka ?_ _)); exact BK210.out) hb); have n4_ := Ad.mk (IsS98.below (by repeat (first | (with_reducible first | exact HI213.out | apply IsS98.alloc | apply IsS98.drewN | apply IsS98.drew | apply IsS98.set_1 | refine IsS98.far ?_ NB213_210.out _) | exact HI213.out)) hb); have n5_ := Ad.mk (qa5 (by repeat (first | (with_reducible first | exact HB.out | apply bwa | apply bwN | apply bw1 | refine bws ?_ (IsS98.ge HI213.out) | refine bws ?_ GE210.out) | exact HB.out)) hb); clear HO_6; clear HO_7; clear BK210; clear HI213; clear HB; have HO_6 := n0_; have HO_7 := n1_; have HO230 := n2_; have BK210 := n3_; have HI213 := n4_; have HB := n5_; clear n0_ n1_ n2_ n3_ n4_ n5_; clear hb ho55; obtain ⟨Ao56, co56, eo56⟩ := Kd.R_slice HO230.out; subst eo56) | ((with_reducible refine qa7 (f := 59) rfl ?_); refine goesL_ (some 28) rfl rfl Try.func59 (by kernel_rfl) rfl #[.pointer (some ⟨g213, 0, none⟩), .slice Ao56 y228.length co56] rfl (by (try simp only [List.map_toArray, List.map_cons, List.map_nil]); first | done | rfl | (simp only [List.length_drop, List.length_take]; rfl)) ?_; (with_reducible refine (spec_reader_one.calls kj4 g213 t211 t227 _ _ y228 t231 t232 w _ ?side1 ?side2 ?side3 ?side4 ?side5 A17.out).mono ?_); (case side1 => repeat (first | (with_reducible first | exact HI213.out | apply IsS98.alloc | apply IsS98.drewN | apply IsS98.drew | apply IsS98.set_1 | refine IsS98.far ?_ NB213_210.out _) | exact HI213.out)); (case side2 => repeat (first | (with_reducible first | exact HB.out | apply bwa | apply bwN | apply bw1 | refine bws ?_ (IsS98.ge HI213.out) | refine bws ?_ GE210.out) | exact HB.out)); (case side3 => repeat (first | exact (Kd.R_reads' HO230.out).2.2 | (with_reducible refine Kd.C_alloc ?_ _) | (with_reducible refine Kd.C_drewN ?_ _) | (with_reducible refine Kd.C_drew ?_))); (case side4 => exact (Kd.R_reads' HO230.out).2.1); (case side5 => exact far_slice (IsS98.own_ne HI213.out HO230.out (by decide))); rintro e w57 ⟨rfl, hi, hb, hk⟩; refine ⟨_, rfl, ?_⟩; have n0_ := Ad.mk (Kd.R_mono (Kd.R_keep (IsS98.apart (show IsS98 w _ g213 t211 t227 from by repeat (first | (with_reducible first | exact HI213.out | apply IsS98.alloc | apply IsS98.drewN | apply IsS98.drew | apply IsS98.set_1 | refine IsS98.far ?_ NB213_210.out _) | exact HI213.out)) (by (with_reducible repeat (first | apply Kd.R_alloc | apply Kd.R_drewN | apply Kd.R_drew)); exact HO_6.out) (by decide)) hk (fun _ h => h.2)) (fun _ h => h.1)); have n1_ := Ad.mk (Kd.N_mono (Kd.N_keep (Kd.N_mono (ok := fun k_ => ((((w.heap.size ≤ k_)) ∧ (some k_ ≠ (v215 : Value).ownBlock ∧ (k_ ≠ gb210 ∧ k_ ≠ g213))) ∧ some k_ ≠ (.slice Ao56 y228.length co56 : Value).ownBlock)) (by (with_reducible repeat (first | apply Kd.N_alloc | apply Kd.N_drewN | apply Kd.N_drew)); exact HO_7.out) (fun k_ hk_ => (⟨hk_, hk_.1.2.2.2⟩ : _ ∧ k_ ≠ g213))) hk (fun _ h => h.2)) (fun _ h => h.1)); have n2_ := Ad.mk (KeepBut.blk hk (g' := gb210) (o := .cells #[.int .i64 0, .int .i64 0, .slice none 0 0] 42 (0, 0)) (by (with_reducible repeat (first | refine bkN ?_ _ | refine bkd ?_ | refine bka ?_ _)); exact BK210.out) NB210_213.out (by simp)); have n3_ := Ad.mk (Kd.R_mono (Kd.R_keep (IsS98.apart (show IsS98 w _ g213 t211 t227 from by repeat (first | (with_reducible first | exact HI213.out | apply IsS98.alloc | apply IsS98.drewN | apply IsS98.drew | apply IsS98.set_1 | refine IsS98.far ?_ NB213_210.out _) | exact HI213.out)) (by (with_reducible repeat (first | apply Kd.R_alloc | apply Kd.R_drewN | apply Kd.R_drew)); exact HO230.out) (by decide)) hk (fun _ h => h.2)) (fun _ h => h.1)); have n4_ := Ad.mk (hb); have n5_ := Ad.mk (hi); clear HO_6; clear HO_7; clear BK210; clear HO230; clear HB; clear HI213; have HO_6 := n0_; have HO_7 := n1_; have BK210 := n2_; have HO230 := n3_; have HB := n4_; have HI213 := n5_; clear n0_ n1_ n2_ n3_ n4_ n5_; (try clear hb); (try clear hb2); (try clear hk); (try clear hi)) | ((with_reducible refine gate_dst (N := 30) rfl ?_); refine Kd.R_lit (Kd.int .i64) _ 3 ?hg (N := 30) ?hd (xs := ([1, 2, 0] : List Int)) (inner := [.int .i64 1, .int .i64 2, .int .i64 0]) (ok := fun _ => True) (okp := fun _ => True) ?hr ?hp (fun _ hk => hk) trivial (Below.refl _ _) (Nat.le_refl _) (by simp) ?_; (case hd => rfl); (case hg => rfl); (case hr => first | (go_simp; done) | (go_simp; rfl)); (case hp => exact (Reps.one (show Kd.M (Kd.int .i64) _ _ _ 1 [.int .i64 1] from rfl) (Reps.one (show Kd.M (Kd.int .i64) _ _ _ 2 [.int .i64 2] from rfl) (Reps.one (show Kd.M (Kd.int .i64) _ _ _ 0 [.int .i64 0] from rfl) (Reps.none _ _))))); intro v234 w58 ho59 hb hg_ hnew_; clear hg_ hnew_; (first | rw [← Ny233.out] at ho59 | (simp only [Int.reduceToNat] at ho59; rw [← Ny233.out] at ho59)); have n0_ := Ad.mk (Kd.R_elder' (by (with_reducible repeat (first | apply Kd.R_alloc | apply Kd.R_drewN | apply Kd.R_drew)); exact HO_6.out) (Kd.R_base ho59) hb); have n1_ := Ad.mk (Kd.N_elder' (by (with_reducible repeat (first | apply Kd.N_alloc | apply Kd.N_drewN | apply Kd.N_drew)); exact HO_7.out) (Kd.R_base ho59) hb); have n2_ := Ad.mk (Kd.R_elder' (by (with_reducible repeat (first | apply Kd.R_alloc | apply Kd.R_drewN | apply Kd.R_drew)); exact HO230.out) (Kd.R_base ho59) hb); have n3_ := Ad.mk (Kd.R_lower (Kd.R_new' (Kd.R_new' (Kd.R_newM (M := fun k_ => (w.heap.size ≤ k_)) ho59 (qa1 (by repeat (first | (with_reducible first | exact HB.out | apply bwa | apply bwN | apply bw1 | refine bws ?_ (IsS98.ge HI213.out) | refine bws ?_ GE210.out) | exact HB.out))) (fun k_ h_ => h_)) (Kd.R_lt (by (with_reducible repeat (first | apply Kd.R_alloc | apply Kd.R_drewN | apply Kd.R_drew)); exact HO_6.out))) (Kd.R_lt (by (with_reducible repeat (first | apply Kd.R_alloc | apply Kd.R_drewN | apply Kd.R_drew)); exact HO230.out))) (qa1 (by repeat (first | (with_reducible first | exact HB.out | apply bwa | apply bwN | apply bw1 | refine bws ?_ (IsS98.ge HI213.out) | refine bws ?_ GE210.out) | exact HB.out)))); have n4_ := Ad.mk (qa6 (g := gb210) (o := .cells #[.int .i64 0, .int .i64 0, .slice none 0 0] 42 (0, 0)) (by (with_reducible repeat (first | refine bkN ?_ _ | refine bkd ?_ | refine bka ?_ _)); exact BK210.out) hb); have n5_ := Ad.mk (IsS98.below (by repeat (first | (with_reducible first | exact HI213.out | apply IsS98.alloc | apply IsS98.drewN | apply IsS98.drew | apply IsS98.set_1 | refine IsS98.far ?_ NB213_210.out _) | exact HI213.out)) hb); have n6_ := Ad.mk (qa5 (by repeat (first | (with_reducible first | exact HB.out | apply bwa | apply bwN | apply bw1 | refine bws ?_ (IsS98.ge HI213.out) | refine bws ?_ GE210.out) | exact HB.out)) hb); clear HO_6; clear HO_7; clear HO230; clear BK210; clear HI213; clear HB; have HO_6 := n0_; have HO_7 := n1_; have HO230 := n2_; have HO235 := n3_; have BK210 := n4_; have HI213 := n5_; have HB := n6_; clear n0_ n1_ n2_ n3_ n4_ n5_ n6_; clear hb ho59; obtain ⟨Ao60, co60, eo60⟩ := Kd.R_slice HO235.out; subst eo60) | ((with_reducible refine qa7 (f := 59) rfl ?_); refine goesL_ (some 31) rfl rfl Try.func59 (by kernel_rfl) rfl #[.pointer (some ⟨g213, 0, none⟩), .slice Ao60 y233.length co60] rfl (by (try simp only [List.map_toArray, List.map_cons, List.map_nil]); first | done | rfl | (simp only [List.length_drop, List.length_take]; rfl)) ?_; (with_reducible refine (spec_reader_one.calls kj4 g213 t211 t232 _ _ y233 t236 t237 w _ ?side1 ?side2 ?side3 ?side4 ?side5 A18.out).mono ?_); (case side1 => repeat (first | (with_reducible first | exact HI213.out | apply IsS98.alloc | apply IsS98.drewN | apply IsS98.drew | apply IsS98.set_1 | refine IsS98.far ?_ NB213_210.out _) | exact HI213.out)); (case side2 => repeat (first | (with_reducible first | exact HB.out | apply bwa | apply bwN | apply bw1 | refine bws ?_ (IsS98.ge HI213.out) | refine bws ?_ GE210.out) | exact HB.out)); (case side3 => repeat (first | exact (Kd.R_reads' HO235.out).2.2 | (with_reducible refine Kd.C_alloc ?_ _) | (with_reducible refine Kd.C_drewN ?_ _) | (with_reducible refine Kd.C_drew ?_))); (case side4 => exact (Kd.R_reads' HO235.out).2.1); (case side5 => exact far_slice (IsS98.own_ne HI213.out HO235.out (by decide))); rintro e w61 ⟨rfl, hi, hb, hk⟩; refine ⟨_, rfl, ?_⟩; have n0_ := Ad.mk (Kd.R_mono (Kd.R_keep (IsS98.apart (show IsS98 w _ g213 t211 t232 from by repeat (first | (with_reducible first | exact HI213.out | apply IsS98.alloc | apply IsS98.drewN | apply IsS98.drew | apply IsS98.set_1 | refine IsS98.far ?_ NB213_210.out _) | exact HI213.out)) (by (with_reducible repeat (first | apply Kd.R_alloc | apply Kd.R_drewN | apply Kd.R_drew)); exact HO_6.out) (by decide)) hk (fun _ h => h.2)) (fun _ h => h.1)); have n1_ := Ad.mk (Kd.N_mono (Kd.N_keep (Kd.N_mono (ok := fun k_ => (((((w.heap.size ≤ k_)) ∧ (some k_ ≠ (v215 : Value).ownBlock ∧ (k_ ≠ gb210 ∧ k_ ≠ g213))) ∧ some k_ ≠ (.slice Ao56 y228.length co56 : Value).ownBlock) ∧ some k_ ≠ (.slice Ao60 y233.length co60 : Value).ownBlock)) (by (with_reducible repeat (first | apply Kd.N_alloc | apply Kd.N_drewN | apply Kd.N_drew)); exact HO_7.out) (fun k_ hk_ => (⟨hk_, hk_.1.1.2.2.2⟩ : _ ∧ k_ ≠ g213))) hk (fun _ h => h.2)) (fun _ h => h.1)); have n2_ := Ad.mk (KeepBut.blk hk (g' := gb210) (o := .cells #[.int .i64 0, .int .i64 0, .slice none 0 0] 42 (0, 0)) (by (with_reducible repeat (first | refine bkN ?_ _ | refine bkd ?_ | refine bka ?_ _)); exact BK210.out) NB210_213.out (by simp)); have n3_ := Ad.mk (Kd.R_mono (Kd.R_keep (IsS98.apart (show IsS98 w _ g213 t211 t232 from by repeat (first | (with_reducible first | exact HI213.out | apply IsS98.alloc | apply IsS98.drewN | apply IsS98.drew | apply IsS98.set_1 | refine IsS98.far ?_ NB213_210.out _) | exact HI213.out)) (by (with_reducible repeat (first | apply Kd.R_alloc | apply Kd.R_drewN | apply Kd.R_drew)); exact HO230.out) (by decide)) hk (fun _ h => h.2)) (fun _ h => h.1)); have n4_ := Ad.mk (Kd.R_mono (Kd.R_keep (IsS98.apart (show IsS98 w _ g213 t211 t232 from by repeat (first | (with_reducible first | exact HI213.out | apply IsS98.alloc | apply IsS98.drewN | apply IsS98.drew | apply IsS98.set_1 | refine IsS98.far ?_ NB213_210.out _) | exact HI213.out)) (by (with_reducible repeat (first | apply Kd.R_alloc | apply Kd.R_drewN | apply Kd.R_drew)); exact HO235.out) (by decide)) hk (fun _ h => h.2)) (fun _ h => h.1)); have n5_ := Ad.mk (hb); have n6_ := Ad.mk (hi); clear HO_6; clear HO_7; clear BK210; clear HO230; clear HO235; clear HB; clear HI213; have HO_6 := n0_; have HO_7 := n1_; have BK210 := n2_; have HO230 := n3_; have HO235 := n4_; have HB := n5_; have HI213 := n6_; clear n0_ n1_ n2_ n3_ n4_ n5_ n6_; (try clear hb); (try clear hb2); (try clear hk); (try clear hi)) | ((with_reducible refine gate_dst (N := 32) rfl ?_); refine Kd.R_lit (Kd.int .i64) _ 3 ?hg (N := 32) ?hd (xs := ([t236] : List Int)) (inner := [.int .i64 t236]) (ok := fun _ => True) (okp := fun _ => True) ?hr ?hp (fun _ hk => hk) trivial (Below.refl _ _) (Nat.le_refl _) (by simp) ?_; (case hd => rfl); (case hg => rfl); (case hr => first | (go_simp; done) | (go_simp; rfl)); (case hp => exact (Reps.one (show Kd.M (Kd.int .i64) _ _ _ t236 [.int .i64 t236] from rfl) (Reps.none _ _))); intro v239 w62 ho63 hb hg_ hnew_; clear hg_ hnew_; (first | rw [← Ny238.out] at ho63 | (simp only [Int.reduceToNat] at ho63; rw [← Ny238.out] at ho63)); have n0_ := Ad.mk (Kd.R_elder' (by (with_reducible repeat (first | apply Kd.R_alloc | apply Kd.R_drewN | apply Kd.R_drew)); exact HO_6.out) (Kd.R_base ho63) hb); have n1_ := Ad.mk (Kd.N_elder' (by (with_reducible repeat (first | apply Kd.N_alloc | apply Kd.N_drewN | apply Kd.N_drew)); exact HO_7.out) (Kd.R_base ho63) hb); have n2_ := Ad.mk (Kd.R_elder' (by (with_reducible repeat (first | apply Kd.R_alloc | apply Kd.R_drewN | apply Kd.R_drew)); exact HO230.out) (Kd.R_base ho63) hb); have n3_ := Ad.mk (Kd.R_elder' (by (with_reducible repeat (first | apply Kd.R_alloc | apply Kd.R_drewN | apply Kd.R_drew)); exact HO235.out) (Kd.R_base ho63) hb); have n4_ := Ad.mk (Kd.R_lower (Kd.R_new' (Kd.R_new' (Kd.R_new' (Kd.R_newM (M := fun k_ => (w.heap.size ≤ k_)) ho63 (qa1 (by repeat (first | (with_reducible first | exact HB.out | apply bwa | apply bwN | apply bw1 | refine bws ?_ (IsS98.ge HI213.out) | refine bws ?_ GE210.out) | exact HB.out))) (fun k_ h_ => h_)) (Kd.R_lt (by (with_reducible repeat (first | apply Kd.R_alloc | apply Kd.R_drewN | apply Kd.R_drew)); exact HO_6.out))) (Kd.R_lt (by (with_reducible repeat (first | apply Kd.R_alloc | apply Kd.R_drewN | apply Kd.R_drew)); exact HO230.out))) (Kd.R_lt (by (with_reducible repeat (first | apply Kd.R_alloc | apply Kd.R_drewN | apply Kd.R_drew)); exact HO235.out))) (qa1 (by repeat (first | (with_reducible first | exact HB.out | apply bwa | apply bwN | apply bw1 | refine bws ?_ (IsS98.ge HI213.out) | refine bws ?_ GE210.out) | exact HB.out)))); have n5_ := Ad.mk (qa6 (g := gb210) (o := .cells #[.int .i64 0, .int .i64 0, .slice none 0 0] 42 (0, 0)) (by (with_reducible repeat (first | refine bkN ?_ _ | refine bkd ?_ | refine bka ?_ _)); exact BK210.out) hb); have n6_ := Ad.mk (IsS98.below (by repeat (first | (with_reducible first | exact HI213.out | apply IsS98.alloc | apply IsS98.drewN | apply IsS98.drew | apply IsS98.set_1 | refine IsS98.far ?_ NB213_210.out _) | exact HI213.out)) hb); have n7_ := Ad.mk (qa5 (by repeat (first | (with_reducible first | exact HB.out | apply bwa | apply bwN | apply bw1 | refine bws ?_ (IsS98.ge HI213.out) | refine bws ?_ GE210.out) | exact HB.out)) hb); clear HO_6; clear HO_7; clear HO230; clear HO235; clear BK210; clear HI213; clear HB; have HO_6 := n0_; have HO_7 := n1_; have HO230 := n2_; have HO235 := n3_; have HO240 := n4_; have BK210 := n5_; have HI213 := n6_; have HB := n7_; clear n0_ n1_ n2_ n3_ n4_ n5_ n6_ n7_; clear hb ho63; obtain ⟨Ao64, co64, eo64⟩ := Kd.R_slice HO240.out; subst eo64) | ((with_reducible refine gate_dst (N := 8) rfl ?_); refine box_event ?hg (N := 8) ?hd (cs := #[.int .i64 0, .int .i64 0, .slice none 0 0]) (t := 42) ?hr ?_; (case hd => rfl); (case hg => rfl); (case hr => first | (go_simp; done) | (go_simp; rfl)); intro gb241 hg w65 hbox hb; have n0_ := Ad.mk (Kd.R_below (by (with_reducible repeat (first | apply Kd.R_alloc | apply Kd.R_drewN | apply Kd.R_drew)); exact HO_6.out) hb); have n1_ := Ad.mk (Kd.N_below (Kd.N_elderB (by (with_reducible repeat (first | apply Kd.N_alloc | apply Kd.N_drewN | apply Kd.N_drew)); exact HO_7.out) gb241 (Nat.le_of_eq hg.symm)) hb); have n2_ := Ad.mk (Kd.R_below (by (with_reducible repeat (first | apply Kd.R_alloc | apply Kd.R_drewN | apply Kd.R_drew)); exact HO230.out) hb); have n3_ := Ad.mk (Kd.R_below (by (with_reducible repeat (first | apply Kd.R_alloc | apply Kd.R_drewN | apply Kd.R_drew)); exact HO235.out) hb); have n4_ := Ad.mk (Kd.R_below (by (with_reducible repeat (first | apply Kd.R_alloc | apply Kd.R_drewN | apply Kd.R_drew)); exact HO240.out) hb); have n5_ := Ad.mk (qa6 (g := gb210) (o := .cells #[.int .i64 0, .int .i64 0, .slice none 0 0] 42 (0, 0)) (by (with_reducible repeat (first | refine bkN ?_ _ | refine bkd ?_ | refine bka ?_ _)); exact BK210.out) hb); have n6_ := Ad.mk (IsS98.below (by repeat (first | (with_reducible first | exact HI213.out | apply IsS98.alloc | apply IsS98.drewN | apply IsS98.drew | apply IsS98.set_1 | refine IsS98.far ?_ NB213_210.out _) | exact HI213.out)) hb); have n7_ := Ad.mk (qa5 (by repeat (first | (with_reducible first | exact HB.out | apply bwa | apply bwN | apply bw1 | refine bws ?_ (IsS98.ge HI213.out) | refine bws ?_ GE210.out) | exact HB.out)) hb); have n8_ := Ad.mk (hbox); have n9_ := Ad.mk ((by rw [hg]; exact (qa1 (by repeat (first | (with_reducible first | exact HB.out | apply bwa | apply bwN | apply bw1 | refine bws ?_ (IsS98.ge HI213.out) | refine bws ?_ GE210.out) | exact HB.out))) : w.heap.size ≤ gb241)); have n10_ := Ad.mk ((by rw [hg]; exact (qa1 (by repeat (first | (with_reducible first | exact HB.out | apply bwa | apply bwN | apply bw1 | refine bws ?_ (IsS98.ge HI213.out) | refine bws ?_ GE210.out) | exact HB.out))) : w.heap.size ≤ gb241)); have n11_ := Ad.mk ((by rw [hg]; exact Nat.ne_of_lt (blk_lt (g := gb210) (o := .cells #[.int .i64 0, .int .i64 0, .slice none 0 0] 42 (0, 0)) (by (with_reducible repeat (first | refine bkN ?_ _ | refine bkd ?_ | refine bka ?_ _)); exact BK210.out)) : gb210 ≠ gb241)); have n12_ := Ad.mk ((by rw [hg]; exact Nat.ne_of_gt (blk_lt (g := gb210) (o := .cells #[.int .i64 0, .int .i64 0, .slice none 0 0] 42 (0, 0)) (by (with_reducible repeat (first | refine bkN ?_ _ | refine bkd ?_ | refine bka ?_ _)); exact BK210.out)) : gb241 ≠ gb210)); have n13_ := Ad.mk ((by rw [hg]; exact Nat.ne_of_lt (IsS98.lt (show IsS98 w _ g213 t211 t237 from by repeat (first | (with_reducible first | exact HI213.out | apply IsS98.alloc | apply IsS98.drewN | apply IsS98.drew | apply IsS98.set_1 | refine IsS98.far ?_ NB213_210.out _) | exact HI213.out))) : g213 ≠ gb241)); have n14_ := Ad.mk ((by rw [hg]; exact Nat.ne_of_gt (IsS98.lt (show IsS98 w _ g213 t211 t237 from by repeat (first | (with_reducible first | exact HI213.out | apply IsS98.alloc | apply IsS98.drewN | apply IsS98.drew | apply IsS98.set_1 | refine IsS98.far ?_ NB213_210.out _) | exact HI213.out))) : gb241 ≠ g213)); clear HO_6; clear HO_7; clear HO230; clear HO235; clear HO240; clear BK210; clear HI213; clear HB; have HO_6 := n0_; have HO_7 := n1_; have HO230 := n2_; have HO235 := n3_; have HO240 := n4_; have BK210 := n5_; have HI213 := n6_; have HB := n7_; have BK241 := n8_; have GW241 := n9_; have GE241 := n10_; have NB210_241 := n11_; have NB241_210 := n12_; have NB213_241 := n13_; have NB241_213 := n14_; clear n0_ n1_ n2_ n3_ n4_ n5_ n6_ n7_ n8_ n9_ n10_ n11_ n12_ n13_ n14_; clear hb hbox hg; have hnb66 := NB241_210.out; have hnc66 := NB210_241.out; have hnb67 := NB241_213.out; have hnc67 := NB213_241.out; have hcz68_0 : w65.cell? ⟨gb241, 0, none⟩ = some (.int .i64 0) := (bkc BK241.out 0).trans rfl; have hcz68_1 : w65.cell? ⟨gb241, 1, none⟩ = some (.int .i64 0) := (bkc BK241.out 1).trans rfl; have hcz68_2 : w65.cell? ⟨gb241, 2, none⟩ = some (.slice none 0 0) := (bkc BK241.out 2).trans rfl; have hfz68_0 := qa0 BK241.out 0; have hfz68_1 := qa0 BK241.out 1; have hfz68_2 := qa0 BK241.out 2) | ((with_reducible refine qa7 (f := 58) rfl ?_); refine goesL_ (some 35) rfl rfl Try.func58 (by kernel_rfl) rfl #[.pointer (some ⟨g213, 0, none⟩), .int .i64 2] rfl (by (try simp only [List.map_toArray, List.map_cons, List.map_nil]); first | done | rfl | (simp only [List.length_drop, List.length_take]; rfl)) ?_; (with_reducible refine (spec_reader_pick.calls kj4 g213 t211 t237 2 t242 t243 w _ ?side1 ?side2 A19.out).mono ?_); (case side1 => repeat (first | (with_reducible first | exact HI213.out | apply IsS98.alloc | apply IsS98.drewN | apply IsS98.drew | apply IsS98.set_1 | refine IsS98.far ?_ NB213_210.out _ | refine IsS98.far ?_ NB213_241.out _) | exact HI213.out)); (case side2 => repeat (first | (with_reducible first | exact HB.out | apply bwa | apply bwN | apply bw1 | refine bws ?_ (IsS98.ge HI213.out) | refine bws ?_ GE210.out | refine bws ?_ GE241.out) | exact HB.out)); rintro e w69 ⟨rfl, hi, hb, hk⟩; refine ⟨_, rfl, ?_⟩; have n0_ := Ad.mk (Kd.R_mono (Kd.R_keep (IsS98.apart (show IsS98 w _ g213 t211 t237 from by repeat (first | (with_reducible first | exact HI213.out | apply IsS98.alloc | apply IsS98.drewN | apply IsS98.drew | apply IsS98.set_1 | refine IsS98.far ?_ NB213_210.out _ | refine IsS98.far ?_ NB213_241.out _) | exact HI213.out)) (by (with_reducible repeat (first | apply Kd.R_alloc | apply Kd.R_drewN | apply Kd.R_drew)); exact (Kd.R_mono (Kd.R_far (p := ⟨gb241, 2, none⟩) (Kd.R_far (p := ⟨gb241, 1, none⟩) (Kd.R_far (p := ⟨gb241, 0, none⟩) (Kd.R_types HO_6.out BK241.out (by decide)) (fun _ hk => hk.2) (.int .i64 t226)) (fun _ hk => hk.2) (.int .i64 t231)) (fun _ hk => hk.2) (.slice Ao64 y238.length co64)) (fun _ h_ => h_.1))) (by decide)) hk (fun _ h => h.2)) (fun _ h => h.1)); have n1_ := Ad.mk (Kd.N_mono (Kd.N_keep (Kd.N_mono (ok := fun k_ => (((((((w.heap.size ≤ k_)) ∧ (some k_ ≠ (v215 : Value).ownBlock ∧ (k_ ≠ gb210 ∧ k_ ≠ g213))) ∧ some k_ ≠ (.slice Ao56 y228.length co56 : Value).ownBlock) ∧ some k_ ≠ (.slice Ao60 y233.length co60 : Value).ownBlock) ∧ some k_ ≠ (.slice Ao64 y238.length co64 : Value).ownBlock) ∧ k_ ≠ gb241)) (by (with_reducible repeat (first | apply Kd.N_alloc | apply Kd.N_drewN | apply Kd.N_drew)); exact (Kd.N_mono (Kd.N_far (p := ⟨gb241, 2, none⟩) (Kd.N_far (p := ⟨gb241, 1, none⟩) (Kd.N_far (p := ⟨gb241, 0, none⟩) (Kd.N_mono HO_7.out (fun k_ hk => (⟨hk, hk.2⟩ : _ ∧ k_ ≠ gb241))) (fun _ hk => hk.2) (.int .i64 t226)) (fun _ hk => hk.2) (.int .i64 t231)) (fun _ hk => hk.2) (.slice Ao64 y238.length co64)) (fun _ h_ => h_.1))) (fun k_ hk_ => (⟨hk_, hk_.1.1.1.1.2.2.2⟩ : _ ∧ k_ ≠ g213))) hk (fun _ h => h.2)) (fun _ h => h.1)); have n2_ := Ad.mk (KeepBut.blk hk (g' := gb210) (o := .cells #[.int .i64 0, .int .i64 0, .slice none 0 0] 42 (0, 0)) (by (with_reducible repeat (first | refine bkN ?_ _ | refine bkd ?_ | refine bka ?_ _)); refine blk_far ?_ NB210_241.out _; (with_reducible repeat (first | refine bkN ?_ _ | refine bkd ?_ | refine bka ?_ _)); refine blk_far ?_ NB210_241.out _; (with_reducible repeat (first | refine bkN ?_ _ | refine bkd ?_ | refine bka ?_ _)); refine blk_far ?_ NB210_241.out _; (with_reducible repeat (first | refine bkN ?_ _ | refine bkd ?_ | refine bka ?_ _)); exact BK210.out) NB210_213.out (by simp)); have n3_ := Ad.mk (Kd.R_mono (Kd.R_keep (IsS98.apart (show IsS98 w _ g213 t211 t237 from by repeat (first | (with_reducible first | exact HI213.out | apply IsS98.alloc | apply IsS98.drewN | apply IsS98.drew | apply IsS98.set_1 | refine IsS98.far ?_ NB213_210.out _ | refine IsS98.far ?_ NB213_241.out _) | exact HI213.out)) (by (with_reducible repeat (first | apply Kd.R_alloc | apply Kd.R_drewN | apply Kd.R_drew)); exact (Kd.R_mono (Kd.R_far (p := ⟨gb241, 2, none⟩) (Kd.R_far (p := ⟨gb241, 1, none⟩) (Kd.R_far (p := ⟨gb241, 0, none⟩) (Kd.R_types HO230.out BK241.out (by decide)) (fun _ hk => hk.2) (.int .i64 t226)) (fun _ hk => hk.2) (.int .i64 t231)) (fun _ hk => hk.2) (.slice Ao64 y238.length co64)) (fun _ h_ => h_.1))) (by decide)) hk (fun _ h => h.2)) (fun _ h => h.1)); have n4_ := Ad.mk (Kd.R_mono (Kd.R_keep (IsS98.apart (show IsS98 w _ g213 t211 t237 from by repeat (first | (with_reducible first | exact HI213.out | apply IsS98.alloc | apply IsS98.drewN | apply IsS98.drew | apply IsS98.set_1 | refine IsS98.far ?_ NB213_210.out _ | refine IsS98.far ?_ NB213_241.out _) | exact HI213.out)) (by (with_reducible repeat (first | apply Kd.R_alloc | apply Kd.R_drewN | apply Kd.R_drew)); exact (Kd.R_mono (Kd.R_far (p := ⟨gb241, 2, none⟩) (Kd.R_far (p := ⟨gb241, 1, none⟩) (Kd.R_far (p := ⟨gb241, 0, none⟩) (Kd.R_types HO235.out BK241.out (by decide)) (fun _ hk => hk.2) (.int .i64 t226)) (fun _ hk => hk.2) (.int .i64 t231)) (fun _ hk => hk.2) (.slice Ao64 y238.length co64)) (fun _ h_ => h_.1))) (by decide)) hk (fun _ h => h.2)) (fun _ h => h.1)); have n5_ := Ad.mk (Kd.R_mono (Kd.R_keep (IsS98.apart (show IsS98 w _ g213 t211 t237 from by repeat (first | (with_reducible first | exact HI213.out | apply IsS98.alloc | apply IsS98.drewN | apply IsS98.drew | apply IsS98.set_1 | refine IsS98.far ?_ NB213_210.out _ | refine IsS98.far ?_ NB213_241.out _) | exact HI213.out)) (by (with_reducible repeat (first | apply Kd.R_alloc | apply Kd.R_drewN | apply Kd.R_drew)); exact (Kd.R_mono (Kd.R_far (p := ⟨gb241, 2, none⟩) (Kd.R_far (p := ⟨gb241, 1, none⟩) (Kd.R_far (p := ⟨gb241, 0, none⟩) (Kd.R_types HO240.out BK241.out (by decide)) (fun _ hk => hk.2) (.int .i64 t226)) (fun _ hk => hk.2) (.int .i64 t231)) (fun _ hk => hk.2) (.slice Ao64 y238.length co64)) (fun _ h_ => h_.1))) (by decide)) hk (fun _ h => h.2)) (fun _ h => h.1)); have n6_ := Ad.mk (KeepBut.blk hk (g' := gb241) (o := .cells #[.int .i64 t226, .int .i64 t231, .slice Ao64 y238.length co64] 42 (0, 0)) (by (with_reducible repeat (first | refine bkN ?_ _ | refine bkd ?_ | refine bka ?_ _)); refine blk_put (cs := #[.int .i64 t226, .int .i64 t231, .slice none 0 0]) ?_ 2 _ rfl; (with_reducible repeat (first | refine bkN ?_ _ | refine bkd ?_ | refine bka ?_ _)); refine blk_put (cs := #[.int .i64 t226, .int .i64 0, .slice none 0 0]) ?_ 1 _ rfl; (with_reducible repeat (first | refine bkN ?_ _ | refine bkd ?_ | refine bka ?_ _)); refine blk_put (cs := #[.int .i64 0, .int .i64 0, .slice none 0 0]) ?_ 0 _ rfl; (with_reducible repeat (first | refine bkN ?_ _ | refine bkd ?_ | refine bka ?_ _)); exact BK241.out) NB241_213.out (by simp)); have n7_ := Ad.mk (hb); have n8_ := Ad.mk (hi); clear HO_6; clear HO_7; clear BK210; clear HO230; clear HO235; clear HO240; clear BK241; clear HB; clear HI213; have HO_6 := n0_; have HO_7 := n1_; have BK210 := n2_; have HO230 := n3_; have HO235 := n4_; have HO240 := n5_; have BK241 := n6_; have HB := n7_; have HI213 := n8_; clear n0_ n1_ n2_ n3_ n4_ n5_ n6_ n7_ n8_; (try clear hb); (try clear hb2); (try clear hk); (try clear hi)))
    have n0_ := Ad.mk (Kd.R_drew HO_6.out)
    have n1_ := Ad.mk (Kd.N_drew HO_7.out)
    have n2_ := Ad.mk (Kd.R_drew HO230.out)
    have n3_ := Ad.mk (Kd.R_drew HO235.out)
    have n4_ := Ad.mk (Kd.R_drew HO240.out)
    have n5_ := Ad.mk (bkd BK210.out)
    have n6_ := Ad.mk (bkd BK241.out)
    have n7_ := Ad.mk (IsS98.drew HI213.out)
    have n8_ := Ad.mk (bw1 HB.out)
    clear HO_6
    clear HO_7
    clear HO230
    clear HO235
    clear HO240
    clear BK210
    clear BK241
    clear HI213
    clear HB
    have HO_6 := n0_
    have HO_7 := n1_
    have HO230 := n2_
    have HO235 := n3_
    have HO240 := n4_
    have BK210 := n5_
    have BK241 := n6_
    have HI213 := n7_
    have HB := n8_
    clear n0_ n1_ n2_ n3_ n4_ n5_ n6_ n7_ n8_
    refine start_ (n := 6) (S := fun w' => w'.cell? ⟨gb241, 0, none⟩ = some (.int .i64 t226) ∧ w'.cell? ⟨gb241, 1, none⟩ = some (.int .i64 t231) ∧ w'.cell? ⟨gb241, 2, none⟩ = some (.slice Ao64 y238.length co64)) (ds := []) #[false, false, false, false, false, false] (by kernel_rfl) rfl rfl ⟨(bkc BK241.out 0).trans rfl, (bkc BK241.out 1).trans rfl, (bkc BK241.out 2).trans rfl⟩ (fun hHeld => ?_)
    generalize w69.drew = w70 at HO_6 HO_7 HO230 HO235 HO240 BK210 BK241 HI213 HB hHeld ⊢
    refine pure_ (i := 0) (N := some 45) (v := ?_) (a' := ?_) #[true, false, false, false, false, false] rfl rfl (by kernel_rfl) (fun _ _ _ h => h) (Or.inl ⟨by rfl, ?_⟩) ?_ ?_
    rotate_left
    ·intro w'
     go_simp
     with_reducible rfl
    rotate_left
    ·simp only [Act.put, List.setIfInBounds_toArray, List.set_cons_zero, List.set_cons_succ, qa8, qa9]
     rfl
    refine pure_ (i := 1) (N := some 46) (v := ?_) (a' := ?_) #[true, true, false, false, false, false] rfl rfl (by kernel_rfl) (fun _ _ _ h => h) (Or.inl ⟨by rfl, ?_⟩) ?_ ?_
    rotate_left
    ·intro w'
     go_simp
     with_reducible rfl
    rotate_left
    ·simp only [Act.put, List.setIfInBounds_toArray, List.set_cons_zero, List.set_cons_succ, qa8, qa9]
     rfl
    refine pure_ (i := 3) (N := some 2) (v := ?_) (a' := ?_) #[true, true, false, true, false, false] rfl rfl (by kernel_rfl) (fun _ _ _ h => h) (Or.inl ⟨by rfl, ?_⟩) ?_ ?_
    rotate_left
    ·intro w'
     go_simp
     with_reducible rfl
    rotate_left
    ·simp only [Act.put, List.setIfInBounds_toArray, List.set_cons_zero, List.set_cons_succ, qa8, qa9]
     rfl
    refine pure_ (i := 4) (N := some 3) (v := ?_) (a' := ?_) #[true, true, false, true, true, false] rfl rfl (by kernel_rfl) (fun _ _ _ h => h) (Or.inl ⟨by rfl, ?_⟩) ?_ ?_
    rotate_left
    ·intro w'
     go_simp
     with_reducible rfl
    rotate_left
    ·simp only [Act.put, List.setIfInBounds_toArray, List.set_cons_zero, List.set_cons_succ, qa8, qa9]
     rfl
    refine take_ (i := 2) (N := some 47) (v := ?_) (a' := ?_) #[true, true, true, true, true, false] rfl rfl (by kernel_rfl) (fun _ _ _ h => h) (Or.inl ⟨by rfl, ?_⟩) hHeld ?_ ?_
    rotate_left
    ·rintro w' ⟨s0, s1, s2⟩
     go_simp
     with_reducible rfl
    rotate_left
    ·simp only [Act.put, List.setIfInBounds_toArray, List.set_cons_zero, List.set_cons_succ, qa8, qa9]
     rfl
    refine one_ (i := 5) (N := none) #[true, true, true, true, true, true] rfl rfl (by kernel_rfl) (by decide) (fun K hK => ?_)
    have hs71 : w70.cell? ⟨gb210, 0, none⟩ = some (.int .i64 0) := (bkc BK210.out 0).trans rfl
    have hfs71 := qa0 BK210.out 0
    have hns71_1 := NB241_210.out
    have hms71_1 := NB210_241.out
    have hs72 : w70.cell? ⟨gb210, 1, none⟩ = some (.int .i64 0) := (bkc BK210.out 1).trans rfl
    have hfs72 := qa0 BK210.out 1
    have hns72_1 := NB241_210.out
    have hms72_1 := NB210_241.out
    have hs73 : w70.cell? ⟨gb210, 2, none⟩ = some (.slice none 0 0) := (bkc BK210.out 2).trans rfl
    have hfs73 := qa0 BK210.out 2
    have hns73_1 := NB241_210.out
    have hms73_1 := NB210_241.out
    refine skip_ (w1 := ?_) (by rfl) rfl ?_ ?_
    rotate_left
    ·go_simp
     rfl
    refine hK.out _ _ ⟨((cell_far (p := ⟨gb210, _, none⟩) NB241_210.out _).trans (((cell_far (p := ⟨gb210, _, none⟩) NB241_210.out _).trans (((cell_far (p := ⟨gb210, _, none⟩) NB241_210.out _).trans (hHeld.1)))))), ((cell_far (p := ⟨gb210, _, none⟩) NB241_210.out _).trans (((cell_far (p := ⟨gb210, _, none⟩) NB241_210.out _).trans (((cell_far (p := ⟨gb210, _, none⟩) NB241_210.out _).trans (hHeld.2.1)))))), ((cell_far (p := ⟨gb210, _, none⟩) NB241_210.out _).trans (((cell_far (p := ⟨gb210, _, none⟩) NB241_210.out _).trans (((cell_far (p := ⟨gb210, _, none⟩) NB241_210.out _).trans (hHeld.2.2))))))⟩ (fun hHeld => ?_)
    clear hK K
    refine done_ (by kernel_rfl) ?_
    try go_wp2
    refine bodyPost_ret (results_list (rs := [.tmp 2, .tmp 3, .cell 4 42]) rfl (by simp) (.tmp (.tmp (.cell gb210 42 #[.int .i64 t226, .int .i64 t231, .slice Ao64 y238.length co64] (0, 0) _ rfl (by (with_reducible repeat (first | refine bkN ?_ _ | refine bkd ?_ | refine bka ?_ _)); refine blk_put (cs := #[.int .i64 t226, .int .i64 t231, .slice none 0 0]) ?_ 2 _ rfl; (with_reducible repeat (first | refine bkN ?_ _ | refine bkd ?_ | refine bka ?_ _)); refine blk_put (cs := #[.int .i64 t226, .int .i64 0, .slice none 0 0]) ?_ 1 _ rfl; (with_reducible repeat (first | refine bkN ?_ _ | refine bkd ?_ | refine bka ?_ _)); refine blk_put (cs := #[.int .i64 0, .int .i64 0, .slice none 0 0]) ?_ 0 _ rfl; (with_reducible repeat (first | refine bkN ?_ _ | refine bkd ?_ | refine bka ?_ _)); exact BK210.out) Try.underlying42 rfl (by kernel_rfl) .nil)))) rfl ?_
    exact ⟨_, _, _, by first | rfl | (simp [errW_none, errW_some] <;> rfl) | (simp [*, errW_none, errW_some] <;> rfl), by (with_reducible repeat (first | apply Kd.R_alloc | apply Kd.R_drewN | apply Kd.R_drew)); exact Kd.R_mono (Kd.R_far (p := ⟨gb210, 2, none⟩) (Kd.R_far (p := ⟨gb210, 1, none⟩) (Kd.R_far (p := ⟨gb210, 0, none⟩) (Kd.R_types HO_6.out BK210.out (by decide)) (fun _ hk => hk.2) (.int .i64 t226)) (fun _ hk => hk.2) (.int .i64 t231)) (fun _ hk => hk.2) (.slice Ao64 y238.length co64)) (fun _ hk => hk.1.1.1.1), by (with_reducible repeat (first | apply Kd.N_alloc | apply Kd.N_drewN | apply Kd.N_drew)); exact Kd.N_mono (Kd.N_far (p := ⟨gb210, 2, none⟩) (Kd.N_far (p := ⟨gb210, 1, none⟩) (Kd.N_far (p := ⟨gb210, 0, none⟩) (Kd.N_mono HO_7.out (fun k_ hk => (⟨hk, hk.1.1.1.1.2.2.1⟩ : _ ∧ k_ ≠ gb210))) (fun _ hk => hk.2) (.int .i64 t226)) (fun _ hk => hk.2) (.int .i64 t231)) (fun _ hk => hk.2) (.slice Ao64 y238.length co64)) (fun _ hk => ⟨hk.1.1.1.1.1.1, hk.1.1.1.1.1.2.1⟩), Kd.R_V (by (with_reducible repeat (first | apply Kd.R_alloc | apply Kd.R_drewN | apply Kd.R_drew)); exact Kd.R_mono (Kd.R_far (p := ⟨gb210, 2, none⟩) (Kd.R_far (p := ⟨gb210, 1, none⟩) (Kd.R_far (p := ⟨gb210, 0, none⟩) (Kd.R_types (Kd.R_apart' HO240.out (Kd.N_typed HO_7.out) (by decide)) BK210.out (by decide)) (fun _ hk => hk.2) (.int .i64 t226)) (fun _ hk => hk.2) (.int .i64 t231)) (fun _ hk => hk.2) (.slice Ao64 y238.length co64)) (fun _ hk => ⟨hk.1.1.1.1.1.1, ⟨hk.1.1.1.1.2, hk.1.2⟩⟩)), by repeat (first | (with_reducible first | exact HB.out | apply bwa | apply bwN | apply bw1 | refine bws ?_ (IsS98.ge HI213.out) | refine bws ?_ GE210.out | refine bws ?_ GE241.out) | exact HB.out)⟩

end Go.Proofs.Ytifohlgdkdcpeaa.PFnMostLoan
