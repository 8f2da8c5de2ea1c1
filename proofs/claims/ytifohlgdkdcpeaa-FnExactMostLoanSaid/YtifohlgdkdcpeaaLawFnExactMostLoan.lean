-- printed by pp.py, a program of this session's own, out of the translation; not the kit's print
import Derived.Test.YtifohlgdkdcpeaaRows
import Derived.Test.YtifohlgdkdcpeaaSaysFnExactMostLoan
import Derived.Test.YtifohlgdkdcpeaaPureFnExactMostLoan
import Derived.Test.YtifohlgdkdcpeaaOpensFnExactMostLoan
import Derived.WalkKit
import Derived.ProofKit
import Derived.OpenShut
import Derived.ShutString
import Derived.ChangeOld
import Derived.Below
import Derived.SizedLaws
namespace Go.Proofs.Ytifohlgdkdcpeaa.fnExactMostLoan
open Go.ChangeShapes Go.WideShapes Go.ChangeAt Go.RowKit Go.Proofs.Ytifohlgdkdcpeaa.PFnExactMostLoan Go.Proofs.Ytifohlgdkdcpeaa.Opens Go.Proofs.YtifohlgdkdcpeaaW.PrintWords Go.Proofs.YtifohlgdkdcpeaaW.PrintLast Go.Proofs.YtifohlgdkdcpeaaW.PrintMore
open Go.ChangeMaps (open_string shut_string)
set_option linter.unusedVariables false
theorem own : ownKnob Try.prog.godebug = none := by kernel_rfl
theorem laidOut : laidOutB Try.prog = true := by kernel_rfl
theorem op47 : Opn Try.prog 47 k47 W47 := op_struct (fun x : S47 => (x.f0, x.f1, x.f2)) (fun x => ⟨x.1, x.2.1, x.2.2⟩) (fun _ => rfl) Try.underlying47 (by kernel_rfl) (opF_cons rfl (by kernel_rfl) rfl (op_int Try.underlying3) (opF_cons rfl (by kernel_rfl) rfl (op_int Try.underlying3) (opF_one rfl (by kernel_rfl) (op_slice Try.underlying26 (by kernel_rfl) (op_int Try.underlying3)))))
set_option maxRecDepth 100000 in
theorem lifted (os : Os) (started : os.Started) (H : Type) (enc : TypeId × Value → H) :
    ReturnsInHanded {} Try.checked os 6 .any (Rows.fnExactMostLoanSpec.pre6 enc Try.prog Try.f6 Rows.fnExactMostLoanRow.domain false) (Rows.fnExactMostLoanSpec.post enc Try.prog Try.f6 false true false false) := by
  refine returnsInHanded_of_change_sized (C := Try.checked) own started (by kernel_rfl) Try.func6
    (ChangeSpec.witness6 (enc := enc) (C := Try.checked) false ⟨#[], #[.slice none 0 0, .slice none 0 0, .agg #[.int .i64 0, .int .i64 0, .slice none 0 0]], []⟩ 8 (by kernel_rfl) (by kernel_rfl) (by kernel_rfl) (by kernel_rfl)) ?_
  intro W base args ds gs before hval0 hW hcnd hsz0 _
  have hval : ∀ (j : Nat) t v, Try.f6.params[j]? = some t → args[j]? = some v → Value.okWide Try.prog W .any base t v := hval0
  have hW' := hW
  obtain ⟨p, q, hA0, hV, rfl, hfz, hnd⟩ := hW
  have hA : DataW.TrodAll enc Try.prog W 0 (fun _ => true) true Try.f6.params.toList args.toList ds p := hA0
  rw [Try.params6] at hA hval
  obtain ⟨v0, vs0, d0, ds0, p0, q0, hargs, rfl, rfl, h0, r0⟩ := trodAll_cons hA
  obtain ⟨v1, vs1, d1, ds1, p1, q1, rfl, rfl, rfl, h1, r1⟩ := trodAll_cons r0
  obtain ⟨v2, vs2, d2, ds2, p2, q2, rfl, rfl, rfl, h2, r2⟩ := trodAll_cons r1
  obtain ⟨rfl, rfl, rfl⟩ := trodAll_nil r2
  obtain rfl : args = #[v0, v1, v2] := by cases args; simp_all
  obtain ⟨rfl, rfl⟩ := trodVars_none hV
  obtain ⟨A0, len0, c0, rfl⟩ := okWide_slice Try.underlying26 (hval 0 26 v0 rfl rfl)
  have k0 := h0
  have lt0 : ∀ x ∈ p0, x.block < W.heap.size := by obtain ⟨m, hm⟩ := k0; exact DataW.trod_lt m _ _ _ hm
  obtain ⟨l0, hk0, q0⟩ := opens (op_slice Try.underlying26 (by kernel_rfl) (op_int Try.underlying3)) h0
  obtain ⟨rfl, hc0, hr0⟩ := slice_of hk0
  obtain ⟨A1, len1, c1, rfl⟩ := okWide_slice Try.underlying32 (hval 1 32 v1 rfl rfl)
  have k1 := h1
  have lt1 : ∀ x ∈ p1, x.block < W.heap.size := by obtain ⟨m, hm⟩ := k1; exact DataW.trod_lt m _ _ _ hm
  obtain ⟨l1, hk1, q1⟩ := opens (op_slice Try.underlying32 (by kernel_rfl) op47) h1
  obtain ⟨rfl, hc1, hr1⟩ := slice_of hk1
  obtain ⟨cs2, rfl, _⟩ := okWide_struct Try.underlying47 (hval 2 47 v2 rfl rfl)
  have k2 := h2
  have lt2 : ∀ x ∈ p2, x.block < W.heap.size := by obtain ⟨m, hm⟩ := k2; exact DataW.trod_lt m _ _ _ hm
  obtain ⟨x2, hk2, q2⟩ := opens op47 h2
  obtain ⟨A2_2, c2_2, hcs2, hc2_2, hr2_2⟩ := k47_open hk2
  have ea2 := agg_of hcs2
  subst ea2
  clear hA0 hval0 hsz0
  obtain ⟨k, h⟩ := Pure.FnExactMostLoan l0 l1 x2.f0 x2.f1 x2.f2 q0 q1 q2
  refine (PFnExactMostLoan.laws_FnExactMostLoan.calls k A0 c0 l0 A1 c1 l1 x2.f0 x2.f1 A2_2 c2_2 x2.f2 true W hr0 hc0 hr1 hc1 hr2_2 hc2_2 h).mono fun e W' ⟨he, bel⟩ => ?_
  subst he
  exact ⟨_, rfl, _, _, _, [], _, [], hW', trodAll_mk1 (shut_bool Try.underlying4 _), (trodAll_cons_mk (Below.trod laidOut (by kernel_rfl) (of_decide_eq_true (by kernel_rfl)) k0 bel lt0) (trodAll_cons_mk (Below.trod laidOut (by kernel_rfl) (of_decide_eq_true (by kernel_rfl)) k1 bel lt1) (trodAll_cons_mk (Below.trod laidOut (by kernel_rfl) (of_decide_eq_true (by kernel_rfl)) k2 bel lt2) trodAll_mk0))), rfl, bel.frame _, fun h => by cases h⟩
theorem over : Rows.fnExactMostLoanRow.holds Try.pinned (OpenSpec.ofChange Rows.fnExactMostLoanSpec) :=
  OpenClaim.holds_of_wide 6 Try.f6 rfl rfl rfl rfl rfl rfl rfl ⟨rfl, rfl, rfl, rfl, rfl⟩ rfl rfl rfl rfl rfl (by kernel_rfl) Try.func6 (by kernel_rfl)
    (of_decide_eq_true (by kernel_rfl)) (by unfold Func.isWrapper; first | (rw [if_pos (by decide +kernel)]; kernel_rfl) | (rw [if_neg (by decide +kernel)]; exact ⟨rfl, rfl⟩))
    (fun os started H enc _ => lifted os started H enc)
theorem proved : Rows.FnExactMostLoanSaid := over
#print axioms proved
end Go.Proofs.Ytifohlgdkdcpeaa.fnExactMostLoan
namespace Go.Proofs.Ytifohlgdkdcpeaa
/-- The row, under a short name, for the claim. -/
theorem fnExactMostLoan_holds : Rows.FnExactMostLoanSaid := fnExactMostLoan.proved
end Go.Proofs.Ytifohlgdkdcpeaa
