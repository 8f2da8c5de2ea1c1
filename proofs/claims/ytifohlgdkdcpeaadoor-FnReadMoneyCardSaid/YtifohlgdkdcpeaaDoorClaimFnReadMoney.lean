import Derived.Test.YtifohlgdkdcpeaaDoorRows
import Derived.Test.YtifohlgdkdcpeaaDoorTie
import Derived.Test.YtifohlgdkdcpeaaDoorCards
import Derived.LaidMore
import Derived.Lay
import Derived.SevenTiedAt
import Derived.Stop.Joined
import Derived.ChangeVars
import Derived.WalkKit
import Derived.ProofKit
import Derived.OpenShut
import Derived.ShutString
import Derived.ChangeOld
import Derived.Below
import Derived.SizedLaws
import Derived.Test.YtifohlgdkdcpeaaDoorB5
/- The law FnReadMoney: true at every input; the input reads as it did. No condition. -/
namespace Go.Proofs.YtifohlgdkdcpeaaDoor.fnReadMoney
open Go.ChangeShapes Go.WideShapes Go.ChangeAt Go.RowKit Go.Refl
open Go.ChangeMaps (open_string shut_string)
set_option linter.unusedVariables false
theorem own : ownKnob Tryd.prog.godebug = none := by kernel_rfl
theorem laidOut : laidOutB Tryd.prog = true := by kernel_rfl
set_option maxRecDepth 100000 in
theorem lifted (os : Os) (started : os.Started) (H : Type) (enc : TypeId × Value → H) :
    ReturnsInHanded {} Tryd.checked os 3 .any (fun w args => (Rows.fnReadMoneySpec.pre enc Tryd.prog Tryd.f3 Rows.fnReadMoneyRow.domain false w args ∧ laidMetH Tryd.prog Rows.fnReadMoneyRow.laid w) ∧ sizedMet enc Tryd.prog Tryd.f3 (OpenSpec.ofChange Rows.fnReadMoneySpec) false w args) (Rows.fnReadMoneySpec.post enc Tryd.prog Tryd.f3 false true false false) := by
  refine returnsInHanded_of_change_and (C := Tryd.checked) (X := fun w _ => laidMetH Tryd.prog Rows.fnReadMoneyRow.laid w) (fun _ _ _ hh h => h.of_heap hh) own started (by kernel_rfl) Tryd.func3
    (ChangeSpec.witness_shaped (enc := enc) (C := Tryd.checked) (os := os) (X := fun w _ => laidMetH Tryd.prog Rows.fnReadMoneyRow.laid w) false (World.laidAll Tryd.prog os Rows.fnReadMoneyRow.laid) #[.slice none 0 0] 8 (World.laidAll_os _ _ _)
      (World.shaped_of_ZipB (by kernel_rfl) (by kernel_rfl)) (by kernel_rfl) (by kernel_rfl) (by kernel_rfl)
      (by rw [MakeChecks.laidMetH_plain _ _ _ (by kernel_rfl)]; exact laidMet_laidAll _ (by kernel_rfl) (by kernel_rfl))) ?_
  intro W base args ds gs before hval0 hW hcnd hsz0 hL _
  have hLP : laidMet Tryd.prog Rows.fnReadMoneyRow.laid W := by rw [MakeChecks.laidMetH_plain _ _ _ (by kernel_rfl)] at hL; exact hL
  have hgl : GlRep W (fun b => b < W.heap.size) [Go.Proofs.YtifohlgdkdcpeaaDoorG.g0] := glRep_of (all_cons (gl_ints (name := "internal/strconv.uint64pow10") (g := 0) (t := 46) (e := 40) (n := 20) (k := .u64) (zs := Go.Lib.pow10Tab) hLP (by have e : (Rows.laid_internal_strconv_uint64pow10 : DataW Unit) = Go.Lib.tabData .u64 Go.Lib.pow10Tab := (by kernel_rfl); rw [← e]; exact (.tail _ (.tail _ (.head _)))) (by kernel_rfl) (by kernel_rfl) Tryd.underlying46 Tryd.underlying40 (by kernel_rfl) (by kernel_rfl)) (all_nil))
  have hval : ∀ (j : Nat) t v, Tryd.f3.params[j]? = some t → args[j]? = some v → Value.okWide Tryd.prog W .any base t v := hval0
  have hW' := hW
  obtain ⟨p, q, hA0, hV, rfl, hfz, hnd⟩ := hW
  have hA : DataW.TrodAll enc Tryd.prog W 0 (fun _ => true) true Tryd.f3.params.toList args.toList ds p := hA0
  rw [Tryd.params3] at hA hval
  obtain ⟨v0, vs0, d0, ds0, p0, q0, hargs, rfl, rfl, h0, r0⟩ := trodAll_cons hA
  obtain ⟨rfl, rfl, rfl⟩ := trodAll_nil r0
  obtain rfl : args = #[v0] := by cases args; simp_all
  obtain ⟨rfl, rfl⟩ := trodVars_none hV
  obtain ⟨A0, len0, c0, rfl⟩ := okWide_slice Tryd.underlying22 (hval 0 22 v0 rfl rfl)
  have k0 := h0
  have lt0 : ∀ x ∈ p0, x.block < W.heap.size := by obtain ⟨m, hm⟩ := k0; exact DataW.trod_lt m _ _ _ hm
  obtain ⟨x0, q0r, q0w⟩ := opensT (ty := (.slice (.int .u8))) 12 (by kernel_rfl) k0
  clear hA0 hval0 hsz0
  obtain ⟨n, hn⟩ := Go.Proofs.YtifohlgdkdcpeaaDoorG.FnReadMoney_pure x0 q0w
  refine (law_calls2 (Go.Proofs.YtifohlgdkdcpeaaDoorG.laws_FnReadMoney.ok n) hn rfl hgl ⟨_, rfl, ⟨rfl, _, rfl, rfl, q0r⟩⟩).mono fun e W' ⟨he, bel⟩ => ?_
  subst he
  exact ⟨_, rfl, _, _, _, [], _, [], hW', trodAll_mk1 (shut_bool Tryd.underlying4 _), (trodAll_cons_mk (Below.trod laidOut (by kernel_rfl) (of_decide_eq_true (by kernel_rfl)) k0 bel lt0) trodAll_mk0), rfl, bel.frame _, fun h => by cases h⟩
theorem over : Rows.fnReadMoneyRow.holds Tryd.pinned (OpenSpec.ofChange Rows.fnReadMoneySpec) :=
  OpenClaim.holds_of_wide 3 Tryd.f3 rfl rfl rfl rfl rfl rfl rfl ⟨rfl, rfl, rfl, rfl, rfl⟩ rfl rfl rfl rfl rfl (by kernel_rfl) Tryd.func3 (by kernel_rfl)
    (of_decide_eq_true (by kernel_rfl)) (by unfold Func.isWrapper; first | (rw [if_pos (by decide +kernel)]; kernel_rfl) | (rw [if_neg (by decide +kernel)]; exact ⟨rfl, rfl⟩))
    (fun os started H enc _ => lifted os started H enc)
theorem proved : Rows.FnReadMoneyCardSaid :=
  Claim7.holds_tied_plain_at .later [] [.data, .data, .data] true (true, "a7fb56824c8edb50160f8e3ae3f5ae22a15e4e290933d76f6eebc355254fd1be") false over (fun _ h => by cases h) (by kernel_rfl) (fun _ h => by cases h) fnReadMoney_row_tie rfl ⟨rfl, rfl⟩ (by kernel_rfl) rfl
    (fun f fn hf hfn => by
      obtain rfl : f = 3 := Option.some.inj ((show Tryd.prog.funcNamed "loop.example/savingsclub/laws.FnReadMoney" = some 3 by kernel_rfl).symm.trans hf) |>.symm
      obtain rfl : fn = Tryd.f3 := (Option.some.inj (Tryd.func3.symm.trans hfn)).symm
      exact ⟨by kernel_rfl, fun j t ht => by
        rw [Tryd.params3] at ht
        have hm : t ∈ [22] := by simpa using Array.mem_of_getElem? ht
        have hall : ([22].all fun u => !Tryd.prog.wantsStandIn u) = true := by kernel_rfl
        exact (show Tryd.prog.wantsStandIn t = false by simpa using List.all_eq_true.1 hall t hm)⟩)
    (by kernel_rfl)
#print axioms proved
end Go.Proofs.YtifohlgdkdcpeaaDoor.fnReadMoney
namespace Go.Proofs.YtifohlgdkdcpeaaDoor
/-- The row, under a short name, for the claim. -/
theorem fnReadMoney_holds : Rows.FnReadMoneyCardSaid := fnReadMoney.proved
end Go.Proofs.YtifohlgdkdcpeaaDoor
