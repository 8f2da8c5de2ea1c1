import Derived.Test.YtbgamdkmlikgjaaGreatDoorRows
import Derived.Test.YtbgamdkmlikgjaaGreatDoorTie
import Derived.Test.YtbgamdkmlikgjaaGreatDoorCards
import Derived.LaidMore
import Derived.Lay
import Derived.SevenTiedAt
import Derived.Stop.Joined
import Derived.ChangeVars
import Derived.WalkKit
import Derived.ProofKit
import Derived.OpenShut
import Derived.ShutString
import Derived.ChangeOld
import Derived.Below
import Derived.SizedLaws
import Derived.Test.YtbgamdkmlikgjaaGreatDoorB7
/- The law FnRunDesk: true at every input; the input reads as it did. No condition. -/
namespace Go.Proofs.YtbgamdkmlikgjaaGreatDoor.fnRunDesk
open Go.ChangeShapes Go.WideShapes Go.ChangeAt Go.RowKit Go.Refl
open Go.ChangeMaps (open_string shut_string)
set_option linter.unusedVariables false
theorem own : ownKnob Tryz.prog.godebug = none := by kernel_rfl
theorem laidOut : laidOutB Tryz.prog = true := by kernel_rfl
set_option maxRecDepth 100000 in
theorem lifted (os : Os) (started : os.Started) (H : Type) (enc : TypeId × Value → H) :
    ReturnsInHanded {} Tryz.checked os 5 .any (fun w args => (Rows.fnRunDeskSpec.pre enc Tryz.prog Tryz.f5 Rows.fnRunDeskRow.domain false w args ∧ laidMetH Tryz.prog Rows.fnRunDeskRow.laid w) ∧ sizedMet enc Tryz.prog Tryz.f5 (OpenSpec.ofChange Rows.fnRunDeskSpec) false w args) (Rows.fnRunDeskSpec.post enc Tryz.prog Tryz.f5 false true false false) := by
  refine returnsInHanded_of_change_and (C := Tryz.checked) (X := fun w _ => laidMetH Tryz.prog Rows.fnRunDeskRow.laid w) (fun _ _ _ hh h => h.of_heap hh) own started (by kernel_rfl) Tryz.func5
    (ChangeSpec.witness_shaped (enc := enc) (C := Tryz.checked) (os := os) (X := fun w _ => laidMetH Tryz.prog Rows.fnRunDeskRow.laid w) false (World.laidAll Tryz.prog os Rows.fnRunDeskRow.laid) #[.slice none 0 0] 8 (World.laidAll_os _ _ _)
      (World.shaped_of_ZipB (by kernel_rfl) (by kernel_rfl)) (by kernel_rfl) (by kernel_rfl) (by kernel_rfl)
      (by rw [MakeChecks.laidMetH_plain _ _ _ (by kernel_rfl)]; exact laidMet_laidAll _ (by kernel_rfl) (by kernel_rfl))) ?_
  intro W base args ds gs before hval0 hW hcnd hsz0 hL _
  have hLP : laidMet Tryz.prog Rows.fnRunDeskRow.laid W := by rw [MakeChecks.laidMetH_plain _ _ _ (by kernel_rfl)] at hL; exact hL
  have hgl : GlRep W (fun b => b < W.heap.size) [Go.Proofs.YtbgamdkmlikgjaaGreatDoorG.g0, Go.Proofs.YtbgamdkmlikgjaaGreatDoorG.g2, Go.Proofs.YtbgamdkmlikgjaaGreatDoorG.g3, Go.Proofs.YtbgamdkmlikgjaaGreatDoorG.g4] := glRep_of (all_cons (gl_texts (name := "loop.example/savingsclub/impl.kindNames") (g := 0) (t := 105) (e := 9) (n := 8) (ss := [⟨#[106, 111, 105, 110]⟩, ⟨#[115, 97, 118, 101]⟩, ⟨#[116, 97, 107, 101]⟩, ⟨#[108, 101, 110, 100]⟩, ⟨#[114, 101, 112, 97, 121]⟩, ⟨#[102, 97, 105, 108]⟩, ⟨#[110, 105, 103, 104, 116]⟩, ⟨#[115, 104, 97, 114, 101]⟩]) hLP (by have e : (Rows.laid_loop_example_savingsclub_impl_kindNames : DataW Unit) = textData ([⟨#[106, 111, 105, 110]⟩, ⟨#[115, 97, 118, 101]⟩, ⟨#[116, 97, 107, 101]⟩, ⟨#[108, 101, 110, 100]⟩, ⟨#[114, 101, 112, 97, 121]⟩, ⟨#[102, 97, 105, 108]⟩, ⟨#[110, 105, 103, 104, 116]⟩, ⟨#[115, 104, 97, 114, 101]⟩] : List ByteArray) := (by kernel_rfl); rw [← e]; exact (.tail _ (.tail _ (.tail _ (.tail _ (.tail _ (.tail _ (.head _)))))))) (by kernel_rfl) (by kernel_rfl) Tryz.underlying105 Tryz.underlying9 (by kernel_rfl) (by kernel_rfl)) (all_cons (gl_ints (name := "internal/strconv.uint64pow10") (g := 2) (t := 175) (e := 154) (n := 20) (k := .u64) (zs := Go.Lib.pow10Tab) hLP (by have e : (Rows.laid_internal_strconv_uint64pow10 : DataW Unit) = Go.Lib.tabData .u64 Go.Lib.pow10Tab := (by kernel_rfl); rw [← e]; exact (.tail _ (.tail _ (.head _)))) (by kernel_rfl) (by kernel_rfl) Tryz.underlying175 Tryz.underlying154 (by kernel_rfl) (by kernel_rfl)) (all_cons (gl_iface (name := "strconv.ErrSyntax") (g := 3) (t := 60) (n := "*errors.errorString") (d := .ptr (.agg [.lit (.string [105, 110, 118, 97, 108, 105, 100, 32, 115, 121, 110, 116, 97, 120])])) hLP (by have e : (Rows.laid_strconv_ErrSyntax : DataW Unit) = .iface "*errors.errorString" (.ptr (.agg [.lit (.string [105, 110, 118, 97, 108, 105, 100, 32, 115, 121, 110, 116, 97, 120])])) := rfl; rw [← e]; exact (.tail _ (.tail _ (.tail _ (.tail _ (.tail _ (.head _))))))) (by kernel_rfl) (by kernel_rfl) Tryz.underlying60) (all_cons (gl_iface (name := "strconv.ErrRange") (g := 4) (t := 60) (n := "*errors.errorString") (d := .ptr (.agg [.lit (.string [118, 97, 108, 117, 101, 32, 111, 117, 116, 32, 111, 102, 32, 114, 97, 110, 103, 101])])) hLP (by have e : (Rows.laid_strconv_ErrRange : DataW Unit) = .iface "*errors.errorString" (.ptr (.agg [.lit (.string [118, 97, 108, 117, 101, 32, 111, 117, 116, 32, 111, 102, 32, 114, 97, 110, 103, 101])])) := rfl; rw [← e]; exact (.tail _ (.tail _ (.tail _ (.tail _ (.head _)))))) (by kernel_rfl) (by kernel_rfl) Tryz.underlying60) (all_nil)))))
  have hval : ∀ (j : Nat) t v, Tryz.f5.params[j]? = some t → args[j]? = some v → Value.okWide Tryz.prog W .any base t v := hval0
  have hW' := hW
  obtain ⟨p, q, hA0, hV, rfl, hfz, hnd⟩ := hW
  have hA : DataW.TrodAll enc Tryz.prog W 0 (fun _ => true) true Tryz.f5.params.toList args.toList ds p := hA0
  rw [Tryz.params5] at hA hval
  obtain ⟨v0, vs0, d0, ds0, p0, q0, hargs, rfl, rfl, h0, r0⟩ := trodAll_cons hA
  obtain ⟨rfl, rfl, rfl⟩ := trodAll_nil r0
  obtain rfl : args = #[v0] := by cases args; simp_all
  obtain ⟨_, _, _, _, dv, _, rfl, _⟩ := trodVars_one hV
  obtain ⟨A0, len0, c0, rfl⟩ := okWide_slice Tryz.underlying22 (hval 0 22 v0 rfl rfl)
  have k0 := h0
  have lt0 : ∀ x ∈ p0, x.block < W.heap.size := by obtain ⟨m, hm⟩ := k0; exact DataW.trod_lt m _ _ _ hm
  obtain ⟨x0, q0r, q0w⟩ := opensT (ty := (.slice (.int .u8))) 12 (by kernel_rfl) k0
  clear hA0 hval0 hsz0
  obtain ⟨n, hn⟩ := Go.Proofs.YtbgamdkmlikgjaaGreatDoorG.FnRunDesk_pure x0 q0w
  refine (law_calls2 (Go.Proofs.YtbgamdkmlikgjaaGreatDoorG.zf53.ok n) hn rfl hgl ⟨_, rfl, ⟨rfl, _, rfl, rfl, q0r⟩⟩).mono fun e W' ⟨he, bel⟩ => ?_
  subst he
  exact ⟨_, rfl, _, _, _, [], _, _, hW', trodAll_mk1 (shut_bool Tryz.underlying4 _), (trodAll_cons_mk (Below.trod laidOut (by kernel_rfl) (of_decide_eq_true (by kernel_rfl)) k0 bel lt0) trodAll_mk0), vars_stay (g := 0) (t := 105) laidOut (by kernel_rfl) (by kernel_rfl) (by kernel_rfl) (of_decide_eq_true (by kernel_rfl)) hV bel, bel.frame _, fun h => by cases h⟩
theorem kk0 : (Rows.fnRunDeskRow.wf (OpenSpec.ofChange Rows.fnRunDeskSpec)) = true := by kernel_rfl
theorem kk1 : (laidOutB Tryz.prog) = true := by kernel_rfl
theorem kk2 : (mapsRowed Tryz.prog) = true := by kernel_rfl
theorem kk3 : (Tryz.f5.params.all (Tryz.prog.readableRec ·)) = true := by kernel_rfl
theorem kk4 : (namedTie Tryz.prog Rows.fnRunDeskRow.named Rows.fnRunDeskSpec.vars) = true := by kernel_rfl
theorem kk5 : (Rows.fnRunDeskRow.stops == []) = true := by kernel_rfl
theorem kk6 : (Tryz.prog.stops == []) = true := by kernel_rfl
theorem kk7 : (Rows.fnRunDeskRow.knobs == []) = true := by kernel_rfl
theorem kk8 : (Tryz.prog.stopKnobs == []) = true := by kernel_rfl
theorem kk9 : (Rows.fnRunDeskRow.inPlace == Tryz.prog.inPlace 5) = true := by kernel_rfl
theorem kk10 : (Rows.fnRunDeskRow.unfollowed == Tryz.prog.unfollowed 5) = true := by kernel_rfl
theorem kk11 : (Rows.fnRunDeskRow.recurses == Tryz.prog.recurses 5) = true := by kernel_rfl
theorem kk12 : (Rows.fnRunDeskRow.named == Tryz.prog.varsNamed 5) = true := by kernel_rfl
theorem kk13 : (Rows.fnRunDeskRow.maps == (Tryz.f5.params.toList ++ Rows.fnRunDeskSpec.plain.varTypes Tryz.prog).any (Tryz.prog.mapsRec ·)) = true := by kernel_rfl
theorem kk14 : (Rows.fnRunDeskRow.ifaces == (Tryz.f5.params.toList ++ Rows.fnRunDeskSpec.plain.varTypes Tryz.prog).any (Tryz.prog.ifacesRec ·)) = true := by kernel_rfl
theorem kk15 : (Rows.fnRunDeskRow.mapsOut == Tryz.prog.mapsAmong Tryz.f5.resultTypes.toList) = true := by kernel_rfl
theorem kk16 : (Rows.fnRunDeskRow.loops == (Tryz.f5.params.toList ++ Rows.fnRunDeskSpec.plain.varTypes Tryz.prog).any (Tryz.prog.loopsFrom ·)) = true := by kernel_rfl
theorem kk17 : (Rows.fnRunDeskRow.wideKeys == (Tryz.f5.params.toList ++ Rows.fnRunDeskSpec.plain.varTypes Tryz.prog ++ Tryz.f5.resultTypes.toList).any (Tryz.prog.wideKeysFrom ·)) = true := by kernel_rfl
theorem kk18 : (Rows.fnRunDeskSpec.vars.all (Tryz.prog.varReadable ·)) = true := by kernel_rfl
theorem kk19 : (Tryz.f5.resultTypes.all (fun t => Tryz.prog.readableRec t && decide (t < Tryz.prog.types.size))) = true := by kernel_rfl
theorem kk20 : (Rows.fnRunDeskRow.ifacesOut == Tryz.f5.resultTypes.toList.any (Tryz.prog.ifacesRec ·)) = true := by kernel_rfl
theorem kk21 : (Rows.fnRunDeskRow.loopsOut == Tryz.f5.resultTypes.toList.any (Tryz.prog.loopsFrom ·)) = true := by kernel_rfl
theorem kk22 : (Rows.fnRunDeskRow.plainKeys == Tryz.prog.plainKeys) = true := by kernel_rfl
theorem kk23 : (Rows.fnRunDeskRow.shortTexts.isNone) = true := by kernel_rfl
theorem kk24 : (Tryz.prog.stopsHeard) = true := by kernel_rfl
theorem kk25 : (Tryz.prog.mayEnter) = true := by kernel_rfl
theorem kk26 : (Rows.fnRunDeskRow.lifted == Tryz.prog.liftsFinal) = true := by kernel_rfl
theorem kk27 : (Tryz.prog.make == some Rows.fnRunDeskRow.make) = true := by kernel_rfl
theorem kk28 : (Rows.fnRunDeskRow.kinds == (if Rows.fnRunDeskRow.domain.isEmpty then [] else Tryz.f5.params.toList.map fun t => match Tryz.prog.underlying t with | some (.int k) => some k | _ => none)) = true := by kernel_rfl
theorem kk29 : (Rows.fnRunDeskRow.pinned == Rows.fnRunDeskRow.pinnedBy) = true := by kernel_rfl
theorem kk30 : (Rows.fnRunDeskRow.veiled == (Tryz.f5.params.toList ++ Rows.fnRunDeskSpec.plain.varTypes Tryz.prog ++ Tryz.f5.resultTypes.toList).any (Tryz.prog.veiledRec ·)) = true := by kernel_rfl
theorem kk31 : (Rows.fnRunDeskRow.veiledFits Tryz.prog Tryz.f5.params.toList (Tryz.f5.params.toList ++ Rows.fnRunDeskSpec.plain.varTypes Tryz.prog ++ Tryz.f5.resultTypes.toList)) = true := by kernel_rfl
theorem and_t {a b : Bool} (h1 : a = true) (h2 : b = true) : (a && b) = true := by rw [h1, h2]; rfl
set_option maxRecDepth 100000 in
theorem closed : joinedFacts Tryz.prog 5 Tryz.f5 Rows.fnRunDeskSpec Rows.fnRunDeskRow = true := by
  unfold joinedFacts
  exact (and_t (and_t (and_t (and_t (and_t (and_t (and_t (and_t (and_t (and_t (and_t (and_t (and_t (and_t (and_t (and_t (and_t (and_t (and_t (and_t (and_t (and_t (and_t (and_t (and_t (and_t (and_t (and_t (and_t (and_t (and_t kk0 kk1) kk2) kk3) kk4) kk5) kk6) kk7) kk8) kk9) kk10) kk11) kk12) kk13) kk14) kk15) kk16) kk17) kk18) kk19) kk20) kk21) kk22) kk23) kk24) kk25) kk26) kk27) kk28) kk29) kk30) kk31)
theorem over : Rows.fnRunDeskRow.holds Tryz.pinned (OpenSpec.ofChange Rows.fnRunDeskSpec) :=
  OpenClaim.holds_of_wide 5 Tryz.f5 rfl rfl rfl rfl rfl rfl rfl ⟨rfl, rfl, rfl, rfl, rfl⟩ rfl rfl rfl rfl rfl (by kernel_rfl) Tryz.func5 closed
    (of_decide_eq_true (by kernel_rfl)) (by unfold Func.isWrapper; first | (rw [if_pos (by decide +kernel)]; kernel_rfl) | (rw [if_neg (by decide +kernel)]; exact ⟨rfl, rfl⟩))
    (fun os started H enc _ => lifted os started H enc)
theorem proved : Rows.FnRunDeskCardSaid :=
  Claim7.holds_tied_plain_at .later [] [.data, .data, .data, .data, .sentinel, .sentinel, .data, .pinned] true (true, "2a59b6fb5ac420366972870534ff188f21cc79fc828d6c84d68bb46873e8b01b") true over (fun _ h => by cases h) (by kernel_rfl) (fun _ h => by cases h) fnRunDesk_row_tie rfl ⟨rfl, rfl⟩ (by kernel_rfl) rfl
    (fun f fn hf hfn => by
      obtain rfl : f = 5 := Option.some.inj ((show Tryz.prog.funcNamed "loop.example/savingsclub/laws.FnRunDesk" = some 5 by kernel_rfl).symm.trans hf) |>.symm
      obtain rfl : fn = Tryz.f5 := (Option.some.inj (Tryz.func5.symm.trans hfn)).symm
      exact ⟨by kernel_rfl, fun j t ht => by
        rw [Tryz.params5] at ht
        have hm : t ∈ [22] := by simpa using Array.mem_of_getElem? ht
        have hall : ([22].all fun u => !Tryz.prog.wantsStandIn u) = true := by kernel_rfl
        exact (show Tryz.prog.wantsStandIn t = false by simpa using List.all_eq_true.1 hall t hm)⟩)
    (by kernel_rfl)
#print axioms proved
end Go.Proofs.YtbgamdkmlikgjaaGreatDoor.fnRunDesk
namespace Go.Proofs.YtbgamdkmlikgjaaGreatDoor
/-- The row, under a short name, for the claim. -/
theorem fnRunDesk_holds : Rows.FnRunDeskCardSaid := fnRunDesk.proved
end Go.Proofs.YtbgamdkmlikgjaaGreatDoor
