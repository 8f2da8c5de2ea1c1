import Derived.Test.YtpgfkoeodhfkgaaDoorRows
import Derived.Test.YtpgfkoeodhfkgaaDoorTie
import Derived.Test.YtpgfkoeodhfkgaaDoorCards
import Derived.LaidMore
import Derived.Lay
import Derived.SevenTiedAt
import Derived.Stop.Joined
import Derived.ChangeVars
import Derived.WalkKit
import Derived.ProofKit
import Derived.OpenShut
import Derived.ShutString
import Derived.ChangeOld
import Derived.Below
import Derived.SizedLaws
import Derived.Test.YtpgfkoeodhfkgaaDoorB5
/- The law FnExactParseEvent: true at every input; the input reads as it did. No condition. -/
namespace Go.Proofs.YtpgfkoeodhfkgaaDoor.fnExactParseEvent
open Go.ChangeShapes Go.WideShapes Go.ChangeAt Go.RowKit Go.Refl
open Go.ChangeMaps (open_string shut_string)
set_option linter.unusedVariables false
theorem own : ownKnob Tryd.prog.godebug = none := by kernel_rfl
theorem laidOut : laidOutB Tryd.prog = true := by kernel_rfl
set_option maxRecDepth 100000 in
theorem lifted (os : Os) (started : os.Started) (H : Type) (enc : TypeId × Value → H) :
    ReturnsInHanded {} Tryd.checked os 9 .any (fun w args => (Rows.fnExactParseEventSpec.pre enc Tryd.prog Tryd.f9 Rows.fnExactParseEventRow.domain false w args ∧ laidMetH Tryd.prog Rows.fnExactParseEventRow.laid w) ∧ sizedMet enc Tryd.prog Tryd.f9 (OpenSpec.ofChange Rows.fnExactParseEventSpec) false w args) (Rows.fnExactParseEventSpec.post enc Tryd.prog Tryd.f9 false true false false) := by
  refine returnsInHanded_of_change_and (C := Tryd.checked) (X := fun w _ => laidMetH Tryd.prog Rows.fnExactParseEventRow.laid w) (fun _ _ _ hh h => h.of_heap hh) own started (by kernel_rfl) Tryd.func9
    (ChangeSpec.witness_shaped (enc := enc) (C := Tryd.checked) (os := os) (X := fun w _ => laidMetH Tryd.prog Rows.fnExactParseEventRow.laid w) false (World.laidAll Tryd.prog os Rows.fnExactParseEventRow.laid) #[.string ByteArray.empty] 8 (World.laidAll_os _ _ _)
      (World.shaped_of_ZipB (by kernel_rfl) (by kernel_rfl)) (by kernel_rfl) (by kernel_rfl) (by kernel_rfl)
      (by rw [MakeChecks.laidMetH_plain _ _ _ (by kernel_rfl)]; exact laidMet_laidAll _ (by kernel_rfl) (by kernel_rfl))) ?_
  intro W base args ds gs before hval0 hW hcnd hsz0 hL _
  have hLP : laidMet Tryd.prog Rows.fnExactParseEventRow.laid W := by rw [MakeChecks.laidMetH_plain _ _ _ (by kernel_rfl)] at hL; exact hL
  have hgl : GlRep W (fun b => b < W.heap.size) [Go.Proofs.YtpgfkoeodhfkgaaDoorG.g0, Go.Proofs.YtpgfkoeodhfkgaaDoorG.g2, Go.Proofs.YtpgfkoeodhfkgaaDoorG.g3, Go.Proofs.YtpgfkoeodhfkgaaDoorG.g4] := glRep_of (all_cons (gl_texts (name := "loop.example/savingsclub/impl.kindNames") (g := 0) (t := 84) (e := 9) (n := 8) (ss := [⟨#[106, 111, 105, 110]⟩, ⟨#[115, 97, 118, 101]⟩, ⟨#[116, 97, 107, 101]⟩, ⟨#[108, 101, 110, 100]⟩, ⟨#[114, 101, 112, 97, 121]⟩, ⟨#[102, 97, 105, 108]⟩, ⟨#[110, 105, 103, 104, 116]⟩, ⟨#[115, 104, 97, 114, 101]⟩]) hLP (by have e : (Rows.laid_loop_example_savingsclub_impl_kindNames : DataW Unit) = textData ([⟨#[106, 111, 105, 110]⟩, ⟨#[115, 97, 118, 101]⟩, ⟨#[116, 97, 107, 101]⟩, ⟨#[108, 101, 110, 100]⟩, ⟨#[114, 101, 112, 97, 121]⟩, ⟨#[102, 97, 105, 108]⟩, ⟨#[110, 105, 103, 104, 116]⟩, ⟨#[115, 104, 97, 114, 101]⟩] : List ByteArray) := (by kernel_rfl); rw [← e]; exact (.tail _ (.tail _ (.tail _ (.tail _ (.tail _ (.tail _ (.head _)))))))) (by kernel_rfl) (by kernel_rfl) Tryd.underlying84 Tryd.underlying9 (by kernel_rfl) (by kernel_rfl)) (all_cons (gl_ints (name := "internal/strconv.uint64pow10") (g := 2) (t := 141) (e := 126) (n := 20) (k := .u64) (zs := Go.Lib.pow10Tab) hLP (by have e : (Rows.laid_internal_strconv_uint64pow10 : DataW Unit) = Go.Lib.tabData .u64 Go.Lib.pow10Tab := (by kernel_rfl); rw [← e]; exact (.tail _ (.tail _ (.head _)))) (by kernel_rfl) (by kernel_rfl) Tryd.underlying141 Tryd.underlying126 (by kernel_rfl) (by kernel_rfl)) (all_cons (gl_iface (name := "strconv.ErrSyntax") (g := 3) (t := 73) (n := "*errors.errorString") (d := .ptr (.agg [.lit (.string [105, 110, 118, 97, 108, 105, 100, 32, 115, 121, 110, 116, 97, 120])])) hLP (by have e : (Rows.laid_strconv_ErrSyntax : DataW Unit) = .iface "*errors.errorString" (.ptr (.agg [.lit (.string [105, 110, 118, 97, 108, 105, 100, 32, 115, 121, 110, 116, 97, 120])])) := rfl; rw [← e]; exact (.tail _ (.tail _ (.tail _ (.tail _ (.tail _ (.head _))))))) (by kernel_rfl) (by kernel_rfl) Tryd.underlying73) (all_cons (gl_iface (name := "strconv.ErrRange") (g := 4) (t := 73) (n := "*errors.errorString") (d := .ptr (.agg [.lit (.string [118, 97, 108, 117, 101, 32, 111, 117, 116, 32, 111, 102, 32, 114, 97, 110, 103, 101])])) hLP (by have e : (Rows.laid_strconv_ErrRange : DataW Unit) = .iface "*errors.errorString" (.ptr (.agg [.lit (.string [118, 97, 108, 117, 101, 32, 111, 117, 116, 32, 111, 102, 32, 114, 97, 110, 103, 101])])) := rfl; rw [← e]; exact (.tail _ (.tail _ (.tail _ (.tail _ (.head _)))))) (by kernel_rfl) (by kernel_rfl) Tryd.underlying73) (all_nil)))))
  have hval : ∀ (j : Nat) t v, Tryd.f9.params[j]? = some t → args[j]? = some v → Value.okWide Tryd.prog W .any base t v := hval0
  have hW' := hW
  obtain ⟨p, q, hA0, hV, rfl, hfz, hnd⟩ := hW
  have hA : DataW.TrodAll enc Tryd.prog W 0 (fun _ => true) true Tryd.f9.params.toList args.toList ds p := hA0
  rw [Tryd.params9] at hA hval
  obtain ⟨v0, vs0, d0, ds0, p0, q0, hargs, rfl, rfl, h0, r0⟩ := trodAll_cons hA
  obtain ⟨rfl, rfl, rfl⟩ := trodAll_nil r0
  obtain rfl : args = #[v0] := by cases args; simp_all
  obtain ⟨_, _, _, _, dv, _, rfl, _⟩ := trodVars_one hV
  obtain ⟨s0, rfl⟩ := okWide_string Tryd.underlying9 (hval 0 9 v0 rfl rfl)
  have k0 := h0
  have lt0 : ∀ x ∈ p0, x.block < W.heap.size := by obtain ⟨m, hm⟩ := k0; exact DataW.trod_lt m _ _ _ hm
  obtain ⟨x0, q0r, q0w⟩ := opensT (ty := .str) 12 (by kernel_rfl) k0
  clear hA0 hval0 hsz0
  obtain ⟨n, hn⟩ := Go.Proofs.YtpgfkoeodhfkgaaDoorG.FnExactParseEvent_pure x0 q0w
  refine (law_calls2 (Go.Proofs.YtpgfkoeodhfkgaaDoorG.laws_FnExactParseEvent.ok n) hn rfl hgl ⟨_, rfl, ⟨rfl, _, rfl, rfl, q0r⟩⟩).mono fun e W' ⟨he, bel⟩ => ?_
  subst he
  exact ⟨_, rfl, _, _, _, [], _, _, hW', trodAll_mk1 (shut_bool Tryd.underlying4 _), (trodAll_cons_mk (Below.trod laidOut (by kernel_rfl) (of_decide_eq_true (by kernel_rfl)) k0 bel lt0) trodAll_mk0), vars_stay (g := 0) (t := 84) laidOut (by kernel_rfl) (by kernel_rfl) (by kernel_rfl) (of_decide_eq_true (by kernel_rfl)) hV bel, bel.frame _, fun h => by cases h⟩
theorem kk0 : (Rows.fnExactParseEventRow.wf (OpenSpec.ofChange Rows.fnExactParseEventSpec)) = true := by kernel_rfl
theorem kk1 : (laidOutB Tryd.prog) = true := by kernel_rfl
theorem kk2 : (mapsRowed Tryd.prog) = true := by kernel_rfl
theorem kk3 : (Tryd.f9.params.all (Tryd.prog.readableRec ·)) = true := by kernel_rfl
theorem kk4 : (namedTie Tryd.prog Rows.fnExactParseEventRow.named Rows.fnExactParseEventSpec.vars) = true := by kernel_rfl
theorem kk5 : (Rows.fnExactParseEventRow.stops == []) = true := by kernel_rfl
theorem kk6 : (Tryd.prog.stops == []) = true := by kernel_rfl
theorem kk7 : (Rows.fnExactParseEventRow.knobs == []) = true := by kernel_rfl
theorem kk8 : (Tryd.prog.stopKnobs == []) = true := by kernel_rfl
theorem kk9 : (Rows.fnExactParseEventRow.inPlace == Tryd.prog.inPlace 9) = true := by kernel_rfl
theorem kk10 : (Rows.fnExactParseEventRow.unfollowed == Tryd.prog.unfollowed 9) = true := by kernel_rfl
theorem kk11 : (Rows.fnExactParseEventRow.recurses == Tryd.prog.recurses 9) = true := by kernel_rfl
theorem kk12 : (Rows.fnExactParseEventRow.named == Tryd.prog.varsNamed 9) = true := by kernel_rfl
theorem kk13 : (Rows.fnExactParseEventRow.maps == (Tryd.f9.params.toList ++ Rows.fnExactParseEventSpec.plain.varTypes Tryd.prog).any (Tryd.prog.mapsRec ·)) = true := by kernel_rfl
theorem kk14 : (Rows.fnExactParseEventRow.ifaces == (Tryd.f9.params.toList ++ Rows.fnExactParseEventSpec.plain.varTypes Tryd.prog).any (Tryd.prog.ifacesRec ·)) = true := by kernel_rfl
theorem kk15 : (Rows.fnExactParseEventRow.mapsOut == Tryd.prog.mapsAmong Tryd.f9.resultTypes.toList) = true := by kernel_rfl
theorem kk16 : (Rows.fnExactParseEventRow.loops == (Tryd.f9.params.toList ++ Rows.fnExactParseEventSpec.plain.varTypes Tryd.prog).any (Tryd.prog.loopsFrom ·)) = true := by kernel_rfl
theorem kk17 : (Rows.fnExactParseEventRow.wideKeys == (Tryd.f9.params.toList ++ Rows.fnExactParseEventSpec.plain.varTypes Tryd.prog ++ Tryd.f9.resultTypes.toList).any (Tryd.prog.wideKeysFrom ·)) = true := by kernel_rfl
theorem kk18 : (Rows.fnExactParseEventSpec.vars.all (Tryd.prog.varReadable ·)) = true := by kernel_rfl
theorem kk19 : (Tryd.f9.resultTypes.all (fun t => Tryd.prog.readableRec t && decide (t < Tryd.prog.types.size))) = true := by kernel_rfl
theorem kk20 : (Rows.fnExactParseEventRow.ifacesOut == Tryd.f9.resultTypes.toList.any (Tryd.prog.ifacesRec ·)) = true := by kernel_rfl
theorem kk21 : (Rows.fnExactParseEventRow.loopsOut == Tryd.f9.resultTypes.toList.any (Tryd.prog.loopsFrom ·)) = true := by kernel_rfl
theorem kk22 : (Rows.fnExactParseEventRow.plainKeys == Tryd.prog.plainKeys) = true := by kernel_rfl
theorem kk23 : (Rows.fnExactParseEventRow.shortTexts.isNone) = true := by kernel_rfl
theorem kk24 : (Tryd.prog.stopsHeard) = true := by kernel_rfl
theorem kk25 : (Tryd.prog.mayEnter) = true := by kernel_rfl
theorem kk26 : (Rows.fnExactParseEventRow.lifted == Tryd.prog.liftsFinal) = true := by kernel_rfl
theorem kk27 : (Tryd.prog.make == some Rows.fnExactParseEventRow.make) = true := by kernel_rfl
theorem kk28 : (Rows.fnExactParseEventRow.kinds == (if Rows.fnExactParseEventRow.domain.isEmpty then [] else Tryd.f9.params.toList.map fun t => match Tryd.prog.underlying t with | some (.int k) => some k | _ => none)) = true := by kernel_rfl
theorem kk29 : (Rows.fnExactParseEventRow.pinned == Rows.fnExactParseEventRow.pinnedBy) = true := by kernel_rfl
theorem kk30 : (Rows.fnExactParseEventRow.veiled == (Tryd.f9.params.toList ++ Rows.fnExactParseEventSpec.plain.varTypes Tryd.prog ++ Tryd.f9.resultTypes.toList).any (Tryd.prog.veiledRec ·)) = true := by kernel_rfl
theorem kk31 : (Rows.fnExactParseEventRow.veiledFits Tryd.prog Tryd.f9.params.toList (Tryd.f9.params.toList ++ Rows.fnExactParseEventSpec.plain.varTypes Tryd.prog ++ Tryd.f9.resultTypes.toList)) = true := by kernel_rfl
theorem and_t {a b : Bool} (h1 : a = true) (h2 : b = true) : (a && b) = true := by rw [h1, h2]; rfl
set_option maxRecDepth 100000 in
theorem closed : joinedFacts Tryd.prog 9 Tryd.f9 Rows.fnExactParseEventSpec Rows.fnExactParseEventRow = true := by
  unfold joinedFacts
  exact (and_t (and_t (and_t (and_t (and_t (and_t (and_t (and_t (and_t (and_t (and_t (and_t (and_t (and_t (and_t (and_t (and_t (and_t (and_t (and_t (and_t (and_t (and_t (and_t (and_t (and_t (and_t (and_t (and_t (and_t (and_t kk0 kk1) kk2) kk3) kk4) kk5) kk6) kk7) kk8) kk9) kk10) kk11) kk12) kk13) kk14) kk15) kk16) kk17) kk18) kk19) kk20) kk21) kk22) kk23) kk24) kk25) kk26) kk27) kk28) kk29) kk30) kk31)
theorem over : Rows.fnExactParseEventRow.holds Tryd.pinned (OpenSpec.ofChange Rows.fnExactParseEventSpec) :=
  OpenClaim.holds_of_wide 9 Tryd.f9 rfl rfl rfl rfl rfl rfl rfl ⟨rfl, rfl, rfl, rfl, rfl⟩ rfl rfl rfl rfl rfl (by kernel_rfl) Tryd.func9 closed
    (of_decide_eq_true (by kernel_rfl)) (by unfold Func.isWrapper; first | (rw [if_pos (by decide +kernel)]; kernel_rfl) | (rw [if_neg (by decide +kernel)]; exact ⟨rfl, rfl⟩))
    (fun os started H enc _ => lifted os started H enc)
theorem proved : Rows.FnExactParseEventCardSaid :=
  Claim7.holds_tied_plain_at .later [] [.data, .data, .data, .data, .sentinel, .sentinel, .data, .pinned] true (true, "04a46361756db0c9432b0472dc365dcf107720a0b46d4329014c0bd9cf6f8cf6") true over (fun _ h => by cases h) (by kernel_rfl) (fun _ h => by cases h) fnExactParseEvent_row_tie rfl ⟨rfl, rfl⟩ (by kernel_rfl) rfl
    (fun f fn hf hfn => by
      obtain rfl : f = 9 := Option.some.inj ((show Tryd.prog.funcNamed "loop.example/savingsclub/laws.FnExactParseEvent" = some 9 by kernel_rfl).symm.trans hf) |>.symm
      obtain rfl : fn = Tryd.f9 := (Option.some.inj (Tryd.func9.symm.trans hfn)).symm
      exact ⟨by kernel_rfl, fun j t ht => by
        rw [Tryd.params9] at ht
        have hm : t ∈ [9] := by simpa using Array.mem_of_getElem? ht
        have hall : ([9].all fun u => !Tryd.prog.wantsStandIn u) = true := by kernel_rfl
        exact (show Tryd.prog.wantsStandIn t = false by simpa using List.all_eq_true.1 hall t hm)⟩)
    (by kernel_rfl)
#print axioms proved
end Go.Proofs.YtpgfkoeodhfkgaaDoor.fnExactParseEvent
namespace Go.Proofs.YtpgfkoeodhfkgaaDoor
/-- The row, under a short name, for the claim. -/
theorem fnExactParseEvent_holds : Rows.FnExactParseEventCardSaid := fnExactParseEvent.proved
end Go.Proofs.YtpgfkoeodhfkgaaDoor
