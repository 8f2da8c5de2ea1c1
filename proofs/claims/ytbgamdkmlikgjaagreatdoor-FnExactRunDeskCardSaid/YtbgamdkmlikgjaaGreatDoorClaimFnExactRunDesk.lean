import Derived.Test.YtbgamdkmlikgjaaGreatDoorRows
import Derived.Test.YtbgamdkmlikgjaaGreatDoorTie
import Derived.Test.YtbgamdkmlikgjaaGreatDoorCards
import Derived.LaidMore
import Derived.Lay
import Derived.SevenTiedAt
import Derived.Stop.Joined
import Derived.ChangeVars
import Derived.WalkKit
import Derived.ProofKit
import Derived.OpenShut
import Derived.ShutString
import Derived.ChangeOld
import Derived.Below
import Derived.SizedLaws
import Derived.Test.YtbgamdkmlikgjaaGreatDoorB7
/- The law FnExactRunDesk: true at every input; the input reads as it did. No condition. -/
namespace Go.Proofs.YtbgamdkmlikgjaaGreatDoor.fnExactRunDesk
open Go.ChangeShapes Go.WideShapes Go.ChangeAt Go.RowKit Go.Refl
open Go.ChangeMaps (open_string shut_string)
set_option linter.unusedVariables false
theorem own : ownKnob Tryz.prog.godebug = none := by kernel_rfl
theorem laidOut : laidOutB Tryz.prog = true := by kernel_rfl
set_option maxRecDepth 100000 in
theorem lifted (os : Os) (started : os.Started) (H : Type) (enc : TypeId × Value → H) :
    ReturnsInHanded {} Tryz.checked os 4 .any (fun w args => (Rows.fnExactRunDeskSpec.pre enc Tryz.prog Tryz.f4 Rows.fnExactRunDeskRow.domain false w args ∧ laidMetH Tryz.prog Rows.fnExactRunDeskRow.laid w) ∧ sizedMet enc Tryz.prog Tryz.f4 (OpenSpec.ofChange Rows.fnExactRunDeskSpec) false w args) (Rows.fnExactRunDeskSpec.post enc Tryz.prog Tryz.f4 false true false false) := by
  refine returnsInHanded_of_change_and (C := Tryz.checked) (X := fun w _ => laidMetH Tryz.prog Rows.fnExactRunDeskRow.laid w) (fun _ _ _ hh h => h.of_heap hh) own started (by kernel_rfl) Tryz.func4
    (ChangeSpec.witness_shaped (enc := enc) (C := Tryz.checked) (os := os) (X := fun w _ => laidMetH Tryz.prog Rows.fnExactRunDeskRow.laid w) false (World.laidAll Tryz.prog os Rows.fnExactRunDeskRow.laid) #[.agg #[.slice none 0 0, .slice none 0 0, .int .i64 0, .int .i64 0, .int .i64 0], .string ByteArray.empty, .slice none 0 0] 8 (World.laidAll_os _ _ _)
      (World.shaped_of_ZipB (by kernel_rfl) (by kernel_rfl)) (by kernel_rfl) (by kernel_rfl) (by kernel_rfl)
      (by rw [MakeChecks.laidMetH_plain _ _ _ (by kernel_rfl)]; exact laidMet_laidAll _ (by kernel_rfl) (by kernel_rfl))) ?_
  intro W base args ds gs before hval0 hW hcnd hsz0 hL _
  have hLP : laidMet Tryz.prog Rows.fnExactRunDeskRow.laid W := by rw [MakeChecks.laidMetH_plain _ _ _ (by kernel_rfl)] at hL; exact hL
  have hgl : GlRep W (fun b => b < W.heap.size) [Go.Proofs.YtbgamdkmlikgjaaGreatDoorG.g0, Go.Proofs.YtbgamdkmlikgjaaGreatDoorG.g2, Go.Proofs.YtbgamdkmlikgjaaGreatDoorG.g3, Go.Proofs.YtbgamdkmlikgjaaGreatDoorG.g4] := glRep_of (all_cons (gl_texts (name := "loop.example/savingsclub/impl.kindNames") (g := 0) (t := 105) (e := 9) (n := 8) (ss := [⟨#[106, 111, 105, 110]⟩, ⟨#[115, 97, 118, 101]⟩, ⟨#[116, 97, 107, 101]⟩, ⟨#[108, 101, 110, 100]⟩, ⟨#[114, 101, 112, 97, 121]⟩, ⟨#[102, 97, 105, 108]⟩, ⟨#[110, 105, 103, 104, 116]⟩, ⟨#[115, 104, 97, 114, 101]⟩]) hLP (by have e : (Rows.laid_loop_example_savingsclub_impl_kindNames : DataW Unit) = textData ([⟨#[106, 111, 105, 110]⟩, ⟨#[115, 97, 118, 101]⟩, ⟨#[116, 97, 107, 101]⟩, ⟨#[108, 101, 110, 100]⟩, ⟨#[114, 101, 112, 97, 121]⟩, ⟨#[102, 97, 105, 108]⟩, ⟨#[110, 105, 103, 104, 116]⟩, ⟨#[115, 104, 97, 114, 101]⟩] : List ByteArray) := (by kernel_rfl); rw [← e]; exact (.tail _ (.tail _ (.tail _ (.tail _ (.tail _ (.tail _ (.head _)))))))) (by kernel_rfl) (by kernel_rfl) Tryz.underlying105 Tryz.underlying9 (by kernel_rfl) (by kernel_rfl)) (all_cons (gl_ints (name := "internal/strconv.uint64pow10") (g := 2) (t := 175) (e := 154) (n := 20) (k := .u64) (zs := Go.Lib.pow10Tab) hLP (by have e : (Rows.laid_internal_strconv_uint64pow10 : DataW Unit) = Go.Lib.tabData .u64 Go.Lib.pow10Tab := (by kernel_rfl); rw [← e]; exact (.tail _ (.tail _ (.head _)))) (by kernel_rfl) (by kernel_rfl) Tryz.underlying175 Tryz.underlying154 (by kernel_rfl) (by kernel_rfl)) (all_cons (gl_iface (name := "strconv.ErrSyntax") (g := 3) (t := 60) (n := "*errors.errorString") (d := .ptr (.agg [.lit (.string [105, 110, 118, 97, 108, 105, 100, 32, 115, 121, 110, 116, 97, 120])])) hLP (by have e : (Rows.laid_strconv_ErrSyntax : DataW Unit) = .iface "*errors.errorString" (.ptr (.agg [.lit (.string [105, 110, 118, 97, 108, 105, 100, 32, 115, 121, 110, 116, 97, 120])])) := rfl; rw [← e]; exact (.tail _ (.tail _ (.tail _ (.tail _ (.tail _ (.head _))))))) (by kernel_rfl) (by kernel_rfl) Tryz.underlying60) (all_cons (gl_iface (name := "strconv.ErrRange") (g := 4) (t := 60) (n := "*errors.errorString") (d := .ptr (.agg [.lit (.string [118, 97, 108, 117, 101, 32, 111, 117, 116, 32, 111, 102, 32, 114, 97, 110, 103, 101])])) hLP (by have e : (Rows.laid_strconv_ErrRange : DataW Unit) = .iface "*errors.errorString" (.ptr (.agg [.lit (.string [118, 97, 108, 117, 101, 32, 111, 117, 116, 32, 111, 102, 32, 114, 97, 110, 103, 101])])) := rfl; rw [← e]; exact (.tail _ (.tail _ (.tail _ (.tail _ (.head _)))))) (by kernel_rfl) (by kernel_rfl) Tryz.underlying60) (all_nil)))))
  have hval : ∀ (j : Nat) t v, Tryz.f4.params[j]? = some t → args[j]? = some v → Value.okWide Tryz.prog W .any base t v := hval0
  have hW' := hW
  obtain ⟨p, q, hA0, hV, rfl, hfz, hnd⟩ := hW
  have hA : DataW.TrodAll enc Tryz.prog W 0 (fun _ => true) true Tryz.f4.params.toList args.toList ds p := hA0
  rw [Tryz.params4] at hA hval
  obtain ⟨v0, vs0, d0, ds0, p0, q0, hargs, rfl, rfl, h0, r0⟩ := trodAll_cons hA
  obtain ⟨v1, vs1, d1, ds1, p1, q1, rfl, rfl, rfl, h1, r1⟩ := trodAll_cons r0
  obtain ⟨v2, vs2, d2, ds2, p2, q2, rfl, rfl, rfl, h2, r2⟩ := trodAll_cons r1
  obtain ⟨rfl, rfl, rfl⟩ := trodAll_nil r2
  obtain rfl : args = #[v0, v1, v2] := by cases args; simp_all
  obtain ⟨_, _, _, _, dv, _, rfl, _⟩ := trodVars_one hV
  obtain ⟨cs0, rfl, _⟩ := okWide_struct Tryz.underlying41 (hval 0 41 v0 rfl rfl)
  have k0 := h0
  have lt0 : ∀ x ∈ p0, x.block < W.heap.size := by obtain ⟨m, hm⟩ := k0; exact DataW.trod_lt m _ _ _ hm
  obtain ⟨x0, q0r, q0w⟩ := opensT (ty := (.pair (.slice (.int .i64)) (.pair (.slice (.pair (.int .i64) (.pair (.int .i64) (.slice (.int .i64))))) (.pair (.int .i64) (.pair (.int .i64) (.int .i64)))))) 12 (by kernel_rfl) k0
  obtain ⟨s1, rfl⟩ := okWide_string Tryz.underlying9 (hval 1 9 v1 rfl rfl)
  have k1 := h1
  have lt1 : ∀ x ∈ p1, x.block < W.heap.size := by obtain ⟨m, hm⟩ := k1; exact DataW.trod_lt m _ _ _ hm
  obtain ⟨x1, q1r, q1w⟩ := opensT (ty := .str) 12 (by kernel_rfl) k1
  obtain ⟨A2, len2, c2, rfl⟩ := okWide_slice Tryz.underlying27 (hval 2 27 v2 rfl rfl)
  have k2 := h2
  have lt2 : ∀ x ∈ p2, x.block < W.heap.size := by obtain ⟨m, hm⟩ := k2; exact DataW.trod_lt m _ _ _ hm
  obtain ⟨x2, q2r, q2w⟩ := opensT (ty := (.slice .str)) 12 (by kernel_rfl) k2
  clear hA0 hval0 hsz0
  obtain ⟨n, hn⟩ := Go.Proofs.YtbgamdkmlikgjaaGreatDoorG.FnExactRunDesk_pure x0 x1 x2 q0w q1w q2w
  refine (law_calls2 (Go.Proofs.YtbgamdkmlikgjaaGreatDoorG.zf53.ok n) hn rfl hgl ⟨_, _, [], [], [], [], rfl, rfl, rfl, ⟨rfl, _, rfl, rfl, q0r⟩, ⟨_, _, [], [], [], [], rfl, rfl, rfl, ⟨rfl, _, rfl, rfl, q1r⟩, ⟨_, rfl, ⟨rfl, _, rfl, rfl, q2r⟩⟩⟩⟩).mono fun e W' ⟨he, bel⟩ => ?_
  subst he
  exact ⟨_, rfl, _, _, _, [], _, _, hW', trodAll_mk1 (shut_bool Tryz.underlying4 _), (trodAll_cons_mk (Below.trod laidOut (by kernel_rfl) (of_decide_eq_true (by kernel_rfl)) k0 bel lt0) (trodAll_cons_mk (Below.trod laidOut (by kernel_rfl) (of_decide_eq_true (by kernel_rfl)) k1 bel lt1) (trodAll_cons_mk (Below.trod laidOut (by kernel_rfl) (of_decide_eq_true (by kernel_rfl)) k2 bel lt2) trodAll_mk0))), vars_stay (g := 0) (t := 105) laidOut (by kernel_rfl) (by kernel_rfl) (by kernel_rfl) (of_decide_eq_true (by kernel_rfl)) hV bel, bel.frame _, fun h => by cases h⟩
theorem kk0 : (Rows.fnExactRunDeskRow.wf (OpenSpec.ofChange Rows.fnExactRunDeskSpec)) = true := by kernel_rfl
theorem kk1 : (laidOutB Tryz.prog) = true := by kernel_rfl
theorem kk2 : (mapsRowed Tryz.prog) = true := by kernel_rfl
theorem kk3 : (Tryz.f4.params.all (Tryz.prog.readableRec ·)) = true := by kernel_rfl
theorem kk4 : (namedTie Tryz.prog Rows.fnExactRunDeskRow.named Rows.fnExactRunDeskSpec.vars) = true := by kernel_rfl
theorem kk5 : (Rows.fnExactRunDeskRow.stops == []) = true := by kernel_rfl
theorem kk6 : (Tryz.prog.stops == []) = true := by kernel_rfl
theorem kk7 : (Rows.fnExactRunDeskRow.knobs == []) = true := by kernel_rfl
theorem kk8 : (Tryz.prog.stopKnobs == []) = true := by kernel_rfl
theorem kk9 : (Rows.fnExactRunDeskRow.inPlace == Tryz.prog.inPlace 4) = true := by kernel_rfl
theorem kk10 : (Rows.fnExactRunDeskRow.unfollowed == Tryz.prog.unfollowed 4) = true := by kernel_rfl
theorem kk11 : (Rows.fnExactRunDeskRow.recurses == Tryz.prog.recurses 4) = true := by kernel_rfl
theorem kk12 : (Rows.fnExactRunDeskRow.named == Tryz.prog.varsNamed 4) = true := by kernel_rfl
theorem kk13 : (Rows.fnExactRunDeskRow.maps == (Tryz.f4.params.toList ++ Rows.fnExactRunDeskSpec.plain.varTypes Tryz.prog).any (Tryz.prog.mapsRec ·)) = true := by kernel_rfl
theorem kk14 : (Rows.fnExactRunDeskRow.ifaces == (Tryz.f4.params.toList ++ Rows.fnExactRunDeskSpec.plain.varTypes Tryz.prog).any (Tryz.prog.ifacesRec ·)) = true := by kernel_rfl
theorem kk15 : (Rows.fnExactRunDeskRow.mapsOut == Tryz.prog.mapsAmong Tryz.f4.resultTypes.toList) = true := by kernel_rfl
theorem kk16 : (Rows.fnExactRunDeskRow.loops == (Tryz.f4.params.toList ++ Rows.fnExactRunDeskSpec.plain.varTypes Tryz.prog).any (Tryz.prog.loopsFrom ·)) = true := by kernel_rfl
theorem kk17 : (Rows.fnExactRunDeskRow.wideKeys == (Tryz.f4.params.toList ++ Rows.fnExactRunDeskSpec.plain.varTypes Tryz.prog ++ Tryz.f4.resultTypes.toList).any (Tryz.prog.wideKeysFrom ·)) = true := by kernel_rfl
theorem kk18 : (Rows.fnExactRunDeskSpec.vars.all (Tryz.prog.varReadable ·)) = true := by kernel_rfl
theorem kk19 : (Tryz.f4.resultTypes.all (fun t => Tryz.prog.readableRec t && decide (t < Tryz.prog.types.size))) = true := by kernel_rfl
theorem kk20 : (Rows.fnExactRunDeskRow.ifacesOut == Tryz.f4.resultTypes.toList.any (Tryz.prog.ifacesRec ·)) = true := by kernel_rfl
theorem kk21 : (Rows.fnExactRunDeskRow.loopsOut == Tryz.f4.resultTypes.toList.any (Tryz.prog.loopsFrom ·)) = true := by kernel_rfl
theorem kk22 : (Rows.fnExactRunDeskRow.plainKeys == Tryz.prog.plainKeys) = true := by kernel_rfl
theorem kk23 : (Rows.fnExactRunDeskRow.shortTexts.isNone) = true := by kernel_rfl
theorem kk24 : (Tryz.prog.stopsHeard) = true := by kernel_rfl
theorem kk25 : (Tryz.prog.mayEnter) = true := by kernel_rfl
theorem kk26 : (Rows.fnExactRunDeskRow.lifted == Tryz.prog.liftsFinal) = true := by kernel_rfl
theorem kk27 : (Tryz.prog.make == some Rows.fnExactRunDeskRow.make) = true := by kernel_rfl
theorem kk28 : (Rows.fnExactRunDeskRow.kinds == (if Rows.fnExactRunDeskRow.domain.isEmpty then [] else Tryz.f4.params.toList.map fun t => match Tryz.prog.underlying t with | some (.int k) => some k | _ => none)) = true := by kernel_rfl
theorem kk29 : (Rows.fnExactRunDeskRow.pinned == Rows.fnExactRunDeskRow.pinnedBy) = true := by kernel_rfl
theorem kk30 : (Rows.fnExactRunDeskRow.veiled == (Tryz.f4.params.toList ++ Rows.fnExactRunDeskSpec.plain.varTypes Tryz.prog ++ Tryz.f4.resultTypes.toList).any (Tryz.prog.veiledRec ·)) = true := by kernel_rfl
theorem kk31 : (Rows.fnExactRunDeskRow.veiledFits Tryz.prog Tryz.f4.params.toList (Tryz.f4.params.toList ++ Rows.fnExactRunDeskSpec.plain.varTypes Tryz.prog ++ Tryz.f4.resultTypes.toList)) = true := by kernel_rfl
theorem and_t {a b : Bool} (h1 : a = true) (h2 : b = true) : (a && b) = true := by rw [h1, h2]; rfl
set_option maxRecDepth 100000 in
theorem closed : joinedFacts Tryz.prog 4 Tryz.f4 Rows.fnExactRunDeskSpec Rows.fnExactRunDeskRow = true := by
  unfold joinedFacts
  exact (and_t (and_t (and_t (and_t (and_t (and_t (and_t (and_t (and_t (and_t (and_t (and_t (and_t (and_t (and_t (and_t (and_t (and_t (and_t (and_t (and_t (and_t (and_t (and_t (and_t (and_t (and_t (and_t (and_t (and_t (and_t kk0 kk1) kk2) kk3) kk4) kk5) kk6) kk7) kk8) kk9) kk10) kk11) kk12) kk13) kk14) kk15) kk16) kk17) kk18) kk19) kk20) kk21) kk22) kk23) kk24) kk25) kk26) kk27) kk28) kk29) kk30) kk31)
theorem over : Rows.fnExactRunDeskRow.holds Tryz.pinned (OpenSpec.ofChange Rows.fnExactRunDeskSpec) :=
  OpenClaim.holds_of_wide 4 Tryz.f4 rfl rfl rfl rfl rfl rfl rfl ⟨rfl, rfl, rfl, rfl, rfl⟩ rfl rfl rfl rfl rfl (by kernel_rfl) Tryz.func4 closed
    (of_decide_eq_true (by kernel_rfl)) (by unfold Func.isWrapper; first | (rw [if_pos (by decide +kernel)]; kernel_rfl) | (rw [if_neg (by decide +kernel)]; exact ⟨rfl, rfl⟩))
    (fun os started H enc _ => lifted os started H enc)
theorem proved : Rows.FnExactRunDeskCardSaid :=
  Claim7.holds_tied_plain_at .later [] [.data, .data, .data, .data, .sentinel, .sentinel, .data, .pinned] true (true, "2a59b6fb5ac420366972870534ff188f21cc79fc828d6c84d68bb46873e8b01b") true over (fun _ h => by cases h) (by kernel_rfl) (fun _ h => by cases h) fnExactRunDesk_row_tie rfl ⟨rfl, rfl⟩ (by kernel_rfl) rfl
    (fun f fn hf hfn => by
      obtain rfl : f = 4 := Option.some.inj ((show Tryz.prog.funcNamed "loop.example/savingsclub/laws.FnExactRunDesk" = some 4 by kernel_rfl).symm.trans hf) |>.symm
      obtain rfl : fn = Tryz.f4 := (Option.some.inj (Tryz.func4.symm.trans hfn)).symm
      exact ⟨by kernel_rfl, fun j t ht => by
        rw [Tryz.params4] at ht
        have hm : t ∈ [41, 9, 27] := by simpa using Array.mem_of_getElem? ht
        have hall : ([41, 9, 27].all fun u => !Tryz.prog.wantsStandIn u) = true := by kernel_rfl
        exact (show Tryz.prog.wantsStandIn t = false by simpa using List.all_eq_true.1 hall t hm)⟩)
    (by kernel_rfl)
#print axioms proved
end Go.Proofs.YtbgamdkmlikgjaaGreatDoor.fnExactRunDesk
namespace Go.Proofs.YtbgamdkmlikgjaaGreatDoor
/-- The row, under a short name, for the claim. -/
theorem fnExactRunDesk_holds : Rows.FnExactRunDeskCardSaid := fnExactRunDesk.proved
end Go.Proofs.YtbgamdkmlikgjaaGreatDoor
